/- Walk of bind: use of a name. -/
import Derived.Maps.OwnIn
import Derived.Test.YtdlbhiaceheffabGreatDoorE34
set_option linter.all false
set_option maxRecDepth 100000
set_option maxHeartbeats 8000000
namespace Go.Proofs.YtdlbhiaceheffabGreatDoor
open Go Go.RowKit Ty Tok Prt Tryz Proofs.Tryz
section
open Prt (Sat As av bX cm star ah Hp le qL hp SatF AU low)
open Ty (Frm Vg aN kF eR j_)
namespace Ty
theorem ui:∀(ms:List (Frm×Nat))(x:BA),(∀k(h:k<ms.length),eR ms[k].1.names x=none)->j_ (ms.map Prod.fst) x=none
 |[],_,_=>rfl
 |p::ms,x,h=>by
  have h0:eR p.1.names x=none:=h 0 (by simp);rw[List.map_cons,j_,h0];exact ui ms x λk hk=>h (k+1) (by simp;omega)
theorem vm:∀(ms:List (Frm×Nat))(x:BA)(k:Nat)(hk:k<ms.length)(m:Nat),(∀j(h:j<ms.length),j<k->eR ms[j].1.names x=none)->eR ms[k].1.names x=some m->j_ (ms.map Prod.fst) x=some m
 |[],_,k,hk,_,_,_=>absurd hk (by simp)
 |p::ms,x,0,_,m,_,h2=>by
  have h0:eR p.1.names x=some m:=h2;rw[List.map_cons,j_,h0]
 |p::ms,x,k+1,hk,m,h,h2=>by
  have h0:eR p.1.names x=none:=h 0 (by simp) (by omega);rw[List.map_cons,j_,h0];exact vm ms x k (by simpa using hk) m (λj hj Ih=>h (j+1) (by simp;omega) (by omega)) h2
end Ty
theorem zw{w:World}:∀(ms:List (Frm×Nat))(a:Hp),ko ms a->le a (hp w)->∀k(h:k<ms.length),∃D,w.ownsMap prog 9 (plainElem prog 3) ms[k].2 ms[k].1.names.length D/\ki ms[k].1.names D
 |[],_,_,_,k,h=>absurd h (by simp)
 |p::ms,a,ha,hl,k,h=>by
  obtain⟨x,y,_,hx,hy,⟨es,clock,g1,g2,g3,g4⟩,y1,y2,_,Xl,_,hm,_⟩:=ha;cases k with
  |zero=>exact⟨_,⟨es,clock,hl _ _ (hx _ _ g1),g2,g3,rfl⟩,g4⟩
  |succ k=>exact zw ms y1 hm (λj o e=>hl _ _ (hy _ _ (Xl _ _ e))) k (by simpa using h)
theorem Prt.Sat.Pk{wB w:World}{L:List As}{i:Nat}{ms:List (Frm×Nat)}(h:Sat wB w L)(hi:L[i]?=some (ko ms))(k:Nat)(hk:k<ms.length):
  ∃D,w.ownsMap prog 9 (plainElem prog 3) ms[k].2 ms[k].1.names.length D/\ki ms[k].1.names D:=h.get hi λa ha hl=>zw ms a ha hl k hk
theorem ze{w:World}{v:Value}{ms:List (Frm×Nat)}(bT:ms≠[])(h:w.ownsRow 0 195 2 v ms.length (ms.reverse.flatMap iD)):
  ∃g cap:Nat,v=.slice (some ⟨g,0,none⟩) ms.length cap/\g<w.heap.size/\FX w g ms:=by
 obtain⟨g,cap,rfl,_,hg⟩:=h.form (by have:=List.length_pos_iff.2 bT;omega);have hc:=λj u hj=>World.ownsRow.cells h (g:=g) rfl j u hj
 refine⟨g,cap,rfl,hg,λk hk=>?_⟩;have hf:=jn iD 2 (λ_=>rfl) ms.reverse (ms.length-1-k) (by simp;omega);have he:ms.reverse[ms.length-1-k]'(by simp;omega)=ms[k]:=by
  rw[List.getElem_reverse];congr 1;omega
 rw[he]at hf
 constructor
 ·have:=hc ((ms.length-1-k)*2+0) _ (by rw[hf 0 (by omega)];rfl);rwa [Addr.add_lit,Nat.zero_add]at this
 ·have:=hc ((ms.length-1-k)*2+1) _ (by rw[hf 1 (by omega)];rfl);rwa [Addr.add_lit,Nat.zero_add]at this
theorem r9{W W':World}(hb:Below W.heap.size W W')(B:Nat):KeepsFrom B W W':=⟨hb.size,λk o _ hk _=>(hb.block k (Array.getElem?_eq_some_iff.1 hk).1).trans hk⟩
theorem Qn{B:Nat}{w0 w:World}{P0 P2 P4 P6:As}{bb cb n2:Nat}{cs:Array Value}{t:TypeId}{ov:Value}{l:List (Nat×Nat)}{Φ:Dm->Prop}(gh:cb<B)
  (h:Sat w0 w [low B P0,av bb (.cells cs t (0,0)),low B P2,vC ov l,low B P4,mapA 3 4 cb n2 Φ,low B P6]):SatF B w0 w [low B P0,av bb (.cells cs t (0,0)),low B P2,vC ov l,low B P4,mapA 3 4 cb n2 Φ,low B P6]:=
 h.aaB λi P hi=>by
  match i with
  |0=>cases hi;exact qA _ _
  |1=>cases hi;exact I' _ _ _ _ _
  |2=>cases hi;exact qA _ _
  |3=>cases hi;exact Jd _ _ _ _ _ _
  |4=>cases hi;exact qA _ _
  |5=>cases hi;exact E8 gh
  |6=>cases hi;exact qA _ _
  |i+7=>simp at hi
theorem IJ{ms:List (Frm×Nat)}{frs:List Frm}(h:ms.map Prod.fst=frs)(hp:0<ms.length):oV frs=ms[0].1.of:=by
 subst h;cases ms with
 |nil=>simp at hp
 |cons p ms=>rfl
theorem Ce{W W':World}{e:TypeId}{size n:Nat}{v:Value}{xs:List Value}(bm:W.ownsRow 0 e size v n xs)(hg:W.grownBy W' v.ownBlock)(B:Nat):KeepsFrom B W W':=by
 refine⟨hg.size,λk o _ hk ho=>(hg.block k (Array.getElem?_eq_some_iff.1 hk).1 λe=>?_).trans hk⟩;rcases bm.2 with⟨rfl,_⟩|⟨g,cap,cur,rfl,_,hb,_⟩
 ·cases e
 ·have:g=k:=by simpa [Value.ownBlock]using e.symm
  subst this;rw[hb]at hk
  cases hk;cases ho
attribute [local go_sem] Oper.semAt_some
section
variable {wB w:World} {Fr:As} {bb:Nat} {nv tv:Value} {pg:Ty.Pg} {main:Int} {frs:List Frm} {v:Vg} {c:Nat}
theorem Et(hP:PB wB nv tv pg){id:Nat}{nd:Nd}(hn:pg.ns[id]?=some nd)(set:Bool)(hF:gR wB Fr)(H:Sat wB w [Fr,pG bb nv tv main c frs v])(hc:c+1<=100000){R:EW}
  (aH:∀v' w',kF nd.pos nd.text id set frs v=.ok v'->Sat wB w' [Fr,pG bb nv tv main (c+1) frs v']->R (.returned (.tuple #[])) w')
  (au:∀f w',kF nd.pos nd.text id set frs v=.error f->Sat wB w' [Fr]->R (.panicked (aI f)) w'):
  Calls prog 214 #[.pointer (some ⟨bb,0,none⟩),.int .i64 (id:Nat),.bool set] w R:=by
 obtain⟨nw,nc,v7,we,oS,h1⟩:=H.iw;obtain⟨sv,ov,wb,cb,ms,gS,h2⟩:=h1.gF;have L2:ms≠[]:=by rintro rfl;exact oS.ne gS.symm
 have B4:ms.length<=100000:=by have:=oS.len;have:=congrArg List.length gS;simp at*;omega
 have hx:nd.text.size<=maxLen:=by
  obtain⟨_,_,_,_,_,_,_,_,_,_,Uo,_⟩:=hP.look hn;have:=Uo.size;unfold maxLen;omega
 obtain⟨g,cap,rfl,hg,Bd⟩:=ze L2 (h2.row 2 rfl);have h3:=((h2.aj (.cells #[.pointer (some ⟨bb,0,none⟩)] 142) w.heap.size).aj (.cells #[.int .i64 (id:Nat)] 3) (w.heap.size+1) (by simp)).aj (.cells #[.bool set] 4) (w.heap.size+2) (by simp);have k0:=h3.cell 1 rfl 0 rfl;have gQ:=h3.lt 1 rfl
 (try dsimp only at k0)
 have H3:=qh h3;have aX:=qh aH;have aB:=qh au;have HF:=qh hF;have ac4:=qh Bd;clear aH au hF H h1 h2 h3 Bd;refine callsIn_wide (n:=3)|>.1 ?_;refine callsIn_of_wp_marks func214 rfl trivial ?_ rfl;simp only[ntmps214,List.size_toArray,List.length_cons,List.length_nil,Nat.reduceAdd,Nat.reduceSub,Array.replicate_succ,Array.replicate_zero,List.push_toArray,List.append_toArray,List.nil_append,List.cons_append]
 gi_wp2_with fail
 refine⟨trivial,callsIn_wide.2 (dA hP (HF.o _ _ 0 H3.o rfl) hn k0 gQ (λlv w2 aD cu=>?_))⟩;obtain⟨la,lc,rfl⟩:=ag cu;unfold aG;have h4:=(H3.o.below aD).aj (az nd (.slice la nd.list.length lc)) w2.heap.size;have y0:=(H3.o.below aD).cell 7 rfl 0 rfl;have y1:=(H3.o.below aD).cell 8 rfl 0 rfl;have y2:=(H3.o.below aD).cell 9 rfl 0 rfl;have abt:=(H3.o.below aD).lt 7 rfl;have Xl:=(H3.o.below aD).lt 8 rfl;have abm:=(H3.o.below aD).lt 9 rfl;have c3:=(H3.o.below aD).cell 1 rfl 3 rfl;have dF:=(H3.o.below aD).lt 1 rfl;have H4:=qh h4;clear h4 aD cu H3 k0 gQ
 gi_wp2_with fail
 refine⟨trivial,(Nz Fence.wide 2 trivial rfl _ _ _ _).mono ?_⟩
 rintro e w3 ⟨rfl,rfl⟩
 gi_wp2_with fail
 have h5:Sat wB ((w2.alloc (.cells #[.int .i64 nd.kind,.int .i64 nd.a,.int .i64 nd.b,.int .i64 nd.c,.slice la nd.list.length lc,.string nd.text,.int .i64 nd.n,.int .i64 nd.ty,.int .i64 nd.pos] 66)).alloc (.cells #[.slice (some ⟨g,0,none⟩) ms.length cap] 143)) _:=(H4.o.aj (.cells #[.slice (some ⟨g,0,none⟩) ms.length cap] 143) (w2.heap.size+1) (by simp))
 have EA:Below w2.heap.size w2 ((w2.alloc (.cells #[.int .i64 nd.kind,.int .i64 nd.a,.int .i64 nd.b,.int .i64 nd.c,.slice la nd.list.length lc,.string nd.text,.int .i64 nd.n,.int .i64 nd.ty,.int .i64 nd.pos] 66)).alloc (.cells #[.slice (some ⟨g,0,none⟩) ms.length cap] 143)):=((bR _ _).alloc (nR _) _).alloc (by simp) _;have abP: ((w2.alloc (.cells #[.int .i64 nd.kind,.int .i64 nd.a,.int .i64 nd.b,.int .i64 nd.c,.slice la nd.list.length lc,.string nd.text,.int .i64 nd.n,.int .i64 nd.ty,.int .i64 nd.pos] 66)).alloc (.cells #[.slice (some ⟨g,0,none⟩) ms.length cap] 143)).heap.size=w2.heap.size+2:=by simp
 generalize(w2.alloc (.cells #[.int .i64 nd.kind,.int .i64 nd.a,.int .i64 nd.b,.int .i64 nd.c,.slice la nd.list.length lc,.string nd.text,.int .i64 nd.n,.int .i64 nd.ty,.int .i64 nd.pos] 66)).alloc (.cells #[.slice (some ⟨g,0,none⟩) ms.length cap] 143)=W1 at h5 EA abP⊢;obtain⟨g',DK,e,acA,Bd⟩:=ze L2 (h5.row 2 rfl);cases e;have wR:=h5.cell 11 rfl 0 rfl;have QI:Sat wB W1 [low W1.heap.size Fr,av bb (Ek nv tv main (.slice (some ⟨g,0,none⟩) ms.length cap) ov wb cb),low W1.heap.size (xu (.slice (some ⟨g,0,none⟩) ms.length cap) ms),vC ov v.out,low W1.heap.size (mapA 3 3 wb nw (cF v.wi)),mapA 3 4 cb nc (cS v.ca),low W1.heap.size (ko ms),
  av w.heap.size (.cells #[.pointer (some ⟨bb,0,none⟩)] 142 (0,0)),av (w.heap.size+1) (.cells #[.int .i64 (id:Nat)] 3 (0,0)),av (w.heap.size+2) (.cells #[.bool set] 4 (0,0)),av w2.heap.size (az nd (.slice la nd.list.length lc))]:=
  (((((((h5.DT (nR _)).cL (i:=1) rfl (λ_ h=>h.1)).cL (i:=3) rfl (λ_ h=>h.1)).cL (i:=5) rfl (λ_ h=>h.1)).cL (i:=7) rfl (λ_ h=>h.1)).cL (i:=8) rfl (λ_ h=>h.1)).cL (i:=9) rfl (λ_ h=>h.1)).cL (i:=10) rfl (λ_ h=>h.1)|>.pick [0,1,2,3,4,5,6,7,8,9,10]
 have Wh:=qh QI;clear QI;have ME:=h5.SC 5 rfl;have H5:=qh h5;have VM:=qh Bd;have Z6:=qh wR;have HZ:Hq (∀W:World,(zeroValue 3).run prog W=.ok (.int .i64 0) W):=λW=>by simp[zeroValue,go_sem];rfl
 clear h5 Bd wR y0 y1 y2 abt Xl abm c3 dF;refine wpIn_rangeFunc_ownH (α:=Fin ms.length) rfl (by omega) (gf:=321) (lb:=#[.pointer (some ⟨w2.heap.size+1,0,none⟩)]) rfl trivial (enters_of func321 (by kernel_rfl) rfl)
  (DP Fence.wide 2 trivial rfl (by omega) (w2.heap.size+1) W1.heap.size g cap ms (by omega) W1 (by omega) acA (nR _) Z6.o VM.o) belowK_t (belowK_b (nR _)) (bR _ _) (λ_=>rfl)
  (λpre W=>Below W1.heap.size W1 W/\∀k∈pre,eR ms[k.1].1.names nd.text=none)
  (λq pre W=>q=.ret/\∃(Ub:List (Fin ms.length))(last:Fin ms.length)(m:Nat)(ew:Value)(T4:Nat),pre=Ub++[last]/\(∀k∈Ub,eR ms[k.1].1.names nd.text=none)/\eR ms[last.1].1.names nd.text=some m/\T4<=nc+1/\
   SatF W1.heap.size wB W [low W1.heap.size Fr,av bb (Ek nv tv main (.slice (some ⟨g,0,none⟩) ms.length cap) ew wb cb),low W1.heap.size (xu (.slice (some ⟨g,0,none⟩) ms.length cap) ms),vC ew (v.out++[(id,m)]),low W1.heap.size (mapA 3 3 wb nw (cF v.wi)),
    mapA 3 4 cb T4 (cS (if set&&decide ((v.wi m).getD 0≠oV frs)then λk=>if k=m then true else v.ca k else v.ca)),low W1.heap.size (ko ms)])
  (OwnFrom.and (ownFrom_below (nR _) (nR _)) (ownFrom_pure _ _))
  (λq pre A B row hs hg hr=>by
   obtain⟨e1,Ub,last,m,ew,T4,e2,e3,e4,e5,e6⟩:=hs;exact⟨e1,Ub,last,m,ew,T4,e2,e3,e4,e5,e6.Sz hg hr⟩)
  ⟨bR _ _,by simp⟩
  (λx a' W=>∃Bx,W1.heap.size<=Bx/\Bx<W.heap.size/\W.cell? ⟨Bx,0,none⟩=some (.map (some ms[x.1].2))/\W.cell? ⟨Bx,1,none⟩=some (.int .i64 ms[x.1].1.of)/\a'={tmps:=#[.pointer (some ⟨bb,0,none⟩),.int .i64 (id:Nat),.bool set,.pointer (some ⟨w.heap.size,0,none⟩),.pointer (some ⟨w.heap.size+1,0,none⟩),.pointer (some ⟨w.heap.size+1+1,0,none⟩),.pointer (some ⟨w2.heap.size,0,none⟩),undef,.pointer (some ⟨Bx,0,none⟩),undef,undef,.pointer (some ⟨bb,0,none⟩),.int .i64 (id:Nat),.agg #[.int .i64 nd.kind,.int .i64 nd.a,.int .i64 nd.b,.int .i64 nd.c,.slice la nd.list.length lc,.string nd.text,.int .i64 nd.n,.int .i64 nd.ty,.int .i64 nd.pos],.pointer (some ⟨bb,0,none⟩),.pointer (some ⟨bb,0,none⟩),.pointer (some ⟨bb,3,none⟩),.slice (some ⟨g,0,none⟩) ms.length cap,.func (.func 321) #[] #[.pointer (some ⟨w2.heap.size+1,0,none⟩)],.int .i64 ((ms.length:Int)-1-(x.1:Int)),.agg #[.map (some ms[x.1].2),.int .i64 ms[x.1].1.of],undef,undef,undef,undef,undef,undef,undef,undef,undef,undef,undef,undef,undef,undef,undef,undef,undef,undef,undef,undef,undef,undef,undef,undef,undef,undef,undef,undef,undef,undef,undef,undef,undef,undef,undef,undef,undef,undef,undef,undef,undef,undef,undef],defers:=[]})
  (λx a' u A B row hs hg hr=>by
   obtain⟨Bx,e1,e2,e3,e4,e5⟩:=hs;exact⟨Bx,e1,nL e2 hg.size,cell_kept e3 hg (λr e=>(hr r e).2),cell_kept e4 hg (λr e=>(hr r e).2),e5⟩)
  ?assign ?body ?done ?stop
 case assign=>
  rintro l pre x W K ⟨hB,Gr⟩ hK
  unfold Mk
  gi_wp2
  exact hK _ _ ((KeepsOthers.alloc _ _).from _) ((bR _ W).alloc hB.size _) ⟨hB.alloc hB.size _,Gr⟩ ⟨W.heap.size,hB.size,by simp,by simp,by simp,rfl⟩
 case body=>
  rintro l pre x a' W hl ⟨r,hr⟩ ⟨hB,Gr⟩ ⟨Bx,ad4,adR,aaL,PR,rfl⟩ a_
  have h6:=Wh.o.below hB;obtain⟨D,hD,mg⟩:=(h6.cL (i:=6) rfl (Q:=ko ms) (λ_ h=>h.1)).Pk (i:=6) rfl x.1 x.2;obtain⟨u,ps,lx,hu⟩:=hD.look_ok ve underlying193 (HZ.o W) (plainElem_int underlying3 (by decide)) (WideMaps.keyOf_string_mk underlying9 hx);obtain⟨cc,rfl,zo,oj⟩:=plainElem_int_inv underlying3 hu;rw[(mg.2 nd.text).1]at lx
  have x5:=h6.cell 10 rfl 5 rfl;have adN:=hB.size;cases hq:eR ms[x.1].1.names nd.text with
  |none=>
   rw[hq]at lx
   have HQ:=qh hq;clear hq h6 hD mg hu
   gi_wp2
   refine⟨KeepsFrom.refl _ _,bR _ _,hB,λk hk=>?_⟩;rcases List.mem_append.1 hk with hk|hk
   ·exact Gr k hk
   ·rw[List.mem_singleton.1 hk];exact HQ.o
  |some m=>
   rw[hq]at lx
   have hm:=(mg.2 nd.text).2 m hq;have Dt:cc=(m:Int):=by
    have:=congrArg Prod.fst zo;dsimp only at this;rw[hm]at this
    cases this;rfl
   subst Dt;have HQ:=qh hq;have H6:=qh h6;clear hq h6 hD mg hu zo hm
   gi_wp2
   have z0:=H6.o.drew.cell 7 rfl 0 rfl;have z1:=H6.o.drew.cell 8 rfl 0 rfl;have hS:W.drew.cell? ⟨w.heap.size,0,none⟩=some (.pointer (some ⟨bb,0,none⟩))/\W.drew.cell? ⟨w.heap.size+1,0,none⟩=some (.int .i64 (id:Nat)):=⟨z0,z1⟩
   refine iF (S:=λw'=>w'.cell? ⟨w.heap.size,0,none⟩=some (.pointer (some ⟨bb,0,none⟩))/\w'.cell? ⟨w.heap.size+1,0,none⟩=some (.int .i64 (id:Nat))) (by kernel_rfl) (λ_ _ h=>h) (y9 (by kernel_rfl)) ?_;refine sM 0 ?_ rfl (by kernel_rfl) (λ_ _ _ h=>h) (by rfl) ?_ hS ?_;rotate_left
   ·intro w' dH;obtain⟨s0,s1⟩:=dH;go_simp;with_reducible rfl
   simp only[Act.put,lyA,lyB,lyC,lyD,lyE,lyF];refine sM 1 ?_ rfl (by kernel_rfl) (λ_ _ _ h=>h) (by rfl) ?_ hS ?_;rotate_left
   ·intro w' dH;obtain⟨s0,s1⟩:=dH;go_simp;with_reducible rfl
   simp only[Act.put,lyA,lyB,lyC,lyD,lyE,lyF];refine sM 2 ?_ rfl (by kernel_rfl) (λ_ _ _ h=>h) (by rfl) ?_ hS ?_;rotate_left
   ·intro w' dH;obtain⟨s0,s1⟩:=dH;go_simp;with_reducible rfl
   simp only[Act.put,lyA,lyB,lyC,lyD,lyE,lyF];refine sM 3 ?_ rfl (by kernel_rfl) (λ_ _ _ h=>h) (by rfl) ?_ hS ?_;rotate_left
   ·intro w' dH;obtain⟨s0,s1⟩:=dH;go_simp;with_reducible rfl
   simp only[Act.put,lyA,lyB,lyC,lyD,lyE,lyF];refine sM 5 ?_ rfl (by kernel_rfl) (λ_ _ _ h=>h) (by rfl) ?_ hS ?_;rotate_left
   ·intro w' dH;obtain⟨s0,s1⟩:=dH;go_simp;with_reducible rfl
   simp only[Act.put,lyA,lyB,lyC,lyD,lyE,lyF];refine sM 6 ?_ rfl (by kernel_rfl) (λ_ _ _ h=>h) (by rfl) ?_ hS ?_;rotate_left
   ·intro w' dH;obtain⟨s0,s1⟩:=dH;go_simp;with_reducible rfl
   simp only[Act.put,lyA,lyB,lyC,lyD,lyE,lyF];refine sM 7 ?_ rfl (by kernel_rfl) (λ_ _ _ h=>h) (by rfl) ?_ hS ?_;rotate_left
   ·intro w' dH;obtain⟨s0,s1⟩:=dH;go_simp;with_reducible rfl
   simp only[Act.put,lyA,lyB,lyC,lyD,lyE,lyF];obtain⟨oa,oc,rfl⟩:=ag (H6.o.row 3 rfl);obtain⟨i0,ti,mM,mL,mK⟩:=info_parts Qc;have VB:=oS.out;have c2:=H6.o.drew.cell 1 rfl 4 rfl;have M4:=H6.o.cell 1 rfl 4 rfl;have BR:=H6.o.lt 1 rfl;have aaS:=H6.o.lt 7 rfl;have k_:=H6.o.lt 8 rfl;have Vv:=λo=>(show(W.drew.alloc o).cell? ⟨w.heap.size,0,none⟩=some (.pointer (some ⟨bb,0,none⟩))/\(W.drew.alloc o).cell? ⟨w.heap.size+1,0,none⟩=some (.int .i64 (id:Nat))from⟨(H6.o.drew.aW o).cell 7 rfl 0 rfl,(H6.o.drew.aW o).cell 8 rfl 0 rfl⟩)
   refine wpAnyH_ready (rs:=[4,8]) (by kernel_rfl) (by simp) ?_;refine AllReadyH.cons rfl (λK hK=>?_) (AllReadyH.cons rfl (λK hK=>?_) AllReadyH.nil);all_goals go_simp
   refine hK.out _ _ hS (λhHeld=>?_);rotate_left;refine hK.out _ _ (Vv _) (λhHeld=>?_);rotate_left;all_goals clear hK K hHeld
   refine wpAnyH_ready (rs:=[8]) (by kernel_rfl) (by simp) ?_;rotate_left;refine wpAnyH_ready (rs:=[4]) (by kernel_rfl) (by simp) ?_;rotate_left;all_goals refine AllReadyH.cons rfl (λK hK=>?_) AllReadyH.nil
   all_goals go_simp
   all_goals refine hK.out _ _ (Vv _) (λhHeld=>?_)
   all_goals clear hK K hHeld
   all_goals
    refine wpAnyH_ready (rs:=[9]) (by kernel_rfl) (by simp) ?_;refine AllReadyH.cons rfl (λK hK=>?_) AllReadyH.nil;refine step_append_lies _ (by rfl) _ _ _ (by rfl) 0 43 i0 _ 2 16 underlying36 ti mM mL mK rfl (by omega) (.slice oa v.out.length oc) v.out.length (v.out.flatMap cH) (by rfl) ((H6.o.drew.row 3 rfl).alloc _) ⟨W.heap.size,0,none⟩ 1 1 [.int .i64 (id:Nat),.int .i64 (m:Nat)] (by rfl) (by rfl) (World.news_of_block (cs:=#[.int .i64 (id:Nat),.int .i64 (m:Nat)]) (t:=43) (fr:=(0,0)) (aR _ _ _ (by simp))) (by simp[Value.oneCell']) (by omega) (by unfold maxLen;omega) (by omega) (by simp) (W.heap.size+1) (by simp) ?_;intro g8 qQ w8 ny jG Fv Tq;have h8:=Sat.grow (H6.o.drew.aW _) 3 rfl jG ny (by simpa using Fv);have wO:w8.cell? ⟨w.heap.size,0,none⟩=some (.pointer (some ⟨bb,0,none⟩))/\w8.cell? ⟨w.heap.size+1,0,none⟩=some (.int .i64 (id:Nat)):=⟨h8.cell 7 rfl 0 rfl,h8.cell 8 rfl 0 rfl⟩
    have d4:=h8.cell 1 rfl 4 rfl;have e4:=h8.free 1 rfl 4;have H8:=qh h8;have Za:=qh jG;clear h8 ny jG Fv;refine hK.out _ _ wO (λhHeld=>?_);clear hK K hHeld
    (try simp only[Act.put,lyA,lyB,lyC,lyD,lyE,lyF])
    refine sM 10 ?_ rfl (by kernel_rfl) (λ_ _ _ h=>h) (by rfl) ?_ wO ?_;rotate_left
    ·intro w' dH;obtain⟨s0,s1⟩:=dH;go_simp;with_reducible rfl
    simp only[Act.put,lyA,lyB,lyC,lyD,lyE,lyF];refine sM 11 ?_ rfl (by kernel_rfl) (λ_ _ _ h=>h) (by rfl) ?_ wO ?_;rotate_left
    ·intro w' dH;obtain⟨s0,s1⟩:=dH;go_simp;with_reducible rfl
    simp only[Act.put,lyA,lyB,lyC,lyD,lyE,lyF];refine wpAnyH_ready (rs:=[12]) (by kernel_rfl) (by simp) ?_;refine AllReadyH.cons rfl (λK hK=>?_) AllReadyH.nil;go_simp;have h9:=H8.o.store 1 rfl 4 (.slice (some ⟨g8,0,none⟩) (v.out.length+1) qQ);refine hK.out _ _ ⟨h9.cell 7 rfl 0 rfl,h9.cell 8 rfl 0 rfl⟩ (λhHeld=>?_);clear hK K hHeld;refine wpAnyH_done (by kernel_rfl) ?_ _;have dG:=h9.cL (i:=3) rfl (Q:=vC (.slice (some ⟨g8,0,none⟩) (v.out.length+1) qQ) (v.out++[(id,m)])) (λ_ h=>Lb h);have X0:KeepsFrom W1.heap.size W (w8.setCell ⟨bb,4,none⟩ (.slice (some ⟨g8,0,none⟩) (v.out.length+1) qQ)):=((((KeepsOthers.drew W).trans (KeepsOthers.alloc _ _)).from _).trans (Ce ((H6.o.drew.row 3 rfl).alloc _) Za.o _)).trans ((KeepsOthers.setCell _ _ _).from _);have pL:=qh dG;have Q6:=qh X0;clear h9 dG X0 H8 Za wO d4 e4;generalize w8.setCell ⟨bb,4,none⟩ (.slice (some ⟨g8,0,none⟩) (v.out.length+1) qQ)=w9 at pL Q6⊢
    gi_wp2
    clear hS Vv c2 M4 BR aaS k_ z0 z1 aaL PR lx H6 x5;cases set
    ·have ik:w9.drew.cell? ⟨w.heap.size+1+1,0,none⟩=some (.bool false)/\True:=⟨pL.o.drew.cell 9 rfl 0 rfl,trivial⟩
     refine iF (S:=λw'=>w'.cell? ⟨w.heap.size+1+1,0,none⟩=some (.bool false)/\True) (by kernel_rfl) (λ_ _ h=>h) (y9 (by kernel_rfl)) ?_;refine sM 0 ?_ rfl (by kernel_rfl) (λ_ _ _ h=>h) (by rfl) ?_ ik ?_;rotate_left
     ·intro w' dH;obtain⟨s0,_⟩:=dH;go_simp;with_reducible rfl
     simp only[Act.put,lyA,lyB,lyC,lyD,lyE,lyF];refine sM 1 ?_ rfl (by kernel_rfl) (λ_ _ _ h=>h) (by rfl) ?_ ik ?_;rotate_left
     ·intro w' dH;obtain⟨s0,_⟩:=dH;go_simp;with_reducible rfl
     simp only[Act.put,lyA,lyB,lyC,lyD,lyE,lyF];refine wpAnyH_take (i:=2) (v:=undef) rfl (by kernel_rfl) (by kernel_rfl) (by kernel_rfl) (λ_ _ _ h=>h) (Or.inr ⟨by kernel_rfl,rfl⟩) ik ?_;simp only[Act.put,lyA,lyB,lyC,lyD,lyE,lyF];refine wpAnyH_take (i:=3) (v:=undef) rfl (by kernel_rfl) (by kernel_rfl) (by kernel_rfl) (λ_ _ _ h=>h) (Or.inr ⟨by kernel_rfl,rfl⟩) ik ?_;simp only[Act.put,lyA,lyB,lyC,lyD,lyE,lyF];refine wpAnyH_take (i:=4) (v:=undef) rfl (by kernel_rfl) (by kernel_rfl) (by kernel_rfl) (λ_ _ _ h=>h) (Or.inr ⟨by kernel_rfl,rfl⟩) ik ?_;simp only[Act.put,lyA,lyB,lyC,lyD,lyE,lyF];refine wpAnyH_take (i:=5) (v:=undef) rfl (by kernel_rfl) (by kernel_rfl) (by kernel_rfl) (λ_ _ _ h=>h) (Or.inr ⟨by kernel_rfl,rfl⟩) ik ?_;simp only[Act.put,lyA,lyB,lyC,lyD,lyE,lyF];refine wpAnyH_take (i:=6) (v:=undef) rfl (by kernel_rfl) (by kernel_rfl) (by kernel_rfl) (λ_ _ _ h=>h) (Or.inr ⟨by kernel_rfl,rfl⟩) ik ?_;simp only[Act.put,lyA,lyB,lyC,lyD,lyE,lyF];refine wpAnyH_take (i:=7) (v:=undef) rfl (by kernel_rfl) (by kernel_rfl) (by kernel_rfl) (λ_ _ _ h=>h) (Or.inr ⟨by kernel_rfl,rfl⟩) ik ?_;simp only[Act.put,lyA,lyB,lyC,lyD,lyE,lyF];refine wpAnyH_take (i:=8) (v:=undef) rfl (by kernel_rfl) (by kernel_rfl) (by kernel_rfl) (λ_ _ _ h=>h) (Or.inr ⟨by kernel_rfl,rfl⟩) ik ?_;simp only[Act.put,lyA,lyB,lyC,lyD,lyE,lyF];refine wpAnyH_take (i:=9) (v:=undef) rfl (by kernel_rfl) (by kernel_rfl) (by kernel_rfl) (λ_ _ _ h=>h) (Or.inr ⟨by kernel_rfl,rfl⟩) ik ?_;simp only[Act.put,lyA,lyB,lyC,lyD,lyE,lyF];refine wpAnyH_take (i:=10) (v:=undef) rfl (by kernel_rfl) (by kernel_rfl) (by kernel_rfl) (λ_ _ _ h=>h) (Or.inr ⟨by kernel_rfl,rfl⟩) ik ?_;simp only[Act.put,lyA,lyB,lyC,lyD,lyE,lyF];refine wpAnyH_take (i:=11) (v:=undef) rfl (by kernel_rfl) (by kernel_rfl) (by kernel_rfl) (λ_ _ _ h=>h) (Or.inr ⟨by kernel_rfl,rfl⟩) ik ?_;simp only[Act.put,lyA,lyB,lyC,lyD,lyE,lyF];refine sM 12 ?_ rfl (by kernel_rfl) (λ_ _ _ h=>h) (by rfl) ?_ ik ?_;rotate_left
     ·intro w' dH;obtain⟨s0,_⟩:=dH;go_simp;with_reducible rfl
     simp only[Act.put,lyA,lyB,lyC,lyD,lyE,lyF];refine wpAnyH_done (by kernel_rfl) ?_ _
     gi_wp2
     exact⟨Q6.o.trans ((KeepsOthers.drew _).from _),rfl,pre,x,m,.slice (some ⟨g8,0,none⟩) (v.out.length+1) qQ,nc,rfl,Gr,HQ.o,by omega,Qn ME (pL.o.drew.pick [0,1,2,3,4,5,6])⟩
    ·have VU:0<ms.length:=List.length_pos_iff.2 L2;have Xv:∀(w':World)(L':List As),Sat wB w' L'->L'[4]?=some (low W1.heap.size (mapA 3 3 wb nw (cF v.wi)))->(Instr.lookup 102 (.map (some wb)) (.int .i64 (m:Nat)) false).run prog w'=.ok (.int .i64 ((v.wi m).getD 0)) w':=λw' L' hs hi=>by
      obtain⟨D,hD,mg⟩:=(hs.cL (i:=4) hi (Q:=mapA 3 3 wb nw (cF v.wi)) (λ_ h=>h.1)).fi 4 (by rw[List.getElem?_set_self (Sat.xp hi)]);obtain⟨cw,lx,t_,_⟩:=hD.lookup_int cy underlying102 underlying3 (HZ.o w') (Maps.keyOf_int_mk underlying3 oj);rw[mg.2 m]at t_
      cases t_;exact lx
     have zW:=qh Xv;have jE:=pL.o.drew;obtain⟨g2,sY,e2,Dj,Ts⟩:=ze L2 ((jE.cL (i:=2) rfl (Q:=xu (.slice (some ⟨g,0,none⟩) ms.length cap) ms) (λ_ h=>h.1)).row 2 rfl);cases e2;obtain⟨d0,d1⟩:=Ts 0 VU;have c3:w9.drew.cell? ⟨bb,3,none⟩=some (.slice (some ⟨g,0,none⟩) (ms.length-1+1) cap):=by rw[Nat.sub_add_cancel VU];exact jE.cell 1 rfl 3 rfl
     have To:=jE.lt 1 rfl;have SK:=Xv _ _ jE rfl;have ik:w9.drew.cell? ⟨w.heap.size+1+1,0,none⟩=some (.bool true)/\w9.drew.cell? ⟨w.heap.size,0,none⟩=some (.pointer (some ⟨bb,0,none⟩))/\w9.drew.cell? ⟨bb,5,none⟩=some (.map (some wb))/\(Instr.lookup 102 (.map (some wb)) (.int .i64 (m:Nat)) false).run prog w9.drew=.ok (.int .i64 ((v.wi m).getD 0)) w9.drew:=⟨jE.cell 9 rfl 0 rfl,jE.cell 7 rfl 0 rfl,jE.cell 1 rfl 5 rfl,SK⟩
     have f1:=uN ms[0].2 ms[0].1.of;have Sy:=qh (IJ gS VU);clear Xv jE Ts SK;refine iF (S:=λw'=>w'.cell? ⟨w.heap.size+1+1,0,none⟩=some (.bool true)/\w'.cell? ⟨w.heap.size,0,none⟩=some (.pointer (some ⟨bb,0,none⟩))/\w'.cell? ⟨bb,5,none⟩=some (.map (some wb))/\(Instr.lookup 102 (.map (some wb)) (.int .i64 (m:Nat)) false).run prog w'=.ok (.int .i64 ((v.wi m).getD 0)) w') (by kernel_rfl) (λ_ _ h=>h) (y9 (by kernel_rfl)) ?_;refine sM 0 ?_ rfl (by kernel_rfl) (λ_ _ _ h=>h) (by rfl) ?_ ik ?_;rotate_left
     ·intro w' dH;obtain⟨s0,s1,s2,s3⟩:=dH;go_simp;with_reducible rfl
     simp only[Act.put,lyA,lyB,lyC,lyD,lyE,lyF];refine sM 1 ?_ rfl (by kernel_rfl) (λ_ _ _ h=>h) (by rfl) ?_ ik ?_;rotate_left
     ·intro w' dH;obtain⟨s0,s1,s2,s3⟩:=dH;go_simp;with_reducible rfl
     simp only[Act.put,lyA,lyB,lyC,lyD,lyE,lyF];refine sM 2 ?_ rfl (by kernel_rfl) (λ_ _ _ h=>h) (by rfl) ?_ ik ?_;rotate_left
     ·intro w' dH;obtain⟨s0,s1,s2,s3⟩:=dH;go_simp;with_reducible rfl
     simp only[Act.put,lyA,lyB,lyC,lyD,lyE,lyF];refine sM 3 ?_ rfl (by kernel_rfl) (λ_ _ _ h=>h) (by rfl) ?_ ik ?_;rotate_left
     ·intro w' dH;obtain⟨s0,s1,s2,s3⟩:=dH;go_simp;with_reducible rfl
     simp only[Act.put,lyA,lyB,lyC,lyD,lyE,lyF];refine sM 4 ?_ rfl (by kernel_rfl) (λ_ _ _ h=>h) (by rfl) ?_ ik ?_;rotate_left
     ·intro w' dH;obtain⟨s0,s1,s2,s3⟩:=dH;go_simp;with_reducible rfl
     simp only[Act.put,lyA,lyB,lyC,lyD,lyE,lyF];refine sM 5 ?_ rfl (by kernel_rfl) (λ_ _ _ h=>h) (by rfl) ?_ ik ?_;rotate_left
     ·intro w' dH;obtain⟨s0,s1,s2,s3⟩:=dH;go_simp;with_reducible rfl
     simp only[Act.put,lyA,lyB,lyC,lyD,lyE,lyF];refine sM 6 ?_ rfl (by kernel_rfl) (λ_ _ _ h=>h) (by rfl) ?_ ik ?_;rotate_left
     ·intro w' dH;obtain⟨s0,s1,s2,s3⟩:=dH;go_simp;with_reducible rfl
     simp only[Act.put,lyA,lyB,lyC,lyD,lyE,lyF];refine sM 7 ?_ rfl (by kernel_rfl) (λ_ _ _ h=>h) (by rfl) ?_ ik ?_;rotate_left
     ·intro w' dH;obtain⟨s0,s1,s2,s3⟩:=dH;go_simp;with_reducible rfl
     simp only[Act.put,lyA,lyB,lyC,lyD,lyE,lyF];refine sM 8 ?_ rfl (by kernel_rfl) (λ_ _ _ h=>h) (by rfl) ?_ ik ?_;rotate_left
     ·intro w' dH;obtain⟨s0,s1,s2,s3⟩:=dH;go_simp;with_reducible rfl
     simp only[Act.put,lyA,lyB,lyC,lyD,lyE,lyF];refine wpAnyH_ready (rs:=[9]) (by kernel_rfl) (by simp) ?_;refine AllReadyH.cons rfl (λK hK=>?_) AllReadyH.nil;go_simp;refine qu (k:=ms.length-1) c3 d0 d1 To Dj (by omega) (λl_ yZ=>?_);have je:=pL.o.drew.below yZ;refine hK.out _ _ ⟨je.cell 9 rfl 0 rfl,je.cell 7 rfl 0 rfl,je.cell 1 rfl 5 rfl,zW.o _ _ je rfl⟩ (λik=>?_);clear hK K
     (try simp only[Act.put,lyA,lyB,lyC,lyD,lyE,lyF])
     have T9:=qh yZ;have u7:=je.cell 7 rfl 0 rfl;have u6:=je.cell 1 rfl 6 rfl;have rY:=qh je;clear je yZ c3 d0 d1 To Dj;cases kk: ((v.wi m).getD 0 !=ms[0].1.of);all_goals
      refine sM 10 ?_ rfl (by kernel_rfl) (λ_ _ _ h=>h) (by rfl) ?_ ik ?_;rotate_left
      ·intro w' dH;obtain⟨s0,s1,s2,s3⟩:=dH;go_simp;with_reducible rfl
      simp only[Act.put,lyA,lyB,lyC,lyD,lyE,lyF];refine sM 11 ?_ rfl (by kernel_rfl) (λ_ _ _ h=>h) (by rfl) ?_ ik ?_;rotate_left
      ·intro w' dH;obtain⟨s0,s1,s2,s3⟩:=dH;go_simp;with_reducible rfl
      simp only[Act.put,lyA,lyB,lyC,lyD,lyE,lyF];refine sM 12 ?_ rfl (by kernel_rfl) (λ_ _ _ h=>h) (by rfl) ?_ ik ?_;rotate_left
      ·intro w' dH;obtain⟨s0,s1,s2,s3⟩:=dH;go_simp;with_reducible rfl
      simp only[Act.put,lyA,lyB,lyC,lyD,lyE,lyF];refine wpAnyH_done (by kernel_rfl) ?_ _
     ·gi_wp2
      have Qa: (if(true&&decide ((v.wi m).getD 0≠oV frs))=true then λk=>if k=m then true else v.ca k else v.ca)=v.ca:=by
       rw[Sy.o];simp at kk;simp[kk]
      exact⟨(Q6.o.trans ((KeepsOthers.drew _).from _)).trans (r9 T9.o _),rfl,pre,x,m,.slice (some ⟨g8,0,none⟩) (v.out.length+1) qQ,nc,rfl,Gr,HQ.o,by omega,by rw[Qa];exact Qn ME (rY.o.pick [0,1,2,3,4,5,6])⟩
     ·obtain⟨Dc,acw,XL⟩:=rY.o.fi 5 rfl
      gi_wp2_with (gi_at_mapUpdate;go_loud(refine wpListIn_mapUpdate_own _ rfl _ _ _ 89 rfl 3 4 cy underlying89 _ cb nc Dc rfl acw (by unfold maxLen;omega) _ _ _ rfl rfl (Maps.keyOf_int_mk underlying3 oj) _ [] (plainElem_bool underlying4 true) ?_);intro abf PC D9)
      have mO:=rY.o.ml 5 rfl D9 PC (Ψ:=cS (λk=>if k=m then true else v.ca k)) (AF XL m _);have Qa: (if(true&&decide ((v.wi m).getD 0≠oV frs))=true then λk=>if k=m then true else v.ca k else v.ca)=(λk=>if k=m then true else v.ca k):=by
       rw[Sy.o];simp at kk;simp[kk]
      exact⟨((Q6.o.trans ((KeepsOthers.drew _).from _)).trans (r9 T9.o _)).trans (KeepsFrom.of_grownBy D9 (λj e=>by cases e;exact ME)),rfl,pre,x,m,.slice (some ⟨g8,0,none⟩) (v.out.length+1) qQ,nc+1,rfl,Gr,HQ.o,nR _,by rw[Qa];exact Qn ME (mO.pick [0,1,2,3,4,5,6])⟩
 case done=>
  rintro D ys W hD rfl ⟨hB,R8⟩ hK
  have h6:=H5.o.below hB;have z0:=h6.cell 7 rfl 0 rfl;have z8:=h6.cell 10 rfl 8 rfl;clear h6
  gi_wp2_with fail
  refine⟨trivial,callsIn_wide.2 (vB (e:=5) (p:=nd.pos) ?_)⟩;refine⟨by simp,.inl ⟨_,_,rfl,run_takeDeferred hK,?_⟩⟩;refine aB.o (5,nd.pos) _ ?_ ?_
  ·unfold Ty.kF;rw[<-gS,ui ms nd.text (λk hk=>R8 ⟨k,hk⟩ (by unfold F4;rw[List.take_of_length_le (by simp)];exact List.mem_finRange _))]
  ·have dL:Below W1.heap.size W1 (W.putObj D (.deferred none)):=hB.trans (belowK_b (w:=W1) (nR _) W D _ _ hD hK rfl rfl);exact(H5.o.below dL).pick [0]
 case stop=>
  rintro D q pre W hD ⟨k,hk,rfl⟩ ⟨rfl,Ub,last,m,ew,T4,e1,e2,e3,e4,abh⟩ hK
  gi_wp2
  refine⟨by simp,.inl ⟨_,_,rfl,run_takeDeferred hK,?_⟩⟩;obtain⟨k',rfl⟩:∃k',k=k'+1:=by
   cases k with
   |zero=>simp[F4]at e1
   |succ k'=>exact⟨k',rfl⟩
  rw[vE (by omega)]at e1
  obtain⟨rfl,e5⟩:=List.append_inj' e1 rfl;obtain rfl: (⟨k',by omega⟩:Fin ms.length)=last:=by simpa using e5
  have h7:=(abh.Sz (grownBy_putObj' W D (.deferred none)) (λr e=>by cases e;exact⟨hD,_,hK,rfl⟩)).sat;have h8:=(((h7.cL (i:=0) rfl (Q:=Fr) (λ_ h=>h.1)).cL (i:=2) rfl (Q:=xu _ ms) (λ_ h=>h.1)).cL (i:=4) rfl (Q:=mapA 3 3 wb nw (cF v.wi)) (λ_ h=>h.1)).cL (i:=6) rfl (Q:=ko ms) (λ_ h=>h.1);have h9:=Sat.yq (v:={v with out:=v.out++[(id,m)],ca:=if set&&decide ((v.wi m).getD 0≠oV frs)then λk=>if k=m then true else v.ca k else v.ca}) gS h8;have dG:=h9.vF (c:=c+1) (by omega) (by omega) ⟨oS.ne,by have:=oS.len;omega,λfr hf=>by have:=oS.names fr hf;omega,oS.Ot,by have:=oS.out;simp;omega⟩;refine⟨_,results_none rfl _ _ _,aX.o _ _ ?_ dG⟩;unfold Ty.kF;rw[<-gS,vm ms nd.text k' (by omega) m (λj hj Ih=>e2 ⟨j,hj⟩ ?_) e3];simp only[F4,List.mem_take_iff_getElem];exact⟨j,by simp;omega,by simp⟩
end
end
end Go.Proofs.YtdlbhiaceheffabGreatDoor
