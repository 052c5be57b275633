/- Walk of bind: use of a name. -/
import Derived.Maps.OwnIn
import Derived.Test.YtdlbhiaceheffabGreatDoorP33
set_option linter.all false
set_option maxRecDepth 100000
set_option maxHeartbeats 8000000
namespace Go.Proofs.YtdlbhiaceheffabGreatDoor
open Go Go.RowKit Ty Tok ak Tryz Proofs.Tryz
section
open ak (Sat As ay cn cA star ah Hp le qL hp SatF Bw low)
open Ty (Frm Vg aO kB e_ kq)
namespace Ty
theorem um:∀(ms:List (Frm×Nat))(x:BA),(∀k(h:k<ms.length),e_ ms[k].1.names x=none)→kq (ms.map Prod.fst) x=none
 |[],_,_=>rfl
 |p::ms,x,h=>by
  have h0:e_ p.1.names x=none:=h 0 (by simp);rw[List.map_cons,kq,h0];exact um ms x λk hk=>h (k+1) (by simp;omega)
theorem tP:∀(ms:List (Frm×Nat))(x:BA)(k:Nat)(hk:k<ms.length)(m:Nat),(∀j(h:j<ms.length),j<k→e_ ms[j].1.names x=none)→e_ ms[k].1.names x=some m→kq (ms.map Prod.fst) x=some m
 |[],_,k,hk,_,_,_=>absurd hk (by simp)
 |p::ms,x,0,_,m,_,h2=>by
  have h0:e_ p.1.names x=some m:=h2;rw[List.map_cons,kq,h0]
 |p::ms,x,k+1,hk,m,h,h2=>by
  have h0:e_ p.1.names x=none:=h 0 (by simp) (by omega);rw[List.map_cons,kq,h0];exact tP ms x k (by simpa using hk) m (λj hj Hx=>h (j+1) (by simp;omega) (by omega)) h2
end Ty
theorem Bm{w:World}:∀(ms:List (Frm×Nat))(a:Hp),kC ms a→le a (hp w)→∀k(h:k<ms.length),∃D,w.ownsMap prog 9 (plainElem prog 3) ms[k].2 ms[k].1.names.length D∧kI ms[k].1.names D
 |[],_,_,_,k,h=>absurd h (by simp)
 |p::ms,a,ha,hl,k,h=>by
  obtain⟨x,y,_,hx,hy,⟨es,clock,g1,g2,g3,g4⟩,y1,y2,_,Xh,_,hm,_⟩:=ha;cases k with
  |zero=>exact⟨_,⟨es,clock,hl _ _ (hx _ _ g1),g2,g3,rfl⟩,g4⟩
  |succ k=>exact Bm ms y1 hm (λj o e=>hl _ _ (hy _ _ (Xh _ _ e))) k (by simpa using h)
theorem ak.Sat.Ps{wB w:World}{L:List As}{i:Nat}{ms:List (Frm×Nat)}(h:Sat wB w L)(hi:L[i]?=some (kC ms))(k:Nat)(hk:k<ms.length):
  ∃D,w.ownsMap prog 9 (plainElem prog 3) ms[k].2 ms[k].1.names.length D∧kI ms[k].1.names D:=h.get hi λa ha hl=>Bm ms a ha hl k hk
theorem xX{w:World}{v:Value}{ms:List (Frm×Nat)}(bZ:ms≠[])(h:w.ownsRow 0 195 2 v ms.length (ms.reverse.flatMap iK)):
  ∃g cap:Nat,v=.slice (some ⟨g,0,none⟩) ms.length cap∧g<w.heap.size∧GY w g ms:=by
 obtain⟨g,cap,rfl,_,hg⟩:=h.form (by have:=List.length_pos_iff.2 bZ;omega);have hc:=λj u hj=>World.ownsRow.cells h (g:=g) rfl j u hj
 refine⟨g,cap,rfl,hg,λk hk=>?_⟩;have hf:=jD iK 2 (λ_=>rfl) ms.reverse (ms.length-1-k) (by simp;omega);have he:ms.reverse[ms.length-1-k]'(by simp;omega)=ms[k]:=by
  rw[List.getElem_reverse];congr 1;omega
 rw[he]at hf
 constructor
 ·have:=hc ((ms.length-1-k)*2+0) _ (by rw[hf 0 (by omega)];rfl);rwa [Addr.add_lit,Nat.zero_add]at this
 ·have:=hc ((ms.length-1-k)*2+1) _ (by rw[hf 1 (by omega)];rfl);rwa [Addr.add_lit,Nat.zero_add]at this
theorem rZ{W W':World}(hb:Below W.heap.size W W')(B:Nat):KeepsFrom B W W':=⟨hb.size,λk o _ hk _=>(hb.block k (Array.getElem?_eq_some_iff.1 hk).1).trans hk⟩
theorem Pz{B:Nat}{w0 w:World}{P0 P2 P4 P6:As}{bb cb n2:Nat}{cs:Array Value}{t:TypeId}{ov:Value}{l:List (Nat×Nat)}{Φ:Dm→Prop}(gU:cb<B)
  (h:Sat w0 w [low B P0,ay bb (.cells cs t (0,0)),low B P2,sY ov l,low B P4,mapA 3 4 cb n2 Φ,low B P6]):SatF B w0 w [low B P0,ay bb (.cells cs t (0,0)),low B P2,sY ov l,low B P4,mapA 3 4 cb n2 Φ,low B P6]:=
 h.abR λi P hi=>by
  match i with
  |0=>cases hi;exact qK _ _
  |1=>cases hi;exact Jo _ _ _ _ _
  |2=>cases hi;exact qK _ _
  |3=>cases hi;exact J2 _ _ _ _ _ _
  |4=>cases hi;exact qK _ _
  |5=>cases hi;exact Fp gU
  |6=>cases hi;exact qK _ _
  |i+7=>simp at hi
theorem K6{ms:List (Frm×Nat)}{frs:List Frm}(h:ms.map Prod.fst=frs)(hp:0<ms.length):o7 frs=ms[0].1.of:=by
 subst h;cases ms with
 |nil=>simp at hp
 |cons p ms=>rfl
theorem CH{W W':World}{e:TypeId}{size n:Nat}{v:Value}{xs:List Value}(bJ:W.ownsRow 0 e size v n xs)(hg:W.grownBy W' v.ownBlock)(B:Nat):KeepsFrom B W W':=by
 refine⟨hg.size,λk o _ hk ho=>(hg.block k (Array.getElem?_eq_some_iff.1 hk).1 λe=>?_).trans hk⟩;rcases bJ.2 with⟨rfl,_⟩|⟨g,cap,cur,rfl,_,hb,_⟩
 ·cases e
 ·have:g=k:=by simpa [Value.ownBlock]using e.symm
  subst this;rw[hb]at hk
  cases hk;cases ho
attribute [local go_sem] Oper.semAt_some
section
variable {wB w:World} {Fr:As} {bb:Nat} {nv tv:Value} {pg:Ty.Pg} {main:Int} {frs:List Frm} {v:Vg} {c:Nat}
theorem DS(hP:PB wB nv tv pg){id:Nat}{nd:Ty.Nd}(hn:pg.ns[id]?=some nd)(set:Bool)(hF:jH wB Fr)(H:Sat wB w [Fr,pJ bb nv tv main c frs v])(hc:c+1≤100000){R:EW}
  (aF:∀v' w',kB nd.pos nd.text id set frs v=.ok v'→Sat wB w' [Fr,pJ bb nv tv main (c+1) frs v']→R (.returned (.tuple #[])) w')
  (av:∀f w',kB nd.pos nd.text id set frs v=.error f→Sat wB w' [Fr]→R (.panicked (aJ f)) w'):
  Calls prog 214 #[.pointer (some ⟨bb,0,none⟩),.int .i64 (id:Nat),.bool set] w R:=by
 obtain⟨nw,nc,vL,vP,o9,h1⟩:=H.iL;obtain⟨sv,ov,wb,cb,ms,gT,h2⟩:=h1.gO;have Nk:ms≠[]:=by rintro rfl;exact o9.ne gT.symm
 have xZ:ms.length≤100000:=by have:=o9.len;have:=congrArg List.length gT;simp at*;omega
 have hx:nd.text.size≤maxLen:=by
  obtain⟨_,_,_,_,_,_,_,_,_,_,MV,_⟩:=hP.look hn;have:=MV.size;unfold maxLen;omega
 obtain⟨g,cap,rfl,hg,AO⟩:=xX Nk (h2.row 2 rfl);have h3:=((h2.aj (.cells #[.pointer (some ⟨bb,0,none⟩)] 142) w.heap.size).aj (.cells #[.int .i64 (id:Nat)] 3) (w.heap.size+1) (by simp)).aj (.cells #[.bool set] 4) (w.heap.size+2) (by simp);have k0:=h3.cell 1 rfl 0 rfl;have gB:=h3.lt 1 rfl
 (try dsimp only at k0)
 have H3:=qh h3;have aY:=qh aF;have aB:=qh av;have HF:=qh hF;have acT:=qh AO;clear aF av hF H h1 h2 h3 AO;refine callsIn_wide (n:=3)|>.1 ?_;refine callsIn_of_wp_marks func214 rfl trivial ?_ rfl;simp only[ntmps214,List.size_toArray,List.length_cons,List.length_nil,Nat.reduceAdd,Nat.reduceSub,Array.replicate_succ,Array.replicate_zero,List.push_toArray,List.append_toArray,List.nil_append,List.cons_append]
 gi_wp2_with fail
 refine⟨trivial,callsIn_wide.2 (dC hP (HF.o _ _ 0 H3.o rfl) hn k0 gB (λlv w2 aI cI=>?_))⟩;obtain⟨la,lc,rfl⟩:=ag cI;unfold aK;have h4:=(H3.o.below aI).aj (aD nd (.slice la nd.list.length lc)) w2.heap.size;have y0:=(H3.o.below aI).cell 7 rfl 0 rfl;have y1:=(H3.o.below aI).cell 8 rfl 0 rfl;have y2:=(H3.o.below aI).cell 9 rfl 0 rfl;have ab3:=(H3.o.below aI).lt 7 rfl;have Xh:=(H3.o.below aI).lt 8 rfl;have acL:=(H3.o.below aI).lt 9 rfl;have c3:=(H3.o.below aI).cell 1 rfl 3 rfl;have dD:=(H3.o.below aI).lt 1 rfl;have H4:=qh h4;clear h4 aI cI H3 k0 gB
 gi_wp2_with fail
 refine⟨trivial,(MI Fence.wide 2 trivial rfl _ _ _ _).mono ?_⟩
 rintro e w3 ⟨rfl,rfl⟩
 gi_wp2_with fail
 have h5:Sat wB ((w2.alloc (.cells #[.int .i64 nd.kind,.int .i64 nd.a,.int .i64 nd.b,.int .i64 nd.c,.slice la nd.list.length lc,.string nd.text,.int .i64 nd.n,.int .i64 nd.ty,.int .i64 nd.pos] 66)).alloc (.cells #[.slice (some ⟨g,0,none⟩) ms.length cap] 143)) _:=(H4.o.aj (.cells #[.slice (some ⟨g,0,none⟩) ms.length cap] 143) (w2.heap.size+1) (by simp))
 have Et:Below w2.heap.size w2 ((w2.alloc (.cells #[.int .i64 nd.kind,.int .i64 nd.a,.int .i64 nd.b,.int .i64 nd.c,.slice la nd.list.length lc,.string nd.text,.int .i64 nd.n,.int .i64 nd.ty,.int .i64 nd.pos] 66)).alloc (.cells #[.slice (some ⟨g,0,none⟩) ms.length cap] 143)):=((bR _ _).alloc (nR _) _).alloc (by simp) _;have aa9: ((w2.alloc (.cells #[.int .i64 nd.kind,.int .i64 nd.a,.int .i64 nd.b,.int .i64 nd.c,.slice la nd.list.length lc,.string nd.text,.int .i64 nd.n,.int .i64 nd.ty,.int .i64 nd.pos] 66)).alloc (.cells #[.slice (some ⟨g,0,none⟩) ms.length cap] 143)).heap.size=w2.heap.size+2:=by simp
 generalize(w2.alloc (.cells #[.int .i64 nd.kind,.int .i64 nd.a,.int .i64 nd.b,.int .i64 nd.c,.slice la nd.list.length lc,.string nd.text,.int .i64 nd.n,.int .i64 nd.ty,.int .i64 nd.pos] 66)).alloc (.cells #[.slice (some ⟨g,0,none⟩) ms.length cap] 143)=W1 at h5 Et aa9⊢;obtain⟨g',Ao,e,ab1,AO⟩:=xX Nk (h5.row 2 rfl);cases e;have KR:=h5.cell 11 rfl 0 rfl;have Pq:Sat wB W1 [low W1.heap.size Fr,ay bb (Ez nv tv main (.slice (some ⟨g,0,none⟩) ms.length cap) ov wb cb),low W1.heap.size (wO (.slice (some ⟨g,0,none⟩) ms.length cap) ms),sY ov v.out,low W1.heap.size (mapA 3 3 wb nw (cH v.wi)),mapA 3 4 cb nc (cZ v.ca),low W1.heap.size (kC ms),
  ay w.heap.size (.cells #[.pointer (some ⟨bb,0,none⟩)] 142 (0,0)),ay (w.heap.size+1) (.cells #[.int .i64 (id:Nat)] 3 (0,0)),ay (w.heap.size+2) (.cells #[.bool set] 4 (0,0)),ay w2.heap.size (aD nd (.slice la nd.list.length lc))]:=
  (((((((h5.CW (nR _)).cG (i:=1) rfl (λ_ h=>h.1)).cG (i:=3) rfl (λ_ h=>h.1)).cG (i:=5) rfl (λ_ h=>h.1)).cG (i:=7) rfl (λ_ h=>h.1)).cG (i:=8) rfl (λ_ h=>h.1)).cG (i:=9) rfl (λ_ h=>h.1)).cG (i:=10) rfl (λ_ h=>h.1)|>.pick [0,1,2,3,4,5,6,7,8,9,10]
 have Wm:=qh Pq;clear Pq;have Ms:=h5.Rz 5 rfl;have H5:=qh h5;have Wz:=qh AO;have abH:=qh KR;have HZ:Hq (∀W:World,(zeroValue 3).run prog W=.ok (.int .i64 0) W):=λW=>by simp[zeroValue,go_sem];rfl
 clear h5 AO KR y0 y1 y2 ab3 Xh acL c3 dD;refine wpIn_rangeFunc_ownH (α:=Fin ms.length) rfl (by omega) (gf:=321) (lb:=#[.pointer (some ⟨w2.heap.size+1,0,none⟩)]) rfl trivial (enters_of func321 (by kernel_rfl) rfl)
  (DK Fence.wide 2 trivial rfl (by omega) (w2.heap.size+1) W1.heap.size g cap ms (by omega) W1 (by omega) ab1 (nR _) abH.o Wz.o) belowK_t (belowK_b (nR _)) (bR _ _) (λ_=>rfl)
  (λpre W=>Below W1.heap.size W1 W∧∀k∈pre,e_ ms[k.1].1.names nd.text=none)
  (λq pre W=>q=.ret∧∃(RQ:List (Fin ms.length))(last:Fin ms.length)(m:Nat)(eI:Value)(R6:Nat),pre=RQ++[last]∧(∀k∈RQ,e_ ms[k.1].1.names nd.text=none)∧e_ ms[last.1].1.names nd.text=some m∧R6≤nc+1∧
   SatF W1.heap.size wB W [low W1.heap.size Fr,ay bb (Ez nv tv main (.slice (some ⟨g,0,none⟩) ms.length cap) eI wb cb),low W1.heap.size (wO (.slice (some ⟨g,0,none⟩) ms.length cap) ms),sY eI (v.out++[(id,m)]),low W1.heap.size (mapA 3 3 wb nw (cH v.wi)),
    mapA 3 4 cb R6 (cZ (if set&&decide ((v.wi m).getD 0≠o7 frs)then λk=>if k=m then true else v.ca k else v.ca)),low W1.heap.size (kC ms)])
  (OwnFrom.and (ownFrom_below (nR _) (nR _)) (ownFrom_pure _ _))
  (λq pre A B row hs hg hr=>by
   obtain⟨e1,RQ,last,m,eI,R6,e2,e3,e4,e5,e6⟩:=hs;exact⟨e1,RQ,last,m,eI,R6,e2,e3,e4,e5,e6.O' hg hr⟩)
  ⟨bR _ _,by simp⟩
  (λx a' W=>∃Bx,W1.heap.size≤Bx∧Bx<W.heap.size∧W.cell? ⟨Bx,0,none⟩=some (.map (some ms[x.1].2))∧W.cell? ⟨Bx,1,none⟩=some (.int .i64 ms[x.1].1.of)∧a'={tmps:=#[.pointer (some ⟨bb,0,none⟩),.int .i64 (id:Nat),.bool set,.pointer (some ⟨w.heap.size,0,none⟩),.pointer (some ⟨w.heap.size+1,0,none⟩),.pointer (some ⟨w.heap.size+1+1,0,none⟩),.pointer (some ⟨w2.heap.size,0,none⟩),undef,.pointer (some ⟨Bx,0,none⟩),undef,undef,.pointer (some ⟨bb,0,none⟩),.int .i64 (id:Nat),.agg #[.int .i64 nd.kind,.int .i64 nd.a,.int .i64 nd.b,.int .i64 nd.c,.slice la nd.list.length lc,.string nd.text,.int .i64 nd.n,.int .i64 nd.ty,.int .i64 nd.pos],.pointer (some ⟨bb,0,none⟩),.pointer (some ⟨bb,0,none⟩),.pointer (some ⟨bb,3,none⟩),.slice (some ⟨g,0,none⟩) ms.length cap,.func (.func 321) #[] #[.pointer (some ⟨w2.heap.size+1,0,none⟩)],.int .i64 ((ms.length:Int)-1-(x.1:Int)),.agg #[.map (some ms[x.1].2),.int .i64 ms[x.1].1.of],undef,undef,undef,undef,undef,undef,undef,undef,undef,undef,undef,undef,undef,undef,undef,undef,undef,undef,undef,undef,undef,undef,undef,undef,undef,undef,undef,undef,undef,undef,undef,undef,undef,undef,undef,undef,undef,undef,undef,undef,undef,undef,undef],defers:=[]})
  (λx a' u A B row hs hg hr=>by
   obtain⟨Bx,e1,e2,e3,e4,e5⟩:=hs;exact⟨Bx,e1,nL e2 hg.size,cell_kept e3 hg (λr e=>(hr r e).2),cell_kept e4 hg (λr e=>(hr r e).2),e5⟩)
  ?assign ?body ?done ?stop
 case assign=>
  rintro l pre x W K ⟨hB,GX⟩ hK
  unfold M3
  gi_wp2
  exact hK _ _ ((KeepsOthers.alloc _ _).from _) ((bR _ W).alloc hB.size _) ⟨hB.alloc hB.size _,GX⟩ ⟨W.heap.size,hB.size,by simp,by simp,by simp,rfl⟩
 case body=>
  rintro l pre x a' W hl ⟨r,hr⟩ ⟨hB,GX⟩ ⟨Bx,ac0,ac9,aac,PG,rfl⟩ bm
  have h6:=Wm.o.below hB;obtain⟨D,hD,mF⟩:=(h6.cG (i:=6) rfl (Q:=kC ms) (λ_ h=>h.1)).Ps (i:=6) rfl x.1 x.2;obtain⟨u,ps,qy,hu⟩:=hD.look_ok u9 underlying193 (HZ.o W) (plainElem_int underlying3 (by decide)) (WideMaps.keyOf_string_mk underlying9 hx);obtain⟨cc,rfl,zf,od⟩:=plainElem_int_inv underlying3 hu;rw[(mF.2 nd.text).1]at qy
  have x5:=h6.cell 10 rfl 5 rfl;have ac2:=hB.size;cases hq:e_ ms[x.1].1.names nd.text with
  |none=>
   rw[hq]at qy
   have HQ:=qh hq;clear hq h6 hD mF hu
   gi_wp2
   refine⟨KeepsFrom.refl _ _,bR _ _,hB,λk hk=>?_⟩;rcases List.mem_append.1 hk with hk|hk
   ·exact GX k hk
   ·rw[List.mem_singleton.1 hk];exact HQ.o
  |some m=>
   rw[hq]at qy
   have hm:=(mF.2 nd.text).2 m hq;have Hl:cc=(m:Int):=by
    have:=congrArg Prod.fst zf;dsimp only at this;rw[hm]at this
    cases this;rfl
   subst Hl;have HQ:=qh hq;have H6:=qh h6;clear hq h6 hD mF hu zf hm
   gi_wp2
   have z0:=H6.o.drew.cell 7 rfl 0 rfl;have z1:=H6.o.drew.cell 8 rfl 0 rfl;have hS:W.drew.cell? ⟨w.heap.size,0,none⟩=some (.pointer (some ⟨bb,0,none⟩))∧W.drew.cell? ⟨w.heap.size+1,0,none⟩=some (.int .i64 (id:Nat)):=⟨z0,z1⟩
   refine iA (S:=λw'=>w'.cell? ⟨w.heap.size,0,none⟩=some (.pointer (some ⟨bb,0,none⟩))∧w'.cell? ⟨w.heap.size+1,0,none⟩=some (.int .i64 (id:Nat))) (by kernel_rfl) (λ_ _ h=>h) (yx (by kernel_rfl)) ?_;refine sS 0 ?_ rfl (by kernel_rfl) (λ_ _ _ h=>h) (by rfl) ?_ hS ?_;rotate_left
   ·intro w' dN;obtain⟨s0,s1⟩:=dN;go_simp;with_reducible rfl
   simp only[Act.put,lyA,lyB,lyC,lyD,lyE,lyF];refine sS 1 ?_ rfl (by kernel_rfl) (λ_ _ _ h=>h) (by rfl) ?_ hS ?_;rotate_left
   ·intro w' dN;obtain⟨s0,s1⟩:=dN;go_simp;with_reducible rfl
   simp only[Act.put,lyA,lyB,lyC,lyD,lyE,lyF];refine sS 2 ?_ rfl (by kernel_rfl) (λ_ _ _ h=>h) (by rfl) ?_ hS ?_;rotate_left
   ·intro w' dN;obtain⟨s0,s1⟩:=dN;go_simp;with_reducible rfl
   simp only[Act.put,lyA,lyB,lyC,lyD,lyE,lyF];refine sS 3 ?_ rfl (by kernel_rfl) (λ_ _ _ h=>h) (by rfl) ?_ hS ?_;rotate_left
   ·intro w' dN;obtain⟨s0,s1⟩:=dN;go_simp;with_reducible rfl
   simp only[Act.put,lyA,lyB,lyC,lyD,lyE,lyF];refine sS 5 ?_ rfl (by kernel_rfl) (λ_ _ _ h=>h) (by rfl) ?_ hS ?_;rotate_left
   ·intro w' dN;obtain⟨s0,s1⟩:=dN;go_simp;with_reducible rfl
   simp only[Act.put,lyA,lyB,lyC,lyD,lyE,lyF];refine sS 6 ?_ rfl (by kernel_rfl) (λ_ _ _ h=>h) (by rfl) ?_ hS ?_;rotate_left
   ·intro w' dN;obtain⟨s0,s1⟩:=dN;go_simp;with_reducible rfl
   simp only[Act.put,lyA,lyB,lyC,lyD,lyE,lyF];refine sS 7 ?_ rfl (by kernel_rfl) (λ_ _ _ h=>h) (by rfl) ?_ hS ?_;rotate_left
   ·intro w' dN;obtain⟨s0,s1⟩:=dN;go_simp;with_reducible rfl
   simp only[Act.put,lyA,lyB,lyC,lyD,lyE,lyF];obtain⟨oa,oc,rfl⟩:=ag (H6.o.row 3 rfl);obtain⟨i0,ti,mx,mu,mw⟩:=info_parts QC;have Xc:=o9.out;have c2:=H6.o.drew.cell 1 rfl 4 rfl;have Nv:=H6.o.cell 1 rfl 4 rfl;have JV:=H6.o.lt 1 rfl;have Z':=H6.o.lt 7 rfl;have kN:=H6.o.lt 8 rfl;have WV:=λo=>(show(W.drew.alloc o).cell? ⟨w.heap.size,0,none⟩=some (.pointer (some ⟨bb,0,none⟩))∧(W.drew.alloc o).cell? ⟨w.heap.size+1,0,none⟩=some (.int .i64 (id:Nat))from⟨(H6.o.drew.aU o).cell 7 rfl 0 rfl,(H6.o.drew.aU o).cell 8 rfl 0 rfl⟩)
   refine wpAnyH_ready (rs:=[4,8]) (by kernel_rfl) (by simp) ?_;refine AllReadyH.cons rfl (λK hK=>?_) (AllReadyH.cons rfl (λK hK=>?_) AllReadyH.nil);all_goals go_simp
   refine hK.out _ _ hS (λhHeld=>?_);rotate_left;refine hK.out _ _ (WV _) (λhHeld=>?_);rotate_left;all_goals clear hK K hHeld
   refine wpAnyH_ready (rs:=[8]) (by kernel_rfl) (by simp) ?_;rotate_left;refine wpAnyH_ready (rs:=[4]) (by kernel_rfl) (by simp) ?_;rotate_left;all_goals refine AllReadyH.cons rfl (λK hK=>?_) AllReadyH.nil
   all_goals go_simp
   all_goals refine hK.out _ _ (WV _) (λhHeld=>?_)
   all_goals clear hK K hHeld
   all_goals
    refine wpAnyH_ready (rs:=[9]) (by kernel_rfl) (by simp) ?_;refine AllReadyH.cons rfl (λK hK=>?_) AllReadyH.nil;refine step_append_lies _ (by rfl) _ _ _ (by rfl) 0 43 i0 _ 2 16 underlying36 ti mx mu mw rfl (by omega) (.slice oa v.out.length oc) v.out.length (v.out.flatMap dY) (by rfl) ((H6.o.drew.row 3 rfl).alloc _) ⟨W.heap.size,0,none⟩ 1 1 [.int .i64 (id:Nat),.int .i64 (m:Nat)] (by rfl) (by rfl) (World.news_of_block (cs:=#[.int .i64 (id:Nat),.int .i64 (m:Nat)]) (t:=43) (fr:=(0,0)) (aH _ _ _ (by simp))) (by simp[Value.oneCell']) (by omega) (by unfold maxLen;omega) (by omega) (by simp) (W.heap.size+1) (by simp) ?_;intro g8 mX w8 kT hV yW L3;have h8:=Sat.grow (H6.o.drew.aU _) 3 rfl hV kT (by simpa using yW);have LJ:w8.cell? ⟨w.heap.size,0,none⟩=some (.pointer (some ⟨bb,0,none⟩))∧w8.cell? ⟨w.heap.size+1,0,none⟩=some (.int .i64 (id:Nat)):=⟨h8.cell 7 rfl 0 rfl,h8.cell 8 rfl 0 rfl⟩
    have d4:=h8.cell 1 rfl 4 rfl;have e4:=h8.free 1 rfl 4;have H8:=qh h8;have ZL:=qh hV;clear h8 kT hV yW;refine hK.out _ _ LJ (λhHeld=>?_);clear hK K hHeld
    (try simp only[Act.put,lyA,lyB,lyC,lyD,lyE,lyF])
    refine sS 10 ?_ rfl (by kernel_rfl) (λ_ _ _ h=>h) (by rfl) ?_ LJ ?_;rotate_left
    ·intro w' dN;obtain⟨s0,s1⟩:=dN;go_simp;with_reducible rfl
    simp only[Act.put,lyA,lyB,lyC,lyD,lyE,lyF];refine sS 11 ?_ rfl (by kernel_rfl) (λ_ _ _ h=>h) (by rfl) ?_ LJ ?_;rotate_left
    ·intro w' dN;obtain⟨s0,s1⟩:=dN;go_simp;with_reducible rfl
    simp only[Act.put,lyA,lyB,lyC,lyD,lyE,lyF];refine wpAnyH_ready (rs:=[12]) (by kernel_rfl) (by simp) ?_;refine AllReadyH.cons rfl (λK hK=>?_) AllReadyH.nil;go_simp;have h9:=H8.o.store 1 rfl 4 (.slice (some ⟨g8,0,none⟩) (v.out.length+1) mX);refine hK.out _ _ ⟨h9.cell 7 rfl 0 rfl,h9.cell 8 rfl 0 rfl⟩ (λhHeld=>?_);clear hK K hHeld;refine wpAnyH_done (by kernel_rfl) ?_ _;have dS:=h9.cG (i:=3) rfl (Q:=sY (.slice (some ⟨g8,0,none⟩) (v.out.length+1) mX) (v.out++[(id,m)])) (λ_ h=>Jc h);have YR:KeepsFrom W1.heap.size W (w8.setCell ⟨bb,4,none⟩ (.slice (some ⟨g8,0,none⟩) (v.out.length+1) mX)):=((((KeepsOthers.drew W).trans (KeepsOthers.alloc _ _)).from _).trans (CH ((H6.o.drew.row 3 rfl).alloc _) ZL.o _)).trans ((KeepsOthers.setCell _ _ _).from _);have sr:=qh dS;have Q8:=qh YR;clear h9 dS YR H8 ZL LJ d4 e4;generalize w8.setCell ⟨bb,4,none⟩ (.slice (some ⟨g8,0,none⟩) (v.out.length+1) mX)=w9 at sr Q8⊢
    gi_wp2
    clear hS WV c2 Nv JV Z' kN z0 z1 aac PG qy H6 x5;cases set
    ·have iv:w9.drew.cell? ⟨w.heap.size+1+1,0,none⟩=some (.bool false)∧True:=⟨sr.o.drew.cell 9 rfl 0 rfl,trivial⟩
     refine iA (S:=λw'=>w'.cell? ⟨w.heap.size+1+1,0,none⟩=some (.bool false)∧True) (by kernel_rfl) (λ_ _ h=>h) (yx (by kernel_rfl)) ?_;refine sS 0 ?_ rfl (by kernel_rfl) (λ_ _ _ h=>h) (by rfl) ?_ iv ?_;rotate_left
     ·intro w' dN;obtain⟨s0,_⟩:=dN;go_simp;with_reducible rfl
     simp only[Act.put,lyA,lyB,lyC,lyD,lyE,lyF];refine sS 1 ?_ rfl (by kernel_rfl) (λ_ _ _ h=>h) (by rfl) ?_ iv ?_;rotate_left
     ·intro w' dN;obtain⟨s0,_⟩:=dN;go_simp;with_reducible rfl
     simp only[Act.put,lyA,lyB,lyC,lyD,lyE,lyF];refine wpAnyH_take (i:=2) (v:=undef) rfl (by kernel_rfl) (by kernel_rfl) (by kernel_rfl) (λ_ _ _ h=>h) (Or.inr ⟨by kernel_rfl,rfl⟩) iv ?_;simp only[Act.put,lyA,lyB,lyC,lyD,lyE,lyF];refine wpAnyH_take (i:=3) (v:=undef) rfl (by kernel_rfl) (by kernel_rfl) (by kernel_rfl) (λ_ _ _ h=>h) (Or.inr ⟨by kernel_rfl,rfl⟩) iv ?_;simp only[Act.put,lyA,lyB,lyC,lyD,lyE,lyF];refine wpAnyH_take (i:=4) (v:=undef) rfl (by kernel_rfl) (by kernel_rfl) (by kernel_rfl) (λ_ _ _ h=>h) (Or.inr ⟨by kernel_rfl,rfl⟩) iv ?_;simp only[Act.put,lyA,lyB,lyC,lyD,lyE,lyF];refine wpAnyH_take (i:=5) (v:=undef) rfl (by kernel_rfl) (by kernel_rfl) (by kernel_rfl) (λ_ _ _ h=>h) (Or.inr ⟨by kernel_rfl,rfl⟩) iv ?_;simp only[Act.put,lyA,lyB,lyC,lyD,lyE,lyF];refine wpAnyH_take (i:=6) (v:=undef) rfl (by kernel_rfl) (by kernel_rfl) (by kernel_rfl) (λ_ _ _ h=>h) (Or.inr ⟨by kernel_rfl,rfl⟩) iv ?_;simp only[Act.put,lyA,lyB,lyC,lyD,lyE,lyF];refine wpAnyH_take (i:=7) (v:=undef) rfl (by kernel_rfl) (by kernel_rfl) (by kernel_rfl) (λ_ _ _ h=>h) (Or.inr ⟨by kernel_rfl,rfl⟩) iv ?_;simp only[Act.put,lyA,lyB,lyC,lyD,lyE,lyF];refine wpAnyH_take (i:=8) (v:=undef) rfl (by kernel_rfl) (by kernel_rfl) (by kernel_rfl) (λ_ _ _ h=>h) (Or.inr ⟨by kernel_rfl,rfl⟩) iv ?_;simp only[Act.put,lyA,lyB,lyC,lyD,lyE,lyF];refine wpAnyH_take (i:=9) (v:=undef) rfl (by kernel_rfl) (by kernel_rfl) (by kernel_rfl) (λ_ _ _ h=>h) (Or.inr ⟨by kernel_rfl,rfl⟩) iv ?_;simp only[Act.put,lyA,lyB,lyC,lyD,lyE,lyF];refine wpAnyH_take (i:=10) (v:=undef) rfl (by kernel_rfl) (by kernel_rfl) (by kernel_rfl) (λ_ _ _ h=>h) (Or.inr ⟨by kernel_rfl,rfl⟩) iv ?_;simp only[Act.put,lyA,lyB,lyC,lyD,lyE,lyF];refine wpAnyH_take (i:=11) (v:=undef) rfl (by kernel_rfl) (by kernel_rfl) (by kernel_rfl) (λ_ _ _ h=>h) (Or.inr ⟨by kernel_rfl,rfl⟩) iv ?_;simp only[Act.put,lyA,lyB,lyC,lyD,lyE,lyF];refine sS 12 ?_ rfl (by kernel_rfl) (λ_ _ _ h=>h) (by rfl) ?_ iv ?_;rotate_left
     ·intro w' dN;obtain⟨s0,_⟩:=dN;go_simp;with_reducible rfl
     simp only[Act.put,lyA,lyB,lyC,lyD,lyE,lyF];refine wpAnyH_done (by kernel_rfl) ?_ _
     gi_wp2
     exact⟨Q8.o.trans ((KeepsOthers.drew _).from _),rfl,pre,x,m,.slice (some ⟨g8,0,none⟩) (v.out.length+1) mX,nc,rfl,GX,HQ.o,by omega,Pz Ms (sr.o.drew.pick [0,1,2,3,4,5,6])⟩
    ·have Ww:0<ms.length:=List.length_pos_iff.2 Nk;have XP:∀(w':World)(L':List As),Sat wB w' L'→L'[4]?=some (low W1.heap.size (mapA 3 3 wb nw (cH v.wi)))→(Instr.lookup 102 (.map (some wb)) (.int .i64 (m:Nat)) false).run prog w'=.ok (.int .i64 ((v.wi m).getD 0)) w':=λw' L' hs hi=>by
      obtain⟨D,hD,mF⟩:=(hs.cG (i:=4) hi (Q:=mapA 3 3 wb nw (cH v.wi)) (λ_ h=>h.1)).nZ 4 (by rw[List.getElem?_set_self (Sat.uy hi)]);obtain⟨cw,qy,vb,_⟩:=hD.lookup_int dn underlying102 underlying3 (HZ.o w') (Maps.keyOf_int_mk underlying3 od);rw[mF.2 m]at vb
      cases vb;exact qy
     have Bh:=qh XP;have ln:=sr.o.drew;obtain⟨g2,qf,e2,DX,SK⟩:=xX Nk ((ln.cG (i:=2) rfl (Q:=wO (.slice (some ⟨g,0,none⟩) ms.length cap) ms) (λ_ h=>h.1)).row 2 rfl);cases e2;obtain⟨d0,d1⟩:=SK 0 Ww;have c3:w9.drew.cell? ⟨bb,3,none⟩=some (.slice (some ⟨g,0,none⟩) (ms.length-1+1) cap):=by rw[Nat.sub_add_cancel Ww];exact ln.cell 1 rfl 3 rfl
     have RE:=ln.lt 1 rfl;have RT:=XP _ _ ln rfl;have iv:w9.drew.cell? ⟨w.heap.size+1+1,0,none⟩=some (.bool true)∧w9.drew.cell? ⟨w.heap.size,0,none⟩=some (.pointer (some ⟨bb,0,none⟩))∧w9.drew.cell? ⟨bb,5,none⟩=some (.map (some wb))∧(Instr.lookup 102 (.map (some wb)) (.int .i64 (m:Nat)) false).run prog w9.drew=.ok (.int .i64 ((v.wi m).getD 0)) w9.drew:=⟨ln.cell 9 rfl 0 rfl,ln.cell 7 rfl 0 rfl,ln.cell 1 rfl 5 rfl,RT⟩
     have f1:=uV ms[0].2 ms[0].1.of;have RU:=qh (K6 gT Ww);clear XP ln SK RT;refine iA (S:=λw'=>w'.cell? ⟨w.heap.size+1+1,0,none⟩=some (.bool true)∧w'.cell? ⟨w.heap.size,0,none⟩=some (.pointer (some ⟨bb,0,none⟩))∧w'.cell? ⟨bb,5,none⟩=some (.map (some wb))∧(Instr.lookup 102 (.map (some wb)) (.int .i64 (m:Nat)) false).run prog w'=.ok (.int .i64 ((v.wi m).getD 0)) w') (by kernel_rfl) (λ_ _ h=>h) (yx (by kernel_rfl)) ?_;refine sS 0 ?_ rfl (by kernel_rfl) (λ_ _ _ h=>h) (by rfl) ?_ iv ?_;rotate_left
     ·intro w' dN;obtain⟨s0,s1,s2,s3⟩:=dN;go_simp;with_reducible rfl
     simp only[Act.put,lyA,lyB,lyC,lyD,lyE,lyF];refine sS 1 ?_ rfl (by kernel_rfl) (λ_ _ _ h=>h) (by rfl) ?_ iv ?_;rotate_left
     ·intro w' dN;obtain⟨s0,s1,s2,s3⟩:=dN;go_simp;with_reducible rfl
     simp only[Act.put,lyA,lyB,lyC,lyD,lyE,lyF];refine sS 2 ?_ rfl (by kernel_rfl) (λ_ _ _ h=>h) (by rfl) ?_ iv ?_;rotate_left
     ·intro w' dN;obtain⟨s0,s1,s2,s3⟩:=dN;go_simp;with_reducible rfl
     simp only[Act.put,lyA,lyB,lyC,lyD,lyE,lyF];refine sS 3 ?_ rfl (by kernel_rfl) (λ_ _ _ h=>h) (by rfl) ?_ iv ?_;rotate_left
     ·intro w' dN;obtain⟨s0,s1,s2,s3⟩:=dN;go_simp;with_reducible rfl
     simp only[Act.put,lyA,lyB,lyC,lyD,lyE,lyF];refine sS 4 ?_ rfl (by kernel_rfl) (λ_ _ _ h=>h) (by rfl) ?_ iv ?_;rotate_left
     ·intro w' dN;obtain⟨s0,s1,s2,s3⟩:=dN;go_simp;with_reducible rfl
     simp only[Act.put,lyA,lyB,lyC,lyD,lyE,lyF];refine sS 5 ?_ rfl (by kernel_rfl) (λ_ _ _ h=>h) (by rfl) ?_ iv ?_;rotate_left
     ·intro w' dN;obtain⟨s0,s1,s2,s3⟩:=dN;go_simp;with_reducible rfl
     simp only[Act.put,lyA,lyB,lyC,lyD,lyE,lyF];refine sS 6 ?_ rfl (by kernel_rfl) (λ_ _ _ h=>h) (by rfl) ?_ iv ?_;rotate_left
     ·intro w' dN;obtain⟨s0,s1,s2,s3⟩:=dN;go_simp;with_reducible rfl
     simp only[Act.put,lyA,lyB,lyC,lyD,lyE,lyF];refine sS 7 ?_ rfl (by kernel_rfl) (λ_ _ _ h=>h) (by rfl) ?_ iv ?_;rotate_left
     ·intro w' dN;obtain⟨s0,s1,s2,s3⟩:=dN;go_simp;with_reducible rfl
     simp only[Act.put,lyA,lyB,lyC,lyD,lyE,lyF];refine sS 8 ?_ rfl (by kernel_rfl) (λ_ _ _ h=>h) (by rfl) ?_ iv ?_;rotate_left
     ·intro w' dN;obtain⟨s0,s1,s2,s3⟩:=dN;go_simp;with_reducible rfl
     simp only[Act.put,lyA,lyB,lyC,lyD,lyE,lyF];refine wpAnyH_ready (rs:=[9]) (by kernel_rfl) (by simp) ?_;refine AllReadyH.cons rfl (λK hK=>?_) AllReadyH.nil;go_simp;refine qq (k:=ms.length-1) c3 d0 d1 RE DX (by omega) (λvQ ym=>?_);have jj:=sr.o.drew.below ym;refine hK.out _ _ ⟨jj.cell 9 rfl 0 rfl,jj.cell 7 rfl 0 rfl,jj.cell 1 rfl 5 rfl,Bh.o _ _ jj rfl⟩ (λiv=>?_);clear hK K
     (try simp only[Act.put,lyA,lyB,lyC,lyD,lyE,lyF])
     have Ry:=qh ym;have u7:=jj.cell 7 rfl 0 rfl;have u6:=jj.cell 1 rfl 6 rfl;have vg:=qh jj;clear jj ym c3 d0 d1 RE DX;cases kk: ((v.wi m).getD 0 !=ms[0].1.of);all_goals
      refine sS 10 ?_ rfl (by kernel_rfl) (λ_ _ _ h=>h) (by rfl) ?_ iv ?_;rotate_left
      ·intro w' dN;obtain⟨s0,s1,s2,s3⟩:=dN;go_simp;with_reducible rfl
      simp only[Act.put,lyA,lyB,lyC,lyD,lyE,lyF];refine sS 11 ?_ rfl (by kernel_rfl) (λ_ _ _ h=>h) (by rfl) ?_ iv ?_;rotate_left
      ·intro w' dN;obtain⟨s0,s1,s2,s3⟩:=dN;go_simp;with_reducible rfl
      simp only[Act.put,lyA,lyB,lyC,lyD,lyE,lyF];refine sS 12 ?_ rfl (by kernel_rfl) (λ_ _ _ h=>h) (by rfl) ?_ iv ?_;rotate_left
      ·intro w' dN;obtain⟨s0,s1,s2,s3⟩:=dN;go_simp;with_reducible rfl
      simp only[Act.put,lyA,lyB,lyC,lyD,lyE,lyF];refine wpAnyH_done (by kernel_rfl) ?_ _
     ·gi_wp2
      have VX: (if(true&&decide ((v.wi m).getD 0≠o7 frs))=true then λk=>if k=m then true else v.ca k else v.ca)=v.ca:=by
       rw[RU.o];simp at kk;simp[kk]
      exact⟨(Q8.o.trans ((KeepsOthers.drew _).from _)).trans (rZ Ry.o _),rfl,pre,x,m,.slice (some ⟨g8,0,none⟩) (v.out.length+1) mX,nc,rfl,GX,HQ.o,by omega,by rw[VX];exact Pz Ms (vg.o.pick [0,1,2,3,4,5,6])⟩
     ·obtain⟨Dc,abK,WI⟩:=vg.o.nZ 5 rfl
      gi_wp2_with (gi_at_mapUpdate;go_loud(refine wpListIn_mapUpdate_own _ rfl _ _ _ 89 rfl 3 4 dn underlying89 _ cb nc Dc rfl abK (by unfold maxLen;omega) _ _ _ rfl rfl (Maps.keyOf_int_mk underlying3 od) _ [] (plainElem_bool underlying4 true) ?_);intro aaG Pc D4)
      have oP:=vg.o.tF 5 rfl D4 Pc (Ψ:=cZ (λk=>if k=m then true else v.ca k)) (Bn WI m _);have VX: (if(true&&decide ((v.wi m).getD 0≠o7 frs))=true then λk=>if k=m then true else v.ca k else v.ca)=(λk=>if k=m then true else v.ca k):=by
       rw[RU.o];simp at kk;simp[kk]
      exact⟨((Q8.o.trans ((KeepsOthers.drew _).from _)).trans (rZ Ry.o _)).trans (KeepsFrom.of_grownBy D4 (λj e=>by cases e;exact Ms)),rfl,pre,x,m,.slice (some ⟨g8,0,none⟩) (v.out.length+1) mX,nc+1,rfl,GX,HQ.o,nR _,by rw[VX];exact Pz Ms (oP.pick [0,1,2,3,4,5,6])⟩
 case done=>
  rintro D ys W hD rfl ⟨hB,S_⟩ hK
  have h6:=H5.o.below hB;have z0:=h6.cell 7 rfl 0 rfl;have z8:=h6.cell 10 rfl 8 rfl;clear h6
  gi_wp2_with fail
  refine⟨trivial,callsIn_wide.2 (ui (e:=5) (p:=nd.pos) ?_)⟩;refine⟨by simp,.inl ⟨_,_,rfl,run_takeDeferred hK,?_⟩⟩;refine aB.o (5,nd.pos) _ ?_ ?_
  ·unfold Ty.kB;rw[←gT,um ms nd.text (λk hk=>S_ ⟨k,hk⟩ (by unfold FT;rw[List.take_of_length_le (by simp)];exact List.mem_finRange _))]
  ·have dR:Below W1.heap.size W1 (W.putObj D (.deferred none)):=hB.trans (belowK_b (w:=W1) (nR _) W D _ _ hD hK rfl rfl);exact(H5.o.below dR).pick [0]
 case stop=>
  rintro D q pre W hD ⟨k,hk,rfl⟩ ⟨rfl,RQ,last,m,eI,R6,e1,e2,e3,e4,ZO⟩ hK
  gi_wp2
  refine⟨by simp,.inl ⟨_,_,rfl,run_takeDeferred hK,?_⟩⟩;obtain⟨k',rfl⟩:∃k',k=k'+1:=by
   cases k with
   |zero=>simp[FT]at e1
   |succ k'=>exact⟨k',rfl⟩
  rw[uG (by omega)]at e1
  obtain⟨rfl,e5⟩:=List.append_inj' e1 rfl;obtain rfl: (⟨k',by omega⟩:Fin ms.length)=last:=by simpa using e5
  have h7:=(ZO.O' (grownBy_putObj' W D (.deferred none)) (λr e=>by cases e;exact⟨hD,_,hK,rfl⟩)).sat;have h8:=(((h7.cG (i:=0) rfl (Q:=Fr) (λ_ h=>h.1)).cG (i:=2) rfl (Q:=wO _ ms) (λ_ h=>h.1)).cG (i:=4) rfl (Q:=mapA 3 3 wb nw (cH v.wi)) (λ_ h=>h.1)).cG (i:=6) rfl (Q:=kC ms) (λ_ h=>h.1);have h9:=Sat.yt (v:={v with out:=v.out++[(id,m)],ca:=if set&&decide ((v.wi m).getD 0≠o7 frs)then λk=>if k=m then true else v.ca k else v.ca}) gT h8;have dS:=h9.vd (c:=c+1) (by omega) (by omega) ⟨o9.ne,by have:=o9.len;omega,λfr hf=>by have:=o9.names fr hf;omega,o9.OI,by have:=o9.out;simp;omega⟩;refine⟨_,results_none rfl _ _ _,aY.o _ _ ?_ dS⟩;unfold Ty.kB;rw[←gT,tP ms nd.text k' (by omega) m (λj hj Hx=>e2 ⟨j,hj⟩ ?_) e3];simp only[FT,List.mem_take_iff_getElem];exact⟨j,by simp;omega,by simp⟩
end
end
end Go.Proofs.YtdlbhiaceheffabGreatDoor
