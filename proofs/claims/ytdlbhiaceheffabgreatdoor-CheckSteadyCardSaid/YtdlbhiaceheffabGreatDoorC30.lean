/- Walk of bind: use of a name. -/
import Derived.Maps.OwnIn
import Derived.Test.YtdlbhiaceheffabGreatDoorC27
set_option linter.all false
set_option maxRecDepth 100000
set_option maxHeartbeats 8000000
namespace Go.Proofs.YtdlbhiaceheffabGreatDoor
open Go Go.RowKit Ty Tok Prt Tryz Proofs.Tryz
section
open Prt (Sat As ax bU cn star aq Hp le sD hp SatF Cy low)
open Ty (Frm Vg aK kZ hZ lg)
namespace Ty
theorem vH:∀(ms:List (Frm×Nat))(x:BA),(∀k(h:k<ms.length),hZ ms[k].1.names x=none)->lg (ms.map Prod.fst) x=none
 |[],_,_=>rfl
 |p::ms,x,h=>by
  have h0:hZ p.1.names x=none:=h 0 (by simp);rw[List.map_cons,lg,h0];exact vH ms x λk hk=>h (k+1) (by simp;omega)
theorem xy:∀(ms:List (Frm×Nat))(x:BA)(k:Nat)(hk:k<ms.length)(m:Nat),(∀j(h:j<ms.length),j<k->hZ ms[j].1.names x=none)->hZ ms[k].1.names x=some m->lg (ms.map Prod.fst) x=some m
 |[],_,k,hk,_,_,_=>absurd hk (by simp)
 |p::ms,x,0,_,m,_,h2=>by
  have h0:hZ p.1.names x=some m:=h2;rw[List.map_cons,lg,h0]
 |p::ms,x,k+1,hk,m,h,h2=>by
  have h0:hZ p.1.names x=none:=h 0 (by simp) (by omega);rw[List.map_cons,lg,h0];exact xy ms x k (by simpa using hk) m (λj hj Lj=>h (j+1) (by simp;omega) (by omega)) h2
end Ty
theorem Cp{w:World}:∀(ms:List (Frm×Nat))(a:Hp),kE ms a->le a (hp w)->∀k(h:k<ms.length),∃D,w.ownsMap prog 9 (plainElem prog 3) ms[k].2 ms[k].1.names.length D/\kQ ms[k].1.names D
 |[],_,_,_,k,h=>absurd h (by simp)
 |p::ms,a,ha,hl,k,h=>by
  obtain⟨x,y,_,hx,hy,⟨es,clock,g1,g2,g3,g4⟩,y1,y2,_,af3,_,hm,_⟩:=ha;cases k with
  |zero=>exact⟨_,⟨es,clock,hl _ _ (hx _ _ g1),g2,g3,rfl⟩,g4⟩
  |succ k=>exact Cp ms y1 hm (λj o e=>hl _ _ (hy _ _ (af3 _ _ e))) k (by simpa using h)
theorem Prt.Sat.UE{wB w:World}{L:List As}{i:Nat}{ms:List (Frm×Nat)}(h:Sat wB w L)(hi:L[i]?=some (kE ms))(k:Nat)(hk:k<ms.length):
  ∃D,w.ownsMap prog 9 (plainElem prog 3) ms[k].2 ms[k].1.names.length D/\kQ ms[k].1.names D:=h.get hi λa ha hl=>Cp ms a ha hl k hk
theorem zN{w:World}{v:Value}{ms:List (Frm×Nat)}(eR:ms≠[])(h:w.ownsRow 0 195 2 v ms.length (ms.reverse.flatMap iP)):
  ∃g cap:Nat,v=.slice (some ⟨g,0,none⟩) ms.length cap/\g<w.heap.size/\Kd w g ms:=by
 obtain⟨g,cap,rfl,_,hg⟩:=h.form (by have:=List.length_pos_iff.2 eR;omega);have hc:=λj u hj=>World.ownsRow.cells h (g:=g) rfl j u hj
 refine⟨g,cap,rfl,hg,λk hk=>?_⟩;have hf:=kU iP 2 (λ_=>rfl) ms.reverse (ms.length-1-k) (by simp;omega);have he:ms.reverse[ms.length-1-k]'(by simp;omega)=ms[k]:=by
  rw[List.getElem_reverse];congr 1;omega
 rw[he]at hf
 constructor
 ·have:=hc ((ms.length-1-k)*2+0) _ (by rw[hf 0 (by omega)];rfl);rwa [Addr.add_lit,Nat.zero_add]at this
 ·have:=hc ((ms.length-1-k)*2+1) _ (by rw[hf 1 (by omega)];rfl);rwa [Addr.add_lit,Nat.zero_add]at this
theorem ub{W W':World}(hb:Below W.heap.size W W')(B:Nat):KeepsFrom B W W':=⟨hb.size,λk o _ hk _=>(hb.block k (Array.getElem?_eq_some_iff.1 hk).1).trans hk⟩
theorem Sx{B:Nat}{w0 w:World}{P0 P2 P4 P6:As}{bb cb n2:Nat}{cs:Array Value}{t:TypeId}{ov:Value}{l:List (Nat×Nat)}{Φ:Dm->Prop}(DV:cb<B)
  (h:Sat w0 w [low B P0,ax bb (.cells cs t (0,0)),low B P2,wj ov l,low B P4,mapA 3 4 cb n2 Φ,low B P6]):SatF B w0 w [low B P0,ax bb (.cells cs t (0,0)),low B P2,wj ov l,low B P4,mapA 3 4 cb n2 Φ,low B P6]:=
 h.aec λi P hi=>by
  match i with
  |0=>cases hi;exact r0 _ _
  |1=>cases hi;exact NB _ _ _ _ _
  |2=>cases hi;exact r0 _ _
  |3=>cases hi;exact Mm _ _ _ _ _ _
  |4=>cases hi;exact r0 _ _
  |5=>cases hi;exact JX DV
  |6=>cases hi;exact r0 _ _
  |i+7=>simp at hi
theorem Nn{ms:List (Frm×Nat)}{frs:List Frm}(h:ms.map Prod.fst=frs)(hp:0<ms.length):r8 frs=ms[0].1.of:=by
 subst h;cases ms with
 |nil=>simp at hp
 |cons p ms=>rfl
theorem F4{W W':World}{e:TypeId}{size n:Nat}{v:Value}{xs:List Value}(cg:W.ownsRow 0 e size v n xs)(hg:W.grownBy W' v.ownBlock)(B:Nat):KeepsFrom B W W':=by
 refine⟨hg.size,λk o _ hk ho=>(hg.block k (Array.getElem?_eq_some_iff.1 hk).1 λe=>?_).trans hk⟩;rcases cg.2 with⟨rfl,_⟩|⟨g,cap,cur,rfl,_,hb,_⟩
 ·cases e
 ·have:g=k:=by simpa [Value.ownBlock]using e.symm
  subst this;rw[hb]at hk
  cases hk;cases ho
attribute [local go_sem] Oper.semAt_some
section
variable {wB w:World} {Fr:As} {bb:Nat} {nv tv:Value} {pg:Ty.Pg} {main:Int} {frs:List Frm} {v:Vg} {c:Nat}
theorem GF(hP:PB wB nv tv pg){id:Nat}{nd:Nd}(hn:pg.ns[id]?=some nd)(set:Bool)(hF:ju wB Fr)(H:Sat wB w [Fr,q_ bb nv tv main c frs v])(hc:c+1<=100000){R:EW}
  (aD:∀v' w',kZ nd.pos nd.text id set frs v=.ok v'->Sat wB w' [Fr,q_ bb nv tv main (c+1) frs v']->R (.returned (.tuple #[])) w')
  (au:∀f w',kZ nd.pos nd.text id set frs v=.error f->Sat wB w' [Fr]->R (.panicked (aO f)) w'):
  Calls prog 214 #[.pointer (some ⟨bb,0,none⟩),.int .i64 (id:Nat),.bool set] w R:=by
 obtain⟨nw,nc,IJ,D6,uN,h1⟩:=H.iW;obtain⟨sv,ov,wb,cb,ms,jE,h2⟩:=h1.ie;have P_:ms≠[]:=by rintro rfl;exact uN.ne jE.symm
 have BQ:ms.length<=100000:=by have:=uN.len;have:=congrArg List.length jE;simp at*;omega
 have hx:nd.text.size<=maxLen:=by
  obtain⟨_,_,_,_,_,_,_,_,_,_,RF,_⟩:=hP.look hn;have:=RF.size;unfold maxLen;omega
 obtain⟨g,cap,rfl,hg,S'⟩:=zN P_ (h2.row 2);have h3:=((h2.ar (.cells #[.pointer (some ⟨bb,0,none⟩)] 142) w.heap.size).ar (.cells #[.int .i64 (id:Nat)] 3) (w.heap.size+1) (by simp)).ar (.cells #[.bool set] 4) (w.heap.size+2) (by simp);have k0:=h3.cell 1 0;have fF:=h3.lt 1
 (try dsimp only at k0)
 have H3:=qh h3;have fL:=qh aD;have bX:=qh au;have HF:=qh hF;clear aD au hF H h1 h2 h3 S';refine callsIn_wide (n:=3)|>.1 ?_;refine callsIn_of_wp_marks func214 rfl trivial ?_ rfl;simp only[ntmps214,List.size_toArray,List.length_cons,List.length_nil,Nat.reduceAdd,Nat.reduceSub,Array.replicate_succ,Array.replicate_zero,List.push_toArray,List.append_toArray,List.nil_append,List.cons_append]
 gi_wp2_with fail
 refine⟨trivial,callsIn_wide.2 (dA hP (HF.o _ _ 0 H3.o rfl) hn k0 fF (λlv w2 aW gR=>?_))⟩;obtain⟨la,lc,rfl⟩:=ag gR;unfold aH;have h4:=(H3.o.below aW).ar (cz nd (.slice la nd.list.length lc)) w2.heap.size;have y0:=(H3.o.below aW).cell 7 0;have agj:=(H3.o.below aW).lt 7;have c3:=(H3.o.below aW).cell 1 3;have cZ:=(H3.o.below aW).lt 1;have H4:=qh h4;clear h4 aW gR H3 k0 fF
 gi_wp2_with fail
 refine⟨trivial,(Qw Fence.wide 2 trivial rfl _ _ _ _).mono ?_⟩
 rintro e w3 ⟨rfl,rfl⟩
 gi_wp2_with fail
 have h5:Sat wB ((w2.alloc (.cells #[.int .i64 nd.kind,.int .i64 nd.a,.int .i64 nd.b,.int .i64 nd.c,.slice la nd.list.length lc,.string nd.text,.int .i64 nd.n,.int .i64 nd.ty,.int .i64 nd.pos] 66)).alloc (.cells #[.slice (some ⟨g,0,none⟩) ms.length cap] 143)) _:=(H4.o.ar (.cells #[.slice (some ⟨g,0,none⟩) ms.length cap] 143) (w2.heap.size+1) (by simp))
 have W5:Below w2.heap.size w2 ((w2.alloc (.cells #[.int .i64 nd.kind,.int .i64 nd.a,.int .i64 nd.b,.int .i64 nd.c,.slice la nd.list.length lc,.string nd.text,.int .i64 nd.n,.int .i64 nd.ty,.int .i64 nd.pos] 66)).alloc (.cells #[.slice (some ⟨g,0,none⟩) ms.length cap] 143)):=((bR _ _).alloc (nR _) _).alloc (by simp) _;have aeW: ((w2.alloc (.cells #[.int .i64 nd.kind,.int .i64 nd.a,.int .i64 nd.b,.int .i64 nd.c,.slice la nd.list.length lc,.string nd.text,.int .i64 nd.n,.int .i64 nd.ty,.int .i64 nd.pos] 66)).alloc (.cells #[.slice (some ⟨g,0,none⟩) ms.length cap] 143)).heap.size=w2.heap.size+2:=by simp
 generalize(w2.alloc (.cells #[.int .i64 nd.kind,.int .i64 nd.a,.int .i64 nd.b,.int .i64 nd.c,.slice la nd.list.length lc,.string nd.text,.int .i64 nd.n,.int .i64 nd.ty,.int .i64 nd.pos] 66)).alloc (.cells #[.slice (some ⟨g,0,none⟩) ms.length cap] 143)=W1 at h5 W5 aeW⊢;obtain⟨g',x9,e,VH,S'⟩:=zN P_ (h5.row 2);cases e;have aaJ:=h5.cell 11 0;have Wg:Sat wB W1 [low W1.heap.size Fr,ax bb (Ir nv tv main (.slice (some ⟨g,0,none⟩) ms.length cap) ov wb cb),low W1.heap.size (yt (.slice (some ⟨g,0,none⟩) ms.length cap) ms),wj ov v.out,low W1.heap.size (mapA 3 3 wb nw (cY v.wi)),mapA 3 4 cb nc (dL v.ca),low W1.heap.size (kE ms),
  ax w.heap.size (.cells #[.pointer (some ⟨bb,0,none⟩)] 142 (0,0)),ax (w.heap.size+1) (.cells #[.int .i64 (id:Nat)] 3 (0,0)),ax (w.heap.size+2) (.cells #[.bool set] 4 (0,0)),ax w2.heap.size (cz nd (.slice la nd.list.length lc))]:=
  (((((((h5.aaU (nR _)).cQ (i:=1) rfl (λ_ h=>h.1)).cQ (i:=3) rfl (λ_ h=>h.1)).cQ (i:=5) rfl (λ_ h=>h.1)).cQ (i:=7) rfl (λ_ h=>h.1)).cQ (i:=8) rfl (λ_ h=>h.1)).cQ (i:=9) rfl (λ_ h=>h.1)).cQ (i:=10) rfl (λ_ h=>h.1)|>.pick [0,1,2,3,4,5,6,7,8,9,10]
 have aaz:=qh Wg;clear Wg;have Qq:=h5.Wb 5 rfl;have H5:=qh h5;have Zx:=qh S';have afh:=qh aaJ;have HZ:Hq (∀W:World,(zeroValue 3).run prog W=.ok (.int .i64 0) W):=λW=>by simp[zeroValue,go_sem];rfl
 clear h5 S' aaJ y0 agj c3 cZ;refine wpIn_rangeFunc_ownH (α:=Fin ms.length) rfl (by omega) (gf:=321) (lb:=#[.pointer (some ⟨w2.heap.size+1,0,none⟩)]) rfl trivial (enters_of func321 (by kernel_rfl) rfl)
  (Fk Fence.wide 2 trivial rfl (by omega) (w2.heap.size+1) W1.heap.size g cap ms (by omega) W1 (by omega) VH (nR _) afh.o Zx.o) belowK_t (belowK_b (nR _)) (bR _ _) (λ_=>rfl)
  (λpre W=>Below W1.heap.size W1 W/\∀k∈pre,hZ ms[k.1].1.names nd.text=none)
  (λq pre W=>q=.ret/\∃(V4:List (Fin ms.length))(last:Fin ms.length)(m:Nat)(Wy:Value)(RV:Nat),pre=V4++[last]/\(∀k∈V4,hZ ms[k.1].1.names nd.text=none)/\hZ ms[last.1].1.names nd.text=some m/\RV<=nc+1/\
   SatF W1.heap.size wB W [low W1.heap.size Fr,ax bb (Ir nv tv main (.slice (some ⟨g,0,none⟩) ms.length cap) Wy wb cb),low W1.heap.size (yt (.slice (some ⟨g,0,none⟩) ms.length cap) ms),wj Wy (v.out++[(id,m)]),low W1.heap.size (mapA 3 3 wb nw (cY v.wi)),
    mapA 3 4 cb RV (dL (if set&&decide ((v.wi m).getD 0≠r8 frs)then λk=>if k=m then true else v.ca k else v.ca)),low W1.heap.size (kE ms)])
  (OwnFrom.and (ownFrom_below (nR _) (nR _)) (ownFrom_pure _ _))
  (λq pre A B row hs hg hr=>by
   obtain⟨e1,V4,last,m,Wy,RV,e2,e3,e4,e5,e6⟩:=hs;exact⟨e1,V4,last,m,Wy,RV,e2,e3,e4,e5,e6.XM hg hr⟩)
  ⟨bR _ _,by simp⟩
  (λx a' W=>∃Bx,W1.heap.size<=Bx/\Bx<W.heap.size/\W.cell? ⟨Bx,0,none⟩=some (.map (some ms[x.1].2))/\W.cell? ⟨Bx,1,none⟩=some (.int .i64 ms[x.1].1.of)/\a'={tmps:=#[.pointer (some ⟨bb,0,none⟩),.int .i64 (id:Nat),.bool set,.pointer (some ⟨w.heap.size,0,none⟩),.pointer (some ⟨w.heap.size+1,0,none⟩),.pointer (some ⟨w.heap.size+1+1,0,none⟩),.pointer (some ⟨w2.heap.size,0,none⟩),undef,.pointer (some ⟨Bx,0,none⟩),undef,undef,.pointer (some ⟨bb,0,none⟩),.int .i64 (id:Nat),.agg #[.int .i64 nd.kind,.int .i64 nd.a,.int .i64 nd.b,.int .i64 nd.c,.slice la nd.list.length lc,.string nd.text,.int .i64 nd.n,.int .i64 nd.ty,.int .i64 nd.pos],.pointer (some ⟨bb,0,none⟩),.pointer (some ⟨bb,0,none⟩),.pointer (some ⟨bb,3,none⟩),.slice (some ⟨g,0,none⟩) ms.length cap,.func (.func 321) #[] #[.pointer (some ⟨w2.heap.size+1,0,none⟩)],.int .i64 ((ms.length:Int)-1-(x.1:Int)),.agg #[.map (some ms[x.1].2),.int .i64 ms[x.1].1.of],undef,undef,undef,undef,undef,undef,undef,undef,undef,undef,undef,undef,undef,undef,undef,undef,undef,undef,undef,undef,undef,undef,undef,undef,undef,undef,undef,undef,undef,undef,undef,undef,undef,undef,undef,undef,undef,undef,undef,undef,undef,undef,undef],defers:=[]})
  (λx a' u A B row hs hg hr=>by
   obtain⟨Bx,e1,e2,e3,e4,e5⟩:=hs;exact⟨Bx,e1,nL e2 hg.size,cell_kept e3 hg (λr e=>(hr r e).2),cell_kept e4 hg (λr e=>(hr r e).2),e5⟩)
  ?assign ?body ?done ?stop
 case assign=>
  rintro l pre x W K ⟨hB,I6⟩ hK
  unfold Qn
  gi_wp2
  exact hK _ _ ((KeepsOthers.alloc _ _).from _) ((bR _ W).alloc hB.size _) ⟨hB.alloc hB.size _,I6⟩ ⟨W.heap.size,hB.size,by simp,by simp,by simp,rfl⟩
 case body=>
  rintro l pre x a' W hl ⟨r,hr⟩ ⟨hB,I6⟩ ⟨Bx,ahJ,ahr,agf,Uo,rfl⟩ bz
  have h6:=aaz.o.below hB;obtain⟨D,hD,qx⟩:=(h6.cQ (i:=6) rfl (Q:=kE ms) (λ_ h=>h.1)).UE (i:=6) rfl x.1 x.2;obtain⟨u,ps,rC,hu⟩:=hD.look_ok wu underlying193 (HZ.o W) (plainElem_int underlying3 (by decide)) (WideMaps.keyOf_string_mk underlying9 hx);obtain⟨cc,rfl,Yq,oD⟩:=plainElem_int_inv underlying3 hu;rw[(qx.2 nd.text).1]at rC
  have x5:=h6.cell 10 5;cases hq:hZ ms[x.1].1.names nd.text with
  |none=>
   rw[hq]at rC
   have HQ:=qh hq;clear hq h6 hD qx hu
   gi_wp2
   refine⟨KeepsFrom.refl _ _,bR _ _,hB,λk hk=>?_⟩;rcases List.mem_append.1 hk with hk|hk
   ·exact I6 k hk
   ·rw[List.mem_singleton.1 hk];exact HQ.o
  |some m=>
   rw[hq]at rC
   have hm:=(qx.2 nd.text).2 m hq;have E':cc=(m:Int):=by
    have:=congrArg Prod.fst Yq;dsimp only at this;rw[hm]at this
    cases this;rfl
   subst E';have HQ:=qh hq;have H6:=qh h6;clear hq h6 hD qx hu Yq hm
   gi_wp2
   have z0:=H6.o.drew.cell 7 0;have z1:=H6.o.drew.cell 8 0;have hS:W.drew.cell? ⟨w.heap.size,0,none⟩=some (.pointer (some ⟨bb,0,none⟩))/\W.drew.cell? ⟨w.heap.size+1,0,none⟩=some (.int .i64 (id:Nat)):=⟨z0,z1⟩
   refine i_ (S:=λw'=>w'.cell? ⟨w.heap.size,0,none⟩=some (.pointer (some ⟨bb,0,none⟩))/\w'.cell? ⟨w.heap.size+1,0,none⟩=some (.int .i64 (id:Nat))) (by kernel_rfl) (λ_ _ h=>h) (AX (by kernel_rfl)) ?_;refine uD 0 ?_ rfl (by kernel_rfl) (λ_ _ _ h=>h) (by rfl) ?_ hS ?_;rotate_left
   ·intro w' dJ;obtain⟨s0,s1⟩:=dJ;go_simp;with_reducible rfl
   simp only[Act.put,lyA,lyB,lyC,lyD,lyE,lyF];refine uD 1 ?_ rfl (by kernel_rfl) (λ_ _ _ h=>h) (by rfl) ?_ hS ?_;rotate_left
   ·intro w' dJ;obtain⟨s0,s1⟩:=dJ;go_simp;with_reducible rfl
   simp only[Act.put,lyA,lyB,lyC,lyD,lyE,lyF];refine uD 2 ?_ rfl (by kernel_rfl) (λ_ _ _ h=>h) (by rfl) ?_ hS ?_;rotate_left
   ·intro w' dJ;obtain⟨s0,s1⟩:=dJ;go_simp;with_reducible rfl
   simp only[Act.put,lyA,lyB,lyC,lyD,lyE,lyF];refine uD 3 ?_ rfl (by kernel_rfl) (λ_ _ _ h=>h) (by rfl) ?_ hS ?_;rotate_left
   ·intro w' dJ;obtain⟨s0,s1⟩:=dJ;go_simp;with_reducible rfl
   simp only[Act.put,lyA,lyB,lyC,lyD,lyE,lyF];refine uD 5 ?_ rfl (by kernel_rfl) (λ_ _ _ h=>h) (by rfl) ?_ hS ?_;rotate_left
   ·intro w' dJ;obtain⟨s0,s1⟩:=dJ;go_simp;with_reducible rfl
   simp only[Act.put,lyA,lyB,lyC,lyD,lyE,lyF];refine uD 6 ?_ rfl (by kernel_rfl) (λ_ _ _ h=>h) (by rfl) ?_ hS ?_;rotate_left
   ·intro w' dJ;obtain⟨s0,s1⟩:=dJ;go_simp;with_reducible rfl
   simp only[Act.put,lyA,lyB,lyC,lyD,lyE,lyF];refine uD 7 ?_ rfl (by kernel_rfl) (λ_ _ _ h=>h) (by rfl) ?_ hS ?_;rotate_left
   ·intro w' dJ;obtain⟨s0,s1⟩:=dJ;go_simp;with_reducible rfl
   simp only[Act.put,lyA,lyB,lyC,lyD,lyE,lyF];obtain⟨oa,oc,rfl⟩:=ag (H6.o.row 3);obtain⟨i0,ti,oB,oA,oy⟩:=info_parts Ss;have aed:=uN.out;have c2:=H6.o.drew.cell 1 4;have Sw:=H6.o.cell 1 4;have T2:=H6.o.lt 1;have Zl:=λo=>(show(W.drew.alloc o).cell? ⟨w.heap.size,0,none⟩=some (.pointer (some ⟨bb,0,none⟩))/\(W.drew.alloc o).cell? ⟨w.heap.size+1,0,none⟩=some (.int .i64 (id:Nat))from⟨(H6.o.drew.aU o).cell 7 0,(H6.o.drew.aU o).cell 8 0⟩)
   refine wpAnyH_ready (rs:=[4,8]) (by kernel_rfl) (by simp) ?_;refine AllReadyH.cons rfl (λK hK=>?_) (AllReadyH.cons rfl (λK hK=>?_) AllReadyH.nil);all_goals go_simp
   refine hK.out _ _ hS (λhHeld=>?_);rotate_left;refine hK.out _ _ (Zl _) (λhHeld=>?_);rotate_left;all_goals clear hK K hHeld
   refine wpAnyH_ready (rs:=[8]) (by kernel_rfl) (by simp) ?_;rotate_left;refine wpAnyH_ready (rs:=[4]) (by kernel_rfl) (by simp) ?_;rotate_left;all_goals refine AllReadyH.cons rfl (λK hK=>?_) AllReadyH.nil
   all_goals go_simp
   all_goals refine hK.out _ _ (Zl _) (λhHeld=>?_)
   all_goals clear hK K hHeld
   all_goals
    refine wpAnyH_ready (rs:=[9]) (by kernel_rfl) (by simp) ?_;refine AllReadyH.cons rfl (λK hK=>?_) AllReadyH.nil;refine step_append_lies _ (by rfl) _ _ _ (by rfl) 0 43 i0 _ 2 16 underlying36 ti oB oA oy rfl (by omega) (.slice oa v.out.length oc) v.out.length (v.out.flatMap gN) (by rfl) ((H6.o.drew.row 3).alloc _) ⟨W.heap.size,0,none⟩ 1 1 [.int .i64 (id:Nat),.int .i64 (m:Nat)] (by rfl) (by rfl) (World.news_of_block (cs:=#[.int .i64 (id:Nat),.int .i64 (m:Nat)]) (t:=43) (fr:=(0,0)) (aC _ _ _ (by simp))) (by simp[Value.oneCell']) (by omega) (by unfold maxLen;omega) (by omega) (by simp) (W.heap.size+1) (by simp) ?_;intro g8 qJ w8 qt kD E8 SX;have h8:=Sat.grow (H6.o.drew.aU _) 3 rfl kD qt (by simpa using E8);have UI:w8.cell? ⟨w.heap.size,0,none⟩=some (.pointer (some ⟨bb,0,none⟩))/\w8.cell? ⟨w.heap.size+1,0,none⟩=some (.int .i64 (id:Nat)):=⟨h8.cell 7 0,h8.cell 8 0⟩
    have d4:=h8.cell 1 4;have e4:=h8.free 1 rfl 4;have H8:=qh h8;have acx:=qh kD;clear h8 qt kD E8;refine hK.out _ _ UI (λhHeld=>?_);clear hK K hHeld
    (try simp only[Act.put,lyA,lyB,lyC,lyD,lyE,lyF])
    refine uD 10 ?_ rfl (by kernel_rfl) (λ_ _ _ h=>h) (by rfl) ?_ UI ?_;rotate_left
    ·intro w' dJ;obtain⟨s0,s1⟩:=dJ;go_simp;with_reducible rfl
    simp only[Act.put,lyA,lyB,lyC,lyD,lyE,lyF];refine uD 11 ?_ rfl (by kernel_rfl) (λ_ _ _ h=>h) (by rfl) ?_ UI ?_;rotate_left
    ·intro w' dJ;obtain⟨s0,s1⟩:=dJ;go_simp;with_reducible rfl
    simp only[Act.put,lyA,lyB,lyC,lyD,lyE,lyF];refine wpAnyH_ready (rs:=[12]) (by kernel_rfl) (by simp) ?_;refine AllReadyH.cons rfl (λK hK=>?_) AllReadyH.nil;go_simp;have h9:=H8.o.store 1 rfl 4 (.slice (some ⟨g8,0,none⟩) (v.out.length+1) qJ);refine hK.out _ _ ⟨h9.cell 7 0,h9.cell 8 0⟩ (λhHeld=>?_);clear hK K hHeld;refine wpAnyH_done (by kernel_rfl) ?_ _;have fs:=h9.cQ (i:=3) rfl (Q:=wj (.slice (some ⟨g8,0,none⟩) (v.out.length+1) qJ) (v.out++[(id,m)])) (λ_ h=>MS h);have acH:KeepsFrom W1.heap.size W (w8.setCell ⟨bb,4,none⟩ (.slice (some ⟨g8,0,none⟩) (v.out.length+1) qJ)):=((((KeepsOthers.drew W).trans (KeepsOthers.alloc _ _)).from _).trans (F4 ((H6.o.drew.row 3).alloc _) acx.o _)).trans ((KeepsOthers.setCell _ _ _).from _);have Az:=qh fs;have Y6:=qh acH;clear h9 fs acH H8 acx UI d4 e4;generalize w8.setCell ⟨bb,4,none⟩ (.slice (some ⟨g8,0,none⟩) (v.out.length+1) qJ)=w9 at Az Y6⊢
    gi_wp2
    clear hS Zl c2 Sw T2 z0 z1 agf Uo rC H6 x5;cases set
    ·have rQ:w9.drew.cell? ⟨w.heap.size+1+1,0,none⟩=some (.bool false)/\True:=⟨Az.o.drew.cell 9 0,trivial⟩
     refine i_ (S:=λw'=>w'.cell? ⟨w.heap.size+1+1,0,none⟩=some (.bool false)/\True) (by kernel_rfl) (λ_ _ h=>h) (AX (by kernel_rfl)) ?_;refine uD 0 ?_ rfl (by kernel_rfl) (λ_ _ _ h=>h) (by rfl) ?_ rQ ?_;rotate_left
     ·intro w' dJ;obtain⟨s0,_⟩:=dJ;go_simp;with_reducible rfl
     simp only[Act.put,lyA,lyB,lyC,lyD,lyE,lyF];refine uD 1 ?_ rfl (by kernel_rfl) (λ_ _ _ h=>h) (by rfl) ?_ rQ ?_;rotate_left
     ·intro w' dJ;obtain⟨s0,_⟩:=dJ;go_simp;with_reducible rfl
     simp only[Act.put,lyA,lyB,lyC,lyD,lyE,lyF];refine wpAnyH_take (i:=2) (v:=undef) rfl (by kernel_rfl) (by kernel_rfl) (by kernel_rfl) (λ_ _ _ h=>h) (Or.inr ⟨by kernel_rfl,rfl⟩) rQ ?_;simp only[Act.put,lyA,lyB,lyC,lyD,lyE,lyF];refine wpAnyH_take (i:=3) (v:=undef) rfl (by kernel_rfl) (by kernel_rfl) (by kernel_rfl) (λ_ _ _ h=>h) (Or.inr ⟨by kernel_rfl,rfl⟩) rQ ?_;simp only[Act.put,lyA,lyB,lyC,lyD,lyE,lyF];refine wpAnyH_take (i:=4) (v:=undef) rfl (by kernel_rfl) (by kernel_rfl) (by kernel_rfl) (λ_ _ _ h=>h) (Or.inr ⟨by kernel_rfl,rfl⟩) rQ ?_;simp only[Act.put,lyA,lyB,lyC,lyD,lyE,lyF];refine wpAnyH_take (i:=5) (v:=undef) rfl (by kernel_rfl) (by kernel_rfl) (by kernel_rfl) (λ_ _ _ h=>h) (Or.inr ⟨by kernel_rfl,rfl⟩) rQ ?_;simp only[Act.put,lyA,lyB,lyC,lyD,lyE,lyF];refine wpAnyH_take (i:=6) (v:=undef) rfl (by kernel_rfl) (by kernel_rfl) (by kernel_rfl) (λ_ _ _ h=>h) (Or.inr ⟨by kernel_rfl,rfl⟩) rQ ?_;simp only[Act.put,lyA,lyB,lyC,lyD,lyE,lyF];refine wpAnyH_take (i:=7) (v:=undef) rfl (by kernel_rfl) (by kernel_rfl) (by kernel_rfl) (λ_ _ _ h=>h) (Or.inr ⟨by kernel_rfl,rfl⟩) rQ ?_;simp only[Act.put,lyA,lyB,lyC,lyD,lyE,lyF];refine wpAnyH_take (i:=8) (v:=undef) rfl (by kernel_rfl) (by kernel_rfl) (by kernel_rfl) (λ_ _ _ h=>h) (Or.inr ⟨by kernel_rfl,rfl⟩) rQ ?_;simp only[Act.put,lyA,lyB,lyC,lyD,lyE,lyF];refine wpAnyH_take (i:=9) (v:=undef) rfl (by kernel_rfl) (by kernel_rfl) (by kernel_rfl) (λ_ _ _ h=>h) (Or.inr ⟨by kernel_rfl,rfl⟩) rQ ?_;simp only[Act.put,lyA,lyB,lyC,lyD,lyE,lyF];refine wpAnyH_take (i:=10) (v:=undef) rfl (by kernel_rfl) (by kernel_rfl) (by kernel_rfl) (λ_ _ _ h=>h) (Or.inr ⟨by kernel_rfl,rfl⟩) rQ ?_;simp only[Act.put,lyA,lyB,lyC,lyD,lyE,lyF];refine wpAnyH_take (i:=11) (v:=undef) rfl (by kernel_rfl) (by kernel_rfl) (by kernel_rfl) (λ_ _ _ h=>h) (Or.inr ⟨by kernel_rfl,rfl⟩) rQ ?_;simp only[Act.put,lyA,lyB,lyC,lyD,lyE,lyF];refine uD 12 ?_ rfl (by kernel_rfl) (λ_ _ _ h=>h) (by rfl) ?_ rQ ?_;rotate_left
     ·intro w' dJ;obtain⟨s0,_⟩:=dJ;go_simp;with_reducible rfl
     simp only[Act.put,lyA,lyB,lyC,lyD,lyE,lyF];refine wpAnyH_done (by kernel_rfl) ?_ _
     gi_wp2
     exact⟨Y6.o.trans ((KeepsOthers.drew _).from _),rfl,pre,x,m,.slice (some ⟨g8,0,none⟩) (v.out.length+1) qJ,nc,rfl,I6,HQ.o,by omega,Sx Qq (Az.o.drew.pick [0,1,2,3,4,5,6])⟩
    ·have aal:0<ms.length:=List.length_pos_iff.2 P_;have abI:∀(w':World)(L':List As),Sat wB w' L'->L'[4]?=some (low W1.heap.size (mapA 3 3 wb nw (cY v.wi)))->(Instr.lookup 102 (.map (some wb)) (.int .i64 (m:Nat)) false).run prog w'=.ok (.int .i64 ((v.wi m).getD 0)) w':=λw' L' hs hi=>by
      obtain⟨D,hD,qx⟩:=(hs.cQ (i:=4) hi (Q:=mapA 3 3 wb nw (cY v.wi)) (λ_ h=>h.1)).oY 4 (by rw[List.getElem?_set_self (Sat.BK hi)]);obtain⟨cw,rC,sX,_⟩:=hD.lookup_int dR underlying102 underlying3 (HZ.o w') (Maps.keyOf_int_mk underlying3 oD);rw[qx.2 m]at sX
      cases sX;exact rC
     have YU:=qh abI;have pY:=Az.o.drew;obtain⟨g2,ni,e2,Kq,VR⟩:=zN P_ ((pY.cQ (i:=2) rfl (Q:=yt (.slice (some ⟨g,0,none⟩) ms.length cap) ms) (λ_ h=>h.1)).row 2);cases e2;obtain⟨d0,d1⟩:=VR 0 aal;have c3:w9.drew.cell? ⟨bb,3,none⟩=some (.slice (some ⟨g,0,none⟩) (ms.length-1+1) cap):=by rw[Nat.sub_add_cancel aal];exact pY.cell 1 3
     have VC:=pY.lt 1;have VP:=abI _ _ pY rfl;have rQ:w9.drew.cell? ⟨w.heap.size+1+1,0,none⟩=some (.bool true)/\w9.drew.cell? ⟨w.heap.size,0,none⟩=some (.pointer (some ⟨bb,0,none⟩))/\w9.drew.cell? ⟨bb,5,none⟩=some (.map (some wb))/\(Instr.lookup 102 (.map (some wb)) (.int .i64 (m:Nat)) false).run prog w9.drew=.ok (.int .i64 ((v.wi m).getD 0)) w9.drew:=⟨pY.cell 9 0,pY.cell 7 0,pY.cell 1 5,VP⟩
     have f1:=xu ms[0].2 ms[0].1.of;have Vn:=qh (Nn jE aal);clear abI pY VR VP;refine i_ (S:=λw'=>w'.cell? ⟨w.heap.size+1+1,0,none⟩=some (.bool true)/\w'.cell? ⟨w.heap.size,0,none⟩=some (.pointer (some ⟨bb,0,none⟩))/\w'.cell? ⟨bb,5,none⟩=some (.map (some wb))/\(Instr.lookup 102 (.map (some wb)) (.int .i64 (m:Nat)) false).run prog w'=.ok (.int .i64 ((v.wi m).getD 0)) w') (by kernel_rfl) (λ_ _ h=>h) (AX (by kernel_rfl)) ?_;refine uD 0 ?_ rfl (by kernel_rfl) (λ_ _ _ h=>h) (by rfl) ?_ rQ ?_;rotate_left
     ·intro w' dJ;obtain⟨s0,s1,s2,s3⟩:=dJ;go_simp;with_reducible rfl
     simp only[Act.put,lyA,lyB,lyC,lyD,lyE,lyF];refine uD 1 ?_ rfl (by kernel_rfl) (λ_ _ _ h=>h) (by rfl) ?_ rQ ?_;rotate_left
     ·intro w' dJ;obtain⟨s0,s1,s2,s3⟩:=dJ;go_simp;with_reducible rfl
     simp only[Act.put,lyA,lyB,lyC,lyD,lyE,lyF];refine uD 2 ?_ rfl (by kernel_rfl) (λ_ _ _ h=>h) (by rfl) ?_ rQ ?_;rotate_left
     ·intro w' dJ;obtain⟨s0,s1,s2,s3⟩:=dJ;go_simp;with_reducible rfl
     simp only[Act.put,lyA,lyB,lyC,lyD,lyE,lyF];refine uD 3 ?_ rfl (by kernel_rfl) (λ_ _ _ h=>h) (by rfl) ?_ rQ ?_;rotate_left
     ·intro w' dJ;obtain⟨s0,s1,s2,s3⟩:=dJ;go_simp;with_reducible rfl
     simp only[Act.put,lyA,lyB,lyC,lyD,lyE,lyF];refine uD 4 ?_ rfl (by kernel_rfl) (λ_ _ _ h=>h) (by rfl) ?_ rQ ?_;rotate_left
     ·intro w' dJ;obtain⟨s0,s1,s2,s3⟩:=dJ;go_simp;with_reducible rfl
     simp only[Act.put,lyA,lyB,lyC,lyD,lyE,lyF];refine uD 5 ?_ rfl (by kernel_rfl) (λ_ _ _ h=>h) (by rfl) ?_ rQ ?_;rotate_left
     ·intro w' dJ;obtain⟨s0,s1,s2,s3⟩:=dJ;go_simp;with_reducible rfl
     simp only[Act.put,lyA,lyB,lyC,lyD,lyE,lyF];refine uD 6 ?_ rfl (by kernel_rfl) (λ_ _ _ h=>h) (by rfl) ?_ rQ ?_;rotate_left
     ·intro w' dJ;obtain⟨s0,s1,s2,s3⟩:=dJ;go_simp;with_reducible rfl
     simp only[Act.put,lyA,lyB,lyC,lyD,lyE,lyF];refine uD 7 ?_ rfl (by kernel_rfl) (λ_ _ _ h=>h) (by rfl) ?_ rQ ?_;rotate_left
     ·intro w' dJ;obtain⟨s0,s1,s2,s3⟩:=dJ;go_simp;with_reducible rfl
     simp only[Act.put,lyA,lyB,lyC,lyD,lyE,lyF];refine uD 8 ?_ rfl (by kernel_rfl) (λ_ _ _ h=>h) (by rfl) ?_ rQ ?_;rotate_left
     ·intro w' dJ;obtain⟨s0,s1,s2,s3⟩:=dJ;go_simp;with_reducible rfl
     simp only[Act.put,lyA,lyB,lyC,lyD,lyE,lyF];refine wpAnyH_ready (rs:=[9]) (by kernel_rfl) (by simp) ?_;refine AllReadyH.cons rfl (λK hK=>?_) AllReadyH.nil;go_simp;refine sx (k:=ms.length-1) c3 d0 d1 VC Kq (by omega) (λNw JN=>?_);have kn:=Az.o.drew.below JN;refine hK.out _ _ ⟨kn.cell 9 0,kn.cell 7 0,kn.cell 1 5,YU.o _ _ kn rfl⟩ (λrQ=>?_);clear hK K
     (try simp only[Act.put,lyA,lyB,lyC,lyD,lyE,lyF])
     have WC:=qh JN;have u6:=kn.cell 1 6;have wW:=qh kn;clear kn JN c3 d0 d1 VC Kq;cases kk: ((v.wi m).getD 0 !=ms[0].1.of);all_goals
      refine uD 10 ?_ rfl (by kernel_rfl) (λ_ _ _ h=>h) (by rfl) ?_ rQ ?_;rotate_left
      ·intro w' dJ;obtain⟨s0,s1,s2,s3⟩:=dJ;go_simp;with_reducible rfl
      simp only[Act.put,lyA,lyB,lyC,lyD,lyE,lyF];refine uD 11 ?_ rfl (by kernel_rfl) (λ_ _ _ h=>h) (by rfl) ?_ rQ ?_;rotate_left
      ·intro w' dJ;obtain⟨s0,s1,s2,s3⟩:=dJ;go_simp;with_reducible rfl
      simp only[Act.put,lyA,lyB,lyC,lyD,lyE,lyF];refine uD 12 ?_ rfl (by kernel_rfl) (λ_ _ _ h=>h) (by rfl) ?_ rQ ?_;rotate_left
      ·intro w' dJ;obtain⟨s0,s1,s2,s3⟩:=dJ;go_simp;with_reducible rfl
      simp only[Act.put,lyA,lyB,lyC,lyD,lyE,lyF];refine wpAnyH_done (by kernel_rfl) ?_ _
     ·gi_wp2
      have ZM: (if(true&&decide ((v.wi m).getD 0≠r8 frs))=true then λk=>if k=m then true else v.ca k else v.ca)=v.ca:=by
       rw[Vn.o];simp at kk;simp[kk]
      exact⟨(Y6.o.trans ((KeepsOthers.drew _).from _)).trans (ub WC.o _),rfl,pre,x,m,.slice (some ⟨g8,0,none⟩) (v.out.length+1) qJ,nc,rfl,I6,HQ.o,by omega,by rw[ZM];exact Sx Qq (wW.o.pick [0,1,2,3,4,5,6])⟩
     ·obtain⟨Dc,agr,aaj⟩:=wW.o.oY 5 rfl
      gi_wp2_with (gi_at_mapUpdate;go_loud(refine wpListIn_mapUpdate_own _ rfl _ _ _ 89 rfl 3 4 dR underlying89 _ cb nc Dc rfl agr (by unfold maxLen;omega) _ _ _ rfl rfl (Maps.keyOf_int_mk underlying3 oD) _ [] (plainElem_bool underlying4 true) ?_);intro agv TV Hx)
      have tQ:=wW.o.uZ 5 rfl Hx TV (Ψ:=dL (λk=>if k=m then true else v.ca k)) (Cj aaj m _);have ZM: (if(true&&decide ((v.wi m).getD 0≠r8 frs))=true then λk=>if k=m then true else v.ca k else v.ca)=(λk=>if k=m then true else v.ca k):=by
       rw[Vn.o];simp at kk;simp[kk]
      exact⟨((Y6.o.trans ((KeepsOthers.drew _).from _)).trans (ub WC.o _)).trans (KeepsFrom.of_grownBy Hx (λj e=>by cases e;exact Qq)),rfl,pre,x,m,.slice (some ⟨g8,0,none⟩) (v.out.length+1) qJ,nc+1,rfl,I6,HQ.o,nR _,by rw[ZM];exact Sx Qq (tQ.pick [0,1,2,3,4,5,6])⟩
 case done=>
  rintro D ys W hD rfl ⟨hB,Wk⟩ hK
  have h6:=H5.o.below hB;have z0:=h6.cell 7 0;have z8:=h6.cell 10 8;clear h6
  gi_wp2_with fail
  refine⟨trivial,callsIn_wide.2 (vR (e:=5) (p:=nd.pos) ?_)⟩;refine⟨by simp,.inl ⟨_,_,rfl,run_takeDeferred hK,?_⟩⟩;refine bX.o (5,nd.pos) _ ?_ ?_
  ·unfold Ty.kZ;rw[<-jE,vH ms nd.text (λk hk=>Wk ⟨k,hk⟩ (by unfold Jb;rw[List.take_of_length_le (by simp)];exact List.mem_finRange _))]
  ·have VG:Below W1.heap.size W1 (W.putObj D (.deferred none)):=hB.trans (belowK_b (w:=W1) (nR _) W D _ _ hD hK rfl rfl);exact(H5.o.below VG).pick [0]
 case stop=>
  rintro D q pre W hD ⟨k,hk,rfl⟩ ⟨rfl,V4,last,m,Wy,RV,e1,e2,e3,e4,aeS⟩ hK
  gi_wp2
  refine⟨by simp,.inl ⟨_,_,rfl,run_takeDeferred hK,?_⟩⟩;obtain⟨k',rfl⟩:∃k',k=k'+1:=by
   cases k with
   |zero=>simp[Jb]at e1
   |succ k'=>exact⟨k',rfl⟩
  rw[vA (by omega)]at e1
  obtain⟨rfl,e5⟩:=List.append_inj' e1 rfl;obtain rfl: (⟨k',by omega⟩:Fin ms.length)=last:=by simpa using e5
  have h7:=(aeS.XM (grownBy_putObj' W D (.deferred none)) (λr e=>by cases e;exact⟨hD,_,hK,rfl⟩)).sat;have h8:=(((h7.cQ (i:=0) rfl (Q:=Fr) (λ_ h=>h.1)).cQ (i:=2) rfl (Q:=yt _ ms) (λ_ h=>h.1)).cQ (i:=4) rfl (Q:=mapA 3 3 wb nw (cY v.wi)) (λ_ h=>h.1)).cQ (i:=6) rfl (Q:=kE ms) (λ_ h=>h.1);have h9:=Sat.Bb (v:={v with out:=v.out++[(id,m)],ca:=if set&&decide ((v.wi m).getD 0≠r8 frs)then λk=>if k=m then true else v.ca k else v.ca}) jE h8;have fs:=h9.vu (c:=c+1) (by omega) (by omega) ⟨uN.ne,by have:=uN.len;omega,λfr hf=>by have:=uN.names fr hf;omega,uN.Sd,by have:=uN.out;simp;omega⟩;refine⟨_,results_none rfl _ _ _,fL.o _ _ ?_ fs⟩;unfold Ty.kZ;rw[<-jE,xy ms nd.text k' (by omega) m (λj hj Lj=>e2 ⟨j,hj⟩ ?_) e3];simp only[Jb,List.mem_take_iff_getElem];exact⟨j,by simp;omega,by simp⟩
end
end
end Go.Proofs.YtdlbhiaceheffabGreatDoor
