/- Walks of types.Alike, one for each way through. -/
import Derived.Deep.RegionHeld3
import Derived.Test.YtdlbhiaceheffabGreatDoorP14
set_option linter.all false
set_option maxRecDepth 100000
set_option maxHeartbeats 4000000
namespace Go.Proofs.YtdlbhiaceheffabGreatDoor
open Go Go.RowKit Ty Tok ak Tryz Proofs.Tryz
section
open Ty (Tr br bI bh)
def kD(p q:Value)(w:World)(r:Bool):Prop:=∀w1,Below w.heap.size w w1→∀R:EW,(∀w2,Below w1.heap.size w1 w2→R (.returned (.bool r)) w2)→Calls prog 301 #[p,q] w1 R
abbrev yu(p q:Value)(w:World)(R:EW):Prop:=Calls prog 301 #[p,q] w R
structure TAt(w:World)(b k:Nat)(a:Option Addr)(n c:Nat)(lv ov:Value):Prop where
 lt:b<w.heap.size
 c0:w.cell? ⟨b,0,none⟩=some (.int .i64 (k:Nat))
 c1:w.cell? ⟨b,1,none⟩=some (.slice a n c)
 c2:w.cell? ⟨b,2,none⟩=some lv
 c3:w.cell? ⟨b,3,none⟩=some ov
theorem iQ{w w':World}(h:Below w.heap.size w w'){b o:Nat}{v:Value}(hc:w.cell? ⟨b,o,none⟩=some v):w'.cell? ⟨b,o,none⟩=some v:=by
 by_cases hb:b<w.heap.size
 ·exact(h.cell (p:=⟨b,o,none⟩) hb).trans hc
 ·rw[World.cell?,Array.getElem?_eq_none (by simpa using hb)]at hc;simp at hc
theorem TAt.below{w w':World}{b k:Nat}{a:Option Addr}{n c:Nat}{lv ov:Value}(h:TAt w b k a n c lv ov)(hb:Below w.heap.size w w'):TAt w' b k a n c lv ov:=
 ⟨nL h.lt hb.size,iQ hb h.c0,iQ hb h.c1,iQ hb h.c2,iQ hb h.c3⟩
theorem Mf(w:World)(ba bb ka kb:Nat)(a1 a2:Option Addr)(n1 n2 lC mG:Nat)(vC nu vI qR:Value)(hA:TAt w ba ka a1 n1 lC vC vI)(hB:TAt w bb kb a2 n2 mG nu qR)(bZ:ka≠kb){R:EW}(hR:nE w false R):
  yu (.pointer (some ⟨ba,0,none⟩)) (.pointer (some ⟨bb,0,none⟩)) w R:=by
 have HR:=qh hR;obtain⟨vX,c0,c1,c2,c3⟩:=hA;obtain⟨gB,e0,e1,e2,e3⟩:=hB;have n6: ((ka:Int) !=kb)=true:=by simp;omega
 clear hR bZ;go_enter func301,ntmps301;go_wp2_with fail
 go_region
 all_goals
  go_wp2_with fail;exact HR.o _ (bR _ _).drew
theorem PY(w:World)(ba bb k:Nat)(a1 a2:Option Addr)(n1 n2 lC mG:Nat)(vC nu vI qR:Value)(hA:TAt w ba k a1 n1 lC vC vI)(hB:TAt w bb k a2 n2 mG nu qR)(bZ:n1≠n2){R:EW}(hR:nE w false R):
  yu (.pointer (some ⟨ba,0,none⟩)) (.pointer (some ⟨bb,0,none⟩)) w R:=by
 have HR:=qh hR;obtain⟨vX,c0,c1,c2,c3⟩:=hA;obtain⟨gB,e0,e1,e2,e3⟩:=hB;have n6: ((k:Int) !=k)=false:=by simp
 have n7: ((n1:Int) !=n2)=true:=by simp;omega
 clear hR bZ;go_enter func301,ntmps301;go_wp2_with fail
 go_region
 all_goals
  go_wp2_with fail;exact HR.o _ (bR _ _).drew
theorem M6(w:World)(ba bb k:Nat)(a1 a2:Option Addr)(n lC mG:Nat)(vC nu vI qR:Value)(hA:TAt w ba k a1 n lC vC vI)(hB:TAt w bb k a2 n mG nu qR)
  (hy:∀w2,Below w.heap.size w w2→∀R:EW,(∀w',Below w2.heap.size w2 w'→R (.returned (.bool false)) w')→Calls prog 308 #[vC,nu,.func (.func 301) #[] #[]] w2 R) {R:EW} (hR:nE w false R):
  yu (.pointer (some ⟨ba,0,none⟩)) (.pointer (some ⟨bb,0,none⟩)) w R:=by
 have HR:=qh hR;have HX:=qh hy;obtain⟨vX,c0,c1,c2,c3⟩:=hA;obtain⟨gB,e0,e1,e2,e3⟩:=hB;have n6: ((k:Int) !=k)=false:=by simp
 have n7: ((n:Int) !=n)=false:=by simp
 clear hR hy;go_enter func301,ntmps301;go_wp2_with fail;go_region_held3(λw'=>w'.cell? ⟨ba,0,none⟩=some (.int .i64 (k:Nat))∧w'.cell? ⟨bb,0,none⟩=some (.int .i64 (k:Nat))∧w'.cell? ⟨ba,1,none⟩=some (.slice a1 n lC)∧w'.cell? ⟨bb,1,none⟩=some (.slice a2 n mG)∧w'.cell? ⟨ba,2,none⟩=some vC∧w'.cell? ⟨bb,2,none⟩=some nu) (go_keep)
  (first|(go_at_call 308;refine HX.o _ (bR _ _).drew _ (λw2 aI=>?_);have c8:=qh ((bR w.heap.size w).drew.trans (aI.mono (by simp)));have s0:=iQ c8.o c0;have s1:=iQ c8.o e0;have s2:=iQ c8.o c1;have s3:=iQ c8.o e1;have s4:=iQ c8.o c2;have s5:=iQ c8.o e2;clear aI))
 all_goals
  go_wp2_with fail;exact HR.o _ c8.o
def SY(w:World)(bb:Nat)(p:Value)(nm:BA)(r:Bool):Prop:=∀w1,Below w.heap.size w w1→∀R:EW,
 (∀q w2,Below w1.heap.size w1 w2→(q=.pointer none∧r=true∨∃pb rr,q=.pointer (some ⟨pb,0,none⟩)∧kD p q w rr∧r=!rr)→R (.returned q) w2)→Calls prog 297 #[.pointer (some ⟨bb,0,none⟩),.string nm] w1 R
theorem MZ(w:World)(ba bb k:Nat)(a1 a2:Option Addr)(lC mG:Nat)(vC nu vI qR:Value)(ns:List BA)(ps:List Value)(hA:TAt w ba k a1 ps.length lC vC vI)(hB:TAt w bb k a2 ps.length mG nu qR)
  (bJ:w.ownsRow 0 221 2 (.slice a1 ps.length lC) ps.length (cN ns ps)) (hn:ns.length=ps.length) (hl:ps.length≤1000000)
  (hy:∀w2,Below w.heap.size w w2→∀R:EW,(∀w',Below w2.heap.size w2 w'→R (.returned (.bool true)) w')→Calls prog 308 #[vC,nu,.func (.func 301) #[] #[]] w2 R)
  (f:Nat→Bool) (hp:∀j(hj:j<ps.length)(eh:j<ns.length),SY w bb ps[j] ns[j] (f j)) (Sr:∀j(hj:j<ps.length),∃pb,ps[j]=.pointer (some ⟨pb,0,none⟩))
  (ro:Bool) (ho:vI=.pointer none∧ro=true∨∃pb,vI=.pointer (some ⟨pb,0,none⟩)∧kD vI qR w ro) {R:EW} (hR:nE w (!br f ps.length&&ro) R):
  yu (.pointer (some ⟨ba,0,none⟩)) (.pointer (some ⟨bb,0,none⟩)) w R:=by
 have HR:=qh hR;have HX:=qh hy;have HP:=qh hp;have dG:=qh bJ;have sJ:=qh Sr;have vy:=qh hn;have HO:=qh ho;have HA:=qh hA;have HB:=qh hB;obtain⟨vX,c0,c1,c2,c3⟩:=hA;obtain⟨gB,e0,e1,e2,e3⟩:=hB;have n6: ((k:Int) !=k)=false:=by simp
 have n7: ((ps.length:Int) !=ps.length)=false:=by simp
 clear hR hy hp bJ Sr hn ho;go_enter func301,ntmps301;go_wp2_with fail;go_region_held3(λw'=>w'.cell? ⟨ba,0,none⟩=some (.int .i64 (k:Nat))∧w'.cell? ⟨bb,0,none⟩=some (.int .i64 (k:Nat))∧w'.cell? ⟨ba,1,none⟩=some (.slice a1 ps.length lC)∧w'.cell? ⟨bb,1,none⟩=some (.slice a2 ps.length mG)∧w'.cell? ⟨ba,2,none⟩=some vC∧w'.cell? ⟨bb,2,none⟩=some nu) (go_keep)
  (first|(go_at_call 308;refine HX.o _ (bR _ _).drew _ (λw2 aI=>?_);have c8:=qh ((bR w.heap.size w).drew.trans (aI.mono (by simp)));have s0:=iQ c8.o c0;have s1:=iQ c8.o e0;have s2:=iQ c8.o c1;have s3:=iQ c8.o e1;have s4:=iQ c8.o c2;have s5:=iQ c8.o e2;clear aI))
 go_wp2_with fail;go_loopw [47] (λi wr=>∃j:Nat,j≤ps.length∧i=.int .i64 j∧Hq (Below w.heap.size w wr)∧Hq (∀i,i<j→f i=false)) (λi _=>ps.length-(intOf i).toNat)
 case atStart=>exact⟨0,by omega,rfl,c8.o,λj hj=>by omega⟩
 case round=>
  obtain⟨j,hj,rfl,hb,hf⟩:=hrel;by_cases bm:j<ps.length
  ·obtain⟨gl,j9,e,mW,d0,d1⟩:=tS (az dG.o hb.out) vy.o j bm;cases e;have kN:j<ns.length:=by have:=vy.o;omega
   have HI:=qh (HP.o j bm kN);have HT:=qh (λh:f j=true=>(bI (f:=f)).2 ⟨j,bm,h⟩);have HN:Hq (f j=false→∀i,i<j+1→f i=false):=λh i hi=>by
    by_cases Oe:i=j
    ·subst Oe;exact h
    ·exact hf.out i (by omega)
   obtain⟨pp,Sd⟩:=sJ.o j bm;rw[Sd]at d1 HI
   clear Sd;generalize f j=fj at*
   obtain⟨nm,sL⟩:∃x,x=ns[j]'kN:=⟨_,rfl⟩
   rw[←sL]at d0 HI
   clear sL;go_wp2_with fail;refine HI.o _ (hb.out.trans ((bR wr.heap.size wr).alloc (nR _) _|>.mono hb.out.size)) _ (λq w2 aI hq=>?_);have dD:=hb.out.trans (((bR wr.heap.size wr).alloc (nR _) _).trans (aI.mono (by simp))|>.mono hb.out.size);have x1:w2.cell? ⟨wr.heap.size,1,none⟩=some (.pointer (some ⟨pp,0,none⟩)):=by
    rw[aI.cell (p:=⟨wr.heap.size,1,none⟩) (by simp),cell_of_block (heap_alloc_new wr _)];rfl
   have cU:=qh dD;clear aI dD;rcases hq with⟨rfl,rfl⟩|⟨qb,rr,rfl,LB,rfl⟩
   ·have FJ:=qh (HT.o rfl);rw[FJ.o]at HR
    go_wp2_with fail;exact HR.o _ cU.o
   ·have RM:=qh (LB w2 cU.o);clear LB;go_wp2_with fail;refine RM.o _ (λw4 yG=>?_);have gD:=qh (cU.o.trans (yG.mono cU.o.size));clear yG;cases rr
    ·have FJ:=qh (HT.o rfl);rw[FJ.o]at HR
     go_wp2_with fail;exact HR.o _ gD.o
    ·have J6:=qh (HN.o rfl);go_wp2_with fail;go_roundw
     case rel=>exact⟨j+1,by omega,by go_num,gD,J6⟩
     case measure=>simp[intOf];omega
  ·have ju:j=ps.length:=by omega
   have HN:Hq (br f ps.length=false):=bh.2 (λi hi=>hf.out i (by omega));rw[HN.o,Bool.not_false,Bool.true_and]at HR
   obtain⟨abk,x0,x1,x2,x3⟩:=HA.o.below hb.out;obtain⟨QO,y0,y1,y2,y3⟩:=HB.o.below hb.out;clear ju HN c0 c1 c2 c3 e0 e1 e2 e3;rcases HO.o with⟨rfl,rfl⟩|⟨pb,rfl,LB⟩
   ·go_wp2_with fail
    go_region
    all_goals
     go_wp2_with fail;exact HR.o _ hb.out.drew
   ·have RM:=qh LB;clear LB;go_wp2_with fail;go_region_held3(λw'=>w'.cell? ⟨ba,3,none⟩=some (.pointer (some ⟨pb,0,none⟩))∧w'.cell? ⟨bb,3,none⟩=some qR) (go_keep)
     (first|(go_at_call 301;refine RM.o _ hb.out.drew _ (λw2 aI=>?_);have c8:=qh (hb.out.drew.trans (aI.mono (by have:=hb.out.size;simp;omega)));have s6:=iQ aI (show(World.cell? (World.drew _) _)= _ from x3);have s7:=iQ aI (show(World.cell? (World.drew _) _)= _ from y3);clear aI))
    all_goals
     go_wp2_with fail;first|exact HR.o _ c8.o|(refine bodyPost_ret ?_ ?_ (HR.o _ c8.o)<;>first|(simp[results,results301,go_sem];done)|rfl)
theorem aq{w w':World}(h:Below w.heap.size w w'){b o:Nat}{v:Value}(hc:w.cell? ⟨b,o,none⟩=some v):w'.cell? ⟨b,o,none⟩=some v:=by
 by_cases hb:b<w.heap.size
 ·exact(h.cell (p:=⟨b,o,none⟩) hb).trans hc
 ·rw[World.cell?,Array.getElem?_eq_none (by simpa using hb)]at hc;simp at hc
theorem PH(w:World)(u v:Value)(t:TypeId): ((w.alloc (.cells #[u] t)).alloc (.cells #[v] t)).drew.drew.cell? ⟨w.heap.size,0,none⟩=some u:=by
 rw[cell_of_block (ey (ey ((heap_alloc_old _ _ (by simp)).trans (heap_alloc_new w _))))];rfl
theorem QI(w:World)(u v:Value)(t:TypeId): ((w.alloc (.cells #[u] t)).alloc (.cells #[v] t)).drew.drew.cell? ⟨w.heap.size+1,0,none⟩=some v:=by
 rw[cell_of_block (ey (ey (aH _ _ _ (by simp))))];rfl
theorem TC(w:World)(ba bb:Nat)(hA:cW w ba 9)(hB:cW w bb 9)(a1 a2:Option Addr)(n1 n2 lC mG:Nat)(c2:w.cell? ⟨ba,2,none⟩=some (.slice a1 n1 lC))(e2:w.cell? ⟨bb,2,none⟩=some (.slice a2 n2 mG))(x y:Value)(c3:w.cell? ⟨ba,3,none⟩=some x)(e3:w.cell? ⟨bb,3,none⟩=some y)(hle:n1≤n2)(aaz:n2≤mG)(RI:∃g,a2=some ⟨g,0,none⟩)
  (hy:∀w2,Below w.heap.size w w2→∀R:EW,(∀w',Below w2.heap.size w2 w'→R (.returned (.bool true)) w')→Calls prog 308 #[.slice a1 n1 lC,.slice a2 n1 mG,.func (.func 307) #[] #[]] w2 R)
  (r:Bool) (hx:oQ x y w r) {R:EW} (hR:nE w r R):
  uU (.pointer (some ⟨ba,0,none⟩)) (.pointer (some ⟨bb,0,none⟩)) w R:=by
 have HR:=qh hR;have HX:=qh hy;have HF:=qh hx;obtain⟨vX,c0⟩:=hA;obtain⟨gB,e0⟩:=hB;have k1:decide ((n1:Int)≤n2)=true:=by simp;omega
 have k2:decide (n1≤n2)=true:=by simp;omega
 obtain⟨g,rfl⟩:=RI;have V6:n1≤mG:=by omega
 have HZ:Hq (∀R:EW,(∀w',w'.cell? ⟨w.heap.size,0,none⟩=some (.pointer (some ⟨ba,0,none⟩))→w'.cell? ⟨w.heap.size+1,0,none⟩=some (.pointer (some ⟨bb,0,none⟩))→w'.cell? ⟨ba,2,none⟩=some (.slice a1 n1 lC)→w'.cell? ⟨bb,2,none⟩=some (.slice (some ⟨g,0,none⟩) n2 mG)→w'.cell? ⟨ba,3,none⟩=some x→w'.cell? ⟨bb,3,none⟩=some y→Below w.heap.size w w'→R (.returned (.bool true)) w')→Calls prog 308 #[.slice a1 n1 lC,.slice (some ⟨g,0,none⟩) n1 mG,.func (.func 307) #[] #[]] ((w.alloc (.cells #[.pointer (some ⟨ba,0,none⟩)] 107)).alloc (.cells #[.pointer (some ⟨bb,0,none⟩)] 107)).drew.drew R):=λR h=>by
  refine HX.o _ (bM w _ _).drew.drew _ (λw2 aI=>?_);have hB:=(bM w _ _).drew.drew.trans (aI.mono (by simp;omega));exact h w2 (aq aI (PH w _ _ _)) (aq aI (QI w _ _ _)) (aq hB c2) (aq hB e2) (aq hB c3) (aq hB e3) hB
 clear hR hy HX hx;go_enter func249,ntmps249;go_wp2_with fail
 go_region
 go_wp2_with fail;go_region_held3(λw'=>w'.cell? ⟨w.heap.size,0,none⟩=some (.pointer (some ⟨ba,0,none⟩))∧w'.cell? ⟨w.heap.size+1,0,none⟩=some (.pointer (some ⟨bb,0,none⟩))∧w'.cell? ⟨ba,2,none⟩=some (.slice a1 n1 lC)∧w'.cell? ⟨bb,2,none⟩=some (.slice (some ⟨g,0,none⟩) n2 mG)∧w'.cell? ⟨ba,3,none⟩=some x∧w'.cell? ⟨bb,3,none⟩=some y) (go_keep)
  (first|(go_at_call 308;refine HZ.o _ (λw2 s0 s1 s2 s3 s4 s5 aI=>?_);have c8:=qh aI;clear aI)|(go_at_call 249;refine HF.o _ c8.o _ (λw3 dD=>?_);have cU:=qh (c8.o.trans (dD.mono c8.o.size));have s0:=aq dD s0;have s1:=aq dD s1;have s2:=aq dD s2;have s3:=aq dD s3;have s4:=aq dD s4;have s5:=aq dD s5;clear dD))
 all_goals
  go_wp2_with fail;exact HR.o _ cU.o
theorem dt{P:Program}{md:Region.Mode}{ops:Array Oper}{Q:Exit→Act→World→Prop}{S:World→Prop}(i d:Nat){oi:Oper}{v:Value}{fuel:Nat}{listed:Array Bool}{a:Act}{w:World}(hi:ops[i]?=some oi)(hd:oi.dst=some d)
  (hs:Region.noSelect ops=true) (hf:Region.free md ops listed i=true) (hr: (Region.ready md ops listed).contains i=true)
  (hQ:∀c a w,Q (.panic c) (a.put (some d) v) w→Q (.panic c) a w) (hy:YieldsIf P ops S oi v a) (hS:S w)
  (h:wpAnyH P md ops Q S fuel (listed.setIfInBounds i true) (a.put (some d) v) w):wpAnyH P md ops Q S (fuel+1) listed a w:=
 wpAnyH_take hi hs hf hr (by rw[hd];exact hQ) hy hS (by rw[hd];exact h)
theorem S0(w:World)(ba bb:Nat)(hA:cW w ba 9)(hB:cW w bb 9)(a1 a2:Option Addr)(n1 n2 lC mG:Nat)(c2:w.cell? ⟨ba,2,none⟩=some (.slice a1 n1 lC))(e2:w.cell? ⟨bb,2,none⟩=some (.slice a2 n2 mG))(x y:Value)(c3:w.cell? ⟨ba,3,none⟩=some x)(e3:w.cell? ⟨bb,3,none⟩=some y)(hle:n1≤n2)(aaz:n2≤mG)(RI:∃g,a2=some ⟨g,0,none⟩)
  (hy:∀w2,Below w.heap.size w w2→∀R:EW,(∀w',Below w2.heap.size w2 w'→R (.returned (.bool false)) w')→Calls prog 308 #[.slice a1 n1 lC,.slice a2 n1 mG,.func (.func 307) #[] #[]] w2 R)
  {R:EW} (hR:nE w false R):
  uU (.pointer (some ⟨ba,0,none⟩)) (.pointer (some ⟨bb,0,none⟩)) w R:=by
 have HR:=qh hR;have HX:=qh hy;obtain⟨vX,c0⟩:=hA;obtain⟨gB,e0⟩:=hB;have k1:decide ((n1:Int)≤n2)=true:=by simp;omega
 have k2:decide (n1≤n2)=true:=by simp;omega
 obtain⟨g,rfl⟩:=RI;have V6:n1≤mG:=by omega
 have HZ:Hq (∀R:EW,(∀w',w'.cell? ⟨w.heap.size,0,none⟩=some (.pointer (some ⟨ba,0,none⟩))→w'.cell? ⟨w.heap.size+1,0,none⟩=some (.pointer (some ⟨bb,0,none⟩))→w'.cell? ⟨ba,2,none⟩=some (.slice a1 n1 lC)→w'.cell? ⟨bb,2,none⟩=some (.slice (some ⟨g,0,none⟩) n2 mG)→w'.cell? ⟨ba,3,none⟩=some x→w'.cell? ⟨bb,3,none⟩=some y→Below w.heap.size w w'→R (.returned (.bool false)) w')→Calls prog 308 #[.slice a1 n1 lC,.slice (some ⟨g,0,none⟩) n1 mG,.func (.func 307) #[] #[]] ((w.alloc (.cells #[.pointer (some ⟨ba,0,none⟩)] 107)).alloc (.cells #[.pointer (some ⟨bb,0,none⟩)] 107)).drew.drew R):=λR h=>by
  refine HX.o _ (bM w _ _).drew.drew _ (λw2 aI=>?_);have hB:=(bM w _ _).drew.drew.trans (aI.mono (by simp;omega));exact h w2 (aq aI (PH w _ _ _)) (aq aI (QI w _ _ _)) (aq hB c2) (aq hB e2) (aq hB c3) (aq hB e3) hB
 clear hR hy HX;go_enter func249,ntmps249;go_wp2_with fail
 go_region
 go_wp2_with fail;refine wp_region_held_drew (S:=(λw'=>w'.cell? ⟨w.heap.size,0,none⟩=some (.pointer (some ⟨ba,0,none⟩))∧w'.cell? ⟨w.heap.size+1,0,none⟩=some (.pointer (some ⟨bb,0,none⟩))∧w'.cell? ⟨ba,2,none⟩=some (.slice a1 n1 lC)∧w'.cell? ⟨bb,2,none⟩=some (.slice (some ⟨g,0,none⟩) n2 mG))) (by kernel_rfl) (by go_keep) (λhHeld=>?_);refine dt 0 95 (v:=?_) rfl (by kernel_rfl) (by kernel_rfl) (by kernel_rfl) (by kernel_rfl) (λ_ _ _ h=>h) (Or.inl ⟨by kernel_rfl,?_⟩) (by assumption) ?_;rotate_left
 ·(intro w dN;(try dsimp only at dN);go_simp;try(with_reducible rfl))
 try simp only[Act.put,List.setIfInBounds_toArray,List.set_cons_zero,List.set_cons_succ]
 refine dt 1 96 (v:=?_) rfl (by kernel_rfl) (by kernel_rfl) (by kernel_rfl) (by kernel_rfl) (λ_ _ _ h=>h) (Or.inl ⟨by kernel_rfl,?_⟩) (by assumption) ?_;rotate_left
 ·(intro w dN;(try dsimp only at dN);go_simp;try(with_reducible rfl))
 try simp only[Act.put,List.setIfInBounds_toArray,List.set_cons_zero,List.set_cons_succ]
 refine dt 2 97 (v:=?_) rfl (by kernel_rfl) (by kernel_rfl) (by kernel_rfl) (by kernel_rfl) (λ_ _ _ h=>h) (Or.inl ⟨by kernel_rfl,?_⟩) (by assumption) ?_;rotate_left
 ·(intro w dN;(try dsimp only at dN);go_simp;try(with_reducible rfl))
 try simp only[Act.put,List.setIfInBounds_toArray,List.set_cons_zero,List.set_cons_succ]
 refine dt 3 98 (v:=?_) rfl (by kernel_rfl) (by kernel_rfl) (by kernel_rfl) (by kernel_rfl) (λ_ _ _ h=>h) (Or.inl ⟨by kernel_rfl,?_⟩) (by assumption) ?_;rotate_left
 ·(intro w dN;(try dsimp only at dN);go_simp;try(with_reducible rfl))
 try simp only[Act.put,List.setIfInBounds_toArray,List.set_cons_zero,List.set_cons_succ]
 refine dt 4 99 (v:=?_) rfl (by kernel_rfl) (by kernel_rfl) (by kernel_rfl) (by kernel_rfl) (λ_ _ _ h=>h) (Or.inl ⟨by kernel_rfl,?_⟩) (by assumption) ?_;rotate_left
 ·(intro w dN;(try dsimp only at dN);go_simp;try(with_reducible rfl))
 try simp only[Act.put,List.setIfInBounds_toArray,List.set_cons_zero,List.set_cons_succ]
 refine dt 5 100 (v:=?_) rfl (by kernel_rfl) (by kernel_rfl) (by kernel_rfl) (by kernel_rfl) (λ_ _ _ h=>h) (Or.inl ⟨by kernel_rfl,?_⟩) (by assumption) ?_;rotate_left
 ·(intro w dN;(try dsimp only at dN);go_simp;try(with_reducible rfl))
 try simp only[Act.put,List.setIfInBounds_toArray,List.set_cons_zero,List.set_cons_succ]
 refine dt 6 101 (v:=?_) rfl (by kernel_rfl) (by kernel_rfl) (by kernel_rfl) (by kernel_rfl) (λ_ _ _ h=>h) (Or.inl ⟨by kernel_rfl,?_⟩) (by assumption) ?_;rotate_left
 ·(intro w dN;(try dsimp only at dN);go_simp;try(with_reducible rfl))
 try simp only[Act.put,List.setIfInBounds_toArray,List.set_cons_zero,List.set_cons_succ]
 refine dt 7 102 (v:=?_) rfl (by kernel_rfl) (by kernel_rfl) (by kernel_rfl) (by kernel_rfl) (λ_ _ _ h=>h) (Or.inl ⟨by kernel_rfl,?_⟩) (by assumption) ?_;rotate_left
 ·(intro w dN;(try dsimp only at dN);go_simp;try(with_reducible rfl))
 try simp only[Act.put,List.setIfInBounds_toArray,List.set_cons_zero,List.set_cons_succ]
 refine dt 8 103 (v:=?_) rfl (by kernel_rfl) (by kernel_rfl) (by kernel_rfl) (by kernel_rfl) (λ_ _ _ h=>h) (Or.inl ⟨by kernel_rfl,?_⟩) (by assumption) ?_;rotate_left
 ·(intro w dN;(try dsimp only at dN);go_simp;try(with_reducible rfl))
 try simp only[Act.put,List.setIfInBounds_toArray,List.set_cons_zero,List.set_cons_succ]
 refine dt 9 104 (v:=?_) rfl (by kernel_rfl) (by kernel_rfl) (by kernel_rfl) (by kernel_rfl) (λ_ _ _ h=>h) (Or.inl ⟨by kernel_rfl,?_⟩) (by assumption) ?_;rotate_left
 ·(intro w dN;(try dsimp only at dN);go_simp;try(with_reducible rfl))
 try simp only[Act.put,List.setIfInBounds_toArray,List.set_cons_zero,List.set_cons_succ]
 refine dt 10 105 (v:=?_) rfl (by kernel_rfl) (by kernel_rfl) (by kernel_rfl) (by kernel_rfl) (λ_ _ _ h=>h) (Or.inl ⟨by kernel_rfl,?_⟩) (by assumption) ?_;rotate_left
 ·(intro w dN;(try dsimp only at dN);go_simp;try(with_reducible rfl))
 try simp only[Act.put,List.setIfInBounds_toArray,List.set_cons_zero,List.set_cons_succ]
 refine dt 11 106 (v:=?_) rfl (by kernel_rfl) (by kernel_rfl) (by kernel_rfl) (by kernel_rfl) (λ_ _ _ h=>h) (Or.inl ⟨by kernel_rfl,?_⟩) (by assumption) ?_;rotate_left
 ·(intro w dN;(try dsimp only at dN);go_simp;try(with_reducible rfl))
 try simp only[Act.put,List.setIfInBounds_toArray,List.set_cons_zero,List.set_cons_succ]
 refine dt 12 107 (v:=?_) rfl (by kernel_rfl) (by kernel_rfl) (by kernel_rfl) (by kernel_rfl) (λ_ _ _ h=>h) (Or.inl ⟨by kernel_rfl,?_⟩) (by assumption) ?_;rotate_left
 ·(intro w dN;(try dsimp only at dN);go_simp;try(with_reducible rfl))
 try simp only[Act.put,List.setIfInBounds_toArray,List.set_cons_zero,List.set_cons_succ]
 refine dt 13 108 (v:=?_) rfl (by kernel_rfl) (by kernel_rfl) (by kernel_rfl) (by kernel_rfl) (λ_ _ _ h=>h) (Or.inl ⟨by kernel_rfl,?_⟩) (by assumption) ?_;rotate_left
 ·(intro w dN;(try dsimp only at dN);go_simp;try(with_reducible rfl))
 try simp only[Act.put,List.setIfInBounds_toArray,List.set_cons_zero,List.set_cons_succ]
 refine dt 14 109 (v:=?_) rfl (by kernel_rfl) (by kernel_rfl) (by kernel_rfl) (by kernel_rfl) (λ_ _ _ h=>h) (Or.inl ⟨by kernel_rfl,?_⟩) (by assumption) ?_;rotate_left
 ·(intro w dN;(try dsimp only at dN);go_simp;try(with_reducible rfl))
 try simp only[Act.put,List.setIfInBounds_toArray,List.set_cons_zero,List.set_cons_succ]
 refine dt 15 110 (v:=?_) rfl (by kernel_rfl) (by kernel_rfl) (by kernel_rfl) (by kernel_rfl) (λ_ _ _ h=>h) (Or.inl ⟨by kernel_rfl,?_⟩) (by assumption) ?_;rotate_left
 ·(intro w dN;(try dsimp only at dN);go_simp;try(with_reducible rfl))
 try simp only[Act.put,List.setIfInBounds_toArray,List.set_cons_zero,List.set_cons_succ]
 refine dt 16 111 (v:=?_) rfl (by kernel_rfl) (by kernel_rfl) (by kernel_rfl) (by kernel_rfl) (λ_ _ _ h=>h) (Or.inl ⟨by kernel_rfl,?_⟩) (by assumption) ?_;rotate_left
 ·(intro w dN;(try dsimp only at dN);go_simp;try(with_reducible rfl))
 try simp only[Act.put,List.setIfInBounds_toArray,List.set_cons_zero,List.set_cons_succ]
 refine dt 17 112 (v:=?_) rfl (by kernel_rfl) (by kernel_rfl) (by kernel_rfl) (by kernel_rfl) (λ_ _ _ h=>h) (Or.inl ⟨by kernel_rfl,?_⟩) (by assumption) ?_;rotate_left
 ·(intro w dN;(try dsimp only at dN);go_simp;try(with_reducible rfl))
 try simp only[Act.put,List.setIfInBounds_toArray,List.set_cons_zero,List.set_cons_succ]
 refine dt 18 113 (v:=?_) rfl (by kernel_rfl) (by kernel_rfl) (by kernel_rfl) (by kernel_rfl) (λ_ _ _ h=>h) (Or.inl ⟨by kernel_rfl,?_⟩) (by assumption) ?_;rotate_left
 ·(intro w dN;(try dsimp only at dN);go_simp;try(with_reducible rfl))
 try simp only[Act.put,List.setIfInBounds_toArray,List.set_cons_zero,List.set_cons_succ]
 refine dt 19 114 (v:=?_) rfl (by kernel_rfl) (by kernel_rfl) (by kernel_rfl) (by kernel_rfl) (λ_ _ _ h=>h) (Or.inl ⟨by kernel_rfl,?_⟩) (by assumption) ?_;rotate_left
 ·(intro w dN;(try dsimp only at dN);go_simp;try(with_reducible rfl))
 try simp only[Act.put,List.setIfInBounds_toArray,List.set_cons_zero,List.set_cons_succ]
 refine dt 20 115 (v:=?_) rfl (by kernel_rfl) (by kernel_rfl) (by kernel_rfl) (by kernel_rfl) (λ_ _ _ h=>h) (Or.inl ⟨by kernel_rfl,?_⟩) (by assumption) ?_;rotate_left
 ·(intro w dN;(try dsimp only at dN);go_simp;try(with_reducible rfl))
 try simp only[Act.put,List.setIfInBounds_toArray,List.set_cons_zero,List.set_cons_succ]
 refine dt 21 116 (v:=?_) rfl (by kernel_rfl) (by kernel_rfl) (by kernel_rfl) (by kernel_rfl) (λ_ _ _ h=>h) (Or.inl ⟨by kernel_rfl,?_⟩) (by assumption) ?_;rotate_left
 ·(intro w dN;(try dsimp only at dN);go_simp;try(with_reducible rfl))
 try simp only[Act.put,List.setIfInBounds_toArray,List.set_cons_zero,List.set_cons_succ]
 refine dt 22 117 (v:=?_) rfl (by kernel_rfl) (by kernel_rfl) (by kernel_rfl) (by kernel_rfl) (λ_ _ _ h=>h) (Or.inl ⟨by kernel_rfl,?_⟩) (by assumption) ?_;rotate_left
 ·(intro w dN;(try dsimp only at dN);go_simp;try(with_reducible rfl))
 try simp only[Act.put,List.setIfInBounds_toArray,List.set_cons_zero,List.set_cons_succ]
 refine dt 23 118 (v:=?_) rfl (by kernel_rfl) (by kernel_rfl) (by kernel_rfl) (by kernel_rfl) (λ_ _ _ h=>h) (Or.inl ⟨by kernel_rfl,?_⟩) (by assumption) ?_;rotate_left
 ·(intro w dN;(try dsimp only at dN);go_simp;try(with_reducible rfl))
 try simp only[Act.put,List.setIfInBounds_toArray,List.set_cons_zero,List.set_cons_succ]
 refine dt 24 119 (v:=?_) rfl (by kernel_rfl) (by kernel_rfl) (by kernel_rfl) (by kernel_rfl) (λ_ _ _ h=>h) (Or.inl ⟨by kernel_rfl,?_⟩) (by assumption) ?_;rotate_left
 ·(intro w dN;(try dsimp only at dN);go_simp;try(with_reducible rfl))
 try simp only[Act.put,List.setIfInBounds_toArray,List.set_cons_zero,List.set_cons_succ]
 refine dt 25 120 (v:=?_) rfl (by kernel_rfl) (by kernel_rfl) (by kernel_rfl) (by kernel_rfl) (λ_ _ _ h=>h) (Or.inl ⟨by kernel_rfl,?_⟩) (by assumption) ?_;rotate_left
 ·(intro w dN;(try dsimp only at dN);go_simp;try(with_reducible rfl))
 try simp only[Act.put,List.setIfInBounds_toArray,List.set_cons_zero,List.set_cons_succ]
 refine dt 26 121 (v:=?_) rfl (by kernel_rfl) (by kernel_rfl) (by kernel_rfl) (by kernel_rfl) (λ_ _ _ h=>h) (Or.inl ⟨by kernel_rfl,?_⟩) (by assumption) ?_;rotate_left
 ·(intro w dN;(try dsimp only at dN);go_simp;try(with_reducible rfl))
 try simp only[Act.put,List.setIfInBounds_toArray,List.set_cons_zero,List.set_cons_succ]
 refine wpAnyH_ready (rs:=[27]) (by kernel_rfl) (by simp) ?_;refine AllReadyH.cons rfl (λK hK=>?_) AllReadyH.nil;go_simp;go_at_call 308;refine HZ.o _ (λw2 s0 s1 s2 s3 s4 s5 aI=>?_);have c8:=qh aI;clear aI;go_wp2_with fail;refine hK.out _ _ (by go_keep) (λXg=>?_);clear hK K hHeld;try simp only[Act.put,List.setIfInBounds_toArray,List.set_cons_zero,List.set_cons_succ]
 refine dt 28 123 (v:=?_) rfl (by kernel_rfl) (by kernel_rfl) (by kernel_rfl) (by kernel_rfl) (λ_ _ _ h=>h) (Or.inl ⟨by kernel_rfl,?_⟩) (by assumption) ?_;rotate_left
 ·(intro w dN;(try dsimp only at dN);go_simp;try(with_reducible rfl))
 try simp only[Act.put,List.setIfInBounds_toArray,List.set_cons_zero,List.set_cons_succ]
 refine dt 29 124 (v:=?_) rfl (by kernel_rfl) (by kernel_rfl) (by kernel_rfl) (by kernel_rfl) (λ_ _ _ h=>h) (Or.inl ⟨by kernel_rfl,?_⟩) (by assumption) ?_;rotate_left
 ·(intro w dN;(try dsimp only at dN);go_simp;try(with_reducible rfl))
 try simp only[Act.put,List.setIfInBounds_toArray,List.set_cons_zero,List.set_cons_succ]
 refine dt 30 125 (v:=undef) rfl (by kernel_rfl) (by kernel_rfl) (by kernel_rfl) (by kernel_rfl) (λ_ _ _ h=>h) (Or.inr ⟨by kernel_rfl,rfl⟩) (by assumption) ?_;try simp only[Act.put,List.setIfInBounds_toArray,List.set_cons_zero,List.set_cons_succ]
 refine dt 31 126 (v:=undef) rfl (by kernel_rfl) (by kernel_rfl) (by kernel_rfl) (by kernel_rfl) (λ_ _ _ h=>h) (Or.inr ⟨by kernel_rfl,rfl⟩) (by assumption) ?_;try simp only[Act.put,List.setIfInBounds_toArray,List.set_cons_zero,List.set_cons_succ]
 refine dt 32 127 (v:=undef) rfl (by kernel_rfl) (by kernel_rfl) (by kernel_rfl) (by kernel_rfl) (λ_ _ _ h=>h) (Or.inr ⟨by kernel_rfl,rfl⟩) (by assumption) ?_;try simp only[Act.put,List.setIfInBounds_toArray,List.set_cons_zero,List.set_cons_succ]
 refine dt 33 128 (v:=undef) rfl (by kernel_rfl) (by kernel_rfl) (by kernel_rfl) (by kernel_rfl) (λ_ _ _ h=>h) (Or.inr ⟨by kernel_rfl,rfl⟩) (by assumption) ?_;try simp only[Act.put,List.setIfInBounds_toArray,List.set_cons_zero,List.set_cons_succ]
 refine dt 34 129 (v:=undef) rfl (by kernel_rfl) (by kernel_rfl) (by kernel_rfl) (by kernel_rfl) (λ_ _ _ h=>h) (Or.inr ⟨by kernel_rfl,rfl⟩) (by assumption) ?_;try simp only[Act.put,List.setIfInBounds_toArray,List.set_cons_zero,List.set_cons_succ]
 refine dt 35 130 (v:=undef) rfl (by kernel_rfl) (by kernel_rfl) (by kernel_rfl) (by kernel_rfl) (λ_ _ _ h=>h) (Or.inr ⟨by kernel_rfl,rfl⟩) (by assumption) ?_;try simp only[Act.put,List.setIfInBounds_toArray,List.set_cons_zero,List.set_cons_succ]
 refine dt 36 131 (v:=undef) rfl (by kernel_rfl) (by kernel_rfl) (by kernel_rfl) (by kernel_rfl) (λ_ _ _ h=>h) (Or.inr ⟨by kernel_rfl,rfl⟩) (by assumption) ?_;try simp only[Act.put,List.setIfInBounds_toArray,List.set_cons_zero,List.set_cons_succ]
 refine dt 37 132 (v:=undef) rfl (by kernel_rfl) (by kernel_rfl) (by kernel_rfl) (by kernel_rfl) (λ_ _ _ h=>h) (Or.inr ⟨by kernel_rfl,rfl⟩) (by assumption) ?_;try simp only[Act.put,List.setIfInBounds_toArray,List.set_cons_zero,List.set_cons_succ]
 refine dt 38 133 (v:=undef) rfl (by kernel_rfl) (by kernel_rfl) (by kernel_rfl) (by kernel_rfl) (λ_ _ _ h=>h) (Or.inr ⟨by kernel_rfl,rfl⟩) (by assumption) ?_;try simp only[Act.put,List.setIfInBounds_toArray,List.set_cons_zero,List.set_cons_succ]
 refine dt 39 134 (v:=?_) rfl (by kernel_rfl) (by kernel_rfl) (by kernel_rfl) (by kernel_rfl) (λ_ _ _ h=>h) (Or.inl ⟨by kernel_rfl,?_⟩) (by assumption) ?_;rotate_left
 ·(intro w dN;(try dsimp only at dN);go_simp;try(with_reducible rfl))
 try simp only[Act.put,List.setIfInBounds_toArray,List.set_cons_zero,List.set_cons_succ]
 refine dt 40 4 (v:=?_) rfl (by kernel_rfl) (by kernel_rfl) (by kernel_rfl) (by kernel_rfl) (λ_ _ _ h=>h) (Or.inl ⟨by kernel_rfl,?_⟩) (by assumption) ?_;rotate_left
 ·(intro w dN;(try dsimp only at dN);go_simp;try(with_reducible rfl))
 try simp only[Act.put,List.setIfInBounds_toArray,List.set_cons_zero,List.set_cons_succ]
 refine wpAnyH_done (by kernel_rfl) ?_ _;all_goals
  go_wp2_with fail;exact HR.o _ c8.o
theorem TW(w:World)(ba bb:Nat)(hA:cW w ba 9)(hB:cW w bb 9)(a1:Option Addr)(lC:Nat)(c2:w.cell? ⟨ba,2,none⟩=some (.slice a1 0 lC))(e2:w.cell? ⟨bb,2,none⟩=some (.slice none 0 0))(x y:Value)(c3:w.cell? ⟨ba,3,none⟩=some x)(e3:w.cell? ⟨bb,3,none⟩=some y)
  (hy:∀w2,Below w.heap.size w w2→∀R:EW,(∀w',Below w2.heap.size w2 w'→R (.returned (.bool true)) w')→Calls prog 308 #[.slice a1 0 lC,.slice none 0 0,.func (.func 307) #[] #[]] w2 R)
  (r:Bool) (hx:oQ x y w r) {R:EW} (hR:nE w r R):
  uU (.pointer (some ⟨ba,0,none⟩)) (.pointer (some ⟨bb,0,none⟩)) w R:=by
 have HR:=qh hR;have HX:=qh hy;have HF:=qh hx;obtain⟨vX,c0⟩:=hA;obtain⟨gB,e0⟩:=hB;have HZ:Hq (∀R:EW,(∀w',w'.cell? ⟨w.heap.size,0,none⟩=some (.pointer (some ⟨ba,0,none⟩))→w'.cell? ⟨w.heap.size+1,0,none⟩=some (.pointer (some ⟨bb,0,none⟩))→w'.cell? ⟨ba,2,none⟩=some (.slice a1 0 lC)→w'.cell? ⟨bb,2,none⟩=some (.slice none 0 0)→w'.cell? ⟨ba,3,none⟩=some x→w'.cell? ⟨bb,3,none⟩=some y→Below w.heap.size w w'→R (.returned (.bool true)) w')→Calls prog 308 #[.slice a1 0 lC,.slice none 0 0,.func (.func 307) #[] #[]] ((w.alloc (.cells #[.pointer (some ⟨ba,0,none⟩)] 107)).alloc (.cells #[.pointer (some ⟨bb,0,none⟩)] 107)).drew.drew R):=λR h=>by
  refine HX.o _ (bM w _ _).drew.drew _ (λw2 aI=>?_);have hB:=(bM w _ _).drew.drew.trans (aI.mono (by simp;omega));exact h w2 (aq aI (PH w _ _ _)) (aq aI (QI w _ _ _)) (aq hB c2) (aq hB e2) (aq hB c3) (aq hB e3) hB
 clear hR hy HX hx;go_enter func249,ntmps249;go_wp2_with fail
 go_region
 go_wp2_with fail;go_region_held3(λw'=>w'.cell? ⟨w.heap.size,0,none⟩=some (.pointer (some ⟨ba,0,none⟩))∧w'.cell? ⟨w.heap.size+1,0,none⟩=some (.pointer (some ⟨bb,0,none⟩))∧w'.cell? ⟨ba,2,none⟩=some (.slice a1 0 lC)∧w'.cell? ⟨bb,2,none⟩=some (.slice none 0 0)∧w'.cell? ⟨ba,3,none⟩=some x∧w'.cell? ⟨bb,3,none⟩=some y) (go_keep)
  (first|(go_at_call 308;refine HZ.o _ (λw2 s0 s1 s2 s3 s4 s5 aI=>?_);have c8:=qh aI;clear aI)|(go_at_call 249;refine HF.o _ c8.o _ (λw3 dD=>?_);have cU:=qh (c8.o.trans (dD.mono c8.o.size));have s0:=aq dD s0;have s1:=aq dD s1;have s2:=aq dD s2;have s3:=aq dD s3;have s4:=aq dD s4;have s5:=aq dD s5;clear dD))
 all_goals
  go_wp2_with fail;exact HR.o _ cU.o
theorem oQ.mono{p q:Value}{w w1:World}{r:Bool}(h:oQ p q w r)(hb:Below w.heap.size w w1):oQ p q w1 r:=λw2 aI R hR=>h w2 (hb.trans (aI.mono hb.size)) R hR
theorem getD_eq{α:Type}{l:List α}{j:Nat}(h:j<l.length)(d:α):l.getD j d=l[j]:=by
 rw[List.getD_eq_getElem?_getD,List.getElem?_eq_getElem h];rfl
theorem tA{w w1:World}{b k:Nat}(hb:Below w.heap.size w w1)(h1:b<w.heap.size)(h2:w.cell? ⟨b,0,none⟩=some (.int .i64 (k:Nat))):cW w1 b k:=⟨nL h1 hb.size,aq hb h2⟩
theorem n_{k:Nat}{names:List BA}{parts list of:List Tr}(h:dP (.mk k names parts list of)):names.length=parts.length∧parts.length≤1000000∧list.length≤1000000∧(1≤k∧k≤10)∧(k=8∨k=9→of.length=1)∧(k≠8→k≠9→of=[]):=by
 rw[dP]at h
 exact⟨h.2.1,h.2.2.2.2.2.2.1.1,h.2.2.2.2.2.2.1.2,h.1,h.2.2.1,h.2.2.2.1⟩
theorem om{h:ak.Hp}{k:Nat}{names:List BA}{parts list of:List Tr}{os:List Value}{ov:Value}(ho:of.length=1)(hr:bz h of os)(hv:os=[]∧ov=.pointer none∨os=[ov]):rep h (fq (.mk k names parts list of)) ov:=by
 match of,ho with
 |[o],_=>
  rw[bz]at hr
  obtain⟨p,BZ,rfl,h1,h2⟩:=hr;rw[bz]at h2
  subst h2;rcases hv with⟨h3,_⟩|h3
  ·cases h3
  ·cases h3;exact h1
theorem ML{ka kb:Nat}{na nb:List BA}{pa la oa pb lb ob:List Tr}(ha:dP (.mk ka na pa la oa))(hb:dP (.mk kb nb pb lb ob)):Ty.fits (.mk ka na pa la oa) (.mk kb nb pb lb ob)=
  if ka=5∨kb=5∨kb=6 then true
  else if ka=10 then !br (λj=>!Ty.fits (la.getD j bN) (.mk kb nb pb lb ob)) la.length
  else if kb=10 then br (λj=>Ty.fits (.mk ka na pa la oa) (lb.getD j bN)) lb.length
  else if ka≠kb then false
  else if ka=7 then !br (λj=>match Ty.part na pa (nb.getD j ⟨#[]⟩)with|none=>true|some t=>!Ty.fits t (pb.getD j bN)) pb.length
  else if ka=8 then Ty.fits (fq (.mk ka na pa la oa)) (fq (.mk kb nb pb lb ob))
  else if ka=9 then decide (la.length≤lb.length)&&!br (λj=>!(Ty.fits (la.getD j bN) (lb.getD j bN)||Ty.fits (lb.getD j bN) (la.getD j bN))) la.length&&Ty.fits (fq (.mk ka na pa la oa)) (fq (.mk kb nb pb lb ob))
  else true:=Gu ha hb
theorem yE(w:World):∀(N:Nat)(a b:Tr)(p q:Value),sz a+sz b<N→dP a→dP b→rep (ak.hp w) a p→rep (ak.hp w) b q→oQ p q w (Ty.fits a b):=by
 intro N;induction N with
 |zero=>intro a b p q h;omega
 |succ N ih=>
  intro a b p q hN ha hb ra rb w1 hw R hR;have I_:∀(x y:Tr)(p q:Value),sz x+sz y<sz a+sz b→dP x→dP y→rep (ak.hp w) x p→rep (ak.hp w) y q→oQ p q w (Ty.fits x y):=λx y p q h=>ih x y p q (by omega)
  have gl:∀{j:Nat},j<(aN a).length→sz ((aN a).getD j bN)<sz a∧dP ((aN a).getD j bN):=λh=>⟨dz h,cz ha h⟩
  have gm:∀{j:Nat},j<(aN b).length→sz ((aN b).getD j bN)<sz b∧dP ((aN b).getD j bN):=λh=>⟨dz h,cz hb h⟩
  have gp:∀{j:Nat},j<(Ty.partsOf b).length→sz ((Ty.partsOf b).getD j bN)<sz b∧dP ((Ty.partsOf b).getD j bN):=λh=>⟨js h,jA hb h⟩
  have gq:∀{x:BA}{t:Tr},Ty.part (cg a) (Ty.partsOf a) x=some t→sz t<sz a∧dP t:=λh=>⟨qo h,pW ha h⟩
  have so:Ty.kindOf a=8∨Ty.kindOf a=9→sz (fq a)<sz a∧dP (fq a):=λh=>⟨gh ha h,gd ha h⟩
  have sp:Ty.kindOf b=8∨Ty.kindOf b=9→sz (fq b)<sz b∧dP (fq b):=λh=>⟨gh hb h,gd hb h⟩
  obtain⟨ka,na,pa,la,oa⟩:=a;obtain⟨kb,nb,pb,lb,ob⟩:=b;obtain⟨ba,abo,vC,vI,Tw,wj,aaL,rfl,vX,c0,c1,c2,c3,uh,Wp,Jk,m_,Fo,GH,Ov⟩:=h_ ra;obtain⟨bb,V9,nu,qR,vA,FC,ab4,rfl,gB,e0,e1,e2,e3,sE,A',NB,sU,Gy,Mw,Rk⟩:=h_ rb;obtain⟨W9,U3,XL,WL,P9,Sx⟩:=n_ ha;obtain⟨ZQ,abx,aaZ,aan,Uw,abw⟩:=n_ hb;have hA:cW w1 ba ka:=tA hw vX c0;have hB:cW w1 bb kb:=tA hw gB e0;have BI:∀r,Ty.fits (.mk ka na pa la oa) (.mk kb nb pb lb ob)=r→nE w1 r R:=λr h w2 aI=>h▸hR w2 aI
  have l1:=bV Fo;have l2:=bV Gy;have m1:=bV Jk;have m2:=bV NB;dsimp only[Ty.kindOf,cg,Ty.partsOf,aN]at gl gm gp gq so sp;have g_:=ML ha hb;by_cases h1:ka=5∨kb=5∨kb=6
  ·rw[if_pos h1]at g_
   exact LR w1 ba bb ka kb hA hB h1 (BI _ g_)
  rw[if_neg h1]at g_
  by_cases h2:ka=10
  ·rw[if_pos h2]at g_
   subst h2;refine Pa w1 ba bb kb hA hB (by omega) (by omega) vC (aq hw c2) _ (λw2 hx aI R2 yU=>?_) (BI _ g_);have ke:=hw.trans (aI.mono hw.size);rw[l1]at yU
   refine uQ w2 vC wj (az m_ ke) (by omega) 303 _ Tryz.call303 _ (λj hj w3 dD R3 DR=>?_) yU;have eh:j<la.length:=by omega
   obtain⟨g1,g2⟩:=gl eh;refine Ii w w3 (w1.heap.size+1) wj[j] _ _ (aq dD hx) ?_ (ke.trans (dD.mono ke.size)) DR;refine I_ _ _ _ _ (by omega) g2 hb ?_ rb;rw[getD_eq eh];exact cS Fo j eh hj
  rw[if_neg h2]at g_
  by_cases h3:kb=10
  ·rw[if_pos h3]at g_
   subst h3;refine Pu w1 ba bb ka hA hB (by omega) (by omega) nu (aq hw e2) _ (λw2 hx aI R2 yU=>?_) (BI _ g_);have ke:=hw.trans (aI.mono hw.size);rw[l2]at yU
   refine uQ w2 nu FC (az sU ke) (by omega) 304 _ Tryz.call304 _ (λj hj w3 dD R3 DR=>?_) yU;have eh:j<lb.length:=by omega
   obtain⟨g1,g2⟩:=gm eh;refine KD w w3 w1.heap.size FC[j] _ _ (aq dD hx) ?_ (ke.trans (dD.mono ke.size)) DR;refine I_ _ _ _ _ (by omega) ha g2 ra ?_;rw[getD_eq eh];exact cS Gy j eh hj
  rw[if_neg h3]at g_
  by_cases h4:ka=kb;rotate_left
  ·rw[if_pos h4]at g_
   exact Ta w1 ba bb ka kb hA hB (by omega) (by omega) ⟨by omega,by omega,by omega⟩ h4 (BI _ g_)
  rw[if_neg (by omega)]at g_
  subst h4;by_cases h7:ka=7
  ·rw[if_pos h7]at g_
   subst h7;refine VR w1 ba bb hA hB V9 (aq hw e1) _ (λw2 hx aI R2 yU=>?_) (BI _ g_);have ke:=hw.trans (aI.mono hw.size);rw[m2]at yU
   refine JO w2 V9 nb vA (az sE ke) A' (by omega) 306 _ Tryz.call306 _ (λj hj w3 dD R3 DR=>?_) yU;have eh:j<pb.length:=by omega
   have tK:j<nb.length:=by omega
   obtain⟨g1,g2⟩:=gp eh;have CG:=cS NB j eh hj;obtain⟨pq,ab9,_⟩:=eQ CG;rw[ab9]at CG⊢
   rw[getD_eq tK]at DR
   have XS:=ke.trans (dD.mono ke.size);refine Ke w w3 w1.heap.size (.mk 7 na pa la oa) _ nb[j] pq (λu=>Ty.fits u (pb.getD j bN)) (aq dD hx) (by have:=aI.size;have:=dD.size;have:=World.block_lt_of_cell? _ _ hx;dsimp only at this;omega) ra ha (λu q2 hu hq=>?_) XS DR;obtain⟨g3,g4⟩:=gq hu;exact I_ _ _ _ _ (by omega) g4 g2 hq (by rw[getD_eq eh];exact CG)
  rw[if_neg h7]at g_
  by_cases h8:ka=8
  ·rw[if_pos h8]at g_
   subst h8;obtain⟨s1,s2⟩:=so (.inl rfl);obtain⟨s3,s4⟩:=sp (.inl rfl);exact XD w1 ba bb hA hB vI qR (aq hw c3) (aq hw e3) _ (oQ.mono (I_ _ _ _ _ (by omega) s2 s4 (om (P9 (.inl rfl)) GH Ov) (om (Uw (.inl rfl)) Mw Rk)) hw) (BI _ g_)
  rw[if_neg h8]at g_
  by_cases h9:ka=9
  ·rw[if_pos h9]at g_
   subst h9;obtain⟨s1,s2⟩:=so (.inr rfl);obtain⟨s3,s4⟩:=sp (.inr rfl);have RC:=oQ.mono (I_ _ _ _ _ (by omega) s2 s4 (om (P9 (.inr rfl)) GH Ov) (om (Uw (.inr rfl)) Mw Rk)) hw;have r1:=m_;have r2:=sU;obtain⟨a1,lC,rfl⟩:=ag m_;by_cases hle:la.length≤lb.length;rotate_left
   ·rw[decide_eq_false hle,Bool.false_and,Bool.false_and]at g_
    obtain⟨a2,mG,rfl⟩:=ag sU;exact SX w1 ba bb hA hB a1 a2 wj.length FC.length lC mG (aq hw c2) (aq hw e2) (by omega) (BI _ g_)
   rw[decide_eq_true hle,Bool.true_and]at g_
   have uw:∀(a2:Option Addr)(mG:Nat),w.ownsRow 0 107 1 (.slice a2 wj.length mG) wj.length (FC.take wj.length)→∀w2,Below w1.heap.size w1 w2→∀R2:EW,(∀w',Below w2.heap.size w2 w'→R2 (.returned (.bool (!br (λj=>!(Ty.fits (la.getD j bN) (lb.getD j bN)||Ty.fits (lb.getD j bN) (la.getD j bN))) la.length))) w')→Calls prog 308 #[.slice a1 wj.length lC,.slice a2 wj.length mG,.func (.func 307) #[] #[]] w2 R2:=by
    intro a2 mG ht w2 aI R2 yU;have ke:=hw.trans (aI.mono hw.size);have jK: (FC.take wj.length).length=wj.length:=by rw[List.length_take];omega
    rw[l1]at yU
    refine AL w2 _ _ wj (FC.take wj.length) (az r1 ke) (by rw[jK];exact az ht ke) (by omega) 307 Tryz.call307 (λj=>Ty.fits (la.getD j bN) (lb.getD j bN)||Ty.fits (lb.getD j bN) (la.getD j bN)) (λj hj eh w3 dD R3 DR=>?_) (λw' fU=>?_)
    ·have tK:j<la.length:=by omega
     have PT:j<lb.length:=by omega
     have aao:j<FC.length:=by omega
     obtain⟨g1,g2⟩:=gl tK;obtain⟨g3,g4⟩:=gm PT;have x1:rep (ak.hp w) (la.getD j bN) wj[j]:=by rw[getD_eq tK];exact cS Fo j tK hj
     have x2:rep (ak.hp w) (lb.getD j bN) (FC.take wj.length)[j]:=by rw[getD_eq PT,List.getElem_take];exact cS Gy j PT aao
     exact Li w w3 _ _ _ _ (I_ _ _ _ _ (by omega) g2 g4 x1 x2) (I_ _ _ _ _ (by omega) g4 g2 x2 x1) (ke.trans (dD.mono ke.size)) DR
    ·have:=yU w' fU;rw[decide_eq_true jK.symm,Bool.true_and];exact this
   rcases sU.2 with⟨rfl,h0⟩|⟨g,cap,cur,rfl,_,_,hcap,_⟩
   ·have acy:wj=[]:=List.eq_nil_of_length_eq_zero (by omega);subst acy;have uP:=uw none 0 ⟨by simp,.inl ⟨rfl,rfl⟩⟩;have mS:la.length=0:=by simp at l1;omega
    rw[mS]at uP g_
    rw[show br _ 0=false from rfl,Bool.not_false]at uP g_
    rw[Bool.true_and]at g_
    exact TW w1 ba bb hA hB a1 lC (aq hw c2) (aq hw e2) vI qR (aq hw c3) (aq hw e3) uP _ RC (BI _ g_)
   ·have uP:=uw (some ⟨g,0,none⟩) cap (E' r2 (by omega));cases sI:br (λj=>!(Ty.fits (la.getD j bN) (lb.getD j bN)||Ty.fits (lb.getD j bN) (la.getD j bN))) la.length with
    |true=>
     rw[sI]at uP g_
     rw[Bool.not_true,Bool.false_and]at g_
     exact S0 w1 ba bb hA hB a1 (some ⟨g,0,none⟩) wj.length FC.length lC cap (aq hw c2) (aq hw e2) vI qR (aq hw c3) (aq hw e3) (by omega) hcap ⟨g,rfl⟩ uP (BI _ g_)
    |false=>
     rw[sI]at uP g_
     rw[Bool.not_false,Bool.true_and]at g_
     exact TC w1 ba bb hA hB a1 (some ⟨g,0,none⟩) wj.length FC.length lC cap (aq hw c2) (aq hw e2) vI qR (aq hw c3) (aq hw e3) (by omega) hcap ⟨g,rfl⟩ uP _ RC (BI _ g_)
  rw[if_neg h9]at g_
  exact Pv w1 ba bb ka hA hB ⟨by omega,by omega,by omega⟩ ⟨h7,h8,h9⟩ (BI _ g_)
theorem kD.mono{p q:Value}{w w1:World}{r:Bool}(h:kD p q w r)(hb:Below w.heap.size w w1):kD p q w1 r:=λw2 aI R hR=>h w2 (hb.trans (aI.mono hb.size)) R hR
theorem Kd{ka kb:Nat}{na nb:List BA}{pa la oa pb lb ob:List Tr}(ha:dP (.mk ka na pa la oa))(hb:dP (.mk kb nb pb lb ob)):Ty.alike (.mk ka na pa la oa) (.mk kb nb pb lb ob)=
  (decide (ka=kb)&&decide (pa.length=pb.length)&&decide (la.length=lb.length)
   &&!br (λj=>!Ty.alike (la.getD j bN) (lb.getD j bN)) la.length
   &&!br (λj=>match Ty.part nb pb (na.getD j ⟨#[]⟩)with|none=>true|some t=>!Ty.alike (pa.getD j bN) t) pa.length
   &&(!decide (ka=8∨ka=9)||Ty.alike (fq (.mk ka na pa la oa)) (fq (.mk kb nb pb lb ob)))):=DA ha hb
theorem Fi(w:World):∀(N:Nat)(a b:Tr)(p q:Value),sz a+sz b<N→dP a→dP b→rep (ak.hp w) a p→rep (ak.hp w) b q→kD p q w (Ty.alike a b):=by
 intro N;induction N with
 |zero=>intro a b p q h;omega
 |succ N ih=>
  intro a b p q hN ha hb ra rb w1 hw R hR;have I_:∀(x y:Tr)(p q:Value),sz x+sz y<sz a+sz b→dP x→dP y→rep (ak.hp w) x p→rep (ak.hp w) y q→kD p q w (Ty.alike x y):=λx y p q h=>ih x y p q (by omega)
  have gl:∀{j:Nat},j<(aN a).length→sz ((aN a).getD j bN)<sz a∧dP ((aN a).getD j bN):=λh=>⟨dz h,cz ha h⟩
  have gm:∀{j:Nat},j<(aN b).length→sz ((aN b).getD j bN)<sz b∧dP ((aN b).getD j bN):=λh=>⟨dz h,cz hb h⟩
  have gp:∀{j:Nat},j<(Ty.partsOf a).length→sz ((Ty.partsOf a).getD j bN)<sz a∧dP ((Ty.partsOf a).getD j bN):=λh=>⟨js h,jA ha h⟩
  have gq:∀{x:BA}{t:Tr},Ty.part (cg b) (Ty.partsOf b) x=some t→sz t<sz b∧dP t:=λh=>⟨qo h,pW hb h⟩
  have so:Ty.kindOf a=8∨Ty.kindOf a=9→sz (fq a)<sz a∧dP (fq a):=λh=>⟨gh ha h,gd ha h⟩
  have sp:Ty.kindOf b=8∨Ty.kindOf b=9→sz (fq b)<sz b∧dP (fq b):=λh=>⟨gh hb h,gd hb h⟩
  obtain⟨ka,na,pa,la,oa⟩:=a;obtain⟨kb,nb,pb,lb,ob⟩:=b;obtain⟨ba,abo,vC,vI,Tw,wj,aaL,rfl,vX,c0,c1,c2,c3,uh,Wp,Jk,m_,Fo,GH,Ov⟩:=h_ ra;obtain⟨bb,V9,nu,qR,vA,FC,ab4,rfl,gB,e0,e1,e2,e3,sE,A',NB,sU,Gy,Mw,Rk⟩:=h_ rb;obtain⟨W9,U3,XL,WL,P9,Sx⟩:=n_ ha;obtain⟨ZQ,abx,aaZ,aan,Uw,abw⟩:=n_ hb;obtain⟨a1,lC,rfl⟩:=ag uh;obtain⟨a2,mG,rfl⟩:=ag sE;have hA:TAt w1 ba ka a1 Tw.length lC vC vI:=TAt.below ⟨vX,c0,c1,c2,c3⟩ hw;have hB:TAt w1 bb kb a2 vA.length mG nu qR:=TAt.below ⟨gB,e0,e1,e2,e3⟩ hw;have BI:∀r,Ty.alike (.mk ka na pa la oa) (.mk kb nb pb lb ob)=r→nE w1 r R:=λr h w2 aI=>h▸hR w2 aI
  have l1:=bV Fo;have l2:=bV Gy;have m1:=bV Jk;have m2:=bV NB;dsimp only[Ty.kindOf,cg,Ty.partsOf,aN]at gl gm gp gq so sp;have g_:=Kd ha hb;by_cases h1:ka=kb;rotate_left
  ·exact Mf w1 ba bb ka kb a1 a2 _ _ lC mG vC nu vI qR hA hB h1 (BI _ (by rw[g_];simp[h1]))
  subst h1;by_cases h2:pa.length=pb.length;rotate_left
  ·exact PY w1 ba bb ka a1 a2 _ _ lC mG vC nu vI qR hA hB (by omega) (BI _ (by rw[g_];simp[h2]))
  have uw:∀w2,Below w1.heap.size w1 w2→∀R2:EW,(∀w',Below w2.heap.size w2 w'→R2 (.returned (.bool (decide (la.length=lb.length)&&!br (λj=>!Ty.alike (la.getD j bN) (lb.getD j bN)) la.length))) w')→Calls prog 308 #[vC,nu,.func (.func 301) #[] #[]] w2 R2:=by
   intro w2 aI R2 yU;have ke:=hw.trans (aI.mono hw.size);rw[l1,l2]at yU
   refine AL w2 _ _ wj FC (az m_ ke) (az sU ke) (by omega) 301 Tryz.call301 (λj=>Ty.alike (la.getD j bN) (lb.getD j bN)) (λj hj eh w3 dD R3 DR=>?_) yU;have tK:j<la.length:=by omega
   have PT:j<lb.length:=by omega
   obtain⟨g1,g2⟩:=gl tK;obtain⟨g3,g4⟩:=gm PT;have x1:rep (ak.hp w) (la.getD j bN) wj[j]:=by rw[getD_eq tK];exact cS Fo j tK hj
   have x2:rep (ak.hp w) (lb.getD j bN) FC[j]:=by rw[getD_eq PT];exact cS Gy j PT eh
   exact I_ _ _ _ _ (by omega) g2 g4 x1 x2 w3 (ke.trans (dD.mono ke.size)) R3 DR
  have OH:vA.length=Tw.length:=by omega
  rw[decide_eq_true rfl,decide_eq_true h2,Bool.true_and,Bool.true_and]at g_
  rw[OH]at hB
  cases Um: (decide (la.length=lb.length)&&!br (λj=>!Ty.alike (la.getD j bN) (lb.getD j bN)) la.length)with
  |false=>
   rw[Um]at g_
   simp only[Um]at uw;exact M6 w1 ba bb ka a1 a2 _ lC mG vC nu vI qR hA hB uw (BI _ (by rw[g_];simp))
  |true=>
   rw[Um,Bool.true_and]at g_
   simp only[Um]at uw;rw[m1]at g_
   refine MZ w1 ba bb ka a1 a2 lC mG vC nu vI qR na Tw hA hB (az uh hw) Wp (by omega) uw _ (λj hj eh=>?_) (λj hj=>?_) _ ?_ (BI _ g_)
   ·intro w2 aI R2 yU;have ke:=hw.trans (aI.mono hw.size);have tK:j<pa.length:=by omega
    refine Ax w w2 ke _ _ rb hb na[j] (λq w3 dD hq=>yU q w3 dD ?_);dsimp only at hq;rw[getD_eq eh];cases Xm:Ty.part nb pb na[j]with
    |none=>
     rw[Xm]at hq
     exact .inl ⟨hq,rfl⟩
    |some u=>
     rw[Xm]at hq
     obtain⟨qb,eq,_⟩:=eQ hq;obtain⟨g1,g2⟩:=gp tK;obtain⟨g3,g4⟩:=gq Xm;refine .inr ⟨qb,_,eq,kD.mono (I_ (pa.getD j bN) u _ _ (by omega) g2 g4 ?_ hq) hw,rfl⟩;rw[getD_eq tK];exact cS Jk j tK hj
   ·obtain⟨Vx,e,_⟩:=eQ (cS Jk j (by omega) hj);exact⟨Vx,e⟩
   ·by_cases h8:ka=8∨ka=9
    ·have ho:=om (k:=ka) (names:=na) (parts:=pa) (list:=la) (P9 h8) GH Ov;obtain⟨po,eo,_⟩:=eQ ho;obtain⟨s1,s2⟩:=so h8;obtain⟨s3,s4⟩:=sp h8;refine .inr ⟨po,eo,?_⟩;rw[decide_eq_true h8,Bool.not_true,Bool.false_or];exact kD.mono (I_ _ _ _ _ (by omega) s2 s4 ho (om (Uw h8) Mw Rk)) hw
    ·left;have UC:=Sx (by omega) (by omega);subst UC;rw[bz]at GH
     subst GH;rcases Ov with⟨_,h⟩|h
     ·exact⟨h,by simp[h8]⟩
     ·cases h
end
section
open Ty (Tr)
def uA(w0:World)(h0:ak.Hp)(t:Tr)(p:Value):Prop:=∀w,Below w0.heap.size w0 w→∀R:EW,
 (∀v ps w',Sat w w' [bE w,ak.row 107 1 v ps.length ps]→bz h0 (eP t) ps→R (.returned v) w')→Calls prog 298 #[p] w R
theorem rX{h:ak.Hp}:∀{l m:List Tr}{ps qs:List Value},bz h l ps→bz h m qs→bz h (l++m) (ps++qs)
 |[],m,ps,qs,h1,h2=>by rw[bz]at h1;subst h1;exact h2
 |a::l,m,ps,qs,h1,h2=>by
  rw[bz]at h1
  obtain⟨q,BZ,rfl,h3,h4⟩:=h1;show bz h (a:: (l++m)) (q:: (BZ++qs));rw[bz];exact⟨q,_,rfl,h3,rX h4 h2⟩
theorem Fl{h:ak.Hp}{l:List Tr}{ps:List Value}(hr:bz h l ps):∀u∈ps,u.oneCell'=true:=by
 induction l generalizing ps with
 |nil=>rw[bz]at hr;subst hr;simp
 |cons a l ih=>
  rw[bz]at hr
  obtain⟨q,BZ,rfl,h3,h4⟩:=hr;intro u hu;rcases List.mem_cons.1 hu with rfl|hu
  ·obtain⟨b,rfl,_⟩:=eQ h3;rfl
  ·exact ih h4 u hu
theorem Gn{v:Value}{ps qs:List Value}{n:Nat}{a:ak.Hp}(hn:n=ps.length+qs.length)(h:ak.row 107 1 v n (ps++qs) a):ak.row 107 1 v (ps++qs).length (ps++qs) a:=by
 rw[List.length_append,←hn];exact h
theorem qG(w0:World){h0:ak.Hp}(vF:ak.le h0 (ak.hp w0)):∀(N:Nat)(t:Tr),sz t<N→dP t→iW t→dw t≤1000000→∀p,rep h0 t p→uA w0 h0 t p:=by
 intro N;induction N with
 |zero=>intro t h;omega
 |succ N ih=>
  intro t hN aF Nt Eg p lA w hw R hR;obtain⟨k,names,parts,list,of⟩:=t;have JJ:=lA;obtain⟨b,pv,lv,ov,ps,ls,os,rfl,hb,c0,c1,c2,c3,_,_,_,bJ,uI,_⟩:=mK vF lA;replace c0:=aq hw c0;replace c2:=aq hw c2;rw[eP]at hR
  by_cases hk:k=10
  ·rw[if_pos hk]at hR
   subst hk;have hle:=bV uI;have Cq:=aF;rw[dP]at aF
   have Ws:=Nt;rw[iW]at Nt
   rw[dw]at Eg
   have HR:=qh hR;have dG:=qh (az bJ hw);obtain⟨la,lc,rfl⟩:=ag bJ;have A6:Hq (∀j(hj:j<list.length)(eh:j<ls.length),uA w0 h0 list[j] ls[j]):=λj hj eh=>
    ih list[j] (by have:=qz (gM hj) 10 names parts of;omega) (eS aF.2.2.2.2.2.2.2.2.1 _ (gM hj)) (nO Nt.2.2.1 _ (gM hj)) (by have:=me list j hj;omega) ls[j] (cS uI j hj eh)
   have WA:Hq (∀j(hj:j<list.length),0<(eP list[j]).length):=λj hj=>wN _ (nO Nt.2.2.1 _ (gM hj))
   have UX:=qh Eg;have HW:=qh hw;have oV:ls.length≤1000000:=by have:=aF.2.2.2.2.2.2.1.2;omega
   have zk:=qh hle;obtain⟨j0,tj,qP,rJ,rI⟩:=info_parts pD;have h1:=(Sat.fw w).nil 107 1;have H1:=qh h1;clear vF hR bJ hN lA JJ ih aF Cq Nt Ws Eg uI hle hw h1 c1 c3;go_enter func298,ntmps298;go_wp2_with fail;go_loopw [3,18] (λv i wr=>∃(j:Nat)(qs:List Value),i=.int .i64 j∧j≤ls.length∧Hq (Sat w wr [bE w,ak.row 107 1 v qs.length qs])∧Hq (bz h0 (bQ (list.take j)) qs)) (λ_ i _=>ls.length-(intOf i).toNat)
   case atStart=>exact⟨0,[],rfl,by omega,H1.o,by show bz _ (bQ []) [];rw[bQ,bz]⟩
   case round=>
    obtain⟨j,qs,rfl,hj,hS,hQ⟩:=hrel;obtain⟨qa,qc,rfl⟩:=ag (hS.out.row 1 rfl);by_cases bm:j<ls.length
    ·obtain⟨gl,j9,e,mW,d0⟩:=fD (az dG.o hS.out.aW) j bm;cases e;have eh:j<list.length:=by have:=zk.o;omega
     have HI:=qh (A6.o j eh bm wr (HW.o.trans (hS.out.aW.mono HW.o.size)));have HT:=qh (List.take_succ_eq_append_getElem eh);have fs:=WA.o j eh;have gU:qs.length+(eP list[j]).length≤1000000:=by
      have h1:=bV hQ.out;have h2:=j8 (list.take j);have h3:=rT list[j];have h4:=me list j eh;have:=UX.o;omega
     generalize ls[j]=pj at*
     generalize list[j]=Hn at*
     have Uu:=qh gU;have oH:=qh fs;clear eh fs gU;go_wp2_with fail;refine HI.o _ (λv2 vA w2 h2 sU=>?_);have cI:=bV sU;obtain⟨g2,Nv,rfl,_,DX⟩:=(h2.row 1 rfl).form (by have:=oH.o;omega);have h3:=hS.out.join h2;have Lp:=qh sU;have H3:=qh h3;have df:qs.length+vA.length≤1000000:=by have:=Uu.o;omega
     have aI:0<vA.length:=by have:=oH.o;omega
     clear h2 h3 sU cI;go_wp2_with(at_builtin;go_loud(refine wpList_append_lies _ rfl (.tmp 22) (.tmp 24) 104 rfl 0 107 j0 _ 1 8 underlying104 tj qP rJ rI rfl (by decide) _ _ qs (by rfl) (H3.o.row 1 rfl) ⟨g2,0,none⟩ vA.length Nv vA (by rfl) (by simp) (World.ownsRow.cells (H3.o.row 2 rfl) rfl) (Fl Lp.o) (by omega) (by unfold maxLen;omega) (by omega) (by simp) w2.heap.size rfl ?_));intro g4 eJ w4 cq bC ga mY;have h8:=(Sat.grow H3.o 1 rfl bC cq ga).pick [0,1];have h9:=h8.cG (i:=1) rfl (Q:=ak.row 107 1 (.slice (some ⟨g4,0,none⟩) (qs.length+vA.length) eJ) (qs++vA).length (qs++vA)) (λ_ h=>Gn rfl h);have H9:=qh h9;have Hv:Hq (bz h0 (bQ (list.take (j+1))) (qs++vA)):=by show bz _ _ _;rw[HT.o,vp];exact rX hQ.out Lp.o
     clear h8 h9 cq bC;go_wp2_with fail;go_roundw
     case rel=>exact⟨j+1,qs++vA,by go_num,by omega,H9.o,Hv.o⟩
     case measure=>simp[intOf];omega
    ·have ju:j=list.length:=by have:=zk.o;omega
     have Hv:Hq (bz h0 (bQ list) qs):=by have:=hQ.out;rw[ju,List.take_length]at this;exact this
     clear ju;go_wp2_with fail;exact HR.o _ qs _ hS.out Hv.o
  ·rw[if_neg hk]at hR
   have HR:=qh hR;have PI:=qh JJ;have k1: ((k:Int) !=10)=true:=by simp;omega
   clear vF hR JJ lA ih aF Nt Eg bJ uI hN;go_enter func298,ntmps298;go_wp2_with fail;refine HR.o _ [.pointer (some ⟨b,0,none⟩)] _ (((Sat.fw w).aj (.cells #[.pointer (some ⟨b,0,none⟩)] 107) w.heap.size).cG (i:=1) rfl λ_ h=>my h (by unfold maxLen;simp) rfl rfl) ?_;rw[bz];exact⟨_,[],rfl,PI.o,by rw[bz]⟩
end
end Go.Proofs.YtdlbhiaceheffabGreatDoor
