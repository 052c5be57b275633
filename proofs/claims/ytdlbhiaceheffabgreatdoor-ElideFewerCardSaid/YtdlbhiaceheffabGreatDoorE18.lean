/- Walks of types.Alike, one for each way through. -/
import Derived.Deep.RegionHeld3
import Derived.Test.YtdlbhiaceheffabGreatDoorE17
set_option linter.all false
set_option maxRecDepth 100000
set_option maxHeartbeats 4000000
namespace Go.Proofs.YtdlbhiaceheffabGreatDoor
open Go Go.RowKit Ty Tok Prt Tryz Proofs.Tryz
section
open Ty (Tr br bI bg)
def kE(p q:Value)(w:World)(r:Bool):Prop:=∀w1,Below w.heap.size w w1->∀R:EW,(∀w2,Below w1.heap.size w1 w2->R (.returned (.bool r)) w2)->Calls prog 301 #[p,q] w1 R
abbrev yj(p q:Value)(w:World)(R:EW):Prop:=Calls prog 301 #[p,q] w R
structure TAt(w:World)(b k:Nat)(a:Option Addr)(n c:Nat)(lv ov:Value):Prop where
 lt:b<w.heap.size
 c0:w.cell? ⟨b,0,none⟩=some (.int .i64 (k:Nat))
 c1:w.cell? ⟨b,1,none⟩=some (.slice a n c)
 c2:w.cell? ⟨b,2,none⟩=some lv
 c3:w.cell? ⟨b,3,none⟩=some ov
theorem iQ{w w':World}(h:Below w.heap.size w w'){b o:Nat}{v:Value}(hc:w.cell? ⟨b,o,none⟩=some v):w'.cell? ⟨b,o,none⟩=some v:=by
 by_cases hb:b<w.heap.size
 ·exact(h.cell (p:=⟨b,o,none⟩) hb).trans hc
 ·rw[World.cell?,Array.getElem?_eq_none (by simpa using hb)]at hc;simp at hc
theorem TAt.below{w w':World}{b k:Nat}{a:Option Addr}{n c:Nat}{lv ov:Value}(h:TAt w b k a n c lv ov)(hb:Below w.heap.size w w'):TAt w' b k a n c lv ov:=
 ⟨nL h.lt hb.size,iQ hb h.c0,iQ hb h.c1,iQ hb h.c2,iQ hb h.c3⟩
theorem Mj(w:World)(ba bb ka kb:Nat)(a1 a2:Option Addr)(n1 n2 kZ mz:Nat)(vT qx wv sH:Value)(hA:TAt w ba ka a1 n1 kZ vT wv)(hB:TAt w bb kb a2 n2 mz qx sH)(bT:ka≠kb){R:EW}(hR:ng w false R):
  yj (.pointer (some ⟨ba,0,none⟩)) (.pointer (some ⟨bb,0,none⟩)) w R:=by
 have HR:=qh hR;obtain⟨vX,c0,c1,c2,c3⟩:=hA;obtain⟨gQ,e0,e1,e2,e3⟩:=hB;have n6: ((ka:Int) !=kb)=true:=by simp;omega
 clear hR bT;go_enter func301,ntmps301;go_wp2_with fail
 go_region
 all_goals
  go_wp2_with fail;exact HR.o _ (bR _ _).drew
theorem PG(w:World)(ba bb k:Nat)(a1 a2:Option Addr)(n1 n2 kZ mz:Nat)(vT qx wv sH:Value)(hA:TAt w ba k a1 n1 kZ vT wv)(hB:TAt w bb k a2 n2 mz qx sH)(bT:n1≠n2){R:EW}(hR:ng w false R):
  yj (.pointer (some ⟨ba,0,none⟩)) (.pointer (some ⟨bb,0,none⟩)) w R:=by
 have HR:=qh hR;obtain⟨vX,c0,c1,c2,c3⟩:=hA;obtain⟨gQ,e0,e1,e2,e3⟩:=hB;have n6: ((k:Int) !=k)=false:=by simp
 have n7: ((n1:Int) !=n2)=true:=by simp;omega
 clear hR bT;go_enter func301,ntmps301;go_wp2_with fail
 go_region
 all_goals
  go_wp2_with fail;exact HR.o _ (bR _ _).drew
theorem Mr(w:World)(ba bb k:Nat)(a1 a2:Option Addr)(n kZ mz:Nat)(vT qx wv sH:Value)(hA:TAt w ba k a1 n kZ vT wv)(hB:TAt w bb k a2 n mz qx sH)
  (hy:∀w2,Below w.heap.size w w2->∀R:EW,(∀w',Below w2.heap.size w2 w'->R (.returned (.bool false)) w')->Calls prog 308 #[vT,qx,.func (.func 301) #[] #[]] w2 R) {R:EW} (hR:ng w false R):
  yj (.pointer (some ⟨ba,0,none⟩)) (.pointer (some ⟨bb,0,none⟩)) w R:=by
 have HR:=qh hR;have HX:=qh hy;obtain⟨vX,c0,c1,c2,c3⟩:=hA;obtain⟨gQ,e0,e1,e2,e3⟩:=hB;have n6: ((k:Int) !=k)=false:=by simp
 have n7: ((n:Int) !=n)=false:=by simp
 clear hR hy;go_enter func301,ntmps301;go_wp2_with fail;go_region_held3(λw'=>w'.cell? ⟨ba,0,none⟩=some (.int .i64 (k:Nat))/\w'.cell? ⟨bb,0,none⟩=some (.int .i64 (k:Nat))/\w'.cell? ⟨ba,1,none⟩=some (.slice a1 n kZ)/\w'.cell? ⟨bb,1,none⟩=some (.slice a2 n mz)/\w'.cell? ⟨ba,2,none⟩=some vT/\w'.cell? ⟨bb,2,none⟩=some qx) (go_keep)
  (first|(go_at_call 308;refine HX.o _ (bR _ _).drew _ (λw2 aD=>?_);have c9:=qh ((bR w.heap.size w).drew.trans (aD.mono (by simp)));have s0:=iQ c9.o c0;have s1:=iQ c9.o e0;have s2:=iQ c9.o c1;have s3:=iQ c9.o e1;have s4:=iQ c9.o c2;have s5:=iQ c9.o e2;clear aD))
 all_goals
  go_wp2_with fail;exact HR.o _ c9.o
def Se(w:World)(bb:Nat)(p:Value)(nm:BA)(r:Bool):Prop:=∀w1,Below w.heap.size w w1->∀R:EW,
 (∀q w2,Below w1.heap.size w1 w2->(q=.pointer none/\r=true\/∃pb rr,q=.pointer (some ⟨pb,0,none⟩)/\kE p q w rr/\r=!rr)->R (.returned q) w2)->Calls prog 297 #[.pointer (some ⟨bb,0,none⟩),.string nm] w1 R
theorem ML(w:World)(ba bb k:Nat)(a1 a2:Option Addr)(kZ mz:Nat)(vT qx wv sH:Value)(ns:List BA)(ps:List Value)(hA:TAt w ba k a1 ps.length kZ vT wv)(hB:TAt w bb k a2 ps.length mz qx sH)
  (bm:w.ownsRow 0 221 2 (.slice a1 ps.length kZ) ps.length (cJ ns ps)) (hn:ns.length=ps.length) (hl:ps.length<=1000000)
  (hy:∀w2,Below w.heap.size w w2->∀R:EW,(∀w',Below w2.heap.size w2 w'->R (.returned (.bool true)) w')->Calls prog 308 #[vT,qx,.func (.func 301) #[] #[]] w2 R)
  (f:Nat->Bool) (hp:∀j(hj:j<ps.length)(eF:j<ns.length),Se w bb ps[j] ns[j] (f j)) (SH:∀j(hj:j<ps.length),∃pb,ps[j]=.pointer (some ⟨pb,0,none⟩))
  (ro:Bool) (ho:wv=.pointer none/\ro=true\/∃pb,wv=.pointer (some ⟨pb,0,none⟩)/\kE wv sH w ro) {R:EW} (hR:ng w (!br f ps.length&&ro) R):
  yj (.pointer (some ⟨ba,0,none⟩)) (.pointer (some ⟨bb,0,none⟩)) w R:=by
 have HR:=qh hR;have HX:=qh hy;have HP:=qh hp;have du:=qh bm;have uY:=qh SH;have vK:=qh hn;have HO:=qh ho;have HA:=qh hA;have HB:=qh hB;obtain⟨vX,c0,c1,c2,c3⟩:=hA;obtain⟨gQ,e0,e1,e2,e3⟩:=hB;have n6: ((k:Int) !=k)=false:=by simp
 have n7: ((ps.length:Int) !=ps.length)=false:=by simp
 clear hR hy hp bm SH hn ho;go_enter func301,ntmps301;go_wp2_with fail;go_region_held3(λw'=>w'.cell? ⟨ba,0,none⟩=some (.int .i64 (k:Nat))/\w'.cell? ⟨bb,0,none⟩=some (.int .i64 (k:Nat))/\w'.cell? ⟨ba,1,none⟩=some (.slice a1 ps.length kZ)/\w'.cell? ⟨bb,1,none⟩=some (.slice a2 ps.length mz)/\w'.cell? ⟨ba,2,none⟩=some vT/\w'.cell? ⟨bb,2,none⟩=some qx) (go_keep)
  (first|(go_at_call 308;refine HX.o _ (bR _ _).drew _ (λw2 aD=>?_);have c9:=qh ((bR w.heap.size w).drew.trans (aD.mono (by simp)));have s0:=iQ c9.o c0;have s1:=iQ c9.o e0;have s2:=iQ c9.o c1;have s3:=iQ c9.o e1;have s4:=iQ c9.o c2;have s5:=iQ c9.o e2;clear aD))
 go_wp2_with fail;go_loopw [47] (λi wr=>∃j:Nat,j<=ps.length/\i=.int .i64 j/\Hq (Below w.heap.size w wr)/\Hq (∀i,i<j->f i=false)) (λi _=>ps.length-(intOf i).toNat)
 case atStart=>exact⟨0,by omega,rfl,c9.o,λj hj=>by omega⟩
 case round=>
  obtain⟨j,hj,rfl,hb,hf⟩:=hrel;by_cases a_:j<ps.length
  ·obtain⟨gl,jB,e,ku,d0,d1⟩:=yV (ay du.o hb.out) vK.o j a_;cases e;have k_:j<ns.length:=by have:=vK.o;omega
   have HI:=qh (HP.o j a_ k_);have HT:=qh (λh:f j=true=>(bI (f:=f)).2 ⟨j,a_,h⟩);have HN:Hq (f j=false->∀i,i<j+1->f i=false):=λh i hi=>by
    by_cases Hh:i=j
    ·subst Hh;exact h
    ·exact hf.out i (by omega)
   obtain⟨pp,Y_⟩:=uY.o j a_;rw[Y_]at d1 HI
   clear Y_;generalize f j=fj at*
   obtain⟨nm,sO⟩:∃x,x=ns[j]'k_:=⟨_,rfl⟩
   rw[<-sO]at d0 HI
   clear sO;go_wp2_with fail;refine HI.o _ (hb.out.trans ((bR wr.heap.size wr).alloc (nR _) _|>.mono hb.out.size)) _ (λq w2 aD hq=>?_);have dF:=hb.out.trans (((bR wr.heap.size wr).alloc (nR _) _).trans (aD.mono (by simp))|>.mono hb.out.size);have x1:w2.cell? ⟨wr.heap.size,1,none⟩=some (.pointer (some ⟨pp,0,none⟩)):=by
    rw[aD.cell (p:=⟨wr.heap.size,1,none⟩) (by simp),cell_of_block (heap_alloc_new wr _)];rfl
   have cU:=qh dF;clear aD dF;rcases hq with⟨rfl,rfl⟩|⟨qb,rr,rfl,Iu,rfl⟩
   ·have Gl:=qh (HT.o rfl);rw[Gl.o]at HR
    go_wp2_with fail;exact HR.o _ cU.o
   ·have T0:=qh (Iu w2 cU.o);clear Iu;go_wp2_with fail;refine T0.o _ (λw4 vR=>?_);have gy:=qh (cU.o.trans (vR.mono cU.o.size));clear vR;cases rr
    ·have Gl:=qh (HT.o rfl);rw[Gl.o]at HR
     go_wp2_with fail;exact HR.o _ gy.o
    ·have IH:=qh (HN.o rfl);go_wp2_with fail;go_roundw
     case rel=>exact⟨j+1,by omega,by go_num,gy,IH⟩
     case measure=>simp[intOf];omega
  ·have gO:j=ps.length:=by omega
   have HN:Hq (br f ps.length=false):=bg.2 (λi hi=>hf.out i (by omega));rw[HN.o,Bool.not_false,Bool.true_and]at HR
   obtain⟨abD,x0,x1,x2,x3⟩:=HA.o.below hb.out;obtain⟨QL,y0,y1,y2,y3⟩:=HB.o.below hb.out;clear gO HN c0 c1 c2 c3 e0 e1 e2 e3;rcases HO.o with⟨rfl,rfl⟩|⟨pb,rfl,Iu⟩
   ·go_wp2_with fail
    go_region
    all_goals
     go_wp2_with fail;exact HR.o _ hb.out.drew
   ·have T0:=qh Iu;clear Iu;go_wp2_with fail;go_region_held3(λw'=>w'.cell? ⟨ba,3,none⟩=some (.pointer (some ⟨pb,0,none⟩))/\w'.cell? ⟨bb,3,none⟩=some sH) (go_keep)
     (first|(go_at_call 301;refine T0.o _ hb.out.drew _ (λw2 aD=>?_);have c9:=qh (hb.out.drew.trans (aD.mono (by have:=hb.out.size;simp;omega)));have s6:=iQ aD (show(World.cell? (World.drew _) _)= _ from x3);have s7:=iQ aD (show(World.cell? (World.drew _) _)= _ from y3);clear aD))
    all_goals
     go_wp2_with fail;first|exact HR.o _ c9.o|(refine bodyPost_ret ?_ ?_ (HR.o _ c9.o)<;>first|(simp[results,results301,go_sem];done)|rfl)
theorem ak{w w':World}(h:Below w.heap.size w w'){b o:Nat}{v:Value}(hc:w.cell? ⟨b,o,none⟩=some v):w'.cell? ⟨b,o,none⟩=some v:=by
 by_cases hb:b<w.heap.size
 ·exact(h.cell (p:=⟨b,o,none⟩) hb).trans hc
 ·rw[World.cell?,Array.getElem?_eq_none (by simpa using hb)]at hc;simp at hc
theorem Pm(w:World)(u v:Value)(t:TypeId): ((w.alloc (.cells #[u] t)).alloc (.cells #[v] t)).drew.drew.cell? ⟨w.heap.size,0,none⟩=some u:=by
 rw[cell_of_block (d_ (d_ ((heap_alloc_old _ _ (by simp)).trans (heap_alloc_new w _))))];rfl
theorem PX(w:World)(u v:Value)(t:TypeId): ((w.alloc (.cells #[u] t)).alloc (.cells #[v] t)).drew.drew.cell? ⟨w.heap.size+1,0,none⟩=some v:=by
 rw[cell_of_block (d_ (d_ (aR _ _ _ (by simp))))];rfl
theorem R1(w:World)(ba bb:Nat)(hA:cY w ba 9)(hB:cY w bb 9)(a1 a2:Option Addr)(n1 n2 kZ mz:Nat)(c2:w.cell? ⟨ba,2,none⟩=some (.slice a1 n1 kZ))(e2:w.cell? ⟨bb,2,none⟩=some (.slice a2 n2 mz))(x y:Value)(c3:w.cell? ⟨ba,3,none⟩=some x)(e3:w.cell? ⟨bb,3,none⟩=some y)(hle:n1<=n2)(acF:n2<=mz)(RN:∃g,a2=some ⟨g,0,none⟩)
  (hy:∀w2,Below w.heap.size w w2->∀R:EW,(∀w',Below w2.heap.size w2 w'->R (.returned (.bool true)) w')->Calls prog 308 #[.slice a1 n1 kZ,.slice a2 n1 mz,.func (.func 307) #[] #[]] w2 R)
  (r:Bool) (hx:oQ x y w r) {R:EW} (hR:ng w r R):
  vk (.pointer (some ⟨ba,0,none⟩)) (.pointer (some ⟨bb,0,none⟩)) w R:=by
 have HR:=qh hR;have HX:=qh hy;have HF:=qh hx;obtain⟨vX,c0⟩:=hA;obtain⟨gQ,e0⟩:=hB;have k1:decide ((n1:Int)<=n2)=true:=by simp;omega
 have k2:decide (n1<=n2)=true:=by simp;omega
 obtain⟨g,rfl⟩:=RN;have WJ:n1<=mz:=by omega
 have HZ:Hq (∀R:EW,(∀w',w'.cell? ⟨w.heap.size,0,none⟩=some (.pointer (some ⟨ba,0,none⟩))->w'.cell? ⟨w.heap.size+1,0,none⟩=some (.pointer (some ⟨bb,0,none⟩))->w'.cell? ⟨ba,2,none⟩=some (.slice a1 n1 kZ)->w'.cell? ⟨bb,2,none⟩=some (.slice (some ⟨g,0,none⟩) n2 mz)->w'.cell? ⟨ba,3,none⟩=some x->w'.cell? ⟨bb,3,none⟩=some y->Below w.heap.size w w'->R (.returned (.bool true)) w')->Calls prog 308 #[.slice a1 n1 kZ,.slice (some ⟨g,0,none⟩) n1 mz,.func (.func 307) #[] #[]] ((w.alloc (.cells #[.pointer (some ⟨ba,0,none⟩)] 107)).alloc (.cells #[.pointer (some ⟨bb,0,none⟩)] 107)).drew.drew R):=λR h=>by
  refine HX.o _ (bL w _ _).drew.drew _ (λw2 aD=>?_);have hB:=(bL w _ _).drew.drew.trans (aD.mono (by simp;omega));exact h w2 (ak aD (Pm w _ _ _)) (ak aD (PX w _ _ _)) (ak hB c2) (ak hB e2) (ak hB c3) (ak hB e3) hB
 clear hR hy HX hx;go_enter func249,ntmps249;go_wp2_with fail
 go_region
 go_wp2_with fail;go_region_held3(λw'=>w'.cell? ⟨w.heap.size,0,none⟩=some (.pointer (some ⟨ba,0,none⟩))/\w'.cell? ⟨w.heap.size+1,0,none⟩=some (.pointer (some ⟨bb,0,none⟩))/\w'.cell? ⟨ba,2,none⟩=some (.slice a1 n1 kZ)/\w'.cell? ⟨bb,2,none⟩=some (.slice (some ⟨g,0,none⟩) n2 mz)/\w'.cell? ⟨ba,3,none⟩=some x/\w'.cell? ⟨bb,3,none⟩=some y) (go_keep)
  (first|(go_at_call 308;refine HZ.o _ (λw2 s0 s1 s2 s3 s4 s5 aD=>?_);have c9:=qh aD;clear aD)|(go_at_call 249;refine HF.o _ c9.o _ (λw3 dF=>?_);have cU:=qh (c9.o.trans (dF.mono c9.o.size));have s0:=ak dF s0;have s1:=ak dF s1;have s2:=ak dF s2;have s3:=ak dF s3;have s4:=ak dF s4;have s5:=ak dF s5;clear dF))
 all_goals
  go_wp2_with fail;exact HR.o _ cU.o
theorem dn{P:Program}{md:Region.Mode}{ops:Array Oper}{Q:Exit->Act->World->Prop}{S:World->Prop}(i d:Nat){oi:Oper}{v:Value}{fuel:Nat}{listed:Array Bool}{a:Act}{w:World}(hi:ops[i]?=some oi)(hd:oi.dst=some d)
  (hs:Region.noSelect ops=true) (hf:Region.free md ops listed i=true) (hr: (Region.ready md ops listed).contains i=true)
  (hQ:∀c a w,Q (.panic c) (a.put (some d) v) w->Q (.panic c) a w) (hy:YieldsIf P ops S oi v a) (hS:S w)
  (h:wpAnyH P md ops Q S fuel (listed.setIfInBounds i true) (a.put (some d) v) w):wpAnyH P md ops Q S (fuel+1) listed a w:=
 wpAnyH_take hi hs hf hr (by rw[hd];exact hQ) hy hS (by rw[hd];exact h)
theorem SR(w:World)(ba bb:Nat)(hA:cY w ba 9)(hB:cY w bb 9)(a1 a2:Option Addr)(n1 n2 kZ mz:Nat)(c2:w.cell? ⟨ba,2,none⟩=some (.slice a1 n1 kZ))(e2:w.cell? ⟨bb,2,none⟩=some (.slice a2 n2 mz))(x y:Value)(c3:w.cell? ⟨ba,3,none⟩=some x)(e3:w.cell? ⟨bb,3,none⟩=some y)(hle:n1<=n2)(acF:n2<=mz)(RN:∃g,a2=some ⟨g,0,none⟩)
  (hy:∀w2,Below w.heap.size w w2->∀R:EW,(∀w',Below w2.heap.size w2 w'->R (.returned (.bool false)) w')->Calls prog 308 #[.slice a1 n1 kZ,.slice a2 n1 mz,.func (.func 307) #[] #[]] w2 R)
  {R:EW} (hR:ng w false R):
  vk (.pointer (some ⟨ba,0,none⟩)) (.pointer (some ⟨bb,0,none⟩)) w R:=by
 have HR:=qh hR;have HX:=qh hy;obtain⟨vX,c0⟩:=hA;obtain⟨gQ,e0⟩:=hB;have k1:decide ((n1:Int)<=n2)=true:=by simp;omega
 have k2:decide (n1<=n2)=true:=by simp;omega
 obtain⟨g,rfl⟩:=RN;have WJ:n1<=mz:=by omega
 have HZ:Hq (∀R:EW,(∀w',w'.cell? ⟨w.heap.size,0,none⟩=some (.pointer (some ⟨ba,0,none⟩))->w'.cell? ⟨w.heap.size+1,0,none⟩=some (.pointer (some ⟨bb,0,none⟩))->w'.cell? ⟨ba,2,none⟩=some (.slice a1 n1 kZ)->w'.cell? ⟨bb,2,none⟩=some (.slice (some ⟨g,0,none⟩) n2 mz)->w'.cell? ⟨ba,3,none⟩=some x->w'.cell? ⟨bb,3,none⟩=some y->Below w.heap.size w w'->R (.returned (.bool false)) w')->Calls prog 308 #[.slice a1 n1 kZ,.slice (some ⟨g,0,none⟩) n1 mz,.func (.func 307) #[] #[]] ((w.alloc (.cells #[.pointer (some ⟨ba,0,none⟩)] 107)).alloc (.cells #[.pointer (some ⟨bb,0,none⟩)] 107)).drew.drew R):=λR h=>by
  refine HX.o _ (bL w _ _).drew.drew _ (λw2 aD=>?_);have hB:=(bL w _ _).drew.drew.trans (aD.mono (by simp;omega));exact h w2 (ak aD (Pm w _ _ _)) (ak aD (PX w _ _ _)) (ak hB c2) (ak hB e2) (ak hB c3) (ak hB e3) hB
 clear hR hy HX;go_enter func249,ntmps249;go_wp2_with fail
 go_region
 go_wp2_with fail;refine wp_region_held_drew (S:=(λw'=>w'.cell? ⟨w.heap.size,0,none⟩=some (.pointer (some ⟨ba,0,none⟩))/\w'.cell? ⟨w.heap.size+1,0,none⟩=some (.pointer (some ⟨bb,0,none⟩))/\w'.cell? ⟨ba,2,none⟩=some (.slice a1 n1 kZ)/\w'.cell? ⟨bb,2,none⟩=some (.slice (some ⟨g,0,none⟩) n2 mz))) (by kernel_rfl) (by go_keep) (λhHeld=>?_);refine dn 0 95 (v:=?_) rfl (by kernel_rfl) (by kernel_rfl) (by kernel_rfl) (by kernel_rfl) (λ_ _ _ h=>h) (Or.inl ⟨by kernel_rfl,?_⟩) (by assumption) ?_;rotate_left
 ·(intro w dH;(try dsimp only at dH);go_simp;try(with_reducible rfl))
 try simp only[Act.put,List.setIfInBounds_toArray,List.set_cons_zero,List.set_cons_succ]
 refine dn 1 96 (v:=?_) rfl (by kernel_rfl) (by kernel_rfl) (by kernel_rfl) (by kernel_rfl) (λ_ _ _ h=>h) (Or.inl ⟨by kernel_rfl,?_⟩) (by assumption) ?_;rotate_left
 ·(intro w dH;(try dsimp only at dH);go_simp;try(with_reducible rfl))
 try simp only[Act.put,List.setIfInBounds_toArray,List.set_cons_zero,List.set_cons_succ]
 refine dn 2 97 (v:=?_) rfl (by kernel_rfl) (by kernel_rfl) (by kernel_rfl) (by kernel_rfl) (λ_ _ _ h=>h) (Or.inl ⟨by kernel_rfl,?_⟩) (by assumption) ?_;rotate_left
 ·(intro w dH;(try dsimp only at dH);go_simp;try(with_reducible rfl))
 try simp only[Act.put,List.setIfInBounds_toArray,List.set_cons_zero,List.set_cons_succ]
 refine dn 3 98 (v:=?_) rfl (by kernel_rfl) (by kernel_rfl) (by kernel_rfl) (by kernel_rfl) (λ_ _ _ h=>h) (Or.inl ⟨by kernel_rfl,?_⟩) (by assumption) ?_;rotate_left
 ·(intro w dH;(try dsimp only at dH);go_simp;try(with_reducible rfl))
 try simp only[Act.put,List.setIfInBounds_toArray,List.set_cons_zero,List.set_cons_succ]
 refine dn 4 99 (v:=?_) rfl (by kernel_rfl) (by kernel_rfl) (by kernel_rfl) (by kernel_rfl) (λ_ _ _ h=>h) (Or.inl ⟨by kernel_rfl,?_⟩) (by assumption) ?_;rotate_left
 ·(intro w dH;(try dsimp only at dH);go_simp;try(with_reducible rfl))
 try simp only[Act.put,List.setIfInBounds_toArray,List.set_cons_zero,List.set_cons_succ]
 refine dn 5 100 (v:=?_) rfl (by kernel_rfl) (by kernel_rfl) (by kernel_rfl) (by kernel_rfl) (λ_ _ _ h=>h) (Or.inl ⟨by kernel_rfl,?_⟩) (by assumption) ?_;rotate_left
 ·(intro w dH;(try dsimp only at dH);go_simp;try(with_reducible rfl))
 try simp only[Act.put,List.setIfInBounds_toArray,List.set_cons_zero,List.set_cons_succ]
 refine dn 6 101 (v:=?_) rfl (by kernel_rfl) (by kernel_rfl) (by kernel_rfl) (by kernel_rfl) (λ_ _ _ h=>h) (Or.inl ⟨by kernel_rfl,?_⟩) (by assumption) ?_;rotate_left
 ·(intro w dH;(try dsimp only at dH);go_simp;try(with_reducible rfl))
 try simp only[Act.put,List.setIfInBounds_toArray,List.set_cons_zero,List.set_cons_succ]
 refine dn 7 102 (v:=?_) rfl (by kernel_rfl) (by kernel_rfl) (by kernel_rfl) (by kernel_rfl) (λ_ _ _ h=>h) (Or.inl ⟨by kernel_rfl,?_⟩) (by assumption) ?_;rotate_left
 ·(intro w dH;(try dsimp only at dH);go_simp;try(with_reducible rfl))
 try simp only[Act.put,List.setIfInBounds_toArray,List.set_cons_zero,List.set_cons_succ]
 refine dn 8 103 (v:=?_) rfl (by kernel_rfl) (by kernel_rfl) (by kernel_rfl) (by kernel_rfl) (λ_ _ _ h=>h) (Or.inl ⟨by kernel_rfl,?_⟩) (by assumption) ?_;rotate_left
 ·(intro w dH;(try dsimp only at dH);go_simp;try(with_reducible rfl))
 try simp only[Act.put,List.setIfInBounds_toArray,List.set_cons_zero,List.set_cons_succ]
 refine dn 9 104 (v:=?_) rfl (by kernel_rfl) (by kernel_rfl) (by kernel_rfl) (by kernel_rfl) (λ_ _ _ h=>h) (Or.inl ⟨by kernel_rfl,?_⟩) (by assumption) ?_;rotate_left
 ·(intro w dH;(try dsimp only at dH);go_simp;try(with_reducible rfl))
 try simp only[Act.put,List.setIfInBounds_toArray,List.set_cons_zero,List.set_cons_succ]
 refine dn 10 105 (v:=?_) rfl (by kernel_rfl) (by kernel_rfl) (by kernel_rfl) (by kernel_rfl) (λ_ _ _ h=>h) (Or.inl ⟨by kernel_rfl,?_⟩) (by assumption) ?_;rotate_left
 ·(intro w dH;(try dsimp only at dH);go_simp;try(with_reducible rfl))
 try simp only[Act.put,List.setIfInBounds_toArray,List.set_cons_zero,List.set_cons_succ]
 refine dn 11 106 (v:=?_) rfl (by kernel_rfl) (by kernel_rfl) (by kernel_rfl) (by kernel_rfl) (λ_ _ _ h=>h) (Or.inl ⟨by kernel_rfl,?_⟩) (by assumption) ?_;rotate_left
 ·(intro w dH;(try dsimp only at dH);go_simp;try(with_reducible rfl))
 try simp only[Act.put,List.setIfInBounds_toArray,List.set_cons_zero,List.set_cons_succ]
 refine dn 12 107 (v:=?_) rfl (by kernel_rfl) (by kernel_rfl) (by kernel_rfl) (by kernel_rfl) (λ_ _ _ h=>h) (Or.inl ⟨by kernel_rfl,?_⟩) (by assumption) ?_;rotate_left
 ·(intro w dH;(try dsimp only at dH);go_simp;try(with_reducible rfl))
 try simp only[Act.put,List.setIfInBounds_toArray,List.set_cons_zero,List.set_cons_succ]
 refine dn 13 108 (v:=?_) rfl (by kernel_rfl) (by kernel_rfl) (by kernel_rfl) (by kernel_rfl) (λ_ _ _ h=>h) (Or.inl ⟨by kernel_rfl,?_⟩) (by assumption) ?_;rotate_left
 ·(intro w dH;(try dsimp only at dH);go_simp;try(with_reducible rfl))
 try simp only[Act.put,List.setIfInBounds_toArray,List.set_cons_zero,List.set_cons_succ]
 refine dn 14 109 (v:=?_) rfl (by kernel_rfl) (by kernel_rfl) (by kernel_rfl) (by kernel_rfl) (λ_ _ _ h=>h) (Or.inl ⟨by kernel_rfl,?_⟩) (by assumption) ?_;rotate_left
 ·(intro w dH;(try dsimp only at dH);go_simp;try(with_reducible rfl))
 try simp only[Act.put,List.setIfInBounds_toArray,List.set_cons_zero,List.set_cons_succ]
 refine dn 15 110 (v:=?_) rfl (by kernel_rfl) (by kernel_rfl) (by kernel_rfl) (by kernel_rfl) (λ_ _ _ h=>h) (Or.inl ⟨by kernel_rfl,?_⟩) (by assumption) ?_;rotate_left
 ·(intro w dH;(try dsimp only at dH);go_simp;try(with_reducible rfl))
 try simp only[Act.put,List.setIfInBounds_toArray,List.set_cons_zero,List.set_cons_succ]
 refine dn 16 111 (v:=?_) rfl (by kernel_rfl) (by kernel_rfl) (by kernel_rfl) (by kernel_rfl) (λ_ _ _ h=>h) (Or.inl ⟨by kernel_rfl,?_⟩) (by assumption) ?_;rotate_left
 ·(intro w dH;(try dsimp only at dH);go_simp;try(with_reducible rfl))
 try simp only[Act.put,List.setIfInBounds_toArray,List.set_cons_zero,List.set_cons_succ]
 refine dn 17 112 (v:=?_) rfl (by kernel_rfl) (by kernel_rfl) (by kernel_rfl) (by kernel_rfl) (λ_ _ _ h=>h) (Or.inl ⟨by kernel_rfl,?_⟩) (by assumption) ?_;rotate_left
 ·(intro w dH;(try dsimp only at dH);go_simp;try(with_reducible rfl))
 try simp only[Act.put,List.setIfInBounds_toArray,List.set_cons_zero,List.set_cons_succ]
 refine dn 18 113 (v:=?_) rfl (by kernel_rfl) (by kernel_rfl) (by kernel_rfl) (by kernel_rfl) (λ_ _ _ h=>h) (Or.inl ⟨by kernel_rfl,?_⟩) (by assumption) ?_;rotate_left
 ·(intro w dH;(try dsimp only at dH);go_simp;try(with_reducible rfl))
 try simp only[Act.put,List.setIfInBounds_toArray,List.set_cons_zero,List.set_cons_succ]
 refine dn 19 114 (v:=?_) rfl (by kernel_rfl) (by kernel_rfl) (by kernel_rfl) (by kernel_rfl) (λ_ _ _ h=>h) (Or.inl ⟨by kernel_rfl,?_⟩) (by assumption) ?_;rotate_left
 ·(intro w dH;(try dsimp only at dH);go_simp;try(with_reducible rfl))
 try simp only[Act.put,List.setIfInBounds_toArray,List.set_cons_zero,List.set_cons_succ]
 refine dn 20 115 (v:=?_) rfl (by kernel_rfl) (by kernel_rfl) (by kernel_rfl) (by kernel_rfl) (λ_ _ _ h=>h) (Or.inl ⟨by kernel_rfl,?_⟩) (by assumption) ?_;rotate_left
 ·(intro w dH;(try dsimp only at dH);go_simp;try(with_reducible rfl))
 try simp only[Act.put,List.setIfInBounds_toArray,List.set_cons_zero,List.set_cons_succ]
 refine dn 21 116 (v:=?_) rfl (by kernel_rfl) (by kernel_rfl) (by kernel_rfl) (by kernel_rfl) (λ_ _ _ h=>h) (Or.inl ⟨by kernel_rfl,?_⟩) (by assumption) ?_;rotate_left
 ·(intro w dH;(try dsimp only at dH);go_simp;try(with_reducible rfl))
 try simp only[Act.put,List.setIfInBounds_toArray,List.set_cons_zero,List.set_cons_succ]
 refine dn 22 117 (v:=?_) rfl (by kernel_rfl) (by kernel_rfl) (by kernel_rfl) (by kernel_rfl) (λ_ _ _ h=>h) (Or.inl ⟨by kernel_rfl,?_⟩) (by assumption) ?_;rotate_left
 ·(intro w dH;(try dsimp only at dH);go_simp;try(with_reducible rfl))
 try simp only[Act.put,List.setIfInBounds_toArray,List.set_cons_zero,List.set_cons_succ]
 refine dn 23 118 (v:=?_) rfl (by kernel_rfl) (by kernel_rfl) (by kernel_rfl) (by kernel_rfl) (λ_ _ _ h=>h) (Or.inl ⟨by kernel_rfl,?_⟩) (by assumption) ?_;rotate_left
 ·(intro w dH;(try dsimp only at dH);go_simp;try(with_reducible rfl))
 try simp only[Act.put,List.setIfInBounds_toArray,List.set_cons_zero,List.set_cons_succ]
 refine dn 24 119 (v:=?_) rfl (by kernel_rfl) (by kernel_rfl) (by kernel_rfl) (by kernel_rfl) (λ_ _ _ h=>h) (Or.inl ⟨by kernel_rfl,?_⟩) (by assumption) ?_;rotate_left
 ·(intro w dH;(try dsimp only at dH);go_simp;try(with_reducible rfl))
 try simp only[Act.put,List.setIfInBounds_toArray,List.set_cons_zero,List.set_cons_succ]
 refine dn 25 120 (v:=?_) rfl (by kernel_rfl) (by kernel_rfl) (by kernel_rfl) (by kernel_rfl) (λ_ _ _ h=>h) (Or.inl ⟨by kernel_rfl,?_⟩) (by assumption) ?_;rotate_left
 ·(intro w dH;(try dsimp only at dH);go_simp;try(with_reducible rfl))
 try simp only[Act.put,List.setIfInBounds_toArray,List.set_cons_zero,List.set_cons_succ]
 refine dn 26 121 (v:=?_) rfl (by kernel_rfl) (by kernel_rfl) (by kernel_rfl) (by kernel_rfl) (λ_ _ _ h=>h) (Or.inl ⟨by kernel_rfl,?_⟩) (by assumption) ?_;rotate_left
 ·(intro w dH;(try dsimp only at dH);go_simp;try(with_reducible rfl))
 try simp only[Act.put,List.setIfInBounds_toArray,List.set_cons_zero,List.set_cons_succ]
 refine wpAnyH_ready (rs:=[27]) (by kernel_rfl) (by simp) ?_;refine AllReadyH.cons rfl (λK hK=>?_) AllReadyH.nil;go_simp;go_at_call 308;refine HZ.o _ (λw2 s0 s1 s2 s3 s4 s5 aD=>?_);have c9:=qh aD;clear aD;go_wp2_with fail;refine hK.out _ _ (by go_keep) (λVA=>?_);clear hK K hHeld;try simp only[Act.put,List.setIfInBounds_toArray,List.set_cons_zero,List.set_cons_succ]
 refine dn 28 123 (v:=?_) rfl (by kernel_rfl) (by kernel_rfl) (by kernel_rfl) (by kernel_rfl) (λ_ _ _ h=>h) (Or.inl ⟨by kernel_rfl,?_⟩) (by assumption) ?_;rotate_left
 ·(intro w dH;(try dsimp only at dH);go_simp;try(with_reducible rfl))
 try simp only[Act.put,List.setIfInBounds_toArray,List.set_cons_zero,List.set_cons_succ]
 refine dn 29 124 (v:=?_) rfl (by kernel_rfl) (by kernel_rfl) (by kernel_rfl) (by kernel_rfl) (λ_ _ _ h=>h) (Or.inl ⟨by kernel_rfl,?_⟩) (by assumption) ?_;rotate_left
 ·(intro w dH;(try dsimp only at dH);go_simp;try(with_reducible rfl))
 try simp only[Act.put,List.setIfInBounds_toArray,List.set_cons_zero,List.set_cons_succ]
 refine dn 30 125 (v:=undef) rfl (by kernel_rfl) (by kernel_rfl) (by kernel_rfl) (by kernel_rfl) (λ_ _ _ h=>h) (Or.inr ⟨by kernel_rfl,rfl⟩) (by assumption) ?_;try simp only[Act.put,List.setIfInBounds_toArray,List.set_cons_zero,List.set_cons_succ]
 refine dn 31 126 (v:=undef) rfl (by kernel_rfl) (by kernel_rfl) (by kernel_rfl) (by kernel_rfl) (λ_ _ _ h=>h) (Or.inr ⟨by kernel_rfl,rfl⟩) (by assumption) ?_;try simp only[Act.put,List.setIfInBounds_toArray,List.set_cons_zero,List.set_cons_succ]
 refine dn 32 127 (v:=undef) rfl (by kernel_rfl) (by kernel_rfl) (by kernel_rfl) (by kernel_rfl) (λ_ _ _ h=>h) (Or.inr ⟨by kernel_rfl,rfl⟩) (by assumption) ?_;try simp only[Act.put,List.setIfInBounds_toArray,List.set_cons_zero,List.set_cons_succ]
 refine dn 33 128 (v:=undef) rfl (by kernel_rfl) (by kernel_rfl) (by kernel_rfl) (by kernel_rfl) (λ_ _ _ h=>h) (Or.inr ⟨by kernel_rfl,rfl⟩) (by assumption) ?_;try simp only[Act.put,List.setIfInBounds_toArray,List.set_cons_zero,List.set_cons_succ]
 refine dn 34 129 (v:=undef) rfl (by kernel_rfl) (by kernel_rfl) (by kernel_rfl) (by kernel_rfl) (λ_ _ _ h=>h) (Or.inr ⟨by kernel_rfl,rfl⟩) (by assumption) ?_;try simp only[Act.put,List.setIfInBounds_toArray,List.set_cons_zero,List.set_cons_succ]
 refine dn 35 130 (v:=undef) rfl (by kernel_rfl) (by kernel_rfl) (by kernel_rfl) (by kernel_rfl) (λ_ _ _ h=>h) (Or.inr ⟨by kernel_rfl,rfl⟩) (by assumption) ?_;try simp only[Act.put,List.setIfInBounds_toArray,List.set_cons_zero,List.set_cons_succ]
 refine dn 36 131 (v:=undef) rfl (by kernel_rfl) (by kernel_rfl) (by kernel_rfl) (by kernel_rfl) (λ_ _ _ h=>h) (Or.inr ⟨by kernel_rfl,rfl⟩) (by assumption) ?_;try simp only[Act.put,List.setIfInBounds_toArray,List.set_cons_zero,List.set_cons_succ]
 refine dn 37 132 (v:=undef) rfl (by kernel_rfl) (by kernel_rfl) (by kernel_rfl) (by kernel_rfl) (λ_ _ _ h=>h) (Or.inr ⟨by kernel_rfl,rfl⟩) (by assumption) ?_;try simp only[Act.put,List.setIfInBounds_toArray,List.set_cons_zero,List.set_cons_succ]
 refine dn 38 133 (v:=undef) rfl (by kernel_rfl) (by kernel_rfl) (by kernel_rfl) (by kernel_rfl) (λ_ _ _ h=>h) (Or.inr ⟨by kernel_rfl,rfl⟩) (by assumption) ?_;try simp only[Act.put,List.setIfInBounds_toArray,List.set_cons_zero,List.set_cons_succ]
 refine dn 39 134 (v:=?_) rfl (by kernel_rfl) (by kernel_rfl) (by kernel_rfl) (by kernel_rfl) (λ_ _ _ h=>h) (Or.inl ⟨by kernel_rfl,?_⟩) (by assumption) ?_;rotate_left
 ·(intro w dH;(try dsimp only at dH);go_simp;try(with_reducible rfl))
 try simp only[Act.put,List.setIfInBounds_toArray,List.set_cons_zero,List.set_cons_succ]
 refine dn 40 4 (v:=?_) rfl (by kernel_rfl) (by kernel_rfl) (by kernel_rfl) (by kernel_rfl) (λ_ _ _ h=>h) (Or.inl ⟨by kernel_rfl,?_⟩) (by assumption) ?_;rotate_left
 ·(intro w dH;(try dsimp only at dH);go_simp;try(with_reducible rfl))
 try simp only[Act.put,List.setIfInBounds_toArray,List.set_cons_zero,List.set_cons_succ]
 refine wpAnyH_done (by kernel_rfl) ?_ _;all_goals
  go_wp2_with fail;exact HR.o _ c9.o
theorem Rz(w:World)(ba bb:Nat)(hA:cY w ba 9)(hB:cY w bb 9)(a1:Option Addr)(kZ:Nat)(c2:w.cell? ⟨ba,2,none⟩=some (.slice a1 0 kZ))(e2:w.cell? ⟨bb,2,none⟩=some (.slice none 0 0))(x y:Value)(c3:w.cell? ⟨ba,3,none⟩=some x)(e3:w.cell? ⟨bb,3,none⟩=some y)
  (hy:∀w2,Below w.heap.size w w2->∀R:EW,(∀w',Below w2.heap.size w2 w'->R (.returned (.bool true)) w')->Calls prog 308 #[.slice a1 0 kZ,.slice none 0 0,.func (.func 307) #[] #[]] w2 R)
  (r:Bool) (hx:oQ x y w r) {R:EW} (hR:ng w r R):
  vk (.pointer (some ⟨ba,0,none⟩)) (.pointer (some ⟨bb,0,none⟩)) w R:=by
 have HR:=qh hR;have HX:=qh hy;have HF:=qh hx;obtain⟨vX,c0⟩:=hA;obtain⟨gQ,e0⟩:=hB;have HZ:Hq (∀R:EW,(∀w',w'.cell? ⟨w.heap.size,0,none⟩=some (.pointer (some ⟨ba,0,none⟩))->w'.cell? ⟨w.heap.size+1,0,none⟩=some (.pointer (some ⟨bb,0,none⟩))->w'.cell? ⟨ba,2,none⟩=some (.slice a1 0 kZ)->w'.cell? ⟨bb,2,none⟩=some (.slice none 0 0)->w'.cell? ⟨ba,3,none⟩=some x->w'.cell? ⟨bb,3,none⟩=some y->Below w.heap.size w w'->R (.returned (.bool true)) w')->Calls prog 308 #[.slice a1 0 kZ,.slice none 0 0,.func (.func 307) #[] #[]] ((w.alloc (.cells #[.pointer (some ⟨ba,0,none⟩)] 107)).alloc (.cells #[.pointer (some ⟨bb,0,none⟩)] 107)).drew.drew R):=λR h=>by
  refine HX.o _ (bL w _ _).drew.drew _ (λw2 aD=>?_);have hB:=(bL w _ _).drew.drew.trans (aD.mono (by simp;omega));exact h w2 (ak aD (Pm w _ _ _)) (ak aD (PX w _ _ _)) (ak hB c2) (ak hB e2) (ak hB c3) (ak hB e3) hB
 clear hR hy HX hx;go_enter func249,ntmps249;go_wp2_with fail
 go_region
 go_wp2_with fail;go_region_held3(λw'=>w'.cell? ⟨w.heap.size,0,none⟩=some (.pointer (some ⟨ba,0,none⟩))/\w'.cell? ⟨w.heap.size+1,0,none⟩=some (.pointer (some ⟨bb,0,none⟩))/\w'.cell? ⟨ba,2,none⟩=some (.slice a1 0 kZ)/\w'.cell? ⟨bb,2,none⟩=some (.slice none 0 0)/\w'.cell? ⟨ba,3,none⟩=some x/\w'.cell? ⟨bb,3,none⟩=some y) (go_keep)
  (first|(go_at_call 308;refine HZ.o _ (λw2 s0 s1 s2 s3 s4 s5 aD=>?_);have c9:=qh aD;clear aD)|(go_at_call 249;refine HF.o _ c9.o _ (λw3 dF=>?_);have cU:=qh (c9.o.trans (dF.mono c9.o.size));have s0:=ak dF s0;have s1:=ak dF s1;have s2:=ak dF s2;have s3:=ak dF s3;have s4:=ak dF s4;have s5:=ak dF s5;clear dF))
 all_goals
  go_wp2_with fail;exact HR.o _ cU.o
theorem oQ.mono{p q:Value}{w w1:World}{r:Bool}(h:oQ p q w r)(hb:Below w.heap.size w w1):oQ p q w1 r:=λw2 aD R hR=>h w2 (hb.trans (aD.mono hb.size)) R hR
theorem getD_eq{α:Type}{l:List α}{j:Nat}(h:j<l.length)(d:α):l.getD j d=l[j]:=by
 rw[List.getD_eq_getElem?_getD,List.getElem?_eq_getElem h];rfl
theorem tm{w w1:World}{b k:Nat}(hb:Below w.heap.size w w1)(h1:b<w.heap.size)(h2:w.cell? ⟨b,0,none⟩=some (.int .i64 (k:Nat))):cY w1 b k:=⟨nL h1 hb.size,ak hb h2⟩
theorem qo{k:Nat}{names:List BA}{parts list of:List Tr}(h:dX (.mk k names parts list of)):names.length=parts.length/\parts.length<=1000000/\list.length<=1000000/\(1<=k/\k<=10)/\(k=8\/k=9->of.length=1)/\(k≠8->k≠9->of=[]):=by
 rw[dX]at h
 exact⟨h.2.1,h.2.2.2.2.2.2.1.1,h.2.2.2.2.2.2.1.2,h.1,h.2.2.1,h.2.2.2.1⟩
theorem nJ{h:Prt.Hp}{k:Nat}{names:List BA}{parts list of:List Tr}{os:List Value}{ov:Value}(ho:of.length=1)(hr:bz h of os)(hv:os=[]/\ov=.pointer none\/os=[ov]):rep h (eP (.mk k names parts list of)) ov:=by
 match of,ho with
 |[o],_=>
  rw[bz]at hr
  obtain⟨p,CD,rfl,h1,h2⟩:=hr;rw[bz]at h2
  subst h2;rcases hv with⟨h3,_⟩|h3
  ·cases h3
  ·cases h3;exact h1
theorem LY{ka kb:Nat}{na nb:List BA}{pa la oa pb lb ob:List Tr}(ha:dX (.mk ka na pa la oa))(hb:dX (.mk kb nb pb lb ob)):Ty.fits (.mk ka na pa la oa) (.mk kb nb pb lb ob)=
  if ka=5\/kb=5\/kb=6 then true
  else if ka=10 then !br (λj=>!Ty.fits (la.getD j bM) (.mk kb nb pb lb ob)) la.length
  else if kb=10 then br (λj=>Ty.fits (.mk ka na pa la oa) (lb.getD j bM)) lb.length
  else if ka≠kb then false
  else if ka=7 then !br (λj=>match Ty.part na pa (nb.getD j ⟨#[]⟩)with|none=>true|some t=>!Ty.fits t (pb.getD j bM)) pb.length
  else if ka=8 then Ty.fits (eP (.mk ka na pa la oa)) (eP (.mk kb nb pb lb ob))
  else if ka=9 then decide (la.length<=lb.length)&&!br (λj=>!(Ty.fits (la.getD j bM) (lb.getD j bM)||Ty.fits (lb.getD j bM) (la.getD j bM))) la.length&&Ty.fits (eP (.mk ka na pa la oa)) (eP (.mk kb nb pb lb ob))
  else true:=GA ha hb
theorem yT(w:World):∀(N:Nat)(a b:Tr)(p q:Value),sz a+sz b<N->dX a->dX b->rep (Prt.hp w) a p->rep (Prt.hp w) b q->oQ p q w (Ty.fits a b):=by
 intro N;induction N with
 |zero=>intro a b p q h;omega
 |succ N ih=>
  intro a b p q hN ha hb ra rb w1 hw R hR;have JS:∀(x y:Tr)(p q:Value),sz x+sz y<sz a+sz b->dX x->dX y->rep (Prt.hp w) x p->rep (Prt.hp w) y q->oQ p q w (Ty.fits x y):=λx y p q h=>ih x y p q (by omega)
  have gl:∀{j:Nat},j<(aL a).length->sz ((aL a).getD j bM)<sz a/\dX ((aL a).getD j bM):=λh=>⟨dB h,cr ha h⟩
  have gm:∀{j:Nat},j<(aL b).length->sz ((aL b).getD j bM)<sz b/\dX ((aL b).getD j bM):=λh=>⟨dB h,cr hb h⟩
  have gp:∀{j:Nat},j<(Ty.partsOf b).length->sz ((Ty.partsOf b).getD j bM)<sz b/\dX ((Ty.partsOf b).getD j bM):=λh=>⟨jy h,jA hb h⟩
  have gq:∀{x:BA}{t:Tr},Ty.part (bY a) (Ty.partsOf a) x=some t->sz t<sz a/\dX t:=λh=>⟨pS h,qf ha h⟩
  have so:Ty.kindOf a=8\/Ty.kindOf a=9->sz (eP a)<sz a/\dX (eP a):=λh=>⟨fU ha h,fZ ha h⟩
  have sp:Ty.kindOf b=8\/Ty.kindOf b=9->sz (eP b)<sz b/\dX (eP b):=λh=>⟨fU hb h,fZ hb h⟩
  obtain⟨ka,na,pa,la,oa⟩:=a;obtain⟨kb,nb,pb,lb,ob⟩:=b;obtain⟨ba,ach,vT,wv,S4,wQ,abO,rfl,vX,c0,c1,c2,c3,qK,W4,Ks,oz,Ff,Fg,N_⟩:=i' ra;obtain⟨bb,WH,qx,sH,vL,GM,ab2,rfl,gQ,e0,e1,e2,e3,pe,zG,Mb,zq,Hf,MV,Rm⟩:=i' rb;obtain⟨Z8,aar,abb,aax,UX,YB⟩:=qo ha;obtain⟨aaE,aaH,aaT,aae,U',aaI⟩:=qo hb;have hA:cY w1 ba ka:=tm hw vX c0;have hB:cY w1 bb kb:=tm hw gQ e0;have sj:∀r,Ty.fits (.mk ka na pa la oa) (.mk kb nb pb lb ob)=r->ng w1 r R:=λr h w2 aD=>h▸hR w2 aD
  have l1:=cd Ff;have l2:=cd Hf;have m1:=cd Ks;have m2:=cd Mb;dsimp only[Ty.kindOf,bY,Ty.partsOf,aL]at gl gm gp gq so sp;have gJ:=LY ha hb;by_cases h1:ka=5\/kb=5\/kb=6
  ·rw[if_pos h1]at gJ
   exact MQ w1 ba bb ka kb hA hB h1 (sj _ gJ)
  rw[if_neg h1]at gJ
  by_cases h2:ka=10
  ·rw[if_pos h2]at gJ
   subst h2;refine QN w1 ba bb kb hA hB (by omega) (by omega) vT (ak hw c2) _ (λw2 hx aD R2 BS=>?_) (sj _ gJ);have j9:=hw.trans (aD.mono hw.size);rw[l1]at BS
   refine vb w2 vT wQ (ay oz j9) (by omega) 303 _ Tryz.call303 _ (λj hj w3 dF R3 E4=>?_) BS;have eF:j<la.length:=by omega
   obtain⟨g1,g2⟩:=gl eF;refine KS w w3 (w1.heap.size+1) wQ[j] _ _ (ak dF hx) ?_ (j9.trans (dF.mono j9.size)) E4;refine JS _ _ _ _ (by omega) g2 hb ?_ rb;rw[getD_eq eF];exact dh Ff j eF hj
  rw[if_neg h2]at gJ
  by_cases h3:kb=10
  ·rw[if_pos h3]at gJ
   subst h3;refine Qr w1 ba bb ka hA hB (by omega) (by omega) qx (ak hw e2) _ (λw2 hx aD R2 BS=>?_) (sj _ gJ);have j9:=hw.trans (aD.mono hw.size);rw[l2]at BS
   refine vb w2 qx GM (ay zq j9) (by omega) 304 _ Tryz.call304 _ (λj hj w3 dF R3 E4=>?_) BS;have eF:j<lb.length:=by omega
   obtain⟨g1,g2⟩:=gm eF;refine J0 w w3 w1.heap.size GM[j] _ _ (ak dF hx) ?_ (j9.trans (dF.mono j9.size)) E4;refine JS _ _ _ _ (by omega) ha g2 ra ?_;rw[getD_eq eF];exact dh Hf j eF hj
  rw[if_neg h3]at gJ
  by_cases h4:ka=kb;rotate_left
  ·rw[if_pos h4]at gJ
   exact RR w1 ba bb ka kb hA hB (by omega) (by omega) ⟨by omega,by omega,by omega⟩ h4 (sj _ gJ)
  rw[if_neg (by omega)]at gJ
  subst h4;by_cases h7:ka=7
  ·rw[if_pos h7]at gJ
   subst h7;refine WW w1 ba bb hA hB WH (ak hw e1) _ (λw2 hx aD R2 BS=>?_) (sj _ gJ);have j9:=hw.trans (aD.mono hw.size);rw[m2]at BS
   refine JP w2 WH nb vL (ay pe j9) zG (by omega) 306 _ Tryz.call306 _ (λj hj w3 dF R3 E4=>?_) BS;have eF:j<pb.length:=by omega
   have tH:j<nb.length:=by omega
   obtain⟨g1,g2⟩:=gp eF;have CJ:=dh Mb j eF hj;obtain⟨pq,aa0,_⟩:=fI CJ;rw[aa0]at CJ⊢
   rw[getD_eq tH]at E4
   have VK:=j9.trans (dF.mono j9.size);refine Ip w w3 w1.heap.size (.mk 7 na pa la oa) _ nb[j] pq (λu=>Ty.fits u (pb.getD j bM)) (ak dF hx) (by have:=aD.size;have:=dF.size;have:=World.block_lt_of_cell? _ _ hx;dsimp only at this;omega) ra ha (λu q2 hu hq=>?_) VK E4;obtain⟨g3,g4⟩:=gq hu;exact JS _ _ _ _ (by omega) g4 g2 hq (by rw[getD_eq eF];exact CJ)
  rw[if_neg h7]at gJ
  by_cases h8:ka=8
  ·rw[if_pos h8]at gJ
   subst h8;obtain⟨s1,s2⟩:=so (.inl rfl);obtain⟨s3,s4⟩:=sp (.inl rfl);exact XD w1 ba bb hA hB wv sH (ak hw c3) (ak hw e3) _ (oQ.mono (JS _ _ _ _ (by omega) s2 s4 (nJ (UX (.inl rfl)) Fg N_) (nJ (U' (.inl rfl)) MV Rm)) hw) (sj _ gJ)
  rw[if_neg h8]at gJ
  by_cases h9:ka=9
  ·rw[if_pos h9]at gJ
   subst h9;obtain⟨s1,s2⟩:=so (.inr rfl);obtain⟨s3,s4⟩:=sp (.inr rfl);have TT:=oQ.mono (JS _ _ _ _ (by omega) s2 s4 (nJ (UX (.inr rfl)) Fg N_) (nJ (U' (.inr rfl)) MV Rm)) hw;have r1:=oz;have r2:=zq;obtain⟨a1,kZ,rfl⟩:=ag oz;by_cases hle:la.length<=lb.length;rotate_left
   ·rw[decide_eq_false hle,Bool.false_and,Bool.false_and]at gJ
    obtain⟨a2,mz,rfl⟩:=ag zq;exact Sk w1 ba bb hA hB a1 a2 wQ.length GM.length kZ mz (ak hw c2) (ak hw e2) (by omega) (sj _ gJ)
   rw[decide_eq_true hle,Bool.true_and]at gJ
   have uF:∀(a2:Option Addr)(mz:Nat),w.ownsRow 0 107 1 (.slice a2 wQ.length mz) wQ.length (GM.take wQ.length)->∀w2,Below w1.heap.size w1 w2->∀R2:EW,(∀w',Below w2.heap.size w2 w'->R2 (.returned (.bool (!br (λj=>!(Ty.fits (la.getD j bM) (lb.getD j bM)||Ty.fits (lb.getD j bM) (la.getD j bM))) la.length))) w')->Calls prog 308 #[.slice a1 wQ.length kZ,.slice a2 wQ.length mz,.func (.func 307) #[] #[]] w2 R2:=by
    intro a2 mz ht w2 aD R2 BS;have j9:=hw.trans (aD.mono hw.size);have lR: (GM.take wQ.length).length=wQ.length:=by rw[List.length_take];omega
    rw[l1]at BS
    refine Ak w2 _ _ wQ (GM.take wQ.length) (ay r1 j9) (by rw[lR];exact ay ht j9) (by omega) 307 Tryz.call307 (λj=>Ty.fits (la.getD j bM) (lb.getD j bM)||Ty.fits (lb.getD j bM) (la.getD j bM)) (λj hj eF w3 dF R3 E4=>?_) (λw' ff=>?_)
    ·have tH:j<la.length:=by omega
     have Pl:j<lb.length:=by omega
     have aaZ:j<GM.length:=by omega
     obtain⟨g1,g2⟩:=gl tH;obtain⟨g3,g4⟩:=gm Pl;have x1:rep (Prt.hp w) (la.getD j bM) wQ[j]:=by rw[getD_eq tH];exact dh Ff j tH hj
     have x2:rep (Prt.hp w) (lb.getD j bM) (GM.take wQ.length)[j]:=by rw[getD_eq Pl,List.getElem_take];exact dh Hf j Pl aaZ
     exact Jz w w3 _ _ _ _ (JS _ _ _ _ (by omega) g2 g4 x1 x2) (JS _ _ _ _ (by omega) g4 g2 x2 x1) (j9.trans (dF.mono j9.size)) E4
    ·have:=BS w' ff;rw[decide_eq_true lR.symm,Bool.true_and];exact this
   rcases zq.2 with⟨rfl,h0⟩|⟨g,cap,cur,rfl,_,_,kK,_⟩
   ·have aak:wQ=[]:=List.eq_nil_of_length_eq_zero (by omega);subst aak;have uC:=uF none 0 ⟨by simp,.inl ⟨rfl,rfl⟩⟩;have mI:la.length=0:=by simp at l1;omega
    rw[mI]at uC gJ
    rw[show br _ 0=false from rfl,Bool.not_false]at uC gJ
    rw[Bool.true_and]at gJ
    exact Rz w1 ba bb hA hB a1 kZ (ak hw c2) (ak hw e2) wv sH (ak hw c3) (ak hw e3) uC _ TT (sj _ gJ)
   ·have uC:=uF (some ⟨g,0,none⟩) cap (Fl r2 (by omega));cases sJ:br (λj=>!(Ty.fits (la.getD j bM) (lb.getD j bM)||Ty.fits (lb.getD j bM) (la.getD j bM))) la.length with
    |true=>
     rw[sJ]at uC gJ
     rw[Bool.not_true,Bool.false_and]at gJ
     exact SR w1 ba bb hA hB a1 (some ⟨g,0,none⟩) wQ.length GM.length kZ cap (ak hw c2) (ak hw e2) wv sH (ak hw c3) (ak hw e3) (by omega) kK ⟨g,rfl⟩ uC (sj _ gJ)
    |false=>
     rw[sJ]at uC gJ
     rw[Bool.not_false,Bool.true_and]at gJ
     exact R1 w1 ba bb hA hB a1 (some ⟨g,0,none⟩) wQ.length GM.length kZ cap (ak hw c2) (ak hw e2) wv sH (ak hw c3) (ak hw e3) (by omega) kK ⟨g,rfl⟩ uC _ TT (sj _ gJ)
  rw[if_neg h9]at gJ
  exact OZ w1 ba bb ka hA hB ⟨by omega,by omega,by omega⟩ ⟨h7,h8,h9⟩ (sj _ gJ)
theorem kE.mono{p q:Value}{w w1:World}{r:Bool}(h:kE p q w r)(hb:Below w.heap.size w w1):kE p q w1 r:=λw2 aD R hR=>h w2 (hb.trans (aD.mono hb.size)) R hR
theorem Lj{ka kb:Nat}{na nb:List BA}{pa la oa pb lb ob:List Tr}(ha:dX (.mk ka na pa la oa))(hb:dX (.mk kb nb pb lb ob)):Ty.alike (.mk ka na pa la oa) (.mk kb nb pb lb ob)=
  (decide (ka=kb)&&decide (pa.length=pb.length)&&decide (la.length=lb.length)
   &&!br (λj=>!Ty.alike (la.getD j bM) (lb.getD j bM)) la.length
   &&!br (λj=>match Ty.part nb pb (na.getD j ⟨#[]⟩)with|none=>true|some t=>!Ty.alike (pa.getD j bM) t) pa.length
   &&(!decide (ka=8\/ka=9)||Ty.alike (eP (.mk ka na pa la oa)) (eP (.mk kb nb pb lb ob)))):=Cc ha hb
theorem F9(w:World):∀(N:Nat)(a b:Tr)(p q:Value),sz a+sz b<N->dX a->dX b->rep (Prt.hp w) a p->rep (Prt.hp w) b q->kE p q w (Ty.alike a b):=by
 intro N;induction N with
 |zero=>intro a b p q h;omega
 |succ N ih=>
  intro a b p q hN ha hb ra rb w1 hw R hR;have JS:∀(x y:Tr)(p q:Value),sz x+sz y<sz a+sz b->dX x->dX y->rep (Prt.hp w) x p->rep (Prt.hp w) y q->kE p q w (Ty.alike x y):=λx y p q h=>ih x y p q (by omega)
  have gl:∀{j:Nat},j<(aL a).length->sz ((aL a).getD j bM)<sz a/\dX ((aL a).getD j bM):=λh=>⟨dB h,cr ha h⟩
  have gm:∀{j:Nat},j<(aL b).length->sz ((aL b).getD j bM)<sz b/\dX ((aL b).getD j bM):=λh=>⟨dB h,cr hb h⟩
  have gp:∀{j:Nat},j<(Ty.partsOf a).length->sz ((Ty.partsOf a).getD j bM)<sz a/\dX ((Ty.partsOf a).getD j bM):=λh=>⟨jy h,jA ha h⟩
  have gq:∀{x:BA}{t:Tr},Ty.part (bY b) (Ty.partsOf b) x=some t->sz t<sz b/\dX t:=λh=>⟨pS h,qf hb h⟩
  have so:Ty.kindOf a=8\/Ty.kindOf a=9->sz (eP a)<sz a/\dX (eP a):=λh=>⟨fU ha h,fZ ha h⟩
  have sp:Ty.kindOf b=8\/Ty.kindOf b=9->sz (eP b)<sz b/\dX (eP b):=λh=>⟨fU hb h,fZ hb h⟩
  obtain⟨ka,na,pa,la,oa⟩:=a;obtain⟨kb,nb,pb,lb,ob⟩:=b;obtain⟨ba,ach,vT,wv,S4,wQ,abO,rfl,vX,c0,c1,c2,c3,qK,W4,Ks,oz,Ff,Fg,N_⟩:=i' ra;obtain⟨bb,WH,qx,sH,vL,GM,ab2,rfl,gQ,e0,e1,e2,e3,pe,zG,Mb,zq,Hf,MV,Rm⟩:=i' rb;obtain⟨Z8,aar,abb,aax,UX,YB⟩:=qo ha;obtain⟨aaE,aaH,aaT,aae,U',aaI⟩:=qo hb;obtain⟨a1,kZ,rfl⟩:=ag qK;obtain⟨a2,mz,rfl⟩:=ag pe;have hA:TAt w1 ba ka a1 S4.length kZ vT wv:=TAt.below ⟨vX,c0,c1,c2,c3⟩ hw;have hB:TAt w1 bb kb a2 vL.length mz qx sH:=TAt.below ⟨gQ,e0,e1,e2,e3⟩ hw;have sj:∀r,Ty.alike (.mk ka na pa la oa) (.mk kb nb pb lb ob)=r->ng w1 r R:=λr h w2 aD=>h▸hR w2 aD
  have l1:=cd Ff;have l2:=cd Hf;have m1:=cd Ks;have m2:=cd Mb;dsimp only[Ty.kindOf,bY,Ty.partsOf,aL]at gl gm gp gq so sp;have gJ:=Lj ha hb;by_cases h1:ka=kb;rotate_left
  ·exact Mj w1 ba bb ka kb a1 a2 _ _ kZ mz vT qx wv sH hA hB h1 (sj _ (by rw[gJ];simp[h1]))
  subst h1;by_cases h2:pa.length=pb.length;rotate_left
  ·exact PG w1 ba bb ka a1 a2 _ _ kZ mz vT qx wv sH hA hB (by omega) (sj _ (by rw[gJ];simp[h2]))
  have uF:∀w2,Below w1.heap.size w1 w2->∀R2:EW,(∀w',Below w2.heap.size w2 w'->R2 (.returned (.bool (decide (la.length=lb.length)&&!br (λj=>!Ty.alike (la.getD j bM) (lb.getD j bM)) la.length))) w')->Calls prog 308 #[vT,qx,.func (.func 301) #[] #[]] w2 R2:=by
   intro w2 aD R2 BS;have j9:=hw.trans (aD.mono hw.size);rw[l1,l2]at BS
   refine Ak w2 _ _ wQ GM (ay oz j9) (ay zq j9) (by omega) 301 Tryz.call301 (λj=>Ty.alike (la.getD j bM) (lb.getD j bM)) (λj hj eF w3 dF R3 E4=>?_) BS;have tH:j<la.length:=by omega
   have Pl:j<lb.length:=by omega
   obtain⟨g1,g2⟩:=gl tH;obtain⟨g3,g4⟩:=gm Pl;have x1:rep (Prt.hp w) (la.getD j bM) wQ[j]:=by rw[getD_eq tH];exact dh Ff j tH hj
   have x2:rep (Prt.hp w) (lb.getD j bM) GM[j]:=by rw[getD_eq Pl];exact dh Hf j Pl eF
   exact JS _ _ _ _ (by omega) g2 g4 x1 x2 w3 (j9.trans (dF.mono j9.size)) R3 E4
  have NZ:vL.length=S4.length:=by omega
  rw[decide_eq_true rfl,decide_eq_true h2,Bool.true_and,Bool.true_and]at gJ
  rw[NZ]at hB
  cases U4: (decide (la.length=lb.length)&&!br (λj=>!Ty.alike (la.getD j bM) (lb.getD j bM)) la.length)with
  |false=>
   rw[U4]at gJ
   simp only[U4]at uF;exact Mr w1 ba bb ka a1 a2 _ kZ mz vT qx wv sH hA hB uF (sj _ (by rw[gJ];simp))
  |true=>
   rw[U4,Bool.true_and]at gJ
   simp only[U4]at uF;rw[m1]at gJ
   refine ML w1 ba bb ka a1 a2 kZ mz vT qx wv sH na S4 hA hB (ay qK hw) W4 (by omega) uF _ (λj hj eF=>?_) (λj hj=>?_) _ ?_ (sj _ gJ)
   ·intro w2 aD R2 BS;have j9:=hw.trans (aD.mono hw.size);have tH:j<pa.length:=by omega
    refine AR w w2 j9 _ _ rb hb na[j] (λq w3 dF hq=>BS q w3 dF ?_);dsimp only at hq;rw[getD_eq eF];cases Xd:Ty.part nb pb na[j]with
    |none=>
     rw[Xd]at hq
     exact .inl ⟨hq,rfl⟩
    |some u=>
     rw[Xd]at hq
     obtain⟨qb,eq,_⟩:=fI hq;obtain⟨g1,g2⟩:=gp tH;obtain⟨g3,g4⟩:=gq Xd;refine .inr ⟨qb,_,eq,kE.mono (JS (pa.getD j bM) u _ _ (by omega) g2 g4 ?_ hq) hw,rfl⟩;rw[getD_eq tH];exact dh Ks j tH hj
   ·obtain⟨aau,e,_⟩:=fI (dh Ks j (by omega) hj);exact⟨aau,e⟩
   ·by_cases h8:ka=8\/ka=9
    ·have ho:=nJ (k:=ka) (names:=na) (parts:=pa) (list:=la) (UX h8) Fg N_;obtain⟨po,eo,_⟩:=fI ho;obtain⟨s1,s2⟩:=so h8;obtain⟨s3,s4⟩:=sp h8;refine .inr ⟨po,eo,?_⟩;rw[decide_eq_true h8,Bool.not_true,Bool.false_or];exact kE.mono (JS _ _ _ _ (by omega) s2 s4 ho (nJ (U' h8) MV Rm)) hw
    ·left;have UU:=YB (by omega) (by omega);subst UU;rw[bz]at Fg
     subst Fg;rcases N_ with⟨_,h⟩|h
     ·exact⟨h,by simp[h8]⟩
     ·cases h
end
section
open Ty (Tr)
def uQ(w0:World)(h0:Prt.Hp)(t:Tr)(p:Value):Prop:=∀w,Below w0.heap.size w0 w->∀R:EW,
 (∀v ps w',Sat w w' [bG w,Prt.row 107 1 v ps.length ps]->bz h0 (ey t) ps->R (.returned v) w')->Calls prog 298 #[p] w R
theorem sf{h:Prt.Hp}:∀{l m:List Tr}{ps qs:List Value},bz h l ps->bz h m qs->bz h (l++m) (ps++qs)
 |[],m,ps,qs,h1,h2=>by rw[bz]at h1;subst h1;exact h2
 |a::l,m,ps,qs,h1,h2=>by
  rw[bz]at h1
  obtain⟨q,CD,rfl,h3,h4⟩:=h1;show bz h (a:: (l++m)) (q:: (CD++qs));rw[bz];exact⟨q,_,rfl,h3,sf h4 h2⟩
theorem FE{h:Prt.Hp}{l:List Tr}{ps:List Value}(hr:bz h l ps):∀u∈ps,u.oneCell'=true:=by
 induction l generalizing ps with
 |nil=>rw[bz]at hr;subst hr;simp
 |cons a l ih=>
  rw[bz]at hr
  obtain⟨q,CD,rfl,h3,h4⟩:=hr;intro u hu;rcases List.mem_cons.1 hu with rfl|hu
  ·obtain⟨b,rfl,_⟩:=fI h3;rfl
  ·exact ih h4 u hu
theorem Fo{v:Value}{ps qs:List Value}{n:Nat}{a:Prt.Hp}(hn:n=ps.length+qs.length)(h:Prt.row 107 1 v n (ps++qs) a):Prt.row 107 1 v (ps++qs).length (ps++qs) a:=by
 rw[List.length_append,<-hn];exact h
theorem p3(w0:World){h0:Prt.Hp}(vY:Prt.le h0 (Prt.hp w0)):∀(N:Nat)(t:Tr),sz t<N->dX t->jM t->dS t<=1000000->∀p,rep h0 t p->uQ w0 h0 t p:=by
 intro N;induction N with
 |zero=>intro t h;omega
 |succ N ih=>
  intro t hN aH Ig xP p mS w hw R hR;obtain⟨k,names,parts,list,of⟩:=t;have J7:=mS;obtain⟨b,pv,lv,ov,ps,ls,os,rfl,hb,c0,c1,c2,c3,_,_,_,bm,yK,_⟩:=mB vY mS;replace c0:=ak hw c0;replace c2:=ak hw c2;rw[ey]at hR
  by_cases hk:k=10
  ·rw[if_pos hk]at hR
   subst hk;have hle:=cd yK;have Xb:=aH;rw[dX]at aH
   have XV:=Ig;rw[jM]at Ig
   rw[dS]at xP
   have HR:=qh hR;have du:=qh (ay bm hw);obtain⟨la,lc,rfl⟩:=ag bm;have GJ:Hq (∀j(hj:j<list.length)(eF:j<ls.length),uQ w0 h0 list[j] ls[j]):=λj hj eF=>
    ih list[j] (by have:=tJ (gM hj) 10 names parts of;omega) (fJ aH.2.2.2.2.2.2.2.2.1 _ (gM hj)) (nS Ig.2.2.1 _ (gM hj)) (by have:=oh list j hj;omega) ls[j] (dh yK j hj eF)
   have W8:Hq (∀j(hj:j<list.length),0<(ey list[j]).length):=λj hj=>xn _ (nS Ig.2.2.1 _ (gM hj))
   have Rp:=qh xP;have HW:=qh hw;have oW:ls.length<=1000000:=by have:=aH.2.2.2.2.2.2.1.2;omega
   have zl:=qh hle;obtain⟨j0,tj,vI,vJ,vH⟩:=info_parts pn;have h1:=(Sat.fO w).nil 107 1;have H1:=qh h1;clear vY hR bm hN mS J7 ih aH Xb Ig XV xP yK hle hw h1 c1 c3;go_enter func298,ntmps298;go_wp2_with fail;go_loopw [3,18] (λv i wr=>∃(j:Nat)(qs:List Value),i=.int .i64 j/\j<=ls.length/\Hq (Sat w wr [bG w,Prt.row 107 1 v qs.length qs])/\Hq (bz h0 (bQ (list.take j)) qs)) (λ_ i _=>ls.length-(intOf i).toNat)
   case atStart=>exact⟨0,[],rfl,by omega,H1.o,by show bz _ (bQ []) [];rw[bQ,bz]⟩
   case round=>
    obtain⟨j,qs,rfl,hj,hS,hQ⟩:=hrel;obtain⟨qa,qc,rfl⟩:=ag (hS.out.row 1 rfl);by_cases a_:j<ls.length
    ·obtain⟨gl,jB,e,ku,d0⟩:=fF (ay du.o hS.out.bD) j a_;cases e;have eF:j<list.length:=by have:=zl.o;omega
     have HI:=qh (GJ.o j eF a_ wr (HW.o.trans (hS.out.bD.mono HW.o.size)));have HT:=qh (List.take_succ_eq_append_getElem eF);have eS:=W8.o j eF;have gh:qs.length+(ey list[j]).length<=1000000:=by
      have h1:=cd hQ.out;have h2:=jU (list.take j);have h3:=ri list[j];have h4:=oh list j eF;have:=Rp.o;omega
     generalize ls[j]=pj at*
     generalize list[j]=Hx at*
     have vO:=qh gh;have mJ:=qh eS;clear eF eS gh;go_wp2_with fail;refine HI.o _ (λv2 vL w2 h2 zq=>?_);have cu:=cd zq;obtain⟨g2,M4,rfl,_,Dj⟩:=(h2.row 1 rfl).form (by have:=mJ.o;omega);have h3:=hS.out.join h2;have Q5:=qh zq;have H3:=qh h3;have cQ:qs.length+vL.length<=1000000:=by have:=vO.o;omega
     have aD:0<vL.length:=by have:=mJ.o;omega
     clear h2 h3 zq cu;go_wp2_with(at_builtin;go_loud(refine wpList_append_lies _ rfl (.tmp 22) (.tmp 24) 104 rfl 0 107 j0 _ 1 8 underlying104 tj vI vJ vH rfl (by decide) _ _ qs (by rfl) (H3.o.row 1 rfl) ⟨g2,0,none⟩ vL.length M4 vL (by rfl) (by simp) (World.ownsRow.cells (H3.o.row 2 rfl) rfl) (FE Q5.o) (by omega) (by unfold maxLen;omega) (by omega) (by simp) w2.heap.size rfl ?_));intro g4 iq w4 dE cO jY vy;have h8:=(Sat.grow H3.o 1 rfl cO dE jY).pick [0,1];have h9:=h8.cL (i:=1) rfl (Q:=Prt.row 107 1 (.slice (some ⟨g4,0,none⟩) (qs.length+vL.length) iq) (qs++vL).length (qs++vL)) (λ_ h=>Fo rfl h);have H9:=qh h9;have Hr:Hq (bz h0 (bQ (list.take (j+1))) (qs++vL)):=by show bz _ _ _;rw[HT.o,uH];exact sf hQ.out Q5.o
     clear h8 h9 dE cO;go_wp2_with fail;go_roundw
     case rel=>exact⟨j+1,qs++vL,by go_num,by omega,H9.o,Hr.o⟩
     case measure=>simp[intOf];omega
    ·have gO:j=list.length:=by have:=zl.o;omega
     have Hr:Hq (bz h0 (bQ list) qs):=by have:=hQ.out;rw[gO,List.take_length]at this;exact this
     clear gO;go_wp2_with fail;exact HR.o _ qs _ hS.out Hr.o
  ·rw[if_neg hk]at hR
   have HR:=qh hR;have Pd:=qh J7;have k1: ((k:Int) !=10)=true:=by simp;omega
   clear vY hR J7 mS ih aH Ig xP bm yK hN;go_enter func298,ntmps298;go_wp2_with fail;refine HR.o _ [.pointer (some ⟨b,0,none⟩)] _ (((Sat.fO w).aj (.cells #[.pointer (some ⟨b,0,none⟩)] 107) w.heap.size).cL (i:=1) rfl λ_ h=>mx h (by unfold maxLen;simp) rfl rfl) ?_;rw[bz];exact⟨_,[],rfl,Pd.o,by rw[bz]⟩
end
end Go.Proofs.YtdlbhiaceheffabGreatDoor
