/- Walks of types.Alike, one for each way through. -/
import Derived.Deep.RegionHeld3
import Derived.Test.YtdlbhiaceheffabGreatDoorC09
set_option linter.all false
set_option maxRecDepth 100000
set_option maxHeartbeats 4000000
namespace Go.Proofs.YtdlbhiaceheffabGreatDoor
open Go Go.RowKit Ty Tok Prt Tryz Proofs.Tryz
section
open Ty (Tr bn bE bg)
def kO(p q:Value)(w:World)(r:Bool):Prop:=∀w1,Below w.heap.size w w1->∀R:EW,(∀w2,Below w1.heap.size w1 w2->R (.returned (.bool r)) w2)->Calls prog 301 #[p,q] w1 R
abbrev AI(p q:Value)(w:World)(R:EW):Prop:=Calls prog 301 #[p,q] w R
structure TAt(w:World)(b k:Nat)(a:Option Addr)(n c:Nat)(lv ov:Value):Prop where
 lt:b<w.heap.size
 c0:w.cell? ⟨b,0,none⟩=some (.int .i64 (k:Nat))
 c1:w.cell? ⟨b,1,none⟩=some (.slice a n c)
 c2:w.cell? ⟨b,2,none⟩=some lv
 c3:w.cell? ⟨b,3,none⟩=some ov
theorem jj{w w':World}(h:Below w.heap.size w w'){b o:Nat}{v:Value}(hc:w.cell? ⟨b,o,none⟩=some v):w'.cell? ⟨b,o,none⟩=some v:=by
 by_cases hb:b<w.heap.size
 ·exact(h.cell (p:=⟨b,o,none⟩) hb).trans hc
 ·rw[World.cell?,Array.getElem?_eq_none (by simpa using hb)]at hc;simp at hc
theorem TAt.below{w w':World}{b k:Nat}{a:Option Addr}{n c:Nat}{lv ov:Value}(h:TAt w b k a n c lv ov)(hb:Below w.heap.size w w'):TAt w' b k a n c lv ov:=
 ⟨nL h.lt hb.size,jj hb h.c0,jj hb h.c1,jj hb h.c2,jj hb h.c3⟩
theorem QO(w:World)(ba bb ka kb:Nat)(a1 a2:Option Addr)(n1 n2 mu m_:Nat)(xJ qk yh xI:Value)(hA:TAt w ba ka a1 n1 mu xJ yh)(hB:TAt w bb kb a2 n2 m_ qk xI)(eR:ka≠kb){R:EW}(hR:ph w false R):
  AI (.pointer (some ⟨ba,0,none⟩)) (.pointer (some ⟨bb,0,none⟩)) w R:=by
 have HR:=qh hR;obtain⟨yj,c0,c1,c2,c3⟩:=hA;obtain⟨fF,e0,e1,e2,e3⟩:=hB;have n6: ((ka:Int) !=kb)=true:=by simp;omega
 clear hR eR;go_enter func301,ntmps301;go_wp2_with fail
 go_region
 all_goals
  go_wp2_with fail;exact HR.o _ (bR _ _).drew
theorem S7(w:World)(ba bb k:Nat)(a1 a2:Option Addr)(n1 n2 mu m_:Nat)(xJ qk yh xI:Value)(hA:TAt w ba k a1 n1 mu xJ yh)(hB:TAt w bb k a2 n2 m_ qk xI)(eR:n1≠n2){R:EW}(hR:ph w false R):
  AI (.pointer (some ⟨ba,0,none⟩)) (.pointer (some ⟨bb,0,none⟩)) w R:=by
 have HR:=qh hR;obtain⟨yj,c0,c1,c2,c3⟩:=hA;obtain⟨fF,e0,e1,e2,e3⟩:=hB;have n7: ((n1:Int) !=n2)=true:=by simp;omega
 clear hR eR;go_enter func301,ntmps301;go_wp2_with fail
 go_region
 all_goals
  go_wp2_with fail;exact HR.o _ (bR _ _).drew
theorem Rc(w:World)(ba bb k:Nat)(a1 a2:Option Addr)(n mu m_:Nat)(xJ qk yh xI:Value)(hA:TAt w ba k a1 n mu xJ yh)(hB:TAt w bb k a2 n m_ qk xI)
  (hy:∀w2,Below w.heap.size w w2->∀R:EW,(∀w',Below w2.heap.size w2 w'->R (.returned (.bool false)) w')->Calls prog 308 #[xJ,qk,.func (.func 301) #[] #[]] w2 R) {R:EW} (hR:ph w false R):
  AI (.pointer (some ⟨ba,0,none⟩)) (.pointer (some ⟨bb,0,none⟩)) w R:=by
 have HR:=qh hR;have HX:=qh hy;obtain⟨yj,c0,c1,c2,c3⟩:=hA;obtain⟨fF,e0,e1,e2,e3⟩:=hB;clear hR hy;go_enter func301,ntmps301;go_wp2_with fail;go_region_held3(λw'=>w'.cell? ⟨ba,0,none⟩=some (.int .i64 (k:Nat))/\w'.cell? ⟨bb,0,none⟩=some (.int .i64 (k:Nat))/\w'.cell? ⟨ba,1,none⟩=some (.slice a1 n mu)/\w'.cell? ⟨bb,1,none⟩=some (.slice a2 n m_)/\w'.cell? ⟨ba,2,none⟩=some xJ/\w'.cell? ⟨bb,2,none⟩=some qk) (go_keep)
  (first|(go_at_call 308;refine HX.o _ (bR _ _).drew _ (λw2 aW=>?_);have fG:=qh ((bR w.heap.size w).drew.trans (aW.mono (by simp)));have s0:=jj fG.o c0;have s1:=jj fG.o e0;have s2:=jj fG.o c1;have s3:=jj fG.o e1;have s4:=jj fG.o c2;have s5:=jj fG.o e2;clear aW))
 all_goals
  go_wp2_with fail;exact HR.o _ fG.o
def Wp(w:World)(bb:Nat)(p:Value)(nm:BA)(r:Bool):Prop:=∀w1,Below w.heap.size w w1->∀R:EW,
 (∀q w2,Below w1.heap.size w1 w2->(q=.pointer none/\r=true\/∃pb rr,q=.pointer (some ⟨pb,0,none⟩)/\kO p q w rr/\r=!rr)->R (.returned q) w2)->Calls prog 297 #[.pointer (some ⟨bb,0,none⟩),.string nm] w1 R
theorem Q9(w:World)(ba bb k:Nat)(a1 a2:Option Addr)(mu m_:Nat)(xJ qk yh xI:Value)(ns:List BA)(ps:List Value)(hA:TAt w ba k a1 ps.length mu xJ yh)(hB:TAt w bb k a2 ps.length m_ qk xI)
  (cg:w.ownsRow 0 221 2 (.slice a1 ps.length mu) ps.length (cP ns ps)) (hn:ns.length=ps.length) (hl:ps.length<=1000000)
  (hy:∀w2,Below w.heap.size w w2->∀R:EW,(∀w',Below w2.heap.size w2 w'->R (.returned (.bool true)) w')->Calls prog 308 #[xJ,qk,.func (.func 301) #[] #[]] w2 R)
  (f:Nat->Bool) (hp:∀j(hj:j<ps.length)(fK:j<ns.length),Wp w bb ps[j] ns[j] (f j)) (XC:∀j(hj:j<ps.length),∃pb,ps[j]=.pointer (some ⟨pb,0,none⟩))
  (ro:Bool) (ho:yh=.pointer none/\ro=true\/∃pb,yh=.pointer (some ⟨pb,0,none⟩)/\kO yh xI w ro) {R:EW} (hR:ph w (!bn f ps.length&&ro) R):
  AI (.pointer (some ⟨ba,0,none⟩)) (.pointer (some ⟨bb,0,none⟩)) w R:=by
 have HR:=qh hR;have HX:=qh hy;have HP:=qh hp;have ik:=qh cg;have KQ:=qh XC;have Bl:=qh hn;have HO:=qh ho;have HA:=qh hA;have HB:=qh hB;obtain⟨yj,c0,c1,c2,c3⟩:=hA;obtain⟨fF,e0,e1,e2,e3⟩:=hB;clear hR hy hp cg XC hn ho;go_enter func301,ntmps301;go_wp2_with fail;go_region_held3(λw'=>w'.cell? ⟨ba,0,none⟩=some (.int .i64 (k:Nat))/\w'.cell? ⟨bb,0,none⟩=some (.int .i64 (k:Nat))/\w'.cell? ⟨ba,1,none⟩=some (.slice a1 ps.length mu)/\w'.cell? ⟨bb,1,none⟩=some (.slice a2 ps.length m_)/\w'.cell? ⟨ba,2,none⟩=some xJ/\w'.cell? ⟨bb,2,none⟩=some qk) (go_keep)
  (first|(go_at_call 308;refine HX.o _ (bR _ _).drew _ (λw2 aW=>?_);have fG:=qh ((bR w.heap.size w).drew.trans (aW.mono (by simp)));have s0:=jj fG.o c0;have s1:=jj fG.o e0;have s2:=jj fG.o c1;have s3:=jj fG.o e1;have s4:=jj fG.o c2;have s5:=jj fG.o e2;clear aW))
 go_wp2_with fail;go_loopw [47] (λi wr=>∃j:Nat,j<=ps.length/\i=.int .i64 j/\Hq (Below w.heap.size w wr)/\Hq (∀i,i<j->f i=false)) (λi _=>ps.length-(intOf i).toNat)
 case atStart=>exact⟨0,by omega,rfl,fG.o,λj hj=>by omega⟩
 case round=>
  obtain⟨j,hj,rfl,hb,hf⟩:=hrel;by_cases bz:j<ps.length
  ·obtain⟨gl,nK,e,rE,d0,d1⟩:=xq (ay ik.o hb.out) Bl.o j bz;cases e;have lW:j<ns.length:=by have:=Bl.o;omega
   have HI:=qh (HP.o j bz lW);have HT:=qh (λh:f j=true=>(bE (f:=f)).2 ⟨j,bz,h⟩);have HN:Hq (f j=false->∀i,i<j+1->f i=false):=λh i hi=>by
    by_cases RZ:i=j
    ·subst RZ;exact h
    ·exact hf.out i (by omega)
   obtain⟨pp,XK⟩:=KQ.o j bz;rw[XK]at d1 HI
   clear XK;generalize f j=fj at*
   obtain⟨nm,xM⟩:∃x,x=ns[j]'lW:=⟨_,rfl⟩
   rw[<-xM]at d0 HI
   clear xM;go_wp2_with fail;refine HI.o _ (hb.out.trans ((bR wr.heap.size wr).alloc (nR _) _|>.mono hb.out.size)) _ (λq w2 aW hq=>?_);have cZ:=hb.out.trans (((bR wr.heap.size wr).alloc (nR _) _).trans (aW.mono (by simp))|>.mono hb.out.size);have x1:w2.cell? ⟨wr.heap.size,1,none⟩=some (.pointer (some ⟨pp,0,none⟩)):=by
    rw[aW.cell (p:=⟨wr.heap.size,1,none⟩) (by simp),cell_of_block (heap_alloc_new wr _)];rfl
   have qd:=qh cZ;clear aW cZ;rcases hq with⟨rfl,rfl⟩|⟨qb,rr,rfl,GB,rfl⟩
   ·have KJ:=qh (HT.o rfl);rw[KJ.o]at HR
    go_wp2_with fail;exact HR.o _ qd.o
   ·have Kg:=qh (GB w2 qd.o);clear GB;go_wp2_with fail;refine Kg.o _ (λw4 qW=>?_);have adF:=qh (qd.o.trans (qW.mono qd.o.size));clear qW;cases rr
    ·have KJ:=qh (HT.o rfl);rw[KJ.o]at HR
     go_wp2_with fail;exact HR.o _ adF.o
    ·have LG:=qh (HN.o rfl);go_wp2_with fail;go_roundw
     case rel=>exact⟨j+1,by omega,by go_num,adF,LG⟩
     case measure=>simp[intOf];omega
  ·have oE:j=ps.length:=by omega
   have HN:Hq (bn f ps.length=false):=bg.2 (λi hi=>hf.out i (by omega));rw[HN.o,Bool.not_false,Bool.true_and]at HR
   obtain⟨aeL,x0,x1,x2,x3⟩:=HA.o.below hb.out;obtain⟨Wv,y0,y1,y2,y3⟩:=HB.o.below hb.out;clear oE HN c0 c1 c2 c3 e0 e1 e2 e3;rcases HO.o with⟨rfl,rfl⟩|⟨pb,rfl,GB⟩
   ·go_wp2_with fail
    go_region
    all_goals
     go_wp2_with fail;exact HR.o _ hb.out.drew
   ·have Kg:=qh GB;clear GB;go_wp2_with fail;go_region_held3(λw'=>w'.cell? ⟨ba,3,none⟩=some (.pointer (some ⟨pb,0,none⟩))/\w'.cell? ⟨bb,3,none⟩=some xI) (go_keep)
     (first|(go_at_call 301;refine Kg.o _ hb.out.drew _ (λw2 aW=>?_);have fG:=qh (hb.out.drew.trans (aW.mono (by have:=hb.out.size;simp;omega)));have s6:=jj aW (show(World.cell? (World.drew _) _)= _ from x3);have s7:=jj aW (show(World.cell? (World.drew _) _)= _ from y3);clear aW))
    all_goals
     go_wp2_with fail;first|exact HR.o _ fG.o|(refine bodyPost_ret ?_ ?_ (HR.o _ fG.o)<;>first|(simp[results,results301,go_sem];done)|rfl)
theorem av{w w':World}(h:Below w.heap.size w w'){b o:Nat}{v:Value}(hc:w.cell? ⟨b,o,none⟩=some v):w'.cell? ⟨b,o,none⟩=some v:=by
 by_cases hb:b<w.heap.size
 ·exact(h.cell (p:=⟨b,o,none⟩) hb).trans hc
 ·rw[World.cell?,Array.getElem?_eq_none (by simpa using hb)]at hc;simp at hc
theorem Sk(w:World)(u v:Value)(t:TypeId): ((w.alloc (.cells #[u] t)).alloc (.cells #[v] t)).drew.drew.cell? ⟨w.heap.size,0,none⟩=some u:=by
 rw[cell_of_block (eK (eK ((heap_alloc_old _ _ (by simp)).trans (heap_alloc_new w _))))];rfl
theorem Un(w:World)(u v:Value)(t:TypeId): ((w.alloc (.cells #[u] t)).alloc (.cells #[v] t)).drew.drew.cell? ⟨w.heap.size+1,0,none⟩=some v:=by
 rw[cell_of_block (eK (eK (aC _ _ _ (by simp))))];rfl
theorem VU(w:World)(ba bb:Nat)(hA:cX w ba 9)(hB:cX w bb 9)(a1 a2:Option Addr)(n1 n2 mu m_:Nat)(c2:w.cell? ⟨ba,2,none⟩=some (.slice a1 n1 mu))(e2:w.cell? ⟨bb,2,none⟩=some (.slice a2 n2 m_))(x y:Value)(c3:w.cell? ⟨ba,3,none⟩=some x)(e3:w.cell? ⟨bb,3,none⟩=some y)(hle:n1<=n2)(agC:n2<=m_)(U':∃g,a2=some ⟨g,0,none⟩)
  (hy:∀w2,Below w.heap.size w w2->∀R:EW,(∀w',Below w2.heap.size w2 w'->R (.returned (.bool true)) w')->Calls prog 308 #[.slice a1 n1 mu,.slice a2 n1 m_,.func (.func 307) #[] #[]] w2 R)
  (r:Bool) (hx:qi x y w r) {R:EW} (hR:ph w r R):
  wv (.pointer (some ⟨ba,0,none⟩)) (.pointer (some ⟨bb,0,none⟩)) w R:=by
 have HR:=qh hR;have HX:=qh hy;have HF:=qh hx;obtain⟨yj,c0⟩:=hA;obtain⟨fF,e0⟩:=hB;obtain⟨g,rfl⟩:=U';have abM:n1<=m_:=by omega
 have HZ:Hq (∀R:EW,(∀w',w'.cell? ⟨w.heap.size,0,none⟩=some (.pointer (some ⟨ba,0,none⟩))->w'.cell? ⟨w.heap.size+1,0,none⟩=some (.pointer (some ⟨bb,0,none⟩))->w'.cell? ⟨ba,2,none⟩=some (.slice a1 n1 mu)->w'.cell? ⟨bb,2,none⟩=some (.slice (some ⟨g,0,none⟩) n2 m_)->w'.cell? ⟨ba,3,none⟩=some x->w'.cell? ⟨bb,3,none⟩=some y->Below w.heap.size w w'->R (.returned (.bool true)) w')->Calls prog 308 #[.slice a1 n1 mu,.slice (some ⟨g,0,none⟩) n1 m_,.func (.func 307) #[] #[]] ((w.alloc (.cells #[.pointer (some ⟨ba,0,none⟩)] 107)).alloc (.cells #[.pointer (some ⟨bb,0,none⟩)] 107)).drew.drew R):=λR h=>by
  refine HX.o _ (bG w _ _).drew.drew _ (λw2 aW=>?_);have hB:=(bG w _ _).drew.drew.trans (aW.mono (by simp;omega));exact h w2 (av aW (Sk w _ _ _)) (av aW (Un w _ _ _)) (av hB c2) (av hB e2) (av hB c3) (av hB e3) hB
 clear hR hy HX hx;go_enter func249,ntmps249;go_wp2_with fail
 go_region
 go_wp2_with fail;go_region_held3(λw'=>w'.cell? ⟨w.heap.size,0,none⟩=some (.pointer (some ⟨ba,0,none⟩))/\w'.cell? ⟨w.heap.size+1,0,none⟩=some (.pointer (some ⟨bb,0,none⟩))/\w'.cell? ⟨ba,2,none⟩=some (.slice a1 n1 mu)/\w'.cell? ⟨bb,2,none⟩=some (.slice (some ⟨g,0,none⟩) n2 m_)/\w'.cell? ⟨ba,3,none⟩=some x/\w'.cell? ⟨bb,3,none⟩=some y) (go_keep)
  (first|(go_at_call 308;refine HZ.o _ (λw2 s0 s1 s2 s3 s4 s5 aW=>?_);have fG:=qh aW;clear aW)|(go_at_call 249;refine HF.o _ fG.o _ (λw3 cZ=>?_);have qd:=qh (fG.o.trans (cZ.mono fG.o.size));have s0:=av cZ s0;have s1:=av cZ s1;have s2:=av cZ s2;have s3:=av cZ s3;have s4:=av cZ s4;have s5:=av cZ s5;clear cZ))
 all_goals
  go_wp2_with fail;exact HR.o _ qd.o
theorem du{P:Program}{md:Region.Mode}{ops:Array Oper}{Q:Exit->Act->World->Prop}{S:World->Prop}(i d:Nat){oi:Oper}{v:Value}{fuel:Nat}{listed:Array Bool}{a:Act}{w:World}(hi:ops[i]?=some oi)(hd:oi.dst=some d)
  (hs:Region.noSelect ops=true) (hf:Region.free md ops listed i=true) (hr: (Region.ready md ops listed).contains i=true)
  (hQ:∀c a w,Q (.panic c) (a.put (some d) v) w->Q (.panic c) a w) (hy:YieldsIf P ops S oi v a) (hS:S w)
  (h:wpAnyH P md ops Q S fuel (listed.setIfInBounds i true) (a.put (some d) v) w):wpAnyH P md ops Q S (fuel+1) listed a w:=
 wpAnyH_take hi hs hf hr (by rw[hd];exact hQ) hy hS (by rw[hd];exact h)
theorem VQ(w:World)(ba bb:Nat)(hA:cX w ba 9)(hB:cX w bb 9)(a1 a2:Option Addr)(n1 n2 mu m_:Nat)(c2:w.cell? ⟨ba,2,none⟩=some (.slice a1 n1 mu))(e2:w.cell? ⟨bb,2,none⟩=some (.slice a2 n2 m_))(x y:Value)(c3:w.cell? ⟨ba,3,none⟩=some x)(e3:w.cell? ⟨bb,3,none⟩=some y)(hle:n1<=n2)(agC:n2<=m_)(U':∃g,a2=some ⟨g,0,none⟩)
  (hy:∀w2,Below w.heap.size w w2->∀R:EW,(∀w',Below w2.heap.size w2 w'->R (.returned (.bool false)) w')->Calls prog 308 #[.slice a1 n1 mu,.slice a2 n1 m_,.func (.func 307) #[] #[]] w2 R)
  {R:EW} (hR:ph w false R):
  wv (.pointer (some ⟨ba,0,none⟩)) (.pointer (some ⟨bb,0,none⟩)) w R:=by
 have HR:=qh hR;have HX:=qh hy;obtain⟨yj,c0⟩:=hA;obtain⟨fF,e0⟩:=hB;obtain⟨g,rfl⟩:=U';have abM:n1<=m_:=by omega
 have HZ:Hq (∀R:EW,(∀w',w'.cell? ⟨w.heap.size,0,none⟩=some (.pointer (some ⟨ba,0,none⟩))->w'.cell? ⟨w.heap.size+1,0,none⟩=some (.pointer (some ⟨bb,0,none⟩))->w'.cell? ⟨ba,2,none⟩=some (.slice a1 n1 mu)->w'.cell? ⟨bb,2,none⟩=some (.slice (some ⟨g,0,none⟩) n2 m_)->w'.cell? ⟨ba,3,none⟩=some x->w'.cell? ⟨bb,3,none⟩=some y->Below w.heap.size w w'->R (.returned (.bool false)) w')->Calls prog 308 #[.slice a1 n1 mu,.slice (some ⟨g,0,none⟩) n1 m_,.func (.func 307) #[] #[]] ((w.alloc (.cells #[.pointer (some ⟨ba,0,none⟩)] 107)).alloc (.cells #[.pointer (some ⟨bb,0,none⟩)] 107)).drew.drew R):=λR h=>by
  refine HX.o _ (bG w _ _).drew.drew _ (λw2 aW=>?_);have hB:=(bG w _ _).drew.drew.trans (aW.mono (by simp;omega));exact h w2 (av aW (Sk w _ _ _)) (av aW (Un w _ _ _)) (av hB c2) (av hB e2) (av hB c3) (av hB e3) hB
 clear hR hy HX;go_enter func249,ntmps249;go_wp2_with fail
 go_region
 go_wp2_with fail;refine wp_region_held_drew (S:=(λw'=>w'.cell? ⟨w.heap.size,0,none⟩=some (.pointer (some ⟨ba,0,none⟩))/\w'.cell? ⟨w.heap.size+1,0,none⟩=some (.pointer (some ⟨bb,0,none⟩))/\w'.cell? ⟨ba,2,none⟩=some (.slice a1 n1 mu)/\w'.cell? ⟨bb,2,none⟩=some (.slice (some ⟨g,0,none⟩) n2 m_))) (by kernel_rfl) (by go_keep) (λhHeld=>?_);refine du 0 95 (v:=?_) rfl (by kernel_rfl) (by kernel_rfl) (by kernel_rfl) (by kernel_rfl) (λ_ _ _ h=>h) (Or.inl ⟨by kernel_rfl,?_⟩) (by assumption) ?_;rotate_left
 ·(intro w dJ;(try dsimp only at dJ);go_simp;try(with_reducible rfl))
 try simp only[Act.put,List.setIfInBounds_toArray,List.set_cons_zero,List.set_cons_succ]
 refine du 1 96 (v:=?_) rfl (by kernel_rfl) (by kernel_rfl) (by kernel_rfl) (by kernel_rfl) (λ_ _ _ h=>h) (Or.inl ⟨by kernel_rfl,?_⟩) (by assumption) ?_;rotate_left
 ·(intro w dJ;(try dsimp only at dJ);go_simp;try(with_reducible rfl))
 try simp only[Act.put,List.setIfInBounds_toArray,List.set_cons_zero,List.set_cons_succ]
 refine du 2 97 (v:=?_) rfl (by kernel_rfl) (by kernel_rfl) (by kernel_rfl) (by kernel_rfl) (λ_ _ _ h=>h) (Or.inl ⟨by kernel_rfl,?_⟩) (by assumption) ?_;rotate_left
 ·(intro w dJ;(try dsimp only at dJ);go_simp;try(with_reducible rfl))
 try simp only[Act.put,List.setIfInBounds_toArray,List.set_cons_zero,List.set_cons_succ]
 refine du 3 98 (v:=?_) rfl (by kernel_rfl) (by kernel_rfl) (by kernel_rfl) (by kernel_rfl) (λ_ _ _ h=>h) (Or.inl ⟨by kernel_rfl,?_⟩) (by assumption) ?_;rotate_left
 ·(intro w dJ;(try dsimp only at dJ);go_simp;try(with_reducible rfl))
 try simp only[Act.put,List.setIfInBounds_toArray,List.set_cons_zero,List.set_cons_succ]
 refine du 4 99 (v:=?_) rfl (by kernel_rfl) (by kernel_rfl) (by kernel_rfl) (by kernel_rfl) (λ_ _ _ h=>h) (Or.inl ⟨by kernel_rfl,?_⟩) (by assumption) ?_;rotate_left
 ·(intro w dJ;(try dsimp only at dJ);go_simp;try(with_reducible rfl))
 try simp only[Act.put,List.setIfInBounds_toArray,List.set_cons_zero,List.set_cons_succ]
 refine du 5 100 (v:=?_) rfl (by kernel_rfl) (by kernel_rfl) (by kernel_rfl) (by kernel_rfl) (λ_ _ _ h=>h) (Or.inl ⟨by kernel_rfl,?_⟩) (by assumption) ?_;rotate_left
 ·(intro w dJ;(try dsimp only at dJ);go_simp;try(with_reducible rfl))
 try simp only[Act.put,List.setIfInBounds_toArray,List.set_cons_zero,List.set_cons_succ]
 refine du 6 101 (v:=?_) rfl (by kernel_rfl) (by kernel_rfl) (by kernel_rfl) (by kernel_rfl) (λ_ _ _ h=>h) (Or.inl ⟨by kernel_rfl,?_⟩) (by assumption) ?_;rotate_left
 ·(intro w dJ;(try dsimp only at dJ);go_simp;try(with_reducible rfl))
 try simp only[Act.put,List.setIfInBounds_toArray,List.set_cons_zero,List.set_cons_succ]
 refine du 7 102 (v:=?_) rfl (by kernel_rfl) (by kernel_rfl) (by kernel_rfl) (by kernel_rfl) (λ_ _ _ h=>h) (Or.inl ⟨by kernel_rfl,?_⟩) (by assumption) ?_;rotate_left
 ·(intro w dJ;(try dsimp only at dJ);go_simp;try(with_reducible rfl))
 try simp only[Act.put,List.setIfInBounds_toArray,List.set_cons_zero,List.set_cons_succ]
 refine du 8 103 (v:=?_) rfl (by kernel_rfl) (by kernel_rfl) (by kernel_rfl) (by kernel_rfl) (λ_ _ _ h=>h) (Or.inl ⟨by kernel_rfl,?_⟩) (by assumption) ?_;rotate_left
 ·(intro w dJ;(try dsimp only at dJ);go_simp;try(with_reducible rfl))
 try simp only[Act.put,List.setIfInBounds_toArray,List.set_cons_zero,List.set_cons_succ]
 refine du 9 104 (v:=?_) rfl (by kernel_rfl) (by kernel_rfl) (by kernel_rfl) (by kernel_rfl) (λ_ _ _ h=>h) (Or.inl ⟨by kernel_rfl,?_⟩) (by assumption) ?_;rotate_left
 ·(intro w dJ;(try dsimp only at dJ);go_simp;try(with_reducible rfl))
 try simp only[Act.put,List.setIfInBounds_toArray,List.set_cons_zero,List.set_cons_succ]
 refine du 10 105 (v:=?_) rfl (by kernel_rfl) (by kernel_rfl) (by kernel_rfl) (by kernel_rfl) (λ_ _ _ h=>h) (Or.inl ⟨by kernel_rfl,?_⟩) (by assumption) ?_;rotate_left
 ·(intro w dJ;(try dsimp only at dJ);go_simp;try(with_reducible rfl))
 try simp only[Act.put,List.setIfInBounds_toArray,List.set_cons_zero,List.set_cons_succ]
 refine du 11 106 (v:=?_) rfl (by kernel_rfl) (by kernel_rfl) (by kernel_rfl) (by kernel_rfl) (λ_ _ _ h=>h) (Or.inl ⟨by kernel_rfl,?_⟩) (by assumption) ?_;rotate_left
 ·(intro w dJ;(try dsimp only at dJ);go_simp;try(with_reducible rfl))
 try simp only[Act.put,List.setIfInBounds_toArray,List.set_cons_zero,List.set_cons_succ]
 refine du 12 107 (v:=?_) rfl (by kernel_rfl) (by kernel_rfl) (by kernel_rfl) (by kernel_rfl) (λ_ _ _ h=>h) (Or.inl ⟨by kernel_rfl,?_⟩) (by assumption) ?_;rotate_left
 ·(intro w dJ;(try dsimp only at dJ);go_simp;try(with_reducible rfl))
 try simp only[Act.put,List.setIfInBounds_toArray,List.set_cons_zero,List.set_cons_succ]
 refine du 13 108 (v:=?_) rfl (by kernel_rfl) (by kernel_rfl) (by kernel_rfl) (by kernel_rfl) (λ_ _ _ h=>h) (Or.inl ⟨by kernel_rfl,?_⟩) (by assumption) ?_;rotate_left
 ·(intro w dJ;(try dsimp only at dJ);go_simp;try(with_reducible rfl))
 try simp only[Act.put,List.setIfInBounds_toArray,List.set_cons_zero,List.set_cons_succ]
 refine du 14 109 (v:=?_) rfl (by kernel_rfl) (by kernel_rfl) (by kernel_rfl) (by kernel_rfl) (λ_ _ _ h=>h) (Or.inl ⟨by kernel_rfl,?_⟩) (by assumption) ?_;rotate_left
 ·(intro w dJ;(try dsimp only at dJ);go_simp;try(with_reducible rfl))
 try simp only[Act.put,List.setIfInBounds_toArray,List.set_cons_zero,List.set_cons_succ]
 refine du 15 110 (v:=?_) rfl (by kernel_rfl) (by kernel_rfl) (by kernel_rfl) (by kernel_rfl) (λ_ _ _ h=>h) (Or.inl ⟨by kernel_rfl,?_⟩) (by assumption) ?_;rotate_left
 ·(intro w dJ;(try dsimp only at dJ);go_simp;try(with_reducible rfl))
 try simp only[Act.put,List.setIfInBounds_toArray,List.set_cons_zero,List.set_cons_succ]
 refine du 16 111 (v:=?_) rfl (by kernel_rfl) (by kernel_rfl) (by kernel_rfl) (by kernel_rfl) (λ_ _ _ h=>h) (Or.inl ⟨by kernel_rfl,?_⟩) (by assumption) ?_;rotate_left
 ·(intro w dJ;(try dsimp only at dJ);go_simp;try(with_reducible rfl))
 try simp only[Act.put,List.setIfInBounds_toArray,List.set_cons_zero,List.set_cons_succ]
 refine du 17 112 (v:=?_) rfl (by kernel_rfl) (by kernel_rfl) (by kernel_rfl) (by kernel_rfl) (λ_ _ _ h=>h) (Or.inl ⟨by kernel_rfl,?_⟩) (by assumption) ?_;rotate_left
 ·(intro w dJ;(try dsimp only at dJ);go_simp;try(with_reducible rfl))
 try simp only[Act.put,List.setIfInBounds_toArray,List.set_cons_zero,List.set_cons_succ]
 refine du 18 113 (v:=?_) rfl (by kernel_rfl) (by kernel_rfl) (by kernel_rfl) (by kernel_rfl) (λ_ _ _ h=>h) (Or.inl ⟨by kernel_rfl,?_⟩) (by assumption) ?_;rotate_left
 ·(intro w dJ;(try dsimp only at dJ);go_simp;try(with_reducible rfl))
 try simp only[Act.put,List.setIfInBounds_toArray,List.set_cons_zero,List.set_cons_succ]
 refine du 19 114 (v:=?_) rfl (by kernel_rfl) (by kernel_rfl) (by kernel_rfl) (by kernel_rfl) (λ_ _ _ h=>h) (Or.inl ⟨by kernel_rfl,?_⟩) (by assumption) ?_;rotate_left
 ·(intro w dJ;(try dsimp only at dJ);go_simp;try(with_reducible rfl))
 try simp only[Act.put,List.setIfInBounds_toArray,List.set_cons_zero,List.set_cons_succ]
 refine du 20 115 (v:=?_) rfl (by kernel_rfl) (by kernel_rfl) (by kernel_rfl) (by kernel_rfl) (λ_ _ _ h=>h) (Or.inl ⟨by kernel_rfl,?_⟩) (by assumption) ?_;rotate_left
 ·(intro w dJ;(try dsimp only at dJ);go_simp;try(with_reducible rfl))
 try simp only[Act.put,List.setIfInBounds_toArray,List.set_cons_zero,List.set_cons_succ]
 refine du 21 116 (v:=?_) rfl (by kernel_rfl) (by kernel_rfl) (by kernel_rfl) (by kernel_rfl) (λ_ _ _ h=>h) (Or.inl ⟨by kernel_rfl,?_⟩) (by assumption) ?_;rotate_left
 ·(intro w dJ;(try dsimp only at dJ);go_simp;try(with_reducible rfl))
 try simp only[Act.put,List.setIfInBounds_toArray,List.set_cons_zero,List.set_cons_succ]
 refine du 22 117 (v:=?_) rfl (by kernel_rfl) (by kernel_rfl) (by kernel_rfl) (by kernel_rfl) (λ_ _ _ h=>h) (Or.inl ⟨by kernel_rfl,?_⟩) (by assumption) ?_;rotate_left
 ·(intro w dJ;(try dsimp only at dJ);go_simp;try(with_reducible rfl))
 try simp only[Act.put,List.setIfInBounds_toArray,List.set_cons_zero,List.set_cons_succ]
 refine du 23 118 (v:=?_) rfl (by kernel_rfl) (by kernel_rfl) (by kernel_rfl) (by kernel_rfl) (λ_ _ _ h=>h) (Or.inl ⟨by kernel_rfl,?_⟩) (by assumption) ?_;rotate_left
 ·(intro w dJ;(try dsimp only at dJ);go_simp;try(with_reducible rfl))
 try simp only[Act.put,List.setIfInBounds_toArray,List.set_cons_zero,List.set_cons_succ]
 refine du 24 119 (v:=?_) rfl (by kernel_rfl) (by kernel_rfl) (by kernel_rfl) (by kernel_rfl) (λ_ _ _ h=>h) (Or.inl ⟨by kernel_rfl,?_⟩) (by assumption) ?_;rotate_left
 ·(intro w dJ;(try dsimp only at dJ);go_simp;try(with_reducible rfl))
 try simp only[Act.put,List.setIfInBounds_toArray,List.set_cons_zero,List.set_cons_succ]
 refine du 25 120 (v:=?_) rfl (by kernel_rfl) (by kernel_rfl) (by kernel_rfl) (by kernel_rfl) (λ_ _ _ h=>h) (Or.inl ⟨by kernel_rfl,?_⟩) (by assumption) ?_;rotate_left
 ·(intro w dJ;(try dsimp only at dJ);go_simp;try(with_reducible rfl))
 try simp only[Act.put,List.setIfInBounds_toArray,List.set_cons_zero,List.set_cons_succ]
 refine du 26 121 (v:=?_) rfl (by kernel_rfl) (by kernel_rfl) (by kernel_rfl) (by kernel_rfl) (λ_ _ _ h=>h) (Or.inl ⟨by kernel_rfl,?_⟩) (by assumption) ?_;rotate_left
 ·(intro w dJ;(try dsimp only at dJ);go_simp;try(with_reducible rfl))
 try simp only[Act.put,List.setIfInBounds_toArray,List.set_cons_zero,List.set_cons_succ]
 refine wpAnyH_ready (rs:=[27]) (by kernel_rfl) (by simp) ?_;refine AllReadyH.cons rfl (λK hK=>?_) AllReadyH.nil;go_simp;go_at_call 308;refine HZ.o _ (λw2 s0 s1 s2 s3 s4 s5 aW=>?_);have fG:=qh aW;clear aW;go_wp2_with fail;refine hK.out _ _ (by go_keep) (λabF=>?_);clear hK K hHeld;try simp only[Act.put,List.setIfInBounds_toArray,List.set_cons_zero,List.set_cons_succ]
 refine du 28 123 (v:=?_) rfl (by kernel_rfl) (by kernel_rfl) (by kernel_rfl) (by kernel_rfl) (λ_ _ _ h=>h) (Or.inl ⟨by kernel_rfl,?_⟩) (by assumption) ?_;rotate_left
 ·(intro w dJ;(try dsimp only at dJ);go_simp;try(with_reducible rfl))
 try simp only[Act.put,List.setIfInBounds_toArray,List.set_cons_zero,List.set_cons_succ]
 refine du 29 124 (v:=?_) rfl (by kernel_rfl) (by kernel_rfl) (by kernel_rfl) (by kernel_rfl) (λ_ _ _ h=>h) (Or.inl ⟨by kernel_rfl,?_⟩) (by assumption) ?_;rotate_left
 ·(intro w dJ;(try dsimp only at dJ);go_simp;try(with_reducible rfl))
 try simp only[Act.put,List.setIfInBounds_toArray,List.set_cons_zero,List.set_cons_succ]
 refine du 30 125 (v:=undef) rfl (by kernel_rfl) (by kernel_rfl) (by kernel_rfl) (by kernel_rfl) (λ_ _ _ h=>h) (Or.inr ⟨by kernel_rfl,rfl⟩) (by assumption) ?_;try simp only[Act.put,List.setIfInBounds_toArray,List.set_cons_zero,List.set_cons_succ]
 refine du 31 126 (v:=undef) rfl (by kernel_rfl) (by kernel_rfl) (by kernel_rfl) (by kernel_rfl) (λ_ _ _ h=>h) (Or.inr ⟨by kernel_rfl,rfl⟩) (by assumption) ?_;try simp only[Act.put,List.setIfInBounds_toArray,List.set_cons_zero,List.set_cons_succ]
 refine du 32 127 (v:=undef) rfl (by kernel_rfl) (by kernel_rfl) (by kernel_rfl) (by kernel_rfl) (λ_ _ _ h=>h) (Or.inr ⟨by kernel_rfl,rfl⟩) (by assumption) ?_;try simp only[Act.put,List.setIfInBounds_toArray,List.set_cons_zero,List.set_cons_succ]
 refine du 33 128 (v:=undef) rfl (by kernel_rfl) (by kernel_rfl) (by kernel_rfl) (by kernel_rfl) (λ_ _ _ h=>h) (Or.inr ⟨by kernel_rfl,rfl⟩) (by assumption) ?_;try simp only[Act.put,List.setIfInBounds_toArray,List.set_cons_zero,List.set_cons_succ]
 refine du 34 129 (v:=undef) rfl (by kernel_rfl) (by kernel_rfl) (by kernel_rfl) (by kernel_rfl) (λ_ _ _ h=>h) (Or.inr ⟨by kernel_rfl,rfl⟩) (by assumption) ?_;try simp only[Act.put,List.setIfInBounds_toArray,List.set_cons_zero,List.set_cons_succ]
 refine du 35 130 (v:=undef) rfl (by kernel_rfl) (by kernel_rfl) (by kernel_rfl) (by kernel_rfl) (λ_ _ _ h=>h) (Or.inr ⟨by kernel_rfl,rfl⟩) (by assumption) ?_;try simp only[Act.put,List.setIfInBounds_toArray,List.set_cons_zero,List.set_cons_succ]
 refine du 36 131 (v:=undef) rfl (by kernel_rfl) (by kernel_rfl) (by kernel_rfl) (by kernel_rfl) (λ_ _ _ h=>h) (Or.inr ⟨by kernel_rfl,rfl⟩) (by assumption) ?_;try simp only[Act.put,List.setIfInBounds_toArray,List.set_cons_zero,List.set_cons_succ]
 refine du 37 132 (v:=undef) rfl (by kernel_rfl) (by kernel_rfl) (by kernel_rfl) (by kernel_rfl) (λ_ _ _ h=>h) (Or.inr ⟨by kernel_rfl,rfl⟩) (by assumption) ?_;try simp only[Act.put,List.setIfInBounds_toArray,List.set_cons_zero,List.set_cons_succ]
 refine du 38 133 (v:=undef) rfl (by kernel_rfl) (by kernel_rfl) (by kernel_rfl) (by kernel_rfl) (λ_ _ _ h=>h) (Or.inr ⟨by kernel_rfl,rfl⟩) (by assumption) ?_;try simp only[Act.put,List.setIfInBounds_toArray,List.set_cons_zero,List.set_cons_succ]
 refine du 39 134 (v:=?_) rfl (by kernel_rfl) (by kernel_rfl) (by kernel_rfl) (by kernel_rfl) (λ_ _ _ h=>h) (Or.inl ⟨by kernel_rfl,?_⟩) (by assumption) ?_;rotate_left
 ·(intro w dJ;(try dsimp only at dJ);go_simp;try(with_reducible rfl))
 try simp only[Act.put,List.setIfInBounds_toArray,List.set_cons_zero,List.set_cons_succ]
 refine du 40 4 (v:=?_) rfl (by kernel_rfl) (by kernel_rfl) (by kernel_rfl) (by kernel_rfl) (λ_ _ _ h=>h) (Or.inl ⟨by kernel_rfl,?_⟩) (by assumption) ?_;rotate_left
 ·(intro w dJ;(try dsimp only at dJ);go_simp;try(with_reducible rfl))
 try simp only[Act.put,List.setIfInBounds_toArray,List.set_cons_zero,List.set_cons_succ]
 refine wpAnyH_done (by kernel_rfl) ?_ _;all_goals
  go_wp2_with fail;exact HR.o _ fG.o
theorem VW(w:World)(ba bb:Nat)(hA:cX w ba 9)(hB:cX w bb 9)(a1:Option Addr)(mu:Nat)(c2:w.cell? ⟨ba,2,none⟩=some (.slice a1 0 mu))(e2:w.cell? ⟨bb,2,none⟩=some (.slice none 0 0))(x y:Value)(c3:w.cell? ⟨ba,3,none⟩=some x)(e3:w.cell? ⟨bb,3,none⟩=some y)
  (hy:∀w2,Below w.heap.size w w2->∀R:EW,(∀w',Below w2.heap.size w2 w'->R (.returned (.bool true)) w')->Calls prog 308 #[.slice a1 0 mu,.slice none 0 0,.func (.func 307) #[] #[]] w2 R)
  (r:Bool) (hx:qi x y w r) {R:EW} (hR:ph w r R):
  wv (.pointer (some ⟨ba,0,none⟩)) (.pointer (some ⟨bb,0,none⟩)) w R:=by
 have HR:=qh hR;have HX:=qh hy;have HF:=qh hx;obtain⟨yj,c0⟩:=hA;obtain⟨fF,e0⟩:=hB;have HZ:Hq (∀R:EW,(∀w',w'.cell? ⟨w.heap.size,0,none⟩=some (.pointer (some ⟨ba,0,none⟩))->w'.cell? ⟨w.heap.size+1,0,none⟩=some (.pointer (some ⟨bb,0,none⟩))->w'.cell? ⟨ba,2,none⟩=some (.slice a1 0 mu)->w'.cell? ⟨bb,2,none⟩=some (.slice none 0 0)->w'.cell? ⟨ba,3,none⟩=some x->w'.cell? ⟨bb,3,none⟩=some y->Below w.heap.size w w'->R (.returned (.bool true)) w')->Calls prog 308 #[.slice a1 0 mu,.slice none 0 0,.func (.func 307) #[] #[]] ((w.alloc (.cells #[.pointer (some ⟨ba,0,none⟩)] 107)).alloc (.cells #[.pointer (some ⟨bb,0,none⟩)] 107)).drew.drew R):=λR h=>by
  refine HX.o _ (bG w _ _).drew.drew _ (λw2 aW=>?_);have hB:=(bG w _ _).drew.drew.trans (aW.mono (by simp;omega));exact h w2 (av aW (Sk w _ _ _)) (av aW (Un w _ _ _)) (av hB c2) (av hB e2) (av hB c3) (av hB e3) hB
 clear hR hy HX hx;go_enter func249,ntmps249;go_wp2_with fail
 go_region
 go_wp2_with fail;go_region_held3(λw'=>w'.cell? ⟨w.heap.size,0,none⟩=some (.pointer (some ⟨ba,0,none⟩))/\w'.cell? ⟨w.heap.size+1,0,none⟩=some (.pointer (some ⟨bb,0,none⟩))/\w'.cell? ⟨ba,2,none⟩=some (.slice a1 0 mu)/\w'.cell? ⟨bb,2,none⟩=some (.slice none 0 0)/\w'.cell? ⟨ba,3,none⟩=some x/\w'.cell? ⟨bb,3,none⟩=some y) (go_keep)
  (first|(go_at_call 308;refine HZ.o _ (λw2 s0 s1 s2 s3 s4 s5 aW=>?_);have fG:=qh aW;clear aW)|(go_at_call 249;refine HF.o _ fG.o _ (λw3 cZ=>?_);have qd:=qh (fG.o.trans (cZ.mono fG.o.size));have s0:=av cZ s0;have s1:=av cZ s1;have s2:=av cZ s2;have s3:=av cZ s3;have s4:=av cZ s4;have s5:=av cZ s5;clear cZ))
 all_goals
  go_wp2_with fail;exact HR.o _ qd.o
theorem qi.mono{p q:Value}{w w1:World}{r:Bool}(h:qi p q w r)(hb:Below w.heap.size w w1):qi p q w1 r:=λw2 aW R hR=>h w2 (hb.trans (aW.mono hb.size)) R hR
theorem getD_eq{α:Type}{l:List α}{j:Nat}(h:j<l.length)(d:α):l.getD j d=l[j]:=by
 rw[List.getD_eq_getElem?_getD,List.getElem?_eq_getElem h];rfl
theorem nU{w w1:World}{b k:Nat}(hb:Below w.heap.size w w1)(h1:b<w.heap.size)(h2:w.cell? ⟨b,0,none⟩=some (.int .i64 (k:Nat))):cX w1 b k:=⟨nL h1 hb.size,av hb h2⟩
theorem oX{k:Nat}{names:List BA}{parts list of:List Tr}(h:eu (.mk k names parts list of)):names.length=parts.length/\parts.length<=1000000/\list.length<=1000000/\(1<=k/\k<=10)/\(k=8\/k=9->of.length=1)/\(k≠8->k≠9->of=[]):=by
 rw[eu]at h
 exact⟨h.2.1,h.2.2.2.2.2.2.1.1,h.2.2.2.2.2.2.1.2,h.1,h.2.2.1,h.2.2.2.1⟩
theorem oS{h:Prt.Hp}{k:Nat}{names:List BA}{parts list of:List Tr}{os:List Value}{ov:Value}(ho:of.length=1)(hr:br h of os)(hv:os=[]/\ov=.pointer none\/os=[ov]):rep h (gv (.mk k names parts list of)) ov:=by
 match of,ho with
 |[o],_=>
  rw[br]at hr
  obtain⟨p,Fy,rfl,h1,h2⟩:=hr;rw[br]at h2
  subst h2;rcases hv with⟨h3,_⟩|h3
  ·cases h3
  ·cases h3;exact h1
theorem Qd{ka kb:Nat}{na nb:List BA}{pa la oa pb lb ob:List Tr}(ha:eu (.mk ka na pa la oa))(hb:eu (.mk kb nb pb lb ob)):Ty.fits (.mk ka na pa la oa) (.mk kb nb pb lb ob)=
  if ka=5\/kb=5\/kb=6 then true
  else if ka=10 then !bn (λj=>!Ty.fits (la.getD j bJ) (.mk kb nb pb lb ob)) la.length
  else if kb=10 then bn (λj=>Ty.fits (.mk ka na pa la oa) (lb.getD j bJ)) lb.length
  else if ka≠kb then false
  else if ka=7 then !bn (λj=>match Ty.part na pa (nb.getD j ⟨#[]⟩)with|none=>true|some t=>!Ty.fits t (pb.getD j bJ)) pb.length
  else if ka=8 then Ty.fits (gv (.mk ka na pa la oa)) (gv (.mk kb nb pb lb ob))
  else if ka=9 then decide (la.length<=lb.length)&&!bn (λj=>!(Ty.fits (la.getD j bJ) (lb.getD j bJ)||Ty.fits (lb.getD j bJ) (la.getD j bJ))) la.length&&Ty.fits (gv (.mk ka na pa la oa)) (gv (.mk kb nb pb lb ob))
  else true:=K6 ha hb
theorem Bf(w:World):∀(N:Nat)(a b:Tr)(p q:Value),sz a+sz b<N->eu a->eu b->rep (Prt.hp w) a p->rep (Prt.hp w) b q->qi p q w (Ty.fits a b):=by
 intro N;induction N with
 |zero=>intro a b p q h;omega
 |succ N ih=>
  intro a b p q hN ha hb ra rb w1 hw R hR;have NU:∀(x y:Tr)(p q:Value),sz x+sz y<sz a+sz b->eu x->eu y->rep (Prt.hp w) x p->rep (Prt.hp w) y q->qi p q w (Ty.fits x y):=λx y p q h=>ih x y p q (by omega)
  have gl:∀{j:Nat},j<(aN a).length->sz ((aN a).getD j bJ)<sz a/\eu ((aN a).getD j bJ):=λh=>⟨dz h,cx ha h⟩
  have gm:∀{j:Nat},j<(aN b).length->sz ((aN b).getD j bJ)<sz b/\eu ((aN b).getD j bJ):=λh=>⟨dz h,cx hb h⟩
  have gp:∀{j:Nat},j<(Ty.partsOf b).length->sz ((Ty.partsOf b).getD j bJ)<sz b/\eu ((Ty.partsOf b).getD j bJ):=λh=>⟨jO h,jG hb h⟩
  have gq:∀{x:BA}{t:Tr},Ty.part (cC a) (Ty.partsOf a) x=some t->sz t<sz a/\eu t:=λh=>⟨rP h,r_ ha h⟩
  have so:Ty.kindOf a=8\/Ty.kindOf a=9->sz (gv a)<sz a/\eu (gv a):=λh=>⟨gO ha h,gS ha h⟩
  have sp:Ty.kindOf b=8\/Ty.kindOf b=9->sz (gv b)<sz b/\eu (gv b):=λh=>⟨gO hb h,gS hb h⟩
  obtain⟨ka,na,pa,la,oa⟩:=a;obtain⟨kb,nb,pb,lb,ob⟩:=b;obtain⟨ba,aeQ,xJ,yh,Wl,yN,adX,rfl,yj,c0,c1,c2,c3,Ko,WZ,Q7,sC,KR,Jq,Hk⟩:=js ra;obtain⟨bb,aa2,qk,xI,tP,Jw,afV,rfl,fF,e0,e1,e2,e3,vJ,CK,Ue,om,JM,Ri,Po⟩:=js rb;obtain⟨aaF,abt,ZN,abx,SD,Wu⟩:=oX ha;obtain⟨ae3,aee,ad8,ae5,Y0,agd⟩:=oX hb;have hA:cX w1 ba ka:=nU hw yj c0;have hB:cX w1 bb kb:=nU hw fF e0;have D9:∀r,Ty.fits (.mk ka na pa la oa) (.mk kb nb pb lb ob)=r->ph w1 r R:=λr h w2 aW=>h▸hR w2 aW
  have l1:=db KR;have l2:=db JM;have m2:=db Ue;dsimp only[Ty.kindOf,cC,Ty.partsOf,aN]at gl gm gp gq so sp;have fY:=Qd ha hb;by_cases h1:ka=5\/kb=5\/kb=6
  ·rw[if_pos h1]at fY
   exact Qj w1 ba bb ka kb hA hB h1 (D9 _ fY)
  rw[if_neg h1]at fY
  by_cases h2:ka=10
  ·rw[if_pos h2]at fY
   subst h2;refine Ts w1 ba bb kb hA hB (by omega) (by omega) xJ (av hw c2) _ (λw2 hx aW R2 An=>?_) (D9 _ fY);have kV:=hw.trans (aW.mono hw.size);rw[l1]at An
   refine we w2 xJ yN (ay sC kV) (by omega) 303 _ Tryz.call303 _ (λj hj w3 cZ R3 G'=>?_) An;have fK:j<la.length:=by omega
   obtain⟨g1,g2⟩:=gl fK;refine Nb w w3 (w1.heap.size+1) yN[j] _ _ (av cZ hx) ?_ (kV.trans (cZ.mono kV.size)) G';refine NU _ _ _ _ (by omega) g2 hb ?_ rb;rw[getD_eq fK];exact dn KR j fK hj
  rw[if_neg h2]at fY
  by_cases h3:kb=10
  ·rw[if_pos h3]at fY
   subst h3;refine TI w1 ba bb ka hA hB (by omega) (by omega) qk (av hw e2) _ (λw2 hx aW R2 An=>?_) (D9 _ fY);have kV:=hw.trans (aW.mono hw.size);rw[l2]at An
   refine we w2 qk Jw (ay om kV) (by omega) 304 _ Tryz.call304 _ (λj hj w3 cZ R3 G'=>?_) An;have fK:j<lb.length:=by omega
   obtain⟨g1,g2⟩:=gm fK;refine OT w w3 w1.heap.size Jw[j] _ _ (av cZ hx) ?_ (kV.trans (cZ.mono kV.size)) G';refine NU _ _ _ _ (by omega) ha g2 ra ?_;rw[getD_eq fK];exact dn JM j fK hj
  rw[if_neg h3]at fY
  by_cases h4:ka=kb;rotate_left
  ·rw[if_pos h4]at fY
   exact X4 w1 ba bb ka kb hA hB (by omega) (by omega) ⟨by omega,by omega,by omega⟩ h4 (D9 _ fY)
  rw[if_neg (by omega)]at fY
  subst h4;by_cases h7:ka=7
  ·rw[if_pos h7]at fY
   subst h7;refine aai w1 ba bb hA hB aa2 (av hw e1) _ (λw2 hx aW R2 An=>?_) (D9 _ fY);have kV:=hw.trans (aW.mono hw.size);rw[m2]at An
   refine My w2 aa2 nb tP (ay vJ kV) CK (by omega) 306 _ Tryz.call306 _ (λj hj w3 cZ R3 G'=>?_) An;have fK:j<pb.length:=by omega
   have yi:j<nb.length:=by omega
   obtain⟨g1,g2⟩:=gp fK;have Hn:=dn Ue j fK hj;obtain⟨pq,agp,_⟩:=e_ Hn;rw[agp]at Hn⊢
   rw[getD_eq yi]at G'
   have abE:=kV.trans (cZ.mono kV.size);refine Mq w w3 w1.heap.size (.mk 7 na pa la oa) _ nb[j] pq (λu=>Ty.fits u (pb.getD j bJ)) (av cZ hx) (by have:=aW.size;have:=cZ.size;have:=World.block_lt_of_cell? _ _ hx;dsimp only at this;omega) ra ha (λu q2 hu hq=>?_) abE G';obtain⟨g3,g4⟩:=gq hu;exact NU _ _ _ _ (by omega) g4 g2 hq (by rw[getD_eq fK];exact Hn)
  rw[if_neg h7]at fY
  by_cases h8:ka=8
  ·rw[if_pos h8]at fY
   subst h8;obtain⟨s1,s2⟩:=so (.inl rfl);obtain⟨s3,s4⟩:=sp (.inl rfl);exact aa0 w1 ba bb hA hB yh xI (av hw c3) (av hw e3) _ (qi.mono (NU _ _ _ _ (by omega) s2 s4 (oS (SD (.inl rfl)) Jq Hk) (oS (Y0 (.inl rfl)) Ri Po)) hw) (D9 _ fY)
  rw[if_neg h8]at fY
  by_cases h9:ka=9
  ·rw[if_pos h9]at fY
   subst h9;obtain⟨s1,s2⟩:=so (.inr rfl);obtain⟨s3,s4⟩:=sp (.inr rfl);have X_:=qi.mono (NU _ _ _ _ (by omega) s2 s4 (oS (SD (.inr rfl)) Jq Hk) (oS (Y0 (.inr rfl)) Ri Po)) hw;have r1:=sC;have r2:=om;obtain⟨a1,mu,rfl⟩:=ag sC;by_cases hle:la.length<=lb.length;rotate_left
   ·rw[decide_eq_false hle,Bool.false_and,Bool.false_and]at fY
    obtain⟨a2,m_,rfl⟩:=ag om;exact W_ w1 ba bb hA hB a1 a2 yN.length Jw.length mu m_ (av hw c2) (av hw e2) (by omega) (D9 _ fY)
   rw[decide_eq_true hle,Bool.true_and]at fY
   have wR:∀(a2:Option Addr)(m_:Nat),w.ownsRow 0 107 1 (.slice a2 yN.length m_) yN.length (Jw.take yN.length)->∀w2,Below w1.heap.size w1 w2->∀R2:EW,(∀w',Below w2.heap.size w2 w'->R2 (.returned (.bool (!bn (λj=>!(Ty.fits (la.getD j bJ) (lb.getD j bJ)||Ty.fits (lb.getD j bJ) (la.getD j bJ))) la.length))) w')->Calls prog 308 #[.slice a1 yN.length mu,.slice a2 yN.length m_,.func (.func 307) #[] #[]] w2 R2:=by
    intro a2 m_ ht w2 aW R2 An;have kV:=hw.trans (aW.mono hw.size);have kG: (Jw.take yN.length).length=yN.length:=by rw[List.length_take];omega
    rw[l1]at An
    refine CM w2 _ _ yN (Jw.take yN.length) (ay r1 kV) (by rw[kG];exact ay ht kV) (by omega) 307 Tryz.call307 (λj=>Ty.fits (la.getD j bJ) (lb.getD j bJ)||Ty.fits (lb.getD j bJ) (la.getD j bJ)) (λj hj fK w3 cZ R3 G'=>?_) (λw' iz=>?_)
    ·have yi:j<la.length:=by omega
     have Te:j<lb.length:=by omega
     have aeN:j<Jw.length:=by omega
     obtain⟨g1,g2⟩:=gl yi;obtain⟨g3,g4⟩:=gm Te;have x1:rep (Prt.hp w) (la.getD j bJ) yN[j]:=by rw[getD_eq yi];exact dn KR j yi hj
     have x2:rep (Prt.hp w) (lb.getD j bJ) (Jw.take yN.length)[j]:=by rw[getD_eq Te,List.getElem_take];exact dn JM j Te aeN
     exact LL w w3 _ _ _ _ (NU _ _ _ _ (by omega) g2 g4 x1 x2) (NU _ _ _ _ (by omega) g4 g2 x2 x1) (kV.trans (cZ.mono kV.size)) G'
    ·have:=An w' iz;rw[decide_eq_true kG.symm,Bool.true_and];exact this
   rcases om.2 with⟨rfl,h0⟩|⟨g,cap,cur,rfl,_,_,hcap,_⟩
   ·have aef:yN=[]:=List.eq_nil_of_length_eq_zero (by omega);subst aef;have xO:=wR none 0 ⟨by simp,.inl ⟨rfl,rfl⟩⟩;have lR:la.length=0:=by simp at l1;omega
    rw[lR]at xO fY
    rw[show bn _ 0=false from rfl,Bool.not_false]at xO fY
    rw[Bool.true_and]at fY
    exact VW w1 ba bb hA hB a1 mu (av hw c2) (av hw e2) yh xI (av hw c3) (av hw e3) xO _ X_ (D9 _ fY)
   ·have xO:=wR (some ⟨g,0,none⟩) cap (KL r2 (by omega));cases su:bn (λj=>!(Ty.fits (la.getD j bJ) (lb.getD j bJ)||Ty.fits (lb.getD j bJ) (la.getD j bJ))) la.length with
    |true=>
     rw[su]at xO fY
     rw[Bool.not_true,Bool.false_and]at fY
     exact VQ w1 ba bb hA hB a1 (some ⟨g,0,none⟩) yN.length Jw.length mu cap (av hw c2) (av hw e2) yh xI (av hw c3) (av hw e3) (by omega) hcap ⟨g,rfl⟩ xO (D9 _ fY)
    |false=>
     rw[su]at xO fY
     rw[Bool.not_false,Bool.true_and]at fY
     exact VU w1 ba bb hA hB a1 (some ⟨g,0,none⟩) yN.length Jw.length mu cap (av hw c2) (av hw e2) yh xI (av hw c3) (av hw e3) (by omega) hcap ⟨g,rfl⟩ xO _ X_ (D9 _ fY)
  rw[if_neg h9]at fY
  exact S1 w1 ba bb ka hA hB ⟨by omega,by omega,by omega⟩ ⟨h7,h8,h9⟩ (D9 _ fY)
theorem kO.mono{p q:Value}{w w1:World}{r:Bool}(h:kO p q w r)(hb:Below w.heap.size w w1):kO p q w1 r:=λw2 aW R hR=>h w2 (hb.trans (aW.mono hb.size)) R hR
theorem Ot{ka kb:Nat}{na nb:List BA}{pa la oa pb lb ob:List Tr}(ha:eu (.mk ka na pa la oa))(hb:eu (.mk kb nb pb lb ob)):Ty.alike (.mk ka na pa la oa) (.mk kb nb pb lb ob)=
  (decide (ka=kb)&&decide (pa.length=pb.length)&&decide (la.length=lb.length)
   &&!bn (λj=>!Ty.alike (la.getD j bJ) (lb.getD j bJ)) la.length
   &&!bn (λj=>match Ty.part nb pb (na.getD j ⟨#[]⟩)with|none=>true|some t=>!Ty.alike (pa.getD j bJ) t) pa.length
   &&(!decide (ka=8\/ka=9)||Ty.alike (gv (.mk ka na pa la oa)) (gv (.mk kb nb pb lb ob)))):=Gi ha hb
theorem Jn(w:World):∀(N:Nat)(a b:Tr)(p q:Value),sz a+sz b<N->eu a->eu b->rep (Prt.hp w) a p->rep (Prt.hp w) b q->kO p q w (Ty.alike a b):=by
 intro N;induction N with
 |zero=>intro a b p q h;omega
 |succ N ih=>
  intro a b p q hN ha hb ra rb w1 hw R hR;have NU:∀(x y:Tr)(p q:Value),sz x+sz y<sz a+sz b->eu x->eu y->rep (Prt.hp w) x p->rep (Prt.hp w) y q->kO p q w (Ty.alike x y):=λx y p q h=>ih x y p q (by omega)
  have gl:∀{j:Nat},j<(aN a).length->sz ((aN a).getD j bJ)<sz a/\eu ((aN a).getD j bJ):=λh=>⟨dz h,cx ha h⟩
  have gm:∀{j:Nat},j<(aN b).length->sz ((aN b).getD j bJ)<sz b/\eu ((aN b).getD j bJ):=λh=>⟨dz h,cx hb h⟩
  have gp:∀{j:Nat},j<(Ty.partsOf a).length->sz ((Ty.partsOf a).getD j bJ)<sz a/\eu ((Ty.partsOf a).getD j bJ):=λh=>⟨jO h,jG ha h⟩
  have gq:∀{x:BA}{t:Tr},Ty.part (cC b) (Ty.partsOf b) x=some t->sz t<sz b/\eu t:=λh=>⟨rP h,r_ hb h⟩
  have so:Ty.kindOf a=8\/Ty.kindOf a=9->sz (gv a)<sz a/\eu (gv a):=λh=>⟨gO ha h,gS ha h⟩
  have sp:Ty.kindOf b=8\/Ty.kindOf b=9->sz (gv b)<sz b/\eu (gv b):=λh=>⟨gO hb h,gS hb h⟩
  obtain⟨ka,na,pa,la,oa⟩:=a;obtain⟨kb,nb,pb,lb,ob⟩:=b;obtain⟨ba,aeQ,xJ,yh,Wl,yN,adX,rfl,yj,c0,c1,c2,c3,Ko,WZ,Q7,sC,KR,Jq,Hk⟩:=js ra;obtain⟨bb,aa2,qk,xI,tP,Jw,afV,rfl,fF,e0,e1,e2,e3,vJ,CK,Ue,om,JM,Ri,Po⟩:=js rb;obtain⟨aaF,abt,ZN,abx,SD,Wu⟩:=oX ha;obtain⟨ae3,aee,ad8,ae5,Y0,agd⟩:=oX hb;obtain⟨a1,mu,rfl⟩:=ag Ko;obtain⟨a2,m_,rfl⟩:=ag vJ;have hA:TAt w1 ba ka a1 Wl.length mu xJ yh:=TAt.below ⟨yj,c0,c1,c2,c3⟩ hw;have hB:TAt w1 bb kb a2 tP.length m_ qk xI:=TAt.below ⟨fF,e0,e1,e2,e3⟩ hw;have D9:∀r,Ty.alike (.mk ka na pa la oa) (.mk kb nb pb lb ob)=r->ph w1 r R:=λr h w2 aW=>h▸hR w2 aW
  have l1:=db KR;have l2:=db JM;have m1:=db Q7;dsimp only[Ty.kindOf,cC,Ty.partsOf,aN]at gl gm gp gq so sp;have fY:=Ot ha hb;by_cases h1:ka=kb;rotate_left
  ·exact QO w1 ba bb ka kb a1 a2 _ _ mu m_ xJ qk yh xI hA hB h1 (D9 _ (by rw[fY];simp[h1]))
  subst h1;by_cases h2:pa.length=pb.length;rotate_left
  ·exact S7 w1 ba bb ka a1 a2 _ _ mu m_ xJ qk yh xI hA hB (by omega) (D9 _ (by rw[fY];simp[h2]))
  have wR:∀w2,Below w1.heap.size w1 w2->∀R2:EW,(∀w',Below w2.heap.size w2 w'->R2 (.returned (.bool (decide (la.length=lb.length)&&!bn (λj=>!Ty.alike (la.getD j bJ) (lb.getD j bJ)) la.length))) w')->Calls prog 308 #[xJ,qk,.func (.func 301) #[] #[]] w2 R2:=by
   intro w2 aW R2 An;have kV:=hw.trans (aW.mono hw.size);rw[l1,l2]at An
   refine CM w2 _ _ yN Jw (ay sC kV) (ay om kV) (by omega) 301 Tryz.call301 (λj=>Ty.alike (la.getD j bJ) (lb.getD j bJ)) (λj hj fK w3 cZ R3 G'=>?_) An;have yi:j<la.length:=by omega
   have Te:j<lb.length:=by omega
   obtain⟨g1,g2⟩:=gl yi;obtain⟨g3,g4⟩:=gm Te;have x1:rep (Prt.hp w) (la.getD j bJ) yN[j]:=by rw[getD_eq yi];exact dn KR j yi hj
   have x2:rep (Prt.hp w) (lb.getD j bJ) Jw[j]:=by rw[getD_eq Te];exact dn JM j Te fK
   exact NU _ _ _ _ (by omega) g2 g4 x1 x2 w3 (kV.trans (cZ.mono kV.size)) R3 G'
  have Xx:tP.length=Wl.length:=by omega
  rw[decide_eq_true rfl,decide_eq_true h2,Bool.true_and,Bool.true_and]at fY
  rw[Xx]at hB
  cases Ya: (decide (la.length=lb.length)&&!bn (λj=>!Ty.alike (la.getD j bJ) (lb.getD j bJ)) la.length)with
  |false=>
   rw[Ya]at fY
   simp only[Ya]at wR;exact Rc w1 ba bb ka a1 a2 _ mu m_ xJ qk yh xI hA hB wR (D9 _ (by rw[fY];simp))
  |true=>
   rw[Ya,Bool.true_and]at fY
   simp only[Ya]at wR;rw[m1]at fY
   refine Q9 w1 ba bb ka a1 a2 mu m_ xJ qk yh xI na Wl hA hB (ay Ko hw) WZ (by omega) wR _ (λj hj fK=>?_) (λj hj=>?_) _ ?_ (D9 _ fY)
   ·intro w2 aW R2 An;have kV:=hw.trans (aW.mono hw.size);have yi:j<pa.length:=by omega
    refine DQ w w2 kV _ _ rb hb na[j] (λq w3 cZ hq=>An q w3 cZ ?_);dsimp only at hq;rw[getD_eq fK];cases Mh:Ty.part nb pb na[j]with
    |none=>
     rw[Mh]at hq
     exact .inl ⟨hq,rfl⟩
    |some u=>
     rw[Mh]at hq
     obtain⟨qb,eq,_⟩:=e_ hq;obtain⟨g1,g2⟩:=gp yi;obtain⟨g3,g4⟩:=gq Mh;refine .inr ⟨qb,_,eq,kO.mono (NU (pa.getD j bJ) u _ _ (by omega) g2 g4 ?_ hq) hw,rfl⟩;rw[getD_eq yi];exact dn Q7 j yi hj
   ·obtain⟨abd,e,_⟩:=e_ (dn Q7 j (by omega) hj);exact⟨abd,e⟩
   ·by_cases h8:ka=8\/ka=9
    ·have ho:=oS (k:=ka) (names:=na) (parts:=pa) (list:=la) (SD h8) Jq Hk;obtain⟨po,eo,_⟩:=e_ ho;obtain⟨s1,s2⟩:=so h8;obtain⟨s3,s4⟩:=sp h8;refine .inr ⟨po,eo,?_⟩;rw[decide_eq_true h8,Bool.not_true,Bool.false_or];exact kO.mono (NU _ _ _ _ (by omega) s2 s4 ho (oS (Y0 h8) Ri Po)) hw
    ·left;have YW:=Wu (by omega) (by omega);subst YW;rw[br]at Jq
     subst Jq;rcases Hk with⟨_,h⟩|h
     ·exact⟨h,by simp[h8]⟩
     ·cases h
end
section
open Ty (Tr)
def xF(w0:World)(h0:Prt.Hp)(t:Tr)(p:Value):Prop:=∀w,Below w0.heap.size w0 w->∀R:EW,
 (∀v ps w',Sat w w' [bY w,Prt.row 107 1 v ps.length ps]->br h0 (eX t) ps->R (.returned v) w')->Calls prog 298 #[p] w R
theorem uq{h:Prt.Hp}:∀{l m:List Tr}{ps qs:List Value},br h l ps->br h m qs->br h (l++m) (ps++qs)
 |[],m,ps,qs,h1,h2=>by rw[br]at h1;subst h1;exact h2
 |a::l,m,ps,qs,h1,h2=>by
  rw[br]at h1
  obtain⟨q,Fy,rfl,h3,h4⟩:=h1;show br h (a:: (l++m)) (q:: (Fy++qs));rw[br];exact⟨q,_,rfl,h3,uq h4 h2⟩
theorem IW{h:Prt.Hp}{l:List Tr}{ps:List Value}(hr:br h l ps):∀u∈ps,u.oneCell'=true:=by
 induction l generalizing ps with
 |nil=>rw[br]at hr;subst hr;simp
 |cons a l ih=>
  rw[br]at hr
  obtain⟨q,Fy,rfl,h3,h4⟩:=hr;intro u hu;rcases List.mem_cons.1 hu with rfl|hu
  ·obtain⟨b,rfl,_⟩:=e_ h3;rfl
  ·exact ih h4 u hu
theorem KN{v:Value}{ps qs:List Value}{n:Nat}{a:Prt.Hp}(hn:n=ps.length+qs.length)(h:Prt.row 107 1 v n (ps++qs) a):Prt.row 107 1 v (ps++qs).length (ps++qs) a:=by
 rw[List.length_append,<-hn];exact h
theorem LD(w0:World){h0:Prt.Hp}(Ab:Prt.le h0 (Prt.hp w0)):∀(N:Nat)(t:Tr),sz t<N->eu t->kM t->dK t<=1000000->∀p,rep h0 t p->xF w0 h0 t p:=by
 intro N;induction N with
 |zero=>intro t h;omega
 |succ N ih=>
  intro t hN aD RJ JT p qj w hw R hR;obtain⟨k,names,parts,list,of⟩:=t;have MN:=qj;obtain⟨b,pv,lv,ov,ps,ls,os,rfl,hb,c0,c1,c2,c3,_,_,_,cg,AQ,_⟩:=ny Ab qj;replace c0:=av hw c0;replace c2:=av hw c2;rw[eX]at hR
  by_cases hk:k=10
  ·rw[if_pos hk]at hR
   subst hk;have hle:=db AQ;rw[eu]at aD
   rw[kM]at RJ
   rw[dK]at JT
   have HR:=qh hR;have ik:=qh (ay cg hw);obtain⟨la,lc,rfl⟩:=ag cg;have ER:Hq (∀j(hj:j<list.length)(fK:j<ls.length),xF w0 h0 list[j] ls[j]):=λj hj fK=>
    ih list[j] (by have:=uT (gM hj) 10 names parts of;omega) (gQ aD.2.2.2.2.2.2.2.2.1 _ (gM hj)) (rR RJ.2.2.1 _ (gM hj)) (by have:=mF list j hj;omega) ls[j] (dn AQ j hj fK)
   have abD:Hq (∀j(hj:j<list.length),0<(eX list[j]).length):=λj hj=>yr _ (rR RJ.2.2.1 _ (gM hj))
   have Yu:=qh JT;have HW:=qh hw;have pG:ls.length<=1000000:=by have:=aD.2.2.2.2.2.2.1.2;omega
   have oJ:=qh hle;obtain⟨j0,tj,uA,uI,uy⟩:=info_parts tM;have h1:=(Sat.iN w).nil 107 1;have H1:=qh h1;clear Ab hR cg hN qj MN ih aD RJ JT AQ hle hw h1 c1 c3;go_enter func298,ntmps298;go_wp2_with fail;go_loopw [3,18] (λv i wr=>∃(j:Nat)(qs:List Value),i=.int .i64 j/\j<=ls.length/\Hq (Sat w wr [bY w,Prt.row 107 1 v qs.length qs])/\Hq (br h0 (bN (list.take j)) qs)) (λ_ i _=>ls.length-(intOf i).toNat)
   case atStart=>exact⟨0,[],rfl,by omega,H1.o,by show br _ (bN []) [];rw[bN,br]⟩
   case round=>
    obtain⟨j,qs,rfl,hj,hS,hQ⟩:=hrel;obtain⟨qa,qc,rfl⟩:=ag (hS.out.row 1);by_cases bz:j<ls.length
    ·obtain⟨gl,nK,e,rE,d0⟩:=iD (ay ik.o hS.out.aS) j bz;cases e;have fK:j<list.length:=by have:=oJ.o;omega
     have HI:=qh (ER.o j fK bz wr (HW.o.trans (hS.out.aS.mono HW.o.size)));have HT:=qh (List.take_succ_eq_append_getElem fK);have ig:=abD.o j fK;have DV:qs.length+(eX list[j]).length<=1000000:=by
      have h1:=db hQ.out;have h2:=kr (list.take j);have h3:=sH list[j];have h4:=mF list j fK;have:=Yu.o;omega
     generalize ls[j]=pj at*
     generalize list[j]=Lq at*
     have YN:=qh DV;have wQ:=qh ig;clear fK ig DV;go_wp2_with fail;refine HI.o _ (λv2 tP w2 h2 om=>?_);have gR:=db om;obtain⟨g2,Sw,rfl,_,Kq⟩:=(h2.row 1).form (by have:=wQ.o;omega);have h3:=hS.out.join h2;have Rx:=qh om;have H3:=qh h3;have cd:qs.length+tP.length<=1000000:=by have:=YN.o;omega
     have aW:0<tP.length:=by have:=wQ.o;omega
     clear h2 h3 om gR;go_wp2_with(at_builtin;go_loud(refine wpList_append_lies _ rfl (.tmp 22) (.tmp 24) 104 rfl 0 107 j0 _ 1 8 underlying104 tj uA uI uy rfl (by decide) _ _ qs (by rfl) (H3.o.row 1) ⟨g2,0,none⟩ tP.length Sw tP (by rfl) (by simp) (World.ownsRow.cells (H3.o.row 2) rfl) (IW Rx.o) (by omega) (by unfold maxLen;omega) (by omega) (by simp) w2.heap.size rfl ?_));intro g4 fH w4 cy bD gV o_;have h8:=(Sat.grow H3.o 1 rfl bD cy gV).pick [0,1];have h9:=h8.cQ (i:=1) rfl (Q:=Prt.row 107 1 (.slice (some ⟨g4,0,none⟩) (qs.length+tP.length) fH) (qs++tP).length (qs++tP)) (λ_ h=>KN rfl h);have H9:=qh h9;have P8:Hq (br h0 (bN (list.take (j+1))) (qs++tP)):=by show br _ _ _;rw[HT.o,vT];exact uq hQ.out Rx.o
     clear h8 h9 cy bD;go_wp2_with fail;go_roundw
     case rel=>exact⟨j+1,qs++tP,by go_num,by omega,H9.o,P8.o⟩
     case measure=>simp[intOf];omega
    ·have oE:j=list.length:=by have:=oJ.o;omega
     have P8:Hq (br h0 (bN list) qs):=by have:=hQ.out;rw[oE,List.take_length]at this;exact this
     clear oE;go_wp2_with fail;exact HR.o _ qs _ hS.out P8.o
  ·rw[if_neg hk]at hR
   have HR:=qh hR;have abe:=qh MN;have k1: ((k:Int) !=10)=true:=by simp;omega
   clear Ab hR MN qj ih aD RJ JT cg AQ hN;go_enter func298,ntmps298;go_wp2_with fail;refine HR.o _ [.pointer (some ⟨b,0,none⟩)] _ (((Sat.iN w).ar (.cells #[.pointer (some ⟨b,0,none⟩)] 107) w.heap.size).cQ (i:=1) rfl λ_ h=>lH h (by unfold maxLen;simp) rfl rfl) ?_;rw[br];exact⟨_,[],rfl,abe.o,by rw[br]⟩
end
end Go.Proofs.YtdlbhiaceheffabGreatDoor
