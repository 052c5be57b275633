/- Walks of show.TypeText, one for each kind. -/
import Derived.Deep.RegionLaw
import Derived.Test.YtdlbhiaceheffabGreatDoorP16
set_option linter.all false
set_option maxRecDepth 100000
set_option maxHeartbeats 4000000
namespace Go.Proofs.YtdlbhiaceheffabGreatDoor
open Go Go.RowKit Ty Tok ak Tryz Proofs.Tryz
section
open Ty (Tr)
theorem iY{a b:BA}{x y z:List UInt8}(ha:a=bs x)(hb:b=bs y)(hz:x++y=z)(hs:z.length≤1000000000):∃s:BA,s=bs z∧∀w:World,(Op.stringOp .add a b).run prog w=.ok (.string s) w:=⟨_,rfl,yQ ha hb hz hs⟩
theorem WB(w:World)(g cap L n of:Nat)(_:g<w.heap.size)(_:L≤cap)(_:L≤1000000)(hn:n<L)(fds:List (BA×Nat))(bU:List Nat)(fv lv:Value)(hA:RowAt w g n ⟨⟨7,fds,bU,of⟩,fv,lv⟩)
  (lB:w.ownsRow 0 141 2 fv fds.length (fds.flatMap cQ)) (lu:w.ownsRow 0 3 1 lv bU.length (bU.map aS)) (Rp:fds.length≤1000000) (tx:Nat→List UInt8) (A:Nat→List UInt8)
  (ht:∀j(hj:j<fds.length),sK (.slice (some ⟨g,0,none⟩) L cap) w fds[j].2 (tx j)) (a0:A 0=[123]) (a1:∀j(hj:j<fds.length),A (j+1)=A j++mI fds[j].1 (tx j)) (a2:∀j,j≤fds.length→(A j).length≤900000000) {R:EW}
  (hR:∀w',Below w.heap.size w w'→R (.returned (.string (bs (A fds.length++(if fds.length>0 then [32]else [])++[125])))) w'):
  Calls prog 64 #[.slice (some ⟨g,0,none⟩) L cap,.int .i64 (n:Nat)] w R:=by
 have HR:=qh hR;have HT:=qh ht;have OY:=qh a1;have Kf:=qh a2;have aa3:=qh lB;obtain⟨q0,q1,q2,q3⟩:=hA;obtain⟨fa,fc,rfl⟩:=ag lB;obtain⟨la,lc,rfl⟩:=ag lu;dsimp only at q0 q1 q2 q3;have h1:=(Sat.fw w).aj (.cells #[.int .i64 7,.slice fa fds.length fc,.slice la bU.length lc,.int .i64 of] 69) w.heap.size;have ll:=qh h1.aW;have N3:Hq (bs [123]=bs (A 0)):=by rw[a0];rfl
 clear hR ht a0 a1 a2 lB lu h1;go_in;go_wp2_with fail;go_loopw [6,20] (λs i wr=>∃k:Nat,s=.string (bs (A k))∧i=.int .i64 k∧k≤fds.length∧Hq (Sat w wr [bE w,ay w.heap.size (.cells #[.int .i64 7,.slice fa fds.length fc,.slice la bU.length lc,.int .i64 of] 69 (0,0))])) (λ_ i _=>fds.length-(intOf i).toNat)
 case atStart=>exact⟨0,congrArg Value.string N3.o,rfl,by omega,(Sat.fw w).aj _ w.heap.size⟩
 case round=>
  obtain⟨k,rfl,rfl,hk,hS⟩:=hrel;by_cases bm:k<fds.length
  ·obtain⟨gf,QR,e,Vt,d0,d1⟩:=J0 (az aa3.o hS.out.aW) k bm;cases e;have h7:=hS.out.aj (.cells #[.string fds[k].1,.int .i64 (fds[k].2:Nat)] 141) wr.heap.size;have HI:=qh (HT.o k bm _ h7.drew.aW);have Kw:=OY.o k bm;have vE:=Kf.o (k+1) (by omega);rw[Kw]at vE
   have ND:=qh Kw;generalize fds[k]=fd at*
   obtain⟨nm,ix⟩:=fd;dsimp only at d0 d1 HI Kw vE ND h7;have WY:=vE;rw[List.length_append]at vE
   unfold mI at vE;simp only[lzA,lzC,lzN]at vE;have U1:=qh vE;obtain⟨s1,e1,c1⟩:=iY (a:=⟨#[32]⟩) (b:=nm) (x:=[32]) (y:=nm.data.toList) (z:=32::nm.data.toList) rfl (Rw nm).symm rfl (by rw[List.length_cons];omega);obtain⟨s2,e2,c2⟩:=iY (a:=s1) (b:=⟨#[58,32]⟩) (y:=[58,32]) (z:=32:: (nm.data.toList++[58,32])) e1 rfl rfl (by simp only[lzA,lzC,lzN];omega);obtain⟨s3,e3,c3⟩:=iY (a:=s2) (b:=bs (tx k)) (z:=32:: (nm.data.toList++[58,32]++tx k)) e2 rfl rfl (by simp only[lzA,lzC,lzN];omega);obtain⟨s4,e4,c4⟩:=iY (a:=s3) (b:=⟨#[59]⟩) (y:=[59]) (z:=mI nm (tx k)) e3 rfl rfl (by unfold mI;simp only[lzA,lzC,lzN];omega);obtain⟨s5,e5,c5⟩:=iY (a:=bs (A k)) (b:=s4) (z:=A k++mI nm (tx k)) rfl e4 rfl (by omega);rw[←Kw]at e5
   have E5:=qh e5.symm;clear e1 e2 e3 e4 e5;have b0:=h7.cell 2 rfl 0 rfl;have b1:=h7.cell 2 rfl 1 rfl;have H7:=qh h7;clear Kw vE WY h7;go_wp2_with fail;go_region_held3(λw'=>w'.cell? ⟨wr.heap.size,0,none⟩=some (.string nm)∧w'.cell? ⟨wr.heap.size,1,none⟩=some (.int .i64 (ix:Nat))) (go_keep)
    (first|(go_at_call 64;refine HI.o _ (λw2 aI=>?_);have h2:=H7.o.drew.below aI;have z0:=h2.cell 2 rfl 0 rfl;have z1:=h2.cell 2 rfl 1 rfl;have H2:=qh (h2.pick [0,1]);clear h2 aI))
   all_goals
    go_wp2_with fail;go_roundw
    case rel=>exact⟨k+1,congrArg Value.string E5.out.symm,by go_num,by omega,H2.o⟩
    case measure=>simp[intOf];omega
  ·have nn:k=fds.length:=by omega
   subst nn;have x1:=hS.out.cell 1 rfl 1 rfl;have vE:=Kf.o _ (nR _);by_cases h0:0<fds.length
   ·have k0:decide ((0:Int)<fds.length)=true:=decide_eq_true (by omega);have k1:decide (0<fds.length)=true:=decide_eq_true h0;rw[if_pos h0]at HR
    obtain⟨s6,e6,c6⟩:=iY (a:=bs (A fds.length)) (b:=⟨#[32]⟩) (y:=[32]) (z:=A fds.length++[32]) rfl rfl rfl (by simp;omega);obtain⟨s7,e7,c7⟩:=iY (a:=s6) (b:=⟨#[125]⟩) (y:=[125]) (z:=A fds.length++[32]++[125]) e6 rfl rfl (by simp;omega);rw[←e7]at HR
    clear vE h0 e6 e7;go_wp2_with fail;exact HR.o _ hS.out.aW
   ·have k0:decide ((0:Int)<fds.length)=false:=decide_eq_false (by omega);have k1:decide (0<fds.length)=false:=decide_eq_false h0;rw[if_neg h0,List.append_nil]at HR
    obtain⟨s7,e7,c7⟩:=iY (a:=bs (A fds.length)) (b:=⟨#[125]⟩) (y:=[125]) (z:=A fds.length++[125]) rfl rfl rfl (by simp;omega);rw[←e7]at HR
    clear vE h0 e7;go_wp2_with fail;exact HR.o _ hS.out.aW
theorem VY(w:World)(g cap L n of:Nat)(_:g<w.heap.size)(_:L≤cap)(_:L≤1000000)(hn:n<L)(fds:List (BA×Nat))(bU:List Nat)(fv lv:Value)(hA:RowAt w g n ⟨⟨8,fds,bU,of⟩,fv,lv⟩)
  (lB:w.ownsRow 0 141 2 fv fds.length (fds.flatMap cQ)) (lu:w.ownsRow 0 3 1 lv bU.length (bU.map aS))
  (tx:List UInt8) (ht:sK (.slice (some ⟨g,0,none⟩) L cap) w of tx) (hs:tx.length≤900000000) {R:EW}
  (hR:∀w',Below w.heap.size w w'→R (.returned (.string (bs ([91]++tx++[93])))) w'):
  Calls prog 64 #[.slice (some ⟨g,0,none⟩) L cap,.int .i64 (n:Nat)] w R:=by
 have HR:=qh hR;obtain⟨q0,q1,q2,q3⟩:=hA;obtain⟨fa,fc,rfl⟩:=ag lB;obtain⟨la,lc,rfl⟩:=ag lu;dsimp only at q0 q1 q2 q3;have h1:=(Sat.fw w).aj (.cells #[.int .i64 8,.slice fa fds.length fc,.slice la bU.length lc,.int .i64 of] 69) w.heap.size;have HI:=qh (ht _ h1.aW);have HB:=qh h1.aW;obtain⟨s1,e1,c1⟩:=iY (a:=⟨#[91]⟩) (b:=bs tx) (x:=[91]) (z:=[91]++tx) rfl rfl rfl (by simp;omega);obtain⟨s2,e2,c2⟩:=iY (a:=s1) (b:=⟨#[93]⟩) (y:=[93]) (z:=[91]++tx++[93]) e1 rfl rfl (by simp;omega);rw[←e2]at HR
 clear hR ht h1 e1 e2 lB lu;go_in;go_wp2_with fail;refine HI.o _ (λw2 aI=>?_);have c8:=qh (HB.o.trans (aI.mono HB.o.size));clear aI;go_wp2_with fail;exact HR.o _ c8.o
theorem sK.below{v:Value}{w w1:World}{n:Nat}{r:List UInt8}(h:sK v w n r)(hb:Below w.heap.size w w1):sK v w1 n r:=
 λ_ h2 R hR=>h _ (hb.trans (h2.mono hb.size)) R hR
def Qm(v lv:Value)(w:World)(sep:BA)(un:Bool)(r:List UInt8):Prop:=∀w1,Below w.heap.size w w1→∀R:EW,(∀w2,Below w1.heap.size w1 w2→R (.returned (.string (bs r))) w2)→Calls prog 118 #[v,lv,.string sep,.bool un] w1 R
theorem ER(w:World)(g cap L:Nat)(hg:g<w.heap.size)(hc:L≤cap)(hL:L≤1000000)(bU:List Nat)(lv:Value)(KA:w.ownsRow 0 3 1 lv bU.length (bU.map aS))(Lx:bU.length≤1000000)(kd:Nat→Nat)(tx:Nat→List UInt8)(un:Bool)(sep:BA)
  (hk:∀j(hj:j<bU.length),bU[j]<L∧w.cell? ⟨g,bU[j]*4,none⟩=some (.int .i64 (kd j:Nat)))
  (ht:∀j(hj:j<bU.length),sK (.slice (some ⟨g,0,none⟩) L cap) w bU[j] (tx j)) (hb:∀j,j<bU.length→(tx j).length≤900000000)
  (hs: (gY sep.data.toList ((List.range bU.length).map (rz un bU.length kd tx))).length≤1000000000):
  Qm (.slice (some ⟨g,0,none⟩) L cap) lv w sep un (gY sep.data.toList ((List.range bU.length).map (rz un bU.length kd tx))):=λw1 h1 _ hR=>
 GA w1 g cap L (nL hg h1.size) hc hL bU lv (az KA h1) Lx kd tx un sep (λj hj=>⟨(hk j hj).1,aq h1 (hk j hj).2⟩) (λj hj=>(ht j hj).below h1) hb hs hR
theorem Sk(w:World)(g cap L n of:Nat)(_:g<w.heap.size)(_:L≤cap)(_:L≤1000000)(hn:n<L)(fds:List (BA×Nat))(bU:List Nat)(fv lv:Value)(hA:RowAt w g n ⟨⟨10,fds,bU,of⟩,fv,lv⟩)
  (lB:w.ownsRow 0 141 2 fv fds.length (fds.flatMap cQ)) (lu:w.ownsRow 0 3 1 lv bU.length (bU.map aS))
  (tx:List UInt8) (ht:Qm (.slice (some ⟨g,0,none⟩) L cap) lv w ⟨#[32,124,32]⟩ true tx) {R:EW}
  (hR:∀w',Below w.heap.size w w'→R (.returned (.string (bs tx))) w'):
  Calls prog 64 #[.slice (some ⟨g,0,none⟩) L cap,.int .i64 (n:Nat)] w R:=by
 have HR:=qh hR;obtain⟨q0,q1,q2,q3⟩:=hA;obtain⟨fa,fc,rfl⟩:=ag lB;obtain⟨la,lc,rfl⟩:=ag lu;dsimp only at q0 q1 q2 q3;have h1:=(Sat.fw w).aj (.cells #[.int .i64 10,.slice fa fds.length fc,.slice la bU.length lc,.int .i64 of] 69) w.heap.size;have HI:=qh (ht _ h1.aW);have HB:=qh h1.aW;clear hR ht h1 lB lu;go_in;go_wp2_with fail;refine HI.o _ (λw2 aI=>?_);have c8:=qh (HB.o.trans (aI.mono HB.o.size));clear aI;go_wp2_with fail;exact HR.o _ c8.o
theorem Wg(w:World)(g cap L n of:Nat)(_:g<w.heap.size)(_:L≤cap)(_:L≤1000000)(hn:n<L)(fds:List (BA×Nat))(bU:List Nat)(fv lv:Value)(hA:RowAt w g n ⟨⟨9,fds,bU,of⟩,fv,lv⟩)
  (lB:w.ownsRow 0 141 2 fv fds.length (fds.flatMap cQ)) (lu:w.ownsRow 0 3 1 lv bU.length (bU.map aS))
  (tx ty:List UInt8) (ht:Qm (.slice (some ⟨g,0,none⟩) L cap) lv w ⟨#[44,32]⟩ false tx) (hu:sK (.slice (some ⟨g,0,none⟩) L cap) w of ty) (hs:tx.length≤400000000) (VP:ty.length≤400000000) {R:EW}
  (hR:∀w',Below w.heap.size w w'→R (.returned (.string (bs ([40]++tx++[41,32,61,62,32]++ty)))) w'):
  Calls prog 64 #[.slice (some ⟨g,0,none⟩) L cap,.int .i64 (n:Nat)] w R:=by
 have HR:=qh hR;obtain⟨q0,q1,q2,q3⟩:=hA;obtain⟨fa,fc,rfl⟩:=ag lB;obtain⟨la,lc,rfl⟩:=ag lu;dsimp only at q0 q1 q2 q3;have h1:=(Sat.fw w).aj (.cells #[.int .i64 9,.slice fa fds.length fc,.slice la bU.length lc,.int .i64 of] 69) w.heap.size;have HZ:Hq (∀R:EW,(∀w',w'.cell? ⟨w.heap.size,2,none⟩=some (.slice la bU.length lc)→w'.cell? ⟨w.heap.size,3,none⟩=some (.int .i64 (of:Nat))→Below w.heap.size w w'→R (.returned (.string (bs tx))) w')→Calls prog 118 #[.slice (some ⟨g,0,none⟩) L cap,.slice la bU.length lc,.string ⟨#[44,32]⟩,.bool false] (w.alloc (.cells #[.int .i64 9,.slice fa fds.length fc,.slice la bU.length lc,.int .i64 of] 69)).drew R):=λR h=>by
  refine ht _ h1.drew.aW _ (λw2 aI=>?_);have h2:=h1.drew.below aI;exact h w2 (h2.cell 1 rfl 2 rfl) (h2.cell 1 rfl 3 rfl) h2.aW
 have HU:=qh hu;have z0:=h1.cell 1 rfl 2 rfl;have z1:=h1.cell 1 rfl 3 rfl;obtain⟨s1,e1,c1⟩:=iY (a:=⟨#[40]⟩) (b:=bs tx) (x:=[40]) (z:=[40]++tx) rfl rfl rfl (by simp;omega);obtain⟨s2,e2,c2⟩:=iY (a:=s1) (b:=⟨#[41,32,61,62,32]⟩) (y:=[41,32,61,62,32]) (z:=[40]++tx++[41,32,61,62,32]) e1 rfl rfl (by simp;omega);obtain⟨s3,e3,c3⟩:=iY (a:=s2) (b:=bs ty) (z:=[40]++tx++[41,32,61,62,32]++ty) e2 rfl rfl (by simp;omega);rw[←e3]at HR
 clear hR ht hu h1 e1 e2 e3 lB lu;go_in;go_wp2_with fail;go_region_held3(λw'=>w'.cell? ⟨w.heap.size,2,none⟩=some (.slice la bU.length lc)∧w'.cell? ⟨w.heap.size,3,none⟩=some (.int .i64 (of:Nat))) (go_keep)
  (first|(go_at_call 118;refine HZ.o _ (λw2 s0 s1 aI=>?_);have c8:=qh aI;clear aI)|(go_at_call 64;refine HU.o _ c8.o _ (λw3 dD=>?_);have cU:=qh (c8.o.trans (dD.mono c8.o.size));have s0:=aq dD s0;have s1:=aq dD s1;clear dD))
 all_goals
  go_wp2_with fail;exact HR.o _ cU.o
theorem SB(w:World)(g cap L n of:Nat)(_:g<w.heap.size)(_:L≤cap)(_:L≤1000000)(hn:n<L)(fds:List (BA×Nat))(bU:List Nat)(fv lv:Value)(hA:RowAt w g n ⟨⟨1,fds,bU,of⟩,fv,lv⟩)
  (lB:w.ownsRow 0 141 2 fv fds.length (fds.flatMap cQ)) (lu:w.ownsRow 0 3 1 lv bU.length (bU.map aS)) {R:EW}
  (hR:∀w',Below w.heap.size w w'→R (.returned (.string ⟨#[110,117,109]⟩)) w'):
  Calls prog 64 #[.slice (some ⟨g,0,none⟩) L cap,.int .i64 (n:Nat)] w R:=by
 have HR:=qh hR;obtain⟨q0,q1,q2,q3⟩:=hA;obtain⟨fa,fc,rfl⟩:=ag lB;obtain⟨la,lc,rfl⟩:=ag lu;dsimp only at q0 q1 q2 q3;clear hR lB lu;go_in;go_wp2_with fail;refine HR.o _ ?_;repeat' (first|exact bR _ _|apply Below.drew|apply Below.setCell|apply Below.alloc|(simp;done)|(simp;omega)|omega)
theorem SU(w:World)(g cap L n of:Nat)(_:g<w.heap.size)(_:L≤cap)(_:L≤1000000)(hn:n<L)(fds:List (BA×Nat))(bU:List Nat)(fv lv:Value)(hA:RowAt w g n ⟨⟨2,fds,bU,of⟩,fv,lv⟩)
  (lB:w.ownsRow 0 141 2 fv fds.length (fds.flatMap cQ)) (lu:w.ownsRow 0 3 1 lv bU.length (bU.map aS)) {R:EW}
  (hR:∀w',Below w.heap.size w w'→R (.returned (.string ⟨#[98,111,111,108]⟩)) w'):
  Calls prog 64 #[.slice (some ⟨g,0,none⟩) L cap,.int .i64 (n:Nat)] w R:=by
 have HR:=qh hR;obtain⟨q0,q1,q2,q3⟩:=hA;obtain⟨fa,fc,rfl⟩:=ag lB;obtain⟨la,lc,rfl⟩:=ag lu;dsimp only at q0 q1 q2 q3;clear hR lB lu;go_in;go_wp2_with fail;refine HR.o _ ?_;repeat' (first|exact bR _ _|apply Below.drew|apply Below.setCell|apply Below.alloc|(simp;done)|(simp;omega)|omega)
theorem Tz(w:World)(g cap L n of:Nat)(_:g<w.heap.size)(_:L≤cap)(_:L≤1000000)(hn:n<L)(fds:List (BA×Nat))(bU:List Nat)(fv lv:Value)(hA:RowAt w g n ⟨⟨3,fds,bU,of⟩,fv,lv⟩)
  (lB:w.ownsRow 0 141 2 fv fds.length (fds.flatMap cQ)) (lu:w.ownsRow 0 3 1 lv bU.length (bU.map aS)) {R:EW}
  (hR:∀w',Below w.heap.size w w'→R (.returned (.string ⟨#[116,101,120,116]⟩)) w'):
  Calls prog 64 #[.slice (some ⟨g,0,none⟩) L cap,.int .i64 (n:Nat)] w R:=by
 have HR:=qh hR;obtain⟨q0,q1,q2,q3⟩:=hA;obtain⟨fa,fc,rfl⟩:=ag lB;obtain⟨la,lc,rfl⟩:=ag lu;dsimp only at q0 q1 q2 q3;clear hR lB lu;go_in;go_wp2_with fail;refine HR.o _ ?_;repeat' (first|exact bR _ _|apply Below.drew|apply Below.setCell|apply Below.alloc|(simp;done)|(simp;omega)|omega)
theorem SC(w:World)(g cap L n of:Nat)(_:g<w.heap.size)(_:L≤cap)(_:L≤1000000)(hn:n<L)(fds:List (BA×Nat))(bU:List Nat)(fv lv:Value)(hA:RowAt w g n ⟨⟨4,fds,bU,of⟩,fv,lv⟩)
  (lB:w.ownsRow 0 141 2 fv fds.length (fds.flatMap cQ)) (lu:w.ownsRow 0 3 1 lv bU.length (bU.map aS)) {R:EW}
  (hR:∀w',Below w.heap.size w w'→R (.returned (.string ⟨#[110,117,108,108]⟩)) w'):
  Calls prog 64 #[.slice (some ⟨g,0,none⟩) L cap,.int .i64 (n:Nat)] w R:=by
 have HR:=qh hR;obtain⟨q0,q1,q2,q3⟩:=hA;obtain⟨fa,fc,rfl⟩:=ag lB;obtain⟨la,lc,rfl⟩:=ag lu;dsimp only at q0 q1 q2 q3;clear hR lB lu;go_in;go_wp2_with fail;refine HR.o _ ?_;repeat' (first|exact bR _ _|apply Below.drew|apply Below.setCell|apply Below.alloc|(simp;done)|(simp;omega)|omega)
theorem Sz(w:World)(g cap L n of:Nat)(_:g<w.heap.size)(_:L≤cap)(_:L≤1000000)(hn:n<L)(fds:List (BA×Nat))(bU:List Nat)(fv lv:Value)(hA:RowAt w g n ⟨⟨5,fds,bU,of⟩,fv,lv⟩)
  (lB:w.ownsRow 0 141 2 fv fds.length (fds.flatMap cQ)) (lu:w.ownsRow 0 3 1 lv bU.length (bU.map aS)) {R:EW}
  (hR:∀w',Below w.heap.size w w'→R (.returned (.string ⟨#[97,110,121]⟩)) w'):
  Calls prog 64 #[.slice (some ⟨g,0,none⟩) L cap,.int .i64 (n:Nat)] w R:=by
 have HR:=qh hR;obtain⟨q0,q1,q2,q3⟩:=hA;obtain⟨fa,fc,rfl⟩:=ag lB;obtain⟨la,lc,rfl⟩:=ag lu;dsimp only at q0 q1 q2 q3;clear hR lB lu;go_in;go_wp2_with fail;refine HR.o _ ?_;repeat' (first|exact bR _ _|apply Below.drew|apply Below.setCell|apply Below.alloc|(simp;done)|(simp;omega)|omega)
theorem Td(w:World)(g cap L n of:Nat)(_:g<w.heap.size)(_:L≤cap)(_:L≤1000000)(hn:n<L)(fds:List (BA×Nat))(bU:List Nat)(fv lv:Value)(hA:RowAt w g n ⟨⟨6,fds,bU,of⟩,fv,lv⟩)
  (lB:w.ownsRow 0 141 2 fv fds.length (fds.flatMap cQ)) (lu:w.ownsRow 0 3 1 lv bU.length (bU.map aS)) {R:EW}
  (hR:∀w',Below w.heap.size w w'→R (.returned (.string ⟨#[117,110,107,110,111,119,110]⟩)) w'):
  Calls prog 64 #[.slice (some ⟨g,0,none⟩) L cap,.int .i64 (n:Nat)] w R:=by
 have HR:=qh hR;obtain⟨q0,q1,q2,q3⟩:=hA;obtain⟨fa,fc,rfl⟩:=ag lB;obtain⟨la,lc,rfl⟩:=ag lu;dsimp only at q0 q1 q2 q3;clear hR lB lu;go_in;go_wp2_with fail;refine HR.o _ ?_;repeat' (first|exact bR _ _|apply Below.drew|apply Below.setCell|apply Below.alloc|(simp;done)|(simp;omega)|omega)
theorem Ty.td{l:List Tr}{t:Tr}(h:t∈l):dw t≤bw l:=by
 induction l with
 |nil=>simp at h
 |cons a l ih=>
  rw[bw];rcases List.mem_cons.1 h with rfl|h
  ·omega
  ·have:=ih h;omega
theorem tm{α:Type}{l:List α}{d:α}{j:Nat}(h:j<l.length):l.getD j d=l[j]:=by simp[List.getD,List.getElem?_eq_getElem h]
theorem xe(bU:List Nat)(kd:Nat→Nat)(ts:List (List UInt8))(h:bU.length=ts.length): (List.range bU.length).map (rz false bU.length kd λj=>ts.getD j [])=ts:=by
 apply List.ext_getElem
 ·simp[h]
 ·intro i h1 h2;simp only[List.getElem_map,List.getElem_range,rz];exact tm h2
theorem Bg(bU:List Nat)(ks:List Nat)(ts:List (List UInt8))(h:bU.length=ts.length): (List.range bU.length).map (rz true bU.length (λj=>ks.getD j 0) λj=>ts.getD j [])=CJ ks ts:=by
 unfold CJ;rw[h];rfl
theorem yn(w:World)(v:Value)(rows:List TyRow)(ts:List Ty.Ty)(zi:rows.map TyRow.t=ts)(hw:Wf ts)(hlen:ts.length≤1000000)(DL:TyRd w v rows):∀(N n:Nat),n<N→n<ts.length→dH (Ty.den ts n)→dw (Ty.den ts n)≤1000000→sK v w n (Ty.text (Ty.den ts n)):=by
 intro N;induction N with
 |zero=>intro n h;omega
 |succ N ih=>
  intro n hN hn Na Po w1 Xf R hR;have Oh:=λ(i:Nat)(hi:i<ts.length)=>(DL.below Xf).look zi hi
  obtain⟨g,cap,x,rfl,hg,hcap,Hl,hx,hA,lB,lu⟩:=Oh n hn;have wx:=hw n _ hx;have da:=qO hw hx;have aF:=xD hw _ n (Nat.lt_succ_self _) hn;have jK:=qA _ aF Na;obtain⟨⟨kd,fds,bU,of⟩,fv,lv⟩:=x;dsimp only at lB lu wx da;rw[da]at Na Po jK hR aF
  have lx:=wx.lens;have kx:=wx.kind;dsimp only at lx kx;have key:∀i,i<n→dH (Ty.den ts i)→dw (Ty.den ts i)≤1000000→sK (.slice (some ⟨g,0,none⟩) ts.length cap) w1 i (Ty.text (Ty.den ts i)):=λi hi h1 h2=>(ih i (by omega) (by omega) h1 h2).below Xf
  replace jK:=nT jK (Nat.mul_le_mul_left 40 Po);rw[dH]at Na
  have KP:=Po;rw[dw]at KP
  rw[dP]at aF
  obtain⟨_,_,_,_,_,_,_,acW,adJ,adA⟩:=aF;have HP:∀j(hj:j<fds.length),dH (Ty.den ts fds[j].2)∧dw (Ty.den ts fds[j].2)≤1000000:=λj hj=>by
   have hm:Ty.den ts fds[j].2∈fds.map λf=>Ty.den ts f.2:=List.mem_map.2 ⟨fds[j],gM _,rfl⟩
   exact⟨jf Na.2.1 _ hm,by have:=td hm;omega⟩
  have HL:∀j(hj:j<bU.length),dH (Ty.den ts bU[j])∧dw (Ty.den ts bU[j])≤1000000:=λj hj=>by
   have hm:Ty.den ts bU[j]∈bU.map (Ty.den ts):=List.mem_map.2 ⟨bU[j],gM _,rfl⟩;exact⟨jf Na.2.2.1 _ hm,by have:=td hm;omega⟩
  have HK:∀j(hj:j<bU.length),bU[j]<ts.length∧w1.cell? ⟨g,bU[j]*4,none⟩=some (.int .i64 (((bU.map λi=>Ty.kindOf (Ty.den ts i)).getD j 0:Nat))):=λj hj=>by
   have hl:bU[j]<ts.length:=by have:=wx.list bU[j] (gM _);omega
   obtain⟨g2,qf,y,e,_,_,_,hy,hB,_,_⟩:=Oh _ hl;cases e;refine⟨hl,?_⟩;rw[hB.q0,tm (by simpa using hj),List.getElem_map,qO hw hy];rfl
  have HT:∀j(hj:j<bU.length),sK (.slice (some ⟨g,0,none⟩) ts.length cap) w1 bU[j] ((Ty.texts (bU.map (Ty.den ts))).getD j []):=λj hj=>by
   have e: (Ty.texts (bU.map (Ty.den ts))).getD j []=Ty.text (Ty.den ts bU[j]):=by
    rw[ic,tm (by simpa using hj),List.getElem_map,List.getElem_map]
   rw[e];exact key _ (wx.list bU[j] (gM _)) (HL j hj).1 (HL j hj).2
  have F9:∀j,j<bU.length→((Ty.texts (bU.map (Ty.den ts))).getD j []).length≤900000000:=λj hj=>by
   have e: (Ty.texts (bU.map (Ty.den ts))).getD j []=Ty.text (Ty.den ts bU[j]):=by
    rw[ic,tm (by simpa using hj),List.getElem_map,List.getElem_map]
   rw[e];have hl:bU[j]<ts.length:=by have:=wx.list bU[j] (gM _);omega
   have:=qA _ (xD hw _ bU[j] (Nat.lt_succ_self _) hl) (HL j hj).1;have:=(HL j hj).2;omega
  have xZ:bU.length=(Ty.texts (bU.map (Ty.den ts))).length:=by rw[ic];simp
  have hk:kd=1∨kd=2∨kd=3∨kd=4∨kd=5∨kd=6∨kd=7∨kd=8∨kd=9∨kd=10:=by omega
  rcases hk with rfl|rfl|rfl|rfl|rfl|rfl|rfl|rfl|rfl|rfl
  ·rw[Ty.text]at hR
   exact SB w1 g cap ts.length n of hg hcap hlen hn fds bU fv lv hA lB lu (λw' hb=>hR w' hb)
  ·rw[Ty.text]at hR
   exact SU w1 g cap ts.length n of hg hcap hlen hn fds bU fv lv hA lB lu (λw' hb=>hR w' hb)
  ·rw[Ty.text]at hR
   exact Tz w1 g cap ts.length n of hg hcap hlen hn fds bU fv lv hA lB lu (λw' hb=>hR w' hb)
  ·rw[Ty.text]at hR
   exact SC w1 g cap ts.length n of hg hcap hlen hn fds bU fv lv hA lB lu (λw' hb=>hR w' hb)
  ·rw[Ty.text]at hR
   exact Sz w1 g cap ts.length n of hg hcap hlen hn fds bU fv lv hA lB lu (λw' hb=>hR w' hb)
  ·rw[Ty.text]at hR
   exact Td w1 g cap ts.length n of hg hcap hlen hn fds bU fv lv hA lB lu (λw' hb=>hR w' hb)
  ·have v7: (Ty.texts (fds.map λf=>Ty.den ts f.2)).length=fds.length:=by rw[ic];simp
   have Y5:∀j(hj:j<fds.length),([123]++fg ((fds.map Prod.fst).take (j+1)) ((Ty.texts (fds.map λf=>Ty.den ts f.2)).take (j+1)):List UInt8)=([123]++fg ((fds.map Prod.fst).take j) ((Ty.texts (fds.map λf=>Ty.den ts f.2)).take j))++mI fds[j].1 (Ty.text (Ty.den ts fds[j].2)):=λj hj=>by
    rw[List.take_succ_eq_append_getElem (by simpa using hj),List.take_succ_eq_append_getElem (by omega),qk _ _ _ _ (by simp;omega),List.append_assoc];congr 3
    ·simp
    ·simp[ic]
   have LB:∀d j,j+d=fds.length→([123]++fg ((fds.map Prod.fst).take j) ((Ty.texts (fds.map λf=>Ty.den ts f.2)).take j):List UInt8).length≤([123]++fg ((fds.map Prod.fst).take fds.length) ((Ty.texts (fds.map λf=>Ty.den ts f.2)).take fds.length):List UInt8).length:=by
    intro d;induction d with
    |zero=>intro j h;rw[show j=fds.length by omega];exact nR _
    |succ d acv=>
     intro j h;have h1:=acv (j+1) (by omega);rw[Y5 j (by omega),List.length_append]at h1
     omega
   have IY: ([123]++fg ((fds.map Prod.fst).take fds.length) ((Ty.texts (fds.map λf=>Ty.den ts f.2)).take fds.length):List UInt8)=[123]++fg (fds.map Prod.fst) (Ty.texts (fds.map λf=>Ty.den ts f.2)):=by
    rw[List.take_of_length_le (by simp),List.take_of_length_le (by omega)]
   rw[Ty.text,if_pos rfl,List.length_map]at hR jK
   refine WB w1 g cap ts.length n of hg hcap hlen hn fds bU fv lv hA lB lu lx.1 (λj=>if h:j<fds.length then Ty.text (Ty.den ts fds[j].2)else []) (λj=>[123]++fg ((fds.map Prod.fst).take j) ((Ty.texts (fds.map λf=>Ty.den ts f.2)).take j)) (λj hj=>?_) rfl (λj hj=>?_) (λj hj=>?_) (λw' hb=>?_)
   ·rw[dif_pos hj];exact key _ (wx.fields fds[j] (gM _)) (HP j hj).1 (HP j hj).2
   ·rw[dif_pos hj];exact Y5 j hj
   ·have h1:=LB (fds.length-j) j (by omega);rw[IY]at h1
    simp only[List.length_append]at h1 jK⊢;omega
   ·have:=hR w' hb;rw[←IY]at this
    exact this
  ·have vE:=td (l:=[Ty.den ts of]) (List.mem_singleton.2 rfl);rw[if_pos (.inl rfl)]at Na KP hR jK
   have ho:of<n:=wx.of (.inl rfl);have Vj:dH (Ty.den ts of):=jf Na.2.2.2 _ (List.mem_singleton.2 rfl);rw[Ty.text,if_neg (by decide),if_pos rfl]at hR jK
   simp only[Ty.texts,List.headD_cons]at hR jK;refine VY w1 g cap ts.length n of hg hcap hlen hn fds bU fv lv hA lB lu (Ty.text (Ty.den ts of)) (key of ho Vj (by omega)) ?_ hR;simp only[lzA,lzC,lzN]at jK;omega
  ·have vE:=td (l:=[Ty.den ts of]) (List.mem_singleton.2 rfl);rw[if_pos (.inr rfl)]at Na KP hR jK
   have ho:of<n:=wx.of (.inr rfl);have Vj:dH (Ty.den ts of):=jf Na.2.2.2 _ (List.mem_singleton.2 rfl);rw[Ty.text,if_neg (by decide),if_neg (by decide),if_pos rfl]at hR jK
   simp only[Ty.texts,List.headD_cons]at hR jK;have eh:=oz [44,32] (Ty.texts (bU.map (Ty.den ts)));have Nr:=ER w1 g cap ts.length hg hcap hlen bU lv lu lx.2 (λj=>(bU.map λi=>Ty.kindOf (Ty.den ts i)).getD j 0) (λj=>(Ty.texts (bU.map (Ty.den ts))).getD j []) false ⟨#[44,32]⟩ HK HT F9 (by
    rw[xe _ _ _ xZ];simp only[lzA,lzC,lzN]at jK;show(gY [44,32] _).length≤_;omega)
   rw[xe _ _ _ xZ]at Nr
   simp only[lzA,lzC,lzN]at jK;exact Wg w1 g cap ts.length n of hg hcap hlen hn fds bU fv lv hA lB lu (gY [44,32] (Ty.texts (bU.map (Ty.den ts)))) (Ty.text (Ty.den ts of)) Nr (key of ho Vj (by omega)) (by omega) (by omega) hR
  ·rw[Ty.text,if_neg (by decide),if_neg (by decide),if_neg (by decide),if_pos rfl]at hR jK
   have Nr:=ER w1 g cap ts.length hg hcap hlen bU lv lu lx.2 (λj=>(bU.map λi=>Ty.kindOf (Ty.den ts i)).getD j 0) (λj=>(Ty.texts (bU.map (Ty.den ts))).getD j []) true ⟨#[32,124,32]⟩ HK HT F9 (by
    rw[Bg _ _ _ xZ];show(gY [32,124,32] _).length≤_;have e: (bU.map λi=>Ty.kindOf (Ty.den ts i))=(bU.map (Ty.den ts)).map Ty.kindOf:=by simp
    rw[e];omega)
   rw[Bg _ _ _ xZ]at Nr
   have e: (bU.map λi=>Ty.kindOf (Ty.den ts i))=(bU.map (Ty.den ts)).map Ty.kindOf:=by simp
   rw[e]at Nr
   exact Sk w1 g cap ts.length n of hg hcap hlen hn fds bU fv lv hA lB lu _ Nr hR
end
def jH(wB:World)(Fr:As):Prop:=∀(w:World)(L:List As)(i:Nat),Sat wB w L→L[i]?=some Fr→Below wB.heap.size wB w
theorem jH.fw(wB:World):jH wB (bE wB):=λw L i h hi=>by
 have h1:=h.at i hi;have h2:Sat wB w [bE wB]:=h1.pick [1];exact h2.aW
theorem jH.ah{wB:World}{Fr:As}{M:List As}(h:jH wB Fr):jH wB (ah (Fr::M)):=λw L i hs hi=>by
 have h1:=hs.unpack hi;refine h w _ (L.eraseIdx i).length h1 ?_;rw[List.getElem?_append_right (Nat.le_refl _)];simp
section
variable {w0 w:World} {Fr:As} {wb:Nat} {nv tv:Value} {main:Int} {ind:Nat} {out:List UInt8}
end
structure PB(wB:World)(nv tv:Value)(pg:Ty.Pg):Prop where
 nd:∃rows,rows.map NdRow.t=pg.ns∧NRd wB nv rows
 ty:∃rows,rows.map TyRow.t=pg.ts∧TyRd wB tv rows
 ok:PgOk pg
theorem NdAt.below{w w':World}{g n:Nat}{t:Ty.Nd}{lv:Value}(h:NdAt w g n t lv)(hb:Below w.heap.size w w'):NdAt w' g n t lv:=
 ⟨aq hb h.q0,aq hb h.q1,aq hb h.q2,aq hb h.q3,aq hb h.q4,aq hb h.q5,aq hb h.q6,aq hb h.q7,aq hb h.q8⟩
theorem PB.look{wB:World}{nv tv:Value}{pg:Ty.Pg}(h:PB wB nv tv pg){n:Nat}{nd:Ty.Nd}(hn:pg.ns[n]?=some nd):
  ∃(g cap:Nat)(lv:Value),nv=.slice (some ⟨g,0,none⟩) pg.ns.length cap∧n<pg.ns.length∧g<wB.heap.size∧pg.ns.length≤cap∧cap≤maxLen∧NdAt wB g n nd lv∧wB.ownsRow 0 3 1 lv nd.list.length (nd.list.map aS)∧NdOk nd pg.ts∧pg.ns.length≤1200:=by
 obtain⟨rows,hr,DL⟩:=h.nd;have hl:n<pg.ns.length:=by
  rcases Nat.lt_or_ge n pg.ns.length with hl|hl
  ·exact hl
  ·rw[List.getElem?_eq_none hl]at hn;cases hn
 obtain⟨g,cap,lv,e,h1,h2,h3,h4,h5⟩:=DL.look hr hl;rw[List.getElem?_eq_getElem hl]at hn
 cases hn;exact⟨g,cap,lv,e,hl,h1,h2,h3,h4,h5,h.ok.ns _ (gM _),h.ok.kO⟩
section
variable {wB w:World} {Fr:As} {wb:Nat} {nv tv:Value} {pg:Ty.Pg} {main:Int} {ind:Nat} {out:List UInt8}
end
namespace Ty
structure Ck where
 of:Nat→Option Tr
 has:Nat→Option Tr
def jR(k:Nat):Tr:=.mk k [] [] [] []
def ek(ts:List Ty)(z:Int):Option Tr:=if z<0 then none else some (den ts z.toNat)
def yo(t:Option Tr):Tr:=t.getD C_
def eW(ns:List Nd)(n:Nat):Nd:=(ns[n]?).getD (af 0 0)
def FD(pg:Pg)(x:Nd):Tr:=.mk 9 [] [] (x.list.map λp=>yo (ek pg.ts (eW pg.ns p).ty)) [yo (ek pg.ts x.ty)]
def kF(f:Tr)(l:List Tr):Option Tr:=
 if kindOf f=5 then some f
 else if kindOf f=9∧(aN f).length=l.length then(if br (λj=>!fits (l.getD j bN) ((aN f).getD j bN)) l.length then none else some (fq f))
 else none
def Pm:BA:=⟨#[108,101,110,103,116,104]⟩
def o'(t:Tr)(x:BA):Option Tr:=
 if kindOf t=5 then some t else if kindOf t=8∧x=Pm then some (jR 1)else if kindOf t=7 then part (cg t) (partsOf t) x else none
def iZ(t a:Tr):Option Tr:=
 if fits a (jR 1)=true∧(kindOf t=5∨kindOf t=8)then some (if kindOf t=5 then t else fq t)else none
def RP:BA:=⟨#[61,61]⟩
def L6:BA:=⟨#[43]⟩
def Ek:BA:=⟨#[60]⟩
def Tf:BA:=⟨#[33]⟩
def N8:BA:=⟨#[116,121,112,101,111,102]⟩
def iz(t:Tr):Bool:=decide (kindOf t=1∨kindOf t=5)
def ou(x:BA)(a b:Tr):Option Tr:=
 if x=RP then some (jR 2)
 else if x=L6 then(if kindOf a=5∨kindOf b=5 then some (jR 5)else if kindOf a=kindOf b∧(kindOf a=1∨kindOf a=3)then some (jR (kindOf a))else none)
 else if iz a&&iz b then some (jR (if x=Ek then 2 else 1))else none
def vS(x:BA)(a:Tr):Option Tr:=
 if x=Tf then some (jR 2)else if x=N8 then some (jR 3)else if iz a then some (jR 1)else none
abbrev stuck:Ft:=(0,0)
def Ar(p:Nat)(o:Option Tr):Except Ft Tr:=match o with
 |none=>.error (9,p)
 |some t=>.ok t
def tO(f:Nat→Option Tr)(n:Nat):Tr:=(f n).getD bN
def c9(pg:Pg)(x:Nd):List Nat:=
 if x.kind=7 then x.a::x.list else if x.kind=8∨x.kind=13 then [x.a]else if x.kind=9∨x.kind=12 then [x.a,x.b]
 else if x.kind=11 then x.list else if x.kind=10 then x.list.map λp=>(eW pg.ns p).a else []
def fM(f:Nat→Option Tr)(l:List Nat):Bool:=l.all λn=>(f n).isSome
def lL(pg:Pg)(tq:Nat→Nat)(s:Ck)(n:Nat)(x:Nd):Except Ft Tr:=
  if x.kind=1 then .ok (jR 1)else if x.kind=2 then .ok (jR 3)else if x.kind=3 then .ok (jR 2)else if x.kind=4 then .ok (jR 4)
  else if x.kind=5 then(match s.has (tq n)with
   |none=>.error stuck
   |some t=>.ok t)
  else if x.kind=6 then .ok (FD pg x)
  else if x.kind=7 then Ar x.pos (kF (tO s.of x.a) (x.list.map (tO s.of)))
  else if x.kind=8 then Ar x.pos (o' (tO s.of x.a) x.text)
  else if x.kind=9 then Ar x.pos (iZ (tO s.of x.a) (tO s.of x.b))
  else if x.kind=11 then .ok (.mk 8 [] [] [] [o0 (x.list.map (tO s.of))])
  else if x.kind=10 then .ok (.mk 7 (x.list.map λp=>(eW pg.ns p).text) (x.list.map λp=>tO s.of (eW pg.ns p).a) [] [])
  else if x.kind=12 then Ar x.pos (ou x.text (tO s.of x.a) (tO s.of x.b))
  else if x.kind=13 then Ar x.pos (vS x.text (tO s.of x.a))
  else(match ek pg.ts x.ty with
   |none=>.error stuck
   |some t=>.ok t)
def fN(pg:Pg)(tq:Nat→Nat)(s:Ck)(n:Nat)(x:Nd):Except Ft Tr:=if fM s.of (c9 pg x)then lL pg tq s n x else .error stuck
def eX(f:Nat→Option Tr)(n:Nat)(t:Tr):Nat→Option Tr:=λk=>if k=n then some t else f k
def yF(pg:Pg)(tq:Nat→Nat)(n:Nat)(x:Nd)(s:Ck):Except Ft Ck:=
 aO (fN pg tq s n x) λt=>if dw t≤300 then .ok {s with of:=eX s.of n t}else .error (2,x.pos)
def dx(x:Nd):List Nat:=
 if x.kind=17∨x.kind=18∨x.kind=24 then [x.a]else if x.kind=19 then [x.a,x.b]else if x.kind=20 then [x.a,x.b,x.c.toNat]else []
def im(b:Bool)(e p:Nat)(s:Ck):Except Ft Ck:=if b then .ok s else .error (e,p)
def px(pg:Pg)(tq:Nat→Nat)(bk:List (Option Tr))(n:Nat)(x:Nd)(s:Ck):Except Ft Ck:=
  if x.kind=17 then aO (im (fits (tO s.of x.a) ((ek pg.ts x.ty).getD (tO s.of x.a))) 9 x.pos s) λs=>.ok {s with has:=eX s.has n ((ek pg.ts x.ty).getD (tO s.of x.a))}
  else if x.kind=18 then(match s.has (tq n)with
   |none=>.error stuck
   |some t=>im (fits (tO s.of x.a) t) 9 x.pos s)
  else if x.kind=19 then aO (Ar x.pos (o' (tO s.of x.a) x.text)) λt=>im (fits (tO s.of x.b) t) 9 x.pos s
  else if x.kind=20 then aO (Ar x.pos (iZ (tO s.of x.a) (tO s.of x.b))) λt=>im (fits (tO s.of x.c.toNat) t) 9 x.pos s
  else if x.kind=24 then(match bk.getLast? with
   |none=>.error (4,x.pos)
   |some none=>.ok s
   |some (some t)=>im (fits (tO s.of x.a) t) 9 x.pos s)
  else .ok s
def iw(pg:Pg)(tq:Nat→Nat)(bk:List (Option Tr))(n:Nat)(x:Nd)(s:Ck):Except Ft Ck:=if fM s.of (dx x)then px pg tq bk n x s else .error stuck
def jg(pg:Pg)(tq:Nat→Nat)(n:Nat)(bk:List (Option Tr))(s:Ck):Except Ft Ck:=
 if 1≤(eW pg.ns n).kind∧(eW pg.ns n).kind≤14 then yF pg tq n (eW pg.ns n) s else iw pg tq bk n (eW pg.ns n) s
def gQ(pg:Pg):List Nat→Ck→Ck
 |[],s=>s
 |p::l,s=>gQ pg l {s with has:=eX s.has p (yo (ek pg.ts (eW pg.ns p).ty))}
def AY(pg:Pg)(x:Nd):Tr:=(ek pg.ts x.ty).getD (FD pg (eW pg.ns x.a))
def nW(pg:Pg)(n:Nat)(s:Ck):Ck:=if(eW pg.ns (eW pg.ns n).a).kind=6 then{s with has:=eX s.has n (AY pg (eW pg.ns n))}else s
mutual
def ft(pg:Pg)(tq:Nat→Nat):Ex→Nat→List (Option Tr)→Ck→Except Ft Ck
 | .num ..,a,bk,s=>jg pg tq a bk s
 | .text ..,a,bk,s=>jg pg tq a bk s
 | .bool ..,a,bk,s=>jg pg tq a bk s
 | .null ..,a,bk,s=>jg pg tq a bk s
 | .var ..,a,bk,s=>jg pg tq a bk s
 | .fn _ ps ty _ body,a,bk,s=>aO (ku pg tq body (a+ps.length) (bk++[ek pg.ts ty]) (gQ pg (eU ps a) s)) λs=>jg pg tq (a+ps.length+aL body+1) bk s
 | .call _ e l,a,bk,s=>aO (ft pg tq e a bk s) λs=>aO (nB pg tq l (a+ax e) bk s) λs=>jg pg tq (a+ax e+eT l) bk s
 | .get _ e _,a,bk,s=>aO (ft pg tq e a bk s) λs=>jg pg tq (a+ax e) bk s
 | .atX _ e i,a,bk,s=>aO (ft pg tq e a bk s) λs=>aO (ft pg tq i (a+ax e) bk s) λs=>jg pg tq (a+ax e+ax i) bk s
 | .obj _ l,a,bk,s=>aO (oU pg tq l a bk s) λs=>jg pg tq (a+fQ l) bk s
 | .arr _ l,a,bk,s=>aO (nB pg tq l a bk s) λs=>jg pg tq (a+eT l) bk s
 | .two _ _ e i,a,bk,s=>aO (ft pg tq e a bk s) λs=>aO (ft pg tq i (a+ax e) bk s) λs=>jg pg tq (a+ax e+ax i) bk s
 | .one _ _ e,a,bk,s=>aO (ft pg tq e a bk s) λs=>jg pg tq (a+ax e) bk s
 | .asX _ e _,a,bk,s=>aO (ft pg tq e a bk s) λs=>jg pg tq (a+ax e) bk s
def nB(pg:Pg)(tq:Nat→Nat):List Ex→Nat→List (Option Tr)→Ck→Except Ft Ck
 |[],_,_,s=>.ok s
 |e::l,a,bk,s=>aO (ft pg tq e a bk s) λs=>nB pg tq l (a+ax e) bk s
def oU(pg:Pg)(tq:Nat→Nat):List (Nat×BA×Ex)→Nat→List (Option Tr)→Ck→Except Ft Ck
 |[],_,_,s=>.ok s
 |(_,_,e)::l,a,bk,s=>aO (aO (ft pg tq e a bk s) λs=>jg pg tq (a+ax e) bk s) λs=>oU pg tq l (a+ax e+1) bk s
def ku(pg:Pg)(tq:Nat→Nat):List Sm→Nat→List (Option Tr)→Ck→Except Ft Ck
 |[],_,_,s=>.ok s
 |e::l,a,bk,s=>aO (jT pg tq e a bk s) λs=>ku pg tq l (a+db e) bk s
def jT(pg:Pg)(tq:Nat→Nat):Sm→Nat→List (Option Tr)→Ck→Except Ft Ck
 | .kj _ _ _ e,a,bk,s=>aO (ft pg tq e a bk (nW pg (a+ax e) s)) λs=>jg pg tq (a+ax e) bk s
 | .set _ _ e,a,bk,s=>aO (ft pg tq e a bk s) λs=>jg pg tq (a+ax e) bk s
 | .put _ e _ v,a,bk,s=>aO (ft pg tq e a bk s) λs=>aO (ft pg tq v (a+ax e) bk s) λs=>jg pg tq (a+ax e+ax v) bk s
 | .lay _ e i v,a,bk,s=>aO (ft pg tq e a bk s) λs=>aO (ft pg tq i (a+ax e) bk s) λs=>aO (ft pg tq v (a+ax e+ax i) bk s) λs=>jg pg tq (a+ax e+ax i+ax v) bk s
 | .print _ e,a,bk,s=>aO (ft pg tq e a bk s) λs=>jg pg tq (a+ax e) bk s
 | .ret _ e,a,bk,s=>aO (ft pg tq e a bk s) λs=>jg pg tq (a+ax e) bk s
 | .vW _ e,a,bk,s=>aO (ft pg tq e a bk s) λs=>jg pg tq (a+ax e) bk s
 | .if_ _ e _ b none,a,bk,s=>aO (ft pg tq e a bk s) λs=>aO (ku pg tq b (a+ax e) bk s) λs=>jg pg tq (a+ax e+aL b+1) bk s
 | .if_ _ e _ b (some (_,c)),a,bk,s=>aO (ft pg tq e a bk s) λs=>aO (ku pg tq b (a+ax e) bk s) λs=>aO (ku pg tq c (a+ax e+aL b+1) bk s) λs=>jg pg tq (a+ax e+aL b+1+aL c+1) bk s
 | .while_ _ e _ b,a,bk,s=>aO (ft pg tq e a bk s) λs=>aO (ku pg tq b (a+ax e) bk s) λs=>jg pg tq (a+ax e+aL b+1) bk s
end
def Hh(pg:Pg)(tq:Nat→Nat)(l:List Sm):Except Ft Ck:=ku pg tq l 0 [] ⟨λ_=>none,λ_=>none⟩
end Ty
namespace Ty
structure Fine(t:Tr):Prop where
 ok:dP t
 tJ:iW t
 short:dH t
mutual
theorem Bt:∀t:Tr,dH t→∀x∈eP t,dH x
 | .mk k n p l o,h,x,hx=>by
  rw[eP]at hx
  split at hx
  ·rw[dH]at h
   exact nK l h.2.2.1 x hx
  ·simp at hx;subst hx;exact h
theorem nK:∀l:List Tr,c_ l→∀x∈bQ l,dH x
 |[],_,x,hx=>by simp[bQ]at hx
 |t::l,h,x,hx=>by
  rw[c_]at h
  rw[bQ,List.mem_append]at hx
  rcases hx with hx|hx
  ·exact Bt t h.1 x hx
  ·exact nK l h.2 x hx
end
theorem gL{k:Nat}(h:1≤k∧k≤7):Fine (jR k):=by
 refine⟨?_,?_,?_⟩
 ·rw[jR,dP];exact⟨by omega,by simp,by omega,by simp,by simp,by simp,by simp,by rw[ni];trivial,by rw[ni];trivial,by rw[ni];trivial⟩
 ·rw[jR,iW];exact⟨by omega,by rw[gZ];trivial,by rw[gZ];trivial,by rw[gZ];trivial⟩
 ·rw[jR,dH];exact⟨by simp,by rw[c_];trivial,by rw[c_];trivial,by rw[c_];trivial⟩
theorem kg(k:Nat):dw (jR k)=1:=by simp[jR,dw,bw]
theorem qd{m:Nat}:∀{l:List Tr},(∀t∈l,dw t≤m)→bw l≤m*l.length
 |[],_=>by simp[bw]
 |t::l,h=>by
  have h1:=h t (by simp);have h2:=qd (m:=m) (l:=l) λx hx=>h x (by simp[hx])
  rw[bw,List.length_cons,Nat.mul_succ];omega
theorem nN{l:List Tr}(h:∀t∈l,Fine t):ni l:=vn λt ht=>(h t ht).ok
theorem lG{l:List Tr}(h:∀t∈l,Fine t):gZ l:=tG λt ht=>(h t ht).tJ
theorem kQ{l:List Tr}(h:∀t∈l,Fine t):c_ l:=Hb λt ht=>(h t ht).short
theorem Gz{l:List Tr}(h:∀t∈l,Fine t)(hc:bw l≤900000):Fine (o0 l)∧dw (o0 l)≤bw l+1:=by
 have c1:=rS l;have c2:=Cz (bQ l);have hm:∀x∈dB (bQ l),Fine x:=λx hx=>by
  have h1:=uO _ x hx;exact⟨(qj l (nN h) x h1).1,rv l (lG h) x h1,nK l (kQ h) x h1⟩
 rcases zD l with hj|⟨x,hx,hj⟩|⟨h2,hj⟩
 ·rw[hj];exact⟨gL (k:=5) (by omega),by have:=kg 5;unfold jR at this;unfold C_;omega⟩
 ·rw[hj];refine⟨hm x (by rw[hx];simp),?_⟩;rw[hx]at c2
  simp only[bw]at c2;omega
 ·rw[hj];have hl:=pF (bQ l);have cI:=j8 l;refine⟨⟨?_,?_,?_⟩,?_⟩
  ·rw[dP];refine⟨by simp,by simp,by simp,by simp,by simp,by simp,?_,by rw[ni];trivial,nN hm,by rw[ni];trivial⟩;simp;omega
  ·rw[iW];exact⟨λ_=>h2,by rw[gZ];trivial,lG hm,by rw[gZ];trivial⟩
  ·rw[dH];exact⟨by simp,by rw[c_];trivial,kQ hm,by rw[c_];trivial⟩
  ·rw[dw];simp only[bw];omega
theorem yY{t:Tr}(h:Fine t)(hk:kindOf t=8∨kindOf t=9):Fine (fq t)∧dw (fq t)≤dw t:=by
 obtain⟨k,n,p,l,o⟩:=t;obtain⟨h1,h2,h3⟩:=h;rw[dP]at h1;rw[iW]at h2;rw[dH]at h3
 have hl:=h1.2.2.1 hk
 match o,hl,h1,h2,h3 with
 |[x],_,h1,h2,h3=>
  have a1:=h1.2.2.2.2.2.2.2.2.2;rw[ni]at a1;have a2:=h2.2.2.2;rw[gZ]at a2;have a3:=h3.2.2.2;rw[c_]at a3;refine⟨⟨a1.1,a2.1,a3.1⟩,?_⟩;show dw x≤_;rw[dw];simp only[bw];omega
theorem nD{t:Tr}:∀{l:List Tr},t∈l→dw t≤bw l
 |[],h=>by simp at h
 |a::l,h=>by
  rw[bw];rcases List.mem_cons.1 h with rfl|h
  ·omega
  ·have:=nD h;omega
theorem xn{t u:Tr}(h:Fine t){x:BA}(hp:part (cg t) (partsOf t) x=some u):Fine u∧dw u≤dw t:=by
 obtain⟨k,n,p,l,o⟩:=t;obtain⟨h1,h2,h3⟩:=h;rw[dP]at h1;rw[iW]at h2;rw[dH]at h3
 have hm:u∈p:=pS hp;refine⟨⟨eS h1.2.2.2.2.2.2.2.1 u hm,nO h2.2.1 u hm,jf h3.2.1 u hm⟩,?_⟩;have:=nD hm;rw[dw];omega
theorem jZ{pg:Pg}(h:PgOk pg){z:Int}(hz:AJ z pg.ts){t:Tr}(ht:ek pg.ts z=some t):Fine t∧dw t≤300:=by
 unfold ek at ht;split at ht
 ·cases ht
 ·rename_i h0;cases ht;rcases hz with rfl|⟨n,rfl,hn⟩
  ·omega
  ·have bm:=hn.lt;refine⟨⟨xD h.wf _ _ (Nat.lt_succ_self _) bm,Mu h.wf _ _ (Nat.lt_succ_self _) bm,uj _ (JM h.wf h.nm _ _ (Nat.lt_succ_self _) bm)⟩,?_⟩;have:=hn.dw;have:=h.PE;show dw (den pg.ts n)≤300;omega
theorem yj{pg:Pg}(h:PgOk pg){z:Int}(hz:AJ z pg.ts):Fine (yo (ek pg.ts z))∧dw (yo (ek pg.ts z))≤300:=by
 cases hw:ek pg.ts z with
 |none=>exact⟨gL (k:=5) (by omega),by have:=kg 5;unfold jR at this;show dw C_≤300;unfold C_;omega⟩
 |some t=>exact jZ h hz hw
theorem K0{pg:Pg}(h:PgOk pg)(n:Nat):AJ (eW pg.ns n).ty pg.ts:=by
 unfold eW;cases hn:pg.ns[n]? with
 |none=>exact .inl rfl
 |some nd=>exact(h.ns nd (List.mem_of_getElem? hn)).ty
theorem Ks{pg:Pg}(h:PgOk pg)(n:Nat)(hk: (eW pg.ns n).kind=15): (eW pg.ns n).text.size≤20:=by
 unfold eW at hk⊢;cases hn:pg.ns[n]? with
 |none=>rw[hn]at hk;cases hk
 |some nd=>rw[hn]at hk;exact((h.ns nd (List.mem_of_getElem? hn)).name (.inr (.inr ⟨by show 15≤nd.kind;exact Nat.le_of_eq hk.symm,by show nd.kind≤19;exact nT (Nat.le_of_eq hk) (by omega)⟩))).size
theorem EJ{pg:Pg}(h:PgOk pg){x:Nd}(hx:AJ x.ty pg.ts)(hl:x.list.length≤1200):Fine (FD pg x)∧dw (FD pg x)≤400000:=by
 have h1:=yj h hx;have hm:∀t∈x.list.map (λp=>yo (ek pg.ts (eW pg.ns p).ty)),Fine t∧dw t≤300:=λt ht=>by
  obtain⟨p,_,rfl⟩:=List.mem_map.1 ht;exact yj h (K0 h p)
 have hf:∀t∈x.list.map (λp=>yo (ek pg.ts (eW pg.ns p).ty)),Fine t:=λt ht=>(hm t ht).1
 have hc:=qd (m:=300) λt ht=>(hm t ht).2
 rw[List.length_map]at hc
 unfold FD;refine⟨⟨?_,?_,?_⟩,?_⟩
 ·rw[dP];refine⟨by simp,by simp,by simp,by simp,by simp,by simp,?_,by rw[ni];trivial,nN hf,by rw[ni,ni];exact⟨h1.1.ok,trivial⟩⟩;simp;omega
 ·rw[iW];exact⟨by simp,by rw[gZ];trivial,lG hf,by rw[gZ,gZ];exact⟨h1.1.tJ,trivial⟩⟩
 ·rw[dH];exact⟨by simp,by rw[c_];trivial,kQ hf,by rw[c_,c_];exact⟨h1.1.short,trivial⟩⟩
 ·rw[dw];simp only[bw];omega
theorem Jn{l:List Nat}{f:Nat→BA}{g:Nat→Tr}(hl:l.length≤1200)(hf:∀n∈l,(f n).size≤20)(hg:∀n∈l,Fine (g n)∧dw (g n)≤300):Fine (.mk 7 (l.map f) (l.map g) [] [])∧dw (.mk 7 (l.map f) (l.map g) [] [])≤400000:=by
 have hm:∀t∈l.map g,Fine t∧dw t≤300:=λt ht=>by
  obtain⟨p,hp,rfl⟩:=List.mem_map.1 ht;exact hg p hp
 have hq:∀t∈l.map g,Fine t:=λt ht=>(hm t ht).1
 have hc:=qd (m:=300) λt ht=>(hm t ht).2
 rw[List.length_map]at hc
 refine⟨⟨?_,?_,?_⟩,?_⟩
 ·rw[dP];refine⟨by simp,by simp,by simp,by simp,by simp,by simp,?_,nN hq,by rw[ni];trivial,by rw[ni];trivial⟩;simp;omega
 ·rw[iW];exact⟨by simp,lG hq,by rw[gZ];trivial,by rw[gZ];trivial⟩
 ·rw[dH];refine⟨λn hn=>?_,kQ hq,by rw[c_];trivial,by rw[c_];trivial⟩;obtain⟨p,hp,rfl⟩:=List.mem_map.1 hn;exact hf p hp
 ·rw[dw];simp only[bw];omega
theorem IC{t:Tr}(h:Fine t)(hc:dw t≤399999):Fine (.mk 8 [] [] [] [t])∧dw (.mk 8 [] [] [] [t])≤400000:=by
 refine⟨⟨?_,?_,?_⟩,?_⟩
 ·rw[dP];exact⟨by simp,by simp,by simp,by simp,by simp,by simp,by simp,by rw[ni];trivial,by rw[ni];trivial,by rw[ni,ni];exact⟨h.ok,trivial⟩⟩
 ·rw[iW];exact⟨by simp,by rw[gZ];trivial,by rw[gZ];trivial,by rw[gZ,gZ];exact⟨h.tJ,trivial⟩⟩
 ·rw[dH];exact⟨by simp,by rw[c_];trivial,by rw[c_];trivial,by rw[c_,c_];exact⟨h.short,trivial⟩⟩
 ·rw[dw];simp only[bw];omega
structure FineS(s:Ck):Prop where
 of:∀n t,s.of n=some t→Fine t∧dw t≤300
 has:∀n t,s.has n=some t→Fine t∧dw t≤400000
theorem FineS.nil:FineS ⟨λ_=>none,λ_=>none⟩:=⟨λn t h=>(by cases h),λn t h=>(by cases h)⟩
theorem FineS.setOf{s:Ck}(h:FineS s)(n:Nat){t:Tr}(ht:Fine t∧dw t≤300):FineS {s with of:=eX s.of n t}:=by
 refine⟨λm u hu=>?_,h.has⟩;simp only[eX]at hu;split at hu
 ·cases hu;exact ht
 ·exact h.of m u hu
theorem FineS.xN{s:Ck}(h:FineS s)(n:Nat){t:Tr}(ht:Fine t∧dw t≤400000):FineS {s with has:=eX s.has n t}:=by
 refine⟨h.of,λm u hu=>?_⟩;simp only[eX]at hu;split at hu
 ·cases hu;exact ht
 ·exact h.has m u hu
theorem cu{f:Nat→Option Tr}{l:List Nat}(h:fM f l=true){n:Nat}(hn:n∈l):f n=some (tO f n):=by
 unfold fM at h;rw[List.all_eq_true]at h
 have:=h n hn;unfold tO;cases hf:f n with
 |none=>rw[hf]at this;cases this
 |some t=>rfl
theorem rM{p:Nat}{o:Option Tr}{t:Tr}(h:Ar p o=.ok t):o=some t:=by
 cases o with
 |none=>cases h
 |some u=>cases h;rfl
theorem zy{t u:Tr}(h:Fine t){x:BA}(hg:o' t x=some u):Fine u∧dw u≤dw t:=by
 unfold o' at hg;split at hg
 ·cases hg;exact⟨h,nR _⟩
 ·split at hg
  ·cases hg;exact⟨gL (by omega),by rw[kg];exact Es t⟩
  ·split at hg
   ·exact xn h hg
   ·cases hg
theorem uL{t a u:Tr}(h:Fine t)(hg:iZ t a=some u):Fine u∧dw u≤dw t:=by
 unfold iZ at hg;split at hg
 ·rename_i hc;split at hg
  ·cases hg;exact⟨h,nR _⟩
  ·rename_i h5;cases hg;exact yY h (.inl (by rcases hc.2 with h|h;exact absurd h h5;exact h))
 ·cases hg
theorem FG{t u:Tr}(h:Fine t){l:List Tr}(hg:kF t l=some u):Fine u∧dw u≤dw t:=by
 unfold kF at hg;split at hg
 ·cases hg;exact⟨h,nR _⟩
 ·split at hg
  ·rename_i hc;split at hg
   ·cases hg
   ·cases hg;exact yY h (.inr hc.1)
  ·cases hg
theorem La{a b u:Tr}{x:BA}(hg:ou x a b=some u):Fine u∧dw u≤300:=by
 unfold ou at hg;split at hg
 ·cases hg;exact⟨gL (by omega),by rw[kg];omega⟩
 ·split at hg
  ·split at hg
   ·cases hg;exact⟨gL (by omega),by rw[kg];omega⟩
   ·split at hg
    ·rename_i h;cases hg;exact⟨gL (by omega),by rw[kg];omega⟩
    ·cases hg
  ·split at hg
   ·cases hg;exact⟨gL (by split<;>omega),by rw[kg];omega⟩
   ·cases hg
theorem Ji{a u:Tr}{x:BA}(hg:vS x a=some u):Fine u∧dw u≤300:=by
 unfold vS at hg;split at hg
 ·cases hg;exact⟨gL (by omega),by rw[kg];omega⟩
 ·split at hg
  ·cases hg;exact⟨gL (by omega),by rw[kg];omega⟩
  ·split at hg
   ·cases hg;exact⟨gL (by omega),by rw[kg];omega⟩
   ·cases hg
end Ty
namespace Ty
structure NdIn(pg:Pg)(x:Nd):Prop where
 ty:AJ x.ty pg.ts
 len:x.list.length≤1200
 obj:x.kind=10→∀p∈x.list,(eW pg.ns p).kind=15
 asX:x.kind=14→0≤x.ty
theorem EU{pg:Pg}(hP:PgOk pg){tq:Nat→Nat}{s:Ck}(hs:FineS s){n:Nat}{x:Nd}(hx:NdIn pg x){t:Tr}(h:fN pg tq s n x=.ok t):Fine t∧dw t≤400000:=by
 unfold fN at h;by_cases hk:fM s.of (c9 pg x)=true;rotate_left
 ·rw[if_neg hk]at h;cases h
 rw[if_pos hk]at h
 unfold lL at h;have vb:∀{m:Nat},m∈c9 pg x→Fine (tO s.of m)∧dw (tO s.of m)≤300:=λhm=>hs.of _ _ (cu hk hm)
 have hw:∀{u:Tr},Fine u∧dw u≤300→Fine u∧dw u≤400000:=λh=>⟨h.1,nT h.2 (by omega)⟩
 have v7:∀{k:Nat},1≤k∧k≤7→Fine (jR k)∧dw (jR k)≤400000:=λh=>⟨gL h,by rw[kg];omega⟩
 have Qj:∀{u v:Tr},dw u≤300→Fine v∧dw v≤dw u→Fine v∧dw v≤400000:=λh g=>⟨g.1,by have:=g.2;omega⟩
 by_cases h1:x.kind=1
 ·rw[if_pos h1]at h
  cases h;exact v7 (by omega)
 rw[if_neg h1]at h
 by_cases h2:x.kind=2
 ·rw[if_pos h2]at h
  cases h;exact v7 (by omega)
 rw[if_neg h2]at h
 by_cases h3:x.kind=3
 ·rw[if_pos h3]at h
  cases h;exact v7 (by omega)
 rw[if_neg h3]at h
 by_cases h4:x.kind=4
 ·rw[if_pos h4]at h
  cases h;exact v7 (by omega)
 rw[if_neg h4]at h
 by_cases h5:x.kind=5
 ·rw[if_pos h5]at h
  split at h
  ·cases h
  ·rename_i u hu;cases h;exact hs.has _ _ hu
 rw[if_neg h5]at h
 by_cases h6:x.kind=6
 ·rw[if_pos h6]at h
  cases h;exact EJ hP hx.ty hx.len
 rw[if_neg h6]at h
 by_cases h7:x.kind=7
 ·rw[if_pos h7]at h
  have ha:=vb (m:=x.a) (by unfold c9;rw[if_pos h7];simp);exact Qj ha.2 (FG ha.1 (rM h))
 rw[if_neg h7]at h
 by_cases h8:x.kind=8
 ·rw[if_pos h8]at h
  have ha:=vb (m:=x.a) (by unfold c9;rw[if_neg (by omega),if_pos (.inl h8)];simp);exact Qj ha.2 (zy ha.1 (rM h))
 rw[if_neg h8]at h
 by_cases h9:x.kind=9
 ·rw[if_pos h9]at h
  have ha:=vb (m:=x.a) (by unfold c9;rw[if_neg (by omega),if_neg (by omega),if_pos (.inl h9)];simp);exact Qj ha.2 (uL ha.1 (rM h))
 rw[if_neg h9]at h
 by_cases ln:x.kind=11
 ·rw[if_pos ln]at h
  cases h;have hm:∀t∈x.list.map (tO s.of),Fine t∧dw t≤300:=λt ht=>by
   obtain⟨p,hp,rfl⟩:=List.mem_map.1 ht;exact vb (by unfold c9;rw[if_neg (by omega),if_neg (by omega),if_neg (by omega),if_pos ln];exact hp)
  have hc:=qd (m:=300) λt ht=>(hm t ht).2
  rw[List.length_map]at hc
  have:=hx.len;have hj:=Gz (λt ht=>(hm t ht).1) (by omega);exact IC hj.1 (by omega)
 rw[if_neg ln]at h
 by_cases dS:x.kind=10
 ·rw[if_pos dS]at h
  cases h;exact Jn hx.len (λp hp=>Ks hP p (hx.obj dS p hp)) λp hp=>vb (by unfold c9;rw[if_neg (by omega),if_neg (by omega),if_neg (by omega),if_neg (by omega),if_pos dS];exact List.mem_map.2 ⟨p,hp,rfl⟩)
 rw[if_neg dS]at h
 by_cases jj:x.kind=12
 ·rw[if_pos jj]at h
  exact hw (La (rM h))
 rw[if_neg jj]at h
 by_cases oP:x.kind=13
 ·rw[if_pos oP]at h
  exact hw (Ji (rM h))
 rw[if_neg oP]at h
 split at h
 ·cases h
 ·rename_i u hu;cases h;exact hw (jZ hP hx.ty hu)
theorem aG{α β:Type}{m:Except Ft α}{k:α→Except Ft β}{b:β}(h:aO m k=.ok b):∃a,m=.ok a∧k a=.ok b:=by
 cases m with
 |error f=>cases h
 |ok a=>exact⟨a,rfl,h⟩
theorem mj{b:Bool}{e p:Nat}{s s':Ck}(h:im b e p s=.ok s'):s'=s∧b=true:=by
 unfold im at h;split at h
 ·rename_i hb;cases h;exact⟨rfl,hb⟩
 ·cases h
theorem BU{pg:Pg}{tq:Nat→Nat}{bk:List (Option Tr)}{s s':Ck}{n:Nat}{x:Nd}(h:iw pg tq bk n x s=.ok s'):
  s'=s∨x.kind=17∧fM s.of (dx x)=true∧s'={s with has:=eX s.has n ((ek pg.ts x.ty).getD (tO s.of x.a))}:=by
 unfold iw at h;by_cases hk:fM s.of (dx x)=true;rotate_left
 ·rw[if_neg hk]at h;cases h
 rw[if_pos hk]at h
 unfold px at h;split at h
 ·rename_i Hw;obtain⟨a,h1,h2⟩:=aG h;obtain⟨rfl,_⟩:=mj h1;cases h2;exact .inr ⟨Hw,hk,rfl⟩
 split at h
 ·split at h
  ·cases h
  ·exact .inl (mj h).1
 split at h
 ·obtain⟨a,h1,h2⟩:=aG h;exact .inl (mj h2).1
 split at h
 ·obtain⟨a,h1,h2⟩:=aG h;exact .inl (mj h2).1
 split at h
 ·split at h
  ·cases h
  ·cases h;exact .inl rfl
  ·exact .inl (mj h).1
 ·cases h;exact .inl rfl
theorem zz{pg:Pg}(hP:PgOk pg){x:Nd}(hx:AJ x.ty pg.ts)(hl: (eW pg.ns x.a).list.length≤1200):Fine (AY pg x)∧dw (AY pg x)≤400000:=by
 unfold AY;cases hw:ek pg.ts x.ty with
 |none=>exact EJ hP (K0 hP _) hl
 |some t=>have:=jZ hP hx hw;exact⟨this.1,by have:=this.2;show dw t≤_;omega⟩
structure Step(a b:Nat)(s s':Ck):Prop where
 of:∀n,n<a∨b≤n→s'.of n=s.of n
 has:∀n,(s.has n).isSome=true→(s'.has n).isSome=true
 out:∀n,n<a∨b≤n→s'.has n=s.has n
theorem Step.refl(a b:Nat)(s:Ck):Step a b s s:=⟨λ_ _=>rfl,λ_ h=>h,λ_ _=>rfl⟩
theorem Step.trans{a b c:Nat}{s s1 s2:Ck}(h:Step a b s s1)(g:Step b c s1 s2)(qY:a≤b)(Qt:b≤c):Step a c s s2:=
 ⟨λn hn=>(g.of n (by omega)).trans (h.of n (by omega)),λn hn=>g.has n (h.has n hn),λn hn=>(g.out n (by omega)).trans (h.out n (by omega))⟩
theorem Step.mono{a b a' b':Nat}{s s1:Ck}(h:Step a b s s1)(ha:a'≤a)(hb:b≤b'):Step a' b' s s1:=⟨λn hn=>h.of n (by omega),h.has,λn hn=>h.out n (by omega)⟩
theorem k_(s:Ck)(n:Nat)(t:Tr):Step n (n+1) s {s with has:=eX s.has n t}:=
 ⟨λ_ _=>rfl,λm hm=>by show(eX s.has n t m).isSome=true;unfold eX;split;rfl;exact hm,λm hm=>by show eX s.has n t m= _;unfold eX;rw[if_neg (by omega)]⟩
theorem Dg(s:Ck)(n:Nat)(t:Tr):Step n (n+1) s {s with of:=eX s.of n t}:=
 ⟨λm hm=>by show eX s.of n t m= _;unfold eX;rw[if_neg (by omega)],λm hm=>hm,λ_ _=>rfl⟩
theorem mL{pg:Pg}{tq:Nat→Nat}{s s':Ck}{n:Nat}{x:Nd}(h:yF pg tq n x s=.ok s'):∃t,fN pg tq s n x=.ok t∧dw t≤300∧s'={s with of:=eX s.of n t}:=by
 unfold yF at h;obtain⟨t,h1,h2⟩:=aG h;split at h2
 ·rename_i hc;cases h2;exact⟨t,h1,hc,rfl⟩
 ·cases h2
theorem uq{pg:Pg}:∀(l:List Par)(a:Nat)(s:Ck),Step a (a+l.length) s (gQ pg (eU l a) s)
 |[],a,s=>Step.refl _ _ _
 |q::l,a,s=>by
  have h:=uq (pg:=pg) l (a+1) {s with has:=eX s.has a (yo (ek pg.ts (eW pg.ns a).ty))};rw[eU,gQ,List.length_cons,show a+(l.length+1)=a+1+l.length by omega];exact(k_ s a _).trans h (by omega) (by omega)
end Ty
end Go.Proofs.YtdlbhiaceheffabGreatDoor
