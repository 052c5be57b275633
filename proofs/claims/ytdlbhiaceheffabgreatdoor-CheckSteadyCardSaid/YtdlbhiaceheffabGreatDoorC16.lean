/- Walks of show.TypeText, one for each kind. -/
import Derived.Deep.RegionLaw
import Derived.Test.YtdlbhiaceheffabGreatDoorC15
set_option linter.all false
set_option maxRecDepth 100000
set_option maxHeartbeats 4000000
namespace Go.Proofs.YtdlbhiaceheffabGreatDoor
open Go Go.RowKit Ty Tok Prt Tryz Proofs.Tryz
section
open Ty (Tr)
theorem jr{a b:BA}{x y z:List UInt8}(ha:a=bs x)(hb:b=bs y)(hz:x++y=z)(hs:z.length<=1000000000):∃s:BA,s=bs z/\∀w:World,(Op.stringOp .add a b).run prog w=.ok (.string s) w:=⟨_,rfl,AL ha hb hz hs⟩
theorem abh(w:World)(g cap L n of:Nat)(_:g<w.heap.size)(_:L<=cap)(_:L<=1000000)(hn:n<L)(fds:List (BA×Nat))(bS:List Nat)(fv lv:Value)(hA:RowAt w g n ⟨⟨7,fds,bS,of⟩,fv,lv⟩)
  (mw:w.ownsRow 0 141 2 fv fds.length (fds.flatMap c9)) (lQ:w.ownsRow 0 3 1 lv bS.length (bS.map aQ)) (WO:fds.length<=1000000) (tx:Nat->List UInt8) (A:Nat->List UInt8)
  (ht:∀j(hj:j<fds.length),r9 (.slice (some ⟨g,0,none⟩) L cap) w fds[j].2 (tx j)) (a0:A 0=[123]) (a1:∀j(hj:j<fds.length),A (j+1)=A j++mg fds[j].1 (tx j)) (a2:∀j,j<=fds.length->(A j).length<=900000000) {R:EW}
  (hR:∀w',Below w.heap.size w w'->R (.returned (.string (bs (A fds.length++(if fds.length>0 then [32]else [])++[125])))) w'):
  Calls prog 64 #[.slice (some ⟨g,0,none⟩) L cap,.int .i64 (n:Nat)] w R:=by
 have HR:=qh hR;have SK:=qh a1;have MQ:=qh a2;have afd:=qh mw;obtain⟨q0,q1,q2,q3⟩:=hA;obtain⟨fa,fc,rfl⟩:=ag mw;obtain⟨la,lc,rfl⟩:=ag lQ;dsimp only at q0 q1 q2 q3;have h1:=(Sat.iN w).ar (.cells #[.int .i64 7,.slice fa fds.length fc,.slice la bS.length lc,.int .i64 of] 69) w.heap.size;have Lt:=qh h1.aS;have RN:Hq (bs [123]=bs (A 0)):=by rw[a0];rfl
 clear hR a0 a1 a2 mw lQ h1;go_in;go_wp2_with fail;go_loopw [6,20] (λs i wr=>∃k:Nat,s=.string (bs (A k))/\i=.int .i64 k/\k<=fds.length/\Hq (Sat w wr [bY w,ax w.heap.size (.cells #[.int .i64 7,.slice fa fds.length fc,.slice la bS.length lc,.int .i64 of] 69 (0,0))])) (λ_ i _=>fds.length-(intOf i).toNat)
 case atStart=>exact⟨0,congrArg Value.string RN.o,rfl,by omega,(Sat.iN w).ar _ w.heap.size⟩
 case round=>
  obtain⟨k,rfl,rfl,hk,hS⟩:=hrel;by_cases bz:k<fds.length
  ·obtain⟨gf,Tt,e,aac,d0,d1⟩:=Mv (ay afd.o hS.out.aS) k bz;cases e;have h7:=hS.out.ar (.cells #[.string fds[k].1,.int .i64 (fds[k].2:Nat)] 141) wr.heap.size;have HI:=qh (ht k bz _ h7.drew.aS);have MU:=SK.o k bz;have dU:=MQ.o (k+1) (by omega);rw[MU]at dU
   have Qo:=qh MU;generalize fds[k]=fd at*
   obtain⟨nm,ix⟩:=fd;dsimp only at d0 d1 HI MU dU Qo h7;have Zp:=dU;rw[List.length_append]at dU
   unfold mg at dU;simp only[lzA,lzC,lzN]at dU;obtain⟨s1,e1,c1⟩:=jr (a:=⟨#[32]⟩) (b:=nm) (x:=[32]) (y:=nm.data.toList) (z:=32::nm.data.toList) rfl (lZ nm).symm rfl (by rw[List.length_cons];omega);obtain⟨s2,e2,c2⟩:=jr (a:=s1) (b:=⟨#[58,32]⟩) (y:=[58,32]) (z:=32:: (nm.data.toList++[58,32])) e1 rfl rfl (by simp only[lzA,lzC,lzN];omega);obtain⟨s3,e3,c3⟩:=jr (a:=s2) (b:=bs (tx k)) (z:=32:: (nm.data.toList++[58,32]++tx k)) e2 rfl rfl (by simp only[lzA,lzC,lzN];omega);obtain⟨s4,e4,c4⟩:=jr (a:=s3) (b:=⟨#[59]⟩) (y:=[59]) (z:=mg nm (tx k)) e3 rfl rfl (by unfold mg;simp only[lzA,lzC,lzN];omega);obtain⟨s5,e5,c5⟩:=jr (a:=bs (A k)) (b:=s4) (z:=A k++mg nm (tx k)) rfl e4 rfl (by omega);rw[<-MU]at e5
   have E5:=qh e5.symm;clear e1 e2 e3 e4 e5;have b0:=h7.cell 2 0;have b1:=h7.cell 2 1;have H7:=qh h7;clear MU dU Zp h7;go_wp2_with fail;go_region_held3(λw'=>w'.cell? ⟨wr.heap.size,0,none⟩=some (.string nm)/\w'.cell? ⟨wr.heap.size,1,none⟩=some (.int .i64 (ix:Nat))) (go_keep)
    (first|(go_at_call 64;refine HI.o _ (λw2 aW=>?_);have h2:=H7.o.drew.below aW;have z0:=h2.cell 2 0;have z1:=h2.cell 2 1;have H2:=qh (h2.pick [0,1]);clear h2 aW))
   all_goals
    go_wp2_with fail;go_roundw
    case rel=>exact⟨k+1,congrArg Value.string E5.out.symm,by go_num,by omega,H2.o⟩
    case measure=>simp[intOf];omega
  ·have pw:k=fds.length:=by omega
   subst pw;have x1:=hS.out.cell 1 1;have dU:=MQ.o _ (nR _);by_cases h0:0<fds.length
   ·have k0:decide ((0:Int)<fds.length)=true:=decide_eq_true (by omega);have k1:decide (0<fds.length)=true:=decide_eq_true h0;rw[if_pos h0]at HR
    obtain⟨s6,e6,c6⟩:=jr (a:=bs (A fds.length)) (b:=⟨#[32]⟩) (y:=[32]) (z:=A fds.length++[32]) rfl rfl rfl (by simp;omega);obtain⟨s7,e7,c7⟩:=jr (a:=s6) (b:=⟨#[125]⟩) (y:=[125]) (z:=A fds.length++[32]++[125]) e6 rfl rfl (by simp;omega);rw[<-e7]at HR
    clear dU h0 e6 e7;go_wp2_with fail;exact HR.o _ hS.out.aS
   ·have k0:decide ((0:Int)<fds.length)=false:=decide_eq_false (by omega);have k1:decide (0<fds.length)=false:=decide_eq_false h0;rw[if_neg h0,List.append_nil]at HR
    obtain⟨s7,e7,c7⟩:=jr (a:=bs (A fds.length)) (b:=⟨#[125]⟩) (y:=[125]) (z:=A fds.length++[125]) rfl rfl rfl (by simp;omega);rw[<-e7]at HR
    clear dU h0 e7;go_wp2_with fail;exact HR.o _ hS.out.aS
theorem aaC(w:World)(g cap L n of:Nat)(_:g<w.heap.size)(_:L<=cap)(_:L<=1000000)(hn:n<L)(fds:List (BA×Nat))(bS:List Nat)(fv lv:Value)(hA:RowAt w g n ⟨⟨8,fds,bS,of⟩,fv,lv⟩)
  (mw:w.ownsRow 0 141 2 fv fds.length (fds.flatMap c9)) (lQ:w.ownsRow 0 3 1 lv bS.length (bS.map aQ))
  (tx:List UInt8) (ht:r9 (.slice (some ⟨g,0,none⟩) L cap) w of tx) (hs:tx.length<=900000000) {R:EW}
  (hR:∀w',Below w.heap.size w w'->R (.returned (.string (bs ([91]++tx++[93])))) w'):
  Calls prog 64 #[.slice (some ⟨g,0,none⟩) L cap,.int .i64 (n:Nat)] w R:=by
 have HR:=qh hR;obtain⟨q0,q1,q2,q3⟩:=hA;obtain⟨fa,fc,rfl⟩:=ag mw;obtain⟨la,lc,rfl⟩:=ag lQ;dsimp only at q0 q1 q2 q3;have h1:=(Sat.iN w).ar (.cells #[.int .i64 8,.slice fa fds.length fc,.slice la bS.length lc,.int .i64 of] 69) w.heap.size;have HI:=qh (ht _ h1.aS);have HB:=qh h1.aS;obtain⟨s1,e1,c1⟩:=jr (a:=⟨#[91]⟩) (b:=bs tx) (x:=[91]) (z:=[91]++tx) rfl rfl rfl (by simp;omega);obtain⟨s2,e2,c2⟩:=jr (a:=s1) (b:=⟨#[93]⟩) (y:=[93]) (z:=[91]++tx++[93]) e1 rfl rfl (by simp;omega);rw[<-e2]at HR
 clear hR ht h1 e1 e2 mw lQ;go_in;go_wp2_with fail;refine HI.o _ (λw2 aW=>?_);have fG:=qh (HB.o.trans (aW.mono HB.o.size));go_wp2;exact HR.o _ fG.o
theorem r9.below{v:Value}{w w1:World}{n:Nat}{r:List UInt8}(h:r9 v w n r)(hb:Below w.heap.size w w1):r9 v w1 n r:=
 λ_ h2 R hR=>h _ (hb.trans (h2.mono hb.size)) R hR
def UA(v lv:Value)(w:World)(sep:BA)(un:Bool)(r:List UInt8):Prop:=∀w1,Below w.heap.size w w1->∀R:EW,(∀w2,Below w1.heap.size w1 w2->R (.returned (.string (bs r))) w2)->Calls prog 118 #[v,lv,.string sep,.bool un] w1 R
theorem IL(w:World)(g cap L:Nat)(hg:g<w.heap.size)(hc:L<=cap)(hL:L<=1000000)(bS:List Nat)(lv:Value)(M1:w.ownsRow 0 3 1 lv bS.length (bS.map aQ))(SL:bS.length<=1000000)(kd:Nat->Nat)(tx:Nat->List UInt8)(un:Bool)(sep:BA)
  (hk:∀j(hj:j<bS.length),bS[j]<L/\w.cell? ⟨g,bS[j]*4,none⟩=some (.int .i64 (kd j:Nat)))
  (ht:∀j(hj:j<bS.length),r9 (.slice (some ⟨g,0,none⟩) L cap) w bS[j] (tx j)) (hb:∀j,j<bS.length->(tx j).length<=900000000)
  (hs: (cr sep.data.toList ((List.range bS.length).map (tN un bS.length kd tx))).length<=1000000000):
  UA (.slice (some ⟨g,0,none⟩) L cap) lv w sep un (cr sep.data.toList ((List.range bS.length).map (tN un bS.length kd tx))):=λw1 h1 _ hR=>
 I8 w1 g cap L (nL hg h1.size) hc hL bS lv (ay M1 h1) SL kd tx un sep (λj hj=>⟨(hk j hj).1,av h1 (hk j hj).2⟩) (λj hj=>(ht j hj).below h1) hb hs hR
theorem VM(w:World)(g cap L n of:Nat)(_:g<w.heap.size)(_:L<=cap)(_:L<=1000000)(hn:n<L)(fds:List (BA×Nat))(bS:List Nat)(fv lv:Value)(hA:RowAt w g n ⟨⟨10,fds,bS,of⟩,fv,lv⟩)
  (mw:w.ownsRow 0 141 2 fv fds.length (fds.flatMap c9)) (lQ:w.ownsRow 0 3 1 lv bS.length (bS.map aQ))
  (tx:List UInt8) (ht:UA (.slice (some ⟨g,0,none⟩) L cap) lv w ⟨#[32,124,32]⟩ true tx) {R:EW}
  (hR:∀w',Below w.heap.size w w'->R (.returned (.string (bs tx))) w'):
  Calls prog 64 #[.slice (some ⟨g,0,none⟩) L cap,.int .i64 (n:Nat)] w R:=by
 have HR:=qh hR;obtain⟨q0,q1,q2,q3⟩:=hA;obtain⟨fa,fc,rfl⟩:=ag mw;obtain⟨la,lc,rfl⟩:=ag lQ;dsimp only at q0 q1 q2 q3;have h1:=(Sat.iN w).ar (.cells #[.int .i64 10,.slice fa fds.length fc,.slice la bS.length lc,.int .i64 of] 69) w.heap.size;have HI:=qh (ht _ h1.aS);have HB:=qh h1.aS;clear hR ht h1 mw lQ;go_in;go_wp2_with fail;refine HI.o _ (λw2 aW=>?_);have fG:=qh (HB.o.trans (aW.mono HB.o.size));clear aW;go_wp2_with fail;exact HR.o _ fG.o
theorem aaI(w:World)(g cap L n of:Nat)(_:g<w.heap.size)(_:L<=cap)(_:L<=1000000)(hn:n<L)(fds:List (BA×Nat))(bS:List Nat)(fv lv:Value)(hA:RowAt w g n ⟨⟨9,fds,bS,of⟩,fv,lv⟩)
  (mw:w.ownsRow 0 141 2 fv fds.length (fds.flatMap c9)) (lQ:w.ownsRow 0 3 1 lv bS.length (bS.map aQ))
  (tx ty:List UInt8) (ht:UA (.slice (some ⟨g,0,none⟩) L cap) lv w ⟨#[44,32]⟩ false tx) (hu:r9 (.slice (some ⟨g,0,none⟩) L cap) w of ty) (hs:tx.length<=400000000) (acZ:ty.length<=400000000) {R:EW}
  (hR:∀w',Below w.heap.size w w'->R (.returned (.string (bs ([40]++tx++[41,32,61,62,32]++ty)))) w'):
  Calls prog 64 #[.slice (some ⟨g,0,none⟩) L cap,.int .i64 (n:Nat)] w R:=by
 have HR:=qh hR;obtain⟨q0,q1,q2,q3⟩:=hA;obtain⟨fa,fc,rfl⟩:=ag mw;obtain⟨la,lc,rfl⟩:=ag lQ;dsimp only at q0 q1 q2 q3;have h1:=(Sat.iN w).ar (.cells #[.int .i64 9,.slice fa fds.length fc,.slice la bS.length lc,.int .i64 of] 69) w.heap.size;have HZ:Hq (∀R:EW,(∀w',w'.cell? ⟨w.heap.size,2,none⟩=some (.slice la bS.length lc)->w'.cell? ⟨w.heap.size,3,none⟩=some (.int .i64 (of:Nat))->Below w.heap.size w w'->R (.returned (.string (bs tx))) w')->Calls prog 118 #[.slice (some ⟨g,0,none⟩) L cap,.slice la bS.length lc,.string ⟨#[44,32]⟩,.bool false] (w.alloc (.cells #[.int .i64 9,.slice fa fds.length fc,.slice la bS.length lc,.int .i64 of] 69)).drew R):=λR h=>by
  refine ht _ h1.drew.aS _ (λw2 aW=>?_);have h2:=h1.drew.below aW;exact h w2 (h2.cell 1 2) (h2.cell 1 3) h2.aS
 have HU:=qh hu;have z0:=h1.cell 1 2;have z1:=h1.cell 1 3;obtain⟨s1,e1,c1⟩:=jr (a:=⟨#[40]⟩) (b:=bs tx) (x:=[40]) (z:=[40]++tx) rfl rfl rfl (by simp;omega);obtain⟨s2,e2,c2⟩:=jr (a:=s1) (b:=⟨#[41,32,61,62,32]⟩) (y:=[41,32,61,62,32]) (z:=[40]++tx++[41,32,61,62,32]) e1 rfl rfl (by simp;omega);obtain⟨s3,e3,c3⟩:=jr (a:=s2) (b:=bs ty) (z:=[40]++tx++[41,32,61,62,32]++ty) e2 rfl rfl (by simp;omega);rw[<-e3]at HR
 clear hR ht hu h1 e1 e2 e3 mw lQ;go_in;go_wp2_with fail;go_region_held3(λw'=>w'.cell? ⟨w.heap.size,2,none⟩=some (.slice la bS.length lc)/\w'.cell? ⟨w.heap.size,3,none⟩=some (.int .i64 (of:Nat))) (go_keep)
  (first|(go_at_call 118;refine HZ.o _ (λw2 s0 s1 aW=>?_);have fG:=qh aW;clear aW)|(go_at_call 64;refine HU.o _ fG.o _ (λw3 cZ=>?_);have qd:=qh (fG.o.trans (cZ.mono fG.o.size));have s0:=av cZ s0;have s1:=av cZ s1;clear cZ))
 all_goals
  go_wp2_with fail;exact HR.o _ qd.o
theorem VT(w:World)(g cap L n of:Nat)(_:g<w.heap.size)(_:L<=cap)(_:L<=1000000)(hn:n<L)(fds:List (BA×Nat))(bS:List Nat)(fv lv:Value)(hA:RowAt w g n ⟨⟨1,fds,bS,of⟩,fv,lv⟩)
  (mw:w.ownsRow 0 141 2 fv fds.length (fds.flatMap c9)) (lQ:w.ownsRow 0 3 1 lv bS.length (bS.map aQ)) {R:EW}
  (hR:∀w',Below w.heap.size w w'->R (.returned (.string ⟨#[110,117,109]⟩)) w'):
  Calls prog 64 #[.slice (some ⟨g,0,none⟩) L cap,.int .i64 (n:Nat)] w R:=by
 have HR:=qh hR;obtain⟨q0,q1,q2,q3⟩:=hA;obtain⟨fa,fc,rfl⟩:=ag mw;obtain⟨la,lc,rfl⟩:=ag lQ;dsimp only at q0 q1 q2 q3;clear hR mw lQ;go_in;go_wp2_with fail;refine HR.o _ ?_;repeat' (first|exact bR _ _|apply Below.drew|apply Below.setCell|apply Below.alloc|(simp;done)|(simp;omega)|omega)
theorem Xl(w:World)(g cap L n of:Nat)(_:g<w.heap.size)(_:L<=cap)(_:L<=1000000)(hn:n<L)(fds:List (BA×Nat))(bS:List Nat)(fv lv:Value)(hA:RowAt w g n ⟨⟨2,fds,bS,of⟩,fv,lv⟩)
  (mw:w.ownsRow 0 141 2 fv fds.length (fds.flatMap c9)) (lQ:w.ownsRow 0 3 1 lv bS.length (bS.map aQ)) {R:EW}
  (hR:∀w',Below w.heap.size w w'->R (.returned (.string ⟨#[98,111,111,108]⟩)) w'):
  Calls prog 64 #[.slice (some ⟨g,0,none⟩) L cap,.int .i64 (n:Nat)] w R:=by
 have HR:=qh hR;obtain⟨q0,q1,q2,q3⟩:=hA;obtain⟨fa,fc,rfl⟩:=ag mw;obtain⟨la,lc,rfl⟩:=ag lQ;dsimp only at q0 q1 q2 q3;clear hR mw lQ;go_in;go_wp2_with fail;refine HR.o _ ?_;repeat' (first|exact bR _ _|apply Below.drew|apply Below.setCell|apply Below.alloc|(simp;done)|(simp;omega)|omega)
theorem XF(w:World)(g cap L n of:Nat)(_:g<w.heap.size)(_:L<=cap)(_:L<=1000000)(hn:n<L)(fds:List (BA×Nat))(bS:List Nat)(fv lv:Value)(hA:RowAt w g n ⟨⟨3,fds,bS,of⟩,fv,lv⟩)
  (mw:w.ownsRow 0 141 2 fv fds.length (fds.flatMap c9)) (lQ:w.ownsRow 0 3 1 lv bS.length (bS.map aQ)) {R:EW}
  (hR:∀w',Below w.heap.size w w'->R (.returned (.string ⟨#[116,101,120,116]⟩)) w'):
  Calls prog 64 #[.slice (some ⟨g,0,none⟩) L cap,.int .i64 (n:Nat)] w R:=by
 have HR:=qh hR;obtain⟨q0,q1,q2,q3⟩:=hA;obtain⟨fa,fc,rfl⟩:=ag mw;obtain⟨la,lc,rfl⟩:=ag lQ;dsimp only at q0 q1 q2 q3;clear hR mw lQ;go_in;go_wp2_with fail;refine HR.o _ ?_;repeat' (first|exact bR _ _|apply Below.drew|apply Below.setCell|apply Below.alloc|(simp;done)|(simp;omega)|omega)
theorem Vj(w:World)(g cap L n of:Nat)(_:g<w.heap.size)(_:L<=cap)(_:L<=1000000)(hn:n<L)(fds:List (BA×Nat))(bS:List Nat)(fv lv:Value)(hA:RowAt w g n ⟨⟨4,fds,bS,of⟩,fv,lv⟩)
  (mw:w.ownsRow 0 141 2 fv fds.length (fds.flatMap c9)) (lQ:w.ownsRow 0 3 1 lv bS.length (bS.map aQ)) {R:EW}
  (hR:∀w',Below w.heap.size w w'->R (.returned (.string ⟨#[110,117,108,108]⟩)) w'):
  Calls prog 64 #[.slice (some ⟨g,0,none⟩) L cap,.int .i64 (n:Nat)] w R:=by
 have HR:=qh hR;obtain⟨q0,q1,q2,q3⟩:=hA;obtain⟨fa,fc,rfl⟩:=ag mw;obtain⟨la,lc,rfl⟩:=ag lQ;dsimp only at q0 q1 q2 q3;clear hR mw lQ;go_in;go_wp2_with fail;refine HR.o _ ?_;repeat' (first|exact bR _ _|apply Below.drew|apply Below.setCell|apply Below.alloc|(simp;done)|(simp;omega)|omega)
theorem XT(w:World)(g cap L n of:Nat)(_:g<w.heap.size)(_:L<=cap)(_:L<=1000000)(hn:n<L)(fds:List (BA×Nat))(bS:List Nat)(fv lv:Value)(hA:RowAt w g n ⟨⟨5,fds,bS,of⟩,fv,lv⟩)
  (mw:w.ownsRow 0 141 2 fv fds.length (fds.flatMap c9)) (lQ:w.ownsRow 0 3 1 lv bS.length (bS.map aQ)) {R:EW}
  (hR:∀w',Below w.heap.size w w'->R (.returned (.string ⟨#[97,110,121]⟩)) w'):
  Calls prog 64 #[.slice (some ⟨g,0,none⟩) L cap,.int .i64 (n:Nat)] w R:=by
 have HR:=qh hR;obtain⟨q0,q1,q2,q3⟩:=hA;obtain⟨fa,fc,rfl⟩:=ag mw;obtain⟨la,lc,rfl⟩:=ag lQ;dsimp only at q0 q1 q2 q3;clear hR mw lQ;go_in;go_wp2_with fail;refine HR.o _ ?_;repeat' (first|exact bR _ _|apply Below.drew|apply Below.setCell|apply Below.alloc|(simp;done)|(simp;omega)|omega)
theorem W4(w:World)(g cap L n of:Nat)(_:g<w.heap.size)(_:L<=cap)(_:L<=1000000)(hn:n<L)(fds:List (BA×Nat))(bS:List Nat)(fv lv:Value)(hA:RowAt w g n ⟨⟨6,fds,bS,of⟩,fv,lv⟩)
  (mw:w.ownsRow 0 141 2 fv fds.length (fds.flatMap c9)) (lQ:w.ownsRow 0 3 1 lv bS.length (bS.map aQ)) {R:EW}
  (hR:∀w',Below w.heap.size w w'->R (.returned (.string ⟨#[117,110,107,110,111,119,110]⟩)) w'):
  Calls prog 64 #[.slice (some ⟨g,0,none⟩) L cap,.int .i64 (n:Nat)] w R:=by
 have HR:=qh hR;obtain⟨q0,q1,q2,q3⟩:=hA;obtain⟨fa,fc,rfl⟩:=ag mw;obtain⟨la,lc,rfl⟩:=ag lQ;dsimp only at q0 q1 q2 q3;clear hR mw lQ;go_in;go_wp2_with fail;refine HR.o _ ?_;repeat' (first|exact bR _ _|apply Below.drew|apply Below.setCell|apply Below.alloc|(simp;done)|(simp;omega)|omega)
theorem Ty.uO{l:List Tr}{t:Tr}(h:t∈l):dK t<=bu l:=by
 induction l with
 |nil=>simp at h
 |cons a l ih=>
  rw[bu];rcases List.mem_cons.1 h with rfl|h
  ·omega
  ·have:=ih h;omega
theorem uR{α:Type}{l:List α}{d:α}{j:Nat}(h:j<l.length):l.getD j d=l[j]:=by simp[List.getD,List.getElem?_eq_getElem h]
theorem yD(bS:List Nat)(kd:Nat->Nat)(ts:List (List UInt8))(h:bS.length=ts.length): (List.range bS.length).map (tN false bS.length kd λj=>ts.getD j [])=ts:=by
 apply List.ext_getElem
 ·simp[h]
 ·intro i h1 h2;simp only[List.getElem_map,List.getElem_range,tN];exact uR h2
theorem DH(bS:List Nat)(ks:List Nat)(ts:List (List UInt8))(h:bS.length=ts.length): (List.range bS.length).map (tN true bS.length (λj=>ks.getD j 0) λj=>ts.getD j [])=C' ks ts:=by
 unfold C';rw[h];rfl
theorem nM(w:World)(v:Value)(rows:List TyRow)(ts:List Ty.Ty)(ow:rows.map TyRow.t=ts)(hw:Wf ts)(hlen:ts.length<=1000000)(xK:TyRd w v rows):∀(N n:Nat),n<N->n<ts.length->dX (Ty.den ts n)->dK (Ty.den ts n)<=1000000->r9 v w n (Ty.text (Ty.den ts n)):=by
 intro N;induction N with
 |zero=>intro n h;omega
 |succ N ih=>
  intro n hN hn GI S8 w1 Lp R hR;have R_:=λ(i:Nat)(hi:i<ts.length)=>(xK.below Lp).look ow hi
  obtain⟨g,cap,x,rfl,hg,hcap,E',hx,hA,mw,lQ⟩:=R_ n hn;have wx:=hw n _ hx;have da:=nO hw hx;have aD:=qF hw _ n (Nat.lt_succ_self _) hn;have kG:=rU _ aD GI;obtain⟨⟨kd,fds,bS,of⟩,fv,lv⟩:=x;dsimp only at mw lQ wx da;rw[da]at GI S8 kG hR aD
  have lx:=wx.lens;have kx:=wx.kind;dsimp only at lx kx;have key:∀i,i<n->dX (Ty.den ts i)->dK (Ty.den ts i)<=1000000->r9 (.slice (some ⟨g,0,none⟩) ts.length cap) w1 i (Ty.text (Ty.den ts i)):=λi hi h1 h2=>(ih i (by omega) (by omega) h1 h2).below Lp
  replace kG:=nT kG (Nat.mul_le_mul_left 40 S8);rw[dX]at GI
  have Of:=S8;rw[dK]at Of
  rw[eu]at aD
  obtain⟨_,_,_,_,_,_,_,ag8,agV,ahM⟩:=aD;have HP:∀j(hj:j<fds.length),dX (Ty.den ts fds[j].2)/\dK (Ty.den ts fds[j].2)<=1000000:=λj hj=>by
   have hm:Ty.den ts fds[j].2∈fds.map λf=>Ty.den ts f.2:=List.mem_map.2 ⟨fds[j],gM _,rfl⟩
   exact⟨lA GI.2.1 _ hm,by have:=uO hm;omega⟩
  have HL:∀j(hj:j<bS.length),dX (Ty.den ts bS[j])/\dK (Ty.den ts bS[j])<=1000000:=λj hj=>by
   have hm:Ty.den ts bS[j]∈bS.map (Ty.den ts):=List.mem_map.2 ⟨bS[j],gM _,rfl⟩;exact⟨lA GI.2.2.1 _ hm,by have:=uO hm;omega⟩
  have HK:∀j(hj:j<bS.length),bS[j]<ts.length/\w1.cell? ⟨g,bS[j]*4,none⟩=some (.int .i64 (((bS.map λi=>Ty.kindOf (Ty.den ts i)).getD j 0:Nat))):=λj hj=>by
   have hl:bS[j]<ts.length:=by have:=wx.list bS[j] (gM _);omega
   obtain⟨g2,ni,y,e,_,_,_,hy,hB,_,_⟩:=R_ _ hl;cases e;refine⟨hl,?_⟩;rw[hB.q0,uR (by simpa using hj),List.getElem_map,nO hw hy];rfl
  have HT:∀j(hj:j<bS.length),r9 (.slice (some ⟨g,0,none⟩) ts.length cap) w1 bS[j] ((Ty.texts (bS.map (Ty.den ts))).getD j []):=λj hj=>by
   have e: (Ty.texts (bS.map (Ty.den ts))).getD j []=Ty.text (Ty.den ts bS[j]):=by
    rw[fT,uR (by simpa using hj),List.getElem_map,List.getElem_map]
   rw[e];exact key _ (wx.list bS[j] (gM _)) (HL j hj).1 (HL j hj).2
  have acX:∀j,j<bS.length->((Ty.texts (bS.map (Ty.den ts))).getD j []).length<=900000000:=λj hj=>by
   have e: (Ty.texts (bS.map (Ty.den ts))).getD j []=Ty.text (Ty.den ts bS[j]):=by
    rw[fT,uR (by simpa using hj),List.getElem_map,List.getElem_map]
   rw[e];have hl:bS[j]<ts.length:=by have:=wx.list bS[j] (gM _);omega
   have:=rU _ (qF hw _ bS[j] (Nat.lt_succ_self _) hl) (HL j hj).1;have:=(HL j hj).2;omega
  have BQ:bS.length=(Ty.texts (bS.map (Ty.den ts))).length:=by rw[fT];simp
  have hk:kd=1\/kd=2\/kd=3\/kd=4\/kd=5\/kd=6\/kd=7\/kd=8\/kd=9\/kd=10:=by omega
  rcases hk with rfl|rfl|rfl|rfl|rfl|rfl|rfl|rfl|rfl|rfl
  ·rw[Ty.text]at hR
   exact VT w1 g cap ts.length n of hg hcap hlen hn fds bS fv lv hA mw lQ (λw' hb=>hR w' hb)
  ·rw[Ty.text]at hR
   exact Xl w1 g cap ts.length n of hg hcap hlen hn fds bS fv lv hA mw lQ (λw' hb=>hR w' hb)
  ·rw[Ty.text]at hR
   exact XF w1 g cap ts.length n of hg hcap hlen hn fds bS fv lv hA mw lQ (λw' hb=>hR w' hb)
  ·rw[Ty.text]at hR
   exact Vj w1 g cap ts.length n of hg hcap hlen hn fds bS fv lv hA mw lQ (λw' hb=>hR w' hb)
  ·rw[Ty.text]at hR
   exact XT w1 g cap ts.length n of hg hcap hlen hn fds bS fv lv hA mw lQ (λw' hb=>hR w' hb)
  ·rw[Ty.text]at hR
   exact W4 w1 g cap ts.length n of hg hcap hlen hn fds bS fv lv hA mw lQ (λw' hb=>hR w' hb)
  ·have BN: (Ty.texts (fds.map λf=>Ty.den ts f.2)).length=fds.length:=by rw[fT];simp
   have XH:∀j(hj:j<fds.length),([123]++dV ((fds.map Prod.fst).take (j+1)) ((Ty.texts (fds.map λf=>Ty.den ts f.2)).take (j+1)):List UInt8)=([123]++dV ((fds.map Prod.fst).take j) ((Ty.texts (fds.map λf=>Ty.den ts f.2)).take j))++mg fds[j].1 (Ty.text (Ty.den ts fds[j].2)):=λj hj=>by
    rw[List.take_succ_eq_append_getElem (by simpa using hj),List.take_succ_eq_append_getElem (by omega),rB _ _ _ _ (by simp;omega),List.append_assoc];congr 3
    ·simp
    ·simp[fT]
   have GB:∀d j,j+d=fds.length->([123]++dV ((fds.map Prod.fst).take j) ((Ty.texts (fds.map λf=>Ty.den ts f.2)).take j):List UInt8).length<=([123]++dV ((fds.map Prod.fst).take fds.length) ((Ty.texts (fds.map λf=>Ty.den ts f.2)).take fds.length):List UInt8).length:=by
    intro d;induction d with
    |zero=>intro j h;rw[show j=fds.length by omega];exact nR _
    |succ d afr=>
     intro j h;have h1:=afr (j+1) (by omega);rw[XH j (by omega),List.length_append]at h1
     omega
   have Qc: ([123]++dV ((fds.map Prod.fst).take fds.length) ((Ty.texts (fds.map λf=>Ty.den ts f.2)).take fds.length):List UInt8)=[123]++dV (fds.map Prod.fst) (Ty.texts (fds.map λf=>Ty.den ts f.2)):=by
    rw[List.take_of_length_le (by simp),List.take_of_length_le (by omega)]
   rw[Ty.text,if_pos rfl,List.length_map]at hR kG
   refine abh w1 g cap ts.length n of hg hcap hlen hn fds bS fv lv hA mw lQ lx.1 (λj=>if h:j<fds.length then Ty.text (Ty.den ts fds[j].2)else []) (λj=>[123]++dV ((fds.map Prod.fst).take j) ((Ty.texts (fds.map λf=>Ty.den ts f.2)).take j)) (λj hj=>?_) rfl (λj hj=>?_) (λj hj=>?_) (λw' hb=>?_)
   ·rw[dif_pos hj];exact key _ (wx.fields fds[j] (gM _)) (HP j hj).1 (HP j hj).2
   ·rw[dif_pos hj];exact XH j hj
   ·have h1:=GB (fds.length-j) j (by omega);rw[Qc]at h1
    simp only[List.length_append]at h1 kG⊢;omega
   ·have:=hR w' hb;rw[<-Qc]at this
    exact this
  ·have dU:=uO (l:=[Ty.den ts of]) (List.mem_singleton.2 rfl);rw[if_pos (.inl rfl)]at GI Of hR kG
   have ho:of<n:=wx.of (.inl rfl);have aah:dX (Ty.den ts of):=lA GI.2.2.2 _ (List.mem_singleton.2 rfl);rw[Ty.text,if_neg (by decide),if_pos rfl]at hR kG
   simp only[Ty.texts,List.headD_cons]at hR kG;refine aaC w1 g cap ts.length n of hg hcap hlen hn fds bS fv lv hA mw lQ (Ty.text (Ty.den ts of)) (key of ho aah (by omega)) ?_ hR;simp only[lzA,lzC,lzN]at kG;omega
  ·have dU:=uO (l:=[Ty.den ts of]) (List.mem_singleton.2 rfl);rw[if_pos (.inr rfl)]at GI Of hR kG
   have ho:of<n:=wx.of (.inr rfl);have aah:dX (Ty.den ts of):=lA GI.2.2.2 _ (List.mem_singleton.2 rfl);rw[Ty.text,if_neg (by decide),if_neg (by decide),if_pos rfl]at hR kG
   simp only[Ty.texts,List.headD_cons]at hR kG;have F_:=IL w1 g cap ts.length hg hcap hlen bS lv lQ lx.2 (λj=>(bS.map λi=>Ty.kindOf (Ty.den ts i)).getD j 0) (λj=>(Ty.texts (bS.map (Ty.den ts))).getD j []) false ⟨#[44,32]⟩ HK HT acX (by
    rw[yD _ _ _ BQ];simp only[lzA,lzC,lzN]at kG;show(cr [44,32] _).length<=_;omega)
   rw[yD _ _ _ BQ]at F_
   simp only[lzA,lzC,lzN]at kG;exact aaI w1 g cap ts.length n of hg hcap hlen hn fds bS fv lv hA mw lQ (cr [44,32] (Ty.texts (bS.map (Ty.den ts)))) (Ty.text (Ty.den ts of)) F_ (key of ho aah (by omega)) (by omega) (by omega) hR
  ·rw[Ty.text,if_neg (by decide),if_neg (by decide),if_neg (by decide),if_pos rfl]at hR kG
   have F_:=IL w1 g cap ts.length hg hcap hlen bS lv lQ lx.2 (λj=>(bS.map λi=>Ty.kindOf (Ty.den ts i)).getD j 0) (λj=>(Ty.texts (bS.map (Ty.den ts))).getD j []) true ⟨#[32,124,32]⟩ HK HT acX (by
    rw[DH _ _ _ BQ];show(cr [32,124,32] _).length<=_;have e: (bS.map λi=>Ty.kindOf (Ty.den ts i))=(bS.map (Ty.den ts)).map Ty.kindOf:=by simp
    rw[e];omega)
   rw[DH _ _ _ BQ]at F_
   have e: (bS.map λi=>Ty.kindOf (Ty.den ts i))=(bS.map (Ty.den ts)).map Ty.kindOf:=by simp
   rw[e]at F_
   exact VM w1 g cap ts.length n of hg hcap hlen hn fds bS fv lv hA mw lQ _ F_ hR
end
def ju(wB:World)(Fr:As):Prop:=∀(w:World)(L:List As)(i:Nat),Sat wB w L->L[i]?=some Fr->Below wB.heap.size wB w
theorem ju.iN(wB:World):ju wB (bY wB):=λw L i h hi=>by
 have h1:=h.at i hi;have h2:Sat wB w [bY wB]:=h1.pick [1];exact h2.aS
theorem ju.aq{wB:World}{Fr:As}{M:List As}(h:ju wB Fr):ju wB (aq (Fr::M)):=λw L i hs hi=>by
 have h1:=hs.unpack _ hi;refine h w _ (L.eraseIdx i).length h1 ?_;rw[List.getElem?_append_right (Nat.le_refl _)];simp
section
variable {w0 w:World} {Fr:As} {wb:Nat} {nv tv:Value} {main:Int} {ind:Nat} {out:List UInt8}
theorem Ba{a:Prt.Hp}{b:Nat}(xs:List BA)(hm:xs.length<=maxLen)(h:ax b (.cells (xs.map Value.string).toArray 9 (0,0)) a):pB (.slice (some ⟨b,0,none⟩) xs.length xs.length) xs a:=
 lH h hm (by simp) (by simp)
theorem A0(v:Value)(xs:List BA)(ls:List (List UInt8))(AQ:xs=ls.map bs)(H:Sat w0 w [Fr,gu wb nv tv main ind out,pB v xs])(hn:xs.length<=1000000)(hlen:out.length+ls.flatten.length<=1000000000){R:EW}
  (hR:∀w',Sat w0 w' [Fr,gu wb nv tv main ind (out++ls.flatten)]->R (.returned (.tuple #[])) w'):
  Calls prog 67 #[.pointer (some ⟨wb,0,none⟩),v] w R:=by
 obtain⟨a,cap,rfl⟩:=ag (H.row 2);have pG:xs.length=ls.length:=by rw[AQ];simp
 have adV:=qh AQ;have Iv:=qh pG;have HS:=qh H;have Bl:=qh hlen;clear H AQ pG hlen;go_in;go_wp2_with fail;go_loopw [8] (λi wr=>∃k:Nat,k<=xs.length/\i=.int .i64 k/\Hq (Sat w0 wr [Fr,gu wb nv tv main ind (out++(ls.take k).flatten),pB (.slice a xs.length cap) xs])) (λi _=>xs.length-(intOf i).toNat)
 case atStart=>exact⟨0,by omega,rfl,by rw[List.take_zero,List.flatten_nil,List.append_nil];exact HS.o⟩
 case round=>
  obtain⟨k,hk,rfl,hS⟩:=hrel;by_cases bz:k<xs.length
  ·obtain⟨g,ni,e,hg,d0⟩:=TP (hS.out.row 2) k bz;cases e;have u_:k<ls.length:=by rw[<-Iv.o];exact bz
   have hx:xs[k]=bs ls[k]:=by have:=adV.o;subst this;simp
   have ow: (ls.take (k+1)).flatten=(ls.take k).flatten++ls[k]:=by rw[List.take_succ_eq_append_getElem u_,List.flatten_append,List.flatten_cons,List.flatten_nil,List.append_nil]
   have hle: (ls.take k).flatten.length+ls[k].length<=ls.flatten.length:=by
    have h1:ls.flatten=(ls.take (k+1)).flatten++(ls.drop (k+1)).flatten:=by rw[<-List.flatten_append,List.take_append_drop]
    rw[h1,ow];simp
   have HX:=qh hx;have agE:=qh ow;have oJ:=qh hle;generalize ls[k]=y at*
   generalize xs[k]=x at*
   have Z3:=qh (hS.out.at 1 rfl);clear hx ow hle u_;go_wp2_with fail;refine uC Z3.o x y HX.o (by have:=Bl.o;have:=oJ.o;rw[List.length_append];omega) (λw1 h1=>?_);have h2:=h1.uj (L:=[Fr,gu wb nv tv main ind (out++(ls.take k).flatten),pB (.slice (some ⟨g,0,none⟩) xs.length cap) xs]) (i:=1) (by simp);have H2:=qh h2;clear h1 h2;go_wp2_with fail;go_roundw
   case rel=>exact⟨k+1,by omega,by go_num,by rw[agE.o,<-List.append_assoc];exact H2.o⟩
   case measure=>simp[intOf];omega
  ·have e:k=xs.length:=by omega
   subst e;have h1:=hS.out;rw[Iv.o,List.take_length]at h1
   have H1:=qh h1;clear h1;go_wp2_with fail;go_end0;exact hR _ (H1.o.pick [0,1])
theorem dH(H:Sat w0 w [Fr,gu wb nv tv main ind out])(s1:BA)(x1:List UInt8)(h1:s1=bs x1)(hlen:out.length+x1.length<=1000000000)(b:Nat)(hb:w.heap.size=b){R:EW}
  (hR:∀w',Sat w0 w' [Fr,gu wb nv tv main ind (out++x1)]->R (.returned (.tuple #[])) w'):
  Calls prog 67 #[.pointer (some ⟨wb,0,none⟩),.slice (some ⟨b,0,none⟩) 1 1] (w.alloc (.cells #[.string s1] 9)) R:=by
 have h:=(H.ar (.cells #[.string s1] 9) b hb.symm).cQ (i:=2) rfl (Q:=pB (.slice (some ⟨b,0,none⟩) 1 1) [s1]) λ_ h=>Ba [s1] (by unfold maxLen;simp) h
 exact A0 _ [s1] [x1] (by rw[h1];rfl) h (by simp) (by simpa using hlen) λw' h'=>hR w' (by simpa using h')
theorem FG(H:Sat w0 w [Fr,gu wb nv tv main ind out])(s1 s2:BA)(x1 x2:List UInt8)(h1:s1=bs x1)(h2:s2=bs x2)(hlen:out.length+(x1++x2).length<=1000000000)(b:Nat)(hb:w.heap.size=b){R:EW}
  (hR:∀w',Sat w0 w' [Fr,gu wb nv tv main ind (out++(x1++x2))]->R (.returned (.tuple #[])) w'):
  Calls prog 67 #[.pointer (some ⟨wb,0,none⟩),.slice (some ⟨b,0,none⟩) 2 2] (w.alloc (.cells #[.string s1,.string s2] 9)) R:=by
 have h:=(H.ar (.cells #[.string s1,.string s2] 9) b hb.symm).cQ (i:=2) rfl (Q:=pB (.slice (some ⟨b,0,none⟩) 2 2) [s1,s2]) λ_ h=>Ba [s1,s2] (by unfold maxLen;simp) h
 exact A0 _ [s1,s2] [x1,x2] (by rw[h1,h2];rfl) h (by simp) (by simpa using hlen) λw' h'=>hR w' (by simpa using h')
theorem Ni(H:Sat w0 w [Fr,gu wb nv tv main ind out])(s1 s2 s3:BA)(x1 x2 x3:List UInt8)(h1:s1=bs x1)(h2:s2=bs x2)(h3:s3=bs x3)(hlen:out.length+(x1++(x2++x3)).length<=1000000000)(b:Nat)(hb:w.heap.size=b){R:EW}
  (hR:∀w',Sat w0 w' [Fr,gu wb nv tv main ind (out++(x1++(x2++x3)))]->R (.returned (.tuple #[])) w'):
  Calls prog 67 #[.pointer (some ⟨wb,0,none⟩),.slice (some ⟨b,0,none⟩) 3 3] (w.alloc (.cells #[.string s1,.string s2,.string s3] 9)) R:=by
 have h:=(H.ar (.cells #[.string s1,.string s2,.string s3] 9) b hb.symm).cQ (i:=2) rfl (Q:=pB (.slice (some ⟨b,0,none⟩) 3 3) [s1,s2,s3]) λ_ h=>Ba [s1,s2,s3] (by unfold maxLen;simp) h
 exact A0 _ [s1,s2,s3] [x1,x2,x3] (by rw[h1,h2,h3];rfl) h (by simp) (by simpa [Nat.add_assoc]using hlen) λw' h'=>hR w' (by simpa using h')
end
structure PB(wB:World)(nv tv:Value)(pg:Ty.Pg):Prop where
 nd:∃rows,rows.map NdRow.t=pg.ns/\NRd wB nv rows
 ty:∃rows,rows.map TyRow.t=pg.ts/\TyRd wB tv rows
 ok:PgOk pg
theorem NdAt.below{w w':World}{g n:Nat}{t:Nd}{lv:Value}(h:NdAt w g n t lv)(hb:Below w.heap.size w w'):NdAt w' g n t lv:=
 ⟨av hb h.q0,av hb h.q1,av hb h.q2,av hb h.q3,av hb h.q4,av hb h.q5,av hb h.q6,av hb h.q7,av hb h.q8⟩
theorem Qa{wB:World}{nv:Value}{pg:Ty.Pg}(G9:∃rows,rows.map NdRow.t=pg.ns/\NRd wB nv rows)(aD:PgOk pg){n:Nat}{nd:Nd}(hn:pg.ns[n]?=some nd):
  ∃(g cap:Nat)(lv:Value),nv=.slice (some ⟨g,0,none⟩) pg.ns.length cap/\n<pg.ns.length/\g<wB.heap.size/\pg.ns.length<=cap/\cap<=maxLen/\NdAt wB g n nd lv/\wB.ownsRow 0 3 1 lv nd.list.length (nd.list.map aQ)/\NdOk nd pg.ts/\pg.ns.length<=1200:=by
 obtain⟨rows,hr,xK⟩:=G9;have hl:n<pg.ns.length:=by
  rcases Nat.lt_or_ge n pg.ns.length with hl|hl
  ·exact hl
  ·rw[List.getElem?_eq_none hl]at hn;cases hn
 obtain⟨g,cap,lv,e,h1,h2,h3,h4,h5⟩:=xK.look hr hl;rw[List.getElem?_eq_getElem hl]at hn
 cases hn;exact⟨g,cap,lv,e,hl,h1,h2,h3,h4,h5,aD.ns _ (gM _),aD.o7⟩
theorem PB.look{wB:World}{nv tv:Value}{pg:Ty.Pg}(h:PB wB nv tv pg){n:Nat}{nd:Nd}(hn:pg.ns[n]?=some nd):
  ∃(g cap:Nat)(lv:Value),nv=.slice (some ⟨g,0,none⟩) pg.ns.length cap/\n<pg.ns.length/\g<wB.heap.size/\pg.ns.length<=cap/\cap<=maxLen/\NdAt wB g n nd lv/\wB.ownsRow 0 3 1 lv nd.list.length (nd.list.map aQ)/\NdOk nd pg.ts/\pg.ns.length<=1200:=Qa h.nd h.ok hn
section
variable {wB w:World} {Fr:As} {wb:Nat} {nv tv:Value} {pg:Ty.Pg} {main:Int} {ind:Nat} {out:List UInt8}
theorem eh(hP:PB wB nv tv pg)(hF:ju wB Fr)(H:Sat wB w [Fr,gu wb nv tv main ind out]){n:Nat}{nd:Nd}(hn:pg.ns[n]?=some nd){R:EW}
  (hR:∀w' lv,wB.ownsRow 0 3 1 lv nd.list.length (nd.list.map aQ)->Below w.heap.size w w'->R (.returned (aH nd lv)) w'):
  Calls prog 66 #[.pointer (some ⟨wb,0,none⟩),.int .i64 (n:Nat)] w R:=by
 obtain⟨g,cap,lv,rfl,lW,hg,h2,h3,hA,hl,_,h5⟩:=hP.look hn;have hb:=hF w _ 0 H rfl;have Kq:g<w.heap.size:=nL hg hb.size;obtain⟨q0,q1,q2,q3,q4,q5,q6,q7,q8⟩:=hA.below hb;obtain⟨p,v,hw⟩:=H.oP;have c2:=hw.cell 2 2;have aht:=hw.lt 2;obtain⟨la,lc,rfl⟩:=ag hl;dsimp only at c2;unfold maxLen at h3;obtain⟨kd,fa,fb,fc,fl,tx,fn,abu,ps⟩:=nd;dsimp only at*
 generalize pg.ns.length=N at*
 go_in;go_wp2;refine bodyPost_ret ?_ rfl (hR _ _ hl ?_)
 ·simp[results,results66,go_sem,aH]
 ·repeat' (first|exact bR _ _|apply Below.drew|apply Below.setCell|apply Below.alloc|(simp;done)|(simp;omega)|omega)
end
def Q6(nd:Nd):Nat:=if nd.kind=13 then 3 else if nd.kind≠12 then 4 else dI nd.text
theorem zw(w:World)(nd:Nd)(lv:Value)(hl:∃a n c,lv=.slice a n c){R:EW}(hR:∀w',Below w.heap.size w w'->R (.returned (.int .i64 (Q6 nd:Nat))) w'):
  Calls prog 126 #[aH nd lv] w R:=by
 have HR:=qh hR;obtain⟨la,ln,lc,rfl⟩:=hl;obtain⟨kd,fa,fb,fc,fl,tx,fn,abu,ps⟩:=nd;dsimp only[Q6,aH]at HR⊢;clear hR;by_cases tQ:kd=13
 ·subst tQ;rw[if_pos rfl]at HR
  go_in;go_wp2_with fail;exact HR.o _ ((bR _ _).alloc (nR _) _)
 ·rw[if_neg tQ]at HR
  have ahq:=kN kd 13 13;by_cases kn:kd=12
  ·subst kn;rw[if_neg (by simp)]at HR
   unfold dI at HR;have hc: (tx.toList==[42])=true/\tx.data.toList=[42]\/(tx.toList==[42])=false/\((tx.toList==[43])=true\/(tx.toList==[43])=false/\(tx.toList==[45])=true)/\(tx.data.toList≠[42]/\(tx.data.toList=[43]\/tx.data.toList=[45]))\/
     ((tx.toList==[42])=false/\(tx.toList==[43])=false/\(tx.toList==[45])=false)/\(tx.data.toList≠[42]/\¬(tx.data.toList=[43]\/tx.data.toList=[45])):=by
    rw[Lib.toList_data];by_cases h1:tx.data.toList=[42]
    ·left;simp[h1]
    ·right;by_cases h2:tx.data.toList=[43]
     ·left;simp[h2]
     ·by_cases h3:tx.data.toList=[45]
      ·left;simp[h3]
      ·right;simp[h1,h2,h3]
   clear tQ;rcases hc with⟨k1,hv⟩|⟨k1,hk,Hk,Po⟩|⟨⟨k1,k2,k3⟩,Hk,Po⟩
   ·rw[if_pos hv]at HR
    clear hv;go_in;go_wp2_with fail;exact HR.o _ ((bR _ _).alloc (nR _) _)
   ·rw[if_neg Hk,if_pos Po]at HR
    clear Hk Po;rcases hk with k2|⟨k2,k3⟩
    ·go_enter func126,ntmps126;go_wp2_with fail;exact HR.o _ ((bR _ _).alloc (nR _) _)
    ·go_enter func126,ntmps126;go_wp2_with fail;exact HR.o _ ((bR _ _).alloc (nR _) _)
   ·rw[if_neg Hk,if_neg Po]at HR
    clear Hk Po;go_in;go_wp2_with fail;exact HR.o _ ((bR _ _).alloc (nR _) _)
  ·rw[if_pos kn]at HR
   have ag2: ((kd:Int) !=12)=true:=by simp;omega
   clear tQ kn;go_in;go_wp2_with fail;exact HR.o _ ((bR _ _).alloc (nR _) _)
section
open Ty (Tr)
theorem vQ(sep:List UInt8)(l:List (List UInt8))(j:Nat)(hj:j<l.length):cr sep (l.take (j+1))=(if j=0 then cr sep (l.take j)else cr sep (l.take j)++sep)++l[j]:=by
 rw[List.take_succ_eq_append_getElem hj,wN,List.length_take];by_cases h:j=0
 ·subst h;simp[cr]
 ·rw[if_neg (by omega),if_neg h]
theorem Gp(sep:List UInt8)(l:List (List UInt8)):∀d j,j+d=l.length->(cr sep (l.take j)).length<=(cr sep l).length:=by
 intro d;induction d with
 |zero=>intro j h;rw[List.take_of_length_le (by omega)];exact nR _
 |succ d ih=>
  intro j h;have h1:=ih (j+1) (by omega);rw[vQ sep l j (by omega),List.length_append]at h1
  split at h1
  ·omega
  ·rw[List.length_append]at h1;omega
end
theorem PB.text{wB:World}{nv tv:Value}{pg:Ty.Pg}(h:PB wB nv tv pg){n:Nat}(hn:TyIn n pg.ts):r9 tv wB n (Ty.text (Ty.den pg.ts n))/\(Ty.text (Ty.den pg.ts n)).length<=12000:=by
 obtain⟨rows,hr,xK⟩:=h.ty;have h1:=tV h.ok.wf h.ok.nm hn;have h2:=h.ok.Qv;have h3:=hn.dK;exact⟨nM wB tv rows pg.ts hr h.ok.wf (by omega) xK (n+1) n (by omega) hn.lt h1.2.1 (by omega),by omega⟩
theorem PB.Iy{wB:World}{nv tv:Value}{pg:Ty.Pg}(h:PB wB nv tv pg):∃a n c,tv=.slice a n c:=by
 obtain⟨rows,hr,xK⟩:=h.ty;obtain⟨a,c,e⟩:=ag xK.row;exact⟨a,_,c,e⟩
section
variable {wB w:World} {Fr:As} {wb:Nat} {nv tv:Value} {pg:Ty.Pg} {main:Int} {ind:Nat} {out:List UInt8}
theorem sV(hP:PB wB nv tv pg)(hF:ju wB Fr)(H:Sat wB w [Fr,gu wb nv tv main ind out]){ty:Int}(Ez:wh ty pg.ts)(hlen:out.length+(nQ pg.ts ty).length<=1000000000){R:EW}
  (hR:∀w',Sat wB w' [Fr,gu wb nv tv main ind (out++nQ pg.ts ty)]->R (.returned (.tuple #[])) w'):
  Calls prog 69 #[.pointer (some ⟨wb,0,none⟩),.int .i64 ty] w R:=by
 obtain⟨p,v,hw⟩:=H.oP;obtain⟨ta,tn,tc,rfl⟩:=hP.Iy;have c3:=hw.cell 2 3;dsimp only at c3;unfold nQ at hR hlen;rcases Ez with rfl|⟨n,rfl,hn⟩
 ·rw[if_pos (by omega)]at hR hlen
  go_in;go_wp2;go_end0;exact hR _ (by rw[List.append_nil];exact H)
 ·rw[if_neg (by omega)]at hR hlen
  have abH:=hP.text hn;rw[show((n:Int)).toNat=n by omega]at hR hlen
  have HT:=qh abH.1;generalize Ty.text (Ty.den pg.ts n)=tx at*
  have HB:=qh (hF w _ 0 H rfl);go_in;go_wp2_with fail;refine HT.o _ HB.o _ (λw1 cd=>?_);have H1:=qh (H.below cd);go_wp2_with fail;refine FG H1.o _ _ [58,32] tx rfl rfl hlen _ (by simp) (λw2 h2=>?_);go_wp2;go_end0;exact hR _ h2
theorem tg(l:List Nat)(lv:Value)(hl:wB.ownsRow 0 3 1 lv l.length (l.map aQ))(uQ:l.length<=1000000)(xs:List (List UInt8))(adf:xs.length=l.length)(hF:ju wB Fr)(H:Sat wB w [Fr,gu wb nv tv main ind out])
  (F:FuncId) (cv:Value) (hc:∀(args:Array Value)(w:World),(callFunc F args).run prog w=.ok (.enter F args) w)
  (Bj:∀(k:Nat)(hk:k<l.length)(qR:k<xs.length)(o:List UInt8)(w1:World),Sat wB w1 [Fr,gu wb nv tv main ind o]->o.length+(xs[k]).length<=900000000->∀R:EW,
   (∀w2,Sat wB w2 [Fr,gu wb nv tv main ind (o++xs[k])]->R (.returned (.tuple #[])) w2)->Calls prog F #[.int .i64 (l[k]:Nat),cv] w1 R)
  (hlen:out.length+(cr [44,32] xs).length<=900000000) {R:EW}
  (hR:∀w',Sat wB w' [Fr,gu wb nv tv main ind (out++cr [44,32] xs)]->R (.returned (.tuple #[])) w'):
  Calls prog 195 #[.pointer (some ⟨wb,0,none⟩),lv,.func (.func F) #[] #[cv]] w R:=by
 obtain⟨a,cap,rfl⟩:=ag hl;go_in;go_wp2;go_loopw [10] (λi wr=>∃k:Nat,k<=l.length/\i=.int .i64 k/\Hq (Sat wB wr [Fr,gu wb nv tv main ind (out++cr [44,32] (xs.take k))])) (λi _=>l.length-(intOf i).toNat)
 case atStart=>exact⟨0,by omega,rfl,by rw[List.take_zero];show Sat _ _ [Fr,gu wb nv tv main ind (out++[])];rw[List.append_nil];exact H⟩
 case round=>
  obtain⟨k,hk,rfl,hS⟩:=hrel;by_cases bz:k<l.length
  ·have hb:=hF wr _ 0 hS.out rfl;obtain⟨g,ni,e,hg,d0⟩:=ints_at (ay hl hb) k bz;cases e;have adI:k<xs.length:=by rw[adf];exact bz
   have fY:=vQ [44,32] xs k adI;have U2:=Gp [44,32] xs (xs.length-(k+1)) (k+1) (by omega);have HD:=qh (Bj k bz adI);rw[fY,List.length_append]at U2
   generalize xs[k]=x at*
   generalize l[k]=n at*
   by_cases W6:k=0
   ·subst W6;rw[if_pos rfl]at fY U2
    go_wp2_with fail;refine HD.o _ _ hS.out (by have:=hlen;have:=U2;rw[List.length_append];omega) _ (λw1 h1=>?_);have H2:Sat wB w1 [Fr,gu wb nv tv main ind (out++cr [44,32] (xs.take (0+1)))]:=by rw[fY,<-List.append_assoc];exact h1
    go_wp2;go_roundw
    case rel=>exact⟨0+1,by omega,by go_num,H2⟩
    case measure=>simp[intOf];omega
   ·rw[if_neg W6]at fY U2
    have CZ:0<k:=by omega
    go_wp2_with fail;refine dH hS.out _ [44,32] rfl (by have:=hlen;have:=U2;rw[List.length_append]at this⊢;simp only[List.length_cons,List.length_nil]at this⊢;omega) _ (by simp) (λw1 h1=>?_);rw[List.append_assoc]at h1
    have H1:=qh h1;go_wp2_with fail;refine HD.o _ _ H1.o (by have:=hlen;have:=U2;rw[List.length_append];omega) _ (λw2 h2=>?_);have h3:Sat wB w2 [Fr,gu wb nv tv main ind (out++cr [44,32] (xs.take (k+1)))]:=by rw[fY,<-List.append_assoc];exact h2
    go_wp2;go_roundw
    case rel=>exact⟨k+1,by omega,by go_num,h3⟩
    case measure=>simp[intOf];omega
  ·have e:k=l.length:=by omega
   subst e;have h1:=hS.out;rw[<-adf,List.take_length]at h1
   have H1:=qh h1;go_wp2;go_end0;exact hR _ H1.o
end
def qK(wB:World)(nv tv:Value)(pg:Ty.Pg)(wb:Nat)(main:Int)(e:Ty.Ex):Prop:=
 ∀(n:Nat),aG pg.ns e n->∀(least ind:Nat)(out:List UInt8)(w:World)(Fr:As),ju wB Fr->Sat wB w [Fr,gu wb nv tv main ind out]->least<=10->ind+Ty.aw e<=1300->
  out.length+(wP pg.ts ind least e).length<=900000000->∀R:EW,(∀w',Sat wB w' [Fr,gu wb nv tv main ind (out++wP pg.ts ind least e)]->R (.returned (.tuple #[])) w')->
  Calls prog 70 #[.pointer (some ⟨wb,0,none⟩),.int .i64 (n:Nat),.int .i64 (least:Nat)] w R
def sy(F:FuncId)(wB:World)(nv tv:Value)(pg:Ty.Pg)(wb:Nat)(main:Int)(e:Ty.Ex):Prop:=
 ∀(n:Nat)(nd:Nd)(lv:Value),aG pg.ns e n->pg.ns[n]?=some nd->wB.ownsRow 0 3 1 lv nd.list.length (nd.list.map aQ)->
  ∀(ind:Nat)(out:List UInt8)(w:World)(Fr:As),ju wB Fr->Sat wB w [Fr,gu wb nv tv main ind out]->ind+Ty.aw e<=1300->
  out.length+(wE pg.ts ind e).length<=900000000->∀R:EW,(∀w',Sat wB w' [Fr,gu wb nv tv main ind (out++wE pg.ts ind e)]->R (.returned (.tuple #[])) w')->
  Calls prog F #[.pointer (some ⟨wb,0,none⟩),aH nd lv] w R
theorem Tc{ns:List Nd}{n:Nat}:∀{e:Ty.Ex},aG ns e n->∃nd,ns[n]?=some nd/\Q6 nd=Ty.lvl e
 | .num ..,h=>by rw[aG]at h;exact⟨_,h,rfl⟩
 | .text ..,h=>by rw[aG]at h;exact⟨_,h,rfl⟩
 | .bool ..,h=>by rw[aG]at h;exact⟨_,h,rfl⟩
 | .null ..,h=>by rw[aG]at h;exact⟨_,h,rfl⟩
 | .var ..,h=>by rw[aG]at h;exact⟨_,h,rfl⟩
 | .fn ..,h=>by rw[aG]at h;obtain⟨_,_,h,_⟩:=h;exact⟨_,h,rfl⟩
 | .call ..,h=>by rw[aG]at h;obtain⟨_,_,h,_⟩:=h;exact⟨_,h,rfl⟩
 | .get ..,h=>by rw[aG]at h;obtain⟨_,h,_⟩:=h;exact⟨_,h,rfl⟩
 | .atX ..,h=>by rw[aG]at h;obtain⟨_,_,h,_⟩:=h;exact⟨_,h,rfl⟩
 | .obj ..,h=>by rw[aG]at h;obtain⟨_,h,_⟩:=h;exact⟨_,h,rfl⟩
 | .arr ..,h=>by rw[aG]at h;obtain⟨_,h,_⟩:=h;exact⟨_,h,rfl⟩
 | .two ..,h=>by rw[aG]at h;obtain⟨_,_,h,_⟩:=h;exact⟨_,h,rfl⟩
 | .one ..,h=>by rw[aG]at h;obtain⟨_,h,_⟩:=h;exact⟨_,h,rfl⟩
 | .asX ..,h=>by rw[aG]at h;obtain⟨_,h,_⟩:=h;exact⟨_,h,rfl⟩
def cj(nd:Nd)(lv:Value):Obj:=.cells #[.int .i64 nd.kind,.int .i64 nd.a,.int .i64 nd.b,.int .i64 nd.c,lv,.string nd.text,.int .i64 nd.n,.int .i64 nd.ty,.int .i64 nd.pos] 66
section
variable {wB:World} {nv tv:Value} {pg:Ty.Pg} {wb:Nat} {main:Int}
theorem cL(hP:PB wB nv tv pg){e:Ty.Ex}(hB:sy 127 wB nv tv pg wb main e):qK wB nv tv pg wb main e:=by
 intro n hd least ind out w Fr hF H hle dU hlen R hR;obtain⟨nd,hn,WH⟩:=Tc hd;have HR:=qh hR;have Bl:=qh hlen;have HS:=qh H;have HF:=qh hF;have afa:=qh WH;have agF:=qh (λlv hl=>hB n nd lv hd hn hl ind);have Cs:=qh dU;have oG:=qh (λR=>@eh wB w Fr wb nv tv pg main ind out hP hF H n nd hn R);clear hB hR hlen H hF WH hP hd hn dU;go_enter func70,ntmps70;go_wp2_with fail;refine oG.o _ (λw1 lv hl cd=>?_);obtain⟨la,lc,rfl⟩:=ag hl;have h1:=(HS.o.below cd).ar (cj nd (.slice la nd.list.length lc)) w1.heap.size;have fG:=qh (agF.o _ hl);have H1:=qh h1;clear hl cd h1;dsimp only[aH];go_wp2_with fail;refine zw _ nd (.slice la nd.list.length lc) ⟨_,_,_,rfl⟩ (λw2 aW=>?_);have h2:=H1.o.below aW;rw[afa.o];have x0:=h2.cell 2 0;have x1:=h2.cell 2 1;have x2:=h2.cell 2 2;have x3:=h2.cell 2 3;have x4:=h2.cell 2 4;have x5:=h2.cell 2 5;have x6:=h2.cell 2 6;have x7:=h2.cell 2 7;have x8:=h2.cell 2 8;have H2:=qh h2.swap;clear aW h2;unfold wP Ty.par at HR Bl;by_cases hc:Ty.lvl e<least
 ·rw[decide_eq_true hc,if_pos rfl]at HR Bl
  have k2:decide (Ty.lvl e<least)=true:=decide_eq_true hc;have uQ:=Bl.o;simp only[lzA,lzC,lzN]at uQ;have oJ:=qh uQ;generalize Ty.lvl e=Zv at*
  clear hc uQ Bl;go_wp2_with fail;refine dH H2.o _ [40] rfl (by have:=oJ.o;simp;omega) _ (by simp) (λw3 h3=>?_);have h4:=h3.bA;have y0:=h4.cell 2 0;have y1:=h4.cell 2 1;have y2:=h4.cell 2 2;have y3:=h4.cell 2 3;have y4:=h4.cell 2 4;have y5:=h4.cell 2 5;have y6:=h4.cell 2 6;have y7:=h4.cell 2 7;have y8:=h4.cell 2 8;have H3:=qh h3;clear h3 h4;go_wp2_with fail;refine fG.o _ w3 _ (HF.o.aq (M:=[_])) H3.o Cs.o (by have:=oJ.o;rw[List.length_append];simp;omega) _ (λw5 h5=>?_);have H5:=qh h5;clear h5;go_wp2_with fail;refine dH H5.o _ [41] rfl (by have:=oJ.o;rw[List.length_append,List.length_append];simp;omega) _ (by simp) (λw6 h6=>?_);have H6:=qh (h6.unpack 0 rfl);clear h6;go_wp2_with fail;go_end0;refine HR.o _ ?_;rw[show out++([40]++wE pg.ts ind e++[41])=out++[40]++wE pg.ts ind e++[41]by simp];exact H6.o.pick [1,0]
 ·rw[decide_eq_false hc]at HR Bl
  have k2:decide (Ty.lvl e<least)=false:=decide_eq_false hc;rw[if_neg (by decide)]at HR Bl
  generalize Ty.lvl e=Zv at*
  clear hc;go_wp2_with fail;refine fG.o _ w2 _ (HF.o.aq (M:=[_])) H2.o Cs.o Bl.o _ (λw5 h5=>?_);have H6:=qh (h5.unpack 0 rfl);clear h5;go_wp2_with fail;go_end0;exact HR.o _ (H6.o.pick [1,0])
end
end Go.Proofs.YtdlbhiaceheffabGreatDoor
