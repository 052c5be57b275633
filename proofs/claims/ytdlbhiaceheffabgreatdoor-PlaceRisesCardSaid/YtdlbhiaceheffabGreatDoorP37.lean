/- Walks of the parser's sum, and of what expr runs. -/
import Derived.Test.YtdlbhiaceheffabGreatDoorP36
set_option linter.all false
set_option maxRecDepth 100000
set_option maxHeartbeats 4000000
namespace Go.Proofs.YtdlbhiaceheffabGreatDoor
open Go Go.RowKit Ty Tok ak Tryz Proofs.Tryz
section
variable {ad:List Tok.Tk} {d:Nat} {ONE:Ty.M Nat}
theorem KF(pI:eB 319 ad d ONE)(hA:bg 1 0 0 ONE)(hN:Nx ONE)(w0 w:World)(Fr:As)(pb xb:Nat)(st:Ty.St)(H:Sat w0 w [Fr,aX pb d ad st])(hx:∀w1,Sat w0 w1 [Fr]→w1.cell? ⟨xb,0,none⟩=some (.pointer (some ⟨pb,0,none⟩))){R:EW}
  (aF:∀n s2 w2,lR ad ONE st=.ok (n,s2)→Sat w0 w2 [Fr,aX pb d ad s2]→R (.returned (.int .i64 (n:Nat))) w2)
  (av:∀f w2,lR ad ONE st=.error f→Sat w0 w2 [Fr]→R (.panicked (aJ f)) w2):
  Calls prog 318 #[.pointer (some ⟨xb,0,none⟩)] w R:=by
 have aY:=qh aF;have aB:=qh av;have OT:=qh pI;have HA:=qh hA;have HN:=qh hN;have x0:=hx w (H.pick [0]);have h1:=H.aj (.cells #[.string ⟨#[42]⟩] 9) w.heap.size;have H1:=qh h1;clear aF av pI hA hN H hx h1;go_in;go_wp2_with fail;refine O0 w0 _ _ pb d w.heap.size ad st ONE HA.o HN.o [⟨#[42]⟩] (by decide) 319 _ Tryz.call319 (λw1 h=>⟨(h.unpack (i:=0) rfl).lt 1 rfl,λj hj=>(h.unpack (i:=0) rfl).cell 1 rfl j (by
   match j,hj with
   |0,_=>rfl)⟩) (λs w1 h R aF av=>OT.o w0 w1 _ pb s h R aF av) (H1.o.at 1 rfl) (λn s2 w2 hm h2=>?_) (λf w2 hm h2=>?_)
 ·have HM:Hq (lR ad ONE st=.ok (n,s2)):=hm;have H2:=qh h2.kJ;clear hm h2;go_wp2_with fail;exact aY.o _ _ _ HM.o (H2.o.pick [0,1])
 ·have HM:Hq (lR ad ONE st=.error f):=hm;have H2:=qh (h2.unpack (i:=0) rfl);clear hm h2;go_wp2_with fail;exact⟨rfl,aB.o _ _ HM.o (H2.o.pick [0])⟩
theorem NW(pI:eB 319 ad d ONE)(hA:bg 1 0 0 ONE)(hN:Nx ONE):eB 281 ad d (qp ad ONE):=by
 intro w0 w Fr pb st H R aF av;have aY:=qh aF;have aB:=qh av;have OT:=qh pI;have HA:=qh hA;have HN:=qh hN;have h1:=(H.aj (.cells #[.pointer (some ⟨pb,0,none⟩)] 80) w.heap.size).aj (.cells #[.string ⟨#[43]⟩,.string ⟨#[45]⟩] 9) (w.heap.size+1);have H1:=qh h1;clear aF av pI hA hN H h1;go_enter func281,ntmps281;go_wp2_with fail;refine Pk w0 _ _ pb d (w.heap.size+1) ad st (lR ad ONE) (vs HA.o) (xL HN.o) [⟨#[43]⟩,⟨#[45]⟩] (by decide) 318 _ Tryz.call318 (λw1 h=>⟨(h.unpack (i:=0) rfl).lt 2 rfl,λj hj=>(h.unpack (i:=0) rfl).cell 2 rfl j (by
   match j,hj with
   |0,_=>rfl
   |1,_=>rfl)⟩) (λs w1 h R aF av=>KF OT.o HA.o HN.o w0 w1 _ pb w.heap.size s h (λw' h'=>(h'.unpack (i:=0) rfl).cell 1 rfl 0 rfl) aF av) (H1.o.at 1 rfl) (λn s2 w2 hm h2=>?_) (λf w2 hm h2=>?_)
 ·have HM:Hq (qp ad ONE st=.ok (n,s2)):=hm;have H2:=qh h2.ny;clear hm h2;go_wp2_with fail;exact aY.o _ _ _ HM.o (H2.o.pick [0,1])
 ·have HM:Hq (qp ad ONE st=.error f):=hm;have H2:=qh (h2.unpack (i:=0) rfl);clear hm h2;go_wp2_with fail;exact⟨rfl,aB.o _ _ HM.o (H2.o.pick [0])⟩
def Ci:List BA:=[⟨#[61,61]⟩,⟨#[60]⟩]
def KV:Array Value:=#[.string ⟨#[61,61]⟩,.string ⟨#[60]⟩]
theorem Gf(pI:eB 319 ad d ONE)(hA:bg 1 0 0 ONE)(hN:Nx ONE)(w0 w:World)(Fr:As)(pb xb:Nat)(st:Ty.St)(H:Sat w0 w [Fr,aX pb d ad st])(hx:∀w1,Sat w0 w1 [Fr]→w1.cell? ⟨xb,0,none⟩=some (.pointer (some ⟨pb,0,none⟩))){R:EW}
  (aF:∀n s2 w2,jU ad ONE st=.ok (n,s2)→Sat w0 w2 [Fr,aX pb d ad s2]→R (.returned (.int .i64 (n:Nat))) w2)
  (av:∀f w2,jU ad ONE st=.error f→Sat w0 w2 [Fr]→R (.panicked (aJ f)) w2):
  Calls prog 280 #[.pointer (some ⟨xb,0,none⟩)] w R:=by
 have aY:=qh aF;have aB:=qh av;have Rx:=qh (NW pI hA hN);have HA:=qh (qI (ad:=ad) hA);have HN:=qh (tB (ad:=ad) hN);have HX:=qh hx;have x0:=hx w (H.pick [0]);have HS:=qh H;have jK:=H.look.wf.1;clear aF av pI hA hN H hx;go_in;go_wp2_with fail;refine Rx.o _ _ _ pb _ HS.o _ (λn s1 w1 hm h1=>?_) (λe w1 hm h1=>?_);rotate_left
 ·have HE:Hq (jU ad ONE st=.error e):=by show _= _;rw[jU,aQ hm]
  have H1:=qh h1;clear hm h1 x0;go_wp2_with fail;exact⟨rfl,aB.o _ _ HE.o H1.o⟩
 have kN:=(HN.o _ _ _ hm).2.1;have M7:Hq (∀k(hk:k<Ci.length) s',(∀j(hj:j<Ci.length),j<k→Ty.take ad Ci[j].data.toList s1=.ok (false,s1))→Ty.take ad Ci[k].data.toList s1=.ok (true,s')→jU ad ONE st=Ty.ar (qp ad ONE) (λm=>Ty.two Ci[k] n m) s'):=λk hk s' h0 h1=>by
  rw[jU,aw hm]
  match k,hk with
  |0,_=>rw[aw (show Ty.take ad [61,61] s1= _ from h1)];rfl
  |1,_=>rw[aw (show Ty.take ad [61,61] s1= _ from h0 0 (by decide) (by decide))];show Ty.ar _ _ s1= _;rw[aw (show Ty.take ad [60] s1= _ from h1)];rfl
 have yA:Hq ((∀j(hj:j<Ci.length),Ty.take ad Ci[j].data.toList s1=.ok (false,s1))→jU ad ONE st=.ok (n,s1)):=λh0=>by
  rw[jU,aw hm,aw (show Ty.take ad [61,61] s1= _ from h0 0 (by decide))];show Ty.ar _ _ s1= _;rw[aw (show Ty.take ad [60] s1= _ from h0 1 (by decide))];rfl
 have h2:=h1.aj (.cells KV 9) w1.heap.size;have oY:=h1.look.fits.2.2.2;have H2:=qh h2;clear hm h1 h2 x0;go_wp2_with fail;go_loopw [9] (λi wr=>∃k:Nat,k≤2∧i=.int .i64 k∧Hq (Sat w0 wr [Fr,aX pb d ad s1,ay w1.heap.size (.cells KV 9 (0,0))])∧Hq (∀j(hj:j<Ci.length),j<k→Ty.take ad Ci[j].data.toList s1=.ok (false,s1))) (λi _=>2-(intOf i).toNat)
 case atStart=>exact⟨0,by omega,rfl,H2.o,λj hj h=>by omega⟩
 case round=>
  obtain⟨k,hk,rfl,hS,Bp⟩:=hrel;have x1:=HX.o wr (hS.out.pick [0]);by_cases bm:k<2
  ·have Dx:k<Ci.length:=bm;have d0:wr.cell? ⟨w1.heap.size,k,none⟩=some (.string Ci[k]):=hS.out.cell 2 rfl k (by
    match k,bm with
    |0,_=>rfl
    |1,_=>rfl)
   have HY:=qh (λs'=>M7.o k Dx s' Bp.out);have Q0:Hq (Ty.take ad Ci[k].data.toList s1=.ok (false,s1)→∀j(hj:j<Ci.length),j<k+1→Ty.take ad Ci[j].data.toList s1=.ok (false,s1)):=λh j hj Hx=>by
    by_cases e:j=k
    ·subst e;exact h
    ·exact Bp.out j hj (by omega)
   have aax:=hS.out.lt 2 rfl;generalize Ci[k]=x at*
   clear Dx;go_wp2_with fail;refine cD (hS.out.at 1 rfl) x (λw2 hi h3=>?_) (λw2 hi h3=>?_)
   ·have HE:=qh (HY.o _ hi);have h4:=h3.kJ;have x2:=HX.o w2 (h4.pick [0]);have H5:=qh (Rx.o w0 w2.drew _ pb _ (h4.drew.at 1 rfl));clear hi h3 h4 x1 d0;go_wp2_with fail;go_region_law(first|(go_simp;go_at_call 281;refine H5.o _ (λm s3 w3 Kh h6=>?_) (λf w3 Kh h6=>?_);rotate_left;(exact⟨rfl,aB.o _ _ (HE.o.trans (by rw[aQ Kh])) ((h6.unpack (i:=0) rfl).pick [0])⟩);have pz:=HA.o _ _ _ Kh;have v7:=(HN.o _ _ _ Kh).1.length_le;dsimp only at pz v7;have H7:=qh h6.kJ;have x3:=HX.o w3 (H7.o.pick [0]);have T9:=qh Kh;clear h6 Kh)|(go_simp;go_at_call 282;refine yy (H7.o.at 1 rfl) x (by omega) (by omega) (λq s4 w4 UQ h8=>?_)))
    all_goals
     have abl:=qh UQ;have H8:=qh h8.kJ;clear UQ h8;go_simp;go_wp2_with fail;exact aY.o _ _ _ (HE.o.trans (by rw[aw T9.o];exact abl.o)) (H8.o.pick [0,1])
   ·have TU:=qh (Q0.o hi);have H3:=qh h3.kJ;clear hi h3 Q0;go_wp2_with fail;go_roundw
    case rel=>exact⟨k+1,by omega,by go_num,H3,TU⟩
    case measure=>simp[intOf];omega
  ·have nn:k=2:=by omega
   subst nn;have HE:=qh (yA.o (λj hj=>Bp.out j hj hj));clear Bp;go_wp2_with fail;exact aY.o _ _ _ HE.o (hS.out.pick [0,1])
end
namespace Ty
def P1(ad:List Tok.Tk)(S:M Nat)(yes:Bool)(ps a b:Nat):M Nat:=
 if yes then ar (take ad [101,108,115,101]) λe=>if e then ar (ef ad S) λc=>addNode {af 22 ps with a:=a,b:=b,c:=(c:Int)}else addNode {af 22 ps with a:=a,b:=b,c:= -1}
 else addNode {af 23 ps with a:=a,b:=b}
def Vu(ad:List Tok.Tk)(S:M Nat)(yes:Bool)(ps a:Nat):M Nat:=ar (ef ad S) λb=>P1 ad S yes ps a b
def Xa(ad:List Tok.Tk)(S:M Nat)(yes:Bool)(ps a:Nat):M Nat:=ar (need ad [41]) λ_=>Vu ad S yes ps a
def Xu(ad:List Tok.Tk)(E S:M Nat)(yes:Bool)(ps:Nat):M Nat:=ar E λa=>Xa ad S yes ps a
def YY(ad:List Tok.Tk)(E S:M Nat)(yes:Bool)(ps:Nat):M Nat:=ar (need ad [40]) λ_=>Xu ad E S yes ps
theorem Ja{ad:List Tok.Tk}{S:M Nat}{ps a b:Nat}{s s1:St}(h:take ad [101,108,115,101] s=.ok (true,s1)):P1 ad S true ps a b s=ar (ef ad S) (λc=>addNode {af 22 ps with a:=a,b:=b,c:=(c:Int)}) s1:=by
 unfold P1;rw[if_pos rfl,aw h];rfl
theorem Nu{ad:List Tok.Tk}{S:M Nat}{ps a b:Nat}{s s1:St}(h:take ad [101,108,115,101] s=.ok (false,s1)):P1 ad S true ps a b s=addNode {af 22 ps with a:=a,b:=b,c:= -1} s1:=by
 unfold P1;rw[if_pos rfl,aw h];rfl
end Ty
theorem Ag{w0 w:World}{Fr:As}{pb d:Nat}{ad:List Tok.Tk}{st:Ty.St}{T E O S:Ty.M Nat}(L:Lo ad d T E O S)(H:Sat w0 w [Fr,aX pb d ad st])(ps:Nat)(hi:Ty.is ad [105,102] st.pos=true)(jE:st.pos+1<ad.length){R:EW}
  (aF:∀n s2 w2,bH ad E S true ps st=.ok (n,s2)→Sat w0 w2 [Fr,aX pb d ad s2]→R (.returned (.int .i64 (n:Nat))) w2)
  (av:∀f w2,bH ad E S true ps st=.error f→Sat w0 w2 [Fr]→R (.panicked (aJ f)) w2):
  Calls prog 211 #[.pointer (some ⟨pb,0,none⟩),.agg #[.int .i64 0,.int .i64 0,.int .i64 0,.int .i64 0,.slice none 0 0,.string ⟨#[]⟩,.int .i64 0,.int .i64 (-1),.int .i64 ps]] w R:=by
 have aY:=qh aF;have aB:=qh av;have HL:=qh L;have bD:=H.look;have jK:=bD.wf.1;have oY:=bD.fits.2.2.2;have sW:Hq (∀r,YY ad E S true ps {st with pos:=st.pos+1}=r→bH ad E S true ps st=r):=λr h=>h
 have Sf:Ty.is ad (⟨#[105,102]⟩:BA).data.toList st.pos=true:=hi;have h1:=H.aj (.cells #[.int .i64 23,.int .i64 0,.int .i64 0,.int .i64 0,.slice none 0 0,.string ⟨#[]⟩,.int .i64 0,.int .i64 (-1),.int .i64 ps] 66) w.heap.size;have Qp:=qh (λR hR=>nU _ pb d ad st (h1.pick [0,1]).look ⟨#[105,102]⟩ (R:=R) hR);rw[Sf]at Qp
 have H1:=qh h1;clear aF av H L bD h1 hi Sf;go_in;go_wp2_with fail;refine Qp.o _ (λw2 aI=>?_);have h2:=H1.o.below aI;have y0:=h2.cell 2 rfl 0 rfl;have y3:=h2.cell 2 rfl 3 rfl;have fz:=h2.free 2 rfl;have hz:=h2.lt 2 rfl;have h3:=(h2.store 2 rfl 0 (.int .i64 22)).store 2 rfl 3 (.int .i64 (-1));obtain⟨c1,_,f0⟩:=(h3.pick [0,1]).look.cells;have jS:=(h3.pick [0,1]).look.lt;have h4:=((h3.at 1 rfl).setPos (st.pos+1) jE (by omega)).kJ;rw[show((st.pos+1:Nat):Int)=(st.pos:Int)+1 from rfl]at h4
 obtain⟨s4,LM⟩:∃s4:Ty.St,s4={st with pos:=st.pos+1}:=⟨_,rfl⟩
 have p4:s4.pos=st.pos+1:=by rw[LM]
 have n4:s4.ns.length=st.ns.length:=by rw[LM]
 rw[←LM]at h4 sW
 have H4:=qh h4;clear aI h2 h3 h4 LM;go_wp2_with fail;clear c1 f0 y0 y3 fz;refine cP (H4.o.at 1 rfl) ⟨#[40]⟩ (λw5 hm h5=>?_) (λe w5 hm h5=>?_);rotate_left
 ·have HX:Hq (bH ad E S true ps st=.error e):=sW.o _ (aQ hm);have HZ:=qh (h5.unpack (i:=0) rfl);clear hm h5;go_wp2_with fail;exact⟨rfl,aB.o _ _ HX.o (HZ.o.pick [0])⟩
 have qU:Hq (∀r,Xu ad E S true ps {s4 with pos:=s4.pos+1}=r→bH ad E S true ps st=r):=λr h=>sW.o r ((aw hm).trans h)
 have k5:=h5.kJ;obtain⟨s5,GR⟩:∃s':Ty.St,s'={s4 with pos:=s4.pos+1}:=⟨_,rfl⟩
 have p5:s5.pos=s4.pos+1:=by rw[GR]
 have n5:s5.ns.length=s4.ns.length:=by rw[GR]
 rw[←GR]at k5 qU
 have H5:=qh k5;clear hm h5 k5 GR;go_wp2_with fail;refine HL.o.e _ _ _ pb _ (H5.o.at 1 rfl) _ (λa s6 w6 hm h6=>?_) (λe w6 hm h6=>?_);rotate_left
 ·have HX:Hq (bH ad E S true ps st=.error e):=qU.o _ (aQ hm);have HZ:=qh (h6.unpack (i:=0) rfl);clear hm h6;go_wp2_with fail;exact⟨rfl,aB.o _ _ HX.o (HZ.o.pick [0])⟩
 have T3:=HL.o.ae _ _ _ hm;have yf:Hq (∀r,Xa ad S true ps a s6=r→bH ad E S true ps st=r):=λr h=>qU.o r ((aw hm).trans h)
 have k6:=h6.kJ;have y6:=k6.cell 2 rfl 1 rfl;have f6:=k6.free 2 rfl;have z6:=k6.lt 2 rfl;have m6:=k6.store 2 rfl 1 (.int .i64 (a:Nat));have H6:=qh m6;clear hm h6 k6 m6;go_wp2_with fail;clear y6 f6;refine cP (H6.o.at 1 rfl) ⟨#[41]⟩ (λw7 hm h7=>?_) (λe w7 hm h7=>?_);rotate_left
 ·have HX:Hq (bH ad E S true ps st=.error e):=yf.o _ (aQ hm);have HZ:=qh (h7.unpack (i:=0) rfl);clear hm h7;go_wp2_with fail;exact⟨rfl,aB.o _ _ HX.o (HZ.o.pick [0])⟩
 have xO:Hq (∀r,Vu ad S true ps a {s6 with pos:=s6.pos+1}=r→bH ad E S true ps st=r):=λr h=>yf.o r ((aw hm).trans h)
 have k7:=h7.kJ;obtain⟨s7,tu⟩:∃s':Ty.St,s'={s6 with pos:=s6.pos+1}:=⟨_,rfl⟩
 have p7:s7.pos=s6.pos+1:=by rw[tu]
 have n7:s7.ns.length=s6.ns.length:=by rw[tu]
 rw[←tu]at k7 xO
 have H7:=qh k7;clear hm h7 k7 tu;go_wp2_with fail
 --the block
 refine oA HL.o _ _ _ pb _ (H7.o.at 1 rfl) _ (λb s8 w8 hm h8=>?_) (λe w8 hm h8=>?_);rotate_left
 ·have HX:Hq (bH ad E S true ps st=.error e):=xO.o _ (aQ hm);have HZ:=qh (h8.unpack (i:=0) rfl);clear hm h8;go_wp2_with fail;exact⟨rfl,aB.o _ _ HX.o (HZ.o.pick [0])⟩
 have Nz:=hU HL.o.O2 _ _ _ hm;have FO:Hq (∀r,P1 ad S true ps a b s8=r→bH ad E S true ps st=r):=λr h=>xO.o r ((aw hm).trans h)
 have k8:=h8.kJ;have y8:=k8.cell 2 rfl 2 rfl;have f8:=k8.free 2 rfl;have z8:=k8.lt 2 rfl;have m8:=k8.store 2 rfl 2 (.int .i64 (b:Nat));have HK:=qh k8;have H8:=qh m8;have x0:=m8.cell 2 rfl 0 rfl;clear hm h8 k8 m8;go_wp2_with fail;clear y8 f8 x0;refine cD (H8.o.at 1 rfl) ⟨#[101,108,115,101]⟩ (λw9 hi h9=>?_) (λw9 hi h9=>?_)
 ·have Px:Hq (∀r,Ty.ar (ef ad S) (λc=>Ty.addNode {Ty.af 22 ps with a:=a,b:=b,c:=(c:Int)}) {s8 with pos:=s8.pos+1}=r→bH ad E S true ps st=r):=λr h=>FO.o r ((Ja hi).trans h)
  have k9:=h9.kJ;obtain⟨s9,Ue⟩:∃s':Ty.St,s'={s8 with pos:=s8.pos+1}:=⟨_,rfl⟩
  have p9:s9.pos=s8.pos+1:=by rw[Ue]
  have n9:s9.ns.length=s8.ns.length:=by rw[Ue]
  rw[←Ue]at k9 Px
  have H9:=qh k9;clear hi h9 k9 Ue;go_wp2_with fail;refine oA HL.o _ _ _ pb _ (H9.o.at 1 rfl) _ (λc Vz vQ hm dS=>?_) (λe vQ hm dS=>?_);rotate_left
  ·have HX:Hq (bH ad E S true ps st=.error e):=Px.o _ (aQ hm);have HZ:=qh (dS.unpack (i:=0) rfl);clear hm dS;go_wp2_with fail;exact⟨rfl,aB.o _ _ HX.o (HZ.o.pick [0])⟩
  have YC:=hU HL.o.O2 _ _ _ hm;have W8:Hq (bH ad E S true ps st=.ok (Vz.ns.length,{Vz with ns:=Vz.ns++[{Ty.af 22 ps with a:=a,b:=b,c:=(c:Int)}]})):=Px.o _ ((aw hm).trans rfl);have vD:=dS.kJ;have y3:=vD.cell 2 rfl 3 rfl;have f10:=vD.free 2 rfl;have adt:=vD.lt 2 rfl;have q0:=vD.cell 2 rfl 0 rfl;have q1:=vD.cell 2 rfl 1 rfl;have q2:=vD.cell 2 rfl 2 rfl;have q4:=vD.cell 2 rfl 4 rfl;have q5:=vD.cell 2 rfl 5 rfl;have q6:=vD.cell 2 rfl 6 rfl;have q7:=vD.cell 2 rfl 7 rfl;have q8:=vD.cell 2 rfl 8 rfl;have m10:=vD.store 2 rfl 3 (.int .i64 (c:Nat));have sr:=qh (m10.nil 3 1);clear hm dS vD m10;go_wp2_with fail;refine cd {Ty.af 22 ps with a:=a,b:=b,c:=(c:Int)} (.slice none 0 0) (sr.o.pick [0,1,3]) (by omega) (λQx jj=>?_);have vg:=qh jj;clear jj;go_wp2_with fail;exact aY.o _ _ _ W8.o vg.o
 ·have Px:Hq (bH ad E S true ps st=.ok (s8.ns.length,{s8 with ns:=s8.ns++[{Ty.af 22 ps with a:=a,b:=b,c:= -1}]})):=FO.o _ ((Nu hi).trans rfl);have k9:=h9.kJ;have q0:=k9.cell 2 rfl 0 rfl;have q1:=k9.cell 2 rfl 1 rfl;have q2:=k9.cell 2 rfl 2 rfl;have q3:=k9.cell 2 rfl 3 rfl;have q4:=k9.cell 2 rfl 4 rfl;have q5:=k9.cell 2 rfl 5 rfl;have q6:=k9.cell 2 rfl 6 rfl;have q7:=k9.cell 2 rfl 7 rfl;have q8:=k9.cell 2 rfl 8 rfl;have H9:=qh (k9.nil 3 1);clear hi h9 k9;go_wp2_with fail;refine cd {Ty.af 22 ps with a:=a,b:=b,c:= -1} (.slice none 0 0) (H9.o.pick [0,1,3]) (by omega) (λQx jj=>?_);have vg:=qh jj;clear jj;go_wp2_with fail;exact aY.o _ _ _ Px.o vg.o
theorem yN{w0 w:World}{Fr:As}{pb d:Nat}{ad:List Tok.Tk}{st:Ty.St}{T E O S:Ty.M Nat}(L:Lo ad d T E O S)(H:Sat w0 w [Fr,aX pb d ad st])(ps:Nat)(hi:Ty.is ad [105,102] st.pos=false)(jE:st.pos+1<ad.length){R:EW}
  (aF:∀n s2 w2,bH ad E S false ps st=.ok (n,s2)→Sat w0 w2 [Fr,aX pb d ad s2]→R (.returned (.int .i64 (n:Nat))) w2)
  (av:∀f w2,bH ad E S false ps st=.error f→Sat w0 w2 [Fr]→R (.panicked (aJ f)) w2):
  Calls prog 211 #[.pointer (some ⟨pb,0,none⟩),.agg #[.int .i64 0,.int .i64 0,.int .i64 0,.int .i64 0,.slice none 0 0,.string ⟨#[]⟩,.int .i64 0,.int .i64 (-1),.int .i64 ps]] w R:=by
 have aY:=qh aF;have aB:=qh av;have HL:=qh L;have bD:=H.look;have jK:=bD.wf.1;have oY:=bD.fits.2.2.2;have sW:Hq (∀r,YY ad E S false ps {st with pos:=st.pos+1}=r→bH ad E S false ps st=r):=λr h=>h
 have Sf:Ty.is ad (⟨#[105,102]⟩:BA).data.toList st.pos=false:=hi;have h1:=H.aj (.cells #[.int .i64 23,.int .i64 0,.int .i64 0,.int .i64 0,.slice none 0 0,.string ⟨#[]⟩,.int .i64 0,.int .i64 (-1),.int .i64 ps] 66) w.heap.size;have Qp:=qh (λR hR=>nU _ pb d ad st (h1.pick [0,1]).look ⟨#[105,102]⟩ (R:=R) hR);rw[Sf]at Qp
 have H1:=qh h1;clear aF av H L bD h1 hi Sf;go_in;go_wp2_with fail;refine Qp.o _ (λw2 aI=>?_);have h2:=H1.o.below aI;have h3:=h2;obtain⟨c1,_,f0⟩:=(h3.pick [0,1]).look.cells;have jS:=(h3.pick [0,1]).look.lt;have h4:=((h3.at 1 rfl).setPos (st.pos+1) jE (by omega)).kJ;rw[show((st.pos+1:Nat):Int)=(st.pos:Int)+1 from rfl]at h4
 obtain⟨s4,LM⟩:∃s4:Ty.St,s4={st with pos:=st.pos+1}:=⟨_,rfl⟩
 have p4:s4.pos=st.pos+1:=by rw[LM]
 have n4:s4.ns.length=st.ns.length:=by rw[LM]
 rw[←LM]at h4 sW
 have H4:=qh h4;clear aI h2 h3 h4 LM;go_wp2_with fail;clear c1 f0;refine cP (H4.o.at 1 rfl) ⟨#[40]⟩ (λw5 hm h5=>?_) (λe w5 hm h5=>?_);rotate_left
 ·have HX:Hq (bH ad E S false ps st=.error e):=sW.o _ (aQ hm);have HZ:=qh (h5.unpack (i:=0) rfl);clear hm h5;go_wp2_with fail;exact⟨rfl,aB.o _ _ HX.o (HZ.o.pick [0])⟩
 have qU:Hq (∀r,Xu ad E S false ps {s4 with pos:=s4.pos+1}=r→bH ad E S false ps st=r):=λr h=>sW.o r ((aw hm).trans h)
 have k5:=h5.kJ;obtain⟨s5,GR⟩:∃s':Ty.St,s'={s4 with pos:=s4.pos+1}:=⟨_,rfl⟩
 have p5:s5.pos=s4.pos+1:=by rw[GR]
 have n5:s5.ns.length=s4.ns.length:=by rw[GR]
 rw[←GR]at k5 qU
 have H5:=qh k5;clear hm h5 k5 GR;go_wp2_with fail;refine HL.o.e _ _ _ pb _ (H5.o.at 1 rfl) _ (λa s6 w6 hm h6=>?_) (λe w6 hm h6=>?_);rotate_left
 ·have HX:Hq (bH ad E S false ps st=.error e):=qU.o _ (aQ hm);have HZ:=qh (h6.unpack (i:=0) rfl);clear hm h6;go_wp2_with fail;exact⟨rfl,aB.o _ _ HX.o (HZ.o.pick [0])⟩
 have T3:=HL.o.ae _ _ _ hm;have yf:Hq (∀r,Xa ad S false ps a s6=r→bH ad E S false ps st=r):=λr h=>qU.o r ((aw hm).trans h)
 have k6:=h6.kJ;have y6:=k6.cell 2 rfl 1 rfl;have f6:=k6.free 2 rfl;have z6:=k6.lt 2 rfl;have m6:=k6.store 2 rfl 1 (.int .i64 (a:Nat));have H6:=qh m6;clear hm h6 k6 m6;go_wp2_with fail;clear y6 f6;refine cP (H6.o.at 1 rfl) ⟨#[41]⟩ (λw7 hm h7=>?_) (λe w7 hm h7=>?_);rotate_left
 ·have HX:Hq (bH ad E S false ps st=.error e):=yf.o _ (aQ hm);have HZ:=qh (h7.unpack (i:=0) rfl);clear hm h7;go_wp2_with fail;exact⟨rfl,aB.o _ _ HX.o (HZ.o.pick [0])⟩
 have xO:Hq (∀r,Vu ad S false ps a {s6 with pos:=s6.pos+1}=r→bH ad E S false ps st=r):=λr h=>yf.o r ((aw hm).trans h)
 have k7:=h7.kJ;obtain⟨s7,tu⟩:∃s':Ty.St,s'={s6 with pos:=s6.pos+1}:=⟨_,rfl⟩
 have p7:s7.pos=s6.pos+1:=by rw[tu]
 have n7:s7.ns.length=s6.ns.length:=by rw[tu]
 rw[←tu]at k7 xO
 have H7:=qh k7;clear hm h7 k7 tu;go_wp2_with fail
 --the block
 refine oA HL.o _ _ _ pb _ (H7.o.at 1 rfl) _ (λb s8 w8 hm h8=>?_) (λe w8 hm h8=>?_);rotate_left
 ·have HX:Hq (bH ad E S false ps st=.error e):=xO.o _ (aQ hm);have HZ:=qh (h8.unpack (i:=0) rfl);clear hm h8;go_wp2_with fail;exact⟨rfl,aB.o _ _ HX.o (HZ.o.pick [0])⟩
 have Nz:=hU HL.o.O2 _ _ _ hm;have FO:Hq (∀r,P1 ad S false ps a b s8=r→bH ad E S false ps st=r):=λr h=>xO.o r ((aw hm).trans h)
 have k8:=h8.kJ;have y8:=k8.cell 2 rfl 2 rfl;have f8:=k8.free 2 rfl;have z8:=k8.lt 2 rfl;have m8:=k8.store 2 rfl 2 (.int .i64 (b:Nat));have HK:=qh k8;have H8:=qh m8;have q0:=k8.cell 2 rfl 0 rfl;have q1:=k8.cell 2 rfl 1 rfl;have q3:=k8.cell 2 rfl 3 rfl;have q4:=k8.cell 2 rfl 4 rfl;have q5:=k8.cell 2 rfl 5 rfl;have q6:=k8.cell 2 rfl 6 rfl;have q7:=k8.cell 2 rfl 7 rfl;have q8:=k8.cell 2 rfl 8 rfl;have Px:Hq (bH ad E S false ps st=.ok (s8.ns.length,{s8 with ns:=s8.ns++[{Ty.af 23 ps with a:=a,b:=b}]})):=FO.o _ rfl;have H9:=qh (m8.nil 3 1);clear hm h8 k8 m8;go_wp2_with fail;refine cd {Ty.af 23 ps with a:=a,b:=b} (.slice none 0 0) (H9.o.pick [0,1,3]) (by omega) (λQx jj=>?_);have vg:=qh jj;clear jj;go_wp2_with fail;exact aY.o _ _ _ Px.o vg.o
end Go.Proofs.YtdlbhiaceheffabGreatDoor
