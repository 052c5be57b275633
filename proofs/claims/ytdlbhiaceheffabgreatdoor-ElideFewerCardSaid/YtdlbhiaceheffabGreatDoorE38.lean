/- Walks of the parser's sum, and of what expr runs. -/
import Derived.Test.YtdlbhiaceheffabGreatDoorE37
set_option linter.all false
set_option maxRecDepth 100000
set_option maxHeartbeats 4000000
namespace Go.Proofs.YtdlbhiaceheffabGreatDoor
open Go Go.RowKit Ty Tok Prt Tryz Proofs.Tryz
section
variable {ad:List Tok.Tk} {d:Nat} {ONE:Ty.M Nat}
theorem KF(oY:eh 319 ad d ONE)(hA:bf 1 0 0 ONE)(hN:Nx ONE)(w0 w:World)(Fr:As)(pb xb:Nat)(st:Ty.St)(H:Sat w0 w [Fr,aV pb d ad st])(hx:∀w1,Sat w0 w1 [Fr]->w1.cell? ⟨xb,0,none⟩=some (.pointer (some ⟨pb,0,none⟩))){R:EW}
  (aH:∀n s2 w2,lT ad ONE st=.ok (n,s2)->Sat w0 w2 [Fr,aV pb d ad s2]->R (.returned (.int .i64 (n:Nat))) w2)
  (au:∀f w2,lT ad ONE st=.error f->Sat w0 w2 [Fr]->R (.panicked (aI f)) w2):
  Calls prog 318 #[.pointer (some ⟨xb,0,none⟩)] w R:=by
 have aX:=qh aH;have aB:=qh au;have Qp:=qh oY;have HA:=qh hA;have HN:=qh hN;have x0:=hx w (H.pick [0]);have h1:=H.aj (.cells #[.string ⟨#[42]⟩] 9) w.heap.size;have H1:=qh h1;clear aH au oY hA hN H hx h1;go_in;go_wp2_with fail;refine Qw w0 _ _ pb d w.heap.size ad st ONE HA.o HN.o [⟨#[42]⟩] (by decide) 319 _ Tryz.call319 (λw1 h=>⟨(h.unpack (i:=0) rfl).lt 1 rfl,λj hj=>(h.unpack (i:=0) rfl).cell 1 rfl j (by
   match j,hj with
   |0,_=>rfl)⟩) (λs w1 h R aH au=>Qp.o w0 w1 _ pb s h R aH au) (H1.o.at 1 rfl) (λn s2 w2 hm h2=>?_) (λf w2 hm h2=>?_)
 ·have HM:Hq (lT ad ONE st=.ok (n,s2)):=hm;have H2:=qh h2.kJ;clear hm h2;go_wp2_with fail;exact aX.o _ _ _ HM.o (H2.o.pick [0,1])
 ·have HM:Hq (lT ad ONE st=.error f):=hm;have H2:=qh (h2.unpack (i:=0) rfl);clear hm h2;go_wp2_with fail;exact⟨rfl,aB.o _ _ HM.o (H2.o.pick [0])⟩
theorem Ma(oY:eh 319 ad d ONE)(hA:bf 1 0 0 ONE)(hN:Nx ONE):eh 281 ad d (pY ad ONE):=by
 intro w0 w Fr pb st H R aH au;have aX:=qh aH;have aB:=qh au;have Qp:=qh oY;have HA:=qh hA;have HN:=qh hN;have h1:=(H.aj (.cells #[.pointer (some ⟨pb,0,none⟩)] 80) w.heap.size).aj (.cells #[.string ⟨#[43]⟩,.string ⟨#[45]⟩] 9) (w.heap.size+1);have H1:=qh h1;clear aH au oY hA hN H h1;go_enter func281,ntmps281;go_wp2_with fail;refine OS w0 _ _ pb d (w.heap.size+1) ad st (lT ad ONE) (tS HA.o) (yB HN.o) [⟨#[43]⟩,⟨#[45]⟩] (by decide) 318 _ Tryz.call318 (λw1 h=>⟨(h.unpack (i:=0) rfl).lt 2 rfl,λj hj=>(h.unpack (i:=0) rfl).cell 2 rfl j (by
   match j,hj with
   |0,_=>rfl
   |1,_=>rfl)⟩) (λs w1 h R aH au=>KF Qp.o HA.o HN.o w0 w1 _ pb w.heap.size s h (λw' h'=>(h'.unpack (i:=0) rfl).cell 1 rfl 0 rfl) aH au) (H1.o.at 1 rfl) (λn s2 w2 hm h2=>?_) (λf w2 hm h2=>?_)
 ·have HM:Hq (pY ad ONE st=.ok (n,s2)):=hm;have H2:=qh h2.mW;clear hm h2;go_wp2_with fail;exact aX.o _ _ _ HM.o (H2.o.pick [0,1])
 ·have HM:Hq (pY ad ONE st=.error f):=hm;have H2:=qh (h2.unpack (i:=0) rfl);clear hm h2;go_wp2_with fail;exact⟨rfl,aB.o _ _ HM.o (H2.o.pick [0])⟩
def B7:List BA:=[⟨#[61,61]⟩,⟨#[60]⟩]
def IQ:Array Value:=#[.string ⟨#[61,61]⟩,.string ⟨#[60]⟩]
theorem E_(oY:eh 319 ad d ONE)(hA:bf 1 0 0 ONE)(hN:Nx ONE)(w0 w:World)(Fr:As)(pb xb:Nat)(st:Ty.St)(H:Sat w0 w [Fr,aV pb d ad st])(hx:∀w1,Sat w0 w1 [Fr]->w1.cell? ⟨xb,0,none⟩=some (.pointer (some ⟨pb,0,none⟩))){R:EW}
  (aH:∀n s2 w2,jH ad ONE st=.ok (n,s2)->Sat w0 w2 [Fr,aV pb d ad s2]->R (.returned (.int .i64 (n:Nat))) w2)
  (au:∀f w2,jH ad ONE st=.error f->Sat w0 w2 [Fr]->R (.panicked (aI f)) w2):
  Calls prog 280 #[.pointer (some ⟨xb,0,none⟩)] w R:=by
 have aX:=qh aH;have aB:=qh au;have Tc:=qh (Ma oY hA hN);have HA:=qh (pN (ad:=ad) hA);have HN:=qh (tK (ad:=ad) hN);have HX:=qh hx;have x0:=hx w (H.pick [0]);have HS:=qh H;have lR:=H.look.wf.1;clear aH au oY hA hN H hx;go_in;go_wp2_with fail;refine Tc.o _ _ _ pb _ HS.o _ (λn s1 w1 hm h1=>?_) (λe w1 hm h1=>?_);rotate_left
 ·have HE:Hq (jH ad ONE st=.error e):=by show _= _;rw[jH,aP hm]
  have H1:=qh h1;clear hm h1 x0;go_wp2_with fail;exact⟨rfl,aB.o _ _ HE.o H1.o⟩
 have k_:=(HN.o _ _ _ hm).2.1;have FY:Hq (∀k(hk:k<B7.length) s',(∀j(hj:j<B7.length),j<k->Ty.take ad B7[j].data.toList s1=.ok (false,s1))->Ty.take ad B7[k].data.toList s1=.ok (true,s')->jH ad ONE st=Ty.aq (pY ad ONE) (λm=>Ty.two B7[k] n m) s'):=λk hk s' h0 h1=>by
  rw[jH,aw hm]
  match k,hk with
  |0,_=>rw[aw (show Ty.take ad [61,61] s1= _ from h1)];rfl
  |1,_=>rw[aw (show Ty.take ad [61,61] s1= _ from h0 0 (by decide) (by decide))];show Ty.aq _ _ s1= _;rw[aw (show Ty.take ad [60] s1= _ from h1)];rfl
 have wA:Hq ((∀j(hj:j<B7.length),Ty.take ad B7[j].data.toList s1=.ok (false,s1))->jH ad ONE st=.ok (n,s1)):=λh0=>by
  rw[jH,aw hm,aw (show Ty.take ad [61,61] s1= _ from h0 0 (by decide))];show Ty.aq _ _ s1= _;rw[aw (show Ty.take ad [60] s1= _ from h0 1 (by decide))];rfl
 have h2:=h1.aj (.cells IQ 9) w1.heap.size;have oP:=h1.look.fits.2.2.2;have H2:=qh h2;clear hm h1 h2 x0;go_wp2_with fail;go_loopw [9] (λi wr=>∃k:Nat,k<=2/\i=.int .i64 k/\Hq (Sat w0 wr [Fr,aV pb d ad s1,av w1.heap.size (.cells IQ 9 (0,0))])/\Hq (∀j(hj:j<B7.length),j<k->Ty.take ad B7[j].data.toList s1=.ok (false,s1))) (λi _=>2-(intOf i).toNat)
 case atStart=>exact⟨0,by omega,rfl,H2.o,λj hj h=>by omega⟩
 case round=>
  obtain⟨k,hk,rfl,hS,Bz⟩:=hrel;have x1:=HX.o wr (hS.out.pick [0]);by_cases a_:k<2
  ·have Cl:k<B7.length:=a_;have d0:wr.cell? ⟨w1.heap.size,k,none⟩=some (.string B7[k]):=hS.out.cell 2 rfl k (by
    match k,a_ with
    |0,_=>rfl
    |1,_=>rfl)
   have HY:=qh (λs'=>FY.o k Cl s' Bz.out);have Ra:Hq (Ty.take ad B7[k].data.toList s1=.ok (false,s1)->∀j(hj:j<B7.length),j<k+1->Ty.take ad B7[j].data.toList s1=.ok (false,s1)):=λh j hj Ih=>by
    by_cases e:j=k
    ·subst e;exact h
    ·exact Bz.out j hj (by omega)
   have ZR:=hS.out.lt 2 rfl;generalize B7[k]=x at*
   clear Cl;go_wp2_with fail;refine cx (hS.out.at 1 rfl) x (λw2 hi h3=>?_) (λw2 hi h3=>?_)
   ·have HE:=qh (HY.o _ hi);have h4:=h3.kJ;have x2:=HX.o w2 (h4.pick [0]);have H5:=qh (Tc.o w0 w2.drew _ pb _ (h4.drew.at 1 rfl));clear hi h3 h4 x1 d0;go_wp2_with fail;go_region_law(first|(go_simp;go_at_call 281;refine H5.o _ (λm s3 w3 Jc h6=>?_) (λf w3 Jc h6=>?_);rotate_left;(exact⟨rfl,aB.o _ _ (HE.o.trans (by rw[aP Jc])) ((h6.unpack (i:=0) rfl).pick [0])⟩);have pd:=HA.o _ _ _ Jc;have wg:=(HN.o _ _ _ Jc).1.length_le;dsimp only at pd wg;have H7:=qh h6.kJ;have x3:=HX.o w3 (H7.o.pick [0]);have U0:=qh Jc;clear h6 Jc)|(go_simp;go_at_call 282;refine yS (H7.o.at 1 rfl) x (by omega) (by omega) (λq s4 w4 Uw h8=>?_)))
    all_goals
     have acz:=qh Uw;have H8:=qh h8.kJ;clear Uw h8;go_simp;go_wp2_with fail;exact aX.o _ _ _ (HE.o.trans (by rw[aw U0.o];exact acz.o)) (H8.o.pick [0,1])
   ·have SJ:=qh (Ra.o hi);have H3:=qh h3.kJ;clear hi h3 Ra;go_wp2_with fail;go_roundw
    case rel=>exact⟨k+1,by omega,by go_num,H3,SJ⟩
    case measure=>simp[intOf];omega
  ·have qI:k=2:=by omega
   subst qI;have HE:=qh (wA.o (λj hj=>Bz.out j hj hj));clear Bz;go_wp2_with fail;exact aX.o _ _ _ HE.o (hS.out.pick [0,1])
end
namespace Ty
def PI(ad:List Tok.Tk)(S:M Nat)(yes:Bool)(ps a b:Nat):M Nat:=
 if yes then aq (take ad [101,108,115,101]) λe=>if e then aq (dW ad S) λc=>addNode {af 22 ps with a:=a,b:=b,c:=(c:Int)}else addNode {af 22 ps with a:=a,b:=b,c:= -1}
 else addNode {af 23 ps with a:=a,b:=b}
def XX(ad:List Tok.Tk)(S:M Nat)(yes:Bool)(ps a:Nat):M Nat:=aq (dW ad S) λb=>PI ad S yes ps a b
def VY(ad:List Tok.Tk)(S:M Nat)(yes:Bool)(ps a:Nat):M Nat:=aq (need ad [41]) λ_=>XX ad S yes ps a
def WK(ad:List Tok.Tk)(E S:M Nat)(yes:Bool)(ps:Nat):M Nat:=aq E λa=>VY ad S yes ps a
def ZM(ad:List Tok.Tk)(E S:M Nat)(yes:Bool)(ps:Nat):M Nat:=aq (need ad [40]) λ_=>WK ad E S yes ps
theorem Lz{ad:List Tok.Tk}{S:M Nat}{ps a b:Nat}{s s1:St}(h:take ad [101,108,115,101] s=.ok (true,s1)):PI ad S true ps a b s=aq (dW ad S) (λc=>addNode {af 22 ps with a:=a,b:=b,c:=(c:Int)}) s1:=by
 unfold PI;rw[if_pos rfl,aw h];rfl
theorem MB{ad:List Tok.Tk}{S:M Nat}{ps a b:Nat}{s s1:St}(h:take ad [101,108,115,101] s=.ok (false,s1)):PI ad S true ps a b s=addNode {af 22 ps with a:=a,b:=b,c:= -1} s1:=by
 unfold PI;rw[if_pos rfl,aw h];rfl
end Ty
theorem Bk{w0 w:World}{Fr:As}{pb d:Nat}{ad:List Tok.Tk}{st:Ty.St}{T E O S:Ty.M Nat}(L:Lo ad d T E O S)(H:Sat w0 w [Fr,aV pb d ad st])(ps:Nat)(hi:Ty.is ad [105,102] st.pos=true)(jm:st.pos+1<ad.length){R:EW}
  (aH:∀n s2 w2,bF ad E S true ps st=.ok (n,s2)->Sat w0 w2 [Fr,aV pb d ad s2]->R (.returned (.int .i64 (n:Nat))) w2)
  (au:∀f w2,bF ad E S true ps st=.error f->Sat w0 w2 [Fr]->R (.panicked (aI f)) w2):
  Calls prog 211 #[.pointer (some ⟨pb,0,none⟩),.agg #[.int .i64 0,.int .i64 0,.int .i64 0,.int .i64 0,.slice none 0 0,.string ⟨#[]⟩,.int .i64 0,.int .i64 (-1),.int .i64 ps]] w R:=by
 have aX:=qh aH;have aB:=qh au;have HL:=qh L;have bu:=H.look;have lR:=bu.wf.1;have oP:=bu.fits.2.2.2;have sU:Hq (∀r,ZM ad E S true ps {st with pos:=st.pos+1}=r->bF ad E S true ps st=r):=λr h=>h
 have Sq:Ty.is ad (⟨#[105,102]⟩:BA).data.toList st.pos=true:=hi;have h1:=H.aj (.cells #[.int .i64 23,.int .i64 0,.int .i64 0,.int .i64 0,.slice none 0 0,.string ⟨#[]⟩,.int .i64 0,.int .i64 (-1),.int .i64 ps] 66) w.heap.size;have LB:=qh (λR hR=>nU _ pb d ad st (h1.pick [0,1]).look ⟨#[105,102]⟩ (R:=R) hR);rw[Sq]at LB
 have H1:=qh h1;clear aH au H L bu h1 hi Sq;go_in;go_wp2_with fail;refine LB.o _ (λw2 aD=>?_);have h2:=H1.o.below aD;have y0:=h2.cell 2 rfl 0 rfl;have y3:=h2.cell 2 rfl 3 rfl;have fz:=h2.free 2 rfl;have hz:=h2.lt 2 rfl;have h3:=(h2.store 2 rfl 0 (.int .i64 22)).store 2 rfl 3 (.int .i64 (-1));obtain⟨c1,_,f0⟩:=(h3.pick [0,1]).look.cells;have jJ:=(h3.pick [0,1]).look.lt;have h4:=((h3.at 1 rfl).setPos (st.pos+1) jm (by omega)).kJ;rw[show((st.pos+1:Nat):Int)=(st.pos:Int)+1 from rfl]at h4
 obtain⟨s4,MN⟩:∃s4:Ty.St,s4={st with pos:=st.pos+1}:=⟨_,rfl⟩
 have p4:s4.pos=st.pos+1:=by rw[MN]
 have n4:s4.ns.length=st.ns.length:=by rw[MN]
 rw[<-MN]at h4 sU
 have H4:=qh h4;clear aD h2 h3 h4 MN;go_wp2_with fail;clear c1 f0 y0 y3 fz;refine cN (H4.o.at 1 rfl) ⟨#[40]⟩ (λw5 hm h5=>?_) (λe w5 hm h5=>?_);rotate_left
 ·have HX:Hq (bF ad E S true ps st=.error e):=sU.o _ (aP hm);have HZ:=qh (h5.unpack (i:=0) rfl);clear hm h5;go_wp2_with fail;exact⟨rfl,aB.o _ _ HX.o (HZ.o.pick [0])⟩
 have rR:Hq (∀r,WK ad E S true ps {s4 with pos:=s4.pos+1}=r->bF ad E S true ps st=r):=λr h=>sU.o r ((aw hm).trans h)
 have k5:=h5.kJ;obtain⟨s5,GZ⟩:∃s':Ty.St,s'={s4 with pos:=s4.pos+1}:=⟨_,rfl⟩
 have p5:s5.pos=s4.pos+1:=by rw[GZ]
 have n5:s5.ns.length=s4.ns.length:=by rw[GZ]
 rw[<-GZ]at k5 rR
 have H5:=qh k5;clear hm h5 k5 GZ;go_wp2_with fail;refine HL.o.e _ _ _ pb _ (H5.o.at 1 rfl) _ (λa s6 w6 hm h6=>?_) (λe w6 hm h6=>?_);rotate_left
 ·have HX:Hq (bF ad E S true ps st=.error e):=rR.o _ (aP hm);have HZ:=qh (h6.unpack (i:=0) rfl);clear hm h6;go_wp2_with fail;exact⟨rfl,aB.o _ _ HX.o (HZ.o.pick [0])⟩
 have RT:=HL.o.ae _ _ _ hm;have yJ:Hq (∀r,VY ad S true ps a s6=r->bF ad E S true ps st=r):=λr h=>rR.o r ((aw hm).trans h)
 have k6:=h6.kJ;have y6:=k6.cell 2 rfl 1 rfl;have f6:=k6.free 2 rfl;have z6:=k6.lt 2 rfl;have m6:=k6.store 2 rfl 1 (.int .i64 (a:Nat));have H6:=qh m6;clear hm h6 k6 m6;go_wp2_with fail;clear y6 f6;refine cN (H6.o.at 1 rfl) ⟨#[41]⟩ (λw7 hm h7=>?_) (λe w7 hm h7=>?_);rotate_left
 ·have HX:Hq (bF ad E S true ps st=.error e):=yJ.o _ (aP hm);have HZ:=qh (h7.unpack (i:=0) rfl);clear hm h7;go_wp2_with fail;exact⟨rfl,aB.o _ _ HX.o (HZ.o.pick [0])⟩
 have xW:Hq (∀r,XX ad S true ps a {s6 with pos:=s6.pos+1}=r->bF ad E S true ps st=r):=λr h=>yJ.o r ((aw hm).trans h)
 have k7:=h7.kJ;obtain⟨s7,tI⟩:∃s':Ty.St,s'={s6 with pos:=s6.pos+1}:=⟨_,rfl⟩
 have p7:s7.pos=s6.pos+1:=by rw[tI]
 have n7:s7.ns.length=s6.ns.length:=by rw[tI]
 rw[<-tI]at k7 xW
 have H7:=qh k7;clear hm h7 k7 tI;go_wp2_with fail
 --the block
 refine oq HL.o _ _ _ pb _ (H7.o.at 1 rfl) _ (λb s8 w8 hm h8=>?_) (λe w8 hm h8=>?_);rotate_left
 ·have HX:Hq (bF ad E S true ps st=.error e):=xW.o _ (aP hm);have HZ:=qh (h8.unpack (i:=0) rfl);clear hm h8;go_wp2_with fail;exact⟨rfl,aB.o _ _ HX.o (HZ.o.pick [0])⟩
 have ND:=gY HL.o.Pt _ _ _ hm;have Gh:Hq (∀r,PI ad S true ps a b s8=r->bF ad E S true ps st=r):=λr h=>xW.o r ((aw hm).trans h)
 have k8:=h8.kJ;have y8:=k8.cell 2 rfl 2 rfl;have f8:=k8.free 2 rfl;have z8:=k8.lt 2 rfl;have m8:=k8.store 2 rfl 2 (.int .i64 (b:Nat));have HK:=qh k8;have H8:=qh m8;have x0:=m8.cell 2 rfl 0 rfl;clear hm h8 k8 m8;go_wp2_with fail;clear y8 f8 x0;refine cx (H8.o.at 1 rfl) ⟨#[101,108,115,101]⟩ (λw9 hi h9=>?_) (λw9 hi h9=>?_)
 ·have O':Hq (∀r,Ty.aq (dW ad S) (λc=>Ty.addNode {Ty.af 22 ps with a:=a,b:=b,c:=(c:Int)}) {s8 with pos:=s8.pos+1}=r->bF ad E S true ps st=r):=λr h=>Gh.o r ((Lz hi).trans h)
  have k9:=h9.kJ;obtain⟨s9,Uy⟩:∃s':Ty.St,s'={s8 with pos:=s8.pos+1}:=⟨_,rfl⟩
  have p9:s9.pos=s8.pos+1:=by rw[Uy]
  have n9:s9.ns.length=s8.ns.length:=by rw[Uy]
  rw[<-Uy]at k9 O'
  have H9:=qh k9;clear hi h9 k9 Uy;go_wp2_with fail;refine oq HL.o _ _ _ pb _ (H9.o.at 1 rfl) _ (λc Wg l_ hm dG=>?_) (λe l_ hm dG=>?_);rotate_left
  ·have HX:Hq (bF ad E S true ps st=.error e):=O'.o _ (aP hm);have HZ:=qh (dG.unpack (i:=0) rfl);clear hm dG;go_wp2_with fail;exact⟨rfl,aB.o _ _ HX.o (HZ.o.pick [0])⟩
  have Ze:=gY HL.o.Pt _ _ _ hm;have V':Hq (bF ad E S true ps st=.ok (Wg.ns.length,{Wg with ns:=Wg.ns++[{Ty.af 22 ps with a:=a,b:=b,c:=(c:Int)}]})):=O'.o _ ((aw hm).trans rfl);have vS:=dG.kJ;have y3:=vS.cell 2 rfl 3 rfl;have f10:=vS.free 2 rfl;have adn:=vS.lt 2 rfl;have q0:=vS.cell 2 rfl 0 rfl;have q1:=vS.cell 2 rfl 1 rfl;have q2:=vS.cell 2 rfl 2 rfl;have q4:=vS.cell 2 rfl 4 rfl;have q5:=vS.cell 2 rfl 5 rfl;have q6:=vS.cell 2 rfl 6 rfl;have q7:=vS.cell 2 rfl 7 rfl;have q8:=vS.cell 2 rfl 8 rfl;have m10:=vS.store 2 rfl 3 (.int .i64 (c:Nat));have pL:=qh (m10.nil 3 1);clear hm dG vS m10;go_wp2_with fail;refine bZ {Ty.af 22 ps with a:=a,b:=b,c:=(c:Int)} (.slice none 0 0) (pL.o.pick [0,1,3]) (by omega) (λLk je=>?_);have rY:=qh je;clear je;go_wp2_with fail;exact aX.o _ _ _ V'.o rY.o
 ·have O':Hq (bF ad E S true ps st=.ok (s8.ns.length,{s8 with ns:=s8.ns++[{Ty.af 22 ps with a:=a,b:=b,c:= -1}]})):=Gh.o _ ((MB hi).trans rfl);have k9:=h9.kJ;have q0:=k9.cell 2 rfl 0 rfl;have q1:=k9.cell 2 rfl 1 rfl;have q2:=k9.cell 2 rfl 2 rfl;have q3:=k9.cell 2 rfl 3 rfl;have q4:=k9.cell 2 rfl 4 rfl;have q5:=k9.cell 2 rfl 5 rfl;have q6:=k9.cell 2 rfl 6 rfl;have q7:=k9.cell 2 rfl 7 rfl;have q8:=k9.cell 2 rfl 8 rfl;have H9:=qh (k9.nil 3 1);clear hi h9 k9;go_wp2_with fail;refine bZ {Ty.af 22 ps with a:=a,b:=b,c:= -1} (.slice none 0 0) (H9.o.pick [0,1,3]) (by omega) (λLk je=>?_);have rY:=qh je;clear je;go_wp2_with fail;exact aX.o _ _ _ O'.o rY.o
theorem xQ{w0 w:World}{Fr:As}{pb d:Nat}{ad:List Tok.Tk}{st:Ty.St}{T E O S:Ty.M Nat}(L:Lo ad d T E O S)(H:Sat w0 w [Fr,aV pb d ad st])(ps:Nat)(hi:Ty.is ad [105,102] st.pos=false)(jm:st.pos+1<ad.length){R:EW}
  (aH:∀n s2 w2,bF ad E S false ps st=.ok (n,s2)->Sat w0 w2 [Fr,aV pb d ad s2]->R (.returned (.int .i64 (n:Nat))) w2)
  (au:∀f w2,bF ad E S false ps st=.error f->Sat w0 w2 [Fr]->R (.panicked (aI f)) w2):
  Calls prog 211 #[.pointer (some ⟨pb,0,none⟩),.agg #[.int .i64 0,.int .i64 0,.int .i64 0,.int .i64 0,.slice none 0 0,.string ⟨#[]⟩,.int .i64 0,.int .i64 (-1),.int .i64 ps]] w R:=by
 have aX:=qh aH;have aB:=qh au;have HL:=qh L;have bu:=H.look;have lR:=bu.wf.1;have oP:=bu.fits.2.2.2;have sU:Hq (∀r,ZM ad E S false ps {st with pos:=st.pos+1}=r->bF ad E S false ps st=r):=λr h=>h
 have Sq:Ty.is ad (⟨#[105,102]⟩:BA).data.toList st.pos=false:=hi;have h1:=H.aj (.cells #[.int .i64 23,.int .i64 0,.int .i64 0,.int .i64 0,.slice none 0 0,.string ⟨#[]⟩,.int .i64 0,.int .i64 (-1),.int .i64 ps] 66) w.heap.size;have LB:=qh (λR hR=>nU _ pb d ad st (h1.pick [0,1]).look ⟨#[105,102]⟩ (R:=R) hR);rw[Sq]at LB
 have H1:=qh h1;clear aH au H L bu h1 hi Sq;go_in;go_wp2_with fail;refine LB.o _ (λw2 aD=>?_);have h2:=H1.o.below aD;have h3:=h2;obtain⟨c1,_,f0⟩:=(h3.pick [0,1]).look.cells;have jJ:=(h3.pick [0,1]).look.lt;have h4:=((h3.at 1 rfl).setPos (st.pos+1) jm (by omega)).kJ;rw[show((st.pos+1:Nat):Int)=(st.pos:Int)+1 from rfl]at h4
 obtain⟨s4,MN⟩:∃s4:Ty.St,s4={st with pos:=st.pos+1}:=⟨_,rfl⟩
 have p4:s4.pos=st.pos+1:=by rw[MN]
 have n4:s4.ns.length=st.ns.length:=by rw[MN]
 rw[<-MN]at h4 sU
 have H4:=qh h4;clear aD h2 h3 h4 MN;go_wp2_with fail;clear c1 f0;refine cN (H4.o.at 1 rfl) ⟨#[40]⟩ (λw5 hm h5=>?_) (λe w5 hm h5=>?_);rotate_left
 ·have HX:Hq (bF ad E S false ps st=.error e):=sU.o _ (aP hm);have HZ:=qh (h5.unpack (i:=0) rfl);clear hm h5;go_wp2_with fail;exact⟨rfl,aB.o _ _ HX.o (HZ.o.pick [0])⟩
 have rR:Hq (∀r,WK ad E S false ps {s4 with pos:=s4.pos+1}=r->bF ad E S false ps st=r):=λr h=>sU.o r ((aw hm).trans h)
 have k5:=h5.kJ;obtain⟨s5,GZ⟩:∃s':Ty.St,s'={s4 with pos:=s4.pos+1}:=⟨_,rfl⟩
 have p5:s5.pos=s4.pos+1:=by rw[GZ]
 have n5:s5.ns.length=s4.ns.length:=by rw[GZ]
 rw[<-GZ]at k5 rR
 have H5:=qh k5;clear hm h5 k5 GZ;go_wp2_with fail;refine HL.o.e _ _ _ pb _ (H5.o.at 1 rfl) _ (λa s6 w6 hm h6=>?_) (λe w6 hm h6=>?_);rotate_left
 ·have HX:Hq (bF ad E S false ps st=.error e):=rR.o _ (aP hm);have HZ:=qh (h6.unpack (i:=0) rfl);clear hm h6;go_wp2_with fail;exact⟨rfl,aB.o _ _ HX.o (HZ.o.pick [0])⟩
 have RT:=HL.o.ae _ _ _ hm;have yJ:Hq (∀r,VY ad S false ps a s6=r->bF ad E S false ps st=r):=λr h=>rR.o r ((aw hm).trans h)
 have k6:=h6.kJ;have y6:=k6.cell 2 rfl 1 rfl;have f6:=k6.free 2 rfl;have z6:=k6.lt 2 rfl;have m6:=k6.store 2 rfl 1 (.int .i64 (a:Nat));have H6:=qh m6;clear hm h6 k6 m6;go_wp2_with fail;clear y6 f6;refine cN (H6.o.at 1 rfl) ⟨#[41]⟩ (λw7 hm h7=>?_) (λe w7 hm h7=>?_);rotate_left
 ·have HX:Hq (bF ad E S false ps st=.error e):=yJ.o _ (aP hm);have HZ:=qh (h7.unpack (i:=0) rfl);clear hm h7;go_wp2_with fail;exact⟨rfl,aB.o _ _ HX.o (HZ.o.pick [0])⟩
 have xW:Hq (∀r,XX ad S false ps a {s6 with pos:=s6.pos+1}=r->bF ad E S false ps st=r):=λr h=>yJ.o r ((aw hm).trans h)
 have k7:=h7.kJ;obtain⟨s7,tI⟩:∃s':Ty.St,s'={s6 with pos:=s6.pos+1}:=⟨_,rfl⟩
 have p7:s7.pos=s6.pos+1:=by rw[tI]
 have n7:s7.ns.length=s6.ns.length:=by rw[tI]
 rw[<-tI]at k7 xW
 have H7:=qh k7;clear hm h7 k7 tI;go_wp2_with fail
 --the block
 refine oq HL.o _ _ _ pb _ (H7.o.at 1 rfl) _ (λb s8 w8 hm h8=>?_) (λe w8 hm h8=>?_);rotate_left
 ·have HX:Hq (bF ad E S false ps st=.error e):=xW.o _ (aP hm);have HZ:=qh (h8.unpack (i:=0) rfl);clear hm h8;go_wp2_with fail;exact⟨rfl,aB.o _ _ HX.o (HZ.o.pick [0])⟩
 have ND:=gY HL.o.Pt _ _ _ hm;have Gh:Hq (∀r,PI ad S false ps a b s8=r->bF ad E S false ps st=r):=λr h=>xW.o r ((aw hm).trans h)
 have k8:=h8.kJ;have y8:=k8.cell 2 rfl 2 rfl;have f8:=k8.free 2 rfl;have z8:=k8.lt 2 rfl;have m8:=k8.store 2 rfl 2 (.int .i64 (b:Nat));have HK:=qh k8;have H8:=qh m8;have q0:=k8.cell 2 rfl 0 rfl;have q1:=k8.cell 2 rfl 1 rfl;have q3:=k8.cell 2 rfl 3 rfl;have q4:=k8.cell 2 rfl 4 rfl;have q5:=k8.cell 2 rfl 5 rfl;have q6:=k8.cell 2 rfl 6 rfl;have q7:=k8.cell 2 rfl 7 rfl;have q8:=k8.cell 2 rfl 8 rfl;have O':Hq (bF ad E S false ps st=.ok (s8.ns.length,{s8 with ns:=s8.ns++[{Ty.af 23 ps with a:=a,b:=b}]})):=Gh.o _ rfl;have H9:=qh (m8.nil 3 1);clear hm h8 k8 m8;go_wp2_with fail;refine bZ {Ty.af 23 ps with a:=a,b:=b} (.slice none 0 0) (H9.o.pick [0,1,3]) (by omega) (λLk je=>?_);have rY:=qh je;clear je;go_wp2_with fail;exact aX.o _ _ _ O'.o rY.o
end Go.Proofs.YtdlbhiaceheffabGreatDoor
