/- Walk of the parser's branch. -/
import Derived.Test.YtdlbhiaceheffabGreatDoorC32
set_option linter.all false
set_option maxRecDepth 100000
set_option maxHeartbeats 4000000
namespace Go.Proofs.YtdlbhiaceheffabGreatDoor
open Go Go.RowKit Ty Tok Prt Tryz Proofs.Tryz
namespace Ty
def SB(ad:List Tok.Tk)(S:M Nat)(yes:Bool)(ps a b:Nat):M Nat:=
 if yes then ak (take ad [101,108,115,101]) λe=>if e then ak (di ad S) λc=>addNode {af 22 ps with a:=a,b:=b,c:=(c:Int)}else addNode {af 22 ps with a:=a,b:=b,c:= -1}
 else addNode {af 23 ps with a:=a,b:=b}
def aam(ad:List Tok.Tk)(S:M Nat)(yes:Bool)(ps a:Nat):M Nat:=ak (di ad S) λb=>SB ad S yes ps a b
def Zw(ad:List Tok.Tk)(S:M Nat)(yes:Bool)(ps a:Nat):M Nat:=ak (need ad [41]) λ_=>aam ad S yes ps a
def Z5(ad:List Tok.Tk)(E S:M Nat)(yes:Bool)(ps:Nat):M Nat:=ak E λa=>Zw ad S yes ps a
def adv(ad:List Tok.Tk)(E S:M Nat)(yes:Bool)(ps:Nat):M Nat:=ak (need ad [40]) λ_=>Z5 ad E S yes ps
theorem Mz{ad:List Tok.Tk}{S:M Nat}{ps a b:Nat}{s s1:St}(h:take ad [101,108,115,101] s=.ok (true,s1)):SB ad S true ps a b s=ak (di ad S) (λc=>addNode {af 22 ps with a:=a,b:=b,c:=(c:Int)}) s1:=by
 unfold SB;rw[if_pos rfl,aj h];rfl
theorem PK{ad:List Tok.Tk}{S:M Nat}{ps a b:Nat}{s s1:St}(h:take ad [101,108,115,101] s=.ok (false,s1)):SB ad S true ps a b s=addNode {af 22 ps with a:=a,b:=b,c:= -1} s1:=by
 unfold SB;rw[if_pos rfl,aj h];rfl
end Ty
theorem Ce{w0 w:World}{Fr:As}{pb d:Nat}{ad:List Tok.Tk}{st:Ty.St}{T E O S:Ty.M Nat}(L:Lo ad d T E O S)(H:Sat w0 w [Fr,aT pb d ad st])(ps:Nat)(hi:Ty.is ad [105,102] st.pos=true)(jH:st.pos+1<ad.length){R:EW}
  (aD:∀n s2 w2,aZ ad E S true ps st=.ok (n,s2)->Sat w0 w2 [Fr,aT pb d ad s2]->R (.returned (.int .i64 (n:Nat))) w2)
  (au:∀f w2,aZ ad E S true ps st=.error f->Sat w0 w2 [Fr]->R (.panicked (aO f)) w2):
  Calls prog 211 #[.pointer (some ⟨pb,0,none⟩),.agg #[.int .i64 0,.int .i64 0,.int .i64 0,.int .i64 0,.slice none 0 0,.string ⟨#[]⟩,.int .i64 0,.int .i64 (-1),.int .i64 ps]] w R:=by
 have fL:=qh aD;have cm:=H.look;have kG:=cm.wf.1;have qL:=cm.fits.2.2.2;have vS:Hq (∀r,adv ad E S true ps {st with pos:=st.pos+1}=r->aZ ad E S true ps st=r):=λr h=>h
 have Xs:Ty.is ad (⟨#[105,102]⟩:BA).data.toList st.pos=true:=hi;have h1:=H.ar (.cells #[.int .i64 23,.int .i64 0,.int .i64 0,.int .i64 0,.slice none 0 0,.string ⟨#[]⟩,.int .i64 0,.int .i64 (-1),.int .i64 ps] 66) w.heap.size;have Tv:=qh (λR hR=>pk _ pb d ad st (h1.pick [0,1]).look ⟨#[105,102]⟩ (R:=R) hR);rw[Xs]at Tv
 have H1:=qh h1;clear aD H cm h1 hi Xs;go_in;go_wp2_with fail;refine Tv.o _ (λw2 aW=>?_);have h2:=H1.o.below aW;have y0:=h2.cell 2 0;have y3:=h2.cell 2 3;have fz:=h2.free 2 rfl;have h3:=(h2.store 2 rfl 0 (.int .i64 22)).store 2 rfl 3 (.int .i64 (-1));obtain⟨c1,_,f0⟩:=(h3.pick [0,1]).look.cells;have h4:=((h3.at 1 rfl).setPos (st.pos+1) jH (by omega)).km;rw[show((st.pos+1:Nat):Int)=(st.pos:Int)+1 from rfl]at h4
 obtain⟨s4,PU⟩:∃s4:Ty.St,s4={st with pos:=st.pos+1}:=⟨_,rfl⟩
 have p4:s4.pos=st.pos+1:=by rw[PU]
 have n4:s4.ns.length=st.ns.length:=by rw[PU]
 rw[<-PU]at h4 vS
 have H4:=qh h4;clear aW h2 h3 h4 PU;go_wp2_with fail;clear c1 f0 y0 y3 fz;refine cS (H4.o.at 1 rfl) ⟨#[40]⟩ (λw5 hm h5=>?_) (λe w5 hm h5=>?_);rotate_left
 ·have HX:Hq (aZ ad E S true ps st=.error e):=vS.o _ (aL hm);have HZ:=qh (h5.unpack 0 rfl);clear hm h5;go_wp2_with fail;exact⟨rfl,au _ _ HX.o (HZ.o.pick [0])⟩
 have tD:Hq (∀r,Z5 ad E S true ps {s4 with pos:=s4.pos+1}=r->aZ ad E S true ps st=r):=λr h=>vS.o r ((aj hm).trans h)
 have k5:=h5.km;obtain⟨s5,Js⟩:∃s':Ty.St,s'={s4 with pos:=s4.pos+1}:=⟨_,rfl⟩
 have p5:s5.pos=s4.pos+1:=by rw[Js]
 have n5:s5.ns.length=s4.ns.length:=by rw[Js]
 rw[<-Js]at k5 tD
 have H5:=qh k5;clear hm h5 k5 Js;go_wp2_with fail;refine L.e _ _ _ pb _ (H5.o.at 1 rfl) _ (λa s6 w6 hm h6=>?_) (λe w6 hm h6=>?_);rotate_left
 ·have HX:Hq (aZ ad E S true ps st=.error e):=tD.o _ (aL hm);have HZ:=qh (h6.unpack 0 rfl);clear hm h6;go_wp2_with fail;exact⟨rfl,au _ _ HX.o (HZ.o.pick [0])⟩
 have WL:=L.ae _ _ _ hm;have AV:Hq (∀r,Zw ad S true ps a s6=r->aZ ad E S true ps st=r):=λr h=>tD.o r ((aj hm).trans h)
 have k6:=h6.km;have y6:=k6.cell 2 1;have f6:=k6.free 2 rfl;have m6:=k6.store 2 rfl 1 (.int .i64 (a:Nat));have H6:=qh m6;clear hm h6 k6 m6;go_wp2_with fail;clear y6 f6;refine cS (H6.o.at 1 rfl) ⟨#[41]⟩ (λw7 hm h7=>?_) (λe w7 hm h7=>?_);rotate_left
 ·have HX:Hq (aZ ad E S true ps st=.error e):=AV.o _ (aL hm);have HZ:=qh (h7.unpack 0 rfl);clear hm h7;go_wp2_with fail;exact⟨rfl,au _ _ HX.o (HZ.o.pick [0])⟩
 have zR:Hq (∀r,aam ad S true ps a {s6 with pos:=s6.pos+1}=r->aZ ad E S true ps st=r):=λr h=>AV.o r ((aj hm).trans h)
 have k7:=h7.km;obtain⟨s7,uS⟩:∃s':Ty.St,s'={s6 with pos:=s6.pos+1}:=⟨_,rfl⟩
 have p7:s7.pos=s6.pos+1:=by rw[uS]
 have n7:s7.ns.length=s6.ns.length:=by rw[uS]
 rw[<-uS]at k7 zR
 have H7:=qh k7;clear hm h7 k7 uS;go_wp2_with fail
 --the block
 refine pM L _ _ _ pb _ (H7.o.at 1 rfl) _ (λb s8 w8 hm h8=>?_) (λe w8 hm h8=>?_);rotate_left
 ·have HX:Hq (aZ ad E S true ps st=.error e):=zR.o _ (aL hm);have HZ:=qh (h8.unpack 0 rfl);clear hm h8;go_wp2_with fail;exact⟨rfl,au _ _ HX.o (HZ.o.pick [0])⟩
 have Qp:=iG L.TR _ _ _ hm;have JO:Hq (∀r,SB ad S true ps a b s8=r->aZ ad E S true ps st=r):=λr h=>zR.o r ((aj hm).trans h)
 have k8:=h8.km;have y8:=k8.cell 2 2;have f8:=k8.free 2 rfl;have m8:=k8.store 2 rfl 2 (.int .i64 (b:Nat));have H8:=qh m8;have x0:=m8.cell 2 0;clear hm h8 k8 m8;go_wp2_with fail;clear y8 f8 x0;refine cB (H8.o.at 1 rfl) ⟨#[101,108,115,101]⟩ (λw9 hi h9=>?_) (λw9 hi h9=>?_)
 ·have TC:Hq (∀r,Ty.ak (di ad S) (λc=>Ty.addNode {Ty.af 22 ps with a:=a,b:=b,c:=(c:Int)}) {s8 with pos:=s8.pos+1}=r->aZ ad E S true ps st=r):=λr h=>JO.o r ((Mz hi).trans h)
  have k9:=h9.km;obtain⟨s9,Y4⟩:∃s':Ty.St,s'={s8 with pos:=s8.pos+1}:=⟨_,rfl⟩
  have p9:s9.pos=s8.pos+1:=by rw[Y4]
  have n9:s9.ns.length=s8.ns.length:=by rw[Y4]
  rw[<-Y4]at k9 TC
  have H9:=qh k9;clear hi h9 k9 Y4;go_wp2_with fail;refine pM L _ _ _ pb _ (H9.o.at 1 rfl) _ (λc aar Nw hm fs=>?_) (λe Nw hm fs=>?_);rotate_left
  ·have HX:Hq (aZ ad E S true ps st=.error e):=TC.o _ (aL hm);have HZ:=qh (fs.unpack 0 rfl);clear hm fs;go_wp2_with fail;exact⟨rfl,au _ _ HX.o (HZ.o.pick [0])⟩
  have acA:=iG L.TR _ _ _ hm;have Z_:Hq (aZ ad E S true ps st=.ok (aar.ns.length,{aar with ns:=aar.ns++[{Ty.af 22 ps with a:=a,b:=b,c:=(c:Int)}]})):=TC.o _ ((aj hm).trans rfl);have FQ:=fs.km;have y3:=FQ.cell 2 3;have f10:=FQ.free 2 rfl;have q0:=FQ.cell 2 0;have q1:=FQ.cell 2 1;have q2:=FQ.cell 2 2;have q4:=FQ.cell 2 4;have q5:=FQ.cell 2 5;have q6:=FQ.cell 2 6;have q7:=FQ.cell 2 7;have q8:=FQ.cell 2 8;have m10:=FQ.store 2 rfl 3 (.int .i64 (c:Nat));have Az:=qh (m10.nil 3 1);clear hm fs FQ m10;go_wp2_with fail;refine bT {Ty.af 22 ps with a:=a,b:=b,c:=(c:Int)} (.slice none 0 0) (Az.o.pick [0,1,3]) (by omega) (λTM kn=>?_);have wW:=qh kn;clear kn;go_wp2_with fail;exact fL.o _ _ _ Z_.o wW.o
 ·have TC:Hq (aZ ad E S true ps st=.ok (s8.ns.length,{s8 with ns:=s8.ns++[{Ty.af 22 ps with a:=a,b:=b,c:= -1}]})):=JO.o _ ((PK hi).trans rfl);have k9:=h9.km;have q0:=k9.cell 2 0;have q1:=k9.cell 2 1;have q2:=k9.cell 2 2;have q3:=k9.cell 2 3;have q4:=k9.cell 2 4;have q5:=k9.cell 2 5;have q6:=k9.cell 2 6;have q7:=k9.cell 2 7;have q8:=k9.cell 2 8;have H9:=qh (k9.nil 3 1);clear hi h9 k9;go_wp2_with fail;refine bT {Ty.af 22 ps with a:=a,b:=b,c:= -1} (.slice none 0 0) (H9.o.pick [0,1,3]) (by omega) (λTM kn=>?_);have wW:=qh kn;clear kn;go_wp2_with fail;exact fL.o _ _ _ TC.o wW.o
theorem zY{w0 w:World}{Fr:As}{pb d:Nat}{ad:List Tok.Tk}{st:Ty.St}{T E O S:Ty.M Nat}(L:Lo ad d T E O S)(H:Sat w0 w [Fr,aT pb d ad st])(ps:Nat)(hi:Ty.is ad [105,102] st.pos=false)(jH:st.pos+1<ad.length){R:EW}
  (aD:∀n s2 w2,aZ ad E S false ps st=.ok (n,s2)->Sat w0 w2 [Fr,aT pb d ad s2]->R (.returned (.int .i64 (n:Nat))) w2)
  (au:∀f w2,aZ ad E S false ps st=.error f->Sat w0 w2 [Fr]->R (.panicked (aO f)) w2):
  Calls prog 211 #[.pointer (some ⟨pb,0,none⟩),.agg #[.int .i64 0,.int .i64 0,.int .i64 0,.int .i64 0,.slice none 0 0,.string ⟨#[]⟩,.int .i64 0,.int .i64 (-1),.int .i64 ps]] w R:=by
 have fL:=qh aD;have HL:=qh L;have cm:=H.look;have kG:=cm.wf.1;have qL:=cm.fits.2.2.2;have vS:Hq (∀r,adv ad E S false ps {st with pos:=st.pos+1}=r->aZ ad E S false ps st=r):=λr h=>h
 have Xs:Ty.is ad (⟨#[105,102]⟩:BA).data.toList st.pos=false:=hi;have h1:=H.ar (.cells #[.int .i64 23,.int .i64 0,.int .i64 0,.int .i64 0,.slice none 0 0,.string ⟨#[]⟩,.int .i64 0,.int .i64 (-1),.int .i64 ps] 66) w.heap.size;have Tv:=qh (λR hR=>pk _ pb d ad st (h1.pick [0,1]).look ⟨#[105,102]⟩ (R:=R) hR);rw[Xs]at Tv
 have H1:=qh h1;clear aD H L cm h1 hi Xs;go_in;go_wp2_with fail;refine Tv.o _ (λw2 aW=>?_);have h2:=H1.o.below aW;have h3:=h2;obtain⟨c1,_,f0⟩:=(h3.pick [0,1]).look.cells;have h4:=((h3.at 1 rfl).setPos (st.pos+1) jH (by omega)).km;rw[show((st.pos+1:Nat):Int)=(st.pos:Int)+1 from rfl]at h4
 obtain⟨s4,PU⟩:∃s4:Ty.St,s4={st with pos:=st.pos+1}:=⟨_,rfl⟩
 have p4:s4.pos=st.pos+1:=by rw[PU]
 have n4:s4.ns.length=st.ns.length:=by rw[PU]
 rw[<-PU]at h4 vS
 have H4:=qh h4;clear aW h2 h3 h4 PU;go_wp2_with fail;clear c1 f0;refine cS (H4.o.at 1 rfl) ⟨#[40]⟩ (λw5 hm h5=>?_) (λe w5 hm h5=>?_);rotate_left
 ·have HX:Hq (aZ ad E S false ps st=.error e):=vS.o _ (aL hm);have HZ:=qh (h5.unpack 0 rfl);clear hm h5;go_wp2_with fail;exact⟨rfl,au _ _ HX.o (HZ.o.pick [0])⟩
 have tD:Hq (∀r,Z5 ad E S false ps {s4 with pos:=s4.pos+1}=r->aZ ad E S false ps st=r):=λr h=>vS.o r ((aj hm).trans h)
 have k5:=h5.km;obtain⟨s5,Js⟩:∃s':Ty.St,s'={s4 with pos:=s4.pos+1}:=⟨_,rfl⟩
 have p5:s5.pos=s4.pos+1:=by rw[Js]
 have n5:s5.ns.length=s4.ns.length:=by rw[Js]
 rw[<-Js]at k5 tD
 have H5:=qh k5;clear hm h5 k5 Js;go_wp2_with fail;refine HL.o.e _ _ _ pb _ (H5.o.at 1 rfl) _ (λa s6 w6 hm h6=>?_) (λe w6 hm h6=>?_);rotate_left
 ·have HX:Hq (aZ ad E S false ps st=.error e):=tD.o _ (aL hm);have HZ:=qh (h6.unpack 0 rfl);clear hm h6;go_wp2_with fail;exact⟨rfl,au _ _ HX.o (HZ.o.pick [0])⟩
 have WL:=HL.o.ae _ _ _ hm;have AV:Hq (∀r,Zw ad S false ps a s6=r->aZ ad E S false ps st=r):=λr h=>tD.o r ((aj hm).trans h)
 have k6:=h6.km;have y6:=k6.cell 2 1;have f6:=k6.free 2 rfl;have m6:=k6.store 2 rfl 1 (.int .i64 (a:Nat));have H6:=qh m6;clear hm h6 k6 m6;go_wp2_with fail;clear y6 f6;refine cS (H6.o.at 1 rfl) ⟨#[41]⟩ (λw7 hm h7=>?_) (λe w7 hm h7=>?_);rotate_left
 ·have HX:Hq (aZ ad E S false ps st=.error e):=AV.o _ (aL hm);have HZ:=qh (h7.unpack 0 rfl);clear hm h7;go_wp2_with fail;exact⟨rfl,au _ _ HX.o (HZ.o.pick [0])⟩
 have zR:Hq (∀r,aam ad S false ps a {s6 with pos:=s6.pos+1}=r->aZ ad E S false ps st=r):=λr h=>AV.o r ((aj hm).trans h)
 have k7:=h7.km;obtain⟨s7,uS⟩:∃s':Ty.St,s'={s6 with pos:=s6.pos+1}:=⟨_,rfl⟩
 have p7:s7.pos=s6.pos+1:=by rw[uS]
 have n7:s7.ns.length=s6.ns.length:=by rw[uS]
 rw[<-uS]at k7 zR
 have H7:=qh k7;clear hm h7 k7 uS;go_wp2_with fail
 --the block
 refine pM HL.o _ _ _ pb _ (H7.o.at 1 rfl) _ (λb s8 w8 hm h8=>?_) (λe w8 hm h8=>?_);rotate_left
 ·have HX:Hq (aZ ad E S false ps st=.error e):=zR.o _ (aL hm);have HZ:=qh (h8.unpack 0 rfl);clear hm h8;go_wp2_with fail;exact⟨rfl,au _ _ HX.o (HZ.o.pick [0])⟩
 have Qp:=iG HL.o.TR _ _ _ hm;have JO:Hq (∀r,SB ad S false ps a b s8=r->aZ ad E S false ps st=r):=λr h=>zR.o r ((aj hm).trans h)
 have k8:=h8.km;have y8:=k8.cell 2 2;have f8:=k8.free 2 rfl;have m8:=k8.store 2 rfl 2 (.int .i64 (b:Nat));have q0:=k8.cell 2 0;have q1:=k8.cell 2 1;have q3:=k8.cell 2 3;have q4:=k8.cell 2 4;have q5:=k8.cell 2 5;have q6:=k8.cell 2 6;have q7:=k8.cell 2 7;have q8:=k8.cell 2 8;have TC:Hq (aZ ad E S false ps st=.ok (s8.ns.length,{s8 with ns:=s8.ns++[{Ty.af 23 ps with a:=a,b:=b}]})):=JO.o _ rfl;have H9:=qh (m8.nil 3 1);clear hm h8 k8 m8;go_wp2_with fail;refine bT {Ty.af 23 ps with a:=a,b:=b} (.slice none 0 0) (H9.o.pick [0,1,3]) (by omega) (λTM kn=>?_);have wW:=qh kn;clear kn;go_wp2_with fail;exact fL.o _ _ _ TC.o wW.o
end Go.Proofs.YtdlbhiaceheffabGreatDoor
