/- Walk of the parser's bare. -/
import Derived.Test.YtdlbhiaceheffabGreatDoorC34
set_option linter.all false
set_option maxRecDepth 100000
set_option maxHeartbeats 8000000
namespace Go.Proofs.YtdlbhiaceheffabGreatDoor
open Go Go.RowKit Ty Tok Prt Tryz Proofs.Tryz
namespace Ty
def U6(ad:List Tok.Tk)(n:Nd):M Nat:=ak (need ad [59]) λ_=>addNode n
def Rq(ps:Nat)(x:BA)(t:Int)(a:Nat):Nd:={af 17 ps with text:=x,ty:=t,a:=a}
def Rr(ps a:Nat):Nd:={af 21 ps with a:=a}
def Rb(ps a:Nat):Nd:={af 24 ps with a:=a}
def ac7(ad:List Tok.Tk)(E:M Nat)(ps:Nat)(x:BA)(t:Int):M Nat:=ak E λa=>U6 ad (Rq ps x t a)
def acO(ad:List Tok.Tk)(E:M Nat)(ps:Nat)(x:BA)(t:Int):M Nat:=ak (need ad [61]) λ_=>ac7 ad E ps x t
def SQ(ad:List Tok.Tk)(T E:M Nat)(ps:Nat)(x:BA):M Nat:=ak (written ad T) λt=>acO ad E ps x t
def Y7(ad:List Tok.Tk)(T E:M Nat)(ps:Nat):M Nat:=ak (name ad []) λx=>SQ ad T E ps x
def Yk(ad:List Tok.Tk)(E:M Nat)(ps:Nat):M Nat:=ak E λa=>U6 ad (Rr ps a)
def V6(ad:List Tok.Tk)(E:M Nat)(ps:Nat):M Nat:=ak E λa=>U6 ad (Rb ps a)
def Yg(ad:List Tok.Tk)(E S:M Nat)(ps:Nat):M Nat:=look λs2=>if is ad [105,102] s2.pos then aZ ad E S true ps else if is ad [119,104,105,108,101] s2.pos then aZ ad E S false ps else cq ad E
section
variable {ad:List Tok.Tk} {T E S:M Nat} {s s1:St}
theorem Mb:de ad T E S s=(ak (take ad [108,101,116]) λb=>if b then Y7 ad T E (cur ad s.pos).pos else ak (take ad [112,114,105,110,116]) λb=>if b then Yk ad E (cur ad s.pos).pos else ak (take ad [114,101,116,117,114,110]) λb=>if b then V6 ad E (cur ad s.pos).pos else Yg ad E S (cur ad s.pos).pos) s:=rfl
end
end Ty
theorem Mf{ad:List Tok.Tk}{d:Nat}{T E O S:Ty.M Nat}(L:Lo ad d T E O S):eO 131 ad d (de ad T E S):=by
 intro w0 w Fr pb st H R aD au;have fL:=qh aD;have bX:=qh au;have HL:=qh L;have cm:=H.look;have ig:=cm.fits.1;have qL:=cm.fits.2.2.2;have oD:=qh cm.wf;have HS:=qh H;have HN:=qh (λR hR=>@gP w pb d ad st cm R hR);obtain⟨ps,kp⟩:∃ps,(Ty.cur ad st.pos).pos=ps:=⟨_,rfl⟩
 have vS:Hq (de ad T E S st=(Ty.ak (Ty.take ad [108,101,116]) λb=>if b then Y7 ad T E ps else Ty.ak (Ty.take ad [112,114,105,110,116]) λb=>if b then Yk ad E ps else Ty.ak (Ty.take ad [114,101,116,117,114,110]) λb=>if b then V6 ad E ps else Yg ad E S ps) st):=by rw[<-kp];exact Mb
 generalize Ty.cur ad st.pos=t at*
 obtain⟨kd,tx,tp⟩:=t;dsimp only at kp;subst kp;have Ea:=kA;clear aD au H L cm;go_enter func131,ntmps131;go_wp2_with fail;refine HN.o _ (λw1 cd=>?_);dsimp only[bV];have H1:=qh (HS.o.below cd);clear cd;go_wp2_with fail;refine lG w1 0 tp (λw2 aW=>?_);have h2:=(H1.o.below aW).ar (.cells #[.int .i64 0,.int .i64 0,.int .i64 0,.int .i64 0,.slice none 0 0,.string ⟨#[]⟩,.int .i64 0,.int .i64 (-1),.int .i64 tp] 66) w2.heap.size;have H2:=qh h2;clear aW h2;go_wp2_with fail;refine cB (H2.o.at 1 rfl) ⟨#[108,101,116]⟩ (λw3 hi h3=>?_) (λw3 hi h3=>?_)
 ·have hE:de ad T E S st=Y7 ad T E tp {st with pos:=st.pos+1}:=vS.o.trans ((aj hi).trans rfl);obtain⟨s3,Yo⟩:∃s':Ty.St,s'={st with pos:=st.pos+1}:=⟨_,rfl⟩
  have ahv:s3.pos=st.pos+1:=by rw[Yo]
  have ahB:s3.ns.length=st.ns.length:=by rw[Yo]
  rw[<-Yo]at h3 hE
  have jK:=qh hE;have H3:=qh h3.km;clear hi h3 hE Yo vS;go_wp2_with fail;refine mY (H3.o.at 1 rfl) _ [] (OP _) (by simp) (λx w4 hm h4=>?_) (λe w4 hm h4=>?_);rotate_left
  ·have HX:Hq (de ad T E S st=.error e):=jK.o.trans (aL hm);have HZ:=qh (h4.unpack 0 rfl);clear hm h4;go_wp2_with fail;exact⟨rfl,bX.o _ _ HX.o (HZ.o.pick [0])⟩
  have hE:de ad T E S st=Ty.SQ ad T E tp x {s3 with pos:=s3.pos+1}:=jK.o.trans (aj hm);obtain⟨s4,PX⟩:∃s':Ty.St,s'={s3 with pos:=s3.pos+1}:=⟨_,rfl⟩
  have afe:s4.pos=s3.pos+1:=by rw[PX]
  have agO:s4.ns.length=s3.ns.length:=by rw[PX]
  rw[<-PX]at h4 hE
  have uJ:=qh hE;clear hE PX;have k4:=h4.km;have aaN:=k4.cell 2 0;have aaL:=k4.cell 2 5;have f4:=k4.free 2 rfl;have m4:=((k4.store 2 rfl 0 (.int .i64 17)).store 2 rfl 5 (.string x))
  have H4:=qh m4;clear hm h4 k4 m4;go_wp2_with fail;clear f4 aaN aaL;refine pD HL.o (H4.o.at 1 rfl) (λt s5 w5 hm h5=>?_) (λe w5 hm h5=>?_);rotate_left
  ·have HX:Hq (de ad T E S st=.error e):=uJ.o.trans (aL hm);have HZ:=qh (h5.unpack 0 rfl);clear hm h5;go_wp2_with fail;exact⟨rfl,bX.o _ _ HX.o (HZ.o.pick [0])⟩
  have abq:=iL HL.o.at' _ _ _ hm;have tD:Hq (de ad T E S st=acO ad E tp x t s5):=uJ.o.trans (aj hm);have k5:=h5.km;have Zh:=k5.cell 2 7;have f5:=k5.free 2 rfl;have m5:=(k5.store 2 rfl 7 (.int .i64 t))
  have H5:=qh m5;clear hm h5 k5 m5;go_wp2_with fail;clear f5 Zh;refine cS (H5.o.at 1 rfl) ⟨#[61]⟩ (λw6 hm h6=>?_) (λe w6 hm h6=>?_);rotate_left
  ·have HX:Hq (de ad T E S st=.error e):=tD.o.trans (aL hm);have HZ:=qh (h6.unpack 0 rfl);clear hm h6;go_wp2_with fail;exact⟨rfl,bX.o _ _ HX.o (HZ.o.pick [0])⟩
  have hE:de ad T E S st=ac7 ad E tp x t {s5 with pos:=s5.pos+1}:=tD.o.trans (aj hm);obtain⟨s6,Yz⟩:∃s':Ty.St,s'={s5 with pos:=s5.pos+1}:=⟨_,rfl⟩
  have ahj:s6.pos=s5.pos+1:=by rw[Yz]
  have ahF:s6.ns.length=s5.ns.length:=by rw[Yz]
  rw[<-Yz]at h6 hE
  have AV:=qh hE;have H6:=qh h6.km;clear hm h6 hE Yz;go_wp2_with fail;refine HL.o.e _ _ _ pb _ (H6.o.at 1 rfl) _ (λa s7 w7 hm h7=>?_) (λe w7 hm h7=>?_);rotate_left
  ·have HX:Hq (de ad T E S st=.error e):=AV.o.trans (aL hm);have HZ:=qh (h7.unpack 0 rfl);clear hm h7;go_wp2_with fail;exact⟨rfl,bX.o _ _ HX.o (HZ.o.pick [0])⟩
  have aen:=HL.o.ae _ _ _ hm;have zR:Hq (de ad T E S st=U6 ad (Rq tp x t a) s7):=AV.o.trans (aj hm);have k7:=h7.km;have aa8:=k7.cell 2 1;have f7:=k7.free 2 rfl;have m7:=(k7.store 2 rfl 1 (.int .i64 (a:Nat)))
  have H7:=qh m7;clear hm h7 k7 m7;go_wp2_with fail;clear f7 aa8;refine cS (H7.o.at 1 rfl) ⟨#[59]⟩ (λw8 hm h8=>?_) (λe w8 hm h8=>?_);rotate_left
  ·have HX:Hq (de ad T E S st=.error e):=zR.o.trans (aL hm);have HZ:=qh (h8.unpack 0 rfl);clear hm h8;go_wp2_with fail;exact⟨rfl,bX.o _ _ HX.o (HZ.o.pick [0])⟩
  have HX:Hq (de ad T E S st=.ok (s7.ns.length,{s7 with pos:=s7.pos+1,ns:=s7.ns++[Rq tp x t a]})):=zR.o.trans ((aj hm).trans rfl);have k8:=h8.km;have q0:=k8.cell 2 0;have q1:=k8.cell 2 1;have q2:=k8.cell 2 2;have q3:=k8.cell 2 3;have q4:=k8.cell 2 4;have q5:=k8.cell 2 5;have q6:=k8.cell 2 6;have q7:=k8.cell 2 7;have q8:=k8.cell 2 8;have H8:=qh (k8.nil 3 1);clear hm h8 k8;go_wp2_with fail;refine bT (Rq tp x t a) (.slice none 0 0) (H8.o.pick [0,1,3]) (by dsimp only;omega) (λac3 xH=>?_);have KH:=qh xH;clear xH;go_wp2_with fail;exact fL.o _ _ _ HX.o KH.o
 have UD:Hq (de ad T E S st=(Ty.ak (Ty.take ad [112,114,105,110,116]) λb=>if b then Yk ad E tp else Ty.ak (Ty.take ad [114,101,116,117,114,110]) λb=>if b then V6 ad E tp else Yg ad E S tp) st):=vS.o.trans ((aj hi).trans rfl);have H3:=qh h3.km;clear hi h3 vS;go_wp2_with fail;refine cB (H3.o.at 1 rfl) ⟨#[112,114,105,110,116]⟩ (λw4 hi h4=>?_) (λw4 hi h4=>?_)
 ·have hE:de ad T E S st=Yk ad E tp {st with pos:=st.pos+1}:=UD.o.trans ((aj hi).trans rfl);obtain⟨s4,PX⟩:∃s':Ty.St,s'={st with pos:=st.pos+1}:=⟨_,rfl⟩
  have afe:s4.pos=st.pos+1:=by rw[PX]
  have agO:s4.ns.length=st.ns.length:=by rw[PX]
  rw[<-PX]at h4 hE
  have uJ:=qh hE;have H4:=qh h4.km;clear hi h4 hE PX UD;go_wp2_with fail;refine HL.o.e _ _ _ pb _ (H4.o.at 1 rfl) _ (λa s5 w5 hm h5=>?_) (λe w5 hm h5=>?_);rotate_left
  ·have HX:Hq (de ad T E S st=.error e):=uJ.o.trans (aL hm);have HZ:=qh (h5.unpack 0 rfl);clear hm h5;go_wp2_with fail;exact⟨rfl,bX.o _ _ HX.o (HZ.o.pick [0])⟩
  have abq:=HL.o.ae _ _ _ hm;have tD:Hq (de ad T E S st=U6 ad (Rr tp a) s5):=uJ.o.trans (aj hm);have k5:=h5.km;have aaE:=k5.cell 2 0;have aad:=k5.cell 2 1;have f5:=k5.free 2 rfl;have m5:=((k5.store 2 rfl 0 (.int .i64 21)).store 2 rfl 1 (.int .i64 (a:Nat)))
  have H5:=qh m5;clear hm h5 k5 m5;go_wp2_with fail;clear f5 aaE aad;refine cS (H5.o.at 1 rfl) ⟨#[59]⟩ (λw6 hm h6=>?_) (λe w6 hm h6=>?_);rotate_left
  ·have HX:Hq (de ad T E S st=.error e):=tD.o.trans (aL hm);have HZ:=qh (h6.unpack 0 rfl);clear hm h6;go_wp2_with fail;exact⟨rfl,bX.o _ _ HX.o (HZ.o.pick [0])⟩
  have HX:Hq (de ad T E S st=.ok (s5.ns.length,{s5 with pos:=s5.pos+1,ns:=s5.ns++[Rr tp a]})):=tD.o.trans ((aj hm).trans rfl);have k6:=h6.km;have q0:=k6.cell 2 0;have q1:=k6.cell 2 1;have q2:=k6.cell 2 2;have q3:=k6.cell 2 3;have q4:=k6.cell 2 4;have q5:=k6.cell 2 5;have q6:=k6.cell 2 6;have q7:=k6.cell 2 7;have q8:=k6.cell 2 8;have H6:=qh (k6.nil 3 1);clear hm h6 k6;go_wp2_with fail;refine bT (Rr tp a) (.slice none 0 0) (H6.o.pick [0,1,3]) (by dsimp only;omega) (λac3 xH=>?_);have KH:=qh xH;clear xH;go_wp2_with fail;exact fL.o _ _ _ HX.o KH.o
 have Y5:Hq (de ad T E S st=(Ty.ak (Ty.take ad [114,101,116,117,114,110]) λb=>if b then V6 ad E tp else Yg ad E S tp) st):=UD.o.trans ((aj hi).trans rfl);have H4:=qh h4.km;clear hi h4 UD;go_wp2_with fail;refine cB (H4.o.at 1 rfl) ⟨#[114,101,116,117,114,110]⟩ (λw5 hi h5=>?_) (λw5 hi h5=>?_)
 ·have hE:de ad T E S st=V6 ad E tp {st with pos:=st.pos+1}:=Y5.o.trans ((aj hi).trans rfl);obtain⟨s5,Yi⟩:∃s':Ty.St,s'={st with pos:=st.pos+1}:=⟨_,rfl⟩
  have ahe:s5.pos=st.pos+1:=by rw[Yi]
  have ahn:s5.ns.length=st.ns.length:=by rw[Yi]
  rw[<-Yi]at h5 hE
  have tD:=qh hE;have H5:=qh h5.km;clear hi h5 hE Yi Y5;go_wp2_with fail;refine HL.o.e _ _ _ pb _ (H5.o.at 1 rfl) _ (λa s6 w6 hm h6=>?_) (λe w6 hm h6=>?_);rotate_left
  ·have HX:Hq (de ad T E S st=.error e):=tD.o.trans (aL hm);have HZ:=qh (h6.unpack 0 rfl);clear hm h6;go_wp2_with fail;exact⟨rfl,bX.o _ _ HX.o (HZ.o.pick [0])⟩
  have WL:=HL.o.ae _ _ _ hm;have AV:Hq (de ad T E S st=U6 ad (Rb tp a) s6):=tD.o.trans (aj hm);have k6:=h6.km;have ZY:=k6.cell 2 0;have aby:=k6.cell 2 1;have f6:=k6.free 2 rfl;have m6:=((k6.store 2 rfl 0 (.int .i64 24)).store 2 rfl 1 (.int .i64 (a:Nat)))
  have H6:=qh m6;clear hm h6 k6 m6;go_wp2_with fail;clear f6 ZY aby;refine cS (H6.o.at 1 rfl) ⟨#[59]⟩ (λw7 hm h7=>?_) (λe w7 hm h7=>?_);rotate_left
  ·have HX:Hq (de ad T E S st=.error e):=AV.o.trans (aL hm);have HZ:=qh (h7.unpack 0 rfl);clear hm h7;go_wp2_with fail;exact⟨rfl,bX.o _ _ HX.o (HZ.o.pick [0])⟩
  have HX:Hq (de ad T E S st=.ok (s6.ns.length,{s6 with pos:=s6.pos+1,ns:=s6.ns++[Rb tp a]})):=AV.o.trans ((aj hm).trans rfl);have k7:=h7.km;have q0:=k7.cell 2 0;have q1:=k7.cell 2 1;have q2:=k7.cell 2 2;have q3:=k7.cell 2 3;have q4:=k7.cell 2 4;have q5:=k7.cell 2 5;have q6:=k7.cell 2 6;have q7:=k7.cell 2 7;have q8:=k7.cell 2 8;have H7:=qh (k7.nil 3 1);clear hm h7 k7;go_wp2_with fail;refine bT (Rb tp a) (.slice none 0 0) (H7.o.pick [0,1,3]) (by dsimp only;omega) (λac3 xH=>?_);have KH:=qh xH;clear xH;go_wp2_with fail;exact fL.o _ _ _ HX.o KH.o
 have hE:de ad T E S st=if Ty.is ad (⟨#[105,102]⟩:BA).data.toList st.pos then aZ ad E S true tp st else if Ty.is ad (⟨#[119,104,105,108,101]⟩:BA).data.toList st.pos then aZ ad E S false tp st else cq ad E st:=by
  refine Y5.o.trans ((aj hi).trans ?_);show(if Ty.is ad [105,102] st.pos=true then aZ ad E S true tp else if Ty.is ad [119,104,105,108,101] st.pos=true then aZ ad E S false tp else cq ad E:Ty.M Nat) st= _;show _=if Ty.is ad [105,102] st.pos=true then _ else if Ty.is ad [119,104,105,108,101] st.pos=true then _ else _
  by_cases h1:Ty.is ad [105,102] st.pos=true
  ·rw[if_pos h1,if_pos h1]
  ·rw[if_neg h1,if_neg h1];by_cases h2:Ty.is ad [119,104,105,108,101] st.pos=true
   ·rw[if_pos h2,if_pos h2]
   ·rw[if_neg h2,if_neg h2]
 have k5:=h5.km;have jH:Ty.is ad (⟨#[105,102]⟩:BA).data.toList st.pos=true->st.pos+1<ad.length:=is_lt ig oD.out;have mV:Ty.is ad (⟨#[119,104,105,108,101]⟩:BA).data.toList st.pos=true->st.pos+1<ad.length:=is_lt ig oD.out;have Ji:=qh (λR hR=>pk w5 pb d ad st (k5.pick [0,1]).look ⟨#[105,102]⟩ (R:=R) hR);have YX:=qh (λw6(hb:Below w5.heap.size w5 w6) R hR=>pk w6 pb d ad st ((k5.pick [0,1]).look.below hb) ⟨#[119,104,105,108,101]⟩ (R:=R) hR);have agk:=qh (λ(hi:Ty.is ad (⟨#[105,102]⟩:BA).data.toList st.pos=true) w6(h:Sat w0 w6 [Fr,aT pb d ad st]) R aD au=>Ce HL.o h tp hi (jH hi) (R:=R) aD au);have adQ:=qh (λ(hi:Ty.is ad (⟨#[105,102]⟩:BA).data.toList st.pos=false)(Lk:Ty.is ad (⟨#[119,104,105,108,101]⟩:BA).data.toList st.pos=true) w6(h:Sat w0 w6 [Fr,aT pb d ad st]) R aD au=>zY HL.o h tp hi (mV Lk) (R:=R) aD au);have tD:=qh hE;have H5:=qh k5;clear hi h5 k5 Y5 hE jH mV;generalize Ty.is ad (⟨#[105,102]⟩:BA).data.toList st.pos=b1 at*
 generalize Ty.is ad (⟨#[119,104,105,108,101]⟩:BA).data.toList st.pos=b2 at*
 go_wp2_with fail;refine Ji.o _ (λw6 Ev=>?_);have H6:=qh (H5.o.below Ev);have Sp:=qh Ev;clear Ev;cases b1;rotate_left
 ·skip
  have x:=H6.o;have q0:=x.cell 2 0;have q1:=x.cell 2 1;have q2:=x.cell 2 2;have q3:=x.cell 2 3;have q4:=x.cell 2 4;have q5:=x.cell 2 5;have q6:=x.cell 2 6;have q7:=x.cell 2 7;have q8:=x.cell 2 8;clear x;go_wp2_with fail;refine agk.o (by first|trivial|rfl) _ (H6.o.pick [0,1]) _ (λn s9 w9 hm h9=>?_) (λe w9 hm h9=>?_)
  ·have HX:Hq (de ad T E S st=.ok (n,s9)):=by have h0:=tD.o;simp only[if_true,if_false,Bool.false_eq_true]at h0;exact h0.trans hm
   have H9:=qh h9;clear hm h9;go_wp2_with fail;exact fL.o _ _ _ HX.o H9.o
  ·have HX:Hq (de ad T E S st=.error e):=by have h0:=tD.o;simp only[if_true,if_false,Bool.false_eq_true]at h0;exact h0.trans hm
   have H9:=qh h9;clear hm h9;go_wp2_with fail;exact⟨rfl,bX.o _ _ HX.o H9.o⟩
 go_wp2_with fail;refine YX.o _ Sp.o _ (λw7 acf=>?_);have H7:=qh (H6.o.below acf);clear acf;cases b2;rotate_left
 ·skip
  have x:=H7.o;have q0:=x.cell 2 0;have q1:=x.cell 2 1;have q2:=x.cell 2 2;have q3:=x.cell 2 3;have q4:=x.cell 2 4;have q5:=x.cell 2 5;have q6:=x.cell 2 6;have q7:=x.cell 2 7;have q8:=x.cell 2 8;clear x;go_wp2_with fail;refine adQ.o (by first|trivial|rfl) (by first|trivial|rfl) _ (H7.o.pick [0,1]) _ (λn s9 w9 hm h9=>?_) (λe w9 hm h9=>?_)
  ·have HX:Hq (de ad T E S st=.ok (n,s9)):=by have h0:=tD.o;simp only[if_true,if_false,Bool.false_eq_true]at h0;exact h0.trans hm
   have H9:=qh h9;clear hm h9;go_wp2_with fail;exact fL.o _ _ _ HX.o H9.o
  ·have HX:Hq (de ad T E S st=.error e):=by have h0:=tD.o;simp only[if_true,if_false,Bool.false_eq_true]at h0;exact h0.trans hm
   have H9:=qh h9;clear hm h9;go_wp2_with fail;exact⟨rfl,bX.o _ _ HX.o H9.o⟩
 go_wp2_with fail;refine Jr HL.o (H7.o.pick [0,1]) (λn s9 w9 hm h9=>?_) (λe w9 hm h9=>?_)
 ·have HX:Hq (de ad T E S st=.ok (n,s9)):=by have h0:=tD.o;simp only[if_true,if_false,Bool.false_eq_true]at h0;exact h0.trans hm
  have H9:=qh h9;clear hm h9;go_wp2_with fail;exact fL.o _ _ _ HX.o H9.o
 ·have HX:Hq (de ad T E S st=.error e):=by have h0:=tD.o;simp only[if_true,if_false,Bool.false_eq_true]at h0;exact h0.trans hm
  have H9:=qh h9;clear hm h9;go_wp2_with fail;exact⟨rfl,bX.o _ _ HX.o H9.o⟩
section
variable {ad:List Tok.Tk} {d:Nat}
theorem QI{O:Ty.M Nat}(hd:d<20)(xh:eO 319 ad (d+1) O)(hA:bh 1 0 0 O)(hN:Nx O):eO 209 ad d (gW ad O):=by
 intro w0 w Fr pb st H R aD au;go_enter func209,ntmps209;go_wp2_with fail;have h1:=(H.ar (.cells #[.pointer (some ⟨pb,0,none⟩)] 80) w.heap.size)
 refine AP (h1.at 1 rfl) 280 _ Tryz.call280 (gW ad O) (λh w1 h2 R2 yf xA=>?_) (λn st2 w2 _ hm h2=>?_) (λf w2 he _ h2=>?_)
 ·exact Kp xh hA hN w0 w1 _ pb w.heap.size st h2 (λw' h'=>(h'.unpack 0 rfl).cell 1 0) yf xA
 ·have HM:=qh hm;have H2:=qh (h2.km.pick [0,1]);go_wp2;exact aD _ _ _ HM.o H2.o
 ·have hf:=he hd;have H2:=qh h2.out;go_wp2_with fail;exact⟨rfl,au _ _ hf H2.o⟩
theorem Og:eO 209 ad 20 (Ty.fail ad 8):=by
 intro w0 w Fr pb st H R aD au;go_enter func209,ntmps209;go_wp2_with fail;refine AP (H.aU _) 280 _ Tryz.call280 (Ty.fail ad 8) (λh=>absurd h (by omega)) (λn st2 w2 h=>absurd h (by omega)) (λf w2 _ he h2=>?_);have hf:=he rfl;have HF:=qh hf;clear he hf;go_wp2_with fail;exact⟨rfl,au _ _ (by rw[HF.o];rfl) h2⟩
theorem Rs{S:Ty.M Nat}(hd:d<20)(hs:eO 131 ad (d+1) S):eO 76 ad d S:=by
 intro w0 w Fr pb st H R aD au;go_enter func76,ntmps76;go_wp2_with fail;refine vb H 131 _ Tryz.call131 S (λh w1 h2 R2 yf xA=>hs _ _ _ _ _ h2 _ yf xA) (λn st2 w2 _ hm h2=>?_) (λf w2 he _ h2=>?_)
 ·have HM:=qh hm;have H2:=qh h2;go_wp2;exact aD _ _ _ HM.o H2.o
 ·have hf:=he hd;have H2:=qh h2;go_wp2_with fail;exact⟨rfl,au _ _ hf H2.o⟩
theorem Pa:eO 76 ad 20 (Ty.fail ad 8):=by
 intro w0 w Fr pb st H R aD au;go_enter func76,ntmps76;go_wp2_with fail;refine vb H 131 _ Tryz.call131 (Ty.fail ad 8) (λh=>absurd h (by omega)) (λn st2 w2 h=>absurd h (by omega)) (λf w2 _ he h2=>?_);have hf:=he rfl;have HF:=qh hf;clear he hf;go_wp2_with fail;exact⟨rfl,au _ _ (by rw[HF.o];rfl) h2⟩
theorem XS{O:Ty.M Nat}(hd:d<20)(ho:eO 319 ad (d+1) O):YK ad d O:=by
 intro w0 w Fr pb st H R aD au;exact vb H 319 _ Tryz.call319 O (λh w1 h2 R2 yf xA=>ho _ _ _ _ _ h2 _ yf xA) (λn st2 w2 _ hm h2=>aD n st2 w2 hm h2) (λf w2 he _ h2=>au f w2 (he hd) h2)
theorem Tf:YK ad 20 (Ty.fail ad 8):=by
 intro w0 w Fr pb st H R aD au;exact vb H 319 _ Tryz.call319 (Ty.fail ad 8) (λh=>absurd h (by omega)) (λn st2 w2 h=>absurd h (by omega)) (λf w2 _ he h2=>au f w2 (by rw[he rfl];rfl) h2)
end
theorem GQ(ad:List Tok.Tk)(jU:EH ad):∀r,r<=20->eO 209 ad (20-r) (Ty.lv ad r).E/\YK ad (20-r) (Ty.lv ad r).O/\eO 76 ad (20-r) (Ty.lv ad r).S
 |0,_=>⟨Og,Tf,Pa⟩
 |r+1,hr=>by
  obtain⟨he,ho,hs⟩:=GQ ad jU r (by omega);obtain⟨ae,ao,TR⟩:=Ae ad r;obtain⟨ne,no,ns⟩:=O_ ad r;have L:Lo ad (20-r) (Ty.eJ ad r) (Ty.lv ad r).E (Ty.lv ad r).O (Ty.lv ad r).S:=⟨Iz ad r (by omega),he,ho,hs,rG ad r,ae,ao,TR,bP.eJ ad r,ne,no,ns⟩
  have xh:=Pe L jU;have RY:=Mf L;have e:20-r=20-(r+1)+1:=by omega
  rw[e]at xh RY
  obtain⟨_,afy,_⟩:=Ae ad (r+1);obtain⟨_,ae7,_⟩:=O_ ad (r+1);exact⟨QI (by omega) xh afy ae7,XS (by omega) xh,Rs (by omega) RY⟩
theorem SR{w0 w:World}{Fr:As}{pb d:Nat}{ad:List Tok.Tk}{st:Ty.St}(H:Sat w0 w [Fr,aT pb d ad st]){R:EW}
  (hR:∀w',Below w.heap.size w w'->R (.returned (bm (if st.ts.length>300 then(2,0)else(0,0)))) w'):
  Calls prog 78 #[.pointer (some ⟨pb,0,none⟩)] w R:=by
 have HR:=qh hR;have cm:=H.look;obtain⟨⟨lv,nv,tv,main⟩,h⟩:=H.nf;have hn:st.ns.length<=1002:=by have:=cm.fits;have:=cm.wf.1;omega
 have ht:st.ts.length<=1002:=by have:=cm.fits;have:=cm.wf.1;omega
 obtain⟨rows,h⟩:=h.ex (i:=4) rfl;have h:=h.unpack 4 rfl;obtain⟨uu,h⟩:=h.ex (i:=4) rfl;have h:=h.unpack 4 rfl;obtain⟨a3,c3,e3⟩:=ag (h.row 5);obtain⟨a4,c4,e4⟩:=ag (h.row 8);dsimp only at e3 e4;subst e3 e4;have k3:=h.cell 2 3;have k4:=h.cell 2 4;have bz:=h.lt 2;have k1:decide ((1200:Int)<st.ns.length)=false:=by simp;omega
 by_cases h3:300<st.ts.length
 ·have k2:decide ((300:Int)<st.ts.length)=true:=by simp;omega
  rw[if_pos h3]at HR
  clear hR H h cm h3;go_in;go_wp2_with fail;refine bodyPost_ret ?_ rfl (HR.o _ ?_)
  ·simp[results,results78,go_sem,bm]
  ·exact(bR _ _).alloc (nR _) _
 ·have k2:decide ((300:Int)<st.ts.length)=false:=by simp;omega
  rw[if_neg h3]at HR
  clear hR H h cm h3;go_in;go_wp2_with fail;refine bodyPost_ret ?_ rfl (HR.o _ ?_)
  ·simp[results,results78,go_sem,bm]
  ·exact(bR _ _).alloc (nR _) _
theorem Vx(p:Nat)(f:Ty.Ft)(x y:Value)(w:World)(hx:w.heap[p]?=some (.cells #[x,y] 25 (0,0))):
  CallsD prog 73 #[.pointer (some ⟨p,0,none⟩)] (.panicking (aO f)) w λe u' w'=>
   e=.returned (.tuple #[])/\u'=.panicking [{v:=.iface 25 (bm f),recovered:=true}]/\w'=(w.setCell ⟨p,0,none⟩ (.int .i64 f.1)).setCell ⟨p,1,none⟩ (.int .i64 f.2):=by
 have c0:w.cell? ⟨p,0,none⟩=some x:=by rw[cell_of_block hx];rfl
 have c1:w.cell? ⟨p,1,none⟩=some y:=by rw[cell_of_block hx];rfl
 have hf:∀o,w.frozen? ⟨p,o,none⟩=false:=λo=>bZ hx o
 refine callsD_of_wpS func73 rfl λvx cs hu=>?_
 unfold aO at hu;apply wpS_seq;apply wpS_region;simp[wpOpsS,go_sem,recoverD,hu,ntmps73,Exit.thenS];apply wpS_seq;apply wpS_region;simp[wpOpsS,go_sem,Exit.thenS];refine wpS_cond (t:=true) (by simp[Act.eval,Array.replicate]) ?_;simp only[if_true];apply wpS_region;simp[wpOpsS,go_sem,c0,c1,hf,bodyPostS,results,results73,bm,sq]
theorem RU(p:Nat)(w:World):
  CallsD prog 73 #[.pointer (some ⟨p,0,none⟩)] .returning w λe u' w'=>e=.returned (.tuple #[])/\u'=.returning/\w'=w:=by
 refine callsD_of_wpS func73 rfl λvx cs hu=>?_
 apply wpS_seq;apply wpS_region;simp[wpOpsS,go_sem,recoverD,hu,ntmps73,Exit.thenS];apply wpS_seq;apply wpS_region;simp[wpOpsS,go_sem,Exit.thenS];refine wpS_cond (t:=false) (by simp[Act.eval,Array.replicate]) ?_;simp only[Bool.false_eq_true,if_false];refine wpS_of_wp (wp_skip ?_);cases vx;simp_all[bodyPostS,results,results73]
namespace Ty
def Px(ad:List Tok.Tk)(f:Nat)(l:List Nat):M Nat:=ak (dN ad (lv ad 20).S f l) λl=>addNode {af 26 0 with list:=l}
theorem QL{ad:List Tok.Tk}{f:Nat}{l:List Nat}{s:St}(h: (cur ad s.pos).kind=6):Px ad (f+1) l s=.ok (s.ns.length,{s with ns:=s.ns++[{af 26 0 with list:=l}]}):=by
 unfold Px;have e:dN ad (lv ad 20).S (f+1) l s=.ok (l,s):=by
  show(if(cur ad s.pos).kind=6 then ret l else _:M (List Nat)) s= _;rw[if_pos h];rfl
 rw[aj e];rfl
theorem Rf{ad:List Tok.Tk}{f:Nat}{l:List Nat}{s:St}{e:Ft}(h: (cur ad s.pos).kind≠6)(hs: (lv ad 20).S s=.error e):Px ad (f+1) l s=.error e:=by
 unfold Px;have e:dN ad (lv ad 20).S (f+1) l s=.error e:=by
  show(if(cur ad s.pos).kind=6 then ret l else ak (lv ad 20).S λn=>dN ad (lv ad 20).S f (l++[n]):M (List Nat)) s= _;rw[if_neg h,aL hs]
 rw[aL e]
theorem SV{ad:List Tok.Tk}{f:Nat}{l:List Nat}{s s1:St}{n:Nat}(h: (cur ad s.pos).kind≠6)(hs: (lv ad 20).S s=.ok (n,s1)):Px ad (f+1) l s=Px ad f (l++[n]) s1:=by
 unfold Px;have e:dN ad (lv ad 20).S (f+1) l s=dN ad (lv ad 20).S f (l++[n]) s1:=by
  show(if(cur ad s.pos).kind=6 then ret l else ak (lv ad 20).S λn=>dN ad (lv ad 20).S f (l++[n]):M (List Nat)) s= _;rw[if_neg h,aj hs]
 unfold ak;rw[e]
end Ty
def oq(ad:List Tok.Tk)(st:Ty.St):Except Ty.Ft (Nat×Ty.St):=
 match oj ad st with
 | .error f=>.error f
 | .ok (n,s)=>if s.ts.length>300 then .error (2,0)else .ok (n,s)
theorem KE{ad:List Tok.Tk}{st:Ty.St}{f:Ty.Ft}(h:oj ad st=.error f):oq ad st=.error f:=by unfold oq;rw[h]
theorem LK{ad:List Tok.Tk}{st s:Ty.St}{n:Nat}(h:oj ad st=.ok (n,s)):oq ad st=if s.ts.length>300 then .error (2,0)else .ok (n,s):=by unfold oq;rw[h]
theorem D4{w0 w:World}{Fr:As}{pb:Nat}{ad:List Tok.Tk}{st:Ty.St}(jU:EH ad)(H:Sat w0 w [Fr,aT pb 0 ad st])(yo:st.ns.length<=st.pos){R:EW}
  (aD:∀n s p w',oq ad st=.ok (n,s)->p.2.2.2=(n:Int)->Sat w0 w' (Fr::yL pb 0 ad s p)->R (.returned (bm (0,0))) w')
  (au:∀f w',oq ad st=.error f->Sat w0 w' [Fr]->R (.returned (bm f)) w'):
  Calls prog 40 #[.pointer (some ⟨pb,0,none⟩)] w R:=by
 have fL:=qh aD;have bX:=qh au;have HS:=qh H;have cm:=H.look;have kG:=cm.wf.1;have ig:=cm.fits.1;have af9:Hq (eO 76 ad 0 (Ty.lv ad 20).S):=(GQ ad jU 20 (by omega)).2.2;have adM:=qh (Ae ad 20).2.2;obtain⟨i0,ti,oB,oA,oy⟩:=info_parts jA;have ZU:=pR;have vS:Hq (∀r,Px ad (ad.length+1) [] st=r->oj ad st=r):=λr h=>h
 clear aD au H cm jU
 go_enter_defers func40,ntmps40
 go_wp2_with fail;have h1:=HS.o.ar (.cells #[.int .i64 0,.int .i64 0] 25) w.heap.size;refine lG _ 26 0 (λw2 aW=>?_);have h2:=((h1.below aW).ar (.cells #[.int .i64 26,.int .i64 0,.int .i64 0,.int .i64 0,.slice none 0 0,.string ⟨#[]⟩,.int .i64 0,.int .i64 (-1),.int .i64 0] 66) w2.heap.size).nil 3 1;have h2:Sat w0 _ [Fr,aT pb 0 ad st,ax w.heap.size (.cells #[.int .i64 0,.int .i64 0] 25 (0,0)),ax w2.heap.size (sW 26 0 0 (.slice none 0 0)),gi (.slice none 0 0) []]:=h2;have H2:=qh h2;clear aW h1 h2;go_wp2_with fail;go_loopw [6] (λ_ wr=>∃(f:Nat)(l:List Nat)(s:Ty.St)(v:Value),s.pos<ad.length/\ad.length<s.pos+f/\l.length<=s.pos/\s.ns.length<=s.pos/\Hq (Sat w0 wr [Fr,aT pb 0 ad s,ax w.heap.size (.cells #[.int .i64 0,.int .i64 0] 25 (0,0)),ax w2.heap.size (sW 26 0 0 v),gi v l])/\Hq (∀r,Px ad f l s=r->oj ad st=r))
  (λ_ wr=>ad.length-posOf pb wr)
 case atStart=>exact⟨ad.length+1,[],st,.slice none 0 0,ig,by omega,by simp,yo,H2.o,vS.o⟩
 case round=>
  obtain⟨f,l,s,v,hp,hf,pG,Zz,hS,hE⟩:=hrel;obtain⟨f,rfl⟩:∃g,f=g+1:=⟨f-1,by omega⟩
  obtain⟨a,dt,rfl⟩:=ag (hS.out.row 4);have wQ:=qh (dq (hS.out.pick [0,1]).look);have HN:=qh (λR hR=>@gP wr pb 0 ad s (hS.out.pick [0,1]).look R hR);by_cases hk: (Ty.cur ad s.pos).kind=6
  ·have tT:Hq (oq ad st=if s.ts.length>300 then .error (2,0)else .ok (s.ns.length,{s with ns:=s.ns++[{Ty.af 26 0 with list:=l}]})):=LK (hE.out _ (QL hk));generalize Ty.cur ad s.pos=t at*
   obtain⟨kd,tx,tp⟩:=t;obtain rfl:kd=6:=hk;clear hE wQ;go_wp2_with fail;refine HN.o _ (λw4 qW=>?_);dsimp only[bV];have h4:=hS.out.below qW;have q0:=h4.cell 3 0;have q1:=h4.cell 3 1;have q2:=h4.cell 3 2;have q3:=h4.cell 3 3;have q4:=h4.cell 3 4;have q5:=h4.cell 3 5;have q6:=h4.cell 3 6;have q7:=h4.cell 3 7;have q8:=h4.cell 3 8;have H4:=qh h4;clear qW h4;go_wp2_with fail;refine bT {Ty.af 26 0 with list:=l} (.slice a l.length dt) ((Sat.pack (L:=[_,_]) (M:=[_,_,_]) (H4.o.pick [1,4,0,2,3])).pick [2,0,1]) Zz (λw5 h5=>?_);obtain⟨s5,Js⟩:∃s':Ty.St,s'={s with ns:=s.ns++[{Ty.af 26 0 with list:=l}]}:=⟨_,rfl⟩
   have t5:s5.ts=s.ts:=by rw[Js]
   rw[<-Js]at tT h5
   rw[<-t5]at tT
   obtain⟨⟨lv,nv,tv,main⟩,h6⟩:=h5.nf;have y5:=h6.cell 2 5;have f5:=h6.free 2 rfl;have h7:=(h6.store 2 rfl 5 (.int .i64 (s.ns.length:Nat)))
   have h7:Sat w0 _ (aq [Fr,ax w.heap.size (.cells #[.int .i64 0,.int .i64 0] 25 (0,0)),ax w2.heap.size (sW 26 0 0 (.slice a l.length dt))]::yL pb 0 ad s5 (lv,nv,tv,(s.ns.length:Int))):=h7;have H7:=qh h7;clear h5 h6 h7 Js q0 q1 q2 q3 q4 q5 q6 q7 q8;dsimp only at y5;go_wp2_with fail;clear y5 f5;refine SR (Sat.nZ H7.o) (λw8 LU=>?_);have h8:=((H7.o.below LU).unpack 0 rfl).pick [5,6,0,1,2,3,4];have h8:Sat w0 w8 (Fr::ax w.heap.size (.cells #[.int .i64 0,.int .i64 0] 25 (0,0))::yL pb 0 ad s5 (lv,nv,tv,(s.ns.length:Int))):=h8;have h9:=h8.heap 1 rfl;have c0:w8.cell? ⟨w.heap.size,0,none⟩=some (.int .i64 0):=by rw[cell_of_block h9];rfl
   have c1:w8.cell? ⟨w.heap.size,1,none⟩=some (.int .i64 0):=by rw[cell_of_block h9];rfl
   have f0:∀o,w8.frozen? ⟨w.heap.size,o,none⟩=false:=λo=>bZ h9 o
   have H8:=qh h8;clear h8 h9 LU;by_cases ow:s5.ts.length>300
   ·rw[if_pos ow]at tT
    simp only[if_pos ow,bm];clear ow;go_wp2_with fail;refine leaves_cons (f:=73) (args:=#[.pointer (some ⟨w.heap.size,0,none⟩)]) (by simp) (by simp[go_sem]) ?_;refine(RU w.heap.size _).mono ?_
    rintro e u' KY ⟨rfl,rfl,rfl⟩
    have hp:=(H8.o.store 1 rfl 0 (.int .i64 2)).store 1 rfl 1 (.int .i64 0);simp[Leaves,settle,results,results40,go_sem,c0,c1];exact bX.o (2,0) _ tT.o (hp.pick [0])
   ·rw[if_neg ow]at tT
    simp only[if_neg ow,bm];clear ow;go_wp2_with fail;refine leaves_cons (f:=73) (args:=#[.pointer (some ⟨w.heap.size,0,none⟩)]) (by simp) (by simp[go_sem]) ?_;refine(RU w.heap.size _).mono ?_
    rintro e u' KY ⟨rfl,rfl,rfl⟩
    have hp:=(H8.o.store 1 rfl 0 (.int .i64 0)).store 1 rfl 1 (.int .i64 0);simp[Leaves,settle,results,results40,go_sem,c0,c1];exact fL.o _ s5 (lv,nv,tv,(s.ns.length:Int)) _ tT.o rfl (hp.pick [0,2,3,4,5,6])
  ·have YH:Hq (∀n s2,(Ty.lv ad 20).S s=.ok (n,s2)->∀r,Px ad f (l++[n]) s2=r->oj ad st=r):=λn s2 hm r h=>hE.out r ((SV hk hm).trans h)
   have oG:Hq (∀e,(Ty.lv ad 20).S s=.error e->oq ad st=.error e):=λe hm=>KE (hE.out _ (Rf hk hm))
   have CZ: (((Ty.cur ad s.pos).kind:Int) !=6)=true:=by simp;omega
   generalize Ty.cur ad s.pos=t at*
   obtain⟨kd,tx,tp⟩:=t;dsimp only at CZ;clear hE hk;go_wp2_with fail;refine HN.o _ (λw4 qW=>?_);dsimp only[bV];have h6:=hS.out.below qW;have c1:=h6.cell 3 4;have abv:=qh (af9.out w0 w4.drew _ pb s (h6.drew.at 1 rfl));clear qW h6;go_wp2_with fail;first|go_region_law(first|(go_simp;go_at_call 76;refine abv.o _ (λn s2 w5 hm h2=>?_) (λe w5 hm h2=>?_);rotate_left;(have acQ:=(h2.unpack 0 rfl).pick [0,1];have XU:=acQ.heap 1 rfl;have HX:=oG.o _ hm;show Leaves _ _ _ R _ (.panicking (aO e)) w5;refine leaves_cons (f:=73) (args:=#[.pointer (some ⟨w.heap.size,0,none⟩)]) (by simp) (by simp[go_sem]) ?_;refine(Vx w.heap.size e _ _ _ XU).mono ?_;rintro e' u' KY ⟨rfl,rfl,rfl⟩;have hp:=(acQ.store 1 rfl 0 (.int .i64 e.1)).store 1 rfl 1 (.int .i64 e.2);have d0:=hp.cell 1 0;have d1:=hp.cell 1 1;simp[Leaves,settle,results,results40,go_sem,d0,d1];exact bX.o e _ HX (hp.pick [0]));have h3:Sat w0 w5 [Fr,aT pb 0 ad s2,ax w.heap.size (.cells #[.int .i64 0,.int .i64 0] 25 (0,0)),ax w2.heap.size (sW 26 0 0 (.slice a l.length dt)),gi (.slice a l.length dt) l]:=h2.uc;have d1:=h3.cell 3 4;have d2:=(h3.aU (.cells #[.int .i64 n] 3)).cell 3 4;have qZ:=adM.out _ _ _ hm;have H3:=qh h3;have HM:=qh hm;clear h2 h3 hm)|(go_loud(refine step_append_lies _ (by rfl) _ _ _ (by rfl) 0 3 i0 _ 1 8 underlying39 ti oB oA oy rfl (by omega) (.slice a l.length dt) l.length (l.map aQ) (by rfl) ((H3.o.row 4).alloc _) ⟨w5.heap.size,0,none⟩ 1 1 [.int .i64 n] (by rfl) (by rfl) (World.news_of_block (cs:=#[.int .i64 n]) (t:=3) (fr:=(0,0)) (aC _ _ _ (by simp))) (by simp[Value.oneCell']) (by omega) (by unfold maxLen;omega) (by omega) (by simp) (w5.heap.size+1) (by simp) ?_);intro g cap w6 ga fm qO A9;have h4:=Sat.grow (H3.o.aU _) 4 rfl fm ga (by simpa using qO);have d3:=h4.cell 3 4;have f3:=h4.free 3 rfl 4;have H4:=qh h4;clear h4))|fail
   all_goals
    clear ga fm;have h7:=(H4.o.store 3 rfl 4 (.slice (some ⟨g,0,none⟩) (l.length+1) cap)).cQ (i:=4) rfl (Q:=gi (.slice (some ⟨g,0,none⟩) (l.length+1) cap) (l++[n])) (λ_ h=>jd h);have h7:Sat w0 _ [Fr,aT pb 0 ad s2,ax w.heap.size (.cells #[.int .i64 0,.int .i64 0] 25 (0,0)),ax w2.heap.size (sW 26 0 0 (.slice (some ⟨g,0,none⟩) (l.length+1) cap)),gi (.slice (some ⟨g,0,none⟩) (l.length+1) cap) (l++[n])]:=h7;have abg:=(h7.pick [0,1]).look.fits.1;have SZ:=qh (dq (h7.pick [0,1]).look);have H7:=qh h7;have jK:=qh (YH.o _ _ HM.o);clear h7;go_wp2_with fail;go_roundw
    case rel=>exact⟨f,l++[n],s2,_,abg,by omega,by simp;omega,by omega,H7,jK⟩
    case measure=>rw[wQ.o,SZ.o];omega
theorem Ov{s:BA}{ad:List Tok.Tk}{st:Ty.St}{n:Nat}(h1:Tok.scan s=.ok ad)(hn:st.ns.length<=1002)(h2:oq ad ⟨0,[],[]⟩=.ok (n,st)):Ty.parse s=.ok ⟨st.ns,st.ts,n⟩:=by
 unfold Ty.parse;rw[h1];unfold oq at h2;dsimp only;cases h:oj ad ⟨0,[],[]⟩with
 |error f=>rw[h]at h2;cases h2
 |ok p=>
  obtain⟨m,s'⟩:=p;rw[h]at h2
  dsimp only at h2⊢;split at h2
  ·cases h2
  ·rename_i h3;cases h2;rw[if_neg (by omega)]
theorem Je{s:BA}{ad:List Tok.Tk}{f:Ty.Ft}(h1:Tok.scan s=.ok ad)(h2:oq ad ⟨0,[],[]⟩=.error f):Ty.parse s=.error f:=by
 unfold Ty.parse;rw[h1];unfold oq at h2;dsimp only;cases h:oj ad ⟨0,[],[]⟩with
 |error g=>rw[h]at h2;cases h2;rfl
 |ok p=>
  obtain⟨m,s'⟩:=p;rw[h]at h2
  dsimp only at h2⊢;split at h2
  ·rename_i h3;cases h2;rw[if_pos (.inr h3)]
  ·cases h2
theorem yE{w0 w:World}{Fr:As}(H:Sat w0 w [Fr])(s:BA)(hw:Words w)(hm:s.size<=maxLen){R:EW}
  (aD:∀(pg:Ty.Pg) nv tv w',Ty.parse s=.ok pg->Sat w0 w' [Fr,C8 nv pg.ns,sA tv pg.ts]->R (.returned (.tuple #[.agg #[nv,tv,.int .i64 (pg.main:Nat)],bm (0,0)])) w')
  (au:∀f w',Ty.parse s=.error f->Sat w0 w' [Fr]->R (.returned (.tuple #[.agg #[.slice none 0 0,.slice none 0 0,.int .i64 0],bm f])) w'):
  Calls prog 15 #[.string s] w R:=by
 have fL:=qh aD;have bX:=qh au;have HS:=qh H;have HW:=qh hw;have VZ:=qh hm;clear aD au H hw hm;go_in;go_wp2_with fail;have h1:=(HS.o.ar (.cells #[.slice none 0 0,.slice none 0 0,.int .i64 0] 31) w.heap.size).ar (.cells #[.int .i64 0,.int .i64 0] 25) (w.heap.size+1);have h1:Sat w0 _ [aq [Fr,ax w.heap.size (.cells #[.slice none 0 0,.slice none 0 0,.int .i64 0] 31 (0,0)),ax (w.heap.size+1) (.cells #[.int .i64 0,.int .i64 0] 25 (0,0))]]:=Sat.pack (L:=[]) h1;refine C5 h1 s (HW.o.below (((bR _ _).alloc (nR _) _).alloc (by simp) _)) VZ.o (λad pb w1 hl h2=>?_) (λf pb w1 hl h2=>?_)
 ·have h3:=h2.oH.ar (.cells #[.int .i64 0,.int .i64 0] 25) w1.heap.size;have H3:=qh h3;have HL:=qh hl;have ZE:=qh (KF hl);clear h1 h2 h3 hl;dsimp only[bm];go_wp2_with fail;refine D4 ZE.o (H3.o.at 1 rfl) (by simp) (λn st p w2 hs V_ h4=>?_) (λf w2 hs h4=>?_)
  ·obtain⟨lv,nv,tv,main⟩:=p;dsimp only at V_;subst V_;have h5:=(h4.unpack 0 rfl).pick [5,6,7,8,0,1,2,3,4];have acz:=h5.pure 4 rfl;have hn:st.ns.length<=1002:=by have:=acz.1.1;omega
   obtain⟨rows,h6⟩:=h5.ex (i:=7) rfl;obtain⟨na,nc,en⟩:=ag ((h6.unpack 7 rfl).row 9);obtain⟨uu,h7⟩:=h5.ex (i:=8) rfl;obtain⟨ta,tc,et⟩:=ag ((h7.unpack 8 rfl).row 9);clear h6 h7;dsimp only at en et;subst en et;have x0:=h5.cell 3 0;have y0:=h5.cell 2 0;have x1:=h5.cell 3 1;have y1:=h5.cell 2 1;have v0:=h5.cell 1 0;have v1:=h5.cell 1 1;have v2:=h5.cell 1 2;have z3:=h5.cell 5 3;have z4:=h5.cell 5 4;have z5:=h5.cell 5 5;have fx:=h5.free 3 rfl;have fy:=h5.free 2 rfl;have fv:=h5.free 1 rfl;have Ww:=h5.ne 1 3 (by decide) rfl rfl;have acU:=h5.ne 1 5 (by decide) rfl rfl;have VL:=h5.ne 2 3 (by decide) rfl rfl;have acj:=h5.ne 2 5 (by decide) rfl rfl;have acI:=h5.ne 3 5 (by decide) rfl rfl;have By:=h5.lt 1;have gR:=h5.lt 2;have H5:=qh h5;have F9:=qh (Ov HL.o hn hs);clear h4 h5 hs acz hn;dsimp only[bm]at*
   go_wp2_with fail
   go_region
   all_goals
    go_wp2_with fail;refine bodyPost_ret ?_ rfl (fL.o ⟨st.ns,st.ts,n⟩ (.slice na st.ns.length nc) (.slice ta st.ts.length tc) _ F9.o ?_)
    ·simp[results,results15,go_sem,v0,v1,v2,y0,y1]
    ·exact((((((((H5.o.store 3 rfl 0 (.int .i64 0)).store 3 rfl 1 (.int .i64 0)).store 1 rfl 0 (.slice na st.ns.length nc)).store 1 rfl 1 (.slice ta st.ts.length tc)).store 1 rfl 2 (.int .i64 (n:Nat))).store 2 rfl 0 (.int .i64 0)).store 2 rfl 1 (.int .i64 0)).drew.pick [0,7,8])
  ·have h5:=h4.unpack 0 rfl;have x0:=h5.cell 3 0;have y0:=h5.cell 2 0;have x1:=h5.cell 3 1;have y1:=h5.cell 2 1;have v0:=h5.cell 1 0;have v1:=h5.cell 1 1;have v2:=h5.cell 1 2;have fx:=h5.free 3 rfl;have fy:=h5.free 2 rfl;have fv:=h5.free 1 rfl;have Ww:=h5.ne 1 3 (by decide) rfl rfl;have VL:=h5.ne 2 3 (by decide) rfl rfl;have By:=h5.lt 1;have gR:=h5.lt 2;have hE:=Je HL.o hs;have hb:=ku hE;obtain⟨fe,fp⟩:=f;dsimp only at hb;have e1: ((fe:Int)==0)=false:=by simp;omega
   have e2: ((fe:Int) !=0)=true:=by simp;omega
   have H5:=qh h5;have HE:=qh hE;clear h4 h5 hs hE hb;dsimp only[bm]at*
   go_wp2_with fail
   go_region
   all_goals
    go_wp2_with fail;refine bodyPost_ret ?_ rfl (bX.o (fe,fp) _ HE.o ?_)
    ·simp[results,results15,go_sem,v0,v1,v2,y0,y1]
    ·exact((((((((H5.o.store 3 rfl 0 (.int .i64 fe)).store 3 rfl 1 (.int .i64 fp)).store 1 rfl 0 (.slice none 0 0)).store 1 rfl 1 (.slice none 0 0)).store 1 rfl 2 (.int .i64 0)).store 2 rfl 0 (.int .i64 fe)).store 2 rfl 1 (.int .i64 fp)).drew.pick [0])
 ·have hE:Ty.parse s=.error f:=by unfold Ty.parse;rw[hl]
  have hb:=ku hE;obtain⟨fe,fp⟩:=f;dsimp only at hb;have h5:=h2.unpack 0 rfl;have a0:=h5.cell 2 0;have a1:=h5.cell 2 1;have b0:=h5.cell 1 0;have b1:=h5.cell 1 1;have b2:=h5.cell 1 2;have fy:=h5.free 2 rfl;have fv:=h5.free 1 rfl;have By:=h5.lt 1;have gR:=h5.lt 2;have e1: ((fe:Int)==0)=false:=by simp;omega
  have e2: ((fe:Int) !=0)=true:=by simp;omega
  have H6:=qh h5;have HE:=qh hE;clear h1 h2 h5 hl hE hb;dsimp only[bm]at*
  go_wp2_with fail
  go_region
  all_goals
   go_wp2_with fail;refine bodyPost_ret ?_ rfl (bX.o (fe,fp) _ HE.o ?_)
   ·simp[results,results15,go_sem,By,gR,a0,a1,b0,b1,b2]
   ·exact(((((((H6.o.store 1 rfl 0 (.slice none 0 0)).store 1 rfl 1 (.slice none 0 0)).store 1 rfl 2 (.int .i64 0)).store 2 rfl 0 (.int .i64 fe)).store 2 rfl 1 (.int .i64 fp)).aU _).drew.pick [0])
end Go.Proofs.YtdlbhiaceheffabGreatDoor
