/- Walk of the parser's bare. -/
import Derived.Test.YtdlbhiaceheffabGreatDoorP38
set_option linter.all false
set_option maxRecDepth 100000
set_option maxHeartbeats 8000000
namespace Go.Proofs.YtdlbhiaceheffabGreatDoor
open Go Go.RowKit Ty Tok ak Tryz Proofs.Tryz
namespace Ty
def Rt(ad:List Tok.Tk)(n:Nd):M Nat:=ar (need ad [59]) λ_=>addNode n
def NT(ps:Nat)(x:BA)(t:Int)(a:Nat):Nd:={af 17 ps with text:=x,ty:=t,a:=a}
def Mb(ps a:Nat):Nd:={af 21 ps with a:=a}
def LN(ps a:Nat):Nd:={af 24 ps with a:=a}
def X6(ad:List Tok.Tk)(E:M Nat)(ps:Nat)(x:BA)(t:Int):M Nat:=ar E λa=>Rt ad (NT ps x t a)
def Zr(ad:List Tok.Tk)(E:M Nat)(ps:Nat)(x:BA)(t:Int):M Nat:=ar (need ad [61]) λ_=>X6 ad E ps x t
def Ey(ad:List Tok.Tk)(T E:M Nat)(ps:Nat)(x:BA):M Nat:=ar (written ad T) λt=>Zr ad E ps x t
def Wb(ad:List Tok.Tk)(T E:M Nat)(ps:Nat):M Nat:=ar (name ad []) λx=>Ey ad T E ps x
def Uc(ad:List Tok.Tk)(E:M Nat)(ps:Nat):M Nat:=ar E λa=>Rt ad (Mb ps a)
def Tb(ad:List Tok.Tk)(E:M Nat)(ps:Nat):M Nat:=ar E λa=>Rt ad (LN ps a)
def UW(ad:List Tok.Tk)(E S:M Nat)(ps:Nat):M Nat:=look λs2=>if is ad [105,102] s2.pos then bH ad E S true ps else if is ad [119,104,105,108,101] s2.pos then bH ad E S false ps else di ad E
section
variable {ad:List Tok.Tk} {T E S:M Nat} {s s1:St}
theorem Ig:dy ad T E S s=(ar (take ad [108,101,116]) λb=>if b then Wb ad T E (cur ad s.pos).pos else ar (take ad [112,114,105,110,116]) λb=>if b then Uc ad E (cur ad s.pos).pos else ar (take ad [114,101,116,117,114,110]) λb=>if b then Tb ad E (cur ad s.pos).pos else UW ad E S (cur ad s.pos).pos) s:=rfl
end
end Ty
theorem JH{ad:List Tok.Tk}{d:Nat}{T E O S:Ty.M Nat}(L:Lo ad d T E O S):eB 131 ad d (dy ad T E S):=by
 intro w0 w Fr pb st H R aF av;have aY:=qh aF;have aB:=qh av;have HL:=qh L;have bD:=H.look;have jK:=bD.wf.1;have fs:=bD.fits.1;have oY:=bD.fits.2.2.2;have od:=qh bD.wf;have HS:=qh H;have HN:=qh (λR hR=>@gN w pb d ad st bD R hR);obtain⟨ps,jQ⟩:∃ps,(Ty.cur ad st.pos).pos=ps:=⟨_,rfl⟩
 have sW:Hq (dy ad T E S st=(Ty.ar (Ty.take ad [108,101,116]) λb=>if b then Wb ad T E ps else Ty.ar (Ty.take ad [112,114,105,110,116]) λb=>if b then Uc ad E ps else Ty.ar (Ty.take ad [114,101,116,117,114,110]) λb=>if b then Tb ad E ps else UW ad E S ps) st):=by rw[←jQ];exact Ig
 generalize Ty.cur ad st.pos=t at*
 obtain⟨kd,tx,tp⟩:=t;dsimp only at jQ;subst jQ;have Uh:=j6;clear aF av H L bD;go_enter func131,ntmps131;go_wp2_with fail;refine HN.o _ (λw1 df=>?_);dsimp only[cr];have H1:=qh (HS.o.below df);clear df;go_wp2_with fail;refine kn w1 0 tp (λw2 aI=>?_);have h2:=(H1.o.below aI).aj (.cells #[.int .i64 0,.int .i64 0,.int .i64 0,.int .i64 0,.slice none 0 0,.string ⟨#[]⟩,.int .i64 0,.int .i64 (-1),.int .i64 tp] 66) w2.heap.size;have H2:=qh h2;clear aI h2;go_wp2_with fail;refine cD (H2.o.at 1 rfl) ⟨#[108,101,116]⟩ (λw3 hi h3=>?_) (λw3 hi h3=>?_)
 ·have hE:dy ad T E S st=Wb ad T E tp {st with pos:=st.pos+1}:=sW.o.trans ((aw hi).trans rfl);obtain⟨s3,UK⟩:∃s':Ty.St,s'={st with pos:=st.pos+1}:=⟨_,rfl⟩
  have ac5:s3.pos=st.pos+1:=by rw[UK]
  have adQ:s3.ns.length=st.ns.length:=by rw[UK]
  rw[←UK]at h3 hE
  have jB:=qh hE;have H3:=qh h3.kJ;clear hi h3 hE UK sW;go_wp2_with fail;refine lN (H3.o.at 1 rfl) _ [] (I6 _) (by simp) (λx w4 hm h4=>?_) (λe w4 hm h4=>?_);rotate_left
  ·have HX:Hq (dy ad T E S st=.error e):=jB.o.trans (aQ hm);have HZ:=qh (h4.unpack (i:=0) rfl);clear hm h4;go_wp2_with fail;exact⟨rfl,aB.o _ _ HX.o (HZ.o.pick [0])⟩
  have hE:dy ad T E S st=Ty.Ey ad T E tp x {s3 with pos:=s3.pos+1}:=jB.o.trans (aw hm);obtain⟨s4,MG⟩:∃s':Ty.St,s'={s3 with pos:=s3.pos+1}:=⟨_,rfl⟩
  have abO:s4.pos=s3.pos+1:=by rw[MG]
  have ach:s4.ns.length=s3.ns.length:=by rw[MG]
  rw[←MG]at h4 hE
  have sN:=qh hE;clear hE MG;have k4:=h4.kJ;have Xv:=k4.cell 2 rfl 0 rfl;have X1:=k4.cell 2 rfl 5 rfl;have f4:=k4.free 2 rfl;have z4:=k4.lt 2 rfl;have m4:=((k4.store 2 rfl 0 (.int .i64 17)).store 2 rfl 5 (.string x))
  have H4:=qh m4;clear hm h4 k4 m4;go_wp2_with fail;clear f4 Xv X1;refine nI HL.o (H4.o.at 1 rfl) (λt s5 w5 hm h5=>?_) (λe w5 hm h5=>?_);rotate_left
  ·have HX:Hq (dy ad T E S st=.error e):=sN.o.trans (aQ hm);have HZ:=qh (h5.unpack (i:=0) rfl);clear hm h5;go_wp2_with fail;exact⟨rfl,aB.o _ _ HX.o (HZ.o.pick [0])⟩
  have Wd:=iq HL.o.at' _ _ _ hm;have qU:Hq (dy ad T E S st=Zr ad E tp x t s5):=sN.o.trans (aw hm);have k5:=h5.kJ;have Xy:=k5.cell 2 rfl 7 rfl;have f5:=k5.free 2 rfl;have z5:=k5.lt 2 rfl;have m5:=(k5.store 2 rfl 7 (.int .i64 t))
  have H5:=qh m5;clear hm h5 k5 m5;go_wp2_with fail;clear f5 Xy;refine cP (H5.o.at 1 rfl) ⟨#[61]⟩ (λw6 hm h6=>?_) (λe w6 hm h6=>?_);rotate_left
  ·have HX:Hq (dy ad T E S st=.error e):=qU.o.trans (aQ hm);have HZ:=qh (h6.unpack (i:=0) rfl);clear hm h6;go_wp2_with fail;exact⟨rfl,aB.o _ _ HX.o (HZ.o.pick [0])⟩
  have hE:dy ad T E S st=X6 ad E tp x t {s5 with pos:=s5.pos+1}:=qU.o.trans (aw hm);obtain⟨s6,UA⟩:∃s':Ty.St,s'={s5 with pos:=s5.pos+1}:=⟨_,rfl⟩
  have adl:s6.pos=s5.pos+1:=by rw[UA]
  have ac7:s6.ns.length=s5.ns.length:=by rw[UA]
  rw[←UA]at h6 hE
  have yf:=qh hE;have H6:=qh h6.kJ;clear hm h6 hE UA;go_wp2_with fail;refine HL.o.e _ _ _ pb _ (H6.o.at 1 rfl) _ (λa s7 w7 hm h7=>?_) (λe w7 hm h7=>?_);rotate_left
  ·have HX:Hq (dy ad T E S st=.error e):=yf.o.trans (aQ hm);have HZ:=qh (h7.unpack (i:=0) rfl);clear hm h7;go_wp2_with fail;exact⟨rfl,aB.o _ _ HX.o (HZ.o.pick [0])⟩
  have aaN:=HL.o.ae _ _ _ hm;have xO:Hq (dy ad T E S st=Rt ad (NT tp x t a) s7):=yf.o.trans (aw hm);have k7:=h7.kJ;have XQ:=k7.cell 2 rfl 1 rfl;have f7:=k7.free 2 rfl;have z7:=k7.lt 2 rfl;have m7:=(k7.store 2 rfl 1 (.int .i64 (a:Nat)))
  have H7:=qh m7;clear hm h7 k7 m7;go_wp2_with fail;clear f7 XQ;refine cP (H7.o.at 1 rfl) ⟨#[59]⟩ (λw8 hm h8=>?_) (λe w8 hm h8=>?_);rotate_left
  ·have HX:Hq (dy ad T E S st=.error e):=xO.o.trans (aQ hm);have HZ:=qh (h8.unpack (i:=0) rfl);clear hm h8;go_wp2_with fail;exact⟨rfl,aB.o _ _ HX.o (HZ.o.pick [0])⟩
  have HX:Hq (dy ad T E S st=.ok (s7.ns.length,{s7 with pos:=s7.pos+1,ns:=s7.ns++[NT tp x t a]})):=xO.o.trans ((aw hm).trans rfl);have k8:=h8.kJ;have q0:=k8.cell 2 rfl 0 rfl;have q1:=k8.cell 2 rfl 1 rfl;have q2:=k8.cell 2 rfl 2 rfl;have q3:=k8.cell 2 rfl 3 rfl;have q4:=k8.cell 2 rfl 4 rfl;have q5:=k8.cell 2 rfl 5 rfl;have q6:=k8.cell 2 rfl 6 rfl;have q7:=k8.cell 2 rfl 7 rfl;have q8:=k8.cell 2 rfl 8 rfl;have z8:=k8.lt 2 rfl;have H8:=qh (k8.nil 3 1);clear hm h8 k8;go_wp2_with fail;refine cd (NT tp x t a) (.slice none 0 0) (H8.o.pick [0,1,3]) (by dsimp only;omega) (λZm nY=>?_);have Ql:=qh nY;clear nY;go_wp2_with fail;exact aY.o _ _ _ HX.o Ql.o
 have T_:Hq (dy ad T E S st=(Ty.ar (Ty.take ad [112,114,105,110,116]) λb=>if b then Uc ad E tp else Ty.ar (Ty.take ad [114,101,116,117,114,110]) λb=>if b then Tb ad E tp else UW ad E S tp) st):=sW.o.trans ((aw hi).trans rfl);have H3:=qh h3.kJ;clear hi h3 sW;go_wp2_with fail;refine cD (H3.o.at 1 rfl) ⟨#[112,114,105,110,116]⟩ (λw4 hi h4=>?_) (λw4 hi h4=>?_)
 ·have hE:dy ad T E S st=Uc ad E tp {st with pos:=st.pos+1}:=T_.o.trans ((aw hi).trans rfl);obtain⟨s4,MG⟩:∃s':Ty.St,s'={st with pos:=st.pos+1}:=⟨_,rfl⟩
  have abO:s4.pos=st.pos+1:=by rw[MG]
  have ach:s4.ns.length=st.ns.length:=by rw[MG]
  rw[←MG]at h4 hE
  have sN:=qh hE;have H4:=qh h4.kJ;clear hi h4 hE MG T_;go_wp2_with fail;refine HL.o.e _ _ _ pb _ (H4.o.at 1 rfl) _ (λa s5 w5 hm h5=>?_) (λe w5 hm h5=>?_);rotate_left
  ·have HX:Hq (dy ad T E S st=.error e):=sN.o.trans (aQ hm);have HZ:=qh (h5.unpack (i:=0) rfl);clear hm h5;go_wp2_with fail;exact⟨rfl,aB.o _ _ HX.o (HZ.o.pick [0])⟩
  have Wd:=HL.o.ae _ _ _ hm;have qU:Hq (dy ad T E S st=Rt ad (Mb tp a) s5):=sN.o.trans (aw hm);have k5:=h5.kJ;have Wu:=k5.cell 2 rfl 0 rfl;have Vv:=k5.cell 2 rfl 1 rfl;have f5:=k5.free 2 rfl;have z5:=k5.lt 2 rfl;have m5:=((k5.store 2 rfl 0 (.int .i64 21)).store 2 rfl 1 (.int .i64 (a:Nat)))
  have H5:=qh m5;clear hm h5 k5 m5;go_wp2_with fail;clear f5 Wu Vv;refine cP (H5.o.at 1 rfl) ⟨#[59]⟩ (λw6 hm h6=>?_) (λe w6 hm h6=>?_);rotate_left
  ·have HX:Hq (dy ad T E S st=.error e):=qU.o.trans (aQ hm);have HZ:=qh (h6.unpack (i:=0) rfl);clear hm h6;go_wp2_with fail;exact⟨rfl,aB.o _ _ HX.o (HZ.o.pick [0])⟩
  have HX:Hq (dy ad T E S st=.ok (s5.ns.length,{s5 with pos:=s5.pos+1,ns:=s5.ns++[Mb tp a]})):=qU.o.trans ((aw hm).trans rfl);have k6:=h6.kJ;have q0:=k6.cell 2 rfl 0 rfl;have q1:=k6.cell 2 rfl 1 rfl;have q2:=k6.cell 2 rfl 2 rfl;have q3:=k6.cell 2 rfl 3 rfl;have q4:=k6.cell 2 rfl 4 rfl;have q5:=k6.cell 2 rfl 5 rfl;have q6:=k6.cell 2 rfl 6 rfl;have q7:=k6.cell 2 rfl 7 rfl;have q8:=k6.cell 2 rfl 8 rfl;have z6:=k6.lt 2 rfl;have H6:=qh (k6.nil 3 1);clear hm h6 k6;go_wp2_with fail;refine cd (Mb tp a) (.slice none 0 0) (H6.o.pick [0,1,3]) (by dsimp only;omega) (λZm nY=>?_);have Ql:=qh nY;clear nY;go_wp2_with fail;exact aY.o _ _ _ HX.o Ql.o
 have U0:Hq (dy ad T E S st=(Ty.ar (Ty.take ad [114,101,116,117,114,110]) λb=>if b then Tb ad E tp else UW ad E S tp) st):=T_.o.trans ((aw hi).trans rfl);have H4:=qh h4.kJ;clear hi h4 T_;go_wp2_with fail;refine cD (H4.o.at 1 rfl) ⟨#[114,101,116,117,114,110]⟩ (λw5 hi h5=>?_) (λw5 hi h5=>?_)
 ·have hE:dy ad T E S st=Tb ad E tp {st with pos:=st.pos+1}:=U0.o.trans ((aw hi).trans rfl);obtain⟨s5,US⟩:∃s':Ty.St,s'={st with pos:=st.pos+1}:=⟨_,rfl⟩
  have adB:s5.pos=st.pos+1:=by rw[US]
  have adO:s5.ns.length=st.ns.length:=by rw[US]
  rw[←US]at h5 hE
  have qU:=qh hE;have H5:=qh h5.kJ;clear hi h5 hE US U0;go_wp2_with fail;refine HL.o.e _ _ _ pb _ (H5.o.at 1 rfl) _ (λa s6 w6 hm h6=>?_) (λe w6 hm h6=>?_);rotate_left
  ·have HX:Hq (dy ad T E S st=.error e):=qU.o.trans (aQ hm);have HZ:=qh (h6.unpack (i:=0) rfl);clear hm h6;go_wp2_with fail;exact⟨rfl,aB.o _ _ HX.o (HZ.o.pick [0])⟩
  have T3:=HL.o.ae _ _ _ hm;have yf:Hq (dy ad T E S st=Rt ad (LN tp a) s6):=qU.o.trans (aw hm);have k6:=h6.kJ;have WQ:=k6.cell 2 rfl 0 rfl;have V8:=k6.cell 2 rfl 1 rfl;have f6:=k6.free 2 rfl;have z6:=k6.lt 2 rfl;have m6:=((k6.store 2 rfl 0 (.int .i64 24)).store 2 rfl 1 (.int .i64 (a:Nat)))
  have H6:=qh m6;clear hm h6 k6 m6;go_wp2_with fail;clear f6 WQ V8;refine cP (H6.o.at 1 rfl) ⟨#[59]⟩ (λw7 hm h7=>?_) (λe w7 hm h7=>?_);rotate_left
  ·have HX:Hq (dy ad T E S st=.error e):=yf.o.trans (aQ hm);have HZ:=qh (h7.unpack (i:=0) rfl);clear hm h7;go_wp2_with fail;exact⟨rfl,aB.o _ _ HX.o (HZ.o.pick [0])⟩
  have HX:Hq (dy ad T E S st=.ok (s6.ns.length,{s6 with pos:=s6.pos+1,ns:=s6.ns++[LN tp a]})):=yf.o.trans ((aw hm).trans rfl);have k7:=h7.kJ;have q0:=k7.cell 2 rfl 0 rfl;have q1:=k7.cell 2 rfl 1 rfl;have q2:=k7.cell 2 rfl 2 rfl;have q3:=k7.cell 2 rfl 3 rfl;have q4:=k7.cell 2 rfl 4 rfl;have q5:=k7.cell 2 rfl 5 rfl;have q6:=k7.cell 2 rfl 6 rfl;have q7:=k7.cell 2 rfl 7 rfl;have q8:=k7.cell 2 rfl 8 rfl;have z7:=k7.lt 2 rfl;have H7:=qh (k7.nil 3 1);clear hm h7 k7;go_wp2_with fail;refine cd (LN tp a) (.slice none 0 0) (H7.o.pick [0,1,3]) (by dsimp only;omega) (λZm nY=>?_);have Ql:=qh nY;clear nY;go_wp2_with fail;exact aY.o _ _ _ HX.o Ql.o
 have hE:dy ad T E S st=if Ty.is ad (⟨#[105,102]⟩:BA).data.toList st.pos then bH ad E S true tp st else if Ty.is ad (⟨#[119,104,105,108,101]⟩:BA).data.toList st.pos then bH ad E S false tp st else di ad E st:=by
  refine U0.o.trans ((aw hi).trans ?_);show(if Ty.is ad [105,102] st.pos=true then bH ad E S true tp else if Ty.is ad [119,104,105,108,101] st.pos=true then bH ad E S false tp else di ad E:Ty.M Nat) st= _;show _=if Ty.is ad [105,102] st.pos=true then _ else if Ty.is ad [119,104,105,108,101] st.pos=true then _ else _
  by_cases h1:Ty.is ad [105,102] st.pos=true
  ·rw[if_pos h1,if_pos h1]
  ·rw[if_neg h1,if_neg h1];by_cases h2:Ty.is ad [119,104,105,108,101] st.pos=true
   ·rw[if_pos h2,if_pos h2]
   ·rw[if_neg h2,if_neg h2]
 have k5:=h5.kJ;have jE:Ty.is ad (⟨#[105,102]⟩:BA).data.toList st.pos=true→st.pos+1<ad.length:=is_lt fs od.out;have kL:Ty.is ad (⟨#[119,104,105,108,101]⟩:BA).data.toList st.pos=true→st.pos+1<ad.length:=is_lt fs od.out;have sh:=qh (λR hR=>nU w5 pb d ad st (k5.pick [0,1]).look ⟨#[105,102]⟩ (R:=R) hR);have Pd:=qh (λw6(hb:Below w5.heap.size w5 w6) R hR=>nU w6 pb d ad st ((k5.pick [0,1]).look.below hb) ⟨#[119,104,105,108,101]⟩ (R:=R) hR);have ZY:=qh (λ(hi:Ty.is ad (⟨#[105,102]⟩:BA).data.toList st.pos=true) w6(h:Sat w0 w6 [Fr,aX pb d ad st]) R aF av=>Ag HL.o h tp hi (jE hi) (R:=R) aF av);have aaC:=qh (λ(hi:Ty.is ad (⟨#[105,102]⟩:BA).data.toList st.pos=false)(CC:Ty.is ad (⟨#[119,104,105,108,101]⟩:BA).data.toList st.pos=true) w6(h:Sat w0 w6 [Fr,aX pb d ad st]) R aF av=>yN HL.o h tp hi (kL CC) (R:=R) aF av);have qU:=qh hE;have H5:=qh k5;clear hi h5 k5 U0 hE jE kL;generalize Ty.is ad (⟨#[105,102]⟩:BA).data.toList st.pos=b1 at*
 generalize Ty.is ad (⟨#[119,104,105,108,101]⟩:BA).data.toList st.pos=b2 at*
 go_wp2_with fail;refine sh.o _ (λw6 zj=>?_);have H6:=qh (H5.o.below zj);have yz:=qh zj;clear zj;cases b1;rotate_left
 ·skip
  have x:=H6.o;have q0:=x.cell 2 rfl 0 rfl;have q1:=x.cell 2 rfl 1 rfl;have q2:=x.cell 2 rfl 2 rfl;have q3:=x.cell 2 rfl 3 rfl;have q4:=x.cell 2 rfl 4 rfl;have q5:=x.cell 2 rfl 5 rfl;have q6:=x.cell 2 rfl 6 rfl;have q7:=x.cell 2 rfl 7 rfl;have q8:=x.cell 2 rfl 8 rfl;clear x;go_wp2_with fail;refine ZY.o (by first|trivial|rfl) _ (H6.o.pick [0,1]) _ (λn s9 w9 hm h9=>?_) (λe w9 hm h9=>?_)
  ·have HX:Hq (dy ad T E S st=.ok (n,s9)):=by have h0:=qU.o;simp only[if_true,if_false,Bool.false_eq_true]at h0;exact h0.trans hm
   have H9:=qh h9;clear hm h9;go_wp2_with fail;exact aY.o _ _ _ HX.o H9.o
  ·have HX:Hq (dy ad T E S st=.error e):=by have h0:=qU.o;simp only[if_true,if_false,Bool.false_eq_true]at h0;exact h0.trans hm
   have H9:=qh h9;clear hm h9;go_wp2_with fail;exact⟨rfl,aB.o _ _ HX.o H9.o⟩
 go_wp2_with fail;refine Pd.o _ yz.o _ (λw7 Yu=>?_);have H7:=qh (H6.o.below Yu);clear Yu;cases b2;rotate_left
 ·skip
  have x:=H7.o;have q0:=x.cell 2 rfl 0 rfl;have q1:=x.cell 2 rfl 1 rfl;have q2:=x.cell 2 rfl 2 rfl;have q3:=x.cell 2 rfl 3 rfl;have q4:=x.cell 2 rfl 4 rfl;have q5:=x.cell 2 rfl 5 rfl;have q6:=x.cell 2 rfl 6 rfl;have q7:=x.cell 2 rfl 7 rfl;have q8:=x.cell 2 rfl 8 rfl;clear x;go_wp2_with fail;refine aaC.o (by first|trivial|rfl) (by first|trivial|rfl) _ (H7.o.pick [0,1]) _ (λn s9 w9 hm h9=>?_) (λe w9 hm h9=>?_)
  ·have HX:Hq (dy ad T E S st=.ok (n,s9)):=by have h0:=qU.o;simp only[if_true,if_false,Bool.false_eq_true]at h0;exact h0.trans hm
   have H9:=qh h9;clear hm h9;go_wp2_with fail;exact aY.o _ _ _ HX.o H9.o
  ·have HX:Hq (dy ad T E S st=.error e):=by have h0:=qU.o;simp only[if_true,if_false,Bool.false_eq_true]at h0;exact h0.trans hm
   have H9:=qh h9;clear hm h9;go_wp2_with fail;exact⟨rfl,aB.o _ _ HX.o H9.o⟩
 go_wp2_with fail;refine FF HL.o (H7.o.pick [0,1]) (λn s9 w9 hm h9=>?_) (λe w9 hm h9=>?_)
 ·have HX:Hq (dy ad T E S st=.ok (n,s9)):=by have h0:=qU.o;simp only[if_true,if_false,Bool.false_eq_true]at h0;exact h0.trans hm
  have H9:=qh h9;clear hm h9;go_wp2_with fail;exact aY.o _ _ _ HX.o H9.o
 ·have HX:Hq (dy ad T E S st=.error e):=by have h0:=qU.o;simp only[if_true,if_false,Bool.false_eq_true]at h0;exact h0.trans hm
  have H9:=qh h9;clear hm h9;go_wp2_with fail;exact⟨rfl,aB.o _ _ HX.o H9.o⟩
section
variable {ad:List Tok.Tk} {d:Nat}
theorem M0{O:Ty.M Nat}(hd:d<20)(pI:eB 319 ad (d+1) O)(hA:bg 1 0 0 O)(hN:Nx O):eB 209 ad d (jU ad O):=by
 intro w0 w Fr pb st H R aF av;have Da:=qh pI;have aY:=qh aF;have aB:=qh av;have HS:=qh H;clear aF av H pI;go_enter func209,ntmps209;go_wp2_with fail;have h1:=(HS.o.aj (.cells #[.pointer (some ⟨pb,0,none⟩)] 80) w.heap.size)
 refine xV (h1.at 1 rfl) 280 _ Tryz.call280 (jU ad O) (λh w1 h2 R2 oR l9=>?_) (λn st2 w2 _ hm h2=>?_) (λf w2 he _ h2=>?_)
 ·exact Gf Da.o hA hN w0 w1 _ pb w.heap.size st h2 (λw' h'=>(h'.unpack (i:=0) rfl).cell 1 rfl 0 rfl) oR l9
 ·have HM:=qh hm;have H2:=qh (h2.kJ.pick [0,1]);clear hm h2 h1;go_wp2_with fail;exact aY.o _ _ _ HM.o H2.o
 ·have hf:=he hd;have HF:=qh hf;have H2:=qh h2.out;clear he hf h2 h1;go_wp2_with fail;exact⟨rfl,aB.o _ _ HF.o H2.o⟩
theorem KY:eB 209 ad 20 (Ty.fail ad 8):=by
 intro w0 w Fr pb st H R aF av;have aB:=qh av;have HS:=qh H;clear aF av H;go_enter func209,ntmps209;go_wp2_with fail;refine xV (HS.o.aU _) 280 _ Tryz.call280 (Ty.fail ad 8) (λh=>absurd h (by omega)) (λn st2 w2 h=>absurd h (by omega)) (λf w2 _ he h2=>?_);have hf:=he rfl;have HF:=qh hf;have H2:=qh h2;clear he hf h2;go_wp2_with fail;exact⟨rfl,aB.o _ _ (by rw[HF.o];rfl) H2.o⟩
theorem Mv{S:Ty.M Nat}(hd:d<20)(hs:eB 131 ad (d+1) S):eB 76 ad d S:=by
 intro w0 w Fr pb st H R aF av;have Da:=qh hs;have aY:=qh aF;have aB:=qh av;have HS:=qh H;clear aF av H hs;go_enter func76,ntmps76;go_wp2_with fail;refine tD HS.o 131 _ Tryz.call131 S (λh w1 h2 R2 oR l9=>Da.o _ _ _ _ _ h2 _ oR l9) (λn st2 w2 _ hm h2=>?_) (λf w2 he _ h2=>?_)
 ·have HM:=qh hm;have H2:=qh h2;clear hm h2;go_wp2_with fail;exact aY.o _ _ _ HM.o H2.o
 ·have hf:=he hd;have HF:=qh hf;have H2:=qh h2;clear he hf h2;go_wp2_with fail;exact⟨rfl,aB.o _ _ HF.o H2.o⟩
theorem II:eB 76 ad 20 (Ty.fail ad 8):=by
 intro w0 w Fr pb st H R aF av;have aB:=qh av;have HS:=qh H;clear aF av H;go_enter func76,ntmps76;go_wp2_with fail;refine tD HS.o 131 _ Tryz.call131 (Ty.fail ad 8) (λh=>absurd h (by omega)) (λn st2 w2 h=>absurd h (by omega)) (λf w2 _ he h2=>?_);have hf:=he rfl;have HF:=qh hf;have H2:=qh h2;clear he hf h2;go_wp2_with fail;exact⟨rfl,aB.o _ _ (by rw[HF.o];rfl) H2.o⟩
theorem SZ{O:Ty.M Nat}(hd:d<20)(ho:eB 319 ad (d+1) O):Ul ad d O:=by
 intro w0 w Fr pb st H R aF av;exact tD H 319 _ Tryz.call319 O (λh w1 h2 R2 oR l9=>ho _ _ _ _ _ h2 _ oR l9) (λn st2 w2 _ hm h2=>aF n st2 w2 hm h2) (λf w2 he _ h2=>av f w2 (he hd) h2)
theorem O4:Ul ad 20 (Ty.fail ad 8):=by
 intro w0 w Fr pb st H R aF av;exact tD H 319 _ Tryz.call319 (Ty.fail ad 8) (λh=>absurd h (by omega)) (λn st2 w2 h=>absurd h (by omega)) (λf w2 _ he h2=>av f w2 (by rw[he rfl];rfl) h2)
end
theorem EZ(ad:List Tok.Tk)(mf:C9 ad):∀r,r≤20→eB 209 ad (20-r) (Ty.lv ad r).E∧Ul ad (20-r) (Ty.lv ad r).O∧eB 76 ad (20-r) (Ty.lv ad r).S
 |0,_=>⟨KY,O4,II⟩
 |r+1,hr=>by
  obtain⟨he,ho,hs⟩:=EZ ad mf r (by omega);obtain⟨ae,ao,O2⟩:=xR ad r;obtain⟨ne,no,ns⟩:=KT ad r;have L:Lo ad (20-r) (Ty.sy ad r) (Ty.lv ad r).E (Ty.lv ad r).O (Ty.lv ad r).S:=⟨Mi ad r (by omega),he,ho,hs,p3 ad r,ae,ao,O2,bW.sy ad r,ne,no,ns⟩
  have pI:=IB L mf;have OJ:=JH L;have e:20-r=20-(r+1)+1:=by omega
  rw[e]at pI OJ
  obtain⟨_,aam,_⟩:=xR ad (r+1);obtain⟨_,ab7,_⟩:=KT ad (r+1);exact⟨M0 (by omega) pI aam ab7,SZ (by omega) pI,Mv (by omega) OJ⟩
theorem O_{w0 w:World}{Fr:As}{pb d:Nat}{ad:List Tok.Tk}{st:Ty.St}(H:Sat w0 w [Fr,aX pb d ad st]){R:EW}
  (hR:∀w',Below w.heap.size w w'→R (.returned (bY (if st.ts.length>300 then(2,0)else(0,0)))) w'):
  Calls prog 78 #[.pointer (some ⟨pb,0,none⟩)] w R:=by
 have HR:=qh hR;have bD:=H.look;obtain⟨⟨lv,nv,tv,main⟩,h⟩:=H.oM;have hn:st.ns.length≤1002:=by have:=bD.fits;have:=bD.wf.1;omega
 have ht:st.ts.length≤1002:=by have:=bD.fits;have:=bD.wf.1;omega
 obtain⟨rows,h⟩:=h.ex (i:=4) rfl;have h:=h.unpack (i:=4) rfl;obtain⟨u_,h⟩:=h.ex (i:=4) rfl;have h:=h.unpack (i:=4) rfl;obtain⟨a3,c3,e3⟩:=ag (h.row 5 rfl);obtain⟨a4,c4,e4⟩:=ag (h.row 8 rfl);dsimp only at e3 e4;subst e3 e4;have k3:=h.cell 2 rfl 3 rfl;have k4:=h.cell 2 rfl 4 rfl;have bm:=h.lt 2 rfl;have k1:decide ((1200:Int)<st.ns.length)=false:=by simp;omega
 by_cases h3:300<st.ts.length
 ·have k2:decide ((300:Int)<st.ts.length)=true:=by simp;omega
  rw[if_pos h3]at HR
  clear hR H h bD h3;go_in;go_wp2_with fail;refine bodyPost_ret ?_ rfl (HR.o _ ?_)
  ·simp[results,results78,go_sem,bY]
  ·exact(bR _ _).alloc (nR _) _
 ·have k2:decide ((300:Int)<st.ts.length)=false:=by simp;omega
  rw[if_neg h3]at HR
  clear hR H h bD h3;go_in;go_wp2_with fail;refine bodyPost_ret ?_ rfl (HR.o _ ?_)
  ·simp[results,results78,go_sem,bY]
  ·exact(bR _ _).alloc (nR _) _
theorem RO(p:Nat)(f:Ty.Ft)(x y:Value)(w:World)(hx:w.heap[p]?=some (.cells #[x,y] 25 (0,0))):
  CallsD prog 73 #[.pointer (some ⟨p,0,none⟩)] (.panicking (aJ f)) w λe u' w'=>
   e=.returned (.tuple #[])∧u'=.panicking [{v:=.iface 25 (bY f),recovered:=true}]∧w'=(w.setCell ⟨p,0,none⟩ (.int .i64 f.1)).setCell ⟨p,1,none⟩ (.int .i64 f.2):=by
 have c0:w.cell? ⟨p,0,none⟩=some x:=by rw[cell_of_block hx];rfl
 have c1:w.cell? ⟨p,1,none⟩=some y:=by rw[cell_of_block hx];rfl
 have hf:∀o,w.frozen? ⟨p,o,none⟩=false:=λo=>cC hx o
 refine callsD_of_wpS func73 rfl λBf cs hu=>?_
 unfold aJ at hu;apply wpS_seq;apply wpS_region;simp[wpOpsS,go_sem,recoverD,hu,ntmps73,Exit.thenS];apply wpS_seq;apply wpS_region;simp[wpOpsS,go_sem,Exit.thenS];refine wpS_cond (t:=true) (by simp[Act.eval,Array.replicate]) ?_;simp only[if_true];apply wpS_region;simp[wpOpsS,go_sem,c0,c1,hf,bodyPostS,results,results73,bY,tL]
theorem Ol(p:Nat)(w:World):
  CallsD prog 73 #[.pointer (some ⟨p,0,none⟩)] .returning w λe u' w'=>e=.returned (.tuple #[])∧u'=.returning∧w'=w:=by
 refine callsD_of_wpS func73 rfl λBf cs hu=>?_
 apply wpS_seq;apply wpS_region;simp[wpOpsS,go_sem,recoverD,hu,ntmps73,Exit.thenS];apply wpS_seq;apply wpS_region;simp[wpOpsS,go_sem,Exit.thenS];refine wpS_cond (t:=false) (by simp[Act.eval,Array.replicate]) ?_;simp only[Bool.false_eq_true,if_false];refine wpS_of_wp (wp_skip ?_);cases Bf;simp_all[bodyPostS,results,results73]
namespace Ty
def LF(ad:List Tok.Tk)(f:Nat)(l:List Nat):M Nat:=ar (fE ad (lv ad 20).S f l) λl=>addNode {af 26 0 with list:=l}
theorem NC{ad:List Tok.Tk}{f:Nat}{l:List Nat}{s:St}(h: (cur ad s.pos).kind=6):LF ad (f+1) l s=.ok (s.ns.length,{s with ns:=s.ns++[{af 26 0 with list:=l}]}):=by
 unfold LF;have e:fE ad (lv ad 20).S (f+1) l s=.ok (l,s):=by
  show(if(cur ad s.pos).kind=6 then ret l else _:M (List Nat)) s= _;rw[if_pos h];rfl
 rw[aw e];rfl
theorem L8{ad:List Tok.Tk}{f:Nat}{l:List Nat}{s:St}{e:Ft}(h: (cur ad s.pos).kind≠6)(hs: (lv ad 20).S s=.error e):LF ad (f+1) l s=.error e:=by
 unfold LF;have e:fE ad (lv ad 20).S (f+1) l s=.error e:=by
  show(if(cur ad s.pos).kind=6 then ret l else ar (lv ad 20).S λn=>fE ad (lv ad 20).S f (l++[n]):M (List Nat)) s= _;rw[if_neg h,aQ hs]
 rw[aQ e]
theorem Qz{ad:List Tok.Tk}{f:Nat}{l:List Nat}{s s1:St}{n:Nat}(h: (cur ad s.pos).kind≠6)(hs: (lv ad 20).S s=.ok (n,s1)):LF ad (f+1) l s=LF ad f (l++[n]) s1:=by
 unfold LF;have e:fE ad (lv ad 20).S (f+1) l s=fE ad (lv ad 20).S f (l++[n]) s1:=by
  show(if(cur ad s.pos).kind=6 then ret l else ar (lv ad 20).S λn=>fE ad (lv ad 20).S f (l++[n]):M (List Nat)) s= _;rw[if_neg h,aw hs]
 unfold ar;rw[e]
end Ty
def mU(ad:List Tok.Tk)(st:Ty.St):Except Ty.Ft (Nat×Ty.St):=
 match oe ad st with
 | .error f=>.error f
 | .ok (n,s)=>if s.ts.length>300 then .error (2,0)else .ok (n,s)
theorem F0{ad:List Tok.Tk}{st:Ty.St}{f:Ty.Ft}(h:oe ad st=.error f):mU ad st=.error f:=by unfold mU;rw[h]
theorem Km{ad:List Tok.Tk}{st s:Ty.St}{n:Nat}(h:oe ad st=.ok (n,s)):mU ad st=if s.ts.length>300 then .error (2,0)else .ok (n,s):=by unfold mU;rw[h]
theorem z_{w0 w:World}{Fr:As}{pb:Nat}{ad:List Tok.Tk}{st:Ty.St}(mf:C9 ad)(H:Sat w0 w [Fr,aX pb 0 ad st])(xm:st.ns.length≤st.pos){R:EW}
  (aF:∀n s p w',mU ad st=.ok (n,s)→p.2.2.2=(n:Int)→Sat w0 w' (Fr::xh pb 0 ad s p)→R (.returned (bY (0,0))) w')
  (av:∀f w',mU ad st=.error f→Sat w0 w' [Fr]→R (.returned (bY f)) w'):
  Calls prog 40 #[.pointer (some ⟨pb,0,none⟩)] w R:=by
 have aY:=qh aF;have aB:=qh av;have HS:=qh H;have bD:=H.look;have jK:=bD.wf.1;have fs:=bD.fits.1;have abb:Hq (eB 76 ad 0 (Ty.lv ad 20).S):=(EZ ad mf 20 (by omega)).2.2;have abh:=qh (xR ad 20).2.2;obtain⟨i0,ti,mx,mu,mw⟩:=info_parts jo;have Hu:∀(fn:Fn)(first cap:Array Value)(w:World),(Instr.makeFunc fn first cap).run prog w=.ok (.func fn first cap) w:=λ_ _ _ _=>rfl
 have Yt:=rj;have sW:Hq (∀r,LF ad (ad.length+1) [] st=r→oe ad st=r):=λr h=>h
 clear aF av H bD mf
 go_enter_defers func40,ntmps40
 go_wp2_with fail;have h1:=HS.o.aj (.cells #[.int .i64 0,.int .i64 0] 25) w.heap.size;refine kn _ 26 0 (λw2 aI=>?_);have h2:=((h1.below aI).aj (.cells #[.int .i64 26,.int .i64 0,.int .i64 0,.int .i64 0,.slice none 0 0,.string ⟨#[]⟩,.int .i64 0,.int .i64 (-1),.int .i64 0] 66) w2.heap.size).nil 3 1;have h2:Sat w0 _ [Fr,aX pb 0 ad st,ay w.heap.size (.cells #[.int .i64 0,.int .i64 0] 25 (0,0)),ay w2.heap.size (rh 26 0 0 (.slice none 0 0)),eZ (.slice none 0 0) []]:=h2;have H2:=qh h2;clear aI h1 h2;go_wp2_with fail;go_loopw [6] (λ_ wr=>∃(f:Nat)(l:List Nat)(s:Ty.St)(v:Value),s.pos<ad.length∧ad.length<s.pos+f∧l.length≤s.pos∧s.ns.length≤s.pos∧Hq (Sat w0 wr [Fr,aX pb 0 ad s,ay w.heap.size (.cells #[.int .i64 0,.int .i64 0] 25 (0,0)),ay w2.heap.size (rh 26 0 0 v),eZ v l])∧Hq (∀r,LF ad f l s=r→oe ad st=r))
  (λ_ wr=>ad.length-posOf pb wr)
 case atStart=>exact⟨ad.length+1,[],st,.slice none 0 0,fs,by omega,by simp,xm,H2.o,sW.o⟩
 case round=>
  obtain⟨f,l,s,v,hp,hf,oV,Xl,hS,hE⟩:=hrel;obtain⟨f,rfl⟩:∃g,f=g+1:=⟨f-1,by omega⟩
  obtain⟨a,dr,rfl⟩:=ag (hS.out.row 4 rfl);have oH:=qh (dm (hS.out.pick [0,1]).look);have HN:=qh (λR hR=>@gN wr pb 0 ad s (hS.out.pick [0,1]).look R hR);by_cases hk: (Ty.cur ad s.pos).kind=6
  ·have rV:Hq (mU ad st=if s.ts.length>300 then .error (2,0)else .ok (s.ns.length,{s with ns:=s.ns++[{Ty.af 26 0 with list:=l}]})):=Km (hE.out _ (NC hk));generalize Ty.cur ad s.pos=t at*
   obtain⟨kd,tx,tp⟩:=t;obtain rfl:kd=6:=hk;clear hE oH;go_wp2_with fail;refine HN.o _ (λw4 yG=>?_);dsimp only[cr];have h4:=hS.out.below yG;have q0:=h4.cell 3 rfl 0 rfl;have q1:=h4.cell 3 rfl 1 rfl;have q2:=h4.cell 3 rfl 2 rfl;have q3:=h4.cell 3 rfl 3 rfl;have q4:=h4.cell 3 rfl 4 rfl;have q5:=h4.cell 3 rfl 5 rfl;have q6:=h4.cell 3 rfl 6 rfl;have q7:=h4.cell 3 rfl 7 rfl;have q8:=h4.cell 3 rfl 8 rfl;have z4:=h4.lt 3 rfl;have H4:=qh h4;clear yG h4;go_wp2_with fail;refine cd {Ty.af 26 0 with list:=l} (.slice a l.length dr) ((Sat.pack (L:=[_,_]) (M:=[_,_,_]) (H4.o.pick [1,4,0,2,3])).pick [2,0,1]) Xl (λw5 h5=>?_);obtain⟨s5,GR⟩:∃s':Ty.St,s'={s with ns:=s.ns++[{Ty.af 26 0 with list:=l}]}:=⟨_,rfl⟩
   have t5:s5.ts=s.ts:=by rw[GR]
   rw[←GR]at rV h5
   rw[←t5]at rV
   obtain⟨⟨lv,nv,tv,main⟩,h6⟩:=h5.oM;have y5:=h6.cell 2 rfl 5 rfl;have f5:=h6.free 2 rfl;have z5:=h6.lt 2 rfl;have h7:=(h6.store 2 rfl 5 (.int .i64 (s.ns.length:Nat)))
   have h7:Sat w0 _ (ah [Fr,ay w.heap.size (.cells #[.int .i64 0,.int .i64 0] 25 (0,0)),ay w2.heap.size (rh 26 0 0 (.slice a l.length dr))]::xh pb 0 ad s5 (lv,nv,tv,(s.ns.length:Int))):=h7;have H7:=qh h7;clear h5 h6 h7 GR q0 q1 q2 q3 q4 q5 q6 q7 q8;dsimp only at y5;go_wp2_with fail;clear y5 f5;refine O_ (Sat.mP H7.o) (λw8 qN=>?_);have h8:=((H7.o.below qN).unpack (i:=0) rfl).pick [5,6,0,1,2,3,4];have h8:Sat w0 w8 (Fr::ay w.heap.size (.cells #[.int .i64 0,.int .i64 0] 25 (0,0))::xh pb 0 ad s5 (lv,nv,tv,(s.ns.length:Int))):=h8;have h9:=h8.heap 1 rfl;have adr:=h8.lt 1 rfl;have c0:w8.cell? ⟨w.heap.size,0,none⟩=some (.int .i64 0):=by rw[cell_of_block h9];rfl
   have c1:w8.cell? ⟨w.heap.size,1,none⟩=some (.int .i64 0):=by rw[cell_of_block h9];rfl
   have f0:∀o,w8.frozen? ⟨w.heap.size,o,none⟩=false:=λo=>cC h9 o
   have H8:=qh h8;clear h8 h9 qN;by_cases zi:s5.ts.length>300
   ·rw[if_pos zi]at rV
    simp only[if_pos zi,bY];clear zi;go_wp2_with fail;refine leaves_cons (f:=73) (args:=#[.pointer (some ⟨w.heap.size,0,none⟩)]) (by simp) (by simp[go_sem]) ?_;refine(Ol w.heap.size _).mono ?_
    rintro e u' Mq ⟨rfl,rfl,rfl⟩
    have hp:=(H8.o.store 1 rfl 0 (.int .i64 2)).store 1 rfl 1 (.int .i64 0);simp[Leaves,settle,results,results40,go_sem,c0,c1];exact aB.o (2,0) _ rV.o (hp.pick [0])
   ·rw[if_neg zi]at rV
    simp only[if_neg zi,bY];clear zi;go_wp2_with fail;refine leaves_cons (f:=73) (args:=#[.pointer (some ⟨w.heap.size,0,none⟩)]) (by simp) (by simp[go_sem]) ?_;refine(Ol w.heap.size _).mono ?_
    rintro e u' Mq ⟨rfl,rfl,rfl⟩
    have hp:=(H8.o.store 1 rfl 0 (.int .i64 0)).store 1 rfl 1 (.int .i64 0);simp[Leaves,settle,results,results40,go_sem,c0,c1];exact aY.o _ s5 (lv,nv,tv,(s.ns.length:Int)) _ rV.o rfl (hp.pick [0,2,3,4,5,6])
  ·have U2:Hq (∀n s2,(Ty.lv ad 20).S s=.ok (n,s2)→∀r,LF ad f (l++[n]) s2=r→oe ad st=r):=λn s2 hm r h=>hE.out r ((Qz hk hm).trans h)
   have yA:Hq (∀e,(Ty.lv ad 20).S s=.error e→mU ad st=.error e):=λe hm=>F0 (hE.out _ (L8 hk hm))
   have Fx: (((Ty.cur ad s.pos).kind:Int) !=6)=true:=by simp;omega
   generalize Ty.cur ad s.pos=t at*
   obtain⟨kd,tx,tp⟩:=t;dsimp only at Fx;clear hE hk;go_wp2_with fail;refine HN.o _ (λw4 yG=>?_);dsimp only[cr];have h6:=hS.out.below yG;have c1:=h6.cell 3 rfl 4 rfl;have V4:=qh (abb.out w0 w4.drew _ pb s (h6.drew.at 1 rfl));clear yG h6;go_wp2_with fail;first|go_region_law(first|(go_simp;go_at_call 76;refine V4.o _ (λn s2 w5 hm h2=>?_) (λe w5 hm h2=>?_);rotate_left;(have Y7:=(h2.unpack (i:=0) rfl).pick [0,1];have R_:=Y7.heap 1 rfl;have HX:=yA.o _ hm;show Leaves _ _ _ R _ (.panicking (aJ e)) w5;refine leaves_cons (f:=73) (args:=#[.pointer (some ⟨w.heap.size,0,none⟩)]) (by simp) (by simp[go_sem]) ?_;refine(RO w.heap.size e _ _ _ R_).mono ?_;rintro e' u' Mq ⟨rfl,rfl,rfl⟩;have hp:=(Y7.store 1 rfl 0 (.int .i64 e.1)).store 1 rfl 1 (.int .i64 e.2);have d0:=hp.cell 1 rfl 0 rfl;have d1:=hp.cell 1 rfl 1 rfl;simp[Leaves,settle,results,results40,go_sem,d0,d1];exact aB.o e _ HX (hp.pick [0]));have h3:Sat w0 w5 [Fr,aX pb 0 ad s2,ay w.heap.size (.cells #[.int .i64 0,.int .i64 0] 25 (0,0)),ay w2.heap.size (rh 26 0 0 (.slice a l.length dr)),eZ (.slice a l.length dr) l]:=h2.sj;have d1:=h3.cell 3 rfl 4 rfl;have d2:=(h3.aU (.cells #[.int .i64 n] 3)).cell 3 rfl 4 rfl;have pz:=abh.out _ _ _ hm;have H3:=qh h3;have HM:=qh hm;clear h2 h3 hm)|(go_loud(refine step_append_lies _ (by rfl) _ _ _ (by rfl) 0 3 i0 _ 1 8 underlying39 ti mx mu mw rfl (by omega) (.slice a l.length dr) l.length (l.map aS) (by rfl) ((H3.o.row 4 rfl).alloc _) ⟨w5.heap.size,0,none⟩ 1 1 [.int .i64 n] (by rfl) (by rfl) (World.news_of_block (cs:=#[.int .i64 n]) (t:=3) (fr:=(0,0)) (aH _ _ _ (by simp))) (by simp[Value.oneCell']) (by omega) (by unfold maxLen;omega) (by omega) (by simp) (w5.heap.size+1) (by simp) ?_);intro g cap w6 eA dU pw yR;have h4:=Sat.grow (H3.o.aU _) 4 rfl dU eA (by simpa using pw);have d3:=h4.cell 3 rfl 4 rfl;have f3:=h4.free 3 rfl 4;have H4:=qh h4;clear h4))|fail
   all_goals
    clear eA dU;have h7:=(H4.o.store 3 rfl 4 (.slice (some ⟨g,0,none⟩) (l.length+1) cap)).cG (i:=4) rfl (Q:=eZ (.slice (some ⟨g,0,none⟩) (l.length+1) cap) (l++[n])) (λ_ h=>iJ h);have h7:Sat w0 _ [Fr,aX pb 0 ad s2,ay w.heap.size (.cells #[.int .i64 0,.int .i64 0] 25 (0,0)),ay w2.heap.size (rh 26 0 0 (.slice (some ⟨g,0,none⟩) (l.length+1) cap)),eZ (.slice (some ⟨g,0,none⟩) (l.length+1) cap) (l++[n])]:=h7;have U':=(h7.pick [0,1]).look.fits.1;have Qr:=qh (dm (h7.pick [0,1]).look);have H7:=qh h7;have jB:=qh (U2.o _ _ HM.o);clear h7;go_wp2_with fail;go_roundw
    case rel=>exact⟨f,l++[n],s2,_,U',by omega,by simp;omega,by omega,H7,jB⟩
    case measure=>rw[oH.o,Qr.o];omega
theorem Le{s:BA}{ad:List Tok.Tk}{st:Ty.St}{n:Nat}(h1:Tok.scan s=.ok ad)(hn:st.ns.length≤1002)(h2:mU ad ⟨0,[],[]⟩=.ok (n,st)):Ty.parse s=.ok ⟨st.ns,st.ts,n⟩:=by
 unfold Ty.parse;rw[h1];unfold mU at h2;dsimp only;cases h:oe ad ⟨0,[],[]⟩with
 |error f=>rw[h]at h2;cases h2
 |ok p=>
  obtain⟨m,s'⟩:=p;rw[h]at h2
  dsimp only at h2⊢;split at h2
  ·cases h2
  ·rename_i h3;cases h2;rw[if_neg (by omega)]
theorem Fe{s:BA}{ad:List Tok.Tk}{f:Ty.Ft}(h1:Tok.scan s=.ok ad)(h2:mU ad ⟨0,[],[]⟩=.error f):Ty.parse s=.error f:=by
 unfold Ty.parse;rw[h1];unfold mU at h2;dsimp only;cases h:oe ad ⟨0,[],[]⟩with
 |error g=>rw[h]at h2;cases h2;rfl
 |ok p=>
  obtain⟨m,s'⟩:=p;rw[h]at h2
  dsimp only at h2⊢;split at h2
  ·rename_i h3;cases h2;rw[if_pos (.inr h3)]
  ·cases h2
theorem GU{w0 w:World}{Fr:As}(H:Sat w0 w [Fr])(s:BA)(hw:Words w)(hm:s.size≤maxLen){R:EW}
  (aF:∀(pg:Ty.Pg) nv tv w',Ty.parse s=.ok pg→Sat w0 w' [Fr,vV nv pg.ns,oS tv pg.ts]→R (.returned (.tuple #[.agg #[nv,tv,.int .i64 (pg.main:Nat)],bY (0,0)])) w')
  (av:∀f w',Ty.parse s=.error f→Sat w0 w' [Fr]→R (.returned (.tuple #[.agg #[.slice none 0 0,.slice none 0 0,.int .i64 0],bY f])) w'):
  Calls prog 15 #[.string s] w R:=by
 have aY:=qh aF;have aB:=qh av;have HS:=qh H;have HW:=qh hw;have F6:=qh hm;clear aF av H hw hm;go_in;go_wp2_with fail;have h1:=(HS.o.aj (.cells #[.slice none 0 0,.slice none 0 0,.int .i64 0] 31) w.heap.size).aj (.cells #[.int .i64 0,.int .i64 0] 25) (w.heap.size+1);have h1:Sat w0 _ [ah [Fr,ay w.heap.size (.cells #[.slice none 0 0,.slice none 0 0,.int .i64 0] 31 (0,0)),ay (w.heap.size+1) (.cells #[.int .i64 0,.int .i64 0] 25 (0,0))]]:=Sat.pack (L:=[]) h1;refine Ir h1 s (HW.o.below (((bR _ _).alloc (nR _) _).alloc (by simp) _)) F6.o (λad pb w1 hl h2=>?_) (λf pb w1 hl h2=>?_)
 ·have h3:=h2.ny.aj (.cells #[.int .i64 0,.int .i64 0] 25) w1.heap.size;have H3:=qh h3;have HL:=qh hl;have U1:=qh (FM hl);clear h1 h2 h3 hl;dsimp only[bY];go_wp2_with fail;refine z_ U1.o (H3.o.at 1 rfl) (by simp) (λn st p w2 hs Ts h4=>?_) (λf w2 hs h4=>?_)
  ·obtain⟨lv,nv,tv,main⟩:=p;dsimp only at Ts;subst Ts;have h5:=(h4.unpack (i:=0) rfl).pick [5,6,7,8,0,1,2,3,4];have YN:=h5.pure 4 rfl;have hn:st.ns.length≤1002:=by have:=YN.1.1;omega
   obtain⟨rows,h6⟩:=h5.ex (i:=7) rfl;obtain⟨na,nc,en⟩:=ag ((h6.unpack (i:=7) rfl).row 9 rfl);obtain⟨u_,h7⟩:=h5.ex (i:=8) rfl;obtain⟨ta,tc,et⟩:=ag ((h7.unpack (i:=8) rfl).row 9 rfl);clear h6 h7;dsimp only at en et;subst en et;have x0:=h5.cell 3 rfl 0 rfl;have y0:=h5.cell 2 rfl 0 rfl;have x1:=h5.cell 3 rfl 1 rfl;have y1:=h5.cell 2 rfl 1 rfl;have v0:=h5.cell 1 rfl 0 rfl;have v1:=h5.cell 1 rfl 1 rfl;have v2:=h5.cell 1 rfl 2 rfl;have z3:=h5.cell 5 rfl 3 rfl;have z4:=h5.cell 5 rfl 4 rfl;have z5:=h5.cell 5 rfl 5 rfl;have fx:=h5.free 3 rfl;have fy:=h5.free 2 rfl;have fv:=h5.free 1 rfl;have On:=h5.ne 1 2 (by decide) rfl rfl;have T4:=h5.ne 1 3 (by decide) rfl rfl;have YF:=h5.ne 1 5 (by decide) rfl rfl;have TP:=h5.ne 2 3 (by decide) rfl rfl;have ZK:=h5.ne 2 5 (by decide) rfl rfl;have Yk:=h5.ne 3 5 (by decide) rfl rfl;have pK:=h5.lt 1 rfl;have cI:=h5.lt 2 rfl;have vu:=h5.lt 3 rfl;have H5:=qh h5;have DE:=qh (Le HL.o hn hs);clear h4 h5 hs YN hn;dsimp only[bY]at*
   go_wp2_with fail
   go_region
   all_goals
    go_wp2_with fail;refine bodyPost_ret ?_ rfl (aY.o ⟨st.ns,st.ts,n⟩ (.slice na st.ns.length nc) (.slice ta st.ts.length tc) _ DE.o ?_)
    ·simp[results,results15,go_sem,v0,v1,v2,y0,y1]
    ·exact((((((((H5.o.store 3 rfl 0 (.int .i64 0)).store 3 rfl 1 (.int .i64 0)).store 1 rfl 0 (.slice na st.ns.length nc)).store 1 rfl 1 (.slice ta st.ts.length tc)).store 1 rfl 2 (.int .i64 (n:Nat))).store 2 rfl 0 (.int .i64 0)).store 2 rfl 1 (.int .i64 0)).drew.pick [0,7,8])
  ·have h5:=h4.unpack (i:=0) rfl;have x0:=h5.cell 3 rfl 0 rfl;have y0:=h5.cell 2 rfl 0 rfl;have x1:=h5.cell 3 rfl 1 rfl;have y1:=h5.cell 2 rfl 1 rfl;have v0:=h5.cell 1 rfl 0 rfl;have v1:=h5.cell 1 rfl 1 rfl;have v2:=h5.cell 1 rfl 2 rfl;have fx:=h5.free 3 rfl;have fy:=h5.free 2 rfl;have fv:=h5.free 1 rfl;have On:=h5.ne 1 2 (by decide) rfl rfl;have T4:=h5.ne 1 3 (by decide) rfl rfl;have TP:=h5.ne 2 3 (by decide) rfl rfl;have pK:=h5.lt 1 rfl;have cI:=h5.lt 2 rfl;have vu:=h5.lt 3 rfl;have hE:=Fe HL.o hs;have hb:=lE hE;obtain⟨fe,fp⟩:=f;dsimp only at hb;have e1: ((fe:Int)==0)=false:=by simp;omega
   have e2: ((fe:Int) !=0)=true:=by simp;omega
   have H5:=qh h5;have HE:=qh hE;clear h4 h5 hs hE hb;dsimp only[bY]at*
   go_wp2_with fail
   go_region
   all_goals
    go_wp2_with fail;refine bodyPost_ret ?_ rfl (aB.o (fe,fp) _ HE.o ?_)
    ·simp[results,results15,go_sem,v0,v1,v2,y0,y1]
    ·exact((((((((H5.o.store 3 rfl 0 (.int .i64 fe)).store 3 rfl 1 (.int .i64 fp)).store 1 rfl 0 (.slice none 0 0)).store 1 rfl 1 (.slice none 0 0)).store 1 rfl 2 (.int .i64 0)).store 2 rfl 0 (.int .i64 fe)).store 2 rfl 1 (.int .i64 fp)).drew.pick [0])
 ·have hE:Ty.parse s=.error f:=by unfold Ty.parse;rw[hl]
  have hb:=lE hE;obtain⟨fe,fp⟩:=f;dsimp only at hb;have h5:=h2.unpack (i:=0) rfl;have a0:=h5.cell 2 rfl 0 rfl;have a1:=h5.cell 2 rfl 1 rfl;have b0:=h5.cell 1 rfl 0 rfl;have b1:=h5.cell 1 rfl 1 rfl;have b2:=h5.cell 1 rfl 2 rfl;have fy:=h5.free 2 rfl;have fv:=h5.free 1 rfl;have pK:=h5.lt 1 rfl;have cI:=h5.lt 2 rfl;have On:=h5.ne 1 2 (by decide) rfl rfl;have e1: ((fe:Int)==0)=false:=by simp;omega
  have e2: ((fe:Int) !=0)=true:=by simp;omega
  have H6:=qh h5;have HE:=qh hE;clear h1 h2 h5 hl hE hb;dsimp only[bY]at*
  go_wp2_with fail
  go_region
  all_goals
   go_wp2_with fail;refine bodyPost_ret ?_ rfl (aB.o (fe,fp) _ HE.o ?_)
   ·simp[results,results15,go_sem,pK,cI,a0,a1,b0,b1,b2]
   ·exact(((((((H6.o.store 1 rfl 0 (.slice none 0 0)).store 1 rfl 1 (.slice none 0 0)).store 1 rfl 2 (.int .i64 0)).store 2 rfl 0 (.int .i64 fe)).store 2 rfl 1 (.int .i64 fp)).aU _).drew.pick [0])
end Go.Proofs.YtdlbhiaceheffabGreatDoor
