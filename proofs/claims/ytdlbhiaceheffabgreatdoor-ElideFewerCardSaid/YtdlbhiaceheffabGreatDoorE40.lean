/- Walk of the parser's bare. -/
import Derived.Test.YtdlbhiaceheffabGreatDoorE39
set_option linter.all false
set_option maxRecDepth 100000
set_option maxHeartbeats 8000000
namespace Go.Proofs.YtdlbhiaceheffabGreatDoor
open Go Go.RowKit Ty Tok Prt Tryz Proofs.Tryz
namespace Ty
def Q7(ad:List Tok.Tk)(n:Nd):M Nat:=aq (need ad [59]) λ_=>addNode n
def MJ(ps:Nat)(x:BA)(t:Int)(a:Nat):Nd:={af 17 ps with text:=x,ty:=t,a:=a}
def Nn(ps a:Nat):Nd:={af 21 ps with a:=a}
def NL(ps a:Nat):Nd:={af 24 ps with a:=a}
def YS(ad:List Tok.Tk)(E:M Nat)(ps:Nat)(x:BA)(t:Int):M Nat:=aq E λa=>Q7 ad (MJ ps x t a)
def Zn(ad:List Tok.Tk)(E:M Nat)(ps:Nat)(x:BA)(t:Int):M Nat:=aq (need ad [61]) λ_=>YS ad E ps x t
def Es(ad:List Tok.Tk)(T E:M Nat)(ps:Nat)(x:BA):M Nat:=aq (written ad T) λt=>Zn ad E ps x t
def WS(ad:List Tok.Tk)(T E:M Nat)(ps:Nat):M Nat:=aq (name ad []) λx=>Es ad T E ps x
def Uv(ad:List Tok.Tk)(E:M Nat)(ps:Nat):M Nat:=aq E λa=>Q7 ad (Nn ps a)
def TJ(ad:List Tok.Tk)(E:M Nat)(ps:Nat):M Nat:=aq E λa=>Q7 ad (NL ps a)
def UQ(ad:List Tok.Tk)(E S:M Nat)(ps:Nat):M Nat:=look λs2=>if is ad [105,102] s2.pos then bF ad E S true ps else if is ad [119,104,105,108,101] s2.pos then bF ad E S false ps else dc ad E
section
variable {ad:List Tok.Tk} {T E S:M Nat} {s s1:St}
theorem Ld:dv ad T E S s=(aq (take ad [108,101,116]) λb=>if b then WS ad T E (cur ad s.pos).pos else aq (take ad [112,114,105,110,116]) λb=>if b then Uv ad E (cur ad s.pos).pos else aq (take ad [114,101,116,117,114,110]) λb=>if b then TJ ad E (cur ad s.pos).pos else UQ ad E S (cur ad s.pos).pos) s:=rfl
end
end Ty
theorem JJ{ad:List Tok.Tk}{d:Nat}{T E O S:Ty.M Nat}(L:Lo ad d T E O S):eh 131 ad d (dv ad T E S):=by
 intro w0 w Fr pb st H R aH au;have aX:=qh aH;have aB:=qh au;have HL:=qh L;have bu:=H.look;have lR:=bu.wf.1;have eS:=bu.fits.1;have oP:=bu.fits.2.2.2;have oj:=qh bu.wf;have HS:=qh H;have HN:=qh (λR hR=>@gE w pb d ad st bu R hR);obtain⟨ps,kM⟩:∃ps,(Ty.cur ad st.pos).pos=ps:=⟨_,rfl⟩
 have sU:Hq (dv ad T E S st=(Ty.aq (Ty.take ad [108,101,116]) λb=>if b then WS ad T E ps else Ty.aq (Ty.take ad [112,114,105,110,116]) λb=>if b then Uv ad E ps else Ty.aq (Ty.take ad [114,101,116,117,114,110]) λb=>if b then TJ ad E ps else UQ ad E S ps) st):=by rw[<-kM];exact Ld
 generalize Ty.cur ad st.pos=t at*
 obtain⟨kd,tx,tp⟩:=t;dsimp only at kM;subst kM;have Va:=jV;clear aH au H L bu;go_enter func131,ntmps131;go_wp2_with fail;refine HN.o _ (λw1 cQ=>?_);dsimp only[cj];have H1:=qh (HS.o.below cQ);clear cQ;go_wp2_with fail;refine ke w1 0 tp (λw2 aD=>?_);have h2:=(H1.o.below aD).aj (.cells #[.int .i64 0,.int .i64 0,.int .i64 0,.int .i64 0,.slice none 0 0,.string ⟨#[]⟩,.int .i64 0,.int .i64 (-1),.int .i64 tp] 66) w2.heap.size;have H2:=qh h2;clear aD h2;go_wp2_with fail;refine cx (H2.o.at 1 rfl) ⟨#[108,101,116]⟩ (λw3 hi h3=>?_) (λw3 hi h3=>?_)
 ·have hE:dv ad T E S st=WS ad T E tp {st with pos:=st.pos+1}:=sU.o.trans ((aw hi).trans rfl);obtain⟨s3,UY⟩:∃s':Ty.St,s'={st with pos:=st.pos+1}:=⟨_,rfl⟩
  have adr:s3.pos=st.pos+1:=by rw[UY]
  have adJ:s3.ns.length=st.ns.length:=by rw[UY]
  rw[<-UY]at h3 hE
  have jl:=qh hE;have H3:=qh h3.kJ;clear hi h3 hE UY sU;go_wp2_with fail;refine lg (H3.o.at 1 rfl) _ [] (Lp _) (by simp) (λx w4 hm h4=>?_) (λe w4 hm h4=>?_);rotate_left
  ·have HX:Hq (dv ad T E S st=.error e):=jl.o.trans (aP hm);have HZ:=qh (h4.unpack (i:=0) rfl);clear hm h4;go_wp2_with fail;exact⟨rfl,aB.o _ _ HX.o (HZ.o.pick [0])⟩
  have hE:dv ad T E S st=Ty.Es ad T E tp x {s3 with pos:=s3.pos+1}:=jl.o.trans (aw hm);obtain⟨s4,LS⟩:∃s':Ty.St,s'={s3 with pos:=s3.pos+1}:=⟨_,rfl⟩
  have acv:s4.pos=s3.pos+1:=by rw[LS]
  have acE:s4.ns.length=s3.ns.length:=by rw[LS]
  rw[<-LS]at h4 hE
  have sV:=qh hE;clear hE LS;have k4:=h4.kJ;have WI:=k4.cell 2 rfl 0 rfl;have Xz:=k4.cell 2 rfl 5 rfl;have f4:=k4.free 2 rfl;have z4:=k4.lt 2 rfl;have m4:=((k4.store 2 rfl 0 (.int .i64 17)).store 2 rfl 5 (.string x))
  have H4:=qh m4;clear hm h4 k4 m4;go_wp2_with fail;clear f4 WI Xz;refine nE HL.o (H4.o.at 1 rfl) (λt s5 w5 hm h5=>?_) (λe w5 hm h5=>?_);rotate_left
  ·have HX:Hq (dv ad T E S st=.error e):=sV.o.trans (aP hm);have HZ:=qh (h5.unpack (i:=0) rfl);clear hm h5;go_wp2_with fail;exact⟨rfl,aB.o _ _ HX.o (HZ.o.pick [0])⟩
  have VH:=hJ HL.o.at' _ _ _ hm;have rR:Hq (dv ad T E S st=Zn ad E tp x t s5):=sV.o.trans (aw hm);have k5:=h5.kJ;have Vu:=k5.cell 2 rfl 7 rfl;have f5:=k5.free 2 rfl;have z5:=k5.lt 2 rfl;have m5:=(k5.store 2 rfl 7 (.int .i64 t))
  have H5:=qh m5;clear hm h5 k5 m5;go_wp2_with fail;clear f5 Vu;refine cN (H5.o.at 1 rfl) ⟨#[61]⟩ (λw6 hm h6=>?_) (λe w6 hm h6=>?_);rotate_left
  ·have HX:Hq (dv ad T E S st=.error e):=rR.o.trans (aP hm);have HZ:=qh (h6.unpack (i:=0) rfl);clear hm h6;go_wp2_with fail;exact⟨rfl,aB.o _ _ HX.o (HZ.o.pick [0])⟩
  have hE:dv ad T E S st=YS ad E tp x t {s5 with pos:=s5.pos+1}:=rR.o.trans (aw hm);obtain⟨s6,U_⟩:∃s':Ty.St,s'={s5 with pos:=s5.pos+1}:=⟨_,rfl⟩
  have ad2:s6.pos=s5.pos+1:=by rw[U_]
  have ade:s6.ns.length=s5.ns.length:=by rw[U_]
  rw[<-U_]at h6 hE
  have yJ:=qh hE;have H6:=qh h6.kJ;clear hm h6 hE U_;go_wp2_with fail;refine HL.o.e _ _ _ pb _ (H6.o.at 1 rfl) _ (λa s7 w7 hm h7=>?_) (λe w7 hm h7=>?_);rotate_left
  ·have HX:Hq (dv ad T E S st=.error e):=yJ.o.trans (aP hm);have HZ:=qh (h7.unpack (i:=0) rfl);clear hm h7;go_wp2_with fail;exact⟨rfl,aB.o _ _ HX.o (HZ.o.pick [0])⟩
  have Z_:=HL.o.ae _ _ _ hm;have xW:Hq (dv ad T E S st=Q7 ad (MJ tp x t a) s7):=yJ.o.trans (aw hm);have k7:=h7.kJ;have XB:=k7.cell 2 rfl 1 rfl;have f7:=k7.free 2 rfl;have z7:=k7.lt 2 rfl;have m7:=(k7.store 2 rfl 1 (.int .i64 (a:Nat)))
  have H7:=qh m7;clear hm h7 k7 m7;go_wp2_with fail;clear f7 XB;refine cN (H7.o.at 1 rfl) ⟨#[59]⟩ (λw8 hm h8=>?_) (λe w8 hm h8=>?_);rotate_left
  ·have HX:Hq (dv ad T E S st=.error e):=xW.o.trans (aP hm);have HZ:=qh (h8.unpack (i:=0) rfl);clear hm h8;go_wp2_with fail;exact⟨rfl,aB.o _ _ HX.o (HZ.o.pick [0])⟩
  have HX:Hq (dv ad T E S st=.ok (s7.ns.length,{s7 with pos:=s7.pos+1,ns:=s7.ns++[MJ tp x t a]})):=xW.o.trans ((aw hm).trans rfl);have k8:=h8.kJ;have q0:=k8.cell 2 rfl 0 rfl;have q1:=k8.cell 2 rfl 1 rfl;have q2:=k8.cell 2 rfl 2 rfl;have q3:=k8.cell 2 rfl 3 rfl;have q4:=k8.cell 2 rfl 4 rfl;have q5:=k8.cell 2 rfl 5 rfl;have q6:=k8.cell 2 rfl 6 rfl;have q7:=k8.cell 2 rfl 7 rfl;have q8:=k8.cell 2 rfl 8 rfl;have z8:=k8.lt 2 rfl;have H8:=qh (k8.nil 3 1);clear hm h8 k8;go_wp2_with fail;refine bZ (MJ tp x t a) (.slice none 0 0) (H8.o.pick [0,1,3]) (by dsimp only;omega) (λYU np=>?_);have QG:=qh np;clear np;go_wp2_with fail;exact aX.o _ _ _ HX.o QG.o
 have UC:Hq (dv ad T E S st=(Ty.aq (Ty.take ad [112,114,105,110,116]) λb=>if b then Uv ad E tp else Ty.aq (Ty.take ad [114,101,116,117,114,110]) λb=>if b then TJ ad E tp else UQ ad E S tp) st):=sU.o.trans ((aw hi).trans rfl);have H3:=qh h3.kJ;clear hi h3 sU;go_wp2_with fail;refine cx (H3.o.at 1 rfl) ⟨#[112,114,105,110,116]⟩ (λw4 hi h4=>?_) (λw4 hi h4=>?_)
 ·have hE:dv ad T E S st=Uv ad E tp {st with pos:=st.pos+1}:=UC.o.trans ((aw hi).trans rfl);obtain⟨s4,LS⟩:∃s':Ty.St,s'={st with pos:=st.pos+1}:=⟨_,rfl⟩
  have acv:s4.pos=st.pos+1:=by rw[LS]
  have acE:s4.ns.length=st.ns.length:=by rw[LS]
  rw[<-LS]at h4 hE
  have sV:=qh hE;have H4:=qh h4.kJ;clear hi h4 hE LS UC;go_wp2_with fail;refine HL.o.e _ _ _ pb _ (H4.o.at 1 rfl) _ (λa s5 w5 hm h5=>?_) (λe w5 hm h5=>?_);rotate_left
  ·have HX:Hq (dv ad T E S st=.error e):=sV.o.trans (aP hm);have HZ:=qh (h5.unpack (i:=0) rfl);clear hm h5;go_wp2_with fail;exact⟨rfl,aB.o _ _ HX.o (HZ.o.pick [0])⟩
  have VH:=HL.o.ae _ _ _ hm;have rR:Hq (dv ad T E S st=Q7 ad (Nn tp a) s5):=sV.o.trans (aw hm);have k5:=h5.kJ;have Xm:=k5.cell 2 rfl 0 rfl;have VZ:=k5.cell 2 rfl 1 rfl;have f5:=k5.free 2 rfl;have z5:=k5.lt 2 rfl;have m5:=((k5.store 2 rfl 0 (.int .i64 21)).store 2 rfl 1 (.int .i64 (a:Nat)))
  have H5:=qh m5;clear hm h5 k5 m5;go_wp2_with fail;clear f5 Xm VZ;refine cN (H5.o.at 1 rfl) ⟨#[59]⟩ (λw6 hm h6=>?_) (λe w6 hm h6=>?_);rotate_left
  ·have HX:Hq (dv ad T E S st=.error e):=rR.o.trans (aP hm);have HZ:=qh (h6.unpack (i:=0) rfl);clear hm h6;go_wp2_with fail;exact⟨rfl,aB.o _ _ HX.o (HZ.o.pick [0])⟩
  have HX:Hq (dv ad T E S st=.ok (s5.ns.length,{s5 with pos:=s5.pos+1,ns:=s5.ns++[Nn tp a]})):=rR.o.trans ((aw hm).trans rfl);have k6:=h6.kJ;have q0:=k6.cell 2 rfl 0 rfl;have q1:=k6.cell 2 rfl 1 rfl;have q2:=k6.cell 2 rfl 2 rfl;have q3:=k6.cell 2 rfl 3 rfl;have q4:=k6.cell 2 rfl 4 rfl;have q5:=k6.cell 2 rfl 5 rfl;have q6:=k6.cell 2 rfl 6 rfl;have q7:=k6.cell 2 rfl 7 rfl;have q8:=k6.cell 2 rfl 8 rfl;have z6:=k6.lt 2 rfl;have H6:=qh (k6.nil 3 1);clear hm h6 k6;go_wp2_with fail;refine bZ (Nn tp a) (.slice none 0 0) (H6.o.pick [0,1,3]) (by dsimp only;omega) (λYU np=>?_);have QG:=qh np;clear np;go_wp2_with fail;exact aX.o _ _ _ HX.o QG.o
 have Vb:Hq (dv ad T E S st=(Ty.aq (Ty.take ad [114,101,116,117,114,110]) λb=>if b then TJ ad E tp else UQ ad E S tp) st):=UC.o.trans ((aw hi).trans rfl);have H4:=qh h4.kJ;clear hi h4 UC;go_wp2_with fail;refine cx (H4.o.at 1 rfl) ⟨#[114,101,116,117,114,110]⟩ (λw5 hi h5=>?_) (λw5 hi h5=>?_)
 ·have hE:dv ad T E S st=TJ ad E tp {st with pos:=st.pos+1}:=Vb.o.trans ((aw hi).trans rfl);obtain⟨s5,Ul⟩:∃s':Ty.St,s'={st with pos:=st.pos+1}:=⟨_,rfl⟩
  have acZ:s5.pos=st.pos+1:=by rw[Ul]
  have adU:s5.ns.length=st.ns.length:=by rw[Ul]
  rw[<-Ul]at h5 hE
  have rR:=qh hE;have H5:=qh h5.kJ;clear hi h5 hE Ul Vb;go_wp2_with fail;refine HL.o.e _ _ _ pb _ (H5.o.at 1 rfl) _ (λa s6 w6 hm h6=>?_) (λe w6 hm h6=>?_);rotate_left
  ·have HX:Hq (dv ad T E S st=.error e):=rR.o.trans (aP hm);have HZ:=qh (h6.unpack (i:=0) rfl);clear hm h6;go_wp2_with fail;exact⟨rfl,aB.o _ _ HX.o (HZ.o.pick [0])⟩
  have RT:=HL.o.ae _ _ _ hm;have yJ:Hq (dv ad T E S st=Q7 ad (NL tp a) s6):=rR.o.trans (aw hm);have k6:=h6.kJ;have Xn:=k6.cell 2 rfl 0 rfl;have Xt:=k6.cell 2 rfl 1 rfl;have f6:=k6.free 2 rfl;have z6:=k6.lt 2 rfl;have m6:=((k6.store 2 rfl 0 (.int .i64 24)).store 2 rfl 1 (.int .i64 (a:Nat)))
  have H6:=qh m6;clear hm h6 k6 m6;go_wp2_with fail;clear f6 Xn Xt;refine cN (H6.o.at 1 rfl) ⟨#[59]⟩ (λw7 hm h7=>?_) (λe w7 hm h7=>?_);rotate_left
  ·have HX:Hq (dv ad T E S st=.error e):=yJ.o.trans (aP hm);have HZ:=qh (h7.unpack (i:=0) rfl);clear hm h7;go_wp2_with fail;exact⟨rfl,aB.o _ _ HX.o (HZ.o.pick [0])⟩
  have HX:Hq (dv ad T E S st=.ok (s6.ns.length,{s6 with pos:=s6.pos+1,ns:=s6.ns++[NL tp a]})):=yJ.o.trans ((aw hm).trans rfl);have k7:=h7.kJ;have q0:=k7.cell 2 rfl 0 rfl;have q1:=k7.cell 2 rfl 1 rfl;have q2:=k7.cell 2 rfl 2 rfl;have q3:=k7.cell 2 rfl 3 rfl;have q4:=k7.cell 2 rfl 4 rfl;have q5:=k7.cell 2 rfl 5 rfl;have q6:=k7.cell 2 rfl 6 rfl;have q7:=k7.cell 2 rfl 7 rfl;have q8:=k7.cell 2 rfl 8 rfl;have z7:=k7.lt 2 rfl;have H7:=qh (k7.nil 3 1);clear hm h7 k7;go_wp2_with fail;refine bZ (NL tp a) (.slice none 0 0) (H7.o.pick [0,1,3]) (by dsimp only;omega) (λYU np=>?_);have QG:=qh np;clear np;go_wp2_with fail;exact aX.o _ _ _ HX.o QG.o
 have hE:dv ad T E S st=if Ty.is ad (⟨#[105,102]⟩:BA).data.toList st.pos then bF ad E S true tp st else if Ty.is ad (⟨#[119,104,105,108,101]⟩:BA).data.toList st.pos then bF ad E S false tp st else dc ad E st:=by
  refine Vb.o.trans ((aw hi).trans ?_);show(if Ty.is ad [105,102] st.pos=true then bF ad E S true tp else if Ty.is ad [119,104,105,108,101] st.pos=true then bF ad E S false tp else dc ad E:Ty.M Nat) st= _;show _=if Ty.is ad [105,102] st.pos=true then _ else if Ty.is ad [119,104,105,108,101] st.pos=true then _ else _
  by_cases h1:Ty.is ad [105,102] st.pos=true
  ·rw[if_pos h1,if_pos h1]
  ·rw[if_neg h1,if_neg h1];by_cases h2:Ty.is ad [119,104,105,108,101] st.pos=true
   ·rw[if_pos h2,if_pos h2]
   ·rw[if_neg h2,if_neg h2]
 have k5:=h5.kJ;have jm:Ty.is ad (⟨#[105,102]⟩:BA).data.toList st.pos=true->st.pos+1<ad.length:=is_lt eS oj.out;have kP:Ty.is ad (⟨#[119,104,105,108,101]⟩:BA).data.toList st.pos=true->st.pos+1<ad.length:=is_lt eS oj.out;have sr:=qh (λR hR=>nU w5 pb d ad st (k5.pick [0,1]).look ⟨#[105,102]⟩ (R:=R) hR);have OT:=qh (λw6(hb:Below w5.heap.size w5 w6) R hR=>nU w6 pb d ad st ((k5.pick [0,1]).look.below hb) ⟨#[119,104,105,108,101]⟩ (R:=R) hR);have acL:=qh (λ(hi:Ty.is ad (⟨#[105,102]⟩:BA).data.toList st.pos=true) w6(h:Sat w0 w6 [Fr,aV pb d ad st]) R aH au=>Bk HL.o h tp hi (jm hi) (R:=R) aH au);have Z0:=qh (λ(hi:Ty.is ad (⟨#[105,102]⟩:BA).data.toList st.pos=false)(He:Ty.is ad (⟨#[119,104,105,108,101]⟩:BA).data.toList st.pos=true) w6(h:Sat w0 w6 [Fr,aV pb d ad st]) R aH au=>xQ HL.o h tp hi (kP He) (R:=R) aH au);have rR:=qh hE;have H5:=qh k5;clear hi h5 k5 Vb hE jm kP;generalize Ty.is ad (⟨#[105,102]⟩:BA).data.toList st.pos=b1 at*
 generalize Ty.is ad (⟨#[119,104,105,108,101]⟩:BA).data.toList st.pos=b2 at*
 go_wp2_with fail;refine sr.o _ (λw6 zt=>?_);have H6:=qh (H5.o.below zt);have xY:=qh zt;clear zt;cases b1;rotate_left
 ·skip
  have x:=H6.o;have q0:=x.cell 2 rfl 0 rfl;have q1:=x.cell 2 rfl 1 rfl;have q2:=x.cell 2 rfl 2 rfl;have q3:=x.cell 2 rfl 3 rfl;have q4:=x.cell 2 rfl 4 rfl;have q5:=x.cell 2 rfl 5 rfl;have q6:=x.cell 2 rfl 6 rfl;have q7:=x.cell 2 rfl 7 rfl;have q8:=x.cell 2 rfl 8 rfl;clear x;go_wp2_with fail;refine acL.o (by first|trivial|rfl) _ (H6.o.pick [0,1]) _ (λn s9 w9 hm h9=>?_) (λe w9 hm h9=>?_)
  ·have HX:Hq (dv ad T E S st=.ok (n,s9)):=by have h0:=rR.o;simp only[if_true,if_false,Bool.false_eq_true]at h0;exact h0.trans hm
   have H9:=qh h9;clear hm h9;go_wp2_with fail;exact aX.o _ _ _ HX.o H9.o
  ·have HX:Hq (dv ad T E S st=.error e):=by have h0:=rR.o;simp only[if_true,if_false,Bool.false_eq_true]at h0;exact h0.trans hm
   have H9:=qh h9;clear hm h9;go_wp2_with fail;exact⟨rfl,aB.o _ _ HX.o H9.o⟩
 go_wp2_with fail;refine OT.o _ xY.o _ (λw7 ZK=>?_);have H7:=qh (H6.o.below ZK);clear ZK;cases b2;rotate_left
 ·skip
  have x:=H7.o;have q0:=x.cell 2 rfl 0 rfl;have q1:=x.cell 2 rfl 1 rfl;have q2:=x.cell 2 rfl 2 rfl;have q3:=x.cell 2 rfl 3 rfl;have q4:=x.cell 2 rfl 4 rfl;have q5:=x.cell 2 rfl 5 rfl;have q6:=x.cell 2 rfl 6 rfl;have q7:=x.cell 2 rfl 7 rfl;have q8:=x.cell 2 rfl 8 rfl;clear x;go_wp2_with fail;refine Z0.o (by first|trivial|rfl) (by first|trivial|rfl) _ (H7.o.pick [0,1]) _ (λn s9 w9 hm h9=>?_) (λe w9 hm h9=>?_)
  ·have HX:Hq (dv ad T E S st=.ok (n,s9)):=by have h0:=rR.o;simp only[if_true,if_false,Bool.false_eq_true]at h0;exact h0.trans hm
   have H9:=qh h9;clear hm h9;go_wp2_with fail;exact aX.o _ _ _ HX.o H9.o
  ·have HX:Hq (dv ad T E S st=.error e):=by have h0:=rR.o;simp only[if_true,if_false,Bool.false_eq_true]at h0;exact h0.trans hm
   have H9:=qh h9;clear hm h9;go_wp2_with fail;exact⟨rfl,aB.o _ _ HX.o H9.o⟩
 go_wp2_with fail;refine Hn HL.o (H7.o.pick [0,1]) (λn s9 w9 hm h9=>?_) (λe w9 hm h9=>?_)
 ·have HX:Hq (dv ad T E S st=.ok (n,s9)):=by have h0:=rR.o;simp only[if_true,if_false,Bool.false_eq_true]at h0;exact h0.trans hm
  have H9:=qh h9;clear hm h9;go_wp2_with fail;exact aX.o _ _ _ HX.o H9.o
 ·have HX:Hq (dv ad T E S st=.error e):=by have h0:=rR.o;simp only[if_true,if_false,Bool.false_eq_true]at h0;exact h0.trans hm
  have H9:=qh h9;clear hm h9;go_wp2_with fail;exact⟨rfl,aB.o _ _ HX.o H9.o⟩
section
variable {ad:List Tok.Tk} {d:Nat}
theorem L8{O:Ty.M Nat}(hd:d<20)(oY:eh 319 ad (d+1) O)(hA:bf 1 0 0 O)(hN:Nx O):eh 209 ad d (jH ad O):=by
 intro w0 w Fr pb st H R aH au;have B8:=qh oY;have aX:=qh aH;have aB:=qh au;have HS:=qh H;clear aH au H oY;go_enter func209,ntmps209;go_wp2_with fail;have h1:=(HS.o.aj (.cells #[.pointer (some ⟨pb,0,none⟩)] 80) w.heap.size)
 refine yW (h1.at 1 rfl) 280 _ Tryz.call280 (jH ad O) (λh w1 h2 R2 oO lX=>?_) (λn st2 w2 _ hm h2=>?_) (λf w2 he _ h2=>?_)
 ·exact E_ B8.o hA hN w0 w1 _ pb w.heap.size st h2 (λw' h'=>(h'.unpack (i:=0) rfl).cell 1 rfl 0 rfl) oO lX
 ·have HM:=qh hm;have H2:=qh (h2.kJ.pick [0,1]);clear hm h2 h1;go_wp2_with fail;exact aX.o _ _ _ HM.o H2.o
 ·have hf:=he hd;have HF:=qh hf;have H2:=qh h2.out;clear he hf h2 h1;go_wp2_with fail;exact⟨rfl,aB.o _ _ HF.o H2.o⟩
theorem JL:eh 209 ad 20 (Ty.fail ad 8):=by
 intro w0 w Fr pb st H R aH au;have aB:=qh au;have HS:=qh H;clear aH au H;go_enter func209,ntmps209;go_wp2_with fail;refine yW (HS.o.aW _) 280 _ Tryz.call280 (Ty.fail ad 8) (λh=>absurd h (by omega)) (λn st2 w2 h=>absurd h (by omega)) (λf w2 _ he h2=>?_);have hf:=he rfl;have HF:=qh hf;have H2:=qh h2;clear he hf h2;go_wp2_with fail;exact⟨rfl,aB.o _ _ (by rw[HF.o];rfl) H2.o⟩
theorem Mc{S:Ty.M Nat}(hd:d<20)(hs:eh 131 ad (d+1) S):eh 76 ad d S:=by
 intro w0 w Fr pb st H R aH au;have B8:=qh hs;have aX:=qh aH;have aB:=qh au;have HS:=qh H;clear aH au H hs;go_enter func76,ntmps76;go_wp2_with fail;refine td HS.o 131 _ Tryz.call131 S (λh w1 h2 R2 oO lX=>B8.o _ _ _ _ _ h2 _ oO lX) (λn st2 w2 _ hm h2=>?_) (λf w2 he _ h2=>?_)
 ·have HM:=qh hm;have H2:=qh h2;clear hm h2;go_wp2_with fail;exact aX.o _ _ _ HM.o H2.o
 ·have hf:=he hd;have HF:=qh hf;have H2:=qh h2;clear he hf h2;go_wp2_with fail;exact⟨rfl,aB.o _ _ HF.o H2.o⟩
theorem KA:eh 76 ad 20 (Ty.fail ad 8):=by
 intro w0 w Fr pb st H R aH au;have aB:=qh au;have HS:=qh H;clear aH au H;go_enter func76,ntmps76;go_wp2_with fail;refine td HS.o 131 _ Tryz.call131 (Ty.fail ad 8) (λh=>absurd h (by omega)) (λn st2 w2 h=>absurd h (by omega)) (λf w2 _ he h2=>?_);have hf:=he rfl;have HF:=qh hf;have H2:=qh h2;clear he hf h2;go_wp2_with fail;exact⟨rfl,aB.o _ _ (by rw[HF.o];rfl) H2.o⟩
theorem SZ{O:Ty.M Nat}(hd:d<20)(ho:eh 319 ad (d+1) O):UI ad d O:=by
 intro w0 w Fr pb st H R aH au;exact td H 319 _ Tryz.call319 O (λh w1 h2 R2 oO lX=>ho _ _ _ _ _ h2 _ oO lX) (λn st2 w2 _ hm h2=>aH n st2 w2 hm h2) (λf w2 he _ h2=>au f w2 (he hd) h2)
theorem O8:UI ad 20 (Ty.fail ad 8):=by
 intro w0 w Fr pb st H R aH au;exact td H 319 _ Tryz.call319 (Ty.fail ad 8) (λh=>absurd h (by omega)) (λn st2 w2 h=>absurd h (by omega)) (λf w2 _ he h2=>au f w2 (by rw[he rfl];rfl) h2)
end
theorem D8(ad:List Tok.Tk)(vd:C0 ad):∀r,r<=20->eh 209 ad (20-r) (Ty.lv ad r).E/\UI ad (20-r) (Ty.lv ad r).O/\eh 76 ad (20-r) (Ty.lv ad r).S
 |0,_=>⟨JL,O8,KA⟩
 |r+1,hr=>by
  obtain⟨he,ho,hs⟩:=D8 ad vd r (by omega);obtain⟨ae,ao,Pt⟩:=yX ad r;obtain⟨ne,no,ns⟩:=Jq ad r;have L:Lo ad (20-r) (Ty.r' ad r) (Ty.lv ad r).E (Ty.lv ad r).O (Ty.lv ad r).S:=⟨LV ad r (by omega),he,ho,hs,p_ ad r,ae,ao,Pt,bV.r' ad r,ne,no,ns⟩
  have oY:=JB L vd;have Ov:=JJ L;have e:20-r=20-(r+1)+1:=by omega
  rw[e]at oY Ov
  obtain⟨_,aaM,_⟩:=yX ad (r+1);obtain⟨_,aaU,_⟩:=Jq ad (r+1);exact⟨L8 (by omega) oY aaM aaU,SZ (by omega) oY,Mc (by omega) Ov⟩
theorem Qe{w0 w:World}{Fr:As}{pb d:Nat}{ad:List Tok.Tk}{st:Ty.St}(H:Sat w0 w [Fr,aV pb d ad st]){R:EW}
  (hR:∀w',Below w.heap.size w w'->R (.returned (bO (if st.ts.length>300 then(2,0)else(0,0)))) w'):
  Calls prog 78 #[.pointer (some ⟨pb,0,none⟩)] w R:=by
 have HR:=qh hR;have bu:=H.look;obtain⟨⟨lv,nv,tv,main⟩,h⟩:=H.oA;have hn:st.ns.length<=1002:=by have:=bu.fits;have:=bu.wf.1;omega
 have ht:st.ts.length<=1002:=by have:=bu.fits;have:=bu.wf.1;omega
 obtain⟨rows,h⟩:=h.ex (i:=4) rfl;have h:=h.unpack (i:=4) rfl;obtain⟨TH,h⟩:=h.ex (i:=4) rfl;have h:=h.unpack (i:=4) rfl;obtain⟨a3,c3,e3⟩:=ag (h.row 5 rfl);obtain⟨a4,c4,e4⟩:=ag (h.row 8 rfl);dsimp only at e3 e4;subst e3 e4;have k3:=h.cell 2 rfl 3 rfl;have k4:=h.cell 2 rfl 4 rfl;have a_:=h.lt 2 rfl;have k1:decide ((1200:Int)<st.ns.length)=false:=by simp;omega
 by_cases h3:300<st.ts.length
 ·have k2:decide ((300:Int)<st.ts.length)=true:=by simp;omega
  rw[if_pos h3]at HR
  clear hR H h bu h3;go_in;go_wp2_with fail;refine bodyPost_ret ?_ rfl (HR.o _ ?_)
  ·simp[results,results78,go_sem,bO]
  ·exact(bR _ _).alloc (nR _) _
 ·have k2:decide ((300:Int)<st.ts.length)=false:=by simp;omega
  rw[if_neg h3]at HR
  clear hR H h bu h3;go_in;go_wp2_with fail;refine bodyPost_ret ?_ rfl (HR.o _ ?_)
  ·simp[results,results78,go_sem,bO]
  ·exact(bR _ _).alloc (nR _) _
theorem T3(p:Nat)(f:Ty.Ft)(x y:Value)(w:World)(hx:w.heap[p]?=some (.cells #[x,y] 25 (0,0))):
  CallsD prog 73 #[.pointer (some ⟨p,0,none⟩)] (.panicking (aI f)) w λe u' w'=>
   e=.returned (.tuple #[])/\u'=.panicking [{v:=.iface 25 (bO f),recovered:=true}]/\w'=(w.setCell ⟨p,0,none⟩ (.int .i64 f.1)).setCell ⟨p,1,none⟩ (.int .i64 f.2):=by
 have c0:w.cell? ⟨p,0,none⟩=some x:=by rw[cell_of_block hx];rfl
 have c1:w.cell? ⟨p,1,none⟩=some y:=by rw[cell_of_block hx];rfl
 have hf:∀o,w.frozen? ⟨p,o,none⟩=false:=λo=>cP hx o
 refine callsD_of_wpS func73 rfl λBt cs hu=>?_
 unfold aI at hu;apply wpS_seq;apply wpS_region;simp[wpOpsS,go_sem,recoverD,hu,ntmps73,Exit.thenS];apply wpS_seq;apply wpS_region;simp[wpOpsS,go_sem,Exit.thenS];refine wpS_cond (t:=true) (by simp[Act.eval,Array.replicate]) ?_;simp only[if_true];apply wpS_region;simp[wpOpsS,go_sem,c0,c1,hf,bodyPostS,results,results73,bO,uj]
theorem N4(p:Nat)(w:World):
  CallsD prog 73 #[.pointer (some ⟨p,0,none⟩)] .returning w λe u' w'=>e=.returned (.tuple #[])/\u'=.returning/\w'=w:=by
 refine callsD_of_wpS func73 rfl λBt cs hu=>?_
 apply wpS_seq;apply wpS_region;simp[wpOpsS,go_sem,recoverD,hu,ntmps73,Exit.thenS];apply wpS_seq;apply wpS_region;simp[wpOpsS,go_sem,Exit.thenS];refine wpS_cond (t:=false) (by simp[Act.eval,Array.replicate]) ?_;simp only[Bool.false_eq_true,if_false];refine wpS_of_wp (wp_skip ?_);cases Bt;simp_all[bodyPostS,results,results73]
namespace Ty
def LL(ad:List Tok.Tk)(f:Nat)(l:List Nat):M Nat:=aq (fu ad (lv ad 20).S f l) λl=>addNode {af 26 0 with list:=l}
theorem NV{ad:List Tok.Tk}{f:Nat}{l:List Nat}{s:St}(h: (cur ad s.pos).kind=6):LL ad (f+1) l s=.ok (s.ns.length,{s with ns:=s.ns++[{af 26 0 with list:=l}]}):=by
 unfold LL;have e:fu ad (lv ad 20).S (f+1) l s=.ok (l,s):=by
  show(if(cur ad s.pos).kind=6 then ret l else _:M (List Nat)) s= _;rw[if_pos h];rfl
 rw[aw e];rfl
theorem NR{ad:List Tok.Tk}{f:Nat}{l:List Nat}{s:St}{e:Ft}(h: (cur ad s.pos).kind≠6)(hs: (lv ad 20).S s=.error e):LL ad (f+1) l s=.error e:=by
 unfold LL;have e:fu ad (lv ad 20).S (f+1) l s=.error e:=by
  show(if(cur ad s.pos).kind=6 then ret l else aq (lv ad 20).S λn=>fu ad (lv ad 20).S f (l++[n]):M (List Nat)) s= _;rw[if_neg h,aP hs]
 rw[aP e]
theorem Pr{ad:List Tok.Tk}{f:Nat}{l:List Nat}{s s1:St}{n:Nat}(h: (cur ad s.pos).kind≠6)(hs: (lv ad 20).S s=.ok (n,s1)):LL ad (f+1) l s=LL ad f (l++[n]) s1:=by
 unfold LL;have e:fu ad (lv ad 20).S (f+1) l s=fu ad (lv ad 20).S f (l++[n]) s1:=by
  show(if(cur ad s.pos).kind=6 then ret l else aq (lv ad 20).S λn=>fu ad (lv ad 20).S f (l++[n]):M (List Nat)) s= _;rw[if_neg h,aw hs]
 unfold aq;rw[e]
end Ty
def mN(ad:List Tok.Tk)(st:Ty.St):Except Ty.Ft (Nat×Ty.St):=
 match m' ad st with
 | .error f=>.error f
 | .ok (n,s)=>if s.ts.length>300 then .error (2,0)else .ok (n,s)
theorem Gv{ad:List Tok.Tk}{st:Ty.St}{f:Ty.Ft}(h:m' ad st=.error f):mN ad st=.error f:=by unfold mN;rw[h]
theorem Jw{ad:List Tok.Tk}{st s:Ty.St}{n:Nat}(h:m' ad st=.ok (n,s)):mN ad st=if s.ts.length>300 then .error (2,0)else .ok (n,s):=by unfold mN;rw[h]
theorem AY{w0 w:World}{Fr:As}{pb:Nat}{ad:List Tok.Tk}{st:Ty.St}(vd:C0 ad)(H:Sat w0 w [Fr,aV pb 0 ad st])(xd:st.ns.length<=st.pos){R:EW}
  (aH:∀n s p w',mN ad st=.ok (n,s)->p.2.2.2=(n:Int)->Sat w0 w' (Fr::wP pb 0 ad s p)->R (.returned (bO (0,0))) w')
  (au:∀f w',mN ad st=.error f->Sat w0 w' [Fr]->R (.returned (bO f)) w'):
  Calls prog 40 #[.pointer (some ⟨pb,0,none⟩)] w R:=by
 have aX:=qh aH;have aB:=qh au;have HS:=qh H;have bu:=H.look;have lR:=bu.wf.1;have eS:=bu.fits.1;have aav:Hq (eh 76 ad 0 (Ty.lv ad 20).S):=(D8 ad vd 20 (by omega)).2.2;have abR:=qh (yX ad 20).2.2;obtain⟨i0,ti,mM,mL,mK⟩:=info_parts iu;have Ii:∀(fn:Fn)(first cap:Array Value)(w:World),(Instr.makeFunc fn first cap).run prog w=.ok (.func fn first cap) w:=λ_ _ _ _=>rfl
 have Y8:=rp;have sU:Hq (∀r,LL ad (ad.length+1) [] st=r->m' ad st=r):=λr h=>h
 clear aH au H bu vd
 go_enter_defers func40,ntmps40
 go_wp2_with fail;have h1:=HS.o.aj (.cells #[.int .i64 0,.int .i64 0] 25) w.heap.size;refine ke _ 26 0 (λw2 aD=>?_);have h2:=((h1.below aD).aj (.cells #[.int .i64 26,.int .i64 0,.int .i64 0,.int .i64 0,.slice none 0 0,.string ⟨#[]⟩,.int .i64 0,.int .i64 (-1),.int .i64 0] 66) w2.heap.size).nil 3 1;have h2:Sat w0 _ [Fr,aV pb 0 ad st,av w.heap.size (.cells #[.int .i64 0,.int .i64 0] 25 (0,0)),av w2.heap.size (rv 26 0 0 (.slice none 0 0)),eY (.slice none 0 0) []]:=h2;have H2:=qh h2;clear aD h1 h2;go_wp2_with fail;go_loopw [6] (λ_ wr=>∃(f:Nat)(l:List Nat)(s:Ty.St)(v:Value),s.pos<ad.length/\ad.length<s.pos+f/\l.length<=s.pos/\s.ns.length<=s.pos/\Hq (Sat w0 wr [Fr,aV pb 0 ad s,av w.heap.size (.cells #[.int .i64 0,.int .i64 0] 25 (0,0)),av w2.heap.size (rv 26 0 0 v),eY v l])/\Hq (∀r,LL ad f l s=r->m' ad st=r))
  (λ_ wr=>ad.length-posOf pb wr)
 case atStart=>exact⟨ad.length+1,[],st,.slice none 0 0,eS,by omega,by simp,xd,H2.o,sU.o⟩
 case round=>
  obtain⟨f,l,s,v,hp,hf,oW,Vj,hS,hE⟩:=hrel;obtain⟨f,rfl⟩:∃g,f=g+1:=⟨f-1,by omega⟩
  obtain⟨a,dm,rfl⟩:=ag (hS.out.row 4 rfl);have mJ:=qh (de (hS.out.pick [0,1]).look);have HN:=qh (λR hR=>@gE wr pb 0 ad s (hS.out.pick [0,1]).look R hR);by_cases hk: (Ty.cur ad s.pos).kind=6
  ·have ru:Hq (mN ad st=if s.ts.length>300 then .error (2,0)else .ok (s.ns.length,{s with ns:=s.ns++[{Ty.af 26 0 with list:=l}]})):=Jw (hE.out _ (NV hk));generalize Ty.cur ad s.pos=t at*
   obtain⟨kd,tx,tp⟩:=t;obtain rfl:kd=6:=hk;clear hE mJ;go_wp2_with fail;refine HN.o _ (λw4 vR=>?_);dsimp only[cj];have h4:=hS.out.below vR;have q0:=h4.cell 3 rfl 0 rfl;have q1:=h4.cell 3 rfl 1 rfl;have q2:=h4.cell 3 rfl 2 rfl;have q3:=h4.cell 3 rfl 3 rfl;have q4:=h4.cell 3 rfl 4 rfl;have q5:=h4.cell 3 rfl 5 rfl;have q6:=h4.cell 3 rfl 6 rfl;have q7:=h4.cell 3 rfl 7 rfl;have q8:=h4.cell 3 rfl 8 rfl;have z4:=h4.lt 3 rfl;have H4:=qh h4;clear vR h4;go_wp2_with fail;refine bZ {Ty.af 26 0 with list:=l} (.slice a l.length dm) ((Sat.pack (L:=[_,_]) (M:=[_,_,_]) (H4.o.pick [1,4,0,2,3])).pick [2,0,1]) Vj (λw5 h5=>?_);obtain⟨s5,GZ⟩:∃s':Ty.St,s'={s with ns:=s.ns++[{Ty.af 26 0 with list:=l}]}:=⟨_,rfl⟩
   have t5:s5.ts=s.ts:=by rw[GZ]
   rw[<-GZ]at ru h5
   rw[<-t5]at ru
   obtain⟨⟨lv,nv,tv,main⟩,h6⟩:=h5.oA;have y5:=h6.cell 2 rfl 5 rfl;have f5:=h6.free 2 rfl;have z5:=h6.lt 2 rfl;have h7:=(h6.store 2 rfl 5 (.int .i64 (s.ns.length:Nat)))
   have h7:Sat w0 _ (ah [Fr,av w.heap.size (.cells #[.int .i64 0,.int .i64 0] 25 (0,0)),av w2.heap.size (rv 26 0 0 (.slice a l.length dm))]::wP pb 0 ad s5 (lv,nv,tv,(s.ns.length:Int))):=h7;have H7:=qh h7;clear h5 h6 h7 GZ q0 q1 q2 q3 q4 q5 q6 q7 q8;dsimp only at y5;go_wp2_with fail;clear y5 f5;refine Qe (Sat.mh H7.o) (λw8 rj=>?_);have h8:=((H7.o.below rj).unpack (i:=0) rfl).pick [5,6,0,1,2,3,4];have h8:Sat w0 w8 (Fr::av w.heap.size (.cells #[.int .i64 0,.int .i64 0] 25 (0,0))::wP pb 0 ad s5 (lv,nv,tv,(s.ns.length:Int))):=h8;have h9:=h8.heap 1 rfl;have adi:=h8.lt 1 rfl;have c0:w8.cell? ⟨w.heap.size,0,none⟩=some (.int .i64 0):=by rw[cell_of_block h9];rfl
   have c1:w8.cell? ⟨w.heap.size,1,none⟩=some (.int .i64 0):=by rw[cell_of_block h9];rfl
   have f0:∀o,w8.frozen? ⟨w.heap.size,o,none⟩=false:=λo=>cP h9 o
   have H8:=qh h8;clear h8 h9 rj;by_cases JQ:s5.ts.length>300
   ·rw[if_pos JQ]at ru
    simp only[if_pos JQ,bO];clear JQ;go_wp2_with fail;refine leaves_cons (f:=73) (args:=#[.pointer (some ⟨w.heap.size,0,none⟩)]) (by simp) (by simp[go_sem]) ?_;refine(N4 w.heap.size _).mono ?_
    rintro e u' Nj ⟨rfl,rfl,rfl⟩
    have hp:=(H8.o.store 1 rfl 0 (.int .i64 2)).store 1 rfl 1 (.int .i64 0);simp[Leaves,settle,results,results40,go_sem,c0,c1];exact aB.o (2,0) _ ru.o (hp.pick [0])
   ·rw[if_neg JQ]at ru
    simp only[if_neg JQ,bO];clear JQ;go_wp2_with fail;refine leaves_cons (f:=73) (args:=#[.pointer (some ⟨w.heap.size,0,none⟩)]) (by simp) (by simp[go_sem]) ?_;refine(N4 w.heap.size _).mono ?_
    rintro e u' Nj ⟨rfl,rfl,rfl⟩
    have hp:=(H8.o.store 1 rfl 0 (.int .i64 0)).store 1 rfl 1 (.int .i64 0);simp[Leaves,settle,results,results40,go_sem,c0,c1];exact aX.o _ s5 (lv,nv,tv,(s.ns.length:Int)) _ ru.o rfl (hp.pick [0,2,3,4,5,6])
  ·have Q':Hq (∀n s2,(Ty.lv ad 20).S s=.ok (n,s2)->∀r,LL ad f (l++[n]) s2=r->m' ad st=r):=λn s2 hm r h=>hE.out r ((Pr hk hm).trans h)
   have wA:Hq (∀e,(Ty.lv ad 20).S s=.error e->mN ad st=.error e):=λe hm=>Gv (hE.out _ (NR hk hm))
   have Eh: (((Ty.cur ad s.pos).kind:Int) !=6)=true:=by simp;omega
   generalize Ty.cur ad s.pos=t at*
   obtain⟨kd,tx,tp⟩:=t;dsimp only at Eh;clear hE hk;go_wp2_with fail;refine HN.o _ (λw4 vR=>?_);dsimp only[cj];have h6:=hS.out.below vR;have c1:=h6.cell 3 rfl 4 rfl;have Xc:=qh (aav.out w0 w4.drew _ pb s (h6.drew.at 1 rfl));clear vR h6;go_wp2_with fail;first|go_region_law(first|(go_simp;go_at_call 76;refine Xc.o _ (λn s2 w5 hm h2=>?_) (λe w5 hm h2=>?_);rotate_left;(have YV:=(h2.unpack (i:=0) rfl).pick [0,1];have Sw:=YV.heap 1 rfl;have HX:=wA.o _ hm;show Leaves _ _ _ R _ (.panicking (aI e)) w5;refine leaves_cons (f:=73) (args:=#[.pointer (some ⟨w.heap.size,0,none⟩)]) (by simp) (by simp[go_sem]) ?_;refine(T3 w.heap.size e _ _ _ Sw).mono ?_;rintro e' u' Nj ⟨rfl,rfl,rfl⟩;have hp:=(YV.store 1 rfl 0 (.int .i64 e.1)).store 1 rfl 1 (.int .i64 e.2);have d0:=hp.cell 1 rfl 0 rfl;have d1:=hp.cell 1 rfl 1 rfl;simp[Leaves,settle,results,results40,go_sem,d0,d1];exact aB.o e _ HX (hp.pick [0]));have h3:Sat w0 w5 [Fr,aV pb 0 ad s2,av w.heap.size (.cells #[.int .i64 0,.int .i64 0] 25 (0,0)),av w2.heap.size (rv 26 0 0 (.slice a l.length dm)),eY (.slice a l.length dm) l]:=h2.su;have d1:=h3.cell 3 rfl 4 rfl;have d2:=(h3.aW (.cells #[.int .i64 n] 3)).cell 3 rfl 4 rfl;have pd:=abR.out _ _ _ hm;have H3:=qh h3;have HM:=qh hm;clear h2 h3 hm)|(go_loud(refine step_append_lies _ (by rfl) _ _ _ (by rfl) 0 3 i0 _ 1 8 underlying39 ti mM mL mK rfl (by omega) (.slice a l.length dm) l.length (l.map aO) (by rfl) ((H3.o.row 4 rfl).alloc _) ⟨w5.heap.size,0,none⟩ 1 1 [.int .i64 n] (by rfl) (by rfl) (World.news_of_block (cs:=#[.int .i64 n]) (t:=3) (fr:=(0,0)) (aR _ _ _ (by simp))) (by simp[Value.oneCell']) (by omega) (by unfold maxLen;omega) (by omega) (by simp) (w5.heap.size+1) (by simp) ?_);intro g cap w6 eg dR o_ yL;have h4:=Sat.grow (H3.o.aW _) 4 rfl dR eg (by simpa using o_);have d3:=h4.cell 3 rfl 4 rfl;have f3:=h4.free 3 rfl 4;have H4:=qh h4;clear h4))|fail
   all_goals
    clear eg dR;have h7:=(H4.o.store 3 rfl 4 (.slice (some ⟨g,0,none⟩) (l.length+1) cap)).cL (i:=4) rfl (Q:=eY (.slice (some ⟨g,0,none⟩) (l.length+1) cap) (l++[n])) (λ_ h=>js h);have h7:Sat w0 _ [Fr,aV pb 0 ad s2,av w.heap.size (.cells #[.int .i64 0,.int .i64 0] 25 (0,0)),av w2.heap.size (rv 26 0 0 (.slice (some ⟨g,0,none⟩) (l.length+1) cap)),eY (.slice (some ⟨g,0,none⟩) (l.length+1) cap) (l++[n])]:=h7;have Vd:=(h7.pick [0,1]).look.fits.1;have QT:=qh (de (h7.pick [0,1]).look);have H7:=qh h7;have jl:=qh (Q'.o _ _ HM.o);clear h7;go_wp2_with fail;go_roundw
    case rel=>exact⟨f,l++[n],s2,_,Vd,by omega,by simp;omega,by omega,H7,jl⟩
    case measure=>rw[mJ.o,QT.o];omega
theorem Ju{s:BA}{ad:List Tok.Tk}{st:Ty.St}{n:Nat}(h1:Tok.scan s=.ok ad)(hn:st.ns.length<=1002)(h2:mN ad ⟨0,[],[]⟩=.ok (n,st)):Ty.parse s=.ok ⟨st.ns,st.ts,n⟩:=by
 unfold Ty.parse;rw[h1];unfold mN at h2;dsimp only;cases h:m' ad ⟨0,[],[]⟩with
 |error f=>rw[h]at h2;cases h2
 |ok p=>
  obtain⟨m,s'⟩:=p;rw[h]at h2
  dsimp only at h2⊢;split at h2
  ·cases h2
  ·rename_i h3;cases h2;rw[if_neg (by omega)]
theorem Gn{s:BA}{ad:List Tok.Tk}{f:Ty.Ft}(h1:Tok.scan s=.ok ad)(h2:mN ad ⟨0,[],[]⟩=.error f):Ty.parse s=.error f:=by
 unfold Ty.parse;rw[h1];unfold mN at h2;dsimp only;cases h:m' ad ⟨0,[],[]⟩with
 |error g=>rw[h]at h2;cases h2;rfl
 |ok p=>
  obtain⟨m,s'⟩:=p;rw[h]at h2
  dsimp only at h2⊢;split at h2
  ·rename_i h3;cases h2;rw[if_pos (.inr h3)]
  ·cases h2
theorem GI{w0 w:World}{Fr:As}(H:Sat w0 w [Fr])(s:BA)(hw:Words w)(hm:s.size<=maxLen){R:EW}
  (aH:∀(pg:Ty.Pg) nv tv w',Ty.parse s=.ok pg->Sat w0 w' [Fr,vW nv pg.ns,xV tv pg.ts]->R (.returned (.tuple #[.agg #[nv,tv,.int .i64 (pg.main:Nat)],bO (0,0)])) w')
  (au:∀f w',Ty.parse s=.error f->Sat w0 w' [Fr]->R (.returned (.tuple #[.agg #[.slice none 0 0,.slice none 0 0,.int .i64 0],bO f])) w'):
  Calls prog 15 #[.string s] w R:=by
 have aX:=qh aH;have aB:=qh au;have HS:=qh H;have HW:=qh hw;have Co:=qh hm;clear aH au H hw hm;go_in;go_wp2_with fail;have h1:=(HS.o.aj (.cells #[.slice none 0 0,.slice none 0 0,.int .i64 0] 31) w.heap.size).aj (.cells #[.int .i64 0,.int .i64 0] 25) (w.heap.size+1);have h1:Sat w0 _ [ah [Fr,av w.heap.size (.cells #[.slice none 0 0,.slice none 0 0,.int .i64 0] 31 (0,0)),av (w.heap.size+1) (.cells #[.int .i64 0,.int .i64 0] 25 (0,0))]]:=Sat.pack (L:=[]) h1;refine JX h1 s (HW.o.below (((bR _ _).alloc (nR _) _).alloc (by simp) _)) Co.o (λad pb w1 hl h2=>?_) (λf pb w1 hl h2=>?_)
 ·have h3:=h2.mW.aj (.cells #[.int .i64 0,.int .i64 0] 25) w1.heap.size;have H3:=qh h3;have HL:=qh hl;have aac:=qh (FO hl);clear h1 h2 h3 hl;dsimp only[bO];go_wp2_with fail;refine AY aac.o (H3.o.at 1 rfl) (by simp) (λn st p w2 hs SS h4=>?_) (λf w2 hs h4=>?_)
  ·obtain⟨lv,nv,tv,main⟩:=p;dsimp only at SS;subst SS;have h5:=(h4.unpack (i:=0) rfl).pick [5,6,7,8,0,1,2,3,4];have Zd:=h5.pure 4 rfl;have hn:st.ns.length<=1002:=by have:=Zd.1.1;omega
   obtain⟨rows,h6⟩:=h5.ex (i:=7) rfl;obtain⟨na,nc,en⟩:=ag ((h6.unpack (i:=7) rfl).row 9 rfl);obtain⟨TH,h7⟩:=h5.ex (i:=8) rfl;obtain⟨ta,tc,et⟩:=ag ((h7.unpack (i:=8) rfl).row 9 rfl);clear h6 h7;dsimp only at en et;subst en et;have x0:=h5.cell 3 rfl 0 rfl;have y0:=h5.cell 2 rfl 0 rfl;have x1:=h5.cell 3 rfl 1 rfl;have y1:=h5.cell 2 rfl 1 rfl;have v0:=h5.cell 1 rfl 0 rfl;have v1:=h5.cell 1 rfl 1 rfl;have v2:=h5.cell 1 rfl 2 rfl;have z3:=h5.cell 5 rfl 3 rfl;have z4:=h5.cell 5 rfl 4 rfl;have z5:=h5.cell 5 rfl 5 rfl;have fx:=h5.free 3 rfl;have fy:=h5.free 2 rfl;have fv:=h5.free 1 rfl;have OB:=h5.ne 1 2 (by decide) rfl rfl;have Ta:=h5.ne 1 3 (by decide) rfl rfl;have Zj:=h5.ne 1 5 (by decide) rfl rfl;have TR:=h5.ne 2 3 (by decide) rfl rfl;have YQ:=h5.ne 2 5 (by decide) rfl rfl;have YA:=h5.ne 3 5 (by decide) rfl rfl;have pM:=h5.lt 1 rfl;have cu:=h5.lt 2 rfl;have tP:=h5.lt 3 rfl;have H5:=qh h5;have pI:=qh (Ju HL.o hn hs);clear h4 h5 hs Zd hn;dsimp only[bO]at*
   go_wp2_with fail
   go_region
   all_goals
    go_wp2_with fail;refine bodyPost_ret ?_ rfl (aX.o ⟨st.ns,st.ts,n⟩ (.slice na st.ns.length nc) (.slice ta st.ts.length tc) _ pI.o ?_)
    ·simp[results,results15,go_sem,v0,v1,v2,y0,y1]
    ·exact((((((((H5.o.store 3 rfl 0 (.int .i64 0)).store 3 rfl 1 (.int .i64 0)).store 1 rfl 0 (.slice na st.ns.length nc)).store 1 rfl 1 (.slice ta st.ts.length tc)).store 1 rfl 2 (.int .i64 (n:Nat))).store 2 rfl 0 (.int .i64 0)).store 2 rfl 1 (.int .i64 0)).drew.pick [0,7,8])
  ·have h5:=h4.unpack (i:=0) rfl;have x0:=h5.cell 3 rfl 0 rfl;have y0:=h5.cell 2 rfl 0 rfl;have x1:=h5.cell 3 rfl 1 rfl;have y1:=h5.cell 2 rfl 1 rfl;have v0:=h5.cell 1 rfl 0 rfl;have v1:=h5.cell 1 rfl 1 rfl;have v2:=h5.cell 1 rfl 2 rfl;have fx:=h5.free 3 rfl;have fy:=h5.free 2 rfl;have fv:=h5.free 1 rfl;have OB:=h5.ne 1 2 (by decide) rfl rfl;have Ta:=h5.ne 1 3 (by decide) rfl rfl;have TR:=h5.ne 2 3 (by decide) rfl rfl;have pM:=h5.lt 1 rfl;have cu:=h5.lt 2 rfl;have tP:=h5.lt 3 rfl;have hE:=Gn HL.o hs;have hb:=lF hE;obtain⟨fe,fp⟩:=f;dsimp only at hb;have e1: ((fe:Int)==0)=false:=by simp;omega
   have e2: ((fe:Int) !=0)=true:=by simp;omega
   have H5:=qh h5;have HE:=qh hE;clear h4 h5 hs hE hb;dsimp only[bO]at*
   go_wp2_with fail
   go_region
   all_goals
    go_wp2_with fail;refine bodyPost_ret ?_ rfl (aB.o (fe,fp) _ HE.o ?_)
    ·simp[results,results15,go_sem,v0,v1,v2,y0,y1]
    ·exact((((((((H5.o.store 3 rfl 0 (.int .i64 fe)).store 3 rfl 1 (.int .i64 fp)).store 1 rfl 0 (.slice none 0 0)).store 1 rfl 1 (.slice none 0 0)).store 1 rfl 2 (.int .i64 0)).store 2 rfl 0 (.int .i64 fe)).store 2 rfl 1 (.int .i64 fp)).drew.pick [0])
 ·have hE:Ty.parse s=.error f:=by unfold Ty.parse;rw[hl]
  have hb:=lF hE;obtain⟨fe,fp⟩:=f;dsimp only at hb;have h5:=h2.unpack (i:=0) rfl;have a0:=h5.cell 2 rfl 0 rfl;have a1:=h5.cell 2 rfl 1 rfl;have b0:=h5.cell 1 rfl 0 rfl;have b1:=h5.cell 1 rfl 1 rfl;have b2:=h5.cell 1 rfl 2 rfl;have fy:=h5.free 2 rfl;have fv:=h5.free 1 rfl;have pM:=h5.lt 1 rfl;have cu:=h5.lt 2 rfl;have OB:=h5.ne 1 2 (by decide) rfl rfl;have e1: ((fe:Int)==0)=false:=by simp;omega
  have e2: ((fe:Int) !=0)=true:=by simp;omega
  have H6:=qh h5;have HE:=qh hE;clear h1 h2 h5 hl hE hb;dsimp only[bO]at*
  go_wp2_with fail
  go_region
  all_goals
   go_wp2_with fail;refine bodyPost_ret ?_ rfl (aB.o (fe,fp) _ HE.o ?_)
   ·simp[results,results15,go_sem,pM,cu,a0,a1,b0,b1,b2]
   ·exact(((((((H6.o.store 1 rfl 0 (.slice none 0 0)).store 1 rfl 1 (.slice none 0 0)).store 1 rfl 2 (.int .i64 0)).store 2 rfl 0 (.int .i64 fe)).store 2 rfl 1 (.int .i64 fp)).aW _).drew.pick [0])
end Go.Proofs.YtdlbhiaceheffabGreatDoor
