/- Walk of check: expr, at each kind of node but arrays and objects. (Printed by gen_cke.py.) -/
import Derived.Test.YtdlbhiaceheffabGreatDoorP22
set_option linter.all false
set_option maxRecDepth 100000
set_option maxHeartbeats 4000000
namespace Go.Proofs.YtdlbhiaceheffabGreatDoor
open Go Go.RowKit Ty Tok ak Tryz Proofs.Tryz
section
open Ty (Tr Ck)
section
variable {wB w:World} {cb ofb hasb:Nat} {X:Cx} {s:Ck} {h0:ak.Hp} {pg:Ty.Pg}
theorem PX(hP:PB wB X.nv X.tv pg)(hb:Below wB.heap.size wB w){id:Nat}{nd:Ty.Nd}(hn:pg.ns[id]?=some nd)(hk:nd.kind=7)(hW:CkW w cb X ofb hasb s h0)(hI:NdW pg nd)(hi:id≤100000)(bZ:fN pg X.a_ s id nd≠.error Ty.stuck){R:EW}
  (aF:∀t q w',fN pg X.a_ s id nd=.ok t→Sat w w' [bE w,de h0 t q]→R (.returned q) w') (av:∀f w',fN pg X.a_ s id nd=.error f→Below w.heap.size w w'→R (.panicked (aJ f)) w'):
  Calls prog 159 #[.pointer (some ⟨cb,0,none⟩),.int .i64 (id:Nat)] w R:=by
 have aY:=qh aF;have eH:=qh av;have eE:=qh (λR=>aR (R:=R) hP hb hn hW.c0 hW.lt);have HW:=qh hW;have HP:=qh hP;have iB:=qh hb;have jJ:=qh hn;have gU:=hW.lt;obtain⟨cy,hex⟩:=gi bZ;have vO:=qh hex;have q_:=qh cy;have HI:=qh hI;have Fh:=qh hk;have hx:fN pg X.a_ s id nd=Ar nd.pos (kF (tO s.of nd.a) (nd.list.map (tO s.of))):=by rw[hex];unfold lL;simp only[hk];rfl
 have kK:c9 pg nd=nd.a::nd.list:=by unfold c9;rw[if_pos hk]
 rw[kK]at q_
 rw[hx]at aY eH
 have e1: (((nd.kind:Nat):Int)==1)=false:=by rw[hk];rfl
 have e2: (((nd.kind:Nat):Int)==2)=false:=by rw[hk];rfl
 have e3: (((nd.kind:Nat):Int)==3)=false:=by rw[hk];rfl
 have e4: (((nd.kind:Nat):Int)==4)=false:=by rw[hk];rfl
 have e5: (((nd.kind:Nat):Int)==5)=false:=by rw[hk];rfl
 have e6: (((nd.kind:Nat):Int)==6)=false:=by rw[hk];rfl
 have e7: (((nd.kind:Nat):Int)==7)=true:=by rw[hk];rfl
 clear aF av hP hb hn hW bZ cy hex hI hk;go_in;go_wp2_with fail;refine eE.o _ (λlv w2 aI hl=>?_);have HL:=qh hl;obtain⟨la,lc,rfl⟩:=ag hl;unfold aK;have dR:Below w.heap.size w (w2.alloc (aD nd (.slice la nd.list.length lc))):=aI.alloc aI.size _;have h3:=((Sat.fw w).below aI).aj (aD nd (.slice la nd.list.length lc)) w2.heap.size;have x0:=h3.cell 1 rfl 0 rfl;have x1:=h3.cell 1 rfl 1 rfl;have x2:=h3.cell 1 rfl 2 rfl;have x4:=h3.cell 1 rfl 4 rfl;have x5:=h3.cell 1 rfl 5 rfl;have x7:=h3.cell 1 rfl 7 rfl;have cU:=qh dR;have gI:=qh (HW.o.below dR);have gn:=qh (iB.o.trans (dR.mono iB.o.size));clear h3 aI hl dR;go_wp2_with fail;refine BX HP.o gn.o jJ.o gI.o q_.o HI.o.a HI.o.l HI.o.len (λu q w' hu h=>?_) (λhu w' fU=>?_)
 ·have HG:=qh (aY.o u q w' (by rw[hu];rfl) (kX cU.o h));clear hu h;go_wp2_with fail;exact HG.o
 ·exact⟨rfl,eH.o _ w' (by rw[hu];rfl) (cU.o.trans (fU.mono cU.o.size))⟩
theorem M4(hP:PB wB X.nv X.tv pg)(hb:Below wB.heap.size wB w){id:Nat}{nd:Ty.Nd}(hn:pg.ns[id]?=some nd)(hk:nd.kind=12)(hW:CkW w cb X ofb hasb s h0)(hI:NdW pg nd)(hi:id≤100000)(bZ:fN pg X.a_ s id nd≠.error Ty.stuck){R:EW}
  (aF:∀t q w',fN pg X.a_ s id nd=.ok t→Sat w w' [bE w,de h0 t q]→R (.returned q) w') (av:∀f w',fN pg X.a_ s id nd=.error f→Below w.heap.size w w'→R (.panicked (aJ f)) w'):
  Calls prog 159 #[.pointer (some ⟨cb,0,none⟩),.int .i64 (id:Nat)] w R:=by
 have aY:=qh aF;have eH:=qh av;have eE:=qh (λR=>aR (R:=R) hP hb hn hW.c0 hW.lt);have HW:=qh hW;have HP:=qh hP;have iB:=qh hb;have jJ:=qh hn;have gU:=hW.lt;obtain⟨cy,hex⟩:=gi bZ;have vO:=qh hex;have q_:=qh cy;have HI:=qh hI;have Fh:=qh hk;have hx:fN pg X.a_ s id nd=Ar nd.pos (ou nd.text (tO s.of nd.a) (tO s.of nd.b)):=by rw[hex];unfold lL;simp only[hk];rfl
 have kK:c9 pg nd=[nd.a,nd.b]:=by unfold c9;simp[hk]
 rw[kK]at cy
 have qM:=cu cy (n:=nd.a) (by simp);have Cf:=cu cy (n:=nd.b) (by simp);have uS:=qh qM;have F9:=qh Cf;clear qM Cf;rw[hx]at aY eH
 have e1: (((nd.kind:Nat):Int)==1)=false:=by rw[hk];rfl
 have e2: (((nd.kind:Nat):Int)==2)=false:=by rw[hk];rfl
 have e3: (((nd.kind:Nat):Int)==3)=false:=by rw[hk];rfl
 have e4: (((nd.kind:Nat):Int)==4)=false:=by rw[hk];rfl
 have e5: (((nd.kind:Nat):Int)==5)=false:=by rw[hk];rfl
 have e6: (((nd.kind:Nat):Int)==6)=false:=by rw[hk];rfl
 have e7: (((nd.kind:Nat):Int)==7)=false:=by rw[hk];rfl
 have e8: (((nd.kind:Nat):Int)==8)=false:=by rw[hk];rfl
 have e9: (((nd.kind:Nat):Int)==9)=false:=by rw[hk];rfl
 have Mk: (((nd.kind:Nat):Int)==11)=false:=by rw[hk];rfl
 have r9: (((nd.kind:Nat):Int)==10)=false:=by rw[hk];rfl
 have OH: (((nd.kind:Nat):Int)==12)=true:=by rw[hk];rfl
 clear aF av hP hb hn hW bZ cy hex hI hk;go_in;go_wp2_with fail;refine eE.o _ (λlv w2 aI hl=>?_);have HL:=qh hl;obtain⟨la,lc,rfl⟩:=ag hl;unfold aK;have dR:Below w.heap.size w (w2.alloc (aD nd (.slice la nd.list.length lc))):=aI.alloc aI.size _;have h3:=((Sat.fw w).below aI).aj (aD nd (.slice la nd.list.length lc)) w2.heap.size;have x0:=h3.cell 1 rfl 0 rfl;have x1:=h3.cell 1 rfl 1 rfl;have x2:=h3.cell 1 rfl 2 rfl;have x4:=h3.cell 1 rfl 4 rfl;have x5:=h3.cell 1 rfl 5 rfl;have x7:=h3.cell 1 rfl 7 rfl;have cU:=qh dR;have gI:=qh (HW.o.below dR);have gn:=qh (iB.o.trans (dR.mono iB.o.size));clear h3 aI hl dR;go_wp2_with fail;refine Gw HP.o gn.o jJ.o gI.o uS.o F9.o HI.o.a HI.o.b (λu q w' hu h=>?_) (λhu w' fU=>?_)
 ·have HG:=qh (aY.o u q w' (by rw[hu];rfl) (kX cU.o h));clear hu h;go_wp2_with fail;exact HG.o
 ·exact⟨rfl,eH.o _ w' (by rw[hu];rfl) (cU.o.trans (fU.mono cU.o.size))⟩
theorem Mn(hP:PB wB X.nv X.tv pg)(hb:Below wB.heap.size wB w){id:Nat}{nd:Ty.Nd}(hn:pg.ns[id]?=some nd)(hk:nd.kind=13)(hW:CkW w cb X ofb hasb s h0)(hI:NdW pg nd)(hi:id≤100000)(bZ:fN pg X.a_ s id nd≠.error Ty.stuck){R:EW}
  (aF:∀t q w',fN pg X.a_ s id nd=.ok t→Sat w w' [bE w,de h0 t q]→R (.returned q) w') (av:∀f w',fN pg X.a_ s id nd=.error f→Below w.heap.size w w'→R (.panicked (aJ f)) w'):
  Calls prog 159 #[.pointer (some ⟨cb,0,none⟩),.int .i64 (id:Nat)] w R:=by
 have aY:=qh aF;have eH:=qh av;have eE:=qh (λR=>aR (R:=R) hP hb hn hW.c0 hW.lt);have HW:=qh hW;have HP:=qh hP;have iB:=qh hb;have jJ:=qh hn;have gU:=hW.lt;obtain⟨cy,hex⟩:=gi bZ;have vO:=qh hex;have q_:=qh cy;have HI:=qh hI;have Fh:=qh hk;have hx:fN pg X.a_ s id nd=Ar nd.pos (vS nd.text (tO s.of nd.a)):=by rw[hex];unfold lL;simp only[hk];rfl
 have kK:c9 pg nd=[nd.a]:=by unfold c9;simp[hk]
 rw[kK]at cy
 have uS:=qh (cu cy (n:=nd.a) (by simp));rw[hx]at aY eH
 have e1: (((nd.kind:Nat):Int)==1)=false:=by rw[hk];rfl
 have e2: (((nd.kind:Nat):Int)==2)=false:=by rw[hk];rfl
 have e3: (((nd.kind:Nat):Int)==3)=false:=by rw[hk];rfl
 have e4: (((nd.kind:Nat):Int)==4)=false:=by rw[hk];rfl
 have e5: (((nd.kind:Nat):Int)==5)=false:=by rw[hk];rfl
 have e6: (((nd.kind:Nat):Int)==6)=false:=by rw[hk];rfl
 have e7: (((nd.kind:Nat):Int)==7)=false:=by rw[hk];rfl
 have e8: (((nd.kind:Nat):Int)==8)=false:=by rw[hk];rfl
 have e9: (((nd.kind:Nat):Int)==9)=false:=by rw[hk];rfl
 have Mk: (((nd.kind:Nat):Int)==11)=false:=by rw[hk];rfl
 have r9: (((nd.kind:Nat):Int)==10)=false:=by rw[hk];rfl
 have OH: (((nd.kind:Nat):Int)==12)=false:=by rw[hk];rfl
 have aaq: (((nd.kind:Nat):Int)==13)=true:=by rw[hk];rfl
 clear aF av hP hb hn hW bZ cy hex hI hk;go_in;go_wp2_with fail;refine eE.o _ (λlv w2 aI hl=>?_);have HL:=qh hl;obtain⟨la,lc,rfl⟩:=ag hl;unfold aK;have dR:Below w.heap.size w (w2.alloc (aD nd (.slice la nd.list.length lc))):=aI.alloc aI.size _;have h3:=((Sat.fw w).below aI).aj (aD nd (.slice la nd.list.length lc)) w2.heap.size;have x0:=h3.cell 1 rfl 0 rfl;have x1:=h3.cell 1 rfl 1 rfl;have x2:=h3.cell 1 rfl 2 rfl;have x4:=h3.cell 1 rfl 4 rfl;have x5:=h3.cell 1 rfl 5 rfl;have x7:=h3.cell 1 rfl 7 rfl;have cU:=qh dR;have gI:=qh (HW.o.below dR);have gn:=qh (iB.o.trans (dR.mono iB.o.size));clear h3 aI hl dR;go_wp2_with fail;refine He HP.o gn.o jJ.o gI.o uS.o HI.o.a (λu q w' hu h=>?_) (λhu w' fU=>?_)
 ·have HG:=qh (aY.o u q w' (by rw[hu];rfl) (kX cU.o h));clear hu h;go_wp2_with fail;exact HG.o
 ·exact⟨rfl,eH.o _ w' (by rw[hu];rfl) (cU.o.trans (fU.mono cU.o.size))⟩
theorem MR(hP:PB wB X.nv X.tv pg)(hb:Below wB.heap.size wB w){id:Nat}{nd:Ty.Nd}(hn:pg.ns[id]?=some nd)(hk:nd.kind=14)(hW:CkW w cb X ofb hasb s h0)(hI:NdW pg nd)(hi:id≤100000)(bZ:fN pg X.a_ s id nd≠.error Ty.stuck){R:EW}
  (aF:∀t q w',fN pg X.a_ s id nd=.ok t→Sat w w' [bE w,de h0 t q]→R (.returned q) w') (av:∀f w',fN pg X.a_ s id nd=.error f→Below w.heap.size w w'→R (.panicked (aJ f)) w'):
  Calls prog 159 #[.pointer (some ⟨cb,0,none⟩),.int .i64 (id:Nat)] w R:=by
 have aY:=qh aF;have eH:=qh av;have eE:=qh (λR=>aR (R:=R) hP hb hn hW.c0 hW.lt);have HW:=qh hW;have HP:=qh hP;have iB:=qh hb;have jJ:=qh hn;have gU:=hW.lt;obtain⟨cy,hex⟩:=gi bZ;have vO:=qh hex;have q_:=qh cy;have HI:=qh hI;have Fh:=qh hk;have hx:fN pg X.a_ s id nd=match ek pg.ts nd.ty with|none=>.error Ty.stuck|some t=>.ok t:=by rw[hex];unfold lL;simp only[hk];rfl
 obtain⟨t,ht⟩:∃t,ek pg.ts nd.ty=some t:=by
  cases hw:ek pg.ts nd.ty with
  |none=>rw[hx,hw]at bZ;exact absurd rfl bZ
  |some t=>exact⟨t,rfl⟩
 rw[hx,ht]at aY
 have HT:=qh ht;clear ht hx;have e1: (((nd.kind:Nat):Int)==1)=false:=by rw[hk];rfl
 have e2: (((nd.kind:Nat):Int)==2)=false:=by rw[hk];rfl
 have e3: (((nd.kind:Nat):Int)==3)=false:=by rw[hk];rfl
 have e4: (((nd.kind:Nat):Int)==4)=false:=by rw[hk];rfl
 have e5: (((nd.kind:Nat):Int)==5)=false:=by rw[hk];rfl
 have e6: (((nd.kind:Nat):Int)==6)=false:=by rw[hk];rfl
 have e7: (((nd.kind:Nat):Int)==7)=false:=by rw[hk];rfl
 have e8: (((nd.kind:Nat):Int)==8)=false:=by rw[hk];rfl
 have e9: (((nd.kind:Nat):Int)==9)=false:=by rw[hk];rfl
 have Mk: (((nd.kind:Nat):Int)==11)=false:=by rw[hk];rfl
 have r9: (((nd.kind:Nat):Int)==10)=false:=by rw[hk];rfl
 have OH: (((nd.kind:Nat):Int)==12)=false:=by rw[hk];rfl
 have aaq: (((nd.kind:Nat):Int)==13)=false:=by rw[hk];rfl
 clear aF av hP hb hn hW bZ cy hex hI hk;go_in;go_wp2_with fail;refine eE.o _ (λlv w2 aI hl=>?_);have HL:=qh hl;obtain⟨la,lc,rfl⟩:=ag hl;unfold aK;have dR:Below w.heap.size w (w2.alloc (aD nd (.slice la nd.list.length lc))):=aI.alloc aI.size _;have h3:=((Sat.fw w).below aI).aj (aD nd (.slice la nd.list.length lc)) w2.heap.size;have x0:=h3.cell 1 rfl 0 rfl;have x1:=h3.cell 1 rfl 1 rfl;have x2:=h3.cell 1 rfl 2 rfl;have x4:=h3.cell 1 rfl 4 rfl;have x5:=h3.cell 1 rfl 5 rfl;have x7:=h3.cell 1 rfl 7 rfl;have cU:=qh dR;have gI:=qh (HW.o.below dR);have gn:=qh (iB.o.trans (dR.mono iB.o.size));clear h3 aI hl dR;go_wp2_with fail;refine hJ HP.o gn.o gI.o.c1 gI.o.lt HI.o.ty (λv w' h=>?_);rw[HT.o]at h
 have HG:=qh (aY.o t v w' rfl (kX cU.o (h.cG (i:=1) rfl λ_ ha _ _ mS=>bL mS _ _ ha)));clear h;go_wp2_with fail;exact HG.o
theorem PC(hP:PB wB X.nv X.tv pg)(hb:Below wB.heap.size wB w){id:Nat}{nd:Ty.Nd}(hn:pg.ns[id]?=some nd)(hk:nd.kind=6)(hW:CkW w cb X ofb hasb s h0)(hI:NdW pg nd)(hi:id≤100000)(bZ:fN pg X.a_ s id nd≠.error Ty.stuck){R:EW}
  (aF:∀t q w',fN pg X.a_ s id nd=.ok t→Sat w w' [bE w,de h0 t q]→R (.returned q) w') (av:∀f w',fN pg X.a_ s id nd=.error f→Below w.heap.size w w'→R (.panicked (aJ f)) w'):
  Calls prog 159 #[.pointer (some ⟨cb,0,none⟩),.int .i64 (id:Nat)] w R:=by
 have aY:=qh aF;have eH:=qh av;have eE:=qh (λR=>aR (R:=R) hP hb hn hW.c0 hW.lt);have HW:=qh hW;have HP:=qh hP;have iB:=qh hb;have jJ:=qh hn;have gU:=hW.lt;obtain⟨cy,hex⟩:=gi bZ;have vO:=qh hex;have q_:=qh cy;have HI:=qh hI;have Fh:=qh hk;have hx:fN pg X.a_ s id nd=.ok (FD pg nd):=by rw[hex];unfold lL;simp only[hk];rfl
 rw[hx]at aY
 have e1: (((nd.kind:Nat):Int)==1)=false:=by rw[hk];rfl
 have e2: (((nd.kind:Nat):Int)==2)=false:=by rw[hk];rfl
 have e3: (((nd.kind:Nat):Int)==3)=false:=by rw[hk];rfl
 have e4: (((nd.kind:Nat):Int)==4)=false:=by rw[hk];rfl
 have e5: (((nd.kind:Nat):Int)==5)=false:=by rw[hk];rfl
 have e6: (((nd.kind:Nat):Int)==6)=true:=by rw[hk];rfl
 clear aF av hP hb hn hW bZ cy hex hI hk;go_in;go_wp2_with fail;refine eE.o _ (λlv w2 aI hl=>?_);have HL:=qh hl;obtain⟨la,lc,rfl⟩:=ag hl;unfold aK;have dR:Below w.heap.size w (w2.alloc (aD nd (.slice la nd.list.length lc))):=aI.alloc aI.size _;have h3:=((Sat.fw w).below aI).aj (aD nd (.slice la nd.list.length lc)) w2.heap.size;have x0:=h3.cell 1 rfl 0 rfl;have x1:=h3.cell 1 rfl 1 rfl;have x2:=h3.cell 1 rfl 2 rfl;have x4:=h3.cell 1 rfl 4 rfl;have x5:=h3.cell 1 rfl 5 rfl;have x7:=h3.cell 1 rfl 7 rfl;have cU:=qh dR;have gI:=qh (HW.o.below dR);have gn:=qh (iB.o.trans (dR.mono iB.o.size));clear h3 aI hl dR;go_wp2_with fail;refine xj HP.o gn.o gI.o.c0 gI.o.c1 gI.o.lt HL.o HI.o.ps HI.o.ty HI.o.len (λv w' h=>?_);have HG:=qh (aY.o _ v w' rfl (kX cU.o (h.cG (i:=1) rfl λ_ ha _ _ mS=>bL mS _ _ ha)));clear h;go_wp2_with fail;exact HG.o
theorem OU(hP:PB wB X.nv X.tv pg)(hb:Below wB.heap.size wB w){id:Nat}{nd:Ty.Nd}(hn:pg.ns[id]?=some nd)(hk:nd.kind=5)(hW:CkW w cb X ofb hasb s h0)(hI:NdW pg nd)(hi:id≤100000)(bZ:fN pg X.a_ s id nd≠.error Ty.stuck){R:EW}
  (aF:∀t q w',fN pg X.a_ s id nd=.ok t→Sat w w' [bE w,de h0 t q]→R (.returned q) w') (av:∀f w',fN pg X.a_ s id nd=.error f→Below w.heap.size w w'→R (.panicked (aJ f)) w'):
  Calls prog 159 #[.pointer (some ⟨cb,0,none⟩),.int .i64 (id:Nat)] w R:=by
 have aY:=qh aF;have eH:=qh av;have eE:=qh (λR=>aR (R:=R) hP hb hn hW.c0 hW.lt);have HW:=qh hW;have HP:=qh hP;have iB:=qh hb;have jJ:=qh hn;have gU:=hW.lt;obtain⟨cy,hex⟩:=gi bZ;have vO:=qh hex;have q_:=qh cy;have HI:=qh hI;have Fh:=qh hk;have hx:fN pg X.a_ s id nd=match s.has (X.a_ id)with|none=>.error Ty.stuck|some t=>.ok t:=by rw[hex];unfold lL;simp only[hk];rfl
 obtain⟨t,ht⟩:∃t,s.has (X.a_ id)=some t:=by
  cases hw:s.has (X.a_ id)with
  |none=>rw[hx,hw]at bZ;exact absurd rfl bZ
  |some t=>exact⟨t,rfl⟩
 rw[hx,ht]at aY
 have HT:=qh ht;clear ht hx;have e1: (((nd.kind:Nat):Int)==1)=false:=by rw[hk];rfl
 have e2: (((nd.kind:Nat):Int)==2)=false:=by rw[hk];rfl
 have e3: (((nd.kind:Nat):Int)==3)=false:=by rw[hk];rfl
 have e4: (((nd.kind:Nat):Int)==4)=false:=by rw[hk];rfl
 have e5: (((nd.kind:Nat):Int)==5)=true:=by rw[hk];rfl
 clear aF av hP hb hn hW bZ cy hex hI hk;go_in;go_wp2_with fail;refine eE.o _ (λlv w2 aI hl=>?_);have HL:=qh hl;obtain⟨la,lc,rfl⟩:=ag hl;unfold aK;have dR:Below w.heap.size w (w2.alloc (aD nd (.slice la nd.list.length lc))):=aI.alloc aI.size _;have h3:=((Sat.fw w).below aI).aj (aD nd (.slice la nd.list.length lc)) w2.heap.size;have x0:=h3.cell 1 rfl 0 rfl;have x1:=h3.cell 1 rfl 1 rfl;have x2:=h3.cell 1 rfl 2 rfl;have x4:=h3.cell 1 rfl 4 rfl;have x5:=h3.cell 1 rfl 5 rfl;have x7:=h3.cell 1 rfl 7 rfl;have cU:=qh dR;have gI:=qh (HW.o.below dR);have gn:=qh (iB.o.trans (dR.mono iB.o.size));clear h3 aI hl dR;go_wp2_with fail;have xv:=gI.o.drew.Kq hi;obtain⟨p,bD,hr⟩:=gI.o.hasAll xv.2 HT.o;have hS: (w2.alloc (aD nd (.slice la nd.list.length lc))).drew.cell? ⟨cb,6,none⟩=some (.map (some hasb))∧(w2.alloc (aD nd (.slice la nd.list.length lc))).drew.cell? ⟨cb,3,none⟩=some (.map (some X.sO)):=⟨gI.o.c6,gI.o.c3⟩
 have pK:=xv.1;have cI:=bD _ ((bR _ _).drew);have B6:=gI.o.lt;have HG:=qh (aY.o t p _ rfl (kX cU.o ((Sat.fw (w2.alloc (aD nd (.slice la nd.list.length lc)))).drew.hZ λa h hl _=>bL hl _ _ hr)));clear xv bD hr;go_region_held3(λw'=>w'.cell? ⟨cb,6,none⟩=some (.map (some hasb))∧w'.cell? ⟨cb,3,none⟩=some (.map (some X.sO))) (exact hS) (fail)
 all_goals
  go_wp2_with fail;exact HG.o
theorem O5(hP:PB wB X.nv X.tv pg)(hb:Below wB.heap.size wB w){id:Nat}{nd:Ty.Nd}(hn:pg.ns[id]?=some nd)(hk:nd.kind=8)(hW:CkW w cb X ofb hasb s h0)(hI:NdW pg nd)(hi:id≤100000)(bZ:fN pg X.a_ s id nd≠.error Ty.stuck){R:EW}
  (aF:∀t q w',fN pg X.a_ s id nd=.ok t→Sat w w' [bE w,de h0 t q]→R (.returned q) w') (av:∀f w',fN pg X.a_ s id nd=.error f→Below w.heap.size w w'→R (.panicked (aJ f)) w'):
  Calls prog 159 #[.pointer (some ⟨cb,0,none⟩),.int .i64 (id:Nat)] w R:=by
 have aY:=qh aF;have eH:=qh av;have eE:=qh (λR=>aR (R:=R) hP hb hn hW.c0 hW.lt);have HW:=qh hW;have HP:=qh hP;have iB:=qh hb;have jJ:=qh hn;have gU:=hW.lt;obtain⟨cy,hex⟩:=gi bZ;have vO:=qh hex;have q_:=qh cy;have HI:=qh hI;have Fh:=qh hk;have hx:fN pg X.a_ s id nd=Ar nd.pos (o' (tO s.of nd.a) nd.text):=by rw[hex];unfold lL;simp only[hk];rfl
 have kK:c9 pg nd=[nd.a]:=by unfold c9;simp[hk]
 rw[kK]at cy
 have uS:=qh (cu cy (n:=nd.a) (by simp));rw[hx]at aY eH
 have e1: (((nd.kind:Nat):Int)==1)=false:=by rw[hk];rfl
 have e2: (((nd.kind:Nat):Int)==2)=false:=by rw[hk];rfl
 have e3: (((nd.kind:Nat):Int)==3)=false:=by rw[hk];rfl
 have e4: (((nd.kind:Nat):Int)==4)=false:=by rw[hk];rfl
 have e5: (((nd.kind:Nat):Int)==5)=false:=by rw[hk];rfl
 have e6: (((nd.kind:Nat):Int)==6)=false:=by rw[hk];rfl
 have e7: (((nd.kind:Nat):Int)==7)=false:=by rw[hk];rfl
 have e8: (((nd.kind:Nat):Int)==8)=true:=by rw[hk];rfl
 clear aF av hP hb hn hW bZ cy hex hI hk;go_in;go_wp2_with fail;refine eE.o _ (λlv w2 aI hl=>?_);have HL:=qh hl;obtain⟨la,lc,rfl⟩:=ag hl;unfold aK;have dR:Below w.heap.size w (w2.alloc (aD nd (.slice la nd.list.length lc))):=aI.alloc aI.size _;have h3:=((Sat.fw w).below aI).aj (aD nd (.slice la nd.list.length lc)) w2.heap.size;have x0:=h3.cell 1 rfl 0 rfl;have x1:=h3.cell 1 rfl 1 rfl;have x2:=h3.cell 1 rfl 2 rfl;have x4:=h3.cell 1 rfl 4 rfl;have x5:=h3.cell 1 rfl 5 rfl;have x7:=h3.cell 1 rfl 7 rfl;have cU:=qh dR;have gI:=qh (HW.o.below dR);have gn:=qh (iB.o.trans (dR.mono iB.o.size));clear h3 aI hl dR;go_wp2_with fail;obtain⟨p,bD,hr⟩:=gI.o.gj HI.o.a uS.o;have wU:=(HW.o.fK.of _ _ uS.o).1.ok;have hS: (w2.alloc (aD nd (.slice la nd.list.length lc))).drew.cell? ⟨cb,5,none⟩=some (.map (some ofb))∧(w2.alloc (aD nd (.slice la nd.list.length lc))).drew.cell? ⟨w2.heap.size,1,none⟩=some (.int .i64 (nd.a:Nat))∧(w2.alloc (aD nd (.slice la nd.list.length lc))).drew.cell? ⟨w2.heap.size,5,none⟩=some (.string nd.text)∧(Instr.lookup 103 (.map (some ofb)) (.int .i64 (nd.a:Nat)) false).run prog (w2.alloc (aD nd (.slice la nd.list.length lc))).drew=.ok p (w2.alloc (aD nd (.slice la nd.list.length lc))).drew:=⟨gI.o.c5,x1,x5,bD _ ((bR _ _).drew)⟩
 obtain⟨b,rfl⟩:=aP hr;have b_:=qh (λR=>wL (R:=R) HP.o (gn.o.drew) jJ.o gI.o.drew hr wU nd.text);have B6:=gI.o.lt;have Bh:=qh (λw5(h:Below (w2.alloc (aD nd (.slice la nd.list.length lc))).drew.heap.size (w2.alloc (aD nd (.slice la nd.list.length lc))).drew w5)=>bD w5 ((Below.drew (bR _ _)).trans h));clear hr wU bD;cases hu:o' (tO s.of nd.a) nd.text with
 |some u=>
  rw[hu]at b_ aY
  have L0:=qh (λ(R:EW)(h:∀q w',Sat (w2.alloc (aD nd (.slice la nd.list.length lc))).drew w' [bE (w2.alloc (aD nd (.slice la nd.list.length lc))).drew,de h0 u q]→R (.returned q) w')=>b_.o R (λu' q w' e h2=>by cases e;exact h q w' h2) (λe=>by cases e));clear hu b_;go_region_held3(λw'=>w'.cell? ⟨cb,5,none⟩=some (.map (some ofb))∧w'.cell? ⟨w2.heap.size,1,none⟩=some (.int .i64 (nd.a:Nat))∧w'.cell? ⟨w2.heap.size,5,none⟩=some (.string nd.text)∧(Instr.lookup 103 (.map (some ofb)) (.int .i64 (nd.a:Nat)) false).run prog w'=.ok (.pointer (some ⟨b,0,none⟩)) w') (first|exact hS|exact py)
   ((go_at_call 243;refine L0.o _ (λq w5 h5=>?_);have HG:=qh (aY.o u q w5 rfl (kX cU.o.drew h5));have dW:=h5.aW;have py:w5.cell? ⟨cb,5,none⟩=some (.map (some ofb))∧w5.cell? ⟨w2.heap.size,1,none⟩=some (.int .i64 (nd.a:Nat))∧w5.cell? ⟨w2.heap.size,5,none⟩=some (.string nd.text)∧(Instr.lookup 103 (.map (some ofb)) (.int .i64 (nd.a:Nat)) false).run prog w5=.ok (.pointer (some ⟨b,0,none⟩)) w5:=⟨aq dW hS.1,aq dW hS.2.1,aq dW hS.2.2.1,Bh.o _ dW⟩;clear h5 dW))
  all_goals
   go_wp2_with fail;exact HG.o
 |none=>
  rw[hu]at b_ eH
  clear hu
  go_region_held (λw'=>w'.cell? ⟨cb,5,none⟩=some (.map (some ofb))∧w'.cell? ⟨w2.heap.size,1,none⟩=some (.int .i64 (nd.a:Nat))∧w'.cell? ⟨w2.heap.size,5,none⟩=some (.string nd.text)∧(Instr.lookup 103 (.map (some ofb)) (.int .i64 (nd.a:Nat)) false).run prog w'=.ok (.pointer (some ⟨b,0,none⟩)) w') (first|exact hS|exact absurd e (by simp))
   ((go_at_call 243;refine b_.o _ (λu q w5 e h5=>?_) (λ_ w' fU=>⟨rfl,eH.o _ w' rfl (cU.o.drew.trans (fU.mono cU.o.drew.size))⟩)))
  all_goals exact absurd e (by simp)
theorem QL(hP:PB wB X.nv X.tv pg)(hb:Below wB.heap.size wB w){id:Nat}{nd:Ty.Nd}(hn:pg.ns[id]?=some nd)(hk:nd.kind=9)(hW:CkW w cb X ofb hasb s h0)(hI:NdW pg nd)(hi:id≤100000)(bZ:fN pg X.a_ s id nd≠.error Ty.stuck){R:EW}
  (aF:∀t q w',fN pg X.a_ s id nd=.ok t→Sat w w' [bE w,de h0 t q]→R (.returned q) w') (av:∀f w',fN pg X.a_ s id nd=.error f→Below w.heap.size w w'→R (.panicked (aJ f)) w'):
  Calls prog 159 #[.pointer (some ⟨cb,0,none⟩),.int .i64 (id:Nat)] w R:=by
 have aY:=qh aF;have eH:=qh av;have eE:=qh (λR=>aR (R:=R) hP hb hn hW.c0 hW.lt);have HW:=qh hW;have HP:=qh hP;have iB:=qh hb;have jJ:=qh hn;have gU:=hW.lt;obtain⟨cy,hex⟩:=gi bZ;have vO:=qh hex;have q_:=qh cy;have HI:=qh hI;have Fh:=qh hk;have hx:fN pg X.a_ s id nd=Ar nd.pos (iZ (tO s.of nd.a) (tO s.of nd.b)):=by rw[hex];unfold lL;simp only[hk];rfl
 have kK:c9 pg nd=[nd.a,nd.b]:=by unfold c9;simp[hk]
 rw[kK]at cy
 have uS:=qh (cu cy (n:=nd.a) (by simp));have F9:=qh (cu cy (n:=nd.b) (by simp));rw[hx]at aY eH
 have e1: (((nd.kind:Nat):Int)==1)=false:=by rw[hk];rfl
 have e2: (((nd.kind:Nat):Int)==2)=false:=by rw[hk];rfl
 have e3: (((nd.kind:Nat):Int)==3)=false:=by rw[hk];rfl
 have e4: (((nd.kind:Nat):Int)==4)=false:=by rw[hk];rfl
 have e5: (((nd.kind:Nat):Int)==5)=false:=by rw[hk];rfl
 have e6: (((nd.kind:Nat):Int)==6)=false:=by rw[hk];rfl
 have e7: (((nd.kind:Nat):Int)==7)=false:=by rw[hk];rfl
 have e8: (((nd.kind:Nat):Int)==8)=false:=by rw[hk];rfl
 have e9: (((nd.kind:Nat):Int)==9)=true:=by rw[hk];rfl
 clear aF av hP hb hn hW bZ cy hex hI hk;go_in;go_wp2_with fail;refine eE.o _ (λlv w2 aI hl=>?_);have HL:=qh hl;obtain⟨la,lc,rfl⟩:=ag hl;unfold aK;have dR:Below w.heap.size w (w2.alloc (aD nd (.slice la nd.list.length lc))):=aI.alloc aI.size _;have h3:=((Sat.fw w).below aI).aj (aD nd (.slice la nd.list.length lc)) w2.heap.size;have x0:=h3.cell 1 rfl 0 rfl;have x1:=h3.cell 1 rfl 1 rfl;have x2:=h3.cell 1 rfl 2 rfl;have x4:=h3.cell 1 rfl 4 rfl;have x5:=h3.cell 1 rfl 5 rfl;have x7:=h3.cell 1 rfl 7 rfl;have cU:=qh dR;have gI:=qh (HW.o.below dR);have gn:=qh (iB.o.trans (dR.mono iB.o.size));clear h3 aI hl dR;go_wp2_with fail;obtain⟨p,bD,hr⟩:=gI.o.gj HI.o.a uS.o;obtain⟨p2,PR,sU⟩:=gI.o.gj HI.o.b F9.o;have wU:=(HW.o.fK.of _ _ uS.o).1.ok;have Te:=(HW.o.fK.of _ _ F9.o).1.ok;obtain⟨b,rfl⟩:=aP hr;obtain⟨b2,rfl⟩:=aP sU;have hS: (w2.alloc (aD nd (.slice la nd.list.length lc))).drew.cell? ⟨cb,5,none⟩=some (.map (some ofb))∧(w2.alloc (aD nd (.slice la nd.list.length lc))).drew.cell? ⟨w2.heap.size,1,none⟩=some (.int .i64 (nd.a:Nat))∧(w2.alloc (aD nd (.slice la nd.list.length lc))).drew.cell? ⟨w2.heap.size,2,none⟩=some (.int .i64 (nd.b:Nat))∧(Instr.lookup 103 (.map (some ofb)) (.int .i64 (nd.a:Nat)) false).run prog (w2.alloc (aD nd (.slice la nd.list.length lc))).drew=.ok (.pointer (some ⟨b,0,none⟩)) (w2.alloc (aD nd (.slice la nd.list.length lc))).drew∧(Instr.lookup 103 (.map (some ofb)) (.int .i64 (nd.b:Nat)) false).run prog (w2.alloc (aD nd (.slice la nd.list.length lc))).drew=.ok (.pointer (some ⟨b2,0,none⟩)) (w2.alloc (aD nd (.slice la nd.list.length lc))).drew:=⟨gI.o.c5,x1,x2,bD _ ((bR _ _).drew),PR _ ((bR _ _).drew)⟩
 have b_:=qh (λR=>sd (R:=R) HP.o (gn.o.drew) jJ.o gI.o.drew hr wU sU Te);have B6:=gI.o.lt;have Bh:=qh (λw5(h:Below (w2.alloc (aD nd (.slice la nd.list.length lc))).drew.heap.size (w2.alloc (aD nd (.slice la nd.list.length lc))).drew w5)=>And.intro (bD w5 ((Below.drew (bR _ _)).trans h)) (PR w5 ((Below.drew (bR _ _)).trans h)));clear hr wU bD sU Te PR;cases hu:iZ (tO s.of nd.a) (tO s.of nd.b)with
 |some u=>
  rw[hu]at b_ aY
  have L0:=qh (λ(R:EW)(h:∀q w',Sat (w2.alloc (aD nd (.slice la nd.list.length lc))).drew w' [bE (w2.alloc (aD nd (.slice la nd.list.length lc))).drew,de h0 u q]→R (.returned q) w')=>b_.o R (λu' q w' e h2=>by cases e;exact h q w' h2) (λe=>by cases e));clear hu b_;go_region_held3(λw'=>w'.cell? ⟨cb,5,none⟩=some (.map (some ofb))∧w'.cell? ⟨w2.heap.size,1,none⟩=some (.int .i64 (nd.a:Nat))∧w'.cell? ⟨w2.heap.size,2,none⟩=some (.int .i64 (nd.b:Nat))∧(Instr.lookup 103 (.map (some ofb)) (.int .i64 (nd.a:Nat)) false).run prog w'=.ok (.pointer (some ⟨b,0,none⟩)) w'∧(Instr.lookup 103 (.map (some ofb)) (.int .i64 (nd.b:Nat)) false).run prog w'=.ok (.pointer (some ⟨b2,0,none⟩)) w') (first|exact hS|exact py)
   ((go_at_call 244;refine L0.o _ (λq w5 h5=>?_);have HG:=qh (aY.o u q w5 rfl (kX cU.o.drew h5));have dW:=h5.aW;have py:=And.intro (aq dW hS.1) (And.intro (aq dW hS.2.1) (And.intro (aq dW hS.2.2.1) (Bh.o _ dW)));clear h5 dW))
  all_goals
   go_wp2_with fail;exact HG.o
 |none=>
  rw[hu]at b_ eH
  clear hu
  go_region_held (λw'=>w'.cell? ⟨cb,5,none⟩=some (.map (some ofb))∧w'.cell? ⟨w2.heap.size,1,none⟩=some (.int .i64 (nd.a:Nat))∧w'.cell? ⟨w2.heap.size,2,none⟩=some (.int .i64 (nd.b:Nat))∧(Instr.lookup 103 (.map (some ofb)) (.int .i64 (nd.a:Nat)) false).run prog w'=.ok (.pointer (some ⟨b,0,none⟩)) w'∧(Instr.lookup 103 (.map (some ofb)) (.int .i64 (nd.b:Nat)) false).run prog w'=.ok (.pointer (some ⟨b2,0,none⟩)) w') (first|exact hS|exact absurd e (by simp))
   ((go_at_call 244;refine b_.o _ (λu q w5 e h5=>?_) (λ_ w' fU=>⟨rfl,eH.o _ w' rfl (cU.o.drew.trans (fU.mono cU.o.drew.size))⟩)))
  all_goals exact absurd e (by simp)
theorem QX(hP:PB wB X.nv X.tv pg)(hb:Below wB.heap.size wB w){id:Nat}{nd:Ty.Nd}(hn:pg.ns[id]?=some nd)(hk:nd.kind=1)(hW:CkW w cb X ofb hasb s h0)(hI:NdW pg nd)(hi:id≤100000)(bZ:fN pg X.a_ s id nd≠.error Ty.stuck){R:EW}
  (aF:∀t q w',fN pg X.a_ s id nd=.ok t→Sat w w' [bE w,de h0 t q]→R (.returned q) w') (av:∀f w',fN pg X.a_ s id nd=.error f→Below w.heap.size w w'→R (.panicked (aJ f)) w'):
  Calls prog 159 #[.pointer (some ⟨cb,0,none⟩),.int .i64 (id:Nat)] w R:=by
 have aY:=qh aF;have eH:=qh av;have eE:=qh (λR=>aR (R:=R) hP hb hn hW.c0 hW.lt);have HW:=qh hW;have HP:=qh hP;have iB:=qh hb;have jJ:=qh hn;have gU:=hW.lt;obtain⟨cy,hex⟩:=gi bZ;have vO:=qh hex;have q_:=qh cy;have HI:=qh hI;have Fh:=qh hk;have hx:fN pg X.a_ s id nd=.ok (jR 1):=by rw[hex];unfold lL;simp only[hk];rfl
 rw[hx]at aY
 have Dr:=qh (λW mb(hm:mb=Array.size (World.heap W))=>tn W hm (k:=1) (c:=1) (by decide) hk);have Ll:=@run_makeMap prog;have e1: (((nd.kind:Nat):Int)==1)=true:=by rw[hk];rfl
 clear aF av hP hb hn hW bZ cy hex hI hk;go_in;go_wp2_with fail;refine eE.o _ (λlv w2 aI hl=>?_);have HL:=qh hl;obtain⟨la,lc,rfl⟩:=ag hl;unfold aK;have dR:Below w.heap.size w (w2.alloc (aD nd (.slice la nd.list.length lc))):=aI.alloc aI.size _;have h3:=((Sat.fw w).below aI).aj (aD nd (.slice la nd.list.length lc)) w2.heap.size;have x0:=h3.cell 1 rfl 0 rfl;have x1:=h3.cell 1 rfl 1 rfl;have x2:=h3.cell 1 rfl 2 rfl;have x4:=h3.cell 1 rfl 4 rfl;have x5:=h3.cell 1 rfl 5 rfl;have x7:=h3.cell 1 rfl 7 rfl;have cU:=qh dR;have gI:=qh (HW.o.below dR);have gn:=qh (iB.o.trans (dR.mono iB.o.size));clear h3 aI hl dR;obtain⟨w5,w6,w7,w8,r1,r2,r3,r4,qN,bD⟩:=Dr.o (w2.alloc (aD nd (.slice la nd.list.length lc))) (w2.heap.size+1) (by simp);have QD:=qh (cU.o.trans (qN.mono cU.o.size));have VG:=aq qN x0;have Ve:=nL (show w2.heap.size<(w2.alloc (aD nd (.slice la nd.list.length lc))).heap.size by simp) qN.size;clear qN;go_wp2_with fail;refine bT _ _ ?_;go_wp2_with fail;exact aY.o _ _ _ rfl (iH QD.o 1 rfl)
theorem QK(hP:PB wB X.nv X.tv pg)(hb:Below wB.heap.size wB w){id:Nat}{nd:Ty.Nd}(hn:pg.ns[id]?=some nd)(hk:nd.kind=2)(hW:CkW w cb X ofb hasb s h0)(hI:NdW pg nd)(hi:id≤100000)(bZ:fN pg X.a_ s id nd≠.error Ty.stuck){R:EW}
  (aF:∀t q w',fN pg X.a_ s id nd=.ok t→Sat w w' [bE w,de h0 t q]→R (.returned q) w') (av:∀f w',fN pg X.a_ s id nd=.error f→Below w.heap.size w w'→R (.panicked (aJ f)) w'):
  Calls prog 159 #[.pointer (some ⟨cb,0,none⟩),.int .i64 (id:Nat)] w R:=by
 have aY:=qh aF;have eH:=qh av;have eE:=qh (λR=>aR (R:=R) hP hb hn hW.c0 hW.lt);have HW:=qh hW;have HP:=qh hP;have iB:=qh hb;have jJ:=qh hn;have gU:=hW.lt;obtain⟨cy,hex⟩:=gi bZ;have vO:=qh hex;have q_:=qh cy;have HI:=qh hI;have Fh:=qh hk;have hx:fN pg X.a_ s id nd=.ok (jR 3):=by rw[hex];unfold lL;simp only[hk];rfl
 rw[hx]at aY
 have Dr:=qh (λW mb(hm:mb=Array.size (World.heap W))=>tn W hm (k:=2) (c:=3) (by decide) hk);have Ll:=@run_makeMap prog;have e1: (((nd.kind:Nat):Int)==1)=false:=by rw[hk];rfl
 have e2: (((nd.kind:Nat):Int)==2)=true:=by rw[hk];rfl
 clear aF av hP hb hn hW bZ cy hex hI hk;go_in;go_wp2_with fail;refine eE.o _ (λlv w2 aI hl=>?_);have HL:=qh hl;obtain⟨la,lc,rfl⟩:=ag hl;unfold aK;have dR:Below w.heap.size w (w2.alloc (aD nd (.slice la nd.list.length lc))):=aI.alloc aI.size _;have h3:=((Sat.fw w).below aI).aj (aD nd (.slice la nd.list.length lc)) w2.heap.size;have x0:=h3.cell 1 rfl 0 rfl;have x1:=h3.cell 1 rfl 1 rfl;have x2:=h3.cell 1 rfl 2 rfl;have x4:=h3.cell 1 rfl 4 rfl;have x5:=h3.cell 1 rfl 5 rfl;have x7:=h3.cell 1 rfl 7 rfl;have cU:=qh dR;have gI:=qh (HW.o.below dR);have gn:=qh (iB.o.trans (dR.mono iB.o.size));clear h3 aI hl dR;obtain⟨w5,w6,w7,w8,r1,r2,r3,r4,qN,bD⟩:=Dr.o (w2.alloc (aD nd (.slice la nd.list.length lc))) (w2.heap.size+1) (by simp);have QD:=qh (cU.o.trans (qN.mono cU.o.size));have VG:=aq qN x0;have Ve:=nL (show w2.heap.size<(w2.alloc (aD nd (.slice la nd.list.length lc))).heap.size by simp) qN.size;clear qN;go_wp2_with fail;refine bT _ _ ?_;go_wp2_with fail;exact aY.o _ _ _ rfl (iH QD.o 3 rfl)
theorem Qu(hP:PB wB X.nv X.tv pg)(hb:Below wB.heap.size wB w){id:Nat}{nd:Ty.Nd}(hn:pg.ns[id]?=some nd)(hk:nd.kind=3)(hW:CkW w cb X ofb hasb s h0)(hI:NdW pg nd)(hi:id≤100000)(bZ:fN pg X.a_ s id nd≠.error Ty.stuck){R:EW}
  (aF:∀t q w',fN pg X.a_ s id nd=.ok t→Sat w w' [bE w,de h0 t q]→R (.returned q) w') (av:∀f w',fN pg X.a_ s id nd=.error f→Below w.heap.size w w'→R (.panicked (aJ f)) w'):
  Calls prog 159 #[.pointer (some ⟨cb,0,none⟩),.int .i64 (id:Nat)] w R:=by
 have aY:=qh aF;have eH:=qh av;have eE:=qh (λR=>aR (R:=R) hP hb hn hW.c0 hW.lt);have HW:=qh hW;have HP:=qh hP;have iB:=qh hb;have jJ:=qh hn;have gU:=hW.lt;obtain⟨cy,hex⟩:=gi bZ;have vO:=qh hex;have q_:=qh cy;have HI:=qh hI;have Fh:=qh hk;have hx:fN pg X.a_ s id nd=.ok (jR 2):=by rw[hex];unfold lL;simp only[hk];rfl
 rw[hx]at aY
 have Dr:=qh (λW mb(hm:mb=Array.size (World.heap W))=>tn W hm (k:=3) (c:=2) (by decide) hk);have Ll:=@run_makeMap prog;have e1: (((nd.kind:Nat):Int)==1)=false:=by rw[hk];rfl
 have e2: (((nd.kind:Nat):Int)==2)=false:=by rw[hk];rfl
 have e3: (((nd.kind:Nat):Int)==3)=true:=by rw[hk];rfl
 clear aF av hP hb hn hW bZ cy hex hI hk;go_in;go_wp2_with fail;refine eE.o _ (λlv w2 aI hl=>?_);have HL:=qh hl;obtain⟨la,lc,rfl⟩:=ag hl;unfold aK;have dR:Below w.heap.size w (w2.alloc (aD nd (.slice la nd.list.length lc))):=aI.alloc aI.size _;have h3:=((Sat.fw w).below aI).aj (aD nd (.slice la nd.list.length lc)) w2.heap.size;have x0:=h3.cell 1 rfl 0 rfl;have x1:=h3.cell 1 rfl 1 rfl;have x2:=h3.cell 1 rfl 2 rfl;have x4:=h3.cell 1 rfl 4 rfl;have x5:=h3.cell 1 rfl 5 rfl;have x7:=h3.cell 1 rfl 7 rfl;have cU:=qh dR;have gI:=qh (HW.o.below dR);have gn:=qh (iB.o.trans (dR.mono iB.o.size));clear h3 aI hl dR;obtain⟨w5,w6,w7,w8,r1,r2,r3,r4,qN,bD⟩:=Dr.o (w2.alloc (aD nd (.slice la nd.list.length lc))) (w2.heap.size+1) (by simp);have QD:=qh (cU.o.trans (qN.mono cU.o.size));have VG:=aq qN x0;have Ve:=nL (show w2.heap.size<(w2.alloc (aD nd (.slice la nd.list.length lc))).heap.size by simp) qN.size;clear qN;go_wp2_with fail;refine bT _ _ ?_;go_wp2_with fail;exact aY.o _ _ _ rfl (iH QD.o 2 rfl)
theorem Pr(hP:PB wB X.nv X.tv pg)(hb:Below wB.heap.size wB w){id:Nat}{nd:Ty.Nd}(hn:pg.ns[id]?=some nd)(hk:nd.kind=4)(hW:CkW w cb X ofb hasb s h0)(hI:NdW pg nd)(hi:id≤100000)(bZ:fN pg X.a_ s id nd≠.error Ty.stuck){R:EW}
  (aF:∀t q w',fN pg X.a_ s id nd=.ok t→Sat w w' [bE w,de h0 t q]→R (.returned q) w') (av:∀f w',fN pg X.a_ s id nd=.error f→Below w.heap.size w w'→R (.panicked (aJ f)) w'):
  Calls prog 159 #[.pointer (some ⟨cb,0,none⟩),.int .i64 (id:Nat)] w R:=by
 have aY:=qh aF;have eH:=qh av;have eE:=qh (λR=>aR (R:=R) hP hb hn hW.c0 hW.lt);have HW:=qh hW;have HP:=qh hP;have iB:=qh hb;have jJ:=qh hn;have gU:=hW.lt;obtain⟨cy,hex⟩:=gi bZ;have vO:=qh hex;have q_:=qh cy;have HI:=qh hI;have Fh:=qh hk;have hx:fN pg X.a_ s id nd=.ok (jR 4):=by rw[hex];unfold lL;simp only[hk];rfl
 rw[hx]at aY
 have Dr:=qh (λW mb(hm:mb=Array.size (World.heap W))=>tn W hm (k:=4) (c:=4) (by decide) hk);have Ll:=@run_makeMap prog;have e1: (((nd.kind:Nat):Int)==1)=false:=by rw[hk];rfl
 have e2: (((nd.kind:Nat):Int)==2)=false:=by rw[hk];rfl
 have e3: (((nd.kind:Nat):Int)==3)=false:=by rw[hk];rfl
 have e4: (((nd.kind:Nat):Int)==4)=true:=by rw[hk];rfl
 clear aF av hP hb hn hW bZ cy hex hI hk;go_in;go_wp2_with fail;refine eE.o _ (λlv w2 aI hl=>?_);have HL:=qh hl;obtain⟨la,lc,rfl⟩:=ag hl;unfold aK;have dR:Below w.heap.size w (w2.alloc (aD nd (.slice la nd.list.length lc))):=aI.alloc aI.size _;have h3:=((Sat.fw w).below aI).aj (aD nd (.slice la nd.list.length lc)) w2.heap.size;have x0:=h3.cell 1 rfl 0 rfl;have x1:=h3.cell 1 rfl 1 rfl;have x2:=h3.cell 1 rfl 2 rfl;have x4:=h3.cell 1 rfl 4 rfl;have x5:=h3.cell 1 rfl 5 rfl;have x7:=h3.cell 1 rfl 7 rfl;have cU:=qh dR;have gI:=qh (HW.o.below dR);have gn:=qh (iB.o.trans (dR.mono iB.o.size));clear h3 aI hl dR;obtain⟨w5,w6,w7,w8,r1,r2,r3,r4,qN,bD⟩:=Dr.o (w2.alloc (aD nd (.slice la nd.list.length lc))) (w2.heap.size+1) (by simp);have QD:=qh (cU.o.trans (qN.mono cU.o.size));have VG:=aq qN x0;have Ve:=nL (show w2.heap.size<(w2.alloc (aD nd (.slice la nd.list.length lc))).heap.size by simp) qN.size;clear qN;go_wp2_with fail;refine bT _ _ ?_;go_wp2_with fail;exact aY.o _ _ _ rfl (iH QD.o 4 rfl)
end
end
end Go.Proofs.YtdlbhiaceheffabGreatDoor
