/- Walk of check: expr, at each kind of node but arrays and objects. (Printed by gen_cke.py.) -/
import Derived.Test.YtdlbhiaceheffabGreatDoorE24
set_option linter.all false
set_option maxRecDepth 100000
set_option maxHeartbeats 4000000
namespace Go.Proofs.YtdlbhiaceheffabGreatDoor
open Go Go.RowKit Ty Tok Prt Tryz Proofs.Tryz
section
open Ty (Tr Ck)
section
variable {wB w:World} {cb ofb hasb:Nat} {X:Cx} {s:Ck} {h0:Prt.Hp} {pg:Ty.Pg}
theorem P7(hP:PB wB X.nv X.tv pg)(hb:Below wB.heap.size wB w){id:Nat}{nd:Nd}(hn:pg.ns[id]?=some nd)(hk:nd.kind=7)(hW:CkW w cb X ofb hasb s h0)(hI:NdW pg nd)(hi:id<=100000)(bT:fD pg X.aK s id nd≠.error Ty.stuck){R:EW}
  (aH:∀t q w',fD pg X.aK s id nd=.ok t->Sat w w' [bG w,db h0 t q]->R (.returned q) w') (au:∀f w',fD pg X.aK s id nd=.error f->Below w.heap.size w w'->R (.panicked (aI f)) w'):
  Calls prog 159 #[.pointer (some ⟨cb,0,none⟩),.int .i64 (id:Nat)] w R:=by
 have aX:=qh aH;have eB:=qh au;have dO:=qh (λR=>aQ (R:=R) hP hb hn hW.c0 hW.lt);have HW:=qh hW;have HP:=qh hP;have iH:=qh hb;have gZ:=qh hn;have gh:=hW.lt;obtain⟨ct,hex⟩:=fX bT;have wm:=qh hex;have rJ:=qh ct;have HI:=qh hI;have Hd:=qh hk;have hx:fD pg X.aK s id nd=AA nd.pos (kh (tO s.of nd.a) (nd.list.map (tO s.of))):=by rw[hex];unfold lQ;simp only[hk];rfl
 have kI:c8 pg nd=nd.a::nd.list:=by unfold c8;rw[if_pos hk]
 rw[kI]at rJ
 rw[hx]at aX eB
 have e1: (((nd.kind:Nat):Int)==1)=false:=by rw[hk];rfl
 have e2: (((nd.kind:Nat):Int)==2)=false:=by rw[hk];rfl
 have e3: (((nd.kind:Nat):Int)==3)=false:=by rw[hk];rfl
 have e4: (((nd.kind:Nat):Int)==4)=false:=by rw[hk];rfl
 have e5: (((nd.kind:Nat):Int)==5)=false:=by rw[hk];rfl
 have e6: (((nd.kind:Nat):Int)==6)=false:=by rw[hk];rfl
 have e7: (((nd.kind:Nat):Int)==7)=true:=by rw[hk];rfl
 clear aH au hP hb hn hW bT ct hex hI hk;go_in;go_wp2_with fail;refine dO.o _ (λlv w2 aD hl=>?_);have HL:=qh hl;obtain⟨la,lc,rfl⟩:=ag hl;unfold aG;have dL:Below w.heap.size w (w2.alloc (az nd (.slice la nd.list.length lc))):=aD.alloc aD.size _;have h3:=((Sat.fO w).below aD).aj (az nd (.slice la nd.list.length lc)) w2.heap.size;have x0:=h3.cell 1 rfl 0 rfl;have x1:=h3.cell 1 rfl 1 rfl;have x2:=h3.cell 1 rfl 2 rfl;have x4:=h3.cell 1 rfl 4 rfl;have x5:=h3.cell 1 rfl 5 rfl;have x7:=h3.cell 1 rfl 7 rfl;have cU:=qh dL;have gD:=qh (HW.o.below dL);have gg:=qh (iH.o.trans (dL.mono iH.o.size));clear h3 aD hl dL;go_wp2_with fail;refine CX HP.o gg.o gZ.o gD.o rJ.o HI.o.a HI.o.l HI.o.len (λu q w' hu h=>?_) (λhu w' ff=>?_)
 ·have HG:=qh (aX.o u q w' (by rw[hu];rfl) (kQ cU.o h));clear hu h;go_wp2_with fail;exact HG.o
 ·exact⟨rfl,eB.o _ w' (by rw[hu];rfl) (cU.o.trans (ff.mono cU.o.size))⟩
theorem L1(hP:PB wB X.nv X.tv pg)(hb:Below wB.heap.size wB w){id:Nat}{nd:Nd}(hn:pg.ns[id]?=some nd)(hk:nd.kind=12)(hW:CkW w cb X ofb hasb s h0)(hI:NdW pg nd)(hi:id<=100000)(bT:fD pg X.aK s id nd≠.error Ty.stuck){R:EW}
  (aH:∀t q w',fD pg X.aK s id nd=.ok t->Sat w w' [bG w,db h0 t q]->R (.returned q) w') (au:∀f w',fD pg X.aK s id nd=.error f->Below w.heap.size w w'->R (.panicked (aI f)) w'):
  Calls prog 159 #[.pointer (some ⟨cb,0,none⟩),.int .i64 (id:Nat)] w R:=by
 have aX:=qh aH;have eB:=qh au;have dO:=qh (λR=>aQ (R:=R) hP hb hn hW.c0 hW.lt);have HW:=qh hW;have HP:=qh hP;have iH:=qh hb;have gZ:=qh hn;have gh:=hW.lt;obtain⟨ct,hex⟩:=fX bT;have wm:=qh hex;have rJ:=qh ct;have HI:=qh hI;have Hd:=qh hk;have hx:fD pg X.aK s id nd=AA nd.pos (nG nd.text (tO s.of nd.a) (tO s.of nd.b)):=by rw[hex];unfold lQ;simp only[hk];rfl
 have kI:c8 pg nd=[nd.a,nd.b]:=by unfold c8;simp[hk]
 rw[kI]at ct
 have qO:=cn ct (n:=nd.a) (by simp);have CW:=cn ct (n:=nd.b) (by simp);have tU:=qh qO;have LC:=qh CW;clear qO CW;rw[hx]at aX eB
 have e1: (((nd.kind:Nat):Int)==1)=false:=by rw[hk];rfl
 have e2: (((nd.kind:Nat):Int)==2)=false:=by rw[hk];rfl
 have e3: (((nd.kind:Nat):Int)==3)=false:=by rw[hk];rfl
 have e4: (((nd.kind:Nat):Int)==4)=false:=by rw[hk];rfl
 have e5: (((nd.kind:Nat):Int)==5)=false:=by rw[hk];rfl
 have e6: (((nd.kind:Nat):Int)==6)=false:=by rw[hk];rfl
 have e7: (((nd.kind:Nat):Int)==7)=false:=by rw[hk];rfl
 have e8: (((nd.kind:Nat):Int)==8)=false:=by rw[hk];rfl
 have e9: (((nd.kind:Nat):Int)==9)=false:=by rw[hk];rfl
 have LN: (((nd.kind:Nat):Int)==11)=false:=by rw[hk];rfl
 have tk: (((nd.kind:Nat):Int)==10)=false:=by rw[hk];rfl
 have NZ: (((nd.kind:Nat):Int)==12)=true:=by rw[hk];rfl
 clear aH au hP hb hn hW bT ct hex hI hk;go_in;go_wp2_with fail;refine dO.o _ (λlv w2 aD hl=>?_);have HL:=qh hl;obtain⟨la,lc,rfl⟩:=ag hl;unfold aG;have dL:Below w.heap.size w (w2.alloc (az nd (.slice la nd.list.length lc))):=aD.alloc aD.size _;have h3:=((Sat.fO w).below aD).aj (az nd (.slice la nd.list.length lc)) w2.heap.size;have x0:=h3.cell 1 rfl 0 rfl;have x1:=h3.cell 1 rfl 1 rfl;have x2:=h3.cell 1 rfl 2 rfl;have x4:=h3.cell 1 rfl 4 rfl;have x5:=h3.cell 1 rfl 5 rfl;have x7:=h3.cell 1 rfl 7 rfl;have cU:=qh dL;have gD:=qh (HW.o.below dL);have gg:=qh (iH.o.trans (dL.mono iH.o.size));clear h3 aD hl dL;go_wp2_with fail;refine Fw HP.o gg.o gZ.o gD.o tU.o LC.o HI.o.a HI.o.b (λu q w' hu h=>?_) (λhu w' ff=>?_)
 ·have HG:=qh (aX.o u q w' (by rw[hu];rfl) (kQ cU.o h));clear hu h;go_wp2_with fail;exact HG.o
 ·exact⟨rfl,eB.o _ w' (by rw[hu];rfl) (cU.o.trans (ff.mono cU.o.size))⟩
theorem MX(hP:PB wB X.nv X.tv pg)(hb:Below wB.heap.size wB w){id:Nat}{nd:Nd}(hn:pg.ns[id]?=some nd)(hk:nd.kind=13)(hW:CkW w cb X ofb hasb s h0)(hI:NdW pg nd)(hi:id<=100000)(bT:fD pg X.aK s id nd≠.error Ty.stuck){R:EW}
  (aH:∀t q w',fD pg X.aK s id nd=.ok t->Sat w w' [bG w,db h0 t q]->R (.returned q) w') (au:∀f w',fD pg X.aK s id nd=.error f->Below w.heap.size w w'->R (.panicked (aI f)) w'):
  Calls prog 159 #[.pointer (some ⟨cb,0,none⟩),.int .i64 (id:Nat)] w R:=by
 have aX:=qh aH;have eB:=qh au;have dO:=qh (λR=>aQ (R:=R) hP hb hn hW.c0 hW.lt);have HW:=qh hW;have HP:=qh hP;have iH:=qh hb;have gZ:=qh hn;have gh:=hW.lt;obtain⟨ct,hex⟩:=fX bT;have wm:=qh hex;have rJ:=qh ct;have HI:=qh hI;have Hd:=qh hk;have hx:fD pg X.aK s id nd=AA nd.pos (v8 nd.text (tO s.of nd.a)):=by rw[hex];unfold lQ;simp only[hk];rfl
 have kI:c8 pg nd=[nd.a]:=by unfold c8;simp[hk]
 rw[kI]at ct
 have tU:=qh (cn ct (n:=nd.a) (by simp));rw[hx]at aX eB
 have e1: (((nd.kind:Nat):Int)==1)=false:=by rw[hk];rfl
 have e2: (((nd.kind:Nat):Int)==2)=false:=by rw[hk];rfl
 have e3: (((nd.kind:Nat):Int)==3)=false:=by rw[hk];rfl
 have e4: (((nd.kind:Nat):Int)==4)=false:=by rw[hk];rfl
 have e5: (((nd.kind:Nat):Int)==5)=false:=by rw[hk];rfl
 have e6: (((nd.kind:Nat):Int)==6)=false:=by rw[hk];rfl
 have e7: (((nd.kind:Nat):Int)==7)=false:=by rw[hk];rfl
 have e8: (((nd.kind:Nat):Int)==8)=false:=by rw[hk];rfl
 have e9: (((nd.kind:Nat):Int)==9)=false:=by rw[hk];rfl
 have LN: (((nd.kind:Nat):Int)==11)=false:=by rw[hk];rfl
 have tk: (((nd.kind:Nat):Int)==10)=false:=by rw[hk];rfl
 have NZ: (((nd.kind:Nat):Int)==12)=false:=by rw[hk];rfl
 have aaC: (((nd.kind:Nat):Int)==13)=true:=by rw[hk];rfl
 clear aH au hP hb hn hW bT ct hex hI hk;go_in;go_wp2_with fail;refine dO.o _ (λlv w2 aD hl=>?_);have HL:=qh hl;obtain⟨la,lc,rfl⟩:=ag hl;unfold aG;have dL:Below w.heap.size w (w2.alloc (az nd (.slice la nd.list.length lc))):=aD.alloc aD.size _;have h3:=((Sat.fO w).below aD).aj (az nd (.slice la nd.list.length lc)) w2.heap.size;have x0:=h3.cell 1 rfl 0 rfl;have x1:=h3.cell 1 rfl 1 rfl;have x2:=h3.cell 1 rfl 2 rfl;have x4:=h3.cell 1 rfl 4 rfl;have x5:=h3.cell 1 rfl 5 rfl;have x7:=h3.cell 1 rfl 7 rfl;have cU:=qh dL;have gD:=qh (HW.o.below dL);have gg:=qh (iH.o.trans (dL.mono iH.o.size));clear h3 aD hl dL;go_wp2_with fail;refine Fz HP.o gg.o gZ.o gD.o tU.o HI.o.a (λu q w' hu h=>?_) (λhu w' ff=>?_)
 ·have HG:=qh (aX.o u q w' (by rw[hu];rfl) (kQ cU.o h));clear hu h;go_wp2_with fail;exact HG.o
 ·exact⟨rfl,eB.o _ w' (by rw[hu];rfl) (cU.o.trans (ff.mono cU.o.size))⟩
theorem Nc(hP:PB wB X.nv X.tv pg)(hb:Below wB.heap.size wB w){id:Nat}{nd:Nd}(hn:pg.ns[id]?=some nd)(hk:nd.kind=14)(hW:CkW w cb X ofb hasb s h0)(hI:NdW pg nd)(hi:id<=100000)(bT:fD pg X.aK s id nd≠.error Ty.stuck){R:EW}
  (aH:∀t q w',fD pg X.aK s id nd=.ok t->Sat w w' [bG w,db h0 t q]->R (.returned q) w') (au:∀f w',fD pg X.aK s id nd=.error f->Below w.heap.size w w'->R (.panicked (aI f)) w'):
  Calls prog 159 #[.pointer (some ⟨cb,0,none⟩),.int .i64 (id:Nat)] w R:=by
 have aX:=qh aH;have eB:=qh au;have dO:=qh (λR=>aQ (R:=R) hP hb hn hW.c0 hW.lt);have HW:=qh hW;have HP:=qh hP;have iH:=qh hb;have gZ:=qh hn;have gh:=hW.lt;obtain⟨ct,hex⟩:=fX bT;have wm:=qh hex;have rJ:=qh ct;have HI:=qh hI;have Hd:=qh hk;have hx:fD pg X.aK s id nd=match dZ pg.ts nd.ty with|none=>.error Ty.stuck|some t=>.ok t:=by rw[hex];unfold lQ;simp only[hk];rfl
 obtain⟨t,ht⟩:∃t,dZ pg.ts nd.ty=some t:=by
  cases hw:dZ pg.ts nd.ty with
  |none=>rw[hx,hw]at bT;exact absurd rfl bT
  |some t=>exact⟨t,rfl⟩
 rw[hx,ht]at aX
 have HT:=qh ht;clear ht hx;have e1: (((nd.kind:Nat):Int)==1)=false:=by rw[hk];rfl
 have e2: (((nd.kind:Nat):Int)==2)=false:=by rw[hk];rfl
 have e3: (((nd.kind:Nat):Int)==3)=false:=by rw[hk];rfl
 have e4: (((nd.kind:Nat):Int)==4)=false:=by rw[hk];rfl
 have e5: (((nd.kind:Nat):Int)==5)=false:=by rw[hk];rfl
 have e6: (((nd.kind:Nat):Int)==6)=false:=by rw[hk];rfl
 have e7: (((nd.kind:Nat):Int)==7)=false:=by rw[hk];rfl
 have e8: (((nd.kind:Nat):Int)==8)=false:=by rw[hk];rfl
 have e9: (((nd.kind:Nat):Int)==9)=false:=by rw[hk];rfl
 have LN: (((nd.kind:Nat):Int)==11)=false:=by rw[hk];rfl
 have tk: (((nd.kind:Nat):Int)==10)=false:=by rw[hk];rfl
 have NZ: (((nd.kind:Nat):Int)==12)=false:=by rw[hk];rfl
 have aaC: (((nd.kind:Nat):Int)==13)=false:=by rw[hk];rfl
 clear aH au hP hb hn hW bT ct hex hI hk;go_in;go_wp2_with fail;refine dO.o _ (λlv w2 aD hl=>?_);have HL:=qh hl;obtain⟨la,lc,rfl⟩:=ag hl;unfold aG;have dL:Below w.heap.size w (w2.alloc (az nd (.slice la nd.list.length lc))):=aD.alloc aD.size _;have h3:=((Sat.fO w).below aD).aj (az nd (.slice la nd.list.length lc)) w2.heap.size;have x0:=h3.cell 1 rfl 0 rfl;have x1:=h3.cell 1 rfl 1 rfl;have x2:=h3.cell 1 rfl 2 rfl;have x4:=h3.cell 1 rfl 4 rfl;have x5:=h3.cell 1 rfl 5 rfl;have x7:=h3.cell 1 rfl 7 rfl;have cU:=qh dL;have gD:=qh (HW.o.below dL);have gg:=qh (iH.o.trans (dL.mono iH.o.size));clear h3 aD hl dL;go_wp2_with fail;refine gT HP.o gg.o gD.o.c1 gD.o.lt HI.o.ty (λv w' h=>?_);rw[HT.o]at h
 have HG:=qh (aX.o t v w' rfl (kQ cU.o (h.cL (i:=1) rfl λ_ ha _ _ mI=>bN mI _ _ ha)));clear h;go_wp2_with fail;exact HG.o
theorem Qg(hP:PB wB X.nv X.tv pg)(hb:Below wB.heap.size wB w){id:Nat}{nd:Nd}(hn:pg.ns[id]?=some nd)(hk:nd.kind=6)(hW:CkW w cb X ofb hasb s h0)(hI:NdW pg nd)(hi:id<=100000)(bT:fD pg X.aK s id nd≠.error Ty.stuck){R:EW}
  (aH:∀t q w',fD pg X.aK s id nd=.ok t->Sat w w' [bG w,db h0 t q]->R (.returned q) w') (au:∀f w',fD pg X.aK s id nd=.error f->Below w.heap.size w w'->R (.panicked (aI f)) w'):
  Calls prog 159 #[.pointer (some ⟨cb,0,none⟩),.int .i64 (id:Nat)] w R:=by
 have aX:=qh aH;have eB:=qh au;have dO:=qh (λR=>aQ (R:=R) hP hb hn hW.c0 hW.lt);have HW:=qh hW;have HP:=qh hP;have iH:=qh hb;have gZ:=qh hn;have gh:=hW.lt;obtain⟨ct,hex⟩:=fX bT;have wm:=qh hex;have rJ:=qh ct;have HI:=qh hI;have Hd:=qh hk;have hx:fD pg X.aK s id nd=.ok (GH pg nd):=by rw[hex];unfold lQ;simp only[hk];rfl
 rw[hx]at aX
 have e1: (((nd.kind:Nat):Int)==1)=false:=by rw[hk];rfl
 have e2: (((nd.kind:Nat):Int)==2)=false:=by rw[hk];rfl
 have e3: (((nd.kind:Nat):Int)==3)=false:=by rw[hk];rfl
 have e4: (((nd.kind:Nat):Int)==4)=false:=by rw[hk];rfl
 have e5: (((nd.kind:Nat):Int)==5)=false:=by rw[hk];rfl
 have e6: (((nd.kind:Nat):Int)==6)=true:=by rw[hk];rfl
 clear aH au hP hb hn hW bT ct hex hI hk;go_in;go_wp2_with fail;refine dO.o _ (λlv w2 aD hl=>?_);have HL:=qh hl;obtain⟨la,lc,rfl⟩:=ag hl;unfold aG;have dL:Below w.heap.size w (w2.alloc (az nd (.slice la nd.list.length lc))):=aD.alloc aD.size _;have h3:=((Sat.fO w).below aD).aj (az nd (.slice la nd.list.length lc)) w2.heap.size;have x0:=h3.cell 1 rfl 0 rfl;have x1:=h3.cell 1 rfl 1 rfl;have x2:=h3.cell 1 rfl 2 rfl;have x4:=h3.cell 1 rfl 4 rfl;have x5:=h3.cell 1 rfl 5 rfl;have x7:=h3.cell 1 rfl 7 rfl;have cU:=qh dL;have gD:=qh (HW.o.below dL);have gg:=qh (iH.o.trans (dL.mono iH.o.size));clear h3 aD hl dL;go_wp2_with fail;refine wH HP.o gg.o gD.o.c0 gD.o.c1 gD.o.lt HL.o HI.o.ps HI.o.ty HI.o.len (λv w' h=>?_);have HG:=qh (aX.o _ v w' rfl (kQ cU.o (h.cL (i:=1) rfl λ_ ha _ _ mI=>bN mI _ _ ha)));clear h;go_wp2_with fail;exact HG.o
theorem Pc(hP:PB wB X.nv X.tv pg)(hb:Below wB.heap.size wB w){id:Nat}{nd:Nd}(hn:pg.ns[id]?=some nd)(hk:nd.kind=5)(hW:CkW w cb X ofb hasb s h0)(hI:NdW pg nd)(hi:id<=100000)(bT:fD pg X.aK s id nd≠.error Ty.stuck){R:EW}
  (aH:∀t q w',fD pg X.aK s id nd=.ok t->Sat w w' [bG w,db h0 t q]->R (.returned q) w') (au:∀f w',fD pg X.aK s id nd=.error f->Below w.heap.size w w'->R (.panicked (aI f)) w'):
  Calls prog 159 #[.pointer (some ⟨cb,0,none⟩),.int .i64 (id:Nat)] w R:=by
 have aX:=qh aH;have eB:=qh au;have dO:=qh (λR=>aQ (R:=R) hP hb hn hW.c0 hW.lt);have HW:=qh hW;have HP:=qh hP;have iH:=qh hb;have gZ:=qh hn;have gh:=hW.lt;obtain⟨ct,hex⟩:=fX bT;have wm:=qh hex;have rJ:=qh ct;have HI:=qh hI;have Hd:=qh hk;have hx:fD pg X.aK s id nd=match s.has (X.aK id)with|none=>.error Ty.stuck|some t=>.ok t:=by rw[hex];unfold lQ;simp only[hk];rfl
 obtain⟨t,ht⟩:∃t,s.has (X.aK id)=some t:=by
  cases hw:s.has (X.aK id)with
  |none=>rw[hx,hw]at bT;exact absurd rfl bT
  |some t=>exact⟨t,rfl⟩
 rw[hx,ht]at aX
 have HT:=qh ht;clear ht hx;have e1: (((nd.kind:Nat):Int)==1)=false:=by rw[hk];rfl
 have e2: (((nd.kind:Nat):Int)==2)=false:=by rw[hk];rfl
 have e3: (((nd.kind:Nat):Int)==3)=false:=by rw[hk];rfl
 have e4: (((nd.kind:Nat):Int)==4)=false:=by rw[hk];rfl
 have e5: (((nd.kind:Nat):Int)==5)=true:=by rw[hk];rfl
 clear aH au hP hb hn hW bT ct hex hI hk;go_in;go_wp2_with fail;refine dO.o _ (λlv w2 aD hl=>?_);have HL:=qh hl;obtain⟨la,lc,rfl⟩:=ag hl;unfold aG;have dL:Below w.heap.size w (w2.alloc (az nd (.slice la nd.list.length lc))):=aD.alloc aD.size _;have h3:=((Sat.fO w).below aD).aj (az nd (.slice la nd.list.length lc)) w2.heap.size;have x0:=h3.cell 1 rfl 0 rfl;have x1:=h3.cell 1 rfl 1 rfl;have x2:=h3.cell 1 rfl 2 rfl;have x4:=h3.cell 1 rfl 4 rfl;have x5:=h3.cell 1 rfl 5 rfl;have x7:=h3.cell 1 rfl 7 rfl;have cU:=qh dL;have gD:=qh (HW.o.below dL);have gg:=qh (iH.o.trans (dL.mono iH.o.size));clear h3 aD hl dL;go_wp2_with fail;have wF:=gD.o.drew.oL hi;obtain⟨p,bu,hr⟩:=gD.o.hasAll wF.2 HT.o;have hS: (w2.alloc (az nd (.slice la nd.list.length lc))).drew.cell? ⟨cb,6,none⟩=some (.map (some hasb))/\(w2.alloc (az nd (.slice la nd.list.length lc))).drew.cell? ⟨cb,3,none⟩=some (.map (some X.nV)):=⟨gD.o.c6,gD.o.c3⟩
 have pM:=wF.1;have cu:=bu _ ((bR _ _).drew);have Df:=gD.o.lt;have HG:=qh (aX.o t p _ rfl (kQ cU.o ((Sat.fO (w2.alloc (az nd (.slice la nd.list.length lc)))).drew.iA λa h hl _=>bN hl _ _ hr)));clear wF bu hr;go_region_held3(λw'=>w'.cell? ⟨cb,6,none⟩=some (.map (some hasb))/\w'.cell? ⟨cb,3,none⟩=some (.map (some X.nV))) (exact hS) (fail)
 all_goals
  go_wp2_with fail;exact HG.o
theorem Pb(hP:PB wB X.nv X.tv pg)(hb:Below wB.heap.size wB w){id:Nat}{nd:Nd}(hn:pg.ns[id]?=some nd)(hk:nd.kind=8)(hW:CkW w cb X ofb hasb s h0)(hI:NdW pg nd)(hi:id<=100000)(bT:fD pg X.aK s id nd≠.error Ty.stuck){R:EW}
  (aH:∀t q w',fD pg X.aK s id nd=.ok t->Sat w w' [bG w,db h0 t q]->R (.returned q) w') (au:∀f w',fD pg X.aK s id nd=.error f->Below w.heap.size w w'->R (.panicked (aI f)) w'):
  Calls prog 159 #[.pointer (some ⟨cb,0,none⟩),.int .i64 (id:Nat)] w R:=by
 have aX:=qh aH;have eB:=qh au;have dO:=qh (λR=>aQ (R:=R) hP hb hn hW.c0 hW.lt);have HW:=qh hW;have HP:=qh hP;have iH:=qh hb;have gZ:=qh hn;have gh:=hW.lt;obtain⟨ct,hex⟩:=fX bT;have wm:=qh hex;have rJ:=qh ct;have HI:=qh hI;have Hd:=qh hk;have hx:fD pg X.aK s id nd=AA nd.pos (o6 (tO s.of nd.a) nd.text):=by rw[hex];unfold lQ;simp only[hk];rfl
 have kI:c8 pg nd=[nd.a]:=by unfold c8;simp[hk]
 rw[kI]at ct
 have tU:=qh (cn ct (n:=nd.a) (by simp));rw[hx]at aX eB
 have e1: (((nd.kind:Nat):Int)==1)=false:=by rw[hk];rfl
 have e2: (((nd.kind:Nat):Int)==2)=false:=by rw[hk];rfl
 have e3: (((nd.kind:Nat):Int)==3)=false:=by rw[hk];rfl
 have e4: (((nd.kind:Nat):Int)==4)=false:=by rw[hk];rfl
 have e5: (((nd.kind:Nat):Int)==5)=false:=by rw[hk];rfl
 have e6: (((nd.kind:Nat):Int)==6)=false:=by rw[hk];rfl
 have e7: (((nd.kind:Nat):Int)==7)=false:=by rw[hk];rfl
 have e8: (((nd.kind:Nat):Int)==8)=true:=by rw[hk];rfl
 clear aH au hP hb hn hW bT ct hex hI hk;go_in;go_wp2_with fail;refine dO.o _ (λlv w2 aD hl=>?_);have HL:=qh hl;obtain⟨la,lc,rfl⟩:=ag hl;unfold aG;have dL:Below w.heap.size w (w2.alloc (az nd (.slice la nd.list.length lc))):=aD.alloc aD.size _;have h3:=((Sat.fO w).below aD).aj (az nd (.slice la nd.list.length lc)) w2.heap.size;have x0:=h3.cell 1 rfl 0 rfl;have x1:=h3.cell 1 rfl 1 rfl;have x2:=h3.cell 1 rfl 2 rfl;have x4:=h3.cell 1 rfl 4 rfl;have x5:=h3.cell 1 rfl 5 rfl;have x7:=h3.cell 1 rfl 7 rfl;have cU:=qh dL;have gD:=qh (HW.o.below dL);have gg:=qh (iH.o.trans (dL.mono iH.o.size));clear h3 aD hl dL;go_wp2_with fail;obtain⟨p,bu,hr⟩:=gD.o.fW HI.o.a tU.o;have xh:=(HW.o.fG.of _ _ tU.o).1.ok;have hS: (w2.alloc (az nd (.slice la nd.list.length lc))).drew.cell? ⟨cb,5,none⟩=some (.map (some ofb))/\(w2.alloc (az nd (.slice la nd.list.length lc))).drew.cell? ⟨w2.heap.size,1,none⟩=some (.int .i64 (nd.a:Nat))/\(w2.alloc (az nd (.slice la nd.list.length lc))).drew.cell? ⟨w2.heap.size,5,none⟩=some (.string nd.text)/\(Instr.lookup 103 (.map (some ofb)) (.int .i64 (nd.a:Nat)) false).run prog (w2.alloc (az nd (.slice la nd.list.length lc))).drew=.ok p (w2.alloc (az nd (.slice la nd.list.length lc))).drew:=⟨gD.o.c5,x1,x5,bu _ ((bR _ _).drew)⟩
 obtain⟨b,rfl⟩:=aS hr;have b_:=qh (λR=>xj (R:=R) HP.o (gg.o.drew) gZ.o gD.o.drew hr xh nd.text);have Df:=gD.o.lt;have zW:=qh (λw5(h:Below (w2.alloc (az nd (.slice la nd.list.length lc))).drew.heap.size (w2.alloc (az nd (.slice la nd.list.length lc))).drew w5)=>bu w5 ((Below.drew (bR _ _)).trans h));clear hr xh bu;cases hu:o6 (tO s.of nd.a) nd.text with
 |some u=>
  rw[hu]at b_ aX
  have FZ:=qh (λ(R:EW)(h:∀q w',Sat (w2.alloc (az nd (.slice la nd.list.length lc))).drew w' [bG (w2.alloc (az nd (.slice la nd.list.length lc))).drew,db h0 u q]->R (.returned q) w')=>b_.o R (λu' q w' e h2=>by cases e;exact h q w' h2) (λe=>by cases e));clear hu b_;go_region_held3(λw'=>w'.cell? ⟨cb,5,none⟩=some (.map (some ofb))/\w'.cell? ⟨w2.heap.size,1,none⟩=some (.int .i64 (nd.a:Nat))/\w'.cell? ⟨w2.heap.size,5,none⟩=some (.string nd.text)/\(Instr.lookup 103 (.map (some ofb)) (.int .i64 (nd.a:Nat)) false).run prog w'=.ok (.pointer (some ⟨b,0,none⟩)) w') (first|exact hS|exact sB)
   ((go_at_call 243;refine FZ.o _ (λq w5 h5=>?_);have HG:=qh (aX.o u q w5 rfl (kQ cU.o.drew h5));have dM:=h5.bD;have sB:w5.cell? ⟨cb,5,none⟩=some (.map (some ofb))/\w5.cell? ⟨w2.heap.size,1,none⟩=some (.int .i64 (nd.a:Nat))/\w5.cell? ⟨w2.heap.size,5,none⟩=some (.string nd.text)/\(Instr.lookup 103 (.map (some ofb)) (.int .i64 (nd.a:Nat)) false).run prog w5=.ok (.pointer (some ⟨b,0,none⟩)) w5:=⟨ak dM hS.1,ak dM hS.2.1,ak dM hS.2.2.1,zW.o _ dM⟩;clear h5 dM))
  all_goals
   go_wp2_with fail;exact HG.o
 |none=>
  rw[hu]at b_ eB
  clear hu
  go_region_held (λw'=>w'.cell? ⟨cb,5,none⟩=some (.map (some ofb))/\w'.cell? ⟨w2.heap.size,1,none⟩=some (.int .i64 (nd.a:Nat))/\w'.cell? ⟨w2.heap.size,5,none⟩=some (.string nd.text)/\(Instr.lookup 103 (.map (some ofb)) (.int .i64 (nd.a:Nat)) false).run prog w'=.ok (.pointer (some ⟨b,0,none⟩)) w') (first|exact hS|exact absurd e (by simp))
   ((go_at_call 243;refine b_.o _ (λu q w5 e h5=>?_) (λ_ w' ff=>⟨rfl,eB.o _ w' rfl (cU.o.drew.trans (ff.mono cU.o.drew.size))⟩)))
  all_goals exact absurd e (by simp)
theorem OW(hP:PB wB X.nv X.tv pg)(hb:Below wB.heap.size wB w){id:Nat}{nd:Nd}(hn:pg.ns[id]?=some nd)(hk:nd.kind=9)(hW:CkW w cb X ofb hasb s h0)(hI:NdW pg nd)(hi:id<=100000)(bT:fD pg X.aK s id nd≠.error Ty.stuck){R:EW}
  (aH:∀t q w',fD pg X.aK s id nd=.ok t->Sat w w' [bG w,db h0 t q]->R (.returned q) w') (au:∀f w',fD pg X.aK s id nd=.error f->Below w.heap.size w w'->R (.panicked (aI f)) w'):
  Calls prog 159 #[.pointer (some ⟨cb,0,none⟩),.int .i64 (id:Nat)] w R:=by
 have aX:=qh aH;have eB:=qh au;have dO:=qh (λR=>aQ (R:=R) hP hb hn hW.c0 hW.lt);have HW:=qh hW;have HP:=qh hP;have iH:=qh hb;have gZ:=qh hn;have gh:=hW.lt;obtain⟨ct,hex⟩:=fX bT;have wm:=qh hex;have rJ:=qh ct;have HI:=qh hI;have Hd:=qh hk;have hx:fD pg X.aK s id nd=AA nd.pos (iT (tO s.of nd.a) (tO s.of nd.b)):=by rw[hex];unfold lQ;simp only[hk];rfl
 have kI:c8 pg nd=[nd.a,nd.b]:=by unfold c8;simp[hk]
 rw[kI]at ct
 have tU:=qh (cn ct (n:=nd.a) (by simp));have LC:=qh (cn ct (n:=nd.b) (by simp));rw[hx]at aX eB
 have e1: (((nd.kind:Nat):Int)==1)=false:=by rw[hk];rfl
 have e2: (((nd.kind:Nat):Int)==2)=false:=by rw[hk];rfl
 have e3: (((nd.kind:Nat):Int)==3)=false:=by rw[hk];rfl
 have e4: (((nd.kind:Nat):Int)==4)=false:=by rw[hk];rfl
 have e5: (((nd.kind:Nat):Int)==5)=false:=by rw[hk];rfl
 have e6: (((nd.kind:Nat):Int)==6)=false:=by rw[hk];rfl
 have e7: (((nd.kind:Nat):Int)==7)=false:=by rw[hk];rfl
 have e8: (((nd.kind:Nat):Int)==8)=false:=by rw[hk];rfl
 have e9: (((nd.kind:Nat):Int)==9)=true:=by rw[hk];rfl
 clear aH au hP hb hn hW bT ct hex hI hk;go_in;go_wp2_with fail;refine dO.o _ (λlv w2 aD hl=>?_);have HL:=qh hl;obtain⟨la,lc,rfl⟩:=ag hl;unfold aG;have dL:Below w.heap.size w (w2.alloc (az nd (.slice la nd.list.length lc))):=aD.alloc aD.size _;have h3:=((Sat.fO w).below aD).aj (az nd (.slice la nd.list.length lc)) w2.heap.size;have x0:=h3.cell 1 rfl 0 rfl;have x1:=h3.cell 1 rfl 1 rfl;have x2:=h3.cell 1 rfl 2 rfl;have x4:=h3.cell 1 rfl 4 rfl;have x5:=h3.cell 1 rfl 5 rfl;have x7:=h3.cell 1 rfl 7 rfl;have cU:=qh dL;have gD:=qh (HW.o.below dL);have gg:=qh (iH.o.trans (dL.mono iH.o.size));clear h3 aD hl dL;go_wp2_with fail;obtain⟨p,bu,hr⟩:=gD.o.fW HI.o.a tU.o;obtain⟨p2,PL,zq⟩:=gD.o.fW HI.o.b LC.o;have xh:=(HW.o.fG.of _ _ tU.o).1.ok;have Rx:=(HW.o.fG.of _ _ LC.o).1.ok;obtain⟨b,rfl⟩:=aS hr;obtain⟨b2,rfl⟩:=aS zq;have hS: (w2.alloc (az nd (.slice la nd.list.length lc))).drew.cell? ⟨cb,5,none⟩=some (.map (some ofb))/\(w2.alloc (az nd (.slice la nd.list.length lc))).drew.cell? ⟨w2.heap.size,1,none⟩=some (.int .i64 (nd.a:Nat))/\(w2.alloc (az nd (.slice la nd.list.length lc))).drew.cell? ⟨w2.heap.size,2,none⟩=some (.int .i64 (nd.b:Nat))/\(Instr.lookup 103 (.map (some ofb)) (.int .i64 (nd.a:Nat)) false).run prog (w2.alloc (az nd (.slice la nd.list.length lc))).drew=.ok (.pointer (some ⟨b,0,none⟩)) (w2.alloc (az nd (.slice la nd.list.length lc))).drew/\(Instr.lookup 103 (.map (some ofb)) (.int .i64 (nd.b:Nat)) false).run prog (w2.alloc (az nd (.slice la nd.list.length lc))).drew=.ok (.pointer (some ⟨b2,0,none⟩)) (w2.alloc (az nd (.slice la nd.list.length lc))).drew:=⟨gD.o.c5,x1,x2,bu _ ((bR _ _).drew),PL _ ((bR _ _).drew)⟩
 have b_:=qh (λR=>r8 (R:=R) HP.o (gg.o.drew) gZ.o gD.o.drew hr xh zq Rx);have Df:=gD.o.lt;have zW:=qh (λw5(h:Below (w2.alloc (az nd (.slice la nd.list.length lc))).drew.heap.size (w2.alloc (az nd (.slice la nd.list.length lc))).drew w5)=>And.intro (bu w5 ((Below.drew (bR _ _)).trans h)) (PL w5 ((Below.drew (bR _ _)).trans h)));clear hr xh bu zq Rx PL;cases hu:iT (tO s.of nd.a) (tO s.of nd.b)with
 |some u=>
  rw[hu]at b_ aX
  have FZ:=qh (λ(R:EW)(h:∀q w',Sat (w2.alloc (az nd (.slice la nd.list.length lc))).drew w' [bG (w2.alloc (az nd (.slice la nd.list.length lc))).drew,db h0 u q]->R (.returned q) w')=>b_.o R (λu' q w' e h2=>by cases e;exact h q w' h2) (λe=>by cases e));clear hu b_;go_region_held3(λw'=>w'.cell? ⟨cb,5,none⟩=some (.map (some ofb))/\w'.cell? ⟨w2.heap.size,1,none⟩=some (.int .i64 (nd.a:Nat))/\w'.cell? ⟨w2.heap.size,2,none⟩=some (.int .i64 (nd.b:Nat))/\(Instr.lookup 103 (.map (some ofb)) (.int .i64 (nd.a:Nat)) false).run prog w'=.ok (.pointer (some ⟨b,0,none⟩)) w'/\(Instr.lookup 103 (.map (some ofb)) (.int .i64 (nd.b:Nat)) false).run prog w'=.ok (.pointer (some ⟨b2,0,none⟩)) w') (first|exact hS|exact sB)
   ((go_at_call 244;refine FZ.o _ (λq w5 h5=>?_);have HG:=qh (aX.o u q w5 rfl (kQ cU.o.drew h5));have dM:=h5.bD;have sB:=And.intro (ak dM hS.1) (And.intro (ak dM hS.2.1) (And.intro (ak dM hS.2.2.1) (zW.o _ dM)));clear h5 dM))
  all_goals
   go_wp2_with fail;exact HG.o
 |none=>
  rw[hu]at b_ eB
  clear hu
  go_region_held (λw'=>w'.cell? ⟨cb,5,none⟩=some (.map (some ofb))/\w'.cell? ⟨w2.heap.size,1,none⟩=some (.int .i64 (nd.a:Nat))/\w'.cell? ⟨w2.heap.size,2,none⟩=some (.int .i64 (nd.b:Nat))/\(Instr.lookup 103 (.map (some ofb)) (.int .i64 (nd.a:Nat)) false).run prog w'=.ok (.pointer (some ⟨b,0,none⟩)) w'/\(Instr.lookup 103 (.map (some ofb)) (.int .i64 (nd.b:Nat)) false).run prog w'=.ok (.pointer (some ⟨b2,0,none⟩)) w') (first|exact hS|exact absurd e (by simp))
   ((go_at_call 244;refine b_.o _ (λu q w5 e h5=>?_) (λ_ w' ff=>⟨rfl,eB.o _ w' rfl (cU.o.drew.trans (ff.mono cU.o.drew.size))⟩)))
  all_goals exact absurd e (by simp)
theorem Pj(hP:PB wB X.nv X.tv pg)(hb:Below wB.heap.size wB w){id:Nat}{nd:Nd}(hn:pg.ns[id]?=some nd)(hk:nd.kind=1)(hW:CkW w cb X ofb hasb s h0)(hI:NdW pg nd)(hi:id<=100000)(bT:fD pg X.aK s id nd≠.error Ty.stuck){R:EW}
  (aH:∀t q w',fD pg X.aK s id nd=.ok t->Sat w w' [bG w,db h0 t q]->R (.returned q) w') (au:∀f w',fD pg X.aK s id nd=.error f->Below w.heap.size w w'->R (.panicked (aI f)) w'):
  Calls prog 159 #[.pointer (some ⟨cb,0,none⟩),.int .i64 (id:Nat)] w R:=by
 have aX:=qh aH;have eB:=qh au;have dO:=qh (λR=>aQ (R:=R) hP hb hn hW.c0 hW.lt);have HW:=qh hW;have HP:=qh hP;have iH:=qh hb;have gZ:=qh hn;have gh:=hW.lt;obtain⟨ct,hex⟩:=fX bT;have wm:=qh hex;have rJ:=qh ct;have HI:=qh hI;have Hd:=qh hk;have hx:fD pg X.aK s id nd=.ok (jL 1):=by rw[hex];unfold lQ;simp only[hk];rfl
 rw[hx]at aX
 have Da:=qh (λW mb(hm:mb=Array.size (World.heap W))=>s_ W hm (k:=1) (c:=1) (by decide) hk);have Hv:=@run_makeMap prog;have e1: (((nd.kind:Nat):Int)==1)=true:=by rw[hk];rfl
 clear aH au hP hb hn hW bT ct hex hI hk;go_in;go_wp2_with fail;refine dO.o _ (λlv w2 aD hl=>?_);have HL:=qh hl;obtain⟨la,lc,rfl⟩:=ag hl;unfold aG;have dL:Below w.heap.size w (w2.alloc (az nd (.slice la nd.list.length lc))):=aD.alloc aD.size _;have h3:=((Sat.fO w).below aD).aj (az nd (.slice la nd.list.length lc)) w2.heap.size;have x0:=h3.cell 1 rfl 0 rfl;have x1:=h3.cell 1 rfl 1 rfl;have x2:=h3.cell 1 rfl 2 rfl;have x4:=h3.cell 1 rfl 4 rfl;have x5:=h3.cell 1 rfl 5 rfl;have x7:=h3.cell 1 rfl 7 rfl;have cU:=qh dL;have gD:=qh (HW.o.below dL);have gg:=qh (iH.o.trans (dL.mono iH.o.size));clear h3 aD hl dL;obtain⟨w5,w6,w7,w8,r1,r2,r3,r4,rj,bu⟩:=Da.o (w2.alloc (az nd (.slice la nd.list.length lc))) (w2.heap.size+1) (by simp);have QB:=qh (cU.o.trans (rj.mono cU.o.size));have Wq:=ak rj x0;have WU:=nL (show w2.heap.size<(w2.alloc (az nd (.slice la nd.list.length lc))).heap.size by simp) rj.size;clear rj;go_wp2_with fail;refine bU _ _ ?_;go_wp2_with fail;exact aX.o _ _ _ rfl (iB QB.o 1 rfl)
theorem Pv(hP:PB wB X.nv X.tv pg)(hb:Below wB.heap.size wB w){id:Nat}{nd:Nd}(hn:pg.ns[id]?=some nd)(hk:nd.kind=2)(hW:CkW w cb X ofb hasb s h0)(hI:NdW pg nd)(hi:id<=100000)(bT:fD pg X.aK s id nd≠.error Ty.stuck){R:EW}
  (aH:∀t q w',fD pg X.aK s id nd=.ok t->Sat w w' [bG w,db h0 t q]->R (.returned q) w') (au:∀f w',fD pg X.aK s id nd=.error f->Below w.heap.size w w'->R (.panicked (aI f)) w'):
  Calls prog 159 #[.pointer (some ⟨cb,0,none⟩),.int .i64 (id:Nat)] w R:=by
 have aX:=qh aH;have eB:=qh au;have dO:=qh (λR=>aQ (R:=R) hP hb hn hW.c0 hW.lt);have HW:=qh hW;have HP:=qh hP;have iH:=qh hb;have gZ:=qh hn;have gh:=hW.lt;obtain⟨ct,hex⟩:=fX bT;have wm:=qh hex;have rJ:=qh ct;have HI:=qh hI;have Hd:=qh hk;have hx:fD pg X.aK s id nd=.ok (jL 3):=by rw[hex];unfold lQ;simp only[hk];rfl
 rw[hx]at aX
 have Da:=qh (λW mb(hm:mb=Array.size (World.heap W))=>s_ W hm (k:=2) (c:=3) (by decide) hk);have Hv:=@run_makeMap prog;have e1: (((nd.kind:Nat):Int)==1)=false:=by rw[hk];rfl
 have e2: (((nd.kind:Nat):Int)==2)=true:=by rw[hk];rfl
 clear aH au hP hb hn hW bT ct hex hI hk;go_in;go_wp2_with fail;refine dO.o _ (λlv w2 aD hl=>?_);have HL:=qh hl;obtain⟨la,lc,rfl⟩:=ag hl;unfold aG;have dL:Below w.heap.size w (w2.alloc (az nd (.slice la nd.list.length lc))):=aD.alloc aD.size _;have h3:=((Sat.fO w).below aD).aj (az nd (.slice la nd.list.length lc)) w2.heap.size;have x0:=h3.cell 1 rfl 0 rfl;have x1:=h3.cell 1 rfl 1 rfl;have x2:=h3.cell 1 rfl 2 rfl;have x4:=h3.cell 1 rfl 4 rfl;have x5:=h3.cell 1 rfl 5 rfl;have x7:=h3.cell 1 rfl 7 rfl;have cU:=qh dL;have gD:=qh (HW.o.below dL);have gg:=qh (iH.o.trans (dL.mono iH.o.size));clear h3 aD hl dL;obtain⟨w5,w6,w7,w8,r1,r2,r3,r4,rj,bu⟩:=Da.o (w2.alloc (az nd (.slice la nd.list.length lc))) (w2.heap.size+1) (by simp);have QB:=qh (cU.o.trans (rj.mono cU.o.size));have Wq:=ak rj x0;have WU:=nL (show w2.heap.size<(w2.alloc (az nd (.slice la nd.list.length lc))).heap.size by simp) rj.size;clear rj;go_wp2_with fail;refine bU _ _ ?_;go_wp2_with fail;exact aX.o _ _ _ rfl (iB QB.o 3 rfl)
theorem Qo(hP:PB wB X.nv X.tv pg)(hb:Below wB.heap.size wB w){id:Nat}{nd:Nd}(hn:pg.ns[id]?=some nd)(hk:nd.kind=3)(hW:CkW w cb X ofb hasb s h0)(hI:NdW pg nd)(hi:id<=100000)(bT:fD pg X.aK s id nd≠.error Ty.stuck){R:EW}
  (aH:∀t q w',fD pg X.aK s id nd=.ok t->Sat w w' [bG w,db h0 t q]->R (.returned q) w') (au:∀f w',fD pg X.aK s id nd=.error f->Below w.heap.size w w'->R (.panicked (aI f)) w'):
  Calls prog 159 #[.pointer (some ⟨cb,0,none⟩),.int .i64 (id:Nat)] w R:=by
 have aX:=qh aH;have eB:=qh au;have dO:=qh (λR=>aQ (R:=R) hP hb hn hW.c0 hW.lt);have HW:=qh hW;have HP:=qh hP;have iH:=qh hb;have gZ:=qh hn;have gh:=hW.lt;obtain⟨ct,hex⟩:=fX bT;have wm:=qh hex;have rJ:=qh ct;have HI:=qh hI;have Hd:=qh hk;have hx:fD pg X.aK s id nd=.ok (jL 2):=by rw[hex];unfold lQ;simp only[hk];rfl
 rw[hx]at aX
 have Da:=qh (λW mb(hm:mb=Array.size (World.heap W))=>s_ W hm (k:=3) (c:=2) (by decide) hk);have Hv:=@run_makeMap prog;have e1: (((nd.kind:Nat):Int)==1)=false:=by rw[hk];rfl
 have e2: (((nd.kind:Nat):Int)==2)=false:=by rw[hk];rfl
 have e3: (((nd.kind:Nat):Int)==3)=true:=by rw[hk];rfl
 clear aH au hP hb hn hW bT ct hex hI hk;go_in;go_wp2_with fail;refine dO.o _ (λlv w2 aD hl=>?_);have HL:=qh hl;obtain⟨la,lc,rfl⟩:=ag hl;unfold aG;have dL:Below w.heap.size w (w2.alloc (az nd (.slice la nd.list.length lc))):=aD.alloc aD.size _;have h3:=((Sat.fO w).below aD).aj (az nd (.slice la nd.list.length lc)) w2.heap.size;have x0:=h3.cell 1 rfl 0 rfl;have x1:=h3.cell 1 rfl 1 rfl;have x2:=h3.cell 1 rfl 2 rfl;have x4:=h3.cell 1 rfl 4 rfl;have x5:=h3.cell 1 rfl 5 rfl;have x7:=h3.cell 1 rfl 7 rfl;have cU:=qh dL;have gD:=qh (HW.o.below dL);have gg:=qh (iH.o.trans (dL.mono iH.o.size));clear h3 aD hl dL;obtain⟨w5,w6,w7,w8,r1,r2,r3,r4,rj,bu⟩:=Da.o (w2.alloc (az nd (.slice la nd.list.length lc))) (w2.heap.size+1) (by simp);have QB:=qh (cU.o.trans (rj.mono cU.o.size));have Wq:=ak rj x0;have WU:=nL (show w2.heap.size<(w2.alloc (az nd (.slice la nd.list.length lc))).heap.size by simp) rj.size;clear rj;go_wp2_with fail;refine bU _ _ ?_;go_wp2_with fail;exact aX.o _ _ _ rfl (iB QB.o 2 rfl)
theorem O0(hP:PB wB X.nv X.tv pg)(hb:Below wB.heap.size wB w){id:Nat}{nd:Nd}(hn:pg.ns[id]?=some nd)(hk:nd.kind=4)(hW:CkW w cb X ofb hasb s h0)(hI:NdW pg nd)(hi:id<=100000)(bT:fD pg X.aK s id nd≠.error Ty.stuck){R:EW}
  (aH:∀t q w',fD pg X.aK s id nd=.ok t->Sat w w' [bG w,db h0 t q]->R (.returned q) w') (au:∀f w',fD pg X.aK s id nd=.error f->Below w.heap.size w w'->R (.panicked (aI f)) w'):
  Calls prog 159 #[.pointer (some ⟨cb,0,none⟩),.int .i64 (id:Nat)] w R:=by
 have aX:=qh aH;have eB:=qh au;have dO:=qh (λR=>aQ (R:=R) hP hb hn hW.c0 hW.lt);have HW:=qh hW;have HP:=qh hP;have iH:=qh hb;have gZ:=qh hn;have gh:=hW.lt;obtain⟨ct,hex⟩:=fX bT;have wm:=qh hex;have rJ:=qh ct;have HI:=qh hI;have Hd:=qh hk;have hx:fD pg X.aK s id nd=.ok (jL 4):=by rw[hex];unfold lQ;simp only[hk];rfl
 rw[hx]at aX
 have Da:=qh (λW mb(hm:mb=Array.size (World.heap W))=>s_ W hm (k:=4) (c:=4) (by decide) hk);have Hv:=@run_makeMap prog;have e1: (((nd.kind:Nat):Int)==1)=false:=by rw[hk];rfl
 have e2: (((nd.kind:Nat):Int)==2)=false:=by rw[hk];rfl
 have e3: (((nd.kind:Nat):Int)==3)=false:=by rw[hk];rfl
 have e4: (((nd.kind:Nat):Int)==4)=true:=by rw[hk];rfl
 clear aH au hP hb hn hW bT ct hex hI hk;go_in;go_wp2_with fail;refine dO.o _ (λlv w2 aD hl=>?_);have HL:=qh hl;obtain⟨la,lc,rfl⟩:=ag hl;unfold aG;have dL:Below w.heap.size w (w2.alloc (az nd (.slice la nd.list.length lc))):=aD.alloc aD.size _;have h3:=((Sat.fO w).below aD).aj (az nd (.slice la nd.list.length lc)) w2.heap.size;have x0:=h3.cell 1 rfl 0 rfl;have x1:=h3.cell 1 rfl 1 rfl;have x2:=h3.cell 1 rfl 2 rfl;have x4:=h3.cell 1 rfl 4 rfl;have x5:=h3.cell 1 rfl 5 rfl;have x7:=h3.cell 1 rfl 7 rfl;have cU:=qh dL;have gD:=qh (HW.o.below dL);have gg:=qh (iH.o.trans (dL.mono iH.o.size));clear h3 aD hl dL;obtain⟨w5,w6,w7,w8,r1,r2,r3,r4,rj,bu⟩:=Da.o (w2.alloc (az nd (.slice la nd.list.length lc))) (w2.heap.size+1) (by simp);have QB:=qh (cU.o.trans (rj.mono cU.o.size));have Wq:=ak rj x0;have WU:=nL (show w2.heap.size<(w2.alloc (az nd (.slice la nd.list.length lc))).heap.size by simp) rj.size;clear rj;go_wp2_with fail;refine bU _ _ ?_;go_wp2_with fail;exact aX.o _ _ _ rfl (iB QB.o 4 rfl)
end
end
end Go.Proofs.YtdlbhiaceheffabGreatDoor
