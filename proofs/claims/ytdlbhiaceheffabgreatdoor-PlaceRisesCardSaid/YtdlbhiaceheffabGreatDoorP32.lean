/- Walk of place: own, at each kind of node. (Printed by gen_pl5.py.) -/
import Derived.Test.YtdlbhiaceheffabGreatDoorP31
set_option linter.all false
set_option maxRecDepth 100000
set_option maxHeartbeats 4000000
namespace Go.Proofs.YtdlbhiaceheffabGreatDoor
open Go Go.RowKit Ty Tok ak Tryz Proofs.Tryz
section
open Ty (Tr Ck lD)
structure PlN(wB:World)(X:Cx)(pg:Ty.Pg)(cb ofb hasb:Nat)(s:Ck)(h0:ak.Hp)(id:Nat)(nd:Ty.Nd)(lv:Value):Prop where
 P:PB wB X.nv X.tv pg
 W:CkW wB cb X ofb hasb s h0
 Q:NdQ pg X.a_ s id nd
 id:id≤100000
 ty:AJ nd.ty pg.ts
 row:wB.ownsRow 0 3 1 lv nd.list.length (nd.list.map aS)
 len:nd.list.length≤1200
theorem EV{o:Option Tr}{v:Value}{a h:ak.Hp}(g:P8 o v a)(hl:ak.le a h):N_ h o v:=by
 cases o with
 |none=>exact g
 |some t=>exact bL hl _ _ g
theorem PlN.kx{wB:World}{X:Cx}{pg:Ty.Pg}{cb ofb hasb:Nat}{s:Ck}{h0:ak.Hp}{id:Nat}{nd:Ty.Nd}{lv:Value}(h:PlN wB X pg cb ofb hasb s h0 id nd lv){n:Nat}(hn:n∈c9 pg nd++dx nd):n≤100000∧s.of n=some (tO s.of n):=by
 have h1:=h.Q.lt n hn;have h2:=h.id;refine⟨by omega,?_⟩;rcases List.mem_append.1 hn with hn|hn
 ·exact cu h.Q.kx hn
 ·exact cu h.Q.ky hn
section
variable {wB w:World} {Fr:As} {pb cb ofb hasb:Nat} {o:lD} {bk:List (Option Tr)} {X:Cx} {s:Ck} {h0:ak.Hp} {pg:Ty.Pg} {ov bv:Value} {bl:List Value} {h1:ak.Hp}
theorem A9(hF:jH wB Fr){id:Nat}{nd:Ty.Nd}{lv:Value}(h:PlN wB X pg cb ofb hasb s h0 id nd lv)(hk:nd.kind≠7∧nd.kind≠8∧nd.kind≠9∧nd.kind≠14∧nd.kind≠17∧nd.kind≠18∧nd.kind≠19∧nd.kind≠20∧nd.kind≠24)(H:Sat wB w (Fr::fA pb cb ov bv o bl h1))(hc:o.length+(dv pg X.a_ s id nd bk).length≤100000){R:EW}
  (hR:∀eI w',Sat wB w' (Fr::fA pb cb eI bv (o++dv pg X.a_ s id nd bk) bl h1)→R (.returned (.tuple #[])) w'):
  Calls prog 166 #[.pointer (some ⟨pb,0,none⟩),.int .i64 (id:Nat),aK nd lv] w R:=by
 obtain⟨la,lc,rfl⟩:=ag h.row;have hx:dv pg X.a_ s id nd bk=[]:=by unfold dv;rw[if_neg (by omega)];rw[if_neg (by omega)];rw[if_neg (by omega)];rw[if_neg (by omega)];rw[if_neg (by omega)];rw[if_neg (by omega)];rw[if_neg (by omega)];rw[if_neg (by omega)]
 rw[hx]at hR hc
 have ho:o.length≤100000:=nT (Nat.le_add_right _ _) hc;have h3:Sat wB (w.alloc (aD nd (.slice la nd.list.length lc))) (ah [Fr,ay w.heap.size (aD nd (.slice la nd.list.length lc))]::fA pb cb ov bv o bl h1):=(Sat.pack (L:=fA pb cb ov bv o bl h1) (M:=[Fr,ay w.heap.size (aD nd (.slice la nd.list.length lc))]) ((H.aj (aD nd (.slice la nd.list.length lc)) w.heap.size).pick [1,2,3,4,0,5])).pick [4,0,1,2,3];have iP:jH wB (ah [Fr,ay w.heap.size (aD nd (.slice la nd.list.length lc))]):=hF.ah (M:=[ay w.heap.size (aD nd (.slice la nd.list.length lc))]);have fX:=h.W.below (iP _ _ 0 h3 rfl);have h4:=h3.unpack (i:=0) rfl;have x0:=h4.cell 5 rfl 0 rfl;have p0:=h3.cell 1 rfl 0 rfl;have jS:=h3.lt 1 rfl;have c5:=fX.c5;have gU:=fX.lt;have tE:=qh (λeI w'(g:Sat wB w' (ah [Fr,ay w.heap.size (aD nd (.slice la nd.list.length lc))]::fA pb cb eI bv (o++([])) bl h1))=>hR eI w' ((g.unpack (i:=0) rfl).pick [4,0,1,2,3]));have HG:=qh (tE.o ov _ (by rw[List.append_nil];exact h3));have e7: (((nd.kind:Nat):Int)==7)=false:=by simp;omega
 have e8: (((nd.kind:Nat):Int)==8)=false:=by simp;omega
 have e9: (((nd.kind:Nat):Int)==9)=false:=by simp;omega
 have QH: (((nd.kind:Nat):Int)==14)=false:=by simp;omega
 have Ho: (((nd.kind:Nat):Int)==17)=false:=by simp;omega
 have Lk: (((nd.kind:Nat):Int)==18)=false:=by simp;omega
 have Of: (((nd.kind:Nat):Int)==19)=false:=by simp;omega
 have MO: (((nd.kind:Nat):Int)==20)=false:=by simp;omega
 have Wa: (((nd.kind:Nat):Int)==24)=false:=by simp;omega
 clear hR hF iP fX h4 h3 H hx hc h hk;go_in;unfold aK;go_wp2_with fail;go_end0;exact HG.o
theorem MQ(hF:jH wB Fr){id:Nat}{nd:Ty.Nd}{lv:Value}(h:PlN wB X pg cb ofb hasb s h0 id nd lv)(hk:nd.kind=8)(H:Sat wB w (Fr::fA pb cb ov bv o bl h1))(hc:o.length+(dv pg X.a_ s id nd bk).length≤100000){R:EW}
  (hR:∀eI w',Sat wB w' (Fr::fA pb cb eI bv (o++dv pg X.a_ s id nd bk) bl h1)→R (.returned (.tuple #[])) w'):
  Calls prog 166 #[.pointer (some ⟨pb,0,none⟩),.int .i64 (id:Nat),aK nd lv] w R:=by
 obtain⟨la,lc,rfl⟩:=ag h.row;have hx:dv pg X.a_ s id nd bk=rR id (tO s.of id):=by unfold dv;rw[if_neg (by omega)];rw[if_pos (by omega)]
 rw[hx]at hR hc
 have ho:o.length≤100000:=nT (Nat.le_add_right _ _) hc;have h3:Sat wB (w.alloc (aD nd (.slice la nd.list.length lc))) (ah [Fr,ay w.heap.size (aD nd (.slice la nd.list.length lc))]::fA pb cb ov bv o bl h1):=(Sat.pack (L:=fA pb cb ov bv o bl h1) (M:=[Fr,ay w.heap.size (aD nd (.slice la nd.list.length lc))]) ((H.aj (aD nd (.slice la nd.list.length lc)) w.heap.size).pick [1,2,3,4,0,5])).pick [4,0,1,2,3];have iP:jH wB (ah [Fr,ay w.heap.size (aD nd (.slice la nd.list.length lc))]):=hF.ah (M:=[ay w.heap.size (aD nd (.slice la nd.list.length lc))]);have fX:=h.W.below (iP _ _ 0 h3 rfl);have h4:=h3.unpack (i:=0) rfl;have x0:=h4.cell 5 rfl 0 rfl;have p0:=h3.cell 1 rfl 0 rfl;have jS:=h3.lt 1 rfl;have c5:=fX.c5;have gU:=fX.lt;have tE:=qh (λeI w'(g:Sat wB w' (ah [Fr,ay w.heap.size (aD nd (.slice la nd.list.length lc))]::fA pb cb eI bv (o++(rR id (tO s.of id))) bl h1))=>hR eI w' ((g.unpack (i:=0) rfl).pick [4,0,1,2,3]));have hs:=h.Q.of (by omega) (by omega);have fV:s.of id=some (tO s.of id):=by
  unfold tO;cases hq:s.of id with
  |none=>rw[hq]at hs;cases hs
  |some u=>rfl
 obtain⟨p,bD,hr⟩:=fX.FI h.id fV;have HG:=qh (λR=>ig (R:=R) (n:=id) h3 (bL fX.le _ _ hr) (h.W.fK.of _ _ fV).1 ho);obtain⟨b,rfl⟩:=aP hr;clear hs fV hr;have e7: (((nd.kind:Nat):Int)==7)=false:=by rw[hk];rfl
 have e8: (((nd.kind:Nat):Int)==8)=true:=by rw[hk];rfl
 clear hR hF iP fX h4 h3 H hx hc h hk;go_in;unfold aK;go_wp2_with fail;refine HG.o _ (λsQ w5 h5=>?_);have Xb:=qh (tE.o sQ w5 h5);clear h5;go_wp2_with fail;go_end0;exact Xb.o
theorem Ml(hF:jH wB Fr){id:Nat}{nd:Ty.Nd}{lv:Value}(h:PlN wB X pg cb ofb hasb s h0 id nd lv)(hk:nd.kind=9)(H:Sat wB w (Fr::fA pb cb ov bv o bl h1))(hc:o.length+(dv pg X.a_ s id nd bk).length≤100000){R:EW}
  (hR:∀eI w',Sat wB w' (Fr::fA pb cb eI bv (o++dv pg X.a_ s id nd bk) bl h1)→R (.returned (.tuple #[])) w'):
  Calls prog 166 #[.pointer (some ⟨pb,0,none⟩),.int .i64 (id:Nat),aK nd lv] w R:=by
 obtain⟨la,lc,rfl⟩:=ag h.row;have hx:dv pg X.a_ s id nd bk=rR id (tO s.of id):=by unfold dv;rw[if_neg (by omega)];rw[if_pos (by omega)]
 rw[hx]at hR hc
 have ho:o.length≤100000:=nT (Nat.le_add_right _ _) hc;have h3:Sat wB (w.alloc (aD nd (.slice la nd.list.length lc))) (ah [Fr,ay w.heap.size (aD nd (.slice la nd.list.length lc))]::fA pb cb ov bv o bl h1):=(Sat.pack (L:=fA pb cb ov bv o bl h1) (M:=[Fr,ay w.heap.size (aD nd (.slice la nd.list.length lc))]) ((H.aj (aD nd (.slice la nd.list.length lc)) w.heap.size).pick [1,2,3,4,0,5])).pick [4,0,1,2,3];have iP:jH wB (ah [Fr,ay w.heap.size (aD nd (.slice la nd.list.length lc))]):=hF.ah (M:=[ay w.heap.size (aD nd (.slice la nd.list.length lc))]);have fX:=h.W.below (iP _ _ 0 h3 rfl);have h4:=h3.unpack (i:=0) rfl;have x0:=h4.cell 5 rfl 0 rfl;have p0:=h3.cell 1 rfl 0 rfl;have jS:=h3.lt 1 rfl;have c5:=fX.c5;have gU:=fX.lt;have tE:=qh (λeI w'(g:Sat wB w' (ah [Fr,ay w.heap.size (aD nd (.slice la nd.list.length lc))]::fA pb cb eI bv (o++(rR id (tO s.of id))) bl h1))=>hR eI w' ((g.unpack (i:=0) rfl).pick [4,0,1,2,3]));have hs:=h.Q.of (by omega) (by omega);have fV:s.of id=some (tO s.of id):=by
  unfold tO;cases hq:s.of id with
  |none=>rw[hq]at hs;cases hs
  |some u=>rfl
 obtain⟨p,bD,hr⟩:=fX.FI h.id fV;have HG:=qh (λR=>ig (R:=R) (n:=id) h3 (bL fX.le _ _ hr) (h.W.fK.of _ _ fV).1 ho);obtain⟨b,rfl⟩:=aP hr;clear hs fV hr;have e7: (((nd.kind:Nat):Int)==7)=false:=by rw[hk];rfl
 have e8: (((nd.kind:Nat):Int)==8)=false:=by rw[hk];rfl
 have e9: (((nd.kind:Nat):Int)==9)=true:=by rw[hk];rfl
 clear hR hF iP fX h4 h3 H hx hc h hk;go_in;unfold aK;go_wp2_with fail;refine HG.o _ (λsQ w5 h5=>?_);have Xb:=qh (tE.o sQ w5 h5);clear h5;go_wp2_with fail;go_end0;exact Xb.o
theorem IZ(hF:jH wB Fr){id:Nat}{nd:Ty.Nd}{lv:Value}(h:PlN wB X pg cb ofb hasb s h0 id nd lv)(hk:nd.kind=14)(H:Sat wB w (Fr::fA pb cb ov bv o bl h1))(hc:o.length+(dv pg X.a_ s id nd bk).length≤100000){R:EW}
  (hR:∀eI w',Sat wB w' (Fr::fA pb cb eI bv (o++dv pg X.a_ s id nd bk) bl h1)→R (.returned (.tuple #[])) w'):
  Calls prog 166 #[.pointer (some ⟨pb,0,none⟩),.int .i64 (id:Nat),aK nd lv] w R:=by
 obtain⟨la,lc,rfl⟩:=ag h.row;have hx:dv pg X.a_ s id nd bk=gV s.of nd.a (s.of id):=by unfold dv;rw[if_neg (by omega)];rw[if_neg (by omega)];rw[if_pos (by omega)]
 rw[hx]at hR hc
 have ho:o.length≤100000:=nT (Nat.le_add_right _ _) hc;have h3:Sat wB (w.alloc (aD nd (.slice la nd.list.length lc))) (ah [Fr,ay w.heap.size (aD nd (.slice la nd.list.length lc))]::fA pb cb ov bv o bl h1):=(Sat.pack (L:=fA pb cb ov bv o bl h1) (M:=[Fr,ay w.heap.size (aD nd (.slice la nd.list.length lc))]) ((H.aj (aD nd (.slice la nd.list.length lc)) w.heap.size).pick [1,2,3,4,0,5])).pick [4,0,1,2,3];have iP:jH wB (ah [Fr,ay w.heap.size (aD nd (.slice la nd.list.length lc))]):=hF.ah (M:=[ay w.heap.size (aD nd (.slice la nd.list.length lc))]);have fX:=h.W.below (iP _ _ 0 h3 rfl);have h4:=h3.unpack (i:=0) rfl;have x0:=h4.cell 5 rfl 0 rfl;have x1:=h4.cell 5 rfl 1 rfl;have p0:=h3.cell 1 rfl 0 rfl;have jS:=h3.lt 1 rfl;have c5:=fX.c5;have gU:=fX.lt;have tE:=qh (λeI w'(g:Sat wB w' (ah [Fr,ay w.heap.size (aD nd (.slice la nd.list.length lc))]::fA pb cb eI bv (o++(gV s.of nd.a (s.of id))) bl h1))=>hR eI w' ((g.unpack (i:=0) rfl).pick [4,0,1,2,3]));have dq:=qh iP;have HW:=qh h.W;have oW:=qh (iP _ _ 0 h3 rfl);have hs:=h.Q.of (by omega) (by omega);have fV:s.of id=some (tO s.of id):=by
  unfold tO;cases hq:s.of id with
  |none=>rw[hq]at hs;cases hs
  |some u=>rfl
 obtain⟨p,bD,hr⟩:=h.W.gj h.id fV;obtain⟨b,rfl⟩:=aP hr;have np:=qh (λ(w5:World)(sQ:Value)(o5:lD)(h5:Sat wB w5 (ah [Fr,ay w.heap.size (aD nd (.slice la nd.list.length lc))]::fA pb cb sQ bv o5 bl h1))=>show w5.cell? ⟨pb,0,none⟩=some (.pointer (some ⟨cb,0,none⟩))∧w5.cell? ⟨cb,5,none⟩=some (.map (some ofb))∧w5.cell? ⟨w.heap.size,1,none⟩=some (.int .i64 (nd.a:Nat))∧(Instr.lookup 103 (.map (some ofb)) (.int .i64 (id:Nat)) false).run prog w5=.ok (.pointer (some ⟨b,0,none⟩)) w5 from⟨h5.cell 1 rfl 0 rfl,(HW.o.below (dq.o _ _ 0 h5 rfl)).c5,(h5.unpack (i:=0) rfl).cell 5 rfl 1 rfl,bD _ (dq.o _ _ 0 h5 rfl)⟩);have hS:=np.o _ _ _ h3.drew;have HA:=qh (λR=>i' (R:=R) (n:=nd.a) (ot:=s.of id) dq.o HW.o h3.drew (by have:=(h.Q.asX hk).1;have:=h.id;omega) (h.Q.asX hk).2 (by rw[fV];exact bL fX.le _ _ hr) (λt e=>(h.W.fK.of _ _ e).1) ho);clear hs fV hr bD;have e7: (((nd.kind:Nat):Int)==7)=false:=by rw[hk];rfl
 have e8: (((nd.kind:Nat):Int)==8)=false:=by rw[hk];rfl
 have e9: (((nd.kind:Nat):Int)==9)=false:=by rw[hk];rfl
 have QH: (((nd.kind:Nat):Int)==14)=true:=by rw[hk];rfl
 clear hR hF iP fX h4 h3 H hx hc h hk;go_in;unfold aK;go_wp2_with fail;go_region_held3(λw'=>w'.cell? ⟨pb,0,none⟩=some (.pointer (some ⟨cb,0,none⟩))∧w'.cell? ⟨cb,5,none⟩=some (.map (some ofb))∧w'.cell? ⟨w.heap.size,1,none⟩=some (.int .i64 (nd.a:Nat))∧(Instr.lookup 103 (.map (some ofb)) (.int .i64 (id:Nat)) false).run prog w'=.ok (.pointer (some ⟨b,0,none⟩)) w') (first|exact hS|exact rK)
  ((go_at_call 251;refine HA.o _ (λzO w6 h6=>?_);have rK:=np.o w6 zO _ h6;have Ih:=qh (tE.o zO w6 h6);clear h6))
 all_goals
  go_wp2_with fail;go_end0;exact Ih.o
theorem I9(hF:jH wB Fr){id:Nat}{nd:Ty.Nd}{lv:Value}(h:PlN wB X pg cb ofb hasb s h0 id nd lv)(hk:nd.kind=17)(H:Sat wB w (Fr::fA pb cb ov bv o bl h1))(hc:o.length+(dv pg X.a_ s id nd bk).length≤100000){R:EW}
  (hR:∀eI w',Sat wB w' (Fr::fA pb cb eI bv (o++dv pg X.a_ s id nd bk) bl h1)→R (.returned (.tuple #[])) w'):
  Calls prog 166 #[.pointer (some ⟨pb,0,none⟩),.int .i64 (id:Nat),aK nd lv] w R:=by
 obtain⟨la,lc,rfl⟩:=ag h.row;have hx:dv pg X.a_ s id nd bk=gV s.of nd.a (ek pg.ts nd.ty):=by unfold dv;rw[if_neg (by omega)];rw[if_neg (by omega)];rw[if_neg (by omega)];rw[if_pos (by omega)]
 rw[hx]at hR hc
 have ho:o.length≤100000:=nT (Nat.le_add_right _ _) hc;have h3:Sat wB (w.alloc (aD nd (.slice la nd.list.length lc))) (ah [Fr,ay w.heap.size (aD nd (.slice la nd.list.length lc))]::fA pb cb ov bv o bl h1):=(Sat.pack (L:=fA pb cb ov bv o bl h1) (M:=[Fr,ay w.heap.size (aD nd (.slice la nd.list.length lc))]) ((H.aj (aD nd (.slice la nd.list.length lc)) w.heap.size).pick [1,2,3,4,0,5])).pick [4,0,1,2,3];have iP:jH wB (ah [Fr,ay w.heap.size (aD nd (.slice la nd.list.length lc))]):=hF.ah (M:=[ay w.heap.size (aD nd (.slice la nd.list.length lc))]);have fX:=h.W.below (iP _ _ 0 h3 rfl);have h4:=h3.unpack (i:=0) rfl;have x0:=h4.cell 5 rfl 0 rfl;have x1:=h4.cell 5 rfl 1 rfl;have x7:=h4.cell 5 rfl 7 rfl;have p0:=h3.cell 1 rfl 0 rfl;have jS:=h3.lt 1 rfl;have c5:=fX.c5;have gU:=fX.lt;have tE:=qh (λeI w'(g:Sat wB w' (ah [Fr,ay w.heap.size (aD nd (.slice la nd.list.length lc))]::fA pb cb eI bv (o++(gV s.of nd.a (ek pg.ts nd.ty))) bl h1))=>hR eI w' ((g.unpack (i:=0) rfl).pick [4,0,1,2,3]));have dq:=qh iP;have HW:=qh h.W;have oW:=qh (iP _ _ 0 h3 rfl);have mN:=h.kx (n:=nd.a) (by unfold dx;rw[if_pos (by omega)];simp);have np:=qh (λ(w5:World)(sQ:Value)(o5:lD)(h5:Sat wB w5 (ah [Fr,ay w.heap.size (aD nd (.slice la nd.list.length lc))]::fA pb cb sQ bv o5 bl h1))=>show w5.cell? ⟨pb,0,none⟩=some (.pointer (some ⟨cb,0,none⟩))∧w5.cell? ⟨w.heap.size,1,none⟩=some (.int .i64 (nd.a:Nat))∧w5.cell? ⟨w.heap.size,7,none⟩=some (.int .i64 nd.ty)from⟨h5.cell 1 rfl 0 rfl,(h5.unpack (i:=0) rfl).cell 5 rfl 1 rfl,(h5.unpack (i:=0) rfl).cell 5 rfl 7 rfl⟩);have hS:=np.o _ _ _ h3.drew;have Sh:=qh (λR=>hJ (R:=R) h.P (oW.o.drew) (fX.drew.c1) (fX.drew.lt) h.ty);have OV:=qh (λt(e:ek pg.ts nd.ty=some t)=>(jZ h.P.ok h.ty e).1);have H3:=qh h3.drew;have wM:=qh mN;clear mN;have e7: (((nd.kind:Nat):Int)==7)=false:=by rw[hk];rfl
 have e8: (((nd.kind:Nat):Int)==8)=false:=by rw[hk];rfl
 have e9: (((nd.kind:Nat):Int)==9)=false:=by rw[hk];rfl
 have QH: (((nd.kind:Nat):Int)==14)=false:=by rw[hk];rfl
 have Ho: (((nd.kind:Nat):Int)==17)=true:=by rw[hk];rfl
 clear hR hF iP fX h4 h3 H hx hc h hk;go_in;unfold aK;go_wp2_with fail;go_region_held3(λw'=>w'.cell? ⟨pb,0,none⟩=some (.pointer (some ⟨cb,0,none⟩))∧w'.cell? ⟨w.heap.size,1,none⟩=some (.int .i64 (nd.a:Nat))∧w'.cell? ⟨w.heap.size,7,none⟩=some (.int .i64 nd.ty)) (first|exact hS|exact Fu|exact rK)
  (first
   |(go_at_call 154;refine Sh.o _ (λv w5 h5=>?_);have g5:=H3.o.join h5;have Rv:=g5.get (i:=5) rfl λ_ ha hl=>EV ha hl;have g6:=g5.pick [0,1,2,3,4];have Fu:=np.o w5 ov _ g6;have HA:=qh (λR=>i' (R:=R) (n:=nd.a) (ot:=ek pg.ts nd.ty) dq.o HW.o g6 wM.o.1 (by rw[wM.o.2];rfl) Rv OV.o ho);clear h5 g5 g6 Rv)
   |(go_at_call 251;refine HA.o _ (λzO w6 h6=>?_);have rK:=np.o w6 zO _ h6;have Ih:=qh (tE.o zO w6 h6);clear h6))
 all_goals
  go_wp2_with fail;go_end0;exact Ih.o
theorem K4(hF:jH wB Fr){id:Nat}{nd:Ty.Nd}{lv:Value}(h:PlN wB X pg cb ofb hasb s h0 id nd lv)(hk:nd.kind=18)(H:Sat wB w (Fr::fA pb cb ov bv o bl h1))(hc:o.length+(dv pg X.a_ s id nd bk).length≤100000){R:EW}
  (hR:∀eI w',Sat wB w' (Fr::fA pb cb eI bv (o++dv pg X.a_ s id nd bk) bl h1)→R (.returned (.tuple #[])) w'):
  Calls prog 166 #[.pointer (some ⟨pb,0,none⟩),.int .i64 (id:Nat),aK nd lv] w R:=by
 obtain⟨la,lc,rfl⟩:=ag h.row;have hx:dv pg X.a_ s id nd bk=gV s.of nd.a (s.has (X.a_ id)):=by unfold dv;rw[if_neg (by omega)];rw[if_neg (by omega)];rw[if_neg (by omega)];rw[if_neg (by omega)];rw[if_pos (by omega)]
 rw[hx]at hR hc
 have ho:o.length≤100000:=nT (Nat.le_add_right _ _) hc;have h3:Sat wB (w.alloc (aD nd (.slice la nd.list.length lc))) (ah [Fr,ay w.heap.size (aD nd (.slice la nd.list.length lc))]::fA pb cb ov bv o bl h1):=(Sat.pack (L:=fA pb cb ov bv o bl h1) (M:=[Fr,ay w.heap.size (aD nd (.slice la nd.list.length lc))]) ((H.aj (aD nd (.slice la nd.list.length lc)) w.heap.size).pick [1,2,3,4,0,5])).pick [4,0,1,2,3];have iP:jH wB (ah [Fr,ay w.heap.size (aD nd (.slice la nd.list.length lc))]):=hF.ah (M:=[ay w.heap.size (aD nd (.slice la nd.list.length lc))]);have fX:=h.W.below (iP _ _ 0 h3 rfl);have h4:=h3.unpack (i:=0) rfl;have x0:=h4.cell 5 rfl 0 rfl;have x1:=h4.cell 5 rfl 1 rfl;have p0:=h3.cell 1 rfl 0 rfl;have jS:=h3.lt 1 rfl;have c5:=fX.c5;have gU:=fX.lt;have tE:=qh (λeI w'(g:Sat wB w' (ah [Fr,ay w.heap.size (aD nd (.slice la nd.list.length lc))]::fA pb cb eI bv (o++(gV s.of nd.a (s.has (X.a_ id)))) bl h1))=>hR eI w' ((g.unpack (i:=0) rfl).pick [4,0,1,2,3]));have dq:=qh iP;have HW:=qh h.W;have oW:=qh (iP _ _ 0 h3 rfl);have mN:=h.kx (n:=nd.a) (by unfold dx;rw[if_pos (by omega)];simp);obtain⟨t,ht⟩:∃t,s.has (X.a_ id)=some t:=by
  have:=h.Q.set hk;cases hq:s.has (X.a_ id)with
  |none=>rw[hq]at this;cases this
  |some t=>exact⟨t,rfl⟩
 have abm:=qh h.id;obtain⟨p,bD,hr⟩:=h.W.hasAll (h.W.Kq h.id).2 ht;obtain⟨b,rfl⟩:=aP hr;have np:=qh (λ(w5:World)(sQ:Value)(o5:lD)(h5:Sat wB w5 (ah [Fr,ay w.heap.size (aD nd (.slice la nd.list.length lc))]::fA pb cb sQ bv o5 bl h1))=>show w5.cell? ⟨pb,0,none⟩=some (.pointer (some ⟨cb,0,none⟩))∧w5.cell? ⟨cb,6,none⟩=some (.map (some hasb))∧w5.cell? ⟨cb,3,none⟩=some (.map (some X.sO))∧w5.cell? ⟨w.heap.size,1,none⟩=some (.int .i64 (nd.a:Nat))∧(Instr.lookup 102 (.map (some X.sO)) (.int .i64 (id:Nat)) false).run prog w5=.ok (.int .i64 (X.a_ id:Nat)) w5∧(Instr.lookup 103 (.map (some hasb)) (.int .i64 (X.a_ id:Nat)) false).run prog w5=.ok (.pointer (some ⟨b,0,none⟩)) w5 from⟨h5.cell 1 rfl 0 rfl,(HW.o.below (dq.o _ _ 0 h5 rfl)).c6,(HW.o.below (dq.o _ _ 0 h5 rfl)).c3,(h5.unpack (i:=0) rfl).cell 5 rfl 1 rfl,((HW.o.below (dq.o _ _ 0 h5 rfl)).Kq abm.o).1,bD _ (dq.o _ _ 0 h5 rfl)⟩);have hS:=np.o _ _ _ h3.drew;have HA:=qh (λR=>i' (R:=R) (n:=nd.a) (ot:=s.has (X.a_ id)) dq.o HW.o h3.drew mN.1 (by rw[mN.2];rfl) (by rw[ht];exact bL fX.le _ _ hr) (λt e=>(h.W.fK.has _ _ e).1) ho);clear mN ht hr bD;have e7: (((nd.kind:Nat):Int)==7)=false:=by rw[hk];rfl
 have e8: (((nd.kind:Nat):Int)==8)=false:=by rw[hk];rfl
 have e9: (((nd.kind:Nat):Int)==9)=false:=by rw[hk];rfl
 have QH: (((nd.kind:Nat):Int)==14)=false:=by rw[hk];rfl
 have Ho: (((nd.kind:Nat):Int)==17)=false:=by rw[hk];rfl
 have Lk: (((nd.kind:Nat):Int)==18)=true:=by rw[hk];rfl
 clear hR hF iP fX h4 h3 H hx hc h hk;go_in;unfold aK;go_wp2_with fail;go_region_held3(λw'=>w'.cell? ⟨pb,0,none⟩=some (.pointer (some ⟨cb,0,none⟩))∧w'.cell? ⟨cb,6,none⟩=some (.map (some hasb))∧w'.cell? ⟨cb,3,none⟩=some (.map (some X.sO))∧w'.cell? ⟨w.heap.size,1,none⟩=some (.int .i64 (nd.a:Nat))∧(Instr.lookup 102 (.map (some X.sO)) (.int .i64 (id:Nat)) false).run prog w'=.ok (.int .i64 (X.a_ id:Nat)) w'∧(Instr.lookup 103 (.map (some hasb)) (.int .i64 (X.a_ id:Nat)) false).run prog w'=.ok (.pointer (some ⟨b,0,none⟩)) w') (first|exact hS|exact rK)
  ((go_at_call 251;refine HA.o _ (λzO w6 h6=>?_);have rK:=np.o w6 zO _ h6;have Ih:=qh (tE.o zO w6 h6);clear h6))
 all_goals
  go_wp2_with fail;go_end0;exact Ih.o
theorem KL(hF:jH wB Fr){id:Nat}{nd:Ty.Nd}{lv:Value}(h:PlN wB X pg cb ofb hasb s h0 id nd lv)(hk:nd.kind=19)(H:Sat wB w (Fr::fA pb cb ov bv o bl h1))(hc:o.length+(dv pg X.a_ s id nd bk).length≤100000){R:EW}
  (hR:∀eI w',Sat wB w' (Fr::fA pb cb eI bv (o++dv pg X.a_ s id nd bk) bl h1)→R (.returned (.tuple #[])) w'):
  Calls prog 166 #[.pointer (some ⟨pb,0,none⟩),.int .i64 (id:Nat),aK nd lv] w R:=by
 obtain⟨la,lc,rfl⟩:=ag h.row;have hx:dv pg X.a_ s id nd bk=gV s.of nd.b (nJ (tO s.of nd.a) nd.text):=by unfold dv;rw[if_neg (by omega)];rw[if_neg (by omega)];rw[if_neg (by omega)];rw[if_neg (by omega)];rw[if_neg (by omega)];rw[if_pos (by omega)]
 rw[hx]at hR hc
 have ho:o.length≤100000:=nT (Nat.le_add_right _ _) hc;have h3:Sat wB (w.alloc (aD nd (.slice la nd.list.length lc))) (ah [Fr,ay w.heap.size (aD nd (.slice la nd.list.length lc))]::fA pb cb ov bv o bl h1):=(Sat.pack (L:=fA pb cb ov bv o bl h1) (M:=[Fr,ay w.heap.size (aD nd (.slice la nd.list.length lc))]) ((H.aj (aD nd (.slice la nd.list.length lc)) w.heap.size).pick [1,2,3,4,0,5])).pick [4,0,1,2,3];have iP:jH wB (ah [Fr,ay w.heap.size (aD nd (.slice la nd.list.length lc))]):=hF.ah (M:=[ay w.heap.size (aD nd (.slice la nd.list.length lc))]);have fX:=h.W.below (iP _ _ 0 h3 rfl);have h4:=h3.unpack (i:=0) rfl;have x0:=h4.cell 5 rfl 0 rfl;have x1:=h4.cell 5 rfl 1 rfl;have x2:=h4.cell 5 rfl 2 rfl;have x5:=h4.cell 5 rfl 5 rfl;have p0:=h3.cell 1 rfl 0 rfl;have jS:=h3.lt 1 rfl;have c5:=fX.c5;have gU:=fX.lt;have tE:=qh (λeI w'(g:Sat wB w' (ah [Fr,ay w.heap.size (aD nd (.slice la nd.list.length lc))]::fA pb cb eI bv (o++(gV s.of nd.b (nJ (tO s.of nd.a) nd.text))) bl h1))=>hR eI w' ((g.unpack (i:=0) rfl).pick [4,0,1,2,3]));have dq:=qh iP;have HW:=qh h.W;have oW:=qh (iP _ _ 0 h3 rfl);have hy:dx nd=[nd.a,nd.b]:=by unfold dx;rw[if_neg (by omega),if_pos hk]
 have mN:=h.kx (n:=nd.a) (by rw[hy];simp);have NY:=h.kx (n:=nd.b) (by rw[hy];simp);obtain⟨p,bD,hr⟩:=h.W.gj mN.1 mN.2;obtain⟨b,rfl⟩:=aP hr;have zg:=(h.W.fK.of _ _ mN.2).1;have np:=qh (λ(w5:World)(sQ:Value)(o5:lD)(h5:Sat wB w5 (ah [Fr,ay w.heap.size (aD nd (.slice la nd.list.length lc))]::fA pb cb sQ bv o5 bl h1))=>show w5.cell? ⟨pb,0,none⟩=some (.pointer (some ⟨cb,0,none⟩))∧w5.cell? ⟨cb,5,none⟩=some (.map (some ofb))∧w5.cell? ⟨w.heap.size,1,none⟩=some (.int .i64 (nd.a:Nat))∧w5.cell? ⟨w.heap.size,2,none⟩=some (.int .i64 (nd.b:Nat))∧w5.cell? ⟨w.heap.size,5,none⟩=some (.string nd.text)∧(Instr.lookup 103 (.map (some ofb)) (.int .i64 (nd.a:Nat)) false).run prog w5=.ok (.pointer (some ⟨b,0,none⟩)) w5 from⟨h5.cell 1 rfl 0 rfl,(HW.o.below (dq.o _ _ 0 h5 rfl)).c5,(h5.unpack (i:=0) rfl).cell 5 rfl 1 rfl,(h5.unpack (i:=0) rfl).cell 5 rfl 2 rfl,(h5.unpack (i:=0) rfl).cell 5 rfl 5 rfl,bD _ (dq.o _ _ 0 h5 rfl)⟩);have hS:=np.o _ _ _ h3.drew;have sJ:=qh (λR=>DN (R:=R) (w:=(w.alloc (aD nd (.slice la nd.list.length lc))).drew) fX.drew.le hr zg.ok nd.text);have OV:=qh (λt(e:nJ (tO s.of nd.a) nd.text=some t)=>Df zg e);have H3:=qh h3.drew;have Hj:=qh NY;clear mN NY hr bD hy zg;have e7: (((nd.kind:Nat):Int)==7)=false:=by rw[hk];rfl
 have e8: (((nd.kind:Nat):Int)==8)=false:=by rw[hk];rfl
 have e9: (((nd.kind:Nat):Int)==9)=false:=by rw[hk];rfl
 have QH: (((nd.kind:Nat):Int)==14)=false:=by rw[hk];rfl
 have Ho: (((nd.kind:Nat):Int)==17)=false:=by rw[hk];rfl
 have Lk: (((nd.kind:Nat):Int)==18)=false:=by rw[hk];rfl
 have Of: (((nd.kind:Nat):Int)==19)=true:=by rw[hk];rfl
 clear hR hF iP fX h4 h3 H hx hc h hk;go_in;unfold aK;go_wp2_with fail;go_region_held3(λw'=>w'.cell? ⟨pb,0,none⟩=some (.pointer (some ⟨cb,0,none⟩))∧w'.cell? ⟨cb,5,none⟩=some (.map (some ofb))∧w'.cell? ⟨w.heap.size,1,none⟩=some (.int .i64 (nd.a:Nat))∧w'.cell? ⟨w.heap.size,2,none⟩=some (.int .i64 (nd.b:Nat))∧w'.cell? ⟨w.heap.size,5,none⟩=some (.string nd.text)∧(Instr.lookup 103 (.map (some ofb)) (.int .i64 (nd.a:Nat)) false).run prog w'=.ok (.pointer (some ⟨b,0,none⟩)) w') (first|exact hS|exact Fu|exact rK)
  (first
   |(go_at_call 252;refine sJ.o _ (λv w5 dW Rv=>?_);have g6:=H3.o.below dW;have Fu:=np.o w5 ov _ g6;have HA:=qh (λR=>i' (R:=R) (n:=nd.b) (ot:=nJ (tO s.of nd.a) nd.text) dq.o HW.o g6 Hj.o.1 (by rw[Hj.o.2];rfl) Rv OV.o ho);clear dW g6 Rv)
   |(go_at_call 251;refine HA.o _ (λzO w6 h6=>?_);have rK:=np.o w6 zO _ h6;have Ih:=qh (tE.o zO w6 h6);clear h6))
 all_goals
  go_wp2_with fail;go_end0;exact Ih.o
theorem JI(hF:jH wB Fr){id:Nat}{nd:Ty.Nd}{lv:Value}(h:PlN wB X pg cb ofb hasb s h0 id nd lv)(hk:nd.kind=20)(h8:Ty.kindOf (tO s.of nd.a)=8)(H:Sat wB w (Fr::fA pb cb ov bv o bl h1))(hc:o.length+(dv pg X.a_ s id nd bk).length≤100000){R:EW}
  (hR:∀eI w',Sat wB w' (Fr::fA pb cb eI bv (o++dv pg X.a_ s id nd bk) bl h1)→R (.returned (.tuple #[])) w'):
  Calls prog 166 #[.pointer (some ⟨pb,0,none⟩),.int .i64 (id:Nat),aK nd lv] w R:=by
 obtain⟨la,lc,rfl⟩:=ag h.row;have hx:dv pg X.a_ s id nd bk=gV s.of nd.c.toNat (some (fq (tO s.of nd.a))):=by unfold dv;rw[if_neg (by omega)];rw[if_neg (by omega)];rw[if_neg (by omega)];rw[if_neg (by omega)];rw[if_neg (by omega)];rw[if_neg (by omega)];rw[if_pos (by omega)];rw[if_pos h8]
 rw[hx]at hR hc
 have ho:o.length≤100000:=nT (Nat.le_add_right _ _) hc;have h3:Sat wB (w.alloc (aD nd (.slice la nd.list.length lc))) (ah [Fr,ay w.heap.size (aD nd (.slice la nd.list.length lc))]::fA pb cb ov bv o bl h1):=(Sat.pack (L:=fA pb cb ov bv o bl h1) (M:=[Fr,ay w.heap.size (aD nd (.slice la nd.list.length lc))]) ((H.aj (aD nd (.slice la nd.list.length lc)) w.heap.size).pick [1,2,3,4,0,5])).pick [4,0,1,2,3];have iP:jH wB (ah [Fr,ay w.heap.size (aD nd (.slice la nd.list.length lc))]):=hF.ah (M:=[ay w.heap.size (aD nd (.slice la nd.list.length lc))]);have fX:=h.W.below (iP _ _ 0 h3 rfl);have h4:=h3.unpack (i:=0) rfl;have x0:=h4.cell 5 rfl 0 rfl;have x1:=h4.cell 5 rfl 1 rfl;have x3:=h4.cell 5 rfl 3 rfl;have p0:=h3.cell 1 rfl 0 rfl;have jS:=h3.lt 1 rfl;have c5:=fX.c5;have gU:=fX.lt;have tE:=qh (λeI w'(g:Sat wB w' (ah [Fr,ay w.heap.size (aD nd (.slice la nd.list.length lc))]::fA pb cb eI bv (o++(gV s.of nd.c.toNat (some (fq (tO s.of nd.a))))) bl h1))=>hR eI w' ((g.unpack (i:=0) rfl).pick [4,0,1,2,3]));have dq:=qh iP;have HW:=qh h.W;have oW:=qh (iP _ _ 0 h3 rfl);have hy:dx nd=[nd.a,nd.b,nd.c.toNat]:=by unfold dx;rw[if_neg (by omega),if_neg (by omega),if_pos hk]
 have mN:=h.kx (n:=nd.a) (by rw[hy];simp);have BJ:=h.kx (n:=nd.c.toNat) (by rw[hy];simp);have UJ:=h.Q.lay hk;have zf: ((nd.c.toNat:Nat):Int)=nd.c:=by omega
 obtain⟨p,bD,hr⟩:=h.W.gj mN.1 mN.2;obtain⟨b,rfl⟩:=aP hr;have pK:=bD _ (iP _ _ 0 h3 rfl);have cI:=bD _ (iP _ _ 0 h3.drew rfl);obtain⟨JV,k0⟩:=fX.kind hr;have zg:=(h.W.fK.of _ _ mN.2).1;obtain⟨Oq,Yz,v3,adj,_,_,_,q3,Rj,_⟩:=C8 h.W.le hr zg.ok;have HQ:=qh (λ(w5:World)(g:Below wB.heap.size wB w5)=>aq g q3);have YH:=Rj (.inl h8);have np:=qh (λ(w5:World)(sQ:Value)(o5:lD)(h5:Sat wB w5 (ah [Fr,ay w.heap.size (aD nd (.slice la nd.list.length lc))]::fA pb cb sQ bv o5 bl h1))=>show w5.cell? ⟨w.heap.size,3,none⟩=some (.int .i64 nd.c)∧w5.cell? ⟨b,3,none⟩=some v3 from⟨(h5.unpack (i:=0) rfl).cell 5 rfl 3 rfl,HQ.o w5 (dq.o _ _ 0 h5 rfl)⟩);have hS:=np.o _ _ _ h3.drew.drew;have HA:=qh (λR=>i' (R:=R) (n:=nd.c.toNat) (ot:=some (fq (tO s.of nd.a))) dq.o HW.o h3.drew.drew BJ.1 (by rw[BJ.2];rfl) (bL fX.le _ _ YH) (λt e=>by cases e;exact(yY zg (.inl h8)).1) ho);rw[zf]at HA
 rw[h8]at k0
 clear mN BJ hr bD hy zg Rj YH q3 Oq UJ zf h8;have e7: (((nd.kind:Nat):Int)==7)=false:=by rw[hk];rfl
 have e8: (((nd.kind:Nat):Int)==8)=false:=by rw[hk];rfl
 have e9: (((nd.kind:Nat):Int)==9)=false:=by rw[hk];rfl
 have QH: (((nd.kind:Nat):Int)==14)=false:=by rw[hk];rfl
 have Ho: (((nd.kind:Nat):Int)==17)=false:=by rw[hk];rfl
 have Lk: (((nd.kind:Nat):Int)==18)=false:=by rw[hk];rfl
 have Of: (((nd.kind:Nat):Int)==19)=false:=by rw[hk];rfl
 have MO: (((nd.kind:Nat):Int)==20)=true:=by rw[hk];rfl
 clear hR hF iP fX h4 h3 H hx hc h hk;go_in;unfold aK;go_wp2_with fail
 go_region
 all_goals
  go_wp2_with fail;go_region_held3(λw'=>w'.cell? ⟨w.heap.size,3,none⟩=some (.int .i64 nd.c)∧w'.cell? ⟨b,3,none⟩=some v3) (first|exact hS|exact rK)
   ((go_at_call 251;refine HA.o _ (λzO w6 h6=>?_);have rK:=np.o w6 zO _ h6;have Ih:=qh (tE.o zO w6 h6);clear h6))
  all_goals
   go_wp2_with fail;go_end0;exact Ih.o
theorem Hf(hF:jH wB Fr){id:Nat}{nd:Ty.Nd}{lv:Value}(h:PlN wB X pg cb ofb hasb s h0 id nd lv)(hk:nd.kind=20)(h8:Ty.kindOf (tO s.of nd.a)≠8)(H:Sat wB w (Fr::fA pb cb ov bv o bl h1))(hc:o.length+(dv pg X.a_ s id nd bk).length≤100000){R:EW}
  (hR:∀eI w',Sat wB w' (Fr::fA pb cb eI bv (o++dv pg X.a_ s id nd bk) bl h1)→R (.returned (.tuple #[])) w'):
  Calls prog 166 #[.pointer (some ⟨pb,0,none⟩),.int .i64 (id:Nat),aK nd lv] w R:=by
 obtain⟨la,lc,rfl⟩:=ag h.row;have hx:dv pg X.a_ s id nd bk=[]:=by unfold dv;rw[if_neg (by omega)];rw[if_neg (by omega)];rw[if_neg (by omega)];rw[if_neg (by omega)];rw[if_neg (by omega)];rw[if_neg (by omega)];rw[if_pos (by omega)];rw[if_neg h8]
 rw[hx]at hR hc
 have ho:o.length≤100000:=nT (Nat.le_add_right _ _) hc;have h3:Sat wB (w.alloc (aD nd (.slice la nd.list.length lc))) (ah [Fr,ay w.heap.size (aD nd (.slice la nd.list.length lc))]::fA pb cb ov bv o bl h1):=(Sat.pack (L:=fA pb cb ov bv o bl h1) (M:=[Fr,ay w.heap.size (aD nd (.slice la nd.list.length lc))]) ((H.aj (aD nd (.slice la nd.list.length lc)) w.heap.size).pick [1,2,3,4,0,5])).pick [4,0,1,2,3];have iP:jH wB (ah [Fr,ay w.heap.size (aD nd (.slice la nd.list.length lc))]):=hF.ah (M:=[ay w.heap.size (aD nd (.slice la nd.list.length lc))]);have fX:=h.W.below (iP _ _ 0 h3 rfl);have h4:=h3.unpack (i:=0) rfl;have x0:=h4.cell 5 rfl 0 rfl;have x1:=h4.cell 5 rfl 1 rfl;have p0:=h3.cell 1 rfl 0 rfl;have jS:=h3.lt 1 rfl;have c5:=fX.c5;have gU:=fX.lt;have tE:=qh (λeI w'(g:Sat wB w' (ah [Fr,ay w.heap.size (aD nd (.slice la nd.list.length lc))]::fA pb cb eI bv (o++([])) bl h1))=>hR eI w' ((g.unpack (i:=0) rfl).pick [4,0,1,2,3]));have dq:=qh iP;have HW:=qh h.W;have oW:=qh (iP _ _ 0 h3 rfl);have hy:dx nd=[nd.a,nd.b,nd.c.toNat]:=by unfold dx;rw[if_neg (by omega),if_neg (by omega),if_pos hk]
 have mN:=h.kx (n:=nd.a) (by rw[hy];simp);have BJ:=h.kx (n:=nd.c.toNat) (by rw[hy];simp);have UJ:=h.Q.lay hk;have zf: ((nd.c.toNat:Nat):Int)=nd.c:=by omega
 obtain⟨p,bD,hr⟩:=h.W.gj mN.1 mN.2;obtain⟨b,rfl⟩:=aP hr;have pK:=bD _ (iP _ _ 0 h3 rfl);have cI:=bD _ (iP _ _ 0 h3.drew rfl);obtain⟨JV,k0⟩:=fX.kind hr;have acQ: (((Ty.kindOf (tO s.of nd.a):Nat):Int)==8)=false:=beq_eq_false_iff_ne.2 (by omega);have HG:=qh (tE.o ov _ (by rw[List.append_nil];exact h3.drew));generalize Ty.kindOf (tO s.of nd.a)=kk at*
 clear mN BJ hr bD hy UJ zf h8;have e7: (((nd.kind:Nat):Int)==7)=false:=by rw[hk];rfl
 have e8: (((nd.kind:Nat):Int)==8)=false:=by rw[hk];rfl
 have e9: (((nd.kind:Nat):Int)==9)=false:=by rw[hk];rfl
 have QH: (((nd.kind:Nat):Int)==14)=false:=by rw[hk];rfl
 have Ho: (((nd.kind:Nat):Int)==17)=false:=by rw[hk];rfl
 have Lk: (((nd.kind:Nat):Int)==18)=false:=by rw[hk];rfl
 have Of: (((nd.kind:Nat):Int)==19)=false:=by rw[hk];rfl
 have MO: (((nd.kind:Nat):Int)==20)=true:=by rw[hk];rfl
 clear hR hF iP fX h4 h3 H hx hc h hk;go_in;unfold aK;go_wp2_with fail
 go_region
 all_goals
  go_wp2_with fail;go_end0;exact HG.o
theorem Jf(hF:jH wB Fr){id:Nat}{nd:Ty.Nd}{lv:Value}(h:PlN wB X pg cb ofb hasb s h0 id nd lv)(hk:nd.kind=24)(hB:PlI bk bl h1)(bZ:bk≠[])(H:Sat wB w (Fr::fA pb cb ov bv o bl h1))(hc:o.length+(dv pg X.a_ s id nd bk).length≤100000){R:EW}
  (hR:∀eI w',Sat wB w' (Fr::fA pb cb eI bv (o++dv pg X.a_ s id nd bk) bl h1)→R (.returned (.tuple #[])) w'):
  Calls prog 166 #[.pointer (some ⟨pb,0,none⟩),.int .i64 (id:Nat),aK nd lv] w R:=by
 obtain⟨la,lc,rfl⟩:=ag h.row;have hx:dv pg X.a_ s id nd bk=gV s.of nd.a (bk.getLastD none):=by unfold dv;rw[if_neg (by omega)];rw[if_neg (by omega)];rw[if_neg (by omega)];rw[if_neg (by omega)];rw[if_neg (by omega)];rw[if_neg (by omega)];rw[if_neg (by omega)];rw[if_pos (by omega)]
 rw[hx]at hR hc
 have ho:o.length≤100000:=nT (Nat.le_add_right _ _) hc;have h3:Sat wB (w.alloc (aD nd (.slice la nd.list.length lc))) (ah [Fr,ay w.heap.size (aD nd (.slice la nd.list.length lc))]::fA pb cb ov bv o bl h1):=(Sat.pack (L:=fA pb cb ov bv o bl h1) (M:=[Fr,ay w.heap.size (aD nd (.slice la nd.list.length lc))]) ((H.aj (aD nd (.slice la nd.list.length lc)) w.heap.size).pick [1,2,3,4,0,5])).pick [4,0,1,2,3];have iP:jH wB (ah [Fr,ay w.heap.size (aD nd (.slice la nd.list.length lc))]):=hF.ah (M:=[ay w.heap.size (aD nd (.slice la nd.list.length lc))]);have fX:=h.W.below (iP _ _ 0 h3 rfl);have h4:=h3.unpack (i:=0) rfl;have x0:=h4.cell 5 rfl 0 rfl;have x1:=h4.cell 5 rfl 1 rfl;have p0:=h3.cell 1 rfl 0 rfl;have jS:=h3.lt 1 rfl;have c5:=fX.c5;have gU:=fX.lt;have tE:=qh (λeI w'(g:Sat wB w' (ah [Fr,ay w.heap.size (aD nd (.slice la nd.list.length lc))]::fA pb cb eI bv (o++(gV s.of nd.a (bk.getLastD none))) bl h1))=>hR eI w' ((g.unpack (i:=0) rfl).pick [4,0,1,2,3]));have dq:=qh iP;have HW:=qh h.W;have oW:=qh (iP _ _ 0 h3 rfl);have mN:=h.kx (n:=nd.a) (by unfold dx;rw[if_pos (by omega)];simp);obtain⟨k,Dx⟩:∃k,bl.length=k+1:=⟨bl.length-1,by have:=hB.len;have:=List.length_pos_iff.2 bZ;omega⟩
 have hbk:bk.length=k+1:=by rw[←hB.len];exact Dx
 obtain⟨gb,SG,eb,Zn,d0⟩:=fD (h3.row 3 rfl) k (by omega);subst eb;have ZP:k≤100000:=by have:=hB.nf;omega
 have XC:=hB.bl k (by omega) (by omega);have Ye:bk.getLastD none=bk[k]'(by omega):=by
  rw[List.getLastD_eq_getLast?,List.getLast?_eq_getElem?,show bk.length-1=k by omega,List.getElem?_eq_getElem (by omega)];rfl
 have VU:∀t,bk[k]'(by omega)=some t→Fine t:=λt e=>hB.fK t (by rw[←e];exact gM _)
 rw[←Ye]at XC VU
 have hle:ak.le h1 (ak.hp (w.alloc (aD nd (.slice la nd.list.length lc))).drew):=h3.drew.get (i:=4) rfl λa ha hl=>ak.le_trans ha hl
 have dG:Hq (∀(w5:World)(sQ:Value)(o5:lD),Sat wB w5 (ah [Fr,ay w.heap.size (aD nd (.slice la nd.list.length lc))]::fA pb cb sQ (.slice (some ⟨gb,0,none⟩) bl.length SG) o5 bl h1)→w5.cell? ⟨gb,k,none⟩=some (bl[k]'(by omega))):=λw5 sQ o5 h5=>by
  obtain⟨_,_,e,_,d⟩:=fD (h5.row 3 rfl) k (by omega);cases e;exact d
 have hw:=IntWalk.i64_in (n:=(k:Int)) (by omega);have hs:IntKind.i64.wrap (((k+1:Nat):Int)-1)=(k:Int):=by rw[show((k+1:Nat):Int)-1=(k:Int)by omega];exact hw
 have HA:=qh (λR=>i' (R:=R) (n:=nd.a) (ot:=bk.getLastD none) dq.o HW.o h3.drew mN.1 (by rw[mN.2];rfl) (J9 hle XC) VU ho);have np:=qh (λ(w5:World)(sQ:Value)(o5:lD)(h5:Sat wB w5 (ah [Fr,ay w.heap.size (aD nd (.slice la nd.list.length lc))]::fA pb cb sQ (.slice (some ⟨gb,0,none⟩) bl.length SG) o5 bl h1))=>show w5.cell? ⟨w.heap.size,1,none⟩=some (.int .i64 (nd.a:Nat))∧w5.cell? ⟨pb,2,none⟩=some (.slice (some ⟨gb,0,none⟩) bl.length SG)∧w5.cell? ⟨gb,k,none⟩=some (bl[k]'(by omega))from⟨(h5.unpack (i:=0) rfl).cell 5 rfl 1 rfl,h5.cell 1 rfl 2 rfl,dG.o w5 sQ o5 h5⟩);have hS:=np.o _ _ _ h3.drew;generalize bl[k]'(by omega)=xk at*
 rw[Dx]at np tE HA hS
 have VP:IntKind.i64.wrap (((k:Nat):Int)+1-1)=(k:Int):=by rw[show((k:Nat):Int)+1-1=(k:Int)by omega];exact hw
 have adE: (k:Int)<(k:Int)+1:=by omega
 have acR: (0:Int)≤(k:Int):=by omega
 have CC: (k:Int)<((k+1:Nat):Int):=by omega
 have Vk:decide ((k:Int)<((k+1:Nat):Int))=true:=decide_eq_true CC;clear mN Dx hbk hle dG VU Ye XC bZ d0 hB;have e7: (((nd.kind:Nat):Int)==7)=false:=by rw[hk];rfl
 have e8: (((nd.kind:Nat):Int)==8)=false:=by rw[hk];rfl
 have e9: (((nd.kind:Nat):Int)==9)=false:=by rw[hk];rfl
 have QH: (((nd.kind:Nat):Int)==14)=false:=by rw[hk];rfl
 have Ho: (((nd.kind:Nat):Int)==17)=false:=by rw[hk];rfl
 have Lk: (((nd.kind:Nat):Int)==18)=false:=by rw[hk];rfl
 have Of: (((nd.kind:Nat):Int)==19)=false:=by rw[hk];rfl
 have MO: (((nd.kind:Nat):Int)==20)=false:=by rw[hk];rfl
 have Wa: (((nd.kind:Nat):Int)==24)=true:=by rw[hk];rfl
 clear hR hF iP fX h4 h3 H hx hc h hk;go_in;unfold aK;go_wp2_with fail;go_region_held3(λw'=>w'.cell? ⟨w.heap.size,1,none⟩=some (.int .i64 (nd.a:Nat))∧w'.cell? ⟨pb,2,none⟩=some (.slice (some ⟨gb,0,none⟩) (k+1) SG)∧w'.cell? ⟨gb,k,none⟩=some xk) (first|exact hS|exact rK)
  ((go_at_call 251;refine HA.o _ (λzO w6 h6=>?_);have rK:=np.o w6 zO _ h6;have Ih:=qh (tE.o zO w6 h6);clear h6))
 all_goals
  go_wp2_with fail;go_end0;exact Ih.o
theorem Kp(hF:jH wB Fr){id:Nat}{nd:Ty.Nd}{lv:Value}(h:PlN wB X pg cb ofb hasb s h0 id nd lv)(hk:nd.kind=7)(h9:Ty.kindOf (tO s.of nd.a)≠9)(H:Sat wB w (Fr::fA pb cb ov bv o bl h1))(hc:o.length+(dv pg X.a_ s id nd bk).length≤100000){R:EW}
  (hR:∀eI w',Sat wB w' (Fr::fA pb cb eI bv (o++dv pg X.a_ s id nd bk) bl h1)→R (.returned (.tuple #[])) w'):
  Calls prog 166 #[.pointer (some ⟨pb,0,none⟩),.int .i64 (id:Nat),aK nd lv] w R:=by
 obtain⟨la,lc,rfl⟩:=ag h.row;have hx:dv pg X.a_ s id nd bk=rR id (tO s.of id):=by unfold dv;rw[if_pos (by omega)];rw[if_neg h9,List.append_nil]
 rw[hx]at hR hc
 have ho:o.length≤100000:=nT (Nat.le_add_right _ _) hc;have h3:Sat wB (w.alloc (aD nd (.slice la nd.list.length lc))) (ah [Fr,ay w.heap.size (aD nd (.slice la nd.list.length lc))]::fA pb cb ov bv o bl h1):=(Sat.pack (L:=fA pb cb ov bv o bl h1) (M:=[Fr,ay w.heap.size (aD nd (.slice la nd.list.length lc))]) ((H.aj (aD nd (.slice la nd.list.length lc)) w.heap.size).pick [1,2,3,4,0,5])).pick [4,0,1,2,3];have iP:jH wB (ah [Fr,ay w.heap.size (aD nd (.slice la nd.list.length lc))]):=hF.ah (M:=[ay w.heap.size (aD nd (.slice la nd.list.length lc))]);have fX:=h.W.below (iP _ _ 0 h3 rfl);have h4:=h3.unpack (i:=0) rfl;have x0:=h4.cell 5 rfl 0 rfl;have p0:=h3.cell 1 rfl 0 rfl;have jS:=h3.lt 1 rfl;have c5:=fX.c5;have gU:=fX.lt;have tE:=qh (λeI w'(g:Sat wB w' (ah [Fr,ay w.heap.size (aD nd (.slice la nd.list.length lc))]::fA pb cb eI bv (o++(rR id (tO s.of id))) bl h1))=>hR eI w' ((g.unpack (i:=0) rfl).pick [4,0,1,2,3]));have dq:=qh iP;have HW:=qh h.W;have oW:=qh (iP _ _ 0 h3 rfl);have hs:=h.Q.of (by omega) (by omega);have fV:s.of id=some (tO s.of id):=by
  unfold tO;cases hq:s.of id with
  |none=>rw[hq]at hs;cases hs
  |some u=>rfl
 obtain⟨p,bD,hr⟩:=fX.FI h.id fV;have HG:=qh (λR=>ig (R:=R) (n:=id) h3 (bL fX.le _ _ hr) (h.W.fK.of _ _ fV).1 ho);obtain⟨b,rfl⟩:=aP hr;have Ra:c9 pg nd=nd.a::nd.list:=by unfold c9;rw[if_pos hk]
 have mN:=h.kx (n:=nd.a) (by rw[Ra];simp);obtain⟨pa,K1,wT⟩:=h.W.gj mN.1 mN.2;obtain⟨ba,rfl⟩:=aP wT;have Hy:=qh (λ(w1:World)(g:Below wB.heap.size wB w1)=>(h.W.kind wT).below g);have Bh:=qh K1;have adL: (((Ty.kindOf (tO s.of nd.a):Nat):Int)==9)=false:=beq_eq_false_iff_ne.2 (by omega);generalize Ty.kindOf (tO s.of nd.a)=kk at*
 clear hs fV hr Ra mN wT K1 h9;have e7: (((nd.kind:Nat):Int)==7)=true:=by rw[hk];rfl
 clear hR hF iP fX h4 h3 H hx hc h hk;go_in;unfold aK;go_wp2_with fail;refine HG.o _ (λsQ w5 h5=>?_);have x1:=(h5.unpack (i:=0) rfl).cell 5 rfl 1 rfl;have x4:=(h5.unpack (i:=0) rfl).cell 5 rfl 4 rfl;have Pn:=(h5.unpack (i:=0) rfl).lt 5 rfl;have p0:=h5.cell 1 rfl 0 rfl;have jS:=h5.lt 1 rfl;have JN:=dq.o _ _ 0 h5 rfl;have QW:=HW.o.below JN;have c5:=QW.c5;have gU:=QW.lt;have Pq:=Bh.o _ JN;have Lx:=Bh.o _ JN.drew;obtain⟨W5,k5⟩:=Hy.o _ JN;have H5:=qh h5;clear h5 JN QW;go_wp2_with fail
 go_region
 all_goals
  go_wp2_with fail;go_end0;exact tE.o sQ _ H5.o.drew
theorem NM(hF:jH wB Fr){id:Nat}{nd:Ty.Nd}{lv:Value}(h:PlN wB X pg cb ofb hasb s h0 id nd lv)(hk:nd.kind=7)(h9:Ty.kindOf (tO s.of nd.a)=9)(H:Sat wB w (Fr::fA pb cb ov bv o bl h1))(hc:o.length+(dv pg X.a_ s id nd bk).length≤100000){R:EW}
  (hR:∀eI w',Sat wB w' (Fr::fA pb cb eI bv (o++dv pg X.a_ s id nd bk) bl h1)→R (.returned (.tuple #[])) w'):
  Calls prog 166 #[.pointer (some ⟨pb,0,none⟩),.int .i64 (id:Nat),aK nd lv] w R:=by
 obtain⟨la,lc,rfl⟩:=ag h.row;have hx:dv pg X.a_ s id nd bk=rR id (tO s.of id)++gP s.of nd.list (aN (tO s.of nd.a)):=by unfold dv;rw[if_pos (by omega)];rw[if_pos h9]
 rw[hx]at hR hc
 have ho:o.length≤100000:=nT (Nat.le_add_right _ _) hc;have h3:Sat wB (w.alloc (aD nd (.slice la nd.list.length lc))) (ah [Fr,ay w.heap.size (aD nd (.slice la nd.list.length lc))]::fA pb cb ov bv o bl h1):=(Sat.pack (L:=fA pb cb ov bv o bl h1) (M:=[Fr,ay w.heap.size (aD nd (.slice la nd.list.length lc))]) ((H.aj (aD nd (.slice la nd.list.length lc)) w.heap.size).pick [1,2,3,4,0,5])).pick [4,0,1,2,3];have iP:jH wB (ah [Fr,ay w.heap.size (aD nd (.slice la nd.list.length lc))]):=hF.ah (M:=[ay w.heap.size (aD nd (.slice la nd.list.length lc))]);have fX:=h.W.below (iP _ _ 0 h3 rfl);have h4:=h3.unpack (i:=0) rfl;have x0:=h4.cell 5 rfl 0 rfl;have x1:=h4.cell 5 rfl 1 rfl;have x4:=h4.cell 5 rfl 4 rfl;have p0:=h3.cell 1 rfl 0 rfl;have jS:=h3.lt 1 rfl;have c5:=fX.c5;have gU:=fX.lt;have tE:=qh (λeI w'(g:Sat wB w' (ah [Fr,ay w.heap.size (aD nd (.slice la nd.list.length lc))]::fA pb cb eI bv (o++(rR id (tO s.of id)++gP s.of nd.list (aN (tO s.of nd.a)))) bl h1))=>hR eI w' ((g.unpack (i:=0) rfl).pick [4,0,1,2,3]));have dq:=qh iP;have HW:=qh h.W;have oW:=qh (iP _ _ 0 h3 rfl);have hs:=h.Q.of (by omega) (by omega);have fV:s.of id=some (tO s.of id):=by
  unfold tO;cases hq:s.of id with
  |none=>rw[hq]at hs;cases hs
  |some u=>rfl
 obtain⟨p,bD,hr⟩:=fX.FI h.id fV;have HG:=qh (λR=>ig (R:=R) (n:=id) h3 (bL fX.le _ _ hr) (h.W.fK.of _ _ fV).1 ho);obtain⟨b,rfl⟩:=aP hr;have Ra:c9 pg nd=nd.a::nd.list:=by unfold c9;rw[if_pos hk]
 have mN:=h.kx (n:=nd.a) (by rw[Ra];simp);obtain⟨pa,K1,wT⟩:=h.W.gj mN.1 mN.2;obtain⟨ba,rfl⟩:=aP wT;have Hy:=qh (λ(w1:World)(g:Below wB.heap.size wB w1)=>(h.W.kind wT).below g);have Bh:=qh K1;have Qv:=(h.W.fK.of _ _ mN.2).1;obtain⟨Oq,nu,_,ls,q2,Ld,uI,_,_,oV⟩:=C8 h.W.le wT Qv.ok;have bm:=h.Q.call hk h9;have H':=bV uI;have Hv:=qh (λ(w5:World)(g:Below wB.heap.size wB w5)=>aq g q2);have U_:=qh (λ(w5:World)(g:Below wB.heap.size wB w5)=>az Ld g);have aaE:=qh (λ(w5:World)(g:Below wB.heap.size wB w5)=>az h.row g);obtain⟨adK,acU,rfl⟩:=ag Ld;have Ur:=qh (λj(hj:j<(aN (tO s.of nd.a)).length)=>Ip Qv hj);have Va:=qh (λj(hj:j<(aN (tO s.of nd.a)).length)(eh:j<ls.length)=>cS uI j hj eh);have ZE:=qh (λj(hj:j<nd.list.length)=>h.kx (n:=nd.list[j]) (by rw[Ra];simp));have vy:=qh (show ls.length=nd.list.length∧(aN (tO s.of nd.a)).length=nd.list.length from⟨by omega,bm⟩);have LG:=qh hc;have acK:=h.len;have zk:=qh h.W.le;rw[h9]at Hy
 clear hs fV hr Ra mN wT K1 h9 Qv Ld uI bm H' Oq q2;have e7: (((nd.kind:Nat):Int)==7)=true:=by rw[hk];rfl
 clear hR hF iP fX h4 h3 H hx hc h hk;go_in;unfold aK;go_wp2_with fail;refine HG.o _ (λsQ w5 h5=>?_);have x1:=(h5.unpack (i:=0) rfl).cell 5 rfl 1 rfl;have x4:=(h5.unpack (i:=0) rfl).cell 5 rfl 4 rfl;have Pn:=(h5.unpack (i:=0) rfl).lt 5 rfl;have p0:=h5.cell 1 rfl 0 rfl;have jS:=h5.lt 1 rfl;have JN:=dq.o _ _ 0 h5 rfl;have QW:=HW.o.below JN;have c5:=QW.c5;have gU:=QW.lt;have Pq:=Bh.o _ JN;have Lx:=Bh.o _ JN.drew;obtain⟨W5,k5⟩:=Hy.o _ JN;have H5:=qh h5;clear h5 JN QW;go_wp2_with fail
 go_region
 all_goals
  go_wp2_with fail;go_loopw [44] (λi wr=>∃(j:Nat)(Xd:Value),i=.int .i64 j∧j≤nd.list.length∧Hq (Sat wB wr (ah [Fr,ay w.heap.size (aD nd (.slice la nd.list.length lc))]::fA pb cb Xd bv (o++rR id (tO s.of id)++gP s.of (nd.list.take j) ((aN (tO s.of nd.a)).take j)) bl h1))) (λi _=>nd.list.length-(intOf i).toNat)
  case atStart=>exact⟨0,sQ,rfl,Nat.zero_le _,by show Sat _ _ _;rw[List.take_zero,gP,List.append_nil];exact H5.o.drew⟩
  case round=>
   obtain⟨j,Xd,rfl,hj,hS⟩:=hrel;have r_:=dq.o _ _ 0 hS.out rfl;by_cases bm:j<nd.list.length
   ·obtain⟨gl,j9,e,mW,d0⟩:=ints_at (aaE.o _ r_) j bm;cases e;have eh:j<ls.length:=by have:=vy.o;omega
    have tK:j<(aN (tO s.of nd.a)).length:=by have:=vy.o;omega
    obtain⟨g2,qf,e,DX,d2⟩:=fD (U_.o _ r_) j eh;cases e;have y2:=Hv.o _ r_;obtain⟨acd,_⟩:=Hy.o _ r_;have Z4: (ls.length:Int)=(nd.list.length:Int):=by have:=vy.o;omega
    have DE:=qh (uR s.of bm tK);have hlen: (o++rR id (tO s.of id)++gP s.of (nd.list.take j) ((aN (tO s.of nd.a)).take j)).length≤100000:=by
     have h1:=tT s.of (j:=j) nd.list (aN (tO s.of nd.a));have h2:=LG.o;rw[List.length_append]at h2
     rw[List.length_append,List.length_append];omega
    have HA:=qh (λR=>i' (R:=R) (n:=nd.list[j]) (ot:=some (aN (tO s.of nd.a))[j]) dq.o HW.o hS.out (ZE.o j bm).1 (by rw[(ZE.o j bm).2];rfl) (bL (ak.le_trans zk.o (ak.le_trans (λk o e=>e) (nM (ak.le_refl _) r_))) _ _ (Va.o j tK eh)) (λt e=>by cases e;exact Ur.o j tK) hlen);have ac3: (j:Int)<(ls.length:Int):=by omega
    clear hS r_ hlen;generalize nd.list[j]=nj at*
    generalize ls[j]=pj at*
    go_wp2_with fail;refine HA.o _ (λXM w7 h7=>?_);have H7:=qh h7;clear h7;go_wp2_with fail;go_roundw
    case rel=>exact⟨j+1,XM,by go_num,by omega,by show Sat _ _ _;rw[DE.o,←List.append_assoc];exact H7.o⟩
    case measure=>simp[intOf];omega
   ·have ju:j=nd.list.length:=by omega
    have h8:=hS.out;rw[ju,List.take_length,show(aN (tO s.of nd.a)).take nd.list.length=aN (tO s.of nd.a)by rw[←vy.o.2];exact List.take_length]at h8
    have HZ:=qh (tE.o Xd _ (by rw[←List.append_assoc];exact h8));clear h8 hS ju r_;go_wp2_with fail;go_end0;exact HZ.o
theorem lJ(hF:jH wB Fr){id:Nat}{nd:Ty.Nd}{lv:Value}(h:PlN wB X pg cb ofb hasb s h0 id nd lv)(hB:PlI bk bl h1)(bZ:nd.kind=24→bk≠[])(H:Sat wB w (Fr::fA pb cb ov bv o bl h1))(hc:o.length+(dv pg X.a_ s id nd bk).length≤100000){R:EW}
  (hR:∀eI w',Sat wB w' (Fr::fA pb cb eI bv (o++dv pg X.a_ s id nd bk) bl h1)→R (.returned (.tuple #[])) w'):
  Calls prog 166 #[.pointer (some ⟨pb,0,none⟩),.int .i64 (id:Nat),aK nd lv] w R:=by
 by_cases h7:nd.kind=7
 ·by_cases h9:Ty.kindOf (tO s.of nd.a)=9
  ·exact NM hF h h7 h9 H hc hR
  ·exact Kp hF h h7 h9 H hc hR
 by_cases h8:nd.kind=8
 ·exact MQ hF h h8 H hc hR
 by_cases h9:nd.kind=9
 ·exact Ml hF h h9 H hc hR
 by_cases yp:nd.kind=14
 ·exact IZ hF h yp H hc hR
 by_cases Hw:nd.kind=17
 ·exact I9 hF h Hw H hc hR
 by_cases wX:nd.kind=18
 ·exact K4 hF h wX H hc hR
 by_cases OL:nd.kind=19
 ·exact KL hF h OL H hc hR
 by_cases nY:nd.kind=20
 ·by_cases h8:Ty.kindOf (tO s.of nd.a)=8
  ·exact JI hF h nY h8 H hc hR
  ·exact Hf hF h nY h8 H hc hR
 by_cases JP:nd.kind=24
 ·exact Jf hF h JP hB (bZ JP) H hc hR
 exact A9 hF h ⟨h7,h8,h9,yp,Hw,wX,OL,nY,JP⟩ H hc hR
end
end
end Go.Proofs.YtdlbhiaceheffabGreatDoor
