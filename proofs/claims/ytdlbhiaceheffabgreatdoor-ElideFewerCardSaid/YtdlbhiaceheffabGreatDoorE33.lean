/- Walk of place: own, at each kind of node. (Printed by gen_pl5.py.) -/
import Derived.Test.YtdlbhiaceheffabGreatDoorE32
set_option linter.all false
set_option maxRecDepth 100000
set_option maxHeartbeats 4000000
namespace Go.Proofs.YtdlbhiaceheffabGreatDoor
open Go Go.RowKit Ty Tok Prt Tryz Proofs.Tryz
section
open Ty (Tr Ck il)
structure PlN(wB:World)(X:Cx)(pg:Ty.Pg)(cb ofb hasb:Nat)(s:Ck)(h0:Prt.Hp)(id:Nat)(nd:Nd)(lv:Value):Prop where
 P:PB wB X.nv X.tv pg
 W:CkW wB cb X ofb hasb s h0
 Q:NdQ pg X.aK s id nd
 id:id<=100000
 ty:zz nd.ty pg.ts
 row:wB.ownsRow 0 3 1 lv nd.list.length (nd.list.map aO)
 len:nd.list.length<=1200
theorem EC{o:Option Tr}{v:Value}{a h:Prt.Hp}(g:O3 o v a)(hl:Prt.le a h):On h o v:=by
 cases o with
 |none=>exact g
 |some t=>exact bN hl _ _ g
theorem PlN.kx{wB:World}{X:Cx}{pg:Ty.Pg}{cb ofb hasb:Nat}{s:Ck}{h0:Prt.Hp}{id:Nat}{nd:Nd}{lv:Value}(h:PlN wB X pg cb ofb hasb s h0 id nd lv){n:Nat}(hn:n∈c8 pg nd++dz nd):n<=100000/\s.of n=some (tO s.of n):=by
 have h1:=h.Q.lt n hn;have h2:=h.id;refine⟨by omega,?_⟩;rcases List.mem_append.1 hn with hn|hn
 ·exact cn h.Q.kx hn
 ·exact cn h.Q.ky hn
section
variable {wB w:World} {Fr:As} {pb cb ofb hasb:Nat} {o:il} {bk:List (Option Tr)} {X:Cx} {s:Ck} {h0:Prt.Hp} {pg:Ty.Pg} {ov bv:Value} {bl:List Value} {h1:Prt.Hp}
theorem Aj(hF:gR wB Fr){id:Nat}{nd:Nd}{lv:Value}(h:PlN wB X pg cb ofb hasb s h0 id nd lv)(hk:nd.kind≠7/\nd.kind≠8/\nd.kind≠9/\nd.kind≠14/\nd.kind≠17/\nd.kind≠18/\nd.kind≠19/\nd.kind≠20/\nd.kind≠24)(H:Sat wB w (Fr::eW pb cb ov bv o bl h1))(hc:o.length+(dr pg X.aK s id nd bk).length<=100000){R:EW}
  (hR:∀ew w',Sat wB w' (Fr::eW pb cb ew bv (o++dr pg X.aK s id nd bk) bl h1)->R (.returned (.tuple #[])) w'):
  Calls prog 166 #[.pointer (some ⟨pb,0,none⟩),.int .i64 (id:Nat),aG nd lv] w R:=by
 obtain⟨la,lc,rfl⟩:=ag h.row;have hx:dr pg X.aK s id nd bk=[]:=by unfold dr;rw[if_neg (by omega)];rw[if_neg (by omega)];rw[if_neg (by omega)];rw[if_neg (by omega)];rw[if_neg (by omega)];rw[if_neg (by omega)];rw[if_neg (by omega)];rw[if_neg (by omega)]
 rw[hx]at hR hc
 have ho:o.length<=100000:=nT (Nat.le_add_right _ _) hc;have h3:Sat wB (w.alloc (az nd (.slice la nd.list.length lc))) (ah [Fr,av w.heap.size (az nd (.slice la nd.list.length lc))]::eW pb cb ov bv o bl h1):=(Sat.pack (L:=eW pb cb ov bv o bl h1) (M:=[Fr,av w.heap.size (az nd (.slice la nd.list.length lc))]) ((H.aj (az nd (.slice la nd.list.length lc)) w.heap.size).pick [1,2,3,4,0,5])).pick [4,0,1,2,3];have iN:gR wB (ah [Fr,av w.heap.size (az nd (.slice la nd.list.length lc))]):=hF.ah (M:=[av w.heap.size (az nd (.slice la nd.list.length lc))]);have fN:=h.W.below (iN _ _ 0 h3 rfl);have h4:=h3.unpack (i:=0) rfl;have x0:=h4.cell 5 rfl 0 rfl;have p0:=h3.cell 1 rfl 0 rfl;have jJ:=h3.lt 1 rfl;have c5:=fN.c5;have gh:=fN.lt;have tC:=qh (λew w'(g:Sat wB w' (ah [Fr,av w.heap.size (az nd (.slice la nd.list.length lc))]::eW pb cb ew bv (o++([])) bl h1))=>hR ew w' ((g.unpack (i:=0) rfl).pick [4,0,1,2,3]));have HG:=qh (tC.o ov _ (by rw[List.append_nil];exact h3));have e7: (((nd.kind:Nat):Int)==7)=false:=by simp;omega
 have e8: (((nd.kind:Nat):Int)==8)=false:=by simp;omega
 have e9: (((nd.kind:Nat):Int)==9)=false:=by simp;omega
 have QC: (((nd.kind:Nat):Int)==14)=false:=by simp;omega
 have zv: (((nd.kind:Nat):Int)==17)=false:=by simp;omega
 have tD: (((nd.kind:Nat):Int)==18)=false:=by simp;omega
 have Oh: (((nd.kind:Nat):Int)==19)=false:=by simp;omega
 have NM: (((nd.kind:Nat):Int)==20)=false:=by simp;omega
 have Wx: (((nd.kind:Nat):Int)==24)=false:=by simp;omega
 clear hR hF iN fN h4 h3 H hx hc h hk;go_in;unfold aG;go_wp2_with fail;go_end0;exact HG.o
theorem Mm(hF:gR wB Fr){id:Nat}{nd:Nd}{lv:Value}(h:PlN wB X pg cb ofb hasb s h0 id nd lv)(hk:nd.kind=8)(H:Sat wB w (Fr::eW pb cb ov bv o bl h1))(hc:o.length+(dr pg X.aK s id nd bk).length<=100000){R:EW}
  (hR:∀ew w',Sat wB w' (Fr::eW pb cb ew bv (o++dr pg X.aK s id nd bk) bl h1)->R (.returned (.tuple #[])) w'):
  Calls prog 166 #[.pointer (some ⟨pb,0,none⟩),.int .i64 (id:Nat),aG nd lv] w R:=by
 obtain⟨la,lc,rfl⟩:=ag h.row;have hx:dr pg X.aK s id nd bk=rH id (tO s.of id):=by unfold dr;rw[if_neg (by omega)];rw[if_pos (by omega)]
 rw[hx]at hR hc
 have ho:o.length<=100000:=nT (Nat.le_add_right _ _) hc;have h3:Sat wB (w.alloc (az nd (.slice la nd.list.length lc))) (ah [Fr,av w.heap.size (az nd (.slice la nd.list.length lc))]::eW pb cb ov bv o bl h1):=(Sat.pack (L:=eW pb cb ov bv o bl h1) (M:=[Fr,av w.heap.size (az nd (.slice la nd.list.length lc))]) ((H.aj (az nd (.slice la nd.list.length lc)) w.heap.size).pick [1,2,3,4,0,5])).pick [4,0,1,2,3];have iN:gR wB (ah [Fr,av w.heap.size (az nd (.slice la nd.list.length lc))]):=hF.ah (M:=[av w.heap.size (az nd (.slice la nd.list.length lc))]);have fN:=h.W.below (iN _ _ 0 h3 rfl);have h4:=h3.unpack (i:=0) rfl;have x0:=h4.cell 5 rfl 0 rfl;have p0:=h3.cell 1 rfl 0 rfl;have jJ:=h3.lt 1 rfl;have c5:=fN.c5;have gh:=fN.lt;have tC:=qh (λew w'(g:Sat wB w' (ah [Fr,av w.heap.size (az nd (.slice la nd.list.length lc))]::eW pb cb ew bv (o++(rH id (tO s.of id))) bl h1))=>hR ew w' ((g.unpack (i:=0) rfl).pick [4,0,1,2,3]));have hs:=h.Q.of (by omega) (by omega);have e_:s.of id=some (tO s.of id):=by
  unfold tO;cases hq:s.of id with
  |none=>rw[hq]at hs;cases hs
  |some u=>rfl
 obtain⟨p,bu,hr⟩:=fN.Gb h.id e_;have HG:=qh (λR=>ia (R:=R) (n:=id) h3 (bN fN.le _ _ hr) (h.W.fG.of _ _ e_).1 ho);obtain⟨b,rfl⟩:=aS hr;clear hs e_ hr;have e7: (((nd.kind:Nat):Int)==7)=false:=by rw[hk];rfl
 have e8: (((nd.kind:Nat):Int)==8)=true:=by rw[hk];rfl
 clear hR hF iN fN h4 h3 H hx hc h hk;go_in;unfold aG;go_wp2_with fail;refine HG.o _ (λsG w5 h5=>?_);have V8:=qh (tC.o sG w5 h5);clear h5;go_wp2_with fail;go_end0;exact V8.o
theorem Mq(hF:gR wB Fr){id:Nat}{nd:Nd}{lv:Value}(h:PlN wB X pg cb ofb hasb s h0 id nd lv)(hk:nd.kind=9)(H:Sat wB w (Fr::eW pb cb ov bv o bl h1))(hc:o.length+(dr pg X.aK s id nd bk).length<=100000){R:EW}
  (hR:∀ew w',Sat wB w' (Fr::eW pb cb ew bv (o++dr pg X.aK s id nd bk) bl h1)->R (.returned (.tuple #[])) w'):
  Calls prog 166 #[.pointer (some ⟨pb,0,none⟩),.int .i64 (id:Nat),aG nd lv] w R:=by
 obtain⟨la,lc,rfl⟩:=ag h.row;have hx:dr pg X.aK s id nd bk=rH id (tO s.of id):=by unfold dr;rw[if_neg (by omega)];rw[if_pos (by omega)]
 rw[hx]at hR hc
 have ho:o.length<=100000:=nT (Nat.le_add_right _ _) hc;have h3:Sat wB (w.alloc (az nd (.slice la nd.list.length lc))) (ah [Fr,av w.heap.size (az nd (.slice la nd.list.length lc))]::eW pb cb ov bv o bl h1):=(Sat.pack (L:=eW pb cb ov bv o bl h1) (M:=[Fr,av w.heap.size (az nd (.slice la nd.list.length lc))]) ((H.aj (az nd (.slice la nd.list.length lc)) w.heap.size).pick [1,2,3,4,0,5])).pick [4,0,1,2,3];have iN:gR wB (ah [Fr,av w.heap.size (az nd (.slice la nd.list.length lc))]):=hF.ah (M:=[av w.heap.size (az nd (.slice la nd.list.length lc))]);have fN:=h.W.below (iN _ _ 0 h3 rfl);have h4:=h3.unpack (i:=0) rfl;have x0:=h4.cell 5 rfl 0 rfl;have p0:=h3.cell 1 rfl 0 rfl;have jJ:=h3.lt 1 rfl;have c5:=fN.c5;have gh:=fN.lt;have tC:=qh (λew w'(g:Sat wB w' (ah [Fr,av w.heap.size (az nd (.slice la nd.list.length lc))]::eW pb cb ew bv (o++(rH id (tO s.of id))) bl h1))=>hR ew w' ((g.unpack (i:=0) rfl).pick [4,0,1,2,3]));have hs:=h.Q.of (by omega) (by omega);have e_:s.of id=some (tO s.of id):=by
  unfold tO;cases hq:s.of id with
  |none=>rw[hq]at hs;cases hs
  |some u=>rfl
 obtain⟨p,bu,hr⟩:=fN.Gb h.id e_;have HG:=qh (λR=>ia (R:=R) (n:=id) h3 (bN fN.le _ _ hr) (h.W.fG.of _ _ e_).1 ho);obtain⟨b,rfl⟩:=aS hr;clear hs e_ hr;have e7: (((nd.kind:Nat):Int)==7)=false:=by rw[hk];rfl
 have e8: (((nd.kind:Nat):Int)==8)=false:=by rw[hk];rfl
 have e9: (((nd.kind:Nat):Int)==9)=true:=by rw[hk];rfl
 clear hR hF iN fN h4 h3 H hx hc h hk;go_in;unfold aG;go_wp2_with fail;refine HG.o _ (λsG w5 h5=>?_);have V8:=qh (tC.o sG w5 h5);clear h5;go_wp2_with fail;go_end0;exact V8.o
theorem KQ(hF:gR wB Fr){id:Nat}{nd:Nd}{lv:Value}(h:PlN wB X pg cb ofb hasb s h0 id nd lv)(hk:nd.kind=14)(H:Sat wB w (Fr::eW pb cb ov bv o bl h1))(hc:o.length+(dr pg X.aK s id nd bk).length<=100000){R:EW}
  (hR:∀ew w',Sat wB w' (Fr::eW pb cb ew bv (o++dr pg X.aK s id nd bk) bl h1)->R (.returned (.tuple #[])) w'):
  Calls prog 166 #[.pointer (some ⟨pb,0,none⟩),.int .i64 (id:Nat),aG nd lv] w R:=by
 obtain⟨la,lc,rfl⟩:=ag h.row;have hx:dr pg X.aK s id nd bk=gV s.of nd.a (s.of id):=by unfold dr;rw[if_neg (by omega)];rw[if_neg (by omega)];rw[if_pos (by omega)]
 rw[hx]at hR hc
 have ho:o.length<=100000:=nT (Nat.le_add_right _ _) hc;have h3:Sat wB (w.alloc (az nd (.slice la nd.list.length lc))) (ah [Fr,av w.heap.size (az nd (.slice la nd.list.length lc))]::eW pb cb ov bv o bl h1):=(Sat.pack (L:=eW pb cb ov bv o bl h1) (M:=[Fr,av w.heap.size (az nd (.slice la nd.list.length lc))]) ((H.aj (az nd (.slice la nd.list.length lc)) w.heap.size).pick [1,2,3,4,0,5])).pick [4,0,1,2,3];have iN:gR wB (ah [Fr,av w.heap.size (az nd (.slice la nd.list.length lc))]):=hF.ah (M:=[av w.heap.size (az nd (.slice la nd.list.length lc))]);have fN:=h.W.below (iN _ _ 0 h3 rfl);have h4:=h3.unpack (i:=0) rfl;have x0:=h4.cell 5 rfl 0 rfl;have x1:=h4.cell 5 rfl 1 rfl;have p0:=h3.cell 1 rfl 0 rfl;have jJ:=h3.lt 1 rfl;have c5:=fN.c5;have gh:=fN.lt;have tC:=qh (λew w'(g:Sat wB w' (ah [Fr,av w.heap.size (az nd (.slice la nd.list.length lc))]::eW pb cb ew bv (o++(gV s.of nd.a (s.of id))) bl h1))=>hR ew w' ((g.unpack (i:=0) rfl).pick [4,0,1,2,3]));have cC:=qh iN;have HW:=qh h.W;have oM:=qh (iN _ _ 0 h3 rfl);have hs:=h.Q.of (by omega) (by omega);have e_:s.of id=some (tO s.of id):=by
  unfold tO;cases hq:s.of id with
  |none=>rw[hq]at hs;cases hs
  |some u=>rfl
 obtain⟨p,bu,hr⟩:=h.W.fW h.id e_;obtain⟨b,rfl⟩:=aS hr;have mU:=qh (λ(w5:World)(sG:Value)(o5:il)(h5:Sat wB w5 (ah [Fr,av w.heap.size (az nd (.slice la nd.list.length lc))]::eW pb cb sG bv o5 bl h1))=>show w5.cell? ⟨pb,0,none⟩=some (.pointer (some ⟨cb,0,none⟩))/\w5.cell? ⟨cb,5,none⟩=some (.map (some ofb))/\w5.cell? ⟨w.heap.size,1,none⟩=some (.int .i64 (nd.a:Nat))/\(Instr.lookup 103 (.map (some ofb)) (.int .i64 (id:Nat)) false).run prog w5=.ok (.pointer (some ⟨b,0,none⟩)) w5 from⟨h5.cell 1 rfl 0 rfl,(HW.o.below (cC.o _ _ 0 h5 rfl)).c5,(h5.unpack (i:=0) rfl).cell 5 rfl 1 rfl,bu _ (cC.o _ _ 0 h5 rfl)⟩);have hS:=mU.o _ _ _ h3.drew;have HA:=qh (λR=>iZ (R:=R) (n:=nd.a) (ot:=s.of id) cC.o HW.o h3.drew (by have:=(h.Q.asX hk).1;have:=h.id;omega) (h.Q.asX hk).2 (by rw[e_];exact bN fN.le _ _ hr) (λt e=>(h.W.fG.of _ _ e).1) ho);clear hs e_ hr bu;have e7: (((nd.kind:Nat):Int)==7)=false:=by rw[hk];rfl
 have e8: (((nd.kind:Nat):Int)==8)=false:=by rw[hk];rfl
 have e9: (((nd.kind:Nat):Int)==9)=false:=by rw[hk];rfl
 have QC: (((nd.kind:Nat):Int)==14)=true:=by rw[hk];rfl
 clear hR hF iN fN h4 h3 H hx hc h hk;go_in;unfold aG;go_wp2_with fail;go_region_held3(λw'=>w'.cell? ⟨pb,0,none⟩=some (.pointer (some ⟨cb,0,none⟩))/\w'.cell? ⟨cb,5,none⟩=some (.map (some ofb))/\w'.cell? ⟨w.heap.size,1,none⟩=some (.int .i64 (nd.a:Nat))/\(Instr.lookup 103 (.map (some ofb)) (.int .i64 (id:Nat)) false).run prog w'=.ok (.pointer (some ⟨b,0,none⟩)) w') (first|exact hS|exact pz)
  ((go_at_call 251;refine HA.o _ (λBn w6 h6=>?_);have pz:=mU.o w6 Bn _ h6;have Jr:=qh (tC.o Bn w6 h6);clear h6))
 all_goals
  go_wp2_with fail;go_end0;exact Jr.o
theorem Jj(hF:gR wB Fr){id:Nat}{nd:Nd}{lv:Value}(h:PlN wB X pg cb ofb hasb s h0 id nd lv)(hk:nd.kind=17)(H:Sat wB w (Fr::eW pb cb ov bv o bl h1))(hc:o.length+(dr pg X.aK s id nd bk).length<=100000){R:EW}
  (hR:∀ew w',Sat wB w' (Fr::eW pb cb ew bv (o++dr pg X.aK s id nd bk) bl h1)->R (.returned (.tuple #[])) w'):
  Calls prog 166 #[.pointer (some ⟨pb,0,none⟩),.int .i64 (id:Nat),aG nd lv] w R:=by
 obtain⟨la,lc,rfl⟩:=ag h.row;have hx:dr pg X.aK s id nd bk=gV s.of nd.a (dZ pg.ts nd.ty):=by unfold dr;rw[if_neg (by omega)];rw[if_neg (by omega)];rw[if_neg (by omega)];rw[if_pos (by omega)]
 rw[hx]at hR hc
 have ho:o.length<=100000:=nT (Nat.le_add_right _ _) hc;have h3:Sat wB (w.alloc (az nd (.slice la nd.list.length lc))) (ah [Fr,av w.heap.size (az nd (.slice la nd.list.length lc))]::eW pb cb ov bv o bl h1):=(Sat.pack (L:=eW pb cb ov bv o bl h1) (M:=[Fr,av w.heap.size (az nd (.slice la nd.list.length lc))]) ((H.aj (az nd (.slice la nd.list.length lc)) w.heap.size).pick [1,2,3,4,0,5])).pick [4,0,1,2,3];have iN:gR wB (ah [Fr,av w.heap.size (az nd (.slice la nd.list.length lc))]):=hF.ah (M:=[av w.heap.size (az nd (.slice la nd.list.length lc))]);have fN:=h.W.below (iN _ _ 0 h3 rfl);have h4:=h3.unpack (i:=0) rfl;have x0:=h4.cell 5 rfl 0 rfl;have x1:=h4.cell 5 rfl 1 rfl;have x7:=h4.cell 5 rfl 7 rfl;have p0:=h3.cell 1 rfl 0 rfl;have jJ:=h3.lt 1 rfl;have c5:=fN.c5;have gh:=fN.lt;have tC:=qh (λew w'(g:Sat wB w' (ah [Fr,av w.heap.size (az nd (.slice la nd.list.length lc))]::eW pb cb ew bv (o++(gV s.of nd.a (dZ pg.ts nd.ty))) bl h1))=>hR ew w' ((g.unpack (i:=0) rfl).pick [4,0,1,2,3]));have cC:=qh iN;have HW:=qh h.W;have oM:=qh (iN _ _ 0 h3 rfl);have mH:=h.kx (n:=nd.a) (by unfold dz;rw[if_pos (by omega)];simp);have mU:=qh (λ(w5:World)(sG:Value)(o5:il)(h5:Sat wB w5 (ah [Fr,av w.heap.size (az nd (.slice la nd.list.length lc))]::eW pb cb sG bv o5 bl h1))=>show w5.cell? ⟨pb,0,none⟩=some (.pointer (some ⟨cb,0,none⟩))/\w5.cell? ⟨w.heap.size,1,none⟩=some (.int .i64 (nd.a:Nat))/\w5.cell? ⟨w.heap.size,7,none⟩=some (.int .i64 nd.ty)from⟨h5.cell 1 rfl 0 rfl,(h5.unpack (i:=0) rfl).cell 5 rfl 1 rfl,(h5.unpack (i:=0) rfl).cell 5 rfl 7 rfl⟩);have hS:=mU.o _ _ _ h3.drew;have SG:=qh (λR=>gT (R:=R) h.P (oM.o.drew) (fN.drew.c1) (fN.drew.lt) h.ty);have sK:=qh (λt(e:dZ pg.ts nd.ty=some t)=>(jP h.P.ok h.ty e).1);have H3:=qh h3.drew;have wK:=qh mH;clear mH;have e7: (((nd.kind:Nat):Int)==7)=false:=by rw[hk];rfl
 have e8: (((nd.kind:Nat):Int)==8)=false:=by rw[hk];rfl
 have e9: (((nd.kind:Nat):Int)==9)=false:=by rw[hk];rfl
 have QC: (((nd.kind:Nat):Int)==14)=false:=by rw[hk];rfl
 have zv: (((nd.kind:Nat):Int)==17)=true:=by rw[hk];rfl
 clear hR hF iN fN h4 h3 H hx hc h hk;go_in;unfold aG;go_wp2_with fail;go_region_held3(λw'=>w'.cell? ⟨pb,0,none⟩=some (.pointer (some ⟨cb,0,none⟩))/\w'.cell? ⟨w.heap.size,1,none⟩=some (.int .i64 (nd.a:Nat))/\w'.cell? ⟨w.heap.size,7,none⟩=some (.int .i64 nd.ty)) (first|exact hS|exact Aw|exact pz)
  (first
   |(go_at_call 154;refine SG.o _ (λv w5 h5=>?_);have g5:=H3.o.join h5;have TP:=g5.get (i:=5) rfl λ_ ha hl=>EC ha hl;have g6:=g5.pick [0,1,2,3,4];have Aw:=mU.o w5 ov _ g6;have HA:=qh (λR=>iZ (R:=R) (n:=nd.a) (ot:=dZ pg.ts nd.ty) cC.o HW.o g6 wK.o.1 (by rw[wK.o.2];rfl) TP sK.o ho);clear h5 g5 g6 TP)
   |(go_at_call 251;refine HA.o _ (λBn w6 h6=>?_);have pz:=mU.o w6 Bn _ h6;have Jr:=qh (tC.o Bn w6 h6);clear h6))
 all_goals
  go_wp2_with fail;go_end0;exact Jr.o
theorem KH(hF:gR wB Fr){id:Nat}{nd:Nd}{lv:Value}(h:PlN wB X pg cb ofb hasb s h0 id nd lv)(hk:nd.kind=18)(H:Sat wB w (Fr::eW pb cb ov bv o bl h1))(hc:o.length+(dr pg X.aK s id nd bk).length<=100000){R:EW}
  (hR:∀ew w',Sat wB w' (Fr::eW pb cb ew bv (o++dr pg X.aK s id nd bk) bl h1)->R (.returned (.tuple #[])) w'):
  Calls prog 166 #[.pointer (some ⟨pb,0,none⟩),.int .i64 (id:Nat),aG nd lv] w R:=by
 obtain⟨la,lc,rfl⟩:=ag h.row;have hx:dr pg X.aK s id nd bk=gV s.of nd.a (s.has (X.aK id)):=by unfold dr;rw[if_neg (by omega)];rw[if_neg (by omega)];rw[if_neg (by omega)];rw[if_neg (by omega)];rw[if_pos (by omega)]
 rw[hx]at hR hc
 have ho:o.length<=100000:=nT (Nat.le_add_right _ _) hc;have h3:Sat wB (w.alloc (az nd (.slice la nd.list.length lc))) (ah [Fr,av w.heap.size (az nd (.slice la nd.list.length lc))]::eW pb cb ov bv o bl h1):=(Sat.pack (L:=eW pb cb ov bv o bl h1) (M:=[Fr,av w.heap.size (az nd (.slice la nd.list.length lc))]) ((H.aj (az nd (.slice la nd.list.length lc)) w.heap.size).pick [1,2,3,4,0,5])).pick [4,0,1,2,3];have iN:gR wB (ah [Fr,av w.heap.size (az nd (.slice la nd.list.length lc))]):=hF.ah (M:=[av w.heap.size (az nd (.slice la nd.list.length lc))]);have fN:=h.W.below (iN _ _ 0 h3 rfl);have h4:=h3.unpack (i:=0) rfl;have x0:=h4.cell 5 rfl 0 rfl;have x1:=h4.cell 5 rfl 1 rfl;have p0:=h3.cell 1 rfl 0 rfl;have jJ:=h3.lt 1 rfl;have c5:=fN.c5;have gh:=fN.lt;have tC:=qh (λew w'(g:Sat wB w' (ah [Fr,av w.heap.size (az nd (.slice la nd.list.length lc))]::eW pb cb ew bv (o++(gV s.of nd.a (s.has (X.aK id)))) bl h1))=>hR ew w' ((g.unpack (i:=0) rfl).pick [4,0,1,2,3]));have cC:=qh iN;have HW:=qh h.W;have oM:=qh (iN _ _ 0 h3 rfl);have mH:=h.kx (n:=nd.a) (by unfold dz;rw[if_pos (by omega)];simp);obtain⟨t,ht⟩:∃t,s.has (X.aK id)=some t:=by
  have:=h.Q.set hk;cases hq:s.has (X.aK id)with
  |none=>rw[hq]at this;cases this
  |some t=>exact⟨t,rfl⟩
 have ZV:=qh h.id;obtain⟨p,bu,hr⟩:=h.W.hasAll (h.W.oL h.id).2 ht;obtain⟨b,rfl⟩:=aS hr;have mU:=qh (λ(w5:World)(sG:Value)(o5:il)(h5:Sat wB w5 (ah [Fr,av w.heap.size (az nd (.slice la nd.list.length lc))]::eW pb cb sG bv o5 bl h1))=>show w5.cell? ⟨pb,0,none⟩=some (.pointer (some ⟨cb,0,none⟩))/\w5.cell? ⟨cb,6,none⟩=some (.map (some hasb))/\w5.cell? ⟨cb,3,none⟩=some (.map (some X.nV))/\w5.cell? ⟨w.heap.size,1,none⟩=some (.int .i64 (nd.a:Nat))/\(Instr.lookup 102 (.map (some X.nV)) (.int .i64 (id:Nat)) false).run prog w5=.ok (.int .i64 (X.aK id:Nat)) w5/\(Instr.lookup 103 (.map (some hasb)) (.int .i64 (X.aK id:Nat)) false).run prog w5=.ok (.pointer (some ⟨b,0,none⟩)) w5 from⟨h5.cell 1 rfl 0 rfl,(HW.o.below (cC.o _ _ 0 h5 rfl)).c6,(HW.o.below (cC.o _ _ 0 h5 rfl)).c3,(h5.unpack (i:=0) rfl).cell 5 rfl 1 rfl,((HW.o.below (cC.o _ _ 0 h5 rfl)).oL ZV.o).1,bu _ (cC.o _ _ 0 h5 rfl)⟩);have hS:=mU.o _ _ _ h3.drew;have HA:=qh (λR=>iZ (R:=R) (n:=nd.a) (ot:=s.has (X.aK id)) cC.o HW.o h3.drew mH.1 (by rw[mH.2];rfl) (by rw[ht];exact bN fN.le _ _ hr) (λt e=>(h.W.fG.has _ _ e).1) ho);clear mH ht hr bu;have e7: (((nd.kind:Nat):Int)==7)=false:=by rw[hk];rfl
 have e8: (((nd.kind:Nat):Int)==8)=false:=by rw[hk];rfl
 have e9: (((nd.kind:Nat):Int)==9)=false:=by rw[hk];rfl
 have QC: (((nd.kind:Nat):Int)==14)=false:=by rw[hk];rfl
 have zv: (((nd.kind:Nat):Int)==17)=false:=by rw[hk];rfl
 have tD: (((nd.kind:Nat):Int)==18)=true:=by rw[hk];rfl
 clear hR hF iN fN h4 h3 H hx hc h hk;go_in;unfold aG;go_wp2_with fail;go_region_held3(λw'=>w'.cell? ⟨pb,0,none⟩=some (.pointer (some ⟨cb,0,none⟩))/\w'.cell? ⟨cb,6,none⟩=some (.map (some hasb))/\w'.cell? ⟨cb,3,none⟩=some (.map (some X.nV))/\w'.cell? ⟨w.heap.size,1,none⟩=some (.int .i64 (nd.a:Nat))/\(Instr.lookup 102 (.map (some X.nV)) (.int .i64 (id:Nat)) false).run prog w'=.ok (.int .i64 (X.aK id:Nat)) w'/\(Instr.lookup 103 (.map (some hasb)) (.int .i64 (X.aK id:Nat)) false).run prog w'=.ok (.pointer (some ⟨b,0,none⟩)) w') (first|exact hS|exact pz)
  ((go_at_call 251;refine HA.o _ (λBn w6 h6=>?_);have pz:=mU.o w6 Bn _ h6;have Jr:=qh (tC.o Bn w6 h6);clear h6))
 all_goals
  go_wp2_with fail;go_end0;exact Jr.o
theorem J9(hF:gR wB Fr){id:Nat}{nd:Nd}{lv:Value}(h:PlN wB X pg cb ofb hasb s h0 id nd lv)(hk:nd.kind=19)(H:Sat wB w (Fr::eW pb cb ov bv o bl h1))(hc:o.length+(dr pg X.aK s id nd bk).length<=100000){R:EW}
  (hR:∀ew w',Sat wB w' (Fr::eW pb cb ew bv (o++dr pg X.aK s id nd bk) bl h1)->R (.returned (.tuple #[])) w'):
  Calls prog 166 #[.pointer (some ⟨pb,0,none⟩),.int .i64 (id:Nat),aG nd lv] w R:=by
 obtain⟨la,lc,rfl⟩:=ag h.row;have hx:dr pg X.aK s id nd bk=gV s.of nd.b (nM (tO s.of nd.a) nd.text):=by unfold dr;rw[if_neg (by omega)];rw[if_neg (by omega)];rw[if_neg (by omega)];rw[if_neg (by omega)];rw[if_neg (by omega)];rw[if_pos (by omega)]
 rw[hx]at hR hc
 have ho:o.length<=100000:=nT (Nat.le_add_right _ _) hc;have h3:Sat wB (w.alloc (az nd (.slice la nd.list.length lc))) (ah [Fr,av w.heap.size (az nd (.slice la nd.list.length lc))]::eW pb cb ov bv o bl h1):=(Sat.pack (L:=eW pb cb ov bv o bl h1) (M:=[Fr,av w.heap.size (az nd (.slice la nd.list.length lc))]) ((H.aj (az nd (.slice la nd.list.length lc)) w.heap.size).pick [1,2,3,4,0,5])).pick [4,0,1,2,3];have iN:gR wB (ah [Fr,av w.heap.size (az nd (.slice la nd.list.length lc))]):=hF.ah (M:=[av w.heap.size (az nd (.slice la nd.list.length lc))]);have fN:=h.W.below (iN _ _ 0 h3 rfl);have h4:=h3.unpack (i:=0) rfl;have x0:=h4.cell 5 rfl 0 rfl;have x1:=h4.cell 5 rfl 1 rfl;have x2:=h4.cell 5 rfl 2 rfl;have x5:=h4.cell 5 rfl 5 rfl;have p0:=h3.cell 1 rfl 0 rfl;have jJ:=h3.lt 1 rfl;have c5:=fN.c5;have gh:=fN.lt;have tC:=qh (λew w'(g:Sat wB w' (ah [Fr,av w.heap.size (az nd (.slice la nd.list.length lc))]::eW pb cb ew bv (o++(gV s.of nd.b (nM (tO s.of nd.a) nd.text))) bl h1))=>hR ew w' ((g.unpack (i:=0) rfl).pick [4,0,1,2,3]));have cC:=qh iN;have HW:=qh h.W;have oM:=qh (iN _ _ 0 h3 rfl);have hy:dz nd=[nd.a,nd.b]:=by unfold dz;rw[if_neg (by omega),if_pos hk]
 have mH:=h.kx (n:=nd.a) (by rw[hy];simp);have MR:=h.kx (n:=nd.b) (by rw[hy];simp);obtain⟨p,bu,hr⟩:=h.W.fW mH.1 mH.2;obtain⟨b,rfl⟩:=aS hr;have Ik:=(h.W.fG.of _ _ mH.2).1;have mU:=qh (λ(w5:World)(sG:Value)(o5:il)(h5:Sat wB w5 (ah [Fr,av w.heap.size (az nd (.slice la nd.list.length lc))]::eW pb cb sG bv o5 bl h1))=>show w5.cell? ⟨pb,0,none⟩=some (.pointer (some ⟨cb,0,none⟩))/\w5.cell? ⟨cb,5,none⟩=some (.map (some ofb))/\w5.cell? ⟨w.heap.size,1,none⟩=some (.int .i64 (nd.a:Nat))/\w5.cell? ⟨w.heap.size,2,none⟩=some (.int .i64 (nd.b:Nat))/\w5.cell? ⟨w.heap.size,5,none⟩=some (.string nd.text)/\(Instr.lookup 103 (.map (some ofb)) (.int .i64 (nd.a:Nat)) false).run prog w5=.ok (.pointer (some ⟨b,0,none⟩)) w5 from⟨h5.cell 1 rfl 0 rfl,(HW.o.below (cC.o _ _ 0 h5 rfl)).c5,(h5.unpack (i:=0) rfl).cell 5 rfl 1 rfl,(h5.unpack (i:=0) rfl).cell 5 rfl 2 rfl,(h5.unpack (i:=0) rfl).cell 5 rfl 5 rfl,bu _ (cC.o _ _ 0 h5 rfl)⟩);have hS:=mU.o _ _ _ h3.drew;have uY:=qh (λR=>Cy (R:=R) (w:=(w.alloc (az nd (.slice la nd.list.length lc))).drew) fN.drew.le hr Ik.ok nd.text);have sK:=qh (λt(e:nM (tO s.of nd.a) nd.text=some t)=>DM Ik e);have H3:=qh h3.drew;have Ht:=qh MR;clear mH MR hr bu hy Ik;have e7: (((nd.kind:Nat):Int)==7)=false:=by rw[hk];rfl
 have e8: (((nd.kind:Nat):Int)==8)=false:=by rw[hk];rfl
 have e9: (((nd.kind:Nat):Int)==9)=false:=by rw[hk];rfl
 have QC: (((nd.kind:Nat):Int)==14)=false:=by rw[hk];rfl
 have zv: (((nd.kind:Nat):Int)==17)=false:=by rw[hk];rfl
 have tD: (((nd.kind:Nat):Int)==18)=false:=by rw[hk];rfl
 have Oh: (((nd.kind:Nat):Int)==19)=true:=by rw[hk];rfl
 clear hR hF iN fN h4 h3 H hx hc h hk;go_in;unfold aG;go_wp2_with fail;go_region_held3(λw'=>w'.cell? ⟨pb,0,none⟩=some (.pointer (some ⟨cb,0,none⟩))/\w'.cell? ⟨cb,5,none⟩=some (.map (some ofb))/\w'.cell? ⟨w.heap.size,1,none⟩=some (.int .i64 (nd.a:Nat))/\w'.cell? ⟨w.heap.size,2,none⟩=some (.int .i64 (nd.b:Nat))/\w'.cell? ⟨w.heap.size,5,none⟩=some (.string nd.text)/\(Instr.lookup 103 (.map (some ofb)) (.int .i64 (nd.a:Nat)) false).run prog w'=.ok (.pointer (some ⟨b,0,none⟩)) w') (first|exact hS|exact Aw|exact pz)
  (first
   |(go_at_call 252;refine uY.o _ (λv w5 dM TP=>?_);have g6:=H3.o.below dM;have Aw:=mU.o w5 ov _ g6;have HA:=qh (λR=>iZ (R:=R) (n:=nd.b) (ot:=nM (tO s.of nd.a) nd.text) cC.o HW.o g6 Ht.o.1 (by rw[Ht.o.2];rfl) TP sK.o ho);clear dM g6 TP)
   |(go_at_call 251;refine HA.o _ (λBn w6 h6=>?_);have pz:=mU.o w6 Bn _ h6;have Jr:=qh (tC.o Bn w6 h6);clear h6))
 all_goals
  go_wp2_with fail;go_end0;exact Jr.o
theorem Jg(hF:gR wB Fr){id:Nat}{nd:Nd}{lv:Value}(h:PlN wB X pg cb ofb hasb s h0 id nd lv)(hk:nd.kind=20)(h8:Ty.kindOf (tO s.of nd.a)=8)(H:Sat wB w (Fr::eW pb cb ov bv o bl h1))(hc:o.length+(dr pg X.aK s id nd bk).length<=100000){R:EW}
  (hR:∀ew w',Sat wB w' (Fr::eW pb cb ew bv (o++dr pg X.aK s id nd bk) bl h1)->R (.returned (.tuple #[])) w'):
  Calls prog 166 #[.pointer (some ⟨pb,0,none⟩),.int .i64 (id:Nat),aG nd lv] w R:=by
 obtain⟨la,lc,rfl⟩:=ag h.row;have hx:dr pg X.aK s id nd bk=gV s.of nd.c.toNat (some (eP (tO s.of nd.a))):=by unfold dr;rw[if_neg (by omega)];rw[if_neg (by omega)];rw[if_neg (by omega)];rw[if_neg (by omega)];rw[if_neg (by omega)];rw[if_neg (by omega)];rw[if_pos (by omega)];rw[if_pos h8]
 rw[hx]at hR hc
 have ho:o.length<=100000:=nT (Nat.le_add_right _ _) hc;have h3:Sat wB (w.alloc (az nd (.slice la nd.list.length lc))) (ah [Fr,av w.heap.size (az nd (.slice la nd.list.length lc))]::eW pb cb ov bv o bl h1):=(Sat.pack (L:=eW pb cb ov bv o bl h1) (M:=[Fr,av w.heap.size (az nd (.slice la nd.list.length lc))]) ((H.aj (az nd (.slice la nd.list.length lc)) w.heap.size).pick [1,2,3,4,0,5])).pick [4,0,1,2,3];have iN:gR wB (ah [Fr,av w.heap.size (az nd (.slice la nd.list.length lc))]):=hF.ah (M:=[av w.heap.size (az nd (.slice la nd.list.length lc))]);have fN:=h.W.below (iN _ _ 0 h3 rfl);have h4:=h3.unpack (i:=0) rfl;have x0:=h4.cell 5 rfl 0 rfl;have x1:=h4.cell 5 rfl 1 rfl;have x3:=h4.cell 5 rfl 3 rfl;have p0:=h3.cell 1 rfl 0 rfl;have jJ:=h3.lt 1 rfl;have c5:=fN.c5;have gh:=fN.lt;have tC:=qh (λew w'(g:Sat wB w' (ah [Fr,av w.heap.size (az nd (.slice la nd.list.length lc))]::eW pb cb ew bv (o++(gV s.of nd.c.toNat (some (eP (tO s.of nd.a))))) bl h1))=>hR ew w' ((g.unpack (i:=0) rfl).pick [4,0,1,2,3]));have cC:=qh iN;have HW:=qh h.W;have oM:=qh (iN _ _ 0 h3 rfl);have hy:dz nd=[nd.a,nd.b,nd.c.toNat]:=by unfold dz;rw[if_neg (by omega),if_neg (by omega),if_pos hk]
 have mH:=h.kx (n:=nd.a) (by rw[hy];simp);have Hb:=h.kx (n:=nd.c.toNat) (by rw[hy];simp);have US:=h.Q.lay hk;have zo: ((nd.c.toNat:Nat):Int)=nd.c:=by omega
 obtain⟨p,bu,hr⟩:=h.W.fW mH.1 mH.2;obtain⟨b,rfl⟩:=aS hr;have pM:=bu _ (iN _ _ 0 h3 rfl);have cu:=bu _ (iN _ _ 0 h3.drew rfl);obtain⟨BR,k0⟩:=fN.kind hr;have Ik:=(h.W.fG.of _ _ mH.2).1;obtain⟨QR,YP,v3,adb,_,_,_,q3,WN,_⟩:=Dn h.W.le hr Ik.ok;have HQ:=qh (λ(w5:World)(g:Below wB.heap.size wB w5)=>ak g q3);have Yr:=WN (.inl h8);have mU:=qh (λ(w5:World)(sG:Value)(o5:il)(h5:Sat wB w5 (ah [Fr,av w.heap.size (az nd (.slice la nd.list.length lc))]::eW pb cb sG bv o5 bl h1))=>show w5.cell? ⟨w.heap.size,3,none⟩=some (.int .i64 nd.c)/\w5.cell? ⟨b,3,none⟩=some v3 from⟨(h5.unpack (i:=0) rfl).cell 5 rfl 3 rfl,HQ.o w5 (cC.o _ _ 0 h5 rfl)⟩);have hS:=mU.o _ _ _ h3.drew.drew;have HA:=qh (λR=>iZ (R:=R) (n:=nd.c.toNat) (ot:=some (eP (tO s.of nd.a))) cC.o HW.o h3.drew.drew Hb.1 (by rw[Hb.2];rfl) (bN fN.le _ _ Yr) (λt e=>by cases e;exact(yh Ik (.inl h8)).1) ho);rw[zo]at HA
 rw[h8]at k0
 clear mH Hb hr bu hy Ik WN Yr q3 QR US zo h8;have e7: (((nd.kind:Nat):Int)==7)=false:=by rw[hk];rfl
 have e8: (((nd.kind:Nat):Int)==8)=false:=by rw[hk];rfl
 have e9: (((nd.kind:Nat):Int)==9)=false:=by rw[hk];rfl
 have QC: (((nd.kind:Nat):Int)==14)=false:=by rw[hk];rfl
 have zv: (((nd.kind:Nat):Int)==17)=false:=by rw[hk];rfl
 have tD: (((nd.kind:Nat):Int)==18)=false:=by rw[hk];rfl
 have Oh: (((nd.kind:Nat):Int)==19)=false:=by rw[hk];rfl
 have NM: (((nd.kind:Nat):Int)==20)=true:=by rw[hk];rfl
 clear hR hF iN fN h4 h3 H hx hc h hk;go_in;unfold aG;go_wp2_with fail
 go_region
 all_goals
  go_wp2_with fail;go_region_held3(λw'=>w'.cell? ⟨w.heap.size,3,none⟩=some (.int .i64 nd.c)/\w'.cell? ⟨b,3,none⟩=some v3) (first|exact hS|exact pz)
   ((go_at_call 251;refine HA.o _ (λBn w6 h6=>?_);have pz:=mU.o w6 Bn _ h6;have Jr:=qh (tC.o Bn w6 h6);clear h6))
  all_goals
   go_wp2_with fail;go_end0;exact Jr.o
theorem G2(hF:gR wB Fr){id:Nat}{nd:Nd}{lv:Value}(h:PlN wB X pg cb ofb hasb s h0 id nd lv)(hk:nd.kind=20)(h8:Ty.kindOf (tO s.of nd.a)≠8)(H:Sat wB w (Fr::eW pb cb ov bv o bl h1))(hc:o.length+(dr pg X.aK s id nd bk).length<=100000){R:EW}
  (hR:∀ew w',Sat wB w' (Fr::eW pb cb ew bv (o++dr pg X.aK s id nd bk) bl h1)->R (.returned (.tuple #[])) w'):
  Calls prog 166 #[.pointer (some ⟨pb,0,none⟩),.int .i64 (id:Nat),aG nd lv] w R:=by
 obtain⟨la,lc,rfl⟩:=ag h.row;have hx:dr pg X.aK s id nd bk=[]:=by unfold dr;rw[if_neg (by omega)];rw[if_neg (by omega)];rw[if_neg (by omega)];rw[if_neg (by omega)];rw[if_neg (by omega)];rw[if_neg (by omega)];rw[if_pos (by omega)];rw[if_neg h8]
 rw[hx]at hR hc
 have ho:o.length<=100000:=nT (Nat.le_add_right _ _) hc;have h3:Sat wB (w.alloc (az nd (.slice la nd.list.length lc))) (ah [Fr,av w.heap.size (az nd (.slice la nd.list.length lc))]::eW pb cb ov bv o bl h1):=(Sat.pack (L:=eW pb cb ov bv o bl h1) (M:=[Fr,av w.heap.size (az nd (.slice la nd.list.length lc))]) ((H.aj (az nd (.slice la nd.list.length lc)) w.heap.size).pick [1,2,3,4,0,5])).pick [4,0,1,2,3];have iN:gR wB (ah [Fr,av w.heap.size (az nd (.slice la nd.list.length lc))]):=hF.ah (M:=[av w.heap.size (az nd (.slice la nd.list.length lc))]);have fN:=h.W.below (iN _ _ 0 h3 rfl);have h4:=h3.unpack (i:=0) rfl;have x0:=h4.cell 5 rfl 0 rfl;have x1:=h4.cell 5 rfl 1 rfl;have p0:=h3.cell 1 rfl 0 rfl;have jJ:=h3.lt 1 rfl;have c5:=fN.c5;have gh:=fN.lt;have tC:=qh (λew w'(g:Sat wB w' (ah [Fr,av w.heap.size (az nd (.slice la nd.list.length lc))]::eW pb cb ew bv (o++([])) bl h1))=>hR ew w' ((g.unpack (i:=0) rfl).pick [4,0,1,2,3]));have cC:=qh iN;have HW:=qh h.W;have oM:=qh (iN _ _ 0 h3 rfl);have hy:dz nd=[nd.a,nd.b,nd.c.toNat]:=by unfold dz;rw[if_neg (by omega),if_neg (by omega),if_pos hk]
 have mH:=h.kx (n:=nd.a) (by rw[hy];simp);have Hb:=h.kx (n:=nd.c.toNat) (by rw[hy];simp);have US:=h.Q.lay hk;have zo: ((nd.c.toNat:Nat):Int)=nd.c:=by omega
 obtain⟨p,bu,hr⟩:=h.W.fW mH.1 mH.2;obtain⟨b,rfl⟩:=aS hr;have pM:=bu _ (iN _ _ 0 h3 rfl);have cu:=bu _ (iN _ _ 0 h3.drew rfl);obtain⟨BR,k0⟩:=fN.kind hr;have adu: (((Ty.kindOf (tO s.of nd.a):Nat):Int)==8)=false:=beq_eq_false_iff_ne.2 (by omega);have HG:=qh (tC.o ov _ (by rw[List.append_nil];exact h3.drew));generalize Ty.kindOf (tO s.of nd.a)=kk at*
 clear mH Hb hr bu hy US zo h8;have e7: (((nd.kind:Nat):Int)==7)=false:=by rw[hk];rfl
 have e8: (((nd.kind:Nat):Int)==8)=false:=by rw[hk];rfl
 have e9: (((nd.kind:Nat):Int)==9)=false:=by rw[hk];rfl
 have QC: (((nd.kind:Nat):Int)==14)=false:=by rw[hk];rfl
 have zv: (((nd.kind:Nat):Int)==17)=false:=by rw[hk];rfl
 have tD: (((nd.kind:Nat):Int)==18)=false:=by rw[hk];rfl
 have Oh: (((nd.kind:Nat):Int)==19)=false:=by rw[hk];rfl
 have NM: (((nd.kind:Nat):Int)==20)=true:=by rw[hk];rfl
 clear hR hF iN fN h4 h3 H hx hc h hk;go_in;unfold aG;go_wp2_with fail
 go_region
 all_goals
  go_wp2_with fail;go_end0;exact HG.o
theorem KD(hF:gR wB Fr){id:Nat}{nd:Nd}{lv:Value}(h:PlN wB X pg cb ofb hasb s h0 id nd lv)(hk:nd.kind=24)(hB:PlI bk bl h1)(bT:bk≠[])(H:Sat wB w (Fr::eW pb cb ov bv o bl h1))(hc:o.length+(dr pg X.aK s id nd bk).length<=100000){R:EW}
  (hR:∀ew w',Sat wB w' (Fr::eW pb cb ew bv (o++dr pg X.aK s id nd bk) bl h1)->R (.returned (.tuple #[])) w'):
  Calls prog 166 #[.pointer (some ⟨pb,0,none⟩),.int .i64 (id:Nat),aG nd lv] w R:=by
 obtain⟨la,lc,rfl⟩:=ag h.row;have hx:dr pg X.aK s id nd bk=gV s.of nd.a (bk.getLastD none):=by unfold dr;rw[if_neg (by omega)];rw[if_neg (by omega)];rw[if_neg (by omega)];rw[if_neg (by omega)];rw[if_neg (by omega)];rw[if_neg (by omega)];rw[if_neg (by omega)];rw[if_pos (by omega)]
 rw[hx]at hR hc
 have ho:o.length<=100000:=nT (Nat.le_add_right _ _) hc;have h3:Sat wB (w.alloc (az nd (.slice la nd.list.length lc))) (ah [Fr,av w.heap.size (az nd (.slice la nd.list.length lc))]::eW pb cb ov bv o bl h1):=(Sat.pack (L:=eW pb cb ov bv o bl h1) (M:=[Fr,av w.heap.size (az nd (.slice la nd.list.length lc))]) ((H.aj (az nd (.slice la nd.list.length lc)) w.heap.size).pick [1,2,3,4,0,5])).pick [4,0,1,2,3];have iN:gR wB (ah [Fr,av w.heap.size (az nd (.slice la nd.list.length lc))]):=hF.ah (M:=[av w.heap.size (az nd (.slice la nd.list.length lc))]);have fN:=h.W.below (iN _ _ 0 h3 rfl);have h4:=h3.unpack (i:=0) rfl;have x0:=h4.cell 5 rfl 0 rfl;have x1:=h4.cell 5 rfl 1 rfl;have p0:=h3.cell 1 rfl 0 rfl;have jJ:=h3.lt 1 rfl;have c5:=fN.c5;have gh:=fN.lt;have tC:=qh (λew w'(g:Sat wB w' (ah [Fr,av w.heap.size (az nd (.slice la nd.list.length lc))]::eW pb cb ew bv (o++(gV s.of nd.a (bk.getLastD none))) bl h1))=>hR ew w' ((g.unpack (i:=0) rfl).pick [4,0,1,2,3]));have cC:=qh iN;have HW:=qh h.W;have oM:=qh (iN _ _ 0 h3 rfl);have mH:=h.kx (n:=nd.a) (by unfold dz;rw[if_pos (by omega)];simp);obtain⟨k,Cl⟩:∃k,bl.length=k+1:=⟨bl.length-1,by have:=hB.len;have:=List.length_pos_iff.2 bT;omega⟩
 have Vo:bk.length=k+1:=by rw[<-hB.len];exact Cl
 obtain⟨gb,Tf,eb,Yk,d0⟩:=fF (h3.row 3 rfl) k (by omega);subst eb;have adP:k<=100000:=by have:=hB.mQ;omega
 have XT:=hB.bl k (by omega) (by omega);have YE:bk.getLastD none=bk[k]'(by omega):=by
  rw[List.getLastD_eq_getLast?,List.getLast?_eq_getElem?,show bk.length-1=k by omega,List.getElem?_eq_getElem (by omega)];rfl
 have Xr:∀t,bk[k]'(by omega)=some t->Fine t:=λt e=>hB.fG t (by rw[<-e];exact gM _)
 rw[<-YE]at XT Xr
 have hle:Prt.le h1 (Prt.hp (w.alloc (az nd (.slice la nd.list.length lc))).drew):=h3.drew.get (i:=4) rfl λa ha hl=>Prt.le_trans ha hl
 have du:Hq (∀(w5:World)(sG:Value)(o5:il),Sat wB w5 (ah [Fr,av w.heap.size (az nd (.slice la nd.list.length lc))]::eW pb cb sG (.slice (some ⟨gb,0,none⟩) bl.length Tf) o5 bl h1)->w5.cell? ⟨gb,k,none⟩=some (bl[k]'(by omega))):=λw5 sG o5 h5=>by
  obtain⟨_,_,e,_,d⟩:=fF (h5.row 3 rfl) k (by omega);cases e;exact d
 have hw:=IntWalk.i64_in (n:=(k:Int)) (by omega);have hs:IntKind.i64.wrap (((k+1:Nat):Int)-1)=(k:Int):=by rw[show((k+1:Nat):Int)-1=(k:Int)by omega];exact hw
 have HA:=qh (λR=>iZ (R:=R) (n:=nd.a) (ot:=bk.getLastD none) cC.o HW.o h3.drew mH.1 (by rw[mH.2];rfl) (Ix hle XT) Xr ho);have mU:=qh (λ(w5:World)(sG:Value)(o5:il)(h5:Sat wB w5 (ah [Fr,av w.heap.size (az nd (.slice la nd.list.length lc))]::eW pb cb sG (.slice (some ⟨gb,0,none⟩) bl.length Tf) o5 bl h1))=>show w5.cell? ⟨w.heap.size,1,none⟩=some (.int .i64 (nd.a:Nat))/\w5.cell? ⟨pb,2,none⟩=some (.slice (some ⟨gb,0,none⟩) bl.length Tf)/\w5.cell? ⟨gb,k,none⟩=some (bl[k]'(by omega))from⟨(h5.unpack (i:=0) rfl).cell 5 rfl 1 rfl,h5.cell 1 rfl 2 rfl,du.o w5 sG o5 h5⟩);have hS:=mU.o _ _ _ h3.drew;generalize bl[k]'(by omega)=xk at*
 rw[Cl]at mU tC HA hS
 have Ol:IntKind.i64.wrap (((k:Nat):Int)+1-1)=(k:Int):=by rw[show((k:Nat):Int)+1-1=(k:Int)by omega];exact hw
 have adC: (k:Int)<(k:Int)+1:=by omega
 have adz: (0:Int)<=(k:Int):=by omega
 have He: (k:Int)<((k+1:Nat):Int):=by omega
 have ac6:decide ((k:Int)<((k+1:Nat):Int))=true:=decide_eq_true He;clear mH Cl Vo hle du Xr YE XT bT d0 hB;have e7: (((nd.kind:Nat):Int)==7)=false:=by rw[hk];rfl
 have e8: (((nd.kind:Nat):Int)==8)=false:=by rw[hk];rfl
 have e9: (((nd.kind:Nat):Int)==9)=false:=by rw[hk];rfl
 have QC: (((nd.kind:Nat):Int)==14)=false:=by rw[hk];rfl
 have zv: (((nd.kind:Nat):Int)==17)=false:=by rw[hk];rfl
 have tD: (((nd.kind:Nat):Int)==18)=false:=by rw[hk];rfl
 have Oh: (((nd.kind:Nat):Int)==19)=false:=by rw[hk];rfl
 have NM: (((nd.kind:Nat):Int)==20)=false:=by rw[hk];rfl
 have Wx: (((nd.kind:Nat):Int)==24)=true:=by rw[hk];rfl
 clear hR hF iN fN h4 h3 H hx hc h hk;go_in;unfold aG;go_wp2_with fail;go_region_held3(λw'=>w'.cell? ⟨w.heap.size,1,none⟩=some (.int .i64 (nd.a:Nat))/\w'.cell? ⟨pb,2,none⟩=some (.slice (some ⟨gb,0,none⟩) (k+1) Tf)/\w'.cell? ⟨gb,k,none⟩=some xk) (first|exact hS|exact pz)
  ((go_at_call 251;refine HA.o _ (λBn w6 h6=>?_);have pz:=mU.o w6 Bn _ h6;have Jr:=qh (tC.o Bn w6 h6);clear h6))
 all_goals
  go_wp2_with fail;go_end0;exact Jr.o
theorem IB(hF:gR wB Fr){id:Nat}{nd:Nd}{lv:Value}(h:PlN wB X pg cb ofb hasb s h0 id nd lv)(hk:nd.kind=7)(h9:Ty.kindOf (tO s.of nd.a)≠9)(H:Sat wB w (Fr::eW pb cb ov bv o bl h1))(hc:o.length+(dr pg X.aK s id nd bk).length<=100000){R:EW}
  (hR:∀ew w',Sat wB w' (Fr::eW pb cb ew bv (o++dr pg X.aK s id nd bk) bl h1)->R (.returned (.tuple #[])) w'):
  Calls prog 166 #[.pointer (some ⟨pb,0,none⟩),.int .i64 (id:Nat),aG nd lv] w R:=by
 obtain⟨la,lc,rfl⟩:=ag h.row;have hx:dr pg X.aK s id nd bk=rH id (tO s.of id):=by unfold dr;rw[if_pos (by omega)];rw[if_neg h9,List.append_nil]
 rw[hx]at hR hc
 have ho:o.length<=100000:=nT (Nat.le_add_right _ _) hc;have h3:Sat wB (w.alloc (az nd (.slice la nd.list.length lc))) (ah [Fr,av w.heap.size (az nd (.slice la nd.list.length lc))]::eW pb cb ov bv o bl h1):=(Sat.pack (L:=eW pb cb ov bv o bl h1) (M:=[Fr,av w.heap.size (az nd (.slice la nd.list.length lc))]) ((H.aj (az nd (.slice la nd.list.length lc)) w.heap.size).pick [1,2,3,4,0,5])).pick [4,0,1,2,3];have iN:gR wB (ah [Fr,av w.heap.size (az nd (.slice la nd.list.length lc))]):=hF.ah (M:=[av w.heap.size (az nd (.slice la nd.list.length lc))]);have fN:=h.W.below (iN _ _ 0 h3 rfl);have h4:=h3.unpack (i:=0) rfl;have x0:=h4.cell 5 rfl 0 rfl;have p0:=h3.cell 1 rfl 0 rfl;have jJ:=h3.lt 1 rfl;have c5:=fN.c5;have gh:=fN.lt;have tC:=qh (λew w'(g:Sat wB w' (ah [Fr,av w.heap.size (az nd (.slice la nd.list.length lc))]::eW pb cb ew bv (o++(rH id (tO s.of id))) bl h1))=>hR ew w' ((g.unpack (i:=0) rfl).pick [4,0,1,2,3]));have cC:=qh iN;have HW:=qh h.W;have oM:=qh (iN _ _ 0 h3 rfl);have hs:=h.Q.of (by omega) (by omega);have e_:s.of id=some (tO s.of id):=by
  unfold tO;cases hq:s.of id with
  |none=>rw[hq]at hs;cases hs
  |some u=>rfl
 obtain⟨p,bu,hr⟩:=fN.Gb h.id e_;have HG:=qh (λR=>ia (R:=R) (n:=id) h3 (bN fN.le _ _ hr) (h.W.fG.of _ _ e_).1 ho);obtain⟨b,rfl⟩:=aS hr;have Rv:c8 pg nd=nd.a::nd.list:=by unfold c8;rw[if_pos hk]
 have mH:=h.kx (n:=nd.a) (by rw[Rv];simp);obtain⟨pa,Kl,xe⟩:=h.W.fW mH.1 mH.2;obtain⟨ba,rfl⟩:=aS xe;have Hy:=qh (λ(w1:World)(g:Below wB.heap.size wB w1)=>(h.W.kind xe).below g);have zW:=qh Kl;have adZ: (((Ty.kindOf (tO s.of nd.a):Nat):Int)==9)=false:=beq_eq_false_iff_ne.2 (by omega);generalize Ty.kindOf (tO s.of nd.a)=kk at*
 clear hs e_ hr Rv mH xe Kl h9;have e7: (((nd.kind:Nat):Int)==7)=true:=by rw[hk];rfl
 clear hR hF iN fN h4 h3 H hx hc h hk;go_in;unfold aG;go_wp2_with fail;refine HG.o _ (λsG w5 h5=>?_);have x1:=(h5.unpack (i:=0) rfl).cell 5 rfl 1 rfl;have x4:=(h5.unpack (i:=0) rfl).cell 5 rfl 4 rfl;have PQ:=(h5.unpack (i:=0) rfl).lt 5 rfl;have p0:=h5.cell 1 rfl 0 rfl;have jJ:=h5.lt 1 rfl;have J2:=cC.o _ _ 0 h5 rfl;have Qt:=HW.o.below J2;have c5:=Qt.c5;have gh:=Qt.lt;have QI:=zW.o _ J2;have QU:=zW.o _ J2.drew;obtain⟨W5,k5⟩:=Hy.o _ J2;have H5:=qh h5;clear h5 J2 Qt;go_wp2_with fail
 go_region
 all_goals
  go_wp2_with fail;go_end0;exact tC.o sG _ H5.o.drew
theorem MC(hF:gR wB Fr){id:Nat}{nd:Nd}{lv:Value}(h:PlN wB X pg cb ofb hasb s h0 id nd lv)(hk:nd.kind=7)(h9:Ty.kindOf (tO s.of nd.a)=9)(H:Sat wB w (Fr::eW pb cb ov bv o bl h1))(hc:o.length+(dr pg X.aK s id nd bk).length<=100000){R:EW}
  (hR:∀ew w',Sat wB w' (Fr::eW pb cb ew bv (o++dr pg X.aK s id nd bk) bl h1)->R (.returned (.tuple #[])) w'):
  Calls prog 166 #[.pointer (some ⟨pb,0,none⟩),.int .i64 (id:Nat),aG nd lv] w R:=by
 obtain⟨la,lc,rfl⟩:=ag h.row;have hx:dr pg X.aK s id nd bk=rH id (tO s.of id)++gK s.of nd.list (aL (tO s.of nd.a)):=by unfold dr;rw[if_pos (by omega)];rw[if_pos h9]
 rw[hx]at hR hc
 have ho:o.length<=100000:=nT (Nat.le_add_right _ _) hc;have h3:Sat wB (w.alloc (az nd (.slice la nd.list.length lc))) (ah [Fr,av w.heap.size (az nd (.slice la nd.list.length lc))]::eW pb cb ov bv o bl h1):=(Sat.pack (L:=eW pb cb ov bv o bl h1) (M:=[Fr,av w.heap.size (az nd (.slice la nd.list.length lc))]) ((H.aj (az nd (.slice la nd.list.length lc)) w.heap.size).pick [1,2,3,4,0,5])).pick [4,0,1,2,3];have iN:gR wB (ah [Fr,av w.heap.size (az nd (.slice la nd.list.length lc))]):=hF.ah (M:=[av w.heap.size (az nd (.slice la nd.list.length lc))]);have fN:=h.W.below (iN _ _ 0 h3 rfl);have h4:=h3.unpack (i:=0) rfl;have x0:=h4.cell 5 rfl 0 rfl;have x1:=h4.cell 5 rfl 1 rfl;have x4:=h4.cell 5 rfl 4 rfl;have p0:=h3.cell 1 rfl 0 rfl;have jJ:=h3.lt 1 rfl;have c5:=fN.c5;have gh:=fN.lt;have tC:=qh (λew w'(g:Sat wB w' (ah [Fr,av w.heap.size (az nd (.slice la nd.list.length lc))]::eW pb cb ew bv (o++(rH id (tO s.of id)++gK s.of nd.list (aL (tO s.of nd.a)))) bl h1))=>hR ew w' ((g.unpack (i:=0) rfl).pick [4,0,1,2,3]));have cC:=qh iN;have HW:=qh h.W;have oM:=qh (iN _ _ 0 h3 rfl);have hs:=h.Q.of (by omega) (by omega);have e_:s.of id=some (tO s.of id):=by
  unfold tO;cases hq:s.of id with
  |none=>rw[hq]at hs;cases hs
  |some u=>rfl
 obtain⟨p,bu,hr⟩:=fN.Gb h.id e_;have HG:=qh (λR=>ia (R:=R) (n:=id) h3 (bN fN.le _ _ hr) (h.W.fG.of _ _ e_).1 ho);obtain⟨b,rfl⟩:=aS hr;have Rv:c8 pg nd=nd.a::nd.list:=by unfold c8;rw[if_pos hk]
 have mH:=h.kx (n:=nd.a) (by rw[Rv];simp);obtain⟨pa,Kl,xe⟩:=h.W.fW mH.1 mH.2;obtain⟨ba,rfl⟩:=aS xe;have Hy:=qh (λ(w1:World)(g:Below wB.heap.size wB w1)=>(h.W.kind xe).below g);have zW:=qh Kl;have QQ:=(h.W.fG.of _ _ mH.2).1;obtain⟨QR,qx,_,ls,q2,Im,yK,_,_,oW⟩:=Dn h.W.le xe QQ.ok;have a_:=h.Q.call hk h9;have Hz:=cd yK;have Hr:=qh (λ(w5:World)(g:Below wB.heap.size wB w5)=>ak g q2);have Vi:=qh (λ(w5:World)(g:Below wB.heap.size wB w5)=>ay Im g);have abF:=qh (λ(w5:World)(g:Below wB.heap.size wB w5)=>ay h.row g);obtain⟨adp,adW,rfl⟩:=ag Im;have UM:=qh (λj(hj:j<(aL (tO s.of nd.a)).length)=>Jo QQ hj);have ace:=qh (λj(hj:j<(aL (tO s.of nd.a)).length)(eF:j<ls.length)=>dh yK j hj eF);have Y0:=qh (λj(hj:j<nd.list.length)=>h.kx (n:=nd.list[j]) (by rw[Rv];simp));have vK:=qh (show ls.length=nd.list.length/\(aL (tO s.of nd.a)).length=nd.list.length from⟨by omega,a_⟩);have BU:=qh hc;have aaJ:=h.len;have zl:=qh h.W.le;rw[h9]at Hy
 clear hs e_ hr Rv mH xe Kl h9 QQ Im yK a_ Hz QR q2;have e7: (((nd.kind:Nat):Int)==7)=true:=by rw[hk];rfl
 clear hR hF iN fN h4 h3 H hx hc h hk;go_in;unfold aG;go_wp2_with fail;refine HG.o _ (λsG w5 h5=>?_);have x1:=(h5.unpack (i:=0) rfl).cell 5 rfl 1 rfl;have x4:=(h5.unpack (i:=0) rfl).cell 5 rfl 4 rfl;have PQ:=(h5.unpack (i:=0) rfl).lt 5 rfl;have p0:=h5.cell 1 rfl 0 rfl;have jJ:=h5.lt 1 rfl;have J2:=cC.o _ _ 0 h5 rfl;have Qt:=HW.o.below J2;have c5:=Qt.c5;have gh:=Qt.lt;have QI:=zW.o _ J2;have QU:=zW.o _ J2.drew;obtain⟨W5,k5⟩:=Hy.o _ J2;have H5:=qh h5;clear h5 J2 Qt;go_wp2_with fail
 go_region
 all_goals
  go_wp2_with fail;go_loopw [44] (λi wr=>∃(j:Nat)(XC:Value),i=.int .i64 j/\j<=nd.list.length/\Hq (Sat wB wr (ah [Fr,av w.heap.size (az nd (.slice la nd.list.length lc))]::eW pb cb XC bv (o++rH id (tO s.of id)++gK s.of (nd.list.take j) ((aL (tO s.of nd.a)).take j)) bl h1))) (λi _=>nd.list.length-(intOf i).toNat)
  case atStart=>exact⟨0,sG,rfl,Nat.zero_le _,by show Sat _ _ _;rw[List.take_zero,gK,List.append_nil];exact H5.o.drew⟩
  case round=>
   obtain⟨j,XC,rfl,hj,hS⟩:=hrel;have si:=cC.o _ _ 0 hS.out rfl;by_cases a_:j<nd.list.length
   ·obtain⟨gl,jB,e,ku,d0⟩:=ints_at (abF.o _ si) j a_;cases e;have eF:j<ls.length:=by have:=vK.o;omega
    have tH:j<(aL (tO s.of nd.a)).length:=by have:=vK.o;omega
    obtain⟨g2,sY,e,Dj,d2⟩:=fF (Vi.o _ si) j eF;cases e;have y2:=Hr.o _ si;obtain⟨abp,_⟩:=Hy.o _ si;have acs: (ls.length:Int)=(nd.list.length:Int):=by have:=vK.o;omega
    have pI:=qh (uX s.of a_ tH);have hlen: (o++rH id (tO s.of id)++gK s.of (nd.list.take j) ((aL (tO s.of nd.a)).take j)).length<=100000:=by
     have h1:=uJ s.of (j:=j) nd.list (aL (tO s.of nd.a));have h2:=BU.o;rw[List.length_append]at h2
     rw[List.length_append,List.length_append];omega
    have HA:=qh (λR=>iZ (R:=R) (n:=nd.list[j]) (ot:=some (aL (tO s.of nd.a))[j]) cC.o HW.o hS.out (Y0.o j a_).1 (by rw[(Y0.o j a_).2];rfl) (bN (Prt.le_trans zl.o (Prt.le_trans (λk o e=>e) (nC (Prt.le_refl _) si))) _ _ (ace.o j tH eF)) (λt e=>by cases e;exact UM.o j tH) hlen);have adE: (j:Int)<(ls.length:Int):=by omega
    clear hS si hlen;generalize nd.list[j]=nj at*
    generalize ls[j]=pj at*
    go_wp2_with fail;refine HA.o _ (λWG w7 h7=>?_);have H7:=qh h7;clear h7;go_wp2_with fail;go_roundw
    case rel=>exact⟨j+1,WG,by go_num,by omega,by show Sat _ _ _;rw[pI.o,<-List.append_assoc];exact H7.o⟩
    case measure=>simp[intOf];omega
   ·have gO:j=nd.list.length:=by omega
    have h8:=hS.out;rw[gO,List.take_length,show(aL (tO s.of nd.a)).take nd.list.length=aL (tO s.of nd.a)by rw[<-vK.o.2];exact List.take_length]at h8
    have HZ:=qh (tC.o XC _ (by rw[<-List.append_assoc];exact h8));clear h8 hS gO si;go_wp2_with fail;go_end0;exact HZ.o
theorem lr(hF:gR wB Fr){id:Nat}{nd:Nd}{lv:Value}(h:PlN wB X pg cb ofb hasb s h0 id nd lv)(hB:PlI bk bl h1)(bT:nd.kind=24->bk≠[])(H:Sat wB w (Fr::eW pb cb ov bv o bl h1))(hc:o.length+(dr pg X.aK s id nd bk).length<=100000){R:EW}
  (hR:∀ew w',Sat wB w' (Fr::eW pb cb ew bv (o++dr pg X.aK s id nd bk) bl h1)->R (.returned (.tuple #[])) w'):
  Calls prog 166 #[.pointer (some ⟨pb,0,none⟩),.int .i64 (id:Nat),aG nd lv] w R:=by
 by_cases h7:nd.kind=7
 ·by_cases h9:Ty.kindOf (tO s.of nd.a)=9
  ·exact MC hF h h7 h9 H hc hR
  ·exact IB hF h h7 h9 H hc hR
 by_cases h8:nd.kind=8
 ·exact Mm hF h h8 H hc hR
 by_cases h9:nd.kind=9
 ·exact Mq hF h h9 H hc hR
 by_cases zP:nd.kind=14
 ·exact KQ hF h zP H hc hR
 by_cases qX:nd.kind=17
 ·exact Jj hF h qX H hc hR
 by_cases me:nd.kind=18
 ·exact KH hF h me H hc hR
 by_cases OD:nd.kind=19
 ·exact J9 hF h OD H hc hR
 by_cases np:nd.kind=20
 ·by_cases h8:Ty.kindOf (tO s.of nd.a)=8
  ·exact Jg hF h np h8 H hc hR
  ·exact G2 hF h np h8 H hc hR
 by_cases I5:nd.kind=24
 ·exact KD hF h I5 hB (bT I5) H hc hR
 exact Aj hF h ⟨h7,h8,h9,zP,qX,me,OD,np,I5⟩ H hc hR
end
end
end Go.Proofs.YtdlbhiaceheffabGreatDoor
