/- Walk of check: statement, at each kind of node but lets. (Printed by gen_cki.py.) -/
import Derived.Test.YtdlbhiaceheffabGreatDoorP25
set_option linter.all false
set_option maxRecDepth 100000
set_option maxHeartbeats 4000000
namespace Go.Proofs.YtdlbhiaceheffabGreatDoor
open Go Go.RowKit Ty Tok ak Tryz Proofs.Tryz
section
open Ty (Tr Ck)
section
variable {wB w:World} {cb ofb hasb:Nat} {X:Cx} {s:Ck} {h0:ak.Hp} {pg:Ty.Pg} {bk:List (Option Tr)}
theorem Dk(hP:PB wB X.nv X.tv pg)(hb:Below wB.heap.size wB w){id:Nat}{nd:Ty.Nd}(hn:pg.ns[id]?=some nd)(hk:15≤nd.kind∧nd.kind≠17∧nd.kind≠18∧nd.kind≠19∧nd.kind≠20∧nd.kind≠24)(hW:CkW w cb X ofb hasb s h0)(Ec:Rs w cb bk h0)(hI:NdW pg nd)(hi:id≤100000)(bZ:iw pg X.a_ bk id nd s≠.error Ty.stuck){R:EW}
  (aF:∀w',iw pg X.a_ bk id nd s=.ok s→Below w.heap.size w w'→R (.returned (.tuple #[])) w') (av:∀f w',iw pg X.a_ bk id nd s=.error f→Below w.heap.size w w'→R (.panicked (aJ f)) w'):
  Calls prog 162 #[.pointer (some ⟨cb,0,none⟩),.int .i64 (id:Nat)] w R:=by
 have aY:=qh aF;have eH:=qh av;have HW:=qh hW;have HP:=qh hP;have iB:=qh hb;have jJ:=qh hn;obtain⟨cy,hex⟩:=oJ bZ;have HI:=qh hI;have R8:=qh Ec;have Hu:∀(fn:Fn)(first cap:Array Value)(w:World),(Instr.makeFunc fn first cap).run prog w=.ok (.func fn first cap) w:=λ_ _ _ _=>rfl
 have oX:Below w.heap.size w ((w.alloc (.cells #[.pointer (some ⟨cb,0,none⟩)] 99)).alloc (.cells #[.int .i64 (id:Nat)] 3)):=((bR _ _).alloc (nR _) _).alloc (by simp) _;have eE:=qh (λR=>aR (R:=R) hP (hb.trans (oX.mono hb.size)) hn (aq oX hW.c0) (nL hW.lt oX.size));have ll:=qh oX;have h1:=((Sat.fw w).aj (.cells #[.pointer (some ⟨cb,0,none⟩)] 99) w.heap.size).aj (.cells #[.int .i64 (id:Nat)] 3) (w.heap.size+1) (by simp);have H1:=qh h1;have gU:=hW.lt;have hx:iw pg X.a_ bk id nd s=.ok s:=by rw[hex];unfold px;rw[if_neg (by omega),if_neg (by omega),if_neg (by omega),if_neg (by omega),if_neg (by omega)]
 have HG:=qh (λw'=>aF w' hx);have Ho: (((nd.kind:Nat):Int)==17)=false:=by simp;omega
 have Lk: (((nd.kind:Nat):Int)==18)=false:=by simp;omega
 have Of: (((nd.kind:Nat):Int)==19)=false:=by simp;omega
 have MO: (((nd.kind:Nat):Int)==20)=false:=by simp;omega
 have Wa: (((nd.kind:Nat):Int)==24)=false:=by simp;omega
 clear aF av hP hb hn hW Ec bZ cy hex hI hk oX h1;go_in;go_wp2_with fail;refine eE.o _ (λlv w2 aI hl=>?_);have HL:=qh hl;obtain⟨la,lc,rfl⟩:=ag hl;unfold aK;have dR:Below w.heap.size w (w2.alloc (aD nd (.slice la nd.list.length lc))):=(ll.o.trans (aI.mono ll.o.size)).alloc (ll.o.trans (aI.mono ll.o.size)).size _;have h3:=(H1.o.below aI).aj (aD nd (.slice la nd.list.length lc)) w2.heap.size;have y2:=h3.cell 1 rfl 0 rfl;have y3:=h3.cell 2 rfl 0 rfl;have x0:=h3.cell 3 rfl 0 rfl;have x1:=h3.cell 3 rfl 1 rfl;have x2:=h3.cell 3 rfl 2 rfl;have x3:=h3.cell 3 rfl 3 rfl;have x5:=h3.cell 3 rfl 5 rfl;have x7:=h3.cell 3 rfl 7 rfl;have cU:=qh dR;have gI:=qh (HW.o.below dR);have gn:=qh (iB.o.trans (dR.mono iB.o.size));have B6:=gI.o.lt;clear h3 aI hl dR;go_wp2_with fail;go_end0;exact HG.o _ cU.o
theorem M_(hP:PB wB X.nv X.tv pg)(hb:Below wB.heap.size wB w){id:Nat}{nd:Ty.Nd}(hn:pg.ns[id]?=some nd)(hk:nd.kind=18)(hW:CkW w cb X ofb hasb s h0)(Ec:Rs w cb bk h0)(hI:NdW pg nd)(hi:id≤100000)(bZ:iw pg X.a_ bk id nd s≠.error Ty.stuck){R:EW}
  (aF:∀w',iw pg X.a_ bk id nd s=.ok s→Below w.heap.size w w'→R (.returned (.tuple #[])) w') (av:∀f w',iw pg X.a_ bk id nd s=.error f→Below w.heap.size w w'→R (.panicked (aJ f)) w'):
  Calls prog 162 #[.pointer (some ⟨cb,0,none⟩),.int .i64 (id:Nat)] w R:=by
 have aY:=qh aF;have eH:=qh av;have HW:=qh hW;have HP:=qh hP;have iB:=qh hb;have jJ:=qh hn;obtain⟨cy,hex⟩:=oJ bZ;have HI:=qh hI;have R8:=qh Ec;have Hu:∀(fn:Fn)(first cap:Array Value)(w:World),(Instr.makeFunc fn first cap).run prog w=.ok (.func fn first cap) w:=λ_ _ _ _=>rfl
 have oX:Below w.heap.size w ((w.alloc (.cells #[.pointer (some ⟨cb,0,none⟩)] 99)).alloc (.cells #[.int .i64 (id:Nat)] 3)):=((bR _ _).alloc (nR _) _).alloc (by simp) _;have eE:=qh (λR=>aR (R:=R) hP (hb.trans (oX.mono hb.size)) hn (aq oX hW.c0) (nL hW.lt oX.size));have ll:=qh oX;have h1:=((Sat.fw w).aj (.cells #[.pointer (some ⟨cb,0,none⟩)] 99) w.heap.size).aj (.cells #[.int .i64 (id:Nat)] 3) (w.heap.size+1) (by simp);have H1:=qh h1;have gU:=hW.lt;have hx:iw pg X.a_ bk id nd s=match s.has (X.a_ id)with|none=>.error Ty.stuck|some t=>im (Ty.fits (tO s.of nd.a) t) 9 nd.pos s:=by rw[hex];unfold px;simp only[hk];rfl
 obtain⟨t,ht⟩:∃t,s.has (X.a_ id)=some t:=by
  cases hw:s.has (X.a_ id)with
  |none=>rw[hx,hw]at bZ;exact absurd rfl bZ
  |some t=>exact⟨t,rfl⟩
 rw[hx,ht]at aY eH
 have kK:dx nd=[nd.a]:=by unfold dx;simp[hk]
 rw[kK]at cy
 have uS:=qh (cu cy (n:=nd.a) (by simp));have HT:=qh ht;clear ht hx;have Ho: (((nd.kind:Nat):Int)==17)=false:=by rw[hk];rfl
 have Lk: (((nd.kind:Nat):Int)==18)=true:=by rw[hk];rfl
 clear aF av hP hb hn hW Ec bZ cy hex hI hk oX h1;go_in;go_wp2_with fail;refine eE.o _ (λlv w2 aI hl=>?_);have HL:=qh hl;obtain⟨la,lc,rfl⟩:=ag hl;unfold aK;have dR:Below w.heap.size w (w2.alloc (aD nd (.slice la nd.list.length lc))):=(ll.o.trans (aI.mono ll.o.size)).alloc (ll.o.trans (aI.mono ll.o.size)).size _;have h3:=(H1.o.below aI).aj (aD nd (.slice la nd.list.length lc)) w2.heap.size;have y2:=h3.cell 1 rfl 0 rfl;have y3:=h3.cell 2 rfl 0 rfl;have x0:=h3.cell 3 rfl 0 rfl;have x1:=h3.cell 3 rfl 1 rfl;have x2:=h3.cell 3 rfl 2 rfl;have x3:=h3.cell 3 rfl 3 rfl;have x5:=h3.cell 3 rfl 5 rfl;have x7:=h3.cell 3 rfl 7 rfl;have cU:=qh dR;have gI:=qh (HW.o.below dR);have gn:=qh (iB.o.trans (dR.mono iB.o.size));have B6:=gI.o.lt;clear h3 aI hl dR;go_wp2_with fail;have xv:=gI.o.drew.Kq hi;obtain⟨p,bD,hr⟩:=gI.o.hasAll xv.2 HT.o;have zg:=(HW.o.fK.has _ _ HT.o).1.ok;have hS: (w2.alloc (aD nd (.slice la nd.list.length lc))).drew.cell? ⟨cb,6,none⟩=some (.map (some hasb))∧(w2.alloc (aD nd (.slice la nd.list.length lc))).drew.cell? ⟨cb,3,none⟩=some (.map (some X.sO))∧(w2.alloc (aD nd (.slice la nd.list.length lc))).drew.cell? ⟨w.heap.size,0,none⟩=some (.pointer (some ⟨cb,0,none⟩))∧(w2.alloc (aD nd (.slice la nd.list.length lc))).drew.cell? ⟨w.heap.size+1,0,none⟩=some (.int .i64 (id:Nat))∧(w2.alloc (aD nd (.slice la nd.list.length lc))).drew.cell? ⟨w2.heap.size,1,none⟩=some (.int .i64 (nd.a:Nat))∧(Instr.lookup 102 (.map (some X.sO)) (.int .i64 (id:Nat)) false).run prog (w2.alloc (aD nd (.slice la nd.list.length lc))).drew=.ok (.int .i64 (X.a_ id:Nat)) (w2.alloc (aD nd (.slice la nd.list.length lc))).drew∧(Instr.lookup 103 (.map (some hasb)) (.int .i64 (X.a_ id:Nat)) false).run prog (w2.alloc (aD nd (.slice la nd.list.length lc))).drew=.ok p (w2.alloc (aD nd (.slice la nd.list.length lc))).drew:=⟨gI.o.c6,gI.o.c3,y2,y3,x1,xv.1,bD _ (Below.drew (bR _ _))⟩
 have b_:=qh (λR=>gu (R:=R) HP.o gn.o.drew jJ.o gI.o.drew uS.o HI.o.a hr zg (b2:=w.heap.size) (b3:=w.heap.size+1) y2 y3);obtain⟨bp,rfl⟩:=aP hr;have np:=qh (λw5(h:Below (w2.alloc (aD nd (.slice la nd.list.length lc))).drew.heap.size (w2.alloc (aD nd (.slice la nd.list.length lc))).drew w5)=>And.intro (aq h hS.1) (And.intro (aq h hS.2.1) (And.intro (aq h hS.2.2.1) (And.intro (aq h hS.2.2.2.1) (And.intro (aq h hS.2.2.2.2.1) (And.intro ((gI.o.drew.below h).Kq hi).1 (bD w5 ((Below.drew (bR _ _)).trans h))))))));clear xv bD hr zg;cases hf:Ty.fits (tO s.of nd.a) t with
 |true=>
  have HG:=qh (λw'=>aY.o w' (pV hf));rw[hf]at b_
  clear hf;go_region_held3(λw'=>w'.cell? ⟨cb,6,none⟩=some (.map (some hasb))∧w'.cell? ⟨cb,3,none⟩=some (.map (some X.sO))∧w'.cell? ⟨w.heap.size,0,none⟩=some (.pointer (some ⟨cb,0,none⟩))∧w'.cell? ⟨w.heap.size+1,0,none⟩=some (.int .i64 (id:Nat))∧w'.cell? ⟨w2.heap.size,1,none⟩=some (.int .i64 (nd.a:Nat))∧(Instr.lookup 102 (.map (some X.sO)) (.int .i64 (id:Nat)) false).run prog w'=.ok (.int .i64 (X.a_ id:Nat)) w'∧(Instr.lookup 103 (.map (some hasb)) (.int .i64 (X.a_ id:Nat)) false).run prog w'=.ok (.pointer (some ⟨bp,0,none⟩)) w') (first|exact hS|exact iv)
   ((go_at_call 248;refine b_.o _ (λ_ w5 dW=>?_) (λh=>by cases h);have Pf:=qh (HG.o w5 (cU.o.drew.trans (dW.mono cU.o.drew.size)));have iv:=np.o w5 dW;clear dW))
  all_goals
   go_wp2_with fail;go_end0;exact Pf.o
 |false=>
  have HG:=qh (λw'=>eH.o _ w' (qB hf));rw[hf]at b_
  clear hf
  go_region_held (λw'=>w'.cell? ⟨cb,6,none⟩=some (.map (some hasb))∧w'.cell? ⟨cb,3,none⟩=some (.map (some X.sO))∧w'.cell? ⟨w.heap.size,0,none⟩=some (.pointer (some ⟨cb,0,none⟩))∧w'.cell? ⟨w.heap.size+1,0,none⟩=some (.int .i64 (id:Nat))∧w'.cell? ⟨w2.heap.size,1,none⟩=some (.int .i64 (nd.a:Nat))∧(Instr.lookup 102 (.map (some X.sO)) (.int .i64 (id:Nat)) false).run prog w'=.ok (.int .i64 (X.a_ id:Nat)) w'∧(Instr.lookup 103 (.map (some hasb)) (.int .i64 (X.a_ id:Nat)) false).run prog w'=.ok (.pointer (some ⟨bp,0,none⟩)) w') (first|exact hS|exact absurd fV (by decide))
   ((go_at_call 248;refine b_.o _ (λfV w5 dW=>?_) (λ_ w' fU=>⟨rfl,HG.o w' (cU.o.drew.trans (fU.mono cU.o.drew.size))⟩)))
  all_goals exact absurd fV (by decide)
theorem Nn(hP:PB wB X.nv X.tv pg)(hb:Below wB.heap.size wB w){id:Nat}{nd:Ty.Nd}(hn:pg.ns[id]?=some nd)(hk:nd.kind=19)(hW:CkW w cb X ofb hasb s h0)(Ec:Rs w cb bk h0)(hI:NdW pg nd)(hi:id≤100000)(bZ:iw pg X.a_ bk id nd s≠.error Ty.stuck){R:EW}
  (aF:∀w',iw pg X.a_ bk id nd s=.ok s→Below w.heap.size w w'→R (.returned (.tuple #[])) w') (av:∀f w',iw pg X.a_ bk id nd s=.error f→Below w.heap.size w w'→R (.panicked (aJ f)) w'):
  Calls prog 162 #[.pointer (some ⟨cb,0,none⟩),.int .i64 (id:Nat)] w R:=by
 have aY:=qh aF;have eH:=qh av;have HW:=qh hW;have HP:=qh hP;have iB:=qh hb;have jJ:=qh hn;obtain⟨cy,hex⟩:=oJ bZ;have HI:=qh hI;have R8:=qh Ec;have Hu:∀(fn:Fn)(first cap:Array Value)(w:World),(Instr.makeFunc fn first cap).run prog w=.ok (.func fn first cap) w:=λ_ _ _ _=>rfl
 have oX:Below w.heap.size w ((w.alloc (.cells #[.pointer (some ⟨cb,0,none⟩)] 99)).alloc (.cells #[.int .i64 (id:Nat)] 3)):=((bR _ _).alloc (nR _) _).alloc (by simp) _;have eE:=qh (λR=>aR (R:=R) hP (hb.trans (oX.mono hb.size)) hn (aq oX hW.c0) (nL hW.lt oX.size));have ll:=qh oX;have h1:=((Sat.fw w).aj (.cells #[.pointer (some ⟨cb,0,none⟩)] 99) w.heap.size).aj (.cells #[.int .i64 (id:Nat)] 3) (w.heap.size+1) (by simp);have H1:=qh h1;have gU:=hW.lt;have hx:iw pg X.a_ bk id nd s=Ty.aO (Ar nd.pos (o' (tO s.of nd.a) nd.text)) λt=>im (Ty.fits (tO s.of nd.b) t) 9 nd.pos s:=by rw[hex];unfold px;simp only[hk];rfl
 have kK:dx nd=[nd.a,nd.b]:=by unfold dx;simp[hk]
 rw[hx]at aY eH
 rw[kK]at cy
 have uS:=qh (cu cy (n:=nd.a) (by simp));have F9:=qh (cu cy (n:=nd.b) (by simp));clear hx;have Ho: (((nd.kind:Nat):Int)==17)=false:=by rw[hk];rfl
 have Lk: (((nd.kind:Nat):Int)==18)=false:=by rw[hk];rfl
 have Of: (((nd.kind:Nat):Int)==19)=true:=by rw[hk];rfl
 clear aF av hP hb hn hW Ec bZ cy hex hI hk oX h1;go_in;go_wp2_with fail;refine eE.o _ (λlv w2 aI hl=>?_);have HL:=qh hl;obtain⟨la,lc,rfl⟩:=ag hl;unfold aK;have dR:Below w.heap.size w (w2.alloc (aD nd (.slice la nd.list.length lc))):=(ll.o.trans (aI.mono ll.o.size)).alloc (ll.o.trans (aI.mono ll.o.size)).size _;have h3:=(H1.o.below aI).aj (aD nd (.slice la nd.list.length lc)) w2.heap.size;have y2:=h3.cell 1 rfl 0 rfl;have y3:=h3.cell 2 rfl 0 rfl;have x0:=h3.cell 3 rfl 0 rfl;have x1:=h3.cell 3 rfl 1 rfl;have x2:=h3.cell 3 rfl 2 rfl;have x3:=h3.cell 3 rfl 3 rfl;have x5:=h3.cell 3 rfl 5 rfl;have x7:=h3.cell 3 rfl 7 rfl;have cU:=qh dR;have gI:=qh (HW.o.below dR);have gn:=qh (iB.o.trans (dR.mono iB.o.size));have B6:=gI.o.lt;clear h3 aI hl dR;go_wp2_with fail;obtain⟨pA,B9,QA⟩:=gI.o.gj HI.o.a uS.o;obtain⟨bA,rfl⟩:=aP QA;have KG:=(HW.o.fK.of _ _ uS.o).1;have hS: (w2.alloc (aD nd (.slice la nd.list.length lc))).drew.cell? ⟨cb,5,none⟩=some (.map (some ofb))∧(w2.alloc (aD nd (.slice la nd.list.length lc))).drew.cell? ⟨w.heap.size,0,none⟩=some (.pointer (some ⟨cb,0,none⟩))∧(w2.alloc (aD nd (.slice la nd.list.length lc))).drew.cell? ⟨w.heap.size+1,0,none⟩=some (.int .i64 (id:Nat))∧(w2.alloc (aD nd (.slice la nd.list.length lc))).drew.cell? ⟨w2.heap.size,1,none⟩=some (.int .i64 (nd.a:Nat))∧(w2.alloc (aD nd (.slice la nd.list.length lc))).drew.cell? ⟨w2.heap.size,2,none⟩=some (.int .i64 (nd.b:Nat))∧(w2.alloc (aD nd (.slice la nd.list.length lc))).drew.cell? ⟨w2.heap.size,5,none⟩=some (.string nd.text)∧(Instr.lookup 103 (.map (some ofb)) (.int .i64 (nd.a:Nat)) false).run prog (w2.alloc (aD nd (.slice la nd.list.length lc))).drew=.ok (.pointer (some ⟨bA,0,none⟩)) (w2.alloc (aD nd (.slice la nd.list.length lc))).drew:=⟨gI.o.c5,y2,y3,x1,x2,x5,B9 _ (Below.drew (bR _ _))⟩
 have np:=qh (λw5(h:Below (w2.alloc (aD nd (.slice la nd.list.length lc))).drew.heap.size (w2.alloc (aD nd (.slice la nd.list.length lc))).drew w5)=>And.intro (aq h (hS.1)) (And.intro (aq h (hS.2.1)) (And.intro (aq h (hS.2.2.1)) (And.intro (aq h (hS.2.2.2.1)) (And.intro (aq h (hS.2.2.2.2.1)) (And.intro (aq h (hS.2.2.2.2.2.1)) (B9 w5 ((Below.drew (bR _ _)).trans h))))))));have b_:=qh (λR=>wL (R:=R) HP.o gn.o.drew jJ.o gI.o.drew QA KG.ok nd.text);clear B9 QA;cases hu:o' (tO s.of nd.a) nd.text with
 |none=>
  have HG:=qh (λw'=>eH.o (9,nd.pos) w' (by rw[hu];rfl));rw[hu]at b_
  clear hu
  go_region_held (λw'=>w'.cell? ⟨cb,5,none⟩=some (.map (some ofb))∧w'.cell? ⟨w.heap.size,0,none⟩=some (.pointer (some ⟨cb,0,none⟩))∧w'.cell? ⟨w.heap.size+1,0,none⟩=some (.int .i64 (id:Nat))∧w'.cell? ⟨w2.heap.size,1,none⟩=some (.int .i64 (nd.a:Nat))∧w'.cell? ⟨w2.heap.size,2,none⟩=some (.int .i64 (nd.b:Nat))∧w'.cell? ⟨w2.heap.size,5,none⟩=some (.string nd.text)∧(Instr.lookup 103 (.map (some ofb)) (.int .i64 (nd.a:Nat)) false).run prog w'=.ok (.pointer (some ⟨bA,0,none⟩)) w') (first|exact hS|exact absurd e (by simp))
   (first
    |(go_at_call 243;refine b_.o _ (λu q w5 e h5=>?_) (λ_ w' fU=>⟨rfl,HG.o w' (cU.o.drew.trans (fU.mono cU.o.drew.size))⟩))
    |(go_at_call 248;refine RZ e (λw6=>?_)))
  all_goals exact absurd e (by simp)
 |some u=>
  have S1:=(zy KG hu).1.ok;have Nj:=qh hu;rw[hu]at b_
  have L0:=qh (λ(R:EW)(h:∀q w',Sat (w2.alloc (aD nd (.slice la nd.list.length lc))).drew w' [bE (w2.alloc (aD nd (.slice la nd.list.length lc))).drew,de h0 u q]→R (.returned q) w')=>b_.o R (λu' q w' e h2=>by cases e;exact h q w' h2) (λe=>by cases e));clear b_ hu;cases hf:Ty.fits (tO s.of nd.b) u with
  |true=>
   have HG:=qh (λw'=>aY.o w' (by rw[Nj.o];exact pV hf));have M':=qh hf;clear hf Nj;go_region_held3(λw'=>w'.cell? ⟨cb,5,none⟩=some (.map (some ofb))∧w'.cell? ⟨w.heap.size,0,none⟩=some (.pointer (some ⟨cb,0,none⟩))∧w'.cell? ⟨w.heap.size+1,0,none⟩=some (.int .i64 (id:Nat))∧w'.cell? ⟨w2.heap.size,1,none⟩=some (.int .i64 (nd.a:Nat))∧w'.cell? ⟨w2.heap.size,2,none⟩=some (.int .i64 (nd.b:Nat))∧w'.cell? ⟨w2.heap.size,5,none⟩=some (.string nd.text)∧(Instr.lookup 103 (.map (some ofb)) (.int .i64 (nd.a:Nat)) false).run prog w'=.ok (.pointer (some ⟨bA,0,none⟩)) w') (first|exact hS|exact LJ|exact iv)
    (first
     |(go_at_call 243;refine L0.o _ (λq w5 h5=>?_);obtain⟨bq,rfl⟩:=aP (iD gI.o.le ((Below.drew (bR _ _))) h5);have dW:=h5.aW;have iv:=np.o w5 dW;have zh:=qh (λR=>gu (R:=R) HP.o (gn.o.drew.trans (dW.mono gn.o.drew.size)) jJ.o (gI.o.drew.below dW).up F9.o HI.o.b (iD gI.o.le ((Below.drew (bR _ _))) h5) S1 (b2:=w.heap.size) (b3:=w.heap.size+1) iv.2.1 iv.2.2.1);have lh:=qh (cU.o.drew.trans (dW.mono cU.o.drew.size));have Tj:=qh (λw6(h:Below w5.heap.size w5 w6)=>np.o w6 (dW.trans (h.mono dW.size)));clear h5 dW)
     |(go_at_call 248;refine zh.o _ (λ_ w6 zj=>?_) (λh=>by rw[M'.out]at h;cases h);have LJ:=Tj.o w6 zj;have Pf:=qh (HG.o w6 (lh.o.trans (zj.mono lh.o.size)));clear zj))
   all_goals
    go_wp2_with fail;go_end0;exact Pf.o
  |false=>
   have HG:=qh (λw'=>eH.o (9,nd.pos) w' (by rw[Nj.o];exact qB hf));have M':=qh hf;clear hf Nj
   go_region_held (λw'=>w'.cell? ⟨cb,5,none⟩=some (.map (some ofb))∧w'.cell? ⟨w.heap.size,0,none⟩=some (.pointer (some ⟨cb,0,none⟩))∧w'.cell? ⟨w.heap.size+1,0,none⟩=some (.int .i64 (id:Nat))∧w'.cell? ⟨w2.heap.size,1,none⟩=some (.int .i64 (nd.a:Nat))∧w'.cell? ⟨w2.heap.size,2,none⟩=some (.int .i64 (nd.b:Nat))∧w'.cell? ⟨w2.heap.size,5,none⟩=some (.string nd.text)∧(Instr.lookup 103 (.map (some ofb)) (.int .i64 (nd.a:Nat)) false).run prog w'=.ok (.pointer (some ⟨bA,0,none⟩)) w') (first|exact hS|exact iv|exact absurd fV (by rw[M'.out];decide))
    (first
     |(go_at_call 243;refine L0.o _ (λq w5 h5=>?_);obtain⟨bq,rfl⟩:=aP (iD gI.o.le ((Below.drew (bR _ _))) h5);have dW:=h5.aW;have iv:=np.o w5 dW;have zh:=qh (λR=>gu (R:=R) HP.o (gn.o.drew.trans (dW.mono gn.o.drew.size)) jJ.o (gI.o.drew.below dW).up F9.o HI.o.b (iD gI.o.le ((Below.drew (bR _ _))) h5) S1 (b2:=w.heap.size) (b3:=w.heap.size+1) iv.2.1 iv.2.2.1);have lh:=qh (cU.o.drew.trans (dW.mono cU.o.drew.size));clear h5 dW)
     |(go_at_call 248;refine zh.o _ (λfV w6 zj=>?_) (λ_ w' fU=>⟨rfl,HG.o w' (lh.o.trans (fU.mono lh.o.size))⟩)))
   all_goals exact absurd fV (by rw[M'.out];decide)
theorem Mr(hP:PB wB X.nv X.tv pg)(hb:Below wB.heap.size wB w){id:Nat}{nd:Ty.Nd}(hn:pg.ns[id]?=some nd)(hk:nd.kind=20∧0≤nd.c∧nd.c≤100000)(hW:CkW w cb X ofb hasb s h0)(Ec:Rs w cb bk h0)(hI:NdW pg nd)(hi:id≤100000)(bZ:iw pg X.a_ bk id nd s≠.error Ty.stuck){R:EW}
  (aF:∀w',iw pg X.a_ bk id nd s=.ok s→Below w.heap.size w w'→R (.returned (.tuple #[])) w') (av:∀f w',iw pg X.a_ bk id nd s=.error f→Below w.heap.size w w'→R (.panicked (aJ f)) w'):
  Calls prog 162 #[.pointer (some ⟨cb,0,none⟩),.int .i64 (id:Nat)] w R:=by
 have aY:=qh aF;have eH:=qh av;have HW:=qh hW;have HP:=qh hP;have iB:=qh hb;have jJ:=qh hn;obtain⟨cy,hex⟩:=oJ bZ;have HI:=qh hI;have R8:=qh Ec;have Hu:∀(fn:Fn)(first cap:Array Value)(w:World),(Instr.makeFunc fn first cap).run prog w=.ok (.func fn first cap) w:=λ_ _ _ _=>rfl
 have oX:Below w.heap.size w ((w.alloc (.cells #[.pointer (some ⟨cb,0,none⟩)] 99)).alloc (.cells #[.int .i64 (id:Nat)] 3)):=((bR _ _).alloc (nR _) _).alloc (by simp) _;have eE:=qh (λR=>aR (R:=R) hP (hb.trans (oX.mono hb.size)) hn (aq oX hW.c0) (nL hW.lt oX.size));have ll:=qh oX;have h1:=((Sat.fw w).aj (.cells #[.pointer (some ⟨cb,0,none⟩)] 99) w.heap.size).aj (.cells #[.int .i64 (id:Nat)] 3) (w.heap.size+1) (by simp);have H1:=qh h1;have gU:=hW.lt;obtain⟨hk,UJ,ab8⟩:=hk;have zf: ((nd.c.toNat:Nat):Int)=nd.c:=by omega
 have hx:iw pg X.a_ bk id nd s=Ty.aO (Ar nd.pos (iZ (tO s.of nd.a) (tO s.of nd.b))) λt=>im (Ty.fits (tO s.of nd.c.toNat) t) 9 nd.pos s:=by rw[hex];unfold px;simp only[hk];rfl
 have kK:dx nd=[nd.a,nd.b,nd.c.toNat]:=by unfold dx;simp[hk]
 rw[hx]at aY eH
 rw[kK]at cy
 have uS:=qh (cu cy (n:=nd.a) (by simp));have F9:=qh (cu cy (n:=nd.b) (by simp));have YG:=qh (cu cy (n:=nd.c.toNat) (by simp));clear hx;have Ho: (((nd.kind:Nat):Int)==17)=false:=by rw[hk];rfl
 have Lk: (((nd.kind:Nat):Int)==18)=false:=by rw[hk];rfl
 have Of: (((nd.kind:Nat):Int)==19)=false:=by rw[hk];rfl
 have MO: (((nd.kind:Nat):Int)==20)=true:=by rw[hk];rfl
 clear aF av hP hb hn hW Ec bZ cy hex hI hk oX h1;go_in;go_wp2_with fail;refine eE.o _ (λlv w2 aI hl=>?_);have HL:=qh hl;obtain⟨la,lc,rfl⟩:=ag hl;unfold aK;have dR:Below w.heap.size w (w2.alloc (aD nd (.slice la nd.list.length lc))):=(ll.o.trans (aI.mono ll.o.size)).alloc (ll.o.trans (aI.mono ll.o.size)).size _;have h3:=(H1.o.below aI).aj (aD nd (.slice la nd.list.length lc)) w2.heap.size;have y2:=h3.cell 1 rfl 0 rfl;have y3:=h3.cell 2 rfl 0 rfl;have x0:=h3.cell 3 rfl 0 rfl;have x1:=h3.cell 3 rfl 1 rfl;have x2:=h3.cell 3 rfl 2 rfl;have x3:=h3.cell 3 rfl 3 rfl;have x5:=h3.cell 3 rfl 5 rfl;have x7:=h3.cell 3 rfl 7 rfl;have cU:=qh dR;have gI:=qh (HW.o.below dR);have gn:=qh (iB.o.trans (dR.mono iB.o.size));have B6:=gI.o.lt;clear h3 aI hl dR;go_wp2_with fail;obtain⟨pA,B9,QA⟩:=gI.o.gj HI.o.a uS.o;obtain⟨bA,rfl⟩:=aP QA;have KG:=(HW.o.fK.of _ _ uS.o).1;obtain⟨pB,QV,Vh⟩:=gI.o.gj HI.o.b F9.o;obtain⟨bB,rfl⟩:=aP Vh;have W_:=(HW.o.fK.of _ _ F9.o).1;have hS: (w2.alloc (aD nd (.slice la nd.list.length lc))).drew.cell? ⟨cb,5,none⟩=some (.map (some ofb))∧(w2.alloc (aD nd (.slice la nd.list.length lc))).drew.cell? ⟨w.heap.size,0,none⟩=some (.pointer (some ⟨cb,0,none⟩))∧(w2.alloc (aD nd (.slice la nd.list.length lc))).drew.cell? ⟨w.heap.size+1,0,none⟩=some (.int .i64 (id:Nat))∧(w2.alloc (aD nd (.slice la nd.list.length lc))).drew.cell? ⟨w2.heap.size,1,none⟩=some (.int .i64 (nd.a:Nat))∧(w2.alloc (aD nd (.slice la nd.list.length lc))).drew.cell? ⟨w2.heap.size,2,none⟩=some (.int .i64 (nd.b:Nat))∧(w2.alloc (aD nd (.slice la nd.list.length lc))).drew.cell? ⟨w2.heap.size,3,none⟩=some (.int .i64 nd.c)∧(Instr.lookup 103 (.map (some ofb)) (.int .i64 (nd.a:Nat)) false).run prog (w2.alloc (aD nd (.slice la nd.list.length lc))).drew=.ok (.pointer (some ⟨bA,0,none⟩)) (w2.alloc (aD nd (.slice la nd.list.length lc))).drew∧(Instr.lookup 103 (.map (some ofb)) (.int .i64 (nd.b:Nat)) false).run prog (w2.alloc (aD nd (.slice la nd.list.length lc))).drew=.ok (.pointer (some ⟨bB,0,none⟩)) (w2.alloc (aD nd (.slice la nd.list.length lc))).drew:=⟨gI.o.c5,y2,y3,x1,x2,x3,B9 _ (Below.drew (bR _ _)),QV _ (Below.drew (bR _ _))⟩
 have np:=qh (λw5(h:Below (w2.alloc (aD nd (.slice la nd.list.length lc))).drew.heap.size (w2.alloc (aD nd (.slice la nd.list.length lc))).drew w5)=>And.intro (aq h (hS.1)) (And.intro (aq h (hS.2.1)) (And.intro (aq h (hS.2.2.1)) (And.intro (aq h (hS.2.2.2.1)) (And.intro (aq h (hS.2.2.2.2.1)) (And.intro (aq h (hS.2.2.2.2.2.1)) (And.intro (B9 w5 ((Below.drew (bR _ _)).trans h)) (QV w5 ((Below.drew (bR _ _)).trans h)))))))));have b_:=qh (λR=>sd (R:=R) HP.o gn.o.drew jJ.o gI.o.drew QA KG.ok Vh W_.ok);clear B9 QA QV Vh;cases hu:iZ (tO s.of nd.a) (tO s.of nd.b)with
 |none=>
  have HG:=qh (λw'=>eH.o (9,nd.pos) w' (by rw[hu];rfl));rw[hu]at b_
  clear hu
  go_region_held (λw'=>w'.cell? ⟨cb,5,none⟩=some (.map (some ofb))∧w'.cell? ⟨w.heap.size,0,none⟩=some (.pointer (some ⟨cb,0,none⟩))∧w'.cell? ⟨w.heap.size+1,0,none⟩=some (.int .i64 (id:Nat))∧w'.cell? ⟨w2.heap.size,1,none⟩=some (.int .i64 (nd.a:Nat))∧w'.cell? ⟨w2.heap.size,2,none⟩=some (.int .i64 (nd.b:Nat))∧w'.cell? ⟨w2.heap.size,3,none⟩=some (.int .i64 nd.c)∧(Instr.lookup 103 (.map (some ofb)) (.int .i64 (nd.a:Nat)) false).run prog w'=.ok (.pointer (some ⟨bA,0,none⟩)) w'∧(Instr.lookup 103 (.map (some ofb)) (.int .i64 (nd.b:Nat)) false).run prog w'=.ok (.pointer (some ⟨bB,0,none⟩)) w') (first|exact hS|exact absurd e (by simp))
   (first
    |(go_at_call 244;refine b_.o _ (λu q w5 e h5=>?_) (λ_ w' fU=>⟨rfl,HG.o w' (cU.o.drew.trans (fU.mono cU.o.drew.size))⟩))
    |(go_at_call 248;refine RZ e (λw6=>?_)))
  all_goals exact absurd e (by simp)
 |some u=>
  have S1:=(uL KG hu).1.ok;have Nj:=qh hu;rw[hu]at b_
  have L0:=qh (λ(R:EW)(h:∀q w',Sat (w2.alloc (aD nd (.slice la nd.list.length lc))).drew w' [bE (w2.alloc (aD nd (.slice la nd.list.length lc))).drew,de h0 u q]→R (.returned q) w')=>b_.o R (λu' q w' e h2=>by cases e;exact h q w' h2) (λe=>by cases e));clear b_ hu;cases hf:Ty.fits (tO s.of nd.c.toNat) u with
  |true=>
   have HG:=qh (λw'=>aY.o w' (by rw[Nj.o];exact pV hf));have M':=qh hf;clear hf Nj;go_region_held3(λw'=>w'.cell? ⟨cb,5,none⟩=some (.map (some ofb))∧w'.cell? ⟨w.heap.size,0,none⟩=some (.pointer (some ⟨cb,0,none⟩))∧w'.cell? ⟨w.heap.size+1,0,none⟩=some (.int .i64 (id:Nat))∧w'.cell? ⟨w2.heap.size,1,none⟩=some (.int .i64 (nd.a:Nat))∧w'.cell? ⟨w2.heap.size,2,none⟩=some (.int .i64 (nd.b:Nat))∧w'.cell? ⟨w2.heap.size,3,none⟩=some (.int .i64 nd.c)∧(Instr.lookup 103 (.map (some ofb)) (.int .i64 (nd.a:Nat)) false).run prog w'=.ok (.pointer (some ⟨bA,0,none⟩)) w'∧(Instr.lookup 103 (.map (some ofb)) (.int .i64 (nd.b:Nat)) false).run prog w'=.ok (.pointer (some ⟨bB,0,none⟩)) w') (first|exact hS|exact LJ|exact iv)
    (first
     |(go_at_call 244;refine L0.o _ (λq w5 h5=>?_);obtain⟨bq,rfl⟩:=aP (iD gI.o.le ((Below.drew (bR _ _))) h5);have dW:=h5.aW;have iv:=np.o w5 dW;have zh:=qh (λR=>gu (R:=R) HP.o (gn.o.drew.trans (dW.mono gn.o.drew.size)) jJ.o (gI.o.drew.below dW).up YG.o (by omega) (iD gI.o.le ((Below.drew (bR _ _))) h5) S1 (b2:=w.heap.size) (b3:=w.heap.size+1) iv.2.1 iv.2.2.1);rw[zf]at zh;have lh:=qh (cU.o.drew.trans (dW.mono cU.o.drew.size));have Tj:=qh (λw6(h:Below w5.heap.size w5 w6)=>np.o w6 (dW.trans (h.mono dW.size)));clear h5 dW)
     |(go_at_call 248;refine zh.o _ (λ_ w6 zj=>?_) (λh=>by rw[M'.out]at h;cases h);have LJ:=Tj.o w6 zj;have Pf:=qh (HG.o w6 (lh.o.trans (zj.mono lh.o.size)));clear zj))
   all_goals
    go_wp2_with fail;go_end0;exact Pf.o
  |false=>
   have HG:=qh (λw'=>eH.o (9,nd.pos) w' (by rw[Nj.o];exact qB hf));have M':=qh hf;clear hf Nj
   go_region_held (λw'=>w'.cell? ⟨cb,5,none⟩=some (.map (some ofb))∧w'.cell? ⟨w.heap.size,0,none⟩=some (.pointer (some ⟨cb,0,none⟩))∧w'.cell? ⟨w.heap.size+1,0,none⟩=some (.int .i64 (id:Nat))∧w'.cell? ⟨w2.heap.size,1,none⟩=some (.int .i64 (nd.a:Nat))∧w'.cell? ⟨w2.heap.size,2,none⟩=some (.int .i64 (nd.b:Nat))∧w'.cell? ⟨w2.heap.size,3,none⟩=some (.int .i64 nd.c)∧(Instr.lookup 103 (.map (some ofb)) (.int .i64 (nd.a:Nat)) false).run prog w'=.ok (.pointer (some ⟨bA,0,none⟩)) w'∧(Instr.lookup 103 (.map (some ofb)) (.int .i64 (nd.b:Nat)) false).run prog w'=.ok (.pointer (some ⟨bB,0,none⟩)) w') (first|exact hS|exact iv|exact absurd fV (by rw[M'.out];decide))
    (first
     |(go_at_call 244;refine L0.o _ (λq w5 h5=>?_);obtain⟨bq,rfl⟩:=aP (iD gI.o.le ((Below.drew (bR _ _))) h5);have dW:=h5.aW;have iv:=np.o w5 dW;have zh:=qh (λR=>gu (R:=R) HP.o (gn.o.drew.trans (dW.mono gn.o.drew.size)) jJ.o (gI.o.drew.below dW).up YG.o (by omega) (iD gI.o.le ((Below.drew (bR _ _))) h5) S1 (b2:=w.heap.size) (b3:=w.heap.size+1) iv.2.1 iv.2.2.1);rw[zf]at zh;have lh:=qh (cU.o.drew.trans (dW.mono cU.o.drew.size));clear h5 dW)
     |(go_at_call 248;refine zh.o _ (λfV w6 zj=>?_) (λ_ w' fU=>⟨rfl,HG.o w' (lh.o.trans (fU.mono lh.o.size))⟩)))
   all_goals exact absurd fV (by rw[M'.out];decide)
theorem Nc(hP:PB wB X.nv X.tv pg)(hb:Below wB.heap.size wB w){id:Nat}{nd:Ty.Nd}(hn:pg.ns[id]?=some nd)(hk:nd.kind=24)(hW:CkW w cb X ofb hasb s h0)(Ec:Rs w cb bk h0)(hI:NdW pg nd)(hi:id≤100000)(bZ:iw pg X.a_ bk id nd s≠.error Ty.stuck){R:EW}
  (aF:∀w',iw pg X.a_ bk id nd s=.ok s→Below w.heap.size w w'→R (.returned (.tuple #[])) w') (av:∀f w',iw pg X.a_ bk id nd s=.error f→Below w.heap.size w w'→R (.panicked (aJ f)) w'):
  Calls prog 162 #[.pointer (some ⟨cb,0,none⟩),.int .i64 (id:Nat)] w R:=by
 have aY:=qh aF;have eH:=qh av;have HW:=qh hW;have HP:=qh hP;have iB:=qh hb;have jJ:=qh hn;obtain⟨cy,hex⟩:=oJ bZ;have HI:=qh hI;have R8:=qh Ec;have Hu:∀(fn:Fn)(first cap:Array Value)(w:World),(Instr.makeFunc fn first cap).run prog w=.ok (.func fn first cap) w:=λ_ _ _ _=>rfl
 have oX:Below w.heap.size w ((w.alloc (.cells #[.pointer (some ⟨cb,0,none⟩)] 99)).alloc (.cells #[.int .i64 (id:Nat)] 3)):=((bR _ _).alloc (nR _) _).alloc (by simp) _;have eE:=qh (λR=>aR (R:=R) hP (hb.trans (oX.mono hb.size)) hn (aq oX hW.c0) (nL hW.lt oX.size));have ll:=qh oX;have h1:=((Sat.fw w).aj (.cells #[.pointer (some ⟨cb,0,none⟩)] 99) w.heap.size).aj (.cells #[.int .i64 (id:Nat)] 3) (w.heap.size+1) (by simp);have H1:=qh h1;have gU:=hW.lt;have hx:iw pg X.a_ bk id nd s=match bk.getLast? with|none=>.error (4,nd.pos)|some none=>.ok s|some (some t)=>im (Ty.fits (tO s.of nd.a) t) 9 nd.pos s:=by rw[hex];unfold px;simp only[hk];rfl
 have kK:dx nd=[nd.a]:=by unfold dx;simp[hk]
 rw[kK]at cy
 have uS:=qh (cu cy (n:=nd.a) (by simp));have ZC:=qh (λw1(h:Below w.heap.size w w1)(ok:Bool)(R:EW)=>eL (R:=R) (b:=ok) (e:=4) hP (hb.trans (h.mono hb.size)) hn (aq h hW.c0) (nL hW.lt h.size));rw[hx]at aY eH
 clear hx;have Ho: (((nd.kind:Nat):Int)==17)=false:=by rw[hk];rfl
 have Lk: (((nd.kind:Nat):Int)==18)=false:=by rw[hk];rfl
 have Of: (((nd.kind:Nat):Int)==19)=false:=by rw[hk];rfl
 have MO: (((nd.kind:Nat):Int)==20)=false:=by rw[hk];rfl
 have Wa: (((nd.kind:Nat):Int)==24)=true:=by rw[hk];rfl
 clear aF av hP hb hn hW Ec bZ cy hex hI hk oX h1;go_in;go_wp2_with fail;refine eE.o _ (λlv w2 aI hl=>?_);have HL:=qh hl;obtain⟨la,lc,rfl⟩:=ag hl;unfold aK;have dR:Below w.heap.size w (w2.alloc (aD nd (.slice la nd.list.length lc))):=(ll.o.trans (aI.mono ll.o.size)).alloc (ll.o.trans (aI.mono ll.o.size)).size _;have h3:=(H1.o.below aI).aj (aD nd (.slice la nd.list.length lc)) w2.heap.size;have y2:=h3.cell 1 rfl 0 rfl;have y3:=h3.cell 2 rfl 0 rfl;have x0:=h3.cell 3 rfl 0 rfl;have x1:=h3.cell 3 rfl 1 rfl;have x2:=h3.cell 3 rfl 2 rfl;have x3:=h3.cell 3 rfl 3 rfl;have x5:=h3.cell 3 rfl 5 rfl;have x7:=h3.cell 3 rfl 7 rfl;have cU:=qh dR;have gI:=qh (HW.o.below dR);have gn:=qh (iB.o.trans (dR.mono iB.o.size));have B6:=gI.o.lt;clear h3 aI hl dR;go_wp2_with fail;obtain⟨bv,bl,b7,Mp,JV,UG,Xp⟩:=R8.o;obtain⟨qa,qc,rfl⟩:=ag Mp;have WM:=aq cU.o b7;have hS: (w2.alloc (aD nd (.slice la nd.list.length lc))).drew.cell? ⟨w.heap.size,0,none⟩=some (.pointer (some ⟨cb,0,none⟩))∧(w2.alloc (aD nd (.slice la nd.list.length lc))).drew.cell? ⟨w.heap.size+1,0,none⟩=some (.int .i64 (id:Nat))∧(w2.alloc (aD nd (.slice la nd.list.length lc))).drew.cell? ⟨cb,7,none⟩=some (.slice qa bl.length qc):=⟨y2,y3,WM⟩
 by_cases h0:bl.length=0
 ·have yS:bk=[]:=List.length_eq_zero_iff.1 (by omega);have HG:=qh (λw'=>eH.o (4,nd.pos) w' (by rw[yS];rfl));rw[h0]at hS
  clear JV UG Xp b7 WM Mp h0
  go_region_held (λw'=>w'.cell? ⟨w.heap.size,0,none⟩=some (.pointer (some ⟨cb,0,none⟩))∧w'.cell? ⟨w.heap.size+1,0,none⟩=some (.int .i64 (id:Nat))∧w'.cell? ⟨cb,7,none⟩=some (.slice qa 0 qc)) (first|exact hS|exact absurd fV (by decide))
   ((go_at_call 160;refine ZC.o _ cU.o.drew _ _ (λfV=>?_) (λ_ w' fU=>⟨rfl,HG.o w' (cU.o.drew.trans (fU.mono cU.o.drew.size))⟩)))
  all_goals exact absurd fV (by decide)
 ·obtain⟨k,Dx⟩:∃k,bl.length=k+1:=⟨bl.length-1,by omega⟩
  have NY:k<bk.length:=by omega
  have R4:k<bl.length:=by omega
  obtain⟨g,cap,e,hg,d0⟩:=fD (az Mp cU.o) k R4;cases e;have hv:=Xp k NY R4;have mW:bk.getLast?=some bk[k]:=by rw[List.getLast?_eq_getElem?,show bk.length-1=k by omega,List.getElem?_eq_getElem NY]
  rw[mW]at aY eH
  rw[Dx]at hS
  have abG:decide ((0:Int)<((k+1:Nat):Int))=true:=decide_eq_true (by omega);have hw:=IntWalk.i64_in (n:=(k:Int)) (by omega);have hs:IntKind.i64.wrap (((k+1:Nat):Int)-1)=(k:Int):=by rw[show((k+1:Nat):Int)-1=(k:Int)by omega];exact hw
  have VP:IntKind.i64.wrap (((k:Nat):Int)+1-1)=(k:Int):=by rw[show((k:Nat):Int)+1-1=(k:Int)by omega];exact hw
  have Vm:g<(w2.alloc (aD nd (.slice la nd.list.length lc))).heap.size:=hg;have Zg: (0:Int)≤(k:Int):=by omega
  have Fx: (k:Int)<(k:Int)+1:=by omega
  have wG: (k:Int)<((k+1:Nat):Int):=by omega
  have py: (w2.alloc (aD nd (.slice la nd.list.length lc))).drew.drew.cell? ⟨w.heap.size,0,none⟩=some (.pointer (some ⟨cb,0,none⟩))∧(w2.alloc (aD nd (.slice la nd.list.length lc))).drew.drew.cell? ⟨cb,7,none⟩=some (.slice (some ⟨g,0,none⟩) (k+1) qc)∧(w2.alloc (aD nd (.slice la nd.list.length lc))).drew.drew.cell? ⟨g,k,none⟩=some bl[k]:=⟨y2,hS.2.2,d0⟩
  have abv: (w2.alloc (aD nd (.slice la nd.list.length lc))).drew.drew.cell? ⟨w.heap.size,0,none⟩=some (.pointer (some ⟨cb,0,none⟩)):=y2;have aaj: (w2.alloc (aD nd (.slice la nd.list.length lc))).drew.drew.cell? ⟨w.heap.size+1,0,none⟩=some (.int .i64 (id:Nat)):=y3;have adb: (w2.alloc (aD nd (.slice la nd.list.length lc))).drew.drew.cell? ⟨w2.heap.size,1,none⟩=some (.int .i64 (nd.a:Nat)):=x1;generalize bl[k]=vl at*
  generalize bk[k]=ot at*
  clear JV UG Xp b7 WM Mp h0 mW;go_region_held3(λw'=>w'.cell? ⟨w.heap.size,0,none⟩=some (.pointer (some ⟨cb,0,none⟩))∧w'.cell? ⟨w.heap.size+1,0,none⟩=some (.int .i64 (id:Nat))∧w'.cell? ⟨cb,7,none⟩=some (.slice (some ⟨g,0,none⟩) (k+1) qc)) (exact hS)
   ((go_at_call 160;refine ZC.o _ cU.o.drew _ _ (λ_=>?_) (λh=>by cases h)))
  all_goals
   go_wp2_with fail;go_region_held3(λw'=>w'.cell? ⟨w.heap.size,0,none⟩=some (.pointer (some ⟨cb,0,none⟩))∧w'.cell? ⟨cb,7,none⟩=some (.slice (some ⟨g,0,none⟩) (k+1) qc)∧w'.cell? ⟨g,k,none⟩=some vl) (exact py) (fail)
   all_goals
    cases ot with
    |none=>
     dsimp only at hv;subst hv;have HG:=qh (λw'=>aY.o w' rfl);go_wp2_with fail;go_end0;exact HG.o _ cU.o.drew.drew
    |some t=>
     dsimp only at hv;obtain⟨hr,EI⟩:=hv;have b_:=qh (λR=>gu (R:=R) HP.o gn.o.drew.drew jJ.o gI.o.drew.drew uS.o HI.o.a hr EI (b2:=w.heap.size) (b3:=w.heap.size+1) abv aaj);obtain⟨bt,rfl⟩:=aP hr;have HG:=qh (λw'(h:Ty.fits (tO s.of nd.a) t=true)=>aY.o w' (pV h));have El:=qh (λw'(h:Ty.fits (tO s.of nd.a) t=false)=>eH.o (9,nd.pos) w' (qB h));clear hr EI;go_wp2_with fail;refine b_.o _ (λhf w5 dW=>?_) (λhf w5 dW=>?_)
     ·have Pf:=qh (HG.o w5 hf (cU.o.drew.drew.trans (dW.mono cU.o.drew.drew.size)));clear dW;go_wp2_with fail;go_end0;exact Pf.o
     ·exact⟨rfl,El.o w5 hf (cU.o.drew.drew.trans (dW.mono cU.o.drew.drew.size))⟩
end
end
end Go.Proofs.YtdlbhiaceheffabGreatDoor
