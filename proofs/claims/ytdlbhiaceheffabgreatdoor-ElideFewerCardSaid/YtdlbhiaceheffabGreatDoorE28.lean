/- Walk of check: statement, at each kind of node but lets. (Printed by gen_cki.py.) -/
import Derived.Test.YtdlbhiaceheffabGreatDoorE27
set_option linter.all false
set_option maxRecDepth 100000
set_option maxHeartbeats 4000000
namespace Go.Proofs.YtdlbhiaceheffabGreatDoor
open Go Go.RowKit Ty Tok Prt Tryz Proofs.Tryz
section
open Ty (Tr Ck)
section
variable {wB w:World} {cb ofb hasb:Nat} {X:Cx} {s:Ck} {h0:Prt.Hp} {pg:Ty.Pg} {bk:List (Option Tr)}
theorem DY(hP:PB wB X.nv X.tv pg)(hb:Below wB.heap.size wB w){id:Nat}{nd:Nd}(hn:pg.ns[id]?=some nd)(hk:15<=nd.kind/\nd.kind≠17/\nd.kind≠18/\nd.kind≠19/\nd.kind≠20/\nd.kind≠24)(hW:CkW w cb X ofb hasb s h0)(EU:Rh w cb bk h0)(hI:NdW pg nd)(hi:id<=100000)(bT:im pg X.aK bk id nd s≠.error Ty.stuck){R:EW}
  (aH:∀w',im pg X.aK bk id nd s=.ok s->Below w.heap.size w w'->R (.returned (.tuple #[])) w') (au:∀f w',im pg X.aK bk id nd s=.error f->Below w.heap.size w w'->R (.panicked (aI f)) w'):
  Calls prog 162 #[.pointer (some ⟨cb,0,none⟩),.int .i64 (id:Nat)] w R:=by
 have aX:=qh aH;have eB:=qh au;have HW:=qh hW;have HP:=qh hP;have iH:=qh hb;have gZ:=qh hn;obtain⟨ct,hex⟩:=oD bT;have HI:=qh hI;have Si:=qh EU;have Ii:∀(fn:Fn)(first cap:Array Value)(w:World),(Instr.makeFunc fn first cap).run prog w=.ok (.func fn first cap) w:=λ_ _ _ _=>rfl
 have oI:Below w.heap.size w ((w.alloc (.cells #[.pointer (some ⟨cb,0,none⟩)] 99)).alloc (.cells #[.int .i64 (id:Nat)] 3)):=((bR _ _).alloc (nR _) _).alloc (by simp) _;have dO:=qh (λR=>aQ (R:=R) hP (hb.trans (oI.mono hb.size)) hn (ak oI hW.c0) (nL hW.lt oI.size));have kH:=qh oI;have h1:=((Sat.fO w).aj (.cells #[.pointer (some ⟨cb,0,none⟩)] 99) w.heap.size).aj (.cells #[.int .i64 (id:Nat)] 3) (w.heap.size+1) (by simp);have H1:=qh h1;have gh:=hW.lt;have hx:im pg X.aK bk id nd s=.ok s:=by rw[hex];unfold o0;rw[if_neg (by omega),if_neg (by omega),if_neg (by omega),if_neg (by omega),if_neg (by omega)]
 have HG:=qh (λw'=>aH w' hx);have zv: (((nd.kind:Nat):Int)==17)=false:=by simp;omega
 have tD: (((nd.kind:Nat):Int)==18)=false:=by simp;omega
 have Oh: (((nd.kind:Nat):Int)==19)=false:=by simp;omega
 have NM: (((nd.kind:Nat):Int)==20)=false:=by simp;omega
 have Wx: (((nd.kind:Nat):Int)==24)=false:=by simp;omega
 clear aH au hP hb hn hW EU bT ct hex hI hk oI h1;go_in;go_wp2_with fail;refine dO.o _ (λlv w2 aD hl=>?_);have HL:=qh hl;obtain⟨la,lc,rfl⟩:=ag hl;unfold aG;have dL:Below w.heap.size w (w2.alloc (az nd (.slice la nd.list.length lc))):=(kH.o.trans (aD.mono kH.o.size)).alloc (kH.o.trans (aD.mono kH.o.size)).size _;have h3:=(H1.o.below aD).aj (az nd (.slice la nd.list.length lc)) w2.heap.size;have y2:=h3.cell 1 rfl 0 rfl;have y3:=h3.cell 2 rfl 0 rfl;have x0:=h3.cell 3 rfl 0 rfl;have x1:=h3.cell 3 rfl 1 rfl;have x2:=h3.cell 3 rfl 2 rfl;have x3:=h3.cell 3 rfl 3 rfl;have x5:=h3.cell 3 rfl 5 rfl;have x7:=h3.cell 3 rfl 7 rfl;have cU:=qh dL;have gD:=qh (HW.o.below dL);have gg:=qh (iH.o.trans (dL.mono iH.o.size));have Df:=gD.o.lt;clear h3 aD hl dL;go_wp2_with fail;go_end0;exact HG.o _ cU.o
theorem Mv(hP:PB wB X.nv X.tv pg)(hb:Below wB.heap.size wB w){id:Nat}{nd:Nd}(hn:pg.ns[id]?=some nd)(hk:nd.kind=18)(hW:CkW w cb X ofb hasb s h0)(EU:Rh w cb bk h0)(hI:NdW pg nd)(hi:id<=100000)(bT:im pg X.aK bk id nd s≠.error Ty.stuck){R:EW}
  (aH:∀w',im pg X.aK bk id nd s=.ok s->Below w.heap.size w w'->R (.returned (.tuple #[])) w') (au:∀f w',im pg X.aK bk id nd s=.error f->Below w.heap.size w w'->R (.panicked (aI f)) w'):
  Calls prog 162 #[.pointer (some ⟨cb,0,none⟩),.int .i64 (id:Nat)] w R:=by
 have aX:=qh aH;have eB:=qh au;have HW:=qh hW;have HP:=qh hP;have iH:=qh hb;have gZ:=qh hn;obtain⟨ct,hex⟩:=oD bT;have HI:=qh hI;have Si:=qh EU;have Ii:∀(fn:Fn)(first cap:Array Value)(w:World),(Instr.makeFunc fn first cap).run prog w=.ok (.func fn first cap) w:=λ_ _ _ _=>rfl
 have oI:Below w.heap.size w ((w.alloc (.cells #[.pointer (some ⟨cb,0,none⟩)] 99)).alloc (.cells #[.int .i64 (id:Nat)] 3)):=((bR _ _).alloc (nR _) _).alloc (by simp) _;have dO:=qh (λR=>aQ (R:=R) hP (hb.trans (oI.mono hb.size)) hn (ak oI hW.c0) (nL hW.lt oI.size));have kH:=qh oI;have h1:=((Sat.fO w).aj (.cells #[.pointer (some ⟨cb,0,none⟩)] 99) w.heap.size).aj (.cells #[.int .i64 (id:Nat)] 3) (w.heap.size+1) (by simp);have H1:=qh h1;have gh:=hW.lt;have hx:im pg X.aK bk id nd s=match s.has (X.aK id)with|none=>.error Ty.stuck|some t=>ib (Ty.fits (tO s.of nd.a) t) 9 nd.pos s:=by rw[hex];unfold o0;simp only[hk];rfl
 obtain⟨t,ht⟩:∃t,s.has (X.aK id)=some t:=by
  cases hw:s.has (X.aK id)with
  |none=>rw[hx,hw]at bT;exact absurd rfl bT
  |some t=>exact⟨t,rfl⟩
 rw[hx,ht]at aX eB
 have kI:dz nd=[nd.a]:=by unfold dz;simp[hk]
 rw[kI]at ct
 have tU:=qh (cn ct (n:=nd.a) (by simp));have HT:=qh ht;clear ht hx;have zv: (((nd.kind:Nat):Int)==17)=false:=by rw[hk];rfl
 have tD: (((nd.kind:Nat):Int)==18)=true:=by rw[hk];rfl
 clear aH au hP hb hn hW EU bT ct hex hI hk oI h1;go_in;go_wp2_with fail;refine dO.o _ (λlv w2 aD hl=>?_);have HL:=qh hl;obtain⟨la,lc,rfl⟩:=ag hl;unfold aG;have dL:Below w.heap.size w (w2.alloc (az nd (.slice la nd.list.length lc))):=(kH.o.trans (aD.mono kH.o.size)).alloc (kH.o.trans (aD.mono kH.o.size)).size _;have h3:=(H1.o.below aD).aj (az nd (.slice la nd.list.length lc)) w2.heap.size;have y2:=h3.cell 1 rfl 0 rfl;have y3:=h3.cell 2 rfl 0 rfl;have x0:=h3.cell 3 rfl 0 rfl;have x1:=h3.cell 3 rfl 1 rfl;have x2:=h3.cell 3 rfl 2 rfl;have x3:=h3.cell 3 rfl 3 rfl;have x5:=h3.cell 3 rfl 5 rfl;have x7:=h3.cell 3 rfl 7 rfl;have cU:=qh dL;have gD:=qh (HW.o.below dL);have gg:=qh (iH.o.trans (dL.mono iH.o.size));have Df:=gD.o.lt;clear h3 aD hl dL;go_wp2_with fail;have wF:=gD.o.drew.oL hi;obtain⟨p,bu,hr⟩:=gD.o.hasAll wF.2 HT.o;have Ik:=(HW.o.fG.has _ _ HT.o).1.ok;have hS: (w2.alloc (az nd (.slice la nd.list.length lc))).drew.cell? ⟨cb,6,none⟩=some (.map (some hasb))/\(w2.alloc (az nd (.slice la nd.list.length lc))).drew.cell? ⟨cb,3,none⟩=some (.map (some X.nV))/\(w2.alloc (az nd (.slice la nd.list.length lc))).drew.cell? ⟨w.heap.size,0,none⟩=some (.pointer (some ⟨cb,0,none⟩))/\(w2.alloc (az nd (.slice la nd.list.length lc))).drew.cell? ⟨w.heap.size+1,0,none⟩=some (.int .i64 (id:Nat))/\(w2.alloc (az nd (.slice la nd.list.length lc))).drew.cell? ⟨w2.heap.size,1,none⟩=some (.int .i64 (nd.a:Nat))/\(Instr.lookup 102 (.map (some X.nV)) (.int .i64 (id:Nat)) false).run prog (w2.alloc (az nd (.slice la nd.list.length lc))).drew=.ok (.int .i64 (X.aK id:Nat)) (w2.alloc (az nd (.slice la nd.list.length lc))).drew/\(Instr.lookup 103 (.map (some hasb)) (.int .i64 (X.aK id:Nat)) false).run prog (w2.alloc (az nd (.slice la nd.list.length lc))).drew=.ok p (w2.alloc (az nd (.slice la nd.list.length lc))).drew:=⟨gD.o.c6,gD.o.c3,y2,y3,x1,wF.1,bu _ (Below.drew (bR _ _))⟩
 have b_:=qh (λR=>gn (R:=R) HP.o gg.o.drew gZ.o gD.o.drew tU.o HI.o.a hr Ik (b2:=w.heap.size) (b3:=w.heap.size+1) y2 y3);obtain⟨bp,rfl⟩:=aS hr;have mU:=qh (λw5(h:Below (w2.alloc (az nd (.slice la nd.list.length lc))).drew.heap.size (w2.alloc (az nd (.slice la nd.list.length lc))).drew w5)=>And.intro (ak h hS.1) (And.intro (ak h hS.2.1) (And.intro (ak h hS.2.2.1) (And.intro (ak h hS.2.2.2.1) (And.intro (ak h hS.2.2.2.2.1) (And.intro ((gD.o.drew.below h).oL hi).1 (bu w5 ((Below.drew (bR _ _)).trans h))))))));clear wF bu hr Ik;cases hf:Ty.fits (tO s.of nd.a) t with
 |true=>
  have HG:=qh (λw'=>aX.o w' (pV hf));rw[hf]at b_
  clear hf;go_region_held3(λw'=>w'.cell? ⟨cb,6,none⟩=some (.map (some hasb))/\w'.cell? ⟨cb,3,none⟩=some (.map (some X.nV))/\w'.cell? ⟨w.heap.size,0,none⟩=some (.pointer (some ⟨cb,0,none⟩))/\w'.cell? ⟨w.heap.size+1,0,none⟩=some (.int .i64 (id:Nat))/\w'.cell? ⟨w2.heap.size,1,none⟩=some (.int .i64 (nd.a:Nat))/\(Instr.lookup 102 (.map (some X.nV)) (.int .i64 (id:Nat)) false).run prog w'=.ok (.int .i64 (X.aK id:Nat)) w'/\(Instr.lookup 103 (.map (some hasb)) (.int .i64 (X.aK id:Nat)) false).run prog w'=.ok (.pointer (some ⟨bp,0,none⟩)) w') (first|exact hS|exact ik)
   ((go_at_call 248;refine b_.o _ (λ_ w5 dM=>?_) (λh=>by cases h);have Pz:=qh (HG.o w5 (cU.o.drew.trans (dM.mono cU.o.drew.size)));have ik:=mU.o w5 dM;clear dM))
  all_goals
   go_wp2_with fail;go_end0;exact Pz.o
 |false=>
  have HG:=qh (λw'=>eB.o _ w' (pQ hf));rw[hf]at b_
  clear hf
  go_region_held (λw'=>w'.cell? ⟨cb,6,none⟩=some (.map (some hasb))/\w'.cell? ⟨cb,3,none⟩=some (.map (some X.nV))/\w'.cell? ⟨w.heap.size,0,none⟩=some (.pointer (some ⟨cb,0,none⟩))/\w'.cell? ⟨w.heap.size+1,0,none⟩=some (.int .i64 (id:Nat))/\w'.cell? ⟨w2.heap.size,1,none⟩=some (.int .i64 (nd.a:Nat))/\(Instr.lookup 102 (.map (some X.nV)) (.int .i64 (id:Nat)) false).run prog w'=.ok (.int .i64 (X.aK id:Nat)) w'/\(Instr.lookup 103 (.map (some hasb)) (.int .i64 (X.aK id:Nat)) false).run prog w'=.ok (.pointer (some ⟨bp,0,none⟩)) w') (first|exact hS|exact absurd e_ (by decide))
   ((go_at_call 248;refine b_.o _ (λe_ w5 dM=>?_) (λ_ w' ff=>⟨rfl,HG.o w' (cU.o.drew.trans (ff.mono cU.o.drew.size))⟩)))
  all_goals exact absurd e_ (by decide)
theorem MW(hP:PB wB X.nv X.tv pg)(hb:Below wB.heap.size wB w){id:Nat}{nd:Nd}(hn:pg.ns[id]?=some nd)(hk:nd.kind=19)(hW:CkW w cb X ofb hasb s h0)(EU:Rh w cb bk h0)(hI:NdW pg nd)(hi:id<=100000)(bT:im pg X.aK bk id nd s≠.error Ty.stuck){R:EW}
  (aH:∀w',im pg X.aK bk id nd s=.ok s->Below w.heap.size w w'->R (.returned (.tuple #[])) w') (au:∀f w',im pg X.aK bk id nd s=.error f->Below w.heap.size w w'->R (.panicked (aI f)) w'):
  Calls prog 162 #[.pointer (some ⟨cb,0,none⟩),.int .i64 (id:Nat)] w R:=by
 have aX:=qh aH;have eB:=qh au;have HW:=qh hW;have HP:=qh hP;have iH:=qh hb;have gZ:=qh hn;obtain⟨ct,hex⟩:=oD bT;have HI:=qh hI;have Si:=qh EU;have Ii:∀(fn:Fn)(first cap:Array Value)(w:World),(Instr.makeFunc fn first cap).run prog w=.ok (.func fn first cap) w:=λ_ _ _ _=>rfl
 have oI:Below w.heap.size w ((w.alloc (.cells #[.pointer (some ⟨cb,0,none⟩)] 99)).alloc (.cells #[.int .i64 (id:Nat)] 3)):=((bR _ _).alloc (nR _) _).alloc (by simp) _;have dO:=qh (λR=>aQ (R:=R) hP (hb.trans (oI.mono hb.size)) hn (ak oI hW.c0) (nL hW.lt oI.size));have kH:=qh oI;have h1:=((Sat.fO w).aj (.cells #[.pointer (some ⟨cb,0,none⟩)] 99) w.heap.size).aj (.cells #[.int .i64 (id:Nat)] 3) (w.heap.size+1) (by simp);have H1:=qh h1;have gh:=hW.lt;have hx:im pg X.aK bk id nd s=Ty.aN (AA nd.pos (o6 (tO s.of nd.a) nd.text)) λt=>ib (Ty.fits (tO s.of nd.b) t) 9 nd.pos s:=by rw[hex];unfold o0;simp only[hk];rfl
 have kI:dz nd=[nd.a,nd.b]:=by unfold dz;simp[hk]
 rw[hx]at aX eB
 rw[kI]at ct
 have tU:=qh (cn ct (n:=nd.a) (by simp));have LC:=qh (cn ct (n:=nd.b) (by simp));clear hx;have zv: (((nd.kind:Nat):Int)==17)=false:=by rw[hk];rfl
 have tD: (((nd.kind:Nat):Int)==18)=false:=by rw[hk];rfl
 have Oh: (((nd.kind:Nat):Int)==19)=true:=by rw[hk];rfl
 clear aH au hP hb hn hW EU bT ct hex hI hk oI h1;go_in;go_wp2_with fail;refine dO.o _ (λlv w2 aD hl=>?_);have HL:=qh hl;obtain⟨la,lc,rfl⟩:=ag hl;unfold aG;have dL:Below w.heap.size w (w2.alloc (az nd (.slice la nd.list.length lc))):=(kH.o.trans (aD.mono kH.o.size)).alloc (kH.o.trans (aD.mono kH.o.size)).size _;have h3:=(H1.o.below aD).aj (az nd (.slice la nd.list.length lc)) w2.heap.size;have y2:=h3.cell 1 rfl 0 rfl;have y3:=h3.cell 2 rfl 0 rfl;have x0:=h3.cell 3 rfl 0 rfl;have x1:=h3.cell 3 rfl 1 rfl;have x2:=h3.cell 3 rfl 2 rfl;have x3:=h3.cell 3 rfl 3 rfl;have x5:=h3.cell 3 rfl 5 rfl;have x7:=h3.cell 3 rfl 7 rfl;have cU:=qh dL;have gD:=qh (HW.o.below dL);have gg:=qh (iH.o.trans (dL.mono iH.o.size));have Df:=gD.o.lt;clear h3 aD hl dL;go_wp2_with fail;obtain⟨pA,C2,OV⟩:=gD.o.fW HI.o.a tU.o;obtain⟨bA,rfl⟩:=aS OV;have Ke:=(HW.o.fG.of _ _ tU.o).1;have hS: (w2.alloc (az nd (.slice la nd.list.length lc))).drew.cell? ⟨cb,5,none⟩=some (.map (some ofb))/\(w2.alloc (az nd (.slice la nd.list.length lc))).drew.cell? ⟨w.heap.size,0,none⟩=some (.pointer (some ⟨cb,0,none⟩))/\(w2.alloc (az nd (.slice la nd.list.length lc))).drew.cell? ⟨w.heap.size+1,0,none⟩=some (.int .i64 (id:Nat))/\(w2.alloc (az nd (.slice la nd.list.length lc))).drew.cell? ⟨w2.heap.size,1,none⟩=some (.int .i64 (nd.a:Nat))/\(w2.alloc (az nd (.slice la nd.list.length lc))).drew.cell? ⟨w2.heap.size,2,none⟩=some (.int .i64 (nd.b:Nat))/\(w2.alloc (az nd (.slice la nd.list.length lc))).drew.cell? ⟨w2.heap.size,5,none⟩=some (.string nd.text)/\(Instr.lookup 103 (.map (some ofb)) (.int .i64 (nd.a:Nat)) false).run prog (w2.alloc (az nd (.slice la nd.list.length lc))).drew=.ok (.pointer (some ⟨bA,0,none⟩)) (w2.alloc (az nd (.slice la nd.list.length lc))).drew:=⟨gD.o.c5,y2,y3,x1,x2,x5,C2 _ (Below.drew (bR _ _))⟩
 have mU:=qh (λw5(h:Below (w2.alloc (az nd (.slice la nd.list.length lc))).drew.heap.size (w2.alloc (az nd (.slice la nd.list.length lc))).drew w5)=>And.intro (ak h (hS.1)) (And.intro (ak h (hS.2.1)) (And.intro (ak h (hS.2.2.1)) (And.intro (ak h (hS.2.2.2.1)) (And.intro (ak h (hS.2.2.2.2.1)) (And.intro (ak h (hS.2.2.2.2.2.1)) (C2 w5 ((Below.drew (bR _ _)).trans h))))))));have b_:=qh (λR=>xj (R:=R) HP.o gg.o.drew gZ.o gD.o.drew OV Ke.ok nd.text);clear C2 OV;cases hu:o6 (tO s.of nd.a) nd.text with
 |none=>
  have HG:=qh (λw'=>eB.o (9,nd.pos) w' (by rw[hu];rfl));rw[hu]at b_
  clear hu
  go_region_held (λw'=>w'.cell? ⟨cb,5,none⟩=some (.map (some ofb))/\w'.cell? ⟨w.heap.size,0,none⟩=some (.pointer (some ⟨cb,0,none⟩))/\w'.cell? ⟨w.heap.size+1,0,none⟩=some (.int .i64 (id:Nat))/\w'.cell? ⟨w2.heap.size,1,none⟩=some (.int .i64 (nd.a:Nat))/\w'.cell? ⟨w2.heap.size,2,none⟩=some (.int .i64 (nd.b:Nat))/\w'.cell? ⟨w2.heap.size,5,none⟩=some (.string nd.text)/\(Instr.lookup 103 (.map (some ofb)) (.int .i64 (nd.a:Nat)) false).run prog w'=.ok (.pointer (some ⟨bA,0,none⟩)) w') (first|exact hS|exact absurd e (by simp))
   (first
    |(go_at_call 243;refine b_.o _ (λu q w5 e h5=>?_) (λ_ w' ff=>⟨rfl,HG.o w' (cU.o.drew.trans (ff.mono cU.o.drew.size))⟩))
    |(go_at_call 248;refine SE e (λw6=>?_)))
  all_goals exact absurd e (by simp)
 |some u=>
  have S':=(zA Ke hu).1.ok;have L_:=qh hu;rw[hu]at b_
  have FZ:=qh (λ(R:EW)(h:∀q w',Sat (w2.alloc (az nd (.slice la nd.list.length lc))).drew w' [bG (w2.alloc (az nd (.slice la nd.list.length lc))).drew,db h0 u q]->R (.returned q) w')=>b_.o R (λu' q w' e h2=>by cases e;exact h q w' h2) (λe=>by cases e));clear b_ hu;cases hf:Ty.fits (tO s.of nd.b) u with
  |true=>
   have HG:=qh (λw'=>aX.o w' (by rw[L_.o];exact pV hf));have Nh:=qh hf;clear hf L_;go_region_held3(λw'=>w'.cell? ⟨cb,5,none⟩=some (.map (some ofb))/\w'.cell? ⟨w.heap.size,0,none⟩=some (.pointer (some ⟨cb,0,none⟩))/\w'.cell? ⟨w.heap.size+1,0,none⟩=some (.int .i64 (id:Nat))/\w'.cell? ⟨w2.heap.size,1,none⟩=some (.int .i64 (nd.a:Nat))/\w'.cell? ⟨w2.heap.size,2,none⟩=some (.int .i64 (nd.b:Nat))/\w'.cell? ⟨w2.heap.size,5,none⟩=some (.string nd.text)/\(Instr.lookup 103 (.map (some ofb)) (.int .i64 (nd.a:Nat)) false).run prog w'=.ok (.pointer (some ⟨bA,0,none⟩)) w') (first|exact hS|exact wO|exact ik)
    (first
     |(go_at_call 243;refine FZ.o _ (λq w5 h5=>?_);obtain⟨bq,rfl⟩:=aS (iJ gD.o.le ((Below.drew (bR _ _))) h5);have dM:=h5.bD;have ik:=mU.o w5 dM;have zu:=qh (λR=>gn (R:=R) HP.o (gg.o.drew.trans (dM.mono gg.o.drew.size)) gZ.o (gD.o.drew.below dM).up LC.o HI.o.b (iJ gD.o.le ((Below.drew (bR _ _))) h5) S' (b2:=w.heap.size) (b3:=w.heap.size+1) ik.2.1 ik.2.2.1);have kt:=qh (cU.o.drew.trans (dM.mono cU.o.drew.size));have Oq:=qh (λw6(h:Below w5.heap.size w5 w6)=>mU.o w6 (dM.trans (h.mono dM.size)));clear h5 dM)
     |(go_at_call 248;refine zu.o _ (λ_ w6 zt=>?_) (λh=>by rw[Nh.out]at h;cases h);have wO:=Oq.o w6 zt;have Pz:=qh (HG.o w6 (kt.o.trans (zt.mono kt.o.size)));clear zt))
   all_goals
    go_wp2_with fail;go_end0;exact Pz.o
  |false=>
   have HG:=qh (λw'=>eB.o (9,nd.pos) w' (by rw[L_.o];exact pQ hf));have Nh:=qh hf;clear hf L_
   go_region_held (λw'=>w'.cell? ⟨cb,5,none⟩=some (.map (some ofb))/\w'.cell? ⟨w.heap.size,0,none⟩=some (.pointer (some ⟨cb,0,none⟩))/\w'.cell? ⟨w.heap.size+1,0,none⟩=some (.int .i64 (id:Nat))/\w'.cell? ⟨w2.heap.size,1,none⟩=some (.int .i64 (nd.a:Nat))/\w'.cell? ⟨w2.heap.size,2,none⟩=some (.int .i64 (nd.b:Nat))/\w'.cell? ⟨w2.heap.size,5,none⟩=some (.string nd.text)/\(Instr.lookup 103 (.map (some ofb)) (.int .i64 (nd.a:Nat)) false).run prog w'=.ok (.pointer (some ⟨bA,0,none⟩)) w') (first|exact hS|exact ik|exact absurd e_ (by rw[Nh.out];decide))
    (first
     |(go_at_call 243;refine FZ.o _ (λq w5 h5=>?_);obtain⟨bq,rfl⟩:=aS (iJ gD.o.le ((Below.drew (bR _ _))) h5);have dM:=h5.bD;have ik:=mU.o w5 dM;have zu:=qh (λR=>gn (R:=R) HP.o (gg.o.drew.trans (dM.mono gg.o.drew.size)) gZ.o (gD.o.drew.below dM).up LC.o HI.o.b (iJ gD.o.le ((Below.drew (bR _ _))) h5) S' (b2:=w.heap.size) (b3:=w.heap.size+1) ik.2.1 ik.2.2.1);have kt:=qh (cU.o.drew.trans (dM.mono cU.o.drew.size));clear h5 dM)
     |(go_at_call 248;refine zu.o _ (λe_ w6 zt=>?_) (λ_ w' ff=>⟨rfl,HG.o w' (kt.o.trans (ff.mono kt.o.size))⟩)))
   all_goals exact absurd e_ (by rw[Nh.out];decide)
theorem My(hP:PB wB X.nv X.tv pg)(hb:Below wB.heap.size wB w){id:Nat}{nd:Nd}(hn:pg.ns[id]?=some nd)(hk:nd.kind=20/\0<=nd.c/\nd.c<=100000)(hW:CkW w cb X ofb hasb s h0)(EU:Rh w cb bk h0)(hI:NdW pg nd)(hi:id<=100000)(bT:im pg X.aK bk id nd s≠.error Ty.stuck){R:EW}
  (aH:∀w',im pg X.aK bk id nd s=.ok s->Below w.heap.size w w'->R (.returned (.tuple #[])) w') (au:∀f w',im pg X.aK bk id nd s=.error f->Below w.heap.size w w'->R (.panicked (aI f)) w'):
  Calls prog 162 #[.pointer (some ⟨cb,0,none⟩),.int .i64 (id:Nat)] w R:=by
 have aX:=qh aH;have eB:=qh au;have HW:=qh hW;have HP:=qh hP;have iH:=qh hb;have gZ:=qh hn;obtain⟨ct,hex⟩:=oD bT;have HI:=qh hI;have Si:=qh EU;have Ii:∀(fn:Fn)(first cap:Array Value)(w:World),(Instr.makeFunc fn first cap).run prog w=.ok (.func fn first cap) w:=λ_ _ _ _=>rfl
 have oI:Below w.heap.size w ((w.alloc (.cells #[.pointer (some ⟨cb,0,none⟩)] 99)).alloc (.cells #[.int .i64 (id:Nat)] 3)):=((bR _ _).alloc (nR _) _).alloc (by simp) _;have dO:=qh (λR=>aQ (R:=R) hP (hb.trans (oI.mono hb.size)) hn (ak oI hW.c0) (nL hW.lt oI.size));have kH:=qh oI;have h1:=((Sat.fO w).aj (.cells #[.pointer (some ⟨cb,0,none⟩)] 99) w.heap.size).aj (.cells #[.int .i64 (id:Nat)] 3) (w.heap.size+1) (by simp);have H1:=qh h1;have gh:=hW.lt;obtain⟨hk,US,acU⟩:=hk;have zo: ((nd.c.toNat:Nat):Int)=nd.c:=by omega
 have hx:im pg X.aK bk id nd s=Ty.aN (AA nd.pos (iT (tO s.of nd.a) (tO s.of nd.b))) λt=>ib (Ty.fits (tO s.of nd.c.toNat) t) 9 nd.pos s:=by rw[hex];unfold o0;simp only[hk];rfl
 have kI:dz nd=[nd.a,nd.b,nd.c.toNat]:=by unfold dz;simp[hk]
 rw[hx]at aX eB
 rw[kI]at ct
 have tU:=qh (cn ct (n:=nd.a) (by simp));have LC:=qh (cn ct (n:=nd.b) (by simp));have YO:=qh (cn ct (n:=nd.c.toNat) (by simp));clear hx;have zv: (((nd.kind:Nat):Int)==17)=false:=by rw[hk];rfl
 have tD: (((nd.kind:Nat):Int)==18)=false:=by rw[hk];rfl
 have Oh: (((nd.kind:Nat):Int)==19)=false:=by rw[hk];rfl
 have NM: (((nd.kind:Nat):Int)==20)=true:=by rw[hk];rfl
 clear aH au hP hb hn hW EU bT ct hex hI hk oI h1;go_in;go_wp2_with fail;refine dO.o _ (λlv w2 aD hl=>?_);have HL:=qh hl;obtain⟨la,lc,rfl⟩:=ag hl;unfold aG;have dL:Below w.heap.size w (w2.alloc (az nd (.slice la nd.list.length lc))):=(kH.o.trans (aD.mono kH.o.size)).alloc (kH.o.trans (aD.mono kH.o.size)).size _;have h3:=(H1.o.below aD).aj (az nd (.slice la nd.list.length lc)) w2.heap.size;have y2:=h3.cell 1 rfl 0 rfl;have y3:=h3.cell 2 rfl 0 rfl;have x0:=h3.cell 3 rfl 0 rfl;have x1:=h3.cell 3 rfl 1 rfl;have x2:=h3.cell 3 rfl 2 rfl;have x3:=h3.cell 3 rfl 3 rfl;have x5:=h3.cell 3 rfl 5 rfl;have x7:=h3.cell 3 rfl 7 rfl;have cU:=qh dL;have gD:=qh (HW.o.below dL);have gg:=qh (iH.o.trans (dL.mono iH.o.size));have Df:=gD.o.lt;clear h3 aD hl dL;go_wp2_with fail;obtain⟨pA,C2,OV⟩:=gD.o.fW HI.o.a tU.o;obtain⟨bA,rfl⟩:=aS OV;have Ke:=(HW.o.fG.of _ _ tU.o).1;obtain⟨pB,Qb,Xh⟩:=gD.o.fW HI.o.b LC.o;obtain⟨bB,rfl⟩:=aS Xh;have Xf:=(HW.o.fG.of _ _ LC.o).1;have hS: (w2.alloc (az nd (.slice la nd.list.length lc))).drew.cell? ⟨cb,5,none⟩=some (.map (some ofb))/\(w2.alloc (az nd (.slice la nd.list.length lc))).drew.cell? ⟨w.heap.size,0,none⟩=some (.pointer (some ⟨cb,0,none⟩))/\(w2.alloc (az nd (.slice la nd.list.length lc))).drew.cell? ⟨w.heap.size+1,0,none⟩=some (.int .i64 (id:Nat))/\(w2.alloc (az nd (.slice la nd.list.length lc))).drew.cell? ⟨w2.heap.size,1,none⟩=some (.int .i64 (nd.a:Nat))/\(w2.alloc (az nd (.slice la nd.list.length lc))).drew.cell? ⟨w2.heap.size,2,none⟩=some (.int .i64 (nd.b:Nat))/\(w2.alloc (az nd (.slice la nd.list.length lc))).drew.cell? ⟨w2.heap.size,3,none⟩=some (.int .i64 nd.c)/\(Instr.lookup 103 (.map (some ofb)) (.int .i64 (nd.a:Nat)) false).run prog (w2.alloc (az nd (.slice la nd.list.length lc))).drew=.ok (.pointer (some ⟨bA,0,none⟩)) (w2.alloc (az nd (.slice la nd.list.length lc))).drew/\(Instr.lookup 103 (.map (some ofb)) (.int .i64 (nd.b:Nat)) false).run prog (w2.alloc (az nd (.slice la nd.list.length lc))).drew=.ok (.pointer (some ⟨bB,0,none⟩)) (w2.alloc (az nd (.slice la nd.list.length lc))).drew:=⟨gD.o.c5,y2,y3,x1,x2,x3,C2 _ (Below.drew (bR _ _)),Qb _ (Below.drew (bR _ _))⟩
 have mU:=qh (λw5(h:Below (w2.alloc (az nd (.slice la nd.list.length lc))).drew.heap.size (w2.alloc (az nd (.slice la nd.list.length lc))).drew w5)=>And.intro (ak h (hS.1)) (And.intro (ak h (hS.2.1)) (And.intro (ak h (hS.2.2.1)) (And.intro (ak h (hS.2.2.2.1)) (And.intro (ak h (hS.2.2.2.2.1)) (And.intro (ak h (hS.2.2.2.2.2.1)) (And.intro (C2 w5 ((Below.drew (bR _ _)).trans h)) (Qb w5 ((Below.drew (bR _ _)).trans h)))))))));have b_:=qh (λR=>r8 (R:=R) HP.o gg.o.drew gZ.o gD.o.drew OV Ke.ok Xh Xf.ok);clear C2 OV Qb Xh;cases hu:iT (tO s.of nd.a) (tO s.of nd.b)with
 |none=>
  have HG:=qh (λw'=>eB.o (9,nd.pos) w' (by rw[hu];rfl));rw[hu]at b_
  clear hu
  go_region_held (λw'=>w'.cell? ⟨cb,5,none⟩=some (.map (some ofb))/\w'.cell? ⟨w.heap.size,0,none⟩=some (.pointer (some ⟨cb,0,none⟩))/\w'.cell? ⟨w.heap.size+1,0,none⟩=some (.int .i64 (id:Nat))/\w'.cell? ⟨w2.heap.size,1,none⟩=some (.int .i64 (nd.a:Nat))/\w'.cell? ⟨w2.heap.size,2,none⟩=some (.int .i64 (nd.b:Nat))/\w'.cell? ⟨w2.heap.size,3,none⟩=some (.int .i64 nd.c)/\(Instr.lookup 103 (.map (some ofb)) (.int .i64 (nd.a:Nat)) false).run prog w'=.ok (.pointer (some ⟨bA,0,none⟩)) w'/\(Instr.lookup 103 (.map (some ofb)) (.int .i64 (nd.b:Nat)) false).run prog w'=.ok (.pointer (some ⟨bB,0,none⟩)) w') (first|exact hS|exact absurd e (by simp))
   (first
    |(go_at_call 244;refine b_.o _ (λu q w5 e h5=>?_) (λ_ w' ff=>⟨rfl,HG.o w' (cU.o.drew.trans (ff.mono cU.o.drew.size))⟩))
    |(go_at_call 248;refine SE e (λw6=>?_)))
  all_goals exact absurd e (by simp)
 |some u=>
  have S':=(um Ke hu).1.ok;have L_:=qh hu;rw[hu]at b_
  have FZ:=qh (λ(R:EW)(h:∀q w',Sat (w2.alloc (az nd (.slice la nd.list.length lc))).drew w' [bG (w2.alloc (az nd (.slice la nd.list.length lc))).drew,db h0 u q]->R (.returned q) w')=>b_.o R (λu' q w' e h2=>by cases e;exact h q w' h2) (λe=>by cases e));clear b_ hu;cases hf:Ty.fits (tO s.of nd.c.toNat) u with
  |true=>
   have HG:=qh (λw'=>aX.o w' (by rw[L_.o];exact pV hf));have Nh:=qh hf;clear hf L_;go_region_held3(λw'=>w'.cell? ⟨cb,5,none⟩=some (.map (some ofb))/\w'.cell? ⟨w.heap.size,0,none⟩=some (.pointer (some ⟨cb,0,none⟩))/\w'.cell? ⟨w.heap.size+1,0,none⟩=some (.int .i64 (id:Nat))/\w'.cell? ⟨w2.heap.size,1,none⟩=some (.int .i64 (nd.a:Nat))/\w'.cell? ⟨w2.heap.size,2,none⟩=some (.int .i64 (nd.b:Nat))/\w'.cell? ⟨w2.heap.size,3,none⟩=some (.int .i64 nd.c)/\(Instr.lookup 103 (.map (some ofb)) (.int .i64 (nd.a:Nat)) false).run prog w'=.ok (.pointer (some ⟨bA,0,none⟩)) w'/\(Instr.lookup 103 (.map (some ofb)) (.int .i64 (nd.b:Nat)) false).run prog w'=.ok (.pointer (some ⟨bB,0,none⟩)) w') (first|exact hS|exact wO|exact ik)
    (first
     |(go_at_call 244;refine FZ.o _ (λq w5 h5=>?_);obtain⟨bq,rfl⟩:=aS (iJ gD.o.le ((Below.drew (bR _ _))) h5);have dM:=h5.bD;have ik:=mU.o w5 dM;have zu:=qh (λR=>gn (R:=R) HP.o (gg.o.drew.trans (dM.mono gg.o.drew.size)) gZ.o (gD.o.drew.below dM).up YO.o (by omega) (iJ gD.o.le ((Below.drew (bR _ _))) h5) S' (b2:=w.heap.size) (b3:=w.heap.size+1) ik.2.1 ik.2.2.1);rw[zo]at zu;have kt:=qh (cU.o.drew.trans (dM.mono cU.o.drew.size));have Oq:=qh (λw6(h:Below w5.heap.size w5 w6)=>mU.o w6 (dM.trans (h.mono dM.size)));clear h5 dM)
     |(go_at_call 248;refine zu.o _ (λ_ w6 zt=>?_) (λh=>by rw[Nh.out]at h;cases h);have wO:=Oq.o w6 zt;have Pz:=qh (HG.o w6 (kt.o.trans (zt.mono kt.o.size)));clear zt))
   all_goals
    go_wp2_with fail;go_end0;exact Pz.o
  |false=>
   have HG:=qh (λw'=>eB.o (9,nd.pos) w' (by rw[L_.o];exact pQ hf));have Nh:=qh hf;clear hf L_
   go_region_held (λw'=>w'.cell? ⟨cb,5,none⟩=some (.map (some ofb))/\w'.cell? ⟨w.heap.size,0,none⟩=some (.pointer (some ⟨cb,0,none⟩))/\w'.cell? ⟨w.heap.size+1,0,none⟩=some (.int .i64 (id:Nat))/\w'.cell? ⟨w2.heap.size,1,none⟩=some (.int .i64 (nd.a:Nat))/\w'.cell? ⟨w2.heap.size,2,none⟩=some (.int .i64 (nd.b:Nat))/\w'.cell? ⟨w2.heap.size,3,none⟩=some (.int .i64 nd.c)/\(Instr.lookup 103 (.map (some ofb)) (.int .i64 (nd.a:Nat)) false).run prog w'=.ok (.pointer (some ⟨bA,0,none⟩)) w'/\(Instr.lookup 103 (.map (some ofb)) (.int .i64 (nd.b:Nat)) false).run prog w'=.ok (.pointer (some ⟨bB,0,none⟩)) w') (first|exact hS|exact ik|exact absurd e_ (by rw[Nh.out];decide))
    (first
     |(go_at_call 244;refine FZ.o _ (λq w5 h5=>?_);obtain⟨bq,rfl⟩:=aS (iJ gD.o.le ((Below.drew (bR _ _))) h5);have dM:=h5.bD;have ik:=mU.o w5 dM;have zu:=qh (λR=>gn (R:=R) HP.o (gg.o.drew.trans (dM.mono gg.o.drew.size)) gZ.o (gD.o.drew.below dM).up YO.o (by omega) (iJ gD.o.le ((Below.drew (bR _ _))) h5) S' (b2:=w.heap.size) (b3:=w.heap.size+1) ik.2.1 ik.2.2.1);rw[zo]at zu;have kt:=qh (cU.o.drew.trans (dM.mono cU.o.drew.size));clear h5 dM)
     |(go_at_call 248;refine zu.o _ (λe_ w6 zt=>?_) (λ_ w' ff=>⟨rfl,HG.o w' (kt.o.trans (ff.mono kt.o.size))⟩)))
   all_goals exact absurd e_ (by rw[Nh.out];decide)
theorem Np(hP:PB wB X.nv X.tv pg)(hb:Below wB.heap.size wB w){id:Nat}{nd:Nd}(hn:pg.ns[id]?=some nd)(hk:nd.kind=24)(hW:CkW w cb X ofb hasb s h0)(EU:Rh w cb bk h0)(hI:NdW pg nd)(hi:id<=100000)(bT:im pg X.aK bk id nd s≠.error Ty.stuck){R:EW}
  (aH:∀w',im pg X.aK bk id nd s=.ok s->Below w.heap.size w w'->R (.returned (.tuple #[])) w') (au:∀f w',im pg X.aK bk id nd s=.error f->Below w.heap.size w w'->R (.panicked (aI f)) w'):
  Calls prog 162 #[.pointer (some ⟨cb,0,none⟩),.int .i64 (id:Nat)] w R:=by
 have aX:=qh aH;have eB:=qh au;have HW:=qh hW;have HP:=qh hP;have iH:=qh hb;have gZ:=qh hn;obtain⟨ct,hex⟩:=oD bT;have HI:=qh hI;have Si:=qh EU;have Ii:∀(fn:Fn)(first cap:Array Value)(w:World),(Instr.makeFunc fn first cap).run prog w=.ok (.func fn first cap) w:=λ_ _ _ _=>rfl
 have oI:Below w.heap.size w ((w.alloc (.cells #[.pointer (some ⟨cb,0,none⟩)] 99)).alloc (.cells #[.int .i64 (id:Nat)] 3)):=((bR _ _).alloc (nR _) _).alloc (by simp) _;have dO:=qh (λR=>aQ (R:=R) hP (hb.trans (oI.mono hb.size)) hn (ak oI hW.c0) (nL hW.lt oI.size));have kH:=qh oI;have h1:=((Sat.fO w).aj (.cells #[.pointer (some ⟨cb,0,none⟩)] 99) w.heap.size).aj (.cells #[.int .i64 (id:Nat)] 3) (w.heap.size+1) (by simp);have H1:=qh h1;have gh:=hW.lt;have hx:im pg X.aK bk id nd s=match bk.getLast? with|none=>.error (4,nd.pos)|some none=>.ok s|some (some t)=>ib (Ty.fits (tO s.of nd.a) t) 9 nd.pos s:=by rw[hex];unfold o0;simp only[hk];rfl
 have kI:dz nd=[nd.a]:=by unfold dz;simp[hk]
 rw[kI]at ct
 have tU:=qh (cn ct (n:=nd.a) (by simp));have ZE:=qh (λw1(h:Below w.heap.size w w1)(ok:Bool)(R:EW)=>eC (R:=R) (b:=ok) (e:=4) hP (hb.trans (h.mono hb.size)) hn (ak h hW.c0) (nL hW.lt h.size));rw[hx]at aX eB
 clear hx;have zv: (((nd.kind:Nat):Int)==17)=false:=by rw[hk];rfl
 have tD: (((nd.kind:Nat):Int)==18)=false:=by rw[hk];rfl
 have Oh: (((nd.kind:Nat):Int)==19)=false:=by rw[hk];rfl
 have NM: (((nd.kind:Nat):Int)==20)=false:=by rw[hk];rfl
 have Wx: (((nd.kind:Nat):Int)==24)=true:=by rw[hk];rfl
 clear aH au hP hb hn hW EU bT ct hex hI hk oI h1;go_in;go_wp2_with fail;refine dO.o _ (λlv w2 aD hl=>?_);have HL:=qh hl;obtain⟨la,lc,rfl⟩:=ag hl;unfold aG;have dL:Below w.heap.size w (w2.alloc (az nd (.slice la nd.list.length lc))):=(kH.o.trans (aD.mono kH.o.size)).alloc (kH.o.trans (aD.mono kH.o.size)).size _;have h3:=(H1.o.below aD).aj (az nd (.slice la nd.list.length lc)) w2.heap.size;have y2:=h3.cell 1 rfl 0 rfl;have y3:=h3.cell 2 rfl 0 rfl;have x0:=h3.cell 3 rfl 0 rfl;have x1:=h3.cell 3 rfl 1 rfl;have x2:=h3.cell 3 rfl 2 rfl;have x3:=h3.cell 3 rfl 3 rfl;have x5:=h3.cell 3 rfl 5 rfl;have x7:=h3.cell 3 rfl 7 rfl;have cU:=qh dL;have gD:=qh (HW.o.below dL);have gg:=qh (iH.o.trans (dL.mono iH.o.size));have Df:=gD.o.lt;clear h3 aD hl dL;go_wp2_with fail;obtain⟨bv,bl,b7,MS,BR,Un,Xk⟩:=Si.o;obtain⟨qa,qc,rfl⟩:=ag MS;have Wo:=ak cU.o b7;have hS: (w2.alloc (az nd (.slice la nd.list.length lc))).drew.cell? ⟨w.heap.size,0,none⟩=some (.pointer (some ⟨cb,0,none⟩))/\(w2.alloc (az nd (.slice la nd.list.length lc))).drew.cell? ⟨w.heap.size+1,0,none⟩=some (.int .i64 (id:Nat))/\(w2.alloc (az nd (.slice la nd.list.length lc))).drew.cell? ⟨cb,7,none⟩=some (.slice qa bl.length qc):=⟨y2,y3,Wo⟩
 by_cases h0:bl.length=0
 ·have yP:bk=[]:=List.length_eq_zero_iff.1 (by omega);have HG:=qh (λw'=>eB.o (4,nd.pos) w' (by rw[yP];rfl));rw[h0]at hS
  clear BR Un Xk b7 Wo MS h0
  go_region_held (λw'=>w'.cell? ⟨w.heap.size,0,none⟩=some (.pointer (some ⟨cb,0,none⟩))/\w'.cell? ⟨w.heap.size+1,0,none⟩=some (.int .i64 (id:Nat))/\w'.cell? ⟨cb,7,none⟩=some (.slice qa 0 qc)) (first|exact hS|exact absurd e_ (by decide))
   ((go_at_call 160;refine ZE.o _ cU.o.drew _ _ (λe_=>?_) (λ_ w' ff=>⟨rfl,HG.o w' (cU.o.drew.trans (ff.mono cU.o.drew.size))⟩)))
  all_goals exact absurd e_ (by decide)
 ·obtain⟨k,Cl⟩:∃k,bl.length=k+1:=⟨bl.length-1,by omega⟩
  have MR:k<bk.length:=by omega
  have S5:k<bl.length:=by omega
  obtain⟨g,cap,e,hg,d0⟩:=fF (ay MS cU.o) k S5;cases e;have hv:=Xk k MR S5;have ku:bk.getLast?=some bk[k]:=by rw[List.getLast?_eq_getElem?,show bk.length-1=k by omega,List.getElem?_eq_getElem MR]
  rw[ku]at aX eB
  rw[Cl]at hS
  have ZX:decide ((0:Int)<((k+1:Nat):Int))=true:=decide_eq_true (by omega);have hw:=IntWalk.i64_in (n:=(k:Int)) (by omega);have hs:IntKind.i64.wrap (((k+1:Nat):Int)-1)=(k:Int):=by rw[show((k+1:Nat):Int)-1=(k:Int)by omega];exact hw
  have Ol:IntKind.i64.wrap (((k:Nat):Int)+1-1)=(k:Int):=by rw[show((k:Nat):Int)+1-1=(k:Int)by omega];exact hw
  have U5:g<(w2.alloc (az nd (.slice la nd.list.length lc))).heap.size:=hg;have Rs: (0:Int)<=(k:Int):=by omega
  have Eh: (k:Int)<(k:Int)+1:=by omega
  have wY: (k:Int)<((k+1:Nat):Int):=by omega
  have sB: (w2.alloc (az nd (.slice la nd.list.length lc))).drew.drew.cell? ⟨w.heap.size,0,none⟩=some (.pointer (some ⟨cb,0,none⟩))/\(w2.alloc (az nd (.slice la nd.list.length lc))).drew.drew.cell? ⟨cb,7,none⟩=some (.slice (some ⟨g,0,none⟩) (k+1) qc)/\(w2.alloc (az nd (.slice la nd.list.length lc))).drew.drew.cell? ⟨g,k,none⟩=some bl[k]:=⟨y2,hS.2.2,d0⟩
  have abl: (w2.alloc (az nd (.slice la nd.list.length lc))).drew.drew.cell? ⟨w.heap.size,0,none⟩=some (.pointer (some ⟨cb,0,none⟩)):=y2;have Z4: (w2.alloc (az nd (.slice la nd.list.length lc))).drew.drew.cell? ⟨w.heap.size+1,0,none⟩=some (.int .i64 (id:Nat)):=y3;have adt: (w2.alloc (az nd (.slice la nd.list.length lc))).drew.drew.cell? ⟨w2.heap.size,1,none⟩=some (.int .i64 (nd.a:Nat)):=x1;generalize bl[k]=vl at*
  generalize bk[k]=ot at*
  clear BR Un Xk b7 Wo MS h0 ku;go_region_held3(λw'=>w'.cell? ⟨w.heap.size,0,none⟩=some (.pointer (some ⟨cb,0,none⟩))/\w'.cell? ⟨w.heap.size+1,0,none⟩=some (.int .i64 (id:Nat))/\w'.cell? ⟨cb,7,none⟩=some (.slice (some ⟨g,0,none⟩) (k+1) qc)) (exact hS)
   ((go_at_call 160;refine ZE.o _ cU.o.drew _ _ (λ_=>?_) (λh=>by cases h)))
  all_goals
   go_wp2_with fail;go_region_held3(λw'=>w'.cell? ⟨w.heap.size,0,none⟩=some (.pointer (some ⟨cb,0,none⟩))/\w'.cell? ⟨cb,7,none⟩=some (.slice (some ⟨g,0,none⟩) (k+1) qc)/\w'.cell? ⟨g,k,none⟩=some vl) (exact sB) (fail)
   all_goals
    cases ot with
    |none=>
     dsimp only at hv;subst hv;have HG:=qh (λw'=>aX.o w' rfl);go_wp2_with fail;go_end0;exact HG.o _ cU.o.drew.drew
    |some t=>
     dsimp only at hv;obtain⟨hr,Eu⟩:=hv;have b_:=qh (λR=>gn (R:=R) HP.o gg.o.drew.drew gZ.o gD.o.drew.drew tU.o HI.o.a hr Eu (b2:=w.heap.size) (b3:=w.heap.size+1) abl Z4);obtain⟨bt,rfl⟩:=aS hr;have HG:=qh (λw'(h:Ty.fits (tO s.of nd.a) t=true)=>aX.o w' (pV h));have AV:=qh (λw'(h:Ty.fits (tO s.of nd.a) t=false)=>eB.o (9,nd.pos) w' (pQ h));clear hr Eu;go_wp2_with fail;refine b_.o _ (λhf w5 dM=>?_) (λhf w5 dM=>?_)
     ·have Pz:=qh (HG.o w5 hf (cU.o.drew.drew.trans (dM.mono cU.o.drew.drew.size)));clear dM;go_wp2_with fail;go_end0;exact Pz.o
     ·exact⟨rfl,AV.o w5 hf (cU.o.drew.drew.trans (dM.mono cU.o.drew.drew.size))⟩
end
end
end Go.Proofs.YtdlbhiaceheffabGreatDoor
