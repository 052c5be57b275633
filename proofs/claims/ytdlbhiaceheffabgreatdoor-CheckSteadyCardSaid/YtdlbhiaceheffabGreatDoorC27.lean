/- Walk of bind.Parts. (Printed by gen_nc4.py.) -/
import Derived.RangeFuncNested
import Derived.RangeFuncBound
import Derived.RangeFuncCalls
import Derived.RangeFuncLeaves
import Derived.Shelf.Abstract
import Derived.Shelf.RegionOpen
import Derived.WalkKit
import Derived.OwnWalkIn
import Derived.TacticsInMore
import Derived.LoopNIn
import Derived.LoopIn
import Derived.IntWalk
import Derived.Test.YtdlbhiaceheffabGreatDoorProg
import Derived.Test.YtdlbhiaceheffabGreatDoorC26
set_option linter.all false
set_option maxRecDepth 100000
set_option maxHeartbeats 4000000
namespace Go.Proofs.YtdlbhiaceheffabGreatDoor
open Go Go.RowKit Ty Tok Prt Tryz Proofs.Tryz
section
variable {w:World} {a b fn ps:Nat} {c ty:Int} {l:List Nat} {tx:BA} {lv:Value}
theorem E9{R:EW}(hR:∀v w',Sat w w' [bY w,lL ⟨10,a,b,c,l,tx,fn,ty,ps⟩ lv v l]->R (.returned v) w'):
  Calls prog 157 #[aH ⟨10,a,b,c,l,tx,fn,ty,ps⟩ lv] w R:=by
 have h1:=((Sat.iN w).aU (cz ⟨10,a,b,c,l,tx,fn,ty,ps⟩ lv)).jR (P:=lL ⟨10,a,b,c,l,tx,fn,ty,ps⟩ lv lv l) (λ_=>.inl ⟨rfl,rfl⟩);have HR:=qh (hR _ _ h1);clear hR h1;dsimp only[aH]at*
 go_in;go_wp2;exact HR.o
theorem Gb{R:EW}(hR:∀v w',Sat w w' [bY w,lL ⟨11,a,b,c,l,tx,fn,ty,ps⟩ lv v l]->R (.returned v) w'):
  Calls prog 157 #[aH ⟨11,a,b,c,l,tx,fn,ty,ps⟩ lv] w R:=by
 have h1:=((Sat.iN w).aU (cz ⟨11,a,b,c,l,tx,fn,ty,ps⟩ lv)).jR (P:=lL ⟨11,a,b,c,l,tx,fn,ty,ps⟩ lv lv l) (λ_=>.inl ⟨rfl,rfl⟩);have HR:=qh (hR _ _ h1);clear hR h1;dsimp only[aH]at*
 go_in;go_wp2;exact HR.o
theorem Ke{R:EW}(hR:∀v w',Sat w w' [bY w,lL ⟨1,a,b,c,l,tx,fn,ty,ps⟩ lv v []]->R (.returned v) w'):
  Calls prog 157 #[aH ⟨1,a,b,c,l,tx,fn,ty,ps⟩ lv] w R:=by
 have h1:=(((Sat.iN w).aU (cz ⟨1,a,b,c,l,tx,fn,ty,ps⟩ lv)).nil 3 1).cQ (i:=1) rfl (Q:=lL ⟨1,a,b,c,l,tx,fn,ty,ps⟩ lv (.slice none 0 0) []) (λ_ h=>.inr h);have HR:=qh (hR _ _ h1);clear hR h1;dsimp only[aH]at*
 go_in;go_wp2;exact HR.o
theorem Jg{R:EW}(hR:∀v w',Sat w w' [bY w,lL ⟨2,a,b,c,l,tx,fn,ty,ps⟩ lv v []]->R (.returned v) w'):
  Calls prog 157 #[aH ⟨2,a,b,c,l,tx,fn,ty,ps⟩ lv] w R:=by
 have h1:=(((Sat.iN w).aU (cz ⟨2,a,b,c,l,tx,fn,ty,ps⟩ lv)).nil 3 1).cQ (i:=1) rfl (Q:=lL ⟨2,a,b,c,l,tx,fn,ty,ps⟩ lv (.slice none 0 0) []) (λ_ h=>.inr h);have HR:=qh (hR _ _ h1);clear hR h1;dsimp only[aH]at*
 go_in;go_wp2;exact HR.o
theorem JH{R:EW}(hR:∀v w',Sat w w' [bY w,lL ⟨3,a,b,c,l,tx,fn,ty,ps⟩ lv v []]->R (.returned v) w'):
  Calls prog 157 #[aH ⟨3,a,b,c,l,tx,fn,ty,ps⟩ lv] w R:=by
 have h1:=(((Sat.iN w).aU (cz ⟨3,a,b,c,l,tx,fn,ty,ps⟩ lv)).nil 3 1).cQ (i:=1) rfl (Q:=lL ⟨3,a,b,c,l,tx,fn,ty,ps⟩ lv (.slice none 0 0) []) (λ_ h=>.inr h);have HR:=qh (hR _ _ h1);clear hR h1;dsimp only[aH]at*
 go_in;go_wp2;exact HR.o
theorem KU{R:EW}(hR:∀v w',Sat w w' [bY w,lL ⟨4,a,b,c,l,tx,fn,ty,ps⟩ lv v []]->R (.returned v) w'):
  Calls prog 157 #[aH ⟨4,a,b,c,l,tx,fn,ty,ps⟩ lv] w R:=by
 have h1:=(((Sat.iN w).aU (cz ⟨4,a,b,c,l,tx,fn,ty,ps⟩ lv)).nil 3 1).cQ (i:=1) rfl (Q:=lL ⟨4,a,b,c,l,tx,fn,ty,ps⟩ lv (.slice none 0 0) []) (λ_ h=>.inr h);have HR:=qh (hR _ _ h1);clear hR h1;dsimp only[aH]at*
 go_in;go_wp2;exact HR.o
theorem I2{R:EW}(hR:∀v w',Sat w w' [bY w,lL ⟨9,a,b,c,l,tx,fn,ty,ps⟩ lv v [a,b]]->R (.returned v) w'):
  Calls prog 157 #[aH ⟨9,a,b,c,l,tx,fn,ty,ps⟩ lv] w R:=by
 have h1:=(((Sat.iN w).aU (cz ⟨9,a,b,c,l,tx,fn,ty,ps⟩ lv)).ar (.cells #[.int .i64 a,.int .i64 b] 3) (w.heap.size+1)).cQ (i:=1) rfl (Q:=lL ⟨9,a,b,c,l,tx,fn,ty,ps⟩ lv (.slice (some ⟨w.heap.size+1,0,none⟩) 2 2) [a,b]) (λ_ h=>.inr (cR h rfl (by simp[maxLen]) (by simp[aQ])));have HR:=qh (hR _ _ h1);clear hR h1;dsimp only[aH]at*
 go_in;go_wp2;exact HR.o
theorem FP{R:EW}(hR:∀v w',Sat w w' [bY w,lL ⟨12,a,b,c,l,tx,fn,ty,ps⟩ lv v [a,b]]->R (.returned v) w'):
  Calls prog 157 #[aH ⟨12,a,b,c,l,tx,fn,ty,ps⟩ lv] w R:=by
 have h1:=(((Sat.iN w).aU (cz ⟨12,a,b,c,l,tx,fn,ty,ps⟩ lv)).ar (.cells #[.int .i64 a,.int .i64 b] 3) (w.heap.size+1)).cQ (i:=1) rfl (Q:=lL ⟨12,a,b,c,l,tx,fn,ty,ps⟩ lv (.slice (some ⟨w.heap.size+1,0,none⟩) 2 2) [a,b]) (λ_ h=>.inr (cR h rfl (by simp[maxLen]) (by simp[aQ])));have HR:=qh (hR _ _ h1);clear hR h1;dsimp only[aH]at*
 go_in;go_wp2;exact HR.o
theorem Eg{R:EW}(hR:∀v w',Sat w w' [bY w,lL ⟨19,a,b,c,l,tx,fn,ty,ps⟩ lv v [a,b]]->R (.returned v) w'):
  Calls prog 157 #[aH ⟨19,a,b,c,l,tx,fn,ty,ps⟩ lv] w R:=by
 have h1:=(((Sat.iN w).aU (cz ⟨19,a,b,c,l,tx,fn,ty,ps⟩ lv)).ar (.cells #[.int .i64 a,.int .i64 b] 3) (w.heap.size+1)).cQ (i:=1) rfl (Q:=lL ⟨19,a,b,c,l,tx,fn,ty,ps⟩ lv (.slice (some ⟨w.heap.size+1,0,none⟩) 2 2) [a,b]) (λ_ h=>.inr (cR h rfl (by simp[maxLen]) (by simp[aQ])));have HR:=qh (hR _ _ h1);clear hR h1;dsimp only[aH]at*
 go_in;go_wp2;exact HR.o
theorem F2{R:EW}(hR:∀v w',Sat w w' [bY w,lL ⟨23,a,b,c,l,tx,fn,ty,ps⟩ lv v [a,b]]->R (.returned v) w'):
  Calls prog 157 #[aH ⟨23,a,b,c,l,tx,fn,ty,ps⟩ lv] w R:=by
 have h1:=(((Sat.iN w).aU (cz ⟨23,a,b,c,l,tx,fn,ty,ps⟩ lv)).ar (.cells #[.int .i64 a,.int .i64 b] 3) (w.heap.size+1)).cQ (i:=1) rfl (Q:=lL ⟨23,a,b,c,l,tx,fn,ty,ps⟩ lv (.slice (some ⟨w.heap.size+1,0,none⟩) 2 2) [a,b]) (λ_ h=>.inr (cR h rfl (by simp[maxLen]) (by simp[aQ])));have HR:=qh (hR _ _ h1);clear hR h1;dsimp only[aH]at*
 go_in;go_wp2;exact HR.o
theorem Fq(hc:0<=c){R:EW}(hR:∀v w',Sat w w' [bY w,lL ⟨20,a,b,c,l,tx,fn,ty,ps⟩ lv v [a,b,c.toNat]]->R (.returned v) w'):
  Calls prog 157 #[aH ⟨20,a,b,c,l,tx,fn,ty,ps⟩ lv] w R:=by
 have Yt: ((c.toNat:Nat):Int)=c:=by omega
 have h1:=(((Sat.iN w).aU (cz ⟨20,a,b,c,l,tx,fn,ty,ps⟩ lv)).ar (.cells #[.int .i64 a,.int .i64 b,.int .i64 c] 3) (w.heap.size+1)).cQ (i:=1) rfl (Q:=lL ⟨20,a,b,c,l,tx,fn,ty,ps⟩ lv (.slice (some ⟨w.heap.size+1,0,none⟩) 3 3) [a,b,c.toNat]) (λ_ h=>.inr (cR h rfl (by simp[maxLen]) (by simp[aQ,Yt])));have HR:=qh (hR _ _ h1);clear hR h1;dsimp only[aH]at*
 go_in;go_wp2;exact HR.o
theorem JR{R:EW}(hR:∀v w',Sat w w' [bY w,lL ⟨8,a,b,c,l,tx,fn,ty,ps⟩ lv v [a]]->R (.returned v) w'):
  Calls prog 157 #[aH ⟨8,a,b,c,l,tx,fn,ty,ps⟩ lv] w R:=by
 have h1:=(((Sat.iN w).aU (cz ⟨8,a,b,c,l,tx,fn,ty,ps⟩ lv)).ar (.cells #[.int .i64 a] 3) (w.heap.size+1)).cQ (i:=1) rfl (Q:=lL ⟨8,a,b,c,l,tx,fn,ty,ps⟩ lv (.slice (some ⟨w.heap.size+1,0,none⟩) 1 1) [a]) (λ_ h=>.inr (cR h rfl (by simp[maxLen]) (by simp[aQ])));have HR:=qh (hR _ _ h1);clear hR h1;dsimp only[aH]at*
 go_in;go_wp2;exact HR.o
theorem Gk{R:EW}(hR:∀v w',Sat w w' [bY w,lL ⟨13,a,b,c,l,tx,fn,ty,ps⟩ lv v [a]]->R (.returned v) w'):
  Calls prog 157 #[aH ⟨13,a,b,c,l,tx,fn,ty,ps⟩ lv] w R:=by
 have h1:=(((Sat.iN w).aU (cz ⟨13,a,b,c,l,tx,fn,ty,ps⟩ lv)).ar (.cells #[.int .i64 a] 3) (w.heap.size+1)).cQ (i:=1) rfl (Q:=lL ⟨13,a,b,c,l,tx,fn,ty,ps⟩ lv (.slice (some ⟨w.heap.size+1,0,none⟩) 1 1) [a]) (λ_ h=>.inr (cR h rfl (by simp[maxLen]) (by simp[aQ])));have HR:=qh (hR _ _ h1);clear hR h1;dsimp only[aH]at*
 go_in;go_wp2;exact HR.o
theorem EN{R:EW}(hR:∀v w',Sat w w' [bY w,lL ⟨14,a,b,c,l,tx,fn,ty,ps⟩ lv v [a]]->R (.returned v) w'):
  Calls prog 157 #[aH ⟨14,a,b,c,l,tx,fn,ty,ps⟩ lv] w R:=by
 have h1:=(((Sat.iN w).aU (cz ⟨14,a,b,c,l,tx,fn,ty,ps⟩ lv)).ar (.cells #[.int .i64 a] 3) (w.heap.size+1)).cQ (i:=1) rfl (Q:=lL ⟨14,a,b,c,l,tx,fn,ty,ps⟩ lv (.slice (some ⟨w.heap.size+1,0,none⟩) 1 1) [a]) (λ_ h=>.inr (cR h rfl (by simp[maxLen]) (by simp[aQ])));have HR:=qh (hR _ _ h1);clear hR h1;dsimp only[aH]at*
 go_in;go_wp2;exact HR.o
theorem Fz{R:EW}(hR:∀v w',Sat w w' [bY w,lL ⟨15,a,b,c,l,tx,fn,ty,ps⟩ lv v [a]]->R (.returned v) w'):
  Calls prog 157 #[aH ⟨15,a,b,c,l,tx,fn,ty,ps⟩ lv] w R:=by
 have h1:=(((Sat.iN w).aU (cz ⟨15,a,b,c,l,tx,fn,ty,ps⟩ lv)).ar (.cells #[.int .i64 a] 3) (w.heap.size+1)).cQ (i:=1) rfl (Q:=lL ⟨15,a,b,c,l,tx,fn,ty,ps⟩ lv (.slice (some ⟨w.heap.size+1,0,none⟩) 1 1) [a]) (λ_ h=>.inr (cR h rfl (by simp[maxLen]) (by simp[aQ])));have HR:=qh (hR _ _ h1);clear hR h1;dsimp only[aH]at*
 go_in;go_wp2;exact HR.o
theorem EU{R:EW}(hR:∀v w',Sat w w' [bY w,lL ⟨21,a,b,c,l,tx,fn,ty,ps⟩ lv v [a]]->R (.returned v) w'):
  Calls prog 157 #[aH ⟨21,a,b,c,l,tx,fn,ty,ps⟩ lv] w R:=by
 have h1:=(((Sat.iN w).aU (cz ⟨21,a,b,c,l,tx,fn,ty,ps⟩ lv)).ar (.cells #[.int .i64 a] 3) (w.heap.size+1)).cQ (i:=1) rfl (Q:=lL ⟨21,a,b,c,l,tx,fn,ty,ps⟩ lv (.slice (some ⟨w.heap.size+1,0,none⟩) 1 1) [a]) (λ_ h=>.inr (cR h rfl (by simp[maxLen]) (by simp[aQ])));have HR:=qh (hR _ _ h1);clear hR h1;dsimp only[aH]at*
 go_in;go_wp2;exact HR.o
theorem Fw{R:EW}(hR:∀v w',Sat w w' [bY w,lL ⟨24,a,b,c,l,tx,fn,ty,ps⟩ lv v [a]]->R (.returned v) w'):
  Calls prog 157 #[aH ⟨24,a,b,c,l,tx,fn,ty,ps⟩ lv] w R:=by
 have h1:=(((Sat.iN w).aU (cz ⟨24,a,b,c,l,tx,fn,ty,ps⟩ lv)).ar (.cells #[.int .i64 a] 3) (w.heap.size+1)).cQ (i:=1) rfl (Q:=lL ⟨24,a,b,c,l,tx,fn,ty,ps⟩ lv (.slice (some ⟨w.heap.size+1,0,none⟩) 1 1) [a]) (λ_ h=>.inr (cR h rfl (by simp[maxLen]) (by simp[aQ])));have HR:=qh (hR _ _ h1);clear hR h1;dsimp only[aH]at*
 go_in;go_wp2;exact HR.o
theorem Gt{R:EW}(hR:∀v w',Sat w w' [bY w,lL ⟨25,a,b,c,l,tx,fn,ty,ps⟩ lv v [a]]->R (.returned v) w'):
  Calls prog 157 #[aH ⟨25,a,b,c,l,tx,fn,ty,ps⟩ lv] w R:=by
 have h1:=(((Sat.iN w).aU (cz ⟨25,a,b,c,l,tx,fn,ty,ps⟩ lv)).ar (.cells #[.int .i64 a] 3) (w.heap.size+1)).cQ (i:=1) rfl (Q:=lL ⟨25,a,b,c,l,tx,fn,ty,ps⟩ lv (.slice (some ⟨w.heap.size+1,0,none⟩) 1 1) [a]) (λ_ h=>.inr (cR h rfl (by simp[maxLen]) (by simp[aQ])));have HR:=qh (hR _ _ h1);clear hR h1;dsimp only[aH]at*
 go_in;go_wp2;exact HR.o
theorem I5(hl:w.ownsRow 0 3 1 lv l.length (l.map aQ))(uQ:l.length<=1000000){R:EW}(hR:∀v w',Sat w w' [bY w,lL ⟨7,a,b,c,l,tx,fn,ty,ps⟩ lv v (a::l)]->R (.returned v) w'):
  Calls prog 157 #[aH ⟨7,a,b,c,l,tx,fn,ty,ps⟩ lv] w R:=by
 obtain⟨j0,tj,uA,uI,uy⟩:=info_parts jA;have HR:=qh hR;have h1:=(((Sat.iN w).aU (cz ⟨7,a,b,c,l,tx,fn,ty,ps⟩ lv)).ar (.cells #[.int .i64 a] 3) (w.heap.size+1)).cQ (i:=1) rfl (Q:=gi (.slice (some ⟨w.heap.size+1,0,none⟩) 1 1) [a]) (λ_ h=>cR h rfl (by simp[maxLen]) rfl);rcases hl.2 with⟨rfl,h0⟩|⟨g,cap,cur,rfl,afK,ZC,hcap,E',U3,Um⟩
 ·have xV:l=[]:=List.length_eq_zero_iff.1 (by omega);subst xV;have H1:=qh h1;clear hR h1 hl h0;dsimp only[aH]at*
  go_in;go_wp2_with(at_builtin;go_loud(refine wpList_append_own_none rfl (.tmp 9) (.tmp 11) 39 rfl 0 3 j0 1 underlying39 tj _ 1 [aQ a] (by rfl) (H1.o.row 1) (by rfl) ?_));go_wp2_with fail;exact HR.o _ _ (H1.o.cQ (i:=1) rfl λ_ h=>.inr h)
 ·have cg:=(hl.alloc (cz ⟨7,a,b,c,l,tx,fn,ty,ps⟩ (.slice (some ⟨g,0,none⟩) l.length cap))).alloc (.cells #[.int .i64 a] 3);have H1:=qh h1;have ik:=qh cg;have abo:∀X:Obj,((w.alloc X).alloc (.cells #[.int .i64 a] 3)).heap[w.heap.size+1]?=some (.cells #[.int .i64 a] 3):=λX=>by
   rw[show w.heap.size+1=(w.alloc X).heap.size by simp];exact heap_alloc_new _ _
  clear hR h1 hl cg U3 Um ZC;dsimp only[aH]at*
  go_in;go_wp2_with(at_builtin;go_loud(refine wpList_append_own _ rfl (.tmp 9) (.tmp 11) 39 rfl (w.heap.size+1) 3 j0 _ 1 8 underlying39 tj uA uI uy rfl (by decide) _ 1 [aQ a] (by rfl) ?c0 ⟨g,0,none⟩ l.length cap (l.map aQ) (by rfl) (by simp) (World.ownsRow.cells ik.o rfl) (by simp[aQ,Value.oneCell']) (by unfold maxLen;omega) (by omega) (by simp) ?_))
  case c0=>exact⟨by simp,.inr ⟨w.heap.size+1,1,#[.int .i64 a],rfl,nR _,abo _,nR _,by unfold maxLen;omega,rfl,rfl⟩⟩
  intro v' w' Vy Ug _;go_wp2_with fail;refine HR.o v' _ ?_;have hb:Below w.heap.size w w':=((((bR w.heap.size w).alloc (nR _) _).alloc (by simp) _).grown Ug (by simp;omega) (λk hk=>by simp[Value.ownBlock]at hk;omega))
  have h2:=(Sat.iN w).newRow hb Vy (by omega);exact h2.cQ (i:=1) rfl λ_ h=>.inr (by
   unfold gi;rw[List.length_cons,show l.length+1=1+l.length by omega,List.map_cons];exact h)
end
theorem tY{w:World}{nd:Nd}{lv:Value}(hk:nd.kind≠5/\nd.kind≠6/\nd.kind≠16/\nd.kind≠17/\nd.kind≠18/\nd.kind≠22/\nd.kind≠26)(h1:1<=nd.kind/\nd.kind<=26)(hc:nd.kind=20->0<=nd.c)(hl:w.ownsRow 0 3 1 lv nd.list.length (nd.list.map aQ))(uQ:nd.list.length<=1000000){R:EW}
  (hR:∀v w',Sat w w' [bY w,lL nd lv v (aB nd)]->R (.returned v) w'):Calls prog 157 #[aH nd lv] w R:=by
 obtain⟨kd,a,b,c,l,tx,fn,ty,ps⟩:=nd;dsimp only at h1 hc hl uQ hk;have:kd=1\/kd=2\/kd=3\/kd=4\/kd=7\/kd=8\/kd=9\/kd=10\/kd=11\/kd=12\/kd=13\/kd=14\/kd=15\/kd=19\/kd=20\/kd=21\/kd=23\/kd=24\/kd=25:=by omega
 rcases this with rfl|rfl|rfl|rfl|rfl|rfl|rfl|rfl|rfl|rfl|rfl|rfl|rfl|rfl|rfl|rfl|rfl|rfl|rfl
 ·exact Ke hR
 ·exact Jg hR
 ·exact JH hR
 ·exact KU hR
 ·exact I5 hl uQ hR
 ·exact JR hR
 ·exact I2 hR
 ·exact E9 hR
 ·exact Gb hR
 ·exact FP hR
 ·exact Gk hR
 ·exact EN hR
 ·exact Fz hR
 ·exact Eg hR
 ·exact Fq (hc rfl) hR
 ·exact EU hR
 ·exact F2 hR
 ·exact Fw hR
 ·exact Gt hR
section
open Ty (Frm Vg aK)
abbrev eW:=List Frm->Vg->Except Ty.Ft (List Frm×Vg)
def dP:List eW->eW
 |[],frs,v=>.ok (frs,v)
 |F::l,frs,v=>aK (F frs v) λr=>dP l r.1 r.2
theorem mP(F:eW):∀(l:List eW)(frs:List Frm)(v:Vg),dP (l++[F]) frs v=aK (dP l frs v) λr=>F r.1 r.2
 |[],frs,v=>by
  show aK (F frs v) (λr=>.ok (r.1,r.2))=F frs v;cases F frs v<;>rfl
 |G::l,frs,v=>by
  show aK (G frs v) (λr=>dP (l++[F]) r.1 r.2)=aK (aK (G frs v) λr=>dP l r.1 r.2) λr=>F r.1 r.2
  rw[aR];congr 1;funext r;exact mP F l r.1 r.2
theorem C6:∀(l m:List eW)(frs:List Frm)(v:Vg),dP (l++m) frs v=aK (dP l frs v) λr=>dP m r.1 r.2
 |[],_,_,_=>rfl
 |F::l,m,frs,v=>by
  show aK (F frs v) (λr=>dP (l++m) r.1 r.2)=aK (aK (F frs v) λr=>dP l r.1 r.2) λr=>dP m r.1 r.2
  rw[aR];congr 1;funext r;exact C6 l m r.1 r.2
structure OkS(c:Nat)(frs:List Frm)(v:Vg):Prop where
 ne:frs≠[]
 len:frs.length<=c
 names:∀fr∈frs,fr.names.length<=c
 Sd:∀fr∈frs,-1<=fr.of/\fr.of<=1000000
 out:v.out.length<=c
theorem OkS.mono{c d:Nat}{frs:List Frm}{v:Vg}(h:OkS c frs v)(hd:c<=d):OkS d frs v:=
 ⟨h.ne,nT h.len hd,λfr hf=>nT (h.names fr hf) hd,h.Sd,nT h.out hd⟩
def q_(bb:Nat)(nv tv:Value)(main:Int)(c:Nat)(frs:List Frm)(v:Vg):As:=cn λp:Nat×Nat=>aq [bU (p.1<=c/\p.2<=c/\OkS c frs v),FI bb nv tv main frs v p.1 p.2]
section
variable {wB w:World} {Fr:As} {bb:Nat} {nv tv:Value} {pg:Ty.Pg} {main:Int} {frs:List Frm} {v:Vg} {c:Nat}
theorem Prt.Sat.iW(h:Sat wB w [Fr,q_ bb nv tv main c frs v]):∃nw nc,nw<=c/\nc<=c/\OkS c frs v/\Sat wB w [Fr,FI bb nv tv main frs v nw nc]:=by
 obtain⟨⟨nw,nc⟩,h⟩:=h.ex (i:=1) rfl;have h:=h.unpack 1 rfl;have hp:nw<=c/\nc<=c/\OkS c frs v:=h.get (i:=1) rfl λ_ ha _=>ha
 exact⟨nw,nc,hp.1,hp.2.1,hp.2.2,h.pick [0,2]⟩
theorem Prt.Sat.vu{nw nc:Nat}(h1:nw<=c)(h2:nc<=c)(h3:OkS c frs v)(h:Sat wB w [Fr,FI bb nv tv main frs v nw nc]):Sat wB w [Fr,q_ bb nv tv main c frs v]:=by
 have h4:=(h.jR (P:=bU (nw<=c/\nc<=c/\OkS c frs v)) (λ_=>⟨h1,h2,h3⟩)).pick [0,2,1];exact(Sat.pack (L:=[Fr]) h4).cQ (i:=1) rfl λ_ h=>⟨(nw,nc),h⟩
theorem Prt.Sat.WN{d:Nat}(hd:c<=d)(h:Sat wB w [Fr,q_ bb nv tv main c frs v]):Sat wB w [Fr,q_ bb nv tv main d frs v]:=by
 obtain⟨nw,nc,h1,h2,h3,h4⟩:=h.iW;exact h4.vu (by omega) (by omega) (h3.mono hd)
def jg(wB:World)(nv tv:Value)(bb:Nat)(main:Int)(id:Nat)(k:Nat)(F:eW):Prop:=
 ∀(frs:List Frm)(v:Vg)(c:Nat)(w:World)(Fr:As),ju wB Fr->Sat wB w [Fr,q_ bb nv tv main c frs v]->c+k<=100000->∀R:EW,
  (∀dG v' w',F frs v=.ok (dG,v')->Sat wB w' [Fr,q_ bb nv tv main (c+k) dG v']->R (.returned (.tuple #[])) w')->
  (∀f w',F frs v=.error f->Sat wB w' [Fr]->R (.panicked (aO f)) w')->
  Calls prog 132 #[.pointer (some ⟨bb,0,none⟩),.int .i64 (id:Nat)] w R
def dy(l:List (Nat×eW)):Nat:=(l.map Prod.fst).foldr (· + ·) 0
theorem Jm(l:List (Nat×eW)):∀{j:Nat}(h:j<l.length),dy (l.take (j+1))=dy (l.take j)+l[j].1:=by
 induction l with
 |nil=>intro j h;simp at h
 |cons p l ih=>
  intro j h;cases j with
  |zero=>simp[dy]
  |succ j=>
   have:=ih (j:=j) (by simpa using h);unfold dy at this⊢;simp only[List.take_succ_cons,List.map_cons,List.foldr_cons,List.getElem_cons_succ];omega
theorem Rg(l:List (Nat×eW)):∀j,dy (l.take j)<=dy l:=by
 induction l with
 |nil=>intro j;simp[dy]
 |cons p l ih=>
  intro j;cases j with
  |zero=>simp[dy]
  |succ j=>
   have:=ih j;unfold dy at this⊢;simp only[List.take_succ_cons,List.map_cons,List.foldr_cons];omega
theorem pW(hF:ju wB Fr){ids:List Nat}{cs:List (Nat×eW)}{lv:Value}(hlen:ids.length=cs.length)(hC:∀j(h1:j<ids.length)(h2:j<cs.length),jg wB nv tv bb main ids[j] cs[j].1 cs[j].2)
  (cg:∀(w1:World)(L:List As)(i:Nat),Sat wB w1 L->L[i]?=some Fr->w1.ownsRow 0 3 1 lv ids.length (ids.map aQ)) (hn:ids.length<=1000000) (H:Sat wB w [Fr,q_ bb nv tv main c frs v]) (hc:c+dy cs<=100000) {R:EW}
  (aD:∀dG v' w',dP (cs.map Prod.snd) frs v=.ok (dG,v')->Sat wB w' [Fr,q_ bb nv tv main (c+dy cs) dG v']->R (.returned (.tuple #[])) w')
  (au:∀f w',dP (cs.map Prod.snd) frs v=.error f->Sat wB w' [Fr]->R (.panicked (aO f)) w'):
  Calls prog 82 #[.pointer (some ⟨bb,0,none⟩),lv] w R:=by
 have HL:=qh hlen;have H1:=qh H;obtain⟨la,lc,rfl⟩:=ag (cg w _ 0 H rfl);have Z1:=qh hc;clear hlen H hc;go_in;go_wp2_with fail;go_loopw [8] (λi wr=>∃(j:Nat)(J6:List Frm)(v1:Vg),i=.int .i64 j/\j<=ids.length/\Hq (dP ((cs.map Prod.snd).take j) frs v=.ok (J6,v1))/\Hq (Sat wB wr [Fr,q_ bb nv tv main (c+dy (cs.take j)) J6 v1])) (λi _=>ids.length-(intOf i).toNat)
 case atStart=>exact⟨0,frs,v,rfl,Nat.zero_le _,rfl,H1.o⟩
 case round=>
  obtain⟨j,J6,v1,rfl,hj,hE,hS⟩:=hrel;by_cases bz:j<ids.length
  ·obtain⟨gl,nK,e,rE,d0⟩:=ints_at (cg wr _ 0 hS.out rfl) j bz;cases e;have fK:j<cs.length:=by rw[<-HL.o];exact bz
   have fY:=Jm cs fK;have hle:=Rg cs (j+1);have Um: (cs.map Prod.snd).take (j+1)=(cs.map Prod.snd).take j++[cs[j].2]:=by rw[List.take_succ_eq_append_getElem (by simpa using fK)];simp
   have Jd:Hq (dP ((cs.map Prod.snd).take (j+1)) frs v=cs[j].2 J6 v1):=by show _= _;rw[Um,mP,hE.out];rfl
   have F9:=qh (hC j bz fK J6 v1 _ wr _ hF hS.out (by have:=Z1.o;omega));have zW:=qh fY;have YJ:Hq (∀f,cs[j].2 J6 v1=.error f->dP (cs.map Prod.snd) frs v=.error f):=λf hf=>by
    have h1:dP ((cs.map Prod.snd).take (j+1)) frs v=.error f:=by rw[Jd.o,hf]
    rw[<-List.take_append_drop (j+1) (cs.map Prod.snd),C6,h1];rfl
   clear fY hle Um;generalize ids[j]=ij at*
   go_wp2_with fail;refine F9.o _ (λiZ v2 w4 hq h4=>?_) (λf w4 hq h4=>?_)
   ·have ia:Hq (dP ((cs.map Prod.snd).take (j+1)) frs v=.ok (iZ,v2)):=by show _= _;rw[Jd.o,hq]
    have H4:=qh h4;clear h4 hq;go_wp2_with fail;go_roundw
    case rel=>exact⟨j+1,iZ,v2,by go_num,by omega,ia,by show Sat _ _ _;rw[zW.o,<-Nat.add_assoc];exact H4.o⟩
    case measure=>simp[intOf];omega
   ·exact⟨rfl,au f w4 (YJ.o f hq) h4⟩
  ·have oE:j=cs.length:=by have:=HL.o;omega
   have Eo:=hE.out;have h6:=hS.out;rw[oE,List.take_of_length_le (by simp)]at Eo
   rw[oE,List.take_of_length_le (Nat.le_refl _)]at h6
   have ia:=qh Eo;have H6:=qh h6;clear Eo h6 oE;go_wp2_with fail;go_end0;exact aD _ _ _ ia.o H6.o
end
def mI(x:BA)(id:Nat):List Frm->Vg->List Frm×Vg
 |[],v=>([],v)
 |fr::l,v=>(Ty.addN fr x id::l,v7 v id fr.of)
theorem M9{c:Nat}{frs:List Frm}{v:Vg}{x:BA}{id:Nat}(h:OkS c frs v):OkS (c+1) (mI x id frs v).1 (mI x id frs v).2:=by
 cases frs with
 |nil=>exact absurd rfl h.ne
 |cons fr l=>
  refine⟨by simp[mI],by have:=h.len;simp[mI]at*;omega,λf hf=>?_,λf hf=>?_,nT h.out (by omega)⟩
  ·rcases List.mem_cons.1 hf with rfl|hf
   ·have:=h.names fr (by simp);simp[Ty.addN];omega
   ·have:=h.names f (by simp[hf]);omega
  ·rcases List.mem_cons.1 hf with rfl|hf
   ·exact h.Sd fr (by simp)
   ·exact h.Sd f (by simp[hf])
section
variable {wB w:World} {Fr:As} {bb:Nat} {nv tv:Value} {pg:Ty.Pg} {main:Int} {frs:List Frm} {v:Vg} {c:Nat}
theorem sS(hP:PB wB nv tv pg)(hF:ju wB Fr){id:Nat}{nd:Nd}(hn:pg.ns[id]?=some nd)(hx:nd.text.size<=maxLen)(H:Sat wB w [Fr,q_ bb nv tv main c frs v])(hc:c+1<=100000){R:EW}
  (hR:∀w',Sat wB w' [Fr,q_ bb nv tv main (c+1) (mI nd.text id frs v).1 (mI nd.text id frs v).2]->R (.returned (.tuple #[])) w'):
  Calls prog 286 #[.pointer (some ⟨bb,0,none⟩),.int .i64 (id:Nat)] w R:=by
 obtain⟨nw,nc,h1,h2,h3,h4⟩:=H.iW;cases frs with
 |nil=>exact absurd rfl h3.ne
 |cons fr l=>
  have xM:=h3.names fr (by simp);have hl:=h3.len;rw[List.length_cons]at hl
  exact Di hP hF hn hx h4 (by omega) (by omega) (by omega) (h3.Sd fr (by simp)) λw' h5=>hR w' (h5.vu (by omega) (by omega) (M9 h3))
end
def Bd(p:Nat)(x:BA)(id:Nat)(fn:Bool)(G:eW):eW:=λfrs v=>
 match frs with
 |[]=>.ok ([],v)
 |fr::l=>if(Ty.hZ fr.names x).isSome then .error (6,p)else if fn then G (mI x id (fr::l) v).1 (mI x id (fr::l) v).2 else aK (G (fr::l) v) λr=>.ok (mI x id r.1 r.2)
section
variable {wB:World} {nv tv:Value} {pg:Ty.Pg} {bb:Nat} {main:Int}
theorem QJ(hP:PB wB nv tv pg){id p b:Nat}{x:BA}{ty:Int}(hn:pg.ns[id]?=some {Ty.af 17 p with text:=x,ty:=ty,a:=b})(hx:x.size<=maxLen){nb:Nd}(Rl:pg.ns[b]?=some nb){fn:Bool}(qN: (((nb.kind:Nat):Int)==6)=fn)
  {k:Nat} {G:eW} (C:jg wB nv tv bb main b k G) {frs:List Frm} {v:Vg} {c:Nat} {w:World} {Fr:As} (hF:ju wB Fr) (H:Sat wB w [Fr,q_ bb nv tv main c frs v]) (hc:c+(k+1)<=100000) {R:EW}
  (aD:∀dG v' w',Bd p x id fn G frs v=.ok (dG,v')->Sat wB w' [Fr,q_ bb nv tv main (c+(k+1)) dG v']->R (.returned (.tuple #[])) w')
  (au:∀f w',Bd p x id fn G frs v=.error f->Sat wB w' [Fr]->R (.panicked (aO f)) w'):
  Calls prog 215 #[.pointer (some ⟨bb,0,none⟩),.int .i64 (id:Nat)] w R:=by
 obtain⟨nw,nc,IJ,D6,uN,h1⟩:=H.iW;obtain⟨fr,l,rfl⟩:∃fr l,frs=fr::l:=by
  cases frs with
  |nil=>exact absurd rfl uN.ne
  |cons fr l=>exact⟨fr,l,rfl⟩
 have Ee:=qh (λ(w1:World)(hb:Below wB.heap.size wB w1) h0 fF R hR=>dA (w:=w1) (bb:=bb) (R:=R) hP hb hn h0 fF hR);obtain⟨sv,ov,wb,cb,mb,ms,jE,h2⟩:=h1.AK;have k0:=h2.cell 1 0;have fF:=h2.lt 1;have f0:=λof=>CD mb of
 go_in;go_wp2_with fail;refine Ee.o w (hF _ _ 0 h2 rfl) k0 fF _ (λlv w2 aW hl=>?_);have h3:=h2.below aW;obtain⟨la,lc,rfl⟩:=ag hl;unfold aH;dsimp only[Ty.af];have h4:=h3.ar (cz ⟨17,b,0,0,[],x,0,ty,p⟩ (.slice la 0 lc)) w2.heap.size;have BQ:ms.length<=1000000:=by have:=uN.len;have:=congrArg List.length jE;simp at*;omega
 obtain⟨g,cap,rfl,hg,d0,d1⟩:=wK (h4.row 2);have c3:=h4.cell 1 3;have p5:=h4.cell 8 5;have TK:=h4.lt 1;have HZ:Hq (∀W:World,(zeroValue 3).run prog W=.ok (.int .i64 0) W):=λW=>by simp[zeroValue,go_sem];rfl
 dsimp only at p5;go_wp2;go_region_held3(λw'=>w'.cell? ⟨w2.heap.size,5,none⟩=some (.string x)) (go_keep)
  ((go_at_call 217;refine sx (w:=(w2.alloc (cz ⟨17,b,0,0,[],x,0,ty,p⟩ (.slice la 0 lc))).drew) c3 d0 d1 TK hg BQ (λw5 od=>?_);have h5:=h4.drew.below od;have s5:w5.cell? ⟨w2.heap.size,5,none⟩=some (.string x):=h5.cell 8 5;obtain⟨D,hD,qx⟩:=h5.oY 6 rfl;obtain⟨u,ps,Vq,hu⟩:=hD.look_ok wu underlying193 (HZ.o w5) (plainElem_int underlying3 (by decide)) (WideMaps.keyOf_string_mk underlying9 hx);obtain⟨cc,rfl,_,_⟩:=plainElem_int_inv underlying3 hu;rw[(qx.2 x).1]at Vq;have H5:=qh h5;clear h5 hD qx od hu))
 all_goals
  have h6:Sat wB w5 [Fr,FI bb nv tv main (fr::l) v nw nc,ax w2.heap.size (cz ⟨17,b,0,0,[],x,0,ty,p⟩ (.slice la 0 lc))]:=by
   have h7:=(Sat.pack (L:=[_,_,_,_,_,_,_]) (M:=[Fr,ax w2.heap.size (cz ⟨17,b,0,0,[],x,0,ty,p⟩ (.slice la 0 lc))]) (H5.o.pick [1,2,3,4,5,6,7,0,8])).pick [7,0,1,2,3,4,5,6];exact(Sat.Fx (Fr:=aq [Fr,ax w2.heap.size (cz ⟨17,b,0,0,[],x,0,ty,p⟩ (.slice la 0 lc))]) jE h7).km
  have p8:=h6.cell 2 8;have p1:=h6.cell 2 1;dsimp only at p8 p1;have k0:=H5.o.cell 1 0;have Zj:=H5.o.lt 1;cases hq: (Ty.hZ fr.names x).isSome with
  |true=>
   have Qf:=qh (au (6,p) w5 (by unfold Bd;dsimp only;rw[hq];rfl) (h6.pick [0]));go_wp2_with fail;refine vR (e:=6) (p:=p) ?_;exact⟨rfl,Qf.o⟩
  |false=>
   go_wp2_with fail;refine dA hP (hF w5 _ 0 h6 rfl) Rl k0 Zj (λqk w6 Ev SL=>?_);have h7:=h6.below Ev;have p1:=h7.cell 2 1;have fk:=Mn nb qk;obtain⟨D',Iu,rfl⟩:=ag SL;have h8:=(Sat.pack (L:=[_]) (M:=[Fr,ax w2.heap.size (cz ⟨17,b,0,0,[],x,0,ty,p⟩ (.slice la 0 lc))]) (h7.pick [1,0,2])).pick [1,0];have H8:=qh (h8.vu IJ D6 uN);have lM:=qh (hF.aq (M:=[ax w2.heap.size (cz ⟨17,b,0,0,[],x,0,ty,p⟩ (.slice la 0 lc))]));dsimp only at p1;unfold aH;cases fn with
   |true=>
    go_wp2_with fail;refine sS hP lM.o hn hx H8.o (by omega) (λw7 h9=>?_);have p1:=(h9.unpack 0 rfl).cell 2 1;dsimp only at p1;go_wp2_with fail;refine C _ _ _ w7 _ lM.o h9 (by omega) _ (λdG v' w8 nI fs=>?_) (λf w8 nI fs=>?_)
    ·have HG:=qh (aD dG v' w8 (by unfold Bd;dsimp only;rw[hq];exact nI) (by rw[show c+(k+1)=c+1+k by omega];exact fs.km.pick [0,1]));go_wp2;go_end0;exact HG.o
    ·exact⟨rfl,au f w8 (by unfold Bd;dsimp only;rw[hq];exact nI) ((fs.unpack 0 rfl).pick [0])⟩
   |false=>
    go_wp2_with fail;refine C _ _ _ w6 _ lM.o H8.o (by omega) _ (λdG v' w8 nI fs=>?_) (λf w8 nI fs=>?_)
    ·have afJ:=qh nI;go_wp2_with fail;refine sS hP lM.o hn hx fs (by omega) (λw9 pY=>?_);have HG:=qh (aD _ _ w9 (by unfold Bd;dsimp only;rw[hq];simp only[Bool.false_eq_true,if_false];rw[afJ.o];rfl) (by rw[show c+(k+1)=c+k+1 by omega];exact pY.km.pick [0,1]));go_wp2;go_end0;exact HG.o
    ·exact⟨rfl,au f w8 (by unfold Bd;dsimp only;rw[hq];simp only[Bool.false_eq_true,if_false];rw[nI];rfl) ((fs.unpack 0 rfl).pick [0])⟩
end
theorem Uf: (prog.info? 195).map (λi=>(i.zero,i.size,i.bytes))=some (some (.agg #[.map none,.int .i64 0]),2,16):=by kernel_rfl
theorem MB{v:Value}{l:List (Frm×Nat)}{p:Frm×Nat}{a:Prt.Hp}(h:Prt.row 195 2 v (l.length+1) (l.reverse.flatMap iP++iP p) a):yt v (p::l) a:=by
 unfold yt;rw[List.reverse_cons,List.flatMap_append,List.length_cons]
 simpa using h
theorem CV(l:List (Frm×Nat)): (l.flatMap iP).length=l.length*2:=by
 induction l with
 |nil=>rfl
 |cons a l ih=>rw[List.flatMap_cons,List.length_append,ih,List.length_cons];simp[iP];omega
theorem NW(a:Option Addr)(n cap k:Nat)(hk:k<=cap)(W:World): (Instr.slice 143 (.slice a n cap) none (some (.int .i64 (k:Nat))) none).run prog W=.ok (.slice a k cap) W:=by
 have h1: (k:Int)<=cap:=by omega
 simp[Instr.slice,Instr.sliceBounds,Instr.sliceBound,asIntOf,h1,go_sem];exact λh=>absurd h (by omega)
theorem TF{a:Option Addr}{cap:Nat}{p:Frm×Nat}{l:List (Frm×Nat)}{h:Prt.Hp}(hr:yt (.slice a (l.length+1) cap) (p::l) h):yt (.slice a l.length cap) l h:=by
 unfold yt at hr⊢;rw[List.reverse_cons,List.flatMap_append,List.length_cons]at hr
 have gR: (l.reverse.flatMap iP).length=l.length*2:=by rw[CV,List.length_reverse]
 refine⟨gR,?_⟩;rcases hr.2 with⟨h1,h2⟩|⟨g,ni,cur,h1,h2,h3,h4,h5,h6⟩
 ·exact absurd h2 (by omega)
 ·simp only[Value.slice.injEq]at h1;obtain⟨rfl,_,rfl⟩:=h1;refine .inr ⟨g,cap,cur,rfl,h2,by omega,h4,h5,?_⟩;have:=congrArg (List.take (l.length*2)) h6;rw[List.take_take,List.take_left' gR,Nat.min_eq_left (by omega)]at this
  exact this
section
variable {wB w:World} {Fr:As} {bb:Nat} {nv tv:Value} {main:Int} {frs:List Frm} {v:Vg} {nw nc:Nat}
theorem Prt.Sat.ie(h:Sat wB w [Fr,FI bb nv tv main frs v nw nc]):∃sv ov wb cb ms,ms.map Prod.fst=frs/\
  Sat wB w [Fr,ax bb (Ir nv tv main sv ov wb cb),yt sv ms,wj ov v.out,mapA 3 3 wb nw (cY v.wi),mapA 3 4 cb nc (dL v.ca),kE ms]:=by
 obtain⟨⟨sv,ov,wb,cb,ms⟩,h⟩:=h.ex (i:=1) rfl;have h:=h.unpack 1 rfl;have jE:ms.map Prod.fst=frs:=h.get (i:=1) rfl λ_ ha _=>ha
 exact⟨sv,ov,wb,cb,ms,jE,h.pick [0,2,3,5,6,7,4]⟩
theorem Prt.Sat.Bb{sv ov:Value}{wb cb:Nat}{ms:List (Frm×Nat)}(jE:ms.map Prod.fst=frs)
  (h:Sat wB w [Fr,ax bb (Ir nv tv main sv ov wb cb),yt sv ms,wj ov v.out,mapA 3 3 wb nw (cY v.wi),mapA 3 4 cb nc (dL v.ca),kE ms]):
  Sat wB w [Fr,FI bb nv tv main frs v nw nc]:=by
 have h3:=(h.jR (P:=bU (ms.map Prod.fst=frs)) (λ_=>jE)).pick [0,7,1,2,6,3,4,5];exact(Sat.pack (L:=[Fr]) h3).cQ (i:=1) rfl λ_ h=>⟨⟨sv,ov,wb,cb,ms⟩,h⟩
theorem Cz(F:FuncId)(Jv:Array Value)(hc:∀(args:Array Value)(w:World),(callFunc F args).run prog w=.ok (.enter F args) w){owner:Nat}{of:Int}
  (H:Sat wB w [Fr,FI bb nv tv main frs v nw nc]) (WO:frs.length<=100000) {m:Except Ty.Ft (List Frm×Vg)} {K:Frm->List Frm->Vg->Nat->Nat->Prop}
  (Bj:∀w1,Sat wB w1 [Fr,FI bb nv tv main (⟨[],owner,of⟩::frs) v nw nc]->∀R:EW,
   (∀zq iZ v2 Bm oz w2,K zq iZ v2 Bm oz->iZ.length<=100000->m=.ok (zq::iZ,v2)->Sat wB w2 [Fr,FI bb nv tv main (zq::iZ) v2 Bm oz]->R (.returned (.tuple #[])) w2)->
   (∀f w2,m=.error f->Sat wB w2 [Fr]->R (.panicked (aO f)) w2)->Calls prog F Jv w1 R)
  {R:EW}
  (aD:∀zq iZ v2 Bm oz w2,K zq iZ v2 Bm oz->m=.ok (zq::iZ,v2)->Sat wB w2 [Fr,FI bb nv tv main iZ v2 Bm oz]->R (.returned (.tuple #[])) w2)
  (au:∀f w2,m=.error f->Sat wB w2 [Fr]->R (.panicked (aO f)) w2):
  Calls prog 80 #[.pointer (some ⟨bb,0,none⟩),.int .i64 of,.func (.func F) #[] Jv] w R:=by
 obtain⟨i0,ti,oB,oA,oy⟩:=info_parts Uf;obtain⟨sv,ov,wb,cb,ms,jE,h1⟩:=H.ie;obtain⟨sa,sc,rfl⟩:=ag (h1.row 2);have BQ:ms.length<=100000:=by rw[<-jE,List.length_map]at WO;exact WO
 have c3:=h1.cell 1 3;have S6:=@run_makeMap prog;have H2:=h1.Ak 9 3 w.heap.size rfl (Φ:=kQ []) Gs;go_in;go_wp2_with(at_builtin;go_loud(refine wpList_append_lies _ rfl (.tmp 10) (.tmp 14) 143 rfl 0 195 i0 _ 2 16 underlying143 ti oB oA oy rfl (by decide) _ _ (ms.reverse.flatMap iP) (by rfl) ((H2.row 2).alloc _) ⟨w.heap.size+1,0,none⟩ 1 1 [.map (some w.heap.size),.int .i64 of] (by rfl) (by rfl) (World.news_of_block (cs:=#[.map (some w.heap.size),.int .i64 of]) (t:=195) (fr:=(0,0)) (aC _ _ _ (by simp))) (by simp[Value.oneCell']) (by omega) (by unfold maxLen;omega) (by omega) (by simp) (w.heap.size+2) (by simp) ?_));intro g8 qJ w8 qt kD E8 SX;have h3:=Sat.grow (H2.aU _) 2 rfl kD qt (by simpa using E8);have h4:=h3.cQ (i:=2) rfl (Q:=yt (.slice (some ⟨g8,0,none⟩) (ms.length+1) qJ) ((⟨[],owner,of⟩,w.heap.size)::ms)) (λ_ h=>MB h);have c3:=h4.cell 1 3;have f3:=h4.free 1 rfl 3;go_wp2_with fail;have h5:=h4.store 1 rfl 3 (.slice (some ⟨g8,0,none⟩) (ms.length+1) qJ);have h6:=Sat.Fx (fr:=⟨[],owner,of⟩) (mb:=w.heap.size) jE (h5.pick [0,1,2,3,4,5,7,6]);refine Bj _ h6 _ (λzq iZ v2 Bm oz w2 hK X9 hm h7=>?_) (λf w2 hm h7=>⟨rfl,au f w2 hm h7⟩);obtain⟨agD,xI,ago,abZ,adt,Pu,Qg,h8⟩:=h7.AK;obtain⟨g2,ni,rfl,Kq,_,_⟩:=wK (h8.row 2);have hcap:Pu.length<=ni:=by
  rcases(h8.row 2).2 with⟨h1,h2⟩|⟨g,cap,cur,h1,_,_,h3,_⟩
  ·simp only[Value.slice.injEq]at h1;omega
  ·simp only[Value.slice.injEq]at h1;omega
 have aeP:Pu.length<=100000:=by rw[<-Qg,List.length_map]at X9;exact X9
 have c3:=h8.cell 1 3;have f3:=h8.free 1 rfl 3;have hw:=IntWalk.i64_in (n:=(Pu.length:Int)) (by omega);have Eh:=NW (some ⟨g2,0,none⟩) (Pu.length+1) ni Pu.length hcap;go_wp2
 go_region
 all_goals
  go_wp2;go_end0;refine aD zq iZ v2 Bm oz _ hK hm ?_;have h9:=(h8.store 1 rfl 3 (.slice (some ⟨g2,0,none⟩) Pu.length ni)).drew;have fs:=h9.cQ (i:=2) rfl (Q:=yt (.slice (some ⟨g2,0,none⟩) Pu.length ni) Pu) (λ_ ha=>TF ha);exact Sat.Bb Qg (fs.pick [0,1,2,3,4,5,7])
end
def fI:List (BA×Nat)->List Frm->Vg->List Frm×Vg
 |[],frs,v=>(frs,v)
 |p::l,frs,v=>fI l (mI p.1 p.2 frs v).1 (mI p.1 p.2 frs v).2
theorem uf(p:BA×Nat):∀(l:List (BA×Nat))(frs:List Frm)(v:Vg),fI (l++[p]) frs v=mI p.1 p.2 (fI l frs v).1 (fI l frs v).2
 |[],_,_=>rfl
 |q::l,frs,v=>uf p l _ _
section
variable {wB:World} {nv tv:Value} {pg:Ty.Pg} {bb:Nat} {main:Int}
theorem Gn(hP:PB wB nv tv pg){id p b bp:Nat}{ty:Int}{eI ids:List Nat}(hn:pg.ns[id]?=some {Ty.af 6 p with list:=eI,ty:=ty,a:=b})(Rl:pg.ns[b]?=some {Ty.af 26 bp with list:=ids})
  {ps:List (BA×Nat)} (kp:eI.length=ps.length/\∀i(h1:i<eI.length)(h2:i<ps.length),∃q ty,pg.ns[eI[i]]?=some {Ty.af 16 q with text:=ps[i].1,ty:=ty}/\ps[i].2=eI[i]/\ps[i].1.size<=maxLen)
  {cs:List (Nat×eW)} (hlen:ids.length=cs.length) (hC:∀j(h1:j<ids.length)(h2:j<cs.length),jg wB nv tv bb main ids[j] cs[j].1 cs[j].2) (CK:ids.length<=1000000) (VK:eI.length<=1000000)
  {frs:List Frm} {v:Vg} {c:Nat} {w:World} {Fr:As} (hF:ju wB Fr) {xb cb:Nat} {la:Option Addr} {lc:Nat} (cg:wB.ownsRow 0 3 1 (.slice la eI.length lc) eI.length (eI.map aQ))
  (H:Sat wB w [aq [Fr,ax xb (cz ⟨6,b,0,0,eI,⟨#[]⟩,0,ty,p⟩ (.slice la eI.length lc)),ax cb (.cells #[.pointer (some ⟨bb,0,none⟩)] 142 (0,0))],q_ bb nv tv main c frs v]) (hc:c+ps.length+dy cs<=100000) {R:EW}
  (aD:∀dG v' w',dP (cs.map Prod.snd) (fI ps frs v).1 (fI ps frs v).2=.ok (dG,v')->Sat wB w' [aq [Fr,ax xb (cz ⟨6,b,0,0,eI,⟨#[]⟩,0,ty,p⟩ (.slice la eI.length lc)),ax cb (.cells #[.pointer (some ⟨bb,0,none⟩)] 142 (0,0))],q_ bb nv tv main (c+ps.length+dy cs) dG v']->R (.returned (.tuple #[])) w')
  (au:∀f w',dP (cs.map Prod.snd) (fI ps frs v).1 (fI ps frs v).2=.error f->Sat wB w' [aq [Fr,ax xb (cz ⟨6,b,0,0,eI,⟨#[]⟩,0,ty,p⟩ (.slice la eI.length lc)),ax cb (.cells #[.pointer (some ⟨bb,0,none⟩)] 142 (0,0))]]->R (.panicked (aO f)) w'):
  Calls prog 287 #[.pointer (some ⟨xb,0,none⟩),.pointer (some ⟨cb,0,none⟩)] w R:=by
 have lM:=qh (hF.aq (M:=[ax xb (cz ⟨6,b,0,0,eI,⟨#[]⟩,0,ty,p⟩ (.slice la eI.length lc)),ax cb (.cells #[.pointer (some ⟨bb,0,none⟩)] 142 (0,0))]));have hu:=H.unpack 0 rfl;have x4:=hu.cell 2 4;dsimp only at x4;go_in;go_wp2;go_loopw [7] (λi wr=>∃j:Nat,i=.int .i64 j/\j<=eI.length/\Hq (Sat wB wr [aq [Fr,ax xb (cz ⟨6,b,0,0,eI,⟨#[]⟩,0,ty,p⟩ (.slice la eI.length lc)),ax cb (.cells #[.pointer (some ⟨bb,0,none⟩)] 142 (0,0))],q_ bb nv tv main (c+j) (fI (ps.take j) frs v).1 (fI (ps.take j) frs v).2])) (λi _=>eI.length-(intOf i).toNat)
 case atStart=>exact⟨0,rfl,Nat.zero_le _,H⟩
 case round=>
  obtain⟨j,rfl,hj,hS⟩:=hrel;have hu:=hS.out.unpack 0 rfl;have y0:=hu.cell 3 0;have Yv:=hF wr _ 1 hu rfl;by_cases bz:j<eI.length
  ·obtain⟨gl,nK,e,rE,d0⟩:=ints_at (ay cg Yv) j bz;cases e;have fK:j<ps.length:=by rw[<-kp.1];exact bz
   obtain⟨q,ahs,hq,he,hx⟩:=kp.2 j bz fK;have Jd:Hq (ps.take (j+1)=ps.take j++[ps[j]]):=by show _= _;rw[List.take_succ_eq_append_getElem fK]
   have HD:=qh (λ(R:EW) hR=>sS (R:=R) hP lM.o hq hx hS.out (by omega) hR);generalize eI[j]=pid at*
   go_wp2_with fail;refine HD.o _ (λw4 h4=>?_);have h5:Sat wB w4 [aq [Fr,ax xb (cz ⟨6,b,0,0,eI,⟨#[]⟩,0,ty,p⟩ (.slice (some ⟨gl,0,none⟩) eI.length lc)),ax cb (.cells #[.pointer (some ⟨bb,0,none⟩)] 142 (0,0))],q_ bb nv tv main (c+(j+1)) (fI (ps.take (j+1)) frs v).1 (fI (ps.take (j+1)) frs v).2]:=by
    rw[Jd.o,uf,he,<-Nat.add_assoc];exact h4
   have H5:=qh h5;go_wp2;go_roundw
   case rel=>exact⟨j+1,by go_num,by omega,H5.o⟩
   case measure=>simp[intOf];omega
  ·have oE:j=ps.length:=by have:=kp.1;omega
   subst oE;have h5:=hS.out;rw[List.take_of_length_le (Nat.le_refl _)]at h5
   have x1:=hu.cell 2 1;obtain⟨nw,nc,e1,e2,e3,h6⟩:=h5.iW;obtain⟨sv,ov,wb,abZ,ms,jE,h7⟩:=h6.ie;have k0:=h7.drew.cell 1 0;have fF:=h7.drew.lt 1;dsimp only at x1 k0;have aeR:∀(lv:Value)(W:World),(Instr.field 66 (.agg #[.int .i64 26,.int .i64 0,.int .i64 0,.int .i64 0,lv,.string ⟨#[]⟩,.int .i64 0,.int .i64 (-1),.int .i64 (bp:Nat)]) 4).run prog W=.ok lv W:=λlv W=>Od {Ty.af 26 bp with list:=ids} lv W
   have H5:=qh h5;go_wp2
   go_region_held (λw'=>w'.cell? ⟨cb,0,none⟩=some (.pointer (some ⟨bb,0,none⟩))/\w'.cell? ⟨xb,1,none⟩=some (.int .i64 (b:Nat))) (first|go_keep|exact⟨s1,s2⟩|exact⟨s3,s4⟩)
    (first
     |(go_at_call 213;refine dA (w:=wr.drew) hP (lM.o _ _ 0 H5.o.drew rfl) Rl k0 fF (λlv w5 od Wg=>?_);have h8:=H5.o.drew.below od;have aaS:=h8.unpack 0 rfl;have s1:=aaS.cell 3 0;have s2:=aaS.cell 2 1;dsimp only at s1 s2;have H8:=qh h8;have aaz:=qh Wg;clear od Wg h8 aaS;unfold aH;dsimp only[Ty.af])
     |(go_at_call 82;refine pW lM.o hlen hC (λw1 L i hs hi=>ay aaz.o (lM.o w1 L i hs hi)) CK H8.o hc (λiZ v2 w8 nI h9=>?_) (λf w8 nI h9=>⟨rfl,au f w8 nI h9⟩);have EP:=h9.unpack 0 rfl;have s3:=EP.cell 3 0;have s4:=EP.cell 2 1;dsimp only at s3 s4;have HQ:=qh nI;have H9:=qh h9;clear nI h9 EP))
   all_goals
    go_wp2;go_end0;exact aD _ _ _ HQ.o H9.o
end
def ib(wB:World)(nv tv:Value)(bb:Nat)(main:Int)(ids:List Nat)(cs:List (Nat×eW)):Prop:=ids.length=cs.length/\∀j(h1:j<ids.length)(h2:j<cs.length),jg wB nv tv bb main ids[j] cs[j].1 cs[j].2
theorem OkS.push{c:Nat}{frs:List Frm}{v:Vg}(h:OkS c frs v)(o:Nat){f:Int}(hf: -1<=f/\f<=1000000):OkS (c+1) (⟨[],o,f⟩::frs) v:=by
 refine⟨by simp,by have:=h.len;simp;omega,λfr hm=>?_,λfr hm=>?_,nT h.out (by omega)⟩
 ·rcases List.mem_cons.1 hm with rfl|hm
  ·simp
  ·have:=h.names fr hm;omega
 ·rcases List.mem_cons.1 hm with rfl|hm
  ·exact hf
  ·exact h.Sd fr hm
theorem OkS.pop{c:Nat}{fr:Frm}{frs:List Frm}{v:Vg}(h:OkS c (fr::frs) v)(eR:frs≠[]):OkS c frs v:=
 ⟨eR,by have:=h.len;simp at this;omega,λf hf=>h.names f (by simp[hf]),λf hf=>h.Sd f (by simp[hf]),h.out⟩
section
variable {wB w:World} {Fr:As} {bb:Nat} {nv tv:Value} {pg:Ty.Pg} {main:Int} {frs:List Frm} {v:Vg} {c:Nat}
theorem G8(F:FuncId)(Jv:Array Value)(Yb:∀(args:Array Value)(w:World),(callFunc F args).run prog w=.ok (.enter F args) w){of:Int}(owner k:Nat)(ho: -1<=of/\of<=1000000)
  (H:Sat wB w [Fr,q_ bb nv tv main c frs v]) (hc:c+1+k<=100000) {m:Except Ty.Ft (List Frm×Vg)} (kG:∀dG v',m=.ok (dG,v')->∃zq,dG=zq::frs)
  (Bj:∀w1,Sat wB w1 [Fr,q_ bb nv tv main (c+1) (⟨[],owner,of⟩::frs) v]->∀R:EW,
   (∀dG v' w',m=.ok (dG,v')->Sat wB w' [Fr,q_ bb nv tv main (c+1+k) dG v']->R (.returned (.tuple #[])) w')->
   (∀f w2,m=.error f->Sat wB w2 [Fr]->R (.panicked (aO f)) w2)->Calls prog F Jv w1 R)
  {R:EW}
  (aD:∀dG v' w',m=.ok (dG,v')->Sat wB w' [Fr,q_ bb nv tv main (c+1+k) frs v']->R (.returned (.tuple #[])) w')
  (au:∀f w2,m=.error f->Sat wB w2 [Fr]->R (.panicked (aO f)) w2):
  Calls prog 80 #[.pointer (some ⟨bb,0,none⟩),.int .i64 of,.func (.func F) #[] Jv] w R:=by
 obtain⟨nw,nc,h1,h2,h3,h4⟩:=H.iW;have hl:=h3.len;refine Cz F Jv Yb (owner:=owner) h4 (by omega) (m:=m) (K:=λzq iZ v2 Bm oz=>Bm<=c+1+k/\oz<=c+1+k/\OkS (c+1+k) (zq::iZ) v2) (λw1 h5 R' EG wX=>?_) (λzq iZ v2 Bm oz w2 hK hm h5=>?_) au
 ·refine Bj w1 (h5.vu (by omega) (by omega) (h3.push owner ho)) R' (λdG v' w' hm h6=>?_) wX;obtain⟨Bm,oz,g1,g2,g3,g4⟩:=h6.iW;obtain⟨zq,rfl⟩:=kG _ _ hm;exact EG zq frs v' Bm oz w' ⟨g1,g2,g3⟩ (by omega) hm g4
 ·obtain⟨aeD,he⟩:=kG _ _ hm;injection he with e1 e2;subst e2;exact aD _ _ w2 hm (h5.vu hK.1 hK.2.1 (hK.2.2.pop h3.ne))
end
def MJ(cs:List (Nat×eW))(ps:List (BA×Nat))(id:Nat):eW:=λfrs v=>aK (dP (cs.map Prod.snd) (fI ps (⟨[],id,(id:Nat)⟩::frs) v).1 (fI ps (⟨[],id,(id:Nat)⟩::frs) v).2) λr=>.ok (frs,r.2)
def Ep(cs:List (Nat×eW))(owner:Nat):eW:=λfrs v=>aK (dP (cs.map Prod.snd) (⟨[],owner,r8 frs⟩::frs) v) λr=>.ok (frs,r.2)
def Yn(cs:List (Nat×eW)):Prop:=∀fr l v dG v',dP (cs.map Prod.snd) (fr::l) v=.ok (dG,v')->∃YO,dG=YO::l
theorem xm:∀(ps:List (BA×Nat))(fr:Frm)(l:List Frm)(v:Vg),∃YO,(fI ps (fr::l) v).1=YO::l
 |[],fr,_,_=>⟨fr,rfl⟩
 |p::ps,fr,l,v=>xm ps _ l _
section
variable {wB:World} {nv tv:Value} {pg:Ty.Pg} {bb:Nat} {main:Int}
theorem vw(hP:PB wB nv tv pg){id p b bp:Nat}{ty:Int}{eI ids:List Nat}(hn:pg.ns[id]?=some {Ty.af 6 p with list:=eI,ty:=ty,a:=b})(Rl:pg.ns[b]?=some {Ty.af 26 bp with list:=ids})
  {ps:List (BA×Nat)} (kp:eI.length=ps.length/\∀i(h1:i<eI.length)(h2:i<ps.length),∃q ty,pg.ns[eI[i]]?=some {Ty.af 16 q with text:=ps[i].1,ty:=ty}/\ps[i].2=eI[i]/\ps[i].1.size<=maxLen)
  {cs:List (Nat×eW)} (hC:ib wB nv tv bb main ids cs) (kG:Yn cs) (CK:ids.length<=1000000) (VK:eI.length<=1000000)
  {frs:List Frm} {v:Vg} {c:Nat} {w:World} {Fr:As} (hF:ju wB Fr) (H:Sat wB w [Fr,q_ bb nv tv main c frs v]) (hc:c+(1+ps.length+dy cs)<=100000) {R:EW}
  (aD:∀dG v' w',MJ cs ps id frs v=.ok (dG,v')->Sat wB w' [Fr,q_ bb nv tv main (c+(1+ps.length+dy cs)) dG v']->R (.returned (.tuple #[])) w')
  (au:∀f w',MJ cs ps id frs v=.error f->Sat wB w' [Fr]->R (.panicked (aO f)) w'):
  Calls prog 216 #[.pointer (some ⟨bb,0,none⟩),.int .i64 (id:Nat)] w R:=by
 obtain⟨_,_,_,_,WU,_,_,_,_,_,_,hN⟩:=hP.look hn;have h1:=H.ar (.cells #[.pointer (some ⟨bb,0,none⟩)] 142) w.heap.size;obtain⟨nw,nc,IJ,D6,uN,h2⟩:=(h1.at 1 rfl).iW;obtain⟨sv,ov,wb,cb,ms,jE,h3⟩:=h2.ie;have k0:=h3.cell 1 0;have fF:=h3.lt 1
 (try dsimp only at k0)
 have H1:=qh h1;have RI:=qh kp;clear H h1 h2 h3 jE uN IJ D6 kp;go_in;go_wp2_with fail;refine dA hP (hF _ _ 0 H1.o rfl) hn k0 fF (λlv w2 aW gR=>?_);obtain⟨la,lc,rfl⟩:=ag gR;unfold aH;dsimp only[Ty.af]
 (try dsimp only[Ty.af]at gR)
 have h3:=(H1.o.below aW).ar (cz ⟨6,b,0,0,eI,⟨#[]⟩,0,ty,p⟩ (.slice la eI.length lc)) w2.heap.size;have y0:=(H1.o.below aW).cell 2 0;have hy:=(H1.o.below aW).lt 2;have H4:=qh ((Sat.pack (L:=[_]) (M:=[Fr,ax w2.heap.size (cz ⟨6,b,0,0,eI,⟨#[]⟩,0,ty,p⟩ (.slice la eI.length lc)),ax w.heap.size (.cells #[.pointer (some ⟨bb,0,none⟩)] 142 (0,0))]) (h3.pick [1,0,3,2])).pick [1,0]);have UR:=qh gR;clear h3 aW gR H1 k0 fF;go_wp2_with fail;refine G8 (of:=(id:Nat)) 287 _ Tryz.call287 id (ps.length+dy cs) ⟨by omega,by omega⟩ H4.o (by omega) (m:=dP (cs.map Prod.snd) (fI ps (⟨[],id,(id:Nat)⟩::frs) v).1 (fI ps (⟨[],id,(id:Nat)⟩::frs) v).2) (λdG v' hm=>?_) (λw5 h5 R' EG wX=>?_) (λdG v' w5 hm h5=>?_) (λf w5 hm h5=>?_)
 ·obtain⟨YO,he⟩:=xm ps ⟨[],id,(id:Nat)⟩ frs v;rw[he]at hm
  exact kG _ _ _ _ _ hm
 ·exact Gn hP hn Rl RI.o hC.1 hC.2 CK VK hF UR.o h5 (by omega) (λdG v' w' hq h6=>EG dG v' w' hq (by rw[<-Nat.add_assoc];exact h6)) wX
 ·have HG:=qh (aD frs v' w5 (by unfold MJ;rw[hm];rfl) (by rw[show c+(1+ps.length+dy cs)=c+1+(ps.length+dy cs)by omega];exact(h5.unpack 0 rfl).pick [1,0]));clear hm h5;go_wp2_with fail;go_end0;exact HG.o
 ·exact⟨rfl,au f w5 (by unfold MJ;rw[hm];rfl) ((h5.unpack 0 rfl).pick [0])⟩
end
end
section
open Prt (Sat As ax bU cn star aq Hp le sD xN hp)
namespace Prt
def Cy(B:Nat)(P:As):Prop:=∀h,P h->∃h',le h' h/\P h'/\∀k o,h' k=some o->k<B\/o.isCells=true
def low(B:Nat)(P:As):As:=λh=>P h/\∀k o,h k=some o->k<B
theorem r0(B:Nat)(P:As):Cy B (low B P):=λh hp=>⟨h,le_refl _,hp,λk o e=>.inl (hp.2 k o e)⟩
theorem one_le{h:Hp}{b:Nat}:le (λk=>if k=b then h b else none) h:=λk o e=>by
 dsimp only at e;split at e
 ·rename_i hk;subst hk;exact e
 ·cases e
theorem NB(B b:Nat)(cs:Array Value)(t:TypeId)(fr:Nat×Nat):Cy B (ax b (.cells cs t fr)):=λh hp=>by
 refine⟨λk=>if k=b then h b else none,one_le,by show(if b=b then h b else none)= _;rw[if_pos rfl];exact hp,λk o e=>?_⟩;dsimp only at e;split at e
 ·rw[show h b= _ from hp]at e;cases e;exact .inr rfl
 ·cases e
theorem Mm(B:Nat)(e:TypeId)(size:Nat)(v:Value)(n:Nat)(xs:List Value):Cy B (Prt.row e size v n xs):=λh hp=>by
 obtain⟨h1,h2|⟨g,cap,cur,h2,h3,h4⟩⟩:=hp
 ·exact⟨λ_=>none,λ_ _ e=>(by cases e),⟨h1,.inl h2⟩,λ_ _ e=>(by cases e)⟩
 ·refine⟨λk=>if k=g then h g else none,one_le,⟨h1,.inr ⟨g,cap,cur,h2,by show(if g=g then h g else none)= _;rw[if_pos rfl];exact h3,h4⟩⟩,λk o e=>?_⟩;dsimp only at e;split at e
  ·rw[h3]at e;cases e;exact .inr rfl
  ·cases e
theorem xw{B:Nat}:∀{L:List As},(∀(i:Nat)(P:As),L[i]?=some P->Cy B P)->Cy B (aq L)
 |[],_=>λh _=>⟨λ_=>none,λ_ _ e=>(by cases e),trivial,λ_ _ e=>(by cases e)⟩
 |P::L,hL=>λh hs=>by
  obtain⟨x,y,h1,h2,h3,h4,h5⟩:=hs;obtain⟨x',a1,a2,a3⟩:=hL 0 P rfl x h4;obtain⟨y',b1,b2,b3⟩:=xw (L:=L) (λi Q hi=>hL (i+1) Q hi) y h5;have hd:sD x' y':=jb (dM (jb (dM h1) a1)) b1;refine⟨xN x' y',sM (le_trans a1 h2) (le_trans b1 h3),⟨x',y',hd,pT _ _,pN hd,a2,b2⟩,λk o e=>?_⟩;unfold xN at e;split at e
  ·rename_i u hu;cases e;exact a3 k _ hu
  ·exact b3 k o e
structure SatF(B:Nat)(w0 w:World)(L:List As):Prop where
 os:w.os=w0.os
 tape:w.tape=w0.tape
 output:w.output=w0.output
 mem:∃h,le h (hp w)/\aq L h/\∀k o,h k=some o->k<B\/o.isCells=true
theorem Sat.aec{B:Nat}{w0 w:World}{L:List As}(H:Sat w0 w L)(hL:∀(i:Nat)(P:As),L[i]?=some P->Cy B P):SatF B w0 w L:=by
 obtain⟨h,h1,h2,h3⟩:=xw hL _ H.mem;exact⟨H.os,H.tape,H.output,h,h1,h2,h3⟩
theorem SatF.sat{B:Nat}{w0 w:World}{L:List As}(H:SatF B w0 w L):Sat w0 w L:=by
 obtain⟨h,h1,h2,_⟩:=H.mem;exact⟨H.os,H.tape,H.output,kB h2 h1⟩
theorem SatF.XM{B:Nat}{w0 w w':World}{L:List As}{row:Option Nat}(H:SatF B w0 w L)(hg:w.grownBy w' row)(hr:∀r,row=some r->B<=r/\∃o:Obj,w.heap[r]?=some o/\o.isCells=false):SatF B w0 w' L:=by
 obtain⟨h,h1,h2,h3⟩:=H.mem;refine⟨hg.os.trans H.os,hg.tape.trans H.tape,hg.output.trans H.output,h,λk o e=>?_,h2,h3⟩;have hk:=h1 k o e;have bz:=(Array.getElem?_eq_some_iff.1 hk).1;show w'.heap[k]?=some o;rw[hg.block k bz (λer=>by
  obtain⟨h4,o2,h5,h6⟩:=hr k er.symm;have qR:w.heap[k]?=some o:=hk;rw[qR]at h5
  cases h5;rcases h3 k o e with h7|h7
  ·omega
  ·rw[h6]at h7;cases h7)]
 exact hk
theorem CU{B:Nat}:∀{L:List As}{h:Hp},aq L h->(∀k o,h k=some o->k<B)->aq (L.map (low B)) h
 |[],_,_,_=>trivial
 |P::L,h,hs,hb=>by
  obtain⟨x,y,h1,h2,h3,h4,h5⟩:=hs;exact⟨x,y,h1,h2,h3,⟨h4,λk o e=>hb k o (h2 k o e)⟩,CU h5 (λk o e=>hb k o (h3 k o e))⟩
theorem Sat.aaU{w0 w:World}{L:List As}(H:Sat w0 w L){B:Nat}(hB:w.heap.size<=B):Sat w0 w (L.map (low B)):=
 ⟨H.os,H.tape,H.output,CU H.mem (λk o e=>by have:w.heap[k]?=some o:=e;have:=(Array.getElem?_eq_some_iff.1 this).1;omega)⟩
end Prt
theorem JX{B:Nat}{k e b n:Nat}{Φ:Dm->Prop}(hb:b<B):Cy B (mapA k e b n Φ):=λh hp=>by
 obtain⟨es,clock,h1,h2⟩:=hp;refine⟨λj=>if j=b then h b else none,Prt.one_le,⟨es,clock,by show(if b=b then h b else none)= _;rw[if_pos rfl];exact h1,h2⟩,λj o ej=>?_⟩;dsimp only at ej;split at ej
 ·rename_i hj;subst hj;exact .inl hb
 ·cases ej
end
section
open Ty (Frm Vg)
attribute [local go_sem] Oper.semAt_some
def Jb(n k:Nat):List (Fin n):=(List.finRange n).take k
theorem vA{n k:Nat}(h:k<n):Jb n (k+1)=Jb n k++[⟨k,h⟩]:=by
 unfold Jb;rw[List.take_succ_eq_append_getElem (by simpa using h)];simp
theorem EE{n k:Nat}(h:k<=n): (Jb n k).length=k:=by simp[Jb,h]
def Qn(ms:List (Frm×Nat))(x:Fin ms.length):Array Value:=#[.int .i64 ((ms.length:Int)-1-(x.1:Int)),.agg #[.map (some ms[x.1].2),.int .i64 ms[x.1].1.of]]
def Kd(W:World)(g:Nat)(ms:List (Frm×Nat)):Prop:=∀k(h:k<ms.length),W.cell? ⟨g,(ms.length-1-k)*2,none⟩=some (.map (some ms[k].2))/\W.cell? ⟨g,(ms.length-1-k)*2+1,none⟩=some (.int .i64 ms[k].1.of)
theorem Kd.below{n0:Nat}{A B:World}{g:Nat}{ms:List (Frm×Nat)}(hg:g<n0)(h:Below n0 A B)(r:Kd A g ms):Kd B g ms:=λk hk=>⟨(h.cell (p:=⟨g,_,none⟩) hg).trans (r k hk).1,(h.cell (p:=⟨g,_,none⟩) hg).trans (r k hk).2⟩
theorem O3(F:Fence)(n:Nat)(hf:F.fn 321)(Ps:F.round=none)(hn:1<=n)(l Bs n0 g cap:Nat)(ms:List (Frm×Nat))(hlen:ms.length<=1000000)(hg:g<n0)(afY:Bs<n0)(J Jx:List (Fin ms.length)->World->Prop)
  (hY:∀pre x W,J pre W->pre.length<ms.length->YieldAt F (n-1) prog l (Qn ms x) W λe W'=>
   (e=.returned (.bool true)/\J (pre++[x]) W'/\Below n0 W W')\/(e=.returned (.bool false)/\Jx (pre++[x]) W'))
  (W:World) (YA:W.cell? ⟨Bs,0,none⟩=some (.slice (some ⟨g,0,none⟩) ms.length cap)) (hc:Kd W g ms) (h0:J [] W):
  CallsIn F n prog 321 #[.func (.yield l) #[] #[],.pointer (some ⟨Bs,0,none⟩)] W λe W'=>(∃v,e=.returned v)/\
   ((∃ys,ys=Jb ms.length ms.length/\J ys W')\/(∃pre,(∃k,k<=ms.length/\pre=Jb ms.length k)/\Jx pre W')):=by
 refine callsIn_of_wp func321 rfl hf ?_ Ps;simp only[ntmps321,List.size_toArray,List.length_cons,List.length_nil,Nat.reduceAdd,Nat.reduceSub,Array.replicate_succ,Array.replicate_zero,List.push_toArray,List.append_toArray,List.nil_append,List.cons_append];have Lp:=IntWalk.i64_in (n:=(ms.length:Int)-1) (by omega)
 gi_wp2
 gi_loopw [3] (λi wr=>∃k:Nat,k<=ms.length/\i=.int .i64 ((ms.length:Int)-1-k)/\J (Jb ms.length k) wr/\Below n0 W wr)
  (λi _=>(intOf i+1).toNat)
 case atStart=>exact⟨0,Nat.zero_le _,by simp,h0,bR _ _⟩
 case round=>
  obtain⟨k,hk,rfl,acN,yZ⟩:=hrel;have UN:=IntWalk.i64_in (n:=(ms.length:Int)-1-k-1) (by omega);by_cases bz:k<ms.length
  ·obtain⟨fn,tmps,assign,body,hy,hR⟩:=hY _ ⟨k,bz⟩ wr acN (by rw[EE hk];exact bz);obtain⟨d0,d1⟩:=hc.below hg yZ k bz;have cd:=(yZ.cell (p:=⟨Bs,0,none⟩) afY).trans YA;have e2: (ms.length:Int)-1-k<ms.length:=by omega
   have e3: ((ms.length:Int)-1-k).toNat=ms.length-1-k:=by omega
   unfold Qn at hy;dsimp only at hy
   gi_wp2
   refine hR.mono ?_
   rintro e W3 (⟨rfl,af1,NC⟩|⟨rfl,ZS⟩)
   ·gi_wp2
    go_roundw
    case rel=>exact⟨k+1,by omega,by congr 1;omega,by rw[vA bz];exact af1,yZ.trans NC⟩
    case measure=>simp[intOf];omega
   ·gi_wp2
    refine bodyPost_ret (results_none rfl _ _ _) rfl ?_;exact⟨⟨_,rfl⟩,.inr ⟨_,⟨k+1,by omega,(vA bz).symm⟩,ZS⟩⟩
  ·obtain rfl:k=ms.length:=by omega
   have e1:¬(0:Int)<=(ms.length:Int)-1-ms.length:=by omega
   gi_wp2
   go_end0;exact⟨⟨_,rfl⟩,.inl acN⟩
theorem Qw(F:Fence)(n:Nat)(hf:F.fn 284)(Ps:F.round=none)(a:Option Addr)(len cap:Nat)(w:World):
  CallsIn F n prog 284 #[.slice a len cap] w λe w'=>e=.returned (.func (.func 321) #[] #[.pointer (some ⟨w.heap.size,0,none⟩)])/\w'=w.alloc (.cells #[.slice a len cap] 143):=by
 refine callsIn_of_wp func284 rfl hf ?_ Ps;simp only[ntmps284,List.size_toArray,List.length_cons,List.length_nil,Nat.reduceAdd,Nat.reduceSub,Array.replicate_succ,Array.replicate_zero,List.push_toArray,List.append_toArray,List.nil_append,List.cons_append]
 gi_wp2
 go_ret
 exact⟨rfl,rfl⟩
theorem Fk(F:Fence)(n:Nat)(hf:F.fn 321)(Ps:F.round=none)(hn:1<=n)(Bs n0 g cap:Nat)(ms:List (Frm×Nat))(hlen:ms.length<=1000000)(w:World)(YA:Bs<n0)(hg:g<n0)(ac5:n0<=w.heap.size)
  (hb:w.cell? ⟨Bs,0,none⟩=some (.slice (some ⟨g,0,none⟩) ms.length cap)) (hc:Kd w g ms):
  SeqStopsK F n prog 321 #[.pointer (some ⟨Bs,0,none⟩)] (Qn ms) (Below n0) (λys=>ys=Jb ms.length ms.length) (λpre=>∃k,k<=ms.length/\pre=Jb ms.length k) ms.length w:=λl J Jx W hW _ _ hY h0=>
 O3 F n hf Ps hn l Bs n0 g cap ms hlen hg YA J Jx hY W ((hW.cell (p:=⟨Bs,0,none⟩) (nL YA ac5)).trans hb) (hc.below hg (hW.mono ac5)) h0
end
end Go.Proofs.YtdlbhiaceheffabGreatDoor
