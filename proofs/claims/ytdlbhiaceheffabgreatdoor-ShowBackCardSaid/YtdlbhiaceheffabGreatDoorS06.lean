/- Plain: how far the steps of expressions and statements go; what their faults are. Plain: nodes grow behind what was there; an expression's node is the last one. Plain: what the reference's reader has come to: what is left of the model's work, or a fault. Walks of the parser's node, of, start, and of the reference's add, at: nodes in memory. -/
import Derived.Test.YtdlbhiaceheffabGreatDoorS05
set_option linter.all false
set_option maxRecDepth 100000
set_option maxHeartbeats 1000000
namespace Go.Proofs.YtdlbhiaceheffabGreatDoor
section
namespace Ty
open Tok (Tk)
theorem Adv.addNode (n : Nd) : Adv 0 0 (-1) (addNode n) := fun s b s' e => by cases e; simp; omega
theorem Adv.look {α : Type} {k : St → M α} {d c e : Int} (h : ∀ s, Adv d c e (k s)) : Adv d c e (Ty.look k) := fun s a s' x => h s s a s' x
theorem Adv.two (x : ByteArray) (a b : Nat) : Adv 0 0 (-1) (two x a b) := Adv.look fun _ => Adv.addNode _
theorem Adv.trunc (a : Nat) : Adv 0 0 0 (trunc a) := fun s b s' e => by cases e; simp; omega
theorem leftLoop_adv {toks : List Tk} {one : M Nat} (h : Adv 1 0 0 one) {signs : List (List UInt8)} : ∀ f n, Adv 0 0 0 (leftLoop toks one signs f n)
 | 0, _ => Adv.fail _ _ _ _ _
 | f + 1, n => Adv.look fun s => Adv.ite (fun _ => (Adv.step.bnd fun _ => h.bnd fun b => (Adv.two _ _ _).bnd fun m => leftLoop_adv h f m).mono) (fun _ => Adv.ret _)
theorem left_adv {toks : List Tk} {one : M Nat} (h : Adv 1 0 0 one) {signs : List (List UInt8)} : Adv 1 0 0 (left toks one signs) := (h.bnd fun n => leftLoop_adv h _ n).mono
theorem sums_adv {toks : List Tk} {one : M Nat} (h : Adv 1 0 0 one) : Adv 1 0 0 (sums toks one) := left_adv (left_adv h)
theorem exprM_adv {toks : List Tk} {one : M Nat} (h : Adv 1 0 0 one) : Adv 1 0 0 (exprM toks one) := by
 refine ((sums_adv h).bnd (d' := 0) (c' := 0) (e' := 0) fun n => ?_).mono
 refine Adv.take _ _ ?_ ?_
 · simp only [if_true]; exact ((sums_adv h).bnd fun m => Adv.two _ _ _).mono
 · simp only [Bool.false_eq_true, if_false]
   refine Adv.take _ _ ?_ ?_
   · simp only [if_true]; exact ((sums_adv h).bnd fun m => Adv.two _ _ _).mono
   · simp only [Bool.false_eq_true, if_false]; exact Adv.ret _
theorem behind_adv {toks : List Tk} {T E : M Nat} (hT : Adv 1 0 0 T) (hE : Adv 1 0 0 E) : ∀ f a, Adv 0 0 0 (behind toks T E f a)
 | 0, _ => Adv.fail _ _ _ _ _
 | f + 1, a => by
   refine Adv.look fun s => Adv.take _ _ ?_ ?_
   · simp only [if_true]; exact ((list_adv (fun _ => hE) _ _).bnd fun l => (Adv.addNode _).bnd fun m => behind_adv hT hE f m).mono
   · simp only [Bool.false_eq_true, if_false]
     refine Adv.take _ _ ?_ ?_
     · simp only [if_true]; exact ((Adv.name _ _).bnd fun l => (Adv.addNode _).bnd fun m => behind_adv hT hE f m).mono
     · simp only [Bool.false_eq_true, if_false]
       refine Adv.take _ _ ?_ ?_
       · simp only [if_true]; exact (hE.bnd fun c => (Adv.need _ _).bnd fun _ => (Adv.addNode _).bnd fun m => behind_adv hT hE f m).mono
       · simp only [Bool.false_eq_true, if_false]
         refine Adv.take _ _ ?_ ?_
         · simp only [if_true]; exact (hT.bnd fun c => (Adv.addNode _).bnd fun m => behind_adv hT hE f m).mono
         · simp only [Bool.false_eq_true, if_false]; exact Adv.ret _
theorem written_adv {toks : List Tk} {T : M Nat} (hT : Adv 1 0 0 T) : Adv 0 0 0 (written toks T) := by
 refine Adv.take _ _ ?_ ?_
 · simp only [if_true]; exact (hT.bnd fun n => Adv.ret _).mono
 · simp only [Bool.false_eq_true, if_false]; exact Adv.ret _
theorem partM_adv {toks : List Tk} {E : M Nat} (hE : Adv 1 0 0 E) (met : List ByteArray) : Adv 1 0 0 (partM toks E met) :=
 Adv.look fun s => ((Adv.name _ _).bnd fun x => (Adv.need _ _).bnd fun _ => hE.bnd fun a => (Adv.addNode _).bnd fun n => Adv.ret _).mono
theorem paramM_adv {toks : List Tk} {T : M Nat} (hT : Adv 1 0 0 T) (met : List ByteArray) : Adv 1 0 0 (paramM toks T met) :=
 Adv.look fun s => ((Adv.name _ _).bnd fun x => (written_adv hT).bnd fun t => (Adv.addNode _).bnd fun n => Adv.ret _).mono
theorem stmts_adv {toks : List Tk} {S : M Nat} (hS : Adv 1 0 0 S) : ∀ f l, Adv 1 1 1 (stmts toks S f l)
 | 0, _ => Adv.fail _ _ _ _ _
 | f + 1, l => by
   refine Adv.take _ _ ?_ ?_
   · simp only [if_true]; exact (Adv.ret _).mono
   · simp only [Bool.false_eq_true, if_false]; exact (hS.bnd fun n => stmts_adv hS f _).mono
theorem blockM_adv {toks : List Tk} {S : M Nat} (hS : Adv 1 0 0 S) : Adv 2 1 1 (blockM toks S) :=
 Adv.look fun s => ((Adv.need _ _).bnd fun _ => (stmts_adv hS _ _).bnd fun l => Adv.addNode _).mono
theorem functionM_adv {toks : List Tk} {T S : M Nat} (hT : Adv 1 0 0 T) (hS : Adv 1 0 0 S) (pos : Nat) : Adv 1 0 0 (functionM toks T S pos) :=
 ((Adv.need _ _).bnd fun _ => (list_adv (fun _ => paramM_adv hT _) _ _).bnd fun l => (written_adv hT).bnd fun t => (blockM_adv hS).bnd fun a => Adv.addNode _).mono
theorem simpleM_adv {toks : List Tk} {T E S : M Nat} (hT : Adv 1 0 0 T) (hE : Adv 1 0 0 E) (hS : Adv 1 0 0 S) : Adv 1 0 0 (simpleM toks T E S) := by
 refine Adv.look fun s => Adv.ite (fun _ => (Adv.step.bnd fun _ => Adv.addNode _).mono) fun _ => Adv.ite (fun _ => (Adv.step.bnd fun _ => Adv.addNode _).mono) fun _ => Adv.ite (fun _ => (Adv.step.bnd fun _ => Adv.addNode _).mono) fun _ => ?_
 refine Adv.take _ _ ?_ ?_
 · simp only [if_true]; exact (Adv.addNode _).mono
 simp only [Bool.false_eq_true, if_false]
 refine Adv.take _ _ ?_ ?_
 · simp only [if_true]; exact (Adv.addNode _).mono
 simp only [Bool.false_eq_true, if_false]
 refine Adv.take _ _ ?_ ?_
 · simp only [if_true]; exact (Adv.addNode _).mono
 simp only [Bool.false_eq_true, if_false]
 refine Adv.take _ _ ?_ ?_
 · simp only [if_true]; exact (functionM_adv hT hS _).mono
 simp only [Bool.false_eq_true, if_false]
 refine Adv.take _ _ ?_ ?_
 · simp only [if_true]; exact ((list_adv (fun _ => hE) _ _).bnd fun l => Adv.addNode _).mono
 simp only [Bool.false_eq_true, if_false]
 refine Adv.take _ _ ?_ ?_
 · simp only [if_true]; exact ((list_adv (fun _ => partM_adv hE _) _ _).bnd fun l => Adv.addNode _).mono
 simp only [Bool.false_eq_true, if_false]
 exact ((Adv.need _ _).bnd fun _ => hE.bnd fun a => (Adv.need _ _).bnd fun _ => Adv.ret _).mono
theorem oneM_adv {toks : List Tk} {T E O S : M Nat} (hT : Adv 1 0 0 T) (hE : Adv 1 0 0 E) (hO : Adv 1 0 0 O) (hS : Adv 1 0 0 S) : Adv 1 0 0 (oneM toks T E O S) :=
 Adv.look fun s => Adv.ite (fun _ => (Adv.step.bnd fun _ => hO.bnd fun a => Adv.addNode _).mono) (fun _ => ((simpleM_adv hT hE hS).bnd fun a => behind_adv hT hE _ a).mono)
theorem plainM_adv {toks : List Tk} {E : M Nat} (hE : Adv 1 0 0 E) : Adv 1 0 0 (plainM toks E) := by
 have h : ∀ (a : Nat) (f : Nat → Nd), Adv 0 0 0 (bnd (trunc a) fun _ => bnd step fun _ => bnd E fun v => bnd (need toks [59]) fun _ => addNode (f v)) := fun a f =>
   ((Adv.trunc _).bnd fun _ => Adv.step.bnd fun _ => hE.bnd fun v => (Adv.need _ _).bnd fun _ => Adv.addNode _).mono
 exact (hE.bnd (d' := 0) (c' := 0) (e' := 0) fun a => Adv.look fun s => Adv.ite (fun _ => Adv.ite (fun _ => h _ _) fun _ => Adv.ite (fun _ => h _ _) fun _ => Adv.ite (fun _ => h _ _) fun _ => Adv.fail _ _ _ _ _)
   (fun _ => ((Adv.need _ _).bnd fun _ => Adv.addNode _).mono)).mono
theorem branchM_adv {toks : List Tk} {E S : M Nat} (hE : Adv 1 0 0 E) (hS : Adv 1 0 0 S) (yes : Bool) (pos : Nat) : Adv 1 0 0 (branchM toks E S yes pos) := by
 refine (Adv.step.bnd fun _ => (Adv.need _ _).bnd fun _ => hE.bnd fun a => (Adv.need _ _).bnd fun _ => (blockM_adv hS).bnd (d' := 0) (c' := 0) (e' := -1) fun b => ?_).mono
 cases yes
 · simp only [Bool.false_eq_true, if_false]; exact Adv.addNode _
 · simp only [if_true]
   refine Adv.take _ _ ?_ ?_
   · simp only [if_true]; exact ((blockM_adv hS).bnd fun c => Adv.addNode _).mono
   · simp only [Bool.false_eq_true, if_false]; exact Adv.addNode _
theorem bareM_adv {toks : List Tk} {T E S : M Nat} (hT : Adv 1 0 0 T) (hE : Adv 1 0 0 E) (hS : Adv 1 0 0 S) : Adv 1 0 0 (bareM toks T E S) := by
 refine Adv.look fun s => Adv.take _ _ ?_ ?_
 · simp only [if_true]; exact ((Adv.name _ _).bnd fun x => (written_adv hT).bnd fun t => (Adv.need _ _).bnd fun _ => hE.bnd fun a => (Adv.need _ _).bnd fun _ => Adv.addNode _).mono
 simp only [Bool.false_eq_true, if_false]
 refine Adv.take _ _ ?_ ?_
 · simp only [if_true]; exact (hE.bnd fun a => (Adv.need _ _).bnd fun _ => Adv.addNode _).mono
 simp only [Bool.false_eq_true, if_false]
 refine Adv.take _ _ ?_ ?_
 · simp only [if_true]; exact (hE.bnd fun a => (Adv.need _ _).bnd fun _ => Adv.addNode _).mono
 simp only [Bool.false_eq_true, if_false]
 exact Adv.look fun s2 => Adv.ite (fun _ => branchM_adv hE hS _ _) fun _ => Adv.ite (fun _ => branchM_adv hE hS _ _) fun _ => plainM_adv hE
theorem lv_adv (toks : List Tk) : ∀ r, Adv 1 0 0 (lv toks r).E ∧ Adv 1 0 0 (lv toks r).O ∧ Adv 1 0 0 (lv toks r).S
 | 0 => ⟨Adv.fail _ _ _ _ _, Adv.fail _ _ _ _ _, Adv.fail _ _ _ _ _⟩
 | r + 1 => by
   obtain ⟨h1, h2, h3⟩ := lv_adv toks r
   have hT := typ_adv toks r
   exact ⟨exprM_adv (oneM_adv hT h1 h2 h3), oneM_adv hT h1 h2 h3, bareM_adv hT h1 h3⟩
theorem Bad.addNode (n : Nd) : Bad (addNode n) := fun s f h => by cases h
theorem Bad.look {α : Type} {k : St → M α} (h : ∀ s, Bad (k s)) : Bad (Ty.look k) := fun s f x => h s s f x
theorem Bad.two (x : ByteArray) (a b : Nat) : Bad (two x a b) := Bad.look fun _ => Bad.addNode _
theorem Bad.trunc (a : Nat) : Bad (trunc a) := fun s f h => by cases h
theorem leftLoop_bad {toks : List Tk} {one : M Nat} (h : Bad one) {signs : List (List UInt8)} : ∀ f n, Bad (leftLoop toks one signs f n)
 | 0, _ => Bad.fail _ _
 | f + 1, n => Bad.look fun s => Bad.ite (Bad.step.bnd fun _ => h.bnd fun b => (Bad.two _ _ _).bnd fun m => leftLoop_bad h f m) (Bad.ret _)
theorem left_bad {toks : List Tk} {one : M Nat} (h : Bad one) {signs : List (List UInt8)} : Bad (left toks one signs) := h.bnd fun n => leftLoop_bad h _ n
theorem sums_bad {toks : List Tk} {one : M Nat} (h : Bad one) : Bad (sums toks one) := left_bad (left_bad h)
theorem exprM_bad {toks : List Tk} {one : M Nat} (h : Bad one) : Bad (exprM toks one) :=
 (sums_bad h).bnd fun _ => (Bad.take _ _).bnd fun _ => Bad.ite ((sums_bad h).bnd fun _ => Bad.two _ _ _) ((Bad.take _ _).bnd fun _ => Bad.ite ((sums_bad h).bnd fun _ => Bad.two _ _ _) (Bad.ret _))
theorem behind_bad {toks : List Tk} {T E : M Nat} (hT : Bad T) (hE : Bad E) : ∀ f a, Bad (behind toks T E f a)
 | 0, _ => Bad.fail _ _
 | f + 1, a => Bad.look fun s => (Bad.take _ _).bnd fun b => Bad.ite ((list_bad (fun _ => hE) _ _).bnd fun l => (Bad.addNode _).bnd fun m => behind_bad hT hE f m)
     ((Bad.take _ _).bnd fun b => Bad.ite ((Bad.name _ _).bnd fun l => (Bad.addNode _).bnd fun m => behind_bad hT hE f m)
     ((Bad.take _ _).bnd fun b => Bad.ite (hE.bnd fun c => (Bad.need _ _).bnd fun _ => (Bad.addNode _).bnd fun m => behind_bad hT hE f m)
     ((Bad.take _ _).bnd fun b => Bad.ite (hT.bnd fun c => (Bad.addNode _).bnd fun m => behind_bad hT hE f m) (Bad.ret _))))
theorem written_bad {toks : List Tk} {T : M Nat} (hT : Bad T) : Bad (written toks T) := (Bad.take _ _).bnd fun _ => Bad.ite (hT.bnd fun _ => Bad.ret _) (Bad.ret _)
theorem partM_bad {toks : List Tk} {E : M Nat} (hE : Bad E) (met : List ByteArray) : Bad (partM toks E met) :=
 Bad.look fun _ => (Bad.name _ _).bnd fun _ => (Bad.need _ _).bnd fun _ => hE.bnd fun _ => (Bad.addNode _).bnd fun _ => Bad.ret _
theorem paramM_bad {toks : List Tk} {T : M Nat} (hT : Bad T) (met : List ByteArray) : Bad (paramM toks T met) :=
 Bad.look fun _ => (Bad.name _ _).bnd fun _ => (written_bad hT).bnd fun _ => (Bad.addNode _).bnd fun _ => Bad.ret _
theorem stmts_bad {toks : List Tk} {S : M Nat} (hS : Bad S) : ∀ f l, Bad (stmts toks S f l)
 | 0, _ => Bad.fail _ _
 | f + 1, l => (Bad.take _ _).bnd fun b => Bad.ite (Bad.ret _) (hS.bnd fun n => stmts_bad hS f _)
theorem blockM_bad {toks : List Tk} {S : M Nat} (hS : Bad S) : Bad (blockM toks S) := Bad.look fun _ => (Bad.need _ _).bnd fun _ => (stmts_bad hS _ _).bnd fun _ => Bad.addNode _
theorem functionM_bad {toks : List Tk} {T S : M Nat} (hT : Bad T) (hS : Bad S) (pos : Nat) : Bad (functionM toks T S pos) :=
 (Bad.need _ _).bnd fun _ => (list_bad (fun _ => paramM_bad hT _) _ _).bnd fun _ => (written_bad hT).bnd fun _ => (blockM_bad hS).bnd fun _ => Bad.addNode _
theorem simpleM_bad {toks : List Tk} {T E S : M Nat} (hT : Bad T) (hE : Bad E) (hS : Bad S) : Bad (simpleM toks T E S) :=
 Bad.look fun _ => Bad.ite (Bad.step.bnd fun _ => Bad.addNode _) <| Bad.ite (Bad.step.bnd fun _ => Bad.addNode _) <| Bad.ite (Bad.step.bnd fun _ => Bad.addNode _) <|
 (Bad.take _ _).bnd fun _ => Bad.ite (Bad.addNode _) <| (Bad.take _ _).bnd fun _ => Bad.ite (Bad.addNode _) <| (Bad.take _ _).bnd fun _ => Bad.ite (Bad.addNode _) <|
 (Bad.take _ _).bnd fun _ => Bad.ite (functionM_bad hT hS _) <| (Bad.take _ _).bnd fun _ => Bad.ite ((list_bad (fun _ => hE) _ _).bnd fun _ => Bad.addNode _) <|
 (Bad.take _ _).bnd fun _ => Bad.ite ((list_bad (fun _ => partM_bad hE _) _ _).bnd fun _ => Bad.addNode _) <| (Bad.need _ _).bnd fun _ => hE.bnd fun _ => (Bad.need _ _).bnd fun _ => Bad.ret _
theorem oneM_bad {toks : List Tk} {T E O S : M Nat} (hT : Bad T) (hE : Bad E) (hO : Bad O) (hS : Bad S) : Bad (oneM toks T E O S) :=
 Bad.look fun _ => Bad.ite (Bad.step.bnd fun _ => hO.bnd fun _ => Bad.addNode _) ((simpleM_bad hT hE hS).bnd fun a => behind_bad hT hE _ a)
theorem plainM_bad {toks : List Tk} {E : M Nat} (hE : Bad E) : Bad (plainM toks E) := by
 have h : ∀ (a : Nat) (f : Nat → Nd), Bad (bnd (trunc a) fun _ => bnd step fun _ => bnd E fun v => bnd (need toks [59]) fun _ => addNode (f v)) := fun a f =>
   (Bad.trunc _).bnd fun _ => Bad.step.bnd fun _ => hE.bnd fun v => (Bad.need _ _).bnd fun _ => Bad.addNode _
 exact hE.bnd fun a => Bad.look fun s => Bad.ite (Bad.ite (h _ _) (Bad.ite (h _ _) (Bad.ite (h _ _) (Bad.fail _ _)))) ((Bad.need _ _).bnd fun _ => Bad.addNode _)
theorem branchM_bad {toks : List Tk} {E S : M Nat} (hE : Bad E) (hS : Bad S) (yes : Bool) (pos : Nat) : Bad (branchM toks E S yes pos) :=
 Bad.step.bnd fun _ => (Bad.need _ _).bnd fun _ => hE.bnd fun _ => (Bad.need _ _).bnd fun _ => (blockM_bad hS).bnd fun _ => Bad.ite ((Bad.take _ _).bnd fun _ => Bad.ite ((blockM_bad hS).bnd fun _ => Bad.addNode _) (Bad.addNode _)) (Bad.addNode _)
theorem bareM_bad {toks : List Tk} {T E S : M Nat} (hT : Bad T) (hE : Bad E) (hS : Bad S) : Bad (bareM toks T E S) :=
 Bad.look fun _ => (Bad.take _ _).bnd fun _ => Bad.ite ((Bad.name _ _).bnd fun _ => (written_bad hT).bnd fun _ => (Bad.need _ _).bnd fun _ => hE.bnd fun _ => (Bad.need _ _).bnd fun _ => Bad.addNode _) <|
 (Bad.take _ _).bnd fun _ => Bad.ite (hE.bnd fun _ => (Bad.need _ _).bnd fun _ => Bad.addNode _) <|
 (Bad.take _ _).bnd fun _ => Bad.ite (hE.bnd fun _ => (Bad.need _ _).bnd fun _ => Bad.addNode _) <|
 Bad.look fun _ => Bad.ite (branchM_bad hE hS _ _) <| Bad.ite (branchM_bad hE hS _ _) (plainM_bad hE)
theorem lv_bad (toks : List Tk) : ∀ r, Bad (lv toks r).E ∧ Bad (lv toks r).O ∧ Bad (lv toks r).S
 | 0 => ⟨Bad.fail _ _, Bad.fail _ _, Bad.fail _ _⟩
 | r + 1 => by
   obtain ⟨h1, h2, h3⟩ := lv_bad toks r
   have hT := typ_bad toks r
   exact ⟨exprM_bad (oneM_bad hT h1 h2 h3), oneM_bad hT h1 h2 h3, bareM_bad hT h1 h3⟩
theorem progLoop_bad {toks : List Tk} {S : M Nat} (hS : Bad S) : ∀ f l, Bad (progLoop toks S f l)
 | 0, _ => Bad.fail _ _
 | f + 1, l => Bad.look fun s => Bad.ite (Bad.ret _) (hS.bnd fun n => progLoop_bad hS f _)
theorem progM_bad (toks : List Tk) : Bad (progM toks) := (progLoop_bad (lv_bad toks 20).2.2 _ _).bnd fun _ => Bad.addNode _
theorem parse_bad {s : ByteArray} {f : Ft} (h : parse s = .error f) : f.1 ≠ 0 := by
 unfold parse at h
 split at h
 · rename_i e he
   cases h
   have := Tok.scan_err s f.1 f.2 he
   omega
 · split at h
   · rename_i e he; cases h; exact (progM_bad _ _ _ he).1
   · split at h
     · cases h; simp
     · cases h
end Ty
end
section
namespace Ty
open Tok (Tk)
def Pre {α : Type} (m : M α) : Prop := ∀ s a s', m s = .ok (a, s') → s.ns <+: s'.ns
def Nx (m : M Nat) : Prop := ∀ s a s', m s = .ok (a, s') → s.ns <+: s'.ns ∧ a + 1 = s'.ns.length ∧ s.ns.length ≤ a
theorem Nx.pre {m : M Nat} (h : Nx m) : Pre m := fun s a s' e => (h s a s' e).1
theorem Pre.ret {α : Type} (a : α) : Pre (ret a) := fun s b s' e => by cases e; exact List.prefix_rfl
theorem Pre.fail {α : Type} (toks : List Tk) (n : Nat) : Pre (fail (α := α) toks n) := fun s b s' h => by cases h
theorem Nx.fail (toks : List Tk) (n : Nat) : Nx (fail toks n) := fun s b s' h => by cases h
theorem Pre.step : Pre step := fun s b s' e => by cases e; exact List.prefix_rfl
theorem Pre.need (toks : List Tk) (x : List UInt8) : Pre (need toks x) := fun s b s' e => by
 unfold Ty.need at e; split at e <;> cases e; exact List.prefix_rfl
theorem Pre.take (toks : List Tk) (x : List UInt8) : Pre (take toks x) := fun s b s' e => by
 unfold Ty.take at e; split at e <;> cases e <;> exact List.prefix_rfl
theorem Pre.name (toks : List Tk) (met : List ByteArray) : Pre (name toks met) := fun s b s' e => by
 unfold Ty.name at e
 split at e
 · cases e
 · split at e <;> cases e; exact List.prefix_rfl
theorem Pre.newType (t : Ty) : Pre (newType t) := fun s b s' e => by cases e; exact List.prefix_rfl
theorem Pre.look {α : Type} {k : St → M α} (h : ∀ s, Pre (k s)) : Pre (Ty.look k) := fun s a s' x => h s s a s' x
theorem Nx.look {k : St → M Nat} (h : ∀ s, Nx (k s)) : Nx (Ty.look k) := fun s a s' x => h s s a s' x
theorem Nx.addNode (n : Nd) : Nx (addNode n) := fun s b s' e => by cases e; simp
theorem Pre.addNode (n : Nd) : Pre (addNode n) := (Nx.addNode n).pre
theorem Nx.two (x : ByteArray) (a b : Nat) : Nx (two x a b) := Nx.look fun _ => Nx.addNode _
theorem Pre.bnd {α β : Type} {m : M α} {k : α → M β} (h : Pre m) (g : ∀ a, Pre (k a)) : Pre (Ty.bnd m k) := fun s b s' x => by
 obtain ⟨a, s1, e1, e2⟩ := bnd_inv x
 exact (h _ _ _ e1).trans (g a _ _ _ e2)
theorem Nx.bnd {α : Type} {m : M α} {k : α → M Nat} (h : Pre m) (g : ∀ a, Nx (k a)) : Nx (Ty.bnd m k) := fun s b s' x => by
 obtain ⟨a, s1, e1, e2⟩ := bnd_inv x
 have h1 := h _ _ _ e1
 obtain ⟨g1, g2, g3⟩ := g a _ _ _ e2
 exact ⟨h1.trans g1, g2, Nat.le_trans h1.length_le g3⟩
theorem Pre.ite {α : Type} {p : Prop} [Decidable p] {m n : M α} (h : Pre m) (g : Pre n) : Pre (if p then m else n) := by split <;> assumption
theorem Nx.ite {p : Prop} [Decidable p] {m n : M Nat} (h : Nx m) (g : Nx n) : Nx (if p then m else n) := by split <;> assumption
theorem Pre.list {α : Type} {toks : List Tk} {x : List UInt8} {m : List α → M α} (hm : ∀ l, Pre (m l)) : ∀ f l, Pre (list toks x m f l)
 | 0, _ => Pre.fail _ _
 | f + 1, l => (Pre.take _ _).bnd fun _ => Pre.ite (Pre.ret l) ((Pre.ite (Pre.ret ()) (Pre.need _ _)).bnd fun _ => (hm l).bnd fun n => Pre.list hm f (l ++ [n]))
theorem Pre.fields {toks : List Tk} {T : M Nat} (hT : Pre T) : ∀ f l, Pre (fields toks T f l)
 | 0, _ => Pre.fail _ _
 | f + 1, l => (Pre.take _ _).bnd fun _ => Pre.ite (Pre.ret l) ((Pre.name _ _).bnd fun s => (Pre.need _ _).bnd fun _ => hT.bnd fun n => (Pre.need _ _).bnd fun _ => Pre.fields hT f (l ++ [(s, n)]))
theorem Pre.round {toks : List Tk} {T : M Nat} (hT : Pre T) : Pre (round toks T) :=
 (Pre.list (fun _ => hT) _ _).bnd fun _ => (Pre.take _ _).bnd fun _ => Pre.ite (hT.bnd fun _ => Pre.newType _) (Pre.ite (Pre.ret _) (Pre.fail _ _))
theorem Pre.single {toks : List Tk} {T : M Nat} (hT : Pre T) : Pre (single toks T) := fun s a s' h => by
 unfold Ty.single at h
 split at h
 · exact (Pre.step.bnd fun _ => Pre.newType _) s a s' h
 · exact ((Pre.take _ _).bnd fun b => Pre.ite ((Pre.fields hT _ _).bnd fun _ => Pre.newType _) ((Pre.take _ _).bnd fun b => Pre.ite (hT.bnd fun n => (Pre.need _ _).bnd fun _ => Pre.newType _) ((Pre.need _ _).bnd fun _ => Pre.round hT))) s a s' h
theorem Pre.bars {toks : List Tk} {S : M Nat} (hS : Pre S) : ∀ f l, Pre (bars toks S f l)
 | 0, _ => Pre.fail _ _
 | f + 1, l => (Pre.take _ _).bnd fun _ => Pre.ite (hS.bnd fun n => Pre.bars hS f (l ++ [n])) (Pre.ret l)
theorem Pre.union {toks : List Tk} {S : M Nat} (hS : Pre S) : Pre (union toks S) := hS.bnd fun _ => (Pre.bars hS _ _).bnd fun _ => Pre.ite (Pre.ret _) (Pre.newType _)
theorem Pre.typ (toks : List Tk) : ∀ r, Pre (typ toks r)
 | 0 => Pre.fail _ _
 | r + 1 => Pre.union (Pre.single (Pre.typ toks r))
def Nl (n : Nat) (m : M Nat) : Prop := ∀ s a s', n + 1 = s.ns.length → m s = .ok (a, s') → s.ns <+: s'.ns ∧ a + 1 = s'.ns.length
theorem Nl.ret (n : Nat) : Nl n (ret n) := fun s a s' h e => by cases e; exact ⟨List.prefix_rfl, h⟩
theorem Nl.nx {n : Nat} {m : M Nat} (h : Nx m) : Nl n m := fun s a s' _ e => ⟨(h s a s' e).1, (h s a s' e).2.1⟩
theorem Nx.then {m : M Nat} {k : Nat → M Nat} (h : Nx m) (g : ∀ a, Nl a (k a)) : Nx (Ty.bnd m k) := fun s b s' x => by
 obtain ⟨a, s1, e1, e2⟩ := bnd_inv x
 obtain ⟨h1, h2, h3⟩ := h _ _ _ e1
 obtain ⟨g1, g2⟩ := g a _ _ _ h2 e2
 exact ⟨h1.trans g1, g2, by have := g1.length_le; omega⟩
theorem Nl.look {n : Nat} {k : St → M Nat} (h : ∀ s, Nl n (k s)) : Nl n (Ty.look k) := fun s a s' e x => h s s a s' e x
theorem Nl.ite {n : Nat} {p : Prop} [Decidable p] {m k : M Nat} (h : Nl n m) (g : Nl n k) : Nl n (if p then m else k) := by split <;> assumption
theorem Nl.bnd {α : Type} {n : Nat} {m : M α} {k : α → M Nat} (h : Pre m) (g : ∀ a, Nx (k a)) : Nl n (Ty.bnd m k) := Nl.nx (Nx.bnd h g)
theorem Nl.take {n : Nat} (toks : List Tk) (x : List UInt8) {k : Bool → M Nat} (h : ∀ b, Nl n (k b)) : Nl n (Ty.bnd (Ty.take toks x) k) := fun s a s' e y => by
 obtain ⟨b, s1, e1, e2⟩ := bnd_inv y
 unfold Ty.take at e1
 split at e1 <;> cases e1
 · exact h true { s with pos := s.pos + 1 } a s' e e2
 · exact h false s a s' e e2
theorem leftLoop_nl {toks : List Tk} {one : M Nat} (h : Nx one) {signs : List (List UInt8)} : ∀ f n, Nl n (leftLoop toks one signs f n)
 | 0, _ => Nl.nx (Nx.fail _ _)
 | f + 1, n => Nl.look fun _ => Nl.ite (Nl.bnd Pre.step fun _ => Nx.bnd h.pre fun _ => Nx.then (Nx.two _ _ _) fun m => leftLoop_nl h f m) (Nl.ret n)
theorem left_nx {toks : List Tk} {one : M Nat} (h : Nx one) {signs : List (List UInt8)} : Nx (left toks one signs) := Nx.then h fun n => leftLoop_nl h _ n
theorem sums_nx {toks : List Tk} {one : M Nat} (h : Nx one) : Nx (sums toks one) := left_nx (left_nx h)
theorem exprM_nx {toks : List Tk} {one : M Nat} (h : Nx one) : Nx (exprM toks one) :=
 Nx.then (sums_nx h) fun n => Nl.take _ _ fun _ => Nl.ite (Nl.bnd (sums_nx h).pre fun _ => Nx.two _ _ _) (Nl.take _ _ fun _ => Nl.ite (Nl.bnd (sums_nx h).pre fun _ => Nx.two _ _ _) (Nl.ret n))
theorem behind_nl {toks : List Tk} {T E : M Nat} (hT : Pre T) (hE : Nx E) : ∀ f a, Nl a (behind toks T E f a)
 | 0, _ => Nl.nx (Nx.fail _ _)
 | f + 1, a => Nl.look fun _ => Nl.take _ _ fun _ => Nl.ite (Nl.bnd (Pre.list (fun _ => hE.pre) _ _) fun _ => Nx.then (Nx.addNode _) fun m => behind_nl hT hE f m)
     (Nl.take _ _ fun _ => Nl.ite (Nl.bnd (Pre.name _ _) fun _ => Nx.then (Nx.addNode _) fun m => behind_nl hT hE f m)
     (Nl.take _ _ fun _ => Nl.ite (Nl.bnd hE.pre fun _ => Nx.bnd (Pre.need _ _) fun _ => Nx.then (Nx.addNode _) fun m => behind_nl hT hE f m)
     (Nl.take _ _ fun _ => Nl.ite (Nl.bnd hT fun _ => Nx.then (Nx.addNode _) fun m => behind_nl hT hE f m) (Nl.ret a))))
theorem Pre.written {toks : List Tk} {T : M Nat} (hT : Pre T) : Pre (written toks T) := (Pre.take _ _).bnd fun _ => Pre.ite (hT.bnd fun _ => Pre.ret _) (Pre.ret _)
theorem Pre.partM {toks : List Tk} {E : M Nat} (hE : Pre E) (met : List ByteArray) : Pre (partM toks E met) :=
 Pre.look fun _ => (Pre.name _ _).bnd fun _ => (Pre.need _ _).bnd fun _ => hE.bnd fun _ => (Pre.addNode _).bnd fun _ => Pre.ret _
theorem Pre.paramM {toks : List Tk} {T : M Nat} (hT : Pre T) (met : List ByteArray) : Pre (paramM toks T met) :=
 Pre.look fun _ => (Pre.name _ _).bnd fun _ => (Pre.written hT).bnd fun _ => (Pre.addNode _).bnd fun _ => Pre.ret _
theorem Pre.stmts {toks : List Tk} {S : M Nat} (hS : Pre S) : ∀ f l, Pre (stmts toks S f l)
 | 0, _ => Pre.fail _ _
 | f + 1, _ => (Pre.take _ _).bnd fun _ => Pre.ite (Pre.ret _) (hS.bnd fun _ => Pre.stmts hS f _)
theorem blockM_nx {toks : List Tk} {S : M Nat} (hS : Pre S) : Nx (blockM toks S) := Nx.look fun _ => Nx.bnd (Pre.need _ _) fun _ => Nx.bnd (Pre.stmts hS _ _) fun _ => Nx.addNode _
theorem functionM_nx {toks : List Tk} {T S : M Nat} (hT : Pre T) (hS : Pre S) (pos : Nat) : Nx (functionM toks T S pos) :=
 Nx.bnd (Pre.need _ _) fun _ => Nx.bnd (Pre.list (fun _ => Pre.paramM hT _) _ _) fun _ => Nx.bnd (Pre.written hT) fun _ => Nx.bnd (blockM_nx hS).pre fun _ => Nx.addNode _
theorem inner_nx {toks : List Tk} {E : M Nat} (hE : Nx E) : Nx (bnd (need toks [40]) fun _ => bnd E fun a => bnd (need toks [41]) fun _ => ret a) := by
 refine Nx.bnd (Pre.need _ _) fun _ => Nx.then hE fun a => fun s n s' h x => ?_
 obtain ⟨u, s1, e1, e2⟩ := bnd_inv x
 cases e2
 unfold need at e1
 split at e1 <;> cases e1
 exact ⟨List.prefix_rfl, h⟩
theorem simpleM_nx {toks : List Tk} {T E S : M Nat} (hT : Pre T) (hE : Nx E) (hS : Pre S) : Nx (simpleM toks T E S) :=
 Nx.look fun _ => Nx.ite (Nx.bnd Pre.step fun _ => Nx.addNode _) <| Nx.ite (Nx.bnd Pre.step fun _ => Nx.addNode _) <| Nx.ite (Nx.bnd Pre.step fun _ => Nx.addNode _) <|
 Nx.bnd (Pre.take _ _) fun _ => Nx.ite (Nx.addNode _) <| Nx.bnd (Pre.take _ _) fun _ => Nx.ite (Nx.addNode _) <| Nx.bnd (Pre.take _ _) fun _ => Nx.ite (Nx.addNode _) <|
 Nx.bnd (Pre.take _ _) fun _ => Nx.ite (functionM_nx hT hS _) <| Nx.bnd (Pre.take _ _) fun _ => Nx.ite (Nx.bnd (Pre.list (fun _ => hE.pre) _ _) fun _ => Nx.addNode _) <|
 Nx.bnd (Pre.take _ _) fun _ => Nx.ite (Nx.bnd (Pre.list (fun _ => Pre.partM hE.pre _) _ _) fun _ => Nx.addNode _) <| inner_nx hE
theorem oneM_nx {toks : List Tk} {T E O S : M Nat} (hT : Pre T) (hE : Nx E) (hO : Nx O) (hS : Pre S) : Nx (oneM toks T E O S) :=
 Nx.look fun _ => Nx.ite (Nx.bnd Pre.step fun _ => Nx.bnd hO.pre fun _ => Nx.addNode _) (Nx.then (simpleM_nx hT hE hS) fun a => behind_nl hT hE _ a)
theorem plainM_nx {toks : List Tk} {E : M Nat} (hE : Nx E) : Nx (plainM toks E) := fun s n s' x => by
 obtain ⟨a, s1, e1, e2⟩ := bnd_inv x
 obtain ⟨h1, h2, h3⟩ := hE _ _ _ e1
 have key : ∀ (f : Nat → Nd), (bnd (trunc a) fun _ => bnd step fun _ => bnd E fun v => bnd (need toks [59]) fun _ => addNode (f v)) s1 = .ok (n, s') → s.ns <+: s'.ns ∧ n + 1 = s'.ns.length ∧ s.ns.length ≤ n := fun f y => by
   have hk : Nx (bnd step fun _ => bnd E fun v => bnd (need toks [59]) fun _ => addNode (f v)) := Nx.bnd Pre.step fun _ => Nx.bnd hE.pre fun _ => Nx.bnd (Pre.need _ _) fun _ => Nx.addNode _
   obtain ⟨g1, g2, g3⟩ := hk { s1 with ns := s1.ns.take a } n s' y
   have hp : s.ns <+: s1.ns.take a := by
     obtain ⟨t, ht⟩ := h1
     rw [← ht, List.take_append, List.take_of_length_le h3]
     exact List.prefix_append _ _
   refine ⟨hp.trans g1, g2, Nat.le_trans hp.length_le g3⟩
 unfold look at e2
 dsimp only at e2
 split at e2
 · split at e2
   · exact key _ e2
   · split at e2
     · exact key _ e2
     · split at e2
       · exact key _ e2
       · cases e2
 · obtain ⟨g1, g2, g3⟩ := (Nx.bnd (Pre.need toks [59]) fun _ => Nx.addNode { ndOf 25 (ndAt s1 a).pos with a := a }) _ _ _ e2
   exact ⟨h1.trans g1, g2, Nat.le_trans h1.length_le g3⟩
theorem branchM_nx {toks : List Tk} {E S : M Nat} (hE : Pre E) (hS : Pre S) (yes : Bool) (pos : Nat) : Nx (branchM toks E S yes pos) :=
 Nx.bnd Pre.step fun _ => Nx.bnd (Pre.need _ _) fun _ => Nx.bnd hE fun _ => Nx.bnd (Pre.need _ _) fun _ => Nx.bnd (blockM_nx hS).pre fun _ => Nx.ite (Nx.bnd (Pre.take _ _) fun _ => Nx.ite (Nx.bnd (blockM_nx hS).pre fun _ => Nx.addNode _) (Nx.addNode _)) (Nx.addNode _)
theorem bareM_nx {toks : List Tk} {T E S : M Nat} (hT : Pre T) (hE : Nx E) (hS : Pre S) : Nx (bareM toks T E S) :=
 Nx.look fun _ => Nx.bnd (Pre.take _ _) fun _ => Nx.ite (Nx.bnd (Pre.name _ _) fun _ => Nx.bnd (Pre.written hT) fun _ => Nx.bnd (Pre.need _ _) fun _ => Nx.bnd hE.pre fun _ => Nx.bnd (Pre.need _ _) fun _ => Nx.addNode _) <|
 Nx.bnd (Pre.take _ _) fun _ => Nx.ite (Nx.bnd hE.pre fun _ => Nx.bnd (Pre.need _ _) fun _ => Nx.addNode _) <|
 Nx.bnd (Pre.take _ _) fun _ => Nx.ite (Nx.bnd hE.pre fun _ => Nx.bnd (Pre.need _ _) fun _ => Nx.addNode _) <|
 Nx.look fun _ => Nx.ite (branchM_nx hE.pre hS _ _) <| Nx.ite (branchM_nx hE.pre hS _ _) (plainM_nx hE)
theorem lv_nx (toks : List Tk) : ∀ r, Nx (lv toks r).E ∧ Nx (lv toks r).O ∧ Nx (lv toks r).S
 | 0 => ⟨Nx.fail _ _, Nx.fail _ _, Nx.fail _ _⟩
 | r + 1 => by
   obtain ⟨h1, h2, h3⟩ := lv_nx toks r
   have hT := Pre.typ toks r
   exact ⟨exprM_nx (oneM_nx hT h1 h2 h3.pre), oneM_nx hT h1 h2 h3.pre, bareM_nx hT h1 h3.pre⟩
end Ty
end
section
namespace Rd
open Tok (Tk)
open Ty (Ft St Nd cur here is M ndAt)
def Gd (toks : List Tk) (j : Nat) (st : St) : Prop := st.pos < toks.length ∧ st.ts.length + j ≤ st.pos ∧ st.ns.length + j ≤ st.pos + 1
def At {γ : Type} (toks : List Tk) (c j : Nat) (whole : Except Ft (γ × St)) (m : M γ) (s : RS) : Prop :=
 (s.f = none ∧ Gd toks j s.st ∧ whole = m s.st) ∨ ∃ f, s.f = some f ∧ Off toks c s.st ∧ whole = .error f
section
variable {γ : Type} {toks : List Tk} {c j : Nat} {whole : Except Ft (γ × St)} {m : M γ} {s : RS}
theorem At.mono (h : At toks c j whole m s) {c' j' : Nat} (hc : c ≤ c' := by omega) (hj : j' ≤ j := by omega) : At toks c' j' whole m s := by
 rcases h with ⟨h1, ⟨h2, h3, h4⟩, h5⟩ | ⟨f, h1, h2, h3⟩
 · exact .inl ⟨h1, ⟨h2, by omega, by omega⟩, h5⟩
 · exact .inr ⟨f, h1, h2.mono hc, h3⟩
theorem At.good (h : At toks c j whole m s) (hf : s.f = none) (c' : Nat) : At toks c' j whole m s := by
 rcases h with h | ⟨f, h1, _⟩
 · exact .inl h
 · rw [hf] at h1; cases h1
theorem At.pos (h : At toks c j whole m s) : s.st.pos < toks.length := by
 rcases h with ⟨_, h, _⟩ | ⟨_, _, h, _⟩
 · exact h.1
 · exact h.1
theorem At.ns (h : At toks c j whole m s) : s.st.ns.length ≤ toks.length + 1 + c := by
 rcases h with ⟨_, h, _⟩ | ⟨_, _, h, _⟩
 · have := h.1; have := h.2.2; omega
 · exact h.2.2
theorem At.ts (h : At toks c j whole m s) : s.st.ts.length ≤ toks.length + c := by
 rcases h with ⟨_, h, _⟩ | ⟨_, _, h, _⟩
 · have := h.1; have := h.2.1; omega
 · exact h.2.1
theorem At.look {k : St → M γ} (h : At toks c j whole (Ty.look k) s) : At toks c j whole (k s.st) s := h
theorem At.fail {α : Type} {e : Nat} {k : α → M γ} (h : At toks c j whole (Ty.bnd (Ty.fail toks e) k) s) (m' : M γ) (j' : Nat) : At toks c j' whole m' (wrong toks e s) := by
 rcases h with ⟨h1, h2, h3⟩ | ⟨f, h1, h2, h3⟩
 · obtain ⟨st, f⟩ := s
   cases h1
   exact .inr ⟨here toks e st.pos, rfl, ⟨h2.1, by have := h2.1; have := h2.2.1; show st.ts.length ≤ _; dsimp only at *; omega, by have := h2.1; have := h2.2.2; show st.ns.length ≤ _; dsimp only at *; omega⟩, h3⟩
 · obtain ⟨st, f'⟩ := s
   cases h1
   exact .inr ⟨f, rfl, h2, h3⟩
theorem At.ret {b : γ} (h : At toks c j whole (Ty.ret b) s) : (s.f = none ∧ Gd toks j s.st ∧ whole = .ok (b, s.st)) ∨ ∃ f, s.f = some f ∧ Off toks c s.st ∧ whole = .error f := h
variable (hL : ∀ t, toks.getLast? = some t → t.kind = 6)
include hL
theorem At.step {k : Unit → M γ} (h : At toks c j whole (Ty.bnd Ty.step k) s) (hf : s.f = none) (hk : (cur toks s.st.pos).kind ≠ 6) : At toks c (j + 1) whole (k ()) (next s) := by
 rcases h with ⟨h1, ⟨h2, h3, h4⟩, h5⟩ | ⟨f, h1, _⟩
 · have := kind_lt hL h2 hk
   exact .inl ⟨h1, ⟨this, by show s.st.ts.length + (j + 1) ≤ s.st.pos + 1; omega, by show s.st.ns.length + (j + 1) ≤ s.st.pos + 1 + 1; omega⟩, h5⟩
 · rw [hf] at h1; cases h1
omit hL in
theorem At.no {x : List UInt8} {k : Bool → M γ} (h : At toks c j whole (Ty.bnd (Ty.take toks x) k) s) (hp : peek toks x s = false) : At toks c j whole (k false) s := by
 rcases h with ⟨h1, h2, h5⟩ | h
 · refine .inl ⟨h1, h2, ?_⟩
   have hi : ¬ is toks x s.st.pos = true := by unfold peek at hp; rw [h1] at hp; simpa using hp
   rw [h5, Ty.bnd_ok (show Ty.take toks x s.st = .ok (false, s.st) by unfold Ty.take; rw [if_neg hi])]
 · exact .inr h
end
end Rd
end
section
open Go Go.RowKit
open Prt (Sat As blk pur exs star stars)
theorem infoNd : (Tryz.prog.info? 66).map (fun i => (i.zero, i.size, i.bytes)) = some (some (.agg #[.int .i64 0, .int .i64 0, .int .i64 0, .int .i64 0, .slice none 0 0, .string ⟨#[]⟩, .int .i64 0, .int .i64 0, .int .i64 0]), 9, 96) := by kernel_rfl
def ndVal (t : Ty.Nd) (lv : Value) : Value := .agg #[.int .i64 t.kind, .int .i64 t.a, .int .i64 t.b, .int .i64 t.c, lv, .string t.text, .int .i64 t.n, .int .i64 t.ty, .int .i64 t.pos]
def ndBits (r : NdRow) : As := inA r.lv r.t.list
section
variable {w0 w : World} {Fr : As} {pb d : Nat} {toks : List Tok.Tk}
theorem Prt.Sat.moreNd {A B C D : As} {rows : List NdRow} {ns : List Ty.Nd} {t : Ty.Nd} {v lv : Value} (h : Sat w0 w [Fr, A, B, C, D, pur (rows.map NdRow.t = ns), Prt.row 66 9 v (ns.length + 1) (rows.flatMap ndCells ++ ndCells ⟨t, lv⟩), stars (rows.map ndBits), inA lv t.list]) :
   Sat w0 w [Fr, A, B, C, D, ndA v (ns ++ [t])] := by
 have hr := h.pure 5 rfl
 have h := Prt.Sat.pack (L := [Fr, _, _, _, _, _, _]) (M := [stars (rows.map ndBits), ndBits (NdRow.mk t lv)]) h
 have h := h.ent (i := 7) rfl (Q := stars ((rows ++ [NdRow.mk t lv]).map ndBits)) (fun a ha => by rw [List.map_append]; exact Prt.stars_snoc ha)
 have h := h.ent (i := 5) rfl (Q := pur ((rows ++ [NdRow.mk t lv]).map NdRow.t = ns ++ [t])) (fun a _ => by show _ = _; rw [List.map_append, hr]; rfl)
 have h := h.ent (i := 6) rfl (Q := Prt.row 66 9 v (ns ++ [t]).length ((rows ++ [NdRow.mk t lv]).flatMap ndCells)) (fun a ha => by rw [List.flatMap_append, List.length_append]; exact ha)
 have h := Prt.Sat.pack (L := [Fr, _, _, _, _]) (M := [_, _, _]) h
 exact h.ent (i := 5) rfl (Q := ndA v (ns ++ [t])) (fun a ha => ⟨_, ha⟩)
def parNd (pb d : Nat) (toks : List Tok.Tk) (st : Ty.St) (p : Value × Value × Value × Int) (n : Nat) (cells : List Value) (rows : List NdRow) (ns : List Ty.Nd) : List As :=
 [pur (Toks toks ∧ st.pos < toks.length ∧ d ≤ 20 ∧ st.ts.length ≤ st.pos ∧ st.ns.length ≤ st.pos + 1),
  blk pb (.cells #[p.1, .int .i64 st.pos, .int .i64 d, p.2.1, p.2.2.1, .int .i64 p.2.2.2] 86 (0, 0)), tkA p.1 toks, tyA p.2.2.1 st.ts,
  pur (rows.map NdRow.t = ns), Prt.row 66 9 p.2.1 n cells, stars (rows.map ndBits)]
theorem Prt.Sat.openNd {st : Ty.St} {A : As} (h : Sat w0 w [Fr, parA pb d toks st, A]) : ∃ p rows, Sat w0 w (Fr :: A :: parNd pb d toks st p st.ns.length (rows.flatMap ndCells) rows st.ns) := by
 obtain ⟨p, h⟩ := h.ex (i := 1) rfl
 obtain ⟨rows, h⟩ := (h.unpack (i := 1) rfl).ex (i := 5) rfl
 exact ⟨p, rows, h.unpack (i := 5) rfl⟩
theorem Prt.Sat.shutNd {st : Ty.St} {p : Value × Value × Value × Int} {rows : List NdRow} {t : Ty.Nd} {lv : Value} (h : Sat w0 w (Fr :: inA lv t.list :: parNd pb d toks st p (st.ns.length + 1) (rows.flatMap ndCells ++ ndCells ⟨t, lv⟩) rows st.ns)) (hb : st.ns.length ≤ st.pos) :
   Sat w0 w [Fr, parA pb d toks { st with ns := st.ns ++ [t] }] := by
 have hq := h.pure 2 rfl
 have h := (Prt.Sat.moreNd (h.pick [0, 2, 3, 4, 5, 6, 7, 8, 1])).pick [0, 1, 2, 3, 5, 4]
 have h := h.ent (i := 1) rfl (Q := pur (Toks toks ∧ st.pos < toks.length ∧ d ≤ 20 ∧ st.ts.length ≤ st.pos ∧ (st.ns ++ [t]).length ≤ st.pos + 1)) (fun a _ => ⟨hq.1, hq.2.1, hq.2.2.1, hq.2.2.2.1, by simpa using hb⟩)
 exact Prt.Sat.shutPar (st := { st with ns := st.ns ++ [t] }) (p := p) h
theorem node_any {st : Ty.St} (t : Ty.Nd) (lv : Value) (H : Sat w0 w [Fr, parA pb d toks st, inA lv t.list]) (hb : st.ns.length ≤ st.pos)
   {R : Ending → World → Prop} (hR : ∀ w', Sat w0 w' [Fr, parA pb d toks { st with ns := st.ns ++ [t] }] → R (.returned (.int .i64 (st.ns.length : Nat))) w') :
   Calls Tryz.prog 77 #[.pointer (some ⟨pb, 0, none⟩), ndVal t lv] w R := by
 have HR := qh hR
 obtain ⟨i0, ti, tz0, tz1, tz2⟩ := info_parts infoNd
 obtain ⟨⟨lv0, nv, tv, main⟩, rows, hs⟩ := H.openNd
 have hs : Sat w0 w (Fr :: inA lv t.list :: parNd pb d toks st (lv0, nv, tv, main) st.ns.length (rows.flatMap ndCells) rows st.ns) := hs
 have hq := hs.pure 2 rfl
 have hlen := hq.1.1
 have hpos := hq.2.1
 have hns : st.ns.length ≤ 1001 := by omega
 have c4 := hs.cell 3 rfl 3 rfl
 have f4 := hs.free 3 rfl 3
 have hlt := hs.lt 3 rfl
 have hr := hs.row 7 rfl
 obtain ⟨a, cap0, rfl⟩ := owns_slice hr
 obtain ⟨la, lc, rfl⟩ := owns_slice (hs.row 1 rfl)
 have HROW := qh hr
 have HS := qh hs
 have HB := qh hb
 clear hR H hs hq hr hb
 dsimp only [ndVal]
 go_enter Tryz.func77, Tryz.ntmps77
 go_wp2_with fail
 go_region_law (first
   | (go_loud (refine step_append_lies _ (by rfl) _ _ _ (by rfl) 0 66 i0 _ 9 96 Tryz.underlying28 ti tz0 tz1 tz2 rfl (by omega) (.slice a st.ns.length cap0) st.ns.length (rows.flatMap ndCells) (by rfl) (((HROW.out.alloc _).alloc _).drew) ⟨w.heap.size + 1, 0, none⟩ 1 1 (ndCells ⟨t, .slice la t.list.length lc⟩) (by rfl) (by rfl) (World.news_of_block (cs := (ndCells ⟨t, .slice la t.list.length lc⟩).toArray) (t := 66) (fr := (0, 0)) (heap_drew_at (heap_alloc_at' _ _ _ (by simp)))) (by simp [Value.oneCell', ndCells]) (by omega) (by have := HB.out; unfold maxLen; omega) (by have := HB.out; omega) (by simp) (w.heap.size + 2) (by simp) ?_); intro g cap w1 hown1 hgrow hat hlt1; have h1 := Prt.Sat.grow ((HS.out.waste _).waste _).drew 7 rfl hgrow hown1 (by simpa using hat); have d4 := h1.cell 3 rfl 3 rfl; have e4 := h1.free 3 rfl 3; have H1 := qh h1; clear h1))
 all_goals
   clear hown1 hgrow
   go_wp2_with fail
   exact HR.out _ (Prt.Sat.shutNd (p := (lv0, .slice (some ⟨g, 0, none⟩) (st.ns.length + 1) cap, tv, main)) (rows := rows) (H1.out.store 3 rfl 3 _) HB.out)
end
end
end Go.Proofs.YtdlbhiaceheffabGreatDoor
