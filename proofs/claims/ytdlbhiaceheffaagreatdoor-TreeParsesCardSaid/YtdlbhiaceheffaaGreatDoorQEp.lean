/- Plain: what reading tokens comes to: expressions, statements, programs. No program in sight. Plain: how far the steps of expressions and statements go; what their faults are. Plain: nodes grow behind what was there; an expression's node is the last one. Plain: numbers that were scanned, and their values. Plain: what the reference's reader has come to: what is left of the model's work, or a fault. -/
import Derived.Test.YtdlbhiaceheffaaGreatDoorQPlainA
import Derived.Test.YtdlbhiaceheffaaGreatDoorQTrB
import Derived.Lib.Atoi
namespace Go.Proofs.YtdlbhiaceheffaaGreatDoor
namespace Ty
open Tok (Tk)
/-- A node of a kind, at a byte: without a type. -/
def ndOf (kind pos : Nat) : Nd := ⟨kind, 0, 0, 0, [], ⟨#[]⟩, 0, -1, pos⟩
def addNode (n : Nd) : M Nat := fun s => .ok (s.ns.length, { s with ns := s.ns ++ [n] })
def ndAt (s : St) (a : Nat) : Nd := (s.ns[a]?).getD (ndOf 0 0)
/-- With what is held now. -/
def look {α : Type} (k : St → M α) : M α := fun s => k s s
def two (x : ByteArray) (a b : Nat) : M Nat := look fun s => addNode { ndOf 12 (ndAt s a).pos with text := x, a := a, b := b }
def leftLoop (toks : List Tk) (one : M Nat) (signs : List (List UInt8)) : Nat → Nat → M Nat
  | 0, _ => fail toks 1
  | f + 1, n => look fun s => if signs.any (fun x => is toks x s.pos) then bnd step fun _ => bnd one fun b => bnd (two (cur toks s.pos).text n b) fun m => leftLoop toks one signs f m else ret n
def left (toks : List Tk) (one : M Nat) (signs : List (List UInt8)) : M Nat := bnd one fun n => leftLoop toks one signs (toks.length + 1) n
def products (toks : List Tk) (one : M Nat) : M Nat := left toks one [[42]]
def sums (toks : List Tk) (one : M Nat) : M Nat := left toks (products toks one) [[43], [45]]
def exprM (toks : List Tk) (one : M Nat) : M Nat :=
  bnd (sums toks one) fun n => bnd (take toks [61, 61]) fun b => if b then bnd (sums toks one) fun m => two ⟨#[61, 61]⟩ n m else
    bnd (take toks [60]) fun b => if b then bnd (sums toks one) fun m => two ⟨#[60]⟩ n m else ret n
/-- What stands behind a simple one. -/
def behind (toks : List Tk) (T E : M Nat) : Nat → Nat → M Nat
  | 0, _ => fail toks 1
  | f + 1, a => look fun s => bnd (take toks [40]) fun b => if b then bnd (list toks [41] (fun _ => E) (toks.length + 1) []) fun l => bnd (addNode { ndOf 7 (ndAt s a).pos with a := a, list := l }) fun m => behind toks T E f m else
      bnd (take toks [46]) fun b => if b then bnd (name toks []) fun x => bnd (addNode { ndOf 8 (ndAt s a).pos with a := a, text := x }) fun m => behind toks T E f m else
      bnd (take toks [91]) fun b => if b then bnd E fun c => bnd (need toks [93]) fun _ => bnd (addNode { ndOf 9 (ndAt s a).pos with a := a, b := c }) fun m => behind toks T E f m else
      bnd (take toks [97, 115]) fun b => if b then bnd T fun t => bnd (addNode { ndOf 14 (ndAt s a).pos with a := a, ty := (t : Int) }) fun m => behind toks T E f m else ret a
def written (toks : List Tk) (T : M Nat) : M Int := bnd (take toks [58]) fun b => if b then bnd T fun n => ret (n : Int) else ret (-1)
def partM (toks : List Tk) (E : M Nat) (met : List ByteArray) : M (ByteArray × Nat) :=
  look fun s => bnd (name toks met) fun x => bnd (need toks [58]) fun _ => bnd E fun a => bnd (addNode { ndOf 15 (cur toks s.pos).pos with text := x, a := a }) fun n => ret (x, n)
def paramM (toks : List Tk) (T : M Nat) (met : List ByteArray) : M (ByteArray × Nat) :=
  look fun s => bnd (name toks met) fun x => bnd (written toks T) fun t => bnd (addNode { ndOf 16 (cur toks s.pos).pos with text := x, ty := t }) fun n => ret (x, n)
def stmts (toks : List Tk) (S : M Nat) : Nat → List Nat → M (List Nat)
  | 0, _ => fail toks 1
  | f + 1, l => bnd (take toks [125]) fun b => if b then ret l else bnd S fun n => stmts toks S f (l ++ [n])
def blockM (toks : List Tk) (S : M Nat) : M Nat := look fun s => bnd (need toks [123]) fun _ => bnd (stmts toks S (toks.length + 1) []) fun l => addNode { ndOf 26 (cur toks s.pos).pos with list := l }
def functionM (toks : List Tk) (T S : M Nat) (pos : Nat) : M Nat :=
  bnd (need toks [40]) fun _ => bnd (list toks [41] (fun l => paramM toks T (l.map Prod.fst)) (toks.length + 1) []) fun l => bnd (written toks T) fun t => bnd (blockM toks S) fun a =>
    addNode { ndOf 6 pos with list := l.map Prod.snd, ty := t, a := a }
/-- The value of digits. -/
def value (x : ByteArray) : Nat := x.data.toList.foldl (fun n c => 10 * n + (c.toNat - 48)) 0
def simpleM (toks : List Tk) (T E S : M Nat) : M Nat := look fun s =>
  if (cur toks s.pos).kind = 3 then bnd step fun _ => addNode { ndOf 1 (cur toks s.pos).pos with n := value (cur toks s.pos).text } else
  if (cur toks s.pos).kind = 4 then bnd step fun _ => addNode { ndOf 2 (cur toks s.pos).pos with text := (cur toks s.pos).text } else
  if (cur toks s.pos).kind = 1 then bnd step fun _ => addNode { ndOf 5 (cur toks s.pos).pos with text := (cur toks s.pos).text } else
  bnd (take toks [116, 114, 117, 101]) fun b => if b then addNode { ndOf 3 (cur toks s.pos).pos with n := 1 } else
  bnd (take toks [102, 97, 108, 115, 101]) fun b => if b then addNode (ndOf 3 (cur toks s.pos).pos) else
  bnd (take toks [110, 117, 108, 108]) fun b => if b then addNode (ndOf 4 (cur toks s.pos).pos) else
  bnd (take toks [102, 110]) fun b => if b then functionM toks T S (cur toks s.pos).pos else
  bnd (take toks [91]) fun b => if b then bnd (list toks [93] (fun _ => E) (toks.length + 1) []) fun l => addNode { ndOf 11 (cur toks s.pos).pos with list := l } else
  bnd (take toks [123]) fun b => if b then bnd (list toks [125] (fun l => partM toks E (l.map Prod.fst)) (toks.length + 1) []) fun l => addNode { ndOf 10 (cur toks s.pos).pos with list := l.map Prod.snd } else
  bnd (need toks [40]) fun _ => bnd E fun a => bnd (need toks [41]) fun _ => ret a
def prefixes : List (List UInt8) := [[33], [45], [116, 121, 112, 101, 111, 102]]
def oneM (toks : List Tk) (T E O S : M Nat) : M Nat := look fun s =>
  if prefixes.any (fun x => is toks x s.pos) then bnd step fun _ => bnd O fun a => addNode { ndOf 13 (cur toks s.pos).pos with text := (cur toks s.pos).text, a := a }
  else bnd (simpleM toks T E S) fun a => behind toks T E (toks.length + 1) a
def trunc (a : Nat) : M Unit := fun s => .ok ((), { s with ns := s.ns.take a })
def plainM (toks : List Tk) (E : M Nat) : M Nat := bnd E fun a => look fun s =>
  if is toks [61] s.pos then
    if (ndAt s a).kind = 5 then bnd (trunc a) fun _ => bnd step fun _ => bnd E fun v => bnd (need toks [59]) fun _ => addNode { ndOf 18 (ndAt s a).pos with text := (ndAt s a).text, a := v }
    else if (ndAt s a).kind = 8 then bnd (trunc a) fun _ => bnd step fun _ => bnd E fun v => bnd (need toks [59]) fun _ => addNode { ndOf 19 (ndAt s a).pos with text := (ndAt s a).text, a := (ndAt s a).a, b := v }
    else if (ndAt s a).kind = 9 then bnd (trunc a) fun _ => bnd step fun _ => bnd E fun v => bnd (need toks [59]) fun _ => addNode { ndOf 20 (ndAt s a).pos with a := (ndAt s a).a, b := (ndAt s a).b, c := (v : Int) }
    else fail toks 1
  else bnd (need toks [59]) fun _ => addNode { ndOf 25 (ndAt s a).pos with a := a }
def branchM (toks : List Tk) (E S : M Nat) (yes : Bool) (pos : Nat) : M Nat :=
  bnd step fun _ => bnd (need toks [40]) fun _ => bnd E fun a => bnd (need toks [41]) fun _ => bnd (blockM toks S) fun b =>
    if yes then bnd (take toks [101, 108, 115, 101]) fun e => if e then bnd (blockM toks S) fun c => addNode { ndOf 22 pos with a := a, b := b, c := (c : Int) } else addNode { ndOf 22 pos with a := a, b := b, c := -1 }
    else addNode { ndOf 23 pos with a := a, b := b }
def bareM (toks : List Tk) (T E S : M Nat) : M Nat := look fun s =>
  bnd (take toks [108, 101, 116]) fun b => if b then bnd (name toks []) fun x => bnd (written toks T) fun t => bnd (need toks [61]) fun _ => bnd E fun a => bnd (need toks [59]) fun _ => addNode { ndOf 17 (cur toks s.pos).pos with text := x, ty := t, a := a } else
  bnd (take toks [112, 114, 105, 110, 116]) fun b => if b then bnd E fun a => bnd (need toks [59]) fun _ => addNode { ndOf 21 (cur toks s.pos).pos with a := a } else
  bnd (take toks [114, 101, 116, 117, 114, 110]) fun b => if b then bnd E fun a => bnd (need toks [59]) fun _ => addNode { ndOf 24 (cur toks s.pos).pos with a := a } else
  look fun s2 => if is toks [105, 102] s2.pos then branchM toks E S true (cur toks s.pos).pos else if is toks [119, 104, 105, 108, 101] s2.pos then branchM toks E S false (cur toks s.pos).pos else plainM toks E
/-- An expression, one with its signs, a statement: each within so many others. -/
structure Lv where
  E : M Nat
  O : M Nat
  S : M Nat
def lv (toks : List Tk) : Nat → Lv
  | 0 => ⟨fail toks 8, fail toks 8, fail toks 8⟩
  | r + 1 => ⟨exprM toks (oneM toks (typ toks r) (lv toks r).E (lv toks r).O (lv toks r).S), oneM toks (typ toks r) (lv toks r).E (lv toks r).O (lv toks r).S, bareM toks (typ toks r) (lv toks r).E (lv toks r).S⟩
def progLoop (toks : List Tk) (S : M Nat) : Nat → List Nat → M (List Nat)
  | 0, _ => fail toks 1
  | f + 1, l => look fun s => if (cur toks s.pos).kind = 6 then ret l else bnd S fun n => progLoop toks S f (l ++ [n])
def progM (toks : List Tk) : M Nat := bnd (progLoop toks (lv toks 20).S (toks.length + 1) []) fun l => addNode { ndOf 26 0 with list := l }
/-- A program: its nodes, its types, the block of all. -/
structure Pg where
  ns : List Nd
  ts : List Ty
  main : Nat
def parse (s : ByteArray) : Except Ft Pg :=
  match Tok.scan s with
  | .error e => .error e
  | .ok toks => match progM toks ⟨0, [], []⟩ with
    | .error e => .error e
    | .ok (n, st) => if st.ns.length > 1200 ∨ st.ts.length > 300 then .error (2, 0) else .ok ⟨st.ns, st.ts, n⟩
end Ty
end Go.Proofs.YtdlbhiaceheffaaGreatDoor

namespace Go.Proofs.YtdlbhiaceheffaaGreatDoor
namespace Ty
open Tok (Tk)
theorem Adv.addNode (n : Nd) : Adv 0 0 (-1) (addNode n) := fun s b s' e => by cases e; simp; omega
theorem Adv.look {α : Type} {k : St → M α} {d c e : Int} (h : ∀ s, Adv d c e (k s)) : Adv d c e (Ty.look k) := fun s a s' x => h s s a s' x
theorem Adv.two (x : ByteArray) (a b : Nat) : Adv 0 0 (-1) (two x a b) := Adv.look fun _ => Adv.addNode _
theorem Adv.trunc (a : Nat) : Adv 0 0 0 (trunc a) := fun s b s' e => by cases e; simp; omega
theorem leftLoop_adv {toks : List Tk} {one : M Nat} (h : Adv 1 0 0 one) {signs : List (List UInt8)} : ∀ f n, Adv 0 0 0 (leftLoop toks one signs f n)
  | 0, _ => Adv.fail _ _ _ _ _
  | f + 1, n => Adv.look fun s => Adv.ite (fun _ => (Adv.step.bnd fun _ => h.bnd fun b => (Adv.two _ _ _).bnd fun m => leftLoop_adv h f m).mono) (fun _ => Adv.ret _)
theorem left_adv {toks : List Tk} {one : M Nat} (h : Adv 1 0 0 one) {signs : List (List UInt8)} : Adv 1 0 0 (left toks one signs) := (h.bnd fun n => leftLoop_adv h _ n).mono
theorem sums_adv {toks : List Tk} {one : M Nat} (h : Adv 1 0 0 one) : Adv 1 0 0 (sums toks one) := left_adv (left_adv h)
theorem exprM_adv {toks : List Tk} {one : M Nat} (h : Adv 1 0 0 one) : Adv 1 0 0 (exprM toks one) := by
  refine ((sums_adv h).bnd (d' := 0) (c' := 0) (e' := 0) fun n => ?_).mono
  refine Adv.take _ _ ?_ ?_
  · simp only [if_true]; exact ((sums_adv h).bnd fun m => Adv.two _ _ _).mono
  · simp only [Bool.false_eq_true, if_false]
    refine Adv.take _ _ ?_ ?_
    · simp only [if_true]; exact ((sums_adv h).bnd fun m => Adv.two _ _ _).mono
    · simp only [Bool.false_eq_true, if_false]; exact Adv.ret _
theorem behind_adv {toks : List Tk} {T E : M Nat} (hT : Adv 1 0 0 T) (hE : Adv 1 0 0 E) : ∀ f a, Adv 0 0 0 (behind toks T E f a)
  | 0, _ => Adv.fail _ _ _ _ _
  | f + 1, a => by
    refine Adv.look fun s => Adv.take _ _ ?_ ?_
    · simp only [if_true]; exact ((list_adv (fun _ => hE) _ _).bnd fun l => (Adv.addNode _).bnd fun m => behind_adv hT hE f m).mono
    · simp only [Bool.false_eq_true, if_false]
      refine Adv.take _ _ ?_ ?_
      · simp only [if_true]; exact ((Adv.name _ _).bnd fun l => (Adv.addNode _).bnd fun m => behind_adv hT hE f m).mono
      · simp only [Bool.false_eq_true, if_false]
        refine Adv.take _ _ ?_ ?_
        · simp only [if_true]; exact (hE.bnd fun c => (Adv.need _ _).bnd fun _ => (Adv.addNode _).bnd fun m => behind_adv hT hE f m).mono
        · simp only [Bool.false_eq_true, if_false]
          refine Adv.take _ _ ?_ ?_
          · simp only [if_true]; exact (hT.bnd fun c => (Adv.addNode _).bnd fun m => behind_adv hT hE f m).mono
          · simp only [Bool.false_eq_true, if_false]; exact Adv.ret _
theorem written_adv {toks : List Tk} {T : M Nat} (hT : Adv 1 0 0 T) : Adv 0 0 0 (written toks T) := by
  refine Adv.take _ _ ?_ ?_
  · simp only [if_true]; exact (hT.bnd fun n => Adv.ret _).mono
  · simp only [Bool.false_eq_true, if_false]; exact Adv.ret _
theorem partM_adv {toks : List Tk} {E : M Nat} (hE : Adv 1 0 0 E) (met : List ByteArray) : Adv 1 0 0 (partM toks E met) :=
  Adv.look fun s => ((Adv.name _ _).bnd fun x => (Adv.need _ _).bnd fun _ => hE.bnd fun a => (Adv.addNode _).bnd fun n => Adv.ret _).mono
theorem paramM_adv {toks : List Tk} {T : M Nat} (hT : Adv 1 0 0 T) (met : List ByteArray) : Adv 1 0 0 (paramM toks T met) :=
  Adv.look fun s => ((Adv.name _ _).bnd fun x => (written_adv hT).bnd fun t => (Adv.addNode _).bnd fun n => Adv.ret _).mono
theorem stmts_adv {toks : List Tk} {S : M Nat} (hS : Adv 1 0 0 S) : ∀ f l, Adv 1 1 1 (stmts toks S f l)
  | 0, _ => Adv.fail _ _ _ _ _
  | f + 1, l => by
    refine Adv.take _ _ ?_ ?_
    · simp only [if_true]; exact (Adv.ret _).mono
    · simp only [Bool.false_eq_true, if_false]; exact (hS.bnd fun n => stmts_adv hS f _).mono
theorem blockM_adv {toks : List Tk} {S : M Nat} (hS : Adv 1 0 0 S) : Adv 2 1 1 (blockM toks S) :=
  Adv.look fun s => ((Adv.need _ _).bnd fun _ => (stmts_adv hS _ _).bnd fun l => Adv.addNode _).mono
theorem functionM_adv {toks : List Tk} {T S : M Nat} (hT : Adv 1 0 0 T) (hS : Adv 1 0 0 S) (pos : Nat) : Adv 1 0 0 (functionM toks T S pos) :=
  ((Adv.need _ _).bnd fun _ => (list_adv (fun _ => paramM_adv hT _) _ _).bnd fun l => (written_adv hT).bnd fun t => (blockM_adv hS).bnd fun a => Adv.addNode _).mono
theorem simpleM_adv {toks : List Tk} {T E S : M Nat} (hT : Adv 1 0 0 T) (hE : Adv 1 0 0 E) (hS : Adv 1 0 0 S) : Adv 1 0 0 (simpleM toks T E S) := by
  refine Adv.look fun s => Adv.ite (fun _ => (Adv.step.bnd fun _ => Adv.addNode _).mono) fun _ => Adv.ite (fun _ => (Adv.step.bnd fun _ => Adv.addNode _).mono) fun _ => Adv.ite (fun _ => (Adv.step.bnd fun _ => Adv.addNode _).mono) fun _ => ?_
  refine Adv.take _ _ ?_ ?_
  · simp only [if_true]; exact (Adv.addNode _).mono
  simp only [Bool.false_eq_true, if_false]
  refine Adv.take _ _ ?_ ?_
  · simp only [if_true]; exact (Adv.addNode _).mono
  simp only [Bool.false_eq_true, if_false]
  refine Adv.take _ _ ?_ ?_
  · simp only [if_true]; exact (Adv.addNode _).mono
  simp only [Bool.false_eq_true, if_false]
  refine Adv.take _ _ ?_ ?_
  · simp only [if_true]; exact (functionM_adv hT hS _).mono
  simp only [Bool.false_eq_true, if_false]
  refine Adv.take _ _ ?_ ?_
  · simp only [if_true]; exact ((list_adv (fun _ => hE) _ _).bnd fun l => Adv.addNode _).mono
  simp only [Bool.false_eq_true, if_false]
  refine Adv.take _ _ ?_ ?_
  · simp only [if_true]; exact ((list_adv (fun _ => partM_adv hE _) _ _).bnd fun l => Adv.addNode _).mono
  simp only [Bool.false_eq_true, if_false]
  exact ((Adv.need _ _).bnd fun _ => hE.bnd fun a => (Adv.need _ _).bnd fun _ => Adv.ret _).mono
theorem oneM_adv {toks : List Tk} {T E O S : M Nat} (hT : Adv 1 0 0 T) (hE : Adv 1 0 0 E) (hO : Adv 1 0 0 O) (hS : Adv 1 0 0 S) : Adv 1 0 0 (oneM toks T E O S) :=
  Adv.look fun s => Adv.ite (fun _ => (Adv.step.bnd fun _ => hO.bnd fun a => Adv.addNode _).mono) (fun _ => ((simpleM_adv hT hE hS).bnd fun a => behind_adv hT hE _ a).mono)
theorem plainM_adv {toks : List Tk} {E : M Nat} (hE : Adv 1 0 0 E) : Adv 1 0 0 (plainM toks E) := by
  have h : ∀ (a : Nat) (f : Nat → Nd), Adv 0 0 0 (bnd (trunc a) fun _ => bnd step fun _ => bnd E fun v => bnd (need toks [59]) fun _ => addNode (f v)) := fun a f =>
    ((Adv.trunc _).bnd fun _ => Adv.step.bnd fun _ => hE.bnd fun v => (Adv.need _ _).bnd fun _ => Adv.addNode _).mono
  exact (hE.bnd (d' := 0) (c' := 0) (e' := 0) fun a => Adv.look fun s => Adv.ite (fun _ => Adv.ite (fun _ => h _ _) fun _ => Adv.ite (fun _ => h _ _) fun _ => Adv.ite (fun _ => h _ _) fun _ => Adv.fail _ _ _ _ _)
    (fun _ => ((Adv.need _ _).bnd fun _ => Adv.addNode _).mono)).mono
theorem branchM_adv {toks : List Tk} {E S : M Nat} (hE : Adv 1 0 0 E) (hS : Adv 1 0 0 S) (yes : Bool) (pos : Nat) : Adv 1 0 0 (branchM toks E S yes pos) := by
  refine (Adv.step.bnd fun _ => (Adv.need _ _).bnd fun _ => hE.bnd fun a => (Adv.need _ _).bnd fun _ => (blockM_adv hS).bnd (d' := 0) (c' := 0) (e' := -1) fun b => ?_).mono
  cases yes
  · simp only [Bool.false_eq_true, if_false]; exact Adv.addNode _
  · simp only [if_true]
    refine Adv.take _ _ ?_ ?_
    · simp only [if_true]; exact ((blockM_adv hS).bnd fun c => Adv.addNode _).mono
    · simp only [Bool.false_eq_true, if_false]; exact Adv.addNode _
theorem bareM_adv {toks : List Tk} {T E S : M Nat} (hT : Adv 1 0 0 T) (hE : Adv 1 0 0 E) (hS : Adv 1 0 0 S) : Adv 1 0 0 (bareM toks T E S) := by
  refine Adv.look fun s => Adv.take _ _ ?_ ?_
  · simp only [if_true]; exact ((Adv.name _ _).bnd fun x => (written_adv hT).bnd fun t => (Adv.need _ _).bnd fun _ => hE.bnd fun a => (Adv.need _ _).bnd fun _ => Adv.addNode _).mono
  simp only [Bool.false_eq_true, if_false]
  refine Adv.take _ _ ?_ ?_
  · simp only [if_true]; exact (hE.bnd fun a => (Adv.need _ _).bnd fun _ => Adv.addNode _).mono
  simp only [Bool.false_eq_true, if_false]
  refine Adv.take _ _ ?_ ?_
  · simp only [if_true]; exact (hE.bnd fun a => (Adv.need _ _).bnd fun _ => Adv.addNode _).mono
  simp only [Bool.false_eq_true, if_false]
  exact Adv.look fun s2 => Adv.ite (fun _ => branchM_adv hE hS _ _) fun _ => Adv.ite (fun _ => branchM_adv hE hS _ _) fun _ => plainM_adv hE
theorem lv_adv (toks : List Tk) : ∀ r, Adv 1 0 0 (lv toks r).E ∧ Adv 1 0 0 (lv toks r).O ∧ Adv 1 0 0 (lv toks r).S
  | 0 => ⟨Adv.fail _ _ _ _ _, Adv.fail _ _ _ _ _, Adv.fail _ _ _ _ _⟩
  | r + 1 => by
    obtain ⟨h1, h2, h3⟩ := lv_adv toks r
    have hT := typ_adv toks r
    exact ⟨exprM_adv (oneM_adv hT h1 h2 h3), oneM_adv hT h1 h2 h3, bareM_adv hT h1 h3⟩
theorem progLoop_adv {toks : List Tk} {S : M Nat} (hS : Adv 1 0 0 S) : ∀ f l, Adv 0 0 0 (progLoop toks S f l)
  | 0, _ => Adv.fail _ _ _ _ _
  | f + 1, l => Adv.look fun s => Adv.ite (fun _ => Adv.ret _) fun _ => (hS.bnd fun n => progLoop_adv hS f _).mono

theorem Bad.addNode (n : Nd) : Bad (addNode n) := fun s f h => by cases h
theorem Bad.look {α : Type} {k : St → M α} (h : ∀ s, Bad (k s)) : Bad (Ty.look k) := fun s f x => h s s f x
theorem Bad.two (x : ByteArray) (a b : Nat) : Bad (two x a b) := Bad.look fun _ => Bad.addNode _
theorem Bad.trunc (a : Nat) : Bad (trunc a) := fun s f h => by cases h
theorem leftLoop_bad {toks : List Tk} {one : M Nat} (h : Bad one) {signs : List (List UInt8)} : ∀ f n, Bad (leftLoop toks one signs f n)
  | 0, _ => Bad.fail _ _
  | f + 1, n => Bad.look fun s => Bad.ite (Bad.step.bnd fun _ => h.bnd fun b => (Bad.two _ _ _).bnd fun m => leftLoop_bad h f m) (Bad.ret _)
theorem left_bad {toks : List Tk} {one : M Nat} (h : Bad one) {signs : List (List UInt8)} : Bad (left toks one signs) := h.bnd fun n => leftLoop_bad h _ n
theorem sums_bad {toks : List Tk} {one : M Nat} (h : Bad one) : Bad (sums toks one) := left_bad (left_bad h)
theorem exprM_bad {toks : List Tk} {one : M Nat} (h : Bad one) : Bad (exprM toks one) :=
  (sums_bad h).bnd fun _ => (Bad.take _ _).bnd fun _ => Bad.ite ((sums_bad h).bnd fun _ => Bad.two _ _ _) ((Bad.take _ _).bnd fun _ => Bad.ite ((sums_bad h).bnd fun _ => Bad.two _ _ _) (Bad.ret _))
theorem behind_bad {toks : List Tk} {T E : M Nat} (hT : Bad T) (hE : Bad E) : ∀ f a, Bad (behind toks T E f a)
  | 0, _ => Bad.fail _ _
  | f + 1, a => Bad.look fun s => (Bad.take _ _).bnd fun b => Bad.ite ((list_bad (fun _ => hE) _ _).bnd fun l => (Bad.addNode _).bnd fun m => behind_bad hT hE f m)
      ((Bad.take _ _).bnd fun b => Bad.ite ((Bad.name _ _).bnd fun l => (Bad.addNode _).bnd fun m => behind_bad hT hE f m)
      ((Bad.take _ _).bnd fun b => Bad.ite (hE.bnd fun c => (Bad.need _ _).bnd fun _ => (Bad.addNode _).bnd fun m => behind_bad hT hE f m)
      ((Bad.take _ _).bnd fun b => Bad.ite (hT.bnd fun c => (Bad.addNode _).bnd fun m => behind_bad hT hE f m) (Bad.ret _))))
theorem written_bad {toks : List Tk} {T : M Nat} (hT : Bad T) : Bad (written toks T) := (Bad.take _ _).bnd fun _ => Bad.ite (hT.bnd fun _ => Bad.ret _) (Bad.ret _)
theorem partM_bad {toks : List Tk} {E : M Nat} (hE : Bad E) (met : List ByteArray) : Bad (partM toks E met) :=
  Bad.look fun _ => (Bad.name _ _).bnd fun _ => (Bad.need _ _).bnd fun _ => hE.bnd fun _ => (Bad.addNode _).bnd fun _ => Bad.ret _
theorem paramM_bad {toks : List Tk} {T : M Nat} (hT : Bad T) (met : List ByteArray) : Bad (paramM toks T met) :=
  Bad.look fun _ => (Bad.name _ _).bnd fun _ => (written_bad hT).bnd fun _ => (Bad.addNode _).bnd fun _ => Bad.ret _
theorem stmts_bad {toks : List Tk} {S : M Nat} (hS : Bad S) : ∀ f l, Bad (stmts toks S f l)
  | 0, _ => Bad.fail _ _
  | f + 1, l => (Bad.take _ _).bnd fun b => Bad.ite (Bad.ret _) (hS.bnd fun n => stmts_bad hS f _)
theorem blockM_bad {toks : List Tk} {S : M Nat} (hS : Bad S) : Bad (blockM toks S) := Bad.look fun _ => (Bad.need _ _).bnd fun _ => (stmts_bad hS _ _).bnd fun _ => Bad.addNode _
theorem functionM_bad {toks : List Tk} {T S : M Nat} (hT : Bad T) (hS : Bad S) (pos : Nat) : Bad (functionM toks T S pos) :=
  (Bad.need _ _).bnd fun _ => (list_bad (fun _ => paramM_bad hT _) _ _).bnd fun _ => (written_bad hT).bnd fun _ => (blockM_bad hS).bnd fun _ => Bad.addNode _
theorem simpleM_bad {toks : List Tk} {T E S : M Nat} (hT : Bad T) (hE : Bad E) (hS : Bad S) : Bad (simpleM toks T E S) :=
  Bad.look fun _ => Bad.ite (Bad.step.bnd fun _ => Bad.addNode _) <| Bad.ite (Bad.step.bnd fun _ => Bad.addNode _) <| Bad.ite (Bad.step.bnd fun _ => Bad.addNode _) <|
  (Bad.take _ _).bnd fun _ => Bad.ite (Bad.addNode _) <| (Bad.take _ _).bnd fun _ => Bad.ite (Bad.addNode _) <| (Bad.take _ _).bnd fun _ => Bad.ite (Bad.addNode _) <|
  (Bad.take _ _).bnd fun _ => Bad.ite (functionM_bad hT hS _) <| (Bad.take _ _).bnd fun _ => Bad.ite ((list_bad (fun _ => hE) _ _).bnd fun _ => Bad.addNode _) <|
  (Bad.take _ _).bnd fun _ => Bad.ite ((list_bad (fun _ => partM_bad hE _) _ _).bnd fun _ => Bad.addNode _) <| (Bad.need _ _).bnd fun _ => hE.bnd fun _ => (Bad.need _ _).bnd fun _ => Bad.ret _
theorem oneM_bad {toks : List Tk} {T E O S : M Nat} (hT : Bad T) (hE : Bad E) (hO : Bad O) (hS : Bad S) : Bad (oneM toks T E O S) :=
  Bad.look fun _ => Bad.ite (Bad.step.bnd fun _ => hO.bnd fun _ => Bad.addNode _) ((simpleM_bad hT hE hS).bnd fun a => behind_bad hT hE _ a)
theorem plainM_bad {toks : List Tk} {E : M Nat} (hE : Bad E) : Bad (plainM toks E) := by
  have h : ∀ (a : Nat) (f : Nat → Nd), Bad (bnd (trunc a) fun _ => bnd step fun _ => bnd E fun v => bnd (need toks [59]) fun _ => addNode (f v)) := fun a f =>
    (Bad.trunc _).bnd fun _ => Bad.step.bnd fun _ => hE.bnd fun v => (Bad.need _ _).bnd fun _ => Bad.addNode _
  exact hE.bnd fun a => Bad.look fun s => Bad.ite (Bad.ite (h _ _) (Bad.ite (h _ _) (Bad.ite (h _ _) (Bad.fail _ _)))) ((Bad.need _ _).bnd fun _ => Bad.addNode _)
theorem branchM_bad {toks : List Tk} {E S : M Nat} (hE : Bad E) (hS : Bad S) (yes : Bool) (pos : Nat) : Bad (branchM toks E S yes pos) :=
  Bad.step.bnd fun _ => (Bad.need _ _).bnd fun _ => hE.bnd fun _ => (Bad.need _ _).bnd fun _ => (blockM_bad hS).bnd fun _ => Bad.ite ((Bad.take _ _).bnd fun _ => Bad.ite ((blockM_bad hS).bnd fun _ => Bad.addNode _) (Bad.addNode _)) (Bad.addNode _)
theorem bareM_bad {toks : List Tk} {T E S : M Nat} (hT : Bad T) (hE : Bad E) (hS : Bad S) : Bad (bareM toks T E S) :=
  Bad.look fun _ => (Bad.take _ _).bnd fun _ => Bad.ite ((Bad.name _ _).bnd fun _ => (written_bad hT).bnd fun _ => (Bad.need _ _).bnd fun _ => hE.bnd fun _ => (Bad.need _ _).bnd fun _ => Bad.addNode _) <|
  (Bad.take _ _).bnd fun _ => Bad.ite (hE.bnd fun _ => (Bad.need _ _).bnd fun _ => Bad.addNode _) <|
  (Bad.take _ _).bnd fun _ => Bad.ite (hE.bnd fun _ => (Bad.need _ _).bnd fun _ => Bad.addNode _) <|
  Bad.look fun _ => Bad.ite (branchM_bad hE hS _ _) <| Bad.ite (branchM_bad hE hS _ _) (plainM_bad hE)
theorem lv_bad (toks : List Tk) : ∀ r, Bad (lv toks r).E ∧ Bad (lv toks r).O ∧ Bad (lv toks r).S
  | 0 => ⟨Bad.fail _ _, Bad.fail _ _, Bad.fail _ _⟩
  | r + 1 => by
    obtain ⟨h1, h2, h3⟩ := lv_bad toks r
    have hT := typ_bad toks r
    exact ⟨exprM_bad (oneM_bad hT h1 h2 h3), oneM_bad hT h1 h2 h3, bareM_bad hT h1 h3⟩
theorem progLoop_bad {toks : List Tk} {S : M Nat} (hS : Bad S) : ∀ f l, Bad (progLoop toks S f l)
  | 0, _ => Bad.fail _ _
  | f + 1, l => Bad.look fun s => Bad.ite (Bad.ret _) (hS.bnd fun n => progLoop_bad hS f _)
theorem progM_bad (toks : List Tk) : Bad (progM toks) := (progLoop_bad (lv_bad toks 20).2.2 _ _).bnd fun _ => Bad.addNode _
theorem parse_bad {s : ByteArray} {f : Ft} (h : parse s = .error f) : f.1 ≠ 0 := by
  unfold parse at h
  split at h
  · rename_i e he
    cases h
    have := Tok.scan_err s f.1 f.2 he
    omega
  · split at h
    · rename_i e he; cases h; exact (progM_bad _ _ _ he).1
    · split at h
      · cases h; simp
      · cases h
end Ty
end Go.Proofs.YtdlbhiaceheffaaGreatDoor

namespace Go.Proofs.YtdlbhiaceheffaaGreatDoor
namespace Ty
open Tok (Tk)
/-- What was there stays ahead. -/
def Pre {α : Type} (m : M α) : Prop := ∀ s a s', m s = .ok (a, s') → s.ns <+: s'.ns
/-- The node that is given is the last one, and a new one. -/
def Nx (m : M Nat) : Prop := ∀ s a s', m s = .ok (a, s') → s.ns <+: s'.ns ∧ a + 1 = s'.ns.length ∧ s.ns.length ≤ a
theorem Nx.pre {m : M Nat} (h : Nx m) : Pre m := fun s a s' e => (h s a s' e).1
theorem Pre.ret {α : Type} (a : α) : Pre (ret a) := fun s b s' e => by cases e; exact List.prefix_rfl
theorem Pre.fail {α : Type} (toks : List Tk) (n : Nat) : Pre (fail (α := α) toks n) := fun s b s' h => by cases h
theorem Nx.fail (toks : List Tk) (n : Nat) : Nx (fail toks n) := fun s b s' h => by cases h
theorem Pre.step : Pre step := fun s b s' e => by cases e; exact List.prefix_rfl
theorem Pre.need (toks : List Tk) (x : List UInt8) : Pre (need toks x) := fun s b s' e => by
  unfold Ty.need at e; split at e <;> cases e; exact List.prefix_rfl
theorem Pre.take (toks : List Tk) (x : List UInt8) : Pre (take toks x) := fun s b s' e => by
  unfold Ty.take at e; split at e <;> cases e <;> exact List.prefix_rfl
theorem Pre.name (toks : List Tk) (met : List ByteArray) : Pre (name toks met) := fun s b s' e => by
  unfold Ty.name at e
  split at e
  · cases e
  · split at e <;> cases e; exact List.prefix_rfl
theorem Pre.newType (t : Ty) : Pre (newType t) := fun s b s' e => by cases e; exact List.prefix_rfl
theorem Pre.look {α : Type} {k : St → M α} (h : ∀ s, Pre (k s)) : Pre (Ty.look k) := fun s a s' x => h s s a s' x
theorem Nx.look {k : St → M Nat} (h : ∀ s, Nx (k s)) : Nx (Ty.look k) := fun s a s' x => h s s a s' x
theorem Nx.addNode (n : Nd) : Nx (addNode n) := fun s b s' e => by cases e; simp
theorem Pre.addNode (n : Nd) : Pre (addNode n) := (Nx.addNode n).pre
theorem Nx.two (x : ByteArray) (a b : Nat) : Nx (two x a b) := Nx.look fun _ => Nx.addNode _
theorem Pre.bnd {α β : Type} {m : M α} {k : α → M β} (h : Pre m) (g : ∀ a, Pre (k a)) : Pre (Ty.bnd m k) := fun s b s' x => by
  obtain ⟨a, s1, e1, e2⟩ := bnd_inv x
  exact (h _ _ _ e1).trans (g a _ _ _ e2)
theorem Nx.bnd {α : Type} {m : M α} {k : α → M Nat} (h : Pre m) (g : ∀ a, Nx (k a)) : Nx (Ty.bnd m k) := fun s b s' x => by
  obtain ⟨a, s1, e1, e2⟩ := bnd_inv x
  have h1 := h _ _ _ e1
  obtain ⟨g1, g2, g3⟩ := g a _ _ _ e2
  exact ⟨h1.trans g1, g2, Nat.le_trans h1.length_le g3⟩
theorem Pre.ite {α : Type} {p : Prop} [Decidable p] {m n : M α} (h : Pre m) (g : Pre n) : Pre (if p then m else n) := by split <;> assumption
theorem Nx.ite {p : Prop} [Decidable p] {m n : M Nat} (h : Nx m) (g : Nx n) : Nx (if p then m else n) := by split <;> assumption
theorem Pre.list {α : Type} {toks : List Tk} {x : List UInt8} {m : List α → M α} (hm : ∀ l, Pre (m l)) : ∀ f l, Pre (list toks x m f l)
  | 0, _ => Pre.fail _ _
  | f + 1, l => (Pre.take _ _).bnd fun _ => Pre.ite (Pre.ret l) ((Pre.ite (Pre.ret ()) (Pre.need _ _)).bnd fun _ => (hm l).bnd fun n => Pre.list hm f (l ++ [n]))
theorem Pre.fields {toks : List Tk} {T : M Nat} (hT : Pre T) : ∀ f l, Pre (fields toks T f l)
  | 0, _ => Pre.fail _ _
  | f + 1, l => (Pre.take _ _).bnd fun _ => Pre.ite (Pre.ret l) ((Pre.name _ _).bnd fun s => (Pre.need _ _).bnd fun _ => hT.bnd fun n => (Pre.need _ _).bnd fun _ => Pre.fields hT f (l ++ [(s, n)]))
theorem Pre.round {toks : List Tk} {T : M Nat} (hT : Pre T) : Pre (round toks T) :=
  (Pre.list (fun _ => hT) _ _).bnd fun _ => (Pre.take _ _).bnd fun _ => Pre.ite (hT.bnd fun _ => Pre.newType _) (Pre.ite (Pre.ret _) (Pre.fail _ _))
theorem Pre.single {toks : List Tk} {T : M Nat} (hT : Pre T) : Pre (single toks T) := fun s a s' h => by
  unfold Ty.single at h
  split at h
  · exact (Pre.step.bnd fun _ => Pre.newType _) s a s' h
  · exact ((Pre.take _ _).bnd fun b => Pre.ite ((Pre.fields hT _ _).bnd fun _ => Pre.newType _) ((Pre.take _ _).bnd fun b => Pre.ite (hT.bnd fun n => (Pre.need _ _).bnd fun _ => Pre.newType _) ((Pre.need _ _).bnd fun _ => Pre.round hT))) s a s' h
theorem Pre.bars {toks : List Tk} {S : M Nat} (hS : Pre S) : ∀ f l, Pre (bars toks S f l)
  | 0, _ => Pre.fail _ _
  | f + 1, l => (Pre.take _ _).bnd fun _ => Pre.ite (hS.bnd fun n => Pre.bars hS f (l ++ [n])) (Pre.ret l)
theorem Pre.union {toks : List Tk} {S : M Nat} (hS : Pre S) : Pre (union toks S) := hS.bnd fun _ => (Pre.bars hS _ _).bnd fun _ => Pre.ite (Pre.ret _) (Pre.newType _)
theorem Pre.typ (toks : List Tk) : ∀ r, Pre (typ toks r)
  | 0 => Pre.fail _ _
  | r + 1 => Pre.union (Pre.single (Pre.typ toks r))
/-- From a node that is the last one, to one that is. -/
def Nl (n : Nat) (m : M Nat) : Prop := ∀ s a s', n + 1 = s.ns.length → m s = .ok (a, s') → s.ns <+: s'.ns ∧ a + 1 = s'.ns.length
theorem Nl.ret (n : Nat) : Nl n (ret n) := fun s a s' h e => by cases e; exact ⟨List.prefix_rfl, h⟩
theorem Nl.nx {n : Nat} {m : M Nat} (h : Nx m) : Nl n m := fun s a s' _ e => ⟨(h s a s' e).1, (h s a s' e).2.1⟩
theorem Nx.then {m : M Nat} {k : Nat → M Nat} (h : Nx m) (g : ∀ a, Nl a (k a)) : Nx (Ty.bnd m k) := fun s b s' x => by
  obtain ⟨a, s1, e1, e2⟩ := bnd_inv x
  obtain ⟨h1, h2, h3⟩ := h _ _ _ e1
  obtain ⟨g1, g2⟩ := g a _ _ _ h2 e2
  exact ⟨h1.trans g1, g2, by have := g1.length_le; omega⟩
theorem Nl.look {n : Nat} {k : St → M Nat} (h : ∀ s, Nl n (k s)) : Nl n (Ty.look k) := fun s a s' e x => h s s a s' e x
theorem Nl.ite {n : Nat} {p : Prop} [Decidable p] {m k : M Nat} (h : Nl n m) (g : Nl n k) : Nl n (if p then m else k) := by split <;> assumption
theorem Nl.bnd {α : Type} {n : Nat} {m : M α} {k : α → M Nat} (h : Pre m) (g : ∀ a, Nx (k a)) : Nl n (Ty.bnd m k) := Nl.nx (Nx.bnd h g)
/-- Taking a sign, or not, changes no node. -/
theorem Nl.take {n : Nat} (toks : List Tk) (x : List UInt8) {k : Bool → M Nat} (h : ∀ b, Nl n (k b)) : Nl n (Ty.bnd (Ty.take toks x) k) := fun s a s' e y => by
  obtain ⟨b, s1, e1, e2⟩ := bnd_inv y
  unfold Ty.take at e1
  split at e1 <;> cases e1
  · exact h true { s with pos := s.pos + 1 } a s' e e2
  · exact h false s a s' e e2
theorem leftLoop_nl {toks : List Tk} {one : M Nat} (h : Nx one) {signs : List (List UInt8)} : ∀ f n, Nl n (leftLoop toks one signs f n)
  | 0, _ => Nl.nx (Nx.fail _ _)
  | f + 1, n => Nl.look fun _ => Nl.ite (Nl.bnd Pre.step fun _ => Nx.bnd h.pre fun _ => Nx.then (Nx.two _ _ _) fun m => leftLoop_nl h f m) (Nl.ret n)
theorem left_nx {toks : List Tk} {one : M Nat} (h : Nx one) {signs : List (List UInt8)} : Nx (left toks one signs) := Nx.then h fun n => leftLoop_nl h _ n
theorem sums_nx {toks : List Tk} {one : M Nat} (h : Nx one) : Nx (sums toks one) := left_nx (left_nx h)
theorem exprM_nx {toks : List Tk} {one : M Nat} (h : Nx one) : Nx (exprM toks one) :=
  Nx.then (sums_nx h) fun n => Nl.take _ _ fun _ => Nl.ite (Nl.bnd (sums_nx h).pre fun _ => Nx.two _ _ _) (Nl.take _ _ fun _ => Nl.ite (Nl.bnd (sums_nx h).pre fun _ => Nx.two _ _ _) (Nl.ret n))
theorem behind_nl {toks : List Tk} {T E : M Nat} (hT : Pre T) (hE : Nx E) : ∀ f a, Nl a (behind toks T E f a)
  | 0, _ => Nl.nx (Nx.fail _ _)
  | f + 1, a => Nl.look fun _ => Nl.take _ _ fun _ => Nl.ite (Nl.bnd (Pre.list (fun _ => hE.pre) _ _) fun _ => Nx.then (Nx.addNode _) fun m => behind_nl hT hE f m)
      (Nl.take _ _ fun _ => Nl.ite (Nl.bnd (Pre.name _ _) fun _ => Nx.then (Nx.addNode _) fun m => behind_nl hT hE f m)
      (Nl.take _ _ fun _ => Nl.ite (Nl.bnd hE.pre fun _ => Nx.bnd (Pre.need _ _) fun _ => Nx.then (Nx.addNode _) fun m => behind_nl hT hE f m)
      (Nl.take _ _ fun _ => Nl.ite (Nl.bnd hT fun _ => Nx.then (Nx.addNode _) fun m => behind_nl hT hE f m) (Nl.ret a))))
theorem Pre.written {toks : List Tk} {T : M Nat} (hT : Pre T) : Pre (written toks T) := (Pre.take _ _).bnd fun _ => Pre.ite (hT.bnd fun _ => Pre.ret _) (Pre.ret _)
theorem Pre.partM {toks : List Tk} {E : M Nat} (hE : Pre E) (met : List ByteArray) : Pre (partM toks E met) :=
  Pre.look fun _ => (Pre.name _ _).bnd fun _ => (Pre.need _ _).bnd fun _ => hE.bnd fun _ => (Pre.addNode _).bnd fun _ => Pre.ret _
theorem Pre.paramM {toks : List Tk} {T : M Nat} (hT : Pre T) (met : List ByteArray) : Pre (paramM toks T met) :=
  Pre.look fun _ => (Pre.name _ _).bnd fun _ => (Pre.written hT).bnd fun _ => (Pre.addNode _).bnd fun _ => Pre.ret _
theorem Pre.stmts {toks : List Tk} {S : M Nat} (hS : Pre S) : ∀ f l, Pre (stmts toks S f l)
  | 0, _ => Pre.fail _ _
  | f + 1, _ => (Pre.take _ _).bnd fun _ => Pre.ite (Pre.ret _) (hS.bnd fun _ => Pre.stmts hS f _)
theorem blockM_nx {toks : List Tk} {S : M Nat} (hS : Pre S) : Nx (blockM toks S) := Nx.look fun _ => Nx.bnd (Pre.need _ _) fun _ => Nx.bnd (Pre.stmts hS _ _) fun _ => Nx.addNode _
theorem functionM_nx {toks : List Tk} {T S : M Nat} (hT : Pre T) (hS : Pre S) (pos : Nat) : Nx (functionM toks T S pos) :=
  Nx.bnd (Pre.need _ _) fun _ => Nx.bnd (Pre.list (fun _ => Pre.paramM hT _) _ _) fun _ => Nx.bnd (Pre.written hT) fun _ => Nx.bnd (blockM_nx hS).pre fun _ => Nx.addNode _
/-- What stands in brackets. -/
theorem inner_nx {toks : List Tk} {E : M Nat} (hE : Nx E) : Nx (bnd (need toks [40]) fun _ => bnd E fun a => bnd (need toks [41]) fun _ => ret a) := by
  refine Nx.bnd (Pre.need _ _) fun _ => Nx.then hE fun a => fun s n s' h x => ?_
  obtain ⟨u, s1, e1, e2⟩ := bnd_inv x
  cases e2
  unfold need at e1
  split at e1 <;> cases e1
  exact ⟨List.prefix_rfl, h⟩
theorem simpleM_nx {toks : List Tk} {T E S : M Nat} (hT : Pre T) (hE : Nx E) (hS : Pre S) : Nx (simpleM toks T E S) :=
  Nx.look fun _ => Nx.ite (Nx.bnd Pre.step fun _ => Nx.addNode _) <| Nx.ite (Nx.bnd Pre.step fun _ => Nx.addNode _) <| Nx.ite (Nx.bnd Pre.step fun _ => Nx.addNode _) <|
  Nx.bnd (Pre.take _ _) fun _ => Nx.ite (Nx.addNode _) <| Nx.bnd (Pre.take _ _) fun _ => Nx.ite (Nx.addNode _) <| Nx.bnd (Pre.take _ _) fun _ => Nx.ite (Nx.addNode _) <|
  Nx.bnd (Pre.take _ _) fun _ => Nx.ite (functionM_nx hT hS _) <| Nx.bnd (Pre.take _ _) fun _ => Nx.ite (Nx.bnd (Pre.list (fun _ => hE.pre) _ _) fun _ => Nx.addNode _) <|
  Nx.bnd (Pre.take _ _) fun _ => Nx.ite (Nx.bnd (Pre.list (fun _ => Pre.partM hE.pre _) _ _) fun _ => Nx.addNode _) <| inner_nx hE
theorem oneM_nx {toks : List Tk} {T E O S : M Nat} (hT : Pre T) (hE : Nx E) (hO : Nx O) (hS : Pre S) : Nx (oneM toks T E O S) :=
  Nx.look fun _ => Nx.ite (Nx.bnd Pre.step fun _ => Nx.bnd hO.pre fun _ => Nx.addNode _) (Nx.then (simpleM_nx hT hE hS) fun a => behind_nl hT hE _ a)
theorem plainM_nx {toks : List Tk} {E : M Nat} (hE : Nx E) : Nx (plainM toks E) := fun s n s' x => by
  obtain ⟨a, s1, e1, e2⟩ := bnd_inv x
  obtain ⟨h1, h2, h3⟩ := hE _ _ _ e1
  have key : ∀ (f : Nat → Nd), (bnd (trunc a) fun _ => bnd step fun _ => bnd E fun v => bnd (need toks [59]) fun _ => addNode (f v)) s1 = .ok (n, s') → s.ns <+: s'.ns ∧ n + 1 = s'.ns.length ∧ s.ns.length ≤ n := fun f y => by
    have hk : Nx (bnd step fun _ => bnd E fun v => bnd (need toks [59]) fun _ => addNode (f v)) := Nx.bnd Pre.step fun _ => Nx.bnd hE.pre fun _ => Nx.bnd (Pre.need _ _) fun _ => Nx.addNode _
    obtain ⟨g1, g2, g3⟩ := hk { s1 with ns := s1.ns.take a } n s' y
    have hp : s.ns <+: s1.ns.take a := by
      obtain ⟨t, ht⟩ := h1
      rw [← ht, List.take_append, List.take_of_length_le h3]
      exact List.prefix_append _ _
    refine ⟨hp.trans g1, g2, Nat.le_trans hp.length_le g3⟩
  unfold look at e2
  dsimp only at e2
  split at e2
  · split at e2
    · exact key _ e2
    · split at e2
      · exact key _ e2
      · split at e2
        · exact key _ e2
        · cases e2
  · obtain ⟨g1, g2, g3⟩ := (Nx.bnd (Pre.need toks [59]) fun _ => Nx.addNode { ndOf 25 (ndAt s1 a).pos with a := a }) _ _ _ e2
    exact ⟨h1.trans g1, g2, Nat.le_trans h1.length_le g3⟩
theorem branchM_nx {toks : List Tk} {E S : M Nat} (hE : Pre E) (hS : Pre S) (yes : Bool) (pos : Nat) : Nx (branchM toks E S yes pos) :=
  Nx.bnd Pre.step fun _ => Nx.bnd (Pre.need _ _) fun _ => Nx.bnd hE fun _ => Nx.bnd (Pre.need _ _) fun _ => Nx.bnd (blockM_nx hS).pre fun _ => Nx.ite (Nx.bnd (Pre.take _ _) fun _ => Nx.ite (Nx.bnd (blockM_nx hS).pre fun _ => Nx.addNode _) (Nx.addNode _)) (Nx.addNode _)
theorem bareM_nx {toks : List Tk} {T E S : M Nat} (hT : Pre T) (hE : Nx E) (hS : Pre S) : Nx (bareM toks T E S) :=
  Nx.look fun _ => Nx.bnd (Pre.take _ _) fun _ => Nx.ite (Nx.bnd (Pre.name _ _) fun _ => Nx.bnd (Pre.written hT) fun _ => Nx.bnd (Pre.need _ _) fun _ => Nx.bnd hE.pre fun _ => Nx.bnd (Pre.need _ _) fun _ => Nx.addNode _) <|
  Nx.bnd (Pre.take _ _) fun _ => Nx.ite (Nx.bnd hE.pre fun _ => Nx.bnd (Pre.need _ _) fun _ => Nx.addNode _) <|
  Nx.bnd (Pre.take _ _) fun _ => Nx.ite (Nx.bnd hE.pre fun _ => Nx.bnd (Pre.need _ _) fun _ => Nx.addNode _) <|
  Nx.look fun _ => Nx.ite (branchM_nx hE.pre hS _ _) <| Nx.ite (branchM_nx hE.pre hS _ _) (plainM_nx hE)
theorem lv_nx (toks : List Tk) : ∀ r, Nx (lv toks r).E ∧ Nx (lv toks r).O ∧ Nx (lv toks r).S
  | 0 => ⟨Nx.fail _ _, Nx.fail _ _, Nx.fail _ _⟩
  | r + 1 => by
    obtain ⟨h1, h2, h3⟩ := lv_nx toks r
    have hT := Pre.typ toks r
    exact ⟨exprM_nx (oneM_nx hT h1 h2 h3.pre), oneM_nx hT h1 h2 h3.pre, bareM_nx hT h1 h3.pre⟩
theorem ndAt_pre {s s' : St} {n : Nat} (h : s.ns <+: s'.ns) (hn : n < s.ns.length) : ndAt s' n = ndAt s n := by
  obtain ⟨t, ht⟩ := h
  unfold ndAt
  rw [← ht, List.getElem?_append_left hn]
end Ty
end Go.Proofs.YtdlbhiaceheffaaGreatDoor

namespace Go.Proofs.YtdlbhiaceheffaaGreatDoor
namespace Ty
open Tok (Tk)
/-- A number as the language has it. -/
structure NumOk (x : ByteArray) : Prop where
  size : x.size ≤ 9
  dig : ∀ d ∈ x.data.toList, Tok.isDigit d = true
  ne : x.data.toList ≠ []
  nz : x.data.toList.length = 1 ∨ x.data.toList.head? ≠ some 48
def Nums (toks : List Tk) : Prop := ∀ t ∈ toks, t.kind = 3 → NumOk t.text
theorem next_num (s : ByteArray) (k : Nat) (h : k < s.size) (hok : (Tok.next s k).2.2 = true) (hk : (Tok.next s k).1.kind = 3) : NumOk (Tok.next s k).1.text := by
  unfold Tok.next at hok hk ⊢
  by_cases hl : Tok.isLetter (Tok.byte s k) = true
  · simp only [hl, if_true] at hk
    split at hk <;> cases hk
  · simp only [hl, if_false, Bool.false_eq_true] at hok hk ⊢
    by_cases hd : Tok.isDigit (Tok.byte s k) = true
    · simp only [hd, if_true] at hok ⊢
      have hst := Tok.stop_ge Tok.isDigit s k
      have hle := Tok.stop_le Tok.isDigit s k (by omega)
      simp only [Bool.and_eq_true, Bool.or_eq_true, decide_eq_true_eq, Bool.not_eq_true', decide_eq_false_iff_not] at hok
      have hl2 : (s.extract k (Tok.stop Tok.isDigit s k)).data.toList.length = Tok.stop Tok.isDigit s k - k := by
        have : (s.extract k (Tok.stop Tok.isDigit s k)).size = Tok.stop Tok.isDigit s k - k := by simp only [ByteArray.size_extract]; omega
        rw [← this]; exact Array.length_toList
      have hx : (s.extract k (Tok.stop Tok.isDigit s k)).data.toList = s[k] :: (s.data.toList.drop (k + 1)).takeWhile Tok.isDigit := by
        rw [extract_stop _ _ _ (by omega), Tok.drop_cons s k h, List.takeWhile_cons, if_pos (by rw [← Tok.byte_eq]; exact hd)]
      refine ⟨?_, ?_, ?_, ?_⟩
      · simp only [ByteArray.size_extract]; omega
      · rw [extract_stop _ _ _ (by omega)]; exact takeWhile_all _ _
      · rw [hx]; simp
      · rcases hok.2 with h1 | h1
        · left; omega
        · right
          rw [hx]
          intro e
          simp only [List.head?_cons, Option.some.injEq] at e
          exact h1 (by rw [Tok.byte_eq s k h]; exact e)
    · simp only [hd, if_false, Bool.false_eq_true] at hk
      split at hk
      · cases hk
      · split at hk <;> cases hk
theorem scanFrom_nums (s : ByteArray) : ∀ (f k : Nat) (o l : List Tk), Tok.scanFrom s f k o = .ok l → Nums o → Nums l
  | 0, k, o, l, h, ho => by cases h; exact ho
  | f + 1, k, o, l, h, ho => by
    rw [Tok.scanFrom] at h
    split at h
    · rename_i hk
      split at h
      · exact scanFrom_nums s f _ _ _ h ho
      · split at h
        · cases h
        · rename_i hok
          split at h
          · cases h
          · refine scanFrom_nums s f _ _ _ h fun t ht => ?_
            rw [List.mem_append] at ht
            rcases ht with ht | ht
            · exact ho t ht
            · simp at ht; subst ht
              exact next_num s k hk (by simpa using hok)
    · cases h
      intro t ht
      rw [List.mem_append] at ht
      rcases ht with ht | ht
      · exact ho t ht
      · simp at ht; subst ht; intro h; cases h
theorem scan_nums {s : ByteArray} {l : List Tk} (h : Tok.scan s = .ok l) : Nums l := by
  unfold Tok.scan at h
  split at h
  · cases h
  · exact scanFrom_nums s _ _ _ _ h fun t ht => by simp at ht
theorem digitVal_of {d : UInt8} (h : Tok.isDigit d = true) : Lib.digitVal d = some (d.toNat - 48) := by
  unfold Tok.isDigit at h
  simp at h
  unfold Lib.digitVal
  rw [if_pos h]
theorem decFrom_fold : ∀ (l : List UInt8) (acc : Nat), (∀ d ∈ l, Tok.isDigit d = true) → Lib.decFrom acc l = some (l.foldl (fun n c => 10 * n + (c.toNat - 48)) acc)
  | [], acc, _ => rfl
  | c :: l, acc, h => by
    rw [Lib.decFrom, digitVal_of (h c (by simp))]
    dsimp only
    rw [decFrom_fold l _ (fun d hd => h d (by simp [hd])), List.foldl_cons, Nat.mul_comm acc 10]
theorem atoi_value {x : ByteArray} (h : NumOk x) : Lib.atoi x.data.toList = some ((value x : Nat) : Int) := by
  unfold value
  cases e : x.data.toList with
  | nil => exact absurd e h.ne
  | cons c l =>
    have hd := h.dig
    rw [e] at hd
    have hc := hd c (by simp)
    unfold Tok.isDigit at hc
    simp at hc
    rw [Lib.atoi, if_neg (by intro h45; have := beq_iff_eq.1 h45; subst this; simp at hc), if_neg (by intro h43; have := beq_iff_eq.1 h43; subst this; simp at hc)]
    unfold Lib.decNat
    rw [if_neg (by simp), decFrom_fold _ _ hd]
    rfl
end Ty
end Go.Proofs.YtdlbhiaceheffaaGreatDoor

namespace Go.Proofs.YtdlbhiaceheffaaGreatDoor
namespace Rd
open Tok (Tk)
open Ty (Ft St Nd cur here is M ndAt)
/-- Something good: within the tokens, with j less types, and nodes, than tokens taken. -/
def Gd (toks : List Tk) (j : Nat) (st : St) : Prop := st.pos < toks.length ∧ st.ts.length + j ≤ st.pos ∧ st.ns.length + j ≤ st.pos + 1
/-- The whole is what m comes to from here; or it has failed. -/
def At {γ : Type} (toks : List Tk) (c j : Nat) (whole : Except Ft (γ × St)) (m : M γ) (s : RS) : Prop :=
  (s.f = none ∧ Gd toks j s.st ∧ whole = m s.st) ∨ ∃ f, s.f = some f ∧ Off toks c s.st ∧ whole = .error f
def addN (n : Nd) (s : RS) : RS := ⟨{ s.st with ns := s.st.ns ++ [n] }, s.f⟩
section
variable {γ : Type} {toks : List Tk} {c j : Nat} {whole : Except Ft (γ × St)} {m : M γ} {s : RS}
theorem At.mono (h : At toks c j whole m s) {c' j' : Nat} (hc : c ≤ c' := by omega) (hj : j' ≤ j := by omega) : At toks c' j' whole m s := by
  rcases h with ⟨h1, ⟨h2, h3, h4⟩, h5⟩ | ⟨f, h1, h2, h3⟩
  · exact .inl ⟨h1, ⟨h2, by omega, by omega⟩, h5⟩
  · exact .inr ⟨f, h1, h2.mono hc, h3⟩
/-- From something good the count of bad ones is of no matter. -/
theorem At.good (h : At toks c j whole m s) (hf : s.f = none) (c' : Nat) : At toks c' j whole m s := by
  rcases h with h | ⟨f, h1, _⟩
  · exact .inl h
  · rw [hf] at h1; cases h1
theorem At.pos (h : At toks c j whole m s) : s.st.pos < toks.length := by
  rcases h with ⟨_, h, _⟩ | ⟨_, _, h, _⟩
  · exact h.1
  · exact h.1
theorem At.ns (h : At toks c j whole m s) : s.st.ns.length ≤ toks.length + 1 + c := by
  rcases h with ⟨_, h, _⟩ | ⟨_, _, h, _⟩
  · have := h.1; have := h.2.2; omega
  · exact h.2.2
theorem At.ts (h : At toks c j whole m s) : s.st.ts.length ≤ toks.length + c := by
  rcases h with ⟨_, h, _⟩ | ⟨_, _, h, _⟩
  · have := h.1; have := h.2.1; omega
  · exact h.2.1
theorem At.isIn (h : At toks c j whole m s) : In toks c j s := by
  refine ⟨h.pos, fun e => ?_, h.ts, h.ns⟩
  rcases h with ⟨_, h, _⟩ | ⟨_, h, _⟩
  · exact ⟨h.2.1, h.2.2⟩
  · rw [e] at h; cases h
theorem At.congr {m' : M γ} (h : At toks c j whole m s) (e : s.f = none → m s.st = m' s.st) : At toks c j whole m' s := by
  rcases h with ⟨h1, h2, h3⟩ | h
  · exact .inl ⟨h1, h2, h3.trans (e h1)⟩
  · exact .inr h
theorem At.look {k : St → M γ} (h : At toks c j whole (Ty.look k) s) : At toks c j whole (k s.st) s := h
theorem At.bad {f : Ft} (h : At toks c j whole m s) (hf : s.f = some f) (m' : M γ) (j' : Nat) : At toks c j' whole m' s := by
  rcases h with ⟨h1, _⟩ | h
  · rw [hf] at h1; cases h1
  · exact .inr h
theorem At.fail {α : Type} {e : Nat} {k : α → M γ} (h : At toks c j whole (Ty.bnd (Ty.fail toks e) k) s) (m' : M γ) (j' : Nat) : At toks c j' whole m' (wrong toks e s) := by
  rcases h with ⟨h1, h2, h3⟩ | ⟨f, h1, h2, h3⟩
  · obtain ⟨st, f⟩ := s
    cases h1
    exact .inr ⟨here toks e st.pos, rfl, ⟨h2.1, by have := h2.1; have := h2.2.1; show st.ts.length ≤ _; dsimp only at *; omega, by have := h2.1; have := h2.2.2; show st.ns.length ≤ _; dsimp only at *; omega⟩, h3⟩
  · obtain ⟨st, f'⟩ := s
    cases h1
    exact .inr ⟨f, rfl, h2, h3⟩
theorem Gd.off {st : St} (h : Gd toks j st) (c : Nat) : Off toks c st := ⟨h.1, by have := h.1; have := h.2.1; omega, by have := h.1; have := h.2.2; omega⟩
/-- What a model's step comes to, from something good. -/
theorem At.ret {b : γ} (h : At toks c j whole (Ty.ret b) s) : (s.f = none ∧ Gd toks j s.st ∧ whole = .ok (b, s.st)) ∨ ∃ f, s.f = some f ∧ Off toks c s.st ∧ whole = .error f := h
theorem At.addN {n : Nd} {k : Nat → M γ} (h : At toks c (j + 1) whole (Ty.bnd (Ty.addNode n) k) s) : At toks (c + 1) j whole (k s.st.ns.length) (Rd.addN n s) := by
  rcases h with ⟨h1, ⟨h2, h3, h4⟩, h5⟩ | ⟨f, h1, ⟨h2, h3, h4⟩, h5⟩
  · exact .inl ⟨h1, ⟨h2, by show s.st.ts.length + j ≤ s.st.pos; omega, by show (s.st.ns ++ [n]).length + j ≤ s.st.pos + 1; simp; omega⟩, h5⟩
  · exact .inr ⟨f, h1, ⟨h2, by show s.st.ts.length ≤ _; omega, by show (s.st.ns ++ [n]).length ≤ _; simp; omega⟩, h5⟩
theorem At.addN' {n : Nd} {whole : Except Ft (Nat × St)} (h : At toks c (j + 1) whole (Ty.addNode n) s) : At toks (c + 1) j whole (Ty.ret s.st.ns.length) (Rd.addN n s) := by
  rcases h with ⟨h1, ⟨h2, h3, h4⟩, h5⟩ | ⟨f, h1, ⟨h2, h3, h4⟩, h5⟩
  · exact .inl ⟨h1, ⟨h2, by show s.st.ts.length + j ≤ s.st.pos; omega, by show (s.st.ns ++ [n]).length + j ≤ s.st.pos + 1; simp; omega⟩, h5⟩
  · exact .inr ⟨f, h1, ⟨h2, by show s.st.ts.length ≤ _; omega, by show (s.st.ns ++ [n]).length ≤ _; simp; omega⟩, h5⟩
/-- A step of the model, that the reference's code takes. -/
theorem At.use {β : Type} {mF : M β} {k : β → M γ} (h : At toks c j whole (Ty.bnd mF k) s) : ∃ w0 : Except Ft (β × St), At toks c j w0 mF s ∧ ∀ c' b s', At toks c' j w0 (Ty.ret b) s' → At toks c' j whole (k b) s' ∧ (s'.f = none → s.f = none ∧ mF s.st = .ok (b, s'.st)) := by
  rcases h with ⟨h1, h2, h3⟩ | ⟨f, h1, h2, h3⟩
  · refine ⟨mF s.st, .inl ⟨h1, h2, rfl⟩, fun c' b s' g => ?_⟩
    rcases g with ⟨g1, g2, g3⟩ | ⟨f, g1, g2, g3⟩
    · refine ⟨.inl ⟨g1, g2, ?_⟩, fun _ => ⟨h1, g3⟩⟩
      rw [h3, Ty.bnd_ok g3]
    · refine ⟨.inr ⟨f, g1, g2, ?_⟩, fun e => by rw [g1] at e; cases e⟩
      rw [h3, Ty.bnd_err g3]
  · refine ⟨.error f, .inr ⟨f, h1, h2, rfl⟩, fun c' b s' g => ?_⟩
    rcases g with ⟨g1, g2, g3⟩ | ⟨f', g1, g2, g3⟩
    · cases g3
    · cases g3
      exact ⟨.inr ⟨f, g1, g2, h3⟩, fun e => by rw [g1] at e; cases e⟩
variable (hL : ∀ t, toks.getLast? = some t → t.kind = 6)
include hL
theorem At.step {k : Unit → M γ} (h : At toks c j whole (Ty.bnd Ty.step k) s) (hf : s.f = none) (hk : (cur toks s.st.pos).kind ≠ 6) : At toks c (j + 1) whole (k ()) (next s) := by
  rcases h with ⟨h1, ⟨h2, h3, h4⟩, h5⟩ | ⟨f, h1, _⟩
  · have := kind_lt hL h2 hk
    exact .inl ⟨h1, ⟨this, by show s.st.ts.length + (j + 1) ≤ s.st.pos + 1; omega, by show s.st.ns.length + (j + 1) ≤ s.st.pos + 1 + 1; omega⟩, h5⟩
  · rw [hf] at h1; cases h1
theorem At.yes {x : List UInt8} {k : Bool → M γ} (h : At toks c j whole (Ty.bnd (Ty.take toks x) k) s) (hp : peek toks x s = true) : At toks c (j + 1) whole (k true) (next s) := by
  unfold peek at hp
  simp at hp
  rcases h with ⟨h1, ⟨h2, h3, h4⟩, h5⟩ | ⟨f, h1, _⟩
  · have := is_lt hL h2 hp.2
    refine .inl ⟨h1, ⟨this, by show s.st.ts.length + (j + 1) ≤ s.st.pos + 1; omega, by show s.st.ns.length + (j + 1) ≤ s.st.pos + 1 + 1; omega⟩, ?_⟩
    rw [h5, Ty.bnd_ok (show Ty.take toks x s.st = .ok (true, { s.st with pos := s.st.pos + 1 }) by unfold Ty.take; rw [if_pos hp.2])]
    rfl
  · rw [hp.1] at h1; cases h1
omit hL in
theorem At.no {x : List UInt8} {k : Bool → M γ} (h : At toks c j whole (Ty.bnd (Ty.take toks x) k) s) (hp : peek toks x s = false) : At toks c j whole (k false) s := by
  rcases h with ⟨h1, h2, h5⟩ | h
  · refine .inl ⟨h1, h2, ?_⟩
    have hi : ¬ is toks x s.st.pos = true := by unfold peek at hp; rw [h1] at hp; simpa using hp
    rw [h5, Ty.bnd_ok (show Ty.take toks x s.st = .ok (false, s.st) by unfold Ty.take; rw [if_neg hi])]
  · exact .inr h
theorem At.must {x : List UInt8} {k : Unit → M γ} (h : At toks c j whole (Ty.bnd (Ty.need toks x) k) s) : At toks c (j + 1) whole (k ()) (must toks x s) := by
  obtain ⟨st, f⟩ := s
  rcases h with ⟨h1, ⟨h2, h3, h4⟩, h5⟩ | ⟨f', h1, h2, h3⟩
  · cases h1
    dsimp only at h2 h3 h4 h5
    by_cases hi : is toks x st.pos = true
    · have := is_lt hL h2 hi
      have e : Ty.need toks x st = .ok ((), { st with pos := st.pos + 1 }) := by unfold Ty.need; rw [if_pos hi]
      rw [must_ok e]
      refine .inl ⟨rfl, ⟨this, by show st.ts.length + (j + 1) ≤ st.pos + 1; omega, by show st.ns.length + (j + 1) ≤ st.pos + 1 + 1; omega⟩, ?_⟩
      rw [h5, Ty.bnd_ok e]
    · have e : Ty.need toks x st = .error (here toks 1 st.pos) := by unfold Ty.need; rw [if_neg hi]
      rw [must_err e]
      refine .inr ⟨_, rfl, ⟨h2, by show st.ts.length ≤ _; omega, by show st.ns.length ≤ _; omega⟩, ?_⟩
      rw [h5, Ty.bnd_err e]
  · cases h1
    rw [must_bad]
    exact .inr ⟨f', rfl, h2, h3⟩
theorem At.ident {met : List ByteArray} {k : ByteArray → M γ} (h : At toks c j whole (Ty.bnd (Ty.name toks met) k) s) : At toks c (j + 1) whole (k (ident toks met s).1) (ident toks met s).2 := by
  obtain ⟨st, f⟩ := s
  rcases h with ⟨h1, ⟨h2, h3, h4⟩, h5⟩ | ⟨f', h1, h2, h3⟩
  · cases h1
    dsimp only at h2 h3 h4 h5
    cases e : Ty.name toks met st with
    | ok p =>
      obtain ⟨x, st'⟩ := p
      rw [ident_ok e]
      have hx : st' = { st with pos := st.pos + 1 } ∧ st.pos + 1 < toks.length := by
        unfold Ty.name at e
        split at e
        · cases e
        · rename_i hk
          have hk1 : (cur toks st.pos).kind = 1 := Decidable.not_not.1 hk
          split at e <;> cases e
          exact ⟨rfl, kind_lt hL h2 (by rw [hk1]; decide)⟩
      obtain ⟨rfl, hlt⟩ := hx
      refine .inl ⟨rfl, ⟨hlt, by show st.ts.length + (j + 1) ≤ st.pos + 1; omega, by show st.ns.length + (j + 1) ≤ st.pos + 1 + 1; omega⟩, ?_⟩
      rw [h5, Ty.bnd_ok e]
    | error f =>
      rw [ident_err e]
      refine .inr ⟨_, rfl, ⟨h2, by show st.ts.length ≤ _; omega, by show st.ns.length ≤ _; omega⟩, ?_⟩
      rw [h5, Ty.bnd_err e]
  · cases h1
    have e : (Rd.ident toks met ⟨st, some f'⟩).2 = ⟨st, some f'⟩ ∨ (Rd.ident toks met ⟨st, some f'⟩).2 = Rd.next ⟨st, some f'⟩ ∧ st.pos + 1 < toks.length := by
      unfold Rd.ident
      split
      · exact .inl rfl
      · rename_i hk
        split
        · exact .inl rfl
        · exact .inr ⟨rfl, kind_lt hL h2.1 (by rw [show (cur toks st.pos).kind = 1 from Decidable.not_not.1 hk]; decide)⟩
    rcases e with e | ⟨e, hlt⟩
    · rw [e]; exact .inr ⟨f', rfl, h2, h3⟩
    · rw [e]; exact .inr ⟨f', rfl, ⟨hlt, h2.2.1, h2.2.2⟩, h3⟩
end
end Rd
end Go.Proofs.YtdlbhiaceheffaaGreatDoor
