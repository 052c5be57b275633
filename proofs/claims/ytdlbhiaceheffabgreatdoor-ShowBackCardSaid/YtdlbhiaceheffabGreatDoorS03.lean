/- Plain: what reading tokens comes to: the reader's steps, and types. No program in sight. Walks of token.number, text, sign. Walk of token.sign. Walk of token.one. token.one at whatever stands there. -/
import Derived.BigRegion
import Derived.Deep.RegionWith
import Derived.Test.YtdlbhiaceheffabGreatDoorS02
set_option linter.all false
set_option maxRecDepth 100000
namespace Go.Proofs.YtdlbhiaceheffabGreatDoor
section
namespace Ty
open Tok (Tk)
structure Ty where
 kind : Nat
 fields : List (ByteArray × Nat)
 list : List Nat
 of : Nat
structure Nd where
 kind : Nat
 a : Nat
 b : Nat
 c : Int
 list : List Nat
 text : ByteArray
 n : Nat
 ty : Int
 pos : Nat
abbrev Ft := Nat × Nat
structure St where
 pos : Nat
 ts : List Ty
 ns : List Nd
def M (α : Type) := St → Except Ft (α × St)
def ret {α : Type} (a : α) : M α := fun s => .ok (a, s)
def bnd {α β : Type} (m : M α) (k : α → M β) : M β := fun s => match m s with
 | .error e => .error e
 | .ok (a, s') => k a s'
theorem bnd_ok {α β : Type} {m : M α} {k : α → M β} {s s' : St} {a : α} (h : m s = .ok (a, s')) : bnd m k s = k a s' := by unfold bnd; rw [h]
theorem bnd_err {α β : Type} {m : M α} {k : α → M β} {s : St} {e : Ft} (h : m s = .error e) : bnd m k s = .error e := by unfold bnd; rw [h]
theorem bnd_inv {α β : Type} {m : M α} {k : α → M β} {s s' : St} {b : β} (h : bnd m k s = .ok (b, s')) : ∃ a s1, m s = .ok (a, s1) ∧ k a s1 = .ok (b, s') := by
 unfold bnd at h
 split at h
 · cases h
 · rename_i a s1 e; exact ⟨a, s1, e, h⟩
def cur (toks : List Tk) (pos : Nat) : Tk := (toks[pos]?).getD ⟨6, ⟨#[]⟩, 0⟩
def here (toks : List Tk) (e pos : Nat) : Ft := (e, (cur toks pos).pos)
def is (toks : List Tk) (s : List UInt8) (pos : Nat) : Bool := (decide ((cur toks pos).kind = 5) || decide ((cur toks pos).kind = 2)) && decide ((cur toks pos).text.data.toList = s)
def fail {α : Type} (toks : List Tk) (e : Nat) : M α := fun s => .error (here toks e s.pos)
def step : M Unit := fun s => .ok ((), { s with pos := s.pos + 1 })
def take (toks : List Tk) (x : List UInt8) : M Bool := fun s => if is toks x s.pos then .ok (true, { s with pos := s.pos + 1 }) else .ok (false, s)
def need (toks : List Tk) (x : List UInt8) : M Unit := fun s => if is toks x s.pos then .ok ((), { s with pos := s.pos + 1 }) else .error (here toks 1 s.pos)
def name (toks : List Tk) (met : List ByteArray) : M ByteArray := fun s =>
 if (cur toks s.pos).kind ≠ 1 then .error (here toks 1 s.pos)
 else if (cur toks s.pos).text.data.toList ∈ met.map (fun t => t.data.toList) then .error (here toks 6 s.pos)
 else .ok ((cur toks s.pos).text, { s with pos := s.pos + 1 })
def newType (t : Ty) : M Nat := fun s => .ok (s.ts.length, { s with ts := s.ts ++ [t] })
def plains : List (List UInt8) := [[110, 117, 109], [98, 111, 111, 108], [116, 101, 120, 116], [110, 117, 108, 108], [97, 110, 121], [117, 110, 107, 110, 111, 119, 110]]
def plainKind (x : ByteArray) : Nat := match plains.idxOf? x.data.toList with | some i => i + 1 | none => 0
def list {α : Type} (toks : List Tk) (e : List UInt8) (m : List α → M α) : Nat → List α → M (List α)
 | 0, _ => fail toks 1
 | f + 1, l => bnd (take toks e) fun b => if b then ret l else
     bnd (if l.length = 0 then ret () else need toks [44]) fun _ => bnd (m l) fun n => list toks e m f (l ++ [n])
def fields (toks : List Tk) (T : M Nat) : Nat → List (ByteArray × Nat) → M (List (ByteArray × Nat))
 | 0, _ => fail toks 1
 | f + 1, l => bnd (take toks [125]) fun b => if b then ret l else
     bnd (name toks (l.map Prod.fst)) fun s => bnd (need toks [58]) fun _ => bnd T fun n => bnd (need toks [59]) fun _ => fields toks T f (l ++ [(s, n)])
def object (toks : List Tk) (T : M Nat) : M Nat := bnd (fields toks T (toks.length + 1) []) fun l => newType ⟨7, l, [], 0⟩
def round (toks : List Tk) (T : M Nat) : M Nat :=
 bnd (list toks [41] (fun _ => T) (toks.length + 1) []) fun l => bnd (take toks [61, 62]) fun b =>
   if b then bnd T fun n => newType ⟨9, [], l, n⟩
   else if l.length = 1 then ret (l.headD 0) else fail toks 1
def single (toks : List Tk) (T : M Nat) : M Nat := fun s =>
 if (cur toks s.pos).kind = 2 ∧ plainKind (cur toks s.pos).text > 0 then bnd step (fun _ => newType ⟨plainKind (cur toks s.pos).text, [], [], 0⟩) s
 else bnd (take toks [123]) (fun b => if b then object toks T else
   bnd (take toks [91]) fun b => if b then bnd T fun n => bnd (need toks [93]) fun _ => newType ⟨8, [], [], n⟩ else
     bnd (need toks [40]) fun _ => round toks T) s
def bars (toks : List Tk) (S : M Nat) : Nat → List Nat → M (List Nat)
 | 0, _ => fail toks 1
 | f + 1, l => bnd (take toks [124]) fun b => if b then bnd S fun n => bars toks S f (l ++ [n]) else ret l
def union (toks : List Tk) (S : M Nat) : M Nat :=
 bnd S fun n => bnd (bars toks S (toks.length + 1) [n]) fun l => if l.length = 1 then ret (l.headD 0) else newType ⟨10, [], l, 0⟩
def typ (toks : List Tk) : Nat → M Nat
 | 0 => fail toks 8
 | r + 1 => union toks (single toks (typ toks r))
def typeOf (s : ByteArray) : Except Ft (List Ty) :=
 match Tok.scan s with
 | .error e => .error e
 | .ok toks => match typ toks 20 ⟨0, [], []⟩ with
   | .error e => .error e
   | .ok (_, st) => if (cur toks st.pos).kind ≠ 6 then .error (here toks 1 st.pos) else if st.ts.length > 300 then .error (2, 0) else .ok st.ts
def Adv {α : Type} (d c e : Int) (m : M α) : Prop := ∀ s a s', m s = .ok (a, s') → (s.pos : Int) + d ≤ s'.pos ∧ (s'.ts.length : Int) + s.pos + c ≤ s.ts.length + s'.pos ∧ (s'.ns.length : Int) + s.pos + e ≤ s.ns.length + s'.pos
theorem Adv.mono {α : Type} {d c e d' c' e' : Int} {m : M α} (h : Adv d c e m) (hd : d' ≤ d := by omega) (hc : c' ≤ c := by omega) (he : e' ≤ e := by omega) : Adv d' c' e' m := fun s a s' k => by have := h s a s' k; omega
theorem Adv.ret {α : Type} (a : α) : Adv 0 0 0 (ret a) := fun s b s' e => by cases e; simp
theorem Adv.fail {α : Type} (toks : List Tk) (n : Nat) (d c e : Int) : Adv d c e (fail (α := α) toks n) := fun s b s' h => by cases h
theorem Adv.step : Adv 1 1 1 step := fun s b s' e => by cases e; simp; omega
theorem Adv.need (toks : List Tk) (x : List UInt8) : Adv 1 1 1 (need toks x) := fun s b s' e => by
 unfold Ty.need at e
 split at e
 · cases e; simp; omega
 · cases e
theorem Adv.name (toks : List Tk) (met : List ByteArray) : Adv 1 1 1 (name toks met) := fun s b s' e => by
 unfold Ty.name at e
 split at e
 · cases e
 · split at e
   · cases e
   · cases e; simp; omega
theorem Adv.newType (t : Ty) : Adv 0 (-1) 0 (newType t) := fun s b s' e => by cases e; simp; omega
theorem Adv.bnd {α β : Type} {m : M α} {k : α → M β} {d c e d' c' e' : Int} (h : Adv d c e m) (g : ∀ a, Adv d' c' e' (k a)) : Adv (d + d') (c + c') (e + e') (Ty.bnd m k) := fun s b s' x => by
 obtain ⟨a, s1, e1, e2⟩ := bnd_inv x
 have := h _ _ _ e1
 have := g a _ _ _ e2
 omega
theorem Adv.take {β : Type} (toks : List Tk) (x : List UInt8) {k : Bool → M β} {d c e : Int} (h1 : Adv (d - 1) (c - 1) (e - 1) (k true)) (h2 : Adv d c e (k false)) : Adv d c e (Ty.bnd (Ty.take toks x) k) := fun s b s' y => by
 obtain ⟨a, s1, e1, e2⟩ := bnd_inv y
 unfold Ty.take at e1
 split at e1 <;> cases e1
 · have := h1 _ _ _ e2
   simp at this; omega
 · exact h2 _ _ _ e2
theorem Adv.ite {α : Type} {p : Prop} [Decidable p] {m n : M α} {d c e : Int} (h : p → Adv d c e m) (g : ¬ p → Adv d c e n) : Adv d c e (if p then m else n) := by
 split
 · exact h ‹_›
 · exact g ‹_›
theorem list_adv {α : Type} {toks : List Tk} {x : List UInt8} {m : List α → M α} (hm : ∀ l, Adv 1 0 0 (m l)) : ∀ f l, Adv 1 1 1 (list toks x m f l)
 | 0, _ => Adv.fail _ _ _ _ _
 | f + 1, l => by
   refine Adv.take _ _ ?_ ?_
   · simp only [if_true]; exact (Adv.ret l).mono
   · simp only [Bool.false_eq_true, if_false]
     exact ((Adv.ite (d := 0) (c := 0) (e := 0) (fun _ => Adv.ret ()) (fun _ => (Adv.need _ _).mono)).bnd fun _ => (hm l).bnd fun n => list_adv hm f (l ++ [n])).mono
theorem fields_adv {toks : List Tk} {T : M Nat} (hT : Adv 1 0 0 T) : ∀ f l, Adv 1 1 1 (fields toks T f l)
 | 0, _ => Adv.fail _ _ _ _ _
 | f + 1, l => by
   refine Adv.take _ _ ?_ ?_
   · simp only [if_true]; exact (Adv.ret l).mono
   · simp only [Bool.false_eq_true, if_false]
     exact ((Adv.name _ _).bnd fun s => (Adv.need _ _).bnd fun _ => hT.bnd fun n => (Adv.need _ _).bnd fun _ => fields_adv hT f (l ++ [(s, n)])).mono
theorem object_adv {toks : List Tk} {T : M Nat} (hT : Adv 1 0 0 T) : Adv 1 0 0 (object toks T) := ((fields_adv hT _ _).bnd fun _ => Adv.newType _).mono
theorem round_adv {toks : List Tk} {T : M Nat} (hT : Adv 1 0 0 T) : Adv 1 0 0 (round toks T) :=
 ((list_adv (fun _ => hT) _ _).bnd (d' := 0) (c' := 0) (e' := 0) fun l => Adv.take _ _ (by simp only [if_true]; exact (hT.bnd fun n => Adv.newType _).mono)
   (by simp only [Bool.false_eq_true, if_false]; exact Adv.ite (fun _ => Adv.ret _) (fun _ => Adv.fail _ _ _ _ _))).mono
theorem single_adv {toks : List Tk} {T : M Nat} (hT : Adv 1 0 0 T) : Adv 1 0 0 (single toks T) := fun s a s' h => by
 unfold single at h
 split at h
 · exact (Adv.step.bnd fun _ => Adv.newType _).mono (by omega) (by omega) (by omega) s a s' h
 · revert h
   refine (show Adv 1 0 0 _ from ?_) s a s'
   refine Adv.take _ _ ?_ ?_
   · simp only [if_true]; exact (object_adv hT).mono
   · simp only [Bool.false_eq_true, if_false]
     refine Adv.take _ _ ?_ ?_
     · simp only [if_true]; exact (hT.bnd fun n => (Adv.need _ _).bnd fun _ => Adv.newType _).mono
     · simp only [Bool.false_eq_true, if_false]; exact ((Adv.need _ _).bnd fun _ => round_adv hT).mono
theorem bars_adv {toks : List Tk} {S : M Nat} (hS : Adv 1 0 0 S) : ∀ f l s l' s', bars toks S f l s = .ok (l', s') → l.length ≤ l'.length ∧ s.pos ≤ s'.pos ∧ s'.ts.length + s.pos + l'.length ≤ s.ts.length + s'.pos + l.length ∧ s'.ns.length + s.pos + l'.length ≤ s.ns.length + s'.pos + l.length
 | 0, _, s, l', s', h => by cases h
 | f + 1, l, s, l', s', h => by
   obtain ⟨b, s1, e1, e2⟩ := bnd_inv h
   unfold Ty.take at e1
   split at e1 <;> cases e1
   · simp only [if_true] at e2
     obtain ⟨n, s2, e3, e4⟩ := bnd_inv e2
     have a1 := hS _ _ _ e3
     have a2 := bars_adv hS f _ _ _ _ e4
     simp at a1 a2
     omega
   · simp only [Bool.false_eq_true, if_false] at e2
     cases e2; simp
theorem union_adv {toks : List Tk} {S : M Nat} (hS : Adv 1 0 0 S) : Adv 1 0 0 (union toks S) := fun s a s' h => by
 obtain ⟨n, s1, e1, e2⟩ := bnd_inv h
 obtain ⟨l, s2, e3, e4⟩ := bnd_inv e2
 have a1 := hS _ _ _ e1
 have a2 := bars_adv hS _ _ _ _ _ e3
 simp at a2
 split at e4
 · cases e4; omega
 · cases e4; simp; omega
theorem typ_adv (toks : List Tk) : ∀ r, Adv 1 0 0 (typ toks r)
 | 0 => Adv.fail _ _ _ _ _
 | r + 1 => union_adv (single_adv (typ_adv toks r))
end Ty
end
section
open Go Go.RowKit
theorem number_any (s : ByteArray) (k : Nat) (w : World) (hs : s.size ≤ 4000) (hk : k < s.size) {R : Ending → World → Prop}
   (hR : ∀ w', Below w.heap.size w w' → R (.returned (.tuple #[tkVal ⟨3, s.extract k (Tok.stop Tok.isDigit s k), k⟩,
     .bool (decide (Tok.stop Tok.isDigit s k - k ≤ 9) && (decide (Tok.stop Tok.isDigit s k - k = 1) || !decide (Tok.byte s k = 48)))])) w')
   (hd : Tok.isDigit (Tok.byte s k) = true) :
   Calls Tryz.prog 203 #[.string s, .int .i64 k] w R := by
 have HRUN := qh (@run_any 202 Tok.isDigit Tryz.call202 isDigit_any s k hs (by omega))
 have HR := qh hR
 clear hR
 have hle := Tok.stop_le Tok.isDigit s k (by omega)
 have hgt : k < Tok.stop Tok.isDigit s k := by
   have := Tok.stop_ge Tok.isDigit s (k + 1)
   rw [Tok.stop_step hk (by rw [← Tok.byte_eq]; exact hd)] at this
   omega
 clear hd
 generalize Tok.stop Tok.isDigit s k = e at *
 have hx : e - k ≤ 9 ∧ e - k = 1 ∨ e - k ≤ 9 ∧ ¬ e - k = 1 ∨ ¬ e - k ≤ 9 := by omega
 rcases hx with ⟨h9, h1⟩ | ⟨h9, h1⟩ | h9
 · have hb : decide (((e - k : Nat) : Int) ≤ 9) = true := by simp; omega
   have hb1 : (((e - k : Nat) : Int) == 1) = true := by simp; omega
   go_enter Tryz.func203, Tryz.ntmps203
   go_wp2_with (go_at_call 274; refine HRUN.out _ _ rfl ?_)
   go_region
   go_wp2
   refine bodyPost_ret ?_ rfl (HR.out _ ?_)
   · simp [results, Tryz.results203, go_sem, tkVal, h1]
   · exact ((((Below.refl _ _).alloc (Nat.le_refl _) _).alloc (by simp) _).drew)
 · have hb : decide (((e - k : Nat) : Int) ≤ 9) = true := by simp; omega
   have hb1 : (((e - k : Nat) : Int) == 1) = false := by simp; omega
   have h0 : 0 < e - k := by omega
   go_enter Tryz.func203, Tryz.ntmps203
   go_wp2_with (go_at_call 274; refine HRUN.out _ _ rfl ?_)
   go_region
   go_wp2
   refine bodyPost_ret ?_ rfl (HR.out _ ?_)
   · simp [results, Tryz.results203, go_sem, tkVal, h9, h1]
     rw [Tok.byte_extract, Bool.eq_iff_iff]
     simp [Tok.is48]
   · exact ((((Below.refl _ _).alloc (Nat.le_refl _) _).alloc (by simp) _).drew)
 · have hb : decide (((e - k : Nat) : Int) ≤ 9) = false := by simp; omega
   go_enter Tryz.func203, Tryz.ntmps203
   go_wp2_with (go_at_call 274; refine HRUN.out _ _ rfl ?_)
   go_region
   go_wp2
   refine bodyPost_ret ?_ rfl (HR.out _ ?_)
   · simp [results, Tryz.results203, go_sem, tkVal, h9]
   · exact ((((Below.refl _ _).alloc (Nat.le_refl _) _).alloc (by simp) _).drew)
theorem text_any (s : ByteArray) (k : Nat) (w : World) (hs : s.size ≤ 4000) (hk : k < s.size) {R : Ending → World → Prop}
   (hR : ∀ w', Below w.heap.size w w' → R (.returned (.tuple #[tkVal ⟨4, s.extract (k + 1) (Tok.stop Tok.isPlain s (k + 1)), k⟩,
     .bool (decide (Tok.stop Tok.isPlain s (k + 1) - (k + 1) ≤ 30) && (decide (Tok.stop Tok.isPlain s (k + 1) < s.size) && decide (Tok.byte s (Tok.stop Tok.isPlain s (k + 1)) = 34)))])) w') :
   Calls Tryz.prog 204 #[.string s, .int .i64 k] w R := by
 have HRUN := qh (@run_any 277 Tok.isPlain Tryz.call277 text1_any s (k + 1) hs (by omega))
 have HR := qh hR
 clear hR
 have hle := Tok.stop_le Tok.isPlain s (k + 1) (by omega)
 have hge := Tok.stop_ge Tok.isPlain s (k + 1)
 generalize Tok.stop Tok.isPlain s (k + 1) = e at *
 have hx : e - (k + 1) ≤ 30 ∧ e < s.size ∨ e - (k + 1) ≤ 30 ∧ ¬ e < s.size ∨ ¬ e - (k + 1) ≤ 30 := by omega
 rcases hx with ⟨h9, h1⟩ | ⟨h9, h1⟩ | h9
 · have hb : decide (((e - (k + 1) : Nat) : Int) ≤ 30) = true := by simp; omega
   have hl : decide ((e : Int) < (s.size : Int)) = true := by simp; omega
   go_enter Tryz.func204, Tryz.ntmps204
   go_wp2_with (go_at_call 274; refine HRUN.out _ _ (by omega) ?_)
   rw [show (k : Int) + 1 + ((e - (k + 1) : Nat) : Int) = (e : Int) from by omega]
   go_region
   go_wp2
   refine bodyPost_ret ?_ rfl (HR.out _ ?_)
   · simp [results, Tryz.results204, go_sem, tkVal]
     rw [← Tok.byte_eq s e h1, Bool.eq_iff_iff]
     simp [Tok.is34, h1]; omega
   · exact ((((Below.refl _ _).alloc (Nat.le_refl _) _).alloc (by simp) _).drew)
 · have hb : decide (((e - (k + 1) : Nat) : Int) ≤ 30) = true := by simp; omega
   have hl : decide ((e : Int) < (s.size : Int)) = false := by simp; omega
   go_enter Tryz.func204, Tryz.ntmps204
   go_wp2_with (go_at_call 274; refine HRUN.out _ _ (by omega) ?_)
   rw [show (k : Int) + 1 + ((e - (k + 1) : Nat) : Int) = (e : Int) from by omega]
   go_region
   go_wp2
   refine bodyPost_ret ?_ rfl (HR.out _ ?_)
   · simp [results, Tryz.results204, go_sem, tkVal, h1]
   · exact ((((Below.refl _ _).alloc (Nat.le_refl _) _).alloc (by simp) _).drew)
 · have hb : decide (((e - (k + 1) : Nat) : Int) ≤ 30) = false := by simp; omega
   go_enter Tryz.func204, Tryz.ntmps204
   go_wp2_with (go_at_call 274; refine HRUN.out _ _ (by omega) ?_)
   rw [show (k : Int) + 1 + ((e - (k + 1) : Nat) : Int) = (e : Int) from by omega]
   go_region
   go_wp2
   refine bodyPost_ret ?_ rfl (HR.out _ ?_)
   · simp [results, Tryz.results204, go_sem, tkVal, h9]
   · exact ((((Below.refl _ _).alloc (Nat.le_refl _) _).alloc (by simp) _).drew)
end
section
open Go Go.RowKit
theorem sign_fin : ∀ n : Fin 256, decide (0 ≤ Lib.indexByte [40, 41, 123, 125, 91, 93, 44, 59, 58, 46, 61, 60, 43, 45, 42, 33, 124] (UInt8.ofNat n.val)) = Tok.isSign (UInt8.ofNat n.val) := by decide +kernel
theorem sign_byte (c : UInt8) : decide (0 ≤ Lib.indexByte [40, 41, 123, 125, 91, 93, 44, 59, 58, 46, 61, 60, 43, 45, 42, 33, 124] c) = Tok.isSign c := by
 have h := sign_fin ⟨c.toNat, c.toNat_lt⟩
 simpa using h
theorem sign_any (s : ByteArray) (k : Nat) (w : World) (hs : s.size ≤ 4000) (hk : k < s.size) {R : Ending → World → Prop}
   (hR : ∀ w', Below w.heap.size w w' → R (.returned (.tuple #[tkVal (if Tok.two s k then ⟨5, s.extract k (k + 2), k⟩ else ⟨5, s.extract k (k + 1), k⟩), .bool (if Tok.two s k then true else Tok.isSign (Tok.byte s k))])) w') :
   Calls Tryz.prog 205 #[.string s, .int .i64 k] w R := by
 have HR := qh hR
 clear hR
 have hx : ∃ p1 p2 : Bool, p1 = Lib.hasPrefix (List.take (s.size - k) (List.drop k s.data.toList)) [61, 61] ∧ p2 = Lib.hasPrefix (List.take (s.size - k) (List.drop k s.data.toList)) [61, 62] := ⟨_, _, rfl, rfl⟩
 obtain ⟨p1, p2, hp1, hp2⟩ := hx
 have htwo : Tok.two s k = (p1 || p2) := by rw [hp1, hp2, Tok.take_drop_size, Tok.two_eq]; rfl
 have hex1 : p1 = true → s.extract k (k + 2) = ⟨#[61, 61]⟩ := fun h => Tok.extract2 s k 61 61 (by rw [← h, hp1, Tok.take_drop_size]; rfl)
 have hex2 : p2 = true → s.extract k (k + 2) = ⟨#[61, 62]⟩ := fun h => Tok.extract2 s k 61 62 (by rw [← h, hp2, Tok.take_drop_size]; rfl)
 have HP1 := qh hp1
 have HP2 := qh hp2
 have HT := qh htwo
 have HE1 := qh hex1
 have HE2 := qh hex2
 clear hp1 hp2 htwo hex1 hex2
 go_enter Tryz.func205, Tryz.ntmps205
 go_wp2_with fail
 go_loop [10] (fun i => ∃ n : Nat, n ≤ 2 ∧ i = .int .i64 n ∧ (1 ≤ n → p1 = false) ∧ (2 ≤ n → p2 = false)) (fun i => 2 - (intOf i).toNat)
 case atStart => exact ⟨0, by omega, rfl, by omega, by omega⟩
 case round =>
   obtain ⟨n, hn, rfl, h1, h2⟩ := hrel
   have hn' : n = 0 ∨ n = 1 ∨ n = 2 := by omega
   rcases hn' with rfl | rfl | rfl
   · go_wp2_with (go_at_call 124; refine (Tryz.strings_HasPrefix _ _ _).mono ?_; rintro e w' ⟨rfl, rfl⟩)
     · have hp : p1 = true := by rw [HP1.out]; assumption
       refine bodyPost_ret ?_ rfl (HR.out _ ?_)
       · simp [results, Tryz.results205, go_sem, tkVal, HT.out, hp, HE1.out hp]
       · exact ((Below.refl _ _).alloc (Nat.le_refl _) _).alloc (by simp) _
     · have hp : p1 = false := by rw [HP1.out]; assumption
       refine ⟨⟨1, by omega, rfl, fun _ => hp, by omega⟩, by simp [intOf]⟩
   · go_wp2_with (go_at_call 124; refine (Tryz.strings_HasPrefix _ _ _).mono ?_; rintro e w' ⟨rfl, rfl⟩)
     · have hp : p2 = true := by rw [HP2.out]; assumption
       refine bodyPost_ret ?_ rfl (HR.out _ ?_)
       · simp [results, Tryz.results205, go_sem, tkVal, HT.out, hp, HE2.out hp]
       · exact ((Below.refl _ _).alloc (Nat.le_refl _) _).alloc (by simp) _
     · have hp : p2 = false := by rw [HP2.out]; assumption
       refine ⟨⟨2, by omega, rfl, fun _ => h1 (by omega), fun _ => hp⟩, by simp [intOf]⟩
   · have e1 := h1 (by omega)
     have e2 := h2 (by omega)
     clear h1 h2 hn
     subst e1 e2
     go_wp2_with fail
     have w1 : IntKind.i64.wrap ((k : Int) + 1) = (k : Int) + 1 := IntWalk.i64_in _ (by omega)
     have w2 : 0 ≤ (k : Int) + 1 := by omega
     have w3 : ((k : Int) + 1).toNat = k + 1 := by omega
     have w4 : (k : Int) + 1 ≤ (s.size : Int) := by omega
     have w5 : ¬ (s.size : Int) < (k : Int) + 1 := by omega
     have w6 : k ≤ k + 1 := by omega
     have w7 : k + 1 ≤ s.size := by omega
     have hsl : ∀ W : World, (Instr.slice 9 (.string s) (some (.int .i64 (k : Int))) (some (.int .i64 ((k : Int) + 1))) none).run Tryz.prog W = .ok (.string (s.extract k (k + 1))) W := by
       intro W
       simp [Instr.slice, Instr.sliceBounds, Instr.sliceBound, asIntOf, w2, w3, w4, go_sem]
     clear w4 w5 w6 w7
     go_region_with (go_at_call 278; refine (Tryz.strings_IndexByte _ _ _).mono ?_; rintro e w' ⟨rfl, rfl⟩)
     go_wp2
     refine bodyPost_ret ?_ rfl (HR.out _ ?_)
     · simp [results, Tryz.results205, go_sem, tkVal, HT.out, Act.put, -Bool.or_self]
       rw [← Tok.byte_eq s k hk]; exact sign_byte _
     · exact ((((Below.refl _ _).alloc (Nat.le_refl _) _).alloc (by simp) _).drew)
end
section
open Go Go.RowKit
theorem below_alloc (w : World) (o : Obj) : Below w.heap.size w (w.alloc o) := (Below.refl _ _).alloc (Nat.le_refl _) _
theorem cell_of_block {w : World} {b : Nat} {cs : Array Value} {t : TypeId} {fz : Nat × Nat} (h : w.heap[b]? = some (.cells cs t fz)) (o : Nat) : w.cell? ⟨b, o, none⟩ = cs[o]? := by
 simp [World.cell?, h]
theorem frozen_of_block {w : World} {b : Nat} {cs : Array Value} {t : TypeId} (h : w.heap[b]? = some (.cells cs t (0, 0))) (o : Nat) : w.frozen? ⟨b, o, none⟩ = false := by
 simp [World.frozen?, h]
theorem q34 (c : UInt8) (b : Bool) (h : decide (c = 34) = b) : ((c.toNat : Int) == 34) = b := by
 rw [← h, Bool.eq_iff_iff]; simp [Tok.is34]
theorem one_name (s : ByteArray) (k kd : Nat) (tx : ByteArray) (ok : Bool) (w : World) (_hs : s.size ≤ 4000) (hk : k < s.size) (_ht : tx.size ≤ 4000)
   (hN : ∀ (w1 : World) (R : Ending → World → Prop), Below w.heap.size w w1 → (∀ w', Below w1.heap.size w1 w' → R (.returned (.tuple #[tkVal ⟨kd, tx, k⟩, .bool ok])) w') → Calls Tryz.prog 201 #[.string s, .int .i64 k] w1 R)
   (hl : Tok.isLetter (Tok.byte s k) = true) {R : Ending → World → Prop}
   (hR : ∀ w', Below w.heap.size w w' → R (.returned (.tuple #[tkVal ⟨kd, tx, k⟩, .int .i64 tx.size, .bool ok])) w') :
   Calls Tryz.prog 129 #[.string s, .int .i64 k] w R := by
 have HR := qh hR
 have HN := qh hN
 rw [Tok.byte_eq s k hk] at hl
 have HL := qh hl
 clear hR hl hN
 go_enter Tryz.func129, Tryz.ntmps129
 go_wp2_with fail
 refine isLetter_any _ _ ?_; rw [HL.out]
 go_wp2_with fail
 refine HN.out _ _ (below_alloc _ _) (fun w1 hb1 => ?_)
 dsimp only [tkVal]
 have hb2 : Below w.heap.size w w1 := (below_alloc _ _).trans (hb1.mono (by simp))
 have hz : w.heap.size < w1.heap.size := by have := hb1.size; simp at this; omega
 have hc : w1.heap[w.heap.size]? = some (.cells #[.int .i64 0, .string ⟨#[]⟩, .int .i64 0] 138 (0, 0)) := by
   rw [hb1.block _ (by simp)]; exact heap_alloc_new w _
 have c0 : w1.cell? ⟨w.heap.size, 0, none⟩ = some (.int .i64 0) := by rw [cell_of_block hc]; rfl
 have c1 : w1.cell? ⟨w.heap.size, 1, none⟩ = some (.string ⟨#[]⟩) := by rw [cell_of_block hc]; rfl
 have c2 : w1.cell? ⟨w.heap.size, 2, none⟩ = some (.int .i64 0) := by rw [cell_of_block hc]; rfl
 have f0 : ∀ o, w1.frozen? ⟨w.heap.size, o, none⟩ = false := fun o => frozen_of_block hc o
 have HB2 := qh hb2
 clear hb1 hc hb2
 go_wp2_with fail
 go_region
 go_wp2_with fail
 refine bodyPost_ret ?_ rfl (HR.out _ ?_)
 · simp [results, Tryz.results129, go_sem, tkVal, c0, c1, c2, hz]
 · repeat' (first | exact HB2.out | apply Below.drew | apply Below.setCell | apply Below.alloc | (simp; done) | (simp; omega))
theorem one_number (s : ByteArray) (k kd : Nat) (tx : ByteArray) (ok : Bool) (w : World) (_hs : s.size ≤ 4000) (hk : k < s.size) (_ht : tx.size ≤ 4000)
   (hN : ∀ (w1 : World) (R : Ending → World → Prop), Below w.heap.size w w1 → (∀ w', Below w1.heap.size w1 w' → R (.returned (.tuple #[tkVal ⟨kd, tx, k⟩, .bool ok])) w') → Calls Tryz.prog 203 #[.string s, .int .i64 k] w1 R)
   (hl : Tok.isLetter (Tok.byte s k) = false ∧ Tok.isDigit (Tok.byte s k) = true) {R : Ending → World → Prop}
   (hR : ∀ w', Below w.heap.size w w' → R (.returned (.tuple #[tkVal ⟨kd, tx, k⟩, .int .i64 tx.size, .bool ok])) w') :
   Calls Tryz.prog 129 #[.string s, .int .i64 k] w R := by
 have HR := qh hR
 have HN := qh hN
 rw [Tok.byte_eq s k hk] at hl
 have HL := qh hl
 clear hR hl hN
 go_enter Tryz.func129, Tryz.ntmps129
 go_wp2_with fail
 refine isLetter_any _ _ ?_; rw [HL.out.1]; go_wp2_with fail; refine isDigit_any _ _ ?_; rw [HL.out.2]
 go_wp2_with fail
 refine HN.out _ _ (below_alloc _ _) (fun w1 hb1 => ?_)
 dsimp only [tkVal]
 have hb2 : Below w.heap.size w w1 := (below_alloc _ _).trans (hb1.mono (by simp))
 have hz : w.heap.size < w1.heap.size := by have := hb1.size; simp at this; omega
 have hc : w1.heap[w.heap.size]? = some (.cells #[.int .i64 0, .string ⟨#[]⟩, .int .i64 0] 138 (0, 0)) := by
   rw [hb1.block _ (by simp)]; exact heap_alloc_new w _
 have c0 : w1.cell? ⟨w.heap.size, 0, none⟩ = some (.int .i64 0) := by rw [cell_of_block hc]; rfl
 have c1 : w1.cell? ⟨w.heap.size, 1, none⟩ = some (.string ⟨#[]⟩) := by rw [cell_of_block hc]; rfl
 have c2 : w1.cell? ⟨w.heap.size, 2, none⟩ = some (.int .i64 0) := by rw [cell_of_block hc]; rfl
 have f0 : ∀ o, w1.frozen? ⟨w.heap.size, o, none⟩ = false := fun o => frozen_of_block hc o
 have HB2 := qh hb2
 clear hb1 hc hb2
 go_wp2_with fail
 go_region
 go_wp2_with fail
 refine bodyPost_ret ?_ rfl (HR.out _ ?_)
 · simp [results, Tryz.results129, go_sem, tkVal, c0, c1, c2, hz]
 · repeat' (first | exact HB2.out | apply Below.drew | apply Below.setCell | apply Below.alloc | (simp; done) | (simp; omega))
theorem one_text (s : ByteArray) (k kd : Nat) (tx : ByteArray) (ok : Bool) (w : World) (_hs : s.size ≤ 4000) (hk : k < s.size) (_ht : tx.size ≤ 4000)
   (hN : ∀ (w1 : World) (R : Ending → World → Prop), Below w.heap.size w w1 → (∀ w', Below w1.heap.size w1 w' → R (.returned (.tuple #[tkVal ⟨kd, tx, k⟩, .bool ok])) w') → Calls Tryz.prog 204 #[.string s, .int .i64 k] w1 R)
   (hl : Tok.isLetter (Tok.byte s k) = false ∧ Tok.isDigit (Tok.byte s k) = false ∧ decide (Tok.byte s k = 34) = true) {R : Ending → World → Prop}
   (hR : ∀ w', Below w.heap.size w w' → R (.returned (.tuple #[tkVal ⟨kd, tx, k⟩, .int .i64 (tx.size + 2 : Nat), .bool ok])) w') :
   Calls Tryz.prog 129 #[.string s, .int .i64 k] w R := by
 have HR := qh hR
 have HN := qh hN
 rw [Tok.byte_eq s k hk] at hl
 have HL := qh hl
 clear hR hl hN
 go_enter Tryz.func129, Tryz.ntmps129
 go_wp2_with fail
 have hq := q34 _ _ HL.out.2.2; refine isLetter_any _ _ ?_; rw [HL.out.1]; go_wp2_with fail; refine isDigit_any _ _ ?_; rw [HL.out.2.1]
 go_wp2_with fail
 refine HN.out _ _ (below_alloc _ _) (fun w1 hb1 => ?_)
 dsimp only [tkVal]
 have hb2 : Below w.heap.size w w1 := (below_alloc _ _).trans (hb1.mono (by simp))
 have hz : w.heap.size < w1.heap.size := by have := hb1.size; simp at this; omega
 have hc : w1.heap[w.heap.size]? = some (.cells #[.int .i64 0, .string ⟨#[]⟩, .int .i64 0] 138 (0, 0)) := by
   rw [hb1.block _ (by simp)]; exact heap_alloc_new w _
 have c0 : w1.cell? ⟨w.heap.size, 0, none⟩ = some (.int .i64 0) := by rw [cell_of_block hc]; rfl
 have c1 : w1.cell? ⟨w.heap.size, 1, none⟩ = some (.string ⟨#[]⟩) := by rw [cell_of_block hc]; rfl
 have c2 : w1.cell? ⟨w.heap.size, 2, none⟩ = some (.int .i64 0) := by rw [cell_of_block hc]; rfl
 have f0 : ∀ o, w1.frozen? ⟨w.heap.size, o, none⟩ = false := fun o => frozen_of_block hc o
 have HB2 := qh hb2
 clear hb1 hc hb2
 go_wp2_with fail
 go_region
 go_wp2_with fail
 refine bodyPost_ret ?_ rfl (HR.out _ ?_)
 · simp [results, Tryz.results129, go_sem, tkVal, c0, c1, c2, hz]
 · repeat' (first | exact HB2.out | apply Below.drew | apply Below.setCell | apply Below.alloc | (simp; done) | (simp; omega))
theorem one_sign (s : ByteArray) (k kd : Nat) (tx : ByteArray) (ok : Bool) (w : World) (_hs : s.size ≤ 4000) (hk : k < s.size) (_ht : tx.size ≤ 4000)
   (hN : ∀ (w1 : World) (R : Ending → World → Prop), Below w.heap.size w w1 → (∀ w', Below w1.heap.size w1 w' → R (.returned (.tuple #[tkVal ⟨kd, tx, k⟩, .bool ok])) w') → Calls Tryz.prog 205 #[.string s, .int .i64 k] w1 R)
   (hl : Tok.isLetter (Tok.byte s k) = false ∧ Tok.isDigit (Tok.byte s k) = false ∧ decide (Tok.byte s k = 34) = false) {R : Ending → World → Prop}
   (hR : ∀ w', Below w.heap.size w w' → R (.returned (.tuple #[tkVal ⟨kd, tx, k⟩, .int .i64 tx.size, .bool ok])) w') :
   Calls Tryz.prog 129 #[.string s, .int .i64 k] w R := by
 have HR := qh hR
 have HN := qh hN
 rw [Tok.byte_eq s k hk] at hl
 have HL := qh hl
 clear hR hl hN
 go_enter Tryz.func129, Tryz.ntmps129
 go_wp2_with fail
 have hq := q34 _ _ HL.out.2.2; refine isLetter_any _ _ ?_; rw [HL.out.1]; go_wp2_with fail; refine isDigit_any _ _ ?_; rw [HL.out.2.1]
 go_wp2_with fail
 refine HN.out _ _ (below_alloc _ _) (fun w1 hb1 => ?_)
 dsimp only [tkVal]
 have hb2 : Below w.heap.size w w1 := (below_alloc _ _).trans (hb1.mono (by simp))
 have hz : w.heap.size < w1.heap.size := by have := hb1.size; simp at this; omega
 have hc : w1.heap[w.heap.size]? = some (.cells #[.int .i64 0, .string ⟨#[]⟩, .int .i64 0] 138 (0, 0)) := by
   rw [hb1.block _ (by simp)]; exact heap_alloc_new w _
 have c0 : w1.cell? ⟨w.heap.size, 0, none⟩ = some (.int .i64 0) := by rw [cell_of_block hc]; rfl
 have c1 : w1.cell? ⟨w.heap.size, 1, none⟩ = some (.string ⟨#[]⟩) := by rw [cell_of_block hc]; rfl
 have c2 : w1.cell? ⟨w.heap.size, 2, none⟩ = some (.int .i64 0) := by rw [cell_of_block hc]; rfl
 have f0 : ∀ o, w1.frozen? ⟨w.heap.size, o, none⟩ = false := fun o => frozen_of_block hc o
 have HB2 := qh hb2
 clear hb1 hc hb2
 go_wp2_with fail
 go_region
 go_wp2_with fail
 refine bodyPost_ret ?_ rfl (HR.out _ ?_)
 · simp [results, Tryz.results129, go_sem, tkVal, c0, c1, c2, hz]
 · repeat' (first | exact HB2.out | apply Below.drew | apply Below.setCell | apply Below.alloc | (simp; done) | (simp; omega))
end
section
open Go Go.RowKit
theorem size_extract_le (s : ByteArray) (a b : Nat) : (s.extract a b).size ≤ s.size := by simp; omega
theorem one_any (s : ByteArray) (k : Nat) (w : World) (hw : Words w) (hs : s.size ≤ 4000) (hk : k < s.size) {R : Ending → World → Prop}
   (hR : ∀ w', Below w.heap.size w w' → R (.returned (.tuple #[tkVal (Tok.next s k).1, .int .i64 (Tok.next s k).2.1, .bool (Tok.next s k).2.2])) w') :
   Calls Tryz.prog 129 #[.string s, .int .i64 k] w R := by
 unfold Tok.next at hR
 cases hl : Tok.isLetter (Tok.byte s k)
 · cases hd : Tok.isDigit (Tok.byte s k)
   · cases hq : decide (Tok.byte s k = 34)
     · have h34 : ¬ Tok.byte s k = 34 := of_decide_eq_false hq
       cases ht : Tok.two s k
       · simp only [hl, hd, h34, ht, Bool.false_eq_true, if_false] at hR
         have e : ((s.extract k (k + 1)).size : Int) = ((1 : Nat) : Int) := by congr 1; simp; omega
         refine one_sign s k 5 (s.extract k (k + 1)) (Tok.isSign (Tok.byte s k)) w hs hk (Nat.le_trans (size_extract_le _ _ _) hs) (fun w1 R hb h => ?_) ⟨hl, hd, hq⟩ (fun w' hb => ?_)
         · exact sign_any s k w1 hs hk (by simpa [ht] using h)
         · rw [e]; exact hR w' hb
       · simp only [hl, hd, h34, ht, Bool.false_eq_true, if_false, if_true] at hR
         have e : ((s.extract k (k + 2)).size : Int) = ((2 : Nat) : Int) := by have := Tok.two_size s k ht; congr 1; simp; omega
         refine one_sign s k 5 (s.extract k (k + 2)) true w hs hk (Nat.le_trans (size_extract_le _ _ _) hs) (fun w1 R hb h => ?_) ⟨hl, hd, hq⟩ (fun w' hb => ?_)
         · exact sign_any s k w1 hs hk (by simpa [ht] using h)
         · rw [e]; exact hR w' hb
     · have h34 : Tok.byte s k = 34 := of_decide_eq_true hq
       simp only [h34, if_true] at hR
       have hle := Tok.stop_le Tok.isPlain s (k + 1) (by omega)
       have hge := Tok.stop_ge Tok.isPlain s (k + 1)
       have e : (((s.extract (k + 1) (Tok.stop Tok.isPlain s (k + 1))).size + 2 : Nat) : Int) = ((Tok.stop Tok.isPlain s (k + 1) - k + 1 : Nat) : Int) := by congr 1; simp; omega
       refine one_text s k 4 (s.extract (k + 1) (Tok.stop Tok.isPlain s (k + 1))) (decide (Tok.stop Tok.isPlain s (k + 1) - (k + 1) ≤ 30) && (decide (Tok.stop Tok.isPlain s (k + 1) < s.size) && decide (Tok.byte s (Tok.stop Tok.isPlain s (k + 1)) = 34))) w hs hk (Nat.le_trans (size_extract_le _ _ _) hs) (fun w1 R hb h => ?_) ⟨hl, hd, hq⟩ (fun w' hb => ?_)
       · exact text_any s k w1 hs hk h
       · rw [e]; exact hR w' hb
   · simp only [hl, hd, Bool.false_eq_true, if_false, if_true] at hR
     have hle := Tok.stop_le Tok.isDigit s k (by omega)
     have hge := Tok.stop_ge Tok.isDigit s k
     have e : ((s.extract k (Tok.stop Tok.isDigit s k)).size : Int) = ((Tok.stop Tok.isDigit s k - k : Nat) : Int) := by congr 1; simp; omega
     refine one_number s k 3 (s.extract k (Tok.stop Tok.isDigit s k)) (decide (Tok.stop Tok.isDigit s k - k ≤ 9) && (decide (Tok.stop Tok.isDigit s k - k = 1) || !decide (Tok.byte s k = 48))) w hs hk (Nat.le_trans (size_extract_le _ _ _) hs) (fun w1 R hb h => ?_) ⟨hl, hd⟩ (fun w' hb => ?_)
     · exact number_any s k w1 hs hk h hd
     · rw [e]; exact hR w' hb
 · simp only [hl, if_true] at hR
   have hle := Tok.stop_le Tok.isPart s k (by omega)
   have hge := Tok.stop_ge Tok.isPart s k
   have e : ((s.extract k (Tok.stop Tok.isPart s k)).size : Int) = ((Tok.stop Tok.isPart s k - k : Nat) : Int) := by congr 1; simp; omega
   refine one_name s k (if Tok.isWord (s.extract k (Tok.stop Tok.isPart s k)) then 2 else 1) (s.extract k (Tok.stop Tok.isPart s k)) (decide (Tok.stop Tok.isPart s k - k ≤ 20)) w hs hk (Nat.le_trans (size_extract_le _ _ _) hs) (fun w1 R hb h => ?_) hl (fun w' hb => ?_)
   · exact name_any s k w1 (hw.below hb) hs hk h
   · rw [e]; exact hR w' hb
end
end Go.Proofs.YtdlbhiaceheffabGreatDoor
