/- Parts of memory, each with blocks of its own: a world bears a list of parts. -/
import Derived.Below
import Derived.OneCell
import Derived.Deep.AppendLies
import Derived.Lib.Hide
import Derived.BigRegion
import Derived.Deep.RegionLaw
import Derived.Deep.RegionLawGrows
import Derived.WalkLawsBesides
import Derived.Deep.RegionHeldLaw
import Derived.Test.YtdlbhiaceheffabGreatDoorY07
set_option linter.all false
set_option maxRecDepth 100000
set_option maxHeartbeats 1000000
namespace Go.Proofs.YtdlbhiaceheffabGreatDoor
section
open Go Go.RowKit
namespace Prt
abbrev Hp := Nat → Option Obj
def le (a b : Hp) : Prop := ∀ k o, a k = some o → b k = some o
def dis (a b : Hp) : Prop := ∀ k, a k = none ∨ b k = none
def uni (a b : Hp) : Hp := fun k => match a k with | some o => some o | none => b k
theorem le_refl (a : Hp) : le a a := fun _ _ h => h
theorem le_trans {a b c : Hp} (h : le a b) (k : le b c) : le a c := fun _ _ e => k _ _ (h _ _ e)
theorem bQ {a b : Hp} (h : dis a b) : dis b a := fun k => (h k).symm
theorem eH {a b c : Hp} (h : dis a b) (hc : le c b) : dis a c := fun k => by
 rcases h k with h | h
 · exact .inl h
 · right
   cases e : c k with
   | none => rfl
   | some o => rw [hc _ _ e] at h; cases h
theorem iU (a b : Hp) : le a (uni a b) := fun k o h => by simp [uni, h]
theorem iR {a b : Hp} (h : dis a b) : le b (uni a b) := fun k o e => by
 rcases h k with h | h
 · simp [uni, h, e]
 · rw [h] at e; cases e
theorem jV {a b h : Hp} (ha : le a h) (hb : le b h) : le (uni a b) h := fun k o e => by
 unfold uni at e
 split at e
 · rename_i x hx; cases e; exact ha _ _ hx
 · exact hb _ _ e
theorem jD {a b c : Hp} (ha : dis c a) (hb : dis c b) : dis c (uni a b) := fun k => by
 rcases ha k with h | h
 · exact .inl h
 · rcases hb k with h2 | h2
   · exact .inl h2
   · right; simp [uni, h, h2]
abbrev As := Hp → Prop
def blk (b : Nat) (o : Obj) : As := fun h => h b = some o
def pur (p : Prop) : As := fun _ => p
def exs {α : Type} (P : α → As) : As := fun h => ∃ x, P x h
def star (P Q : As) : As := fun h => ∃ a b, dis a b ∧ le a h ∧ le b h ∧ P a ∧ Q b
def ah : List As → As
 | [] => fun _ => True
 | P :: L => star P (ah L)
def hp (w : World) : Hp := fun k => w.heap[k]?
theorem fA {L : List As} {a h : Hp} (hs : ah L a) (hl : le a h) : ah L h := by
 cases L with
 | nil => trivial
 | cons P L =>
   obtain ⟨x, y, h1, h2, h3, h4, h5⟩ := hs
   exact ⟨x, y, h1, le_trans h2 hl, le_trans h3 hl, h4, h5⟩
theorem dP {P : As} : ∀ {L : List As} {i : Nat} {h : Hp}, ah L h → L[i]? = some P → ∃ a b, dis a b ∧ le a h ∧ le b h ∧ P a ∧ ah (L.eraseIdx i) b := by
 intro L
 induction L with
 | nil => intro i h _ hi; simp at hi
 | cons Q L ih =>
   intro i h hs hi
   obtain ⟨x, y, h1, h2, h3, h4, h5⟩ := hs
   cases i with
   | zero =>
     simp at hi; subst hi
     exact ⟨x, y, h1, h2, h3, h4, h5⟩
   | succ i =>
     simp at hi
     obtain ⟨a, b, g1, g2, g3, g4, g5⟩ := ih h5 hi
     have hxa : dis x a := eH h1 g2
     have hxb : dis x b := eH h1 g3
     refine ⟨a, uni x b, jD (bQ hxa) g1, le_trans g2 h3, jV h2 (le_trans g3 h3), g4, ?_⟩
     exact ⟨x, b, hxb, iU _ _, iR hxb, h4, g5⟩
theorem fD {P : As} : ∀ {L : List As} {i : Nat} {h a b : Hp}, i < L.length → dis a b → le a h → le b h → P a → ah (L.eraseIdx i) b → ah (L.set i P) h := by
 intro L
 induction L with
 | nil => intro i h a b hi; simp at hi
 | cons Q L ih =>
   intro i h a b hi h1 h2 h3 h4 h5
   cases i with
   | zero => exact ⟨a, b, h1, h2, h3, h4, h5⟩
   | succ i =>
     simp at hi
     obtain ⟨x, y, g1, g2, g3, g4, g5⟩ := h5
     have hax : dis a x := eH h1 g2
     have hay : dis a y := eH h1 g3
     exact ⟨x, uni a y, jD (bQ hax) g1, le_trans g2 h3, jV h2 (le_trans g3 h3), g4, ih hi hay (iU _ _) (iR hay) h4 g5⟩
theorem dR : ∀ {L M : List As} {a b h : Hp}, ah L a → ah M b → dis a b → le a h → le b h → ah (L ++ M) h := by
 intro L
 induction L with
 | nil => intro M a b h _ hM _ _ hb; exact fA hM hb
 | cons P L ih =>
   intro M a b h hL hM hd ha hb
   obtain ⟨x, y, h1, h2, h3, h4, h5⟩ := hL
   have hyb : dis y b := bQ (eH (bQ hd) h3)
   have hxb : dis x b := bQ (eH (bQ hd) h2)
   exact ⟨x, uni y b, jD h1 hxb, le_trans h2 ha, jV (le_trans h3 ha) hb, h4, ih h5 hM hyb (iU _ _) (iR hyb)⟩
theorem iJ : ∀ {L M : List As} {h : Hp}, ah (L ++ M) h → ∃ a b, dis a b ∧ le a h ∧ le b h ∧ ah L a ∧ ah M b := by
 intro L
 induction L with
 | nil => intro M h hs; exact ⟨fun _ => none, h, fun _ => .inl rfl, fun _ _ e => (by cases e), le_refl _, trivial, hs⟩
 | cons P L ih =>
   intro M h hs
   obtain ⟨x, y, h1, h2, h3, h4, h5⟩ := hs
   obtain ⟨a, b, g1, g2, g3, g4, g5⟩ := ih h5
   have hxa : dis x a := eH h1 g2
   have hxb : dis x b := eH h1 g3
   exact ⟨uni x a, b, bQ (jD (bQ hxb) (bQ g1)), jV h2 (le_trans g2 h3), le_trans g3 h3, ⟨x, a, hxa, iU _ _, iR hxa, h4, g4⟩, g5⟩
structure Sat (w0 w : World) (L : List As) : Prop where
 os : w.os = w0.os
 tape : w.tape = w0.tape
 output : w.output = w0.output
 mem : ah L (hp w)
section
variable {w0 w w' : World} {L M : List As}
theorem Sat.kG {i : Nat} {P : As} (hi : L[i]? = some P) : i < L.length := (List.getElem?_eq_some_iff.1 hi).1
theorem Sat.upd (h : Sat w0 w L) {i : Nat} {P P' : As} (hi : L[i]? = some P) (hos : w'.os = w.os) (htape : w'.tape = w.tape) (hout : w'.output = w.output)
   (hp' : ∀ a, P a → le a (hp w) → ∃ a', P' a' ∧ le a' (hp w') ∧ ∀ k, a k = none → k < w.heap.size → a' k = none ∧ w'.heap[k]? = w.heap[k]?) : Sat w0 w' (L.set i P') := by
 obtain ⟨a, b, h1, h2, h3, h4, h5⟩ := dP h.mem hi
 obtain ⟨a', g1, g2, g3⟩ := hp' a h4 h2
 have hb : ∀ k o, b k = some o → a k = none ∧ k < w.heap.size := fun k o e => by
   refine ⟨?_, (Array.getElem?_eq_some_iff.1 (h3 k o e)).1⟩
   rcases h1 k with h1 | h1
   · exact h1
   · rw [h1] at e; cases e
 refine ⟨hos.trans h.os, htape.trans h.tape, hout.trans h.output, fD (Sat.kG hi) (a := a') (b := b) (fun k => ?_) g2 (fun k o e => ?_) g1 h5⟩
 · cases e : b k with
   | none => exact .inr rfl
   | some o => exact .inl (g3 k (hb k o e).1 (hb k o e).2).1
 · show w'.heap[k]? = some o
   rw [(g3 k (hb k o e).1 (hb k o e).2).2]
   exact h3 k o e
theorem Sat.new (h : Sat w0 w L) (hb : Below w.heap.size w w') {P : As} (hP : ∃ a, P a ∧ le a (hp w') ∧ ∀ k, k < w.heap.size → a k = none) : Sat w0 w' (L ++ [P]) := by
 obtain ⟨a, h1, h2, h3⟩ := hP
 refine ⟨hb.os.trans h.os, hb.tape.trans h.tape, hb.output.trans h.output, ?_⟩
 refine dR (a := hp w) (b := a) h.mem ⟨a, fun _ => none, fun _ => .inr rfl, le_refl _, fun _ _ e => (by cases e), h1, trivial⟩ (fun k => ?_) (fun k o e => ?_) h2
 · by_cases hk : k < w.heap.size
   · exact .inr (h3 k hk)
   · exact .inl (Array.getElem?_eq_none (by omega))
 · show w'.heap[k]? = some o
   rw [hb.block k (Array.getElem?_eq_some_iff.1 e).1]; exact e
theorem Sat.below (h : Sat w0 w L) (hb : Below w.heap.size w w') : Sat w0 w' L :=
 ⟨hb.os.trans h.os, hb.tape.trans h.tape, hb.output.trans h.output, fA h.mem (fun k o e => by show w'.heap[k]? = some o; rw [hb.block k (Array.getElem?_eq_some_iff.1 e).1]; exact e)⟩
theorem Sat.drew (h : Sat w0 w L) : Sat w0 w.drew L := ⟨h.os, h.tape, h.output, h.mem⟩
theorem Sat.alloc (h : Sat w0 w L) (o : Obj) : Sat w0 (w.alloc o) (L ++ [blk w.heap.size o]) :=
 h.new ((Below.refl _ _).alloc (Nat.le_refl _) o) ⟨fun k => if k = w.heap.size then some o else none, by simp [blk], fun k x e => (by
   dsimp only at e
   split at e
   · rename_i hk; subst hk; cases e; exact heap_alloc_new w o
   · cases e), fun k hk => by dsimp only; rw [if_neg (by omega)]⟩
theorem Sat.aj (h : Sat w0 w L) (o : Obj) (b : Nat) (hb : b = w.heap.size := by simp) : Sat w0 (w.alloc o) (L ++ [blk b o]) := hb ▸ h.alloc o
theorem Sat.ay (h : Sat w0 w L) (o : Obj) : Sat w0 (w.alloc o) L := h.below ((Below.refl _ _).alloc (Nat.le_refl _) o)
theorem Sat.get (h : Sat w0 w L) {i : Nat} {P : As} (hi : L[i]? = some P) {p : Prop} (hp' : ∀ a, P a → le a (hp w) → p) : p := by
 obtain ⟨a, b, _, h2, _, h4, _⟩ := dP h.mem hi
 exact hp' a h4 h2
theorem Sat.ent (h : Sat w0 w L) {i : Nat} {P Q : As} (hi : L[i]? = some P) (hPQ : ∀ a, P a → Q a) : Sat w0 w (L.set i Q) := by
 obtain ⟨a, b, h1, h2, h3, h4, h5⟩ := dP h.mem hi
 exact ⟨h.os, h.tape, h.output, fD (Sat.kG hi) h1 h2 h3 (hPQ a h4) h5⟩
theorem Sat.ex (h : Sat w0 w L) {i : Nat} {α : Type} {P : α → As} (hi : L[i]? = some (exs P)) : ∃ x, Sat w0 w (L.set i (P x)) := by
 obtain ⟨a, b, h1, h2, h3, ⟨x, h4⟩, h5⟩ := dP h.mem hi
 exact ⟨x, h.os, h.tape, h.output, fD (Sat.kG hi) h1 h2 h3 h4 h5⟩
theorem Sat.unpack (h : Sat w0 w L) {i : Nat} {M : List As} (hi : L[i]? = some (ah M)) : Sat w0 w (L.eraseIdx i ++ M) := by
 obtain ⟨a, b, h1, h2, h3, h4, h5⟩ := dP h.mem hi
 exact ⟨h.os, h.tape, h.output, dR h5 h4 (bQ h1) h3 h2⟩
theorem Sat.pack (h : Sat w0 w (L ++ M)) : Sat w0 w (L ++ [ah M]) := by
 obtain ⟨a, b, h1, h2, h3, h4, h5⟩ := iJ h.mem
 exact ⟨h.os, h.tape, h.output, dR h4 (b := b) ⟨b, fun _ => none, fun _ => .inr rfl, le_refl _, fun _ _ e => (by cases e), h5, trivial⟩ h1 h2 h3⟩
theorem Sat.left (h : Sat w0 w (L ++ M)) : Sat w0 w L := by
 obtain ⟨a, b, h1, h2, h3, h4, h5⟩ := iJ h.mem
 exact ⟨h.os, h.tape, h.output, fA h4 h2⟩
end
theorem nK : ∀ {L : List As} {h : Hp}, ah L h → ∃ f : Nat → Hp, (∀ (i : Nat) (P : As), L[i]? = some P → P (f i)) ∧ (∀ i j, i ≠ j → dis (f i) (f j)) ∧ ∀ i, le (f i) h := by
 intro L
 induction L with
 | nil => intro h _; exact ⟨fun _ _ => none, fun i P hi => (by simp at hi), fun _ _ _ _ => .inl rfl, fun _ _ _ e => (by cases e)⟩
 | cons Q L ih =>
   intro h hs
   obtain ⟨a, b, h1, h2, h3, h4, h5⟩ := hs
   obtain ⟨f, g1, g2, g3⟩ := ih h5
   refine ⟨fun i => match i with | 0 => a | i + 1 => f i, fun i P hi => ?_, fun i j hij => ?_, fun i => ?_⟩
   · cases i with
     | zero => simp at hi; subst hi; exact h4
     | succ i => simp at hi; exact g1 i P hi
   · cases i with
     | zero => cases j with
       | zero => exact absurd rfl hij
       | succ j => exact eH h1 (g3 j)
     | succ i => cases j with
       | zero => exact bQ (eH h1 (g3 i))
       | succ j => exact g2 i j (by omega)
   · cases i with
     | zero => exact h2
     | succ i => exact le_trans (g3 i) h3
theorem oH : ∀ {L : List As} {h : Hp} (f : Nat → Hp), (∀ (i : Nat) (P : As), L[i]? = some P → P (f i)) → (∀ i j, i ≠ j → dis (f i) (f j)) → (∀ i, le (f i) h) → ah L h := by
 intro L
 induction L with
 | nil => intros; trivial
 | cons Q L ih =>
   intro h f g1 g2 g3
   refine ⟨f 0, fun k => match f 0 k with | none => h k | some _ => none, fun k => ?_, g3 0, fun k o e => ?_, g1 0 Q rfl, ih (fun i => f (i + 1)) (fun i P hi => g1 (i + 1) P (by simpa using hi)) (fun i j hij => g2 _ _ (by omega)) (fun i k o e => ?_)⟩
   · cases hk : f 0 k with
     | none => exact .inl rfl
     | some o => exact .inr (by simp [hk])
   · dsimp only at e
     split at e
     · exact e
     · cases e
   · rcases g2 0 (i + 1) (by omega) k with hk | hk
     · show (match f 0 k with | none => h k | some _ => none) = some o
       rw [hk]; exact g3 _ _ _ e
     · rw [hk] at e; cases e
theorem Sat.pick {w0 w : World} {L : List As} (h : Sat w0 w L) (p : List Nat) (hn : p.Nodup := by decide) (hl : p.all (· < L.length) = true := by rfl) : Sat w0 w (p.map fun i => L.getD i (fun _ => True)) := by
 obtain ⟨f, g1, g2, g3⟩ := nK h.mem
 refine ⟨h.os, h.tape, h.output, oH (fun i => match p[i]? with | some j => f j | none => fun _ => none) (fun i P hi => ?_) (fun i j hij => ?_) (fun i => ?_)⟩
 · rw [List.getElem?_map] at hi
   cases e : p[i]? with
   | none => rw [e] at hi; cases hi
   | some j =>
     rw [e] at hi
     have hj : j < L.length := by simpa using List.all_eq_true.1 hl j (List.mem_of_getElem? e)
     have : L.getD j (fun _ => True) = P := Option.some.inj hi
     refine g1 j P ?_
     rw [← this, List.getD_eq_getElem?_getD, List.getElem?_eq_getElem hj]; rfl
 · cases e1 : p[i]? with
   | none => exact fun k => .inl rfl
   | some a => cases e2 : p[j]? with
     | none => exact fun k => .inr rfl
     | some b =>
       refine g2 a b fun hab => hij ?_
       subst hab
       exact (List.getElem?_inj (List.getElem?_eq_some_iff.1 e1).1 hn).1 (e1.trans e2.symm)
 · cases e : p[i]? with
   | none => exact fun _ _ e => by cases e
   | some j => exact g3 j
section
variable {w0 w w' : World} {L M : List As}
theorem Sat.at (h : Sat w0 w L) (i : Nat) {P : As} (hi : L[i]? = some P) : Sat w0 w [ah (L.eraseIdx i), P] := by
 obtain ⟨a, b, h1, h2, h3, h4, h5⟩ := dP h.mem hi
 exact ⟨h.os, h.tape, h.output, b, a, bQ h1, h3, h2, h5, a, fun _ => none, fun _ => .inr rfl, le_refl _, fun _ _ e => (by cases e), h4, trivial⟩
theorem Sat.back {i : Nat} (hi : i < L.length) {Q : As} {M : List As} (h : Sat w0 w (ah (L.eraseIdx i) :: Q :: M)) : Sat w0 w (L.set i Q ++ M) := by
 obtain ⟨b, r, h1, h2, h3, h5, a, m, g1, g2, g3, g4, g5⟩ := h.mem
 have hba : dis a b := bQ (eH h1 g2)
 have hbm : dis m b := bQ (eH h1 g3)
 refine ⟨h.os, h.tape, h.output, dR (a := uni a b) (b := m) (fD hi hba (iU _ _) (iR hba) g4 h5) g5 ?_ (jV (le_trans g2 h3) h2) (le_trans g3 h3)⟩
 exact bQ (jD (bQ g1) hbm)
theorem Sat.lI {i : Nat} (hi : i < L.length) {Q : As} (h : Sat w0 w [ah (L.eraseIdx i), Q]) : Sat w0 w (L.set i Q) := by
 have := Sat.back hi h
 rwa [List.append_nil] at this
theorem Sat.store (h : Sat w0 w L) (i : Nat) {b : Nat} {cs : Array Value} {T : TypeId} {z : Nat × Nat} (hi : L[i]? = some (blk b (.cells cs T z))) (o : Nat) (v : Value) :
   Sat w0 (w.setCell ⟨b, o, none⟩ v) (L.set i (blk b (.cells (cs.setIfInBounds o v) T z))) := by
 refine h.upd hi rfl rfl rfl fun a ha hl => ⟨fun k => if k = b then some (.cells (cs.setIfInBounds o v) T z) else none, by simp [blk], fun k x e => ?_, fun k hk _ => ?_⟩
 · dsimp only at e
   split at e
   · rename_i hk
     subst hk; cases e
     have hb : w.heap[k]? = some (.cells cs T z) := hl _ _ ha
     show (w.setCell ⟨k, o, none⟩ v).heap[k]? = _
     simp [World.setCell, Array.getElem?_modify, hb]
   · cases e
 · have hne : k ≠ b := by rintro rfl; rw [show a k = _ from ha] at hk; cases hk
   exact ⟨by dsimp only; rw [if_neg hne], Below.heap_setCell _ _ _ _ hne⟩
theorem Sat.heap (h : Sat w0 w L) (i : Nat) {b : Nat} {o : Obj} (hi : L[i]? = some (blk b o)) : w.heap[b]? = some o := h.get hi fun _ ha hl => hl _ _ ha
theorem Sat.lt (h : Sat w0 w L) (i : Nat) {b : Nat} {o : Obj} (hi : L[i]? = some (blk b o)) : b < w.heap.size := (Array.getElem?_eq_some_iff.1 (h.heap i hi)).1
theorem Sat.cell (h : Sat w0 w L) (i : Nat) {b : Nat} {cs : Array Value} {T : TypeId} {z : Nat × Nat} (hi : L[i]? = some (blk b (.cells cs T z))) (o : Nat) {v : Value} (ho : cs[o]? = some v) : w.cell? ⟨b, o, none⟩ = some v := by
 simp [World.cell?, h.heap i hi, ho]
theorem Sat.free (h : Sat w0 w L) (i : Nat) {b : Nat} {cs : Array Value} {T : TypeId} (hi : L[i]? = some (blk b (.cells cs T (0, 0)))) (o : Nat) : w.frozen? ⟨b, o, none⟩ = false := by
 simp [World.frozen?, h.heap i hi]
theorem Sat.ne (h : Sat w0 w L) (i j : Nat) (hij : i ≠ j) {b c : Nat} {o u : Obj} (hi : L[i]? = some (blk b o)) (hj : L[j]? = some (blk c u)) : b ≠ c := by
 obtain ⟨f, g1, g2, g3⟩ := nK h.mem
 rintro rfl
 have e1 : f i b = some o := g1 i _ hi
 have e2 : f j b = some u := g1 j _ hj
 rcases g2 i j hij b with e | e
 · rw [e] at e1; cases e1
 · rw [e] at e2; cases e2
def row (e : TypeId) (size : Nat) (v : Value) (n : Nat) (xs : List Value) : As := fun h =>
 xs.length = n * size ∧
 ((v = .slice none 0 0 ∧ n = 0) ∨
  ∃ g cap cur, v = .slice (some ⟨g, 0, none⟩) n cap ∧ h g = some (.cells cur e (0, 0)) ∧ n ≤ cap ∧ cap ≤ maxLen ∧ cur.size = cap * size ∧ cur.toList.take (n * size) = xs)
theorem Sat.row (h : Sat w0 w L) (i : Nat) {e : TypeId} {size : Nat} {v : Value} {n : Nat} {xs : List Value} (hi : L[i]? = some (row e size v n xs)) : w.ownsRow 0 e size v n xs :=
 h.get hi fun a ha hl => by
   refine ⟨ha.1, ?_⟩
   rcases ha.2 with h1 | ⟨g, cap, cur, h1, h2, h3⟩
   · exact .inl h1
   · exact .inr ⟨g, cap, cur, h1, Nat.zero_le _, hl _ _ h2, h3⟩
theorem Sat.nil (h : Sat w0 w L) (e : TypeId) (size : Nat) : Sat w0 w (L ++ [Prt.row e size (.slice none 0 0) 0 []]) :=
 h.new (Below.refl _ _) ⟨fun _ => none, ⟨by simp, .inl ⟨rfl, rfl⟩⟩, fun _ _ e => (by cases e), fun _ _ => rfl⟩
theorem Sat.fH (h : Sat w0 w L) {P : As} (hP : ∀ a, P a) : Sat w0 w (L ++ [P]) := h.new (Below.refl _ _) ⟨fun _ => none, hP _, fun _ _ e => (by cases e), fun _ _ => rfl⟩
theorem Sat.newRow (h : Sat w0 w L) (hb : Below w.heap.size w w') {base : Nat} {e : TypeId} {size : Nat} {v : Value} {n : Nat} {xs : List Value} (ho : w'.ownsRow base e size v n xs) (hbase : w.heap.size ≤ base) : Sat w0 w' (L ++ [Prt.row e size v n xs]) := by
 refine h.new hb ?_
 obtain ⟨h1, h2⟩ := ho
 rcases h2 with ⟨rfl, rfl⟩ | ⟨g, cap, cur, rfl, h3, h4, h5⟩
 · exact ⟨fun _ => none, ⟨h1, .inl ⟨rfl, rfl⟩⟩, fun _ _ e => (by cases e), fun _ _ => rfl⟩
 · refine ⟨fun k => if k = g then some (.cells cur e (0, 0)) else none, ⟨h1, .inr ⟨g, cap, cur, rfl, if_pos rfl, h5⟩⟩, fun k x ex => ?_, fun k hk => ?_⟩
   · dsimp only at ex
     split at ex
     · rename_i hkg; subst hkg; cases ex; exact h4
     · cases ex
   · dsimp only; rw [if_neg (by omega)]
theorem Sat.grow (h : Sat w0 w L) (i : Nat) {e : TypeId} {size : Nat} {v : Value} {n : Nat} {xs : List Value} (hi : L[i]? = some (Prt.row e size v n xs)) {base g m cap : Nat} {ys : List Value}
   (hg : w.grownBy w' v.ownBlock) (ho : w'.ownsRow base e size (.slice (some ⟨g, 0, none⟩) m cap) m ys) (hat : v.ownBlock = some g ∨ g = w.heap.size) : Sat w0 w' (L.set i (Prt.row e size (.slice (some ⟨g, 0, none⟩) m cap) m ys)) := by
 refine h.upd hi hg.os hg.tape hg.output fun a ha hl => ?_
 obtain ⟨h1, h2⟩ := ho
 rcases h2 with ⟨h2, _⟩ | ⟨g', cap', cur, h2, _, h4, h5, h6, h7, h8⟩
 · cases h2
 · cases h2
   refine ⟨fun k => if k = g then some (.cells cur e (0, 0)) else none, ⟨h1, .inr ⟨g, cap, cur, rfl, if_pos rfl, h5, h6, h7, h8⟩⟩, fun k x ex => ?_, fun k hk hlt => ?_⟩
   · dsimp only at ex
     split at ex
     · rename_i hkg; subst hkg; cases ex; exact h4
     · cases ex
   · have hv : v.ownBlock ≠ some k := fun ev => by
       rcases ha.2 with ⟨rfl, _⟩ | ⟨g2, cap2, cur2, rfl, e2, _⟩
       · simp [Value.ownBlock] at ev
       · simp [Value.ownBlock] at ev; subst ev; rw [hk] at e2; cases e2
     refine ⟨?_, hg.block k hlt (fun ev => hv ev.symm)⟩
     dsimp only
     rw [if_neg]
     rintro rfl
     rcases hat with hat | hat
     · exact hv hat
     · omega
theorem ji {b : Nat} {cs : Array Value} {e : TypeId} {size n : Nat} {xs : List Value} {a : Hp} (h : blk b (.cells cs e (0, 0)) a) (hm : n ≤ maxLen) (hs : cs.size = n * size) (hx : cs.toList = xs) : Prt.row e size (.slice (some ⟨b, 0, none⟩) n n) n xs a :=
 ⟨by rw [← hx]; simp [hs], .inr ⟨b, n, cs, rfl, h, Nat.le_refl _, hm, hs, by rw [← hx]; exact List.take_of_length_le (by simp [hs])⟩⟩
theorem Sat.un3 {F P A : As} (h : Sat w0 w [ah [F, A], P]) : Sat w0 w [F, P, A] := (h.unpack (i := 0) rfl).pick [1, 0, 2]
theorem Sat.un4 {F P A B : As} (h : Sat w0 w [ah [F, A, B], P]) : Sat w0 w [F, P, A, B] := (h.unpack (i := 0) rfl).pick [1, 0, 2, 3]
theorem Sat.un5 {F P A B C : As} (h : Sat w0 w [ah [F, A, B, C], P]) : Sat w0 w [F, P, A, B, C] := (h.unpack (i := 0) rfl).pick [1, 0, 2, 3, 4]
theorem Sat.un6 {F P A B C D : As} (h : Sat w0 w [ah [F, A, B, C, D], P]) : Sat w0 w [F, P, A, B, C, D] := (h.unpack (i := 0) rfl).pick [1, 0, 2, 3, 4, 5]
theorem Sat.out {F : As} {M : List As} (h : Sat w0 w [ah (F :: M)]) : Sat w0 w [F] := Sat.left (L := [F]) (M := M) (h.unpack (i := 0) rfl)
def bI (w : World) : As := fun h => ∀ k, k < w.heap.size → h k = w.heap[k]?
theorem Sat.old (w : World) : Sat w w [bI w] :=
 ⟨rfl, rfl, rfl, hp w, fun _ => none, fun _ => .inr rfl, le_refl _, fun _ _ e => (by cases e), fun _ _ => rfl, trivial⟩
theorem Sat.gy {M : List As} (h : Sat w w' (bI w :: M)) : Below w.heap.size w w' := by
 obtain ⟨a, b, _, h2, _, h4, _⟩ := h.mem
 have hb : ∀ k, k < w.heap.size → w'.heap[k]? = w.heap[k]? := fun k hk => by
   have h5 := h4 k hk
   rw [Array.getElem?_eq_getElem hk] at h5 ⊢
   exact h2 _ _ h5
 refine ⟨h.os, h.tape, h.output, Nat.le_of_not_lt fun hlt => ?_, hb⟩
 have h6 := hb (w.heap.size - 1) (by omega)
 rw [Array.getElem?_eq_none (by omega), Array.getElem?_eq_getElem (by omega)] at h6
 cases h6
theorem Sat.join {M : List As} (h : Sat w0 w L) (g : Sat w w' (bI w :: M)) : Sat w0 w' (L ++ M) := by
 have hb := g.gy
 obtain ⟨a, b, h1, h2, h3, h4, h5⟩ := g.mem
 refine ⟨hb.os.trans h.os, hb.tape.trans h.tape, hb.output.trans h.output, dR (a := hp w) (b := b) h.mem h5 (fun k => ?_) (fun k o e => ?_) h3⟩
 · by_cases hk : k < w.heap.size
   · right
     rcases h1 k with h6 | h6
     · have h7 := h4 k hk
       rw [h6, Array.getElem?_eq_getElem hk] at h7; cases h7
     · exact h6
   · exact .inl (Array.getElem?_eq_none (by omega))
 · show w'.heap[k]? = some o
   rw [hb.block k (Array.getElem?_eq_some_iff.1 e).1]; exact e
end
end Prt
end
section
open Go Go.RowKit
open Prt (Sat As blk pur exs star ah)
def gJ (af : List Tok.Tk) : Prop := af.length ≤ 1001 ∧ ∀ t, af.getLast? = some t → t.kind = 6
def tkA (v : Value) (l : List Tok.Tk) : As := Prt.row 138 3 v l.length (l.flatMap bf)
def dC (v : Value) (l : List ByteArray) : As := Prt.row 9 1 v l.length (l.map Value.string)
def jb (p : ByteArray × Nat) : List Value := [.string p.1, .int .i64 (p.2 : Int)]
def fdA (v : Value) (l : List (ByteArray × Nat)) : As := Prt.row 141 2 v l.length (l.flatMap jb)
def aA (n : Nat) : Value := .int .i64 (n : Int)
def inA (v : Value) (l : List Nat) : As := Prt.row 3 1 v l.length (l.map aA)
structure TyRow where
 t : Ty.Ty
 fv : Value
 lv : Value
def bK (r : TyRow) : List Value := [.int .i64 r.t.kind, r.fv, r.lv, .int .i64 r.t.of]
def dY (r : TyRow) : As := star (fdA r.fv r.t.fields) (inA r.lv r.t.list)
def tyA (v : Value) (ts : List Ty.Ty) : As := exs fun rows : List TyRow =>
 ah [pur (rows.map TyRow.t = ts), Prt.row 69 4 v ts.length (rows.flatMap bK), ah (rows.map dY)]
structure NdRow where
 t : Ty.Nd
 lv : Value
def aY (r : NdRow) : List Value := [.int .i64 r.t.kind, .int .i64 r.t.a, .int .i64 r.t.b, .int .i64 r.t.c, r.lv, .string r.t.text, .int .i64 r.t.n, .int .i64 r.t.ty, .int .i64 r.t.pos]
def ndA (v : Value) (ns : List Ty.Nd) : As := exs fun rows : List NdRow =>
 ah [pur (rows.map NdRow.t = ns), Prt.row 66 9 v ns.length (rows.flatMap aY), ah (rows.map fun r => inA r.lv r.t.list)]
def ni (pb d : Nat) (af : List Tok.Tk) (st : Ty.St) (p : Value × Value × Value × Int) : List As :=
 [pur (gJ af ∧ st.pos < af.length ∧ d ≤ 20 ∧ st.ts.length ≤ st.pos ∧ st.ns.length ≤ st.pos + 1),
  blk pb (.cells #[p.1, .int .i64 st.pos, .int .i64 d, p.2.1, p.2.2.1, .int .i64 p.2.2.2] 86 (0, 0)), tkA p.1 af, ndA p.2.1 st.ns, tyA p.2.2.1 st.ts]
def aC (pb d : Nat) (af : List Tok.Tk) (st : Ty.St) : As := exs fun p : Value × Value × Value × Int => ah (ni pb d af st p)
structure PRd (w : World) (pb d : Nat) (af : List Tok.Tk) (st : Ty.St) : Prop where
 holds : ∃ (lv nv tv : Value) (main : Int), w.heap[pb]? = some (.cells #[lv, .int .i64 st.pos, .int .i64 d, nv, tv, .int .i64 main] 86 (0, 0)) ∧ dG w 0 lv af
 wf : gJ af
 fits : st.pos < af.length ∧ d ≤ 20 ∧ st.ts.length ≤ st.pos ∧ st.ns.length ≤ st.pos + 1
section
variable {w0 w : World} {L : List As}
theorem Prt.Sat.pure (h : Sat w0 w L) (i : Nat) {p : Prop} (hi : L[i]? = some (pur p)) : p := h.get hi fun _ h _ => h
theorem Prt.Sat.jd {Fr : As} {pb d : Nat} {af : List Tok.Tk} {st : Ty.St} (h : Sat w0 w [Fr, aC pb d af st]) : ∃ p, Sat w0 w (Fr :: ni pb d af st p) := by
 obtain ⟨p, h⟩ := h.ex (i := 1) rfl
 exact ⟨p, h.unpack (i := 1) rfl⟩
theorem Prt.Sat.iw {Fr : As} {pb d : Nat} {af : List Tok.Tk} {st : Ty.St} {p : Value × Value × Value × Int} (h : Sat w0 w (Fr :: ni pb d af st p)) : Sat w0 w [Fr, aC pb d af st] :=
 (Prt.Sat.pack (L := [Fr]) h).ent (i := 1) rfl fun _ h => ⟨p, h⟩
theorem Prt.Sat.look {Fr : As} {pb d : Nat} {af : List Tok.Tk} {st : Ty.St} (h : Sat w0 w [Fr, aC pb d af st]) : PRd w pb d af st := by
 obtain ⟨⟨lv, nv, tv, main⟩, h⟩ := h.jd
 have hp := h.pure 1 rfl
 exact ⟨⟨lv, nv, tv, main, h.heap 2 rfl, h.row 3 rfl⟩, hp.1, hp.2⟩
theorem Prt.Sat.setPos {Fr : As} {pb d : Nat} {af : List Tok.Tk} {st : Ty.St} (h : Sat w0 w [Fr, aC pb d af st]) (p : Nat) (hp : p < af.length) (hp2 : st.pos ≤ p) : Sat w0 (w.setCell ⟨pb, 1, none⟩ (.int .i64 p)) [Fr, aC pb d af { st with pos := p }] := by
 obtain ⟨x, h⟩ := h.jd
 have hq := h.pure 1 rfl
 refine Prt.Sat.iw (p := x) (((h.store 2 rfl 1 (.int .i64 p)).ent (i := 1) rfl (Q := pur _) fun _ _ => ?_))
 exact ⟨hq.1, hp, hq.2.2.1, by have := hq.2; dsimp only; omega, by have := hq.2; dsimp only; omega⟩
theorem Prt.Sat.kM {Fr : As} {pb d : Nat} {af : List Tok.Tk} {st : Ty.St} (h : Sat w0 w [Fr, aC pb d af st]) (d' : Nat) (hd : d' ≤ 20) : Sat w0 (w.setCell ⟨pb, 2, none⟩ (.int .i64 d')) [Fr, aC pb d' af st] := by
 obtain ⟨x, h⟩ := h.jd
 have hq := h.pure 1 rfl
 refine Prt.Sat.iw (p := x) (((h.store 2 rfl 2 (.int .i64 d')).ent (i := 1) rfl (Q := pur _) fun _ _ => ?_))
 exact ⟨hq.1, hq.2.1, hd, hq.2.2.2⟩
end
theorem PRd.below {w w' : World} {pb d : Nat} {af : List Tok.Tk} {st : Ty.St} (h : PRd w pb d af st) (hb : Below w.heap.size w w') : PRd w' pb d af st := by
 obtain ⟨⟨lv, nv, tv, main, h1, h2⟩, h3, h4⟩ := h
 exact ⟨⟨lv, nv, tv, main, by rw [hb.block _ (Array.getElem?_eq_some_iff.1 h1).1]; exact h1, aH h2 hb⟩, h3, h4⟩
theorem PRd.lt {w : World} {pb d : Nat} {af : List Tok.Tk} {st : Ty.St} (h : PRd w pb d af st) : pb < w.heap.size := by
 obtain ⟨⟨lv, nv, tv, main, h1, _⟩, _⟩ := h
 exact (Array.getElem?_eq_some_iff.1 h1).1
theorem PRd.cells {w : World} {pb d : Nat} {af : List Tok.Tk} {st : Ty.St} (h : PRd w pb d af st) :
   w.cell? ⟨pb, 1, none⟩ = some (.int .i64 st.pos) ∧ w.cell? ⟨pb, 2, none⟩ = some (.int .i64 d) ∧ ∀ o, w.frozen? ⟨pb, o, none⟩ = false := by
 obtain ⟨⟨lv, nv, tv, main, h1, _⟩, _⟩ := h
 exact ⟨by rw [cell_of_block h1]; rfl, by rw [cell_of_block h1]; rfl, fun o => aN h1 o⟩
theorem lq (af : List Tok.Tk) (pos : Nat) (h : pos < af.length) : Ty.cur af pos = af[pos] := by
 unfold Ty.cur; rw [List.getElem?_eq_getElem h]; rfl
theorem dI {af : List Tok.Tk} {pos : Nat} (hp : pos < af.length) (hl : gJ af) (h : (Ty.cur af pos).kind ≠ 6) : pos + 1 < af.length := by
 refine Nat.lt_of_le_of_ne hp fun e => h ?_
 rw [lq af pos hp]
 exact hl.2 _ (by rw [List.getLast?_eq_getElem?, List.getElem?_eq_getElem (by omega)]; congr 1; simp [← e])
theorem is_lt {af : List Tok.Tk} {s : List UInt8} {pos : Nat} (hp : pos < af.length) (hl : gJ af) (h : Ty.is af s pos = true) : pos + 1 < af.length := by
 refine dI hp hl fun e => ?_
 unfold Ty.is at h
 rw [e] at h
 simp at h
theorem wJ (a : Prt.Hp) : tyA (.slice none 0 0) [] a :=
 ⟨[], fun _ => none, fun _ => none, fun _ => .inl rfl, fun _ _ e => (by cases e), fun _ _ e => (by cases e), rfl, fun _ => none, fun _ => none, fun _ => .inl rfl, Prt.le_refl _, Prt.le_refl _, ⟨rfl, .inl ⟨rfl, rfl⟩⟩, fun _ => none, fun _ => none, fun _ => .inl rfl, Prt.le_refl _, Prt.le_refl _, trivial, trivial⟩
theorem vY (a : Prt.Hp) : ndA (.slice none 0 0) [] a :=
 ⟨[], fun _ => none, fun _ => none, fun _ => .inl rfl, fun _ _ e => (by cases e), fun _ _ e => (by cases e), rfl, fun _ => none, fun _ => none, fun _ => .inl rfl, Prt.le_refl _, Prt.le_refl _, ⟨rfl, .inl ⟨rfl, rfl⟩⟩, fun _ => none, fun _ => none, fun _ => .inl rfl, Prt.le_refl _, Prt.le_refl _, trivial, trivial⟩
theorem Prt.Sat.Dz {w0 w : World} {Fr : As} {pb : Nat} {af : List Tok.Tk} {lv : Value} (hT : gJ af ∧ 0 < af.length) (h : Sat w0 w [Fr, tkA lv af, blk pb (.cells #[lv, .int .i64 0, .int .i64 0, .slice none 0 0, .slice none 0 0, .int .i64 0] 86 (0, 0))]) : Sat w0 w [Fr, aC pb 0 af ⟨0, [], []⟩] := by
 have h := ((h.fH vY).fH wJ).fH (P := pur (gJ af ∧ 0 < af.length ∧ (0 : Nat) ≤ 20 ∧ (0 : Nat) ≤ 0 ∧ (0 : Nat) ≤ 0 + 1)) (fun _ => ⟨hT.1, hT.2, by omega⟩)
 exact Prt.Sat.iw (p := (lv, .slice none 0 0, .slice none 0 0, 0)) (h.pick [0, 5, 2, 1, 3, 4])
def aI (f : Ty.Ft) : List PanicEntry := [{ v := .iface 25 (.agg #[.int .i64 f.1, .int .i64 f.2]), recovered := false }]
theorem dU (w : World) (pb d : Nat) (af : List Tok.Tk) (st : Ty.St) (h : PRd w pb d af st) {R : Ending → World → Prop} (hR : ∀ w', Below w.heap.size w w' → R (.returned (aQ (Ty.cur af st.pos))) w') :
   Calls Tryz.prog 75 #[.pointer (some ⟨pb, 0, none⟩)] w R := by
 have HR := qh hR
 have hlt := h.lt
 have hl := h.wf.1
 have h5 := h.fits.1
 obtain ⟨⟨lv, nv, tv, main, h1, h2⟩, _⟩ := h
 have c0 : w.cell? ⟨pb, 0, none⟩ = some lv := by rw [cell_of_block h1]; rfl
 have c1 : w.cell? ⟨pb, 1, none⟩ = some (.int .i64 st.pos) := by rw [cell_of_block h1]; rfl
 have hne : af ≠ [] := by rintro rfl; simp at h5
 obtain ⟨g, cap, rfl, _, hg, _, _, hc⟩ := h2.at hne
 obtain ⟨t0, t1, t2⟩ := hc st.pos h5
 rw [lq af st.pos h5] at HR
 clear hR h1 h2 hc hne
 generalize af[st.pos] = t at *
 obtain ⟨kd, tx, ps⟩ := t
 dsimp only at t0 t1 t2
 go_enter Tryz.func75, Tryz.ntmps75
 go_wp2_with fail
 go_region
 go_wp2_with fail
 refine bodyPost_ret ?_ rfl (HR.out _ ?_)
 · simp [results, Tryz.results75, go_sem, aQ]
 · repeat' (first | exact Below.refl _ _ | apply Below.drew | apply Below.setCell | apply Below.alloc | (simp; done) | (simp; omega) | omega)
theorem iF (w : World) (pb d : Nat) (af : List Tok.Tk) (st : Ty.St) (h : PRd w pb d af st) (x : ByteArray) {R : Ending → World → Prop}
   (hR : ∀ w', Below w.heap.size w w' → R (.returned (.bool (Ty.is af x.data.toList st.pos))) w') :
   Calls Tryz.prog 210 #[.pointer (some ⟨pb, 0, none⟩), .string x] w R := by
 have HR := qh hR
 unfold Ty.is at HR
 obtain ⟨t, ht⟩ : ∃ t, Ty.cur af st.pos = t := ⟨_, rfl⟩
 rw [ht] at HR
 have HN := qh (fun w1 (hb : Below w.heap.size w w1) R => @dU w1 pb d af st (h.below hb) R)
 rw [ht] at HN
 clear hR h ht
 obtain ⟨kd, tx, ps⟩ := t
 have e1 : (tx.toList == x.toList) = decide (tx.data.toList = x.data.toList) := by rw [ByteArray.toList_eq, ByteArray.toList_eq, Bool.eq_iff_iff]; simp
 have hk : kd = 5 ∨ kd ≠ 5 ∧ kd = 2 ∨ kd ≠ 5 ∧ kd ≠ 2 := by omega
 rcases hk with hk | ⟨hk, hk2⟩ | ⟨hk, hk2⟩
 · subst hk
   have HE := qh e1
   clear e1
   go_enter Tryz.func210, Tryz.ntmps210
   go_wp2_with fail
   refine HN.out _ (Below.refl _ _) _ (fun w1 hb1 => ?_)
   dsimp only [aQ]
   have HB := qh hb1
   clear hb1
   go_wp2_with fail
   refine dh (HR.out _ ?_) (congrArg Value.bool ?_)
   · repeat' (first | exact HB.out | apply Below.drew | apply Below.setCell | apply Below.alloc | (simp; done) | (simp; omega) | exact HB.out.size)
   · rw [HE.out]; simp
 · subst hk2
   have HE := qh e1
   clear e1 hk
   go_enter Tryz.func210, Tryz.ntmps210
   go_wp2_with fail
   refine HN.out _ (Below.refl _ _) _ (fun w1 hb1 => ?_)
   dsimp only [aQ]
   have HB := qh hb1
   clear hb1
   go_wp2_with fail
   refine dh (HR.out _ ?_) (congrArg Value.bool ?_)
   · repeat' (first | exact HB.out | apply Below.drew | apply Below.setCell | apply Below.alloc | (simp; done) | (simp; omega) | exact HB.out.size)
   · rw [HE.out]; simp
 · have k1 : ((kd : Int) == 5) = false := by simp; omega
   have k2 : ((kd : Int) == 2) = false := by simp; omega
   clear e1
   go_enter Tryz.func210, Tryz.ntmps210
   go_wp2_with fail
   refine HN.out _ (Below.refl _ _) _ (fun w1 hb1 => ?_)
   dsimp only [aQ]
   have HB := qh hb1
   clear hb1
   go_wp2_with fail
   refine dh (HR.out _ ?_) (congrArg Value.bool ?_)
   · repeat' (first | exact HB.out | apply Below.drew | apply Below.setCell | apply Below.alloc | (simp; done) | (simp; omega) | exact HB.out.size)
   · simp [hk, hk2]
theorem fM (a b c : Value) (w : World) : (Instr.field 138 (.agg #[a, b, c]) 2).run Tryz.prog w = .ok c w := by kernel_rfl
theorem gK (w : World) (pb d : Nat) (af : List Tok.Tk) (st : Ty.St) (h : PRd w pb d af st) (e : Nat) {R : Ending → World → Prop}
   (hR : ∀ w', Below w.heap.size w w' → R (.panicked (aI (Ty.here af e st.pos))) w') :
   Calls Tryz.prog 121 #[.pointer (some ⟨pb, 0, none⟩), .int .i64 e] w R := by
 have HR := qh hR
 unfold Ty.here at HR
 obtain ⟨t, ht⟩ : ∃ t, Ty.cur af st.pos = t := ⟨_, rfl⟩
 rw [ht] at HR
 have HN := qh (fun R => @dU w pb d af st h R)
 rw [ht] at HN
 clear hR h ht
 obtain ⟨kd, tx, ps⟩ := t
 go_enter Tryz.func121, Tryz.ntmps121
 go_wp2_with fail
 refine HN.out _ (fun w1 hb1 => ?_)
 dsimp only [aQ]
 have HB := qh hb1
 clear hb1
 have hf := fM
 go_wp2_with fail
 exact ⟨rfl, HR.out _ HB.out⟩
section
variable {w0 w : World} {Fr : As} {pb d : Nat} {af : List Tok.Tk} {st : Ty.St}
theorem take_any (H : Sat w0 w [Fr, aC pb d af st]) (x : ByteArray) {R : Ending → World → Prop}
   (hyes : ∀ w', Ty.take af x.data.toList st = .ok (true, { st with pos := st.pos + 1 }) → Sat w0 w' [Fr, aC pb d af { st with pos := st.pos + 1 }] → R (.returned (.bool true)) w')
   (hno : ∀ w', Ty.take af x.data.toList st = .ok (false, st) → Sat w0 w' [Fr, aC pb d af st] → R (.returned (.bool false)) w') :
   Calls Tryz.prog 186 #[.pointer (some ⟨pb, 0, none⟩), .string x] w R := by
 have HY := qh hyes
 have HNO := qh hno
 have HS := qh H
 have hl := H.look
 have HL := qh hl
 clear hyes hno H
 cases hi : Ty.is af x.data.toList st.pos
 · have HI := qh hi
   clear hi hl
   go_enter Tryz.func186, Tryz.ntmps186
   go_wp2_with fail
   refine iF w pb d af st HL.out x (fun w1 hb1 => ?_)
   rw [HI.out]
   have HB := qh hb1
   clear hb1
   go_wp2_with fail
   exact HNO.out _ (by unfold Ty.take; rw [HI.out]; rfl) (HS.out.below HB.out)
 · have hlt := is_lt hl.fits.1 hl.wf hi
   have h5 := hl.wf.1
   have HI := qh hi
   clear hi hl
   go_enter Tryz.func186, Tryz.ntmps186
   go_wp2_with fail
   refine iF w pb d af st HL.out x (fun w1 hb1 => ?_)
   rw [HI.out]
   obtain ⟨c1, _, f0⟩ := (HL.out.below hb1).cells
   have HB := qh hb1
   clear hb1
   go_wp2_with fail
   exact HY.out _ (by unfold Ty.take; rw [HI.out]; rfl) ((HS.out.below HB.out).setPos _ hlt (by omega))
theorem aZ (H : Sat w0 w [Fr, aC pb d af st]) (x : ByteArray) {R : Ending → World → Prop}
   (hyes : ∀ w', Ty.need af x.data.toList st = .ok ((), { st with pos := st.pos + 1 }) → Sat w0 w' [Fr, aC pb d af { st with pos := st.pos + 1 }] → R (.returned (.tuple #[])) w')
   (hno : ∀ f w', Ty.need af x.data.toList st = .error f → Sat w0 w' [Fr] → R (.panicked (aI f)) w') :
   Calls Tryz.prog 208 #[.pointer (some ⟨pb, 0, none⟩), .string x] w R := by
 have HY := qh hyes
 have HNO := qh hno
 have HS := qh H
 clear hyes hno H
 go_enter Tryz.func208, Tryz.ntmps208
 go_wp2_with fail
 refine take_any HS.out x (fun w1 hi H1 => ?_) (fun w1 hi H1 => ?_)
 · have HI := qh hi
   have HS1 := qh H1
   clear hi H1
   go_wp2_with fail
   go_end0
   refine HY.out _ ?_ HS1.out
   have hi := HI.out
   unfold Ty.take at hi
   unfold Ty.need
   split at hi
   · rw [if_pos (by assumption)]
   · simp at hi
 · have HI := qh hi
   have HS1 := qh H1
   clear hi H1
   go_wp2_with fail
   refine gK w1 pb d af st HS1.out.look 1 (fun w2 hb2 => ?_)
   have HB := qh (HS1.out.below hb2)
   clear hb2
   go_wp2_with fail
   refine ⟨rfl, HNO.out _ _ ?_ (HB.out.pick [0])⟩
   have hi := HI.out
   unfold Ty.take at hi
   unfold Ty.need
   split at hi
   · simp at hi
   · rw [if_neg (by assumption)]
end
theorem zV : (Tryz.prog.info? 69).map (fun i => (i.zero, i.size, i.bytes)) = some (some (.agg #[.int .i64 0, .slice none 0 0, .slice none 0 0, .int .i64 0]), 4, 64) := by kernel_rfl
theorem Prt.jo {L : List As} {P : As} {h : Prt.Hp} (hs : ah [ah L, P] h) : ah (L ++ [P]) h := by
 obtain ⟨a, b, h1, h2, h3, h4, h5⟩ := hs
 exact Prt.dR h4 h5 h1 h2 h3
section
variable {w0 w : World} {Fr : As} {pb d : Nat} {af : List Tok.Tk} {st : Ty.St}
def AO (pb d : Nat) (af : List Tok.Tk) (st : Ty.St) (p : Value × Value × Value × Int) (n : Nat) (cells : List Value) (rows : List TyRow) (ts : List Ty.Ty) : List As :=
 [pur (gJ af ∧ st.pos < af.length ∧ d ≤ 20 ∧ st.ts.length ≤ st.pos ∧ st.ns.length ≤ st.pos + 1),
  blk pb (.cells #[p.1, .int .i64 st.pos, .int .i64 d, p.2.1, p.2.2.1, .int .i64 p.2.2.2] 86 (0, 0)), tkA p.1 af, ndA p.2.1 st.ns,
  pur (rows.map TyRow.t = ts), Prt.row 69 4 p.2.2.1 n cells, ah (rows.map dY)]
theorem Prt.Sat.Ec {A B : As} (h : Sat w0 w [Fr, aC pb d af st, A, B]) : ∃ p rows, Sat w0 w (Fr :: A :: B :: AO pb d af st p st.ts.length (rows.flatMap bK) rows st.ts) := by
 obtain ⟨p, h⟩ := h.ex (i := 1) rfl
 obtain ⟨rows, h⟩ := (h.unpack (i := 1) rfl).ex (i := 7) rfl
 exact ⟨p, rows, h.unpack (i := 7) rfl⟩
theorem Prt.Sat.DX {p : Value × Value × Value × Int} {rows : List TyRow} {t : Ty.Ty} {fv lv : Value} (h : Sat w0 w (Fr :: fdA fv t.fields :: inA lv t.list :: AO pb d af st p (st.ts.length + 1) (rows.flatMap bK ++ bK ⟨t, fv, lv⟩) rows st.ts)) (hb : st.ts.length + 1 ≤ st.pos) :
   Sat w0 w [Fr, aC pb d af { st with ts := st.ts ++ [t] }] := by
 have h := h.pick [0, 3, 4, 5, 6, 7, 8, 9, 1, 2]
 have hq := h.pure 1 rfl
 have hr := h.pure 5 rfl
 have h := Prt.Sat.pack (L := [Fr, _, _, _, _, _, _, ah (rows.map dY)]) (M := [fdA fv t.fields, inA lv t.list]) h
 have h := h.ent (i := 8) rfl (Q := dY (TyRow.mk t fv lv)) (fun a ha => by
   obtain ⟨x, y, h1, h2, h3, h4, u, v, _, h6, _, h8, _⟩ := ha
   exact ⟨x, y, h1, h2, h3, h4, (by
     obtain ⟨k1, k2⟩ := h8
     refine ⟨k1, ?_⟩
     rcases k2 with k2 | ⟨g, cap, cur, e1, e2, e3⟩
     · exact .inl k2
     · exact .inr ⟨g, cap, cur, e1, h6 _ _ e2, e3⟩)⟩)
 have h := Prt.Sat.pack (L := [Fr, _, _, _, _, _, _]) (M := [ah (rows.map dY), dY (TyRow.mk t fv lv)]) h
 have h := h.ent (i := 7) rfl (Q := ah ((rows ++ [TyRow.mk t fv lv]).map dY)) (fun a ha => by rw [List.map_append]; exact Prt.jo ha)
 have h := h.ent (i := 5) rfl (Q := pur ((rows ++ [TyRow.mk t fv lv]).map TyRow.t = st.ts ++ [t])) (fun a _ => by show _ = _; rw [List.map_append, hr]; rfl)
 have h := h.ent (i := 6) rfl (Q := Prt.row 69 4 p.2.2.1 (st.ts ++ [t]).length ((rows ++ [TyRow.mk t fv lv]).flatMap bK)) (fun a ha => by rw [List.flatMap_append, List.length_append]; exact ha)
 have h := Prt.Sat.pack (L := [Fr, _, _, _, _]) (M := [_, _, _]) h
 have h := h.ent (i := 5) rfl (Q := tyA p.2.2.1 (st.ts ++ [t])) (fun a ha => ⟨_, ha⟩)
 have h := h.ent (i := 1) rfl (Q := pur (gJ af ∧ st.pos < af.length ∧ d ≤ 20 ∧ (st.ts ++ [t]).length ≤ st.pos ∧ st.ns.length ≤ st.pos + 1)) (fun a _ => ⟨hq.1, hq.2.1, hq.2.2.1, by simpa using hb, hq.2.2.2.2⟩)
 exact Prt.Sat.iw (p := p) h
theorem fG (t : Ty.Ty) (fv lv : Value) (H : Sat w0 w [Fr, aC pb d af st, fdA fv t.fields, inA lv t.list]) (hb : st.ts.length + 1 ≤ st.pos)
   {R : Ending → World → Prop} (hR : ∀ w', Sat w0 w' [Fr, aC pb d af { st with ts := st.ts ++ [t] }] → R (.returned (.int .i64 st.ts.length)) w') :
   Calls Tryz.prog 187 #[.pointer (some ⟨pb, 0, none⟩), .agg #[.int .i64 t.kind, fv, lv, .int .i64 t.of]] w R := by
 have HR := qh hR
 obtain ⟨i0, ti, tz0, tz1, tz2⟩ := info_parts zV
 obtain ⟨⟨lv0, nv, tv, main⟩, rows, hs⟩ := H.Ec
 have hs : Sat w0 w (Fr :: fdA fv t.fields :: inA lv t.list :: AO pb d af st (lv0, nv, tv, main) st.ts.length (rows.flatMap bK) rows st.ts) := hs
 have hq := hs.pure 3 rfl
 have hlen := hq.1.1
 have hpos := hq.2.1
 have hts : st.ts.length ≤ 1000 := by omega
 have c4 := hs.cell 4 rfl 4 rfl
 have f4 := hs.free 4 rfl 4
 have hlt := hs.lt 4 rfl
 have hr := hs.row 8 rfl
 obtain ⟨a, cap0, rfl⟩ := ag hr
 obtain ⟨fa, fc, rfl⟩ := ag (hs.row 1 rfl)
 obtain ⟨la, lc, rfl⟩ := ag (hs.row 2 rfl)
 have HROW := qh hr
 have HS := qh hs
 have HB := qh hb
 clear hR H hs hq hr hb
 go_enter Tryz.func187, Tryz.ntmps187
 go_wp2_with fail
 go_region_law (first
   | (go_loud (refine step_append_lies _ (by rfl) _ _ _ (by rfl) 0 69 i0 _ 4 64 Tryz.underlying29 ti tz0 tz1 tz2 rfl (by omega) (.slice a st.ts.length cap0) st.ts.length (rows.flatMap bK) (by rfl) (((HROW.out.alloc _).alloc _).drew) ⟨w.heap.size + 1, 0, none⟩ 1 1 [.int .i64 t.kind, .slice fa t.fields.length fc, .slice la t.list.length lc, .int .i64 t.of] (by rfl) (by rfl) (World.news_of_block (cs := #[.int .i64 t.kind, .slice fa t.fields.length fc, .slice la t.list.length lc, .int .i64 t.of]) (t := 69) (fr := (0, 0)) (aV (ak _ _ _ (by simp)))) (by simp [Value.oneCell']) (by omega) (by have := HB.out; unfold maxLen; omega) (by have := HB.out; omega) (by simp) (w.heap.size + 2) (by simp) ?_); intro g cap w1 hown1 hgrow hat hlt1; have h1 := Prt.Sat.grow ((HS.out.ay _).ay _).drew 8 rfl hgrow hown1 (by simpa using hat); have d4 := h1.cell 4 rfl 4 rfl; have e4 := h1.free 4 rfl 4; have H1 := qh h1; clear h1))
 all_goals
   clear hown1 hgrow
   go_wp2_with fail
   exact HR.out _ (Prt.Sat.DX (p := (lv0, nv, .slice (some ⟨g, 0, none⟩) (st.ts.length + 1) cap, main)) (rows := rows) (H1.out.store 4 rfl 4 _) HB.out)
end
theorem nY (w : World) (B : Nat) (v : Value) (l : List ByteArray) (h : w.ownsRow B 9 1 v l.length (l.map Value.string)) (hl : l.length ≤ 100000) (x : ByteArray) {R : Ending → World → Prop} (hR : ∀ r : Bool, (r = true ↔ x ∈ l) → R (.returned (.bool r)) w) :
   Calls Tryz.prog 279 #[v, .string x] w R := by
 obtain ⟨a, cap, rfl⟩ := ag h
 by_cases h0 : l = []
 · subst h0
   refine (Tryz.slices_Contains_string_empty a cap x w).mono ?_
   rintro e w' ⟨rfl, rfl⟩
   exact hR false (by simp)
 · rcases h.2 with ⟨_, hn⟩ | ⟨g, cap', cur, hv, _⟩
   · exact absurd (List.eq_nil_of_length_eq_zero hn) h0
   · have hc := World.ownsRow.cells (g := g) h (by rw [hv]; rfl)
     cases hv
     refine (Tryz.slices_Contains_string g 0 l.length cap l x w (Nat.le_refl _) (by omega) (fun j hj => ?_)).mono ?_
     · have := hc j (.string (l.getD j ByteArray.empty)) (by simp [hj])
       rwa [Addr.add_lit] at this
     · rintro e w' ⟨rfl, rfl⟩
       refine hR _ ?_
       rw [Lib.containsS_iff, List.take_of_length_le (Nat.le_refl _)]
theorem jy {x : ByteArray} {l : List ByteArray} : x.data.toList ∈ l.map (fun t => t.data.toList) ↔ x ∈ l := by
 constructor
 · intro h
   obtain ⟨y, hy, e⟩ := List.mem_map.1 h
   have : y = x := by cases x; cases y; simp only at e; congr; exact Array.toList_inj.1 e
   exact this ▸ hy
 · exact fun h => List.mem_map.2 ⟨x, h, rfl⟩
section
variable {w0 w : World} {Fr : As} {pb d : Nat} {af : List Tok.Tk} {st : Ty.St}
theorem gY (H : Sat w0 w [Fr, aC pb d af st]) (v : Value) (l : List ByteArray) (hv : w.ownsRow 0 9 1 v l.length (l.map Value.string)) (hl : l.length ≤ 2000)
   {R : Ending → World → Prop}
   (hok : ∀ x w', Ty.name af l st = .ok (x, { st with pos := st.pos + 1 }) → Sat w0 w' [Fr, aC pb d af { st with pos := st.pos + 1 }] → R (.returned (.string x)) w')
   (hbad : ∀ f w', Ty.name af l st = .error f → Sat w0 w' [Fr] → R (.panicked (aI f)) w') :
   Calls Tryz.prog 206 #[.pointer (some ⟨pb, 0, none⟩), v] w R := by
 have HOK := qh hok
 have HBAD := qh hbad
 have HS := qh H
 have HV := qh hv
 have hlk := H.look
 have HL := qh hlk
 have hlt := fun h1 : (Ty.cur af st.pos).kind = 1 => dI hlk.fits.1 hlk.wf (by omega)
 have h5 := hlk.wf.1
 unfold Ty.name at HOK HBAD
 have HN := qh (fun R => @dU w pb d af st hlk R)
 unfold Ty.here at HBAD
 have HF := qh (fun w1 (h : PRd w1 pb d af st) e R => @gK w1 pb d af st h e R)
 unfold Ty.here at HF
 generalize Ty.cur af st.pos = t at *
 clear hok hbad H hv hlk
 obtain ⟨kd, tx, ps⟩ := t
 dsimp only at HOK HBAD hlt HF
 by_cases hkd : kd = 1
 · have hlt1 := hlt hkd
   have k1 : ((kd : Int) != 1) = false := by simp [hkd]
   have HKD := qh hkd
   clear hlt hkd
   go_enter Tryz.func206, Tryz.ntmps206
   go_wp2_with fail
   refine HN.out _ (fun w1 hb1 => ?_)
   dsimp only [aQ]
   have hv1 := aH HV.out hb1
   have HS1 := qh ((HS.out.below hb1).ay (.cells #[.int .i64 kd, .string tx, .int .i64 ps] 138))
   have HV1 := qh hv1
   have HSB := qh (HS.out.below hb1)
   obtain ⟨c1, _, f0⟩ := HS1.out.look.cells
   have hpl : pb < w1.heap.size := (HL.out.below hb1).lt
   clear hb1 hv1
   go_wp2_with fail
   refine nY _ 0 v l (HV1.out.alloc _) (by omega) tx (fun r hr => ?_)
   have HR := qh hr
   clear hr
   cases r
   · go_wp2_with fail
     refine HOK.out tx _ (by rw [if_neg (by rw [HKD.out]; simp), if_neg]; rw [jy]; intro hm; have := HR.out.2 hm; simp at this) ?_
     exact (HSB.out.setPos _ hlt1 (by omega)).ay _
   · go_wp2_with fail
     refine HF.out _ HS1.out.look 6 _ (fun w2 hb2 => ?_)
     have HB2 := qh hb2
     clear hb2
     go_wp2_with fail
     exact ⟨rfl, HBAD.out _ _ (by rw [if_neg (by rw [HKD.out]; simp), if_pos (jy.2 (HR.out.1 (by trivial)))]) ((HS1.out.below HB2.out).pick [0])⟩
 · have k1 : ((kd : Int) != 1) = true := by simp; omega
   have HKD := qh hkd
   clear hlt hkd
   go_enter Tryz.func206, Tryz.ntmps206
   go_wp2_with fail
   refine HN.out _ (fun w1 hb1 => ?_)
   dsimp only [aQ]
   have HS1 := qh ((HS.out.below hb1).ay (.cells #[.int .i64 kd, .string tx, .int .i64 ps] 138))
   have hz := hb1.size
   clear hb1
   go_wp2_with fail
   refine HF.out _ HS1.out.look 1 _ (fun w2 hb2 => ?_)
   have HB2 := qh hb2
   clear hb2
   go_wp2_with fail
   exact ⟨rfl, HBAD.out _ _ (by rw [if_pos HKD.out]) ((HS1.out.below HB2.out).pick [0])⟩
theorem oh (H : Sat w0 w [Fr, aC pb d af st]) (F : FuncId) (c : Value) (hc : ∀ (args : Array Value) (w : World), (callFunc F args).run Tryz.prog w = .ok (.enter F args) w)
   (m : Ty.M Nat)
   (hdo : d < 20 → ∀ w1, Sat w0 w1 [Fr, aC pb (d + 1) af st] → ∀ R : Ending → World → Prop,
     (∀ n st2 w2, m st = .ok (n, st2) → Sat w0 w2 [Fr, aC pb (d + 1) af st2] → R (.returned (.int .i64 (n : Nat))) w2) →
     (∀ f w2, m st = .error f → Sat w0 w2 [Fr] → R (.panicked (aI f)) w2) → Calls Tryz.prog F #[c] w1 R)
   {R : Ending → World → Prop}
   (hok : ∀ n st2 w2, d < 20 → m st = .ok (n, st2) → Sat w0 w2 [Fr, aC pb d af st2] → R (.returned (.int .i64 (n : Nat))) w2)
   (hbad : ∀ f w2, (d < 20 → m st = .error f) → (d = 20 → f = Ty.here af 8 st.pos) → Sat w0 w2 [Fr] → R (.panicked (aI f)) w2) :
   Calls Tryz.prog 130 #[.pointer (some ⟨pb, 0, none⟩), .func (.func F) #[] #[c]] w R := by
 have HOK := qh hok
 have HBAD := qh hbad
 have HDO := qh hdo
 have HS := qh H
 have hlk := H.look
 have hd := hlk.fits.2.1
 obtain ⟨_, c2, f0⟩ := hlk.cells
 have HL := qh hlk
 clear hok hbad hdo H hlk
 by_cases hd2 : d = 20
 · have d1 : ((d : Int) == 20) = true := by simp [hd2]
   have HD := qh hd2
   clear hd2 hd
   go_enter Tryz.func130, Tryz.ntmps130
   go_wp2_with fail
   refine gK w pb d af st HL.out 8 (fun w1 hb1 => ?_)
   have HB := qh hb1
   clear hb1
   go_wp2_with fail
   exact ⟨rfl, HBAD.out _ _ (fun h => by have := HD.out; omega) (fun _ => rfl) ((HS.out.below HB.out).pick [0])⟩
 · have d1 : ((d : Int) == 20) = false := by simp; omega
   have hlt : d < 20 := by omega
   clear hd2
   go_enter Tryz.func130, Tryz.ntmps130
   go_wp2_with fail
   refine HDO.out hlt _ (HS.out.kM (d + 1) (by omega)) _ (fun n st2 w2 hm h2 => ?_) (fun f w2 hm h2 => ?_)
   · obtain ⟨_, c2', f0'⟩ := h2.look.cells
     have H2 := qh h2
     have HM := qh hm
     clear h2 hm
     go_wp2_with fail
     exact HOK.out n st2 _ hlt HM.out (H2.out.kM _ (by omega))
   · have H2 := qh h2
     have HM := qh hm
     clear h2 hm
     go_wp2_with fail
     exact ⟨rfl, HBAD.out f w2 (fun _ => HM.out) (fun h => absurd h (by omega)) H2.out⟩
end
def posOf (pb : Nat) (w : World) : Nat := (intOf ((w.cell? ⟨pb, 1, none⟩).getD (.int .i64 0))).toNat
theorem bD {w : World} {pb d : Nat} {af : List Tok.Tk} {st : Ty.St} (h : PRd w pb d af st) : posOf pb w = st.pos := by
 unfold posOf; rw [h.cells.1]; simp [intOf]
theorem Prt.Sat.jH {w0 w : World} {Fr A : As} {pb d : Nat} {af : List Tok.Tk} {st : Ty.St} (h : Sat w0 w [Fr, aC pb d af st, A]) : PRd w pb d af st := (h.pick [0, 1]).look
theorem Prt.Sat.swap {w0 w : World} {A B C : As} (h : Sat w0 w [A, B, C]) : Sat w0 w [ah [A, C], B] := by
 have h1 := Prt.Sat.pack (L := [B]) (M := [A, C]) (h.pick [1, 0, 2])
 exact h1.pick [1, 0]
theorem Prt.Sat.uC {w0 w : World} {A B C : As} (h : Sat w0 w [ah [A, C], B]) : Sat w0 w [A, B, C] := (h.unpack (i := 0) rfl).pick [1, 0, 2]
theorem iM {α : Type} (w0 w : World) (Fr : As) (pb d : Nat) (af : List Tok.Tk) (st : Ty.St) (Acc : List α → As) (H : Sat w0 w [Fr, aC pb d af st, Acc []]) (e : ByteArray) (F : FuncId) (cs : Array Value)
   (hc : ∀ (args : Array Value) (w : World), (callFunc F args).run Tryz.prog w = .ok (.enter F args) w)
   (m : List α → Ty.M α) (hM : ∀ l, Ty.Adv 1 0 0 (m l))
   (hdo : ∀ l s w1, Sat w0 w1 [Fr, aC pb d af s, Acc l] → l.length ≤ s.pos → ∀ R : Ending → World → Prop,
     (∀ n s2 w2, m l s = .ok (n, s2) → Sat w0 w2 [Fr, aC pb d af s2, Acc (l ++ [n])] → R (.returned (.tuple #[])) w2) →
     (∀ f w2, m l s = .error f → Sat w0 w2 [Fr] → R (.panicked (aI f)) w2) → Calls Tryz.prog F cs w1 R)
   {R : Ending → World → Prop}
   (hok : ∀ l s2 w2, Ty.list af e.data.toList m (af.length + 1) [] st = .ok (l, s2) → l.length ≤ s2.pos → Sat w0 w2 [Fr, aC pb d af s2, Acc l] → R (.returned (.tuple #[])) w2)
   (hbad : ∀ f w2, Ty.list af e.data.toList m (af.length + 1) [] st = .error f → Sat w0 w2 [Fr] → R (.panicked (aI f)) w2) :
   Calls Tryz.prog 313 #[.pointer (some ⟨pb, 0, none⟩), .string e, .func (.func F) #[] cs] w R := by
 have HOK := qh hok
 have HBAD := qh hbad
 have HDO := qh hdo
 have HM := qh hM
 have hlk := H.jH
 have HS := qh H
 have hpos := hlk.fits.1
 have htl := hlk.wf.1
 clear hok hbad hdo hM H hlk
 go_enter Tryz.func313, Tryz.ntmps313
 go_wp2_with fail
 go_loopw [6] (fun i wr => ∃ (f : Nat) (l : List α) (s : Ty.St), i = .int .i64 l.length ∧ s.pos < af.length ∧ af.length < s.pos + f ∧ l.length ≤ s.pos ∧ Hid (Sat w0 wr [Fr, aC pb d af s, Acc l]) ∧ Hid (Ty.list af e.data.toList m (af.length + 1) [] st = Ty.list af e.data.toList m f l s))
   (fun _ wr => af.length - posOf pb wr)
 case atStart => exact ⟨af.length + 1, [], st, rfl, hpos, by omega, by simp, HS.out, rfl⟩
 case round =>
   obtain ⟨f, l, s, rfl, hp1, hf1, hll, hS, hE⟩ := hrel
   obtain ⟨f, rfl⟩ : ∃ g, f = g + 1 := ⟨f - 1, by omega⟩
   have HPO := qh (bD hS.out.jH)
   go_wp2_with fail
   refine take_any hS.out.swap e (fun w1 hi h1 => ?_) (fun w1 hi h1 => ?_)
   · have HEQ : Hid (Ty.list af e.data.toList m (af.length + 1) [] st = .ok (l, { s with pos := s.pos + 1 })) := by
       rw [hE.out, Ty.list, Ty.bnd_ok hi]; rfl
     have HS1 := qh h1.uC
     clear hi h1
     go_wp2_with fail
     go_end0
     exact HOK.out l _ w1 HEQ.out (by show l.length ≤ s.pos + 1; omega) HS1.out
   · have HEQ : Hid (Ty.list af e.data.toList m (af.length + 1) [] st = Ty.bnd (if l.length = 0 then Ty.ret () else Ty.need af [44]) (fun _ => Ty.bnd (m l) fun n => Ty.list af e.data.toList m f (l ++ [n])) s) := by
       rw [hE.out, Ty.list, Ty.bnd_ok hi]; rfl
     have HS1 := qh h1.uC
     clear hi h1 hE hS
     by_cases hl0 : l.length = 0
     · have HL0 := qh hl0
       obtain rfl : l = [] := List.eq_nil_of_length_eq_zero hl0
       have HEQ0 : Hid (Ty.list af e.data.toList m (af.length + 1) [] st = Ty.bnd (m []) (fun n => Ty.list af e.data.toList m f ([] ++ [n])) s) := by
         rw [HEQ.out]; rfl
       clear HEQ hl0
       go_wp2_with fail
       refine HDO.out [] s w1 HS1.out (by simp) _ (fun n s2 w2 hm h2 => ?_) (fun f' w2 hm h2 => ?_)
       · have HEQ2 : Hid (Ty.list af e.data.toList m (af.length + 1) [] st = Ty.list af e.data.toList m f ([] ++ [n]) s2) := by
           rw [HEQ0.out, Ty.bnd_ok hm]; rfl
         have hgm := HM.out _ _ _ _ hm
         have hlt2 := h2.jH.fits.1
         have HPO2 := qh (bD h2.jH)
         have H2 := qh h2
         have hgt : s.pos < s2.pos := by omega
         clear hm hgm h2
         go_wp2_with fail
         go_roundw
         case rel => exact ⟨f, [] ++ [n], s2, by simp, hlt2, by omega, by simp; omega, H2, HEQ2⟩
         case measure => rw [HPO.out, HPO2.out]; omega
       · have HEQ2 : Hid (Ty.list af e.data.toList m (af.length + 1) [] st = .error f') := by
           rw [HEQ0.out, Ty.bnd_err hm]; rfl
         have H2 := qh h2
         clear hm h2
         go_wp2_with fail
         exact ⟨rfl, HBAD.out _ _ HEQ2.out H2.out⟩
     · have hl1 : 0 < l.length := by omega
       have HL0 := qh hl0
       clear hl0
       go_wp2_with fail
       refine aZ HS1.out.swap ⟨#[44]⟩ (fun w3 hn h3 => ?_) (fun x w3 hn h3 => ?_)
       · have HEQ3 : Hid (Ty.list af e.data.toList m (af.length + 1) [] st = Ty.bnd (m l) (fun n => Ty.list af e.data.toList m f (l ++ [n])) { s with pos := s.pos + 1 }) := by
           rw [HEQ.out, if_neg HL0.out, Ty.bnd_ok (show Ty.need af [44] s = _ from hn)]; rfl
         have HS3 := qh h3.uC
         clear hn h3 HEQ HS1
         go_wp2_with fail
         refine HDO.out l _ w3 HS3.out (by show l.length ≤ s.pos + 1; omega) _ (fun n s2 w2 hm h2 => ?_) (fun f' w2 hm h2 => ?_)
         · have HEQ2 : Hid (Ty.list af e.data.toList m (af.length + 1) [] st = Ty.list af e.data.toList m f (l ++ [n]) s2) := by
             rw [HEQ3.out, Ty.bnd_ok hm]; rfl
           have hgm := HM.out _ _ _ _ hm
           have hlt2 := h2.jH.fits.1
           have HPO2 := qh (bD h2.jH)
           have H2 := qh h2
           have hgt : s.pos + 1 < s2.pos := by dsimp only at hgm; omega
           clear hm hgm h2
           go_wp2_with fail
           go_roundw
           case rel => exact ⟨f, l ++ [n], s2, by simp, hlt2, by omega, by simp; omega, H2, HEQ2⟩
           case measure => rw [HPO.out, HPO2.out]; omega
         · have HEQ2 : Hid (Ty.list af e.data.toList m (af.length + 1) [] st = .error f') := by
             rw [HEQ3.out, Ty.bnd_err hm]; rfl
           have H2 := qh h2
           clear hm h2
           go_wp2_with fail
           exact ⟨rfl, HBAD.out _ _ HEQ2.out H2.out⟩
       · have HEQ3 : Hid (Ty.list af e.data.toList m (af.length + 1) [] st = .error x) := by
           rw [HEQ.out, if_neg HL0.out, Ty.bnd_err (show Ty.need af [44] s = _ from hn)]; rfl
         have HS3 := qh (h3.pick [0] |>.unpack (i := 0) rfl |>.pick [0])
         clear hn h3
         go_wp2_with fail
         exact ⟨rfl, HBAD.out _ _ HEQ3.out HS3.out⟩
end
end Go.Proofs.YtdlbhiaceheffabGreatDoor
