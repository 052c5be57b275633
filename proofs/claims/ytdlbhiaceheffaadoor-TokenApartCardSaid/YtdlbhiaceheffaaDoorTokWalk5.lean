/- Walk of token.one. -/
import Derived.Test.YtdlbhiaceheffaaDoorTokWalk4
namespace Go.Proofs.YtdlbhiaceheffaaDoor
open Go Go.RowKit

theorem below_alloc (w : World) (o : Obj) : Below w.heap.size w (w.alloc o) := (Below.refl _ _).alloc (Nat.le_refl _) _

theorem cell_of_block {w : World} {b : Nat} {cs : Array Value} {t : TypeId} {fz : Nat × Nat} (h : w.heap[b]? = some (.cells cs t fz)) (o : Nat) : w.cell? ⟨b, o, none⟩ = cs[o]? := by
  simp [World.cell?, h]
theorem frozen_of_block {w : World} {b : Nat} {cs : Array Value} {t : TypeId} (h : w.heap[b]? = some (.cells cs t (0, 0))) (o : Nat) : w.frozen? ⟨b, o, none⟩ = false := by
  simp [World.frozen?, h]
theorem q34 (c : UInt8) (b : Bool) (h : decide (c = 34) = b) : ((c.toNat : Int) == 34) = b := by
  rw [← h, Bool.eq_iff_iff]; simp [Tok.is34]
/-- One way. -/
theorem one_name (s : ByteArray) (k kd : Nat) (tx : ByteArray) (ok : Bool) (w : World) (_hs : s.size ≤ 4000) (hk : k < s.size) (_ht : tx.size ≤ 4000)
    (hN : ∀ (w1 : World) (R : Ending → World → Prop), Below w.heap.size w w1 → (∀ w', Below w1.heap.size w1 w' → R (.returned (.tuple #[tkVal ⟨kd, tx, k⟩, .bool ok])) w') → Calls Tryd.prog 43 #[.string s, .int .i64 k] w1 R)
    (hl : Tok.isLetter (Tok.byte s k) = true) {R : Ending → World → Prop}
    (hR : ∀ w', Below w.heap.size w w' → R (.returned (.tuple #[tkVal ⟨kd, tx, k⟩, .int .i64 tx.size, .bool ok])) w') :
    Calls Tryd.prog 24 #[.string s, .int .i64 k] w R := by
  have HR := Lib.hid hR
  have HN := Lib.hid hN
  rw [Tok.byte_eq s k hk] at hl
  have HL := Lib.hid hl
  clear hR hl hN
  go_enter Tryd.func24, Tryd.ntmps24
  go_wp2_with fail
  refine isLetter_any _ _ ?_; rw [HL.out]
  go_wp2_with fail
  refine HN.out _ _ (below_alloc _ _) (fun w1 hb1 => ?_)
  dsimp only [tkVal]
  have hb2 : Below w.heap.size w w1 := (below_alloc _ _).trans (hb1.mono (by simp))
  have hz : w.heap.size < w1.heap.size := by have := hb1.size; simp at this; omega
  have hc : w1.heap[w.heap.size]? = some (.cells #[.int .i64 0, .string ⟨#[]⟩, .int .i64 0] 32 (0, 0)) := by
    rw [hb1.block _ (by simp)]; exact heap_alloc_new w _
  have c0 : w1.cell? ⟨w.heap.size, 0, none⟩ = some (.int .i64 0) := by rw [cell_of_block hc]; rfl
  have c1 : w1.cell? ⟨w.heap.size, 1, none⟩ = some (.string ⟨#[]⟩) := by rw [cell_of_block hc]; rfl
  have c2 : w1.cell? ⟨w.heap.size, 2, none⟩ = some (.int .i64 0) := by rw [cell_of_block hc]; rfl
  have f0 : ∀ o, w1.frozen? ⟨w.heap.size, o, none⟩ = false := fun o => frozen_of_block hc o
  have HB2 := Lib.hid hb2
  clear hb1 hc hb2
  go_wp2_with fail
  go_region
  go_wp2_with fail
  refine bodyPost_ret ?_ rfl (HR.out _ ?_)
  · simp [results, Tryd.results24, go_sem, tkVal, c0, c1, c2, hz]
  · repeat' (first | exact HB2.out | apply Below.drew | apply Below.setCell | apply Below.alloc | (simp; done) | (simp; omega))
/-- One way. -/
theorem one_number (s : ByteArray) (k kd : Nat) (tx : ByteArray) (ok : Bool) (w : World) (_hs : s.size ≤ 4000) (hk : k < s.size) (_ht : tx.size ≤ 4000)
    (hN : ∀ (w1 : World) (R : Ending → World → Prop), Below w.heap.size w w1 → (∀ w', Below w1.heap.size w1 w' → R (.returned (.tuple #[tkVal ⟨kd, tx, k⟩, .bool ok])) w') → Calls Tryd.prog 45 #[.string s, .int .i64 k] w1 R)
    (hl : Tok.isLetter (Tok.byte s k) = false ∧ Tok.isDigit (Tok.byte s k) = true) {R : Ending → World → Prop}
    (hR : ∀ w', Below w.heap.size w w' → R (.returned (.tuple #[tkVal ⟨kd, tx, k⟩, .int .i64 tx.size, .bool ok])) w') :
    Calls Tryd.prog 24 #[.string s, .int .i64 k] w R := by
  have HR := Lib.hid hR
  have HN := Lib.hid hN
  rw [Tok.byte_eq s k hk] at hl
  have HL := Lib.hid hl
  clear hR hl hN
  go_enter Tryd.func24, Tryd.ntmps24
  go_wp2_with fail
  refine isLetter_any _ _ ?_; rw [HL.out.1]; go_wp2_with fail; refine isDigit_any _ _ ?_; rw [HL.out.2]
  go_wp2_with fail
  refine HN.out _ _ (below_alloc _ _) (fun w1 hb1 => ?_)
  dsimp only [tkVal]
  have hb2 : Below w.heap.size w w1 := (below_alloc _ _).trans (hb1.mono (by simp))
  have hz : w.heap.size < w1.heap.size := by have := hb1.size; simp at this; omega
  have hc : w1.heap[w.heap.size]? = some (.cells #[.int .i64 0, .string ⟨#[]⟩, .int .i64 0] 32 (0, 0)) := by
    rw [hb1.block _ (by simp)]; exact heap_alloc_new w _
  have c0 : w1.cell? ⟨w.heap.size, 0, none⟩ = some (.int .i64 0) := by rw [cell_of_block hc]; rfl
  have c1 : w1.cell? ⟨w.heap.size, 1, none⟩ = some (.string ⟨#[]⟩) := by rw [cell_of_block hc]; rfl
  have c2 : w1.cell? ⟨w.heap.size, 2, none⟩ = some (.int .i64 0) := by rw [cell_of_block hc]; rfl
  have f0 : ∀ o, w1.frozen? ⟨w.heap.size, o, none⟩ = false := fun o => frozen_of_block hc o
  have HB2 := Lib.hid hb2
  clear hb1 hc hb2
  go_wp2_with fail
  go_region
  go_wp2_with fail
  refine bodyPost_ret ?_ rfl (HR.out _ ?_)
  · simp [results, Tryd.results24, go_sem, tkVal, c0, c1, c2, hz]
  · repeat' (first | exact HB2.out | apply Below.drew | apply Below.setCell | apply Below.alloc | (simp; done) | (simp; omega))
/-- One way. -/
theorem one_text (s : ByteArray) (k kd : Nat) (tx : ByteArray) (ok : Bool) (w : World) (_hs : s.size ≤ 4000) (hk : k < s.size) (_ht : tx.size ≤ 4000)
    (hN : ∀ (w1 : World) (R : Ending → World → Prop), Below w.heap.size w w1 → (∀ w', Below w1.heap.size w1 w' → R (.returned (.tuple #[tkVal ⟨kd, tx, k⟩, .bool ok])) w') → Calls Tryd.prog 46 #[.string s, .int .i64 k] w1 R)
    (hl : Tok.isLetter (Tok.byte s k) = false ∧ Tok.isDigit (Tok.byte s k) = false ∧ decide (Tok.byte s k = 34) = true) {R : Ending → World → Prop}
    (hR : ∀ w', Below w.heap.size w w' → R (.returned (.tuple #[tkVal ⟨kd, tx, k⟩, .int .i64 (tx.size + 2 : Nat), .bool ok])) w') :
    Calls Tryd.prog 24 #[.string s, .int .i64 k] w R := by
  have HR := Lib.hid hR
  have HN := Lib.hid hN
  rw [Tok.byte_eq s k hk] at hl
  have HL := Lib.hid hl
  clear hR hl hN
  go_enter Tryd.func24, Tryd.ntmps24
  go_wp2_with fail
  have hq := q34 _ _ HL.out.2.2; refine isLetter_any _ _ ?_; rw [HL.out.1]; go_wp2_with fail; refine isDigit_any _ _ ?_; rw [HL.out.2.1]
  go_wp2_with fail
  refine HN.out _ _ (below_alloc _ _) (fun w1 hb1 => ?_)
  dsimp only [tkVal]
  have hb2 : Below w.heap.size w w1 := (below_alloc _ _).trans (hb1.mono (by simp))
  have hz : w.heap.size < w1.heap.size := by have := hb1.size; simp at this; omega
  have hc : w1.heap[w.heap.size]? = some (.cells #[.int .i64 0, .string ⟨#[]⟩, .int .i64 0] 32 (0, 0)) := by
    rw [hb1.block _ (by simp)]; exact heap_alloc_new w _
  have c0 : w1.cell? ⟨w.heap.size, 0, none⟩ = some (.int .i64 0) := by rw [cell_of_block hc]; rfl
  have c1 : w1.cell? ⟨w.heap.size, 1, none⟩ = some (.string ⟨#[]⟩) := by rw [cell_of_block hc]; rfl
  have c2 : w1.cell? ⟨w.heap.size, 2, none⟩ = some (.int .i64 0) := by rw [cell_of_block hc]; rfl
  have f0 : ∀ o, w1.frozen? ⟨w.heap.size, o, none⟩ = false := fun o => frozen_of_block hc o
  have HB2 := Lib.hid hb2
  clear hb1 hc hb2
  go_wp2_with fail
  go_region
  go_wp2_with fail
  refine bodyPost_ret ?_ rfl (HR.out _ ?_)
  · simp [results, Tryd.results24, go_sem, tkVal, c0, c1, c2, hz]
  · repeat' (first | exact HB2.out | apply Below.drew | apply Below.setCell | apply Below.alloc | (simp; done) | (simp; omega))
/-- One way. -/
theorem one_sign (s : ByteArray) (k kd : Nat) (tx : ByteArray) (ok : Bool) (w : World) (_hs : s.size ≤ 4000) (hk : k < s.size) (_ht : tx.size ≤ 4000)
    (hN : ∀ (w1 : World) (R : Ending → World → Prop), Below w.heap.size w w1 → (∀ w', Below w1.heap.size w1 w' → R (.returned (.tuple #[tkVal ⟨kd, tx, k⟩, .bool ok])) w') → Calls Tryd.prog 47 #[.string s, .int .i64 k] w1 R)
    (hl : Tok.isLetter (Tok.byte s k) = false ∧ Tok.isDigit (Tok.byte s k) = false ∧ decide (Tok.byte s k = 34) = false) {R : Ending → World → Prop}
    (hR : ∀ w', Below w.heap.size w w' → R (.returned (.tuple #[tkVal ⟨kd, tx, k⟩, .int .i64 tx.size, .bool ok])) w') :
    Calls Tryd.prog 24 #[.string s, .int .i64 k] w R := by
  have HR := Lib.hid hR
  have HN := Lib.hid hN
  rw [Tok.byte_eq s k hk] at hl
  have HL := Lib.hid hl
  clear hR hl hN
  go_enter Tryd.func24, Tryd.ntmps24
  go_wp2_with fail
  have hq := q34 _ _ HL.out.2.2; refine isLetter_any _ _ ?_; rw [HL.out.1]; go_wp2_with fail; refine isDigit_any _ _ ?_; rw [HL.out.2.1]
  go_wp2_with fail
  refine HN.out _ _ (below_alloc _ _) (fun w1 hb1 => ?_)
  dsimp only [tkVal]
  have hb2 : Below w.heap.size w w1 := (below_alloc _ _).trans (hb1.mono (by simp))
  have hz : w.heap.size < w1.heap.size := by have := hb1.size; simp at this; omega
  have hc : w1.heap[w.heap.size]? = some (.cells #[.int .i64 0, .string ⟨#[]⟩, .int .i64 0] 32 (0, 0)) := by
    rw [hb1.block _ (by simp)]; exact heap_alloc_new w _
  have c0 : w1.cell? ⟨w.heap.size, 0, none⟩ = some (.int .i64 0) := by rw [cell_of_block hc]; rfl
  have c1 : w1.cell? ⟨w.heap.size, 1, none⟩ = some (.string ⟨#[]⟩) := by rw [cell_of_block hc]; rfl
  have c2 : w1.cell? ⟨w.heap.size, 2, none⟩ = some (.int .i64 0) := by rw [cell_of_block hc]; rfl
  have f0 : ∀ o, w1.frozen? ⟨w.heap.size, o, none⟩ = false := fun o => frozen_of_block hc o
  have HB2 := Lib.hid hb2
  clear hb1 hc hb2
  go_wp2_with fail
  go_region
  go_wp2_with fail
  refine bodyPost_ret ?_ rfl (HR.out _ ?_)
  · simp [results, Tryd.results24, go_sem, tkVal, c0, c1, c2, hz]
  · repeat' (first | exact HB2.out | apply Below.drew | apply Below.setCell | apply Below.alloc | (simp; done) | (simp; omega))
end Go.Proofs.YtdlbhiaceheffaaDoor
