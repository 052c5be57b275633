/- Walks of types.Fit, one for each way through. Walk of types.Fit over two functions' types. -/
import Derived.Test.YtdlbhiaceheffaaGreatDoorQFtA
import Derived.Test.YtdlbhiaceheffaaGreatDoorQPlainB
namespace Go.Proofs.YtdlbhiaceheffaaGreatDoor
open Go Go.RowKit
open Prt (Sat As blk pur exs star stars)
open Ty (Tr anyTo anyTo_iff anyTo_false)

theorem below_two (w : World) (x y : Obj) : Below w.heap.size w ((w.alloc x).alloc y) := ((Below.refl w.heap.size w).alloc (Nat.le_refl _) x).alloc (by simp) y
abbrev FitR (p q : Value) (w : World) (R : Ending → World → Prop) : Prop := Calls Tryz.prog 57 #[p, q] w R
def FitW (w : World) (r : Bool) (R : Ending → World → Prop) : Prop := ∀ w', Below w.heap.size w w' → R (.returned (.bool r)) w'
/-- A node's kind lies at its head. -/
def KindAt (w : World) (b k : Nat) : Prop := b < w.heap.size ∧ w.cell? ⟨b, 0, none⟩ = some (.int .i64 (k : Nat))
theorem int_ne {a b : Nat} (h : a ≠ b) : ((a : Int) == (b : Int)) = false := by simp; omega

theorem fw_true (w : World) (ba bb ka kb : Nat) (hA : KindAt w ba ka) (hB : KindAt w bb kb) (h : ka = 5 ∨ kb = 5 ∨ kb = 6) {R : Ending → World → Prop} (hR : FitW w true R) :
    FitR (.pointer (some ⟨ba, 0, none⟩)) (.pointer (some ⟨bb, 0, none⟩)) w R := by
  have HR := Lib.hid hR
  obtain ⟨hba, c0⟩ := hA
  obtain ⟨hbb, e0⟩ := hB
  clear hR
  by_cases h1 : ka = 5
  · subst h1
    clear h
    go_enter Tryz.func57, Tryz.ntmps57
    go_wp2_with fail
    exact HR.out _ (below_two w _ _)
  · have n1 : ((ka : Int) == 5) = false := int_ne h1
    by_cases h2 : kb = 5
    · subst h2
      clear h h1
      go_enter Tryz.func57, Tryz.ntmps57
      go_wp2_with fail
      exact HR.out _ (below_two w _ _)
    · obtain rfl : kb = 6 := by omega
      clear h h1 h2
      go_enter Tryz.func57, Tryz.ntmps57
      go_wp2_with fail
      exact HR.out _ (below_two w _ _)
theorem fw_10a (w : World) (ba bb kb : Nat) (hA : KindAt w ba 10) (hB : KindAt w bb kb) (h5 : kb ≠ 5) (h6 : kb ≠ 6) (lv : Value) (c2 : w.cell? ⟨ba, 2, none⟩ = some lv) (r : Bool)
    (hx : ∀ w2, w2.cell? ⟨w.heap.size + 1, 0, none⟩ = some (.pointer (some ⟨bb, 0, none⟩)) → Below w.heap.size w w2 → ∀ R : Ending → World → Prop, (∀ w', Below w2.heap.size w2 w' → R (.returned (.bool r)) w') → Calls Tryz.prog 49 #[lv, .func (.func 94) #[] #[.pointer (some ⟨w.heap.size + 1, 0, none⟩)]] w2 R)
    {R : Ending → World → Prop} (hR : FitW w (!r) R) :
    FitR (.pointer (some ⟨ba, 0, none⟩)) (.pointer (some ⟨bb, 0, none⟩)) w R := by
  have HR := Lib.hid hR
  have HX := Lib.hid hx
  obtain ⟨hba, c0⟩ := hA
  obtain ⟨hbb, e0⟩ := hB
  have n1 : ((kb : Int) == 5) = false := int_ne h5
  have n2 : ((kb : Int) == 6) = false := int_ne h6
  clear hR hx h5 h6
  go_enter Tryz.func57, Tryz.ntmps57
  go_wp2_with fail
  refine HX.out _ (by rw [cell_of_block (heap_alloc_at' _ _ _ (by simp))]; rfl) (below_two w _ _) _ (fun w3 hb3 => ?_)
  have HB := Lib.hid ((below_two w _ _).trans (hb3.mono (by simp; omega)))
  clear hb3
  go_wp2_with fail
  exact HR.out _ HB.out
theorem fw_10b (w : World) (ba bb ka : Nat) (hA : KindAt w ba ka) (hB : KindAt w bb 10) (h5 : ka ≠ 5) (h10 : ka ≠ 10) (lv : Value) (c2 : w.cell? ⟨bb, 2, none⟩ = some lv) (r : Bool)
    (hx : ∀ w2, w2.cell? ⟨w.heap.size, 0, none⟩ = some (.pointer (some ⟨ba, 0, none⟩)) → Below w.heap.size w w2 → ∀ R : Ending → World → Prop, (∀ w', Below w2.heap.size w2 w' → R (.returned (.bool r)) w') → Calls Tryz.prog 49 #[lv, .func (.func 95) #[] #[.pointer (some ⟨w.heap.size, 0, none⟩)]] w2 R)
    {R : Ending → World → Prop} (hR : FitW w r R) :
    FitR (.pointer (some ⟨ba, 0, none⟩)) (.pointer (some ⟨bb, 0, none⟩)) w R := by
  have HR := Lib.hid hR
  have HX := Lib.hid hx
  obtain ⟨hba, c0⟩ := hA
  obtain ⟨hbb, e0⟩ := hB
  have n1 : ((ka : Int) == 5) = false := int_ne h5
  have n2 : ((ka : Int) == 10) = false := int_ne h10
  clear hR hx h5 h10
  go_enter Tryz.func57, Tryz.ntmps57
  go_wp2_with fail
  refine HX.out _ (by rw [cell_of_block ((heap_alloc_old _ _ (by simp)).trans (heap_alloc_new w _))]; rfl) (below_two w _ _) _ (fun w3 hb3 => ?_)
  have HB := Lib.hid ((below_two w _ _).trans (hb3.mono (by simp; omega)))
  clear hb3
  go_wp2_with fail
  exact HR.out _ HB.out
/-- The kinds that neither answer at once nor open a union. -/
def Deep (k : Nat) : Prop := k ≠ 5 ∧ k ≠ 6 ∧ k ≠ 10
theorem fw_ne (w : World) (ba bb ka kb : Nat) (hA : KindAt w ba ka) (hB : KindAt w bb kb) (h1 : ka ≠ 5) (h2 : ka ≠ 10) (h3 : Deep kb) (hne : ka ≠ kb) {R : Ending → World → Prop} (hR : FitW w false R) :
    FitR (.pointer (some ⟨ba, 0, none⟩)) (.pointer (some ⟨bb, 0, none⟩)) w R := by
  have HR := Lib.hid hR
  obtain ⟨hba, c0⟩ := hA
  obtain ⟨hbb, e0⟩ := hB
  have n1 : ((ka : Int) == 5) = false := int_ne h1
  have n2 : ((ka : Int) == 10) = false := int_ne h2
  have n3 : ((kb : Int) == 5) = false := int_ne h3.1
  have n4 : ((kb : Int) == 6) = false := int_ne h3.2.1
  have n5 : ((kb : Int) == 10) = false := int_ne h3.2.2
  have n6 : ((ka : Int) != kb) = true := by simp; omega
  clear hR h1 h2 h3 hne
  go_enter Tryz.func57, Tryz.ntmps57
  go_wp2_with fail
  go_region
  all_goals
    go_wp2_with fail
    exact HR.out _ (by first | exact below_two w _ _ | exact (below_two w _ _).drew)
theorem fw_low (w : World) (ba bb k : Nat) (hA : KindAt w ba k) (hB : KindAt w bb k) (h1 : Deep k) (h2 : k ≠ 7 ∧ k ≠ 8 ∧ k ≠ 9) {R : Ending → World → Prop} (hR : FitW w true R) :
    FitR (.pointer (some ⟨ba, 0, none⟩)) (.pointer (some ⟨bb, 0, none⟩)) w R := by
  have HR := Lib.hid hR
  obtain ⟨hba, c0⟩ := hA
  obtain ⟨hbb, e0⟩ := hB
  have n1 : ((k : Int) == 5) = false := int_ne h1.1
  have n4 : ((k : Int) == 6) = false := int_ne h1.2.1
  have n5 : ((k : Int) == 10) = false := int_ne h1.2.2
  have n6 : ((k : Int) != k) = false := by simp
  have n7 : ((k : Int) == 7) = false := int_ne h2.1
  have n8 : ((k : Int) == 8) = false := int_ne h2.2.1
  have n9 : ((k : Int) == 9) = false := int_ne h2.2.2
  clear hR h1 h2
  go_enter Tryz.func57, Tryz.ntmps57
  go_wp2_with fail
  go_region
  all_goals
    go_wp2_with fail
    exact HR.out _ (by first | exact below_two w _ _ | exact (below_two w _ _).drew)
theorem fw_7 (w : World) (ba bb : Nat) (hA : KindAt w ba 7) (hB : KindAt w bb 7) (pv : Value) (c1 : w.cell? ⟨bb, 1, none⟩ = some pv) (r : Bool)
    (hx : ∀ w2, w2.cell? ⟨w.heap.size, 0, none⟩ = some (.pointer (some ⟨ba, 0, none⟩)) → Below w.heap.size w w2 → ∀ R : Ending → World → Prop, (∀ w', Below w2.heap.size w2 w' → R (.returned (.bool r)) w') → Calls Tryz.prog 96 #[pv, .func (.func 97) #[] #[.pointer (some ⟨w.heap.size, 0, none⟩)]] w2 R)
    {R : Ending → World → Prop} (hR : FitW w (!r) R) :
    FitR (.pointer (some ⟨ba, 0, none⟩)) (.pointer (some ⟨bb, 0, none⟩)) w R := by
  have HR := Lib.hid hR
  have HX := Lib.hid hx
  obtain ⟨hba, c0⟩ := hA
  obtain ⟨hbb, e0⟩ := hB
  clear hR hx
  go_enter Tryz.func57, Tryz.ntmps57
  go_wp2_with fail
  go_region
  all_goals
    go_wp2_with fail
    refine HX.out _ (by rw [cell_of_block (heap_drew_at ((heap_alloc_old _ _ (by simp)).trans (heap_alloc_new w _)))]; rfl) (below_two w _ _).drew _ (fun w3 hb3 => ?_)
    have HB := Lib.hid ((below_two w _ _).drew.trans (hb3.mono (by simp; omega)))
    clear hb3
    go_wp2_with fail
    exact HR.out _ HB.out
set_option maxHeartbeats 1000000 in
theorem fw_8 (w : World) (ba bb : Nat) (hA : KindAt w ba 8) (hB : KindAt w bb 8) (x y : Value) (c3 : w.cell? ⟨ba, 3, none⟩ = some x) (e3 : w.cell? ⟨bb, 3, none⟩ = some y) (r : Bool) (hx : FitC x y w r)
    {R : Ending → World → Prop} (hR : FitW w r R) :
    FitR (.pointer (some ⟨ba, 0, none⟩)) (.pointer (some ⟨bb, 0, none⟩)) w R := by
  have HR := Lib.hid hR
  have HX := Lib.hid hx
  obtain ⟨hba, c0⟩ := hA
  obtain ⟨hbb, e0⟩ := hB
  clear hR hx
  go_enter Tryz.func57, Tryz.ntmps57
  go_wp2_with fail
  go_region
  all_goals go_wp2_with fail
  all_goals
    go_region_law (first | (go_simp; refine HX.out _ (by first | exact below_two w _ _ | exact (below_two w _ _).drew | exact (below_two w _ _).drew.drew) _ (fun w2 hb2 => ?_); have HB2 := Lib.hid (Below.trans (by first | exact below_two w _ _ | exact (below_two w _ _).drew | exact (below_two w _ _).drew.drew) (hb2.mono (by simp; omega))); clear hb2))
  all_goals
    go_wp2_with fail
    refine bodyPost_ret ?_ ?_ (HR.out _ HB2.out)
    · simp [results, Tryz.results57, go_sem]
    · rfl
end Go.Proofs.YtdlbhiaceheffaaGreatDoor

namespace Go.Proofs.YtdlbhiaceheffaaGreatDoor
open Go Go.RowKit
open Prt (Sat As blk pur exs star stars)
open Ty (Tr anyTo anyTo_iff anyTo_false)

set_option maxHeartbeats 2000000 in
theorem fw_9a (w : World) (ba bb : Nat) (hA : KindAt w ba 9) (hB : KindAt w bb 9) (a1 a2 : Option Addr) (n1 n2 cp1 cp2 : Nat) (c2 : w.cell? ⟨ba, 2, none⟩ = some (.slice a1 n1 cp1)) (e2 : w.cell? ⟨bb, 2, none⟩ = some (.slice a2 n2 cp2)) (hlt : n2 < n1)
    {R : Ending → World → Prop} (hR : FitW w false R) :
    FitR (.pointer (some ⟨ba, 0, none⟩)) (.pointer (some ⟨bb, 0, none⟩)) w R := by
  have HR := Lib.hid hR
  obtain ⟨hba, c0⟩ := hA
  obtain ⟨hbb, e0⟩ := hB
  have k1 : decide ((n1 : Int) ≤ n2) = false := by simp; omega
  have k2 : decide (n1 ≤ n2) = false := by simp; omega
  clear hR
  go_enter Tryz.func57, Tryz.ntmps57
  go_wp2_with fail
  go_region
  all_goals go_wp2_with fail
  all_goals go_region
  all_goals
    go_wp2_with fail
    refine HR.out _ ?_
    first | exact below_two w _ _ | exact (below_two w _ _).drew | exact (below_two w _ _).drew.drew
end Go.Proofs.YtdlbhiaceheffaaGreatDoor
