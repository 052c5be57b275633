/- Walk of types.Fit over two functions' types: both calls are made. Walk of types.Fit over two functions' types: the lists do not fit. Walk of types.Fit over two functions' types: without params. The contract of types.Fit. -/
import Derived.Test.YtdlbhiaceheffaaGreatDoorQFtB
import Derived.Deep.RegionHeld3
namespace Go.Proofs.YtdlbhiaceheffaaGreatDoor
open Go Go.RowKit
open Prt (Sat As blk pur exs star stars)
open Ty (Tr anyTo anyTo_iff anyTo_false)

theorem keepCell {w w' : World} (h : Below w.heap.size w w') {b o : Nat} {v : Value} (hc : w.cell? ⟨b, o, none⟩ = some v) : w'.cell? ⟨b, o, none⟩ = some v := by
  by_cases hb : b < w.heap.size
  · exact (h.cell (p := ⟨b, o, none⟩) hb).trans hc
  · rw [World.cell?, Array.getElem?_eq_none (by simpa using hb)] at hc; simp at hc
theorem box0 (w : World) (u v : Value) (t : TypeId) : ((w.alloc (.cells #[u] t)).alloc (.cells #[v] t)).drew.drew.cell? ⟨w.heap.size, 0, none⟩ = some u := by
  rw [cell_of_block (heap_drew_at (heap_drew_at ((heap_alloc_old _ _ (by simp)).trans (heap_alloc_new w _))))]; rfl
theorem box1 (w : World) (u v : Value) (t : TypeId) : ((w.alloc (.cells #[u] t)).alloc (.cells #[v] t)).drew.drew.cell? ⟨w.heap.size + 1, 0, none⟩ = some v := by
  rw [cell_of_block (heap_drew_at (heap_drew_at (heap_alloc_at' _ _ _ (by simp))))]; rfl
set_option maxHeartbeats 4000000 in
theorem fw_9c (w : World) (ba bb : Nat) (hA : KindAt w ba 9) (hB : KindAt w bb 9) (a1 a2 : Option Addr) (n1 n2 cp1 cp2 : Nat) (c2 : w.cell? ⟨ba, 2, none⟩ = some (.slice a1 n1 cp1)) (e2 : w.cell? ⟨bb, 2, none⟩ = some (.slice a2 n2 cp2)) (x y : Value) (c3 : w.cell? ⟨ba, 3, none⟩ = some x) (e3 : w.cell? ⟨bb, 3, none⟩ = some y) (hle : n1 ≤ n2) (hcp : n2 ≤ cp2) (ha2 : ∃ g, a2 = some ⟨g, 0, none⟩)
    (hy : ∀ w2, Below w.heap.size w w2 → ∀ R : Ending → World → Prop, (∀ w', Below w2.heap.size w2 w' → R (.returned (.bool true)) w') → Calls Tryz.prog 91 #[.slice a1 n1 cp1, .slice a2 n1 cp2, .func (.func 98) #[] #[]] w2 R)
    (r : Bool) (hx : FitC x y w r) {R : Ending → World → Prop} (hR : FitW w r R) :
    FitR (.pointer (some ⟨ba, 0, none⟩)) (.pointer (some ⟨bb, 0, none⟩)) w R := by
  have HR := Lib.hid hR
  have HX := Lib.hid hy
  have HF := Lib.hid hx
  obtain ⟨hba, c0⟩ := hA
  obtain ⟨hbb, e0⟩ := hB
  have k1 : decide ((n1 : Int) ≤ n2) = true := by simp; omega
  have k2 : decide (n1 ≤ n2) = true := by simp; omega
  obtain ⟨g, rfl⟩ := ha2
  have hcp2 : n1 ≤ cp2 := by omega
  have HZ : Hid (∀ R : Ending → World → Prop, (∀ w', w'.cell? ⟨w.heap.size, 0, none⟩ = some (.pointer (some ⟨ba, 0, none⟩)) → w'.cell? ⟨w.heap.size + 1, 0, none⟩ = some (.pointer (some ⟨bb, 0, none⟩)) → w'.cell? ⟨ba, 2, none⟩ = some (.slice a1 n1 cp1) → w'.cell? ⟨bb, 2, none⟩ = some (.slice (some ⟨g, 0, none⟩) n2 cp2) → w'.cell? ⟨ba, 3, none⟩ = some x → w'.cell? ⟨bb, 3, none⟩ = some y → Below w.heap.size w w' → R (.returned (.bool true)) w') → Calls Tryz.prog 91 #[.slice a1 n1 cp1, .slice (some ⟨g, 0, none⟩) n1 cp2, .func (.func 98) #[] #[]] ((w.alloc (.cells #[.pointer (some ⟨ba, 0, none⟩)] 47)).alloc (.cells #[.pointer (some ⟨bb, 0, none⟩)] 47)).drew.drew R) := fun R h => by
    refine HX.out _ (below_two w _ _).drew.drew _ (fun w2 hb2 => ?_)
    have hB := (below_two w _ _).drew.drew.trans (hb2.mono (by simp; omega))
    exact h w2 (keepCell hb2 (box0 w _ _ _)) (keepCell hb2 (box1 w _ _ _)) (keepCell hB c2) (keepCell hB e2) (keepCell hB c3) (keepCell hB e3) hB
  clear hR hy HX hx
  go_enter Tryz.func57, Tryz.ntmps57
  go_wp2_with fail
  go_region
  go_wp2_with fail
  go_region_held3 (fun w' => w'.cell? ⟨w.heap.size, 0, none⟩ = some (.pointer (some ⟨ba, 0, none⟩)) ∧ w'.cell? ⟨w.heap.size + 1, 0, none⟩ = some (.pointer (some ⟨bb, 0, none⟩)) ∧ w'.cell? ⟨ba, 2, none⟩ = some (.slice a1 n1 cp1) ∧ w'.cell? ⟨bb, 2, none⟩ = some (.slice (some ⟨g, 0, none⟩) n2 cp2) ∧ w'.cell? ⟨ba, 3, none⟩ = some x ∧ w'.cell? ⟨bb, 3, none⟩ = some y) (go_keep)
    (first | (go_at_call 91; refine HZ.out _ (fun w2 s0 s1 s2 s3 s4 s5 hb2 => ?_); have HB2 := Lib.hid hb2; clear hb2) | (go_at_call 57; refine HF.out _ HB2.out _ (fun w3 hb3 => ?_); have HB3 := Lib.hid (HB2.out.trans (hb3.mono HB2.out.size)); have s0 := keepCell hb3 s0; have s1 := keepCell hb3 s1; have s2 := keepCell hb3 s2; have s3 := keepCell hb3 s3; have s4 := keepCell hb3 s4; have s5 := keepCell hb3 s5; clear hb3))
  all_goals
    go_wp2_with fail
    exact HR.out _ HB3.out
end Go.Proofs.YtdlbhiaceheffaaGreatDoor

namespace Go.Proofs.YtdlbhiaceheffaaGreatDoor
open Go Go.RowKit
open Prt (Sat As blk pur exs star stars)
open Ty (Tr anyTo anyTo_iff anyTo_false)

/-- An operation is taken first: its slot is told. -/
theorem takeD {P : Program} {md : Region.Mode} {ops : Array Oper} {Q : Exit → Act → World → Prop} {S : World → Prop} (i d : Nat) {oi : Oper} {v : Value} {fuel : Nat} {listed : Array Bool} {a : Act} {w : World} (hi : ops[i]? = some oi) (hd : oi.dst = some d)
    (hs : Region.noSelect ops = true) (hf : Region.free md ops listed i = true) (hr : (Region.ready md ops listed).contains i = true)
    (hQ : ∀ c a w, Q (.panic c) (a.put (some d) v) w → Q (.panic c) a w) (hy : YieldsIf P ops S oi v a) (hS : S w)
    (h : wpAnyH P md ops Q S fuel (listed.setIfInBounds i true) (a.put (some d) v) w) : wpAnyH P md ops Q S (fuel + 1) listed a w :=
  wpAnyH_take hi hs hf hr (by rw [hd]; exact hQ) hy hS (by rw [hd]; exact h)

set_option maxRecDepth 100000 in
set_option maxHeartbeats 4000000 in
theorem fw_9b (w : World) (ba bb : Nat) (hA : KindAt w ba 9) (hB : KindAt w bb 9) (a1 a2 : Option Addr) (n1 n2 cp1 cp2 : Nat) (c2 : w.cell? ⟨ba, 2, none⟩ = some (.slice a1 n1 cp1)) (e2 : w.cell? ⟨bb, 2, none⟩ = some (.slice a2 n2 cp2)) (x y : Value) (c3 : w.cell? ⟨ba, 3, none⟩ = some x) (e3 : w.cell? ⟨bb, 3, none⟩ = some y) (hle : n1 ≤ n2) (hcp : n2 ≤ cp2) (ha2 : ∃ g, a2 = some ⟨g, 0, none⟩)
    (hy : ∀ w2, Below w.heap.size w w2 → ∀ R : Ending → World → Prop, (∀ w', Below w2.heap.size w2 w' → R (.returned (.bool false)) w') → Calls Tryz.prog 91 #[.slice a1 n1 cp1, .slice a2 n1 cp2, .func (.func 98) #[] #[]] w2 R)
    {R : Ending → World → Prop} (hR : FitW w false R) :
    FitR (.pointer (some ⟨ba, 0, none⟩)) (.pointer (some ⟨bb, 0, none⟩)) w R := by
  have HR := Lib.hid hR
  have HX := Lib.hid hy
  obtain ⟨hba, c0⟩ := hA
  obtain ⟨hbb, e0⟩ := hB
  have k1 : decide ((n1 : Int) ≤ n2) = true := by simp; omega
  have k2 : decide (n1 ≤ n2) = true := by simp; omega
  obtain ⟨g, rfl⟩ := ha2
  have hcp2 : n1 ≤ cp2 := by omega
  have HZ : Hid (∀ R : Ending → World → Prop, (∀ w', w'.cell? ⟨w.heap.size, 0, none⟩ = some (.pointer (some ⟨ba, 0, none⟩)) → w'.cell? ⟨w.heap.size + 1, 0, none⟩ = some (.pointer (some ⟨bb, 0, none⟩)) → w'.cell? ⟨ba, 2, none⟩ = some (.slice a1 n1 cp1) → w'.cell? ⟨bb, 2, none⟩ = some (.slice (some ⟨g, 0, none⟩) n2 cp2) → w'.cell? ⟨ba, 3, none⟩ = some x → w'.cell? ⟨bb, 3, none⟩ = some y → Below w.heap.size w w' → R (.returned (.bool false)) w') → Calls Tryz.prog 91 #[.slice a1 n1 cp1, .slice (some ⟨g, 0, none⟩) n1 cp2, .func (.func 98) #[] #[]] ((w.alloc (.cells #[.pointer (some ⟨ba, 0, none⟩)] 47)).alloc (.cells #[.pointer (some ⟨bb, 0, none⟩)] 47)).drew.drew R) := fun R h => by
    refine HX.out _ (below_two w _ _).drew.drew _ (fun w2 hb2 => ?_)
    have hB := (below_two w _ _).drew.drew.trans (hb2.mono (by simp; omega))
    exact h w2 (keepCell hb2 (box0 w _ _ _)) (keepCell hb2 (box1 w _ _ _)) (keepCell hB c2) (keepCell hB e2) (keepCell hB c3) (keepCell hB e3) hB
  clear hR hy HX
  go_enter Tryz.func57, Tryz.ntmps57
  go_wp2_with fail
  go_region
  go_wp2_with fail
  refine wp_region_held_drew (S := (fun w' => w'.cell? ⟨w.heap.size, 0, none⟩ = some (.pointer (some ⟨ba, 0, none⟩)) ∧ w'.cell? ⟨w.heap.size + 1, 0, none⟩ = some (.pointer (some ⟨bb, 0, none⟩)) ∧ w'.cell? ⟨ba, 2, none⟩ = some (.slice a1 n1 cp1) ∧ w'.cell? ⟨bb, 2, none⟩ = some (.slice (some ⟨g, 0, none⟩) n2 cp2))) (by kernel_rfl) (by go_keep) (fun hHeld => ?_)
  refine takeD 0 95 (v := ?_) rfl (by kernel_rfl) (by kernel_rfl) (by kernel_rfl) (by kernel_rfl) (fun _ _ _ h => h) (Or.inl ⟨by kernel_rfl, ?_⟩) (by assumption) ?_
  rotate_left
  · (intro w hSw; (try dsimp only at hSw); go_simp; try (with_reducible rfl))
  try simp only [Act.put, List.setIfInBounds_toArray, List.set_cons_zero, List.set_cons_succ]
  refine takeD 1 96 (v := ?_) rfl (by kernel_rfl) (by kernel_rfl) (by kernel_rfl) (by kernel_rfl) (fun _ _ _ h => h) (Or.inl ⟨by kernel_rfl, ?_⟩) (by assumption) ?_
  rotate_left
  · (intro w hSw; (try dsimp only at hSw); go_simp; try (with_reducible rfl))
  try simp only [Act.put, List.setIfInBounds_toArray, List.set_cons_zero, List.set_cons_succ]
  refine takeD 2 97 (v := ?_) rfl (by kernel_rfl) (by kernel_rfl) (by kernel_rfl) (by kernel_rfl) (fun _ _ _ h => h) (Or.inl ⟨by kernel_rfl, ?_⟩) (by assumption) ?_
  rotate_left
  · (intro w hSw; (try dsimp only at hSw); go_simp; try (with_reducible rfl))
  try simp only [Act.put, List.setIfInBounds_toArray, List.set_cons_zero, List.set_cons_succ]
  refine takeD 3 98 (v := ?_) rfl (by kernel_rfl) (by kernel_rfl) (by kernel_rfl) (by kernel_rfl) (fun _ _ _ h => h) (Or.inl ⟨by kernel_rfl, ?_⟩) (by assumption) ?_
  rotate_left
  · (intro w hSw; (try dsimp only at hSw); go_simp; try (with_reducible rfl))
  try simp only [Act.put, List.setIfInBounds_toArray, List.set_cons_zero, List.set_cons_succ]
  refine takeD 4 99 (v := ?_) rfl (by kernel_rfl) (by kernel_rfl) (by kernel_rfl) (by kernel_rfl) (fun _ _ _ h => h) (Or.inl ⟨by kernel_rfl, ?_⟩) (by assumption) ?_
  rotate_left
  · (intro w hSw; (try dsimp only at hSw); go_simp; try (with_reducible rfl))
  try simp only [Act.put, List.setIfInBounds_toArray, List.set_cons_zero, List.set_cons_succ]
  refine takeD 5 100 (v := ?_) rfl (by kernel_rfl) (by kernel_rfl) (by kernel_rfl) (by kernel_rfl) (fun _ _ _ h => h) (Or.inl ⟨by kernel_rfl, ?_⟩) (by assumption) ?_
  rotate_left
  · (intro w hSw; (try dsimp only at hSw); go_simp; try (with_reducible rfl))
  try simp only [Act.put, List.setIfInBounds_toArray, List.set_cons_zero, List.set_cons_succ]
  refine takeD 6 101 (v := ?_) rfl (by kernel_rfl) (by kernel_rfl) (by kernel_rfl) (by kernel_rfl) (fun _ _ _ h => h) (Or.inl ⟨by kernel_rfl, ?_⟩) (by assumption) ?_
  rotate_left
  · (intro w hSw; (try dsimp only at hSw); go_simp; try (with_reducible rfl))
  try simp only [Act.put, List.setIfInBounds_toArray, List.set_cons_zero, List.set_cons_succ]
  refine takeD 7 102 (v := ?_) rfl (by kernel_rfl) (by kernel_rfl) (by kernel_rfl) (by kernel_rfl) (fun _ _ _ h => h) (Or.inl ⟨by kernel_rfl, ?_⟩) (by assumption) ?_
  rotate_left
  · (intro w hSw; (try dsimp only at hSw); go_simp; try (with_reducible rfl))
  try simp only [Act.put, List.setIfInBounds_toArray, List.set_cons_zero, List.set_cons_succ]
  refine takeD 8 103 (v := ?_) rfl (by kernel_rfl) (by kernel_rfl) (by kernel_rfl) (by kernel_rfl) (fun _ _ _ h => h) (Or.inl ⟨by kernel_rfl, ?_⟩) (by assumption) ?_
  rotate_left
  · (intro w hSw; (try dsimp only at hSw); go_simp; try (with_reducible rfl))
  try simp only [Act.put, List.setIfInBounds_toArray, List.set_cons_zero, List.set_cons_succ]
  refine takeD 9 104 (v := ?_) rfl (by kernel_rfl) (by kernel_rfl) (by kernel_rfl) (by kernel_rfl) (fun _ _ _ h => h) (Or.inl ⟨by kernel_rfl, ?_⟩) (by assumption) ?_
  rotate_left
  · (intro w hSw; (try dsimp only at hSw); go_simp; try (with_reducible rfl))
  try simp only [Act.put, List.setIfInBounds_toArray, List.set_cons_zero, List.set_cons_succ]
  refine takeD 10 105 (v := ?_) rfl (by kernel_rfl) (by kernel_rfl) (by kernel_rfl) (by kernel_rfl) (fun _ _ _ h => h) (Or.inl ⟨by kernel_rfl, ?_⟩) (by assumption) ?_
  rotate_left
  · (intro w hSw; (try dsimp only at hSw); go_simp; try (with_reducible rfl))
  try simp only [Act.put, List.setIfInBounds_toArray, List.set_cons_zero, List.set_cons_succ]
  refine takeD 11 106 (v := ?_) rfl (by kernel_rfl) (by kernel_rfl) (by kernel_rfl) (by kernel_rfl) (fun _ _ _ h => h) (Or.inl ⟨by kernel_rfl, ?_⟩) (by assumption) ?_
  rotate_left
  · (intro w hSw; (try dsimp only at hSw); go_simp; try (with_reducible rfl))
  try simp only [Act.put, List.setIfInBounds_toArray, List.set_cons_zero, List.set_cons_succ]
  refine takeD 12 107 (v := ?_) rfl (by kernel_rfl) (by kernel_rfl) (by kernel_rfl) (by kernel_rfl) (fun _ _ _ h => h) (Or.inl ⟨by kernel_rfl, ?_⟩) (by assumption) ?_
  rotate_left
  · (intro w hSw; (try dsimp only at hSw); go_simp; try (with_reducible rfl))
  try simp only [Act.put, List.setIfInBounds_toArray, List.set_cons_zero, List.set_cons_succ]
  refine takeD 13 108 (v := ?_) rfl (by kernel_rfl) (by kernel_rfl) (by kernel_rfl) (by kernel_rfl) (fun _ _ _ h => h) (Or.inl ⟨by kernel_rfl, ?_⟩) (by assumption) ?_
  rotate_left
  · (intro w hSw; (try dsimp only at hSw); go_simp; try (with_reducible rfl))
  try simp only [Act.put, List.setIfInBounds_toArray, List.set_cons_zero, List.set_cons_succ]
  refine takeD 14 109 (v := ?_) rfl (by kernel_rfl) (by kernel_rfl) (by kernel_rfl) (by kernel_rfl) (fun _ _ _ h => h) (Or.inl ⟨by kernel_rfl, ?_⟩) (by assumption) ?_
  rotate_left
  · (intro w hSw; (try dsimp only at hSw); go_simp; try (with_reducible rfl))
  try simp only [Act.put, List.setIfInBounds_toArray, List.set_cons_zero, List.set_cons_succ]
  refine takeD 15 110 (v := ?_) rfl (by kernel_rfl) (by kernel_rfl) (by kernel_rfl) (by kernel_rfl) (fun _ _ _ h => h) (Or.inl ⟨by kernel_rfl, ?_⟩) (by assumption) ?_
  rotate_left
  · (intro w hSw; (try dsimp only at hSw); go_simp; try (with_reducible rfl))
  try simp only [Act.put, List.setIfInBounds_toArray, List.set_cons_zero, List.set_cons_succ]
  refine takeD 16 111 (v := ?_) rfl (by kernel_rfl) (by kernel_rfl) (by kernel_rfl) (by kernel_rfl) (fun _ _ _ h => h) (Or.inl ⟨by kernel_rfl, ?_⟩) (by assumption) ?_
  rotate_left
  · (intro w hSw; (try dsimp only at hSw); go_simp; try (with_reducible rfl))
  try simp only [Act.put, List.setIfInBounds_toArray, List.set_cons_zero, List.set_cons_succ]
  refine takeD 17 112 (v := ?_) rfl (by kernel_rfl) (by kernel_rfl) (by kernel_rfl) (by kernel_rfl) (fun _ _ _ h => h) (Or.inl ⟨by kernel_rfl, ?_⟩) (by assumption) ?_
  rotate_left
  · (intro w hSw; (try dsimp only at hSw); go_simp; try (with_reducible rfl))
  try simp only [Act.put, List.setIfInBounds_toArray, List.set_cons_zero, List.set_cons_succ]
  refine takeD 18 113 (v := ?_) rfl (by kernel_rfl) (by kernel_rfl) (by kernel_rfl) (by kernel_rfl) (fun _ _ _ h => h) (Or.inl ⟨by kernel_rfl, ?_⟩) (by assumption) ?_
  rotate_left
  · (intro w hSw; (try dsimp only at hSw); go_simp; try (with_reducible rfl))
  try simp only [Act.put, List.setIfInBounds_toArray, List.set_cons_zero, List.set_cons_succ]
  refine takeD 19 114 (v := ?_) rfl (by kernel_rfl) (by kernel_rfl) (by kernel_rfl) (by kernel_rfl) (fun _ _ _ h => h) (Or.inl ⟨by kernel_rfl, ?_⟩) (by assumption) ?_
  rotate_left
  · (intro w hSw; (try dsimp only at hSw); go_simp; try (with_reducible rfl))
  try simp only [Act.put, List.setIfInBounds_toArray, List.set_cons_zero, List.set_cons_succ]
  refine takeD 20 115 (v := ?_) rfl (by kernel_rfl) (by kernel_rfl) (by kernel_rfl) (by kernel_rfl) (fun _ _ _ h => h) (Or.inl ⟨by kernel_rfl, ?_⟩) (by assumption) ?_
  rotate_left
  · (intro w hSw; (try dsimp only at hSw); go_simp; try (with_reducible rfl))
  try simp only [Act.put, List.setIfInBounds_toArray, List.set_cons_zero, List.set_cons_succ]
  refine takeD 21 116 (v := ?_) rfl (by kernel_rfl) (by kernel_rfl) (by kernel_rfl) (by kernel_rfl) (fun _ _ _ h => h) (Or.inl ⟨by kernel_rfl, ?_⟩) (by assumption) ?_
  rotate_left
  · (intro w hSw; (try dsimp only at hSw); go_simp; try (with_reducible rfl))
  try simp only [Act.put, List.setIfInBounds_toArray, List.set_cons_zero, List.set_cons_succ]
  refine takeD 22 117 (v := ?_) rfl (by kernel_rfl) (by kernel_rfl) (by kernel_rfl) (by kernel_rfl) (fun _ _ _ h => h) (Or.inl ⟨by kernel_rfl, ?_⟩) (by assumption) ?_
  rotate_left
  · (intro w hSw; (try dsimp only at hSw); go_simp; try (with_reducible rfl))
  try simp only [Act.put, List.setIfInBounds_toArray, List.set_cons_zero, List.set_cons_succ]
  refine takeD 23 118 (v := ?_) rfl (by kernel_rfl) (by kernel_rfl) (by kernel_rfl) (by kernel_rfl) (fun _ _ _ h => h) (Or.inl ⟨by kernel_rfl, ?_⟩) (by assumption) ?_
  rotate_left
  · (intro w hSw; (try dsimp only at hSw); go_simp; try (with_reducible rfl))
  try simp only [Act.put, List.setIfInBounds_toArray, List.set_cons_zero, List.set_cons_succ]
  refine takeD 24 119 (v := ?_) rfl (by kernel_rfl) (by kernel_rfl) (by kernel_rfl) (by kernel_rfl) (fun _ _ _ h => h) (Or.inl ⟨by kernel_rfl, ?_⟩) (by assumption) ?_
  rotate_left
  · (intro w hSw; (try dsimp only at hSw); go_simp; try (with_reducible rfl))
  try simp only [Act.put, List.setIfInBounds_toArray, List.set_cons_zero, List.set_cons_succ]
  refine takeD 25 120 (v := ?_) rfl (by kernel_rfl) (by kernel_rfl) (by kernel_rfl) (by kernel_rfl) (fun _ _ _ h => h) (Or.inl ⟨by kernel_rfl, ?_⟩) (by assumption) ?_
  rotate_left
  · (intro w hSw; (try dsimp only at hSw); go_simp; try (with_reducible rfl))
  try simp only [Act.put, List.setIfInBounds_toArray, List.set_cons_zero, List.set_cons_succ]
  refine takeD 26 121 (v := ?_) rfl (by kernel_rfl) (by kernel_rfl) (by kernel_rfl) (by kernel_rfl) (fun _ _ _ h => h) (Or.inl ⟨by kernel_rfl, ?_⟩) (by assumption) ?_
  rotate_left
  · (intro w hSw; (try dsimp only at hSw); go_simp; try (with_reducible rfl))
  try simp only [Act.put, List.setIfInBounds_toArray, List.set_cons_zero, List.set_cons_succ]
  refine wpAnyH_ready (rs := [27]) (by kernel_rfl) (by simp) ?_
  refine AllReadyH.cons rfl (fun K hK => ?_) AllReadyH.nil
  go_simp
  go_at_call 91
  refine HZ.out _ (fun w2 s0 s1 s2 s3 s4 s5 hb2 => ?_)
  have HB2 := Lib.hid hb2
  clear hb2
  go_wp2_with fail
  refine hK.out _ _ (by go_keep) (fun hHeld2 => ?_)
  clear hK K hHeld
  try simp only [Act.put, List.setIfInBounds_toArray, List.set_cons_zero, List.set_cons_succ]
  refine takeD 28 123 (v := ?_) rfl (by kernel_rfl) (by kernel_rfl) (by kernel_rfl) (by kernel_rfl) (fun _ _ _ h => h) (Or.inl ⟨by kernel_rfl, ?_⟩) (by assumption) ?_
  rotate_left
  · (intro w hSw; (try dsimp only at hSw); go_simp; try (with_reducible rfl))
  try simp only [Act.put, List.setIfInBounds_toArray, List.set_cons_zero, List.set_cons_succ]
  refine takeD 29 124 (v := ?_) rfl (by kernel_rfl) (by kernel_rfl) (by kernel_rfl) (by kernel_rfl) (fun _ _ _ h => h) (Or.inl ⟨by kernel_rfl, ?_⟩) (by assumption) ?_
  rotate_left
  · (intro w hSw; (try dsimp only at hSw); go_simp; try (with_reducible rfl))
  try simp only [Act.put, List.setIfInBounds_toArray, List.set_cons_zero, List.set_cons_succ]
  refine takeD 30 125 (v := undef) rfl (by kernel_rfl) (by kernel_rfl) (by kernel_rfl) (by kernel_rfl) (fun _ _ _ h => h) (Or.inr ⟨by kernel_rfl, rfl⟩) (by assumption) ?_
  try simp only [Act.put, List.setIfInBounds_toArray, List.set_cons_zero, List.set_cons_succ]
  refine takeD 31 126 (v := undef) rfl (by kernel_rfl) (by kernel_rfl) (by kernel_rfl) (by kernel_rfl) (fun _ _ _ h => h) (Or.inr ⟨by kernel_rfl, rfl⟩) (by assumption) ?_
  try simp only [Act.put, List.setIfInBounds_toArray, List.set_cons_zero, List.set_cons_succ]
  refine takeD 32 127 (v := undef) rfl (by kernel_rfl) (by kernel_rfl) (by kernel_rfl) (by kernel_rfl) (fun _ _ _ h => h) (Or.inr ⟨by kernel_rfl, rfl⟩) (by assumption) ?_
  try simp only [Act.put, List.setIfInBounds_toArray, List.set_cons_zero, List.set_cons_succ]
  refine takeD 33 128 (v := undef) rfl (by kernel_rfl) (by kernel_rfl) (by kernel_rfl) (by kernel_rfl) (fun _ _ _ h => h) (Or.inr ⟨by kernel_rfl, rfl⟩) (by assumption) ?_
  try simp only [Act.put, List.setIfInBounds_toArray, List.set_cons_zero, List.set_cons_succ]
  refine takeD 34 129 (v := undef) rfl (by kernel_rfl) (by kernel_rfl) (by kernel_rfl) (by kernel_rfl) (fun _ _ _ h => h) (Or.inr ⟨by kernel_rfl, rfl⟩) (by assumption) ?_
  try simp only [Act.put, List.setIfInBounds_toArray, List.set_cons_zero, List.set_cons_succ]
  refine takeD 35 130 (v := undef) rfl (by kernel_rfl) (by kernel_rfl) (by kernel_rfl) (by kernel_rfl) (fun _ _ _ h => h) (Or.inr ⟨by kernel_rfl, rfl⟩) (by assumption) ?_
  try simp only [Act.put, List.setIfInBounds_toArray, List.set_cons_zero, List.set_cons_succ]
  refine takeD 36 131 (v := undef) rfl (by kernel_rfl) (by kernel_rfl) (by kernel_rfl) (by kernel_rfl) (fun _ _ _ h => h) (Or.inr ⟨by kernel_rfl, rfl⟩) (by assumption) ?_
  try simp only [Act.put, List.setIfInBounds_toArray, List.set_cons_zero, List.set_cons_succ]
  refine takeD 37 132 (v := undef) rfl (by kernel_rfl) (by kernel_rfl) (by kernel_rfl) (by kernel_rfl) (fun _ _ _ h => h) (Or.inr ⟨by kernel_rfl, rfl⟩) (by assumption) ?_
  try simp only [Act.put, List.setIfInBounds_toArray, List.set_cons_zero, List.set_cons_succ]
  refine takeD 38 133 (v := undef) rfl (by kernel_rfl) (by kernel_rfl) (by kernel_rfl) (by kernel_rfl) (fun _ _ _ h => h) (Or.inr ⟨by kernel_rfl, rfl⟩) (by assumption) ?_
  try simp only [Act.put, List.setIfInBounds_toArray, List.set_cons_zero, List.set_cons_succ]
  refine takeD 39 134 (v := ?_) rfl (by kernel_rfl) (by kernel_rfl) (by kernel_rfl) (by kernel_rfl) (fun _ _ _ h => h) (Or.inl ⟨by kernel_rfl, ?_⟩) (by assumption) ?_
  rotate_left
  · (intro w hSw; (try dsimp only at hSw); go_simp; try (with_reducible rfl))
  try simp only [Act.put, List.setIfInBounds_toArray, List.set_cons_zero, List.set_cons_succ]
  refine takeD 40 4 (v := ?_) rfl (by kernel_rfl) (by kernel_rfl) (by kernel_rfl) (by kernel_rfl) (fun _ _ _ h => h) (Or.inl ⟨by kernel_rfl, ?_⟩) (by assumption) ?_
  rotate_left
  · (intro w hSw; (try dsimp only at hSw); go_simp; try (with_reducible rfl))
  try simp only [Act.put, List.setIfInBounds_toArray, List.set_cons_zero, List.set_cons_succ]
  refine wpAnyH_done (by kernel_rfl) ?_ _
  all_goals
    go_wp2_with fail
    exact HR.out _ HB2.out
end Go.Proofs.YtdlbhiaceheffaaGreatDoor

namespace Go.Proofs.YtdlbhiaceheffaaGreatDoor
open Go Go.RowKit
open Prt (Sat As blk pur exs star stars)
open Ty (Tr anyTo anyTo_iff anyTo_false)

set_option maxHeartbeats 4000000 in
theorem fw_9d (w : World) (ba bb : Nat) (hA : KindAt w ba 9) (hB : KindAt w bb 9) (a1 : Option Addr) (cp1 : Nat) (c2 : w.cell? ⟨ba, 2, none⟩ = some (.slice a1 0 cp1)) (e2 : w.cell? ⟨bb, 2, none⟩ = some (.slice none 0 0)) (x y : Value) (c3 : w.cell? ⟨ba, 3, none⟩ = some x) (e3 : w.cell? ⟨bb, 3, none⟩ = some y)
    (hy : ∀ w2, Below w.heap.size w w2 → ∀ R : Ending → World → Prop, (∀ w', Below w2.heap.size w2 w' → R (.returned (.bool true)) w') → Calls Tryz.prog 91 #[.slice a1 0 cp1, .slice none 0 0, .func (.func 98) #[] #[]] w2 R)
    (r : Bool) (hx : FitC x y w r) {R : Ending → World → Prop} (hR : FitW w r R) :
    FitR (.pointer (some ⟨ba, 0, none⟩)) (.pointer (some ⟨bb, 0, none⟩)) w R := by
  have HR := Lib.hid hR
  have HX := Lib.hid hy
  have HF := Lib.hid hx
  obtain ⟨hba, c0⟩ := hA
  obtain ⟨hbb, e0⟩ := hB
  have HZ : Hid (∀ R : Ending → World → Prop, (∀ w', w'.cell? ⟨w.heap.size, 0, none⟩ = some (.pointer (some ⟨ba, 0, none⟩)) → w'.cell? ⟨w.heap.size + 1, 0, none⟩ = some (.pointer (some ⟨bb, 0, none⟩)) → w'.cell? ⟨ba, 2, none⟩ = some (.slice a1 0 cp1) → w'.cell? ⟨bb, 2, none⟩ = some (.slice none 0 0) → w'.cell? ⟨ba, 3, none⟩ = some x → w'.cell? ⟨bb, 3, none⟩ = some y → Below w.heap.size w w' → R (.returned (.bool true)) w') → Calls Tryz.prog 91 #[.slice a1 0 cp1, .slice none 0 0, .func (.func 98) #[] #[]] ((w.alloc (.cells #[.pointer (some ⟨ba, 0, none⟩)] 47)).alloc (.cells #[.pointer (some ⟨bb, 0, none⟩)] 47)).drew.drew R) := fun R h => by
    refine HX.out _ (below_two w _ _).drew.drew _ (fun w2 hb2 => ?_)
    have hB := (below_two w _ _).drew.drew.trans (hb2.mono (by simp; omega))
    exact h w2 (keepCell hb2 (box0 w _ _ _)) (keepCell hb2 (box1 w _ _ _)) (keepCell hB c2) (keepCell hB e2) (keepCell hB c3) (keepCell hB e3) hB
  clear hR hy HX hx
  go_enter Tryz.func57, Tryz.ntmps57
  go_wp2_with fail
  go_region
  go_wp2_with fail
  go_region_held3 (fun w' => w'.cell? ⟨w.heap.size, 0, none⟩ = some (.pointer (some ⟨ba, 0, none⟩)) ∧ w'.cell? ⟨w.heap.size + 1, 0, none⟩ = some (.pointer (some ⟨bb, 0, none⟩)) ∧ w'.cell? ⟨ba, 2, none⟩ = some (.slice a1 0 cp1) ∧ w'.cell? ⟨bb, 2, none⟩ = some (.slice none 0 0) ∧ w'.cell? ⟨ba, 3, none⟩ = some x ∧ w'.cell? ⟨bb, 3, none⟩ = some y) (go_keep)
    (first | (go_at_call 91; refine HZ.out _ (fun w2 s0 s1 s2 s3 s4 s5 hb2 => ?_); have HB2 := Lib.hid hb2; clear hb2) | (go_at_call 57; refine HF.out _ HB2.out _ (fun w3 hb3 => ?_); have HB3 := Lib.hid (HB2.out.trans (hb3.mono HB2.out.size)); have s0 := keepCell hb3 s0; have s1 := keepCell hb3 s1; have s2 := keepCell hb3 s2; have s3 := keepCell hb3 s3; have s4 := keepCell hb3 s4; have s5 := keepCell hb3 s5; clear hb3))
  all_goals
    go_wp2_with fail
    exact HR.out _ HB3.out
end Go.Proofs.YtdlbhiaceheffaaGreatDoor

namespace Go.Proofs.YtdlbhiaceheffaaGreatDoor
open Go Go.RowKit
open Prt (Sat As blk pur exs star stars)
open Ty (Tr anyTo anyTo_iff anyTo_false)

theorem FitC.mono {p q : Value} {w w1 : World} {r : Bool} (h : FitC p q w r) (hb : Below w.heap.size w w1) : FitC p q w1 r := fun w2 hb2 R hR => h w2 (hb.trans (hb2.mono hb.size)) R hR
theorem getD_eq {α : Type} {l : List α} {j : Nat} (h : j < l.length) (d : α) : l.getD j d = l[j] := by
  rw [List.getD_eq_getElem?_getD, List.getElem?_eq_getElem h]; rfl
theorem kind_at {w w1 : World} {b k : Nat} (hb : Below w.heap.size w w1) (h1 : b < w.heap.size) (h2 : w.cell? ⟨b, 0, none⟩ = some (.int .i64 (k : Nat))) : KindAt w1 b k := ⟨Nat.lt_of_lt_of_le h1 hb.size, keepCell hb h2⟩
theorem ok_parts {k : Nat} {names : List ByteArray} {parts list of : List Tr} (h : Ty.okT (.mk k names parts list of)) : names.length = parts.length ∧ parts.length ≤ 1000000 ∧ list.length ≤ 1000000 ∧ (1 ≤ k ∧ k ≤ 10) ∧ (k = 8 ∨ k = 9 → of.length = 1) ∧ (k ≠ 8 → k ≠ 9 → of = []) := by
  rw [Ty.okT] at h
  exact ⟨h.2.1, h.2.2.2.2.2.2.1.1, h.2.2.2.2.2.2.1.2, h.1, h.2.2.1, h.2.2.2.1⟩
/-- What a type is of, where it is of something. -/
theorem of_rep {h : Prt.Hp} {k : Nat} {names : List ByteArray} {parts list of : List Tr} {os : List Value} {ov : Value} (ho : of.length = 1) (hr : reps h of os) (hv : os = [] ∧ ov = .pointer none ∨ os = [ov]) : rep h (Ty.ofOf (.mk k names parts list of)) ov := by
  match of, ho with
  | [o], _ =>
    rw [reps] at hr
    obtain ⟨p, ps', rfl, h1, h2⟩ := hr
    rw [reps] at h2
    subst h2
    rcases hv with ⟨h3, _⟩ | h3
    · cases h3
    · cases h3; exact h1
theorem fits_mk {ka kb : Nat} {na nb : List ByteArray} {pa la oa pb lb ob : List Tr} (ha : Ty.okT (.mk ka na pa la oa)) (hb : Ty.okT (.mk kb nb pb lb ob)) : Ty.fits (.mk ka na pa la oa) (.mk kb nb pb lb ob) =
    if ka = 5 ∨ kb = 5 ∨ kb = 6 then true
    else if ka = 10 then !anyTo (fun j => !Ty.fits (la.getD j Ty.nilT) (.mk kb nb pb lb ob)) la.length
    else if kb = 10 then anyTo (fun j => Ty.fits (.mk ka na pa la oa) (lb.getD j Ty.nilT)) lb.length
    else if ka ≠ kb then false
    else if ka = 7 then !anyTo (fun j => match Ty.part na pa (nb.getD j ⟨#[]⟩) with | none => true | some t => !Ty.fits t (pb.getD j Ty.nilT)) pb.length
    else if ka = 8 then Ty.fits (Ty.ofOf (.mk ka na pa la oa)) (Ty.ofOf (.mk kb nb pb lb ob))
    else if ka = 9 then decide (la.length ≤ lb.length) && !anyTo (fun j => !(Ty.fits (la.getD j Ty.nilT) (lb.getD j Ty.nilT) || Ty.fits (lb.getD j Ty.nilT) (la.getD j Ty.nilT))) la.length && Ty.fits (Ty.ofOf (.mk ka na pa la oa)) (Ty.ofOf (.mk kb nb pb lb ob))
    else true := Ty.fits_step ha hb
set_option maxRecDepth 100000 in
theorem Fit_all (w : World) : ∀ (N : Nat) (a b : Tr) (p q : Value), Ty.sz a + Ty.sz b < N → Ty.okT a → Ty.okT b → rep (Prt.hp w) a p → rep (Prt.hp w) b q → FitC p q w (Ty.fits a b) := by
  intro N
  induction N with
  | zero => intro a b p q h; omega
  | succ N ih =>
    intro a b p q hN ha hb ra rb w1 hw R hR
    have ihR : ∀ (x y : Tr) (p q : Value), Ty.sz x + Ty.sz y < Ty.sz a + Ty.sz b → Ty.okT x → Ty.okT y → rep (Prt.hp w) x p → rep (Prt.hp w) y q → FitC p q w (Ty.fits x y) := fun x y p q h => ih x y p q (by omega)
    have gl : ∀ {j : Nat}, j < (Ty.listOf a).length → Ty.sz ((Ty.listOf a).getD j Ty.nilT) < Ty.sz a ∧ Ty.okT ((Ty.listOf a).getD j Ty.nilT) := fun h => ⟨Ty.sz_getList h, Ty.ok_getList ha h⟩
    have gm : ∀ {j : Nat}, j < (Ty.listOf b).length → Ty.sz ((Ty.listOf b).getD j Ty.nilT) < Ty.sz b ∧ Ty.okT ((Ty.listOf b).getD j Ty.nilT) := fun h => ⟨Ty.sz_getList h, Ty.ok_getList hb h⟩
    have gp : ∀ {j : Nat}, j < (Ty.partsOf b).length → Ty.sz ((Ty.partsOf b).getD j Ty.nilT) < Ty.sz b ∧ Ty.okT ((Ty.partsOf b).getD j Ty.nilT) := fun h => ⟨Ty.sz_getParts h, Ty.ok_getParts hb h⟩
    have gq : ∀ {x : ByteArray} {t : Tr}, Ty.part (Ty.namesOf a) (Ty.partsOf a) x = some t → Ty.sz t < Ty.sz a ∧ Ty.okT t := fun h => ⟨Ty.sz_part h, Ty.ok_part ha h⟩
    have so : Ty.kindOf a = 8 ∨ Ty.kindOf a = 9 → Ty.sz (Ty.ofOf a) < Ty.sz a ∧ Ty.okT (Ty.ofOf a) := fun h => ⟨Ty.sz_ofOf ha h, Ty.ok_ofOf ha h⟩
    have sp : Ty.kindOf b = 8 ∨ Ty.kindOf b = 9 → Ty.sz (Ty.ofOf b) < Ty.sz b ∧ Ty.okT (Ty.ofOf b) := fun h => ⟨Ty.sz_ofOf hb h, Ty.ok_ofOf hb h⟩
    obtain ⟨ka, na, pa, la, oa⟩ := a
    obtain ⟨kb, nb, pb, lb, ob⟩ := b
    obtain ⟨ba, pv1, lv1, ov1, ps1, ls1, os1, rfl, hba, c0, c1, c2, c3, hp1, hn1, hps1, hr1, hls1, hos1, hv1⟩ := rep_cells ra
    obtain ⟨bb, pv2, lv2, ov2, ps2, ls2, os2, rfl, hbb, e0, e1, e2, e3, hp2, hn2, hps2, hr2, hls2, hos2, hv2⟩ := rep_cells rb
    obtain ⟨oa1, oa2, oa3, oa4, oa5, oa6⟩ := ok_parts ha
    obtain ⟨ob1, ob2, ob3, ob4, ob5, ob6⟩ := ok_parts hb
    have hA : KindAt w1 ba ka := kind_at hw hba c0
    have hB : KindAt w1 bb kb := kind_at hw hbb e0
    have hR' : ∀ r, Ty.fits (.mk ka na pa la oa) (.mk kb nb pb lb ob) = r → FitW w1 r R := fun r h w2 hb2 => h ▸ hR w2 hb2
    have l1 := reps_len hls1
    have l2 := reps_len hls2
    have m1 := reps_len hps1
    have m2 := reps_len hps2
    dsimp only [Ty.kindOf, Ty.namesOf, Ty.partsOf, Ty.listOf] at gl gm gp gq so sp
    have hst := fits_mk ha hb
    by_cases h1 : ka = 5 ∨ kb = 5 ∨ kb = 6
    · rw [if_pos h1] at hst
      exact fw_true w1 ba bb ka kb hA hB h1 (hR' _ hst)
    rw [if_neg h1] at hst
    by_cases h2 : ka = 10
    · rw [if_pos h2] at hst
      subst h2
      refine fw_10a w1 ba bb kb hA hB (by omega) (by omega) lv1 (keepCell hw c2) _ (fun w2 hx hb2 R2 hR2 => ?_) (hR' _ hst)
      have hb02 := hw.trans (hb2.mono hw.size)
      rw [l1] at hR2
      refine anyT_any w2 lv1 ls1 (owns_below hr1 hb02) (by omega) 94 _ Tryz.call94 _ (fun j hj w3 hb3 R3 hR3 => ?_) hR2
      have hj2 : j < la.length := by omega
      obtain ⟨g1, g2⟩ := gl hj2
      refine fit1_any w w3 (w1.heap.size + 1) ls1[j] _ _ (keepCell hb3 hx) ?_ (hb02.trans (hb3.mono hb02.size)) hR3
      refine ihR _ _ _ _ (by omega) g2 hb ?_ rb
      rw [getD_eq hj2]; exact reps_at hls1 j hj2 hj
    rw [if_neg h2] at hst
    by_cases h3 : kb = 10
    · rw [if_pos h3] at hst
      subst h3
      refine fw_10b w1 ba bb ka hA hB (by omega) (by omega) lv2 (keepCell hw e2) _ (fun w2 hx hb2 R2 hR2 => ?_) (hR' _ hst)
      have hb02 := hw.trans (hb2.mono hw.size)
      rw [l2] at hR2
      refine anyT_any w2 lv2 ls2 (owns_below hr2 hb02) (by omega) 95 _ Tryz.call95 _ (fun j hj w3 hb3 R3 hR3 => ?_) hR2
      have hj2 : j < lb.length := by omega
      obtain ⟨g1, g2⟩ := gm hj2
      refine fit2_any w w3 w1.heap.size ls2[j] _ _ (keepCell hb3 hx) ?_ (hb02.trans (hb3.mono hb02.size)) hR3
      refine ihR _ _ _ _ (by omega) ha g2 ra ?_
      rw [getD_eq hj2]; exact reps_at hls2 j hj2 hj
    rw [if_neg h3] at hst
    by_cases h4 : ka = kb
    rotate_left
    · rw [if_pos h4] at hst
      exact fw_ne w1 ba bb ka kb hA hB (by omega) (by omega) ⟨by omega, by omega, by omega⟩ h4 (hR' _ hst)
    rw [if_neg (by omega)] at hst
    subst h4
    by_cases h7 : ka = 7
    · rw [if_pos h7] at hst
      subst h7
      refine fw_7 w1 ba bb hA hB pv2 (keepCell hw e1) _ (fun w2 hx hb2 R2 hR2 => ?_) (hR' _ hst)
      have hb02 := hw.trans (hb2.mono hw.size)
      rw [m2] at hR2
      refine anyP_any w2 pv2 nb ps2 (owns_below hp2 hb02) hn2 (by omega) 97 _ Tryz.call97 _ (fun j hj w3 hb3 R3 hR3 => ?_) hR2
      have hj2 : j < pb.length := by omega
      have hj3 : j < nb.length := by omega
      obtain ⟨g1, g2⟩ := gp hj2
      have hrj := reps_at hps2 j hj2 hj
      obtain ⟨pq, epq, _⟩ := rep_ptr hrj
      rw [epq] at hrj ⊢
      rw [getD_eq hj3] at hR3
      have hb03 := hb02.trans (hb3.mono hb02.size)
      refine fit3_any w w3 w1.heap.size (.mk 7 na pa la oa) _ nb[j] pq (fun u => Ty.fits u (pb.getD j Ty.nilT)) (keepCell hb3 hx) (by have := hb2.size; have := hb3.size; have := World.block_lt_of_cell? _ _ hx; dsimp only at this; omega) ra ha (fun u q2 hu hq => ?_) hb03 hR3
      obtain ⟨g3, g4⟩ := gq hu
      exact ihR _ _ _ _ (by omega) g4 g2 hq (by rw [getD_eq hj2]; exact hrj)
    rw [if_neg h7] at hst
    by_cases h8 : ka = 8
    · rw [if_pos h8] at hst
      subst h8
      obtain ⟨s1, s2⟩ := so (.inl rfl)
      obtain ⟨s3, s4⟩ := sp (.inl rfl)
      exact fw_8 w1 ba bb hA hB ov1 ov2 (keepCell hw c3) (keepCell hw e3) _ (FitC.mono (ihR _ _ _ _ (by omega) s2 s4 (of_rep (oa5 (.inl rfl)) hos1 hv1) (of_rep (ob5 (.inl rfl)) hos2 hv2)) hw) (hR' _ hst)
    rw [if_neg h8] at hst
    by_cases h9 : ka = 9
    · rw [if_pos h9] at hst
      subst h9
      obtain ⟨s1, s2⟩ := so (.inr rfl)
      obtain ⟨s3, s4⟩ := sp (.inr rfl)
      have hofs := FitC.mono (ihR _ _ _ _ (by omega) s2 s4 (of_rep (oa5 (.inr rfl)) hos1 hv1) (of_rep (ob5 (.inr rfl)) hos2 hv2)) hw
      have r1 := hr1
      have r2 := hr2
      obtain ⟨a1, cp1, rfl⟩ := owns_slice hr1
      by_cases hle : la.length ≤ lb.length
      rotate_left
      · rw [decide_eq_false hle, Bool.false_and, Bool.false_and] at hst
        obtain ⟨a2, cp2, rfl⟩ := owns_slice hr2
        exact fw_9a w1 ba bb hA hB a1 a2 ls1.length ls2.length cp1 cp2 (keepCell hw c2) (keepCell hw e2) (by omega) (hR' _ hst)
      rw [decide_eq_true hle, Bool.true_and] at hst
      have hboth : ∀ (a2 : Option Addr) (cp2 : Nat), w.ownsRow 0 47 1 (.slice a2 ls1.length cp2) ls1.length (ls2.take ls1.length) → ∀ w2, Below w1.heap.size w1 w2 → ∀ R2 : Ending → World → Prop, (∀ w', Below w2.heap.size w2 w' → R2 (.returned (.bool (!anyTo (fun j => !(Ty.fits (la.getD j Ty.nilT) (lb.getD j Ty.nilT) || Ty.fits (lb.getD j Ty.nilT) (la.getD j Ty.nilT))) la.length))) w') → Calls Tryz.prog 91 #[.slice a1 ls1.length cp1, .slice a2 ls1.length cp2, .func (.func 98) #[] #[]] w2 R2 := by
        intro a2 cp2 ht w2 hb2 R2 hR2
        have hb02 := hw.trans (hb2.mono hw.size)
        have htl : (ls2.take ls1.length).length = ls1.length := by rw [List.length_take]; omega
        rw [l1] at hR2
        refine both_any w2 _ _ ls1 (ls2.take ls1.length) (owns_below r1 hb02) (by rw [htl]; exact owns_below ht hb02) (by omega) 98 Tryz.call98 (fun j => Ty.fits (la.getD j Ty.nilT) (lb.getD j Ty.nilT) || Ty.fits (lb.getD j Ty.nilT) (la.getD j Ty.nilT)) (fun j hj hj2 w3 hb3 R3 hR3 => ?_) (fun w' hb' => ?_)
        · have hj3 : j < la.length := by omega
          have hj4 : j < lb.length := by omega
          have hj5 : j < ls2.length := by omega
          obtain ⟨g1, g2⟩ := gl hj3
          obtain ⟨g3, g4⟩ := gm hj4
          have x1 : rep (Prt.hp w) (la.getD j Ty.nilT) ls1[j] := by rw [getD_eq hj3]; exact reps_at hls1 j hj3 hj
          have x2 : rep (Prt.hp w) (lb.getD j Ty.nilT) (ls2.take ls1.length)[j] := by rw [getD_eq hj4, List.getElem_take]; exact reps_at hls2 j hj4 hj5
          exact fit4_any w w3 _ _ _ _ (ihR _ _ _ _ (by omega) g2 g4 x1 x2) (ihR _ _ _ _ (by omega) g4 g2 x2 x1) (hb02.trans (hb3.mono hb02.size)) hR3
        · have := hR2 w' hb'
          rw [decide_eq_true htl.symm, Bool.true_and]; exact this
      rcases hr2.2 with ⟨rfl, h0⟩ | ⟨g, cap, cur, rfl, _, _, hcap, _⟩
      · have h01 : ls1 = [] := List.eq_nil_of_length_eq_zero (by omega)
        subst h01
        have hb0 := hboth none 0 ⟨by simp, .inl ⟨rfl, rfl⟩⟩
        have hla : la.length = 0 := by simp at l1; omega
        rw [hla] at hb0 hst
        rw [show anyTo _ 0 = false from rfl, Bool.not_false] at hb0 hst
        rw [Bool.true_and] at hst
        exact fw_9d w1 ba bb hA hB a1 cp1 (keepCell hw c2) (keepCell hw e2) ov1 ov2 (keepCell hw c3) (keepCell hw e3) hb0 _ hofs (hR' _ hst)
      · have hb0 := hboth (some ⟨g, 0, none⟩) cap (owns_take r2 (by omega))
        cases hany : anyTo (fun j => !(Ty.fits (la.getD j Ty.nilT) (lb.getD j Ty.nilT) || Ty.fits (lb.getD j Ty.nilT) (la.getD j Ty.nilT))) la.length with
        | true =>
          rw [hany] at hb0 hst
          rw [Bool.not_true, Bool.false_and] at hst
          exact fw_9b w1 ba bb hA hB a1 (some ⟨g, 0, none⟩) ls1.length ls2.length cp1 cap (keepCell hw c2) (keepCell hw e2) ov1 ov2 (keepCell hw c3) (keepCell hw e3) (by omega) hcap ⟨g, rfl⟩ hb0 (hR' _ hst)
        | false =>
          rw [hany] at hb0 hst
          rw [Bool.not_false, Bool.true_and] at hst
          exact fw_9c w1 ba bb hA hB a1 (some ⟨g, 0, none⟩) ls1.length ls2.length cp1 cap (keepCell hw c2) (keepCell hw e2) ov1 ov2 (keepCell hw c3) (keepCell hw e3) (by omega) hcap ⟨g, rfl⟩ hb0 _ hofs (hR' _ hst)
    rw [if_neg h9] at hst
    exact fw_low w1 ba bb ka hA hB ⟨by omega, by omega, by omega⟩ ⟨h7, h8, h9⟩ (hR' _ hst)
end Go.Proofs.YtdlbhiaceheffaaGreatDoor
