/- Walks of types.Tags. Walks of types.asked, Same, Fits. Walks of types.Same, types.Fits, and of typesBegun. -/
import Derived.Test.YtdlbhiaceheffaaGreatDoorQTg
import Derived.Test.YtdlbhiaceheffaaGreatDoorQAl
import Derived.Test.YtdlbhiaceheffaaGreatDoorQPlainB
namespace Go.Proofs.YtdlbhiaceheffaaGreatDoor
open Go Go.RowKit
open Prt (Sat As blk pur exs star stars)
open Ty (Tr anyTo anyTo_iff anyTo_false)

/-- The tree of a text that is a type alone. -/
def treeOf (s : ByteArray) : Except Ty.Ft Tr := match Ty.typeOf s with
  | .error f => .error f
  | .ok ts => .ok (Ty.den ts (ts.length - 1))
theorem treeOf_ok {s : ByteArray} {t : Tr} (h : treeOf s = .ok t) : Ty.okT t ∧ Ty.uniT t ∧ Ty.cnt t ≤ 300 := by
  unfold treeOf at h
  split at h
  · cases h
  · rename_i ts e
    cases h
    obtain ⟨h1, h2, h3⟩ := Ty.typeOf_wf e
    exact ⟨Ty.den_ok h1 _ _ (Nat.lt_succ_self _) (by omega), Ty.den_uni h1 _ _ (Nat.lt_succ_self _) (by omega), by have := Ty.typeOf_cnt e; omega⟩
theorem treeOf_bad {s : ByteArray} {f : Ty.Ft} (h : treeOf s = .error f) : f.1 ≠ 0 := by
  unfold treeOf at h
  split at h
  · rename_i g e; cases h; exact Ty.typeOf_bad e
  · cases h
theorem treeOf_of_ok {s : ByteArray} {ts : List Ty.Ty} (h : Ty.typeOf s = .ok ts) : treeOf s = .ok (Ty.den ts (ts.length - 1)) := by unfold treeOf; rw [h]
theorem treeOf_of_err {s : ByteArray} {f : Ty.Ft} (h : Ty.typeOf s = .error f) : treeOf s = .error f := by unfold treeOf; rw [h]
theorem openFrom_cons (s : ByteArray) (l : List ByteArray) (acc : List Tr) : openFrom (s :: l) acc = match treeOf s with | .error f => .error f | .ok t => openFrom l (acc ++ [t]) := by
  rw [openFrom]; unfold treeOf
  cases Ty.typeOf s <;> rfl
theorem strs_owns {w : World} {b : Nat} {l : List ByteArray} (h : w.heap[b]? = some (.cells (l.map Value.string).toArray 9 (0, 0))) (hl : l.length ≤ maxLen) : w.ownsRow 0 9 1 (.slice (some ⟨b, 0, none⟩) l.length l.length) l.length (l.map Value.string) :=
  row_owns (Prt.row_of_blk (a := Prt.hp w) h hl (by simp) rfl)

set_option maxRecDepth 100000 in
set_option maxHeartbeats 1000000 in
theorem Tags_any (w : World) (s : ByteArray) (hw : Words w) (hm : s.size ≤ maxLen) {R : Ending → World → Prop}
    (hok : ∀ t w', treeOf s = .ok t → Below w.heap.size w w' → R (.returned (.tuple #[.int .i64 (Ty.tags t : Nat), ftVal (0, 0)])) w')
    (hbad : ∀ f w', treeOf s = .error f → Below w.heap.size w w' → R (.returned (.tuple #[.int .i64 0, ftVal f])) w') :
    Calls Tryz.prog 29 #[.string s] w R := by
  have HOK := Lib.hid hok
  have HBAD := Lib.hid hbad
  have HW := Lib.hid hw
  have HMX := Lib.hid hm
  clear hok hbad hw hm
  go_enter Tryz.func29, Tryz.ntmps29
  go_wp2_with fail
  have h1 := (Prt.Sat.old w).allocAt (.cells #[.int .i64 0, .int .i64 0] 25) w.heap.size
  have h2 := h1.waste (.cells #[.string s] 9)
  have hb2 := h2.isBelow
  refine topen_any _ (.slice (some ⟨w.heap.size + 1, 0, none⟩) 1 1) [s] (strs_owns (l := [s]) (heap_alloc_at' _ _ _ (by simp)) (by unfold maxLen; simp)) (by simp) (HW.out.below hb2) (fun x hx => by simp at hx; subst hx; exact HMX.out) (fun trs ps pv w1 ho h3 => ?_) (fun f w1 ho hb => ?_)
  · rw [openFrom_cons] at ho
    cases ht : treeOf s with
    | error f => rw [ht] at ho; cases ho
    | ok t =>
      rw [ht] at ho
      cases ho
      have hrs : reps (Prt.hp w1) [t] ps := h3.get (i := 2) rfl fun _ ha hl => reps_le hl _ _ ha
      rw [reps] at hrs
      obtain ⟨p, ps', rfl, hrep, he⟩ := hrs
      rw [reps] at he
      subst he
      obtain ⟨pb, rfl, _⟩ := rep_ptr hrep
      obtain ⟨g, cap, rfl, hg, d0⟩ := ptrs_at (h3.row 1 rfl) 0 (by simp)
      have h4 := h2.join h3
      have x0 := h4.cell 1 rfl 0 rfl
      have x1 := h4.cell 1 rfl 1 rfl
      have fx := h4.free 1 rfl
      have hx := h4.lt 1 rfl
      have hx2 : w.heap.size < w1.heap.size + 1 := by omega
      have H4 := Lib.hid h4
      have HT := Lib.hid ht
      have HREP := Lib.hid hrep
      have HOKT := Lib.hid (treeOf_ok ht).1
      have HTG : Hid (∀ w2, Below w1.heap.size w1 w2 → ∀ R : Ending → World → Prop, R (.returned (.int .i64 (Ty.tags t : Nat))) w2 → Calls Tryz.prog 58 #[.pointer (some ⟨pb, 0, none⟩)] w2 R) := fun w2 hb2 R hR =>
        TagsOf_any w2 _ t (Nat.lt_succ_self _) HOKT.out _ (rep_below HREP.out hb2) R hR
      have HB0 : Hid (Below w1.heap.size w1 ((w1.alloc (.cells #[.int .i64 0, .int .i64 0] 25)).drew)) := ((Below.refl _ _).alloc (Nat.le_refl _) _).drew
      replace d0 : w1.cell? ⟨g, 0, none⟩ = some (.pointer (some ⟨pb, 0, none⟩)) := d0
      clear h1 h2 hb2 h3 h4 ht hrep
      dsimp only [ftVal]
      go_wp2_with fail
      go_region_law (first | (go_simp; go_at_call 58; refine HTG.out _ HB0.out _ ?_))
      all_goals
        go_wp2_with fail
        refine bodyPost_ret ?_ rfl (HOK.out t _ HT.out ?_)
        · simp [results, Tryz.results29, go_sem, ftVal, hx, x0, x1]
        · exact Prt.Sat.isBelow ((((H4.out.store 1 rfl 0 (.int .i64 0)).store 1 rfl 1 (.int .i64 0)).waste _).drew)
  · rw [openFrom_cons] at ho
    cases ht : treeOf s with
    | ok t => rw [ht] at ho; cases ho
    | error f2 =>
      rw [ht] at ho
      cases ho
      have hbd := treeOf_bad ht
      obtain ⟨fe, fp⟩ := f
      dsimp only at hbd
      have e2 : ((fe : Int) != 0) = true := by simp; omega
      have h4 := h2.below hb
      have x0 := h4.cell 1 rfl 0 rfl
      have x1 := h4.cell 1 rfl 1 rfl
      have fx := h4.free 1 rfl
      have hx := h4.lt 1 rfl
      have hx2 : w.heap.size < w1.heap.size + 1 := by omega
      have H4 := Lib.hid h4
      have HT := Lib.hid ht
      clear h1 h2 hb2 h4 ht hbd hb
      dsimp only [ftVal]
      go_wp2_with fail
      go_region
      all_goals
        go_wp2_with fail
        refine bodyPost_ret ?_ rfl (HBAD.out (fe, fp) _ HT.out ?_)
        · simp [results, Tryz.results29, go_sem, ftVal, hx, x0, x1]
        · exact Prt.Sat.isBelow ((((H4.out.store 1 rfl 0 (.int .i64 fe)).store 1 rfl 1 (.int .i64 fp)).waste _).drew)
end Go.Proofs.YtdlbhiaceheffaaGreatDoor

namespace Go.Proofs.YtdlbhiaceheffaaGreatDoor
open Go Go.RowKit
open Prt (Sat As blk pur exs star stars)
open Ty (Tr anyTo anyTo_iff anyTo_false)

/-- What is asked of two texts. -/
def askedM (is : Tr → Tr → Bool) (a b : ByteArray) : Except Ty.Ft Bool := match treeOf a with
  | .error f => .error f
  | .ok x => match treeOf b with
    | .error f => .error f
    | .ok y => .ok (is x y)
/-- A function of two trees in memory. -/
def IsF (F : FuncId) (is : Tr → Tr → Bool) : Prop := ∀ (w : World) (a b : Tr) (p q : Value), Ty.okT a → Ty.okT b → rep (Prt.hp w) a p → rep (Prt.hp w) b q → ∀ R : Ending → World → Prop, (∀ w2, Below w.heap.size w w2 → R (.returned (.bool (is a b))) w2) → Calls Tryz.prog F #[p, q] w R
theorem isF_alike : IsF 51 Ty.alike := fun w a b p q ha hb ra rb R hR => Alike_all w _ a b p q (Nat.lt_succ_self _) ha hb ra rb w (Below.refl _ _) R hR
theorem isF_fits : IsF 57 Ty.fits := fun w a b p q ha hb ra rb R hR => Fit_all w _ a b p q (Nat.lt_succ_self _) ha hb ra rb w (Below.refl _ _) R hR
set_option maxRecDepth 100000 in
set_option maxHeartbeats 2000000 in
theorem asked_any (F : FuncId) (hc : ∀ (args : Array Value) (w : World), (callFunc F args).run Tryz.prog w = .ok (.enter F args) w) (is : Tr → Tr → Bool) (hF : IsF F is) (w : World) (s1 s2 : ByteArray) (hw : Words w) (hm1 : s1.size ≤ maxLen) (hm2 : s2.size ≤ maxLen) {R : Ending → World → Prop}
    (hok : ∀ r w', askedM is s1 s2 = .ok r → Below w.heap.size w w' → R (.returned (.tuple #[.bool r, ftVal (0, 0)])) w')
    (hbad : ∀ f w', askedM is s1 s2 = .error f → Below w.heap.size w w' → R (.returned (.tuple #[.bool false, ftVal f])) w') :
    Calls Tryz.prog 56 #[.string s1, .string s2, .func (.func F) #[] #[]] w R := by
  have HOK := Lib.hid hok
  have HBAD := Lib.hid hbad
  have HW := Lib.hid hw
  have HMX := Lib.hid hm1
  have HMY := Lib.hid hm2
  have HF := Lib.hid hF
  clear hok hbad hw hm1 hm2 hF
  go_enter Tryz.func56, Tryz.ntmps56
  go_wp2_with fail
  have h1 := (Prt.Sat.old w).allocAt (.cells #[.int .i64 0, .int .i64 0] 25) w.heap.size
  have h2 := h1.waste (.cells #[.string s1, .string s2] 9)
  have hb2 := h2.isBelow
  refine topen_any _ (.slice (some ⟨w.heap.size + 1, 0, none⟩) 2 2) [s1, s2] (strs_owns (l := [s1, s2]) (heap_alloc_at' _ _ _ (by simp)) (by unfold maxLen; simp)) (by simp) (HW.out.below hb2) (fun x hx => by simp at hx; rcases hx with rfl | rfl <;> first | exact HMX.out | exact HMY.out) (fun trs ps pv w1 ho h3 => ?_) (fun f w1 ho hb => ?_)
  · rw [openFrom_cons] at ho
    cases ht : treeOf s1 with
    | error f => rw [ht] at ho; cases ho
    | ok t =>
      rw [ht] at ho
      dsimp only at ho
      rw [openFrom_cons] at ho
      cases hu : treeOf s2 with
      | error f => rw [hu] at ho; cases ho
      | ok u =>
        rw [hu] at ho
        cases ho
        have hrs : reps (Prt.hp w1) [t, u] ps := h3.get (i := 2) rfl fun _ ha hl => reps_le hl _ _ ha
        rw [reps] at hrs
        obtain ⟨p, ps', rfl, hrep, he⟩ := hrs
        rw [reps] at he
        obtain ⟨q, ps', rfl, hreq, he⟩ := he
        rw [reps] at he
        subst he
        obtain ⟨pb, rfl, _⟩ := rep_ptr hrep
        obtain ⟨qb, rfl, _⟩ := rep_ptr hreq
        obtain ⟨g, cap, rfl, hg, d0⟩ := ptrs_at (h3.row 1 rfl) 0 (by simp)
        obtain ⟨g2, cap2, e2, _, d1⟩ := ptrs_at (h3.row 1 rfl) 1 (by simp)
        cases e2
        have h4 := h2.join h3
        have x0 := h4.cell 1 rfl 0 rfl
        have x1 := h4.cell 1 rfl 1 rfl
        have fx := h4.free 1 rfl
        have hx := h4.lt 1 rfl
        have hx2 : w.heap.size < w1.heap.size + 1 := by omega
        have H4 := Lib.hid h4
        have HT : Hid (askedM is s1 s2 = .ok (is t u)) := by show askedM is s1 s2 = _; unfold askedM; rw [ht, hu]
        have HREP := Lib.hid hrep
        have HREQ := Lib.hid hreq
        have HOKT := Lib.hid (treeOf_ok ht).1
        have HOKU := Lib.hid (treeOf_ok hu).1
        have HTG : Hid (∀ w2, Below w1.heap.size w1 w2 → ∀ R : Ending → World → Prop, (∀ w3, Below w2.heap.size w2 w3 → R (.returned (.bool (is t u))) w3) → Calls Tryz.prog F #[.pointer (some ⟨pb, 0, none⟩), .pointer (some ⟨qb, 0, none⟩)] w2 R) := fun w2 hb2 R hR =>
          HF.out w2 t u _ _ HOKT.out HOKU.out (rep_below HREP.out hb2) (rep_below HREQ.out hb2) R hR
        have HB0 : Hid (Below w1.heap.size w1 ((w1.alloc (.cells #[.int .i64 0, .int .i64 0] 25)).drew)) := ((Below.refl _ _).alloc (Nat.le_refl _) _).drew
        replace d0 : w1.cell? ⟨g, 0, none⟩ = some (.pointer (some ⟨pb, 0, none⟩)) := d0
        replace d1 : w1.cell? ⟨g, 1, none⟩ = some (.pointer (some ⟨qb, 0, none⟩)) := d1
        clear h1 h2 hb2 h3 h4 ht hu hrep hreq
        dsimp only [ftVal]
        go_wp2_with fail
        go_region_law (first | (go_simp; refine HTG.out _ HB0.out _ (fun w3 hb3 => ?_); have H5 := Lib.hid ((H4.out.waste (.cells #[.int .i64 0, .int .i64 0] 25)).drew.below hb3); have h6 := (H4.out.allocAt (.cells #[.int .i64 0, .int .i64 0] 25) w1.heap.size).drew.below hb3; have y0 := h6.cell 4 rfl 0 rfl; have y1 := h6.cell 4 rfl 1 rfl; have z0 := h6.cell 1 rfl 0 rfl; have z1 := h6.cell 1 rfl 1 rfl; have fz := h6.free 1 rfl; have hz := h6.lt 1 rfl; clear h6 hb3))
        all_goals
          go_wp2_with fail
          refine bodyPost_ret ?_ rfl (HOK.out _ _ HT.out ?_)
          · simp [results, Tryz.results56, go_sem, ftVal, z0, z1]
          · exact Prt.Sat.isBelow ((H5.out.store 1 rfl 0 (.int .i64 0)).store 1 rfl 1 (.int .i64 0))
  · have hE : askedM is s1 s2 = .error f := by
      unfold askedM
      rw [openFrom_cons] at ho
      cases ht : treeOf s1 with
      | error f2 => rw [ht] at ho; cases ho; rfl
      | ok t =>
        rw [ht] at ho
        dsimp only at ho
        rw [openFrom_cons] at ho
        cases hu : treeOf s2 with
        | ok u => rw [hu] at ho; cases ho
        | error f2 => rw [hu] at ho; cases ho; rfl
    have hbd : f.1 ≠ 0 := by
      unfold askedM at hE
      split at hE
      · rename_i g e; cases hE; exact treeOf_bad e
      · split at hE
        · rename_i g e; cases hE; exact treeOf_bad e
        · cases hE
    obtain ⟨fe, fp⟩ := f
    dsimp only at hbd
    have e2 : ((fe : Int) != 0) = true := by simp; omega
    have h4 := h2.below hb
    have x0 := h4.cell 1 rfl 0 rfl
    have x1 := h4.cell 1 rfl 1 rfl
    have fx := h4.free 1 rfl
    have hx := h4.lt 1 rfl
    have hx2 : w.heap.size < w1.heap.size + 1 := by omega
    have H4 := Lib.hid h4
    have HT := Lib.hid hE
    clear h1 h2 hb2 h4 hE hbd hb ho
    dsimp only [ftVal]
    go_wp2_with fail
    go_region
    all_goals
      go_wp2_with fail
      refine bodyPost_ret ?_ rfl (HBAD.out (fe, fp) _ HT.out ?_)
      · simp [results, Tryz.results56, go_sem, ftVal, hx, x0, x1]
      · exact Prt.Sat.isBelow ((((H4.out.store 1 rfl 0 (.int .i64 fe)).store 1 rfl 1 (.int .i64 fp)).waste _).drew)
end Go.Proofs.YtdlbhiaceheffaaGreatDoor

namespace Go.Proofs.YtdlbhiaceheffaaGreatDoor
open Go Go.RowKit
open Prt (Sat As blk pur exs star stars)
open Ty (Tr anyTo anyTo_iff anyTo_false)

set_option maxRecDepth 100000 in
theorem Fits_any (w : World) (s1 s2 : ByteArray) (hw : Words w) (hm1 : s1.size ≤ maxLen) (hm2 : s2.size ≤ maxLen) {R : Ending → World → Prop}
    (hok : ∀ r w', askedM Ty.fits s1 s2 = .ok r → Below w.heap.size w w' → R (.returned (.tuple #[.bool r, ftVal (0, 0)])) w')
    (hbad : ∀ f w', askedM Ty.fits s1 s2 = .error f → Below w.heap.size w w' → R (.returned (.tuple #[.bool false, ftVal f])) w') :
    Calls Tryz.prog 28 #[.string s1, .string s2] w R := by
  have HOK := Lib.hid hok
  have HBAD := Lib.hid hbad
  have HW := Lib.hid hw
  have HMX := Lib.hid hm1
  have HMY := Lib.hid hm2
  clear hok hbad hw hm1 hm2
  go_enter Tryz.func28, Tryz.ntmps28
  go_wp2_with fail
  have h1 := (Prt.Sat.old w).allocAt (.cells #[.int .i64 0, .int .i64 0] 25) w.heap.size
  refine asked_any 57 Tryz.call57 Ty.fits isF_fits _ s1 s2 (HW.out.below h1.isBelow) HMX.out HMY.out (fun r w1 ho hb => ?_) (fun f w1 ho hb => ?_)
  · have h4 := h1.below hb
    have x0 := h4.cell 1 rfl 0 rfl
    have x1 := h4.cell 1 rfl 1 rfl
    have fx := h4.free 1 rfl
    have hx := h4.lt 1 rfl
    have H4 := Lib.hid h4
    have HT := Lib.hid ho
    clear h1 h4 ho hb
    dsimp only [ftVal]
    go_wp2_with fail
    refine bodyPost_ret ?_ rfl (HOK.out r _ HT.out ?_)
    · simp [results, Tryz.results28, go_sem, ftVal, x0, x1]
    · exact Prt.Sat.isBelow ((H4.out.store 1 rfl 0 (.int .i64 0)).store 1 rfl 1 (.int .i64 0))
  · have h4 := h1.below hb
    have x0 := h4.cell 1 rfl 0 rfl
    have x1 := h4.cell 1 rfl 1 rfl
    have fx := h4.free 1 rfl
    have hx := h4.lt 1 rfl
    have H4 := Lib.hid h4
    have HT := Lib.hid ho
    obtain ⟨fe, fp⟩ := f
    clear h1 h4 ho hb
    dsimp only [ftVal]
    go_wp2_with fail
    refine bodyPost_ret ?_ rfl (HBAD.out (fe, fp) _ HT.out ?_)
    · simp [results, Tryz.results28, go_sem, ftVal, x0, x1]
    · exact Prt.Sat.isBelow ((H4.out.store 1 rfl 0 (.int .i64 fe)).store 1 rfl 1 (.int .i64 fp))

theorem typeOf_num : Ty.typeOf ⟨#[110, 117, 109]⟩ = .ok [⟨1, [], [], 0⟩] := by kernel_rfl
theorem typeOf_text : Ty.typeOf ⟨#[116, 101, 120, 116]⟩ = .ok [⟨3, [], [], 0⟩] := by kernel_rfl
theorem typeOf_numText : Ty.typeOf ⟨#[110, 117, 109, 32, 124, 32, 116, 101, 120, 116]⟩ = .ok [⟨1, [], [], 0⟩, ⟨3, [], [], 0⟩, ⟨10, [], [0, 1], 0⟩] := by kernel_rfl
theorem typeOf_numNull : Ty.typeOf ⟨#[110, 117, 109, 32, 124, 32, 110, 117, 108, 108]⟩ = .ok [⟨1, [], [], 0⟩, ⟨4, [], [], 0⟩, ⟨10, [], [0, 1], 0⟩] := by kernel_rfl
theorem treeOf_num : treeOf ⟨#[110, 117, 109]⟩ = .ok (.mk 1 [] [] [] []) := by
  unfold treeOf; rw [typeOf_num]; dsimp only; rw [Ty.den]; rfl
theorem treeOf_text : treeOf ⟨#[116, 101, 120, 116]⟩ = .ok (.mk 3 [] [] [] []) := by
  unfold treeOf; rw [typeOf_text]; dsimp only; rw [Ty.den]; rfl
theorem den_pair (k : Nat) : Ty.den [⟨1, [], [], 0⟩, ⟨k, [], [], 0⟩, ⟨10, [], [0, 1], 0⟩] 2 = .mk 10 [] [] [.mk 1 [] [] [] [], .mk k [] [] [] (if k = 8 ∨ k = 9 then [.mk 1 [] [] [] []] else [])] [] := by
  have h0 : Ty.den [⟨1, [], [], 0⟩, ⟨k, [], [], 0⟩, ⟨10, [], [0, 1], 0⟩] 0 = .mk 1 [] [] [] [] := by rw [Ty.den]; rfl
  have h1 : Ty.den [⟨1, [], [], 0⟩, ⟨k, [], [], 0⟩, ⟨10, [], [0, 1], 0⟩] 1 = .mk k [] [] [] (if k = 8 ∨ k = 9 then [.mk 1 [] [] [] []] else []) := by
    rw [Ty.den]
    simp [h0]
  rw [Ty.den]
  simp [h0, h1]
theorem treeOf_numText : treeOf ⟨#[110, 117, 109, 32, 124, 32, 116, 101, 120, 116]⟩ = .ok (.mk 10 [] [] [.mk 1 [] [] [] [], .mk 3 [] [] [] []] []) := by
  unfold treeOf; rw [typeOf_numText]; exact congrArg Except.ok (den_pair 3)
theorem treeOf_numNull : treeOf ⟨#[110, 117, 109, 32, 124, 32, 110, 117, 108, 108]⟩ = .ok (.mk 10 [] [] [.mk 1 [] [] [] [], .mk 4 [] [] [] []] []) := by
  unfold treeOf; rw [typeOf_numNull]; exact congrArg Except.ok (den_pair 4)
theorem asked_yes : askedM Ty.fits ⟨#[110, 117, 109]⟩ ⟨#[110, 117, 109, 32, 124, 32, 116, 101, 120, 116]⟩ = .ok true := by
  unfold askedM; rw [treeOf_num, treeOf_numText]; rfl
theorem asked_no : askedM Ty.fits ⟨#[116, 101, 120, 116]⟩ ⟨#[110, 117, 109]⟩ = .ok false := by
  unfold askedM; rw [treeOf_num, treeOf_text]; rfl
theorem tags_numNull : Ty.tags (.mk 10 [] [] [.mk 1 [] [] [] [], .mk 4 [] [] [] []] []) = 9 := by decide

set_option maxRecDepth 100000 in
theorem typesBegun_any (w : World) (hw : Words w) {R : Ending → World → Prop} (hR : ∀ w', Below w.heap.size w w' → R (.returned (.bool true)) w') :
    Calls Tryz.prog 10 #[] w R := by
  have HR := Lib.hid hR
  have HW := Lib.hid hw
  clear hR hw
  go_enter Tryz.func10, Tryz.ntmps10
  go_wp2_with fail
  refine Fits_any w _ _ HW.out (by decide) (by decide) (fun r w1 ho hb => ?_) (fun f w1 ho hb => ?_)
  rotate_left
  · rw [asked_yes] at ho; cases ho
  rw [asked_yes] at ho
  cases ho
  have h1 := ((Prt.Sat.old w).below hb).allocAt (.cells #[.int .i64 0, .int .i64 0] 25) w1.heap.size
  have H1 := Lib.hid h1
  clear hb h1
  dsimp only [ftVal]
  go_wp2_with fail
  refine Fits_any _ _ _ (HW.out.below H1.out.isBelow) (by decide) (by decide) (fun r w2 ho hb => ?_) (fun f w2 ho hb => ?_)
  rotate_left
  · rw [asked_no] at ho; cases ho
  rw [asked_no] at ho
  cases ho
  have h2 := (H1.out.below hb).allocAt (.cells #[.int .i64 0, .int .i64 0] 25) w2.heap.size
  have H2 := Lib.hid h2
  clear hb h2
  dsimp only [ftVal]
  go_wp2_with fail
  refine Tags_any _ _ (HW.out.below H2.out.isBelow) (by decide) (fun t w3 ho hb => ?_) (fun f w3 ho hb => ?_)
  rotate_left
  · rw [treeOf_numNull] at ho; cases ho
  rw [treeOf_numNull] at ho
  cases ho
  rw [tags_numNull]
  have h3 := (H2.out.below hb).allocAt (.cells #[.int .i64 0, .int .i64 0] 25) w3.heap.size
  have x0 := h3.cell 1 rfl 0 rfl
  have y0 := h3.cell 2 rfl 0 rfl
  have z0 := h3.cell 3 rfl 0 rfl
  have H3 := Lib.hid h3
  clear hb h3
  dsimp only [ftVal]
  go_wp2_with fail
  exact HR.out _ H3.out.isBelow
end Go.Proofs.YtdlbhiaceheffaaGreatDoor
