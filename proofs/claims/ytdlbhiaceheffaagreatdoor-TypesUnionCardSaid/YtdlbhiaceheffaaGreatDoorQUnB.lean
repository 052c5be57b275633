/- Walks of types.Text and types.Union. -/
import Derived.Test.YtdlbhiaceheffaaGreatDoorQSh
import Derived.Test.YtdlbhiaceheffaaGreatDoorQTrB
import Derived.Test.YtdlbhiaceheffaaGreatDoorQTt
namespace Go.Proofs.YtdlbhiaceheffaaGreatDoor
open Go Go.RowKit
open Prt (Sat As blk pur exs star stars)
open Ty (Tr)

set_option maxRecDepth 100000 in
set_option maxHeartbeats 2000000 in
theorem Text_any (w : World) (t : Tr) (p : Value) (hr : rep (Prt.hp w) t p) (hok : Ty.okT t) (hu : Ty.uniT t) (hs : Ty.shortT t) (hc : Ty.cnt t ≤ 1000000) {R : Ending → World → Prop}
    (hR : ∀ w', Below w.heap.size w w' → R (.returned (.string (bs (Ty.text t)))) w') :
    Calls Tryz.prog 24 #[p] w R := by
  have HR := Lib.hid hR
  have hlen := Ty.put_len t []
  have hnum := Ty.put_num t []
  have hden := Ty.put_den t [] hok
  have hwf := Ty.put_wf t [] hok hu Ty.Wf.nil
  rw [List.length_nil, Nat.zero_add] at hlen
  have HAR : Hid (∀ R : Ending → World → Prop, (∀ lv' w' n, Below w.heap.size w w' → TxtC lv' w' n (Ty.text t) → R (.returned (.tuple #[lv', .int .i64 (n : Nat)])) w') → Calls Tryz.prog 47 #[.slice none 0 0, p] w R) := fun R2 h2 => by
    refine arena_all w _ t (Nat.lt_succ_self _) hok p hr w w (fun _ => True) (.slice none 0 0) [] ((((Prt.Sat.old w).triv (P := tyA (.slice none 0 0) []) (fun _ => tyA_nil _)).triv (P := fun _ => True) (fun _ => trivial)).pick [2, 0, 1]) (by simp; omega) R2 (fun lv' w' h3 => ?_)
    obtain ⟨rows, hts, hrd⟩ := h3.tyRd 2 rfl
    have ht := TypeText_all w' lv' rows _ hts hwf (by omega) hrd _ (Ty.put t []).2 (Nat.lt_succ_self _) (by omega) (by rw [hden]; exact hs) (by rw [hden]; exact hc)
    rw [hden] at ht
    exact h2 lv' w' _ (h3.pick [1]).isBelow ht
  obtain ⟨pb, rfl, _⟩ := rep_ptr hr
  clear hR hr hlen hnum hden hwf
  go_enter Tryz.func24, Tryz.ntmps24
  go_wp2_with fail
  refine HAR.out _ (fun lv' w1 n hb1 ht => ?_)
  have HT := Lib.hid ht
  have HB1 := Lib.hid hb1
  clear hb1 ht
  go_wp2_with fail
  refine HT.out _ (Below.refl _ _) _ (fun w2 hb2 => ?_)
  have HB2 := Lib.hid (HB1.out.trans (hb2.mono HB1.out.size))
  clear hb2
  go_wp2_with fail
  exact HR.out _ HB2.out
theorem treeOf_nm {s : ByteArray} {t : Tr} (h : treeOf s = .ok t) : Ty.nmT t := by
  unfold treeOf at h
  split at h
  · cases h
  · rename_i ts e
    cases h
    obtain ⟨h1, h2, _⟩ := Ty.typeOf_wf e
    exact Ty.den_nm h1 (Ty.typeOf_nm e) _ _ (Nat.lt_succ_self _) (by omega)
theorem openFrom_all : ∀ (l : List ByteArray) (acc trs : List Tr), openFrom l acc = .ok trs → (∀ t ∈ acc, Ty.okT t ∧ Ty.uniT t ∧ Ty.nmT t) → Ty.cntL trs ≤ Ty.cntL acc + 300 * l.length ∧ ∀ t ∈ trs, Ty.okT t ∧ Ty.uniT t ∧ Ty.nmT t
  | [], acc, trs, h, ha => by rw [openFrom] at h; cases h; exact ⟨by simp, ha⟩
  | s :: l, acc, trs, h, ha => by
    rw [openFrom_cons] at h
    cases ht : treeOf s with
    | error f => rw [ht] at h; cases h
    | ok t =>
      rw [ht] at h
      obtain ⟨h1, h2, h3⟩ := treeOf_ok ht
      obtain ⟨g1, g2⟩ := openFrom_all l _ _ h fun u hu => by
        rw [List.mem_append] at hu
        rcases hu with hu | hu
        · exact ha u hu
        · simp at hu; subst hu; exact ⟨h1, h2, treeOf_nm ht⟩
      rw [Ty.cntL_snoc] at g1
      exact ⟨by rw [List.length_cons]; omega, g2⟩
theorem openFrom_bad : ∀ (l : List ByteArray) (acc : List Tr) (f : Ty.Ft), openFrom l acc = .error f → f.1 ≠ 0
  | [], acc, f, h => by rw [openFrom] at h; cases h
  | s :: l, acc, f, h => by
    rw [openFrom_cons] at h
    cases ht : treeOf s with
    | error g => rw [ht] at h; cases h; exact treeOf_bad ht
    | ok t => rw [ht] at h; exact openFrom_bad l _ f h
/-- What types.Union comes to. -/
def unionM (l : List ByteArray) : Except Ty.Ft (List UInt8) := if 50 < l.length then .error (2, 0) else match openFrom l [] with
  | .error f => .error f
  | .ok trs => .ok (Ty.text (Ty.joinT trs))
set_option maxRecDepth 100000 in
set_option maxHeartbeats 4000000 in
theorem UnionS_any (w : World) (v : Value) (l : List ByteArray) (hv : StrSl w v l) (hw : Words w) (hm : ∀ s ∈ l, s.size ≤ maxLen) {R : Ending → World → Prop}
    (hok : ∀ r w', unionM l = .ok r → Below w.heap.size w w' → R (.returned (.tuple #[.string (bs r), ftVal (0, 0)])) w')
    (hbad : ∀ f w', unionM l = .error f → Below w.heap.size w w' → R (.returned (.tuple #[.string ⟨#[]⟩, ftVal f])) w') :
    Calls Tryz.prog 8 #[v] w R := by
  have HOK := Lib.hid hok
  have HBAD := Lib.hid hbad
  have HW := Lib.hid hw
  have HMX := Lib.hid hm
  have HV := Lib.hid hv
  obtain ⟨va, vc, rfl⟩ := hv.slice
  have h1 := (Prt.Sat.old w).allocAt (.cells #[.int .i64 0, .int .i64 0] 25) w.heap.size
  have hb1 := h1.isBelow
  clear hok hbad hw hm hv
  by_cases h50 : 50 < l.length
  · have k0 : decide ((50 : Int) < l.length) = true := decide_eq_true (by omega)
    have k1 : decide (50 < l.length) = true := decide_eq_true h50
    have HE : Hid (unionM l = .error (2, 0)) := by show unionM l = _; unfold unionM; rw [if_pos h50]
    have x0 := h1.cell 1 rfl 0 rfl
    have x1 := h1.cell 1 rfl 1 rfl
    have H1 := Lib.hid h1
    clear h50 h1 hb1
    go_enter Tryz.func8, Tryz.ntmps8
    go_wp2_with fail
    refine bodyPost_ret ?_ rfl (HBAD.out (2, 0) _ HE.out ?_)
    · simp [results, Tryz.results8, go_sem, ftVal]
    · exact (Below.refl _ _).alloc (Nat.le_refl _) _
  · have k0 : decide ((50 : Int) < l.length) = false := decide_eq_false (by omega)
    have k1 : decide (50 < l.length) = false := decide_eq_false h50
    have HL : Hid (l.length ≤ 50) := by show _ ≤ _; omega
    have HU : Hid (unionM l = match openFrom l [] with | .error f => .error f | .ok trs => .ok (Ty.text (Ty.joinT trs))) := by show unionM l = _; unfold unionM; rw [if_neg h50]
    have HB1 := Lib.hid hb1
    have H1 := Lib.hid h1
    clear h50 h1 hb1
    go_enter Tryz.func8, Tryz.ntmps8
    go_wp2_with fail
    refine topenS_any _ (.slice va l.length vc) l (HV.out.below HB1.out) (by have := HL.out; omega) (HW.out.below HB1.out) HMX.out (fun trs ps pv w1 ho h3 => ?_) (fun f w1 ho hb => ?_)
    · have hfine := openFrom_all l [] trs ho (fun t ht => by simp at ht)
      have hl := HL.out
      have hcn : Ty.cntL trs ≤ 900000 := by have := hfine.1; simp only [Ty.cntL] at this; omega
      have hokL := Ty.okL_of (l := trs) fun t ht => (hfine.2 t ht).1
      have huL := Ty.uniL_of (l := trs) fun t ht => (hfine.2 t ht).2.1
      have hnL := Ty.nmL_of (l := trs) fun t ht => (hfine.2 t ht).2.2
      obtain ⟨j1, j2, j3, j4⟩ := Ty.joinT_fine hokL huL hnL hcn
      have hrs : reps (Prt.hp w1) trs ps := h3.get (i := 2) rfl fun _ ha hl => reps_le hl _ _ ha
      have hrow := h3.row 1 rfl
      have HT : Hid (unionM l = .ok (Ty.text (Ty.joinT trs))) := by show unionM l = _; rw [HU.out, ho]
      have HJ : Hid (∀ w2, Below w1.heap.size w1 w2 → ∀ R : Ending → World → Prop, (∀ p w3, Below w2.heap.size w2 w3 → rep (Prt.hp w3) (Ty.joinT trs) p → R (.returned p) w3) → Calls Tryz.prog 25 #[pv] w2 R) := fun w2 hb2 R hR =>
        Join_any w1 w2 hb2 trs ps hokL huL (by omega) hrs pv (owns_below hrow hb2) hR
      have HX : Hid (∀ p w2, rep (Prt.hp w2) (Ty.joinT trs) p → ∀ R : Ending → World → Prop, (∀ w3, Below w2.heap.size w2 w3 → R (.returned (.string (bs (Ty.text (Ty.joinT trs))))) w3) → Calls Tryz.prog 24 #[p] w2 R) := fun p w2 hr R hR =>
        Text_any w2 _ p hr j1 j2 (Ty.nm_short _ j3) j4 hR
      obtain ⟨pa, pc, rfl⟩ := owns_slice hrow
      have h4 := H1.out.join h3
      have x0 := h4.cell 1 rfl 0 rfl
      have x1 := h4.cell 1 rfl 1 rfl
      have fx := h4.free 1 rfl
      have hx := h4.lt 1 rfl
      have hx2 : w.heap.size < w1.heap.size + 1 := by omega
      have H4 := Lib.hid h4
      have HB0 : Hid (Below w1.heap.size w1 ((w1.alloc (.cells #[.int .i64 0, .int .i64 0] 25)).drew)) := ((Below.refl _ _).alloc (Nat.le_refl _) _).drew
      clear h3 h4 ho hfine hl hcn hokL huL hnL j1 j2 j3 j4 hrs hrow
      obtain ⟨tx, htx⟩ : ∃ tx, bs (Ty.text (Ty.joinT trs)) = tx := ⟨_, rfl⟩
      rw [htx] at HX
      have HTX := Lib.hid htx
      clear htx
      dsimp only [ftVal]
      go_wp2_with fail
      go_region_law (first | (go_simp; refine HJ.out _ HB0.out _ (fun p w3 hb3 hrep => ?_); have H5 := Lib.hid ((H4.out.allocAt (.cells #[.int .i64 0, .int .i64 0] 25) w1.heap.size).drew.below hb3); have a0 := H5.out.cell 4 rfl 0 rfl; have a1 := H5.out.cell 4 rfl 1 rfl; have HREP := Lib.hid hrep; obtain ⟨pb, rfl, _⟩ := rep_ptr hrep; clear hb3 hrep) | (go_simp; refine HX.out _ _ HREP.out _ (fun w4 hb4 => ?_); have H6 := Lib.hid (H5.out.below hb4); have y0 := H6.out.cell 4 rfl 0 rfl; have y1 := H6.out.cell 4 rfl 1 rfl; have z0 := H6.out.cell 1 rfl 0 rfl; have z1 := H6.out.cell 1 rfl 1 rfl; have fz := H6.out.free 1 rfl; have hz := H6.out.lt 1 rfl; clear hb4))
      all_goals
        go_wp2_with fail
        refine bodyPost_ret ?_ rfl (HOK.out _ _ HT.out ?_)
        · rw [HTX.out]; simp [results, Tryz.results8, go_sem, ftVal, z0, z1]
        · exact Prt.Sat.isBelow ((H6.out.store 1 rfl 0 (.int .i64 0)).store 1 rfl 1 (.int .i64 0))
    · have hE : unionM l = .error f := by rw [HU.out, ho]
      have hbd := openFrom_bad _ _ _ ho
      obtain ⟨fe, fp⟩ := f
      dsimp only at hbd
      have e2 : ((fe : Int) != 0) = true := by simp; omega
      have h4 := H1.out.below hb
      have x0 := h4.cell 1 rfl 0 rfl
      have x1 := h4.cell 1 rfl 1 rfl
      have fx := h4.free 1 rfl
      have hx := h4.lt 1 rfl
      have hx2 : w.heap.size < w1.heap.size + 1 := by omega
      have H4 := Lib.hid h4
      have HT := Lib.hid hE
      clear h4 hE hbd hb ho
      dsimp only [ftVal]
      go_wp2_with fail
      go_region
      all_goals
        go_wp2_with fail
        refine bodyPost_ret ?_ rfl (HBAD.out (fe, fp) _ HT.out ?_)
        · simp [results, Tryz.results8, go_sem, ftVal, hx, x0, x1]
        · exact Prt.Sat.isBelow ((((H4.out.store 1 rfl 0 (.int .i64 fe)).store 1 rfl 1 (.int .i64 fp)).waste _).drew)
theorem Union_any (w : World) (v : Value) (l : List ByteArray) (hv : w.ownsRow 0 9 1 v l.length (l.map Value.string)) (hw : Words w) (hm : ∀ s ∈ l, s.size ≤ maxLen) {R : Ending → World → Prop}
    (hok : ∀ r w', unionM l = .ok r → Below w.heap.size w w' → R (.returned (.tuple #[.string (bs r), ftVal (0, 0)])) w')
    (hbad : ∀ f w', unionM l = .error f → Below w.heap.size w w' → R (.returned (.tuple #[.string ⟨#[]⟩, ftVal f])) w') :
    Calls Tryz.prog 8 #[v] w R := UnionS_any w v l (.of_owns hv) hw hm hok hbad
end Go.Proofs.YtdlbhiaceheffaaGreatDoor
