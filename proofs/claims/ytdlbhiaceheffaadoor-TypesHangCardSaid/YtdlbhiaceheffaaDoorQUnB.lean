/- Walks of types.Text and types.Union. Walks of the reference's Common, and of hasWild. -/
import Derived.Test.YtdlbhiaceheffaaDoorQSh
import Derived.Test.YtdlbhiaceheffaaDoorQTrB
import Derived.Test.YtdlbhiaceheffaaDoorQTt
import Derived.Test.YtdlbhiaceheffaaDoorQTypesFit
import Derived.Test.YtdlbhiaceheffaaDoorQTrC
namespace Go.Proofs.YtdlbhiaceheffaaDoor
open Go Go.RowKit
open Prt (Sat As blk pur exs star stars)
open Ty (Tr)

set_option maxRecDepth 100000 in
set_option maxHeartbeats 2000000 in
theorem Text_any (w : World) (t : Tr) (p : Value) (hr : rep (Prt.hp w) t p) (hok : Ty.okT t) (hu : Ty.uniT t) (hs : Ty.shortT t) (hc : Ty.cnt t ≤ 1000000) {R : Ending → World → Prop}
    (hR : ∀ w', Below w.heap.size w w' → R (.returned (.string (bs (Ty.text t)))) w') :
    Calls Tryd.prog 40 #[p] w R := by
  have HR := Lib.hid hR
  have hlen := Ty.put_len t []
  have hnum := Ty.put_num t []
  have hden := Ty.put_den t [] hok
  have hwf := Ty.put_wf t [] hok hu Ty.Wf.nil
  rw [List.length_nil, Nat.zero_add] at hlen
  have HAR : Hid (∀ R : Ending → World → Prop, (∀ lv' w' n, Below w.heap.size w w' → TxtC lv' w' n (Ty.text t) → R (.returned (.tuple #[lv', .int .i64 (n : Nat)])) w') → Calls Tryd.prog 63 #[.slice none 0 0, p] w R) := fun R2 h2 => by
    refine arena_all w _ t (Nat.lt_succ_self _) hok p hr w w (fun _ => True) (.slice none 0 0) [] ((((Prt.Sat.old w).triv (P := tyA (.slice none 0 0) []) (fun _ => tyA_nil _)).triv (P := fun _ => True) (fun _ => trivial)).pick [2, 0, 1]) (by simp; omega) R2 (fun lv' w' h3 => ?_)
    obtain ⟨rows, hts, hrd⟩ := h3.tyRd 2 rfl
    have ht := TypeText_all w' lv' rows _ hts hwf (by omega) hrd _ (Ty.put t []).2 (Nat.lt_succ_self _) (by omega) (by rw [hden]; exact hs) (by rw [hden]; exact hc)
    rw [hden] at ht
    exact h2 lv' w' _ (h3.pick [1]).isBelow ht
  obtain ⟨pb, rfl, _⟩ := rep_ptr hr
  clear hR hr hlen hnum hden hwf
  go_enter Tryd.func40, Tryd.ntmps40
  go_wp2_with fail
  refine HAR.out _ (fun lv' w1 n hb1 ht => ?_)
  have HT := Lib.hid ht
  have HB1 := Lib.hid hb1
  clear hb1 ht
  go_wp2_with fail
  refine HT.out _ (Below.refl _ _) _ (fun w2 hb2 => ?_)
  have HB2 := Lib.hid (HB1.out.trans (hb2.mono HB1.out.size))
  clear hb2
  go_wp2_with fail
  exact HR.out _ HB2.out
theorem treeOf_nm {s : ByteArray} {t : Tr} (h : treeOf s = .ok t) : Ty.nmT t := by
  unfold treeOf at h
  split at h
  · cases h
  · rename_i ts e
    cases h
    obtain ⟨h1, h2, _⟩ := Ty.typeOf_wf e
    exact Ty.den_nm h1 (Ty.typeOf_nm e) _ _ (Nat.lt_succ_self _) (by omega)
theorem openFrom_all : ∀ (l : List ByteArray) (acc trs : List Tr), openFrom l acc = .ok trs → (∀ t ∈ acc, Ty.okT t ∧ Ty.uniT t ∧ Ty.nmT t) → Ty.cntL trs ≤ Ty.cntL acc + 300 * l.length ∧ ∀ t ∈ trs, Ty.okT t ∧ Ty.uniT t ∧ Ty.nmT t
  | [], acc, trs, h, ha => by rw [openFrom] at h; cases h; exact ⟨by simp, ha⟩
  | s :: l, acc, trs, h, ha => by
    rw [openFrom_cons] at h
    cases ht : treeOf s with
    | error f => rw [ht] at h; cases h
    | ok t =>
      rw [ht] at h
      obtain ⟨h1, h2, h3⟩ := treeOf_ok ht
      obtain ⟨g1, g2⟩ := openFrom_all l _ _ h fun u hu => by
        rw [List.mem_append] at hu
        rcases hu with hu | hu
        · exact ha u hu
        · simp at hu; subst hu; exact ⟨h1, h2, treeOf_nm ht⟩
      rw [Ty.cntL_snoc] at g1
      exact ⟨by rw [List.length_cons]; omega, g2⟩
theorem openFrom_bad : ∀ (l : List ByteArray) (acc : List Tr) (f : Ty.Ft), openFrom l acc = .error f → f.1 ≠ 0
  | [], acc, f, h => by rw [openFrom] at h; cases h
  | s :: l, acc, f, h => by
    rw [openFrom_cons] at h
    cases ht : treeOf s with
    | error g => rw [ht] at h; cases h; exact treeOf_bad ht
    | ok t => rw [ht] at h; exact openFrom_bad l _ f h
/-- What types.Union comes to. -/
def unionM (l : List ByteArray) : Except Ty.Ft (List UInt8) := if 50 < l.length then .error (2, 0) else match openFrom l [] with
  | .error f => .error f
  | .ok trs => .ok (Ty.text (Ty.joinT trs))
set_option maxRecDepth 100000 in
set_option maxHeartbeats 4000000 in
theorem UnionS_any (w : World) (v : Value) (l : List ByteArray) (hv : StrSl w v l) (hw : Words w) (hm : ∀ s ∈ l, s.size ≤ maxLen) {R : Ending → World → Prop}
    (hok : ∀ r w', unionM l = .ok r → Below w.heap.size w w' → R (.returned (.tuple #[.string (bs r), ftVal (0, 0)])) w')
    (hbad : ∀ f w', unionM l = .error f → Below w.heap.size w w' → R (.returned (.tuple #[.string ⟨#[]⟩, ftVal f])) w') :
    Calls Tryd.prog 21 #[v] w R := by
  have HOK := Lib.hid hok
  have HBAD := Lib.hid hbad
  have HW := Lib.hid hw
  have HMX := Lib.hid hm
  have HV := Lib.hid hv
  obtain ⟨va, vc, rfl⟩ := hv.slice
  have h1 := (Prt.Sat.old w).allocAt (.cells #[.int .i64 0, .int .i64 0] 25) w.heap.size
  have hb1 := h1.isBelow
  clear hok hbad hw hm hv
  by_cases h50 : 50 < l.length
  · have k0 : decide ((50 : Int) < l.length) = true := decide_eq_true (by omega)
    have k1 : decide (50 < l.length) = true := decide_eq_true h50
    have HE : Hid (unionM l = .error (2, 0)) := by show unionM l = _; unfold unionM; rw [if_pos h50]
    have x0 := h1.cell 1 rfl 0 rfl
    have x1 := h1.cell 1 rfl 1 rfl
    have H1 := Lib.hid h1
    clear h50 h1 hb1
    go_enter Tryd.func21, Tryd.ntmps21
    go_wp2_with fail
    refine bodyPost_ret ?_ rfl (HBAD.out (2, 0) _ HE.out ?_)
    · simp [results, Tryd.results21, go_sem, ftVal]
    · exact (Below.refl _ _).alloc (Nat.le_refl _) _
  · have k0 : decide ((50 : Int) < l.length) = false := decide_eq_false (by omega)
    have k1 : decide (50 < l.length) = false := decide_eq_false h50
    have HL : Hid (l.length ≤ 50) := by show _ ≤ _; omega
    have HU : Hid (unionM l = match openFrom l [] with | .error f => .error f | .ok trs => .ok (Ty.text (Ty.joinT trs))) := by show unionM l = _; unfold unionM; rw [if_neg h50]
    have HB1 := Lib.hid hb1
    have H1 := Lib.hid h1
    clear h50 h1 hb1
    go_enter Tryd.func21, Tryd.ntmps21
    go_wp2_with fail
    refine topenS_any _ (.slice va l.length vc) l (HV.out.below HB1.out) (by have := HL.out; omega) (HW.out.below HB1.out) HMX.out (fun trs ps pv w1 ho h3 => ?_) (fun f w1 ho hb => ?_)
    · have hfine := openFrom_all l [] trs ho (fun t ht => by simp at ht)
      have hl := HL.out
      have hcn : Ty.cntL trs ≤ 900000 := by have := hfine.1; simp only [Ty.cntL] at this; omega
      have hokL := Ty.okL_of (l := trs) fun t ht => (hfine.2 t ht).1
      have huL := Ty.uniL_of (l := trs) fun t ht => (hfine.2 t ht).2.1
      have hnL := Ty.nmL_of (l := trs) fun t ht => (hfine.2 t ht).2.2
      obtain ⟨j1, j2, j3, j4⟩ := Ty.joinT_fine hokL huL hnL hcn
      have hrs : reps (Prt.hp w1) trs ps := h3.get (i := 2) rfl fun _ ha hl => reps_le hl _ _ ha
      have hrow := h3.row 1 rfl
      have HT : Hid (unionM l = .ok (Ty.text (Ty.joinT trs))) := by show unionM l = _; rw [HU.out, ho]
      have HJ : Hid (∀ w2, Below w1.heap.size w1 w2 → ∀ R : Ending → World → Prop, (∀ p w3, Below w2.heap.size w2 w3 → rep (Prt.hp w3) (Ty.joinT trs) p → R (.returned p) w3) → Calls Tryd.prog 41 #[pv] w2 R) := fun w2 hb2 R hR =>
        Join_any w1 w2 hb2 trs ps hokL huL (by omega) hrs pv (owns_below hrow hb2) hR
      have HX : Hid (∀ p w2, rep (Prt.hp w2) (Ty.joinT trs) p → ∀ R : Ending → World → Prop, (∀ w3, Below w2.heap.size w2 w3 → R (.returned (.string (bs (Ty.text (Ty.joinT trs))))) w3) → Calls Tryd.prog 40 #[p] w2 R) := fun p w2 hr R hR =>
        Text_any w2 _ p hr j1 j2 (Ty.nm_short _ j3) j4 hR
      obtain ⟨pa, pc, rfl⟩ := owns_slice hrow
      have h4 := H1.out.join h3
      have x0 := h4.cell 1 rfl 0 rfl
      have x1 := h4.cell 1 rfl 1 rfl
      have fx := h4.free 1 rfl
      have hx := h4.lt 1 rfl
      have hx2 : w.heap.size < w1.heap.size + 1 := by omega
      have H4 := Lib.hid h4
      have HB0 : Hid (Below w1.heap.size w1 ((w1.alloc (.cells #[.int .i64 0, .int .i64 0] 25)).drew)) := ((Below.refl _ _).alloc (Nat.le_refl _) _).drew
      clear h3 h4 ho hfine hl hcn hokL huL hnL j1 j2 j3 j4 hrs hrow
      obtain ⟨tx, htx⟩ : ∃ tx, bs (Ty.text (Ty.joinT trs)) = tx := ⟨_, rfl⟩
      rw [htx] at HX
      have HTX := Lib.hid htx
      clear htx
      dsimp only [ftVal]
      go_wp2_with fail
      go_region_law (first | (go_simp; refine HJ.out _ HB0.out _ (fun p w3 hb3 hrep => ?_); have H5 := Lib.hid ((H4.out.allocAt (.cells #[.int .i64 0, .int .i64 0] 25) w1.heap.size).drew.below hb3); have a0 := H5.out.cell 4 rfl 0 rfl; have a1 := H5.out.cell 4 rfl 1 rfl; have HREP := Lib.hid hrep; obtain ⟨pb, rfl, _⟩ := rep_ptr hrep; clear hb3 hrep) | (go_simp; refine HX.out _ _ HREP.out _ (fun w4 hb4 => ?_); have H6 := Lib.hid (H5.out.below hb4); have y0 := H6.out.cell 4 rfl 0 rfl; have y1 := H6.out.cell 4 rfl 1 rfl; have z0 := H6.out.cell 1 rfl 0 rfl; have z1 := H6.out.cell 1 rfl 1 rfl; have fz := H6.out.free 1 rfl; have hz := H6.out.lt 1 rfl; clear hb4))
      all_goals
        go_wp2_with fail
        refine bodyPost_ret ?_ rfl (HOK.out _ _ HT.out ?_)
        · rw [HTX.out]; simp [results, Tryd.results21, go_sem, ftVal, z0, z1]
        · exact Prt.Sat.isBelow ((H6.out.store 1 rfl 0 (.int .i64 0)).store 1 rfl 1 (.int .i64 0))
    · have hE : unionM l = .error f := by rw [HU.out, ho]
      have hbd := openFrom_bad _ _ _ ho
      obtain ⟨fe, fp⟩ := f
      dsimp only at hbd
      have e2 : ((fe : Int) != 0) = true := by simp; omega
      have h4 := H1.out.below hb
      have x0 := h4.cell 1 rfl 0 rfl
      have x1 := h4.cell 1 rfl 1 rfl
      have fx := h4.free 1 rfl
      have hx := h4.lt 1 rfl
      have hx2 : w.heap.size < w1.heap.size + 1 := by omega
      have H4 := Lib.hid h4
      have HT := Lib.hid hE
      clear h4 hE hbd hb ho
      dsimp only [ftVal]
      go_wp2_with fail
      go_region
      all_goals
        go_wp2_with fail
        refine bodyPost_ret ?_ rfl (HBAD.out (fe, fp) _ HT.out ?_)
        · simp [results, Tryd.results21, go_sem, ftVal, hx, x0, x1]
        · exact Prt.Sat.isBelow ((((H4.out.store 1 rfl 0 (.int .i64 fe)).store 1 rfl 1 (.int .i64 fp)).waste _).drew)
theorem Union_any (w : World) (v : Value) (l : List ByteArray) (hv : w.ownsRow 0 9 1 v l.length (l.map Value.string)) (hw : Words w) (hm : ∀ s ∈ l, s.size ≤ maxLen) {R : Ending → World → Prop}
    (hok : ∀ r w', unionM l = .ok r → Below w.heap.size w w' → R (.returned (.tuple #[.string (bs r), ftVal (0, 0)])) w')
    (hbad : ∀ f w', unionM l = .error f → Below w.heap.size w w' → R (.returned (.tuple #[.string ⟨#[]⟩, ftVal f])) w') :
    Calls Tryd.prog 21 #[v] w R := UnionS_any w v l (.of_owns hv) hw hm hok hbad
end Go.Proofs.YtdlbhiaceheffaaDoor

namespace Go.Proofs.YtdlbhiaceheffaaDoor
open Go Go.RowKit
open Prt (Sat As blk pur exs star stars)
open Ty (Tr)

theorem and_bit (a b i : Nat) : (a &&& b) / 2 ^ i % 2 = 1 ↔ a / 2 ^ i % 2 = 1 ∧ b / 2 ^ i % 2 = 1 := by
  have h : ∀ x : Nat, x / 2 ^ i % 2 = 1 ↔ x.testBit i = true := fun x => by rw [Nat.testBit_eq_decide_div_mod_eq]; simp
  rw [h, h, h, Nat.testBit_and]; simp
theorem and_of_or {a b : Nat} (h : a ||| b = b) : a &&& b = a := by
  apply Nat.eq_of_testBit_eq
  intro i
  have h1 := congrArg (fun x => Nat.testBit x i) h
  simp only [Nat.testBit_or, Nat.testBit_and] at h1 ⊢
  cases ha : a.testBit i <;> cases hb : b.testBit i <;> simp_all
set_option maxRecDepth 100000 in
set_option maxHeartbeats 1000000 in
theorem Common_any (a b : Nat) (ha : a < 128) (hb : b < 128) (w : World) {R : Ending → World → Prop} (hR : R (.returned (.int .i64 (a &&& b : Nat))) w) :
    Calls Tryd.prog 23 #[.int .i64 a, .int .i64 b] w R := by
  have HR := Lib.hid hR
  clear hR
  have hab := Lib.hid (Nat.lt_of_le_of_lt (Nat.and_le_left (n := a) (m := b)) ha)
  go_enter Tryd.func23, Tryd.ntmps23
  go_wp2_with fail
  go_loop [5, 6] (fun o t => ∃ i tt oo : Nat, i ≤ 7 ∧ Hid (tt = 2 ^ i) ∧ 1 ≤ tt ∧ tt ≤ 128 ∧ oo ≤ 127 ∧ t = .int .i64 tt ∧ o = .int .i64 oo ∧ Hid (oo = (a &&& b) % 2 ^ i)) (fun _ t => 129 - (intOf t).toNat)
  case atStart => exact ⟨0, 1, 0, by omega, rfl, by omega, by omega, by omega, rfl, rfl, by simp [Hid, Nat.mod_one]⟩
  case round =>
    obtain ⟨i, tt, oo, hi, ht, ht1, ht2, ho, rfl, rfl, hoo⟩ := hrel
    by_cases hlt : tt ≤ 64
    · have h1 := Lib.hid (low_succ (a &&& b) i)
      have h2 := Lib.hid (and_bit a b i)
      have hmod : (a &&& b) % 2 ^ (i + 1) ≤ 127 := Nat.le_trans (Nat.mod_le _ _) (by have := hab.out; omega)
      have HM := Lib.hid hmod
      have hi7 : i < 7 := by
        refine Nat.lt_of_not_le fun h7 => ?_
        have := Nat.pow_le_pow_right (n := 2) (by omega) h7
        have := ht.out
        omega
      have hcase : ((((wrap64 ((a : Int) / (tt : Int))).tmod 2 == 1) = true ∧ ((wrap64 ((b : Int) / (tt : Int))).tmod 2 == 1) = true) ∧ oo + tt = (a &&& b) % 2 ^ (i + 1)) ∨ (((wrap64 ((a : Int) / (tt : Int))).tmod 2 == 1) = false ∧ oo = (a &&& b) % 2 ^ (i + 1)) ∨ (((wrap64 ((a : Int) / (tt : Int))).tmod 2 == 1) = true ∧ ((wrap64 ((b : Int) / (tt : Int))).tmod 2 == 1) = false) ∧ oo = (a &&& b) % 2 ^ (i + 1) := by
        rw [half_any a tt ha, half_any b tt hb, h1.out, hoo.out, ht.out]
        by_cases ca : a / 2 ^ i % 2 = 1
        · by_cases cb : b / 2 ^ i % 2 = 1
          · left; exact ⟨⟨by simp [ca], by simp [cb]⟩, by rw [if_pos (h2.out.2 ⟨ca, cb⟩)]⟩
          · right; right; exact ⟨⟨by simp [ca], by rw [beq_eq_false_iff_ne]; omega⟩, by rw [if_neg (fun h => cb (h2.out.1 h).2)]; rfl⟩
        · right; left; exact ⟨by rw [beq_eq_false_iff_ne]; omega, by rw [if_neg (fun h => ca (h2.out.1 h).1)]; rfl⟩
      clear hmod
      rcases hcase with ⟨⟨k1, k2⟩, hfin⟩ | ⟨k1, hfin⟩ | ⟨⟨k1, k2⟩, hfin⟩
      · have hfin := Lib.hid hfin
        go_wp2_with fail
        go_round
        case rel =>
          refine ⟨i + 1, 2 * tt, oo + tt, by omega, by show _ = _; rw [ht.out, Nat.pow_succ, Nat.mul_comm], by omega, by omega, ?_, by go_num, by first | rfl | go_num, ?_⟩
          · have := HM.out; have := hfin.out; omega
          · exact hfin.out
        case measure => simp [intOf]; omega
      · have hfin := Lib.hid hfin
        go_wp2_with fail
        go_round
        case rel =>
          refine ⟨i + 1, 2 * tt, oo, by omega, by show _ = _; rw [ht.out, Nat.pow_succ, Nat.mul_comm], by omega, by omega, ?_, by go_num, by first | rfl | go_num, ?_⟩
          · have := HM.out; have := hfin.out; omega
          · exact hfin.out
        case measure => simp [intOf]; omega
      · have hfin := Lib.hid hfin
        go_wp2_with fail
        go_round
        case rel =>
          refine ⟨i + 1, 2 * tt, oo, by omega, by show _ = _; rw [ht.out, Nat.pow_succ, Nat.mul_comm], by omega, by omega, ?_, by go_num, by first | rfl | go_num, ?_⟩
          · have := HM.out; have := hfin.out; omega
          · exact hfin.out
        case measure => simp [intOf]; omega
    · have h7 : i = 7 := by
        refine Nat.le_antisymm hi (Nat.le_of_not_lt fun h7 => hlt ?_)
        have := Nat.pow_le_pow_right (n := 2) (by omega) (show i ≤ 6 by omega)
        rw [ht.out]; omega
      have hfin : Hid (oo = a &&& b) := by show _ = _; rw [hoo.out, h7, Nat.mod_eq_of_lt hab.out]
      clear h7
      go_wp2_with fail
      exact ret_eq HR.out (by rw [hfin.out])
set_option maxRecDepth 100000 in
set_option maxHeartbeats 1000000 in
theorem hasWild_any (w : World) (s : ByteArray) (hm : s.size ≤ maxLen) (ts : List Ty.Ty) (ht : Ty.typeOf s = .ok ts) {R : Ending → World → Prop} (hyes : ∀ w', Below w.heap.size w w' → R (.returned (.bool true)) w') (hno : ∀ w', Below w.heap.size w w' → (∀ t ∈ ts, t.kind ≠ 5 ∧ t.kind ≠ 6) → R (.returned (.bool false)) w') :
    Calls Tryd.prog 22 #[.string s] w R := by
  have HY := Lib.hid hyes
  have HN := Lib.hid hno
  have HM := Lib.hid hm
  have HT := Lib.hid ht
  clear hyes hno hm ht
  go_enter Tryd.func22, Tryd.ntmps22
  go_wp2_with fail
  refine refTypeOf_any (Prt.Sat.old w) s HM.out (fun ts' v w1 ho h1 => ?_) (fun f w1 ho h1 => ?_)
  rotate_left
  · exact absurd (HT.out.symm.trans ho) (by simp)
  obtain rfl := Except.ok.inj (HT.out.symm.trans ho)
  obtain ⟨_, hpos, hlen⟩ := Ty.typeOf_wf ho
  have h2 := h1.allocAt (.cells #[.int .i64 0, .int .i64 0] 25) w1.heap.size
  obtain ⟨rows, hrt, hrd⟩ := h2.tyRd 1 rfl
  obtain ⟨g, cap, r0, rfl, _⟩ := hrd.look hrt hpos
  have HRD := Lib.hid hrd
  have HRT := Lib.hid hrt
  have HB := Lib.hid h2.isBelow
  clear ho h1 h2 hrd hrt
  dsimp only [ftVal]
  go_wp2_with fail
  go_loopw [5] (fun i wr => ∃ k : Nat, i = .int .i64 k ∧ k ≤ ts.length ∧ Hid (∀ t ∈ ts.take k, t.kind ≠ 5 ∧ t.kind ≠ 6) ∧ Hid (Below w.heap.size w wr) ∧ Hid (TyRd wr (.slice (some ⟨g, 0, none⟩) ts.length cap) rows)) (fun i _ => ts.length - (intOf i).toNat)
  case atStart => exact ⟨0, rfl, by omega, by intro t ht; simp at ht, HB.out, HRD.out⟩
  case round =>
    obtain ⟨k, rfl, hk, hno, hb, hrd⟩ := hrel
    by_cases hlt : k < ts.length
    · obtain ⟨g2, cap2, r, e, hg, hcap, _, hget, hrow, _⟩ := hrd.out.look HRT.out hlt
      cases e
      have q0 := hrow.q0
      have hkd : ts.take (k + 1) = ts.take k ++ [r.t] := by
        rw [List.getElem?_eq_getElem hlt] at hget
        rw [List.take_succ_eq_append_getElem hlt, Option.some.inj hget]
      have HKD := Lib.hid hkd
      clear hkd hget hrow
      generalize hkk : r.t.kind = kd at q0
      have HKK := Lib.hid hkk
      clear hkk
      by_cases e5 : kd = 5
      · subst e5
        go_wp2_with fail
        exact HY.out _ hb.out
      · by_cases e6 : kd = 6
        · subst e6
          go_wp2_with fail
          exact HY.out _ hb.out
        · have k5 : ((kd : Int) == 5) = false := beq_eq_false_iff_ne.2 (by omega)
          have k6 : ((kd : Int) == 6) = false := beq_eq_false_iff_ne.2 (by omega)
          have HN5 : Hid (kd ≠ 5 ∧ kd ≠ 6) := ⟨e5, e6⟩
          clear e5 e6
          go_wp2_with fail
          go_roundw
          case rel =>
            refine ⟨k + 1, by go_num, by omega, ?_, hb.out, hrd.out⟩
            intro t ht
            rw [HKD.out, List.mem_append] at ht
            rcases ht with ht | ht
            · exact hno.out t ht
            · simp at ht; subst ht; rw [HKK.out]; exact HN5.out
          case measure => simp [intOf]; omega
    · have hke : ts.take k = ts := List.take_of_length_le (by omega)
      have HKE := Lib.hid hke
      clear hke
      go_wp2_with fail
      exact HN.out _ hb.out (by have := hno.out; rwa [HKE.out] at this)
end Go.Proofs.YtdlbhiaceheffaaDoor
