/- Walk of the law TypesHang. The row and the card of TypesHang, out of its walk: whatever text, the law answers true. -/
import Derived.Test.YtdlbhiaceheffaaDoorQUnB
import Derived.Test.YtdlbhiaceheffaaDoorQTokRow
namespace Go.Proofs.YtdlbhiaceheffaaDoor
open Go Go.RowKit
open Prt (Sat As blk pur exs star stars)
open Ty (Tr)

theorem treeOf_types {s : ByteArray} {t : Tr} (h : treeOf s = .ok t) : ∃ ts, Ty.typeOf s = .ok ts ∧ t = Ty.den ts (ts.length - 1) := by
  unfold treeOf at h
  split at h
  · cases h
  · rename_i ts e; cases h; exact ⟨ts, e, rfl⟩
theorem noW_of {ts : List Ty.Ty} {s : ByteArray} (h : Ty.typeOf s = .ok ts) (hk : ∀ t ∈ ts, t.kind ≠ 5 ∧ t.kind ≠ 6) : Ty.noW (Ty.den ts (ts.length - 1)) := by
  obtain ⟨h1, h2, _⟩ := Ty.typeOf_wf h
  exact Ty.den_noW h1 hk _ _ (Nat.lt_succ_self _) (by omega)
/-- What the two strings' union comes to, and how they fit it. -/
theorem union_facts {s1 s2 : ByteArray} {x y : Tr} (hx : treeOf s1 = .ok x) (hy : treeOf s2 = .ok y) : ∃ u : ByteArray, u.size ≤ maxLen ∧ (∀ r, unionM [s1, s2] = .ok r → bs r = u) ∧ (∀ f, unionM [s1, s2] ≠ .error f) ∧
    ((askedM Ty.fits s1 u = .ok true ∧ askedM Ty.fits s2 u = .ok true) ∨ ∃ f, f.1 ≠ 0 ∧ askedM Ty.fits s1 u = .error f ∧ askedM Ty.fits s2 u = .error f) := by
  have ho : openFrom [s1, s2] [] = .ok [x, y] := by
    rw [openFrom_cons, hx]; dsimp only; rw [openFrom_cons, hy]; rfl
  obtain ⟨hc, hall⟩ := openFrom_all _ _ _ ho (fun t ht => by simp at ht)
  have okL := Ty.okL_of (l := [x, y]) fun t ht => (hall t ht).1
  have unL := Ty.uniL_of (l := [x, y]) fun t ht => (hall t ht).2.1
  have nmL := Ty.nmL_of (l := [x, y]) fun t ht => (hall t ht).2.2
  have hc2 : Ty.cntL [x, y] ≤ 900000 := by simp only [Ty.cntL, List.length_cons, List.length_nil] at hc ⊢; omega
  obtain ⟨j1, j2, j3, j4⟩ := Ty.joinT_fine okL unL nmL hc2
  have hU : unionM [s1, s2] = .ok (Ty.text (Ty.joinT [x, y])) := by
    unfold unionM; rw [if_neg (by simp), ho]
  have hlen := Ty.text_len _ j1 (Ty.nm_short _ j3)
  refine ⟨bs (Ty.text (Ty.joinT [x, y])), ?_, fun r hr => ?_, fun f hf => ?_, ?_⟩
  · rw [bs_size]; unfold maxLen; omega
  · rw [hU] at hr; cases hr; rfl
  · rw [hU] at hf; cases hf
  · unfold askedM
    rw [hx, hy]
    cases hu : treeOf (bs (Ty.text (Ty.joinT [x, y]))) with
    | error f => exact .inr ⟨f, treeOf_bad hu, rfl, rfl⟩
    | ok t =>
      obtain ⟨ts, h1, rfl⟩ := treeOf_types hu
      have h2 := Ty.typeOf_text j1 j2 j3 h1
      rw [h2]
      dsimp only
      rw [Ty.fits_join okL unL nmL hc2 x (by simp), Ty.fits_join okL unL nmL hc2 y (by simp)]
      exact .inl ⟨rfl, rfl⟩
theorem same_facts {s1 s2 : ByteArray} {x y : Tr} (hx : treeOf s1 = .ok x) (hy : treeOf s2 = .ok y) : Ty.alike x y = false ∨ Ty.alike x y = true ∧ Ty.fits x y = true ∧ Ty.fits y x = true := by
  cases h : Ty.alike x y with
  | false => exact .inl rfl
  | true => exact .inr ⟨rfl, Ty.alike_fits _ x y (Nat.lt_succ_self _) (treeOf_ok hx).1 (treeOf_ok hy).1 (treeOf_nm hx) (treeOf_nm hy) h⟩
set_option maxRecDepth 100000 in
set_option maxHeartbeats 4000000 in
theorem TypesHang_walk (s1 s2 : ByteArray) (w : World) (hw : Words w) (hm1 : s1.size ≤ maxLen) (hm2 : s2.size ≤ maxLen) {R : Ending → World → Prop} (hR : ∀ w', Below w.heap.size w w' → R (.returned (.bool true)) w') :
    Calls Tryd.prog 7 #[.string s1, .string s2] w R := by
  have HR := Lib.hid hR
  have HW := Lib.hid hw
  have HM1 := Lib.hid hm1
  have HM2 := Lib.hid hm2
  clear hR hw hm1 hm2
  go_enter Tryd.func7, Tryd.ntmps7
  go_wp2_with fail
  refine typesBegun_any w HW.out (fun w0 hb0 => ?_)
  have H0 := Lib.hid ((Prt.Sat.old w).below hb0)
  clear hb0
  go_wp2_with fail
  refine Same_any w0 s1 s2 (HW.out.below H0.out.isBelow) HM1.out HM2.out (fun r w1 ht hb => ?_) (fun f w1 ht hb => ?_)
  · obtain ⟨x, y, hx, hy, rfl⟩ := asked_ok ht
    have HX := Lib.hid hx
    have HY := Lib.hid hy
    have HSF := Lib.hid (same_facts hx hy)
    have HXO := Lib.hid (treeOf_ok hx)
    have HYO := Lib.hid (treeOf_ok hy)
    obtain ⟨u, hus, hu1, hu2, hu3⟩ := union_facts hx hy
    have HUS := Lib.hid hus
    have HU1 := Lib.hid hu1
    have HU2 := Lib.hid hu2
    have HU3 := Lib.hid hu3
    have h1 := (H0.out.below hb).allocAt (.cells #[.int .i64 0, .int .i64 0] 25) w1.heap.size
    have H1 := Lib.hid h1
    clear ht hb h1 hx hy hus hu1 hu2 hu3
    dsimp only [ftVal]
    go_wp2_with fail
    refine Fits_any _ s1 s2 (HW.out.below H1.out.isBelow) HM1.out HM2.out (fun r w2 ht hb => ?_) (fun f w2 ht hb => ?_)
    rotate_left
    · exact absurd ((asked_of_ok HX.out HY.out).symm.trans ht) (by simp)
    obtain rfl := Except.ok.inj ((asked_of_ok HX.out HY.out).symm.trans ht)
    have h2 := (H1.out.below hb).allocAt (.cells #[.int .i64 0, .int .i64 0] 25) w2.heap.size
    have H2 := Lib.hid h2
    clear ht hb h2
    dsimp only [ftVal]
    go_wp2_with fail
    refine Fits_any _ s2 s1 (HW.out.below H2.out.isBelow) HM2.out HM1.out (fun r w3 ht hb => ?_) (fun f w3 ht hb => ?_)
    rotate_left
    · exact absurd ((asked_of_ok HY.out HX.out).symm.trans ht) (by simp)
    obtain rfl := Except.ok.inj ((asked_of_ok HY.out HX.out).symm.trans ht)
    have h3 := (H2.out.below hb).allocAt (.cells #[.int .i64 0, .int .i64 0] 25) w3.heap.size
    have x0 := h3.cell 1 rfl 0 rfl
    have y0 := h3.cell 2 rfl 0 rfl
    have z0 := h3.cell 3 rfl 0 rfl
    have H3 := Lib.hid h3
    clear ht hb h3
    dsimp only [ftVal]
    have HFT : Hid (Ty.fits x y = true → Ty.noW x → Ty.noW y → Ty.tags x &&& Ty.tags y = Ty.tags x) := fun h1 h2 h3 => and_of_or (Ty.fits_tags _ x y (Nat.lt_succ_self _) HXO.out.1 HYO.out.1 h2 h3 h1)
    have htx := Ty.tags_le x HXO.out.1
    have hty := Ty.tags_le y HYO.out.1
    have HTX : Hid (∀ v, treeOf s1 = .ok v → Ty.tags v = Ty.tags x) := fun v hv => by rw [Except.ok.inj (HX.out.symm.trans hv)]
    have HTY : Hid (∀ v, treeOf s2 = .ok v → Ty.tags v = Ty.tags y) := fun v hv => by rw [Except.ok.inj (HY.out.symm.trans hv)]
    obtain ⟨ts1, e1, d1⟩ := treeOf_types HX.out
    obtain ⟨ts2, e2, d2⟩ := treeOf_types HY.out
    have HE1 := Lib.hid e1
    have HE2 := Lib.hid e2
    have HN1 : Hid ((∀ t ∈ ts1, t.kind ≠ 5 ∧ t.kind ≠ 6) → Ty.noW x) := fun h => by rw [d1]; exact noW_of HE1.out h
    have HN2 : Hid ((∀ t ∈ ts2, t.kind ≠ 5 ∧ t.kind ≠ 6) → Ty.noW y) := fun h => by rw [d2]; exact noW_of HE2.out h
    clear e1 e2 d1 d2
    generalize Ty.alike x y = ra at *
    generalize Ty.fits x y = rf at *
    generalize Ty.fits y x = rb at *
    generalize Ty.tags x = tx at *
    generalize Ty.tags y = ty at *
    have HTXL := Lib.hid htx
    have HTYL := Lib.hid hty
    clear htx hty
    rcases HSF.out with rfl | ⟨rfl, rfl, rfl⟩
    all_goals
      go_wp2_with fail
      have h4 := H3.out.waste (.cells #[.string s1, .string s2] 9)
      refine Union_any _ (.slice (some ⟨w3.heap.size + 1, 0, none⟩) 2 2) [s1, s2] (strs_owns (l := [s1, s2]) (heap_alloc_at' _ _ _ (by simp)) (by unfold maxLen; simp)) (HW.out.below h4.isBelow) (fun v hv => by simp at hv; rcases hv with rfl | rfl <;> first | exact HM1.out | exact HM2.out) (fun r w4 ht hb => ?_) (fun f w4 ht hb => ?_)
      rotate_left
      · exact absurd ht (HU2.out f)
      rw [HU1.out r ht]
      have h5 := h4.below hb
      have x0 := h5.cell 1 rfl 0 rfl
      have x1 := h5.cell 1 rfl 1 rfl
      have fx := h5.free 1 rfl
      have hlx := h5.lt 1 rfl
      have H5 := Lib.hid ((h5.store 1 rfl 0 (.int .i64 0)).store 1 rfl 1 (.int .i64 0))
      clear ht hb h4 h5
      dsimp only [ftVal]
      go_wp2_with fail
      rcases HU3.out with ⟨a1, a2⟩ | ⟨f, hf, a1, a2⟩
      · have A1 := Lib.hid a1
        have A2 := Lib.hid a2
        clear a1 a2
        refine Fits_any _ s1 u (HW.out.below H5.out.isBelow) HM1.out HUS.out (fun r2 w5 ht hb => ?_) (fun f w5 ht hb => absurd (A1.out.symm.trans ht) (by simp))
        obtain rfl := Except.ok.inj (A1.out.symm.trans ht)
        have h6 := H5.out.below hb
        have y0 : w5.cell? ⟨w2.heap.size, 0, none⟩ = some (.int .i64 0) := h6.cell 2 rfl 0 rfl
        have y1 : w5.cell? ⟨w2.heap.size, 1, none⟩ = some (.int .i64 0) := h6.cell 2 rfl 1 rfl
        have fy := h6.free 2 rfl
        have hly := h6.lt 2 rfl
        have H6 := Lib.hid ((h6.store 2 rfl 0 (.int .i64 0)).store 2 rfl 1 (.int .i64 0))
        clear ht hb h6
        dsimp only [ftVal]
        go_wp2_with fail
        refine Fits_any _ s2 u (HW.out.below H6.out.isBelow) HM2.out HUS.out (fun r2 w6 ht hb => ?_) (fun f w6 ht hb => absurd (A2.out.symm.trans ht) (by simp))
        obtain rfl := Except.ok.inj (A2.out.symm.trans ht)
        have h6 := H6.out.below hb
        have z0 : w6.cell? ⟨w3.heap.size, 0, none⟩ = some (.int .i64 0) := h6.cell 3 rfl 0 rfl
        have z1 : w6.cell? ⟨w3.heap.size, 1, none⟩ = some (.int .i64 0) := h6.cell 3 rfl 1 rfl
        have fz := h6.free 3 rfl
        have hlz := h6.lt 3 rfl
        have p0 : w6.cell? ⟨w2.heap.size, 0, none⟩ = some (.int .i64 0) := h6.cell 2 rfl 0 rfl
        have h7 := (h6.store 3 rfl 0 (.int .i64 0)).store 3 rfl 1 (.int .i64 0)
        have p1 := h7.cell 2 rfl 0 rfl
        have p2 := h7.cell 3 rfl 0 rfl
        have H7 := Lib.hid h7
        clear ht hb h6 h7
        dsimp only [ftVal]
        by_cases hl : u.size ≤ 1000
        all_goals
          first
          | (have k0 : decide ((u.size : Int) ≤ 1000) = true := decide_eq_true (by omega); have k1 : decide (u.size ≤ 1000) = true := decide_eq_true hl; clear hl; go_wp2_with fail)
          | (have k0 : decide ((u.size : Int) ≤ 1000) = false := decide_eq_false (by omega); have k1 : decide (u.size ≤ 1000) = false := decide_eq_false hl; clear hl; go_wp2_with fail)
          refine Tags_any _ s1 (HW.out.below H7.out.isBelow) HM1.out (fun v w7 ht hb => ?_) (fun f w7 ht hb => absurd (HX.out.symm.trans ht) (by simp))
          rw [HTX.out v ht]
          have h8 := H7.out.below hb
          have x0 : w7.cell? ⟨w1.heap.size, 0, none⟩ = some (.int .i64 0) := h8.cell 1 rfl 0 rfl
          have x1 : w7.cell? ⟨w1.heap.size, 1, none⟩ = some (.int .i64 0) := h8.cell 1 rfl 1 rfl
          have fx := h8.free 1 rfl
          have hlx := h8.lt 1 rfl
          have H8 := Lib.hid ((h8.store 1 rfl 0 (.int .i64 0)).store 1 rfl 1 (.int .i64 0))
          clear ht hb h8
          dsimp only [ftVal]
          go_wp2_with fail
          refine Tags_any _ s2 (HW.out.below H8.out.isBelow) HM2.out (fun v w8 ht hb => ?_) (fun f w8 ht hb => absurd (HY.out.symm.trans ht) (by simp))
          rw [HTY.out v ht]
          have h9 := H8.out.below hb
          have x0 : w8.cell? ⟨w1.heap.size, 0, none⟩ = some (.int .i64 0) := h9.cell 1 rfl 0 rfl
          have y0 : w8.cell? ⟨w2.heap.size, 0, none⟩ = some (.int .i64 0) := h9.cell 2 rfl 0 rfl
          have y1 : w8.cell? ⟨w2.heap.size, 1, none⟩ = some (.int .i64 0) := h9.cell 2 rfl 1 rfl
          have fy := h9.free 2 rfl
          have hly := h9.lt 2 rfl
          have hne := h9.ne 1 2 (by decide) rfl rfl
          have h10 := (h9.store 2 rfl 0 (.int .i64 0)).store 2 rfl 1 (.int .i64 0)
          have q0 := h10.cell 1 rfl 0 rfl
          have q1 := h10.cell 2 rfl 0 rfl
          have H10 := Lib.hid h10
          clear ht hb h9 h10
          dsimp only [ftVal]
          try cases rf
          all_goals
            first
            | (go_wp2_with fail; exact HR.out _ H10.out.isBelow)
            | (go_wp2_with fail
               refine hasWild_any _ s1 HM1.out ts1 HE1.out (fun w9 hb => ?_) (fun w9 hb hn => ?_)
               · have H11 := Lib.hid (H10.out.below hb)
                 clear hb
                 go_wp2_with fail
                 exact HR.out _ H11.out.isBelow
               · have H11 := Lib.hid (H10.out.below hb)
                 have HN := Lib.hid (HN1.out hn)
                 clear hb hn
                 go_wp2_with fail
                 refine hasWild_any _ s2 HM2.out ts2 HE2.out (fun w10 hb => ?_) (fun w10 hb hn => ?_)
                 · have H12 := Lib.hid (H11.out.below hb)
                   clear hb
                   go_wp2_with fail
                   exact HR.out _ H12.out.isBelow
                 · have H12 := Lib.hid (H11.out.below hb)
                   have hft : tx &&& ty = tx := by first | exact HFT.out rfl HN.out (HN2.out hn) | exact HFT.out trivial HN.out (HN2.out hn) | exact HFT.out HN.out (HN2.out hn)
                   clear hb hn
                   go_wp2_with fail
                   refine Common_any tx ty HTXL.out HTYL.out _ ?_
                   rw [hft]
                   clear hft
                   go_wp2_with fail
                   exact HR.out _ H12.out.isBelow)
      · obtain ⟨fe, fp⟩ := f
        have A1 := Lib.hid a1
        have A2 := Lib.hid a2
        dsimp only at hf
        have e2 : ((fe : Int) == 0) = false := by simp; omega
        clear a1 a2 hf
        refine Fits_any _ s1 u (HW.out.below H5.out.isBelow) HM1.out HUS.out (fun r2 w5 ht hb => absurd (A1.out.symm.trans ht) (by simp)) (fun f w5 ht hb => ?_)
        obtain rfl := Except.error.inj (A1.out.symm.trans ht)
        have h6 := H5.out.below hb
        have y0 : w5.cell? ⟨w2.heap.size, 0, none⟩ = some (.int .i64 0) := h6.cell 2 rfl 0 rfl
        have y1 : w5.cell? ⟨w2.heap.size, 1, none⟩ = some (.int .i64 0) := h6.cell 2 rfl 1 rfl
        have fy := h6.free 2 rfl
        have hly := h6.lt 2 rfl
        have H6 := Lib.hid ((h6.store 2 rfl 0 (.int .i64 fe)).store 2 rfl 1 (.int .i64 fp))
        clear ht hb h6
        dsimp only [ftVal]
        go_wp2_with fail
        refine Fits_any _ s2 u (HW.out.below H6.out.isBelow) HM2.out HUS.out (fun r2 w6 ht hb => absurd (A2.out.symm.trans ht) (by simp)) (fun f w6 ht hb => ?_)
        obtain rfl := Except.error.inj (A2.out.symm.trans ht)
        have h6 := H6.out.below hb
        have z0 : w6.cell? ⟨w3.heap.size, 0, none⟩ = some (.int .i64 0) := h6.cell 3 rfl 0 rfl
        have z1 : w6.cell? ⟨w3.heap.size, 1, none⟩ = some (.int .i64 0) := h6.cell 3 rfl 1 rfl
        have fz := h6.free 3 rfl
        have hlz := h6.lt 3 rfl
        have p0 : w6.cell? ⟨w2.heap.size, 0, none⟩ = some (.int .i64 fe) := h6.cell 2 rfl 0 rfl
        have h7 := (h6.store 3 rfl 0 (.int .i64 fe)).store 3 rfl 1 (.int .i64 fp)
        have p1 := h7.cell 2 rfl 0 rfl
        have p2 := h7.cell 3 rfl 0 rfl
        have H7 := Lib.hid h7
        clear ht hb h6 h7
        dsimp only [ftVal]
        by_cases hl : u.size ≤ 1000
        all_goals
          first
          | (have k0 : decide ((u.size : Int) ≤ 1000) = true := decide_eq_true (by omega); have k1 : decide (u.size ≤ 1000) = true := decide_eq_true hl; clear hl; go_wp2_with fail)
          | (have k0 : decide ((u.size : Int) ≤ 1000) = false := decide_eq_false (by omega); have k1 : decide (u.size ≤ 1000) = false := decide_eq_false hl; clear hl; go_wp2_with fail)
          refine Tags_any _ s1 (HW.out.below H7.out.isBelow) HM1.out (fun v w7 ht hb => ?_) (fun f w7 ht hb => absurd (HX.out.symm.trans ht) (by simp))
          rw [HTX.out v ht]
          have h8 := H7.out.below hb
          have x0 : w7.cell? ⟨w1.heap.size, 0, none⟩ = some (.int .i64 0) := h8.cell 1 rfl 0 rfl
          have x1 : w7.cell? ⟨w1.heap.size, 1, none⟩ = some (.int .i64 0) := h8.cell 1 rfl 1 rfl
          have fx := h8.free 1 rfl
          have hlx := h8.lt 1 rfl
          have H8 := Lib.hid ((h8.store 1 rfl 0 (.int .i64 0)).store 1 rfl 1 (.int .i64 0))
          clear ht hb h8
          dsimp only [ftVal]
          go_wp2_with fail
          refine Tags_any _ s2 (HW.out.below H8.out.isBelow) HM2.out (fun v w8 ht hb => ?_) (fun f w8 ht hb => absurd (HY.out.symm.trans ht) (by simp))
          rw [HTY.out v ht]
          have h9 := H8.out.below hb
          have x0 : w8.cell? ⟨w1.heap.size, 0, none⟩ = some (.int .i64 0) := h9.cell 1 rfl 0 rfl
          have y0 : w8.cell? ⟨w2.heap.size, 0, none⟩ = some (.int .i64 fe) := h9.cell 2 rfl 0 rfl
          have y1 : w8.cell? ⟨w2.heap.size, 1, none⟩ = some (.int .i64 fp) := h9.cell 2 rfl 1 rfl
          have fy := h9.free 2 rfl
          have hly := h9.lt 2 rfl
          have hne := h9.ne 1 2 (by decide) rfl rfl
          have h10 := (h9.store 2 rfl 0 (.int .i64 0)).store 2 rfl 1 (.int .i64 0)
          have q0 := h10.cell 1 rfl 0 rfl
          have q1 := h10.cell 2 rfl 0 rfl
          have H10 := Lib.hid h10
          clear ht hb h9 h10
          dsimp only [ftVal]
          try cases rf
          all_goals
            first
            | (go_wp2_with fail; exact HR.out _ H10.out.isBelow)
            | (go_wp2_with fail
               refine hasWild_any _ s1 HM1.out ts1 HE1.out (fun w9 hb => ?_) (fun w9 hb hn => ?_)
               · have H11 := Lib.hid (H10.out.below hb)
                 clear hb
                 go_wp2_with fail
                 exact HR.out _ H11.out.isBelow
               · have H11 := Lib.hid (H10.out.below hb)
                 have HN := Lib.hid (HN1.out hn)
                 clear hb hn
                 go_wp2_with fail
                 refine hasWild_any _ s2 HM2.out ts2 HE2.out (fun w10 hb => ?_) (fun w10 hb hn => ?_)
                 · have H12 := Lib.hid (H11.out.below hb)
                   clear hb
                   go_wp2_with fail
                   exact HR.out _ H12.out.isBelow
                 · have H12 := Lib.hid (H11.out.below hb)
                   have hft : tx &&& ty = tx := by first | exact HFT.out rfl HN.out (HN2.out hn) | exact HFT.out trivial HN.out (HN2.out hn) | exact HFT.out HN.out (HN2.out hn)
                   clear hb hn
                   go_wp2_with fail
                   refine Common_any tx ty HTXL.out HTYL.out _ ?_
                   rw [hft]
                   clear hft
                   go_wp2_with fail
                   exact HR.out _ H12.out.isBelow)
  · have HE := Lib.hid (asked_err.1 ht)
    have hbd : f.1 ≠ 0 := by
      rcases HE.out with h | ⟨_, _, h⟩
      · exact treeOf_bad h
      · exact treeOf_bad h
    obtain ⟨fe, fp⟩ := f
    dsimp only at hbd
    have e2 : ((fe : Int) != 0) = true := by simp; omega
    have h1 := (H0.out.below hb).allocAt (.cells #[.int .i64 fe, .int .i64 fp] 25) w1.heap.size
    have H1 := Lib.hid h1
    clear ht hb h1 hbd
    dsimp only [ftVal]
    go_wp2_with fail
    refine Fits_any _ s1 s2 (HW.out.below H1.out.isBelow) HM1.out HM2.out (fun r w2 ht hb => ?_) (fun f w2 ht hb => ?_)
    · exact absurd (ht.symm.trans (asked_err.2 HE.out)) (by simp)
    obtain rfl := Except.error.inj (ht.symm.trans (asked_err.2 HE.out))
    have h2 := (H1.out.below hb).allocAt (.cells #[.int .i64 fe, .int .i64 fp] 25) w2.heap.size
    have H2 := Lib.hid h2
    clear ht hb h2
    dsimp only [ftVal]
    go_wp2_with fail
    refine Fits_any _ s2 s1 (HW.out.below H2.out.isBelow) HM2.out HM1.out (fun r w3 ht hb => ?_) (fun f w3 ht hb => ?_)
    · obtain ⟨a, b, ha, hb, _⟩ := asked_ok ht
      rcases HE.out with h | ⟨_, _, h⟩
      · exact absurd (hb.symm.trans h) (by simp)
      · exact absurd (ha.symm.trans h) (by simp)
    obtain ⟨ge, gp⟩ := f
    have h3 := (H2.out.below hb).allocAt (.cells #[.int .i64 ge, .int .i64 gp] 25) w3.heap.size
    have x0 := h3.cell 1 rfl 0 rfl
    have y0 := h3.cell 2 rfl 0 rfl
    have z0 := h3.cell 3 rfl 0 rfl
    have H3 := Lib.hid h3
    clear ht hb h3
    dsimp only [ftVal]
    go_wp2_with fail
    exact HR.out _ H3.out.isBelow
end Go.Proofs.YtdlbhiaceheffaaDoor

namespace Go.Proofs.YtdlbhiaceheffaaDoor.typesHang
open Go.ChangeShapes Go.WideShapes Go.ChangeAt Go.RowKit Go.Lib
open Go.ChangeMaps (open_string shut_string)

theorem laid_met (os : Os) (args : Array Value) : laidMet Tryd.prog Rows.typesHangRow.laid ((laidWorld os).forCall (fun _ _ => 0) ⟨#[], args, []⟩).memory :=
  laidMet_of_run' 8 (by kernel_rfl) (by kernel_rfl)

theorem witness_row (os : Os) {H : Type} (enc : TypeId × Value → H) :
    (OpenSpec.ofChange Rows.typesHangSpec).preRow enc Tryd.prog Tryd.f7 Rows.typesHangRow.domain false Rows.typesHangRow.laid ((laidWorld os).forCall (fun _ _ => 0) ⟨#[], #[.string ⟨#[]⟩, .string ⟨#[]⟩], []⟩).memory #[.string ⟨#[]⟩, .string ⟨#[]⟩] := by
  have hw : (DataW.whole enc Tryd.prog ((laidWorld os).forCall (fun _ _ => 0) ⟨#[], #[.string ⟨#[]⟩, .string ⟨#[]⟩], []⟩).memory Tryd.f7.params.toList Rows.typesHangSpec.vars false #[Value.string ⟨#[]⟩, Value.string ⟨#[]⟩].toList 8).map (fun x => (x.1, x.2.1)) =
      some ([.lit (.string []), .lit (.string [])], []) := by kernel_rfl
  obtain ⟨⟨x1, x2, x3⟩, hx, hx1⟩ := Option.map_eq_some_iff.1 hw
  simp only [Prod.mk.injEq] at hx1
  obtain ⟨rfl, rfl⟩ := hx1
  exact OpenSpec.preRow_of_cond 8 hx (by kernel_rfl) (fun k hk => by cases hk) (by kernel_rfl) (laid_met os _)

set_option maxRecDepth 100000 in
set_option maxHeartbeats 2000000 in
theorem lifted (os : Os) (started : os.Started) (H : Type) (enc : TypeId × Value → H) (F : Stop.Interp) :
    ReturnsInHanded {} Tryd.checked os 7 .any ((OpenSpec.ofChange Rows.typesHangSpec).preRow enc Tryd.prog Tryd.f7 Rows.typesHangRow.domain false Rows.typesHangRow.laid) (((OpenSpec.ofChange Rows.typesHangSpec).at F).post enc Tryd.prog Tryd.f7 false true false false) := by
  refine returnsInHanded_of_row (C := Tryd.checked) (s := OpenSpec.ofChange Rows.typesHangSpec) ownKnob_none started (by kernel_rfl) Tryd.func7
    (witness_row_atRef (enc := enc) (C := Tryd.checked) false (laidWorld os) #[.string ⟨#[]⟩, .string ⟨#[]⟩] rfl (by kernel_rfl) (by kernel_rfl) (by kernel_rfl) (witness_row os enc)) ?_
  intro W base args ds gs before hval0 hW _ _ _ hL _ _
  have hval : ∀ (j : Nat) t v, Tryd.f7.params[j]? = some t → args[j]? = some v → Value.okWide Tryd.prog W .any base t v := hval0
  have hW' := hW
  obtain ⟨p, q, hA0, hV0, rfl, _, _⟩ := hW
  have hA : DataW.TrodAll enc Tryd.prog W 0 (fun _ => true) true Tryd.f7.params.toList args.toList ds p := hA0
  rw [Tryd.params7] at hA hval
  obtain ⟨v0, v1, d0, d1, p0, p1, rfl, rfl, rfl, h0, h1⟩ := trodAll_two hA
  obtain ⟨rfl, rfl⟩ := trodVars_none hV0
  obtain ⟨s, rfl, rfl, rfl, ws⟩ := open_string Tryd.underlying9 (hval 0 9 v0 rfl rfl) h0
  obtain ⟨s', rfl, rfl, rfl, ws'⟩ := open_string Tryd.underlying9 (hval 1 9 v1 rfl rfl) h1
  clear hA0 hV0 hval0
  have hwords : Words W := words_of_laid (Lib.laidMet.reads hL (.head _))
  refine TypesHang_walk s s' W hwords ws ws' (fun W' bel => ?_)
  refine ⟨_, rfl, _, _, _, [], [], [], hW', ?_, ?_, ?_, bel.frame _, fun h => by cases h⟩
  · exact trodAll_mk1 (shut_bool Tryd.underlying4 _)
  · exact trodAll_mk2 (shut_string Tryd.underlying9 ws) (shut_string Tryd.underlying9 ws')
  · rfl

theorem said : Rows.TypesHangSaid :=
  OpenClaim.holds_of_cond 7 Tryd.f7 rfl rfl rfl rfl rfl rfl rfl ⟨rfl, rfl, rfl, rfl, rfl⟩ rfl rfl rfl rfl rfl (by kernel_rfl) Tryd.func7 (by kernel_rfl)
    (of_decide_eq_true (by kernel_rfl)) (by unfold Func.isWrapper; first | (rw [if_pos (by decide +kernel)]; kernel_rfl) | (rw [if_neg (by decide +kernel)]; exact ⟨rfl, rfl⟩))
    (fun os started H enc _ F => by rw [OpenClaim.pre_eq_preRow]; exact lifted os started H enc F)

/-- No parameter wants a stand-in; the program's own looks are off: what the card asks. -/
theorem plain (f : FuncId) (fn : Func) (hf : Tryd.pinned.checked.prog.funcNamed "guardrail/guardraillaw.TypesHang" = some f) (hfn : Tryd.pinned.checked.prog.funcs[f]? = some fn) :
    true = Tryd.pinned.checked.prog.looks [] ∧ ∀ (j : Nat) t, fn.params[j]? = some t → Tryd.pinned.checked.prog.wantsStandIn t = false := by
  obtain rfl : f = 7 := Option.some.inj ((show Tryd.prog.funcNamed "guardrail/guardraillaw.TypesHang" = some 7 by kernel_rfl).symm.trans hf) |>.symm
  obtain rfl : fn = Tryd.f7 := (Option.some.inj (Tryd.func7.symm.trans hfn)).symm
  refine ⟨by kernel_rfl, fun j t ht => ?_⟩
  rw [Tryd.params7] at ht
  obtain rfl : t = 9 := by simpa using Array.mem_of_getElem? ht
  exact (show Tryd.prog.wantsStandIn 9 = false by kernel_rfl)

/-- The card. -/
theorem card : Rows.TypesHangCardSaid :=
  Claim7.holds_tied_plain_at .later [] _ _ _ _ said (fun _ h => by cases h) (by kernel_rfl) (fun _ h => by cases h) typesHang_row_tie rfl ⟨rfl, rfl⟩ (by kernel_rfl) rfl plain (by kernel_rfl)
end Go.Proofs.YtdlbhiaceheffaaDoor.typesHang
