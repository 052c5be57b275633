/- Walk of the law TypesFit. The row and the card of TypesFit, out of its walk: whatever text, the law answers true. -/
import Derived.Test.YtdlbhiaceheffaaDoorQMv
import Derived.Test.YtdlbhiaceheffaaDoorQTokRow
namespace Go.Proofs.YtdlbhiaceheffaaDoor
open Go Go.RowKit
open Prt (Sat As blk pur exs star stars)
open Ty (Tr)

theorem asked_ok {is : Tr → Tr → Bool} {a b : ByteArray} {r : Bool} (h : askedM is a b = .ok r) : ∃ x y, treeOf a = .ok x ∧ treeOf b = .ok y ∧ r = is x y := by
  unfold askedM at h
  split at h
  · cases h
  · rename_i x hx
    split at h
    · cases h
    · rename_i y hy; cases h; exact ⟨x, y, hx, hy, rfl⟩
theorem asked_of_ok {is : Tr → Tr → Bool} {a b : ByteArray} {x y : Tr} (hx : treeOf a = .ok x) (hy : treeOf b = .ok y) : askedM is a b = .ok (is x y) := by
  unfold askedM; rw [hx, hy]
theorem asked_err {is : Tr → Tr → Bool} {a b : ByteArray} {f : Ty.Ft} : askedM is a b = .error f ↔ (treeOf a = .error f ∨ ∃ x, treeOf a = .ok x ∧ treeOf b = .error f) := by
  unfold askedM
  cases hx : treeOf a with
  | error g => simp
  | ok x =>
    cases hy : treeOf b with
    | error g => simp
    | ok y => simp
theorem two_facts {x y : Tr} (hx : Ty.okT x ∧ Ty.uniT x ∧ Ty.cnt x ≤ 300) (hy : Ty.okT y ∧ Ty.uniT y ∧ Ty.cnt y ≤ 300) :
    Ty.Wf (twoTs x y) ∧ (twoTs x y).length ≤ 1000000 ∧ (Ty.put x []).2 < (twoTs x y).length ∧ (Ty.put y (Ty.put x []).1).2 < (twoTs x y).length ∧ Ty.den (twoTs x y) (Ty.put x []).2 = x ∧ Ty.den (twoTs x y) (Ty.put y (Ty.put x []).1).2 = y := by
  have h1 := Ty.put_len x []
  have h2 := Ty.put_len y (Ty.put x []).1
  have n1 := Ty.put_num x []
  have n2 := Ty.put_num y (Ty.put x []).1
  rw [List.length_nil] at h1
  unfold twoTs
  refine ⟨Ty.put_wf y _ hy.1 hy.2.1 (Ty.put_wf x _ hx.1 hx.2.1 Ty.Wf.nil), by omega, by omega, by omega, ?_, Ty.put_den y _ hy.1⟩
  obtain ⟨m, e, _⟩ := Ty.put_ext y (Ty.put x []).1
  rw [e, Ty.den_app (by omega)]
  exact Ty.put_den x [] hx.1
set_option maxRecDepth 100000 in
set_option maxHeartbeats 2000000 in
theorem TypesFit_walk (s1 s2 : ByteArray) (w : World) (hw : Words w) (hm1 : s1.size ≤ maxLen) (hm2 : s2.size ≤ maxLen) {R : Ending → World → Prop} (hR : ∀ w', Below w.heap.size w w' → R (.returned (.bool true)) w') :
    Calls Tryd.prog 6 #[.string s1, .string s2] w R := by
  have HR := Lib.hid hR
  have HW := Lib.hid hw
  have HM1 := Lib.hid hm1
  have HM2 := Lib.hid hm2
  clear hR hw hm1 hm2
  go_enter Tryd.func6, Tryd.ntmps6
  go_wp2_with fail
  refine Same_any w s1 s2 HW.out HM1.out HM2.out (fun r w1 ht hb => ?_) (fun f w1 ht hb => ?_)
  · obtain ⟨x, y, hx, hy, rfl⟩ := asked_ok ht
    have HX := Lib.hid hx
    have HY := Lib.hid hy
    have HXO := Lib.hid (treeOf_ok hx)
    have HYO := Lib.hid (treeOf_ok hy)
    have h1 := ((Prt.Sat.old w).below hb).allocAt (.cells #[.int .i64 0, .int .i64 0] 25) w1.heap.size
    have H1 := Lib.hid h1
    clear ht hb h1 hx hy
    dsimp only [ftVal]
    go_wp2_with fail
    refine Fits_any _ s1 s2 (HW.out.below H1.out.isBelow) HM1.out HM2.out (fun r w2 ht hb => ?_) (fun f w2 ht hb => ?_)
    rotate_left
    · exact absurd ((asked_of_ok HX.out HY.out).symm.trans ht) (by simp)
    obtain rfl := Except.ok.inj ((asked_of_ok HX.out HY.out).symm.trans ht)
    have h2 := (H1.out.below hb).allocAt (.cells #[.int .i64 0, .int .i64 0] 25) w2.heap.size
    have H2 := Lib.hid h2
    clear ht hb h2
    dsimp only [ftVal]
    go_wp2_with fail
    refine TwoTypes_any (Prt.Sat.pack (L := []) H2.out) s1 s2 HM1.out HM2.out (fun x' y' lv w3 hx hy h3 => ?_) (fun f w3 he h3 => ?_)
    rotate_left
    · exact absurd ((asked_of_ok (is := Ty.fits) HX.out HY.out).symm.trans (asked_err.2 he)) (by simp)
    obtain rfl := Except.ok.inj (HX.out.symm.trans hx)
    obtain rfl := Except.ok.inj (HY.out.symm.trans hy)
    obtain ⟨rows, hrt, h4⟩ := h3.rows 1 rfl
    obtain ⟨hwf, hl6, hm, hn, dx, dy⟩ := two_facts HXO.out HYO.out
    have h5 := h4.allocAt (.cells #[.int .i64 0, .int .i64 0] 25) w3.heap.size
    have hrd := h5.rdRows 1 rfl
    have hal := refAlike_all _ lv rows _ hrt hwf hl6 hrd _ _ _ (Nat.lt_succ_self _) hm hn
    have hfi := refFits_all _ lv rows _ hrt hwf hl6 hrd _ _ _ (Nat.lt_succ_self _) hm hn
    rw [dx, dy] at hal hfi
    have HAL := Lib.hid hal
    have HFI := Lib.hid hfi
    have h6 := (h5.unpack (i := 0) rfl).pick [2, 3, 4, 1]
    have H6 := Lib.hid h6
    generalize (Ty.put x []).2 = m at *
    generalize (Ty.put y (Ty.put x []).1).2 = n at *
    clear h3 h4 h5 h6 hrd hal hfi hrt hwf hl6 hm hn dx dy hx hy
    dsimp only [ftVal]
    go_wp2_with fail
    refine HAL.out _ (Below.refl _ _) _ (fun w4 hb4 => ?_)
    have H7 := Lib.hid (H6.out.below hb4)
    have HB4 := Lib.hid hb4
    clear hb4
    go_wp2_with fail
    refine HFI.out _ HB4.out _ (fun w5 hb5 => ?_)
    have H8 := Lib.hid (H7.out.below hb5)
    clear hb5
    go_wp2_with fail
    refine typesBegun_any _ (HW.out.below H8.out.isBelow) (fun w6 hb6 => ?_)
    have h9 := H8.out.below hb6
    have x0 := h9.cell 1 rfl 0 rfl
    have x1 := h9.cell 1 rfl 1 rfl
    have y0 := h9.cell 2 rfl 0 rfl
    have y1 := h9.cell 2 rfl 1 rfl
    have z0 := h9.cell 3 rfl 0 rfl
    have z1 := h9.cell 3 rfl 1 rfl
    have H9 := Lib.hid h9
    clear hb6 h9
    generalize Ty.alike x y = ra at *
    generalize Ty.fits x y = rf at *
    cases ra <;> cases rf
    all_goals
      go_wp2_with fail
      exact HR.out _ H9.out.isBelow
  · have HE := Lib.hid (asked_err.1 ht)
    have hbd : f.1 ≠ 0 := by
      rcases HE.out with h | ⟨_, _, h⟩
      · exact treeOf_bad h
      · exact treeOf_bad h
    obtain ⟨fe, fp⟩ := f
    dsimp only at hbd
    have e2 : ((fe : Int) == 0) = false := by simp; omega
    have h1 := ((Prt.Sat.old w).below hb).allocAt (.cells #[.int .i64 fe, .int .i64 fp] 25) w1.heap.size
    have H1 := Lib.hid h1
    clear ht hb h1 hbd
    dsimp only [ftVal]
    go_wp2_with fail
    refine Fits_any _ s1 s2 (HW.out.below H1.out.isBelow) HM1.out HM2.out (fun r w2 ht hb => ?_) (fun f w2 ht hb => ?_)
    · exact absurd (ht.symm.trans (asked_err.2 HE.out)) (by simp)
    obtain rfl := Except.error.inj (ht.symm.trans (asked_err.2 HE.out))
    have h2 := (H1.out.below hb).allocAt (.cells #[.int .i64 fe, .int .i64 fp] 25) w2.heap.size
    have H2 := Lib.hid h2
    clear ht hb h2
    dsimp only [ftVal]
    go_wp2_with fail
    refine TwoTypes_any (Prt.Sat.pack (L := []) H2.out) s1 s2 HM1.out HM2.out (fun x' y' lv w3 hx hy h3 => ?_) (fun f w3 he h3 => ?_)
    · exact absurd ((asked_of_ok (is := Ty.fits) hx hy).symm.trans (asked_err.2 HE.out)) (by simp)
    obtain rfl := Except.error.inj ((asked_err (is := Ty.fits).2 he).symm.trans (asked_err.2 HE.out))
    have h6 := (h3.unpack (i := 0) rfl).allocAt (.cells #[.int .i64 fe, .int .i64 fp] 25) w3.heap.size
    have H8 := Lib.hid h6
    clear h3 h6 he
    dsimp only [ftVal]
    go_wp2_with fail
    refine typesBegun_any _ (HW.out.below H8.out.isBelow) (fun w6 hb6 => ?_)
    have h9 := H8.out.below hb6
    have x0 := h9.cell 1 rfl 0 rfl
    have x1 := h9.cell 1 rfl 1 rfl
    have y0 := h9.cell 2 rfl 0 rfl
    have y1 := h9.cell 2 rfl 1 rfl
    have z0 := h9.cell 3 rfl 0 rfl
    have z1 := h9.cell 3 rfl 1 rfl
    have H9 := Lib.hid h9
    clear hb6 h9
    go_wp2_with fail
    exact HR.out _ H9.out.isBelow
end Go.Proofs.YtdlbhiaceheffaaDoor

namespace Go.Proofs.YtdlbhiaceheffaaDoor.typesFit
open Go.ChangeShapes Go.WideShapes Go.ChangeAt Go.RowKit Go.Lib
open Go.ChangeMaps (open_string shut_string)

theorem laid_met (os : Os) (args : Array Value) : laidMet Tryd.prog Rows.typesFitRow.laid ((laidWorld os).forCall (fun _ _ => 0) ⟨#[], args, []⟩).memory :=
  laidMet_of_run' 8 (by kernel_rfl) (by kernel_rfl)

theorem witness_row (os : Os) {H : Type} (enc : TypeId × Value → H) :
    (OpenSpec.ofChange Rows.typesFitSpec).preRow enc Tryd.prog Tryd.f6 Rows.typesFitRow.domain false Rows.typesFitRow.laid ((laidWorld os).forCall (fun _ _ => 0) ⟨#[], #[.string ⟨#[]⟩, .string ⟨#[]⟩], []⟩).memory #[.string ⟨#[]⟩, .string ⟨#[]⟩] := by
  have hw : (DataW.whole enc Tryd.prog ((laidWorld os).forCall (fun _ _ => 0) ⟨#[], #[.string ⟨#[]⟩, .string ⟨#[]⟩], []⟩).memory Tryd.f6.params.toList Rows.typesFitSpec.vars false #[Value.string ⟨#[]⟩, Value.string ⟨#[]⟩].toList 8).map (fun x => (x.1, x.2.1)) =
      some ([.lit (.string []), .lit (.string [])], []) := by kernel_rfl
  obtain ⟨⟨x1, x2, x3⟩, hx, hx1⟩ := Option.map_eq_some_iff.1 hw
  simp only [Prod.mk.injEq] at hx1
  obtain ⟨rfl, rfl⟩ := hx1
  exact OpenSpec.preRow_of_cond 8 hx (by kernel_rfl) (fun k hk => by cases hk) (by kernel_rfl) (laid_met os _)

set_option maxRecDepth 100000 in
set_option maxHeartbeats 2000000 in
theorem lifted (os : Os) (started : os.Started) (H : Type) (enc : TypeId × Value → H) (F : Stop.Interp) :
    ReturnsInHanded {} Tryd.checked os 6 .any ((OpenSpec.ofChange Rows.typesFitSpec).preRow enc Tryd.prog Tryd.f6 Rows.typesFitRow.domain false Rows.typesFitRow.laid) (((OpenSpec.ofChange Rows.typesFitSpec).at F).post enc Tryd.prog Tryd.f6 false true false false) := by
  refine returnsInHanded_of_row (C := Tryd.checked) (s := OpenSpec.ofChange Rows.typesFitSpec) ownKnob_none started (by kernel_rfl) Tryd.func6
    (witness_row_atRef (enc := enc) (C := Tryd.checked) false (laidWorld os) #[.string ⟨#[]⟩, .string ⟨#[]⟩] rfl (by kernel_rfl) (by kernel_rfl) (by kernel_rfl) (witness_row os enc)) ?_
  intro W base args ds gs before hval0 hW _ _ _ hL _ _
  have hval : ∀ (j : Nat) t v, Tryd.f6.params[j]? = some t → args[j]? = some v → Value.okWide Tryd.prog W .any base t v := hval0
  have hW' := hW
  obtain ⟨p, q, hA0, hV0, rfl, _, _⟩ := hW
  have hA : DataW.TrodAll enc Tryd.prog W 0 (fun _ => true) true Tryd.f6.params.toList args.toList ds p := hA0
  rw [Tryd.params6] at hA hval
  obtain ⟨v0, v1, d0, d1, p0, p1, rfl, rfl, rfl, h0, h1⟩ := trodAll_two hA
  obtain ⟨rfl, rfl⟩ := trodVars_none hV0
  obtain ⟨s, rfl, rfl, rfl, ws⟩ := open_string Tryd.underlying9 (hval 0 9 v0 rfl rfl) h0
  obtain ⟨s', rfl, rfl, rfl, ws'⟩ := open_string Tryd.underlying9 (hval 1 9 v1 rfl rfl) h1
  clear hA0 hV0 hval0
  have hwords : Words W := words_of_laid (Lib.laidMet.reads hL (.head _))
  refine TypesFit_walk s s' W hwords ws ws' (fun W' bel => ?_)
  refine ⟨_, rfl, _, _, _, [], [], [], hW', ?_, ?_, ?_, bel.frame _, fun h => by cases h⟩
  · exact trodAll_mk1 (shut_bool Tryd.underlying4 _)
  · exact trodAll_mk2 (shut_string Tryd.underlying9 ws) (shut_string Tryd.underlying9 ws')
  · rfl

theorem said : Rows.TypesFitSaid :=
  OpenClaim.holds_of_cond 6 Tryd.f6 rfl rfl rfl rfl rfl rfl rfl ⟨rfl, rfl, rfl, rfl, rfl⟩ rfl rfl rfl rfl rfl (by kernel_rfl) Tryd.func6 (by kernel_rfl)
    (of_decide_eq_true (by kernel_rfl)) (by unfold Func.isWrapper; first | (rw [if_pos (by decide +kernel)]; kernel_rfl) | (rw [if_neg (by decide +kernel)]; exact ⟨rfl, rfl⟩))
    (fun os started H enc _ F => by rw [OpenClaim.pre_eq_preRow]; exact lifted os started H enc F)

/-- No parameter wants a stand-in; the program's own looks are off: what the card asks. -/
theorem plain (f : FuncId) (fn : Func) (hf : Tryd.pinned.checked.prog.funcNamed "guardrail/guardraillaw.TypesFit" = some f) (hfn : Tryd.pinned.checked.prog.funcs[f]? = some fn) :
    true = Tryd.pinned.checked.prog.looks [] ∧ ∀ (j : Nat) t, fn.params[j]? = some t → Tryd.pinned.checked.prog.wantsStandIn t = false := by
  obtain rfl : f = 6 := Option.some.inj ((show Tryd.prog.funcNamed "guardrail/guardraillaw.TypesFit" = some 6 by kernel_rfl).symm.trans hf) |>.symm
  obtain rfl : fn = Tryd.f6 := (Option.some.inj (Tryd.func6.symm.trans hfn)).symm
  refine ⟨by kernel_rfl, fun j t ht => ?_⟩
  rw [Tryd.params6] at ht
  obtain rfl : t = 9 := by simpa using Array.mem_of_getElem? ht
  exact (show Tryd.prog.wantsStandIn 9 = false by kernel_rfl)

/-- The card. -/
theorem card : Rows.TypesFitCardSaid :=
  Claim7.holds_tied_plain_at .later [] _ _ _ _ said (fun _ h => by cases h) (by kernel_rfl) (fun _ h => by cases h) typesFit_row_tie rfl ⟨rfl, rfl⟩ (by kernel_rfl) rfl plain (by kernel_rfl)
end Go.Proofs.YtdlbhiaceheffaaDoor.typesFit
