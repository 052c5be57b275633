/- Walk of the law TreeParses. The row and the card of TreeParses, out of its walk: whatever text, the law answers true. -/
import Derived.Test.YtdlbhiaceheffaaGreatDoorQSmB
import Derived.Test.YtdlbhiaceheffaaGreatDoorQSm
import Derived.Test.YtdlbhiaceheffaaGreatDoorQRqF
import Derived.Test.YtdlbhiaceheffaaGreatDoorQTreeRow
namespace Go.Proofs.YtdlbhiaceheffaaGreatDoor
open Go Go.RowKit
open Prt (Sat As blk pur exs star stars)

theorem parse_wf {s : ByteArray} {pg : Ty.Pg} (h : Ty.parse s = .ok pg) : pg.ns.length ≤ 1200 ∧ pg.ts.length ≤ 300 := by
  unfold Ty.parse at h
  split at h
  · cases h
  · split at h
    · cases h
    · split at h
      · cases h
      · cases h; exact ⟨by dsimp only; omega, by dsimp only; omega⟩
set_option maxRecDepth 100000 in
set_option maxHeartbeats 4000000 in
theorem TreeParses_walk (s : ByteArray) (w : World) (hw : Words w) (hm : s.size ≤ maxLen) {R : Ending → World → Prop} (hR : ∀ w', Below w.heap.size w w' → R (.returned (.bool true)) w') :
    Calls Tryz.prog 4 #[.string s] w R := by
  have HR := Lib.hid hR
  have HW := Lib.hid hw
  have HM := Lib.hid hm
  clear hR hw hm
  go_enter Tryz.func4, Tryz.ntmps4
  go_wp2_with fail
  refine Parse_any (Prt.Sat.old w) s HW.out HM.out (fun pg n1 t1 w1 ht h1 => ?_) (fun f w1 ht h1 => ?_)
  · obtain ⟨nr1, hr1, hrd1⟩ := h1.rdNodes 1 rfl
    obtain ⟨tr1, hs1, hsd1⟩ := h1.tyRd 2 rfl
    obtain ⟨a1, c1, rfl⟩ := owns_slice hrd1.row
    obtain ⟨b1, d1, rfl⟩ := owns_slice hsd1.row
    have h2 := (h1.allocAt (.cells #[.slice a1 nr1.length c1, .slice b1 tr1.length d1, .int .i64 (pg.main : Nat)] 33) w1.heap.size).allocAt (.cells #[.int .i64 0, .int .i64 0] 25) (w1.heap.size + 1)
    have H2 := Lib.hid h2
    have HT := Lib.hid ht
    have HWF := Lib.hid (parse_wf ht)
    clear ht h1 h2 hrd1 hr1 hs1 hsd1
    dsimp only [ftVal]
    go_wp2_with fail
    refine refParseOf_any (Prt.Sat.pack (L := []) H2.out) s HM.out (fun pg2 n2 t2 w2 hts h3 => ?_) (fun f w2 hts h3 => ?_)
    rotate_left
    · exact absurd (HT.out.symm.trans hts) (by simp)
    obtain rfl := Except.ok.inj (HT.out.symm.trans hts)
    have h4 := (h3.unpack (i := 0) rfl)
    obtain ⟨nr2, hr2, hrd2⟩ := h4.rdNodes 0 rfl
    obtain ⟨tr2, hs2, hsd2⟩ := h4.tyRd 1 rfl
    obtain ⟨a2, c2, rfl⟩ := owns_slice hrd2.row
    obtain ⟨b2, d2, rfl⟩ := owns_slice hsd2.row
    have h5 := (h4.allocAt (.cells #[.slice a2 nr2.length c2, .slice b2 tr2.length d2, .int .i64 (pg.main : Nat)] 33) w2.heap.size).allocAt (.cells #[.int .i64 0, .int .i64 0] 25) (w2.heap.size + 1)
    have h6 := h5.pick [2, 3, 4, 5, 6, 0, 1, 7, 8]
    have H6 := Lib.hid h6
    clear hts h3 h4 h5 h6 hrd2 hr2 hs2 hsd2
    dsimp only [ftVal]
    go_wp2_with fail
    refine treeBegun_any _ (HW.out.below H6.out.isBelow) (fun w3 hb3 => ?_)
    have h7 := H6.out.below hb3
    have x0 := h7.cell 4 rfl 0 rfl
    have x1 := h7.cell 4 rfl 1 rfl
    have y0 := h7.cell 8 rfl 0 rfl
    have y1 := h7.cell 8 rfl 1 rfl
    have u0 := h7.cell 3 rfl 0 rfl
    have v0 := h7.cell 7 rfl 0 rfl
    have u1 := h7.cell 3 rfl 1 rfl
    have v1 := h7.cell 7 rfl 1 rfl
    have u2 := h7.cell 3 rfl 2 rfl
    have v2 := h7.cell 7 rfl 2 rfl
    obtain ⟨q1, e1, r1⟩ := h7.rdNodes 1 rfl
    obtain ⟨p1, f1, k1⟩ := h7.tyRd 2 rfl
    obtain ⟨q2, e2, r2⟩ := h7.rdNodes 5 rfl
    obtain ⟨p2, f2, k2⟩ := h7.tyRd 6 rfl
    have hq : q1.length ≤ 2000 := by have := congrArg List.length e1; rw [List.length_map] at this; have := HWF.out.1; omega
    have hp : p1.length ≤ 2000 := by have := congrArg List.length f1; rw [List.length_map] at this; have := HWF.out.2; omega
    have HSM := Lib.hid (fun R hR => sameProgram_any w3 _ _ _ _ q1 q2 p1 p2 (pg.main : Nat) (e1.trans e2.symm) (f1.trans f2.symm) hq hp r1 r2 k1 k2 (R := R) hR)
    have H7 := Lib.hid h7
    clear hb3 h7 e1 e2 f1 f2 r1 r2 k1 k2 hq hp
    go_wp2_with fail
    refine HSM.out _ (fun w4 hb4 => ?_)
    have H8 := Lib.hid (H7.out.below hb4)
    clear hb4
    go_wp2_with fail
    exact HR.out _ H8.out.isBelow
  · have hbd := Ty.parse_bad ht
    obtain ⟨fe, fp⟩ := f
    dsimp only at hbd
    have h2 := (h1.allocAt (.cells #[.slice none 0 0, .slice none 0 0, .int .i64 0] 33) w1.heap.size).allocAt (.cells #[.int .i64 fe, .int .i64 fp] 25) (w1.heap.size + 1)
    have H2 := Lib.hid h2
    have HT := Lib.hid ht
    clear ht h1 h2 hbd
    dsimp only [ftVal]
    go_wp2_with fail
    refine refParseOf_any (Prt.Sat.pack (L := []) H2.out) s HM.out (fun pg2 n2 t2 w2 hts h3 => ?_) (fun f w2 hts h3 => ?_)
    · exact absurd (HT.out.symm.trans hts) (by simp)
    obtain rfl := Except.error.inj (HT.out.symm.trans hts)
    have h5 := ((h3.unpack (i := 0) rfl).allocAt (.cells #[.slice none 0 0, .slice none 0 0, .int .i64 0] 33) w2.heap.size).allocAt (.cells #[.int .i64 fe, .int .i64 fp] 25) (w2.heap.size + 1)
    have H6 := Lib.hid h5
    clear hts h3 h5
    dsimp only [ftVal]
    go_wp2_with fail
    refine treeBegun_any _ (HW.out.below H6.out.isBelow) (fun w3 hb3 => ?_)
    have h7 := H6.out.below hb3
    have x0 := h7.cell 2 rfl 0 rfl
    have x1 := h7.cell 2 rfl 1 rfl
    have y0 := h7.cell 4 rfl 0 rfl
    have y1 := h7.cell 4 rfl 1 rfl
    have u0 := h7.cell 1 rfl 0 rfl
    have v0 := h7.cell 3 rfl 0 rfl
    have u1 := h7.cell 1 rfl 1 rfl
    have v1 := h7.cell 3 rfl 1 rfl
    have u2 := h7.cell 1 rfl 2 rfl
    have v2 := h7.cell 3 rfl 2 rfl
    have HSM := Lib.hid (fun R hR => sameProgram_any w3 (.slice none 0 0) (.slice none 0 0) (.slice none 0 0) (.slice none 0 0) [] [] [] [] 0 rfl rfl (by simp) (by simp) ⟨⟨rfl, .inl ⟨rfl, rfl⟩⟩, fun r hr => by cases hr⟩ ⟨⟨rfl, .inl ⟨rfl, rfl⟩⟩, fun r hr => by cases hr⟩ ⟨⟨rfl, .inl ⟨rfl, rfl⟩⟩, fun r hr => by cases hr⟩ ⟨⟨rfl, .inl ⟨rfl, rfl⟩⟩, fun r hr => by cases hr⟩ (R := R) hR)
    have H7 := Lib.hid h7
    clear hb3 h7
    go_wp2_with fail
    refine HSM.out _ (fun w4 hb4 => ?_)
    have H8 := Lib.hid (H7.out.below hb4)
    clear hb4
    go_wp2_with fail
    exact HR.out _ H8.out.isBelow
end Go.Proofs.YtdlbhiaceheffaaGreatDoor

namespace Go.Proofs.YtdlbhiaceheffaaGreatDoor.treeParses
open Go.ChangeShapes Go.WideShapes Go.ChangeAt Go.RowKit Go.Lib
open Go.ChangeMaps (open_string shut_string)

theorem laid_met (os : Os) (args : Array Value) : laidMet Tryz.prog Rows.treeParsesRow.laid ((laidWorld6 os).forCall (fun _ _ => 0) ⟨#[], args, []⟩).memory :=
  laidMet_of_run' 8 (by kernel_rfl) (by kernel_rfl)

theorem witness_row (os : Os) {H : Type} (enc : TypeId × Value → H) :
    (OpenSpec.ofChange Rows.treeParsesSpec).preRow enc Tryz.prog Tryz.f4 Rows.treeParsesRow.domain false Rows.treeParsesRow.laid ((laidWorld6 os).forCall (fun _ _ => 0) ⟨#[], #[.string ⟨#[]⟩], []⟩).memory #[.string ⟨#[]⟩] := by
  have hw : (DataW.whole enc Tryz.prog ((laidWorld6 os).forCall (fun _ _ => 0) ⟨#[], #[.string ⟨#[]⟩], []⟩).memory Tryz.f4.params.toList Rows.treeParsesSpec.vars false #[Value.string ⟨#[]⟩].toList 8).map (fun x => (x.1, x.2.1)) =
      some ([.lit (.string [])], []) := by kernel_rfl
  obtain ⟨⟨x1, x2, x3⟩, hx, hx1⟩ := Option.map_eq_some_iff.1 hw
  simp only [Prod.mk.injEq] at hx1
  obtain ⟨rfl, rfl⟩ := hx1
  exact OpenSpec.preRow_of_cond 8 hx (by kernel_rfl) (fun k hk => by cases hk) (by kernel_rfl) (laid_met os _)

set_option maxRecDepth 100000 in
set_option maxHeartbeats 2000000 in
theorem lifted (os : Os) (started : os.Started) (H : Type) (enc : TypeId × Value → H) (F : Stop.Interp) :
    ReturnsInHanded {} Tryz.checked os 4 .any ((OpenSpec.ofChange Rows.treeParsesSpec).preRow enc Tryz.prog Tryz.f4 Rows.treeParsesRow.domain false Rows.treeParsesRow.laid) (((OpenSpec.ofChange Rows.treeParsesSpec).at F).post enc Tryz.prog Tryz.f4 false true false false) := by
  refine returnsInHanded_of_row (C := Tryz.checked) (s := OpenSpec.ofChange Rows.treeParsesSpec) ownKnob_none started (by kernel_rfl) Tryz.func4
    (witness_row_atRef (enc := enc) (C := Tryz.checked) false (laidWorld6 os) #[.string ⟨#[]⟩] rfl (by kernel_rfl) (by kernel_rfl) (by kernel_rfl) (witness_row os enc)) ?_
  intro W base args ds gs before hval0 hW _ _ _ hL _ _
  have hval : ∀ (j : Nat) t v, Tryz.f4.params[j]? = some t → args[j]? = some v → Value.okWide Tryz.prog W .any base t v := hval0
  have hW' := hW
  obtain ⟨p, q, hA0, hV0, rfl, _, _⟩ := hW
  have hA : DataW.TrodAll enc Tryz.prog W 0 (fun _ => true) true Tryz.f4.params.toList args.toList ds p := hA0
  rw [Tryz.params4] at hA hval
  obtain ⟨v0, d0, rfl, rfl, h0⟩ := trodAll_one hA
  obtain ⟨rfl, rfl⟩ := trodVars_none hV0
  obtain ⟨s, rfl, rfl, rfl, ws⟩ := open_string Tryz.underlying9 (hval 0 9 v0 rfl rfl) h0
  clear hA0 hV0 hval0
  have hwords : Words W := words_of_laid (Lib.laidMet.reads hL (.tail _ (.tail _ (.tail _ (.tail _ (.tail _ (.head _)))))))
  refine TreeParses_walk s W hwords ws (fun W' bel => ?_)
  refine ⟨_, rfl, _, _, _, [], [], [], hW', ?_, ?_, ?_, bel.frame _, fun h => by cases h⟩
  · exact trodAll_mk1 (shut_bool Tryz.underlying4 _)
  · exact trodAll_mk1 (shut_string Tryz.underlying9 ws)
  · rfl

theorem said : Rows.TreeParsesSaid :=
  OpenClaim.holds_of_cond 4 Tryz.f4 rfl rfl rfl rfl rfl rfl rfl ⟨rfl, rfl, rfl, rfl, rfl⟩ rfl rfl rfl rfl rfl (by kernel_rfl) Tryz.func4 (by kernel_rfl)
    (of_decide_eq_true (by kernel_rfl)) (by unfold Func.isWrapper; first | (rw [if_pos (by decide +kernel)]; kernel_rfl) | (rw [if_neg (by decide +kernel)]; exact ⟨rfl, rfl⟩))
    (fun os started H enc _ F => by rw [OpenClaim.pre_eq_preRow]; exact lifted os started H enc F)

/-- No parameter wants a stand-in; the program's own looks are off: what the card asks. -/
theorem plain (f : FuncId) (fn : Func) (hf : Tryz.pinned.checked.prog.funcNamed "guardrail/guardraillaw.TreeParses" = some f) (hfn : Tryz.pinned.checked.prog.funcs[f]? = some fn) :
    true = Tryz.pinned.checked.prog.looks [] ∧ ∀ (j : Nat) t, fn.params[j]? = some t → Tryz.pinned.checked.prog.wantsStandIn t = false := by
  obtain rfl : f = 4 := Option.some.inj ((show Tryz.prog.funcNamed "guardrail/guardraillaw.TreeParses" = some 4 by kernel_rfl).symm.trans hf) |>.symm
  obtain rfl : fn = Tryz.f4 := (Option.some.inj (Tryz.func4.symm.trans hfn)).symm
  refine ⟨by kernel_rfl, fun j t ht => ?_⟩
  rw [Tryz.params4] at ht
  obtain rfl : t = 9 := by simpa using Array.mem_of_getElem? ht
  exact (show Tryz.prog.wantsStandIn 9 = false by kernel_rfl)

/-- The card. -/
theorem card : Rows.TreeParsesCardSaid :=
  Claim7.holds_tied_plain_at .later [] _ _ _ _ said (fun _ h => by cases h) (by kernel_rfl) (fun _ h => by cases h) treeParses_row_tie rfl ⟨rfl, rfl⟩ (by kernel_rfl) rfl plain (by kernel_rfl)
end Go.Proofs.YtdlbhiaceheffaaGreatDoor.treeParses
