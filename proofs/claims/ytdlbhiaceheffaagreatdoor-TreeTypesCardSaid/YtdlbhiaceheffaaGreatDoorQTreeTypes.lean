/- Walk of the law TreeTypes. A world in which six listed variables are laid. The row and the card of TreeTypes, out of its walk: whatever text, the law answers true. -/
import Derived.Test.YtdlbhiaceheffaaGreatDoorQSm
import Derived.Test.YtdlbhiaceheffaaGreatDoorQRrB
import Derived.Test.YtdlbhiaceheffaaGreatDoorQTokRow
namespace Go.Proofs.YtdlbhiaceheffaaGreatDoor
open Go Go.RowKit
open Prt (Sat As blk pur exs star stars)

set_option maxRecDepth 100000 in
set_option maxHeartbeats 2000000 in
theorem TreeTypes_walk (s : ByteArray) (w : World) (hw : Words w) (hm : s.size ≤ maxLen) {R : Ending → World → Prop} (hR : ∀ w', Below w.heap.size w w' → R (.returned (.bool true)) w') :
    Calls Tryz.prog 5 #[.string s] w R := by
  have HR := Lib.hid hR
  have HW := Lib.hid hw
  have HM := Lib.hid hm
  clear hR hw hm
  go_enter Tryz.func5, Tryz.ntmps5
  go_wp2_with fail
  refine Type_any (Prt.Sat.old w) s HW.out HM.out (fun ts v w1 ht h1 => ?_) (fun f w1 ht h1 => ?_)
  · obtain ⟨rows1, hr1, hrd1⟩ := h1.tyRd 1 rfl
    obtain ⟨a1, c1, rfl⟩ := owns_slice hrd1.row
    have h2 := h1.allocAt (.cells #[.int .i64 0, .int .i64 0] 25) w1.heap.size
    have H2 := Lib.hid h2
    have HT := Lib.hid ht
    clear ht h1 h2 hrd1 hr1
    dsimp only [ftVal]
    go_wp2_with fail
    refine refTypeOf_any (Prt.Sat.pack (L := []) H2.out) s HM.out (fun ts2 v2 w2 hts h3 => ?_) (fun f w2 hts h3 => ?_)
    rotate_left
    · exact absurd (HT.out.symm.trans hts) (by simp)
    obtain rfl := Except.ok.inj (HT.out.symm.trans hts)
    have h4 := (h3.unpack (i := 0) rfl)
    obtain ⟨rows2, hr2, hrd2⟩ := h4.tyRd 0 rfl
    obtain ⟨a2, c2, rfl⟩ := owns_slice hrd2.row
    have h5 := h4.allocAt (.cells #[.int .i64 0, .int .i64 0] 25) w2.heap.size
    obtain ⟨_, _, hl300⟩ := Ty.typeOf_wf hts
    have HL := Lib.hid hl300
    have h6 : Sat w _ [Prt.oldA w, tyA (.slice a1 rows1.length c1) ts, blk w1.heap.size (.cells #[.int .i64 0, .int .i64 0] 25 (0, 0)), tyA (.slice a2 rows2.length c2) ts, blk w2.heap.size (.cells #[.int .i64 0, .int .i64 0] 25 (0, 0))] := h5.pick [1, 2, 3, 0, 4]
    have H6 := Lib.hid h6
    clear hts h3 h4 h5 h6 hrd2 hr2 hl300
    dsimp only [ftVal]
    go_wp2_with fail
    refine treeBegun_any _ (HW.out.below H6.out.isBelow) (fun w3 hb3 => ?_)
    have h7 := H6.out.below hb3
    have x0 := h7.cell 2 rfl 0 rfl
    have x1 := h7.cell 2 rfl 1 rfl
    have y0 := h7.cell 4 rfl 0 rfl
    have y1 := h7.cell 4 rfl 1 rfl
    obtain ⟨q1, e1, r1⟩ := h7.tyRd 1 rfl
    obtain ⟨q2, e2, r2⟩ := h7.tyRd 3 rfl
    have hq : q1.length ≤ 2000 := by have := congrArg List.length e1; rw [List.length_map] at this; have := HL.out; omega
    have HSM := Lib.hid (fun R hR => sameTypes_any w3 _ _ q1 q2 (e1.trans e2.symm) hq r1 r2 (R := R) hR)
    have H7 := Lib.hid h7
    clear hb3 h7 e1 e2 r1 r2 hq
    go_wp2_with fail
    refine HSM.out _ (fun w4 hb4 => ?_)
    have H8 := Lib.hid (H7.out.below hb4)
    clear hb4
    go_wp2_with fail
    exact HR.out _ H8.out.isBelow
  · have hbd := Ty.typeOf_bad ht
    obtain ⟨fe, fp⟩ := f
    dsimp only at hbd
    have h2 := h1.allocAt (.cells #[.int .i64 fe, .int .i64 fp] 25) w1.heap.size
    have H2 := Lib.hid h2
    have HT := Lib.hid ht
    clear ht h1 h2 hbd
    dsimp only [ftVal]
    go_wp2_with fail
    refine refTypeOf_any (Prt.Sat.pack (L := []) H2.out) s HM.out (fun ts2 v2 w2 hts h3 => ?_) (fun f w2 hts h3 => ?_)
    · exact absurd (HT.out.symm.trans hts) (by simp)
    obtain rfl := Except.error.inj (HT.out.symm.trans hts)
    have h5 := (h3.unpack (i := 0) rfl).allocAt (.cells #[.int .i64 fe, .int .i64 fp] 25) w2.heap.size
    have H6 := Lib.hid h5
    clear hts h3 h5
    dsimp only [ftVal]
    go_wp2_with fail
    refine treeBegun_any _ (HW.out.below H6.out.isBelow) (fun w3 hb3 => ?_)
    have h7 := H6.out.below hb3
    have x0 := h7.cell 1 rfl 0 rfl
    have x1 := h7.cell 1 rfl 1 rfl
    have y0 := h7.cell 2 rfl 0 rfl
    have y1 := h7.cell 2 rfl 1 rfl
    have HSM := Lib.hid (fun R hR => sameTypes_any w3 (.slice none 0 0) (.slice none 0 0) [] [] rfl (by simp) ⟨⟨rfl, .inl ⟨rfl, rfl⟩⟩, fun r hr => by cases hr⟩ ⟨⟨rfl, .inl ⟨rfl, rfl⟩⟩, fun r hr => by cases hr⟩ (R := R) hR)
    have H7 := Lib.hid h7
    clear hb3 h7
    go_wp2_with fail
    refine HSM.out _ (fun w4 hb4 => ?_)
    have H8 := Lib.hid (H7.out.below hb4)
    clear hb4
    go_wp2_with fail
    exact HR.out _ H8.out.isBelow
end Go.Proofs.YtdlbhiaceheffaaGreatDoor

namespace Go.Proofs.YtdlbhiaceheffaaGreatDoor
open Go.ChangeShapes Go.WideShapes Go.ChangeAt Go.RowKit Go.Lib

def tab32 : Array Value := (#[0, 1, 28, 2, 29, 14, 24, 3, 30, 22, 20, 15, 25, 17, 4, 8, 31, 27, 13, 23, 21, 19, 16, 7, 26, 12, 18, 6, 11, 5, 10, 9] : Array Int).map fun n => .int .u8 n
def tab64 : Array Value := (#[0, 1, 56, 2, 57, 49, 28, 3, 61, 58, 42, 50, 38, 29, 17, 4, 62, 47, 59, 36, 45, 43, 51, 22, 53, 39, 33, 30, 24, 18, 12, 5, 63, 55, 48, 27, 60, 41, 37, 16, 46, 35, 44, 21, 52, 32, 23, 11, 54, 26, 40, 15, 34, 20, 31, 10, 25, 14, 19, 9, 13, 8, 7, 6] : Array Int).map fun n => .int .u8 n
def pow10s : Array Value := (#[1, 10, 100, 1000, 10000, 100000, 1000000, 10000000, 100000000, 1000000000, 10000000000, 100000000000, 1000000000000, 10000000000000, 100000000000000, 1000000000000000, 10000000000000000, 100000000000000000, 1000000000000000000, 10000000000000000000] : Array Int).map fun n => .int .u64 n
def relay (cs : Array Value) : Obj → Obj
  | .cells _ t frozen => .cells cs t frozen
  | o => o
/-- A world for the witness: the settled one, six variables laid. -/
noncomputable def laidWorld6 (os : Os) : World :=
  let w0 := World.holding Tryz.prog os ⟨#[], #[], []⟩
  let n := w0.heap.size
  { w0 with heap := (((((((((w0.heap.modify 0 (relay #[.slice (some ⟨n, 0, none⟩) 17 17])).modify 3 (relay tab32)).modify 4 (relay tab64)).modify 2 (relay pow10s)).modify 6 (relay #[.iface 203 (.pointer (some ⟨n + 1, 0, none⟩))])).modify 5 (relay #[.iface 203 (.pointer (some ⟨n + 2, 0, none⟩))])).push (.cells (Tok.words.map Value.string).toArray 9)).push (.cells #[.string ⟨#[118, 97, 108, 117, 101, 32, 111, 117, 116, 32, 111, 102, 32, 114, 97, 110, 103, 101]⟩] 205)).push (.cells #[.string ⟨#[105, 110, 118, 97, 108, 105, 100, 32, 115, 121, 110, 116, 97, 120]⟩] 205)) }
theorem laid_met6 (os : Os) (args : Array Value) : laidMet Tryz.prog Rows.treeTypesRow.laid ((laidWorld6 os).forCall (fun _ _ => 0) ⟨#[], args, []⟩).memory :=
  laidMet_of_run' 8 (by kernel_rfl) (by kernel_rfl)
end Go.Proofs.YtdlbhiaceheffaaGreatDoor

namespace Go.Proofs.YtdlbhiaceheffaaGreatDoor.treeTypes
open Go.ChangeShapes Go.WideShapes Go.ChangeAt Go.RowKit Go.Lib
open Go.ChangeMaps (open_string shut_string)

theorem laid_met (os : Os) (args : Array Value) : laidMet Tryz.prog Rows.treeTypesRow.laid ((laidWorld6 os).forCall (fun _ _ => 0) ⟨#[], args, []⟩).memory :=
  laidMet_of_run' 8 (by kernel_rfl) (by kernel_rfl)

theorem witness_row (os : Os) {H : Type} (enc : TypeId × Value → H) :
    (OpenSpec.ofChange Rows.treeTypesSpec).preRow enc Tryz.prog Tryz.f5 Rows.treeTypesRow.domain false Rows.treeTypesRow.laid ((laidWorld6 os).forCall (fun _ _ => 0) ⟨#[], #[.string ⟨#[]⟩], []⟩).memory #[.string ⟨#[]⟩] := by
  have hw : (DataW.whole enc Tryz.prog ((laidWorld6 os).forCall (fun _ _ => 0) ⟨#[], #[.string ⟨#[]⟩], []⟩).memory Tryz.f5.params.toList Rows.treeTypesSpec.vars false #[Value.string ⟨#[]⟩].toList 8).map (fun x => (x.1, x.2.1)) =
      some ([.lit (.string [])], []) := by kernel_rfl
  obtain ⟨⟨x1, x2, x3⟩, hx, hx1⟩ := Option.map_eq_some_iff.1 hw
  simp only [Prod.mk.injEq] at hx1
  obtain ⟨rfl, rfl⟩ := hx1
  exact OpenSpec.preRow_of_cond 8 hx (by kernel_rfl) (fun k hk => by cases hk) (by kernel_rfl) (laid_met os _)

set_option maxRecDepth 100000 in
set_option maxHeartbeats 2000000 in
theorem lifted (os : Os) (started : os.Started) (H : Type) (enc : TypeId × Value → H) (F : Stop.Interp) :
    ReturnsInHanded {} Tryz.checked os 5 .any ((OpenSpec.ofChange Rows.treeTypesSpec).preRow enc Tryz.prog Tryz.f5 Rows.treeTypesRow.domain false Rows.treeTypesRow.laid) (((OpenSpec.ofChange Rows.treeTypesSpec).at F).post enc Tryz.prog Tryz.f5 false true false false) := by
  refine returnsInHanded_of_row (C := Tryz.checked) (s := OpenSpec.ofChange Rows.treeTypesSpec) ownKnob_none started (by kernel_rfl) Tryz.func5
    (witness_row_atRef (enc := enc) (C := Tryz.checked) false (laidWorld6 os) #[.string ⟨#[]⟩] rfl (by kernel_rfl) (by kernel_rfl) (by kernel_rfl) (witness_row os enc)) ?_
  intro W base args ds gs before hval0 hW _ _ _ hL _ _
  have hval : ∀ (j : Nat) t v, Tryz.f5.params[j]? = some t → args[j]? = some v → Value.okWide Tryz.prog W .any base t v := hval0
  have hW' := hW
  obtain ⟨p, q, hA0, hV0, rfl, _, _⟩ := hW
  have hA : DataW.TrodAll enc Tryz.prog W 0 (fun _ => true) true Tryz.f5.params.toList args.toList ds p := hA0
  rw [Tryz.params5] at hA hval
  obtain ⟨v0, d0, rfl, rfl, h0⟩ := trodAll_one hA
  obtain ⟨rfl, rfl⟩ := trodVars_none hV0
  obtain ⟨s, rfl, rfl, rfl, ws⟩ := open_string Tryz.underlying9 (hval 0 9 v0 rfl rfl) h0
  clear hA0 hV0 hval0
  have hwords : Words W := words_of_laid (Lib.laidMet.reads hL (.tail _ (.tail _ (.tail _ (.tail _ (.tail _ (.head _)))))))
  refine TreeTypes_walk s W hwords ws (fun W' bel => ?_)
  refine ⟨_, rfl, _, _, _, [], [], [], hW', ?_, ?_, ?_, bel.frame _, fun h => by cases h⟩
  · exact trodAll_mk1 (shut_bool Tryz.underlying4 _)
  · exact trodAll_mk1 (shut_string Tryz.underlying9 ws)
  · rfl

theorem said : Rows.TreeTypesSaid :=
  OpenClaim.holds_of_cond 5 Tryz.f5 rfl rfl rfl rfl rfl rfl rfl ⟨rfl, rfl, rfl, rfl, rfl⟩ rfl rfl rfl rfl rfl (by kernel_rfl) Tryz.func5 (by kernel_rfl)
    (of_decide_eq_true (by kernel_rfl)) (by unfold Func.isWrapper; first | (rw [if_pos (by decide +kernel)]; kernel_rfl) | (rw [if_neg (by decide +kernel)]; exact ⟨rfl, rfl⟩))
    (fun os started H enc _ F => by rw [OpenClaim.pre_eq_preRow]; exact lifted os started H enc F)

/-- No parameter wants a stand-in; the program's own looks are off: what the card asks. -/
theorem plain (f : FuncId) (fn : Func) (hf : Tryz.pinned.checked.prog.funcNamed "guardrail/guardraillaw.TreeTypes" = some f) (hfn : Tryz.pinned.checked.prog.funcs[f]? = some fn) :
    true = Tryz.pinned.checked.prog.looks [] ∧ ∀ (j : Nat) t, fn.params[j]? = some t → Tryz.pinned.checked.prog.wantsStandIn t = false := by
  obtain rfl : f = 5 := Option.some.inj ((show Tryz.prog.funcNamed "guardrail/guardraillaw.TreeTypes" = some 5 by kernel_rfl).symm.trans hf) |>.symm
  obtain rfl : fn = Tryz.f5 := (Option.some.inj (Tryz.func5.symm.trans hfn)).symm
  refine ⟨by kernel_rfl, fun j t ht => ?_⟩
  rw [Tryz.params5] at ht
  obtain rfl : t = 9 := by simpa using Array.mem_of_getElem? ht
  exact (show Tryz.prog.wantsStandIn 9 = false by kernel_rfl)

/-- The card. -/
theorem card : Rows.TreeTypesCardSaid :=
  Claim7.holds_tied_plain_at .later [] _ _ _ _ said (fun _ h => by cases h) (by kernel_rfl) (fun _ h => by cases h) treeTypes_row_tie rfl ⟨rfl, rfl⟩ (by kernel_rfl) rfl plain (by kernel_rfl)
end Go.Proofs.YtdlbhiaceheffaaGreatDoor.treeTypes
