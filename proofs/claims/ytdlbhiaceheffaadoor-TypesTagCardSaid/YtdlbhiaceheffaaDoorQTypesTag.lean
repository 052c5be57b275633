/- Walk of the law TypesTag. The row and the card of TypesTag, out of its walk: whatever text, the law answers true. -/
import Derived.Test.YtdlbhiaceheffaaDoorQTt
import Derived.Test.YtdlbhiaceheffaaDoorQRrB
import Derived.Test.YtdlbhiaceheffaaDoorQTokRow
namespace Go.Proofs.YtdlbhiaceheffaaDoor
open Go Go.RowKit
open Prt (Sat As blk pur exs star stars)
open Ty (Tr anyTo anyTo_iff anyTo_false)

theorem treeOf_of_ok {s : ByteArray} {ts : List Ty.Ty} (h : Ty.typeOf s = .ok ts) : treeOf s = .ok (Ty.den ts (ts.length - 1)) := by unfold treeOf; rw [h]
theorem treeOf_of_err {s : ByteArray} {f : Ty.Ft} (h : Ty.typeOf s = .error f) : treeOf s = .error f := by unfold treeOf; rw [h]
set_option maxRecDepth 100000 in
set_option maxHeartbeats 1000000 in
theorem TypesTag_walk (s : ByteArray) (w : World) (hw : Words w) (hm : s.size ≤ maxLen) {R : Ending → World → Prop} (hR : ∀ w', Below w.heap.size w w' → R (.returned (.bool true)) w') :
    Calls Tryd.prog 5 #[.string s] w R := by
  have HR := Lib.hid hR
  have HW := Lib.hid hw
  have HM := Lib.hid hm
  clear hR hw hm
  go_enter Tryd.func5, Tryd.ntmps5
  go_wp2_with fail
  refine Tags_any w s HW.out HM.out (fun t w1 ht hb => ?_) (fun f w1 ht hb => ?_)
  · have h1 := ((Prt.Sat.old w).below hb).allocAt (.cells #[.int .i64 0, .int .i64 0] 25) w1.heap.size
    have H1 := Lib.hid h1
    have HT := Lib.hid ht
    clear ht hb h1
    dsimp only [ftVal]
    go_wp2_with fail
    refine refTypeOf_any (Prt.Sat.pack (L := []) H1.out) s HM.out (fun ts v w2 hts h2 => ?_) (fun f w2 hts h2 => ?_)
    rotate_left
    · exact absurd (HT.out.symm.trans (treeOf_of_err hts)) (by simp)
    obtain rfl := Except.ok.inj (HT.out.symm.trans (treeOf_of_ok hts))
    obtain ⟨rows, hrt, hrd⟩ := h2.tyRd 1 rfl
    obtain ⟨hwf, hpos, hl300⟩ := Ty.typeOf_wf hts
    have hrl : rows.length = ts.length := by rw [← hrt]; simp
    have hr0 : 0 < rows.length := by omega
    obtain ⟨gt, capt, rfl, hgt, hrc, hcm, _⟩ := hrd.at hr0
    have hrd2 := hrd.below ((Below.refl w2.heap.size w2).alloc (Nat.le_refl _) (.cells #[.int .i64 0, .int .i64 0] 25))
    have HTG : Hid (∀ R : Ending → World → Prop, R (.returned (.int .i64 (Ty.tags (Ty.den ts (ts.length - 1)) : Nat))) (w2.alloc (.cells #[.int .i64 0, .int .i64 0] 25)) → Calls Tryd.prog 14 #[.slice (some ⟨gt, 0, none⟩) rows.length capt, .int .i64 ((rows.length - 1 : Nat) : Int)] (w2.alloc (.cells #[.int .i64 0, .int .i64 0] 25)) R) := fun R hR =>
      refTagsOf_any _ _ rows ts hrt hwf (by omega) hrd2 _ (rows.length - 1) (Nat.lt_succ_self _) (by omega) R (by rw [hrl]; exact hR)
    have h3 := (((h2.unpack (i := 0) rfl).pick [1, 2])).allocAt (.cells #[.int .i64 0, .int .i64 0] 25) w2.heap.size
    have H3 := Lib.hid h3
    have hr3 : rows.length ≤ 300 := by omega
    generalize Ty.tags (Ty.den ts (ts.length - 1)) = n at *
    clear h2 h3 hts hrt hrd hwf hpos hl300 hrl hrd2
    dsimp only [ftVal]
    go_wp2_with fail
    have e : ((rows.length : Int) - 1) = ((rows.length - 1 : Nat) : Int) := by omega
    rw [e]
    clear e
    refine HTG.out _ ?_
    go_wp2_with fail
    refine typesBegun_any _ (HW.out.below H3.out.isBelow) (fun w3 hb3 => ?_)
    have h4 := H3.out.below hb3
    have x0 := h4.cell 1 rfl 0 rfl
    have x1 := h4.cell 1 rfl 1 rfl
    have y0 := h4.cell 2 rfl 0 rfl
    have y1 := h4.cell 2 rfl 1 rfl
    have H4 := Lib.hid h4
    clear hb3 h4
    go_wp2_with fail
    exact HR.out _ H4.out.isBelow
  · have hbd := treeOf_bad ht
    obtain ⟨fe, fp⟩ := f
    dsimp only at hbd
    have h1 := ((Prt.Sat.old w).below hb).allocAt (.cells #[.int .i64 fe, .int .i64 fp] 25) w1.heap.size
    have H1 := Lib.hid h1
    have HT := Lib.hid ht
    have e2 : ((fe : Int) == 0) = false := by simp; omega
    clear ht hb h1 hbd
    dsimp only [ftVal]
    go_wp2_with fail
    refine refTypeOf_any (Prt.Sat.pack (L := []) H1.out) s HM.out (fun ts v w2 hts h2 => ?_) (fun f w2 hts h2 => ?_)
    · exact absurd (HT.out.symm.trans (treeOf_of_ok hts)) (by simp)
    obtain rfl := Except.error.inj (HT.out.symm.trans (treeOf_of_err hts))
    have h3 := ((h2.unpack (i := 0) rfl)).allocAt (.cells #[.int .i64 fe, .int .i64 fp] 25) w2.heap.size
    have H3 := Lib.hid h3
    clear h2 h3 hts
    dsimp only [ftVal]
    go_wp2_with fail
    refine typesBegun_any _ (HW.out.below H3.out.isBelow) (fun w3 hb3 => ?_)
    have h4 := H3.out.below hb3
    have x0 := h4.cell 1 rfl 0 rfl
    have x1 := h4.cell 1 rfl 1 rfl
    have y0 := h4.cell 2 rfl 0 rfl
    have y1 := h4.cell 2 rfl 1 rfl
    have H4 := Lib.hid h4
    clear hb3 h4
    go_wp2_with fail
    exact HR.out _ H4.out.isBelow
end Go.Proofs.YtdlbhiaceheffaaDoor

namespace Go.Proofs.YtdlbhiaceheffaaDoor.typesTag
open Go.ChangeShapes Go.WideShapes Go.ChangeAt Go.RowKit Go.Lib
open Go.ChangeMaps (open_string shut_string)

theorem laid_met (os : Os) (args : Array Value) : laidMet Tryd.prog Rows.typesTagRow.laid ((laidWorld os).forCall (fun _ _ => 0) ⟨#[], args, []⟩).memory :=
  laidMet_of_run' 8 (by kernel_rfl) (by kernel_rfl)

theorem witness_row (os : Os) {H : Type} (enc : TypeId × Value → H) :
    (OpenSpec.ofChange Rows.typesTagSpec).preRow enc Tryd.prog Tryd.f5 Rows.typesTagRow.domain false Rows.typesTagRow.laid ((laidWorld os).forCall (fun _ _ => 0) ⟨#[], #[.string ⟨#[]⟩], []⟩).memory #[.string ⟨#[]⟩] := by
  have hw : (DataW.whole enc Tryd.prog ((laidWorld os).forCall (fun _ _ => 0) ⟨#[], #[.string ⟨#[]⟩], []⟩).memory Tryd.f5.params.toList Rows.typesTagSpec.vars false #[Value.string ⟨#[]⟩].toList 8).map (fun x => (x.1, x.2.1)) =
      some ([.lit (.string [])], []) := by kernel_rfl
  obtain ⟨⟨x1, x2, x3⟩, hx, hx1⟩ := Option.map_eq_some_iff.1 hw
  simp only [Prod.mk.injEq] at hx1
  obtain ⟨rfl, rfl⟩ := hx1
  exact OpenSpec.preRow_of_cond 8 hx (by kernel_rfl) (fun k hk => by cases hk) (by kernel_rfl) (laid_met os _)

set_option maxRecDepth 100000 in
set_option maxHeartbeats 2000000 in
theorem lifted (os : Os) (started : os.Started) (H : Type) (enc : TypeId × Value → H) (F : Stop.Interp) :
    ReturnsInHanded {} Tryd.checked os 5 .any ((OpenSpec.ofChange Rows.typesTagSpec).preRow enc Tryd.prog Tryd.f5 Rows.typesTagRow.domain false Rows.typesTagRow.laid) (((OpenSpec.ofChange Rows.typesTagSpec).at F).post enc Tryd.prog Tryd.f5 false true false false) := by
  refine returnsInHanded_of_row (C := Tryd.checked) (s := OpenSpec.ofChange Rows.typesTagSpec) ownKnob_none started (by kernel_rfl) Tryd.func5
    (witness_row_atRef (enc := enc) (C := Tryd.checked) false (laidWorld os) #[.string ⟨#[]⟩] rfl (by kernel_rfl) (by kernel_rfl) (by kernel_rfl) (witness_row os enc)) ?_
  intro W base args ds gs before hval0 hW _ _ _ hL _ _
  have hval : ∀ (j : Nat) t v, Tryd.f5.params[j]? = some t → args[j]? = some v → Value.okWide Tryd.prog W .any base t v := hval0
  have hW' := hW
  obtain ⟨p, q, hA0, hV0, rfl, _, _⟩ := hW
  have hA : DataW.TrodAll enc Tryd.prog W 0 (fun _ => true) true Tryd.f5.params.toList args.toList ds p := hA0
  rw [Tryd.params5] at hA hval
  obtain ⟨v0, d0, rfl, rfl, h0⟩ := trodAll_one hA
  obtain ⟨rfl, rfl⟩ := trodVars_none hV0
  obtain ⟨s, rfl, rfl, rfl, ws⟩ := open_string Tryd.underlying9 (hval 0 9 v0 rfl rfl) h0
  clear hA0 hV0 hval0
  have hwords : Words W := words_of_laid (Lib.laidMet.reads hL (.head _))
  refine TypesTag_walk s W hwords ws (fun W' bel => ?_)
  refine ⟨_, rfl, _, _, _, [], [], [], hW', ?_, ?_, ?_, bel.frame _, fun h => by cases h⟩
  · exact trodAll_mk1 (shut_bool Tryd.underlying4 _)
  · exact trodAll_mk1 (shut_string Tryd.underlying9 ws)
  · rfl

theorem said : Rows.TypesTagSaid :=
  OpenClaim.holds_of_cond 5 Tryd.f5 rfl rfl rfl rfl rfl rfl rfl ⟨rfl, rfl, rfl, rfl, rfl⟩ rfl rfl rfl rfl rfl (by kernel_rfl) Tryd.func5 (by kernel_rfl)
    (of_decide_eq_true (by kernel_rfl)) (by unfold Func.isWrapper; first | (rw [if_pos (by decide +kernel)]; kernel_rfl) | (rw [if_neg (by decide +kernel)]; exact ⟨rfl, rfl⟩))
    (fun os started H enc _ F => by rw [OpenClaim.pre_eq_preRow]; exact lifted os started H enc F)

/-- No parameter wants a stand-in; the program's own looks are off: what the card asks. -/
theorem plain (f : FuncId) (fn : Func) (hf : Tryd.pinned.checked.prog.funcNamed "guardrail/guardraillaw.TypesTag" = some f) (hfn : Tryd.pinned.checked.prog.funcs[f]? = some fn) :
    true = Tryd.pinned.checked.prog.looks [] ∧ ∀ (j : Nat) t, fn.params[j]? = some t → Tryd.pinned.checked.prog.wantsStandIn t = false := by
  obtain rfl : f = 5 := Option.some.inj ((show Tryd.prog.funcNamed "guardrail/guardraillaw.TypesTag" = some 5 by kernel_rfl).symm.trans hf) |>.symm
  obtain rfl : fn = Tryd.f5 := (Option.some.inj (Tryd.func5.symm.trans hfn)).symm
  refine ⟨by kernel_rfl, fun j t ht => ?_⟩
  rw [Tryd.params5] at ht
  obtain rfl : t = 9 := by simpa using Array.mem_of_getElem? ht
  exact (show Tryd.prog.wantsStandIn 9 = false by kernel_rfl)

/-- The card. -/
theorem card : Rows.TypesTagCardSaid :=
  Claim7.holds_tied_plain_at .later [] _ _ _ _ said (fun _ h => by cases h) (by kernel_rfl) (fun _ h => by cases h) typesTag_row_tie rfl ⟨rfl, rfl⟩ (by kernel_rfl) rfl plain (by kernel_rfl)
end Go.Proofs.YtdlbhiaceheffaaDoor.typesTag
