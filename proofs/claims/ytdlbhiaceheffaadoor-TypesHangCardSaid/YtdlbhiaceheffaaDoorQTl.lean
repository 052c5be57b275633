/- Walk of the law TypesTag. -/
import Derived.Test.YtdlbhiaceheffaaDoorQTt
import Derived.Test.YtdlbhiaceheffaaDoorQRrB
namespace Go.Proofs.YtdlbhiaceheffaaDoor
open Go Go.RowKit
open Prt (Sat As blk pur exs star stars)
open Ty (Tr anyTo anyTo_iff anyTo_false)

set_option maxRecDepth 100000 in
set_option maxHeartbeats 1000000 in
theorem TypesTag_walk (s : ByteArray) (w : World) (hw : Words w) (hm : s.size ≤ maxLen) {R : Ending → World → Prop} (hR : ∀ w', Below w.heap.size w w' → R (.returned (.bool true)) w') :
    Calls Tryd.prog 5 #[.string s] w R := by
  have HR := Lib.hid hR
  have HW := Lib.hid hw
  have HM := Lib.hid hm
  clear hR hw hm
  go_enter Tryd.func5, Tryd.ntmps5
  go_wp2_with fail
  refine Tags_any w s HW.out HM.out (fun t w1 ht hb => ?_) (fun f w1 ht hb => ?_)
  · have h1 := ((Prt.Sat.old w).below hb).allocAt (.cells #[.int .i64 0, .int .i64 0] 25) w1.heap.size
    have H1 := Lib.hid h1
    have HT := Lib.hid ht
    clear ht hb h1
    dsimp only [ftVal]
    go_wp2_with fail
    refine refTypeOf_any (Prt.Sat.pack (L := []) H1.out) s HM.out (fun ts v w2 hts h2 => ?_) (fun f w2 hts h2 => ?_)
    rotate_left
    · exact absurd (HT.out.symm.trans (treeOf_of_err hts)) (by simp)
    obtain rfl := Except.ok.inj (HT.out.symm.trans (treeOf_of_ok hts))
    obtain ⟨rows, hrt, hrd⟩ := h2.tyRd 1 rfl
    obtain ⟨hwf, hpos, hl300⟩ := Ty.typeOf_wf hts
    have hrl : rows.length = ts.length := by rw [← hrt]; simp
    have hr0 : 0 < rows.length := by omega
    obtain ⟨gt, capt, rfl, hgt, hrc, hcm, _⟩ := hrd.at hr0
    have hrd2 := hrd.below ((Below.refl w2.heap.size w2).alloc (Nat.le_refl _) (.cells #[.int .i64 0, .int .i64 0] 25))
    have HTG : Hid (∀ R : Ending → World → Prop, R (.returned (.int .i64 (Ty.tags (Ty.den ts (ts.length - 1)) : Nat))) (w2.alloc (.cells #[.int .i64 0, .int .i64 0] 25)) → Calls Tryd.prog 14 #[.slice (some ⟨gt, 0, none⟩) rows.length capt, .int .i64 ((rows.length - 1 : Nat) : Int)] (w2.alloc (.cells #[.int .i64 0, .int .i64 0] 25)) R) := fun R hR =>
      refTagsOf_any _ _ rows ts hrt hwf (by omega) hrd2 _ (rows.length - 1) (Nat.lt_succ_self _) (by omega) R (by rw [hrl]; exact hR)
    have h3 := (((h2.unpack (i := 0) rfl).pick [1, 2])).allocAt (.cells #[.int .i64 0, .int .i64 0] 25) w2.heap.size
    have H3 := Lib.hid h3
    have hr3 : rows.length ≤ 300 := by omega
    generalize Ty.tags (Ty.den ts (ts.length - 1)) = n at *
    clear h2 h3 hts hrt hrd hwf hpos hl300 hrl hrd2
    dsimp only [ftVal]
    go_wp2_with fail
    have e : ((rows.length : Int) - 1) = ((rows.length - 1 : Nat) : Int) := by omega
    rw [e]
    clear e
    refine HTG.out _ ?_
    go_wp2_with fail
    refine typesBegun_any _ (HW.out.below H3.out.isBelow) (fun w3 hb3 => ?_)
    have h4 := H3.out.below hb3
    have x0 := h4.cell 1 rfl 0 rfl
    have x1 := h4.cell 1 rfl 1 rfl
    have y0 := h4.cell 2 rfl 0 rfl
    have y1 := h4.cell 2 rfl 1 rfl
    have H4 := Lib.hid h4
    clear hb3 h4
    go_wp2_with fail
    exact HR.out _ H4.out.isBelow
  · have hbd := treeOf_bad ht
    obtain ⟨fe, fp⟩ := f
    dsimp only at hbd
    have h1 := ((Prt.Sat.old w).below hb).allocAt (.cells #[.int .i64 fe, .int .i64 fp] 25) w1.heap.size
    have H1 := Lib.hid h1
    have HT := Lib.hid ht
    have e2 : ((fe : Int) == 0) = false := by simp; omega
    clear ht hb h1 hbd
    dsimp only [ftVal]
    go_wp2_with fail
    refine refTypeOf_any (Prt.Sat.pack (L := []) H1.out) s HM.out (fun ts v w2 hts h2 => ?_) (fun f w2 hts h2 => ?_)
    · exact absurd (HT.out.symm.trans (treeOf_of_ok hts)) (by simp)
    obtain rfl := Except.error.inj (HT.out.symm.trans (treeOf_of_err hts))
    have h3 := ((h2.unpack (i := 0) rfl)).allocAt (.cells #[.int .i64 fe, .int .i64 fp] 25) w2.heap.size
    have H3 := Lib.hid h3
    clear h2 h3 hts
    dsimp only [ftVal]
    go_wp2_with fail
    refine typesBegun_any _ (HW.out.below H3.out.isBelow) (fun w3 hb3 => ?_)
    have h4 := H3.out.below hb3
    have x0 := h4.cell 1 rfl 0 rfl
    have x1 := h4.cell 1 rfl 1 rfl
    have y0 := h4.cell 2 rfl 0 rfl
    have y1 := h4.cell 2 rfl 1 rfl
    have H4 := Lib.hid h4
    clear hb3 h4
    go_wp2_with fail
    exact HR.out _ H4.out.isBelow
end Go.Proofs.YtdlbhiaceheffaaDoor
