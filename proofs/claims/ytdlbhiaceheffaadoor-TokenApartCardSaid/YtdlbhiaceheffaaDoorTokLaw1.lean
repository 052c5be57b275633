/- Walk of tokenBegun. -/
import Derived.Test.YtdlbhiaceheffaaDoorRefTok3
namespace Go.Proofs.YtdlbhiaceheffaaDoor
open Go Go.RowKit

def begunToks : List Tok.Tk := [⟨1, ⟨#[120]⟩, 0⟩, ⟨5, ⟨#[61]⟩, 2⟩, ⟨3, ⟨#[49, 50]⟩, 4⟩, ⟨5, ⟨#[59]⟩, 6⟩, ⟨6, ⟨#[]⟩, 7⟩]
theorem scan_begun : Tok.scan ⟨#[120, 32, 61, 32, 49, 50, 59]⟩ = .ok begunToks := by kernel_rfl

set_option maxRecDepth 100000 in
theorem tokenBegun_any (w : World) (hw : Words w) {R : Ending → World → Prop} (hR : ∀ w', Below w.heap.size w w' → R (.returned (.bool true)) w') :
    Calls Tryd.prog 10 #[] w R := by
  have HR := Lib.hid hR
  have HW := Lib.hid hw
  clear hR hw
  go_enter Tryd.func10, Tryd.ntmps10
  go_wp2_with fail
  refine Scan_short _ w HW.out (by decide) (fun l v w1 he hb hown => ?_) (fun e p w1 he hb => ?_)
  · obtain rfl : l = begunToks := (Except.ok.inj (scan_begun.symm.trans he)).symm
    obtain ⟨g, cap, rfl, _, hg, _, _, hc⟩ := hown.at (by simp [begunToks])
    have a0 := (hc 0 (by decide)).1
    have a1 := (hc 2 (by decide)).2.1
    have a2 := (hc 4 (by decide)).2.2
    have HB := Lib.hid hb
    have hz := hb.size
    clear hc hown he hb
    simp only [begunToks, List.getElem_cons_zero, List.getElem_cons_succ] at a0 a1 a2
    rw [show begunToks.length = 5 from rfl]
    go_wp2_with fail
    refine HR.out _ ?_
    repeat' (first | exact HB.out | apply Below.drew | apply Below.setCell | apply Below.alloc | (simp; done) | (simp; omega) | omega)
  · rw [scan_begun] at he; cases he
end Go.Proofs.YtdlbhiaceheffaaDoor
