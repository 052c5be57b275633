/- Walks of token.IsWord, name, number, text, sign. -/
import Derived.Test.YtdlbhiaceheffaaDoorTokWalk1
import Derived.Test.YtdlbhiaceheffaaDoorShelf
import Derived.BigQuiet
import Derived.Deep.QuietTactic
namespace Go.Proofs.YtdlbhiaceheffaaDoor
open Go Go.RowKit

/-- The package's table of words reads as it was laid. -/
def Words (w : World) : Prop := ∃ b off cap : Nat, w.cell? ⟨0, 0, none⟩ = some (.slice (some ⟨b, off, none⟩) 17 cap) ∧ ∀ j, j < 17 → w.cell? ⟨b, off + j, none⟩ = some (.string (Tok.words.getD j ByteArray.empty))
theorem Words.below {w w' : World} (h : Words w) (hb : Below w.heap.size w w') : Words w' := by
  obtain ⟨b, off, cap, h1, h2⟩ := h
  exact ⟨b, off, cap, by rw [hb.cell (World.block_lt_of_cell? w _ h1)]; exact h1, fun j hj => by rw [hb.cell (World.block_lt_of_cell? w _ (h2 j hj))]; exact h2 j hj⟩

theorem isWord_any (s : ByteArray) (w : World) (hw : Words w) {R : Ending → World → Prop} (hR : R (.returned (.bool (Tok.isWord s))) w) :
    Calls Tryd.prog 71 #[.string s] w R := by
  have HR := Lib.hid hR
  clear hR
  obtain ⟨b, off, cap, h1, h2⟩ := hw
  have hc := Tryd.slices_Contains_string b off 17 cap Tok.words s w (by decide) (by decide) (fun j hj => h2 j hj)
  have HC := Lib.hid hc
  clear hc h2
  go_enter Tryd.func71, Tryd.ntmps71
  go_wp2_with (go_at_call 84; refine HC.out.mono ?_; rintro e w' ⟨rfl, rfl⟩)
  have e1 : Lib.containsS (Tok.words.take 17) s = Tok.isWord s := by rw [Bool.eq_iff_iff, Tok.isWord_iff, Lib.containsS_iff]; rfl
  exact ret_eq HR.out (congrArg Value.bool e1)

def tkVal (t : Tok.Tk) : Value := .agg #[.int .i64 t.kind, .string t.text, .int .i64 t.pos]

theorem name_any (s : ByteArray) (k : Nat) (w : World) (hw : Words w) (hs : s.size ≤ 4000) (hk : k < s.size) {R : Ending → World → Prop}
    (hR : ∀ w', Below w.heap.size w w' → R (.returned (.tuple #[tkVal ⟨if Tok.isWord (s.extract k (Tok.stop Tok.isPart s k)) then 2 else 1, s.extract k (Tok.stop Tok.isPart s k), k⟩, .bool (decide (Tok.stop Tok.isPart s k - k ≤ 20))])) w') :
    Calls Tryd.prog 43 #[.string s, .int .i64 k] w R := by
  have HRUN := Lib.hid (@run_any 70 Tok.isPart Tryd.call70 name1_any s k hs (by omega))
  have HR := Lib.hid hR
  have HW := Lib.hid hw
  clear hR hw
  have hle := Tok.stop_le Tok.isPart s k (by omega)
  have hge := Tok.stop_ge Tok.isPart s k
  generalize Tok.stop Tok.isPart s k = e at *
  cases hi : Tok.isWord (s.extract k e)
  all_goals
    have HI := Lib.hid hi
    clear hi
    go_enter Tryd.func43, Tryd.ntmps43
    go_wp2_with (go_at_call 69; refine HRUN.out _ _ rfl ?_)
    refine isWord_any _ _ ?_ ?_
    · exact HW.out.below (((Below.refl _ _).alloc (Nat.le_refl _) _).alloc (by simp) _)
    rw [HI.out]
    go_wp2
    go_region
    go_wp2
    refine bodyPost_ret ?_ rfl (HR.out _ ?_)
    · simp [results, Tryd.results43, go_sem, tkVal, HI.out]; omega
    · exact ((((Below.refl _ _).alloc (Nat.le_refl _) _).alloc (by simp) _).drew)
end Go.Proofs.YtdlbhiaceheffaaDoor
