/- Walk of the reference's SameTokens, at lists that are the same. -/
import Derived.Test.YtdlbhiaceheffaaDoorRefTok1
import Derived.Deep.LoopGhost
import Derived.WalkSmall
namespace Go.Proofs.YtdlbhiaceheffaaDoor
open Go Go.RowKit

theorem flat_at (l : List Tok.Tk) (k : Nat) (h : k < l.length) : (l.flatMap tkCells)[k * 3]? = some (.int .i64 l[k].kind) ∧ (l.flatMap tkCells)[k * 3 + 1]? = some (.string l[k].text) ∧ (l.flatMap tkCells)[k * 3 + 2]? = some (.int .i64 l[k].pos) := by
  induction l generalizing k with
  | nil => simp at h
  | cons a l ih =>
    cases k with
    | zero => simp [tkCells]
    | succ k =>
      have := ih k (by simpa using h)
      simp only [List.flatMap_cons, List.getElem_cons_succ]
      refine ⟨?_, ?_, ?_⟩
      · rw [List.getElem?_append_right (by simp [tkCells]; omega)]; rw [show (k + 1) * 3 - (tkCells a).length = k * 3 by simp [tkCells]; omega]; exact this.1
      · rw [List.getElem?_append_right (by simp [tkCells]; omega)]; rw [show (k + 1) * 3 + 1 - (tkCells a).length = k * 3 + 1 by simp [tkCells]; omega]; exact this.2.1
      · rw [List.getElem?_append_right (by simp [tkCells]; omega)]; rw [show (k + 1) * 3 + 2 - (tkCells a).length = k * 3 + 2 by simp [tkCells]; omega]; exact this.2.2
/-- The cells of an owned list of tokens. -/
theorem OwnsTk.at {w : World} {B : Nat} {v : Value} {l : List Tok.Tk} (h : OwnsTk w B v l) (hne : l ≠ []) :
    ∃ g cap : Nat, v = .slice (some ⟨g, 0, none⟩) l.length cap ∧ B ≤ g ∧ g < w.heap.size ∧ l.length ≤ cap ∧ cap ≤ maxLen ∧ ∀ k (hk : k < l.length), w.cell? ⟨g, k * 3, none⟩ = some (.int .i64 l[k].kind) ∧ w.cell? ⟨g, k * 3 + 1, none⟩ = some (.string l[k].text) ∧ w.cell? ⟨g, k * 3 + 2, none⟩ = some (.int .i64 l[k].pos) := by
  have hc := fun g => World.ownsRow.cells (g := g) h
  have hlt := World.ownsRow.lt h
  rcases h.2 with ⟨_, h0⟩ | ⟨g, cap, cur, rfl, hg, hh, hn, hm, _⟩
  · exact absurd (List.eq_nil_of_length_eq_zero h0) hne
  · refine ⟨g, cap, rfl, hg, (hlt g rfl).2, hn, hm, fun k hk => ?_⟩
    obtain ⟨a1, a2, a3⟩ := flat_at l k hk
    have e : ∀ j, (⟨g, 0, none⟩ : Addr).add j = ⟨g, j, none⟩ := fun j => by unfold Addr.add; split <;> simp_all
    refine ⟨?_, ?_, ?_⟩
    · rw [← e]; exact hc g rfl _ _ a1
    · rw [← e]; exact hc g rfl _ _ a2
    · rw [← e]; exact hc g rfl _ _ a3

theorem SameTokens_any (v1 v2 : Value) (l : List Tok.Tk) (B1 B2 : Nat) (w : World) (h1 : OwnsTk w B1 v1 l) (h2 : OwnsTk w B2 v2 l) (hne : l ≠ []) (hl : l.length ≤ 4001) {R : Ending → World → Prop}
    (hR : ∀ w', Below w.heap.size w w' → R (.returned (.bool true)) w') :
    Calls Tryd.prog 11 #[v1, v2] w R := by
  have HR := Lib.hid hR
  clear hR
  obtain ⟨g1, c1, rfl, _, hg1, _, _, hc1⟩ := h1.at hne
  obtain ⟨g2, c2, rfl, _, hg2, _, _, hc2⟩ := h2.at hne
  have HC1 := Lib.hid hc1
  have HC2 := Lib.hid hc2
  clear hc1 hc2 h1 h2
  go_enter Tryd.func11, Tryd.ntmps11
  go_wp2_with fail
  go_loopw [5] (fun i wr => ∃ k : Nat, i = .int .i64 k ∧ k ≤ l.length ∧ Hid (Below w.heap.size w wr)) (fun i _ => l.length - (intOf i).toNat)
  case atStart => exact ⟨0, rfl, by omega, Below.refl _ _⟩
  case round =>
    obtain ⟨k, rfl, hk, hb⟩ := hrel
    by_cases hlt : k < l.length
    · obtain ⟨a1, a2, a3⟩ := HC1.out k hlt
      obtain ⟨b1, b2, b3⟩ := HC2.out k hlt
      have e1 : ∀ o, wr.cell? ⟨g1, o, none⟩ = w.cell? ⟨g1, o, none⟩ := fun o => hb.out.cell (p := ⟨g1, o, none⟩) hg1
      have e2 : ∀ o, wr.cell? ⟨g2, o, none⟩ = w.cell? ⟨g2, o, none⟩ := fun o => hb.out.cell (p := ⟨g2, o, none⟩) hg2
      rw [← e1] at a1 a2 a3
      rw [← e2] at b1 b2 b3
      clear e1 e2
      generalize l[k].kind = kd at a1 b1
      generalize l[k].text = tx at a2 b2
      generalize l[k].pos = ps at a3 b3
      go_wp2_with fail
      go_quiet (fail)
      go_wp2_with fail
      go_roundw
      case rel => exact ⟨k + 1, by go_num, by omega, below_drewN hb.out _⟩
      case measure => simp [intOf]; omega
    · go_wp2_with fail
      exact HR.out _ hb.out
end Go.Proofs.YtdlbhiaceheffaaDoor
