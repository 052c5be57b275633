/- More plain facts on scans. -/
import Derived.Test.YtdlbhiaceheffaaDoorTokPlain
namespace Go.Proofs.YtdlbhiaceheffaaDoor
namespace Tok
theorem scanFrom_ok (s : ByteArray) : ∀ (f k : Nat) (o l : List Tk), k ≤ s.size → s.size < k + f → o.length ≤ 1000 → scanFrom s f k o = .ok l → l ≠ [] ∧ l.length ≤ 1001 := by
  intro f
  induction f with
  | zero => intro k o l hk hf; omega
  | succ f ih =>
    intro k o l hk hf ho h
    rw [scanFrom] at h
    by_cases hlt : k < s.size
    · rw [if_pos hlt] at h
      by_cases hb : byte s k = 32 ∨ byte s k = 10
      · rw [if_pos hb] at h
        exact ih (k + 1) o l (by omega) (by omega) ho h
      · rw [if_neg hb] at h
        by_cases hok : (next s k).2.2 = false
        · rw [if_pos hok] at h; cases h
        · rw [if_neg hok] at h
          by_cases hl : o.length = 1000
          · rw [if_pos hl] at h; cases h
          · rw [if_neg hl] at h
            have hn := next_bound s k hlt (by simpa using hok)
            exact ih _ _ l (by omega) (by omega) (by simp; omega) h
    · rw [if_neg hlt] at h
      obtain rfl := Except.ok.inj h
      simp; omega
theorem scan_ok (s : ByteArray) (l : List Tk) (h : scan s = .ok l) : l ≠ [] ∧ l.length ≤ 1001 ∧ s.size ≤ 4000 := by
  unfold scan at h
  by_cases hs : 4000 < s.size
  · rw [if_pos hs] at h; cases h
  · rw [if_neg hs] at h
    have := scanFrom_ok s (s.size + 1) 0 [] l (by omega) (by omega) (by simp) h
    exact ⟨this.1, this.2, by omega⟩
end Tok
end Go.Proofs.YtdlbhiaceheffaaDoor
