/- token.one at whatever stands there. -/
import Derived.Test.YtdlbhiaceheffaaDoorTokWalk5
namespace Go.Proofs.YtdlbhiaceheffaaDoor
open Go Go.RowKit

theorem size_extract_le (s : ByteArray) (a b : Nat) : (s.extract a b).size ≤ s.size := by simp; omega

theorem one_any (s : ByteArray) (k : Nat) (w : World) (hw : Words w) (hs : s.size ≤ 4000) (hk : k < s.size) {R : Ending → World → Prop}
    (hR : ∀ w', Below w.heap.size w w' → R (.returned (.tuple #[tkVal (Tok.next s k).1, .int .i64 (Tok.next s k).2.1, .bool (Tok.next s k).2.2])) w') :
    Calls Tryd.prog 24 #[.string s, .int .i64 k] w R := by
  unfold Tok.next at hR
  cases hl : Tok.isLetter (Tok.byte s k)
  · cases hd : Tok.isDigit (Tok.byte s k)
    · cases hq : decide (Tok.byte s k = 34)
      · have h34 : ¬ Tok.byte s k = 34 := of_decide_eq_false hq
        cases ht : Tok.two s k
        · simp only [hl, hd, h34, ht, Bool.false_eq_true, if_false] at hR
          have e : ((s.extract k (k + 1)).size : Int) = ((1 : Nat) : Int) := by congr 1; simp; omega
          refine one_sign s k 5 (s.extract k (k + 1)) (Tok.isSign (Tok.byte s k)) w hs hk (Nat.le_trans (size_extract_le _ _ _) hs) (fun w1 R hb h => ?_) ⟨hl, hd, hq⟩ (fun w' hb => ?_)
          · exact sign_any s k w1 hs hk (by simpa [ht] using h)
          · rw [e]; exact hR w' hb
        · simp only [hl, hd, h34, ht, Bool.false_eq_true, if_false, if_true] at hR
          have e : ((s.extract k (k + 2)).size : Int) = ((2 : Nat) : Int) := by have := Tok.two_size s k ht; congr 1; simp; omega
          refine one_sign s k 5 (s.extract k (k + 2)) true w hs hk (Nat.le_trans (size_extract_le _ _ _) hs) (fun w1 R hb h => ?_) ⟨hl, hd, hq⟩ (fun w' hb => ?_)
          · exact sign_any s k w1 hs hk (by simpa [ht] using h)
          · rw [e]; exact hR w' hb
      · have h34 : Tok.byte s k = 34 := of_decide_eq_true hq
        simp only [h34, if_true] at hR
        have hle := Tok.stop_le Tok.isPlain s (k + 1) (by omega)
        have hge := Tok.stop_ge Tok.isPlain s (k + 1)
        have e : (((s.extract (k + 1) (Tok.stop Tok.isPlain s (k + 1))).size + 2 : Nat) : Int) = ((Tok.stop Tok.isPlain s (k + 1) - k + 1 : Nat) : Int) := by congr 1; simp; omega
        refine one_text s k 4 (s.extract (k + 1) (Tok.stop Tok.isPlain s (k + 1))) (decide (Tok.stop Tok.isPlain s (k + 1) - (k + 1) ≤ 30) && (decide (Tok.stop Tok.isPlain s (k + 1) < s.size) && decide (Tok.byte s (Tok.stop Tok.isPlain s (k + 1)) = 34))) w hs hk (Nat.le_trans (size_extract_le _ _ _) hs) (fun w1 R hb h => ?_) ⟨hl, hd, hq⟩ (fun w' hb => ?_)
        · exact text_any s k w1 hs hk h
        · rw [e]; exact hR w' hb
    · simp only [hl, hd, Bool.false_eq_true, if_false, if_true] at hR
      have hle := Tok.stop_le Tok.isDigit s k (by omega)
      have hge := Tok.stop_ge Tok.isDigit s k
      have e : ((s.extract k (Tok.stop Tok.isDigit s k)).size : Int) = ((Tok.stop Tok.isDigit s k - k : Nat) : Int) := by congr 1; simp; omega
      refine one_number s k 3 (s.extract k (Tok.stop Tok.isDigit s k)) (decide (Tok.stop Tok.isDigit s k - k ≤ 9) && (decide (Tok.stop Tok.isDigit s k - k = 1) || !decide (Tok.byte s k = 48))) w hs hk (Nat.le_trans (size_extract_le _ _ _) hs) (fun w1 R hb h => ?_) ⟨hl, hd⟩ (fun w' hb => ?_)
      · exact number_any s k w1 hs hk h hd
      · rw [e]; exact hR w' hb
  · simp only [hl, if_true] at hR
    have hle := Tok.stop_le Tok.isPart s k (by omega)
    have hge := Tok.stop_ge Tok.isPart s k
    have e : ((s.extract k (Tok.stop Tok.isPart s k)).size : Int) = ((Tok.stop Tok.isPart s k - k : Nat) : Int) := by congr 1; simp; omega
    refine one_name s k (if Tok.isWord (s.extract k (Tok.stop Tok.isPart s k)) then 2 else 1) (s.extract k (Tok.stop Tok.isPart s k)) (decide (Tok.stop Tok.isPart s k - k ≤ 20)) w hs hk (Nat.le_trans (size_extract_le _ _ _) hs) (fun w1 R hb h => ?_) hl (fun w' hb => ?_)
    · exact name_any s k w1 (hw.below hb) hs hk h
    · rw [e]; exact hR w' hb
end Go.Proofs.YtdlbhiaceheffaaDoor
