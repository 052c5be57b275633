/- Walks of token.number, text, sign. -/
import Derived.Test.YtdlbhiaceheffaaDoorTokWalk2
import Derived.BigRegion
namespace Go.Proofs.YtdlbhiaceheffaaDoor
open Go Go.RowKit

theorem number_any (s : ByteArray) (k : Nat) (w : World) (hs : s.size ≤ 4000) (hk : k < s.size) {R : Ending → World → Prop}
    (hR : ∀ w', Below w.heap.size w w' → R (.returned (.tuple #[tkVal ⟨3, s.extract k (Tok.stop Tok.isDigit s k), k⟩,
      .bool (decide (Tok.stop Tok.isDigit s k - k ≤ 9) && (decide (Tok.stop Tok.isDigit s k - k = 1) || !decide (Tok.byte s k = 48)))])) w')
    (hd : Tok.isDigit (Tok.byte s k) = true) :
    Calls Tryd.prog 45 #[.string s, .int .i64 k] w R := by
  have HRUN := Lib.hid (@run_any 44 Tok.isDigit Tryd.call44 isDigit_any s k hs (by omega))
  have HR := Lib.hid hR
  clear hR
  have hle := Tok.stop_le Tok.isDigit s k (by omega)
  have hgt : k < Tok.stop Tok.isDigit s k := by
    have := Tok.stop_ge Tok.isDigit s (k + 1)
    rw [Tok.stop_step hk (by rw [← Tok.byte_eq]; exact hd)] at this
    omega
  clear hd
  generalize Tok.stop Tok.isDigit s k = e at *
  have hx : e - k ≤ 9 ∧ e - k = 1 ∨ e - k ≤ 9 ∧ ¬ e - k = 1 ∨ ¬ e - k ≤ 9 := by omega
  rcases hx with ⟨h9, h1⟩ | ⟨h9, h1⟩ | h9
  · have hb : decide (((e - k : Nat) : Int) ≤ 9) = true := by simp; omega
    have hb1 : (((e - k : Nat) : Int) == 1) = true := by simp; omega
    go_enter Tryd.func45, Tryd.ntmps45
    go_wp2_with (go_at_call 69; refine HRUN.out _ _ rfl ?_)
    go_region
    go_wp2
    refine bodyPost_ret ?_ rfl (HR.out _ ?_)
    · simp [results, Tryd.results45, go_sem, tkVal, h1]
    · exact ((((Below.refl _ _).alloc (Nat.le_refl _) _).alloc (by simp) _).drew)
  · have hb : decide (((e - k : Nat) : Int) ≤ 9) = true := by simp; omega
    have hb1 : (((e - k : Nat) : Int) == 1) = false := by simp; omega
    have h0 : 0 < e - k := by omega
    go_enter Tryd.func45, Tryd.ntmps45
    go_wp2_with (go_at_call 69; refine HRUN.out _ _ rfl ?_)
    go_region
    go_wp2
    refine bodyPost_ret ?_ rfl (HR.out _ ?_)
    · simp [results, Tryd.results45, go_sem, tkVal, h9, h1]
      rw [Tok.byte_extract, Bool.eq_iff_iff]
      simp [Tok.is48]
    · exact ((((Below.refl _ _).alloc (Nat.le_refl _) _).alloc (by simp) _).drew)
  · have hb : decide (((e - k : Nat) : Int) ≤ 9) = false := by simp; omega
    go_enter Tryd.func45, Tryd.ntmps45
    go_wp2_with (go_at_call 69; refine HRUN.out _ _ rfl ?_)
    go_region
    go_wp2
    refine bodyPost_ret ?_ rfl (HR.out _ ?_)
    · simp [results, Tryd.results45, go_sem, tkVal, h9]
    · exact ((((Below.refl _ _).alloc (Nat.le_refl _) _).alloc (by simp) _).drew)

theorem text_any (s : ByteArray) (k : Nat) (w : World) (hs : s.size ≤ 4000) (hk : k < s.size) {R : Ending → World → Prop}
    (hR : ∀ w', Below w.heap.size w w' → R (.returned (.tuple #[tkVal ⟨4, s.extract (k + 1) (Tok.stop Tok.isPlain s (k + 1)), k⟩,
      .bool (decide (Tok.stop Tok.isPlain s (k + 1) - (k + 1) ≤ 30) && (decide (Tok.stop Tok.isPlain s (k + 1) < s.size) && decide (Tok.byte s (Tok.stop Tok.isPlain s (k + 1)) = 34)))])) w') :
    Calls Tryd.prog 46 #[.string s, .int .i64 k] w R := by
  have HRUN := Lib.hid (@run_any 72 Tok.isPlain Tryd.call72 text1_any s (k + 1) hs (by omega))
  have HR := Lib.hid hR
  clear hR
  have hle := Tok.stop_le Tok.isPlain s (k + 1) (by omega)
  have hge := Tok.stop_ge Tok.isPlain s (k + 1)
  generalize Tok.stop Tok.isPlain s (k + 1) = e at *
  have hx : e - (k + 1) ≤ 30 ∧ e < s.size ∨ e - (k + 1) ≤ 30 ∧ ¬ e < s.size ∨ ¬ e - (k + 1) ≤ 30 := by omega
  rcases hx with ⟨h9, h1⟩ | ⟨h9, h1⟩ | h9
  · have hb : decide (((e - (k + 1) : Nat) : Int) ≤ 30) = true := by simp; omega
    have hl : decide ((e : Int) < (s.size : Int)) = true := by simp; omega
    go_enter Tryd.func46, Tryd.ntmps46
    go_wp2_with (go_at_call 69; refine HRUN.out _ _ (by omega) ?_)
    rw [show (k : Int) + 1 + ((e - (k + 1) : Nat) : Int) = (e : Int) from by omega]
    go_region
    go_wp2
    refine bodyPost_ret ?_ rfl (HR.out _ ?_)
    · simp [results, Tryd.results46, go_sem, tkVal]
      rw [← Tok.byte_eq s e h1, Bool.eq_iff_iff]
      simp [Tok.is34, h1]; omega
    · exact ((((Below.refl _ _).alloc (Nat.le_refl _) _).alloc (by simp) _).drew)
  · have hb : decide (((e - (k + 1) : Nat) : Int) ≤ 30) = true := by simp; omega
    have hl : decide ((e : Int) < (s.size : Int)) = false := by simp; omega
    go_enter Tryd.func46, Tryd.ntmps46
    go_wp2_with (go_at_call 69; refine HRUN.out _ _ (by omega) ?_)
    rw [show (k : Int) + 1 + ((e - (k + 1) : Nat) : Int) = (e : Int) from by omega]
    go_region
    go_wp2
    refine bodyPost_ret ?_ rfl (HR.out _ ?_)
    · simp [results, Tryd.results46, go_sem, tkVal, h1]
    · exact ((((Below.refl _ _).alloc (Nat.le_refl _) _).alloc (by simp) _).drew)
  · have hb : decide (((e - (k + 1) : Nat) : Int) ≤ 30) = false := by simp; omega
    go_enter Tryd.func46, Tryd.ntmps46
    go_wp2_with (go_at_call 69; refine HRUN.out _ _ (by omega) ?_)
    rw [show (k : Int) + 1 + ((e - (k + 1) : Nat) : Int) = (e : Int) from by omega]
    go_region
    go_wp2
    refine bodyPost_ret ?_ rfl (HR.out _ ?_)
    · simp [results, Tryd.results46, go_sem, tkVal, h9]
    · exact ((((Below.refl _ _).alloc (Nat.le_refl _) _).alloc (by simp) _).drew)
end Go.Proofs.YtdlbhiaceheffaaDoor
