/- Walks of the small functions of package token, and of token.run. -/
import Derived.Test.YtdlbhiaceheffaaDoorProg
import Derived.WalkKit
import Derived.Lib.Hide
import Derived.Test.YtdlbhiaceheffaaDoorTokPlain
namespace Go.Proofs.YtdlbhiaceheffaaDoor
open Go Go.RowKit

theorem ret_eq {R : Ending → World → Prop} {v v' : Value} {w : World} (h : R (.returned v') w) (e : v = v') : R (.returned v) w := e ▸ h

theorem isDigit_any (c : UInt8) (w : World) {R : Ending → World → Prop} (hR : R (.returned (.bool (Tok.isDigit c))) w) :
    Calls Tryd.prog 44 #[.int .u8 (c.toNat : Int)] w R := by
  have HR := Lib.hid hR
  clear hR
  go_enter Tryd.func44, Tryd.ntmps44
  go_wp2
  all_goals
    refine ret_eq HR.out (congrArg Value.bool ?_)
    rw [Bool.eq_iff_iff]; simp [Tok.isDigit]; try omega
theorem isLetter_any (c : UInt8) (w : World) {R : Ending → World → Prop} (hR : R (.returned (.bool (Tok.isLetter c))) w) :
    Calls Tryd.prog 42 #[.int .u8 (c.toNat : Int)] w R := by
  have HR := Lib.hid hR
  clear hR
  go_enter Tryd.func42, Tryd.ntmps42
  go_wp2
  all_goals
    refine ret_eq HR.out (congrArg Value.bool ?_)
    rw [Bool.eq_iff_iff]; simp [Tok.isLetter]; try omega
theorem name1_any (c : UInt8) (w : World) {R : Ending → World → Prop} (hR : R (.returned (.bool (Tok.isPart c))) w) :
    Calls Tryd.prog 70 #[.int .u8 (c.toNat : Int)] w R := by
  have HR := Lib.hid hR
  clear hR
  by_cases h : Tok.isLetter c = true
  all_goals
    try rw [Bool.not_eq_true] at h
    go_enter Tryd.func70, Tryd.ntmps70
    go_wp2_with (first | (go_at_call 42; refine isLetter_any _ _ ?_) | (go_at_call 44; refine isDigit_any _ _ ?_))
    refine ret_eq HR.out (congrArg Value.bool ?_)
    simp [Tok.isPart, h]
theorem text1_any (c : UInt8) (w : World) {R : Ending → World → Prop} (hR : R (.returned (.bool (Tok.isPlain c))) w) :
    Calls Tryd.prog 72 #[.int .u8 (c.toNat : Int)] w R := by
  have HR := Lib.hid hR
  clear hR
  go_enter Tryd.func72, Tryd.ntmps72
  go_wp2
  all_goals
    refine ret_eq HR.out (congrArg Value.bool ?_)
    rw [Bool.eq_iff_iff]; simp [Tok.isPlain]; try omega

theorem run_any (F : FuncId) (p : UInt8 → Bool) (hc : ∀ (args : Array Value) (w : World), (callFunc F args).run Tryd.prog w = .ok (.enter F args) w)
    (hf : ∀ (c : UInt8) (w : World) {R : Ending → World → Prop}, R (.returned (.bool (p c))) w → Calls Tryd.prog F #[.int .u8 (c.toNat : Int)] w R)
    (s : ByteArray) (at' : Nat) (hs : s.size ≤ 4000) (ha : at' ≤ s.size) (w : World) (a : Int) (hae : a = (at' : Int)) {R : Ending → World → Prop} (hR : R (.returned (.string (s.extract at' (Tok.stop p s at')))) w) :
    Calls Tryd.prog 69 #[.string s, .int .i64 a, .func (.func F) #[] #[]] w R := by
  subst hae
  have HF := Lib.hid @hf
  have HR := Lib.hid hR
  clear hf hR
  go_enter Tryd.func69, Tryd.ntmps69
  go_wp2_with fail
  go_loop [7] (fun i => ∃ k : Nat, at' ≤ k ∧ k ≤ s.size ∧ i = .int .i64 k ∧ Tok.stop p s k = Tok.stop p s at') (fun i => s.size - (intOf i).toNat)
  case atStart => exact ⟨at', Nat.le_refl _, ha, rfl, rfl⟩
  case round =>
    obtain ⟨k, hk1, hk2, rfl, he⟩ := hrel
    have HE := Lib.hid he
    clear he
    by_cases hlt : k < s.size
    · go_wp2_with (with_reducible refine HF.out _ _ ?_)
      · have hp : p s[k] = true := by assumption
        go_round
        case rel => exact ⟨k + 1, by omega, by omega, by go_num, by rw [Tok.stop_step hlt hp, HE.out]⟩
        case measure => simp [intOf]; omega
      · have hp : p s[k] = false := by assumption
        refine ret_eq HR.out ?_
        rw [← HE.out, Tok.stop_here hlt hp] <;> rfl
    · go_wp2_with fail
      refine ret_eq HR.out ?_
      rw [← HE.out, Tok.stop_end (by omega)] <;> rfl
end Go.Proofs.YtdlbhiaceheffaaDoor
