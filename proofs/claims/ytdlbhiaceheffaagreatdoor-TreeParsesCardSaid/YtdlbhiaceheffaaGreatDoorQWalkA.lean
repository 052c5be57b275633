/- Walks of the small functions of package token, and of token.run. Walks of token.IsWord, name, number, text, sign. Walks of token.number, text, sign. Walk of token.sign. -/
import Derived.Test.YtdlbhiaceheffaaGreatDoorProg
import Derived.WalkKit
import Derived.Lib.Hide
import Derived.Test.YtdlbhiaceheffaaGreatDoorQPlainA
import Derived.Test.YtdlbhiaceheffaaGreatDoorShelf
import Derived.BigQuiet
import Derived.Deep.QuietTactic
import Derived.BigRegion
import Derived.Deep.RegionWith
namespace Go.Proofs.YtdlbhiaceheffaaGreatDoor
open Go Go.RowKit

theorem ret_eq {R : Ending → World → Prop} {v v' : Value} {w : World} (h : R (.returned v') w) (e : v = v') : R (.returned v) w := e ▸ h

theorem isDigit_any (c : UInt8) (w : World) {R : Ending → World → Prop} (hR : R (.returned (.bool (Tok.isDigit c))) w) :
    Calls Tryz.prog 126 #[.int .u8 (c.toNat : Int)] w R := by
  have HR := Lib.hid hR
  clear hR
  go_enter Tryz.func126, Tryz.ntmps126
  go_wp2
  all_goals
    refine ret_eq HR.out (congrArg Value.bool ?_)
    rw [Bool.eq_iff_iff]; simp [Tok.isDigit]; try omega
theorem isLetter_any (c : UInt8) (w : World) {R : Ending → World → Prop} (hR : R (.returned (.bool (Tok.isLetter c))) w) :
    Calls Tryz.prog 124 #[.int .u8 (c.toNat : Int)] w R := by
  have HR := Lib.hid hR
  clear hR
  go_enter Tryz.func124, Tryz.ntmps124
  go_wp2
  all_goals
    refine ret_eq HR.out (congrArg Value.bool ?_)
    rw [Bool.eq_iff_iff]; simp [Tok.isLetter]; try omega
theorem name1_any (c : UInt8) (w : World) {R : Ending → World → Prop} (hR : R (.returned (.bool (Tok.isPart c))) w) :
    Calls Tryz.prog 157 #[.int .u8 (c.toNat : Int)] w R := by
  have HR := Lib.hid hR
  clear hR
  by_cases h : Tok.isLetter c = true
  all_goals
    try rw [Bool.not_eq_true] at h
    go_enter Tryz.func157, Tryz.ntmps157
    go_wp2_with (first | (go_at_call 124; refine isLetter_any _ _ ?_) | (go_at_call 126; refine isDigit_any _ _ ?_))
    refine ret_eq HR.out (congrArg Value.bool ?_)
    simp [Tok.isPart, h]
theorem text1_any (c : UInt8) (w : World) {R : Ending → World → Prop} (hR : R (.returned (.bool (Tok.isPlain c))) w) :
    Calls Tryz.prog 159 #[.int .u8 (c.toNat : Int)] w R := by
  have HR := Lib.hid hR
  clear hR
  go_enter Tryz.func159, Tryz.ntmps159
  go_wp2
  all_goals
    refine ret_eq HR.out (congrArg Value.bool ?_)
    rw [Bool.eq_iff_iff]; simp [Tok.isPlain]; try omega

theorem run_any (F : FuncId) (p : UInt8 → Bool) (hc : ∀ (args : Array Value) (w : World), (callFunc F args).run Tryz.prog w = .ok (.enter F args) w)
    (hf : ∀ (c : UInt8) (w : World) {R : Ending → World → Prop}, R (.returned (.bool (p c))) w → Calls Tryz.prog F #[.int .u8 (c.toNat : Int)] w R)
    (s : ByteArray) (at' : Nat) (hs : s.size ≤ 4000) (ha : at' ≤ s.size) (w : World) (a : Int) (hae : a = (at' : Int)) {R : Ending → World → Prop} (hR : R (.returned (.string (s.extract at' (Tok.stop p s at')))) w) :
    Calls Tryz.prog 156 #[.string s, .int .i64 a, .func (.func F) #[] #[]] w R := by
  subst hae
  have HF := Lib.hid @hf
  have HR := Lib.hid hR
  clear hf hR
  go_enter Tryz.func156, Tryz.ntmps156
  go_wp2_with fail
  go_loop [7] (fun i => ∃ k : Nat, at' ≤ k ∧ k ≤ s.size ∧ i = .int .i64 k ∧ Tok.stop p s k = Tok.stop p s at') (fun i => s.size - (intOf i).toNat)
  case atStart => exact ⟨at', Nat.le_refl _, ha, rfl, rfl⟩
  case round =>
    obtain ⟨k, hk1, hk2, rfl, he⟩ := hrel
    have HE := Lib.hid he
    clear he
    by_cases hlt : k < s.size
    · go_wp2_with (with_reducible refine HF.out _ _ ?_)
      · have hp : p s[k] = true := by assumption
        go_round
        case rel => exact ⟨k + 1, by omega, by omega, by go_num, by rw [Tok.stop_step hlt hp, HE.out]⟩
        case measure => simp [intOf]; omega
      · have hp : p s[k] = false := by assumption
        refine ret_eq HR.out ?_
        rw [← HE.out, Tok.stop_here hlt hp] <;> rfl
    · go_wp2_with fail
      refine ret_eq HR.out ?_
      rw [← HE.out, Tok.stop_end (by omega)] <;> rfl
end Go.Proofs.YtdlbhiaceheffaaGreatDoor

namespace Go.Proofs.YtdlbhiaceheffaaGreatDoor
open Go Go.RowKit

/-- The package's table of words reads as it was laid. -/
def Words (w : World) : Prop := ∃ b off cap : Nat, w.cell? ⟨0, 0, none⟩ = some (.slice (some ⟨b, off, none⟩) 17 cap) ∧ ∀ j, j < 17 → w.cell? ⟨b, off + j, none⟩ = some (.string (Tok.words.getD j ByteArray.empty))
theorem Words.below {w w' : World} (h : Words w) (hb : Below w.heap.size w w') : Words w' := by
  obtain ⟨b, off, cap, h1, h2⟩ := h
  exact ⟨b, off, cap, by rw [hb.cell (World.block_lt_of_cell? w _ h1)]; exact h1, fun j hj => by rw [hb.cell (World.block_lt_of_cell? w _ (h2 j hj))]; exact h2 j hj⟩

theorem isWord_any (s : ByteArray) (w : World) (hw : Words w) {R : Ending → World → Prop} (hR : R (.returned (.bool (Tok.isWord s))) w) :
    Calls Tryz.prog 158 #[.string s] w R := by
  have HR := Lib.hid hR
  clear hR
  obtain ⟨b, off, cap, h1, h2⟩ := hw
  have hc := Tryz.slices_Contains_string b off 17 cap Tok.words s w (by decide) (by decide) (fun j hj => h2 j hj)
  have HC := Lib.hid hc
  clear hc h2
  go_enter Tryz.func158, Tryz.ntmps158
  go_wp2_with (go_at_call 161; refine HC.out.mono ?_; rintro e w' ⟨rfl, rfl⟩)
  have e1 : Lib.containsS (Tok.words.take 17) s = Tok.isWord s := by rw [Bool.eq_iff_iff, Tok.isWord_iff, Lib.containsS_iff]; rfl
  exact ret_eq HR.out (congrArg Value.bool e1)

def tkVal (t : Tok.Tk) : Value := .agg #[.int .i64 t.kind, .string t.text, .int .i64 t.pos]

theorem name_any (s : ByteArray) (k : Nat) (w : World) (hw : Words w) (hs : s.size ≤ 4000) (hk : k < s.size) {R : Ending → World → Prop}
    (hR : ∀ w', Below w.heap.size w w' → R (.returned (.tuple #[tkVal ⟨if Tok.isWord (s.extract k (Tok.stop Tok.isPart s k)) then 2 else 1, s.extract k (Tok.stop Tok.isPart s k), k⟩, .bool (decide (Tok.stop Tok.isPart s k - k ≤ 20))])) w') :
    Calls Tryz.prog 125 #[.string s, .int .i64 k] w R := by
  have HRUN := Lib.hid (@run_any 157 Tok.isPart Tryz.call157 name1_any s k hs (by omega))
  have HR := Lib.hid hR
  have HW := Lib.hid hw
  clear hR hw
  have hle := Tok.stop_le Tok.isPart s k (by omega)
  have hge := Tok.stop_ge Tok.isPart s k
  generalize Tok.stop Tok.isPart s k = e at *
  cases hi : Tok.isWord (s.extract k e)
  all_goals
    have HI := Lib.hid hi
    clear hi
    go_enter Tryz.func125, Tryz.ntmps125
    go_wp2_with (go_at_call 156; refine HRUN.out _ _ rfl ?_)
    refine isWord_any _ _ ?_ ?_
    · exact HW.out.below (((Below.refl _ _).alloc (Nat.le_refl _) _).alloc (by simp) _)
    rw [HI.out]
    go_wp2
    go_region
    go_wp2
    refine bodyPost_ret ?_ rfl (HR.out _ ?_)
    · simp [results, Tryz.results125, go_sem, tkVal, HI.out]; omega
    · exact ((((Below.refl _ _).alloc (Nat.le_refl _) _).alloc (by simp) _).drew)
end Go.Proofs.YtdlbhiaceheffaaGreatDoor

namespace Go.Proofs.YtdlbhiaceheffaaGreatDoor
open Go Go.RowKit

theorem number_any (s : ByteArray) (k : Nat) (w : World) (hs : s.size ≤ 4000) (hk : k < s.size) {R : Ending → World → Prop}
    (hR : ∀ w', Below w.heap.size w w' → R (.returned (.tuple #[tkVal ⟨3, s.extract k (Tok.stop Tok.isDigit s k), k⟩,
      .bool (decide (Tok.stop Tok.isDigit s k - k ≤ 9) && (decide (Tok.stop Tok.isDigit s k - k = 1) || !decide (Tok.byte s k = 48)))])) w')
    (hd : Tok.isDigit (Tok.byte s k) = true) :
    Calls Tryz.prog 127 #[.string s, .int .i64 k] w R := by
  have HRUN := Lib.hid (@run_any 126 Tok.isDigit Tryz.call126 isDigit_any s k hs (by omega))
  have HR := Lib.hid hR
  clear hR
  have hle := Tok.stop_le Tok.isDigit s k (by omega)
  have hgt : k < Tok.stop Tok.isDigit s k := by
    have := Tok.stop_ge Tok.isDigit s (k + 1)
    rw [Tok.stop_step hk (by rw [← Tok.byte_eq]; exact hd)] at this
    omega
  clear hd
  generalize Tok.stop Tok.isDigit s k = e at *
  have hx : e - k ≤ 9 ∧ e - k = 1 ∨ e - k ≤ 9 ∧ ¬ e - k = 1 ∨ ¬ e - k ≤ 9 := by omega
  rcases hx with ⟨h9, h1⟩ | ⟨h9, h1⟩ | h9
  · have hb : decide (((e - k : Nat) : Int) ≤ 9) = true := by simp; omega
    have hb1 : (((e - k : Nat) : Int) == 1) = true := by simp; omega
    go_enter Tryz.func127, Tryz.ntmps127
    go_wp2_with (go_at_call 156; refine HRUN.out _ _ rfl ?_)
    go_region
    go_wp2
    refine bodyPost_ret ?_ rfl (HR.out _ ?_)
    · simp [results, Tryz.results127, go_sem, tkVal, h1]
    · exact ((((Below.refl _ _).alloc (Nat.le_refl _) _).alloc (by simp) _).drew)
  · have hb : decide (((e - k : Nat) : Int) ≤ 9) = true := by simp; omega
    have hb1 : (((e - k : Nat) : Int) == 1) = false := by simp; omega
    have h0 : 0 < e - k := by omega
    go_enter Tryz.func127, Tryz.ntmps127
    go_wp2_with (go_at_call 156; refine HRUN.out _ _ rfl ?_)
    go_region
    go_wp2
    refine bodyPost_ret ?_ rfl (HR.out _ ?_)
    · simp [results, Tryz.results127, go_sem, tkVal, h9, h1]
      rw [Tok.byte_extract, Bool.eq_iff_iff]
      simp [Tok.is48]
    · exact ((((Below.refl _ _).alloc (Nat.le_refl _) _).alloc (by simp) _).drew)
  · have hb : decide (((e - k : Nat) : Int) ≤ 9) = false := by simp; omega
    go_enter Tryz.func127, Tryz.ntmps127
    go_wp2_with (go_at_call 156; refine HRUN.out _ _ rfl ?_)
    go_region
    go_wp2
    refine bodyPost_ret ?_ rfl (HR.out _ ?_)
    · simp [results, Tryz.results127, go_sem, tkVal, h9]
    · exact ((((Below.refl _ _).alloc (Nat.le_refl _) _).alloc (by simp) _).drew)

theorem text_any (s : ByteArray) (k : Nat) (w : World) (hs : s.size ≤ 4000) (hk : k < s.size) {R : Ending → World → Prop}
    (hR : ∀ w', Below w.heap.size w w' → R (.returned (.tuple #[tkVal ⟨4, s.extract (k + 1) (Tok.stop Tok.isPlain s (k + 1)), k⟩,
      .bool (decide (Tok.stop Tok.isPlain s (k + 1) - (k + 1) ≤ 30) && (decide (Tok.stop Tok.isPlain s (k + 1) < s.size) && decide (Tok.byte s (Tok.stop Tok.isPlain s (k + 1)) = 34)))])) w') :
    Calls Tryz.prog 128 #[.string s, .int .i64 k] w R := by
  have HRUN := Lib.hid (@run_any 159 Tok.isPlain Tryz.call159 text1_any s (k + 1) hs (by omega))
  have HR := Lib.hid hR
  clear hR
  have hle := Tok.stop_le Tok.isPlain s (k + 1) (by omega)
  have hge := Tok.stop_ge Tok.isPlain s (k + 1)
  generalize Tok.stop Tok.isPlain s (k + 1) = e at *
  have hx : e - (k + 1) ≤ 30 ∧ e < s.size ∨ e - (k + 1) ≤ 30 ∧ ¬ e < s.size ∨ ¬ e - (k + 1) ≤ 30 := by omega
  rcases hx with ⟨h9, h1⟩ | ⟨h9, h1⟩ | h9
  · have hb : decide (((e - (k + 1) : Nat) : Int) ≤ 30) = true := by simp; omega
    have hl : decide ((e : Int) < (s.size : Int)) = true := by simp; omega
    go_enter Tryz.func128, Tryz.ntmps128
    go_wp2_with (go_at_call 156; refine HRUN.out _ _ (by omega) ?_)
    rw [show (k : Int) + 1 + ((e - (k + 1) : Nat) : Int) = (e : Int) from by omega]
    go_region
    go_wp2
    refine bodyPost_ret ?_ rfl (HR.out _ ?_)
    · simp [results, Tryz.results128, go_sem, tkVal]
      rw [← Tok.byte_eq s e h1, Bool.eq_iff_iff]
      simp [Tok.is34, h1]; omega
    · exact ((((Below.refl _ _).alloc (Nat.le_refl _) _).alloc (by simp) _).drew)
  · have hb : decide (((e - (k + 1) : Nat) : Int) ≤ 30) = true := by simp; omega
    have hl : decide ((e : Int) < (s.size : Int)) = false := by simp; omega
    go_enter Tryz.func128, Tryz.ntmps128
    go_wp2_with (go_at_call 156; refine HRUN.out _ _ (by omega) ?_)
    rw [show (k : Int) + 1 + ((e - (k + 1) : Nat) : Int) = (e : Int) from by omega]
    go_region
    go_wp2
    refine bodyPost_ret ?_ rfl (HR.out _ ?_)
    · simp [results, Tryz.results128, go_sem, tkVal, h1]
    · exact ((((Below.refl _ _).alloc (Nat.le_refl _) _).alloc (by simp) _).drew)
  · have hb : decide (((e - (k + 1) : Nat) : Int) ≤ 30) = false := by simp; omega
    go_enter Tryz.func128, Tryz.ntmps128
    go_wp2_with (go_at_call 156; refine HRUN.out _ _ (by omega) ?_)
    rw [show (k : Int) + 1 + ((e - (k + 1) : Nat) : Int) = (e : Int) from by omega]
    go_region
    go_wp2
    refine bodyPost_ret ?_ rfl (HR.out _ ?_)
    · simp [results, Tryz.results128, go_sem, tkVal, h9]
    · exact ((((Below.refl _ _).alloc (Nat.le_refl _) _).alloc (by simp) _).drew)
end Go.Proofs.YtdlbhiaceheffaaGreatDoor

namespace Go.Proofs.YtdlbhiaceheffaaGreatDoor
open Go Go.RowKit

theorem sign_fin : ∀ n : Fin 256, decide (0 ≤ Lib.indexByte [40, 41, 123, 125, 91, 93, 44, 59, 58, 46, 61, 60, 43, 45, 42, 33, 124] (UInt8.ofNat n.val)) = Tok.isSign (UInt8.ofNat n.val) := by decide +kernel
theorem sign_byte (c : UInt8) : decide (0 ≤ Lib.indexByte [40, 41, 123, 125, 91, 93, 44, 59, 58, 46, 61, 60, 43, 45, 42, 33, 124] c) = Tok.isSign c := by
  have h := sign_fin ⟨c.toNat, c.toNat_lt⟩
  simpa using h
set_option maxRecDepth 100000 in
theorem sign_any (s : ByteArray) (k : Nat) (w : World) (hs : s.size ≤ 4000) (hk : k < s.size) {R : Ending → World → Prop}
    (hR : ∀ w', Below w.heap.size w w' → R (.returned (.tuple #[tkVal (if Tok.two s k then ⟨5, s.extract k (k + 2), k⟩ else ⟨5, s.extract k (k + 1), k⟩), .bool (if Tok.two s k then true else Tok.isSign (Tok.byte s k))])) w') :
    Calls Tryz.prog 129 #[.string s, .int .i64 k] w R := by
  have HR := Lib.hid hR
  clear hR
  have hx : ∃ p1 p2 : Bool, p1 = Lib.hasPrefix (List.take (s.size - k) (List.drop k s.data.toList)) [61, 61] ∧ p2 = Lib.hasPrefix (List.take (s.size - k) (List.drop k s.data.toList)) [61, 62] := ⟨_, _, rfl, rfl⟩
  obtain ⟨p1, p2, hp1, hp2⟩ := hx
  have htwo : Tok.two s k = (p1 || p2) := by rw [hp1, hp2, Tok.take_drop_size, Tok.two_eq]; rfl
  have hex1 : p1 = true → s.extract k (k + 2) = ⟨#[61, 61]⟩ := fun h => Tok.extract2 s k 61 61 (by rw [← h, hp1, Tok.take_drop_size]; rfl)
  have hex2 : p2 = true → s.extract k (k + 2) = ⟨#[61, 62]⟩ := fun h => Tok.extract2 s k 61 62 (by rw [← h, hp2, Tok.take_drop_size]; rfl)
  have HP1 := Lib.hid hp1
  have HP2 := Lib.hid hp2
  have HT := Lib.hid htwo
  have HE1 := Lib.hid hex1
  have HE2 := Lib.hid hex2
  clear hp1 hp2 htwo hex1 hex2
  go_enter Tryz.func129, Tryz.ntmps129
  go_wp2_with fail
  go_loop [10] (fun i => ∃ n : Nat, n ≤ 2 ∧ i = .int .i64 n ∧ (1 ≤ n → p1 = false) ∧ (2 ≤ n → p2 = false)) (fun i => 2 - (intOf i).toNat)
  case atStart => exact ⟨0, by omega, rfl, by omega, by omega⟩
  case round =>
    obtain ⟨n, hn, rfl, h1, h2⟩ := hrel
    have hn' : n = 0 ∨ n = 1 ∨ n = 2 := by omega
    rcases hn' with rfl | rfl | rfl
    · go_wp2_with (go_at_call 115; refine (Tryz.strings_HasPrefix _ _ _).mono ?_; rintro e w' ⟨rfl, rfl⟩)
      · have hp : p1 = true := by rw [HP1.out]; assumption
        refine bodyPost_ret ?_ rfl (HR.out _ ?_)
        · simp [results, Tryz.results129, go_sem, tkVal, HT.out, hp, HE1.out hp]
        · exact ((Below.refl _ _).alloc (Nat.le_refl _) _).alloc (by simp) _
      · have hp : p1 = false := by rw [HP1.out]; assumption
        refine ⟨⟨1, by omega, rfl, fun _ => hp, by omega⟩, by simp [intOf]⟩
    · go_wp2_with (go_at_call 115; refine (Tryz.strings_HasPrefix _ _ _).mono ?_; rintro e w' ⟨rfl, rfl⟩)
      · have hp : p2 = true := by rw [HP2.out]; assumption
        refine bodyPost_ret ?_ rfl (HR.out _ ?_)
        · simp [results, Tryz.results129, go_sem, tkVal, HT.out, hp, HE2.out hp]
        · exact ((Below.refl _ _).alloc (Nat.le_refl _) _).alloc (by simp) _
      · have hp : p2 = false := by rw [HP2.out]; assumption
        refine ⟨⟨2, by omega, rfl, fun _ => h1 (by omega), fun _ => hp⟩, by simp [intOf]⟩
    · have e1 := h1 (by omega)
      have e2 := h2 (by omega)
      clear h1 h2 hn
      subst e1 e2
      go_wp2_with fail
      have w1 : IntKind.i64.wrap ((k : Int) + 1) = (k : Int) + 1 := IntWalk.i64_in _ (by omega)
      have w2 : 0 ≤ (k : Int) + 1 := by omega
      have w3 : ((k : Int) + 1).toNat = k + 1 := by omega
      have w4 : (k : Int) + 1 ≤ (s.size : Int) := by omega
      have w5 : ¬ (s.size : Int) < (k : Int) + 1 := by omega
      have w6 : k ≤ k + 1 := by omega
      have w7 : k + 1 ≤ s.size := by omega
      have hsl : ∀ W : World, (Instr.slice 9 (.string s) (some (.int .i64 (k : Int))) (some (.int .i64 ((k : Int) + 1))) none).run Tryz.prog W = .ok (.string (s.extract k (k + 1))) W := by
        intro W
        simp [Instr.slice, Instr.sliceBounds, Instr.sliceBound, asIntOf, w2, w3, w4, go_sem]
      clear w4 w5 w6 w7
      go_region_with (go_at_call 160; refine (Tryz.strings_IndexByte _ _ _).mono ?_; rintro e w' ⟨rfl, rfl⟩)
      go_wp2
      refine bodyPost_ret ?_ rfl (HR.out _ ?_)
      · simp [results, Tryz.results129, go_sem, tkVal, HT.out, Act.put, -Bool.or_self]
        rw [← Tok.byte_eq s k hk]; exact sign_byte _
      · exact ((((Below.refl _ _).alloc (Nat.le_refl _) _).alloc (by simp) _).drew)
end Go.Proofs.YtdlbhiaceheffaaGreatDoor
