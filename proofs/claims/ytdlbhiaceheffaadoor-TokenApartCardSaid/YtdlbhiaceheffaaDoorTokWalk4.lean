/- Walk of token.sign. -/
import Derived.Test.YtdlbhiaceheffaaDoorTokWalk3
import Derived.Deep.RegionWith
namespace Go.Proofs.YtdlbhiaceheffaaDoor
open Go Go.RowKit

theorem sign_fin : ∀ n : Fin 256, decide (0 ≤ Lib.indexByte [40, 41, 123, 125, 91, 93, 44, 59, 58, 46, 61, 60, 43, 45, 42, 33, 124] (UInt8.ofNat n.val)) = Tok.isSign (UInt8.ofNat n.val) := by decide +kernel
theorem sign_byte (c : UInt8) : decide (0 ≤ Lib.indexByte [40, 41, 123, 125, 91, 93, 44, 59, 58, 46, 61, 60, 43, 45, 42, 33, 124] c) = Tok.isSign c := by
  have h := sign_fin ⟨c.toNat, c.toNat_lt⟩
  simpa using h
set_option maxRecDepth 100000 in
theorem sign_any (s : ByteArray) (k : Nat) (w : World) (hs : s.size ≤ 4000) (hk : k < s.size) {R : Ending → World → Prop}
    (hR : ∀ w', Below w.heap.size w w' → R (.returned (.tuple #[tkVal (if Tok.two s k then ⟨5, s.extract k (k + 2), k⟩ else ⟨5, s.extract k (k + 1), k⟩), .bool (if Tok.two s k then true else Tok.isSign (Tok.byte s k))])) w') :
    Calls Tryd.prog 47 #[.string s, .int .i64 k] w R := by
  have HR := Lib.hid hR
  clear hR
  have hx : ∃ p1 p2 : Bool, p1 = Lib.hasPrefix (List.take (s.size - k) (List.drop k s.data.toList)) [61, 61] ∧ p2 = Lib.hasPrefix (List.take (s.size - k) (List.drop k s.data.toList)) [61, 62] := ⟨_, _, rfl, rfl⟩
  obtain ⟨p1, p2, hp1, hp2⟩ := hx
  have htwo : Tok.two s k = (p1 || p2) := by rw [hp1, hp2, Tok.take_drop_size, Tok.two_eq]; rfl
  have hex1 : p1 = true → s.extract k (k + 2) = ⟨#[61, 61]⟩ := fun h => Tok.extract2 s k 61 61 (by rw [← h, hp1, Tok.take_drop_size]; rfl)
  have hex2 : p2 = true → s.extract k (k + 2) = ⟨#[61, 62]⟩ := fun h => Tok.extract2 s k 61 62 (by rw [← h, hp2, Tok.take_drop_size]; rfl)
  have HP1 := Lib.hid hp1
  have HP2 := Lib.hid hp2
  have HT := Lib.hid htwo
  have HE1 := Lib.hid hex1
  have HE2 := Lib.hid hex2
  clear hp1 hp2 htwo hex1 hex2
  go_enter Tryd.func47, Tryd.ntmps47
  go_wp2_with fail
  go_loop [10] (fun i => ∃ n : Nat, n ≤ 2 ∧ i = .int .i64 n ∧ (1 ≤ n → p1 = false) ∧ (2 ≤ n → p2 = false)) (fun i => 2 - (intOf i).toNat)
  case atStart => exact ⟨0, by omega, rfl, by omega, by omega⟩
  case round =>
    obtain ⟨n, hn, rfl, h1, h2⟩ := hrel
    have hn' : n = 0 ∨ n = 1 ∨ n = 2 := by omega
    rcases hn' with rfl | rfl | rfl
    · go_wp2_with (go_at_call 73; refine (Tryd.strings_HasPrefix _ _ _).mono ?_; rintro e w' ⟨rfl, rfl⟩)
      · have hp : p1 = true := by rw [HP1.out]; assumption
        refine bodyPost_ret ?_ rfl (HR.out _ ?_)
        · simp [results, Tryd.results47, go_sem, tkVal, HT.out, hp, HE1.out hp]
        · exact ((Below.refl _ _).alloc (Nat.le_refl _) _).alloc (by simp) _
      · have hp : p1 = false := by rw [HP1.out]; assumption
        refine ⟨⟨1, by omega, rfl, fun _ => hp, by omega⟩, by simp [intOf]⟩
    · go_wp2_with (go_at_call 73; refine (Tryd.strings_HasPrefix _ _ _).mono ?_; rintro e w' ⟨rfl, rfl⟩)
      · have hp : p2 = true := by rw [HP2.out]; assumption
        refine bodyPost_ret ?_ rfl (HR.out _ ?_)
        · simp [results, Tryd.results47, go_sem, tkVal, HT.out, hp, HE2.out hp]
        · exact ((Below.refl _ _).alloc (Nat.le_refl _) _).alloc (by simp) _
      · have hp : p2 = false := by rw [HP2.out]; assumption
        refine ⟨⟨2, by omega, rfl, fun _ => h1 (by omega), fun _ => hp⟩, by simp [intOf]⟩
    · have e1 := h1 (by omega)
      have e2 := h2 (by omega)
      clear h1 h2 hn
      subst e1 e2
      go_wp2_with fail
      have w1 : IntKind.i64.wrap ((k : Int) + 1) = (k : Int) + 1 := IntWalk.i64_in _ (by omega)
      have w2 : 0 ≤ (k : Int) + 1 := by omega
      have w3 : ((k : Int) + 1).toNat = k + 1 := by omega
      have w4 : (k : Int) + 1 ≤ (s.size : Int) := by omega
      have w5 : ¬ (s.size : Int) < (k : Int) + 1 := by omega
      have w6 : k ≤ k + 1 := by omega
      have w7 : k + 1 ≤ s.size := by omega
      have hsl : ∀ W : World, (Instr.slice 9 (.string s) (some (.int .i64 (k : Int))) (some (.int .i64 ((k : Int) + 1))) none).run Tryd.prog W = .ok (.string (s.extract k (k + 1))) W := by
        intro W
        simp [Instr.slice, Instr.sliceBounds, Instr.sliceBound, asIntOf, w2, w3, w4, go_sem]
      clear w4 w5 w6 w7
      go_region_with (go_at_call 74; refine (Tryd.strings_IndexByte _ _ _).mono ?_; rintro e w' ⟨rfl, rfl⟩)
      go_wp2
      refine bodyPost_ret ?_ rfl (HR.out _ ?_)
      · simp [results, Tryd.results47, go_sem, tkVal, HT.out, Act.put, -Bool.or_self]
        rw [← Tok.byte_eq s k hk]; exact sign_byte _
      · exact ((((Below.refl _ _).alloc (Nat.le_refl _) _).alloc (by simp) _).drew)
end Go.Proofs.YtdlbhiaceheffaaDoor
