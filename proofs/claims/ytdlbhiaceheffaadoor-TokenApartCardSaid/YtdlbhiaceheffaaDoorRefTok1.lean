/- Walks of the reference's small functions: letter, digit, HasText, Words. -/
import Derived.Test.YtdlbhiaceheffaaDoorTokWalk7
import Derived.WalkSpells
namespace Go.Proofs.YtdlbhiaceheffaaDoor
open Go Go.RowKit

theorem refDigit_any (c : UInt8) (w : World) {R : Ending → World → Prop} (hR : R (.returned (.bool (Tok.isDigit c))) w) :
    Calls Tryd.prog 26 #[.int .u8 (c.toNat : Int)] w R := by
  have HR := Lib.hid hR
  clear hR
  go_enter Tryd.func26, Tryd.ntmps26
  go_wp2
  all_goals
    refine ret_eq HR.out (congrArg Value.bool ?_)
    rw [Bool.eq_iff_iff]; simp [Tok.isDigit]; try omega
theorem refLetter_any (c : UInt8) (w : World) {R : Ending → World → Prop} (hR : R (.returned (.bool (Tok.isLetter c))) w) :
    Calls Tryd.prog 25 #[.int .u8 (c.toNat : Int)] w R := by
  have HR := Lib.hid hR
  clear hR
  go_enter Tryd.func25, Tryd.ntmps25
  go_wp2
  all_goals
    refine ret_eq HR.out (congrArg Value.bool ?_)
    rw [Bool.eq_iff_iff]; simp [Tok.isLetter]; try omega

/-- The words, in a new block. -/
def wordVals : Array Value := #[.string ⟨#[108, 101, 116]⟩, .string ⟨#[102, 110]⟩, .string ⟨#[105, 102]⟩, .string ⟨#[101, 108, 115, 101]⟩, .string ⟨#[119, 104, 105, 108, 101]⟩, .string ⟨#[114, 101, 116, 117, 114, 110]⟩, .string ⟨#[112, 114, 105, 110, 116]⟩, .string ⟨#[116, 114, 117, 101]⟩, .string ⟨#[102, 97, 108, 115, 101]⟩, .string ⟨#[110, 117, 108, 108]⟩, .string ⟨#[97, 115]⟩, .string ⟨#[116, 121, 112, 101, 111, 102]⟩, .string ⟨#[110, 117, 109]⟩, .string ⟨#[98, 111, 111, 108]⟩, .string ⟨#[116, 101, 120, 116]⟩, .string ⟨#[97, 110, 121]⟩, .string ⟨#[117, 110, 107, 110, 111, 119, 110]⟩]
theorem refWords_any (w : World) {R : Ending → World → Prop} (hR : R (.returned (.slice (some ⟨w.heap.size, 0, none⟩) 17 17)) (w.alloc (.cells wordVals 9))) :
    Calls Tryd.prog 28 #[] w R := by
  have HR := Lib.hid hR
  clear hR
  go_enter Tryd.func28, Tryd.ntmps28
  go_wp2_with fail
  exact HR.out

theorem wordVals_eq : wordVals = (Tok.words.map Value.string).toArray := rfl
theorem wordVals_cell (W : World) (b : Nat) (h : W.heap[b]? = some (.cells wordVals 9 (0, 0))) : ∀ j, j < Tok.words.length → W.cell? ⟨b, 0 + j, none⟩ = some (.string (Tok.words.getD j ByteArray.empty)) := by
  intro j hj
  rw [cell_of_block h, wordVals_eq, Nat.zero_add]
  simp [hj]

theorem heap_alloc_at' (w : World) (o : Obj) (b : Nat) (h : b = w.heap.size) : (w.alloc o).heap[b]? = some o := by subst h; exact heap_alloc_new w o
theorem heap_drew_at {w : World} {o : Obj} {b : Nat} (h : w.heap[b]? = some o) : w.drew.heap[b]? = some o := h

theorem byteEq (a b : UInt8) : (false || a == b) = ((a.toNat : Int) == (b.toNat : Int)) := by
  rw [Bool.eq_iff_iff]; simp [← UInt8.toNat_inj]; omega

theorem bytes_iff (a b : ByteArray) : (a.toList == b.toList) = true ↔ a = b := by
  rw [ByteArray.toList_eq, ByteArray.toList_eq, beq_iff_eq]
  constructor
  · intro h; exact ByteArray.ext (Array.ext' h)
  · rintro rfl; rfl
theorem bytes_ne (a b : ByteArray) (h : (a.toList == b.toList) = false) : a ≠ b := fun e => by
  rw [(bytes_iff a b).2 e] at h; exact Bool.noConfusion h

theorem HasText_any (b off cap n : Nat) (l : List ByteArray) (x : ByteArray) (w : World) (hl : l.length ≤ 100000) (hn : l.length = n) (hc : ∀ j, j < l.length → w.cell? ⟨b, off + j, none⟩ = some (.string (l.getD j ByteArray.empty)))
    {R : Ending → World → Prop} (hR : ∀ r : Bool, (r = true ↔ x ∈ l) → R (.returned (.bool r)) w) :
    Calls Tryd.prog 27 #[.slice (some ⟨b, off, none⟩) n cap, .string x] w R := by
  subst hn
  have HR := Lib.hid hR
  clear hR
  go_enter Tryd.func27, Tryd.ntmps27
  go_wp2_with fail
  go_loop [5] (fun i => ∃ k : Nat, k ≤ l.length ∧ i = .int .i64 k ∧ Hid (∀ y ∈ l.take k, y ≠ x)) (fun i => l.length - (intOf i).toNat)
  case atStart => exact ⟨0, Nat.zero_le _, rfl, by simp [Hid]⟩
  case round =>
    obtain ⟨k, hk, rfl, he⟩ := hrel
    by_cases hlt : k < l.length
    · have hck := hc k hlt
      have HC := Lib.hid hc
      clear hc
      go_wp2_with fail
      · have h : (l[k].toList == x.toList) = true := by assumption
        exact HR.out true ⟨fun _ => (bytes_iff _ _).1 h ▸ List.getElem_mem _, fun _ => rfl⟩
      · have h : (l[k].toList == x.toList) = false := by assumption
        go_round
        case rel =>
          refine ⟨k + 1, by omega, by go_num, fun y hy => ?_⟩
          rw [List.take_succ_eq_append_getElem hlt, List.mem_append] at hy
          rcases hy with hy | hy
          · exact he.out y hy
          · simp at hy; subst hy; exact bytes_ne _ _ h
        case measure => simp [intOf]; omega
    · clear hc
      go_wp2_with fail
      refine HR.out false ⟨(fun h => by cases h), fun h => ?_⟩
      exact (he.out x (by rw [List.take_of_length_le (by omega)]; exact h) rfl).elim
end Go.Proofs.YtdlbhiaceheffaaDoor
