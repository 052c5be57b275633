/- What the listed variable gives, and the witness world. -/
import Derived.Test.YtdlbhiaceheffaaGreatDoorCards
import Derived.Test.YtdlbhiaceheffaaGreatDoorTie
import Derived.Test.YtdlbhiaceheffaaGreatDoorQWalkA
import Derived.Lib.LaidIn
import Derived.Lib.LaidU8
import Derived.Lib.LaidPrint
import Derived.Deep.DeepHandedRow
import Derived.Deep.DeepWitnessRowRef
import Derived.ProofKit
import Derived.SizedLaws
import Derived.SliceStrings
namespace Go.Proofs.YtdlbhiaceheffaaGreatDoor
open Go.ChangeShapes Go.WideShapes Go.ChangeAt Go.RowKit Go.Lib
open Go.ChangeMaps (open_string shut_string)

theorem ownKnob_none : ownKnob Tryz.prog.godebug = none := by kernel_rfl
theorem words_named : Tryz.prog.globalNamed "guardrail/token.words" = some 0 := by kernel_rfl
theorem words_type : (Tryz.prog.globals[0]?).map (·.type) = some 22 := by kernel_rfl
theorem cells_string : Tryz.prog.cellsOf 9 = 1 := by kernel_rfl
theorem laid_words : (Rows.laid_guardrail_token_words : DataW Unit) = .slice (Tok.wordsL.map fun l => .lit (.string l)) [] := rfl

/-- What the row's list gives: the table of words. -/
theorem words_of_laid {W : World} (h : VarReads Tryz.prog W "guardrail/token.words" Rows.laid_guardrail_token_words) : Words W := by
  obtain ⟨g', t', cs, fuel, p, hg, hty, hvar, hd⟩ := h
  obtain rfl := Option.some.inj (words_named.symm.trans hg)
  obtain rfl := Option.some.inj (words_type.symm.trans hty)
  rw [laid_words] at hd
  rcases open_strings Tryz.underlying22 Tryz.underlying9 cells_string hd with ⟨_, hx⟩ | ⟨a, len, cap, ss, hcs, _, hl, _, hsz, hx, hcell, _⟩
  · cases hx
  simp only [Prod.mk.injEq, DataW.slice.injEq] at hx
  obtain ⟨⟨hx1, hx2⟩, _⟩ := hx
  have hmap : (ss.take len).map (fun s => s.data.toList) = Tok.wordsL := by
    have h1 : (ss.take len).map (fun s => (DataW.lit (.string s.data.toList) : DataW Unit)) = Tok.wordsL.map fun l => .lit (.string l) := hx1.symm
    have h2 := congrArg (List.map (fun d : DataW Unit => match d with | .lit (.string l) => l | _ => [])) h1
    simpa [List.map_map, Function.comp_def] using h2
  have hlen : (ss.take len).length = 17 := by have := congrArg List.length hmap; simpa [Tok.wordsL] using this
  have hss : ss.length ≥ 17 := by simp at hlen; omega
  have hl17 : len = 17 := by
    have h3 : (ss.drop len).length = 0 := by have := congrArg List.length hx2; simp [strs] at this; simp; omega
    simp at hlen h3
    simp at hsz
    omega
  subst hl17
  have hw : ss.take 17 = Tok.words := by
    unfold Tok.words
    rw [← hmap, List.map_map]
    symm
    exact List.map_id'' (fun s => by cases s; rfl) _
  have hcell' : ∀ i, i < 17 → W.cell? (a.add i) = some (.string (Tok.words.getD i ByteArray.empty)) := by
    intro i hi
    rw [hcell i (by omega), ← hw]
    simp [List.getD, hi]
  obtain ⟨R, o, sR⟩ := a
  obtain rfl : sR = none := by
    have h00 := hcell' 0 (by omega)
    have : (Addr.add ⟨R, o, sR⟩ 0) = ⟨R, o, sR⟩ := by simp [Addr.add]
    rw [this] at h00
    exact Go.Proofs.cell_spot h00
  refine ⟨R, o, cap, ?_, fun j hj => ?_⟩
  · rw [World.var?_cell hg hvar 0, ← Array.getElem?_toList, hcs]
    rfl
  · have := hcell' j hj
    rwa [Addr.add_lit] at this

/-- A world for the witness: the settled one, the table laid behind it. -/
noncomputable def laidWorld (os : Os) : World :=
  let w0 := World.holding Tryz.prog os ⟨#[], #[], []⟩
  { w0 with heap := (w0.heap.modify 0 fun
      | .cells _ t frozen => .cells #[.slice (some ⟨w0.heap.size, 0, none⟩) 17 17] t frozen
      | o => o).push (.cells (Tok.words.map Value.string).toArray 9) }
end Go.Proofs.YtdlbhiaceheffaaGreatDoor
