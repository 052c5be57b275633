/-
  DERIVED. GIVEN WITH THE SEED: THE CARDS: each row of YtdlbhiaceheffaaGreatDoorRows.lean that lists a variable, with what it lists TIED to the program's text (the seventh form; the later family's looks); each row that meets fmt, with fmt's text TOLD by the authors' own Lean function (tested against real Go, not proved from fmt's source: count such statements apart). THE CARD IS WHAT COUNTS. Prove the row's statement (the work); the ties are given (YtdlbhiaceheffaaGreatDoorTie.lean); close each card by the builder's one call (the guide's Derived/Test/ToyasCard.lean, 'card_holds'). Laid BY PROGRAM, IN A SANDBOX (cutbox-door.mjs). By AI agents, Wed Nov 11 2026. No macro, syntax, notation, axiom, sorry.
-/
import Derived.Test.YtdlbhiaceheffaaGreatDoorRows
import GoSem.ClaimSeven
namespace Go.Proofs.YtdlbhiaceheffaaGreatDoor
namespace Rows

/-- THE TIED CARD OF 'guardraillaw.TypesUnion'. -/
def typesUnionCard : Claim7 := { stood := { row := typesUnionRow, standIns := [], harness := (true, "66b36a5a0992d39ce275f90230fd347c880d5c31fee87db1136fa10d7b98c561"), looks := true }, kinds := [], alts := [], laidByText := true, laidKinds := [.widerDeep], laidTests := true, laidLooks := .later }
def TypesUnionCardSaid : Prop := Claim7.holds Tryz.pinned (.plain (OpenSpec.ofChange typesUnionSpec)) typesUnionCard

/-- THE TIED CARD OF 'guardraillaw.TreeParses'. -/
def treeParsesCard : Claim7 := { stood := { row := treeParsesRow, standIns := [], harness := (true, "66b36a5a0992d39ce275f90230fd347c880d5c31fee87db1136fa10d7b98c561"), looks := true }, kinds := [], alts := [], laidByText := true, laidKinds := [.data, .data, .data, .sentinel, .sentinel, .widerDeep], laidTests := true, laidLooks := .later }
def TreeParsesCardSaid : Prop := Claim7.holds Tryz.pinned (.plain (OpenSpec.ofChange treeParsesSpec)) treeParsesCard

/-- THE TIED CARD OF 'guardraillaw.TreeTypes'. -/
def treeTypesCard : Claim7 := { stood := { row := treeTypesRow, standIns := [], harness := (true, "66b36a5a0992d39ce275f90230fd347c880d5c31fee87db1136fa10d7b98c561"), looks := true }, kinds := [], alts := [], laidByText := true, laidKinds := [.data, .data, .data, .sentinel, .sentinel, .widerDeep], laidTests := true, laidLooks := .later }
def TreeTypesCardSaid : Prop := Claim7.holds Tryz.pinned (.plain (OpenSpec.ofChange treeTypesSpec)) treeTypesCard

/-- THE TIED CARD OF 'guardraillaw.ShowPrints'. -/
def showPrintsCard : Claim7 := { stood := { row := showPrintsRow, standIns := [], harness := (true, "66b36a5a0992d39ce275f90230fd347c880d5c31fee87db1136fa10d7b98c561"), looks := true }, kinds := [], alts := [], laidByText := true, laidKinds := [.data, .data, .data, .sentinel, .sentinel, .widerDeep], laidTests := true, laidLooks := .later }
def ShowPrintsCardSaid : Prop := Claim7.holds Tryz.pinned (.plain (OpenSpec.ofChange showPrintsSpec)) showPrintsCard

/-- THE TIED CARD OF 'guardraillaw.ShowTypes'. -/
def showTypesCard : Claim7 := { stood := { row := showTypesRow, standIns := [], harness := (true, "66b36a5a0992d39ce275f90230fd347c880d5c31fee87db1136fa10d7b98c561"), looks := true }, kinds := [], alts := [], laidByText := true, laidKinds := [.data, .data, .data, .sentinel, .sentinel, .widerDeep], laidTests := true, laidLooks := .later }
def ShowTypesCardSaid : Prop := Claim7.holds Tryz.pinned (.plain (OpenSpec.ofChange showTypesSpec)) showTypesCard

/-- THE SECOND FORM's CARD OF 'guardraillaw.TypesUnion'. -/
def typesUnionUptoCard : Claim7 := { stood := { row := typesUnionUptoRow, standIns := [], harness := (true, "66b36a5a0992d39ce275f90230fd347c880d5c31fee87db1136fa10d7b98c561"), looks := true }, kinds := [], alts := [], laidByText := true, laidKinds := [.widerDeep], laidTests := true, laidLooks := .later }
def TypesUnionUptoCardSaid : Prop := Claim7.holds Tryz.pinned (.plain (OpenSpec.upto typesUnionSpec)) typesUnionUptoCard

/-- THE SECOND FORM's CARD OF 'guardraillaw.TreeParses'. -/
def treeParsesUptoCard : Claim7 := { stood := { row := treeParsesUptoRow, standIns := [], harness := (true, "66b36a5a0992d39ce275f90230fd347c880d5c31fee87db1136fa10d7b98c561"), looks := true }, kinds := [], alts := [], laidByText := true, laidKinds := [.data, .data, .data, .sentinel, .sentinel, .widerDeep], laidTests := true, laidLooks := .later }
def TreeParsesUptoCardSaid : Prop := Claim7.holds Tryz.pinned (.plain (OpenSpec.upto treeParsesSpec)) treeParsesUptoCard

/-- THE SECOND FORM's CARD OF 'guardraillaw.TreeTypes'. -/
def treeTypesUptoCard : Claim7 := { stood := { row := treeTypesUptoRow, standIns := [], harness := (true, "66b36a5a0992d39ce275f90230fd347c880d5c31fee87db1136fa10d7b98c561"), looks := true }, kinds := [], alts := [], laidByText := true, laidKinds := [.data, .data, .data, .sentinel, .sentinel, .widerDeep], laidTests := true, laidLooks := .later }
def TreeTypesUptoCardSaid : Prop := Claim7.holds Tryz.pinned (.plain (OpenSpec.upto treeTypesSpec)) treeTypesUptoCard

/-- THE SECOND FORM's CARD OF 'guardraillaw.ShowPrints'. -/
def showPrintsUptoCard : Claim7 := { stood := { row := showPrintsUptoRow, standIns := [], harness := (true, "66b36a5a0992d39ce275f90230fd347c880d5c31fee87db1136fa10d7b98c561"), looks := true }, kinds := [], alts := [], laidByText := true, laidKinds := [.data, .data, .data, .sentinel, .sentinel, .widerDeep], laidTests := true, laidLooks := .later }
def ShowPrintsUptoCardSaid : Prop := Claim7.holds Tryz.pinned (.plain (OpenSpec.upto showPrintsSpec)) showPrintsUptoCard

/-- THE SECOND FORM's CARD OF 'guardraillaw.ShowTypes'. -/
def showTypesUptoCard : Claim7 := { stood := { row := showTypesUptoRow, standIns := [], harness := (true, "66b36a5a0992d39ce275f90230fd347c880d5c31fee87db1136fa10d7b98c561"), looks := true }, kinds := [], alts := [], laidByText := true, laidKinds := [.data, .data, .data, .sentinel, .sentinel, .widerDeep], laidTests := true, laidLooks := .later }
def ShowTypesUptoCardSaid : Prop := Claim7.holds Tryz.pinned (.plain (OpenSpec.upto showTypesSpec)) showTypesUptoCard
end Rows
end Go.Proofs.YtdlbhiaceheffaaGreatDoor
