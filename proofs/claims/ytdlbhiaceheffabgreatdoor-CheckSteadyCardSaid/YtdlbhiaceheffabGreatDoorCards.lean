/-
  DERIVED. GIVEN WITH THE SEED: THE CARDS: each row of YtdlbhiaceheffabGreatDoorRows.lean that lists a variable, with what it lists TIED to the program's text (the seventh form; the later family's looks); each row that meets fmt, with fmt's text TOLD by the authors' own Lean function (tested against real Go, not proved from fmt's source: count such statements apart). THE CARD IS WHAT COUNTS. Prove the row's statement (the work); the ties are given (YtdlbhiaceheffabGreatDoorTie.lean); close each card by the builder's one call (the guide's Derived/Test/ToyasCard.lean, 'card_holds'). Laid BY PROGRAM, IN A SANDBOX (cutbox-door.mjs). By AI agents, Wed Nov 11 2026. No macro, syntax, notation, axiom, sorry.
-/
import Derived.Test.YtdlbhiaceheffabGreatDoorRows
import GoSem.ClaimSeven
namespace Go.Proofs.YtdlbhiaceheffabGreatDoor
namespace Rows

/-- THE TIED CARD OF 'guardraillaw.ShowBack'. -/
def showBackCard : Claim7 := { stood := { row := showBackRow, standIns := [], harness := (true, "54df4e755fda72ea050a1667540a369ba258d5a11ed60f90d492c1a53cab23f7"), looks := true }, kinds := [], alts := [], laidByText := true, laidKinds := [.data, .data, .data, .sentinel, .sentinel, .widerDeep], laidTests := true, laidLooks := .later }
def ShowBackCardSaid : Prop := Claim7.holds Tryz.pinned (.plain (OpenSpec.ofChange showBackSpec)) showBackCard

/-- THE TIED CARD OF 'guardraillaw.BindNames'. -/
def bindNamesCard : Claim7 := { stood := { row := bindNamesRow, standIns := [], harness := (true, "54df4e755fda72ea050a1667540a369ba258d5a11ed60f90d492c1a53cab23f7"), looks := true }, kinds := [], alts := [], laidByText := true, laidKinds := [.data, .data, .data, .sentinel, .sentinel, .widerDeep], laidTests := true, laidLooks := .later }
def BindNamesCardSaid : Prop := Claim7.holds Tryz.pinned (.plain (OpenSpec.ofChange bindNamesSpec)) bindNamesCard

/-- THE TIED CARD OF 'guardraillaw.BindCaught'. -/
def bindCaughtCard : Claim7 := { stood := { row := bindCaughtRow, standIns := [], harness := (true, "54df4e755fda72ea050a1667540a369ba258d5a11ed60f90d492c1a53cab23f7"), looks := true }, kinds := [], alts := [], laidByText := true, laidKinds := [.data, .data, .data, .sentinel, .sentinel, .widerDeep], laidTests := true, laidLooks := .later }
def BindCaughtCardSaid : Prop := Claim7.holds Tryz.pinned (.plain (OpenSpec.ofChange bindCaughtSpec)) bindCaughtCard

/-- THE TIED CARD OF 'guardraillaw.CheckTypes'. -/
def checkTypesCard : Claim7 := { stood := { row := checkTypesRow, standIns := [], harness := (true, "54df4e755fda72ea050a1667540a369ba258d5a11ed60f90d492c1a53cab23f7"), looks := true }, kinds := [], alts := [], laidByText := true, laidKinds := [.data, .data, .data, .sentinel, .sentinel, .widerDeep], laidTests := true, laidLooks := .later }
def CheckTypesCardSaid : Prop := Claim7.holds Tryz.pinned (.plain (OpenSpec.ofChange checkTypesSpec)) checkTypesCard

/-- THE TIED CARD OF 'guardraillaw.PlaceGuards'. -/
def placeGuardsCard : Claim7 := { stood := { row := placeGuardsRow, standIns := [], harness := (true, "54df4e755fda72ea050a1667540a369ba258d5a11ed60f90d492c1a53cab23f7"), looks := true }, kinds := [], alts := [], laidByText := true, laidKinds := [.data, .data, .data, .sentinel, .sentinel, .widerDeep], laidTests := true, laidLooks := .later }
def PlaceGuardsCardSaid : Prop := Claim7.holds Tryz.pinned (.plain (OpenSpec.ofChange placeGuardsSpec)) placeGuardsCard

/-- THE TIED CARD OF 'guardraillaw.PlaceRises'. -/
def placeRisesCard : Claim7 := { stood := { row := placeRisesRow, standIns := [], harness := (true, "54df4e755fda72ea050a1667540a369ba258d5a11ed60f90d492c1a53cab23f7"), looks := true }, kinds := [], alts := [], laidByText := true, laidKinds := [.data, .data, .data, .sentinel, .sentinel, .widerDeep], laidTests := true, laidLooks := .later }
def PlaceRisesCardSaid : Prop := Claim7.holds Tryz.pinned (.plain (OpenSpec.ofChange placeRisesSpec)) placeRisesCard

/-- THE TIED CARD OF 'guardraillaw.ElideGuards'. -/
def elideGuardsCard : Claim7 := { stood := { row := elideGuardsRow, standIns := [], harness := (true, "54df4e755fda72ea050a1667540a369ba258d5a11ed60f90d492c1a53cab23f7"), looks := true }, kinds := [], alts := [], laidByText := true, laidKinds := [.data, .data, .data, .sentinel, .sentinel, .widerDeep], laidTests := true, laidLooks := .later }
def ElideGuardsCardSaid : Prop := Claim7.holds Tryz.pinned (.plain (OpenSpec.ofChange elideGuardsSpec)) elideGuardsCard

/-- THE TIED CARD OF 'guardraillaw.ElideFewer'. -/
def elideFewerCard : Claim7 := { stood := { row := elideFewerRow, standIns := [], harness := (true, "54df4e755fda72ea050a1667540a369ba258d5a11ed60f90d492c1a53cab23f7"), looks := true }, kinds := [], alts := [], laidByText := true, laidKinds := [.data, .data, .data, .sentinel, .sentinel, .widerDeep], laidTests := true, laidLooks := .later }
def ElideFewerCardSaid : Prop := Claim7.holds Tryz.pinned (.plain (OpenSpec.ofChange elideFewerSpec)) elideFewerCard

/-- THE TIED CARD OF 'guardraillaw.CheckSteady'. -/
def checkSteadyCard : Claim7 := { stood := { row := checkSteadyRow, standIns := [], harness := (true, "54df4e755fda72ea050a1667540a369ba258d5a11ed60f90d492c1a53cab23f7"), looks := true }, kinds := [], alts := [], laidByText := true, laidKinds := [.data, .data, .data, .sentinel, .sentinel, .widerDeep], laidTests := true, laidLooks := .later }
def CheckSteadyCardSaid : Prop := Claim7.holds Tryz.pinned (.plain (OpenSpec.ofChange checkSteadySpec)) checkSteadyCard

/-- THE SECOND FORM's CARD OF 'guardraillaw.ShowBack'. -/
def showBackUptoCard : Claim7 := { stood := { row := showBackUptoRow, standIns := [], harness := (true, "54df4e755fda72ea050a1667540a369ba258d5a11ed60f90d492c1a53cab23f7"), looks := true }, kinds := [], alts := [], laidByText := true, laidKinds := [.data, .data, .data, .sentinel, .sentinel, .widerDeep], laidTests := true, laidLooks := .later }
def ShowBackUptoCardSaid : Prop := Claim7.holds Tryz.pinned (.plain (OpenSpec.upto showBackSpec)) showBackUptoCard

/-- THE SECOND FORM's CARD OF 'guardraillaw.BindNames'. -/
def bindNamesUptoCard : Claim7 := { stood := { row := bindNamesUptoRow, standIns := [], harness := (true, "54df4e755fda72ea050a1667540a369ba258d5a11ed60f90d492c1a53cab23f7"), looks := true }, kinds := [], alts := [], laidByText := true, laidKinds := [.data, .data, .data, .sentinel, .sentinel, .widerDeep], laidTests := true, laidLooks := .later }
def BindNamesUptoCardSaid : Prop := Claim7.holds Tryz.pinned (.plain (OpenSpec.upto bindNamesSpec)) bindNamesUptoCard

/-- THE SECOND FORM's CARD OF 'guardraillaw.BindCaught'. -/
def bindCaughtUptoCard : Claim7 := { stood := { row := bindCaughtUptoRow, standIns := [], harness := (true, "54df4e755fda72ea050a1667540a369ba258d5a11ed60f90d492c1a53cab23f7"), looks := true }, kinds := [], alts := [], laidByText := true, laidKinds := [.data, .data, .data, .sentinel, .sentinel, .widerDeep], laidTests := true, laidLooks := .later }
def BindCaughtUptoCardSaid : Prop := Claim7.holds Tryz.pinned (.plain (OpenSpec.upto bindCaughtSpec)) bindCaughtUptoCard

/-- THE SECOND FORM's CARD OF 'guardraillaw.CheckTypes'. -/
def checkTypesUptoCard : Claim7 := { stood := { row := checkTypesUptoRow, standIns := [], harness := (true, "54df4e755fda72ea050a1667540a369ba258d5a11ed60f90d492c1a53cab23f7"), looks := true }, kinds := [], alts := [], laidByText := true, laidKinds := [.data, .data, .data, .sentinel, .sentinel, .widerDeep], laidTests := true, laidLooks := .later }
def CheckTypesUptoCardSaid : Prop := Claim7.holds Tryz.pinned (.plain (OpenSpec.upto checkTypesSpec)) checkTypesUptoCard

/-- THE SECOND FORM's CARD OF 'guardraillaw.PlaceGuards'. -/
def placeGuardsUptoCard : Claim7 := { stood := { row := placeGuardsUptoRow, standIns := [], harness := (true, "54df4e755fda72ea050a1667540a369ba258d5a11ed60f90d492c1a53cab23f7"), looks := true }, kinds := [], alts := [], laidByText := true, laidKinds := [.data, .data, .data, .sentinel, .sentinel, .widerDeep], laidTests := true, laidLooks := .later }
def PlaceGuardsUptoCardSaid : Prop := Claim7.holds Tryz.pinned (.plain (OpenSpec.upto placeGuardsSpec)) placeGuardsUptoCard

/-- THE SECOND FORM's CARD OF 'guardraillaw.PlaceRises'. -/
def placeRisesUptoCard : Claim7 := { stood := { row := placeRisesUptoRow, standIns := [], harness := (true, "54df4e755fda72ea050a1667540a369ba258d5a11ed60f90d492c1a53cab23f7"), looks := true }, kinds := [], alts := [], laidByText := true, laidKinds := [.data, .data, .data, .sentinel, .sentinel, .widerDeep], laidTests := true, laidLooks := .later }
def PlaceRisesUptoCardSaid : Prop := Claim7.holds Tryz.pinned (.plain (OpenSpec.upto placeRisesSpec)) placeRisesUptoCard

/-- THE SECOND FORM's CARD OF 'guardraillaw.ElideGuards'. -/
def elideGuardsUptoCard : Claim7 := { stood := { row := elideGuardsUptoRow, standIns := [], harness := (true, "54df4e755fda72ea050a1667540a369ba258d5a11ed60f90d492c1a53cab23f7"), looks := true }, kinds := [], alts := [], laidByText := true, laidKinds := [.data, .data, .data, .sentinel, .sentinel, .widerDeep], laidTests := true, laidLooks := .later }
def ElideGuardsUptoCardSaid : Prop := Claim7.holds Tryz.pinned (.plain (OpenSpec.upto elideGuardsSpec)) elideGuardsUptoCard

/-- THE SECOND FORM's CARD OF 'guardraillaw.ElideFewer'. -/
def elideFewerUptoCard : Claim7 := { stood := { row := elideFewerUptoRow, standIns := [], harness := (true, "54df4e755fda72ea050a1667540a369ba258d5a11ed60f90d492c1a53cab23f7"), looks := true }, kinds := [], alts := [], laidByText := true, laidKinds := [.data, .data, .data, .sentinel, .sentinel, .widerDeep], laidTests := true, laidLooks := .later }
def ElideFewerUptoCardSaid : Prop := Claim7.holds Tryz.pinned (.plain (OpenSpec.upto elideFewerSpec)) elideFewerUptoCard

/-- THE SECOND FORM's CARD OF 'guardraillaw.CheckSteady'. -/
def checkSteadyUptoCard : Claim7 := { stood := { row := checkSteadyUptoRow, standIns := [], harness := (true, "54df4e755fda72ea050a1667540a369ba258d5a11ed60f90d492c1a53cab23f7"), looks := true }, kinds := [], alts := [], laidByText := true, laidKinds := [.data, .data, .data, .sentinel, .sentinel, .widerDeep], laidTests := true, laidLooks := .later }
def CheckSteadyUptoCardSaid : Prop := Claim7.holds Tryz.pinned (.plain (OpenSpec.upto checkSteadySpec)) checkSteadyUptoCard
end Rows
end Go.Proofs.YtdlbhiaceheffabGreatDoor
