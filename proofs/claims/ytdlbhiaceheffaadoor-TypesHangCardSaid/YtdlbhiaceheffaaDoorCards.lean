/-
  DERIVED. GIVEN WITH THE SEED: THE CARDS: each row of YtdlbhiaceheffaaDoorRows.lean that lists a variable, with what it lists TIED to the program's text (the seventh form; the later family's looks); each row that meets fmt, with fmt's text TOLD by the authors' own Lean function (tested against real Go, not proved from fmt's source: count such statements apart). THE CARD IS WHAT COUNTS. Prove the row's statement (the work); the ties are given (YtdlbhiaceheffaaDoorTie.lean); close each card by the builder's one call (the guide's Derived/Test/ToyasCard.lean, 'card_holds'). Laid BY PROGRAM, IN A SANDBOX (cutbox-door.mjs). By AI agents, Wed Nov 11 2026. No macro, syntax, notation, axiom, sorry.
-/
import Derived.Test.YtdlbhiaceheffaaDoorRows
import GoSem.ClaimSeven
namespace Go.Proofs.YtdlbhiaceheffaaDoor
namespace Rows

/-- THE TIED CARD OF 'guardraillaw.TokenScans'. -/
def tokenScansCard : Claim7 := { stood := { row := tokenScansRow, standIns := [], harness := (true, "dff731f5c596b17a05ae133c0e2759801e25049b4aaef5dadbc7fa5c70dfda2d"), looks := true }, kinds := [], alts := [], laidByText := true, laidKinds := [.widerDeep], laidTests := true, laidLooks := .later }
def TokenScansCardSaid : Prop := Claim7.holds Tryd.pinned (.plain (OpenSpec.ofChange tokenScansSpec)) tokenScansCard

/-- THE TIED CARD OF 'guardraillaw.TokenApart'. -/
def tokenApartCard : Claim7 := { stood := { row := tokenApartRow, standIns := [], harness := (true, "dff731f5c596b17a05ae133c0e2759801e25049b4aaef5dadbc7fa5c70dfda2d"), looks := true }, kinds := [], alts := [], laidByText := true, laidKinds := [.widerDeep], laidTests := true, laidLooks := .later }
def TokenApartCardSaid : Prop := Claim7.holds Tryd.pinned (.plain (OpenSpec.ofChange tokenApartSpec)) tokenApartCard

/-- THE TIED CARD OF 'guardraillaw.TypesTag'. -/
def typesTagCard : Claim7 := { stood := { row := typesTagRow, standIns := [], harness := (true, "dff731f5c596b17a05ae133c0e2759801e25049b4aaef5dadbc7fa5c70dfda2d"), looks := true }, kinds := [], alts := [], laidByText := true, laidKinds := [.widerDeep], laidTests := true, laidLooks := .later }
def TypesTagCardSaid : Prop := Claim7.holds Tryd.pinned (.plain (OpenSpec.ofChange typesTagSpec)) typesTagCard

/-- THE TIED CARD OF 'guardraillaw.TypesFit'. -/
def typesFitCard : Claim7 := { stood := { row := typesFitRow, standIns := [], harness := (true, "dff731f5c596b17a05ae133c0e2759801e25049b4aaef5dadbc7fa5c70dfda2d"), looks := true }, kinds := [], alts := [], laidByText := true, laidKinds := [.widerDeep], laidTests := true, laidLooks := .later }
def TypesFitCardSaid : Prop := Claim7.holds Tryd.pinned (.plain (OpenSpec.ofChange typesFitSpec)) typesFitCard

/-- THE TIED CARD OF 'guardraillaw.TypesHang'. -/
def typesHangCard : Claim7 := { stood := { row := typesHangRow, standIns := [], harness := (true, "dff731f5c596b17a05ae133c0e2759801e25049b4aaef5dadbc7fa5c70dfda2d"), looks := true }, kinds := [], alts := [], laidByText := true, laidKinds := [.widerDeep], laidTests := true, laidLooks := .later }
def TypesHangCardSaid : Prop := Claim7.holds Tryd.pinned (.plain (OpenSpec.ofChange typesHangSpec)) typesHangCard

/-- THE SECOND FORM's CARD OF 'guardraillaw.TokenScans'. -/
def tokenScansUptoCard : Claim7 := { stood := { row := tokenScansUptoRow, standIns := [], harness := (true, "dff731f5c596b17a05ae133c0e2759801e25049b4aaef5dadbc7fa5c70dfda2d"), looks := true }, kinds := [], alts := [], laidByText := true, laidKinds := [.widerDeep], laidTests := true, laidLooks := .later }
def TokenScansUptoCardSaid : Prop := Claim7.holds Tryd.pinned (.plain (OpenSpec.upto tokenScansSpec)) tokenScansUptoCard

/-- THE SECOND FORM's CARD OF 'guardraillaw.TokenApart'. -/
def tokenApartUptoCard : Claim7 := { stood := { row := tokenApartUptoRow, standIns := [], harness := (true, "dff731f5c596b17a05ae133c0e2759801e25049b4aaef5dadbc7fa5c70dfda2d"), looks := true }, kinds := [], alts := [], laidByText := true, laidKinds := [.widerDeep], laidTests := true, laidLooks := .later }
def TokenApartUptoCardSaid : Prop := Claim7.holds Tryd.pinned (.plain (OpenSpec.upto tokenApartSpec)) tokenApartUptoCard

/-- THE SECOND FORM's CARD OF 'guardraillaw.TypesTag'. -/
def typesTagUptoCard : Claim7 := { stood := { row := typesTagUptoRow, standIns := [], harness := (true, "dff731f5c596b17a05ae133c0e2759801e25049b4aaef5dadbc7fa5c70dfda2d"), looks := true }, kinds := [], alts := [], laidByText := true, laidKinds := [.widerDeep], laidTests := true, laidLooks := .later }
def TypesTagUptoCardSaid : Prop := Claim7.holds Tryd.pinned (.plain (OpenSpec.upto typesTagSpec)) typesTagUptoCard

/-- THE SECOND FORM's CARD OF 'guardraillaw.TypesFit'. -/
def typesFitUptoCard : Claim7 := { stood := { row := typesFitUptoRow, standIns := [], harness := (true, "dff731f5c596b17a05ae133c0e2759801e25049b4aaef5dadbc7fa5c70dfda2d"), looks := true }, kinds := [], alts := [], laidByText := true, laidKinds := [.widerDeep], laidTests := true, laidLooks := .later }
def TypesFitUptoCardSaid : Prop := Claim7.holds Tryd.pinned (.plain (OpenSpec.upto typesFitSpec)) typesFitUptoCard

/-- THE SECOND FORM's CARD OF 'guardraillaw.TypesHang'. -/
def typesHangUptoCard : Claim7 := { stood := { row := typesHangUptoRow, standIns := [], harness := (true, "dff731f5c596b17a05ae133c0e2759801e25049b4aaef5dadbc7fa5c70dfda2d"), looks := true }, kinds := [], alts := [], laidByText := true, laidKinds := [.widerDeep], laidTests := true, laidLooks := .later }
def TypesHangUptoCardSaid : Prop := Claim7.holds Tryd.pinned (.plain (OpenSpec.upto typesHangSpec)) typesHangUptoCard
end Rows
end Go.Proofs.YtdlbhiaceheffaaDoor
