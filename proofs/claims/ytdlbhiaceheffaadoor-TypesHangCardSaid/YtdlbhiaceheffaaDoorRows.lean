/-
  NARROWER THAN 'FOR EVERY INPUT', by the rows' own cells (each row's printed sentence says how): TokenScans: laid · TokenApart: laid · TypesTag: laid · TypesFit: laid · TypesHang: laid.
  DERIVED. THE GIVEN ROWS OF THIS SEAT. 5 by the template 'for every input the law returns true; each argument reads behind the call as it read before'; 0 by the template 'total and deterministic' (their statements: YtdlbhiaceheffaaDoorTotals.lean).
  GIVEN WITH THE SEED: the statements are not yours to turn. If you find one false, say at which input.
  Laid BY PROGRAM, IN A SANDBOX (cutbox-rows.mjs): the forced cells as the released guide's own fill.sh prints them over the translation 6e4813a41e71954b… (all of the seat's roots in one cut). By AI agents, Wed Nov 11 2026. No macro, syntax, notation, axiom, sorry.
-/
import Derived.Test.YtdlbhiaceheffaaDoorChecked
import GoSem.Claim
import GoSem.ClaimJoined
import GoSem.ClaimMapViews
import Derived.JoinedTies
import Derived.KernelRfl
namespace Go.Proofs.YtdlbhiaceheffaaDoor
/- THE CELL 'sum', in the pinned program and in every row, IS THE sha256 OF THE DUMP (.gsa) THAT YtdlbhiaceheffaaDoorProg.lean LOADS. Nothing in Lean hashes anything: it is a label: what it is worth is what the hold of that sum in a sandbox is worth. -/
noncomputable def Tryd.pinned : Pinned := { name := "ytdlbhiaceheffaadoor", sum := "6e4813a41e71954bf947a4f4c8ab6ce075c5456e9411442ec45e07bd70760919", checked := Tryd.checked }
namespace Rows
def none {H : Type} : Left H := { results := [], args := [] }

/- WHAT THE LISTED PACKAGE-LEVEL VARIABLES READ AS WHEN THE CALL BEGINS. Each datum BY PROGRAM (the guide's laid-datum.mjs) off the statement by which the dump's own 'gosem.cut.vars' lays the variable. In a bare row this is a premise. The card (YtdlbhiaceheffaaDoorCards.lean) ties it to the program's text. -/
def laid_guardrail_token_words {H : Type} : DataW H := .slice [.lit (.string [108, 101, 116]), .lit (.string [102, 110]), .lit (.string [105, 102]), .lit (.string [101, 108, 115, 101]), .lit (.string [119, 104, 105, 108, 101]), .lit (.string [114, 101, 116, 117, 114, 110]), .lit (.string [112, 114, 105, 110, 116]), .lit (.string [116, 114, 117, 101]), .lit (.string [102, 97, 108, 115, 101]), .lit (.string [110, 117, 108, 108]), .lit (.string [97, 115]), .lit (.string [116, 121, 112, 101, 111, 102]), .lit (.string [110, 117, 109]), .lit (.string [98, 111, 111, 108]), .lit (.string [116, 101, 120, 116]), .lit (.string [97, 110, 121]), .lit (.string [117, 110, 107, 110, 111, 119, 110])] []

/-- 'guardraillaw.TokenScans': WHATEVER THE INPUT: true; the input reads as it did. -/
def tokenScansSpec : ChangeSpec := { name := "tokenScans", fn := fun _ => fun
  | [d] => { results := [.lit (.bool true)], args := [d] }
  | _ => none }
def tokenScansRow : OpenClaim := { program := "ytdlbhiaceheffaadoor", sum := "6e4813a41e71954bf947a4f4c8ab6ce075c5456e9411442ec45e07bd70760919", func := "guardrail/guardraillaw.TokenScans", spec := "tokenScans", inPlace := ["internal/bytealg.IndexByteString"], unfollowed := true, recurses := true, named := ["guardrail/token.words"], apart := false, laid := [("guardrail/token.words", laid_guardrail_token_words)] }
def TokenScansSaid : Prop := tokenScansRow.holds Tryd.pinned (OpenSpec.ofChange tokenScansSpec)

/-- ITS FALSE NEIGHBOUR: 'it returns false'. Refute it at one input. -/
def tokenScansWrong : ChangeSpec := { name := "tokenScans", fn := fun _ => fun
  | [d] => { results := [.lit (.bool false)], args := [d] }
  | _ => none }
def TokenScansWrongFalsely : Prop := tokenScansRow.holds Tryd.pinned (OpenSpec.ofChange tokenScansWrong)

/-- 'guardraillaw.TokenApart': WHATEVER THE INPUT: true; the input reads as it did. -/
def tokenApartSpec : ChangeSpec := { name := "tokenApart", fn := fun _ => fun
  | [d] => { results := [.lit (.bool true)], args := [d] }
  | _ => none }
def tokenApartRow : OpenClaim := { program := "ytdlbhiaceheffaadoor", sum := "6e4813a41e71954bf947a4f4c8ab6ce075c5456e9411442ec45e07bd70760919", func := "guardrail/guardraillaw.TokenApart", spec := "tokenApart", inPlace := ["internal/bytealg.IndexByteString"], unfollowed := true, recurses := true, named := ["guardrail/token.words"], apart := false, laid := [("guardrail/token.words", laid_guardrail_token_words)] }
def TokenApartSaid : Prop := tokenApartRow.holds Tryd.pinned (OpenSpec.ofChange tokenApartSpec)

/-- ITS FALSE NEIGHBOUR: 'it returns false'. Refute it at one input. -/
def tokenApartWrong : ChangeSpec := { name := "tokenApart", fn := fun _ => fun
  | [d] => { results := [.lit (.bool false)], args := [d] }
  | _ => none }
def TokenApartWrongFalsely : Prop := tokenApartRow.holds Tryd.pinned (OpenSpec.ofChange tokenApartWrong)

/-- 'guardraillaw.TypesTag': WHATEVER THE INPUT: true; the input reads as it did. -/
def typesTagSpec : ChangeSpec := { name := "typesTag", fn := fun _ => fun
  | [d] => { results := [.lit (.bool true)], args := [d] }
  | _ => none }
def typesTagRow : OpenClaim := { program := "ytdlbhiaceheffaadoor", sum := "6e4813a41e71954bf947a4f4c8ab6ce075c5456e9411442ec45e07bd70760919", func := "guardrail/guardraillaw.TypesTag", spec := "typesTag", inPlace := ["internal/bytealg.IndexByteString"], unfollowed := true, recurses := true, named := ["guardrail/token.words"], apart := false, laid := [("guardrail/token.words", laid_guardrail_token_words)] }
def TypesTagSaid : Prop := typesTagRow.holds Tryd.pinned (OpenSpec.ofChange typesTagSpec)

/-- ITS FALSE NEIGHBOUR: 'it returns false'. Refute it at one input. -/
def typesTagWrong : ChangeSpec := { name := "typesTag", fn := fun _ => fun
  | [d] => { results := [.lit (.bool false)], args := [d] }
  | _ => none }
def TypesTagWrongFalsely : Prop := typesTagRow.holds Tryd.pinned (OpenSpec.ofChange typesTagWrong)

/-- 'guardraillaw.TypesFit': WHATEVER THE INPUT: true; the input reads as it did. -/
def typesFitSpec : ChangeSpec := { name := "typesFit", fn := fun _ => fun
  | [d1, d2] => { results := [.lit (.bool true)], args := [d1, d2] }
  | _ => none }
def typesFitRow : OpenClaim := { program := "ytdlbhiaceheffaadoor", sum := "6e4813a41e71954bf947a4f4c8ab6ce075c5456e9411442ec45e07bd70760919", func := "guardrail/guardraillaw.TypesFit", spec := "typesFit", inPlace := ["internal/bytealg.IndexByteString"], unfollowed := true, recurses := true, named := ["guardrail/token.words"], apart := false, laid := [("guardrail/token.words", laid_guardrail_token_words)] }
def TypesFitSaid : Prop := typesFitRow.holds Tryd.pinned (OpenSpec.ofChange typesFitSpec)

/-- ITS FALSE NEIGHBOUR: 'it returns false'. Refute it at one input. -/
def typesFitWrong : ChangeSpec := { name := "typesFit", fn := fun _ => fun
  | [d1, d2] => { results := [.lit (.bool false)], args := [d1, d2] }
  | _ => none }
def TypesFitWrongFalsely : Prop := typesFitRow.holds Tryd.pinned (OpenSpec.ofChange typesFitWrong)

/-- 'guardraillaw.TypesHang': WHATEVER THE INPUT: true; the input reads as it did. -/
def typesHangSpec : ChangeSpec := { name := "typesHang", fn := fun _ => fun
  | [d1, d2] => { results := [.lit (.bool true)], args := [d1, d2] }
  | _ => none }
def typesHangRow : OpenClaim := { program := "ytdlbhiaceheffaadoor", sum := "6e4813a41e71954bf947a4f4c8ab6ce075c5456e9411442ec45e07bd70760919", func := "guardrail/guardraillaw.TypesHang", spec := "typesHang", inPlace := ["internal/bytealg.IndexByteString", "internal/abi.NoEscape", "internal/bytealg.MakeNoZero"], unfollowed := true, recurses := true, named := ["guardrail/token.words"], apart := false, laid := [("guardrail/token.words", laid_guardrail_token_words)] }
def TypesHangSaid : Prop := typesHangRow.holds Tryd.pinned (OpenSpec.ofChange typesHangSpec)

/-- ITS FALSE NEIGHBOUR: 'it returns false'. Refute it at one input. -/
def typesHangWrong : ChangeSpec := { name := "typesHang", fn := fun _ => fun
  | [d1, d2] => { results := [.lit (.bool false)], args := [d1, d2] }
  | _ => none }
def TypesHangWrongFalsely : Prop := typesHangRow.holds Tryd.pinned (OpenSpec.ofChange typesHangWrong)

/- THE SECOND FORM. 'bulk': how many values and letters a reading holds, each counted each time it is reached (what is shared counts as often as it is met; a slice's spare places count too). A statement '..UptoSaid' is the law's where the arguments, and the package variables that the reading takes, are together of bulk at most 1048576: NARROWER than '..Said'. Prove '..Said' where nothing that the law and all that it calls make is longer than what came in: it says more and counts as full. Else prove '..UptoSaid'. A law counts once. -/
mutual
def uptoBulk {H : Type} : DataW H → Nat
  | .lit (.string bytes) => bytes.length + 1
  | .lit _ => 1
  | .nil => 1
  | .ptr d => uptoBulk d + 1
  | .slice elems spare => uptoBulkAll elems + uptoBulkAll spare + 1
  | .agg parts => uptoBulkAll parts + 1
  | .iface _ d => uptoBulk d + 1
  | .map entries => uptoBulkEntries entries + 1
  | .held _ => 1
def uptoBulkAll {H : Type} : List (DataW H) → Nat
  | [] => 0
  | d :: r => uptoBulk d + uptoBulkAll r
def uptoBulkEntries {H : Type} : List (Lit × DataW H) → Nat
  | [] => 0
  | x :: r => uptoBulkEntry x + uptoBulkEntries r
def uptoBulkEntry {H : Type} : Lit × DataW H → Nat
  | (.string bytes, d) => bytes.length + uptoBulk d + 1
  | (_, d) => uptoBulk d + 1
 end
def uptoSmall : (H : Type) → List (DataW H) → Bool := fun _ ds => decide (uptoBulkAll ds ≤ 1048576)
def OpenSpec.upto (s : _root_.Go.ChangeSpec) : _root_.Go.OpenSpec := { _root_.Go.OpenSpec.ofChange s with cond := some uptoSmall }

/-- 'guardraillaw.TokenScans', WHERE WHAT IT READS IS OF BULK AT MOST 1048576: true; the input reads as it did. -/
def tokenScansUptoRow : OpenClaim := { program := "ytdlbhiaceheffaadoor", sum := "6e4813a41e71954bf947a4f4c8ab6ce075c5456e9411442ec45e07bd70760919", func := "guardrail/guardraillaw.TokenScans", spec := "tokenScans", inPlace := ["internal/bytealg.IndexByteString"], unfollowed := true, recurses := true, named := ["guardrail/token.words"], apart := false, laid := [("guardrail/token.words", laid_guardrail_token_words)], narrowed := true }
def TokenScansUptoSaid : Prop := tokenScansUptoRow.holds Tryd.pinned (OpenSpec.upto tokenScansSpec)

/-- 'guardraillaw.TokenApart', WHERE WHAT IT READS IS OF BULK AT MOST 1048576: true; the input reads as it did. -/
def tokenApartUptoRow : OpenClaim := { program := "ytdlbhiaceheffaadoor", sum := "6e4813a41e71954bf947a4f4c8ab6ce075c5456e9411442ec45e07bd70760919", func := "guardrail/guardraillaw.TokenApart", spec := "tokenApart", inPlace := ["internal/bytealg.IndexByteString"], unfollowed := true, recurses := true, named := ["guardrail/token.words"], apart := false, laid := [("guardrail/token.words", laid_guardrail_token_words)], narrowed := true }
def TokenApartUptoSaid : Prop := tokenApartUptoRow.holds Tryd.pinned (OpenSpec.upto tokenApartSpec)

/-- 'guardraillaw.TypesTag', WHERE WHAT IT READS IS OF BULK AT MOST 1048576: true; the input reads as it did. -/
def typesTagUptoRow : OpenClaim := { program := "ytdlbhiaceheffaadoor", sum := "6e4813a41e71954bf947a4f4c8ab6ce075c5456e9411442ec45e07bd70760919", func := "guardrail/guardraillaw.TypesTag", spec := "typesTag", inPlace := ["internal/bytealg.IndexByteString"], unfollowed := true, recurses := true, named := ["guardrail/token.words"], apart := false, laid := [("guardrail/token.words", laid_guardrail_token_words)], narrowed := true }
def TypesTagUptoSaid : Prop := typesTagUptoRow.holds Tryd.pinned (OpenSpec.upto typesTagSpec)

/-- 'guardraillaw.TypesFit', WHERE WHAT IT READS IS OF BULK AT MOST 1048576: true; the input reads as it did. -/
def typesFitUptoRow : OpenClaim := { program := "ytdlbhiaceheffaadoor", sum := "6e4813a41e71954bf947a4f4c8ab6ce075c5456e9411442ec45e07bd70760919", func := "guardrail/guardraillaw.TypesFit", spec := "typesFit", inPlace := ["internal/bytealg.IndexByteString"], unfollowed := true, recurses := true, named := ["guardrail/token.words"], apart := false, laid := [("guardrail/token.words", laid_guardrail_token_words)], narrowed := true }
def TypesFitUptoSaid : Prop := typesFitUptoRow.holds Tryd.pinned (OpenSpec.upto typesFitSpec)

/-- 'guardraillaw.TypesHang', WHERE WHAT IT READS IS OF BULK AT MOST 1048576: true; the input reads as it did. -/
def typesHangUptoRow : OpenClaim := { program := "ytdlbhiaceheffaadoor", sum := "6e4813a41e71954bf947a4f4c8ab6ce075c5456e9411442ec45e07bd70760919", func := "guardrail/guardraillaw.TypesHang", spec := "typesHang", inPlace := ["internal/bytealg.IndexByteString", "internal/abi.NoEscape", "internal/bytealg.MakeNoZero"], unfollowed := true, recurses := true, named := ["guardrail/token.words"], apart := false, laid := [("guardrail/token.words", laid_guardrail_token_words)], narrowed := true }
def TypesHangUptoSaid : Prop := typesHangUptoRow.holds Tryd.pinned (OpenSpec.upto typesHangSpec)

end Rows
end Go.Proofs.YtdlbhiaceheffaaDoor
