/-
  NARROWER THAN 'FOR EVERY INPUT', by the rows' own cells (each row's printed sentence says how): ShowBack: laid · BindNames: laid · BindCaught: laid · CheckTypes: laid · PlaceGuards: laid · PlaceRises: laid · ElideGuards: laid · ElideFewer: laid · CheckSteady: laid.
  DERIVED. THE GIVEN ROWS OF THIS SEAT. 9 by the template 'for every input the law returns true; each argument reads behind the call as it read before'; 0 by the template 'total and deterministic' (their statements: YtdlbhiaceheffabGreatDoorTotals.lean).
  GIVEN WITH THE SEED: the statements are not yours to turn. If you find one false, say at which input.
  Laid BY PROGRAM, IN A SANDBOX (cutbox-rows.mjs): the forced cells as the released guide's own fill.sh prints them over the translation a8270ffd88a519af… (all of the seat's roots in one cut). By AI agents, Wed Nov 11 2026. No macro, syntax, notation, axiom, sorry.
-/
import Derived.Test.YtdlbhiaceheffabGreatDoorChecked
import GoSem.Claim
import GoSem.ClaimJoined
import GoSem.ClaimMapViews
import Derived.JoinedTies
import Derived.KernelRfl
namespace Go.Proofs.YtdlbhiaceheffabGreatDoor
/- THE CELL 'sum', in the pinned program and in every row, IS THE sha256 OF THE DUMP (.gsa) THAT YtdlbhiaceheffabGreatDoorProg.lean LOADS. Nothing in Lean hashes anything: it is a label: what it is worth is what the hold of that sum in a sandbox is worth. -/
noncomputable def Tryz.pinned : Pinned := { name := "ytdlbhiaceheffabgreatdoor", sum := "a8270ffd88a519af7077d29b6ebb33f286552bc8a68073c579c2042fb15301fd", checked := Tryz.checked }
namespace Rows
def none {H : Type} : Left H := { results := [], args := [] }

/- WHAT THE LISTED PACKAGE-LEVEL VARIABLES READ AS WHEN THE CALL BEGINS. Each datum BY PROGRAM (the guide's laid-datum.mjs) off the statement by which the dump's own 'gosem.cut.vars' lays the variable. In a bare row this is a premise. The card (YtdlbhiaceheffabGreatDoorCards.lean) ties it to the program's text. -/
def laid_math_bits_deBruijn32tab {H : Type} : DataW H := .agg [.lit (.int .u8 0), .lit (.int .u8 1), .lit (.int .u8 28), .lit (.int .u8 2), .lit (.int .u8 29), .lit (.int .u8 14), .lit (.int .u8 24), .lit (.int .u8 3), .lit (.int .u8 30), .lit (.int .u8 22), .lit (.int .u8 20), .lit (.int .u8 15), .lit (.int .u8 25), .lit (.int .u8 17), .lit (.int .u8 4), .lit (.int .u8 8), .lit (.int .u8 31), .lit (.int .u8 27), .lit (.int .u8 13), .lit (.int .u8 23), .lit (.int .u8 21), .lit (.int .u8 19), .lit (.int .u8 16), .lit (.int .u8 7), .lit (.int .u8 26), .lit (.int .u8 12), .lit (.int .u8 18), .lit (.int .u8 6), .lit (.int .u8 11), .lit (.int .u8 5), .lit (.int .u8 10), .lit (.int .u8 9)]
def laid_math_bits_deBruijn64tab {H : Type} : DataW H := .agg [.lit (.int .u8 0), .lit (.int .u8 1), .lit (.int .u8 56), .lit (.int .u8 2), .lit (.int .u8 57), .lit (.int .u8 49), .lit (.int .u8 28), .lit (.int .u8 3), .lit (.int .u8 61), .lit (.int .u8 58), .lit (.int .u8 42), .lit (.int .u8 50), .lit (.int .u8 38), .lit (.int .u8 29), .lit (.int .u8 17), .lit (.int .u8 4), .lit (.int .u8 62), .lit (.int .u8 47), .lit (.int .u8 59), .lit (.int .u8 36), .lit (.int .u8 45), .lit (.int .u8 43), .lit (.int .u8 51), .lit (.int .u8 22), .lit (.int .u8 53), .lit (.int .u8 39), .lit (.int .u8 33), .lit (.int .u8 30), .lit (.int .u8 24), .lit (.int .u8 18), .lit (.int .u8 12), .lit (.int .u8 5), .lit (.int .u8 63), .lit (.int .u8 55), .lit (.int .u8 48), .lit (.int .u8 27), .lit (.int .u8 60), .lit (.int .u8 41), .lit (.int .u8 37), .lit (.int .u8 16), .lit (.int .u8 46), .lit (.int .u8 35), .lit (.int .u8 44), .lit (.int .u8 21), .lit (.int .u8 52), .lit (.int .u8 32), .lit (.int .u8 23), .lit (.int .u8 11), .lit (.int .u8 54), .lit (.int .u8 26), .lit (.int .u8 40), .lit (.int .u8 15), .lit (.int .u8 34), .lit (.int .u8 20), .lit (.int .u8 31), .lit (.int .u8 10), .lit (.int .u8 25), .lit (.int .u8 14), .lit (.int .u8 19), .lit (.int .u8 9), .lit (.int .u8 13), .lit (.int .u8 8), .lit (.int .u8 7), .lit (.int .u8 6)]
def laid_internal_strconv_uint64pow10 {H : Type} : DataW H := .agg [.lit (.int .u64 1), .lit (.int .u64 10), .lit (.int .u64 100), .lit (.int .u64 1000), .lit (.int .u64 10000), .lit (.int .u64 100000), .lit (.int .u64 1000000), .lit (.int .u64 10000000), .lit (.int .u64 100000000), .lit (.int .u64 1000000000), .lit (.int .u64 10000000000), .lit (.int .u64 100000000000), .lit (.int .u64 1000000000000), .lit (.int .u64 10000000000000), .lit (.int .u64 100000000000000), .lit (.int .u64 1000000000000000), .lit (.int .u64 10000000000000000), .lit (.int .u64 100000000000000000), .lit (.int .u64 1000000000000000000), .lit (.int .u64 10000000000000000000)]
def laid_strconv_ErrRange {H : Type} : DataW H := .iface "*errors.errorString" (.ptr (.agg [.lit (.string [118, 97, 108, 117, 101, 32, 111, 117, 116, 32, 111, 102, 32, 114, 97, 110, 103, 101])]))
def laid_strconv_ErrSyntax {H : Type} : DataW H := .iface "*errors.errorString" (.ptr (.agg [.lit (.string [105, 110, 118, 97, 108, 105, 100, 32, 115, 121, 110, 116, 97, 120])]))
def laid_guardrail_token_words {H : Type} : DataW H := .slice [.lit (.string [108, 101, 116]), .lit (.string [102, 110]), .lit (.string [105, 102]), .lit (.string [101, 108, 115, 101]), .lit (.string [119, 104, 105, 108, 101]), .lit (.string [114, 101, 116, 117, 114, 110]), .lit (.string [112, 114, 105, 110, 116]), .lit (.string [116, 114, 117, 101]), .lit (.string [102, 97, 108, 115, 101]), .lit (.string [110, 117, 108, 108]), .lit (.string [97, 115]), .lit (.string [116, 121, 112, 101, 111, 102]), .lit (.string [110, 117, 109]), .lit (.string [98, 111, 111, 108]), .lit (.string [116, 101, 120, 116]), .lit (.string [97, 110, 121]), .lit (.string [117, 110, 107, 110, 111, 119, 110])] []

/-- 'guardraillaw.ShowBack': WHATEVER THE INPUT: true; the input reads as it did. -/
def showBackSpec : ChangeSpec := { name := "showBack", fn := fun _ => fun
  | [d] => { results := [.lit (.bool true)], args := [d] }
  | _ => none }
def showBackRow : OpenClaim := { program := "ytdlbhiaceheffabgreatdoor", sum := "a8270ffd88a519af7077d29b6ebb33f286552bc8a68073c579c2042fb15301fd", func := "guardrail/guardraillaw.ShowBack", spec := "showBack", inPlace := ["internal/bytealg.IndexByteString", "internal/abi.NoEscape", "internal/bytealg.MakeNoZero"], unfollowed := true, recurses := true, named := ["guardrail/token.words", "strconv.ErrSyntax", "strconv.ErrRange", "internal/strconv.uint64pow10", "math/bits.deBruijn32tab", "math/bits.deBruijn64tab"], apart := false, laid := [("math/bits.deBruijn32tab", laid_math_bits_deBruijn32tab), ("math/bits.deBruijn64tab", laid_math_bits_deBruijn64tab), ("internal/strconv.uint64pow10", laid_internal_strconv_uint64pow10), ("strconv.ErrRange", laid_strconv_ErrRange), ("strconv.ErrSyntax", laid_strconv_ErrSyntax), ("guardrail/token.words", laid_guardrail_token_words)] }
def ShowBackSaid : Prop := showBackRow.holds Tryz.pinned (OpenSpec.ofChange showBackSpec)

/-- ITS FALSE NEIGHBOUR: 'it returns false'. Refute it at one input. -/
def showBackWrong : ChangeSpec := { name := "showBack", fn := fun _ => fun
  | [d] => { results := [.lit (.bool false)], args := [d] }
  | _ => none }
def ShowBackWrongFalsely : Prop := showBackRow.holds Tryz.pinned (OpenSpec.ofChange showBackWrong)

/-- 'guardraillaw.BindNames': WHATEVER THE INPUT: true; the input reads as it did. -/
def bindNamesSpec : ChangeSpec := { name := "bindNames", fn := fun _ => fun
  | [d] => { results := [.lit (.bool true)], args := [d] }
  | _ => none }
def bindNamesRow : OpenClaim := { program := "ytdlbhiaceheffabgreatdoor", sum := "a8270ffd88a519af7077d29b6ebb33f286552bc8a68073c579c2042fb15301fd", func := "guardrail/guardraillaw.BindNames", spec := "bindNames", inPlace := ["internal/bytealg.IndexByteString"], unfollowed := true, recurses := true, named := ["guardrail/token.words", "strconv.ErrSyntax", "strconv.ErrRange", "internal/strconv.uint64pow10", "math/bits.deBruijn32tab", "math/bits.deBruijn64tab"], apart := false, laid := [("math/bits.deBruijn32tab", laid_math_bits_deBruijn32tab), ("math/bits.deBruijn64tab", laid_math_bits_deBruijn64tab), ("internal/strconv.uint64pow10", laid_internal_strconv_uint64pow10), ("strconv.ErrRange", laid_strconv_ErrRange), ("strconv.ErrSyntax", laid_strconv_ErrSyntax), ("guardrail/token.words", laid_guardrail_token_words)] }
def BindNamesSaid : Prop := bindNamesRow.holds Tryz.pinned (OpenSpec.ofChange bindNamesSpec)

/-- ITS FALSE NEIGHBOUR: 'it returns false'. Refute it at one input. -/
def bindNamesWrong : ChangeSpec := { name := "bindNames", fn := fun _ => fun
  | [d] => { results := [.lit (.bool false)], args := [d] }
  | _ => none }
def BindNamesWrongFalsely : Prop := bindNamesRow.holds Tryz.pinned (OpenSpec.ofChange bindNamesWrong)

/-- 'guardraillaw.BindCaught': WHATEVER THE INPUT: true; the input reads as it did. -/
def bindCaughtSpec : ChangeSpec := { name := "bindCaught", fn := fun _ => fun
  | [d] => { results := [.lit (.bool true)], args := [d] }
  | _ => none }
def bindCaughtRow : OpenClaim := { program := "ytdlbhiaceheffabgreatdoor", sum := "a8270ffd88a519af7077d29b6ebb33f286552bc8a68073c579c2042fb15301fd", func := "guardrail/guardraillaw.BindCaught", spec := "bindCaught", inPlace := ["internal/bytealg.IndexByteString"], unfollowed := true, recurses := true, named := ["guardrail/token.words", "strconv.ErrSyntax", "strconv.ErrRange", "internal/strconv.uint64pow10", "math/bits.deBruijn32tab", "math/bits.deBruijn64tab"], apart := false, laid := [("math/bits.deBruijn32tab", laid_math_bits_deBruijn32tab), ("math/bits.deBruijn64tab", laid_math_bits_deBruijn64tab), ("internal/strconv.uint64pow10", laid_internal_strconv_uint64pow10), ("strconv.ErrRange", laid_strconv_ErrRange), ("strconv.ErrSyntax", laid_strconv_ErrSyntax), ("guardrail/token.words", laid_guardrail_token_words)] }
def BindCaughtSaid : Prop := bindCaughtRow.holds Tryz.pinned (OpenSpec.ofChange bindCaughtSpec)

/-- ITS FALSE NEIGHBOUR: 'it returns false'. Refute it at one input. -/
def bindCaughtWrong : ChangeSpec := { name := "bindCaught", fn := fun _ => fun
  | [d] => { results := [.lit (.bool false)], args := [d] }
  | _ => none }
def BindCaughtWrongFalsely : Prop := bindCaughtRow.holds Tryz.pinned (OpenSpec.ofChange bindCaughtWrong)

/-- 'guardraillaw.CheckTypes': WHATEVER THE INPUT: true; the input reads as it did. -/
def checkTypesSpec : ChangeSpec := { name := "checkTypes", fn := fun _ => fun
  | [d] => { results := [.lit (.bool true)], args := [d] }
  | _ => none }
def checkTypesRow : OpenClaim := { program := "ytdlbhiaceheffabgreatdoor", sum := "a8270ffd88a519af7077d29b6ebb33f286552bc8a68073c579c2042fb15301fd", func := "guardrail/guardraillaw.CheckTypes", spec := "checkTypes", inPlace := ["internal/bytealg.IndexByteString", "internal/abi.NoEscape", "internal/bytealg.MakeNoZero"], unfollowed := true, recurses := true, named := ["guardrail/token.words", "strconv.ErrSyntax", "strconv.ErrRange", "internal/strconv.uint64pow10", "math/bits.deBruijn32tab", "math/bits.deBruijn64tab"], apart := false, laid := [("math/bits.deBruijn32tab", laid_math_bits_deBruijn32tab), ("math/bits.deBruijn64tab", laid_math_bits_deBruijn64tab), ("internal/strconv.uint64pow10", laid_internal_strconv_uint64pow10), ("strconv.ErrRange", laid_strconv_ErrRange), ("strconv.ErrSyntax", laid_strconv_ErrSyntax), ("guardrail/token.words", laid_guardrail_token_words)] }
def CheckTypesSaid : Prop := checkTypesRow.holds Tryz.pinned (OpenSpec.ofChange checkTypesSpec)

/-- ITS FALSE NEIGHBOUR: 'it returns false'. Refute it at one input. -/
def checkTypesWrong : ChangeSpec := { name := "checkTypes", fn := fun _ => fun
  | [d] => { results := [.lit (.bool false)], args := [d] }
  | _ => none }
def CheckTypesWrongFalsely : Prop := checkTypesRow.holds Tryz.pinned (OpenSpec.ofChange checkTypesWrong)

/-- 'guardraillaw.PlaceGuards': WHATEVER THE INPUT: true; the input reads as it did. -/
def placeGuardsSpec : ChangeSpec := { name := "placeGuards", fn := fun _ => fun
  | [d] => { results := [.lit (.bool true)], args := [d] }
  | _ => none }
def placeGuardsRow : OpenClaim := { program := "ytdlbhiaceheffabgreatdoor", sum := "a8270ffd88a519af7077d29b6ebb33f286552bc8a68073c579c2042fb15301fd", func := "guardrail/guardraillaw.PlaceGuards", spec := "placeGuards", inPlace := ["internal/bytealg.IndexByteString"], unfollowed := true, recurses := true, named := ["guardrail/token.words", "strconv.ErrSyntax", "strconv.ErrRange", "internal/strconv.uint64pow10", "math/bits.deBruijn32tab", "math/bits.deBruijn64tab"], apart := false, laid := [("math/bits.deBruijn32tab", laid_math_bits_deBruijn32tab), ("math/bits.deBruijn64tab", laid_math_bits_deBruijn64tab), ("internal/strconv.uint64pow10", laid_internal_strconv_uint64pow10), ("strconv.ErrRange", laid_strconv_ErrRange), ("strconv.ErrSyntax", laid_strconv_ErrSyntax), ("guardrail/token.words", laid_guardrail_token_words)] }
def PlaceGuardsSaid : Prop := placeGuardsRow.holds Tryz.pinned (OpenSpec.ofChange placeGuardsSpec)

/-- ITS FALSE NEIGHBOUR: 'it returns false'. Refute it at one input. -/
def placeGuardsWrong : ChangeSpec := { name := "placeGuards", fn := fun _ => fun
  | [d] => { results := [.lit (.bool false)], args := [d] }
  | _ => none }
def PlaceGuardsWrongFalsely : Prop := placeGuardsRow.holds Tryz.pinned (OpenSpec.ofChange placeGuardsWrong)

/-- 'guardraillaw.PlaceRises': WHATEVER THE INPUT: true; the input reads as it did. -/
def placeRisesSpec : ChangeSpec := { name := "placeRises", fn := fun _ => fun
  | [d] => { results := [.lit (.bool true)], args := [d] }
  | _ => none }
def placeRisesRow : OpenClaim := { program := "ytdlbhiaceheffabgreatdoor", sum := "a8270ffd88a519af7077d29b6ebb33f286552bc8a68073c579c2042fb15301fd", func := "guardrail/guardraillaw.PlaceRises", spec := "placeRises", inPlace := ["internal/bytealg.IndexByteString", "internal/abi.NoEscape", "internal/bytealg.MakeNoZero"], unfollowed := true, recurses := true, named := ["guardrail/token.words", "strconv.ErrSyntax", "strconv.ErrRange", "internal/strconv.uint64pow10", "math/bits.deBruijn32tab", "math/bits.deBruijn64tab"], apart := false, laid := [("math/bits.deBruijn32tab", laid_math_bits_deBruijn32tab), ("math/bits.deBruijn64tab", laid_math_bits_deBruijn64tab), ("internal/strconv.uint64pow10", laid_internal_strconv_uint64pow10), ("strconv.ErrRange", laid_strconv_ErrRange), ("strconv.ErrSyntax", laid_strconv_ErrSyntax), ("guardrail/token.words", laid_guardrail_token_words)] }
def PlaceRisesSaid : Prop := placeRisesRow.holds Tryz.pinned (OpenSpec.ofChange placeRisesSpec)

/-- ITS FALSE NEIGHBOUR: 'it returns false'. Refute it at one input. -/
def placeRisesWrong : ChangeSpec := { name := "placeRises", fn := fun _ => fun
  | [d] => { results := [.lit (.bool false)], args := [d] }
  | _ => none }
def PlaceRisesWrongFalsely : Prop := placeRisesRow.holds Tryz.pinned (OpenSpec.ofChange placeRisesWrong)

/-- 'guardraillaw.ElideGuards': WHATEVER THE INPUT: true; the input reads as it did. -/
def elideGuardsSpec : ChangeSpec := { name := "elideGuards", fn := fun _ => fun
  | [d] => { results := [.lit (.bool true)], args := [d] }
  | _ => none }
def elideGuardsRow : OpenClaim := { program := "ytdlbhiaceheffabgreatdoor", sum := "a8270ffd88a519af7077d29b6ebb33f286552bc8a68073c579c2042fb15301fd", func := "guardrail/guardraillaw.ElideGuards", spec := "elideGuards", inPlace := ["internal/bytealg.IndexByteString", "maps.clone"], unfollowed := true, recurses := true, named := ["guardrail/token.words", "strconv.ErrSyntax", "strconv.ErrRange", "internal/strconv.uint64pow10", "math/bits.deBruijn32tab", "math/bits.deBruijn64tab"], apart := false, laid := [("math/bits.deBruijn32tab", laid_math_bits_deBruijn32tab), ("math/bits.deBruijn64tab", laid_math_bits_deBruijn64tab), ("internal/strconv.uint64pow10", laid_internal_strconv_uint64pow10), ("strconv.ErrRange", laid_strconv_ErrRange), ("strconv.ErrSyntax", laid_strconv_ErrSyntax), ("guardrail/token.words", laid_guardrail_token_words)] }
def ElideGuardsSaid : Prop := elideGuardsRow.holds Tryz.pinned (OpenSpec.ofChange elideGuardsSpec)

/-- ITS FALSE NEIGHBOUR: 'it returns false'. Refute it at one input. -/
def elideGuardsWrong : ChangeSpec := { name := "elideGuards", fn := fun _ => fun
  | [d] => { results := [.lit (.bool false)], args := [d] }
  | _ => none }
def ElideGuardsWrongFalsely : Prop := elideGuardsRow.holds Tryz.pinned (OpenSpec.ofChange elideGuardsWrong)

/-- 'guardraillaw.ElideFewer': WHATEVER THE INPUT: true; the input reads as it did. -/
def elideFewerSpec : ChangeSpec := { name := "elideFewer", fn := fun _ => fun
  | [d] => { results := [.lit (.bool true)], args := [d] }
  | _ => none }
def elideFewerRow : OpenClaim := { program := "ytdlbhiaceheffabgreatdoor", sum := "a8270ffd88a519af7077d29b6ebb33f286552bc8a68073c579c2042fb15301fd", func := "guardrail/guardraillaw.ElideFewer", spec := "elideFewer", inPlace := ["internal/bytealg.IndexByteString", "maps.clone"], unfollowed := true, recurses := true, named := ["guardrail/token.words", "strconv.ErrSyntax", "strconv.ErrRange", "internal/strconv.uint64pow10", "math/bits.deBruijn32tab", "math/bits.deBruijn64tab"], apart := false, laid := [("math/bits.deBruijn32tab", laid_math_bits_deBruijn32tab), ("math/bits.deBruijn64tab", laid_math_bits_deBruijn64tab), ("internal/strconv.uint64pow10", laid_internal_strconv_uint64pow10), ("strconv.ErrRange", laid_strconv_ErrRange), ("strconv.ErrSyntax", laid_strconv_ErrSyntax), ("guardrail/token.words", laid_guardrail_token_words)] }
def ElideFewerSaid : Prop := elideFewerRow.holds Tryz.pinned (OpenSpec.ofChange elideFewerSpec)

/-- ITS FALSE NEIGHBOUR: 'it returns false'. Refute it at one input. -/
def elideFewerWrong : ChangeSpec := { name := "elideFewer", fn := fun _ => fun
  | [d] => { results := [.lit (.bool false)], args := [d] }
  | _ => none }
def ElideFewerWrongFalsely : Prop := elideFewerRow.holds Tryz.pinned (OpenSpec.ofChange elideFewerWrong)

/-- 'guardraillaw.CheckSteady': WHATEVER THE INPUT: true; the input reads as it did. -/
def checkSteadySpec : ChangeSpec := { name := "checkSteady", fn := fun _ => fun
  | [d] => { results := [.lit (.bool true)], args := [d] }
  | _ => none }
def checkSteadyRow : OpenClaim := { program := "ytdlbhiaceheffabgreatdoor", sum := "a8270ffd88a519af7077d29b6ebb33f286552bc8a68073c579c2042fb15301fd", func := "guardrail/guardraillaw.CheckSteady", spec := "checkSteady", inPlace := ["internal/bytealg.IndexByteString", "internal/abi.NoEscape", "internal/bytealg.MakeNoZero"], unfollowed := true, recurses := true, named := ["guardrail/token.words", "strconv.ErrSyntax", "strconv.ErrRange", "internal/strconv.uint64pow10", "math/bits.deBruijn32tab", "math/bits.deBruijn64tab"], apart := false, laid := [("math/bits.deBruijn32tab", laid_math_bits_deBruijn32tab), ("math/bits.deBruijn64tab", laid_math_bits_deBruijn64tab), ("internal/strconv.uint64pow10", laid_internal_strconv_uint64pow10), ("strconv.ErrRange", laid_strconv_ErrRange), ("strconv.ErrSyntax", laid_strconv_ErrSyntax), ("guardrail/token.words", laid_guardrail_token_words)] }
def CheckSteadySaid : Prop := checkSteadyRow.holds Tryz.pinned (OpenSpec.ofChange checkSteadySpec)

/-- ITS FALSE NEIGHBOUR: 'it returns false'. Refute it at one input. -/
def checkSteadyWrong : ChangeSpec := { name := "checkSteady", fn := fun _ => fun
  | [d] => { results := [.lit (.bool false)], args := [d] }
  | _ => none }
def CheckSteadyWrongFalsely : Prop := checkSteadyRow.holds Tryz.pinned (OpenSpec.ofChange checkSteadyWrong)

/- THE SECOND FORM. 'bulk': how many values and letters a reading holds, each counted each time it is reached (what is shared counts as often as it is met; a slice's spare places count too). A statement '..UptoSaid' is the law's where the arguments, and the package variables that the reading takes, are together of bulk at most 1048576: NARROWER than '..Said'. Prove '..Said' where nothing that the law and all that it calls make is longer than what came in: it says more and counts as full. Else prove '..UptoSaid'. A law counts once. -/
mutual
def uptoBulk {H : Type} : DataW H → Nat
  | .lit (.string bytes) => bytes.length + 1
  | .lit _ => 1
  | .nil => 1
  | .ptr d => uptoBulk d + 1
  | .slice elems spare => uptoBulkAll elems + uptoBulkAll spare + 1
  | .agg parts => uptoBulkAll parts + 1
  | .iface _ d => uptoBulk d + 1
  | .map entries => uptoBulkEntries entries + 1
  | .held _ => 1
def uptoBulkAll {H : Type} : List (DataW H) → Nat
  | [] => 0
  | d :: r => uptoBulk d + uptoBulkAll r
def uptoBulkEntries {H : Type} : List (Lit × DataW H) → Nat
  | [] => 0
  | x :: r => uptoBulkEntry x + uptoBulkEntries r
def uptoBulkEntry {H : Type} : Lit × DataW H → Nat
  | (.string bytes, d) => bytes.length + uptoBulk d + 1
  | (_, d) => uptoBulk d + 1
 end
def uptoSmall : (H : Type) → List (DataW H) → Bool := fun _ ds => decide (uptoBulkAll ds ≤ 1048576)
def OpenSpec.upto (s : _root_.Go.ChangeSpec) : _root_.Go.OpenSpec := { _root_.Go.OpenSpec.ofChange s with cond := some uptoSmall }

/-- 'guardraillaw.ShowBack', WHERE WHAT IT READS IS OF BULK AT MOST 1048576: true; the input reads as it did. -/
def showBackUptoRow : OpenClaim := { program := "ytdlbhiaceheffabgreatdoor", sum := "a8270ffd88a519af7077d29b6ebb33f286552bc8a68073c579c2042fb15301fd", func := "guardrail/guardraillaw.ShowBack", spec := "showBack", inPlace := ["internal/bytealg.IndexByteString", "internal/abi.NoEscape", "internal/bytealg.MakeNoZero"], unfollowed := true, recurses := true, named := ["guardrail/token.words", "strconv.ErrSyntax", "strconv.ErrRange", "internal/strconv.uint64pow10", "math/bits.deBruijn32tab", "math/bits.deBruijn64tab"], apart := false, laid := [("math/bits.deBruijn32tab", laid_math_bits_deBruijn32tab), ("math/bits.deBruijn64tab", laid_math_bits_deBruijn64tab), ("internal/strconv.uint64pow10", laid_internal_strconv_uint64pow10), ("strconv.ErrRange", laid_strconv_ErrRange), ("strconv.ErrSyntax", laid_strconv_ErrSyntax), ("guardrail/token.words", laid_guardrail_token_words)], narrowed := true }
def ShowBackUptoSaid : Prop := showBackUptoRow.holds Tryz.pinned (OpenSpec.upto showBackSpec)

/-- 'guardraillaw.BindNames', WHERE WHAT IT READS IS OF BULK AT MOST 1048576: true; the input reads as it did. -/
def bindNamesUptoRow : OpenClaim := { program := "ytdlbhiaceheffabgreatdoor", sum := "a8270ffd88a519af7077d29b6ebb33f286552bc8a68073c579c2042fb15301fd", func := "guardrail/guardraillaw.BindNames", spec := "bindNames", inPlace := ["internal/bytealg.IndexByteString"], unfollowed := true, recurses := true, named := ["guardrail/token.words", "strconv.ErrSyntax", "strconv.ErrRange", "internal/strconv.uint64pow10", "math/bits.deBruijn32tab", "math/bits.deBruijn64tab"], apart := false, laid := [("math/bits.deBruijn32tab", laid_math_bits_deBruijn32tab), ("math/bits.deBruijn64tab", laid_math_bits_deBruijn64tab), ("internal/strconv.uint64pow10", laid_internal_strconv_uint64pow10), ("strconv.ErrRange", laid_strconv_ErrRange), ("strconv.ErrSyntax", laid_strconv_ErrSyntax), ("guardrail/token.words", laid_guardrail_token_words)], narrowed := true }
def BindNamesUptoSaid : Prop := bindNamesUptoRow.holds Tryz.pinned (OpenSpec.upto bindNamesSpec)

/-- 'guardraillaw.BindCaught', WHERE WHAT IT READS IS OF BULK AT MOST 1048576: true; the input reads as it did. -/
def bindCaughtUptoRow : OpenClaim := { program := "ytdlbhiaceheffabgreatdoor", sum := "a8270ffd88a519af7077d29b6ebb33f286552bc8a68073c579c2042fb15301fd", func := "guardrail/guardraillaw.BindCaught", spec := "bindCaught", inPlace := ["internal/bytealg.IndexByteString"], unfollowed := true, recurses := true, named := ["guardrail/token.words", "strconv.ErrSyntax", "strconv.ErrRange", "internal/strconv.uint64pow10", "math/bits.deBruijn32tab", "math/bits.deBruijn64tab"], apart := false, laid := [("math/bits.deBruijn32tab", laid_math_bits_deBruijn32tab), ("math/bits.deBruijn64tab", laid_math_bits_deBruijn64tab), ("internal/strconv.uint64pow10", laid_internal_strconv_uint64pow10), ("strconv.ErrRange", laid_strconv_ErrRange), ("strconv.ErrSyntax", laid_strconv_ErrSyntax), ("guardrail/token.words", laid_guardrail_token_words)], narrowed := true }
def BindCaughtUptoSaid : Prop := bindCaughtUptoRow.holds Tryz.pinned (OpenSpec.upto bindCaughtSpec)

/-- 'guardraillaw.CheckTypes', WHERE WHAT IT READS IS OF BULK AT MOST 1048576: true; the input reads as it did. -/
def checkTypesUptoRow : OpenClaim := { program := "ytdlbhiaceheffabgreatdoor", sum := "a8270ffd88a519af7077d29b6ebb33f286552bc8a68073c579c2042fb15301fd", func := "guardrail/guardraillaw.CheckTypes", spec := "checkTypes", inPlace := ["internal/bytealg.IndexByteString", "internal/abi.NoEscape", "internal/bytealg.MakeNoZero"], unfollowed := true, recurses := true, named := ["guardrail/token.words", "strconv.ErrSyntax", "strconv.ErrRange", "internal/strconv.uint64pow10", "math/bits.deBruijn32tab", "math/bits.deBruijn64tab"], apart := false, laid := [("math/bits.deBruijn32tab", laid_math_bits_deBruijn32tab), ("math/bits.deBruijn64tab", laid_math_bits_deBruijn64tab), ("internal/strconv.uint64pow10", laid_internal_strconv_uint64pow10), ("strconv.ErrRange", laid_strconv_ErrRange), ("strconv.ErrSyntax", laid_strconv_ErrSyntax), ("guardrail/token.words", laid_guardrail_token_words)], narrowed := true }
def CheckTypesUptoSaid : Prop := checkTypesUptoRow.holds Tryz.pinned (OpenSpec.upto checkTypesSpec)

/-- 'guardraillaw.PlaceGuards', WHERE WHAT IT READS IS OF BULK AT MOST 1048576: true; the input reads as it did. -/
def placeGuardsUptoRow : OpenClaim := { program := "ytdlbhiaceheffabgreatdoor", sum := "a8270ffd88a519af7077d29b6ebb33f286552bc8a68073c579c2042fb15301fd", func := "guardrail/guardraillaw.PlaceGuards", spec := "placeGuards", inPlace := ["internal/bytealg.IndexByteString"], unfollowed := true, recurses := true, named := ["guardrail/token.words", "strconv.ErrSyntax", "strconv.ErrRange", "internal/strconv.uint64pow10", "math/bits.deBruijn32tab", "math/bits.deBruijn64tab"], apart := false, laid := [("math/bits.deBruijn32tab", laid_math_bits_deBruijn32tab), ("math/bits.deBruijn64tab", laid_math_bits_deBruijn64tab), ("internal/strconv.uint64pow10", laid_internal_strconv_uint64pow10), ("strconv.ErrRange", laid_strconv_ErrRange), ("strconv.ErrSyntax", laid_strconv_ErrSyntax), ("guardrail/token.words", laid_guardrail_token_words)], narrowed := true }
def PlaceGuardsUptoSaid : Prop := placeGuardsUptoRow.holds Tryz.pinned (OpenSpec.upto placeGuardsSpec)

/-- 'guardraillaw.PlaceRises', WHERE WHAT IT READS IS OF BULK AT MOST 1048576: true; the input reads as it did. -/
def placeRisesUptoRow : OpenClaim := { program := "ytdlbhiaceheffabgreatdoor", sum := "a8270ffd88a519af7077d29b6ebb33f286552bc8a68073c579c2042fb15301fd", func := "guardrail/guardraillaw.PlaceRises", spec := "placeRises", inPlace := ["internal/bytealg.IndexByteString", "internal/abi.NoEscape", "internal/bytealg.MakeNoZero"], unfollowed := true, recurses := true, named := ["guardrail/token.words", "strconv.ErrSyntax", "strconv.ErrRange", "internal/strconv.uint64pow10", "math/bits.deBruijn32tab", "math/bits.deBruijn64tab"], apart := false, laid := [("math/bits.deBruijn32tab", laid_math_bits_deBruijn32tab), ("math/bits.deBruijn64tab", laid_math_bits_deBruijn64tab), ("internal/strconv.uint64pow10", laid_internal_strconv_uint64pow10), ("strconv.ErrRange", laid_strconv_ErrRange), ("strconv.ErrSyntax", laid_strconv_ErrSyntax), ("guardrail/token.words", laid_guardrail_token_words)], narrowed := true }
def PlaceRisesUptoSaid : Prop := placeRisesUptoRow.holds Tryz.pinned (OpenSpec.upto placeRisesSpec)

/-- 'guardraillaw.ElideGuards', WHERE WHAT IT READS IS OF BULK AT MOST 1048576: true; the input reads as it did. -/
def elideGuardsUptoRow : OpenClaim := { program := "ytdlbhiaceheffabgreatdoor", sum := "a8270ffd88a519af7077d29b6ebb33f286552bc8a68073c579c2042fb15301fd", func := "guardrail/guardraillaw.ElideGuards", spec := "elideGuards", inPlace := ["internal/bytealg.IndexByteString", "maps.clone"], unfollowed := true, recurses := true, named := ["guardrail/token.words", "strconv.ErrSyntax", "strconv.ErrRange", "internal/strconv.uint64pow10", "math/bits.deBruijn32tab", "math/bits.deBruijn64tab"], apart := false, laid := [("math/bits.deBruijn32tab", laid_math_bits_deBruijn32tab), ("math/bits.deBruijn64tab", laid_math_bits_deBruijn64tab), ("internal/strconv.uint64pow10", laid_internal_strconv_uint64pow10), ("strconv.ErrRange", laid_strconv_ErrRange), ("strconv.ErrSyntax", laid_strconv_ErrSyntax), ("guardrail/token.words", laid_guardrail_token_words)], narrowed := true }
def ElideGuardsUptoSaid : Prop := elideGuardsUptoRow.holds Tryz.pinned (OpenSpec.upto elideGuardsSpec)

/-- 'guardraillaw.ElideFewer', WHERE WHAT IT READS IS OF BULK AT MOST 1048576: true; the input reads as it did. -/
def elideFewerUptoRow : OpenClaim := { program := "ytdlbhiaceheffabgreatdoor", sum := "a8270ffd88a519af7077d29b6ebb33f286552bc8a68073c579c2042fb15301fd", func := "guardrail/guardraillaw.ElideFewer", spec := "elideFewer", inPlace := ["internal/bytealg.IndexByteString", "maps.clone"], unfollowed := true, recurses := true, named := ["guardrail/token.words", "strconv.ErrSyntax", "strconv.ErrRange", "internal/strconv.uint64pow10", "math/bits.deBruijn32tab", "math/bits.deBruijn64tab"], apart := false, laid := [("math/bits.deBruijn32tab", laid_math_bits_deBruijn32tab), ("math/bits.deBruijn64tab", laid_math_bits_deBruijn64tab), ("internal/strconv.uint64pow10", laid_internal_strconv_uint64pow10), ("strconv.ErrRange", laid_strconv_ErrRange), ("strconv.ErrSyntax", laid_strconv_ErrSyntax), ("guardrail/token.words", laid_guardrail_token_words)], narrowed := true }
def ElideFewerUptoSaid : Prop := elideFewerUptoRow.holds Tryz.pinned (OpenSpec.upto elideFewerSpec)

/-- 'guardraillaw.CheckSteady', WHERE WHAT IT READS IS OF BULK AT MOST 1048576: true; the input reads as it did. -/
def checkSteadyUptoRow : OpenClaim := { program := "ytdlbhiaceheffabgreatdoor", sum := "a8270ffd88a519af7077d29b6ebb33f286552bc8a68073c579c2042fb15301fd", func := "guardrail/guardraillaw.CheckSteady", spec := "checkSteady", inPlace := ["internal/bytealg.IndexByteString", "internal/abi.NoEscape", "internal/bytealg.MakeNoZero"], unfollowed := true, recurses := true, named := ["guardrail/token.words", "strconv.ErrSyntax", "strconv.ErrRange", "internal/strconv.uint64pow10", "math/bits.deBruijn32tab", "math/bits.deBruijn64tab"], apart := false, laid := [("math/bits.deBruijn32tab", laid_math_bits_deBruijn32tab), ("math/bits.deBruijn64tab", laid_math_bits_deBruijn64tab), ("internal/strconv.uint64pow10", laid_internal_strconv_uint64pow10), ("strconv.ErrRange", laid_strconv_ErrRange), ("strconv.ErrSyntax", laid_strconv_ErrSyntax), ("guardrail/token.words", laid_guardrail_token_words)], narrowed := true }
def CheckSteadyUptoSaid : Prop := checkSteadyUptoRow.holds Tryz.pinned (OpenSpec.upto checkSteadySpec)

end Rows
end Go.Proofs.YtdlbhiaceheffabGreatDoor
