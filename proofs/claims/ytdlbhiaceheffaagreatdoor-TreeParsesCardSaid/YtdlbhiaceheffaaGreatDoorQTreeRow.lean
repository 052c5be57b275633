/- A world in which six listed variables are laid. -/
import Derived.Test.YtdlbhiaceheffaaGreatDoorQTokRow
namespace Go.Proofs.YtdlbhiaceheffaaGreatDoor
open Go.ChangeShapes Go.WideShapes Go.ChangeAt Go.RowKit Go.Lib

def tab32 : Array Value := (#[0, 1, 28, 2, 29, 14, 24, 3, 30, 22, 20, 15, 25, 17, 4, 8, 31, 27, 13, 23, 21, 19, 16, 7, 26, 12, 18, 6, 11, 5, 10, 9] : Array Int).map fun n => .int .u8 n
def tab64 : Array Value := (#[0, 1, 56, 2, 57, 49, 28, 3, 61, 58, 42, 50, 38, 29, 17, 4, 62, 47, 59, 36, 45, 43, 51, 22, 53, 39, 33, 30, 24, 18, 12, 5, 63, 55, 48, 27, 60, 41, 37, 16, 46, 35, 44, 21, 52, 32, 23, 11, 54, 26, 40, 15, 34, 20, 31, 10, 25, 14, 19, 9, 13, 8, 7, 6] : Array Int).map fun n => .int .u8 n
def pow10s : Array Value := (#[1, 10, 100, 1000, 10000, 100000, 1000000, 10000000, 100000000, 1000000000, 10000000000, 100000000000, 1000000000000, 10000000000000, 100000000000000, 1000000000000000, 10000000000000000, 100000000000000000, 1000000000000000000, 10000000000000000000] : Array Int).map fun n => .int .u64 n
def relay (cs : Array Value) : Obj → Obj
  | .cells _ t frozen => .cells cs t frozen
  | o => o
/-- A world for the witness: the settled one, six variables laid. -/
noncomputable def laidWorld6 (os : Os) : World :=
  let w0 := World.holding Tryz.prog os ⟨#[], #[], []⟩
  let n := w0.heap.size
  { w0 with heap := (((((((((w0.heap.modify 0 (relay #[.slice (some ⟨n, 0, none⟩) 17 17])).modify 3 (relay tab32)).modify 4 (relay tab64)).modify 2 (relay pow10s)).modify 6 (relay #[.iface 203 (.pointer (some ⟨n + 1, 0, none⟩))])).modify 5 (relay #[.iface 203 (.pointer (some ⟨n + 2, 0, none⟩))])).push (.cells (Tok.words.map Value.string).toArray 9)).push (.cells #[.string ⟨#[118, 97, 108, 117, 101, 32, 111, 117, 116, 32, 111, 102, 32, 114, 97, 110, 103, 101]⟩] 205)).push (.cells #[.string ⟨#[105, 110, 118, 97, 108, 105, 100, 32, 115, 121, 110, 116, 97, 120]⟩] 205)) }
theorem laid_met6 (os : Os) (args : Array Value) : laidMet Tryz.prog Rows.treeTypesRow.laid ((laidWorld6 os).forCall (fun _ _ => 0) ⟨#[], args, []⟩).memory :=
  laidMet_of_run' 8 (by kernel_rfl) (by kernel_rfl)
end Go.Proofs.YtdlbhiaceheffaaGreatDoor
