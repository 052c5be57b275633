/- token.Scan at whatever text. -/
import Derived.Test.YtdlbhiaceheffaaDoorTokWalk7
namespace Go.Proofs.YtdlbhiaceheffaaDoor
open Go Go.RowKit

theorem scan_long (s : ByteArray) (h : 4000 < s.size) : Tok.scan s = .error (2, 0) := by unfold Tok.scan; rw [if_pos h]

/-- Scan, whatever text. -/
theorem Scan_any (s : ByteArray) (w : World) (hw : Words w) (hm : s.size ≤ maxLen) {R : Ending → World → Prop}
    (hok : ∀ l v w', Tok.scan s = .ok l → Below w.heap.size w w' → OwnsTk w' (w.heap.size + 1) v l → R (.returned (.tuple #[v, .agg #[.int .i64 0, .int .i64 0]])) w')
    (hbad : ∀ (e p : Nat) w', Tok.scan s = .error (e, p) → Below w.heap.size w w' → R (.returned (.tuple #[.slice none 0 0, .agg #[.int .i64 e, .int .i64 p]])) w') :
    Calls Tryd.prog 8 #[.string s] w R := by
  by_cases hs : s.size ≤ 4000
  · exact Scan_short s w hw hs hok hbad
  · exact Scan_long s w hm (by omega) (fun w' hb => hbad 2 0 w' (scan_long s (by omega)) hb)
theorem Below.at {w w' : World} {B k : Nat} {o : Obj} (h : Below B w w') (hk : k < B) (e : w.heap[k]? = some o) : w'.heap[k]? = some o := (h.block k hk).trans e

end Go.Proofs.YtdlbhiaceheffaaDoor
