/- Walk of the law TokenScans. -/
import Derived.Test.YtdlbhiaceheffabGreatDoorY30
set_option linter.all false
namespace Go.Proofs.YtdlbhiaceheffabGreatDoor
section
open Go Go.RowKit
theorem tK (s : ByteArray) (w : World) (hm : s.size ≤ maxLen) {R : Ending → World → Prop}
   (hok : ∀ l v w', Tok.scan s = .ok l → Below w.heap.size w w' → dG w' (w.heap.size + 1) v l → R (.returned (.tuple #[v, .agg #[.int .i64 0, .int .i64 0]])) w')
   (hbad : ∀ (e p : Nat) w', Tok.scan s = .error (e, p) → Below w.heap.size w w' → R (.returned (.tuple #[.slice none 0 0, .agg #[.int .i64 e, .int .i64 p]])) w') :
   Calls Tryz.prog 85 #[.string s] w R := by
 by_cases hs : s.size ≤ 4000
 · exact oC s w hs hok hbad
 · exact qI s w hm (by omega) (fun w' hb => hbad 2 0 w' (mZ s (by omega)) hb)
end
end Go.Proofs.YtdlbhiaceheffabGreatDoor
