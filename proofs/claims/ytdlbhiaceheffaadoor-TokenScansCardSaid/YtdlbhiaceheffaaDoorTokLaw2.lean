/- Walk of the law TokenScans. -/
import Derived.Test.YtdlbhiaceheffaaDoorTokLaw1
import Derived.Test.YtdlbhiaceheffaaDoorRefTok2
import Derived.Test.YtdlbhiaceheffaaDoorTokPlain2
namespace Go.Proofs.YtdlbhiaceheffaaDoor
open Go Go.RowKit

theorem scan_long (s : ByteArray) (h : 4000 < s.size) : Tok.scan s = .error (2, 0) := by unfold Tok.scan; rw [if_pos h]

/-- Scan, whatever text. -/
theorem Scan_any (s : ByteArray) (w : World) (hw : Words w) (hm : s.size ≤ maxLen) {R : Ending → World → Prop}
    (hok : ∀ l v w', Tok.scan s = .ok l → Below w.heap.size w w' → OwnsTk w' (w.heap.size + 1) v l → R (.returned (.tuple #[v, .agg #[.int .i64 0, .int .i64 0]])) w')
    (hbad : ∀ (e p : Nat) w', Tok.scan s = .error (e, p) → Below w.heap.size w w' → R (.returned (.tuple #[.slice none 0 0, .agg #[.int .i64 e, .int .i64 p]])) w') :
    Calls Tryd.prog 8 #[.string s] w R := by
  by_cases hs : s.size ≤ 4000
  · exact Scan_short s w hw hs hok hbad
  · exact Scan_long s w hm (by omega) (fun w' hb => hbad 2 0 w' (scan_long s (by omega)) hb)
theorem Tokens_any (s : ByteArray) (w : World) (hm : s.size ≤ maxLen) {R : Ending → World → Prop}
    (hok : ∀ l v w', Tok.scan s = .ok l → Below w.heap.size w w' → OwnsTk w' (w.heap.size + 1) v l → R (.returned (.tuple #[v, .agg #[.int .i64 0, .int .i64 0]])) w')
    (hbad : ∀ (e p : Nat) w', Tok.scan s = .error (e, p) → Below w.heap.size w w' → R (.returned (.tuple #[.slice none 0 0, .agg #[.int .i64 e, .int .i64 p]])) w') :
    Calls Tryd.prog 9 #[.string s] w R := by
  by_cases hs : s.size ≤ 4000
  · exact Tokens_short s w hs hok hbad
  · exact Tokens_long s w hm (by omega) (fun w' hb => hbad 2 0 w' (scan_long s (by omega)) hb)

theorem Below.at {w w' : World} {B k : Nat} {o : Obj} (h : Below B w w') (hk : k < B) (e : w.heap[k]? = some o) : w'.heap[k]? = some o := (h.block k hk).trans e

theorem SameTokens_nil (w : World) {R : Ending → World → Prop} (hR : R (.returned (.bool true)) w) :
    Calls Tryd.prog 11 #[.slice none 0 0, .slice none 0 0] w R := by
  have HR := Lib.hid hR
  clear hR
  go_enter Tryd.func11, Tryd.ntmps11
  go_wp2_with fail
  refine wp_loop_rounds 1 ?_
  rw [rounds_succ]
  go_wp2_with fail
  exact HR.out

theorem TokenScans_walk (s : ByteArray) (w : World) (hw : Words w) (hm : s.size ≤ maxLen) {R : Ending → World → Prop} (hR : ∀ w', Below w.heap.size w w' → R (.returned (.bool true)) w') :
    Calls Tryd.prog 3 #[.string s] w R := by
  have HR := Lib.hid hR
  have HW := Lib.hid hw
  have HM := Lib.hid hm
  clear hR hw hm
  go_enter Tryd.func3, Tryd.ntmps3
  go_wp2_with fail
  refine Scan_any s w HW.out HM.out (fun l v w1 he hb hown => ?_) (fun e p w1 he hb => ?_)
  · have HE := Lib.hid he
    have HB := Lib.hid hb
    have HOWN := Lib.hid hown
    have hz := hb.size
    clear he hb hown
    go_wp2_with fail
    refine Tokens_any s _ HM.out (fun l2 v2 w2 he2 hb2 hown2 => ?_) (fun e p w2 he2 hb2 => ?_)
    · obtain rfl : l = l2 := Except.ok.inj (HE.out.symm.trans he2)
      have HOWN2 := Lib.hid hown2
      have HB2 := Lib.hid hb2
      have hz2 := hb2.size
      simp at hz2
      clear he2 hb2 hown2
      have hb02 : Below w.heap.size w w2 := (HB.out.trans ((Below.refl _ _).alloc hz _)).trans (HB2.out.mono (by simp; omega))
      have HB02 := Lib.hid hb02
      clear hb02
      go_wp2_with fail
      refine tokenBegun_any _ (HW.out.below (HB02.out.alloc (by omega) _)) (fun w3 hb3 => ?_)
      have hz3 := hb3.size
      simp at hz3
      have g1 : w3.heap[w1.heap.size]? = some (.cells #[.int .i64 0, .int .i64 0] 25 (0, 0)) :=
        Below.at hb3 (by simp; omega) (by rw [heap_alloc_old _ _ (by omega)]; exact Below.at HB2.out (by simp) (heap_alloc_new _ _))
      have g2 : w3.heap[w2.heap.size]? = some (.cells #[.int .i64 0, .int .i64 0] 25 (0, 0)) :=
        Below.at hb3 (by simp) (heap_alloc_new _ _)
      have c1 : w3.cell? ⟨w1.heap.size, 0, none⟩ = some (.int .i64 0) := by rw [cell_of_block g1]; rfl
      have c2 : w3.cell? ⟨w1.heap.size, 1, none⟩ = some (.int .i64 0) := by rw [cell_of_block g1]; rfl
      have c3 : w3.cell? ⟨w2.heap.size, 0, none⟩ = some (.int .i64 0) := by rw [cell_of_block g2]; rfl
      have c4 : w3.cell? ⟨w2.heap.size, 1, none⟩ = some (.int .i64 0) := by rw [cell_of_block g2]; rfl
      have o1 : OwnsTk w3 (w.heap.size + 1) v l := owns_below (((owns_below (HOWN.out.alloc _) HB2.out).alloc _)) hb3
      have o2 : OwnsTk w3 _ v2 l := owns_below ((HOWN2.out).alloc _) hb3
      have O1 := Lib.hid o1
      have O2 := Lib.hid o2
      have HB3 := Lib.hid (HB02.out.trans (((Below.refl _ _).alloc (by omega) _).trans (hb3.mono (by simp; omega))))
      clear o1 o2 g1 g2 hb3 HB02 HOWN HOWN2 HB HB2
      go_wp2_with fail
      obtain ⟨hne, hle, _⟩ := Tok.scan_ok s l HE.out
      refine SameTokens_any v v2 l _ _ w3 O1.out O2.out hne (by omega) (fun w4 hb4 => ?_)
      have HB4 := Lib.hid (HB3.out.trans (hb4.mono (by omega)))
      clear hne hle hb4 HB3
      go_wp2_with fail
      exact HR.out _ HB4.out
    · exact absurd (HE.out.symm.trans he2) (by simp)
  · have HE := Lib.hid he
    have HB := Lib.hid hb
    have hz := hb.size
    clear he hb
    go_wp2_with fail
    refine Tokens_any s _ HM.out (fun l2 v2 w2 he2 hb2 hown2 => ?_) (fun e2 p2 w2 he2 hb2 => ?_)
    · exact absurd (HE.out.symm.trans he2) (by simp)
    · have he3 := Except.error.inj (HE.out.symm.trans he2)
      obtain ⟨rfl, rfl⟩ := Prod.mk.inj he3
      have HB2 := Lib.hid hb2
      have hz2 := hb2.size
      simp at hz2
      clear he2 hb2 he3
      have hb02 : Below w.heap.size w w2 := (HB.out.trans ((Below.refl _ _).alloc hz _)).trans (HB2.out.mono (by simp; omega))
      have HB02 := Lib.hid hb02
      clear hb02
      go_wp2_with fail
      refine tokenBegun_any _ (HW.out.below (HB02.out.alloc (by omega) _)) (fun w3 hb3 => ?_)
      have hz3 := hb3.size
      simp at hz3
      have g1 : w3.heap[w1.heap.size]? = some (.cells #[.int .i64 e, .int .i64 p] 25 (0, 0)) :=
        Below.at hb3 (by simp; omega) (by rw [heap_alloc_old _ _ (by omega)]; exact Below.at HB2.out (by simp) (heap_alloc_new _ _))
      have g2 : w3.heap[w2.heap.size]? = some (.cells #[.int .i64 e, .int .i64 p] 25 (0, 0)) :=
        Below.at hb3 (by simp) (heap_alloc_new _ _)
      have c1 : w3.cell? ⟨w1.heap.size, 0, none⟩ = some (.int .i64 e) := by rw [cell_of_block g1]; rfl
      have c2 : w3.cell? ⟨w1.heap.size, 1, none⟩ = some (.int .i64 p) := by rw [cell_of_block g1]; rfl
      have c3 : w3.cell? ⟨w2.heap.size, 0, none⟩ = some (.int .i64 e) := by rw [cell_of_block g2]; rfl
      have c4 : w3.cell? ⟨w2.heap.size, 1, none⟩ = some (.int .i64 p) := by rw [cell_of_block g2]; rfl
      have HB3 := Lib.hid (HB02.out.trans (((Below.refl _ _).alloc (by omega) _).trans (hb3.mono (by simp; omega))))
      clear g1 g2 hb3 HB02 HB HB2
      go_wp2_with fail
      refine SameTokens_nil _ ?_
      go_wp2_with fail
      exact HR.out _ HB3.out
end Go.Proofs.YtdlbhiaceheffaaDoor
