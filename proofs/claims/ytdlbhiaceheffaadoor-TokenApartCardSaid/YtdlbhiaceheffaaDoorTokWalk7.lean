/- Walk of token.Scan. -/
import Derived.Test.YtdlbhiaceheffaaDoorTokWalk6
import Derived.OwnWalk
namespace Go.Proofs.YtdlbhiaceheffaaDoor
open Go Go.RowKit

def tkCells (t : Tok.Tk) : List Value := [.int .i64 t.kind, .string t.text, .int .i64 t.pos]
/-- A slice value owns these tokens, from a block number on. -/
def OwnsTk (w : World) (base : Nat) (v : Value) (l : List Tok.Tk) : Prop := w.ownsRow base 32 3 v l.length (l.flatMap tkCells)
theorem infoTk : (Tryd.prog.info? 32).map (fun i => (i.zero, i.size, i.bytes)) = some (some (.agg #[.int .i64 0, .string ⟨#[]⟩, .int .i64 0]), 3, 32) := by kernel_rfl

theorem blank_iff (s : ByteArray) (k : Nat) (h : k < s.size) : (Tok.byte s k = 32 ∨ Tok.byte s k = 10) ↔ ((s[k].toNat : Int) = 32 ∨ (s[k].toNat : Int) = 10) := by
  rw [← Tok.byte_eq s k h, Tok.is32, Tok.is10]

theorem owns_slice {w : World} {base : Nat} {e : TypeId} {size : Nat} {v : Value} {n : Nat} {xs : List Value} (h : w.ownsRow base e size v n xs) : ∃ (a : Option Addr) (cap : Nat), v = .slice a n cap := by
  rcases h.2 with ⟨rfl, rfl⟩ | ⟨g, cap, cur, rfl, _⟩
  · exact ⟨_, _, rfl⟩
  · exact ⟨_, _, rfl⟩

theorem owns_below {w w' : World} {base : Nat} {e : TypeId} {size : Nat} {v : Value} {n : Nat} {xs : List Value} (h : w.ownsRow base e size v n xs) (hb : Below w.heap.size w w') : w'.ownsRow base e size v n xs :=
  h.kept (row := none) ⟨hb.os, hb.tape, hb.output, hb.size, fun k hk _ => hb.block k hk⟩ (by cases v.ownBlock <;> simp)

/-- Too long a text. -/
theorem Scan_long (s : ByteArray) (w : World) (hm : s.size ≤ maxLen) (hs : 4000 < s.size) {R : Ending → World → Prop}
    (hR : ∀ w', Below w.heap.size w w' → R (.returned (.tuple #[.slice none 0 0, .agg #[.int .i64 2, .int .i64 0]])) w') :
    Calls Tryd.prog 8 #[.string s] w R := by
  have HR := Lib.hid hR
  clear hR
  unfold maxLen at hm
  go_enter Tryd.func8, Tryd.ntmps8
  go_wp2_with fail
  refine bodyPost_ret ?_ rfl (HR.out _ ?_)
  · simp [results, Tryd.results8, go_sem]
  · exact below_alloc _ _

set_option maxRecDepth 100000 in
set_option maxHeartbeats 1000000 in
/-- A text that is not too long. -/
theorem Scan_short (s : ByteArray) (w : World) (hw : Words w) (hs : s.size ≤ 4000) {R : Ending → World → Prop}
    (hok : ∀ l v w', Tok.scan s = .ok l → Below w.heap.size w w' → OwnsTk w' (w.heap.size + 1) v l → R (.returned (.tuple #[v, .agg #[.int .i64 0, .int .i64 0]])) w')
    (hbad : ∀ (e p : Nat) w', Tok.scan s = .error (e, p) → Below w.heap.size w w' → R (.returned (.tuple #[.slice none 0 0, .agg #[.int .i64 e, .int .i64 p]])) w') :
    Calls Tryd.prog 8 #[.string s] w R := by
  have HOK := Lib.hid hok
  have HBAD := Lib.hid hbad
  have HW := Lib.hid hw
  clear hok hbad hw
  obtain ⟨i0, ti, tz0, tz1, tz2⟩ := info_parts infoTk
  have hE : Tok.scanFrom s (s.size + 1) 0 [] = Tok.scan s := by unfold Tok.scan; rw [if_neg (by omega)]
  have HE := Lib.hid hE
  clear hE
  go_enter Tryd.func8, Tryd.ntmps8
  go_wp2_with fail
  go_loopw [4, 5] (fun v i wr => ∃ (k f : Nat) (l : List Tok.Tk), i = .int .i64 k ∧ k ≤ s.size ∧ s.size < k + f ∧ Hid (Tok.scanFrom s f k l = Tok.scan s) ∧ l.length ≤ 1000 ∧ OwnsTk wr (w.heap.size + 1) v l ∧ Hid (Below w.heap.size w wr) ∧ w.heap.size < wr.heap.size ∧ Hid (wr.heap[w.heap.size]? = some (.cells #[.int .i64 0, .int .i64 0] 25 (0, 0))))
    (fun _ i _ => s.size - (intOf i).toNat)
  case atStart =>
    exact ⟨0, s.size + 1, [], rfl, by omega, by omega, HE.out, by simp, World.ownsRow_nil _ _ _ _, below_alloc _ _, by simp, heap_alloc_new w _⟩
  case round =>
    obtain ⟨k, f, l, rfl, hk, hf, hE, hl, hown, hbel, hz, hflt⟩ := hrel
    clear HE
    by_cases hlt : k < s.size
    · by_cases hb : Tok.byte s k = 32 ∨ Tok.byte s k = 10
      · have hB := hb
        rw [blank_iff s k hlt] at hb
        have hstep : Hid (Tok.scanFrom s (f - 1) (k + 1) l = Tok.scan s) := by
          rw [← hE.out]
          obtain ⟨g, rfl⟩ : ∃ g, f = g + 1 := ⟨f - 1, by omega⟩
          simp only [Nat.add_sub_cancel]
          rw [Tok.scanFrom, if_pos hlt, if_pos hB]; rfl
        clear hB hE
        rcases hb with hb | hb
        · have hb1 : ((s[k].toNat : Int) == 32) = true := by simp [hb]
          clear hb
          go_wp2_with fail
          go_roundw
          case rel => exact ⟨k + 1, f - 1, l, by go_num, by omega, by omega, hstep, hl, hown, hbel, hz, hflt⟩
          case measure => simp [intOf]; omega
        · have hb0 : ((s[k].toNat : Int) == 32) = false := by simp [hb]
          have hb1 : ((s[k].toNat : Int) == 10) = true := by simp [hb]
          clear hb
          go_wp2_with fail
          go_roundw
          case rel => exact ⟨k + 1, f - 1, l, by go_num, by omega, by omega, hstep, hl, hown, hbel, hz, hflt⟩
          case measure => simp [intOf]; omega
      · have hB := hb
        rw [blank_iff s k hlt] at hb
        have hb0 : ((s[k].toNat : Int) == 32) = false := by simp; omega
        have hb1 : ((s[k].toNat : Int) == 10) = false := by simp; omega
        clear hb
        obtain ⟨t, n, ok, hnx⟩ : ∃ t n ok, Tok.next s k = (t, n, ok) := ⟨_, _, _, rfl⟩
        obtain ⟨kd, tx, ps⟩ := t
        have hstep : Hid (Tok.scan s = if ok = false then .error (1, k) else if l.length = 1000 then .error (2, k) else Tok.scanFrom s (f - 1) (k + n) (l ++ [⟨kd, tx, ps⟩])) := by
          rw [← hE.out]
          obtain ⟨g, rfl⟩ : ∃ g, f = g + 1 := ⟨f - 1, by omega⟩
          rw [Tok.scanFrom, if_pos hlt, if_neg hB, hnx]; rfl
        have hbound : ok = true → 1 ≤ n ∧ k + n ≤ s.size := fun h => by
          have := Tok.next_bound s k hlt (by rw [hnx]; exact h)
          rw [hnx] at this; exact this
        have HN : Hid (∀ (w1 : World) (R : Ending → World → Prop), Below w.heap.size w w1 → (∀ w', Below w1.heap.size w1 w' → R (.returned (.tuple #[tkVal ⟨kd, tx, ps⟩, .int .i64 n, .bool ok])) w') → Calls Tryd.prog 24 #[.string s, .int .i64 k] w1 R) :=
          fun w1 R hb h => one_any s k w1 (HW.out.below hb) hs hlt (by rw [hnx]; exact h)
        clear hB hE hnx
        cases ok
        · go_wp2_with fail
          refine HN.out _ _ hbel.out (fun w1 hb1 => ?_)
          dsimp only [tkVal]
          have HBEL := Lib.hid (hbel.out.trans (hb1.mono (by omega)))
          have hz1 : w.heap.size < w1.heap.size := by have := hb1.size; omega
          have hc : w1.heap[w.heap.size]? = some (.cells #[.int .i64 0, .int .i64 0] 25 (0, 0)) := by
            rw [hb1.block _ (by omega)]; exact hflt.out
          have c0 : w1.cell? ⟨w.heap.size, 0, none⟩ = some (.int .i64 0) := by rw [cell_of_block hc]; rfl
          have c1 : w1.cell? ⟨w.heap.size, 1, none⟩ = some (.int .i64 0) := by rw [cell_of_block hc]; rfl
          have f0 : ∀ o, w1.frozen? ⟨w.heap.size, o, none⟩ = false := fun o => frozen_of_block hc o
          clear hb1 hc hflt hbel
          go_wp2_with fail
          refine bodyPost_ret ?_ rfl (HBAD.out 1 k _ ?_ ?_)
          · simp [results, Tryd.results8, go_sem, c0, c1, hz1]
          · rw [hstep.out]; rfl
          · repeat' (first | exact HBEL.out | apply Below.drew | apply Below.setCell | apply Below.alloc | (simp; done) | (simp; omega))
        · obtain ⟨hn1, hn2⟩ := hbound rfl
          clear hbound
          obtain ⟨a, cap, rfl⟩ := owns_slice hown
          go_wp2_with fail
          refine HN.out _ _ hbel.out (fun w1 hb1 => ?_)
          dsimp only [tkVal]
          have HBEL := Lib.hid (hbel.out.trans (hb1.mono (by omega)))
          have hz1 : w.heap.size < w1.heap.size := by have := hb1.size; omega
          have hown1 : OwnsTk w1 (w.heap.size + 1) (.slice a l.length cap) l := owns_below hown hb1
          have hc : w1.heap[w.heap.size]? = some (.cells #[.int .i64 0, .int .i64 0] 25 (0, 0)) := by
            rw [hb1.block _ (by omega)]; exact hflt.out
          have c0 : w1.cell? ⟨w.heap.size, 0, none⟩ = some (.int .i64 0) := by rw [cell_of_block hc]; rfl
          have c1 : w1.cell? ⟨w.heap.size, 1, none⟩ = some (.int .i64 0) := by rw [cell_of_block hc]; rfl
          have f0 : ∀ o, w1.frozen? ⟨w.heap.size, o, none⟩ = false := fun o => frozen_of_block hc o
          have HOWN := Lib.hid hown1
          have HC := Lib.hid hc
          clear hb1 hc hflt hbel hown hown1
          by_cases hl2 : l.length = 1000
          · have hl3 : ((l.length : Int) == 1000) = true := by simp [hl2]
            have HL := Lib.hid hl2
            clear hl2
            go_wp2_with fail
            refine bodyPost_ret ?_ rfl (HBAD.out 2 k _ ?_ ?_)
            · simp [results, Tryd.results8, go_sem, c0, c1, hz1]
            · rw [hstep.out, if_neg (by simp), if_pos HL.out]
            · repeat' (first | exact HBEL.out | apply Below.drew | apply Below.setCell | apply Below.alloc | (simp; done) | (simp; omega))
          · have hl3 : ((l.length : Int) == 1000) = false := by simp; omega
            have hl4 : l.length < 1000 := by omega
            clear hl2
            go_wp2_with (at_builtin; go_loud (refine wpList_append_own _ rfl (.tmp 45) (.tmp 47) 22 rfl (w.heap.size + 1) 32 i0 _ 3 32 Tryd.underlying22 ti tz0 tz1 tz2 rfl (by decide) _ _ _ rfl ((HOWN.out.alloc _).alloc _) ⟨w1.heap.size + 1, 0, none⟩ 1 1 [.int .i64 kd, .string tx, .int .i64 ps] rfl rfl ?c1 ?c2 ?c3 ?c4 ?c5 ?_))
            case c1 =>
              intro j u hj
              match j, hj with
              | 0, hj => simp at hj; subst hj; simp [Addr.add]
              | 1, hj => simp at hj; subst hj; simp [Addr.add]
              | 2, hj => simp at hj; subst hj; simp [Addr.add]
            case c2 => intro u hu; simp at hu; rcases hu with rfl | rfl | rfl <;> rfl
            case c3 => unfold maxLen; omega
            case c4 => omega
            case c5 => simp; omega
            intro v' w2 hown2 hgrow _
            have hown3 : OwnsTk w2 (w.heap.size + 1) v' (l ++ [⟨kd, tx, ps⟩]) := by
              have e : (l ++ [(⟨kd, tx, ps⟩ : Tok.Tk)]).flatMap tkCells = l.flatMap tkCells ++ [.int .i64 kd, .string tx, .int .i64 ps] := by simp [tkCells]
              unfold OwnsTk
              rw [e, List.length_append]
              exact hown2
            have hlt2 := World.ownsRow.lt HOWN.out
            have hb2 : Below w.heap.size w w2 := ((((HBEL.out).alloc (by omega) _).alloc (by simp; omega) _).grown hgrow (by simp; omega) (fun j hj => by have := (hlt2 j hj).1; omega))
            have hz2 : w.heap.size < w2.heap.size := by have := hgrow.size; simp at this; omega
            have hc2 : w2.heap[w.heap.size]? = some (.cells #[.int .i64 0, .int .i64 0] 25 (0, 0)) := by
              rw [hgrow.block _ (by simp; omega) (fun e => by have := (hlt2 _ e.symm).1; omega), heap_alloc_old _ _ (by simp; omega), heap_alloc_old _ _ (by omega)]
              exact HC.out
            have hst : Hid (Tok.scanFrom s (f - 1) (k + n) (l ++ [⟨kd, tx, ps⟩]) = Tok.scan s) := by
              rw [hstep.out, if_neg (by simp), if_neg (by omega)]; rfl
            have HB2 := Lib.hid hb2
            have HC2 := Lib.hid hc2
            have HO3 := Lib.hid hown3
            clear hown2 hgrow hlt2 hb2 hc2 hown3 HOWN HC HBEL c0 c1 f0 hstep
            go_wp2_with fail
            go_roundw
            case rel => exact ⟨k + n, f - 1, l ++ [⟨kd, tx, ps⟩], by go_num, by omega, by omega, hst, by simp; omega, HO3.out, HB2, hz2, HC2⟩
            case measure => simp [intOf]; omega
    · have hfin : Tok.scan s = .ok (l ++ [⟨6, ⟨#[]⟩, s.size⟩]) := by
        rw [← hE.out]
        obtain ⟨g, rfl⟩ : ∃ g, f = g + 1 := ⟨f - 1, by omega⟩
        rw [Tok.scanFrom, if_neg hlt]
      have HF := Lib.hid hfin
      obtain ⟨a, cap, rfl⟩ := owns_slice hown
      have HOWN := Lib.hid hown
      clear hfin hE hown
      go_wp2_with (at_builtin; go_loud (refine wpList_append_own _ rfl (.tmp 52) (.tmp 56) 22 rfl (w.heap.size + 1) 32 i0 _ 3 32 Tryd.underlying22 ti tz0 tz1 tz2 rfl (by decide) _ _ _ rfl (HOWN.out.alloc _) ⟨wr.heap.size, 0, none⟩ 1 1 [.int .i64 6, .string ⟨#[]⟩, .int .i64 s.size] rfl rfl ?d1 ?d2 ?d3 ?d4 ?d5 ?_))
      case d1 =>
        intro j u hj
        match j, hj with
        | 0, hj => simp at hj; subst hj; simp [Addr.add]
        | 1, hj => simp at hj; subst hj; simp [Addr.add]
        | 2, hj => simp at hj; subst hj; simp [Addr.add]
      case d2 => intro u hu; simp at hu; rcases hu with rfl | rfl | rfl <;> rfl
      case d3 => unfold maxLen; omega
      case d4 => omega
      case d5 => simp; omega
      intro v' w2 hown2 hgrow _
      have hown3 : OwnsTk w2 (w.heap.size + 1) v' (l ++ [⟨6, ⟨#[]⟩, s.size⟩]) := by
        have e : (l ++ [(⟨6, ⟨#[]⟩, s.size⟩ : Tok.Tk)]).flatMap tkCells = l.flatMap tkCells ++ [.int .i64 6, .string ⟨#[]⟩, .int .i64 s.size] := by simp [tkCells]
        unfold OwnsTk
        rw [e, List.length_append]
        exact hown2
      have hlt2 := World.ownsRow.lt HOWN.out
      have hb2 : Below w.heap.size w w2 := (((hbel.out).alloc (by omega) _).grown hgrow (by simp; omega) (fun j hj => by have := (hlt2 j hj).1; omega))
      have hz2 : w.heap.size < w2.heap.size := by have := hgrow.size; simp at this; omega
      have hc : w2.heap[w.heap.size]? = some (.cells #[.int .i64 0, .int .i64 0] 25 (0, 0)) := by
        rw [hgrow.block _ (by simp; omega) (fun e => by have := (hlt2 _ e.symm).1; omega), heap_alloc_old _ _ (by omega)]
        exact hflt.out
      have c0 : w2.cell? ⟨w.heap.size, 0, none⟩ = some (.int .i64 0) := by rw [cell_of_block hc]; rfl
      have c1 : w2.cell? ⟨w.heap.size, 1, none⟩ = some (.int .i64 0) := by rw [cell_of_block hc]; rfl
      have f0 : ∀ o, w2.frozen? ⟨w.heap.size, o, none⟩ = false := fun o => frozen_of_block hc o
      have HB2 := Lib.hid hb2
      have HO3 := Lib.hid hown3
      clear hown2 hgrow hlt2 hb2 hc hown3 HOWN hbel hflt
      go_wp2_with fail
      refine bodyPost_ret ?_ rfl (HOK.out _ v' _ HF.out ?_ ?_)
      · simp [results, Tryd.results8, go_sem, c0, c1]
      · repeat' (first | exact HB2.out | apply Below.drew | apply Below.setCell | apply Below.alloc | (simp; done) | (simp; omega))
      · repeat' (first | exact HO3.out | apply ownsRow_setCell_below | (simp; done))
end Go.Proofs.YtdlbhiaceheffaaDoor
