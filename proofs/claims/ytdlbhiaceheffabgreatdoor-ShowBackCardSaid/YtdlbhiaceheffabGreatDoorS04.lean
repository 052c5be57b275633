/- Walk of token.Scan. Walks of the reference's small functions: letter, digit, HasText, Words. Walk of the reference's SameTokens, at lists that are the same. The parser in memory, by parts. Walks of the parser's now, is, take, fail, need. Walks of the parser's newType, name, in. -/
import Derived.OwnWalk
import Derived.WalkSpells
import Derived.Deep.LoopGhost
import Derived.WalkSmall
import Derived.BigRegion
import Derived.Deep.RegionLaw
import Derived.Deep.AppendLies
import Derived.Deep.RegionLawGrows
import Derived.WalkLawsBesides
import Derived.Deep.RegionHeldLaw
import Derived.Test.YtdlbhiaceheffabGreatDoorS03
set_option linter.all false
set_option maxRecDepth 100000
set_option maxHeartbeats 1000000
namespace Go.Proofs.YtdlbhiaceheffabGreatDoor
section
open Go Go.RowKit
def tkCells (t : Tok.Tk) : List Value := [.int .i64 t.kind, .string t.text, .int .i64 t.pos]
def OwnsTk (w : World) (base : Nat) (v : Value) (l : List Tok.Tk) : Prop := w.ownsRow base 138 3 v l.length (l.flatMap tkCells)
theorem infoTk : (Tryz.prog.info? 138).map (fun i => (i.zero, i.size, i.bytes)) = some (some (.agg #[.int .i64 0, .string ⟨#[]⟩, .int .i64 0]), 3, 32) := by kernel_rfl
theorem blank_iff (s : ByteArray) (k : Nat) (h : k < s.size) : (Tok.byte s k = 32 ∨ Tok.byte s k = 10) ↔ ((s[k].toNat : Int) = 32 ∨ (s[k].toNat : Int) = 10) := by
 rw [← Tok.byte_eq s k h, Tok.is32, Tok.is10]
theorem owns_slice {w : World} {base : Nat} {e : TypeId} {size : Nat} {v : Value} {n : Nat} {xs : List Value} (h : w.ownsRow base e size v n xs) : ∃ (a : Option Addr) (cap : Nat), v = .slice a n cap := by
 rcases h.2 with ⟨rfl, rfl⟩ | ⟨g, cap, cur, rfl, _⟩
 · exact ⟨_, _, rfl⟩
 · exact ⟨_, _, rfl⟩
theorem owns_below {w w' : World} {base : Nat} {e : TypeId} {size : Nat} {v : Value} {n : Nat} {xs : List Value} (h : w.ownsRow base e size v n xs) (hb : Below w.heap.size w w') : w'.ownsRow base e size v n xs :=
 h.kept (row := none) ⟨hb.os, hb.tape, hb.output, hb.size, fun k hk _ => hb.block k hk⟩ (by cases v.ownBlock <;> simp)
theorem Scan_long (s : ByteArray) (w : World) (hm : s.size ≤ maxLen) (hs : 4000 < s.size) {R : Ending → World → Prop}
   (hR : ∀ w', Below w.heap.size w w' → R (.returned (.tuple #[.slice none 0 0, .agg #[.int .i64 2, .int .i64 0]])) w') :
   Calls Tryz.prog 72 #[.string s] w R := by
 have HR := qh hR
 clear hR
 unfold maxLen at hm
 go_enter Tryz.func72, Tryz.ntmps72
 go_wp2_with fail
 refine bodyPost_ret ?_ rfl (HR.out _ ?_)
 · simp [results, Tryz.results72, go_sem]
 · exact below_alloc _ _
theorem Scan_short (s : ByteArray) (w : World) (hw : Words w) (hs : s.size ≤ 4000) {R : Ending → World → Prop}
   (hok : ∀ l v w', Tok.scan s = .ok l → Below w.heap.size w w' → OwnsTk w' (w.heap.size + 1) v l → R (.returned (.tuple #[v, .agg #[.int .i64 0, .int .i64 0]])) w')
   (hbad : ∀ (e p : Nat) w', Tok.scan s = .error (e, p) → Below w.heap.size w w' → R (.returned (.tuple #[.slice none 0 0, .agg #[.int .i64 e, .int .i64 p]])) w') :
   Calls Tryz.prog 72 #[.string s] w R := by
 have HOK := qh hok
 have HBAD := qh hbad
 have HW := qh hw
 clear hok hbad hw
 obtain ⟨i0, ti, tz0, tz1, tz2⟩ := info_parts infoTk
 have hE : Tok.scanFrom s (s.size + 1) 0 [] = Tok.scan s := by unfold Tok.scan; rw [if_neg (by omega)]
 have HE := qh hE
 clear hE
 go_enter Tryz.func72, Tryz.ntmps72
 go_wp2_with fail
 go_loopw [4, 5] (fun v i wr => ∃ (k f : Nat) (l : List Tok.Tk), i = .int .i64 k ∧ k ≤ s.size ∧ s.size < k + f ∧ Hid (Tok.scanFrom s f k l = Tok.scan s) ∧ l.length ≤ 1000 ∧ OwnsTk wr (w.heap.size + 1) v l ∧ Hid (Below w.heap.size w wr) ∧ w.heap.size < wr.heap.size ∧ Hid (wr.heap[w.heap.size]? = some (.cells #[.int .i64 0, .int .i64 0] 25 (0, 0))))
   (fun _ i _ => s.size - (intOf i).toNat)
 case atStart =>
   exact ⟨0, s.size + 1, [], rfl, by omega, by omega, HE.out, by simp, World.ownsRow_nil _ _ _ _, below_alloc _ _, by simp, heap_alloc_new w _⟩
 case round =>
   obtain ⟨k, f, l, rfl, hk, hf, hE, hl, hown, hbel, hz, hflt⟩ := hrel
   clear HE
   by_cases hlt : k < s.size
   · by_cases hb : Tok.byte s k = 32 ∨ Tok.byte s k = 10
     · have hB := hb
       rw [blank_iff s k hlt] at hb
       have hstep : Hid (Tok.scanFrom s (f - 1) (k + 1) l = Tok.scan s) := by
         rw [← hE.out]
         obtain ⟨g, rfl⟩ : ∃ g, f = g + 1 := ⟨f - 1, by omega⟩
         simp only [Nat.add_sub_cancel]
         rw [Tok.scanFrom, if_pos hlt, if_pos hB]; rfl
       clear hB hE
       rcases hb with hb | hb
       · have hb1 : ((s[k].toNat : Int) == 32) = true := by simp [hb]
         clear hb
         go_wp2_with fail
         go_roundw
         case rel => exact ⟨k + 1, f - 1, l, by go_num, by omega, by omega, hstep, hl, hown, hbel, hz, hflt⟩
         case measure => simp [intOf]; omega
       · have hb0 : ((s[k].toNat : Int) == 32) = false := by simp [hb]
         have hb1 : ((s[k].toNat : Int) == 10) = true := by simp [hb]
         clear hb
         go_wp2_with fail
         go_roundw
         case rel => exact ⟨k + 1, f - 1, l, by go_num, by omega, by omega, hstep, hl, hown, hbel, hz, hflt⟩
         case measure => simp [intOf]; omega
     · have hB := hb
       rw [blank_iff s k hlt] at hb
       have hb0 : ((s[k].toNat : Int) == 32) = false := by simp; omega
       have hb1 : ((s[k].toNat : Int) == 10) = false := by simp; omega
       clear hb
       obtain ⟨t, n, ok, hnx⟩ : ∃ t n ok, Tok.next s k = (t, n, ok) := ⟨_, _, _, rfl⟩
       obtain ⟨kd, tx, ps⟩ := t
       have hstep : Hid (Tok.scan s = if ok = false then .error (1, k) else if l.length = 1000 then .error (2, k) else Tok.scanFrom s (f - 1) (k + n) (l ++ [⟨kd, tx, ps⟩])) := by
         rw [← hE.out]
         obtain ⟨g, rfl⟩ : ∃ g, f = g + 1 := ⟨f - 1, by omega⟩
         rw [Tok.scanFrom, if_pos hlt, if_neg hB, hnx]; rfl
       have hbound : ok = true → 1 ≤ n ∧ k + n ≤ s.size := fun h => by
         have := Tok.next_bound s k hlt (by rw [hnx]; exact h)
         rw [hnx] at this; exact this
       have HN : Hid (∀ (w1 : World) (R : Ending → World → Prop), Below w.heap.size w w1 → (∀ w', Below w1.heap.size w1 w' → R (.returned (.tuple #[tkVal ⟨kd, tx, ps⟩, .int .i64 n, .bool ok])) w') → Calls Tryz.prog 129 #[.string s, .int .i64 k] w1 R) :=
         fun w1 R hb h => one_any s k w1 (HW.out.below hb) hs hlt (by rw [hnx]; exact h)
       clear hB hE hnx
       cases ok
       · go_wp2_with fail
         refine HN.out _ _ hbel.out (fun w1 hb1 => ?_)
         dsimp only [tkVal]
         have HBEL := qh (hbel.out.trans (hb1.mono (by omega)))
         have hz1 : w.heap.size < w1.heap.size := by have := hb1.size; omega
         have hc : w1.heap[w.heap.size]? = some (.cells #[.int .i64 0, .int .i64 0] 25 (0, 0)) := by
           rw [hb1.block _ (by omega)]; exact hflt.out
         have c0 : w1.cell? ⟨w.heap.size, 0, none⟩ = some (.int .i64 0) := by rw [cell_of_block hc]; rfl
         have c1 : w1.cell? ⟨w.heap.size, 1, none⟩ = some (.int .i64 0) := by rw [cell_of_block hc]; rfl
         have f0 : ∀ o, w1.frozen? ⟨w.heap.size, o, none⟩ = false := fun o => frozen_of_block hc o
         clear hb1 hc hflt hbel
         go_wp2_with fail
         refine bodyPost_ret ?_ rfl (HBAD.out 1 k _ ?_ ?_)
         · simp [results, Tryz.results72, go_sem, c0, c1, hz1]
         · rw [hstep.out]; rfl
         · repeat' (first | exact HBEL.out | apply Below.drew | apply Below.setCell | apply Below.alloc | (simp; done) | (simp; omega))
       · obtain ⟨hn1, hn2⟩ := hbound rfl
         clear hbound
         obtain ⟨a, cap, rfl⟩ := owns_slice hown
         go_wp2_with fail
         refine HN.out _ _ hbel.out (fun w1 hb1 => ?_)
         dsimp only [tkVal]
         have HBEL := qh (hbel.out.trans (hb1.mono (by omega)))
         have hz1 : w.heap.size < w1.heap.size := by have := hb1.size; omega
         have hown1 : OwnsTk w1 (w.heap.size + 1) (.slice a l.length cap) l := owns_below hown hb1
         have hc : w1.heap[w.heap.size]? = some (.cells #[.int .i64 0, .int .i64 0] 25 (0, 0)) := by
           rw [hb1.block _ (by omega)]; exact hflt.out
         have c0 : w1.cell? ⟨w.heap.size, 0, none⟩ = some (.int .i64 0) := by rw [cell_of_block hc]; rfl
         have c1 : w1.cell? ⟨w.heap.size, 1, none⟩ = some (.int .i64 0) := by rw [cell_of_block hc]; rfl
         have f0 : ∀ o, w1.frozen? ⟨w.heap.size, o, none⟩ = false := fun o => frozen_of_block hc o
         have HOWN := qh hown1
         have HC := qh hc
         clear hb1 hc hflt hbel hown hown1
         by_cases hl2 : l.length = 1000
         · have hl3 : ((l.length : Int) == 1000) = true := by simp [hl2]
           have HL := qh hl2
           clear hl2
           go_wp2_with fail
           refine bodyPost_ret ?_ rfl (HBAD.out 2 k _ ?_ ?_)
           · simp [results, Tryz.results72, go_sem, c0, c1, hz1]
           · rw [hstep.out, if_neg (by simp), if_pos HL.out]
           · repeat' (first | exact HBEL.out | apply Below.drew | apply Below.setCell | apply Below.alloc | (simp; done) | (simp; omega))
         · have hl3 : ((l.length : Int) == 1000) = false := by simp; omega
           have hl4 : l.length < 1000 := by omega
           clear hl2
           go_wp2_with (at_builtin; go_loud (refine wpList_append_own _ rfl (.tmp 45) (.tmp 47) 84 rfl (w.heap.size + 1) 138 i0 _ 3 32 Tryz.underlying84 ti tz0 tz1 tz2 rfl (by decide) _ _ _ rfl ((HOWN.out.alloc _).alloc _) ⟨w1.heap.size + 1, 0, none⟩ 1 1 [.int .i64 kd, .string tx, .int .i64 ps] rfl rfl ?c1 ?c2 ?c3 ?c4 ?c5 ?_))
           case c1 =>
             intro j u hj
             match j, hj with
             | 0, hj => simp at hj; subst hj; simp [Addr.add]
             | 1, hj => simp at hj; subst hj; simp [Addr.add]
             | 2, hj => simp at hj; subst hj; simp [Addr.add]
           case c2 => intro u hu; simp at hu; rcases hu with rfl | rfl | rfl <;> rfl
           case c3 => unfold maxLen; omega
           case c4 => omega
           case c5 => simp; omega
           intro v' w2 hown2 hgrow _
           have hown3 : OwnsTk w2 (w.heap.size + 1) v' (l ++ [⟨kd, tx, ps⟩]) := by
             have e : (l ++ [(⟨kd, tx, ps⟩ : Tok.Tk)]).flatMap tkCells = l.flatMap tkCells ++ [.int .i64 kd, .string tx, .int .i64 ps] := by simp [tkCells]
             unfold OwnsTk
             rw [e, List.length_append]
             exact hown2
           have hlt2 := World.ownsRow.lt HOWN.out
           have hb2 : Below w.heap.size w w2 := ((((HBEL.out).alloc (by omega) _).alloc (by simp; omega) _).grown hgrow (by simp; omega) (fun j hj => by have := (hlt2 j hj).1; omega))
           have hz2 : w.heap.size < w2.heap.size := by have := hgrow.size; simp at this; omega
           have hc2 : w2.heap[w.heap.size]? = some (.cells #[.int .i64 0, .int .i64 0] 25 (0, 0)) := by
             rw [hgrow.block _ (by simp; omega) (fun e => by have := (hlt2 _ e.symm).1; omega), heap_alloc_old _ _ (by simp; omega), heap_alloc_old _ _ (by omega)]
             exact HC.out
           have hst : Hid (Tok.scanFrom s (f - 1) (k + n) (l ++ [⟨kd, tx, ps⟩]) = Tok.scan s) := by
             rw [hstep.out, if_neg (by simp), if_neg (by omega)]; rfl
           have HB2 := qh hb2
           have HC2 := qh hc2
           have HO3 := qh hown3
           clear hown2 hgrow hlt2 hb2 hc2 hown3 HOWN HC HBEL c0 c1 f0 hstep
           go_wp2_with fail
           go_roundw
           case rel => exact ⟨k + n, f - 1, l ++ [⟨kd, tx, ps⟩], by go_num, by omega, by omega, hst, by simp; omega, HO3.out, HB2, hz2, HC2⟩
           case measure => simp [intOf]; omega
   · have hfin : Tok.scan s = .ok (l ++ [⟨6, ⟨#[]⟩, s.size⟩]) := by
       rw [← hE.out]
       obtain ⟨g, rfl⟩ : ∃ g, f = g + 1 := ⟨f - 1, by omega⟩
       rw [Tok.scanFrom, if_neg hlt]
     have HF := qh hfin
     obtain ⟨a, cap, rfl⟩ := owns_slice hown
     have HOWN := qh hown
     clear hfin hE hown
     go_wp2_with (at_builtin; go_loud (refine wpList_append_own _ rfl (.tmp 52) (.tmp 56) 84 rfl (w.heap.size + 1) 138 i0 _ 3 32 Tryz.underlying84 ti tz0 tz1 tz2 rfl (by decide) _ _ _ rfl (HOWN.out.alloc _) ⟨wr.heap.size, 0, none⟩ 1 1 [.int .i64 6, .string ⟨#[]⟩, .int .i64 s.size] rfl rfl ?d1 ?d2 ?d3 ?d4 ?d5 ?_))
     case d1 =>
       intro j u hj
       match j, hj with
       | 0, hj => simp at hj; subst hj; simp [Addr.add]
       | 1, hj => simp at hj; subst hj; simp [Addr.add]
       | 2, hj => simp at hj; subst hj; simp [Addr.add]
     case d2 => intro u hu; simp at hu; rcases hu with rfl | rfl | rfl <;> rfl
     case d3 => unfold maxLen; omega
     case d4 => omega
     case d5 => simp; omega
     intro v' w2 hown2 hgrow _
     have hown3 : OwnsTk w2 (w.heap.size + 1) v' (l ++ [⟨6, ⟨#[]⟩, s.size⟩]) := by
       have e : (l ++ [(⟨6, ⟨#[]⟩, s.size⟩ : Tok.Tk)]).flatMap tkCells = l.flatMap tkCells ++ [.int .i64 6, .string ⟨#[]⟩, .int .i64 s.size] := by simp [tkCells]
       unfold OwnsTk
       rw [e, List.length_append]
       exact hown2
     have hlt2 := World.ownsRow.lt HOWN.out
     have hb2 : Below w.heap.size w w2 := (((hbel.out).alloc (by omega) _).grown hgrow (by simp; omega) (fun j hj => by have := (hlt2 j hj).1; omega))
     have hz2 : w.heap.size < w2.heap.size := by have := hgrow.size; simp at this; omega
     have hc : w2.heap[w.heap.size]? = some (.cells #[.int .i64 0, .int .i64 0] 25 (0, 0)) := by
       rw [hgrow.block _ (by simp; omega) (fun e => by have := (hlt2 _ e.symm).1; omega), heap_alloc_old _ _ (by omega)]
       exact hflt.out
     have c0 : w2.cell? ⟨w.heap.size, 0, none⟩ = some (.int .i64 0) := by rw [cell_of_block hc]; rfl
     have c1 : w2.cell? ⟨w.heap.size, 1, none⟩ = some (.int .i64 0) := by rw [cell_of_block hc]; rfl
     have f0 : ∀ o, w2.frozen? ⟨w.heap.size, o, none⟩ = false := fun o => frozen_of_block hc o
     have HB2 := qh hb2
     have HO3 := qh hown3
     clear hown2 hgrow hlt2 hb2 hc hown3 HOWN hbel hflt
     go_wp2_with fail
     refine bodyPost_ret ?_ rfl (HOK.out _ v' _ HF.out ?_ ?_)
     · simp [results, Tryz.results72, go_sem, c0, c1]
     · repeat' (first | exact HB2.out | apply Below.drew | apply Below.setCell | apply Below.alloc | (simp; done) | (simp; omega))
     · repeat' (first | exact HO3.out | apply ownsRow_setCell_below | (simp; done))
end
section
open Go Go.RowKit
theorem heap_alloc_at' (w : World) (o : Obj) (b : Nat) (h : b = w.heap.size) : (w.alloc o).heap[b]? = some o := by subst h; exact heap_alloc_new w o
theorem heap_drew_at {w : World} {o : Obj} {b : Nat} (h : w.heap[b]? = some o) : w.drew.heap[b]? = some o := h
end
section
open Go Go.RowKit
theorem flat_at (l : List Tok.Tk) (k : Nat) (h : k < l.length) : (l.flatMap tkCells)[k * 3]? = some (.int .i64 l[k].kind) ∧ (l.flatMap tkCells)[k * 3 + 1]? = some (.string l[k].text) ∧ (l.flatMap tkCells)[k * 3 + 2]? = some (.int .i64 l[k].pos) := by
 induction l generalizing k with
 | nil => simp at h
 | cons a l ih =>
   cases k with
   | zero => simp [tkCells]
   | succ k =>
     have := ih k (by simpa using h)
     simp only [List.flatMap_cons, List.getElem_cons_succ]
     refine ⟨?_, ?_, ?_⟩
     · rw [List.getElem?_append_right (by simp [tkCells]; omega)]; rw [show (k + 1) * 3 - (tkCells a).length = k * 3 by simp [tkCells]; omega]; exact this.1
     · rw [List.getElem?_append_right (by simp [tkCells]; omega)]; rw [show (k + 1) * 3 + 1 - (tkCells a).length = k * 3 + 1 by simp [tkCells]; omega]; exact this.2.1
     · rw [List.getElem?_append_right (by simp [tkCells]; omega)]; rw [show (k + 1) * 3 + 2 - (tkCells a).length = k * 3 + 2 by simp [tkCells]; omega]; exact this.2.2
theorem OwnsTk.at {w : World} {B : Nat} {v : Value} {l : List Tok.Tk} (h : OwnsTk w B v l) (hne : l ≠ []) :
   ∃ g cap : Nat, v = .slice (some ⟨g, 0, none⟩) l.length cap ∧ B ≤ g ∧ g < w.heap.size ∧ l.length ≤ cap ∧ cap ≤ maxLen ∧ ∀ k (hk : k < l.length), w.cell? ⟨g, k * 3, none⟩ = some (.int .i64 l[k].kind) ∧ w.cell? ⟨g, k * 3 + 1, none⟩ = some (.string l[k].text) ∧ w.cell? ⟨g, k * 3 + 2, none⟩ = some (.int .i64 l[k].pos) := by
 have hc := fun g => World.ownsRow.cells (g := g) h
 have hlt := World.ownsRow.lt h
 rcases h.2 with ⟨_, h0⟩ | ⟨g, cap, cur, rfl, hg, hh, hn, hm, _⟩
 · exact absurd (List.eq_nil_of_length_eq_zero h0) hne
 · refine ⟨g, cap, rfl, hg, (hlt g rfl).2, hn, hm, fun k hk => ?_⟩
   obtain ⟨a1, a2, a3⟩ := flat_at l k hk
   have e : ∀ j, (⟨g, 0, none⟩ : Addr).add j = ⟨g, j, none⟩ := fun j => by unfold Addr.add; split <;> simp_all
   refine ⟨?_, ?_, ?_⟩
   · rw [← e]; exact hc g rfl _ _ a1
   · rw [← e]; exact hc g rfl _ _ a2
   · rw [← e]; exact hc g rfl _ _ a3
end
section
open Go Go.RowKit
open Prt (Sat As blk pur exs star stars)
def Toks (toks : List Tok.Tk) : Prop := toks.length ≤ 1001 ∧ ∀ t, toks.getLast? = some t → t.kind = 6
def tkA (v : Value) (l : List Tok.Tk) : As := Prt.row 138 3 v l.length (l.flatMap tkCells)
def strA (v : Value) (l : List ByteArray) : As := Prt.row 9 1 v l.length (l.map Value.string)
def fdCells (p : ByteArray × Nat) : List Value := [.string p.1, .int .i64 (p.2 : Int)]
def fdA (v : Value) (l : List (ByteArray × Nat)) : As := Prt.row 141 2 v l.length (l.flatMap fdCells)
def inCell (n : Nat) : Value := .int .i64 (n : Int)
def inA (v : Value) (l : List Nat) : As := Prt.row 3 1 v l.length (l.map inCell)
structure TyRow where
 t : Ty.Ty
 fv : Value
 lv : Value
def tyCells (r : TyRow) : List Value := [.int .i64 r.t.kind, r.fv, r.lv, .int .i64 r.t.of]
def tyBits (r : TyRow) : As := star (fdA r.fv r.t.fields) (inA r.lv r.t.list)
def tyA (v : Value) (ts : List Ty.Ty) : As := exs fun rows : List TyRow =>
 stars [pur (rows.map TyRow.t = ts), Prt.row 69 4 v ts.length (rows.flatMap tyCells), stars (rows.map tyBits)]
structure NdRow where
 t : Ty.Nd
 lv : Value
def ndCells (r : NdRow) : List Value := [.int .i64 r.t.kind, .int .i64 r.t.a, .int .i64 r.t.b, .int .i64 r.t.c, r.lv, .string r.t.text, .int .i64 r.t.n, .int .i64 r.t.ty, .int .i64 r.t.pos]
def ndA (v : Value) (ns : List Ty.Nd) : As := exs fun rows : List NdRow =>
 stars [pur (rows.map NdRow.t = ns), Prt.row 66 9 v ns.length (rows.flatMap ndCells), stars (rows.map fun r => inA r.lv r.t.list)]
def parIn (pb d : Nat) (toks : List Tok.Tk) (st : Ty.St) (p : Value × Value × Value × Int) : List As :=
 [pur (Toks toks ∧ st.pos < toks.length ∧ d ≤ 20 ∧ st.ts.length ≤ st.pos ∧ st.ns.length ≤ st.pos + 1),
  blk pb (.cells #[p.1, .int .i64 st.pos, .int .i64 d, p.2.1, p.2.2.1, .int .i64 p.2.2.2] 86 (0, 0)), tkA p.1 toks, ndA p.2.1 st.ns, tyA p.2.2.1 st.ts]
def parA (pb d : Nat) (toks : List Tok.Tk) (st : Ty.St) : As := exs fun p : Value × Value × Value × Int => stars (parIn pb d toks st p)
structure PRd (w : World) (pb d : Nat) (toks : List Tok.Tk) (st : Ty.St) : Prop where
 holds : ∃ (lv nv tv : Value) (main : Int), w.heap[pb]? = some (.cells #[lv, .int .i64 st.pos, .int .i64 d, nv, tv, .int .i64 main] 86 (0, 0)) ∧ OwnsTk w 0 lv toks
 wf : Toks toks
 fits : st.pos < toks.length ∧ d ≤ 20 ∧ st.ts.length ≤ st.pos ∧ st.ns.length ≤ st.pos + 1
section
variable {w0 w : World} {L : List As}
theorem Prt.Sat.pure (h : Sat w0 w L) (i : Nat) {p : Prop} (hi : L[i]? = some (pur p)) : p := h.get hi fun _ h _ => h
theorem Prt.Sat.openPar {Fr : As} {pb d : Nat} {toks : List Tok.Tk} {st : Ty.St} (h : Sat w0 w [Fr, parA pb d toks st]) : ∃ p, Sat w0 w (Fr :: parIn pb d toks st p) := by
 obtain ⟨p, h⟩ := h.ex (i := 1) rfl
 exact ⟨p, h.unpack (i := 1) rfl⟩
theorem Prt.Sat.shutPar {Fr : As} {pb d : Nat} {toks : List Tok.Tk} {st : Ty.St} {p : Value × Value × Value × Int} (h : Sat w0 w (Fr :: parIn pb d toks st p)) : Sat w0 w [Fr, parA pb d toks st] :=
 (Prt.Sat.pack (L := [Fr]) h).ent (i := 1) rfl fun _ h => ⟨p, h⟩
theorem Prt.Sat.look {Fr : As} {pb d : Nat} {toks : List Tok.Tk} {st : Ty.St} (h : Sat w0 w [Fr, parA pb d toks st]) : PRd w pb d toks st := by
 obtain ⟨⟨lv, nv, tv, main⟩, h⟩ := h.openPar
 have hp := h.pure 1 rfl
 exact ⟨⟨lv, nv, tv, main, h.heap 2 rfl, h.row 3 rfl⟩, hp.1, hp.2⟩
theorem Prt.Sat.setPos {Fr : As} {pb d : Nat} {toks : List Tok.Tk} {st : Ty.St} (h : Sat w0 w [Fr, parA pb d toks st]) (p : Nat) (hp : p < toks.length) (hp2 : st.pos ≤ p) : Sat w0 (w.setCell ⟨pb, 1, none⟩ (.int .i64 p)) [Fr, parA pb d toks { st with pos := p }] := by
 obtain ⟨x, h⟩ := h.openPar
 have hq := h.pure 1 rfl
 refine Prt.Sat.shutPar (p := x) (((h.store 2 rfl 1 (.int .i64 p)).ent (i := 1) rfl (Q := pur _) fun _ _ => ?_))
 exact ⟨hq.1, hp, hq.2.2.1, by have := hq.2; dsimp only; omega, by have := hq.2; dsimp only; omega⟩
theorem Prt.Sat.setDeep {Fr : As} {pb d : Nat} {toks : List Tok.Tk} {st : Ty.St} (h : Sat w0 w [Fr, parA pb d toks st]) (d' : Nat) (hd : d' ≤ 20) : Sat w0 (w.setCell ⟨pb, 2, none⟩ (.int .i64 d')) [Fr, parA pb d' toks st] := by
 obtain ⟨x, h⟩ := h.openPar
 have hq := h.pure 1 rfl
 refine Prt.Sat.shutPar (p := x) (((h.store 2 rfl 2 (.int .i64 d')).ent (i := 1) rfl (Q := pur _) fun _ _ => ?_))
 exact ⟨hq.1, hq.2.1, hd, hq.2.2.2⟩
end
theorem PRd.below {w w' : World} {pb d : Nat} {toks : List Tok.Tk} {st : Ty.St} (h : PRd w pb d toks st) (hb : Below w.heap.size w w') : PRd w' pb d toks st := by
 obtain ⟨⟨lv, nv, tv, main, h1, h2⟩, h3, h4⟩ := h
 exact ⟨⟨lv, nv, tv, main, by rw [hb.block _ (Array.getElem?_eq_some_iff.1 h1).1]; exact h1, owns_below h2 hb⟩, h3, h4⟩
theorem PRd.lt {w : World} {pb d : Nat} {toks : List Tok.Tk} {st : Ty.St} (h : PRd w pb d toks st) : pb < w.heap.size := by
 obtain ⟨⟨lv, nv, tv, main, h1, _⟩, _⟩ := h
 exact (Array.getElem?_eq_some_iff.1 h1).1
theorem PRd.cells {w : World} {pb d : Nat} {toks : List Tok.Tk} {st : Ty.St} (h : PRd w pb d toks st) :
   w.cell? ⟨pb, 1, none⟩ = some (.int .i64 st.pos) ∧ w.cell? ⟨pb, 2, none⟩ = some (.int .i64 d) ∧ ∀ o, w.frozen? ⟨pb, o, none⟩ = false := by
 obtain ⟨⟨lv, nv, tv, main, h1, _⟩, _⟩ := h
 exact ⟨by rw [cell_of_block h1]; rfl, by rw [cell_of_block h1]; rfl, fun o => frozen_of_block h1 o⟩
theorem cur_eq (toks : List Tok.Tk) (pos : Nat) (h : pos < toks.length) : Ty.cur toks pos = toks[pos] := by
 unfold Ty.cur; rw [List.getElem?_eq_getElem h]; rfl
theorem kind_lt {toks : List Tok.Tk} {pos : Nat} (hp : pos < toks.length) (hl : Toks toks) (h : (Ty.cur toks pos).kind ≠ 6) : pos + 1 < toks.length := by
 refine Nat.lt_of_le_of_ne hp fun e => h ?_
 rw [cur_eq toks pos hp]
 exact hl.2 _ (by rw [List.getLast?_eq_getElem?, List.getElem?_eq_getElem (by omega)]; congr 1; simp [← e])
theorem is_lt {toks : List Tok.Tk} {s : List UInt8} {pos : Nat} (hp : pos < toks.length) (hl : Toks toks) (h : Ty.is toks s pos = true) : pos + 1 < toks.length := by
 refine kind_lt hp hl fun e => ?_
 unfold Ty.is at h
 rw [e] at h
 simp at h
theorem tyA_nil (a : Prt.Hp) : tyA (.slice none 0 0) [] a :=
 ⟨[], fun _ => none, fun _ => none, fun _ => .inl rfl, fun _ _ e => (by cases e), fun _ _ e => (by cases e), rfl, fun _ => none, fun _ => none, fun _ => .inl rfl, Prt.le_refl _, Prt.le_refl _, ⟨rfl, .inl ⟨rfl, rfl⟩⟩, fun _ => none, fun _ => none, fun _ => .inl rfl, Prt.le_refl _, Prt.le_refl _, trivial, trivial⟩
theorem ndA_nil (a : Prt.Hp) : ndA (.slice none 0 0) [] a :=
 ⟨[], fun _ => none, fun _ => none, fun _ => .inl rfl, fun _ _ e => (by cases e), fun _ _ e => (by cases e), rfl, fun _ => none, fun _ => none, fun _ => .inl rfl, Prt.le_refl _, Prt.le_refl _, ⟨rfl, .inl ⟨rfl, rfl⟩⟩, fun _ => none, fun _ => none, fun _ => .inl rfl, Prt.le_refl _, Prt.le_refl _, trivial, trivial⟩
theorem Prt.Sat.newPar {w0 w : World} {Fr : As} {pb : Nat} {toks : List Tok.Tk} {lv : Value} (hT : Toks toks ∧ 0 < toks.length) (h : Sat w0 w [Fr, tkA lv toks, blk pb (.cells #[lv, .int .i64 0, .int .i64 0, .slice none 0 0, .slice none 0 0, .int .i64 0] 86 (0, 0))]) : Sat w0 w [Fr, parA pb 0 toks ⟨0, [], []⟩] := by
 have h := ((h.triv ndA_nil).triv tyA_nil).triv (P := pur (Toks toks ∧ 0 < toks.length ∧ (0 : Nat) ≤ 20 ∧ (0 : Nat) ≤ 0 ∧ (0 : Nat) ≤ 0 + 1)) (fun _ => ⟨hT.1, hT.2, by omega⟩)
 exact Prt.Sat.shutPar (p := (lv, .slice none 0 0, .slice none 0 0, 0)) (h.pick [0, 5, 2, 1, 3, 4])
def ftChain (f : Ty.Ft) : List PanicEntry := [{ v := .iface 25 (.agg #[.int .i64 f.1, .int .i64 f.2]), recovered := false }]
end
section
open Go Go.RowKit
open Prt (Sat As blk pur exs star stars)
theorem now_any (w : World) (pb d : Nat) (toks : List Tok.Tk) (st : Ty.St) (h : PRd w pb d toks st) {R : Ending → World → Prop} (hR : ∀ w', Below w.heap.size w w' → R (.returned (tkVal (Ty.cur toks st.pos))) w') :
   Calls Tryz.prog 75 #[.pointer (some ⟨pb, 0, none⟩)] w R := by
 have HR := qh hR
 have hlt := h.lt
 have hl := h.wf.1
 have h5 := h.fits.1
 obtain ⟨⟨lv, nv, tv, main, h1, h2⟩, _⟩ := h
 have c0 : w.cell? ⟨pb, 0, none⟩ = some lv := by rw [cell_of_block h1]; rfl
 have c1 : w.cell? ⟨pb, 1, none⟩ = some (.int .i64 st.pos) := by rw [cell_of_block h1]; rfl
 have hne : toks ≠ [] := by rintro rfl; simp at h5
 obtain ⟨g, cap, rfl, _, hg, _, _, hc⟩ := h2.at hne
 obtain ⟨t0, t1, t2⟩ := hc st.pos h5
 rw [cur_eq toks st.pos h5] at HR
 clear hR h1 h2 hc hne
 generalize toks[st.pos] = t at *
 obtain ⟨kd, tx, ps⟩ := t
 dsimp only at t0 t1 t2
 go_enter Tryz.func75, Tryz.ntmps75
 go_wp2_with fail
 go_region
 go_wp2_with fail
 refine bodyPost_ret ?_ rfl (HR.out _ ?_)
 · simp [results, Tryz.results75, go_sem, tkVal]
 · repeat' (first | exact Below.refl _ _ | apply Below.drew | apply Below.setCell | apply Below.alloc | (simp; done) | (simp; omega) | omega)
theorem is_any (w : World) (pb d : Nat) (toks : List Tok.Tk) (st : Ty.St) (h : PRd w pb d toks st) (x : ByteArray) {R : Ending → World → Prop}
   (hR : ∀ w', Below w.heap.size w w' → R (.returned (.bool (Ty.is toks x.data.toList st.pos))) w') :
   Calls Tryz.prog 210 #[.pointer (some ⟨pb, 0, none⟩), .string x] w R := by
 have HR := qh hR
 unfold Ty.is at HR
 obtain ⟨t, ht⟩ : ∃ t, Ty.cur toks st.pos = t := ⟨_, rfl⟩
 rw [ht] at HR
 have HN := qh (fun w1 (hb : Below w.heap.size w w1) R => @now_any w1 pb d toks st (h.below hb) R)
 rw [ht] at HN
 clear hR h ht
 obtain ⟨kd, tx, ps⟩ := t
 have e1 : (tx.toList == x.toList) = decide (tx.data.toList = x.data.toList) := by rw [ByteArray.toList_eq, ByteArray.toList_eq, Bool.eq_iff_iff]; simp
 have hk : kd = 5 ∨ kd ≠ 5 ∧ kd = 2 ∨ kd ≠ 5 ∧ kd ≠ 2 := by omega
 rcases hk with hk | ⟨hk, hk2⟩ | ⟨hk, hk2⟩
 · subst hk
   have HE := qh e1
   clear e1
   go_enter Tryz.func210, Tryz.ntmps210
   go_wp2_with fail
   refine HN.out _ (Below.refl _ _) _ (fun w1 hb1 => ?_)
   dsimp only [tkVal]
   have HB := qh hb1
   clear hb1
   go_wp2_with fail
   refine ret_eq (HR.out _ ?_) (congrArg Value.bool ?_)
   · repeat' (first | exact HB.out | apply Below.drew | apply Below.setCell | apply Below.alloc | (simp; done) | (simp; omega) | exact HB.out.size)
   · rw [HE.out]; simp
 · subst hk2
   have HE := qh e1
   clear e1 hk
   go_enter Tryz.func210, Tryz.ntmps210
   go_wp2_with fail
   refine HN.out _ (Below.refl _ _) _ (fun w1 hb1 => ?_)
   dsimp only [tkVal]
   have HB := qh hb1
   clear hb1
   go_wp2_with fail
   refine ret_eq (HR.out _ ?_) (congrArg Value.bool ?_)
   · repeat' (first | exact HB.out | apply Below.drew | apply Below.setCell | apply Below.alloc | (simp; done) | (simp; omega) | exact HB.out.size)
   · rw [HE.out]; simp
 · have k1 : ((kd : Int) == 5) = false := by simp; omega
   have k2 : ((kd : Int) == 2) = false := by simp; omega
   clear e1
   go_enter Tryz.func210, Tryz.ntmps210
   go_wp2_with fail
   refine HN.out _ (Below.refl _ _) _ (fun w1 hb1 => ?_)
   dsimp only [tkVal]
   have HB := qh hb1
   clear hb1
   go_wp2_with fail
   refine ret_eq (HR.out _ ?_) (congrArg Value.bool ?_)
   · repeat' (first | exact HB.out | apply Below.drew | apply Below.setCell | apply Below.alloc | (simp; done) | (simp; omega) | exact HB.out.size)
   · simp [hk, hk2]
theorem field_tk2 (a b c : Value) (w : World) : (Instr.field 138 (.agg #[a, b, c]) 2).run Tryz.prog w = .ok c w := by kernel_rfl
theorem fail_any (w : World) (pb d : Nat) (toks : List Tok.Tk) (st : Ty.St) (h : PRd w pb d toks st) (e : Nat) {R : Ending → World → Prop}
   (hR : ∀ w', Below w.heap.size w w' → R (.panicked (ftChain (Ty.here toks e st.pos))) w') :
   Calls Tryz.prog 121 #[.pointer (some ⟨pb, 0, none⟩), .int .i64 e] w R := by
 have HR := qh hR
 unfold Ty.here at HR
 obtain ⟨t, ht⟩ : ∃ t, Ty.cur toks st.pos = t := ⟨_, rfl⟩
 rw [ht] at HR
 have HN := qh (fun R => @now_any w pb d toks st h R)
 rw [ht] at HN
 clear hR h ht
 obtain ⟨kd, tx, ps⟩ := t
 go_enter Tryz.func121, Tryz.ntmps121
 go_wp2_with fail
 refine HN.out _ (fun w1 hb1 => ?_)
 dsimp only [tkVal]
 have HB := qh hb1
 clear hb1
 have hf := field_tk2
 go_wp2_with fail
 exact ⟨rfl, HR.out _ HB.out⟩
section
variable {w0 w : World} {Fr : As} {pb d : Nat} {toks : List Tok.Tk} {st : Ty.St}
theorem take_any (H : Sat w0 w [Fr, parA pb d toks st]) (x : ByteArray) {R : Ending → World → Prop}
   (hyes : ∀ w', Ty.take toks x.data.toList st = .ok (true, { st with pos := st.pos + 1 }) → Sat w0 w' [Fr, parA pb d toks { st with pos := st.pos + 1 }] → R (.returned (.bool true)) w')
   (hno : ∀ w', Ty.take toks x.data.toList st = .ok (false, st) → Sat w0 w' [Fr, parA pb d toks st] → R (.returned (.bool false)) w') :
   Calls Tryz.prog 186 #[.pointer (some ⟨pb, 0, none⟩), .string x] w R := by
 have HY := qh hyes
 have HNO := qh hno
 have HS := qh H
 have hl := H.look
 have HL := qh hl
 clear hyes hno H
 cases hi : Ty.is toks x.data.toList st.pos
 · have HI := qh hi
   clear hi hl
   go_enter Tryz.func186, Tryz.ntmps186
   go_wp2_with fail
   refine is_any w pb d toks st HL.out x (fun w1 hb1 => ?_)
   rw [HI.out]
   have HB := qh hb1
   clear hb1
   go_wp2_with fail
   exact HNO.out _ (by unfold Ty.take; rw [HI.out]; rfl) (HS.out.below HB.out)
 · have hlt := is_lt hl.fits.1 hl.wf hi
   have h5 := hl.wf.1
   have HI := qh hi
   clear hi hl
   go_enter Tryz.func186, Tryz.ntmps186
   go_wp2_with fail
   refine is_any w pb d toks st HL.out x (fun w1 hb1 => ?_)
   rw [HI.out]
   obtain ⟨c1, _, f0⟩ := (HL.out.below hb1).cells
   have HB := qh hb1
   clear hb1
   go_wp2_with fail
   exact HY.out _ (by unfold Ty.take; rw [HI.out]; rfl) ((HS.out.below HB.out).setPos _ hlt (by omega))
theorem need_any (H : Sat w0 w [Fr, parA pb d toks st]) (x : ByteArray) {R : Ending → World → Prop}
   (hyes : ∀ w', Ty.need toks x.data.toList st = .ok ((), { st with pos := st.pos + 1 }) → Sat w0 w' [Fr, parA pb d toks { st with pos := st.pos + 1 }] → R (.returned (.tuple #[])) w')
   (hno : ∀ f w', Ty.need toks x.data.toList st = .error f → Sat w0 w' [Fr] → R (.panicked (ftChain f)) w') :
   Calls Tryz.prog 208 #[.pointer (some ⟨pb, 0, none⟩), .string x] w R := by
 have HY := qh hyes
 have HNO := qh hno
 have HS := qh H
 clear hyes hno H
 go_enter Tryz.func208, Tryz.ntmps208
 go_wp2_with fail
 refine take_any HS.out x (fun w1 hi H1 => ?_) (fun w1 hi H1 => ?_)
 · have HI := qh hi
   have HS1 := qh H1
   clear hi H1
   go_wp2_with fail
   go_end0
   refine HY.out _ ?_ HS1.out
   have hi := HI.out
   unfold Ty.take at hi
   unfold Ty.need
   split at hi
   · rw [if_pos (by assumption)]
   · simp at hi
 · have HI := qh hi
   have HS1 := qh H1
   clear hi H1
   go_wp2_with fail
   refine fail_any w1 pb d toks st HS1.out.look 1 (fun w2 hb2 => ?_)
   have HB := qh (HS1.out.below hb2)
   clear hb2
   go_wp2_with fail
   refine ⟨rfl, HNO.out _ _ ?_ (HB.out.pick [0])⟩
   have hi := HI.out
   unfold Ty.take at hi
   unfold Ty.need
   split at hi
   · simp at hi
   · rw [if_neg (by assumption)]
end
end
section
open Go Go.RowKit
open Prt (Sat As blk pur exs star stars)
theorem infoTy : (Tryz.prog.info? 69).map (fun i => (i.zero, i.size, i.bytes)) = some (some (.agg #[.int .i64 0, .slice none 0 0, .slice none 0 0, .int .i64 0]), 4, 64) := by kernel_rfl
theorem Prt.stars_snoc {L : List As} {P : As} {h : Prt.Hp} (hs : stars [stars L, P] h) : stars (L ++ [P]) h := by
 obtain ⟨a, b, h1, h2, h3, h4, h5⟩ := hs
 exact Prt.stars_append h4 h5 h1 h2 h3
section
variable {w0 w : World} {Fr : As} {pb d : Nat} {toks : List Tok.Tk} {st : Ty.St}
def parTy (pb d : Nat) (toks : List Tok.Tk) (st : Ty.St) (p : Value × Value × Value × Int) (n : Nat) (cells : List Value) (rows : List TyRow) (ts : List Ty.Ty) : List As :=
 [pur (Toks toks ∧ st.pos < toks.length ∧ d ≤ 20 ∧ st.ts.length ≤ st.pos ∧ st.ns.length ≤ st.pos + 1),
  blk pb (.cells #[p.1, .int .i64 st.pos, .int .i64 d, p.2.1, p.2.2.1, .int .i64 p.2.2.2] 86 (0, 0)), tkA p.1 toks, ndA p.2.1 st.ns,
  pur (rows.map TyRow.t = ts), Prt.row 69 4 p.2.2.1 n cells, stars (rows.map tyBits)]
theorem Prt.Sat.openTy {A B : As} (h : Sat w0 w [Fr, parA pb d toks st, A, B]) : ∃ p rows, Sat w0 w (Fr :: A :: B :: parTy pb d toks st p st.ts.length (rows.flatMap tyCells) rows st.ts) := by
 obtain ⟨p, h⟩ := h.ex (i := 1) rfl
 obtain ⟨rows, h⟩ := (h.unpack (i := 1) rfl).ex (i := 7) rfl
 exact ⟨p, rows, h.unpack (i := 7) rfl⟩
theorem Prt.Sat.shutTy {p : Value × Value × Value × Int} {rows : List TyRow} {t : Ty.Ty} {fv lv : Value} (h : Sat w0 w (Fr :: fdA fv t.fields :: inA lv t.list :: parTy pb d toks st p (st.ts.length + 1) (rows.flatMap tyCells ++ tyCells ⟨t, fv, lv⟩) rows st.ts)) (hb : st.ts.length + 1 ≤ st.pos) :
   Sat w0 w [Fr, parA pb d toks { st with ts := st.ts ++ [t] }] := by
 have h := h.pick [0, 3, 4, 5, 6, 7, 8, 9, 1, 2]
 have hq := h.pure 1 rfl
 have hr := h.pure 5 rfl
 have h := Prt.Sat.pack (L := [Fr, _, _, _, _, _, _, stars (rows.map tyBits)]) (M := [fdA fv t.fields, inA lv t.list]) h
 have h := h.ent (i := 8) rfl (Q := tyBits (TyRow.mk t fv lv)) (fun a ha => by
   obtain ⟨x, y, h1, h2, h3, h4, u, v, _, h6, _, h8, _⟩ := ha
   exact ⟨x, y, h1, h2, h3, h4, (by
     obtain ⟨k1, k2⟩ := h8
     refine ⟨k1, ?_⟩
     rcases k2 with k2 | ⟨g, cap, cur, e1, e2, e3⟩
     · exact .inl k2
     · exact .inr ⟨g, cap, cur, e1, h6 _ _ e2, e3⟩)⟩)
 have h := Prt.Sat.pack (L := [Fr, _, _, _, _, _, _]) (M := [stars (rows.map tyBits), tyBits (TyRow.mk t fv lv)]) h
 have h := h.ent (i := 7) rfl (Q := stars ((rows ++ [TyRow.mk t fv lv]).map tyBits)) (fun a ha => by rw [List.map_append]; exact Prt.stars_snoc ha)
 have h := h.ent (i := 5) rfl (Q := pur ((rows ++ [TyRow.mk t fv lv]).map TyRow.t = st.ts ++ [t])) (fun a _ => by show _ = _; rw [List.map_append, hr]; rfl)
 have h := h.ent (i := 6) rfl (Q := Prt.row 69 4 p.2.2.1 (st.ts ++ [t]).length ((rows ++ [TyRow.mk t fv lv]).flatMap tyCells)) (fun a ha => by rw [List.flatMap_append, List.length_append]; exact ha)
 have h := Prt.Sat.pack (L := [Fr, _, _, _, _]) (M := [_, _, _]) h
 have h := h.ent (i := 5) rfl (Q := tyA p.2.2.1 (st.ts ++ [t])) (fun a ha => ⟨_, ha⟩)
 have h := h.ent (i := 1) rfl (Q := pur (Toks toks ∧ st.pos < toks.length ∧ d ≤ 20 ∧ (st.ts ++ [t]).length ≤ st.pos ∧ st.ns.length ≤ st.pos + 1)) (fun a _ => ⟨hq.1, hq.2.1, hq.2.2.1, by simpa using hb, hq.2.2.2.2⟩)
 exact Prt.Sat.shutPar (p := p) h
theorem newType_any (t : Ty.Ty) (fv lv : Value) (H : Sat w0 w [Fr, parA pb d toks st, fdA fv t.fields, inA lv t.list]) (hb : st.ts.length + 1 ≤ st.pos)
   {R : Ending → World → Prop} (hR : ∀ w', Sat w0 w' [Fr, parA pb d toks { st with ts := st.ts ++ [t] }] → R (.returned (.int .i64 st.ts.length)) w') :
   Calls Tryz.prog 187 #[.pointer (some ⟨pb, 0, none⟩), .agg #[.int .i64 t.kind, fv, lv, .int .i64 t.of]] w R := by
 have HR := qh hR
 obtain ⟨i0, ti, tz0, tz1, tz2⟩ := info_parts infoTy
 obtain ⟨⟨lv0, nv, tv, main⟩, rows, hs⟩ := H.openTy
 have hs : Sat w0 w (Fr :: fdA fv t.fields :: inA lv t.list :: parTy pb d toks st (lv0, nv, tv, main) st.ts.length (rows.flatMap tyCells) rows st.ts) := hs
 have hq := hs.pure 3 rfl
 have hlen := hq.1.1
 have hpos := hq.2.1
 have hts : st.ts.length ≤ 1000 := by omega
 have c4 := hs.cell 4 rfl 4 rfl
 have f4 := hs.free 4 rfl 4
 have hlt := hs.lt 4 rfl
 have hr := hs.row 8 rfl
 obtain ⟨a, cap0, rfl⟩ := owns_slice hr
 obtain ⟨fa, fc, rfl⟩ := owns_slice (hs.row 1 rfl)
 obtain ⟨la, lc, rfl⟩ := owns_slice (hs.row 2 rfl)
 have HROW := qh hr
 have HS := qh hs
 have HB := qh hb
 clear hR H hs hq hr hb
 go_enter Tryz.func187, Tryz.ntmps187
 go_wp2_with fail
 go_region_law (first
   | (go_loud (refine step_append_lies _ (by rfl) _ _ _ (by rfl) 0 69 i0 _ 4 64 Tryz.underlying29 ti tz0 tz1 tz2 rfl (by omega) (.slice a st.ts.length cap0) st.ts.length (rows.flatMap tyCells) (by rfl) (((HROW.out.alloc _).alloc _).drew) ⟨w.heap.size + 1, 0, none⟩ 1 1 [.int .i64 t.kind, .slice fa t.fields.length fc, .slice la t.list.length lc, .int .i64 t.of] (by rfl) (by rfl) (World.news_of_block (cs := #[.int .i64 t.kind, .slice fa t.fields.length fc, .slice la t.list.length lc, .int .i64 t.of]) (t := 69) (fr := (0, 0)) (heap_drew_at (heap_alloc_at' _ _ _ (by simp)))) (by simp [Value.oneCell']) (by omega) (by have := HB.out; unfold maxLen; omega) (by have := HB.out; omega) (by simp) (w.heap.size + 2) (by simp) ?_); intro g cap w1 hown1 hgrow hat hlt1; have h1 := Prt.Sat.grow ((HS.out.waste _).waste _).drew 8 rfl hgrow hown1 (by simpa using hat); have d4 := h1.cell 4 rfl 4 rfl; have e4 := h1.free 4 rfl 4; have H1 := qh h1; clear h1))
 all_goals
   clear hown1 hgrow
   go_wp2_with fail
   exact HR.out _ (Prt.Sat.shutTy (p := (lv0, nv, .slice (some ⟨g, 0, none⟩) (st.ts.length + 1) cap, main)) (rows := rows) (H1.out.store 4 rfl 4 _) HB.out)
end
end
end Go.Proofs.YtdlbhiaceheffabGreatDoor
