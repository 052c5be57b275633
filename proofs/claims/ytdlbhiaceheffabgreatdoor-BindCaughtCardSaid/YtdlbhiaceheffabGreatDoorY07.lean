/- Walk of token.Scan. -/
import Derived.OwnWalk
import Derived.WalkSpells
import Derived.Deep.LoopGhost
import Derived.WalkSmall
import Derived.Shelf.SlSortCmp.WholeK
import Derived.Ground.SlsfProg
import Derived.Test.YtdlbhiaceheffabGreatDoorProg
import Derived.Shelf.Sort.Plain
import Derived.Shelf.Slices.In.SortNone
import Derived.Test.YtdlbhiaceheffabGreatDoorY02
set_option linter.all false
set_option maxRecDepth 100000
set_option maxHeartbeats 1000000
namespace Go.Proofs.YtdlbhiaceheffabGreatDoor
section
open Go Go.RowKit
def bf (t : Tok.Tk) : List Value := [.int .i64 t.kind, .string t.text, .int .i64 t.pos]
def dG (w : World) (base : Nat) (v : Value) (l : List Tok.Tk) : Prop := w.ownsRow base 138 3 v l.length (l.flatMap bf)
theorem Bc : (Tryz.prog.info? 138).map (fun i => (i.zero, i.size, i.bytes)) = some (some (.agg #[.int .i64 0, .string ⟨#[]⟩, .int .i64 0]), 3, 32) := by kernel_rfl
theorem ja (s : ByteArray) (k : Nat) (h : k < s.size) : (Tok.byte s k = 32 ∨ Tok.byte s k = 10) ↔ ((s[k].toNat : Int) = 32 ∨ (s[k].toNat : Int) = 10) := by
 rw [← Tok.byte_eq s k h, Tok.is32, Tok.is10]
theorem ag {w : World} {base : Nat} {e : TypeId} {size : Nat} {v : Value} {n : Nat} {xs : List Value} (h : w.ownsRow base e size v n xs) : ∃ (a : Option Addr) (cap : Nat), v = .slice a n cap := by
 rcases h.2 with ⟨rfl, rfl⟩ | ⟨g, cap, cur, rfl, _⟩
 · exact ⟨_, _, rfl⟩
 · exact ⟨_, _, rfl⟩
theorem aH {w w' : World} {base : Nat} {e : TypeId} {size : Nat} {v : Value} {n : Nat} {xs : List Value} (h : w.ownsRow base e size v n xs) (hb : Below w.heap.size w w') : w'.ownsRow base e size v n xs :=
 h.kept (row := none) ⟨hb.os, hb.tape, hb.output, hb.size, fun k hk _ => hb.block k hk⟩ (by cases v.ownBlock <;> simp)
theorem yw (s : ByteArray) (w : World) (hm : s.size ≤ maxLen) (hs : 4000 < s.size) {R : Ending → World → Prop}
   (hR : ∀ w', Below w.heap.size w w' → R (.returned (.tuple #[.slice none 0 0, .agg #[.int .i64 2, .int .i64 0]])) w') :
   Calls Tryz.prog 72 #[.string s] w R := by
 have HR := qh hR
 clear hR
 unfold maxLen at hm
 go_enter Tryz.func72, Tryz.ntmps72
 go_wp2_with fail
 refine bodyPost_ret ?_ rfl (HR.out _ ?_)
 · simp [results, Tryz.results72, go_sem]
 · exact bM _ _
theorem uU (s : ByteArray) (w : World) (hw : Words w) (hs : s.size ≤ 4000) {R : Ending → World → Prop}
   (hok : ∀ l v w', Tok.scan s = .ok l → Below w.heap.size w w' → dG w' (w.heap.size + 1) v l → R (.returned (.tuple #[v, .agg #[.int .i64 0, .int .i64 0]])) w')
   (hbad : ∀ (e p : Nat) w', Tok.scan s = .error (e, p) → Below w.heap.size w w' → R (.returned (.tuple #[.slice none 0 0, .agg #[.int .i64 e, .int .i64 p]])) w') :
   Calls Tryz.prog 72 #[.string s] w R := by
 have HOK := qh hok
 have HBAD := qh hbad
 have HW := qh hw
 clear hok hbad hw
 obtain ⟨i0, ti, tz0, tz1, tz2⟩ := info_parts Bc
 have hE : Tok.scanFrom s (s.size + 1) 0 [] = Tok.scan s := by unfold Tok.scan; rw [if_neg (by omega)]
 have HE := qh hE
 clear hE
 go_enter Tryz.func72, Tryz.ntmps72
 go_wp2_with fail
 go_loopw [4, 5] (fun v i wr => ∃ (k f : Nat) (l : List Tok.Tk), i = .int .i64 k ∧ k ≤ s.size ∧ s.size < k + f ∧ Hid (Tok.scanFrom s f k l = Tok.scan s) ∧ l.length ≤ 1000 ∧ dG wr (w.heap.size + 1) v l ∧ Hid (Below w.heap.size w wr) ∧ w.heap.size < wr.heap.size ∧ Hid (wr.heap[w.heap.size]? = some (.cells #[.int .i64 0, .int .i64 0] 25 (0, 0))))
   (fun _ i _ => s.size - (intOf i).toNat)
 case atStart =>
   exact ⟨0, s.size + 1, [], rfl, by omega, by omega, HE.out, by simp, World.ownsRow_nil _ _ _ _, bM _ _, by simp, heap_alloc_new w _⟩
 case round =>
   obtain ⟨k, f, l, rfl, hk, hf, hE, hl, hown, hbel, hz, hflt⟩ := hrel
   clear HE
   by_cases hlt : k < s.size
   · by_cases hb : Tok.byte s k = 32 ∨ Tok.byte s k = 10
     · have hB := hb
       rw [ja s k hlt] at hb
       have hstep : Hid (Tok.scanFrom s (f - 1) (k + 1) l = Tok.scan s) := by
         rw [← hE.out]
         obtain ⟨g, rfl⟩ : ∃ g, f = g + 1 := ⟨f - 1, by omega⟩
         simp only [Nat.add_sub_cancel]
         rw [Tok.scanFrom, if_pos hlt, if_pos hB]; rfl
       clear hB hE
       rcases hb with hb | hb
       · have hb1 : ((s[k].toNat : Int) == 32) = true := by simp [hb]
         clear hb
         go_wp2_with fail
         go_roundw
         case rel => exact ⟨k + 1, f - 1, l, by go_num, by omega, by omega, hstep, hl, hown, hbel, hz, hflt⟩
         case measure => simp [intOf]; omega
       · have hb0 : ((s[k].toNat : Int) == 32) = false := by simp [hb]
         have hb1 : ((s[k].toNat : Int) == 10) = true := by simp [hb]
         clear hb
         go_wp2_with fail
         go_roundw
         case rel => exact ⟨k + 1, f - 1, l, by go_num, by omega, by omega, hstep, hl, hown, hbel, hz, hflt⟩
         case measure => simp [intOf]; omega
     · have hB := hb
       rw [ja s k hlt] at hb
       have hb0 : ((s[k].toNat : Int) == 32) = false := by simp; omega
       have hb1 : ((s[k].toNat : Int) == 10) = false := by simp; omega
       clear hb
       obtain ⟨t, n, ok, hnx⟩ : ∃ t n ok, Tok.next s k = (t, n, ok) := ⟨_, _, _, rfl⟩
       obtain ⟨kd, tx, ps⟩ := t
       have hstep : Hid (Tok.scan s = if ok = false then .error (1, k) else if l.length = 1000 then .error (2, k) else Tok.scanFrom s (f - 1) (k + n) (l ++ [⟨kd, tx, ps⟩])) := by
         rw [← hE.out]
         obtain ⟨g, rfl⟩ : ∃ g, f = g + 1 := ⟨f - 1, by omega⟩
         rw [Tok.scanFrom, if_pos hlt, if_neg hB, hnx]; rfl
       have hbound : ok = true → 1 ≤ n ∧ k + n ≤ s.size := fun h => by
         have := Tok.next_bound s k hlt (by rw [hnx]; exact h)
         rw [hnx] at this; exact this
       have HN : Hid (∀ (w1 : World) (R : Ending → World → Prop), Below w.heap.size w w1 → (∀ w', Below w1.heap.size w1 w' → R (.returned (.tuple #[aQ ⟨kd, tx, ps⟩, .int .i64 n, .bool ok])) w') → Calls Tryz.prog 129 #[.string s, .int .i64 k] w1 R) :=
         fun w1 R hb h => one_any s k w1 (HW.out.below hb) hs hlt (by rw [hnx]; exact h)
       clear hB hE hnx
       cases ok
       · go_wp2_with fail
         refine HN.out _ _ hbel.out (fun w1 hb1 => ?_)
         dsimp only [aQ]
         have HBEL := qh (hbel.out.trans (hb1.mono (by omega)))
         have hz1 : w.heap.size < w1.heap.size := by have := hb1.size; omega
         have hc : w1.heap[w.heap.size]? = some (.cells #[.int .i64 0, .int .i64 0] 25 (0, 0)) := by
           rw [hb1.block _ (by omega)]; exact hflt.out
         have c0 : w1.cell? ⟨w.heap.size, 0, none⟩ = some (.int .i64 0) := by rw [cell_of_block hc]; rfl
         have c1 : w1.cell? ⟨w.heap.size, 1, none⟩ = some (.int .i64 0) := by rw [cell_of_block hc]; rfl
         have f0 : ∀ o, w1.frozen? ⟨w.heap.size, o, none⟩ = false := fun o => aN hc o
         clear hb1 hc hflt hbel
         go_wp2_with fail
         refine bodyPost_ret ?_ rfl (HBAD.out 1 k _ ?_ ?_)
         · simp [results, Tryz.results72, go_sem, c0, c1, hz1]
         · rw [hstep.out]; rfl
         · repeat' (first | exact HBEL.out | apply Below.drew | apply Below.setCell | apply Below.alloc | (simp; done) | (simp; omega))
       · obtain ⟨hn1, hn2⟩ := hbound rfl
         clear hbound
         obtain ⟨a, cap, rfl⟩ := ag hown
         go_wp2_with fail
         refine HN.out _ _ hbel.out (fun w1 hb1 => ?_)
         dsimp only [aQ]
         have HBEL := qh (hbel.out.trans (hb1.mono (by omega)))
         have hz1 : w.heap.size < w1.heap.size := by have := hb1.size; omega
         have hown1 : dG w1 (w.heap.size + 1) (.slice a l.length cap) l := aH hown hb1
         have hc : w1.heap[w.heap.size]? = some (.cells #[.int .i64 0, .int .i64 0] 25 (0, 0)) := by
           rw [hb1.block _ (by omega)]; exact hflt.out
         have c0 : w1.cell? ⟨w.heap.size, 0, none⟩ = some (.int .i64 0) := by rw [cell_of_block hc]; rfl
         have c1 : w1.cell? ⟨w.heap.size, 1, none⟩ = some (.int .i64 0) := by rw [cell_of_block hc]; rfl
         have f0 : ∀ o, w1.frozen? ⟨w.heap.size, o, none⟩ = false := fun o => aN hc o
         have HOWN := qh hown1
         have HC := qh hc
         clear hb1 hc hflt hbel hown hown1
         by_cases hl2 : l.length = 1000
         · have hl3 : ((l.length : Int) == 1000) = true := by simp [hl2]
           have HL := qh hl2
           clear hl2
           go_wp2_with fail
           refine bodyPost_ret ?_ rfl (HBAD.out 2 k _ ?_ ?_)
           · simp [results, Tryz.results72, go_sem, c0, c1, hz1]
           · rw [hstep.out, if_neg (by simp), if_pos HL.out]
           · repeat' (first | exact HBEL.out | apply Below.drew | apply Below.setCell | apply Below.alloc | (simp; done) | (simp; omega))
         · have hl3 : ((l.length : Int) == 1000) = false := by simp; omega
           have hl4 : l.length < 1000 := by omega
           clear hl2
           go_wp2_with (at_builtin; go_loud (refine wpList_append_own _ rfl (.tmp 45) (.tmp 47) 84 rfl (w.heap.size + 1) 138 i0 _ 3 32 Tryz.underlying84 ti tz0 tz1 tz2 rfl (by decide) _ _ _ rfl ((HOWN.out.alloc _).alloc _) ⟨w1.heap.size + 1, 0, none⟩ 1 1 [.int .i64 kd, .string tx, .int .i64 ps] rfl rfl ?c1 ?c2 ?c3 ?c4 ?c5 ?_))
           case c1 =>
             intro j u hj
             match j, hj with
             | 0, hj => simp at hj; subst hj; simp [Addr.add]
             | 1, hj => simp at hj; subst hj; simp [Addr.add]
             | 2, hj => simp at hj; subst hj; simp [Addr.add]
           case c2 => intro u hu; simp at hu; rcases hu with rfl | rfl | rfl <;> rfl
           case c3 => unfold maxLen; omega
           case c4 => omega
           case c5 => simp; omega
           intro v' w2 hown2 hgrow _
           have hown3 : dG w2 (w.heap.size + 1) v' (l ++ [⟨kd, tx, ps⟩]) := by
             have e : (l ++ [(⟨kd, tx, ps⟩ : Tok.Tk)]).flatMap bf = l.flatMap bf ++ [.int .i64 kd, .string tx, .int .i64 ps] := by simp [bf]
             unfold dG
             rw [e, List.length_append]
             exact hown2
           have hlt2 := World.ownsRow.lt HOWN.out
           have hb2 : Below w.heap.size w w2 := ((((HBEL.out).alloc (by omega) _).alloc (by simp; omega) _).grown hgrow (by simp; omega) (fun j hj => by have := (hlt2 j hj).1; omega))
           have hz2 : w.heap.size < w2.heap.size := by have := hgrow.size; simp at this; omega
           have hc2 : w2.heap[w.heap.size]? = some (.cells #[.int .i64 0, .int .i64 0] 25 (0, 0)) := by
             rw [hgrow.block _ (by simp; omega) (fun e => by have := (hlt2 _ e.symm).1; omega), heap_alloc_old _ _ (by simp; omega), heap_alloc_old _ _ (by omega)]
             exact HC.out
           have hst : Hid (Tok.scanFrom s (f - 1) (k + n) (l ++ [⟨kd, tx, ps⟩]) = Tok.scan s) := by
             rw [hstep.out, if_neg (by simp), if_neg (by omega)]; rfl
           have HB2 := qh hb2
           have HC2 := qh hc2
           have HO3 := qh hown3
           clear hown2 hgrow hlt2 hb2 hc2 hown3 HOWN HC HBEL c0 c1 f0 hstep
           go_wp2_with fail
           go_roundw
           case rel => exact ⟨k + n, f - 1, l ++ [⟨kd, tx, ps⟩], by go_num, by omega, by omega, hst, by simp; omega, HO3.out, HB2, hz2, HC2⟩
           case measure => simp [intOf]; omega
   · have hfin : Tok.scan s = .ok (l ++ [⟨6, ⟨#[]⟩, s.size⟩]) := by
       rw [← hE.out]
       obtain ⟨g, rfl⟩ : ∃ g, f = g + 1 := ⟨f - 1, by omega⟩
       rw [Tok.scanFrom, if_neg hlt]
     have HF := qh hfin
     obtain ⟨a, cap, rfl⟩ := ag hown
     have HOWN := qh hown
     clear hfin hE hown
     go_wp2_with (at_builtin; go_loud (refine wpList_append_own _ rfl (.tmp 52) (.tmp 56) 84 rfl (w.heap.size + 1) 138 i0 _ 3 32 Tryz.underlying84 ti tz0 tz1 tz2 rfl (by decide) _ _ _ rfl (HOWN.out.alloc _) ⟨wr.heap.size, 0, none⟩ 1 1 [.int .i64 6, .string ⟨#[]⟩, .int .i64 s.size] rfl rfl ?d1 ?d2 ?d3 ?d4 ?d5 ?_))
     case d1 =>
       intro j u hj
       match j, hj with
       | 0, hj => simp at hj; subst hj; simp [Addr.add]
       | 1, hj => simp at hj; subst hj; simp [Addr.add]
       | 2, hj => simp at hj; subst hj; simp [Addr.add]
     case d2 => intro u hu; simp at hu; rcases hu with rfl | rfl | rfl <;> rfl
     case d3 => unfold maxLen; omega
     case d4 => omega
     case d5 => simp; omega
     intro v' w2 hown2 hgrow _
     have hown3 : dG w2 (w.heap.size + 1) v' (l ++ [⟨6, ⟨#[]⟩, s.size⟩]) := by
       have e : (l ++ [(⟨6, ⟨#[]⟩, s.size⟩ : Tok.Tk)]).flatMap bf = l.flatMap bf ++ [.int .i64 6, .string ⟨#[]⟩, .int .i64 s.size] := by simp [bf]
       unfold dG
       rw [e, List.length_append]
       exact hown2
     have hlt2 := World.ownsRow.lt HOWN.out
     have hb2 : Below w.heap.size w w2 := (((hbel.out).alloc (by omega) _).grown hgrow (by simp; omega) (fun j hj => by have := (hlt2 j hj).1; omega))
     have hz2 : w.heap.size < w2.heap.size := by have := hgrow.size; simp at this; omega
     have hc : w2.heap[w.heap.size]? = some (.cells #[.int .i64 0, .int .i64 0] 25 (0, 0)) := by
       rw [hgrow.block _ (by simp; omega) (fun e => by have := (hlt2 _ e.symm).1; omega), heap_alloc_old _ _ (by omega)]
       exact hflt.out
     have c0 : w2.cell? ⟨w.heap.size, 0, none⟩ = some (.int .i64 0) := by rw [cell_of_block hc]; rfl
     have c1 : w2.cell? ⟨w.heap.size, 1, none⟩ = some (.int .i64 0) := by rw [cell_of_block hc]; rfl
     have f0 : ∀ o, w2.frozen? ⟨w.heap.size, o, none⟩ = false := fun o => aN hc o
     have HB2 := qh hb2
     have HO3 := qh hown3
     clear hown2 hgrow hlt2 hb2 hc hown3 HOWN hbel hflt
     go_wp2_with fail
     refine bodyPost_ret ?_ rfl (HOK.out _ v' _ HF.out ?_ ?_)
     · simp [results, Tryz.results72, go_sem, c0, c1]
     · repeat' (first | exact HB2.out | apply Below.drew | apply Below.setCell | apply Below.alloc | (simp; done) | (simp; omega))
     · repeat' (first | exact HO3.out | apply ownsRow_setCell_below | (simp; done))
theorem dm (c : UInt8) (w : World) {R : Ending → World → Prop} (hR : R (.returned (.bool (Tok.isDigit c))) w) :
   Calls Tryz.prog 135 #[.int .u8 (c.toNat : Int)] w R := by
 have HR := qh hR
 clear hR
 go_enter Tryz.func135, Tryz.ntmps135
 go_wp2
 all_goals
   refine dh HR.out (congrArg Value.bool ?_)
   rw [Bool.eq_iff_iff]; simp [Tok.isDigit]; try omega
theorem cu (c : UInt8) (w : World) {R : Ending → World → Prop} (hR : R (.returned (.bool (Tok.isLetter c))) w) :
   Calls Tryz.prog 134 #[.int .u8 (c.toNat : Int)] w R := by
 have HR := qh hR
 clear hR
 go_enter Tryz.func134, Tryz.ntmps134
 go_wp2
 all_goals
   refine dh HR.out (congrArg Value.bool ?_)
   rw [Bool.eq_iff_iff]; simp [Tok.isLetter]; try omega
def lC : Array Value := #[.string ⟨#[108, 101, 116]⟩, .string ⟨#[102, 110]⟩, .string ⟨#[105, 102]⟩, .string ⟨#[101, 108, 115, 101]⟩, .string ⟨#[119, 104, 105, 108, 101]⟩, .string ⟨#[114, 101, 116, 117, 114, 110]⟩, .string ⟨#[112, 114, 105, 110, 116]⟩, .string ⟨#[116, 114, 117, 101]⟩, .string ⟨#[102, 97, 108, 115, 101]⟩, .string ⟨#[110, 117, 108, 108]⟩, .string ⟨#[97, 115]⟩, .string ⟨#[116, 121, 112, 101, 111, 102]⟩, .string ⟨#[110, 117, 109]⟩, .string ⟨#[98, 111, 111, 108]⟩, .string ⟨#[116, 101, 120, 116]⟩, .string ⟨#[97, 110, 121]⟩, .string ⟨#[117, 110, 107, 110, 111, 119, 110]⟩]
theorem o9 (w : World) {R : Ending → World → Prop} (hR : R (.returned (.slice (some ⟨w.heap.size, 0, none⟩) 17 17)) (w.alloc (.cells lC 9))) :
   Calls Tryz.prog 137 #[] w R := by
 have HR := qh hR
 clear hR
 go_enter Tryz.func137, Tryz.ntmps137
 go_wp2_with fail
 exact HR.out
theorem rV : lC = (Tok.words.map Value.string).toArray := rfl
theorem mD (W : World) (b : Nat) (h : W.heap[b]? = some (.cells lC 9 (0, 0))) : ∀ j, j < Tok.words.length → W.cell? ⟨b, 0 + j, none⟩ = some (.string (Tok.words.getD j ByteArray.empty)) := by
 intro j hj
 rw [cell_of_block h, rV, Nat.zero_add]
 simp [hj]
theorem ak (w : World) (o : Obj) (b : Nat) (h : b = w.heap.size) : (w.alloc o).heap[b]? = some o := by subst h; exact heap_alloc_new w o
theorem aV {w : World} {o : Obj} {b : Nat} (h : w.heap[b]? = some o) : w.drew.heap[b]? = some o := h
theorem zF (a b : UInt8) : (false || a == b) = ((a.toNat : Int) == (b.toNat : Int)) := by
 rw [Bool.eq_iff_iff]; simp [← UInt8.toNat_inj]; omega
theorem eX (a b : ByteArray) : (a.toList == b.toList) = true ↔ a = b := by
 rw [ByteArray.toList_eq, ByteArray.toList_eq, beq_iff_eq]
 constructor
 · intro h; exact ByteArray.ext (Array.ext' h)
 · rintro rfl; rfl
theorem pR (a b : ByteArray) (h : (a.toList == b.toList) = false) : a ≠ b := fun e => by
 rw [(eX a b).2 e] at h; exact Bool.noConfusion h
theorem kE (b off cap n : Nat) (l : List ByteArray) (x : ByteArray) (w : World) (hl : l.length ≤ 100000) (hn : l.length = n) (hc : ∀ j, j < l.length → w.cell? ⟨b, off + j, none⟩ = some (.string (l.getD j ByteArray.empty)))
   {R : Ending → World → Prop} (hR : ∀ r : Bool, (r = true ↔ x ∈ l) → R (.returned (.bool r)) w) :
   Calls Tryz.prog 136 #[.slice (some ⟨b, off, none⟩) n cap, .string x] w R := by
 subst hn
 have HR := qh hR
 clear hR
 go_enter Tryz.func136, Tryz.ntmps136
 go_wp2_with fail
 go_loop [5] (fun i => ∃ k : Nat, k ≤ l.length ∧ i = .int .i64 k ∧ Hid (∀ y ∈ l.take k, y ≠ x)) (fun i => l.length - (intOf i).toNat)
 case atStart => exact ⟨0, Nat.zero_le _, rfl, by simp [Hid]⟩
 case round =>
   obtain ⟨k, hk, rfl, he⟩ := hrel
   by_cases hlt : k < l.length
   · have hck := hc k hlt
     have HC := qh hc
     clear hc
     go_wp2_with fail
     · have h : (l[k].toList == x.toList) = true := by assumption
       exact HR.out true ⟨fun _ => (eX _ _).1 h ▸ List.getElem_mem _, fun _ => rfl⟩
     · have h : (l[k].toList == x.toList) = false := by assumption
       go_round
       case rel =>
         refine ⟨k + 1, by omega, by go_num, fun y hy => ?_⟩
         rw [List.take_succ_eq_append_getElem hlt, List.mem_append] at hy
         rcases hy with hy | hy
         · exact he.out y hy
         · simp at hy; subst hy; exact pR _ _ h
       case measure => simp [intOf]; omega
   · clear hc
     go_wp2_with fail
     refine HR.out false ⟨(fun h => by cases h), fun h => ?_⟩
     exact (he.out x (by rw [List.take_of_length_le (by omega)]; exact h) rfl).elim
theorem Bl (l : List Tok.Tk) (k : Nat) (h : k < l.length) : (l.flatMap bf)[k * 3]? = some (.int .i64 l[k].kind) ∧ (l.flatMap bf)[k * 3 + 1]? = some (.string l[k].text) ∧ (l.flatMap bf)[k * 3 + 2]? = some (.int .i64 l[k].pos) := by
 induction l generalizing k with
 | nil => simp at h
 | cons a l ih =>
   cases k with
   | zero => simp [bf]
   | succ k =>
     have := ih k (by simpa using h)
     simp only [List.flatMap_cons, List.getElem_cons_succ]
     refine ⟨?_, ?_, ?_⟩
     · rw [List.getElem?_append_right (by simp [bf]; omega)]; rw [show (k + 1) * 3 - (bf a).length = k * 3 by simp [bf]; omega]; exact this.1
     · rw [List.getElem?_append_right (by simp [bf]; omega)]; rw [show (k + 1) * 3 + 1 - (bf a).length = k * 3 + 1 by simp [bf]; omega]; exact this.2.1
     · rw [List.getElem?_append_right (by simp [bf]; omega)]; rw [show (k + 1) * 3 + 2 - (bf a).length = k * 3 + 2 by simp [bf]; omega]; exact this.2.2
theorem dG.at {w : World} {B : Nat} {v : Value} {l : List Tok.Tk} (h : dG w B v l) (hne : l ≠ []) :
   ∃ g cap : Nat, v = .slice (some ⟨g, 0, none⟩) l.length cap ∧ B ≤ g ∧ g < w.heap.size ∧ l.length ≤ cap ∧ cap ≤ maxLen ∧ ∀ k (hk : k < l.length), w.cell? ⟨g, k * 3, none⟩ = some (.int .i64 l[k].kind) ∧ w.cell? ⟨g, k * 3 + 1, none⟩ = some (.string l[k].text) ∧ w.cell? ⟨g, k * 3 + 2, none⟩ = some (.int .i64 l[k].pos) := by
 have hc := fun g => World.ownsRow.cells (g := g) h
 have hlt := World.ownsRow.lt h
 rcases h.2 with ⟨_, h0⟩ | ⟨g, cap, cur, rfl, hg, hh, hn, hm, _⟩
 · exact absurd (List.eq_nil_of_length_eq_zero h0) hne
 · refine ⟨g, cap, rfl, hg, (hlt g rfl).2, hn, hm, fun k hk => ?_⟩
   obtain ⟨a1, a2, a3⟩ := Bl l k hk
   have e : ∀ j, (⟨g, 0, none⟩ : Addr).add j = ⟨g, j, none⟩ := fun j => by unfold Addr.add; split <;> simp_all
   refine ⟨?_, ?_, ?_⟩
   · rw [← e]; exact hc g rfl _ _ a1
   · rw [← e]; exact hc g rfl _ _ a2
   · rw [← e]; exact hc g rfl _ _ a3
theorem mZ (s : ByteArray) (h : 4000 < s.size) : Tok.scan s = .error (2, 0) := by unfold Tok.scan; rw [if_pos h]
theorem zG (s : ByteArray) (w : World) (hw : Words w) (hm : s.size ≤ maxLen) {R : Ending → World → Prop}
   (hok : ∀ l v w', Tok.scan s = .ok l → Below w.heap.size w w' → dG w' (w.heap.size + 1) v l → R (.returned (.tuple #[v, .agg #[.int .i64 0, .int .i64 0]])) w')
   (hbad : ∀ (e p : Nat) w', Tok.scan s = .error (e, p) → Below w.heap.size w w' → R (.returned (.tuple #[.slice none 0 0, .agg #[.int .i64 e, .int .i64 p]])) w') :
   Calls Tryz.prog 72 #[.string s] w R := by
 by_cases hs : s.size ≤ 4000
 · exact uU s w hw hs hok hbad
 · exact yw s w hm (by omega) (fun w' hb => hbad 2 0 w' (mZ s (by omega)) hb)
theorem Below.at {w w' : World} {B k : Nat} {o : Obj} (h : Below B w w') (hk : k < B) (e : w.heap[k]? = some o) : w'.heap[k]? = some o := (h.block k hk).trans e
end
end Go.Proofs.YtdlbhiaceheffabGreatDoor
namespace Go.Proofs
open Go.Shelf
def Tryz.sortBd_ren : Go.Shelf.Ren := ⟨fun | 6 => 83 | 15 => 91 | 14 => 133 | 28 => 150 | 29 => 151 | 20 => 219 | 21 => 220 | 22 => 221 | 23 => 222 | 24 => 223 | 25 => 224 | 26 => 225 | 27 => 226 | 46 => 288 | 47 => 236 | 48 => 237 | 49 => 289 | 50 => 290 | 57 => 322 | n => n, fun | 22 => 36 | 24 => 43 | 25 => 149 | 3 => 3 | 39 => 158 | 0 => 0 | 53 => 209 | 55 => 211 | 4 => 4 | 46 => 202 | 45 => 201 | 50 => 118 | 5 => 5 | 9 => 9 | 66 => 248 | 70 => 252 | 76 => 279 | 77 => 280 | n => n, fun | n => n⟩
theorem Tryz.sortBd : Go.Proofs.SlLaysF0.n6 Tryz.prog Tryz.sortBd_ren := {
 mixed := by kernel_rfl
 f6 := ⟨Tryz.f83.name, by decide, Tryz.func83.trans (congrArg some (by kernel_rfl))⟩
 f14 := ⟨Tryz.f133.name, by decide, Tryz.func133.trans (congrArg some (by kernel_rfl))⟩
 f15 := Tryz.func91.trans (congrArg some (by kernel_rfl))
 f20 := ⟨Tryz.f219.name, by decide, Tryz.func219.trans (congrArg some (by kernel_rfl))⟩
 f21 := ⟨Tryz.f220.name, by decide, Tryz.func220.trans (congrArg some (by kernel_rfl))⟩
 f22 := ⟨Tryz.f221.name, by decide, Tryz.func221.trans (congrArg some (by kernel_rfl))⟩
 f23 := ⟨Tryz.f222.name, by decide, Tryz.func222.trans (congrArg some (by kernel_rfl))⟩
 f24 := ⟨Tryz.f223.name, by decide, Tryz.func223.trans (congrArg some (by kernel_rfl))⟩
 f25 := ⟨Tryz.f224.name, by decide, Tryz.func224.trans (congrArg some (by kernel_rfl))⟩
 f26 := ⟨Tryz.f225.name, by decide, Tryz.func225.trans (congrArg some (by kernel_rfl))⟩
 f27 := ⟨Tryz.f226.name, by decide, Tryz.func226.trans (congrArg some (by kernel_rfl))⟩
 f28 := Tryz.func150.trans (congrArg some (by kernel_rfl))
 f29 := Tryz.func151.trans (congrArg some (by kernel_rfl))
 f46 := ⟨Tryz.f288.name, by decide, Tryz.func288.trans (congrArg some (by kernel_rfl))⟩
 f47 := Tryz.func236.trans (congrArg some (by kernel_rfl))
 f48 := Tryz.func237.trans (congrArg some (by kernel_rfl))
 f49 := ⟨Tryz.f289.name, by decide, Tryz.func289.trans (congrArg some (by kernel_rfl))⟩
 f50 := ⟨Tryz.f290.name, by decide, Tryz.func290.trans (congrArg some (by kernel_rfl))⟩
 f57 := ⟨Tryz.f322.name, by decide, Tryz.func322.trans (congrArg some (by kernel_rfl))⟩
 t0 := Tryz.underlying0
 a0 := Tryz.isAgg0
 z0 := Tryz.sizeOf0
 v0 := Tryz.zeroValue0
 t3 := Tryz.underlying3
 a3 := Tryz.isAgg3
 z3 := Tryz.sizeOf3
 v3 := Tryz.zeroValue3
 t4 := Tryz.underlying4
 a4 := Tryz.isAgg4
 z4 := Tryz.sizeOf4
 v4 := Tryz.zeroValue4
 t5 := Tryz.underlying5
 a5 := Tryz.isAgg5
 z5 := Tryz.sizeOf5
 v5 := Tryz.zeroValue5
 t9 := Tryz.underlying9
 a9 := Tryz.isAgg9
 z9 := Tryz.sizeOf9
 v9 := Tryz.zeroValue9
 t22 := Tryz.underlying36
 a22 := Tryz.isAgg36
 z22 := Tryz.sizeOf36
 v22 := Tryz.zeroValue36
 t25 := Tryz.underlying149
 a25 := Tryz.isAgg149
 z25 := Tryz.sizeOf149
 v25 := Tryz.zeroValue149
 t39 := Tryz.underlying158
 a39 := Tryz.isAgg158
 z39 := Tryz.sizeOf158
 v39 := Tryz.zeroValue158
 t45 := Tryz.underlying201
 a45 := Tryz.isAgg201
 z45 := Tryz.sizeOf201
 v45 := Tryz.zeroValue201
 t46 := Tryz.underlying202
 a46 := Tryz.isAgg202
 z46 := Tryz.sizeOf202
 v46 := Tryz.zeroValue202
 t50 := Tryz.underlying118
 a50 := Tryz.isAgg118
 z50 := Tryz.sizeOf118
 v50 := Tryz.zeroValue118
 t53 := Tryz.underlying209
 a53 := Tryz.isAgg209
 z53 := Tryz.sizeOf209
 v53 := Tryz.zeroValue209
 t55 := Tryz.underlying211
 a55 := Tryz.isAgg211
 z55 := Tryz.sizeOf211
 v55 := Tryz.zeroValue211
 t66 := Tryz.underlying248
 a66 := Tryz.isAgg248
 z66 := Tryz.sizeOf248
 v66 := Tryz.zeroValue248
 t70 := Tryz.underlying252
 a70 := Tryz.isAgg252
 z70 := Tryz.sizeOf252
 v70 := Tryz.zeroValue252
 t76 := Tryz.underlying279
 a76 := Tryz.isAgg279
 z76 := Tryz.sizeOf279
 v76 := Tryz.zeroValue279
 t77 := Tryz.underlying280
 a77 := Tryz.isAgg280
 z77 := Tryz.sizeOf280
 v77 := Tryz.zeroValue280 }
end Go.Proofs
namespace Go.Proofs
open Go.Shelf
def Tryz.sortInt_ren : Go.Shelf.Ren := ⟨fun | 189 => 47 | 125 => 91 | 257 => 90 | 128 => 150 | 129 => 151 | 294 => 141 | 295 => 142 | 296 => 143 | 297 => 144 | 298 => 145 | 299 => 146 | 216 => 147 | 300 => 148 | 301 => 149 | 328 => 235 | 329 => 236 | 330 => 237 | 331 => 238 | 332 => 239 | 215 => 168 | 343 => 294 | n => n, fun | 28 => 39 | 3 => 3 | 46 => 158 | 0 => 0 | 51 => 209 | 53 => 211 | 4 => 4 | 183 => 202 | 182 => 201 | 131 => 118 | 5 => 5 | 9 => 9 | 218 => 248 | 222 => 252 | 228 => 279 | 229 => 280 | n => n, fun | n => n⟩
theorem Tryz.sortInt : Go.Proofs.Lays.n189 Tryz.prog Tryz.sortInt_ren := {
 mixed := by kernel_rfl
 f125 := Tryz.func91.trans (congrArg some (by kernel_rfl))
 f128 := Tryz.func150.trans (congrArg some (by kernel_rfl))
 f129 := Tryz.func151.trans (congrArg some (by kernel_rfl))
 f189 := Tryz.func47.trans (congrArg some (by kernel_rfl))
 f215 := Tryz.func168.trans (congrArg some (by kernel_rfl))
 f216 := Tryz.func147.trans (congrArg some (by kernel_rfl))
 f257 := Tryz.func90.trans (congrArg some (by kernel_rfl))
 f294 := Tryz.func141.trans (congrArg some (by kernel_rfl))
 f295 := Tryz.func142.trans (congrArg some (by kernel_rfl))
 f296 := Tryz.func143.trans (congrArg some (by kernel_rfl))
 f297 := Tryz.func144.trans (congrArg some (by kernel_rfl))
 f298 := Tryz.func145.trans (congrArg some (by kernel_rfl))
 f299 := Tryz.func146.trans (congrArg some (by kernel_rfl))
 f300 := Tryz.func148.trans (congrArg some (by kernel_rfl))
 f301 := Tryz.func149.trans (congrArg some (by kernel_rfl))
 f328 := Tryz.func235.trans (congrArg some (by kernel_rfl))
 f329 := Tryz.func236.trans (congrArg some (by kernel_rfl))
 f330 := Tryz.func237.trans (congrArg some (by kernel_rfl))
 f331 := Tryz.func238.trans (congrArg some (by kernel_rfl))
 f332 := Tryz.func239.trans (congrArg some (by kernel_rfl))
 f343 := Tryz.func294.trans (congrArg some (by kernel_rfl))
 t0 := Tryz.underlying0
 a0 := Tryz.isAgg0
 z0 := Tryz.sizeOf0
 v0 := Tryz.zeroValue0
 t3 := Tryz.underlying3
 a3 := Tryz.isAgg3
 z3 := Tryz.sizeOf3
 v3 := Tryz.zeroValue3
 t4 := Tryz.underlying4
 a4 := Tryz.isAgg4
 z4 := Tryz.sizeOf4
 v4 := Tryz.zeroValue4
 t5 := Tryz.underlying5
 a5 := Tryz.isAgg5
 z5 := Tryz.sizeOf5
 v5 := Tryz.zeroValue5
 t9 := Tryz.underlying9
 a9 := Tryz.isAgg9
 z9 := Tryz.sizeOf9
 v9 := Tryz.zeroValue9
 t28 := Tryz.underlying39
 a28 := Tryz.isAgg39
 z28 := Tryz.sizeOf39
 v28 := Tryz.zeroValue39
 t46 := Tryz.underlying158
 a46 := Tryz.isAgg158
 z46 := Tryz.sizeOf158
 v46 := Tryz.zeroValue158
 t51 := Tryz.underlying209
 a51 := Tryz.isAgg209
 z51 := Tryz.sizeOf209
 v51 := Tryz.zeroValue209
 t53 := Tryz.underlying211
 a53 := Tryz.isAgg211
 z53 := Tryz.sizeOf211
 v53 := Tryz.zeroValue211
 t131 := Tryz.underlying118
 a131 := Tryz.isAgg118
 z131 := Tryz.sizeOf118
 v131 := Tryz.zeroValue118
 t182 := Tryz.underlying201
 a182 := Tryz.isAgg201
 z182 := Tryz.sizeOf201
 v182 := Tryz.zeroValue201
 t183 := Tryz.underlying202
 a183 := Tryz.isAgg202
 z183 := Tryz.sizeOf202
 v183 := Tryz.zeroValue202
 t218 := Tryz.underlying248
 a218 := Tryz.isAgg248
 z218 := Tryz.sizeOf248
 v218 := Tryz.zeroValue248
 t222 := Tryz.underlying252
 a222 := Tryz.isAgg252
 z222 := Tryz.sizeOf252
 v222 := Tryz.zeroValue252
 t228 := Tryz.underlying279
 a228 := Tryz.isAgg279
 z228 := Tryz.sizeOf279
 v228 := Tryz.zeroValue279
 t229 := Tryz.underlying280
 a229 := Tryz.isAgg280
 z229 := Tryz.sizeOf280
 v229 := Tryz.zeroValue280 }
end Go.Proofs
