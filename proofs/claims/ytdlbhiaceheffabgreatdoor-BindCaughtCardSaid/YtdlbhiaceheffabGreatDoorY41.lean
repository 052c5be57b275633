/- Caught's sort of node numbers, by the library's contract. -/
import Derived.Shelf.Slices.In.SortNone
import Derived.Maps.RangeWalk
import Derived.BigQuiet
import Derived.Test.YtdlbhiaceheffabGreatDoorY40
set_option linter.all false
set_option maxRecDepth 100000
set_option maxHeartbeats 4000000
namespace Go.Proofs.YtdlbhiaceheffabGreatDoor
section
open Go Go.RowKit Go.Sort
open Prt (Sat As blk pur exs star ah)
def ziA (v : Value) (l : List Int) : As := Prt.row 3 1 v l.length (l.map (Value.int .i64))
theorem CE (v : Value) (l : List Nat) : ziA v (l.map fun n => ((n : Nat) : Int)) = inA v l := by
 unfold ziA inA
 simp only [List.length_map, List.map_map]
 rfl
theorem qF {w0 w : World} {L : List As} {v : Value} {l : List Int} (H : Sat w0 w L) (i : Nat) (hi : L[i]? = some (ziA v l)) (hl : l.length ≤ 1000000) {R : Ending → World → Prop}
   (hR : ∀ w', Sat w0 w' (L.set i (ziA v (l.mergeSort fun x y => decide (x ≤ y)))) → R (.returned (.tuple #[])) w') :
   Calls Tryz.prog 47 #[v] w R := by
 have hrow := H.row i hi
 by_cases h0 : l = []
 · subst h0
   obtain ⟨oa, oc, rfl⟩ := ag hrow
   refine Calls.mono (Any.slices_Sort_int_none Tryz.sortInt oa oc w) ?_
   rintro e w' ⟨rfl, rfl⟩
   exact hR w' (H.ent hi fun _ h => by simpa using h)
 · obtain ⟨g, cap, rfl, hblk, hg⟩ := hrow.form (by have := List.length_pos_iff.2 h0; omega)
   have hH : Holds (Value.int .i64) w g 0 l.toArray := by
     have h1 := ng hrow
     intro j hj
     have hj' : j < l.length := by simpa using hj
     have h2 := h1 j (by simpa using hj)
     rw [getElem!_pos _ _ (by simpa using hj')] at h2 ⊢
     simpa using h2
   have hc := Any.slices_Sort_int Tryz.sortInt g 0 cap l w hH hg (by omega)
   refine Calls.mono hc ?_
   rintro e w' ⟨rfl, n, os, rfl⟩
   have hs : (l.mergeSort fun x y => decide (x ≤ y)).length = l.length := List.length_mergeSort _
   rw [sQ]
   have h2 := H.sorted i hi ((l.mergeSort fun x y => decide (x ≤ y)).toArray.map (Value.int .i64)) (by simp [hs]) n os
   refine hR _ ?_
   have h3 : Prt.row 3 1 (.slice (some ⟨g, 0, none⟩) l.length cap) l.length ((l.mergeSort fun x y => decide (x ≤ y)).toArray.map (Value.int .i64)).toList = ziA (.slice (some ⟨g, 0, none⟩) l.length cap) (l.mergeSort fun x y => decide (x ≤ y)) := by
     unfold ziA
     simp [hs]
   rw [← h3]
   exact h2
end
section
open Go Go.RowKit
open Prt (Sat As blk pur exs star ah)
open Go.WideElems (Fit rg)
theorem ou {w v : World} {k e : TypeId} {b r n : Nat} {D : Dm} {left : Lit → Bool} {cnt : Nat} (h : w.ranges Tryz.prog k (plainElem Tryz.prog e) b r n D left cnt) (hb : v.heap[b]? = w.heap[b]?) (hr : v.heap[r]? = w.heap[r]?) : v.ranges Tryz.prog k (plainElem Tryz.prog e) b r n D left cnt := by
 obtain ⟨es, clock, since, seen, c0, h1, h2, h3, h4, h5, h6⟩ := h
 exact ⟨es, clock, since, seen, c0, hb.trans h1, h2, h3, h4, hr.trans h5, h6⟩
theorem xJ {w : World} {k e : TypeId} {b r n : Nat} {D : Dm} {left : Lit → Bool} {cnt : Nat} (h : w.ranges Tryz.prog k (plainElem Tryz.prog e) b r n D left cnt) : cnt ≤ n := by
 obtain ⟨es, clock, since, seen, c0, h1, h2, h3, h4, h5, h6, h7, h8⟩ := h
 rw [← h7]
 unfold leftOf
 exact Nat.le_trans Array.size_filter_le h3
theorem jW {w : World} {k e : TypeId} {b r n : Nat} {D : Dm} {left : Lit → Bool} {cnt : Nat} (h : w.ranges Tryz.prog k (plainElem Tryz.prog e) b r n D left cnt) : ∃ x y, w.heap[b]? = some x ∧ w.heap[r]? = some y := by
 obtain ⟨es, clock, since, seen, c0, h1, h2, h3, h4, h5, h6⟩ := h
 exact ⟨_, _, h1, h5⟩
def rgA (k e : TypeId) (b r n : Nat) (D : Dm) (left : Lit → Bool) (cnt : Nat) : As := fun h => ∃ v : World, v.ranges Tryz.prog k (plainElem Tryz.prog e) b r n D left cnt ∧ h b = v.heap[b]? ∧ h r = v.heap[r]?
section
variable {w0 w w' : World} {L : List As} {k e : TypeId} {b r n : Nat} {D : Dm} {left left' : Lit → Bool} {cnt cnt' : Nat} {Φ : Dm → Prop}
theorem Prt.Sat.AZ (h : Sat w0 w L) (i : Nat) (hi : L[i]? = some (rgA k e b r n D left cnt)) : w.ranges Tryz.prog k (plainElem Tryz.prog e) b r n D left cnt := by
 refine h.get hi fun a ha hl => ?_
 obtain ⟨v, hv, hb, hr⟩ := ha
 obtain ⟨x, y, hx, hy⟩ := jW hv
 refine ou hv ?_ ?_
 · rw [hx]; exact hl _ _ (by rw [hb, hx])
 · rw [hy]; exact hl _ _ (by rw [hr, hy])
theorem wH (ho : w'.ranges Tryz.prog k (plainElem Tryz.prog e) b r n D left cnt) : ∃ a' : Nat → Option Obj, rgA k e b r n D left cnt a' ∧ Prt.le a' (Prt.hp w') ∧ ∀ j, j ≠ b → j ≠ r → a' j = none := by
 obtain ⟨x, y, hx, hy⟩ := jW ho
 refine ⟨fun j => if j = b then some x else if j = r then some y else none, ⟨w', ho, by simp [hx], ?_⟩, fun j z ez => ?_, fun j h1 h2 => by simp [h1, h2]⟩
 · dsimp only
   rw [if_neg ho.ne, if_pos rfl, hy]
 · dsimp only at ez
   split at ez
   · rename_i hk; subst hk; cases ez; exact hx
   · split at ez
     · rename_i hk; subst hk; cases ez; exact hy
     · cases ez
theorem Prt.Sat.EK (h : Sat w0 w L) (i : Nat) (hi : L[i]? = some (mapA k e b n Φ)) (hg : w.grownBy w' none) (ho : w'.ranges Tryz.prog k (plainElem Tryz.prog e) b w.heap.size n D left cnt) : Sat w0 w' (L.set i (rgA k e b w.heap.size n D left cnt)) := by
 refine h.upd hi hg.os hg.tape hg.output fun a ha hl => ?_
 obtain ⟨a', h1, h2, h3⟩ := wH ho
 refine ⟨a', h1, h2, fun j hj hlt => ⟨h3 j ?_ (by omega), hg.block j hlt (by simp)⟩⟩
 rintro rfl
 obtain ⟨es2, c2, e2, _⟩ := ha
 rw [hj] at e2; cases e2
theorem Prt.Sat.DN (h : Sat w0 w L) (i : Nat) (hi : L[i]? = some (rgA k e b r n D left cnt)) (hg : w.grownBy w' (some r)) (ho : w'.ranges Tryz.prog k (plainElem Tryz.prog e) b r n D left' cnt') : Sat w0 w' (L.set i (rgA k e b r n D left' cnt')) := by
 refine h.upd hi hg.os hg.tape hg.output fun a ha hl => ?_
 obtain ⟨a', h1, h2, h3⟩ := wH ho
 obtain ⟨v, hv, hb, hr⟩ := ha
 obtain ⟨x, y, hx, hy⟩ := jW hv
 have hjb : ∀ j, a j = none → j ≠ b := fun j hj e => by subst e; rw [hb, hx] at hj; cases hj
 have hjr : ∀ j, a j = none → j ≠ r := fun j hj e => by subst e; rw [hr, hy] at hj; cases hj
 exact ⟨a', h1, h2, fun j hj hlt => ⟨h3 j (hjb j hj) (hjr j hj), hg.block j hlt (by simpa using hjr j hj)⟩⟩
end
def oD (ca : Nat → Bool) (left : Lit → Bool) (ks : List Int) : Prop := ks.Nodup ∧ ∀ z : Int, z ∈ ks ↔ ((∃ m : Nat, z = m ∧ ca m = true) ∧ left (.int .i64 z) = false)
theorem oD.start {ca : Nat → Bool} {D : Dm} (h : bP ca D) : oD ca (Maps.has D) [] := by
 refine ⟨List.nodup_nil, fun z => ⟨fun h => (by cases h), fun ⟨⟨m, h1, h2⟩, h3⟩ => ?_⟩⟩
 subst h1
 rw [h.2.1, h2] at h3
 cases h3
theorem oD.step {ca : Nat → Bool} {D : Dm} {left : Lit → Bool} {ks : List Int} (hc : bP ca D) (h : oD ca left ks) {x : Int} {y : Dm} (hlk : left (.int .i64 x) = true) (hat : ∀ zd, D.atKey (.int .i64 x) zd = y) : oD ca (fun z => left z && !z.sameKey (.int .i64 x)) (ks ++ [x]) := by
 have hhas : Maps.has D (.int .i64 x) = true := Maps.has_true_of_atKey hat
 obtain ⟨m, rfl⟩ := Int.eq_ofNat_of_zero_le (hc.2.2 x hhas)
 have hca : ca m = true := by rw [← hc.2.1 m]; exact hhas
 have hnew : (m : Int) ∉ ks := fun hx => by have := ((h.2 m).1 hx).2; rw [hlk] at this; cases this
 refine ⟨List.nodup_append.2 ⟨h.1, by simp, fun a ha b hb => by simp at hb; subst hb; exact fun e => hnew (e ▸ ha)⟩, fun z => ?_⟩
 by_cases hz : z = (m : Int)
 · subst hz
   simp [Lit.sameKey]
   exact ⟨m, rfl, hca⟩
 · simp [h.2 z, hz, Lit.sameKey]
theorem oD.done {ca : Nat → Bool} {left : Lit → Bool} {ks : List Int} (h : oD ca left ks) (hl : ∀ kl, left kl = false) (z : Int) : z ∈ ks ↔ ∃ n : Nat, z = n ∧ ca n = true := by
 rw [h.2 z, hl]; simp
end
section
open Go Go.RowKit
open Prt (Sat As blk pur exs star ah)
open Ty (Frm Vg)
theorem Prt.Sat.Dt {w0 w : World} {L : List As} {k e : TypeId} {b n : Nat} {Φ : Dm → Prop} (h : Sat w0 w L) (i : Nat) (hi : L[i]? = some (mapA k e b n Φ)) : ∃ D : Dm, Φ D ∧ Sat w0 w (L.set i (mapA k e b n fun X => X = D)) := by
 have hlt := Prt.Sat.kG hi
 have h1 := h.ent hi (Q := exs fun D => fun a => Φ D ∧ mapA k e b n (fun X => X = D) a) (fun a ha => by
   obtain ⟨es, cl, g1, g2, g3, g4⟩ := ha
   exact ⟨_, g4, es, cl, g1, g2, g3, rfl⟩)
 obtain ⟨D, h2⟩ := h1.ex (i := i) (by rw [List.getElem?_set_self hlt])
 rw [List.set_set] at h2
 have hi2 : (L.set i (fun a => Φ D ∧ mapA k e b n (fun X => X = D) a))[i]? = some (fun a => Φ D ∧ mapA k e b n (fun X => X = D) a) := by rw [List.getElem?_set_self hlt]
 refine ⟨D, h2.get hi2 (fun a ha _ => ha.1), ?_⟩
 have h3 := h2.ent hi2 (Q := mapA k e b n fun X => X = D) (fun a ha => ha.2)
 rw [List.set_set] at h3
 exact h3
theorem Prt.Sat.Em {w0 w : World} {L : List As} {k e : TypeId} {b n : Nat} {D : Dm} (h : Sat w0 w L) (i : Nat) (hi : L[i]? = some (mapA k e b n fun X => X = D)) : w.ownsMap Tryz.prog k (plainElem Tryz.prog e) b n D := by
 obtain ⟨D', h1, rfl⟩ := h.jr i hi
 exact h1
theorem BR {g cap : Nat} {ks : List Int} {x : Int} {h : Nat → Option Obj} (hh : Prt.row 3 1 (.slice (some ⟨g, 0, none⟩) (ks.length + 1) cap) (ks.length + 1) (ks.map (Value.int .i64) ++ [.int .i64 x]) h) : ziA (.slice (some ⟨g, 0, none⟩) (ks.length + 1) cap) (ks ++ [x]) h := by
 unfold ziA
 rw [List.length_append, List.map_append]
 exact hh
theorem rW {w0 w : World} {Fr : As} (H : Sat w0 w [Fr]) (s : ByteArray) (hw : Words w) (hm : s.size ≤ maxLen) {l : List Ty.Sm} (hl : ∀ pg : Ty.Pg, Ty.parse s = .ok pg → Ty.layB 0 l [] = (pg.ns, pg.main)) {R : Ending → World → Prop}
   (hok : ∀ (pg : Ty.Pg) cv v (ks : List Int) w', Ty.parse s = .ok pg → Ty.fK l = .ok v → ks.Nodup → (∀ z, z ∈ ks ↔ ∃ n : Nat, z = n ∧ v.ca n = true) → ks.length ≤ 100000 → Sat w0 w' [Fr, ziA cv (ks.mergeSort fun x y => decide (x ≤ y))] → R (.returned (.tuple #[cv, aP (0, 0)])) w')
   (hbad : ∀ f w', (Ty.parse s = .error f ∨ ∃ pg : Ty.Pg, Ty.parse s = .ok pg ∧ Ty.fK l = .error f) → Sat w0 w' [Fr] → R (.returned (.tuple #[.slice none 0 0, aP f])) w') :
   Calls Tryz.prog 20 #[.string s] w R := by
 have HOK := qh hok
 have HBAD := qh hbad
 have HW := qh hw
 have HMX := qh hm
 have HL := qh hl
 obtain ⟨j0, tj, uz0, uz1, uz2⟩ := info_parts bY
 have H1 := qh (Prt.Sat.pack (L := []) (H.aj (.cells #[.int .i64 0, .int .i64 0] 25) w.heap.size))
 clear hok hbad hw hm hl H
 go_enter Tryz.func20, Tryz.ntmps20
 go_wp2_with fail
 refine ry H1.out s (HW.out.below ((Below.refl _ _).alloc (Nat.le_refl _) _)) HMX.out HL.out (fun pg nv tv ov cb v d nc w1 ht hv hp hs hnc hdl h2 => ?_) (fun f w1 hq h2 => ?_)
 · have h3 := (h2.unpack (i := 0) rfl).pick [4, 5, 0, 1, 3]
   obtain ⟨nr, hnr, hnrd⟩ := h3.gZ 2 rfl
   obtain ⟨tr, htr, htrd⟩ := h3.zQ 3 rfl
   obtain ⟨na, na2, rfl⟩ := ag hnrd.row
   obtain ⟨ta, ta2, rfl⟩ := ag htrd.row
   have h3b := (h2.unpack (i := 0) rfl).pick [2]
   have h4 : Sat w0 w1 [Fr, blk w.heap.size (.cells #[.int .i64 0, .int .i64 0] 25 (0, 0)), mapA 3 4 cb nc (bP v.ca)] := (h2.unpack (i := 0) rfl).pick [4, 5, 3]
   obtain ⟨oa, oc, rfl⟩ := ag (((h2.unpack (i := 0) rfl).pick [2]).row 0 rfl)
   obtain ⟨D, hD, h5⟩ := h4.Dt 2 rfl
   have h6 : Sat w0 w1 [Fr, blk w.heap.size (.cells #[.int .i64 0, .int .i64 0] 25 (0, 0)), mapA 3 4 cb nc fun X => X = D] := h5
   have HG := qh (fun cv ks w' => HOK.out pg cv v ks w' ht hv)
   have HD := qh hD
   have HN := qh hnc
   have h7 := ((h6.ay (.cells #[.slice na nr.length na2, .slice ta tr.length ta2, .int .i64 (pg.main : Nat)] 31)).aj (.cells #[.int .i64 0, .int .i64 0] 25) (w1.heap.size + 1) (by simp)).nil 3 1
   have H7 := qh h7
   generalize nr.length = NN at *
   generalize tr.length = TN at *
   generalize d.length = DL at *
   clear h2 h3 h3b h4 h5 h6 h7 hnr hnrd htr htrd ht hv hp hs hdl H1 hD hnc HOK HBAD
   dsimp only [aP]
   simp only [Int.natCast_zero]
   go_wp2_with (at_range; refine wpList_range_own _ rfl _ 89 rfl 3 4 iH Tryz.underlying89 (plainElem Tryz.prog 4) cb nc D rfl (H7.out.Em 2 rfl) ?_; intro w2 hrg2 hg2 hs2)
   go_frame
   have e2 : ((w1.alloc (Obj.cells #[Value.slice na NN na2, Value.slice ta TN ta2, Value.int IntKind.i64 (pg.main : Nat)] 31)).alloc (Obj.cells #[Value.int IntKind.i64 0, Value.int IntKind.i64 0] 25)).heap.size = w1.heap.size + 2 := by simp
   have h8 := H7.out.EK 2 rfl hg2 hrg2
   rw [e2] at h8
   have H8 : Hid (Sat w0 w2 [Fr, blk w.heap.size (.cells #[.int .i64 0, .int .i64 0] 25 (0, 0)), rgA 3 4 cb (w1.heap.size + 2) nc D (Maps.has D) (Maps.size D), blk (w1.heap.size + 1) (.cells #[.int .i64 0, .int .i64 0] 25 (0, 0)), ziA (.slice none 0 0) []]) := h8
   rw [e2]
   clear h8 hrg2 hg2 hs2 e2 H7
   go_loopw [8] (fun a wr => ∃ (ks : List Int) (xa : Option Addr) (xc : Nat) (left : Lit → Bool) (cnt : Nat), a = .slice xa ks.length xc ∧ Hid (oD v.ca left ks) ∧ ks.length + cnt ≤ Maps.size D ∧ Hid (Sat w0 wr [Fr, blk w.heap.size (.cells #[.int .i64 0, .int .i64 0] 25 (0, 0)), rgA 3 4 cb (w1.heap.size + 2) nc D left cnt, blk (w1.heap.size + 1) (.cells #[.int .i64 0, .int .i64 0] 25 (0, 0)), ziA (.slice xa ks.length xc) ks])) (fun _ wr => wr.rangeLeft cb (w1.heap.size + 2))
   case atStart => exact ⟨[], none, 0, Maps.has D, Maps.size D, rfl, oD.start HD.out, by simp, H8.out⟩
   case round =>
     obtain ⟨ks, xa, xc, left, cnt, rfl, hM, hc, hS⟩ := hrel
     have hrg := hS.out.AZ 2 rfl
     have hsz : Maps.size D ≤ nc := xJ (H8.out.AZ 2 rfl)
     go_wp2_with (at_next; refine wpList_next_ranges _ rfl _ rfl 3 iH (plainElem Tryz.prog 4) (Value.int .i64) (fun x : Value => x) (fun key kl h => by obtain ⟨x, hx, _⟩ := Maps.keyOf_int_inv Tryz.underlying3 h; exact ⟨x, hx⟩) (fun x _ _ => ⟨x, rfl⟩) cb (w1.heap.size + 2) nc D left cnt rfl hrg ?_ ?_)
     · intro hc0 hl0
       have HK := qh (hM.out.done hl0)
       have hN := HN.out
       go_wp2_with fail
       refine qF hS.out 4 rfl (by omega) (fun w4 h9 => ?_)
       have h10 : Sat w0 w4 [Fr, blk w.heap.size (.cells #[.int .i64 0, .int .i64 0] 25 (0, 0)), rgA 3 4 cb (w1.heap.size + 2) nc D left cnt, blk (w1.heap.size + 1) (.cells #[.int .i64 0, .int .i64 0] 25 (0, 0)), ziA (.slice xa ks.length xc) (ks.mergeSort fun x y => decide (x ≤ y))] := h9
       have z0 := h10.cell 1 rfl 0 rfl
       have z1 := h10.cell 1 rfl 1 rfl
       have y0 := h10.cell 3 rfl 0 rfl
       have y1 := h10.cell 3 rfl 1 rfl
       have fz := h10.free 1 rfl
       have hz := h10.lt 1 rfl
       have hy := h10.lt 3 rfl
       have H10 := qh h10
       have hkl : ks.length ≤ 100000 := by omega
       have HQ := qh (fun w' => HG.out (.slice xa ks.length xc) ks w' hM.out.1 HK.out hkl)
       clear h9 h10 hrg hS hM H8
       generalize ks.length = KN at *
       go_wp2_with fail
       go_region
       all_goals
         go_wp2_with fail
         refine bodyPost_ret ?_ rfl (HQ.out _ ?_)
         · simp [results, Tryz.results20, go_sem, aP, hz, hy, z0, z1, y0, y1]
         · exact ((H10.out.store 1 rfl 0 _).store 1 rfl 1 _).drew.pick [0, 4]
     · intro x c kl y pl w3 cnt3 hkey hlk hat0 hat hrg3 hlt hg3 hs3 hen
       obtain ⟨x', ex, rfl, hwf⟩ := Maps.keyOf_int_inv Tryz.underlying3 hkey
       cases ex
       have hM2 := qh (hM.out.step HD.out hlk hat)
       have H10 : Hid (Sat w0 w3 [Fr, blk w.heap.size (.cells #[.int .i64 0, .int .i64 0] 25 (0, 0)), rgA 3 4 cb (w1.heap.size + 2) nc D (fun z => left z && !z.sameKey (.int .i64 x)) cnt3, blk (w1.heap.size + 1) (.cells #[.int .i64 0, .int .i64 0] 25 (0, 0)), ziA (.slice xa ks.length xc) ks]) := hS.out.DN 2 rfl hg3 hrg3
       have hN := HN.out
       have HRG := qh hrg
       clear hS hM hrg3 hg3 hs3 hat hat0 H8 hkey hlk hrg
       go_wp2_with (at_builtin; go_loud (refine wpList_append_lies _ rfl (.tmp 23) (.tmp 25) 39 rfl 0 3 j0 _ 1 8 Tryz.underlying39 tj uz0 uz1 uz2 rfl (by decide) _ _ (ks.map (Value.int .i64)) (by rfl) ((H10.out.row 4 rfl).alloc _) ⟨w3.heap.size, 0, none⟩ 1 1 [.int .i64 x] (by rfl) (by rfl) (World.news_of_block (cs := #[.int .i64 x]) (t := 3) (fr := (0, 0)) (ak _ _ _ (by simp))) (by simp [Value.oneCell']) (by omega) (by unfold maxLen; omega) (by omega) (by simp) (w3.heap.size + 1) (by simp) ?_))
       intro g8 cap8 w8 hown8 hgrow8 hat8 hlt8'
       have h11 := Prt.Sat.grow (H10.out.ay _) 4 rfl hgrow8 hown8 (by simpa using hat8)
       have H12 := qh (h11.ent (i := 4) rfl (Q := ziA (.slice (some ⟨g8, 0, none⟩) (ks.length + 1) cap8) (ks ++ [x])) (fun _ h => BR h))
       clear h11 hown8 hgrow8
       go_wp2_with fail
       go_roundw
       case rel =>
         refine ⟨ks ++ [x], some ⟨g8, 0, none⟩, cap8, _, cnt3, by rw [List.length_append]; rfl, hM2, by rw [List.length_append]; simp only [List.length_singleton]; omega, ?_⟩
         show Sat _ _ _
         rw [List.length_append]
         exact H12.out
       case measure =>
         have h1 := (H12.out.AZ 2 rfl).left_eq
         have h2 := HRG.out.left_eq
         rw [h1, h2]
         exact hlt
 · obtain ⟨fe, fp⟩ := f
   have h4 : Sat w0 w1 [Fr, blk w.heap.size (.cells #[.int .i64 0, .int .i64 0] 25 (0, 0))] := (h2.unpack (i := 0) rfl).pick [0, 1]
   have H4 := qh h4
   have HQ := qh hq
   have H5 : Hid (Sat w0 _ [Fr, blk w.heap.size (.cells #[.int .i64 0, .int .i64 0] 25 (0, 0)), blk (w1.heap.size + 1) (.cells #[.int .i64 (fe : Nat), .int .i64 (fp : Nat)] 25 (0, 0))]) := ((H4.out.ay (.cells #[.slice none 0 0, .slice none 0 0, .int .i64 0] 31)).aj (.cells #[.int .i64 (fe : Nat), .int .i64 (fp : Nat)] 25) (w1.heap.size + 1) (by simp)).ay (.mapIter none 0 #[] 0)
   have z0 := H5.out.cell 1 rfl 0 rfl
   have z1 := H5.out.cell 1 rfl 1 rfl
   have y0 := H5.out.cell 2 rfl 0 rfl
   have y1 := H5.out.cell 2 rfl 1 rfl
   have fz := H5.out.free 1 rfl
   have hz := H5.out.lt 1 rfl
   have hy := H5.out.lt 2 rfl
   have hrg := fun W => run_range_nilMap (P := Tryz.prog) W 89 3 4 Tryz.underlying89
   have hnx : ∀ ty, (Instr.next (.pointer (some ⟨((w1.alloc (.cells #[.slice none 0 0, .slice none 0 0, .int .i64 0] 31)).alloc (.cells #[.int .i64 (fe : Nat), .int .i64 (fp : Nat)] 25)).heap.size, 0, none⟩)) false ty).run Tryz.prog (((w1.alloc (.cells #[.slice none 0 0, .slice none 0 0, .int .i64 0] 31)).alloc (.cells #[.int .i64 (fe : Nat), .int .i64 (fp : Nat)] 25)).alloc (.mapIter none 0 #[] 0)) = _ := fun ty => run_next_nilMap _ ty 0 0 #[]
   have e1 : ((w1.alloc (.cells #[.slice none 0 0, .slice none 0 0, .int .i64 0] 31)).alloc (.cells #[.int .i64 (fe : Nat), .int .i64 (fp : Nat)] 25)).heap.size = w1.heap.size + 1 + 1 := by simp
   rw [e1] at hnx
   clear h2 h4 hq H1 e1
   dsimp only [aP]
   go_wp2_with fail
   refine wp_loop_rounds 1 ?_
   rw [rounds_succ]
   go_wp2_with fail
   refine Calls.mono (Any.slices_Sort_int_none Tryz.sortInt none 0 _) ?_
   rintro e w' ⟨rfl, rfl⟩
   clear hrg hnx H4
   generalize (((w1.alloc (.cells #[.slice none 0 0, .slice none 0 0, .int .i64 0] 31)).alloc (.cells #[.int .i64 (fe : Nat), .int .i64 (fp : Nat)] 25)).alloc (.mapIter none 0 #[] 0)) = W at *
   go_wp2_with fail
   go_region
   all_goals
     go_wp2_with fail
     refine bodyPost_ret ?_ rfl (HBAD.out (fe, fp) _ HQ.out ?_)
     · simp [results, Tryz.results20, go_sem, aP, hz, hy, z0, z1, y0, y1]
     · exact ((H5.out.store 1 rfl 0 _).store 1 rfl 1 _).drew.pick [0]
end
section
open Go Go.RowKit
open Prt (Sat As blk pur exs star ah)
theorem jI (w : World) (v1 v2 : Value) (l : List Nat) (h1 : w.ownsRow 0 3 1 v1 l.length (l.map aA)) (h2 : w.ownsRow 0 3 1 v2 l.length (l.map aA)) {R : Ending → World → Prop}
   (hR : ∀ w', Below w.heap.size w w' → R (.returned (.bool true)) w') : Calls Tryz.prog 21 #[v1, v2] w R := by
 have HR := qh hR
 obtain ⟨a1, c1, rfl⟩ := ag h1
 obtain ⟨a2, c2, rfl⟩ := ag h2
 have HB : Hid (∀ w', Below w.heap.size w w' → ∀ k (hk : k < l.length), ∃ g1 g2, a1 = some ⟨g1, 0, none⟩ ∧ a2 = some ⟨g2, 0, none⟩ ∧ w'.cell? ⟨g1, k, none⟩ = some (.int .i64 (l[k] : Nat)) ∧ w'.cell? ⟨g2, k, none⟩ = some (.int .i64 (l[k] : Nat))) := fun w' hb k hk => by
   have k1 := aH h1 hb
   have k2 := aH h2 hb
   obtain ⟨g1, _, e1, _, _⟩ := k1.form (by omega)
   obtain ⟨g2, _, e2, _, _⟩ := k2.form (by omega)
   cases e1; cases e2
   have x1 := World.ownsRow.cells (g := g1) k1 rfl k (.int .i64 (l[k] : Nat)) (by simp [aA, hk])
   have x2 := World.ownsRow.cells (g := g2) k2 rfl k (.int .i64 (l[k] : Nat)) (by simp [aA, hk])
   exact ⟨g1, g2, rfl, rfl, by rwa [Addr.add_lit, Nat.zero_add] at x1, by rwa [Addr.add_lit, Nat.zero_add] at x2⟩
 have hl1 : l.length ≤ c1 ∧ c1 ≤ maxLen := by
   rcases h1.2 with ⟨e, h0⟩ | ⟨g', cap', cur, e4, _, _, h5, h6, _⟩
   · simp only [Value.slice.injEq] at e; exact ⟨by omega, by unfold maxLen; omega⟩
   · simp only [Value.slice.injEq] at e4; exact ⟨by omega, by omega⟩
 have HN := qh hl1
 clear hR h1 h2 hl1
 go_enter Tryz.func21, Tryz.ntmps21
 go_wp2_with fail
 go_loopw [5] (fun i wr => ∃ k : Nat, k ≤ l.length ∧ i = .int .i64 k ∧ Hid (Below w.heap.size w wr)) (fun i _ => l.length - (intOf i).toNat)
 case atStart => exact ⟨0, by omega, rfl, Below.refl _ _⟩
 case round =>
   obtain ⟨k, hk, rfl, hb⟩ := hrel
   by_cases hlt : k < l.length
   · obtain ⟨g1, g2, rfl, rfl, x1, x2⟩ := HB.out wr hb.out k hlt
     have hsz := HN.out
     unfold maxLen at hsz
     generalize l[k] = n at *
     go_wp2_with fail
     go_quiet (fail)
     have HB2 := qh (Go.below_drewN hb.out nq)
     go_wp2_with fail
     go_roundw
     case rel => exact ⟨k + 1, by omega, by go_num, HB2⟩
     case measure => simp [intOf]; omega
   · have e : k = l.length := by omega
     subst e
     go_wp2_with fail
     exact HR.out _ hb.out
end
end Go.Proofs.YtdlbhiaceheffabGreatDoor
