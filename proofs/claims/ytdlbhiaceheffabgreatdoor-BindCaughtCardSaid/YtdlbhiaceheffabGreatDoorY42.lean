/- Walk of the law BindCaught. -/
import Derived.BigQuiet
import Derived.Test.YtdlbhiaceheffabGreatDoorY41
set_option linter.all false
set_option maxRecDepth 100000
set_option maxHeartbeats 4000000
namespace Go.Proofs.YtdlbhiaceheffabGreatDoor
section
open Go Go.RowKit
open Prt (Sat As blk pur exs star ah)
theorem BN (s : ByteArray) : ∃ l : List Ty.Sm, ∀ pg : Ty.Pg, Ty.parse s = .ok pg → Ty.layB 0 l [] = (pg.ns, pg.main) := by
 cases hp : Ty.parse s with
 | error f => exact ⟨[], fun pg h => by cases h⟩
 | ok pg =>
   obtain ⟨l, hl, _⟩ := Ty.parse_den hp
   exact ⟨l, fun pg2 h => by cases h; exact hl⟩
theorem kJ (s : ByteArray) (w : World) (hw : Words w) (hm : s.size ≤ maxLen) {R : Ending → World → Prop} (hR : ∀ w', Below w.heap.size w w' → R (.returned (.bool true)) w') :
   Calls Tryz.prog 5 #[.string s] w R := by
 obtain ⟨l, hl⟩ := BN s
 have HR := qh hR
 have HW := qh hw
 have HM := qh hm
 have HL := qh hl
 have HBV := qh (Ty.rP l)
 clear hR hw hm hl
 go_enter Tryz.func5, Tryz.ntmps5
 go_wp2_with fail
 refine rW (Prt.Sat.old w) s HW.out HM.out HL.out (fun pg cv v ks w1 ht hv hnd hks hkl h1 => ?_) (fun f w1 hq h1 => ?_)
 · have hB : ∃ out caught, Ty.dX l = .ok (out, caught) ∧ (ks.mergeSort fun x y => decide (x ≤ y)) = caught.map (fun n => ((n : Nat) : Int)) := by
     rcases HBV.out with ⟨f, e1, _⟩ | ⟨v2, out, caught, e1, e2, _, e3, e4⟩
     · rw [hv] at e1; cases e1
     · rw [hv] at e1; cases e1
       exact ⟨out, caught, e2, by rw [e3]; exact Ty.mG hnd hks e4⟩
   obtain ⟨out, ca, hb, hsort⟩ := hB
   rw [hsort, CE] at h1
   obtain ⟨xa, xc, rfl⟩ := ag (h1.row 1 rfl)
   have h2 := h1.aj (.cells #[.int .i64 0, .int .i64 0] 25) w1.heap.size
   have H2 := qh h2
   have HT := qh ht
   have HB := qh hb
   clear ht hv hnd hks hkl h1 h2 hb hsort
   dsimp only [aP]
   go_wp2_with fail
   refine kD (Prt.Sat.pack (L := []) H2.out) s HM.out HL.out (fun pv pg2 ov2 cv2 out2 ca2 w2 hpv ht2 hb2 h3 => ?_) (fun pv f w2 hpv hq h3 => ?_)
   rotate_left
   · rcases hq with hq | ⟨pg2, _, hq⟩
     · rw [HT.out] at hq; cases hq
     · rw [HB.out] at hq; cases hq
   obtain ⟨pa, pn, pc, pb, pm, pc2, pk, rfl⟩ := hpv
   have he : ca2 = ca := by
     have hb := HB.out
     rw [hb] at hb2; cases hb2; rfl
   subst he
   obtain ⟨oa2, oc2, rfl⟩ := ag (h3.row 1 rfl)
   obtain ⟨ya, yc, rfl⟩ := ag (h3.row 2 rfl)
   have h4 := ((h3.unpack (i := 0) rfl).aj (.cells #[.slice pa pn pc, .slice pb pm pc2, .int .i64 pk] 31) w2.heap.size).aj (.cells #[.int .i64 0, .int .i64 0] 25) (w2.heap.size + 1)
   have h5 : Sat w _ [Prt.bI w, inA (.slice xa ca2.length xc) ca2, inA (.slice ya ca2.length yc) ca2, blk w1.heap.size (.cells #[.int .i64 0, .int .i64 0] 25 (0, 0)), blk (w2.heap.size + 1) (.cells #[.int .i64 0, .int .i64 0] 25 (0, 0))] := h4.pick [2, 3, 1, 4, 6]
   have H5 := qh h5
   clear h3 h4 h5 ht2 hb2 HB H2
   generalize hKN : ca2.length = KN at *
   have HKN := qh hKN
   clear hKN
   generalize out2.length = ON at *
   dsimp only [aP]
   go_wp2_with fail
   refine jf _ (HW.out.below H5.out.gy) (fun w4 hb4 => ?_)
   have h6 := H5.out.below hb4
   have x0 := h6.cell 3 rfl 0 rfl
   have x1 := h6.cell 3 rfl 1 rfl
   have y0 := h6.cell 4 rfl 0 rfl
   have y1 := h6.cell 4 rfl 1 rfl
   have H6 := qh h6
   clear h6 hb4 H5
   go_wp2_with fail
   have hr1 := H6.out.row 1 rfl
   have hr2 := H6.out.row 2 rfl
   have hkn := HKN.out
   subst hkn
   refine jI w4 _ _ ca2 hr1 hr2 (fun w5 hb5 => ?_)
   have HG := qh (HR.out _ (H6.out.below hb5).gy)
   clear hb5 hr1 hr2
   go_wp2_with fail
   exact HG.out
 · have hE : Ty.parse s = .error f ∨ ∃ pg : Ty.Pg, Ty.parse s = .ok pg ∧ Ty.dX l = .error f := by
     rcases hq with hq | ⟨pg, h2, h3⟩
     · exact .inl hq
     · rcases HBV.out with ⟨f2, e1, e2⟩ | ⟨v2, out, caught, e1, _⟩
       · rw [h3] at e1; cases e1; exact .inr ⟨pg, h2, e2⟩
       · rw [h3] at e1; cases e1
   obtain ⟨fe, fp⟩ := f
   have h2 := h1.aj (.cells #[.int .i64 (fe : Nat), .int .i64 (fp : Nat)] 25) w1.heap.size
   have H2 := qh h2
   have HE := qh hE
   clear hq h1 h2 hE
   dsimp only [aP]
   go_wp2_with fail
   refine kD (Prt.Sat.pack (L := []) H2.out) s HM.out HL.out (fun pv pg2 ov2 cv2 out caught w2 hpv ht2 hb2 h3 => ?_) (fun pv f w2 hpv hq h3 => ?_)
   · rcases HE.out with hq | ⟨pg, _, hq⟩
     · rw [ht2] at hq; cases hq
     · rw [hb2] at hq; cases hq
   have hf : f = (fe, fp) := by
     rcases HE.out with h4 | ⟨pg, h4, h5⟩ <;> rcases hq with h6 | ⟨pg2, h6, h7⟩
     · rw [h4] at h6; cases h6; rfl
     · rw [h4] at h6; cases h6
     · rw [h4] at h6; cases h6
     · rw [h5] at h7; cases h7; rfl
   subst hf
   obtain ⟨pa, pn, pc, pb, pm, pc2, pk, rfl⟩ := hpv
   have h4 := ((h3.unpack (i := 0) rfl).aj (.cells #[.slice pa pn pc, .slice pb pm pc2, .int .i64 pk] 31) w2.heap.size).aj (.cells #[.int .i64 (fe : Nat), .int .i64 (fp : Nat)] 25) (w2.heap.size + 1)
   have h5 : Sat w _ [Prt.bI w, blk w1.heap.size (.cells #[.int .i64 (fe : Nat), .int .i64 (fp : Nat)] 25 (0, 0)), blk (w2.heap.size + 1) (.cells #[.int .i64 (fe : Nat), .int .i64 (fp : Nat)] 25 (0, 0))] := h4.pick [0, 1, 3]
   have H5 := qh h5
   clear h3 h4 h5 hq HE H2
   dsimp only [aP]
   go_wp2_with fail
   refine jf _ (HW.out.below H5.out.gy) (fun w4 hb4 => ?_)
   have h6 := H5.out.below hb4
   have x0 := h6.cell 1 rfl 0 rfl
   have x1 := h6.cell 1 rfl 1 rfl
   have y0 := h6.cell 2 rfl 0 rfl
   have y1 := h6.cell 2 rfl 1 rfl
   have H6 := qh h6
   clear h6 hb4 H5
   go_wp2_with fail
   refine jI w4 _ _ [] ⟨rfl, .inl ⟨rfl, rfl⟩⟩ ⟨rfl, .inl ⟨rfl, rfl⟩⟩ (fun w5 hb5 => ?_)
   have HG := qh (HR.out _ (H6.out.below hb5).gy)
   clear hb5
   go_wp2_with fail
   exact HG.out
end
end Go.Proofs.YtdlbhiaceheffabGreatDoor
