/- Walks of the reference's WriteType: objects, arrays, functions. Walks of the reference's WriteType: unions, words. -/
import Derived.Test.YtdlbhiaceheffaaGreatDoorU18
set_option linter.all false
set_option maxRecDepth 100000
set_option maxHeartbeats 8000000
namespace Go.Proofs.YtdlbhiaceheffaaGreatDoor
section
open Go Go.RowKit
open Prt (Sat As blk pur exs star stars)
open Ty (Tr)
def WtC (v : Value) (w : World) (n : Nat) (r : List UInt8) : Prop := ∀ w1, Below w.heap.size w w1 → ∀ R : Ending → World → Prop, (∀ w2, Below w1.heap.size w1 w2 → R (.returned (.string (bs r))) w2) → Calls Tryz.prog 22 #[v, .int .i64 (n : Nat)] w1 R
theorem WtC.below {v : Value} {w w1 : World} {n : Nat} {r : List UInt8} (h : WtC v w n r) (hb : Below w.heap.size w w1) : WtC v w1 n r :=
 fun _ h2 R hR => h _ (hb.trans (h2.mono hb.size)) R hR
theorem wt_7 (w : World) (g cap L n of : Nat) (_ : g < w.heap.size) (_ : L ≤ cap) (_ : L ≤ 1000000) (hn : n < L) (fds : List (ByteArray × Nat)) (lst : List Nat) (fv lv : Value) (hA : RowAt w g n ⟨⟨7, fds, lst, of⟩, fv, lv⟩)
   (hfx : w.ownsRow 0 82 2 fv fds.length (fds.flatMap fdCells)) (hlx : w.ownsRow 0 3 1 lv lst.length (lst.map inCell)) (hfl : fds.length ≤ 1000000) (tx : Nat → List UInt8) (A : Nat → List UInt8)
   (ht : ∀ j (hj : j < fds.length), WtC (.slice (some ⟨g, 0, none⟩) L cap) w fds[j].2 (tx j)) (a0 : A 0 = []) (a1 : ∀ j (hj : j < fds.length), A (j + 1) = A j ++ Ty.fieldW fds[j].1 (tx j)) (a2 : ∀ j, j ≤ fds.length → (A j).length ≤ 900000000) {R : Ending → World → Prop}
   (hR : ∀ w', Below w.heap.size w w' → R (.returned (.string (bs (if fds.length = 0 then [123, 125] else [123, 32] ++ A fds.length ++ [125])))) w') :
   Calls Tryz.prog 22 #[.slice (some ⟨g, 0, none⟩) L cap, .int .i64 (n : Nat)] w R := by
 have HR := qh hR
 have HT := qh ht
 have HA1 := qh a1
 have HA2 := qh a2
 have HFX := qh hfx
 obtain ⟨q0, q1, q2, q3⟩ := hA
 obtain ⟨fa, fc, rfl⟩ := owns_slice hfx
 obtain ⟨la, lc, rfl⟩ := owns_slice hlx
 dsimp only at q0 q1 q2 q3
 have h1 := (Prt.Sat.old w).allocAt (.cells #[.int .i64 7, .slice fa fds.length fc, .slice la lst.length lc, .int .i64 of] 77) w.heap.size
 have HB1 := qh h1.isBelow
 have HA0 : Hid (bs [] = bs (A 0)) := by rw [a0]; rfl
 clear hR ht a0 a1 a2 hfx hlx h1
 by_cases h0 : fds.length = 0
 · rw [if_pos h0] at HR
   have k0 : ((fds.length : Int) == 0) = true := by simp [h0]
   clear h0
   go_enter Tryz.func22, Tryz.ntmps22
   go_wp2_with fail
   exact HR.out _ HB1.out
 · rw [if_neg h0] at HR
   have k0 : ((fds.length : Int) == 0) = false := beq_eq_false_iff_ne.2 (by omega)
   clear h0
   go_enter Tryz.func22, Tryz.ntmps22
   go_wp2_with fail
   go_loopw [6, 7] (fun s i wr => ∃ k : Nat, s = .string (bs (A k)) ∧ i = .int .i64 k ∧ k ≤ fds.length ∧ Hid (Sat w wr [Prt.oldA w, blk w.heap.size (.cells #[.int .i64 7, .slice fa fds.length fc, .slice la lst.length lc, .int .i64 of] 77 (0, 0))])) (fun _ i _ => fds.length - (intOf i).toNat)
   case atStart => exact ⟨0, congrArg Value.string HA0.out, rfl, by omega, (Prt.Sat.old w).allocAt _ w.heap.size⟩
   case round =>
     obtain ⟨k, rfl, rfl, hk, hS⟩ := hrel
     have x1 := hS.out.cell 1 rfl 1 rfl
     by_cases hlt : k < fds.length
     · obtain ⟨gf, capf, e, hgf, d0, d1⟩ := fds_at (owns_below HFX.out hS.out.isBelow) k hlt
       cases e
       have HI := qh (HT.out k hlt _ hS.out.drew.isBelow)
       have hsu := HA1.out k hlt
       have hsz := HA2.out (k + 1) (by omega)
       rw [hsu] at hsz
       generalize fds[k] = fd at *
       obtain ⟨nm, ix⟩ := fd
       dsimp only at d0 d1 HI hsu hsz
       have hsz1 := hsz
       rw [List.length_append] at hsz
       unfold Ty.fieldW at hsz
       simp only [lzA, lzC, lzN] at hsz
       obtain ⟨s2, e2, c2⟩ := cat_ex (a := nm) (b := ⟨#[58, 32]⟩) (x := nm.data.toList) (y := [58, 32]) (z := nm.data.toList ++ [58, 32]) (bs_of nm).symm rfl rfl (by simp only [lzA, lzC, lzN]; omega)
       obtain ⟨s3, e3, c3⟩ := cat_ex (a := s2) (b := bs (tx k)) (z := nm.data.toList ++ [58, 32] ++ tx k) e2 rfl rfl (by simp only [lzA, lzC, lzN]; omega)
       obtain ⟨s4, e4, c4⟩ := cat_ex (a := s3) (b := ⟨#[59, 32]⟩) (y := [59, 32]) (z := Ty.fieldW nm (tx k)) e3 rfl rfl (by unfold Ty.fieldW; simp only [lzA, lzC, lzN]; omega)
       obtain ⟨s5, e5, c5⟩ := cat_ex (a := bs (A k)) (b := s4) (z := A k ++ Ty.fieldW nm (tx k)) rfl e4 rfl (by omega)
       rw [← hsu] at e5
       have E5 := qh e5.symm
       clear e2 e3 e4 e5 hsu hsz hsz1
       go_wp2_with fail
       go_region_held3 (fun w' => w'.cell? ⟨w.heap.size, 1, none⟩ = some (.slice (some ⟨gf, 0, none⟩) fds.length fc) ∧ w'.cell? ⟨gf, k * 2, none⟩ = some (.string nm) ∧ w'.cell? ⟨gf, k * 2 + 1, none⟩ = some (.int .i64 (ix : Nat))) (go_keep)
         (first | (go_at_call 22; refine HI.out _ (fun w2 hb2 => ?_); have h2 := hS.out.drew.below hb2; have z0 := h2.cell 1 rfl 1 rfl; have z1 := keepCell hb2 (show (World.cell? (World.drew _) _) = _ from d0); have z2 := keepCell hb2 (show (World.cell? (World.drew _) _) = _ from d1); have H2 := qh h2; clear h2 hb2))
       all_goals
         go_wp2_with fail
         go_roundw
         case rel => exact ⟨k + 1, congrArg Value.string E5.out.symm, by go_num, by omega, H2.out⟩
         case measure => simp [intOf]; omega
     · have hke : k = fds.length := by omega
       subst hke
       have hsz := HA2.out _ (Nat.le_refl _)
       obtain ⟨s6, e6, c6⟩ := cat_ex (a := ⟨#[123, 32]⟩) (b := bs (A fds.length)) (x := [123, 32]) (z := [123, 32] ++ A fds.length) rfl rfl rfl (by simp; omega)
       obtain ⟨s7, e7, c7⟩ := cat_ex (a := s6) (b := ⟨#[125]⟩) (y := [125]) (z := [123, 32] ++ A fds.length ++ [125]) e6 rfl rfl (by simp; omega)
       rw [← e7] at HR
       clear hsz e6 e7
       go_wp2_with fail
       exact HR.out _ hS.out.isBelow
theorem wt_8 (w : World) (g cap L n of : Nat) (_ : g < w.heap.size) (_ : L ≤ cap) (_ : L ≤ 1000000) (hn : n < L) (fds : List (ByteArray × Nat)) (lst : List Nat) (fv lv : Value) (hA : RowAt w g n ⟨⟨8, fds, lst, of⟩, fv, lv⟩)
   (hfx : w.ownsRow 0 82 2 fv fds.length (fds.flatMap fdCells)) (hlx : w.ownsRow 0 3 1 lv lst.length (lst.map inCell))
   (tx : List UInt8) (ht : WtC (.slice (some ⟨g, 0, none⟩) L cap) w of tx) (hs : tx.length ≤ 900000000) {R : Ending → World → Prop}
   (hR : ∀ w', Below w.heap.size w w' → R (.returned (.string (bs ([91] ++ tx ++ [93])))) w') :
   Calls Tryz.prog 22 #[.slice (some ⟨g, 0, none⟩) L cap, .int .i64 (n : Nat)] w R := by
 have HR := qh hR
 obtain ⟨q0, q1, q2, q3⟩ := hA
 obtain ⟨fa, fc, rfl⟩ := owns_slice hfx
 obtain ⟨la, lc, rfl⟩ := owns_slice hlx
 dsimp only at q0 q1 q2 q3
 have h1 := (Prt.Sat.old w).allocAt (.cells #[.int .i64 8, .slice fa fds.length fc, .slice la lst.length lc, .int .i64 of] 77) w.heap.size
 have HI := qh (ht _ h1.isBelow)
 have HB := qh h1.isBelow
 obtain ⟨s1, e1, c1⟩ := cat_ex (a := ⟨#[91]⟩) (b := bs tx) (x := [91]) (z := [91] ++ tx) rfl rfl rfl (by simp; omega)
 obtain ⟨s2, e2, c2⟩ := cat_ex (a := s1) (b := ⟨#[93]⟩) (y := [93]) (z := [91] ++ tx ++ [93]) e1 rfl rfl (by simp; omega)
 rw [← e2] at HR
 clear hR ht h1 e1 e2 hfx hlx
 go_enter Tryz.func22, Tryz.ntmps22
 go_wp2_with fail
 refine HI.out _ (fun w2 hb2 => ?_)
 have HB2 := qh (HB.out.trans (hb2.mono HB.out.size))
 clear hb2
 go_wp2_with fail
 exact HR.out _ HB2.out
theorem wt_9 (w : World) (g cap L n of : Nat) (_ : g < w.heap.size) (_ : L ≤ cap) (_ : L ≤ 1000000) (hn : n < L) (fds : List (ByteArray × Nat)) (lst : List Nat) (fv lv : Value) (hA : RowAt w g n ⟨⟨9, fds, lst, of⟩, fv, lv⟩)
   (hfx : w.ownsRow 0 82 2 fv fds.length (fds.flatMap fdCells)) (hlx : w.ownsRow 0 3 1 lv lst.length (lst.map inCell)) (hll : lst.length ≤ 1000000)
   (tx : Nat → List UInt8) (ty : List UInt8) (J : Nat → List UInt8) (ht : ∀ j (hj : j < lst.length), WtC (.slice (some ⟨g, 0, none⟩) L cap) w lst[j] (tx j)) (j0 : J 0 = []) (j1 : ∀ j, j < lst.length → J (j + 1) = (if j = 0 then J j else J j ++ [44, 32]) ++ tx j) (j2 : ∀ j, j ≤ lst.length → (J j).length ≤ 400000000)
   (hu : WtC (.slice (some ⟨g, 0, none⟩) L cap) w of ty) (hs2 : ty.length ≤ 400000000) {R : Ending → World → Prop}
   (hR : ∀ w', Below w.heap.size w w' → R (.returned (.string (bs ([40] ++ J lst.length ++ [41, 32, 61, 62, 32] ++ ty)))) w') :
   Calls Tryz.prog 22 #[.slice (some ⟨g, 0, none⟩) L cap, .int .i64 (n : Nat)] w R := by
 have HR := qh hR
 have HT := qh ht
 have HU := qh hu
 have HJ1 := qh j1
 have HJ2 := qh j2
 have HLX := qh hlx
 obtain ⟨q0, q1, q2, q3⟩ := hA
 obtain ⟨fa, fc, rfl⟩ := owns_slice hfx
 obtain ⟨la, lc, rfl⟩ := owns_slice hlx
 dsimp only at q0 q1 q2 q3
 have h1 := (Prt.Sat.old w).allocAt (.cells #[.int .i64 9, .slice fa fds.length fc, .slice la lst.length lc, .int .i64 of] 77) w.heap.size
 have H1 := qh h1
 have HJ0 : Hid (bs [] = bs (J 0)) := by rw [j0]; rfl
 clear hR ht hu j0 j1 j2 hfx hlx h1
 go_enter Tryz.func22, Tryz.ntmps22
 go_wp2_with fail
 go_loopw [6, 8] (fun s i wr => ∃ k : Nat, s = .string (bs (J k)) ∧ i = .int .i64 k ∧ k ≤ lst.length ∧ Hid (Sat w wr [Prt.oldA w, blk w.heap.size (.cells #[.int .i64 9, .slice fa fds.length fc, .slice la lst.length lc, .int .i64 of] 77 (0, 0))])) (fun _ i _ => lst.length - (intOf i).toNat)
 case atStart => exact ⟨0, congrArg Value.string HJ0.out, rfl, by omega, H1.out⟩
 case round =>
   obtain ⟨k, rfl, rfl, hk, hS⟩ := hrel
   have x2 := hS.out.cell 1 rfl 2 rfl
   by_cases hlt : k < lst.length
   · obtain ⟨gl, capl, e, hgl, d0⟩ := ints_at (owns_below HLX.out hS.out.isBelow) k hlt
     cases e
     have HI := qh (HT.out k hlt _ hS.out.isBelow)
     have hsu := HJ1.out k hlt
     have hsz := HJ2.out (k + 1) (by omega)
     have hsz0 := HJ2.out k (by omega)
     generalize lst[k] = ix at *
     by_cases hk0 : k = 0
     · rw [if_pos hk0] at hsu
       rw [hsu, List.length_append] at hsz
       have k0 : decide ((0 : Int) < (k : Nat)) = false := decide_eq_false (by omega)
       have k1 : decide (0 < k) = false := decide_eq_false (by omega)
       obtain ⟨s5, e5, c5⟩ := cat_ex (a := bs (J k)) (b := bs (tx k)) (z := J k ++ tx k) rfl rfl rfl (by rw [List.length_append]; omega)
       rw [← hsu] at e5
       have E5 := qh e5.symm
       clear e5 hsu hsz hsz0 hk0
       go_wp2_with fail
       refine HI.out _ (fun w2 hb2 => ?_)
       have H2 := qh (hS.out.below hb2)
       clear hb2
       go_wp2_with fail
       go_roundw
       case rel => exact ⟨k + 1, congrArg Value.string E5.out.symm, by go_num, by omega, H2.out⟩
       case measure => simp [intOf]; omega
     · rw [if_neg hk0] at hsu
       rw [hsu, List.length_append, List.length_append] at hsz
       simp only [List.length_cons, List.length_nil] at hsz
       have k0 : decide ((0 : Int) < (k : Nat)) = true := decide_eq_true (by omega)
       have k1 : decide (0 < k) = true := decide_eq_true (by omega)
       obtain ⟨s4, e4, c4⟩ := cat_ex (a := bs (J k)) (b := ⟨#[44, 32]⟩) (y := [44, 32]) (z := J k ++ [44, 32]) rfl rfl rfl (by rw [List.length_append]; simp; omega)
       obtain ⟨s5, e5, c5⟩ := cat_ex (a := s4) (b := bs (tx k)) (z := J k ++ [44, 32] ++ tx k) e4 rfl rfl (by simp only [lzA, lzC, lzN]; omega)
       rw [← hsu] at e5
       have E5 := qh e5.symm
       clear e4 e5 hsu hsz hsz0 hk0
       go_wp2_with fail
       refine HI.out _ (fun w2 hb2 => ?_)
       have H2 := qh (hS.out.below hb2)
       clear hb2
       go_wp2_with fail
       go_roundw
       case rel => exact ⟨k + 1, congrArg Value.string E5.out.symm, by go_num, by omega, H2.out⟩
       case measure => simp [intOf]; omega
   · have hke : k = lst.length := by omega
     subst hke
     have hsz := HJ2.out _ (Nat.le_refl _)
     have x3 := hS.out.cell 1 rfl 3 rfl
     have HI := qh (HU.out _ hS.out.isBelow)
     obtain ⟨s1, e1, c1⟩ := cat_ex (a := ⟨#[40]⟩) (b := bs (J lst.length)) (x := [40]) (z := [40] ++ J lst.length) rfl rfl rfl (by simp; omega)
     obtain ⟨s2, e2, c2⟩ := cat_ex (a := s1) (b := ⟨#[41, 32, 61, 62, 32]⟩) (y := [41, 32, 61, 62, 32]) (z := [40] ++ J lst.length ++ [41, 32, 61, 62, 32]) e1 rfl rfl (by simp; omega)
     obtain ⟨s3, e3, c3⟩ := cat_ex (a := s2) (b := bs ty) (z := [40] ++ J lst.length ++ [41, 32, 61, 62, 32] ++ ty) e2 rfl rfl (by simp; omega)
     rw [← e3] at HR
     clear hsz e1 e2 e3
     go_wp2_with fail
     refine HI.out _ (fun w2 hb2 => ?_)
     have H2 := qh (hS.out.below hb2)
     clear hb2
     go_wp2_with fail
     exact HR.out _ H2.out.isBelow
end
section
open Go Go.RowKit
open Prt (Sat As blk pur exs star stars)
open Ty (Tr)
theorem wt_10 (w : World) (g cap L n of : Nat) (hg : g < w.heap.size) (_ : L ≤ cap) (_ : L ≤ 1000000) (hn : n < L) (fds : List (ByteArray × Nat)) (lst : List Nat) (fv lv : Value) (hA : RowAt w g n ⟨⟨10, fds, lst, of⟩, fv, lv⟩)
   (hfx : w.ownsRow 0 82 2 fv fds.length (fds.flatMap fdCells)) (hlx : w.ownsRow 0 3 1 lv lst.length (lst.map inCell)) (hll : lst.length ≤ 1000000)
   (kd : Nat → Nat) (tx : Nat → List UInt8) (J : Nat → List UInt8) (ht : ∀ j (hj : j < lst.length), WtC (.slice (some ⟨g, 0, none⟩) L cap) w lst[j] (tx j)) (hk : ∀ j (hj : j < lst.length), lst[j] < L ∧ w.cell? ⟨g, lst[j] * 4, none⟩ = some (.int .i64 (kd j : Nat)))
   (j0 : J 0 = []) (j1 : ∀ j, j < lst.length → J (j + 1) = (if j = 0 then J j else J j ++ [32, 124, 32]) ++ Ty.brk lst.length j (kd j) (tx j)) (j2 : ∀ j, j ≤ lst.length → (J j).length ≤ 900000000) {R : Ending → World → Prop}
   (hR : ∀ w', Below w.heap.size w w' → R (.returned (.string (bs (J lst.length)))) w') :
   Calls Tryz.prog 22 #[.slice (some ⟨g, 0, none⟩) L cap, .int .i64 (n : Nat)] w R := by
 have HR := qh hR
 have HT := qh ht
 have HJ1 := qh j1
 have HJ2 := qh j2
 have HLX := qh hlx
 have HK := qh hk
 obtain ⟨q0, q1, q2, q3⟩ := hA
 obtain ⟨fa, fc, rfl⟩ := owns_slice hfx
 obtain ⟨la, lc, rfl⟩ := owns_slice hlx
 dsimp only at q0 q1 q2 q3
 have h1 := (Prt.Sat.old w).allocAt (.cells #[.int .i64 10, .slice fa fds.length fc, .slice la lst.length lc, .int .i64 of] 77) w.heap.size
 have H1 := qh h1
 have HJ0 : Hid (bs [] = bs (J 0)) := by rw [j0]; rfl
 clear hR ht hk j0 j1 j2 hfx hlx h1
 go_enter Tryz.func22, Tryz.ntmps22
 go_wp2_with fail
 go_loopw [6, 9] (fun s i wr => ∃ k : Nat, s = .string (bs (J k)) ∧ i = .int .i64 k ∧ k ≤ lst.length ∧ Hid (Sat w wr [Prt.oldA w, blk w.heap.size (.cells #[.int .i64 10, .slice fa fds.length fc, .slice la lst.length lc, .int .i64 of] 77 (0, 0))])) (fun _ i _ => lst.length - (intOf i).toNat)
 case atStart => exact ⟨0, congrArg Value.string HJ0.out, rfl, by omega, H1.out⟩
 case round =>
   obtain ⟨k, rfl, rfl, hk, hS⟩ := hrel
   have x2 := hS.out.cell 1 rfl 2 rfl
   by_cases hlt : k < lst.length
   · obtain ⟨gl, capl, e, hgl, d0⟩ := ints_at (owns_below HLX.out hS.out.isBelow) k hlt
     cases e
     have HI := qh (HT.out k hlt _ hS.out.isBelow)
     obtain ⟨hix, hkc⟩ := HK.out k hlt
     have hsu := HJ1.out k hlt
     have hsz := HJ2.out (k + 1) (by omega)
     have hbk : Ty.brk lst.length k (kd k) (tx k) = if kd k = 10 ∨ kd k = 9 ∧ k + 1 < lst.length then 40 :: (tx k ++ [41]) else tx k := rfl
     obtain ⟨ix, hixx⟩ : ∃ ix, lst[k] = ix := ⟨_, rfl⟩
     rw [hixx] at HI hix hkc d0
     have HIXX := qh hixx
     clear hixx
     have HKC := qh hkc
     generalize kd k = kk at *
     have hcase : (((kk : Int) == 10) = true ∧ Ty.brk lst.length k kk (tx k) = 40 :: (tx k ++ [41])) ∨ (((kk : Int) == 10) = false ∧ ((kk : Int) == 9) = false ∧ Ty.brk lst.length k kk (tx k) = tx k) ∨ (((kk : Int) == 10) = false ∧ ((kk : Int) == 9) = true ∧ k + 1 < lst.length ∧ Ty.brk lst.length k kk (tx k) = 40 :: (tx k ++ [41])) ∨ (((kk : Int) == 10) = false ∧ ((kk : Int) == 9) = true ∧ ¬ k + 1 < lst.length ∧ Ty.brk lst.length k kk (tx k) = tx k) := by
       by_cases e10 : kk = 10
       · left; exact ⟨by simp [e10], by rw [hbk, if_pos (.inl e10)]⟩
       · right
         by_cases e9 : kk = 9
         · right
           by_cases e1 : k + 1 < lst.length
           · left; exact ⟨by simp [e9], by simp [e9], e1, by rw [hbk, if_pos (.inr ⟨e9, e1⟩)]⟩
           · right; exact ⟨by simp [e9], by simp [e9], e1, by rw [hbk, if_neg (by omega)]⟩
         · left; exact ⟨by simp; omega, by simp; omega, by rw [hbk, if_neg (by omega)]⟩
     generalize Ty.brk lst.length k kk (tx k) = bk at *
     -- the text with what is ahead of it
     have hfin : ∃ s5 : ByteArray, s5 = bs (J (k + 1)) ∧ ((k = 0 ∧ ∀ w : World, (Op.stringOp .add (bs (J k)) (bs bk)).run Tryz.prog w = .ok (.string s5) w) ∨ (k ≠ 0 ∧ ∃ s4 : ByteArray, (∀ w : World, (Op.stringOp .add (bs (J k)) ⟨#[32, 124, 32]⟩).run Tryz.prog w = .ok (.string s4) w) ∧ ∀ w : World, (Op.stringOp .add s4 (bs bk)).run Tryz.prog w = .ok (.string s5) w)) := by
       by_cases hk0 : k = 0
       · rw [if_pos hk0] at hsu
         rw [hsu, List.length_append] at hsz
         obtain ⟨s5, e5, c5⟩ := cat_ex (a := bs (J k)) (b := bs bk) (z := J k ++ bk) rfl rfl rfl (by rw [List.length_append]; omega)
         exact ⟨s5, by rw [hsu]; exact e5, .inl ⟨hk0, c5⟩⟩
       · rw [if_neg hk0] at hsu
         rw [hsu, List.length_append, List.length_append] at hsz
         simp only [List.length_cons, List.length_nil] at hsz
         obtain ⟨s4, e4, c4⟩ := cat_ex (a := bs (J k)) (b := ⟨#[32, 124, 32]⟩) (y := [32, 124, 32]) (z := J k ++ [32, 124, 32]) rfl rfl rfl (by rw [List.length_append]; simp; omega)
         obtain ⟨s5, e5, c5⟩ := cat_ex (a := s4) (b := bs bk) (z := J k ++ [32, 124, 32] ++ bk) e4 rfl rfl (by simp only [lzA, lzC, lzN]; omega)
         exact ⟨s5, by rw [hsu]; exact e5, .inr ⟨hk0, s4, c4, c5⟩⟩
     have hbl : bk.length ≤ 900000000 := by
       rw [hsu, List.length_append] at hsz; omega
     obtain ⟨s5, e5, hfin⟩ := hfin
     have E5 := qh e5
     have HFIN := qh hfin
     clear hsu hsz hbk e5 hfin hkc
     go_wp2_with fail
     refine HI.out _ (fun w2 hb2 => ?_)
     have h2 := hS.out.below hb2
     have H2 := qh h2
     have x2 := h2.cell 1 rfl 2 rfl
     obtain ⟨gl2, capl2, e, hgl2, d0⟩ := ints_at (owns_below HLX.out h2.isBelow) k hlt
     cases e
     rw [HIXX.out] at d0
     have q9 := keepCell h2.isBelow HKC.out
     have hg2 : g < w2.heap.size := Nat.lt_of_lt_of_le hg h2.isBelow.size
     clear hb2 h2
     rcases hcase with ⟨k1, hb⟩ | ⟨k1, k2, hb⟩ | ⟨k1, k2, k3, hb⟩ | ⟨k1, k2, k3, hb⟩
     · have hb' := hb
       rw [hb] at hbl
       simp only [List.length_cons, List.length_append, List.length_nil] at hbl
       obtain ⟨t1, f1, u1⟩ := cat_ex (a := ⟨#[40]⟩) (b := bs (tx k)) (x := [40]) (z := 40 :: tx k) rfl rfl rfl (by simp only [List.length_cons]; omega)
       obtain ⟨t2, f2, u2⟩ := cat_ex (a := t1) (b := ⟨#[41]⟩) (y := [41]) (z := bk) f1 rfl (by rw [hb]; rfl) (by rw [hb]; simp only [List.length_cons, List.length_append, List.length_nil]; omega)
       have HFX := HFIN.out
       rw [← f2] at HFX
       have HF2 := qh HFX
       clear HFX f1 f2 hb hb' hbl
       rcases HF2.out with ⟨hk0, c5⟩ | ⟨hk0, s4, c4, c5⟩
       · have m0 : decide ((0 : Int) < (k : Nat)) = false := decide_eq_false (by omega)
         have m1 : decide (0 < k) = false := decide_eq_false (by omega)
         clear hk0
         go_wp2_with fail
         go_roundw
         case rel => exact ⟨k + 1, congrArg Value.string E5.out, by go_num, by omega, H2.out⟩
         case measure => simp [intOf]; omega
       · have m0 : decide ((0 : Int) < (k : Nat)) = true := decide_eq_true (by omega)
         have m1 : decide (0 < k) = true := decide_eq_true (by omega)
         clear hk0
         go_wp2_with fail
         go_roundw
         case rel => exact ⟨k + 1, congrArg Value.string E5.out, by go_num, by omega, H2.out⟩
         case measure => simp [intOf]; omega
     · subst hb
       clear hbl
       rcases HFIN.out with ⟨hk0, c5⟩ | ⟨hk0, s4, c4, c5⟩
       · have m0 : decide ((0 : Int) < (k : Nat)) = false := decide_eq_false (by omega)
         have m1 : decide (0 < k) = false := decide_eq_false (by omega)
         clear hk0
         go_wp2_with fail
         go_roundw
         case rel => exact ⟨k + 1, congrArg Value.string E5.out, by go_num, by omega, H2.out⟩
         case measure => simp [intOf]; omega
       · have m0 : decide ((0 : Int) < (k : Nat)) = true := decide_eq_true (by omega)
         have m1 : decide (0 < k) = true := decide_eq_true (by omega)
         clear hk0
         go_wp2_with fail
         go_roundw
         case rel => exact ⟨k + 1, congrArg Value.string E5.out, by go_num, by omega, H2.out⟩
         case measure => simp [intOf]; omega
     · have hb' := hb
       rw [hb] at hbl
       simp only [List.length_cons, List.length_append, List.length_nil] at hbl
       obtain ⟨t1, f1, u1⟩ := cat_ex (a := ⟨#[40]⟩) (b := bs (tx k)) (x := [40]) (z := 40 :: tx k) rfl rfl rfl (by simp only [List.length_cons]; omega)
       obtain ⟨t2, f2, u2⟩ := cat_ex (a := t1) (b := ⟨#[41]⟩) (y := [41]) (z := bk) f1 rfl (by rw [hb]; rfl) (by rw [hb]; simp only [List.length_cons, List.length_append, List.length_nil]; omega)
       have HFX := HFIN.out
       rw [← f2] at HFX
       have HF2 := qh HFX
       have n0 : decide (((k : Nat) : Int) + 1 < (lst.length : Nat)) = true := decide_eq_true (by omega)
       have n1 : decide (k + 1 < lst.length) = true := decide_eq_true (by omega)
       clear HFX f1 f2 hb hb' hbl k3
       rcases HF2.out with ⟨hk0, c5⟩ | ⟨hk0, s4, c4, c5⟩
       · have m0 : decide ((0 : Int) < (k : Nat)) = false := decide_eq_false (by omega)
         have m1 : decide (0 < k) = false := decide_eq_false (by omega)
         clear hk0
         go_wp2_with fail
         go_roundw
         case rel => exact ⟨k + 1, congrArg Value.string E5.out, by go_num, by omega, H2.out⟩
         case measure => simp [intOf]; omega
       · have m0 : decide ((0 : Int) < (k : Nat)) = true := decide_eq_true (by omega)
         have m1 : decide (0 < k) = true := decide_eq_true (by omega)
         clear hk0
         go_wp2_with fail
         go_roundw
         case rel => exact ⟨k + 1, congrArg Value.string E5.out, by go_num, by omega, H2.out⟩
         case measure => simp [intOf]; omega
     · subst hb
       have n0 : decide (((k : Nat) : Int) + 1 < (lst.length : Nat)) = false := decide_eq_false (by omega)
       have n1 : decide (k + 1 < lst.length) = false := decide_eq_false (by omega)
       clear hbl k3
       rcases HFIN.out with ⟨hk0, c5⟩ | ⟨hk0, s4, c4, c5⟩
       · have m0 : decide ((0 : Int) < (k : Nat)) = false := decide_eq_false (by omega)
         have m1 : decide (0 < k) = false := decide_eq_false (by omega)
         clear hk0
         go_wp2_with fail
         go_roundw
         case rel => exact ⟨k + 1, congrArg Value.string E5.out, by go_num, by omega, H2.out⟩
         case measure => simp [intOf]; omega
       · have m0 : decide ((0 : Int) < (k : Nat)) = true := decide_eq_true (by omega)
         have m1 : decide (0 < k) = true := decide_eq_true (by omega)
         clear hk0
         go_wp2_with fail
         go_roundw
         case rel => exact ⟨k + 1, congrArg Value.string E5.out, by go_num, by omega, H2.out⟩
         case measure => simp [intOf]; omega
   · have hke : k = lst.length := by omega
     subst hke
     go_wp2_with fail
     exact HR.out _ hS.out.isBelow
theorem wt_w1 (w : World) (g cap L n of : Nat) (_ : g < w.heap.size) (_ : L ≤ cap) (_ : L ≤ 1000000) (hn : n < L) (fds : List (ByteArray × Nat)) (lst : List Nat) (fv lv : Value) (hA : RowAt w g n ⟨⟨1, fds, lst, of⟩, fv, lv⟩)
   (hfx : w.ownsRow 0 82 2 fv fds.length (fds.flatMap fdCells)) (hlx : w.ownsRow 0 3 1 lv lst.length (lst.map inCell)) {R : Ending → World → Prop}
   (hR : ∀ w', Below w.heap.size w w' → R (.returned (.string ⟨#[110, 117, 109]⟩)) w') :
   Calls Tryz.prog 22 #[.slice (some ⟨g, 0, none⟩) L cap, .int .i64 (n : Nat)] w R := by
 have HR := qh hR
 obtain ⟨q0, q1, q2, q3⟩ := hA
 obtain ⟨fa, fc, rfl⟩ := owns_slice hfx
 obtain ⟨la, lc, rfl⟩ := owns_slice hlx
 dsimp only at q0 q1 q2 q3
 clear hR hfx hlx
 go_enter Tryz.func22, Tryz.ntmps22
 go_wp2_with fail
 refine HR.out _ ?_
 repeat' (first | exact Below.refl _ _ | apply Below.drew | apply Below.setCell | apply Below.alloc | (simp; done) | (simp; omega) | omega)
theorem wt_w2 (w : World) (g cap L n of : Nat) (_ : g < w.heap.size) (_ : L ≤ cap) (_ : L ≤ 1000000) (hn : n < L) (fds : List (ByteArray × Nat)) (lst : List Nat) (fv lv : Value) (hA : RowAt w g n ⟨⟨2, fds, lst, of⟩, fv, lv⟩)
   (hfx : w.ownsRow 0 82 2 fv fds.length (fds.flatMap fdCells)) (hlx : w.ownsRow 0 3 1 lv lst.length (lst.map inCell)) {R : Ending → World → Prop}
   (hR : ∀ w', Below w.heap.size w w' → R (.returned (.string ⟨#[98, 111, 111, 108]⟩)) w') :
   Calls Tryz.prog 22 #[.slice (some ⟨g, 0, none⟩) L cap, .int .i64 (n : Nat)] w R := by
 have HR := qh hR
 obtain ⟨q0, q1, q2, q3⟩ := hA
 obtain ⟨fa, fc, rfl⟩ := owns_slice hfx
 obtain ⟨la, lc, rfl⟩ := owns_slice hlx
 dsimp only at q0 q1 q2 q3
 clear hR hfx hlx
 go_enter Tryz.func22, Tryz.ntmps22
 go_wp2_with fail
 refine HR.out _ ?_
 repeat' (first | exact Below.refl _ _ | apply Below.drew | apply Below.setCell | apply Below.alloc | (simp; done) | (simp; omega) | omega)
theorem wt_w3 (w : World) (g cap L n of : Nat) (_ : g < w.heap.size) (_ : L ≤ cap) (_ : L ≤ 1000000) (hn : n < L) (fds : List (ByteArray × Nat)) (lst : List Nat) (fv lv : Value) (hA : RowAt w g n ⟨⟨3, fds, lst, of⟩, fv, lv⟩)
   (hfx : w.ownsRow 0 82 2 fv fds.length (fds.flatMap fdCells)) (hlx : w.ownsRow 0 3 1 lv lst.length (lst.map inCell)) {R : Ending → World → Prop}
   (hR : ∀ w', Below w.heap.size w w' → R (.returned (.string ⟨#[116, 101, 120, 116]⟩)) w') :
   Calls Tryz.prog 22 #[.slice (some ⟨g, 0, none⟩) L cap, .int .i64 (n : Nat)] w R := by
 have HR := qh hR
 obtain ⟨q0, q1, q2, q3⟩ := hA
 obtain ⟨fa, fc, rfl⟩ := owns_slice hfx
 obtain ⟨la, lc, rfl⟩ := owns_slice hlx
 dsimp only at q0 q1 q2 q3
 clear hR hfx hlx
 go_enter Tryz.func22, Tryz.ntmps22
 go_wp2_with fail
 refine HR.out _ ?_
 repeat' (first | exact Below.refl _ _ | apply Below.drew | apply Below.setCell | apply Below.alloc | (simp; done) | (simp; omega) | omega)
theorem wt_w4 (w : World) (g cap L n of : Nat) (_ : g < w.heap.size) (_ : L ≤ cap) (_ : L ≤ 1000000) (hn : n < L) (fds : List (ByteArray × Nat)) (lst : List Nat) (fv lv : Value) (hA : RowAt w g n ⟨⟨4, fds, lst, of⟩, fv, lv⟩)
   (hfx : w.ownsRow 0 82 2 fv fds.length (fds.flatMap fdCells)) (hlx : w.ownsRow 0 3 1 lv lst.length (lst.map inCell)) {R : Ending → World → Prop}
   (hR : ∀ w', Below w.heap.size w w' → R (.returned (.string ⟨#[110, 117, 108, 108]⟩)) w') :
   Calls Tryz.prog 22 #[.slice (some ⟨g, 0, none⟩) L cap, .int .i64 (n : Nat)] w R := by
 have HR := qh hR
 obtain ⟨q0, q1, q2, q3⟩ := hA
 obtain ⟨fa, fc, rfl⟩ := owns_slice hfx
 obtain ⟨la, lc, rfl⟩ := owns_slice hlx
 dsimp only at q0 q1 q2 q3
 clear hR hfx hlx
 go_enter Tryz.func22, Tryz.ntmps22
 go_wp2_with fail
 refine HR.out _ ?_
 repeat' (first | exact Below.refl _ _ | apply Below.drew | apply Below.setCell | apply Below.alloc | (simp; done) | (simp; omega) | omega)
theorem wt_w5 (w : World) (g cap L n of : Nat) (_ : g < w.heap.size) (_ : L ≤ cap) (_ : L ≤ 1000000) (hn : n < L) (fds : List (ByteArray × Nat)) (lst : List Nat) (fv lv : Value) (hA : RowAt w g n ⟨⟨5, fds, lst, of⟩, fv, lv⟩)
   (hfx : w.ownsRow 0 82 2 fv fds.length (fds.flatMap fdCells)) (hlx : w.ownsRow 0 3 1 lv lst.length (lst.map inCell)) {R : Ending → World → Prop}
   (hR : ∀ w', Below w.heap.size w w' → R (.returned (.string ⟨#[97, 110, 121]⟩)) w') :
   Calls Tryz.prog 22 #[.slice (some ⟨g, 0, none⟩) L cap, .int .i64 (n : Nat)] w R := by
 have HR := qh hR
 obtain ⟨q0, q1, q2, q3⟩ := hA
 obtain ⟨fa, fc, rfl⟩ := owns_slice hfx
 obtain ⟨la, lc, rfl⟩ := owns_slice hlx
 dsimp only at q0 q1 q2 q3
 clear hR hfx hlx
 go_enter Tryz.func22, Tryz.ntmps22
 go_wp2_with fail
 refine HR.out _ ?_
 repeat' (first | exact Below.refl _ _ | apply Below.drew | apply Below.setCell | apply Below.alloc | (simp; done) | (simp; omega) | omega)
theorem wt_w6 (w : World) (g cap L n of : Nat) (_ : g < w.heap.size) (_ : L ≤ cap) (_ : L ≤ 1000000) (hn : n < L) (fds : List (ByteArray × Nat)) (lst : List Nat) (fv lv : Value) (hA : RowAt w g n ⟨⟨6, fds, lst, of⟩, fv, lv⟩)
   (hfx : w.ownsRow 0 82 2 fv fds.length (fds.flatMap fdCells)) (hlx : w.ownsRow 0 3 1 lv lst.length (lst.map inCell)) {R : Ending → World → Prop}
   (hR : ∀ w', Below w.heap.size w w' → R (.returned (.string ⟨#[117, 110, 107, 110, 111, 119, 110]⟩)) w') :
   Calls Tryz.prog 22 #[.slice (some ⟨g, 0, none⟩) L cap, .int .i64 (n : Nat)] w R := by
 have HR := qh hR
 obtain ⟨q0, q1, q2, q3⟩ := hA
 obtain ⟨fa, fc, rfl⟩ := owns_slice hfx
 obtain ⟨la, lc, rfl⟩ := owns_slice hlx
 dsimp only at q0 q1 q2 q3
 clear hR hfx hlx
 go_enter Tryz.func22, Tryz.ntmps22
 go_wp2_with fail
 refine HR.out _ ?_
 repeat' (first | exact Below.refl _ _ | apply Below.drew | apply Below.setCell | apply Below.alloc | (simp; done) | (simp; omega) | omega)
end
end Go.Proofs.YtdlbhiaceheffaaGreatDoor
