/- Walk of showBegun. Walks of the reference's Digits, level, blanks, writeColon. Walks of the reference's Write and writeList. -/
import Derived.IntWalk
import Derived.Laws.IdiomStrings
import Derived.Deep.RegionHeldLaw
import Derived.Test.YtdlbhiaceheffaaGreatDoorU32
set_option linter.all false
set_option maxRecDepth 100000
set_option maxHeartbeats 4000000
namespace Go.Proofs.YtdlbhiaceheffaaGreatDoor
section
open Go Go.RowKit
open Prt (Sat As blk pur exs star stars)
theorem showBegun_any (w : World) (hw : Words w) (hpw : Pow w) {R : Ending → World → Prop} (hR : ∀ w', Below w.heap.size w w' → R (.returned (.bool true)) w') :
   Calls Tryz.prog 20 #[] w R := by
 have HR := qh hR
 have HW := qh hw
 have HPW := qh hpw
 clear hR hw hpw
 go_enter Tryz.func20, Tryz.ntmps20
 go_wp2_with fail
 refine Print_any (FrB.old w) (Prt.Sat.old w) Ty.beg3 HW.out HPW.out (by decide) Ty.beg3l (fun pg h => (Ty.beg3_ok h).1) (fun pg w1 hp hl h1 => ?_) (fun pg w1 hp hl h1 => ?_) (fun f w1 hp h1 => (Ty.beg3_no hp).elim)
 rotate_left
 · rw [(Ty.beg3_ok hp).2, Ty.beg3_text] at hl; simp at hl
 rw [(Ty.beg3_ok hp).2, Ty.beg3_text]
 have h2 := h1.allocAt (.cells #[.int .i64 0, .int .i64 0] 25) w1.heap.size
 have H2 := qh h2
 clear hp hl h1 h2
 rw [show bs [108, 101, 116, 32, 120, 32, 61, 32, 40, 49, 32, 43, 32, 50, 41, 32, 42, 32, 51, 59, 10] = ⟨#[108, 101, 116, 32, 120, 32, 61, 32, 40, 49, 32, 43, 32, 50, 41, 32, 42, 32, 51, 59, 10]⟩ from rfl]
 dsimp only [ftVal]
 go_wp2_with fail
 refine ShowType_any (Prt.Sat.pack (L := []) H2.out) Ty.beg4 (HW.out.below H2.out.isBelow) (by decide) (fun ts w2 ht h3 => ?_) (fun f w2 ht h3 => (Ty.beg4_no ht).elim)
 rw [Ty.beg4_text ht]
 have h4 := (h3.unpack (i := 0) rfl).allocAt (.cells #[.int .i64 0, .int .i64 0] 25) w2.heap.size
 have x0 := h4.cell 1 rfl 0 rfl
 have x1 := h4.cell 1 rfl 1 rfl
 have H4 := qh h4
 clear ht h3 h4
 rw [show bs [110, 117, 109, 32, 124, 32, 116, 101, 120, 116] = ⟨#[110, 117, 109, 32, 124, 32, 116, 101, 120, 116]⟩ from rfl]
 dsimp only [ftVal]
 go_wp2_with fail
 exact HR.out _ H4.out.isBelow
end
section
open Go Go.RowKit
open Prt (Sat As blk pur exs star stars)
theorem digit_any (n : Nat) (hn : n < 10) (w : World) {R : Ending → World → Prop} (hR : ∀ w', Below w.heap.size w w' → R (.returned (.string (bs [UInt8.ofNat (48 + n)]))) w') : Calls Tryz.prog 154 #[.int .i64 (n : Nat)] w R := by
 have HR := qh hR
 clear hR
 have h : n = 0 ∨ n = 1 ∨ n = 2 ∨ n = 3 ∨ n = 4 ∨ n = 5 ∨ n = 6 ∨ n = 7 ∨ n = 8 ∨ n = 9 := by omega
 clear hn
 rcases h with rfl | rfl | rfl | rfl | rfl | rfl | rfl | rfl | rfl | rfl
 · have hcv : (convert 85 9 (.slice (some ⟨w.heap.size, 0, none⟩) 1 1)).run Tryz.prog (w.alloc (.cells #[.int .u8 48] 5)) = .ok (.string (bs [48])) (w.alloc (.cells #[.int .u8 48] 5)) :=
     run_convert_bytes_back _ 85 9 5 ⟨w.heap.size, 0, none⟩ 1 [48] Tryz.underlying85 Tryz.underlying5 Tryz.underlying9 (fun j hj => by
       have h0 : j = 0 := by simp at hj; omega
       subst h0
       rw [show (⟨w.heap.size, 0, none⟩ : Addr).add 0 = ⟨w.heap.size, 0, none⟩ by simp [Addr.add], World.cell?_alloc_mark]
       rfl)
   go_enter Tryz.func154, Tryz.ntmps154
   go_wp2_with fail
   refine HR.out _ ?_
   repeat' (first | exact Below.refl _ _ | apply Below.drew | apply Below.setCell | apply Below.alloc | (simp; done) | (simp; omega) | omega)
 · have hcv : (convert 85 9 (.slice (some ⟨w.heap.size, 0, none⟩) 1 1)).run Tryz.prog (w.alloc (.cells #[.int .u8 49] 5)) = .ok (.string (bs [49])) (w.alloc (.cells #[.int .u8 49] 5)) :=
     run_convert_bytes_back _ 85 9 5 ⟨w.heap.size, 0, none⟩ 1 [49] Tryz.underlying85 Tryz.underlying5 Tryz.underlying9 (fun j hj => by
       have h0 : j = 0 := by simp at hj; omega
       subst h0
       rw [show (⟨w.heap.size, 0, none⟩ : Addr).add 0 = ⟨w.heap.size, 0, none⟩ by simp [Addr.add], World.cell?_alloc_mark]
       rfl)
   go_enter Tryz.func154, Tryz.ntmps154
   go_wp2_with fail
   refine HR.out _ ?_
   repeat' (first | exact Below.refl _ _ | apply Below.drew | apply Below.setCell | apply Below.alloc | (simp; done) | (simp; omega) | omega)
 · have hcv : (convert 85 9 (.slice (some ⟨w.heap.size, 0, none⟩) 1 1)).run Tryz.prog (w.alloc (.cells #[.int .u8 50] 5)) = .ok (.string (bs [50])) (w.alloc (.cells #[.int .u8 50] 5)) :=
     run_convert_bytes_back _ 85 9 5 ⟨w.heap.size, 0, none⟩ 1 [50] Tryz.underlying85 Tryz.underlying5 Tryz.underlying9 (fun j hj => by
       have h0 : j = 0 := by simp at hj; omega
       subst h0
       rw [show (⟨w.heap.size, 0, none⟩ : Addr).add 0 = ⟨w.heap.size, 0, none⟩ by simp [Addr.add], World.cell?_alloc_mark]
       rfl)
   go_enter Tryz.func154, Tryz.ntmps154
   go_wp2_with fail
   refine HR.out _ ?_
   repeat' (first | exact Below.refl _ _ | apply Below.drew | apply Below.setCell | apply Below.alloc | (simp; done) | (simp; omega) | omega)
 · have hcv : (convert 85 9 (.slice (some ⟨w.heap.size, 0, none⟩) 1 1)).run Tryz.prog (w.alloc (.cells #[.int .u8 51] 5)) = .ok (.string (bs [51])) (w.alloc (.cells #[.int .u8 51] 5)) :=
     run_convert_bytes_back _ 85 9 5 ⟨w.heap.size, 0, none⟩ 1 [51] Tryz.underlying85 Tryz.underlying5 Tryz.underlying9 (fun j hj => by
       have h0 : j = 0 := by simp at hj; omega
       subst h0
       rw [show (⟨w.heap.size, 0, none⟩ : Addr).add 0 = ⟨w.heap.size, 0, none⟩ by simp [Addr.add], World.cell?_alloc_mark]
       rfl)
   go_enter Tryz.func154, Tryz.ntmps154
   go_wp2_with fail
   refine HR.out _ ?_
   repeat' (first | exact Below.refl _ _ | apply Below.drew | apply Below.setCell | apply Below.alloc | (simp; done) | (simp; omega) | omega)
 · have hcv : (convert 85 9 (.slice (some ⟨w.heap.size, 0, none⟩) 1 1)).run Tryz.prog (w.alloc (.cells #[.int .u8 52] 5)) = .ok (.string (bs [52])) (w.alloc (.cells #[.int .u8 52] 5)) :=
     run_convert_bytes_back _ 85 9 5 ⟨w.heap.size, 0, none⟩ 1 [52] Tryz.underlying85 Tryz.underlying5 Tryz.underlying9 (fun j hj => by
       have h0 : j = 0 := by simp at hj; omega
       subst h0
       rw [show (⟨w.heap.size, 0, none⟩ : Addr).add 0 = ⟨w.heap.size, 0, none⟩ by simp [Addr.add], World.cell?_alloc_mark]
       rfl)
   go_enter Tryz.func154, Tryz.ntmps154
   go_wp2_with fail
   refine HR.out _ ?_
   repeat' (first | exact Below.refl _ _ | apply Below.drew | apply Below.setCell | apply Below.alloc | (simp; done) | (simp; omega) | omega)
 · have hcv : (convert 85 9 (.slice (some ⟨w.heap.size, 0, none⟩) 1 1)).run Tryz.prog (w.alloc (.cells #[.int .u8 53] 5)) = .ok (.string (bs [53])) (w.alloc (.cells #[.int .u8 53] 5)) :=
     run_convert_bytes_back _ 85 9 5 ⟨w.heap.size, 0, none⟩ 1 [53] Tryz.underlying85 Tryz.underlying5 Tryz.underlying9 (fun j hj => by
       have h0 : j = 0 := by simp at hj; omega
       subst h0
       rw [show (⟨w.heap.size, 0, none⟩ : Addr).add 0 = ⟨w.heap.size, 0, none⟩ by simp [Addr.add], World.cell?_alloc_mark]
       rfl)
   go_enter Tryz.func154, Tryz.ntmps154
   go_wp2_with fail
   refine HR.out _ ?_
   repeat' (first | exact Below.refl _ _ | apply Below.drew | apply Below.setCell | apply Below.alloc | (simp; done) | (simp; omega) | omega)
 · have hcv : (convert 85 9 (.slice (some ⟨w.heap.size, 0, none⟩) 1 1)).run Tryz.prog (w.alloc (.cells #[.int .u8 54] 5)) = .ok (.string (bs [54])) (w.alloc (.cells #[.int .u8 54] 5)) :=
     run_convert_bytes_back _ 85 9 5 ⟨w.heap.size, 0, none⟩ 1 [54] Tryz.underlying85 Tryz.underlying5 Tryz.underlying9 (fun j hj => by
       have h0 : j = 0 := by simp at hj; omega
       subst h0
       rw [show (⟨w.heap.size, 0, none⟩ : Addr).add 0 = ⟨w.heap.size, 0, none⟩ by simp [Addr.add], World.cell?_alloc_mark]
       rfl)
   go_enter Tryz.func154, Tryz.ntmps154
   go_wp2_with fail
   refine HR.out _ ?_
   repeat' (first | exact Below.refl _ _ | apply Below.drew | apply Below.setCell | apply Below.alloc | (simp; done) | (simp; omega) | omega)
 · have hcv : (convert 85 9 (.slice (some ⟨w.heap.size, 0, none⟩) 1 1)).run Tryz.prog (w.alloc (.cells #[.int .u8 55] 5)) = .ok (.string (bs [55])) (w.alloc (.cells #[.int .u8 55] 5)) :=
     run_convert_bytes_back _ 85 9 5 ⟨w.heap.size, 0, none⟩ 1 [55] Tryz.underlying85 Tryz.underlying5 Tryz.underlying9 (fun j hj => by
       have h0 : j = 0 := by simp at hj; omega
       subst h0
       rw [show (⟨w.heap.size, 0, none⟩ : Addr).add 0 = ⟨w.heap.size, 0, none⟩ by simp [Addr.add], World.cell?_alloc_mark]
       rfl)
   go_enter Tryz.func154, Tryz.ntmps154
   go_wp2_with fail
   refine HR.out _ ?_
   repeat' (first | exact Below.refl _ _ | apply Below.drew | apply Below.setCell | apply Below.alloc | (simp; done) | (simp; omega) | omega)
 · have hcv : (convert 85 9 (.slice (some ⟨w.heap.size, 0, none⟩) 1 1)).run Tryz.prog (w.alloc (.cells #[.int .u8 56] 5)) = .ok (.string (bs [56])) (w.alloc (.cells #[.int .u8 56] 5)) :=
     run_convert_bytes_back _ 85 9 5 ⟨w.heap.size, 0, none⟩ 1 [56] Tryz.underlying85 Tryz.underlying5 Tryz.underlying9 (fun j hj => by
       have h0 : j = 0 := by simp at hj; omega
       subst h0
       rw [show (⟨w.heap.size, 0, none⟩ : Addr).add 0 = ⟨w.heap.size, 0, none⟩ by simp [Addr.add], World.cell?_alloc_mark]
       rfl)
   go_enter Tryz.func154, Tryz.ntmps154
   go_wp2_with fail
   refine HR.out _ ?_
   repeat' (first | exact Below.refl _ _ | apply Below.drew | apply Below.setCell | apply Below.alloc | (simp; done) | (simp; omega) | omega)
 · have hcv : (convert 85 9 (.slice (some ⟨w.heap.size, 0, none⟩) 1 1)).run Tryz.prog (w.alloc (.cells #[.int .u8 57] 5)) = .ok (.string (bs [57])) (w.alloc (.cells #[.int .u8 57] 5)) :=
     run_convert_bytes_back _ 85 9 5 ⟨w.heap.size, 0, none⟩ 1 [57] Tryz.underlying85 Tryz.underlying5 Tryz.underlying9 (fun j hj => by
       have h0 : j = 0 := by simp at hj; omega
       subst h0
       rw [show (⟨w.heap.size, 0, none⟩ : Addr).add 0 = ⟨w.heap.size, 0, none⟩ by simp [Addr.add], World.cell?_alloc_mark]
       rfl)
   go_enter Tryz.func154, Tryz.ntmps154
   go_wp2_with fail
   refine HR.out _ ?_
   repeat' (first | exact Below.refl _ _ | apply Below.drew | apply Below.setCell | apply Below.alloc | (simp; done) | (simp; omega) | omega)
theorem Digits_any : ∀ (N n : Nat), n < N → n ≤ 1000000000 → ∀ (w : World) (R : Ending → World → Prop), (∀ w', Below w.heap.size w w' → R (.returned (.string (bs (Lib.decDigits n)))) w') → Calls Tryz.prog 154 #[.int .i64 (n : Nat)] w R := by
 intro N
 induction N with
 | zero => intro n h; omega
 | succ N ih =>
   intro n hN hn w R hR
   rw [Lib.decDigits] at hR
   by_cases h10 : n < 10
   · rw [dif_pos h10] at hR
     exact digit_any n h10 w hR
   · rw [dif_neg h10] at hR
     have HR := qh hR
     have h1 := fun (w1 : World) (R : Ending → World → Prop) => ih (n / 10) (by omega) (by omega) w1 R
     rw [show ((n / 10 : Nat) : Int) = (n : Int) / 10 by omega] at h1
     have h2 := fun (w1 : World) (R : Ending → World → Prop) => digit_any (n % 10) (by omega) w1 (R := R)
     rw [show ((n % 10 : Nat) : Int) = (n : Int) % 10 by omega] at h2
     have hlen : (Lib.decDigits (n / 10)).length ≤ 20 := by rw [Lib.decDigits_length]; exact Lib.nDigits_le20 _ (by omega)
     obtain ⟨s1, e1, c1⟩ := cat_ex (a := bs (Lib.decDigits (n / 10))) (b := bs [UInt8.ofNat (48 + n % 10)]) (z := Lib.decDigits (n / 10) ++ [UInt8.ofNat (48 + n % 10)]) rfl rfl rfl (by simp; omega)
     rw [← e1] at HR
     have H1 := qh h1
     have H2 := qh h2
     clear hR h1 h2 e1 hlen ih
     generalize bs (Lib.decDigits (n / 10)) = sa at *
     generalize bs [UInt8.ofNat (48 + n % 10)] = sb at *
     have hn10 : 10 ≤ n := by omega
     clear h10
     go_enter Tryz.func154, Tryz.ntmps154
     go_wp2_with fail
     refine H1.out _ _ (fun w1 hb1 => ?_)
     have HB1 := qh hb1
     clear hb1
     go_wp2_with fail
     refine H2.out _ _ (fun w2 hb2 => ?_)
     have HB2 := qh (HB1.out.trans (hb2.mono HB1.out.size))
     clear hb2
     go_wp2_with fail
     exact HR.out _ HB2.out
theorem level_is (w : World) (nd : Ty.Nd) (lv : Value) (hl : ∃ a n c, lv = .slice a n c) (v : Nat) (hv : lvlN nd = v) {R : Ending → World → Prop} (hR : ∀ w', Below w.heap.size w w' → R (.returned (.int .i64 v)) w') :
   Calls Tryz.prog 121 #[ndVal nd lv] w R := by
 subst hv
 have HR := qh hR
 obtain ⟨la, ln, lc, rfl⟩ := hl
 obtain ⟨kd, fa, fb, fc, fl, tx, fn, fty, ps⟩ := nd
 dsimp only [lvlN, ndVal] at HR ⊢
 clear hR
 by_cases h13 : kd = 13
 · subst h13
   rw [if_pos rfl] at HR
   go_enter Tryz.func121, Tryz.ntmps121
   go_wp2_with fail
   exact HR.out _ ((Below.refl _ _).alloc (Nat.le_refl _) _)
 · rw [if_neg h13] at HR
   have k13 : ((kd : Int) == 13) = false := beq_eq_false_iff_ne.2 (by omega)
   by_cases h12 : kd = 12
   · subst h12
     rw [if_neg (by simp)] at HR
     unfold Ty.signLv at HR
     have hc : (tx.toList == [42]) = true ∧ tx.data.toList = [42] ∨ (tx.toList == [42]) = false ∧ ((tx.toList == [43]) = true ∨ (tx.toList == [43]) = false ∧ (tx.toList == [45]) = true) ∧ (tx.data.toList ≠ [42] ∧ (tx.data.toList = [43] ∨ tx.data.toList = [45])) ∨
         ((tx.toList == [42]) = false ∧ (tx.toList == [43]) = false ∧ (tx.toList == [45]) = false) ∧ (tx.data.toList ≠ [42] ∧ ¬ (tx.data.toList = [43] ∨ tx.data.toList = [45])) := by
       rw [Lib.toList_data]
       by_cases h1 : tx.data.toList = [42]
       · left; simp [h1]
       · right
         by_cases h2 : tx.data.toList = [43]
         · left; simp [h2]
         · by_cases h3 : tx.data.toList = [45]
           · left; simp [h3]
           · right; simp [h1, h2, h3]
     clear h13
     rcases hc with ⟨k1, hv⟩ | ⟨k1, hk, hv1, hv2⟩ | ⟨⟨k1, k2, k3⟩, hv1, hv2⟩
     · rw [if_pos hv] at HR
       clear hv
       go_enter Tryz.func121, Tryz.ntmps121
       go_wp2_with fail
       exact HR.out _ ((Below.refl _ _).alloc (Nat.le_refl _) _)
     · rw [if_neg hv1, if_pos hv2] at HR
       clear hv1 hv2
       rcases hk with k2 | ⟨k2, k3⟩
       · go_enter Tryz.func121, Tryz.ntmps121
         go_wp2_with fail
         exact HR.out _ ((Below.refl _ _).alloc (Nat.le_refl _) _)
       · go_enter Tryz.func121, Tryz.ntmps121
         go_wp2_with fail
         exact HR.out _ ((Below.refl _ _).alloc (Nat.le_refl _) _)
     · rw [if_neg hv1, if_neg hv2] at HR
       clear hv1 hv2
       go_enter Tryz.func121, Tryz.ntmps121
       go_wp2_with fail
       exact HR.out _ ((Below.refl _ _).alloc (Nat.le_refl _) _)
   · rw [if_pos h12] at HR
     have k12 : ((kd : Int) != 12) = true := by simp; omega
     clear h13 h12
     go_enter Tryz.func121, Tryz.ntmps121
     go_wp2_with fail
     exact HR.out _ ((Below.refl _ _).alloc (Nat.le_refl _) _)
theorem rblanks_any (w : World) (n : Nat) (hn : n ≤ 1000000) {R : Ending → World → Prop} (hR : R (.returned (.string (bs (Ty.blanks n)))) w) : Calls Tryz.prog 85 #[.int .i64 (n : Nat)] w R := by
 have HR := qh hR
 clear hR
 go_enter Tryz.func85, Tryz.ntmps85
 go_wp2_with fail
 go_loop [3, 4] (fun s i => ∃ k : Nat, k ≤ n ∧ s = .string (bs (Ty.blanks k)) ∧ i = .int .i64 k) (fun _ i => n - (intOf i).toNat)
 case atStart => exact ⟨0, by omega, rfl, rfl⟩
 case round =>
   obtain ⟨k, hk, rfl, rfl⟩ := hrel
   by_cases hlt : k < n
   · have hbl := Ty.blanks_len k
     obtain ⟨s1, e1, c1⟩ := cat_ex (a := bs (Ty.blanks k)) (b := ⟨#[32, 32]⟩) (y := [32, 32]) (z := Ty.blanks (k + 1)) rfl rfl (Ty.blanks_snoc k).symm (by rw [Ty.blanks_len]; omega)
     have E1 := qh e1
     clear e1 hbl
     generalize bs (Ty.blanks k) = sk at *
     go_wp2_with fail
     go_round
     case rel => exact ⟨k + 1, by omega, by rw [E1.out], by go_num⟩
     case measure => simp [intOf]; omega
   · have e : k = n := by omega
     subst e
     go_wp2_with fail
     exact HR.out
def pgVal (nv tv : Value) (main : Int) : Value := .agg #[nv, tv, .int .i64 main]
theorem PB.wtext {wB : World} {nv tv : Value} {pg : Ty.Pg} (h : PB wB nv tv pg) {n : Nat} (hn : Ty.TyIn n pg.ts) : WtC tv wB n (Ty.text (Ty.den pg.ts n)) ∧ (Ty.text (Ty.den pg.ts n)).length ≤ 12000 := by
 obtain ⟨rows, hr, hrd⟩ := h.ty
 have h1 := Ty.tyIn_text h.ok.wf h.ok.nm hn
 have h2 := h.ok.tlen
 have h3 := hn.cnt
 exact ⟨WriteType_all wB tv rows pg.ts hr h.ok.wf (by omega) hrd (n + 1) n (by omega) hn.lt h1.2.1 (by omega), by omega⟩
theorem PB.ndSlice {wB : World} {nv tv : Value} {pg : Ty.Pg} (h : PB wB nv tv pg) : ∃ a n c, nv = .slice a n c := by
 obtain ⟨rows, hr, hrd⟩ := h.nd
 obtain ⟨a, c, e⟩ := owns_slice hrd.row
 exact ⟨a, _, c, e⟩
theorem writeColon_any {wB w : World} {nv tv : Value} {pg : Ty.Pg} {main : Int} (hP : PB wB nv tv pg) (hb : Below wB.heap.size wB w) {ty : Int} (hty : Ty.TyZ ty pg.ts) {R : Ending → World → Prop}
   (hR : ∀ w', Below w.heap.size w w' → R (.returned (.string (bs (Ty.colS pg.ts ty)))) w') : Calls Tryz.prog 86 #[pgVal nv tv main, .int .i64 ty] w R := by
 have HR := qh hR
 obtain ⟨ta, tn, tc, rfl⟩ := hP.tySlice
 obtain ⟨na, nn, nc, rfl⟩ := hP.ndSlice
 unfold Ty.colS at HR
 dsimp only [pgVal]
 rcases hty with rfl | ⟨n, rfl, hn⟩
 · rw [if_pos (by omega)] at HR
   clear hR hP hb
   go_enter Tryz.func86, Tryz.ntmps86
   go_wp2_with fail
   exact HR.out _ ((Below.refl _ _).alloc (Nat.le_refl _) _)
 · rw [if_neg (by omega)] at HR
   have htx := hP.wtext hn
   rw [show ((n : Int)).toNat = n by omega] at HR
   have h1 : Below w.heap.size w (w.alloc (.cells #[.slice na nn nc, .slice ta tn tc, .int .i64 main] 33)) := (Below.refl _ _).alloc (Nat.le_refl _) _
   have HT := qh (htx.1 _ (hb.trans (h1.mono hb.size)))
   have hl := htx.2
   generalize Ty.text (Ty.den pg.ts n) = tx at *
   obtain ⟨s1, e1, c1⟩ := cat_ex (a := ⟨#[58, 32]⟩) (b := bs tx) (x := [58, 32]) (z := [58, 32] ++ tx) rfl rfl rfl (by simp; omega)
   rw [← e1] at HR
   have HB1 := qh h1
   clear hR hP hb hn htx hl e1 h1
   go_enter Tryz.func86, Tryz.ntmps86
   go_wp2_with fail
   refine HT.out _ (fun w1 hb1 => ?_)
   have HB2 := qh (HB1.out.trans (hb1.mono HB1.out.size))
   clear hb1
   go_wp2_with fail
   exact HR.out _ HB2.out
end
section
open Go Go.RowKit
open Prt (Sat As blk pur exs star stars)
def RxC (wB : World) (nv tv : Value) (pg : Ty.Pg) (main : Int) (e : Ty.Ex) : Prop :=
 ∀ (n : Nat), Ty.DenE pg.ns e n → ∀ (least ind : Nat) (w : World), Below wB.heap.size wB w → least ≤ 10 → ind + Ty.szE e ≤ 1300 → (Ty.wP pg.ts ind least e).length ≤ 900000000 →
   ∀ R : Ending → World → Prop, (∀ w', Below w.heap.size w w' → R (.returned (.string (bs (Ty.wP pg.ts ind least e)))) w') →
   Calls Tryz.prog 87 #[pgVal nv tv main, .int .i64 (n : Nat), .int .i64 (least : Nat), .int .i64 (ind : Nat)] w R
def RbC (wB : World) (nv tv : Value) (pg : Ty.Pg) (main : Int) (e : Ty.Ex) : Prop :=
 ∀ (n : Nat) (nd : Ty.Nd) (lv : Value), Ty.DenE pg.ns e n → pg.ns[n]? = some nd → wB.ownsRow 0 3 1 lv nd.list.length (nd.list.map inCell) →
   ∀ (ind : Nat) (w : World), Below wB.heap.size wB w → ind + Ty.szE e ≤ 1300 → (Ty.wE pg.ts ind e).length ≤ 900000000 →
   ∀ R : Ending → World → Prop, (∀ w', Below w.heap.size w w' → R (.returned (.string (bs (Ty.wE pg.ts ind e)))) w') →
   Calls Tryz.prog 120 #[pgVal nv tv main, ndVal nd lv, .int .i64 (ind : Nat)] w R
abbrev pgObj (nv tv : Value) (main : Int) : Obj := .cells #[nv, tv, .int .i64 main] 33 (0, 0)
structure PgRd (w : World) (b g n : Nat) (nv tv : Value) (main : Int) (nd : Ty.Nd) (lv : Value) : Prop where
 p0 : w.cell? ⟨b, 0, none⟩ = some nv
 p1 : w.cell? ⟨b, 1, none⟩ = some tv
 p2 : w.cell? ⟨b, 2, none⟩ = some (.int .i64 main)
 nd : NdAt w g n nd lv
section
variable {wB : World} {nv tv : Value} {pg : Ty.Pg} {main : Int}
theorem write_of_bare (hP : PB wB nv tv pg) {e : Ty.Ex} (hB : RbC wB nv tv pg main e) : RxC wB nv tv pg main e := by
 intro n hd least ind w hb hle hsz hlen R hR
 obtain ⟨nd, hn, hlv⟩ := den_nd hd
 obtain ⟨g, cap, lv, rfl, hnl, hg, hcap, hcm, hA, hl, _, hN⟩ := hP.look hn
 obtain ⟨ta, tn, tc, rfl⟩ := hP.tySlice
 have HR := qh hR
 have HLV := qh hlv
 have HS : Hid (∀ w1, Sat w w1 [Prt.oldA w, blk w.heap.size (pgObj (.slice (some ⟨g, 0, none⟩) pg.ns.length cap) (.slice ta tn tc) main)] → PgRd w1 w.heap.size g n (.slice (some ⟨g, 0, none⟩) pg.ns.length cap) (.slice ta tn tc) main nd lv) := fun w1 h =>
   ⟨h.cell 1 rfl 0 rfl, h.cell 1 rfl 1 rfl, h.cell 1 rfl 2 rfl, (hA.below hb).below h.isBelow⟩
 have h1 : Sat w _ [Prt.oldA w, blk w.heap.size (pgObj (.slice (some ⟨g, 0, none⟩) pg.ns.length cap) (.slice ta tn tc) main)] := (Prt.Sat.old w).allocAt (.cells #[.slice (some ⟨g, 0, none⟩) pg.ns.length cap, .slice ta tn tc, .int .i64 main] 33) w.heap.size
 have HBA := qh (fun (w1 : World) (h : Below w.heap.size w w1) hlen => hB n nd lv hd hn hl ind w1 (hb.trans (h.mono hb.size)) hsz hlen)
 have hgw : g < w.heap.size := Nat.lt_of_lt_of_le hg hb.size
 obtain ⟨_, _, _, ⟨q0, q1, q2, q3, q4, q5, q6, q7, q8⟩⟩ := HS.out _ h1
 obtain ⟨q0, q1, q2, q3, q4, q5, q6, q7, q8⟩ := hA.below hb
 have H1 := qh h1
 obtain ⟨la, lc, rfl⟩ := owns_slice hl
 unfold maxLen at hcm
 have hgw1 : g < w.heap.size + 1 := by omega
 unfold Ty.wP Ty.par at HR hlen
 generalize hNN : pg.ns.length = N at *
 obtain ⟨wt, hwt⟩ : ∃ wt, Ty.wE pg.ts ind e = wt := ⟨_, rfl⟩
 rw [hwt] at HR hlen HBA
 have hlw : wt.length ≤ 900000000 := by
   split at hlen
   · simp only [lzA, lzC, lzN] at hlen; omega
   · exact hlen
 have HLW := qh hlw
 clear hR hB hP hd hn hb hA hl hlv h1 hwt hsz hNN hlw
 dsimp only [pgVal]
 go_enter Tryz.func87, Tryz.ntmps87
 go_wp2_with fail
 go_region_held3 (fun w' => w'.cell? ⟨w.heap.size, 0, none⟩ = some (.slice (some ⟨g, 0, none⟩) N cap) ∧ w'.cell? ⟨w.heap.size, 1, none⟩ = some (.slice ta tn tc) ∧ w'.cell? ⟨w.heap.size, 2, none⟩ = some (.int .i64 main) ∧ w'.cell? ⟨g, n * 9, none⟩ = some (.int .i64 nd.kind) ∧ w'.cell? ⟨g, n * 9 + 1, none⟩ = some (.int .i64 nd.a) ∧ w'.cell? ⟨g, n * 9 + 2, none⟩ = some (.int .i64 nd.b) ∧ w'.cell? ⟨g, n * 9 + 3, none⟩ = some (.int .i64 nd.c) ∧ w'.cell? ⟨g, n * 9 + 4, none⟩ = some (.slice la nd.list.length lc) ∧ w'.cell? ⟨g, n * 9 + 5, none⟩ = some (.string nd.text) ∧ w'.cell? ⟨g, n * 9 + 6, none⟩ = some (.int .i64 nd.n) ∧ w'.cell? ⟨g, n * 9 + 7, none⟩ = some (.int .i64 nd.ty) ∧ w'.cell? ⟨g, n * 9 + 8, none⟩ = some (.int .i64 nd.pos)) (go_keep)
   ((go_at_call 120; refine HBA.out _ H1.out.drew.isBelow HLW.out _ (fun w2 hb2 => ?_); have h2 := H1.out.drew.below hb2; obtain ⟨s0, s1, s2, ⟨s3, s4, s5, s6, s7, s8, s9, s10, s11⟩⟩ := HS.out _ h2; have H2 := qh h2; clear hb2 h2))
 all_goals
   clear q0 q1 q2 q3 q4 q5 q6 q7 q8
   go_wp2_with fail
   refine level_is _ nd (.slice la nd.list.length lc) ⟨_, _, _, rfl⟩ (Ty.lvl e) HLV.out (fun w3 hb3 => ?_)
   have H3 := qh (H2.out.below hb3)
   clear hb3 s0 s1 s2 s3 s4 s5 s6 s7 s8 s9 s10 s11
   by_cases hc : Ty.lvl e < least
   · rw [decide_eq_true hc, if_pos rfl] at HR
     have k1 : decide ((Ty.lvl e : Int) < (least : Nat)) = true := decide_eq_true (by omega)
     have k2 : decide (Ty.lvl e < least) = true := decide_eq_true hc
     have hw := HLW.out
     obtain ⟨t1, e1, c1⟩ := cat_ex (a := ⟨#[40]⟩) (b := bs wt) (x := [40]) (z := [40] ++ wt) rfl rfl rfl (by simp; omega)
     obtain ⟨t2, e2, c2⟩ := cat_ex (a := t1) (b := ⟨#[41]⟩) (y := [41]) (z := [40] ++ wt ++ [41]) e1 rfl rfl (by simp; omega)
     rw [← e2] at HR
     generalize Ty.lvl e = lvle at *
     generalize bs wt = sw at *
     clear hc hw e1 e2 hlen
     go_wp2_with fail
     exact HR.out _ H3.out.isBelow
   · rw [decide_eq_false hc, if_neg (by decide)] at HR
     have k1 : decide ((Ty.lvl e : Int) < (least : Nat)) = false := decide_eq_false (by omega)
     have k2 : decide (Ty.lvl e < least) = false := decide_eq_false hc
     generalize Ty.lvl e = lvle at *
     generalize bs wt = sw at *
     clear hc hlen
     go_wp2_with fail
     exact HR.out _ H3.out.isBelow
theorem rlist_any (hP : PB wB nv tv pg) {l : List Ty.Ex} (hE : ∀ e ∈ l, RxC wB nv tv pg main e) {nl : List Nat} (hd : Ty.DenEs pg.ns l nl) (lv : Value) (hl : wB.ownsRow 0 3 1 lv nl.length (nl.map inCell)) {ind : Nat} {w : World} (hb : Below wB.heap.size wB w)
   (hsz : ind + Ty.szEs l ≤ 1300) (hlen : (Ty.joinL [44, 32] (Ty.wEs pg.ts ind l)).length ≤ 900000000) {R : Ending → World → Prop}
   (hR : ∀ w', Below w.heap.size w w' → R (.returned (.string (bs (Ty.joinL [44, 32] (Ty.wEs pg.ts ind l))))) w') :
   Calls Tryz.prog 155 #[pgVal nv tv main, lv, .int .i64 (ind : Nat)] w R := by
 have HR := qh hR
 obtain ⟨na, nn, nc, rfl⟩ := hP.ndSlice
 obtain ⟨ta, tn, tc, rfl⟩ := hP.tySlice
 have hll := hd.len
 have hsl := Ty.szEs_len l
 have hwl : (Ty.wEs pg.ts ind l).length = nl.length := by rw [Ty.wEs_map]; simp; omega
 have HE : Hid (∀ k (hk : k < nl.length) (hk2 : k < (Ty.wEs pg.ts ind l).length), ∀ w1, Below wB.heap.size wB w1 → (Ty.wEs pg.ts ind l)[k].length ≤ 900000000 → ∀ R : Ending → World → Prop, (∀ w', Below w1.heap.size w1 w' → R (.returned (.string (bs (Ty.wEs pg.ts ind l)[k]))) w') →
     Calls Tryz.prog 87 #[pgVal (.slice na nn nc) (.slice ta tn tc) main, .int .i64 (nl[k] : Nat), .int .i64 0, .int .i64 (ind : Nat)] w1 R) := fun k hk hk2 w1 h1 h2 R hR => by
   have hkl : k < l.length := by omega
   have hm : l[k] ∈ l := List.getElem_mem _
   have e : (Ty.wEs pg.ts ind l)[k] = Ty.wP pg.ts ind 0 l[k] := by rw [Ty.wP_zero]; simp [Ty.wEs_map]
   rw [e] at h2 hR
   exact hE _ hm nl[k] (hd.get k hkl hk) 0 ind w1 h1 (by omega) (by have := Ty.szEs_in hm; omega) h2 R hR
 have hnl : nl.length ≤ 1300 := by omega
 have HWL := qh hwl
 have HLN := qh hlen
 have HL := qh (owns_below hl hb)
 have HB := qh hb
 obtain ⟨la, lc, rfl⟩ := owns_slice hl
 generalize Ty.wEs pg.ts ind l = xs at *
 clear hR hE hd hl hlen hb hsz hll hsl hwl hP
 dsimp only [pgVal] at *
 go_enter Tryz.func155, Tryz.ntmps155
 go_wp2_with fail
 go_loopw [7, 8] (fun s i wr => ∃ k : Nat, s = .string (bs (Ty.joinL [44, 32] (xs.take k))) ∧ i = .int .i64 k ∧ k ≤ nl.length ∧ Hid (Sat w wr [Prt.oldA w, blk w.heap.size (pgObj (.slice na nn nc) (.slice ta tn tc) main)])) (fun _ i _ => nl.length - (intOf i).toNat)
 case atStart => exact ⟨0, by rw [List.take_zero]; rfl, rfl, by omega, (Prt.Sat.old w).allocAt _ w.heap.size⟩
 case round =>
   obtain ⟨k, rfl, rfl, hk, hS⟩ := hrel
   have p0 := hS.out.cell 1 rfl 0 rfl
   have p1 := hS.out.cell 1 rfl 1 rfl
   have p2 := hS.out.cell 1 rfl 2 rfl
   by_cases hlt : k < nl.length
   · obtain ⟨gl, capl, e, hgl, d0⟩ := ints_at (owns_below HL.out hS.out.isBelow) k hlt
     cases e
     have hkx : k < xs.length := by rw [HWL.out]; exact hlt
     have hst := joinL_step [44, 32] xs k hkx
     have hmo := joinL_mono [44, 32] xs (xs.length - (k + 1)) (k + 1) (by omega)
     have hmo0 := joinL_mono [44, 32] xs (xs.length - k) k (by omega)
     have HI := qh (HE.out k hlt hkx wr.drew (HB.out.trans (hS.out.drew.isBelow.mono HB.out.size)))
     rw [hst, List.length_append] at hmo
     have HMO := qh hmo
     have HM0 := qh hmo0
     have HK := qh (fun w2 (h : Sat w w2 [Prt.oldA w, blk w.heap.size (pgObj (.slice na nn nc) (.slice ta tn tc) main)]) => (⟨h.cell 1 rfl 0 rfl, h.cell 1 rfl 1 rfl, h.cell 1 rfl 2 rfl⟩ : w2.cell? ⟨w.heap.size, 0, none⟩ = some (.slice na nn nc) ∧ w2.cell? ⟨w.heap.size, 1, none⟩ = some (.slice ta tn tc) ∧ w2.cell? ⟨w.heap.size, 2, none⟩ = some (.int .i64 main)))
     have HD := qh (fun w2 (h : Sat w w2 [Prt.oldA w, blk w.heap.size (pgObj (.slice na nn nc) (.slice ta tn tc) main)]) => ints_at (owns_below HL.out h.isBelow) k hlt)
     by_cases hk0 : k = 0
     · subst hk0
       rw [if_pos rfl] at hst HMO
       have hln := HLN.out
       have hmm := HMO.out
       obtain ⟨s5, e5, c5⟩ := cat_ex (a := bs (Ty.joinL [44, 32] (xs.take 0))) (b := bs xs[0]) (z := Ty.joinL [44, 32] (xs.take 0) ++ xs[0]) rfl rfl rfl (by rw [List.length_append]; omega)
       rw [← hst] at e5
       have E5 := qh e5.symm
       have HX0 : Hid (xs[0].length ≤ 900000000) := by show _ ≤ _; omega
       generalize xs[0] = x at *
       generalize nl[0] = n at *
       generalize bs (Ty.joinL [44, 32] (xs.take 0)) = s0 at *
       clear hst hmo hmo0 hkx e5 hln hmm
       go_wp2_with fail
       go_region_held3 (fun w' => w'.cell? ⟨w.heap.size, 0, none⟩ = some (.slice na nn nc) ∧ w'.cell? ⟨w.heap.size, 1, none⟩ = some (.slice ta tn tc) ∧ w'.cell? ⟨w.heap.size, 2, none⟩ = some (.int .i64 main) ∧ w'.cell? ⟨gl, 0, none⟩ = some (.int .i64 (n : Nat))) (go_keep)
         ((go_at_call 87; refine HI.out HX0.out _ (fun w2 hb2 => ?_); have h2 := hS.out.drew.below hb2; obtain ⟨r0, r1, r2⟩ := HK.out _ h2; have r3 := keepCell hb2 (show (World.cell? (World.drew _) _) = _ from d0); have H2 := qh h2; clear hb2 h2))
       all_goals
         go_wp2_with fail
         go_roundw
         case rel => exact ⟨0 + 1, congrArg Value.string E5.out.symm, by go_num, by omega, H2.out⟩
         case measure => simp [intOf]; omega
     · rw [if_neg hk0] at hst HMO
       have k0 : decide ((0 : Int) < (k : Nat)) = true := decide_eq_true (by omega)
       have k1 : decide (0 < k) = true := decide_eq_true (by omega)
       have hln := HLN.out
       have hmm := HMO.out
       have hm0 := HM0.out
       rw [List.length_append] at hmm
       simp only [List.length_cons, List.length_nil] at hmm
       obtain ⟨s4, e4, c4⟩ := cat_ex (a := bs (Ty.joinL [44, 32] (xs.take k))) (b := ⟨#[44, 32]⟩) (y := [44, 32]) (z := Ty.joinL [44, 32] (xs.take k) ++ [44, 32]) rfl rfl rfl (by rw [List.length_append]; simp; omega)
       obtain ⟨s5, e5, c5⟩ := cat_ex (a := s4) (b := bs xs[k]) (z := Ty.joinL [44, 32] (xs.take k) ++ [44, 32] ++ xs[k]) e4 rfl rfl (by simp only [lzA, lzC, lzN]; omega)
       rw [← hst] at e5
       have E5 := qh e5.symm
       have HX0 : Hid (xs[k].length ≤ 900000000) := by show _ ≤ _; omega
       generalize xs[k] = x at *
       generalize nl[k] = n at *
       generalize bs (Ty.joinL [44, 32] (xs.take k)) = s0 at *
       clear hst hmo hmo0 hkx e4 e5 hln hmm hm0 hk0
       go_wp2_with fail
       go_region_held3 (fun w' => w'.cell? ⟨w.heap.size, 0, none⟩ = some (.slice na nn nc) ∧ w'.cell? ⟨w.heap.size, 1, none⟩ = some (.slice ta tn tc) ∧ w'.cell? ⟨w.heap.size, 2, none⟩ = some (.int .i64 main) ∧ w'.cell? ⟨gl, k, none⟩ = some (.int .i64 (n : Nat))) (go_keep)
         ((go_at_call 87; refine HI.out HX0.out _ (fun w2 hb2 => ?_); have h2 := hS.out.drew.below hb2; obtain ⟨r0, r1, r2⟩ := HK.out _ h2; have r3 := keepCell hb2 (show (World.cell? (World.drew _) _) = _ from d0); have H2 := qh h2; clear hb2 h2))
       all_goals
         go_wp2_with fail
         go_roundw
         case rel => exact ⟨k + 1, congrArg Value.string E5.out.symm, by go_num, by omega, H2.out⟩
         case measure => simp [intOf]; omega
   · have hke : k = nl.length := by omega
     subst hke
     rw [← HWL.out, List.take_length]
     go_wp2_with fail
     exact HR.out _ hS.out.isBelow
end
end
end Go.Proofs.YtdlbhiaceheffaaGreatDoor
