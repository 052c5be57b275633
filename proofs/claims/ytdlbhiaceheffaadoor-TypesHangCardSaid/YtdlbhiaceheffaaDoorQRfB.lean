/- Walk of the reference's FitsOf over two functions' types. The contract of the reference's FitsOf. -/
import Derived.Test.YtdlbhiaceheffaaDoorQRf
namespace Go.Proofs.YtdlbhiaceheffaaDoor
open Go Go.RowKit
open Prt (Sat As blk pur exs star stars)
open Ty (Tr anyTo anyTo_iff anyTo_false)

set_option maxRecDepth 100000 in
set_option maxHeartbeats 4000000 in
theorem rfi_9 (w : World) (g cap a b L : Nat) (hg : g < w.heap.size) (of1 of2 : Nat) (fds1 fds2 : List (ByteArray × Nat)) (lst1 lst2 : List Nat) (fv1 fv2 lv1 lv2 : Value) (_ : L ≤ 1000000) (ha : a < L) (hb : b < L) (_ : L ≤ cap) (hA : RowAt w g a ⟨⟨9, fds1, lst1, of1⟩, fv1, lv1⟩) (hB : RowAt w g b ⟨⟨9, fds2, lst2, of2⟩, fv2, lv2⟩)
    (hfx : w.ownsRow 0 77 2 fv1 fds1.length (fds1.flatMap fdCells)) (hfy : w.ownsRow 0 77 2 fv2 fds2.length (fds2.flatMap fdCells))
    (hlx : w.ownsRow 0 3 1 lv1 lst1.length (lst1.map inCell)) (hly : w.ownsRow 0 3 1 lv2 lst2.length (lst2.map inCell)) (_ : fds1.length ≤ 1000000) (_ : fds2.length ≤ 1000000) (hm1 : lst1.length ≤ 1000000) (hm2 : lst2.length ≤ 1000000)
    (hle : lst1.length ≤ lst2.length) (f1 f2 : Nat → Bool) (hl : ∀ j (hj : j < lst1.length) (hj2 : j < lst2.length), RfiC (.slice (some ⟨g, 0, none⟩) L cap) w lst1[j] lst2[j] (f1 j) ∧ RfiC (.slice (some ⟨g, 0, none⟩) L cap) w lst2[j] lst1[j] (f2 j)) (ro : Bool) (ho : RfiC (.slice (some ⟨g, 0, none⟩) L cap) w of1 of2 ro)
    {R : Ending → World → Prop} (hR : ∀ w', Below w.heap.size w w' → R (.returned (.bool (!anyTo (fun j => !(f1 j || f2 j)) lst1.length && ro))) w') :
    Calls Tryd.prog 20 #[.slice (some ⟨g, 0, none⟩) L cap, .int .i64 (a : Nat), .int .i64 (b : Nat)] w R := by
  have HR := Lib.hid hR
  obtain ⟨q0, q1, q2, q3⟩ := hA
  obtain ⟨e0, e1, e2, e3⟩ := hB
  have HFX := Lib.hid hfx
  have HFY := Lib.hid hfy
  have HLX := Lib.hid hlx
  have HLY := Lib.hid hly
  obtain ⟨fa1, fc1, rfl⟩ := owns_slice hfx
  obtain ⟨fa2, fc2, rfl⟩ := owns_slice hfy
  obtain ⟨la1, lc1, rfl⟩ := owns_slice hlx
  obtain ⟨la2, lc2, rfl⟩ := owns_slice hly
  dsimp only at q0 q1 q2 q3 e0 e1 e2 e3
  have HL := Lib.hid hl
  have HO := Lib.hid ho
  have k1 : decide ((lst2.length : Int) < lst1.length) = false := by simp; omega
  have k2 : decide (lst2.length < lst1.length) = false := by simp; omega
  clear hl ho
  clear hR hfx hfy hlx hly
  go_enter Tryd.func20, Tryd.ntmps20
  go_upto_region 1 with fail
  go_cut [7, 8] (fun s7 s8 wx => ∃ b7 b8 : Nat, s7 = .pointer (some ⟨b7, 0, none⟩) ∧ s8 = .pointer (some ⟨b8, 0, none⟩) ∧ Hid (Sat w wx [Prt.oldA w, blk b7 (.cells #[.int .i64 9, .slice fa1 fds1.length fc1, .slice la1 lst1.length lc1, .int .i64 of1] 70 (0, 0)), blk b8 (.cells #[.int .i64 9, .slice fa2 fds2.length fc2, .slice la2 lst2.length lc2, .int .i64 of2] 70 (0, 0))]))
  case first =>
    go_region
    all_goals
      go_wp2_with fail
      go_meet
      first
        | exact ⟨_, _, rfl, rfl, (((Prt.Sat.old w).allocAt _ w.heap.size).allocAt _ (w.heap.size + 1)).drew⟩
        | exact ⟨_, _, rfl, rfl, ((((Prt.Sat.old w).allocAt _ w.heap.size).allocAt _ (w.heap.size + 1)).drew).pick [0, 2, 1]⟩
  case rest =>
    obtain ⟨b7, b8, rfl, rfl, hS⟩ := hcut
    clear q0 q1 q2 q3 e0 e1 e2 e3
    have x0 := hS.out.cell 1 rfl 0 rfl
    have y0 := hS.out.cell 2 rfl 0 rfl
    have x1 := hS.out.cell 1 rfl 1 rfl
    have y1 := hS.out.cell 2 rfl 1 rfl
    have x2 := hS.out.cell 1 rfl 2 rfl
    have y2 := hS.out.cell 2 rfl 2 rfl
    have x3 := hS.out.cell 1 rfl 3 rfl
    have y3 := hS.out.cell 2 rfl 3 rfl
    go_wp2_with fail
    clear x0 x1 x2 x3 y0 y1 y2 y3
    go_loopw [13] (fun i wr => ∃ j : Nat, j ≤ lst1.length ∧ i = .int .i64 j ∧ Hid (Sat w wr [Prt.oldA w, blk b7 (.cells #[.int .i64 9, .slice fa1 fds1.length fc1, .slice la1 lst1.length lc1, .int .i64 of1] 70 (0, 0)), blk b8 (.cells #[.int .i64 9, .slice fa2 fds2.length fc2, .slice la2 lst2.length lc2, .int .i64 of2] 70 (0, 0))]) ∧ Hid (∀ i, i < j → (!(f1 i || f2 i)) = false)) (fun i _ => lst1.length - (intOf i).toNat)
    case atStart => exact ⟨0, by omega, rfl, hS, fun j hj => by omega⟩
    case round =>
      obtain ⟨j, hj, rfl, hU, hf⟩ := hrel
      have x2 := hU.out.cell 1 rfl 2 rfl
      by_cases hlt : j < lst1.length
      · have hlt2 : j < lst2.length := by omega
        obtain ⟨g1, cap1, e, hg1, d1⟩ := ints_at (owns_below HLX.out hU.out.isBelow) j hlt
        cases e
        obtain ⟨g2, cap2, e, hg2, d2⟩ := ints_at (owns_below HLY.out hU.out.isBelow) j hlt2
        cases e
        have y2 := hU.out.cell 2 rfl 2 rfl
        obtain ⟨ha1, ha2⟩ := HL.out j hlt hlt2
        have HA1 := Lib.hid (ha1 wr.drew hU.out.isBelow.drew)
        have HA2 : Hid (∀ w1, Below w.heap.size w w1 → ∀ R : Ending → World → Prop, (∀ w2, Below w1.heap.size w1 w2 → R (.returned (.bool (f2 j))) w2) → Calls Tryd.prog 20 #[.slice (some ⟨g, 0, none⟩) L cap, .int .i64 (lst2[j] : Nat), .int .i64 (lst1[j] : Nat)] w1 R) := ha2
        have HT := Lib.hid (fun h : (!(f1 j || f2 j)) = true => (anyTo_iff (f := fun j => !(f1 j || f2 j))).2 ⟨j, hlt, h⟩)
        have HN : Hid ((!(f1 j || f2 j)) = false → ∀ i, i < j + 1 → (!(f1 i || f2 i)) = false) := fun h i hi => by
          by_cases hij : i = j
          · subst hij; exact h
          · exact hf.out i (by omega)
        generalize lst1[j] = i1 at *
        generalize lst2[j] = i2 at *
        generalize f1 j = r1 at *
        generalize f2 j = r2 at *
        clear ha1 ha2
        cases r1
        · go_wp2_with fail
          go_region_held3 (fun w' => w'.cell? ⟨b7, 2, none⟩ = some (.slice (some ⟨g1, 0, none⟩) lst1.length lc1) ∧ w'.cell? ⟨b8, 2, none⟩ = some (.slice (some ⟨g2, 0, none⟩) lst2.length lc2) ∧ w'.cell? ⟨g1, j, none⟩ = some (.int .i64 (i1 : Nat)) ∧ w'.cell? ⟨g2, j, none⟩ = some (.int .i64 (i2 : Nat))) (go_keep)
            (first | (go_at_call 20; (with_reducible refine HA1.out _ (fun w2 hb2 => ?_)); have h2 := hU.out.drew.below hb2; have H2 := Lib.hid h2; have z0 := h2.cell 1 rfl 2 rfl; have z1 := h2.cell 2 rfl 2 rfl; have z2 := keepCell hb2 (show (World.cell? (World.drew _) _) = _ from d1); have z3 := keepCell hb2 (show (World.cell? (World.drew _) _) = _ from d2); clear h2 hb2) | (go_at_call 20; (with_reducible refine HA2.out _ H2.out.isBelow _ (fun w3 hb3 => ?_)); have h3 := H2.out.below hb3; have H3 := Lib.hid h3; have t0 := h3.cell 1 rfl 2 rfl; have t1 := h3.cell 2 rfl 2 rfl; have t2 := keepCell hb3 z2; have t3 := keepCell hb3 z3; clear h3 hb3))
          all_goals
            cases r2
            · have HT2 := Lib.hid (HT.out rfl)
              rw [HT2.out] at HR
              go_wp2_with fail
              exact HR.out _ H3.out.isBelow
            · have HN2 := Lib.hid (HN.out rfl)
              go_wp2_with fail
              go_roundw
              case rel => exact ⟨j + 1, by omega, by go_num, H3, HN2⟩
              case measure => simp [intOf]; omega
        · go_wp2_with fail
          refine wp_region_held_drew (S := (fun w' => w'.cell? ⟨b7, 2, none⟩ = some (.slice (some ⟨g1, 0, none⟩) lst1.length lc1) ∧ w'.cell? ⟨b8, 2, none⟩ = some (.slice (some ⟨g2, 0, none⟩) lst2.length lc2) ∧ w'.cell? ⟨g1, j, none⟩ = some (.int .i64 (i1 : Nat)) ∧ w'.cell? ⟨g2, j, none⟩ = some (.int .i64 (i2 : Nat)))) (by kernel_rfl) (by go_keep) (fun hHeld => ?_)
          refine takeD 0 134 (v := ?_) rfl (by kernel_rfl) (by kernel_rfl) (by kernel_rfl) (by kernel_rfl) (fun _ _ _ h => h) (Or.inl ⟨by kernel_rfl, ?_⟩) (by assumption) ?_
          rotate_left
          · (intro w hSw; (try dsimp only at hSw); go_simp; try (with_reducible rfl))
          try simp only [Act.put, List.setIfInBounds_toArray, List.set_cons_zero, List.set_cons_succ]
          refine takeD 1 135 (v := ?_) rfl (by kernel_rfl) (by kernel_rfl) (by kernel_rfl) (by kernel_rfl) (fun _ _ _ h => h) (Or.inl ⟨by kernel_rfl, ?_⟩) (by assumption) ?_
          rotate_left
          · (intro w hSw; (try dsimp only at hSw); go_simp; try (with_reducible rfl))
          try simp only [Act.put, List.setIfInBounds_toArray, List.set_cons_zero, List.set_cons_succ]
          refine takeD 2 136 (v := ?_) rfl (by kernel_rfl) (by kernel_rfl) (by kernel_rfl) (by kernel_rfl) (fun _ _ _ h => h) (Or.inl ⟨by kernel_rfl, ?_⟩) (by assumption) ?_
          rotate_left
          · (intro w hSw; (try dsimp only at hSw); go_simp; try (with_reducible rfl))
          try simp only [Act.put, List.setIfInBounds_toArray, List.set_cons_zero, List.set_cons_succ]
          refine takeD 3 137 (v := ?_) rfl (by kernel_rfl) (by kernel_rfl) (by kernel_rfl) (by kernel_rfl) (fun _ _ _ h => h) (Or.inl ⟨by kernel_rfl, ?_⟩) (by assumption) ?_
          rotate_left
          · (intro w hSw; (try dsimp only at hSw); go_simp; try (with_reducible rfl))
          try simp only [Act.put, List.setIfInBounds_toArray, List.set_cons_zero, List.set_cons_succ]
          refine takeD 4 138 (v := ?_) rfl (by kernel_rfl) (by kernel_rfl) (by kernel_rfl) (by kernel_rfl) (fun _ _ _ h => h) (Or.inl ⟨by kernel_rfl, ?_⟩) (by assumption) ?_
          rotate_left
          · (intro w hSw; (try dsimp only at hSw); go_simp; try (with_reducible rfl))
          try simp only [Act.put, List.setIfInBounds_toArray, List.set_cons_zero, List.set_cons_succ]
          refine takeD 5 139 (v := ?_) rfl (by kernel_rfl) (by kernel_rfl) (by kernel_rfl) (by kernel_rfl) (fun _ _ _ h => h) (Or.inl ⟨by kernel_rfl, ?_⟩) (by assumption) ?_
          rotate_left
          · (intro w hSw; (try dsimp only at hSw); go_simp; try (with_reducible rfl))
          try simp only [Act.put, List.setIfInBounds_toArray, List.set_cons_zero, List.set_cons_succ]
          refine takeD 6 140 (v := ?_) rfl (by kernel_rfl) (by kernel_rfl) (by kernel_rfl) (by kernel_rfl) (fun _ _ _ h => h) (Or.inl ⟨by kernel_rfl, ?_⟩) (by assumption) ?_
          rotate_left
          · (intro w hSw; (try dsimp only at hSw); go_simp; try (with_reducible rfl))
          try simp only [Act.put, List.setIfInBounds_toArray, List.set_cons_zero, List.set_cons_succ]
          refine takeD 7 141 (v := ?_) rfl (by kernel_rfl) (by kernel_rfl) (by kernel_rfl) (by kernel_rfl) (fun _ _ _ h => h) (Or.inl ⟨by kernel_rfl, ?_⟩) (by assumption) ?_
          rotate_left
          · (intro w hSw; (try dsimp only at hSw); go_simp; try (with_reducible rfl))
          try simp only [Act.put, List.setIfInBounds_toArray, List.set_cons_zero, List.set_cons_succ]
          refine takeD 8 142 (v := ?_) rfl (by kernel_rfl) (by kernel_rfl) (by kernel_rfl) (by kernel_rfl) (fun _ _ _ h => h) (Or.inl ⟨by kernel_rfl, ?_⟩) (by assumption) ?_
          rotate_left
          · (intro w hSw; (try dsimp only at hSw); go_simp; try (with_reducible rfl))
          try simp only [Act.put, List.setIfInBounds_toArray, List.set_cons_zero, List.set_cons_succ]
          refine takeD 9 143 (v := ?_) rfl (by kernel_rfl) (by kernel_rfl) (by kernel_rfl) (by kernel_rfl) (fun _ _ _ h => h) (Or.inl ⟨by kernel_rfl, ?_⟩) (by assumption) ?_
          rotate_left
          · (intro w hSw; (try dsimp only at hSw); go_simp; try (with_reducible rfl))
          try simp only [Act.put, List.setIfInBounds_toArray, List.set_cons_zero, List.set_cons_succ]
          refine takeD 10 144 (v := ?_) rfl (by kernel_rfl) (by kernel_rfl) (by kernel_rfl) (by kernel_rfl) (fun _ _ _ h => h) (Or.inl ⟨by kernel_rfl, ?_⟩) (by assumption) ?_
          rotate_left
          · (intro w hSw; (try dsimp only at hSw); go_simp; try (with_reducible rfl))
          try simp only [Act.put, List.setIfInBounds_toArray, List.set_cons_zero, List.set_cons_succ]
          refine wpAnyH_ready (rs := [11]) (by kernel_rfl) (by simp) ?_
          refine AllReadyH.cons rfl (fun K hK => ?_) AllReadyH.nil
          go_simp
          go_at_call 20
          refine HA1.out _ (fun w2 hb2 => ?_)
          have h2 := hU.out.drew.below hb2
          have H2 := Lib.hid h2
          have z0 := h2.cell 1 rfl 2 rfl
          have z1 := h2.cell 2 rfl 2 rfl
          have z2 := keepCell hb2 (show (World.cell? (World.drew _) _) = _ from d1)
          have z3 := keepCell hb2 (show (World.cell? (World.drew _) _) = _ from d2)
          clear h2 hb2
          go_wp2_with fail
          refine hK.out _ _ (by go_keep) (fun hHeld2 => ?_)
          clear hK K hHeld
          try simp only [Act.put, List.setIfInBounds_toArray, List.set_cons_zero, List.set_cons_succ]
          refine takeD 12 146 (v := ?_) rfl (by kernel_rfl) (by kernel_rfl) (by kernel_rfl) (by kernel_rfl) (fun _ _ _ h => h) (Or.inl ⟨by kernel_rfl, ?_⟩) (by assumption) ?_
          rotate_left
          · (intro w hSw; (try dsimp only at hSw); go_simp; try (with_reducible rfl))
          try simp only [Act.put, List.setIfInBounds_toArray, List.set_cons_zero, List.set_cons_succ]
          refine takeD 13 147 (v := ?_) rfl (by kernel_rfl) (by kernel_rfl) (by kernel_rfl) (by kernel_rfl) (fun _ _ _ h => h) (Or.inl ⟨by kernel_rfl, ?_⟩) (by assumption) ?_
          rotate_left
          · (intro w hSw; (try dsimp only at hSw); go_simp; try (with_reducible rfl))
          try simp only [Act.put, List.setIfInBounds_toArray, List.set_cons_zero, List.set_cons_succ]
          refine takeD 14 148 (v := undef) rfl (by kernel_rfl) (by kernel_rfl) (by kernel_rfl) (by kernel_rfl) (fun _ _ _ h => h) (Or.inr ⟨by kernel_rfl, rfl⟩) (by assumption) ?_
          try simp only [Act.put, List.setIfInBounds_toArray, List.set_cons_zero, List.set_cons_succ]
          refine takeD 15 149 (v := undef) rfl (by kernel_rfl) (by kernel_rfl) (by kernel_rfl) (by kernel_rfl) (fun _ _ _ h => h) (Or.inr ⟨by kernel_rfl, rfl⟩) (by assumption) ?_
          try simp only [Act.put, List.setIfInBounds_toArray, List.set_cons_zero, List.set_cons_succ]
          refine takeD 16 150 (v := undef) rfl (by kernel_rfl) (by kernel_rfl) (by kernel_rfl) (by kernel_rfl) (fun _ _ _ h => h) (Or.inr ⟨by kernel_rfl, rfl⟩) (by assumption) ?_
          try simp only [Act.put, List.setIfInBounds_toArray, List.set_cons_zero, List.set_cons_succ]
          refine takeD 17 151 (v := undef) rfl (by kernel_rfl) (by kernel_rfl) (by kernel_rfl) (by kernel_rfl) (fun _ _ _ h => h) (Or.inr ⟨by kernel_rfl, rfl⟩) (by assumption) ?_
          try simp only [Act.put, List.setIfInBounds_toArray, List.set_cons_zero, List.set_cons_succ]
          refine takeD 18 152 (v := undef) rfl (by kernel_rfl) (by kernel_rfl) (by kernel_rfl) (by kernel_rfl) (fun _ _ _ h => h) (Or.inr ⟨by kernel_rfl, rfl⟩) (by assumption) ?_
          try simp only [Act.put, List.setIfInBounds_toArray, List.set_cons_zero, List.set_cons_succ]
          refine takeD 19 153 (v := undef) rfl (by kernel_rfl) (by kernel_rfl) (by kernel_rfl) (by kernel_rfl) (fun _ _ _ h => h) (Or.inr ⟨by kernel_rfl, rfl⟩) (by assumption) ?_
          try simp only [Act.put, List.setIfInBounds_toArray, List.set_cons_zero, List.set_cons_succ]
          refine takeD 20 154 (v := undef) rfl (by kernel_rfl) (by kernel_rfl) (by kernel_rfl) (by kernel_rfl) (fun _ _ _ h => h) (Or.inr ⟨by kernel_rfl, rfl⟩) (by assumption) ?_
          try simp only [Act.put, List.setIfInBounds_toArray, List.set_cons_zero, List.set_cons_succ]
          refine takeD 21 155 (v := undef) rfl (by kernel_rfl) (by kernel_rfl) (by kernel_rfl) (by kernel_rfl) (fun _ _ _ h => h) (Or.inr ⟨by kernel_rfl, rfl⟩) (by assumption) ?_
          try simp only [Act.put, List.setIfInBounds_toArray, List.set_cons_zero, List.set_cons_succ]
          refine takeD 22 156 (v := undef) rfl (by kernel_rfl) (by kernel_rfl) (by kernel_rfl) (by kernel_rfl) (fun _ _ _ h => h) (Or.inr ⟨by kernel_rfl, rfl⟩) (by assumption) ?_
          try simp only [Act.put, List.setIfInBounds_toArray, List.set_cons_zero, List.set_cons_succ]
          refine takeD 23 157 (v := undef) rfl (by kernel_rfl) (by kernel_rfl) (by kernel_rfl) (by kernel_rfl) (fun _ _ _ h => h) (Or.inr ⟨by kernel_rfl, rfl⟩) (by assumption) ?_
          try simp only [Act.put, List.setIfInBounds_toArray, List.set_cons_zero, List.set_cons_succ]
          refine takeD 24 158 (v := undef) rfl (by kernel_rfl) (by kernel_rfl) (by kernel_rfl) (by kernel_rfl) (fun _ _ _ h => h) (Or.inr ⟨by kernel_rfl, rfl⟩) (by assumption) ?_
          try simp only [Act.put, List.setIfInBounds_toArray, List.set_cons_zero, List.set_cons_succ]
          refine takeD 25 159 (v := undef) rfl (by kernel_rfl) (by kernel_rfl) (by kernel_rfl) (by kernel_rfl) (fun _ _ _ h => h) (Or.inr ⟨by kernel_rfl, rfl⟩) (by assumption) ?_
          try simp only [Act.put, List.setIfInBounds_toArray, List.set_cons_zero, List.set_cons_succ]
          refine takeD 26 160 (v := undef) rfl (by kernel_rfl) (by kernel_rfl) (by kernel_rfl) (by kernel_rfl) (fun _ _ _ h => h) (Or.inr ⟨by kernel_rfl, rfl⟩) (by assumption) ?_
          try simp only [Act.put, List.setIfInBounds_toArray, List.set_cons_zero, List.set_cons_succ]
          refine takeD 27 161 (v := ?_) rfl (by kernel_rfl) (by kernel_rfl) (by kernel_rfl) (by kernel_rfl) (fun _ _ _ h => h) (Or.inl ⟨by kernel_rfl, ?_⟩) (by assumption) ?_
          rotate_left
          · (intro w hSw; (try dsimp only at hSw); go_simp; try (with_reducible rfl))
          try simp only [Act.put, List.setIfInBounds_toArray, List.set_cons_zero, List.set_cons_succ]
          refine wpAnyH_done (by kernel_rfl) ?_ _
          have HN2 := Lib.hid (HN.out rfl)
          go_wp2_with fail
          go_roundw
          case rel => exact ⟨j + 1, by omega, by go_num, H2, HN2⟩
          case measure => simp [intOf]; omega
      · have hje : j = lst1.length := by omega
        have HN : Hid (anyTo (fun j => !(f1 j || f2 j)) lst1.length = false) := anyTo_false.2 (fun i hi => hf.out i (by omega))
        rw [HN.out, Bool.not_false, Bool.true_and] at HR
        have x3 := hU.out.cell 1 rfl 3 rfl
        have y3 := hU.out.cell 2 rfl 3 rfl
        have HAL := Lib.hid (HO.out wr hU.out.isBelow)
        clear hje
        go_wp2_with fail
        refine HAL.out _ (fun w2 hb2 => ?_)
        have H2 := Lib.hid (hU.out.below hb2)
        clear hb2
        go_wp2_with fail
        exact HR.out _ H2.out.isBelow
end Go.Proofs.YtdlbhiaceheffaaDoor

namespace Go.Proofs.YtdlbhiaceheffaaDoor
open Go Go.RowKit
open Prt (Sat As blk pur exs star stars)
open Ty (Tr anyTo anyTo_iff anyTo_false)

set_option maxRecDepth 100000 in
theorem refFits_all (w : World) (v : Value) (rows : List TyRow) (ts : List Ty.Ty) (hts : rows.map TyRow.t = ts) (hw : Ty.Wf ts) (hlen : ts.length ≤ 1000000) (hrd : TyRd w v rows) : ∀ (N a b : Nat), a + b < N → a < ts.length → b < ts.length → RfiC v w a b (Ty.fits (Ty.den ts a) (Ty.den ts b)) := by
  intro N
  induction N with
  | zero => intro a b h; omega
  | succ N ih =>
    intro a b hN ha hb w1 hw1 R hR
    obtain ⟨g, cap, x, rfl, hg, hcap, hcm, hx, hA, hfx, hlx⟩ := (hrd.below hw1).look hts ha
    obtain ⟨g2, cap2, y, e, _, _, _, hy, hB, hfy, hly⟩ := (hrd.below hw1).look hts hb
    cases e
    have wx := hw a _ hx
    have wy := hw b _ hy
    have da := Ty.den_eq hw hx
    have db := Ty.den_eq hw hy
    have oka := Ty.den_ok hw _ a (Nat.lt_succ_self _) ha
    have okb := Ty.den_ok hw _ b (Nat.lt_succ_self _) hb
    have hst := fits_mk (da ▸ oka) (db ▸ okb)
    rw [← da, ← db] at hst
    obtain ⟨⟨kd1, fds1, lst1, of1⟩, fv1, lv1⟩ := x
    obtain ⟨⟨kd2, fds2, lst2, of2⟩, fv2, lv2⟩ := y
    dsimp only at hfx hfy hlx hly wx wy hst da db
    simp only [List.length_map] at hst
    have lx := wx.lens
    have ly := wy.lens
    dsimp only at lx ly
    have hR' : ∀ r, Ty.fits (Ty.den ts a) (Ty.den ts b) = r → ∀ w2, Below w1.heap.size w1 w2 → R (.returned (.bool r)) w2 := fun r h w2 hb2 => h ▸ hR w2 hb2
    have key : ∀ i j, i + j < a + b → i ≤ a ∨ i ≤ b → i < ts.length → j < ts.length → RfiC (.slice (some ⟨g, 0, none⟩) ts.length cap) w1 i j (Ty.fits (Ty.den ts i) (Ty.den ts j)) := fun i j h _ hi hj => (ih i j (by omega) hi hj).mono hw1
    by_cases h1 : kd1 = 5 ∨ kd2 = 5 ∨ kd2 = 6
    · rw [if_pos h1] at hst
      exact rfi_true w1 g cap a b ts.length hg kd1 kd2 of1 of2 fds1 fds2 lst1 lst2 fv1 fv2 lv1 lv2 hlen ha hb hcap hA hB hfx hfy hlx hly lx.1 ly.1 lx.2 ly.2 h1 (hR' _ hst)
    rw [if_neg h1] at hst
    by_cases h2 : kd1 = 10
    · rw [if_pos h2] at hst
      subst h2
      refine rfi_10a w1 g cap a b ts.length hg kd2 of1 of2 fds1 fds2 lst1 lst2 fv1 fv2 lv1 lv2 hlen ha hb hcap hA hB hfx hfy hlx hly lx.1 ly.1 lx.2 ly.2 (by omega) (by omega) _ (fun j hj => ?_) (hR' _ hst)
      have h3 := wx.list _ (List.getElem_mem hj)
      rw [getD_eq (by simpa using hj), List.getElem_map, Bool.not_not]
      exact key _ _ (by omega) (.inl (by omega)) (by omega) hb
    rw [if_neg h2] at hst
    by_cases h3 : kd2 = 10
    · rw [if_pos h3] at hst
      subst h3
      refine rfi_10b w1 g cap a b ts.length hg kd1 of1 of2 fds1 fds2 lst1 lst2 fv1 fv2 lv1 lv2 hlen ha hb hcap hA hB hfx hfy hlx hly lx.1 ly.1 lx.2 ly.2 (by omega) (by omega) _ (fun j hj => ?_) (hR' _ hst)
      have h3 := wy.list _ (List.getElem_mem hj)
      rw [getD_eq (by simpa using hj), List.getElem_map]
      exact key _ _ (by omega) (.inl (by omega)) ha (by omega)
    rw [if_neg h3] at hst
    by_cases h4 : kd1 = kd2
    rotate_left
    · rw [if_pos h4] at hst
      exact rfi_ne w1 g cap a b ts.length hg kd1 kd2 of1 of2 fds1 fds2 lst1 lst2 fv1 fv2 lv1 lv2 hlen ha hb hcap hA hB hfx hfy hlx hly lx.1 ly.1 lx.2 ly.2 (by omega) (by omega) ⟨by omega, by omega, by omega⟩ h4 (hR' _ hst)
    rw [if_neg (by omega)] at hst
    subst h4
    by_cases h7 : kd1 = 7
    · rw [if_pos h7] at hst
      subst h7
      refine rfi_7 w1 g cap a b ts.length hg of1 of2 fds1 fds2 lst1 lst2 fv1 fv2 lv1 lv2 hlen ha hb hcap hA hB hfx hfy hlx hly lx.1 ly.1 lx.2 ly.2 _ (fun j hj => ?_) (hR' _ hst)
      have e1 : (fds2.map Prod.fst).getD j ⟨#[]⟩ = fds2[j].1 := by rw [getD_eq (by simpa using hj), List.getElem_map]
      have e2 : (fds2.map fun f => Ty.den ts f.2).getD j Ty.nilT = Ty.den ts fds2[j].2 := by rw [getD_eq (by simpa using hj), List.getElem_map]
      rw [e1, e2]
      have hf2 := wy.fields _ (List.getElem_mem hj)
      rcases fieldOf_den (ts := ts) (l := fds1) fds2[j].1 with ⟨h4, h5⟩ | ⟨n, h4, h5, h6⟩
      · exact .inl ⟨h5, by rw [h4]⟩
      · obtain ⟨f, hf, rfl⟩ := List.mem_map.1 h5
        have hf1 := wx.fields f hf
        exact .inr ⟨f.2, _, h4, key _ _ (by omega) (.inl (by omega)) (by omega) (by omega), by rw [h6]⟩
    rw [if_neg h7] at hst
    by_cases h8 : kd1 = 8
    · rw [if_pos h8] at hst
      subst h8
      have h10 := wx.of (.inl rfl)
      have h11 := wy.of (.inl rfl)
      dsimp only at h10 h11
      rw [da, db] at hst
      refine rfi_8 w1 g cap a b ts.length hg of1 of2 fds1 fds2 lst1 lst2 fv1 fv2 lv1 lv2 hlen ha hb hcap hA hB hfx hfy hlx hly lx.1 ly.1 lx.2 ly.2 _ (key of1 of2 (by omega) (.inl (by omega)) (by omega) (by omega)) (hR' _ ?_)
      rw [da, db, hst]; rfl
    rw [if_neg h8] at hst
    by_cases h9 : kd1 = 9
    · rw [if_pos h9] at hst
      subst h9
      have h10 := wx.of (.inr rfl)
      have h11 := wy.of (.inr rfl)
      dsimp only at h10 h11
      by_cases hle : lst1.length ≤ lst2.length
      rotate_left
      · rw [decide_eq_false hle, Bool.false_and, Bool.false_and] at hst
        exact rfi_9a w1 g cap a b ts.length hg of1 of2 fds1 fds2 lst1 lst2 fv1 fv2 lv1 lv2 hlen ha hb hcap hA hB hfx hfy hlx hly lx.1 ly.1 lx.2 ly.2 (by omega) (hR' _ hst)
      rw [decide_eq_true hle, Bool.true_and] at hst
      refine rfi_9 w1 g cap a b ts.length hg of1 of2 fds1 fds2 lst1 lst2 fv1 fv2 lv1 lv2 hlen ha hb hcap hA hB hfx hfy hlx hly lx.1 ly.1 lx.2 ly.2 hle (fun j => Ty.fits ((lst1.map (Ty.den ts)).getD j Ty.nilT) ((lst2.map (Ty.den ts)).getD j Ty.nilT)) (fun j => Ty.fits ((lst2.map (Ty.den ts)).getD j Ty.nilT) ((lst1.map (Ty.den ts)).getD j Ty.nilT)) (fun j hj hj2 => ?_) _ (key of1 of2 (by omega) (.inl (by omega)) (by omega) (by omega)) (hR' _ ?_)
      · have h12 := wx.list _ (List.getElem_mem hj)
        have h13 := wy.list _ (List.getElem_mem hj2)
        rw [getD_eq (by simpa using hj), getD_eq (by simpa using hj2), List.getElem_map, List.getElem_map]
        exact ⟨key _ _ (by omega) (.inl (by omega)) (by omega) (by omega), key _ _ (by omega) (.inr (by omega)) (by omega) (by omega)⟩
      · rw [hst, da, db]; rfl
    rw [if_neg h9] at hst
    exact rfi_low w1 g cap a b ts.length hg kd1 of1 of2 fds1 fds2 lst1 lst2 fv1 fv2 lv1 lv2 hlen ha hb hcap hA hB hfx hfy hlx hly lx.1 ly.1 lx.2 ly.2 ⟨by omega, by omega, by omega⟩ ⟨h7, h8, h9⟩ (hR' _ hst)
end Go.Proofs.YtdlbhiaceheffaaDoor
