/- Walk of the law TokenApart. -/
import Derived.Test.YtdlbhiaceheffaaDoorTokLaw1
import Derived.Test.YtdlbhiaceheffaaDoorTokScan
import Derived.Test.YtdlbhiaceheffaaDoorTokPlain3
import Derived.Deep.DeepCutAuto
import Derived.Deep.CutBlock
namespace Go.Proofs.YtdlbhiaceheffaaDoor
open Go Go.RowKit

def pkOf (l : List Tok.Tk) (k : Nat) : Nat := if k = 0 then 0 else ((l[k - 1]?).map Tok.Tk.kind).getD 0
theorem pkOf_zero (l : List Tok.Tk) : pkOf l 0 = 0 := rfl
theorem pkOf_succ (l : List Tok.Tk) (k : Nat) (h : k < l.length) : pkOf l (k + 1) = l[k].kind := by
  unfold pkOf; rw [if_neg (by omega)]; simp [List.getElem?_eq_getElem h]
theorem pkOf_pos (l : List Tok.Tk) (k : Nat) (h : k ≤ l.length) (h0 : 0 < k) : pkOf l k = l[k - 1].kind := by
  obtain ⟨j, rfl⟩ : ∃ j, k = j + 1 := ⟨k - 1, by omega⟩
  rw [pkOf_succ l j (by omega)]; simp

set_option maxRecDepth 100000 in
set_option maxHeartbeats 4000000 in
theorem TokenApart_walk (s : ByteArray) (w : World) (hw : Words w) (hm : s.size ≤ maxLen) {R : Ending → World → Prop} (hR : ∀ w', Below w.heap.size w w' → R (.returned (.bool true)) w') :
    Calls Tryd.prog 4 #[.string s] w R := by
  have HR := Lib.hid hR
  have HW := Lib.hid hw
  have HM := Lib.hid hm
  clear hR hw hm
  go_enter Tryd.func4, Tryd.ntmps4
  go_wp2_with fail
  refine tokenBegun_any _ HW.out (fun w0 hb0 => ?_)
  have HB0 := Lib.hid hb0
  have hz0 := hb0.size
  clear hb0
  go_wp2_with fail
  refine Scan_any s w0 (HW.out.below HB0.out) HM.out (fun l v w1 he hb hown => ?_) (fun e p w1 he hb => ?_)
  · have hsz := (Tok.scan_ok s l he).2.2
    have hlen := (Tok.scan_ok s l he).2.1
    have hne := (Tok.scan_ok s l he).1
    have hap := Tok.scan_apart s l he
    have hz := hb.size
    have HB1 := Lib.hid (HB0.out.trans (hb.mono hz0))
    obtain ⟨g, cap, rfl, _, hg, _, _, hc⟩ := hown.at hne
    have HC := Lib.hid hc
    have HAP := Lib.hid hap
    have HNE := Lib.hid hne
    clear he hb hown hc hap hne
    go_wp2_with fail
    go_loopw [5, 6] (fun at' i wr => ∃ k a pk : Nat, at' = .int .i64 a ∧ i = .int .i64 k ∧ k ≤ l.length ∧ a ≤ s.size ∧ Hid (pkOf l k = pk) ∧ Hid (Tok.apart s a pk (l.drop k)) ∧ Hid (Below w1.heap.size w1 wr) ∧ w1.heap.size ≤ wr.heap.size) (fun _ i _ => l.length - (intOf i).toNat)
    case atStart => exact ⟨0, 0, 0, rfl, rfl, by omega, by omega, rfl, HAP.out, (Below.refl _ _).alloc (Nat.le_refl _) _, by simp⟩
    case round =>
      obtain ⟨k, a, pk, rfl, rfl, hk, ha, hpk, hapk, hbel, hzr⟩ := hrel
      by_cases hlt : k < l.length
      · obtain ⟨t0, t1, t2⟩ := HC.out k hlt
        have hdrop : l.drop k = l[k] :: l.drop (k + 1) := List.drop_eq_getElem_cons hlt
        have hA := hapk.out
        rw [hdrop] at hA
        obtain ⟨x1, x2, x3, x4, x5, x6⟩ := hA
        have hpk1 := pkOf_succ l k hlt
        have ecell : ∀ o, wr.cell? ⟨g, o, none⟩ = w1.cell? ⟨g, o, none⟩ := fun o => hbel.out.cell (p := ⟨g, o, none⟩) hg
        rw [← ecell] at t0 t1 t2
        have hprev : 0 < k → wr.cell? ⟨g, (k - 1) * 3, none⟩ = some (.int .i64 pk) := fun h0 => by
          rw [ecell, (HC.out (k - 1) (by omega)).1, ← hpk.out, pkOf_pos l k hk h0]
        clear ecell hdrop hapk
        generalize l[k] = t at *
        obtain ⟨kd, tx, ps⟩ := t
        dsimp only at t0 t1 t2 x1 x2 x3 x4 x5 x6 hpk1
        have X3 := Lib.hid x3
        have X4 := Lib.hid x4
        have X6 := Lib.hid x6
        have HPK1 := Lib.hid hpk1
        have HPR := Lib.hid hprev
        have hend : ps + tx.size ≤ s.size ∧ (kd = 4 → ps + tx.size + 2 ≤ s.size) := by
          unfold Tok.ends at x5
          dsimp only at x5
          by_cases h4 : kd = 4
          · rw [if_pos h4] at x5; omega
          · rw [if_neg h4] at x5; omega
        obtain ⟨hend1, hend2⟩ := hend
        have d1 : decide (ps < a) = false := decide_eq_false (by omega)
        have d2 : decide (s.size < ps) = false := decide_eq_false (by omega)
        clear x3 x4 x5 x6 hpk1 hprev
        go_upto_block 2 with fail
        go_cut [8] (fun _ wx => wx = wr.alloc (.cells #[.int .i64 kd, .string tx, .int .i64 ps] 32))
        case first =>
          go_wp2_with fail
          go_loop [8] (fun v => ∃ j : Nat, a ≤ j ∧ j ≤ ps ∧ v = .int .i64 j) (fun v => ps - (intOf v).toNat)
          case atStart => exact ⟨a, Nat.le_refl _, x1, rfl⟩
          case round =>
            obtain ⟨j, hj1, hj2, rfl⟩ := hrel
            by_cases hjl : j < ps
            · have hjs : j < s.size := by omega
              have hb := X3.out j hj1 hjl
              rw [blank_iff s j hjs] at hb
              rcases hb with hb | hb
              · have b1 : ((s[j].toNat : Int) != 32) = false := by simp [hb]
                clear hb
                go_wp2_with fail
                go_round
                case rel => exact ⟨j + 1, by omega, by omega, by go_num⟩
                case measure => simp [intOf]; omega
              · have b1 : ((s[j].toNat : Int) != 32) = true := by simp [hb]
                have b2 : ((s[j].toNat : Int) != 10) = false := by simp [hb]
                clear hb
                go_wp2_with fail
                go_round
                case rel => exact ⟨j + 1, by omega, by omega, by go_num⟩
                case measure => simp [intOf]; omega
            · go_wp2_with fail
              go_meet
              exact rfl
        case rest =>
          obtain rfl := hcut
          obtain ⟨pl, hpl⟩ : ∃ pl, Tok.plainKind kd = pl := ⟨_, rfl⟩
          have HPL := Lib.hid hpl
          clear hpl
          go_upto_region 18 with fail
          go_cut [9] (fun v wx => v = .bool pl ∧ wx = wr.alloc (.cells #[.int .i64 kd, .string tx, .int .i64 ps] 32))
          case first =>
            have hk : kd = 1 ∨ kd ≠ 1 ∧ kd = 2 ∨ kd ≠ 1 ∧ kd ≠ 2 := by omega
            rcases hk with hk | ⟨hk1, hk2⟩ | ⟨hk1, hk2⟩
            · have k1 : ((kd : Int) == 1) = true := by simp [hk]
              have hv : pl = true := by rw [← HPL.out, hk]; rfl
              clear hk
              subst hv
              go_wp2_with fail
              go_meet
              exact ⟨rfl, rfl⟩
            · have k1 : ((kd : Int) == 1) = false := by simp; omega
              have k2 : ((kd : Int) == 2) = true := by simp [hk2]
              have hv : pl = true := by rw [← HPL.out, hk2]; rfl
              clear hk1 hk2
              subst hv
              go_wp2_with fail
              go_meet
              exact ⟨rfl, rfl⟩
            · have k1 : ((kd : Int) == 1) = false := by simp; omega
              have k2 : ((kd : Int) == 2) = false := by simp; omega
              have hv : pl = ((kd : Int) == 3) := by rw [← HPL.out, Bool.eq_iff_iff]; simp [Tok.plainKind, hk1, hk2]; omega
              have HV := Lib.hid hv
              clear hk1 hk2 hv
              go_wp2_with fail
              go_meet
              exact ⟨by rw [HV.out], rfl⟩
          case rest =>
            obtain ⟨rfl, rfl⟩ := hcut
            have hends : Tok.ends ⟨kd, tx, ps⟩ = ps + tx.size + if kd = 4 then 2 else 0 := rfl
            have hbad := X4.out
            unfold Tok.bad at hbad
            dsimp only at hbad
            rw [HPL.out] at hbad
            have hcase : (kd = 4 ∧ pl = false) ∨ (kd ≠ 4 ∧ pl = false) ∨ (kd ≠ 4 ∧ pl = true ∧ (k = 0 ∨ 0 < k ∧ ps ≠ a ∨ 0 < k ∧ ps = a ∧ (pk ≠ 1 ∧ pk ≠ 2 ∧ pk ≠ 3) ∨ 0 < k ∧ ps = a ∧ pk = 3 ∧ kd ≠ 3)) := by
              have h4 : kd = 4 → pl = false := fun h => by rw [← HPL.out, h]; rfl
              by_cases hk4 : kd = 4
              · exact .inl ⟨hk4, h4 hk4⟩
              · cases pl
                · exact .inr (.inl ⟨hk4, rfl⟩)
                · refine .inr (.inr ⟨hk4, rfl, ?_⟩)
                  by_cases hk0 : k = 0
                  · exact .inl hk0
                  · by_cases hpa : ps = a
                    · have hk1 : 0 < k := by omega
                      rw [Bool.true_and, hpa] at hbad
                      simp only [decide_true, Bool.true_and, Bool.and_eq_false_iff, Bool.not_eq_false', Bool.and_eq_true, decide_eq_true_eq, Bool.not_eq_true', decide_eq_false_iff_not] at hbad
                      rcases hbad with hbad | ⟨h3, h5⟩
                      · unfold Tok.plainKind at hbad
                        simp only [Bool.or_eq_false_iff, decide_eq_false_iff_not] at hbad
                        exact .inr (.inr (.inl ⟨hk1, hpa, hbad.1.1, hbad.1.2, hbad.2⟩))
                      · exact .inr (.inr (.inr ⟨hk1, hpa, h3, h5⟩))
                    · exact .inr (.inl ⟨by omega, hpa⟩)
            have HENDS := Lib.hid hends
            clear hends hbad X4 HPL
            rcases hcase with ⟨hk4, rfl⟩ | ⟨hk4, rfl⟩ | ⟨hk4, rfl, hc⟩
            · have k4 : ((kd : Int) == 4) = true := by simp [hk4]
              have hle := hend2 hk4
              have he : Tok.ends ⟨kd, tx, ps⟩ = ps + tx.size + 2 := by rw [HENDS.out, if_pos hk4]
              have X7 := X6.out
              rw [he] at X7
              have HX7 := Lib.hid X7
              clear X7 X6 he hk4 hend2
              go_wp2_with fail
              all_goals
                go_roundw
                case rel => exact ⟨k + 1, ps + tx.size + 2, kd, by go_num, by go_num, by omega, by omega, HPK1, HX7, (hbel.out.alloc (by omega) _), by simp; omega⟩
                case measure => simp [intOf]; omega
            · have k4 : ((kd : Int) == 4) = false := by simp; omega
              have he : Tok.ends ⟨kd, tx, ps⟩ = ps + tx.size := by rw [HENDS.out, if_neg hk4]; rfl
              have X7 := X6.out
              rw [he] at X7
              have HX7 := Lib.hid X7
              clear X7 X6 he hk4 hend2
              go_wp2_with fail
              all_goals
                go_roundw
                case rel => exact ⟨k + 1, ps + tx.size, kd, by go_num, by go_num, by omega, by omega, HPK1, HX7, (hbel.out.alloc (by omega) _), by simp; omega⟩
                case measure => simp [intOf]; omega
            · have k4 : ((kd : Int) == 4) = false := by simp; omega
              have he : Tok.ends ⟨kd, tx, ps⟩ = ps + tx.size := by rw [HENDS.out, if_neg hk4]; rfl
              have X7 := X6.out
              rw [he] at X7
              have HX7 := Lib.hid X7
              clear X7 X6 he hk4 hend2
              rcases hc with rfl | ⟨hk1, hpa⟩ | ⟨hk1, hpa, p1, p2, p3⟩ | ⟨hk1, hpa, p3, h5⟩
              · go_wp2_with fail
                go_roundw
                case rel => exact ⟨0 + 1, ps + tx.size, kd, by go_num, by go_num, by omega, by omega, HPK1, HX7, (hbel.out.alloc (by omega) _), by simp; omega⟩
                case measure => simp [intOf]; omega
              · have e1 : ((ps : Int) == (a : Int)) = false := by simp; omega
                have e2 : (ps == a) = false := by simp; omega
                go_wp2_with fail
                go_roundw
                case rel => exact ⟨k + 1, ps + tx.size, kd, by go_num, by go_num, by omega, by omega, HPK1, HX7, (hbel.out.alloc (by omega) _), by simp; omega⟩
                case measure => simp [intOf]; omega
              · have hpv : (wr.alloc (.cells #[.int .i64 kd, .string tx, .int .i64 ps] 32)).cell? ⟨g, (k - 1) * 3, none⟩ = some (.int .i64 pk) := by
                  rw [World.cell?_alloc_past _ _ _ (by show g < _; omega)]; exact HPR.out hk1
                have q1 : ((pk : Int) == 1) = false := by simp; omega
                have q2 : ((pk : Int) == 2) = false := by simp; omega
                have q3 : ((pk : Int) == 3) = false := by simp; omega
                subst hpa
                clear p1 p2 p3
                go_wp2_with fail
                go_roundw
                case rel => exact ⟨k + 1, ps + tx.size, kd, by go_num, by go_num, by omega, by omega, HPK1, HX7, (hbel.out.alloc (by omega) _), by simp; omega⟩
                case measure => simp [intOf]; omega
              · have hpv : (wr.alloc (.cells #[.int .i64 kd, .string tx, .int .i64 ps] 32)).cell? ⟨g, (k - 1) * 3, none⟩ = some (.int .i64 pk) := by
                  rw [World.cell?_alloc_past _ _ _ (by show g < _; omega)]; exact HPR.out hk1
                have q1 : ((pk : Int) == 1) = false := by simp; omega
                have q2 : ((pk : Int) == 2) = false := by simp; omega
                have q3 : ((pk : Int) == 3) = true := by simp; omega
                have q4 : ((kd : Int) != 3) = true := by simp; omega
                subst hpa
                clear p3 h5
                go_wp2_with fail
                go_roundw
                case rel => exact ⟨k + 1, ps + tx.size, kd, by go_num, by go_num, by omega, by omega, HPK1, HX7, (hbel.out.alloc (by omega) _), by simp; omega⟩
                case measure => simp [intOf]; omega
      · have hkl : k = l.length := by omega
        subst hkl
        have hA := hapk.out
        rw [List.drop_eq_nil_of_le (Nat.le_refl _)] at hA
        obtain ⟨rfl, rfl⟩ := hA
        have hpos : 0 < l.length := List.length_pos_iff.2 HNE.out
        have hlast : wr.cell? ⟨g, (l.length - 1) * 3, none⟩ = some (.int .i64 6) := by
          have h1 := (HC.out (l.length - 1) (by omega)).1
          have h2 := pkOf_pos l l.length (Nat.le_refl _) hpos
          rw [hpk.out] at h2
          rw [hbel.out.cell (p := ⟨g, (l.length - 1) * 3, none⟩) hg, h1, ← h2]; rfl
        clear hapk hpk HAP HC HNE
        go_wp2_with fail
        refine ret_eq (HR.out _ ?_) ?_
        · exact HB1.out.trans (hbel.out.mono (by omega))
        · rfl
  · have HB := Lib.hid (HB0.out.trans (hb.mono hz0))
    have hz := hb.size
    have he0 : Tok.scan s = .error (e, p) := he
    have hne0 : e = 1 ∨ e = 2 := Tok.scan_err s e p he0
    have hE : ((e : Int) != 0) = true := by simp; omega
    clear he hb he0 hne0
    go_wp2_with fail
    refine ret_eq (HR.out _ ?_) rfl
    repeat' (first | exact HB.out | apply Below.drew | apply Below.setCell | apply Below.alloc | (simp; done) | (simp; omega) | omega)
end Go.Proofs.YtdlbhiaceheffaaDoor
