/- Walk of the reference's FieldOf. Walk of the reference's AlikeOf. Walk of the reference's AlikeOf: where nothing parts the two at once. The contract of the reference's AlikeOf. -/
import Derived.Test.YtdlbhiaceheffaaGreatDoorQTt
import Derived.Deep.DeepCutAuto
import Derived.Deep.CutBlock
namespace Go.Proofs.YtdlbhiaceheffaaGreatDoor
open Go Go.RowKit
open Prt (Sat As blk pur exs star stars)
open Ty (Tr anyTo anyTo_iff anyTo_false)

/-- The number of a name among fields; -1: there is none. -/
def fieldOf : List (ByteArray × Nat) → ByteArray → Int
  | [], _ => -1
  | f :: l, x => if f.1 = x then (f.2 : Int) else fieldOf l x
theorem fieldOf_part (x : ByteArray) : ∀ l : List (ByteArray × Nat), fieldOf l x = match Ty.part (l.map Prod.fst) (l.map Prod.snd) x with | none => -1 | some n => (n : Int)
  | [] => rfl
  | f :: l => by
    rw [fieldOf, List.map_cons, List.map_cons, Ty.part]
    by_cases h : f.1 = x
    · rw [if_pos h, if_pos h]
    · rw [if_neg h, if_neg h]; exact fieldOf_part x l
theorem part_map {α β : Type} (g : α → β) (x : ByteArray) : ∀ (ns : List ByteArray) (l : List α), Ty.part ns (l.map g) x = (Ty.part ns l x).map g
  | [], l => by cases l <;> rfl
  | n :: ns, [] => rfl
  | n :: ns, a :: l => by
    rw [List.map_cons, Ty.part, Ty.part]
    by_cases h : n = x
    · rw [if_pos h, if_pos h]; rfl
    · rw [if_neg h, if_neg h]; exact part_map g x ns l
set_option maxRecDepth 100000 in
theorem FieldOf_any (w : World) (kd of : Int) (fv lv : Value) (l : List (ByteArray × Nat)) (hrow : w.ownsRow 0 82 2 fv l.length (l.flatMap fdCells)) (hl : l.length ≤ 1000000) (x : ByteArray) {R : Ending → World → Prop}
    (hR : ∀ w', Below w.heap.size w w' → R (.returned (.int .i64 (fieldOf l x))) w') :
    Calls Tryz.prog 93 #[.agg #[.int .i64 kd, fv, lv, .int .i64 of], .string x] w R := by
  have HR := Lib.hid (hR _ ((Below.refl w.heap.size w).alloc (Nat.le_refl _) (.cells #[.int .i64 kd, fv, lv, .int .i64 of] 77)))
  have HROW := Lib.hid (hrow.alloc (.cells #[.int .i64 kd, fv, lv, .int .i64 of] 77))
  obtain ⟨fa, fc, rfl⟩ := owns_slice hrow
  clear hR hrow
  go_enter Tryz.func93, Tryz.ntmps93
  go_wp2_with fail
  go_loop [5] (fun i => ∃ k : Nat, k ≤ l.length ∧ i = .int .i64 k ∧ Hid (fieldOf l x = fieldOf (l.drop k) x)) (fun i => l.length - (intOf i).toNat)
  case atStart => exact ⟨0, by omega, rfl, rfl⟩
  case round =>
    obtain ⟨k, hk, rfl, hE⟩ := hrel
    by_cases hlt : k < l.length
    · obtain ⟨gf, capf, e, hgf, d0, d1⟩ := fds_at HROW.out k hlt
      cases e
      have HE2 : Hid (fieldOf l x = if l[k].1 = x then (l[k].2 : Int) else fieldOf (l.drop (k + 1)) x) := by show _ = _; rw [hE.out, List.drop_eq_getElem_cons hlt, fieldOf]
      generalize l[k] = f at *
      obtain ⟨nm, ix⟩ := f
      dsimp only at d0 d1 HE2
      go_wp2_with fail
      · have h : (nm.toList == x.toList) = true := by assumption
        refine ret_eq HR.out (congrArg (Value.int .i64) ?_)
        rw [HE2.out, if_pos ((bytes_iff _ _).1 h)]
      · have h : (nm.toList == x.toList) = false := by assumption
        have HE3 : Hid (fieldOf l x = fieldOf (l.drop (k + 1)) x) := by show _ = _; rw [HE2.out, if_neg (bytes_ne _ _ h)]
        go_round
        case rel => exact ⟨k + 1, by omega, by go_num, HE3⟩
        case measure => simp [intOf]; omega
    · have HE2 : Hid (fieldOf l x = -1) := by show _ = _; rw [hE.out, List.drop_eq_nil_of_le (by omega)]; rfl
      go_wp2_with fail
      refine ret_eq HR.out (congrArg (Value.int .i64) ?_)
      rw [HE2.out]
end Go.Proofs.YtdlbhiaceheffaaGreatDoor

namespace Go.Proofs.YtdlbhiaceheffaaGreatDoor
open Go Go.RowKit
open Prt (Sat As blk pur exs star stars)
open Ty (Tr anyTo anyTo_iff anyTo_false)

/-- A type of a list, with where its lists lie. -/
structure RowAt (w : World) (g n : Nat) (r : TyRow) : Prop where
  q0 : w.cell? ⟨g, n * 4, none⟩ = some (.int .i64 r.t.kind)
  q1 : w.cell? ⟨g, n * 4 + 1, none⟩ = some r.fv
  q2 : w.cell? ⟨g, n * 4 + 2, none⟩ = some r.lv
  q3 : w.cell? ⟨g, n * 4 + 3, none⟩ = some (.int .i64 r.t.of)
theorem TyRd.look {w : World} {v : Value} {rows : List TyRow} {ts : List Ty.Ty} (h : TyRd w v rows) (hts : rows.map TyRow.t = ts) {n : Nat} (hn : n < ts.length) :
    ∃ (g cap : Nat) (r : TyRow), v = .slice (some ⟨g, 0, none⟩) ts.length cap ∧ g < w.heap.size ∧ ts.length ≤ cap ∧ cap ≤ maxLen ∧ ts[n]? = some r.t ∧ RowAt w g n r ∧ w.ownsRow 0 82 2 r.fv r.t.fields.length (r.t.fields.flatMap fdCells) ∧ w.ownsRow 0 3 1 r.lv r.t.list.length (r.t.list.map inCell) := by
  have hl : rows.length = ts.length := by rw [← hts]; simp
  obtain ⟨g, cap, hv, hg, hc, hm, hcells⟩ := h.at (by omega)
  obtain ⟨q0, q1, q2, q3⟩ := hcells n (by omega)
  have hb := h.bits rows[n] (List.getElem_mem _)
  have hget : (rows.map TyRow.t)[n]? = some rows[n].t := by rw [List.getElem?_map, List.getElem?_eq_getElem (by omega)]; rfl
  rw [hts] at hget
  exact ⟨g, cap, rows[n], by rw [hv, hl], hg, by omega, hm, hget, ⟨q0, q1, q2, q3⟩, hb.1, hb.2⟩
def tyObj (r : TyRow) : Obj := .cells #[.int .i64 r.t.kind, r.fv, r.lv, .int .i64 r.t.of] 77 (0, 0)
/-- A call of AlikeOf that comes to r, in whatever world that has more. -/
def RalC (v : Value) (w : World) (a b : Nat) (r : Bool) : Prop := ∀ w1, Below w.heap.size w w1 → ∀ R : Ending → World → Prop, (∀ w2, Below w1.heap.size w1 w2 → R (.returned (.bool r)) w2) → Calls Tryz.prog 55 #[v, .int .i64 (a : Nat), .int .i64 (b : Nat)] w1 R
set_option maxRecDepth 100000 in
set_option maxHeartbeats 4000000 in
theorem ral_out (w : World) (g cap a b L : Nat) (hg : g < w.heap.size) (x y : TyRow) (_ : L ≤ 1000000) (ha : a < L) (hb : b < L) (_ : L ≤ cap) (hA : RowAt w g a x) (hB : RowAt w g b y) (hfx : w.ownsRow 0 82 2 x.fv x.t.fields.length (x.t.fields.flatMap fdCells)) (hfy : w.ownsRow 0 82 2 y.fv y.t.fields.length (y.t.fields.flatMap fdCells))
    (hlx : w.ownsRow 0 3 1 x.lv x.t.list.length (x.t.list.map inCell)) (hly : w.ownsRow 0 3 1 y.lv y.t.list.length (y.t.list.map inCell))
    (hne : x.t.kind ≠ y.t.kind ∨ x.t.fields.length ≠ y.t.fields.length ∨ x.t.list.length ≠ y.t.list.length) {R : Ending → World → Prop} (hR : ∀ w', Below w.heap.size w w' → R (.returned (.bool false)) w') :
    Calls Tryz.prog 55 #[.slice (some ⟨g, 0, none⟩) L cap, .int .i64 (a : Nat), .int .i64 (b : Nat)] w R := by
  have HR := Lib.hid hR
  obtain ⟨q0, q1, q2, q3⟩ := hA
  obtain ⟨e0, e1, e2, e3⟩ := hB
  obtain ⟨⟨kd1, fds1, lst1, of1⟩, fv1, lv1⟩ := x
  obtain ⟨⟨kd2, fds2, lst2, of2⟩, fv2, lv2⟩ := y
  dsimp only at q0 q1 q2 q3 e0 e1 e2 e3 hne hfx hfy hlx hly
  obtain ⟨fa1, fc1, rfl⟩ := owns_slice hfx
  obtain ⟨fa2, fc2, rfl⟩ := owns_slice hfy
  obtain ⟨la1, lc1, rfl⟩ := owns_slice hlx
  obtain ⟨la2, lc2, rfl⟩ := owns_slice hly
  have hcase : ((kd1 : Int) != kd2) = true ∨ ((kd1 : Int) != kd2) = false ∧ ((fds1.length : Int) != fds2.length) = true ∨ ((kd1 : Int) != kd2) = false ∧ ((fds1.length : Int) != fds2.length) = false ∧ ((lst1.length : Int) != lst2.length) = true := by
    simp
    omega
  clear hR hfx hfy hlx hly hne
  go_enter Tryz.func55, Tryz.ntmps55
  go_upto_region 1 with fail
  go_cut [7, 8] (fun s7 s8 wx => ∃ b7 b8 : Nat, s7 = .pointer (some ⟨b7, 0, none⟩) ∧ s8 = .pointer (some ⟨b8, 0, none⟩) ∧ Hid (Sat w wx [Prt.oldA w, blk b7 (.cells #[.int .i64 kd1, .slice fa1 fds1.length fc1, .slice la1 lst1.length lc1, .int .i64 of1] 77 (0, 0)), blk b8 (.cells #[.int .i64 kd2, .slice fa2 fds2.length fc2, .slice la2 lst2.length lc2, .int .i64 of2] 77 (0, 0))]))
  case first =>
    go_region
    all_goals
      go_wp2_with fail
      go_meet
      first
        | exact ⟨_, _, rfl, rfl, (((Prt.Sat.old w).allocAt _ w.heap.size).allocAt _ (w.heap.size + 1)).drew⟩
        | exact ⟨_, _, rfl, rfl, ((((Prt.Sat.old w).allocAt _ w.heap.size).allocAt _ (w.heap.size + 1)).drew).pick [0, 2, 1]⟩
  case rest =>
    obtain ⟨b7, b8, rfl, rfl, hS⟩ := hcut
    have x0 := hS.out.cell 1 rfl 0 rfl
    have x1 := hS.out.cell 1 rfl 1 rfl
    have x2 := hS.out.cell 1 rfl 2 rfl
    have y0 := hS.out.cell 2 rfl 0 rfl
    have y1 := hS.out.cell 2 rfl 1 rfl
    have y2 := hS.out.cell 2 rfl 2 rfl
    clear q0 q1 q2 q3 e0 e1 e2 e3
    rcases hcase with h1 | ⟨h1, h2⟩ | ⟨h1, h2, h3⟩
    all_goals
      go_wp2_with fail
      exact HR.out _ hS.out.isBelow
end Go.Proofs.YtdlbhiaceheffaaGreatDoor

namespace Go.Proofs.YtdlbhiaceheffaaGreatDoor
open Go Go.RowKit
open Prt (Sat As blk pur exs star stars)
open Ty (Tr anyTo anyTo_iff anyTo_false)

theorem beq_nat {a b : Nat} (h : a = b) : ((a : Int) != (b : Int)) = false := by simp [h]
set_option maxRecDepth 100000 in
set_option maxHeartbeats 4000000 in
theorem ral_main (w : World) (g cap a b L : Nat) (hg : g < w.heap.size) (kd nf nl of1 of2 : Nat) (fds1 fds2 : List (ByteArray × Nat)) (lst1 lst2 : List Nat) (fv1 fv2 lv1 lv2 : Value) (_ : L ≤ 1000000) (ha : a < L) (hb : b < L) (_ : L ≤ cap) (hA : RowAt w g a ⟨⟨kd, fds1, lst1, of1⟩, fv1, lv1⟩) (hB : RowAt w g b ⟨⟨kd, fds2, lst2, of2⟩, fv2, lv2⟩)
    (hfx : w.ownsRow 0 82 2 fv1 fds1.length (fds1.flatMap fdCells)) (hfy : w.ownsRow 0 82 2 fv2 fds2.length (fds2.flatMap fdCells))
    (hlx : w.ownsRow 0 3 1 lv1 lst1.length (lst1.map inCell)) (hly : w.ownsRow 0 3 1 lv2 lst2.length (lst2.map inCell)) (hn1 : fds1.length = nf) (hn2 : fds2.length = nf) (hm1 : lst1.length = nl) (hm2 : lst2.length = nl) (hnf : nf ≤ 1000000) (hnl : nl ≤ 1000000)
    (f fl : Nat → Bool) (ro : Bool)
    (hf : ∀ j (hj : j < fds1.length), fieldOf fds2 fds1[j].1 = -1 ∧ f j = true ∨ ∃ (n : Nat) (rr : Bool), fieldOf fds2 fds1[j].1 = n ∧ RalC (.slice (some ⟨g, 0, none⟩) L cap) w fds1[j].2 n rr ∧ f j = !rr)
    (hl : ∀ j (hj : j < lst1.length) (hj2 : j < lst2.length), ∃ rr : Bool, RalC (.slice (some ⟨g, 0, none⟩) L cap) w lst1[j] lst2[j] rr ∧ fl j = !rr)
    (ho : (((kd : Int) != 8) = true ∧ ((kd : Int) != 9) = true) ∧ ro = true ∨ (((kd : Int) != 8) = false ∨ ((kd : Int) != 8) = true ∧ ((kd : Int) != 9) = false) ∧ RalC (.slice (some ⟨g, 0, none⟩) L cap) w of1 of2 ro)
    {R : Ending → World → Prop} (hR : ∀ w', Below w.heap.size w w' → R (.returned (.bool (!anyTo f nf && !anyTo fl nl && ro))) w') :
    Calls Tryz.prog 55 #[.slice (some ⟨g, 0, none⟩) L cap, .int .i64 (a : Nat), .int .i64 (b : Nat)] w R := by
  have HR := Lib.hid hR
  have HF := Lib.hid hf
  have HL := Lib.hid hl
  have HO := Lib.hid ho
  obtain ⟨q0, q1, q2, q3⟩ := hA
  obtain ⟨e0, e1, e2, e3⟩ := hB
  have HFX := Lib.hid hfx
  have HFY := Lib.hid hfy
  have HLX := Lib.hid hlx
  have HLY := Lib.hid hly
  obtain ⟨fa1, fc1, rfl⟩ := owns_slice hfx
  obtain ⟨fa2, fc2, rfl⟩ := owns_slice hfy
  obtain ⟨la1, lc1, rfl⟩ := owns_slice hlx
  obtain ⟨la2, lc2, rfl⟩ := owns_slice hly
  dsimp only at q0 q1 q2 q3 e0 e1 e2 e3
  rw [hn1] at q1
  rw [hn2] at e1
  rw [hm1] at q2
  rw [hm2] at e2
  have n1 : ((kd : Int) != kd) = false := by simp
  have n2 : ((nf : Int) != nf) = false := by simp
  have n3 : ((nl : Int) != nl) = false := by simp
  have HN1 := Lib.hid hn1
  have HN2 := Lib.hid hn2
  have HM1 := Lib.hid hm1
  have HM2 := Lib.hid hm2
  clear hR hf hl ho hfx hfy hlx hly hn1 hn2 hm1 hm2
  go_enter Tryz.func55, Tryz.ntmps55
  go_upto_region 1 with fail
  go_cut [7, 8] (fun s7 s8 wx => ∃ b7 b8 : Nat, s7 = .pointer (some ⟨b7, 0, none⟩) ∧ s8 = .pointer (some ⟨b8, 0, none⟩) ∧ Hid (Sat w wx [Prt.oldA w, blk b7 (.cells #[.int .i64 kd, .slice fa1 nf fc1, .slice la1 nl lc1, .int .i64 of1] 77 (0, 0)), blk b8 (.cells #[.int .i64 kd, .slice fa2 nf fc2, .slice la2 nl lc2, .int .i64 of2] 77 (0, 0))]))
  case first =>
    go_region
    all_goals
      go_wp2_with fail
      go_meet
      first
        | exact ⟨_, _, rfl, rfl, (((Prt.Sat.old w).allocAt _ w.heap.size).allocAt _ (w.heap.size + 1)).drew⟩
        | exact ⟨_, _, rfl, rfl, ((((Prt.Sat.old w).allocAt _ w.heap.size).allocAt _ (w.heap.size + 1)).drew).pick [0, 2, 1]⟩
  case rest =>
    obtain ⟨b7, b8, rfl, rfl, hS⟩ := hcut
    have x0 := hS.out.cell 1 rfl 0 rfl
    have x1 := hS.out.cell 1 rfl 1 rfl
    have x2 := hS.out.cell 1 rfl 2 rfl
    have y0 := hS.out.cell 2 rfl 0 rfl
    have y1 := hS.out.cell 2 rfl 1 rfl
    have y2 := hS.out.cell 2 rfl 2 rfl
    clear q0 q1 q2 q3 e0 e1 e2 e3
    go_wp2_with fail
    clear x0 x1 x2 y0 y1 y2
    go_loopw [9] (fun i wr => ∃ j : Nat, j ≤ nf ∧ i = .int .i64 j ∧ Hid (Sat w wr [Prt.oldA w, blk b7 (.cells #[.int .i64 kd, .slice fa1 nf fc1, .slice la1 nl lc1, .int .i64 of1] 77 (0, 0)), blk b8 (.cells #[.int .i64 kd, .slice fa2 nf fc2, .slice la2 nl lc2, .int .i64 of2] 77 (0, 0))]) ∧ Hid (∀ i, i < j → f i = false)) (fun i _ => nf - (intOf i).toNat)
    case atStart => exact ⟨0, by omega, rfl, hS, fun j hj => by omega⟩
    case round =>
      obtain ⟨j, hj, rfl, hT, hf⟩ := hrel
      have x1 := hT.out.cell 1 rfl 1 rfl
      by_cases hlt : j < nf
      · have hlf : j < fds1.length := by have := HN1.out; omega
        obtain ⟨gf, capf, e, hgf, d0, d1⟩ := fds_at (owns_below HFX.out hT.out.isBelow) j hlf
        rw [HN1.out] at e
        cases e
        have y0 := hT.out.cell 2 rfl 0 rfl
        have y1 := hT.out.cell 2 rfl 1 rfl
        have y2 := hT.out.cell 2 rfl 2 rfl
        have y3 := hT.out.cell 2 rfl 3 rfl
        have HFO := Lib.hid (fun R => @FieldOf_any wr.drew kd of2 (.slice fa2 nf fc2) (.slice la2 nl lc2) fds2 (by have := owns_below HFY.out hT.out.isBelow.drew; rw [HN2.out] at this ⊢; exact this) (by have := HN2.out; omega) fds1[j].1 R)
        have hcase := HF.out j hlf
        have HT := Lib.hid (fun h : f j = true => (anyTo_iff (f := f)).2 ⟨j, hlt, h⟩)
        have HN : Hid (f j = false → ∀ i, i < j + 1 → f i = false) := fun h i hi => by
          by_cases hij : i = j
          · subst hij; exact h
          · exact hf.out i (by omega)
        generalize fds1[j] = fd at *
        obtain ⟨nm, ix⟩ := fd
        dsimp only at d0 d1 hcase HFO
        generalize fieldOf fds2 nm = m at *
        generalize f j = fj at *
        have HCASE := Lib.hid hcase
        clear hcase
        go_wp2_with fail
        go_region_held3 (fun w' => w'.cell? ⟨b8, 0, none⟩ = some (.int .i64 (kd : Nat)) ∧ w'.cell? ⟨b8, 1, none⟩ = some (.slice fa2 nf fc2) ∧ w'.cell? ⟨b8, 2, none⟩ = some (.slice la2 nl lc2) ∧ w'.cell? ⟨b8, 3, none⟩ = some (.int .i64 (of2 : Nat)) ∧ w'.cell? ⟨b7, 1, none⟩ = some (.slice (some ⟨gf, 0, none⟩) nf fc1) ∧ w'.cell? ⟨gf, j * 2, none⟩ = some (.string nm)) (go_keep)
          (first | (go_at_call 93; refine HFO.out _ (fun w2 hb2 => ?_); have h2 := hT.out.drew.below hb2; have H2 := Lib.hid h2; have z0 := h2.cell 2 rfl 0 rfl; have z1 := h2.cell 2 rfl 1 rfl; have z2 := h2.cell 2 rfl 2 rfl; have z3 := h2.cell 2 rfl 3 rfl; have z4 := h2.cell 1 rfl 1 rfl; have z5 := keepCell hb2 (show (World.cell? (World.drew _) _) = _ from d0); have z6 := keepCell hb2 (show (World.cell? (World.drew _) _) = _ from d1); clear h2 hb2))
        all_goals
          rcases HCASE.out with ⟨rfl, rfl⟩ | ⟨n, rr, rfl, hal, rfl⟩
          · have HT2 := Lib.hid (HT.out rfl)
            rw [HT2.out] at HR
            go_wp2_with fail
            exact HR.out _ H2.out.isBelow
          · have HAL := Lib.hid (hal _ H2.out.isBelow)
            clear hal
            go_wp2_with fail
            refine HAL.out _ (fun w4 hb4 => ?_)
            have H4 := Lib.hid (H2.out.below hb4)
            clear hb4
            cases rr
            · have HT2 := Lib.hid (HT.out rfl)
              rw [HT2.out] at HR
              go_wp2_with fail
              exact HR.out _ H4.out.isBelow
            · have HN2 := Lib.hid (HN.out rfl)
              go_wp2_with fail
              go_roundw
              case rel => exact ⟨j + 1, by omega, by go_num, H4, HN2⟩
              case measure => simp [intOf]; omega
      · have hje : j = nf := by omega
        have HN : Hid (anyTo f nf = false) := anyTo_false.2 (fun i hi => hf.out i (by omega))
        rw [HN.out, Bool.not_false, Bool.true_and] at HR
        clear hje
        go_wp2_with fail
        clear x1 hf
        go_loopw [11] (fun i wr => ∃ j : Nat, j ≤ nl ∧ i = .int .i64 j ∧ Hid (Sat w wr [Prt.oldA w, blk b7 (.cells #[.int .i64 kd, .slice fa1 nf fc1, .slice la1 nl lc1, .int .i64 of1] 77 (0, 0)), blk b8 (.cells #[.int .i64 kd, .slice fa2 nf fc2, .slice la2 nl lc2, .int .i64 of2] 77 (0, 0))]) ∧ Hid (∀ i, i < j → fl i = false)) (fun i _ => nl - (intOf i).toNat)
        case atStart => exact ⟨0, by omega, rfl, hT, fun j hj => by omega⟩
        case round =>
          obtain ⟨j, hj, rfl, hU, hf⟩ := hrel
          have x2 := hU.out.cell 1 rfl 2 rfl
          by_cases hlt : j < nl
          · have hl1 : j < lst1.length := by have := HM1.out; omega
            have hl2 : j < lst2.length := by have := HM2.out; omega
            obtain ⟨g1, cap1, e, hg1, d1⟩ := ints_at (owns_below HLX.out hU.out.isBelow) j hl1
            rw [HM1.out] at e
            cases e
            obtain ⟨g2, cap2, e, hg2, d2⟩ := ints_at (owns_below HLY.out hU.out.isBelow) j hl2
            rw [HM2.out] at e
            cases e
            have y2 := hU.out.cell 2 rfl 2 rfl
            obtain ⟨rr, hal, hfl⟩ := HL.out j hl1 hl2
            have HAL := Lib.hid (hal wr.drew hU.out.isBelow.drew)
            have HT := Lib.hid (fun h : fl j = true => (anyTo_iff (f := fl)).2 ⟨j, hlt, h⟩)
            have HN : Hid (fl j = false → ∀ i, i < j + 1 → fl i = false) := fun h i hi => by
              by_cases hij : i = j
              · subst hij; exact h
              · exact hf.out i (by omega)
            generalize lst1[j] = i1 at *
            generalize lst2[j] = i2 at *
            generalize fl j = fj at *
            subst hfl
            clear hal
            go_wp2_with fail
            go_region_held3 (fun w' => w'.cell? ⟨b7, 2, none⟩ = some (.slice (some ⟨g1, 0, none⟩) nl lc1) ∧ w'.cell? ⟨b8, 2, none⟩ = some (.slice (some ⟨g2, 0, none⟩) nl lc2) ∧ w'.cell? ⟨g1, j, none⟩ = some (.int .i64 (i1 : Nat)) ∧ w'.cell? ⟨g2, j, none⟩ = some (.int .i64 (i2 : Nat))) (go_keep)
              (first | (go_at_call 55; refine HAL.out _ (fun w2 hb2 => ?_); have h2 := hU.out.drew.below hb2; have H2 := Lib.hid h2; have z0 := h2.cell 1 rfl 2 rfl; have z1 := h2.cell 2 rfl 2 rfl; have z2 := keepCell hb2 (show (World.cell? (World.drew _) _) = _ from d1); have z3 := keepCell hb2 (show (World.cell? (World.drew _) _) = _ from d2); clear h2 hb2))
            all_goals
              cases rr
              · have HT2 := Lib.hid (HT.out rfl)
                rw [HT2.out] at HR
                go_wp2_with fail
                exact HR.out _ H2.out.isBelow
              · have HN2 := Lib.hid (HN.out rfl)
                go_wp2_with fail
                go_roundw
                case rel => exact ⟨j + 1, by omega, by go_num, H2, HN2⟩
                case measure => simp [intOf]; omega
          · have hje : j = nl := by omega
            have HN : Hid (anyTo fl nl = false) := anyTo_false.2 (fun i hi => hf.out i (by omega))
            rw [HN.out, Bool.not_false, Bool.true_and] at HR
            clear hje
            have x0 := hU.out.cell 1 rfl 0 rfl
            have x3 := hU.out.cell 1 rfl 3 rfl
            have y3 := hU.out.cell 2 rfl 3 rfl
            rcases HO.out with ⟨⟨k1, k2⟩, rfl⟩ | ⟨k1 | ⟨k1, k2⟩, hal⟩
            · go_wp2_with fail
              exact HR.out _ hU.out.isBelow
            · have HAL := Lib.hid (hal wr hU.out.isBelow)
              clear hal
              go_wp2_with fail
              refine HAL.out _ (fun w2 hb2 => ?_)
              have H2 := Lib.hid (hU.out.below hb2)
              clear hb2
              go_wp2_with fail
              exact HR.out _ H2.out.isBelow
            · have HAL := Lib.hid (hal wr hU.out.isBelow)
              clear hal
              go_wp2_with fail
              refine HAL.out _ (fun w2 hb2 => ?_)
              have H2 := Lib.hid (hU.out.below hb2)
              clear hb2
              go_wp2_with fail
              exact HR.out _ H2.out.isBelow
end Go.Proofs.YtdlbhiaceheffaaGreatDoor

namespace Go.Proofs.YtdlbhiaceheffaaGreatDoor
open Go Go.RowKit
open Prt (Sat As blk pur exs star stars)
open Ty (Tr anyTo anyTo_iff anyTo_false)

theorem RalC.mono {v : Value} {w w1 : World} {a b : Nat} {r : Bool} (h : RalC v w a b r) (hb : Below w.heap.size w w1) : RalC v w1 a b r := fun w2 hb2 R hR => h w2 (hb.trans (hb2.mono hb.size)) R hR
/-- What a name of a type's fields says. -/
theorem fieldOf_den {ts : List Ty.Ty} {l : List (ByteArray × Nat)} (x : ByteArray) :
    (Ty.part (l.map Prod.fst) (l.map fun f => Ty.den ts f.2) x = none ∧ fieldOf l x = -1) ∨ ∃ n : Nat, fieldOf l x = n ∧ n ∈ l.map Prod.snd ∧ Ty.part (l.map Prod.fst) (l.map fun f => Ty.den ts f.2) x = some (Ty.den ts n) := by
  have e : (l.map fun f => Ty.den ts f.2) = (l.map Prod.snd).map (Ty.den ts) := by rw [List.map_map]; rfl
  rw [e, part_map, fieldOf_part]
  cases h : Ty.part (l.map Prod.fst) (l.map Prod.snd) x with
  | none => exact .inl ⟨rfl, rfl⟩
  | some n => exact .inr ⟨n, rfl, Ty.part_mem h, rfl⟩
theorem ofOf_den {ts : List Ty.Ty} {kd of : Nat} {names : List ByteArray} {parts list : List Tr} (h : kd = 8 ∨ kd = 9) : Ty.ofOf (.mk kd names parts list (if kd = 8 ∨ kd = 9 then [Ty.den ts of] else [])) = Ty.den ts of := by
  rw [if_pos h]; rfl
set_option maxRecDepth 100000 in
theorem refAlike_all (w : World) (v : Value) (rows : List TyRow) (ts : List Ty.Ty) (hts : rows.map TyRow.t = ts) (hw : Ty.Wf ts) (hlen : ts.length ≤ 1000000) (hrd : TyRd w v rows) : ∀ (N a b : Nat), a + b < N → a < ts.length → b < ts.length → RalC v w a b (Ty.alike (Ty.den ts a) (Ty.den ts b)) := by
  intro N
  induction N with
  | zero => intro a b h; omega
  | succ N ih =>
    intro a b hN ha hb w1 hw1 R hR
    obtain ⟨g, cap, x, rfl, hg, hcap, hcm, hx, hA, hfx, hlx⟩ := (hrd.below hw1).look hts ha
    obtain ⟨g2, cap2, y, e, _, _, _, hy, hB, hfy, hly⟩ := (hrd.below hw1).look hts hb
    cases e
    have wx := hw a _ hx
    have wy := hw b _ hy
    have da := Ty.den_eq hw hx
    have db := Ty.den_eq hw hy
    have oka := Ty.den_ok hw _ a (Nat.lt_succ_self _) ha
    have okb := Ty.den_ok hw _ b (Nat.lt_succ_self _) hb
    have hst := alike_mk (da ▸ oka) (db ▸ okb)
    rw [← da, ← db] at hst
    obtain ⟨⟨kd1, fds1, lst1, of1⟩, fv1, lv1⟩ := x
    obtain ⟨⟨kd2, fds2, lst2, of2⟩, fv2, lv2⟩ := y
    dsimp only at hfx hfy hlx hly wx wy hst da db
    simp only [List.length_map] at hst
    have lx := wx.lens
    have ly := wy.lens
    dsimp only at lx ly
    by_cases h1 : kd1 = kd2
    rotate_left
    · refine ral_out w1 g cap a b ts.length hg _ _ hlen ha hb hcap hA hB hfx hfy hlx hly (.inl h1) (fun w2 hb2 => ?_)
      have := hR w2 hb2; rw [hst] at this; simpa [h1] using this
    by_cases h2 : fds1.length = fds2.length
    rotate_left
    · refine ral_out w1 g cap a b ts.length hg _ _ hlen ha hb hcap hA hB hfx hfy hlx hly (.inr (.inl h2)) (fun w2 hb2 => ?_)
      have := hR w2 hb2; rw [hst] at this; simpa [h2] using this
    by_cases h3 : lst1.length = lst2.length
    rotate_left
    · refine ral_out w1 g cap a b ts.length hg _ _ hlen ha hb hcap hA hB hfx hfy hlx hly (.inr (.inr h3)) (fun w2 hb2 => ?_)
      have := hR w2 hb2; rw [hst] at this; simpa [h3] using this
    subst h1
    rw [decide_eq_true rfl, decide_eq_true h2, decide_eq_true h3, Bool.true_and, Bool.true_and, Bool.true_and] at hst
    have key : ∀ i j, i < a → j < b → RalC (.slice (some ⟨g, 0, none⟩) ts.length cap) w1 i j (Ty.alike (Ty.den ts i) (Ty.den ts j)) := fun i j hi hj => (ih i j (by omega) (by omega) (by omega)).mono hw1
    refine ral_main w1 g cap a b ts.length hg kd1 fds1.length lst1.length of1 of2 fds1 fds2 lst1 lst2 fv1 fv2 lv1 lv2 hlen ha hb hcap hA hB hfx hfy hlx hly rfl h2.symm rfl h3.symm lx.1 lx.2 (ro := (!decide (kd1 = 8 ∨ kd1 = 9) || Ty.alike (Ty.den ts of1) (Ty.den ts of2))) (fun j hj => ?_) (fun j hj hj2 => ?_) ?_ (fun w2 hb2 => ?_) (f := fun j => match Ty.part (fds2.map Prod.fst) (fds2.map fun f => Ty.den ts f.2) ((fds1.map Prod.fst).getD j ⟨#[]⟩) with | none => true | some t => !Ty.alike ((fds1.map fun f => Ty.den ts f.2).getD j Ty.nilT) t) (fl := fun j => !Ty.alike ((lst1.map (Ty.den ts)).getD j Ty.nilT) ((lst2.map (Ty.den ts)).getD j Ty.nilT))
    · have e1 : (fds1.map Prod.fst).getD j ⟨#[]⟩ = fds1[j].1 := by rw [getD_eq (by simpa using hj), List.getElem_map]
      have e2 : (fds1.map fun f => Ty.den ts f.2).getD j Ty.nilT = Ty.den ts fds1[j].2 := by rw [getD_eq (by simpa using hj), List.getElem_map]
      rw [e1, e2]
      rcases fieldOf_den (ts := ts) (l := fds2) fds1[j].1 with ⟨h4, h5⟩ | ⟨n, h4, h5, h6⟩
      · exact .inl ⟨h5, by rw [h4]⟩
      · refine .inr ⟨n, _, h4, key _ n (wx.fields _ (List.getElem_mem hj)) ?_, by rw [h6]⟩
        obtain ⟨f, hf, rfl⟩ := List.mem_map.1 h5
        exact wy.fields f hf
    · refine ⟨_, key _ _ (wx.list _ (List.getElem_mem hj)) (wy.list _ (List.getElem_mem hj2)), ?_⟩
      rw [getD_eq (by simpa using hj), getD_eq (by simpa using hj2), List.getElem_map, List.getElem_map]
    · by_cases h8 : kd1 = 8 ∨ kd1 = 9
      · right
        refine ⟨by simp; omega, ?_⟩
        rw [decide_eq_true h8, Bool.not_true, Bool.false_or]
        exact key _ _ (wx.of h8) (wy.of h8)
      · left
        exact ⟨by simp; omega, by simp [h8]⟩
    · have := hR w2 hb2
      rw [hst] at this
      have e3 : (!decide (kd1 = 8 ∨ kd1 = 9) || Ty.alike (Ty.ofOf (Tr.mk kd1 (fds1.map Prod.fst) (fds1.map fun f => Ty.den ts f.2) (lst1.map (Ty.den ts)) (if kd1 = 8 ∨ kd1 = 9 then [Ty.den ts of1] else []))) (Ty.ofOf (Tr.mk kd1 (fds2.map Prod.fst) (fds2.map fun f => Ty.den ts f.2) (lst2.map (Ty.den ts)) (if kd1 = 8 ∨ kd1 = 9 then [Ty.den ts of2] else [])))) = (!decide (kd1 = 8 ∨ kd1 = 9) || Ty.alike (Ty.den ts of1) (Ty.den ts of2)) := by
        by_cases h8 : kd1 = 8 ∨ kd1 = 9
        · rw [ofOf_den h8, ofOf_den h8]
        · simp [h8]
      rw [da, db, e3] at this
      rw [Bool.and_comm (!anyTo _ fds1.length)]
      exact this
end Go.Proofs.YtdlbhiaceheffaaGreatDoor
