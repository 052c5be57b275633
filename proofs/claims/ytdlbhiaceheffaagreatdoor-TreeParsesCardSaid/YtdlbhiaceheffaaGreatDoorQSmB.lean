/- Walk of the reference's SameNodes: where both hold the same. Walk of the reference's SameProgram: where both hold the same. -/
import Derived.Test.YtdlbhiaceheffaaGreatDoorQSm
import Derived.Deep.RegionLaw
namespace Go.Proofs.YtdlbhiaceheffaaGreatDoor
open Go Go.RowKit
open Prt (Sat As blk pur exs star stars)

set_option maxRecDepth 100000 in
set_option maxHeartbeats 8000000 in
theorem sameNodes_any (w : World) (v1 v2 : Value) (rows1 rows2 : List NdRow) (hr : rows1.map NdRow.t = rows2.map NdRow.t) (hl : rows1.length ≤ 2000) (h1 : NRd w v1 rows1) (h2 : NRd w v2 rows2) {R : Ending → World → Prop}
    (hR : ∀ w', Below w.heap.size w w' → R (.returned (.bool true)) w') : Calls Tryz.prog 36 #[v1, v2, .bool true] w R := by
  have HR := Lib.hid hR
  have hlen : rows2.length = rows1.length := by have := congrArg List.length hr; simpa using this.symm
  obtain ⟨a1, c1, rfl⟩ := owns_slice h1.row
  obtain ⟨a2, c2, e2⟩ := owns_slice h2.row
  rw [hlen] at e2
  subst e2
  have HB : Hid (∀ w', Below w.heap.size w w' → ∀ k (hk : k < rows1.length), ∃ (g1 g2 : Nat) (t : Ty.Nd) (lv1 lv2 : Value), a1 = some ⟨g1, 0, none⟩ ∧ a2 = some ⟨g2, 0, none⟩ ∧ g1 < w'.heap.size ∧ g2 < w'.heap.size ∧ rows1.length ≤ c1 ∧ c1 ≤ maxLen ∧ rows1.length ≤ c2 ∧ c2 ≤ maxLen ∧
      NdAt w' g1 k t lv1 ∧ NdAt w' g2 k t lv2 ∧ w'.ownsRow 0 3 1 lv1 t.list.length (t.list.map inCell) ∧ w'.ownsRow 0 3 1 lv2 t.list.length (t.list.map inCell)) := fun w' hb k hk => by
    have k1 := h1.below hb
    have k2 := h2.below hb
    have hl1 : (rows1.map NdRow.t).length = rows1.length := by simp
    obtain ⟨g1, cap1, lv1, e1, z1, m1, m2, q1, b1⟩ := k1.look rfl (n := k) (by simpa using hk)
    obtain ⟨g2, cap2, lv2, e2, z2, m3, m4, q2, b2⟩ := k2.look hr.symm (n := k) (by simpa using hk)
    rw [hl1] at e1 e2 m1 m3
    cases e1
    cases e2
    exact ⟨g1, g2, _, lv1, lv2, rfl, rfl, z1, z2, m1, m2, m3, m4, q1, q2, b1, b2⟩
  clear hR h1 h2 hr hlen
  generalize rows1.length = L at *
  go_enter Tryz.func36, Tryz.ntmps36
  go_wp2_with fail
  go_loopw [7] (fun i wr => ∃ k : Nat, k ≤ L ∧ i = .int .i64 k ∧ Hid (Below w.heap.size w wr)) (fun i _ => L - (intOf i).toNat)
  case atStart => exact ⟨0, by omega, rfl, Below.refl _ _⟩
  case round =>
    obtain ⟨k, hk, rfl, hb⟩ := hrel
    by_cases hlt : k < L
    · obtain ⟨g1, g2, ⟨kd, fa, fb, fc, fl, tx, fn, fty, ps⟩, lv1, lv2, rfl, rfl, hg1, hg2, m1, m2, m3, m4, ⟨q0, q1, q2, q3, q4, q5, q6, q7, q8⟩, ⟨e0, e1, e2, e3, e4, e5, e6, e7, e8⟩, hl1, hl2⟩ := HB.out wr hb.out k hlt
      dsimp only at q0 q1 q2 q3 q4 q5 q6 q7 q8 e0 e1 e2 e3 e4 e5 e6 e7 e8 hl1 hl2
      obtain ⟨la1, lc1, rfl⟩ := owns_slice hl1
      obtain ⟨la2, lc2, rfl⟩ := owns_slice hl2
      unfold maxLen at m2 m4
      have HL1 := Lib.hid hl1
      have HL2 := Lib.hid hl2
      clear hl1 hl2
      go_upto_region 6 with fail
      go_cut [8, 9] (fun s7 s8 wx => ∃ b7 b8 : Nat, s7 = .pointer (some ⟨b7, 0, none⟩) ∧ s8 = .pointer (some ⟨b8, 0, none⟩) ∧ Hid (Sat wr wx [Prt.oldA wr, blk b7 (.cells #[.int .i64 kd, .int .i64 fa, .int .i64 fb, .int .i64 fc, .slice la1 fl.length lc1, .string tx, .int .i64 fn, .int .i64 fty, .int .i64 ps] 74 (0, 0)), blk b8 (.cells #[.int .i64 kd, .int .i64 fa, .int .i64 fb, .int .i64 fc, .slice la2 fl.length lc2, .string tx, .int .i64 fn, .int .i64 fty, .int .i64 ps] 74 (0, 0))]))
      case first =>
        go_region
        all_goals
          go_wp2_with fail
          go_meet
          first
            | exact ⟨_, _, rfl, rfl, (((Prt.Sat.old wr).allocAt _ wr.heap.size).allocAt _ (wr.heap.size + 1)).drew⟩
            | exact ⟨_, _, rfl, rfl, ((((Prt.Sat.old wr).allocAt _ wr.heap.size).allocAt _ (wr.heap.size + 1)).drew).pick [0, 2, 1]⟩
      case rest =>
        obtain ⟨b7, b8, rfl, rfl, hS⟩ := hcut
        have hbx := hS.out.isBelow
        have x0 := hS.out.cell 1 rfl 0 rfl
        have y0 := hS.out.cell 2 rfl 0 rfl
        have x1 := hS.out.cell 1 rfl 1 rfl
        have y1 := hS.out.cell 2 rfl 1 rfl
        have x2 := hS.out.cell 1 rfl 2 rfl
        have y2 := hS.out.cell 2 rfl 2 rfl
        have x3 := hS.out.cell 1 rfl 3 rfl
        have y3 := hS.out.cell 2 rfl 3 rfl
        have x4 := hS.out.cell 1 rfl 4 rfl
        have y4 := hS.out.cell 2 rfl 4 rfl
        have x5 := hS.out.cell 1 rfl 5 rfl
        have y5 := hS.out.cell 2 rfl 5 rfl
        have x6 := hS.out.cell 1 rfl 6 rfl
        have y6 := hS.out.cell 2 rfl 6 rfl
        have x7 := hS.out.cell 1 rfl 7 rfl
        have y7 := hS.out.cell 2 rfl 7 rfl
        have x8 := hS.out.cell 1 rfl 8 rfl
        have y8 := hS.out.cell 2 rfl 8 rfl
        have HI := Lib.hid (fun R hR => sameInts_any _ _ _ fl (owns_below HL1.out hbx) (owns_below HL2.out hbx) (R := R) hR)
        clear q0 q1 q2 q3 q4 q5 q6 q7 q8 e0 e1 e2 e3 e4 e5 e6 e7 e8 hbx
        go_wp2_with fail
        refine HI.out _ (fun w4 hb4 => ?_)
        have h4 := hS.out.below hb4
        have z5 := h4.cell 1 rfl 5 rfl
        have s5 := h4.cell 2 rfl 5 rfl
        have z6 := h4.cell 1 rfl 6 rfl
        have s6 := h4.cell 2 rfl 6 rfl
        have z7 := h4.cell 1 rfl 7 rfl
        have s7 := h4.cell 2 rfl 7 rfl
        have z8 := h4.cell 1 rfl 8 rfl
        have s8 := h4.cell 2 rfl 8 rfl
        have H4 := Lib.hid h4
        clear hb4 h4 x0 x1 x2 x3 x4 x5 x6 x7 x8 y0 y1 y2 y3 y4 y5 y6 y7 y8 hS
        go_wp2_with fail
        go_roundw
        case rel => exact ⟨k + 1, by omega, by go_num, hb.out.trans (H4.out.isBelow.mono hb.out.size)⟩
        case measure => simp [intOf]; omega
    · have e : k = L := by omega
      subst e
      go_wp2_with fail
      exact HR.out _ hb.out
end Go.Proofs.YtdlbhiaceheffaaGreatDoor

namespace Go.Proofs.YtdlbhiaceheffaaGreatDoor
open Go Go.RowKit
open Prt (Sat As blk pur exs star stars)

set_option maxRecDepth 100000 in
set_option maxHeartbeats 2000000 in
theorem sameProgram_any (w : World) (n1 t1 n2 t2 : Value) (nr1 nr2 : List NdRow) (tr1 tr2 : List TyRow) (m : Int) (hn : nr1.map NdRow.t = nr2.map NdRow.t) (ht : tr1.map TyRow.t = tr2.map TyRow.t) (hln : nr1.length ≤ 2000) (hlt : tr1.length ≤ 2000)
    (hn1 : NRd w n1 nr1) (hn2 : NRd w n2 nr2) (ht1 : TyRd w t1 tr1) (ht2 : TyRd w t2 tr2) {R : Ending → World → Prop} (hR : ∀ w', Below w.heap.size w w' → R (.returned (.bool true)) w') :
    Calls Tryz.prog 14 #[.agg #[n1, t1, .int .i64 m], .agg #[n2, t2, .int .i64 m], .bool true] w R := by
  have HR := Lib.hid hR
  have hl2 : nr2.length = nr1.length := by have := congrArg List.length hn; simpa using this.symm
  have hl3 : tr2.length = tr1.length := by have := congrArg List.length ht; simpa using this.symm
  obtain ⟨a1, c1, rfl⟩ := owns_slice hn1.row
  obtain ⟨a2, c2, rfl⟩ := owns_slice hn2.row
  obtain ⟨b1, d1, rfl⟩ := owns_slice ht1.row
  obtain ⟨b2, d2, rfl⟩ := owns_slice ht2.row
  have HT := Lib.hid (fun w2 (hb : Below w.heap.size w w2) R hR => sameTypes_any w2 _ _ tr1 tr2 ht hlt (ht1.below hb) (ht2.below hb) (R := R) hR)
  have HN := Lib.hid (fun w2 (hb : Below w.heap.size w w2) R hR => sameNodes_any w2 _ _ nr1 nr2 hn hln (hn1.below hb) (hn2.below hb) (R := R) hR)
  clear hR hn ht hn1 hn2 ht1 ht2 hl2 hl3
  have h1 := ((Prt.Sat.old w).allocAt (.cells #[.slice a1 nr1.length c1, .slice b1 tr1.length d1, .int .i64 m] 33) w.heap.size).allocAt (.cells #[.slice a2 nr2.length c2, .slice b2 tr2.length d2, .int .i64 m] 33) (w.heap.size + 1)
  have H1 := Lib.hid h1
  clear h1
  go_enter Tryz.func14, Tryz.ntmps14
  go_wp2_with fail
  refine HT.out _ H1.out.isBelow _ (fun w2 hb2 => ?_)
  have h2 := H1.out.below hb2
  have x0 := h2.cell 1 rfl 0 rfl
  have y0 := h2.cell 2 rfl 0 rfl
  have H2 := Lib.hid h2
  clear hb2 h2
  go_wp2_with fail
  refine HN.out _ H2.out.isBelow _ (fun w3 hb3 => ?_)
  have H3 := Lib.hid (H2.out.below hb3)
  clear hb3
  go_wp2_with fail
  exact HR.out _ H3.out.isBelow
end Go.Proofs.YtdlbhiaceheffaaGreatDoor
