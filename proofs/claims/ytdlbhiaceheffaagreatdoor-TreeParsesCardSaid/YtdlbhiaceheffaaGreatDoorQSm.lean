/- Walks of the reference's SameInts and SameTypes: where both hold the same. Walk of the reference's SameTypes: where both hold the same. Plain: what the two texts of treeBegun are read as. Walk of treeBegun. -/
import Derived.Test.YtdlbhiaceheffaaGreatDoorQTw
import Derived.Test.YtdlbhiaceheffaaGreatDoorQPeA
import Derived.BigQuiet
import Derived.Test.YtdlbhiaceheffaaGreatDoorQRf
import Derived.Test.YtdlbhiaceheffaaGreatDoorQEp
import Derived.Test.YtdlbhiaceheffaaGreatDoorQPeE
import Derived.Test.YtdlbhiaceheffaaGreatDoorQTt
namespace Go.Proofs.YtdlbhiaceheffaaGreatDoor
open Go Go.RowKit
open Prt (Sat As blk pur exs star stars)

set_option maxRecDepth 100000 in
theorem sameInts_any (w : World) (v1 v2 : Value) (l : List Nat) (h1 : w.ownsRow 0 3 1 v1 l.length (l.map inCell)) (h2 : w.ownsRow 0 3 1 v2 l.length (l.map inCell)) {R : Ending → World → Prop}
    (hR : ∀ w', Below w.heap.size w w' → R (.returned (.bool true)) w') : Calls Tryz.prog 40 #[v1, v2] w R := by
  have HR := Lib.hid hR
  obtain ⟨a1, c1, rfl⟩ := owns_slice h1
  obtain ⟨a2, c2, rfl⟩ := owns_slice h2
  have HB : Hid (∀ w', Below w.heap.size w w' → ∀ k (hk : k < l.length), ∃ g1 g2, a1 = some ⟨g1, 0, none⟩ ∧ a2 = some ⟨g2, 0, none⟩ ∧ w'.cell? ⟨g1, k, none⟩ = some (.int .i64 (l[k] : Nat)) ∧ w'.cell? ⟨g2, k, none⟩ = some (.int .i64 (l[k] : Nat))) := fun w' hb k hk => by
    have k1 := owns_below h1 hb
    have k2 := owns_below h2 hb
    obtain ⟨g1, _, e1, _, _⟩ := k1.form (by omega)
    obtain ⟨g2, _, e2, _, _⟩ := k2.form (by omega)
    cases e1; cases e2
    have x1 := World.ownsRow.cells (g := g1) k1 rfl k (.int .i64 (l[k] : Nat)) (by simp [inCell, hk])
    have x2 := World.ownsRow.cells (g := g2) k2 rfl k (.int .i64 (l[k] : Nat)) (by simp [inCell, hk])
    exact ⟨g1, g2, rfl, rfl, by rwa [Addr.add_lit, Nat.zero_add] at x1, by rwa [Addr.add_lit, Nat.zero_add] at x2⟩
  have hl1 : l.length ≤ c1 ∧ c1 ≤ maxLen := by
    rcases h1.2 with ⟨e, h0⟩ | ⟨g', cap', cur, e4, _, _, h5, h6, _⟩
    · simp only [Value.slice.injEq] at e; exact ⟨by omega, by unfold maxLen; omega⟩
    · simp only [Value.slice.injEq] at e4; exact ⟨by omega, by omega⟩
  have HN := Lib.hid hl1
  clear hR h1 h2 hl1
  go_enter Tryz.func40, Tryz.ntmps40
  go_wp2_with fail
  go_loopw [5] (fun i wr => ∃ k : Nat, k ≤ l.length ∧ i = .int .i64 k ∧ Hid (Below w.heap.size w wr)) (fun i _ => l.length - (intOf i).toNat)
  case atStart => exact ⟨0, by omega, rfl, Below.refl _ _⟩
  case round =>
    obtain ⟨k, hk, rfl, hb⟩ := hrel
    by_cases hlt : k < l.length
    · obtain ⟨g1, g2, rfl, rfl, x1, x2⟩ := HB.out wr hb.out k hlt
      have hsz := HN.out
      unfold maxLen at hsz
      generalize l[k] = n at *
      go_wp2_with fail
      go_quiet (fail)
      have HB2 := Lib.hid (below_drewN hb.out nq)
      go_wp2_with fail
      go_roundw
      case rel => exact ⟨k + 1, by omega, by go_num, HB2⟩
      case measure => simp [intOf]; omega
    · have e : k = l.length := by omega
      subst e
      go_wp2_with fail
      exact HR.out _ hb.out
end Go.Proofs.YtdlbhiaceheffaaGreatDoor

namespace Go.Proofs.YtdlbhiaceheffaaGreatDoor
open Go Go.RowKit
open Prt (Sat As blk pur exs star stars)

set_option maxRecDepth 100000 in
set_option maxHeartbeats 4000000 in
theorem sameTypes_any (w : World) (v1 v2 : Value) (rows1 rows2 : List TyRow) (hr : rows1.map TyRow.t = rows2.map TyRow.t) (hl : rows1.length ≤ 2000) (h1 : TyRd w v1 rows1) (h2 : TyRd w v2 rows2) {R : Ending → World → Prop}
    (hR : ∀ w', Below w.heap.size w w' → R (.returned (.bool true)) w') : Calls Tryz.prog 17 #[v1, v2] w R := by
  have HR := Lib.hid hR
  have hlen : rows2.length = rows1.length := by have := congrArg List.length hr; simpa using this.symm
  have HT : Hid (∀ k (hk : k < rows1.length) (hk2 : k < rows2.length), rows2[k].t = rows1[k].t) := fun k hk hk2 => by
    have e1 : (rows1.map TyRow.t)[k]? = some rows1[k].t := by rw [List.getElem?_map, List.getElem?_eq_getElem hk]; rfl
    rw [hr, List.getElem?_map, List.getElem?_eq_getElem hk2] at e1
    exact Option.some.inj e1
  obtain ⟨a1, c1, rfl⟩ := owns_slice h1.row
  obtain ⟨a2, c2, e2⟩ := owns_slice h2.row
  rw [hlen] at e2
  subst e2
  have HB : Hid (∀ w', Below w.heap.size w w' → ∀ k (hk : k < rows1.length), ∃ (g1 g2 : Nat) (t : Ty.Ty) (fv1 lv1 fv2 lv2 : Value), a1 = some ⟨g1, 0, none⟩ ∧ a2 = some ⟨g2, 0, none⟩ ∧ g1 < w'.heap.size ∧ g2 < w'.heap.size ∧ rows1.length ≤ c1 ∧ c1 ≤ maxLen ∧ rows1.length ≤ c2 ∧ c2 ≤ maxLen ∧
      RowAt w' g1 k ⟨t, fv1, lv1⟩ ∧ RowAt w' g2 k ⟨t, fv2, lv2⟩ ∧ w'.ownsRow 0 82 2 fv1 t.fields.length (t.fields.flatMap fdCells) ∧ w'.ownsRow 0 82 2 fv2 t.fields.length (t.fields.flatMap fdCells) ∧ w'.ownsRow 0 3 1 lv1 t.list.length (t.list.map inCell) ∧ w'.ownsRow 0 3 1 lv2 t.list.length (t.list.map inCell)) := fun w' hb k hk => by
    have k1 := h1.below hb
    have k2 := h2.below hb
    have hk2 : k < rows2.length := by omega
    obtain ⟨g1, cap1, e1, z1, m1, m2, q1⟩ := k1.at (by omega)
    obtain ⟨g2, cap2, e2, z2, m3, m4, q2⟩ := k2.at (by omega)
    cases e1
    rw [hlen] at e2 m3
    cases e2
    have b1 := k1.bits _ (List.getElem_mem hk)
    have b2 := k2.bits _ (List.getElem_mem hk2)
    have q1 := q1 k hk
    have q2 := q2 k hk2
    have ht := HT.out k hk hk2
    rw [ht] at q2 b2
    exact ⟨g1, g2, rows1[k].t, rows1[k].fv, rows1[k].lv, rows2[k].fv, rows2[k].lv, rfl, rfl, z1, z2, m1, m2, m3, m4, ⟨q1.1, q1.2.1, q1.2.2.1, q1.2.2.2⟩, ⟨q2.1, q2.2.1, q2.2.2.1, q2.2.2.2⟩, b1.1, b2.1, b1.2, b2.2⟩
  clear hR h1 h2 hr hlen HT
  generalize rows1.length = L at *
  go_enter Tryz.func17, Tryz.ntmps17
  go_wp2_with fail
  go_loopw [5] (fun i wr => ∃ k : Nat, k ≤ L ∧ i = .int .i64 k ∧ Hid (Below w.heap.size w wr)) (fun i _ => L - (intOf i).toNat)
  case atStart => exact ⟨0, by omega, rfl, Below.refl _ _⟩
  case round =>
    obtain ⟨k, hk, rfl, hb⟩ := hrel
    by_cases hlt : k < L
    · obtain ⟨g1, g2, ⟨kd, fds, lst, of⟩, fv1, lv1, fv2, lv2, rfl, rfl, hg1, hg2, m1, m2, m3, m4, ⟨q0, q1, q2, q3⟩, ⟨e0, e1, e2, e3⟩, hf1, hf2, hl1, hl2⟩ := HB.out wr hb.out k hlt
      dsimp only at q0 q1 q2 q3 e0 e1 e2 e3 hf1 hf2 hl1 hl2
      obtain ⟨fa1, fc1, rfl⟩ := owns_slice hf1
      obtain ⟨fa2, fc2, rfl⟩ := owns_slice hf2
      obtain ⟨la1, lc1, rfl⟩ := owns_slice hl1
      obtain ⟨la2, lc2, rfl⟩ := owns_slice hl2
      unfold maxLen at m2 m4
      have HFF : Hid (∀ w', Below wr.heap.size wr w' → ∀ m (hm : m < fds.length), ∃ u1 u2, fa1 = some ⟨u1, 0, none⟩ ∧ fa2 = some ⟨u2, 0, none⟩ ∧ w'.cell? ⟨u1, m * 2, none⟩ = some (.string fds[m].1) ∧ w'.cell? ⟨u1, m * 2 + 1, none⟩ = some (.int .i64 (fds[m].2 : Int)) ∧ w'.cell? ⟨u2, m * 2, none⟩ = some (.string fds[m].1) ∧ w'.cell? ⟨u2, m * 2 + 1, none⟩ = some (.int .i64 (fds[m].2 : Int)) ∧ fds.length ≤ fc1 ∧ fc1 ≤ maxLen) := fun w' hb m hm => by
        have k1 := owns_below hf1 hb
        have k2 := owns_below hf2 hb
        obtain ⟨u1, cc1, d1, _, _⟩ := k1.form (by omega)
        obtain ⟨u2, cc2, d2, _, _⟩ := k2.form (by omega)
        simp only [Value.slice.injEq] at d1 d2
        obtain ⟨rfl, _, rfl⟩ := d1
        obtain ⟨rfl, _, rfl⟩ := d2
        have key : ∀ (u : Nat) (i : Nat) (x : Value), i < 2 → (fdCells fds[m])[i]? = some x → (∀ cc, w'.ownsRow 0 82 2 (.slice (some ⟨u, 0, none⟩) fds.length cc) fds.length (fds.flatMap fdCells) → w'.cell? ⟨u, m * 2 + i, none⟩ = some x) := fun u i x hi hx cc ho => by
          have := World.ownsRow.cells (g := u) ho rfl (m * 2 + i) x (by rw [flat_get fdCells 2 (fun _ => rfl) fds m hm i hi]; exact hx)
          rwa [Addr.add_lit, Nat.zero_add] at this
        have l1 : fds.length ≤ fc1 ∧ fc1 ≤ maxLen := by
          rcases k1.2 with ⟨e, h0⟩ | ⟨g', cap', cur, e4, _, _, h5, h6, _⟩
          · omega
          · simp only [Value.slice.injEq] at e4; omega
        exact ⟨u1, u2, rfl, rfl, key u1 0 _ (by omega) rfl fc1 k1, key u1 1 _ (by omega) rfl fc1 k1, key u2 0 _ (by omega) rfl fc2 k2, key u2 1 _ (by omega) rfl fc2 k2, l1.1, l1.2⟩
      have HF1 := Lib.hid hf1
      have HF2 := Lib.hid hf2
      have HL1 := Lib.hid hl1
      have HL2 := Lib.hid hl2
      clear hf1 hf2 hl1 hl2
      go_upto_region 6 with fail
      go_cut [6, 7] (fun s7 s8 wx => ∃ b7 b8 : Nat, s7 = .pointer (some ⟨b7, 0, none⟩) ∧ s8 = .pointer (some ⟨b8, 0, none⟩) ∧ Hid (Sat wr wx [Prt.oldA wr, blk b7 (.cells #[.int .i64 kd, .slice fa1 fds.length fc1, .slice la1 lst.length lc1, .int .i64 of] 77 (0, 0)), blk b8 (.cells #[.int .i64 kd, .slice fa2 fds.length fc2, .slice la2 lst.length lc2, .int .i64 of] 77 (0, 0))]))
      case first =>
        go_region
        all_goals
          go_wp2_with fail
          go_meet
          first
            | exact ⟨_, _, rfl, rfl, (((Prt.Sat.old wr).allocAt _ wr.heap.size).allocAt _ (wr.heap.size + 1)).drew⟩
            | exact ⟨_, _, rfl, rfl, ((((Prt.Sat.old wr).allocAt _ wr.heap.size).allocAt _ (wr.heap.size + 1)).drew).pick [0, 2, 1]⟩
      case rest =>
        obtain ⟨b7, b8, rfl, rfl, hS⟩ := hcut
        have hbx := hS.out.isBelow
        have x0 := hS.out.cell 1 rfl 0 rfl
        have x1 := hS.out.cell 1 rfl 1 rfl
        have x2 := hS.out.cell 1 rfl 2 rfl
        have x3 := hS.out.cell 1 rfl 3 rfl
        have y0 := hS.out.cell 2 rfl 0 rfl
        have y1 := hS.out.cell 2 rfl 1 rfl
        have y2 := hS.out.cell 2 rfl 2 rfl
        have y3 := hS.out.cell 2 rfl 3 rfl
        have HI := Lib.hid (fun R hR => sameInts_any _ _ _ lst (owns_below HL1.out hbx) (owns_below HL2.out hbx) (R := R) hR)
        clear q0 q1 q2 q3 e0 e1 e2 e3 hbx
        go_wp2_with fail
        refine HI.out _ (fun w4 hb4 => ?_)
        have h4 := hS.out.below hb4
        have z1 := h4.cell 1 rfl 1 rfl
        have z2 := h4.cell 2 rfl 1 rfl
        have H4 := Lib.hid h4
        clear hb4 h4 x0 x1 x2 x3 y0 y1 y2 y3 hS
        go_wp2_with fail
        go_loopw [8] (fun i w5 => ∃ m : Nat, m ≤ fds.length ∧ i = .int .i64 m ∧ Hid (Sat wr w5 [Prt.oldA wr, blk b7 (.cells #[.int .i64 kd, .slice fa1 fds.length fc1, .slice la1 lst.length lc1, .int .i64 of] 77 (0, 0)), blk b8 (.cells #[.int .i64 kd, .slice fa2 fds.length fc2, .slice la2 lst.length lc2, .int .i64 of] 77 (0, 0))])) (fun i _ => fds.length - (intOf i).toNat)
        case atStart => exact ⟨0, by omega, rfl, H4.out⟩
        case round =>
          obtain ⟨m, hm, rfl, hS5⟩ := hrel
          have x1 := hS5.out.cell 1 rfl 1 rfl
          have y1 := hS5.out.cell 2 rfl 1 rfl
          by_cases hlm : m < fds.length
          · obtain ⟨u1, u2, rfl, rfl, p0, p1, p2, p3, hu1, hu2⟩ := HFF.out _ hS5.out.isBelow m hlm
            unfold maxLen at hu2
            generalize fds[m] = fd at *
            obtain ⟨fx, fn⟩ := fd
            dsimp only at p0 p1 p2 p3
            go_wp2_with fail
            go_quiet (fail)
            have h6 := hS5.out.below (below_drewN (Below.refl _ _) nq)
            have H6 := Lib.hid h6
            clear h6
            go_wp2_with fail
            go_roundw
            case rel => exact ⟨m + 1, by omega, by go_num, H6.out⟩
            case measure => simp [intOf]; omega
          · have e : m = fds.length := by omega
            subst e
            go_wp2_with fail
            go_roundw
            case rel => exact ⟨k + 1, by omega, by go_num, hb.out.trans (hS5.out.isBelow.mono hb.out.size)⟩
            case measure => simp [intOf]; omega
    · have e : k = L := by omega
      subst e
      go_wp2_with fail
      exact HR.out _ hb.out
end Go.Proofs.YtdlbhiaceheffaaGreatDoor

namespace Go.Proofs.YtdlbhiaceheffaaGreatDoor
namespace Ty
def beg1 : ByteArray := ⟨#[108, 101, 116, 32, 120, 32, 61, 32, 49, 59, 32, 120, 32, 61, 32, 120, 32, 43, 32, 50, 59]⟩
def beg2 : ByteArray := ⟨#[110, 117, 109, 32, 124, 32, 116, 101, 120, 116]⟩
def sum1 : Except Ft Pg → Option (Nat × Nat × Nat) := fun r => match r with | .ok p => some (p.ns.length, p.main, ((p.ns[5]?).map Nd.kind).getD 0) | .error _ => none
def sum2 : Except Ft (List Ty) → Option (Nat × Nat) := fun r => match r with | .ok p => some (p.length, ((p[2]?).map Ty.kind).getD 0) | .error _ => none
theorem beg1_sum : sum1 (parse beg1) = some (7, 6, 18) := by decide +kernel
theorem beg2_sum : sum2 (typeOf beg2) = some (3, 10) := by decide +kernel
end Ty
end Go.Proofs.YtdlbhiaceheffaaGreatDoor

namespace Go.Proofs.YtdlbhiaceheffaaGreatDoor
open Go Go.RowKit
open Prt (Sat As blk pur exs star stars)

theorem beg1_ok {pg : Ty.Pg} (h : Ty.parse Ty.beg1 = .ok pg) : pg.ns.length = 7 ∧ pg.main = 6 ∧ ∃ h5 : 5 < pg.ns.length, pg.ns[5].kind = 18 := by
  have := Ty.beg1_sum
  rw [h] at this
  simp only [Ty.sum1, Option.some.injEq, Prod.mk.injEq] at this
  obtain ⟨h1, h2, h3⟩ := this
  have h5 : 5 < pg.ns.length := by omega
  rw [List.getElem?_eq_getElem h5] at h3
  exact ⟨h1, h2, h5, h3⟩
theorem beg1_no {f : Ty.Ft} (h : Ty.parse Ty.beg1 = .error f) : False := by
  have := Ty.beg1_sum; rw [h] at this; simp [Ty.sum1] at this
theorem beg2_ok {ts : List Ty.Ty} (h : Ty.typeOf Ty.beg2 = .ok ts) : ts.length = 3 ∧ ∃ h2 : 2 < ts.length, ts[2].kind = 10 := by
  have := Ty.beg2_sum
  rw [h] at this
  simp only [Ty.sum2, Option.some.injEq, Prod.mk.injEq] at this
  obtain ⟨h1, h3⟩ := this
  have h5 : 2 < ts.length := by omega
  rw [List.getElem?_eq_getElem h5] at h3
  exact ⟨h1, h5, h3⟩
theorem beg2_no {f : Ty.Ft} (h : Ty.typeOf Ty.beg2 = .error f) : False := by
  have := Ty.beg2_sum; rw [h] at this; simp [Ty.sum2] at this
set_option maxRecDepth 100000 in
set_option maxHeartbeats 2000000 in
theorem treeBegun_any (w : World) (hw : Words w) {R : Ending → World → Prop} (hR : ∀ w', Below w.heap.size w w' → R (.returned (.bool true)) w') :
    Calls Tryz.prog 13 #[] w R := by
  have HR := Lib.hid hR
  have HW := Lib.hid hw
  clear hR hw
  go_enter Tryz.func13, Tryz.ntmps13
  go_wp2_with fail
  refine Parse_any (Prt.Sat.old w) Ty.beg1 HW.out (by decide) (fun pg nv tv w1 hp h1 => ?_) (fun f w1 hp h1 => (beg1_no hp).elim)
  obtain ⟨hn7, hm6, h5, hk⟩ := beg1_ok hp
  obtain ⟨rows, hr, hrd⟩ := h1.rdNodes 1 rfl
  obtain ⟨g, cap, lv, rfl, hg, hc1, hc2, hA, hbb⟩ := hrd.look hr h5
  obtain ⟨trows, htr, htrd⟩ := h1.tyRd 2 rfl
  obtain ⟨ta, tc, rfl⟩ := owns_slice htrd.row
  have q0 := hA.q0
  rw [hk] at q0
  rw [hn7] at hc1
  rw [hn7, hm6]
  have H1 := Lib.hid ((h1.allocAt (.cells #[.slice (some ⟨g, 0, none⟩) 7 cap, .slice ta trows.length tc, .int .i64 6] 33) w1.heap.size).allocAt (.cells #[.int .i64 0, .int .i64 0] 25) (w1.heap.size + 1))
  have HPG : Hid (∃ h5 : 5 < pg.ns.length, pg.ns[5].kind = 18) := ⟨h5, hk⟩
  have HN7 := Lib.hid hn7
  have HTR := Lib.hid htr
  clear hp h1 hm6 hr hrd hA htrd q0 hk htr
  clear hbb
  clear h5 hn7
  dsimp only [ftVal]
  go_wp2_with fail
  refine Type_any (Prt.Sat.pack (L := []) H1.out) Ty.beg2 (HW.out.below H1.out.isBelow) (by decide) (fun ts v w2 ht h2 => ?_) (fun f w2 ht h2 => (beg2_no ht).elim)
  obtain ⟨hn3, t2, hk2⟩ := beg2_ok ht
  have h2u := h2.unpack (i := 0) rfl
  have h3 := h2u.allocAt (.cells #[.int .i64 0, .int .i64 0] 25) w2.heap.size
  obtain ⟨nrows, hr, hrd⟩ := h2u.rdNodes 2 rfl
  obtain ⟨n5, hk5⟩ := HPG.out
  obtain ⟨g', cap', lv', e, hg', _, _, hA, _⟩ := hrd.look hr n5
  have e' := e
  rw [HN7.out] at e'
  simp only [Value.slice.injEq] at e'
  obtain ⟨e1, _, _⟩ := e'
  have q0 := hA.q0
  rw [hk5] at q0
  obtain ⟨ty, htr2, htrd2⟩ := h2u.tyRd 0 rfl
  obtain ⟨g2, cap2, tr, rfl, hg2, hc3, hc4, hget, hRA, _⟩ := htrd2.look htr2 t2
  have r0 := hRA.q0
  have ekd : tr.t.kind = 10 := by
    rw [List.getElem?_eq_getElem t2] at hget
    rw [← Option.some.inj hget]; exact hk2
  rw [ekd] at r0
  rw [hn3] at hc3
  rw [hn3]
  have x0 := h3.cell 4 rfl 0 rfl
  have x1 := h3.cell 4 rfl 1 rfl
  have x2 := h3.cell 4 rfl 2 rfl
  have y0 := h3.cell 5 rfl 0 rfl
  have z0 := h3.cell 6 rfl 0 rfl
  have H3 := Lib.hid (h3.pick [1, 0])
  obtain rfl : g = g' := by simpa using e1
  have q0 : w2.cell? ⟨g, 45, none⟩ = some (.int .i64 18) := q0
  have r0 : w2.cell? ⟨g2, 8, none⟩ = some (.int .i64 10) := r0
  unfold maxLen at hc4 hc2
  clear ht h2 h2u h3 hr hrd hA htr2 htrd2 hget hRA ekd hk2 hn3 hk5 e
  dsimp only [ftVal]
  go_wp2_with fail
  exact HR.out _ H3.out.isBelow
end Go.Proofs.YtdlbhiaceheffaaGreatDoor
