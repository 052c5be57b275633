/- Walk of showBegun. Plain: what the two texts of treeBegun are read as. Walk of treeBegun. Walks of the reference's SameInts and SameTypes: where both hold the same. Walk of the reference's SameTypes: where both hold the same. Plain: a type that was printed is scanned to its tokens. Plain: the tokens of a type are read as it. Plain: a printed type that is read at all is read as it was. -/
import Derived.BigQuiet
import Derived.Test.YtdlbhiaceheffabGreatDoorS29
set_option linter.all false
set_option maxRecDepth 100000
set_option maxHeartbeats 4000000
namespace Go.Proofs.YtdlbhiaceheffabGreatDoor
section
open Go Go.RowKit
open Prt (Sat As blk pur exs star stars)
theorem showBegun_any (w : World) (hw : Words w) (hpw : Pow w) {R : Ending → World → Prop} (hR : ∀ w', Below w.heap.size w w' → R (.returned (.bool true)) w') :
   Calls Tryz.prog 12 #[] w R := by
 have HR := qh hR
 have HW := qh hw
 have HPW := qh hpw
 clear hR hw hpw
 go_enter Tryz.func12, Tryz.ntmps12
 go_wp2_with fail
 refine Print_any (FrB.old w) (Prt.Sat.old w) Ty.beg3 HW.out HPW.out (by decide) Ty.beg3l (fun pg h => (Ty.beg3_ok h).1) (fun pg w1 hp hl h1 => ?_) (fun pg w1 hp hl h1 => ?_) (fun f w1 hp h1 => (Ty.beg3_no hp).elim)
 rotate_left
 · rw [(Ty.beg3_ok hp).2, Ty.beg3_text] at hl; simp at hl
 rw [(Ty.beg3_ok hp).2, Ty.beg3_text]
 have h2 := h1.allocAt (.cells #[.int .i64 0, .int .i64 0] 25) w1.heap.size
 have H2 := qh h2
 clear hp hl h1 h2
 rw [show bs [108, 101, 116, 32, 120, 32, 61, 32, 40, 49, 32, 43, 32, 50, 41, 32, 42, 32, 51, 59, 10] = ⟨#[108, 101, 116, 32, 120, 32, 61, 32, 40, 49, 32, 43, 32, 50, 41, 32, 42, 32, 51, 59, 10]⟩ from rfl]
 dsimp only [ftVal]
 go_wp2_with fail
 refine ShowType_any (Prt.Sat.pack (L := []) H2.out) Ty.beg4 (HW.out.below H2.out.isBelow) (by decide) (fun ts w2 ht h3 => ?_) (fun f w2 ht h3 => (Ty.beg4_no ht).elim)
 rw [Ty.beg4_text ht]
 have h4 := (h3.unpack (i := 0) rfl).allocAt (.cells #[.int .i64 0, .int .i64 0] 25) w2.heap.size
 have x0 := h4.cell 1 rfl 0 rfl
 have x1 := h4.cell 1 rfl 1 rfl
 have H4 := qh h4
 clear ht h3 h4
 rw [show bs [110, 117, 109, 32, 124, 32, 116, 101, 120, 116] = ⟨#[110, 117, 109, 32, 124, 32, 116, 101, 120, 116]⟩ from rfl]
 dsimp only [ftVal]
 go_wp2_with fail
 exact HR.out _ H4.out.isBelow
end
section
namespace Ty
def beg1 : ByteArray := ⟨#[108, 101, 116, 32, 120, 32, 61, 32, 49, 59, 32, 120, 32, 61, 32, 120, 32, 43, 32, 50, 59]⟩
def beg2 : ByteArray := ⟨#[110, 117, 109, 32, 124, 32, 116, 101, 120, 116]⟩
def sum1 : Except Ft Pg → Option (Nat × Nat × Nat) := fun r => match r with | .ok p => some (p.ns.length, p.main, ((p.ns[5]?).map Nd.kind).getD 0) | .error _ => none
def sum2 : Except Ft (List Ty) → Option (Nat × Nat) := fun r => match r with | .ok p => some (p.length, ((p[2]?).map Ty.kind).getD 0) | .error _ => none
theorem beg1_sum : sum1 (parse beg1) = some (7, 6, 18) := by decide +kernel
theorem beg2_sum : sum2 (typeOf beg2) = some (3, 10) := by decide +kernel
end Ty
end
section
open Go Go.RowKit
open Prt (Sat As blk pur exs star stars)
theorem beg1_ok {pg : Ty.Pg} (h : Ty.parse Ty.beg1 = .ok pg) : pg.ns.length = 7 ∧ pg.main = 6 ∧ ∃ h5 : 5 < pg.ns.length, pg.ns[5].kind = 18 := by
 have := Ty.beg1_sum
 rw [h] at this
 simp only [Ty.sum1, Option.some.injEq, Prod.mk.injEq] at this
 obtain ⟨h1, h2, h3⟩ := this
 have h5 : 5 < pg.ns.length := by omega
 rw [List.getElem?_eq_getElem h5] at h3
 exact ⟨h1, h2, h5, h3⟩
theorem beg1_no {f : Ty.Ft} (h : Ty.parse Ty.beg1 = .error f) : False := by
 have := Ty.beg1_sum; rw [h] at this; simp [Ty.sum1] at this
theorem beg2_ok {ts : List Ty.Ty} (h : Ty.typeOf Ty.beg2 = .ok ts) : ts.length = 3 ∧ ∃ h2 : 2 < ts.length, ts[2].kind = 10 := by
 have := Ty.beg2_sum
 rw [h] at this
 simp only [Ty.sum2, Option.some.injEq, Prod.mk.injEq] at this
 obtain ⟨h1, h3⟩ := this
 have h5 : 2 < ts.length := by omega
 rw [List.getElem?_eq_getElem h5] at h3
 exact ⟨h1, h5, h3⟩
theorem beg2_no {f : Ty.Ft} (h : Ty.typeOf Ty.beg2 = .error f) : False := by
 have := Ty.beg2_sum; rw [h] at this; simp [Ty.sum2] at this
theorem treeBegun_any (w : World) (hw : Words w) {R : Ending → World → Prop} (hR : ∀ w', Below w.heap.size w w' → R (.returned (.bool true)) w') :
   Calls Tryz.prog 13 #[] w R := by
 have HR := qh hR
 have HW := qh hw
 clear hR hw
 go_enter Tryz.func13, Tryz.ntmps13
 go_wp2_with fail
 refine Parse_any (Prt.Sat.old w) Ty.beg1 HW.out (by decide) (fun pg nv tv w1 hp h1 => ?_) (fun f w1 hp h1 => (beg1_no hp).elim)
 obtain ⟨hn7, hm6, h5, hk⟩ := beg1_ok hp
 obtain ⟨rows, hr, hrd⟩ := h1.rdNodes 1 rfl
 obtain ⟨g, cap, lv, rfl, hg, hc1, hc2, hA, hbb⟩ := hrd.look hr h5
 obtain ⟨trows, htr, htrd⟩ := h1.tyRd 2 rfl
 obtain ⟨ta, tc, rfl⟩ := owns_slice htrd.row
 have q0 := hA.q0
 rw [hk] at q0
 rw [hn7] at hc1
 rw [hn7, hm6]
 have H1 := qh ((h1.allocAt (.cells #[.slice (some ⟨g, 0, none⟩) 7 cap, .slice ta trows.length tc, .int .i64 6] 31) w1.heap.size).allocAt (.cells #[.int .i64 0, .int .i64 0] 25) (w1.heap.size + 1))
 have HPG : Hid (∃ h5 : 5 < pg.ns.length, pg.ns[5].kind = 18) := ⟨h5, hk⟩
 have HN7 := qh hn7
 have HTR := qh htr
 clear hp h1 hm6 hr hrd hA htrd q0 hk htr
 clear hbb
 clear h5 hn7
 dsimp only [ftVal]
 go_wp2_with fail
 refine Type_any (Prt.Sat.pack (L := []) H1.out) Ty.beg2 (HW.out.below H1.out.isBelow) (by decide) (fun ts v w2 ht h2 => ?_) (fun f w2 ht h2 => (beg2_no ht).elim)
 obtain ⟨hn3, t2, hk2⟩ := beg2_ok ht
 have h2u := h2.unpack (i := 0) rfl
 have h3 := h2u.allocAt (.cells #[.int .i64 0, .int .i64 0] 25) w2.heap.size
 obtain ⟨nrows, hr, hrd⟩ := h2u.rdNodes 2 rfl
 obtain ⟨n5, hk5⟩ := HPG.out
 obtain ⟨g', cap', lv', e, hg', _, _, hA, _⟩ := hrd.look hr n5
 have e' := e
 rw [HN7.out] at e'
 simp only [Value.slice.injEq] at e'
 obtain ⟨e1, _, _⟩ := e'
 have q0 := hA.q0
 rw [hk5] at q0
 obtain ⟨ty, htr2, htrd2⟩ := h2u.tyRd 0 rfl
 obtain ⟨g2, cap2, tr, rfl, hg2, hc3, hc4, hget, hRA, _⟩ := htrd2.look htr2 t2
 have r0 := hRA.q0
 have ekd : tr.t.kind = 10 := by
   rw [List.getElem?_eq_getElem t2] at hget
   rw [← Option.some.inj hget]; exact hk2
 rw [ekd] at r0
 rw [hn3] at hc3
 rw [hn3]
 have x0 := h3.cell 4 rfl 0 rfl
 have x1 := h3.cell 4 rfl 1 rfl
 have x2 := h3.cell 4 rfl 2 rfl
 have y0 := h3.cell 5 rfl 0 rfl
 have z0 := h3.cell 6 rfl 0 rfl
 have H3 := qh (h3.pick [1, 0])
 obtain rfl : g = g' := by simpa using e1
 have q0 : w2.cell? ⟨g, 45, none⟩ = some (.int .i64 18) := q0
 have r0 : w2.cell? ⟨g2, 8, none⟩ = some (.int .i64 10) := r0
 unfold maxLen at hc4 hc2
 clear ht h2 h2u h3 hr hrd hA htr2 htrd2 hget hRA ekd hk2 hn3 hk5 e
 dsimp only [ftVal]
 go_wp2_with fail
 exact HR.out _ H3.out.isBelow
end
section
open Go Go.RowKit
open Prt (Sat As blk pur exs star stars)
theorem sameInts_any (w : World) (v1 v2 : Value) (l : List Nat) (h1 : w.ownsRow 0 3 1 v1 l.length (l.map inCell)) (h2 : w.ownsRow 0 3 1 v2 l.length (l.map inCell)) {R : Ending → World → Prop}
   (hR : ∀ w', Below w.heap.size w w' → R (.returned (.bool true)) w') : Calls Tryz.prog 21 #[v1, v2] w R := by
 have HR := qh hR
 obtain ⟨a1, c1, rfl⟩ := owns_slice h1
 obtain ⟨a2, c2, rfl⟩ := owns_slice h2
 have HB : Hid (∀ w', Below w.heap.size w w' → ∀ k (hk : k < l.length), ∃ g1 g2, a1 = some ⟨g1, 0, none⟩ ∧ a2 = some ⟨g2, 0, none⟩ ∧ w'.cell? ⟨g1, k, none⟩ = some (.int .i64 (l[k] : Nat)) ∧ w'.cell? ⟨g2, k, none⟩ = some (.int .i64 (l[k] : Nat))) := fun w' hb k hk => by
   have k1 := owns_below h1 hb
   have k2 := owns_below h2 hb
   obtain ⟨g1, _, e1, _, _⟩ := k1.form (by omega)
   obtain ⟨g2, _, e2, _, _⟩ := k2.form (by omega)
   cases e1; cases e2
   have x1 := World.ownsRow.cells (g := g1) k1 rfl k (.int .i64 (l[k] : Nat)) (by simp [inCell, hk])
   have x2 := World.ownsRow.cells (g := g2) k2 rfl k (.int .i64 (l[k] : Nat)) (by simp [inCell, hk])
   exact ⟨g1, g2, rfl, rfl, by rwa [Addr.add_lit, Nat.zero_add] at x1, by rwa [Addr.add_lit, Nat.zero_add] at x2⟩
 have hl1 : l.length ≤ c1 ∧ c1 ≤ maxLen := by
   rcases h1.2 with ⟨e, h0⟩ | ⟨g', cap', cur, e4, _, _, h5, h6, _⟩
   · simp only [Value.slice.injEq] at e; exact ⟨by omega, by unfold maxLen; omega⟩
   · simp only [Value.slice.injEq] at e4; exact ⟨by omega, by omega⟩
 have HN := qh hl1
 clear hR h1 h2 hl1
 go_enter Tryz.func21, Tryz.ntmps21
 go_wp2_with fail
 go_loopw [5] (fun i wr => ∃ k : Nat, k ≤ l.length ∧ i = .int .i64 k ∧ Hid (Below w.heap.size w wr)) (fun i _ => l.length - (intOf i).toNat)
 case atStart => exact ⟨0, by omega, rfl, Below.refl _ _⟩
 case round =>
   obtain ⟨k, hk, rfl, hb⟩ := hrel
   by_cases hlt : k < l.length
   · obtain ⟨g1, g2, rfl, rfl, x1, x2⟩ := HB.out wr hb.out k hlt
     have hsz := HN.out
     unfold maxLen at hsz
     generalize l[k] = n at *
     go_wp2_with fail
     go_quiet (fail)
     have HB2 := qh (Go.below_drewN hb.out nq)
     go_wp2_with fail
     go_roundw
     case rel => exact ⟨k + 1, by omega, by go_num, HB2⟩
     case measure => simp [intOf]; omega
   · have e : k = l.length := by omega
     subst e
     go_wp2_with fail
     exact HR.out _ hb.out
end
section
open Go Go.RowKit
open Prt (Sat As blk pur exs star stars)
theorem sameTypes_any (w : World) (v1 v2 : Value) (rows1 rows2 : List TyRow) (hr : rows1.map TyRow.t = rows2.map TyRow.t) (hl : rows1.length ≤ 2000) (h1 : TyRd w v1 rows1) (h2 : TyRd w v2 rows2) {R : Ending → World → Prop}
   (hR : ∀ w', Below w.heap.size w w' → R (.returned (.bool true)) w') : Calls Tryz.prog 41 #[v1, v2] w R := by
 have HR := qh hR
 have hlen : rows2.length = rows1.length := by have := congrArg List.length hr; simpa using this.symm
 have HT : Hid (∀ k (hk : k < rows1.length) (hk2 : k < rows2.length), rows2[k].t = rows1[k].t) := fun k hk hk2 => by
   have e1 : (rows1.map TyRow.t)[k]? = some rows1[k].t := by rw [List.getElem?_map, List.getElem?_eq_getElem hk]; rfl
   rw [hr, List.getElem?_map, List.getElem?_eq_getElem hk2] at e1
   exact Option.some.inj e1
 obtain ⟨a1, c1, rfl⟩ := owns_slice h1.row
 obtain ⟨a2, c2, e2⟩ := owns_slice h2.row
 rw [hlen] at e2
 subst e2
 have HB : Hid (∀ w', Below w.heap.size w w' → ∀ k (hk : k < rows1.length), ∃ (g1 g2 : Nat) (t : Ty.Ty) (fv1 lv1 fv2 lv2 : Value), a1 = some ⟨g1, 0, none⟩ ∧ a2 = some ⟨g2, 0, none⟩ ∧ g1 < w'.heap.size ∧ g2 < w'.heap.size ∧ rows1.length ≤ c1 ∧ c1 ≤ maxLen ∧ rows1.length ≤ c2 ∧ c2 ≤ maxLen ∧
     RowAt w' g1 k ⟨t, fv1, lv1⟩ ∧ RowAt w' g2 k ⟨t, fv2, lv2⟩ ∧ w'.ownsRow 0 141 2 fv1 t.fields.length (t.fields.flatMap fdCells) ∧ w'.ownsRow 0 141 2 fv2 t.fields.length (t.fields.flatMap fdCells) ∧ w'.ownsRow 0 3 1 lv1 t.list.length (t.list.map inCell) ∧ w'.ownsRow 0 3 1 lv2 t.list.length (t.list.map inCell)) := fun w' hb k hk => by
   have k1 := h1.below hb
   have k2 := h2.below hb
   have hk2 : k < rows2.length := by omega
   obtain ⟨g1, cap1, e1, z1, m1, m2, q1⟩ := k1.at (by omega)
   obtain ⟨g2, cap2, e2, z2, m3, m4, q2⟩ := k2.at (by omega)
   cases e1
   rw [hlen] at e2 m3
   cases e2
   have b1 := k1.bits _ (List.getElem_mem hk)
   have b2 := k2.bits _ (List.getElem_mem hk2)
   have q1 := q1 k hk
   have q2 := q2 k hk2
   have ht := HT.out k hk hk2
   rw [ht] at q2 b2
   exact ⟨g1, g2, rows1[k].t, rows1[k].fv, rows1[k].lv, rows2[k].fv, rows2[k].lv, rfl, rfl, z1, z2, m1, m2, m3, m4, ⟨q1.1, q1.2.1, q1.2.2.1, q1.2.2.2⟩, ⟨q2.1, q2.2.1, q2.2.2.1, q2.2.2.2⟩, b1.1, b2.1, b1.2, b2.2⟩
 clear hR h1 h2 hr hlen HT
 generalize rows1.length = L at *
 go_enter Tryz.func41, Tryz.ntmps41
 go_wp2_with fail
 go_loopw [5] (fun i wr => ∃ k : Nat, k ≤ L ∧ i = .int .i64 k ∧ Hid (Below w.heap.size w wr)) (fun i _ => L - (intOf i).toNat)
 case atStart => exact ⟨0, by omega, rfl, Below.refl _ _⟩
 case round =>
   obtain ⟨k, hk, rfl, hb⟩ := hrel
   by_cases hlt : k < L
   · obtain ⟨g1, g2, ⟨kd, fds, lst, of⟩, fv1, lv1, fv2, lv2, rfl, rfl, hg1, hg2, m1, m2, m3, m4, ⟨q0, q1, q2, q3⟩, ⟨e0, e1, e2, e3⟩, hf1, hf2, hl1, hl2⟩ := HB.out wr hb.out k hlt
     dsimp only at q0 q1 q2 q3 e0 e1 e2 e3 hf1 hf2 hl1 hl2
     obtain ⟨fa1, fc1, rfl⟩ := owns_slice hf1
     obtain ⟨fa2, fc2, rfl⟩ := owns_slice hf2
     obtain ⟨la1, lc1, rfl⟩ := owns_slice hl1
     obtain ⟨la2, lc2, rfl⟩ := owns_slice hl2
     unfold maxLen at m2 m4
     have HFF : Hid (∀ w', Below wr.heap.size wr w' → ∀ m (hm : m < fds.length), ∃ u1 u2, fa1 = some ⟨u1, 0, none⟩ ∧ fa2 = some ⟨u2, 0, none⟩ ∧ w'.cell? ⟨u1, m * 2, none⟩ = some (.string fds[m].1) ∧ w'.cell? ⟨u1, m * 2 + 1, none⟩ = some (.int .i64 (fds[m].2 : Int)) ∧ w'.cell? ⟨u2, m * 2, none⟩ = some (.string fds[m].1) ∧ w'.cell? ⟨u2, m * 2 + 1, none⟩ = some (.int .i64 (fds[m].2 : Int)) ∧ fds.length ≤ fc1 ∧ fc1 ≤ maxLen) := fun w' hb m hm => by
       have k1 := owns_below hf1 hb
       have k2 := owns_below hf2 hb
       obtain ⟨u1, cc1, d1, _, _⟩ := k1.form (by omega)
       obtain ⟨u2, cc2, d2, _, _⟩ := k2.form (by omega)
       simp only [Value.slice.injEq] at d1 d2
       obtain ⟨rfl, _, rfl⟩ := d1
       obtain ⟨rfl, _, rfl⟩ := d2
       have key : ∀ (u : Nat) (i : Nat) (x : Value), i < 2 → (fdCells fds[m])[i]? = some x → (∀ cc, w'.ownsRow 0 141 2 (.slice (some ⟨u, 0, none⟩) fds.length cc) fds.length (fds.flatMap fdCells) → w'.cell? ⟨u, m * 2 + i, none⟩ = some x) := fun u i x hi hx cc ho => by
         have := World.ownsRow.cells (g := u) ho rfl (m * 2 + i) x (by rw [flat_get fdCells 2 (fun _ => rfl) fds m hm i hi]; exact hx)
         rwa [Addr.add_lit, Nat.zero_add] at this
       have l1 : fds.length ≤ fc1 ∧ fc1 ≤ maxLen := by
         rcases k1.2 with ⟨e, h0⟩ | ⟨g', cap', cur, e4, _, _, h5, h6, _⟩
         · omega
         · simp only [Value.slice.injEq] at e4; omega
       exact ⟨u1, u2, rfl, rfl, key u1 0 _ (by omega) rfl fc1 k1, key u1 1 _ (by omega) rfl fc1 k1, key u2 0 _ (by omega) rfl fc2 k2, key u2 1 _ (by omega) rfl fc2 k2, l1.1, l1.2⟩
     have HF1 := qh hf1
     have HF2 := qh hf2
     have HL1 := qh hl1
     have HL2 := qh hl2
     clear hf1 hf2 hl1 hl2
     go_upto_region 6 with fail
     go_cut [6, 7] (fun s7 s8 wx => ∃ b7 b8 : Nat, s7 = .pointer (some ⟨b7, 0, none⟩) ∧ s8 = .pointer (some ⟨b8, 0, none⟩) ∧ Hid (Sat wr wx [Prt.oldA wr, blk b7 (.cells #[.int .i64 kd, .slice fa1 fds.length fc1, .slice la1 lst.length lc1, .int .i64 of] 69 (0, 0)), blk b8 (.cells #[.int .i64 kd, .slice fa2 fds.length fc2, .slice la2 lst.length lc2, .int .i64 of] 69 (0, 0))]))
     case first =>
       go_region
       all_goals
         go_wp2_with fail
         go_meet
         first
           | exact ⟨_, _, rfl, rfl, (((Prt.Sat.old wr).allocAt _ wr.heap.size).allocAt _ (wr.heap.size + 1)).drew⟩
           | exact ⟨_, _, rfl, rfl, ((((Prt.Sat.old wr).allocAt _ wr.heap.size).allocAt _ (wr.heap.size + 1)).drew).pick [0, 2, 1]⟩
     case rest =>
       obtain ⟨b7, b8, rfl, rfl, hS⟩ := hcut
       have hbx := hS.out.isBelow
       have x0 := hS.out.cell 1 rfl 0 rfl
       have x1 := hS.out.cell 1 rfl 1 rfl
       have x2 := hS.out.cell 1 rfl 2 rfl
       have x3 := hS.out.cell 1 rfl 3 rfl
       have y0 := hS.out.cell 2 rfl 0 rfl
       have y1 := hS.out.cell 2 rfl 1 rfl
       have y2 := hS.out.cell 2 rfl 2 rfl
       have y3 := hS.out.cell 2 rfl 3 rfl
       have HI := qh (fun R hR => sameInts_any _ _ _ lst (owns_below HL1.out hbx) (owns_below HL2.out hbx) (R := R) hR)
       clear q0 q1 q2 q3 e0 e1 e2 e3 hbx
       go_wp2_with fail
       refine HI.out _ (fun w4 hb4 => ?_)
       have h4 := hS.out.below hb4
       have z1 := h4.cell 1 rfl 1 rfl
       have z2 := h4.cell 2 rfl 1 rfl
       have H4 := qh h4
       clear hb4 h4 x0 x1 x2 x3 y0 y1 y2 y3 hS
       go_wp2_with fail
       go_loopw [8] (fun i w5 => ∃ m : Nat, m ≤ fds.length ∧ i = .int .i64 m ∧ Hid (Sat wr w5 [Prt.oldA wr, blk b7 (.cells #[.int .i64 kd, .slice fa1 fds.length fc1, .slice la1 lst.length lc1, .int .i64 of] 69 (0, 0)), blk b8 (.cells #[.int .i64 kd, .slice fa2 fds.length fc2, .slice la2 lst.length lc2, .int .i64 of] 69 (0, 0))])) (fun i _ => fds.length - (intOf i).toNat)
       case atStart => exact ⟨0, by omega, rfl, H4.out⟩
       case round =>
         obtain ⟨m, hm, rfl, hS5⟩ := hrel
         have x1 := hS5.out.cell 1 rfl 1 rfl
         have y1 := hS5.out.cell 2 rfl 1 rfl
         by_cases hlm : m < fds.length
         · obtain ⟨u1, u2, rfl, rfl, p0, p1, p2, p3, hu1, hu2⟩ := HFF.out _ hS5.out.isBelow m hlm
           unfold maxLen at hu2
           generalize fds[m] = fd at *
           obtain ⟨fx, fn⟩ := fd
           dsimp only at p0 p1 p2 p3
           go_wp2_with fail
           go_quiet (fail)
           have h6 := hS5.out.below (Go.below_drewN (Below.refl _ _) nq)
           have H6 := qh h6
           clear h6
           go_wp2_with fail
           go_roundw
           case rel => exact ⟨m + 1, by omega, by go_num, H6.out⟩
           case measure => simp [intOf]; omega
         · have e : m = fds.length := by omega
           subst e
           go_wp2_with fail
           go_roundw
           case rel => exact ⟨k + 1, by omega, by go_num, hb.out.trans (hS5.out.isBelow.mono hb.out.size)⟩
           case measure => simp [intOf]; omega
   · have e : k = L := by omega
     subst e
     go_wp2_with fail
     exact HR.out _ hb.out
end
section
namespace Ty
open Tok (Tk)
abbrev Lm := Nat × List UInt8
def kt (t : Tk) : Lm := (t.kind, t.text.data.toList)
def Lx (c : Bool) (cs : List UInt8) (ls : List Lm) : Prop := ∀ (s : ByteArray) (k : Nat) (o l : List Tk) (f : Nat) (rest : List UInt8), s.data.toList.drop k = cs ++ rest → (c = true → ∀ d r, rest = d :: r → Tok.isPart d = false) → s.size < k + f → k ≤ s.size → Tok.scanFrom s f k o = .ok l →
 ∃ f' o', o'.map kt = o.map kt ++ ls ∧ s.size < k + cs.length + f' ∧ k + cs.length ≤ s.size ∧ Tok.scanFrom s f' (k + cs.length) o' = .ok l
theorem Lx.nil : Lx false [] [] := fun s k o l f rest _ _ hf hk h => ⟨f, o, by simp, by simpa using hf, by simpa using hk, by simpa using h⟩
theorem Lx.weak {cs : List UInt8} {ls : List Lm} (h : Lx false cs ls) : Lx true cs ls := fun s k o l f rest hd _ => h s k o l f rest hd (fun e => by cases e)
theorem drop_add {s : ByteArray} {k : Nat} {a b : List UInt8} (h : s.data.toList.drop k = a ++ b) : s.data.toList.drop (k + a.length) = b := by
 rw [← List.drop_drop, h]; simp
theorem Lx.comp {c1 c2 : Bool} {a b : List UInt8} {la lb : List Lm} (h : Lx c1 a la) (g : Lx c2 b lb) (hh : c1 = true → ∃ d r, b = d :: r ∧ Tok.isPart d = false := by intro e; cases e) : Lx c2 (a ++ b) (la ++ lb) := fun s k o l f rest hd hc hf hk hs => by
 rw [List.append_assoc] at hd
 obtain ⟨f1, o1, e1, e2, e3, e4⟩ := h s k o l f (b ++ rest) hd (fun e d r hr => by
   obtain ⟨d', r', rfl, hp⟩ := hh e
   cases hr; exact hp) hf hk hs
 obtain ⟨f2, o2, g1, g2, g3, g4⟩ := g s _ o1 l f1 rest (drop_add hd) hc e2 e3 e4
 refine ⟨f2, o2, by rw [g1, e1, List.append_assoc], ?_, ?_, ?_⟩
 · rw [List.length_append]; omega
 · rw [List.length_append]; omega
 · rw [List.length_append, ← Nat.add_assoc]; exact g4
theorem drop_lt {s : ByteArray} {k : Nat} {d : UInt8} {r : List UInt8} (h : s.data.toList.drop k = d :: r) : k < s.size ∧ Tok.byte s k = d := by
 have hk : k < s.size := by
   refine Nat.lt_of_not_le fun hle => ?_
   rw [List.drop_eq_nil_of_le (by simpa using hle)] at h; cases h
 refine ⟨hk, ?_⟩
 rw [Tok.drop_cons s k hk] at h
 rw [Tok.byte_eq s k hk]
 cases h; rfl
theorem Lx.blank : Lx false [32] [] := fun s k o l f rest hd _ hf hk hs => by
 obtain ⟨h1, h2⟩ := drop_lt (d := 32) (r := rest) hd
 obtain ⟨f, rfl⟩ : ∃ g, f = g + 1 := ⟨f - 1, by omega⟩
 rw [Tok.scanFrom, if_pos h1, if_pos (.inl h2)] at hs
 exact ⟨f, o, by simp, by simp; omega, by simp; omega, hs⟩
theorem Lx.one {c : Bool} {d : UInt8} {cs : List UInt8} {x : Lm} (h32 : d ≠ 32 ∧ d ≠ 10) (h : ∀ (s : ByteArray) (k : Nat) (rest : List UInt8), s.data.toList.drop k = d :: cs ++ rest → (c = true → ∀ d r, rest = d :: r → Tok.isPart d = false) → k < s.size → Tok.byte s k = d → kt (Tok.next s k).1 = x ∧ (Tok.next s k).2.1 = cs.length + 1) : Lx c (d :: cs) [x] := fun s k o l f rest hd hc hf hk hs => by
 obtain ⟨h1, h2⟩ := drop_lt (d := d) (r := cs ++ rest) hd
 obtain ⟨f, rfl⟩ : ∃ g, f = g + 1 := ⟨f - 1, by omega⟩
 have hle : (d :: cs ++ rest).length = s.size - k := by rw [← hd]; simp
 simp only [List.length_append, List.length_cons] at hle
 obtain ⟨h3, h4⟩ := h s k rest hd hc h1 h2
 rw [Tok.scanFrom, if_pos h1, if_neg (by rw [h2]; intro e; rcases e with e | e; exact h32.1 e; exact h32.2 e)] at hs
 split at hs
 · cases hs
 · split at hs
   · cases hs
   · rw [h4] at hs
     exact ⟨f, _, by rw [List.map_append]; simp [h3], by simp; omega, by simp; omega, hs⟩
theorem next_sign (s : ByteArray) (k : Nat) (d : UInt8) (hk : k < s.size) (hb : Tok.byte s k = d) (h1 : Tok.isLetter d = false) (h2 : Tok.isDigit d = false) (h3 : d ≠ 34) (h4 : d ≠ 61) : kt (Tok.next s k).1 = (5, [d]) ∧ (Tok.next s k).2.1 = 1 := by
 have ht : Tok.two s k = false := by
   unfold Tok.two; rw [hb]
   have : (d == 61) = false := beq_eq_false_iff_ne.2 h4
   rw [this]; simp
 unfold Tok.next
 rw [hb]
 simp only [h1, h2, h3, ht, Bool.false_eq_true, if_false]
 refine ⟨?_, trivial⟩
 have hd := Tok.drop_cons s k hk
 rw [Tok.byte_eq s k hk] at hb
 simp only [kt, ByteArray.data_extract, Array.toList_extract, List.extract_eq_take_drop, hd, hb]
 simp
theorem Lx.sign (d : UInt8) (h1 : Tok.isLetter d = false := by decide) (h2 : Tok.isDigit d = false := by decide) (h3 : d ≠ 34 := by decide) (h4 : d ≠ 61 := by decide) (h5 : d ≠ 32 ∧ d ≠ 10 := by decide) : Lx false [d] [(5, [d])] :=
 Lx.one h5 fun s k _ _ _ hk hb => next_sign s k d hk hb h1 h2 h3 h4
theorem Lx.arrow : Lx false [61, 62] [(5, [61, 62])] := Lx.one (by decide) fun s k rest hd _ hk hb => by
 have h2 := drop_lt (drop_add (a := [61]) (b := 62 :: rest) hd)
 have ht : Tok.two s k = true := by
   unfold Tok.two; rw [hb]
   have := h2.1
   simp only [List.length_cons, List.length_nil] at this
   have e2 : Tok.byte s (k + 1) = 62 := h2.2
   rw [e2, decide_eq_true (by omega)]; rfl
 have hx := Tok.extract_two s k h2.1
 have e2 : Tok.byte s (k + 1) = 62 := h2.2
 unfold Tok.next
 rw [hb]
 simp only [show Tok.isLetter 61 = false by decide, show Tok.isDigit 61 = false by decide, show ¬ (61 : UInt8) = 34 by decide, ht, Bool.false_eq_true, if_false, if_true]
 refine ⟨?_, rfl⟩
 rw [kt, hx, hb, e2]
theorem takeWhile_exact {p : UInt8 → Bool} : ∀ (a r : List UInt8), (∀ d ∈ a, p d = true) → (∀ d r', r = d :: r' → p d = false) → (a ++ r).takeWhile p = a
 | [], [], _, _ => rfl
 | [], d :: r, _, h => by rw [List.nil_append, List.takeWhile_cons, if_neg (by rw [h d r rfl]; simp)]
 | x :: a, r, h1, h2 => by rw [List.cons_append, List.takeWhile_cons, if_pos (h1 x (by simp)), takeWhile_exact a r (fun d hd => h1 d (by simp [hd])) h2]
theorem Lx.name (d : UInt8) (cs : List UInt8) (h1 : Tok.isLetter d = true) (h2 : ∀ c ∈ cs, Tok.isPart c = true) (kd : Nat) (hkd : kd = if d :: cs ∈ Tok.wordsL then 2 else 1) : Lx true (d :: cs) [(kd, d :: cs)] := by
 refine Lx.one ?_ fun s k rest hd hc hk hb => ?_
 · constructor <;> (rintro rfl; revert h1; decide)
 have hst : (s.data.toList.drop k).takeWhile Tok.isPart = d :: cs := by
   rw [hd]
   refine takeWhile_exact _ _ (fun c hc => ?_) (hc rfl)
   rcases List.mem_cons.1 hc with rfl | hc
   · simp [Tok.isPart, h1]
   · exact h2 c hc
 have hx := extract_stop Tok.isPart s k (by omega)
 rw [hst] at hx
 have hlen : Tok.stop Tok.isPart s k - k = cs.length + 1 := by unfold Tok.stop; rw [hst]; simp
 unfold Tok.next
 rw [hb]
 simp only [h1, if_true]
 refine ⟨?_, hlen⟩
 have hw : Tok.isWord (s.extract k (Tok.stop Tok.isPart s k)) = decide (d :: cs ∈ Tok.wordsL) := by unfold Tok.isWord; rw [hx]
 simp only [kt, hx, hw, hkd, decide_eq_true_eq]
theorem Lx.nameOk {x : ByteArray} (h : NameOk x) : Lx true x.data.toList [(1, x.data.toList)] := by
 obtain ⟨c, l, e, h1, h2⟩ := h.head
 have hw := h.word
 unfold Tok.isWord at hw
 rw [e] at hw ⊢
 exact Lx.name c l h1 h2 1 (by rw [if_neg (by simpa using hw)])
def tailG (sep : List Lm) : List (List Lm) → List Lm
 | [] => []
 | x :: l => sep ++ (x ++ tailG sep l)
def joinG (sep : List Lm) : List (List Lm) → List Lm
 | [] => []
 | x :: l => x ++ tailG sep l
def brkG (n i k : Nat) (s : List Lm) : List Lm := if k = 10 ∨ k = 9 ∧ i + 1 < n then (5, [40]) :: (s ++ [(5, [41])]) else s
def lexF : List ByteArray → List (List Lm) → List Lm
 | n :: ns, t :: ts => (1, n.data.toList) :: (5, [58]) :: (t ++ (5, [59]) :: lexF ns ts)
 | _, _ => []
mutual
def lexT : Tr → List Lm
 | .mk k names parts list of =>
   if k = 7 then (5, [123]) :: (lexF names (lexs parts) ++ [(5, [125])])
   else if k = 8 then (5, [91]) :: ((lexs of).headD [] ++ [(5, [93])])
   else if k = 9 then (5, [40]) :: (joinG [(5, [44])] (lexs list) ++ ((5, [41]) :: (5, [61, 62]) :: (lexs of).headD []))
   else if k = 10 then joinG [(5, [124])] ((List.range list.length).map fun i => brkG list.length i ((list.map kindOf).getD i 0) ((lexs list).getD i []))
   else [(2, wordS k)]
def lexs : List Tr → List (List Lm)
 | [] => []
 | t :: l => lexT t :: lexs l
end
theorem lexs_map : ∀ l : List Tr, lexs l = l.map lexT
 | [] => by rw [lexs]; rfl
 | t :: l => by rw [lexs, lexs_map l]; rfl
theorem getD_map {α β : Type} (f : α → β) (l : List α) (i : Nat) (d : β) (h : i < l.length) : (l.map f).getD i d = f l[i] := by
 rw [List.getD_eq_getElem?_getD, List.getElem?_map, List.getElem?_eq_getElem h]; rfl
end Ty
end
section
namespace Ty
open Tok (Tk)
def D (toks : List Tk) (p : Nat) (r : List Lm) : Prop := (toks.map kt).drop p = r
def isL (r : List Lm) (x : List UInt8) : Bool := match r with
 | [] => false
 | l :: _ => (decide (l.1 = 5) || decide (l.1 = 2)) && decide (l.2 = x)
theorem D.cur {toks : List Tk} {p : Nat} {l : Lm} {r : List Lm} (h : D toks p (l :: r)) : kt (cur toks p) = l := by
 have h1 : (toks.map kt)[p]? = some l := by
   have := congrArg List.head? (show (toks.map kt).drop p = l :: r from h)
   rwa [List.head?_drop] at this
 rw [List.getElem?_map] at h1
 unfold Ty.cur
 cases e : toks[p]? with
 | none => rw [e] at h1; cases h1
 | some t => rw [e] at h1; cases h1; rfl
theorem D.next {toks : List Tk} {p : Nat} {l : Lm} {r : List Lm} (h : D toks p (l :: r)) : D toks (p + 1) r := by
 have h1 : (toks.map kt).drop p = l :: r := h
 show (toks.map kt).drop (p + 1) = r
 rw [← List.drop_drop, h1]; rfl
theorem D.is {toks : List Tk} {p : Nat} {r : List Lm} (h : D toks p r) (x : List UInt8) : Ty.is toks x p = isL r x := by
 cases r with
 | nil =>
   have h1 : toks.length ≤ p := by
     have := congrArg List.length (show (toks.map kt).drop p = [] from h)
     simp at this; omega
   unfold Ty.is Ty.cur isL
   rw [List.getElem?_eq_none h1]; rfl
 | cons l r =>
   have := h.cur
   unfold Ty.is isL
   rw [← this]; rfl
def Fol (r : List Lm) : Prop := isL r [124] = false ∧ isL r [61, 62] = false
def Rt (toks : List Tk) (m : M Nat) (P : List Lm → Prop) (ls : List Lm) (t : Tr) : Prop := ∀ s n s' rest, D toks s.pos (ls ++ rest) → P rest → Wf s.ts → m s = .ok (n, s') → D toks s'.pos rest ∧ den s'.ts n = t
def Hd (ls : List Lm) : Prop := ∃ l r, ls = l :: r ∧ l.2 ≠ [41]
theorem Hd.no {ls : List Lm} (h : Hd ls) (r : List Lm) : isL (ls ++ r) [41] = false := by
 obtain ⟨l, r', rfl, h⟩ := h
 simp [isL, h]
mutual
theorem lexT_hd : ∀ t : Tr, okT t → uniT t → Hd (lexT t)
 | .mk k names parts list of, ho, hu => by
   rw [lexT]
   split
   · exact ⟨_, _, rfl, by decide⟩
   · split
     · exact ⟨_, _, rfl, by decide⟩
     · split
       · exact ⟨_, _, rfl, by decide⟩
       · split
         · rename_i h10
           rw [uniT] at hu
           rw [okT] at ho
           have h2 := hu.1 h10
           match list, h2, ho.2.2.2.2.2.2.2.2.1, hu.2.2.1 with
           | t :: l, _, o1, u1 =>
             rw [okL] at o1
             rw [uniL] at u1
             have ht := lexT_hd t o1.1 u1.1
             rw [List.length_cons, List.range_succ_eq_map, List.map_cons]
             simp only [joinG, lexs, List.map_cons]
             unfold brkG
             split
             · exact ⟨_, _, rfl, by decide⟩
             · obtain ⟨x, r, e, hx⟩ := ht
               refine ⟨x, ?_, ?_, hx⟩
               rotate_left
               · simp only [List.getD_cons_zero]; rw [e]; rfl
         · rename_i h7 h8 h9 h10
           rw [okT] at ho
           have : k = 1 ∨ k = 2 ∨ k = 3 ∨ k = 4 ∨ k = 5 ∨ k = 6 := by omega
           rcases this with rfl | rfl | rfl | rfl | rfl | rfl <;> exact ⟨_, _, rfl, by decide⟩
end
theorem den_new {s s' : St} {t : Ty} {n : Nat} (ht : WfAt s.ts.length t) (h : newType t s = .ok (n, s')) : den s'.ts n = .mk t.kind (t.fields.map Prod.fst) (t.fields.map fun f => den s.ts f.2) (t.list.map (den s.ts)) (if t.kind = 8 ∨ t.kind = 9 then [den s.ts t.of] else []) ∧ s'.pos = s.pos := by
 cases h
 exact ⟨den_last _ _ ht.fields ht.list ht.of, rfl⟩
end Ty
end
section
namespace Ty
open Tok (Tk)
theorem plainKind_word (x : ByteArray) (k : Nat) (hk : 1 ≤ k ∧ k ≤ 6) (h : x.data.toList = wordS k) : plainKind x = k := by
 unfold plainKind
 rw [h]
 have : k = 1 ∨ k = 2 ∨ k = 3 ∨ k = 4 ∨ k = 5 ∨ k = 6 := by omega
 rcases this with rfl | rfl | rfl | rfl | rfl | rfl <;> rfl
theorem Rt.mono {toks : List Tk} {m : M Nat} {P Q : List Lm → Prop} {ls : List Lm} {t : Tr} (h : Rt toks m P ls t) (hq : ∀ r, Q r → P r) : Rt toks m Q ls t := fun s n s' rest hd hr => h s n s' rest hd (hq _ hr)
end Ty
end
end Go.Proofs.YtdlbhiaceheffabGreatDoor
