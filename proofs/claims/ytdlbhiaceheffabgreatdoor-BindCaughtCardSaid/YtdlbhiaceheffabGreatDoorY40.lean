/- Walk of bind.Open. -/
import Derived.Test.YtdlbhiaceheffabGreatDoorY39
set_option linter.all false
set_option maxRecDepth 100000
set_option maxHeartbeats 8000000
namespace Go.Proofs.YtdlbhiaceheffabGreatDoor
section
open Go Go.RowKit
open Prt (Sat As blk pur exs star ah)
open Ty (Frm Vg andX szSs idsSs iC)
abbrev vg0 : Vg := ⟨[], fun _ => none, fun _ => false⟩
abbrev Bd (l : List Ty.Sm) : Except Ty.Ft (List Frm × Vg) := bT ((iC l 0).map Prod.snd) [⟨[], szSs l, -1⟩] vg0
theorem vV {l : List Ty.Sm} {frs : List Frm} {v : Vg} (h : Bd l = .ok (frs, v)) : Ty.fK l = .ok v ∧ ∃ fr, frs = [fr] := by
 unfold Bd at h
 rw [Ty.iQ] at h
 unfold Ty.fK
 cases hq : Ty.visSs l 0 ⟨[], szSs l, -1⟩ [] vg0 with
 | error f => rw [hq] at h; cases h
 | ok r => rw [hq] at h; cases h; exact ⟨rfl, _, rfl⟩
theorem zZ {l : List Ty.Sm} {f : Ty.Ft} (h : Bd l = .error f) : Ty.fK l = .error f := by
 unfold Bd at h
 rw [Ty.iQ] at h
 unfold Ty.fK
 cases hq : Ty.visSs l 0 ⟨[], szSs l, -1⟩ [] vg0 with
 | error g => rw [hq] at h; cases h; rfl
 | ok r => rw [hq] at h; cases h
theorem EJ {wB : World} {nv tv : Value} {main : Int} (n : Nat) (hn : n = wB.heap.size) :
   Sat wB ((((wB.alloc (.map #[] 0)).alloc (.map #[] 0)).alloc (.cells #[nv, tv, .int .i64 main, .slice none 0 0, .slice none 0 0, .map (some n), .map (some (n + 1))] 145)).alloc (.cells #[.pointer (some ⟨n + 1 + 1, 0, none⟩)] 142))
     [ah [Prt.bI wB, blk (n + 1 + 1 + 1) (.cells #[.pointer (some ⟨n + 1 + 1, 0, none⟩)] 142 (0, 0))], biA (n + 1 + 1) nv tv main [] vg0 0 0] := by
 subst hn
 have h1 := (Prt.Sat.old wB).tN 3 3 wB.heap.size rfl rJ
 have h2 := h1.tN 3 4 (wB.heap.size + 1) (by simp) qj
 have h3 := ((((h2.aj (.cells #[nv, tv, .int .i64 main, .slice none 0 0, .slice none 0 0, .map (some wB.heap.size), .map (some (wB.heap.size + 1))] 145) (wB.heap.size + 1 + 1) (by simp)).aj (.cells #[.pointer (some ⟨wB.heap.size + 1 + 1, 0, none⟩)] 142) (wB.heap.size + 1 + 1 + 1) (by simp)).nil 195 2).nil 43 2).fH (P := gq []) (fun _ => trivial)
 have h4 := (Prt.Sat.pack (L := [_, _, _, _, _, _]) (M := [Prt.bI wB, blk (wB.heap.size + 1 + 1 + 1) (.cells #[.pointer (some ⟨wB.heap.size + 1 + 1, 0, none⟩)] 142 (0, 0))]) (h3.pick [3, 5, 6, 1, 2, 7, 0, 4])).pick [6, 0, 1, 2, 3, 4, 5]
 exact Prt.Sat.oG (v := vg0) (frs := []) (ms := []) rfl h4
theorem ry {w0 w : World} {Fr : As} (H : Sat w0 w [Fr]) (s : ByteArray) (hw : Words w) (hm : s.size ≤ maxLen) {l : List Ty.Sm} (hl : ∀ pg : Ty.Pg, Ty.parse s = .ok pg → Ty.layB 0 l [] = (pg.ns, pg.main)) {R : Ending → World → Prop}
   (hok : ∀ (pg : Ty.Pg) nv tv ov cb v d nc w', Ty.parse s = .ok pg → Ty.fK l = .ok v → d.Perm v.out → d.Pairwise (fun x y => x.1 ≤ y.1) → nc ≤ 100000 → d.length ≤ 100000 → Sat w0 w' [Fr, ndA nv pg.ns, tyA tv pg.ts, bdA ov d, mapA 3 4 cb nc (bP v.ca)] →
     R (.returned (.tuple #[.agg #[nv, tv, .int .i64 (pg.main : Nat)], ov, .map (some cb), aP (0, 0)])) w')
   (hbad : ∀ f w', (Ty.parse s = .error f ∨ ∃ pg : Ty.Pg, Ty.parse s = .ok pg ∧ Ty.fK l = .error f) → Sat w0 w' [Fr] → R (.returned (.tuple #[.agg #[.slice none 0 0, .slice none 0 0, .int .i64 0], .slice none 0 0, .map none, aP f])) w') :
   Calls Tryz.prog 43 #[.string s] w R := by
 have HOK := qh hok
 have HBAD := qh hbad
 have HW := qh hw
 have HMX := qh hm
 have HL := qh hl
 have hmf : ∀ (fn : Fn) (first cap : Array Value) (w : World), (Instr.makeFunc fn first cap).run Tryz.prog w = .ok (.func fn first cap) w := fun _ _ _ _ => rfl
 have hmm := @run_makeMap Tryz.prog
 have h1 := (((H.aj (.cells #[.slice none 0 0, .slice none 0 0, .int .i64 0] 31) w.heap.size).aj (.cells #[.slice none 0 0] 36) (w.heap.size + 1) (by simp)).aj (.cells #[.map none] 89) (w.heap.size + 2) (by simp)).aj (.cells #[.int .i64 0, .int .i64 0] 25) (w.heap.size + 3) (by simp)
 have H1 := qh (Prt.Sat.pack (L := []) h1)
 clear hok hbad hw hm hl H h1
 go_enter_defers Tryz.func43, Tryz.ntmps43
 go_wp2_with fail
 refine xW H1.out s (HW.out.below ((((((Below.refl _ _).alloc (Nat.le_refl _) _).alloc (by simp) _).alloc (by simp; omega) _).alloc (by simp; omega) _))) HMX.out (fun pg nv tv w1 ht h2 => ?_) (fun f w1 ht h2 => ?_)
 · have h3 := (h2.unpack (i := 0) rfl).pick [2, 3, 4, 5, 6, 0, 1]
   obtain ⟨nr, hnr, hnrd⟩ := h3.gZ 5 rfl
   obtain ⟨tr, htr, htrd⟩ := h3.zQ 6 rfl
   obtain ⟨na, nc, en⟩ := ag hnrd.row
   obtain ⟨ta, tc, et⟩ := ag htrd.row
   have fa := h3.free 1 rfl
   have fd := h3.free 4 rfl
   have la := h3.lt 1 rfl
   have ld := h3.lt 4 rfl
   have a0 := h3.cell 1 rfl 0 rfl
   have a1 := h3.cell 1 rfl 1 rfl
   have a2 := h3.cell 1 rfl 2 rfl
   have d0 := h3.cell 4 rfl 0 rfl
   have d1 := h3.cell 4 rfl 1 rfl
   have n14 := h3.ne 1 4 (by decide) rfl rfl
   have H3 := qh h3
   have HT := qh ht
   clear h2 h3 hnr hnrd htr htrd ht
   subst en et
   generalize nr.length = NN at *
   generalize tr.length = TN at *
   dsimp only [aP]
   go_wp2_with fail
   have h4 := ((((H3.out.store 1 rfl 0 (.slice na NN nc)).store 1 rfl 1 (.slice ta TN tc)).store 1 rfl 2 (.int .i64 (pg.main : Nat))).store 4 rfl 0 (.int .i64 0)).store 4 rfl 1 (.int .i64 0)
   have hz : (((((w1.setCell ⟨w.heap.size, 0, none⟩ (.slice na NN nc)).setCell ⟨w.heap.size, 1, none⟩ (.slice ta TN tc)).setCell ⟨w.heap.size, 2, none⟩ (.int .i64 (pg.main : Nat))).setCell ⟨w.heap.size + 1 + 1 + 1, 0, none⟩ (.int .i64 0)).setCell ⟨w.heap.size + 1 + 1 + 1, 1, none⟩ (.int .i64 0)).heap.size = w1.heap.size := by simp
   rw [show w.heap.size + 3 = w.heap.size + 1 + 1 + 1 by omega] at h4
   clear a0 a1 a2 d0 d1 fa fd
   generalize ((((w1.setCell ⟨w.heap.size, 0, none⟩ (.slice na NN nc)).setCell ⟨w.heap.size, 1, none⟩ (.slice ta TN tc)).setCell ⟨w.heap.size, 2, none⟩ (.int .i64 (pg.main : Nat))).setCell ⟨w.heap.size + 1 + 1 + 1, 0, none⟩ (.int .i64 0)).setCell ⟨w.heap.size + 1 + 1 + 1, 1, none⟩ (.int .i64 0) = W2 at h4 hz ⊢
   obtain ⟨nr2, hnr, hnrd⟩ := h4.gZ 5 rfl
   obtain ⟨tr2, htr, htrd⟩ := h4.zQ 6 rfl
   have hPok := Ty.parse_pg HT.out
   have hP : PB W2 (.slice na NN nc) (.slice ta TN tc) pg := ⟨⟨nr2, hnr, hnrd⟩, ⟨tr2, htr, htrd⟩, hPok⟩
   obtain ⟨hss, hmn, hmm2, hnl⟩ := Ty.lay_ly (HL.out pg HT.out)
   have hNl := hPok.nlen
   have hil := Ty.dK l 0
   have hsum := Ty.jJ l 0
   have hbi := EJ (wB := W2) (nv := .slice na NN nc) (tv := .slice ta TN tc) (main := (pg.main : Nat)) w1.heap.size hz.symm
   have p0 := h4.cell 1 rfl 0 rfl
   have p2 := h4.cell 1 rfl 2 rfl
   have hpb := h4.lt 1 rfl
   rw [hmm2] at p2
   have hC := fun b0 m0 => jk (bb := b0) (main := m0) hP l 0 hss
   have H4 := qh h4
   have HNL := qh hNl
   have HBI := qh hbi
   have HC := qh (fun w5 (h5 : Sat W2 w5 [ah [Prt.bI W2, blk (w1.heap.size + 1 + 1 + 1) (.cells #[.pointer (some ⟨w1.heap.size + 1 + 1, 0, none⟩)] 142 (0, 0))], biB (w1.heap.size + 1 + 1) (.slice na NN nc) (.slice ta TN tc) (pg.main : Nat) 1 [⟨[], szSs l, -1⟩] vg0]) R hok hbad => xG (R := R) hP hmn (hC _ _) (by omega) (FrB.old W2) hpb p0 p2 h5 (by omega) hok hbad)
   have HS : Hid (bG (iC l 0) ≤ 1200) := by show _ ≤ _; omega
   have HSZ : Hid (szSs l + 1 ≤ 1200) := by show _ ≤ _; omega
   clear h4 hnr hnrd htr htrd hPok hP hss hmn hmm2 hnl hNl hil hsum hbi p0 p2 hpb hC hz H3 la ld n14
   refine rQ 81 _ Tryz.call81 (owner := szSs l) (of := -1) HBI.out (by simp) (m := Bd l) (K := fun fr2 frs2 v2 nw2 nc2 => nw2 ≤ 1 + bG (iC l 0) ∧ nc2 ≤ 1 + bG (iC l 0) ∧ OkS (1 + bG (iC l 0)) (fr2 :: frs2) v2) (fun w5 h5 R' hok' hbad' => ?_) (fun fr2 frs2 v2 nw2 nc2 w5 hK hm h5 => ?_) (fun f w5 hm h5 => ?_)
   · refine HC.out w5 (h5.kY (by omega) (by omega) ⟨by simp, by simp, by simp, by simp, by simp⟩) R' (fun frs' v' w' hq h6 => ?_) hbad'
     obtain ⟨_, fr2, rfl⟩ := vV hq
     obtain ⟨nw2, nc2, g1, g2, g3, g4⟩ := h6.eQ
     exact hok' fr2 [] v' nw2 nc2 w' ⟨g1, g2, g3⟩ (by simp) hq g4
   · obtain ⟨hv, fr3, he⟩ := vV hm
     injection he with e1 e2
     subst e1 e2
     have hout := Ty.BZ hv
     have hol := hK.2.2.out
     have hSS := HS.out
     have hSZ := HSZ.out
     obtain ⟨sv, ov, wb, cb, ms, hms, h6⟩ := h5.dV
     obtain ⟨oa, oc, rfl⟩ := ag (h6.row 3 rfl)
     have h7 := (h6.unpack (i := 0) rfl).pick [6, 7, 0, 1, 2, 3, 4, 5]
     have x1 := h7.cell 1 rfl 0 rfl
     have b4 := h7.cell 2 rfl 4 rfl
     have HV := qh hv
     have H7 := qh h7
     have HNC := qh hK.2.1
     have HOUT := qh hout
     clear h5 h6 h7 hm hms hv hK hout
     go_wp2_with fail
     refine uk H7.out 4 rfl (fun p hp => by have := HOUT.out p hp; omega) (by omega) (fun w6 d hp hs h8 => ?_)
     have h9 : Sat w0 w6 [Fr, blk (w.heap.size) (.cells #[.slice na NN nc, .slice ta TN tc, .int .i64 (pg.main : Nat)] 31 (0, 0)), blk (w.heap.size + 1) (.cells #[.slice none 0 0] 36 (0, 0)), blk (w.heap.size + 1 + 1) (.cells #[.map none] 89 (0, 0)), blk (w.heap.size + 1 + 1 + 1) (.cells #[.int .i64 0, .int .i64 0] 25 (0, 0)), ndA (.slice na NN nc) pg.ns, tyA (.slice ta TN tc) pg.ts,
       blk (w1.heap.size + 1 + 1 + 1) (.cells #[.pointer (some ⟨w1.heap.size + 1 + 1, 0, none⟩)] 142 (0, 0)), blk (w1.heap.size + 1 + 1) (biO (.slice na NN nc) (.slice ta TN tc) (pg.main : Nat) sv (.slice oa v2.out.length oc) wb cb), bdA (.slice oa v2.out.length oc) d, mapA 3 4 cb nc2 (bP v2.ca)] := (H4.out.join h8).pick [0, 1, 2, 3, 4, 5, 6, 7, 8, 10, 12]
     have hdl : d.length = v2.out.length := hp.length_eq
     have x1 := h9.cell 7 rfl 0 rfl
     have b4 := h9.cell 8 rfl 4 rfl
     have b6 := h9.cell 8 rfl 6 rfl
     have hS : w6.drew.cell? ⟨w.heap.size, 0, none⟩ = some (.slice na NN nc) ∧ w6.drew.cell? ⟨w.heap.size, 1, none⟩ = some (.slice ta TN tc) ∧ w6.drew.cell? ⟨w.heap.size, 2, none⟩ = some (.int .i64 (pg.main : Nat)) ∧ w6.drew.cell? ⟨w1.heap.size + 1 + 1 + 1, 0, none⟩ = some (.pointer (some ⟨w1.heap.size + 1 + 1, 0, none⟩)) ∧ w6.drew.cell? ⟨w1.heap.size + 1 + 1, 4, none⟩ = some (.slice oa v2.out.length oc) ∧ w6.drew.cell? ⟨w1.heap.size + 1 + 1, 6, none⟩ = some (.map (some cb)) ∧ w6.drew.cell? ⟨w.heap.size + 1 + 1 + 1, 0, none⟩ = some (.int .i64 0) ∧ w6.drew.cell? ⟨w.heap.size + 1 + 1 + 1, 1, none⟩ = some (.int .i64 0) := ⟨h9.drew.cell 1 rfl 0 rfl, h9.drew.cell 1 rfl 1 rfl, h9.drew.cell 1 rfl 2 rfl, h9.drew.cell 7 rfl 0 rfl, h9.drew.cell 8 rfl 4 rfl, h9.drew.cell 8 rfl 6 rfl, h9.drew.cell 4 rfl 0 rfl, h9.drew.cell 4 rfl 1 rfl⟩
     have H9 := qh h9
     have HDL := qh hdl
     have HPM := qh hp
     have HSR := qh hs
     clear h8 h9 hdl hp hs H7 H4 HC HBI hmm
     go_wp2_with fail
     refine wp_region_noPanic ?_
     refine wp_region_held_drew (S := fun w' => w'.cell? ⟨w.heap.size, 0, none⟩ = some (.slice na NN nc) ∧ w'.cell? ⟨w.heap.size, 1, none⟩ = some (.slice ta TN tc) ∧ w'.cell? ⟨w.heap.size, 2, none⟩ = some (.int .i64 (pg.main : Nat)) ∧ w'.cell? ⟨w1.heap.size + 1 + 1 + 1, 0, none⟩ = some (.pointer (some ⟨w1.heap.size + 1 + 1, 0, none⟩)) ∧ w'.cell? ⟨w1.heap.size + 1 + 1, 4, none⟩ = some (.slice oa v2.out.length oc) ∧ w'.cell? ⟨w1.heap.size + 1 + 1, 6, none⟩ = some (.map (some cb)) ∧ w'.cell? ⟨w.heap.size + 1 + 1 + 1, 0, none⟩ = some (.int .i64 0) ∧ w'.cell? ⟨w.heap.size + 1 + 1 + 1, 1, none⟩ = some (.int .i64 0)) (by kernel_rfl) hS (fun hS => ?_)
     refine tkJ 0 ?_
     refine tkJ 1 ?_
     refine tkJ 2 ?_
     refine tkJ 3 ?_
     refine tkJ 4 ?_
     refine tkJ 5 ?_
     refine tkJ 6 ?_
     refine tkJ 7 ?_
     refine tkJ 8 ?_
     refine tkJ 9 ?_
     clear hS x1 b4 b6
     have h9 := H9.out
     have fz := h9.free 1 rfl
     have lz := h9.lt 1 rfl
     have q0 := h9.cell 1 rfl 0 rfl
     have q1 := h9.cell 1 rfl 1 rfl
     have q2 := h9.cell 1 rfl 2 rfl
     refine wpAnyH_ready (rs := [10]) (by kernel_rfl) (by simp) ?_
     refine AllReadyH.cons rfl (fun K hK => ?_) AllReadyH.nil
     go_simp
     have k3 : Sat w0 ((((w6.setCell ⟨w.heap.size, 0, none⟩ (.slice na NN nc)).setCell ⟨w.heap.size, 1, none⟩ (.slice ta TN tc)).setCell ⟨w.heap.size, 2, none⟩ (.int .i64 (pg.main : Nat))).drew) [Fr, blk (w.heap.size) (.cells #[.slice na NN nc, .slice ta TN tc, .int .i64 (pg.main : Nat)] 31 (0, 0)), blk (w.heap.size + 1) (.cells #[.slice none 0 0] 36 (0, 0)), blk (w.heap.size + 1 + 1) (.cells #[.map none] 89 (0, 0)), blk (w.heap.size + 1 + 1 + 1) (.cells #[.int .i64 0, .int .i64 0] 25 (0, 0)), ndA (.slice na NN nc) pg.ns, tyA (.slice ta TN tc) pg.ts,
       blk (w1.heap.size + 1 + 1 + 1) (.cells #[.pointer (some ⟨w1.heap.size + 1 + 1, 0, none⟩)] 142 (0, 0)), blk (w1.heap.size + 1 + 1) (biO (.slice na NN nc) (.slice ta TN tc) (pg.main : Nat) sv (.slice oa v2.out.length oc) wb cb), bdA (.slice oa v2.out.length oc) d, mapA 3 4 cb nc2 (bP v2.ca)] := ((h9.drew.store 1 rfl 0 (.slice na NN nc)).store 1 rfl 1 (.slice ta TN tc)).store 1 rfl 2 (.int .i64 (pg.main : Nat))
     refine hK.out _ _ ⟨k3.cell 1 rfl 0 rfl, k3.cell 1 rfl 1 rfl, k3.cell 1 rfl 2 rfl, k3.cell 7 rfl 0 rfl, k3.cell 8 rfl 4 rfl, k3.cell 8 rfl 6 rfl, k3.cell 4 rfl 0 rfl, k3.cell 4 rfl 1 rfl⟩ (fun hHeld => ?_)
     clear hK K hHeld fz lz q0 q1 q2 h9
     generalize (((w6.setCell ⟨w.heap.size, 0, none⟩ (.slice na NN nc)).setCell ⟨w.heap.size, 1, none⟩ (.slice ta TN tc)).setCell ⟨w.heap.size, 2, none⟩ (.int .i64 (pg.main : Nat))).drew = w7 at k3 ⊢
     have fz := k3.free 2 rfl
     have lz := k3.lt 2 rfl
     have q0 := k3.cell 2 rfl 0 rfl
     refine wpAnyH_ready (rs := [11]) (by kernel_rfl) (by simp) ?_
     refine AllReadyH.cons rfl (fun K hK => ?_) AllReadyH.nil
     go_simp
     have k4 : Sat w0 (w7.setCell ⟨w.heap.size + 1, 0, none⟩ (.slice oa v2.out.length oc)) [Fr, blk (w.heap.size) (.cells #[.slice na NN nc, .slice ta TN tc, .int .i64 (pg.main : Nat)] 31 (0, 0)), blk (w.heap.size + 1) (.cells #[.slice oa v2.out.length oc] 36 (0, 0)), blk (w.heap.size + 1 + 1) (.cells #[.map none] 89 (0, 0)), blk (w.heap.size + 1 + 1 + 1) (.cells #[.int .i64 0, .int .i64 0] 25 (0, 0)), ndA (.slice na NN nc) pg.ns, tyA (.slice ta TN tc) pg.ts,
       blk (w1.heap.size + 1 + 1 + 1) (.cells #[.pointer (some ⟨w1.heap.size + 1 + 1, 0, none⟩)] 142 (0, 0)), blk (w1.heap.size + 1 + 1) (biO (.slice na NN nc) (.slice ta TN tc) (pg.main : Nat) sv (.slice oa v2.out.length oc) wb cb), bdA (.slice oa v2.out.length oc) d, mapA 3 4 cb nc2 (bP v2.ca)] := k3.store 2 rfl 0 (.slice oa v2.out.length oc)
     refine hK.out _ _ ⟨k4.cell 1 rfl 0 rfl, k4.cell 1 rfl 1 rfl, k4.cell 1 rfl 2 rfl, k4.cell 7 rfl 0 rfl, k4.cell 8 rfl 4 rfl, k4.cell 8 rfl 6 rfl, k4.cell 4 rfl 0 rfl, k4.cell 4 rfl 1 rfl⟩ (fun hHeld => ?_)
     clear hK K hHeld fz lz q0 k3
     generalize w7.setCell ⟨w.heap.size + 1, 0, none⟩ (.slice oa v2.out.length oc) = w8 at k4 ⊢
     have fz := k4.free 3 rfl
     have lz := k4.lt 3 rfl
     have q0 := k4.cell 3 rfl 0 rfl
     refine wpAnyH_ready (rs := [12]) (by kernel_rfl) (by simp) ?_
     refine AllReadyH.cons rfl (fun K hK => ?_) AllReadyH.nil
     go_simp
     have k5 : Sat w0 (w8.setCell ⟨w.heap.size + 1 + 1, 0, none⟩ (.map (some cb))) [Fr, blk (w.heap.size) (.cells #[.slice na NN nc, .slice ta TN tc, .int .i64 (pg.main : Nat)] 31 (0, 0)), blk (w.heap.size + 1) (.cells #[.slice oa v2.out.length oc] 36 (0, 0)), blk (w.heap.size + 1 + 1) (.cells #[.map (some cb)] 89 (0, 0)), blk (w.heap.size + 1 + 1 + 1) (.cells #[.int .i64 0, .int .i64 0] 25 (0, 0)), ndA (.slice na NN nc) pg.ns, tyA (.slice ta TN tc) pg.ts,
       blk (w1.heap.size + 1 + 1 + 1) (.cells #[.pointer (some ⟨w1.heap.size + 1 + 1, 0, none⟩)] 142 (0, 0)), blk (w1.heap.size + 1 + 1) (biO (.slice na NN nc) (.slice ta TN tc) (pg.main : Nat) sv (.slice oa v2.out.length oc) wb cb), bdA (.slice oa v2.out.length oc) d, mapA 3 4 cb nc2 (bP v2.ca)] := k4.store 3 rfl 0 (.map (some cb))
     refine hK.out _ _ ⟨k5.cell 1 rfl 0 rfl, k5.cell 1 rfl 1 rfl, k5.cell 1 rfl 2 rfl, k5.cell 7 rfl 0 rfl, k5.cell 8 rfl 4 rfl, k5.cell 8 rfl 6 rfl, k5.cell 4 rfl 0 rfl, k5.cell 4 rfl 1 rfl⟩ (fun hHeld => ?_)
     clear hK K hHeld fz lz q0 k4
     generalize w8.setCell ⟨w.heap.size + 1 + 1, 0, none⟩ (.map (some cb)) = w9 at k5 ⊢
     have fz := k5.free 4 rfl
     have lz := k5.lt 4 rfl
     have q0 := k5.cell 4 rfl 0 rfl
     have q1 := k5.cell 4 rfl 1 rfl
     refine wpAnyH_ready (rs := [13]) (by kernel_rfl) (by simp) ?_
     refine AllReadyH.cons rfl (fun K hK => ?_) AllReadyH.nil
     go_simp
     have k7 : Sat w0 ((w9.setCell ⟨w.heap.size + 1 + 1 + 1, 0, none⟩ (.int .i64 0)).setCell ⟨w.heap.size + 1 + 1 + 1, 1, none⟩ (.int .i64 0)) [Fr, blk (w.heap.size) (.cells #[.slice na NN nc, .slice ta TN tc, .int .i64 (pg.main : Nat)] 31 (0, 0)), blk (w.heap.size + 1) (.cells #[.slice oa v2.out.length oc] 36 (0, 0)), blk (w.heap.size + 1 + 1) (.cells #[.map (some cb)] 89 (0, 0)), blk (w.heap.size + 1 + 1 + 1) (.cells #[.int .i64 0, .int .i64 0] 25 (0, 0)), ndA (.slice na NN nc) pg.ns, tyA (.slice ta TN tc) pg.ts,
       blk (w1.heap.size + 1 + 1 + 1) (.cells #[.pointer (some ⟨w1.heap.size + 1 + 1, 0, none⟩)] 142 (0, 0)), blk (w1.heap.size + 1 + 1) (biO (.slice na NN nc) (.slice ta TN tc) (pg.main : Nat) sv (.slice oa v2.out.length oc) wb cb), bdA (.slice oa v2.out.length oc) d, mapA 3 4 cb nc2 (bP v2.ca)] := (k5.store 4 rfl 0 (.int .i64 0)).store 4 rfl 1 (.int .i64 0)
     refine hK.out _ _ ⟨k7.cell 1 rfl 0 rfl, k7.cell 1 rfl 1 rfl, k7.cell 1 rfl 2 rfl, k7.cell 7 rfl 0 rfl, k7.cell 8 rfl 4 rfl, k7.cell 8 rfl 6 rfl, k7.cell 4 rfl 0 rfl, k7.cell 4 rfl 1 rfl⟩ (fun hHeld => ?_)
     clear hK K hHeld fz lz q0 q1 k5
     generalize (w9.setCell ⟨w.heap.size + 1 + 1 + 1, 0, none⟩ (.int .i64 0)).setCell ⟨w.heap.size + 1 + 1 + 1, 1, none⟩ (.int .i64 0) = w10 at k7 ⊢
     refine wpAnyH_done (by kernel_rfl) ?_ _
     refine NoPanic.normal ?_
     have K7 := qh k7
     clear k7
     go_wp2_with fail
     refine leaves_cons (f := 79) (args := #[.pointer (some ⟨w.heap.size, 0, none⟩), .pointer (some ⟨w.heap.size + 1, 0, none⟩), .pointer (some ⟨w.heap.size + 1 + 1, 0, none⟩), .pointer (some ⟨w.heap.size + 1 + 1 + 1, 0, none⟩)]) (by simp) (by simp [go_sem]) ?_
     refine (Ae _ _ _ _ _).mono ?_
     rintro e u' w'' ⟨rfl, rfl, rfl⟩
     have a0 := K7.out.cell 1 rfl 0 rfl
     have a1 := K7.out.cell 1 rfl 1 rfl
     have a2 := K7.out.cell 1 rfl 2 rfl
     have b0 := K7.out.cell 2 rfl 0 rfl
     have c0 := K7.out.cell 3 rfl 0 rfl
     have d0 := K7.out.cell 4 rfl 0 rfl
     have d1 := K7.out.cell 4 rfl 1 rfl
     simp [Leaves, settle, results, Tryz.results43, go_sem, a0, a1, a2, b0, c0, d0, d1]
     have hx1 := HNC.out
     have hx2 := HDL.out
     exact HOK.out pg _ _ _ cb v2 d nc2 _ HT.out HV.out HPM.out HSR.out (by omega) (by omega) (K7.out.pick [0, 5, 6, 9, 10])
   · have h6 : Sat w0 w5 [Fr, blk (w.heap.size) (.cells #[.slice na NN nc, .slice ta TN tc, .int .i64 (pg.main : Nat)] 31 (0, 0)), blk (w.heap.size + 1) (.cells #[.slice none 0 0] 36 (0, 0)), blk (w.heap.size + 1 + 1) (.cells #[.map none] 89 (0, 0)), blk (w.heap.size + 1 + 1 + 1) (.cells #[.int .i64 0, .int .i64 0] 25 (0, 0))] := (H4.out.join (h5.unpack (i := 0) rfl)).pick [0, 1, 2, 3, 4]
     have HM := qh hm
     clear h5 hm H4 HC HBI
     refine leaves_cons (f := 79) (args := #[.pointer (some ⟨w.heap.size, 0, none⟩), .pointer (some ⟨w.heap.size + 1, 0, none⟩), .pointer (some ⟨w.heap.size + 1 + 1, 0, none⟩), .pointer (some ⟨w.heap.size + 1 + 1 + 1, 0, none⟩)]) (by simp) (by simp [go_sem]) ?_
     refine (ER h6 f).mono ?_
     rintro e u' w'' ⟨rfl, rfl, h9⟩
     have a0 := h9.cell 1 rfl 0 rfl
     have a1 := h9.cell 1 rfl 1 rfl
     have a2 := h9.cell 1 rfl 2 rfl
     have b0 := h9.cell 2 rfl 0 rfl
     have c0 := h9.cell 3 rfl 0 rfl
     have d0 := h9.cell 4 rfl 0 rfl
     have d1 := h9.cell 4 rfl 1 rfl
     simp [Leaves, settle, results, Tryz.results43, go_sem, a0, a1, a2, b0, c0, d0, d1]
     exact HBAD.out f _ (.inr ⟨pg, HT.out, zZ HM.out⟩) (h9.pick [0])
 · have hbd := Ty.parse_bad ht
   obtain ⟨fe, fp⟩ := f
   dsimp only at hbd
   have e2 : ((fe : Int) != 0) = true := by simp; omega
   have h3 : Sat w0 w1 [Fr, blk (w.heap.size) (.cells #[.slice none 0 0, .slice none 0 0, .int .i64 0] 31 (0, 0)), blk (w.heap.size + 1) (.cells #[.slice none 0 0] 36 (0, 0)), blk (w.heap.size + 1 + 1) (.cells #[.map none] 89 (0, 0)), blk (w.heap.size + 1 + 1 + 1) (.cells #[.int .i64 0, .int .i64 0] 25 (0, 0))] := (h2.unpack (i := 0) rfl).pick [0, 1, 2, 3, 4]
   have h4 : Sat w0 (((((w1.setCell ⟨w.heap.size, 0, none⟩ (.slice none 0 0)).setCell ⟨w.heap.size, 1, none⟩ (.slice none 0 0)).setCell ⟨w.heap.size, 2, none⟩ (.int .i64 0)).setCell ⟨w.heap.size + 1 + 1 + 1, 0, none⟩ (.int .i64 (fe : Nat))).setCell ⟨w.heap.size + 1 + 1 + 1, 1, none⟩ (.int .i64 (fp : Nat))) [Fr, blk (w.heap.size) (.cells #[.slice none 0 0, .slice none 0 0, .int .i64 0] 31 (0, 0)), blk (w.heap.size + 1) (.cells #[.slice none 0 0] 36 (0, 0)), blk (w.heap.size + 1 + 1) (.cells #[.map none] 89 (0, 0)), blk (w.heap.size + 1 + 1 + 1) (.cells #[.int .i64 (fe : Nat), .int .i64 (fp : Nat)] 25 (0, 0))] := ((((h3.store 1 rfl 0 (.slice none 0 0)).store 1 rfl 1 (.slice none 0 0)).store 1 rfl 2 (.int .i64 0)).store 4 rfl 0 (.int .i64 (fe : Nat))).store 4 rfl 1 (.int .i64 (fp : Nat))
   have fa := h3.free 1 rfl
   have fd := h3.free 4 rfl
   have la := h3.lt 1 rfl
   have ld := h3.lt 4 rfl
   have a0 := h3.cell 1 rfl 0 rfl
   have a1 := h3.cell 1 rfl 1 rfl
   have a2 := h3.cell 1 rfl 2 rfl
   have d0 := h3.cell 4 rfl 0 rfl
   have d1 := h3.cell 4 rfl 1 rfl
   have n14 := h3.ne 1 4 (by decide) rfl rfl
   have H4 := qh h4
   have HT := qh ht
   clear h2 h3 h4 ht hbd hmm hmf
   dsimp only [aP]
   go_wp2_with fail
   generalize ((((w1.setCell ⟨w.heap.size, 0, none⟩ (.slice none 0 0)).setCell ⟨w.heap.size, 1, none⟩ (.slice none 0 0)).setCell ⟨w.heap.size, 2, none⟩ (.int .i64 0)).setCell ⟨w.heap.size + 1 + 1 + 1, 0, none⟩ (.int .i64 (fe : Nat))).setCell ⟨w.heap.size + 1 + 1 + 1, 1, none⟩ (.int .i64 (fp : Nat)) = w2 at H4 ⊢
   clear fa fd la ld a0 a1 a2 d0 d1 n14
   have hS : w2.drew.cell? ⟨w.heap.size, 0, none⟩ = some (.slice none 0 0) ∧ w2.drew.cell? ⟨w.heap.size, 1, none⟩ = some (.slice none 0 0) ∧ w2.drew.cell? ⟨w.heap.size, 2, none⟩ = some (.int .i64 0) ∧ w2.drew.cell? ⟨w.heap.size + 1 + 1 + 1, 0, none⟩ = some (.int .i64 (fe : Nat)) ∧ w2.drew.cell? ⟨w.heap.size + 1 + 1 + 1, 1, none⟩ = some (.int .i64 (fp : Nat)) := ⟨H4.out.drew.cell 1 rfl 0 rfl, H4.out.drew.cell 1 rfl 1 rfl, H4.out.drew.cell 1 rfl 2 rfl, H4.out.drew.cell 4 rfl 0 rfl, H4.out.drew.cell 4 rfl 1 rfl⟩
   refine wp_region_noPanic ?_
   refine wp_region_held_drew (S := fun w' => w'.cell? ⟨w.heap.size, 0, none⟩ = some (.slice none 0 0) ∧ w'.cell? ⟨w.heap.size, 1, none⟩ = some (.slice none 0 0) ∧ w'.cell? ⟨w.heap.size, 2, none⟩ = some (.int .i64 0) ∧ w'.cell? ⟨w.heap.size + 1 + 1 + 1, 0, none⟩ = some (.int .i64 (fe : Nat)) ∧ w'.cell? ⟨w.heap.size + 1 + 1 + 1, 1, none⟩ = some (.int .i64 (fp : Nat))) (by kernel_rfl) hS (fun hS => ?_)
   refine tkJ 0 ?_
   refine tkJ 1 ?_
   clear hS
   have h9 := H4.out
   have fz := h9.free 1 rfl
   have lz := h9.lt 1 rfl
   have q0 := h9.cell 1 rfl 0 rfl
   have q1 := h9.cell 1 rfl 1 rfl
   have q2 := h9.cell 1 rfl 2 rfl
   refine wpAnyH_ready (rs := [2]) (by kernel_rfl) (by simp) ?_
   refine AllReadyH.cons rfl (fun K hK => ?_) AllReadyH.nil
   go_simp
   have k3 : Sat w0 ((((w2.setCell ⟨w.heap.size, 0, none⟩ (.slice none 0 0)).setCell ⟨w.heap.size, 1, none⟩ (.slice none 0 0)).setCell ⟨w.heap.size, 2, none⟩ (.int .i64 0)).drew) [Fr, blk (w.heap.size) (.cells #[.slice none 0 0, .slice none 0 0, .int .i64 0] 31 (0, 0)), blk (w.heap.size + 1) (.cells #[.slice none 0 0] 36 (0, 0)), blk (w.heap.size + 1 + 1) (.cells #[.map none] 89 (0, 0)), blk (w.heap.size + 1 + 1 + 1) (.cells #[.int .i64 (fe : Nat), .int .i64 (fp : Nat)] 25 (0, 0))] := ((h9.drew.store 1 rfl 0 (.slice none 0 0)).store 1 rfl 1 (.slice none 0 0)).store 1 rfl 2 (.int .i64 0)
   refine hK.out _ _ ⟨k3.cell 1 rfl 0 rfl, k3.cell 1 rfl 1 rfl, k3.cell 1 rfl 2 rfl, k3.cell 4 rfl 0 rfl, k3.cell 4 rfl 1 rfl⟩ (fun hHeld => ?_)
   clear hK K hHeld fz lz q0 q1 q2 h9
   generalize (((w2.setCell ⟨w.heap.size, 0, none⟩ (.slice none 0 0)).setCell ⟨w.heap.size, 1, none⟩ (.slice none 0 0)).setCell ⟨w.heap.size, 2, none⟩ (.int .i64 0)).drew = w7 at k3 ⊢
   have fz := k3.free 2 rfl
   have lz := k3.lt 2 rfl
   have q0 := k3.cell 2 rfl 0 rfl
   refine wpAnyH_ready (rs := [3]) (by kernel_rfl) (by simp) ?_
   refine AllReadyH.cons rfl (fun K hK => ?_) AllReadyH.nil
   go_simp
   have k4 : Sat w0 (w7.setCell ⟨w.heap.size + 1, 0, none⟩ (.slice none 0 0)) [Fr, blk (w.heap.size) (.cells #[.slice none 0 0, .slice none 0 0, .int .i64 0] 31 (0, 0)), blk (w.heap.size + 1) (.cells #[.slice none 0 0] 36 (0, 0)), blk (w.heap.size + 1 + 1) (.cells #[.map none] 89 (0, 0)), blk (w.heap.size + 1 + 1 + 1) (.cells #[.int .i64 (fe : Nat), .int .i64 (fp : Nat)] 25 (0, 0))] := k3.store 2 rfl 0 (.slice none 0 0)
   refine hK.out _ _ ⟨k4.cell 1 rfl 0 rfl, k4.cell 1 rfl 1 rfl, k4.cell 1 rfl 2 rfl, k4.cell 4 rfl 0 rfl, k4.cell 4 rfl 1 rfl⟩ (fun hHeld => ?_)
   clear hK K hHeld fz lz q0 k3
   generalize w7.setCell ⟨w.heap.size + 1, 0, none⟩ (.slice none 0 0) = w8 at k4 ⊢
   have fz := k4.free 3 rfl
   have lz := k4.lt 3 rfl
   have q0 := k4.cell 3 rfl 0 rfl
   refine wpAnyH_ready (rs := [4]) (by kernel_rfl) (by simp) ?_
   refine AllReadyH.cons rfl (fun K hK => ?_) AllReadyH.nil
   go_simp
   have k5 : Sat w0 (w8.setCell ⟨w.heap.size + 1 + 1, 0, none⟩ (.map none)) [Fr, blk (w.heap.size) (.cells #[.slice none 0 0, .slice none 0 0, .int .i64 0] 31 (0, 0)), blk (w.heap.size + 1) (.cells #[.slice none 0 0] 36 (0, 0)), blk (w.heap.size + 1 + 1) (.cells #[.map none] 89 (0, 0)), blk (w.heap.size + 1 + 1 + 1) (.cells #[.int .i64 (fe : Nat), .int .i64 (fp : Nat)] 25 (0, 0))] := k4.store 3 rfl 0 (.map none)
   refine hK.out _ _ ⟨k5.cell 1 rfl 0 rfl, k5.cell 1 rfl 1 rfl, k5.cell 1 rfl 2 rfl, k5.cell 4 rfl 0 rfl, k5.cell 4 rfl 1 rfl⟩ (fun hHeld => ?_)
   clear hK K hHeld fz lz q0 k4
   generalize w8.setCell ⟨w.heap.size + 1 + 1, 0, none⟩ (.map none) = w9 at k5 ⊢
   have fz := k5.free 4 rfl
   have lz := k5.lt 4 rfl
   have q0 := k5.cell 4 rfl 0 rfl
   have q1 := k5.cell 4 rfl 1 rfl
   refine wpAnyH_ready (rs := [5]) (by kernel_rfl) (by simp) ?_
   refine AllReadyH.cons rfl (fun K hK => ?_) AllReadyH.nil
   go_simp
   have k7 : Sat w0 ((w9.setCell ⟨w.heap.size + 1 + 1 + 1, 0, none⟩ (.int .i64 (fe : Nat))).setCell ⟨w.heap.size + 1 + 1 + 1, 1, none⟩ (.int .i64 (fp : Nat))) [Fr, blk (w.heap.size) (.cells #[.slice none 0 0, .slice none 0 0, .int .i64 0] 31 (0, 0)), blk (w.heap.size + 1) (.cells #[.slice none 0 0] 36 (0, 0)), blk (w.heap.size + 1 + 1) (.cells #[.map none] 89 (0, 0)), blk (w.heap.size + 1 + 1 + 1) (.cells #[.int .i64 (fe : Nat), .int .i64 (fp : Nat)] 25 (0, 0))] := (k5.store 4 rfl 0 (.int .i64 (fe : Nat))).store 4 rfl 1 (.int .i64 (fp : Nat))
   refine hK.out _ _ ⟨k7.cell 1 rfl 0 rfl, k7.cell 1 rfl 1 rfl, k7.cell 1 rfl 2 rfl, k7.cell 4 rfl 0 rfl, k7.cell 4 rfl 1 rfl⟩ (fun hHeld => ?_)
   clear hK K hHeld fz lz q0 q1 k5
   generalize (w9.setCell ⟨w.heap.size + 1 + 1 + 1, 0, none⟩ (.int .i64 (fe : Nat))).setCell ⟨w.heap.size + 1 + 1 + 1, 1, none⟩ (.int .i64 (fp : Nat)) = w10 at k7 ⊢
   refine wpAnyH_done (by kernel_rfl) ?_ _
   refine NoPanic.normal ?_
   have K7 := qh k7
   clear k7
   go_wp2_with fail
   have a0 := K7.out.cell 1 rfl 0 rfl
   have a1 := K7.out.cell 1 rfl 1 rfl
   have a2 := K7.out.cell 1 rfl 2 rfl
   have b0 := K7.out.cell 2 rfl 0 rfl
   have c0 := K7.out.cell 3 rfl 0 rfl
   have d0 := K7.out.cell 4 rfl 0 rfl
   have d1 := K7.out.cell 4 rfl 1 rfl
   simp [bodyPostD, Leaves, settle, results, Tryz.results43, go_sem, a0, a1, a2, b0, c0, d0, d1]
   exact HBAD.out (fe, fp) _ (.inl HT.out) (K7.out.pick [0])
end
section
open Go Go.RowKit
open Prt (Sat As blk pur exs star ah)
open Ty (Frm Vg)
theorem nG {w0 w : World} {Fr : As} (H : Sat w0 w [Fr]) (s : ByteArray) (hw : Words w) (hm : s.size ≤ maxLen) {l : List Ty.Sm} (hl : ∀ pg : Ty.Pg, Ty.parse s = .ok pg → Ty.layB 0 l [] = (pg.ns, pg.main)) {R : Ending → World → Prop}
   (hok : ∀ (pg : Ty.Pg) ov v d w', Ty.parse s = .ok pg → Ty.fK l = .ok v → d.Perm v.out → d.Pairwise (fun x y => x.1 ≤ y.1) → d.length ≤ 100000 → Sat w0 w' [Fr, bdA ov d] → R (.returned (.tuple #[ov, aP (0, 0)])) w')
   (hbad : ∀ f w', (Ty.parse s = .error f ∨ ∃ pg : Ty.Pg, Ty.parse s = .ok pg ∧ Ty.fK l = .error f) → Sat w0 w' [Fr] → R (.returned (.tuple #[.slice none 0 0, aP f])) w') :
   Calls Tryz.prog 17 #[.string s] w R := by
 have HOK := qh hok
 have HBAD := qh hbad
 have HW := qh hw
 have HMX := qh hm
 have HL := qh hl
 have H1 := qh (Prt.Sat.pack (L := []) (H.aj (.cells #[.int .i64 0, .int .i64 0] 25) w.heap.size))
 clear hok hbad hw hm hl H
 go_enter Tryz.func17, Tryz.ntmps17
 go_wp2_with fail
 refine ry H1.out s (HW.out.below ((Below.refl _ _).alloc (Nat.le_refl _) _)) HMX.out HL.out (fun pg nv tv ov cb v d nc w1 ht hv hp hs hnc hdl h2 => ?_) (fun f w1 hq h2 => ?_)
 · have h3 := (h2.unpack (i := 0) rfl).pick [4, 5, 2, 0, 1]
   obtain ⟨nr, hnr, hnrd⟩ := h3.gZ 3 rfl
   obtain ⟨tr, htr, htrd⟩ := h3.zQ 4 rfl
   obtain ⟨na, na2, rfl⟩ := ag hnrd.row
   obtain ⟨ta, ta2, rfl⟩ := ag htrd.row
   obtain ⟨oa, oc, rfl⟩ := ag (h3.row 2 rfl)
   have h4 : Sat w0 w1 [Fr, blk w.heap.size (.cells #[.int .i64 0, .int .i64 0] 25 (0, 0)), bdA (.slice oa d.length oc) d] := h3.pick [0, 1, 2]
   have z0 := h4.cell 1 rfl 0 rfl
   have z1 := h4.cell 1 rfl 1 rfl
   have fz := h4.free 1 rfl
   have hz := h4.lt 1 rfl
   have HG := qh (HOK.out pg (.slice oa d.length oc) v d · ht hv hp hs hdl)
   have H4 := qh h4
   generalize nr.length = NN at *
   generalize tr.length = TN at *
   clear h2 h3 h4 hnr hnrd htr htrd ht hv hp hs hdl H1
   generalize d.length = DL at *
   dsimp only [aP]
   go_wp2_with fail
   go_region
   all_goals
     go_wp2_with fail
     refine bodyPost_ret ?_ rfl (HG.out _ ?_)
     · simp [results, Tryz.results17, go_sem, aP, hz, z0, z1]
     · exact ((((H4.out.store 1 rfl 0 _).store 1 rfl 1 _).ay _).ay _).drew.pick [0, 2]
 · obtain ⟨fe, fp⟩ := f
   have h4 : Sat w0 w1 [Fr, blk w.heap.size (.cells #[.int .i64 0, .int .i64 0] 25 (0, 0))] := (h2.unpack (i := 0) rfl).pick [0, 1]
   have z0 := h4.cell 1 rfl 0 rfl
   have z1 := h4.cell 1 rfl 1 rfl
   have fz := h4.free 1 rfl
   have hz := h4.lt 1 rfl
   have H4 := qh h4
   have HQ := qh hq
   clear h2 h4 hq H1
   dsimp only [aP]
   go_wp2_with fail
   go_region
   all_goals
     go_wp2_with fail
     refine bodyPost_ret ?_ rfl (HBAD.out (fe, fp) _ HQ.out ?_)
     · simp [results, Tryz.results17, go_sem, aP, hz, z0, z1]
     · exact ((((H4.out.store 1 rfl 0 _).store 1 rfl 1 _).ay _).ay _).drew.pick [0]
end
section
open Go Go.RowKit
open Prt (Sat As blk pur exs star ah)
theorem AY {d : List (Nat × Nat)} {p : Nat × Nat} (h : d.Perm [p]) : d = [p] := List.perm_singleton.1 h
theorem BI (pg : Ty.Pg) (h : Ty.parse Ty.AU = .ok pg) : Ty.layB 0 Ty.jE [] = (pg.ns, pg.main) := by
 obtain ⟨pg2, h2, h3⟩ := Ty.vM
 rw [h] at h2; cases h2; exact h3
theorem BM (pg : Ty.Pg) (h : Ty.parse Ty.Bi = .ok pg) : Ty.layB 0 Ty.jG [] = (pg.ns, pg.main) := by
 obtain ⟨pg2, h2, h3⟩ := Ty.vU
 rw [h] at h2; cases h2; exact h3
theorem jf (w : World) (hw : Words w) {R : Ending → World → Prop} (hR : ∀ w', Below w.heap.size w w' → R (.returned (.bool true)) w') :
   Calls Tryz.prog 19 #[] w R := by
 have HR := qh hR
 have HW := qh hw
 clear hR hw
 go_enter Tryz.func19, Tryz.ntmps19
 go_wp2_with fail
 refine nG (Prt.Sat.old w) Ty.AU HW.out (by decide) BI (fun pg ov v d w1 ht hv hp hs hdl h1 => ?_) (fun f w1 hq h1 => ?_)
 rotate_left
 · obtain ⟨pg, hpg, _⟩ := Ty.vM
   rcases hq with hq | ⟨pg2, _, hq⟩
   · rw [hpg] at hq; cases hq
   · exact (Ty.CP hq).elim
 rw [Ty.zI hv] at hp
 have hd := AY hp
 subst hd
 obtain ⟨oa, oc, rfl⟩ := ag (h1.row 1 rfl)
 have h2 := h1.aj (.cells #[.int .i64 0, .int .i64 0] 25) w1.heap.size
 have H2 := qh h2
 clear ht hv hp hs hdl h1 h2
 dsimp only [aP]
 go_wp2_with fail
 refine nG (Prt.Sat.pack (L := []) H2.out) Ty.Bi (HW.out.below H2.out.gy) (by decide) BM (fun pg ov v d w2 ht hv hp hs hdl h3 => ?_) (fun f w2 hq h3 => ?_)
 · exact (Ty.BK hv).elim
 have hf : f = (5, 6) := by
   obtain ⟨pg, hpg, _⟩ := Ty.vU
   rcases hq with hq | ⟨pg2, _, hq⟩
   · rw [hpg] at hq; cases hq
   · exact Ty.zg hq
 subst hf
 have h4 := (h3.unpack (i := 0) rfl).aj (.cells #[.int .i64 5, .int .i64 6] 25) w2.heap.size
 obtain ⟨og, ocap, e, hog, d0, d1⟩ := Dl (h4.row 1 rfl) 0 (by simp)
 cases e
 have x0 := h4.cell 2 rfl 0 rfl
 have x1 := h4.cell 2 rfl 1 rfl
 have y0 := h4.cell 3 rfl 0 rfl
 have y1 := h4.cell 3 rfl 1 rfl
 have H4 := qh h4
 clear hq h3 h4
 dsimp only [aP]
 go_wp2_with fail
 exact HR.out _ H4.out.gy
end
end Go.Proofs.YtdlbhiaceheffabGreatDoor
