/- Walk of bind: in a new scope. -/
import Derived.RangeFuncNested
import Derived.RangeFuncCalls
import Derived.Deep.RegionHeld3
import Derived.OrdersIn
import Derived.TacticsIn
import Derived.RangeFuncBound
import Derived.RangeFuncLeaves
import Derived.Shelf.Abstract
import Derived.Shelf.RegionOpen
import Derived.WalkKit
import Derived.OwnWalkIn
import Derived.TacticsInMore
import Derived.LoopNIn
import Derived.LoopIn
import Derived.IntWalk
import Derived.Test.YtdlbhiaceheffabGreatDoorProg
import Derived.Test.YtdlbhiaceheffabGreatDoorY17
set_option linter.all false
set_option maxRecDepth 100000
set_option maxHeartbeats 4000000
namespace Go.Proofs.YtdlbhiaceheffabGreatDoor
section
open Go Go.RowKit
open Prt (Sat As blk pur exs star ah)
open Ty (Frm Vg andX)
theorem D5 : (Tryz.prog.info? 195).map (fun i => (i.zero, i.size, i.bytes)) = some (some (.agg #[.map none, .int .i64 0]), 2, 16) := by kernel_rfl
theorem yV {v : Value} {l : List (Frm × Nat)} {p : Frm × Nat} {a : Prt.Hp} (h : Prt.row 195 2 v (l.length + 1) (l.reverse.flatMap eu ++ eu p) a) : scA v (p :: l) a := by
 unfold scA
 rw [List.reverse_cons, List.flatMap_append, List.length_cons]
 simpa using h
theorem pO (l : List (Frm × Nat)) : (l.flatMap eu).length = l.length * 2 := by
 induction l with
 | nil => rfl
 | cons a l ih => rw [List.flatMap_cons, List.length_append, ih, List.length_cons]; simp [eu]; omega
theorem zH (a : Option Addr) (n cap k : Nat) (hk : k ≤ cap) (W : World) : (Instr.slice 143 (.slice a n cap) none (some (.int .i64 (k : Nat))) none).run Tryz.prog W = .ok (.slice a k cap) W := by
 have h1 : (k : Int) ≤ cap := by omega
 have h2 : (0 : Int) ≤ k := by omega
 simp [Instr.slice, Instr.sliceBounds, Instr.sliceBound, asIntOf, h1, go_sem]
 exact fun h => absurd h (by omega)
theorem Ef {a : Option Addr} {cap : Nat} {p : Frm × Nat} {l : List (Frm × Nat)} {h : Prt.Hp} (hr : scA (.slice a (l.length + 1) cap) (p :: l) h) : scA (.slice a l.length cap) l h := by
 unfold scA at hr ⊢
 rw [List.reverse_cons, List.flatMap_append, List.length_cons] at hr
 have hl2 : (l.reverse.flatMap eu).length = l.length * 2 := by rw [pO, List.length_reverse]
 refine ⟨hl2, ?_⟩
 rcases hr.2 with ⟨h1, h2⟩ | ⟨g, cap2, cur, h1, h2, h3, h4, h5, h6⟩
 · exact absurd h2 (by omega)
 · simp only [Value.slice.injEq] at h1
   obtain ⟨rfl, _, rfl⟩ := h1
   refine .inr ⟨g, cap, cur, rfl, h2, by omega, h4, h5, ?_⟩
   have := congrArg (List.take (l.length * 2)) h6
   rw [List.take_take, List.take_left' hl2, Nat.min_eq_left (by omega)] at this
   exact this
section
variable {wB w : World} {Fr : As} {bb : Nat} {nv tv : Value} {main : Int} {frs : List Frm} {v : Vg} {nw nc : Nat}
theorem Prt.Sat.dV (h : Sat wB w [Fr, biA bb nv tv main frs v nw nc]) : ∃ sv ov wb cb ms, ms.map Prod.fst = frs ∧
   Sat wB w [Fr, blk bb (biO nv tv main sv ov wb cb), scA sv ms, bdA ov v.out, mapA 3 3 wb nw (dE v.wi), mapA 3 4 cb nc (bP v.ca), gq ms] := by
 obtain ⟨⟨sv, ov, wb, cb, ms⟩, h⟩ := h.ex (i := 1) rfl
 have h := h.unpack (i := 1) rfl
 have hms : ms.map Prod.fst = frs := h.get (i := 1) rfl fun _ ha _ => ha
 exact ⟨sv, ov, wb, cb, ms, hms, h.pick [0, 2, 3, 5, 6, 7, 4]⟩
theorem Prt.Sat.oG {sv ov : Value} {wb cb : Nat} {ms : List (Frm × Nat)} (hms : ms.map Prod.fst = frs)
   (h : Sat wB w [Fr, blk bb (biO nv tv main sv ov wb cb), scA sv ms, bdA ov v.out, mapA 3 3 wb nw (dE v.wi), mapA 3 4 cb nc (bP v.ca), gq ms]) :
   Sat wB w [Fr, biA bb nv tv main frs v nw nc] := by
 have h3 := (h.fH (P := pur (ms.map Prod.fst = frs)) (fun _ => hms)).pick [0, 7, 1, 2, 6, 3, 4, 5]
 exact (Prt.Sat.pack (L := [Fr]) h3).ent (i := 1) rfl fun _ h => ⟨⟨sv, ov, wb, cb, ms⟩, h⟩
theorem rQ (F : FuncId) (caps : Array Value) (hc : ∀ (args : Array Value) (w : World), (callFunc F args).run Tryz.prog w = .ok (.enter F args) w) {owner : Nat} {of : Int}
   (H : Sat wB w [Fr, biA bb nv tv main frs v nw nc]) (hfl : frs.length ≤ 100000) {m : Except Ty.Ft (List Frm × Vg)} {K : Frm → List Frm → Vg → Nat → Nat → Prop}
   (hdo : ∀ w1, Sat wB w1 [Fr, biA bb nv tv main (⟨[], owner, of⟩ :: frs) v nw nc] → ∀ R : Ending → World → Prop,
     (∀ fr2 frs2 v2 nw2 nc2 w2, K fr2 frs2 v2 nw2 nc2 → frs2.length ≤ 100000 → m = .ok (fr2 :: frs2, v2) → Sat wB w2 [Fr, biA bb nv tv main (fr2 :: frs2) v2 nw2 nc2] → R (.returned (.tuple #[])) w2) →
     (∀ f w2, m = .error f → Sat wB w2 [Fr] → R (.panicked (aI f)) w2) → Calls Tryz.prog F caps w1 R)
   {R : Ending → World → Prop}
   (hok : ∀ fr2 frs2 v2 nw2 nc2 w2, K fr2 frs2 v2 nw2 nc2 → m = .ok (fr2 :: frs2, v2) → Sat wB w2 [Fr, biA bb nv tv main frs2 v2 nw2 nc2] → R (.returned (.tuple #[])) w2)
   (hbad : ∀ f w2, m = .error f → Sat wB w2 [Fr] → R (.panicked (aI f)) w2) :
   Calls Tryz.prog 80 #[.pointer (some ⟨bb, 0, none⟩), .int .i64 of, .func (.func F) #[] caps] w R := by
 have HOK := qh hok
 have HBAD := qh hbad
 have HDO := qh hdo
 obtain ⟨i0, ti, tz0, tz1, tz2⟩ := info_parts D5
 obtain ⟨sv, ov, wb, cb, ms, hms, h1⟩ := H.dV
 obtain ⟨sa, sc, rfl⟩ := ag (h1.row 2 rfl)
 have hml : ms.length ≤ 100000 := by rw [← hms, List.length_map] at hfl; exact hfl
 have c3 := h1.cell 1 rfl 3 rfl
 have hbb := h1.lt 1 rfl
 have hmm := @run_makeMap Tryz.prog
 have h2 := h1.tN 9 3 w.heap.size rfl (Φ := gu []) uN
 have H2 := qh h2
 have HMS := qh hms
 clear hok hbad hdo H h1 h2 hms hfl
 go_enter Tryz.func80, Tryz.ntmps80
 go_wp2_with (at_builtin; go_loud (refine wpList_append_lies _ rfl (.tmp 10) (.tmp 14) 143 rfl 0 195 i0 _ 2 16 Tryz.underlying143 ti tz0 tz1 tz2 rfl (by decide) _ _ (ms.reverse.flatMap eu) (by rfl) ((H2.out.row 2 rfl).alloc _) ⟨w.heap.size + 1, 0, none⟩ 1 1 [.map (some w.heap.size), .int .i64 of] (by rfl) (by rfl) (World.news_of_block (cs := #[.map (some w.heap.size), .int .i64 of]) (t := 195) (fr := (0, 0)) (ak _ _ _ (by simp))) (by simp [Value.oneCell']) (by omega) (by unfold maxLen; omega) (by omega) (by simp) (w.heap.size + 2) (by simp) ?_))
 intro g8 cap8 w8 hown8 hgrow8 hat8 hlt8
 have h3 := Prt.Sat.grow (H2.out.ay _) 2 rfl hgrow8 hown8 (by simpa using hat8)
 have h4 := h3.ent (i := 2) rfl (Q := scA (.slice (some ⟨g8, 0, none⟩) (ms.length + 1) cap8) ((⟨[], owner, of⟩, w.heap.size) :: ms)) (fun _ h => yV h)
 have c3 := h4.cell 1 rfl 3 rfl
 have f3 := h4.free 1 rfl 3
 have hbb8 := h4.lt 1 rfl
 have H4 := qh h4
 clear h3 h4 hown8 hgrow8
 go_wp2_with fail
 have h5 := H4.out.store 1 rfl 3 (.slice (some ⟨g8, 0, none⟩) (ms.length + 1) cap8)
 have h6 := Prt.Sat.vH (fr := ⟨[], owner, of⟩) (mb := w.heap.size) HMS.out (h5.pick [0, 1, 2, 3, 4, 5, 7, 6])
 refine HDO.out _ h6 _ (fun fr2 frs2 v2 nw2 nc2 w2 hK hfl2 hm h7 => ?_) (fun f w2 hm h7 => ⟨rfl, HBAD.out f w2 hm h7⟩)
 obtain ⟨sv2, ov2, wb2, cb2, mb2, ms2, hms2, h8⟩ := h7.oV
 obtain ⟨g2, cap2, rfl, hg2, _, _⟩ := lg (h8.row 2 rfl)
 have hcap : ms2.length ≤ cap2 := by
   rcases (h8.row 2 rfl).2 with ⟨h1, h2⟩ | ⟨g, cap, cur, h1, _, _, h3, _⟩
   · simp only [Value.slice.injEq] at h1; omega
   · simp only [Value.slice.injEq] at h1; omega
 have hml2 : ms2.length ≤ 100000 := by rw [← hms2, List.length_map] at hfl2; exact hfl2
 have c3 := h8.cell 1 rfl 3 rfl
 have f3 := h8.free 1 rfl 3
 have hbb2 := h8.lt 1 rfl
 have hw := IntWalk.i64_in (n := (ms2.length : Int)) (by omega)
 have hs : IntKind.i64.wrap (((ms2.length + 1 : Nat) : Int) - 1) = (ms2.length : Int) := by rw [show ((ms2.length + 1 : Nat) : Int) - 1 = (ms2.length : Int) by omega]; exact hw
 have hsl := zH (some ⟨g2, 0, none⟩) (ms2.length + 1) cap2 ms2.length hcap
 have H8 := qh h8
 have HM := qh hm
 have HK := qh hK
 have HMS2 := qh hms2
 clear h5 h6 h7 h8 hm hK hms2 H4 H2 hcap hfl2
 go_wp2_with fail
 go_region
 all_goals
   go_wp2_with fail
   go_end0
   refine HOK.out fr2 frs2 v2 nw2 nc2 _ HK.out HM.out ?_
   have h9 := (H8.out.store 1 rfl 3 (.slice (some ⟨g2, 0, none⟩) ms2.length cap2)).drew
   have h10 := h9.ent (i := 2) rfl (Q := scA (.slice (some ⟨g2, 0, none⟩) ms2.length cap2) ms2) (fun _ ha => Ef ha)
   exact Prt.Sat.oG HMS2.out (h10.pick [0, 1, 2, 3, 4, 5, 7])
end
def dw : List (ByteArray × Nat) → List Frm → Vg → List Frm × Vg
 | [], frs, v => (frs, v)
 | p :: l, frs, v => dw l (gV p.1 p.2 frs v).1 (gV p.1 p.2 frs v).2
theorem kH (p : ByteArray × Nat) : ∀ (l : List (ByteArray × Nat)) (frs : List Frm) (v : Vg), dw (l ++ [p]) frs v = gV p.1 p.2 (dw l frs v).1 (dw l frs v).2
 | [], _, _ => rfl
 | q :: l, frs, v => kH p l _ _
section
variable {wB : World} {nv tv : Value} {pg : Ty.Pg} {bb : Nat} {main : Int}
theorem vg (hP : PB wB nv tv pg) {id p b bp : Nat} {ty : Int} {pids ids : List Nat} (hn : pg.ns[id]? = some { Ty.ndOf 6 p with list := pids, ty := ty, a := b }) (hbn : pg.ns[b]? = some { Ty.ndOf 26 bp with list := ids })
   {ps : List (ByteArray × Nat)} (hps : pids.length = ps.length ∧ ∀ i (h1 : i < pids.length) (h2 : i < ps.length), ∃ q ty, pg.ns[pids[i]]? = some { Ty.ndOf 16 q with text := ps[i].1, ty := ty } ∧ ps[i].2 = pids[i] ∧ ps[i].1.size ≤ maxLen)
   {cs : List (Nat × df)} (hlen : ids.length = cs.length) (hC : ∀ j (h1 : j < ids.length) (h2 : j < cs.length), eU wB nv tv bb main ids[j] cs[j].1 cs[j].2) (hn2 : ids.length ≤ 1000000) (hn3 : pids.length ≤ 1000000)
   {frs : List Frm} {v : Vg} {c : Nat} {w : World} {Fr : As} (hF : FrB wB Fr) {xb cb : Nat} {la : Option Addr} {lc : Nat} (hrow : wB.ownsRow 0 3 1 (.slice la pids.length lc) pids.length (pids.map aA))
   (H : Sat wB w [ah [Fr, blk xb (nbO ⟨6, b, 0, 0, pids, ⟨#[]⟩, 0, ty, p⟩ (.slice la pids.length lc)), blk cb (.cells #[.pointer (some ⟨bb, 0, none⟩)] 142 (0, 0))], biB bb nv tv main c frs v]) (hc : c + ps.length + bG cs ≤ 100000) {R : Ending → World → Prop}
   (hok : ∀ frs' v' w', bT (cs.map Prod.snd) (dw ps frs v).1 (dw ps frs v).2 = .ok (frs', v') → Sat wB w' [ah [Fr, blk xb (nbO ⟨6, b, 0, 0, pids, ⟨#[]⟩, 0, ty, p⟩ (.slice la pids.length lc)), blk cb (.cells #[.pointer (some ⟨bb, 0, none⟩)] 142 (0, 0))], biB bb nv tv main (c + ps.length + bG cs) frs' v'] → R (.returned (.tuple #[])) w')
   (hbad : ∀ f w', bT (cs.map Prod.snd) (dw ps frs v).1 (dw ps frs v).2 = .error f → Sat wB w' [ah [Fr, blk xb (nbO ⟨6, b, 0, 0, pids, ⟨#[]⟩, 0, ty, p⟩ (.slice la pids.length lc)), blk cb (.cells #[.pointer (some ⟨bb, 0, none⟩)] 142 (0, 0))]] → R (.panicked (aI f)) w') :
   Calls Tryz.prog 287 #[.pointer (some ⟨xb, 0, none⟩), .pointer (some ⟨cb, 0, none⟩)] w R := by
 have HOK := qh hok
 have HBAD := qh hbad
 have HF := qh hF
 have HF2 := qh (hF.ah (M := [blk xb (nbO ⟨6, b, 0, 0, pids, ⟨#[]⟩, 0, ty, p⟩ (.slice la pids.length lc)), blk cb (.cells #[.pointer (some ⟨bb, 0, none⟩)] 142 (0, 0))]))
 have hu := H.unpack (i := 0) rfl
 have x4 := hu.cell 2 rfl 4 rfl
 dsimp only at x4
 have HPS := qh hps
 have HROW := qh hrow
 have H1 := qh H
 clear hok hbad hF hu H hps hrow
 go_enter Tryz.func287, Tryz.ntmps287
 go_wp2_with fail
 go_loopw [7] (fun i wr => ∃ j : Nat, i = .int .i64 j ∧ j ≤ pids.length ∧ Hid (Sat wB wr [ah [Fr, blk xb (nbO ⟨6, b, 0, 0, pids, ⟨#[]⟩, 0, ty, p⟩ (.slice la pids.length lc)), blk cb (.cells #[.pointer (some ⟨bb, 0, none⟩)] 142 (0, 0))], biB bb nv tv main (c + j) (dw (ps.take j) frs v).1 (dw (ps.take j) frs v).2])) (fun i _ => pids.length - (intOf i).toNat)
 case atStart => exact ⟨0, rfl, Nat.zero_le _, H1.out⟩
 case round =>
   obtain ⟨j, rfl, hj, hS⟩ := hrel
   have hu := hS.out.unpack (i := 0) rfl
   have y0 := hu.cell 3 rfl 0 rfl
   have hbr := HF.out wr _ 1 hu rfl
   by_cases hlt : j < pids.length
   · obtain ⟨gl, capl, e, hgl, d0⟩ := ints_at (aH HROW.out hbr) j hlt
     cases e
     have hj2 : j < ps.length := by rw [← HPS.out.1]; exact hlt
     obtain ⟨q, ty2, hq, he, hx⟩ := HPS.out.2 j hlt hj2
     have HTK : Hid (ps.take (j + 1) = ps.take j ++ [ps[j]]) := by show _ = _; rw [List.take_succ_eq_append_getElem hj2]
     have HD := qh (fun (R : Ending → World → Prop) hR => jO (R := R) hP HF2.out hq hx hS.out (by omega) hR)
     clear hu hbr
     generalize pids[j] = pid at *
     go_wp2_with fail
     refine HD.out _ (fun w4 h4 => ?_)
     have h5 : Sat wB w4 [ah [Fr, blk xb (nbO ⟨6, b, 0, 0, pids, ⟨#[]⟩, 0, ty, p⟩ (.slice (some ⟨gl, 0, none⟩) pids.length lc)), blk cb (.cells #[.pointer (some ⟨bb, 0, none⟩)] 142 (0, 0))], biB bb nv tv main (c + (j + 1)) (dw (ps.take (j + 1)) frs v).1 (dw (ps.take (j + 1)) frs v).2] := by
       rw [HTK.out, kH, he, ← Nat.add_assoc]
       exact h4
     have H5 := qh h5
     clear h4 h5 hq he HD
     go_wp2_with fail
     go_roundw
     case rel => exact ⟨j + 1, by go_num, by omega, H5.out⟩
     case measure => simp [intOf]; omega
   · have hje : j = ps.length := by have := HPS.out.1; omega
     subst hje
     have h5 := hS.out
     rw [List.take_of_length_le (Nat.le_refl _)] at h5
     have x1 := hu.cell 2 rfl 1 rfl
     obtain ⟨nw, nc, e1, e2, e3, h6⟩ := h5.eQ
     obtain ⟨sv, ov, wb, cb2, ms, hms, h7⟩ := h6.dV
     have k0 := h7.drew.cell 1 rfl 0 rfl
     have hbb := h7.drew.lt 1 rfl
     dsimp only at x1 k0
     have hid4 : ∀ (lv : Value) (W : World), (Instr.field 66 (.agg #[.int .i64 26, .int .i64 0, .int .i64 0, .int .i64 0, lv, .string ⟨#[]⟩, .int .i64 0, .int .i64 (-1), .int .i64 (bp : Nat)]) 4).run Tryz.prog W = .ok lv W := fun lv W => zf { Ty.ndOf 26 bp with list := ids } lv W
     have H5 := qh h5
     have HC := qh hC
     have HLN := qh hlen
     clear h5 h6 h7 hms e1 e2 e3 hC hlen HPS HROW H1 hS
     go_wp2_with fail
     go_region_held (fun w' => w'.cell? ⟨cb, 0, none⟩ = some (.pointer (some ⟨bb, 0, none⟩)) ∧ w'.cell? ⟨xb, 1, none⟩ = some (.int .i64 (b : Nat))) (first | go_keep | exact ⟨s1, s2⟩ | exact ⟨s3, s4⟩)
       (first
         | (go_at_call 213; refine bH (w := wr.drew) hP (HF2.out _ _ 0 H5.out.drew rfl) hbn k0 hbb (fun lv w5 hb5 hl5 => ?_); have h8 := H5.out.drew.below hb5; have hu8 := h8.unpack (i := 0) rfl; have s1 := hu8.cell 3 rfl 0 rfl; have s2 := hu8.cell 2 rfl 1 rfl; dsimp only at s1 s2; have H8 := qh h8; have HL5 := qh hl5; clear hb5 hl5 h8 hu8; unfold aB; dsimp only [Ty.ndOf])
         | (go_at_call 82; refine je HF2.out HLN.out HC.out (fun w1 L i hs hi => aH HL5.out (HF2.out w1 L i hs hi)) hn2 H8.out hc (fun frs2 v2 w8 hq8 h9 => ?_) (fun f w8 hq8 h9 => ⟨rfl, HBAD.out f w8 hq8 h9⟩); have hu9 := h9.unpack (i := 0) rfl; have s3 := hu9.cell 3 rfl 0 rfl; have s4 := hu9.cell 2 rfl 1 rfl; dsimp only at s3 s4; have HQ := qh hq8; have H9 := qh h9; clear hq8 h9 hu9))
     all_goals
       go_wp2_with fail
       go_end0
       exact HOK.out _ _ _ HQ.out H9.out
end
def dS (wB : World) (nv tv : Value) (bb : Nat) (main : Int) (ids : List Nat) (cs : List (Nat × df)) : Prop := ids.length = cs.length ∧ ∀ j (h1 : j < ids.length) (h2 : j < cs.length), eU wB nv tv bb main ids[j] cs[j].1 cs[j].2
theorem OkS.push {c : Nat} {frs : List Frm} {v : Vg} (h : OkS c frs v) (o : Nat) {f : Int} (hf : -1 ≤ f ∧ f ≤ 1000000) : OkS (c + 1) (⟨[], o, f⟩ :: frs) v := by
 refine ⟨by simp, by have := h.len; simp; omega, fun fr hm => ?_, fun fr hm => ?_, Nat.le_trans h.out (by omega)⟩
 · rcases List.mem_cons.1 hm with rfl | hm
   · simp
   · have := h.names fr hm; omega
 · rcases List.mem_cons.1 hm with rfl | hm
   · exact hf
   · exact h.ofs fr hm
theorem OkS.pop {c : Nat} {fr : Frm} {frs : List Frm} {v : Vg} (h : OkS c (fr :: frs) v) (hne : frs ≠ []) : OkS c frs v :=
 ⟨hne, by have := h.len; simp at this; omega, fun f hf => h.names f (by simp [hf]), fun f hf => h.ofs f (by simp [hf]), h.out⟩
section
variable {wB w : World} {Fr : As} {bb : Nat} {nv tv : Value} {pg : Ty.Pg} {main : Int} {frs : List Frm} {v : Vg} {c : Nat}
theorem wF (F : FuncId) (caps : Array Value) (hcf : ∀ (args : Array Value) (w : World), (callFunc F args).run Tryz.prog w = .ok (.enter F args) w) {of : Int} (owner k : Nat) (ho : -1 ≤ of ∧ of ≤ 1000000)
   (H : Sat wB w [Fr, biB bb nv tv main c frs v]) (hc : c + 1 + k ≤ 100000) {m : Except Ty.Ft (List Frm × Vg)} (htl : ∀ frs' v', m = .ok (frs', v') → ∃ fr2, frs' = fr2 :: frs)
   (hdo : ∀ w1, Sat wB w1 [Fr, biB bb nv tv main (c + 1) (⟨[], owner, of⟩ :: frs) v] → ∀ R : Ending → World → Prop,
     (∀ frs' v' w', m = .ok (frs', v') → Sat wB w' [Fr, biB bb nv tv main (c + 1 + k) frs' v'] → R (.returned (.tuple #[])) w') →
     (∀ f w2, m = .error f → Sat wB w2 [Fr] → R (.panicked (aI f)) w2) → Calls Tryz.prog F caps w1 R)
   {R : Ending → World → Prop}
   (hok : ∀ frs' v' w', m = .ok (frs', v') → Sat wB w' [Fr, biB bb nv tv main (c + 1 + k) frs v'] → R (.returned (.tuple #[])) w')
   (hbad : ∀ f w2, m = .error f → Sat wB w2 [Fr] → R (.panicked (aI f)) w2) :
   Calls Tryz.prog 80 #[.pointer (some ⟨bb, 0, none⟩), .int .i64 of, .func (.func F) #[] caps] w R := by
 obtain ⟨nw, nc, h1, h2, h3, h4⟩ := H.eQ
 have hl := h3.len
 refine rQ F caps hcf (owner := owner) h4 (by omega) (m := m) (K := fun fr2 frs2 v2 nw2 nc2 => nw2 ≤ c + 1 + k ∧ nc2 ≤ c + 1 + k ∧ OkS (c + 1 + k) (fr2 :: frs2) v2) (fun w1 h5 R' hok' hbad' => ?_) (fun fr2 frs2 v2 nw2 nc2 w2 hK hm h5 => ?_) hbad
 · refine hdo w1 (h5.kY (by omega) (by omega) (h3.push owner ho)) R' (fun frs' v' w' hm h6 => ?_) hbad'
   obtain ⟨nw2, nc2, g1, g2, g3, g4⟩ := h6.eQ
   obtain ⟨fr2, rfl⟩ := htl _ _ hm
   exact hok' fr2 frs v' nw2 nc2 w' ⟨g1, g2, g3⟩ (by omega) hm g4
 · obtain ⟨fr3, he⟩ := htl _ _ hm
   injection he with e1 e2
   subst e2
   exact hok _ _ w2 hm (h5.kY hK.1 hK.2.1 (hK.2.2.pop h3.ne))
end
def yN (cs : List (Nat × df)) (ps : List (ByteArray × Nat)) (id : Nat) : df := fun frs v => andX (bT (cs.map Prod.snd) (dw ps (⟨[], id, (id : Nat)⟩ :: frs) v).1 (dw ps (⟨[], id, (id : Nat)⟩ :: frs) v).2) fun r => .ok (frs, r.2)
def sN (cs : List (Nat × df)) (owner : Nat) : df := fun frs v => andX (bT (cs.map Prod.snd) (⟨[], owner, Ty.topOf frs⟩ :: frs) v) fun r => .ok (frs, r.2)
def TlV (cs : List (Nat × df)) : Prop := ∀ fr l v frs' v', bT (cs.map Prod.snd) (fr :: l) v = .ok (frs', v') → ∃ fr', frs' = fr' :: l
theorem lh : ∀ (ps : List (ByteArray × Nat)) (fr : Frm) (l : List Frm) (v : Vg), ∃ fr', (dw ps (fr :: l) v).1 = fr' :: l
 | [], fr, _, _ => ⟨fr, rfl⟩
 | p :: ps, fr, l, v => lh ps _ l _
section
variable {wB : World} {nv tv : Value} {pg : Ty.Pg} {bb : Nat} {main : Int}
theorem lZ (hP : PB wB nv tv pg) {id p b bp : Nat} {ty : Int} {pids ids : List Nat} (hn : pg.ns[id]? = some { Ty.ndOf 6 p with list := pids, ty := ty, a := b }) (hbn : pg.ns[b]? = some { Ty.ndOf 26 bp with list := ids })
   {ps : List (ByteArray × Nat)} (hps : pids.length = ps.length ∧ ∀ i (h1 : i < pids.length) (h2 : i < ps.length), ∃ q ty, pg.ns[pids[i]]? = some { Ty.ndOf 16 q with text := ps[i].1, ty := ty } ∧ ps[i].2 = pids[i] ∧ ps[i].1.size ≤ maxLen)
   {cs : List (Nat × df)} (hC : dS wB nv tv bb main ids cs) (htl : TlV cs) (hn2 : ids.length ≤ 1000000) (hn3 : pids.length ≤ 1000000)
   {frs : List Frm} {v : Vg} {c : Nat} {w : World} {Fr : As} (hF : FrB wB Fr) (H : Sat wB w [Fr, biB bb nv tv main c frs v]) (hc : c + (1 + ps.length + bG cs) ≤ 100000) {R : Ending → World → Prop}
   (hok : ∀ frs' v' w', yN cs ps id frs v = .ok (frs', v') → Sat wB w' [Fr, biB bb nv tv main (c + (1 + ps.length + bG cs)) frs' v'] → R (.returned (.tuple #[])) w')
   (hbad : ∀ f w', yN cs ps id frs v = .error f → Sat wB w' [Fr] → R (.panicked (aI f)) w') :
   Calls Tryz.prog 216 #[.pointer (some ⟨bb, 0, none⟩), .int .i64 (id : Nat)] w R := by
 obtain ⟨_, _, _, _, hil, _, _, _, _, _, _, hN⟩ := hP.look hn
 have HOK := qh hok
 have HBAD := qh hbad
 have HF := qh hF
 have h1 := H.aj (.cells #[.pointer (some ⟨bb, 0, none⟩)] 142) w.heap.size
 obtain ⟨nw, nc, hnw, hnc, hOk, h2⟩ := (h1.at 1 rfl).eQ
 obtain ⟨sv, ov, wb, cb, ms, hms, h3⟩ := h2.dV
 have k0 := h3.cell 1 rfl 0 rfl
 have hbb := h3.lt 1 rfl
 (try dsimp only at k0)
 have H1 := qh h1
 have HPS := qh hps
 clear hok hbad hF H h1 h2 h3 hms hOk hnw hnc hps
 go_enter Tryz.func216, Tryz.ntmps216
 go_wp2_with fail
 refine bH hP (HF.out _ _ 0 H1.out rfl) hn k0 hbb (fun lv w2 hb2 hl2 => ?_)
 obtain ⟨la, lc, rfl⟩ := ag hl2
 unfold aB
 dsimp only [Ty.ndOf]
 (try dsimp only [Ty.ndOf] at hl2)
 have h3 := (H1.out.below hb2).aj (nbO ⟨6, b, 0, 0, pids, ⟨#[]⟩, 0, ty, p⟩ (.slice la pids.length lc)) w2.heap.size
 have y0 := (H1.out.below hb2).cell 2 rfl 0 rfl
 have hy := (H1.out.below hb2).lt 2 rfl
 have H4 := qh ((Prt.Sat.pack (L := [_]) (M := [Fr, blk w2.heap.size (nbO ⟨6, b, 0, 0, pids, ⟨#[]⟩, 0, ty, p⟩ (.slice la pids.length lc)), blk w.heap.size (.cells #[.pointer (some ⟨bb, 0, none⟩)] 142 (0, 0))]) (h3.pick [1, 0, 3, 2])).pick [1, 0])
 have HL2 := qh hl2
 clear h3 hb2 hl2 H1 k0 hbb
 go_wp2_with fail
 refine wF (of := (id : Nat)) 287 _ Tryz.call287 id (ps.length + bG cs) ⟨by omega, by omega⟩ H4.out (by omega) (m := bT (cs.map Prod.snd) (dw ps (⟨[], id, (id : Nat)⟩ :: frs) v).1 (dw ps (⟨[], id, (id : Nat)⟩ :: frs) v).2) (fun frs' v' hm => ?_) (fun w5 h5 R' hok' hbad' => ?_) (fun frs' v' w5 hm h5 => ?_) (fun f w5 hm h5 => ?_)
 · obtain ⟨fr', he⟩ := lh ps ⟨[], id, (id : Nat)⟩ frs v
   rw [he] at hm
   exact htl _ _ _ _ _ hm
 · exact vg hP hn hbn HPS.out hC.1 hC.2 hn2 hn3 HF.out HL2.out h5 (by omega) (fun frs' v' w' hq h6 => hok' frs' v' w' hq (by rw [← Nat.add_assoc]; exact h6)) hbad'
 · have HG := qh (HOK.out frs v' w5 (by unfold yN; rw [hm]; rfl) (by rw [show c + (1 + ps.length + bG cs) = c + 1 + (ps.length + bG cs) by omega]; exact (h5.unpack (i := 0) rfl).pick [1, 0]))
   clear hm h5
   go_wp2_with fail
   go_end0
   exact HG.out
 · exact ⟨rfl, HBAD.out f w5 (by unfold yN; rw [hm]; rfl) ((h5.unpack (i := 0) rfl).pick [0])⟩
end
end
section
open Go Go.RowKit
open Prt (Sat As blk pur exs star ah Hp le dis uni hp)
namespace Prt
def qZ (B : Nat) (P : As) : Prop := ∀ h, P h → ∃ h', le h' h ∧ P h' ∧ ∀ k o, h' k = some o → k < B ∨ o.isCells = true
def low (B : Nat) (P : As) : As := fun h => P h ∧ ∀ k o, h k = some o → k < B
theorem jA (B : Nat) (P : As) : qZ B (low B P) := fun h hp => ⟨h, le_refl _, hp, fun k o e => .inl (hp.2 k o e)⟩
theorem one_le {h : Hp} {b : Nat} : le (fun k => if k = b then h b else none) h := fun k o e => by
 dsimp only at e
 split at e
 · rename_i hk; subst hk; exact e
 · cases e
theorem zJ (B b : Nat) (cs : Array Value) (t : TypeId) (fr : Nat × Nat) : qZ B (blk b (.cells cs t fr)) := fun h hp => by
 refine ⟨fun k => if k = b then h b else none, one_le, by show (if b = b then h b else none) = _; rw [if_pos rfl]; exact hp, fun k o e => ?_⟩
 dsimp only at e
 split at e
 · rw [show h b = _ from hp] at e; cases e; exact .inr rfl
 · cases e
theorem zM (B : Nat) (e : TypeId) (size : Nat) (v : Value) (n : Nat) (xs : List Value) : qZ B (Prt.row e size v n xs) := fun h hp => by
 obtain ⟨h1, h2 | ⟨g, cap, cur, h2, h3, h4⟩⟩ := hp
 · exact ⟨fun _ => none, fun _ _ e => (by cases e), ⟨h1, .inl h2⟩, fun _ _ e => (by cases e)⟩
 · refine ⟨fun k => if k = g then h g else none, one_le, ⟨h1, .inr ⟨g, cap, cur, h2, by show (if g = g then h g else none) = _; rw [if_pos rfl]; exact h3, h4⟩⟩, fun k o e => ?_⟩
   dsimp only at e
   split at e
   · rw [h3] at e; cases e; exact .inr rfl
   · cases e
theorem lM {B : Nat} : ∀ {L : List As}, (∀ (i : Nat) (P : As), L[i]? = some P → qZ B P) → qZ B (ah L)
 | [], _ => fun h _ => ⟨fun _ => none, fun _ _ e => (by cases e), trivial, fun _ _ e => (by cases e)⟩
 | P :: L, hL => fun h hs => by
   obtain ⟨x, y, h1, h2, h3, h4, h5⟩ := hs
   obtain ⟨x', a1, a2, a3⟩ := hL 0 P rfl x h4
   obtain ⟨y', b1, b2, b3⟩ := lM (L := L) (fun i Q hi => hL (i + 1) Q hi) y h5
   have hd : dis x' y' := eH (bQ (eH (bQ h1) a1)) b1
   refine ⟨uni x' y', jV (le_trans a1 h2) (le_trans b1 h3), ⟨x', y', hd, iU _ _, iR hd, a2, b2⟩, fun k o e => ?_⟩
   unfold uni at e
   split at e
   · rename_i u hu; cases e; exact a3 k _ hu
   · exact b3 k o e
structure SatF (B : Nat) (w0 w : World) (L : List As) : Prop where
 os : w.os = w0.os
 tape : w.tape = w0.tape
 output : w.output = w0.output
 mem : ∃ h, le h (hp w) ∧ ah L h ∧ ∀ k o, h k = some o → k < B ∨ o.isCells = true
theorem Sat.far {B : Nat} {w0 w : World} {L : List As} (H : Sat w0 w L) (hL : ∀ (i : Nat) (P : As), L[i]? = some P → qZ B P) : SatF B w0 w L := by
 obtain ⟨h, h1, h2, h3⟩ := lM hL _ H.mem
 exact ⟨H.os, H.tape, H.output, h, h1, h2, h3⟩
theorem SatF.sat {B : Nat} {w0 w : World} {L : List As} (H : SatF B w0 w L) : Sat w0 w L := by
 obtain ⟨h, h1, h2, _⟩ := H.mem
 exact ⟨H.os, H.tape, H.output, fA h2 h1⟩
theorem SatF.turn {B : Nat} {w0 w w' : World} {L : List As} {row : Option Nat} (H : SatF B w0 w L) (hg : w.grownBy w' row) (hr : ∀ r, row = some r → B ≤ r ∧ ∃ o : Obj, w.heap[r]? = some o ∧ o.isCells = false) : SatF B w0 w' L := by
 obtain ⟨h, h1, h2, h3⟩ := H.mem
 refine ⟨hg.os.trans H.os, hg.tape.trans H.tape, hg.output.trans H.output, h, fun k o e => ?_, h2, h3⟩
 have hk := h1 k o e
 have hlt := (Array.getElem?_eq_some_iff.1 hk).1
 show w'.heap[k]? = some o
 rw [hg.block k hlt (fun er => by
   obtain ⟨h4, o2, h5, h6⟩ := hr k er.symm
   have hk2 : w.heap[k]? = some o := hk
   rw [hk2] at h5
   cases h5
   rcases h3 k o e with h7 | h7
   · omega
   · rw [h6] at h7; cases h7)]
 exact hk
theorem SatF.own {β : Type} {B : Nat} {w0 : World} (L : List As) : OwnFrom B (fun (_ : β) W => SatF B w0 W L) := fun _ _ _ _ hs hg hr => hs.turn hg hr
theorem qm {B : Nat} : ∀ {L : List As} {h : Hp}, ah L h → (∀ k o, h k = some o → k < B) → ah (L.map (low B)) h
 | [], _, _, _ => trivial
 | P :: L, h, hs, hb => by
   obtain ⟨x, y, h1, h2, h3, h4, h5⟩ := hs
   exact ⟨x, y, h1, h2, h3, ⟨h4, fun k o e => hb k o (h2 k o e)⟩, qm h5 (fun k o e => hb k o (h3 k o e))⟩
theorem Sat.E8 {w0 w : World} {L : List As} (H : Sat w0 w L) {B : Nat} (hB : w.heap.size ≤ B) : Sat w0 w (L.map (low B)) :=
 ⟨H.os, H.tape, H.output, qm H.mem (fun k o e => by have : w.heap[k]? = some o := e; have := (Array.getElem?_eq_some_iff.1 this).1; omega)⟩
end Prt
theorem wX {B : Nat} {k e b n : Nat} {Φ : Dm → Prop} (hb : b < B) : Prt.qZ B (mapA k e b n Φ) := fun h hp => by
 obtain ⟨es, clock, h1, h2⟩ := hp
 refine ⟨fun j => if j = b then h b else none, Prt.one_le, ⟨es, clock, by show (if b = b then h b else none) = _; rw [if_pos rfl]; exact h1, h2⟩, fun j o ej => ?_⟩
 dsimp only at ej
 split at ej
 · rename_i hj; subst hj; exact .inl hb
 · cases ej
end
section
open Go Go.RowKit
section
variable {P : Program} {Q : Exit → Act → World → Prop} {ops : Array Oper}
theorem oU (h : (ops.all fun o => match o.op with | .defer _ => false | _ => true) = true) : ∀ (i : Nat) (o : Oper), ops[i]? = some o → ∀ c, o.op ≠ .defer c := fun i o hi c hc => by
 rw [Array.all_eq_true] at h
 obtain ⟨h1, h2⟩ := Array.getElem?_eq_some_iff.1 hi
 have := h i h1
 rw [h2, hc] at this
 cases this
theorem uD (l n : Nat) (hQ : ∀ a w, ¬ Q .outgrown a w) (hd : ∀ (i : Nat) (o : Oper), ops[i]? = some o → ∀ c, o.op ≠ .defer c) {i : Nat} {K K' : Act → World → Prop} (hK : ∀ a w, K a w → K' a w) {a : Act} {w : World} (h : wpOp P ops Q i K a w) : wpOpIn (Fence.wide.inRound l) n P ops Q i K' a w := by
 have hL : ¬ LetsOut Q := fun ⟨a, w, h⟩ => hQ a w h
 unfold wpOp at h
 unfold wpOpIn
 cases ho : ops[i]? with
 | none =>
   simp only [ho] at h ⊢
   exact hK _ _ h
 | some o =>
   simp only [ho] at h ⊢
   split
   · rename_i hw
     rw [if_pos hw] at h
     rcases h with h | ⟨_, h⟩
     · refine ⟨fun f _ => trivial, ?_⟩
       have e : o.semAt (Fence.wide.inRound l).round a.eval = execOp a.eval o := Oper.semAt_some l _ _ (hd i o ho)
       rw [e]
       unfold Oper.wp at h
       generalize (execOp a.eval o).run P w = r at *
       cases r with
       | ok x w' =>
         cases x <;> simp only [Oper.upon, Oper.uponIn] at h ⊢
         case value v => exact hK _ _ h
         case skip => exact hK _ _ h
         case defer d => exact hK _ _ h
         case enter f args =>
           refine ⟨fun hh => (by cases hh), CallsIn.inRound l (callsIn_wide.2 (Calls.mono h fun e w'' he => ?_))⟩
           cases e with
           | returned v => exact hK _ _ he
           | panicked c => exact he
           | outgrown => exact he
         case row row args =>
           refine ⟨fun hh => (by cases hh), fun c cs _ => ?_⟩
           obtain ⟨v, w'', hr, hs⟩ := h c cs
           exact ⟨v, w'', hK _ _ hr, stepsIn_wide.2 hs⟩
       | halt x w' =>
         cases x <;> simp only [Oper.upon, Oper.uponIn] at h ⊢
         case panic v => exact h
     · exact absurd h hL
   · rename_i hw
     rw [if_neg hw] at h
     exact ⟨fun f _ => trivial, hK _ _ h⟩
theorem kF (l n : Nat) (hQ : ∀ a w, ¬ Q .outgrown a w) (hd : ∀ (i : Nat) (o : Oper), ops[i]? = some o → ∀ c, o.op ≠ .defer c) (md : Region.Mode) : ∀ (fuel : Nat) (listed : Array Bool) (a : Act) (w : World), wpAny P md ops Q fuel listed a w → wpAnyIn (Fence.wide.inRound l) n P md ops Q fuel listed a w
 | 0, _, _, _, h => h
 | fuel + 1, _, _, _, h => ⟨h.1, fun i hi => uD l n hQ hd (fun a w h => kF l n hQ hd md fuel _ a w h) (h.2 i hi)⟩
theorem tkL {md : Region.Mode} {S : World → Prop} (i : Nat) {oi : Oper} (v : Value) {fuel : Nat} {listed : Array Bool} {a : Act} {w : World} (hi : ops[i]? = some oi) (hb : (Region.noSelect ops && (Region.free md ops listed i && (Region.ready md ops listed).contains i)) = true)
   (hQ : ∀ c a w, Q (.panic c) (a.put oi.dst v) w → Q (.panic c) a w) (hw : Region.wanted oi (yielded ops a.tmps) = true) (hy : ∀ w, S w → (execOp a.eval oi).run P w = .ok (.value v) w) (hS : S w)
   (h : wpAnyH P md ops Q S fuel (listed.setIfInBounds i true) (a.put oi.dst v) w) : wpAnyH P md ops Q S (fuel + 1) listed a w := by
 simp only [Bool.and_eq_true] at hb
 exact wpAnyH_take hi hb.1 hb.2.1 hb.2.2 hQ (.inl ⟨hw, hy⟩) hS h
theorem tkJ {md : Region.Mode} {S : World → Prop} (i : Nat) {oi : Oper} {v : Value} {fuel : Nat} {listed : Array Bool} {a a' : Act} {w : World} (h : wpAnyH P md ops Q S fuel (listed.setIfInBounds i true) a' w) (hi : ops[i]? = some oi := by rfl) (hb : (Region.noSelect ops && (Region.free md ops listed i && (Region.ready md ops listed).contains i)) = true := by kernel_rfl)
 (hQ : ∀ c a w, Q (.panic c) (a.put oi.dst v) w → Q (.panic c) a w := by exact fun _ _ _ h => h) (hw : Region.wanted oi (yielded ops a.tmps) = true := by rfl) (hy : ∀ w, S w → (execOp a.eval oi).run P w = .ok (.value v) w := by intro w' hSw; (try dsimp only at hSw); go_simp; with_reducible rfl) (hS : S w := by assumption) (ha : a.put oi.dst v = a' := by simp only [Act.put, List.setIfInBounds_toArray, List.set_cons_zero, List.set_cons_succ]; rfl) : wpAnyH P md ops Q S (fuel + 1) listed a w := by
 subst ha
 exact tkL i v hi hb hQ hw hy hS h
theorem tkU {md : Region.Mode} {S : World → Prop} (i : Nat) {oi : Oper} {fuel : Nat} {listed : Array Bool} {a a' : Act} {w : World} (h : wpAnyH P md ops Q S fuel (listed.setIfInBounds i true) a' w) (hi : ops[i]? = some oi := by rfl) (hb : (Region.noSelect ops && (Region.free md ops listed i && (Region.ready md ops listed).contains i)) = true := by kernel_rfl)
 (hQ : ∀ c a w, Q (.panic c) (a.put oi.dst undef) w → Q (.panic c) a w := by exact fun _ _ _ h => h) (hw : Region.wanted oi (yielded ops a.tmps) = false := by kernel_rfl) (hS : S w := by assumption) (ha : a.put oi.dst undef = a' := by simp only [Act.put, List.setIfInBounds_toArray, List.set_cons_zero, List.set_cons_succ]; rfl) : wpAnyH P md ops Q S (fuel + 1) listed a w := by
 subst ha
 simp only [Bool.and_eq_true] at hb
 exact wpAnyH_take hi hb.1 hb.2.1 hb.2.2 hQ (.inr ⟨hw, rfl⟩) hS h
theorem eP {l n id : Nat} {S : World → Prop} {a : Act} {w : World} (hm : P.follows .mixedOrders = true) (hQ : ∀ a w, ¬ Q .outgrown a w) (hd : ∀ (i : Nat) (o : Oper), ops[i]? = some o → ∀ c, o.op ≠ .defer c)
   (h : wpAnyH P .any ops Q S ops.size (Array.replicate ops.size false) a w.drew) : (Code.region id ops true).wpIn (Fence.wide.inRound l) n P Q a w :=
 wpIn_region_any hm (kF l n hQ hd _ _ _ _ _ (wpAny_of_held _ _ _ _ h))
end
end
section
open Go Go.RowKit
open Ty (Frm Vg)
attribute [local go_sem] Oper.semAt_some
def upB (n k : Nat) : List (Fin n) := (List.finRange n).take k
theorem kS {n k : Nat} (h : k < n) : upB n (k + 1) = upB n k ++ [⟨k, h⟩] := by
 unfold upB
 rw [List.take_succ_eq_append_getElem (by simpa using h)]
 simp
theorem sV {n k : Nat} (h : k ≤ n) : (upB n k).length = k := by simp [upB, h]
def Cm (ms : List (Frm × Nat)) (x : Fin ms.length) : Array Value := #[.int .i64 ((ms.length : Int) - 1 - (x.1 : Int)), .agg #[.map (some ms[x.1].2), .int .i64 ms[x.1].1.of]]
def yt (W : World) (g : Nat) (ms : List (Frm × Nat)) : Prop := ∀ k (h : k < ms.length), W.cell? ⟨g, (ms.length - 1 - k) * 2, none⟩ = some (.map (some ms[k].2)) ∧ W.cell? ⟨g, (ms.length - 1 - k) * 2 + 1, none⟩ = some (.int .i64 ms[k].1.of)
theorem yt.below {n0 : Nat} {A B : World} {g : Nat} {ms : List (Frm × Nat)} (hg : g < n0) (h : Below n0 A B) (r : yt A g ms) : yt B g ms := fun k hk => ⟨(h.cell (p := ⟨g, _, none⟩) hg).trans (r k hk).1, (h.cell (p := ⟨g, _, none⟩) hg).trans (r k hk).2⟩
theorem yO (F : Fence) (n : Nat) (hf : F.fn 321) (hro : F.round = none) (hn : 1 ≤ n) (l Bs n0 g cap : Nat) (ms : List (Frm × Nat)) (hlen : ms.length ≤ 1000000) (hg : g < n0) (hBn : Bs < n0) (J Jx : List (Fin ms.length) → World → Prop)
   (hY : ∀ pre x W, J pre W → pre.length < ms.length → YieldAt F (n - 1) Tryz.prog l (Cm ms x) W fun e W' =>
     (e = .returned (.bool true) ∧ J (pre ++ [x]) W' ∧ Below n0 W W') ∨ (e = .returned (.bool false) ∧ Jx (pre ++ [x]) W'))
   (W : World) (hBs : W.cell? ⟨Bs, 0, none⟩ = some (.slice (some ⟨g, 0, none⟩) ms.length cap)) (hc : yt W g ms) (h0 : J [] W) :
   CallsIn F n Tryz.prog 321 #[.func (.yield l) #[] #[], .pointer (some ⟨Bs, 0, none⟩)] W fun e W' => (∃ v, e = .returned v) ∧
     ((∃ ys, ys = upB ms.length ms.length ∧ J ys W') ∨ (∃ pre, (∃ k, k ≤ ms.length ∧ pre = upB ms.length k) ∧ Jx pre W')) := by
 refine callsIn_of_wp Tryz.func321 rfl hf ?_ hro
 simp only [Tryz.ntmps321, List.size_toArray, List.length_cons, List.length_nil, Nat.reduceAdd, Nat.reduceSub, Array.replicate_succ, Array.replicate_zero, List.push_toArray, List.append_toArray, List.nil_append, List.cons_append]
 have hw1 := IntWalk.i64_in (n := (ms.length : Int) - 1) (by omega)
 gi_wp2
 gi_loopw [3] (fun i wr => ∃ k : Nat, k ≤ ms.length ∧ i = .int .i64 ((ms.length : Int) - 1 - k) ∧ J (upB ms.length k) wr ∧ Below n0 W wr)
   (fun i _ => (intOf i + 1).toNat)
 case atStart => exact ⟨0, Nat.zero_le _, by simp, h0, Below.refl _ _⟩
 case round =>
   obtain ⟨k, hk, rfl, hJs, hnx⟩ := hrel
   have hw2 := IntWalk.i64_in (n := (ms.length : Int) - 1 - k - 1) (by omega)
   by_cases hlt : k < ms.length
   · obtain ⟨fn, tmps, assign, body, hy, hR⟩ := hY _ ⟨k, hlt⟩ wr hJs (by rw [sV hk]; exact hlt)
     obtain ⟨d0, d1⟩ := hc.below hg hnx k hlt
     have hb1 := (hnx.cell (p := ⟨Bs, 0, none⟩) hBn).trans hBs
     have e1 : (0 : Int) ≤ (ms.length : Int) - 1 - k := by omega
     have e2 : (ms.length : Int) - 1 - k < ms.length := by omega
     have e3 : ((ms.length : Int) - 1 - k).toNat = ms.length - 1 - k := by omega
     unfold Cm at hy
     dsimp only at hy
     gi_wp2
     refine hR.mono ?_
     rintro e W3 (⟨rfl, hJ3, hk3⟩ | ⟨rfl, hJx3⟩)
     · gi_wp2
       go_roundw
       case rel => exact ⟨k + 1, by omega, by congr 1; omega, by rw [kS hlt]; exact hJ3, hnx.trans hk3⟩
       case measure => simp [intOf]; omega
     · gi_wp2
       refine bodyPost_ret (results_none rfl _ _ _) rfl ?_
       exact ⟨⟨_, rfl⟩, .inr ⟨_, ⟨k + 1, by omega, (kS hlt).symm⟩, hJx3⟩⟩
   · obtain rfl : k = ms.length := by omega
     have e1 : ¬ (0 : Int) ≤ (ms.length : Int) - 1 - ms.length := by omega
     gi_wp2
     go_end0
     exact ⟨⟨_, rfl⟩, .inl hJs⟩
theorem BB (F : Fence) (n : Nat) (hf : F.fn 284) (hro : F.round = none) (a : Option Addr) (len cap : Nat) (w : World) :
   CallsIn F n Tryz.prog 284 #[.slice a len cap] w fun e w' => e = .returned (.func (.func 321) #[] #[.pointer (some ⟨w.heap.size, 0, none⟩)]) ∧ w' = w.alloc (.cells #[.slice a len cap] 143) := by
 refine callsIn_of_wp Tryz.func284 rfl hf ?_ hro
 simp only [Tryz.ntmps284, List.size_toArray, List.length_cons, List.length_nil, Nat.reduceAdd, Nat.reduceSub, Array.replicate_succ, Array.replicate_zero, List.push_toArray, List.append_toArray, List.nil_append, List.cons_append]
 gi_wp2
 go_ret
 exact ⟨rfl, rfl⟩
theorem sS (F : Fence) (n : Nat) (hf : F.fn 321) (hro : F.round = none) (hn : 1 ≤ n) (Bs n0 g cap : Nat) (ms : List (Frm × Nat)) (hlen : ms.length ≤ 1000000) (w : World) (hBs : Bs < n0) (hg : g < n0) (hn0 : n0 ≤ w.heap.size)
   (hb : w.cell? ⟨Bs, 0, none⟩ = some (.slice (some ⟨g, 0, none⟩) ms.length cap)) (hc : yt w g ms) :
   SeqStopsK F n Tryz.prog 321 #[.pointer (some ⟨Bs, 0, none⟩)] (Cm ms) (Below n0) (fun ys => ys = upB ms.length ms.length) (fun pre => ∃ k, k ≤ ms.length ∧ pre = upB ms.length k) ms.length w := fun l J Jx W hW _ _ hY h0 =>
 yO F n hf hro hn l Bs n0 g cap ms hlen hg hBs J Jx hY W ((hW.cell (p := ⟨Bs, 0, none⟩) (Nat.lt_of_lt_of_le hBs hn0)).trans hb) (hc.below hg (hW.mono hn0)) h0
end
end Go.Proofs.YtdlbhiaceheffabGreatDoor
