/- Walk of the reference's see: functions. -/
import Derived.Deep.RegionHeld3
import Derived.Test.YtdlbhiaceheffabGreatDoorY21
set_option linter.all false
set_option maxRecDepth 100000
set_option maxHeartbeats 4000000
namespace Go.Proofs.YtdlbhiaceheffabGreatDoor
section
open Go Go.RowKit
open Prt (Sat As blk pur exs star ah)
open Ty (Kn Sg Mo andX bW dM bn)
namespace Ty
def PN (pg : Pg) (id : Nat) (pids : List Nat) (pn : List Kn) : Prop := pids.length = pn.length ∧ ∀ i (h1 : i < pids.length) (h2 : i < pn.length), ∃ ps ty, pg.ns[pids[i]]? = some { ndOf 16 ps with text := pn[i].text, ty := ty } ∧ pn[i] = ⟨pn[i].text, pids[i], id, id⟩
def fnF (pn : List Kn) (cs : List (Nat × bV)) : bV := fun env s => andX (bW (cs.map Prod.snd) (env ++ pn) s) fun r => .ok (env, r.2)
theorem Df {pn : List Kn} {cs : List (Nat × bV)} (h : ∀ p ∈ cs, dM p.1 p.2) : dM (bn cs) (fnF pn cs) := fun env s r h1 => by
 obtain ⟨m, h2, h3⟩ := andX_inv h1
 cases h3
 exact ⟨(fQ cs h _ _ _ h2).1, [], by simp, by simp⟩
end Ty
theorem AQ {wB w : World} {Fr : As} {nv tv : Value} {sb : Nat} {main : Int} {env y : List Kn} {K K2 : Nat} {r : Except Ty.Ft (List Kn × Sg)} (hr : ∀ p, r = .ok p → ∃ x, p.1 = env ++ x) (H : Sat wB w [Fr, siE sb nv tv main K (env ++ y) r]) :
   ∃ x s' ft, Sat wB w [Fr, siA sb nv tv main (env ++ x) s' ft] ∧ ∀ w', Sat wB w' [Fr, siA sb nv tv main env s' ft] → Sat wB w' [Fr, siE sb nv tv main K2 env (andX r fun p => .ok (env, p.2))] := by
 cases r with
 | ok p =>
   obtain ⟨x, hx⟩ := hr p rfl
   obtain ⟨p1, p2⟩ := p
   dsimp only at hx
   subst hx
   exact ⟨x, p2, (0, 0), H, fun w' h => h⟩
 | error e =>
   obtain ⟨q, h⟩ := H.ex (i := 1) rfl
   have h := (h.unpack (i := 1) rfl)
   have hq : q.1.length ≤ K ∧ e.1 ≠ 0 := h.get (i := 1) rfl fun _ ha _ => ha
   rw [List.append_assoc] at h
   refine ⟨y ++ q.1, q.2, e, h.pick [0, 2], fun w' h' => ?_⟩
   have h2 := (h'.fH (P := pur (([] : List Kn).length ≤ K2 ∧ e.1 ≠ 0)) (fun _ => ⟨by simp, hq.2⟩)).pick [0, 2, 1]
   refine (Prt.Sat.pack (L := [Fr]) h2).ent (i := 1) rfl fun a ha => ⟨([], q.2), ?_⟩
   simpa using ha
section
variable {wB w : World} {Fr : As} {nv tv : Value} {pg : Ty.Pg} {sb : Nat} {main : Int} {env : List Kn} {s : Sg}
section
variable {P : Program} {ops : Array Oper} {Q : Exit → Act → World → Prop}
theorem tkH {md : Region.Mode} {S : World → Prop} (i : Nat) {oi : Oper} {v : Value} {fuel : Nat} {listed : Array Bool} {a a' : Act} {w : World} (h : wpAnyH P md ops Q S fuel (listed.setIfInBounds i true) a' w) (hi : ops[i]? = some oi := by rfl) (hb : (Region.noSelect ops && (Region.free md ops listed i && (Region.ready md ops listed).contains i)) = true := by kernel_rfl)
   (hQ : ∀ c a w, Q (.panic c) (a.put oi.dst v) w → Q (.panic c) a w := by exact fun _ _ _ h => h) (hw : Region.wanted oi (yielded ops a.tmps) = true := by rfl) (hy : ∀ w, S w → (execOp a.eval oi).run P w = .ok (.value v) w := by intro w' hSw; obtain ⟨s0, s1, s2, s3⟩ := hSw; go_simp; with_reducible rfl) (hS : S w := by assumption) (ha : a.put oi.dst v = a' := by simp only [Act.put, List.setIfInBounds_toArray, List.set_cons_zero, List.set_cons_succ]; rfl) : wpAnyH P md ops Q S (fuel + 1) listed a w := by
 subst ha
 simp only [Bool.and_eq_true] at hb
 exact wpAnyH_take hi hb.1 hb.2.1 hb.2.2 hQ (.inl ⟨hw, hy⟩) hS h
end
theorem Ee (hP : PB wB nv tv pg) {id p b bp : Nat} {ty : Int} {pids ids : List Nat} (hn : pg.ns[id]? = some { Ty.ndOf 6 p with list := pids, ty := ty, a := b }) (hbn : pg.ns[b]? = some { Ty.ndOf 26 bp with list := ids })
   {pn : List Kn} (hpn : Ty.PN pg id pids pn) {o f : Int} {cs : List (Nat × bV)} (hC : dL wB nv tv pg sb main (id : Nat) (id : Nat) ids cs) (hln : ids.length ≤ 1000000) {K : Nat} (hK : pn.length + bn cs ≤ K) :
   SeeC wB nv tv pg sb main id o f K (Ty.fnF pn cs) := by
 obtain ⟨g, cap, lv, rfl, hnl, hg, hcap, hcm, hA, hl, _, hN⟩ := hP.look hn
 obtain ⟨g2, cap2, lv2, e2, hnb, _, _, _, hA2, hl2, _, _⟩ := hP.look hbn
 cases e2
 refine ⟨hnl, fun env s r h => ?_, ?_⟩
 · obtain ⟨a, x, b, c⟩ := Ty.Df hC.good env s r h
   exact ⟨a.mono (by omega), x, b, by omega⟩
 intro env s w Fr hF H b1 b2 b3 R hR
 have HR := qh hR
 have hb := hF w _ 0 H rfl
 obtain ⟨q0, q1, q2, q3, q4, q5, q6, q7, q8⟩ := hA.below hb
 have hgw : g < w.heap.size := Nat.lt_of_lt_of_le hg hb.size
 obtain ⟨i0, ti, tz0, tz1, tz2⟩ := info_parts rF
 obtain ⟨ev, ov, cv, h1⟩ := H.ik
 have c0 := h1.cell 1 rfl 0 rfl
 have c1 := h1.cell 1 rfl 3 rfl
 have c6 : w.cell? ⟨sb, 6, none⟩ = some (.int .i64 (0 : Nat)) := h1.cell 1 rfl 6 rfl
 have hsb := h1.lt 1 rfl
 obtain ⟨ea, ec, rfl⟩ := ag (h1.row 2 rfl)
 obtain ⟨oa, oc, rfl⟩ := ag (h1.row 3 rfl)
 obtain ⟨ca, cc, rfl⟩ := ag (h1.row 4 rfl)
 obtain ⟨la, lc, rfl⟩ := ag hl
 obtain ⟨ma, mc, rfl⟩ := ag hl2
 have h2 := h1.aj (nbO { Ty.ndOf 6 p with list := pids, ty := ty, a := b } (.slice la pids.length lc)) w.heap.size
 have H2 := qh h2
 have hlB := qh hl
 have hlB2 := qh hl2
 have HA2 := qh hA2
 have HF := qh hF
 have HP := qh (fun (w1 : World) (r : Except Ty.Ft (List Kn × Sg)) (k K ij : Nat) (F : bV) (C : SeeC wB (.slice (some ⟨g, 0, none⟩) pg.ns.length cap) tv pg sb main ij (id : Nat) (id : Nat) k F) hr H1 R hR => jB (w := w1) (R := R) hP hF (r := r) (K := K) (env := env ++ pn) C hr H1 hR)
 have HC := qh hC
 have HB : Hid ((env ++ pn).length + bn cs ≤ 2600 ∧ s.out.length + bn cs ≤ 2600 ∧ s.caught.length + bn cs ≤ 2600) := ⟨by rw [List.length_append]; omega, by omega, by omega⟩
 have HL := qh hC.1
 have HG := qh (Ty.fQ cs hC.good)
 have HPL := qh hpn.1
 have hpl2 : pids.length ≤ 2600 := by have := hpn.1; omega
 have HPN : Hid (∀ (w1 : World), Below wB.heap.size wB w1 → ∀ j (h1 : j < pids.length) (h2 : j < pn.length), w1.cell? ⟨g, pids[j] * 9 + 5, none⟩ = some (.string pn[j].text) ∧ pids[j] < pg.ns.length ∧ g < w1.heap.size ∧ pn[j] = ⟨pn[j].text, pids[j], id, id⟩) := fun w1 hb1 j h1 h2 => by
   obtain ⟨ps, ty2, hq, he⟩ := hpn.2 j h1 h2
   obtain ⟨g3, cap3, lv3, e3, hn3, hg3, _, _, hA3, _, _, _⟩ := hP.look hq
   cases e3
   exact ⟨(hA3.below hb1).q5, hn3, Nat.lt_of_lt_of_le hg3 hb1.size, he⟩
 unfold maxLen at hcm
 clear hR hA hl hb hF H h1 h2 hP hn hC hpn hl2 hA2 hbn hK
 generalize pg.ns.length = N at *
 dsimp only [Ty.ndOf] at *
 go_enter Tryz.func45, Tryz.ntmps45
 go_wp2_with fail
 go_loopw [12] (fun i wr => ∃ j : Nat, i = .int .i64 j ∧ j ≤ pids.length ∧ ∃ (fa : Option Addr) (fc : Nat), Hid (Sat wB wr [Fr, blk sb (siO (.slice (some ⟨g, 0, none⟩) N cap) tv main (.slice fa (env.length + j) fc) (.slice oa s.out.length oc) (.slice ca s.caught.length cc) (0, 0)), Prt.row 154 4 (.slice fa (env.length + j) fc) (env.length + j) ((env ++ pn.take j).flatMap bZ), bdA (.slice oa s.out.length oc) s.out, inA (.slice ca s.caught.length cc) s.caught, blk w.heap.size (nbO ⟨6, b, 0, 0, pids, ⟨#[]⟩, 0, ty, p⟩ (.slice la pids.length lc))])) (fun i _ => pids.length - (intOf i).toNat)
 case atStart => exact ⟨0, rfl, Nat.zero_le _, ea, ec, by show Sat _ _ _; simp only [List.take_zero, List.append_nil, Nat.add_zero]; exact H2.out⟩
 case round =>
   obtain ⟨j, rfl, hj, fa, fc, hS⟩ := hrel
   have c1 := hS.out.cell 1 rfl 3 rfl
   have c0 := hS.out.cell 1 rfl 0 rfl
   have p4 := hS.out.cell 5 rfl 4 rfl
   dsimp only at c0 c1 p4
   have hbr := HF.out wr _ 0 hS.out rfl
   by_cases hlt : j < pids.length
   · obtain ⟨gl, capl, e, hgl, d0⟩ := ints_at (aH hlB.out hbr) j hlt
     cases e
     have hj2 : j < pn.length := by rw [← HPL.out]; exact hlt
     obtain ⟨x5, hpid, hgr, hpe⟩ := HPN.out wr hbr j hlt hj2
     have HTK : Hid ((env ++ pn.take (j + 1)).flatMap bZ = (env ++ pn.take j).flatMap bZ ++ [.string pn[j].text, .int .i64 (pids[j] : Nat), .int .i64 (id : Nat), .int .i64 (id : Nat)]) := by
       show _ = _
       rw [List.take_succ_eq_append_getElem hj2, ← List.append_assoc, List.flatMap_append (ys := [pn[j]])]
       congr 1
       rw [List.flatMap_singleton, hpe]; rfl
     have hsb1 := hS.out.lt 1 rfl
     have hb81 := hS.out.lt 5 rfl
     have HROW := qh (hS.out.row 2 rfl)
     have HX : Hid (∀ w1 : World, Below wB.heap.size wB w1 → w1.cell? ⟨gl, j, none⟩ = some (.int .i64 (pids[j] : Nat)) ∧ w1.cell? ⟨g, pids[j] * 9 + 5, none⟩ = some (.string pn[j].text)) := fun w1 hb1 => by
       obtain ⟨_, _, e2, _, dd⟩ := ints_at (aH hlB.out hb1) j hlt
       cases e2
       exact ⟨dd, (HPN.out w1 hb1 j hlt hj2).1⟩
     clear hpe
     generalize pids[j] = pid at *
     generalize pn[j].text = tx at *
     go_upto_region 23 with fail
     have hSd : wr.drew.cell? ⟨sb, 0, none⟩ = some (.slice (some ⟨g, 0, none⟩) N cap) ∧ wr.drew.cell? ⟨w.heap.size, 4, none⟩ = some (.slice (some ⟨gl, 0, none⟩) pids.length lc) ∧ wr.drew.cell? ⟨gl, j, none⟩ = some (.int .i64 (pid : Nat)) ∧ wr.drew.cell? ⟨g, pid * 9 + 5, none⟩ = some (.string tx) := ⟨hS.out.drew.cell 1 rfl 0 rfl, hS.out.drew.cell 5 rfl 4 rfl, HX.out _ (HF.out _ _ 0 hS.out.drew rfl)⟩
     have hSa := fun o => (show (wr.drew.alloc o).cell? ⟨sb, 0, none⟩ = some (.slice (some ⟨g, 0, none⟩) N cap) ∧ (wr.drew.alloc o).cell? ⟨w.heap.size, 4, none⟩ = some (.slice (some ⟨gl, 0, none⟩) pids.length lc) ∧ (wr.drew.alloc o).cell? ⟨gl, j, none⟩ = some (.int .i64 (pid : Nat)) ∧ (wr.drew.alloc o).cell? ⟨g, pid * 9 + 5, none⟩ = some (.string tx) from ⟨(hS.out.drew.ay o).cell 1 rfl 0 rfl, (hS.out.drew.ay o).cell 5 rfl 4 rfl, HX.out _ (HF.out _ _ 0 (hS.out.drew.ay o) rfl)⟩)
     refine wp_region_held_drew (S := (fun w' => w'.cell? ⟨sb, 0, none⟩ = some (.slice (some ⟨g, 0, none⟩) N cap) ∧ w'.cell? ⟨w.heap.size, 4, none⟩ = some (.slice (some ⟨gl, 0, none⟩) pids.length lc) ∧ w'.cell? ⟨gl, j, none⟩ = some (.int .i64 (pid : Nat)) ∧ w'.cell? ⟨g, pid * 9 + 5, none⟩ = some (.string tx))) (by kernel_rfl) hSd (fun hHeld => ?_)
     clear hHeld
     refine tkH 0 ?_
     refine tkH 1 ?_
     refine tkH 2 ?_
     refine tkH 3 ?_
     refine tkH 5 ?_
     refine tkH 6 ?_
     refine tkH 7 ?_
     refine tkH 8 ?_
     refine tkH 9 ?_
     refine tkH 10 ?_
     refine tkH 11 ?_
     refine tkH 12 ?_
     refine tkH 13 ?_
     refine tkH 14 ?_
     refine tkH 15 ?_
     refine tkH 16 ?_
     refine tkH 17 ?_
     refine tkH 18 ?_
     refine tkH 19 ?_
     refine tkH 20 ?_
     refine tkH 21 ?_
     refine tkH 22 ?_
     refine tkH 23 ?_
     refine tkH 24 ?_
     refine tkH 25 ?_
     refine wpAnyH_ready (rs := [4, 26]) (by kernel_rfl) (by simp) ?_
     refine AllReadyH.cons rfl (fun K hK => ?_) (AllReadyH.cons rfl (fun K hK => ?_) AllReadyH.nil)
     all_goals go_simp
     refine hK.out _ _ hSd (fun hHeld => ?_)
     rotate_left
     refine hK.out _ _ (hSa _) (fun hHeld => ?_)
     rotate_left
     all_goals clear hK K hHeld
     refine wpAnyH_ready (rs := [26]) (by kernel_rfl) (by simp) ?_
     rotate_left
     refine wpAnyH_ready (rs := [4]) (by kernel_rfl) (by simp) ?_
     rotate_left
     all_goals refine AllReadyH.cons rfl (fun K hK => ?_) AllReadyH.nil
     all_goals go_simp
     all_goals refine hK.out _ _ (hSa _) (fun hHeld => ?_)
     all_goals clear hK K hHeld
     all_goals
       refine wpAnyH_ready (rs := [27]) (by kernel_rfl) (by simp) ?_
       refine AllReadyH.cons rfl (fun K hK => ?_) AllReadyH.nil
       refine step_append_lies _ (by rfl) _ _ _ (by rfl) 0 154 i0 _ 4 40 Tryz.underlying93 ti tz0 tz1 tz2 rfl (by omega) (.slice fa (env.length + j) fc) (env.length + j) ((env ++ pn.take j).flatMap bZ) (by rfl) ((HROW.out.alloc _).drew) ⟨wr.heap.size, 0, none⟩ 1 1 [.string tx, .int .i64 (pid : Nat), .int .i64 (id : Nat), .int .i64 (id : Nat)] (by rfl) (by rfl) (World.news_of_block (cs := #[.string tx, .int .i64 (pid : Nat), .int .i64 (id : Nat), .int .i64 (id : Nat)]) (t := 154) (fr := (0, 0)) (aV (ak _ _ _ (by simp)))) (by simp [Value.oneCell']) (by omega) (by unfold maxLen; omega) (by omega) (by simp) (wr.heap.size + 1) (by simp) ?_
       intro g4 cap4 w4 hown4 hgrow4 hat4 hlt4
       have h6 := Prt.Sat.grow (hS.out.ay _).drew 2 rfl hgrow4 hown4 (by simpa using hat4)
       have d4 := h6.cell 1 rfl 3 rfl
       have e4 := h6.free 1 rfl 3
       have hs4 := h6.lt 1 rfl
       have hS8 : w4.cell? ⟨sb, 0, none⟩ = some (.slice (some ⟨g, 0, none⟩) N cap) ∧ w4.cell? ⟨w.heap.size, 4, none⟩ = some (.slice (some ⟨gl, 0, none⟩) pids.length lc) ∧ w4.cell? ⟨gl, j, none⟩ = some (.int .i64 (pid : Nat)) ∧ w4.cell? ⟨g, pid * 9 + 5, none⟩ = some (.string tx) := ⟨h6.cell 1 rfl 0 rfl, h6.cell 5 rfl 4 rfl, HX.out w4 (HF.out w4 _ 0 h6 rfl)⟩
       refine hK.out _ _ hS8 (fun hHeld => ?_)
       have H6 := qh h6
       clear h6 hK K hHeld
       (try simp only [Act.put, lyA, lyB, lyC, lyD, lyE, lyF])
       refine tkH 28 ?_
       refine tkH 29 ?_
       refine wpAnyH_ready (rs := [30]) (by kernel_rfl) (by simp) ?_
       refine AllReadyH.cons rfl (fun K hK => ?_) AllReadyH.nil
       go_simp
       have h9 := H6.out.store 1 rfl 3 (.slice (some ⟨g4, 0, none⟩) (env.length + j + 1) cap4)
       refine hK.out _ _ ⟨h9.cell 1 rfl 0 rfl, h9.cell 5 rfl 4 rfl, HX.out _ (HF.out _ _ 0 h9 rfl)⟩ (fun hHeld => ?_)
       clear hK K hHeld h9
       refine wpAnyH_done (by kernel_rfl) ?_ _
     all_goals
       have h7 : Sat wB (w4.setCell ⟨sb, 3, none⟩ (.slice (some ⟨g4, 0, none⟩) (env.length + j + 1) cap4)) [Fr, blk sb (siO (.slice (some ⟨g, 0, none⟩) N cap) tv main (.slice (some ⟨g4, 0, none⟩) (env.length + j + 1) cap4) (.slice oa s.out.length oc) (.slice ca s.caught.length cc) (0, 0)), Prt.row 154 4 (.slice (some ⟨g4, 0, none⟩) (env.length + j + 1) cap4) (env.length + j + 1) ((env ++ pn.take (j + 1)).flatMap bZ), bdA (.slice oa s.out.length oc) s.out, inA (.slice ca s.caught.length cc) s.caught, blk w.heap.size (nbO ⟨6, b, 0, 0, pids, ⟨#[]⟩, 0, ty, p⟩ (.slice (some ⟨gl, 0, none⟩) pids.length lc))] := by
         rw [HTK.out]
         exact H6.out.store 1 rfl 3 _
       have H7 := qh h7
       clear h7 HROW c0 c1 p4 x5 d0 H6
       go_wp2_with fail
       go_roundw
       case rel => exact ⟨j + 1, by go_num, by omega, some ⟨g4, 0, none⟩, cap4, H7.out⟩
       case measure => simp [intOf]; omega
   · have hje : j = pn.length := by have := HPL.out; omega
     subst hje
     have hS2 := hS.out
     rw [List.take_of_length_le (Nat.le_refl _), ← List.length_append] at hS2
     obtain ⟨r0, r1, r2, r3, r4, r5, r6, r7, r8⟩ := HA2.out.below hbr
     have hgr := Nat.lt_of_lt_of_le hg hbr.size
     have p1 := hS2.cell 5 rfl 1 rfl
     have H2 := qh hS2
     dsimp only at p1
     clear r0 r1 r2 r3 r5 r6 r7 r8
     clear hS
     clear hS2
     go_upto_region 24 with fail
     go_quiet (fail)
     have h3 := Prt.Sat.fP (f := (0, 0)) (q := (.slice fa (env ++ pn).length fc, .slice oa s.out.length oc, .slice ca s.caught.length cc)) ((H2.out.below (Go.below_drewN (Below.refl wr.heap.size wr) nq)).pick [0, 1, 2, 3, 4])
     have H3 := qh h3
     clear h3 H2 p1 hgr c0 c1 hbr r4
     generalize wr.drewN nq = w1 at *
     go_wp2_with fail
     go_loopw [14] (fun i wx => ∃ j : Nat, i = .int .i64 j ∧ j ≤ ids.length ∧ Hid (Sat wB wx [Fr, siE sb (.slice (some ⟨g, 0, none⟩) N cap) tv main (bn cs) (env ++ pn) (bW ((cs.map Prod.snd).take j) (env ++ pn) s)])) (fun i _ => ids.length - (intOf i).toNat)
     case atStart => exact ⟨0, rfl, Nat.zero_le _, H3.out⟩
     case round =>
       obtain ⟨j, rfl, hj, hS⟩ := hrel
       by_cases hlt : j < ids.length
       · obtain ⟨gl, capl, e, hgl, d0⟩ := ints_at (aH hlB2.out (HF.out wr _ 0 hS.out rfl)) j hlt
         cases e
         have hj2 : j < cs.length := by rw [← HL.out]; exact hlt
         obtain ⟨hr, he⟩ := HC.out.at HB.out.1 HB.out.2.1 HB.out.2.2 hj2
         have HST := qh (fun R hR => HP.out wr _ _ _ _ _ (HC.out.2 j hlt hj2) hr hS.out R hR)
         rw [he] at HST
         clear hr he
         generalize ids[j] = ij at *
         go_wp2_with fail
         refine HST.out _ (fun w4 h4 => ?_)
         have H4 := qh h4
         clear h4
         go_wp2_with fail
         go_roundw
         case rel => exact ⟨j + 1, by go_num, by omega, H4.out⟩
         case measure => simp [intOf]; omega
       · have hje : j = cs.length := by have := HL.out; omega
         have h6 := hS.out
         rw [hje, List.take_of_length_le (by simp)] at h6
         obtain ⟨x, s', ft, h8, hpost⟩ := AQ (K2 := K) (fun p hp => by obtain ⟨_, x, hx, _⟩ := HG.out (env ++ pn) s p hp; exact ⟨pn ++ x, by rw [hx, List.append_assoc]⟩) h6
         obtain ⟨ea2, n, ec2, hn, hfc, c3, c3f, hsb3, h9⟩ := h8.Dk
         have hsl := pM ea2 n ec2 env.length hfc
         have H9 := qh (hpost _ h9)
         clear h6 h8 h9 hpost hje hn hfc
         go_wp2_with fail
         go_end0
         exact HR.out _ H9.out
end
end
end Go.Proofs.YtdlbhiaceheffabGreatDoor
