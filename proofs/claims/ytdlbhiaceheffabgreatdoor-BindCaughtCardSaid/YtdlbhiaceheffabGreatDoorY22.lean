/- Walk of the reference's see: where a name is set. -/
import Derived.Test.YtdlbhiaceheffabGreatDoorY21
set_option linter.all false
set_option maxRecDepth 100000
set_option maxHeartbeats 4000000
namespace Go.Proofs.YtdlbhiaceheffabGreatDoor
section
open Go Go.RowKit
open Prt (Sat As blk pur exs star ah)
open Ty (Kn Sg Mo andX bW dM bn)
namespace Ty
def ui (p : Nat) (x : ByteArray) (id : Nat) (f : Int) (G : bV) : bV := fun env s => andX (useN p x id true f env s) fun s => G env s
theorem zt {p : Nat} {x : ByteArray} {id : Nat} {f : Int} {k : Nat} {G : bV} (h : dM k G) : dM (k + 1) (ui p x id f G) := fun env s r h1 => by
 obtain ⟨m, h2, h3⟩ := andX_inv h1
 obtain ⟨g1, y, g2, g3⟩ := h env m r h3
 exact ⟨(oZ h2).trans g1 (by omega), y, g2, by omega⟩
end Ty
section
variable {wB w : World} {Fr : As} {nv tv : Value} {pg : Ty.Pg} {sb : Nat} {main : Int} {env : List Kn} {s : Sg}
theorem BA (hP : PB wB nv tv pg) {id p b : Nat} {x : ByteArray} (hn : pg.ns[id]? = some { Ty.ndOf 18 p with text := x, a := b }) {o f : Int} {k : Nat} {G : bV} (C : SeeC wB nv tv pg sb main b o f k G) : SeeC wB nv tv pg sb main id o f (k + 1) (Ty.ui p x id f G) := by
 obtain ⟨g, cap, lv, rfl, hnl, hg, hcap, hcm, hA, hl, _, hN⟩ := hP.look hn
 refine ⟨hnl, Ty.zt C.good, ?_⟩
 intro env s w Fr hF H b1 b2 b3 R hR
 have HR := qh hR
 have hb := hF w _ 0 H rfl
 obtain ⟨q0, q1, q2, q3, q4, q5, q6, q7, q8⟩ := hA.below hb
 have hgw : g < w.heap.size := Nat.lt_of_lt_of_le hg hb.size
 obtain ⟨i0, ti, tz0, tz1, tz2⟩ := info_parts nO
 obtain ⟨j0, tj, uz0, uz1, uz2⟩ := info_parts bY
 obtain ⟨ev, ov, cv, h1⟩ := H.ik
 have c0 := h1.cell 1 rfl 0 rfl
 have c1 := h1.cell 1 rfl 3 rfl
 have c6 : w.cell? ⟨sb, 6, none⟩ = some (.int .i64 (0 : Nat)) := h1.cell 1 rfl 6 rfl
 have hsb := h1.lt 1 rfl
 obtain ⟨ea, ec, rfl⟩ := ag (h1.row 2 rfl)
 obtain ⟨oa, oc, rfl⟩ := ag (h1.row 3 rfl)
 obtain ⟨ca, cc, rfl⟩ := ag (h1.row 4 rfl)
 obtain ⟨la, lc, rfl⟩ := ag hl
 have h2 := h1.aj (nbO { Ty.ndOf 18 p with text := x, a := b } (.slice la 0 lc)) w.heap.size
 have H2 := qh h2
 have hlB := qh hl
 have HF := qh hF
 have HP := qh (fun (A : As) (w1 : World) (r : Except Ty.Ft (List Kn × Sg)) (K : Nat) hr H1 R hR => jB (w := w1) (R := R) hP (hF.ah (M := [A])) (r := r) (K := K) (env := env) C hr H1 hR)
 have HGD := qh C.good
 unfold maxLen at hcm
 clear hR hA hl hb hF H h1 h2 hP hn C
 generalize pg.ns.length = N at *
 dsimp only [Ty.ndOf] at *
 go_enter Tryz.func45, Tryz.ntmps45
 go_wp2_with fail
 go_loopw [9] (fun i wr => ∃ j : Nat, i = .int .i64 ((j : Int) - 1) ∧ j ≤ env.length ∧ Hid (Ty.findN env x = Ty.findN (env.take j) x) ∧ Hid (Sat wB wr [Fr, blk sb (siO (.slice (some ⟨g, 0, none⟩) N cap) tv main (.slice ea env.length ec) (.slice oa s.out.length oc) (.slice ca s.caught.length cc) (0, 0)), knA (.slice ea env.length ec) env, bdA (.slice oa s.out.length oc) s.out, inA (.slice ca s.caught.length cc) s.caught, blk w.heap.size (nbO ⟨18, b, 0, 0, [], x, 0, -1, p⟩ (.slice la 0 lc))])) (fun i _ => (intOf i + 1).toNat)
 case atStart => exact ⟨env.length, by go_num, Nat.le_refl _, by show _ = _; rw [List.take_length], H2.out⟩
 case round =>
   obtain ⟨j, rfl, hj, hE, hS⟩ := hrel
   have c1 := hS.out.cell 1 rfl 3 rfl
   have p5 := hS.out.cell 5 rfl 5 rfl
   dsimp only at p5
   cases j with
   | zero =>
     as_aux_lemma =>
       have hd : decide ((((0 : Nat) : Int) - 1) ≥ 0) = false := by decide
       have hd2 : decide ((((0 : Nat) : Int) - 1) < 0) = true := by decide
       have HE : Hid (Ty.findN env x = none) := by show _ = _; rw [hE.out]; rfl
       have f6 := hS.out.free 1 rfl 6
       have f7 := hS.out.free 1 rfl 7
       have c6 : wr.cell? ⟨sb, 6, none⟩ = some (.int .i64 (0 : Nat)) := hS.out.cell 1 rfl 6 rfl
       have c7 : wr.cell? ⟨sb, 7, none⟩ = some (.int .i64 (0 : Nat)) := hS.out.cell 1 rfl 7 rfl
       have p8 := hS.out.cell 5 rfl 8 rfl
       dsimp only at p8
       simp only [Int.natCast_zero, Int.zero_sub] at hd hd2 ⊢
       go_wp2_with fail
       go_quiet (fail)
       go_wp2_with fail
       go_end0
       have h9 := ((hS.out.below (Go.below_drewN (Below.refl _ _) nq)).store 1 rfl 6 (.int .i64 5)).store 1 rfl 7 (.int .i64 p)
       refine HR.out _ ?_
       rw [show Ty.ui p x id f G env s = .error (5, p) by unfold Ty.ui Ty.useN; rw [HE.out]; rfl]
       exact oI (by simp) (Prt.Sat.fP (f := (5, p)) (q := (.slice ea env.length ec, .slice oa s.out.length oc, .slice ca s.caught.length cc)) (h9.pick [0, 1, 2, 3, 4]))
   | succ q =>
     have hq : q < env.length := by omega
     obtain ⟨g1, cap1, e, hg1, d0, d1, d2, d3⟩ := pW (hS.out.row 2 rfl) q hq
     cases e
     have hd : decide ((q : Int) ≥ 0) = true := decide_eq_true (by omega)
     have hd2 : decide ((q : Int) < 0) = false := decide_eq_false (by omega)
     have hE2 := hE
     rw [show ((q + 1 : Nat) : Int) - 1 = (q : Int) by omega]
     by_cases hx : env[q].text = x
     · have HE : Hid (Ty.findN env x = some env[q]) := by show _ = _; rw [hE.out, Ty.qM hq hx]
       have kx : (env[q].text.toList == x.toList) = true := (eX _ _).2 hx
       go_wp2_with fail
       go_quiet (fail)
       have h1 := hS.out.below (Go.below_drewN (Below.refl wr.heap.size wr) nq)
       generalize wr.drewN nq = w1 at *
       clear hS c1 p5 d0 d1 d2 d3 hg1
       obtain ⟨g1, cap1, e, hg1, d0, d1, d2, d3⟩ := pW (h1.row 2 rfl) q hq
       cases e
       generalize env[q] = m at *
       have c1 := h1.cell 1 rfl 3 rfl
       have c4 := h1.cell 1 rfl 4 rfl
       dsimp only at c1 c4
       have hsb1 := h1.lt 1 rfl
       have h5 := h1.aj (.cells #[.string x, .int .i64 (m.node : Nat), .int .i64 (m.owner : Nat), .int .i64 m.f] 154) w1.heap.size
       have HROW := qh (h1.row 3 rfl)
       have H5 := qh h5
       clear h5 h1
       go_upto_region 9 with fail
       go_cut [9] (fun s9 wx => s9 = .int .i64 (q : Nat) ∧ ∃ g4 cap4 : Nat, Hid (Sat wB wx [Fr, blk sb (siO (.slice (some ⟨g, 0, none⟩) N cap) tv main (.slice (some ⟨g1, 0, none⟩) env.length ec) (.slice (some ⟨g4, 0, none⟩) (s.out.length + 1) cap4) (.slice ca s.caught.length cc) (0, 0)), knA (.slice (some ⟨g1, 0, none⟩) env.length ec) env, bdA (.slice (some ⟨g4, 0, none⟩) (s.out.length + 1) cap4) (s.out ++ [(id, m.node)]), inA (.slice ca s.caught.length cc) s.caught, blk w.heap.size (nbO ⟨18, b, 0, 0, [], x, 0, -1, p⟩ (.slice la 0 lc)), blk w1.heap.size (.cells #[.string x, .int .i64 (m.node : Nat), .int .i64 (m.owner : Nat), .int .i64 m.f] 154)]))
       case first =>
         go_region_law (first
           | (go_loud (refine step_append_lies _ (by rfl) _ _ _ (by rfl) 0 43 i0 _ 2 16 Tryz.underlying36 ti tz0 tz1 tz2 rfl (by omega) (.slice oa s.out.length oc) s.out.length (s.out.flatMap dD) (by rfl) (((HROW.out.alloc _).alloc _).drew) ⟨w1.heap.size + 1, 0, none⟩ 1 1 [.int .i64 (id : Nat), .int .i64 (m.node : Nat)] (by rfl) (by rfl) (World.news_of_block (cs := #[.int .i64 (id : Nat), .int .i64 (m.node : Nat)]) (t := 43) (fr := (0, 0)) (aV (ak _ _ _ (by simp)))) (by simp [Value.oneCell']) (by omega) (by unfold maxLen; omega) (by omega) (by simp) (w1.heap.size + 2) (by simp) ?_); intro g4 cap4 w4 hown4 hgrow4 hat4 hlt4; have h6 := Prt.Sat.Dj (p := (id, m.node)) (H5.out.ay _).drew hgrow4 hown4 (by simpa using hat4); have d4 := h6.cell 1 rfl 4 rfl; have e4 := h6.free 1 rfl 4; have hs4 := h6.lt 1 rfl; have H6 := qh h6; clear h6))
         all_goals
           go_wp2_with fail
           go_meet
           exact ⟨rfl, g4, cap4, H6.out.store 1 rfl 4 _⟩
       case rest =>
         obtain ⟨rfl, g4, cap4, h7⟩ := hcut
         have p0 := h7.out.cell 5 rfl 0 rfl
         have t1 := h7.out.cell 6 rfl 1 rfl
         have t3 := h7.out.cell 6 rfl 3 rfl
         have c5 := h7.out.cell 1 rfl 5 rfl
         dsimp only at p0 t1 t3 c5
         clear HROW H5 d0 d1 d2 d3 c1 c4 hsb1
         have hsb2 := h7.out.lt 1 rfl
         have HHAS := qh (fun n => (h7.out.below (Go.below_drewN (Below.refl wc.heap.size wc) n)).row 4 rfl)
         go_upto_region 10 with fail
         go_cut [111] (fun s111 wx => s111 = .bool (decide (m.f ≠ f) && !decide (m.node ∈ s.caught)) ∧ Hid (Sat wB wx [Fr, blk sb (siO (.slice (some ⟨g, 0, none⟩) N cap) tv main (.slice (some ⟨g1, 0, none⟩) env.length ec) (.slice (some ⟨g4, 0, none⟩) (s.out.length + 1) cap4) (.slice ca s.caught.length cc) (0, 0)), knA (.slice (some ⟨g1, 0, none⟩) env.length ec) env, bdA (.slice (some ⟨g4, 0, none⟩) (s.out.length + 1) cap4) (s.out ++ [(id, m.node)]), inA (.slice ca s.caught.length cc) s.caught, blk w.heap.size (nbO ⟨18, b, 0, 0, [], x, 0, -1, p⟩ (.slice la 0 lc)), blk w1.heap.size (.cells #[.string x, .int .i64 (m.node : Nat), .int .i64 (m.owner : Nat), .int .i64 m.f] 154)]))
         case first =>
           as_aux_lemma =>
             by_cases hf : m.f = f
             · have kf : (m.f != f) = false := by simp [hf]
               go_quiet (fail)
               go_wp2_with fail
               go_meet
               exact ⟨by simp [hf], h7.out.below (Go.below_drewN (Below.refl wc.heap.size wc) nq)⟩
             · have kf : (m.f != f) = true := by simp [hf]
               go_quiet ((go_at_call 46; exact Calls.quiet_of_same (vN _ _ s.caught (HHAS.out _) (by omega) m.node ⟨rfl, rfl⟩)))
               go_wp2_with fail
               go_meet
               exact ⟨by simp [hf], h7.out.below (Go.below_drewN (Below.refl wc.heap.size wc) nq)⟩
         case rest =>
           obtain ⟨rfl, h8⟩ := hcut
           obtain ⟨cau, hcau⟩ : ∃ cau, cau = (if decide (m.f ≠ f) && !decide (m.node ∈ s.caught) then s.caught ++ [m.node] else s.caught) := ⟨_, rfl⟩
           have HCAU := qh hcau
           have HCL : Hid (cau.length ≤ s.caught.length + 1) := by show _ ≤ _; rw [hcau]; split <;> simp
           clear hcau h7 p0 t1 t3 c5
           go_upto_if 111 with fail
           go_cut [9] (fun s9 wx => s9 = .int .i64 (q : Nat) ∧ ∃ (da : Option Addr) (dc : Nat), Hid (Sat wB wx [Fr, blk sb (siO (.slice (some ⟨g, 0, none⟩) N cap) tv main (.slice (some ⟨g1, 0, none⟩) env.length ec) (.slice (some ⟨g4, 0, none⟩) (s.out.length + 1) cap4) (.slice da cau.length dc) (0, 0)), knA (.slice (some ⟨g1, 0, none⟩) env.length ec) env, bdA (.slice (some ⟨g4, 0, none⟩) (s.out.length + 1) cap4) (s.out ++ [(id, m.node)]), inA (.slice da cau.length dc) cau, blk w.heap.size (nbO ⟨18, b, 0, 0, [], x, 0, -1, p⟩ (.slice la 0 lc))]))
           case first =>
             as_aux_lemma =>
               have c5 := h8.out.cell 1 rfl 5 rfl
               have t1 := h8.out.cell 6 rfl 1 rfl
               dsimp only at c5 t1
               have hs8 := h8.out.lt 1 rfl
               cases hcond : (decide (m.f ≠ f) && !decide (m.node ∈ s.caught)) with
               | false =>
                 go_wp2_with fail
                 go_meet
                 have : cau = s.caught := by rw [HCAU.out, hcond]; rfl
                 subst this
                 exact ⟨rfl, ca, cc, h8.out.pick [0, 1, 2, 3, 4, 5]⟩
               | true =>
                 have hcc : cau = s.caught ++ [m.node] := by rw [HCAU.out, hcond]; rfl
                 have HCC := qh hcc
                 have HROW5 := qh (h8.out.row 4 rfl)
                 clear hcc
                 go_wp2_with fail
                 go_region_law (first
                   | (go_loud (refine step_append_lies _ (by rfl) _ _ _ (by rfl) 0 3 j0 _ 1 8 Tryz.underlying39 tj uz0 uz1 uz2 rfl (by omega) (.slice ca s.caught.length cc) s.caught.length (s.caught.map aA) (by rfl) ((HROW5.out.alloc _).drew) ⟨wc.heap.size, 0, none⟩ 1 1 [.int .i64 (m.node : Nat)] (by rfl) (by rfl) (World.news_of_block (cs := #[.int .i64 (m.node : Nat)]) (t := 3) (fr := (0, 0)) (aV (ak _ _ _ (by simp)))) (by simp [Value.oneCell']) (by omega) (by unfold maxLen; omega) (by omega) (by simp) (wc.heap.size + 1) (by simp) ?_); intro g5 cap5 w5 hown5 hgrow5 hat5 hlt5; have h9 := (Prt.Sat.grow (h8.out.ay _).drew 4 rfl hgrow5 hown5 (by simpa using hat5)).ent (i := 4) rfl (Q := inA (.slice (some ⟨g5, 0, none⟩) (s.caught.length + 1) cap5) (s.caught ++ [m.node])) (fun _ ha => bz ha); have d5 := h9.cell 1 rfl 5 rfl; have e5 := h9.free 1 rfl 5; have hs5 := h9.lt 1 rfl; have H9 := qh h9; clear h9))
                 all_goals
                   go_wp2_with fail
                   go_meet
                   refine ⟨rfl, some ⟨g5, 0, none⟩, cap5, ?_⟩
                   have h10 := (H9.out.store 1 rfl 5 (.slice (some ⟨g5, 0, none⟩) (s.caught.length + 1) cap5)).pick [0, 1, 2, 3, 4, 5]
                   rw [HCC.out, List.length_append]
                   exact h10
           case rest =>
             as_aux_lemma =>
               obtain ⟨rfl, da, dc, h9⟩ := hcut
               have c1 := h9.out.cell 1 rfl 3 rfl
               dsimp only at c1
               have p0 := h9.out.cell 5 rfl 0 rfl
               have p1 := h9.out.cell 5 rfl 1 rfl
               have p2 := h9.out.cell 5 rfl 2 rfl
               have p3 := h9.out.cell 5 rfl 3 rfl
               have p4 := h9.out.cell 5 rfl 4 rfl
               have p5 := h9.out.cell 5 rfl 5 rfl
               have p6 := h9.out.cell 5 rfl 6 rfl
               have p7 := h9.out.cell 5 rfl 7 rfl
               have p8 := h9.out.cell 5 rfl 8 rfl
               dsimp only at p0 p1 p2 p3 p4 p5 p6 p7 p8
               have hUSE : Ty.useN p x id true f env s = .ok ⟨s.out ++ [(id, m.node)], cau⟩ := by unfold Ty.useN; rw [HE.out, HCAU.out]; simp only [Bool.true_and]
               have HUSE := qh hUSE
               have hsh := h9.out.pick [0, 1, 2, 3, 4]
               have H9 := qh (Prt.Sat.fP (s := ⟨s.out ++ [(id, m.node)], cau⟩) (f := (0, 0)) (q := (.slice (some ⟨g1, 0, none⟩) env.length ec, .slice (some ⟨g4, 0, none⟩) (s.out.length + 1) cap4, .slice da cau.length dc)) hsh)
               clear h8 h9 hUSE hsh HHAS
               go_wp2_with fail
               refine lK (lv := .slice la 0 lc) (l := []) (fun v w3 h9 => ?_)
               have h10 := H9.out.join h9
               have hrow := ig h10 2 rfl (aH hlB.out (HF.out w3 _ 0 h10 rfl))
               obtain ⟨va, vc, rfl⟩ := ag hrow
               have H10 := qh ((Prt.Sat.pack (L := [siA sb (.slice (some ⟨g, 0, none⟩) N cap) tv main env ⟨s.out ++ [(id, m.node)], cau⟩ (0, 0)]) (h10.pick [1, 0, 2])).pick [1, 0])
               clear h9 h10 hrow p0 p1 p2 p3 p4 p5 p6 p7 p8 c1
               go_wp2_with fail
               go_loopw [19] (fun i wz => ∃ j : Nat, i = .int .i64 j ∧ j ≤ 1 ∧ Hid (Sat wB wz [ah [Fr, poA ⟨18, b, 0, 0, [], x, 0, -1, p⟩ (.slice la 0 lc) (.slice va 1 vc) [b]], siE sb (.slice (some ⟨g, 0, none⟩) N cap) tv main (k + 1) env (if j = 0 then .ok (env, ⟨s.out ++ [(id, m.node)], cau⟩) else G env ⟨s.out ++ [(id, m.node)], cau⟩)])) (fun i _ => 1 - (intOf i).toNat)
               case atStart => exact ⟨0, rfl, Nat.zero_le _, H10.out⟩
               case round =>
                 obtain ⟨j, rfl, hj, hz⟩ := hrel
                 have hu := hz.out.unpack (i := 0) rfl
                 have hrow := ig hu 2 rfl (aH hlB.out (HF.out wr _ 1 hu rfl))
                 have hj2 : j = 0 ∨ j = 1 := by omega
                 rcases hj2 with rfl | rfl
                 · obtain ⟨gl, capl, e, hgl, e0⟩ := ints_at hrow 0 (by simp)
                   cases e
                   have e0 : wr.cell? ⟨gl, 0, none⟩ = some (.int .i64 (b : Nat)) := e0
                   have HST := qh (fun R hR => HP.out _ wr (.ok (env, ⟨s.out ++ [(id, m.node)], cau⟩)) (k + 1) (fun p hp => by cases hp; have := HCL.out; exact ⟨⟨[], by simp, by simp⟩, by dsimp only; omega, by dsimp only; rw [List.length_append]; simp; omega, by dsimp only; omega⟩) hz.out R hR)
                   clear hu hrow
                   go_wp2_with fail
                   refine HST.out _ (fun w4 h4 => ?_)
                   have H4 := qh h4
                   clear h4
                   go_wp2_with fail
                   go_roundw
                   case rel => exact ⟨1, by go_num, by omega, H4.out⟩
                   case measure => simp [intOf]
                 · have H4 := qh (hz.out.un3.pick [0, 1])
                   clear hu hrow
                   go_wp2_with fail
                   go_end0
                   refine HR.out _ ?_
                   rw [show Ty.ui p x id f G env s = G env ⟨s.out ++ [(id, m.node)], cau⟩ by unfold Ty.ui; rw [HUSE.out]; rfl]
                   exact H4.out
     · have HE : Hid (Ty.findN env x = Ty.findN (env.take q) x) := by show _ = _; rw [hE.out, Ty.ny hq hx]
       have kx := uY hx
       generalize env[q] = m at *
       go_wp2_with fail
       go_quiet (fail)
       go_wp2_with fail
       go_roundw
       case rel => exact ⟨q, by go_num, by omega, HE, hS.out.below (Go.below_drewN (Below.refl _ _) _)⟩
       case measure => simp [intOf]
end
end
end Go.Proofs.YtdlbhiaceheffabGreatDoor
