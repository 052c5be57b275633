/- Walk of the reference's see: uses of names. -/
import Derived.WalkSmall
import Derived.Deep.DeepCutAuto
import Derived.Deep.CutBlock
import Derived.Test.YtdlbhiaceheffabGreatDoorY16
set_option linter.all false
set_option maxRecDepth 100000
set_option maxHeartbeats 4000000
namespace Go.Proofs.YtdlbhiaceheffabGreatDoor
section
open Go Go.RowKit
open Prt (Sat As blk pur exs star ah)
open Ty (Kn Sg Mo andX bW dM bn)
namespace Ty
theorem qM {env : List Kn} {x : ByteArray} {q : Nat} (h : q < env.length) (e : env[q].text = x) : findN (env.take (q + 1)) x = some env[q] := by
 unfold findN
 rw [List.take_succ_eq_append_getElem h, List.reverse_append]
 simp [e]
theorem ny {env : List Kn} {x : ByteArray} {q : Nat} (h : q < env.length) (e : env[q].text ≠ x) : findN (env.take (q + 1)) x = findN (env.take q) x := by
 unfold findN
 rw [List.take_succ_eq_append_getElem h, List.reverse_append]
 simp [e]
def xA (p : Nat) (x : ByteArray) (id : Nat) (set : Bool) (f : Int) : bV := fun env s => andX (useN p x id set f env s) fun s => .ok (env, s)
theorem y9 (p : Nat) (x : ByteArray) (id : Nat) (set : Bool) (f : Int) : dM 1 (xA p x id set f) := fun env s r h => by
 obtain ⟨m, h1, h2⟩ := andX_inv h
 cases h2
 exact ⟨oZ h1, [], by simp, by simp⟩
end Ty
theorem uY {a b : ByteArray} (h : a ≠ b) : (a.toList == b.toList) = false := by
 cases hc : (a.toList == b.toList) with
 | false => rfl
 | true => exact absurd ((eX _ _).1 hc) h
theorem oI {wB w : World} {Fr : As} {nv tv : Value} {sb : Nat} {main : Int} {K : Nat} {env : List Kn} {s : Sg} {e : Ty.Ft} (he : e.1 ≠ 0) (H : Sat wB w [Fr, siA sb nv tv main env s e]) : Sat wB w [Fr, siE sb nv tv main K env (.error e)] :=
 (Prt.Sat.pack (L := [Fr]) ((H.fH (P := pur (([] : List Kn).length ≤ K ∧ e.1 ≠ 0)) (fun _ => ⟨by simp, he⟩)).pick [0, 2, 1])).ent (i := 1) rfl fun a ha => ⟨([], s), by simpa using ha⟩
theorem Prt.Sat.Dj {w0 w w' : World} {Fr B8 BT : As} {nv tv : Value} {sb : Nat} {main : Int} {env : List Kn} {s : Sg} {f : Ty.Ft} {ev ov cv : Value} {p : Nat × Nat} {g cap base : Nat}
   (h : Sat w0 w [Fr, blk sb (siO nv tv main ev ov cv f), knA ev env, bdA ov s.out, inA cv s.caught, B8, BT])
   (hg : w.grownBy w' ov.ownBlock) (ho : w'.ownsRow base 43 2 (.slice (some ⟨g, 0, none⟩) (s.out.length + 1) cap) (s.out.length + 1) (s.out.flatMap dD ++ dD p)) (hat : ov.ownBlock = some g ∨ g = w.heap.size) :
   Sat w0 w' [Fr, blk sb (siO nv tv main ev ov cv f), knA ev env, bdA (.slice (some ⟨g, 0, none⟩) (s.out.length + 1) cap) (s.out ++ [p]), inA cv s.caught, B8, BT] :=
 (Prt.Sat.grow h 3 rfl hg ho hat).ent (i := 3) rfl fun _ ha => lU ha
section
variable {wB w : World} {Fr : As} {nv tv : Value} {pg : Ty.Pg} {sb : Nat} {main : Int} {env : List Kn} {s : Sg}
theorem BX (hP : PB wB nv tv pg) {id p : Nat} {x : ByteArray} (hn : pg.ns[id]? = some { Ty.ndOf 5 p with text := x }) {o f : Int} : SeeC wB nv tv pg sb main id o f 1 (Ty.xA p x id false f) := by
 obtain ⟨g, cap, lv, rfl, hnl, hg, hcap, hcm, hA, hl, _, hN⟩ := hP.look hn
 refine ⟨hnl, Ty.y9 _ _ _ _ _, ?_⟩
 intro env s w Fr hF H b1 b2 b3 R hR
 have HR := qh hR
 have hb := hF w _ 0 H rfl
 obtain ⟨q0, q1, q2, q3, q4, q5, q6, q7, q8⟩ := hA.below hb
 have hgw : g < w.heap.size := Nat.lt_of_lt_of_le hg hb.size
 obtain ⟨i0, ti, tz0, tz1, tz2⟩ := info_parts nO
 obtain ⟨ev, ov, cv, h1⟩ := H.ik
 have c0 := h1.cell 1 rfl 0 rfl
 have c1 := h1.cell 1 rfl 3 rfl
 have c6 : w.cell? ⟨sb, 6, none⟩ = some (.int .i64 (0 : Nat)) := h1.cell 1 rfl 6 rfl
 have hsb := h1.lt 1 rfl
 obtain ⟨ea, ec, rfl⟩ := ag (h1.row 2 rfl)
 obtain ⟨oa, oc, rfl⟩ := ag (h1.row 3 rfl)
 obtain ⟨la, lc, rfl⟩ := ag hl
 have h2 := h1.aj (nbO { Ty.ndOf 5 p with text := x } (.slice la 0 lc)) w.heap.size
 have H2 := qh h2
 have hlB := qh hl
 have HF := qh hF
 unfold maxLen at hcm
 clear hR hA hl hb hF H h1 h2 hP hn
 generalize pg.ns.length = N at *
 dsimp only [Ty.ndOf] at *
 go_enter Tryz.func45, Tryz.ntmps45
 go_wp2_with fail
 go_loopw [9] (fun i wr => ∃ j : Nat, i = .int .i64 ((j : Int) - 1) ∧ j ≤ env.length ∧ Hid (Ty.findN env x = Ty.findN (env.take j) x) ∧ Hid (Sat wB wr [Fr, blk sb (siO (.slice (some ⟨g, 0, none⟩) N cap) tv main (.slice ea env.length ec) (.slice oa s.out.length oc) cv (0, 0)), knA (.slice ea env.length ec) env, bdA (.slice oa s.out.length oc) s.out, inA cv s.caught, blk w.heap.size (nbO ⟨5, 0, 0, 0, [], x, 0, -1, p⟩ (.slice la 0 lc))])) (fun i _ => (intOf i + 1).toNat)
 case atStart => exact ⟨env.length, by go_num, Nat.le_refl _, by show _ = _; rw [List.take_length], H2.out⟩
 case round =>
   obtain ⟨j, rfl, hj, hE, hS⟩ := hrel
   have c1 := hS.out.cell 1 rfl 3 rfl
   have p5 := hS.out.cell 5 rfl 5 rfl
   dsimp only at p5
   cases j with
   | zero =>
     have hd : decide ((((0 : Nat) : Int) - 1) ≥ 0) = false := by decide
     have hd2 : decide ((((0 : Nat) : Int) - 1) < 0) = true := by decide
     have HE : Hid (Ty.findN env x = none) := by show _ = _; rw [hE.out]; rfl
     have f6 := hS.out.free 1 rfl 6
     have f7 := hS.out.free 1 rfl 7
     have c6 : wr.cell? ⟨sb, 6, none⟩ = some (.int .i64 (0 : Nat)) := hS.out.cell 1 rfl 6 rfl
     have c7 : wr.cell? ⟨sb, 7, none⟩ = some (.int .i64 (0 : Nat)) := hS.out.cell 1 rfl 7 rfl
     have p8 := hS.out.cell 5 rfl 8 rfl
     dsimp only at p8
     simp only [Int.natCast_zero, Int.zero_sub] at hd hd2 ⊢
     go_wp2_with fail
     go_quiet (fail)
     go_wp2_with fail
     go_end0
     have h9 := ((hS.out.below (Go.below_drewN (Below.refl _ _) nq)).store 1 rfl 6 (.int .i64 5)).store 1 rfl 7 (.int .i64 p)
     refine HR.out _ ?_
     rw [show Ty.xA p x id false f env s = .error (5, p) by unfold Ty.xA Ty.useN; rw [HE.out]; rfl]
     exact oI (by simp) (Prt.Sat.fP (f := (5, p)) (q := (.slice ea env.length ec, .slice oa s.out.length oc, cv)) (h9.pick [0, 1, 2, 3, 4]))
   | succ q =>
     have hq : q < env.length := by omega
     obtain ⟨g1, cap1, e, hg1, d0, d1, d2, d3⟩ := pW (hS.out.row 2 rfl) q hq
     cases e
     have hd : decide ((q : Int) ≥ 0) = true := decide_eq_true (by omega)
     have hd2 : decide ((q : Int) < 0) = false := decide_eq_false (by omega)
     have hE2 := hE
     rw [show ((q + 1 : Nat) : Int) - 1 = (q : Int) by omega]
     by_cases hx : env[q].text = x
     · have HE : Hid (Ty.findN env x = some env[q]) := by show _ = _; rw [hE.out, Ty.qM hq hx]
       have kx : (env[q].text.toList == x.toList) = true := (eX _ _).2 hx
       go_wp2_with fail
       go_quiet (fail)
       have h1 := hS.out.below (Go.below_drewN (Below.refl wr.heap.size wr) nq)
       generalize wr.drewN nq = w1 at *
       clear hS c1 p5 d0 d1 d2 d3 hg1
       obtain ⟨g1, cap1, e, hg1, d0, d1, d2, d3⟩ := pW (h1.row 2 rfl) q hq
       cases e
       generalize env[q] = m at *
       have c1 := h1.cell 1 rfl 3 rfl
       have c4 := h1.cell 1 rfl 4 rfl
       dsimp only at c1 c4
       have hsb1 := h1.lt 1 rfl
       have h5 := h1.aj (.cells #[.string x, .int .i64 (m.node : Nat), .int .i64 (m.owner : Nat), .int .i64 m.f] 154) w1.heap.size
       have HROW := qh (h1.row 3 rfl)
       have H5 := qh h5
       clear h5 h1
       go_upto_region 9 with fail
       go_cut [9] (fun s9 wx => s9 = .int .i64 (q : Nat) ∧ ∃ g4 cap4 : Nat, Hid (Sat wB wx [Fr, blk sb (siO (.slice (some ⟨g, 0, none⟩) N cap) tv main (.slice (some ⟨g1, 0, none⟩) env.length ec) (.slice (some ⟨g4, 0, none⟩) (s.out.length + 1) cap4) cv (0, 0)), knA (.slice (some ⟨g1, 0, none⟩) env.length ec) env, bdA (.slice (some ⟨g4, 0, none⟩) (s.out.length + 1) cap4) (s.out ++ [(id, m.node)]), inA cv s.caught, blk w.heap.size (nbO ⟨5, 0, 0, 0, [], x, 0, -1, p⟩ (.slice la 0 lc)), blk w1.heap.size (.cells #[.string x, .int .i64 (m.node : Nat), .int .i64 (m.owner : Nat), .int .i64 m.f] 154)]))
       case first =>
         go_region_law (first
           | (go_loud (refine step_append_lies _ (by rfl) _ _ _ (by rfl) 0 43 i0 _ 2 16 Tryz.underlying36 ti tz0 tz1 tz2 rfl (by omega) (.slice oa s.out.length oc) s.out.length (s.out.flatMap dD) (by rfl) (((HROW.out.alloc _).alloc _).drew) ⟨w1.heap.size + 1, 0, none⟩ 1 1 [.int .i64 (id : Nat), .int .i64 (m.node : Nat)] (by rfl) (by rfl) (World.news_of_block (cs := #[.int .i64 (id : Nat), .int .i64 (m.node : Nat)]) (t := 43) (fr := (0, 0)) (aV (ak _ _ _ (by simp)))) (by simp [Value.oneCell']) (by omega) (by unfold maxLen; omega) (by omega) (by simp) (w1.heap.size + 2) (by simp) ?_); intro g4 cap4 w4 hown4 hgrow4 hat4 hlt4; have h6 := Prt.Sat.Dj (p := (id, m.node)) (H5.out.ay _).drew hgrow4 hown4 (by simpa using hat4); have d4 := h6.cell 1 rfl 4 rfl; have e4 := h6.free 1 rfl 4; have hs4 := h6.lt 1 rfl; have H6 := qh h6; clear h6))
         all_goals
           go_wp2_with fail
           go_meet
           exact ⟨rfl, g4, cap4, H6.out.store 1 rfl 4 _⟩
       case rest =>
         obtain ⟨rfl, g4, cap4, h7⟩ := hcut
         have p0 := h7.out.cell 5 rfl 0 rfl
         dsimp only at p0
         clear HROW H5 d0 d1 d2 d3 c1 c4 hsb1
         go_wp2_with fail
         go_quiet (fail)
         have h8 := h7.out.below (Go.below_drewN (Below.refl wc.heap.size wc) nq)
         generalize wc.drewN nq = w2 at *
         clear h7 p0
         have c1 := h8.cell 1 rfl 3 rfl
         dsimp only at c1
         have p0 := h8.cell 5 rfl 0 rfl
         have p1 := h8.cell 5 rfl 1 rfl
         have p2 := h8.cell 5 rfl 2 rfl
         have p3 := h8.cell 5 rfl 3 rfl
         have p4 := h8.cell 5 rfl 4 rfl
         have p5 := h8.cell 5 rfl 5 rfl
         have p6 := h8.cell 5 rfl 6 rfl
         have p7 := h8.cell 5 rfl 7 rfl
         have p8 := h8.cell 5 rfl 8 rfl
         dsimp only at p0 p1 p2 p3 p4 p5 p6 p7 p8
         have H8 := qh (h8.pick [0, 1, 2, 3, 4])
         clear h8
         go_wp2_with fail
         refine nI (lv := .slice la 0 lc) (l := []) (fun v w3 h9 => ?_)
         have h10 := H8.out.join h9
         have hrow := ig h10 5 rfl (aH hlB.out (HF.out w3 _ 0 h10 rfl))
         obtain ⟨va, vc, rfl⟩ := ag hrow
         have H10 := qh (h10.pick [0, 1, 2, 3, 4])
         clear h9 h10 hrow
         go_wp2_with fail
         go_loopw [19] (fun i wz => i = .int .i64 0 ∧ Hid (Sat wB wz [Fr, blk sb (siO (.slice (some ⟨g, 0, none⟩) N cap) tv main (.slice (some ⟨g1, 0, none⟩) env.length ec) (.slice (some ⟨g4, 0, none⟩) (s.out.length + 1) cap4) cv (0, 0)), knA (.slice (some ⟨g1, 0, none⟩) env.length ec) env, bdA (.slice (some ⟨g4, 0, none⟩) (s.out.length + 1) cap4) (s.out ++ [(id, m.node)]), inA cv s.caught])) (fun _ _ => 0)
         case atStart => exact ⟨rfl, H10.out⟩
         case round =>
           obtain ⟨rfl, hz⟩ := hrel
           go_wp2_with fail
           go_end0
           refine HR.out _ ?_
           rw [show Ty.xA p x id false f env s = .ok (env, ⟨s.out ++ [(id, m.node)], s.caught⟩) by unfold Ty.xA Ty.useN; rw [HE.out]; rfl]
           exact Prt.Sat.fP (s := ⟨s.out ++ [(id, m.node)], s.caught⟩) (f := (0, 0)) (q := (.slice (some ⟨g1, 0, none⟩) env.length ec, .slice (some ⟨g4, 0, none⟩) (s.out.length + 1) cap4, cv)) hz.out
     · have HE : Hid (Ty.findN env x = Ty.findN (env.take q) x) := by show _ = _; rw [hE.out, Ty.ny hq hx]
       have kx := uY hx
       generalize env[q] = m at *
       go_wp2_with fail
       go_quiet (fail)
       go_wp2_with fail
       go_roundw
       case rel => exact ⟨q, by go_num, by omega, HE, hS.out.below (Go.below_drewN (Below.refl _ _) _)⟩
       case measure => simp [intOf]
end
end
end Go.Proofs.YtdlbhiaceheffabGreatDoor
