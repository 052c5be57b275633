/- Walk of the reference's see: lets. -/
import Derived.Test.YtdlbhiaceheffabGreatDoorY23
set_option linter.all false
set_option maxRecDepth 100000
set_option maxHeartbeats 4000000
namespace Go.Proofs.YtdlbhiaceheffabGreatDoor
section
open Go Go.RowKit
open Prt (Sat As blk pur exs star ah)
open Ty (Kn Sg Mo andX bW dM bn)
namespace Ty
def mi (p : Nat) (x : ByteArray) (id o : Nat) (f : Int) (fn : Bool) (G : bV) : bV := fun env s =>
 if env.any (fun m => decide (m.owner = o) && decide (m.text = x)) then .error (6, p)
 else if fn then G (env ++ [⟨x, id, o, f⟩]) s else andX (G env s) fun r => .ok (r.1 ++ [⟨x, id, o, f⟩], r.2)
theorem zu {p : Nat} {x : ByteArray} {id o : Nat} {f : Int} {fn : Bool} {k : Nat} {G : bV} (h : dM k G) : dM (k + 1) (mi p x id o f fn G) := fun env s r h1 => by
 unfold mi at h1
 split at h1
 · cases h1
 · cases fn with
   | true =>
     obtain ⟨g1, y, g2, g3⟩ := h _ s r h1
     exact ⟨g1.mono (by omega), ⟨x, id, o, f⟩ :: y, by rw [g2, List.append_assoc]; rfl, by simp; omega⟩
   | false =>
     obtain ⟨m, h2, h3⟩ := andX_inv h1
     cases h3
     obtain ⟨g1, y, g2, g3⟩ := h env s m h2
     exact ⟨g1.mono (by omega), y ++ [⟨x, id, o, f⟩], by simp only; rw [g2, List.append_assoc], by simp; omega⟩
end Ty
section
variable {wB w : World} {Fr : As} {nv tv : Value} {pg : Ty.Pg} {sb : Nat} {main : Int} {env : List Kn} {s : Sg}
theorem zS {y : List Kn} {K : Nat} {r : Except Ty.Ft (List Kn × Sg)} (H : Sat wB w [Fr, siE sb nv tv main K (env ++ y) r]) : Sat wB w [Fr, siE sb nv tv main (K + y.length) env r] := by
 cases r with
 | ok p => exact H
 | error e =>
   refine H.ent (i := 1) rfl fun a ha => ?_
   obtain ⟨q, u, v, d1, d2, d3, d4, d5⟩ := ha
   refine ⟨(y ++ q.1, q.2), u, v, d1, d2, d3, ⟨by simp only [List.length_append]; have := d4.1; omega, d4.2⟩, ?_⟩
   simp only
   rw [← List.append_assoc]
   exact d5
theorem BP {nm : Kn} {K : Nat} {r : Except Ty.Ft (List Kn × Sg)} (hr : ∀ p, r = .ok p → ∃ x, p.1 = env ++ x ∧ x.length ≤ K) (H : Sat wB w [Fr, siE sb nv tv main K env r]) :
   ∃ x s' ft, x.length ≤ K ∧ Sat wB w [Fr, siA sb nv tv main (env ++ x) s' ft] ∧ ∀ (w' : World) (Fr' : As), Sat wB w' [Fr', siA sb nv tv main (env ++ x ++ [nm]) s' ft] → Sat wB w' [Fr', siE sb nv tv main (K + 1) env (andX r fun p => .ok (p.1 ++ [nm], p.2))] := by
 cases r with
 | ok p =>
   obtain ⟨x, hx, hl⟩ := hr p rfl
   obtain ⟨p1, p2⟩ := p
   dsimp only at hx
   subst hx
   exact ⟨x, p2, (0, 0), hl, H, fun w' _ h => h⟩
 | error e =>
   obtain ⟨q, h⟩ := H.ex (i := 1) rfl
   have h := (h.unpack (i := 1) rfl)
   have hq : q.1.length ≤ K ∧ e.1 ≠ 0 := h.get (i := 1) rfl fun _ ha _ => ha
   refine ⟨q.1, q.2, e, hq.1, h.pick [0, 2], fun w' Fr' h' => ?_⟩
   have h2 := (h'.fH (P := pur ((q.1 ++ [nm]).length ≤ K + 1 ∧ e.1 ≠ 0)) (fun _ => ⟨by simp; omega, hq.2⟩)).pick [0, 2, 1]
   refine (Prt.Sat.pack (L := [Fr']) h2).ent (i := 1) rfl fun a ha => ⟨(q.1 ++ [nm], q.2), ?_⟩
   rw [List.append_assoc] at ha
   exact ha
theorem Cf (hP : PB wB nv tv pg) {id p b : Nat} {x : ByteArray} {ty : Int} (hn : pg.ns[id]? = some { Ty.ndOf 17 p with text := x, ty := ty, a := b }) {nb : Ty.Nd} (hbn : pg.ns[b]? = some nb) {fn : Bool} (hfn : (((nb.kind : Nat) : Int) == 6) = fn)
   {o : Nat} {f : Int} {k : Nat} {G : bV} (C : SeeC wB nv tv pg sb main b (o : Nat) f k G) : SeeC wB nv tv pg sb main id (o : Nat) f (k + 1) (Ty.mi p x id o f fn G) := by
 obtain ⟨g, cap, lv, rfl, hnl, hg, hcap, hcm, hA, hl, _, hN⟩ := hP.look hn
 obtain ⟨g2, cap2, lv2, e2, hnb, _, _, _, hA2, _, _, _⟩ := hP.look hbn
 cases e2
 refine ⟨hnl, Ty.zu C.good, ?_⟩
 intro env s w Fr hF H b1 b2 b3 R hR
 have HR := qh hR
 have hb := hF w _ 0 H rfl
 obtain ⟨q0, q1, q2, q3, q4, q5, q6, q7, q8⟩ := hA.below hb
 have hgw : g < w.heap.size := Nat.lt_of_lt_of_le hg hb.size
 obtain ⟨i0, ti, tz0, tz1, tz2⟩ := info_parts rF
 obtain ⟨ev, ov, cv, h1⟩ := H.ik
 have c0 := h1.cell 1 rfl 0 rfl
 have c1 := h1.cell 1 rfl 3 rfl
 have c6 : w.cell? ⟨sb, 6, none⟩ = some (.int .i64 (0 : Nat)) := h1.cell 1 rfl 6 rfl
 have hsb := h1.lt 1 rfl
 obtain ⟨ea, ec, rfl⟩ := ag (h1.row 2 rfl)
 obtain ⟨oa, oc, rfl⟩ := ag (h1.row 3 rfl)
 obtain ⟨ca, cc, rfl⟩ := ag (h1.row 4 rfl)
 obtain ⟨la, lc, rfl⟩ := ag hl
 have h2 := h1.aj (nbO { Ty.ndOf 17 p with text := x, ty := ty, a := b } (.slice la 0 lc)) w.heap.size
 have H2 := qh h2
 have HA2 := qh hA2
 have HF := qh hF
 have HP := qh (fun (A : As) env1 w1 H1 d1 d2 d3 R hR => C.run env1 s w1 (ah [Fr, A]) (hF.ah (M := [A])) H1 d1 d2 d3 R hR)
 have HGD := qh C.good
 have HFN := qh hfn
 unfold maxLen at hcm
 clear hR hA hA2 hl hb hF H h1 h2 hP hn hbn C hfn
 generalize pg.ns.length = N at *
 dsimp only [Ty.ndOf] at *
 go_enter Tryz.func45, Tryz.ntmps45
 go_wp2_with fail
 go_loopw [16] (fun i wr => ∃ j : Nat, i = .int .i64 j ∧ j ≤ env.length ∧ Hid (∀ m ∈ env.take j, ¬ (m.owner = o ∧ m.text = x)) ∧ Hid (Sat wB wr [Fr, blk sb (siO (.slice (some ⟨g, 0, none⟩) N cap) tv main (.slice ea env.length ec) (.slice oa s.out.length oc) (.slice ca s.caught.length cc) (0, 0)), knA (.slice ea env.length ec) env, bdA (.slice oa s.out.length oc) s.out, inA (.slice ca s.caught.length cc) s.caught, blk w.heap.size (nbO ⟨17, b, 0, 0, [], x, 0, ty, p⟩ (.slice la 0 lc))])) (fun i _ => env.length - (intOf i).toNat)
 case atStart => exact ⟨0, rfl, Nat.zero_le _, by show ∀ m ∈ _, _; simp, H2.out⟩
 case round =>
   obtain ⟨j, rfl, hj, hE, hS⟩ := hrel
   have c1 := hS.out.cell 1 rfl 3 rfl
   have p5 := hS.out.cell 5 rfl 5 rfl
   dsimp only at p5
   by_cases hlt : j < env.length
   · obtain ⟨g1, cap1, e, hg1, d0, d1, d2, d3⟩ := pW (hS.out.row 2 rfl) j hlt
     cases e
     by_cases ho : env[j].owner = o
     · have ko : (((env[j].owner : Nat) : Int) == (o : Int)) = true := by simp [ho]
       by_cases hx : env[j].text = x
       · as_aux_lemma =>
           have kx : (env[j].text.toList == x.toList) = true := (eX _ _).2 hx
           have HE : Hid (env.any (fun m => decide (m.owner = o) && decide (m.text = x)) = true) := by
             show _ = _
             rw [List.any_eq_true]
             exact ⟨env[j], List.getElem_mem hlt, by simp [ho, hx]⟩
           have f6 := hS.out.free 1 rfl 6
           have f7 := hS.out.free 1 rfl 7
           have c6 : wr.cell? ⟨sb, 6, none⟩ = some (.int .i64 (0 : Nat)) := hS.out.cell 1 rfl 6 rfl
           have c7 : wr.cell? ⟨sb, 7, none⟩ = some (.int .i64 (0 : Nat)) := hS.out.cell 1 rfl 7 rfl
           have p8 := hS.out.cell 5 rfl 8 rfl
           dsimp only at p8
           clear ho hx
           generalize env[j] = m at *
           go_wp2_with fail
           go_quiet (fail)
           go_wp2_with fail
           go_end0
           have h9 := ((hS.out.below (Go.below_drewN (Below.refl _ _) nq)).store 1 rfl 6 (.int .i64 6)).store 1 rfl 7 (.int .i64 p)
           refine HR.out _ ?_
           rw [show Ty.mi p x id o f fn G env s = .error (6, p) by unfold Ty.mi; rw [HE.out]; rfl]
           exact oI (by simp) (Prt.Sat.fP (f := (6, p)) (q := (.slice _ env.length ec, .slice oa s.out.length oc, .slice ca s.caught.length cc)) (h9.pick [0, 1, 2, 3, 4]))
       · as_aux_lemma =>
           have kx := uY hx
           have HE : Hid (∀ m ∈ env.take (j + 1), ¬ (m.owner = o ∧ m.text = x)) := by
             show ∀ m ∈ _, _
             rw [List.take_succ_eq_append_getElem hlt]
             intro m hm
             rcases List.mem_append.1 hm with hm | hm
             · exact hE.out m hm
             · rw [List.mem_singleton.1 hm]; exact fun h => hx h.2
           clear ho hx
           generalize env[j] = m at *
           go_wp2_with fail
           go_quiet (fail)
           go_wp2_with fail
           go_roundw
           case rel => exact ⟨j + 1, by go_num, by omega, HE, hS.out.below (Go.below_drewN (Below.refl _ _) _)⟩
           case measure => simp [intOf]; omega
     · as_aux_lemma =>
         have ko : (((env[j].owner : Nat) : Int) == (o : Int)) = false := by simp; omega
         have HE : Hid (∀ m ∈ env.take (j + 1), ¬ (m.owner = o ∧ m.text = x)) := by
           show ∀ m ∈ _, _
           rw [List.take_succ_eq_append_getElem hlt]
           intro m hm
           rcases List.mem_append.1 hm with hm | hm
           · exact hE.out m hm
           · rw [List.mem_singleton.1 hm]; exact fun h => ho h.1
         clear ho
         generalize env[j] = m at *
         go_wp2_with fail
         go_quiet (fail)
         go_wp2_with fail
         go_roundw
         case rel => exact ⟨j + 1, by go_num, by omega, HE, hS.out.below (Go.below_drewN (Below.refl _ _) _)⟩
         case measure => simp [intOf]; omega
   · have HE : Hid (env.any (fun m => decide (m.owner = o) && decide (m.text = x)) = false) := by
       show _ = _
       rw [List.any_eq_false]
       intro m hm hc
       have h8 := hE.out m (by rw [List.take_of_length_le (by omega)]; exact hm)
       simp only [Bool.and_eq_true, decide_eq_true_eq] at hc
       exact h8 hc
     have hbr := HF.out wr _ 0 hS.out rfl
     have hgr := Nat.lt_of_lt_of_le hg hbr.size
     have hje : j = env.length := by omega
     subst hje
     have hsb1 := hS.out.lt 1 rfl
     have hb81 := hS.out.lt 5 rfl
     have r0 := (HA2.out.below hbr).1
     have c0 := hS.out.cell 1 rfl 0 rfl
     have p1 := hS.out.cell 5 rfl 1 rfl
     dsimp only at p1
     have h3 := hS.out.aj (.cells #[.string x, .int .i64 (id : Nat), .int .i64 (o : Nat), .int .i64 f] 154) wr.heap.size
     have H3 := qh h3
     clear h3 hE
     have hkk : (((nb.kind : Nat) : Int) == 6) = fn := HFN.out
     generalize nb.kind = kd at *
     cases fn with
     | true =>
       go_wp2_with fail
       go_quiet (fail)
       have h4 := H3.out.below (Go.below_drewN (Below.refl _ _) nq)
       generalize World.drewN _ nq = w1 at *
       clear hS H3 c0 c1 p5 p1 r0 hgr hb81 hsb1
       have c1 := h4.cell 1 rfl 3 rfl
       have t0 := h4.cell 6 rfl 0 rfl
       have t1 := h4.cell 6 rfl 1 rfl
       have t2 := h4.cell 6 rfl 2 rfl
       have t3 := h4.cell 6 rfl 3 rfl
       dsimp only at c1 t0 t1 t2 t3
       have hsb1 := h4.lt 1 rfl
       have hnm1 := h4.lt 6 rfl
       have HROW := qh (h4.row 2 rfl)
       have H4 := qh h4
       clear h4
       go_upto_region 44 with fail
       go_cut [17] (fun s17 wx => ∃ g4 cap4 : Nat, Hid (Sat wB wx [Fr, blk sb (siO (.slice (some ⟨g, 0, none⟩) N cap) tv main (.slice (some ⟨g4, 0, none⟩) (env.length + 1) cap4) (.slice oa s.out.length oc) (.slice ca s.caught.length cc) (0, 0)), Prt.row 154 4 (.slice (some ⟨g4, 0, none⟩) (env.length + 1) cap4) (env.length + 1) (env.flatMap bZ ++ bZ ⟨x, id, o, f⟩), bdA (.slice oa s.out.length oc) s.out, inA (.slice ca s.caught.length cc) s.caught, blk w.heap.size (nbO ⟨17, b, 0, 0, [], x, 0, ty, p⟩ (.slice la 0 lc))]))
       case first =>
         go_region_law (first
           | (go_loud (refine step_append_lies _ (by rfl) _ _ _ (by rfl) 0 154 i0 _ 4 40 Tryz.underlying93 ti tz0 tz1 tz2 rfl (by omega) (.slice ea env.length ec) env.length (env.flatMap bZ) (by rfl) ((HROW.out.alloc _).drew) ⟨w1.heap.size, 0, none⟩ 1 1 [.string x, .int .i64 (id : Nat), .int .i64 (o : Nat), .int .i64 f] (by rfl) (by rfl) (World.news_of_block (cs := #[.string x, .int .i64 (id : Nat), .int .i64 (o : Nat), .int .i64 f]) (t := 154) (fr := (0, 0)) (aV (ak _ _ _ (by simp)))) (by simp [Value.oneCell']) (by omega) (by unfold maxLen; omega) (by omega) (by simp) (w1.heap.size + 1) (by simp) ?_); intro g4 cap4 w4 hown4 hgrow4 hat4 hlt4; have h6 := Prt.Sat.grow (H4.out.ay _).drew 2 rfl hgrow4 hown4 (by simpa using hat4); have d4 := h6.cell 1 rfl 3 rfl; have e4 := h6.free 1 rfl 3; have hs4 := h6.lt 1 rfl; have H6 := qh h6; clear h6))
         all_goals
           go_wp2_with fail
           go_meet
           exact ⟨g4, cap4, (H6.out.store 1 rfl 3 (.slice (some ⟨g4, 0, none⟩) (env.length + 1) cap4)).pick [0, 1, 2, 3, 4, 5]⟩
       case rest =>
         obtain ⟨g4, cap4, h7⟩ := hcut
         have p1 := h7.out.cell 5 rfl 1 rfl
         dsimp only at p1
         have h8 := h7.out.ent (i := 2) rfl (Q := knA (.slice (some ⟨g4, 0, none⟩) (env.length + 1) cap4) (env ++ [⟨x, id, o, f⟩])) (fun _ ha => qX ha)
         have h9 := Prt.Sat.fP (f := (0, 0)) (q := (.slice (some ⟨g4, 0, none⟩) (env.length + 1) cap4, .slice oa s.out.length oc, .slice ca s.caught.length cc)) (h8.pick [0, 1, 2, 3, 4])
         have h10 := (Prt.Sat.pack (L := [siA sb (.slice (some ⟨g, 0, none⟩) N cap) tv main (env ++ [⟨x, id, o, f⟩]) s (0, 0)]) ((h9.fH (P := fun _ => True) (fun _ => trivial)).pick [1, 0, 2])).pick [1, 0]
         have HST := qh (fun R hR => HP.out _ _ wc h10 (by simp only [lzA, lzC, lzN]; omega) (by omega) (by omega) R hR)
         clear h7 h8 h9 h10 HROW H4 t0 t1 t2 t3 c1
         go_wp2_with fail
         refine HST.out _ (fun w5 h5 => ?_)
         have H5 := qh h5
         clear h5
         go_wp2_with fail
         go_end0
         refine HR.out _ ?_
         rw [show Ty.mi p x id o f true G env s = G (env ++ [⟨x, id, o, f⟩]) s by unfold Ty.mi; rw [HE.out]; rfl]
         exact zS (y := [_]) (H5.out.un3.pick [0, 1])
     | false =>
       go_wp2_with fail
       go_quiet (fail)
       have h4 := H3.out.below (Go.below_drewN (Below.refl _ _) nq)
       generalize World.drewN _ nq = w1 at *
       clear hS H3 c0 c1 p5 p1 r0 hgr hb81 hsb1
       have p1 := h4.cell 5 rfl 1 rfl
       dsimp only at p1
       have h9 := Prt.Sat.fP (f := (0, 0)) (s := s) (q := (.slice ea env.length ec, .slice oa s.out.length oc, .slice ca s.caught.length cc)) ((Prt.Sat.pack (L := [_, _, _, _]) (h4.pick [1, 2, 3, 4, 0, 6])).pick [4, 0, 1, 2, 3])
       have HST := qh (fun R hR => HP.out _ _ w1 h9 (by omega) (by omega) (by omega) R hR)
       clear h4 h9
       go_wp2_with fail
       refine HST.out _ (fun w5 h5 => ?_)
       obtain ⟨y, s', ft, hyl, h6, hpost⟩ := BP (nm := ⟨x, id, o, f⟩) (fun p hp => by obtain ⟨_, y, hy, hyl⟩ := HGD.out env s p hp; exact ⟨y, hy, hyl⟩) h5
       have HPO := qh hpost
       clear hpost h5
       have hel : (env ++ y).length ≤ 2599 := by rw [List.length_append]; omega
       generalize env ++ y = env2 at *
       obtain ⟨ev2, ov2, cv2, h7⟩ := h6.ik
       have h8 := (h7.unpack (i := 0) rfl).pick [4, 0, 1, 2, 3, 5]
       obtain ⟨ea2, ec2, rfl⟩ := ag (h8.row 2 rfl)
       have c1 := h8.cell 1 rfl 3 rfl
       have t0 := h8.cell 5 rfl 0 rfl
       have t1 := h8.cell 5 rfl 1 rfl
       have t2 := h8.cell 5 rfl 2 rfl
       have t3 := h8.cell 5 rfl 3 rfl
       dsimp only at c1 t0 t1 t2 t3
       have hsb1 := h8.lt 1 rfl
       have hnm1 := h8.lt 5 rfl
       have HROW := qh (h8.row 2 rfl)
       have H8 := qh h8
       clear h6 h7 h8 p1 hyl
       go_wp2_with fail
       go_region_law (first
         | (go_loud (refine step_append_lies _ (by rfl) _ _ _ (by rfl) 0 154 i0 _ 4 40 Tryz.underlying93 ti tz0 tz1 tz2 rfl (by omega) (.slice ea2 env2.length ec2) env2.length (env2.flatMap bZ) (by rfl) ((HROW.out.alloc _).drew) ⟨w5.heap.size, 0, none⟩ 1 1 [.string x, .int .i64 (id : Nat), .int .i64 (o : Nat), .int .i64 f] (by rfl) (by rfl) (World.news_of_block (cs := #[.string x, .int .i64 (id : Nat), .int .i64 (o : Nat), .int .i64 f]) (t := 154) (fr := (0, 0)) (aV (ak _ _ _ (by simp)))) (by simp [Value.oneCell']) (by omega) (by unfold maxLen; omega) (by omega) (by simp) (w5.heap.size + 1) (by simp) ?_); intro g4 cap4 w4 hown4 hgrow4 hat4 hlt4; have h6 := Prt.Sat.grow (H8.out.ay _).drew 2 rfl hgrow4 hown4 (by simpa using hat4); have d4 := h6.cell 1 rfl 3 rfl; have e4 := h6.free 1 rfl 3; have hs4 := h6.lt 1 rfl; have H6 := qh h6; clear h6))
       all_goals
         go_wp2_with fail
         go_end0
         refine HR.out _ ?_
         rw [show Ty.mi p x id o f false G env s = andX (G env s) fun r => .ok (r.1 ++ [⟨x, id, o, f⟩], r.2) by unfold Ty.mi; rw [HE.out]; rfl]
         have h9 : Sat wB (w4.setCell ⟨sb, 3, none⟩ (.slice (some ⟨g4, 0, none⟩) (env2.length + 1) cap4)) [Fr, blk sb (siO (.slice (some ⟨g, 0, none⟩) N cap) tv main (.slice (some ⟨g4, 0, none⟩) (env2.length + 1) cap4) ov2 cv2 ft), Prt.row 154 4 (.slice (some ⟨g4, 0, none⟩) (env2.length + 1) cap4) (env2.length + 1) (env2.flatMap bZ ++ bZ ⟨x, id, o, f⟩), bdA ov2 s'.out, inA cv2 s'.caught] := (H6.out.store 1 rfl 3 (.slice (some ⟨g4, 0, none⟩) (env2.length + 1) cap4)).pick [0, 1, 2, 3, 4]
         have h10 := h9.ent (i := 2) rfl (Q := knA (.slice (some ⟨g4, 0, none⟩) (env2.length + 1) cap4) (env2 ++ [⟨x, id, o, f⟩])) (fun _ ha => qX ha)
         exact HPO.out _ _ (Prt.Sat.fP (q := (.slice (some ⟨g4, 0, none⟩) (env2.length + 1) cap4, ov2, cv2)) h10)
end
end
end Go.Proofs.YtdlbhiaceheffabGreatDoor
