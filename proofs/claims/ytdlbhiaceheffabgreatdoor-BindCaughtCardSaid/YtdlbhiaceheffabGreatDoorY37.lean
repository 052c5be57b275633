/- The reference's reader of programs: statement; all depths. -/
import Derived.Test.YtdlbhiaceheffabGreatDoorY36
set_option linter.all false
set_option maxRecDepth 100000
set_option maxHeartbeats 8000000
namespace Go.Proofs.YtdlbhiaceheffabGreatDoor
section
open Go Go.RowKit
open Prt (Sat As blk pur exs star ah)
open Rd (At)
section
variable {af : List Tok.Tk} {d k : Nat} {T E S : Ty.M Nat}
theorem yF : RSp 87 af 20 0 0 (Ty.fail af 8) := by
 intro w0 w Fr pb s c j K whole hc hk hK h H R hR
 have HR := qh hR
 have HS := qh H
 have hA : At af c j whole (Ty.ret 0) (Rd.wrong af 8 s) := At.fail (k := Ty.ret) (h.congr (m' := Ty.bnd (Ty.fail af 8) Ty.ret) (fun _ => rfl)) _ _
 have HA := qh (hA.mono (by omega : c ≤ K) (Nat.le_refl j))
 have HN : Hid ((Rd.wrong af 8 s).f.isNone = false) := by unfold Rd.wrong; cases h : s.f with | none => rfl | some y => simp [Hid, h]
 clear hR H h hA
 go_enter Tryz.func87, Tryz.ntmps87
 go_wp2_with fail
 refine bU HS.out (by omega) (fun w1 h1 => ?_)
 rw [if_pos rfl] at h1 ⊢
 rw [HN.out]
 have H1 := qh h1
 clear h1
 go_wp2_with fail
 refine bg H1.out (fun w2 h2 => ?_)
 have H2 := qh h2
 clear h2
 go_wp2_with fail
 exact HR.out _ _ _ HA.out H2.out
theorem Aq (hL : ∀ t, af.getLast? = some t → t.kind = 6) (hd : d < 20) (hT : RSp 291 af (d + 1) k 0 T) (hE : RSp 232 af (d + 1) k 0 E) (hS : RSp 87 af (d + 1) k 0 S) (hA : Ty.Adv 1 0 0 E) (hAS : Ty.Adv 1 0 0 S) (hN : Ty.Nx E) : RSp 87 af d (k + 4) 0 (Ty.bareM af T E S) := by
 intro w0 w Fr pb s c j K whole hc hk hK h H R hR
 have HR := qh hR
 have HS := qh H
 have HI := qh (fun w (hf : s.f = none) (h : At af 0 j whole (Ty.bareM af T E S) s) (H : Sat w0 w [Fr, rdA pb (d + 1) af s]) R hR => yl hL hT hE hS hA hAS hN hk hK hf h H (R := R) hR)
 have HA0 := qh h
 clear hR H h hT hE hS
 cases hf : s.f with
 | some y =>
   have HN : Hid (s.f.isNone = false) := by show _ = _; rw [hf]; rfl
   have HA := qh ((HA0.out.bad hf (Ty.ret 0) j).mono (by omega : c ≤ K) (Nat.le_refl j))
   clear hf
   go_enter Tryz.func87, Tryz.ntmps87
   go_wp2_with fail
   refine bU HS.out (by omega) (fun w1 h1 => ?_)
   rw [if_neg (by omega)] at h1 ⊢
   rw [HN.out]
   have H1 := qh h1
   clear h1
   go_wp2_with fail
   refine bg H1.out (fun w2 h2 => ?_)
   have H2 := qh h2
   clear h2
   go_wp2_with fail
   exact HR.out _ _ _ HA.out H2.out
 | none =>
   have HN : Hid (s.f.isNone = true) := by show _ = _; rw [hf]; rfl
   have HA := qh (HA0.out.good hf 0)
   have HF := qh hf
   clear hf
   go_enter Tryz.func87, Tryz.ntmps87
   go_wp2_with fail
   refine bU HS.out (by omega) (fun w1 h1 => ?_)
   rw [if_neg (by omega)] at h1 ⊢
   rw [HN.out]
   have H1 := qh h1
   clear h1
   go_wp2_with fail
   refine HI.out _ HF.out HA.out H1.out _ (fun n s2 w2 h2 h3 => ?_)
   have HA2 := qh h2
   have H3 := qh h3
   clear h2 h3
   go_wp2_with fail
   refine bg H3.out (fun w4 h4 => ?_)
   have H4 := qh h4
   clear h4
   go_wp2_with fail
   exact HR.out _ _ _ HA2.out H4.out
end
theorem qR (af : List Tok.Tk) (hL : ∀ t, af.getLast? = some t → t.kind = 6) (hnum : Ty.Nums af) : ∀ r, r ≤ 20 → RSp 232 af (20 - r) (10 * r) 0 (Ty.lv af r).E ∧ RIn af (20 - r) (10 * r) (Ty.lv af r).O ∧ RSp 87 af (20 - r) (10 * r) 0 (Ty.lv af r).S
 | 0, _ => ⟨Ak, .inl ⟨rfl, rfl⟩, yF⟩
 | r + 1, hr => by
   obtain ⟨hE, hO, hS⟩ := qR af hL hnum r (by omega)
   obtain ⟨ae, ao, as'⟩ := Ty.lv_adv af r
   obtain ⟨ne, no, ns⟩ := Ty.lv_nx af r
   have hT := (o8 af hL r (by omega)).mono (by omega : r ≤ 10 * r)
   have hTA := Ty.typ_adv af r
   have hTP := Ty.Pre.typ af r
   have hatom := Ai hL hnum hT hE hS hTA ae as' ne
   have hsig := uA hL hT hE hO hatom hTA ae ne (Ty.simpleM_nx hTP ne ns.pre)
   obtain ⟨_, ao', _⟩ := Ty.lv_adv af (r + 1)
   obtain ⟨_, no', _⟩ := Ty.lv_nx af (r + 1)
   have hprod := oQ hL hsig ao' no'
   have hsums := Ap hL hprod (Ty.left_adv ao') (Ty.left_nx no')
   have e : 20 - r = 20 - (r + 1) + 1 := by omega
   have hd : 20 - (r + 1) < 20 := by omega
   rw [e] at hsums hsig hT hE hS
   exact ⟨(CJ hL hd hsums ao' no').mono (by omega), .inr ⟨hd, hsig.mono (by omega)⟩, (Aq hL hd hT hE hS ae as' ne).mono (by omega)⟩
theorem xH {s : ByteArray} {af : List Tok.Tk} (h : Tok.scan s = .ok af) : Ty.parse s = match Ty.progM af ⟨0, [], []⟩ with
   | .error e => .error e
   | .ok (n, st) => if st.ns.length > 1200 ∨ st.ts.length > 300 then .error (2, 0) else .ok ⟨st.ns, st.ts, n⟩ := by
 unfold Ty.parse; rw [h]
 rfl
theorem CX {af : List Tok.Tk} {f : Nat} {l : List Nat} {s : Ty.St} (h : (Ty.cur af s.pos).kind ≠ 6) : Ty.pgT af (f + 1) l s = Ty.bnd (Ty.lv af 20).S (fun n => Ty.pgT af f (l ++ [n])) s := by
 cases e : (Ty.lv af 20).S s with
 | error x => rw [Ty.vP h e, Ty.bnd_err e]
 | ok p => obtain ⟨n, s1⟩ := p; rw [Ty.Aa h e, Ty.bnd_ok e]
theorem kT {w0 w : World} {Fr : As} (H : Sat w0 w [Fr]) (s : ByteArray) (hm : s.size ≤ maxLen) {R : Ending → World → Prop}
   (hok : ∀ (pg : Ty.Pg) nv tv w', Ty.parse s = .ok pg → Sat w0 w' [Fr, ndA nv pg.ns, tyA tv pg.ts] → R (.returned (.tuple #[.agg #[nv, tv, .int .i64 (pg.main : Nat)], aP (0, 0)])) w')
   (hbad : ∀ f w', Ty.parse s = .error f → Sat w0 w' [Fr] → R (.returned (.tuple #[.agg #[.slice none 0 0, .slice none 0 0, .int .i64 0], aP f])) w') :
   Calls Tryz.prog 44 #[.string s] w R := by
 have HOK := qh hok
 have HBAD := qh hbad
 have HS := qh H
 have HMX := qh hm
 obtain ⟨k0, tk, vz0, vz1, vz2⟩ := info_parts bY
 clear hok hbad H hm
 go_enter Tryz.func44, Tryz.ntmps44
 go_wp2_with fail
 have h1 := (HS.out.aj (.cells #[.slice none 0 0, .slice none 0 0, .int .i64 0] 31) w.heap.size).aj (.cells #[.int .i64 0, .int .i64 0] 25) (w.heap.size + 1)
 refine tK s _ HMX.out (fun af v w1 hl hb ho => ?_) (fun e p w1 hl hb => ?_)
 · have h2 := h1.newRow hb ho (by omega)
   have hl0 := Tok.scan_ok s af hl
   have HT : Hid (gJ af ∧ 0 < af.length) := ⟨⟨hl0.2.1, Ty.scan_last hl⟩, List.length_pos_iff.2 hl0.1⟩
   have htop := xH hl
   have hnum := Ty.scan_nums hl
   obtain ⟨a, cap, rfl⟩ := ag ho
   have y0 := h2.cell 2 rfl 0 rfl
   have y1 := h2.cell 2 rfl 1 rfl
   have v0 := h2.cell 1 rfl 0 rfl
   have v1 := h2.cell 1 rfl 1 rfl
   have v2 := h2.cell 1 rfl 2 rfl
   have H2 := qh h2
   have HTOP := qh htop
   have htl := hl0.2.1
   have HST := qh (qR af HT.out.1.2 hnum 20 (by omega)).2.2
   have HAS := qh (Ty.lv_adv af 20).2.2
   clear hl hb ho h1 h2 hl0 htop hnum
   go_wp2_with fail
   have h3 := (H2.out.aj (.cells #[.int .i64 0, .int .i64 0] 25) w1.heap.size).aj (.cells #[.slice a af.length cap, .int .i64 0, .int .i64 0, .slice none 0 0, .slice none 0 0, .int .i64 0, .int .i64 0, .int .i64 0] 152) (w1.heap.size + 1)
   have h4 : Sat w0 _ [ah [Fr, blk w.heap.size (.cells #[.slice none 0 0, .slice none 0 0, .int .i64 0] 31 (0, 0)), blk (w.heap.size + 1) (.cells #[.int .i64 0, .int .i64 0] 25 (0, 0))], tkA (.slice a af.length cap) af, blk (w1.heap.size + 1) (.cells #[.slice a af.length cap, .int .i64 0, .int .i64 0, .slice none 0 0, .slice none 0 0, .int .i64 0, .int .i64 0, .int .i64 0] 152 (0, 0))] :=
     ((Prt.Sat.pack (L := [_, _]) (M := [Fr, blk w.heap.size (.cells #[.slice none 0 0, .slice none 0 0, .int .i64 0] 31 (0, 0)), blk (w.heap.size + 1) (.cells #[.int .i64 0, .int .i64 0] 25 (0, 0))]) (h3.pick [3, 5, 0, 1, 2])).pick [2, 0, 1])
   have h5 := (Prt.Sat.EM HT.out h4).un4.nil 3 1
   have h5 : Sat w0 _ [Fr, rdA (w1.heap.size + 1) 0 af ⟨⟨0, [], []⟩, none⟩, blk w.heap.size (.cells #[.slice none 0 0, .slice none 0 0, .int .i64 0] 31 (0, 0)), blk (w.heap.size + 1) (.cells #[.int .i64 0, .int .i64 0] 25 (0, 0)), inA (.slice none 0 0) []] := h5
   have HA5 : Hid (At af 220 0 (Ty.progM af ⟨0, [], []⟩) (Ty.pgT af (af.length + 1) []) ⟨⟨0, [], []⟩, none⟩) := .inl ⟨rfl, ⟨HT.out.2, by simp, by simp⟩, rfl⟩
   have H5 := qh h5
   clear h3 h4 h5
   go_loopw [7] (fun v wr => ∃ (f : Nat) (l : List Nat) (q : Rd.RS), l.length ≤ af.length + 1 ∧ Hid (q.f = none → af.length < q.st.pos + f ∧ l.length ≤ q.st.pos) ∧ Hid (At af 220 0 (Ty.progM af ⟨0, [], []⟩) (Ty.pgT af f l) q) ∧ Hid (Sat w0 wr [Fr, rdA (w1.heap.size + 1) 0 af q, blk w.heap.size (.cells #[.slice none 0 0, .slice none 0 0, .int .i64 0] 31 (0, 0)), blk (w.heap.size + 1) (.cells #[.int .i64 0, .int .i64 0] 25 (0, 0)), inA v l]))
     (fun _ wr => msR af.length (w1.heap.size + 1) wr)
   case atStart => exact ⟨af.length + 1, [], ⟨⟨0, [], []⟩, none⟩, by simp, fun _ => ⟨by omega, by simp⟩, HA5.out, H5.out⟩
   case round =>
     obtain ⟨f, l, q, hll, hfu, hAt, hS⟩ := hrel
     obtain ⟨la, lc, rfl⟩ := ag (hS.out.row 4 rfl)
     have HMS := qh (bF (hS.out.pick [0, 1]).az af.length)
     have hlk := (hS.out.pick [0, 1]).az
     have HLN := qh (fun n => hlk.below (Go.below_drewN (Below.refl wr.heap.size wr) n))
     obtain ⟨f0, c1, _, k6, k7, g0, cap0, c0, hg, t0, t1, t2⟩ := hlk.cells
     have hpb := hlk.lt
     have hpos := hlk.fits.1
     have y0 := hS.out.cell 3 rfl 0 rfl
     have y1 := hS.out.cell 3 rfl 1 rfl
     have v0 := hS.out.cell 2 rfl 0 rfl
     have v1 := hS.out.cell 2 rfl 1 rfl
     have v2 := hS.out.cell 2 rfl 2 rfl
     have fy := hS.out.free 3 rfl
     have fv := hS.out.free 2 rfl
     have hy := hS.out.lt 3 rfl
     have hv := hS.out.lt 2 rfl
     have hne12 : w.heap.size ≠ w.heap.size + 1 := by omega
     obtain ⟨st, qf⟩ := q
     dsimp only at hpos c1 t0 t1 t2
     cases qf with
     | some y =>
       have hw : Ty.parse s = .error y := by
         rcases hAt.out with ⟨h, _⟩ | ⟨y', h, _, h3⟩
         · cases h
         · cases h; rw [HTOP.out, h3]
       have HW := qh hw
       obtain ⟨ye, yp⟩ := y
       dsimp only [jq, Option.getD] at k6 k7
       clear hAt hfu HMS hw hlk
       go_wp2_with fail
       go_quiet ((go_at_call 86; exact Calls.quiet_of_same (bC _ (w1.heap.size + 1) 0 af ⟨st, some (ye, yp)⟩ (HLN.out _) ⟨rfl, rfl⟩)))
       go_wp2_with fail
       refine bC _ _ _ af _ (HLN.out nq) ?_
       dsimp only [Option.isSome]
       go_wp2_with fail
       go_region
       all_goals
         go_wp2_with fail
         refine bodyPost_ret ?_ rfl (HBAD.out (ye, yp) _ HW.out ?_)
         · simp [results, Tryz.results44, go_sem, aP, v0, v1, v2, y0, y1]
         · exact ((((((((hS.out.below (Go.below_drewN (Below.refl _ _) nq)).store 2 rfl 0 (.slice none 0 0)).store 2 rfl 1 (.slice none 0 0)).store 2 rfl 2 (.int .i64 0)).store 3 rfl 0 (.int .i64 ye)).store 3 rfl 1 (.int .i64 yp))).drew.pick [0])
     | none =>
       have hfp := hfu.out rfl
       obtain ⟨f, rfl⟩ : ∃ g, f = g + 1 := ⟨f - 1, by have := hfp.1; dsimp only at this; omega⟩
       have hgd : Rd.Gd af 0 st ∧ Ty.progM af ⟨0, [], []⟩ = Ty.pgT af (f + 1) l st := by
         rcases hAt.out with ⟨_, h2, h3⟩ | ⟨y', h, _⟩
         · exact ⟨h2, h3⟩
         · cases h
       dsimp only at hfp
       by_cases hk : (Ty.cur af st.pos).kind = 6
       · have hw := hgd.2.trans (Ty.vK hk)
         have hgn := hgd.1.2.2
         have hgt := hgd.1.2.1
         rw [hk] at t0
         clear hAt hfu HMS hgd hlk hk
         go_wp2_with fail
         go_quiet ((go_at_call 86; exact Calls.quiet_of_same (bC _ (w1.heap.size + 1) 0 af ⟨st, none⟩ (HLN.out _) ⟨rfl, rfl⟩)))
         go_wp2_with fail
         refine bC _ _ _ af _ (HLN.out nq) ?_
         dsimp only [Option.isSome]
         have h6 := hS.out.below (Go.below_drewN (Below.refl _ _) nq)
         have H6 := qh h6
         clear h6 v0 v1 v2 y0 y1 fy fv hy hv c0 c1 k6 k7 t0 t1 t2 f0
         go_wp2_with fail
         refine add_any { Ty.ndOf 26 0 with list := l } (.slice la l.length lc) ((Prt.Sat.pack (L := [_, _]) (M := [_, _, _]) (H6.out.pick [1, 4, 0, 2, 3])).pick [2, 0, 1]) (by show st.ns.length ≤ 3000; omega) (fun w7 h7 => ?_)
         obtain ⟨⟨plv, pnv, ptv, pmain⟩, h8⟩ := h7.jm
         have h8 := (h8.unpack (i := 0) rfl).pick [5, 6, 7, 0, 1, 2, 3, 4]
         have h8 : Sat w0 w7 (Fr :: blk w.heap.size (.cells #[.slice none 0 0, .slice none 0 0, .int .i64 0] 31 (0, 0)) :: blk (w.heap.size + 1) (.cells #[.int .i64 0, .int .i64 0] 25 (0, 0)) :: BD (w1.heap.size + 1) 0 af (Rd.addN { Ty.ndOf 26 0 with list := l } ⟨st, none⟩) (plv, pnv, ptv, pmain)) := h8
         obtain ⟨nsE, hnsE⟩ : ∃ nsE, nsE = (Rd.addN { Ty.ndOf 26 0 with list := l } ⟨st, none⟩).st.ns := ⟨_, rfl⟩
         have hnl : nsE.length = st.ns.length + 1 := by rw [hnsE]; show (st.ns ++ [_]).length = _; simp
         have h9 := (h8.store 4 rfl 5 (.int .i64 (st.ns.length : Nat))).pick [0, 1, 2, 4, 6, 7]
         have y5 := h8.cell 4 rfl 5 rfl
         have f5 := h8.free 4 rfl
         have z5 := h8.lt 4 rfl
         have h9 : Sat w0 (w7.setCell ⟨w1.heap.size + 1, 5, none⟩ (.int .i64 (st.ns.length : Nat))) [Fr, blk w.heap.size (.cells #[.slice none 0 0, .slice none 0 0, .int .i64 0] 31 (0, 0)), blk (w.heap.size + 1) (.cells #[.int .i64 0, .int .i64 0] 25 (0, 0)), blk (w1.heap.size + 1) (.cells #[plv, .int .i64 st.pos, .int .i64 (0 : Nat), pnv, ptv, .int .i64 (st.ns.length : Nat), .int .i64 (0 : Nat), .int .i64 (0 : Nat)] 152 (0, 0)), ndA pnv nsE, tyA ptv st.ts] := by rw [hnsE]; exact h9
         obtain ⟨rows, h10⟩ := h9.ex (i := 4) rfl
         obtain ⟨na, nc, en⟩ := ag ((h10.unpack (i := 4) rfl).row 6 rfl)
         obtain ⟨rows2, h11⟩ := h9.ex (i := 5) rfl
         obtain ⟨ta, tc, et⟩ := ag ((h11.unpack (i := 5) rfl).row 6 rfl)
         clear h10 h11
         subst en et
         dsimp only at y5
         have hw2 : Ty.parse s = if nsE.length > 1200 ∨ st.ts.length > 300 then .error (2, 0) else .ok ⟨nsE, st.ts, st.ns.length⟩ := by rw [HTOP.out, hw, hnsE]; rfl
         have hw2 : Ty.parse s = if st.ts.length > 300 then .error (2, 0) else .ok ⟨nsE, st.ts, st.ns.length⟩ := by
           rw [hw2]
           by_cases h3 : st.ts.length > 300
           · rw [if_pos (.inr h3), if_pos h3]
           · rw [if_neg (by omega), if_neg h3]
         have HW := qh hw2
         have y0 := h9.cell 2 rfl 0 rfl
         have y1 := h9.cell 2 rfl 1 rfl
         have v0 := h9.cell 1 rfl 0 rfl
         have v1 := h9.cell 1 rfl 1 rfl
         have v2 := h9.cell 1 rfl 2 rfl
         have z3' := h9.cell 3 rfl 3 rfl
         have z4' := h9.cell 3 rfl 4 rfl
         have z5' := h9.cell 3 rfl 5 rfl
         have fy := h9.free 2 rfl
         have fv := h9.free 1 rfl
         have hy := h9.lt 2 rfl
         have hv := h9.lt 1 rfl
         have hn12 := h9.ne 1 2 (by decide) rfl rfl
         have hn13 := h9.ne 1 3 (by decide) rfl rfl
         have hn23 := h9.ne 2 3 (by decide) rfl rfl
         have q1 : decide (1200 < nsE.length) = false := decide_eq_false (by omega)
         have q2 : decide ((1200 : Int) < nsE.length) = false := decide_eq_false (by omega)
         have H9 := qh h9
         clear h7 h8 h9 hw hw2 hnsE hnl
         by_cases h3 : 300 < st.ts.length
         · have hr : Hid (Ty.parse s = .error (2, 0)) := by have := HW.out; rwa [if_pos h3] at this
           have q3 : decide (300 < st.ts.length) = true := decide_eq_true h3
           have q4 : decide ((300 : Int) < st.ts.length) = true := decide_eq_true (by omega)
           clear h3 HW
           go_wp2_with fail
           refine bodyPost_ret ?_ rfl (HBAD.out (2, 0) _ hr.out ?_)
           · simp [results, Tryz.results44, go_sem, aP, hy, hv, v0, v1, v2, y0, y1]
           · exact ((((((H9.out.store 1 rfl 0 (.slice none 0 0)).store 1 rfl 1 (.slice none 0 0)).store 1 rfl 2 (.int .i64 0)).store 2 rfl 0 (.int .i64 2)).store 2 rfl 1 (.int .i64 0)).pick [0])
         · have hr : Hid (Ty.parse s = .ok ⟨nsE, st.ts, st.ns.length⟩) := by have := HW.out; rwa [if_neg h3] at this
           have q3 : decide (300 < st.ts.length) = false := decide_eq_false h3
           have q4 : decide ((300 : Int) < st.ts.length) = false := decide_eq_false (by omega)
           clear h3 HW
           go_wp2_with fail
           refine bodyPost_ret ?_ rfl (HOK.out ⟨nsE, st.ts, st.ns.length⟩ (.slice na nsE.length nc) (.slice ta st.ts.length tc) _ hr.out ?_)
           · simp [results, Tryz.results44, go_sem, aP, hy, hv, v0, v1, v2, y0, y1]
           · exact ((((((H9.out.store 1 rfl 0 (.slice na nsE.length nc)).store 1 rfl 1 (.slice ta st.ts.length tc)).store 1 rfl 2 (.int .i64 (st.ns.length : Nat))).store 2 rfl 0 (.int .i64 0)).store 2 rfl 1 (.int .i64 0)).pick [0, 4, 5])
       · have hA2 : At af 0 0 (Ty.progM af ⟨0, [], []⟩) (Ty.bnd (Ty.lv af 20).S fun n => Ty.pgT af f (l ++ [n])) ⟨st, none⟩ := .inl ⟨rfl, hgd.1, hgd.2.trans (CX hk)⟩
         have hmq : msR af.length (w1.heap.size + 1) wr = af.length - st.pos + 1 := by rw [HMS.out]; rfl
         have HMQ := qh hmq
         obtain ⟨w2', hx, hback⟩ := hA2.use
         have HX := qh hx
         have HBK := qh hback
         have hk1 : (((Ty.cur af st.pos).kind : Int) != 6) = true := bne_iff_ne.2 (by omega)
         generalize Ty.cur af st.pos = tt at *
         obtain ⟨kd, tx, tp⟩ := tt
         dsimp only at t0 hk1
         clear hAt hfu HMS hgd hlk hk hA2 hx hback hmq
         go_wp2_with fail
         go_quiet ((go_at_call 86; exact Calls.quiet_of_same (bC _ (w1.heap.size + 1) 0 af ⟨st, none⟩ (HLN.out _) ⟨rfl, rfl⟩)))
         have h6 := hS.out.below (Go.below_drewN (Below.refl _ _) nq)
         have H6 := qh h6
         clear h6 v0 v1 v2 y0 y1 fy fv hy hv c0 c1 k6 k7 t0 t1 t2 f0
         go_wp2_with fail
         refine HST.out _ _ _ (w1.heap.size + 1) _ 0 0 220 w2' (by omega) (by omega) (by omega) HX.out (H6.out.at 1 rfl) _ (fun b s3 w3 h7 h8 => ?_)
         obtain ⟨h9, h10⟩ := HBK.out _ _ _ h7
         have hp3 : s3.f = none → st.pos < s3.st.pos := fun e => by
           obtain ⟨e1, e2⟩ := h10 e
           have := (HAS.out _ _ _ e2).1
           omega
         have H8 : Hid (Sat w0 w3 [Fr, rdA (w1.heap.size + 1) 0 af s3, blk w.heap.size (.cells #[.slice none 0 0, .slice none 0 0, .int .i64 0] 31 (0, 0)), blk (w.heap.size + 1) (.cells #[.int .i64 0, .int .i64 0] 25 (0, 0)), inA (.slice la l.length lc) l]) := h8.un5
         have HA8 := qh h9
         have HP3 := qh hp3
         clear h7 h8 h9 h10 hp3 HX HBK
         go_wp2_with (at_builtin; go_loud (refine wpList_append_lies _ rfl (.tmp 38) (.tmp 41) 39 rfl 0 3 k0 _ 1 8 Tryz.underlying39 tk vz0 vz1 vz2 rfl (by decide) _ _ (l.map aA) (by rfl) ((H8.out.row 4 rfl).alloc _) ⟨w3.heap.size, 0, none⟩ 1 1 [.int .i64 (b : Nat)] (by rfl) (by rfl) (World.news_of_block (cs := #[.int .i64 (b : Nat)]) (t := 3) (fr := (0, 0)) (ak _ _ _ (by simp))) (by simp [Value.oneCell']) (by omega) (by unfold maxLen; omega) (by omega) (by simp) (w3.heap.size + 1) (by simp) ?_))
         intro g7 cap7 w7 hown7 hgrow7 hat7 hlt7
         have h7 := Prt.Sat.grow (H8.out.ay _) 4 rfl hgrow7 hown7 (by simpa using hat7)
         have h7 := h7.ent (i := 4) rfl (Q := inA _ (l ++ [b])) (fun _ h => bz h)
         have h7 : Sat w0 w7 [Fr, rdA (w1.heap.size + 1) 0 af s3, blk w.heap.size (.cells #[.slice none 0 0, .slice none 0 0, .int .i64 0] 31 (0, 0)), blk (w.heap.size + 1) (.cells #[.int .i64 0, .int .i64 0] 25 (0, 0)), inA (.slice (some ⟨g7, 0, none⟩) (l.length + 1) cap7) (l ++ [b])] := h7
         have HMS2 := qh (bF (h7.pick [0, 1]).az af.length)
         have hp7 := (h7.pick [0, 1]).az.fits.1
         have H7 := qh h7
         clear h7 hown7 hgrow7 H8
         go_wp2_with fail
         go_roundw
         case rel => exact ⟨f, l ++ [b], s3, by simp; omega, fun h => by have := HP3.out h; exact ⟨by omega, by simp; omega⟩, HA8.out, H7.out⟩
         case measure =>
           rw [HMQ.out, HMS2.out]
           cases hq4 : s3.f with
           | none => have := HP3.out hq4; simp; omega
           | some y => simp
 · have h2 := h1.below hb
   have y0 := h2.cell 2 rfl 0 rfl
   have y1 := h2.cell 2 rfl 1 rfl
   have v0 := h2.cell 1 rfl 0 rfl
   have v1 := h2.cell 1 rfl 1 rfl
   have v2 := h2.cell 1 rfl 2 rfl
   have fy := h2.free 2 rfl
   have fv := h2.free 1 rfl
   have hy := h2.lt 2 rfl
   have hv := h2.lt 1 rfl
   have hne12 := h2.ne 1 2 (by decide) rfl rfl
   have hE : Ty.parse s = .error (e, p) := by unfold Ty.parse; rw [hl]
   have hbd := Ty.parse_bad hE
   dsimp only at hbd
   have e2 : ((e : Int) != 0) = true := by simp; omega
   have H2 := qh h2
   have HE := qh hE
   clear hl hb h1 h2 hE hbd
   go_wp2_with fail
   go_region
   all_goals
     go_wp2_with fail
     refine bodyPost_ret ?_ rfl (HBAD.out (e, p) _ HE.out ?_)
     · simp [results, Tryz.results44, go_sem, aP, hy, hv, v0, v1, v2, y0, y1]
     · exact (((((((H2.out.store 1 rfl 0 (.slice none 0 0)).store 1 rfl 1 (.slice none 0 0)).store 1 rfl 2 (.int .i64 0)).store 2 rfl 0 (.int .i64 e)).store 2 rfl 1 (.int .i64 p)).ay _).drew.pick [0])
end
end Go.Proofs.YtdlbhiaceheffabGreatDoor
