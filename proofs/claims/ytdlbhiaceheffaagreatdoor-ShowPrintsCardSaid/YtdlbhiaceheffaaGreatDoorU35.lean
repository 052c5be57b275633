/- Walks of the reference's writeBlock, and of its writeBare at objects and functions. -/
import Derived.Test.YtdlbhiaceheffaaGreatDoorU34
set_option linter.all false
set_option maxRecDepth 100000
set_option maxHeartbeats 8000000
namespace Go.Proofs.YtdlbhiaceheffaaGreatDoor
section
open Go Go.RowKit
open Prt (Sat As blk pur exs star stars)
def SlR (wB : World) (nv tv : Value) (pg : Ty.Pg) (main : Int) (l : List Ty.Sm) : Prop :=
 ∀ (nl : List Nat) (lv : Value), Ty.DenSs pg.ns l nl → wB.ownsRow 0 3 1 lv nl.length (nl.map inCell) → ∀ (ind : Nat) (w : World), Below wB.heap.size wB w → ind + Ty.szSs l ≤ 1300 → (Ty.wSs pg.ts ind l).length ≤ 900000000 →
   ∀ R : Ending → World → Prop, (∀ w', Below w.heap.size w w' → R (.returned (.string (bs (Ty.wSs pg.ts ind l)))) w') →
   Calls Tryz.prog 44 #[pgVal nv tv main, lv, .int .i64 (ind : Nat)] w R
def BlR (wB : World) (nv tv : Value) (pg : Ty.Pg) (main : Int) (l : List Ty.Sm) : Prop :=
 ∀ (bp n : Nat), Ty.DenB pg.ns bp l n → ∀ (ind : Nat) (w : World), Below wB.heap.size wB w → ind + Ty.szSs l + 1 ≤ 1300 → (Ty.wB pg.ts ind l).length ≤ 900000000 →
   ∀ R : Ending → World → Prop, (∀ w', Below w.heap.size w w' → R (.returned (.string (bs (Ty.wB pg.ts ind l)))) w') →
   Calls Tryz.prog 88 #[pgVal nv tv main, .int .i64 (n : Nat), .int .i64 (ind : Nat)] w R
section
variable {wB : World} {nv tv : Value} {pg : Ty.Pg} {main : Int}
theorem rblock_any (hP : PB wB nv tv pg) {l : List Ty.Sm} (hS : SlR wB nv tv pg main l) : BlR wB nv tv pg main l := by
 intro bp n hd ind w hb hsz hlen R hR
 rw [Ty.DenB] at hd
 obtain ⟨nl, hn, hd⟩ := hd
 obtain ⟨g, cap, lv, rfl, hnl, hg, hcap, hcm, hA, hl, _, hN⟩ := hP.look hn
 obtain ⟨ta, tn, tc, rfl⟩ := hP.tySlice
 have HR := qh hR
 unfold Ty.wB at HR hlen
 have hSx := fun (w1 : World) (h : Below w.heap.size w w1) hx => hS nl lv hd hl (ind + 1) w1 (hb.trans (h.mono hb.size)) (by omega) hx
 simp only [show ((ind + 1 : Nat) : Int) = (ind : Int) + 1 by omega] at hSx
 have HSL := qh hSx
 have hgw : g < w.heap.size := Nat.lt_of_lt_of_le hg hb.size
 have q4 := (hA.below hb).q4
 obtain ⟨la, lc, rfl⟩ := owns_slice hl
 unfold maxLen at hcm
 have hgw1 : g < w.heap.size + 1 := by omega
 have h1 : Sat w (w.alloc (.cells #[.slice (some ⟨g, 0, none⟩) pg.ns.length cap, .slice ta tn tc, .int .i64 main] 33)) [Prt.oldA w, blk w.heap.size (pgObj (.slice (some ⟨g, 0, none⟩) pg.ns.length cap) (.slice ta tn tc) main)] := (Prt.Sat.old w).allocAt _ w.heap.size
 have HK := qh (fun w1 (h : Sat w w1 [Prt.oldA w, blk w.heap.size (pgObj (.slice (some ⟨g, 0, none⟩) pg.ns.length cap) (.slice ta tn tc) main)]) => (⟨h.cell 1 rfl 0 rfl, h.cell 1 rfl 1 rfl, h.cell 1 rfl 2 rfl, keepCell h.isBelow q4⟩ : w1.cell? ⟨w.heap.size, 0, none⟩ = some (.slice (some ⟨g, 0, none⟩) pg.ns.length cap) ∧ w1.cell? ⟨w.heap.size, 1, none⟩ = some (.slice ta tn tc) ∧ w1.cell? ⟨w.heap.size, 2, none⟩ = some (.int .i64 main) ∧ w1.cell? ⟨g, n * 9 + 4, none⟩ = some (.slice la nl.length lc)))
 have H1 := qh h1
 have hbl := Ty.blanks_len ind
 have hin : ind ≤ 1300 := by omega
 simp only [lzA, lzC, lzN] at hlen
 generalize Ty.wSs pg.ts (ind + 1) l = pl at *
 have HLpl : Hid (pl.length ≤ 900000000) := by show _ ≤ _; omega
 obtain ⟨s1, e1, c1⟩ := cat_ex (a := ⟨#[123, 10]⟩) (b := bs pl) (x := [123, 10]) (z := [123, 10] ++ pl) rfl rfl rfl (by simp only [lzA, lzC, lzN]; omega)
 obtain ⟨s2, e2, c2⟩ := cat_ex (a := s1) (b := bs (Ty.blanks ind)) (z := [123, 10] ++ pl ++ Ty.blanks ind) e1 rfl rfl (by simp only [lzA, lzC, lzN]; omega)
 obtain ⟨s3, e3, c3⟩ := cat_ex (a := s2) (b := ⟨#[125]⟩) (y := [125]) (z := [123, 10] ++ pl ++ Ty.blanks ind ++ [125]) e2 rfl rfl (by simp only [lzA, lzC, lzN]; omega)
 rw [← e3] at HR
 have hwi : IntKind.i64.wrap ((ind : Int) + 1) = (ind : Int) + 1 := IntWalk.i64_in _ (by omega)
 generalize hNN : pg.ns.length = N at *
 clear hR hS hd hn hb hA hl hlen hsz h1 hSx hP e1 e2 e3 hbl hNN
 dsimp only [pgVal] at *
 go_enter Tryz.func88, Tryz.ntmps88
 go_wp2_with fail
 go_region_held3 (fun w' => w'.cell? ⟨w.heap.size, 0, none⟩ = some (.slice (some ⟨g, 0, none⟩) N cap) ∧ w'.cell? ⟨w.heap.size, 1, none⟩ = some (.slice ta tn tc) ∧ w'.cell? ⟨w.heap.size, 2, none⟩ = some (.int .i64 main) ∧ w'.cell? ⟨g, n * 9 + 4, none⟩ = some (.slice la nl.length lc)) (go_keep)
   (first | (go_at_call 44; with_reducible refine HSL.out _ H1.out.drew.isBelow HLpl.out _ (fun w2 hb2 => ?_); have h2 := H1.out.drew.below hb2; obtain ⟨r0, r1, r2, r3⟩ := HK.out _ h2; have H2 := qh h2; clear hb2 h2)
          | (go_at_call 85; refine rblanks_any _ ind (by omega) ?_; obtain ⟨r0, r1, r2, r3⟩ := HK.out _ H2.out))
 all_goals
   go_wp2_with fail
   exact HR.out _ H2.out.isBelow
theorem rb_obj (hP : PB wB nv tv pg) {p : Nat} {l : List (Nat × ByteArray × Ty.Ex)} (hE : ∀ o ∈ l, RxC wB nv tv pg main o.2.2) : RbC wB nv tv pg main (.obj p l) := by
 intro n nd lv hd hn hl ind w hb hsz hlen R hR
 rw [Ty.DenE] at hd
 obtain ⟨nl, h1, hd⟩ := hd
 rw [hn] at h1
 cases h1
 rw [Ty.szE] at hsz
 have hll := hd.len
 have hsl := Ty.szOs_len l
 rw [Ty.wE] at hlen hR
 have HR := qh hR
 obtain ⟨g, cap, lv0, rfl, hnlt, hg, hcap, hcm, _, _, _, hN⟩ := hP.look hn
 obtain ⟨ta, tn, tc, rfl⟩ := hP.tySlice
 have hgw : g < w.heap.size := Nat.lt_of_lt_of_le hg hb.size
 have hwl : (Ty.wOs pg.ts ind l).length = nl.length := by rw [Ty.wOs_map]; simp; omega
 have HIT : Hid (∀ k (hk : k < nl.length) (hk2 : k < (Ty.wOs pg.ts ind l).length), ∃ (tx : ByteArray) (rest : List UInt8) (z : Int), (Ty.wOs pg.ts ind l)[k] = tx.data.toList ++ rest ∧ tx.size ≤ 30 ∧ nl[k] < pg.ns.length ∧
     (∀ w1, Below w.heap.size w w1 → w1.cell? ⟨g, nl[k] * 9 + 5, none⟩ = some (.string tx) ∧ w1.cell? ⟨g, nl[k] * 9 + 1, none⟩ = some (.int .i64 z)) ∧
     (∃ pe, rest = [58, 32] ++ pe ∧ (pe.length ≤ 900000000 → ∀ w1, Below w.heap.size w w1 → ∀ R : Ending → World → Prop, (∀ w', Below w1.heap.size w1 w' → R (.returned (.string (bs pe))) w') →
       Calls Tryz.prog 87 #[.agg #[.slice (some ⟨g, 0, none⟩) pg.ns.length cap, .slice ta tn tc, .int .i64 main], .int .i64 z, .int .i64 0, .int .i64 (ind : Nat)] w1 R))) := fun k hk hk2 => by
   have hkl : k < l.length := by omega
   obtain ⟨m, hdm⟩ := hd.get k hkl hk
   obtain ⟨g2, cap2, lv2, e2, hm2, _, _, _, hA2, _, hok2, _⟩ := hP.look hdm.nd
   cases e2
   have hmem : l[k] ∈ l := List.getElem_mem _
   have ex : (Ty.wOs pg.ts ind l)[k] = l[k].2.1.data.toList ++ ([58, 32] ++ Ty.wE pg.ts ind l[k].2.2) := by simp [Ty.wOs_map]
   refine ⟨l[k].2.1, _, (m : Nat), ex, hok2.size, hm2, fun w1 h1 => ⟨((hA2.below hb).below h1).q5, ((hA2.below hb).below h1).q1⟩, _, rfl, fun hpe w1 h1 R hR => ?_⟩
   have hx := hE _ hmem m hdm.den 0 ind w1 (hb.trans (h1.mono hb.size)) (by omega) (by have := Ty.szOs_in hmem; omega)
   rw [Ty.wP_zero] at hx
   exact hx hpe R hR
 have hnl : nl.length ≤ 1300 := by omega
 have HL := qh (owns_below hl hb)
 have HWL := qh hwl
 obtain ⟨la, lc, rfl⟩ := owns_slice hl
 unfold maxLen at hcm
 have h1 := rfIn w (.slice (some ⟨g, 0, none⟩) pg.ns.length cap) (.slice ta tn tc) main { Ty.ndOf 10 p with list := nl } (.slice la nl.length lc)
 have HRD := qh (fun (w1 : World) (h : Sat w w1 (RfL w (.slice (some ⟨g, 0, none⟩) pg.ns.length cap) (.slice ta tn tc) main { Ty.ndOf 10 p with list := nl } (.slice la nl.length lc))) => rfRd h)
 have HB2 := qh (fun (w1 : World) (h : Sat w w1 (RfL w (.slice (some ⟨g, 0, none⟩) pg.ns.length cap) (.slice ta tn tc) main { Ty.ndOf 10 p with list := nl } (.slice la nl.length lc))) => h.isBelow)
 have H1 := qh h1
 have HLN := qh hlen
 by_cases h0 : l.length = 0
 · have k0 : ((nl.length : Int) == 0) = true := beq_iff_eq.2 (by omega)
   rw [if_pos h0] at HR
   clear hR hlen hn hl hb hsz h1 hP hE hd hll hsl hwl h0 HIT HL HWL HRD HB2 HLN
   dsimp only [pgVal, ndVal, Ty.ndOf] at *
   go_enter Tryz.func120, Tryz.ntmps120
   go_wp2_with fail
   exact HR.out _ H1.out.isBelow
 have k0 : ((nl.length : Int) == 0) = false := beq_eq_false_iff_ne.2 (by omega)
 rw [if_neg h0] at HR HLN
 generalize (Ty.wOs pg.ts ind l) = xs at *
 generalize hNN : pg.ns.length = N at *
 clear hR hlen hn hl hb hsz h1 hP hd hll hwl hE hsl h0 hNN
 dsimp only [pgVal, ndVal, Ty.ndOf] at *
 simp only [show ((10 : Nat) : Int) = 10 from rfl, show ((0 : Nat) : Int) = 0 from rfl]
 go_enter Tryz.func120, Tryz.ntmps120
 go_wp2_with fail
 go_loopw [9, 10] (fun s i wr => ∃ k : Nat, s = .string (bs (Ty.joinL [44, 32] (xs.take k))) ∧ i = .int .i64 k ∧ k ≤ nl.length ∧ Hid (Sat w wr (RfL w (.slice (some ⟨g, 0, none⟩) N cap) (.slice ta tn tc) main { Ty.ndOf 10 p with list := nl } (.slice la nl.length lc)))) (fun _ i _ => nl.length - (intOf i).toNat)
 case atStart => exact ⟨0, by rw [List.take_zero]; rfl, rfl, by omega, H1.out⟩
 case round =>
   obtain ⟨k, rfl, rfl, hk, hS⟩ := hrel
   obtain ⟨p0, p1, p2, x0, x1, x2, x3, x4, x5, x6, x7, x8⟩ := HRD.out _ hS.out
   by_cases hlt : k < nl.length
   · obtain ⟨gl, capl, e, hgl, d0⟩ := ints_at (owns_below HL.out (HB2.out _ hS.out)) k hlt
     cases e
     have hkx : k < xs.length := by rw [HWL.out]; exact hlt
     have hst := joinL_step [44, 32] xs k hkx
     have hmo := joinL_mono [44, 32] xs (xs.length - (k + 1)) (k + 1) (by omega)
     have hmo0 := joinL_mono [44, 32] xs (xs.length - k) k (by omega)
     obtain ⟨tx, rest, z, hxk, htx, hmN, hcs, hrest⟩ := HIT.out k hlt hkx
     rw [hst, List.length_append] at hmo
     have hgr : g < wr.heap.size := Nat.lt_of_lt_of_le hgw (HB2.out _ hS.out).size
     obtain ⟨v5, v1⟩ := hcs _ (HB2.out _ hS.out)
     have HCS := qh hcs
     have htl : tx.data.toList.length ≤ 30 := by simpa using htx
     rw [hxk] at hst hmo
     rw [List.length_append] at hmo
     have hln := HLN.out
     simp only [lzA, lzC, lzN] at hln
     obtain ⟨pe, hre, hcall⟩ := hrest
     subst hre
     simp only [lzA, lzC, lzN] at hmo
     have hpl : pe.length ≤ 900000000 := by split at hmo <;> (try simp only [lzA, lzC, lzN] at hmo) <;> omega
     have HI := qh (hcall hpl)
     obtain ⟨s1, e1, c1⟩ := cat_ex (a := tx) (b := ⟨#[58, 32]⟩) (x := tx.data.toList) (y := [58, 32]) (z := tx.data.toList ++ [58, 32]) (bs_of tx).symm rfl rfl (by simp only [lzA, lzC, lzN]; omega)
     obtain ⟨s2, e2, c2⟩ := cat_ex (a := s1) (b := bs pe) (z := tx.data.toList ++ [58, 32] ++ pe) e1 rfl rfl (by simp only [lzA, lzC, lzN]; omega)
     replace e2 : s2 = bs (tx.data.toList ++ ([58, 32] ++ pe)) := by rw [e2]; congr 1; simp
     by_cases hk0 : k = 0
     · subst hk0
       rw [if_pos rfl] at hst hmo
       obtain ⟨s5, e5, c5⟩ := cat_ex (a := bs (Ty.joinL [44, 32] (xs.take 0))) (b := s2) (z := Ty.joinL [44, 32] (xs.take 0) ++ (tx.data.toList ++ ([58, 32] ++ pe))) rfl e2 rfl (by simp only [lzA, lzC, lzN]; omega)
       rw [← hst] at e5
       have E5 := qh e5.symm
       generalize nl[0] = m at *
       generalize bs (Ty.joinL [44, 32] (xs.take 0)) = s0 at *
       clear hst hmo hmo0 hkx e1 e2 e5 hln hxk hcs hpl htl htx hcall
       go_wp2_with fail
       go_region_held3 (fun w' => w'.cell? ⟨w.heap.size, 0, none⟩ = some (.slice (some ⟨g, 0, none⟩) N cap) ∧ w'.cell? ⟨w.heap.size, 1, none⟩ = some (.slice ta tn tc) ∧ w'.cell? ⟨w.heap.size, 2, none⟩ = some (.int .i64 main) ∧ w'.cell? ⟨w.heap.size + 1, 4, none⟩ = some (.slice (some ⟨gl, 0, none⟩) nl.length lc) ∧ w'.cell? ⟨gl, 0, none⟩ = some (.int .i64 (m : Nat)) ∧ w'.cell? ⟨g, m * 9 + 5, none⟩ = some (.string tx) ∧ w'.cell? ⟨g, m * 9 + 1, none⟩ = some (.int .i64 z)) (go_keep)
         ((go_at_call 87; refine HI.out _ (HB2.out _ hS.out).drew _ (fun w2 hb2 => ?_); have h2 := hS.out.drew.below hb2; have q := HRD.out _ h2; have r0 := q.p0; have r1 := q.p1; have r2 := q.p2; have r3 := q.x4; have r4 := keepCell hb2 (show (World.cell? (World.drew _) _) = _ from d0); have r5 := (HCS.out _ (HB2.out _ h2)).1; have r6 := (HCS.out _ (HB2.out _ h2)).2; have H2 := qh h2; clear hb2 h2 q))
       all_goals
         go_wp2_with fail
         go_roundw
         case rel => exact ⟨0 + 1, congrArg Value.string E5.out.symm, by go_num, by omega, H2.out⟩
         case measure => simp [intOf]; omega
     · rw [if_neg hk0] at hst hmo
       have k1 : decide ((0 : Int) < (k : Nat)) = true := decide_eq_true (by omega)
       have k2 : decide (0 < k) = true := decide_eq_true (by omega)
       simp only [lzA, lzC, lzN] at hmo
       obtain ⟨s4, e4, c4⟩ := cat_ex (a := bs (Ty.joinL [44, 32] (xs.take k))) (b := ⟨#[44, 32]⟩) (y := [44, 32]) (z := Ty.joinL [44, 32] (xs.take k) ++ [44, 32]) rfl rfl rfl (by simp only [lzA, lzC, lzN]; omega)
       obtain ⟨s5, e5, c5⟩ := cat_ex (a := s4) (b := s2) (z := Ty.joinL [44, 32] (xs.take k) ++ [44, 32] ++ (tx.data.toList ++ ([58, 32] ++ pe))) e4 e2 rfl (by simp only [lzA, lzC, lzN]; omega)
       rw [← hst] at e5
       have E5 := qh e5.symm
       generalize nl[k] = m at *
       generalize bs (Ty.joinL [44, 32] (xs.take k)) = s0 at *
       clear hst hmo hmo0 hkx e1 e2 e5 hln hxk hcs hpl htl htx hk0 e4 hcall
       go_wp2_with fail
       go_region_held3 (fun w' => w'.cell? ⟨w.heap.size, 0, none⟩ = some (.slice (some ⟨g, 0, none⟩) N cap) ∧ w'.cell? ⟨w.heap.size, 1, none⟩ = some (.slice ta tn tc) ∧ w'.cell? ⟨w.heap.size, 2, none⟩ = some (.int .i64 main) ∧ w'.cell? ⟨w.heap.size + 1, 4, none⟩ = some (.slice (some ⟨gl, 0, none⟩) nl.length lc) ∧ w'.cell? ⟨gl, k, none⟩ = some (.int .i64 (m : Nat)) ∧ w'.cell? ⟨g, m * 9 + 5, none⟩ = some (.string tx) ∧ w'.cell? ⟨g, m * 9 + 1, none⟩ = some (.int .i64 z)) (go_keep)
         ((go_at_call 87; refine HI.out _ (HB2.out _ hS.out).drew _ (fun w2 hb2 => ?_); have h2 := hS.out.drew.below hb2; have q := HRD.out _ h2; have r0 := q.p0; have r1 := q.p1; have r2 := q.p2; have r3 := q.x4; have r4 := keepCell hb2 (show (World.cell? (World.drew _) _) = _ from d0); have r5 := (HCS.out _ (HB2.out _ h2)).1; have r6 := (HCS.out _ (HB2.out _ h2)).2; have H2 := qh h2; clear hb2 h2 q))
       all_goals
         go_wp2_with fail
         go_roundw
         case rel => exact ⟨k + 1, congrArg Value.string E5.out.symm, by go_num, by omega, H2.out⟩
         case measure => simp [intOf]; omega
   · have hke : k = nl.length := by omega
     subst hke
     have hln := HLN.out
     simp only [lzA, lzC, lzN] at hln
     have htk : xs.take nl.length = xs := by rw [← HWL.out, List.take_length]
     rw [htk]
     clear htk
     generalize Ty.joinL [44, 32] xs = pj at *
     obtain ⟨s6, e6, c6⟩ := cat_ex (a := ⟨#[123, 32]⟩) (b := bs pj) (x := [123, 32]) (z := [123, 32] ++ pj) rfl rfl rfl (by simp only [lzA, lzC, lzN]; omega)
     obtain ⟨s7, e7, c7⟩ := cat_ex (a := s6) (b := ⟨#[32, 125]⟩) (y := [32, 125]) (z := [123, 32] ++ pj ++ [32, 125]) e6 rfl rfl (by simp only [lzA, lzC, lzN]; omega)
     rw [← e7] at HR
     clear hln e6 e7
     go_wp2_with fail
     exact HR.out _ (HB2.out _ hS.out)
theorem rb_fn (hP : PB wB nv tv pg) {p bp : Nat} {ps : List Ty.Par} {ty : Int} {body : List Ty.Sm} (hBl : BlR wB nv tv pg main body) : RbC wB nv tv pg main (.fn p ps ty bp body) := by
 intro n nd lv hd hn hl ind w hb hsz hlen R hR
 rw [Ty.DenE] at hd
 obtain ⟨nl, nb, h1, hd, hdb⟩ := hd
 rw [hn] at h1
 cases h1
 rw [Ty.szE] at hsz
 have hll := hd.len
 have hty : Ty.TyZ ty pg.ts := (hP.ok.ns _ (List.mem_of_getElem? hn)).ty
 have e : Ty.wE pg.ts ind (.fn p ps ty bp body) = [102, 110, 40] ++ Ty.joinL [44, 32] (ps.map (Ty.parS pg.ts)) ++ [41] ++ Ty.colS pg.ts ty ++ [32] ++ Ty.wB pg.ts ind body := by rw [Ty.wE] <;> rfl
 rw [e] at hlen hR
 have HR := qh hR
 obtain ⟨g, cap, lv0, rfl, hnlt, hg, hcap, hcm, _, _, _, hN⟩ := hP.look hn
 obtain ⟨ta, tn, tc, rfl⟩ := hP.tySlice
 have hgw : g < w.heap.size := Nat.lt_of_lt_of_le hg hb.size
 have hwl : (ps.map (Ty.parS pg.ts)).length = nl.length := by simp; omega
 have HIT : Hid (∀ k (hk : k < nl.length) (hk2 : k < (ps.map (Ty.parS pg.ts)).length), ∃ (tx : ByteArray) (rest : List UInt8) (z : Int), (ps.map (Ty.parS pg.ts))[k] = tx.data.toList ++ rest ∧ tx.size ≤ 30 ∧ nl[k] < pg.ns.length ∧
     (∀ w1, Below w.heap.size w w1 → w1.cell? ⟨g, nl[k] * 9 + 5, none⟩ = some (.string tx) ∧ w1.cell? ⟨g, nl[k] * 9 + 7, none⟩ = some (.int .i64 z)) ∧
     (rest = Ty.colS pg.ts z ∧ ∀ w1, Below w.heap.size w w1 → ∀ R : Ending → World → Prop, (∀ w', Below w1.heap.size w1 w' → R (.returned (.string (bs (Ty.colS pg.ts z)))) w') →
       Calls Tryz.prog 86 #[.agg #[.slice (some ⟨g, 0, none⟩) pg.ns.length cap, .slice ta tn tc, .int .i64 main], .int .i64 z] w1 R)) := fun k hk hk2 => by
   have hkl : k < ps.length := by omega
   have hdm := hd.get k hkl hk
   obtain ⟨g2, cap2, lv2, e2, hm2, _, _, _, hA2, _, hok2, _⟩ := hP.look hdm
   cases e2
   have ex : (ps.map (Ty.parS pg.ts))[k] = ps[k].text.data.toList ++ Ty.colS pg.ts ps[k].ty := by simp [Ty.parS]
   exact ⟨ps[k].text, _, ps[k].ty, ex, hok2.size, hm2, fun w1 h1 => ⟨((hA2.below hb).below h1).q5, ((hA2.below hb).below h1).q7⟩, rfl, fun w1 h1 R hR => writeColon_any hP (hb.trans (h1.mono hb.size)) hok2.ty hR⟩
 have HT := qh (fun (w1 : World) (h : Below w.heap.size w w1) (R : Ending → World → Prop) => writeColon_any (R := R) (main := main) hP (hb.trans (h.mono hb.size)) hty)
 have HBK := qh (fun (w1 : World) (h : Below w.heap.size w w1) hx => hBl bp nb hdb ind w1 (hb.trans (h.mono hb.size)) (by omega) hx)
 have hnl : nl.length ≤ 1300 := by omega
 have HL := qh (owns_below hl hb)
 have HWL := qh hwl
 obtain ⟨la, lc, rfl⟩ := owns_slice hl
 unfold maxLen at hcm
 have h1 := rfIn w (.slice (some ⟨g, 0, none⟩) pg.ns.length cap) (.slice ta tn tc) main { Ty.ndOf 6 p with list := nl, ty := ty, a := nb } (.slice la nl.length lc)
 have HRD := qh (fun (w1 : World) (h : Sat w w1 (RfL w (.slice (some ⟨g, 0, none⟩) pg.ns.length cap) (.slice ta tn tc) main { Ty.ndOf 6 p with list := nl, ty := ty, a := nb } (.slice la nl.length lc))) => rfRd h)
 have HB2 := qh (fun (w1 : World) (h : Sat w w1 (RfL w (.slice (some ⟨g, 0, none⟩) pg.ns.length cap) (.slice ta tn tc) main { Ty.ndOf 6 p with list := nl, ty := ty, a := nb } (.slice la nl.length lc))) => h.isBelow)
 have H1 := qh h1
 have HLN := qh hlen
 generalize Ty.wB pg.ts ind body = pb at *
 generalize hpc : Ty.colS pg.ts ty = pc at *
 generalize (ps.map (Ty.parS pg.ts)) = xs at *
 generalize hNN : pg.ns.length = N at *
 clear hR hlen hn hl hb hsz h1 hP hd hll hwl hBl hdb hty e hpc hNN
 dsimp only [pgVal, ndVal, Ty.ndOf] at *
 simp only [show ((6 : Nat) : Int) = 6 from rfl, show ((0 : Nat) : Int) = 0 from rfl]
 go_enter Tryz.func120, Tryz.ntmps120
 go_wp2_with fail
 go_loopw [7, 8] (fun s i wr => ∃ k : Nat, s = .string (bs (Ty.joinL [44, 32] (xs.take k))) ∧ i = .int .i64 k ∧ k ≤ nl.length ∧ Hid (Sat w wr (RfL w (.slice (some ⟨g, 0, none⟩) N cap) (.slice ta tn tc) main { Ty.ndOf 6 p with list := nl, ty := ty, a := nb } (.slice la nl.length lc)))) (fun _ i _ => nl.length - (intOf i).toNat)
 case atStart => exact ⟨0, by rw [List.take_zero]; rfl, rfl, by omega, H1.out⟩
 case round =>
   obtain ⟨k, rfl, rfl, hk, hS⟩ := hrel
   obtain ⟨p0, p1, p2, x0, x1, x2, x3, x4, x5, x6, x7, x8⟩ := HRD.out _ hS.out
   by_cases hlt : k < nl.length
   · obtain ⟨gl, capl, e, hgl, d0⟩ := ints_at (owns_below HL.out (HB2.out _ hS.out)) k hlt
     cases e
     have hkx : k < xs.length := by rw [HWL.out]; exact hlt
     have hst := joinL_step [44, 32] xs k hkx
     have hmo := joinL_mono [44, 32] xs (xs.length - (k + 1)) (k + 1) (by omega)
     have hmo0 := joinL_mono [44, 32] xs (xs.length - k) k (by omega)
     obtain ⟨tx, rest, z, hxk, htx, hmN, hcs, hrest⟩ := HIT.out k hlt hkx
     rw [hst, List.length_append] at hmo
     have hgr : g < wr.heap.size := Nat.lt_of_lt_of_le hgw (HB2.out _ hS.out).size
     obtain ⟨v5, v7⟩ := hcs _ (HB2.out _ hS.out)
     have HCS := qh hcs
     have htl : tx.data.toList.length ≤ 30 := by simpa using htx
     rw [hxk] at hst hmo
     rw [List.length_append] at hmo
     have hln := HLN.out
     simp only [lzA, lzC, lzN] at hln
     obtain ⟨hre, hcall⟩ := hrest
     subst hre
     have HI := qh hcall
     have hcl : (Ty.colS pg.ts z).length ≤ 900000000 := by split at hmo <;> (try simp only [lzA, lzC, lzN] at hmo) <;> omega
     obtain ⟨s2, e2, c2⟩ := cat_ex (a := tx) (b := bs (Ty.colS pg.ts z)) (x := tx.data.toList) (z := tx.data.toList ++ Ty.colS pg.ts z) (bs_of tx).symm rfl rfl (by simp only [List.length_append]; omega)
     clear hcl
     generalize Ty.colS pg.ts z = pe at *
     have e1 : True := trivial
     have hpl : True := trivial
     by_cases hk0 : k = 0
     · subst hk0
       rw [if_pos rfl] at hst hmo
       obtain ⟨s5, e5, c5⟩ := cat_ex (a := bs (Ty.joinL [44, 32] (xs.take 0))) (b := s2) (z := Ty.joinL [44, 32] (xs.take 0) ++ (tx.data.toList ++ pe)) rfl e2 rfl (by simp only [List.length_append]; omega)
       rw [← hst] at e5
       have E5 := qh e5.symm
       generalize nl[0] = m at *
       generalize bs (Ty.joinL [44, 32] (xs.take 0)) = s0 at *
       clear hst hmo hmo0 hkx e1 e2 e5 hln hxk hcs hpl htl htx hcall
       go_wp2_with fail
       go_region_held3 (fun w' => w'.cell? ⟨w.heap.size, 0, none⟩ = some (.slice (some ⟨g, 0, none⟩) N cap) ∧ w'.cell? ⟨w.heap.size, 1, none⟩ = some (.slice ta tn tc) ∧ w'.cell? ⟨w.heap.size, 2, none⟩ = some (.int .i64 main) ∧ w'.cell? ⟨w.heap.size + 1, 4, none⟩ = some (.slice (some ⟨gl, 0, none⟩) nl.length lc) ∧ w'.cell? ⟨gl, 0, none⟩ = some (.int .i64 (m : Nat)) ∧ w'.cell? ⟨g, m * 9 + 5, none⟩ = some (.string tx) ∧ w'.cell? ⟨g, m * 9 + 7, none⟩ = some (.int .i64 z)) (go_keep)
         ((go_at_call 86; refine HI.out _ (HB2.out _ hS.out).drew _ (fun w2 hb2 => ?_); have h2 := hS.out.drew.below hb2; have q := HRD.out _ h2; have r0 := q.p0; have r1 := q.p1; have r2 := q.p2; have r3 := q.x4; have r4 := keepCell hb2 (show (World.cell? (World.drew _) _) = _ from d0); have r5 := (HCS.out _ (HB2.out _ h2)).1; have r6 := (HCS.out _ (HB2.out _ h2)).2; have H2 := qh h2; clear hb2 h2 q))
       all_goals
         go_wp2_with fail
         go_roundw
         case rel => exact ⟨0 + 1, congrArg Value.string E5.out.symm, by go_num, by omega, H2.out⟩
         case measure => simp [intOf]; omega
     · rw [if_neg hk0] at hst hmo
       have k1 : decide ((0 : Int) < (k : Nat)) = true := decide_eq_true (by omega)
       have k2 : decide (0 < k) = true := decide_eq_true (by omega)
       simp only [lzA, lzC, lzN] at hmo
       obtain ⟨s4, e4, c4⟩ := cat_ex (a := bs (Ty.joinL [44, 32] (xs.take k))) (b := ⟨#[44, 32]⟩) (y := [44, 32]) (z := Ty.joinL [44, 32] (xs.take k) ++ [44, 32]) rfl rfl rfl (by simp only [lzA, lzC, lzN]; omega)
       obtain ⟨s5, e5, c5⟩ := cat_ex (a := s4) (b := s2) (z := Ty.joinL [44, 32] (xs.take k) ++ [44, 32] ++ (tx.data.toList ++ pe)) e4 e2 rfl (by simp only [lzA, lzC, lzN]; omega)
       rw [← hst] at e5
       have E5 := qh e5.symm
       generalize nl[k] = m at *
       generalize bs (Ty.joinL [44, 32] (xs.take k)) = s0 at *
       clear hst hmo hmo0 hkx e1 e2 e5 hln hxk hcs hpl htl htx hk0 e4 hcall
       go_wp2_with fail
       go_region_held3 (fun w' => w'.cell? ⟨w.heap.size, 0, none⟩ = some (.slice (some ⟨g, 0, none⟩) N cap) ∧ w'.cell? ⟨w.heap.size, 1, none⟩ = some (.slice ta tn tc) ∧ w'.cell? ⟨w.heap.size, 2, none⟩ = some (.int .i64 main) ∧ w'.cell? ⟨w.heap.size + 1, 4, none⟩ = some (.slice (some ⟨gl, 0, none⟩) nl.length lc) ∧ w'.cell? ⟨gl, k, none⟩ = some (.int .i64 (m : Nat)) ∧ w'.cell? ⟨g, m * 9 + 5, none⟩ = some (.string tx) ∧ w'.cell? ⟨g, m * 9 + 7, none⟩ = some (.int .i64 z)) (go_keep)
         ((go_at_call 86; refine HI.out _ (HB2.out _ hS.out).drew _ (fun w2 hb2 => ?_); have h2 := hS.out.drew.below hb2; have q := HRD.out _ h2; have r0 := q.p0; have r1 := q.p1; have r2 := q.p2; have r3 := q.x4; have r4 := keepCell hb2 (show (World.cell? (World.drew _) _) = _ from d0); have r5 := (HCS.out _ (HB2.out _ h2)).1; have r6 := (HCS.out _ (HB2.out _ h2)).2; have H2 := qh h2; clear hb2 h2 q))
       all_goals
         go_wp2_with fail
         go_roundw
         case rel => exact ⟨k + 1, congrArg Value.string E5.out.symm, by go_num, by omega, H2.out⟩
         case measure => simp [intOf]; omega
   · have hke : k = nl.length := by omega
     subst hke
     have hln := HLN.out
     simp only [lzA, lzC, lzN] at hln
     have htk : xs.take nl.length = xs := by rw [← HWL.out, List.take_length]
     rw [htk]
     clear htk
     generalize Ty.joinL [44, 32] xs = pj at *
     have HLpb : Hid (pb.length ≤ 900000000) := by show _ ≤ _; omega
     obtain ⟨s1, e1, c1⟩ := cat_ex (a := ⟨#[102, 110, 40]⟩) (b := bs pj) (x := [102, 110, 40]) (z := [102, 110, 40] ++ pj) rfl rfl rfl (by simp only [lzA, lzC, lzN]; omega)
     obtain ⟨s2, e2, c2⟩ := cat_ex (a := s1) (b := ⟨#[41]⟩) (y := [41]) (z := [102, 110, 40] ++ pj ++ [41]) e1 rfl rfl (by simp only [lzA, lzC, lzN]; omega)
     obtain ⟨s3, e3, c3⟩ := cat_ex (a := s2) (b := bs pc) (z := [102, 110, 40] ++ pj ++ [41] ++ pc) e2 rfl rfl (by simp only [lzA, lzC, lzN]; omega)
     obtain ⟨s4, e4, c4⟩ := cat_ex (a := s3) (b := ⟨#[32]⟩) (y := [32]) (z := [102, 110, 40] ++ pj ++ [41] ++ pc ++ [32]) e3 rfl rfl (by simp only [lzA, lzC, lzN]; omega)
     obtain ⟨s5, e5, c5⟩ := cat_ex (a := s4) (b := bs pb) (z := [102, 110, 40] ++ pj ++ [41] ++ pc ++ [32] ++ pb) e4 rfl rfl (by simp only [lzA, lzC, lzN]; omega)
     rw [← e5] at HR
     clear hln e1 e2 e3 e4 e5
     go_wp2_with fail
     go_region_held3 (fun w' => w'.cell? ⟨w.heap.size, 0, none⟩ = some (.slice (some ⟨g, 0, none⟩) N cap) ∧ w'.cell? ⟨w.heap.size, 1, none⟩ = some (.slice ta tn tc) ∧ w'.cell? ⟨w.heap.size, 2, none⟩ = some (.int .i64 main) ∧ w'.cell? ⟨w.heap.size + 1, 7, none⟩ = some (.int .i64 ty) ∧ w'.cell? ⟨w.heap.size + 1, 1, none⟩ = some (.int .i64 (nb : Nat))) (go_keep)
       (first | (go_at_call 86; refine HT.out _ (HB2.out _ hS.out).drew _ (fun w2 hb2 => ?_); have h2 := hS.out.drew.below hb2; have q := HRD.out _ h2; have r0 := q.p0; have r1 := q.p1; have r2 := q.p2; have r3 := q.x7; have r4 := q.x1; have H2 := qh h2; clear hb2 h2 q)
              | (go_at_call 88; refine HBK.out _ (HB2.out _ H2.out) HLpb.out _ (fun w3 hb3 => ?_); have h3 := H2.out.below hb3; have q := HRD.out _ h3; have r0 := q.p0; have r1 := q.p1; have r2 := q.p2; have r3 := q.x7; have r4 := q.x1; have H3 := qh h3; clear hb3 h3 q))
     all_goals
       go_wp2_with fail
       exact HR.out _ (HB2.out _ H3.out)
end
end
end Go.Proofs.YtdlbhiaceheffaaGreatDoor
