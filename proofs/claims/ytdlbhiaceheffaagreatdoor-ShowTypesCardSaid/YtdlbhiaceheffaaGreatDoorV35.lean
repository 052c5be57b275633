/- Walk of the law TokenScans. Walk of the reference's TypeOf. Walk of the law ShowTypes. The row and the card of ShowTypes, out of its walk: whatever text, the law answers true. -/
import Derived.Test.YtdlbhiaceheffaaGreatDoorV34
import Derived.Test.YtdlbhiaceheffaaGreatDoorV02
import Derived.Test.YtdlbhiaceheffaaGreatDoorV10
import Derived.Test.YtdlbhiaceheffaaGreatDoorV33
import Derived.Test.YtdlbhiaceheffaaGreatDoorV32
import Derived.Test.YtdlbhiaceheffaaGreatDoorV19
import Derived.Test.YtdlbhiaceheffaaGreatDoorV21
set_option linter.all false
namespace Go.Proofs.YtdlbhiaceheffaaGreatDoor
open Go Go.RowKit
theorem Tokens_any (s : ByteArray) (w : World) (hm : s.size ≤ maxLen) {R : Ending → World → Prop}
    (hok : ∀ l v w', Tok.scan s = .ok l → Below w.heap.size w w' → OwnsTk w' (w.heap.size + 1) v l → R (.returned (.tuple #[v, .agg #[.int .i64 0, .int .i64 0]])) w')
    (hbad : ∀ (e p : Nat) w', Tok.scan s = .error (e, p) → Below w.heap.size w w' → R (.returned (.tuple #[.slice none 0 0, .agg #[.int .i64 e, .int .i64 p]])) w') :
    Calls Tryz.prog 32 #[.string s] w R := by
  by_cases hs : s.size ≤ 4000
  · exact Tokens_short s w hs hok hbad
  · exact Tokens_long s w hm (by omega) (fun w' hb => hbad 2 0 w' (scan_long s (by omega)) hb)
end Go.Proofs.YtdlbhiaceheffaaGreatDoor
namespace Go.Proofs.YtdlbhiaceheffaaGreatDoor
open Go Go.RowKit
open Prt (Sat As blk pur exs star stars)
theorem Prt.Sat.newRd {w0 w : World} {Fr : As} {pb : Nat} {toks : List Tok.Tk} {lv : Value} (hT : Toks toks ∧ 0 < toks.length) (h : Sat w0 w [Fr, tkA lv toks, blk pb (.cells #[lv, .int .i64 0, .int .i64 0, .slice none 0 0, .slice none 0 0, .int .i64 0, .int .i64 0, .int .i64 0] 68 (0, 0))]) : Sat w0 w [Fr, rdA pb 0 toks ⟨⟨0, [], []⟩, none⟩] := by
  have h := ((h.triv ndA_nil).triv tyA_nil).triv (P := pur (Toks toks ∧ 0 < toks.length ∧ (0 : Nat) ≤ 21 ∧ ∀ x, (none : Option Ty.Ft) = some x → x.1 ≠ 0)) (fun _ => ⟨hT.1, hT.2, by omega, fun _ h => by cases h⟩)
  exact Prt.Sat.shutRd (s := ⟨⟨0, [], []⟩, none⟩) (p := (lv, .slice none 0 0, .slice none 0 0, 0)) (h.pick [0, 5, 2, 1, 3, 4])
def topM (toks : List Tok.Tk) : Except Ty.Ft (List Ty.Ty) := match Ty.typ toks 20 ⟨0, [], []⟩ with
  | .error e => .error e
  | .ok (_, st) => if (Ty.cur toks st.pos).kind ≠ 6 then .error (Ty.here toks 1 st.pos) else if st.ts.length > 300 then .error (2, 0) else .ok st.ts
theorem typeOf_top {s : ByteArray} {toks : List Tok.Tk} (h : Tok.scan s = .ok toks) : Ty.typeOf s = topM toks := by
  unfold Ty.typeOf topM; rw [h]; rfl
set_option maxRecDepth 100000 in
set_option maxHeartbeats 1000000 in
theorem refTypeOf_any {w0 w : World} {Fr : As} (H : Sat w0 w [Fr]) (s : ByteArray) (hm : s.size ≤ maxLen) {R : Ending → World → Prop}
    (hok : ∀ ts v w', Ty.typeOf s = .ok ts → Sat w0 w' [Fr, tyA v ts] → R (.returned (.tuple #[v, ftVal (0, 0)])) w')
    (hbad : ∀ f w', Ty.typeOf s = .error f → Sat w0 w' [Fr] → R (.returned (.tuple #[.slice none 0 0, ftVal f])) w') :
    Calls Tryz.prog 16 #[.string s] w R := by
  have HOK := Lib.hid hok
  have HBAD := Lib.hid hbad
  have HS := Lib.hid H
  have HMX := Lib.hid hm
  clear hok hbad H hm
  go_enter Tryz.func16, Tryz.ntmps16
  go_wp2_with fail
  have h1 := HS.out.allocAt (.cells #[.int .i64 0, .int .i64 0] 25) w.heap.size
  refine Tokens_any s _ HMX.out (fun l v w1 hl hb ho => ?_) (fun e p w1 hl hb => ?_)
  · have h2 := h1.newRow hb ho (by omega)
    have hl0 := Tok.scan_ok s l hl
    have HT : Hid (Toks l ∧ 0 < l.length) := ⟨⟨hl0.2.1, Ty.scan_last hl⟩, List.length_pos_iff.2 hl0.1⟩
    have htop := typeOf_top hl
    obtain ⟨a, cap, rfl⟩ := owns_slice ho
    have c0 := h2.cell 1 rfl 0 rfl
    have c1 := h2.cell 1 rfl 1 rfl
    have f0 := h2.free 1 rfl
    have hz := h2.lt 1 rfl
    have H2 := Lib.hid h2
    have HTOP := Lib.hid htop
    have hll := hl0.2.1
    clear hl hb ho h1 h2 hl0 htop
    go_wp2_with fail
    have h3 := (H2.out.allocAt (.cells #[.int .i64 0, .int .i64 0] 25) w1.heap.size).allocAt (.cells #[.slice a l.length cap, .int .i64 0, .int .i64 0, .slice none 0 0, .slice none 0 0, .int .i64 0, .int .i64 0, .int .i64 0] 68) (w1.heap.size + 1)
    have h4 : Sat w0 _ [stars [Fr, blk w.heap.size (.cells #[.int .i64 0, .int .i64 0] 25 (0, 0))], tkA (.slice a l.length cap) l, blk (w1.heap.size + 1) (.cells #[.slice a l.length cap, .int .i64 0, .int .i64 0, .slice none 0 0, .slice none 0 0, .int .i64 0, .int .i64 0, .int .i64 0] 68 (0, 0))] :=
      ((Prt.Sat.pack (L := [_, _]) (M := [Fr, blk w.heap.size (.cells #[.int .i64 0, .int .i64 0] 25 (0, 0))]) (h3.pick [2, 4, 0, 1])).pick [2, 0, 1])
    have h5 := Prt.Sat.newRd HT.out h4
    have hsim := Rd.read_sim HT.out.1.2 20 ⟨0, [], []⟩ ⟨HT.out.2, by simp, by simp⟩
    refine readType_any l HT.out.1.2 20 (by omega) w0 _ _ _ _ 0 (by omega) ⟨HT.out.2, fun _ => by simp, by simp, by simp⟩ h5 _ (fun w2 h6 => ?_)
    unfold topM at HTOP
    cases he : Ty.typ l 20 ⟨0, [], []⟩ with
    | error f =>
      rw [he] at hsim HTOP
      obtain ⟨n, st, g1, o1⟩ := hsim
      rw [g1] at h6 ⊢
      have hbd := Ty.typ_bad _ _ _ _ he
      have h7 := h6.un3
      have h8 : Sat w0 w2 [Fr, rdA (w1.heap.size + 1) (20 - 20) l ⟨st, some f⟩, blk w.heap.size (.cells #[.int .i64 0, .int .i64 0] 25 (0, 0))] := h7
      have HLK := Lib.hid (h8.pick [0, 1]).lookR
      have HLD := Lib.hid (h8.pick [0, 1]).drew.lookR
      obtain ⟨_, _, _, k6, k7, _⟩ := HLK.out.cells
      have y0 := h8.cell 2 rfl 0 rfl
      have y1 := h8.cell 2 rfl 1 rfl
      have fy := h8.free 2 rfl
      have hy := h8.lt 2 rfl
      obtain ⟨fe, fp⟩ := f
      dsimp only at hbd
      have hfe : fe ≠ 0 := hbd.1
      have H8 := Lib.hid h8
      have HT2 := Lib.hid HTOP
      clear HTOP h3 h4 h5 h6 h7 h8 g1 he hbd
      dsimp only [ftOf, Option.getD] at k6 k7
      go_wp2_with fail
      have HLN := Lib.hid (fun n => HLK.out.below (Go.below_drewN (Below.refl w2.heap.size w2) n))
      go_quiet ((go_at_call 33; exact Calls.quiet_of_same (bad_any _ (w1.heap.size + 1) (20 - 20) l ⟨st, some (fe, fp)⟩ (HLN.out _) ⟨rfl, rfl⟩)))
      go_wp2_with fail
      refine bad_any _ _ _ l _ (HLN.out nq) ?_
      dsimp only [Option.isSome]
      go_wp2_with fail
      go_region
      all_goals
        go_wp2_with fail
        refine bodyPost_ret ?_ rfl (HBAD.out (fe, fp) _ HT2.out.out ?_)
        · simp [results, Tryz.results16, go_sem, ftVal, y0, y1]
        · exact ((((H8.out.below (Go.below_drewN (Below.refl w2.heap.size w2) nq)).store 2 rfl 0 (.int .i64 fe)).store 2 rfl 1 (.int .i64 fp)).drew.pick [0])
    | ok q =>
      obtain ⟨n, st⟩ := q
      rw [he] at hsim HTOP
      obtain ⟨g1, o1⟩ := hsim
      rw [g1] at h6 ⊢
      have h7 := h6.un3
      have h8 : Sat w0 w2 [Fr, rdA (w1.heap.size + 1) (20 - 20) l ⟨st, none⟩, blk w.heap.size (.cells #[.int .i64 0, .int .i64 0] 25 (0, 0))] := h7
      have hlk := (h8.pick [0, 1]).lookR
      have HLK := Lib.hid hlk
      have hpos := hlk.fits.1
      obtain ⟨k8, k1, _, k6, k7, gb, cap2, k0, hg, t0, t1, t2⟩ := HLK.out.cells
      have y0 := h8.cell 2 rfl 0 rfl
      have y1 := h8.cell 2 rfl 1 rfl
      have fy := h8.free 2 rfl
      have hy := h8.lt 2 rfl
      have hpbl := hlk.lt
      have H8 := Lib.hid h8
      dsimp only [ftOf, Option.getD] at k6 k7 k1 t0 t1 t2 hpos
      dsimp only at HTOP
      have HLN := Lib.hid (fun n => HLK.out.below (Go.below_drewN (Below.refl w2.heap.size w2) n))
      clear h3 h4 h5 h6 h7 h8 g1 he hlk
      by_cases hk : (Ty.cur l st.pos).kind = 6
      · rw [if_neg (by rw [hk]; simp)] at HTOP
        have HTOP2 := Lib.hid HTOP
        rw [hk] at t0
        clear HTOP hk
        obtain ⟨⟨lv, nv, tv, main⟩, hu⟩ := H8.out.ex (i := 1) rfl
        have hu := hu.unpack (i := 1) rfl
        obtain ⟨rows, hu2⟩ := hu.ex (i := 6) rfl
        have hu3 := (hu2.unpack (i := 6) rfl).row 7 rfl
        obtain ⟨a4, c4, e4⟩ := owns_slice hu3
        dsimp only at e4
        subst e4
        have k4 := hu.cell 3 rfl 4 rfl
        have hne := hu.ne 1 3 (by decide) rfl rfl
        have HU : Hid (Sat w0 w2 [Fr, blk w.heap.size (.cells #[.int .i64 0, .int .i64 0] 25 (0, 0)), tyA (.slice a4 st.ts.length c4) st.ts]) := hu.pick [0, 1, 6]
        have hcap : st.ts.length ≤ 1100 := by have := o1.2.1; have := o1.1; omega
        clear hu hu2 hu3
        go_wp2_with fail
        go_quiet ((go_at_call 33; exact Calls.quiet_of_same (bad_any _ (w1.heap.size + 1) (20 - 20) l ⟨st, none⟩ (HLN.out _) ⟨rfl, rfl⟩)))
        go_wp2_with fail
        refine bad_any _ _ _ l _ (HLN.out nq) ?_
        dsimp only [Option.isSome]
        by_cases h3 : 300 < st.ts.length
        · have hr : Hid (Ty.typeOf s = .error (2, 0)) := by have := HTOP2.out.out; rwa [if_pos h3] at this
          have q1 : decide (300 < st.ts.length) = true := decide_eq_true h3
          have q2 : decide ((300 : Int) < st.ts.length) = true := decide_eq_true (by omega)
          clear h3
          go_wp2_with fail
          refine bodyPost_ret ?_ rfl (HBAD.out (2, 0) _ hr.out ?_)
          · simp [results, Tryz.results16, go_sem, ftVal, y0, y1]
          · exact (((HU.out.below (Go.below_drewN (Below.refl w2.heap.size w2) nq)).store 1 rfl 0 (.int .i64 2)).store 1 rfl 1 (.int .i64 0)).pick [0]
        · have hr : Hid (Ty.typeOf s = .ok st.ts) := by have := HTOP2.out.out; rwa [if_neg h3] at this
          have q1 : decide (300 < st.ts.length) = false := decide_eq_false h3
          have q2 : decide ((300 : Int) < st.ts.length) = false := decide_eq_false (by omega)
          clear h3
          go_wp2_with fail
          refine bodyPost_ret ?_ rfl (HOK.out st.ts (.slice a4 st.ts.length c4) _ hr.out ?_)
          · simp [results, Tryz.results16, go_sem, ftVal, y0, y1]
          · exact (((HU.out.below (Go.below_drewN (Below.refl w2.heap.size w2) nq)).store 1 rfl 0 (.int .i64 0)).store 1 rfl 1 (.int .i64 0)).pick [0, 2]
      · rw [if_pos hk] at HTOP
        have HTOP2 := Lib.hid HTOP
        have kk : (((Ty.cur l st.pos).kind : Int) != 6) = true := by simp; omega
        have HW : Hid (Rd.wrong l 1 ⟨st, none⟩ = ⟨st, some (1, (Ty.cur l st.pos).pos)⟩) := rfl
        unfold Ty.here at HTOP2
        generalize Ty.cur l st.pos = t at *
        obtain ⟨kd, tx, ps⟩ := t
        dsimp only at kk t0 t1 t2 HW HTOP2
        clear HTOP hk
        go_wp2_with fail
        go_quiet ((go_at_call 33; exact Calls.quiet_of_same (bad_any _ (w1.heap.size + 1) (20 - 20) l ⟨st, none⟩ (HLN.out _) ⟨rfl, rfl⟩)))
        go_wp2_with fail
        have h9 := H8.out.below (Go.below_drewN (Below.refl w2.heap.size w2) nq)
        refine wrong_any (h9.at 1 rfl) 1 (by omega) (fun w3 h10 => ?_)
        rw [HW.out] at h10
        have h11 := h10.un3
        have hlk3 := (h11.pick [0, 1]).lookR
        obtain ⟨_, _, _, m6, m7, _⟩ := hlk3.cells
        have y0' := h11.cell 2 rfl 0 rfl
        have y1' := h11.cell 2 rfl 1 rfl
        have fy' := h11.free 2 rfl
        have hy' := h11.lt 2 rfl
        have HLK3 := Lib.hid hlk3
        have H11 := Lib.hid h11
        clear h9 h10 h11 hlk3
        dsimp only [ftOf, Option.getD] at m6 m7
        go_wp2_with fail
        refine bad_any _ _ _ l _ HLK3.out ?_
        dsimp only [Option.isSome]
        go_wp2_with fail
        go_region
        all_goals
          go_wp2_with fail
          refine bodyPost_ret ?_ rfl (HBAD.out (1, ps) _ HTOP2.out.out ?_)
          · simp [results, Tryz.results16, go_sem, ftVal, y0', y1']
          · exact (((H11.out.store 2 rfl 0 (.int .i64 1)).store 2 rfl 1 (.int .i64 ps)).drew.pick [0])
  · have h2 := h1.below hb
    have c0 := h2.cell 1 rfl 0 rfl
    have c1 := h2.cell 1 rfl 1 rfl
    have f0 := h2.free 1 rfl
    have hz := h2.lt 1 rfl
    have hE : Ty.typeOf s = .error (e, p) := by unfold Ty.typeOf; rw [hl]
    have hbd := Ty.typeOf_bad hE
    dsimp only at hbd
    have e2 : ((e : Int) != 0) = true := by simp; omega
    have H2 := Lib.hid h2
    have HE := Lib.hid hE
    clear hl hb h1 h2 hE hbd
    go_wp2_with fail
    go_region
    all_goals
      go_wp2_with fail
      refine bodyPost_ret ?_ rfl (HBAD.out (e, p) _ HE.out ?_)
      · simp [results, Tryz.results16, go_sem, ftVal, hz, c0, c1]
      · exact ((((H2.out.store 1 rfl 0 (.int .i64 e)).store 1 rfl 1 (.int .i64 p))).waste _).drew.pick [0]
end Go.Proofs.YtdlbhiaceheffaaGreatDoor
namespace Go.Proofs.YtdlbhiaceheffaaGreatDoor
open Go Go.RowKit
open Prt (Sat As blk pur exs star stars)
set_option maxRecDepth 100000 in
set_option maxHeartbeats 4000000 in
theorem ShowTypes_walk (s : ByteArray) (w : World) (hw : Words w) (hpw : Pow w) (hm : s.size ≤ maxLen) {R : Ending → World → Prop} (hR : ∀ w', Below w.heap.size w w' → R (.returned (.bool true)) w') :
    Calls Tryz.prog 7 #[.string s] w R := by
  have HR := Lib.hid hR
  have HW := Lib.hid hw
  have HPW := Lib.hid hpw
  have HM := Lib.hid hm
  clear hR hw hpw hm
  go_enter Tryz.func7, Tryz.ntmps7
  go_wp2_with fail
  refine ShowType_any (Prt.Sat.old w) s HW.out HM.out (fun ts w1 hp h1 => ?_) (fun f w1 hp h1 => ?_)
  · have HT := Lib.hid hp
    have h2 := h1.allocAt (.cells #[.int .i64 0, .int .i64 0] 25) w1.heap.size
    have H2 := Lib.hid h2
    obtain ⟨hl1, hl2, hwf, hsh, hok, hcn⟩ := typeOf_fine hp
    have HWR := Lib.hid (fun (w2 : World) (v : Value) (rows : List TyRow) (hts : rows.map TyRow.t = ts) (hrd : TyRd w2 v rows) => WriteType_all w2 v rows ts hts hwf (by omega) hrd ts.length (ts.length - 1) (by omega) (by omega) hsh (by omega))
    generalize Ty.text (Ty.den ts (ts.length - 1)) = tx at *
    clear hp h1 h2 hwf hsh hok hcn
    dsimp only [ftVal]
    go_wp2_with fail
    refine refTypeOf_any (Prt.Sat.pack (L := []) H2.out) s HM.out (fun ts2 v w2 hp h3 => ?_) (fun f w2 hp h3 => absurd (HT.out.symm.trans hp) (by simp))
    obtain rfl := Except.ok.inj (HT.out.symm.trans hp)
    have h4 := (h3.unpack (i := 0) rfl).allocAt (.cells #[.int .i64 0, .int .i64 0] 25) w2.heap.size
    obtain ⟨rows, hr, hrd⟩ := h4.tyRd 0 rfl
    have hrl : rows.length = ts.length := by rw [← hr]; simp
    have hx := HWR.out _ v rows hr hrd
    obtain ⟨a, c, rfl⟩ := owns_slice hrd.row
    rw [hrl] at hx h4 ⊢
    unfold WtC at hx
    rw [show ((ts.length - 1 : Nat) : Int) = (ts.length : Int) - 1 by omega] at hx
    have z0 := h4.cell 3 rfl 0 rfl
    have HX := Lib.hid (hx _ (Below.refl _ _))
    have H4 := Lib.hid (h4.pick [1, 2, 3])
    clear h3 h4 hp hr hrd hx hrl HWR
    generalize ts.length = N at *
    have hs64 : IntKind.i64.wrap ((N : Int) - 1) = (N : Int) - 1 := IntWalk.i64_in _ (by omega)
    rw [show ftVal (0, 0) = .agg #[.int .i64 0, .int .i64 0] from rfl]
    go_wp2_with fail
    refine HX.out _ (fun w3 hb3 => ?_)
    have h5 := H4.out.below hb3
    have H5 := Lib.hid h5
    clear hb3 h5 z0
    go_wp2_with fail
    refine showBegun_any _ (HW.out.below H5.out.isBelow) (HPW.out.below H5.out.isBelow) (fun w4 hb4 => ?_)
    have h6 := H5.out.below hb4
    have x0 := h6.cell 1 rfl 0 rfl
    have x1 := h6.cell 1 rfl 1 rfl
    have y0 := h6.cell 2 rfl 0 rfl
    have y1 := h6.cell 2 rfl 1 rfl
    have H6 := Lib.hid h6
    clear hb4 h6
    go_wp2_with fail
    exact HR.out _ H6.out.isBelow
  · have HT := Lib.hid hp
    have hbd := Ty.typeOf_bad hp
    obtain ⟨fe, fp⟩ := f
    dsimp only at hbd
    have e2 : ((fe : Int) == 0) = false := by simp; omega
    have h2 := h1.allocAt (.cells #[.int .i64 fe, .int .i64 fp] 25) w1.heap.size
    have H2 := Lib.hid h2
    clear hp h1 h2 hbd
    dsimp only [ftVal]
    go_wp2_with fail
    refine refTypeOf_any (Prt.Sat.pack (L := []) H2.out) s HM.out (fun ts2 v w2 hp h3 => absurd (HT.out.symm.trans hp) (by simp)) (fun f w2 hp h3 => ?_)
    obtain rfl := Except.error.inj (HT.out.symm.trans hp)
    have h4 := (h3.unpack (i := 0) rfl).allocAt (.cells #[.int .i64 fe, .int .i64 fp] 25) w2.heap.size
    have H4 := Lib.hid h4
    clear h3 h4 hp
    dsimp only [ftVal]
    go_wp2_with fail
    refine showBegun_any _ (HW.out.below H4.out.isBelow) (HPW.out.below H4.out.isBelow) (fun w3 hb3 => ?_)
    have h5 := H4.out.below hb3
    have x0 := h5.cell 1 rfl 0 rfl
    have x1 := h5.cell 1 rfl 1 rfl
    have y0 := h5.cell 2 rfl 0 rfl
    have y1 := h5.cell 2 rfl 1 rfl
    have H5 := Lib.hid h5
    clear hb3 h5
    go_wp2_with fail
    exact HR.out _ H5.out.isBelow
end Go.Proofs.YtdlbhiaceheffaaGreatDoor
namespace Go.Proofs.YtdlbhiaceheffaaGreatDoor.showTypes
open Go.ChangeShapes Go.WideShapes Go.ChangeAt Go.RowKit Go.Lib
open Go.ChangeMaps (open_string shut_string)
theorem laid_met (os : Os) (args : Array Value) : laidMet Tryz.prog Rows.showTypesRow.laid ((laidWorld6 os).forCall (fun _ _ => 0) ⟨#[], args, []⟩).memory :=
  laidMet_of_run' 8 (by kernel_rfl) (by kernel_rfl)
theorem witness_row (os : Os) {H : Type} (enc : TypeId × Value → H) :
    (OpenSpec.ofChange Rows.showTypesSpec).preRow enc Tryz.prog Tryz.f7 Rows.showTypesRow.domain false Rows.showTypesRow.laid ((laidWorld6 os).forCall (fun _ _ => 0) ⟨#[], #[.string ⟨#[]⟩], []⟩).memory #[.string ⟨#[]⟩] := by
  have hw : (DataW.whole enc Tryz.prog ((laidWorld6 os).forCall (fun _ _ => 0) ⟨#[], #[.string ⟨#[]⟩], []⟩).memory Tryz.f7.params.toList Rows.showTypesSpec.vars false #[Value.string ⟨#[]⟩].toList 8).map (fun x => (x.1, x.2.1)) =
      some ([.lit (.string [])], []) := by kernel_rfl
  obtain ⟨⟨x1, x2, x3⟩, hx, hx1⟩ := Option.map_eq_some_iff.1 hw
  simp only [Prod.mk.injEq] at hx1
  obtain ⟨rfl, rfl⟩ := hx1
  exact OpenSpec.preRow_of_cond 8 hx (by kernel_rfl) (fun k hk => by cases hk) (by kernel_rfl) (laid_met os _)
set_option maxRecDepth 100000 in
set_option maxHeartbeats 2000000 in
theorem lifted (os : Os) (started : os.Started) (H : Type) (enc : TypeId × Value → H) (F : Stop.Interp) :
    ReturnsInHanded {} Tryz.checked os 7 .any ((OpenSpec.ofChange Rows.showTypesSpec).preRow enc Tryz.prog Tryz.f7 Rows.showTypesRow.domain false Rows.showTypesRow.laid) (((OpenSpec.ofChange Rows.showTypesSpec).at F).post enc Tryz.prog Tryz.f7 false true false false) := by
  refine returnsInHanded_of_row (C := Tryz.checked) (s := OpenSpec.ofChange Rows.showTypesSpec) ownKnob_none started (by kernel_rfl) Tryz.func7
    (witness_row_atRef (enc := enc) (C := Tryz.checked) false (laidWorld6 os) #[.string ⟨#[]⟩] rfl (by kernel_rfl) (by kernel_rfl) (by kernel_rfl) (witness_row os enc)) ?_
  intro W base args ds gs before hval0 hW _ _ _ hL _ _
  have hval : ∀ (j : Nat) t v, Tryz.f7.params[j]? = some t → args[j]? = some v → Value.okWide Tryz.prog W .any base t v := hval0
  have hW' := hW
  obtain ⟨p, q, hA0, hV0, rfl, _, _⟩ := hW
  have hA : DataW.TrodAll enc Tryz.prog W 0 (fun _ => true) true Tryz.f7.params.toList args.toList ds p := hA0
  rw [Tryz.params7] at hA hval
  obtain ⟨v0, d0, rfl, rfl, h0⟩ := trodAll_one hA
  obtain ⟨rfl, rfl⟩ := trodVars_none hV0
  obtain ⟨s, rfl, rfl, rfl, ws⟩ := open_string Tryz.underlying9 (hval 0 9 v0 rfl rfl) h0
  clear hA0 hV0 hval0
  have hwords : Words W := words_of_laid (Lib.laidMet.reads hL (.tail _ (.tail _ (.tail _ (.tail _ (.tail _ (.head _)))))))
  have hpow : Pow W := pow_of_laid (Lib.laidMet.reads hL (.tail _ (.tail _ (.head _))))
  refine ShowTypes_walk s W hwords hpow ws (fun W' bel => ?_)
  refine ⟨_, rfl, _, _, _, [], [], [], hW', ?_, ?_, ?_, bel.frame _, fun h => by cases h⟩
  · exact trodAll_mk1 (shut_bool Tryz.underlying4 _)
  · exact trodAll_mk1 (shut_string Tryz.underlying9 ws)
  · rfl
theorem said : Rows.ShowTypesSaid :=
  OpenClaim.holds_of_cond 7 Tryz.f7 rfl rfl rfl rfl rfl rfl rfl ⟨rfl, rfl, rfl, rfl, rfl⟩ rfl rfl rfl rfl rfl (by kernel_rfl) Tryz.func7 (by kernel_rfl)
    (of_decide_eq_true (by kernel_rfl)) (by unfold Func.isWrapper; first | (rw [if_pos (by decide +kernel)]; kernel_rfl) | (rw [if_neg (by decide +kernel)]; exact ⟨rfl, rfl⟩))
    (fun os started H enc _ F => by rw [OpenClaim.pre_eq_preRow]; exact lifted os started H enc F)
theorem plain (f : FuncId) (fn : Func) (hf : Tryz.pinned.checked.prog.funcNamed "guardrail/guardraillaw.ShowTypes" = some f) (hfn : Tryz.pinned.checked.prog.funcs[f]? = some fn) :
    true = Tryz.pinned.checked.prog.looks [] ∧ ∀ (j : Nat) t, fn.params[j]? = some t → Tryz.pinned.checked.prog.wantsStandIn t = false := by
  obtain rfl : f = 7 := Option.some.inj ((show Tryz.prog.funcNamed "guardrail/guardraillaw.ShowTypes" = some 7 by kernel_rfl).symm.trans hf) |>.symm
  obtain rfl : fn = Tryz.f7 := (Option.some.inj (Tryz.func7.symm.trans hfn)).symm
  refine ⟨by kernel_rfl, fun j t ht => ?_⟩
  rw [Tryz.params7] at ht
  obtain rfl : t = 9 := by simpa using Array.mem_of_getElem? ht
  exact (show Tryz.prog.wantsStandIn 9 = false by kernel_rfl)
theorem card : Rows.ShowTypesCardSaid :=
  Claim7.holds_tied_plain_at .later [] _ _ _ _ said (fun _ h => by cases h) (by kernel_rfl) (fun _ h => by cases h) showTypes_row_tie rfl ⟨rfl, rfl⟩ (by kernel_rfl) rfl plain (by kernel_rfl)
end Go.Proofs.YtdlbhiaceheffaaGreatDoor.showTypes
