/- Walks of types.Alike, one for each way through. The contract of types.Alike. -/
import Derived.Test.YtdlbhiaceheffaaGreatDoorQFtB
import Derived.Test.YtdlbhiaceheffaaGreatDoorQPlainB
import Derived.Deep.RegionHeld3
import Derived.Test.YtdlbhiaceheffaaGreatDoorQFtC
namespace Go.Proofs.YtdlbhiaceheffaaGreatDoor
open Go Go.RowKit
open Prt (Sat As blk pur exs star stars)
open Ty (Tr anyTo anyTo_iff anyTo_false)

/-- A call of Alike that comes to r. -/
def AlikeC (p q : Value) (w : World) (r : Bool) : Prop := ∀ w1, Below w.heap.size w w1 → ∀ R : Ending → World → Prop, (∀ w2, Below w1.heap.size w1 w2 → R (.returned (.bool r)) w2) → Calls Tryz.prog 51 #[p, q] w1 R
abbrev AlikeR (p q : Value) (w : World) (R : Ending → World → Prop) : Prop := Calls Tryz.prog 51 #[p, q] w R
/-- The cells of a type. -/
structure TAt (w : World) (b k : Nat) (a : Option Addr) (n c : Nat) (lv ov : Value) : Prop where
  lt : b < w.heap.size
  c0 : w.cell? ⟨b, 0, none⟩ = some (.int .i64 (k : Nat))
  c1 : w.cell? ⟨b, 1, none⟩ = some (.slice a n c)
  c2 : w.cell? ⟨b, 2, none⟩ = some lv
  c3 : w.cell? ⟨b, 3, none⟩ = some ov
theorem keepC {w w' : World} (h : Below w.heap.size w w') {b o : Nat} {v : Value} (hc : w.cell? ⟨b, o, none⟩ = some v) : w'.cell? ⟨b, o, none⟩ = some v := by
  by_cases hb : b < w.heap.size
  · exact (h.cell (p := ⟨b, o, none⟩) hb).trans hc
  · rw [World.cell?, Array.getElem?_eq_none (by simpa using hb)] at hc; simp at hc
theorem TAt.below {w w' : World} {b k : Nat} {a : Option Addr} {n c : Nat} {lv ov : Value} (h : TAt w b k a n c lv ov) (hb : Below w.heap.size w w') : TAt w' b k a n c lv ov :=
  ⟨Nat.lt_of_lt_of_le h.lt hb.size, keepC hb h.c0, keepC hb h.c1, keepC hb h.c2, keepC hb h.c3⟩

theorem al_kind (w : World) (ba bb ka kb : Nat) (a1 a2 : Option Addr) (n1 n2 cp1 cp2 : Nat) (lv1 lv2 ov1 ov2 : Value) (hA : TAt w ba ka a1 n1 cp1 lv1 ov1) (hB : TAt w bb kb a2 n2 cp2 lv2 ov2) (hne : ka ≠ kb) {R : Ending → World → Prop} (hR : FitW w false R) :
    AlikeR (.pointer (some ⟨ba, 0, none⟩)) (.pointer (some ⟨bb, 0, none⟩)) w R := by
  have HR := Lib.hid hR
  obtain ⟨hba, c0, c1, c2, c3⟩ := hA
  obtain ⟨hbb, e0, e1, e2, e3⟩ := hB
  have n6 : ((ka : Int) != kb) = true := by simp; omega
  clear hR hne
  go_enter Tryz.func51, Tryz.ntmps51
  go_wp2_with fail
  go_region
  all_goals
    go_wp2_with fail
    exact HR.out _ (Below.refl _ _).drew
theorem al_len (w : World) (ba bb k : Nat) (a1 a2 : Option Addr) (n1 n2 cp1 cp2 : Nat) (lv1 lv2 ov1 ov2 : Value) (hA : TAt w ba k a1 n1 cp1 lv1 ov1) (hB : TAt w bb k a2 n2 cp2 lv2 ov2) (hne : n1 ≠ n2) {R : Ending → World → Prop} (hR : FitW w false R) :
    AlikeR (.pointer (some ⟨ba, 0, none⟩)) (.pointer (some ⟨bb, 0, none⟩)) w R := by
  have HR := Lib.hid hR
  obtain ⟨hba, c0, c1, c2, c3⟩ := hA
  obtain ⟨hbb, e0, e1, e2, e3⟩ := hB
  have n6 : ((k : Int) != k) = false := by simp
  have n7 : ((n1 : Int) != n2) = true := by simp; omega
  clear hR hne
  go_enter Tryz.func51, Tryz.ntmps51
  go_wp2_with fail
  go_region
  all_goals
    go_wp2_with fail
    exact HR.out _ (Below.refl _ _).drew
set_option maxHeartbeats 2000000 in
theorem al_both (w : World) (ba bb k : Nat) (a1 a2 : Option Addr) (n cp1 cp2 : Nat) (lv1 lv2 ov1 ov2 : Value) (hA : TAt w ba k a1 n cp1 lv1 ov1) (hB : TAt w bb k a2 n cp2 lv2 ov2)
    (hy : ∀ w2, Below w.heap.size w w2 → ∀ R : Ending → World → Prop, (∀ w', Below w2.heap.size w2 w' → R (.returned (.bool false)) w') → Calls Tryz.prog 91 #[lv1, lv2, .func (.func 51) #[] #[]] w2 R) {R : Ending → World → Prop} (hR : FitW w false R) :
    AlikeR (.pointer (some ⟨ba, 0, none⟩)) (.pointer (some ⟨bb, 0, none⟩)) w R := by
  have HR := Lib.hid hR
  have HX := Lib.hid hy
  obtain ⟨hba, c0, c1, c2, c3⟩ := hA
  obtain ⟨hbb, e0, e1, e2, e3⟩ := hB
  have n6 : ((k : Int) != k) = false := by simp
  have n7 : ((n : Int) != n) = false := by simp
  clear hR hy
  go_enter Tryz.func51, Tryz.ntmps51
  go_wp2_with fail
  go_region_held3 (fun w' => w'.cell? ⟨ba, 0, none⟩ = some (.int .i64 (k : Nat)) ∧ w'.cell? ⟨bb, 0, none⟩ = some (.int .i64 (k : Nat)) ∧ w'.cell? ⟨ba, 1, none⟩ = some (.slice a1 n cp1) ∧ w'.cell? ⟨bb, 1, none⟩ = some (.slice a2 n cp2) ∧ w'.cell? ⟨ba, 2, none⟩ = some lv1 ∧ w'.cell? ⟨bb, 2, none⟩ = some lv2) (go_keep)
    (first | (go_at_call 91; refine HX.out _ (Below.refl _ _).drew _ (fun w2 hb2 => ?_); have HB2 := Lib.hid ((Below.refl w.heap.size w).drew.trans (hb2.mono (by simp))); have s0 := keepC HB2.out c0; have s1 := keepC HB2.out e0; have s2 := keepC HB2.out c1; have s3 := keepC HB2.out e1; have s4 := keepC HB2.out c2; have s5 := keepC HB2.out e2; clear hb2))
  all_goals
    go_wp2_with fail
    exact HR.out _ HB2.out

/-- What a part comes to: is it another? -/
def PartC (w : World) (bb : Nat) (p : Value) (nm : ByteArray) (r : Bool) : Prop := ∀ w1, Below w.heap.size w w1 → ∀ R : Ending → World → Prop,
  (∀ q w2, Below w1.heap.size w1 w2 → (q = .pointer none ∧ r = true ∨ ∃ pb rr, q = .pointer (some ⟨pb, 0, none⟩) ∧ AlikeC p q w rr ∧ r = !rr) → R (.returned q) w2) → Calls Tryz.prog 92 #[.pointer (some ⟨bb, 0, none⟩), .string nm] w1 R
set_option maxRecDepth 100000 in
set_option maxHeartbeats 4000000 in
theorem al_main (w : World) (ba bb k : Nat) (a1 a2 : Option Addr) (cp1 cp2 : Nat) (lv1 lv2 ov1 ov2 : Value) (ns : List ByteArray) (ps : List Value) (hA : TAt w ba k a1 ps.length cp1 lv1 ov1) (hB : TAt w bb k a2 ps.length cp2 lv2 ov2)
    (hrow : w.ownsRow 0 125 2 (.slice a1 ps.length cp1) ps.length (paCells ns ps)) (hn : ns.length = ps.length) (hl : ps.length ≤ 1000000)
    (hy : ∀ w2, Below w.heap.size w w2 → ∀ R : Ending → World → Prop, (∀ w', Below w2.heap.size w2 w' → R (.returned (.bool true)) w') → Calls Tryz.prog 91 #[lv1, lv2, .func (.func 51) #[] #[]] w2 R)
    (f : Nat → Bool) (hp : ∀ j (hj : j < ps.length) (hj2 : j < ns.length), PartC w bb ps[j] ns[j] (f j)) (hptr : ∀ j (hj : j < ps.length), ∃ pb, ps[j] = .pointer (some ⟨pb, 0, none⟩))
    (ro : Bool) (ho : ov1 = .pointer none ∧ ro = true ∨ ∃ pb, ov1 = .pointer (some ⟨pb, 0, none⟩) ∧ AlikeC ov1 ov2 w ro) {R : Ending → World → Prop} (hR : FitW w (!anyTo f ps.length && ro) R) :
    AlikeR (.pointer (some ⟨ba, 0, none⟩)) (.pointer (some ⟨bb, 0, none⟩)) w R := by
  have HR := Lib.hid hR
  have HX := Lib.hid hy
  have HP := Lib.hid hp
  have HROW := Lib.hid hrow
  have HPT := Lib.hid hptr
  have HLN := Lib.hid hn
  have HO := Lib.hid ho
  have HA := Lib.hid hA
  have HB := Lib.hid hB
  obtain ⟨hba, c0, c1, c2, c3⟩ := hA
  obtain ⟨hbb, e0, e1, e2, e3⟩ := hB
  have n6 : ((k : Int) != k) = false := by simp
  have n7 : ((ps.length : Int) != ps.length) = false := by simp
  clear hR hy hp hrow hptr hn ho
  go_enter Tryz.func51, Tryz.ntmps51
  go_wp2_with fail
  go_region_held3 (fun w' => w'.cell? ⟨ba, 0, none⟩ = some (.int .i64 (k : Nat)) ∧ w'.cell? ⟨bb, 0, none⟩ = some (.int .i64 (k : Nat)) ∧ w'.cell? ⟨ba, 1, none⟩ = some (.slice a1 ps.length cp1) ∧ w'.cell? ⟨bb, 1, none⟩ = some (.slice a2 ps.length cp2) ∧ w'.cell? ⟨ba, 2, none⟩ = some lv1 ∧ w'.cell? ⟨bb, 2, none⟩ = some lv2) (go_keep)
    (first | (go_at_call 91; refine HX.out _ (Below.refl _ _).drew _ (fun w2 hb2 => ?_); have HB2 := Lib.hid ((Below.refl w.heap.size w).drew.trans (hb2.mono (by simp))); have s0 := keepC HB2.out c0; have s1 := keepC HB2.out e0; have s2 := keepC HB2.out c1; have s3 := keepC HB2.out e1; have s4 := keepC HB2.out c2; have s5 := keepC HB2.out e2; clear hb2))
  go_wp2_with fail
  go_loopw [47] (fun i wr => ∃ j : Nat, j ≤ ps.length ∧ i = .int .i64 j ∧ Hid (Below w.heap.size w wr) ∧ Hid (∀ i, i < j → f i = false)) (fun i _ => ps.length - (intOf i).toNat)
  case atStart => exact ⟨0, by omega, rfl, HB2.out, fun j hj => by omega⟩
  case round =>
    obtain ⟨j, hj, rfl, hb, hf⟩ := hrel
    by_cases hlt : j < ps.length
    · obtain ⟨gl, capl, e, hgl, d0, d1⟩ := pas_at (owns_below HROW.out hb.out) HLN.out j hlt
      cases e
      have hnl : j < ns.length := by have := HLN.out; omega
      have HI := Lib.hid (HP.out j hlt hnl)
      have HT := Lib.hid (fun h : f j = true => (anyTo_iff (f := f)).2 ⟨j, hlt, h⟩)
      have HN : Hid (f j = false → ∀ i, i < j + 1 → f i = false) := fun h i hi => by
        by_cases hij : i = j
        · subst hij; exact h
        · exact hf.out i (by omega)
      obtain ⟨pp, hpp⟩ := HPT.out j hlt
      rw [hpp] at d1 HI
      clear hpp
      generalize f j = fj at *
      obtain ⟨nm, hnm⟩ : ∃ x, x = ns[j]'hnl := ⟨_, rfl⟩
      rw [← hnm] at d0 HI
      clear hnm
      go_wp2_with fail
      refine HI.out _ (hb.out.trans ((Below.refl wr.heap.size wr).alloc (Nat.le_refl _) _ |>.mono hb.out.size)) _ (fun q w2 hb2 hq => ?_)
      have hb3 := hb.out.trans (((Below.refl wr.heap.size wr).alloc (Nat.le_refl _) _).trans (hb2.mono (by simp)) |>.mono hb.out.size)
      have x1 : w2.cell? ⟨wr.heap.size, 1, none⟩ = some (.pointer (some ⟨pp, 0, none⟩)) := by
        rw [hb2.cell (p := ⟨wr.heap.size, 1, none⟩) (by simp), cell_of_block (heap_alloc_new wr _)]; rfl
      have HB3 := Lib.hid hb3
      clear hb2 hb3
      rcases hq with ⟨rfl, rfl⟩ | ⟨qb, rr, rfl, hal, rfl⟩
      · have HT2 := Lib.hid (HT.out rfl)
        rw [HT2.out] at HR
        go_wp2_with fail
        exact HR.out _ HB3.out
      · have HAL := Lib.hid (hal w2 HB3.out)
        clear hal
        go_wp2_with fail
        refine HAL.out _ (fun w4 hb4 => ?_)
        have HB4 := Lib.hid (HB3.out.trans (hb4.mono HB3.out.size))
        clear hb4
        cases rr
        · have HT2 := Lib.hid (HT.out rfl)
          rw [HT2.out] at HR
          go_wp2_with fail
          exact HR.out _ HB4.out
        · have HN2 := Lib.hid (HN.out rfl)
          go_wp2_with fail
          go_roundw
          case rel => exact ⟨j + 1, by omega, by go_num, HB4, HN2⟩
          case measure => simp [intOf]; omega
    · have hje : j = ps.length := by omega
      have HN : Hid (anyTo f ps.length = false) := anyTo_false.2 (fun i hi => hf.out i (by omega))
      rw [HN.out, Bool.not_false, Bool.true_and] at HR
      obtain ⟨hba2, x0, x1, x2, x3⟩ := HA.out.below hb.out
      obtain ⟨hbb2, y0, y1, y2, y3⟩ := HB.out.below hb.out
      clear hje HN c0 c1 c2 c3 e0 e1 e2 e3
      rcases HO.out with ⟨rfl, rfl⟩ | ⟨pb, rfl, hal⟩
      · go_wp2_with fail
        go_region
        all_goals
          go_wp2_with fail
          exact HR.out _ hb.out.drew
      · have HAL := Lib.hid hal
        clear hal
        go_wp2_with fail
        go_region_held3 (fun w' => w'.cell? ⟨ba, 3, none⟩ = some (.pointer (some ⟨pb, 0, none⟩)) ∧ w'.cell? ⟨bb, 3, none⟩ = some ov2) (go_keep)
          (first | (go_at_call 51; refine HAL.out _ hb.out.drew _ (fun w2 hb2 => ?_); have HB2 := Lib.hid (hb.out.drew.trans (hb2.mono (by have := hb.out.size; simp; omega))); have s6 := keepC hb2 (show (World.cell? (World.drew _) _) = _ from x3); have s7 := keepC hb2 (show (World.cell? (World.drew _) _) = _ from y3); clear hb2))
        all_goals
          go_wp2_with fail
          first | exact HR.out _ HB2.out | (refine bodyPost_ret ?_ ?_ (HR.out _ HB2.out) <;> first | (simp [results, Tryz.results51, go_sem]; done) | rfl)
end Go.Proofs.YtdlbhiaceheffaaGreatDoor

namespace Go.Proofs.YtdlbhiaceheffaaGreatDoor
open Go Go.RowKit
open Prt (Sat As blk pur exs star stars)
open Ty (Tr anyTo anyTo_iff anyTo_false)

theorem AlikeC.mono {p q : Value} {w w1 : World} {r : Bool} (h : AlikeC p q w r) (hb : Below w.heap.size w w1) : AlikeC p q w1 r := fun w2 hb2 R hR => h w2 (hb.trans (hb2.mono hb.size)) R hR
theorem alike_mk {ka kb : Nat} {na nb : List ByteArray} {pa la oa pb lb ob : List Tr} (ha : Ty.okT (.mk ka na pa la oa)) (hb : Ty.okT (.mk kb nb pb lb ob)) : Ty.alike (.mk ka na pa la oa) (.mk kb nb pb lb ob) =
    (decide (ka = kb) && decide (pa.length = pb.length) && decide (la.length = lb.length)
      && !anyTo (fun j => !Ty.alike (la.getD j Ty.nilT) (lb.getD j Ty.nilT)) la.length
      && !anyTo (fun j => match Ty.part nb pb (na.getD j ⟨#[]⟩) with | none => true | some t => !Ty.alike (pa.getD j Ty.nilT) t) pa.length
      && (!decide (ka = 8 ∨ ka = 9) || Ty.alike (Ty.ofOf (.mk ka na pa la oa)) (Ty.ofOf (.mk kb nb pb lb ob)))) := Ty.alike_step ha hb
set_option maxRecDepth 100000 in
theorem Alike_all (w : World) : ∀ (N : Nat) (a b : Tr) (p q : Value), Ty.sz a + Ty.sz b < N → Ty.okT a → Ty.okT b → rep (Prt.hp w) a p → rep (Prt.hp w) b q → AlikeC p q w (Ty.alike a b) := by
  intro N
  induction N with
  | zero => intro a b p q h; omega
  | succ N ih =>
    intro a b p q hN ha hb ra rb w1 hw R hR
    have ihR : ∀ (x y : Tr) (p q : Value), Ty.sz x + Ty.sz y < Ty.sz a + Ty.sz b → Ty.okT x → Ty.okT y → rep (Prt.hp w) x p → rep (Prt.hp w) y q → AlikeC p q w (Ty.alike x y) := fun x y p q h => ih x y p q (by omega)
    have gl : ∀ {j : Nat}, j < (Ty.listOf a).length → Ty.sz ((Ty.listOf a).getD j Ty.nilT) < Ty.sz a ∧ Ty.okT ((Ty.listOf a).getD j Ty.nilT) := fun h => ⟨Ty.sz_getList h, Ty.ok_getList ha h⟩
    have gm : ∀ {j : Nat}, j < (Ty.listOf b).length → Ty.sz ((Ty.listOf b).getD j Ty.nilT) < Ty.sz b ∧ Ty.okT ((Ty.listOf b).getD j Ty.nilT) := fun h => ⟨Ty.sz_getList h, Ty.ok_getList hb h⟩
    have gp : ∀ {j : Nat}, j < (Ty.partsOf a).length → Ty.sz ((Ty.partsOf a).getD j Ty.nilT) < Ty.sz a ∧ Ty.okT ((Ty.partsOf a).getD j Ty.nilT) := fun h => ⟨Ty.sz_getParts h, Ty.ok_getParts ha h⟩
    have gq : ∀ {x : ByteArray} {t : Tr}, Ty.part (Ty.namesOf b) (Ty.partsOf b) x = some t → Ty.sz t < Ty.sz b ∧ Ty.okT t := fun h => ⟨Ty.sz_part h, Ty.ok_part hb h⟩
    have so : Ty.kindOf a = 8 ∨ Ty.kindOf a = 9 → Ty.sz (Ty.ofOf a) < Ty.sz a ∧ Ty.okT (Ty.ofOf a) := fun h => ⟨Ty.sz_ofOf ha h, Ty.ok_ofOf ha h⟩
    have sp : Ty.kindOf b = 8 ∨ Ty.kindOf b = 9 → Ty.sz (Ty.ofOf b) < Ty.sz b ∧ Ty.okT (Ty.ofOf b) := fun h => ⟨Ty.sz_ofOf hb h, Ty.ok_ofOf hb h⟩
    obtain ⟨ka, na, pa, la, oa⟩ := a
    obtain ⟨kb, nb, pb, lb, ob⟩ := b
    obtain ⟨ba, pv1, lv1, ov1, ps1, ls1, os1, rfl, hba, c0, c1, c2, c3, hp1, hn1, hps1, hr1, hls1, hos1, hv1⟩ := rep_cells ra
    obtain ⟨bb, pv2, lv2, ov2, ps2, ls2, os2, rfl, hbb, e0, e1, e2, e3, hp2, hn2, hps2, hr2, hls2, hos2, hv2⟩ := rep_cells rb
    obtain ⟨oa1, oa2, oa3, oa4, oa5, oa6⟩ := ok_parts ha
    obtain ⟨ob1, ob2, ob3, ob4, ob5, ob6⟩ := ok_parts hb
    obtain ⟨a1, cp1, rfl⟩ := owns_slice hp1
    obtain ⟨a2, cp2, rfl⟩ := owns_slice hp2
    have hA : TAt w1 ba ka a1 ps1.length cp1 lv1 ov1 := TAt.below ⟨hba, c0, c1, c2, c3⟩ hw
    have hB : TAt w1 bb kb a2 ps2.length cp2 lv2 ov2 := TAt.below ⟨hbb, e0, e1, e2, e3⟩ hw
    have hR' : ∀ r, Ty.alike (.mk ka na pa la oa) (.mk kb nb pb lb ob) = r → FitW w1 r R := fun r h w2 hb2 => h ▸ hR w2 hb2
    have l1 := reps_len hls1
    have l2 := reps_len hls2
    have m1 := reps_len hps1
    have m2 := reps_len hps2
    dsimp only [Ty.kindOf, Ty.namesOf, Ty.partsOf, Ty.listOf] at gl gm gp gq so sp
    have hst := alike_mk ha hb
    by_cases h1 : ka = kb
    rotate_left
    · exact al_kind w1 ba bb ka kb a1 a2 _ _ cp1 cp2 lv1 lv2 ov1 ov2 hA hB h1 (hR' _ (by rw [hst]; simp [h1]))
    subst h1
    by_cases h2 : pa.length = pb.length
    rotate_left
    · exact al_len w1 ba bb ka a1 a2 _ _ cp1 cp2 lv1 lv2 ov1 ov2 hA hB (by omega) (hR' _ (by rw [hst]; simp [h2]))
    have hboth : ∀ w2, Below w1.heap.size w1 w2 → ∀ R2 : Ending → World → Prop, (∀ w', Below w2.heap.size w2 w' → R2 (.returned (.bool (decide (la.length = lb.length) && !anyTo (fun j => !Ty.alike (la.getD j Ty.nilT) (lb.getD j Ty.nilT)) la.length))) w') → Calls Tryz.prog 91 #[lv1, lv2, .func (.func 51) #[] #[]] w2 R2 := by
      intro w2 hb2 R2 hR2
      have hb02 := hw.trans (hb2.mono hw.size)
      rw [l1, l2] at hR2
      refine both_any w2 _ _ ls1 ls2 (owns_below hr1 hb02) (owns_below hr2 hb02) (by omega) 51 Tryz.call51 (fun j => Ty.alike (la.getD j Ty.nilT) (lb.getD j Ty.nilT)) (fun j hj hj2 w3 hb3 R3 hR3 => ?_) hR2
      have hj3 : j < la.length := by omega
      have hj4 : j < lb.length := by omega
      obtain ⟨g1, g2⟩ := gl hj3
      obtain ⟨g3, g4⟩ := gm hj4
      have x1 : rep (Prt.hp w) (la.getD j Ty.nilT) ls1[j] := by rw [getD_eq hj3]; exact reps_at hls1 j hj3 hj
      have x2 : rep (Prt.hp w) (lb.getD j Ty.nilT) ls2[j] := by rw [getD_eq hj4]; exact reps_at hls2 j hj4 hj2
      exact ihR _ _ _ _ (by omega) g2 g4 x1 x2 w3 (hb02.trans (hb3.mono hb02.size)) R3 hR3
    have e12 : ps2.length = ps1.length := by omega
    rw [decide_eq_true rfl, decide_eq_true h2, Bool.true_and, Bool.true_and] at hst
    rw [e12] at hB
    cases hbo : (decide (la.length = lb.length) && !anyTo (fun j => !Ty.alike (la.getD j Ty.nilT) (lb.getD j Ty.nilT)) la.length) with
    | false =>
      rw [hbo] at hst
      simp only [hbo] at hboth
      exact al_both w1 ba bb ka a1 a2 _ cp1 cp2 lv1 lv2 ov1 ov2 hA hB hboth (hR' _ (by rw [hst]; simp))
    | true =>
      rw [hbo, Bool.true_and] at hst
      simp only [hbo] at hboth
      rw [m1] at hst
      refine al_main w1 ba bb ka a1 a2 cp1 cp2 lv1 lv2 ov1 ov2 na ps1 hA hB (owns_below hp1 hw) hn1 (by omega) hboth _ (fun j hj hj2 => ?_) (fun j hj => ?_) _ ?_ (hR' _ hst)
      · intro w2 hb2 R2 hR2
        have hb02 := hw.trans (hb2.mono hw.size)
        have hj3 : j < pa.length := by omega
        refine Part_any w w2 hb02 _ _ rb hb na[j] (fun q w3 hb3 hq => hR2 q w3 hb3 ?_)
        dsimp only at hq
        rw [getD_eq hj2]
        cases hpt : Ty.part nb pb na[j] with
        | none =>
          rw [hpt] at hq
          exact .inl ⟨hq, rfl⟩
        | some u =>
          rw [hpt] at hq
          obtain ⟨qb, eq, _⟩ := rep_ptr hq
          obtain ⟨g1, g2⟩ := gp hj3
          obtain ⟨g3, g4⟩ := gq hpt
          refine .inr ⟨qb, _, eq, AlikeC.mono (ihR (pa.getD j Ty.nilT) u _ _ (by omega) g2 g4 ?_ hq) hw, rfl⟩
          rw [getD_eq hj3]; exact reps_at hps1 j hj3 hj
      · obtain ⟨pb', e, _⟩ := rep_ptr (reps_at hps1 j (by omega) hj)
        exact ⟨pb', e⟩
      · by_cases h8 : ka = 8 ∨ ka = 9
        · have ho := of_rep (k := ka) (names := na) (parts := pa) (list := la) (oa5 h8) hos1 hv1
          obtain ⟨po, eo, _⟩ := rep_ptr ho
          obtain ⟨s1, s2⟩ := so h8
          obtain ⟨s3, s4⟩ := sp h8
          refine .inr ⟨po, eo, ?_⟩
          rw [decide_eq_true h8, Bool.not_true, Bool.false_or]
          exact AlikeC.mono (ihR _ _ _ _ (by omega) s2 s4 ho (of_rep (ob5 h8) hos2 hv2)) hw
        · left
          have hoa := oa6 (by omega) (by omega)
          subst hoa
          rw [reps] at hos1
          subst hos1
          rcases hv1 with ⟨_, h⟩ | h
          · exact ⟨h, by simp [h8]⟩
          · cases h
end Go.Proofs.YtdlbhiaceheffaaGreatDoor
