/- Walks of slices.IndexFunc and slices.ContainsFunc, over trees and over parts; of Part; of both. Walks over parts: IndexFunc, ContainsFunc, Part. Walk of types.both. Walks of the closures of types.Fit. -/
import Derived.Test.YtdlbhiaceheffaaGreatDoorQTg
import Derived.Test.YtdlbhiaceheffaaGreatDoorQPlainB
import Derived.Deep.RegionHeld3
namespace Go.Proofs.YtdlbhiaceheffaaGreatDoor
open Go Go.RowKit
open Prt (Sat As blk pur exs star stars)
open Ty (Tr anyTo anyTo_iff anyTo_false)

set_option maxRecDepth 100000 in
theorem idxT_any (w : World) (v : Value) (ls : List Value) (hrow : w.ownsRow 0 47 1 v ls.length ls) (hl : ls.length ≤ 1000000) (F : FuncId) (c : Value) (hc : ∀ (args : Array Value) (w : World), (callFunc F args).run Tryz.prog w = .ok (.enter F args) w)
    (f : Nat → Bool) (hcall : ∀ j (hj : j < ls.length) w1, Below w.heap.size w w1 → ∀ R : Ending → World → Prop, (∀ w2, Below w1.heap.size w1 w2 → R (.returned (.bool (f j))) w2) → Calls Tryz.prog F #[ls[j], c] w1 R) {R : Ending → World → Prop}
    (hyes : ∀ (r : Nat) w', Below w.heap.size w w' → anyTo f ls.length = true → r ≤ 1000000 → R (.returned (.int .i64 r)) w') (hno : ∀ w', Below w.heap.size w w' → anyTo f ls.length = false → R (.returned (.int .i64 (-1))) w') :
    Calls Tryz.prog 90 #[v, .func (.func F) #[] #[c]] w R := by
  have HY := Lib.hid hyes
  have HNO := Lib.hid hno
  have HC := Lib.hid hcall
  have HROW := Lib.hid hrow
  obtain ⟨la, lc, rfl⟩ := owns_slice hrow
  clear hyes hno hcall hrow
  go_enter Tryz.func90, Tryz.ntmps90
  go_wp2_with fail
  go_loopw [8] (fun i wr => ∃ k : Nat, k ≤ ls.length ∧ i = .int .i64 k ∧ Hid (Below w.heap.size w wr) ∧ Hid (∀ j, j < k → f j = false)) (fun i _ => ls.length - (intOf i).toNat)
  case atStart => exact ⟨0, by omega, rfl, Below.refl _ _, fun j hj => by omega⟩
  case round =>
    obtain ⟨k, hk, rfl, hb, hf⟩ := hrel
    by_cases hlt : k < ls.length
    · obtain ⟨gl, capl, e, hgl, d0⟩ := ptrs_at (owns_below HROW.out hb.out) k hlt
      cases e
      have HI := Lib.hid (HC.out k hlt wr hb.out)
      have HT := Lib.hid (fun h : f k = true => (anyTo_iff (f := f)).2 ⟨k, hlt, h⟩)
      have HN : Hid (f k = false → ∀ j, j < k + 1 → f j = false) := fun h j hj => by
        by_cases hjk : j = k
        · subst hjk; exact h
        · exact hf.out j (by omega)
      generalize f k = fk at *
      generalize ls[k] = p at *
      go_wp2_with fail
      refine HI.out _ (fun w2 hb2 => ?_)
      have HB2 := Lib.hid (hb.out.trans (hb2.mono hb.out.size))
      clear hb2
      cases fk
      · have HN2 := Lib.hid (HN.out rfl)
        go_wp2_with fail
        go_roundw
        case rel => exact ⟨k + 1, by omega, by go_num, HB2, HN2⟩
        case measure => simp [intOf]; omega
      · have HT2 := Lib.hid (HT.out rfl)
        go_wp2_with fail
        exact HY.out k _ HB2.out HT2.out (by omega)
    · have hke : k = ls.length := by omega
      have HN : Hid (anyTo f ls.length = false) := anyTo_false.2 (by rw [← hke]; exact hf.out)
      clear hke
      go_wp2_with fail
      exact HNO.out _ hb.out HN.out
theorem anyT_any (w : World) (v : Value) (ls : List Value) (hrow : w.ownsRow 0 47 1 v ls.length ls) (hl : ls.length ≤ 1000000) (F : FuncId) (c : Value) (hc : ∀ (args : Array Value) (w : World), (callFunc F args).run Tryz.prog w = .ok (.enter F args) w)
    (f : Nat → Bool) (hcall : ∀ j (hj : j < ls.length) w1, Below w.heap.size w w1 → ∀ R : Ending → World → Prop, (∀ w2, Below w1.heap.size w1 w2 → R (.returned (.bool (f j))) w2) → Calls Tryz.prog F #[ls[j], c] w1 R) {R : Ending → World → Prop}
    (hR : ∀ w', Below w.heap.size w w' → R (.returned (.bool (anyTo f ls.length))) w') :
    Calls Tryz.prog 49 #[v, .func (.func F) #[] #[c]] w R := by
  have HR := Lib.hid hR
  clear hR
  have HX := Lib.hid (fun R h1 h2 => @idxT_any w v ls hrow hl F c hc f hcall R h1 h2)
  clear hcall hrow
  go_enter Tryz.func49, Tryz.ntmps49
  go_wp2_with fail
  refine HX.out _ (fun r w1 hb ha hr => ?_) (fun w1 hb ha => ?_)
  · rw [ha] at HR
    have HB := Lib.hid hb
    clear ha hb
    go_wp2_with fail
    exact HR.out _ HB.out
  · rw [ha] at HR
    have HB := Lib.hid hb
    clear ha hb
    go_wp2_with fail
    exact HR.out _ HB.out
end Go.Proofs.YtdlbhiaceheffaaGreatDoor

namespace Go.Proofs.YtdlbhiaceheffaaGreatDoor
open Go Go.RowKit
open Prt (Sat As blk pur exs star stars)
open Ty (Tr anyTo anyTo_iff anyTo_false)

theorem pa_flat : ∀ (ns : List ByteArray) (ps : List Value) (k : Nat) (h1 : k < ns.length) (h2 : k < ps.length), (paCells ns ps)[k * 2]? = some (.string ns[k]) ∧ (paCells ns ps)[k * 2 + 1]? = some ps[k]
  | [], _, k, h1, _ => by simp at h1
  | _ :: _, [], k, _, h2 => by simp at h2
  | n :: ns, p :: ps, 0, _, _ => by simp [paCells]
  | n :: ns, p :: ps, k + 1, h1, h2 => by
    have := pa_flat ns ps k (by simpa using h1) (by simpa using h2)
    simp only [paCells, List.getElem_cons_succ]
    rw [show (k + 1) * 2 = k * 2 + 1 + 1 by omega, show k * 2 + 1 + 1 + 1 = (k * 2 + 1) + 1 + 1 by omega]
    simpa using this
theorem pas_at {w : World} {v : Value} {ns : List ByteArray} {ps : List Value} (h : w.ownsRow 0 125 2 v ps.length (paCells ns ps)) (hn : ns.length = ps.length) (k : Nat) (hk : k < ps.length) : ∃ g cap : Nat, v = .slice (some ⟨g, 0, none⟩) ps.length cap ∧ g < w.heap.size ∧ w.cell? ⟨g, k * 2, none⟩ = some (.string (ns[k]'(by omega))) ∧ w.cell? ⟨g, k * 2 + 1, none⟩ = some ps[k] := by
  obtain ⟨g, cap, rfl, _, hg⟩ := h.form (by omega)
  obtain ⟨k1, k2⟩ := pa_flat ns ps k (by omega) hk
  refine ⟨g, cap, rfl, hg, ?_, ?_⟩
  · have := World.ownsRow.cells h (g := g) rfl _ _ k1; rwa [Addr.add_lit, Nat.zero_add] at this
  · have := World.ownsRow.cells h (g := g) rfl _ _ k2; rwa [Addr.add_lit, Nat.zero_add] at this
set_option maxRecDepth 100000 in
theorem idxP_any (w : World) (v : Value) (ns : List ByteArray) (ps : List Value) (hrow : w.ownsRow 0 125 2 v ps.length (paCells ns ps)) (hn : ns.length = ps.length) (hl : ps.length ≤ 1000000) (F : FuncId) (c : Value) (hc : ∀ (args : Array Value) (w : World), (callFunc F args).run Tryz.prog w = .ok (.enter F args) w)
    (f : Nat → Bool) (hcall : ∀ j (hj : j < ps.length) w1, Below w.heap.size w w1 → ∀ R : Ending → World → Prop, (∀ w2, Below w1.heap.size w1 w2 → R (.returned (.bool (f j))) w2) → Calls Tryz.prog F #[.agg #[.string (ns[j]'(by omega)), ps[j]], c] w1 R) {R : Ending → World → Prop}
    (hyes : ∀ (r : Nat) w', Below w.heap.size w w' → anyTo f ps.length = true → r ≤ 1000000 → R (.returned (.int .i64 r)) w') (hno : ∀ w', Below w.heap.size w w' → anyTo f ps.length = false → R (.returned (.int .i64 (-1))) w') :
    Calls Tryz.prog 123 #[v, .func (.func F) #[] #[c]] w R := by
  have HY := Lib.hid hyes
  have HNO := Lib.hid hno
  have HC := Lib.hid hcall
  have HROW := Lib.hid hrow
  have HLN := Lib.hid hn
  obtain ⟨la, lc, rfl⟩ := owns_slice hrow
  clear hyes hno hcall hrow
  go_enter Tryz.func123, Tryz.ntmps123
  go_wp2_with fail
  go_loopw [8] (fun i wr => ∃ k : Nat, k ≤ ps.length ∧ i = .int .i64 k ∧ Hid (Below w.heap.size w wr) ∧ Hid (∀ j, j < k → f j = false)) (fun i _ => ps.length - (intOf i).toNat)
  case atStart => exact ⟨0, by omega, rfl, Below.refl _ _, fun j hj => by omega⟩
  case round =>
    obtain ⟨k, hk, rfl, hb, hf⟩ := hrel
    by_cases hlt : k < ps.length
    · obtain ⟨gl, capl, e, hgl, d0, d1⟩ := pas_at (owns_below HROW.out hb.out) HLN.out k hlt
      cases e
      have HI := Lib.hid (HC.out k hlt wr hb.out)
      have HT := Lib.hid (fun h : f k = true => (anyTo_iff (f := f)).2 ⟨k, hlt, h⟩)
      have HN : Hid (f k = false → ∀ j, j < k + 1 → f j = false) := fun h j hj => by
        by_cases hjk : j = k
        · subst hjk; exact h
        · exact hf.out j (by omega)
      generalize f k = fk at *
      generalize ps[k] = p at *
      have hnl : k < ns.length := by have := HLN.out; omega
      obtain ⟨nm, hnm⟩ : ∃ x, x = ns[k]'hnl := ⟨_, rfl⟩
      rw [← hnm] at d0 HI
      clear hnm HC hn
      go_wp2_with fail
      refine HI.out _ (fun w2 hb2 => ?_)
      have HB2 := Lib.hid (hb.out.trans (hb2.mono hb.out.size))
      clear hb2
      cases fk
      · have HN2 := Lib.hid (HN.out rfl)
        go_wp2_with fail
        go_roundw
        case rel => exact ⟨k + 1, by omega, by go_num, HB2, HN2⟩
        case measure => simp [intOf]; omega
      · have HT2 := Lib.hid (HT.out rfl)
        go_wp2_with fail
        exact HY.out k _ HB2.out HT2.out (by omega)
    · have hke : k = ps.length := by omega
      have HN : Hid (anyTo f ps.length = false) := anyTo_false.2 (by rw [← hke]; exact hf.out)
      clear hke
      go_wp2_with fail
      exact HNO.out _ hb.out HN.out
theorem anyP_any (w : World) (v : Value) (ns : List ByteArray) (ps : List Value) (hrow : w.ownsRow 0 125 2 v ps.length (paCells ns ps)) (hn : ns.length = ps.length) (hl : ps.length ≤ 1000000) (F : FuncId) (c : Value) (hc : ∀ (args : Array Value) (w : World), (callFunc F args).run Tryz.prog w = .ok (.enter F args) w)
    (f : Nat → Bool) (hcall : ∀ j (hj : j < ps.length) w1, Below w.heap.size w w1 → ∀ R : Ending → World → Prop, (∀ w2, Below w1.heap.size w1 w2 → R (.returned (.bool (f j))) w2) → Calls Tryz.prog F #[.agg #[.string (ns[j]'(by omega)), ps[j]], c] w1 R) {R : Ending → World → Prop}
    (hR : ∀ w', Below w.heap.size w w' → R (.returned (.bool (anyTo f ps.length))) w') :
    Calls Tryz.prog 96 #[v, .func (.func F) #[] #[c]] w R := by
  have HR := Lib.hid hR
  clear hR
  have HX := Lib.hid (fun R h1 h2 => @idxP_any w v ns ps hrow hn hl F c hc f hcall R h1 h2)
  clear hcall hrow
  go_enter Tryz.func96, Tryz.ntmps96
  go_wp2_with fail
  refine HX.out _ (fun r w1 hb ha hr => ?_) (fun w1 hb ha => ?_)
  · rw [ha] at HR
    have HB := Lib.hid hb
    clear ha hb
    go_wp2_with fail
    exact HR.out _ HB.out
  · rw [ha] at HR
    have HB := Lib.hid hb
    clear ha hb
    go_wp2_with fail
    exact HR.out _ HB.out

theorem part_rep {h : Prt.Hp} (x : ByteArray) : ∀ {parts : List Tr} {ps : List Value} (names : List ByteArray), reps h parts ps → match Ty.part names parts x with
    | none => Ty.part names ps x = none
    | some t => ∃ q, Ty.part names ps x = some q ∧ rep h t q
  | [], ps, names, hr => by
    rw [reps] at hr; subst hr
    cases names <;> rfl
  | t :: parts, ps, [], hr => by
    rw [reps] at hr
    obtain ⟨p, ps', rfl, h1, h2⟩ := hr
    rfl
  | t :: parts, ps, n :: names, hr => by
    rw [reps] at hr
    obtain ⟨p, ps', rfl, h1, h2⟩ := hr
    rw [Ty.part, Ty.part]
    by_cases hnx : n = x
    · rw [if_pos hnx, if_pos hnx]; exact ⟨p, rfl, h1⟩
    · rw [if_neg hnx, if_neg hnx]; exact part_rep x names h2
theorem part_drop {α : Type} (names : List ByteArray) (l : List α) (x : ByteArray) (k : Nat) (h1 : k < names.length) (h2 : k < l.length) : Ty.part (names.drop k) (l.drop k) x = if names[k] = x then some l[k] else Ty.part (names.drop (k + 1)) (l.drop (k + 1)) x := by
  rw [List.drop_eq_getElem_cons h1, List.drop_eq_getElem_cons h2, Ty.part]
set_option maxRecDepth 100000 in
theorem Part_any (w0 w : World) (hb0 : Below w0.heap.size w0 w) (t : Tr) (p : Value) (hrep : rep (Prt.hp w0) t p) (hok : Ty.okT t) (x : ByteArray) {R : Ending → World → Prop}
    (hR : ∀ q w', Below w.heap.size w w' → (match t with | .mk _ names parts _ _ => match Ty.part names parts x with | none => q = .pointer none | some u => rep (Prt.hp w0) u q) → R (.returned q) w') :
    Calls Tryz.prog 92 #[p, .string x] w R := by
  obtain ⟨k, names, parts, list, of⟩ := t
  obtain ⟨b, pv, lv, ov, ps, ls, os, rfl, hb, c0, c1, c2, c3, hrow, hn, hps, _⟩ := rep_cells hrep
  have hlen := reps_len hps
  replace c0 := (hb0.cell (p := ⟨b, 0, none⟩) hb).trans c0
  replace c1 := (hb0.cell (p := ⟨b, 1, none⟩) hb).trans c1
  replace c2 := (hb0.cell (p := ⟨b, 2, none⟩) hb).trans c2
  replace c3 := (hb0.cell (p := ⟨b, 3, none⟩) hb).trans c3
  replace hb : b < w.heap.size := Nat.lt_of_lt_of_le hb hb0.size
  replace hrow := owns_below hrow hb0
  clear hb0
  rw [Ty.okT] at hok
  have hl2 : ps.length ≤ 1000000 := by have := hok.2.2.2.2.2.2.1.1; omega
  obtain ⟨la, lc, rfl⟩ := owns_slice hrow
  have HROW := Lib.hid hrow
  have HLN := Lib.hid hn
  have HPT : Hid (∀ j (hj : j < ps.length), ∃ pb, ps[j] = .pointer (some ⟨pb, 0, none⟩)) := fun j hj => by
    obtain ⟨pb, e, _⟩ := rep_ptr (reps_at hps j (by omega) hj)
    exact ⟨pb, e⟩
  have HPR := Lib.hid (fun q w' (hb : Below w.heap.size w w') (h : (match Ty.part names ps x with | none => q = .pointer none | some u => q = u)) => hR q w' hb (by
    have h2 := part_rep x names hps
    dsimp only
    cases hp : Ty.part names parts x with
    | none => rw [hp] at h2; rw [h2] at h; exact h
    | some u =>
      rw [hp] at h2
      obtain ⟨q', h3, h4⟩ := h2
      rw [h3] at h
      dsimp only at h ⊢
      rw [h]; exact h4))
  clear hR hrow hrep hok hps hlen
  go_enter Tryz.func92, Tryz.ntmps92
  go_wp2_with fail
  go_loopw [12] (fun i wr => ∃ k : Nat, k ≤ ps.length ∧ i = .int .i64 k ∧ Hid (Below w.heap.size w wr) ∧ Hid (Ty.part names ps x = Ty.part (names.drop k) (ps.drop k) x)) (fun i _ => ps.length - (intOf i).toNat)
  case atStart => exact ⟨0, by omega, rfl, Below.refl _ _, rfl⟩
  case round =>
    obtain ⟨k, hk, rfl, hb, hE⟩ := hrel
    by_cases hlt : k < ps.length
    · obtain ⟨gl, capl, e, hgl, d0, d1⟩ := pas_at (owns_below HROW.out hb.out) HLN.out k hlt
      cases e
      have hnl : k < names.length := by have := HLN.out; omega
      have HE2 : Hid (Ty.part names ps x = if names[k] = x then some ps[k] else Ty.part (names.drop (k + 1)) (ps.drop (k + 1)) x) := by show _ = _; rw [hE.out, part_drop names ps x k hnl hlt]
      obtain ⟨pb, hpb⟩ := HPT.out k hlt
      rw [hpb] at d1 HE2
      clear hpb
      generalize names[k] = nm at *
      clear hn
      go_wp2_with fail
      · have h : (nm.toList == x.toList) = true := by assumption
        refine HPR.out _ _ (hb.out.trans ((Below.refl wr.heap.size wr).alloc (Nat.le_refl _) _ |>.mono hb.out.size)) ?_
        rw [HE2.out, if_pos ((bytes_iff _ _).1 h)]; rfl
      · have h : (nm.toList == x.toList) = false := by assumption
        have HE3 : Hid (Ty.part names ps x = Ty.part (names.drop (k + 1)) (ps.drop (k + 1)) x) := by show _ = _; rw [HE2.out, if_neg (bytes_ne _ _ h)]
        go_roundw
        case rel => exact ⟨k + 1, by omega, by go_num, hb.out.trans ((Below.refl wr.heap.size wr).alloc (Nat.le_refl _) _ |>.mono hb.out.size), HE3⟩
        case measure => simp [intOf]; omega
    · have HE2 : Hid (Ty.part names ps x = none) := by show _ = _; rw [hE.out, List.drop_eq_nil_of_le (by omega : ps.length ≤ k)]; cases names.drop k <;> rfl
      go_wp2_with fail
      refine HPR.out _ _ hb.out ?_
      rw [HE2.out]; rfl
end Go.Proofs.YtdlbhiaceheffaaGreatDoor

namespace Go.Proofs.YtdlbhiaceheffaaGreatDoor
open Go Go.RowKit
open Prt (Sat As blk pur exs star stars)
open Ty (Tr anyTo anyTo_iff anyTo_false)

set_option maxRecDepth 100000 in
set_option maxHeartbeats 1000000 in
theorem both_any (w : World) (v1 v2 : Value) (l1 l2 : List Value) (h1 : w.ownsRow 0 47 1 v1 l1.length l1) (h2 : w.ownsRow 0 47 1 v2 l2.length l2) (hl : l1.length ≤ 1000000) (F : FuncId) (hc : ∀ (args : Array Value) (w : World), (callFunc F args).run Tryz.prog w = .ok (.enter F args) w)
    (f : Nat → Bool) (hcall : ∀ j (hj : j < l1.length) (hj2 : j < l2.length) w1, Below w.heap.size w w1 → ∀ R : Ending → World → Prop, (∀ w2, Below w1.heap.size w1 w2 → R (.returned (.bool (f j))) w2) → Calls Tryz.prog F #[l1[j], l2[j]] w1 R) {R : Ending → World → Prop}
    (hR : ∀ w', Below w.heap.size w w' → R (.returned (.bool (decide (l1.length = l2.length) && !anyTo (fun j => !f j) l1.length))) w') :
    Calls Tryz.prog 91 #[v1, v2, .func (.func F) #[] #[]] w R := by
  have HR := Lib.hid hR
  have HC := Lib.hid hcall
  have H1 := Lib.hid h1
  have H2 := Lib.hid h2
  obtain ⟨a1, c1, rfl⟩ := owns_slice h1
  obtain ⟨a2, c2, rfl⟩ := owns_slice h2
  clear hR hcall h1 h2
  by_cases hne : l1.length = l2.length
  · have k1 : ((l1.length : Int) != l2.length) = false := by simp [hne]
    have HNE := Lib.hid hne
    rw [decide_eq_true hne, Bool.true_and] at HR
    clear hne
    go_enter Tryz.func91, Tryz.ntmps91
    go_wp2_with fail
    go_loopw [15] (fun i wr => ∃ k : Nat, k ≤ l1.length ∧ i = .int .i64 k ∧ Hid (Below w.heap.size w wr) ∧ Hid (∀ j, j < k → f j = true)) (fun i _ => l1.length - (intOf i).toNat)
    case atStart => exact ⟨0, by omega, rfl, Below.refl _ _, fun j hj => by omega⟩
    case round =>
      obtain ⟨k, hk, rfl, hb, hf⟩ := hrel
      by_cases hlt : k < l1.length
      · have hlt2 : k < l2.length := by have := HNE.out; omega
        obtain ⟨g1, cap1, e, hg1, d1⟩ := ptrs_at (owns_below H1.out hb.out) k hlt
        cases e
        obtain ⟨g2, cap2, e, hg2, d2⟩ := ptrs_at (owns_below H2.out hb.out) k hlt2
        cases e
        have HI := Lib.hid (HC.out k hlt hlt2 wr.drew (hb.out.drew))
        have HT : Hid (f k = false → anyTo (fun j => !f j) l1.length = true) := fun h => anyTo_iff.2 ⟨k, hlt, by simp [h]⟩
        have HN : Hid (f k = true → ∀ j, j < k + 1 → f j = true) := fun h j hj => by
          by_cases hjk : j = k
          · subst hjk; exact h
          · exact hf.out j (by omega)
        generalize f k = fk at *
        generalize l1[k] = p1 at *
        generalize l2[k] = p2 at *
        go_wp2_with fail
        go_region_law (first | (go_simp; refine HI.out _ (fun w2 hb2 => ?_); have HB2 := Lib.hid ((hb.out.drew).trans (hb2.mono (by have := hb.out.size; simp; omega))); clear hb2))
        all_goals
          cases fk
          · have HT2 := Lib.hid (HT.out rfl)
            rw [HT2.out] at HR
            go_wp2_with fail
            exact HR.out _ HB2.out
          · have HN2 := Lib.hid (HN.out rfl)
            go_wp2_with fail
            go_roundw
            case rel => exact ⟨k + 1, by omega, by go_num, HB2, HN2⟩
            case measure => simp [intOf]; omega
      · have hke : k = l1.length := by omega
        have HN : Hid (anyTo (fun j => !f j) l1.length = false) := anyTo_false.2 (fun j hj => by rw [hf.out j (by omega)]; rfl)
        rw [HN.out] at HR
        clear hke
        go_wp2_with fail
        exact HR.out _ hb.out
  · have k1 : ((l1.length : Int) != l2.length) = true := by simp; omega
    rw [decide_eq_false hne, Bool.false_and] at HR
    clear hne
    go_enter Tryz.func91, Tryz.ntmps91
    go_wp2_with fail
    exact HR.out _ (Below.refl _ _)
theorem owns_take {w : World} {B : Nat} {e : TypeId} {a : Option Addr} {n m cap : Nat} {xs : List Value} (h : w.ownsRow B e 1 (.slice a m cap) m xs) (hn : n ≤ m) : w.ownsRow B e 1 (.slice a n cap) n (xs.take n) := by
  obtain ⟨h1, h2⟩ := h
  refine ⟨by simp; omega, ?_⟩
  rcases h2 with ⟨h2, h3⟩ | ⟨g, cap', cur, h2, h3, h4, h5, h6, h7, h8⟩
  · cases h2
    obtain rfl : n = 0 := by omega
    exact .inl ⟨rfl, rfl⟩
  · cases h2
    exact .inr ⟨g, cap, cur, rfl, h3, h4, by omega, h6, h7, by rw [← h8, List.take_take]; congr 1; omega⟩
end Go.Proofs.YtdlbhiaceheffaaGreatDoor

namespace Go.Proofs.YtdlbhiaceheffaaGreatDoor
open Go Go.RowKit
open Prt (Sat As blk pur exs star stars)
open Ty (Tr anyTo anyTo_iff anyTo_false)

/-- A call of Fit that comes to r. -/
def FitC (p q : Value) (w : World) (r : Bool) : Prop := ∀ w1, Below w.heap.size w w1 → ∀ R : Ending → World → Prop, (∀ w2, Below w1.heap.size w1 w2 → R (.returned (.bool r)) w2) → Calls Tryz.prog 57 #[p, q] w1 R
theorem fit1_any (w w1 : World) (bb : Nat) (x q : Value) (r : Bool) (hq : w1.cell? ⟨bb, 0, none⟩ = some q) (hf : FitC x q w r) (hb : Below w.heap.size w w1) {R : Ending → World → Prop} (hR : ∀ w2, Below w1.heap.size w1 w2 → R (.returned (.bool (!r))) w2) :
    Calls Tryz.prog 94 #[x, .pointer (some ⟨bb, 0, none⟩)] w1 R := by
  have HR := Lib.hid hR
  have HF := Lib.hid (hf w1 hb)
  clear hR hf hb
  go_enter Tryz.func94, Tryz.ntmps94
  go_wp2_with fail
  refine HF.out _ (fun w2 hb2 => ?_)
  have HB := Lib.hid hb2
  clear hb2
  go_wp2_with fail
  exact HR.out _ HB.out
theorem fit2_any (w w1 : World) (bb : Nat) (x q : Value) (r : Bool) (hq : w1.cell? ⟨bb, 0, none⟩ = some q) (hf : FitC q x w r) (hb : Below w.heap.size w w1) {R : Ending → World → Prop} (hR : ∀ w2, Below w1.heap.size w1 w2 → R (.returned (.bool r)) w2) :
    Calls Tryz.prog 95 #[x, .pointer (some ⟨bb, 0, none⟩)] w1 R := by
  have HR := Lib.hid hR
  have HF := Lib.hid (hf w1 hb)
  clear hR hf hb
  go_enter Tryz.func95, Tryz.ntmps95
  go_wp2_with fail
  refine HF.out _ (fun w2 hb2 => ?_)
  have HB := Lib.hid hb2
  clear hb2
  go_wp2_with fail
  exact HR.out _ HB.out
theorem fit4_any (w w1 : World) (x y : Value) (r1 r2 : Bool) (h1 : FitC x y w r1) (h2 : FitC y x w r2) (hb : Below w.heap.size w w1) {R : Ending → World → Prop} (hR : ∀ w2, Below w1.heap.size w1 w2 → R (.returned (.bool (r1 || r2))) w2) :
    Calls Tryz.prog 98 #[x, y] w1 R := by
  have HR := Lib.hid hR
  have HF := Lib.hid (h1 w1 hb)
  have HG := Lib.hid (fun w2 (hb2 : Below w1.heap.size w1 w2) => h2 w2 (hb.trans (hb2.mono hb.size)))
  clear hR h1 h2 hb
  go_enter Tryz.func98, Tryz.ntmps98
  go_wp2_with fail
  refine HF.out _ (fun w2 hb2 => ?_)
  have HB := Lib.hid hb2
  cases r1
  · clear hb2
    go_wp2_with fail
    refine HG.out _ HB.out _ (fun w3 hb3 => ?_)
    have HB3 := Lib.hid (HB.out.trans (hb3.mono HB.out.size))
    clear hb3
    go_wp2_with fail
    exact HR.out _ HB3.out
  · clear hb2
    go_wp2_with fail
    exact HR.out _ HB.out
set_option maxRecDepth 100000 in
theorem fit3_any (w w1 : World) (bb : Nat) (t : Tr) (p : Value) (nm : ByteArray) (pq : Nat) (r : Tr → Bool) (hq : w1.cell? ⟨bb, 0, none⟩ = some p) (hbb : bb < w1.heap.size) (hrep : rep (Prt.hp w) t p) (hok : Ty.okT t) (hf : ∀ u q, Ty.part (Ty.namesOf t) (Ty.partsOf t) nm = some u → rep (Prt.hp w) u q → FitC q (.pointer (some ⟨pq, 0, none⟩)) w (r u)) (hb : Below w.heap.size w w1) {R : Ending → World → Prop}
    (hR : ∀ w2, Below w1.heap.size w1 w2 → R (.returned (.bool (match Ty.part (Ty.namesOf t) (Ty.partsOf t) nm with | none => true | some u => !r u))) w2) :
    Calls Tryz.prog 97 #[.agg #[.string nm, .pointer (some ⟨pq, 0, none⟩)], .pointer (some ⟨bb, 0, none⟩)] w1 R := by
  have HR := Lib.hid hR
  have HF := Lib.hid hf
  have HB := Lib.hid hb
  have hb1 := hb.trans ((Below.refl w1.heap.size w1).alloc (Nat.le_refl _) (.cells #[.string nm, .pointer (some ⟨pq, 0, none⟩)] 125) |>.mono hb.size)
  have HB1 := Lib.hid hb1
  have HREP := Lib.hid hrep
  have HOK := Lib.hid hok
  obtain ⟨k, names, parts, list, of⟩ := t
  have hz := hb.size
  clear hR hf hb hb1 hrep hok
  go_enter Tryz.func97, Tryz.ntmps97
  go_wp2_with fail
  refine Part_any w _ HB1.out _ p HREP.out HOK.out nm (fun q w2 hb2 hq2 => ?_)
  dsimp only [Ty.namesOf, Ty.partsOf] at HR HF hq2
  have d0 : w2.cell? ⟨w1.heap.size, 1, none⟩ = some (.pointer (some ⟨pq, 0, none⟩)) := by
    rw [hb2.cell (p := ⟨w1.heap.size, 1, none⟩) (by simp), cell_of_block (heap_alloc_new w1 _)]; rfl
  have hb3 : Below w1.heap.size w1 w2 := ((Below.refl w1.heap.size w1).alloc (Nat.le_refl _) _).trans (hb2.mono (by simp))
  have HB3 := Lib.hid hb3
  cases hp : Ty.part names parts nm with
  | none =>
    rw [hp] at hq2 HR
    dsimp only at hq2 HR
    subst hq2
    clear hb2 hb3 hp
    go_wp2_with fail
    exact HR.out _ HB3.out
  | some u =>
    rw [hp] at hq2 HR
    dsimp only at hq2 HR
    obtain ⟨pu, rfl, _⟩ := rep_ptr hq2
    have hb4 := HB1.out.trans (hb2.mono (by simp; omega))
    -- the part's tree was there ahead of the call
    have hold := hq2
    have HC := Lib.hid (HF.out u _ hp hold w2 hb4)
    clear hb2 hb3 hp hb4 hold hq2
    go_wp2_with fail
    refine HC.out _ (fun w5 hb5 => ?_)
    have HB5 := Lib.hid (HB3.out.trans (hb5.mono HB3.out.size))
    clear hb5
    go_wp2_with fail
    exact HR.out _ HB5.out
end Go.Proofs.YtdlbhiaceheffaaGreatDoor
