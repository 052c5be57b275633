/- Walk of types.flat. Walk of types.Join. Walk of types.arena. -/
import Derived.Test.YtdlbhiaceheffaaGreatDoorQTt
import Derived.Test.YtdlbhiaceheffaaGreatDoorQTrB
import Derived.Test.YtdlbhiaceheffaaGreatDoorQMv
namespace Go.Proofs.YtdlbhiaceheffaaGreatDoor
open Go Go.RowKit
open Prt (Sat As blk pur exs star stars)
open Ty (Tr)

def FlatSpec (w0 : World) (t : Tr) (p : Value) : Prop := ∀ w, Below w0.heap.size w0 w → ∀ R : Ending → World → Prop,
  (∀ v ps w', Sat w w' [Prt.oldA w, Prt.row 47 1 v ps.length ps] → reps (Prt.hp w0) (Ty.flatT t) ps → R (.returned v) w') → Calls Tryz.prog 48 #[p] w R
theorem reps_append {h : Prt.Hp} : ∀ {l m : List Tr} {ps qs : List Value}, reps h l ps → reps h m qs → reps h (l ++ m) (ps ++ qs)
  | [], m, ps, qs, h1, h2 => by rw [reps] at h1; subst h1; exact h2
  | a :: l, m, ps, qs, h1, h2 => by
    rw [reps] at h1
    obtain ⟨q, ps', rfl, h3, h4⟩ := h1
    show reps h (a :: (l ++ m)) (q :: (ps' ++ qs))
    rw [reps]
    exact ⟨q, _, rfl, h3, reps_append h4 h2⟩
theorem reps_ptrs {h : Prt.Hp} {l : List Tr} {ps : List Value} (hr : reps h l ps) : ∀ u ∈ ps, u.oneCell' = true := by
  induction l generalizing ps with
  | nil => rw [reps] at hr; subst hr; simp
  | cons a l ih =>
    rw [reps] at hr
    obtain ⟨q, ps', rfl, h3, h4⟩ := hr
    intro u hu
    rcases List.mem_cons.1 hu with rfl | hu
    · obtain ⟨b, rfl, _⟩ := rep_ptr h3; rfl
    · exact ih h4 u hu
theorem ptRow_app {v : Value} {ps qs : List Value} {n : Nat} {a : Prt.Hp} (hn : n = ps.length + qs.length) (h : Prt.row 47 1 v n (ps ++ qs) a) : Prt.row 47 1 v (ps ++ qs).length (ps ++ qs) a := by
  rw [List.length_append, ← hn]; exact h
set_option maxRecDepth 100000 in
set_option maxHeartbeats 1000000 in
theorem flat_any (w0 : World) : ∀ (N : Nat) (t : Tr), Ty.sz t < N → Ty.okT t → Ty.uniT t → Ty.cnt t ≤ 1000000 → ∀ p, rep (Prt.hp w0) t p → FlatSpec w0 t p := by
  intro N
  induction N with
  | zero => intro t h; omega
  | succ N ih =>
    intro t hN hok hun hcn p hrep w hw R hR
    obtain ⟨k, names, parts, list, of⟩ := t
    have hrep0 := hrep
    obtain ⟨b, pv, lv, ov, ps, ls, os, rfl, hb, c0, c1, c2, c3, _, _, _, hrow, hls, _⟩ := rep_cells hrep
    replace c0 := keepCell hw c0
    replace c2 := keepCell hw c2
    rw [Ty.flatT] at hR
    by_cases hk : k = 10
    · rw [if_pos hk] at hR
      subst hk
      have hle := reps_len hls
      have hok1 := hok
      rw [Ty.okT] at hok
      have hun1 := hun
      rw [Ty.uniT] at hun
      rw [Ty.cnt] at hcn
      have HR := Lib.hid hR
      have HROW := Lib.hid (owns_below hrow hw)
      obtain ⟨la, lc, rfl⟩ := owns_slice hrow
      have HIH : Hid (∀ j (hj : j < list.length) (hj2 : j < ls.length), FlatSpec w0 list[j] ls[j]) := fun j hj hj2 =>
        ih list[j] (by have := Ty.sz_list (List.getElem_mem hj) 10 names parts of; omega) (Ty.okL_mem hok.2.2.2.2.2.2.2.2.1 _ (List.getElem_mem hj)) (Ty.uniL_mem hun.2.2.1 _ (List.getElem_mem hj)) (by have := cntL_take list j hj; omega) ls[j] (reps_at hls j hj hj2)
      have HPOS : Hid (∀ j (hj : j < list.length), 0 < (Ty.flatT list[j]).length) := fun j hj => Ty.flatT_pos _ (Ty.uniL_mem hun.2.2.1 _ (List.getElem_mem hj))
      have HCN := Lib.hid hcn
      have HW := Lib.hid hw
      have hll : ls.length ≤ 1000000 := by have := hok.2.2.2.2.2.2.1.2; omega
      have HLE := Lib.hid hle
      obtain ⟨j0, tj, uz0, uz1, uz2⟩ := info_parts infoTp
      have h1 := (Prt.Sat.old w).nil 47 1
      have H1 := Lib.hid h1
      clear hR hrow hN hrep hrep0 ih hok hok1 hun hun1 hcn hls hle hw h1 c1 c3
      go_enter Tryz.func48, Tryz.ntmps48
      go_wp2_with fail
      go_loopw [3, 18] (fun v i wr => ∃ (j : Nat) (qs : List Value), i = .int .i64 j ∧ j ≤ ls.length ∧ Hid (Sat w wr [Prt.oldA w, Prt.row 47 1 v qs.length qs]) ∧ Hid (reps (Prt.hp w0) (Ty.flatL (list.take j)) qs)) (fun _ i _ => ls.length - (intOf i).toNat)
      case atStart => exact ⟨0, [], rfl, by omega, H1.out, by show reps _ (Ty.flatL []) []; rw [Ty.flatL, reps]⟩
      case round =>
        obtain ⟨j, qs, rfl, hj, hS, hQ⟩ := hrel
        obtain ⟨qa, qc, rfl⟩ := owns_slice (hS.out.row 1 rfl)
        by_cases hlt : j < ls.length
        · obtain ⟨gl, capl, e, hgl, d0⟩ := ptrs_at (owns_below HROW.out hS.out.isBelow) j hlt
          cases e
          have hj2 : j < list.length := by have := HLE.out; omega
          have HI := Lib.hid (HIH.out j hj2 hlt wr (HW.out.trans (hS.out.isBelow.mono HW.out.size)))
          have HT := Lib.hid (List.take_succ_eq_append_getElem hj2)
          have hpos := HPOS.out j hj2
          have hcb : qs.length + (Ty.flatT list[j]).length ≤ 1000000 := by
            have h1 := reps_len hQ.out
            have h2 := Ty.flatL_len (list.take j)
            have h3 := Ty.flatT_len list[j]
            have h4 := cntL_take list j hj2
            have := HCN.out
            omega
          generalize ls[j] = pj at *
          generalize list[j] = tj2 at *
          have HCB := Lib.hid hcb
          have HPO := Lib.hid hpos
          clear hj2 hpos hcb
          go_wp2_with fail
          refine HI.out _ (fun v2 ps2 w2 h2 hr2 => ?_)
          have hl2 := reps_len hr2
          obtain ⟨g2, c2', rfl, _, hg2⟩ := (h2.row 1 rfl).form (by have := HPO.out; omega)
          have h3 := hS.out.join h2
          have HR2 := Lib.hid hr2
          have H3 := Lib.hid h3
          have hb1 : qs.length + ps2.length ≤ 1000000 := by have := HCB.out; omega
          have hb2 : 0 < ps2.length := by have := HPO.out; omega
          clear h2 h3 hr2 hl2
          go_wp2_with (at_builtin; go_loud (refine wpList_append_lies _ rfl (.tmp 22) (.tmp 24) 43 rfl 0 47 j0 _ 1 8 Tryz.underlying43 tj uz0 uz1 uz2 rfl (by decide) _ _ qs (by rfl) (H3.out.row 1 rfl) ⟨g2, 0, none⟩ ps2.length c2' ps2 (by rfl) (by simp) (World.ownsRow.cells (H3.out.row 2 rfl) rfl) (reps_ptrs HR2.out) (by omega) (by unfold maxLen; omega) (by omega) (by simp) w2.heap.size rfl ?_))
          intro g4 cap4 w4 hown4 hgrow4 hat4 hlt4
          have h8 := (Prt.Sat.grow H3.out 1 rfl hgrow4 hown4 hat4).pick [0, 1]
          have h9 := h8.ent (i := 1) rfl (Q := Prt.row 47 1 (.slice (some ⟨g4, 0, none⟩) (qs.length + ps2.length) cap4) (qs ++ ps2).length (qs ++ ps2)) (fun _ h => ptRow_app rfl h)
          have H9 := Lib.hid h9
          have HQ2 : Hid (reps (Prt.hp w0) (Ty.flatL (list.take (j + 1))) (qs ++ ps2)) := by show reps _ _ _; rw [HT.out, Ty.flatL_snoc]; exact reps_append hQ.out HR2.out
          clear h8 h9 hown4 hgrow4
          go_wp2_with fail
          go_roundw
          case rel => exact ⟨j + 1, qs ++ ps2, by go_num, by omega, H9.out, HQ2.out⟩
          case measure => simp [intOf]; omega
        · have hje : j = list.length := by have := HLE.out; omega
          have HQ2 : Hid (reps (Prt.hp w0) (Ty.flatL list) qs) := by have := hQ.out; rw [hje, List.take_length] at this; exact this
          clear hje
          go_wp2_with fail
          exact HR.out _ qs _ hS.out HQ2.out
    · rw [if_neg hk] at hR
      have HR := Lib.hid hR
      have HREP := Lib.hid hrep0
      have k1 : ((k : Int) != 10) = true := by simp; omega
      clear hR hrep0 hrep ih hok hun hcn hrow hls hN
      go_enter Tryz.func48, Tryz.ntmps48
      go_wp2_with fail
      refine HR.out _ [.pointer (some ⟨b, 0, none⟩)] _ (((Prt.Sat.old w).allocAt (.cells #[.pointer (some ⟨b, 0, none⟩)] 47) w.heap.size).ent (i := 1) rfl fun _ h => Prt.row_of_blk h (by unfold maxLen; simp) rfl rfl) ?_
      rw [reps]; exact ⟨_, [], rfl, HREP.out, by rw [reps]⟩
end Go.Proofs.YtdlbhiaceheffaaGreatDoor

namespace Go.Proofs.YtdlbhiaceheffaaGreatDoor
open Go Go.RowKit
open Prt (Sat As blk pur exs star stars)
open Ty (Tr anyTo anyTo_iff anyTo_false)

set_option maxRecDepth 100000 in
theorem idxT0_any (w : World) (v : Value) (ls : List Value) (hrow : w.ownsRow 0 47 1 v ls.length ls) (hl : ls.length ≤ 1000000) (F : FuncId) (hc : ∀ (args : Array Value) (w : World), (callFunc F args).run Tryz.prog w = .ok (.enter F args) w)
    (f : Nat → Bool) (hcall : ∀ j (hj : j < ls.length) w1, Below w.heap.size w w1 → ∀ R : Ending → World → Prop, (∀ w2, Below w1.heap.size w1 w2 → R (.returned (.bool (f j))) w2) → Calls Tryz.prog F #[ls[j]] w1 R) {R : Ending → World → Prop}
    (hyes : ∀ (r : Nat) w', Below w.heap.size w w' → anyTo f ls.length = true → r ≤ 1000000 → R (.returned (.int .i64 r)) w') (hno : ∀ w', Below w.heap.size w w' → anyTo f ls.length = false → R (.returned (.int .i64 (-1))) w') :
    Calls Tryz.prog 90 #[v, .func (.func F) #[] #[]] w R := by
  have HY := Lib.hid hyes
  have HNO := Lib.hid hno
  have HC := Lib.hid hcall
  have HROW := Lib.hid hrow
  obtain ⟨la, lc, rfl⟩ := owns_slice hrow
  clear hyes hno hcall hrow
  go_enter Tryz.func90, Tryz.ntmps90
  go_wp2_with fail
  go_loopw [8] (fun i wr => ∃ k : Nat, k ≤ ls.length ∧ i = .int .i64 k ∧ Hid (Below w.heap.size w wr) ∧ Hid (∀ j, j < k → f j = false)) (fun i _ => ls.length - (intOf i).toNat)
  case atStart => exact ⟨0, by omega, rfl, Below.refl _ _, fun j hj => by omega⟩
  case round =>
    obtain ⟨k, hk, rfl, hb, hf⟩ := hrel
    by_cases hlt : k < ls.length
    · obtain ⟨gl, capl, e, hgl, d0⟩ := ptrs_at (owns_below HROW.out hb.out) k hlt
      cases e
      have HI := Lib.hid (HC.out k hlt wr hb.out)
      have HT := Lib.hid (fun h : f k = true => (anyTo_iff (f := f)).2 ⟨k, hlt, h⟩)
      have HN : Hid (f k = false → ∀ j, j < k + 1 → f j = false) := fun h j hj => by
        by_cases hjk : j = k
        · subst hjk; exact h
        · exact hf.out j (by omega)
      generalize f k = fk at *
      generalize ls[k] = p at *
      go_wp2_with fail
      refine HI.out _ (fun w2 hb2 => ?_)
      have HB2 := Lib.hid (hb.out.trans (hb2.mono hb.out.size))
      clear hb2
      cases fk
      · have HN2 := Lib.hid (HN.out rfl)
        go_wp2_with fail
        go_roundw
        case rel => exact ⟨k + 1, by omega, by go_num, HB2, HN2⟩
        case measure => simp [intOf]; omega
      · have HT2 := Lib.hid (HT.out rfl)
        go_wp2_with fail
        exact HY.out k _ HB2.out HT2.out (by omega)
    · have hke : k = ls.length := by omega
      have HN : Hid (anyTo f ls.length = false) := anyTo_false.2 (by rw [← hke]; exact hf.out)
      clear hke
      go_wp2_with fail
      exact HNO.out _ hb.out HN.out
theorem anyT0_any (w : World) (v : Value) (ls : List Value) (hrow : w.ownsRow 0 47 1 v ls.length ls) (hl : ls.length ≤ 1000000) (F : FuncId) (hc : ∀ (args : Array Value) (w : World), (callFunc F args).run Tryz.prog w = .ok (.enter F args) w)
    (f : Nat → Bool) (hcall : ∀ j (hj : j < ls.length) w1, Below w.heap.size w w1 → ∀ R : Ending → World → Prop, (∀ w2, Below w1.heap.size w1 w2 → R (.returned (.bool (f j))) w2) → Calls Tryz.prog F #[ls[j]] w1 R) {R : Ending → World → Prop}
    (hR : ∀ w', Below w.heap.size w w' → R (.returned (.bool (anyTo f ls.length))) w') :
    Calls Tryz.prog 49 #[v, .func (.func F) #[] #[]] w R := by
  have HR := Lib.hid hR
  clear hR
  have HX := Lib.hid (fun R h1 h2 => @idxT0_any w v ls hrow hl F hc f hcall R h1 h2)
  clear hcall hrow
  go_enter Tryz.func49, Tryz.ntmps49
  go_wp2_with fail
  refine HX.out _ (fun r w1 hb ha hr => ?_) (fun w1 hb ha => ?_)
  · rw [ha] at HR
    have HB := Lib.hid hb
    clear ha hb
    go_wp2_with fail
    exact HR.out _ HB.out
  · rw [ha] at HR
    have HB := Lib.hid hb
    clear ha hb
    go_wp2_with fail
    exact HR.out _ HB.out
theorem join1_any (w0 w1 : World) (bb : Nat) (p q : Value) (r : Bool) (hp : w1.cell? ⟨bb, 0, none⟩ = some p) (hal : AlikeC p q w0 r) (hb : Below w0.heap.size w0 w1) {R : Ending → World → Prop} (hR : ∀ w2, Below w1.heap.size w1 w2 → R (.returned (.bool r)) w2) :
    Calls Tryz.prog 50 #[q, .pointer (some ⟨bb, 0, none⟩)] w1 R := by
  have HR := Lib.hid hR
  have HF := Lib.hid (hal w1 hb)
  clear hR hal hb
  go_enter Tryz.func50, Tryz.ntmps50
  go_wp2_with fail
  refine HF.out _ (fun w2 hb2 => ?_)
  have HB := Lib.hid hb2
  clear hb2
  go_wp2_with fail
  exact HR.out _ HB.out
theorem join2_any (w : World) (b k : Nat) (hk : KindAt w b k) {R : Ending → World → Prop} (hR : R (.returned (.bool (decide (k = 5)))) w) :
    Calls Tryz.prog 52 #[.pointer (some ⟨b, 0, none⟩)] w R := by
  have HR := Lib.hid hR
  obtain ⟨hb, c0⟩ := hk
  clear hR
  by_cases h5 : k = 5
  · subst h5
    go_enter Tryz.func52, Tryz.ntmps52
    go_wp2_with fail
    exact HR.out
  · have k1 : ((k : Int) == 5) = false := int_ne h5
    have k2 : Hid (decide (k = 5) = false) := decide_eq_false h5
    rw [k2.out] at HR
    clear h5
    go_enter Tryz.func52, Tryz.ntmps52
    go_wp2_with fail
    exact HR.out
theorem rep_kind {w : World} {t : Tr} {p : Value} (h : rep (Prt.hp w) t p) : ∃ b, p = .pointer (some ⟨b, 0, none⟩) ∧ KindAt w b (Ty.kindOf t) := by
  obtain ⟨k, names, parts, list, of⟩ := t
  obtain ⟨b, pv, lv, ov, ps, ls, os, rfl, hb, c0, _⟩ := rep_cells h
  exact ⟨b, rfl, hb, c0⟩
theorem rep_plain {h : Prt.Hp} {b k : Nat} {lv : Value} {qs : List Value} {G : List Tr} (hb : h b = some (.cells #[.int .i64 (k : Nat), .slice none 0 0, lv, .pointer none] 101 (0, 0))) (hl : Prt.row 47 1 lv qs.length qs h) (hr : reps h G qs) : rep h (.mk k [] [] G []) (.pointer (some ⟨b, 0, none⟩)) := by
  rw [rep]
  exact ⟨b, _, lv, _, [], qs, [], rfl, hb, ⟨by simp [paCells], .inl ⟨rfl, rfl⟩⟩, rfl, by rw [reps], hl, hr, by rw [reps], .inl ⟨rfl, rfl⟩⟩
theorem gather_take (l m : List Tr) (k : Nat) (hk : k < m.length) : Ty.gather (l ++ m.take (k + 1)) = Ty.addT (Ty.gather (l ++ m.take k)) m[k] := by
  rw [List.take_succ_eq_append_getElem hk, ← List.append_assoc, Ty.gather_snoc]
theorem reps_below {w w' : World} {l : List Tr} {ps : List Value} (h : reps (Prt.hp w) l ps) (hb : Below w.heap.size w w') : reps (Prt.hp w') l ps :=
  reps_le (fun k o e => by show w'.heap[k]? = _; rw [hb.block k (Array.getElem?_eq_some_iff.1 e).1]; exact e) l ps h
theorem len_cntL : ∀ l : List Tr, l.length ≤ Ty.cntL l
  | [] => by simp
  | t :: l => by have := Ty.cnt_pos t; have := len_cntL l; rw [Ty.cntL]; simp; omega
set_option maxRecDepth 100000 in
set_option maxHeartbeats 4000000 in
theorem Join_any (w0 w : World) (hw : Below w0.heap.size w0 w) (trs : List Tr) (ps : List Value) (hok : Ty.okL trs) (hun : Ty.uniL trs) (hcn : Ty.cntL trs ≤ 1000000) (hr : reps (Prt.hp w0) trs ps) (v : Value) (hrow : w.ownsRow 0 47 1 v ps.length ps) {R : Ending → World → Prop}
    (hR : ∀ p w', Below w.heap.size w w' → rep (Prt.hp w') (Ty.joinT trs) p → R (.returned p) w') :
    Calls Tryz.prog 25 #[v] w R := by
  have HR := Lib.hid hR
  have HROW := Lib.hid hrow
  have hle := reps_len hr
  have hlt0 := len_cntL trs
  obtain ⟨va, vc, rfl⟩ := owns_slice hrow
  have HFL : Hid (∀ j (hj : j < trs.length) (hj2 : j < ps.length), FlatSpec w0 trs[j] ps[j]) := fun j hj hj2 =>
    flat_any w0 _ _ (Nat.lt_succ_self _) (Ty.okL_mem hok _ (List.getElem_mem hj)) (Ty.uniL_mem hun _ (List.getElem_mem hj)) (by have := cntL_take trs j hj; omega) _ (reps_at hr j hj hj2)
  have HOK := Lib.hid (Ty.flatL_ok trs hok)
  have HOKT : Hid (∀ j (hj : j < trs.length), ∀ x ∈ Ty.flatT trs[j], Ty.okT x) := fun j hj x hx => (Ty.flatT_ok _ (Ty.okL_mem hok _ (List.getElem_mem hj)) x hx).1
  have HCN := Lib.hid hcn
  have HW := Lib.hid hw
  have HLE := Lib.hid hle
  have hpl : ps.length ≤ 1000000 := by omega
  obtain ⟨j0, tj, uz0, uz1, uz2⟩ := info_parts infoTp
  have h1 := (Prt.Sat.old w).nil 47 1
  have H1 := Lib.hid h1
  clear hR hrow hr hle hlt0 hok hun hcn hw h1
  go_enter Tryz.func25, Tryz.ntmps25
  go_wp2_with fail
  go_loopw [3, 10] (fun v i wr => ∃ (j : Nat) (qs : List Value), i = .int .i64 j ∧ j ≤ ps.length ∧ Hid (Sat w wr [Prt.oldA w, Prt.row 47 1 v qs.length qs]) ∧ Hid (reps (Prt.hp w0) (Ty.gather (Ty.flatL (trs.take j))) qs)) (fun _ i _ => ps.length - (intOf i).toNat)
  case atStart => exact ⟨0, [], rfl, by omega, H1.out, by show reps _ (Ty.gather (Ty.flatL [])) []; rw [Ty.flatL]; show reps _ [] []; rw [reps]⟩
  case round =>
    obtain ⟨j, qs, rfl, hj, hS, hQ⟩ := hrel
    obtain ⟨qa, qc, rfl⟩ := owns_slice (hS.out.row 1 rfl)
    by_cases hlt : j < ps.length
    · obtain ⟨gl, capl, e, hgl, d0⟩ := ptrs_at (owns_below HROW.out hS.out.isBelow) j hlt
      cases e
      have hj2 : j < trs.length := by have := HLE.out; omega
      have HI := Lib.hid (HFL.out j hj2 hlt wr (HW.out.trans (hS.out.isBelow.mono HW.out.size)))
      have HT := Lib.hid (List.take_succ_eq_append_getElem hj2)
      have hokt := HOKT.out j hj2
      have hcb : (Ty.flatL (trs.take j)).length + (Ty.flatT trs[j]).length ≤ 1000000 := by
        have h2 := Ty.flatL_len (trs.take j)
        have h3 := Ty.flatT_len trs[j]
        have h4 := cntL_take trs j hj2
        have := HCN.out
        omega
      have hokl : ∀ x ∈ Ty.flatL (trs.take j), Ty.okT x := fun x hx => (HOK.out x (by
        have : Ty.flatL trs = Ty.flatL (trs.take j) ++ Ty.flatL (trs.drop j) := by rw [← Ty.flatL_append, List.take_append_drop]
        rw [this, List.mem_append]; exact .inl hx)).1
      generalize ps[j] = pj at *
      generalize trs[j] = tj2 at *
      have HCB := Lib.hid hcb
      have HOKA := Lib.hid hokl
      have HOKB := Lib.hid hokt
      clear hj2 hokt hcb hokl
      go_wp2_with fail
      refine HI.out _ (fun v2 ps2 w2 h2 hr2 => ?_)
      have hl2 := reps_len hr2
      have hbx : ps2.length ≤ 1000000 := by have := HCB.out; omega
      obtain ⟨a2, c2', rfl⟩ := owns_slice (h2.row 1 rfl)
      have h3 := hS.out.join h2
      have HR2 := Lib.hid hr2
      have H3 := Lib.hid h3
      have HL2 := Lib.hid hl2
      have HQ0 : Hid (reps (Prt.hp w0) (Ty.gather (Ty.flatL (trs.take j) ++ (Ty.flatT tj2).take 0)) qs) := by show reps _ _ _; rw [List.take_zero, List.append_nil]; exact hQ.out
      clear h2 h3 hr2 hl2
      go_wp2_with fail
      obtain ⟨wo, hwo⟩ : ∃ wo : World, wo = wr := ⟨_, rfl⟩
      clear hwo wo
      go_loopw [3, 17] (fun v i wx => ∃ (k : Nat) (qs : List Value), i = .int .i64 k ∧ k ≤ ps2.length ∧ Hid (Sat w wx [Prt.oldA w, Prt.row 47 1 v qs.length qs, Prt.row 47 1 (.slice a2 ps2.length c2') ps2.length ps2]) ∧ Hid (reps (Prt.hp w0) (Ty.gather (Ty.flatL (trs.take j) ++ (Ty.flatT tj2).take k)) qs)) (fun _ i _ => ps2.length - (intOf i).toNat)
      case atStart => exact ⟨0, qs, rfl, by omega, H3.out, HQ0.out⟩
      case round =>
        obtain ⟨k, qs, rfl, hk, hS2, hQ2⟩ := hrel
        obtain ⟨qa2, qc2, rfl⟩ := owns_slice (hS2.out.row 1 rfl)
        by_cases hlt2 : k < ps2.length
        · obtain ⟨g5, cap5, e, hg5, d5⟩ := ptrs_at (hS2.out.row 2 rfl) k hlt2
          cases e
          have hk2 : k < (Ty.flatT tj2).length := by have := HL2.out; omega
          have hrx := reps_at HR2.out k hk2 hlt2
          have hokx := HOKB.out _ (List.getElem_mem hk2)
          obtain ⟨bx, epx, _⟩ := rep_ptr hrx
          have HGT := Lib.hid (gather_take (Ty.flatL (trs.take j)) (Ty.flatT tj2) k hk2)
          have hgl := Ty.gather_len (Ty.flatL (trs.take j) ++ (Ty.flatT tj2).take k)
          have hql := reps_len hQ2.out
          have hqb : qs.length + 1 ≤ 1000000 := by rw [← hql]; rw [List.length_append, List.length_take] at hgl; have := HCB.out; omega
          have hokg : ∀ y ∈ Ty.gather (Ty.flatL (trs.take j) ++ (Ty.flatT tj2).take k), Ty.okT y := fun y hy => by
            have := Ty.gather_mem _ y hy
            rw [List.mem_append] at this
            rcases this with h | h
            · exact HOKA.out y h
            · exact HOKB.out y (List.mem_of_mem_take h)
          generalize (Ty.flatT tj2)[k] = x at *
          generalize Ty.gather (Ty.flatL (trs.take j) ++ (Ty.flatT tj2).take k) = G at *
          rw [epx] at hrx d5
          have hbW := HW.out.trans (hS2.out.isBelow.mono HW.out.size)
          have HAL : Hid (∀ i (hi : i < qs.length), AlikeC (.pointer (some ⟨bx, 0, none⟩)) qs[i] w0 (Ty.alike x (G.getD i Ty.nilT))) := fun i hi => by
            have hi2 : i < G.length := by omega
            rw [getD_eq hi2]
            exact Alike_all w0 _ x G[i] _ _ (Nat.lt_succ_self _) hokx (hokg _ (List.getElem_mem hi2)) hrx (reps_at hQ2.out i hi2 hi)
          have HQL := Lib.hid hql
          have HRX := Lib.hid hrx
          have HBW := Lib.hid hbW
          have h6 := hS2.out.allocAt (.cells #[.pointer (some ⟨bx, 0, none⟩)] 47) _ rfl
          have H6 := Lib.hid h6
          clear hk2 hokx epx hgl hql hokg hrx hbW h6
          go_wp2_with fail
          refine anyT_any _ _ qs (H6.out.row 1 rfl) (by omega) 50 _ Tryz.call50 (fun i => Ty.alike x (G.getD i Ty.nilT)) (fun i hi w3 hb3 R3 hR3 => ?_) (fun w3 hb3 => ?_)
          · exact join1_any w0 w3 _ _ _ _ ((H6.out.below hb3).cell 3 rfl 0 rfl) (HAL.out i hi) ((HBW.out.trans (((Below.refl _ _).alloc (Nat.le_refl _) _).mono HBW.out.size)).trans (hb3.mono (by have := HBW.out.size; simp; omega))) hR3
          · have h7 := H6.out.below hb3
            have x0 := h7.cell 3 rfl 0 rfl
            have H7 := Lib.hid h7
            clear hb3 h7
            cases hany : anyTo (fun i => Ty.alike x (G.getD i Ty.nilT)) qs.length
            · have HQ3 : Hid (reps (Prt.hp w0) (Ty.gather (Ty.flatL (trs.take j) ++ (Ty.flatT tj2).take (k + 1))) (qs ++ [.pointer (some ⟨bx, 0, none⟩)])) := by
                show reps _ _ _
                rw [HGT.out, Ty.addT, HQL.out, hany]
                exact reps_snoc hQ2.out HRX.out
              clear hany
              go_wp2_with (at_builtin; go_loud (refine wpList_append_lies _ rfl (.tmp 25) (.tmp 27) 43 rfl 0 47 j0 _ 1 8 Tryz.underlying43 tj uz0 uz1 uz2 rfl (by decide) _ _ qs (by rfl) ((H7.out.row 1 rfl).alloc _) ⟨w3.heap.size, 0, none⟩ 1 1 [.pointer (some ⟨bx, 0, none⟩)] (by rfl) (by rfl) (World.news_of_block (cs := #[.pointer (some ⟨bx, 0, none⟩)]) (t := 47) (fr := (0, 0)) (heap_alloc_at' _ _ _ (by simp))) (by simp [Value.oneCell']) (by omega) (by unfold maxLen; omega) (by omega) (by simp) (w3.heap.size + 1) (by simp) ?_))
              intro g4 cap4 w4 hown4 hgrow4 hat4 hlt4
              have h8 := (Prt.Sat.grow (H7.out.waste _) 1 rfl hgrow4 hown4 (by simpa using hat4)).pick [0, 1, 2]
              have h9 := h8.ent (i := 1) rfl (Q := Prt.row 47 1 (.slice (some ⟨g4, 0, none⟩) (qs.length + 1) cap4) (qs ++ [Value.pointer (some ⟨bx, 0, none⟩)]).length (qs ++ [Value.pointer (some ⟨bx, 0, none⟩)])) (fun _ h => ptRow_snoc h)
              have H9 := Lib.hid h9
              clear h8 h9 hown4 hgrow4
              go_wp2_with fail
              go_roundw
              case rel => exact ⟨k + 1, qs ++ [Value.pointer (some ⟨bx, 0, none⟩)], by go_num, by omega, H9.out, HQ3.out⟩
              case measure => simp [intOf]; omega
            · have HQ3 : Hid (reps (Prt.hp w0) (Ty.gather (Ty.flatL (trs.take j) ++ (Ty.flatT tj2).take (k + 1))) qs) := by
                show reps _ _ _
                rw [HGT.out, Ty.addT, HQL.out, hany]
                exact hQ2.out
              clear hany
              go_wp2_with fail
              go_roundw
              case rel => exact ⟨k + 1, qs, by go_num, by omega, H7.out.pick [0, 1, 2], HQ3.out⟩
              case measure => simp [intOf]; omega
        · have hke : k = (Ty.flatT tj2).length := by have := HL2.out; omega
          have HQ3 : Hid (reps (Prt.hp w0) (Ty.gather (Ty.flatL (trs.take (j + 1)))) qs) := by
            have := hQ2.out
            rw [hke, List.take_length] at this
            show reps _ _ _
            rw [HT.out, Ty.flatL_snoc]; exact this
          clear hke
          go_wp2_with fail
          go_roundw
          case rel => exact ⟨j + 1, qs, by go_num, by omega, hS2.out.pick [0, 1], HQ3.out⟩
          case measure => simp [intOf]; omega
    · have hje : j = trs.length := by have := HLE.out; omega
      have hG := hQ.out
      rw [hje, List.take_length] at hG
      have hbW := HW.out.trans (hS.out.isBelow.mono HW.out.size)
      have HBW := Lib.hid hbW
      have hgl := reps_len hG
      have hql : qs.length ≤ 1000000 := by have := Ty.gather_len (Ty.flatL trs); have := Ty.flatL_len trs; have := HCN.out; omega
      unfold Ty.joinT at HR
      generalize Ty.gather (Ty.flatL trs) = G at *
      rw [hgl] at HR
      have HG := Lib.hid hG
      have HGL := Lib.hid hgl
      clear hje hbW hG hgl hQ
      by_cases h0 : qs.length = 0
      · rw [if_pos (.inl h0)] at HR
        have k0 : ((qs.length : Int) == 0) = true := by simp [h0]
        clear h0
        go_wp2_with fail
        refine Plain_any _ 5 ?_
        have hB := hS.out.isBelow.trans (((Below.refl wr.heap.size wr).alloc (Nat.le_refl _) (.cells #[.int .i64 5, .slice none 0 0, .slice none 0 0, .pointer none] 101)).mono hS.out.isBelow.size)
        have HBB := Lib.hid hB
        clear hB
        go_wp2_with fail
        refine HR.out _ _ HBB.out ?_
        exact rep_plain (k := 5) (qs := []) (heap_alloc_new wr _) ⟨rfl, .inl ⟨rfl, rfl⟩⟩ (by rw [reps])
      · have k0 : ((qs.length : Int) == 0) = false := beq_eq_false_iff_ne.2 (by omega)
        have HK : Hid (∀ i (hi : i < qs.length), ∃ b, qs[i] = .pointer (some ⟨b, 0, none⟩) ∧ KindAt w0 b (Ty.kindOf (G.getD i Ty.nilT))) := fun i hi => by
          have hi2 : i < G.length := by have := HGL.out; omega
          rw [getD_eq hi2]
          exact rep_kind (reps_at HG.out i hi2 hi)
        have hpos : 0 < qs.length := by omega
        have H0 := Lib.hid h0
        clear h0
        go_wp2_with fail
        refine anyT0_any wr _ qs (hS.out.row 1 rfl) (by omega) 52 Tryz.call52 (fun i => decide (Ty.kindOf (G.getD i Ty.nilT) = 5)) (fun i hi w3 hb3 R3 hR3 => ?_) (fun w3 hb3 => ?_)
        · obtain ⟨b, eb, hk⟩ := HK.out i hi
          rw [eb]
          exact join2_any w3 b _ (kind_at (HBW.out.trans (hb3.mono HBW.out.size)) hk.1 hk.2) (hR3 w3 (Below.refl _ _))
        · have H7 := Lib.hid (hS.out.below hb3)
          have HBW3 := Lib.hid (HBW.out.trans (hb3.mono HBW.out.size))
          clear hb3
          cases hany : anyTo (fun i => decide (Ty.kindOf (G.getD i Ty.nilT) = 5)) qs.length
          · rw [hany, if_neg (by simpa using H0.out)] at HR
            clear hany
            by_cases h1 : qs.length = 1
            · rw [if_pos h1] at HR
              have k1 : ((qs.length : Int) == 1) = true := by simp [h1]
              have hi2 : 0 < G.length := by have := HGL.out; omega
              have hrx := reps_at HG.out 0 hi2 hpos
              rw [getD_eq hi2] at HR
              obtain ⟨g5, cap5, e, hg5, d5⟩ := ptrs_at (H7.out.row 1 rfl) 0 hpos
              cases e
              have HRX := Lib.hid (rep_below hrx HBW3.out)
              generalize qs[0] = q0 at *
              clear h1 hrx
              go_wp2_with fail
              exact HR.out _ _ H7.out.isBelow HRX.out
            · rw [if_neg h1] at HR
              have k1 : ((qs.length : Int) == 1) = false := by simp; omega
              clear h1
              go_wp2_with fail
              have hB := H7.out.isBelow.trans (((Below.refl w3.heap.size w3).alloc (Nat.le_refl _) (.cells #[.int .i64 10, .slice none 0 0, .slice qa qs.length qc, .pointer none] 101)).mono H7.out.isBelow.size)
              have hr : Prt.row 47 1 (.slice qa qs.length qc) qs.length qs (Prt.hp (w3.alloc (.cells #[.int .i64 10, .slice none 0 0, .slice qa qs.length qc, .pointer none] 101))) := (H7.out.waste _).get (i := 1) rfl fun _ ha hl => row_le ha hl
              refine HR.out _ _ hB ?_
              exact rep_plain (k := 10) (heap_alloc_new w3 _) hr (reps_below HG.out (HBW3.out.trans (((Below.refl w3.heap.size w3).alloc (Nat.le_refl _) _).mono HBW3.out.size)))
          · rw [hany, if_pos (.inr rfl)] at HR
            clear hany
            go_wp2_with fail
            refine Plain_any _ 5 ?_
            have hB := H7.out.isBelow.trans (((Below.refl w3.heap.size w3).alloc (Nat.le_refl _) (.cells #[.int .i64 5, .slice none 0 0, .slice none 0 0, .pointer none] 101)).mono H7.out.isBelow.size)
            have HBB := Lib.hid hB
            clear hB
            go_wp2_with fail
            refine HR.out _ _ HBB.out ?_
            exact rep_plain (k := 5) (qs := []) (heap_alloc_new w3 _) ⟨rfl, .inl ⟨rfl, rfl⟩⟩ (by rw [reps])
end Go.Proofs.YtdlbhiaceheffaaGreatDoor

namespace Go.Proofs.YtdlbhiaceheffaaGreatDoor
open Go Go.RowKit
open Prt (Sat As blk pur exs star stars)
open Ty (Tr)

/-- What an older world held is held. -/
def Old (wb w : World) : Prop := ∀ k, k < wb.heap.size → w.heap[k]? = wb.heap[k]?
theorem Prt.Sat.isOld {w0 w wb : World} {L : List As} (h : Sat w0 w L) (i : Nat) (hi : L[i]? = some (Prt.oldA wb)) : Old wb w := by
  refine h.get hi fun a ha hl k hk => ?_
  have h1 := ha k hk
  rw [Array.getElem?_eq_getElem hk] at h1 ⊢
  exact hl _ _ h1
theorem Old.cell {wb w : World} (h : Old wb w) {b o : Nat} {v : Value} (hc : wb.cell? ⟨b, o, none⟩ = some v) : w.cell? ⟨b, o, none⟩ = some v := by
  by_cases hb : b < wb.heap.size
  · rw [← hc]; simp [World.cell?, h b hb]
  · rw [World.cell?, Array.getElem?_eq_none (by simpa using hb)] at hc; simp at hc
theorem Old.owns {wb w : World} (h : Old wb w) {B : Nat} {e : TypeId} {size : Nat} {v : Value} {n : Nat} {xs : List Value} (ho : wb.ownsRow B e size v n xs) : w.ownsRow B e size v n xs := by
  refine ⟨ho.1, ?_⟩
  rcases ho.2 with h1 | ⟨g, cap, cur, e1, e2, e3, e4⟩
  · exact .inl h1
  · exact .inr ⟨g, cap, cur, e1, e2, by rw [h g (Array.getElem?_eq_some_iff.1 e3).1]; exact e3, e4⟩
theorem Old.size {wb w : World} (h : Old wb w) : wb.heap.size ≤ w.heap.size := by
  refine Nat.le_of_not_lt fun hlt => ?_
  have h6 := h (wb.heap.size - 1) (by omega)
  rw [Array.getElem?_eq_none (by omega), Array.getElem?_eq_getElem (by omega)] at h6
  cases h6
def ArSpec (wb : World) (t : Tr) (p : Value) : Prop := ∀ (w0 w : World) (Fr : As) (lv : Value) (acc : List Ty.Ty), Sat w0 w [Fr, Prt.oldA wb, tyA lv acc] → acc.length + Ty.cnt t ≤ 1000000 → ∀ R : Ending → World → Prop,
  (∀ lv' w', Sat w0 w' [Fr, Prt.oldA wb, tyA lv' (Ty.put t acc).1] → R (.returned (.tuple #[lv', .int .i64 ((Ty.put t acc).2 : Nat)])) w') → Calls Tryz.prog 47 #[lv, p] w R
set_option maxRecDepth 100000 in
set_option maxHeartbeats 4000000 in
theorem arena_all (wb : World) : ∀ (N : Nat) (t : Tr), Ty.sz t < N → Ty.okT t → ∀ p, rep (Prt.hp wb) t p → ArSpec wb t p := by
  intro N
  induction N with
  | zero => intro t h; omega
  | succ N ih =>
    intro t hN hok p hrep w0 w Fr lv acc H hb R hR
    obtain ⟨kd, names, parts, list, of⟩ := t
    obtain ⟨b, pv, lsv, ov, ps, ls, os, rfl, hbb, c0, c1, c2, c3, hrowP, hnl, hps, hrowL, hls, hos, hov⟩ := rep_cells hrep
    obtain ⟨oa1, oa2, oa3, oa4, oa5, oa6⟩ := ok_parts hok
    have hold := H.isOld 1 rfl
    have HC0 := Lib.hid c0
    have HC2 := Lib.hid c2
    have HC3 := Lib.hid c3
    have hbw : b < w.heap.size := Nat.lt_of_lt_of_le hbb hold.size
    replace c0 := hold.cell c0
    replace c1 := hold.cell c1
    replace c2 := hold.cell c2
    replace c3 := hold.cell c3
    have hok1 := hok
    rw [Ty.okT] at hok1
    have hpl := reps_len hps
    have hll := reps_len hls
    have HCP : Hid (∀ j (hj : j < parts.length) (hj2 : j < ps.length), ArSpec wb parts[j] ps[j]) := fun j hj hj2 =>
      ih parts[j] (by have := Ty.sz_parts (List.getElem_mem hj) kd names list of; omega) (Ty.okL_mem hok1.2.2.2.2.2.2.2.1 _ (List.getElem_mem hj)) ps[j] (reps_at hps j hj hj2)
    have HCL : Hid (∀ j (hj : j < list.length) (hj2 : j < ls.length), ArSpec wb list[j] ls[j]) := fun j hj hj2 =>
      ih list[j] (by have := Ty.sz_list (List.getElem_mem hj) kd names parts of; omega) (Ty.okL_mem hok1.2.2.2.2.2.2.2.2.1 _ (List.getElem_mem hj)) ls[j] (reps_at hls j hj hj2)
    have HCO : Hid (os = [] ∧ of = [] ∧ ov = .pointer none ∨ ∃ (o : Tr) (pb : Nat), of = [o] ∧ ov = .pointer (some ⟨pb, 0, none⟩) ∧ ArSpec wb o (.pointer (some ⟨pb, 0, none⟩))) := by
      show _ ∨ _
      by_cases h8 : kd = 8 ∨ kd = 9
      · right
        have h1 := oa5 h8
        match of, h1 with
        | [o], _ =>
          rw [reps] at hos
          obtain ⟨q, qs, e1, h2, h3⟩ := hos
          rw [reps] at h3
          subst h3
          rw [e1] at hov
          rcases hov with ⟨h, _⟩ | h
          · cases h
          · cases h
            obtain ⟨pb, eb, _⟩ := rep_ptr h2
            subst eb
            exact ⟨o, pb, rfl, rfl, ih o (by have := Ty.sz_of (t := o) (l := [o]) (by simp) kd names parts list; omega) (Ty.okL_mem hok1.2.2.2.2.2.2.2.2.2 o (by simp)) _ h2⟩
      · left
        have h1 := oa6 (by omega) (by omega)
        subst h1
        rw [reps] at hos
        subst hos
        rcases hov with ⟨_, h⟩ | h
        · exact ⟨rfl, rfl, h⟩
        · cases h
    have HPT : Hid (∀ j (hj : j < ps.length), ∃ pb, ps[j] = .pointer (some ⟨pb, 0, none⟩)) := fun j hj => by
      obtain ⟨pb', e, _⟩ := rep_ptr (reps_at hps j (by omega) hj); exact ⟨pb', e⟩
    obtain ⟨fa, fc, rfl⟩ := owns_slice hrowP
    obtain ⟨la, lc, rfl⟩ := owns_slice hrowL
    have HRP := Lib.hid hrowP
    have HRL := Lib.hid hrowL
    rw [Ty.cnt] at hb
    rw [Ty.put] at hR
    have hS1 := steps_of parts acc
    generalize hPP : (fun k => Ty.putL (parts.take k) acc) = P at hS1
    have hS2 := steps_of list (P parts.length).1
    generalize hQQ : (fun k => Ty.putL (list.take k) (P parts.length).1) = Q at hS2
    have hP := hS1.all
    have hQ := hS2.all
    have hlP := Ty.putL_len parts acc
    have hlQ := Ty.putL_len list (P parts.length).1
    rw [← hP] at hlP hR
    rw [← hQ] at hlQ hR
    have HS1 := Lib.hid hS1
    have HS2 := Lib.hid hS2
    have HLP := Lib.hid hlP
    have HLQ := Lib.hid hlQ
    have HB := Lib.hid hb
    have HR := Lib.hid hR
    have HPL := Lib.hid hpl
    have HLL := Lib.hid hll
    have HNL := Lib.hid hnl
    have hp6 : ps.length ≤ 1000000 := by omega
    have hl6 : ls.length ≤ 1000000 := by omega
    obtain ⟨i0, ti, tz0, tz1, tz2⟩ := info_parts infoFd
    obtain ⟨j0, tj, uz0, uz1, uz2⟩ := info_parts infoInt
    obtain ⟨l0, tl, vz0, vz1, vz2⟩ := info_parts infoTy
    have h1 := H.allocAt (.cells #[.int .i64 kd, .slice none 0 0, .slice none 0 0, .int .i64 0] 77) w.heap.size
    have h2 := (h1.nil 82 2).pick [0, 1, 2, 3, 4]
    have h3 := h2.ent (i := 2) rfl (Q := tyA lv (P 0).1) (fun _ h => by rw [hS1.zero]; exact h)
    have h4 := h3.ent (i := 4) rfl (Q := fdA (.slice none 0 0) ((names.take 0).zip (P 0).2)) (fun _ h => by rw [hS1.zero]; exact h)
    have H4 := Lib.hid h4
    clear hPP hQQ ih hrep H hR hok hok1 oa1 oa2 oa3 oa4 oa5 oa6 hrowP hrowL hps hls hos hov hS1 hS2 hP hQ hlP hlQ hb hpl hll hnl h1 h2 h3 h4 hold hN
    go_enter Tryz.func47, Tryz.ntmps47
    go_wp2_with fail
    go_loopw [0, 22] (fun l i wr => ∃ (k : Nat) (xf lk : Value), lk = l ∧ i = .int .i64 k ∧ k ≤ ps.length ∧ Hid (Sat w0 wr [Fr, Prt.oldA wb, tyA lk (P k).1, blk w.heap.size (.cells #[.int .i64 kd, xf, .slice none 0 0, .int .i64 0] 77 (0, 0)), fdA xf ((names.take k).zip (P k).2)]))
      (fun _ i _ => ps.length - (intOf i).toNat)
    case atStart => exact ⟨0, .slice none 0 0, lv, rfl, rfl, by omega, H4.out⟩
    case round =>
      obtain ⟨k, xf, lk, rfl, rfl, hk, hS⟩ := hrel
      have holdr := hS.out.isOld 1 rfl
      by_cases hlt : k < ps.length
      · obtain ⟨gf, capf, e, hgf, d0, d1⟩ := pas_at (holdr.owns HRP.out) HNL.out k hlt
        cases e
        obtain ⟨pp, hpp⟩ := HPT.out k hlt
        have hlk : k < parts.length := by have := HPL.out; omega
        have hnk : k < names.length := by have := HNL.out; omega
        have hsu := HS1.out.succ k hlk
        have hle := HS1.out.len k hlk
        have hnum := HS1.out.nums k (by omega)
        have HTK := Lib.hid (List.take_succ_eq_append_getElem hnk)
        have HIH0 := HCP.out k hlk hlt
        rw [hpp] at d1 HIH0
        have h7 := hS.out.allocAt (.cells #[.string (names[k]'hnk), .pointer (some ⟨pp, 0, none⟩)] 125) wr.heap.size
        have HIH := Lib.hid (HIH0 w0 _ _ _ _ ((Prt.Sat.pack (L := [_, _]) (M := [_, _, _, _]) (h7.pick [1, 2, 0, 3, 4, 5])).pick [2, 0, 1]) (by have := HB.out; have := HLP.out; omega))
        have HSU := Lib.hid hsu
        have hzl : ((names.take k).zip (P k).2).length = k := by rw [List.length_zip, hnum, List.length_take]; omega
        have HNM : Hid ((names.take k).length = (P k).2.length) := by show _ = _; rw [hnum, List.length_take]; omega
        generalize names[k]'hnk = nm at *
        generalize parts[k] = pt0 at *
        have HZL := Lib.hid hzl
        clear hlk hnk hsu hle hnum hzl hpp HIH0 h7
        go_wp2_with fail
        refine HIH.out _ (fun lv2 w2 h2 => ?_)
        generalize Ty.put pt0 (P k).1 = pt at *
        obtain ⟨pl, pn⟩ := pt
        dsimp only at h2 HSU ⊢
        have h3 := (h2.unpack (i := 0) rfl).pick [2, 0, 1, 3, 4, 5]
        obtain ⟨xa, xc, ex⟩ := owns_slice (h3.row 4 rfl)
        rw [HZL.out] at ex
        subst ex
        have z0 := h3.cell 5 rfl 0 rfl
        have y2 := h3.cell 3 rfl 1 rfl
        have fy := h3.free 3 rfl 1
        have hz3 := h3.lt 3 rfl
        have hz5 := h3.lt 5 rfl
        have hrow := h3.row 4 rfl
        rw [HZL.out] at hrow
        have HROW := Lib.hid hrow
        have H3 := Lib.hid h3
        clear h2 h3 hrow d0 d1
        go_wp2_with (at_builtin; go_loud (refine wpList_append_lies _ rfl (.tmp 34) (.tmp 39) 75 rfl 0 82 i0 _ 2 24 Tryz.underlying75 ti tz0 tz1 tz2 rfl (by decide) _ _ (((names.take k).zip (P k).2).flatMap fdCells) (by rfl) (HROW.out.alloc _) ⟨w2.heap.size, 0, none⟩ 1 1 [.string nm, .int .i64 (pn : Nat)] (by rfl) (by rfl) (World.news_of_block (cs := #[.string nm, .int .i64 (pn : Nat)]) (t := 82) (fr := (0, 0)) (heap_alloc_at' _ _ _ (by simp))) (by simp [Value.oneCell']) (by omega) (by unfold maxLen; omega) (by omega) (by simp) (w2.heap.size + 1) (by simp) ?_))
        intro g4 cap4 w4 hown4 hgrow4 hat4 hlt4
        have h4 := (Prt.Sat.grow (m := k + 1) (H3.out.waste _) 4 rfl hgrow4 hown4 (by simpa using hat4)).pick [0, 1, 2, 3, 4]
        have x5 := h4.cell 3 rfl 1 rfl
        have f5 := h4.free 3 rfl 1
        have h5 := h4.store 3 rfl 1 (.slice (some ⟨g4, 0, none⟩) (k + 1) cap4)
        have h6 := h5.ent (i := 4) rfl (Q := fdA (.slice (some ⟨g4, 0, none⟩) (k + 1) cap4) ((names.take (k + 1)).zip (P (k + 1)).2)) (fun _ h => by rw [HSU.out, HTK.out]; exact fdA_zip HNM.out (by rw [HZL.out]; exact h))
        have h7 := h6.ent (i := 2) rfl (Q := tyA lv2 (P (k + 1)).1) (fun _ h => by rw [HSU.out]; exact h)
        have H7 := Lib.hid h7
        clear h4 h5 h6 h7 hown4 hgrow4
        go_wp2_with fail
        go_roundw
        case rel => exact ⟨k + 1, .slice (some ⟨g4, 0, none⟩) (k + 1) cap4, lv2, rfl, by go_num, by omega, H7.out⟩
        case measure => simp [intOf]; omega
      · have hke : k = parts.length := by have := HPL.out; omega
        have h2 := hS.out
        rw [hke, List.take_of_length_le (by have := HNL.out; have := HPL.out; omega : names.length ≤ parts.length)] at h2
        have h3 := ((h2.nil 3 1).ent (i := 2) rfl (Q := tyA lk (Q 0).1) (fun _ h => by rw [HS2.out.zero]; exact h)).ent (i := 5) rfl (Q := inA (.slice none 0 0) (Q 0).2) (fun _ h => by rw [HS2.out.zero]; exact h)
        have H4 := Lib.hid h3
        have c2 := holdr.cell HC2.out
        have hbr : b < wr.heap.size := Nat.lt_of_lt_of_le hbb holdr.size
        clear h2 h3 hke hS c0 c1 c3
        go_wp2_with fail
        clear c2
        go_loopw [0, 48] (fun l i wr => ∃ (k : Nat) (xl lk : Value), lk = l ∧ i = .int .i64 k ∧ k ≤ ls.length ∧ Hid (Sat w0 wr [Fr, Prt.oldA wb, tyA lk (Q k).1, blk w.heap.size (.cells #[.int .i64 kd, xf, xl, .int .i64 0] 77 (0, 0)), fdA xf (names.zip (P parts.length).2), inA xl (Q k).2]))
          (fun _ i _ => ls.length - (intOf i).toNat)
        case atStart => exact ⟨0, .slice none 0 0, lk, rfl, rfl, by omega, H4.out⟩
        case round =>
          obtain ⟨k, xl, lk, rfl, rfl, hk, hS⟩ := hrel
          have holdr := hS.out.isOld 1 rfl
          by_cases hlt : k < ls.length
          · obtain ⟨gf, capf, e, hgf, d0⟩ := ptrs_at (holdr.owns HRL.out) k hlt
            cases e
            have hlk : k < list.length := by have := HLL.out; omega
            have hsu := HS2.out.succ k hlk
            have hle := HS2.out.len k hlk
            have hnum := HS2.out.nums k (by omega)
            have HIH := Lib.hid (HCL.out k hlk hlt w0 wr _ _ _ ((Prt.Sat.pack (L := [_, _]) (M := [_, _, _, _]) (hS.out.pick [1, 2, 0, 3, 4, 5])).pick [2, 0, 1]) (by have := HB.out; have := HLP.out; have := HLQ.out; omega))
            have HSU := Lib.hid hsu
            have HNL2 : Hid ((Q k).2.length = k) := hnum
            generalize ls[k] = pj at *
            generalize list[k] = tk at *
            clear hlk hsu hle hnum
            go_wp2_with fail
            refine HIH.out _ (fun lv2 w2 h2 => ?_)
            generalize Ty.put tk (Q k).1 = pt at *
            obtain ⟨pl, pn⟩ := pt
            dsimp only at h2 HSU ⊢
            have h3 := (h2.unpack (i := 0) rfl).pick [2, 0, 1, 3, 4, 5]
            obtain ⟨xa, xc, ex⟩ := owns_slice (h3.row 5 rfl)
            rw [HNL2.out] at ex
            subst ex
            have y2 := h3.cell 3 rfl 2 rfl
            have fy := h3.free 3 rfl 2
            have hz4 := h3.lt 3 rfl
            have hrow := h3.row 5 rfl
            rw [HNL2.out] at hrow
            have HROW := Lib.hid hrow
            have H3 := Lib.hid h3
            clear h2 h3 hrow d0
            go_wp2_with (at_builtin; go_loud (refine wpList_append_lies _ rfl (.tmp 59) (.tmp 61) 49 rfl 0 3 j0 _ 1 8 Tryz.underlying49 tj uz0 uz1 uz2 rfl (by decide) _ _ ((Q k).2.map inCell) (by rfl) (HROW.out.alloc _) ⟨w2.heap.size, 0, none⟩ 1 1 [.int .i64 (pn : Nat)] (by rfl) (by rfl) (World.news_of_block (cs := #[.int .i64 (pn : Nat)]) (t := 3) (fr := (0, 0)) (heap_alloc_at' _ _ _ (by simp))) (by simp [Value.oneCell']) (by omega) (by unfold maxLen; omega) (by omega) (by simp) (w2.heap.size + 1) (by simp) ?_))
            intro g4 cap4 w4 hown4 hgrow4 hat4 hlt4
            have h4 := Prt.Sat.grow (m := k + 1) (H3.out.waste _) 5 rfl hgrow4 hown4 (by simpa using hat4)
            have x5 := h4.cell 3 rfl 2 rfl
            have f5 := h4.free 3 rfl 2
            have h5 := h4.store 3 rfl 2 (.slice (some ⟨g4, 0, none⟩) (k + 1) cap4)
            have h6 := h5.ent (i := 5) rfl (Q := inA (.slice (some ⟨g4, 0, none⟩) (k + 1) cap4) (Q (k + 1)).2) (fun _ h => by rw [HSU.out]; exact inA_snoc (by rw [HNL2.out]; exact h))
            have h7 := h6.ent (i := 2) rfl (Q := tyA lv2 (Q (k + 1)).1) (fun _ h => by rw [HSU.out]; exact h)
            have H7 := Lib.hid h7
            clear h4 h5 h6 h7 hown4 hgrow4
            go_wp2_with fail
            go_roundw
            case rel => exact ⟨k + 1, .slice (some ⟨g4, 0, none⟩) (k + 1) cap4, lv2, rfl, by go_num, by omega, H7.out⟩
            case measure => simp [intOf]; omega
          · have hke : k = list.length := by have := HLL.out; omega
            have h0 := hS.out
            rw [hke] at h0
            generalize names.zip (P parts.length).2 = FL at h0 HR
            generalize (Q list.length).2 = NL at h0 HR
            have HS0 := Lib.hid h0
            clear h0
            have c3 := holdr.cell HC3.out
            have hbr2 : b < wr.heap.size := Nat.lt_of_lt_of_le hbb holdr.size
            rcases HCO.out with ⟨_, rfl, rfl⟩ | ⟨o, pb, rfl, rfl, hspec⟩
            · have hplb : (Q list.length).1.length ≤ 1000000 := by have := HB.out; have := HLP.out; have := HLQ.out; omega
              rw [Ty.putL] at HR
              dsimp only [List.headD] at HR
              have h4 := HS0.out
              obtain ⟨rows2, h5⟩ := h4.ex (i := 2) rfl
              have h5 := h5.unpack (i := 2) rfl
              have hr2 := h5.pure 5 rfl
              obtain ⟨a2, cap2, rfl⟩ := owns_slice (h5.row 6 rfl)
              obtain ⟨xa, xc, rfl⟩ := owns_slice (h5.row 3 rfl)
              obtain ⟨ya, yc, rfl⟩ := owns_slice (h5.row 4 rfl)
              have z0 := h5.cell 2 rfl 0 rfl
              have z1 := h5.cell 2 rfl 1 rfl
              have z2 := h5.cell 2 rfl 2 rfl
              have z3 := h5.cell 2 rfl 3 rfl
              have HROW := Lib.hid (h5.row 6 rfl)
              have H5 := Lib.hid h5
              have HR2 := Lib.hid hr2
              clear h5 hr2
              go_wp2_with (at_builtin; go_loud (refine wpList_append_lies _ rfl (.tmp 80) (.tmp 82) 31 rfl 0 77 l0 _ 4 64 Tryz.underlying31 tl vz0 vz1 vz2 rfl (by decide) _ _ (rows2.flatMap tyCells) (by rfl) (HROW.out.alloc _) ⟨wr.heap.size, 0, none⟩ 1 1 [.int .i64 kd, .slice xa FL.length xc, .slice ya NL.length yc, .int .i64 0] (by rfl) (by rfl) (World.news_of_block (cs := #[.int .i64 kd, .slice xa FL.length xc, .slice ya NL.length yc, .int .i64 0]) (t := 77) (fr := (0, 0)) (heap_alloc_at' _ _ _ (by simp))) (by simp [Value.oneCell']) (by omega) (by unfold maxLen; omega) (by omega) (by simp) (wr.heap.size + 1) (by simp) ?_))
              intro g6 cap6 w6 hown6 hgrow6 hat6 hlt6
              have h6 := (Prt.Sat.grow (m := (Q list.length).1.length + 1) (H5.out.waste _) 6 rfl hgrow6 hown6 (by simpa using hat6)).pick [0, 1, 6, 7, 3, 4]
              have h7 := (Prt.Sat.pack (L := [_, _]) (M := [_, _, _, _]) h6).ent (i := 2) rfl (Q := tyA (.slice (some ⟨g6, 0, none⟩) ((Q list.length).1.length + 1) cap6) ((Q list.length).1 ++ [⟨kd, FL, NL, 0⟩])) (fun _ h => tyA_snoc (acc := (Q list.length).1) (t := ⟨kd, FL, NL, 0⟩) (rows := rows2) (fv := .slice xa FL.length xc) (lv := .slice ya NL.length yc) HR2.out h)
              have H7 := Lib.hid h7
              clear h6 h7 hown6 hgrow6
              go_wp2_with fail
              exact HR.out _ _ H7.out
            · have HIH := Lib.hid (hspec w0 wr _ _ _ ((Prt.Sat.pack (L := [_, _]) (M := [_, _, _, _]) (HS0.out.pick [1, 2, 0, 3, 4, 5])).pick [2, 0, 1]) (by have := HB.out; rw [Ty.cntL, Ty.cntL] at this; have := HLP.out; have := HLQ.out; omega))
              rw [Ty.putL, Ty.putL] at HR
              clear hspec
              go_wp2_with fail
              refine HIH.out _ (fun lv2 w2 h2 => ?_)
              dsimp only [List.headD] at HR
              have hpl := Ty.put_len o (Q list.length).1
              generalize Ty.put o (Q list.length).1 = pt at *
              obtain ⟨pl, pn⟩ := pt
              dsimp only at h2 HR hpl ⊢
              have h3 := (h2.unpack (i := 0) rfl).pick [2, 0, 1, 3, 4, 5]
              have hplb : pl.length ≤ 1000000 := by have := HB.out; rw [Ty.cntL, Ty.cntL] at this; have := HLP.out; have := HLQ.out; omega
              have y3 := h3.cell 3 rfl 3 rfl
              have fy := h3.free 3 rfl 3
              have hz4 := h3.lt 3 rfl
              have H3 := Lib.hid h3
              clear h2 h3 hpl
              go_upto_region 17 with fail
              have h4 := H3.out.store 3 rfl 3 (.int .i64 (pn : Nat))
              obtain ⟨rows2, h5⟩ := h4.ex (i := 2) rfl
              have h5 := h5.unpack (i := 2) rfl
              have hr2 := h5.pure 5 rfl
              obtain ⟨a2, cap2, rfl⟩ := owns_slice (h5.row 6 rfl)
              obtain ⟨xa, xc, rfl⟩ := owns_slice (h5.row 3 rfl)
              obtain ⟨ya, yc, rfl⟩ := owns_slice (h5.row 4 rfl)
              have z0 := h5.cell 2 rfl 0 rfl
              have z1 := h5.cell 2 rfl 1 rfl
              have z2 := h5.cell 2 rfl 2 rfl
              have z3 := h5.cell 2 rfl 3 rfl
              have HROW := Lib.hid (h5.row 6 rfl)
              have H5 := Lib.hid h5
              have HR2 := Lib.hid hr2
              clear h5 hr2
              go_wp2_with (at_builtin; go_loud (refine wpList_append_lies _ rfl (.tmp 80) (.tmp 82) 31 rfl 0 77 l0 _ 4 64 Tryz.underlying31 tl vz0 vz1 vz2 rfl (by decide) _ _ (rows2.flatMap tyCells) (by rfl) (HROW.out.alloc _) ⟨w2.heap.size, 0, none⟩ 1 1 [.int .i64 kd, .slice xa FL.length xc, .slice ya NL.length yc, .int .i64 (pn : Nat)] (by rfl) (by rfl) (World.news_of_block (cs := #[.int .i64 kd, .slice xa FL.length xc, .slice ya NL.length yc, .int .i64 (pn : Nat)]) (t := 77) (fr := (0, 0)) (heap_alloc_at' _ _ _ (by simp))) (by simp [Value.oneCell']) (by omega) (by unfold maxLen; omega) (by omega) (by simp) (w2.heap.size + 1) (by simp) ?_))
              intro g6 cap6 w6 hown6 hgrow6 hat6 hlt6
              have h6 := (Prt.Sat.grow (m := pl.length + 1) (H5.out.waste _) 6 rfl hgrow6 hown6 (by simpa using hat6)).pick [0, 1, 6, 7, 3, 4]
              have h7 := (Prt.Sat.pack (L := [_, _]) (M := [_, _, _, _]) h6).ent (i := 2) rfl (Q := tyA (.slice (some ⟨g6, 0, none⟩) (pl.length + 1) cap6) (pl ++ [⟨kd, FL, NL, pn⟩])) (fun _ h => tyA_snoc (acc := pl) (t := ⟨kd, FL, NL, pn⟩) (rows := rows2) (fv := .slice xa FL.length xc) (lv := .slice ya NL.length yc) HR2.out h)
              have H7 := Lib.hid h7
              clear h6 h7 hown6 hgrow6
              go_wp2_with fail
              exact HR.out _ _ H7.out
end Go.Proofs.YtdlbhiaceheffaaGreatDoor
