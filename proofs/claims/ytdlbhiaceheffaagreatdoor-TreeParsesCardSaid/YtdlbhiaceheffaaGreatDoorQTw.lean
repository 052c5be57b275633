/- Types in memory: lists of types that are read, and trees. Walks of types.Plain and types.Of. -/
import Derived.Test.YtdlbhiaceheffaaGreatDoorQPsC
import Derived.Test.YtdlbhiaceheffaaGreatDoorQPlainB
namespace Go.Proofs.YtdlbhiaceheffaaGreatDoor
open Go Go.RowKit
open Prt (Sat As blk pur exs star stars)
open Ty (Tr)

/-- A list of types that is read: with what it leads to. -/
structure TyRd (w : World) (v : Value) (rows : List TyRow) : Prop where
  row : w.ownsRow 0 77 4 v rows.length (rows.flatMap tyCells)
  bits : ∀ r ∈ rows, w.ownsRow 0 82 2 r.fv r.t.fields.length (r.t.fields.flatMap fdCells) ∧ w.ownsRow 0 3 1 r.lv r.t.list.length (r.t.list.map inCell)
theorem TyRd.below {w w' : World} {v : Value} {rows : List TyRow} (h : TyRd w v rows) (hb : Below w.heap.size w w') : TyRd w' v rows :=
  ⟨owns_below h.row hb, fun r hr => ⟨owns_below (h.bits r hr).1 hb, owns_below (h.bits r hr).2 hb⟩⟩
theorem row_le {e : TypeId} {size : Nat} {v : Value} {n : Nat} {xs : List Value} {a b : Prt.Hp} (h : Prt.row e size v n xs a) (hl : Prt.le a b) : Prt.row e size v n xs b := by
  refine ⟨h.1, ?_⟩
  rcases h.2 with h2 | ⟨g, cap, cur, e1, e2, e3⟩
  · exact .inl h2
  · exact .inr ⟨g, cap, cur, e1, hl _ _ e2, e3⟩
theorem row_owns {e : TypeId} {size : Nat} {v : Value} {n : Nat} {xs : List Value} {w : World} (h : Prt.row e size v n xs (Prt.hp w)) : w.ownsRow 0 e size v n xs := by
  refine ⟨h.1, ?_⟩
  rcases h.2 with h2 | ⟨g, cap, cur, e1, e2, e3⟩
  · exact .inl h2
  · exact .inr ⟨g, cap, cur, e1, Nat.zero_le _, e2, e3⟩
theorem stars_mem : ∀ {L : List As} {a : Prt.Hp}, stars L a → ∀ P ∈ L, ∃ b, Prt.le b a ∧ P b := by
  intro L
  induction L with
  | nil => intro a _ P hP; simp at hP
  | cons Q L ih =>
    intro a h P hP
    obtain ⟨x, y, h1, h2, h3, h4, h5⟩ := h
    rcases List.mem_cons.1 hP with rfl | hP
    · exact ⟨x, h2, h4⟩
    · obtain ⟨b, hb, hp⟩ := ih h5 P hP
      exact ⟨b, Prt.le_trans hb h3, hp⟩
/-- What a list of types shows. -/
theorem Prt.Sat.tyRd {w0 w : World} {L : List As} (h : Sat w0 w L) (i : Nat) {v : Value} {ts : List Ty.Ty} (hi : L[i]? = some (tyA v ts)) : ∃ rows, rows.map TyRow.t = ts ∧ TyRd w v rows := by
  refine h.get hi fun a ha hl => ?_
  obtain ⟨rows, x, y, _, hx, hy, hr, z, u, _, hz, hu, h1, h2⟩ := ha
  refine ⟨rows, hr, ?_⟩
  obtain ⟨q, _, _, hq, _, hbits, _⟩ := h2
  have hlen : rows.length = ts.length := by have := congrArg List.length (show rows.map TyRow.t = ts from hr); simpa using this
  have hle1 : Prt.le z (Prt.hp w) := Prt.le_trans hz (Prt.le_trans hy hl)
  have hle2 : Prt.le q (Prt.hp w) := Prt.le_trans hq (Prt.le_trans hu (Prt.le_trans hy hl))
  refine ⟨?_, fun r hrm => ?_⟩
  · rw [hlen]; exact row_owns (row_le h1 hle1)
  · obtain ⟨b, hb, hp⟩ := stars_mem hbits _ (List.mem_map_of_mem hrm)
    obtain ⟨c, d, _, hc, hd, p1, p2⟩ := hp
    exact ⟨row_owns (row_le p1 (Prt.le_trans hc (Prt.le_trans hb hle2))), row_owns (row_le p2 (Prt.le_trans hd (Prt.le_trans hb hle2)))⟩
theorem ty_flat (rows : List TyRow) (k : Nat) (h : k < rows.length) (j : Nat) (hj : j < 4) : (rows.flatMap tyCells)[k * 4 + j]? = (tyCells rows[k])[j]? := by
  induction rows generalizing k with
  | nil => simp at h
  | cons a l ih =>
    cases k with
    | zero => simp only [List.flatMap_cons, List.getElem_cons_zero]; rw [List.getElem?_append_left (by simp [tyCells]; omega)]; simp
    | succ k =>
      have := ih k (by simpa using h)
      simp only [List.flatMap_cons, List.getElem_cons_succ]
      rw [List.getElem?_append_right (by simp [tyCells]; omega), show (k + 1) * 4 + j - (tyCells a).length = k * 4 + j by simp [tyCells]; omega]
      exact this
/-- Its cells. -/
theorem TyRd.at {w : World} {v : Value} {rows : List TyRow} (h : TyRd w v rows) (hne : 0 < rows.length) :
    ∃ g cap : Nat, v = .slice (some ⟨g, 0, none⟩) rows.length cap ∧ g < w.heap.size ∧ rows.length ≤ cap ∧ cap ≤ maxLen ∧ ∀ k (hk : k < rows.length), w.cell? ⟨g, k * 4, none⟩ = some (.int .i64 rows[k].t.kind) ∧ w.cell? ⟨g, k * 4 + 1, none⟩ = some rows[k].fv ∧ w.cell? ⟨g, k * 4 + 2, none⟩ = some rows[k].lv ∧ w.cell? ⟨g, k * 4 + 3, none⟩ = some (.int .i64 rows[k].t.of) := by
  have hc := fun g => World.ownsRow.cells (g := g) h.row
  have hlt := World.ownsRow.lt h.row
  rcases h.row.2 with ⟨_, h0⟩ | ⟨g, cap, cur, rfl, hg, hh, hn, hm, _⟩
  · omega
  · refine ⟨g, cap, rfl, (hlt g rfl).2, hn, hm, fun k hk => ?_⟩
    have e : ∀ j, (⟨g, 0, none⟩ : Addr).add j = ⟨g, j, none⟩ := fun j => by unfold Addr.add; split <;> simp_all
    refine ⟨?_, ?_, ?_, ?_⟩
    · rw [← e]; exact hc g rfl _ _ ((ty_flat rows k hk 0 (by omega)).trans rfl)
    · rw [← e]; exact hc g rfl _ _ ((ty_flat rows k hk 1 (by omega)).trans rfl)
    · rw [← e]; exact hc g rfl _ _ ((ty_flat rows k hk 2 (by omega)).trans rfl)
    · rw [← e]; exact hc g rfl _ _ ((ty_flat rows k hk 3 (by omega)).trans rfl)
/-- A row of numbers, at an index. -/
theorem ints_at {w : World} {v : Value} {l : List Nat} (h : w.ownsRow 0 3 1 v l.length (l.map inCell)) (k : Nat) (hk : k < l.length) : ∃ g cap : Nat, v = .slice (some ⟨g, 0, none⟩) l.length cap ∧ g < w.heap.size ∧ w.cell? ⟨g, k, none⟩ = some (.int .i64 (l[k] : Nat)) := by
  obtain ⟨g, cap, rfl, _, hg⟩ := h.form (by omega)
  refine ⟨g, cap, rfl, hg, ?_⟩
  have := World.ownsRow.cells h (g := g) rfl k (inCell l[k]) (by simp [hk])
  rwa [Addr.add_lit, Nat.zero_add] at this

def paCells : List ByteArray → List Value → List Value
  | n :: ns, p :: ps => .string n :: p :: paCells ns ps
  | _, _ => []
theorem paCells_snoc : ∀ (ns : List ByteArray) (ps : List Value) (n : ByteArray) (p : Value), ns.length = ps.length → paCells (ns ++ [n]) (ps ++ [p]) = paCells ns ps ++ [.string n, p]
  | [], [], _, _, _ => rfl
  | a :: ns, b :: ps, n, p, h => by simp [paCells, paCells_snoc ns ps n p (by simpa using h)]
mutual
/-- What is written as a tree lies in memory, from a pointer on. -/
def rep (h : Prt.Hp) : Tr → Value → Prop
  | .mk k names parts list of, p => ∃ (b : Nat) (pv lv ov : Value) (ps ls os : List Value), p = .pointer (some ⟨b, 0, none⟩) ∧ h b = some (.cells #[.int .i64 (k : Nat), pv, lv, ov] 101 (0, 0)) ∧
      Prt.row 125 2 pv ps.length (paCells names ps) h ∧ names.length = ps.length ∧ reps h parts ps ∧
      Prt.row 47 1 lv ls.length ls h ∧ reps h list ls ∧ reps h of os ∧ (os = [] ∧ ov = .pointer none ∨ os = [ov])
def reps (h : Prt.Hp) : List Tr → List Value → Prop
  | [], ps => ps = []
  | t :: l, ps => ∃ p ps', ps = p :: ps' ∧ rep h t p ∧ reps h l ps'
end
mutual
theorem rep_le {a b : Prt.Hp} (hl : Prt.le a b) : ∀ (t : Tr) (p : Value), rep a t p → rep b t p
  | .mk k names parts list of, p, h => by
    rw [rep] at h ⊢
    obtain ⟨bb, pv, lv, ov, ps, ls, os, h1, h2, h3, h4, h5, h6, h7, h8, h9⟩ := h
    exact ⟨bb, pv, lv, ov, ps, ls, os, h1, hl _ _ h2, row_le h3 hl, h4, reps_le hl parts ps h5, row_le h6 hl, reps_le hl list ls h7, reps_le hl of os h8, h9⟩
theorem reps_le {a b : Prt.Hp} (hl : Prt.le a b) : ∀ (l : List Tr) (ps : List Value), reps a l ps → reps b l ps
  | [], ps, h => by rw [reps] at h ⊢; exact h
  | t :: l, ps, h => by
    rw [reps] at h ⊢
    obtain ⟨p, ps', h1, h2, h3⟩ := h
    exact ⟨p, ps', h1, rep_le hl t p h2, reps_le hl l ps' h3⟩
end
theorem reps_snoc {h : Prt.Hp} : ∀ {l : List Tr} {ps : List Value} {t : Tr} {p : Value}, reps h l ps → rep h t p → reps h (l ++ [t]) (ps ++ [p])
  | [], ps, t, p, h1, h2 => by
    rw [reps] at h1; subst h1
    show reps h [t] [p]
    rw [reps]
    exact ⟨p, [], rfl, h2, by rw [reps]⟩
  | a :: l, ps, t, p, h1, h2 => by
    rw [reps] at h1
    obtain ⟨q, ps', rfl, h3, h4⟩ := h1
    show reps h (a :: (l ++ [t])) (q :: (ps' ++ [p]))
    rw [reps]
    exact ⟨q, _, rfl, h3, reps_snoc h4 h2⟩
theorem reps_len {h : Prt.Hp} : ∀ {l : List Tr} {ps : List Value}, reps h l ps → l.length = ps.length
  | [], ps, h1 => by rw [reps] at h1; subst h1; rfl
  | a :: l, ps, h1 => by
    rw [reps] at h1
    obtain ⟨q, ps', rfl, h3, h4⟩ := h1
    simp [reps_len h4]
theorem reps_at {h : Prt.Hp} : ∀ {l : List Tr} {ps : List Value}, reps h l ps → ∀ k (hk : k < l.length) (hk2 : k < ps.length), rep h l[k] ps[k]
  | [], ps, h1, k, hk, _ => by simp at hk
  | a :: l, ps, h1, k, hk, hk2 => by
    rw [reps] at h1
    obtain ⟨q, ps', rfl, h3, h4⟩ := h1
    cases k with
    | zero => exact h3
    | succ k => exact reps_at h4 k (by simpa using hk) (by simpa using hk2)
theorem rep_ptr {h : Prt.Hp} {t : Tr} {p : Value} (hr : rep h t p) : ∃ b, p = .pointer (some ⟨b, 0, none⟩) ∧ ∃ o, h b = some o := by
  cases t
  rw [rep] at hr
  obtain ⟨b, pv, lv, ov, ps, ls, os, h1, h2, _⟩ := hr
  exact ⟨b, h1, _, h2⟩
def treeA (p : Value) (t : Tr) : As := fun h => rep h t p
def treesA (ps : List Value) (l : List Tr) : As := fun h => reps h l ps
theorem Prt.Sat.tree {w0 w : World} {L : List As} (h : Sat w0 w L) (i : Nat) {p : Value} {t : Tr} (hi : L[i]? = some (treeA p t)) : rep (Prt.hp w) t p := h.get hi fun _ ha hl => rep_le hl t p ha
theorem rep_below {w w' : World} {t : Tr} {p : Value} (h : rep (Prt.hp w) t p) (hb : Below w.heap.size w w') : rep (Prt.hp w') t p :=
  rep_le (fun k o e => by show w'.heap[k]? = _; rw [hb.block k (Array.getElem?_eq_some_iff.1 e).1]; exact e) t p h
end Go.Proofs.YtdlbhiaceheffaaGreatDoor

namespace Go.Proofs.YtdlbhiaceheffaaGreatDoor
open Go Go.RowKit
open Prt (Sat As blk pur exs star stars)
open Ty (Tr)

theorem Plain_any (w : World) (k : Int) {R : Ending → World → Prop} (hR : R (.returned (.pointer (some ⟨w.heap.size, 0, none⟩))) (w.alloc (.cells #[.int .i64 k, .slice none 0 0, .slice none 0 0, .pointer none] 101))) :
    Calls Tryz.prog 53 #[.int .i64 k] w R := by
  have HR := Lib.hid hR
  clear hR
  go_enter Tryz.func53, Tryz.ntmps53
  go_wp2_with fail
  exact HR.out
theorem infoPa : (Tryz.prog.info? 125).map (fun i => (i.zero, i.size, i.bytes)) = some (some (.agg #[.string ⟨#[]⟩, .pointer none]), 2, 24) := by kernel_rfl
theorem infoTp : (Tryz.prog.info? 47).map (fun i => (i.zero, i.size, i.bytes)) = some (some (.pointer none), 1, 8) := by kernel_rfl
def OfSpec (v : Value) (rows : List TyRow) (ts : List Ty.Ty) (n : Nat) : Prop :=
  ∀ (w : World), TyRd w v rows → ∀ R : Ending → World → Prop,
    (∀ p w', Sat w w' [Prt.oldA w, treeA p (Ty.den ts n)] → R (.returned p) w') → Calls Tryz.prog 46 #[v, .int .i64 (n : Nat)] w R
theorem treesA_snoc {ps : List Value} {l : List Tr} {p : Value} {t : Tr} {a : Prt.Hp} (h : stars [treesA ps l, treeA p t] a) : treesA (ps ++ [p]) (l ++ [t]) a := by
  obtain ⟨x, y, _, hx, hy, h1, z, u, _, hz, _, h2, _⟩ := h
  exact reps_snoc (reps_le hx _ _ h1) (rep_le (Prt.le_trans hz hy) _ _ h2)
theorem paRow_snoc {v : Value} {ns : List ByteArray} {ps : List Value} {n : ByteArray} {p : Value} {a : Prt.Hp} (hl : ns.length = ps.length) (h : Prt.row 125 2 v (ps.length + 1) (paCells ns ps ++ [.string n, p]) a) : Prt.row 125 2 v (ps ++ [p]).length (paCells (ns ++ [n]) (ps ++ [p])) a := by
  rw [paCells_snoc ns ps n p hl, List.length_append]; exact h
theorem ptRow_snoc {v : Value} {ps : List Value} {p : Value} {a : Prt.Hp} (h : Prt.row 47 1 v (ps.length + 1) (ps ++ [p]) a) : Prt.row 47 1 v (ps ++ [p]).length (ps ++ [p]) a := by
  rw [List.length_append]; exact h
theorem rep_mk {b : Nat} {kd : Nat} {pv lv ov : Value} {ps ls os : List Value} {names : List ByteArray} {parts list of : List Tr} {a : Prt.Hp} (hn : names.length = ps.length) (ho : os = [] ∧ ov = .pointer none ∨ os = [ov])
    (h : stars [blk b (.cells #[.int .i64 (kd : Nat), pv, lv, ov] 101 (0, 0)), Prt.row 125 2 pv ps.length (paCells names ps), treesA ps parts, Prt.row 47 1 lv ls.length ls, treesA ls list, treesA os of] a) : treeA (.pointer (some ⟨b, 0, none⟩)) (.mk kd names parts list of) a := by
  obtain ⟨a1, r1, _, l1, m1, h1, a2, r2, _, l2, m2, h2, a3, r3, _, l3, m3, h3, a4, r4, _, l4, m4, h4, a5, r5, _, l5, m5, h5, a6, r6, _, l6, m6, h6, _⟩ := h
  show rep a (.mk kd names parts list of) _
  rw [rep]
  have k2 := Prt.le_trans l2 m1
  have n2 := Prt.le_trans m2 m1
  have k3 := Prt.le_trans l3 n2
  have n3 := Prt.le_trans m3 n2
  have k4 := Prt.le_trans l4 n3
  have n4 := Prt.le_trans m4 n3
  have k5 := Prt.le_trans l5 n4
  have n5 := Prt.le_trans m5 n4
  have k6 := Prt.le_trans l6 n5
  exact ⟨b, pv, lv, ov, ps, ls, os, rfl, l1 _ _ h1, row_le h2 k2, hn, reps_le k3 _ _ h3, row_le h4 k4, reps_le k5 _ _ h5, reps_le k6 _ _ h6, ho⟩
/-- The field of a list of types, at an index. -/
theorem fds_at {w : World} {v : Value} {l : List (ByteArray × Nat)} (h : w.ownsRow 0 82 2 v l.length (l.flatMap fdCells)) (k : Nat) (hk : k < l.length) : ∃ g cap : Nat, v = .slice (some ⟨g, 0, none⟩) l.length cap ∧ g < w.heap.size ∧ w.cell? ⟨g, k * 2, none⟩ = some (.string l[k].1) ∧ w.cell? ⟨g, k * 2 + 1, none⟩ = some (.int .i64 (l[k].2 : Nat)) := by
  obtain ⟨g, cap, rfl, _, hg⟩ := h.form (by omega)
  have key : ∀ (l : List (ByteArray × Nat)) (k : Nat) (hk : k < l.length), (l.flatMap fdCells)[k * 2]? = some (.string l[k].1) ∧ (l.flatMap fdCells)[k * 2 + 1]? = some (.int .i64 (l[k].2 : Nat)) := by
    intro l
    induction l with
    | nil => intro k hk; simp at hk
    | cons a l ih =>
      intro k hk
      cases k with
      | zero => simp [fdCells]
      | succ k =>
        have := ih k (by simpa using hk)
        simp only [List.flatMap_cons, List.getElem_cons_succ]
        refine ⟨?_, ?_⟩
        · rw [List.getElem?_append_right (by simp [fdCells]; omega), show (k + 1) * 2 - (fdCells a).length = k * 2 by simp [fdCells]; omega]; exact this.1
        · rw [List.getElem?_append_right (by simp [fdCells]; omega), show (k + 1) * 2 + 1 - (fdCells a).length = k * 2 + 1 by simp [fdCells]; omega]; exact this.2
  obtain ⟨k1, k2⟩ := key l k hk
  refine ⟨g, cap, rfl, hg, ?_, ?_⟩
  · have := World.ownsRow.cells h (g := g) rfl _ _ k1; rwa [Addr.add_lit, Nat.zero_add] at this
  · have := World.ownsRow.cells h (g := g) rfl _ _ k2; rwa [Addr.add_lit, Nat.zero_add] at this

set_option maxRecDepth 100000 in
set_option maxHeartbeats 2000000 in
theorem Of_any (v : Value) (rows : List TyRow) (ts : List Ty.Ty) (hts : rows.map TyRow.t = ts) (hw : Ty.Wf ts) (hlen : ts.length ≤ 300) : ∀ N n, n < N → n < ts.length → OfSpec v rows ts n := by
  intro N
  induction N with
  | zero => intro n h; omega
  | succ N ih =>
    intro n hN hn w hrd R hR
    have hrl : rows.length = ts.length := by rw [← hts]; simp
    obtain ⟨g, cap, rfl, hg, hcap, hcm, hcells⟩ := hrd.at (by omega)
    obtain ⟨q0, q1, q2, q3⟩ := hcells n (by omega)
    have hget : (rows.map TyRow.t)[n]? = some rows[n].t := by rw [List.getElem?_map, List.getElem?_eq_getElem (by omega)]; rfl
    rw [hts] at hget
    have hbits := hrd.bits rows[n] (List.getElem_mem _)
    have hwf := hw n _ hget
    have hden := Ty.den_eq hw hget
    have hcl : ∀ j, j < n → OfSpec (.slice (some ⟨g, 0, none⟩) rows.length cap) rows ts j := fun j hj => ih j (by omega) (by omega)
    have HC := Lib.hid hcl
    have HRD := Lib.hid hrd
    generalize rows[n] = r at *
    obtain ⟨⟨kd, fds, lst, of⟩, fv, lv⟩ := r
    dsimp only at q0 q1 q2 q3 hbits hwf hden
    obtain ⟨hb1, hb2⟩ := hbits
    obtain ⟨fa, fc, rfl⟩ := owns_slice hb1
    obtain ⟨la, lc, rfl⟩ := owns_slice hb2
    have HB1 := Lib.hid hb1
    have HB2 := Lib.hid hb2
    have HWF := Lib.hid hwf
    have HDEN := Lib.hid hden
    have HR := Lib.hid hR
    have hr3 : rows.length ≤ 300 := by omega
    have hn3 : n < rows.length := by omega
    obtain ⟨i0, ti, tz0, tz1, tz2⟩ := info_parts infoPa
    obtain ⟨j0, tj, uz0, uz1, uz2⟩ := info_parts infoTp
    clear ih hcells hget hwf hden hcl hrd hR hb1 hb2 hrl hts hw
    go_enter Tryz.func46, Tryz.ntmps46
    go_wp2_with fail
    have h1 := ((Prt.Sat.old w).allocAt (.cells #[.int .i64 kd, .slice fa fds.length fc, .slice la lst.length lc, .int .i64 of] 77) w.heap.size).allocAt (.cells #[.int .i64 (kd : Nat), .slice none 0 0, .slice none 0 0, .pointer none] 101) (w.heap.size + 1)
    have h2 := (h1.nil 125 2).triv (P := treesA [] []) (fun _ => by show reps _ [] []; rw [reps])
    have H2 := Lib.hid h2
    clear h1 h2
    refine Plain_any _ kd ?_
    go_wp2_with fail
    have hfl := HWF.out.lens.1
    have hll := HWF.out.lens.2
    dsimp only at hfl hll
    go_loopw [21] (fun i wr => ∃ (k : Nat) (pv : Value) (ps : List Value), i = .int .i64 k ∧ k ≤ fds.length ∧ ps.length ≤ k ∧ k ≤ ps.length ∧ Hid (Sat w wr [Prt.oldA w, blk w.heap.size (.cells #[.int .i64 kd, .slice fa fds.length fc, .slice la lst.length lc, .int .i64 of] 77 (0, 0)), blk (w.heap.size + 1) (.cells #[.int .i64 (kd : Nat), pv, .slice none 0 0, .pointer none] 101 (0, 0)), Prt.row 125 2 pv ps.length (paCells ((fds.take k).map Prod.fst) ps), treesA ps ((fds.take k).map fun f => Ty.den ts f.2)]))
      (fun i _ => fds.length - (intOf i).toNat)
    case atStart => exact ⟨0, .slice none 0 0, [], rfl, by omega, by simp, by simp, H2.out⟩
    case round =>
      obtain ⟨k, pv, ps, rfl, hk, hp1, hp2, hS⟩ := hrel
      obtain ⟨pa, pc, rfl⟩ := owns_slice (hS.out.row 3 rfl)
      by_cases hlt : k < fds.length
      · have hb := hS.out.isBelow
        obtain ⟨gf, capf, e, hgf, d0, d1⟩ := fds_at (owns_below HB1.out hb) k hlt
        cases e
        have hfj := HWF.out.fields fds[k] (List.getElem_mem _)
        have HT := Lib.hid (List.take_succ_eq_append_getElem hlt)
        have hrd1 := (HRD.out.below hb).below (((Below.refl wr.heap.size wr).alloc (Nat.le_refl _) (.cells #[.string fds[k].1, .int .i64 (fds[k].2 : Nat)] 82)).drew)
        have HIH := Lib.hid (HC.out fds[k].2 hfj _ hrd1)
        have h0 := (hS.out.allocAt (.cells #[.string fds[k].1, .int .i64 (fds[k].2 : Nat)] 82) wr.heap.size)
        generalize fds[k] = fd at *
        obtain ⟨nm, ix⟩ := fd
        dsimp only at d0 d1 hfj
        have x1 := h0.cell 2 rfl 1 rfl
        have y0 := h0.cell 5 rfl 0 rfl
        have y1 := h0.cell 5 rfl 1 rfl
        have H0 := Lib.hid h0.drew
        clear hb hrd1 h0 hS
        go_wp2_with fail
        go_region_law (first | (go_simp; go_at_call 46; refine HIH.out _ (fun p w2 h2 => ?_); obtain ⟨pb2, rfl, _⟩ := rep_ptr (h2.tree 1 rfl); have h3 := H0.out.join h2; have x3 := h3.cell 2 rfl 1 rfl; have y3 := h3.cell 5 rfl 0 rfl; have h3w := h3.waste (.cells #[.string nm, .pointer (some ⟨pb2, 0, none⟩)] 125); have x4 := h3w.cell 2 rfl 1 rfl; have y4 := h3w.cell 5 rfl 0 rfl; have H3 := Lib.hid h3; clear h2 h3 h3w) | (go_loud (refine step_append_lies _ (by rfl) _ _ _ (by rfl) 0 125 i0 _ 2 24 Tryz.underlying99 ti tz0 tz1 tz2 rfl (by omega) (.slice pa ps.length pc) ps.length (paCells ((fds.take k).map Prod.fst) ps) (by rfl) ((H3.out.row 3 rfl).alloc _) ⟨w2.heap.size, 0, none⟩ 1 1 [.string nm, .pointer (some ⟨pb2, 0, none⟩)] (by rfl) (by rfl) (World.news_of_block (cs := #[.string nm, .pointer (some ⟨pb2, 0, none⟩)]) (t := 125) (fr := (0, 0)) (heap_alloc_at' _ _ _ (by simp))) (by simp [Value.oneCell']) (by omega) (by unfold maxLen; omega) (by omega) (by simp) (w2.heap.size + 1) (by simp) ?_); intro g4 cap4 w4 hown4 hgrow4 hat4 hlt4; have h4 := Prt.Sat.grow (H3.out.waste _) 3 rfl hgrow4 hown4 (by simpa using hat4); have x5 := h4.cell 2 rfl 1 rfl; have f5 := h4.free 2 rfl 1; have H4 := Lib.hid h4; clear h4))
        all_goals
          clear hown4 hgrow4
          have hlen1 : ((fds.take k).map Prod.fst).length = ps.length := by simp; omega
          have h5 := (H4.out.store 2 rfl 1 (.slice (some ⟨g4, 0, none⟩) (ps.length + 1) cap4)).pick [0, 1, 2, 3, 4, 6]
          have h6 := h5.ent (i := 3) rfl (Q := Prt.row 125 2 (.slice (some ⟨g4, 0, none⟩) (ps.length + 1) cap4) (ps ++ [Value.pointer (some ⟨pb2, 0, none⟩)]).length (paCells ((fds.take (k + 1)).map Prod.fst) (ps ++ [Value.pointer (some ⟨pb2, 0, none⟩)]))) (fun _ h => by rw [HT.out, List.map_append]; exact paRow_snoc hlen1 h)
          have h7 := Prt.Sat.pack (L := [_, _, _, _]) (M := [_, _]) h6
          have h8 := h7.ent (i := 4) rfl (Q := treesA (ps ++ [Value.pointer (some ⟨pb2, 0, none⟩)]) ((fds.take (k + 1)).map fun f => Ty.den ts f.2)) (fun _ h => by rw [HT.out, List.map_append]; exact treesA_snoc h)
          have H8 := Lib.hid h8
          clear h5 h6 h7 h8 hlen1
          go_wp2_with fail
          go_roundw
          case rel => exact ⟨k + 1, .slice (some ⟨g4, 0, none⟩) (ps.length + 1) cap4, ps ++ [Value.pointer (some ⟨pb2, 0, none⟩)], by go_num, by omega, by simp; omega, by simp; omega, H8.out⟩
          case measure => simp [intOf]; omega
      · have hke : k = fds.length := by omega
        have h2 := (hS.out.nil 47 1).triv (P := treesA [] []) (fun _ => by show reps _ [] []; rw [reps])
        rw [hke, List.take_length] at h2
        have hlp : Hid ((fds.map Prod.fst).length = ps.length) := by show _ = _; simp; omega
        have H2 := Lib.hid h2
        have x0 := h2.cell 1 rfl 2 rfl
        clear h2 hke hS
        go_wp2_with fail
        go_loopw [45] (fun i wr => ∃ (j : Nat) (lv : Value) (ls : List Value), i = .int .i64 j ∧ j ≤ lst.length ∧ ls.length ≤ j ∧ j ≤ ls.length ∧ Hid (Sat w wr [Prt.oldA w, blk w.heap.size (.cells #[.int .i64 kd, .slice fa fds.length fc, .slice la lst.length lc, .int .i64 of] 77 (0, 0)), blk (w.heap.size + 1) (.cells #[.int .i64 (kd : Nat), .slice pa ps.length pc, lv, .pointer none] 101 (0, 0)), Prt.row 125 2 (.slice pa ps.length pc) ps.length (paCells (fds.map Prod.fst) ps), treesA ps (fds.map fun f => Ty.den ts f.2), Prt.row 47 1 lv ls.length ls, treesA ls ((lst.take j).map (Ty.den ts))]))
          (fun i _ => lst.length - (intOf i).toNat)
        case atStart => exact ⟨0, .slice none 0 0, [], rfl, by omega, by simp, by simp, H2.out⟩
        case round =>
          obtain ⟨j, lv, ls, rfl, hj, hq1, hq2, hS⟩ := hrel
          obtain ⟨qa, qc, rfl⟩ := owns_slice (hS.out.row 5 rfl)
          by_cases hlt : j < lst.length
          · have hb := hS.out.isBelow
            obtain ⟨gl, capl, e, hgl, d0⟩ := ints_at (owns_below HB2.out hb) j hlt
            cases e
            have hfj := HWF.out.list lst[j] (List.getElem_mem _)
            have HT := Lib.hid (List.take_succ_eq_append_getElem hlt)
            have hrd1 := (HRD.out.below hb).below ((Below.refl wr.heap.size wr).drew)
            have HIH := Lib.hid (HC.out lst[j] hfj _ hrd1)
            generalize lst[j] = ix at *
            have x1 := hS.out.cell 2 rfl 2 rfl
            have H0 := Lib.hid hS.out.drew
            clear hb hrd1 hS
            go_wp2_with fail
            go_region_law (first | (go_simp; go_at_call 46; refine HIH.out _ (fun p w2 h2 => ?_); obtain ⟨pb2, rfl, _⟩ := rep_ptr (h2.tree 1 rfl); have h3 := H0.out.join h2; have x3 := h3.cell 2 rfl 2 rfl; have h3w := h3.waste (.cells #[.pointer (some ⟨pb2, 0, none⟩)] 47); have x4 := h3w.cell 2 rfl 2 rfl; have H3 := Lib.hid h3; clear h2 h3 h3w) | (go_loud (refine step_append_lies _ (by rfl) _ _ _ (by rfl) 0 47 j0 _ 1 8 Tryz.underlying43 tj uz0 uz1 uz2 rfl (by omega) (.slice qa ls.length qc) ls.length ls (by rfl) ((H3.out.row 5 rfl).alloc _) ⟨w2.heap.size, 0, none⟩ 1 1 [.pointer (some ⟨pb2, 0, none⟩)] (by rfl) (by rfl) (World.news_of_block (cs := #[.pointer (some ⟨pb2, 0, none⟩)]) (t := 47) (fr := (0, 0)) (heap_alloc_at' _ _ _ (by simp))) (by simp [Value.oneCell']) (by omega) (by unfold maxLen; omega) (by omega) (by simp) (w2.heap.size + 1) (by simp) ?_); intro g4 cap4 w4 hown4 hgrow4 hat4 hlt4; have h4 := Prt.Sat.grow (H3.out.waste _) 5 rfl hgrow4 hown4 (by simpa using hat4); have x5 := h4.cell 2 rfl 2 rfl; have f5 := h4.free 2 rfl 2; have H4 := Lib.hid h4; clear h4))
            all_goals
              clear hown4 hgrow4
              have h5 := (H4.out.store 2 rfl 2 (.slice (some ⟨g4, 0, none⟩) (ls.length + 1) cap4))
              have h6 := h5.ent (i := 5) rfl (Q := Prt.row 47 1 (.slice (some ⟨g4, 0, none⟩) (ls.length + 1) cap4) (ls ++ [Value.pointer (some ⟨pb2, 0, none⟩)]).length (ls ++ [Value.pointer (some ⟨pb2, 0, none⟩)])) (fun _ h => ptRow_snoc h)
              have h7 := Prt.Sat.pack (L := [_, _, _, _, _, _]) (M := [_, _]) h6
              have h8 := h7.ent (i := 6) rfl (Q := treesA (ls ++ [Value.pointer (some ⟨pb2, 0, none⟩)]) ((lst.take (j + 1)).map (Ty.den ts))) (fun _ h => by rw [HT.out, List.map_append]; exact treesA_snoc h)
              have H8 := Lib.hid h8
              clear h5 h6 h7 h8
              go_wp2_with fail
              go_roundw
              case rel => exact ⟨j + 1, .slice (some ⟨g4, 0, none⟩) (ls.length + 1) cap4, ls ++ [Value.pointer (some ⟨pb2, 0, none⟩)], by go_num, by omega, by simp; omega, by simp; omega, H8.out⟩
              case measure => simp [intOf]; omega
          · have hke : j = lst.length := by omega
            have h2 := hS.out
            rw [hke, List.take_length] at h2
            have H2 := Lib.hid h2
            have x0 := h2.cell 1 rfl 0 rfl
            have x3 := h2.cell 1 rfl 3 rfl
            have hb := h2.isBelow
            have hrd1 := HRD.out.below hb
            clear h2 hke hS
            have hkc : ((kd : Int) == 8) = true ∨ ((kd : Int) == 8) = false ∧ ((kd : Int) == 9) = true ∨ (((kd : Int) == 8) = false ∧ ((kd : Int) == 9) = false) ∧ ¬ (kd = 8 ∨ kd = 9) := by
              by_cases e8 : kd = 8
              · left; simp [e8]
              · by_cases e9 : kd = 9
                · right; left; simp [e9]
                · right; right; simp; omega
            rcases hkc with k8 | ⟨k8, k9⟩ | ⟨⟨k8, k9⟩, hno⟩
            · have hkd : kd = 8 ∨ kd = 9 := .inl (by have := beq_iff_eq.1 k8; omega)
              have HIH := Lib.hid (HC.out of (HWF.out.of hkd) wr hrd1)
              have HK := Lib.hid hkd
              clear hkd hb hrd1
              go_wp2_with fail
              refine HIH.out _ (fun p w2 h3 => ?_)
              obtain ⟨pb2, rfl, _⟩ := rep_ptr (h3.tree 1 rfl)
              have h4 := H2.out.join h3
              have f4 := h4.free 2 rfl
              have z4 := h4.cell 2 rfl 3 rfl
              have H4 := Lib.hid h4
              clear h3 h4
              go_wp2_with fail
              have h5 := (H4.out.store 2 rfl 3 (.pointer (some ⟨pb2, 0, none⟩))).ent (i := 7) rfl (Q := treesA [Value.pointer (some ⟨pb2, 0, none⟩)] [Ty.den ts of]) (fun _ h => by show reps _ [_] [_]; rw [reps]; exact ⟨_, [], rfl, h, by rw [reps]⟩)
              have h6 := Prt.Sat.pack (L := [_]) (M := [_, _, _, _, _, _]) (h5.pick [0, 2, 3, 4, 5, 6, 7])
              refine HR.out _ _ (h6.ent (i := 1) rfl fun _ h => ?_)
              rw [HDEN.out, if_pos HK.out]
              exact rep_mk hlp.out (.inr rfl) h
            · have hkd : kd = 8 ∨ kd = 9 := .inr (by have := beq_iff_eq.1 k9; omega)
              have HIH := Lib.hid (HC.out of (HWF.out.of hkd) wr hrd1)
              have HK := Lib.hid hkd
              clear hkd hb hrd1
              go_wp2_with fail
              refine HIH.out _ (fun p w2 h3 => ?_)
              obtain ⟨pb2, rfl, _⟩ := rep_ptr (h3.tree 1 rfl)
              have h4 := H2.out.join h3
              have f4 := h4.free 2 rfl
              have z4 := h4.cell 2 rfl 3 rfl
              have H4 := Lib.hid h4
              clear h3 h4
              go_wp2_with fail
              have h5 := (H4.out.store 2 rfl 3 (.pointer (some ⟨pb2, 0, none⟩))).ent (i := 7) rfl (Q := treesA [Value.pointer (some ⟨pb2, 0, none⟩)] [Ty.den ts of]) (fun _ h => by show reps _ [_] [_]; rw [reps]; exact ⟨_, [], rfl, h, by rw [reps]⟩)
              have h6 := Prt.Sat.pack (L := [_]) (M := [_, _, _, _, _, _]) (h5.pick [0, 2, 3, 4, 5, 6, 7])
              refine HR.out _ _ (h6.ent (i := 1) rfl fun _ h => ?_)
              rw [HDEN.out, if_pos HK.out]
              exact rep_mk hlp.out (.inr rfl) h
            · have HK := Lib.hid hno
              clear hb hrd1 hno
              go_wp2_with fail
              have h5 := H2.out.triv (P := treesA [] []) (fun _ => by show reps _ [] []; rw [reps])
              have h6 := Prt.Sat.pack (L := [_]) (M := [_, _, _, _, _, _]) (h5.pick [0, 2, 3, 4, 5, 6, 7])
              refine HR.out _ _ (h6.ent (i := 1) rfl fun _ h => ?_)
              rw [HDEN.out, if_neg HK.out]
              exact rep_mk hlp.out (.inl ⟨rfl, rfl⟩) h
end Go.Proofs.YtdlbhiaceheffaaGreatDoor
