/- Types in memory: lists of types that are read, and trees. -/
import Derived.Test.YtdlbhiaceheffabGreatDoorY12
import Derived.Test.YtdlbhiaceheffabGreatDoorY04
set_option linter.all false
namespace Go.Proofs.YtdlbhiaceheffabGreatDoor
section
open Go Go.RowKit
open Prt (Sat As blk pur exs star ah)
open Ty (Tr)
structure TyRd (w : World) (v : Value) (rows : List TyRow) : Prop where
 row : w.ownsRow 0 69 4 v rows.length (rows.flatMap bK)
 bits : ∀ r ∈ rows, w.ownsRow 0 141 2 r.fv r.t.fields.length (r.t.fields.flatMap jb) ∧ w.ownsRow 0 3 1 r.lv r.t.list.length (r.t.list.map aA)
theorem TyRd.below {w w' : World} {v : Value} {rows : List TyRow} (h : TyRd w v rows) (hb : Below w.heap.size w w') : TyRd w' v rows :=
 ⟨aH h.row hb, fun r hr => ⟨aH (h.bits r hr).1 hb, aH (h.bits r hr).2 hb⟩⟩
theorem kR {e : TypeId} {size : Nat} {v : Value} {n : Nat} {xs : List Value} {a b : Prt.Hp} (h : Prt.row e size v n xs a) (hl : Prt.le a b) : Prt.row e size v n xs b := by
 refine ⟨h.1, ?_⟩
 rcases h.2 with h2 | ⟨g, cap, cur, e1, e2, e3⟩
 · exact .inl h2
 · exact .inr ⟨g, cap, cur, e1, hl _ _ e2, e3⟩
theorem iD {e : TypeId} {size : Nat} {v : Value} {n : Nat} {xs : List Value} {w : World} (h : Prt.row e size v n xs (Prt.hp w)) : w.ownsRow 0 e size v n xs := by
 refine ⟨h.1, ?_⟩
 rcases h.2 with h2 | ⟨g, cap, cur, e1, e2, e3⟩
 · exact .inl h2
 · exact .inr ⟨g, cap, cur, e1, Nat.zero_le _, e2, e3⟩
theorem mW : ∀ {L : List As} {a : Prt.Hp}, ah L a → ∀ P ∈ L, ∃ b, Prt.le b a ∧ P b := by
 intro L
 induction L with
 | nil => intro a _ P hP; simp at hP
 | cons Q L ih =>
   intro a h P hP
   obtain ⟨x, y, h1, h2, h3, h4, h5⟩ := h
   rcases List.mem_cons.1 hP with rfl | hP
   · exact ⟨x, h2, h4⟩
   · obtain ⟨b, hb, hp⟩ := ih h5 P hP
     exact ⟨b, Prt.le_trans hb h3, hp⟩
theorem Prt.Sat.zQ {w0 w : World} {L : List As} (h : Sat w0 w L) (i : Nat) {v : Value} {ts : List Ty.Ty} (hi : L[i]? = some (tyA v ts)) : ∃ rows, rows.map TyRow.t = ts ∧ TyRd w v rows := by
 refine h.get hi fun a ha hl => ?_
 obtain ⟨rows, x, y, _, hx, hy, hr, z, u, _, hz, hu, h1, h2⟩ := ha
 refine ⟨rows, hr, ?_⟩
 obtain ⟨q, _, _, hq, _, hbits, _⟩ := h2
 have hlen : rows.length = ts.length := by have := congrArg List.length (show rows.map TyRow.t = ts from hr); simpa using this
 have hle1 : Prt.le z (Prt.hp w) := Prt.le_trans hz (Prt.le_trans hy hl)
 have hle2 : Prt.le q (Prt.hp w) := Prt.le_trans hq (Prt.le_trans hu (Prt.le_trans hy hl))
 refine ⟨?_, fun r hrm => ?_⟩
 · rw [hlen]; exact iD (kR h1 hle1)
 · obtain ⟨b, hb, hp⟩ := mW hbits _ (List.mem_map_of_mem hrm)
   obtain ⟨c, d, _, hc, hd, p1, p2⟩ := hp
   exact ⟨iD (kR p1 (Prt.le_trans hc (Prt.le_trans hb hle2))), iD (kR p2 (Prt.le_trans hd (Prt.le_trans hb hle2)))⟩
theorem kK (rows : List TyRow) (k : Nat) (h : k < rows.length) (j : Nat) (hj : j < 4) : (rows.flatMap bK)[k * 4 + j]? = (bK rows[k])[j]? := by
 induction rows generalizing k with
 | nil => simp at h
 | cons a l ih =>
   cases k with
   | zero => simp only [List.flatMap_cons, List.getElem_cons_zero]; rw [List.getElem?_append_left (by simp [bK]; omega)]; simp
   | succ k =>
     have := ih k (by simpa using h)
     simp only [List.flatMap_cons, List.getElem_cons_succ]
     rw [List.getElem?_append_right (by simp [bK]; omega), show (k + 1) * 4 + j - (bK a).length = k * 4 + j by simp [bK]; omega]
     exact this
theorem TyRd.at {w : World} {v : Value} {rows : List TyRow} (h : TyRd w v rows) (hne : 0 < rows.length) :
   ∃ g cap : Nat, v = .slice (some ⟨g, 0, none⟩) rows.length cap ∧ g < w.heap.size ∧ rows.length ≤ cap ∧ cap ≤ maxLen ∧ ∀ k (hk : k < rows.length), w.cell? ⟨g, k * 4, none⟩ = some (.int .i64 rows[k].t.kind) ∧ w.cell? ⟨g, k * 4 + 1, none⟩ = some rows[k].fv ∧ w.cell? ⟨g, k * 4 + 2, none⟩ = some rows[k].lv ∧ w.cell? ⟨g, k * 4 + 3, none⟩ = some (.int .i64 rows[k].t.of) := by
 have hc := fun g => World.ownsRow.cells (g := g) h.row
 have hlt := World.ownsRow.lt h.row
 rcases h.row.2 with ⟨_, h0⟩ | ⟨g, cap, cur, rfl, hg, hh, hn, hm, _⟩
 · omega
 · refine ⟨g, cap, rfl, (hlt g rfl).2, hn, hm, fun k hk => ?_⟩
   have e : ∀ j, (⟨g, 0, none⟩ : Addr).add j = ⟨g, j, none⟩ := fun j => by unfold Addr.add; split <;> simp_all
   refine ⟨?_, ?_, ?_, ?_⟩
   · rw [← e]; exact hc g rfl _ _ ((kK rows k hk 0 (by omega)).trans rfl)
   · rw [← e]; exact hc g rfl _ _ ((kK rows k hk 1 (by omega)).trans rfl)
   · rw [← e]; exact hc g rfl _ _ ((kK rows k hk 2 (by omega)).trans rfl)
   · rw [← e]; exact hc g rfl _ _ ((kK rows k hk 3 (by omega)).trans rfl)
theorem ints_at {w : World} {v : Value} {l : List Nat} (h : w.ownsRow 0 3 1 v l.length (l.map aA)) (k : Nat) (hk : k < l.length) : ∃ g cap : Nat, v = .slice (some ⟨g, 0, none⟩) l.length cap ∧ g < w.heap.size ∧ w.cell? ⟨g, k, none⟩ = some (.int .i64 (l[k] : Nat)) := by
 obtain ⟨g, cap, rfl, _, hg⟩ := h.form (by omega)
 refine ⟨g, cap, rfl, hg, ?_⟩
 have := World.ownsRow.cells h (g := g) rfl k (aA l[k]) (by simp [hk])
 rwa [Addr.add_lit, Nat.zero_add] at this
end
end Go.Proofs.YtdlbhiaceheffabGreatDoor
