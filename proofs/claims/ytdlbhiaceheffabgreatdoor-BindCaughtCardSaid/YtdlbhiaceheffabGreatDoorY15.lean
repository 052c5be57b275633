/- Walk of types.open. -/
import Derived.Deep.RegionHeld3
import Derived.Deep.DeepCutAuto
import Derived.Deep.CutBlock
import Derived.Laws.Concat
import Derived.Lib.AppendStr
import Derived.Lib.Builder
import Derived.Deep.RegionLaw
import Derived.Test.YtdlbhiaceheffabGreatDoorY06
import Derived.Test.YtdlbhiaceheffabGreatDoorY14
set_option linter.all false
namespace Go.Proofs.YtdlbhiaceheffabGreatDoor
section
open Go Go.RowKit
open Prt (Sat As blk pur exs star ah)
open Ty (Tr)
def kU (w : World) (v : Value) (l : List ByteArray) : Prop := (∃ a cap, v = .slice a 0 cap ∧ l = []) ∨ ∃ b o cap, v = .slice (some ⟨b, o, none⟩) l.length cap ∧ ∀ k (hk : k < l.length), w.cell? ⟨b, o + k, none⟩ = some (.string l[k])
theorem kU.slice {w : World} {v : Value} {l : List ByteArray} (h : kU w v l) : ∃ a cap, v = .slice a l.length cap := by
 rcases h with ⟨a, cap, rfl, rfl⟩ | ⟨b, o, cap, rfl, _⟩
 · exact ⟨a, cap, rfl⟩
 · exact ⟨_, cap, rfl⟩
theorem cell_lt {w : World} {b o : Nat} {x : Value} (h : w.cell? ⟨b, o, none⟩ = some x) : b < w.heap.size := by
 refine Nat.lt_of_not_le fun hb => ?_
 unfold World.cell? at h
 rw [show w.heap[(⟨b, o, none⟩ : Addr).block]? = none from Array.getElem?_eq_none hb] at h
 simp at h
theorem kU.at {w : World} {v : Value} {l : List ByteArray} (h : kU w v l) (k : Nat) (hk : k < l.length) : ∃ b o cap : Nat, v = .slice (some ⟨b, o, none⟩) l.length cap ∧ b < w.heap.size ∧ w.cell? ⟨b, o + k, none⟩ = some (.string l[k]) := by
 rcases h with ⟨a, cap, rfl, rfl⟩ | ⟨b, o, cap, rfl, h⟩
 · simp at hk
 · exact ⟨b, o, cap, rfl, cell_lt (h k hk), h k hk⟩
theorem kU.below {w w' : World} {v : Value} {l : List ByteArray} (h : kU w v l) (hb : Below w.heap.size w w') : kU w' v l := by
 rcases h with h | ⟨b, o, cap, rfl, h⟩
 · exact .inl h
 · exact .inr ⟨b, o, cap, rfl, fun k hk => (hb.cell (p := ⟨b, o + k, none⟩) (cell_lt (h k hk))).trans (h k hk)⟩
end
section
open Go Go.RowKit
open Prt (Sat As blk pur exs star ah)
open Ty (Tr anyTo anyTo_iff anyTo_false)
def Dq (p q : Value) (w : World) (r : Bool) : Prop := ∀ w1, Below w.heap.size w w1 → ∀ R : Ending → World → Prop, (∀ w2, Below w1.heap.size w1 w2 → R (.returned (.bool r)) w2) → Calls Tryz.prog 249 #[p, q] w1 R
def sH (p q : Value) (w : World) (r : Bool) : Prop := ∀ w1, Below w.heap.size w w1 → ∀ R : Ending → World → Prop, (∀ w2, Below w1.heap.size w1 w2 → R (.returned (.bool r)) w2) → Calls Tryz.prog 301 #[p, q] w1 R
structure TAt (w : World) (b k : Nat) (a : Option Addr) (n c : Nat) (lv ov : Value) : Prop where
 lt : b < w.heap.size
 c0 : w.cell? ⟨b, 0, none⟩ = some (.int .i64 (k : Nat))
 c1 : w.cell? ⟨b, 1, none⟩ = some (.slice a n c)
 c2 : w.cell? ⟨b, 2, none⟩ = some lv
 c3 : w.cell? ⟨b, 3, none⟩ = some ov
theorem wG {w w' : World} (h : Below w.heap.size w w') {b o : Nat} {v : Value} (hc : w.cell? ⟨b, o, none⟩ = some v) : w'.cell? ⟨b, o, none⟩ = some v := by
 by_cases hb : b < w.heap.size
 · exact (h.cell (p := ⟨b, o, none⟩) hb).trans hc
 · rw [World.cell?, Array.getElem?_eq_none (by simpa using hb)] at hc; simp at hc
theorem TAt.below {w w' : World} {b k : Nat} {a : Option Addr} {n c : Nat} {lv ov : Value} (h : TAt w b k a n c lv ov) (hb : Below w.heap.size w w') : TAt w' b k a n c lv ov :=
 ⟨Nat.lt_of_lt_of_le h.lt hb.size, wG hb h.c0, wG hb h.c1, wG hb h.c2, wG hb h.c3⟩
theorem keepCell {w w' : World} (h : Below w.heap.size w w') {b o : Nat} {v : Value} (hc : w.cell? ⟨b, o, none⟩ = some v) : w'.cell? ⟨b, o, none⟩ = some v := by
 by_cases hb : b < w.heap.size
 · exact (h.cell (p := ⟨b, o, none⟩) hb).trans hc
 · rw [World.cell?, Array.getElem?_eq_none (by simpa using hb)] at hc; simp at hc
theorem Dq.mono {p q : Value} {w w1 : World} {r : Bool} (h : Dq p q w r) (hb : Below w.heap.size w w1) : Dq p q w1 r := fun w2 hb2 R hR => h w2 (hb.trans (hb2.mono hb.size)) R hR
theorem sH.mono {p q : Value} {w w1 : World} {r : Bool} (h : sH p q w r) (hb : Below w.heap.size w w1) : sH p q w1 r := fun w2 hb2 R hR => h w2 (hb.trans (hb2.mono hb.size)) R hR
structure RowAt (w : World) (g n : Nat) (r : TyRow) : Prop where
 q0 : w.cell? ⟨g, n * 4, none⟩ = some (.int .i64 r.t.kind)
 q1 : w.cell? ⟨g, n * 4 + 1, none⟩ = some r.fv
 q2 : w.cell? ⟨g, n * 4 + 2, none⟩ = some r.lv
 q3 : w.cell? ⟨g, n * 4 + 3, none⟩ = some (.int .i64 r.t.of)
theorem TyRd.look {w : World} {v : Value} {rows : List TyRow} {ts : List Ty.Ty} (h : TyRd w v rows) (hts : rows.map TyRow.t = ts) {n : Nat} (hn : n < ts.length) :
   ∃ (g cap : Nat) (r : TyRow), v = .slice (some ⟨g, 0, none⟩) ts.length cap ∧ g < w.heap.size ∧ ts.length ≤ cap ∧ cap ≤ maxLen ∧ ts[n]? = some r.t ∧ RowAt w g n r ∧ w.ownsRow 0 141 2 r.fv r.t.fields.length (r.t.fields.flatMap jb) ∧ w.ownsRow 0 3 1 r.lv r.t.list.length (r.t.list.map aA) := by
 have hl : rows.length = ts.length := by rw [← hts]; simp
 obtain ⟨g, cap, hv, hg, hc, hm, hcells⟩ := h.at (by omega)
 obtain ⟨q0, q1, q2, q3⟩ := hcells n (by omega)
 have hb := h.bits rows[n] (List.getElem_mem _)
 have hget : (rows.map TyRow.t)[n]? = some rows[n].t := by rw [List.getElem?_map, List.getElem?_eq_getElem (by omega)]; rfl
 rw [hts] at hget
 exact ⟨g, cap, rows[n], by rw [hv, hl], hg, by omega, hm, hget, ⟨q0, q1, q2, q3⟩, hb.1, hb.2⟩
def D8 (v : Value) (w : World) (a b : Nat) (r : Bool) : Prop := ∀ w1, Below w.heap.size w w1 → ∀ R : Ending → World → Prop, (∀ w2, Below w1.heap.size w1 w2 → R (.returned (.bool r)) w2) → Calls Tryz.prog 170 #[v, .int .i64 (a : Nat), .int .i64 (b : Nat)] w1 R
theorem D8.mono {v : Value} {w w1 : World} {a b : Nat} {r : Bool} (h : D8 v w a b r) (hb : Below w.heap.size w w1) : D8 v w1 a b r := fun w2 hb2 R hR => h w2 (hb.trans (hb2.mono hb.size)) R hR
def D7 (v : Value) (w : World) (a b : Nat) (r : Bool) : Prop := ∀ w1, Below w.heap.size w w1 → ∀ R : Ending → World → Prop, (∀ w2, Below w1.heap.size w1 w2 → R (.returned (.bool r)) w2) → Calls Tryz.prog 102 #[v, .int .i64 (a : Nat), .int .i64 (b : Nat)] w1 R
theorem D7.mono {v : Value} {w w1 : World} {a b : Nat} {r : Bool} (h : D7 v w a b r) (hb : Below w.heap.size w w1) : D7 v w1 a b r := fun w2 hb2 R hR => h w2 (hb.trans (hb2.mono hb.size)) R hR
end
section
open Go Go.RowKit
open Prt (Sat As blk pur exs star ah)
open Ty (Tr)
def jZ (v : Value) (rows : List TyRow) : As := ah [Prt.row 69 4 v rows.length (rows.flatMap bK), ah (rows.map dY)]
theorem yX {v : Value} {ts : List Ty.Ty} {a : Prt.Hp} (h : tyA v ts a) : exs (fun rows : List TyRow => star (pur (rows.map TyRow.t = ts)) (jZ v rows)) a := by
 obtain ⟨rows, x, y, h1, h2, h3, h4, h5⟩ := h
 refine ⟨rows, x, y, h1, h2, h3, h4, ?_⟩
 have e : ts.length = rows.length := by have := congrArg List.length (show rows.map TyRow.t = ts from h4); simpa using this.symm
 rw [e] at h5; exact h5
theorem Prt.Sat.rows {w0 w : World} {L : List As} (h : Sat w0 w L) (i : Nat) {v : Value} {ts : List Ty.Ty} (hi : L[i]? = some (tyA v ts)) : ∃ rows, rows.map TyRow.t = ts ∧ Sat w0 w (L.set i (jZ v rows)) := by
 have h1 := h.ent hi (Q := exs (fun rows : List TyRow => star (pur (rows.map TyRow.t = ts)) (jZ v rows))) (fun _ h => yX h)
 have hi2 : (L.set i (exs fun rows : List TyRow => star (pur (rows.map TyRow.t = ts)) (jZ v rows)))[i]? = some (exs fun rows : List TyRow => star (pur (rows.map TyRow.t = ts)) (jZ v rows)) := by
   rw [List.getElem?_set_self (Prt.Sat.kG hi)]
 obtain ⟨rows, h2⟩ := h1.ex hi2
 rw [List.set_set] at h2
 have hi3 : (L.set i (star (pur (rows.map TyRow.t = ts)) (jZ v rows)))[i]? = some (star (pur (rows.map TyRow.t = ts)) (jZ v rows)) := by
   rw [List.getElem?_set_self (Prt.Sat.kG hi)]
 have hp : rows.map TyRow.t = ts := h2.get hi3 fun a ha _ => by
   obtain ⟨_, _, _, _, _, h, _⟩ := ha; exact h
 have h3 := h2.ent hi3 (Q := jZ v rows) (fun a ha => by
   obtain ⟨x, y, _, _, hy, _, h⟩ := ha
   exact Prt.fA h hy)
 rw [List.set_set] at h3
 exact ⟨rows, hp, h3⟩
def Old (wb w : World) : Prop := ∀ k, k < wb.heap.size → w.heap[k]? = wb.heap[k]?
theorem Old.cell {wb w : World} (h : Old wb w) {b o : Nat} {v : Value} (hc : wb.cell? ⟨b, o, none⟩ = some v) : w.cell? ⟨b, o, none⟩ = some v := by
 by_cases hb : b < wb.heap.size
 · rw [← hc]; simp [World.cell?, h b hb]
 · rw [World.cell?, Array.getElem?_eq_none (by simpa using hb)] at hc; simp at hc
theorem Old.size {wb w : World} (h : Old wb w) : wb.heap.size ≤ w.heap.size := by
 refine Nat.le_of_not_lt fun hlt => ?_
 have h6 := h (wb.heap.size - 1) (by omega)
 rw [Array.getElem?_eq_none (by omega), Array.getElem?_eq_getElem (by omega)] at h6
 cases h6
def bs (l : List UInt8) : ByteArray := ⟨l.toArray⟩
def DR (v : Value) (w : World) (n : Nat) (r : List UInt8) : Prop := ∀ w1, Below w.heap.size w w1 → ∀ R : Ending → World → Prop, (∀ w2, Below w1.heap.size w1 w2 → R (.returned (.string (bs r))) w2) → Calls Tryz.prog 64 #[v, .int .i64 (n : Nat)] w1 R
theorem DR.below {v : Value} {w w1 : World} {n : Nat} {r : List UInt8} (h : DR v w n r) (hb : Below w.heap.size w w1) : DR v w1 n r :=
 fun _ h2 R hR => h _ (hb.trans (h2.mono hb.size)) R hR
end
section
open Go Go.RowKit
open Prt (Sat As blk pur exs star ah)
def FrB (wB : World) (Fr : As) : Prop := ∀ (w : World) (L : List As) (i : Nat), Sat wB w L → L[i]? = some Fr → Below wB.heap.size wB w
theorem FrB.old (wB : World) : FrB wB (Prt.bI wB) := fun w L i h hi => by
 have h1 := h.at i hi
 have h2 : Sat wB w [Prt.bI wB] := h1.pick [1]
 exact h2.gy
theorem FrB.ah {wB : World} {Fr : As} {M : List As} (h : FrB wB Fr) : FrB wB (ah (Fr :: M)) := fun w L i hs hi => by
 have h1 := hs.unpack hi
 refine h w _ (L.eraseIdx i).length h1 ?_
 rw [List.getElem?_append_right (Nat.le_refl _)]; simp
section
variable {w0 w : World} {Fr : As} {wb : Nat} {nv tv : Value} {main : Int} {ind : Nat} {out : List UInt8}
end
structure PB (wB : World) (nv tv : Value) (pg : Ty.Pg) : Prop where
 nd : ∃ rows, rows.map NdRow.t = pg.ns ∧ NRd wB nv rows
 ty : ∃ rows, rows.map TyRow.t = pg.ts ∧ TyRd wB tv rows
 ok : Ty.PgOk pg
theorem NdAt.below {w w' : World} {g n : Nat} {t : Ty.Nd} {lv : Value} (h : NdAt w g n t lv) (hb : Below w.heap.size w w') : NdAt w' g n t lv :=
 ⟨keepCell hb h.q0, keepCell hb h.q1, keepCell hb h.q2, keepCell hb h.q3, keepCell hb h.q4, keepCell hb h.q5, keepCell hb h.q6, keepCell hb h.q7, keepCell hb h.q8⟩
theorem PB.look {wB : World} {nv tv : Value} {pg : Ty.Pg} (h : PB wB nv tv pg) {n : Nat} {nd : Ty.Nd} (hn : pg.ns[n]? = some nd) :
   ∃ (g cap : Nat) (lv : Value), nv = .slice (some ⟨g, 0, none⟩) pg.ns.length cap ∧ n < pg.ns.length ∧ g < wB.heap.size ∧ pg.ns.length ≤ cap ∧ cap ≤ maxLen ∧ NdAt wB g n nd lv ∧ wB.ownsRow 0 3 1 lv nd.list.length (nd.list.map aA) ∧ Ty.NdOk nd pg.ts ∧ pg.ns.length ≤ 1200 := by
 obtain ⟨rows, hr, hrd⟩ := h.nd
 have hl : n < pg.ns.length := by
   rcases Nat.lt_or_ge n pg.ns.length with hl | hl
   · exact hl
   · rw [List.getElem?_eq_none hl] at hn; cases hn
 obtain ⟨g, cap, lv, e, h1, h2, h3, h4, h5⟩ := hrd.look hr hl
 rw [List.getElem?_eq_getElem hl] at hn
 cases hn
 exact ⟨g, cap, lv, e, hl, h1, h2, h3, h4, h5, h.ok.ns _ (List.getElem_mem _), h.ok.nlen⟩
section
variable {wB w : World} {Fr : As} {wb : Nat} {nv tv : Value} {pg : Ty.Pg} {main : Int} {ind : Nat} {out : List UInt8}
end
end
end Go.Proofs.YtdlbhiaceheffabGreatDoor
