/- Walks of the parser's node, of, start, and of the reference's add, at: nodes in memory. -/
import Derived.Test.YtdlbhiaceheffabGreatDoorY10
set_option linter.all false
set_option maxRecDepth 100000
set_option maxHeartbeats 1000000
namespace Go.Proofs.YtdlbhiaceheffabGreatDoor
section
open Go Go.RowKit
open Prt (Sat As blk pur exs star ah)
theorem yT : (Tryz.prog.info? 66).map (fun i => (i.zero, i.size, i.bytes)) = some (some (.agg #[.int .i64 0, .int .i64 0, .int .i64 0, .int .i64 0, .slice none 0 0, .string ⟨#[]⟩, .int .i64 0, .int .i64 0, .int .i64 0]), 9, 96) := by kernel_rfl
def aB (t : Ty.Nd) (lv : Value) : Value := .agg #[.int .i64 t.kind, .int .i64 t.a, .int .i64 t.b, .int .i64 t.c, lv, .string t.text, .int .i64 t.n, .int .i64 t.ty, .int .i64 t.pos]
def iP (r : NdRow) : As := inA r.lv r.t.list
section
variable {w0 w : World} {Fr : As} {pb d : Nat} {af : List Tok.Tk}
theorem Prt.Sat.Af {A B C D : As} {rows : List NdRow} {ns : List Ty.Nd} {t : Ty.Nd} {v lv : Value} (h : Sat w0 w [Fr, A, B, C, D, pur (rows.map NdRow.t = ns), Prt.row 66 9 v (ns.length + 1) (rows.flatMap aY ++ aY ⟨t, lv⟩), ah (rows.map iP), inA lv t.list]) :
   Sat w0 w [Fr, A, B, C, D, ndA v (ns ++ [t])] := by
 have hr := h.pure 5 rfl
 have h := Prt.Sat.pack (L := [Fr, _, _, _, _, _, _]) (M := [ah (rows.map iP), iP (NdRow.mk t lv)]) h
 have h := h.ent (i := 7) rfl (Q := ah ((rows ++ [NdRow.mk t lv]).map iP)) (fun a ha => by rw [List.map_append]; exact Prt.jo ha)
 have h := h.ent (i := 5) rfl (Q := pur ((rows ++ [NdRow.mk t lv]).map NdRow.t = ns ++ [t])) (fun a _ => by show _ = _; rw [List.map_append, hr]; rfl)
 have h := h.ent (i := 6) rfl (Q := Prt.row 66 9 v (ns ++ [t]).length ((rows ++ [NdRow.mk t lv]).flatMap aY)) (fun a ha => by rw [List.flatMap_append, List.length_append]; exact ha)
 have h := Prt.Sat.pack (L := [Fr, _, _, _, _]) (M := [_, _, _]) h
 exact h.ent (i := 5) rfl (Q := ndA v (ns ++ [t])) (fun a ha => ⟨_, ha⟩)
def wL (pb d : Nat) (af : List Tok.Tk) (st : Ty.St) (p : Value × Value × Value × Int) (n : Nat) (cells : List Value) (rows : List NdRow) (ns : List Ty.Nd) : List As :=
 [pur (gJ af ∧ st.pos < af.length ∧ d ≤ 20 ∧ st.ts.length ≤ st.pos ∧ st.ns.length ≤ st.pos + 1),
  blk pb (.cells #[p.1, .int .i64 st.pos, .int .i64 d, p.2.1, p.2.2.1, .int .i64 p.2.2.2] 86 (0, 0)), tkA p.1 af, tyA p.2.2.1 st.ts,
  pur (rows.map NdRow.t = ns), Prt.row 66 9 p.2.1 n cells, ah (rows.map iP)]
theorem Prt.Sat.A8 {st : Ty.St} {A : As} (h : Sat w0 w [Fr, aC pb d af st, A]) : ∃ p rows, Sat w0 w (Fr :: A :: wL pb d af st p st.ns.length (rows.flatMap aY) rows st.ns) := by
 obtain ⟨p, h⟩ := h.ex (i := 1) rfl
 obtain ⟨rows, h⟩ := (h.unpack (i := 1) rfl).ex (i := 5) rfl
 exact ⟨p, rows, h.unpack (i := 5) rfl⟩
theorem Prt.Sat.DZ {st : Ty.St} {p : Value × Value × Value × Int} {rows : List NdRow} {t : Ty.Nd} {lv : Value} (h : Sat w0 w (Fr :: inA lv t.list :: wL pb d af st p (st.ns.length + 1) (rows.flatMap aY ++ aY ⟨t, lv⟩) rows st.ns)) (hb : st.ns.length ≤ st.pos) :
   Sat w0 w [Fr, aC pb d af { st with ns := st.ns ++ [t] }] := by
 have hq := h.pure 2 rfl
 have h := (Prt.Sat.Af (h.pick [0, 2, 3, 4, 5, 6, 7, 8, 1])).pick [0, 1, 2, 3, 5, 4]
 have h := h.ent (i := 1) rfl (Q := pur (gJ af ∧ st.pos < af.length ∧ d ≤ 20 ∧ st.ts.length ≤ st.pos ∧ (st.ns ++ [t]).length ≤ st.pos + 1)) (fun a _ => ⟨hq.1, hq.2.1, hq.2.2.1, hq.2.2.2.1, by simpa using hb⟩)
 exact Prt.Sat.iw (st := { st with ns := st.ns ++ [t] }) (p := p) h
theorem aO {st : Ty.St} (t : Ty.Nd) (lv : Value) (H : Sat w0 w [Fr, aC pb d af st, inA lv t.list]) (hb : st.ns.length ≤ st.pos)
   {R : Ending → World → Prop} (hR : ∀ w', Sat w0 w' [Fr, aC pb d af { st with ns := st.ns ++ [t] }] → R (.returned (.int .i64 (st.ns.length : Nat))) w') :
   Calls Tryz.prog 77 #[.pointer (some ⟨pb, 0, none⟩), aB t lv] w R := by
 have HR := qh hR
 obtain ⟨i0, ti, tz0, tz1, tz2⟩ := info_parts yT
 obtain ⟨⟨lv0, nv, tv, main⟩, rows, hs⟩ := H.A8
 have hs : Sat w0 w (Fr :: inA lv t.list :: wL pb d af st (lv0, nv, tv, main) st.ns.length (rows.flatMap aY) rows st.ns) := hs
 have hq := hs.pure 2 rfl
 have hlen := hq.1.1
 have hpos := hq.2.1
 have hns : st.ns.length ≤ 1001 := by omega
 have c4 := hs.cell 3 rfl 3 rfl
 have f4 := hs.free 3 rfl 3
 have hlt := hs.lt 3 rfl
 have hr := hs.row 7 rfl
 obtain ⟨a, cap0, rfl⟩ := ag hr
 obtain ⟨la, lc, rfl⟩ := ag (hs.row 1 rfl)
 have HROW := qh hr
 have HS := qh hs
 have HB := qh hb
 clear hR H hs hq hr hb
 dsimp only [aB]
 go_enter Tryz.func77, Tryz.ntmps77
 go_wp2_with fail
 go_region_law (first
   | (go_loud (refine step_append_lies _ (by rfl) _ _ _ (by rfl) 0 66 i0 _ 9 96 Tryz.underlying28 ti tz0 tz1 tz2 rfl (by omega) (.slice a st.ns.length cap0) st.ns.length (rows.flatMap aY) (by rfl) (((HROW.out.alloc _).alloc _).drew) ⟨w.heap.size + 1, 0, none⟩ 1 1 (aY ⟨t, .slice la t.list.length lc⟩) (by rfl) (by rfl) (World.news_of_block (cs := (aY ⟨t, .slice la t.list.length lc⟩).toArray) (t := 66) (fr := (0, 0)) (aV (ak _ _ _ (by simp)))) (by simp [Value.oneCell', aY]) (by omega) (by have := HB.out; unfold maxLen; omega) (by have := HB.out; omega) (by simp) (w.heap.size + 2) (by simp) ?_); intro g cap w1 hown1 hgrow hat hlt1; have h1 := Prt.Sat.grow ((HS.out.ay _).ay _).drew 7 rfl hgrow hown1 (by simpa using hat); have d4 := h1.cell 3 rfl 3 rfl; have e4 := h1.free 3 rfl 3; have H1 := qh h1; clear h1))
 all_goals
   clear hown1 hgrow
   go_wp2_with fail
   exact HR.out _ (Prt.Sat.DZ (p := (lv0, .slice (some ⟨g, 0, none⟩) (st.ns.length + 1) cap, tv, main)) (rows := rows) (H1.out.store 3 rfl 3 _) HB.out)
def CV (pb d : Nat) (af : List Tok.Tk) (s : Rd.RS) (p : Value × Value × Value × Int) (n : Nat) (cells : List Value) (rows : List NdRow) (ns : List Ty.Nd) : List As :=
 [pur (gJ af ∧ s.st.pos < af.length ∧ d ≤ 21 ∧ ∀ x, s.f = some x → x.1 ≠ 0),
  blk pb (.cells #[p.1, .int .i64 s.st.pos, .int .i64 d, p.2.1, p.2.2.1, .int .i64 p.2.2.2, .int .i64 (jq s.f).1, .int .i64 (jq s.f).2] 152 (0, 0)), tkA p.1 af, tyA p.2.2.1 s.st.ts,
  pur (rows.map NdRow.t = ns), Prt.row 66 9 p.2.1 n cells, ah (rows.map iP)]
theorem Prt.Sat.vX {s : Rd.RS} {A : As} (h : Sat w0 w [Fr, rdA pb d af s, A]) : ∃ p rows, Sat w0 w (Fr :: A :: CV pb d af s p s.st.ns.length (rows.flatMap aY) rows s.st.ns) := by
 obtain ⟨p, h⟩ := h.ex (i := 1) rfl
 obtain ⟨rows, h⟩ := (h.unpack (i := 1) rfl).ex (i := 5) rfl
 exact ⟨p, rows, h.unpack (i := 5) rfl⟩
theorem Prt.Sat.CG {s : Rd.RS} {p : Value × Value × Value × Int} {rows : List NdRow} {t : Ty.Nd} {lv : Value} (h : Sat w0 w (Fr :: inA lv t.list :: CV pb d af s p (s.st.ns.length + 1) (rows.flatMap aY ++ aY ⟨t, lv⟩) rows s.st.ns)) :
   Sat w0 w [Fr, rdA pb d af (Rd.addN t s)] := by
 have h := (Prt.Sat.Af (h.pick [0, 2, 3, 4, 5, 6, 7, 8, 1])).pick [0, 1, 2, 3, 5, 4]
 exact Prt.Sat.shutRd (s := Rd.addN t s) (p := p) h
theorem add_any {s : Rd.RS} (t : Ty.Nd) (lv : Value) (H : Sat w0 w [Fr, rdA pb d af s, inA lv t.list]) (hb : s.st.ns.length ≤ 3000)
   {R : Ending → World → Prop} (hR : ∀ w', Sat w0 w' [Fr, rdA pb d af (Rd.addN t s)] → R (.returned (.int .i64 (s.st.ns.length : Nat))) w') :
   Calls Tryz.prog 88 #[.pointer (some ⟨pb, 0, none⟩), aB t lv] w R := by
 have HR := qh hR
 obtain ⟨i0, ti, tz0, tz1, tz2⟩ := info_parts yT
 obtain ⟨⟨lv0, nv, tv, main⟩, rows, hs⟩ := H.vX
 have hs : Sat w0 w (Fr :: inA lv t.list :: CV pb d af s (lv0, nv, tv, main) s.st.ns.length (rows.flatMap aY) rows s.st.ns) := hs
 have c4 := hs.cell 3 rfl 3 rfl
 have f4 := hs.free 3 rfl 3
 have hlt := hs.lt 3 rfl
 have hr := hs.row 7 rfl
 obtain ⟨a, cap0, rfl⟩ := ag hr
 obtain ⟨la, lc, rfl⟩ := ag (hs.row 1 rfl)
 have HROW := qh hr
 have HS := qh hs
 clear hR H hs hr
 dsimp only at c4
 dsimp only [aB]
 go_enter Tryz.func88, Tryz.ntmps88
 go_wp2_with fail
 go_region_law (first
   | (go_loud (refine step_append_lies _ (by rfl) _ _ _ (by rfl) 0 66 i0 _ 9 96 Tryz.underlying28 ti tz0 tz1 tz2 rfl (by omega) (.slice a s.st.ns.length cap0) s.st.ns.length (rows.flatMap aY) (by rfl) (((HROW.out.alloc _).alloc _).drew) ⟨w.heap.size + 1, 0, none⟩ 1 1 (aY ⟨t, .slice la t.list.length lc⟩) (by rfl) (by rfl) (World.news_of_block (cs := (aY ⟨t, .slice la t.list.length lc⟩).toArray) (t := 66) (fr := (0, 0)) (aV (ak _ _ _ (by simp)))) (by simp [Value.oneCell', aY]) (by omega) (by unfold maxLen; omega) (by omega) (by simp) (w.heap.size + 2) (by simp) ?_); intro g cap w1 hown1 hgrow hat hlt1; have h1 := Prt.Sat.grow ((HS.out.ay _).ay _).drew 7 rfl hgrow hown1 (by simpa using hat); have d4 := h1.cell 3 rfl 3 rfl; have e4 := h1.free 3 rfl 3; have H1 := qh h1; clear h1))
 all_goals
   clear hown1 hgrow
   go_wp2_with fail
   exact HR.out _ (Prt.Sat.CG (p := (lv0, .slice (some ⟨g, 0, none⟩) (s.st.ns.length + 1) cap, tv, main)) (rows := rows) (H1.out.store 3 rfl 3 _))
end
end
end Go.Proofs.YtdlbhiaceheffabGreatDoor
