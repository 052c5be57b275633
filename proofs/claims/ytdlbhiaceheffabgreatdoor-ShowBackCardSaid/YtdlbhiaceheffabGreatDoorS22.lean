/- Walks of show.writer's statement at ifs and whiles; all expressions, statements, blocks. Walks of strings.Builder's Len and String, as part of show.writer. Walks of the parser's left, and of what looks for a sign. -/
import Derived.Lib.UnsafeStr
import Derived.Test.YtdlbhiaceheffabGreatDoorS21
set_option linter.all false
set_option maxRecDepth 100000
set_option maxHeartbeats 4000000
namespace Go.Proofs.YtdlbhiaceheffabGreatDoor
section
open Go Go.RowKit
open Prt (Sat As blk pur exs star stars)
section
variable {wB : World} {nv tv : Value} {pg : Ty.Pg} {wb : Nat} {main : Int}
theorem stmt_while (hP : PB wB nv tv pg) {p bp : Nat} {a : Ty.Ex} {b : List Ty.Sm} (hB : BrC wB nv tv pg wb main (.while_ p a bp b)) : SmC wB nv tv pg wb main (.while_ p a bp b) := by
 intro n hd ind out w Fr hF H hsz hlen R hR
 have hd0 := hd
 rw [Ty.DenS] at hd
 obtain ⟨na, nb, h1, hda, hdb⟩ := hd
 obtain ⟨x, hx⟩ : ∃ x : List UInt8, x = [119, 104, 105, 108, 101, 32, 40] ++ Ty.wE pg.ts ind a ++ [41, 32] ++ Ty.wB pg.ts ind b := ⟨_, rfl⟩
 have e : Ty.wS pg.ts ind (.while_ p a bp b) = Ty.blanks ind ++ x ++ [10] := by rw [hx, Ty.wS]; unfold Ty.wB; simp
 have HBR := qh (fun (lv : Value) hl (o : List UInt8) w1 F' hF' h ho => hB n _ lv hd0 h1 hl rfl ind x o w1 F' e hF' h hsz ho)
 rw [e] at hlen hR
 have HNO := qh (fun (R : Ending → World → Prop) => wnode_any (R := R) hP hF H h1)
 have HR := qh hR
 simp only [lzA, lzC, lzN] at hlen
 have HLE := qh hlen
 have HS := qh H
 have HF0 := qh hF
 have hib : ind ≤ 1300 := by omega
 clear hR hlen H hF hsz e h1 hP hB hd0 hda hdb hx
 go_enter Tryz.func36, Tryz.ntmps36
 go_wp2_with fail
 refine HNO.out _ (fun w1 lv hl hb1 => ?_)
 obtain ⟨la, lc, rfl⟩ := owns_slice hl
 have h2 := ((HS.out.below hb1).allocAt (ndObj { Ty.ndOf 23 p with a := na, b := nb } (.slice la ({ Ty.ndOf 23 p with a := na, b := nb }).list.length lc)) w1.heap.size).swap
 have HF := qh (HF0.out.stars (M := [blk w1.heap.size (ndObj { Ty.ndOf 23 p with a := na, b := nb } (.slice la ({ Ty.ndOf 23 p with a := na, b := nb }).list.length lc))]))
 have HBS := qh (HBR.out (.slice la ({ Ty.ndOf 23 p with a := na, b := nb }).list.length lc) ⟨_, _, _, rfl⟩)
 obtain ⟨r5, rf, rl⟩ := wrIndRd (HS.out.below hb1)
 have H2 := qh h2
 clear hl hb1 h2 rf HF0 HS HNO HBR
 dsimp only [ndVal, Ty.ndOf, List.length_nil] at *
 go_wp2_with fail
 refine repeat_any _ ind (by omega) (fun w3 hb3 => ?_)
 have H3 := qh (H2.out.below hb3)
 clear hb3 r5 rl
 go_wp2_with fail
 refine put1 H3.out _ (Ty.blanks ind) rfl (by have := HLE.out; omega) _ (by simp) (fun w4 h4 => ?_)
 have q := ndRd h4
 have q0 := q.d0
 have q1 := q.d1
 have q2 := q.d2
 have q3 := q.d3
 have q4 := q.d4
 have q5 := q.d5
 have q6 := q.d6
 have q7 := q.d7
 have q8 := q.d8
 have H4 := qh h4
 clear h4 q
 go_wp2_with fail
 refine HBS.out _ _ _ HF.out H4.out (by have := HLE.out; simp only [List.length_append]; omega) _ (fun w5 h5 => ?_)
 have H5 := qh h5
 clear h5 q0 q1 q2 q3 q4 q5 q6 q7 q8
 go_wp2_with fail
 refine put1 H5.out _ [10] rfl (by have := HLE.out; simp only [lzA, lzC, lzN]; omega) _ (by simp) (fun w6 h6 => ?_)
 have H6 := qh h6
 clear h6
 go_wp2_with fail
 go_end0
 refine HR.out _ ?_
 rw [show out ++ (Ty.blanks ind ++ x ++ [10]) = out ++ Ty.blanks ind ++ x ++ [10] by simp]
 exact H6.out.unswap.pick [0, 1]
theorem stmt_if (hP : PB wB nv tv pg) {p bp : Nat} {a : Ty.Ex} {b : List Ty.Sm} (hB : BrC wB nv tv pg wb main (.if_ p a bp b none)) : SmC wB nv tv pg wb main (.if_ p a bp b none) := by
 intro n hd ind out w Fr hF H hsz hlen R hR
 have hd0 := hd
 rw [Ty.DenS] at hd
 obtain ⟨na, nb, h1, hda, hdb⟩ := hd
 obtain ⟨x, hx⟩ : ∃ x : List UInt8, x = [105, 102, 32, 40] ++ Ty.wE pg.ts ind a ++ [41, 32] ++ Ty.wB pg.ts ind b := ⟨_, rfl⟩
 have e : Ty.wS pg.ts ind (.if_ p a bp b none) = Ty.blanks ind ++ x ++ [10] := by rw [hx, Ty.wS]; unfold Ty.wB; simp
 have HBR := qh (fun (lv : Value) hl (o : List UInt8) w1 F' hF' h ho => hB n _ lv hd0 h1 hl rfl ind x o w1 F' e hF' h hsz ho)
 rw [e] at hlen hR
 have HNO := qh (fun (R : Ending → World → Prop) => wnode_any (R := R) hP hF H h1)
 have HR := qh hR
 simp only [lzA, lzC, lzN] at hlen
 have HLE := qh hlen
 have HS := qh H
 have HF0 := qh hF
 have hib : ind ≤ 1300 := by omega
 clear hR hlen H hF hsz e h1 hP hB hd0 hda hdb hx
 go_enter Tryz.func36, Tryz.ntmps36
 go_wp2_with fail
 refine HNO.out _ (fun w1 lv hl hb1 => ?_)
 obtain ⟨la, lc, rfl⟩ := owns_slice hl
 have h2 := ((HS.out.below hb1).allocAt (ndObj { Ty.ndOf 22 p with a := na, b := nb, c := -1 } (.slice la ({ Ty.ndOf 22 p with a := na, b := nb, c := -1 }).list.length lc)) w1.heap.size).swap
 have HF := qh (HF0.out.stars (M := [blk w1.heap.size (ndObj { Ty.ndOf 22 p with a := na, b := nb, c := -1 } (.slice la ({ Ty.ndOf 22 p with a := na, b := nb, c := -1 }).list.length lc))]))
 have HBS := qh (HBR.out (.slice la ({ Ty.ndOf 22 p with a := na, b := nb, c := -1 }).list.length lc) ⟨_, _, _, rfl⟩)
 obtain ⟨r5, rf, rl⟩ := wrIndRd (HS.out.below hb1)
 have H2 := qh h2
 clear hl hb1 h2 rf HF0 HS HNO HBR
 dsimp only [ndVal, Ty.ndOf, List.length_nil] at *
 go_wp2_with fail
 refine repeat_any _ ind (by omega) (fun w3 hb3 => ?_)
 have H3 := qh (H2.out.below hb3)
 clear hb3 r5 rl
 go_wp2_with fail
 refine put1 H3.out _ (Ty.blanks ind) rfl (by have := HLE.out; omega) _ (by simp) (fun w4 h4 => ?_)
 have q := ndRd h4
 have q0 := q.d0
 have q1 := q.d1
 have q2 := q.d2
 have q3 := q.d3
 have q4 := q.d4
 have q5 := q.d5
 have q6 := q.d6
 have q7 := q.d7
 have q8 := q.d8
 have H4 := qh h4
 clear h4 q
 go_wp2_with fail
 refine HBS.out _ _ _ HF.out H4.out (by have := HLE.out; simp only [List.length_append]; omega) _ (fun w5 h5 => ?_)
 have H5 := qh h5
 clear h5 q0 q1 q2 q3 q4 q5 q6 q7 q8
 go_wp2_with fail
 refine put1 H5.out _ [10] rfl (by have := HLE.out; simp only [lzA, lzC, lzN]; omega) _ (by simp) (fun w6 h6 => ?_)
 have H6 := qh h6
 clear h6
 go_wp2_with fail
 go_end0
 refine HR.out _ ?_
 rw [show out ++ (Ty.blanks ind ++ x ++ [10]) = out ++ Ty.blanks ind ++ x ++ [10] by simp]
 exact H6.out.unswap.pick [0, 1]
theorem stmt_else (hP : PB wB nv tv pg) {p bp cp : Nat} {a : Ty.Ex} {b c : List Ty.Sm} (hB : BrC wB nv tv pg wb main (.if_ p a bp b (some (cp, c)))) : SmC wB nv tv pg wb main (.if_ p a bp b (some (cp, c))) := by
 intro n hd ind out w Fr hF H hsz hlen R hR
 have hd0 := hd
 rw [Ty.DenS] at hd
 obtain ⟨na, nb, nc, h1, hda, hdb, hdc⟩ := hd
 obtain ⟨x, hx⟩ : ∃ x : List UInt8, x = [105, 102, 32, 40] ++ Ty.wE pg.ts ind a ++ [41, 32] ++ Ty.wB pg.ts ind b ++ [32, 101, 108, 115, 101, 32] ++ Ty.wB pg.ts ind c := ⟨_, rfl⟩
 have e : Ty.wS pg.ts ind (.if_ p a bp b (some (cp, c))) = Ty.blanks ind ++ x ++ [10] := by rw [hx, Ty.wS]; unfold Ty.wB; simp
 have HBR := qh (fun (lv : Value) hl (o : List UInt8) w1 F' hF' h ho => hB n _ lv hd0 h1 hl rfl ind x o w1 F' e hF' h hsz ho)
 rw [e] at hlen hR
 have HNO := qh (fun (R : Ending → World → Prop) => wnode_any (R := R) hP hF H h1)
 have HR := qh hR
 simp only [lzA, lzC, lzN] at hlen
 have HLE := qh hlen
 have HS := qh H
 have HF0 := qh hF
 have hib : ind ≤ 1300 := by omega
 clear hR hlen H hF hsz e h1 hP hB hd0 hda hdb hdc hx
 go_enter Tryz.func36, Tryz.ntmps36
 go_wp2_with fail
 refine HNO.out _ (fun w1 lv hl hb1 => ?_)
 obtain ⟨la, lc, rfl⟩ := owns_slice hl
 have h2 := ((HS.out.below hb1).allocAt (ndObj { Ty.ndOf 22 p with a := na, b := nb, c := ((nc : Nat) : Int) } (.slice la ({ Ty.ndOf 22 p with a := na, b := nb, c := ((nc : Nat) : Int) }).list.length lc)) w1.heap.size).swap
 have HF := qh (HF0.out.stars (M := [blk w1.heap.size (ndObj { Ty.ndOf 22 p with a := na, b := nb, c := ((nc : Nat) : Int) } (.slice la ({ Ty.ndOf 22 p with a := na, b := nb, c := ((nc : Nat) : Int) }).list.length lc))]))
 have HBS := qh (HBR.out (.slice la ({ Ty.ndOf 22 p with a := na, b := nb, c := ((nc : Nat) : Int) }).list.length lc) ⟨_, _, _, rfl⟩)
 obtain ⟨r5, rf, rl⟩ := wrIndRd (HS.out.below hb1)
 have H2 := qh h2
 clear hl hb1 h2 rf HF0 HS HNO HBR
 dsimp only [ndVal, Ty.ndOf, List.length_nil] at *
 go_wp2_with fail
 refine repeat_any _ ind (by omega) (fun w3 hb3 => ?_)
 have H3 := qh (H2.out.below hb3)
 clear hb3 r5 rl
 go_wp2_with fail
 refine put1 H3.out _ (Ty.blanks ind) rfl (by have := HLE.out; omega) _ (by simp) (fun w4 h4 => ?_)
 have q := ndRd h4
 have q0 := q.d0
 have q1 := q.d1
 have q2 := q.d2
 have q3 := q.d3
 have q4 := q.d4
 have q5 := q.d5
 have q6 := q.d6
 have q7 := q.d7
 have q8 := q.d8
 have H4 := qh h4
 clear h4 q
 go_wp2_with fail
 refine HBS.out _ _ _ HF.out H4.out (by have := HLE.out; simp only [List.length_append]; omega) _ (fun w5 h5 => ?_)
 have H5 := qh h5
 clear h5 q0 q1 q2 q3 q4 q5 q6 q7 q8
 go_wp2_with fail
 refine put1 H5.out _ [10] rfl (by have := HLE.out; simp only [lzA, lzC, lzN]; omega) _ (by simp) (fun w6 h6 => ?_)
 have H6 := qh h6
 clear h6
 go_wp2_with fail
 go_end0
 refine HR.out _ ?_
 rw [show out ++ (Ty.blanks ind ++ x ++ [10]) = out ++ Ty.blanks ind ++ x ++ [10] by simp]
 exact H6.out.unswap.pick [0, 1]
mutual
theorem ex_all (hP : PB wB nv tv pg) (hW : Pow wB) : ∀ e : Ty.Ex, ExC wB nv tv pg wb main e
 | .num _ _ => expr_of_bare hP (bare_num hP hW)
 | .text _ _ => expr_of_bare hP bare_text
 | .bool _ _ => expr_of_bare hP (bare_bool hP)
 | .null _ => expr_of_bare hP bare_null
 | .var _ _ => expr_of_bare hP bare_var
 | .fn _ _ _ _ body => expr_of_bare hP (bare_fn hP (wblock_any hP (sms_all hP hW body)))
 | .call _ a l => expr_of_bare hP (bare_call (parts_call (ex_all hP hW a) (exs_all hP hW l)))
 | .get _ a _ => expr_of_bare hP (bare_get (parts_get (ex_all hP hW a)))
 | .at _ a b => expr_of_bare hP (bare_at (parts_at (ex_all hP hW a) (ex_all hP hW b)))
 | .obj _ l => expr_of_bare hP (bare_obj (wobject_any hP (exos_all hP hW l)))
 | .arr _ l => expr_of_bare hP (bare_arr (exs_all hP hW l))
 | .two _ _ a b => expr_of_bare hP (bare_two (parts_two (ex_all hP hW a) (ex_all hP hW b)))
 | .one _ _ a => expr_of_bare hP (bare_one (parts_one (ex_all hP hW a)))
 | .as _ a _ => expr_of_bare hP (bare_as (parts_as hP (ex_all hP hW a)))
theorem exs_all (hP : PB wB nv tv pg) (hW : Pow wB) : ∀ (l : List Ty.Ex), ∀ e ∈ l, ExC wB nv tv pg wb main e
 | [], _, h => by cases h
 | a :: l, e, h => by
   rcases List.mem_cons.1 h with h1 | h1
   · rw [h1]; exact ex_all hP hW a
   · exact exs_all hP hW l e h1
theorem exos_all (hP : PB wB nv tv pg) (hW : Pow wB) : ∀ (l : List (Nat × ByteArray × Ty.Ex)), ∀ o ∈ l, ExC wB nv tv pg wb main o.2.2
 | [], _, h => by cases h
 | (p, x, a) :: l, o, h => by
   rcases List.mem_cons.1 h with h1 | h1
   · rw [h1]; exact ex_all hP hW a
   · exact exos_all hP hW l o h1
theorem sms_all (hP : PB wB nv tv pg) (hW : Pow wB) : ∀ (l : List Ty.Sm), ∀ e ∈ l, SmC wB nv tv pg wb main e
 | [], _, h => by cases h
 | a :: l, e, h => by
   rcases List.mem_cons.1 h with h1 | h1
   · rw [h1]; exact sm_all hP hW a
   · exact sms_all hP hW l e h1
theorem sm_all (hP : PB wB nv tv pg) (hW : Pow wB) : ∀ s : Ty.Sm, SmC wB nv tv pg wb main s
 | .let_ _ _ _ a => stmt_let hP (ex_all hP hW a)
 | .set _ _ a => stmt_set hP (ex_all hP hW a)
 | .put _ a _ v => stmt_put hP (ex_all hP hW a) (ex_all hP hW v)
 | .lay _ a b v => stmt_lay hP (ex_all hP hW a) (ex_all hP hW b) (ex_all hP hW v)
 | .print _ a => stmt_print hP (ex_all hP hW a)
 | .ret _ a => stmt_ret hP (ex_all hP hW a)
 | .do_ _ a => stmt_do hP (ex_all hP hW a)
 | .if_ _ a _ b none => stmt_if hP (branch_if (ex_all hP hW a) (wblock_any hP (sms_all hP hW b)))
 | .if_ _ a _ b (some (_, c)) => stmt_else hP (branch_else (ex_all hP hW a) (wblock_any hP (sms_all hP hW b)) (wblock_any hP (sms_all hP hW c)))
 | .while_ _ a _ b => stmt_while hP (branch_while (ex_all hP hW a) (wblock_any hP (sms_all hP hW b)))
end
end
end
section
open Go Go.RowKit
open Prt (Sat As blk pur exs star stars)
section
variable {w0 w : World} {Fr : As} {wb : Nat} {nv tv : Value} {main : Int} {ind : Nat} {out : List UInt8}
theorem BLen_any (H : Sat w0 w [Fr, wrA wb nv tv main ind out]) {R : Ending → World → Prop} (hR : R (.returned (.int .i64 (out.length : Nat))) w) :
   Calls Tryz.prog 37 #[.pointer (some ⟨wb, 0, none⟩)] w R := by
 have HR := qh hR
 obtain ⟨p, v, h⟩ := H.openWr
 obtain ⟨a, cap, e⟩ := owns_slice (h.row 3 rfl)
 dsimp only at e
 subst e
 have c1 := h.cell 2 rfl 1 rfl
 clear hR H h
 go_enter Tryz.func37, Tryz.ntmps37
 go_wp2_with fail
 exact HR.out
theorem BString_any (H : Sat w0 w [Fr, wrA wb nv tv main ind out]) {R : Ending → World → Prop} (hR : ∀ w', Sat w0 w' [Fr] → R (.returned (.string (bs out))) w') :
   Calls Tryz.prog 38 #[.pointer (some ⟨wb, 0, none⟩)] w R := by
 have HR := qh hR
 obtain ⟨p, v, h⟩ := H.openWr
 have hrow := h.row 3 rfl
 dsimp only at hrow
 have hown := hrow
 have HS := qh h
 have hcl := h.cell 2 rfl 1 rfl
 dsimp only at hcl
 have hwl := h.lt 2 rfl
 rcases hrow.2 with ⟨rfl, h0⟩ | ⟨g, cap, cur, rfl, _, hg, hnc, hcm, hcs, htake⟩
 · have ho : out = [] := List.eq_nil_of_length_eq_zero h0
   subst ho
   have hUS := fun (W : World) (q : Option Addr) => Lib.run_unsafeString_none (P := Tryz.prog) W 133 3 9 q
   have hSD : (Builtin.unsafeSliceData_ #[72] 133 #[.slice none 0 0]).run Tryz.prog w.drew = .ok (.pointer none) w.drew := rfl
   have c1 : w.drew.cell? ⟨wb, 1, none⟩ = some (.slice none 0 0) := hcl
   clear hR H h hown hrow
   go_enter Tryz.func38, Tryz.ntmps38
   go_wp2_with fail
   go_region
   all_goals
     go_wp2_with fail
     exact HR.out _ (HS.out.drew.pick [0])
 · by_cases h0 : out.length = 0
   · have ho : out = [] := List.eq_nil_of_length_eq_zero h0
     subst ho
     have hUS := fun (W : World) (q : Option Addr) => Lib.run_unsafeString_none (P := Tryz.prog) W 133 3 9 q
     by_cases hc0 : cap = 0
     · subst hc0
       have hSD : (Builtin.unsafeSliceData_ #[72] 133 #[.slice (some ⟨g, 0, none⟩) 0 0]).run Tryz.prog w.drew = .ok (.pointer (some ⟨w.drew.heap.size, 0, none⟩)) (w.drew.alloc (.view ⟨g, 0, none⟩ 5)) :=
         Lib.run_unsafeSliceData_zero w.drew _ _ 5 Tryz.underlying133 ⟨g, 0, none⟩ 0 (5, cur.size) (by have hg' : w.drew.heap[g]? = some (.cells cur 5 (0, 0)) := hg; simp [World.shape?, hg'])
       have c1 : w.drew.cell? ⟨wb, 1, none⟩ = some (.slice (some ⟨g, 0, none⟩) 0 0) := hcl
       have c2 : (w.drew.alloc (.view ⟨g, 0, none⟩ 5)).cell? ⟨wb, 1, none⟩ = some (.slice (some ⟨g, 0, none⟩) 0 0) := (HS.out.drew.waste _).cell 2 rfl 1 rfl
       have c3 : (w.alloc (.view ⟨g, 0, none⟩ 5)).drew.cell? ⟨wb, 1, none⟩ = some (.slice (some ⟨g, 0, none⟩) 0 0) := c2
       clear hR H h hown hrow
       go_enter Tryz.func38, Tryz.ntmps38
       go_wp2_with fail
       go_region
       all_goals
         go_wp2_with fail
         exact HR.out _ ((HS.out.waste _).drew.pick [0])
     · have hSD : (Builtin.unsafeSliceData_ #[72] 133 #[.slice (some ⟨g, 0, none⟩) 0 cap]).run Tryz.prog w.drew = .ok (.pointer (some ⟨g, 0, none⟩)) w.drew :=
         Lib.run_unsafeSliceData_row _ _ _ _ _ _ hc0
       have c1 : w.drew.cell? ⟨wb, 1, none⟩ = some (.slice (some ⟨g, 0, none⟩) 0 cap) := hcl
       clear hR H h hown hrow hc0
       go_enter Tryz.func38, Tryz.ntmps38
       go_wp2_with fail
       go_region
       all_goals
         go_wp2_with fail
         exact HR.out _ (HS.out.drew.pick [0])
   · have hne : out ≠ [] := fun e => h0 (by rw [e]; rfl)
     have hSD : (Builtin.unsafeSliceData_ #[72] 133 #[.slice (some ⟨g, 0, none⟩) out.length cap]).run Tryz.prog w.drew = .ok (.pointer (some ⟨g, 0, none⟩)) w.drew :=
       Lib.run_unsafeSliceData_row _ _ _ _ _ _ (by omega)
     have hUS : (Builtin.unsafeString_ #[133, 3] 9 #[.pointer (some ⟨g, 0, none⟩), .int .i64 out.length]).run Tryz.prog w.drew = .ok (.string (bs out)) (w.drew.freeze ⟨g, 0, none⟩ out.length) := by
       refine Lib.run_unsafeString_row w.drew 133 3 9 5 Tryz.underlying133 cellsByte g cur.size (by have hg' : w.drew.heap[g]? = some (.cells cur 5 (0, 0)) := hg; simp [World.shape?, hg']) out hne (by omega) (by unfold maxLen at hcm; omega) ?_
       intro j x hx
       exact hown.cells (g := g) rfl j (.int .u8 x.toNat) (by simp [Lib.byteCells, hx])
     have c1 : w.drew.cell? ⟨wb, 1, none⟩ = some (.slice (some ⟨g, 0, none⟩) out.length cap) := hcl
     clear hR H h hown hrow h0 hne htake hg hcs
     generalize bs out = tx at *
     go_enter Tryz.func38, Tryz.ntmps38
     go_wp2_with fail
     go_region
     all_goals
       go_wp2_with fail
       exact HR.out _ ((HS.out.drew.freeze 3 rfl).pick [0])
end
end
section
open Go Go.RowKit
open Prt (Sat As blk pur exs star stars)
def anyIs (toks : List Tok.Tk) (l : List ByteArray) (pos : Nat) : Bool := l.any fun x => Ty.is toks x.data.toList pos
theorem idxIs_any (w : World) (pb d : Nat) (toks : List Tok.Tk) (st : Ty.St) (h : PRd w pb d toks st) (g : Nat) (l : List ByteArray) (hl : l.length ≤ 10) (hg : g < w.heap.size) (hcell : ∀ j (hj : j < l.length), w.cell? ⟨g, j, none⟩ = some (.string l[j])) {R : Ending → World → Prop}
   (hyes : ∀ (r : Nat) w', Below w.heap.size w w' → anyIs toks l st.pos = true → r ≤ 10 → R (.returned (.int .i64 r)) w') (hno : ∀ w', Below w.heap.size w w' → anyIs toks l st.pos = false → R (.returned (.int .i64 (-1))) w') :
   Calls Tryz.prog 343 #[.slice (some ⟨g, 0, none⟩) l.length l.length, .func (.func 210) #[.pointer (some ⟨pb, 0, none⟩)] #[]] w R := by
 have HY := qh hyes
 have HNO := qh hno
 have HC := qh hcell
 have HP := qh h
 have hc := Tryz.call210
 clear hyes hno hcell h
 go_enter Tryz.func343, Tryz.ntmps343
 go_wp2_with fail
 go_loopw [8] (fun i wr => ∃ k : Nat, k ≤ l.length ∧ i = .int .i64 k ∧ Hid (Below w.heap.size w wr) ∧ Hid (∀ j (hj : j < l.length), j < k → Ty.is toks l[j].data.toList st.pos = false)) (fun i _ => l.length - (intOf i).toNat)
 case atStart => exact ⟨0, by omega, rfl, Below.refl _ _, fun j hj h => by omega⟩
 case round =>
   obtain ⟨k, hk, rfl, hb, hf⟩ := hrel
   have hgr : g < wr.heap.size := Nat.lt_of_lt_of_le hg hb.out.size
   by_cases hlt : k < l.length
   · have d0 := (hb.out.cell (p := ⟨g, k, none⟩) hg).trans (HC.out k hlt)
     have HT : Hid (Ty.is toks l[k].data.toList st.pos = true → anyIs toks l st.pos = true) := fun h => List.any_eq_true.2 ⟨l[k], List.getElem_mem hlt, h⟩
     have HN : Hid (Ty.is toks l[k].data.toList st.pos = false → ∀ j (hj : j < l.length), j < k + 1 → Ty.is toks l[j].data.toList st.pos = false) := fun h j hj hjk => by
       by_cases e : j = k
       · subst e; exact h
       · exact hf.out j hj (by omega)
     generalize l[k] = x at *
     go_wp2_with fail
     refine is_any wr pb d toks st (HP.out.below hb.out) x (fun w2 hb2 => ?_)
     have HB2 := qh (hb.out.trans (hb2.mono hb.out.size))
     clear hb2
     generalize Ty.is toks x.data.toList st.pos = fk at *
     cases fk
     · have HN2 := qh (HN.out rfl)
       go_wp2_with fail
       go_roundw
       case rel => exact ⟨k + 1, by omega, by go_num, HB2, HN2⟩
       case measure => simp [intOf]; omega
     · have HT2 := qh (HT.out rfl)
       go_wp2_with fail
       exact HY.out k _ HB2.out HT2.out (by omega)
   · have hke : k = l.length := by omega
     have HN : Hid (anyIs toks l st.pos = false) := by
       show _ = _
       unfold anyIs
       rw [List.any_eq_false]
       intro x hx
       obtain ⟨j, hj, rfl⟩ := List.mem_iff_getElem.1 hx
       rw [hf.out j hj (by omega)]; simp
     clear hke
     go_wp2_with fail
     exact HNO.out _ hb.out HN.out
theorem anyIs_any (w : World) (pb d : Nat) (toks : List Tok.Tk) (st : Ty.St) (h : PRd w pb d toks st) (g : Nat) (l : List ByteArray) (hl : l.length ≤ 10) (hg : g < w.heap.size) (hcell : ∀ j (hj : j < l.length), w.cell? ⟨g, j, none⟩ = some (.string l[j])) {R : Ending → World → Prop}
   (hR : ∀ w', Below w.heap.size w w' → R (.returned (.bool (anyIs toks l st.pos))) w') :
   Calls Tryz.prog 334 #[.slice (some ⟨g, 0, none⟩) l.length l.length, .func (.func 210) #[.pointer (some ⟨pb, 0, none⟩)] #[]] w R := by
 have HR := qh hR
 clear hR
 have HX := qh (fun R h1 h2 => @idxIs_any w pb d toks st h g l hl hg hcell R h1 h2)
 clear hcell h hg
 go_enter Tryz.func334, Tryz.ntmps334
 go_wp2_with fail
 refine HX.out _ (fun r w1 hb ha hr => ?_) (fun w1 hb ha => ?_)
 · rw [ha] at HR
   have HB := qh hb
   clear ha hb
   go_wp2_with fail
   exact HR.out _ HB.out
 · rw [ha] at HR
   have HB := qh hb
   clear ha hb
   go_wp2_with fail
   exact HR.out _ HB.out
theorem anyIs_lt {toks : List Tok.Tk} {l : List ByteArray} {pos : Nat} (hp : pos < toks.length) (hl : Toks toks) (h : anyIs toks l pos = true) : pos + 1 < toks.length := by
 obtain ⟨x, _, hx⟩ := List.any_eq_true.1 h
 exact is_lt hp hl hx
theorem anyIs_map (toks : List Tok.Tk) (l : List ByteArray) (pos : Nat) : (l.map fun x => x.data.toList).any (fun x => Ty.is toks x pos) = anyIs toks l pos := by
 unfold anyIs; rw [List.any_map]; rfl
theorem left_c (w0 w : World) (Fr : As) (pb d sb : Nat) (toks : List Tok.Tk) (st : Ty.St) (one : Ty.M Nat) (hA : Ty.Adv 1 0 0 one) (hN : Ty.Nx one) (signs : List ByteArray) (hsl : signs.length ≤ 10) (F : FuncId) (c : Value)
   (hc : ∀ (args : Array Value) (w : World), (callFunc F args).run Tryz.prog w = .ok (.enter F args) w)
   (hsg : ∀ w1, Sat w0 w1 [Fr] → sb < w1.heap.size ∧ ∀ j (hj : j < signs.length), w1.cell? ⟨sb, j, none⟩ = some (.string signs[j]))
   (hdo : ∀ s w1, Sat w0 w1 [Fr, parA pb d toks s] → ∀ R : Ending → World → Prop,
     (∀ n s2 w2, one s = .ok (n, s2) → Sat w0 w2 [Fr, parA pb d toks s2] → R (.returned (.int .i64 (n : Nat))) w2) →
     (∀ f w2, one s = .error f → Sat w0 w2 [Fr] → R (.panicked (ftChain f)) w2) → Calls Tryz.prog F #[c] w1 R)
   (H : Sat w0 w [Fr, parA pb d toks st]) {R : Ending → World → Prop}
   (hok : ∀ n s2 w2, Ty.left toks one (signs.map fun x => x.data.toList) st = .ok (n, s2) → Sat w0 w2 [Fr, parA pb d toks s2] → R (.returned (.int .i64 (n : Nat))) w2)
   (hbad : ∀ f w2, Ty.left toks one (signs.map fun x => x.data.toList) st = .error f → Sat w0 w2 [Fr] → R (.panicked (ftChain f)) w2) :
   Calls Tryz.prog 317 #[.pointer (some ⟨pb, 0, none⟩), .func (.func F) #[] #[c], .slice (some ⟨sb, 0, none⟩) signs.length signs.length] w R := by
 have HOK := qh hok
 have HBAD := qh hbad
 have HDO := qh hdo
 have HSG := qh hsg
 have HA := qh hA
 have HNX := qh hN
 have hlk := H.look
 have htl := hlk.wf.1
 have HWF := qh hlk.wf
 have HS := qh H
 clear hok hbad hdo hsg hA hN H hlk
 go_enter Tryz.func317, Tryz.ntmps317
 go_wp2_with fail
 refine HDO.out _ _ HS.out _ (fun n s1 w1 hm h1 => ?_) (fun e w1 hm h1 => ?_)
 rotate_left
 · have HM := qh hm
   have H1 := qh h1
   clear hm h1
   go_wp2_with fail
   exact ⟨rfl, HBAD.out _ _ (by rw [Ty.left, Ty.bnd_err HM.out]) H1.out⟩
 have hnl := (HNX.out _ _ _ hm).2.1
 have hl1 := h1.look.fits.1
 have HEQ : Hid (Ty.left toks one (signs.map fun x => x.data.toList) st = Ty.leftLoop toks one (signs.map fun x => x.data.toList) (toks.length + 1) n s1) := by show _ = _; rw [Ty.left, Ty.bnd_ok hm]
 have H1 := qh h1
 clear hm h1
 go_wp2_with fail
 go_loopw [7] (fun v wr => ∃ (f n : Nat) (s : Ty.St), v = .int .i64 n ∧ s.pos < toks.length ∧ toks.length < s.pos + f ∧ n + 1 = s.ns.length ∧ Hid (Sat w0 wr [Fr, parA pb d toks s]) ∧ Hid (Ty.left toks one (signs.map fun x => x.data.toList) st = Ty.leftLoop toks one (signs.map fun x => x.data.toList) f n s))
   (fun _ wr => toks.length - posOf pb wr)
 case atStart => exact ⟨toks.length + 1, n, s1, rfl, hl1, by omega, hnl, H1.out, HEQ.out⟩
 case round =>
   obtain ⟨f, n, s, rfl, hp, hf, hn, hS, hE⟩ := hrel
   obtain ⟨f, rfl⟩ : ∃ g, f = g + 1 := ⟨f - 1, by omega⟩
   have HPO := qh (posOf_eq hS.out.look)
   have hfit := hS.out.look.fits.2.2.2
   obtain ⟨hsb, hsc⟩ := HSG.out wr (hS.out.pick [0])
   have HL := qh hS.out.look
   have hE2 : Ty.left toks one (signs.map fun x => x.data.toList) st = if anyIs toks signs s.pos = true then (Ty.bnd one fun b => Ty.bnd (Ty.two (Ty.cur toks s.pos).text n b) fun m => Ty.leftLoop toks one (signs.map fun x => x.data.toList) f m) { s with pos := s.pos + 1 } else .ok (n, s) := by
     rw [hE.out, Ty.leftLoop, Ty.look, anyIs_map]
     split <;> rfl
   have HAI := qh (fun w1 (hb : Below wr.heap.size wr w1) R hR => @anyIs_any w1 pb d toks s (HL.out.below hb) sb signs hsl (Nat.lt_of_lt_of_le hsb hb.size) (fun j hj => (hb.cell (p := ⟨sb, j, none⟩) hsb).trans (hsc j hj)) R hR)
   have hlt := fun h => anyIs_lt (l := signs) hp HWF.out h
   have HN := qh (fun R hR => @now_any wr pb d toks s HL.out R hR)
   generalize anyIs toks signs s.pos = ai at *
   generalize Ty.cur toks s.pos = t at *
   obtain ⟨kd, tx, ps⟩ := t
   dsimp only at hE2
   have HE2 := qh hE2
   have hf1 := field_tk1
   clear hE2 hE hsc
   go_wp2_with fail
   refine HN.out _ (fun w2 hb2 => ?_)
   dsimp only [tkVal]
   have HB2 := qh hb2
   clear hb2
   go_wp2_with fail
   refine HAI.out w2 HB2.out _ (fun w3 hb3 => ?_)
   have HB3 := qh (HB2.out.trans (hb3.mono HB2.out.size))
   clear hb3
   cases ai
   · have HE3 : Hid (Ty.left toks one (signs.map fun x => x.data.toList) st = .ok (n, s)) := by show _ = _; rw [HE2.out]; rfl
     go_wp2_with fail
     exact HOK.out _ _ _ HE3.out (hS.out.below HB3.out)
   · have hlt1 := hlt rfl
     have HE3 : Hid (Ty.left toks one (signs.map fun x => x.data.toList) st = (Ty.bnd one fun b => Ty.bnd (Ty.two tx n b) fun m => Ty.leftLoop toks one (signs.map fun x => x.data.toList) f m) { s with pos := s.pos + 1 }) := by show _ = _; rw [HE2.out]; rfl
     have h3 := hS.out.below HB3.out
     obtain ⟨c1, _, f0⟩ := h3.look.cells
     have hz3 := h3.look.lt
     have H3 := qh (h3.setPos (s.pos + 1) hlt1 (by omega))
     clear hlt h3
     go_wp2_with fail
     refine HDO.out _ _ H3.out _ (fun b s4 w4 hm h4 => ?_) (fun e w4 hm h4 => ?_)
     · have had := HA.out _ _ _ hm
       have hnx := HNX.out _ _ _ hm
       have hpl := hnx.1.length_le
       have HE4 : Hid (Ty.left toks one (signs.map fun x => x.data.toList) st = (Ty.bnd (Ty.two tx n b) fun m => Ty.leftLoop toks one (signs.map fun x => x.data.toList) f m) s4) := by show _ = _; rw [HE3.out, Ty.bnd_ok hm]
       have H4 := qh h4
       dsimp only at had hpl
       clear hm h4 hnx
       go_wp2_with fail
       refine two_any H4.out tx (by omega) (by omega) (fun m s5 w5 hm h5 => ?_)
       have HE5 : Hid (Ty.left toks one (signs.map fun x => x.data.toList) st = Ty.leftLoop toks one (signs.map fun x => x.data.toList) f m s5) := by show _ = _; rw [HE4.out, Ty.bnd_ok hm]
       have hm2 := (Ty.Nx.two tx n b _ _ _ hm).2.1
       have had2 := Ty.Adv.two tx n b _ _ _ hm
       have hp5 := h5.look.fits.1
       have HPO5 := qh (posOf_eq h5.look)
       have H5 := qh h5
       clear hm h5
       go_wp2_with fail
       go_roundw
       case rel => exact ⟨f, m, s5, rfl, hp5, by omega, hm2, H5.out, HE5.out⟩
       case measure => rw [HPO.out, HPO5.out]; omega
     · have HE4 : Hid (Ty.left toks one (signs.map fun x => x.data.toList) st = .error e) := by show _ = _; rw [HE3.out, Ty.bnd_err hm]
       have H4 := qh h4
       clear hm h4
       go_wp2_with fail
       exact ⟨rfl, HBAD.out _ _ HE4.out H4.out⟩
theorem left_b (w0 w : World) (Fr : As) (pb d sb : Nat) (toks : List Tok.Tk) (st : Ty.St) (one : Ty.M Nat) (hA : Ty.Adv 1 0 0 one) (hN : Ty.Nx one) (signs : List ByteArray) (hsl : signs.length ≤ 10) (F : FuncId) (c : Value)
   (hc : ∀ (args : Array Value) (w : World), (callFunc F args).run Tryz.prog w = .ok (.enter F args) w)
   (hsg : ∀ w1, Sat w0 w1 [Fr] → sb < w1.heap.size ∧ ∀ j (hj : j < signs.length), w1.cell? ⟨sb, j, none⟩ = some (.string signs[j]))
   (hdo : ∀ s w1, Sat w0 w1 [Fr, parA pb d toks s] → ∀ R : Ending → World → Prop,
     (∀ n s2 w2, one s = .ok (n, s2) → Sat w0 w2 [Fr, parA pb d toks s2] → R (.returned (.int .i64 (n : Nat))) w2) →
     (∀ f w2, one s = .error f → Sat w0 w2 [Fr] → R (.panicked (ftChain f)) w2) → Calls Tryz.prog F #[c] w1 R)
   (H : Sat w0 w [Fr, parA pb d toks st]) {R : Ending → World → Prop}
   (hok : ∀ n s2 w2, Ty.left toks one (signs.map fun x => x.data.toList) st = .ok (n, s2) → Sat w0 w2 [Fr, parA pb d toks s2] → R (.returned (.int .i64 (n : Nat))) w2)
   (hbad : ∀ f w2, Ty.left toks one (signs.map fun x => x.data.toList) st = .error f → Sat w0 w2 [Fr] → R (.panicked (ftChain f)) w2) :
   Calls Tryz.prog 317 #[.pointer (some ⟨pb, 0, none⟩), .func (.func F) #[c] #[], .slice (some ⟨sb, 0, none⟩) signs.length signs.length] w R := by
 have HOK := qh hok
 have HBAD := qh hbad
 have HDO := qh hdo
 have HSG := qh hsg
 have HA := qh hA
 have HNX := qh hN
 have hlk := H.look
 have htl := hlk.wf.1
 have HWF := qh hlk.wf
 have HS := qh H
 clear hok hbad hdo hsg hA hN H hlk
 go_enter Tryz.func317, Tryz.ntmps317
 go_wp2_with fail
 refine HDO.out _ _ HS.out _ (fun n s1 w1 hm h1 => ?_) (fun e w1 hm h1 => ?_)
 rotate_left
 · have HM := qh hm
   have H1 := qh h1
   clear hm h1
   go_wp2_with fail
   exact ⟨rfl, HBAD.out _ _ (by rw [Ty.left, Ty.bnd_err HM.out]) H1.out⟩
 have hnl := (HNX.out _ _ _ hm).2.1
 have hl1 := h1.look.fits.1
 have HEQ : Hid (Ty.left toks one (signs.map fun x => x.data.toList) st = Ty.leftLoop toks one (signs.map fun x => x.data.toList) (toks.length + 1) n s1) := by show _ = _; rw [Ty.left, Ty.bnd_ok hm]
 have H1 := qh h1
 clear hm h1
 go_wp2_with fail
 go_loopw [7] (fun v wr => ∃ (f n : Nat) (s : Ty.St), v = .int .i64 n ∧ s.pos < toks.length ∧ toks.length < s.pos + f ∧ n + 1 = s.ns.length ∧ Hid (Sat w0 wr [Fr, parA pb d toks s]) ∧ Hid (Ty.left toks one (signs.map fun x => x.data.toList) st = Ty.leftLoop toks one (signs.map fun x => x.data.toList) f n s))
   (fun _ wr => toks.length - posOf pb wr)
 case atStart => exact ⟨toks.length + 1, n, s1, rfl, hl1, by omega, hnl, H1.out, HEQ.out⟩
 case round =>
   obtain ⟨f, n, s, rfl, hp, hf, hn, hS, hE⟩ := hrel
   obtain ⟨f, rfl⟩ : ∃ g, f = g + 1 := ⟨f - 1, by omega⟩
   have HPO := qh (posOf_eq hS.out.look)
   have hfit := hS.out.look.fits.2.2.2
   obtain ⟨hsb, hsc⟩ := HSG.out wr (hS.out.pick [0])
   have HL := qh hS.out.look
   have hE2 : Ty.left toks one (signs.map fun x => x.data.toList) st = if anyIs toks signs s.pos = true then (Ty.bnd one fun b => Ty.bnd (Ty.two (Ty.cur toks s.pos).text n b) fun m => Ty.leftLoop toks one (signs.map fun x => x.data.toList) f m) { s with pos := s.pos + 1 } else .ok (n, s) := by
     rw [hE.out, Ty.leftLoop, Ty.look, anyIs_map]
     split <;> rfl
   have HAI := qh (fun w1 (hb : Below wr.heap.size wr w1) R hR => @anyIs_any w1 pb d toks s (HL.out.below hb) sb signs hsl (Nat.lt_of_lt_of_le hsb hb.size) (fun j hj => (hb.cell (p := ⟨sb, j, none⟩) hsb).trans (hsc j hj)) R hR)
   have hlt := fun h => anyIs_lt (l := signs) hp HWF.out h
   have HN := qh (fun R hR => @now_any wr pb d toks s HL.out R hR)
   generalize anyIs toks signs s.pos = ai at *
   generalize Ty.cur toks s.pos = t at *
   obtain ⟨kd, tx, ps⟩ := t
   dsimp only at hE2
   have HE2 := qh hE2
   have hf1 := field_tk1
   clear hE2 hE hsc
   go_wp2_with fail
   refine HN.out _ (fun w2 hb2 => ?_)
   dsimp only [tkVal]
   have HB2 := qh hb2
   clear hb2
   go_wp2_with fail
   refine HAI.out w2 HB2.out _ (fun w3 hb3 => ?_)
   have HB3 := qh (HB2.out.trans (hb3.mono HB2.out.size))
   clear hb3
   cases ai
   · have HE3 : Hid (Ty.left toks one (signs.map fun x => x.data.toList) st = .ok (n, s)) := by show _ = _; rw [HE2.out]; rfl
     go_wp2_with fail
     exact HOK.out _ _ _ HE3.out (hS.out.below HB3.out)
   · have hlt1 := hlt rfl
     have HE3 : Hid (Ty.left toks one (signs.map fun x => x.data.toList) st = (Ty.bnd one fun b => Ty.bnd (Ty.two tx n b) fun m => Ty.leftLoop toks one (signs.map fun x => x.data.toList) f m) { s with pos := s.pos + 1 }) := by show _ = _; rw [HE2.out]; rfl
     have h3 := hS.out.below HB3.out
     obtain ⟨c1, _, f0⟩ := h3.look.cells
     have hz3 := h3.look.lt
     have H3 := qh (h3.setPos (s.pos + 1) hlt1 (by omega))
     clear hlt h3
     go_wp2_with fail
     refine HDO.out _ _ H3.out _ (fun b s4 w4 hm h4 => ?_) (fun e w4 hm h4 => ?_)
     · have had := HA.out _ _ _ hm
       have hnx := HNX.out _ _ _ hm
       have hpl := hnx.1.length_le
       have HE4 : Hid (Ty.left toks one (signs.map fun x => x.data.toList) st = (Ty.bnd (Ty.two tx n b) fun m => Ty.leftLoop toks one (signs.map fun x => x.data.toList) f m) s4) := by show _ = _; rw [HE3.out, Ty.bnd_ok hm]
       have H4 := qh h4
       dsimp only at had hpl
       clear hm h4 hnx
       go_wp2_with fail
       refine two_any H4.out tx (by omega) (by omega) (fun m s5 w5 hm h5 => ?_)
       have HE5 : Hid (Ty.left toks one (signs.map fun x => x.data.toList) st = Ty.leftLoop toks one (signs.map fun x => x.data.toList) f m s5) := by show _ = _; rw [HE4.out, Ty.bnd_ok hm]
       have hm2 := (Ty.Nx.two tx n b _ _ _ hm).2.1
       have had2 := Ty.Adv.two tx n b _ _ _ hm
       have hp5 := h5.look.fits.1
       have HPO5 := qh (posOf_eq h5.look)
       have H5 := qh h5
       clear hm h5
       go_wp2_with fail
       go_roundw
       case rel => exact ⟨f, m, s5, rfl, hp5, by omega, hm2, H5.out, HE5.out⟩
       case measure => rw [HPO.out, HPO5.out]; omega
     · have HE4 : Hid (Ty.left toks one (signs.map fun x => x.data.toList) st = .error e) := by show _ = _; rw [HE3.out, Ty.bnd_err hm]
       have H4 := qh h4
       clear hm h4
       go_wp2_with fail
       exact ⟨rfl, HBAD.out _ _ HE4.out H4.out⟩
end
end Go.Proofs.YtdlbhiaceheffabGreatDoor
