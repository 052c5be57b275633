/- Walks of show.writer's branch and statement. -/
import Derived.Test.YtdlbhiaceheffabGreatDoorS19
set_option linter.all false
set_option maxRecDepth 100000
set_option maxHeartbeats 4000000
namespace Go.Proofs.YtdlbhiaceheffabGreatDoor
section
open Go Go.RowKit
open Prt (Sat As blk pur exs star stars)
structure NdRd (w : World) (b : Nat) (nd : Ty.Nd) (lv : Value) : Prop where
 d0 : w.cell? ⟨b, 0, none⟩ = some (.int .i64 nd.kind)
 d1 : w.cell? ⟨b, 1, none⟩ = some (.int .i64 nd.a)
 d2 : w.cell? ⟨b, 2, none⟩ = some (.int .i64 nd.b)
 d3 : w.cell? ⟨b, 3, none⟩ = some (.int .i64 nd.c)
 d4 : w.cell? ⟨b, 4, none⟩ = some lv
 d5 : w.cell? ⟨b, 5, none⟩ = some (.string nd.text)
 d6 : w.cell? ⟨b, 6, none⟩ = some (.int .i64 nd.n)
 d7 : w.cell? ⟨b, 7, none⟩ = some (.int .i64 nd.ty)
 d8 : w.cell? ⟨b, 8, none⟩ = some (.int .i64 nd.pos)
section
variable {wB : World} {nv tv : Value} {pg : Ty.Pg} {wb : Nat} {main : Int}
theorem ndRd {w : World} {Fr : As} {ind : Nat} {out : List UInt8} {b : Nat} {nd : Ty.Nd} {lv : Value} (h : Sat wB w [stars [Fr, blk b (ndObj nd lv)], wrA wb nv tv main ind out]) : NdRd w b nd lv :=
 ⟨h.unswap.cell 2 rfl 0 rfl, h.unswap.cell 2 rfl 1 rfl, h.unswap.cell 2 rfl 2 rfl, h.unswap.cell 2 rfl 3 rfl, h.unswap.cell 2 rfl 4 rfl, h.unswap.cell 2 rfl 5 rfl, h.unswap.cell 2 rfl 6 rfl, h.unswap.cell 2 rfl 7 rfl, h.unswap.cell 2 rfl 8 rfl⟩
def BrC (wB : World) (nv tv : Value) (pg : Ty.Pg) (wb : Nat) (main : Int) (s : Ty.Sm) : Prop :=
 ∀ (n : Nat) (nd : Ty.Nd) (lv : Value), Ty.DenS pg.ns s n → pg.ns[n]? = some nd → (∃ a m c, lv = .slice a m c) → nd.list.length = 0 →
   ∀ (ind : Nat) (x out : List UInt8) (w : World) (Fr : As), Ty.wS pg.ts ind s = Ty.blanks ind ++ x ++ [10] → FrB wB Fr → Sat wB w [Fr, wrA wb nv tv main ind out] → ind + Ty.szS s ≤ 1300 →
   out.length + x.length ≤ 900000000 → ∀ R : Ending → World → Prop, (∀ w', Sat wB w' [Fr, wrA wb nv tv main ind (out ++ x)] → R (.returned (.tuple #[])) w') →
   Calls Tryz.prog 71 #[.pointer (some ⟨wb, 0, none⟩), ndVal nd lv] w R
theorem branch_while {p bp : Nat} {a : Ty.Ex} {b : List Ty.Sm} (ha : ExC wB nv tv pg wb main a) (hb : BlC wB nv tv pg wb main b) : BrC wB nv tv pg wb main (.while_ p a bp b) := by
 intro n nd lv hd hn hl0 hl1 ind x out w Fr hx hF H hsz hlen R hR
 rw [Ty.DenS] at hd
 obtain ⟨na, nb, h1, hda, hdb⟩ := hd
 rw [hn] at h1
 cases h1
 rw [Ty.szS] at hsz
 have e : Ty.wS pg.ts ind (.while_ p a bp b) = Ty.blanks ind ++ ([119, 104, 105, 108, 101, 32, 40] ++ Ty.wE pg.ts ind a ++ [41, 32] ++ Ty.wB pg.ts ind b) ++ [10] := by rw [Ty.wS]; unfold Ty.wB; simp
 rw [e] at hx
 have hx := List.append_cancel_left (List.append_cancel_right hx)
 subst hx
 have HA := qh (fun o w1 F' hF' h ho => ha na hda 0 ind o w1 F' hF' h (by omega) (by omega) ho)
 have HB := qh (fun (o : List UInt8) (w1 : World) F' (hF' : FrB wB F') h ho => hb bp nb hdb ind o w1 F' hF' h (by omega) ho)
 simp only [← Ty.wP_zero pg.ts ind a] at hlen hR
 have HR := qh hR
 obtain ⟨la, ln, lc, rfl⟩ := hl0
 generalize Ty.wP pg.ts ind 0 a = pa at *
 generalize Ty.wB pg.ts ind b = pb at *
 simp only [lzA, lzC, lzN] at hlen
 have HLE := qh hlen
 have HF := qh (hF.stars (M := [blk w.heap.size (ndObj { Ty.ndOf 23 p with a := na, b := nb } (.slice la ln lc))]))
 have h1 := (H.allocAt (ndObj { Ty.ndOf 23 p with a := na, b := nb } (.slice la ln lc)) w.heap.size).swap
 have q := ndRd h1
 have q0 := q.d0
 have q1 := q.d1
 have q2 := q.d2
 have q3 := q.d3
 clear q
 have H1 := qh h1
 clear hR hlen H hF hn hsz e h1 hl1 hda hdb ha hb
 dsimp only [ndVal, Ty.ndOf] at *
 go_enter Tryz.func71, Tryz.ntmps71
 go_wp2_with fail
 refine put1 H1.out _ [119, 104, 105, 108, 101, 32, 40] rfl (by have := HLE.out; (try simp only [List.length_cons, List.length_nil] at this ⊢); omega) _ (by simp) (fun w2 h2 => ?_)
 clear q0 q1 q2 q3
 have q := ndRd h2
 have q0 := q.d0
 have q1 := q.d1
 have q2 := q.d2
 have q3 := q.d3
 clear q
 have H2 := qh h2
 clear h2
 go_wp2_with fail
 refine HA.out _ _ _ HF.out H2.out (by have := HLE.out; (try simp only [lzA, lzC, lzN] at this ⊢); omega) _ (fun w3 h3 => ?_)
 clear q0 q1 q2 q3
 have q := ndRd h3
 have q0 := q.d0
 have q1 := q.d1
 have q2 := q.d2
 have q3 := q.d3
 clear q
 have H3 := qh h3
 clear h3
 go_wp2_with fail
 refine put1 H3.out _ [41, 32] rfl (by have := HLE.out; (try simp only [lzA, lzC, lzN] at this ⊢); omega) _ (by simp) (fun w4 h4 => ?_)
 clear q0 q1 q2 q3
 have q := ndRd h4
 have q0 := q.d0
 have q1 := q.d1
 have q2 := q.d2
 have q3 := q.d3
 clear q
 have H4 := qh h4
 clear h4
 go_wp2_with fail
 refine HB.out _ _ _ HF.out H4.out (by have := HLE.out; (try simp only [lzA, lzC, lzN] at this ⊢); omega) _ (fun w5 h5 => ?_)
 clear q0 q1 q2 q3
 have q := ndRd h5
 have q0 := q.d0
 have q1 := q.d1
 have q2 := q.d2
 have q3 := q.d3
 clear q
 have H5 := qh h5
 clear h5
 go_wp2_with fail
 go_end0
 refine HR.out _ ?_
 rw [show out ++ ([119, 104, 105, 108, 101, 32, 40] ++ pa ++ [41, 32] ++ pb) = out ++ [119, 104, 105, 108, 101, 32, 40] ++ pa ++ [41, 32] ++ pb by simp]
 exact H5.out.unswap.pick [0, 1]
theorem branch_if {p bp : Nat} {a : Ty.Ex} {b : List Ty.Sm} (ha : ExC wB nv tv pg wb main a) (hb : BlC wB nv tv pg wb main b) : BrC wB nv tv pg wb main (.if_ p a bp b none) := by
 intro n nd lv hd hn hl0 hl1 ind x out w Fr hx hF H hsz hlen R hR
 rw [Ty.DenS] at hd
 obtain ⟨na, nb, h1, hda, hdb⟩ := hd
 rw [hn] at h1
 cases h1
 rw [Ty.szS] at hsz
 have e : Ty.wS pg.ts ind (.if_ p a bp b none) = Ty.blanks ind ++ ([105, 102, 32, 40] ++ Ty.wE pg.ts ind a ++ [41, 32] ++ Ty.wB pg.ts ind b) ++ [10] := by rw [Ty.wS]; unfold Ty.wB; simp
 rw [e] at hx
 have hx := List.append_cancel_left (List.append_cancel_right hx)
 subst hx
 have HA := qh (fun o w1 F' hF' h ho => ha na hda 0 ind o w1 F' hF' h (by omega) (by omega) ho)
 have HB := qh (fun (o : List UInt8) (w1 : World) F' (hF' : FrB wB F') h ho => hb bp nb hdb ind o w1 F' hF' h (by omega) ho)
 simp only [← Ty.wP_zero pg.ts ind a] at hlen hR
 have HR := qh hR
 obtain ⟨la, ln, lc, rfl⟩ := hl0
 generalize Ty.wP pg.ts ind 0 a = pa at *
 generalize Ty.wB pg.ts ind b = pb at *
 simp only [lzA, lzC, lzN] at hlen
 have HLE := qh hlen
 have HF := qh (hF.stars (M := [blk w.heap.size (ndObj { Ty.ndOf 22 p with a := na, b := nb, c := -1 } (.slice la ln lc))]))
 have h1 := (H.allocAt (ndObj { Ty.ndOf 22 p with a := na, b := nb, c := -1 } (.slice la ln lc)) w.heap.size).swap
 have q := ndRd h1
 have q0 := q.d0
 have q1 := q.d1
 have q2 := q.d2
 have q3 := q.d3
 clear q
 have H1 := qh h1
 clear hR hlen H hF hn hsz e h1 hl1 hda hdb ha hb
 dsimp only [ndVal, Ty.ndOf] at *
 go_enter Tryz.func71, Tryz.ntmps71
 go_wp2_with fail
 refine put1 H1.out _ [105, 102, 32, 40] rfl (by have := HLE.out; (try simp only [List.length_cons, List.length_nil] at this ⊢); omega) _ (by simp) (fun w2 h2 => ?_)
 clear q0 q1 q2 q3
 have q := ndRd h2
 have q0 := q.d0
 have q1 := q.d1
 have q2 := q.d2
 have q3 := q.d3
 clear q
 have H2 := qh h2
 clear h2
 go_wp2_with fail
 refine HA.out _ _ _ HF.out H2.out (by have := HLE.out; (try simp only [lzA, lzC, lzN] at this ⊢); omega) _ (fun w3 h3 => ?_)
 clear q0 q1 q2 q3
 have q := ndRd h3
 have q0 := q.d0
 have q1 := q.d1
 have q2 := q.d2
 have q3 := q.d3
 clear q
 have H3 := qh h3
 clear h3
 go_wp2_with fail
 refine put1 H3.out _ [41, 32] rfl (by have := HLE.out; (try simp only [lzA, lzC, lzN] at this ⊢); omega) _ (by simp) (fun w4 h4 => ?_)
 clear q0 q1 q2 q3
 have q := ndRd h4
 have q0 := q.d0
 have q1 := q.d1
 have q2 := q.d2
 have q3 := q.d3
 clear q
 have H4 := qh h4
 clear h4
 go_wp2_with fail
 refine HB.out _ _ _ HF.out H4.out (by have := HLE.out; (try simp only [lzA, lzC, lzN] at this ⊢); omega) _ (fun w5 h5 => ?_)
 clear q0 q1 q2 q3
 have q := ndRd h5
 have q0 := q.d0
 have q1 := q.d1
 have q2 := q.d2
 have q3 := q.d3
 clear q
 have H5 := qh h5
 clear h5
 go_wp2_with fail
 go_end0
 refine HR.out _ ?_
 rw [show out ++ ([105, 102, 32, 40] ++ pa ++ [41, 32] ++ pb) = out ++ [105, 102, 32, 40] ++ pa ++ [41, 32] ++ pb by simp]
 exact H5.out.unswap.pick [0, 1]
theorem branch_else {p bp cp : Nat} {a : Ty.Ex} {b c : List Ty.Sm} (ha : ExC wB nv tv pg wb main a) (hb : BlC wB nv tv pg wb main b) (hc : BlC wB nv tv pg wb main c) : BrC wB nv tv pg wb main (.if_ p a bp b (some (cp, c))) := by
 intro n nd lv hd hn hl0 hl1 ind x out w Fr hx hF H hsz hlen R hR
 rw [Ty.DenS] at hd
 obtain ⟨na, nb, nc, h1, hda, hdb, hdc⟩ := hd
 rw [hn] at h1
 cases h1
 rw [Ty.szS] at hsz
 have e : Ty.wS pg.ts ind (.if_ p a bp b (some (cp, c))) = Ty.blanks ind ++ ([105, 102, 32, 40] ++ Ty.wE pg.ts ind a ++ [41, 32] ++ Ty.wB pg.ts ind b ++ [32, 101, 108, 115, 101, 32] ++ Ty.wB pg.ts ind c) ++ [10] := by rw [Ty.wS]; unfold Ty.wB; simp
 rw [e] at hx
 have hx := List.append_cancel_left (List.append_cancel_right hx)
 subst hx
 have HA := qh (fun o w1 F' hF' h ho => ha na hda 0 ind o w1 F' hF' h (by omega) (by omega) ho)
 have HB := qh (fun (o : List UInt8) (w1 : World) F' (hF' : FrB wB F') h ho => hb bp nb hdb ind o w1 F' hF' h (by omega) ho)
 have HC := qh (fun (o : List UInt8) (w1 : World) F' (hF' : FrB wB F') h ho => hc cp nc hdc ind o w1 F' hF' h (by omega) ho)
 simp only [← Ty.wP_zero pg.ts ind a] at hlen hR
 have HR := qh hR
 obtain ⟨la, ln, lc, rfl⟩ := hl0
 generalize Ty.wP pg.ts ind 0 a = pa at *
 generalize Ty.wB pg.ts ind b = pb at *
 generalize Ty.wB pg.ts ind c = pc at *
 simp only [lzA, lzC, lzN] at hlen
 have HLE := qh hlen
 have HF := qh (hF.stars (M := [blk w.heap.size (ndObj { Ty.ndOf 22 p with a := na, b := nb, c := ((nc : Nat) : Int) } (.slice la ln lc))]))
 have h1 := (H.allocAt (ndObj { Ty.ndOf 22 p with a := na, b := nb, c := ((nc : Nat) : Int) } (.slice la ln lc)) w.heap.size).swap
 have q := ndRd h1
 have q0 := q.d0
 have q1 := q.d1
 have q2 := q.d2
 have q3 := q.d3
 clear q
 have H1 := qh h1
 clear hR hlen H hF hn hsz e h1 hl1 hda hdb hdc ha hb hc
 dsimp only [ndVal, Ty.ndOf] at *
 go_enter Tryz.func71, Tryz.ntmps71
 go_wp2_with fail
 refine put1 H1.out _ [105, 102, 32, 40] rfl (by have := HLE.out; (try simp only [List.length_cons, List.length_nil] at this ⊢); omega) _ (by simp) (fun w2 h2 => ?_)
 clear q0 q1 q2 q3
 have q := ndRd h2
 have q0 := q.d0
 have q1 := q.d1
 have q2 := q.d2
 have q3 := q.d3
 clear q
 have H2 := qh h2
 clear h2
 go_wp2_with fail
 refine HA.out _ _ _ HF.out H2.out (by have := HLE.out; (try simp only [lzA, lzC, lzN] at this ⊢); omega) _ (fun w3 h3 => ?_)
 clear q0 q1 q2 q3
 have q := ndRd h3
 have q0 := q.d0
 have q1 := q.d1
 have q2 := q.d2
 have q3 := q.d3
 clear q
 have H3 := qh h3
 clear h3
 go_wp2_with fail
 refine put1 H3.out _ [41, 32] rfl (by have := HLE.out; (try simp only [lzA, lzC, lzN] at this ⊢); omega) _ (by simp) (fun w4 h4 => ?_)
 clear q0 q1 q2 q3
 have q := ndRd h4
 have q0 := q.d0
 have q1 := q.d1
 have q2 := q.d2
 have q3 := q.d3
 clear q
 have H4 := qh h4
 clear h4
 go_wp2_with fail
 refine HB.out _ _ _ HF.out H4.out (by have := HLE.out; (try simp only [lzA, lzC, lzN] at this ⊢); omega) _ (fun w5 h5 => ?_)
 clear q0 q1 q2 q3
 have q := ndRd h5
 have q0 := q.d0
 have q1 := q.d1
 have q2 := q.d2
 have q3 := q.d3
 clear q
 have H5 := qh h5
 clear h5
 go_wp2_with fail
 refine put1 H5.out _ [32, 101, 108, 115, 101, 32] rfl (by have := HLE.out; (try simp only [lzA, lzC, lzN] at this ⊢); omega) _ (by simp) (fun w6 h6 => ?_)
 clear q0 q1 q2 q3
 have q := ndRd h6
 have q0 := q.d0
 have q1 := q.d1
 have q2 := q.d2
 have q3 := q.d3
 clear q
 have H6 := qh h6
 clear h6
 go_wp2_with fail
 refine HC.out _ _ _ HF.out H6.out (by have := HLE.out; (try simp only [lzA, lzC, lzN] at this ⊢); omega) _ (fun w7 h7 => ?_)
 clear q0 q1 q2 q3
 have q := ndRd h7
 have q0 := q.d0
 have q1 := q.d1
 have q2 := q.d2
 have q3 := q.d3
 clear q
 have H7 := qh h7
 clear h7
 go_wp2_with fail
 go_end0
 refine HR.out _ ?_
 rw [show out ++ ([105, 102, 32, 40] ++ pa ++ [41, 32] ++ pb ++ [32, 101, 108, 115, 101, 32] ++ pc) = out ++ [105, 102, 32, 40] ++ pa ++ [41, 32] ++ pb ++ [32, 101, 108, 115, 101, 32] ++ pc by simp]
 exact H7.out.unswap.pick [0, 1]
end
end
end Go.Proofs.YtdlbhiaceheffabGreatDoor
