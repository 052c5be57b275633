/- Walks of show.writer's statement. -/
import Derived.Test.YtdlbhiaceheffabGreatDoorS20
set_option linter.all false
set_option maxRecDepth 100000
set_option maxHeartbeats 4000000
namespace Go.Proofs.YtdlbhiaceheffabGreatDoor
section
open Go Go.RowKit
open Prt (Sat As blk pur exs star stars)
section
variable {wB : World} {nv tv : Value} {pg : Ty.Pg} {wb : Nat} {main : Int}
theorem stmt_let (hP : PB wB nv tv pg) {p : Nat} {x : ByteArray} {ty : Int} {a : Ty.Ex} (ha : ExC wB nv tv pg wb main a) : SmC wB nv tv pg wb main (.let_ p x ty a) := by
 intro n hd ind out w Fr hF H hsz hlen R hR
 rw [Ty.DenS] at hd
 obtain ⟨na, h1, hda⟩ := hd
 rw [Ty.szS] at hsz
 have e : Ty.wS pg.ts ind (.let_ p x ty a) = Ty.blanks ind ++ [108, 101, 116, 32] ++ x.data.toList ++ Ty.colS pg.ts ty ++ [32, 61, 32] ++ Ty.wE pg.ts ind a ++ [59, 10] := by rw [Ty.wS] <;> rfl
 rw [e] at hlen hR
 have HNO := qh (fun (R : Ending → World → Prop) => wnode_any (R := R) hP hF H h1)
 have hty : Ty.TyZ ty pg.ts := (hP.ok.ns _ (List.mem_of_getElem? h1)).ty
 have HT := qh (fun (o : List UInt8) (w1 : World) F' (hF' : FrB wB F') (h : Sat wB w1 [F', wrA wb nv tv main ind o]) ho (R : Ending → World → Prop) => typed_any (R := R) hP hF' h hty ho)
 have HA := qh (fun o w1 F' hF' h ho => ha na hda 0 ind o w1 F' hF' h (by omega) (by omega) ho)
 have ea := Ty.wP_zero pg.ts ind a
 rw [← ea] at hlen hR
 have HR := qh hR
 generalize Ty.colS pg.ts ty = pc at *
 generalize Ty.wP pg.ts ind 0 a = pa at *
 simp only [lzA, lzC, lzN] at hlen
 have HLE := qh hlen
 have HS := qh H
 have HF0 := qh hF
 have hib : ind ≤ 1300 := by omega
 clear hR hlen H hF hsz e h1 hP ha hda hty ea
 go_enter Tryz.func36, Tryz.ntmps36
 go_wp2_with fail
 refine HNO.out _ (fun w1 lv hl hb1 => ?_)
 obtain ⟨la, lc, rfl⟩ := owns_slice hl
 have h2 := ((HS.out.below hb1).allocAt (ndObj { Ty.ndOf 17 p with text := x, ty := ty, a := na } (.slice la ({ Ty.ndOf 17 p with text := x, ty := ty, a := na }).list.length lc)) w1.heap.size).swap
 have HF := qh (HF0.out.stars (M := [blk w1.heap.size (ndObj { Ty.ndOf 17 p with text := x, ty := ty, a := na } (.slice la ({ Ty.ndOf 17 p with text := x, ty := ty, a := na }).list.length lc))]))
 obtain ⟨r5, rf, rl⟩ := wrIndRd (HS.out.below hb1)
 have q := ndRd h2
 have q0 := q.d0
 have q1 := q.d1
 have q5 := q.d5
 have q7 := q.d7
 have H2 := qh h2
 clear hl hb1 h2 q rf HF0 HS HNO
 dsimp only [ndVal, Ty.ndOf, List.length_nil] at *
 go_wp2_with fail
 refine repeat_any _ ind (by omega) (fun w3 hb3 => ?_)
 have h3 := H2.out.below hb3
 have q := ndRd h3
 clear q0 q1 q5 q7
 have q0 := q.d0
 have q1 := q.d1
 have q5 := q.d5
 have q7 := q.d7
 have H3 := qh h3
 clear hb3 h3 q r5 rl
 go_wp2_with fail
 refine put1 H3.out _ (Ty.blanks ind) rfl (by have := HLE.out; (try simp only [lzA, lzC, lzN] at this ⊢); omega) _ (by simp) (fun w4 h4 => ?_)
 have q := ndRd h4
 clear q0 q1 q5 q7
 have q0 := q.d0
 have q1 := q.d1
 have q5 := q.d5
 have q7 := q.d7
 have H4 := qh h4
 clear h4 q
 go_wp2_with fail
 refine put2 H4.out _ _ [108, 101, 116, 32] x.data.toList rfl (bs_of x).symm (by have := HLE.out; (try simp only [lzA, lzC, lzN] at this ⊢); omega) _ (by simp) (fun w5 h5 => ?_)
 have q := ndRd h5
 clear q0 q1 q5 q7
 have q0 := q.d0
 have q1 := q.d1
 have q5 := q.d5
 have q7 := q.d7
 have H5 := qh h5
 clear h5 q
 go_wp2_with fail
 refine HT.out _ _ _ HF.out H5.out (by have := HLE.out; (try simp only [lzA, lzC, lzN] at this ⊢); omega) _ (fun w6 h6 => ?_)
 have q := ndRd h6
 clear q0 q1 q5 q7
 have q0 := q.d0
 have q1 := q.d1
 have q5 := q.d5
 have q7 := q.d7
 have H6 := qh h6
 clear h6 q
 go_wp2_with fail
 refine put1 H6.out _ [32, 61, 32] rfl (by have := HLE.out; (try simp only [lzA, lzC, lzN] at this ⊢); omega) _ (by simp) (fun w7 h7 => ?_)
 have q := ndRd h7
 clear q0 q1 q5 q7
 have q0 := q.d0
 have q1 := q.d1
 have q5 := q.d5
 have q7 := q.d7
 have H7 := qh h7
 clear h7 q
 go_wp2_with fail
 refine HA.out _ _ _ HF.out H7.out (by have := HLE.out; (try simp only [lzA, lzC, lzN] at this ⊢); omega) _ (fun w8 h8 => ?_)
 have q := ndRd h8
 clear q0 q1 q5 q7
 have q0 := q.d0
 have q1 := q.d1
 have q5 := q.d5
 have q7 := q.d7
 have H8 := qh h8
 clear h8 q
 go_wp2_with fail
 refine put1 H8.out _ [59, 10] rfl (by have := HLE.out; (try simp only [lzA, lzC, lzN] at this ⊢); omega) _ (by simp) (fun w9 h9 => ?_)
 have H9 := qh h9
 clear h9
 go_wp2_with fail
 go_end0
 refine HR.out _ ?_
 rw [show out ++ (Ty.blanks ind ++ [108, 101, 116, 32] ++ x.data.toList ++ pc ++ [32, 61, 32] ++ pa ++ [59, 10]) = out ++ Ty.blanks ind ++ ([108, 101, 116, 32] ++ x.data.toList) ++ pc ++ [32, 61, 32] ++ pa ++ [59, 10] by simp]
 exact H9.out.unswap.pick [0, 1]
theorem stmt_set (hP : PB wB nv tv pg) {p : Nat} {x : ByteArray} {a : Ty.Ex} (ha : ExC wB nv tv pg wb main a) : SmC wB nv tv pg wb main (.set p x a) := by
 intro n hd ind out w Fr hF H hsz hlen R hR
 rw [Ty.DenS] at hd
 obtain ⟨na, h1, hda⟩ := hd
 rw [Ty.szS] at hsz
 have e : Ty.wS pg.ts ind (.set p x a) = Ty.blanks ind ++ x.data.toList ++ [32, 61, 32] ++ Ty.wE pg.ts ind a ++ [59, 10] := by rw [Ty.wS] <;> rfl
 rw [e] at hlen hR
 have HNO := qh (fun (R : Ending → World → Prop) => wnode_any (R := R) hP hF H h1)
 have HA := qh (fun o w1 F' hF' h ho => ha na hda 0 ind o w1 F' hF' h (by omega) (by omega) ho)
 have ea := Ty.wP_zero pg.ts ind a
 rw [← ea] at hlen hR
 have HR := qh hR
 generalize Ty.wP pg.ts ind 0 a = pa at *
 simp only [lzA, lzC, lzN] at hlen
 have HLE := qh hlen
 have HS := qh H
 have HF0 := qh hF
 have hib : ind ≤ 1300 := by omega
 clear hR hlen H hF hsz e h1 hP ha hda ea
 go_enter Tryz.func36, Tryz.ntmps36
 go_wp2_with fail
 refine HNO.out _ (fun w1 lv hl hb1 => ?_)
 obtain ⟨la, lc, rfl⟩ := owns_slice hl
 have h2 := ((HS.out.below hb1).allocAt (ndObj { Ty.ndOf 18 p with text := x, a := na } (.slice la ({ Ty.ndOf 18 p with text := x, a := na }).list.length lc)) w1.heap.size).swap
 have HF := qh (HF0.out.stars (M := [blk w1.heap.size (ndObj { Ty.ndOf 18 p with text := x, a := na } (.slice la ({ Ty.ndOf 18 p with text := x, a := na }).list.length lc))]))
 obtain ⟨r5, rf, rl⟩ := wrIndRd (HS.out.below hb1)
 have q := ndRd h2
 have q0 := q.d0
 have q1 := q.d1
 have q5 := q.d5
 have H2 := qh h2
 clear hl hb1 h2 q rf HF0 HS HNO
 dsimp only [ndVal, Ty.ndOf, List.length_nil] at *
 go_wp2_with fail
 refine repeat_any _ ind (by omega) (fun w3 hb3 => ?_)
 have h3 := H2.out.below hb3
 have q := ndRd h3
 clear q0 q1 q5
 have q0 := q.d0
 have q1 := q.d1
 have q5 := q.d5
 have H3 := qh h3
 clear hb3 h3 q r5 rl
 go_wp2_with fail
 refine put1 H3.out _ (Ty.blanks ind) rfl (by have := HLE.out; (try simp only [lzA, lzC, lzN] at this ⊢); omega) _ (by simp) (fun w4 h4 => ?_)
 have q := ndRd h4
 clear q0 q1 q5
 have q0 := q.d0
 have q1 := q.d1
 have q5 := q.d5
 have H4 := qh h4
 clear h4 q
 go_wp2_with fail
 refine put2 H4.out _ _ x.data.toList [32, 61, 32] (bs_of x).symm rfl (by have := HLE.out; (try simp only [lzA, lzC, lzN] at this ⊢); omega) _ (by simp) (fun w5 h5 => ?_)
 have q := ndRd h5
 clear q0 q1 q5
 have q0 := q.d0
 have q1 := q.d1
 have q5 := q.d5
 have H5 := qh h5
 clear h5 q
 go_wp2_with fail
 refine HA.out _ _ _ HF.out H5.out (by have := HLE.out; (try simp only [lzA, lzC, lzN] at this ⊢); omega) _ (fun w6 h6 => ?_)
 have q := ndRd h6
 clear q0 q1 q5
 have q0 := q.d0
 have q1 := q.d1
 have q5 := q.d5
 have H6 := qh h6
 clear h6 q
 go_wp2_with fail
 refine put1 H6.out _ [59, 10] rfl (by have := HLE.out; (try simp only [lzA, lzC, lzN] at this ⊢); omega) _ (by simp) (fun w7 h7 => ?_)
 have H7 := qh h7
 clear h7
 go_wp2_with fail
 go_end0
 refine HR.out _ ?_
 rw [show out ++ (Ty.blanks ind ++ x.data.toList ++ [32, 61, 32] ++ pa ++ [59, 10]) = out ++ Ty.blanks ind ++ (x.data.toList ++ [32, 61, 32]) ++ pa ++ [59, 10] by simp]
 exact H7.out.unswap.pick [0, 1]
theorem stmt_put (hP : PB wB nv tv pg) {p : Nat} {x : ByteArray} {a v : Ty.Ex} (ha : ExC wB nv tv pg wb main a) (hv : ExC wB nv tv pg wb main v) : SmC wB nv tv pg wb main (.put p a x v) := by
 intro n hd ind out w Fr hF H hsz hlen R hR
 rw [Ty.DenS] at hd
 obtain ⟨na, nb, h1, hda, hdv⟩ := hd
 rw [Ty.szS] at hsz
 have e : Ty.wS pg.ts ind (.put p a x v) = Ty.blanks ind ++ Ty.wP pg.ts ind 4 a ++ [46] ++ x.data.toList ++ [32, 61, 32] ++ Ty.wE pg.ts ind v ++ [59, 10] := by rw [Ty.wS] <;> rfl
 rw [e] at hlen hR
 have HNO := qh (fun (R : Ending → World → Prop) => wnode_any (R := R) hP hF H h1)
 have HA := qh (fun o w1 F' hF' h ho => ha na hda 4 ind o w1 F' hF' h (by omega) (by omega) ho)
 have HV := qh (fun o w1 F' hF' h ho => hv nb hdv 0 ind o w1 F' hF' h (by omega) (by omega) ho)
 have ev := Ty.wP_zero pg.ts ind v
 rw [← ev] at hlen hR
 have HR := qh hR
 generalize Ty.wP pg.ts ind 4 a = pa at *
 generalize Ty.wP pg.ts ind 0 v = pv at *
 simp only [lzA, lzC, lzN] at hlen
 have HLE := qh hlen
 have HS := qh H
 have HF0 := qh hF
 have hib : ind ≤ 1300 := by omega
 clear hR hlen H hF hsz e h1 hP ha hda hv hdv ev
 go_enter Tryz.func36, Tryz.ntmps36
 go_wp2_with fail
 refine HNO.out _ (fun w1 lv hl hb1 => ?_)
 obtain ⟨la, lc, rfl⟩ := owns_slice hl
 have h2 := ((HS.out.below hb1).allocAt (ndObj { Ty.ndOf 19 p with text := x, a := na, b := nb } (.slice la ({ Ty.ndOf 19 p with text := x, a := na, b := nb }).list.length lc)) w1.heap.size).swap
 have HF := qh (HF0.out.stars (M := [blk w1.heap.size (ndObj { Ty.ndOf 19 p with text := x, a := na, b := nb } (.slice la ({ Ty.ndOf 19 p with text := x, a := na, b := nb }).list.length lc))]))
 obtain ⟨r5, rf, rl⟩ := wrIndRd (HS.out.below hb1)
 have q := ndRd h2
 have q0 := q.d0
 have q1 := q.d1
 have q2 := q.d2
 have q5 := q.d5
 have H2 := qh h2
 clear hl hb1 h2 q rf HF0 HS HNO
 dsimp only [ndVal, Ty.ndOf, List.length_nil] at *
 go_wp2_with fail
 refine repeat_any _ ind (by omega) (fun w3 hb3 => ?_)
 have h3 := H2.out.below hb3
 have q := ndRd h3
 clear q0 q1 q2 q5
 have q0 := q.d0
 have q1 := q.d1
 have q2 := q.d2
 have q5 := q.d5
 have H3 := qh h3
 clear hb3 h3 q r5 rl
 go_wp2_with fail
 refine put1 H3.out _ (Ty.blanks ind) rfl (by have := HLE.out; (try simp only [lzA, lzC, lzN] at this ⊢); omega) _ (by simp) (fun w4 h4 => ?_)
 have q := ndRd h4
 clear q0 q1 q2 q5
 have q0 := q.d0
 have q1 := q.d1
 have q2 := q.d2
 have q5 := q.d5
 have H4 := qh h4
 clear h4 q
 go_wp2_with fail
 refine HA.out _ _ _ HF.out H4.out (by have := HLE.out; (try simp only [List.length_append] at this ⊢); omega) _ (fun w5 h5 => ?_)
 have q := ndRd h5
 clear q0 q1 q2 q5
 have q0 := q.d0
 have q1 := q.d1
 have q2 := q.d2
 have q5 := q.d5
 have H5 := qh h5
 clear h5 q
 go_wp2_with fail
 refine put3 H5.out _ _ _ [46] x.data.toList [32, 61, 32] rfl (bs_of x).symm rfl (by have := HLE.out; (try simp only [lzA, lzC, lzN] at this ⊢); omega) _ (by simp) (fun w6 h6 => ?_)
 have q := ndRd h6
 clear q0 q1 q2 q5
 have q0 := q.d0
 have q1 := q.d1
 have q2 := q.d2
 have q5 := q.d5
 have H6 := qh h6
 clear h6 q
 go_wp2_with fail
 refine HV.out _ _ _ HF.out H6.out (by have := HLE.out; (try simp only [lzA, lzC, lzN] at this ⊢); omega) _ (fun w7 h7 => ?_)
 have q := ndRd h7
 clear q0 q1 q2 q5
 have q0 := q.d0
 have q1 := q.d1
 have q2 := q.d2
 have q5 := q.d5
 have H7 := qh h7
 clear h7 q
 go_wp2_with fail
 refine put1 H7.out _ [59, 10] rfl (by have := HLE.out; (try simp only [lzA, lzC, lzN] at this ⊢); omega) _ (by simp) (fun w8 h8 => ?_)
 have H8 := qh h8
 clear h8
 go_wp2_with fail
 go_end0
 refine HR.out _ ?_
 rw [show out ++ (Ty.blanks ind ++ pa ++ [46] ++ x.data.toList ++ [32, 61, 32] ++ pv ++ [59, 10]) = out ++ Ty.blanks ind ++ pa ++ ([46] ++ (x.data.toList ++ [32, 61, 32])) ++ pv ++ [59, 10] by simp]
 exact H8.out.unswap.pick [0, 1]
theorem stmt_lay (hP : PB wB nv tv pg) {p : Nat} {a b v : Ty.Ex} (ha : ExC wB nv tv pg wb main a) (hb : ExC wB nv tv pg wb main b) (hv : ExC wB nv tv pg wb main v) : SmC wB nv tv pg wb main (.lay p a b v) := by
 intro n hd ind out w Fr hF H hsz hlen R hR
 rw [Ty.DenS] at hd
 obtain ⟨na, nb, nc, h1, hda, hdb, hdv⟩ := hd
 rw [Ty.szS] at hsz
 have e : Ty.wS pg.ts ind (.lay p a b v) = Ty.blanks ind ++ Ty.wP pg.ts ind 4 a ++ [91] ++ Ty.wE pg.ts ind b ++ [93, 32, 61, 32] ++ Ty.wE pg.ts ind v ++ [59, 10] := by rw [Ty.wS] <;> rfl
 rw [e] at hlen hR
 have HNO := qh (fun (R : Ending → World → Prop) => wnode_any (R := R) hP hF H h1)
 have HA := qh (fun o w1 F' hF' h ho => ha na hda 4 ind o w1 F' hF' h (by omega) (by omega) ho)
 have HB := qh (fun o w1 F' hF' h ho => hb nb hdb 0 ind o w1 F' hF' h (by omega) (by omega) ho)
 have HV := qh (fun o w1 F' hF' h ho => hv nc hdv 0 ind o w1 F' hF' h (by omega) (by omega) ho)
 have eb := Ty.wP_zero pg.ts ind b
 have ev := Ty.wP_zero pg.ts ind v
 simp only [← eb, ← ev] at hlen hR
 have HR := qh hR
 generalize Ty.wP pg.ts ind 4 a = pa at *
 generalize Ty.wP pg.ts ind 0 b = pb at *
 generalize Ty.wP pg.ts ind 0 v = pv at *
 simp only [lzA, lzC, lzN] at hlen
 have HLE := qh hlen
 have HS := qh H
 have HF0 := qh hF
 have hib : ind ≤ 1300 := by omega
 clear hR hlen H hF hsz e h1 hP ha hda hb hdb hv hdv eb ev
 go_enter Tryz.func36, Tryz.ntmps36
 go_wp2_with fail
 refine HNO.out _ (fun w1 lv hl hb1 => ?_)
 obtain ⟨la, lc, rfl⟩ := owns_slice hl
 have h2 := ((HS.out.below hb1).allocAt (ndObj { Ty.ndOf 20 p with a := na, b := nb, c := ((nc : Nat) : Int) } (.slice la ({ Ty.ndOf 20 p with a := na, b := nb, c := ((nc : Nat) : Int) }).list.length lc)) w1.heap.size).swap
 have HF := qh (HF0.out.stars (M := [blk w1.heap.size (ndObj { Ty.ndOf 20 p with a := na, b := nb, c := ((nc : Nat) : Int) } (.slice la ({ Ty.ndOf 20 p with a := na, b := nb, c := ((nc : Nat) : Int) }).list.length lc))]))
 obtain ⟨r5, rf, rl⟩ := wrIndRd (HS.out.below hb1)
 have q := ndRd h2
 have q0 := q.d0
 have q1 := q.d1
 have q2 := q.d2
 have q3 := q.d3
 have H2 := qh h2
 clear hl hb1 h2 q rf HF0 HS HNO
 dsimp only [ndVal, Ty.ndOf, List.length_nil] at *
 go_wp2_with fail
 refine repeat_any _ ind (by omega) (fun w3 hb3 => ?_)
 have h3 := H2.out.below hb3
 have q := ndRd h3
 clear q0 q1 q2 q3
 have q0 := q.d0
 have q1 := q.d1
 have q2 := q.d2
 have q3 := q.d3
 have H3 := qh h3
 clear hb3 h3 q r5 rl
 go_wp2_with fail
 refine put1 H3.out _ (Ty.blanks ind) rfl (by have := HLE.out; (try simp only [lzA, lzC, lzN] at this ⊢); omega) _ (by simp) (fun w4 h4 => ?_)
 have q := ndRd h4
 clear q0 q1 q2 q3
 have q0 := q.d0
 have q1 := q.d1
 have q2 := q.d2
 have q3 := q.d3
 have H4 := qh h4
 clear h4 q
 go_wp2_with fail
 refine HA.out _ _ _ HF.out H4.out (by have := HLE.out; (try simp only [List.length_append] at this ⊢); omega) _ (fun w5 h5 => ?_)
 have q := ndRd h5
 clear q0 q1 q2 q3
 have q0 := q.d0
 have q1 := q.d1
 have q2 := q.d2
 have q3 := q.d3
 have H5 := qh h5
 clear h5 q
 go_wp2_with fail
 refine put1 H5.out _ [91] rfl (by have := HLE.out; (try simp only [lzA, lzC, lzN] at this ⊢); omega) _ (by simp) (fun w6 h6 => ?_)
 have q := ndRd h6
 clear q0 q1 q2 q3
 have q0 := q.d0
 have q1 := q.d1
 have q2 := q.d2
 have q3 := q.d3
 have H6 := qh h6
 clear h6 q
 go_wp2_with fail
 refine HB.out _ _ _ HF.out H6.out (by have := HLE.out; (try simp only [lzA, lzC, lzN] at this ⊢); omega) _ (fun w7 h7 => ?_)
 have q := ndRd h7
 clear q0 q1 q2 q3
 have q0 := q.d0
 have q1 := q.d1
 have q2 := q.d2
 have q3 := q.d3
 have H7 := qh h7
 clear h7 q
 go_wp2_with fail
 refine put1 H7.out _ [93, 32, 61, 32] rfl (by have := HLE.out; (try simp only [lzA, lzC, lzN] at this ⊢); omega) _ (by simp) (fun w8 h8 => ?_)
 have q := ndRd h8
 clear q0 q1 q2 q3
 have q0 := q.d0
 have q1 := q.d1
 have q2 := q.d2
 have q3 := q.d3
 have H8 := qh h8
 clear h8 q
 go_wp2_with fail
 refine HV.out _ _ _ HF.out H8.out (by have := HLE.out; (try simp only [lzA, lzC, lzN] at this ⊢); omega) _ (fun w9 h9 => ?_)
 have q := ndRd h9
 clear q0 q1 q2 q3
 have q0 := q.d0
 have q1 := q.d1
 have q2 := q.d2
 have q3 := q.d3
 have H9 := qh h9
 clear h9 q
 go_wp2_with fail
 refine put1 H9.out _ [59, 10] rfl (by have := HLE.out; (try simp only [lzA, lzC, lzN] at this ⊢); omega) _ (by simp) (fun w10 h10 => ?_)
 have H10 := qh h10
 clear h10
 go_wp2_with fail
 go_end0
 refine HR.out _ ?_
 rw [show out ++ (Ty.blanks ind ++ pa ++ [91] ++ pb ++ [93, 32, 61, 32] ++ pv ++ [59, 10]) = out ++ Ty.blanks ind ++ pa ++ [91] ++ pb ++ [93, 32, 61, 32] ++ pv ++ [59, 10] by simp]
 exact H10.out.unswap.pick [0, 1]
theorem stmt_print (hP : PB wB nv tv pg) {p : Nat} {a : Ty.Ex} (ha : ExC wB nv tv pg wb main a) : SmC wB nv tv pg wb main (.print p a) := by
 intro n hd ind out w Fr hF H hsz hlen R hR
 rw [Ty.DenS] at hd
 obtain ⟨na, h1, hda⟩ := hd
 rw [Ty.szS] at hsz
 have e : Ty.wS pg.ts ind (.print p a) = Ty.blanks ind ++ [112, 114, 105, 110, 116, 32] ++ Ty.wE pg.ts ind a ++ [59, 10] := by rw [Ty.wS] <;> rfl
 rw [e] at hlen hR
 have HNO := qh (fun (R : Ending → World → Prop) => wnode_any (R := R) hP hF H h1)
 have HA := qh (fun o w1 F' hF' h ho => ha na hda 0 ind o w1 F' hF' h (by omega) (by omega) ho)
 have ea := Ty.wP_zero pg.ts ind a
 rw [← ea] at hlen hR
 have HR := qh hR
 generalize Ty.wP pg.ts ind 0 a = pa at *
 simp only [lzA, lzC, lzN] at hlen
 have HLE := qh hlen
 have HS := qh H
 have HF0 := qh hF
 have hib : ind ≤ 1300 := by omega
 clear hR hlen H hF hsz e h1 hP ha hda ea
 go_enter Tryz.func36, Tryz.ntmps36
 go_wp2_with fail
 refine HNO.out _ (fun w1 lv hl hb1 => ?_)
 obtain ⟨la, lc, rfl⟩ := owns_slice hl
 have h2 := ((HS.out.below hb1).allocAt (ndObj { Ty.ndOf 21 p with a := na } (.slice la ({ Ty.ndOf 21 p with a := na }).list.length lc)) w1.heap.size).swap
 have HF := qh (HF0.out.stars (M := [blk w1.heap.size (ndObj { Ty.ndOf 21 p with a := na } (.slice la ({ Ty.ndOf 21 p with a := na }).list.length lc))]))
 obtain ⟨r5, rf, rl⟩ := wrIndRd (HS.out.below hb1)
 have q := ndRd h2
 have q0 := q.d0
 have q1 := q.d1
 have H2 := qh h2
 clear hl hb1 h2 q rf HF0 HS HNO
 dsimp only [ndVal, Ty.ndOf, List.length_nil] at *
 go_wp2_with fail
 refine repeat_any _ ind (by omega) (fun w3 hb3 => ?_)
 have h3 := H2.out.below hb3
 have q := ndRd h3
 clear q0 q1
 have q0 := q.d0
 have q1 := q.d1
 have H3 := qh h3
 clear hb3 h3 q r5 rl
 go_wp2_with fail
 refine put1 H3.out _ (Ty.blanks ind) rfl (by have := HLE.out; (try simp only [lzA, lzC, lzN] at this ⊢); omega) _ (by simp) (fun w4 h4 => ?_)
 have q := ndRd h4
 clear q0 q1
 have q0 := q.d0
 have q1 := q.d1
 have H4 := qh h4
 clear h4 q
 go_wp2_with fail
 refine put1 H4.out _ [112, 114, 105, 110, 116, 32] rfl (by have := HLE.out; (try simp only [lzA, lzC, lzN] at this ⊢); omega) _ (by simp) (fun w5 h5 => ?_)
 have q := ndRd h5
 clear q0 q1
 have q0 := q.d0
 have q1 := q.d1
 have H5 := qh h5
 clear h5 q
 go_wp2_with fail
 refine HA.out _ _ _ HF.out H5.out (by have := HLE.out; (try simp only [lzA, lzC, lzN] at this ⊢); omega) _ (fun w6 h6 => ?_)
 have q := ndRd h6
 clear q0 q1
 have q0 := q.d0
 have q1 := q.d1
 have H6 := qh h6
 clear h6 q
 go_wp2_with fail
 refine put1 H6.out _ [59, 10] rfl (by have := HLE.out; (try simp only [lzA, lzC, lzN] at this ⊢); omega) _ (by simp) (fun w7 h7 => ?_)
 have H7 := qh h7
 clear h7
 go_wp2_with fail
 go_end0
 refine HR.out _ ?_
 rw [show out ++ (Ty.blanks ind ++ [112, 114, 105, 110, 116, 32] ++ pa ++ [59, 10]) = out ++ Ty.blanks ind ++ [112, 114, 105, 110, 116, 32] ++ pa ++ [59, 10] by simp]
 exact H7.out.unswap.pick [0, 1]
theorem stmt_ret (hP : PB wB nv tv pg) {p : Nat} {a : Ty.Ex} (ha : ExC wB nv tv pg wb main a) : SmC wB nv tv pg wb main (.ret p a) := by
 intro n hd ind out w Fr hF H hsz hlen R hR
 rw [Ty.DenS] at hd
 obtain ⟨na, h1, hda⟩ := hd
 rw [Ty.szS] at hsz
 have e : Ty.wS pg.ts ind (.ret p a) = Ty.blanks ind ++ [114, 101, 116, 117, 114, 110, 32] ++ Ty.wE pg.ts ind a ++ [59, 10] := by rw [Ty.wS] <;> rfl
 rw [e] at hlen hR
 have HNO := qh (fun (R : Ending → World → Prop) => wnode_any (R := R) hP hF H h1)
 have HA := qh (fun o w1 F' hF' h ho => ha na hda 0 ind o w1 F' hF' h (by omega) (by omega) ho)
 have ea := Ty.wP_zero pg.ts ind a
 rw [← ea] at hlen hR
 have HR := qh hR
 generalize Ty.wP pg.ts ind 0 a = pa at *
 simp only [lzA, lzC, lzN] at hlen
 have HLE := qh hlen
 have HS := qh H
 have HF0 := qh hF
 have hib : ind ≤ 1300 := by omega
 clear hR hlen H hF hsz e h1 hP ha hda ea
 go_enter Tryz.func36, Tryz.ntmps36
 go_wp2_with fail
 refine HNO.out _ (fun w1 lv hl hb1 => ?_)
 obtain ⟨la, lc, rfl⟩ := owns_slice hl
 have h2 := ((HS.out.below hb1).allocAt (ndObj { Ty.ndOf 24 p with a := na } (.slice la ({ Ty.ndOf 24 p with a := na }).list.length lc)) w1.heap.size).swap
 have HF := qh (HF0.out.stars (M := [blk w1.heap.size (ndObj { Ty.ndOf 24 p with a := na } (.slice la ({ Ty.ndOf 24 p with a := na }).list.length lc))]))
 obtain ⟨r5, rf, rl⟩ := wrIndRd (HS.out.below hb1)
 have q := ndRd h2
 have q0 := q.d0
 have q1 := q.d1
 have H2 := qh h2
 clear hl hb1 h2 q rf HF0 HS HNO
 dsimp only [ndVal, Ty.ndOf, List.length_nil] at *
 go_wp2_with fail
 refine repeat_any _ ind (by omega) (fun w3 hb3 => ?_)
 have h3 := H2.out.below hb3
 have q := ndRd h3
 clear q0 q1
 have q0 := q.d0
 have q1 := q.d1
 have H3 := qh h3
 clear hb3 h3 q r5 rl
 go_wp2_with fail
 refine put1 H3.out _ (Ty.blanks ind) rfl (by have := HLE.out; (try simp only [lzA, lzC, lzN] at this ⊢); omega) _ (by simp) (fun w4 h4 => ?_)
 have q := ndRd h4
 clear q0 q1
 have q0 := q.d0
 have q1 := q.d1
 have H4 := qh h4
 clear h4 q
 go_wp2_with fail
 refine put1 H4.out _ [114, 101, 116, 117, 114, 110, 32] rfl (by have := HLE.out; (try simp only [lzA, lzC, lzN] at this ⊢); omega) _ (by simp) (fun w5 h5 => ?_)
 have q := ndRd h5
 clear q0 q1
 have q0 := q.d0
 have q1 := q.d1
 have H5 := qh h5
 clear h5 q
 go_wp2_with fail
 refine HA.out _ _ _ HF.out H5.out (by have := HLE.out; (try simp only [lzA, lzC, lzN] at this ⊢); omega) _ (fun w6 h6 => ?_)
 have q := ndRd h6
 clear q0 q1
 have q0 := q.d0
 have q1 := q.d1
 have H6 := qh h6
 clear h6 q
 go_wp2_with fail
 refine put1 H6.out _ [59, 10] rfl (by have := HLE.out; (try simp only [lzA, lzC, lzN] at this ⊢); omega) _ (by simp) (fun w7 h7 => ?_)
 have H7 := qh h7
 clear h7
 go_wp2_with fail
 go_end0
 refine HR.out _ ?_
 rw [show out ++ (Ty.blanks ind ++ [114, 101, 116, 117, 114, 110, 32] ++ pa ++ [59, 10]) = out ++ Ty.blanks ind ++ [114, 101, 116, 117, 114, 110, 32] ++ pa ++ [59, 10] by simp]
 exact H7.out.unswap.pick [0, 1]
theorem stmt_do (hP : PB wB nv tv pg) {p : Nat} {a : Ty.Ex} (ha : ExC wB nv tv pg wb main a) : SmC wB nv tv pg wb main (.do_ p a) := by
 intro n hd ind out w Fr hF H hsz hlen R hR
 rw [Ty.DenS] at hd
 obtain ⟨na, h1, hda⟩ := hd
 rw [Ty.szS] at hsz
 have e : Ty.wS pg.ts ind (.do_ p a) = Ty.blanks ind ++ Ty.wE pg.ts ind a ++ [59, 10] := by rw [Ty.wS] <;> rfl
 rw [e] at hlen hR
 have HNO := qh (fun (R : Ending → World → Prop) => wnode_any (R := R) hP hF H h1)
 have HA := qh (fun o w1 F' hF' h ho => ha na hda 0 ind o w1 F' hF' h (by omega) (by omega) ho)
 have ea := Ty.wP_zero pg.ts ind a
 rw [← ea] at hlen hR
 have HR := qh hR
 generalize Ty.wP pg.ts ind 0 a = pa at *
 simp only [lzA, lzC, lzN] at hlen
 have HLE := qh hlen
 have HS := qh H
 have HF0 := qh hF
 have hib : ind ≤ 1300 := by omega
 clear hR hlen H hF hsz e h1 hP ha hda ea
 go_enter Tryz.func36, Tryz.ntmps36
 go_wp2_with fail
 refine HNO.out _ (fun w1 lv hl hb1 => ?_)
 obtain ⟨la, lc, rfl⟩ := owns_slice hl
 have h2 := ((HS.out.below hb1).allocAt (ndObj { Ty.ndOf 25 p with a := na } (.slice la ({ Ty.ndOf 25 p with a := na }).list.length lc)) w1.heap.size).swap
 have HF := qh (HF0.out.stars (M := [blk w1.heap.size (ndObj { Ty.ndOf 25 p with a := na } (.slice la ({ Ty.ndOf 25 p with a := na }).list.length lc))]))
 obtain ⟨r5, rf, rl⟩ := wrIndRd (HS.out.below hb1)
 have q := ndRd h2
 have q0 := q.d0
 have q1 := q.d1
 have H2 := qh h2
 clear hl hb1 h2 q rf HF0 HS HNO
 dsimp only [ndVal, Ty.ndOf, List.length_nil] at *
 go_wp2_with fail
 refine repeat_any _ ind (by omega) (fun w3 hb3 => ?_)
 have h3 := H2.out.below hb3
 have q := ndRd h3
 clear q0 q1
 have q0 := q.d0
 have q1 := q.d1
 have H3 := qh h3
 clear hb3 h3 q r5 rl
 go_wp2_with fail
 refine put1 H3.out _ (Ty.blanks ind) rfl (by have := HLE.out; (try simp only [lzA, lzC, lzN] at this ⊢); omega) _ (by simp) (fun w4 h4 => ?_)
 have q := ndRd h4
 clear q0 q1
 have q0 := q.d0
 have q1 := q.d1
 have H4 := qh h4
 clear h4 q
 go_wp2_with fail
 refine HA.out _ _ _ HF.out H4.out (by have := HLE.out; (try simp only [List.length_append] at this ⊢); omega) _ (fun w5 h5 => ?_)
 have q := ndRd h5
 clear q0 q1
 have q0 := q.d0
 have q1 := q.d1
 have H5 := qh h5
 clear h5 q
 go_wp2_with fail
 refine put1 H5.out _ [59, 10] rfl (by have := HLE.out; (try simp only [lzA, lzC, lzN] at this ⊢); omega) _ (by simp) (fun w6 h6 => ?_)
 have H6 := qh h6
 clear h6
 go_wp2_with fail
 go_end0
 refine HR.out _ ?_
 rw [show out ++ (Ty.blanks ind ++ pa ++ [59, 10]) = out ++ Ty.blanks ind ++ pa ++ [59, 10] by simp]
 exact H6.out.unswap.pick [0, 1]
end
end
end Go.Proofs.YtdlbhiaceheffabGreatDoor
