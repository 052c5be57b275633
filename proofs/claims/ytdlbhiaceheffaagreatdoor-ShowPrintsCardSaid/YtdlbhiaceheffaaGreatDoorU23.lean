/- Walk of show.writer's block. Walks of show.writer's branch and statement. -/
import Derived.Test.YtdlbhiaceheffaaGreatDoorU22
set_option linter.all false
set_option maxRecDepth 100000
set_option maxHeartbeats 4000000
namespace Go.Proofs.YtdlbhiaceheffaaGreatDoor
section
open Go Go.RowKit
open Prt (Sat As blk pur exs star stars)
namespace Ty
theorem DenSs.len {ns : List Nd} : ∀ {l : List Sm} {nl : List Nat}, DenSs ns l nl → nl.length = l.length
 | [], _, h => by rw [DenSs] at h; rw [h]; rfl
 | e :: l, _, h => by rw [DenSs] at h; obtain ⟨n, t, rfl, _, h2⟩ := h; simp [h2.len]
theorem DenSs.get {ns : List Nd} : ∀ {l : List Sm} {nl : List Nat}, DenSs ns l nl → ∀ k (h1 : k < l.length) (h2 : k < nl.length), DenS ns l[k] nl[k]
 | [], _, _, k, h1, _ => by simp at h1
 | e :: l, _, h, k, h1, h2 => by
   rw [DenSs] at h
   obtain ⟨n, t, rfl, h3, h4⟩ := h
   cases k with
   | zero => exact h3
   | succ k => exact h4.get k (by simpa using h1) (by simpa using h2)
theorem wSs_map (ts : List Ty) (ind : Nat) : ∀ l : List Sm, wSs ts ind l = (l.map (wS ts ind)).flatten
 | [] => by rw [wSs]; rfl
 | e :: l => by rw [wSs, wSs_map ts ind l]; rfl
theorem wSs_step (ts : List Ty) (ind : Nat) (l : List Sm) (k : Nat) (hk : k < l.length) : wSs ts ind (l.take (k + 1)) = wSs ts ind (l.take k) ++ wS ts ind l[k] := by
 rw [wSs_map, wSs_map, List.take_succ_eq_append_getElem hk, List.map_append, List.flatten_append]; simp
theorem wSs_part (ts : List Ty) (ind : Nat) (l : List Sm) (k : Nat) : (wSs ts ind (l.take k)).length ≤ (wSs ts ind l).length := by
 have e : wSs ts ind l = wSs ts ind (l.take k) ++ wSs ts ind (l.drop k) := by rw [wSs_map, wSs_map, wSs_map, ← List.flatten_append, ← List.map_append, List.take_append_drop]
 rw [e, List.length_append]; omega
theorem szSs_in : ∀ {l : List Sm} {e : Sm}, e ∈ l → szS e ≤ szSs l
 | [], _, h => by simp at h
 | a :: l, e, h => by
   rw [szSs]
   rcases List.mem_cons.1 h with rfl | h
   · omega
   · have := szSs_in h; omega
theorem szSs_len : ∀ l : List Sm, l.length ≤ szSs l
 | [] => by simp
 | e :: l => by
   have := szSs_len l
   have h1 : 1 ≤ szS e := by
     cases e with
     | if_ p a bp b c => cases c with
       | none => simp [szS]
       | some c => obtain ⟨cp, c⟩ := c; simp [szS]
     | _ => simp [szS]
   rw [szSs]; simp; omega
end Ty
def SmC (wB : World) (nv tv : Value) (pg : Ty.Pg) (wb : Nat) (main : Int) (s : Ty.Sm) : Prop :=
 ∀ (n : Nat), Ty.DenS pg.ns s n → ∀ (ind : Nat) (out : List UInt8) (w : World) (Fr : As), FrB wB Fr → Sat wB w [Fr, wrA wb nv tv main ind out] → ind + Ty.szS s ≤ 1300 →
   out.length + (Ty.wS pg.ts ind s).length ≤ 900000000 → ∀ R : Ending → World → Prop, (∀ w', Sat wB w' [Fr, wrA wb nv tv main ind (out ++ Ty.wS pg.ts ind s)] → R (.returned (.tuple #[])) w') →
   Calls Tryz.prog 41 #[.pointer (some ⟨wb, 0, none⟩), .int .i64 (n : Nat)] w R
section
variable {wB w : World} {Fr : As} {wb : Nat} {nv tv : Value} {pg : Ty.Pg} {main : Int} {ind : Nat} {out : List UInt8}
theorem field_nd4 (a b c d e f g h i : Value) (w : World) : (Instr.field 74 (.agg #[a, b, c, d, e, f, g, h, i]) 4).run Tryz.prog w = .ok e w := by kernel_rfl
theorem wrIndRd (H : Sat wB w [Fr, wrA wb nv tv main ind out]) : w.cell? ⟨wb, 5, none⟩ = some (.int .i64 (ind : Nat)) ∧ (∀ o, w.frozen? ⟨wb, o, none⟩ = false) ∧ wb < w.heap.size := by
 obtain ⟨p, v, h⟩ := H.openWr
 exact ⟨h.cell 2 rfl 5 rfl, h.free 2 rfl, h.lt 2 rfl⟩
theorem wrSetInd (H : Sat wB w [Fr, wrA wb nv tv main ind out]) (j : Nat) : Sat wB (w.setCell ⟨wb, 5, none⟩ (.int .i64 (j : Nat))) [Fr, wrA wb nv tv main j out] := by
 obtain ⟨p, v, h⟩ := H.openWr
 exact Prt.Sat.shutWr (q := (p, v)) (h.store 2 rfl 5 (.int .i64 (j : Nat)))
theorem wblock_any (hP : PB wB nv tv pg) {l : List Ty.Sm} (hS : ∀ e ∈ l, SmC wB nv tv pg wb main e) : BlC wB nv tv pg wb main l := by
 intro bp n hd ind out w Fr hF H hsz hlen R hR
 rw [Ty.DenB] at hd
 obtain ⟨nl, hn, hd⟩ := hd
 have hll := hd.len
 have hsl := Ty.szSs_len l
 have HNO := qh (fun (w1 : World) (i : Nat) (o : List UInt8) (h : Sat wB w1 [Fr, wrA wb nv tv main i o]) (R : Ending → World → Prop) => wnode_any (R := R) hP hF h hn)
 unfold Ty.wB at hlen hR
 have HST := qh (fun (k : Nat) (hk : k < l.length) (hk2 : k < nl.length) (o : List UInt8) (w1 : World) (h : Sat wB w1 [Fr, wrA wb nv tv main (ind + 1) o]) (ho : o.length + (Ty.wS pg.ts (ind + 1) l[k]).length ≤ 900000000) => hS l[k] (List.getElem_mem hk) nl[k] (hd.get k hk hk2) (ind + 1) o w1 Fr hF h (by have := Ty.szSs_in (List.getElem_mem hk); omega) ho)
 have HR := qh hR
 have HF := qh hF
 have HLL := qh hll
 have HS := qh H
 have hib : ind ≤ 1300 := by omega
 simp only [lzA, lzC, lzN] at hlen
 have HLE := qh hlen
 have hnl : nl.length ≤ 1300 := by omega
 have hf4 := field_nd4
 clear hR hlen H hF hS hd hn hP hll hsl hsz
 go_enter Tryz.func119, Tryz.ntmps119
 go_wp2_with fail
 refine put1 HS.out _ [123, 10] rfl (by have := HLE.out; simp only [List.length_cons, List.length_nil] at this ⊢; omega) _ (by simp) (fun w1 h1 => ?_)
 obtain ⟨q5, qf, ql⟩ := wrIndRd h1
 have h2 := wrSetInd h1 (ind + 1)
 rw [show ((ind + 1 : Nat) : Int) = (ind : Int) + 1 by omega] at h2
 have H2 := qh h2
 clear h1 h2
 go_wp2_with fail
 refine HNO.out _ _ _ H2.out _ (fun w2 lv hl hb2 => ?_)
 obtain ⟨la, lc, rfl⟩ := owns_slice hl
 have HL := qh hl
 have h3 := H2.out.below hb2
 have H3 := qh h3
 clear hb2 h3 hl q5 qf ql
 dsimp only [ndVal]
 go_wp2_with fail
 go_loopw [21] (fun i wr => ∃ k : Nat, k ≤ nl.length ∧ i = .int .i64 k ∧ Hid (Sat wB wr [Fr, wrA wb nv tv main (ind + 1) (out ++ [123, 10] ++ Ty.wSs pg.ts (ind + 1) (l.take k))])) (fun i _ => nl.length - (intOf i).toNat)
 case atStart => exact ⟨0, by omega, rfl, by rw [List.take_zero, Ty.wSs, List.append_nil]; exact H3.out⟩
 case round =>
   obtain ⟨k, hk, rfl, hSt⟩ := hrel
   by_cases hlt : k < nl.length
   · have hb := HF.out wr _ 0 hSt.out rfl
     obtain ⟨g, cap2, e, hg, d0⟩ := ints_at (owns_below HL.out hb) k hlt
     cases e
     have hkl : k < l.length := by have := HLL.out; omega
     have hst := Ty.wSs_step pg.ts (ind + 1) l k hkl
     have hpt := Ty.wSs_part pg.ts (ind + 1) l (k + 1)
     have HD := qh (HST.out k hkl hlt)
     rw [hst, List.length_append] at hpt
     have HPT := qh hpt
     have HSTP := qh hst
     generalize l[k] = s at *
     generalize nl[k] = m at *
     clear hst hpt hb hkl
     go_wp2_with fail
     refine HD.out _ _ hSt.out (by have := HLE.out; have := HPT.out; simp only [lzA, lzC, lzN]; omega) _ (fun w4 h4 => ?_)
     have h5 : Sat wB w4 [Fr, wrA wb nv tv main (ind + 1) (out ++ [123, 10] ++ Ty.wSs pg.ts (ind + 1) (l.take (k + 1)))] := by rw [HSTP.out, ← List.append_assoc]; exact h4
     have H5 := qh h5
     clear h4 h5
     go_wp2_with fail
     go_roundw
     case rel => exact ⟨k + 1, by omega, by go_num, H5.out⟩
     case measure => simp [intOf]; omega
   · have e : k = nl.length := by omega
     subst e
     have h1 := hSt.out
     rw [HLL.out, List.take_length] at h1
     obtain ⟨q5, qf, ql⟩ := wrIndRd h1
     rw [show ((ind + 1 : Nat) : Int) = (ind : Int) + 1 by omega] at q5
     have h2 := wrSetInd h1 ind
     have q5' := (wrIndRd h2).1
     have H2 := qh h2
     clear h1 h2
     go_wp2_with fail
     refine repeat_any _ ind (by omega) (fun w6 hb6 => ?_)
     have H6 := qh (H2.out.below hb6)
     clear hb6
     go_wp2_with fail
     refine put2 H6.out _ _ (Ty.blanks ind) [125] rfl rfl (by have := HLE.out; simp only [lzA, lzC, lzN]; omega) _ (by simp) (fun w7 h7 => ?_)
     have H7 := qh h7
     clear h7
     go_wp2_with fail
     go_end0
     refine HR.out _ ?_
     rw [show out ++ ([123, 10] ++ Ty.wSs pg.ts (ind + 1) l ++ Ty.blanks ind ++ [125]) = out ++ [123, 10] ++ Ty.wSs pg.ts (ind + 1) l ++ (Ty.blanks ind ++ [125]) by simp]
     exact H7.out
end
end
section
open Go Go.RowKit
open Prt (Sat As blk pur exs star stars)
structure NdRd (w : World) (b : Nat) (nd : Ty.Nd) (lv : Value) : Prop where
 d0 : w.cell? ⟨b, 0, none⟩ = some (.int .i64 nd.kind)
 d1 : w.cell? ⟨b, 1, none⟩ = some (.int .i64 nd.a)
 d2 : w.cell? ⟨b, 2, none⟩ = some (.int .i64 nd.b)
 d3 : w.cell? ⟨b, 3, none⟩ = some (.int .i64 nd.c)
 d4 : w.cell? ⟨b, 4, none⟩ = some lv
 d5 : w.cell? ⟨b, 5, none⟩ = some (.string nd.text)
 d6 : w.cell? ⟨b, 6, none⟩ = some (.int .i64 nd.n)
 d7 : w.cell? ⟨b, 7, none⟩ = some (.int .i64 nd.ty)
 d8 : w.cell? ⟨b, 8, none⟩ = some (.int .i64 nd.pos)
section
variable {wB : World} {nv tv : Value} {pg : Ty.Pg} {wb : Nat} {main : Int}
theorem ndRd {w : World} {Fr : As} {ind : Nat} {out : List UInt8} {b : Nat} {nd : Ty.Nd} {lv : Value} (h : Sat wB w [stars [Fr, blk b (ndObj nd lv)], wrA wb nv tv main ind out]) : NdRd w b nd lv :=
 ⟨h.unswap.cell 2 rfl 0 rfl, h.unswap.cell 2 rfl 1 rfl, h.unswap.cell 2 rfl 2 rfl, h.unswap.cell 2 rfl 3 rfl, h.unswap.cell 2 rfl 4 rfl, h.unswap.cell 2 rfl 5 rfl, h.unswap.cell 2 rfl 6 rfl, h.unswap.cell 2 rfl 7 rfl, h.unswap.cell 2 rfl 8 rfl⟩
def BrC (wB : World) (nv tv : Value) (pg : Ty.Pg) (wb : Nat) (main : Int) (s : Ty.Sm) : Prop :=
 ∀ (n : Nat) (nd : Ty.Nd) (lv : Value), Ty.DenS pg.ns s n → pg.ns[n]? = some nd → (∃ a m c, lv = .slice a m c) → nd.list.length = 0 →
   ∀ (ind : Nat) (x out : List UInt8) (w : World) (Fr : As), Ty.wS pg.ts ind s = Ty.blanks ind ++ x ++ [10] → FrB wB Fr → Sat wB w [Fr, wrA wb nv tv main ind out] → ind + Ty.szS s ≤ 1300 →
   out.length + x.length ≤ 900000000 → ∀ R : Ending → World → Prop, (∀ w', Sat wB w' [Fr, wrA wb nv tv main ind (out ++ x)] → R (.returned (.tuple #[])) w') →
   Calls Tryz.prog 84 #[.pointer (some ⟨wb, 0, none⟩), ndVal nd lv] w R
theorem branch_while {p bp : Nat} {a : Ty.Ex} {b : List Ty.Sm} (ha : ExC wB nv tv pg wb main a) (hb : BlC wB nv tv pg wb main b) : BrC wB nv tv pg wb main (.while_ p a bp b) := by
 intro n nd lv hd hn hl0 hl1 ind x out w Fr hx hF H hsz hlen R hR
 rw [Ty.DenS] at hd
 obtain ⟨na, nb, h1, hda, hdb⟩ := hd
 rw [hn] at h1
 cases h1
 rw [Ty.szS] at hsz
 have e : Ty.wS pg.ts ind (.while_ p a bp b) = Ty.blanks ind ++ ([119, 104, 105, 108, 101, 32, 40] ++ Ty.wE pg.ts ind a ++ [41, 32] ++ Ty.wB pg.ts ind b) ++ [10] := by rw [Ty.wS]; unfold Ty.wB; simp
 rw [e] at hx
 have hx := List.append_cancel_left (List.append_cancel_right hx)
 subst hx
 have HA := qh (fun o w1 F' hF' h ho => ha na hda 0 ind o w1 F' hF' h (by omega) (by omega) ho)
 have HB := qh (fun (o : List UInt8) (w1 : World) F' (hF' : FrB wB F') h ho => hb bp nb hdb ind o w1 F' hF' h (by omega) ho)
 simp only [← Ty.wP_zero pg.ts ind a] at hlen hR
 have HR := qh hR
 obtain ⟨la, ln, lc, rfl⟩ := hl0
 generalize Ty.wP pg.ts ind 0 a = pa at *
 generalize Ty.wB pg.ts ind b = pb at *
 simp only [lzA, lzC, lzN] at hlen
 have HLE := qh hlen
 have HF := qh (hF.stars (M := [blk w.heap.size (ndObj { Ty.ndOf 23 p with a := na, b := nb } (.slice la ln lc))]))
 have h1 := (H.allocAt (ndObj { Ty.ndOf 23 p with a := na, b := nb } (.slice la ln lc)) w.heap.size).swap
 have q := ndRd h1
 have q0 := q.d0
 have q1 := q.d1
 have q2 := q.d2
 have q3 := q.d3
 clear q
 have H1 := qh h1
 clear hR hlen H hF hn hsz e h1 hl1 hda hdb ha hb
 dsimp only [ndVal, Ty.ndOf] at *
 go_enter Tryz.func84, Tryz.ntmps84
 go_wp2_with fail
 refine put1 H1.out _ [119, 104, 105, 108, 101, 32, 40] rfl (by have := HLE.out; (try simp only [List.length_cons, List.length_nil] at this ⊢); omega) _ (by simp) (fun w2 h2 => ?_)
 clear q0 q1 q2 q3
 have q := ndRd h2
 have q0 := q.d0
 have q1 := q.d1
 have q2 := q.d2
 have q3 := q.d3
 clear q
 have H2 := qh h2
 clear h2
 go_wp2_with fail
 refine HA.out _ _ _ HF.out H2.out (by have := HLE.out; (try simp only [lzA, lzC, lzN] at this ⊢); omega) _ (fun w3 h3 => ?_)
 clear q0 q1 q2 q3
 have q := ndRd h3
 have q0 := q.d0
 have q1 := q.d1
 have q2 := q.d2
 have q3 := q.d3
 clear q
 have H3 := qh h3
 clear h3
 go_wp2_with fail
 refine put1 H3.out _ [41, 32] rfl (by have := HLE.out; (try simp only [lzA, lzC, lzN] at this ⊢); omega) _ (by simp) (fun w4 h4 => ?_)
 clear q0 q1 q2 q3
 have q := ndRd h4
 have q0 := q.d0
 have q1 := q.d1
 have q2 := q.d2
 have q3 := q.d3
 clear q
 have H4 := qh h4
 clear h4
 go_wp2_with fail
 refine HB.out _ _ _ HF.out H4.out (by have := HLE.out; (try simp only [lzA, lzC, lzN] at this ⊢); omega) _ (fun w5 h5 => ?_)
 clear q0 q1 q2 q3
 have q := ndRd h5
 have q0 := q.d0
 have q1 := q.d1
 have q2 := q.d2
 have q3 := q.d3
 clear q
 have H5 := qh h5
 clear h5
 go_wp2_with fail
 go_end0
 refine HR.out _ ?_
 rw [show out ++ ([119, 104, 105, 108, 101, 32, 40] ++ pa ++ [41, 32] ++ pb) = out ++ [119, 104, 105, 108, 101, 32, 40] ++ pa ++ [41, 32] ++ pb by simp]
 exact H5.out.unswap.pick [0, 1]
theorem branch_if {p bp : Nat} {a : Ty.Ex} {b : List Ty.Sm} (ha : ExC wB nv tv pg wb main a) (hb : BlC wB nv tv pg wb main b) : BrC wB nv tv pg wb main (.if_ p a bp b none) := by
 intro n nd lv hd hn hl0 hl1 ind x out w Fr hx hF H hsz hlen R hR
 rw [Ty.DenS] at hd
 obtain ⟨na, nb, h1, hda, hdb⟩ := hd
 rw [hn] at h1
 cases h1
 rw [Ty.szS] at hsz
 have e : Ty.wS pg.ts ind (.if_ p a bp b none) = Ty.blanks ind ++ ([105, 102, 32, 40] ++ Ty.wE pg.ts ind a ++ [41, 32] ++ Ty.wB pg.ts ind b) ++ [10] := by rw [Ty.wS]; unfold Ty.wB; simp
 rw [e] at hx
 have hx := List.append_cancel_left (List.append_cancel_right hx)
 subst hx
 have HA := qh (fun o w1 F' hF' h ho => ha na hda 0 ind o w1 F' hF' h (by omega) (by omega) ho)
 have HB := qh (fun (o : List UInt8) (w1 : World) F' (hF' : FrB wB F') h ho => hb bp nb hdb ind o w1 F' hF' h (by omega) ho)
 simp only [← Ty.wP_zero pg.ts ind a] at hlen hR
 have HR := qh hR
 obtain ⟨la, ln, lc, rfl⟩ := hl0
 generalize Ty.wP pg.ts ind 0 a = pa at *
 generalize Ty.wB pg.ts ind b = pb at *
 simp only [lzA, lzC, lzN] at hlen
 have HLE := qh hlen
 have HF := qh (hF.stars (M := [blk w.heap.size (ndObj { Ty.ndOf 22 p with a := na, b := nb, c := -1 } (.slice la ln lc))]))
 have h1 := (H.allocAt (ndObj { Ty.ndOf 22 p with a := na, b := nb, c := -1 } (.slice la ln lc)) w.heap.size).swap
 have q := ndRd h1
 have q0 := q.d0
 have q1 := q.d1
 have q2 := q.d2
 have q3 := q.d3
 clear q
 have H1 := qh h1
 clear hR hlen H hF hn hsz e h1 hl1 hda hdb ha hb
 dsimp only [ndVal, Ty.ndOf] at *
 go_enter Tryz.func84, Tryz.ntmps84
 go_wp2_with fail
 refine put1 H1.out _ [105, 102, 32, 40] rfl (by have := HLE.out; (try simp only [List.length_cons, List.length_nil] at this ⊢); omega) _ (by simp) (fun w2 h2 => ?_)
 clear q0 q1 q2 q3
 have q := ndRd h2
 have q0 := q.d0
 have q1 := q.d1
 have q2 := q.d2
 have q3 := q.d3
 clear q
 have H2 := qh h2
 clear h2
 go_wp2_with fail
 refine HA.out _ _ _ HF.out H2.out (by have := HLE.out; (try simp only [lzA, lzC, lzN] at this ⊢); omega) _ (fun w3 h3 => ?_)
 clear q0 q1 q2 q3
 have q := ndRd h3
 have q0 := q.d0
 have q1 := q.d1
 have q2 := q.d2
 have q3 := q.d3
 clear q
 have H3 := qh h3
 clear h3
 go_wp2_with fail
 refine put1 H3.out _ [41, 32] rfl (by have := HLE.out; (try simp only [lzA, lzC, lzN] at this ⊢); omega) _ (by simp) (fun w4 h4 => ?_)
 clear q0 q1 q2 q3
 have q := ndRd h4
 have q0 := q.d0
 have q1 := q.d1
 have q2 := q.d2
 have q3 := q.d3
 clear q
 have H4 := qh h4
 clear h4
 go_wp2_with fail
 refine HB.out _ _ _ HF.out H4.out (by have := HLE.out; (try simp only [lzA, lzC, lzN] at this ⊢); omega) _ (fun w5 h5 => ?_)
 clear q0 q1 q2 q3
 have q := ndRd h5
 have q0 := q.d0
 have q1 := q.d1
 have q2 := q.d2
 have q3 := q.d3
 clear q
 have H5 := qh h5
 clear h5
 go_wp2_with fail
 go_end0
 refine HR.out _ ?_
 rw [show out ++ ([105, 102, 32, 40] ++ pa ++ [41, 32] ++ pb) = out ++ [105, 102, 32, 40] ++ pa ++ [41, 32] ++ pb by simp]
 exact H5.out.unswap.pick [0, 1]
theorem branch_else {p bp cp : Nat} {a : Ty.Ex} {b c : List Ty.Sm} (ha : ExC wB nv tv pg wb main a) (hb : BlC wB nv tv pg wb main b) (hc : BlC wB nv tv pg wb main c) : BrC wB nv tv pg wb main (.if_ p a bp b (some (cp, c))) := by
 intro n nd lv hd hn hl0 hl1 ind x out w Fr hx hF H hsz hlen R hR
 rw [Ty.DenS] at hd
 obtain ⟨na, nb, nc, h1, hda, hdb, hdc⟩ := hd
 rw [hn] at h1
 cases h1
 rw [Ty.szS] at hsz
 have e : Ty.wS pg.ts ind (.if_ p a bp b (some (cp, c))) = Ty.blanks ind ++ ([105, 102, 32, 40] ++ Ty.wE pg.ts ind a ++ [41, 32] ++ Ty.wB pg.ts ind b ++ [32, 101, 108, 115, 101, 32] ++ Ty.wB pg.ts ind c) ++ [10] := by rw [Ty.wS]; unfold Ty.wB; simp
 rw [e] at hx
 have hx := List.append_cancel_left (List.append_cancel_right hx)
 subst hx
 have HA := qh (fun o w1 F' hF' h ho => ha na hda 0 ind o w1 F' hF' h (by omega) (by omega) ho)
 have HB := qh (fun (o : List UInt8) (w1 : World) F' (hF' : FrB wB F') h ho => hb bp nb hdb ind o w1 F' hF' h (by omega) ho)
 have HC := qh (fun (o : List UInt8) (w1 : World) F' (hF' : FrB wB F') h ho => hc cp nc hdc ind o w1 F' hF' h (by omega) ho)
 simp only [← Ty.wP_zero pg.ts ind a] at hlen hR
 have HR := qh hR
 obtain ⟨la, ln, lc, rfl⟩ := hl0
 generalize Ty.wP pg.ts ind 0 a = pa at *
 generalize Ty.wB pg.ts ind b = pb at *
 generalize Ty.wB pg.ts ind c = pc at *
 simp only [lzA, lzC, lzN] at hlen
 have HLE := qh hlen
 have HF := qh (hF.stars (M := [blk w.heap.size (ndObj { Ty.ndOf 22 p with a := na, b := nb, c := ((nc : Nat) : Int) } (.slice la ln lc))]))
 have h1 := (H.allocAt (ndObj { Ty.ndOf 22 p with a := na, b := nb, c := ((nc : Nat) : Int) } (.slice la ln lc)) w.heap.size).swap
 have q := ndRd h1
 have q0 := q.d0
 have q1 := q.d1
 have q2 := q.d2
 have q3 := q.d3
 clear q
 have H1 := qh h1
 clear hR hlen H hF hn hsz e h1 hl1 hda hdb hdc ha hb hc
 dsimp only [ndVal, Ty.ndOf] at *
 go_enter Tryz.func84, Tryz.ntmps84
 go_wp2_with fail
 refine put1 H1.out _ [105, 102, 32, 40] rfl (by have := HLE.out; (try simp only [List.length_cons, List.length_nil] at this ⊢); omega) _ (by simp) (fun w2 h2 => ?_)
 clear q0 q1 q2 q3
 have q := ndRd h2
 have q0 := q.d0
 have q1 := q.d1
 have q2 := q.d2
 have q3 := q.d3
 clear q
 have H2 := qh h2
 clear h2
 go_wp2_with fail
 refine HA.out _ _ _ HF.out H2.out (by have := HLE.out; (try simp only [lzA, lzC, lzN] at this ⊢); omega) _ (fun w3 h3 => ?_)
 clear q0 q1 q2 q3
 have q := ndRd h3
 have q0 := q.d0
 have q1 := q.d1
 have q2 := q.d2
 have q3 := q.d3
 clear q
 have H3 := qh h3
 clear h3
 go_wp2_with fail
 refine put1 H3.out _ [41, 32] rfl (by have := HLE.out; (try simp only [lzA, lzC, lzN] at this ⊢); omega) _ (by simp) (fun w4 h4 => ?_)
 clear q0 q1 q2 q3
 have q := ndRd h4
 have q0 := q.d0
 have q1 := q.d1
 have q2 := q.d2
 have q3 := q.d3
 clear q
 have H4 := qh h4
 clear h4
 go_wp2_with fail
 refine HB.out _ _ _ HF.out H4.out (by have := HLE.out; (try simp only [lzA, lzC, lzN] at this ⊢); omega) _ (fun w5 h5 => ?_)
 clear q0 q1 q2 q3
 have q := ndRd h5
 have q0 := q.d0
 have q1 := q.d1
 have q2 := q.d2
 have q3 := q.d3
 clear q
 have H5 := qh h5
 clear h5
 go_wp2_with fail
 refine put1 H5.out _ [32, 101, 108, 115, 101, 32] rfl (by have := HLE.out; (try simp only [lzA, lzC, lzN] at this ⊢); omega) _ (by simp) (fun w6 h6 => ?_)
 clear q0 q1 q2 q3
 have q := ndRd h6
 have q0 := q.d0
 have q1 := q.d1
 have q2 := q.d2
 have q3 := q.d3
 clear q
 have H6 := qh h6
 clear h6
 go_wp2_with fail
 refine HC.out _ _ _ HF.out H6.out (by have := HLE.out; (try simp only [lzA, lzC, lzN] at this ⊢); omega) _ (fun w7 h7 => ?_)
 clear q0 q1 q2 q3
 have q := ndRd h7
 have q0 := q.d0
 have q1 := q.d1
 have q2 := q.d2
 have q3 := q.d3
 clear q
 have H7 := qh h7
 clear h7
 go_wp2_with fail
 go_end0
 refine HR.out _ ?_
 rw [show out ++ ([105, 102, 32, 40] ++ pa ++ [41, 32] ++ pb ++ [32, 101, 108, 115, 101, 32] ++ pc) = out ++ [105, 102, 32, 40] ++ pa ++ [41, 32] ++ pb ++ [32, 101, 108, 115, 101, 32] ++ pc by simp]
 exact H7.out.unswap.pick [0, 1]
end
end
end Go.Proofs.YtdlbhiaceheffaaGreatDoor
