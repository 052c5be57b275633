/- Walks of show.writer's parts. Walks of show.writer's bare. What the listed table of powers gives. Plain: what the two texts of showBegun are read as, and printed. -/
import Derived.Lib.AppendIntMem
import Derived.Test.YtdlbhiaceheffabGreatDoorS17
set_option linter.all false
set_option maxRecDepth 100000
set_option maxHeartbeats 4000000
namespace Go.Proofs.YtdlbhiaceheffabGreatDoor
section
open Go Go.RowKit
open Prt (Sat As blk pur exs star stars)
section
variable {wB : World} {nv tv : Value} {pg : Ty.Pg} {wb : Nat} {main : Int}
theorem signLv_cases (x : ByteArray) : Ty.signLv x = 0 ∨ Ty.signLv x = 1 ∨ Ty.signLv x = 2 := by
 unfold Ty.signLv
 split
 · exact .inr (.inr rfl)
 · split
   · exact .inr (.inl rfl)
   · exact .inl rfl
theorem binds_is (w : World) (nd : Ty.Nd) (lv : Value) (hl : ∃ a n c, lv = .slice a n c) (v : Nat) (hv : lvlN nd = v) {R : Ending → World → Prop} (hR : ∀ w', Below w.heap.size w w' → R (.returned (.int .i64 v)) w') :
   Calls Tryz.prog 126 #[ndVal nd lv] w R := binds_any w nd lv hl (hv ▸ hR)
theorem parts_two {p : Nat} {x : ByteArray} {a b : Ty.Ex} (ha : ExC wB nv tv pg wb main a) (hb : ExC wB nv tv pg wb main b) : BaC 199 wB nv tv pg wb main (.two p x a b) := by
 intro n nd lv hd hn hl ind out w Fr hF H hsz hlen R hR
 rw [Ty.DenE] at hd
 obtain ⟨na, nb, h1, hda, hdb⟩ := hd
 rw [hn] at h1
 cases h1
 rw [Ty.szE] at hsz
 have e : Ty.wE pg.ts ind (.two p x a b) = Ty.wP pg.ts ind (max (Ty.signLv x) 1) a ++ [32] ++ x.data.toList ++ [32] ++ Ty.wP pg.ts ind (Ty.signLv x + 1) b := by rw [Ty.wE]; rfl
 rw [e] at hlen hR
 have hsg := signLv_cases x
 have HA := qh (fun o w1 F' hF' h ho => ha na hda (max (Ty.signLv x) 1) ind o w1 F' hF' h (by omega) (by omega) ho)
 have HB := qh (fun o w1 F' hF' h ho => hb nb hdb (Ty.signLv x + 1) ind o w1 F' hF' h (by omega) (by omega) ho)
 have HR := qh hR
 obtain ⟨la, lc, rfl⟩ := owns_slice hl
 generalize Ty.wP pg.ts ind (max (Ty.signLv x) 1) a = pa at *
 generalize Ty.wP pg.ts ind (Ty.signLv x + 1) b = pb at *
 simp only [lzA, lzC, lzN] at hlen
 have HLE := qh hlen
 have HF := qh (hF.stars (M := [blk w.heap.size (ndObj { Ty.ndOf 12 p with text := x, a := na, b := nb } (.slice la 0 lc))]))
 have h1 := (H.allocAt (ndObj { Ty.ndOf 12 p with text := x, a := na, b := nb } (.slice la 0 lc)) w.heap.size)
 have x0 := h1.cell 2 rfl 0 rfl
 have x1 := h1.cell 2 rfl 1 rfl
 have x2 := h1.cell 2 rfl 2 rfl
 have x3 := h1.cell 2 rfl 3 rfl
 have x4 := h1.cell 2 rfl 4 rfl
 have x5 := h1.cell 2 rfl 5 rfl
 have x6 := h1.cell 2 rfl 6 rfl
 have x7 := h1.cell 2 rfl 7 rfl
 have x8 := h1.cell 2 rfl 8 rfl
 have H1 := qh h1
 have HC := qh (fun (w1 : World) (o : List UInt8) (h : Sat wB w1 [stars [Fr, blk w.heap.size (ndObj { Ty.ndOf 12 p with text := x, a := na, b := nb } (.slice la 0 lc))], wrA wb nv tv main ind o]) => (⟨h.unswap.cell 2 rfl 1 rfl, h.unswap.cell 2 rfl 2 rfl, h.unswap.cell 2 rfl 5 rfl⟩ : w1.cell? ⟨w.heap.size, 1, none⟩ = some (.int .i64 (na : Nat)) ∧ w1.cell? ⟨w.heap.size, 2, none⟩ = some (.int .i64 (nb : Nat)) ∧ w1.cell? ⟨w.heap.size, 5, none⟩ = some (.string x)))
 clear hR hlen H hF ha hb hda hdb hn hl hsz e h1
 dsimp only [ndVal, Ty.ndOf] at *
 go_enter Tryz.func199, Tryz.ntmps199
 go_wp2_with fail
 refine binds_is _ { Ty.ndOf 12 p with text := x, a := na, b := nb } (.slice la 0 lc) ⟨_, _, _, rfl⟩ (Ty.signLv x) rfl (fun w2 hb2 => ?_)
 have h2 := (H1.out.below hb2).swap
 have q1 := (HC.out _ _ h2).1
 have H2 := qh h2
 clear hb2 h2 x0 x1 x2 x3 x4 x5 x6 x7 x8
 generalize Ty.signLv x = sg at *
 rcases hsg with rfl | rfl | rfl
 · go_wp2_with fail
   refine HA.out _ _ _ HF.out H2.out (by have := HLE.out; omega) _ (fun w3 h3 => ?_)
   have q5 := (HC.out _ _ h3).2.2
   have H3 := qh h3
   clear h3 q1
   go_wp2_with fail
   refine put3 H3.out _ _ _ [32] x.data.toList [32] rfl (bs_of x).symm rfl (by have := HLE.out; simp only [lzA, lzC, lzN]; omega) _ (by simp) (fun w4 h4 => ?_)
   have q2 := (HC.out _ _ h4).2.1
   have H4 := qh h4
   clear h4 q5
   go_wp2_with fail
   refine HB.out _ _ _ HF.out H4.out (by have := HLE.out; simp only [lzA, lzC, lzN]; omega) _ (fun w5 h5 => ?_)
   have H5 := qh h5
   clear h5 q2
   go_wp2_with fail
   go_end0
   refine HR.out _ ?_
   rw [show out ++ (pa ++ [32] ++ x.data.toList ++ [32] ++ pb) = out ++ pa ++ ([32] ++ (x.data.toList ++ [32])) ++ pb by simp]
   exact H5.out.unswap.pick [0, 1]
 · go_wp2_with fail
   refine HA.out _ _ _ HF.out H2.out (by have := HLE.out; omega) _ (fun w3 h3 => ?_)
   have q5 := (HC.out _ _ h3).2.2
   have H3 := qh h3
   clear h3 q1
   go_wp2_with fail
   refine put3 H3.out _ _ _ [32] x.data.toList [32] rfl (bs_of x).symm rfl (by have := HLE.out; simp only [lzA, lzC, lzN]; omega) _ (by simp) (fun w4 h4 => ?_)
   have q2 := (HC.out _ _ h4).2.1
   have H4 := qh h4
   clear h4 q5
   go_wp2_with fail
   refine HB.out _ _ _ HF.out H4.out (by have := HLE.out; simp only [lzA, lzC, lzN]; omega) _ (fun w5 h5 => ?_)
   have H5 := qh h5
   clear h5 q2
   go_wp2_with fail
   go_end0
   refine HR.out _ ?_
   rw [show out ++ (pa ++ [32] ++ x.data.toList ++ [32] ++ pb) = out ++ pa ++ ([32] ++ (x.data.toList ++ [32])) ++ pb by simp]
   exact H5.out.unswap.pick [0, 1]
 · go_wp2_with fail
   refine HA.out _ _ _ HF.out H2.out (by have := HLE.out; omega) _ (fun w3 h3 => ?_)
   have q5 := (HC.out _ _ h3).2.2
   have H3 := qh h3
   clear h3 q1
   go_wp2_with fail
   refine put3 H3.out _ _ _ [32] x.data.toList [32] rfl (bs_of x).symm rfl (by have := HLE.out; simp only [lzA, lzC, lzN]; omega) _ (by simp) (fun w4 h4 => ?_)
   have q2 := (HC.out _ _ h4).2.1
   have H4 := qh h4
   clear h4 q5
   go_wp2_with fail
   refine HB.out _ _ _ HF.out H4.out (by have := HLE.out; simp only [lzA, lzC, lzN]; omega) _ (fun w5 h5 => ?_)
   have H5 := qh h5
   clear h5 q2
   go_wp2_with fail
   go_end0
   refine HR.out _ ?_
   rw [show out ++ (pa ++ [32] ++ x.data.toList ++ [32] ++ pb) = out ++ pa ++ ([32] ++ (x.data.toList ++ [32])) ++ pb by simp]
   exact H5.out.unswap.pick [0, 1]
theorem parts_one {p : Nat} {x : ByteArray} {a : Ty.Ex} (ha : ExC wB nv tv pg wb main a) : BaC 199 wB nv tv pg wb main (.one p x a) := by
 intro n nd lv hd hn hl ind out w Fr hF H hsz hlen R hR
 rw [Ty.DenE] at hd
 obtain ⟨na, h1, hda⟩ := hd
 rw [hn] at h1
 cases h1
 rw [Ty.szE] at hsz
 have e : Ty.wE pg.ts ind (.one p x a) = x.data.toList ++ (if x.data.toList = Ty.typeofS then [32] else []) ++ Ty.wP pg.ts ind 3 a := by rw [Ty.wE]; rfl
 rw [e] at hlen hR
 have HA := qh (fun o w1 F' hF' h ho => ha na hda 3 ind o w1 F' hF' h (by omega) (by omega) ho)
 have HR := qh hR
 obtain ⟨la, lc, rfl⟩ := owns_slice hl
 generalize Ty.wP pg.ts ind 3 a = pa at *
 simp only [List.length_append] at hlen
 have HLE := qh hlen
 have HF := qh (hF.stars (M := [blk w.heap.size (ndObj { Ty.ndOf 13 p with text := x, a := na } (.slice la 0 lc))]))
 have h1 := (H.allocAt (ndObj { Ty.ndOf 13 p with text := x, a := na } (.slice la 0 lc)) w.heap.size)
 have HC := qh (fun (w1 : World) (o : List UInt8) (h : Sat wB w1 [stars [Fr, blk w.heap.size (ndObj { Ty.ndOf 13 p with text := x, a := na } (.slice la 0 lc))], wrA wb nv tv main ind o]) => (⟨h.unswap.cell 2 rfl 1 rfl, h.unswap.cell 2 rfl 5 rfl⟩ : w1.cell? ⟨w.heap.size, 1, none⟩ = some (.int .i64 (na : Nat)) ∧ w1.cell? ⟨w.heap.size, 5, none⟩ = some (.string x)))
 have H1 := qh h1.swap
 have hc : (x.toList == [116, 121, 112, 101, 111, 102]) = true ∧ x.data.toList = Ty.typeofS ∨ (x.toList == [116, 121, 112, 101, 111, 102]) = false ∧ ¬ x.data.toList = Ty.typeofS := by
   rw [Lib.toList_data]
   by_cases h : x.data.toList = Ty.typeofS
   · left; exact ⟨by rw [h]; rfl, h⟩
   · right; exact ⟨beq_eq_false_iff_ne.2 h, h⟩
 clear hR hlen H hF ha hda hn hl hsz e h1
 dsimp only [ndVal, Ty.ndOf] at *
 rcases hc with ⟨k1, hk⟩ | ⟨k1, hk⟩
 · rw [if_pos hk] at HR HLE
   clear hk
   go_enter Tryz.func199, Tryz.ntmps199
   go_wp2_with fail
   refine put1 H1.out x x.data.toList (bs_of x).symm (by have := HLE.out; omega) _ (by simp) (fun w2 h2 => ?_)
   have q5 := (HC.out _ _ h2).2
   have H2 := qh h2
   clear h2
   go_wp2_with fail
   refine put1 H2.out _ [32] rfl (by have := HLE.out; (try simp only [lzA, lzC, lzN] at this ⊢); omega) _ (by simp) (fun w3 h3 => ?_)
   have q1 := (HC.out _ _ h3).1
   have H3 := qh h3
   clear h3 q5
   go_wp2_with fail
   refine HA.out _ _ _ HF.out H3.out (by have := HLE.out; (try simp only [lzA, lzC, lzN] at this ⊢); omega) _ (fun w4 h4 => ?_)
   have H4 := qh h4
   clear h4 q1
   go_wp2_with fail
   go_end0
   exact HR.out _ (by rw [← List.append_assoc, ← List.append_assoc]; exact H4.out.unswap.pick [0, 1])
 · rw [if_neg hk] at HR HLE
   rw [List.append_nil] at HR
   clear hk
   go_enter Tryz.func199, Tryz.ntmps199
   go_wp2_with fail
   refine put1 H1.out x x.data.toList (bs_of x).symm (by have := HLE.out; omega) _ (by simp) (fun w2 h2 => ?_)
   have q5 := (HC.out _ _ h2).2
   have q1 := (HC.out _ _ h2).1
   have H2 := qh h2
   clear h2
   go_wp2_with fail
   refine HA.out _ _ _ HF.out H2.out (by have := HLE.out; simp only [List.length_append, List.length_nil] at this ⊢; omega) _ (fun w4 h4 => ?_)
   have H4 := qh h4
   clear h4 q1 q5
   go_wp2_with fail
   go_end0
   exact HR.out _ (by rw [← List.append_assoc]; exact H4.out.unswap.pick [0, 1])
theorem parts_call {p : Nat} {a : Ty.Ex} {l : List Ty.Ex} (ha : ExC wB nv tv pg wb main a) (hE : ∀ e ∈ l, ExC wB nv tv pg wb main e) : BaC 199 wB nv tv pg wb main (.call p a l) := by
 intro n nd lv hd hn hl ind out w Fr hF H hsz hlen R hR
 rw [Ty.DenE] at hd
 obtain ⟨na, nl, h1, hda, hdl⟩ := hd
 rw [hn] at h1
 cases h1
 rw [Ty.szE] at hsz
 have e : Ty.wE pg.ts ind (.call p a l) = Ty.wP pg.ts ind 4 a ++ [40] ++ Ty.joinL [44, 32] (Ty.wEs pg.ts ind l) ++ [41] := by rw [Ty.wE]; rfl
 rw [e] at hlen hR
 have HA := qh (fun o w1 F' hF' h ho => ha na hda 4 ind o w1 F' hF' h (by omega) (by omega) ho)
 have HL := qh (fun (o : List UInt8) (w1 : World) F' (hF' : FrB wB F') (h : Sat wB w1 [F', wrA wb nv tv main ind o]) ho (R : Ending → World → Prop) => wexprs_any (R := R) hE hdl lv hl hF' h (by omega) ho)
 have HR := qh hR
 obtain ⟨la, lc, rfl⟩ := owns_slice hl
 generalize Ty.wP pg.ts ind 4 a = pa at *
 generalize Ty.joinL [44, 32] (Ty.wEs pg.ts ind l) = pl at *
 simp only [lzA, lzC, lzN] at hlen
 have HLE := qh hlen
 have HF := qh (hF.stars (M := [blk w.heap.size (ndObj { Ty.ndOf 7 p with a := na, list := nl } (.slice la nl.length lc))]))
 have h1 := (H.allocAt (ndObj { Ty.ndOf 7 p with a := na, list := nl } (.slice la nl.length lc)) w.heap.size)
 have HC := qh (fun (w1 : World) (o : List UInt8) (h : Sat wB w1 [stars [Fr, blk w.heap.size (ndObj { Ty.ndOf 7 p with a := na, list := nl } (.slice la nl.length lc))], wrA wb nv tv main ind o]) => (⟨h.unswap.cell 2 rfl 0 rfl, h.unswap.cell 2 rfl 1 rfl, h.unswap.cell 2 rfl 4 rfl⟩ : w1.cell? ⟨w.heap.size, 0, none⟩ = some (.int .i64 (7 : Nat)) ∧ w1.cell? ⟨w.heap.size, 1, none⟩ = some (.int .i64 (na : Nat)) ∧ w1.cell? ⟨w.heap.size, 4, none⟩ = some (.slice la nl.length lc)))
 have q := HC.out _ _ h1.swap
 have H1 := qh h1.swap
 clear hR hlen H hF hn hl hsz e h1 ha hE hda hdl
 dsimp only [ndVal, Ty.ndOf] at *
 go_enter Tryz.func199, Tryz.ntmps199
 go_wp2_with fail
 refine HA.out _ _ _ HF.out H1.out (by have := HLE.out; (try simp only [lzA, lzC, lzN] at this ⊢); omega) _ (fun w2 h2 => ?_)
 have q := HC.out _ _ h2
 have H2 := qh h2
 clear h2
 go_wp2_with fail
 refine put1 H2.out _ [40] rfl (by have := HLE.out; (try simp only [lzA, lzC, lzN] at this ⊢); omega) _ (by simp) (fun w3 h3 => ?_)
 have q := HC.out _ _ h3
 have H3 := qh h3
 clear h3
 go_wp2_with fail
 refine HL.out _ _ _ HF.out H3.out (by have := HLE.out; (try simp only [lzA, lzC, lzN] at this ⊢); omega) _ (fun w4 h4 => ?_)
 have q := HC.out _ _ h4
 have H4 := qh h4
 clear h4
 go_wp2_with fail
 refine put1 H4.out _ [41] rfl (by have := HLE.out; (try simp only [lzA, lzC, lzN] at this ⊢); omega) _ (by simp) (fun w5 h5 => ?_)
 have q := HC.out _ _ h5
 have H5 := qh h5
 clear h5
 go_wp2_with fail
 go_end0
 refine HR.out _ ?_
 rw [show out ++ (pa ++ [40] ++ pl ++ [41]) = out ++ pa ++ [40] ++ pl ++ [41] by simp]
 exact H5.out.unswap.pick [0, 1]
theorem parts_get {p : Nat} {a : Ty.Ex} {x : ByteArray} (ha : ExC wB nv tv pg wb main a) : BaC 199 wB nv tv pg wb main (.get p a x) := by
 intro n nd lv hd hn hl ind out w Fr hF H hsz hlen R hR
 rw [Ty.DenE] at hd
 obtain ⟨na, h1, hda⟩ := hd
 rw [hn] at h1
 cases h1
 rw [Ty.szE] at hsz
 have e : Ty.wE pg.ts ind (.get p a x) = Ty.wP pg.ts ind 4 a ++ [46] ++ x.data.toList := by rw [Ty.wE]; rfl
 rw [e] at hlen hR
 have HA := qh (fun o w1 F' hF' h ho => ha na hda 4 ind o w1 F' hF' h (by omega) (by omega) ho)
 have HR := qh hR
 obtain ⟨la, lc, rfl⟩ := owns_slice hl
 generalize Ty.wP pg.ts ind 4 a = pa at *
 simp only [lzA, lzC, lzN] at hlen
 have HLE := qh hlen
 have HF := qh (hF.stars (M := [blk w.heap.size (ndObj { Ty.ndOf 8 p with a := na, text := x } (.slice la 0 lc))]))
 have h1 := (H.allocAt (ndObj { Ty.ndOf 8 p with a := na, text := x } (.slice la 0 lc)) w.heap.size)
 have HC := qh (fun (w1 : World) (o : List UInt8) (h : Sat wB w1 [stars [Fr, blk w.heap.size (ndObj { Ty.ndOf 8 p with a := na, text := x } (.slice la 0 lc))], wrA wb nv tv main ind o]) => (⟨h.unswap.cell 2 rfl 0 rfl, h.unswap.cell 2 rfl 1 rfl, h.unswap.cell 2 rfl 5 rfl⟩ : w1.cell? ⟨w.heap.size, 0, none⟩ = some (.int .i64 (8 : Nat)) ∧ w1.cell? ⟨w.heap.size, 1, none⟩ = some (.int .i64 (na : Nat)) ∧ w1.cell? ⟨w.heap.size, 5, none⟩ = some (.string x)))
 have q := HC.out _ _ h1.swap
 have H1 := qh h1.swap
 clear hR hlen H hF hn hl hsz e h1 ha hda
 dsimp only [ndVal, Ty.ndOf] at *
 go_enter Tryz.func199, Tryz.ntmps199
 go_wp2_with fail
 refine HA.out _ _ _ HF.out H1.out (by have := HLE.out; (try simp only [lzA, lzC, lzN] at this ⊢); omega) _ (fun w2 h2 => ?_)
 have q := HC.out _ _ h2
 have H2 := qh h2
 clear h2
 go_wp2_with fail
 refine put2 H2.out _ _ [46] x.data.toList rfl (bs_of x).symm (by have := HLE.out; (try simp only [lzA, lzC, lzN] at this ⊢); omega) _ (by simp) (fun w3 h3 => ?_)
 have q := HC.out _ _ h3
 have H3 := qh h3
 clear h3
 go_wp2_with fail
 go_end0
 refine HR.out _ ?_
 rw [show out ++ (pa ++ [46] ++ x.data.toList) = out ++ pa ++ ([46] ++ x.data.toList) by simp]
 exact H3.out.unswap.pick [0, 1]
theorem parts_at {p : Nat} {a b : Ty.Ex} (ha : ExC wB nv tv pg wb main a) (hb : ExC wB nv tv pg wb main b) : BaC 199 wB nv tv pg wb main (.at p a b) := by
 intro n nd lv hd hn hl ind out w Fr hF H hsz hlen R hR
 rw [Ty.DenE] at hd
 obtain ⟨na, nb, h1, hda, hdb⟩ := hd
 rw [hn] at h1
 cases h1
 rw [Ty.szE] at hsz
 have e : Ty.wE pg.ts ind (.at p a b) = Ty.wP pg.ts ind 4 a ++ [91] ++ Ty.wE pg.ts ind b ++ [93] := by rw [Ty.wE]; rfl
 rw [e] at hlen hR
 rw [← Ty.wP_zero pg.ts ind b] at hlen hR
 have HA := qh (fun o w1 F' hF' h ho => ha na hda 4 ind o w1 F' hF' h (by omega) (by omega) ho)
 have HB := qh (fun o w1 F' hF' h ho => hb nb hdb 0 ind o w1 F' hF' h (by omega) (by omega) ho)
 have HR := qh hR
 obtain ⟨la, lc, rfl⟩ := owns_slice hl
 generalize Ty.wP pg.ts ind 4 a = pa at *
 generalize Ty.wP pg.ts ind 0 b = pb at *
 simp only [lzA, lzC, lzN] at hlen
 have HLE := qh hlen
 have HF := qh (hF.stars (M := [blk w.heap.size (ndObj { Ty.ndOf 9 p with a := na, b := nb } (.slice la 0 lc))]))
 have h1 := (H.allocAt (ndObj { Ty.ndOf 9 p with a := na, b := nb } (.slice la 0 lc)) w.heap.size)
 have HC := qh (fun (w1 : World) (o : List UInt8) (h : Sat wB w1 [stars [Fr, blk w.heap.size (ndObj { Ty.ndOf 9 p with a := na, b := nb } (.slice la 0 lc))], wrA wb nv tv main ind o]) => (⟨h.unswap.cell 2 rfl 0 rfl, h.unswap.cell 2 rfl 1 rfl, h.unswap.cell 2 rfl 2 rfl⟩ : w1.cell? ⟨w.heap.size, 0, none⟩ = some (.int .i64 (9 : Nat)) ∧ w1.cell? ⟨w.heap.size, 1, none⟩ = some (.int .i64 (na : Nat)) ∧ w1.cell? ⟨w.heap.size, 2, none⟩ = some (.int .i64 (nb : Nat))))
 have q := HC.out _ _ h1.swap
 have H1 := qh h1.swap
 clear hR hlen H hF hn hl hsz e h1 ha hda hb hdb
 dsimp only [ndVal, Ty.ndOf] at *
 go_enter Tryz.func199, Tryz.ntmps199
 go_wp2_with fail
 refine HA.out _ _ _ HF.out H1.out (by have := HLE.out; (try simp only [lzA, lzC, lzN] at this ⊢); omega) _ (fun w2 h2 => ?_)
 have q := HC.out _ _ h2
 have H2 := qh h2
 clear h2
 go_wp2_with fail
 refine put1 H2.out _ [91] rfl (by have := HLE.out; (try simp only [lzA, lzC, lzN] at this ⊢); omega) _ (by simp) (fun w3 h3 => ?_)
 have q := HC.out _ _ h3
 have H3 := qh h3
 clear h3
 go_wp2_with fail
 refine HB.out _ _ _ HF.out H3.out (by have := HLE.out; (try simp only [lzA, lzC, lzN] at this ⊢); omega) _ (fun w4 h4 => ?_)
 have q := HC.out _ _ h4
 have H4 := qh h4
 clear h4
 go_wp2_with fail
 refine put1 H4.out _ [93] rfl (by have := HLE.out; (try simp only [lzA, lzC, lzN] at this ⊢); omega) _ (by simp) (fun w5 h5 => ?_)
 have q := HC.out _ _ h5
 have H5 := qh h5
 clear h5
 go_wp2_with fail
 go_end0
 refine HR.out _ ?_
 rw [show out ++ (pa ++ [91] ++ pb ++ [93]) = out ++ pa ++ [91] ++ pb ++ [93] by simp]
 exact H5.out.unswap.pick [0, 1]
theorem parts_as (hP : PB wB nv tv pg) {p : Nat} {a : Ty.Ex} {ty : Int} (ha : ExC wB nv tv pg wb main a) : BaC 199 wB nv tv pg wb main (.as p a ty) := by
 intro n nd lv hd hn hl ind out w Fr hF H hsz hlen R hR
 rw [Ty.DenE] at hd
 obtain ⟨na, h1, hda⟩ := hd
 rw [hn] at h1
 cases h1
 rw [Ty.szE] at hsz
 have e : Ty.wE pg.ts ind (.as p a ty) = Ty.wP pg.ts ind 4 a ++ [32, 97, 115, 32] ++ Ty.text (Ty.den pg.ts ty.toNat) := by rw [Ty.wE]; rfl
 rw [e] at hlen hR
 have hok := hP.ok.ns _ (List.mem_of_getElem? hn)
 obtain ⟨m, rfl, hm⟩ : ∃ m : Nat, ty = (m : Int) ∧ Ty.TyIn m pg.ts := by
   rcases hok.ty with h | h
   · have := hok.asTy rfl; omega
   · exact h
 rw [show ((m : Int)).toNat = m by omega] at hlen hR
 have HT := qh (hP.text hm).1
 have HA := qh (fun o w1 F' hF' h ho => ha na hda 4 ind o w1 F' hF' h (by omega) (by omega) ho)
 have HR := qh hR
 obtain ⟨la, lc, rfl⟩ := owns_slice hl
 obtain ⟨ta, tn, tc, rfl⟩ := hP.tySlice
 generalize Ty.wP pg.ts ind 4 a = pa at *
 generalize Ty.text (Ty.den pg.ts m) = tx at *
 simp only [lzA, lzC, lzN] at hlen
 have HLE := qh hlen
 have HF := qh (hF.stars (M := [blk w.heap.size (ndObj { Ty.ndOf 14 p with a := na, ty := (m : Int) } (.slice la 0 lc))]))
 have h1 := (H.allocAt (ndObj { Ty.ndOf 14 p with a := na, ty := (m : Int) } (.slice la 0 lc)) w.heap.size)
 have HC := qh (fun (w1 : World) (o : List UInt8) (h : Sat wB w1 [stars [Fr, blk w.heap.size (ndObj { Ty.ndOf 14 p with a := na, ty := (m : Int) } (.slice la 0 lc))], wrA wb nv (.slice ta tn tc) main ind o]) => (⟨h.unswap.cell 2 rfl 0 rfl, h.unswap.cell 2 rfl 1 rfl, h.unswap.cell 2 rfl 7 rfl, by obtain ⟨p, v, hw⟩ := h.openWr; exact ⟨hw.cell 2 rfl 3 rfl, hw.lt 2 rfl⟩⟩ : w1.cell? ⟨w.heap.size, 0, none⟩ = some (.int .i64 (14 : Nat)) ∧ w1.cell? ⟨w.heap.size, 1, none⟩ = some (.int .i64 (na : Nat)) ∧ w1.cell? ⟨w.heap.size, 7, none⟩ = some (.int .i64 (m : Nat)) ∧ w1.cell? ⟨wb, 3, none⟩ = some (.slice ta tn tc) ∧ wb < w1.heap.size))
 have q := HC.out _ _ h1.swap
 have H1 := qh h1.swap
 clear hR hlen H hF hn hl hsz e h1 ha hda hok hm hP
 dsimp only [ndVal, Ty.ndOf] at *
 go_enter Tryz.func199, Tryz.ntmps199
 go_wp2_with fail
 refine HA.out _ _ _ HF.out H1.out (by have := HLE.out; omega) _ (fun w2 h2 => ?_)
 obtain ⟨z0, z1, z7, z3, zl⟩ := HC.out _ _ h2
 have HB2 := qh (HF.out w2 _ 0 h2 rfl)
 have H2 := qh h2
 clear h2 q
 go_wp2_with fail
 go_region_held3 (fun w' => w'.cell? ⟨w.heap.size, 7, none⟩ = some (.int .i64 (m : Nat)) ∧ w'.cell? ⟨wb, 3, none⟩ = some (.slice ta tn tc)) (go_keep)
   (first | (go_at_call 64; refine HT.out _ HB2.out.drew _ (fun w3 hb3 => ?_); have h3 := H2.out.drew.below hb3; have s0 := (HC.out _ _ h3).2.2.1; have s1 := (HC.out _ _ h3).2.2.2.1; have H3 := qh h3; clear hb3 h3)
          | (go_at_call 67; refine put2 H3.out _ _ [32, 97, 115, 32] tx rfl rfl (by have := HLE.out; (try simp only [lzA, lzC, lzN] at this ⊢); omega) _ (by simp) (fun w4 h4 => ?_); have s0 := (HC.out _ _ h4).2.2.1; have s1 := (HC.out _ _ h4).2.2.2.1; have H4 := qh h4; clear h4))
 all_goals
   go_wp2_with fail
   go_end0
   refine HR.out _ ?_
   rw [show out ++ (pa ++ [32, 97, 115, 32] ++ tx) = out ++ pa ++ ([32, 97, 115, 32] ++ tx) by simp]
   exact H4.out.unswap.pick [0, 1]
end
end
section
open Go Go.RowKit
open Prt (Sat As blk pur exs star stars)
def Pow (w : World) : Prop := Lib.TabIs Tryz.prog w "internal/strconv.uint64pow10" .u64 Lib.pow10Tab
theorem pow_named : Tryz.prog.globalNamed "internal/strconv.uint64pow10" = some 2 := by kernel_rfl
theorem Pow.below {w w' : World} (h : Pow w) (hb : Below w.heap.size w w') : Pow w' := by
 unfold Pow Lib.TabIs World.var? at h ⊢
 rw [pow_named] at h ⊢
 simp only [Option.bind_some] at h ⊢
 rw [hb.block 2 (by
   rcases Nat.lt_or_ge 2 w.heap.size with h' | h'
   · exact h'
   · rw [Array.getElem?_eq_none h'] at h; cases h)]
 exact h
theorem itoa_any (w : World) (hw : Pow w) (n : Nat) (hn : n ≤ 1000000000) {R : Ending → World → Prop} (hR : ∀ w', Below w.heap.size w w' → R (.returned (.string (bs (Lib.itoa n)))) w') :
   Calls Tryz.prog 193 #[.int .i64 (n : Nat)] w R := by
 refine (Tryz.strconv_Itoa n (by omega) (by omega) w hw).mono ?_
 rintro e w' ⟨rfl, k, os, rfl⟩
 exact hR _ (Lib.below_grow _ w (Nat.le_refl _) k os)
theorem repeat_blanks : ∀ n, Lib.repeatL [32, 32] n = Ty.blanks n
 | 0 => rfl
 | n + 1 => by rw [Lib.repeatL, repeat_blanks n]; rfl
theorem repeat_any (w : World) (n : Nat) (hn : n ≤ 1000000) {R : Ending → World → Prop} (hR : ∀ w', Below w.heap.size w w' → R (.returned (.string (bs (Ty.blanks n)))) w') :
   Calls Tryz.prog 68 #[.string ⟨#[32, 32]⟩, .int .i64 (n : Nat)] w R := by
 refine (Tryz.strings_Repeat ⟨#[32, 32]⟩ n w (by omega) (by show 2 * n ≤ _; omega)).mono ?_
 rintro e w' ⟨rfl, hb⟩
 have h := hR w' hb
 rw [← repeat_blanks] at h
 exact h
theorem formatBool_any (w : World) (b : Bool) {R : Ending → World → Prop} (hR : R (.returned (.string (bs (if b then [116, 114, 117, 101] else [102, 97, 108, 115, 101])))) w) :
   Calls Tryz.prog 194 #[.bool b] w R := by
 refine (Tryz.strconv_FormatBool b w).mono ?_
 rintro e w' ⟨rfl, rfl⟩
 have h : (Lib.formatBool b).toArray = (if b then [116, 114, 117, 101] else [102, 97, 108, 115, 101] : List UInt8).toArray := by cases b <;> decide +kernel
 unfold bs at hR
 rw [h]; exact hR
def bareF (Fr : As) (bw wb : Nat) (nd : Ty.Nd) (lv : Value) : As := stars [stars [Fr, blk (bw + 1) (ndObj nd lv)], bxO bw wb]
section
variable {wB w : World} {nv tv : Value} {pg : Ty.Pg} {wb : Nat} {main : Int} {Fr : As} {ind : Nat} {out : List UInt8}
theorem bareIn (H : Sat wB w [Fr, wrA wb nv tv main ind out]) (nd : Ty.Nd) (lv : Value) :
   Sat wB ((w.alloc (.cells #[.pointer (some ⟨wb, 0, none⟩)] 70)).alloc (ndObj nd lv)) [bareF Fr w.heap.size wb nd lv, wrA wb nv tv main ind out] :=
 ((H.allocAt (.cells #[.pointer (some ⟨wb, 0, none⟩)] 70) w.heap.size).allocAt (ndObj nd lv) (w.heap.size + 1)).box2
theorem bareOut {bw : Nat} {nd : Ty.Nd} {lv : Value} (H : Sat wB w [bareF Fr bw wb nd lv, wrA wb nv tv main ind out]) : Sat wB w [Fr, wrA wb nv tv main ind out] := H.unbox2.pick [0, 1]
structure BareRd (w : World) (bw wb : Nat) (nd : Ty.Nd) (lv : Value) : Prop where
 c : w.cell? ⟨bw, 0, none⟩ = some (.pointer (some ⟨wb, 0, none⟩))
 d0 : w.cell? ⟨bw + 1, 0, none⟩ = some (.int .i64 nd.kind)
 d1 : w.cell? ⟨bw + 1, 1, none⟩ = some (.int .i64 nd.a)
 d2 : w.cell? ⟨bw + 1, 2, none⟩ = some (.int .i64 nd.b)
 d3 : w.cell? ⟨bw + 1, 3, none⟩ = some (.int .i64 nd.c)
 d4 : w.cell? ⟨bw + 1, 4, none⟩ = some lv
 d5 : w.cell? ⟨bw + 1, 5, none⟩ = some (.string nd.text)
 d6 : w.cell? ⟨bw + 1, 6, none⟩ = some (.int .i64 nd.n)
 d7 : w.cell? ⟨bw + 1, 7, none⟩ = some (.int .i64 nd.ty)
 d8 : w.cell? ⟨bw + 1, 8, none⟩ = some (.int .i64 nd.pos)
theorem bareRd {bw : Nat} {nd : Ty.Nd} {lv : Value} (H : Sat wB w [bareF Fr bw wb nd lv, wrA wb nv tv main ind out]) : BareRd w bw wb nd lv :=
 ⟨H.unbox2.cell 2 rfl 0 rfl, H.unbox2.cell 3 rfl 0 rfl, H.unbox2.cell 3 rfl 1 rfl, H.unbox2.cell 3 rfl 2 rfl, H.unbox2.cell 3 rfl 3 rfl, H.unbox2.cell 3 rfl 4 rfl, H.unbox2.cell 3 rfl 5 rfl, H.unbox2.cell 3 rfl 6 rfl, H.unbox2.cell 3 rfl 7 rfl, H.unbox2.cell 3 rfl 8 rfl⟩
theorem bareFrB (hF : FrB wB Fr) (bw : Nat) (nd : Ty.Nd) (lv : Value) : FrB wB (bareF Fr bw wb nd lv) := (hF.stars (M := [_])).stars (M := [_])
theorem bare_text {p : Nat} {x : ByteArray} : BaC 127 wB nv tv pg wb main (.text p x) := by
 intro n nd lv hd hn hl ind out w Fr hF H hsz hlen R hR
 rw [Ty.DenE] at hd
 rw [hn] at hd
 cases hd
 rw [Ty.wE] at hlen hR
 have HR := qh hR
 have HLE := qh hlen
 obtain ⟨la, lc, rfl⟩ := owns_slice hl
 have h1 := bareIn H { Ty.ndOf 2 p with text := x } (.slice la 0 lc)
 obtain ⟨c, d0, d1, d2, d3, d4, d5, d6, d7, d8⟩ := bareRd h1
 have H1 := qh h1
 clear hR hlen H hF hn hl hsz h1
 dsimp only [ndVal, Ty.ndOf] at *
 go_enter Tryz.func127, Tryz.ntmps127
 go_wp2_with fail
 refine put3 H1.out _ _ _ [34] x.data.toList [34] rfl (bs_of x).symm rfl (by have := HLE.out; (try simp only [lzA, lzC, lzN] at this ⊢); omega) _ (by simp) (fun w2 h2 => ?_)
 have H2 := qh h2
 clear h2
 go_wp2_with fail
 go_end0
 refine HR.out _ ?_
 have h3 := bareOut H2.out
 first | exact h3 | simpa using h3
theorem bare_null {p : Nat} : BaC 127 wB nv tv pg wb main (.null p) := by
 intro n nd lv hd hn hl ind out w Fr hF H hsz hlen R hR
 rw [Ty.DenE] at hd
 rw [hn] at hd
 cases hd
 rw [Ty.wE] at hlen hR
 have HR := qh hR
 have HLE := qh hlen
 obtain ⟨la, lc, rfl⟩ := owns_slice hl
 have h1 := bareIn H { Ty.ndOf 4 p with a := 0 } (.slice la 0 lc)
 obtain ⟨c, d0, d1, d2, d3, d4, d5, d6, d7, d8⟩ := bareRd h1
 have H1 := qh h1
 clear hR hlen H hF hn hl hsz h1
 dsimp only [ndVal, Ty.ndOf] at *
 go_enter Tryz.func127, Tryz.ntmps127
 go_wp2_with fail
 refine put1 H1.out _ [110, 117, 108, 108] rfl (by have := HLE.out; omega) _ (by simp) (fun w2 h2 => ?_)
 have H2 := qh h2
 clear h2
 go_wp2_with fail
 go_end0
 refine HR.out _ ?_
 have h3 := bareOut H2.out
 first | exact h3 | simpa using h3
theorem bare_var {p : Nat} {x : ByteArray} : BaC 127 wB nv tv pg wb main (.var p x) := by
 intro n nd lv hd hn hl ind out w Fr hF H hsz hlen R hR
 rw [Ty.DenE] at hd
 rw [hn] at hd
 cases hd
 rw [Ty.wE] at hlen hR
 have HR := qh hR
 have HLE := qh hlen
 obtain ⟨la, lc, rfl⟩ := owns_slice hl
 have h1 := bareIn H { Ty.ndOf 5 p with text := x } (.slice la 0 lc)
 obtain ⟨c, d0, d1, d2, d3, d4, d5, d6, d7, d8⟩ := bareRd h1
 have H1 := qh h1
 clear hR hlen H hF hn hl hsz h1
 dsimp only [ndVal, Ty.ndOf] at *
 go_enter Tryz.func127, Tryz.ntmps127
 go_wp2_with fail
 refine put1 H1.out _ x.data.toList (bs_of x).symm (by have := HLE.out; omega) _ (by simp) (fun w2 h2 => ?_)
 have H2 := qh h2
 clear h2
 go_wp2_with fail
 go_end0
 refine HR.out _ ?_
 have h3 := bareOut H2.out
 first | exact h3 | simpa using h3
end
end
section
open Go.ChangeShapes Go.WideShapes Go.ChangeAt Go.RowKit Go.Lib
theorem tab10_named : Tryz.prog.globalNamed "internal/strconv.uint64pow10" = some 2 := by kernel_rfl
theorem tab10_type : (Tryz.prog.globals[2]?).map (·.type) = some 308 := by kernel_rfl
theorem tab10_under : Tryz.prog.underlying 308 = some (.array 20 211) := by kernel_rfl
theorem tab10_elem : Tryz.prog.underlying 211 = some (.int .u64) := by kernel_rfl
theorem tab10_cells : Tryz.prog.cellsOf 308 = 20 := by kernel_rfl
theorem tab10_cell : Tryz.prog.cellsOf 211 = 1 := by kernel_rfl
theorem laid_pow : (Rows.laid_internal_strconv_uint64pow10 : DataW Unit) = tabData .u64 pow10Tab := by kernel_rfl
theorem pow_of_laid {W : World} (h : VarReads Tryz.prog W "internal/strconv.uint64pow10" Rows.laid_internal_strconv_uint64pow10) : Pow W := by
 obtain ⟨g', t', cs, fuel, p, hg, hty, hvar, hd⟩ := h
 obtain rfl := Option.some.inj (tab10_named.symm.trans hg)
 obtain rfl := Option.some.inj (tab10_type.symm.trans hty)
 rw [laid_pow] at hd
 unfold Pow TabIs
 rw [hvar, ← cells_of_tab tab10_under tab10_elem tab10_cell tab10_cells hd]
end
section
namespace Ty
def beg3 : ByteArray := ⟨#[108, 101, 116, 32, 120, 61, 40, 49, 43, 50, 41, 42, 51, 59]⟩
def beg3l : List Sm := [.let_ 0 ⟨#[120]⟩ (-1) (.two 7 ⟨#[42]⟩ (.two 7 ⟨#[43]⟩ (.num 7 1) (.num 9 2)) (.num 12 3))]
abbrev Key := List Nat × List Int × List Nat × List UInt8
def key (n : Nd) : Key := ([n.kind, n.a, n.b, n.n, n.pos], [n.c, n.ty], n.list, n.text.data.toList)
theorem key_inj {m n : Nd} (h : key m = key n) : m = n := by
 obtain ⟨a1, a2, a3, a4, a5, ⟨⟨a6⟩⟩, a7, a8, a9⟩ := m
 obtain ⟨b1, b2, b3, b4, b5, ⟨⟨b6⟩⟩, b7, b8, b9⟩ := n
 simp only [key, Prod.mk.injEq, List.cons.injEq, and_true] at h
 obtain ⟨⟨rfl, rfl, rfl, rfl, rfl⟩, ⟨rfl, rfl⟩, rfl, h6⟩ := h
 obtain rfl : a6 = b6 := h6
 rfl
theorem keys_inj : ∀ {l m : List Nd}, l.map key = m.map key → l = m
 | [], [], _ => rfl
 | a :: l, b :: m, h => by
   simp only [List.map_cons, List.cons.injEq] at h
   rw [key_inj h.1, keys_inj h.2]
 | [], b :: m, h => by simp at h
 | a :: l, [], h => by simp at h
def beg3k : List Key := [([1, 0, 0, 1, 7], [0, -1], [], []), ([1, 0, 0, 2, 9], [0, -1], [], []), ([12, 0, 1, 0, 7], [0, -1], [], [43]), ([1, 0, 0, 3, 12], [0, -1], [], []), ([12, 2, 3, 0, 7], [0, -1], [], [42]), ([17, 4, 0, 0, 0], [0, -1], [], [120]), ([26, 0, 0, 0, 0], [0, -1], [5], [])]
def same3 (r : Except Ft Pg) : Bool := match r with | .ok p => decide (p.ns.map key = beg3k) && (p.main == 6) && (p.ts.length == 0) | .error _ => false
theorem beg3_sum : same3 (parse beg3) = true := by decide +kernel
theorem beg3_lay : (layB 0 beg3l []).1.map key = beg3k ∧ (layB 0 beg3l []).2 = 6 := by
 simp [beg3l, layB, laySs, layS, layE, key, beg3k, ndOf]
theorem beg3_ok {pg : Pg} (h : parse beg3 = .ok pg) : layB 0 beg3l [] = (pg.ns, pg.main) ∧ pg.ts = [] := by
 have := beg3_sum
 rw [h] at this
 simp only [same3, Bool.and_eq_true, decide_eq_true_eq, beq_iff_eq] at this
 obtain ⟨⟨h1, h2⟩, h3⟩ := this
 exact ⟨Prod.ext (keys_inj (beg3_lay.1.trans h1.symm)) (beg3_lay.2.trans h2.symm), List.eq_nil_of_length_eq_zero h3⟩
theorem beg3_no {f : Ft} (h : parse beg3 = .error f) : False := by
 have := beg3_sum; rw [h] at this; simp [same3] at this
theorem beg3_text : wSs [] 0 beg3l = [108, 101, 116, 32, 120, 32, 61, 32, 40, 49, 32, 43, 32, 50, 41, 32, 42, 32, 51, 59, 10] := by decide +kernel
def beg4 : ByteArray := ⟨#[40, 110, 117, 109, 41, 124, 116, 101, 120, 116]⟩
def sum4 : Except Ft (List Ty) → Option (List (Nat × Nat × List Nat × Nat)) := fun r => match r with | .ok p => some (p.map fun t => (t.kind, t.fields.length, t.list, t.of)) | .error _ => none
theorem beg4_sum : sum4 (typeOf beg4) = some [(1, 0, [], 0), (3, 0, [], 0), (10, 0, [0, 1], 0)] := by decide +kernel
theorem beg4_ok {ts : List Ty} (h : typeOf beg4 = .ok ts) : ts = [⟨1, [], [], 0⟩, ⟨3, [], [], 0⟩, ⟨10, [], [0, 1], 0⟩] := by
 have h1 := beg4_sum
 rw [h] at h1
 simp only [sum4, Option.some.injEq] at h1
 rcases ts with _ | ⟨a, _ | ⟨b, _ | ⟨c, _ | ⟨d, l⟩⟩⟩⟩ <;> simp only [List.map_cons, List.map_nil, List.cons.injEq, Prod.mk.injEq, List.length_eq_zero_iff, reduceCtorEq, and_false, false_and] at h1
 obtain ⟨a1, a2, a3, a4⟩ := a
 obtain ⟨b1, b2, b3, b4⟩ := b
 obtain ⟨c1, c2, c3, c4⟩ := c
 dsimp only at h1
 obtain ⟨⟨rfl, rfl, rfl, rfl⟩, ⟨rfl, rfl, rfl, rfl⟩, ⟨rfl, rfl, rfl, rfl⟩, _⟩ := h1
 rfl
theorem beg4_no {f : Ft} (h : typeOf beg4 = .error f) : False := by
 have := beg4_sum; rw [h] at this; simp [sum4] at this
theorem beg4_text {ts : List Ty} (h : typeOf beg4 = .ok ts) : text (den ts (ts.length - 1)) = [110, 117, 109, 32, 124, 32, 116, 101, 120, 116] := by
 have hw := (typeOf_wf h).1
 have hts := beg4_ok h
 have h0 : ts[0]? = some ⟨1, [], [], 0⟩ := by rw [hts]; rfl
 have h1 : ts[1]? = some ⟨3, [], [], 0⟩ := by rw [hts]; rfl
 have h2 : ts[2]? = some ⟨10, [], [0, 1], 0⟩ := by rw [hts]; rfl
 have hl : ts.length - 1 = 2 := by rw [hts]; rfl
 rw [hl, den_eq hw h2]
 simp only [List.map_cons, List.map_nil]
 rw [den_eq hw h0, den_eq hw h1]
 simp only [List.map_nil, if_neg (show ¬(1 = 8 ∨ 1 = 9) by decide), if_neg (show ¬(3 = 8 ∨ 3 = 9) by decide), if_neg (show ¬(10 = 8 ∨ 10 = 9) by decide)]
 decide +kernel
end Ty
end
end Go.Proofs.YtdlbhiaceheffabGreatDoor
