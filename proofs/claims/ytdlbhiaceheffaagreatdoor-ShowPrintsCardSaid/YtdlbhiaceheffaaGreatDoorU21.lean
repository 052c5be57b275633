/- Walks of show.writer's object, parts. Walks of show.writer's parts. More of the shelf's contracts at this dump, in plain words. -/
import Derived.Shelf.Strconv.Itoa2
import Derived.Shelf.Strconv.Itoa3
import Derived.Shelf.Strings.Repeat
import Derived.Test.YtdlbhiaceheffaaGreatDoorU20
set_option linter.all false
set_option maxRecDepth 100000
set_option maxHeartbeats 4000000
namespace Go.Proofs.YtdlbhiaceheffaaGreatDoor
section
open Go Go.RowKit
open Prt (Sat As blk pur exs star stars)
theorem Prt.Sat.box2 {w0 w : World} {Fr W A B : As} (h : Sat w0 w [Fr, W, A, B]) : Sat w0 w [stars [stars [Fr, B], A], W] :=
 ((Prt.Sat.pack (L := [W]) (M := [stars [Fr, B], A]) ((Prt.Sat.pack (L := [W, A]) (M := [Fr, B]) (h.pick [1, 2, 0, 3])).pick [0, 2, 1]))).pick [1, 0]
theorem Prt.Sat.unbox2 {w0 w : World} {Fr W A B : As} (h : Sat w0 w [stars [stars [Fr, B], A], W]) : Sat w0 w [Fr, W, A, B] :=
 (Prt.Sat.unpack (i := 1) (h.unpack (i := 0) rfl) rfl).pick [2, 0, 1, 3]
section
variable {wB : World} {nv tv : Value} {pg : Ty.Pg} {wb : Nat} {main : Int}
def bxO (bw wb : Nat) : As := blk bw (.cells #[.pointer (some ⟨wb, 0, none⟩)] 83 (0, 0))
theorem wobject_any (hP : PB wB nv tv pg) {p : Nat} {l : List (Nat × ByteArray × Ty.Ex)} (hE : ∀ o ∈ l, ExC wB nv tv pg wb main o.2.2) : BaC 152 wB nv tv pg wb main (.obj p l) := by
 intro n nd lv hd hn hl ind out w Fr hF H hsz hlen R hR
 rw [Ty.DenE] at hd
 obtain ⟨nl, h1, hd⟩ := hd
 rw [hn] at h1
 cases h1
 have hll := hd.len
 have hsl := Ty.szOs_len l
 rw [Ty.szE] at hsz
 rw [Ty.wE] at hlen hR
 dsimp only at hl
 have HR := qh hR
 have HLN := qh hlen
 have HS := qh H
 have HF := qh hF
 obtain ⟨la, lc, rfl⟩ := owns_slice hl
 by_cases h0 : l.length = 0
 · have k0 : ((nl.length : Int) == 0) = true := beq_iff_eq.2 (by omega)
   rw [if_pos h0] at HR HLN
   clear hR hlen H hF hE hd hn hl hll hsl hsz h0
   dsimp only [ndVal]
   go_enter Tryz.func152, Tryz.ntmps152
   go_wp2_with fail
   refine put1 ((HS.out.waste _).waste _) _ [123, 125] rfl (by have := HLN.out; omega) _ (by simp) (fun w1 h1 => ?_)
   have H1 := qh h1
   clear h1
   go_wp2_with fail
   go_end0
   exact HR.out _ H1.out
 · have k0 : ((nl.length : Int) == 0) = false := beq_eq_false_iff_ne.2 (by omega)
   rw [if_neg h0] at HR HLN
   have hln := HLN.out
   simp only [lzA, lzC, lzN] at hln
   have HLE := qh hln
   have hF3 : FrB wB (stars [stars [Fr, blk (w.heap.size + 1) (ndObj { Ty.ndOf 10 p with list := nl } (.slice la nl.length lc))], blk w.heap.size (.cells #[.pointer (some ⟨wb, 0, none⟩)] 83 (0, 0))]) := (hF.stars (M := [_])).stars (M := [_])
   have HW := qh (fun (w1 : World) (o : List UInt8) (h1 : Sat wB w1 [stars [stars [Fr, blk (w.heap.size + 1) (ndObj { Ty.ndOf 10 p with list := nl } (.slice la nl.length lc))], blk w.heap.size (.cells #[.pointer (some ⟨wb, 0, none⟩)] 83 (0, 0))], wrA wb nv tv main ind o]) (ho : o.length + (Ty.joinL [44, 32] (Ty.wOs pg.ts ind l)).length ≤ 900000000) (R : Ending → World → Prop) =>
     wlist_any (R := R) nl (.slice la nl.length lc) hl (by omega) (Ty.wOs pg.ts ind l) (by rw [Ty.wOs_map]; simp; omega) hF3 h1 174 (.pointer (some ⟨w.heap.size, 0, none⟩)) Tryz.call174
       (fun k hk hk2 o w1 hs ho R hR => by
         have hkl : k < l.length := by omega
         have e : (Ty.wOs pg.ts ind l)[k] = l[k].2.1.data.toList ++ [58, 32] ++ Ty.wE pg.ts ind l[k].2.2 := by simp [Ty.wOs_map]
         rw [e] at ho hR
         have hm : l[k] ∈ l := List.getElem_mem _
         obtain ⟨a, hda⟩ := hd.get k hkl hk
         exact object1_any hP (hE _ hm) hda (hF.stars (M := [_])) hs (by have := Ty.szOs_in hm; omega) ho hR) ho)
   have h2 := ((HS.out.allocAt (.cells #[.pointer (some ⟨wb, 0, none⟩)] 83) w.heap.size).allocAt (ndObj { Ty.ndOf 10 p with list := nl } (.slice la nl.length lc)) (w.heap.size + 1))
   have h3 := h2.box2
   have c0 := h2.cell 2 rfl 0 rfl
   have d4 := h2.cell 3 rfl 4 rfl
   have H3 := qh h3
   have HF3 := qh hF3
   clear hR hlen H hF hE hd hn hl hll hsl hsz h0 hln HLN h2 h3 hF3 hP
   dsimp only [ndVal]
   go_enter Tryz.func152, Tryz.ntmps152
   go_wp2_with fail
   refine put1 H3.out _ [123, 32] rfl (by have := HLE.out; simp only [List.length_cons, List.length_nil]; omega) _ (by simp) (fun w1 h1 => ?_)
   have h4 := h1.unbox2
   have c1 := h4.cell 2 rfl 0 rfl
   have e4 := h4.cell 3 rfl 4 rfl
   have H1 := qh h1
   clear h1 h4
   go_wp2_with fail
   refine HW.out _ _ H1.out (by have := HLE.out; simp only [lzA, lzC, lzN]; omega) _ (fun w2 h1 => ?_)
   have h4 := h1.unbox2
   have c2 := h4.cell 2 rfl 0 rfl
   have H2 := qh h1
   clear h1 h4
   go_wp2_with fail
   refine put1 H2.out _ [32, 125] rfl (by have := HLE.out; simp only [lzA, lzC, lzN]; omega) _ (by simp) (fun w3 h1 => ?_)
   have H4 := qh h1.unbox2
   clear h1
   go_wp2_with fail
   go_end0
   refine HR.out _ ?_
   rw [show out ++ ([123, 32] ++ Ty.joinL [44, 32] (Ty.wOs pg.ts ind l) ++ [32, 125]) = out ++ [123, 32] ++ Ty.joinL [44, 32] (Ty.wOs pg.ts ind l) ++ [32, 125] by simp]
   exact H4.out.pick [0, 1]
end
end
section
open Go Go.RowKit
open Prt (Sat As blk pur exs star stars)
section
variable {wB : World} {nv tv : Value} {pg : Ty.Pg} {wb : Nat} {main : Int}
theorem signLv_cases (x : ByteArray) : Ty.signLv x = 0 ∨ Ty.signLv x = 1 ∨ Ty.signLv x = 2 := by
 unfold Ty.signLv
 split
 · exact .inr (.inr rfl)
 · split
   · exact .inr (.inl rfl)
   · exact .inl rfl
theorem binds_is (w : World) (nd : Ty.Nd) (lv : Value) (hl : ∃ a n c, lv = .slice a n c) (v : Nat) (hv : lvlN nd = v) {R : Ending → World → Prop} (hR : ∀ w', Below w.heap.size w w' → R (.returned (.int .i64 v)) w') :
   Calls Tryz.prog 117 #[ndVal nd lv] w R := binds_any w nd lv hl (hv ▸ hR)
theorem parts_two {p : Nat} {x : ByteArray} {a b : Ty.Ex} (ha : ExC wB nv tv pg wb main a) (hb : ExC wB nv tv pg wb main b) : BaC 153 wB nv tv pg wb main (.two p x a b) := by
 intro n nd lv hd hn hl ind out w Fr hF H hsz hlen R hR
 rw [Ty.DenE] at hd
 obtain ⟨na, nb, h1, hda, hdb⟩ := hd
 rw [hn] at h1
 cases h1
 rw [Ty.szE] at hsz
 have e : Ty.wE pg.ts ind (.two p x a b) = Ty.wP pg.ts ind (max (Ty.signLv x) 1) a ++ [32] ++ x.data.toList ++ [32] ++ Ty.wP pg.ts ind (Ty.signLv x + 1) b := by rw [Ty.wE]; rfl
 rw [e] at hlen hR
 have hsg := signLv_cases x
 have HA := qh (fun o w1 F' hF' h ho => ha na hda (max (Ty.signLv x) 1) ind o w1 F' hF' h (by omega) (by omega) ho)
 have HB := qh (fun o w1 F' hF' h ho => hb nb hdb (Ty.signLv x + 1) ind o w1 F' hF' h (by omega) (by omega) ho)
 have HR := qh hR
 obtain ⟨la, lc, rfl⟩ := owns_slice hl
 generalize Ty.wP pg.ts ind (max (Ty.signLv x) 1) a = pa at *
 generalize Ty.wP pg.ts ind (Ty.signLv x + 1) b = pb at *
 simp only [lzA, lzC, lzN] at hlen
 have HLE := qh hlen
 have HF := qh (hF.stars (M := [blk w.heap.size (ndObj { Ty.ndOf 12 p with text := x, a := na, b := nb } (.slice la 0 lc))]))
 have h1 := (H.allocAt (ndObj { Ty.ndOf 12 p with text := x, a := na, b := nb } (.slice la 0 lc)) w.heap.size)
 have x0 := h1.cell 2 rfl 0 rfl
 have x1 := h1.cell 2 rfl 1 rfl
 have x2 := h1.cell 2 rfl 2 rfl
 have x3 := h1.cell 2 rfl 3 rfl
 have x4 := h1.cell 2 rfl 4 rfl
 have x5 := h1.cell 2 rfl 5 rfl
 have x6 := h1.cell 2 rfl 6 rfl
 have x7 := h1.cell 2 rfl 7 rfl
 have x8 := h1.cell 2 rfl 8 rfl
 have H1 := qh h1
 have HC := qh (fun (w1 : World) (o : List UInt8) (h : Sat wB w1 [stars [Fr, blk w.heap.size (ndObj { Ty.ndOf 12 p with text := x, a := na, b := nb } (.slice la 0 lc))], wrA wb nv tv main ind o]) => (⟨h.unswap.cell 2 rfl 1 rfl, h.unswap.cell 2 rfl 2 rfl, h.unswap.cell 2 rfl 5 rfl⟩ : w1.cell? ⟨w.heap.size, 1, none⟩ = some (.int .i64 (na : Nat)) ∧ w1.cell? ⟨w.heap.size, 2, none⟩ = some (.int .i64 (nb : Nat)) ∧ w1.cell? ⟨w.heap.size, 5, none⟩ = some (.string x)))
 clear hR hlen H hF ha hb hda hdb hn hl hsz e h1
 dsimp only [ndVal, Ty.ndOf] at *
 go_enter Tryz.func153, Tryz.ntmps153
 go_wp2_with fail
 refine binds_is _ { Ty.ndOf 12 p with text := x, a := na, b := nb } (.slice la 0 lc) ⟨_, _, _, rfl⟩ (Ty.signLv x) rfl (fun w2 hb2 => ?_)
 have h2 := (H1.out.below hb2).swap
 have q1 := (HC.out _ _ h2).1
 have H2 := qh h2
 clear hb2 h2 x0 x1 x2 x3 x4 x5 x6 x7 x8
 generalize Ty.signLv x = sg at *
 rcases hsg with rfl | rfl | rfl
 · go_wp2_with fail
   refine HA.out _ _ _ HF.out H2.out (by have := HLE.out; omega) _ (fun w3 h3 => ?_)
   have q5 := (HC.out _ _ h3).2.2
   have H3 := qh h3
   clear h3 q1
   go_wp2_with fail
   refine put3 H3.out _ _ _ [32] x.data.toList [32] rfl (bs_of x).symm rfl (by have := HLE.out; simp only [lzA, lzC, lzN]; omega) _ (by simp) (fun w4 h4 => ?_)
   have q2 := (HC.out _ _ h4).2.1
   have H4 := qh h4
   clear h4 q5
   go_wp2_with fail
   refine HB.out _ _ _ HF.out H4.out (by have := HLE.out; simp only [lzA, lzC, lzN]; omega) _ (fun w5 h5 => ?_)
   have H5 := qh h5
   clear h5 q2
   go_wp2_with fail
   go_end0
   refine HR.out _ ?_
   rw [show out ++ (pa ++ [32] ++ x.data.toList ++ [32] ++ pb) = out ++ pa ++ ([32] ++ (x.data.toList ++ [32])) ++ pb by simp]
   exact H5.out.unswap.pick [0, 1]
 · go_wp2_with fail
   refine HA.out _ _ _ HF.out H2.out (by have := HLE.out; omega) _ (fun w3 h3 => ?_)
   have q5 := (HC.out _ _ h3).2.2
   have H3 := qh h3
   clear h3 q1
   go_wp2_with fail
   refine put3 H3.out _ _ _ [32] x.data.toList [32] rfl (bs_of x).symm rfl (by have := HLE.out; simp only [lzA, lzC, lzN]; omega) _ (by simp) (fun w4 h4 => ?_)
   have q2 := (HC.out _ _ h4).2.1
   have H4 := qh h4
   clear h4 q5
   go_wp2_with fail
   refine HB.out _ _ _ HF.out H4.out (by have := HLE.out; simp only [lzA, lzC, lzN]; omega) _ (fun w5 h5 => ?_)
   have H5 := qh h5
   clear h5 q2
   go_wp2_with fail
   go_end0
   refine HR.out _ ?_
   rw [show out ++ (pa ++ [32] ++ x.data.toList ++ [32] ++ pb) = out ++ pa ++ ([32] ++ (x.data.toList ++ [32])) ++ pb by simp]
   exact H5.out.unswap.pick [0, 1]
 · go_wp2_with fail
   refine HA.out _ _ _ HF.out H2.out (by have := HLE.out; omega) _ (fun w3 h3 => ?_)
   have q5 := (HC.out _ _ h3).2.2
   have H3 := qh h3
   clear h3 q1
   go_wp2_with fail
   refine put3 H3.out _ _ _ [32] x.data.toList [32] rfl (bs_of x).symm rfl (by have := HLE.out; simp only [lzA, lzC, lzN]; omega) _ (by simp) (fun w4 h4 => ?_)
   have q2 := (HC.out _ _ h4).2.1
   have H4 := qh h4
   clear h4 q5
   go_wp2_with fail
   refine HB.out _ _ _ HF.out H4.out (by have := HLE.out; simp only [lzA, lzC, lzN]; omega) _ (fun w5 h5 => ?_)
   have H5 := qh h5
   clear h5 q2
   go_wp2_with fail
   go_end0
   refine HR.out _ ?_
   rw [show out ++ (pa ++ [32] ++ x.data.toList ++ [32] ++ pb) = out ++ pa ++ ([32] ++ (x.data.toList ++ [32])) ++ pb by simp]
   exact H5.out.unswap.pick [0, 1]
theorem parts_one {p : Nat} {x : ByteArray} {a : Ty.Ex} (ha : ExC wB nv tv pg wb main a) : BaC 153 wB nv tv pg wb main (.one p x a) := by
 intro n nd lv hd hn hl ind out w Fr hF H hsz hlen R hR
 rw [Ty.DenE] at hd
 obtain ⟨na, h1, hda⟩ := hd
 rw [hn] at h1
 cases h1
 rw [Ty.szE] at hsz
 have e : Ty.wE pg.ts ind (.one p x a) = x.data.toList ++ (if x.data.toList = Ty.typeofS then [32] else []) ++ Ty.wP pg.ts ind 3 a := by rw [Ty.wE]; rfl
 rw [e] at hlen hR
 have HA := qh (fun o w1 F' hF' h ho => ha na hda 3 ind o w1 F' hF' h (by omega) (by omega) ho)
 have HR := qh hR
 obtain ⟨la, lc, rfl⟩ := owns_slice hl
 generalize Ty.wP pg.ts ind 3 a = pa at *
 simp only [List.length_append] at hlen
 have HLE := qh hlen
 have HF := qh (hF.stars (M := [blk w.heap.size (ndObj { Ty.ndOf 13 p with text := x, a := na } (.slice la 0 lc))]))
 have h1 := (H.allocAt (ndObj { Ty.ndOf 13 p with text := x, a := na } (.slice la 0 lc)) w.heap.size)
 have HC := qh (fun (w1 : World) (o : List UInt8) (h : Sat wB w1 [stars [Fr, blk w.heap.size (ndObj { Ty.ndOf 13 p with text := x, a := na } (.slice la 0 lc))], wrA wb nv tv main ind o]) => (⟨h.unswap.cell 2 rfl 1 rfl, h.unswap.cell 2 rfl 5 rfl⟩ : w1.cell? ⟨w.heap.size, 1, none⟩ = some (.int .i64 (na : Nat)) ∧ w1.cell? ⟨w.heap.size, 5, none⟩ = some (.string x)))
 have H1 := qh h1.swap
 have hc : (x.toList == [116, 121, 112, 101, 111, 102]) = true ∧ x.data.toList = Ty.typeofS ∨ (x.toList == [116, 121, 112, 101, 111, 102]) = false ∧ ¬ x.data.toList = Ty.typeofS := by
   rw [Lib.toList_data]
   by_cases h : x.data.toList = Ty.typeofS
   · left; exact ⟨by rw [h]; rfl, h⟩
   · right; exact ⟨beq_eq_false_iff_ne.2 h, h⟩
 clear hR hlen H hF ha hda hn hl hsz e h1
 dsimp only [ndVal, Ty.ndOf] at *
 rcases hc with ⟨k1, hk⟩ | ⟨k1, hk⟩
 · rw [if_pos hk] at HR HLE
   clear hk
   go_enter Tryz.func153, Tryz.ntmps153
   go_wp2_with fail
   refine put1 H1.out x x.data.toList (bs_of x).symm (by have := HLE.out; omega) _ (by simp) (fun w2 h2 => ?_)
   have q5 := (HC.out _ _ h2).2
   have H2 := qh h2
   clear h2
   go_wp2_with fail
   refine put1 H2.out _ [32] rfl (by have := HLE.out; (try simp only [lzA, lzC, lzN] at this ⊢); omega) _ (by simp) (fun w3 h3 => ?_)
   have q1 := (HC.out _ _ h3).1
   have H3 := qh h3
   clear h3 q5
   go_wp2_with fail
   refine HA.out _ _ _ HF.out H3.out (by have := HLE.out; (try simp only [lzA, lzC, lzN] at this ⊢); omega) _ (fun w4 h4 => ?_)
   have H4 := qh h4
   clear h4 q1
   go_wp2_with fail
   go_end0
   exact HR.out _ (by rw [← List.append_assoc, ← List.append_assoc]; exact H4.out.unswap.pick [0, 1])
 · rw [if_neg hk] at HR HLE
   rw [List.append_nil] at HR
   clear hk
   go_enter Tryz.func153, Tryz.ntmps153
   go_wp2_with fail
   refine put1 H1.out x x.data.toList (bs_of x).symm (by have := HLE.out; omega) _ (by simp) (fun w2 h2 => ?_)
   have q5 := (HC.out _ _ h2).2
   have q1 := (HC.out _ _ h2).1
   have H2 := qh h2
   clear h2
   go_wp2_with fail
   refine HA.out _ _ _ HF.out H2.out (by have := HLE.out; simp only [List.length_append, List.length_nil] at this ⊢; omega) _ (fun w4 h4 => ?_)
   have H4 := qh h4
   clear h4 q1 q5
   go_wp2_with fail
   go_end0
   exact HR.out _ (by rw [← List.append_assoc]; exact H4.out.unswap.pick [0, 1])
theorem parts_call {p : Nat} {a : Ty.Ex} {l : List Ty.Ex} (ha : ExC wB nv tv pg wb main a) (hE : ∀ e ∈ l, ExC wB nv tv pg wb main e) : BaC 153 wB nv tv pg wb main (.call p a l) := by
 intro n nd lv hd hn hl ind out w Fr hF H hsz hlen R hR
 rw [Ty.DenE] at hd
 obtain ⟨na, nl, h1, hda, hdl⟩ := hd
 rw [hn] at h1
 cases h1
 rw [Ty.szE] at hsz
 have e : Ty.wE pg.ts ind (.call p a l) = Ty.wP pg.ts ind 4 a ++ [40] ++ Ty.joinL [44, 32] (Ty.wEs pg.ts ind l) ++ [41] := by rw [Ty.wE]; rfl
 rw [e] at hlen hR
 have HA := qh (fun o w1 F' hF' h ho => ha na hda 4 ind o w1 F' hF' h (by omega) (by omega) ho)
 have HL := qh (fun (o : List UInt8) (w1 : World) F' (hF' : FrB wB F') (h : Sat wB w1 [F', wrA wb nv tv main ind o]) ho (R : Ending → World → Prop) => wexprs_any (R := R) hE hdl lv hl hF' h (by omega) ho)
 have HR := qh hR
 obtain ⟨la, lc, rfl⟩ := owns_slice hl
 generalize Ty.wP pg.ts ind 4 a = pa at *
 generalize Ty.joinL [44, 32] (Ty.wEs pg.ts ind l) = pl at *
 simp only [lzA, lzC, lzN] at hlen
 have HLE := qh hlen
 have HF := qh (hF.stars (M := [blk w.heap.size (ndObj { Ty.ndOf 7 p with a := na, list := nl } (.slice la nl.length lc))]))
 have h1 := (H.allocAt (ndObj { Ty.ndOf 7 p with a := na, list := nl } (.slice la nl.length lc)) w.heap.size)
 have HC := qh (fun (w1 : World) (o : List UInt8) (h : Sat wB w1 [stars [Fr, blk w.heap.size (ndObj { Ty.ndOf 7 p with a := na, list := nl } (.slice la nl.length lc))], wrA wb nv tv main ind o]) => (⟨h.unswap.cell 2 rfl 0 rfl, h.unswap.cell 2 rfl 1 rfl, h.unswap.cell 2 rfl 4 rfl⟩ : w1.cell? ⟨w.heap.size, 0, none⟩ = some (.int .i64 (7 : Nat)) ∧ w1.cell? ⟨w.heap.size, 1, none⟩ = some (.int .i64 (na : Nat)) ∧ w1.cell? ⟨w.heap.size, 4, none⟩ = some (.slice la nl.length lc)))
 have q := HC.out _ _ h1.swap
 have H1 := qh h1.swap
 clear hR hlen H hF hn hl hsz e h1 ha hE hda hdl
 dsimp only [ndVal, Ty.ndOf] at *
 go_enter Tryz.func153, Tryz.ntmps153
 go_wp2_with fail
 refine HA.out _ _ _ HF.out H1.out (by have := HLE.out; (try simp only [lzA, lzC, lzN] at this ⊢); omega) _ (fun w2 h2 => ?_)
 have q := HC.out _ _ h2
 have H2 := qh h2
 clear h2
 go_wp2_with fail
 refine put1 H2.out _ [40] rfl (by have := HLE.out; (try simp only [lzA, lzC, lzN] at this ⊢); omega) _ (by simp) (fun w3 h3 => ?_)
 have q := HC.out _ _ h3
 have H3 := qh h3
 clear h3
 go_wp2_with fail
 refine HL.out _ _ _ HF.out H3.out (by have := HLE.out; (try simp only [lzA, lzC, lzN] at this ⊢); omega) _ (fun w4 h4 => ?_)
 have q := HC.out _ _ h4
 have H4 := qh h4
 clear h4
 go_wp2_with fail
 refine put1 H4.out _ [41] rfl (by have := HLE.out; (try simp only [lzA, lzC, lzN] at this ⊢); omega) _ (by simp) (fun w5 h5 => ?_)
 have q := HC.out _ _ h5
 have H5 := qh h5
 clear h5
 go_wp2_with fail
 go_end0
 refine HR.out _ ?_
 rw [show out ++ (pa ++ [40] ++ pl ++ [41]) = out ++ pa ++ [40] ++ pl ++ [41] by simp]
 exact H5.out.unswap.pick [0, 1]
theorem parts_get {p : Nat} {a : Ty.Ex} {x : ByteArray} (ha : ExC wB nv tv pg wb main a) : BaC 153 wB nv tv pg wb main (.get p a x) := by
 intro n nd lv hd hn hl ind out w Fr hF H hsz hlen R hR
 rw [Ty.DenE] at hd
 obtain ⟨na, h1, hda⟩ := hd
 rw [hn] at h1
 cases h1
 rw [Ty.szE] at hsz
 have e : Ty.wE pg.ts ind (.get p a x) = Ty.wP pg.ts ind 4 a ++ [46] ++ x.data.toList := by rw [Ty.wE]; rfl
 rw [e] at hlen hR
 have HA := qh (fun o w1 F' hF' h ho => ha na hda 4 ind o w1 F' hF' h (by omega) (by omega) ho)
 have HR := qh hR
 obtain ⟨la, lc, rfl⟩ := owns_slice hl
 generalize Ty.wP pg.ts ind 4 a = pa at *
 simp only [lzA, lzC, lzN] at hlen
 have HLE := qh hlen
 have HF := qh (hF.stars (M := [blk w.heap.size (ndObj { Ty.ndOf 8 p with a := na, text := x } (.slice la 0 lc))]))
 have h1 := (H.allocAt (ndObj { Ty.ndOf 8 p with a := na, text := x } (.slice la 0 lc)) w.heap.size)
 have HC := qh (fun (w1 : World) (o : List UInt8) (h : Sat wB w1 [stars [Fr, blk w.heap.size (ndObj { Ty.ndOf 8 p with a := na, text := x } (.slice la 0 lc))], wrA wb nv tv main ind o]) => (⟨h.unswap.cell 2 rfl 0 rfl, h.unswap.cell 2 rfl 1 rfl, h.unswap.cell 2 rfl 5 rfl⟩ : w1.cell? ⟨w.heap.size, 0, none⟩ = some (.int .i64 (8 : Nat)) ∧ w1.cell? ⟨w.heap.size, 1, none⟩ = some (.int .i64 (na : Nat)) ∧ w1.cell? ⟨w.heap.size, 5, none⟩ = some (.string x)))
 have q := HC.out _ _ h1.swap
 have H1 := qh h1.swap
 clear hR hlen H hF hn hl hsz e h1 ha hda
 dsimp only [ndVal, Ty.ndOf] at *
 go_enter Tryz.func153, Tryz.ntmps153
 go_wp2_with fail
 refine HA.out _ _ _ HF.out H1.out (by have := HLE.out; (try simp only [lzA, lzC, lzN] at this ⊢); omega) _ (fun w2 h2 => ?_)
 have q := HC.out _ _ h2
 have H2 := qh h2
 clear h2
 go_wp2_with fail
 refine put2 H2.out _ _ [46] x.data.toList rfl (bs_of x).symm (by have := HLE.out; (try simp only [lzA, lzC, lzN] at this ⊢); omega) _ (by simp) (fun w3 h3 => ?_)
 have q := HC.out _ _ h3
 have H3 := qh h3
 clear h3
 go_wp2_with fail
 go_end0
 refine HR.out _ ?_
 rw [show out ++ (pa ++ [46] ++ x.data.toList) = out ++ pa ++ ([46] ++ x.data.toList) by simp]
 exact H3.out.unswap.pick [0, 1]
theorem parts_at {p : Nat} {a b : Ty.Ex} (ha : ExC wB nv tv pg wb main a) (hb : ExC wB nv tv pg wb main b) : BaC 153 wB nv tv pg wb main (.at p a b) := by
 intro n nd lv hd hn hl ind out w Fr hF H hsz hlen R hR
 rw [Ty.DenE] at hd
 obtain ⟨na, nb, h1, hda, hdb⟩ := hd
 rw [hn] at h1
 cases h1
 rw [Ty.szE] at hsz
 have e : Ty.wE pg.ts ind (.at p a b) = Ty.wP pg.ts ind 4 a ++ [91] ++ Ty.wE pg.ts ind b ++ [93] := by rw [Ty.wE]; rfl
 rw [e] at hlen hR
 rw [← Ty.wP_zero pg.ts ind b] at hlen hR
 have HA := qh (fun o w1 F' hF' h ho => ha na hda 4 ind o w1 F' hF' h (by omega) (by omega) ho)
 have HB := qh (fun o w1 F' hF' h ho => hb nb hdb 0 ind o w1 F' hF' h (by omega) (by omega) ho)
 have HR := qh hR
 obtain ⟨la, lc, rfl⟩ := owns_slice hl
 generalize Ty.wP pg.ts ind 4 a = pa at *
 generalize Ty.wP pg.ts ind 0 b = pb at *
 simp only [lzA, lzC, lzN] at hlen
 have HLE := qh hlen
 have HF := qh (hF.stars (M := [blk w.heap.size (ndObj { Ty.ndOf 9 p with a := na, b := nb } (.slice la 0 lc))]))
 have h1 := (H.allocAt (ndObj { Ty.ndOf 9 p with a := na, b := nb } (.slice la 0 lc)) w.heap.size)
 have HC := qh (fun (w1 : World) (o : List UInt8) (h : Sat wB w1 [stars [Fr, blk w.heap.size (ndObj { Ty.ndOf 9 p with a := na, b := nb } (.slice la 0 lc))], wrA wb nv tv main ind o]) => (⟨h.unswap.cell 2 rfl 0 rfl, h.unswap.cell 2 rfl 1 rfl, h.unswap.cell 2 rfl 2 rfl⟩ : w1.cell? ⟨w.heap.size, 0, none⟩ = some (.int .i64 (9 : Nat)) ∧ w1.cell? ⟨w.heap.size, 1, none⟩ = some (.int .i64 (na : Nat)) ∧ w1.cell? ⟨w.heap.size, 2, none⟩ = some (.int .i64 (nb : Nat))))
 have q := HC.out _ _ h1.swap
 have H1 := qh h1.swap
 clear hR hlen H hF hn hl hsz e h1 ha hda hb hdb
 dsimp only [ndVal, Ty.ndOf] at *
 go_enter Tryz.func153, Tryz.ntmps153
 go_wp2_with fail
 refine HA.out _ _ _ HF.out H1.out (by have := HLE.out; (try simp only [lzA, lzC, lzN] at this ⊢); omega) _ (fun w2 h2 => ?_)
 have q := HC.out _ _ h2
 have H2 := qh h2
 clear h2
 go_wp2_with fail
 refine put1 H2.out _ [91] rfl (by have := HLE.out; (try simp only [lzA, lzC, lzN] at this ⊢); omega) _ (by simp) (fun w3 h3 => ?_)
 have q := HC.out _ _ h3
 have H3 := qh h3
 clear h3
 go_wp2_with fail
 refine HB.out _ _ _ HF.out H3.out (by have := HLE.out; (try simp only [lzA, lzC, lzN] at this ⊢); omega) _ (fun w4 h4 => ?_)
 have q := HC.out _ _ h4
 have H4 := qh h4
 clear h4
 go_wp2_with fail
 refine put1 H4.out _ [93] rfl (by have := HLE.out; (try simp only [lzA, lzC, lzN] at this ⊢); omega) _ (by simp) (fun w5 h5 => ?_)
 have q := HC.out _ _ h5
 have H5 := qh h5
 clear h5
 go_wp2_with fail
 go_end0
 refine HR.out _ ?_
 rw [show out ++ (pa ++ [91] ++ pb ++ [93]) = out ++ pa ++ [91] ++ pb ++ [93] by simp]
 exact H5.out.unswap.pick [0, 1]
theorem parts_as (hP : PB wB nv tv pg) {p : Nat} {a : Ty.Ex} {ty : Int} (ha : ExC wB nv tv pg wb main a) : BaC 153 wB nv tv pg wb main (.as p a ty) := by
 intro n nd lv hd hn hl ind out w Fr hF H hsz hlen R hR
 rw [Ty.DenE] at hd
 obtain ⟨na, h1, hda⟩ := hd
 rw [hn] at h1
 cases h1
 rw [Ty.szE] at hsz
 have e : Ty.wE pg.ts ind (.as p a ty) = Ty.wP pg.ts ind 4 a ++ [32, 97, 115, 32] ++ Ty.text (Ty.den pg.ts ty.toNat) := by rw [Ty.wE]; rfl
 rw [e] at hlen hR
 have hok := hP.ok.ns _ (List.mem_of_getElem? hn)
 obtain ⟨m, rfl, hm⟩ : ∃ m : Nat, ty = (m : Int) ∧ Ty.TyIn m pg.ts := by
   rcases hok.ty with h | h
   · have := hok.asTy rfl; omega
   · exact h
 rw [show ((m : Int)).toNat = m by omega] at hlen hR
 have HT := qh (hP.text hm).1
 have HA := qh (fun o w1 F' hF' h ho => ha na hda 4 ind o w1 F' hF' h (by omega) (by omega) ho)
 have HR := qh hR
 obtain ⟨la, lc, rfl⟩ := owns_slice hl
 obtain ⟨ta, tn, tc, rfl⟩ := hP.tySlice
 generalize Ty.wP pg.ts ind 4 a = pa at *
 generalize Ty.text (Ty.den pg.ts m) = tx at *
 simp only [lzA, lzC, lzN] at hlen
 have HLE := qh hlen
 have HF := qh (hF.stars (M := [blk w.heap.size (ndObj { Ty.ndOf 14 p with a := na, ty := (m : Int) } (.slice la 0 lc))]))
 have h1 := (H.allocAt (ndObj { Ty.ndOf 14 p with a := na, ty := (m : Int) } (.slice la 0 lc)) w.heap.size)
 have HC := qh (fun (w1 : World) (o : List UInt8) (h : Sat wB w1 [stars [Fr, blk w.heap.size (ndObj { Ty.ndOf 14 p with a := na, ty := (m : Int) } (.slice la 0 lc))], wrA wb nv (.slice ta tn tc) main ind o]) => (⟨h.unswap.cell 2 rfl 0 rfl, h.unswap.cell 2 rfl 1 rfl, h.unswap.cell 2 rfl 7 rfl, by obtain ⟨p, v, hw⟩ := h.openWr; exact ⟨hw.cell 2 rfl 3 rfl, hw.lt 2 rfl⟩⟩ : w1.cell? ⟨w.heap.size, 0, none⟩ = some (.int .i64 (14 : Nat)) ∧ w1.cell? ⟨w.heap.size, 1, none⟩ = some (.int .i64 (na : Nat)) ∧ w1.cell? ⟨w.heap.size, 7, none⟩ = some (.int .i64 (m : Nat)) ∧ w1.cell? ⟨wb, 3, none⟩ = some (.slice ta tn tc) ∧ wb < w1.heap.size))
 have q := HC.out _ _ h1.swap
 have H1 := qh h1.swap
 clear hR hlen H hF hn hl hsz e h1 ha hda hok hm hP
 dsimp only [ndVal, Ty.ndOf] at *
 go_enter Tryz.func153, Tryz.ntmps153
 go_wp2_with fail
 refine HA.out _ _ _ HF.out H1.out (by have := HLE.out; omega) _ (fun w2 h2 => ?_)
 obtain ⟨z0, z1, z7, z3, zl⟩ := HC.out _ _ h2
 have HB2 := qh (HF.out w2 _ 0 h2 rfl)
 have H2 := qh h2
 clear h2 q
 go_wp2_with fail
 go_region_held3 (fun w' => w'.cell? ⟨w.heap.size, 7, none⟩ = some (.int .i64 (m : Nat)) ∧ w'.cell? ⟨wb, 3, none⟩ = some (.slice ta tn tc)) (go_keep)
   (first | (go_at_call 45; refine HT.out _ HB2.out.drew _ (fun w3 hb3 => ?_); have h3 := H2.out.drew.below hb3; have s0 := (HC.out _ _ h3).2.2.1; have s1 := (HC.out _ _ h3).2.2.2.1; have H3 := qh h3; clear hb3 h3)
          | (go_at_call 80; refine put2 H3.out _ _ [32, 97, 115, 32] tx rfl rfl (by have := HLE.out; (try simp only [lzA, lzC, lzN] at this ⊢); omega) _ (by simp) (fun w4 h4 => ?_); have s0 := (HC.out _ _ h4).2.2.1; have s1 := (HC.out _ _ h4).2.2.2.1; have H4 := qh h4; clear h4))
 all_goals
   go_wp2_with fail
   go_end0
   refine HR.out _ ?_
   rw [show out ++ (pa ++ [32, 97, 115, 32] ++ tx) = out ++ pa ++ ([32, 97, 115, 32] ++ tx) by simp]
   exact H4.out.unswap.pick [0, 1]
end
end
end Go.Proofs.YtdlbhiaceheffaaGreatDoor
namespace Go.Proofs
open Go.Shelf
def Tryz.laysM171_ren : Go.Shelf.Ren := ⟨fun | 171 => 147 | 243 => 171 | 246 => 181 | 283 => 188 | 284 => 189 | 285 => 190 | 286 => 191 | 129 => 202 | 317 => 201 | 318 => 203 | 319 => 204 | 320 => 205 | 337 => 210 | 338 => 211 | n => n, fun | 3 => 3 | 9 => 9 | 2 => 2 | 4 => 4 | 171 => 172 | 0 => 0 | 53 => 156 | 37 => 85 | 5 => 5 | 173 => 175 | 212 => 182 | 51 => 153 | 20 => 20 | 213 => 183 | 46 => 142 | 232 => 194 | 233 => 195 | n => n, fun | 17 => 2 | 18 => 3 | 19 => 4 | n => n⟩
theorem Tryz.laysM171 : Go.Proofs.LaysM.n171 Tryz.prog Tryz.laysM171_ren := {
 mixed := by kernel_rfl
 f129 := Tryz.func202.trans (congrArg some (by kernel_rfl))
 f171 := Tryz.func147.trans (congrArg some (by kernel_rfl))
 f243 := Tryz.func171.trans (congrArg some (by kernel_rfl))
 f246 := Tryz.func181.trans (congrArg some (by kernel_rfl))
 f283 := Tryz.func188.trans (congrArg some (by kernel_rfl))
 f284 := Tryz.func189.trans (congrArg some (by kernel_rfl))
 f285 := Tryz.func190.trans (congrArg some (by kernel_rfl))
 f286 := Tryz.func191.trans (congrArg some (by kernel_rfl))
 f317 := Tryz.func201.trans (congrArg some (by kernel_rfl))
 f318 := Tryz.func203.trans (congrArg some (by kernel_rfl))
 f319 := Tryz.func204.trans (congrArg some (by kernel_rfl))
 f320 := Tryz.func205.trans (congrArg some (by kernel_rfl))
 f337 := Tryz.func210.trans (congrArg some (by kernel_rfl))
 f338 := Tryz.func211.trans (congrArg some (by kernel_rfl))
 t0 := Tryz.underlying0
 a0 := Tryz.isAgg0
 z0 := Tryz.sizeOf0
 v0 := Tryz.zeroValue0
 t2 := Tryz.underlying2
 a2 := Tryz.isAgg2
 z2 := Tryz.sizeOf2
 v2 := Tryz.zeroValue2
 t3 := Tryz.underlying3
 a3 := Tryz.isAgg3
 z3 := Tryz.sizeOf3
 v3 := Tryz.zeroValue3
 t4 := Tryz.underlying4
 a4 := Tryz.isAgg4
 z4 := Tryz.sizeOf4
 v4 := Tryz.zeroValue4
 t5 := Tryz.underlying5
 a5 := Tryz.isAgg5
 z5 := Tryz.sizeOf5
 v5 := Tryz.zeroValue5
 t9 := Tryz.underlying9
 a9 := Tryz.isAgg9
 z9 := Tryz.sizeOf9
 v9 := Tryz.zeroValue9
 t20 := Tryz.underlying20
 a20 := Tryz.isAgg20
 z20 := Tryz.sizeOf20
 v20 := Tryz.zeroValue20
 t37 := Tryz.underlying85
 a37 := Tryz.isAgg85
 z37 := Tryz.sizeOf85
 v37 := Tryz.zeroValue85
 t46 := Tryz.underlying142
 a46 := Tryz.isAgg142
 z46 := Tryz.sizeOf142
 v46 := Tryz.zeroValue142
 t51 := Tryz.underlying153
 a51 := Tryz.isAgg153
 z51 := Tryz.sizeOf153
 v51 := Tryz.zeroValue153
 t53 := Tryz.underlying156
 a53 := Tryz.isAgg156
 z53 := Tryz.sizeOf156
 v53 := Tryz.zeroValue156
 t171 := Tryz.underlying172
 a171 := Tryz.isAgg172
 z171 := Tryz.sizeOf172
 v171 := Tryz.zeroValue172
 t173 := Tryz.underlying175
 a173 := Tryz.isAgg175
 z173 := Tryz.sizeOf175
 v173 := Tryz.zeroValue175
 t212 := Tryz.underlying182
 a212 := Tryz.isAgg182
 z212 := Tryz.sizeOf182
 v212 := Tryz.zeroValue182
 t213 := Tryz.underlying183
 a213 := Tryz.isAgg183
 z213 := Tryz.sizeOf183
 t232 := Tryz.underlying194
 a232 := Tryz.isAgg194
 z232 := Tryz.sizeOf194
 v232 := Tryz.zeroValue194
 t233 := Tryz.underlying195
 a233 := Tryz.isAgg195
 z233 := Tryz.sizeOf195
 v233 := Tryz.zeroValue195
 g17 := by kernel_rfl
 g18 := by kernel_rfl
 g19 := by kernel_rfl
 i0 := by kernel_rfl
 i2 := by kernel_rfl
 i3 := by kernel_rfl
 i4 := by kernel_rfl
 i5 := by kernel_rfl
 i9 := by kernel_rfl
 i20 := by kernel_rfl
 i37 := by kernel_rfl
 i46 := by kernel_rfl
 i51 := by kernel_rfl
 i53 := by kernel_rfl
 i171 := by kernel_rfl
 i173 := by kernel_rfl
 i212 := by kernel_rfl
 i232 := by kernel_rfl
 i233 := by kernel_rfl
 m17 := by kernel_rfl
 m18 := by kernel_rfl
 m19 := by kernel_rfl }
open Go.RowKit Go.Sort Go.Lib in
theorem Tryz.strconv_Itoa (n : Int) (h0 : -9223372036854775808 ≤ n) (h1 : n ≤ 9223372036854775807) (w : World) (htab : Lib.TabIs Tryz.prog w "internal/strconv.uint64pow10" .u64 Lib.pow10Tab) :
   Calls Tryz.prog 147 #[.int .i64 n] w fun e w' => e = .returned (.string ⟨(Lib.itoa n).toArray⟩) ∧ ∃ k os, w' = grow (w.drewN k) os := Any.strconv_Itoa Tryz.laysM171 n h0 h1 w htab
def Tryz.lays105_ren : Go.Shelf.Ren := ⟨fun | 105 => 81 | 212 => 114 | 99 => 115 | 165 => 116 | 166 => 113 | 170 => 42 | 169 => 43 | 263 => 143 | 264 => 144 | 206 => 145 | 240 => 142 | 241 => 146 | 276 => 169 | 277 => 170 | n => n, fun | 9 => 9 | 3 => 3 | 4 => 4 | 20 => 20 | 0 => 0 | 46 => 142 | 109 => 143 | 5 => 5 | 72 => 87 | 76 => 140 | 51 => 153 | 146 => 154 | 53 => 156 | 148 => 157 | 70 => 84 | 37 => 85 | 75 => 139 | 127 => 118 | 164 => 166 | 80 => 91 | n => n, fun | n => n⟩
theorem Tryz.lays105 : Go.Proofs.Lays.n105 Tryz.prog Tryz.lays105_ren := {
 mixed := by kernel_rfl
 f99 := Tryz.func115.trans (congrArg some (by kernel_rfl))
 f105 := Tryz.func81.trans (congrArg some (by kernel_rfl))
 f165 := Tryz.func116.trans (congrArg some (by kernel_rfl))
 f166 := Tryz.func113.trans (congrArg some (by kernel_rfl))
 f169 := Tryz.func43.trans (congrArg some (by kernel_rfl))
 f170 := Tryz.func42.trans (congrArg some (by kernel_rfl))
 f206 := Tryz.func145.trans (congrArg some (by kernel_rfl))
 f212 := Tryz.func114.trans (congrArg some (by kernel_rfl))
 f240 := Tryz.func142.trans (congrArg some (by kernel_rfl))
 f241 := Tryz.func146.trans (congrArg some (by kernel_rfl))
 f263 := Tryz.func143.trans (congrArg some (by kernel_rfl))
 f264 := Tryz.func144.trans (congrArg some (by kernel_rfl))
 f276 := Tryz.func169.trans (congrArg some (by kernel_rfl))
 f277 := Tryz.func170.trans (congrArg some (by kernel_rfl))
 t0 := Tryz.underlying0
 a0 := Tryz.isAgg0
 z0 := Tryz.sizeOf0
 v0 := Tryz.zeroValue0
 t3 := Tryz.underlying3
 a3 := Tryz.isAgg3
 z3 := Tryz.sizeOf3
 v3 := Tryz.zeroValue3
 t4 := Tryz.underlying4
 a4 := Tryz.isAgg4
 z4 := Tryz.sizeOf4
 v4 := Tryz.zeroValue4
 t5 := Tryz.underlying5
 a5 := Tryz.isAgg5
 z5 := Tryz.sizeOf5
 v5 := Tryz.zeroValue5
 t9 := Tryz.underlying9
 a9 := Tryz.isAgg9
 z9 := Tryz.sizeOf9
 v9 := Tryz.zeroValue9
 t20 := Tryz.underlying20
 a20 := Tryz.isAgg20
 z20 := Tryz.sizeOf20
 v20 := Tryz.zeroValue20
 t37 := Tryz.underlying85
 a37 := Tryz.isAgg85
 z37 := Tryz.sizeOf85
 v37 := Tryz.zeroValue85
 t46 := Tryz.underlying142
 a46 := Tryz.isAgg142
 z46 := Tryz.sizeOf142
 v46 := Tryz.zeroValue142
 t51 := Tryz.underlying153
 a51 := Tryz.isAgg153
 z51 := Tryz.sizeOf153
 v51 := Tryz.zeroValue153
 t53 := Tryz.underlying156
 a53 := Tryz.isAgg156
 z53 := Tryz.sizeOf156
 v53 := Tryz.zeroValue156
 t70 := Tryz.underlying84
 a70 := Tryz.isAgg84
 z70 := Tryz.sizeOf84
 v70 := Tryz.zeroValue84
 t72 := Tryz.underlying87
 a72 := Tryz.isAgg87
 z72 := Tryz.sizeOf87
 v72 := Tryz.zeroValue87
 t75 := Tryz.underlying139
 a75 := Tryz.isAgg139
 z75 := Tryz.sizeOf139
 v75 := Tryz.zeroValue139
 t76 := Tryz.underlying140
 a76 := Tryz.isAgg140
 z76 := Tryz.sizeOf140
 v76 := Tryz.zeroValue140
 t109 := Tryz.underlying143
 a109 := Tryz.isAgg143
 z109 := Tryz.sizeOf143
 v109 := Tryz.zeroValue143
 t127 := Tryz.underlying118
 a127 := Tryz.isAgg118
 z127 := Tryz.sizeOf118
 v127 := Tryz.zeroValue118
 t146 := Tryz.underlying154
 a146 := Tryz.isAgg154
 z146 := Tryz.sizeOf154
 v146 := Tryz.zeroValue154
 t148 := Tryz.underlying157
 a148 := Tryz.isAgg157
 z148 := Tryz.sizeOf157
 v148 := Tryz.zeroValue157
 t164 := Tryz.underlying166
 a164 := Tryz.isAgg166
 z164 := Tryz.sizeOf166
 v164 := Tryz.zeroValue166 }
theorem Tryz.Builder_Extra_105 : Builder.Extra Tryz.prog Tryz.lays105_ren := {
 sizeBuilder := by kernel_rfl
 liesBuilder := by kernel_rfl
 t5 := Tryz.underlying5
 a5 := Tryz.isAgg5
 z5 := Tryz.sizeOf5
 v5 := Tryz.zeroValue5
 infoByte := by kernel_rfl
 cellsByte := by kernel_rfl
 sizeByte := by kernel_rfl
 neB5 := by decide }
open Go.RowKit Go.Lib in
theorem Tryz.strings_Repeat (s : ByteArray) (c : Nat) (w : World) (hc : c ≤ 9223372036854775807) (hlen : s.size * c ≤ 140737488355328) :
   Calls Tryz.prog 81 #[.string s, .int .i64 c] w fun e w' => e = .returned (.string ⟨(Lib.repeatL s.data.toList c).toArray⟩) ∧ Below w.heap.size w w' := Any.strings_Repeat Tryz.lays105 Tryz.Builder_Extra_105 s c w hc hlen
end Go.Proofs
