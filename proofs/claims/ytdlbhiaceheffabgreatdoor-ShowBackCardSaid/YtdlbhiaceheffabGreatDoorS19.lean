/- Walks of show.writer's bare: numbers, truths, lists, what has others ahead. Walks of show.writer's bare at functions. Walk of show.writer's block. -/
import Derived.Test.YtdlbhiaceheffabGreatDoorS18
set_option linter.all false
set_option maxRecDepth 100000
set_option maxHeartbeats 4000000
namespace Go.Proofs.YtdlbhiaceheffabGreatDoor
section
open Go Go.RowKit
open Prt (Sat As blk pur exs star stars)
section
variable {wB : World} {nv tv : Value} {pg : Ty.Pg} {wb : Nat} {main : Int}
theorem bare_num (hP : PB wB nv tv pg) (hW : Pow wB) {p k : Nat} : BaC 127 wB nv tv pg wb main (.num p k) := by
 intro n nd lv hd hn hl ind out w Fr hF H hsz hlen R hR
 rw [Ty.DenE, hn] at hd
 cases hd
 rw [Ty.wE] at hlen hR
 have hk := (hP.ok.ns _ (List.mem_of_getElem? hn)).n_le
 dsimp only at hk
 have HR := qh hR
 have HLE := qh hlen
 have HK := qh hk
 obtain ⟨la, lc, rfl⟩ := owns_slice hl
 have h1 := bareIn H { Ty.ndOf 1 p with n := k } (.slice la 0 lc)
 have HPW := qh (hW.below (hF _ _ 0 H rfl))
 have HB1 := qh (((Below.refl w.heap.size w).alloc (Nat.le_refl _) (.cells #[.pointer (some ⟨wb, 0, none⟩)] 70)).alloc (by simp) (ndObj { Ty.ndOf 1 p with n := k } (.slice la 0 lc))).drew
 obtain ⟨c, d0, d1, d2, d3, d4, d5, d6, d7, d8⟩ := bareRd h1
 have H1 := qh h1
 clear hR hlen H hF hn hl hsz h1 hP hW hk
 dsimp only [ndVal, Ty.ndOf] at *
 go_enter Tryz.func127, Tryz.ntmps127
 go_wp2_with fail
 go_region_held3 (fun w' => w'.cell? ⟨w.heap.size, 0, none⟩ = some (.pointer (some ⟨wb, 0, none⟩)) ∧ w'.cell? ⟨w.heap.size + 1, 6, none⟩ = some (.int .i64 (k : Nat))) (go_keep)
   (first | (go_at_call 193; refine itoa_any _ (HPW.out.below HB1.out) k HK.out (fun w2 hb2 => ?_); have h2 := H1.out.drew.below hb2; have s0 := (bareRd h2).c; have s1 := (bareRd h2).d6; have H2 := qh h2; clear hb2 h2)
          | (go_at_call 67; refine put1 H2.out _ (Lib.itoa k) rfl (by have := HLE.out; omega) _ (by simp) (fun w3 h3 => ?_); have s0 := (bareRd h3).c; have s1 := (bareRd h3).d6; have H3 := qh h3; clear h3))
 all_goals
   go_wp2_with fail
   go_end0
   exact HR.out _ (bareOut H3.out)
theorem bare_bool (hP : PB wB nv tv pg) {p k : Nat} : BaC 127 wB nv tv pg wb main (.bool p k) := by
 intro n nd lv hd hn hl ind out w Fr hF H hsz hlen R hR
 rw [Ty.DenE, hn] at hd
 cases hd
 rw [Ty.wE] at hlen hR
 have hk := (hP.ok.ns _ (List.mem_of_getElem? hn)).small (by simp [Ty.ndOf])
 dsimp only at hk
 obtain ⟨la, lc, rfl⟩ := owns_slice hl
 have h1 := bareIn H { Ty.ndOf 3 p with n := k } (.slice la 0 lc)
 obtain ⟨c, d0, d1, d2, d3, d4, d5, d6, d7, d8⟩ := bareRd h1
 have H1 := qh h1
 clear H hF hn hl hsz h1 hP
 dsimp only [ndVal, Ty.ndOf] at *
 have hk : k = 0 ∨ k = 1 := by omega
 rcases hk with rfl | rfl
 · have HR := qh hR
   have HLE := qh (Nat.le_trans (Nat.le_add_right _ _) hlen)
   clear hR hlen
   go_enter Tryz.func127, Tryz.ntmps127
   go_wp2_with fail
   go_region_held3 (fun w' => w'.cell? ⟨w.heap.size, 0, none⟩ = some (.pointer (some ⟨wb, 0, none⟩)) ∧ w'.cell? ⟨w.heap.size + 1, 6, none⟩ = some (.int .i64 (0 : Nat))) (go_keep)
     (first | (go_at_call 194; refine formatBool_any _ false ?_; have s0 := (bareRd H1.out.drew).c; have s1 := (bareRd H1.out.drew).d6; have H2 := qh H1.out.drew)
            | (go_at_call 67; refine put1 H2.out _ (if false = true then [116, 114, 117, 101] else [102, 97, 108, 115, 101]) rfl (by have := HLE.out; simp; omega) _ (by simp) (fun w3 h3 => ?_); have s0 := (bareRd h3).c; have s1 := (bareRd h3).d6; have H3 := qh h3; clear h3))
   all_goals
     go_wp2_with fail
     go_end0
     exact HR.out _ (bareOut H3.out)
 · have HR := qh hR
   have HLE := qh (Nat.le_trans (Nat.le_add_right _ _) hlen)
   clear hR hlen
   go_enter Tryz.func127, Tryz.ntmps127
   go_wp2_with fail
   go_region_held3 (fun w' => w'.cell? ⟨w.heap.size, 0, none⟩ = some (.pointer (some ⟨wb, 0, none⟩)) ∧ w'.cell? ⟨w.heap.size + 1, 6, none⟩ = some (.int .i64 (1 : Nat))) (go_keep)
     (first | (go_at_call 194; refine formatBool_any _ true ?_; have s0 := (bareRd H1.out.drew).c; have s1 := (bareRd H1.out.drew).d6; have H2 := qh H1.out.drew)
            | (go_at_call 67; refine put1 H2.out _ (if true = true then [116, 114, 117, 101] else [102, 97, 108, 115, 101]) rfl (by have := HLE.out; simp; omega) _ (by simp) (fun w3 h3 => ?_); have s0 := (bareRd h3).c; have s1 := (bareRd h3).d6; have H3 := qh h3; clear h3))
   all_goals
     go_wp2_with fail
     go_end0
     exact HR.out _ (bareOut H3.out)
theorem bare_arr {p : Nat} {l : List Ty.Ex} (hE : ∀ e ∈ l, ExC wB nv tv pg wb main e) : BaC 127 wB nv tv pg wb main (.arr p l) := by
 intro n nd lv hd hn hl ind out w Fr hF H hsz hlen R hR
 rw [Ty.DenE] at hd
 obtain ⟨nl, h1, hd⟩ := hd
 rw [hn] at h1
 cases h1
 rw [Ty.szE] at hsz
 rw [Ty.wE] at hlen hR
 have HL := qh (fun (o : List UInt8) (w1 : World) F' (hF' : FrB wB F') (h : Sat wB w1 [F', wrA wb nv tv main ind o]) ho (R : Ending → World → Prop) => wexprs_any (R := R) hE hd lv hl hF' h (by omega) ho)
 have HR := qh hR
 obtain ⟨la, lc, rfl⟩ := owns_slice hl
 generalize Ty.joinL [44, 32] (Ty.wEs pg.ts ind l) = pl at *
 simp only [lzA, lzC, lzN] at hlen
 have HLE := qh hlen
 have HF := qh (fun bw nd lv => bareFrB (wb := wb) hF bw nd lv)
 have h1 := bareIn H { Ty.ndOf 11 p with list := nl } (.slice la nl.length lc)
 obtain ⟨c, d0, d1, d2, d3, d4, d5, d6, d7, d8⟩ := bareRd h1
 have H1 := qh h1
 clear hR hlen H hF hn hl hsz h1 hE hd
 dsimp only [ndVal, Ty.ndOf] at *
 go_enter Tryz.func127, Tryz.ntmps127
 go_wp2_with fail
 refine put1 H1.out _ [91] rfl (by have := HLE.out; (try simp only [List.length_cons, List.length_nil] at this ⊢); omega) _ (by simp) (fun w2 h2 => ?_)
 have q := bareRd h2
 have q0 := q.c
 have q4 := q.d4
 have H2 := qh h2
 clear h2 q c d0 d1 d2 d3 d4 d5 d6 d7 d8
 go_wp2_with fail
 refine HL.out _ _ _ (HF.out _ _ _) H2.out (by have := HLE.out; (try simp only [lzA, lzC, lzN] at this ⊢); omega) _ (fun w3 h3 => ?_)
 have q := (bareRd h3).c
 have H3 := qh h3
 clear h3 q0 q4
 go_wp2_with fail
 refine put1 H3.out _ [93] rfl (by have := HLE.out; (try simp only [lzA, lzC, lzN] at this ⊢); omega) _ (by simp) (fun w4 h4 => ?_)
 have H4 := qh h4
 clear h4
 go_wp2_with fail
 go_end0
 refine HR.out _ ?_
 rw [show out ++ ([91] ++ pl ++ [93]) = out ++ [91] ++ pl ++ [93] by simp]
 exact bareOut H4.out
theorem bare_obj {p : Nat} {l : List (Nat × ByteArray × Ty.Ex)} (hO : BaC 198 wB nv tv pg wb main (.obj p l)) : BaC 127 wB nv tv pg wb main (.obj p l) := by
 intro n nd lv hd hn hl ind out w Fr hF H hsz hlen R hR
 have hd0 := hd
 rw [Ty.DenE] at hd
 obtain ⟨nl, h1, hd⟩ := hd
 rw [hn] at h1
 cases h1
 have HO := qh (fun w1 F' hF' h => hO n _ lv hd0 hn hl ind out w1 F' hF' h hsz hlen)
 have HR := qh hR
 obtain ⟨la, lc, rfl⟩ := owns_slice hl
 have HF := qh (fun bw nd lv => bareFrB (wb := wb) hF bw nd lv)
 have h1 := bareIn H { Ty.ndOf 10 p with list := nl } (.slice la nl.length lc)
 obtain ⟨c, d0, d1, d2, d3, d4, d5, d6, d7, d8⟩ := bareRd h1
 have H1 := qh h1
 clear hR hlen H hF hn hl hsz h1 hO hd hd0
 dsimp only [ndVal, Ty.ndOf] at *
 go_enter Tryz.func127, Tryz.ntmps127
 go_wp2_with fail
 refine HO.out _ _ (HF.out _ _ _) H1.out _ (fun w2 h2 => ?_)
 have H2 := qh h2
 clear h2
 go_wp2_with fail
 go_end0
 exact HR.out _ (bareOut H2.out)
theorem bare_two {p : Nat} {x : ByteArray} {a b : Ty.Ex} (hO : BaC 199 wB nv tv pg wb main (.two p x a b)) : BaC 127 wB nv tv pg wb main (.two p x a b) := by
 intro n nd lv hd hn hl ind out w Fr hF H hsz hlen R hR
 have hd0 := hd
 rw [Ty.DenE] at hd
 obtain ⟨na, nb, h1, hda, hdb⟩ := hd
 rw [hn] at h1
 cases h1
 have HO := qh (fun w1 F' hF' h => hO n _ lv hd0 hn hl ind out w1 F' hF' h hsz hlen)
 have HR := qh hR
 obtain ⟨la, lc, rfl⟩ := owns_slice hl
 have HF := qh (fun bw nd lv => bareFrB (wb := wb) hF bw nd lv)
 have h1 := bareIn H { Ty.ndOf 12 p with text := x, a := na, b := nb } (.slice la 0 lc)
 obtain ⟨c, d0, d1, d2, d3, d4, d5, d6, d7, d8⟩ := bareRd h1
 have H1 := qh h1
 clear hR hlen H hF hn hl hsz h1 hO hd0
 dsimp only [ndVal, Ty.ndOf] at *
 go_enter Tryz.func127, Tryz.ntmps127
 go_wp2_with fail
 refine HO.out _ _ (HF.out _ _ _) H1.out _ (fun w2 h2 => ?_)
 have H2 := qh h2
 clear h2
 go_wp2_with fail
 go_end0
 exact HR.out _ (bareOut H2.out)
theorem bare_one {p : Nat} {x : ByteArray} {a : Ty.Ex} (hO : BaC 199 wB nv tv pg wb main (.one p x a)) : BaC 127 wB nv tv pg wb main (.one p x a) := by
 intro n nd lv hd hn hl ind out w Fr hF H hsz hlen R hR
 have hd0 := hd
 rw [Ty.DenE] at hd
 obtain ⟨na, h1, hda⟩ := hd
 rw [hn] at h1
 cases h1
 have HO := qh (fun w1 F' hF' h => hO n _ lv hd0 hn hl ind out w1 F' hF' h hsz hlen)
 have HR := qh hR
 obtain ⟨la, lc, rfl⟩ := owns_slice hl
 have HF := qh (fun bw nd lv => bareFrB (wb := wb) hF bw nd lv)
 have h1 := bareIn H { Ty.ndOf 13 p with text := x, a := na } (.slice la 0 lc)
 obtain ⟨c, d0, d1, d2, d3, d4, d5, d6, d7, d8⟩ := bareRd h1
 have H1 := qh h1
 clear hR hlen H hF hn hl hsz h1 hO hd0
 dsimp only [ndVal, Ty.ndOf] at *
 go_enter Tryz.func127, Tryz.ntmps127
 go_wp2_with fail
 refine HO.out _ _ (HF.out _ _ _) H1.out _ (fun w2 h2 => ?_)
 have H2 := qh h2
 clear h2
 go_wp2_with fail
 go_end0
 exact HR.out _ (bareOut H2.out)
theorem bare_call {p : Nat} {a : Ty.Ex} {l : List Ty.Ex} (hO : BaC 199 wB nv tv pg wb main (.call p a l)) : BaC 127 wB nv tv pg wb main (.call p a l) := by
 intro n nd lv hd hn hl ind out w Fr hF H hsz hlen R hR
 have hd0 := hd
 rw [Ty.DenE] at hd
 obtain ⟨na, nl, h1, hda, hdb⟩ := hd
 rw [hn] at h1
 cases h1
 have HO := qh (fun w1 F' hF' h => hO n _ lv hd0 hn hl ind out w1 F' hF' h hsz hlen)
 have HR := qh hR
 obtain ⟨la, lc, rfl⟩ := owns_slice hl
 have HF := qh (fun bw nd lv => bareFrB (wb := wb) hF bw nd lv)
 have h1 := bareIn H { Ty.ndOf 7 p with a := na, list := nl } (.slice la nl.length lc)
 obtain ⟨c, d0, d1, d2, d3, d4, d5, d6, d7, d8⟩ := bareRd h1
 have H1 := qh h1
 clear hR hlen H hF hn hl hsz h1 hO hd0
 dsimp only [ndVal, Ty.ndOf] at *
 go_enter Tryz.func127, Tryz.ntmps127
 go_wp2_with fail
 refine HO.out _ _ (HF.out _ _ _) H1.out _ (fun w2 h2 => ?_)
 have H2 := qh h2
 clear h2
 go_wp2_with fail
 go_end0
 exact HR.out _ (bareOut H2.out)
theorem bare_get {p : Nat} {a : Ty.Ex} {x : ByteArray} (hO : BaC 199 wB nv tv pg wb main (.get p a x)) : BaC 127 wB nv tv pg wb main (.get p a x) := by
 intro n nd lv hd hn hl ind out w Fr hF H hsz hlen R hR
 have hd0 := hd
 rw [Ty.DenE] at hd
 obtain ⟨na, h1, hda⟩ := hd
 rw [hn] at h1
 cases h1
 have HO := qh (fun w1 F' hF' h => hO n _ lv hd0 hn hl ind out w1 F' hF' h hsz hlen)
 have HR := qh hR
 obtain ⟨la, lc, rfl⟩ := owns_slice hl
 have HF := qh (fun bw nd lv => bareFrB (wb := wb) hF bw nd lv)
 have h1 := bareIn H { Ty.ndOf 8 p with a := na, text := x } (.slice la 0 lc)
 obtain ⟨c, d0, d1, d2, d3, d4, d5, d6, d7, d8⟩ := bareRd h1
 have H1 := qh h1
 clear hR hlen H hF hn hl hsz h1 hO hd0
 dsimp only [ndVal, Ty.ndOf] at *
 go_enter Tryz.func127, Tryz.ntmps127
 go_wp2_with fail
 refine HO.out _ _ (HF.out _ _ _) H1.out _ (fun w2 h2 => ?_)
 have H2 := qh h2
 clear h2
 go_wp2_with fail
 go_end0
 exact HR.out _ (bareOut H2.out)
theorem bare_at {p : Nat} {a b : Ty.Ex} (hO : BaC 199 wB nv tv pg wb main (.at p a b)) : BaC 127 wB nv tv pg wb main (.at p a b) := by
 intro n nd lv hd hn hl ind out w Fr hF H hsz hlen R hR
 have hd0 := hd
 rw [Ty.DenE] at hd
 obtain ⟨na, nb, h1, hda, hdb⟩ := hd
 rw [hn] at h1
 cases h1
 have HO := qh (fun w1 F' hF' h => hO n _ lv hd0 hn hl ind out w1 F' hF' h hsz hlen)
 have HR := qh hR
 obtain ⟨la, lc, rfl⟩ := owns_slice hl
 have HF := qh (fun bw nd lv => bareFrB (wb := wb) hF bw nd lv)
 have h1 := bareIn H { Ty.ndOf 9 p with a := na, b := nb } (.slice la 0 lc)
 obtain ⟨c, d0, d1, d2, d3, d4, d5, d6, d7, d8⟩ := bareRd h1
 have H1 := qh h1
 clear hR hlen H hF hn hl hsz h1 hO hd0
 dsimp only [ndVal, Ty.ndOf] at *
 go_enter Tryz.func127, Tryz.ntmps127
 go_wp2_with fail
 refine HO.out _ _ (HF.out _ _ _) H1.out _ (fun w2 h2 => ?_)
 have H2 := qh h2
 clear h2
 go_wp2_with fail
 go_end0
 exact HR.out _ (bareOut H2.out)
theorem bare_as {p : Nat} {a : Ty.Ex} {ty : Int} (hO : BaC 199 wB nv tv pg wb main (.as p a ty)) : BaC 127 wB nv tv pg wb main (.as p a ty) := by
 intro n nd lv hd hn hl ind out w Fr hF H hsz hlen R hR
 have hd0 := hd
 rw [Ty.DenE] at hd
 obtain ⟨na, h1, hda⟩ := hd
 rw [hn] at h1
 cases h1
 have HO := qh (fun w1 F' hF' h => hO n _ lv hd0 hn hl ind out w1 F' hF' h hsz hlen)
 have HR := qh hR
 obtain ⟨la, lc, rfl⟩ := owns_slice hl
 have HF := qh (fun bw nd lv => bareFrB (wb := wb) hF bw nd lv)
 have h1 := bareIn H { Ty.ndOf 14 p with a := na, ty := ty } (.slice la 0 lc)
 obtain ⟨c, d0, d1, d2, d3, d4, d5, d6, d7, d8⟩ := bareRd h1
 have H1 := qh h1
 clear hR hlen H hF hn hl hsz h1 hO hd0
 dsimp only [ndVal, Ty.ndOf] at *
 go_enter Tryz.func127, Tryz.ntmps127
 go_wp2_with fail
 refine HO.out _ _ (HF.out _ _ _) H1.out _ (fun w2 h2 => ?_)
 have H2 := qh h2
 clear h2
 go_wp2_with fail
 go_end0
 exact HR.out _ (bareOut H2.out)
end
end
section
open Go Go.RowKit
open Prt (Sat As blk pur exs star stars)
namespace Ty
theorem DenPs.len {ns : List Nd} : ∀ {l : List Par} {nl : List Nat}, DenPs ns l nl → nl.length = l.length
 | [], _, h => by rw [show _ = [] from h]; rfl
 | q :: l, _, ⟨n, t, e, _, h2⟩ => by subst e; simp [DenPs.len h2]
theorem DenPs.get {ns : List Nd} : ∀ {l : List Par} {nl : List Nat}, DenPs ns l nl → ∀ k (h1 : k < l.length) (h2 : k < nl.length), ns[nl[k]]? = some { ndOf 16 l[k].pos with text := l[k].text, ty := l[k].ty }
 | [], _, _, k, h1, _ => by simp at h1
 | q :: l, _, ⟨n, t, e, h3, h4⟩, k, h1, h2 => by
   subst e
   cases k with
   | zero => exact h3
   | succ k => exact DenPs.get h4 k (by simpa using h1) (by simpa using h2)
end Ty
def BlC (wB : World) (nv tv : Value) (pg : Ty.Pg) (wb : Nat) (main : Int) (l : List Ty.Sm) : Prop :=
 ∀ (bp n : Nat), Ty.DenB pg.ns bp l n → ∀ (ind : Nat) (out : List UInt8) (w : World) (Fr : As), FrB wB Fr → Sat wB w [Fr, wrA wb nv tv main ind out] → ind + Ty.szSs l + 1 ≤ 1300 →
   out.length + (Ty.wB pg.ts ind l).length ≤ 900000000 → ∀ R : Ending → World → Prop, (∀ w', Sat wB w' [Fr, wrA wb nv tv main ind (out ++ Ty.wB pg.ts ind l)] → R (.returned (.tuple #[])) w') →
   Calls Tryz.prog 128 #[.pointer (some ⟨wb, 0, none⟩), .int .i64 (n : Nat)] w R
section
variable {wB w : World} {Fr : As} {wb : Nat} {nv tv : Value} {pg : Ty.Pg} {main : Int} {ind : Nat} {out : List UInt8}
theorem bare1_any (hP : PB wB nv tv pg) {ps : Nat} {x : ByteArray} {ty : Int} {n : Nat} (hn : pg.ns[n]? = some { Ty.ndOf 16 ps with text := x, ty := ty }) (hF : FrB wB Fr) {bw : Nat} (H : Sat wB w [stars [Fr, bxO bw wb], wrA wb nv tv main ind out])
   (hlen : out.length + (Ty.parS pg.ts ⟨ps, x, ty⟩).length ≤ 900000000) {R : Ending → World → Prop}
   (hR : ∀ w', Sat wB w' [stars [Fr, bxO bw wb], wrA wb nv tv main ind (out ++ Ty.parS pg.ts ⟨ps, x, ty⟩)] → R (.returned (.tuple #[])) w') :
   Calls Tryz.prog 196 #[.int .i64 (n : Nat), .pointer (some ⟨bw, 0, none⟩)] w R := by
 have HR := qh hR
 have hF2 := hF.stars (M := [bxO bw wb])
 have HC := qh (fun (w1 : World) (o : List UInt8) (h : Sat wB w1 [stars [Fr, bxO bw wb], wrA wb nv tv main ind o]) => (h.unswap.cell 2 rfl 0 rfl : w1.cell? ⟨bw, 0, none⟩ = some (.pointer (some ⟨wb, 0, none⟩))))
 have c0 := HC.out _ _ H
 have hty : Ty.TyZ ty pg.ts := (hP.ok.ns _ (List.mem_of_getElem? hn)).ty
 have HNO := qh (fun (w1 : World) (o : List UInt8) (h : Sat wB w1 [stars [Fr, bxO bw wb], wrA wb nv tv main ind o]) (R : Ending → World → Prop) => wnode_any (R := R) hP hF2 h hn)
 have HX := qh (fun (w1 : World) (o : List UInt8) (h : Sat wB w1 [stars [Fr, bxO bw wb], wrA wb nv tv main ind o]) ho (R : Ending → World → Prop) => typed_any (R := R) hP hF2 h hty ho)
 unfold Ty.parS at HR hlen
 dsimp only at HR hlen
 generalize Ty.colS pg.ts ty = ct at *
 rw [List.length_append] at hlen
 have HLN := qh hlen
 have HS := qh H
 have hf7 := field_nd7
 have hf5 := field_nd5
 clear hR H hn hF hF2 hlen hP hty
 go_enter Tryz.func196, Tryz.ntmps196
 go_wp2_with fail
 go_region_held3 (fun w' => w'.cell? ⟨bw, 0, none⟩ = some (.pointer (some ⟨wb, 0, none⟩))) (go_keep)
   (first | (go_at_call 66; refine HNO.out _ _ HS.out.drew _ (fun w1 lv hl hb1 => ?_); obtain ⟨la, lc, rfl⟩ := owns_slice hl; have h1 := HS.out.drew.below hb1; have s0 := HC.out _ _ h1; have H1 := qh h1; clear hl hb1 h1; dsimp only [ndVal])
          | (go_at_call 67; refine put1 H1.out _ x.data.toList (bs_of x).symm (by have := HLN.out; omega) _ (by simp) (fun w2 h2 => ?_); have s0 := HC.out _ _ h2; have H2 := qh h2; clear h2))
 all_goals
   clear c0 H1
   go_wp2_with fail
   go_region_held3 (fun w' => w'.cell? ⟨bw, 0, none⟩ = some (.pointer (some ⟨wb, 0, none⟩))) (go_keep)
     (first | (go_at_call 66; refine HNO.out _ _ H2.out.drew _ (fun w3 lv hl hb1 => ?_); obtain ⟨la2, lc2, rfl⟩ := owns_slice hl; have h1 := H2.out.drew.below hb1; have s0 := HC.out _ _ h1; have H3 := qh h1; clear hl hb1 h1; dsimp only [ndVal])
            | (go_at_call 69; refine HX.out _ _ H3.out (by have := HLN.out; rw [List.length_append]; omega) _ (fun w4 h4 => ?_); have s0 := HC.out _ _ h4; have H4 := qh h4; clear h4))
   all_goals
     go_wp2_with fail
     go_end0
     refine HR.out _ ?_
     rw [← List.append_assoc]
     exact H4.out
theorem bare_fn (hP : PB wB nv tv pg) {p bp : Nat} {ps : List Ty.Par} {ty : Int} {body : List Ty.Sm} (hB : BlC wB nv tv pg wb main body) : BaC 127 wB nv tv pg wb main (.fn p ps ty bp body) := by
 intro n nd lv hd hn hl ind out w Fr hF H hsz hlen R hR
 rw [Ty.DenE] at hd
 obtain ⟨nl, nb, h1, hdp, hdb⟩ := hd
 rw [hn] at h1
 cases h1
 have hty : Ty.TyZ ty pg.ts := (hP.ok.ns _ (List.mem_of_getElem? hn)).ty
 rw [Ty.szE] at hsz
 have e : Ty.wE pg.ts ind (.fn p ps ty bp body) = [102, 110, 40] ++ Ty.joinL [44, 32] (ps.map (Ty.parS pg.ts)) ++ [41] ++ Ty.colS pg.ts ty ++ [32] ++ Ty.wB pg.ts ind body := by rw [Ty.wE]; rfl
 rw [e] at hlen hR
 have hll := hdp.len
 have HL := qh (fun (o : List UInt8) (w1 : World) F' (hF' : FrB wB F') bw (h : Sat wB w1 [stars [F', bxO bw wb], wrA wb nv tv main ind o]) ho (R : Ending → World → Prop) =>
   wlist_any (R := R) nl lv hl (by omega) (ps.map (Ty.parS pg.ts)) (by simp; omega) (hF'.stars (M := [_])) h 196 (.pointer (some ⟨bw, 0, none⟩)) Tryz.call196
     (fun k hk hk2 o w1 hs ho R hR => by
       have hkl : k < ps.length := by omega
       have e : (ps.map (Ty.parS pg.ts))[k] = Ty.parS pg.ts ⟨ps[k].pos, ps[k].text, ps[k].ty⟩ := by simp
       rw [e] at ho hR
       exact bare1_any hP (hdp.get k hkl hk) hF' hs ho hR) ho)
 have HT := qh (fun (o : List UInt8) (w1 : World) F' (hF' : FrB wB F') (h : Sat wB w1 [F', wrA wb nv tv main ind o]) ho (R : Ending → World → Prop) => typed_any (R := R) hP hF' h hty ho)
 have HBK := qh (fun (o : List UInt8) (w1 : World) F' (hF' : FrB wB F') h ho => hB bp nb hdb ind o w1 F' hF' h (by omega) ho)
 have HR := qh hR
 obtain ⟨la, lc, rfl⟩ := owns_slice hl
 generalize Ty.joinL [44, 32] (ps.map (Ty.parS pg.ts)) = pl at *
 generalize Ty.colS pg.ts ty = pc at *
 generalize Ty.wB pg.ts ind body = pb at *
 simp only [lzA, lzC, lzN] at hlen
 have HLE := qh hlen
 have HF := qh (fun bw nd lv => bareFrB (wb := wb) hF bw nd lv)
 have HF1 := qh (hF.stars (M := [blk (w.heap.size + 1) (ndObj { Ty.ndOf 6 p with list := nl, ty := ty, a := nb } (.slice la nl.length lc))]))
 have h1 := bareIn H { Ty.ndOf 6 p with list := nl, ty := ty, a := nb } (.slice la nl.length lc)
 obtain ⟨c, d0, d1, d2, d3, d4, d5, d6, d7, d8⟩ := bareRd h1
 have H1 := qh h1
 clear hR hlen H hF hn hl hsz h1 hB hdb hdp hP hty e hll
 dsimp only [ndVal, Ty.ndOf] at *
 go_enter Tryz.func127, Tryz.ntmps127
 go_wp2_with fail
 refine put1 H1.out _ [102, 110, 40] rfl (by have := HLE.out; simp only [List.length_cons, List.length_nil] at this ⊢; omega) _ (by simp) (fun w2 h2 => ?_)
 have q := bareRd h2
 have q0 := q.c
 have q4 := q.d4
 have H2 := qh h2
 clear h2 q c d0 d1 d2 d3 d4 d5 d6 d7 d8
 go_wp2_with fail
 refine HL.out _ _ _ HF1.out _ H2.out (by have := HLE.out; simp only [lzA, lzC, lzN] at this ⊢; omega) _ (fun w3 h3 => ?_)
 have q := bareRd h3
 have q0 := q.c
 have H3 := qh h3
 clear h3 q q4
 go_wp2_with fail
 refine put1 H3.out _ [41] rfl (by have := HLE.out; simp only [lzA, lzC, lzN] at this ⊢; omega) _ (by simp) (fun w4 h4 => ?_)
 have q := bareRd h4
 have q0 := q.c
 have q7 := q.d7
 have H4 := qh h4
 clear h4 q
 go_wp2_with fail
 refine HT.out _ _ _ (HF.out _ _ _) H4.out (by have := HLE.out; simp only [lzA, lzC, lzN] at this ⊢; omega) _ (fun w5 h5 => ?_)
 have q := bareRd h5
 have q0 := q.c
 have H5 := qh h5
 clear h5 q q7
 go_wp2_with fail
 refine put1 H5.out _ [32] rfl (by have := HLE.out; simp only [lzA, lzC, lzN] at this ⊢; omega) _ (by simp) (fun w6 h6 => ?_)
 have q := bareRd h6
 have q0 := q.c
 have q1 := q.d1
 have H6 := qh h6
 clear h6 q
 go_wp2_with fail
 refine HBK.out _ _ _ (HF.out _ _ _) H6.out (by have := HLE.out; simp only [lzA, lzC, lzN] at this ⊢; omega) _ (fun w7 h7 => ?_)
 have H7 := qh h7
 clear h7
 go_wp2_with fail
 go_end0
 refine HR.out _ ?_
 rw [show out ++ ([102, 110, 40] ++ pl ++ [41] ++ pc ++ [32] ++ pb) = out ++ [102, 110, 40] ++ pl ++ [41] ++ pc ++ [32] ++ pb by simp]
 exact bareOut H7.out
end
end
section
open Go Go.RowKit
open Prt (Sat As blk pur exs star stars)
namespace Ty
theorem DenSs.len {ns : List Nd} : ∀ {l : List Sm} {nl : List Nat}, DenSs ns l nl → nl.length = l.length
 | [], _, h => by rw [DenSs] at h; rw [h]; rfl
 | e :: l, _, h => by rw [DenSs] at h; obtain ⟨n, t, rfl, _, h2⟩ := h; simp [h2.len]
theorem DenSs.get {ns : List Nd} : ∀ {l : List Sm} {nl : List Nat}, DenSs ns l nl → ∀ k (h1 : k < l.length) (h2 : k < nl.length), DenS ns l[k] nl[k]
 | [], _, _, k, h1, _ => by simp at h1
 | e :: l, _, h, k, h1, h2 => by
   rw [DenSs] at h
   obtain ⟨n, t, rfl, h3, h4⟩ := h
   cases k with
   | zero => exact h3
   | succ k => exact h4.get k (by simpa using h1) (by simpa using h2)
theorem wSs_map (ts : List Ty) (ind : Nat) : ∀ l : List Sm, wSs ts ind l = (l.map (wS ts ind)).flatten
 | [] => by rw [wSs]; rfl
 | e :: l => by rw [wSs, wSs_map ts ind l]; rfl
theorem wSs_step (ts : List Ty) (ind : Nat) (l : List Sm) (k : Nat) (hk : k < l.length) : wSs ts ind (l.take (k + 1)) = wSs ts ind (l.take k) ++ wS ts ind l[k] := by
 rw [wSs_map, wSs_map, List.take_succ_eq_append_getElem hk, List.map_append, List.flatten_append]; simp
theorem wSs_part (ts : List Ty) (ind : Nat) (l : List Sm) (k : Nat) : (wSs ts ind (l.take k)).length ≤ (wSs ts ind l).length := by
 have e : wSs ts ind l = wSs ts ind (l.take k) ++ wSs ts ind (l.drop k) := by rw [wSs_map, wSs_map, wSs_map, ← List.flatten_append, ← List.map_append, List.take_append_drop]
 rw [e, List.length_append]; omega
theorem szSs_in : ∀ {l : List Sm} {e : Sm}, e ∈ l → szS e ≤ szSs l
 | [], _, h => by simp at h
 | a :: l, e, h => by
   rw [szSs]
   rcases List.mem_cons.1 h with rfl | h
   · omega
   · have := szSs_in h; omega
theorem szSs_len : ∀ l : List Sm, l.length ≤ szSs l
 | [] => by simp
 | e :: l => by
   have := szSs_len l
   have h1 : 1 ≤ szS e := by
     cases e with
     | if_ p a bp b c => cases c with
       | none => simp [szS]
       | some c => obtain ⟨cp, c⟩ := c; simp [szS]
     | _ => simp [szS]
   rw [szSs]; simp; omega
end Ty
def SmC (wB : World) (nv tv : Value) (pg : Ty.Pg) (wb : Nat) (main : Int) (s : Ty.Sm) : Prop :=
 ∀ (n : Nat), Ty.DenS pg.ns s n → ∀ (ind : Nat) (out : List UInt8) (w : World) (Fr : As), FrB wB Fr → Sat wB w [Fr, wrA wb nv tv main ind out] → ind + Ty.szS s ≤ 1300 →
   out.length + (Ty.wS pg.ts ind s).length ≤ 900000000 → ∀ R : Ending → World → Prop, (∀ w', Sat wB w' [Fr, wrA wb nv tv main ind (out ++ Ty.wS pg.ts ind s)] → R (.returned (.tuple #[])) w') →
   Calls Tryz.prog 36 #[.pointer (some ⟨wb, 0, none⟩), .int .i64 (n : Nat)] w R
section
variable {wB w : World} {Fr : As} {wb : Nat} {nv tv : Value} {pg : Ty.Pg} {main : Int} {ind : Nat} {out : List UInt8}
theorem field_nd4 (a b c d e f g h i : Value) (w : World) : (Instr.field 66 (.agg #[a, b, c, d, e, f, g, h, i]) 4).run Tryz.prog w = .ok e w := by kernel_rfl
theorem wrIndRd (H : Sat wB w [Fr, wrA wb nv tv main ind out]) : w.cell? ⟨wb, 5, none⟩ = some (.int .i64 (ind : Nat)) ∧ (∀ o, w.frozen? ⟨wb, o, none⟩ = false) ∧ wb < w.heap.size := by
 obtain ⟨p, v, h⟩ := H.openWr
 exact ⟨h.cell 2 rfl 5 rfl, h.free 2 rfl, h.lt 2 rfl⟩
theorem wrSetInd (H : Sat wB w [Fr, wrA wb nv tv main ind out]) (j : Nat) : Sat wB (w.setCell ⟨wb, 5, none⟩ (.int .i64 (j : Nat))) [Fr, wrA wb nv tv main j out] := by
 obtain ⟨p, v, h⟩ := H.openWr
 exact Prt.Sat.shutWr (q := (p, v)) (h.store 2 rfl 5 (.int .i64 (j : Nat)))
theorem wblock_any (hP : PB wB nv tv pg) {l : List Ty.Sm} (hS : ∀ e ∈ l, SmC wB nv tv pg wb main e) : BlC wB nv tv pg wb main l := by
 intro bp n hd ind out w Fr hF H hsz hlen R hR
 rw [Ty.DenB] at hd
 obtain ⟨nl, hn, hd⟩ := hd
 have hll := hd.len
 have hsl := Ty.szSs_len l
 have HNO := qh (fun (w1 : World) (i : Nat) (o : List UInt8) (h : Sat wB w1 [Fr, wrA wb nv tv main i o]) (R : Ending → World → Prop) => wnode_any (R := R) hP hF h hn)
 unfold Ty.wB at hlen hR
 have HST := qh (fun (k : Nat) (hk : k < l.length) (hk2 : k < nl.length) (o : List UInt8) (w1 : World) (h : Sat wB w1 [Fr, wrA wb nv tv main (ind + 1) o]) (ho : o.length + (Ty.wS pg.ts (ind + 1) l[k]).length ≤ 900000000) => hS l[k] (List.getElem_mem hk) nl[k] (hd.get k hk hk2) (ind + 1) o w1 Fr hF h (by have := Ty.szSs_in (List.getElem_mem hk); omega) ho)
 have HR := qh hR
 have HF := qh hF
 have HLL := qh hll
 have HS := qh H
 have hib : ind ≤ 1300 := by omega
 simp only [lzA, lzC, lzN] at hlen
 have HLE := qh hlen
 have hnl : nl.length ≤ 1300 := by omega
 have hf4 := field_nd4
 clear hR hlen H hF hS hd hn hP hll hsl hsz
 go_enter Tryz.func128, Tryz.ntmps128
 go_wp2_with fail
 refine put1 HS.out _ [123, 10] rfl (by have := HLE.out; simp only [List.length_cons, List.length_nil] at this ⊢; omega) _ (by simp) (fun w1 h1 => ?_)
 obtain ⟨q5, qf, ql⟩ := wrIndRd h1
 have h2 := wrSetInd h1 (ind + 1)
 rw [show ((ind + 1 : Nat) : Int) = (ind : Int) + 1 by omega] at h2
 have H2 := qh h2
 clear h1 h2
 go_wp2_with fail
 refine HNO.out _ _ _ H2.out _ (fun w2 lv hl hb2 => ?_)
 obtain ⟨la, lc, rfl⟩ := owns_slice hl
 have HL := qh hl
 have h3 := H2.out.below hb2
 have H3 := qh h3
 clear hb2 h3 hl q5 qf ql
 dsimp only [ndVal]
 go_wp2_with fail
 go_loopw [21] (fun i wr => ∃ k : Nat, k ≤ nl.length ∧ i = .int .i64 k ∧ Hid (Sat wB wr [Fr, wrA wb nv tv main (ind + 1) (out ++ [123, 10] ++ Ty.wSs pg.ts (ind + 1) (l.take k))])) (fun i _ => nl.length - (intOf i).toNat)
 case atStart => exact ⟨0, by omega, rfl, by rw [List.take_zero, Ty.wSs, List.append_nil]; exact H3.out⟩
 case round =>
   obtain ⟨k, hk, rfl, hSt⟩ := hrel
   by_cases hlt : k < nl.length
   · have hb := HF.out wr _ 0 hSt.out rfl
     obtain ⟨g, cap2, e, hg, d0⟩ := ints_at (owns_below HL.out hb) k hlt
     cases e
     have hkl : k < l.length := by have := HLL.out; omega
     have hst := Ty.wSs_step pg.ts (ind + 1) l k hkl
     have hpt := Ty.wSs_part pg.ts (ind + 1) l (k + 1)
     have HD := qh (HST.out k hkl hlt)
     rw [hst, List.length_append] at hpt
     have HPT := qh hpt
     have HSTP := qh hst
     generalize l[k] = s at *
     generalize nl[k] = m at *
     clear hst hpt hb hkl
     go_wp2_with fail
     refine HD.out _ _ hSt.out (by have := HLE.out; have := HPT.out; simp only [lzA, lzC, lzN]; omega) _ (fun w4 h4 => ?_)
     have h5 : Sat wB w4 [Fr, wrA wb nv tv main (ind + 1) (out ++ [123, 10] ++ Ty.wSs pg.ts (ind + 1) (l.take (k + 1)))] := by rw [HSTP.out, ← List.append_assoc]; exact h4
     have H5 := qh h5
     clear h4 h5
     go_wp2_with fail
     go_roundw
     case rel => exact ⟨k + 1, by omega, by go_num, H5.out⟩
     case measure => simp [intOf]; omega
   · have e : k = nl.length := by omega
     subst e
     have h1 := hSt.out
     rw [HLL.out, List.take_length] at h1
     obtain ⟨q5, qf, ql⟩ := wrIndRd h1
     rw [show ((ind + 1 : Nat) : Int) = (ind : Int) + 1 by omega] at q5
     have h2 := wrSetInd h1 ind
     have q5' := (wrIndRd h2).1
     have H2 := qh h2
     clear h1 h2
     go_wp2_with fail
     refine repeat_any _ ind (by omega) (fun w6 hb6 => ?_)
     have H6 := qh (H2.out.below hb6)
     clear hb6
     go_wp2_with fail
     refine put2 H6.out _ _ (Ty.blanks ind) [125] rfl rfl (by have := HLE.out; simp only [lzA, lzC, lzN]; omega) _ (by simp) (fun w7 h7 => ?_)
     have H7 := qh h7
     clear h7
     go_wp2_with fail
     go_end0
     refine HR.out _ ?_
     rw [show out ++ ([123, 10] ++ Ty.wSs pg.ts (ind + 1) l ++ Ty.blanks ind ++ [125]) = out ++ [123, 10] ++ Ty.wSs pg.ts (ind + 1) l ++ (Ty.blanks ind ++ [125]) by simp]
     exact H7.out
end
end
end Go.Proofs.YtdlbhiaceheffabGreatDoor
