/- Walks of show.writer's bare. What the listed table of powers gives. Plain: what the two texts of showBegun are read as, and printed. Walks of show.writer's bare: numbers, truths, lists, what has others ahead. Walks of show.writer's bare at functions. -/
import Derived.Lib.AppendIntMem
import Derived.Test.YtdlbhiaceheffaaGreatDoorU21
set_option linter.all false
set_option maxRecDepth 100000
set_option maxHeartbeats 4000000
namespace Go.Proofs.YtdlbhiaceheffaaGreatDoor
section
open Go Go.RowKit
open Prt (Sat As blk pur exs star stars)
def Pow (w : World) : Prop := Lib.TabIs Tryz.prog w "internal/strconv.uint64pow10" .u64 Lib.pow10Tab
theorem pow_named : Tryz.prog.globalNamed "internal/strconv.uint64pow10" = some 2 := by kernel_rfl
theorem Pow.below {w w' : World} (h : Pow w) (hb : Below w.heap.size w w') : Pow w' := by
 unfold Pow Lib.TabIs World.var? at h ⊢
 rw [pow_named] at h ⊢
 simp only [Option.bind_some] at h ⊢
 rw [hb.block 2 (by
   rcases Nat.lt_or_ge 2 w.heap.size with h' | h'
   · exact h'
   · rw [Array.getElem?_eq_none h'] at h; cases h)]
 exact h
theorem itoa_any (w : World) (hw : Pow w) (n : Nat) (hn : n ≤ 1000000000) {R : Ending → World → Prop} (hR : ∀ w', Below w.heap.size w w' → R (.returned (.string (bs (Lib.itoa n)))) w') :
   Calls Tryz.prog 147 #[.int .i64 (n : Nat)] w R := by
 refine (Tryz.strconv_Itoa n (by omega) (by omega) w hw).mono ?_
 rintro e w' ⟨rfl, k, os, rfl⟩
 exact hR _ (Lib.below_grow _ w (Nat.le_refl _) k os)
theorem repeat_blanks : ∀ n, Lib.repeatL [32, 32] n = Ty.blanks n
 | 0 => rfl
 | n + 1 => by rw [Lib.repeatL, repeat_blanks n]; rfl
theorem repeat_any (w : World) (n : Nat) (hn : n ≤ 1000000) {R : Ending → World → Prop} (hR : ∀ w', Below w.heap.size w w' → R (.returned (.string (bs (Ty.blanks n)))) w') :
   Calls Tryz.prog 81 #[.string ⟨#[32, 32]⟩, .int .i64 (n : Nat)] w R := by
 refine (Tryz.strings_Repeat ⟨#[32, 32]⟩ n w (by omega) (by show 2 * n ≤ _; omega)).mono ?_
 rintro e w' ⟨rfl, hb⟩
 have h := hR w' hb
 rw [← repeat_blanks] at h
 exact h
theorem formatBool_any (w : World) (b : Bool) {R : Ending → World → Prop} (hR : R (.returned (.string (bs (if b then [116, 114, 117, 101] else [102, 97, 108, 115, 101])))) w) :
   Calls Tryz.prog 148 #[.bool b] w R := by
 refine (Tryz.strconv_FormatBool b w).mono ?_
 rintro e w' ⟨rfl, rfl⟩
 have h : (Lib.formatBool b).toArray = (if b then [116, 114, 117, 101] else [102, 97, 108, 115, 101] : List UInt8).toArray := by cases b <;> decide +kernel
 unfold bs at hR
 rw [h]; exact hR
def bareF (Fr : As) (bw wb : Nat) (nd : Ty.Nd) (lv : Value) : As := stars [stars [Fr, blk (bw + 1) (ndObj nd lv)], bxO bw wb]
section
variable {wB w : World} {nv tv : Value} {pg : Ty.Pg} {wb : Nat} {main : Int} {Fr : As} {ind : Nat} {out : List UInt8}
theorem bareIn (H : Sat wB w [Fr, wrA wb nv tv main ind out]) (nd : Ty.Nd) (lv : Value) :
   Sat wB ((w.alloc (.cells #[.pointer (some ⟨wb, 0, none⟩)] 83)).alloc (ndObj nd lv)) [bareF Fr w.heap.size wb nd lv, wrA wb nv tv main ind out] :=
 ((H.allocAt (.cells #[.pointer (some ⟨wb, 0, none⟩)] 83) w.heap.size).allocAt (ndObj nd lv) (w.heap.size + 1)).box2
theorem bareOut {bw : Nat} {nd : Ty.Nd} {lv : Value} (H : Sat wB w [bareF Fr bw wb nd lv, wrA wb nv tv main ind out]) : Sat wB w [Fr, wrA wb nv tv main ind out] := H.unbox2.pick [0, 1]
structure BareRd (w : World) (bw wb : Nat) (nd : Ty.Nd) (lv : Value) : Prop where
 c : w.cell? ⟨bw, 0, none⟩ = some (.pointer (some ⟨wb, 0, none⟩))
 d0 : w.cell? ⟨bw + 1, 0, none⟩ = some (.int .i64 nd.kind)
 d1 : w.cell? ⟨bw + 1, 1, none⟩ = some (.int .i64 nd.a)
 d2 : w.cell? ⟨bw + 1, 2, none⟩ = some (.int .i64 nd.b)
 d3 : w.cell? ⟨bw + 1, 3, none⟩ = some (.int .i64 nd.c)
 d4 : w.cell? ⟨bw + 1, 4, none⟩ = some lv
 d5 : w.cell? ⟨bw + 1, 5, none⟩ = some (.string nd.text)
 d6 : w.cell? ⟨bw + 1, 6, none⟩ = some (.int .i64 nd.n)
 d7 : w.cell? ⟨bw + 1, 7, none⟩ = some (.int .i64 nd.ty)
 d8 : w.cell? ⟨bw + 1, 8, none⟩ = some (.int .i64 nd.pos)
theorem bareRd {bw : Nat} {nd : Ty.Nd} {lv : Value} (H : Sat wB w [bareF Fr bw wb nd lv, wrA wb nv tv main ind out]) : BareRd w bw wb nd lv :=
 ⟨H.unbox2.cell 2 rfl 0 rfl, H.unbox2.cell 3 rfl 0 rfl, H.unbox2.cell 3 rfl 1 rfl, H.unbox2.cell 3 rfl 2 rfl, H.unbox2.cell 3 rfl 3 rfl, H.unbox2.cell 3 rfl 4 rfl, H.unbox2.cell 3 rfl 5 rfl, H.unbox2.cell 3 rfl 6 rfl, H.unbox2.cell 3 rfl 7 rfl, H.unbox2.cell 3 rfl 8 rfl⟩
theorem bareFrB (hF : FrB wB Fr) (bw : Nat) (nd : Ty.Nd) (lv : Value) : FrB wB (bareF Fr bw wb nd lv) := (hF.stars (M := [_])).stars (M := [_])
theorem bare_text {p : Nat} {x : ByteArray} : BaC 118 wB nv tv pg wb main (.text p x) := by
 intro n nd lv hd hn hl ind out w Fr hF H hsz hlen R hR
 rw [Ty.DenE] at hd
 rw [hn] at hd
 cases hd
 rw [Ty.wE] at hlen hR
 have HR := qh hR
 have HLE := qh hlen
 obtain ⟨la, lc, rfl⟩ := owns_slice hl
 have h1 := bareIn H { Ty.ndOf 2 p with text := x } (.slice la 0 lc)
 obtain ⟨c, d0, d1, d2, d3, d4, d5, d6, d7, d8⟩ := bareRd h1
 have H1 := qh h1
 clear hR hlen H hF hn hl hsz h1
 dsimp only [ndVal, Ty.ndOf] at *
 go_enter Tryz.func118, Tryz.ntmps118
 go_wp2_with fail
 refine put3 H1.out _ _ _ [34] x.data.toList [34] rfl (bs_of x).symm rfl (by have := HLE.out; (try simp only [lzA, lzC, lzN] at this ⊢); omega) _ (by simp) (fun w2 h2 => ?_)
 have H2 := qh h2
 clear h2
 go_wp2_with fail
 go_end0
 refine HR.out _ ?_
 have h3 := bareOut H2.out
 first | exact h3 | simpa using h3
theorem bare_null {p : Nat} : BaC 118 wB nv tv pg wb main (.null p) := by
 intro n nd lv hd hn hl ind out w Fr hF H hsz hlen R hR
 rw [Ty.DenE] at hd
 rw [hn] at hd
 cases hd
 rw [Ty.wE] at hlen hR
 have HR := qh hR
 have HLE := qh hlen
 obtain ⟨la, lc, rfl⟩ := owns_slice hl
 have h1 := bareIn H { Ty.ndOf 4 p with a := 0 } (.slice la 0 lc)
 obtain ⟨c, d0, d1, d2, d3, d4, d5, d6, d7, d8⟩ := bareRd h1
 have H1 := qh h1
 clear hR hlen H hF hn hl hsz h1
 dsimp only [ndVal, Ty.ndOf] at *
 go_enter Tryz.func118, Tryz.ntmps118
 go_wp2_with fail
 refine put1 H1.out _ [110, 117, 108, 108] rfl (by have := HLE.out; omega) _ (by simp) (fun w2 h2 => ?_)
 have H2 := qh h2
 clear h2
 go_wp2_with fail
 go_end0
 refine HR.out _ ?_
 have h3 := bareOut H2.out
 first | exact h3 | simpa using h3
theorem bare_var {p : Nat} {x : ByteArray} : BaC 118 wB nv tv pg wb main (.var p x) := by
 intro n nd lv hd hn hl ind out w Fr hF H hsz hlen R hR
 rw [Ty.DenE] at hd
 rw [hn] at hd
 cases hd
 rw [Ty.wE] at hlen hR
 have HR := qh hR
 have HLE := qh hlen
 obtain ⟨la, lc, rfl⟩ := owns_slice hl
 have h1 := bareIn H { Ty.ndOf 5 p with text := x } (.slice la 0 lc)
 obtain ⟨c, d0, d1, d2, d3, d4, d5, d6, d7, d8⟩ := bareRd h1
 have H1 := qh h1
 clear hR hlen H hF hn hl hsz h1
 dsimp only [ndVal, Ty.ndOf] at *
 go_enter Tryz.func118, Tryz.ntmps118
 go_wp2_with fail
 refine put1 H1.out _ x.data.toList (bs_of x).symm (by have := HLE.out; omega) _ (by simp) (fun w2 h2 => ?_)
 have H2 := qh h2
 clear h2
 go_wp2_with fail
 go_end0
 refine HR.out _ ?_
 have h3 := bareOut H2.out
 first | exact h3 | simpa using h3
end
end
section
open Go.ChangeShapes Go.WideShapes Go.ChangeAt Go.RowKit Go.Lib
theorem tab10_named : Tryz.prog.globalNamed "internal/strconv.uint64pow10" = some 2 := by kernel_rfl
theorem tab10_type : (Tryz.prog.globals[2]?).map (·.type) = some 182 := by kernel_rfl
theorem tab10_under : Tryz.prog.underlying 182 = some (.array 20 156) := by kernel_rfl
theorem tab10_elem : Tryz.prog.underlying 156 = some (.int .u64) := by kernel_rfl
theorem tab10_cells : Tryz.prog.cellsOf 182 = 20 := by kernel_rfl
theorem tab10_cell : Tryz.prog.cellsOf 156 = 1 := by kernel_rfl
theorem laid_pow : (Rows.laid_internal_strconv_uint64pow10 : DataW Unit) = tabData .u64 pow10Tab := by kernel_rfl
theorem pow_of_laid {W : World} (h : VarReads Tryz.prog W "internal/strconv.uint64pow10" Rows.laid_internal_strconv_uint64pow10) : Pow W := by
 obtain ⟨g', t', cs, fuel, p, hg, hty, hvar, hd⟩ := h
 obtain rfl := Option.some.inj (tab10_named.symm.trans hg)
 obtain rfl := Option.some.inj (tab10_type.symm.trans hty)
 rw [laid_pow] at hd
 unfold Pow TabIs
 rw [hvar, ← cells_of_tab tab10_under tab10_elem tab10_cell tab10_cells hd]
end
section
namespace Ty
def beg3 : ByteArray := ⟨#[108, 101, 116, 32, 120, 61, 40, 49, 43, 50, 41, 42, 51, 59]⟩
def beg3l : List Sm := [.let_ 0 ⟨#[120]⟩ (-1) (.two 7 ⟨#[42]⟩ (.two 7 ⟨#[43]⟩ (.num 7 1) (.num 9 2)) (.num 12 3))]
abbrev Key := List Nat × List Int × List Nat × List UInt8
def key (n : Nd) : Key := ([n.kind, n.a, n.b, n.n, n.pos], [n.c, n.ty], n.list, n.text.data.toList)
theorem key_inj {m n : Nd} (h : key m = key n) : m = n := by
 obtain ⟨a1, a2, a3, a4, a5, ⟨⟨a6⟩⟩, a7, a8, a9⟩ := m
 obtain ⟨b1, b2, b3, b4, b5, ⟨⟨b6⟩⟩, b7, b8, b9⟩ := n
 simp only [key, Prod.mk.injEq, List.cons.injEq, and_true] at h
 obtain ⟨⟨rfl, rfl, rfl, rfl, rfl⟩, ⟨rfl, rfl⟩, rfl, h6⟩ := h
 obtain rfl : a6 = b6 := h6
 rfl
theorem keys_inj : ∀ {l m : List Nd}, l.map key = m.map key → l = m
 | [], [], _ => rfl
 | a :: l, b :: m, h => by
   simp only [List.map_cons, List.cons.injEq] at h
   rw [key_inj h.1, keys_inj h.2]
 | [], b :: m, h => by simp at h
 | a :: l, [], h => by simp at h
def beg3k : List Key := [([1, 0, 0, 1, 7], [0, -1], [], []), ([1, 0, 0, 2, 9], [0, -1], [], []), ([12, 0, 1, 0, 7], [0, -1], [], [43]), ([1, 0, 0, 3, 12], [0, -1], [], []), ([12, 2, 3, 0, 7], [0, -1], [], [42]), ([17, 4, 0, 0, 0], [0, -1], [], [120]), ([26, 0, 0, 0, 0], [0, -1], [5], [])]
def same3 (r : Except Ft Pg) : Bool := match r with | .ok p => decide (p.ns.map key = beg3k) && (p.main == 6) && (p.ts.length == 0) | .error _ => false
theorem beg3_sum : same3 (parse beg3) = true := by decide +kernel
theorem beg3_lay : (layB 0 beg3l []).1.map key = beg3k ∧ (layB 0 beg3l []).2 = 6 := by
 simp [beg3l, layB, laySs, layS, layE, key, beg3k, ndOf]
theorem beg3_ok {pg : Pg} (h : parse beg3 = .ok pg) : layB 0 beg3l [] = (pg.ns, pg.main) ∧ pg.ts = [] := by
 have := beg3_sum
 rw [h] at this
 simp only [same3, Bool.and_eq_true, decide_eq_true_eq, beq_iff_eq] at this
 obtain ⟨⟨h1, h2⟩, h3⟩ := this
 exact ⟨Prod.ext (keys_inj (beg3_lay.1.trans h1.symm)) (beg3_lay.2.trans h2.symm), List.eq_nil_of_length_eq_zero h3⟩
theorem beg3_no {f : Ft} (h : parse beg3 = .error f) : False := by
 have := beg3_sum; rw [h] at this; simp [same3] at this
theorem beg3_text : wSs [] 0 beg3l = [108, 101, 116, 32, 120, 32, 61, 32, 40, 49, 32, 43, 32, 50, 41, 32, 42, 32, 51, 59, 10] := by decide +kernel
def beg4 : ByteArray := ⟨#[40, 110, 117, 109, 41, 124, 116, 101, 120, 116]⟩
def sum4 : Except Ft (List Ty) → Option (List (Nat × Nat × List Nat × Nat)) := fun r => match r with | .ok p => some (p.map fun t => (t.kind, t.fields.length, t.list, t.of)) | .error _ => none
theorem beg4_sum : sum4 (typeOf beg4) = some [(1, 0, [], 0), (3, 0, [], 0), (10, 0, [0, 1], 0)] := by decide +kernel
theorem beg4_ok {ts : List Ty} (h : typeOf beg4 = .ok ts) : ts = [⟨1, [], [], 0⟩, ⟨3, [], [], 0⟩, ⟨10, [], [0, 1], 0⟩] := by
 have h1 := beg4_sum
 rw [h] at h1
 simp only [sum4, Option.some.injEq] at h1
 rcases ts with _ | ⟨a, _ | ⟨b, _ | ⟨c, _ | ⟨d, l⟩⟩⟩⟩ <;> simp only [List.map_cons, List.map_nil, List.cons.injEq, Prod.mk.injEq, List.length_eq_zero_iff, reduceCtorEq, and_false, false_and] at h1
 obtain ⟨a1, a2, a3, a4⟩ := a
 obtain ⟨b1, b2, b3, b4⟩ := b
 obtain ⟨c1, c2, c3, c4⟩ := c
 dsimp only at h1
 obtain ⟨⟨rfl, rfl, rfl, rfl⟩, ⟨rfl, rfl, rfl, rfl⟩, ⟨rfl, rfl, rfl, rfl⟩, _⟩ := h1
 rfl
theorem beg4_no {f : Ft} (h : typeOf beg4 = .error f) : False := by
 have := beg4_sum; rw [h] at this; simp [sum4] at this
theorem beg4_text {ts : List Ty} (h : typeOf beg4 = .ok ts) : text (den ts (ts.length - 1)) = [110, 117, 109, 32, 124, 32, 116, 101, 120, 116] := by
 have hw := (typeOf_wf h).1
 have hts := beg4_ok h
 have h0 : ts[0]? = some ⟨1, [], [], 0⟩ := by rw [hts]; rfl
 have h1 : ts[1]? = some ⟨3, [], [], 0⟩ := by rw [hts]; rfl
 have h2 : ts[2]? = some ⟨10, [], [0, 1], 0⟩ := by rw [hts]; rfl
 have hl : ts.length - 1 = 2 := by rw [hts]; rfl
 rw [hl, den_eq hw h2]
 simp only [List.map_cons, List.map_nil]
 rw [den_eq hw h0, den_eq hw h1]
 simp only [List.map_nil, if_neg (show ¬(1 = 8 ∨ 1 = 9) by decide), if_neg (show ¬(3 = 8 ∨ 3 = 9) by decide), if_neg (show ¬(10 = 8 ∨ 10 = 9) by decide)]
 decide +kernel
end Ty
end
section
open Go Go.RowKit
open Prt (Sat As blk pur exs star stars)
section
variable {wB : World} {nv tv : Value} {pg : Ty.Pg} {wb : Nat} {main : Int}
theorem bare_num (hP : PB wB nv tv pg) (hW : Pow wB) {p k : Nat} : BaC 118 wB nv tv pg wb main (.num p k) := by
 intro n nd lv hd hn hl ind out w Fr hF H hsz hlen R hR
 rw [Ty.DenE, hn] at hd
 cases hd
 rw [Ty.wE] at hlen hR
 have hk := (hP.ok.ns _ (List.mem_of_getElem? hn)).n_le
 dsimp only at hk
 have HR := qh hR
 have HLE := qh hlen
 have HK := qh hk
 obtain ⟨la, lc, rfl⟩ := owns_slice hl
 have h1 := bareIn H { Ty.ndOf 1 p with n := k } (.slice la 0 lc)
 have HPW := qh (hW.below (hF _ _ 0 H rfl))
 have HB1 := qh (((Below.refl w.heap.size w).alloc (Nat.le_refl _) (.cells #[.pointer (some ⟨wb, 0, none⟩)] 83)).alloc (by simp) (ndObj { Ty.ndOf 1 p with n := k } (.slice la 0 lc))).drew
 obtain ⟨c, d0, d1, d2, d3, d4, d5, d6, d7, d8⟩ := bareRd h1
 have H1 := qh h1
 clear hR hlen H hF hn hl hsz h1 hP hW hk
 dsimp only [ndVal, Ty.ndOf] at *
 go_enter Tryz.func118, Tryz.ntmps118
 go_wp2_with fail
 go_region_held3 (fun w' => w'.cell? ⟨w.heap.size, 0, none⟩ = some (.pointer (some ⟨wb, 0, none⟩)) ∧ w'.cell? ⟨w.heap.size + 1, 6, none⟩ = some (.int .i64 (k : Nat))) (go_keep)
   (first | (go_at_call 147; refine itoa_any _ (HPW.out.below HB1.out) k HK.out (fun w2 hb2 => ?_); have h2 := H1.out.drew.below hb2; have s0 := (bareRd h2).c; have s1 := (bareRd h2).d6; have H2 := qh h2; clear hb2 h2)
          | (go_at_call 80; refine put1 H2.out _ (Lib.itoa k) rfl (by have := HLE.out; omega) _ (by simp) (fun w3 h3 => ?_); have s0 := (bareRd h3).c; have s1 := (bareRd h3).d6; have H3 := qh h3; clear h3))
 all_goals
   go_wp2_with fail
   go_end0
   exact HR.out _ (bareOut H3.out)
theorem bare_bool (hP : PB wB nv tv pg) {p k : Nat} : BaC 118 wB nv tv pg wb main (.bool p k) := by
 intro n nd lv hd hn hl ind out w Fr hF H hsz hlen R hR
 rw [Ty.DenE, hn] at hd
 cases hd
 rw [Ty.wE] at hlen hR
 have hk := (hP.ok.ns _ (List.mem_of_getElem? hn)).small (by simp [Ty.ndOf])
 dsimp only at hk
 obtain ⟨la, lc, rfl⟩ := owns_slice hl
 have h1 := bareIn H { Ty.ndOf 3 p with n := k } (.slice la 0 lc)
 obtain ⟨c, d0, d1, d2, d3, d4, d5, d6, d7, d8⟩ := bareRd h1
 have H1 := qh h1
 clear H hF hn hl hsz h1 hP
 dsimp only [ndVal, Ty.ndOf] at *
 have hk : k = 0 ∨ k = 1 := by omega
 rcases hk with rfl | rfl
 · have HR := qh hR
   have HLE := qh (Nat.le_trans (Nat.le_add_right _ _) hlen)
   clear hR hlen
   go_enter Tryz.func118, Tryz.ntmps118
   go_wp2_with fail
   go_region_held3 (fun w' => w'.cell? ⟨w.heap.size, 0, none⟩ = some (.pointer (some ⟨wb, 0, none⟩)) ∧ w'.cell? ⟨w.heap.size + 1, 6, none⟩ = some (.int .i64 (0 : Nat))) (go_keep)
     (first | (go_at_call 148; refine formatBool_any _ false ?_; have s0 := (bareRd H1.out.drew).c; have s1 := (bareRd H1.out.drew).d6; have H2 := qh H1.out.drew)
            | (go_at_call 80; refine put1 H2.out _ (if false = true then [116, 114, 117, 101] else [102, 97, 108, 115, 101]) rfl (by have := HLE.out; simp; omega) _ (by simp) (fun w3 h3 => ?_); have s0 := (bareRd h3).c; have s1 := (bareRd h3).d6; have H3 := qh h3; clear h3))
   all_goals
     go_wp2_with fail
     go_end0
     exact HR.out _ (bareOut H3.out)
 · have HR := qh hR
   have HLE := qh (Nat.le_trans (Nat.le_add_right _ _) hlen)
   clear hR hlen
   go_enter Tryz.func118, Tryz.ntmps118
   go_wp2_with fail
   go_region_held3 (fun w' => w'.cell? ⟨w.heap.size, 0, none⟩ = some (.pointer (some ⟨wb, 0, none⟩)) ∧ w'.cell? ⟨w.heap.size + 1, 6, none⟩ = some (.int .i64 (1 : Nat))) (go_keep)
     (first | (go_at_call 148; refine formatBool_any _ true ?_; have s0 := (bareRd H1.out.drew).c; have s1 := (bareRd H1.out.drew).d6; have H2 := qh H1.out.drew)
            | (go_at_call 80; refine put1 H2.out _ (if true = true then [116, 114, 117, 101] else [102, 97, 108, 115, 101]) rfl (by have := HLE.out; simp; omega) _ (by simp) (fun w3 h3 => ?_); have s0 := (bareRd h3).c; have s1 := (bareRd h3).d6; have H3 := qh h3; clear h3))
   all_goals
     go_wp2_with fail
     go_end0
     exact HR.out _ (bareOut H3.out)
theorem bare_arr {p : Nat} {l : List Ty.Ex} (hE : ∀ e ∈ l, ExC wB nv tv pg wb main e) : BaC 118 wB nv tv pg wb main (.arr p l) := by
 intro n nd lv hd hn hl ind out w Fr hF H hsz hlen R hR
 rw [Ty.DenE] at hd
 obtain ⟨nl, h1, hd⟩ := hd
 rw [hn] at h1
 cases h1
 rw [Ty.szE] at hsz
 rw [Ty.wE] at hlen hR
 have HL := qh (fun (o : List UInt8) (w1 : World) F' (hF' : FrB wB F') (h : Sat wB w1 [F', wrA wb nv tv main ind o]) ho (R : Ending → World → Prop) => wexprs_any (R := R) hE hd lv hl hF' h (by omega) ho)
 have HR := qh hR
 obtain ⟨la, lc, rfl⟩ := owns_slice hl
 generalize Ty.joinL [44, 32] (Ty.wEs pg.ts ind l) = pl at *
 simp only [lzA, lzC, lzN] at hlen
 have HLE := qh hlen
 have HF := qh (fun bw nd lv => bareFrB (wb := wb) hF bw nd lv)
 have h1 := bareIn H { Ty.ndOf 11 p with list := nl } (.slice la nl.length lc)
 obtain ⟨c, d0, d1, d2, d3, d4, d5, d6, d7, d8⟩ := bareRd h1
 have H1 := qh h1
 clear hR hlen H hF hn hl hsz h1 hE hd
 dsimp only [ndVal, Ty.ndOf] at *
 go_enter Tryz.func118, Tryz.ntmps118
 go_wp2_with fail
 refine put1 H1.out _ [91] rfl (by have := HLE.out; (try simp only [List.length_cons, List.length_nil] at this ⊢); omega) _ (by simp) (fun w2 h2 => ?_)
 have q := bareRd h2
 have q0 := q.c
 have q4 := q.d4
 have H2 := qh h2
 clear h2 q c d0 d1 d2 d3 d4 d5 d6 d7 d8
 go_wp2_with fail
 refine HL.out _ _ _ (HF.out _ _ _) H2.out (by have := HLE.out; (try simp only [lzA, lzC, lzN] at this ⊢); omega) _ (fun w3 h3 => ?_)
 have q := (bareRd h3).c
 have H3 := qh h3
 clear h3 q0 q4
 go_wp2_with fail
 refine put1 H3.out _ [93] rfl (by have := HLE.out; (try simp only [lzA, lzC, lzN] at this ⊢); omega) _ (by simp) (fun w4 h4 => ?_)
 have H4 := qh h4
 clear h4
 go_wp2_with fail
 go_end0
 refine HR.out _ ?_
 rw [show out ++ ([91] ++ pl ++ [93]) = out ++ [91] ++ pl ++ [93] by simp]
 exact bareOut H4.out
theorem bare_obj {p : Nat} {l : List (Nat × ByteArray × Ty.Ex)} (hO : BaC 152 wB nv tv pg wb main (.obj p l)) : BaC 118 wB nv tv pg wb main (.obj p l) := by
 intro n nd lv hd hn hl ind out w Fr hF H hsz hlen R hR
 have hd0 := hd
 rw [Ty.DenE] at hd
 obtain ⟨nl, h1, hd⟩ := hd
 rw [hn] at h1
 cases h1
 have HO := qh (fun w1 F' hF' h => hO n _ lv hd0 hn hl ind out w1 F' hF' h hsz hlen)
 have HR := qh hR
 obtain ⟨la, lc, rfl⟩ := owns_slice hl
 have HF := qh (fun bw nd lv => bareFrB (wb := wb) hF bw nd lv)
 have h1 := bareIn H { Ty.ndOf 10 p with list := nl } (.slice la nl.length lc)
 obtain ⟨c, d0, d1, d2, d3, d4, d5, d6, d7, d8⟩ := bareRd h1
 have H1 := qh h1
 clear hR hlen H hF hn hl hsz h1 hO hd hd0
 dsimp only [ndVal, Ty.ndOf] at *
 go_enter Tryz.func118, Tryz.ntmps118
 go_wp2_with fail
 refine HO.out _ _ (HF.out _ _ _) H1.out _ (fun w2 h2 => ?_)
 have H2 := qh h2
 clear h2
 go_wp2_with fail
 go_end0
 exact HR.out _ (bareOut H2.out)
theorem bare_two {p : Nat} {x : ByteArray} {a b : Ty.Ex} (hO : BaC 153 wB nv tv pg wb main (.two p x a b)) : BaC 118 wB nv tv pg wb main (.two p x a b) := by
 intro n nd lv hd hn hl ind out w Fr hF H hsz hlen R hR
 have hd0 := hd
 rw [Ty.DenE] at hd
 obtain ⟨na, nb, h1, hda, hdb⟩ := hd
 rw [hn] at h1
 cases h1
 have HO := qh (fun w1 F' hF' h => hO n _ lv hd0 hn hl ind out w1 F' hF' h hsz hlen)
 have HR := qh hR
 obtain ⟨la, lc, rfl⟩ := owns_slice hl
 have HF := qh (fun bw nd lv => bareFrB (wb := wb) hF bw nd lv)
 have h1 := bareIn H { Ty.ndOf 12 p with text := x, a := na, b := nb } (.slice la 0 lc)
 obtain ⟨c, d0, d1, d2, d3, d4, d5, d6, d7, d8⟩ := bareRd h1
 have H1 := qh h1
 clear hR hlen H hF hn hl hsz h1 hO hd0
 dsimp only [ndVal, Ty.ndOf] at *
 go_enter Tryz.func118, Tryz.ntmps118
 go_wp2_with fail
 refine HO.out _ _ (HF.out _ _ _) H1.out _ (fun w2 h2 => ?_)
 have H2 := qh h2
 clear h2
 go_wp2_with fail
 go_end0
 exact HR.out _ (bareOut H2.out)
theorem bare_one {p : Nat} {x : ByteArray} {a : Ty.Ex} (hO : BaC 153 wB nv tv pg wb main (.one p x a)) : BaC 118 wB nv tv pg wb main (.one p x a) := by
 intro n nd lv hd hn hl ind out w Fr hF H hsz hlen R hR
 have hd0 := hd
 rw [Ty.DenE] at hd
 obtain ⟨na, h1, hda⟩ := hd
 rw [hn] at h1
 cases h1
 have HO := qh (fun w1 F' hF' h => hO n _ lv hd0 hn hl ind out w1 F' hF' h hsz hlen)
 have HR := qh hR
 obtain ⟨la, lc, rfl⟩ := owns_slice hl
 have HF := qh (fun bw nd lv => bareFrB (wb := wb) hF bw nd lv)
 have h1 := bareIn H { Ty.ndOf 13 p with text := x, a := na } (.slice la 0 lc)
 obtain ⟨c, d0, d1, d2, d3, d4, d5, d6, d7, d8⟩ := bareRd h1
 have H1 := qh h1
 clear hR hlen H hF hn hl hsz h1 hO hd0
 dsimp only [ndVal, Ty.ndOf] at *
 go_enter Tryz.func118, Tryz.ntmps118
 go_wp2_with fail
 refine HO.out _ _ (HF.out _ _ _) H1.out _ (fun w2 h2 => ?_)
 have H2 := qh h2
 clear h2
 go_wp2_with fail
 go_end0
 exact HR.out _ (bareOut H2.out)
theorem bare_call {p : Nat} {a : Ty.Ex} {l : List Ty.Ex} (hO : BaC 153 wB nv tv pg wb main (.call p a l)) : BaC 118 wB nv tv pg wb main (.call p a l) := by
 intro n nd lv hd hn hl ind out w Fr hF H hsz hlen R hR
 have hd0 := hd
 rw [Ty.DenE] at hd
 obtain ⟨na, nl, h1, hda, hdb⟩ := hd
 rw [hn] at h1
 cases h1
 have HO := qh (fun w1 F' hF' h => hO n _ lv hd0 hn hl ind out w1 F' hF' h hsz hlen)
 have HR := qh hR
 obtain ⟨la, lc, rfl⟩ := owns_slice hl
 have HF := qh (fun bw nd lv => bareFrB (wb := wb) hF bw nd lv)
 have h1 := bareIn H { Ty.ndOf 7 p with a := na, list := nl } (.slice la nl.length lc)
 obtain ⟨c, d0, d1, d2, d3, d4, d5, d6, d7, d8⟩ := bareRd h1
 have H1 := qh h1
 clear hR hlen H hF hn hl hsz h1 hO hd0
 dsimp only [ndVal, Ty.ndOf] at *
 go_enter Tryz.func118, Tryz.ntmps118
 go_wp2_with fail
 refine HO.out _ _ (HF.out _ _ _) H1.out _ (fun w2 h2 => ?_)
 have H2 := qh h2
 clear h2
 go_wp2_with fail
 go_end0
 exact HR.out _ (bareOut H2.out)
theorem bare_get {p : Nat} {a : Ty.Ex} {x : ByteArray} (hO : BaC 153 wB nv tv pg wb main (.get p a x)) : BaC 118 wB nv tv pg wb main (.get p a x) := by
 intro n nd lv hd hn hl ind out w Fr hF H hsz hlen R hR
 have hd0 := hd
 rw [Ty.DenE] at hd
 obtain ⟨na, h1, hda⟩ := hd
 rw [hn] at h1
 cases h1
 have HO := qh (fun w1 F' hF' h => hO n _ lv hd0 hn hl ind out w1 F' hF' h hsz hlen)
 have HR := qh hR
 obtain ⟨la, lc, rfl⟩ := owns_slice hl
 have HF := qh (fun bw nd lv => bareFrB (wb := wb) hF bw nd lv)
 have h1 := bareIn H { Ty.ndOf 8 p with a := na, text := x } (.slice la 0 lc)
 obtain ⟨c, d0, d1, d2, d3, d4, d5, d6, d7, d8⟩ := bareRd h1
 have H1 := qh h1
 clear hR hlen H hF hn hl hsz h1 hO hd0
 dsimp only [ndVal, Ty.ndOf] at *
 go_enter Tryz.func118, Tryz.ntmps118
 go_wp2_with fail
 refine HO.out _ _ (HF.out _ _ _) H1.out _ (fun w2 h2 => ?_)
 have H2 := qh h2
 clear h2
 go_wp2_with fail
 go_end0
 exact HR.out _ (bareOut H2.out)
theorem bare_at {p : Nat} {a b : Ty.Ex} (hO : BaC 153 wB nv tv pg wb main (.at p a b)) : BaC 118 wB nv tv pg wb main (.at p a b) := by
 intro n nd lv hd hn hl ind out w Fr hF H hsz hlen R hR
 have hd0 := hd
 rw [Ty.DenE] at hd
 obtain ⟨na, nb, h1, hda, hdb⟩ := hd
 rw [hn] at h1
 cases h1
 have HO := qh (fun w1 F' hF' h => hO n _ lv hd0 hn hl ind out w1 F' hF' h hsz hlen)
 have HR := qh hR
 obtain ⟨la, lc, rfl⟩ := owns_slice hl
 have HF := qh (fun bw nd lv => bareFrB (wb := wb) hF bw nd lv)
 have h1 := bareIn H { Ty.ndOf 9 p with a := na, b := nb } (.slice la 0 lc)
 obtain ⟨c, d0, d1, d2, d3, d4, d5, d6, d7, d8⟩ := bareRd h1
 have H1 := qh h1
 clear hR hlen H hF hn hl hsz h1 hO hd0
 dsimp only [ndVal, Ty.ndOf] at *
 go_enter Tryz.func118, Tryz.ntmps118
 go_wp2_with fail
 refine HO.out _ _ (HF.out _ _ _) H1.out _ (fun w2 h2 => ?_)
 have H2 := qh h2
 clear h2
 go_wp2_with fail
 go_end0
 exact HR.out _ (bareOut H2.out)
theorem bare_as {p : Nat} {a : Ty.Ex} {ty : Int} (hO : BaC 153 wB nv tv pg wb main (.as p a ty)) : BaC 118 wB nv tv pg wb main (.as p a ty) := by
 intro n nd lv hd hn hl ind out w Fr hF H hsz hlen R hR
 have hd0 := hd
 rw [Ty.DenE] at hd
 obtain ⟨na, h1, hda⟩ := hd
 rw [hn] at h1
 cases h1
 have HO := qh (fun w1 F' hF' h => hO n _ lv hd0 hn hl ind out w1 F' hF' h hsz hlen)
 have HR := qh hR
 obtain ⟨la, lc, rfl⟩ := owns_slice hl
 have HF := qh (fun bw nd lv => bareFrB (wb := wb) hF bw nd lv)
 have h1 := bareIn H { Ty.ndOf 14 p with a := na, ty := ty } (.slice la 0 lc)
 obtain ⟨c, d0, d1, d2, d3, d4, d5, d6, d7, d8⟩ := bareRd h1
 have H1 := qh h1
 clear hR hlen H hF hn hl hsz h1 hO hd0
 dsimp only [ndVal, Ty.ndOf] at *
 go_enter Tryz.func118, Tryz.ntmps118
 go_wp2_with fail
 refine HO.out _ _ (HF.out _ _ _) H1.out _ (fun w2 h2 => ?_)
 have H2 := qh h2
 clear h2
 go_wp2_with fail
 go_end0
 exact HR.out _ (bareOut H2.out)
end
end
section
open Go Go.RowKit
open Prt (Sat As blk pur exs star stars)
namespace Ty
theorem DenPs.len {ns : List Nd} : ∀ {l : List Par} {nl : List Nat}, DenPs ns l nl → nl.length = l.length
 | [], _, h => by rw [show _ = [] from h]; rfl
 | q :: l, _, ⟨n, t, e, _, h2⟩ => by subst e; simp [DenPs.len h2]
theorem DenPs.get {ns : List Nd} : ∀ {l : List Par} {nl : List Nat}, DenPs ns l nl → ∀ k (h1 : k < l.length) (h2 : k < nl.length), ns[nl[k]]? = some { ndOf 16 l[k].pos with text := l[k].text, ty := l[k].ty }
 | [], _, _, k, h1, _ => by simp at h1
 | q :: l, _, ⟨n, t, e, h3, h4⟩, k, h1, h2 => by
   subst e
   cases k with
   | zero => exact h3
   | succ k => exact DenPs.get h4 k (by simpa using h1) (by simpa using h2)
end Ty
def BlC (wB : World) (nv tv : Value) (pg : Ty.Pg) (wb : Nat) (main : Int) (l : List Ty.Sm) : Prop :=
 ∀ (bp n : Nat), Ty.DenB pg.ns bp l n → ∀ (ind : Nat) (out : List UInt8) (w : World) (Fr : As), FrB wB Fr → Sat wB w [Fr, wrA wb nv tv main ind out] → ind + Ty.szSs l + 1 ≤ 1300 →
   out.length + (Ty.wB pg.ts ind l).length ≤ 900000000 → ∀ R : Ending → World → Prop, (∀ w', Sat wB w' [Fr, wrA wb nv tv main ind (out ++ Ty.wB pg.ts ind l)] → R (.returned (.tuple #[])) w') →
   Calls Tryz.prog 119 #[.pointer (some ⟨wb, 0, none⟩), .int .i64 (n : Nat)] w R
section
variable {wB w : World} {Fr : As} {wb : Nat} {nv tv : Value} {pg : Ty.Pg} {main : Int} {ind : Nat} {out : List UInt8}
theorem bare1_any (hP : PB wB nv tv pg) {ps : Nat} {x : ByteArray} {ty : Int} {n : Nat} (hn : pg.ns[n]? = some { Ty.ndOf 16 ps with text := x, ty := ty }) (hF : FrB wB Fr) {bw : Nat} (H : Sat wB w [stars [Fr, bxO bw wb], wrA wb nv tv main ind out])
   (hlen : out.length + (Ty.parS pg.ts ⟨ps, x, ty⟩).length ≤ 900000000) {R : Ending → World → Prop}
   (hR : ∀ w', Sat wB w' [stars [Fr, bxO bw wb], wrA wb nv tv main ind (out ++ Ty.parS pg.ts ⟨ps, x, ty⟩)] → R (.returned (.tuple #[])) w') :
   Calls Tryz.prog 150 #[.int .i64 (n : Nat), .pointer (some ⟨bw, 0, none⟩)] w R := by
 have HR := qh hR
 have hF2 := hF.stars (M := [bxO bw wb])
 have HC := qh (fun (w1 : World) (o : List UInt8) (h : Sat wB w1 [stars [Fr, bxO bw wb], wrA wb nv tv main ind o]) => (h.unswap.cell 2 rfl 0 rfl : w1.cell? ⟨bw, 0, none⟩ = some (.pointer (some ⟨wb, 0, none⟩))))
 have c0 := HC.out _ _ H
 have hty : Ty.TyZ ty pg.ts := (hP.ok.ns _ (List.mem_of_getElem? hn)).ty
 have HNO := qh (fun (w1 : World) (o : List UInt8) (h : Sat wB w1 [stars [Fr, bxO bw wb], wrA wb nv tv main ind o]) (R : Ending → World → Prop) => wnode_any (R := R) hP hF2 h hn)
 have HX := qh (fun (w1 : World) (o : List UInt8) (h : Sat wB w1 [stars [Fr, bxO bw wb], wrA wb nv tv main ind o]) ho (R : Ending → World → Prop) => typed_any (R := R) hP hF2 h hty ho)
 unfold Ty.parS at HR hlen
 dsimp only at HR hlen
 generalize Ty.colS pg.ts ty = ct at *
 rw [List.length_append] at hlen
 have HLN := qh hlen
 have HS := qh H
 have hf7 := field_nd7
 have hf5 := field_nd5
 clear hR H hn hF hF2 hlen hP hty
 go_enter Tryz.func150, Tryz.ntmps150
 go_wp2_with fail
 go_region_held3 (fun w' => w'.cell? ⟨bw, 0, none⟩ = some (.pointer (some ⟨wb, 0, none⟩))) (go_keep)
   (first | (go_at_call 79; refine HNO.out _ _ HS.out.drew _ (fun w1 lv hl hb1 => ?_); obtain ⟨la, lc, rfl⟩ := owns_slice hl; have h1 := HS.out.drew.below hb1; have s0 := HC.out _ _ h1; have H1 := qh h1; clear hl hb1 h1; dsimp only [ndVal])
          | (go_at_call 80; refine put1 H1.out _ x.data.toList (bs_of x).symm (by have := HLN.out; omega) _ (by simp) (fun w2 h2 => ?_); have s0 := HC.out _ _ h2; have H2 := qh h2; clear h2))
 all_goals
   clear c0 H1
   go_wp2_with fail
   go_region_held3 (fun w' => w'.cell? ⟨bw, 0, none⟩ = some (.pointer (some ⟨wb, 0, none⟩))) (go_keep)
     (first | (go_at_call 79; refine HNO.out _ _ H2.out.drew _ (fun w3 lv hl hb1 => ?_); obtain ⟨la2, lc2, rfl⟩ := owns_slice hl; have h1 := H2.out.drew.below hb1; have s0 := HC.out _ _ h1; have H3 := qh h1; clear hl hb1 h1; dsimp only [ndVal])
            | (go_at_call 82; refine HX.out _ _ H3.out (by have := HLN.out; rw [List.length_append]; omega) _ (fun w4 h4 => ?_); have s0 := HC.out _ _ h4; have H4 := qh h4; clear h4))
   all_goals
     go_wp2_with fail
     go_end0
     refine HR.out _ ?_
     rw [← List.append_assoc]
     exact H4.out
theorem bare_fn (hP : PB wB nv tv pg) {p bp : Nat} {ps : List Ty.Par} {ty : Int} {body : List Ty.Sm} (hB : BlC wB nv tv pg wb main body) : BaC 118 wB nv tv pg wb main (.fn p ps ty bp body) := by
 intro n nd lv hd hn hl ind out w Fr hF H hsz hlen R hR
 rw [Ty.DenE] at hd
 obtain ⟨nl, nb, h1, hdp, hdb⟩ := hd
 rw [hn] at h1
 cases h1
 have hty : Ty.TyZ ty pg.ts := (hP.ok.ns _ (List.mem_of_getElem? hn)).ty
 rw [Ty.szE] at hsz
 have e : Ty.wE pg.ts ind (.fn p ps ty bp body) = [102, 110, 40] ++ Ty.joinL [44, 32] (ps.map (Ty.parS pg.ts)) ++ [41] ++ Ty.colS pg.ts ty ++ [32] ++ Ty.wB pg.ts ind body := by rw [Ty.wE]; rfl
 rw [e] at hlen hR
 have hll := hdp.len
 have HL := qh (fun (o : List UInt8) (w1 : World) F' (hF' : FrB wB F') bw (h : Sat wB w1 [stars [F', bxO bw wb], wrA wb nv tv main ind o]) ho (R : Ending → World → Prop) =>
   wlist_any (R := R) nl lv hl (by omega) (ps.map (Ty.parS pg.ts)) (by simp; omega) (hF'.stars (M := [_])) h 150 (.pointer (some ⟨bw, 0, none⟩)) Tryz.call150
     (fun k hk hk2 o w1 hs ho R hR => by
       have hkl : k < ps.length := by omega
       have e : (ps.map (Ty.parS pg.ts))[k] = Ty.parS pg.ts ⟨ps[k].pos, ps[k].text, ps[k].ty⟩ := by simp
       rw [e] at ho hR
       exact bare1_any hP (hdp.get k hkl hk) hF' hs ho hR) ho)
 have HT := qh (fun (o : List UInt8) (w1 : World) F' (hF' : FrB wB F') (h : Sat wB w1 [F', wrA wb nv tv main ind o]) ho (R : Ending → World → Prop) => typed_any (R := R) hP hF' h hty ho)
 have HBK := qh (fun (o : List UInt8) (w1 : World) F' (hF' : FrB wB F') h ho => hB bp nb hdb ind o w1 F' hF' h (by omega) ho)
 have HR := qh hR
 obtain ⟨la, lc, rfl⟩ := owns_slice hl
 generalize Ty.joinL [44, 32] (ps.map (Ty.parS pg.ts)) = pl at *
 generalize Ty.colS pg.ts ty = pc at *
 generalize Ty.wB pg.ts ind body = pb at *
 simp only [lzA, lzC, lzN] at hlen
 have HLE := qh hlen
 have HF := qh (fun bw nd lv => bareFrB (wb := wb) hF bw nd lv)
 have HF1 := qh (hF.stars (M := [blk (w.heap.size + 1) (ndObj { Ty.ndOf 6 p with list := nl, ty := ty, a := nb } (.slice la nl.length lc))]))
 have h1 := bareIn H { Ty.ndOf 6 p with list := nl, ty := ty, a := nb } (.slice la nl.length lc)
 obtain ⟨c, d0, d1, d2, d3, d4, d5, d6, d7, d8⟩ := bareRd h1
 have H1 := qh h1
 clear hR hlen H hF hn hl hsz h1 hB hdb hdp hP hty e hll
 dsimp only [ndVal, Ty.ndOf] at *
 go_enter Tryz.func118, Tryz.ntmps118
 go_wp2_with fail
 refine put1 H1.out _ [102, 110, 40] rfl (by have := HLE.out; simp only [List.length_cons, List.length_nil] at this ⊢; omega) _ (by simp) (fun w2 h2 => ?_)
 have q := bareRd h2
 have q0 := q.c
 have q4 := q.d4
 have H2 := qh h2
 clear h2 q c d0 d1 d2 d3 d4 d5 d6 d7 d8
 go_wp2_with fail
 refine HL.out _ _ _ HF1.out _ H2.out (by have := HLE.out; simp only [lzA, lzC, lzN] at this ⊢; omega) _ (fun w3 h3 => ?_)
 have q := bareRd h3
 have q0 := q.c
 have H3 := qh h3
 clear h3 q q4
 go_wp2_with fail
 refine put1 H3.out _ [41] rfl (by have := HLE.out; simp only [lzA, lzC, lzN] at this ⊢; omega) _ (by simp) (fun w4 h4 => ?_)
 have q := bareRd h4
 have q0 := q.c
 have q7 := q.d7
 have H4 := qh h4
 clear h4 q
 go_wp2_with fail
 refine HT.out _ _ _ (HF.out _ _ _) H4.out (by have := HLE.out; simp only [lzA, lzC, lzN] at this ⊢; omega) _ (fun w5 h5 => ?_)
 have q := bareRd h5
 have q0 := q.c
 have H5 := qh h5
 clear h5 q q7
 go_wp2_with fail
 refine put1 H5.out _ [32] rfl (by have := HLE.out; simp only [lzA, lzC, lzN] at this ⊢; omega) _ (by simp) (fun w6 h6 => ?_)
 have q := bareRd h6
 have q0 := q.c
 have q1 := q.d1
 have H6 := qh h6
 clear h6 q
 go_wp2_with fail
 refine HBK.out _ _ _ (HF.out _ _ _) H6.out (by have := HLE.out; simp only [lzA, lzC, lzN] at this ⊢; omega) _ (fun w7 h7 => ?_)
 have H7 := qh h7
 clear h7
 go_wp2_with fail
 go_end0
 refine HR.out _ ?_
 rw [show out ++ ([102, 110, 40] ++ pl ++ [41] ++ pc ++ [32] ++ pb) = out ++ [102, 110, 40] ++ pl ++ [41] ++ pc ++ [32] ++ pb by simp]
 exact bareOut H7.out
end
end
end Go.Proofs.YtdlbhiaceheffaaGreatDoor
