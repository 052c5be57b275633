/- Walks of show.writer's typed, list, expr. Walks of show.writer's expr, exprs: at what their parts come to. Walks of show.writer's exprs, object. Walks of show.writer's object, parts. -/
import Derived.Test.YtdlbhiaceheffabGreatDoorS16
set_option linter.all false
set_option maxRecDepth 100000
set_option maxHeartbeats 2000000
namespace Go.Proofs.YtdlbhiaceheffabGreatDoor
section
open Go Go.RowKit
open Prt (Sat As blk pur exs star stars)
theorem PB.text {wB : World} {nv tv : Value} {pg : Ty.Pg} (h : PB wB nv tv pg) {n : Nat} (hn : Ty.TyIn n pg.ts) : TxtC tv wB n (Ty.text (Ty.den pg.ts n)) ∧ (Ty.text (Ty.den pg.ts n)).length ≤ 12000 := by
 obtain ⟨rows, hr, hrd⟩ := h.ty
 have h1 := Ty.tyIn_text h.ok.wf h.ok.nm hn
 have h2 := h.ok.tlen
 have h3 := hn.cnt
 exact ⟨TypeText_all wB tv rows pg.ts hr h.ok.wf (by omega) hrd (n + 1) n (by omega) hn.lt h1.2.1 (by omega), by omega⟩
theorem PB.tySlice {wB : World} {nv tv : Value} {pg : Ty.Pg} (h : PB wB nv tv pg) : ∃ a n c, tv = .slice a n c := by
 obtain ⟨rows, hr, hrd⟩ := h.ty
 obtain ⟨a, c, e⟩ := owns_slice hrd.row
 exact ⟨a, _, c, e⟩
section
variable {wB w : World} {Fr : As} {wb : Nat} {nv tv : Value} {pg : Ty.Pg} {main : Int} {ind : Nat} {out : List UInt8}
theorem typed_any (hP : PB wB nv tv pg) (hF : FrB wB Fr) (H : Sat wB w [Fr, wrA wb nv tv main ind out]) {ty : Int} (hty : Ty.TyZ ty pg.ts) (hlen : out.length + (Ty.colS pg.ts ty).length ≤ 1000000000) {R : Ending → World → Prop}
   (hR : ∀ w', Sat wB w' [Fr, wrA wb nv tv main ind (out ++ Ty.colS pg.ts ty)] → R (.returned (.tuple #[])) w') :
   Calls Tryz.prog 69 #[.pointer (some ⟨wb, 0, none⟩), .int .i64 ty] w R := by
 have HR := qh hR
 have HLN := qh hlen
 have HS := qh H
 have HF := qh hF
 obtain ⟨p, v, hw⟩ := H.openWr
 obtain ⟨ta, tn, tc, rfl⟩ := hP.tySlice
 have c3 := hw.cell 2 rfl 3 rfl
 have hwl := hw.lt 2 rfl
 dsimp only at c3
 unfold Ty.colS at HR HLN
 rcases hty with rfl | ⟨n, rfl, hn⟩
 · rw [if_pos (by omega)] at HR HLN
   clear hR hlen H hF hw
   go_enter Tryz.func69, Tryz.ntmps69
   go_wp2_with fail
   go_end0
   exact HR.out _ (by rw [List.append_nil]; exact HS.out)
 · rw [if_neg (by omega)] at HR HLN
   have htx := hP.text hn
   rw [show ((n : Int)).toNat = n by omega] at HR HLN
   have HT := qh htx.1
   generalize Ty.text (Ty.den pg.ts n) = tx at *
   have HB := qh (hF w _ 0 H rfl)
   clear hR hlen H hF hw hn htx hP
   go_enter Tryz.func69, Tryz.ntmps69
   go_wp2_with fail
   refine HT.out _ HB.out _ (fun w1 hb1 => ?_)
   have H1 := qh (HS.out.below hb1)
   clear hb1
   go_wp2_with fail
   refine put2 H1.out _ _ [58, 32] tx rfl rfl HLN.out _ (by simp) (fun w2 h2 => ?_)
   have H2 := qh h2
   clear h2
   go_wp2_with fail
   go_end0
   exact HR.out _ H2.out
theorem wlist_any (l : List Nat) (lv : Value) (hl : wB.ownsRow 0 3 1 lv l.length (l.map inCell)) (hln : l.length ≤ 1000000) (xs : List (List UInt8)) (hxs : xs.length = l.length) (hF : FrB wB Fr) (H : Sat wB w [Fr, wrA wb nv tv main ind out])
   (F : FuncId) (cv : Value) (hc : ∀ (args : Array Value) (w : World), (callFunc F args).run Tryz.prog w = .ok (.enter F args) w)
   (hdo : ∀ (k : Nat) (hk : k < l.length) (hk2 : k < xs.length) (o : List UInt8) (w1 : World), Sat wB w1 [Fr, wrA wb nv tv main ind o] → o.length + (xs[k]).length ≤ 900000000 → ∀ R : Ending → World → Prop,
     (∀ w2, Sat wB w2 [Fr, wrA wb nv tv main ind (o ++ xs[k])] → R (.returned (.tuple #[])) w2) → Calls Tryz.prog F #[.int .i64 (l[k] : Nat), cv] w1 R)
   (hlen : out.length + (Ty.joinL [44, 32] xs).length ≤ 900000000) {R : Ending → World → Prop}
   (hR : ∀ w', Sat wB w' [Fr, wrA wb nv tv main ind (out ++ Ty.joinL [44, 32] xs)] → R (.returned (.tuple #[])) w') :
   Calls Tryz.prog 195 #[.pointer (some ⟨wb, 0, none⟩), lv, .func (.func F) #[] #[cv]] w R := by
 have HR := qh hR
 have HS := qh H
 have HF := qh hF
 have HL := qh hl
 have HDO := qh hdo
 have HLN := qh hlen
 have HXS := qh hxs
 obtain ⟨a, cap, rfl⟩ := owns_slice hl
 clear hR H hF hl hdo hlen hxs
 go_enter Tryz.func195, Tryz.ntmps195
 go_wp2_with fail
 go_loopw [10] (fun i wr => ∃ k : Nat, k ≤ l.length ∧ i = .int .i64 k ∧ Hid (Sat wB wr [Fr, wrA wb nv tv main ind (out ++ Ty.joinL [44, 32] (xs.take k))])) (fun i _ => l.length - (intOf i).toNat)
 case atStart => exact ⟨0, by omega, rfl, by rw [List.take_zero]; show Sat _ _ [Fr, wrA wb nv tv main ind (out ++ [])]; rw [List.append_nil]; exact HS.out⟩
 case round =>
   obtain ⟨k, hk, rfl, hS⟩ := hrel
   by_cases hlt : k < l.length
   · have hb := HF.out wr _ 0 hS.out rfl
     obtain ⟨g, cap2, e, hg, d0⟩ := ints_at (owns_below HL.out hb) k hlt
     cases e
     have hkx : k < xs.length := by rw [HXS.out]; exact hlt
     have hst := joinL_step [44, 32] xs k hkx
     have hmo := joinL_mono [44, 32] xs (xs.length - (k + 1)) (k + 1) (by omega)
     have HD := qh (HDO.out k hlt hkx)
     rw [hst, List.length_append] at hmo
     have HST := qh hst
     have HMO := qh hmo
     generalize xs[k] = x at *
     generalize l[k] = n at *
     clear hst hmo hb hkx
     by_cases hk0 : k = 0
     · subst hk0
       rw [if_pos rfl] at HST HMO
       go_wp2_with fail
       refine HD.out _ _ hS.out (by have := HLN.out; have := HMO.out; rw [List.length_append]; omega) _ (fun w1 h1 => ?_)
       have h2 : Sat wB w1 [Fr, wrA wb nv tv main ind (out ++ Ty.joinL [44, 32] (xs.take (0 + 1)))] := by rw [HST.out, ← List.append_assoc]; exact h1
       have H2 := qh h2
       clear h1 h2
       go_wp2_with fail
       go_roundw
       case rel => exact ⟨0 + 1, by omega, by go_num, H2.out⟩
       case measure => simp [intOf]; omega
     · rw [if_neg hk0] at HST HMO
       have hk1 : 0 < k := by omega
       clear hk0
       go_wp2_with fail
       refine put1 hS.out _ [44, 32] rfl (by have := HLN.out; have := HMO.out; rw [List.length_append] at this ⊢; simp only [List.length_cons, List.length_nil] at this ⊢; omega) _ (by simp) (fun w1 h1 => ?_)
       rw [List.append_assoc] at h1
       have H1 := qh h1
       clear h1
       go_wp2_with fail
       refine HD.out _ _ H1.out (by have := HLN.out; have := HMO.out; rw [List.length_append]; omega) _ (fun w2 h2 => ?_)
       have h3 : Sat wB w2 [Fr, wrA wb nv tv main ind (out ++ Ty.joinL [44, 32] (xs.take (k + 1)))] := by rw [HST.out, ← List.append_assoc]; exact h2
       have H3 := qh h3
       clear h2 h3
       go_wp2_with fail
       go_roundw
       case rel => exact ⟨k + 1, by omega, by go_num, H3.out⟩
       case measure => simp [intOf]; omega
   · have e : k = l.length := by omega
     subst e
     have h1 := hS.out
     rw [← HXS.out, List.take_length] at h1
     have H1 := qh h1
     clear h1
     go_wp2_with fail
     go_end0
     exact HR.out _ H1.out
end
end
section
open Go Go.RowKit
open Prt (Sat As blk pur exs star stars)
def ExC (wB : World) (nv tv : Value) (pg : Ty.Pg) (wb : Nat) (main : Int) (e : Ty.Ex) : Prop :=
 ∀ (n : Nat), Ty.DenE pg.ns e n → ∀ (least ind : Nat) (out : List UInt8) (w : World) (Fr : As), FrB wB Fr → Sat wB w [Fr, wrA wb nv tv main ind out] → least ≤ 10 → ind + Ty.szE e ≤ 1300 →
   out.length + (Ty.wP pg.ts ind least e).length ≤ 900000000 → ∀ R : Ending → World → Prop, (∀ w', Sat wB w' [Fr, wrA wb nv tv main ind (out ++ Ty.wP pg.ts ind least e)] → R (.returned (.tuple #[])) w') →
   Calls Tryz.prog 70 #[.pointer (some ⟨wb, 0, none⟩), .int .i64 (n : Nat), .int .i64 (least : Nat)] w R
def BaC (F : FuncId) (wB : World) (nv tv : Value) (pg : Ty.Pg) (wb : Nat) (main : Int) (e : Ty.Ex) : Prop :=
 ∀ (n : Nat) (nd : Ty.Nd) (lv : Value), Ty.DenE pg.ns e n → pg.ns[n]? = some nd → wB.ownsRow 0 3 1 lv nd.list.length (nd.list.map inCell) →
   ∀ (ind : Nat) (out : List UInt8) (w : World) (Fr : As), FrB wB Fr → Sat wB w [Fr, wrA wb nv tv main ind out] → ind + Ty.szE e ≤ 1300 →
   out.length + (Ty.wE pg.ts ind e).length ≤ 900000000 → ∀ R : Ending → World → Prop, (∀ w', Sat wB w' [Fr, wrA wb nv tv main ind (out ++ Ty.wE pg.ts ind e)] → R (.returned (.tuple #[])) w') →
   Calls Tryz.prog F #[.pointer (some ⟨wb, 0, none⟩), ndVal nd lv] w R
theorem den_nd {ns : List Ty.Nd} {n : Nat} : ∀ {e : Ty.Ex}, Ty.DenE ns e n → ∃ nd, ns[n]? = some nd ∧ lvlN nd = Ty.lvl e
 | .num .., h => by rw [Ty.DenE] at h; exact ⟨_, h, rfl⟩
 | .text .., h => by rw [Ty.DenE] at h; exact ⟨_, h, rfl⟩
 | .bool .., h => by rw [Ty.DenE] at h; exact ⟨_, h, rfl⟩
 | .null .., h => by rw [Ty.DenE] at h; exact ⟨_, h, rfl⟩
 | .var .., h => by rw [Ty.DenE] at h; exact ⟨_, h, rfl⟩
 | .fn .., h => by rw [Ty.DenE] at h; obtain ⟨_, _, h, _⟩ := h; exact ⟨_, h, rfl⟩
 | .call .., h => by rw [Ty.DenE] at h; obtain ⟨_, _, h, _⟩ := h; exact ⟨_, h, rfl⟩
 | .get .., h => by rw [Ty.DenE] at h; obtain ⟨_, h, _⟩ := h; exact ⟨_, h, rfl⟩
 | .at .., h => by rw [Ty.DenE] at h; obtain ⟨_, _, h, _⟩ := h; exact ⟨_, h, rfl⟩
 | .obj .., h => by rw [Ty.DenE] at h; obtain ⟨_, h, _⟩ := h; exact ⟨_, h, rfl⟩
 | .arr .., h => by rw [Ty.DenE] at h; obtain ⟨_, h, _⟩ := h; exact ⟨_, h, rfl⟩
 | .two .., h => by rw [Ty.DenE] at h; obtain ⟨_, _, h, _⟩ := h; exact ⟨_, h, rfl⟩
 | .one .., h => by rw [Ty.DenE] at h; obtain ⟨_, h, _⟩ := h; exact ⟨_, h, rfl⟩
 | .as .., h => by rw [Ty.DenE] at h; obtain ⟨_, h, _⟩ := h; exact ⟨_, h, rfl⟩
def ndObj (nd : Ty.Nd) (lv : Value) : Obj := .cells #[.int .i64 nd.kind, .int .i64 nd.a, .int .i64 nd.b, .int .i64 nd.c, lv, .string nd.text, .int .i64 nd.n, .int .i64 nd.ty, .int .i64 nd.pos] 66
section
variable {wB : World} {nv tv : Value} {pg : Ty.Pg} {wb : Nat} {main : Int}
theorem expr_of_bare (hP : PB wB nv tv pg) {e : Ty.Ex} (hB : BaC 127 wB nv tv pg wb main e) : ExC wB nv tv pg wb main e := by
 intro n hd least ind out w Fr hF H hle hsz hlen R hR
 obtain ⟨nd, hn, hlv⟩ := den_nd hd
 have HR := qh hR
 have HLN := qh hlen
 have HS := qh H
 have HF := qh hF
 have HLV := qh hlv
 have HBA := qh (fun lv hl => hB n nd lv hd hn hl ind)
 have HSZ := qh hsz
 have HNO := qh (fun R => @wnode_any wB w Fr wb nv tv pg main ind out hP hF H n nd hn R)
 clear hB hR hlen H hF hlv hP hd hn hsz
 go_enter Tryz.func70, Tryz.ntmps70
 go_wp2_with fail
 refine HNO.out _ (fun w1 lv hl hb1 => ?_)
 obtain ⟨la, lc, rfl⟩ := owns_slice hl
 have h1 := (HS.out.below hb1).allocAt (ndObj nd (.slice la nd.list.length lc)) w1.heap.size
 have HB2 := qh (HBA.out _ hl)
 have H1 := qh h1
 clear hl hb1 h1
 dsimp only [ndVal]
 go_wp2_with fail
 refine binds_any _ nd (.slice la nd.list.length lc) ⟨_, _, _, rfl⟩ (fun w2 hb2 => ?_)
 have h2 := H1.out.below hb2
 rw [HLV.out]
 have x0 := h2.cell 2 rfl 0 rfl
 have x1 := h2.cell 2 rfl 1 rfl
 have x2 := h2.cell 2 rfl 2 rfl
 have x3 := h2.cell 2 rfl 3 rfl
 have x4 := h2.cell 2 rfl 4 rfl
 have x5 := h2.cell 2 rfl 5 rfl
 have x6 := h2.cell 2 rfl 6 rfl
 have x7 := h2.cell 2 rfl 7 rfl
 have x8 := h2.cell 2 rfl 8 rfl
 have H2 := qh h2.swap
 clear hb2 h2
 unfold Ty.wP Ty.par at HR HLN
 by_cases hc : Ty.lvl e < least
 · rw [decide_eq_true hc, if_pos rfl] at HR HLN
   have k1 : decide ((Ty.lvl e : Int) < (least : Nat)) = true := decide_eq_true (by omega)
   have k2 : decide (Ty.lvl e < least) = true := decide_eq_true hc
   have hln := HLN.out
   simp only [lzA, lzC, lzN] at hln
   have HLE := qh hln
   generalize Ty.lvl e = lvle at *
   clear hc hln HLN
   go_wp2_with fail
   refine put1 H2.out _ [40] rfl (by have := HLE.out; simp; omega) _ (by simp) (fun w3 h3 => ?_)
   have h4 := h3.unswap
   have y0 := h4.cell 2 rfl 0 rfl
   have y1 := h4.cell 2 rfl 1 rfl
   have y2 := h4.cell 2 rfl 2 rfl
   have y3 := h4.cell 2 rfl 3 rfl
   have y4 := h4.cell 2 rfl 4 rfl
   have y5 := h4.cell 2 rfl 5 rfl
   have y6 := h4.cell 2 rfl 6 rfl
   have y7 := h4.cell 2 rfl 7 rfl
   have y8 := h4.cell 2 rfl 8 rfl
   have H3 := qh h3
   clear h3 h4
   go_wp2_with fail
   refine HB2.out _ w3 _ (HF.out.stars (M := [_])) H3.out HSZ.out (by have := HLE.out; rw [List.length_append]; simp; omega) _ (fun w5 h5 => ?_)
   have H5 := qh h5
   clear h5
   go_wp2_with fail
   refine put1 H5.out _ [41] rfl (by have := HLE.out; rw [List.length_append, List.length_append]; simp; omega) _ (by simp) (fun w6 h6 => ?_)
   have H6 := qh (h6.unpack (i := 0) rfl)
   clear h6
   go_wp2_with fail
   go_end0
   refine HR.out _ ?_
   rw [show out ++ ([40] ++ Ty.wE pg.ts ind e ++ [41]) = out ++ [40] ++ Ty.wE pg.ts ind e ++ [41] by simp]
   exact H6.out.pick [1, 0]
 · rw [decide_eq_false hc] at HR HLN
   have k1 : decide ((Ty.lvl e : Int) < (least : Nat)) = false := decide_eq_false (by omega)
   have k2 : decide (Ty.lvl e < least) = false := decide_eq_false hc
   rw [if_neg (by decide)] at HR HLN
   generalize Ty.lvl e = lvle at *
   clear hc
   go_wp2_with fail
   refine HB2.out _ w2 _ (HF.out.stars (M := [_])) H2.out HSZ.out HLN.out _ (fun w5 h5 => ?_)
   have H6 := qh (h5.unpack (i := 0) rfl)
   clear h5
   go_wp2_with fail
   go_end0
   exact HR.out _ (H6.out.pick [1, 0])
end
end
section
open Go Go.RowKit
open Prt (Sat As blk pur exs star stars)
namespace Ty
theorem DenEs.len {ns : List Nd} : ∀ {l : List Ex} {nl : List Nat}, DenEs ns l nl → nl.length = l.length
 | [], _, h => by rw [DenEs] at h; rw [h]; rfl
 | e :: l, _, h => by rw [DenEs] at h; obtain ⟨n, t, rfl, _, h2⟩ := h; simp [h2.len]
theorem DenEs.get {ns : List Nd} : ∀ {l : List Ex} {nl : List Nat}, DenEs ns l nl → ∀ k (h1 : k < l.length) (h2 : k < nl.length), DenE ns l[k] nl[k]
 | [], _, _, k, h1, _ => by simp at h1
 | e :: l, _, h, k, h1, h2 => by
   rw [DenEs] at h
   obtain ⟨n, t, rfl, h3, h4⟩ := h
   cases k with
   | zero => exact h3
   | succ k => exact h4.get k (by simpa using h1) (by simpa using h2)
theorem wEs_map (ts : List Ty) (ind : Nat) : ∀ l : List Ex, wEs ts ind l = l.map (wE ts ind)
 | [] => by rw [wEs]; rfl
 | e :: l => by rw [wEs, wEs_map ts ind l]; rfl
theorem szEs_in : ∀ {l : List Ex} {e : Ex}, e ∈ l → szE e ≤ szEs l
 | [], _, h => by simp at h
 | a :: l, e, h => by
   rw [szEs]
   rcases List.mem_cons.1 h with rfl | h
   · omega
   · have := szEs_in h; omega
theorem szEs_len : ∀ l : List Ex, l.length ≤ szEs l
 | [] => by simp
 | e :: l => by
   have := szEs_len l
   have h1 : 1 ≤ szE e := by cases e <;> simp [szE] <;> omega
   rw [szEs]; simp; omega
structure DenO (ns : List Nd) (o : Nat × ByteArray × Ex) (n a : Nat) : Prop where
 nd : ns[n]? = some { ndOf 15 o.1 with text := o.2.1, a := a }
 den : DenE ns o.2.2 a
theorem DenOs.len {ns : List Nd} : ∀ {l : List (Nat × ByteArray × Ex)} {nl : List Nat}, DenOs ns l nl → nl.length = l.length
 | [], _, h => by rw [DenOs] at h; rw [h]; rfl
 | (p, x, e) :: l, _, h => by rw [DenOs] at h; obtain ⟨n, a, t, rfl, _, _, h2⟩ := h; simp [h2.len]
theorem DenOs.get {ns : List Nd} : ∀ {l : List (Nat × ByteArray × Ex)} {nl : List Nat}, DenOs ns l nl → ∀ k (h1 : k < l.length) (h2 : k < nl.length), ∃ a, DenO ns l[k] nl[k] a
 | [], _, _, k, h1, _ => by simp at h1
 | (p, x, e) :: l, _, h, k, h1, h2 => by
   rw [DenOs] at h
   obtain ⟨n, a, t, rfl, h3, h4, h5⟩ := h
   cases k with
   | zero => exact ⟨a, h3, h4⟩
   | succ k => exact h5.get k (by simpa using h1) (by simpa using h2)
theorem wOs_map (ts : List Ty) (ind : Nat) : ∀ l : List (Nat × ByteArray × Ex), wOs ts ind l = l.map fun o => o.2.1.data.toList ++ [58, 32] ++ wE ts ind o.2.2
 | [] => by rw [wOs]; rfl
 | (p, x, e) :: l => by rw [wOs, wOs_map ts ind l]; rfl
theorem szOs_in : ∀ {l : List (Nat × ByteArray × Ex)} {o : Nat × ByteArray × Ex}, o ∈ l → szE o.2.2 ≤ szOs l
 | [], _, h => by simp at h
 | (p, x, e) :: l, o, h => by
   rw [szOs]
   rcases List.mem_cons.1 h with rfl | h
   · dsimp only; omega
   · have := szOs_in h; omega
theorem szOs_len : ∀ l : List (Nat × ByteArray × Ex), l.length ≤ szOs l
 | [] => by simp
 | (p, x, e) :: l => by
   have := szOs_len l
   rw [szOs]; simp; omega
end Ty
section
variable {wB w : World} {Fr : As} {wb : Nat} {nv tv : Value} {pg : Ty.Pg} {main : Int} {ind : Nat} {out : List UInt8}
theorem exprs1_any {e : Ty.Ex} (hE : ExC wB nv tv pg wb main e) {n : Nat} (hd : Ty.DenE pg.ns e n) (hF : FrB wB Fr) {bw : Nat} (H : Sat wB w [stars [Fr, blk bw (.cells #[.pointer (some ⟨wb, 0, none⟩)] 70 (0, 0))], wrA wb nv tv main ind out])
   (hsz : ind + Ty.szE e ≤ 1300) (hlen : out.length + (Ty.wE pg.ts ind e).length ≤ 900000000) {R : Ending → World → Prop}
   (hR : ∀ w', Sat wB w' [stars [Fr, blk bw (.cells #[.pointer (some ⟨wb, 0, none⟩)] 70 (0, 0))], wrA wb nv tv main ind (out ++ Ty.wE pg.ts ind e)] → R (.returned (.tuple #[])) w') :
   Calls Tryz.prog 272 #[.int .i64 (n : Nat), .pointer (some ⟨bw, 0, none⟩)] w R := by
 have HR := qh hR
 have h1 := H.unswap
 have c0 := h1.cell 2 rfl 0 rfl
 have hx := hE n hd 0 ind out w _ (hF.stars (M := [blk bw (.cells #[.pointer (some ⟨wb, 0, none⟩)] 70 (0, 0))])) H (by omega) hsz (by rw [Ty.wP_zero]; exact hlen)
 rw [Ty.wP_zero] at hx
 have HX := qh hx
 clear hR H h1 hx hE hd hF hsz hlen
 go_enter Tryz.func272, Tryz.ntmps272
 go_wp2_with fail
 refine HX.out _ (fun w1 h1 => ?_)
 have H1 := qh h1
 clear h1
 go_wp2_with fail
 go_end0
 exact HR.out _ H1.out
theorem wexprs_any {l : List Ty.Ex} (hE : ∀ e ∈ l, ExC wB nv tv pg wb main e) {nl : List Nat} (hd : Ty.DenEs pg.ns l nl) (lv : Value) (hl : wB.ownsRow 0 3 1 lv nl.length (nl.map inCell)) (hF : FrB wB Fr) (H : Sat wB w [Fr, wrA wb nv tv main ind out])
   (hsz : ind + Ty.szEs l ≤ 1300) (hlen : out.length + (Ty.joinL [44, 32] (Ty.wEs pg.ts ind l)).length ≤ 900000000) {R : Ending → World → Prop}
   (hR : ∀ w', Sat wB w' [Fr, wrA wb nv tv main ind (out ++ Ty.joinL [44, 32] (Ty.wEs pg.ts ind l))] → R (.returned (.tuple #[])) w') :
   Calls Tryz.prog 197 #[.pointer (some ⟨wb, 0, none⟩), lv] w R := by
 have HR := qh hR
 have hll := hd.len
 have hsl := Ty.szEs_len l
 have h1 := (H.allocAt (.cells #[.pointer (some ⟨wb, 0, none⟩)] 70) w.heap.size).swap
 have hw := fun (R : Ending → World → Prop) => wlist_any (R := R) nl lv hl (by omega) (Ty.wEs pg.ts ind l) (by rw [Ty.wEs_map]; simp; omega) (hF.stars (M := [blk w.heap.size (.cells #[.pointer (some ⟨wb, 0, none⟩)] 70 (0, 0))])) h1 272 (.pointer (some ⟨w.heap.size, 0, none⟩)) Tryz.call272
   (fun k hk hk2 o w1 hs ho R hR => by
     have hkl : k < l.length := by omega
     have e : (Ty.wEs pg.ts ind l)[k] = Ty.wE pg.ts ind l[k] := by simp [Ty.wEs_map]
     rw [e] at ho hR
     have hm : l[k] ∈ l := List.getElem_mem _
     exact exprs1_any (hE _ hm) (hd.get k hkl hk) hF hs (by have := Ty.szEs_in hm; omega) ho hR) hlen
 obtain ⟨la, lc, rfl⟩ := owns_slice hl
 have HW := qh hw
 clear hR H hE hd hl hF hsz hlen hll hsl h1 hw
 go_enter Tryz.func197, Tryz.ntmps197
 go_wp2_with fail
 refine HW.out _ (fun w1 h1 => ?_)
 have H1 := qh (h1.unpack (i := 0) rfl)
 clear h1
 go_wp2_with fail
 go_end0
 exact HR.out _ (H1.out.pick [1, 0])
theorem field_nd1 (a b c d e f g h i : Value) (w : World) : (Instr.field 66 (.agg #[a, b, c, d, e, f, g, h, i]) 1).run Tryz.prog w = .ok b w := by kernel_rfl
theorem field_nd5 (a b c d e f g h i : Value) (w : World) : (Instr.field 66 (.agg #[a, b, c, d, e, f, g, h, i]) 5).run Tryz.prog w = .ok f w := by kernel_rfl
theorem field_nd7 (a b c d e f g h i : Value) (w : World) : (Instr.field 66 (.agg #[a, b, c, d, e, f, g, h, i]) 7).run Tryz.prog w = .ok h w := by kernel_rfl
theorem object1_any (hP : PB wB nv tv pg) {p : Nat} {x : ByteArray} {e : Ty.Ex} (hE : ExC wB nv tv pg wb main e) {n a : Nat} (hd : Ty.DenO pg.ns (p, x, e) n a) (hF : FrB wB Fr) {bw : Nat} (H : Sat wB w [stars [Fr, blk bw (.cells #[.pointer (some ⟨wb, 0, none⟩)] 70 (0, 0))], wrA wb nv tv main ind out])
   (hsz : ind + Ty.szE e ≤ 1300) (hlen : out.length + (x.data.toList ++ [58, 32] ++ Ty.wE pg.ts ind e).length ≤ 900000000) {R : Ending → World → Prop}
   (hR : ∀ w', Sat wB w' [stars [Fr, blk bw (.cells #[.pointer (some ⟨wb, 0, none⟩)] 70 (0, 0))], wrA wb nv tv main ind (out ++ (x.data.toList ++ [58, 32] ++ Ty.wE pg.ts ind e))] → R (.returned (.tuple #[])) w') :
   Calls Tryz.prog 273 #[.int .i64 (n : Nat), .pointer (some ⟨bw, 0, none⟩)] w R := by
 have HR := qh hR
 have hF2 := hF.stars (M := [blk bw (.cells #[.pointer (some ⟨wb, 0, none⟩)] 70 (0, 0))])
 have HC := qh (fun (w1 : World) (o : List UInt8) (h : Sat wB w1 [stars [Fr, blk bw (.cells #[.pointer (some ⟨wb, 0, none⟩)] 70 (0, 0))], wrA wb nv tv main ind o]) => h.unswap.cell 2 rfl 0 rfl)
 have c0 := HC.out _ _ H
 have HNO := qh (fun (w1 : World) (o : List UInt8) (h : Sat wB w1 [stars [Fr, blk bw (.cells #[.pointer (some ⟨wb, 0, none⟩)] 70 (0, 0))], wrA wb nv tv main ind o]) (R : Ending → World → Prop) => wnode_any (R := R) hP hF2 h hd.nd)
 have HX := qh (fun (w1 : World) (o : List UInt8) h ho => hE a hd.den 0 ind o w1 _ hF2 h (by omega) hsz ho)
 simp only [lzA, lzC, lzN] at hlen
 have HLN := qh hlen
 have HS := qh H
 have hf1 := field_nd1
 have hf5 := field_nd5
 rw [Ty.wP_zero] at HX
 clear hR H hd hF hF2 hsz hlen hE hP
 go_enter Tryz.func273, Tryz.ntmps273
 go_wp2_with fail
 go_region_held3 (fun w' => w'.cell? ⟨bw, 0, none⟩ = some (.pointer (some ⟨wb, 0, none⟩))) (go_keep)
   (first | (go_at_call 66; refine HNO.out _ _ HS.out.drew _ (fun w1 lv hl hb1 => ?_); obtain ⟨la, lc, rfl⟩ := owns_slice hl; have h1 := HS.out.drew.below hb1; have s0 := HC.out _ _ h1; have H1 := qh h1; clear hl hb1 h1; dsimp only [ndVal])
          | (go_at_call 67; refine put2 H1.out _ _ x.data.toList [58, 32] (bs_of x).symm rfl (by have := HLN.out; simp only [lzA, lzC, lzN]; omega) _ (by simp) (fun w2 h2 => ?_); have s0 := HC.out _ _ h2; have H2 := qh h2; clear h2))
 all_goals
   clear c0 H1
   go_wp2_with fail
   go_region_held3 (fun w' => w'.cell? ⟨bw, 0, none⟩ = some (.pointer (some ⟨wb, 0, none⟩))) (go_keep)
     (first | (go_at_call 66; refine HNO.out _ _ H2.out.drew _ (fun w3 lv hl hb1 => ?_); obtain ⟨la2, lc2, rfl⟩ := owns_slice hl; have h1 := H2.out.drew.below hb1; have s0 := HC.out _ _ h1; have H3 := qh h1; clear hl hb1 h1; dsimp only [ndVal])
            | (go_at_call 70; refine HX.out _ _ H3.out (by have := HLN.out; simp only [lzA, lzC, lzN]; omega) _ (fun w4 h4 => ?_); have s0 := HC.out _ _ h4; have H4 := qh h4; clear h4))
   all_goals
     go_wp2_with fail
     go_end0
     refine HR.out _ ?_
     rw [show out ++ (x.data.toList ++ [58, 32] ++ Ty.wE pg.ts ind e) = out ++ (x.data.toList ++ [58, 32]) ++ Ty.wE pg.ts ind e by simp]
     exact H4.out
end
end
section
open Go Go.RowKit
open Prt (Sat As blk pur exs star stars)
theorem Prt.Sat.box2 {w0 w : World} {Fr W A B : As} (h : Sat w0 w [Fr, W, A, B]) : Sat w0 w [stars [stars [Fr, B], A], W] :=
 ((Prt.Sat.pack (L := [W]) (M := [stars [Fr, B], A]) ((Prt.Sat.pack (L := [W, A]) (M := [Fr, B]) (h.pick [1, 2, 0, 3])).pick [0, 2, 1]))).pick [1, 0]
theorem Prt.Sat.unbox2 {w0 w : World} {Fr W A B : As} (h : Sat w0 w [stars [stars [Fr, B], A], W]) : Sat w0 w [Fr, W, A, B] :=
 (Prt.Sat.unpack (i := 1) (h.unpack (i := 0) rfl) rfl).pick [2, 0, 1, 3]
section
variable {wB : World} {nv tv : Value} {pg : Ty.Pg} {wb : Nat} {main : Int}
def bxO (bw wb : Nat) : As := blk bw (.cells #[.pointer (some ⟨wb, 0, none⟩)] 70 (0, 0))
theorem wobject_any (hP : PB wB nv tv pg) {p : Nat} {l : List (Nat × ByteArray × Ty.Ex)} (hE : ∀ o ∈ l, ExC wB nv tv pg wb main o.2.2) : BaC 198 wB nv tv pg wb main (.obj p l) := by
 intro n nd lv hd hn hl ind out w Fr hF H hsz hlen R hR
 rw [Ty.DenE] at hd
 obtain ⟨nl, h1, hd⟩ := hd
 rw [hn] at h1
 cases h1
 have hll := hd.len
 have hsl := Ty.szOs_len l
 rw [Ty.szE] at hsz
 rw [Ty.wE] at hlen hR
 dsimp only at hl
 have HR := qh hR
 have HLN := qh hlen
 have HS := qh H
 have HF := qh hF
 obtain ⟨la, lc, rfl⟩ := owns_slice hl
 by_cases h0 : l.length = 0
 · have k0 : ((nl.length : Int) == 0) = true := beq_iff_eq.2 (by omega)
   rw [if_pos h0] at HR HLN
   clear hR hlen H hF hE hd hn hl hll hsl hsz h0
   dsimp only [ndVal]
   go_enter Tryz.func198, Tryz.ntmps198
   go_wp2_with fail
   refine put1 ((HS.out.waste _).waste _) _ [123, 125] rfl (by have := HLN.out; omega) _ (by simp) (fun w1 h1 => ?_)
   have H1 := qh h1
   clear h1
   go_wp2_with fail
   go_end0
   exact HR.out _ H1.out
 · have k0 : ((nl.length : Int) == 0) = false := beq_eq_false_iff_ne.2 (by omega)
   rw [if_neg h0] at HR HLN
   have hln := HLN.out
   simp only [lzA, lzC, lzN] at hln
   have HLE := qh hln
   have hF3 : FrB wB (stars [stars [Fr, blk (w.heap.size + 1) (ndObj { Ty.ndOf 10 p with list := nl } (.slice la nl.length lc))], blk w.heap.size (.cells #[.pointer (some ⟨wb, 0, none⟩)] 70 (0, 0))]) := (hF.stars (M := [_])).stars (M := [_])
   have HW := qh (fun (w1 : World) (o : List UInt8) (h1 : Sat wB w1 [stars [stars [Fr, blk (w.heap.size + 1) (ndObj { Ty.ndOf 10 p with list := nl } (.slice la nl.length lc))], blk w.heap.size (.cells #[.pointer (some ⟨wb, 0, none⟩)] 70 (0, 0))], wrA wb nv tv main ind o]) (ho : o.length + (Ty.joinL [44, 32] (Ty.wOs pg.ts ind l)).length ≤ 900000000) (R : Ending → World → Prop) =>
     wlist_any (R := R) nl (.slice la nl.length lc) hl (by omega) (Ty.wOs pg.ts ind l) (by rw [Ty.wOs_map]; simp; omega) hF3 h1 273 (.pointer (some ⟨w.heap.size, 0, none⟩)) Tryz.call273
       (fun k hk hk2 o w1 hs ho R hR => by
         have hkl : k < l.length := by omega
         have e : (Ty.wOs pg.ts ind l)[k] = l[k].2.1.data.toList ++ [58, 32] ++ Ty.wE pg.ts ind l[k].2.2 := by simp [Ty.wOs_map]
         rw [e] at ho hR
         have hm : l[k] ∈ l := List.getElem_mem _
         obtain ⟨a, hda⟩ := hd.get k hkl hk
         exact object1_any hP (hE _ hm) hda (hF.stars (M := [_])) hs (by have := Ty.szOs_in hm; omega) ho hR) ho)
   have h2 := ((HS.out.allocAt (.cells #[.pointer (some ⟨wb, 0, none⟩)] 70) w.heap.size).allocAt (ndObj { Ty.ndOf 10 p with list := nl } (.slice la nl.length lc)) (w.heap.size + 1))
   have h3 := h2.box2
   have c0 := h2.cell 2 rfl 0 rfl
   have d4 := h2.cell 3 rfl 4 rfl
   have H3 := qh h3
   have HF3 := qh hF3
   clear hR hlen H hF hE hd hn hl hll hsl hsz h0 hln HLN h2 h3 hF3 hP
   dsimp only [ndVal]
   go_enter Tryz.func198, Tryz.ntmps198
   go_wp2_with fail
   refine put1 H3.out _ [123, 32] rfl (by have := HLE.out; simp only [List.length_cons, List.length_nil]; omega) _ (by simp) (fun w1 h1 => ?_)
   have h4 := h1.unbox2
   have c1 := h4.cell 2 rfl 0 rfl
   have e4 := h4.cell 3 rfl 4 rfl
   have H1 := qh h1
   clear h1 h4
   go_wp2_with fail
   refine HW.out _ _ H1.out (by have := HLE.out; simp only [lzA, lzC, lzN]; omega) _ (fun w2 h1 => ?_)
   have h4 := h1.unbox2
   have c2 := h4.cell 2 rfl 0 rfl
   have H2 := qh h1
   clear h1 h4
   go_wp2_with fail
   refine put1 H2.out _ [32, 125] rfl (by have := HLE.out; simp only [lzA, lzC, lzN]; omega) _ (by simp) (fun w3 h1 => ?_)
   have H4 := qh h1.unbox2
   clear h1
   go_wp2_with fail
   go_end0
   refine HR.out _ ?_
   rw [show out ++ ([123, 32] ++ Ty.joinL [44, 32] (Ty.wOs pg.ts ind l) ++ [32, 125]) = out ++ [123, 32] ++ Ty.joinL [44, 32] (Ty.wOs pg.ts ind l) ++ [32, 125] by simp]
   exact H4.out.pick [0, 1]
end
end
end Go.Proofs.YtdlbhiaceheffabGreatDoor
