/- Walk of bind: use of a name. -/
import Derived.Maps.OwnIn
import Derived.Test.YtdlbhiaceheffabGreatDoorY18
set_option linter.all false
set_option maxRecDepth 100000
set_option maxHeartbeats 8000000
namespace Go.Proofs.YtdlbhiaceheffabGreatDoor
section
open Go Go.RowKit
open Prt (Sat As blk pur exs star ah Hp le dis hp SatF qZ low)
open Ty (Frm Vg andX useV lookN lookF)
namespace Ty
theorem kQ : ∀ (ms : List (Frm × Nat)) (x : ByteArray), (∀ k (h : k < ms.length), lookN ms[k].1.names x = none) → lookF (ms.map Prod.fst) x = none
 | [], _, _ => rfl
 | p :: ms, x, h => by
   have h0 : lookN p.1.names x = none := h 0 (by simp)
   rw [List.map_cons, lookF, h0]
   exact kQ ms x fun k hk => h (k + 1) (by simp; omega)
theorem lX : ∀ (ms : List (Frm × Nat)) (x : ByteArray) (k : Nat) (hk : k < ms.length) (m : Nat), (∀ j (h : j < ms.length), j < k → lookN ms[j].1.names x = none) → lookN ms[k].1.names x = some m → lookF (ms.map Prod.fst) x = some m
 | [], _, k, hk, _, _, _ => absurd hk (by simp)
 | p :: ms, x, 0, _, m, _, h2 => by
   have h0 : lookN p.1.names x = some m := h2
   rw [List.map_cons, lookF, h0]
 | p :: ms, x, k + 1, hk, m, h, h2 => by
   have h0 : lookN p.1.names x = none := h 0 (by simp) (by omega)
   rw [List.map_cons, lookF, h0]
   exact lX ms x k (by simpa using hk) m (fun j hj hjk => h (j + 1) (by simp; omega) (by omega)) h2
end Ty
theorem rG {w : World} : ∀ (ms : List (Frm × Nat)) (a : Hp), gq ms a → le a (hp w) → ∀ k (h : k < ms.length), ∃ D, w.ownsMap Tryz.prog 9 (plainElem Tryz.prog 3) ms[k].2 ms[k].1.names.length D ∧ gu ms[k].1.names D
 | [], _, _, _, k, h => absurd h (by simp)
 | p :: ms, a, ha, hl, k, h => by
   obtain ⟨x, y, _, hx, hy, ⟨es, clock, g1, g2, g3, g4⟩, y1, y2, _, hy1, _, hm, _⟩ := ha
   cases k with
   | zero => exact ⟨_, ⟨es, clock, hl _ _ (hx _ _ g1), g2, g3, rfl⟩, g4⟩
   | succ k => exact rG ms y1 hm (fun j o e => hl _ _ (hy _ _ (hy1 _ _ e))) k (by simpa using h)
theorem Prt.Sat.D6 {wB w : World} {L : List As} {i : Nat} {ms : List (Frm × Nat)} (h : Sat wB w L) (hi : L[i]? = some (gq ms)) (k : Nat) (hk : k < ms.length) :
   ∃ D, w.ownsMap Tryz.prog 9 (plainElem Tryz.prog 3) ms[k].2 ms[k].1.names.length D ∧ gu ms[k].1.names D := h.get hi fun a ha hl => rG ms a ha hl k hk
theorem oW {w : World} {v : Value} {ms : List (Frm × Nat)} (hne : ms ≠ []) (h : w.ownsRow 0 195 2 v ms.length (ms.reverse.flatMap eu)) :
   ∃ g cap : Nat, v = .slice (some ⟨g, 0, none⟩) ms.length cap ∧ g < w.heap.size ∧ yt w g ms := by
 obtain ⟨g, cap, rfl, _, hg⟩ := h.form (by have := List.length_pos_iff.2 hne; omega)
 have hc := fun j u hj => World.ownsRow.cells h (g := g) rfl j u hj
 refine ⟨g, cap, rfl, hg, fun k hk => ?_⟩
 have hf := flat_get eu 2 (fun _ => rfl) ms.reverse (ms.length - 1 - k) (by simp; omega)
 have he : ms.reverse[ms.length - 1 - k]'(by simp; omega) = ms[k] := by
   rw [List.getElem_reverse]
   congr 1
   omega
 rw [he] at hf
 constructor
 · have := hc ((ms.length - 1 - k) * 2 + 0) _ (by rw [hf 0 (by omega)]; rfl)
   rwa [Addr.add_lit, Nat.zero_add] at this
 · have := hc ((ms.length - 1 - k) * 2 + 1) _ (by rw [hf 1 (by omega)]; rfl)
   rwa [Addr.add_lit, Nat.zero_add] at this
theorem kC {W W' : World} (hb : Below W.heap.size W W') (B : Nat) : KeepsFrom B W W' := ⟨hb.size, fun k o _ hk _ => (hb.block k (Array.getElem?_eq_some_iff.1 hk).1).trans hk⟩
theorem DJ {B : Nat} {w0 w : World} {P0 P2 P4 P6 : As} {bb cb n2 : Nat} {cs : Array Value} {t : TypeId} {ov : Value} {l : List (Nat × Nat)} {Φ : Dm → Prop} (hcb : cb < B)
   (h : Sat w0 w [low B P0, blk bb (.cells cs t (0, 0)), low B P2, bdA ov l, low B P4, mapA 3 4 cb n2 Φ, low B P6]) : SatF B w0 w [low B P0, blk bb (.cells cs t (0, 0)), low B P2, bdA ov l, low B P4, mapA 3 4 cb n2 Φ, low B P6] :=
 h.far fun i P hi => by
   match i with
   | 0 => cases hi; exact Prt.jA _ _
   | 1 => cases hi; exact Prt.zJ _ _ _ _ _
   | 2 => cases hi; exact Prt.jA _ _
   | 3 => cases hi; exact Prt.zM _ _ _ _ _ _
   | 4 => cases hi; exact Prt.jA _ _
   | 5 => cases hi; exact wX hcb
   | 6 => cases hi; exact Prt.jA _ _
   | i + 7 => simp at hi
theorem zo {ms : List (Frm × Nat)} {frs : List Frm} (h : ms.map Prod.fst = frs) (hp : 0 < ms.length) : Ty.topOf frs = ms[0].1.of := by
 subst h
 cases ms with
 | nil => simp at hp
 | cons p ms => rfl
theorem uI {W W' : World} {e : TypeId} {size n : Nat} {v : Value} {xs : List Value} (hrow : W.ownsRow 0 e size v n xs) (hg : W.grownBy W' v.ownBlock) (B : Nat) : KeepsFrom B W W' := by
 refine ⟨hg.size, fun k o _ hk ho => (hg.block k (Array.getElem?_eq_some_iff.1 hk).1 fun e => ?_).trans hk⟩
 rcases hrow.2 with ⟨rfl, _⟩ | ⟨g, cap, cur, rfl, _, hb, _⟩
 · cases e
 · have : g = k := by simpa [Value.ownBlock] using e.symm
   subst this
   rw [hb] at hk
   cases hk
   cases ho
attribute [local go_sem] Oper.semAt_some
section
variable {wB w : World} {Fr : As} {bb : Nat} {nv tv : Value} {pg : Ty.Pg} {main : Int} {frs : List Frm} {v : Vg} {c : Nat}
theorem use_any (hP : PB wB nv tv pg) {id : Nat} {nd : Ty.Nd} (hn : pg.ns[id]? = some nd) (set : Bool) (hF : FrB wB Fr) (H : Sat wB w [Fr, biB bb nv tv main c frs v]) (hc : c + 1 ≤ 100000) {R : Ending → World → Prop}
   (hok : ∀ v' w', useV nd.pos nd.text id set frs v = .ok v' → Sat wB w' [Fr, biB bb nv tv main (c + 1) frs v'] → R (.returned (.tuple #[])) w')
   (hbad : ∀ f w', useV nd.pos nd.text id set frs v = .error f → Sat wB w' [Fr] → R (.panicked (aI f)) w') :
   Calls Tryz.prog 214 #[.pointer (some ⟨bb, 0, none⟩), .int .i64 (id : Nat), .bool set] w R := by
 obtain ⟨nw, nc, hnw, hnc, hOk, h1⟩ := H.eQ
 obtain ⟨sv, ov, wb, cb, ms, hms, h2⟩ := h1.dV
 have hmne : ms ≠ [] := by rintro rfl; exact hOk.ne hms.symm
 have hml : ms.length ≤ 100000 := by have := hOk.len; have := congrArg List.length hms; simp at *; omega
 have hx : nd.text.size ≤ maxLen := by
   obtain ⟨_, _, _, _, _, _, _, _, _, _, hnk, _⟩ := hP.look hn
   have := hnk.size; unfold maxLen; omega
 obtain ⟨g, cap, rfl, hg, hrb⟩ := oW hmne (h2.row 2 rfl)
 have h3 := ((h2.aj (.cells #[.pointer (some ⟨bb, 0, none⟩)] 142) w.heap.size).aj (.cells #[.int .i64 (id : Nat)] 3) (w.heap.size + 1) (by simp)).aj (.cells #[.bool set] 4) (w.heap.size + 2) (by simp)
 have k0 := h3.cell 1 rfl 0 rfl
 have hbb := h3.lt 1 rfl
 (try dsimp only at k0)
 have H3 := qh h3
 have HOK := qh hok
 have HBAD := qh hbad
 have HF := qh hF
 have HRB := qh hrb
 clear hok hbad hF H h1 h2 h3 hrb
 refine callsIn_wide (n := 3) |>.1 ?_
 refine callsIn_of_wp_marks Tryz.func214 rfl trivial ?_ rfl
 simp only [Tryz.ntmps214, List.size_toArray, List.length_cons, List.length_nil, Nat.reduceAdd, Nat.reduceSub, Array.replicate_succ, Array.replicate_zero, List.push_toArray, List.append_toArray, List.nil_append, List.cons_append]
 gi_wp2_with fail
 refine ⟨trivial, callsIn_wide.2 (bH hP (HF.out _ _ 0 H3.out rfl) hn k0 hbb (fun lv w2 hb2 hl2 => ?_))⟩
 obtain ⟨la, lc, rfl⟩ := ag hl2
 unfold aB
 have h4 := (H3.out.below hb2).aj (nbO nd (.slice la nd.list.length lc)) w2.heap.size
 have y0 := (H3.out.below hb2).cell 7 rfl 0 rfl
 have y1 := (H3.out.below hb2).cell 8 rfl 0 rfl
 have y2 := (H3.out.below hb2).cell 9 rfl 0 rfl
 have hy0 := (H3.out.below hb2).lt 7 rfl
 have hy1 := (H3.out.below hb2).lt 8 rfl
 have hy2 := (H3.out.below hb2).lt 9 rfl
 have c3 := (H3.out.below hb2).cell 1 rfl 3 rfl
 have hb3 := (H3.out.below hb2).lt 1 rfl
 have H4 := qh h4
 clear h4 hb2 hl2 H3 k0 hbb
 gi_wp2_with fail
 refine ⟨trivial, (BB Fence.wide 2 trivial rfl _ _ _ _).mono ?_⟩
 rintro e w3 ⟨rfl, rfl⟩
 gi_wp2_with fail
 have h5 : Sat wB ((w2.alloc (.cells #[.int .i64 nd.kind, .int .i64 nd.a, .int .i64 nd.b, .int .i64 nd.c, .slice la nd.list.length lc, .string nd.text, .int .i64 nd.n, .int .i64 nd.ty, .int .i64 nd.pos] 66)).alloc (.cells #[.slice (some ⟨g, 0, none⟩) ms.length cap] 143)) _ := (H4.out.aj (.cells #[.slice (some ⟨g, 0, none⟩) ms.length cap] 143) (w2.heap.size + 1) (by simp))
 have hB2 : Below w2.heap.size w2 ((w2.alloc (.cells #[.int .i64 nd.kind, .int .i64 nd.a, .int .i64 nd.b, .int .i64 nd.c, .slice la nd.list.length lc, .string nd.text, .int .i64 nd.n, .int .i64 nd.ty, .int .i64 nd.pos] 66)).alloc (.cells #[.slice (some ⟨g, 0, none⟩) ms.length cap] 143)) := ((Below.refl _ _).alloc (Nat.le_refl _) _).alloc (by simp) _
 have hW1 : ((w2.alloc (.cells #[.int .i64 nd.kind, .int .i64 nd.a, .int .i64 nd.b, .int .i64 nd.c, .slice la nd.list.length lc, .string nd.text, .int .i64 nd.n, .int .i64 nd.ty, .int .i64 nd.pos] 66)).alloc (.cells #[.slice (some ⟨g, 0, none⟩) ms.length cap] 143)).heap.size = w2.heap.size + 2 := by simp
 generalize (w2.alloc (.cells #[.int .i64 nd.kind, .int .i64 nd.a, .int .i64 nd.b, .int .i64 nd.c, .slice la nd.list.length lc, .string nd.text, .int .i64 nd.n, .int .i64 nd.ty, .int .i64 nd.pos] 66)).alloc (.cells #[.slice (some ⟨g, 0, none⟩) ms.length cap] 143) = W1 at h5 hB2 hW1 ⊢
 obtain ⟨g', cap', e, hg', hrb⟩ := oW hmne (h5.row 2 rfl)
 cases e
 have hbx := h5.cell 11 rfl 0 rfl
 have hl5 : Sat wB W1 [low W1.heap.size Fr, blk bb (biO nv tv main (.slice (some ⟨g, 0, none⟩) ms.length cap) ov wb cb), low W1.heap.size (scA (.slice (some ⟨g, 0, none⟩) ms.length cap) ms), bdA ov v.out, low W1.heap.size (mapA 3 3 wb nw (dE v.wi)), mapA 3 4 cb nc (bP v.ca), low W1.heap.size (gq ms),
   blk w.heap.size (.cells #[.pointer (some ⟨bb, 0, none⟩)] 142 (0, 0)), blk (w.heap.size + 1) (.cells #[.int .i64 (id : Nat)] 3 (0, 0)), blk (w.heap.size + 2) (.cells #[.bool set] 4 (0, 0)), blk w2.heap.size (nbO nd (.slice la nd.list.length lc))] :=
   (((((((h5.E8 (Nat.le_refl _)).ent (i := 1) rfl (fun _ h => h.1)).ent (i := 3) rfl (fun _ h => h.1)).ent (i := 5) rfl (fun _ h => h.1)).ent (i := 7) rfl (fun _ h => h.1)).ent (i := 8) rfl (fun _ h => h.1)).ent (i := 9) rfl (fun _ h => h.1)).ent (i := 10) rfl (fun _ h => h.1) |>.pick [0, 1, 2, 3, 4, 5, 6, 7, 8, 9, 10]
 have HL5 := qh hl5
 clear hl5
 have hcbB := h5.EH 5 rfl
 have H5 := qh h5
 have HRB1 := qh hrb
 have HHB := qh hbx
 have HZ : Hid (∀ W : World, (zeroValue 3).run Tryz.prog W = .ok (.int .i64 0) W) := fun W => by simp [zeroValue, go_sem]; rfl
 clear h5 hrb hbx y0 y1 y2 hy0 hy1 hy2 c3 hb3
 refine wpIn_rangeFunc_ownH (α := Fin ms.length) rfl (by omega) (gf := 321) (lb := #[.pointer (some ⟨w2.heap.size + 1, 0, none⟩)]) rfl trivial (enters_of Tryz.func321 (by kernel_rfl) rfl)
   (sS Fence.wide 2 trivial rfl (by omega) (w2.heap.size + 1) W1.heap.size g cap ms (by omega) W1 (by omega) hg' (Nat.le_refl _) HHB.out HRB1.out) belowK_t (belowK_b (Nat.le_refl _)) (Below.refl _ _) (fun _ => rfl)
   (fun pre W => Below W1.heap.size W1 W ∧ ∀ k ∈ pre, lookN ms[k.1].1.names nd.text = none)
   (fun q pre W => q = .ret ∧ ∃ (ini : List (Fin ms.length)) (last : Fin ms.length) (m : Nat) (ov' : Value) (nc' : Nat), pre = ini ++ [last] ∧ (∀ k ∈ ini, lookN ms[k.1].1.names nd.text = none) ∧ lookN ms[last.1].1.names nd.text = some m ∧ nc' ≤ nc + 1 ∧
     SatF W1.heap.size wB W [low W1.heap.size Fr, blk bb (biO nv tv main (.slice (some ⟨g, 0, none⟩) ms.length cap) ov' wb cb), low W1.heap.size (scA (.slice (some ⟨g, 0, none⟩) ms.length cap) ms), bdA ov' (v.out ++ [(id, m)]), low W1.heap.size (mapA 3 3 wb nw (dE v.wi)),
       mapA 3 4 cb nc' (bP (if set && decide ((v.wi m).getD 0 ≠ Ty.topOf frs) then fun k => if k = m then true else v.ca k else v.ca)), low W1.heap.size (gq ms)])
   (OwnFrom.and (ownFrom_below (Nat.le_refl _) (Nat.le_refl _)) (ownFrom_pure _ _))
   (fun q pre A B row hs hg hr => by
     obtain ⟨e1, ini, last, m, ov', nc', e2, e3, e4, e5, e6⟩ := hs
     exact ⟨e1, ini, last, m, ov', nc', e2, e3, e4, e5, e6.turn hg hr⟩)
   ⟨Below.refl _ _, by simp⟩
   (fun x a' W => ∃ Bx, W1.heap.size ≤ Bx ∧ Bx < W.heap.size ∧ W.cell? ⟨Bx, 0, none⟩ = some (.map (some ms[x.1].2)) ∧ W.cell? ⟨Bx, 1, none⟩ = some (.int .i64 ms[x.1].1.of) ∧ a' = { tmps := #[.pointer (some ⟨bb, 0, none⟩), .int .i64 (id : Nat), .bool set, .pointer (some ⟨w.heap.size, 0, none⟩), .pointer (some ⟨w.heap.size + 1, 0, none⟩), .pointer (some ⟨w.heap.size + 1 + 1, 0, none⟩), .pointer (some ⟨w2.heap.size, 0, none⟩), undef, .pointer (some ⟨Bx, 0, none⟩), undef, undef, .pointer (some ⟨bb, 0, none⟩), .int .i64 (id : Nat), .agg #[.int .i64 nd.kind, .int .i64 nd.a, .int .i64 nd.b, .int .i64 nd.c, .slice la nd.list.length lc, .string nd.text, .int .i64 nd.n, .int .i64 nd.ty, .int .i64 nd.pos], .pointer (some ⟨bb, 0, none⟩), .pointer (some ⟨bb, 0, none⟩), .pointer (some ⟨bb, 3, none⟩), .slice (some ⟨g, 0, none⟩) ms.length cap, .func (.func 321) #[] #[.pointer (some ⟨w2.heap.size + 1, 0, none⟩)], .int .i64 ((ms.length : Int) - 1 - (x.1 : Int)), .agg #[.map (some ms[x.1].2), .int .i64 ms[x.1].1.of], undef, undef, undef, undef, undef, undef, undef, undef, undef, undef, undef, undef, undef, undef, undef, undef, undef, undef, undef, undef, undef, undef, undef, undef, undef, undef, undef, undef, undef, undef, undef, undef, undef, undef, undef, undef, undef, undef, undef, undef, undef, undef, undef], defers := [] })
   (fun x a' u A B row hs hg hr => by
     obtain ⟨Bx, e1, e2, e3, e4, e5⟩ := hs
     exact ⟨Bx, e1, Nat.lt_of_lt_of_le e2 hg.size, cell_kept e3 hg (fun r e => (hr r e).2), cell_kept e4 hg (fun r e => (hr r e).2), e5⟩)
   ?assign ?body ?done ?stop
 case assign =>
   rintro l pre x W K ⟨hB, hpre⟩ hK
   unfold Cm
   gi_wp2
   exact hK _ _ ((KeepsOthers.alloc _ _).from _) ((Below.refl _ W).alloc hB.size _) ⟨hB.alloc hB.size _, hpre⟩ ⟨W.heap.size, hB.size, by simp, by simp, by simp, rfl⟩
 case body =>
   rintro l pre x a' W hl ⟨r, hr⟩ ⟨hB, hpre⟩ ⟨Bx, hBx, hBl, hx0, hx1, rfl⟩ hlt
   have h6 := HL5.out.below hB
   obtain ⟨D, hD, hDn⟩ := (h6.ent (i := 6) rfl (Q := gq ms) (fun _ h => h.1)).D6 (i := 6) rfl x.1 x.2
   obtain ⟨u, ps, hrun, hu⟩ := hD.look_ok l7 Tryz.underlying193 (HZ.out W) (plainElem_int Tryz.underlying3 (by decide)) (WideMaps.keyOf_string_mk Tryz.underlying9 hx)
   obtain ⟨cc, rfl, hcc, hwf⟩ := plainElem_int_inv Tryz.underlying3 hu
   rw [(hDn.2 nd.text).1] at hrun
   have x5 := h6.cell 10 rfl 5 rfl
   have hwB := hB.size
   cases hq : lookN ms[x.1].1.names nd.text with
   | none =>
     rw [hq] at hrun
     have HQ := qh hq
     clear hq h6 hD hDn hu
     gi_wp2
     refine ⟨KeepsFrom.refl _ _, Below.refl _ _, hB, fun k hk => ?_⟩
     rcases List.mem_append.1 hk with hk | hk
     · exact hpre k hk
     · rw [List.mem_singleton.1 hk]; exact HQ.out
   | some m =>
     rw [hq] at hrun
     have hm := (hDn.2 nd.text).2 m hq
     have hcm : cc = (m : Int) := by
       have := congrArg Prod.fst hcc
       dsimp only at this
       rw [hm] at this
       cases this; rfl
     subst hcm
     have HQ := qh hq
     have H6 := qh h6
     clear hq h6 hD hDn hu hcc hm
     gi_wp2
     have z0 := H6.out.drew.cell 7 rfl 0 rfl
     have z1 := H6.out.drew.cell 8 rfl 0 rfl
     have hS : W.drew.cell? ⟨w.heap.size, 0, none⟩ = some (.pointer (some ⟨bb, 0, none⟩)) ∧ W.drew.cell? ⟨w.heap.size + 1, 0, none⟩ = some (.int .i64 (id : Nat)) := ⟨z0, z1⟩
     refine eP (S := fun w' => w'.cell? ⟨w.heap.size, 0, none⟩ = some (.pointer (some ⟨bb, 0, none⟩)) ∧ w'.cell? ⟨w.heap.size + 1, 0, none⟩ = some (.int .i64 (id : Nat))) (by kernel_rfl) (fun _ _ h => h) (oU (by kernel_rfl)) ?_
     refine tkL 0 ?_ rfl (by kernel_rfl) (fun _ _ _ h => h) (by rfl) ?_ hS ?_
     rotate_left
     · intro w' hSw; obtain ⟨s0, s1⟩ := hSw; go_simp; with_reducible rfl
     simp only [Act.put, lyA, lyB, lyC, lyD, lyE, lyF]
     refine tkL 1 ?_ rfl (by kernel_rfl) (fun _ _ _ h => h) (by rfl) ?_ hS ?_
     rotate_left
     · intro w' hSw; obtain ⟨s0, s1⟩ := hSw; go_simp; with_reducible rfl
     simp only [Act.put, lyA, lyB, lyC, lyD, lyE, lyF]
     refine tkL 2 ?_ rfl (by kernel_rfl) (fun _ _ _ h => h) (by rfl) ?_ hS ?_
     rotate_left
     · intro w' hSw; obtain ⟨s0, s1⟩ := hSw; go_simp; with_reducible rfl
     simp only [Act.put, lyA, lyB, lyC, lyD, lyE, lyF]
     refine tkL 3 ?_ rfl (by kernel_rfl) (fun _ _ _ h => h) (by rfl) ?_ hS ?_
     rotate_left
     · intro w' hSw; obtain ⟨s0, s1⟩ := hSw; go_simp; with_reducible rfl
     simp only [Act.put, lyA, lyB, lyC, lyD, lyE, lyF]
     refine tkL 5 ?_ rfl (by kernel_rfl) (fun _ _ _ h => h) (by rfl) ?_ hS ?_
     rotate_left
     · intro w' hSw; obtain ⟨s0, s1⟩ := hSw; go_simp; with_reducible rfl
     simp only [Act.put, lyA, lyB, lyC, lyD, lyE, lyF]
     refine tkL 6 ?_ rfl (by kernel_rfl) (fun _ _ _ h => h) (by rfl) ?_ hS ?_
     rotate_left
     · intro w' hSw; obtain ⟨s0, s1⟩ := hSw; go_simp; with_reducible rfl
     simp only [Act.put, lyA, lyB, lyC, lyD, lyE, lyF]
     refine tkL 7 ?_ rfl (by kernel_rfl) (fun _ _ _ h => h) (by rfl) ?_ hS ?_
     rotate_left
     · intro w' hSw; obtain ⟨s0, s1⟩ := hSw; go_simp; with_reducible rfl
     simp only [Act.put, lyA, lyB, lyC, lyD, lyE, lyF]
     obtain ⟨oa, oc, rfl⟩ := ag (H6.out.row 3 rfl)
     obtain ⟨i0, ti, tz0, tz1, tz2⟩ := info_parts nO
     have hol := hOk.out
     have c2 := H6.out.drew.cell 1 rfl 4 rfl
     have c2' := H6.out.cell 1 rfl 4 rfl
     have hbl := H6.out.lt 1 rfl
     have hwl := H6.out.lt 7 rfl
     have hnl := H6.out.lt 8 rfl
     have hSa := fun o => (show (W.drew.alloc o).cell? ⟨w.heap.size, 0, none⟩ = some (.pointer (some ⟨bb, 0, none⟩)) ∧ (W.drew.alloc o).cell? ⟨w.heap.size + 1, 0, none⟩ = some (.int .i64 (id : Nat)) from ⟨(H6.out.drew.ay o).cell 7 rfl 0 rfl, (H6.out.drew.ay o).cell 8 rfl 0 rfl⟩)
     refine wpAnyH_ready (rs := [4, 8]) (by kernel_rfl) (by simp) ?_
     refine AllReadyH.cons rfl (fun K hK => ?_) (AllReadyH.cons rfl (fun K hK => ?_) AllReadyH.nil)
     all_goals go_simp
     refine hK.out _ _ hS (fun hHeld => ?_)
     rotate_left
     refine hK.out _ _ (hSa _) (fun hHeld => ?_)
     rotate_left
     all_goals clear hK K hHeld
     refine wpAnyH_ready (rs := [8]) (by kernel_rfl) (by simp) ?_
     rotate_left
     refine wpAnyH_ready (rs := [4]) (by kernel_rfl) (by simp) ?_
     rotate_left
     all_goals refine AllReadyH.cons rfl (fun K hK => ?_) AllReadyH.nil
     all_goals go_simp
     all_goals refine hK.out _ _ (hSa _) (fun hHeld => ?_)
     all_goals clear hK K hHeld
     all_goals
       refine wpAnyH_ready (rs := [9]) (by kernel_rfl) (by simp) ?_
       refine AllReadyH.cons rfl (fun K hK => ?_) AllReadyH.nil
       refine step_append_lies _ (by rfl) _ _ _ (by rfl) 0 43 i0 _ 2 16 Tryz.underlying36 ti tz0 tz1 tz2 rfl (by omega) (.slice oa v.out.length oc) v.out.length (v.out.flatMap dD) (by rfl) ((H6.out.drew.row 3 rfl).alloc _) ⟨W.heap.size, 0, none⟩ 1 1 [.int .i64 (id : Nat), .int .i64 (m : Nat)] (by rfl) (by rfl) (World.news_of_block (cs := #[.int .i64 (id : Nat), .int .i64 (m : Nat)]) (t := 43) (fr := (0, 0)) (ak _ _ _ (by simp))) (by simp [Value.oneCell']) (by omega) (by unfold maxLen; omega) (by omega) (by simp) (W.heap.size + 1) (by simp) ?_
       intro g8 cap8 w8 hown8 hgrow8 hat8 hlt8
       have h8 := Prt.Sat.grow (H6.out.drew.ay _) 3 rfl hgrow8 hown8 (by simpa using hat8)
       have hS8 : w8.cell? ⟨w.heap.size, 0, none⟩ = some (.pointer (some ⟨bb, 0, none⟩)) ∧ w8.cell? ⟨w.heap.size + 1, 0, none⟩ = some (.int .i64 (id : Nat)) := ⟨h8.cell 7 rfl 0 rfl, h8.cell 8 rfl 0 rfl⟩
       have d4 := h8.cell 1 rfl 4 rfl
       have e4 := h8.free 1 rfl 4
       have H8 := qh h8
       have HG8 := qh hgrow8
       clear h8 hown8 hgrow8 hat8
       refine hK.out _ _ hS8 (fun hHeld => ?_)
       clear hK K hHeld
       (try simp only [Act.put, lyA, lyB, lyC, lyD, lyE, lyF])
       refine tkL 10 ?_ rfl (by kernel_rfl) (fun _ _ _ h => h) (by rfl) ?_ hS8 ?_
       rotate_left
       · intro w' hSw; obtain ⟨s0, s1⟩ := hSw; go_simp; with_reducible rfl
       simp only [Act.put, lyA, lyB, lyC, lyD, lyE, lyF]
       refine tkL 11 ?_ rfl (by kernel_rfl) (fun _ _ _ h => h) (by rfl) ?_ hS8 ?_
       rotate_left
       · intro w' hSw; obtain ⟨s0, s1⟩ := hSw; go_simp; with_reducible rfl
       simp only [Act.put, lyA, lyB, lyC, lyD, lyE, lyF]
       refine wpAnyH_ready (rs := [12]) (by kernel_rfl) (by simp) ?_
       refine AllReadyH.cons rfl (fun K hK => ?_) AllReadyH.nil
       go_simp
       have h9 := H8.out.store 1 rfl 4 (.slice (some ⟨g8, 0, none⟩) (v.out.length + 1) cap8)
       refine hK.out _ _ ⟨h9.cell 7 rfl 0 rfl, h9.cell 8 rfl 0 rfl⟩ (fun hHeld => ?_)
       clear hK K hHeld
       refine wpAnyH_done (by kernel_rfl) ?_ _
       have h10 := h9.ent (i := 3) rfl (Q := bdA (.slice (some ⟨g8, 0, none⟩) (v.out.length + 1) cap8) (v.out ++ [(id, m)])) (fun _ h => lU h)
       have hKP : KeepsFrom W1.heap.size W (w8.setCell ⟨bb, 4, none⟩ (.slice (some ⟨g8, 0, none⟩) (v.out.length + 1) cap8)) := ((((KeepsOthers.drew W).trans (KeepsOthers.alloc _ _)).from _).trans (uI ((H6.out.drew.row 3 rfl).alloc _) HG8.out _)).trans ((KeepsOthers.setCell _ _ _).from _)
       have H10 := qh h10
       have HKP := qh hKP
       clear h9 h10 hKP H8 HG8 hS8 d4 e4
       generalize w8.setCell ⟨bb, 4, none⟩ (.slice (some ⟨g8, 0, none⟩) (v.out.length + 1) cap8) = w9 at H10 HKP ⊢
       gi_wp2
       clear hS hSa c2 c2' hbl hwl hnl z0 z1 hx0 hx1 hrun H6 x5
       cases set
       · have hS7 : w9.drew.cell? ⟨w.heap.size + 1 + 1, 0, none⟩ = some (.bool false) ∧ True := ⟨H10.out.drew.cell 9 rfl 0 rfl, trivial⟩
         refine eP (S := fun w' => w'.cell? ⟨w.heap.size + 1 + 1, 0, none⟩ = some (.bool false) ∧ True) (by kernel_rfl) (fun _ _ h => h) (oU (by kernel_rfl)) ?_
         refine tkL 0 ?_ rfl (by kernel_rfl) (fun _ _ _ h => h) (by rfl) ?_ hS7 ?_
         rotate_left
         · intro w' hSw; obtain ⟨s0, _⟩ := hSw; go_simp; with_reducible rfl
         simp only [Act.put, lyA, lyB, lyC, lyD, lyE, lyF]
         refine tkL 1 ?_ rfl (by kernel_rfl) (fun _ _ _ h => h) (by rfl) ?_ hS7 ?_
         rotate_left
         · intro w' hSw; obtain ⟨s0, _⟩ := hSw; go_simp; with_reducible rfl
         simp only [Act.put, lyA, lyB, lyC, lyD, lyE, lyF]
         refine wpAnyH_take (i := 2) (v := undef) rfl (by kernel_rfl) (by kernel_rfl) (by kernel_rfl) (fun _ _ _ h => h) (Or.inr ⟨by kernel_rfl, rfl⟩) hS7 ?_
         simp only [Act.put, lyA, lyB, lyC, lyD, lyE, lyF]
         refine wpAnyH_take (i := 3) (v := undef) rfl (by kernel_rfl) (by kernel_rfl) (by kernel_rfl) (fun _ _ _ h => h) (Or.inr ⟨by kernel_rfl, rfl⟩) hS7 ?_
         simp only [Act.put, lyA, lyB, lyC, lyD, lyE, lyF]
         refine wpAnyH_take (i := 4) (v := undef) rfl (by kernel_rfl) (by kernel_rfl) (by kernel_rfl) (fun _ _ _ h => h) (Or.inr ⟨by kernel_rfl, rfl⟩) hS7 ?_
         simp only [Act.put, lyA, lyB, lyC, lyD, lyE, lyF]
         refine wpAnyH_take (i := 5) (v := undef) rfl (by kernel_rfl) (by kernel_rfl) (by kernel_rfl) (fun _ _ _ h => h) (Or.inr ⟨by kernel_rfl, rfl⟩) hS7 ?_
         simp only [Act.put, lyA, lyB, lyC, lyD, lyE, lyF]
         refine wpAnyH_take (i := 6) (v := undef) rfl (by kernel_rfl) (by kernel_rfl) (by kernel_rfl) (fun _ _ _ h => h) (Or.inr ⟨by kernel_rfl, rfl⟩) hS7 ?_
         simp only [Act.put, lyA, lyB, lyC, lyD, lyE, lyF]
         refine wpAnyH_take (i := 7) (v := undef) rfl (by kernel_rfl) (by kernel_rfl) (by kernel_rfl) (fun _ _ _ h => h) (Or.inr ⟨by kernel_rfl, rfl⟩) hS7 ?_
         simp only [Act.put, lyA, lyB, lyC, lyD, lyE, lyF]
         refine wpAnyH_take (i := 8) (v := undef) rfl (by kernel_rfl) (by kernel_rfl) (by kernel_rfl) (fun _ _ _ h => h) (Or.inr ⟨by kernel_rfl, rfl⟩) hS7 ?_
         simp only [Act.put, lyA, lyB, lyC, lyD, lyE, lyF]
         refine wpAnyH_take (i := 9) (v := undef) rfl (by kernel_rfl) (by kernel_rfl) (by kernel_rfl) (fun _ _ _ h => h) (Or.inr ⟨by kernel_rfl, rfl⟩) hS7 ?_
         simp only [Act.put, lyA, lyB, lyC, lyD, lyE, lyF]
         refine wpAnyH_take (i := 10) (v := undef) rfl (by kernel_rfl) (by kernel_rfl) (by kernel_rfl) (fun _ _ _ h => h) (Or.inr ⟨by kernel_rfl, rfl⟩) hS7 ?_
         simp only [Act.put, lyA, lyB, lyC, lyD, lyE, lyF]
         refine wpAnyH_take (i := 11) (v := undef) rfl (by kernel_rfl) (by kernel_rfl) (by kernel_rfl) (fun _ _ _ h => h) (Or.inr ⟨by kernel_rfl, rfl⟩) hS7 ?_
         simp only [Act.put, lyA, lyB, lyC, lyD, lyE, lyF]
         refine tkL 12 ?_ rfl (by kernel_rfl) (fun _ _ _ h => h) (by rfl) ?_ hS7 ?_
         rotate_left
         · intro w' hSw; obtain ⟨s0, _⟩ := hSw; go_simp; with_reducible rfl
         simp only [Act.put, lyA, lyB, lyC, lyD, lyE, lyF]
         refine wpAnyH_done (by kernel_rfl) ?_ _
         gi_wp2
         exact ⟨HKP.out.trans ((KeepsOthers.drew _).from _), rfl, pre, x, m, .slice (some ⟨g8, 0, none⟩) (v.out.length + 1) cap8, nc, rfl, hpre, HQ.out, by omega, DJ hcbB (H10.out.drew.pick [0, 1, 2, 3, 4, 5, 6])⟩
       · have hmp : 0 < ms.length := List.length_pos_iff.2 hmne
         have hLK : ∀ (w' : World) (L' : List As), Sat wB w' L' → L'[4]? = some (low W1.heap.size (mapA 3 3 wb nw (dE v.wi))) → (Instr.lookup 102 (.map (some wb)) (.int .i64 (m : Nat)) false).run Tryz.prog w' = .ok (.int .i64 ((v.wi m).getD 0)) w' := fun w' L' hs hi => by
           obtain ⟨D, hD, hDn⟩ := (hs.ent (i := 4) hi (Q := mapA 3 3 wb nw (dE v.wi)) (fun _ h => h.1)).jr 4 (by rw [List.getElem?_set_self (Sat.kG hi)])
           obtain ⟨cw, hrun, hat, _⟩ := hD.lookup_int iH Tryz.underlying102 Tryz.underlying3 (HZ.out w') (Maps.keyOf_int_mk Tryz.underlying3 hwf)
           rw [hDn.2 m] at hat
           cases hat
           exact hrun
         have HLK := qh hLK
         have h11 := H10.out.drew
         obtain ⟨g2, cap2, e2, hg2, hrb2⟩ := oW hmne ((h11.ent (i := 2) rfl (Q := scA (.slice (some ⟨g, 0, none⟩) ms.length cap) ms) (fun _ h => h.1)).row 2 rfl)
         cases e2
         obtain ⟨d0, d1⟩ := hrb2 0 hmp
         have c3 : w9.drew.cell? ⟨bb, 3, none⟩ = some (.slice (some ⟨g, 0, none⟩) (ms.length - 1 + 1) cap) := by rw [Nat.sub_add_cancel hmp]; exact h11.cell 1 rfl 3 rfl
         have hbb9 := h11.lt 1 rfl
         have hlk9 := hLK _ _ h11 rfl
         have hS7 : w9.drew.cell? ⟨w.heap.size + 1 + 1, 0, none⟩ = some (.bool true) ∧ w9.drew.cell? ⟨w.heap.size, 0, none⟩ = some (.pointer (some ⟨bb, 0, none⟩)) ∧ w9.drew.cell? ⟨bb, 5, none⟩ = some (.map (some wb)) ∧ (Instr.lookup 102 (.map (some wb)) (.int .i64 (m : Nat)) false).run Tryz.prog w9.drew = .ok (.int .i64 ((v.wi m).getD 0)) w9.drew := ⟨h11.cell 9 rfl 0 rfl, h11.cell 7 rfl 0 rfl, h11.cell 1 rfl 5 rfl, hlk9⟩
         have f1 := lG ms[0].2 ms[0].1.of
         have HTOP := qh (zo hms hmp)
         clear hLK h11 hrb2 hlk9
         refine eP (S := fun w' => w'.cell? ⟨w.heap.size + 1 + 1, 0, none⟩ = some (.bool true) ∧ w'.cell? ⟨w.heap.size, 0, none⟩ = some (.pointer (some ⟨bb, 0, none⟩)) ∧ w'.cell? ⟨bb, 5, none⟩ = some (.map (some wb)) ∧ (Instr.lookup 102 (.map (some wb)) (.int .i64 (m : Nat)) false).run Tryz.prog w' = .ok (.int .i64 ((v.wi m).getD 0)) w') (by kernel_rfl) (fun _ _ h => h) (oU (by kernel_rfl)) ?_
         refine tkL 0 ?_ rfl (by kernel_rfl) (fun _ _ _ h => h) (by rfl) ?_ hS7 ?_
         rotate_left
         · intro w' hSw; obtain ⟨s0, s1, s2, s3⟩ := hSw; go_simp; with_reducible rfl
         simp only [Act.put, lyA, lyB, lyC, lyD, lyE, lyF]
         refine tkL 1 ?_ rfl (by kernel_rfl) (fun _ _ _ h => h) (by rfl) ?_ hS7 ?_
         rotate_left
         · intro w' hSw; obtain ⟨s0, s1, s2, s3⟩ := hSw; go_simp; with_reducible rfl
         simp only [Act.put, lyA, lyB, lyC, lyD, lyE, lyF]
         refine tkL 2 ?_ rfl (by kernel_rfl) (fun _ _ _ h => h) (by rfl) ?_ hS7 ?_
         rotate_left
         · intro w' hSw; obtain ⟨s0, s1, s2, s3⟩ := hSw; go_simp; with_reducible rfl
         simp only [Act.put, lyA, lyB, lyC, lyD, lyE, lyF]
         refine tkL 3 ?_ rfl (by kernel_rfl) (fun _ _ _ h => h) (by rfl) ?_ hS7 ?_
         rotate_left
         · intro w' hSw; obtain ⟨s0, s1, s2, s3⟩ := hSw; go_simp; with_reducible rfl
         simp only [Act.put, lyA, lyB, lyC, lyD, lyE, lyF]
         refine tkL 4 ?_ rfl (by kernel_rfl) (fun _ _ _ h => h) (by rfl) ?_ hS7 ?_
         rotate_left
         · intro w' hSw; obtain ⟨s0, s1, s2, s3⟩ := hSw; go_simp; with_reducible rfl
         simp only [Act.put, lyA, lyB, lyC, lyD, lyE, lyF]
         refine tkL 5 ?_ rfl (by kernel_rfl) (fun _ _ _ h => h) (by rfl) ?_ hS7 ?_
         rotate_left
         · intro w' hSw; obtain ⟨s0, s1, s2, s3⟩ := hSw; go_simp; with_reducible rfl
         simp only [Act.put, lyA, lyB, lyC, lyD, lyE, lyF]
         refine tkL 6 ?_ rfl (by kernel_rfl) (fun _ _ _ h => h) (by rfl) ?_ hS7 ?_
         rotate_left
         · intro w' hSw; obtain ⟨s0, s1, s2, s3⟩ := hSw; go_simp; with_reducible rfl
         simp only [Act.put, lyA, lyB, lyC, lyD, lyE, lyF]
         refine tkL 7 ?_ rfl (by kernel_rfl) (fun _ _ _ h => h) (by rfl) ?_ hS7 ?_
         rotate_left
         · intro w' hSw; obtain ⟨s0, s1, s2, s3⟩ := hSw; go_simp; with_reducible rfl
         simp only [Act.put, lyA, lyB, lyC, lyD, lyE, lyF]
         refine tkL 8 ?_ rfl (by kernel_rfl) (fun _ _ _ h => h) (by rfl) ?_ hS7 ?_
         rotate_left
         · intro w' hSw; obtain ⟨s0, s1, s2, s3⟩ := hSw; go_simp; with_reducible rfl
         simp only [Act.put, lyA, lyB, lyC, lyD, lyE, lyF]
         refine wpAnyH_ready (rs := [9]) (by kernel_rfl) (by simp) ?_
         refine AllReadyH.cons rfl (fun K hK => ?_) AllReadyH.nil
         go_simp
         refine jC (k := ms.length - 1) c3 d0 d1 hbb9 hg2 (by omega) (fun w10 hb10 => ?_)
         have h12 := H10.out.drew.below hb10
         refine hK.out _ _ ⟨h12.cell 9 rfl 0 rfl, h12.cell 7 rfl 0 rfl, h12.cell 1 rfl 5 rfl, HLK.out _ _ h12 rfl⟩ (fun hS7 => ?_)
         clear hK K
         (try simp only [Act.put, lyA, lyB, lyC, lyD, lyE, lyF])
         have HB10 := qh hb10
         have u7 := h12.cell 7 rfl 0 rfl
         have u6 := h12.cell 1 rfl 6 rfl
         have H12 := qh h12
         clear h12 hb10 c3 d0 d1 hbb9 hg2
         cases kk : ((v.wi m).getD 0 != ms[0].1.of)
         all_goals
           refine tkL 10 ?_ rfl (by kernel_rfl) (fun _ _ _ h => h) (by rfl) ?_ hS7 ?_
           rotate_left
           · intro w' hSw; obtain ⟨s0, s1, s2, s3⟩ := hSw; go_simp; with_reducible rfl
           simp only [Act.put, lyA, lyB, lyC, lyD, lyE, lyF]
           refine tkL 11 ?_ rfl (by kernel_rfl) (fun _ _ _ h => h) (by rfl) ?_ hS7 ?_
           rotate_left
           · intro w' hSw; obtain ⟨s0, s1, s2, s3⟩ := hSw; go_simp; with_reducible rfl
           simp only [Act.put, lyA, lyB, lyC, lyD, lyE, lyF]
           refine tkL 12 ?_ rfl (by kernel_rfl) (fun _ _ _ h => h) (by rfl) ?_ hS7 ?_
           rotate_left
           · intro w' hSw; obtain ⟨s0, s1, s2, s3⟩ := hSw; go_simp; with_reducible rfl
           simp only [Act.put, lyA, lyB, lyC, lyD, lyE, lyF]
           refine wpAnyH_done (by kernel_rfl) ?_ _
         · gi_wp2
           have hca : (if (true && decide ((v.wi m).getD 0 ≠ Ty.topOf frs)) = true then fun k => if k = m then true else v.ca k else v.ca) = v.ca := by
             rw [HTOP.out]; simp at kk; simp [kk]
           exact ⟨(HKP.out.trans ((KeepsOthers.drew _).from _)).trans (kC HB10.out _), rfl, pre, x, m, .slice (some ⟨g8, 0, none⟩) (v.out.length + 1) cap8, nc, rfl, hpre, HQ.out, by omega, by rw [hca]; exact DJ hcbB (H12.out.pick [0, 1, 2, 3, 4, 5, 6])⟩
         · obtain ⟨Dc, hDc, hDcn⟩ := H12.out.jr 5 rfl
           gi_wp2_with (gi_at_mapUpdate; go_loud (refine wpListIn_mapUpdate_own _ rfl _ _ _ 89 rfl 3 4 iH Tryz.underlying89 _ cb nc Dc rfl hDc (by unfold maxLen; omega) _ _ _ rfl rfl (Maps.keyOf_int_mk Tryz.underlying3 hwf) _ [] (plainElem_bool Tryz.underlying4 true) ?_); intro w13 hown13 hgrow13)
           have h13 := H12.out.oz 5 rfl hgrow13 hown13 (Ψ := bP (fun k => if k = m then true else v.ca k)) (qQ hDcn m _)
           have hca : (if (true && decide ((v.wi m).getD 0 ≠ Ty.topOf frs)) = true then fun k => if k = m then true else v.ca k else v.ca) = (fun k => if k = m then true else v.ca k) := by
             rw [HTOP.out]; simp at kk; simp [kk]
           exact ⟨((HKP.out.trans ((KeepsOthers.drew _).from _)).trans (kC HB10.out _)).trans (KeepsFrom.of_grownBy hgrow13 (fun j e => by cases e; exact hcbB)), rfl, pre, x, m, .slice (some ⟨g8, 0, none⟩) (v.out.length + 1) cap8, nc + 1, rfl, hpre, HQ.out, Nat.le_refl _, by rw [hca]; exact DJ hcbB (h13.pick [0, 1, 2, 3, 4, 5, 6])⟩
 case done =>
   rintro D ys W hD rfl ⟨hB, hmiss⟩ hK
   have h6 := H5.out.below hB
   have z0 := h6.cell 7 rfl 0 rfl
   have z8 := h6.cell 10 rfl 8 rfl
   clear h6
   gi_wp2_with fail
   refine ⟨trivial, callsIn_wide.2 (kP (e := 5) (p := nd.pos) ?_)⟩
   refine ⟨by simp, .inl ⟨_, _, rfl, run_takeDeferred hK, ?_⟩⟩
   refine HBAD.out (5, nd.pos) _ ?_ ?_
   · unfold Ty.useV
     rw [← hms, Ty.kQ ms nd.text (fun k hk => hmiss ⟨k, hk⟩ (by unfold upB; rw [List.take_of_length_le (by simp)]; exact List.mem_finRange _))]
   · have hB3 : Below W1.heap.size W1 (W.putObj D (.deferred none)) := hB.trans (belowK_b (w := W1) (Nat.le_refl _) W D _ _ hD hK rfl rfl)
     exact (H5.out.below hB3).pick [0]
 case stop =>
   rintro D q pre W hD ⟨k, hk, rfl⟩ ⟨rfl, ini, last, m, ov', nc', e1, e2, e3, e4, hSF⟩ hK
   gi_wp2
   refine ⟨by simp, .inl ⟨_, _, rfl, run_takeDeferred hK, ?_⟩⟩
   obtain ⟨k', rfl⟩ : ∃ k', k = k' + 1 := by
     cases k with
     | zero => simp [upB] at e1
     | succ k' => exact ⟨k', rfl⟩
   rw [kS (by omega)] at e1
   obtain ⟨rfl, e5⟩ := List.append_inj' e1 rfl
   obtain rfl : (⟨k', by omega⟩ : Fin ms.length) = last := by simpa using e5
   have h7 := (hSF.turn (grownBy_putObj' W D (.deferred none)) (fun r e => by cases e; exact ⟨hD, _, hK, rfl⟩)).sat
   have h8 := (((h7.ent (i := 0) rfl (Q := Fr) (fun _ h => h.1)).ent (i := 2) rfl (Q := scA _ ms) (fun _ h => h.1)).ent (i := 4) rfl (Q := mapA 3 3 wb nw (dE v.wi)) (fun _ h => h.1)).ent (i := 6) rfl (Q := gq ms) (fun _ h => h.1)
   have h9 := Prt.Sat.oG (v := { v with out := v.out ++ [(id, m)], ca := if set && decide ((v.wi m).getD 0 ≠ Ty.topOf frs) then fun k => if k = m then true else v.ca k else v.ca }) hms h8
   have h10 := h9.kY (c := c + 1) (by omega) (by omega) ⟨hOk.ne, by have := hOk.len; omega, fun fr hf => by have := hOk.names fr hf; omega, hOk.ofs, by have := hOk.out; simp; omega⟩
   refine ⟨_, results_none rfl _ _ _, HOK.out _ _ ?_ h10⟩
   unfold Ty.useV
   rw [← hms, Ty.lX ms nd.text k' (by omega) m (fun j hj hjk => e2 ⟨j, hj⟩ ?_) e3]
   simp only [upB, List.mem_take_iff_getElem]
   exact ⟨j, by simp; omega, by simp⟩
end
end
end Go.Proofs.YtdlbhiaceheffabGreatDoor
