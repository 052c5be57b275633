/- Maps as parts of memory: what they hold, in plain words. -/
import Derived.Maps.OwnSet
import Derived.Maps.OwnOps
import Derived.Maps.Ext
import Derived.StringKeys
import Derived.WalkSmall
import Derived.WalkArith
import Derived.Test.YtdlbhiaceheffabGreatDoorY16
set_option linter.all false
set_option maxRecDepth 100000
set_option maxHeartbeats 4000000
namespace Go.Proofs.YtdlbhiaceheffabGreatDoor
section
open Go Go.RowKit
open Prt (Sat As blk pur exs star ah)
open Go.Maps (Keyed)
open Go.WideElems (Fit rg)
abbrev Dm := DataW Unit
def mapA (k e : TypeId) (b n : Nat) (Φ : Dm → Prop) : As := fun h => ∃ es clock, h b = some (.map es clock) ∧ Fit (H := Unit) Tryz.prog k (plainElem Tryz.prog e) es clock ∧ es.size ≤ n ∧ Φ (.map ((es.toList.map (rg Tryz.prog k (plainElem Tryz.prog e))).foldr DataW.insert []))
section
variable {w0 w w' : World} {L : List As} {k e : TypeId} {b n : Nat} {Φ : Dm → Prop}
theorem Prt.Sat.tN (h : Sat w0 w L) (k e b : Nat) (hb : b = w.heap.size) (hΦ : Φ (.map [])) : Sat w0 (w.alloc (.map #[] 0)) (L ++ [mapA k e b 0 Φ]) := by
 subst hb
 refine h.new ((Below.refl _ _).alloc (Nat.le_refl _) _) ⟨fun j => if j = w.heap.size then some (.map #[] 0) else none, ⟨#[], 0, by simp, ⟨by simp, MapKept.stamped_empty 0, by simp⟩, Nat.le_refl _, hΦ⟩, fun j x ex => ?_, fun j hj => ?_⟩
 · dsimp only at ex
   split at ex
   · rename_i hk; subst hk; cases ex; exact heap_alloc_new w _
   · cases ex
 · dsimp only; rw [if_neg (by omega)]
theorem Prt.Sat.jr (h : Sat w0 w L) (i : Nat) (hi : L[i]? = some (mapA k e b n Φ)) : ∃ D : Dm, w.ownsMap Tryz.prog k (plainElem Tryz.prog e) b n D ∧ Φ D := by
 obtain ⟨a, b', _, h2, _, h4, _⟩ := Prt.dP h.mem hi
 obtain ⟨es, clock, g1, g2, g3, g4⟩ := h4
 exact ⟨_, ⟨es, clock, h2 b _ g1, g2, g3, rfl⟩, g4⟩
theorem Prt.Sat.oz (h : Sat w0 w L) (i : Nat) (hi : L[i]? = some (mapA k e b n Φ)) {n' : Nat} {D : Dm} {Ψ : Dm → Prop} (hg : w.grownBy w' (some b)) (ho : w'.ownsMap Tryz.prog k (plainElem Tryz.prog e) b n' D) (hΨ : Ψ D) : Sat w0 w' (L.set i (mapA k e b n' Ψ)) := by
 obtain ⟨es, clock, g1, g2, g3, rfl⟩ := ho
 refine h.upd hi hg.os hg.tape hg.output fun a ha hl => ⟨fun j => if j = b then some (.map es clock) else none, ⟨es, clock, by simp, g2, g3, hΨ⟩, fun j x ex => ?_, fun j hj hlt => ?_⟩
 · dsimp only at ex
   split at ex
   · rename_i hk; subst hk; cases ex; exact g1
   · cases ex
 · have hne : j ≠ b := by
     rintro rfl
     obtain ⟨es2, c2, e2, _⟩ := ha
     rw [hj] at e2; cases e2
   exact ⟨by dsimp only; rw [if_neg hne], hg.block j hlt (by simpa using hne)⟩
theorem Prt.Sat.EH (h : Sat w0 w L) (i : Nat) (hi : L[i]? = some (mapA k e b n Φ)) : b < w.heap.size := by
 obtain ⟨D, h1, _⟩ := h.jr i hi
 exact h1.lt
end
def gu (l : List (ByteArray × Nat)) (D : Dm) : Prop := Maps.IsMap D ∧ ∀ x : ByteArray, Maps.has D (.string x.data.toList) = (Ty.lookN l x).isSome ∧ ∀ m, Ty.lookN l x = some m → D.atKey (.string x.data.toList) (.lit (.int .i64 0)) = .lit (.int .i64 (m : Nat))
def dE (wi : Nat → Option Int) (D : Dm) : Prop := Maps.IsMap D ∧ ∀ m : Nat, D.atKey (.int .i64 (m : Nat)) (.lit (.int .i64 0)) = .lit (.int .i64 ((wi m).getD 0))
def bP (ca : Nat → Bool) (D : Dm) : Prop := Maps.IsMap D ∧ (∀ m : Nat, Maps.has D (.int .i64 (m : Nat)) = ca m) ∧ ∀ z : Int, Maps.has D (.int .i64 z) = true → 0 ≤ z
theorem uF (l : List (ByteArray × Nat)) (x y : ByteArray) (n : Nat) : Ty.lookN (l ++ [(x, n)]) y = if x = y then some n else Ty.lookN l y := by
 unfold Ty.lookN
 rw [List.reverse_append]
 by_cases h : x = y <;> simp [h]
theorem vT {x y : ByteArray} (h : x ≠ y) : Lit.string y.data.toList ≠ Lit.string x.data.toList := fun e => by
 simp only [Lit.string.injEq] at e
 exact h (by cases x; cases y; simp only at e; congr 1; exact (Array.toList_inj.1 e).symm)
theorem uN : gu [] (.map []) := ⟨Maps.isMap_empty, fun x => ⟨rfl, fun m h => by cases h⟩⟩
theorem uX {l : List (ByteArray × Nat)} {D : Dm} (h : gu l D) (x : ByteArray) (n : Nat) : gu (l ++ [(x, n)]) (D.put (.string x.data.toList) (.lit (.int .i64 (n : Nat)))) := by
 refine ⟨h.1.put _ _, fun y => ?_⟩
 rw [uF]
 by_cases hx : x = y
 · subst hx
   rw [if_pos rfl]
   refine ⟨Maps.has_put_same h.1 (show WideAt.IsKeyLit (.string _) from trivial) _, fun m hm => ?_⟩
   cases hm
   exact Maps.atKey_put_same h.1 (show WideAt.IsKeyLit (.string _) from trivial) _ _
 · rw [if_neg hx]
   refine ⟨by rw [Maps.has_put_other (vT hx)]; exact (h.2 y).1, fun m hm => ?_⟩
   rw [Maps.atKey_put_other (vT hx)]
   exact (h.2 y).2 m hm
theorem rJ : dE (fun _ => none) (.map []) := ⟨Maps.isMap_empty, fun _ => rfl⟩
theorem wu {m n : Nat} (h : m ≠ n) : Lit.int .i64 (m : Nat) ≠ Lit.int .i64 (n : Nat) := fun e => by
 simp only [Lit.int.injEq, true_and] at e
 exact h (by omega)
theorem rf {wi : Nat → Option Int} {D : Dm} (h : dE wi D) (n : Nat) (o : Int) : dE (fun k => if k = n then some o else wi k) (D.put (.int .i64 (n : Nat)) (.lit (.int .i64 o))) := by
 refine ⟨h.1.put _ _, fun m => ?_⟩
 dsimp only
 by_cases hx : m = n
 · subst hx
   rw [if_pos rfl, Maps.atKey_put_same h.1 (show WideAt.IsKeyLit (.int _ _) from trivial)]; rfl
 · rw [if_neg hx, Maps.atKey_put_other (wu hx)]
   exact h.2 m
theorem qj : bP (fun _ => false) (.map []) := ⟨Maps.isMap_empty, fun _ => rfl, fun _ h => nomatch h⟩
theorem qQ {ca : Nat → Bool} {D : Dm} (h : bP ca D) (n : Nat) (d : Dm) : bP (fun k => if k = n then true else ca k) (D.put (.int .i64 (n : Nat)) d) := by
 refine ⟨h.1.put _ _, fun m => ?_, fun z hz => ?_⟩
 · dsimp only
   by_cases hx : m = n
   · subst hx
     rw [if_pos rfl, Maps.has_put_same h.1 (show WideAt.IsKeyLit (.int _ _) from trivial)]
   · rw [if_neg hx, Maps.has_put_other (wu hx)]
     exact h.2.1 m
 · by_cases hx : z = (n : Nat)
   · omega
   · rw [Maps.has_put_other (show Lit.int .i64 z ≠ Lit.int .i64 (n : Nat) from fun e => by
       simp only [Lit.int.injEq, true_and] at e
       exact hx e)] at hz
     exact h.2.2 z hz
end
section
open Go Go.RowKit
open Prt (Sat As blk pur exs star ah)
open Ty (Frm Vg)
abbrev biO (nv tv : Value) (main : Int) (sv ov : Value) (wb cb : Nat) : Obj := .cells #[nv, tv, .int .i64 main, sv, ov, .map (some wb), .map (some cb)] 145 (0, 0)
def eu (p : Frm × Nat) : List Value := [.map (some p.2), .int .i64 p.1.of]
def gq : List (Frm × Nat) → As
 | [] => fun _ => True
 | p :: l => ah [mapA 9 3 p.2 p.1.names.length (gu p.1.names), gq l]
def scA (v : Value) (l : List (Frm × Nat)) : As := Prt.row 195 2 v l.length (l.reverse.flatMap eu)
structure BiQ where
 sv : Value
 ov : Value
 wb : Nat
 cb : Nat
 ms : List (Frm × Nat)
def EW (bb : Nat) (nv tv : Value) (main : Int) (frs : List Frm) (v : Vg) (nw nc : Nat) (q : BiQ) : List As :=
 [pur (q.ms.map Prod.fst = frs), blk bb (biO nv tv main q.sv q.ov q.wb q.cb), scA q.sv q.ms, gq q.ms, bdA q.ov v.out, mapA 3 3 q.wb nw (dE v.wi), mapA 3 4 q.cb nc (bP v.ca)]
def biA (bb : Nat) (nv tv : Value) (main : Int) (frs : List Frm) (v : Vg) (nw nc : Nat) : As := exs fun q => ah (EW bb nv tv main frs v nw nc q)
theorem jC {w : World} {bb g k cap mb : Nat} {of : Int} (h3 : w.cell? ⟨bb, 3, none⟩ = some (.slice (some ⟨g, 0, none⟩) (k + 1) cap)) (hx : w.cell? ⟨g, k * 2, none⟩ = some (.map (some mb))) (hy : w.cell? ⟨g, k * 2 + 1, none⟩ = some (.int .i64 of))
   (hb : bb < w.heap.size) (hg : g < w.heap.size) (hc : k ≤ 1000000) {R : Ending → World → Prop} (hR : ∀ w', Below w.heap.size w w' → R (.returned (.agg #[.map (some mb), .int .i64 of])) w') :
   Calls Tryz.prog 217 #[.pointer (some ⟨bb, 0, none⟩)] w R := by
 have HR := qh hR
 have hw := IntWalk.i64_in (n := (k : Int)) (by omega)
 have hs : IntKind.i64.wrap (((k + 1 : Nat) : Int) - 1) = (k : Int) := by rw [show ((k + 1 : Nat) : Int) - 1 = (k : Int) by omega]; exact hw
 clear hR
 go_enter Tryz.func217, Tryz.ntmps217
 go_wp2_with fail
 go_region
 all_goals
   go_wp2_with fail
   refine bodyPost_ret ?_ rfl (HR.out _ ?_)
   · simp [results, Tryz.results217, go_sem]
   · repeat' (first | exact Below.refl _ _ | apply Below.drew | apply Below.setCell | apply Below.alloc | (simp; done) | omega)
theorem bH {wB w : World} {nv tv : Value} {pg : Ty.Pg} (hP : PB wB nv tv pg) (hb : Below wB.heap.size wB w) {bb id : Nat} {nd : Ty.Nd} (hn : pg.ns[id]? = some nd) (h0 : w.cell? ⟨bb, 0, none⟩ = some nv) (hbb : bb < w.heap.size) {R : Ending → World → Prop}
   (hR : ∀ lv w', Below w.heap.size w w' → wB.ownsRow 0 3 1 lv nd.list.length (nd.list.map aA) → R (.returned (aB nd lv)) w') :
   Calls Tryz.prog 213 #[.pointer (some ⟨bb, 0, none⟩), .int .i64 (id : Nat)] w R := by
 obtain ⟨g, cap, lv, rfl, hnl, hg, hcap, hcm, hA, hl, _, hN⟩ := hP.look hn
 obtain ⟨q0, q1, q2, q3, q4, q5, q6, q7, q8⟩ := hA.below hb
 have hgw : g < w.heap.size := Nat.lt_of_lt_of_le hg hb.size
 obtain ⟨la, lc, rfl⟩ := ag hl
 have HR := qh (fun w' hb' => hR (.slice la nd.list.length lc) w' hb' hl)
 unfold maxLen at hcm
 clear hR hA hl hb hP hn
 generalize pg.ns.length = N at *
 go_enter Tryz.func213, Tryz.ntmps213
 go_wp2_with fail
 refine bodyPost_ret ?_ rfl (HR.out _ ?_)
 · simp [results, Tryz.results213, go_sem, aB]
 · exact (Below.refl _ _).alloc (Nat.le_refl _) _
theorem kP {w : World} {bb : Nat} {e p : Nat} {R : Ending → World → Prop} (hR : R (.panicked (aI (e, p))) w) : Calls Tryz.prog 285 #[.pointer (some ⟨bb, 0, none⟩), .int .i64 (e : Nat), .int .i64 (p : Nat)] w R := by
 have HR := qh hR
 clear hR
 go_enter Tryz.func285, Tryz.ntmps285
 go_wp2_with fail
 exact ⟨rfl, HR.out⟩
theorem lg {w : World} {v : Value} {p : Frm × Nat} {l : List (Frm × Nat)} (h : w.ownsRow 0 195 2 v (p :: l).length ((p :: l).reverse.flatMap eu)) :
   ∃ g cap : Nat, v = .slice (some ⟨g, 0, none⟩) (l.length + 1) cap ∧ g < w.heap.size ∧ w.cell? ⟨g, l.length * 2, none⟩ = some (.map (some p.2)) ∧ w.cell? ⟨g, l.length * 2 + 1, none⟩ = some (.int .i64 p.1.of) := by
 obtain ⟨g, cap, rfl, _, hg⟩ := h.form (by simp)
 have hc := fun j u hj => World.ownsRow.cells h (g := g) rfl j u hj
 have hf := flat_get eu 2 (fun _ => rfl) (p :: l).reverse l.length (by simp)
 have he : (p :: l).reverse[l.length]'(by simp) = p := by simp
 rw [he] at hf
 refine ⟨g, cap, rfl, hg, ?_, ?_⟩
 · have := hc (l.length * 2 + 0) _ (by rw [hf 0 (by omega)]; rfl)
   rwa [Addr.add_lit, Nat.zero_add] at this
 · have := hc (l.length * 2 + 1) _ (by rw [hf 1 (by omega)]; rfl)
   rwa [Addr.add_lit, Nat.zero_add] at this
section
variable {wB w : World} {Fr : As} {bb : Nat} {nv tv : Value} {main : Int} {fr : Frm} {frs : List Frm} {v : Vg} {nw nc : Nat}
theorem Prt.Sat.oV (h : Sat wB w [Fr, biA bb nv tv main (fr :: frs) v nw nc]) : ∃ sv ov wb cb mb ms, ms.map Prod.fst = frs ∧
   Sat wB w [Fr, blk bb (biO nv tv main sv ov wb cb), scA sv ((fr, mb) :: ms), bdA ov v.out, mapA 3 3 wb nw (dE v.wi), mapA 3 4 cb nc (bP v.ca), mapA 9 3 mb fr.names.length (gu fr.names), gq ms] := by
 obtain ⟨⟨sv, ov, wb, cb, ms⟩, h⟩ := h.ex (i := 1) rfl
 have h := h.unpack (i := 1) rfl
 have hms : ms.map Prod.fst = fr :: frs := h.get (i := 1) rfl fun _ ha _ => ha
 match ms, hms, h with
 | [], hms, _ => cases hms
 | (f2, mb) :: ms, hms, h =>
   rw [List.map_cons] at hms
   injection hms with e1 e2
   dsimp only at e1
   subst e1
   have h2 := (h.pick [0, 2, 3, 5, 6, 7, 4]).unpack (i := 6) rfl
   exact ⟨sv, ov, wb, cb, mb, ms, e2, h2⟩
theorem Prt.Sat.vH {sv ov : Value} {wb cb mb : Nat} {ms : List (Frm × Nat)} (hms : ms.map Prod.fst = frs)
   (h : Sat wB w [Fr, blk bb (biO nv tv main sv ov wb cb), scA sv ((fr, mb) :: ms), bdA ov v.out, mapA 3 3 wb nw (dE v.wi), mapA 3 4 cb nc (bP v.ca), mapA 9 3 mb fr.names.length (gu fr.names), gq ms]) :
   Sat wB w [Fr, biA bb nv tv main (fr :: frs) v nw nc] := by
 have h2 : Sat wB w [Fr, blk bb (biO nv tv main sv ov wb cb), scA sv ((fr, mb) :: ms), bdA ov v.out, mapA 3 3 wb nw (dE v.wi), mapA 3 4 cb nc (bP v.ca), gq ((fr, mb) :: ms)] := Prt.Sat.pack (L := [_, _, _, _, _, _]) h
 have h3 := (h2.fH (P := pur (((fr, mb) :: ms).map Prod.fst = fr :: frs)) (fun _ => by show _ = _; rw [List.map_cons, hms])).pick [0, 7, 1, 2, 6, 3, 4, 5]
 exact (Prt.Sat.pack (L := [Fr]) h3).ent (i := 1) rfl fun _ h => ⟨⟨sv, ov, wb, cb, (fr, mb) :: ms⟩, h⟩
end
end
section
open Go Go.RowKit
theorem qV (mb : Nat) (of : Int) (W : World) : (Instr.field 195 (.agg #[.map (some mb), .int .i64 of]) 0).run Tryz.prog W = .ok (.map (some mb)) W := by
 simp [Instr.field, run_underlying Tryz.underlying195, asAgg, go_sem]
theorem lG (mb : Nat) (of : Int) (W : World) : (Instr.field 195 (.agg #[.map (some mb), .int .i64 of]) 1).run Tryz.prog W = .ok (.int .i64 of) W := by
 simp [Instr.field, run_underlying Tryz.underlying195, asAgg, go_sem]
theorem zy (nd : Ty.Nd) (lv : Value) (W : World) : (Instr.field 66 (.agg #[.int .i64 nd.kind, .int .i64 nd.a, .int .i64 nd.b, .int .i64 nd.c, lv, .string nd.text, .int .i64 nd.n, .int .i64 nd.ty, .int .i64 nd.pos]) 0).run Tryz.prog W = .ok (.int .i64 nd.kind) W := by
 simp [Instr.field, run_underlying Tryz.underlying66, asAgg, go_sem]
theorem zf (nd : Ty.Nd) (lv : Value) (W : World) : (Instr.field 66 (.agg #[.int .i64 nd.kind, .int .i64 nd.a, .int .i64 nd.b, .int .i64 nd.c, lv, .string nd.text, .int .i64 nd.n, .int .i64 nd.ty, .int .i64 nd.pos]) 4).run Tryz.prog W = .ok lv W := by
 simp [Instr.field, run_underlying Tryz.underlying66, asAgg, go_sem]
theorem AP (nd : Ty.Nd) (lv : Value) (W : World) : (Instr.field 66 (.agg #[.int .i64 nd.kind, .int .i64 nd.a, .int .i64 nd.b, .int .i64 nd.c, lv, .string nd.text, .int .i64 nd.n, .int .i64 nd.ty, .int .i64 nd.pos]) 5).run Tryz.prog W = .ok (.string nd.text) W := by
 simp [Instr.field, run_underlying Tryz.underlying66, asAgg, go_sem]
end
section
open Go Go.RowKit
open Prt (Sat As blk pur exs star ah)
open Ty (Frm Vg)
theorem l7 : Maps.Keyed Tryz.prog 9 := Maps.string_keyed Tryz.underlying9
theorem iH : Maps.Keyed Tryz.prog 3 := Maps.int_keyed Tryz.underlying3
section
variable {wB w : World} {Fr : As} {bb : Nat} {nv tv : Value} {pg : Ty.Pg} {main : Int} {fr : Frm} {frs : List Frm} {v : Vg} {nw nc : Nat}
theorem zqh (hP : PB wB nv tv pg) (hF : FrB wB Fr) {id : Nat} {nd : Ty.Nd} (hn : pg.ns[id]? = some nd) (hx : nd.text.size ≤ maxLen) (H : Sat wB w [Fr, biA bb nv tv main (fr :: frs) v nw nc])
   (hnm : fr.names.length ≤ 1000000) (hnw : nw ≤ 1000000) (hfs : frs.length ≤ 1000000) (ho : -1 ≤ fr.of ∧ fr.of ≤ 1000000) {R : Ending → World → Prop}
   (hR : ∀ w', Sat wB w' [Fr, biA bb nv tv main (Ty.addN fr nd.text id :: frs) (Ty.addW v id fr.of) (nw + 1) nc] → R (.returned (.tuple #[])) w') :
   Calls Tryz.prog 286 #[.pointer (some ⟨bb, 0, none⟩), .int .i64 (id : Nat)] w R := by
 have HR := qh hR
 have HF := qh hF
 have hlt : id < pg.ns.length := by
   rcases Nat.lt_or_ge id pg.ns.length with h | h
   · exact h
   · rw [List.getElem?_eq_none h] at hn; cases hn
 have hN : pg.ns.length ≤ 1200 := hP.ok.nlen
 have HND := qh (fun (w1 : World) (hb : Below wB.heap.size wB w1) h0 hbb R hR => bH (w := w1) (bb := bb) (R := R) hP hb hn h0 hbb hR)
 obtain ⟨sv, ov, wb, cb, mb, ms, hms, h1⟩ := H.oV
 have hml : ms.length ≤ 1000000 := by rw [← hms, List.length_map] at hfs; exact hfs
 obtain ⟨g, cap, rfl, hg, d0, d1⟩ := lg (h1.row 2 rfl)
 have c3 := h1.cell 1 rfl 3 rfl
 have hbb := h1.lt 1 rfl
 have H1 := qh h1
 have HMS := qh hms
 clear hR hF H h1 hms hfs hP hn
 have f0 := qV mb fr.of
 have f1 := lG mb fr.of
 have f5 := AP nd
 go_enter Tryz.func286, Tryz.ntmps286
 go_wp2_with fail
 refine jC c3 d0 d1 hbb hg hml (fun w1 hb1 => ?_)
 have h2 := H1.out.below hb1
 have k0 := h2.cell 1 rfl 0 rfl
 have hbb2 := h2.lt 1 rfl
 have H2 := qh h2
 clear c3 d0 d1 hg hb1 h2 H1
 go_wp2_with fail
 refine HND.out w1 (HF.out _ _ 0 H2.out rfl) k0 hbb2 _ (fun lv w2 hb2 hl => ?_)
 have h3 := H2.out.below hb2
 obtain ⟨D, hD, hDn⟩ := h3.jr 6 rfl
 have H3 := qh h3
 have HD := qh hD
 have HDN := qh hDn
 clear h3 hD hDn H2 hb2 hl k0
 unfold aB
 go_wp2_with (at_mapUpdate; go_loud (refine wpList_mapUpdate_own _ rfl _ _ _ 193 rfl 9 3 l7 Tryz.underlying193 _ mb _ D (by rfl) HD.out (by unfold maxLen; omega) (.string nd.text) (.int .i64 (id : Nat)) _ (by rfl) (by rfl) (Go.WideMaps.keyOf_string_mk Tryz.underlying9 hx) _ [] (plainElem_int Tryz.underlying3 (WalkArith.wf_i64 (by omega))) ?_))
 intro w3 hown3 hgrow3
 have h4 := H3.out.oz 6 rfl hgrow3 hown3 (Ψ := gu (fr.names ++ [(nd.text, id)])) (uX HDN.out nd.text id)
 obtain ⟨g, cap, e, hg, d0, d1⟩ := lg (h4.row 2 rfl)
 cases e
 have c3 := h4.cell 1 rfl 3 rfl
 have c5 := h4.cell 1 rfl 5 rfl
 have hbb3 := h4.lt 1 rfl
 have H4 := qh h4
 clear h4 hown3 hgrow3 HD HDN H3
 have HW : Hid ((Lit.int .i64 (id : Nat)).wf = true ∧ (Lit.int .i64 fr.of).wf = true) := ⟨WalkArith.wf_i64 (by omega), WalkArith.wf_i64 (by omega)⟩
 go_wp2_with fail
 go_region_held3 (fun w' => w'.cell? ⟨bb, 5, none⟩ = some (.map (some wb))) (go_keep)
   ((go_at_call 217; refine jC (w := w3.drew) c3 d0 d1 hbb3 hg hml (fun w5 hb5 => ?_); have h5 := H4.out.drew.below hb5; have s5 : w5.cell? ⟨bb, 5, none⟩ = some (.map (some wb)) := h5.cell 1 rfl 5 rfl; obtain ⟨D2, hD2, hDn2⟩ := h5.jr 4 rfl; obtain ⟨w6, hrun6, hown6, hgrow6⟩ := hD2.update iH Tryz.underlying102 (by unfold maxLen; omega) (Maps.keyOf_int_mk Tryz.underlying3 HW.out.1) (plainElem_int Tryz.underlying3 HW.out.2); have h6 := h5.oz 4 rfl hgrow6 hown6 (Ψ := dE (fun k => if k = id then some fr.of else v.wi k)) (rf hDn2 id fr.of); have s6 : w6.cell? ⟨bb, 5, none⟩ = some (.map (some wb)) := h6.cell 1 rfl 5 rfl; have H6 := qh h6; clear h5 hD2 hDn2 hown6 hgrow6 h6 hb5))
 all_goals
   go_wp2_with fail
   go_end0
   refine HR.out _ ?_
   have h7 := H6.out.ent (i := 2) rfl (Q := scA (.slice (some ⟨g, 0, none⟩) (ms.length + 1) cap) ((Ty.addN fr nd.text id, mb) :: ms)) (fun _ ha => by
     unfold scA at ha ⊢
     simp only [List.reverse_cons, List.flatMap_append] at ha ⊢
     exact ha)
   have h8 : Sat wB w6 [Fr, blk bb (biO nv tv main (.slice (some ⟨g, 0, none⟩) (ms.length + 1) cap) ov wb cb), scA (.slice (some ⟨g, 0, none⟩) (ms.length + 1) cap) ((Ty.addN fr nd.text id, mb) :: ms), bdA ov (Ty.addW v id fr.of).out, mapA 3 3 wb (nw + 1) (dE (Ty.addW v id fr.of).wi), mapA 3 4 cb nc (bP (Ty.addW v id fr.of).ca), mapA 9 3 mb (Ty.addN fr nd.text id).names.length (gu (Ty.addN fr nd.text id).names), gq ms] := by
     unfold Ty.addN
     simp only [lzA, lzC, lzN]
     exact h7
   exact Prt.Sat.vH HMS.out h8
end
end
section
open Go Go.RowKit
open Prt (Sat As blk pur exs star ah)
section
variable {w : World} {a b fn ps : Nat} {c ty : Int} {l : List Nat} {tx : ByteArray} {lv : Value}
theorem sZ {R : Ending → World → Prop} (hR : ∀ v w', Sat w w' [Prt.bI w, poA ⟨10, a, b, c, l, tx, fn, ty, ps⟩ lv v l] → R (.returned v) w') :
   Calls Tryz.prog 157 #[aB ⟨10, a, b, c, l, tx, fn, ty, ps⟩ lv] w R := by
 have h1 := ((Prt.Sat.old w).ay (nbO ⟨10, a, b, c, l, tx, fn, ty, ps⟩ lv)).fH (P := poA ⟨10, a, b, c, l, tx, fn, ty, ps⟩ lv lv l) (fun _ => .inl ⟨rfl, rfl⟩)
 have HR := qh (hR _ _ h1)
 clear hR h1
 dsimp only [aB] at *
 go_enter Tryz.func157, Tryz.ntmps157
 go_wp2_with fail
 exact HR.out
theorem uo {R : Ending → World → Prop} (hR : ∀ v w', Sat w w' [Prt.bI w, poA ⟨11, a, b, c, l, tx, fn, ty, ps⟩ lv v l] → R (.returned v) w') :
   Calls Tryz.prog 157 #[aB ⟨11, a, b, c, l, tx, fn, ty, ps⟩ lv] w R := by
 have h1 := ((Prt.Sat.old w).ay (nbO ⟨11, a, b, c, l, tx, fn, ty, ps⟩ lv)).fH (P := poA ⟨11, a, b, c, l, tx, fn, ty, ps⟩ lv lv l) (fun _ => .inl ⟨rfl, rfl⟩)
 have HR := qh (hR _ _ h1)
 clear hR h1
 dsimp only [aB] at *
 go_enter Tryz.func157, Tryz.ntmps157
 go_wp2_with fail
 exact HR.out
theorem xU {R : Ending → World → Prop} (hR : ∀ v w', Sat w w' [Prt.bI w, poA ⟨1, a, b, c, l, tx, fn, ty, ps⟩ lv v []] → R (.returned v) w') :
   Calls Tryz.prog 157 #[aB ⟨1, a, b, c, l, tx, fn, ty, ps⟩ lv] w R := by
 have h1 := (((Prt.Sat.old w).ay (nbO ⟨1, a, b, c, l, tx, fn, ty, ps⟩ lv)).nil 3 1).ent (i := 1) rfl (Q := poA ⟨1, a, b, c, l, tx, fn, ty, ps⟩ lv (.slice none 0 0) []) (fun _ h => .inr h)
 have HR := qh (hR _ _ h1)
 clear hR h1
 dsimp only [aB] at *
 go_enter Tryz.func157, Tryz.ntmps157
 go_wp2_with fail
 exact HR.out
theorem wW {R : Ending → World → Prop} (hR : ∀ v w', Sat w w' [Prt.bI w, poA ⟨2, a, b, c, l, tx, fn, ty, ps⟩ lv v []] → R (.returned v) w') :
   Calls Tryz.prog 157 #[aB ⟨2, a, b, c, l, tx, fn, ty, ps⟩ lv] w R := by
 have h1 := (((Prt.Sat.old w).ay (nbO ⟨2, a, b, c, l, tx, fn, ty, ps⟩ lv)).nil 3 1).ent (i := 1) rfl (Q := poA ⟨2, a, b, c, l, tx, fn, ty, ps⟩ lv (.slice none 0 0) []) (fun _ h => .inr h)
 have HR := qh (hR _ _ h1)
 clear hR h1
 dsimp only [aB] at *
 go_enter Tryz.func157, Tryz.ntmps157
 go_wp2_with fail
 exact HR.out
theorem xE {R : Ending → World → Prop} (hR : ∀ v w', Sat w w' [Prt.bI w, poA ⟨3, a, b, c, l, tx, fn, ty, ps⟩ lv v []] → R (.returned v) w') :
   Calls Tryz.prog 157 #[aB ⟨3, a, b, c, l, tx, fn, ty, ps⟩ lv] w R := by
 have h1 := (((Prt.Sat.old w).ay (nbO ⟨3, a, b, c, l, tx, fn, ty, ps⟩ lv)).nil 3 1).ent (i := 1) rfl (Q := poA ⟨3, a, b, c, l, tx, fn, ty, ps⟩ lv (.slice none 0 0) []) (fun _ h => .inr h)
 have HR := qh (hR _ _ h1)
 clear hR h1
 dsimp only [aB] at *
 go_enter Tryz.func157, Tryz.ntmps157
 go_wp2_with fail
 exact HR.out
theorem yA {R : Ending → World → Prop} (hR : ∀ v w', Sat w w' [Prt.bI w, poA ⟨4, a, b, c, l, tx, fn, ty, ps⟩ lv v []] → R (.returned v) w') :
   Calls Tryz.prog 157 #[aB ⟨4, a, b, c, l, tx, fn, ty, ps⟩ lv] w R := by
 have h1 := (((Prt.Sat.old w).ay (nbO ⟨4, a, b, c, l, tx, fn, ty, ps⟩ lv)).nil 3 1).ent (i := 1) rfl (Q := poA ⟨4, a, b, c, l, tx, fn, ty, ps⟩ lv (.slice none 0 0) []) (fun _ h => .inr h)
 have HR := qh (hR _ _ h1)
 clear hR h1
 dsimp only [aB] at *
 go_enter Tryz.func157, Tryz.ntmps157
 go_wp2_with fail
 exact HR.out
theorem yu {R : Ending → World → Prop} (hR : ∀ v w', Sat w w' [Prt.bI w, poA ⟨9, a, b, c, l, tx, fn, ty, ps⟩ lv v [a, b]] → R (.returned v) w') :
   Calls Tryz.prog 157 #[aB ⟨9, a, b, c, l, tx, fn, ty, ps⟩ lv] w R := by
 have h1 := (((Prt.Sat.old w).ay (nbO ⟨9, a, b, c, l, tx, fn, ty, ps⟩ lv)).aj (.cells #[.int .i64 a, .int .i64 b] 3) (w.heap.size + 1)).ent (i := 1) rfl (Q := poA ⟨9, a, b, c, l, tx, fn, ty, ps⟩ lv (.slice (some ⟨w.heap.size + 1, 0, none⟩) 2 2) [a, b]) (fun _ h => .inr (aG h rfl (by simp [maxLen]) (by simp [aA])))
 have HR := qh (hR _ _ h1)
 clear hR h1
 dsimp only [aB] at *
 go_enter Tryz.func157, Tryz.ntmps157
 go_wp2_with fail
 exact HR.out
theorem uf {R : Ending → World → Prop} (hR : ∀ v w', Sat w w' [Prt.bI w, poA ⟨12, a, b, c, l, tx, fn, ty, ps⟩ lv v [a, b]] → R (.returned v) w') :
   Calls Tryz.prog 157 #[aB ⟨12, a, b, c, l, tx, fn, ty, ps⟩ lv] w R := by
 have h1 := (((Prt.Sat.old w).ay (nbO ⟨12, a, b, c, l, tx, fn, ty, ps⟩ lv)).aj (.cells #[.int .i64 a, .int .i64 b] 3) (w.heap.size + 1)).ent (i := 1) rfl (Q := poA ⟨12, a, b, c, l, tx, fn, ty, ps⟩ lv (.slice (some ⟨w.heap.size + 1, 0, none⟩) 2 2) [a, b]) (fun _ h => .inr (aG h rfl (by simp [maxLen]) (by simp [aA])))
 have HR := qh (hR _ _ h1)
 clear hR h1
 dsimp only [aB] at *
 go_enter Tryz.func157, Tryz.ntmps157
 go_wp2_with fail
 exact HR.out
theorem tq {R : Ending → World → Prop} (hR : ∀ v w', Sat w w' [Prt.bI w, poA ⟨19, a, b, c, l, tx, fn, ty, ps⟩ lv v [a, b]] → R (.returned v) w') :
   Calls Tryz.prog 157 #[aB ⟨19, a, b, c, l, tx, fn, ty, ps⟩ lv] w R := by
 have h1 := (((Prt.Sat.old w).ay (nbO ⟨19, a, b, c, l, tx, fn, ty, ps⟩ lv)).aj (.cells #[.int .i64 a, .int .i64 b] 3) (w.heap.size + 1)).ent (i := 1) rfl (Q := poA ⟨19, a, b, c, l, tx, fn, ty, ps⟩ lv (.slice (some ⟨w.heap.size + 1, 0, none⟩) 2 2) [a, b]) (fun _ h => .inr (aG h rfl (by simp [maxLen]) (by simp [aA])))
 have HR := qh (hR _ _ h1)
 clear hR h1
 dsimp only [aB] at *
 go_enter Tryz.func157, Tryz.ntmps157
 go_wp2_with fail
 exact HR.out
theorem uQ {R : Ending → World → Prop} (hR : ∀ v w', Sat w w' [Prt.bI w, poA ⟨23, a, b, c, l, tx, fn, ty, ps⟩ lv v [a, b]] → R (.returned v) w') :
   Calls Tryz.prog 157 #[aB ⟨23, a, b, c, l, tx, fn, ty, ps⟩ lv] w R := by
 have h1 := (((Prt.Sat.old w).ay (nbO ⟨23, a, b, c, l, tx, fn, ty, ps⟩ lv)).aj (.cells #[.int .i64 a, .int .i64 b] 3) (w.heap.size + 1)).ent (i := 1) rfl (Q := poA ⟨23, a, b, c, l, tx, fn, ty, ps⟩ lv (.slice (some ⟨w.heap.size + 1, 0, none⟩) 2 2) [a, b]) (fun _ h => .inr (aG h rfl (by simp [maxLen]) (by simp [aA])))
 have HR := qh (hR _ _ h1)
 clear hR h1
 dsimp only [aB] at *
 go_enter Tryz.func157, Tryz.ntmps157
 go_wp2_with fail
 exact HR.out
theorem vw (hc : 0 ≤ c) {R : Ending → World → Prop} (hR : ∀ v w', Sat w w' [Prt.bI w, poA ⟨20, a, b, c, l, tx, fn, ty, ps⟩ lv v [a, b, c.toNat]] → R (.returned v) w') :
   Calls Tryz.prog 157 #[aB ⟨20, a, b, c, l, tx, fn, ty, ps⟩ lv] w R := by
 have hc2 : ((c.toNat : Nat) : Int) = c := by omega
 have h1 := (((Prt.Sat.old w).ay (nbO ⟨20, a, b, c, l, tx, fn, ty, ps⟩ lv)).aj (.cells #[.int .i64 a, .int .i64 b, .int .i64 c] 3) (w.heap.size + 1)).ent (i := 1) rfl (Q := poA ⟨20, a, b, c, l, tx, fn, ty, ps⟩ lv (.slice (some ⟨w.heap.size + 1, 0, none⟩) 3 3) [a, b, c.toNat]) (fun _ h => .inr (aG h rfl (by simp [maxLen]) (by simp [aA, hc2])))
 have HR := qh (hR _ _ h1)
 clear hR h1
 dsimp only [aB] at *
 go_enter Tryz.func157, Tryz.ntmps157
 go_wp2_with fail
 exact HR.out
theorem yC {R : Ending → World → Prop} (hR : ∀ v w', Sat w w' [Prt.bI w, poA ⟨8, a, b, c, l, tx, fn, ty, ps⟩ lv v [a]] → R (.returned v) w') :
   Calls Tryz.prog 157 #[aB ⟨8, a, b, c, l, tx, fn, ty, ps⟩ lv] w R := by
 have h1 := (((Prt.Sat.old w).ay (nbO ⟨8, a, b, c, l, tx, fn, ty, ps⟩ lv)).aj (.cells #[.int .i64 a] 3) (w.heap.size + 1)).ent (i := 1) rfl (Q := poA ⟨8, a, b, c, l, tx, fn, ty, ps⟩ lv (.slice (some ⟨w.heap.size + 1, 0, none⟩) 1 1) [a]) (fun _ h => .inr (aG h rfl (by simp [maxLen]) (by simp [aA])))
 have HR := qh (hR _ _ h1)
 clear hR h1
 dsimp only [aB] at *
 go_enter Tryz.func157, Tryz.ntmps157
 go_wp2_with fail
 exact HR.out
theorem tJ {R : Ending → World → Prop} (hR : ∀ v w', Sat w w' [Prt.bI w, poA ⟨13, a, b, c, l, tx, fn, ty, ps⟩ lv v [a]] → R (.returned v) w') :
   Calls Tryz.prog 157 #[aB ⟨13, a, b, c, l, tx, fn, ty, ps⟩ lv] w R := by
 have h1 := (((Prt.Sat.old w).ay (nbO ⟨13, a, b, c, l, tx, fn, ty, ps⟩ lv)).aj (.cells #[.int .i64 a] 3) (w.heap.size + 1)).ent (i := 1) rfl (Q := poA ⟨13, a, b, c, l, tx, fn, ty, ps⟩ lv (.slice (some ⟨w.heap.size + 1, 0, none⟩) 1 1) [a]) (fun _ h => .inr (aG h rfl (by simp [maxLen]) (by simp [aA])))
 have HR := qh (hR _ _ h1)
 clear hR h1
 dsimp only [aB] at *
 go_enter Tryz.func157, Tryz.ntmps157
 go_wp2_with fail
 exact HR.out
theorem tu {R : Ending → World → Prop} (hR : ∀ v w', Sat w w' [Prt.bI w, poA ⟨14, a, b, c, l, tx, fn, ty, ps⟩ lv v [a]] → R (.returned v) w') :
   Calls Tryz.prog 157 #[aB ⟨14, a, b, c, l, tx, fn, ty, ps⟩ lv] w R := by
 have h1 := (((Prt.Sat.old w).ay (nbO ⟨14, a, b, c, l, tx, fn, ty, ps⟩ lv)).aj (.cells #[.int .i64 a] 3) (w.heap.size + 1)).ent (i := 1) rfl (Q := poA ⟨14, a, b, c, l, tx, fn, ty, ps⟩ lv (.slice (some ⟨w.heap.size + 1, 0, none⟩) 1 1) [a]) (fun _ h => .inr (aG h rfl (by simp [maxLen]) (by simp [aA])))
 have HR := qh (hR _ _ h1)
 clear hR h1
 dsimp only [aB] at *
 go_enter Tryz.func157, Tryz.ntmps157
 go_wp2_with fail
 exact HR.out
theorem uV {R : Ending → World → Prop} (hR : ∀ v w', Sat w w' [Prt.bI w, poA ⟨15, a, b, c, l, tx, fn, ty, ps⟩ lv v [a]] → R (.returned v) w') :
   Calls Tryz.prog 157 #[aB ⟨15, a, b, c, l, tx, fn, ty, ps⟩ lv] w R := by
 have h1 := (((Prt.Sat.old w).ay (nbO ⟨15, a, b, c, l, tx, fn, ty, ps⟩ lv)).aj (.cells #[.int .i64 a] 3) (w.heap.size + 1)).ent (i := 1) rfl (Q := poA ⟨15, a, b, c, l, tx, fn, ty, ps⟩ lv (.slice (some ⟨w.heap.size + 1, 0, none⟩) 1 1) [a]) (fun _ h => .inr (aG h rfl (by simp [maxLen]) (by simp [aA])))
 have HR := qh (hR _ _ h1)
 clear hR h1
 dsimp only [aB] at *
 go_enter Tryz.func157, Tryz.ntmps157
 go_wp2_with fail
 exact HR.out
theorem uw {R : Ending → World → Prop} (hR : ∀ v w', Sat w w' [Prt.bI w, poA ⟨21, a, b, c, l, tx, fn, ty, ps⟩ lv v [a]] → R (.returned v) w') :
   Calls Tryz.prog 157 #[aB ⟨21, a, b, c, l, tx, fn, ty, ps⟩ lv] w R := by
 have h1 := (((Prt.Sat.old w).ay (nbO ⟨21, a, b, c, l, tx, fn, ty, ps⟩ lv)).aj (.cells #[.int .i64 a] 3) (w.heap.size + 1)).ent (i := 1) rfl (Q := poA ⟨21, a, b, c, l, tx, fn, ty, ps⟩ lv (.slice (some ⟨w.heap.size + 1, 0, none⟩) 1 1) [a]) (fun _ h => .inr (aG h rfl (by simp [maxLen]) (by simp [aA])))
 have HR := qh (hR _ _ h1)
 clear hR h1
 dsimp only [aB] at *
 go_enter Tryz.func157, Tryz.ntmps157
 go_wp2_with fail
 exact HR.out
theorem vG {R : Ending → World → Prop} (hR : ∀ v w', Sat w w' [Prt.bI w, poA ⟨24, a, b, c, l, tx, fn, ty, ps⟩ lv v [a]] → R (.returned v) w') :
   Calls Tryz.prog 157 #[aB ⟨24, a, b, c, l, tx, fn, ty, ps⟩ lv] w R := by
 have h1 := (((Prt.Sat.old w).ay (nbO ⟨24, a, b, c, l, tx, fn, ty, ps⟩ lv)).aj (.cells #[.int .i64 a] 3) (w.heap.size + 1)).ent (i := 1) rfl (Q := poA ⟨24, a, b, c, l, tx, fn, ty, ps⟩ lv (.slice (some ⟨w.heap.size + 1, 0, none⟩) 1 1) [a]) (fun _ h => .inr (aG h rfl (by simp [maxLen]) (by simp [aA])))
 have HR := qh (hR _ _ h1)
 clear hR h1
 dsimp only [aB] at *
 go_enter Tryz.func157, Tryz.ntmps157
 go_wp2_with fail
 exact HR.out
theorem sJ {R : Ending → World → Prop} (hR : ∀ v w', Sat w w' [Prt.bI w, poA ⟨25, a, b, c, l, tx, fn, ty, ps⟩ lv v [a]] → R (.returned v) w') :
   Calls Tryz.prog 157 #[aB ⟨25, a, b, c, l, tx, fn, ty, ps⟩ lv] w R := by
 have h1 := (((Prt.Sat.old w).ay (nbO ⟨25, a, b, c, l, tx, fn, ty, ps⟩ lv)).aj (.cells #[.int .i64 a] 3) (w.heap.size + 1)).ent (i := 1) rfl (Q := poA ⟨25, a, b, c, l, tx, fn, ty, ps⟩ lv (.slice (some ⟨w.heap.size + 1, 0, none⟩) 1 1) [a]) (fun _ h => .inr (aG h rfl (by simp [maxLen]) (by simp [aA])))
 have HR := qh (hR _ _ h1)
 clear hR h1
 dsimp only [aB] at *
 go_enter Tryz.func157, Tryz.ntmps157
 go_wp2_with fail
 exact HR.out
theorem wZ (hl : w.ownsRow 0 3 1 lv l.length (l.map aA)) (hln : l.length ≤ 1000000) {R : Ending → World → Prop} (hR : ∀ v w', Sat w w' [Prt.bI w, poA ⟨7, a, b, c, l, tx, fn, ty, ps⟩ lv v (a :: l)] → R (.returned v) w') :
   Calls Tryz.prog 157 #[aB ⟨7, a, b, c, l, tx, fn, ty, ps⟩ lv] w R := by
 obtain ⟨j0, tj, uz0, uz1, uz2⟩ := info_parts bY
 have HR := qh hR
 have h1 := (((Prt.Sat.old w).ay (nbO ⟨7, a, b, c, l, tx, fn, ty, ps⟩ lv)).aj (.cells #[.int .i64 a] 3) (w.heap.size + 1)).ent (i := 1) rfl (Q := inA (.slice (some ⟨w.heap.size + 1, 0, none⟩) 1 1) [a]) (fun _ h => aG h rfl (by simp [maxLen]) rfl)
 rcases hl.2 with ⟨rfl, h0⟩ | ⟨g, cap, cur, rfl, hgb, hgc, hcap, hcm, hcs, htk⟩
 · have hl0 : l = [] := List.length_eq_zero_iff.1 (by omega)
   subst hl0
   have H1 := qh h1
   clear hR h1 hl h0
   dsimp only [aB] at *
   go_enter Tryz.func157, Tryz.ntmps157
   go_wp2_with (at_builtin; go_loud (refine wpList_append_own_none rfl (.tmp 9) (.tmp 11) 39 rfl 0 3 j0 1 Tryz.underlying39 tj _ 1 [aA a] (by rfl) (H1.out.row 1 rfl) (by rfl) ?_))
   go_wp2_with fail
   exact HR.out _ _ (H1.out.ent (i := 1) rfl fun _ h => .inr h)
 · have hrow := (hl.alloc (nbO ⟨7, a, b, c, l, tx, fn, ty, ps⟩ (.slice (some ⟨g, 0, none⟩) l.length cap))).alloc (.cells #[.int .i64 a] 3)
   have H1 := qh h1
   have HROW := qh hrow
   have hnew : ∀ X : Obj, ((w.alloc X).alloc (.cells #[.int .i64 a] 3)).heap[w.heap.size + 1]? = some (.cells #[.int .i64 a] 3) := fun X => by
     rw [show w.heap.size + 1 = (w.alloc X).heap.size by simp]; exact heap_alloc_new _ _
   clear hR h1 hl hrow hcs htk hgc
   dsimp only [aB] at *
   go_enter Tryz.func157, Tryz.ntmps157
   go_wp2_with (at_builtin; go_loud (refine wpList_append_own _ rfl (.tmp 9) (.tmp 11) 39 rfl (w.heap.size + 1) 3 j0 _ 1 8 Tryz.underlying39 tj uz0 uz1 uz2 rfl (by decide) _ 1 [aA a] (by rfl) ?c0 ⟨g, 0, none⟩ l.length cap (l.map aA) (by rfl) (by simp) (World.ownsRow.cells HROW.out rfl) (by simp [aA, Value.oneCell']) (by unfold maxLen; omega) (by omega) (by simp) ?_))
   case c0 => exact ⟨by simp, .inr ⟨w.heap.size + 1, 1, #[.int .i64 a], rfl, Nat.le_refl _, hnew _, Nat.le_refl _, by unfold maxLen; omega, rfl, rfl⟩⟩
   intro v' w' hown' hgrow' _
   go_wp2_with fail
   refine HR.out v' _ ?_
   have hb : Below w.heap.size w w' := ((((Below.refl w.heap.size w).alloc (Nat.le_refl _) _).alloc (by simp) _).grown hgrow' (by simp; omega) (fun k hk => by simp [Value.ownBlock] at hk; omega))
   have h2 := (Prt.Sat.old w).newRow hb hown' (by omega)
   exact h2.ent (i := 1) rfl fun _ h => .inr (by
     unfold inA
     rw [List.length_cons, show l.length + 1 = 1 + l.length by omega, List.map_cons]; exact h)
end
theorem qN {w : World} {nd : Ty.Nd} {lv : Value} (hk : nd.kind ≠ 5 ∧ nd.kind ≠ 6 ∧ nd.kind ≠ 16 ∧ nd.kind ≠ 17 ∧ nd.kind ≠ 18 ∧ nd.kind ≠ 22 ∧ nd.kind ≠ 26) (h1 : 1 ≤ nd.kind ∧ nd.kind ≤ 26) (hc : nd.kind = 20 → 0 ≤ nd.c) (hl : w.ownsRow 0 3 1 lv nd.list.length (nd.list.map aA)) (hln : nd.list.length ≤ 1000000) {R : Ending → World → Prop}
   (hR : ∀ v w', Sat w w' [Prt.bI w, poA nd lv v (Ty.ax nd)] → R (.returned v) w') : Calls Tryz.prog 157 #[aB nd lv] w R := by
 obtain ⟨kd, a, b, c, l, tx, fn, ty, ps⟩ := nd
 dsimp only at h1 hc hl hln hk
 have : kd = 1 ∨ kd = 2 ∨ kd = 3 ∨ kd = 4 ∨ kd = 7 ∨ kd = 8 ∨ kd = 9 ∨ kd = 10 ∨ kd = 11 ∨ kd = 12 ∨ kd = 13 ∨ kd = 14 ∨ kd = 15 ∨ kd = 19 ∨ kd = 20 ∨ kd = 21 ∨ kd = 23 ∨ kd = 24 ∨ kd = 25 := by omega
 rcases this with rfl | rfl | rfl | rfl | rfl | rfl | rfl | rfl | rfl | rfl | rfl | rfl | rfl | rfl | rfl | rfl | rfl | rfl | rfl
 · exact xU hR
 · exact wW hR
 · exact xE hR
 · exact yA hR
 · exact wZ hl hln hR
 · exact yC hR
 · exact yu hR
 · exact sZ hR
 · exact uo hR
 · exact uf hR
 · exact tJ hR
 · exact tu hR
 · exact uV hR
 · exact tq hR
 · exact vw (hc rfl) hR
 · exact uw hR
 · exact uQ hR
 · exact vG hR
 · exact sJ hR
end
section
open Go Go.RowKit
open Prt (Sat As blk pur exs star ah)
open Ty (Frm Vg andX)
abbrev df := List Frm → Vg → Except Ty.Ft (List Frm × Vg)
def bT : List df → df
 | [], frs, v => .ok (frs, v)
 | F :: l, frs, v => andX (F frs v) fun r => bT l r.1 r.2
theorem gQ (F : df) : ∀ (l : List df) (frs : List Frm) (v : Vg), bT (l ++ [F]) frs v = andX (bT l frs v) fun r => F r.1 r.2
 | [], frs, v => by
   show andX (F frs v) (fun r => .ok (r.1, r.2)) = F frs v
   cases F frs v <;> rfl
 | G :: l, frs, v => by
   show andX (G frs v) (fun r => bT (l ++ [F]) r.1 r.2) = andX (andX (G frs v) fun r => bT l r.1 r.2) fun r => F r.1 r.2
   rw [Ty.au]
   congr 1
   funext r
   exact gQ F l r.1 r.2
theorem qp : ∀ (l m : List df) (frs : List Frm) (v : Vg), bT (l ++ m) frs v = andX (bT l frs v) fun r => bT m r.1 r.2
 | [], _, _, _ => rfl
 | F :: l, m, frs, v => by
   show andX (F frs v) (fun r => bT (l ++ m) r.1 r.2) = andX (andX (F frs v) fun r => bT l r.1 r.2) fun r => bT m r.1 r.2
   rw [Ty.au]
   congr 1
   funext r
   exact qp l m r.1 r.2
structure OkS (c : Nat) (frs : List Frm) (v : Vg) : Prop where
 ne : frs ≠ []
 len : frs.length ≤ c
 names : ∀ fr ∈ frs, fr.names.length ≤ c
 ofs : ∀ fr ∈ frs, -1 ≤ fr.of ∧ fr.of ≤ 1000000
 out : v.out.length ≤ c
theorem OkS.mono {c d : Nat} {frs : List Frm} {v : Vg} (h : OkS c frs v) (hd : c ≤ d) : OkS d frs v :=
 ⟨h.ne, Nat.le_trans h.len hd, fun fr hf => Nat.le_trans (h.names fr hf) hd, h.ofs, Nat.le_trans h.out hd⟩
def biB (bb : Nat) (nv tv : Value) (main : Int) (c : Nat) (frs : List Frm) (v : Vg) : As := exs fun p : Nat × Nat => ah [pur (p.1 ≤ c ∧ p.2 ≤ c ∧ OkS c frs v), biA bb nv tv main frs v p.1 p.2]
section
variable {wB w : World} {Fr : As} {bb : Nat} {nv tv : Value} {pg : Ty.Pg} {main : Int} {frs : List Frm} {v : Vg} {c : Nat}
theorem Prt.Sat.eQ (h : Sat wB w [Fr, biB bb nv tv main c frs v]) : ∃ nw nc, nw ≤ c ∧ nc ≤ c ∧ OkS c frs v ∧ Sat wB w [Fr, biA bb nv tv main frs v nw nc] := by
 obtain ⟨⟨nw, nc⟩, h⟩ := h.ex (i := 1) rfl
 have h := h.unpack (i := 1) rfl
 have hp : nw ≤ c ∧ nc ≤ c ∧ OkS c frs v := h.get (i := 1) rfl fun _ ha _ => ha
 exact ⟨nw, nc, hp.1, hp.2.1, hp.2.2, h.pick [0, 2]⟩
theorem Prt.Sat.kY {nw nc : Nat} (h1 : nw ≤ c) (h2 : nc ≤ c) (h3 : OkS c frs v) (h : Sat wB w [Fr, biA bb nv tv main frs v nw nc]) : Sat wB w [Fr, biB bb nv tv main c frs v] := by
 have h4 := (h.fH (P := pur (nw ≤ c ∧ nc ≤ c ∧ OkS c frs v)) (fun _ => ⟨h1, h2, h3⟩)).pick [0, 2, 1]
 exact (Prt.Sat.pack (L := [Fr]) h4).ent (i := 1) rfl fun _ h => ⟨(nw, nc), h⟩
theorem Prt.Sat.Ej {d : Nat} (hd : c ≤ d) (h : Sat wB w [Fr, biB bb nv tv main c frs v]) : Sat wB w [Fr, biB bb nv tv main d frs v] := by
 obtain ⟨nw, nc, h1, h2, h3, h4⟩ := h.eQ
 exact h4.kY (by omega) (by omega) (h3.mono hd)
def eU (wB : World) (nv tv : Value) (bb : Nat) (main : Int) (id : Nat) (k : Nat) (F : df) : Prop :=
 ∀ (frs : List Frm) (v : Vg) (c : Nat) (w : World) (Fr : As), FrB wB Fr → Sat wB w [Fr, biB bb nv tv main c frs v] → c + k ≤ 100000 → ∀ R : Ending → World → Prop,
   (∀ frs' v' w', F frs v = .ok (frs', v') → Sat wB w' [Fr, biB bb nv tv main (c + k) frs' v'] → R (.returned (.tuple #[])) w') →
   (∀ f w', F frs v = .error f → Sat wB w' [Fr] → R (.panicked (aI f)) w') →
   Calls Tryz.prog 132 #[.pointer (some ⟨bb, 0, none⟩), .int .i64 (id : Nat)] w R
def bG (l : List (Nat × df)) : Nat := (l.map Prod.fst).foldr (· + ·) 0
theorem wV (l : List (Nat × df)) : ∀ {j : Nat} (h : j < l.length), bG (l.take (j + 1)) = bG (l.take j) + l[j].1 := by
 induction l with
 | nil => intro j h; simp at h
 | cons p l ih =>
   intro j h
   cases j with
   | zero => simp [bG]
   | succ j =>
     have := ih (j := j) (by simpa using h)
     unfold bG at this ⊢
     simp only [List.take_succ_cons, List.map_cons, List.foldr_cons, List.getElem_cons_succ]
     omega
theorem CW (l : List (Nat × df)) : ∀ j, bG (l.take j) ≤ bG l := by
 induction l with
 | nil => intro j; simp [bG]
 | cons p l ih =>
   intro j
   cases j with
   | zero => simp [bG]
   | succ j =>
     have := ih j
     unfold bG at this ⊢
     simp only [List.take_succ_cons, List.map_cons, List.foldr_cons]
     omega
theorem je (hF : FrB wB Fr) {ids : List Nat} {cs : List (Nat × df)} {lv : Value} (hlen : ids.length = cs.length) (hC : ∀ j (h1 : j < ids.length) (h2 : j < cs.length), eU wB nv tv bb main ids[j] cs[j].1 cs[j].2)
   (hrow : ∀ (w1 : World) (L : List As) (i : Nat), Sat wB w1 L → L[i]? = some Fr → w1.ownsRow 0 3 1 lv ids.length (ids.map aA)) (hn : ids.length ≤ 1000000) (H : Sat wB w [Fr, biB bb nv tv main c frs v]) (hc : c + bG cs ≤ 100000) {R : Ending → World → Prop}
   (hok : ∀ frs' v' w', bT (cs.map Prod.snd) frs v = .ok (frs', v') → Sat wB w' [Fr, biB bb nv tv main (c + bG cs) frs' v'] → R (.returned (.tuple #[])) w')
   (hbad : ∀ f w', bT (cs.map Prod.snd) frs v = .error f → Sat wB w' [Fr] → R (.panicked (aI f)) w') :
   Calls Tryz.prog 82 #[.pointer (some ⟨bb, 0, none⟩), lv] w R := by
 have HOK := qh hok
 have HBAD := qh hbad
 have HF := qh hF
 have HC := qh hC
 have HROW := qh hrow
 have HL := qh hlen
 have H1 := qh H
 obtain ⟨la, lc, rfl⟩ := ag (hrow w _ 0 H rfl)
 have HCC := qh hc
 clear hok hbad hF hC hrow hlen H hc
 go_enter Tryz.func82, Tryz.ntmps82
 go_wp2_with fail
 go_loopw [8] (fun i wr => ∃ (j : Nat) (frs1 : List Frm) (v1 : Vg), i = .int .i64 j ∧ j ≤ ids.length ∧ Hid (bT ((cs.map Prod.snd).take j) frs v = .ok (frs1, v1)) ∧ Hid (Sat wB wr [Fr, biB bb nv tv main (c + bG (cs.take j)) frs1 v1])) (fun i _ => ids.length - (intOf i).toNat)
 case atStart => exact ⟨0, frs, v, rfl, Nat.zero_le _, rfl, H1.out⟩
 case round =>
   obtain ⟨j, frs1, v1, rfl, hj, hE, hS⟩ := hrel
   by_cases hlt : j < ids.length
   · obtain ⟨gl, capl, e, hgl, d0⟩ := ints_at (HROW.out wr _ 0 hS.out rfl) j hlt
     cases e
     have hj2 : j < cs.length := by rw [← HL.out]; exact hlt
     have hst := wV cs hj2
     have hle := CW cs (j + 1)
     have htk : (cs.map Prod.snd).take (j + 1) = (cs.map Prod.snd).take j ++ [cs[j].2] := by rw [List.take_succ_eq_append_getElem (by simpa using hj2)]; simp
     have HTK : Hid (bT ((cs.map Prod.snd).take (j + 1)) frs v = cs[j].2 frs1 v1) := by show _ = _; rw [htk, gQ, hE.out]; rfl
     have HST := qh (HC.out j hlt hj2 frs1 v1 _ wr _ HF.out hS.out (by have := HCC.out; omega))
     have HSM := qh hst
     have HER : Hid (∀ f, cs[j].2 frs1 v1 = .error f → bT (cs.map Prod.snd) frs v = .error f) := fun f hf => by
       have h1 : bT ((cs.map Prod.snd).take (j + 1)) frs v = .error f := by rw [HTK.out, hf]
       rw [← List.take_append_drop (j + 1) (cs.map Prod.snd), qp, h1]; rfl
     clear hst hle htk
     generalize ids[j] = ij at *
     go_wp2_with fail
     refine HST.out _ (fun frs2 v2 w4 hq h4 => ?_) (fun f w4 hq h4 => ?_)
     · have HE2 : Hid (bT ((cs.map Prod.snd).take (j + 1)) frs v = .ok (frs2, v2)) := by show _ = _; rw [HTK.out, hq]
       have H4 := qh h4
       clear h4 hq
       go_wp2_with fail
       go_roundw
       case rel => exact ⟨j + 1, frs2, v2, by go_num, by omega, HE2, by show Sat _ _ _; rw [HSM.out, ← Nat.add_assoc]; exact H4.out⟩
       case measure => simp [intOf]; omega
     · exact ⟨rfl, HBAD.out f w4 (HER.out f hq) h4⟩
   · have hje : j = cs.length := by have := HL.out; omega
     have hE2 := hE.out
     have h6 := hS.out
     rw [hje, List.take_of_length_le (by simp)] at hE2
     rw [hje, List.take_of_length_le (Nat.le_refl _)] at h6
     have HE2 := qh hE2
     have H6 := qh h6
     clear hE2 h6 hje
     go_wp2_with fail
     go_end0
     exact HOK.out _ _ _ HE2.out H6.out
end
def gV (x : ByteArray) (id : Nat) : List Frm → Vg → List Frm × Vg
 | [], v => ([], v)
 | fr :: l, v => (Ty.addN fr x id :: l, Ty.addW v id fr.of)
theorem AA {c : Nat} {frs : List Frm} {v : Vg} {x : ByteArray} {id : Nat} (h : OkS c frs v) : OkS (c + 1) (gV x id frs v).1 (gV x id frs v).2 := by
 cases frs with
 | nil => exact absurd rfl h.ne
 | cons fr l =>
   refine ⟨by simp [gV], by have := h.len; simp [gV] at *; omega, fun f hf => ?_, fun f hf => ?_, Nat.le_trans h.out (by omega)⟩
   · rcases List.mem_cons.1 hf with rfl | hf
     · have := h.names fr (by simp); simp [Ty.addN]; omega
     · have := h.names f (by simp [hf]); omega
   · rcases List.mem_cons.1 hf with rfl | hf
     · exact h.ofs fr (by simp)
     · exact h.ofs f (by simp [hf])
section
variable {wB w : World} {Fr : As} {bb : Nat} {nv tv : Value} {pg : Ty.Pg} {main : Int} {frs : List Frm} {v : Vg} {c : Nat}
theorem jO (hP : PB wB nv tv pg) (hF : FrB wB Fr) {id : Nat} {nd : Ty.Nd} (hn : pg.ns[id]? = some nd) (hx : nd.text.size ≤ maxLen) (H : Sat wB w [Fr, biB bb nv tv main c frs v]) (hc : c + 1 ≤ 100000) {R : Ending → World → Prop}
   (hR : ∀ w', Sat wB w' [Fr, biB bb nv tv main (c + 1) (gV nd.text id frs v).1 (gV nd.text id frs v).2] → R (.returned (.tuple #[])) w') :
   Calls Tryz.prog 286 #[.pointer (some ⟨bb, 0, none⟩), .int .i64 (id : Nat)] w R := by
 obtain ⟨nw, nc, h1, h2, h3, h4⟩ := H.eQ
 cases frs with
 | nil => exact absurd rfl h3.ne
 | cons fr l =>
   have hnm := h3.names fr (by simp)
   have hl := h3.len
   rw [List.length_cons] at hl
   exact zqh hP hF hn hx h4 (by omega) (by omega) (by omega) (h3.ofs fr (by simp)) fun w' h5 => hR w' (h5.kY (by omega) (by omega) (AA h3))
end
def oM (p : Nat) (x : ByteArray) (id : Nat) (fn : Bool) (G : df) : df := fun frs v =>
 match frs with
 | [] => .ok ([], v)
 | fr :: l => if (Ty.lookN fr.names x).isSome then .error (6, p) else if fn then G (gV x id (fr :: l) v).1 (gV x id (fr :: l) v).2 else andX (G (fr :: l) v) fun r => .ok (gV x id r.1 r.2)
section
variable {wB : World} {nv tv : Value} {pg : Ty.Pg} {bb : Nat} {main : Int}
theorem CB (hP : PB wB nv tv pg) {id p b : Nat} {x : ByteArray} {ty : Int} (hn : pg.ns[id]? = some { Ty.ndOf 17 p with text := x, ty := ty, a := b }) (hx : x.size ≤ maxLen) {nb : Ty.Nd} (hbn : pg.ns[b]? = some nb) {fn : Bool} (hfn : (((nb.kind : Nat) : Int) == 6) = fn)
   {k : Nat} {G : df} (C : eU wB nv tv bb main b k G) {frs : List Frm} {v : Vg} {c : Nat} {w : World} {Fr : As} (hF : FrB wB Fr) (H : Sat wB w [Fr, biB bb nv tv main c frs v]) (hc : c + (k + 1) ≤ 100000) {R : Ending → World → Prop}
   (hok : ∀ frs' v' w', oM p x id fn G frs v = .ok (frs', v') → Sat wB w' [Fr, biB bb nv tv main (c + (k + 1)) frs' v'] → R (.returned (.tuple #[])) w')
   (hbad : ∀ f w', oM p x id fn G frs v = .error f → Sat wB w' [Fr] → R (.panicked (aI f)) w') :
   Calls Tryz.prog 215 #[.pointer (some ⟨bb, 0, none⟩), .int .i64 (id : Nat)] w R := by
 obtain ⟨nw, nc, hnw, hnc, hOk, h1⟩ := H.eQ
 obtain ⟨fr, l, rfl⟩ : ∃ fr l, frs = fr :: l := by
   cases frs with
   | nil => exact absurd rfl hOk.ne
   | cons fr l => exact ⟨fr, l, rfl⟩
 have HOK := qh hok
 have HBAD := qh hbad
 have HF := qh hF
 have HND := qh (fun (w1 : World) (hb : Below wB.heap.size wB w1) h0 hbb R hR => bH (w := w1) (bb := bb) (R := R) hP hb hn h0 hbb hR)
 obtain ⟨sv, ov, wb, cb, mb, ms, hms, h2⟩ := h1.oV
 have k0 := h2.cell 1 rfl 0 rfl
 have hbb := h2.lt 1 rfl
 have H2 := qh h2
 have HMS := qh hms
 clear hok hbad h2 h1 hms H
 have f0 := fun of => qV mb of
 go_enter Tryz.func215, Tryz.ntmps215
 go_wp2_with fail
 refine HND.out w (HF.out _ _ 0 H2.out rfl) k0 hbb _ (fun lv w2 hb2 hl => ?_)
 have h3 := H2.out.below hb2
 obtain ⟨la, lc, rfl⟩ := ag hl
 unfold aB
 dsimp only [Ty.ndOf]
 have h4 := h3.aj (nbO ⟨17, b, 0, 0, [], x, 0, ty, p⟩ (.slice la 0 lc)) w2.heap.size
 have hml : ms.length ≤ 1000000 := by have := hOk.len; have := congrArg List.length HMS.out; simp at *; omega
 obtain ⟨g, cap, rfl, hg, d0, d1⟩ := lg (h4.row 2 rfl)
 have c3 := h4.cell 1 rfl 3 rfl
 have p5 := h4.cell 8 rfl 5 rfl
 have hbb3 := h4.lt 1 rfl
 have HZ : Hid (∀ W : World, (zeroValue 3).run Tryz.prog W = .ok (.int .i64 0) W) := fun W => by simp [zeroValue, go_sem]; rfl
 have H4 := qh h4
 clear h3 h4 hb2 hl H2 k0 hbb
 dsimp only at p5
 go_wp2_with fail
 go_region_held3 (fun w' => w'.cell? ⟨w2.heap.size, 5, none⟩ = some (.string x)) (go_keep)
   ((go_at_call 217; refine jC (w := (w2.alloc (nbO ⟨17, b, 0, 0, [], x, 0, ty, p⟩ (.slice la 0 lc))).drew) c3 d0 d1 hbb3 hg hml (fun w5 hb5 => ?_); have h5 := H4.out.drew.below hb5; have s5 : w5.cell? ⟨w2.heap.size, 5, none⟩ = some (.string x) := h5.cell 8 rfl 5 rfl; obtain ⟨D, hD, hDn⟩ := h5.jr 6 rfl; obtain ⟨u, ps, hrun5, hu⟩ := hD.look_ok l7 Tryz.underlying193 (HZ.out w5) (plainElem_int Tryz.underlying3 (by decide)) (WideMaps.keyOf_string_mk Tryz.underlying9 hx); obtain ⟨cc, rfl, _, _⟩ := plainElem_int_inv Tryz.underlying3 hu; rw [(hDn.2 x).1] at hrun5; have H5 := qh h5; clear h5 hD hDn hb5 hu))
 all_goals
   have h6 : Sat wB w5 [Fr, biA bb nv tv main (fr :: l) v nw nc, blk w2.heap.size (nbO ⟨17, b, 0, 0, [], x, 0, ty, p⟩ (.slice la 0 lc))] := by
     have h7 := (Prt.Sat.pack (L := [_, _, _, _, _, _, _]) (M := [Fr, blk w2.heap.size (nbO ⟨17, b, 0, 0, [], x, 0, ty, p⟩ (.slice la 0 lc))]) (H5.out.pick [1, 2, 3, 4, 5, 6, 7, 0, 8])).pick [7, 0, 1, 2, 3, 4, 5, 6]
     exact (Prt.Sat.vH (Fr := ah [Fr, blk w2.heap.size (nbO ⟨17, b, 0, 0, [], x, 0, ty, p⟩ (.slice la 0 lc))]) HMS.out h7).un3
   have p8 := h6.cell 2 rfl 8 rfl
   have p1 := h6.cell 2 rfl 1 rfl
   dsimp only at p8 p1
   have k0 := H5.out.cell 1 rfl 0 rfl
   have hbb5 := H5.out.lt 1 rfl
   have H6 := qh h6
   clear h6 H4 H5 hrun5 s5 c3 p5 d0 d1 hg
   cases hq : (Ty.lookN fr.names x).isSome with
   | true =>
     have HBD := qh (HBAD.out (6, p) w5 (by unfold oM; dsimp only; rw [hq]; rfl) (H6.out.pick [0]))
     clear hq
     go_wp2_with fail
     refine kP (e := 6) (p := p) ?_
     exact ⟨rfl, HBD.out⟩
   | false =>
     have HQ := qh hq
     have HN := qh hn
     have HOKS := qh hOk
     clear hq hn hOk
     go_wp2_with fail
     refine bH hP (HF.out w5 _ 0 H6.out rfl) hbn k0 hbb5 (fun lv2 w6 hb6 hl6 => ?_)
     have h7 := H6.out.below hb6
     have p1 := h7.cell 2 rfl 1 rfl
     have fk := zy nb lv2
     obtain ⟨la2, lc2, rfl⟩ := ag hl6
     have h8 := (Prt.Sat.pack (L := [_]) (M := [Fr, blk w2.heap.size (nbO ⟨17, b, 0, 0, [], x, 0, ty, p⟩ (.slice la 0 lc))]) (h7.pick [1, 0, 2])).pick [1, 0]
     have H8 := qh (h8.kY hnw hnc HOKS.out)
     have HF2 := qh (HF.out.ah (M := [blk w2.heap.size (nbO ⟨17, b, 0, 0, [], x, 0, ty, p⟩ (.slice la 0 lc))]))
     clear h7 h8 hb6 hl6 H6 k0 p8
     dsimp only at p1
     unfold aB
     cases fn with
     | true =>
       go_wp2_with fail
       refine jO hP HF2.out HN.out hx H8.out (by omega) (fun w7 h9 => ?_)
       have p1 := (h9.unpack (i := 0) rfl).cell 2 rfl 1 rfl
       dsimp only at p1
       have H9 := qh h9
       clear h9
       go_wp2_with fail
       refine C _ _ _ w7 _ HF2.out H9.out (by omega) _ (fun frs' v' w8 hq8 h10 => ?_) (fun f w8 hq8 h10 => ?_)
       · have HG := qh (HOK.out frs' v' w8 (by unfold oM; dsimp only; rw [HQ.out]; exact hq8) (by rw [show c + (k + 1) = c + 1 + k by omega]; exact h10.un3.pick [0, 1]))
         clear h10 hq8
         go_wp2_with fail
         go_end0
         exact HG.out
       · exact ⟨rfl, HBAD.out f w8 (by unfold oM; dsimp only; rw [HQ.out]; exact hq8) ((h10.unpack (i := 0) rfl).pick [0])⟩
     | false =>
       go_wp2_with fail
       refine C _ _ _ w6 _ HF2.out H8.out (by omega) _ (fun frs' v' w8 hq8 h10 => ?_) (fun f w8 hq8 h10 => ?_)
       · have HQ8 := qh hq8
         have H10 := qh h10
         clear h10 hq8
         go_wp2_with fail
         refine jO hP HF2.out HN.out hx H10.out (by omega) (fun w9 h11 => ?_)
         have HG := qh (HOK.out _ _ w9 (by unfold oM; dsimp only; rw [HQ.out]; simp only [Bool.false_eq_true, if_false]; rw [HQ8.out]; rfl) (by rw [show c + (k + 1) = c + k + 1 by omega]; exact h11.un3.pick [0, 1]))
         clear h11
         go_wp2_with fail
         go_end0
         exact HG.out
       · exact ⟨rfl, HBAD.out f w8 (by unfold oM; dsimp only; rw [HQ.out]; simp only [Bool.false_eq_true, if_false]; rw [hq8]; rfl) ((h10.unpack (i := 0) rfl).pick [0])⟩
end
end
end Go.Proofs.YtdlbhiaceheffabGreatDoor
