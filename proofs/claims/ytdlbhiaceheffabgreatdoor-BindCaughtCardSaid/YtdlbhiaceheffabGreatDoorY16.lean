/- Parts of memory of the reference's Sight; walks of Has and partsOf. -/
import Derived.Laws.AppendOwnNone
import Derived.Test.YtdlbhiaceheffabGreatDoorY15
set_option linter.all false
set_option maxRecDepth 100000
set_option maxHeartbeats 4000000
namespace Go.Proofs.YtdlbhiaceheffabGreatDoor
section
open Go Go.RowKit
open Prt (Sat As blk pur exs star ah)
open Ty (Kn Sg)
theorem rF : (Tryz.prog.info? 154).map (fun i => (i.zero, i.size, i.bytes)) = some (some (.agg #[.string ⟨#[]⟩, .int .i64 0, .int .i64 0, .int .i64 0]), 4, 40) := by kernel_rfl
theorem nO : (Tryz.prog.info? 43).map (fun i => (i.zero, i.size, i.bytes)) = some (some (.agg #[.int .i64 0, .int .i64 0]), 2, 16) := by kernel_rfl
abbrev nbO (nd : Ty.Nd) (lv : Value) : Obj := .cells #[.int .i64 nd.kind, .int .i64 nd.a, .int .i64 nd.b, .int .i64 nd.c, lv, .string nd.text, .int .i64 nd.n, .int .i64 nd.ty, .int .i64 nd.pos] 66 (0, 0)
def bZ (m : Kn) : List Value := [.string m.text, .int .i64 m.node, .int .i64 m.owner, .int .i64 m.f]
def dD (p : Nat × Nat) : List Value := [.int .i64 p.1, .int .i64 p.2]
def knA (v : Value) (l : List Kn) : As := Prt.row 154 4 v l.length (l.flatMap bZ)
def bdA (v : Value) (l : List (Nat × Nat)) : As := Prt.row 43 2 v l.length (l.flatMap dD)
abbrev siO (nv tv : Value) (main : Int) (ev ov cv : Value) (f : Ty.Ft) : Obj := .cells #[nv, tv, .int .i64 main, ev, ov, cv, .int .i64 f.1, .int .i64 f.2] 95 (0, 0)
def D9 (sb : Nat) (nv tv : Value) (main : Int) (env : List Kn) (s : Sg) (f : Ty.Ft) (q : Value × Value × Value) : List As :=
 [blk sb (siO nv tv main q.1 q.2.1 q.2.2 f), knA q.1 env, bdA q.2.1 s.out, inA q.2.2 s.caught]
def siA (sb : Nat) (nv tv : Value) (main : Int) (env : List Kn) (s : Sg) (f : Ty.Ft) : As := exs fun q => ah (D9 sb nv tv main env s f q)
section
variable {w0 w : World} {Fr : As} {sb : Nat} {nv tv : Value} {main : Int} {env : List Kn} {s : Sg} {f : Ty.Ft}
theorem Prt.Sat.ik (h : Sat w0 w [Fr, siA sb nv tv main env s f]) : ∃ ev ov cv, Sat w0 w (Fr :: D9 sb nv tv main env s f (ev, ov, cv)) := by
 obtain ⟨⟨ev, ov, cv⟩, h⟩ := h.ex (i := 1) rfl
 exact ⟨ev, ov, cv, h.unpack (i := 1) rfl⟩
theorem Prt.Sat.fP {q : Value × Value × Value} (h : Sat w0 w (Fr :: D9 sb nv tv main env s f q)) : Sat w0 w [Fr, siA sb nv tv main env s f] :=
 (Prt.Sat.pack (L := [Fr]) h).ent (i := 1) rfl fun _ h => ⟨q, h⟩
end
theorem qX {v : Value} {l : List Kn} {m : Kn} {a : Prt.Hp} (h : Prt.row 154 4 v (l.length + 1) (l.flatMap bZ ++ bZ m) a) : knA v (l ++ [m]) a := by
 unfold knA
 rw [List.length_append, List.flatMap_append]
 simpa using h
theorem lU {v : Value} {l : List (Nat × Nat)} {p : Nat × Nat} {a : Prt.Hp} (h : Prt.row 43 2 v (l.length + 1) (l.flatMap dD ++ dD p) a) : bdA v (l ++ [p]) a := by
 unfold bdA
 rw [List.length_append, List.flatMap_append]
 simpa using h
theorem ku (l : List Kn) : (l.flatMap bZ).length = l.length * 4 := by
 induction l with
 | nil => rfl
 | cons a l ih => rw [List.flatMap_cons, List.length_append, ih, List.length_cons]; simp [bZ]; omega
theorem Ea {a : Option Addr} {n m cap : Nat} {l x : List Kn} {h : Prt.Hp} (hn : n = (l ++ x).length) (hm : m = l.length) (hr : Prt.row 154 4 (.slice a n cap) n ((l ++ x).flatMap bZ) h) : knA (.slice a m cap) l h := by
 subst hn hm
 unfold knA
 refine ⟨ku l, ?_⟩
 rcases hr.2 with ⟨h1, h2⟩ | ⟨g, cap2, cur, h1, h2, h3, h4, h5, h6⟩
 · have : l = [] := by
     rw [List.length_append] at h2
     exact List.length_eq_zero_iff.1 (by omega)
   subst this
   simp only [Value.slice.injEq] at h1
   obtain ⟨rfl, _, rfl⟩ := h1
   exact .inl ⟨rfl, rfl⟩
 · simp only [Value.slice.injEq] at h1
   obtain ⟨rfl, _, rfl⟩ := h1
   refine .inr ⟨g, cap, cur, rfl, h2, by rw [List.length_append] at h3; omega, h4, h5, ?_⟩
   have := congrArg (List.take (l.length * 4)) h6
   rw [List.take_take, List.flatMap_append, List.take_left' (ku l), List.length_append, Nat.min_eq_left (by omega)] at this
   exact this
theorem pW {w : World} {v : Value} {l : List Kn} (h : w.ownsRow 0 154 4 v l.length (l.flatMap bZ)) (k : Nat) (hk : k < l.length) :
   ∃ g cap : Nat, v = .slice (some ⟨g, 0, none⟩) l.length cap ∧ g < w.heap.size ∧ w.cell? ⟨g, k * 4, none⟩ = some (.string l[k].text) ∧ w.cell? ⟨g, k * 4 + 1, none⟩ = some (.int .i64 l[k].node) ∧ w.cell? ⟨g, k * 4 + 2, none⟩ = some (.int .i64 l[k].owner) ∧ w.cell? ⟨g, k * 4 + 3, none⟩ = some (.int .i64 l[k].f) := by
 obtain ⟨g, cap, rfl, _, hg⟩ := h.form (by omega)
 have hc := fun j u hj => World.ownsRow.cells h (g := g) rfl j u hj
 have hf := flat_get bZ 4 (fun _ => rfl) l k hk
 refine ⟨g, cap, rfl, hg, ?_, ?_, ?_, ?_⟩
 · have := hc (k * 4 + 0) _ (by rw [hf 0 (by omega)]; rfl)
   rwa [Addr.add_lit, Nat.zero_add] at this
 · have := hc (k * 4 + 1) _ (by rw [hf 1 (by omega)]; rfl)
   rwa [Addr.add_lit, Nat.zero_add] at this
 · have := hc (k * 4 + 2) _ (by rw [hf 2 (by omega)]; rfl)
   rwa [Addr.add_lit, Nat.zero_add] at this
 · have := hc (k * 4 + 3) _ (by rw [hf 3 (by omega)]; rfl)
   rwa [Addr.add_lit, Nat.zero_add] at this
theorem CZ (x y : Nat) (l : List Nat) : decide (x ∈ y :: l) = (decide (x = y) || decide (x ∈ l)) := by
 by_cases h : x = y <;> simp [h]
theorem vN (w : World) (v : Value) (l : List Nat) (hrow : w.ownsRow 0 3 1 v l.length (l.map aA)) (hl : l.length ≤ 1000000) (x : Nat) {R : Ending → World → Prop}
   (hR : R (.returned (.bool (decide (x ∈ l)))) w) : Calls Tryz.prog 46 #[v, .int .i64 x] w R := by
 have HR := qh hR
 have HROW := qh hrow
 obtain ⟨fa, fc, rfl⟩ := ag hrow
 clear hR hrow
 go_enter Tryz.func46, Tryz.ntmps46
 go_wp2_with fail
 go_loop [5] (fun i => ∃ k : Nat, k ≤ l.length ∧ i = .int .i64 k ∧ Hid (decide (x ∈ l) = decide (x ∈ l.drop k))) (fun i => l.length - (intOf i).toNat)
 case atStart => exact ⟨0, by omega, rfl, rfl⟩
 case round =>
   obtain ⟨k, hk, rfl, hE⟩ := hrel
   by_cases hlt : k < l.length
   · obtain ⟨gf, capf, e, hgf, d0⟩ := ints_at HROW.out k hlt
     cases e
     have HE2 : Hid (decide (x ∈ l) = (decide (x = l[k]) || decide (x ∈ l.drop (k + 1)))) := by
       show _ = _
       rw [hE.out, List.drop_eq_getElem_cons hlt]
       exact CZ _ _ _
     generalize l[k] = y at *
     by_cases hxy : x = y
     · have kk : ((y : Int) == (x : Int)) = true := by simp [hxy]
       have HE3 : Hid (decide (x ∈ l) = true) := by show _ = _; rw [HE2.out, decide_eq_true hxy]; rfl
       clear hxy
       go_wp2_with fail
       refine dh HR.out (congrArg Value.bool ?_)
       rw [HE3.out]
     · have kk : ((y : Int) == (x : Int)) = false := beq_eq_false_iff_ne.2 (by omega)
       have HE3 : Hid (decide (x ∈ l) = decide (x ∈ l.drop (k + 1))) := by show _ = _; rw [HE2.out, decide_eq_false hxy]; rfl
       clear hxy
       go_wp2_with fail
       go_round
       case rel => exact ⟨k + 1, by omega, by go_num, HE3⟩
       case measure => simp [intOf]; omega
   · have HE2 : Hid (decide (x ∈ l) = false) := by show _ = _; rw [hE.out, List.drop_eq_nil_of_le (by omega)]; simp
     go_wp2_with fail
     refine dh HR.out (congrArg Value.bool ?_)
     rw [HE2.out]
end
section
open Go Go.RowKit
open Prt (Sat As blk pur exs star ah)
namespace Ty
def ax (nd : Nd) : List Nat :=
 if nd.kind = 7 then nd.a :: nd.list
 else if nd.kind = 10 ∨ nd.kind = 11 ∨ nd.kind = 26 then nd.list
 else if nd.kind = 9 ∨ nd.kind = 12 ∨ nd.kind = 19 ∨ nd.kind = 23 then [nd.a, nd.b]
 else if nd.kind = 20 then [nd.a, nd.b, nd.c.toNat]
 else if nd.kind = 22 then (if nd.c < 0 then [nd.a, nd.b] else [nd.a, nd.b, nd.c.toNat])
 else if nd.kind ≤ 6 ∨ nd.kind = 16 then []
 else [nd.a]
end Ty
def poA (nd : Ty.Nd) (lv v : Value) (ids : List Nat) : As := fun h => (v = lv ∧ ids = nd.list) ∨ inA v ids h
theorem aG {b n : Nat} {cs : Array Value} {l : List Nat} {a : Prt.Hp} (h : blk b (.cells cs 3 (0, 0)) a) (hn : n = l.length) (hl : l.length ≤ maxLen) (hs : cs.toList = l.map aA) : inA (.slice (some ⟨b, 0, none⟩) n n) l a := by
 subst hn
 refine Prt.ji h hl ?_ hs
 have := congrArg List.length hs
 simpa using this
section
variable {w : World} {a b fn ps : Nat} {c ty : Int} {l : List Nat} {tx : ByteArray} {lv : Value}
theorem sD {R : Ending → World → Prop} (hR : ∀ v w', Sat w w' [Prt.bI w, poA ⟨10, a, b, c, l, tx, fn, ty, ps⟩ lv v l] → R (.returned v) w') :
   Calls Tryz.prog 89 #[aB ⟨10, a, b, c, l, tx, fn, ty, ps⟩ lv] w R := by
 have h1 := ((Prt.Sat.old w).ay (nbO ⟨10, a, b, c, l, tx, fn, ty, ps⟩ lv)).fH (P := poA ⟨10, a, b, c, l, tx, fn, ty, ps⟩ lv lv l) (fun _ => .inl ⟨rfl, rfl⟩)
 have HR := qh (hR _ _ h1)
 clear hR h1
 dsimp only [aB] at *
 go_enter Tryz.func89, Tryz.ntmps89
 go_wp2_with fail
 exact HR.out
theorem sU {R : Ending → World → Prop} (hR : ∀ v w', Sat w w' [Prt.bI w, poA ⟨11, a, b, c, l, tx, fn, ty, ps⟩ lv v l] → R (.returned v) w') :
   Calls Tryz.prog 89 #[aB ⟨11, a, b, c, l, tx, fn, ty, ps⟩ lv] w R := by
 have h1 := ((Prt.Sat.old w).ay (nbO ⟨11, a, b, c, l, tx, fn, ty, ps⟩ lv)).fH (P := poA ⟨11, a, b, c, l, tx, fn, ty, ps⟩ lv lv l) (fun _ => .inl ⟨rfl, rfl⟩)
 have HR := qh (hR _ _ h1)
 clear hR h1
 dsimp only [aB] at *
 go_enter Tryz.func89, Tryz.ntmps89
 go_wp2_with fail
 exact HR.out
theorem uM {R : Ending → World → Prop} (hR : ∀ v w', Sat w w' [Prt.bI w, poA ⟨26, a, b, c, l, tx, fn, ty, ps⟩ lv v l] → R (.returned v) w') :
   Calls Tryz.prog 89 #[aB ⟨26, a, b, c, l, tx, fn, ty, ps⟩ lv] w R := by
 have h1 := ((Prt.Sat.old w).ay (nbO ⟨26, a, b, c, l, tx, fn, ty, ps⟩ lv)).fH (P := poA ⟨26, a, b, c, l, tx, fn, ty, ps⟩ lv lv l) (fun _ => .inl ⟨rfl, rfl⟩)
 have HR := qh (hR _ _ h1)
 clear hR h1
 dsimp only [aB] at *
 go_enter Tryz.func89, Tryz.ntmps89
 go_wp2_with fail
 exact HR.out
theorem yj {R : Ending → World → Prop} (hR : ∀ v w', Sat w w' [Prt.bI w, poA ⟨1, a, b, c, l, tx, fn, ty, ps⟩ lv v []] → R (.returned v) w') :
   Calls Tryz.prog 89 #[aB ⟨1, a, b, c, l, tx, fn, ty, ps⟩ lv] w R := by
 have h1 := (((Prt.Sat.old w).ay (nbO ⟨1, a, b, c, l, tx, fn, ty, ps⟩ lv)).nil 3 1).ent (i := 1) rfl (Q := poA ⟨1, a, b, c, l, tx, fn, ty, ps⟩ lv (.slice none 0 0) []) (fun _ h => .inr h)
 have HR := qh (hR _ _ h1)
 clear hR h1
 dsimp only [aB] at *
 go_enter Tryz.func89, Tryz.ntmps89
 go_wp2_with fail
 exact HR.out
theorem xy {R : Ending → World → Prop} (hR : ∀ v w', Sat w w' [Prt.bI w, poA ⟨2, a, b, c, l, tx, fn, ty, ps⟩ lv v []] → R (.returned v) w') :
   Calls Tryz.prog 89 #[aB ⟨2, a, b, c, l, tx, fn, ty, ps⟩ lv] w R := by
 have h1 := (((Prt.Sat.old w).ay (nbO ⟨2, a, b, c, l, tx, fn, ty, ps⟩ lv)).nil 3 1).ent (i := 1) rfl (Q := poA ⟨2, a, b, c, l, tx, fn, ty, ps⟩ lv (.slice none 0 0) []) (fun _ h => .inr h)
 have HR := qh (hR _ _ h1)
 clear hR h1
 dsimp only [aB] at *
 go_enter Tryz.func89, Tryz.ntmps89
 go_wp2_with fail
 exact HR.out
theorem yI {R : Ending → World → Prop} (hR : ∀ v w', Sat w w' [Prt.bI w, poA ⟨3, a, b, c, l, tx, fn, ty, ps⟩ lv v []] → R (.returned v) w') :
   Calls Tryz.prog 89 #[aB ⟨3, a, b, c, l, tx, fn, ty, ps⟩ lv] w R := by
 have h1 := (((Prt.Sat.old w).ay (nbO ⟨3, a, b, c, l, tx, fn, ty, ps⟩ lv)).nil 3 1).ent (i := 1) rfl (Q := poA ⟨3, a, b, c, l, tx, fn, ty, ps⟩ lv (.slice none 0 0) []) (fun _ h => .inr h)
 have HR := qh (hR _ _ h1)
 clear hR h1
 dsimp only [aB] at *
 go_enter Tryz.func89, Tryz.ntmps89
 go_wp2_with fail
 exact HR.out
theorem yE {R : Ending → World → Prop} (hR : ∀ v w', Sat w w' [Prt.bI w, poA ⟨4, a, b, c, l, tx, fn, ty, ps⟩ lv v []] → R (.returned v) w') :
   Calls Tryz.prog 89 #[aB ⟨4, a, b, c, l, tx, fn, ty, ps⟩ lv] w R := by
 have h1 := (((Prt.Sat.old w).ay (nbO ⟨4, a, b, c, l, tx, fn, ty, ps⟩ lv)).nil 3 1).ent (i := 1) rfl (Q := poA ⟨4, a, b, c, l, tx, fn, ty, ps⟩ lv (.slice none 0 0) []) (fun _ h => .inr h)
 have HR := qh (hR _ _ h1)
 clear hR h1
 dsimp only [aB] at *
 go_enter Tryz.func89, Tryz.ntmps89
 go_wp2_with fail
 exact HR.out
theorem nI {R : Ending → World → Prop} (hR : ∀ v w', Sat w w' [Prt.bI w, poA ⟨5, a, b, c, l, tx, fn, ty, ps⟩ lv v []] → R (.returned v) w') :
   Calls Tryz.prog 89 #[aB ⟨5, a, b, c, l, tx, fn, ty, ps⟩ lv] w R := by
 have h1 := (((Prt.Sat.old w).ay (nbO ⟨5, a, b, c, l, tx, fn, ty, ps⟩ lv)).nil 3 1).ent (i := 1) rfl (Q := poA ⟨5, a, b, c, l, tx, fn, ty, ps⟩ lv (.slice none 0 0) []) (fun _ h => .inr h)
 have HR := qh (hR _ _ h1)
 clear hR h1
 dsimp only [aB] at *
 go_enter Tryz.func89, Tryz.ntmps89
 go_wp2_with fail
 exact HR.out
theorem xh {R : Ending → World → Prop} (hR : ∀ v w', Sat w w' [Prt.bI w, poA ⟨6, a, b, c, l, tx, fn, ty, ps⟩ lv v []] → R (.returned v) w') :
   Calls Tryz.prog 89 #[aB ⟨6, a, b, c, l, tx, fn, ty, ps⟩ lv] w R := by
 have h1 := (((Prt.Sat.old w).ay (nbO ⟨6, a, b, c, l, tx, fn, ty, ps⟩ lv)).nil 3 1).ent (i := 1) rfl (Q := poA ⟨6, a, b, c, l, tx, fn, ty, ps⟩ lv (.slice none 0 0) []) (fun _ h => .inr h)
 have HR := qh (hR _ _ h1)
 clear hR h1
 dsimp only [aB] at *
 go_enter Tryz.func89, Tryz.ntmps89
 go_wp2_with fail
 exact HR.out
theorem ug {R : Ending → World → Prop} (hR : ∀ v w', Sat w w' [Prt.bI w, poA ⟨16, a, b, c, l, tx, fn, ty, ps⟩ lv v []] → R (.returned v) w') :
   Calls Tryz.prog 89 #[aB ⟨16, a, b, c, l, tx, fn, ty, ps⟩ lv] w R := by
 have h1 := (((Prt.Sat.old w).ay (nbO ⟨16, a, b, c, l, tx, fn, ty, ps⟩ lv)).nil 3 1).ent (i := 1) rfl (Q := poA ⟨16, a, b, c, l, tx, fn, ty, ps⟩ lv (.slice none 0 0) []) (fun _ h => .inr h)
 have HR := qh (hR _ _ h1)
 clear hR h1
 dsimp only [aB] at *
 go_enter Tryz.func89, Tryz.ntmps89
 go_wp2_with fail
 exact HR.out
theorem yx {R : Ending → World → Prop} (hR : ∀ v w', Sat w w' [Prt.bI w, poA ⟨9, a, b, c, l, tx, fn, ty, ps⟩ lv v [a, b]] → R (.returned v) w') :
   Calls Tryz.prog 89 #[aB ⟨9, a, b, c, l, tx, fn, ty, ps⟩ lv] w R := by
 have h1 := (((Prt.Sat.old w).ay (nbO ⟨9, a, b, c, l, tx, fn, ty, ps⟩ lv)).aj (.cells #[.int .i64 a, .int .i64 b] 3) (w.heap.size + 1)).ent (i := 1) rfl (Q := poA ⟨9, a, b, c, l, tx, fn, ty, ps⟩ lv (.slice (some ⟨w.heap.size + 1, 0, none⟩) 2 2) [a, b]) (fun _ h => .inr (aG h rfl (by simp [maxLen]) (by simp [aA])))
 have HR := qh (hR _ _ h1)
 clear hR h1
 dsimp only [aB] at *
 go_enter Tryz.func89, Tryz.ntmps89
 go_wp2_with fail
 exact HR.out
theorem uS {R : Ending → World → Prop} (hR : ∀ v w', Sat w w' [Prt.bI w, poA ⟨12, a, b, c, l, tx, fn, ty, ps⟩ lv v [a, b]] → R (.returned v) w') :
   Calls Tryz.prog 89 #[aB ⟨12, a, b, c, l, tx, fn, ty, ps⟩ lv] w R := by
 have h1 := (((Prt.Sat.old w).ay (nbO ⟨12, a, b, c, l, tx, fn, ty, ps⟩ lv)).aj (.cells #[.int .i64 a, .int .i64 b] 3) (w.heap.size + 1)).ent (i := 1) rfl (Q := poA ⟨12, a, b, c, l, tx, fn, ty, ps⟩ lv (.slice (some ⟨w.heap.size + 1, 0, none⟩) 2 2) [a, b]) (fun _ h => .inr (aG h rfl (by simp [maxLen]) (by simp [aA])))
 have HR := qh (hR _ _ h1)
 clear hR h1
 dsimp only [aB] at *
 go_enter Tryz.func89, Tryz.ntmps89
 go_wp2_with fail
 exact HR.out
theorem sW {R : Ending → World → Prop} (hR : ∀ v w', Sat w w' [Prt.bI w, poA ⟨19, a, b, c, l, tx, fn, ty, ps⟩ lv v [a, b]] → R (.returned v) w') :
   Calls Tryz.prog 89 #[aB ⟨19, a, b, c, l, tx, fn, ty, ps⟩ lv] w R := by
 have h1 := (((Prt.Sat.old w).ay (nbO ⟨19, a, b, c, l, tx, fn, ty, ps⟩ lv)).aj (.cells #[.int .i64 a, .int .i64 b] 3) (w.heap.size + 1)).ent (i := 1) rfl (Q := poA ⟨19, a, b, c, l, tx, fn, ty, ps⟩ lv (.slice (some ⟨w.heap.size + 1, 0, none⟩) 2 2) [a, b]) (fun _ h => .inr (aG h rfl (by simp [maxLen]) (by simp [aA])))
 have HR := qh (hR _ _ h1)
 clear hR h1
 dsimp only [aB] at *
 go_enter Tryz.func89, Tryz.ntmps89
 go_wp2_with fail
 exact HR.out
theorem uy {R : Ending → World → Prop} (hR : ∀ v w', Sat w w' [Prt.bI w, poA ⟨23, a, b, c, l, tx, fn, ty, ps⟩ lv v [a, b]] → R (.returned v) w') :
   Calls Tryz.prog 89 #[aB ⟨23, a, b, c, l, tx, fn, ty, ps⟩ lv] w R := by
 have h1 := (((Prt.Sat.old w).ay (nbO ⟨23, a, b, c, l, tx, fn, ty, ps⟩ lv)).aj (.cells #[.int .i64 a, .int .i64 b] 3) (w.heap.size + 1)).ent (i := 1) rfl (Q := poA ⟨23, a, b, c, l, tx, fn, ty, ps⟩ lv (.slice (some ⟨w.heap.size + 1, 0, none⟩) 2 2) [a, b]) (fun _ h => .inr (aG h rfl (by simp [maxLen]) (by simp [aA])))
 have HR := qh (hR _ _ h1)
 clear hR h1
 dsimp only [aB] at *
 go_enter Tryz.func89, Tryz.ntmps89
 go_wp2_with fail
 exact HR.out
theorem uH (hc : 0 ≤ c) {R : Ending → World → Prop} (hR : ∀ v w', Sat w w' [Prt.bI w, poA ⟨20, a, b, c, l, tx, fn, ty, ps⟩ lv v [a, b, c.toNat]] → R (.returned v) w') :
   Calls Tryz.prog 89 #[aB ⟨20, a, b, c, l, tx, fn, ty, ps⟩ lv] w R := by
 have hc2 : ((c.toNat : Nat) : Int) = c := by omega
 have h1 := (((Prt.Sat.old w).ay (nbO ⟨20, a, b, c, l, tx, fn, ty, ps⟩ lv)).aj (.cells #[.int .i64 a, .int .i64 b, .int .i64 c] 3) (w.heap.size + 1)).ent (i := 1) rfl (Q := poA ⟨20, a, b, c, l, tx, fn, ty, ps⟩ lv (.slice (some ⟨w.heap.size + 1, 0, none⟩) 3 3) [a, b, c.toNat]) (fun _ h => .inr (aG h rfl (by simp [maxLen]) (by simp [aA, hc2])))
 have HR := qh (hR _ _ h1)
 clear hR h1
 dsimp only [aB] at *
 go_enter Tryz.func89, Tryz.ntmps89
 go_wp2_with fail
 exact HR.out
theorem qK (hc : c < 0) {R : Ending → World → Prop} (hR : ∀ v w', Sat w w' [Prt.bI w, poA ⟨22, a, b, c, l, tx, fn, ty, ps⟩ lv v [a, b]] → R (.returned v) w') :
   Calls Tryz.prog 89 #[aB ⟨22, a, b, c, l, tx, fn, ty, ps⟩ lv] w R := by
 have kc : decide (c < 0) = true := decide_eq_true hc
 have h1 := (((Prt.Sat.old w).ay (nbO ⟨22, a, b, c, l, tx, fn, ty, ps⟩ lv)).aj (.cells #[.int .i64 a, .int .i64 b] 3) (w.heap.size + 1)).ent (i := 1) rfl (Q := poA ⟨22, a, b, c, l, tx, fn, ty, ps⟩ lv (.slice (some ⟨w.heap.size + 1, 0, none⟩) 2 2) [a, b]) (fun _ h => .inr (aG h rfl (by simp [maxLen]) (by simp [aA])))
 have HR := qh (hR _ _ h1)
 clear hR h1
 dsimp only [aB] at *
 go_enter Tryz.func89, Tryz.ntmps89
 go_wp2_with fail
 exact HR.out
theorem rM (hc : 0 ≤ c) {R : Ending → World → Prop} (hR : ∀ v w', Sat w w' [Prt.bI w, poA ⟨22, a, b, c, l, tx, fn, ty, ps⟩ lv v [a, b, c.toNat]] → R (.returned v) w') :
   Calls Tryz.prog 89 #[aB ⟨22, a, b, c, l, tx, fn, ty, ps⟩ lv] w R := by
 have hc2 : ((c.toNat : Nat) : Int) = c := by omega
 have kc : decide (c < 0) = false := decide_eq_false (by omega)
 have h1 := (((Prt.Sat.old w).ay (nbO ⟨22, a, b, c, l, tx, fn, ty, ps⟩ lv)).aj (.cells #[.int .i64 a, .int .i64 b, .int .i64 c] 3) (w.heap.size + 1)).ent (i := 1) rfl (Q := poA ⟨22, a, b, c, l, tx, fn, ty, ps⟩ lv (.slice (some ⟨w.heap.size + 1, 0, none⟩) 3 3) [a, b, c.toNat]) (fun _ h => .inr (aG h rfl (by simp [maxLen]) (by simp [aA, hc2])))
 have HR := qh (hR _ _ h1)
 clear hR h1
 dsimp only [aB] at *
 go_enter Tryz.func89, Tryz.ntmps89
 go_wp2_with fail
 exact HR.out
theorem yH {R : Ending → World → Prop} (hR : ∀ v w', Sat w w' [Prt.bI w, poA ⟨8, a, b, c, l, tx, fn, ty, ps⟩ lv v [a]] → R (.returned v) w') :
   Calls Tryz.prog 89 #[aB ⟨8, a, b, c, l, tx, fn, ty, ps⟩ lv] w R := by
 have h1 := (((Prt.Sat.old w).ay (nbO ⟨8, a, b, c, l, tx, fn, ty, ps⟩ lv)).aj (.cells #[.int .i64 a] 3) (w.heap.size + 1)).ent (i := 1) rfl (Q := poA ⟨8, a, b, c, l, tx, fn, ty, ps⟩ lv (.slice (some ⟨w.heap.size + 1, 0, none⟩) 1 1) [a]) (fun _ h => .inr (aG h rfl (by simp [maxLen]) (by simp [aA])))
 have HR := qh (hR _ _ h1)
 clear hR h1
 dsimp only [aB] at *
 go_enter Tryz.func89, Tryz.ntmps89
 go_wp2_with fail
 exact HR.out
theorem tH {R : Ending → World → Prop} (hR : ∀ v w', Sat w w' [Prt.bI w, poA ⟨13, a, b, c, l, tx, fn, ty, ps⟩ lv v [a]] → R (.returned v) w') :
   Calls Tryz.prog 89 #[aB ⟨13, a, b, c, l, tx, fn, ty, ps⟩ lv] w R := by
 have h1 := (((Prt.Sat.old w).ay (nbO ⟨13, a, b, c, l, tx, fn, ty, ps⟩ lv)).aj (.cells #[.int .i64 a] 3) (w.heap.size + 1)).ent (i := 1) rfl (Q := poA ⟨13, a, b, c, l, tx, fn, ty, ps⟩ lv (.slice (some ⟨w.heap.size + 1, 0, none⟩) 1 1) [a]) (fun _ h => .inr (aG h rfl (by simp [maxLen]) (by simp [aA])))
 have HR := qh (hR _ _ h1)
 clear hR h1
 dsimp only [aB] at *
 go_enter Tryz.func89, Tryz.ntmps89
 go_wp2_with fail
 exact HR.out
theorem ve {R : Ending → World → Prop} (hR : ∀ v w', Sat w w' [Prt.bI w, poA ⟨14, a, b, c, l, tx, fn, ty, ps⟩ lv v [a]] → R (.returned v) w') :
   Calls Tryz.prog 89 #[aB ⟨14, a, b, c, l, tx, fn, ty, ps⟩ lv] w R := by
 have h1 := (((Prt.Sat.old w).ay (nbO ⟨14, a, b, c, l, tx, fn, ty, ps⟩ lv)).aj (.cells #[.int .i64 a] 3) (w.heap.size + 1)).ent (i := 1) rfl (Q := poA ⟨14, a, b, c, l, tx, fn, ty, ps⟩ lv (.slice (some ⟨w.heap.size + 1, 0, none⟩) 1 1) [a]) (fun _ h => .inr (aG h rfl (by simp [maxLen]) (by simp [aA])))
 have HR := qh (hR _ _ h1)
 clear hR h1
 dsimp only [aB] at *
 go_enter Tryz.func89, Tryz.ntmps89
 go_wp2_with fail
 exact HR.out
theorem tZ {R : Ending → World → Prop} (hR : ∀ v w', Sat w w' [Prt.bI w, poA ⟨15, a, b, c, l, tx, fn, ty, ps⟩ lv v [a]] → R (.returned v) w') :
   Calls Tryz.prog 89 #[aB ⟨15, a, b, c, l, tx, fn, ty, ps⟩ lv] w R := by
 have h1 := (((Prt.Sat.old w).ay (nbO ⟨15, a, b, c, l, tx, fn, ty, ps⟩ lv)).aj (.cells #[.int .i64 a] 3) (w.heap.size + 1)).ent (i := 1) rfl (Q := poA ⟨15, a, b, c, l, tx, fn, ty, ps⟩ lv (.slice (some ⟨w.heap.size + 1, 0, none⟩) 1 1) [a]) (fun _ h => .inr (aG h rfl (by simp [maxLen]) (by simp [aA])))
 have HR := qh (hR _ _ h1)
 clear hR h1
 dsimp only [aB] at *
 go_enter Tryz.func89, Tryz.ntmps89
 go_wp2_with fail
 exact HR.out
theorem uj {R : Ending → World → Prop} (hR : ∀ v w', Sat w w' [Prt.bI w, poA ⟨17, a, b, c, l, tx, fn, ty, ps⟩ lv v [a]] → R (.returned v) w') :
   Calls Tryz.prog 89 #[aB ⟨17, a, b, c, l, tx, fn, ty, ps⟩ lv] w R := by
 have h1 := (((Prt.Sat.old w).ay (nbO ⟨17, a, b, c, l, tx, fn, ty, ps⟩ lv)).aj (.cells #[.int .i64 a] 3) (w.heap.size + 1)).ent (i := 1) rfl (Q := poA ⟨17, a, b, c, l, tx, fn, ty, ps⟩ lv (.slice (some ⟨w.heap.size + 1, 0, none⟩) 1 1) [a]) (fun _ h => .inr (aG h rfl (by simp [maxLen]) (by simp [aA])))
 have HR := qh (hR _ _ h1)
 clear hR h1
 dsimp only [aB] at *
 go_enter Tryz.func89, Tryz.ntmps89
 go_wp2_with fail
 exact HR.out
theorem lK {R : Ending → World → Prop} (hR : ∀ v w', Sat w w' [Prt.bI w, poA ⟨18, a, b, c, l, tx, fn, ty, ps⟩ lv v [a]] → R (.returned v) w') :
   Calls Tryz.prog 89 #[aB ⟨18, a, b, c, l, tx, fn, ty, ps⟩ lv] w R := by
 have h1 := (((Prt.Sat.old w).ay (nbO ⟨18, a, b, c, l, tx, fn, ty, ps⟩ lv)).aj (.cells #[.int .i64 a] 3) (w.heap.size + 1)).ent (i := 1) rfl (Q := poA ⟨18, a, b, c, l, tx, fn, ty, ps⟩ lv (.slice (some ⟨w.heap.size + 1, 0, none⟩) 1 1) [a]) (fun _ h => .inr (aG h rfl (by simp [maxLen]) (by simp [aA])))
 have HR := qh (hR _ _ h1)
 clear hR h1
 dsimp only [aB] at *
 go_enter Tryz.func89, Tryz.ntmps89
 go_wp2_with fail
 exact HR.out
theorem uO {R : Ending → World → Prop} (hR : ∀ v w', Sat w w' [Prt.bI w, poA ⟨21, a, b, c, l, tx, fn, ty, ps⟩ lv v [a]] → R (.returned v) w') :
   Calls Tryz.prog 89 #[aB ⟨21, a, b, c, l, tx, fn, ty, ps⟩ lv] w R := by
 have h1 := (((Prt.Sat.old w).ay (nbO ⟨21, a, b, c, l, tx, fn, ty, ps⟩ lv)).aj (.cells #[.int .i64 a] 3) (w.heap.size + 1)).ent (i := 1) rfl (Q := poA ⟨21, a, b, c, l, tx, fn, ty, ps⟩ lv (.slice (some ⟨w.heap.size + 1, 0, none⟩) 1 1) [a]) (fun _ h => .inr (aG h rfl (by simp [maxLen]) (by simp [aA])))
 have HR := qh (hR _ _ h1)
 clear hR h1
 dsimp only [aB] at *
 go_enter Tryz.func89, Tryz.ntmps89
 go_wp2_with fail
 exact HR.out
theorem uu {R : Ending → World → Prop} (hR : ∀ v w', Sat w w' [Prt.bI w, poA ⟨24, a, b, c, l, tx, fn, ty, ps⟩ lv v [a]] → R (.returned v) w') :
   Calls Tryz.prog 89 #[aB ⟨24, a, b, c, l, tx, fn, ty, ps⟩ lv] w R := by
 have h1 := (((Prt.Sat.old w).ay (nbO ⟨24, a, b, c, l, tx, fn, ty, ps⟩ lv)).aj (.cells #[.int .i64 a] 3) (w.heap.size + 1)).ent (i := 1) rfl (Q := poA ⟨24, a, b, c, l, tx, fn, ty, ps⟩ lv (.slice (some ⟨w.heap.size + 1, 0, none⟩) 1 1) [a]) (fun _ h => .inr (aG h rfl (by simp [maxLen]) (by simp [aA])))
 have HR := qh (hR _ _ h1)
 clear hR h1
 dsimp only [aB] at *
 go_enter Tryz.func89, Tryz.ntmps89
 go_wp2_with fail
 exact HR.out
theorem sK {R : Ending → World → Prop} (hR : ∀ v w', Sat w w' [Prt.bI w, poA ⟨25, a, b, c, l, tx, fn, ty, ps⟩ lv v [a]] → R (.returned v) w') :
   Calls Tryz.prog 89 #[aB ⟨25, a, b, c, l, tx, fn, ty, ps⟩ lv] w R := by
 have h1 := (((Prt.Sat.old w).ay (nbO ⟨25, a, b, c, l, tx, fn, ty, ps⟩ lv)).aj (.cells #[.int .i64 a] 3) (w.heap.size + 1)).ent (i := 1) rfl (Q := poA ⟨25, a, b, c, l, tx, fn, ty, ps⟩ lv (.slice (some ⟨w.heap.size + 1, 0, none⟩) 1 1) [a]) (fun _ h => .inr (aG h rfl (by simp [maxLen]) (by simp [aA])))
 have HR := qh (hR _ _ h1)
 clear hR h1
 dsimp only [aB] at *
 go_enter Tryz.func89, Tryz.ntmps89
 go_wp2_with fail
 exact HR.out
theorem xZ (hl : w.ownsRow 0 3 1 lv l.length (l.map aA)) (hln : l.length ≤ 1000000) {R : Ending → World → Prop} (hR : ∀ v w', Sat w w' [Prt.bI w, poA ⟨7, a, b, c, l, tx, fn, ty, ps⟩ lv v (a :: l)] → R (.returned v) w') :
   Calls Tryz.prog 89 #[aB ⟨7, a, b, c, l, tx, fn, ty, ps⟩ lv] w R := by
 obtain ⟨j0, tj, uz0, uz1, uz2⟩ := info_parts bY
 have HR := qh hR
 have h1 := (((Prt.Sat.old w).ay (nbO ⟨7, a, b, c, l, tx, fn, ty, ps⟩ lv)).aj (.cells #[.int .i64 a] 3) (w.heap.size + 1)).ent (i := 1) rfl (Q := inA (.slice (some ⟨w.heap.size + 1, 0, none⟩) 1 1) [a]) (fun _ h => aG h rfl (by simp [maxLen]) rfl)
 rcases hl.2 with ⟨rfl, h0⟩ | ⟨g, cap, cur, rfl, hgb, hgc, hcap, hcm, hcs, htk⟩
 · have hl0 : l = [] := List.length_eq_zero_iff.1 (by omega)
   subst hl0
   have H1 := qh h1
   clear hR h1 hl h0
   dsimp only [aB] at *
   go_enter Tryz.func89, Tryz.ntmps89
   go_wp2_with (at_builtin; go_loud (refine wpList_append_own_none rfl (.tmp 9) (.tmp 11) 39 rfl 0 3 j0 1 Tryz.underlying39 tj _ 1 [aA a] (by rfl) (H1.out.row 1 rfl) (by rfl) ?_))
   go_wp2_with fail
   exact HR.out _ _ (H1.out.ent (i := 1) rfl fun _ h => .inr h)
 · have hrow := (hl.alloc (nbO ⟨7, a, b, c, l, tx, fn, ty, ps⟩ (.slice (some ⟨g, 0, none⟩) l.length cap))).alloc (.cells #[.int .i64 a] 3)
   have H1 := qh h1
   have HROW := qh hrow
   have hnew : ∀ X : Obj, ((w.alloc X).alloc (.cells #[.int .i64 a] 3)).heap[w.heap.size + 1]? = some (.cells #[.int .i64 a] 3) := fun X => by
     rw [show w.heap.size + 1 = (w.alloc X).heap.size by simp]; exact heap_alloc_new _ _
   clear hR h1 hl hrow hcs htk hgc
   dsimp only [aB] at *
   go_enter Tryz.func89, Tryz.ntmps89
   go_wp2_with (at_builtin; go_loud (refine wpList_append_own _ rfl (.tmp 9) (.tmp 11) 39 rfl (w.heap.size + 1) 3 j0 _ 1 8 Tryz.underlying39 tj uz0 uz1 uz2 rfl (by decide) _ 1 [aA a] (by rfl) ?c0 ⟨g, 0, none⟩ l.length cap (l.map aA) (by rfl) (by simp) (World.ownsRow.cells HROW.out rfl) (by simp [aA, Value.oneCell']) (by unfold maxLen; omega) (by omega) (by simp) ?_))
   case c0 => exact ⟨by simp, .inr ⟨w.heap.size + 1, 1, #[.int .i64 a], rfl, Nat.le_refl _, hnew _, Nat.le_refl _, by unfold maxLen; omega, rfl, rfl⟩⟩
   intro v' w' hown' hgrow' _
   go_wp2_with fail
   refine HR.out v' _ ?_
   have hb : Below w.heap.size w w' := ((((Below.refl w.heap.size w).alloc (Nat.le_refl _) _).alloc (by simp) _).grown hgrow' (by simp; omega) (fun k hk => by simp [Value.ownBlock] at hk; omega))
   have h2 := (Prt.Sat.old w).newRow hb hown' (by omega)
   exact h2.ent (i := 1) rfl fun _ h => .inr (by
     unfold inA
     rw [List.length_cons, show l.length + 1 = 1 + l.length by omega, List.map_cons]; exact h)
end
end
section
open Go Go.RowKit
open Prt (Sat As blk pur exs star ah)
open Ty (Kn Sg Mo andX)
abbrev bV := List Kn → Sg → Except Ty.Ft (List Kn × Sg)
namespace Ty
def bW : List bV → bV
 | [], env, s => .ok (env, s)
 | F :: l, env, s => andX (F env s) fun r => bW l r.1 r.2
theorem jR (F : bV) : ∀ (l : List bV) (env : List Kn) (s : Sg), bW (l ++ [F]) env s = andX (bW l env s) fun r => F r.1 r.2
 | [], env, s => by
   show andX (F env s) (fun r => .ok (r.1, r.2)) = F env s
   cases F env s <;> rfl
 | G :: l, env, s => by
   show andX (G env s) (fun r => bW (l ++ [F]) r.1 r.2) = andX (andX (G env s) fun r => bW l r.1 r.2) fun r => F r.1 r.2
   rw [au]
   congr 1
   funext r
   exact jR F l r.1 r.2
theorem dn (F : bV) (env : List Kn) (s : Sg) : bW [F] env s = F env s := jR F [] env s
def dM (k : Nat) (F : bV) : Prop := ∀ env s r, F env s = .ok r → Mo k s r.2 ∧ ∃ x, r.1 = env ++ x ∧ x.length ≤ k
def bn (l : List (Nat × bV)) : Nat := (l.map Prod.fst).foldr (· + ·) 0
theorem aJ (p : Nat × bV) (l : List (Nat × bV)) : bn (p :: l) = p.1 + bn l := rfl
theorem yY (l m : List (Nat × bV)) : bn (l ++ m) = bn l + bn m := by
 induction l with
 | nil => simp [bn]
 | cons p l ih => rw [List.cons_append, aJ, aJ, ih]; omega
theorem fQ : ∀ l : List (Nat × bV), (∀ p ∈ l, dM p.1 p.2) → dM (bn l) (bW (l.map Prod.snd))
 | [], _, env, s, r, h => by cases h; exact ⟨Mo.refl _ _, [], by simp, by simp⟩
 | p :: l, H, env, s, r, h => by
   obtain ⟨m, h1, h2⟩ := andX_inv (show andX (p.2 env s) (fun r => bW (l.map Prod.snd) r.1 r.2) = .ok r from h)
   obtain ⟨g1, x, g2, g3⟩ := H p (by simp) env s m h1
   obtain ⟨k1, y, k2, k3⟩ := fQ l (fun q hq => H q (by simp [hq])) m.1 m.2 r h2
   rw [aJ]
   exact ⟨g1.trans k1 (Nat.le_refl _), x ++ y, by rw [k2, g2, List.append_assoc], by rw [List.length_append]; omega⟩
theorem xM {l : List (Nat × bV)} (H : ∀ p ∈ l, dM p.1 p.2) (j : Nat) : dM (bn (l.take j)) (bW ((l.map Prod.snd).take j)) := by
 rw [← List.map_take]
 exact fQ _ fun p hp => H p (List.mem_of_mem_take hp)
theorem zW (l : List (Nat × bV)) {j : Nat} (h : j < l.length) : bn (l.take j) + l[j].1 ≤ bn l := by
 have h1 := List.take_append_drop j l
 have h2 : bn l = bn (l.take j) + bn (l.drop j) := by rw [← yY, h1]
 rw [List.drop_eq_getElem_cons h, aJ] at h2
 omega
end Ty
open Ty (bW dM bn)
def siE (sb : Nat) (nv tv : Value) (main : Int) (k : Nat) (env : List Kn) (r : Except Ty.Ft (List Kn × Sg)) : As := match r with
 | .ok p => siA sb nv tv main p.1 p.2 (0, 0)
 | .error e => exs fun q : List Kn × Sg => ah [pur (q.1.length ≤ k ∧ e.1 ≠ 0), siA sb nv tv main (env ++ q.1) q.2 e]
structure SeeC (wB : World) (nv tv : Value) (pg : Ty.Pg) (sb : Nat) (main : Int) (id : Nat) (o f : Int) (k : Nat) (F : bV) : Prop where
 lt : id < pg.ns.length
 good : dM k F
 run : ∀ (env : List Kn) (s : Sg) (w : World) (Fr : As), FrB wB Fr → Sat wB w [Fr, siA sb nv tv main env s (0, 0)] → env.length + k ≤ 2600 → s.out.length + k ≤ 2600 → s.caught.length + k ≤ 2600 →
   ∀ R : Ending → World → Prop, (∀ w', Sat wB w' [Fr, siE sb nv tv main k env (F env s)] → R (.returned (.tuple #[])) w') →
   Calls Tryz.prog 45 #[.pointer (some ⟨sb, 0, none⟩), .int .i64 (id : Nat), .int .i64 o, .int .i64 f] w R
section
variable {wB w : World} {Fr : As} {nv tv : Value} {pg : Ty.Pg} {sb : Nat} {main : Int} {env : List Kn} {s : Sg}
theorem BL (hP : PB wB nv tv pg) (hF : FrB wB Fr) {e : Ty.Ft} (he : e.1 ≠ 0) (H : Sat wB w [Fr, siA sb nv tv main env s e]) {id : Nat} (hid : id < pg.ns.length) {o f : Int} {R : Ending → World → Prop}
   (hR : ∀ w', Sat wB w' [Fr, siA sb nv tv main env s e] → R (.returned (.tuple #[])) w') :
   Calls Tryz.prog 45 #[.pointer (some ⟨sb, 0, none⟩), .int .i64 (id : Nat), .int .i64 o, .int .i64 f] w R := by
 have HR := qh hR
 obtain ⟨nd, hn⟩ : ∃ nd, pg.ns[id]? = some nd := ⟨_, List.getElem?_eq_getElem hid⟩
 obtain ⟨g, cap, lv, rfl, hnl, hg, hcap, hcm, hA, hl, _, hN⟩ := hP.look hn
 have hb := hF w _ 0 H rfl
 obtain ⟨q0, q1, q2, q3, q4, q5, q6, q7, q8⟩ := hA.below hb
 have hgw : g < w.heap.size := Nat.lt_of_lt_of_le hg hb.size
 obtain ⟨la, lc, rfl⟩ := ag hl
 have HW := qh (H.ay (nbO nd (.slice la nd.list.length lc)))
 obtain ⟨ev, ov, cv, h1⟩ := H.ik
 have c0 := h1.cell 1 rfl 0 rfl
 have c6 : w.cell? ⟨sb, 6, none⟩ = some (.int .i64 (e.1 : Nat)) := h1.cell 1 rfl 6 rfl
 have hsb := h1.lt 1 rfl
 obtain ⟨fe, fp⟩ := e
 have ke : ((fe : Int) != 0) = true := by simp; dsimp only at he; omega
 unfold maxLen at hcm
 clear hR hA hl hb hF H h1 hP hid he hn
 generalize pg.ns.length = N at *
 generalize nd.list.length = LN at *
 dsimp only at c0 c6
 go_enter Tryz.func45, Tryz.ntmps45
 go_wp2_with fail
 go_end0
 exact HR.out _ HW.out
theorem jB (hP : PB wB nv tv pg) (hF : FrB wB Fr) {r : Except Ty.Ft (List Kn × Sg)} {K k id : Nat} {o f : Int} {F : bV} (C : SeeC wB nv tv pg sb main id o f k F)
   (hr : ∀ p, r = .ok p → (∃ x, p.1 = env ++ x ∧ x.length + k ≤ K) ∧ p.1.length + k ≤ 2600 ∧ p.2.out.length + k ≤ 2600 ∧ p.2.caught.length + k ≤ 2600) (H : Sat wB w [Fr, siE sb nv tv main K env r]) {R : Ending → World → Prop}
   (hR : ∀ w', Sat wB w' [Fr, siE sb nv tv main K env (andX r fun p => F p.1 p.2)] → R (.returned (.tuple #[])) w') :
   Calls Tryz.prog 45 #[.pointer (some ⟨sb, 0, none⟩), .int .i64 (id : Nat), .int .i64 o, .int .i64 f] w R := by
 cases r with
 | error e =>
   obtain ⟨q, h⟩ := H.ex (i := 1) rfl
   have h := (h.unpack (i := 1) rfl)
   have hq : q.1.length ≤ K ∧ e.1 ≠ 0 := h.get (i := 1) rfl fun _ ha _ => ha
   refine BL hP hF hq.2 (h.pick [0, 2]) C.lt (fun w' h' => hR w' ?_)
   exact ((Prt.Sat.pack (L := [Fr]) ((h'.fH (P := pur (q.1.length ≤ K ∧ e.1 ≠ 0)) (fun _ => hq)).pick [0, 2, 1])).ent (i := 1) rfl fun _ ha => ⟨q, ha⟩)
 | ok p =>
   obtain ⟨⟨x, hx, hxk⟩, h1, h2, h3⟩ := hr p rfl
   refine C.run p.1 p.2 w Fr hF H h1 h2 h3 R (fun w' h' => hR w' ?_)
   show Sat wB w' [Fr, siE sb nv tv main K env (F p.1 p.2)]
   cases hF2 : F p.1 p.2 with
   | ok r => rw [hF2] at h'; exact h'
   | error e =>
     rw [hF2] at h'
     refine h'.ent (i := 1) rfl fun a ha => ?_
     obtain ⟨q, ha⟩ := ha
     refine ⟨(x ++ q.1, q.2), ?_⟩
     obtain ⟨u, v, d1, d2, d3, d4, d5⟩ := ha
     refine ⟨u, v, d1, d2, d3, ⟨by dsimp only; rw [List.length_append]; have := d4.1; omega, d4.2⟩, ?_⟩
     dsimp only
     rw [← List.append_assoc, ← hx]; exact d5
end
end
section
open Go Go.RowKit
open Prt (Sat As blk pur exs star ah)
open Ty (Kn Sg Mo andX bW dM bn)
theorem qy {w : World} {nd : Ty.Nd} {lv : Value} (h1 : 1 ≤ nd.kind ∧ nd.kind ≤ 26) (hc : nd.kind = 20 → 0 ≤ nd.c) (hl : w.ownsRow 0 3 1 lv nd.list.length (nd.list.map aA)) (hln : nd.list.length ≤ 1000000) {R : Ending → World → Prop}
   (hR : ∀ v w', Sat w w' [Prt.bI w, poA nd lv v (Ty.ax nd)] → R (.returned v) w') : Calls Tryz.prog 89 #[aB nd lv] w R := by
 obtain ⟨kd, a, b, c, l, tx, fn, ty, ps⟩ := nd
 dsimp only at h1 hc hl hln
 have : kd = 1 ∨ kd = 2 ∨ kd = 3 ∨ kd = 4 ∨ kd = 5 ∨ kd = 6 ∨ kd = 7 ∨ kd = 8 ∨ kd = 9 ∨ kd = 10 ∨ kd = 11 ∨ kd = 12 ∨ kd = 13 ∨ kd = 14 ∨ kd = 15 ∨ kd = 16 ∨ kd = 17 ∨ kd = 18 ∨ kd = 19 ∨ kd = 20 ∨ kd = 21 ∨ kd = 22 ∨ kd = 23 ∨ kd = 24 ∨ kd = 25 ∨ kd = 26 := by omega
 rcases this with rfl | rfl | rfl | rfl | rfl | rfl | rfl | rfl | rfl | rfl | rfl | rfl | rfl | rfl | rfl | rfl | rfl | rfl | rfl | rfl | rfl | rfl | rfl | rfl | rfl | rfl
 · exact yj hR
 · exact xy hR
 · exact yI hR
 · exact yE hR
 · exact nI hR
 · exact xh hR
 · exact xZ hl hln hR
 · exact yH hR
 · exact yx hR
 · exact sD hR
 · exact sU hR
 · exact uS hR
 · exact tH hR
 · exact ve hR
 · exact tZ hR
 · exact ug hR
 · exact uj hR
 · exact lK hR
 · exact sW hR
 · exact uH (hc rfl) hR
 · exact uO hR
 · rcases Int.lt_or_le c 0 with h1 | h1
   · refine qK h1 fun v w' h => hR v w' ?_
     rw [show Ty.ax ⟨22, a, b, c, l, tx, fn, ty, ps⟩ = [a, b] by simp [Ty.ax, h1]]
     exact h
   · refine rM h1 fun v w' h => hR v w' ?_
     rw [show Ty.ax ⟨22, a, b, c, l, tx, fn, ty, ps⟩ = [a, b, c.toNat] by simp [Ty.ax, Int.not_lt.2 h1]]
     exact h
 · exact uy hR
 · exact uu hR
 · exact sK hR
 · exact uM hR
theorem jY (nd : Ty.Nd) : (Ty.ax nd).length ≤ nd.list.length + 3 := by
 unfold Ty.ax
 repeat' split
 all_goals simp
theorem ig {w0 w : World} {L : List As} (h : Sat w0 w L) (i : Nat) {nd : Ty.Nd} {lv v : Value} {ids : List Nat} (hi : L[i]? = some (poA nd lv v ids)) (hl : w.ownsRow 0 3 1 lv nd.list.length (nd.list.map aA)) : w.ownsRow 0 3 1 v ids.length (ids.map aA) := by
 by_cases hv : v = lv ∧ ids = nd.list
 · rw [hv.1, hv.2]; exact hl
 · exact (h.ent (i := i) hi (Q := inA v ids) (fun a ha => ha.resolve_left hv)).row i (by
     have := Prt.Sat.kG hi
     rw [List.getElem?_set_self this]; rfl)
def dL (wB : World) (nv tv : Value) (pg : Ty.Pg) (sb : Nat) (main : Int) (o f : Int) (ids : List Nat) (cs : List (Nat × bV)) : Prop :=
 ids.length = cs.length ∧ ∀ j (h1 : j < ids.length) (h2 : j < cs.length), SeeC wB nv tv pg sb main ids[j] o f cs[j].1 cs[j].2
section
variable {wB w : World} {Fr : As} {nv tv : Value} {pg : Ty.Pg} {sb : Nat} {main : Int} {env : List Kn} {s : Sg}
theorem dL.good {o f : Int} {ids : List Nat} {cs : List (Nat × bV)} (h : dL wB nv tv pg sb main o f ids cs) : ∀ p ∈ cs, dM p.1 p.2 := fun p hp => by
 obtain ⟨j, hj, e⟩ := List.getElem_of_mem hp
 rw [← e]
 exact (h.2 j (by rw [h.1]; exact hj) hj).good
theorem dL.at {o f : Int} {ids : List Nat} {cs : List (Nat × bV)} (h : dL wB nv tv pg sb main o f ids cs) {j : Nat} (h1 : env.length + bn cs ≤ 2600) (h2 : s.out.length + bn cs ≤ 2600) (h3 : s.caught.length + bn cs ≤ 2600) (hj2 : j < cs.length) :
   (∀ p, bW ((cs.map Prod.snd).take j) env s = .ok p → (∃ x, p.1 = env ++ x ∧ x.length + cs[j].1 ≤ bn cs) ∧ p.1.length + cs[j].1 ≤ 2600 ∧ p.2.out.length + cs[j].1 ≤ 2600 ∧ p.2.caught.length + cs[j].1 ≤ 2600) ∧
     (andX (bW ((cs.map Prod.snd).take j) env s) fun p => cs[j].2 p.1 p.2) = bW ((cs.map Prod.snd).take (j + 1)) env s := by
 have hs := Ty.zW cs hj2
 refine ⟨fun p hp => ?_, ?_⟩
 · obtain ⟨g1, x, g2, g3⟩ := Ty.xM h.good j env s p hp
   have := g1.out
   have := g1.caught
   exact ⟨⟨x, g2, by omega⟩, by rw [g2, List.length_append]; omega, by omega, by omega⟩
 · have : (cs.map Prod.snd).take (j + 1) = (cs.map Prod.snd).take j ++ [cs[j].2] := by rw [List.take_succ_eq_append_getElem (by simpa using hj2)]; simp
   rw [this, Ty.jR]
theorem wU (hP : PB wB nv tv pg) {id : Nat} {nd : Ty.Nd} (hn : pg.ns[id]? = some nd) {o f : Int} {cs : List (Nat × bV)} (hC : dL wB nv tv pg sb main o f (Ty.ax nd) cs)
   (hk : nd.kind ≠ 5 ∧ nd.kind ≠ 6 ∧ nd.kind ≠ 17 ∧ nd.kind ≠ 18 ∧ nd.kind ≠ 26) (hk2 : 1 ≤ nd.kind ∧ nd.kind ≤ 26) (hc : nd.kind = 20 → 0 ≤ nd.c) (hln : nd.list.length ≤ 1000000) {K : Nat} (hK : bn cs ≤ K) : SeeC wB nv tv pg sb main id o f K (bW (cs.map Prod.snd)) := by
 obtain ⟨g, cap, lv, rfl, hnl, hg, hcap, hcm, hA, hl, _, hN⟩ := hP.look hn
 refine ⟨hnl, fun env s r h => ?_, ?_⟩
 · obtain ⟨a, x, b, c⟩ := Ty.fQ cs hC.good env s r h
   exact ⟨a.mono hK, x, b, by omega⟩
 intro env s w Fr hF H b1 b2 b3 R hR
 have hR : ∀ w', Sat wB w' [Fr, siE sb (.slice (some ⟨g, 0, none⟩) pg.ns.length cap) tv main (bn cs) env (bW (cs.map Prod.snd) env s)] → R (.returned (.tuple #[])) w' := fun w' h => hR w' (by
   cases hq : bW (cs.map Prod.snd) env s with
   | ok p => rw [hq] at h; exact h
   | error e =>
     rw [hq] at h
     refine h.ent (i := 1) rfl fun a ha => ?_
     obtain ⟨q, u, v, d1, d2, d3, d4, d5⟩ := ha
     exact ⟨q, u, v, d1, d2, d3, ⟨by have := d4.1; omega, d4.2⟩, d5⟩)
 have HR := qh hR
 have hb := hF w _ 0 H rfl
 obtain ⟨q0, q1, q2, q3, q4, q5, q6, q7, q8⟩ := hA.below hb
 have hgw : g < w.heap.size := Nat.lt_of_lt_of_le hg hb.size
 obtain ⟨ev, ov, cv, h1⟩ := H.ik
 have c0 := h1.cell 1 rfl 0 rfl
 have c1 := h1.cell 1 rfl 3 rfl
 have c6 : w.cell? ⟨sb, 6, none⟩ = some (.int .i64 (0 : Nat)) := h1.cell 1 rfl 6 rfl
 have hsb := h1.lt 1 rfl
 obtain ⟨ea, ec, rfl⟩ := ag (h1.row 2 rfl)
 obtain ⟨la, lc, rfl⟩ := ag hl
 have h2 := H.aj (nbO nd (.slice la nd.list.length lc)) w.heap.size
 have hlB := qh hl
 have HF := qh hF
 have HF3 := qh (fun (A B : As) => (hF.ah (M := [A, B])))
 have HP := qh (fun (A B : As) (w1 : World) (r : Except Ty.Ft (List Kn × Sg)) (k K id : Nat) (F : bV) (C : SeeC wB (.slice (some ⟨g, 0, none⟩) pg.ns.length cap) tv pg sb main id o f k F) hr H1 R hR => jB (w := w1) (R := R) hP (hF.ah (M := [A, B])) (r := r) (K := K) (env := env) C hr H1 hR)
 have HPO := qh (fun (w1 : World) (hb1 : Below w.heap.size w w1) R hR => qy (w := w1) (nd := nd) (lv := .slice la nd.list.length lc) (R := R) hk2 hc (aH (aH hl hb) hb1) hln hR)
 have HC := qh hC
 have HB : Hid (env.length + bn cs ≤ 2600 ∧ s.out.length + bn cs ≤ 2600 ∧ s.caught.length + bn cs ≤ 2600) := ⟨by omega, by omega, by omega⟩
 have HL := qh hC.1
 have H2 := qh h2
 have k5 : ((nd.kind : Int) == 5) = false := beq_eq_false_iff_ne.2 (by omega)
 have k18 : ((nd.kind : Int) == 18) = false := beq_eq_false_iff_ne.2 (by omega)
 have k6 : ((nd.kind : Int) == 6) = false := beq_eq_false_iff_ne.2 (by omega)
 have k26 : ((nd.kind : Int) == 26) = false := beq_eq_false_iff_ne.2 (by omega)
 have k17 : ((nd.kind : Int) == 17) = false := beq_eq_false_iff_ne.2 (by omega)
 have hil : (Ty.ax nd).length ≤ 1000003 := by have := jY nd; omega
 unfold maxLen at hcm
 clear hR hA hl hb hF H h1 h2 hP hk hk2 hc hC b1 b2 b3 hK hln hn
 generalize pg.ns.length = N at *
 generalize Ty.ax nd = ids at *
 dsimp only at c0 c1 c6
 go_enter Tryz.func45, Tryz.ntmps45
 go_wp2_with fail
 refine HPO.out _ ((Below.refl _ _).alloc (Nat.le_refl _) _) _ (fun v w2 h3 => ?_)
 have h4 := H2.out.join h3
 have hrow := ig h4 3 rfl (aH hlB.out (HF.out w2 _ 0 h4 rfl))
 obtain ⟨va, vc, rfl⟩ := ag hrow
 have h5 := (Prt.Sat.pack (L := [siA sb (.slice (some ⟨g, 0, none⟩) N cap) tv main env s (0, 0)]) (h4.pick [1, 0, 2, 3])).pick [1, 0]
 have H5 := qh h5
 clear h3 h4 h5 hrow
 go_wp2_with fail
 go_loopw [19] (fun i wr => ∃ j : Nat, i = .int .i64 j ∧ j ≤ ids.length ∧ Hid (Sat wB wr [ah [Fr, blk w.heap.size (nbO nd (.slice la nd.list.length lc)), poA nd (.slice la nd.list.length lc) (.slice va ids.length vc) ids], siE sb (.slice (some ⟨g, 0, none⟩) N cap) tv main (bn cs) env (bW ((cs.map Prod.snd).take j) env s)])) (fun i _ => ids.length - (intOf i).toNat)
 case atStart => exact ⟨0, rfl, Nat.zero_le _, H5.out⟩
 case round =>
   obtain ⟨j, rfl, hj, hS⟩ := hrel
   by_cases hlt : j < ids.length
   · have hu := hS.out.unpack (i := 0) rfl
     have hrow := ig hu 3 rfl (aH hlB.out (HF.out wr _ 1 hu rfl))
     obtain ⟨gl, capl, e, hgl, d0⟩ := ints_at hrow j hlt
     cases e
     have hj2 : j < cs.length := by rw [← HL.out]; exact hlt
     obtain ⟨hr, he⟩ := HC.out.at HB.out.1 HB.out.2.1 HB.out.2.2 hj2
     have HST := qh (fun R hR => HP.out _ _ wr _ _ _ _ _ (HC.out.2 j hlt hj2) hr hS.out R hR)
     rw [he] at HST
     clear hu hrow hr he
     generalize ids[j] = ij at *
     go_wp2_with fail
     refine HST.out _ (fun w4 h4 => ?_)
     have H4 := qh h4
     clear h4
     go_wp2_with fail
     go_roundw
     case rel => exact ⟨j + 1, by go_num, by omega, H4.out⟩
     case measure => simp [intOf]; omega
   · have hje : j = cs.length := by have := HL.out; omega
     have h6 := hS.out
     rw [hje, List.take_of_length_le (by simp)] at h6
     have H6 := qh (h6.un4.pick [0, 1])
     clear h6 hje
     go_wp2_with fail
     go_end0
     exact HR.out _ H6.out
end
theorem pM (a : Option Addr) (n cap k : Nat) (hk : k ≤ cap) (W : World) : (Instr.slice 93 (.slice a n cap) none (some (.int .i64 (k : Nat))) none).run Tryz.prog W = .ok (.slice a k cap) W := by
 have h1 : (k : Int) ≤ cap := by omega
 have h2 : (0 : Int) ≤ k := by omega
 simp [Instr.slice, Instr.sliceBounds, Instr.sliceBound, asIntOf, h1, go_sem]
 exact fun h => absurd h (by omega)
theorem Bv {wB w : World} {Fr : As} {nv tv : Value} {sb : Nat} {main : Int} {env : List Kn} {K : Nat} {r : Except Ty.Ft (List Kn × Sg)} (hr : ∀ p, r = .ok p → ∃ x, p.1 = env ++ x) (H : Sat wB w [Fr, siE sb nv tv main K env r]) :
   ∃ x s' ft, Sat wB w [Fr, siA sb nv tv main (env ++ x) s' ft] ∧ ∀ w', Sat wB w' [Fr, siA sb nv tv main env s' ft] → Sat wB w' [Fr, siE sb nv tv main K env (andX r fun p => .ok (env, p.2))] := by
 cases r with
 | ok p =>
   obtain ⟨x, hx⟩ := hr p rfl
   obtain ⟨p1, p2⟩ := p
   dsimp only at hx
   subst hx
   exact ⟨x, p2, (0, 0), H, fun w' h => h⟩
 | error e =>
   obtain ⟨q, h⟩ := H.ex (i := 1) rfl
   have h := (h.unpack (i := 1) rfl)
   have hq : q.1.length ≤ K ∧ e.1 ≠ 0 := h.get (i := 1) rfl fun _ ha _ => ha
   refine ⟨q.1, q.2, e, h.pick [0, 2], fun w' h' => ?_⟩
   have h2 := (h'.fH (P := pur (([] : List Kn).length ≤ K ∧ e.1 ≠ 0)) (fun _ => ⟨by simp, hq.2⟩)).pick [0, 2, 1]
   refine (Prt.Sat.pack (L := [Fr]) h2).ent (i := 1) rfl fun a ha => ⟨([], q.2), ?_⟩
   simpa using ha
theorem Prt.Sat.Dk {w0 w : World} {Fr : As} {nv tv : Value} {sb : Nat} {main : Int} {env x : List Kn} {s : Sg} {f : Ty.Ft} (H : Sat w0 w [Fr, siA sb nv tv main (env ++ x) s f]) :
   ∃ ea n ec, n = env.length + x.length ∧ env.length ≤ ec ∧ w.cell? ⟨sb, 3, none⟩ = some (.slice ea n ec) ∧ w.frozen? ⟨sb, 3, none⟩ = false ∧ sb < w.heap.size ∧ Sat w0 (w.setCell ⟨sb, 3, none⟩ (.slice ea env.length ec)) [Fr, siA sb nv tv main env s f] := by
 obtain ⟨ev, ov, cv, h⟩ := H.ik
 obtain ⟨ea, ec, rfl⟩ := ag (h.row 2 rfl)
 have hec : (env ++ x).length ≤ ec := by
   rcases (h.row 2 rfl).2 with ⟨h1, h2⟩ | ⟨g, cap, cur, h1, _, _, h3, _⟩
   · simp only [Value.slice.injEq] at h1; omega
   · simp only [Value.slice.injEq] at h1; omega
 rw [List.length_append] at hec
 refine ⟨ea, _, ec, List.length_append, by omega, h.cell 1 rfl 3 rfl, h.free 1 rfl 3, h.lt 1 rfl, ?_⟩
 have h2 := h.store 1 rfl 3 (.slice ea env.length ec)
 have h3 := h2.ent (i := 2) rfl (Q := knA (.slice ea env.length ec) env) (fun _ ha => Ea rfl rfl ha)
 exact Prt.Sat.fP (q := (.slice ea env.length ec, ov, cv)) h3
section
variable {wB w : World} {Fr : As} {nv tv : Value} {pg : Ty.Pg} {sb : Nat} {main : Int} {env : List Kn} {s : Sg}
theorem zT {k : Nat} {F : bV} (h : dM k F) : dM k (fun env s => andX (F env s) fun r => .ok (env, r.2)) := fun env s r h1 => by
 obtain ⟨p, h2, h3⟩ := Ty.andX_inv h1
 cases h3
 exact ⟨(h env s p h2).1, [], by simp, by simp⟩
theorem nN (hP : PB wB nv tv pg) {id bp : Nat} {ids : List Nat} (hn : pg.ns[id]? = some { Ty.ndOf 26 bp with list := ids }) {o f : Int} {cs : List (Nat × bV)} (hC : dL wB nv tv pg sb main (id : Nat) f ids cs) (hln : ids.length ≤ 1000000) {K : Nat} (hK : bn cs ≤ K) :
   SeeC wB nv tv pg sb main id o f K (fun env s => andX (bW (cs.map Prod.snd) env s) fun r => .ok (env, r.2)) := by
 obtain ⟨g, cap, lv, rfl, hnl, hg, hcap, hcm, hA, hl, _, hN⟩ := hP.look hn
 have hgd := zT (Ty.fQ cs hC.good)
 refine ⟨hnl, fun env s r h => ?_, ?_⟩
 · obtain ⟨a, x, b, c⟩ := hgd env s r h
   exact ⟨a.mono hK, x, b, by omega⟩
 intro env s w Fr hF H b1 b2 b3 R hR
 have hR : ∀ w', Sat wB w' [Fr, siE sb (.slice (some ⟨g, 0, none⟩) pg.ns.length cap) tv main (bn cs) env (andX (bW (cs.map Prod.snd) env s) fun r => .ok (env, r.2))] → R (.returned (.tuple #[])) w' := fun w' h => hR w' (by
   cases hq : andX (bW (cs.map Prod.snd) env s) (fun r => .ok (env, r.2)) with
   | ok p => rw [hq] at h; exact h
   | error e =>
     rw [hq] at h
     refine h.ent (i := 1) rfl fun a ha => ?_
     obtain ⟨q, u, v, d1, d2, d3, d4, d5⟩ := ha
     exact ⟨q, u, v, d1, d2, d3, ⟨by have := d4.1; omega, d4.2⟩, d5⟩)
 have HR := qh hR
 have hb := hF w _ 0 H rfl
 obtain ⟨q0, q1, q2, q3, q4, q5, q6, q7, q8⟩ := hA.below hb
 have hgw : g < w.heap.size := Nat.lt_of_lt_of_le hg hb.size
 obtain ⟨ev, ov, cv, h1⟩ := H.ik
 have c0 := h1.cell 1 rfl 0 rfl
 have c1 := h1.cell 1 rfl 3 rfl
 have c6 : w.cell? ⟨sb, 6, none⟩ = some (.int .i64 (0 : Nat)) := h1.cell 1 rfl 6 rfl
 have hsb := h1.lt 1 rfl
 obtain ⟨ea, ec, rfl⟩ := ag (h1.row 2 rfl)
 obtain ⟨la, lc, rfl⟩ := ag hl
 have h2 := H.aj (nbO { Ty.ndOf 26 bp with list := ids } (.slice la ids.length lc)) w.heap.size
 have h3 := (Prt.Sat.pack (L := [siA sb (.slice (some ⟨g, 0, none⟩) pg.ns.length cap) tv main env s (0, 0)]) (h2.pick [1, 0, 2])).pick [1, 0]
 have hlB := qh hl
 have HF := qh hF
 have HP := qh (fun (A : As) (w1 : World) (r : Except Ty.Ft (List Kn × Sg)) (k K ij : Nat) (F : bV) (C : SeeC wB (.slice (some ⟨g, 0, none⟩) pg.ns.length cap) tv pg sb main ij (id : Nat) f k F) hr H1 R hR => jB (w := w1) (R := R) hP (hF.ah (M := [A])) (r := r) (K := K) (env := env) C hr H1 hR)
 have HC := qh hC
 have HB : Hid (env.length + bn cs ≤ 2600 ∧ s.out.length + bn cs ≤ 2600 ∧ s.caught.length + bn cs ≤ 2600) := ⟨by omega, by omega, by omega⟩
 have HL := qh hC.1
 have HG := qh (Ty.fQ cs hC.good)
 have H3 := qh h3
 unfold maxLen at hcm
 clear hR hA hl hb hF H h1 h2 h3 hP hC b1 b2 b3 hK hn hgd
 generalize pg.ns.length = N at *
 dsimp only [Ty.ndOf] at *
 go_enter Tryz.func45, Tryz.ntmps45
 go_wp2_with fail
 go_loopw [15] (fun i wr => ∃ j : Nat, i = .int .i64 j ∧ j ≤ ids.length ∧ Hid (Sat wB wr [ah [Fr, blk w.heap.size (nbO ⟨26, 0, 0, 0, ids, ⟨#[]⟩, 0, -1, bp⟩ (.slice la ids.length lc))], siE sb (.slice (some ⟨g, 0, none⟩) N cap) tv main (bn cs) env (bW ((cs.map Prod.snd).take j) env s)])) (fun i _ => ids.length - (intOf i).toNat)
 case atStart => exact ⟨0, rfl, Nat.zero_le _, H3.out⟩
 case round =>
   obtain ⟨j, rfl, hj, hS⟩ := hrel
   have hu := hS.out.unpack (i := 0) rfl
   have p4 := hu.cell 2 rfl 4 rfl
   dsimp only at p4
   by_cases hlt : j < ids.length
   · obtain ⟨gl, capl, e, hgl, d0⟩ := ints_at (aH hlB.out (HF.out wr _ 1 hu rfl)) j hlt
     cases e
     have hj2 : j < cs.length := by rw [← HL.out]; exact hlt
     obtain ⟨hr, he⟩ := HC.out.at HB.out.1 HB.out.2.1 HB.out.2.2 hj2
     have HST := qh (fun R hR => HP.out _ wr _ _ _ _ _ (HC.out.2 j hlt hj2) hr hS.out R hR)
     rw [he] at HST
     clear hu hr he
     generalize ids[j] = ij at *
     go_wp2_with fail
     refine HST.out _ (fun w4 h4 => ?_)
     have H4 := qh h4
     clear h4
     go_wp2_with fail
     go_roundw
     case rel => exact ⟨j + 1, by go_num, by omega, H4.out⟩
     case measure => simp [intOf]; omega
   · have hje : j = cs.length := by have := HL.out; omega
     have h6 := hS.out
     rw [hje, List.take_of_length_le (by simp)] at h6
     have h7 := h6.un3.pick [0, 1]
     obtain ⟨x, s', ft, h8, hpost⟩ := Bv (fun p hp => by obtain ⟨_, x, hx, _⟩ := HG.out env s p hp; exact ⟨x, hx⟩) h7
     obtain ⟨fa, n, fc, hn, hfc, c3, c3f, hsb, h9⟩ := h8.Dk
     have hsl := pM fa n fc env.length hfc
     have H9 := qh (hpost _ h9)
     clear h6 h7 h8 h9 hpost hu hje hn hfc
     go_wp2_with fail
     go_end0
     exact HR.out _ H9.out
end
end
end Go.Proofs.YtdlbhiaceheffabGreatDoor
