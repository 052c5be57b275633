/- Plain: what was read once, and printed, is read again as it was: statements, programs. No program in sight. Plain: what was read once, and printed, is read again as it was: ifs, whiles, all statements, all levels. No program in sight. -/
import Derived.Test.YtdlbhiaceheffabGreatDoorS35
set_option linter.all false
namespace Go.Proofs.YtdlbhiaceheffabGreatDoor
section
namespace Ty
open Tok (Tk)
theorem take_map_er (a b : List Nd) (k : Nat) (h : b.map er = a.map er) : (b.take k).map er = (a.take k).map er := by rw [List.map_take, List.map_take, h]
section
variable {toks t2 : List Tk}
theorem bare_ik (hT : ∀ t ∈ toks, TkOk t) (hL : toks.length ≤ 1001) (r : Nat) {E S : M Nat} (hIE : ∀ t0, IK t0 E fun _ _ => True) (hIS : ∀ t0, IK t0 S fun _ _ => True) (t0 : List Ty) : IK t0 (bareM toks (typ toks r) E S) fun _ _ => True :=
 bareM_ik hT (fun t0 => IK.typ hT hL r) hIE hIS t0
theorem srm_of {r : Nat} {m : M Nat} (hI : ∀ t0, IK t0 m fun _ _ => True) (h : ∀ s n s', Inv s → m s = .ok (n, s') → ∃ e ls, layS e s.ns = (s'.ns, n) ∧ (∀ tsF, Ext s'.ts tsF → lexS tsF e = ls) ∧ HdOf shuts ls ∧ s.pos + ls.length ≤ s'.pos ∧
   ∀ r2, r ≤ r2 → Ac t2 (bareM t2 (typ t2 r2) (lv t2 r2).E (lv t2 r2).S) FoS ls s n s') : SrM t2 (r + 1) m := fun s n s' hi hm => by
 have hall := hI s.ts s n s' (Ext.refl _) hi hm
 obtain ⟨e, ls, h1, h2, h3, h4, h5⟩ := h s n s' hi hm
 refine ⟨hall.1, hall.2.1, e, ls, h1, h2, h3, h4, fun r2 hr => ?_⟩
 obtain ⟨r2, rfl⟩ : ∃ g, r2 = g + 1 := ⟨r2 - 1, by omega⟩
 exact h5 r2 (by omega)
def plainHd (l : Lm) : Prop := isL [l] [108, 101, 116] = false ∧ isL [l] [112, 114, 105, 110, 116] = false ∧ isL [l] [114, 101, 116, 117, 114, 110] = false ∧ isL [l] [105, 102] = false ∧ isL [l] [119, 104, 105, 108, 101] = false
theorem bare_plain {t : St} {l : Lm} {r : List Lm} {T E S : M Nat} (hd : D t2 t.pos (l :: r)) (h : plainHd l) : bareM t2 T E S t = plainM t2 E t := by
 obtain ⟨h1, h2, h3, h4, h5⟩ := h
 show bnd (take t2 [108, 101, 116]) _ t = _
 rw [bnd_ok (go_pass hd h1), if_neg (by simp), bnd_ok (go_pass hd h2), if_neg (by simp), bnd_ok (go_pass hd h3), if_neg (by simp)]
 show (if Ty.is t2 [105, 102] t.pos = true then _ else if Ty.is t2 [119, 104, 105, 108, 101] t.pos = true then _ else plainM t2 E : M Nat) t = _
 rw [hd.is, hd.is, show isL (l :: r) [105, 102] = false from h4, show isL (l :: r) [119, 104, 105, 108, 101] = false from h5, if_neg (by simp), if_neg (by simp)]
theorem HdOf.plain {ls : List Lm} (h : NoHd ls) : ∃ l r, ls = l :: r ∧ plainHd l := by
 obtain ⟨l, r, e, h⟩ := h
 exact ⟨l, r, e, h _ (by decide), h _ (by decide), h _ (by decide), h _ (by decide), h _ (by decide)⟩
theorem ndAt_kind {s t : St} (he : Eqs s t) (a : Nat) : (ndAt t a).kind = (ndAt s a).kind ∧ (ndAt t a).text = (ndAt s a).text ∧ (ndAt t a).a = (ndAt s a).a ∧ (ndAt t a).b = (ndAt s a).b := by
 have h := ndAt_er he a
 generalize ndAt t a = x at h
 generalize ndAt s a = y at h
 obtain ⟨x1, x2, x3, x4, x5, x6, x7, x8, x9⟩ := x
 obtain ⟨y1, y2, y3, y4, y5, y6, y7, y8, y9⟩ := y
 simp only [er, Nd.mk.injEq] at h
 obtain ⟨h1, h2, h3, h4, h5, h6, h7, h8, _⟩ := h
 exact ⟨h1, h6, h2, h3⟩
theorem plain_op (hT : ∀ t ∈ toks, TkOk t) {r : Nat} {E : M Nat} (HE : SrE t2 r E) {s s' : St} {n : Nat} (hi : Inv s) (h : plainM toks E s = .ok (n, s')) : ∃ e ls, layS e s.ns = (s'.ns, n) ∧ (∀ tsF, Ext s'.ts tsF → lexS tsF e = ls) ∧ NoHd ls ∧ s.pos + ls.length ≤ s'.pos ∧
   ∀ r2, r ≤ r2 → Ac t2 (plainM t2 (lv t2 r2).E) FoS ls s n s' := by
 obtain ⟨a, s1, e1, h⟩ := bnd_inv h
 obtain ⟨i1, x1, e, la, k1, k2, k3, k4, k5⟩ := HE.go hi e1
 have h : (if Ty.is toks [61] s1.pos = true then
   if (ndAt s1 a).kind = 5 then bnd (trunc a) fun _ => bnd step fun _ => bnd E fun v => bnd (need toks [59]) fun _ => addNode { ndOf 18 (ndAt s1 a).pos with text := (ndAt s1 a).text, a := v }
   else if (ndAt s1 a).kind = 8 then bnd (trunc a) fun _ => bnd step fun _ => bnd E fun v => bnd (need toks [59]) fun _ => addNode { ndOf 19 (ndAt s1 a).pos with text := (ndAt s1 a).text, a := (ndAt s1 a).a, b := v }
   else if (ndAt s1 a).kind = 9 then bnd (trunc a) fun _ => bnd step fun _ => bnd E fun v => bnd (need toks [59]) fun _ => addNode { ndOf 20 (ndAt s1 a).pos with a := (ndAt s1 a).a, b := (ndAt s1 a).b, c := (v : Int) }
   else fail toks 1
 else bnd (need toks [59]) fun _ => addNode { ndOf 25 (ndAt s1 a).pos with a := a } : M Nat) s1 = .ok (n, s') := h
 -- the same at the other reader
 have hgo : ∀ r2 t, plainM t2 (lv t2 r2).E t = bnd (lv t2 r2).E (fun a => look fun t1 => (if Ty.is t2 [61] t1.pos = true then
   if (ndAt t1 a).kind = 5 then bnd (trunc a) fun _ => bnd step fun _ => bnd (lv t2 r2).E fun v => bnd (need t2 [59]) fun _ => addNode { ndOf 18 (ndAt t1 a).pos with text := (ndAt t1 a).text, a := v }
   else if (ndAt t1 a).kind = 8 then bnd (trunc a) fun _ => bnd step fun _ => bnd (lv t2 r2).E fun v => bnd (need t2 [59]) fun _ => addNode { ndOf 19 (ndAt t1 a).pos with text := (ndAt t1 a).text, a := (ndAt t1 a).a, b := v }
   else if (ndAt t1 a).kind = 9 then bnd (trunc a) fun _ => bnd step fun _ => bnd (lv t2 r2).E fun v => bnd (need t2 [59]) fun _ => addNode { ndOf 20 (ndAt t1 a).pos with a := (ndAt t1 a).a, b := (ndAt t1 a).b, c := (v : Int) }
   else fail t2 1
 else bnd (need t2 [59]) fun _ => addNode { ndOf 25 (ndAt t1 a).pos with a := a } : M Nat)) t := fun _ _ => rfl
 have hcur : ∀ (K : Nat → St → M Nat) (m : M Nat) (t t1 : St), m t = .ok (a, t1) → bnd m (fun a => look (K a)) t = K a t1 t1 := fun K m t t1 h => by rw [bnd_ok h]; rfl
 obtain ⟨ns1, nd, hl, hk⟩ := layE_last e s.ns
 have hnd := ndAt_last (hl.symm.trans k1)
 rw [hnd] at h
 by_cases hq : Ty.is toks [61] s1.pos = true
 · rw [if_pos hq] at h
   -- what stands behind the sign
   have hset : ∀ (b : Nat → Nd), bnd E (fun v => bnd (need toks [59]) fun _ => addNode (b v)) { s1 with ns := s1.ns.take a, pos := s1.pos + 1 } = .ok (n, s') →
       ∃ (v : Nat) (s2 : St) (ev : Ex) (lv' : List Lm), layE ev (s1.ns.take a) = (s2.ns, v) ∧ (∀ tsF, Ext s'.ts tsF → lexE tsF ev = lv') ∧ s1.pos + lv'.length + 2 ≤ s'.pos ∧ s'.ts = s2.ts ∧ Ext s1.ts s'.ts ∧ n = s2.ns.length ∧ s'.ns = s2.ns ++ [b v] ∧
       ∀ r2, r ≤ r2 → ∀ t1 rest (bb : Nat → Nd), D t2 t1.pos ((5, [61]) :: (lv' ++ (5, [59]) :: rest)) → Eqs s1 t1 → (∀ v, er (bb v) = er (b v)) → ∃ t', bnd (trunc a) (fun _ => bnd step fun _ => bnd (Ty.lv t2 r2).E fun v => bnd (need t2 [59]) fun _ => addNode (bb v)) t1 = .ok (n, t') ∧ t'.pos = t1.pos + lv'.length + 2 ∧ Eqs s' t' := by
     intro b h
     obtain ⟨v, s2, e2, h⟩ := bnd_inv h
     have i1' : Inv { s1 with ns := s1.ns.take a, pos := s1.pos + 1 } := ⟨i1.wf, i1.nm, fun nd hm => i1.ns nd (List.mem_of_mem_take hm)⟩
     obtain ⟨i2, x2, ev, lv', j1, j2, j3, j4, j5⟩ := HE.go i1' e2
     obtain ⟨u, s3, e3, h⟩ := bnd_inv h
     obtain ⟨_, m1, m2, m3⟩ := need_inv e3
     obtain ⟨w1, w2, w3, w4⟩ := add_inv h
     refine ⟨v, s2, ev, lv', j1, fun tsF hx => j2 tsF (by rw [w1, m1] at hx; exact hx), by dsimp only at j4; omega, by rw [w1, m1], by rw [w1, m1]; exact x2, by rw [← m2]; exact w3, by rw [w4, m2], fun r2 hr t1 rest bb hd he hbb => ?_⟩
     obtain ⟨t3, y1, y2, y3⟩ := j5 r2 hr { t1 with ns := t1.ns.take a, pos := t1.pos + 1 } _ hd.next (FoE.sign (by decide)) ⟨he.ts, take_map_er _ _ _ he.ns⟩
     have d3 := hd.next.add.pos y2
     obtain ⟨t4, z1, z2, z3⟩ := add_eqs (b := bb v) h ((y3.of m1 m2).atR (t3.pos + 1)) (hbb v)
     refine ⟨t4, ?_, by dsimp only at y2 z2; omega, z3⟩
     rw [bnd_ok (show trunc a t1 = .ok ((), { t1 with ns := t1.ns.take a }) from rfl), bnd_ok (show step { t1 with ns := t1.ns.take a } = .ok ((), { t1 with ns := t1.ns.take a, pos := t1.pos + 1 }) from rfl), bnd_ok y1, bnd_ok (go_need d3 rfl)]
     exact z1
   by_cases h5 : nd.kind = 5
   · rw [if_pos h5] at h
     obtain ⟨v, s2, ev, lv', j1, j2, j4, j6, j7, j8, j9, j10⟩ := hset (fun v => { ndOf 18 nd.pos with text := nd.text, a := v }) h
     have hk5 := h5
     rw [hk] at hk5
     cases e <;> simp only [kindE] at hk5 <;> try omega
     rename_i p x
     have hla := k2 s1.ts (Ext.refl _)
     rw [lexE] at hla
     rw [layE] at k1 hl
     obtain ⟨q1, q2⟩ := Prod.mk.inj k1
     obtain ⟨r1, r2⟩ := Prod.mk.inj hl
     obtain ⟨r3, r4⟩ := List.append_inj' r1 rfl
     obtain rfl := List.cons.inj r4 |>.1
     rw [← q1, ← q2] at j1
     simp only [List.take_left'] at j1
     refine ⟨.set p x ev, la ++ ((5, [61]) :: (lv' ++ [(5, [59])])), ?_, fun tsF hx => ?_, k3.app _, ?_, fun r2 hr t rest hd _ he => ?_⟩
     · rw [layS, j1, j9, j8]; rfl
     · rw [lexS, j2 tsF hx, ← hla]; rfl
     · simp only [lzA, lzC, lzN]; omega
     · simp only [List.append_assoc, List.cons_append, List.nil_append] at hd
       obtain ⟨t1, c1, c2, c3⟩ := k5 r2 hr t _ hd (FoE.sign (by decide)) he
       have d1 := hd.add.pos c2
       have hkk := ndAt_kind c3 a
       obtain ⟨t4, z1, z2, z3⟩ := j10 r2 hr t1 rest (fun v => { ndOf 18 (ndAt t1 a).pos with text := (ndAt t1 a).text, a := v }) d1 c3 (fun v => by rw [hkk.2.1, hnd]; rfl)
       refine ⟨t4, ?_, by simp only [lzA, lzC, lzN]; omega, z3⟩
       rw [hgo, hcur _ _ _ _ c1, d1.is, if_pos (show isL ((5, [61]) :: (lv' ++ (5, [59]) :: rest)) [61] = true from rfl), hkk.1, hnd, if_pos h5]
       exact z1
   rw [if_neg h5] at h
   by_cases h8 : nd.kind = 8
   · rw [if_pos h8] at h
     obtain ⟨v, s2, ev, lv', j1, j2, j4, j6, j7, j8, j9, j10⟩ := hset (fun v => { ndOf 19 nd.pos with text := nd.text, a := nd.a, b := v }) h
     have hk8 := h8
     rw [hk] at hk8
     cases e <;> simp only [kindE] at hk8 <;> try omega
     rename_i p ea x
     rw [layE] at k1 hl
     dsimp only at k1 hl
     obtain ⟨q1, q2⟩ := Prod.mk.inj k1
     obtain ⟨r1, r2⟩ := Prod.mk.inj hl
     obtain ⟨r3, r4⟩ := List.append_inj' r1 rfl
     obtain rfl := List.cons.inj r4 |>.1
     rw [← q1, ← q2] at j1
     simp only [List.take_left'] at j1
     refine ⟨.put p ea x ev, la ++ ((5, [61]) :: (lv' ++ [(5, [59])])), ?_, fun tsF hx => ?_, k3.app _, ?_, fun r2 hr t rest hd _ he => ?_⟩
     · rw [layS]; dsimp only; rw [j1, j9, j8]; rfl
     · have hla := k2 tsF (j7.trans hx)
       rw [lexE] at hla
       rw [lexS, j2 tsF hx, ← hla]; simp
     · simp only [lzA, lzC, lzN]; omega
     · simp only [List.append_assoc, List.cons_append, List.nil_append] at hd
       obtain ⟨t1, c1, c2, c3⟩ := k5 r2 hr t _ hd (FoE.sign (by decide)) he
       have d1 := hd.add.pos c2
       have hkk := ndAt_kind c3 a
       obtain ⟨t4, z1, z2, z3⟩ := j10 r2 hr t1 rest (fun v => { ndOf 19 (ndAt t1 a).pos with text := (ndAt t1 a).text, a := (ndAt t1 a).a, b := v }) d1 c3 (fun v => by rw [hkk.2.1, hkk.2.2.1, hnd]; rfl)
       refine ⟨t4, ?_, by simp only [lzA, lzC, lzN]; omega, z3⟩
       rw [hgo, hcur _ _ _ _ c1, d1.is, if_pos (show isL ((5, [61]) :: (lv' ++ (5, [59]) :: rest)) [61] = true from rfl), hkk.1, hnd, if_neg h5, if_pos h8]
       exact z1
   rw [if_neg h8] at h
   by_cases h9 : nd.kind = 9
   · rw [if_pos h9] at h
     obtain ⟨v, s2, ev, lv', j1, j2, j4, j6, j7, j8, j9, j10⟩ := hset (fun v => { ndOf 20 nd.pos with a := nd.a, b := nd.b, c := (v : Int) }) h
     have hk9 := h9
     rw [hk] at hk9
     cases e <;> simp only [kindE] at hk9 <;> try omega
     rename_i p ea eb
     rw [layE] at k1 hl
     dsimp only at k1 hl
     obtain ⟨q1, q2⟩ := Prod.mk.inj k1
     obtain ⟨r1, r2⟩ := Prod.mk.inj hl
     obtain ⟨r3, r4⟩ := List.append_inj' r1 rfl
     obtain rfl := List.cons.inj r4 |>.1
     rw [← q1, ← q2] at j1
     simp only [List.take_left'] at j1
     refine ⟨.lay p ea eb ev, la ++ ((5, [61]) :: (lv' ++ [(5, [59])])), ?_, fun tsF hx => ?_, k3.app _, ?_, fun r2 hr t rest hd _ he => ?_⟩
     · rw [layS]; dsimp only; rw [j1, j9, j8]; rfl
     · have hla := k2 tsF (j7.trans hx)
       rw [lexE] at hla
       rw [lexS, j2 tsF hx, ← hla]; simp
     · simp only [lzA, lzC, lzN]; omega
     · simp only [List.append_assoc, List.cons_append, List.nil_append] at hd
       obtain ⟨t1, c1, c2, c3⟩ := k5 r2 hr t _ hd (FoE.sign (by decide)) he
       have d1 := hd.add.pos c2
       have hkk := ndAt_kind c3 a
       obtain ⟨t4, z1, z2, z3⟩ := j10 r2 hr t1 rest (fun v => { ndOf 20 (ndAt t1 a).pos with a := (ndAt t1 a).a, b := (ndAt t1 a).b, c := (v : Int) }) d1 c3 (fun v => by rw [hkk.2.2.1, hkk.2.2.2, hnd]; rfl)
       refine ⟨t4, ?_, by simp only [lzA, lzC, lzN]; omega, z3⟩
       rw [hgo, hcur _ _ _ _ c1, d1.is, if_pos (show isL ((5, [61]) :: (lv' ++ (5, [59]) :: rest)) [61] = true from rfl), hkk.1, hnd, if_neg h5, if_neg h8, if_pos h9]
       exact z1
   rw [if_neg h9] at h
   cases h
 · rw [if_neg hq] at h
   obtain ⟨u, s2, e2, h⟩ := bnd_inv h
   obtain ⟨_, m1, m2, m3⟩ := need_inv e2
   obtain ⟨w1, w2, w3, w4⟩ := add_inv h
   refine ⟨.do_ nd.pos e, la ++ [(5, [59])], by rw [layS, k1, w4, w3, m2], fun tsF hx => by rw [w1, m1] at hx; rw [lexS, k2 tsF hx], k3.app _, by simp only [lzA, lzC, lzN]; omega, fun r2 hr t rest hd _ he => ?_⟩
   simp only [List.append_assoc, List.cons_append, List.nil_append] at hd
   obtain ⟨t1, c1, c2, c3⟩ := k5 r2 hr t _ hd (FoE.sign (by decide)) he
   have d1 := hd.add.pos c2
   obtain ⟨t4, z1, z2, z3⟩ := add_eqs (b := { ndOf 25 (ndAt t1 a).pos with a := a }) h ((c3.of m1 m2).atR (t1.pos + 1)) rfl
   refine ⟨t4, ?_, by simp only [lzA, lzC, lzN] at z2 ⊢; omega, z3⟩
   rw [hgo, hcur _ _ _ _ c1, d1.is, if_neg (by simp [isL]), bnd_ok (go_need d1 rfl)]
   exact z1
end
end Ty
end
section
namespace Ty
open Tok (Tk)
section
variable {toks t2 : List Tk}
def brW (yes : Bool) : List UInt8 := if yes then [105, 102] else [119, 104, 105, 108, 101]
theorem branch_op {r : Nat} {E S : M Nat} (HE : SrE t2 r E) (HS : SrM t2 r S) (hIS : ∀ t0, IK t0 S fun _ _ => True) (yes : Bool) (p : Nat) {s s' : St} {n : Nat} (hi : Inv s) (h : branchM toks E S yes p s = .ok (n, s')) :
   ∃ e ls, layS e s.ns = (s'.ns, n) ∧ (∀ tsF, Ext s'.ts tsF → lexS tsF e = (2, brW yes) :: ls) ∧ s.pos + ls.length + 1 ≤ s'.pos ∧
     ∀ r2, r ≤ r2 → ∀ p2, Ac t2 (branchM t2 (lv t2 r2).E (lv t2 r2).S yes p2) FoS ((2, brW yes) :: ls) s n s' := by
 obtain ⟨u, s1, e1, h⟩ := bnd_inv h
 obtain rfl : s1 = { s with pos := s.pos + 1 } := by cases e1; rfl
 obtain ⟨u2, s2, e2, h⟩ := bnd_inv h
 obtain ⟨_, q1, q2, q3⟩ := need_inv e2
 obtain ⟨a, s3, e3, h⟩ := bnd_inv h
 have i2 : Inv s2 := inv_of hi q1 q2
 obtain ⟨i3, x3, e, la, k1, k2, k3, k4, k5⟩ := HE.go i2 e3
 obtain ⟨u4, s4, e4, h⟩ := bnd_inv h
 obtain ⟨_, o1, o2, o3⟩ := need_inv e4
 obtain ⟨b, s5, e5, h⟩ := bnd_inv h
 obtain ⟨i5, x5, bp, body, LB, b1, b2, b3, b4⟩ := block_op HS hIS (inv_of i3 o1 o2) e5
 have hx35 : Ext s3.ts s5.ts := by rw [← o1]; exact x5
 dsimp only at q1 q2 q3
 -- up to the block at the other reader
 have hgo : ∀ r2, r ≤ r2 → ∀ (K : Nat → Nat → M Nat) t rest, D t2 t.pos ((2, brW yes) :: (5, [40]) :: (la ++ ((5, [41]) :: (5, [123]) :: (LB ++ (5, [125]) :: rest)))) → Eqs s t →
     ∃ t5, bnd step (fun _ => bnd (need t2 [40]) fun _ => bnd (lv t2 r2).E fun a => bnd (need t2 [41]) fun _ => bnd (blockM t2 (lv t2 r2).S) fun b => K a b) t = K a b t5 ∧ t5.pos = t.pos + la.length + LB.length + 5 ∧ D t2 t5.pos rest ∧ Eqs s5 t5 := fun r2 hr K t rest hd he => by
   obtain ⟨t3, c1, c2, c3⟩ := k5 r2 hr { t with pos := t.pos + 1 + 1 } _ hd.next.next (FoE.sign (by decide)) ((he.of q1 q2).atR _)
   have d3 := hd.next.next.add.pos c2
   obtain ⟨t5, f1, f2, f3⟩ := b4 r2 hr { t3 with pos := t3.pos + 1 } rest (by simpa using d3.next) trivial ((c3.of o1 o2).atR _)
   dsimp only at c2 f2
   simp only [List.length_cons, List.length_append, List.length_nil] at f2
   refine ⟨t5, ?_, by omega, ?_, f3⟩
   · rw [bnd_ok (show step t = .ok ((), { t with pos := t.pos + 1 }) from rfl), bnd_ok (go_need (t := { t with pos := t.pos + 1 }) hd.next rfl), bnd_ok c1, bnd_ok (go_need d3 rfl), bnd_ok f1]
   · have d5 := (show D t2 (t3.pos + 1) (((5, [123]) :: (LB ++ [(5, [125])])) ++ rest) by simpa using d3.next).add
     exact d5.pos (by simp only [List.length_cons, List.length_append, List.length_nil]; omega)
 cases yes with
 | false =>
   have h : addNode { ndOf 23 p with a := a, b := b } s5 = .ok (n, s') := h
   obtain ⟨w1, w2, w3, w4⟩ := add_inv h
   refine ⟨.while_ p e bp body, (5, [40]) :: (la ++ ((5, [41]) :: (5, [123]) :: (LB ++ [(5, [125])]))), ?_, fun tsF hx => ?_, ?_, fun r2 hr p2 t rest hd _ he => ?_⟩
   · rw [layS, ← q2, k1]
     dsimp only
     rw [← o2, b1, w4, w3]
   · rw [w1] at hx
     rw [lexS, k2 tsF (hx35.trans hx), b2 tsF hx]; rfl
   · simp only [lzA, lzC, lzN]; omega
   · simp only [List.append_assoc, List.cons_append, List.nil_append] at hd
     obtain ⟨t5, c1, c2, c3, c4⟩ := hgo r2 hr (fun a b => addNode { ndOf 23 p2 with a := a, b := b }) t rest hd he
     obtain ⟨t6, z1, z2, z3⟩ := add_eqs (b := { ndOf 23 p2 with a := a, b := b }) h c4 rfl
     refine ⟨t6, ?_, by simp only [lzA, lzC, lzN]; omega, z3⟩
     exact c1.trans z1
 | true =>
   have h : bnd (take toks [101, 108, 115, 101]) (fun e => if e then bnd (blockM toks S) fun c => addNode { ndOf 22 p with a := a, b := b, c := (c : Int) } else addNode { ndOf 22 p with a := a, b := b, c := -1 }) s5 = .ok (n, s') := h
   obtain ⟨v, s6, e6, h⟩ := bnd_inv h
   obtain ⟨hv, m1, m2, m3⟩ := take_inv e6
   cases v with
   | false =>
     rw [← hv] at m3
     simp only [Bool.false_eq_true, if_false] at h m3
     obtain ⟨w1, w2, w3, w4⟩ := add_inv h
     refine ⟨.if_ p e bp body none, (5, [40]) :: (la ++ ((5, [41]) :: (5, [123]) :: (LB ++ [(5, [125])]))), ?_, fun tsF hx => ?_, ?_, fun r2 hr p2 t rest hd hf he => ?_⟩
     · rw [layS, ← q2, k1]
       dsimp only
       rw [← o2, b1]
       dsimp only
       rw [w4, w3, m2]
     · rw [w1, m1] at hx
       rw [lexS, k2 tsF (hx35.trans hx), b2 tsF hx]; rfl
     · simp only [lzA, lzC, lzN]; omega
     · simp only [List.append_assoc, List.cons_append, List.nil_append] at hd
       obtain ⟨t5, c1, c2, c3, c4⟩ := hgo r2 hr (fun a b => bnd (take t2 [101, 108, 115, 101]) fun e => if e then bnd (blockM t2 (lv t2 r2).S) fun c => addNode { ndOf 22 p2 with a := a, b := b, c := (c : Int) } else addNode { ndOf 22 p2 with a := a, b := b, c := -1 }) t rest hd he
       obtain ⟨t6, z1, z2, z3⟩ := add_eqs (b := { ndOf 22 p2 with a := a, b := b, c := -1 }) h (c4.of m1 m2) rfl
       refine ⟨t6, ?_, by simp only [lzA, lzC, lzN]; omega, z3⟩
       refine c1.trans ?_
       rw [bnd_ok (go_pass c3 hf)]
       exact z1
   | true =>
     rw [← hv, if_pos rfl] at m3
     simp only [if_true] at h
     obtain ⟨c, s7, e7, h⟩ := bnd_inv h
     obtain ⟨i7, x7, cp, cbody, LC, g1, g2, g3, g4⟩ := block_op HS hIS (inv_of i5 m1 m2) e7
     obtain ⟨w1, w2, w3, w4⟩ := add_inv h
     have hx57 : Ext s5.ts s7.ts := by rw [← m1]; exact x7
     refine ⟨.if_ p e bp body (some (cp, cbody)), (5, [40]) :: (la ++ ((5, [41]) :: (5, [123]) :: (LB ++ ((5, [125]) :: (2, [101, 108, 115, 101]) :: (5, [123]) :: (LC ++ [(5, [125])]))))), ?_, fun tsF hx => ?_, ?_, fun r2 hr p2 t rest hd hf he => ?_⟩
     · rw [layS, ← q2, k1]
       dsimp only
       rw [← o2, b1]
       dsimp only
       rw [← m2, g1]
       dsimp only
       rw [w4, w3]
     · rw [w1] at hx
       rw [lexS, k2 tsF ((hx35.trans hx57).trans hx), b2 tsF (hx57.trans hx), g2 tsF hx]; rfl
     · simp only [lzA, lzC, lzN]; omega
     · simp only [List.append_assoc, List.cons_append, List.nil_append] at hd
       obtain ⟨t5, c1, c2, c3, c4⟩ := hgo r2 hr (fun a b => bnd (take t2 [101, 108, 115, 101]) fun e => if e then bnd (blockM t2 (lv t2 r2).S) fun c => addNode { ndOf 22 p2 with a := a, b := b, c := (c : Int) } else addNode { ndOf 22 p2 with a := a, b := b, c := -1 }) t _ hd he
       obtain ⟨t6, y1, y2, y3⟩ := g4 r2 hr { t5 with pos := t5.pos + 1 } rest (by simpa using c3.next) trivial ((c4.of m1 m2).atR _)
       obtain ⟨t7, z1, z2, z3⟩ := add_eqs (b := { ndOf 22 p2 with a := a, b := b, c := (c : Int) }) h y3 rfl
       dsimp only at y2
       simp only [lzA, lzC, lzN] at y2
       refine ⟨t7, ?_, by simp only [lzA, lzC, lzN]; omega, z3⟩
       refine c1.trans ?_
       rw [bnd_ok (go_take c3 rfl), if_pos rfl, bnd_ok y1]
       exact z1
theorem tail_op {r : Nat} {E : M Nat} (HE : SrE t2 r E) (f : Nat → Nd) {s s' : St} {n : Nat} (hi : Inv s) (h : bnd E (fun a => bnd (need toks [59]) fun _ => addNode (f a)) s = .ok (n, s')) :
   ∃ (e : Ex) (a : Nat) (ns1 : List Nd) (la : List Lm), layE e s.ns = (ns1, a) ∧ s'.ns = ns1 ++ [f a] ∧ n = ns1.length ∧ (∀ tsF, Ext s'.ts tsF → lexE tsF e = la) ∧ Ext s.ts s'.ts ∧ s.pos + la.length + 1 ≤ s'.pos ∧
     ∀ r2, r ≤ r2 → ∀ (g : Nat → Nd), er (g a) = er (f a) → ∀ t rest, D t2 t.pos (la ++ (5, [59]) :: rest) → Eqs s t → ∃ t', bnd (lv t2 r2).E (fun a => bnd (need t2 [59]) fun _ => addNode (g a)) t = .ok (n, t') ∧ t'.pos = t.pos + la.length + 1 ∧ Eqs s' t' := by
 obtain ⟨a, s1, e1, h⟩ := bnd_inv h
 obtain ⟨i1, x1, e, la, k1, k2, k3, k4, k5⟩ := HE.go hi e1
 obtain ⟨u, s2, e2, h⟩ := bnd_inv h
 obtain ⟨_, m1, m2, m3⟩ := need_inv e2
 obtain ⟨w1, w2, w3, w4⟩ := add_inv h
 refine ⟨e, a, s1.ns, la, k1, by rw [w4, m2], by rw [w3, m2], fun tsF hx => k2 tsF (by rw [w1, m1] at hx; exact hx), by rw [w1, m1]; exact x1, by omega, fun r2 hr g hg t rest hd he => ?_⟩
 obtain ⟨t1, c1, c2, c3⟩ := k5 r2 hr t _ hd (FoE.sign (by decide)) he
 have d1 := hd.add.pos c2
 obtain ⟨t4, z1, z2, z3⟩ := add_eqs (b := g a) h ((c3.of m1 m2).atR (t1.pos + 1)) hg
 refine ⟨t4, ?_, by dsimp only at z2; omega, z3⟩
 rw [bnd_ok c1, bnd_ok (go_need d1 rfl)]
 exact z1
theorem hd_word {x : List UInt8} {r : List Lm} (h : x ∉ shuts) : HdOf shuts ((2, x) :: r) := ⟨_, _, rfl, fun y hy => by
 rw [isL_cons (.inr rfl), decide_eq_false]
 rintro rfl
 exact h hy⟩
theorem bare_op (hT : ∀ t ∈ toks, TkOk t) (hL : toks.length ≤ 1001) {r : Nat} {E S : M Nat} (HE : SrE t2 r E) (HS : SrM t2 r S) (hIE : ∀ t0, IK t0 E fun _ _ => True) (hIS : ∀ t0, IK t0 S fun _ _ => True) : SrM t2 (r + 1) (bareM toks (typ toks r) E S) := by
 refine srm_of (bare_ik hT hL r hIE hIS) fun s n s' hi h => ?_
 have h : bnd (take toks [108, 101, 116]) (fun b => if b then bnd (name toks []) fun x => bnd (written toks (typ toks r)) fun t => bnd (need toks [61]) fun _ => bnd E fun a => bnd (need toks [59]) fun _ => addNode { ndOf 17 (cur toks s.pos).pos with text := x, ty := t, a := a } else
   bnd (take toks [112, 114, 105, 110, 116]) fun b => if b then bnd E fun a => bnd (need toks [59]) fun _ => addNode { ndOf 21 (cur toks s.pos).pos with a := a } else
   bnd (take toks [114, 101, 116, 117, 114, 110]) fun b => if b then bnd E fun a => bnd (need toks [59]) fun _ => addNode { ndOf 24 (cur toks s.pos).pos with a := a } else
   look fun s2 => if Ty.is toks [105, 102] s2.pos then branchM toks E S true (cur toks s.pos).pos else if Ty.is toks [119, 104, 105, 108, 101] s2.pos then branchM toks E S false (cur toks s.pos).pos else plainM toks E) s = .ok (n, s') := h
 obtain ⟨b, s1, e1, h⟩ := bnd_inv h
 obtain ⟨hb, q1, q2, q3⟩ := take_inv e1
 cases b with
 | true =>
   rw [← hb, if_pos rfl] at q3
   obtain ⟨x, s2, e2, h⟩ := bnd_inv (show bnd (name toks []) (fun x => bnd (written toks (typ toks r)) fun t => bnd (need toks [61]) fun _ => bnd E fun a => bnd (need toks [59]) fun _ => addNode { ndOf 17 (cur toks s.pos).pos with text := x, ty := t, a := a }) s1 = _ from h)
   obtain ⟨m1, m2, m3, m4⟩ := name_inv e2
   have t2e : s2.ts = s.ts := m2.trans q1
   have n2e : s2.ns = s.ns := m3.trans q2
   obtain ⟨ty, s3, e3, h⟩ := bnd_inv h
   obtain ⟨i3, x3, n3, lt, k2, k4, kne, k5⟩ := written_op (t2 := t2) hT hL (inv_of hi t2e n2e) e3
   obtain ⟨u, s4, e4, h⟩ := bnd_inv h
   obtain ⟨_, o1, o2, o3⟩ := need_inv e4
   obtain ⟨e, a, ns1, la, g1, g2, g3, g4, g5, g6, g7⟩ := tail_op (t2 := t2) HE (fun a => { ndOf 17 (cur toks s.pos).pos with text := x, ty := ty, a := a }) (inv_of i3 o1 o2) h
   rw [o1] at g5
   refine ⟨.let_ (cur toks s.pos).pos x ty e, (2, [108, 101, 116]) :: (1, x.data.toList) :: (lt ++ ((5, [61]) :: (la ++ [(5, [59])]))), ?_, fun tsF hx => ?_, hd_word (by decide), ?_, fun r2 hr t rest hd hf he => ?_⟩
   · rw [layS, ← n2e, ← n3, ← o2, g1, g2, g3]
   · rw [lexS, k2 tsF (g5.trans hx), g4 tsF hx]
   · simp only [lzA, lzC, lzN]; omega
   · simp only [List.append_assoc, List.cons_append, List.nil_append] at hd
     obtain ⟨t3, c1, c2, c3⟩ := k5 r2 hr { t with pos := t.pos + 1 + 1 } _ hd.next.next ⟨rfl, rfl, rfl⟩ ((he.of t2e n2e).atR _)
     have d3 := hd.next.next.add.pos c2
     obtain ⟨t4, y1, y2, y3⟩ := g7 r2 hr (fun a => { ndOf 17 (cur t2 t.pos).pos with text := x, ty := ty, a := a }) rfl { t3 with pos := t3.pos + 1 } rest d3.next ((c3.of o1 o2).atR _)
     dsimp only at c2 y2
     refine ⟨t4, ?_, by simp only [lzA, lzC, lzN]; omega, y3⟩
     show bnd (take t2 [108, 101, 116]) _ t = _
     rw [bnd_ok (go_take hd rfl), if_pos rfl, bnd_ok (go_name (t := { t with pos := t.pos + 1 }) hd.next m1), bnd_ok c1, bnd_ok (go_need d3 rfl)]
     exact y1
 | false =>
   rw [← hb] at q3
   simp only [Bool.false_eq_true, if_false] at h q3
   obtain ⟨b, s2, e2, h⟩ := bnd_inv h
   obtain ⟨hb2, p1, p2, p3⟩ := take_inv e2
   have t2e : s2.ts = s.ts := p1.trans q1
   have n2e : s2.ns = s.ns := p2.trans q2
   cases b with
   | true =>
     rw [← hb2, if_pos rfl] at p3
     obtain ⟨e, a, ns1, la, g1, g2, g3, g4, g5, g6, g7⟩ := tail_op (t2 := t2) HE (fun a => { ndOf 21 (cur toks s.pos).pos with a := a }) (inv_of hi t2e n2e) h
     refine ⟨.print (cur toks s.pos).pos e, (2, [112, 114, 105, 110, 116]) :: (la ++ [(5, [59])]), ?_, fun tsF hx => by rw [lexS, g4 tsF hx], hd_word (by decide), ?_, fun r2 hr t rest hd hf he => ?_⟩
     · rw [layS, ← n2e, g1, g2, g3]
     · simp only [lzA, lzC, lzN]; omega
     · simp only [List.append_assoc, List.cons_append, List.nil_append] at hd
       obtain ⟨t4, y1, y2, y3⟩ := g7 r2 hr (fun a => { ndOf 21 (cur t2 t.pos).pos with a := a }) rfl { t with pos := t.pos + 1 } rest hd.next ((he.of t2e n2e).atR _)
       dsimp only at y2
       refine ⟨t4, ?_, by simp only [lzA, lzC, lzN]; omega, y3⟩
       show bnd (take t2 [108, 101, 116]) _ t = _
       rw [bnd_ok (go_pass hd rfl), if_neg (by simp), bnd_ok (go_take hd rfl)]
       exact y1
   | false =>
     rw [← hb2] at p3
     simp only [Bool.false_eq_true, if_false] at h p3
     obtain ⟨b, s3, e3, h⟩ := bnd_inv h
     obtain ⟨hb3, o1, o2, o3⟩ := take_inv e3
     have t3e : s3.ts = s.ts := o1.trans t2e
     have n3e : s3.ns = s.ns := o2.trans n2e
     cases b with
     | true =>
       rw [← hb3, if_pos rfl] at o3
       obtain ⟨e, a, ns1, la, g1, g2, g3, g4, g5, g6, g7⟩ := tail_op (t2 := t2) HE (fun a => { ndOf 24 (cur toks s.pos).pos with a := a }) (inv_of hi t3e n3e) h
       refine ⟨.ret (cur toks s.pos).pos e, (2, [114, 101, 116, 117, 114, 110]) :: (la ++ [(5, [59])]), ?_, fun tsF hx => by rw [lexS, g4 tsF hx], hd_word (by decide), ?_, fun r2 hr t rest hd hf he => ?_⟩
       · rw [layS, ← n3e, g1, g2, g3]
       · simp only [lzA, lzC, lzN]; omega
       · simp only [List.append_assoc, List.cons_append, List.nil_append] at hd
         obtain ⟨t4, y1, y2, y3⟩ := g7 r2 hr (fun a => { ndOf 24 (cur t2 t.pos).pos with a := a }) rfl { t with pos := t.pos + 1 } rest hd.next ((he.of t3e n3e).atR _)
         dsimp only at y2
         refine ⟨t4, ?_, by simp only [lzA, lzC, lzN]; omega, y3⟩
         show bnd (take t2 [108, 101, 116]) _ t = _
         rw [bnd_ok (go_pass hd rfl), if_neg (by simp), bnd_ok (go_pass hd rfl), if_neg (by simp), bnd_ok (go_take hd rfl)]
         exact y1
     | false =>
       rw [← hb3] at o3
       have h : (if Ty.is toks [105, 102] s3.pos = true then branchM toks E S true (cur toks s.pos).pos else if Ty.is toks [119, 104, 105, 108, 101] s3.pos = true then branchM toks E S false (cur toks s.pos).pos else plainM toks E : M Nat) s3 = .ok (n, s') := h
       simp only [Bool.false_eq_true, if_false] at o3
       have i3 : Inv s3 := inv_of hi t3e n3e
       have hbr : ∀ yes, branchM toks E S yes (cur toks s.pos).pos s3 = .ok (n, s') → ∃ e ls, layS e s.ns = (s'.ns, n) ∧ (∀ tsF, Ext s'.ts tsF → lexS tsF e = ls) ∧ HdOf shuts ls ∧ s.pos + ls.length ≤ s'.pos ∧
           ∀ r2, r ≤ r2 → Ac t2 (bareM t2 (typ t2 r2) (lv t2 r2).E (lv t2 r2).S) FoS ls s n s' := fun yes h => by
         obtain ⟨e, ls, g1, g2, g3, g4⟩ := branch_op (t2 := t2) HE HS hIS yes _ i3 h
         refine ⟨e, (2, brW yes) :: ls, by rw [← n3e]; exact g1, g2, hd_word (by cases yes <;> decide), by simp only [List.length_cons]; omega, fun r2 hr t rest hd hf he => ?_⟩
         obtain ⟨t4, y1, y2, y3⟩ := g4 r2 hr (cur t2 t.pos).pos t rest hd hf (he.of t3e n3e)
         refine ⟨t4, ?_, y2, y3⟩
         have hd : D t2 t.pos ((2, brW yes) :: (ls ++ rest)) := hd
         show bnd (take t2 [108, 101, 116]) _ t = _
         rw [bnd_ok (go_pass hd (by cases yes <;> rfl)), if_neg (by simp), bnd_ok (go_pass hd (by cases yes <;> rfl)), if_neg (by simp), bnd_ok (go_pass hd (by cases yes <;> rfl)), if_neg (by simp)]
         show (if Ty.is t2 [105, 102] t.pos = true then branchM t2 (lv t2 r2).E (lv t2 r2).S true (cur t2 t.pos).pos else if Ty.is t2 [119, 104, 105, 108, 101] t.pos = true then branchM t2 (lv t2 r2).E (lv t2 r2).S false (cur t2 t.pos).pos else plainM t2 (lv t2 r2).E : M Nat) t = _
         rw [hd.is, hd.is]
         cases yes
         · rw [if_neg (by simp [isL, brW]), if_pos (by simp [isL, brW])]
           exact y1
         · rw [if_pos (by simp [isL, brW])]
           exact y1
       split at h
       · exact hbr true h
       · split at h
         · exact hbr false h
         · obtain ⟨e, ls, g1, g2, g3, g4, g5⟩ := plain_op (t2 := t2) hT HE i3 h
           refine ⟨e, ls, by rw [← n3e]; exact g1, g2, g3.weak, by omega, fun r2 hr t rest hd hf he => ?_⟩
           obtain ⟨t4, y1, y2, y3⟩ := g5 r2 hr t rest hd hf (he.of t3e n3e)
           refine ⟨t4, ?_, y2, y3⟩
           obtain ⟨l, ls', rfl, hp⟩ := g3.plain
           rw [bare_plain hd hp]
           exact y1
theorem lv_op (hT : ∀ t ∈ toks, TkOk t) (hL : toks.length ≤ 1001) : ∀ r, SrE t2 r (lv toks r).E ∧ SrP t2 r (lv toks r).O ∧ SrM t2 r (lv toks r).S
 | 0 => by
   refine ⟨?_, ?_, ?_⟩ <;> intro s n s' _ h <;> cases h
 | r + 1 => by
   obtain ⟨h1, h2, h3⟩ := lv_op hT hL r
   obtain ⟨i1, i2, i3⟩ := lv_ik hT hL r
   have ho := one_op (t2 := t2) hT hL h1 h2 h3 i1 i2 i3
   have hi1 : ∀ t0, IK t0 (oneM toks (typ toks r) (lv toks r).E (lv toks r).O (lv toks r).S) fun _ _ => True := oneM_ik hT (fun t0 => IK.typ hT hL r) i1 i2 i3
   refine ⟨fun s n s' hi h => ?_, fun s n s' hi h => ?_, bare_op hT hL h1 h3 i1 i3⟩
   · obtain ⟨a, b, c⟩ := expr_op hT ho hi1 _ _ _ hi h
     exact ⟨a, b, r, rfl, c⟩
   · obtain ⟨a, b, c⟩ := ho _ _ _ hi h
     exact ⟨a, b, r, rfl, c⟩
end
end Ty
end
end Go.Proofs.YtdlbhiaceheffabGreatDoor
