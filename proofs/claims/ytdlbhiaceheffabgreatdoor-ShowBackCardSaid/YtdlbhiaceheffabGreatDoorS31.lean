/- Plain: what was read once, and printed, is read again as it was: the steps; types. No program in sight. -/
import Derived.Test.YtdlbhiaceheffabGreatDoorS30
set_option linter.all false
namespace Go.Proofs.YtdlbhiaceheffabGreatDoor
section
namespace Ty
open Tok (Tk)
def er (n : Nd) : Nd := { n with pos := 0 }
structure Eqs (s t : St) : Prop where
 ts : t.ts = s.ts
 ns : t.ns.map er = s.ns.map er
theorem Eqs.refl (s : St) : Eqs s s := ⟨rfl, rfl⟩
theorem Eqs.at {s t : St} (h : Eqs s t) (p q : Nat) : Eqs { s with pos := p } { t with pos := q } := ⟨h.ts, h.ns⟩
theorem Eqs.atR {s t : St} (h : Eqs s t) (p : Nat) : Eqs s { t with pos := p } := ⟨h.ts, h.ns⟩
theorem Eqs.of {s s' t : St} (h : Eqs s t) (h1 : s'.ts = s.ts) (h2 : s'.ns = s.ns) : Eqs s' t := ⟨h.ts.trans h1.symm, by rw [h2]; exact h.ns⟩
def Ac {α : Type} (toks : List Tk) (m : M α) (Fo : List Lm → Prop) (ls : List Lm) (s : St) (a : α) (s' : St) : Prop :=
 ∀ t rest, D toks t.pos (ls ++ rest) → Fo rest → Eqs s t → ∃ t', m t = .ok (a, t') ∧ t'.pos = t.pos + ls.length ∧ Eqs s' t'
theorem Ac.mono {α : Type} {toks : List Tk} {m : M α} {P Q : List Lm → Prop} {ls : List Lm} {s s' : St} {a : α} (h : Ac toks m P ls s a s') (hq : ∀ r, Q r → P r) : Ac toks m Q ls s a s' := fun t rest hd hf he => h t rest hd (hq _ hf) he
theorem Ac.of {α : Type} {toks : List Tk} {m : M α} {P : List Lm → Prop} {ls : List Lm} {s s' s1 s1' : St} {a : α} (h : Ac toks m P ls s a s') (h1 : s1.ts = s.ts) (h2 : s1.ns = s.ns) (h3 : s1'.ts = s'.ts) (h4 : s1'.ns = s'.ns) : Ac toks m P ls s1 a s1' := fun t rest hd hf he => by
 obtain ⟨t', e1, e2, e3⟩ := h t rest hd hf (he.of h1.symm h2.symm)
 exact ⟨t', e1, e2, e3.of h3 h4⟩
section
variable {toks : List Tk} {t : St} {l : Lm} {r : List Lm} {x : List UInt8}
theorem D.pos {p q : Nat} (h : D toks p r) (e : q = p) : D toks q r := e ▸ h
theorem D.add {p : Nat} {ls rest : List Lm} (h : D toks p (ls ++ rest)) : D toks (p + ls.length) rest := by
 show (toks.map kt).drop (p + ls.length) = rest
 rw [← List.drop_drop, show (toks.map kt).drop p = ls ++ rest from h]; simp
theorem D.len {p : Nat} (h : D toks p r) : r.length + p ≤ toks.length ∨ r = [] := by
 have h1 := congrArg List.length (show (toks.map kt).drop p = r from h)
 simp only [List.length_drop, List.length_map] at h1
 rcases Nat.eq_zero_or_pos r.length with h2 | h2
 · exact .inr (List.length_eq_zero_iff.1 h2)
 · exact .inl (by omega)
theorem go_take (hd : D toks t.pos (l :: r)) (hl : isL (l :: r) x = true) : take toks x t = .ok (true, { t with pos := t.pos + 1 }) := by unfold take; rw [hd.is, if_pos hl]
theorem go_pass (hd : D toks t.pos r) (hl : isL r x = false) : take toks x t = .ok (false, t) := by unfold take; rw [hd.is, if_neg (by rw [hl]; simp)]
theorem go_need (hd : D toks t.pos (l :: r)) (hl : isL (l :: r) x = true) : need toks x t = .ok ((), { t with pos := t.pos + 1 }) := by unfold need; rw [hd.is, if_pos hl]
theorem go_name {y : ByteArray} {met : List ByteArray} (hd : D toks t.pos ((1, y.data.toList) :: r)) (hm : y.data.toList ∉ met.map fun t => t.data.toList) : name toks met t = .ok (y, { t with pos := t.pos + 1 }) := by
 have hc := hd.cur
 have h1 : (cur toks t.pos).kind = 1 := congrArg Prod.fst hc
 have h2 : (cur toks t.pos).text.data.toList = y.data.toList := congrArg Prod.snd hc
 have h3 : (cur toks t.pos).text = y := ByteArray.ext (Array.ext' h2)
 unfold name
 rw [if_neg (by rw [h1]; simp), h2, if_neg hm, h3]
theorem isL_cons {k : Nat} {x y : List UInt8} {r : List Lm} (h : k = 5 ∨ k = 2) : isL ((k, x) :: r) y = decide (x = y) := by
 rcases h with rfl | rfl <;> simp [isL]
theorem isL_kind {k : Nat} {x y : List UInt8} {r : List Lm} (h5 : k ≠ 5) (h2 : k ≠ 2) : isL ((k, x) :: r) y = false := by simp [isL, h5, h2]
end
section
variable {toks : List Tk} {s s' : St} {x : List UInt8}
theorem take_inv {b : Bool} (h : take toks x s = .ok (b, s')) : b = Ty.is toks x s.pos ∧ s'.ts = s.ts ∧ s'.ns = s.ns ∧ s'.pos = s.pos + (if Ty.is toks x s.pos then 1 else 0) := by
 unfold take at h
 split at h <;> cases h
 · rename_i e; rw [e]; exact ⟨rfl, rfl, rfl, rfl⟩
 · rename_i e
   have e : Ty.is toks x s.pos = false := by simpa using e
   rw [e]; exact ⟨rfl, rfl, rfl, rfl⟩
theorem need_inv {u : Unit} (h : need toks x s = .ok (u, s')) : Ty.is toks x s.pos = true ∧ s'.ts = s.ts ∧ s'.ns = s.ns ∧ s'.pos = s.pos + 1 := by
 unfold need at h
 split at h
 · rename_i e; cases h; exact ⟨e, rfl, rfl, rfl⟩
 · cases h
theorem name_inv {met : List ByteArray} {y : ByteArray} (h : name toks met s = .ok (y, s')) : y.data.toList ∉ met.map (fun t => t.data.toList) ∧ s'.ts = s.ts ∧ s'.ns = s.ns ∧ s'.pos = s.pos + 1 := by
 unfold name at h
 split at h
 · cases h
 · split at h
   · cases h
   · rename_i hm; cases h; exact ⟨hm, rfl, rfl, rfl⟩
end
def parL (b : Bool) (ls : List Lm) : List Lm := if b then (5, [40]) :: (ls ++ [(5, [41])]) else ls
def unL (t : Tr) (more : Bool) : Bool := decide (kindOf t = 10) || (decide (kindOf t = 9) && more)
def GT (t2 : List Tk) (r : Nat) (t : Tr) (s : St) (n : Nat) (s' : St) : Prop :=
 (∀ r2, r ≤ r2 → Ac t2 (typ t2 r2) Fol (lexT t) s n s') ∧ (kindOf t ≠ 10 → ∀ r2, r ≤ r2 + 1 → Ac t2 (single t2 (typ t2 r2)) (fun x => kindOf t = 9 → Fol x) (lexT t) s n s')
def SrT (toks t2 : List Tk) (r : Nat) : Prop := ∀ s n s', Wf s.ts → typ toks r s = .ok (n, s') →
 s'.ns = s.ns ∧ s.pos + (lexT (den s'.ts n)).length ≤ s'.pos ∧ Ty.is toks [124] s'.pos = false ∧ GT t2 r (den s'.ts n) s n s'
def SrS (toks t2 : List Tk) (r : Nat) : Prop := ∀ s n s', Wf s.ts → single toks (typ toks r) s = .ok (n, s') →
 s'.ns = s.ns ∧ ((kindOf (den s'.ts n) ≠ 10 ∧ s.pos + (lexT (den s'.ts n)).length ≤ s'.pos ∧ (kindOf (den s'.ts n) = 9 → Ty.is toks [124] s'.pos = false) ∧ ∀ r2, r ≤ r2 → Ac t2 (single t2 (typ t2 r2)) (fun x => kindOf (den s'.ts n) = 9 → Fol x) (lexT (den s'.ts n)) s n s') ∨
   (s.pos + (lexT (den s'.ts n)).length + 2 ≤ s'.pos ∧ GT t2 r (den s'.ts n) s n s'))
section
variable {toks t2 : List Tk}
theorem fields_sr (hL : toks.length ≤ 1001) {r : Nat} (H : SrT toks t2 r) : ∀ f acc s l' s', Wf s.ts → All (acc.map Prod.snd) s.ts → fields toks (typ toks r) f acc s = .ok (l', s') →
   ∃ (ns : List ByteArray) (is : List Nat), ns.length = is.length ∧ l' = acc ++ ns.zip is ∧ s'.ns = s.ns ∧ s.pos + (lexF ns (lexs (is.map (den s'.ts)))).length + 1 ≤ s'.pos ∧
     ∀ r2, r ≤ r2 → ∀ t rest f2, D t2 t.pos (lexF ns (lexs (is.map (den s'.ts))) ++ (5, [125]) :: rest) → Eqs s t → t2.length < t.pos + f2 → ∃ t', fields t2 (typ t2 r2) f2 acc t = .ok (l', t') ∧ t'.pos = t.pos + (lexF ns (lexs (is.map (den s'.ts)))).length + 1 ∧ Eqs s' t'
 | 0, _, _, _, _, _, _, h => by cases h
 | f + 1, acc, s, l', s', hw, ha, h => by
   have hall := fields_keep (typ_keep toks hL r) _ _ _ _ _ hw ha h
   obtain ⟨b, s1, e1, h⟩ := bnd_inv h
   obtain ⟨hb, q1, q2, q3⟩ := take_inv e1
   cases hbb : Ty.is toks [125] s.pos with
   | true =>
     rw [hbb] at hb q3
     subst hb
     simp only [if_true] at h q3
     cases h
     refine ⟨[], [], rfl, by simp, q2, by simp [lexF]; omega, fun r2 _ t rest f2 hd he hf2 => ?_⟩
     obtain ⟨f2, rfl⟩ : ∃ g, f2 = g + 1 := ⟨f2 - 1, by
       rcases hd.len with h | h
       · simp at h; omega
       · simp at h⟩
     have hd : D t2 t.pos ((5, [125]) :: rest) := hd
     refine ⟨{ t with pos := t.pos + 1 }, ?_, rfl, (he.of q1 q2).atR _⟩
     rw [fields, bnd_ok (go_take hd rfl)]; rfl
   | false =>
     rw [hbb] at hb q3
     subst hb
     simp only [Bool.false_eq_true, if_false] at h q3
     obtain ⟨x, s2, e2, h⟩ := bnd_inv h
     obtain ⟨hm, p1, p2, p3⟩ := name_inv e2
     obtain ⟨u, s3, e3, h⟩ := bnd_inv h
     obtain ⟨_, o1, o2, o3⟩ := need_inv e3
     obtain ⟨n, s4, e4, h⟩ := bnd_inv h
     obtain ⟨u, s5, e5, h⟩ := bnd_inv h
     obtain ⟨_, m1, m2, m3⟩ := need_inv e5
     have hw3 : Wf s3.ts := by rw [o1, p1, q1]; exact hw
     obtain ⟨k1, k2, k3, k4⟩ := H _ _ _ hw3 e4
     obtain ⟨g1, g2, g3⟩ := typ_keep toks hL r _ _ _ hw3 e4
     have hw5 : Wf s5.ts := by rw [m1]; exact g1
     have ha5 : All ((acc ++ [(x, n)]).map Prod.snd) s5.ts := fun j hj => by
       rw [List.map_append, List.mem_append] at hj
       have e3 : s3.ts.length = s.ts.length := by rw [o1, p1, q1]
       rw [m1]
       rcases hj with hj | hj
       · have := ha j hj; omega
       · simp at hj; subst hj; exact g3
     obtain ⟨ns, is, i1, i2, i3, i4, i5⟩ := fields_sr hL H f _ _ _ _ hw5 ha5 h
     obtain ⟨x1, _⟩ := fields_grow (typ_keep toks hL r) (typ_grow toks hL r) _ _ _ _ _ hw5 ha5 h
     have hden : den s'.ts n = den s4.ts n := by rw [x1.den (by rw [m1]; exact g3), m1]
     refine ⟨x :: ns, n :: is, by simp [i1], by rw [i2]; simp, by rw [i3, m2, k1, o2, p2, q2], ?_, fun r2 hr t rest f2 hd he hf2 => ?_⟩
     · rw [List.map_cons, lexs, lexF, hden]
       simp only [List.length_cons, List.length_append]
       omega
     · rw [List.map_cons, lexs, lexF, hden] at hd ⊢
       simp only [List.cons_append, List.append_assoc] at hd
       obtain ⟨f2, rfl⟩ : ∃ g, f2 = g + 1 := ⟨f2 - 1, by
         rcases hd.len with h | h
         · simp at h; omega
         · simp at h⟩
       have d1 := hd.next
       have d2 := d1.next
       obtain ⟨t4, a1, a2, a3⟩ := k4.1 r2 hr { t with pos := t.pos + 1 + 1 } _ d2 ⟨rfl, rfl⟩ ((he.of (by rw [o1, p1, q1]) (by rw [o2, p2, q2])).atR _)
       have d4 : D t2 t4.pos _ := d2.add.pos a2
       have d5 := d4.next
       obtain ⟨t', b1, b2, b3⟩ := i5 r2 hr { t4 with pos := t4.pos + 1 } rest f2 d5 ((a3.of m1 m2).atR _) (by dsimp only at a2 ⊢; omega)
       refine ⟨t', ?_, ?_, b3⟩
       · rw [fields, bnd_ok (go_pass hd (by simp [isL]))]
         simp only [Bool.false_eq_true, if_false]
         rw [bnd_ok (go_name (t := t) hd hm), bnd_ok (go_need (t := { t with pos := t.pos + 1 }) d1 rfl), bnd_ok a1, bnd_ok (go_need d4 rfl)]
         exact b1
       · dsimp only at a2 b2
         simp only [List.length_cons, List.length_append]
         omega
theorem list_sr (hL : toks.length ≤ 1001) {r : Nat} (H : SrT toks t2 r) : ∀ f (acc : List Nat) s l' s', Wf s.ts → All acc s.ts → Last acc s.ts → list toks [41] (fun _ => typ toks r) f acc s = .ok (l', s') →
   ∃ (is : List Nat), l' = acc ++ is ∧ s'.ns = s.ns ∧ s.pos + (if acc.length = 0 then joinG [(5, [44])] (lexs (is.map (den s'.ts))) else tailG [(5, [44])] (lexs (is.map (den s'.ts)))).length + 1 ≤ s'.pos ∧
     ∀ r2, r ≤ r2 → ∀ t rest f2, D t2 t.pos ((if acc.length = 0 then joinG [(5, [44])] (lexs (is.map (den s'.ts))) else tailG [(5, [44])] (lexs (is.map (den s'.ts)))) ++ (5, [41]) :: rest) → Eqs s t → t2.length < t.pos + f2 →
       ∃ t', list t2 [41] (fun _ => typ t2 r2) f2 acc t = .ok (l', t') ∧ t'.pos = t.pos + (if acc.length = 0 then joinG [(5, [44])] (lexs (is.map (den s'.ts))) else tailG [(5, [44])] (lexs (is.map (den s'.ts)))).length + 1 ∧ Eqs s' t'
 | 0, _, _, _, _, _, _, _, h => by cases h
 | f + 1, acc, s, l', s', hw, ha, hla, h => by
   obtain ⟨b, s1, e1, h⟩ := bnd_inv h
   obtain ⟨hb, q1, q2, q3⟩ := take_inv e1
   cases hbb : Ty.is toks [41] s.pos with
   | true =>
     rw [hbb] at hb q3
     subst hb
     simp only [if_true] at h q3
     cases h
     have e0 : (if acc.length = 0 then joinG [(5, [44])] (lexs (([] : List Nat).map (den s'.ts))) else tailG [(5, [44])] (lexs (([] : List Nat).map (den s'.ts)))) = ([] : List Lm) := by split <;> rfl
     refine ⟨[], by simp, q2, by rw [e0]; simp; omega, fun r2 _ t rest f2 hd he hf2 => ?_⟩
     rw [e0] at hd ⊢
     have hd : D t2 t.pos ((5, [41]) :: rest) := hd
     obtain ⟨f2, rfl⟩ : ∃ g, f2 = g + 1 := ⟨f2 - 1, by
       rcases hd.len with h | h
       · simp at h; omega
       · simp at h⟩
     refine ⟨{ t with pos := t.pos + 1 }, ?_, rfl, (he.of q1 q2).atR _⟩
     rw [list, bnd_ok (go_take hd rfl)]; rfl
   | false =>
     rw [hbb] at hb q3
     subst hb
     simp only [Bool.false_eq_true, if_false] at h q3
     obtain ⟨u, s2, e2, h⟩ := bnd_inv h
     have h2 : s2.ts = s1.ts ∧ s2.ns = s1.ns ∧ s2.pos = s1.pos + (if acc.length = 0 then 0 else 1) := by
       split at e2
       · rename_i h0; cases e2; rw [if_pos h0]; exact ⟨rfl, rfl, rfl⟩
       · rename_i h0; obtain ⟨_, a, b, c⟩ := need_inv e2; rw [if_neg h0]; exact ⟨a, b, c⟩
     obtain ⟨p1, p2, p3⟩ := h2
     obtain ⟨n, s3, e3, h⟩ := bnd_inv h
     have hw2 : Wf s2.ts := by rw [p1, q1]; exact hw
     obtain ⟨k1, k2, k3, k4⟩ := H _ _ _ hw2 e3
     obtain ⟨g1, g2, g3⟩ := typ_keep toks hL r _ _ _ hw2 e3
     obtain ⟨_, _, g4⟩ := typ_grow toks hL r _ _ _ hw2 e3
     have ha3 : All (acc ++ [n]) s3.ts := fun j hj => by
       rw [List.mem_append] at hj
       have e3 : s2.ts.length = s.ts.length := by rw [p1, q1]
       rcases hj with hj | hj
       · have := ha j hj; omega
       · simp at hj; subst hj; exact g3
     obtain ⟨is, i2, i3, i4, i5⟩ := list_sr hL H f _ _ _ _ g1 ha3 (Last.snoc g4) h
     obtain ⟨x1, _, _⟩ := list_grow (typ_keep toks hL r) (typ_grow toks hL r) _ _ _ _ _ g1 ha3 (Last.snoc g4) h
     have hden : den s'.ts n = den s3.ts n := x1.den g3
     simp only [lzA, lzC, lzN, Nat.add_eq_zero_iff, Nat.one_ne_zero, and_false, if_false] at i4 i5
     have el : (if acc.length = 0 then joinG [(5, [44])] (lexs ((n :: is).map (den s'.ts))) else tailG [(5, [44])] (lexs ((n :: is).map (den s'.ts)))) = (if acc.length = 0 then [] else [(5, [44])]) ++ (lexT (den s3.ts n) ++ tailG [(5, [44])] (lexs (is.map (den s'.ts)))) := by
       rw [List.map_cons, lexs, hden]
       split <;> simp [joinG, tailG]
     refine ⟨n :: is, by rw [i2]; simp, by rw [i3, k1, p2, q2], ?_, fun r2 hr t rest f2 hd he hf2 => ?_⟩
     · rw [el]
       simp only [List.length_append]
       have e5 : (if acc.length = 0 then ([] : List Lm) else [(5, [44])]).length = if acc.length = 0 then 0 else 1 := by split <;> rfl
       omega
     · rw [el] at hd ⊢
       simp only [List.append_assoc] at hd
       obtain ⟨f2, rfl⟩ : ∃ g, f2 = g + 1 := ⟨f2 - 1, by
         rcases hd.len with h | h
         · simp only [List.length_append, List.length_cons] at h; omega
         · simp at h⟩
       have hh := lexT_hd (den s3.ts n) (den_ok g1 _ _ (Nat.lt_succ_self _) g3) (den_uni g1 _ _ (Nat.lt_succ_self _) g3)
       have hno : isL ((if acc.length = 0 then ([] : List Lm) else [(5, [44])]) ++ (lexT (den s3.ts n) ++ (tailG [(5, [44])] (lexs (is.map (den s'.ts))) ++ (5, [41]) :: rest))) [41] = false := by
         split
         · exact hh.no _
         · rfl
       obtain ⟨t1, c1, c2, c3, c4⟩ : ∃ t1, (if acc.length = 0 then ret () else need t2 [44] : M Unit) t = .ok ((), t1) ∧ t1.pos = t.pos + (if acc.length = 0 then 0 else 1) ∧ D t2 t1.pos (lexT (den s3.ts n) ++ (tailG [(5, [44])] (lexs (is.map (den s'.ts))) ++ (5, [41]) :: rest)) ∧ Eqs s t1 := by
         by_cases h0 : acc.length = 0
         · rw [if_pos h0] at hd; rw [if_pos h0, if_pos h0]; exact ⟨t, rfl, rfl, hd, he⟩
         · rw [if_neg h0] at hd; rw [if_neg h0, if_neg h0]; exact ⟨_, go_need (l := (5, [44])) hd rfl, rfl, D.next (l := (5, [44])) hd, he.atR _⟩
       obtain ⟨t3, a1, a2, a3⟩ := k4.1 r2 hr t1 _ c3 (by cases is <;> exact ⟨rfl, rfl⟩) (c4.of (by rw [p1, q1]) (by rw [p2, q2]))
       have hl1 : 1 ≤ (lexT (den s3.ts n)).length := by obtain ⟨_, _, e, _⟩ := hh; rw [e]; simp
       obtain ⟨t', b1, b2, b3⟩ := i5 r2 hr t3 rest f2 (c3.add.pos a2) a3 (by omega)
       refine ⟨t', ?_, ?_, b3⟩
       · rw [list, bnd_ok (go_pass hd hno)]
         simp only [Bool.false_eq_true, if_false]
         rw [bnd_ok c1, bnd_ok a1]
         exact b1
       · simp only [List.length_append]
         have e5 : (if acc.length = 0 then ([] : List Lm) else [(5, [44])]).length = if acc.length = 0 then 0 else 1 := by split <;> rfl
         omega
end
end Ty
end
end Go.Proofs.YtdlbhiaceheffabGreatDoor
