/- Plain: what was read once, and printed, is read again as it was: lists, params, blocks, functions. No program in sight. -/
import Derived.Test.YtdlbhiaceheffabGreatDoorS33
set_option linter.all false
namespace Go.Proofs.YtdlbhiaceheffabGreatDoor
section
namespace Ty
open Tok (Tk)
structure FoC (r : List Lm) : Prop extends FoE r where
 k : isL r [58] = false
theorem FoC.sign {x : List UInt8} {r : List Lm} (h : x ∉ [[40], [46], [91], [97, 115], [124], [61, 62], [42], [43], [45], [61, 61], [60], [58]]) : FoC ((5, x) :: r) :=
 ⟨FoE.sign (fun hx => h (List.mem_append_left [[58]] hx)), by
   have : x ≠ [58] := by intro e; subst e; exact h (by simp)
   simp [isL, this]⟩
def LayL {α β : Type} (Lay : β → List Nd → α → List Nd → Prop) : List β → List Nd → List α → List Nd → Prop
 | [], ns, az, ns' => az = [] ∧ ns' = ns
 | b :: bs, ns, az, ns' => ∃ a az' ns1, az = a :: az' ∧ Lay b ns a ns1 ∧ LayL Lay bs ns1 az' ns'
def ElC {α β : Type} (t2 : List Tk) (r : Nat) (lx : List Ty → β → List Lm) (Lay : β → List Nd → α → List Nd → Prop) (m2 : Nat → List α → M α) (l : List α) (s : St) (a : α) (s' : St) : Prop :=
 Inv s' ∧ Ext s.ts s'.ts ∧ ∃ b ls, Lay b s.ns a s'.ns ∧ (∀ tsF, Ext s'.ts tsF → lx tsF b = ls) ∧ NoHd ls ∧ s.pos + ls.length ≤ s'.pos ∧ ∀ r2, r ≤ r2 → Ac t2 (m2 r2 l) FoC ls s a s'
def jn (n : Nat) (l : List (List Lm)) : List Lm := if n = 0 then joinG [(5, [44])] l else tailG [(5, [44])] l
theorem jn_cons (n : Nat) (x : List Lm) (l : List (List Lm)) : jn n (x :: l) = (if n = 0 then [] else [(5, [44])]) ++ (x ++ tailG [(5, [44])] l) := by
 unfold jn; split <;> simp [joinG, tailG]
theorem jn_nil (n : Nat) : jn n [] = [] := by unfold jn; split <;> rfl
section
variable {toks t2 : List Tk}
theorem list_op {α β : Type} {r : Nat} {lx : List Ty → β → List Lm} {Lay : β → List Nd → α → List Nd → Prop} {m2 : Nat → List α → M α} {m : List α → M α} {x : List UInt8} (hx : x ∈ shuts) (hx2 : x ≠ [44]) (hxc : ∀ r, FoC ((5, x) :: r))
   (H : ∀ l s a s', Inv s → m l s = .ok (a, s') → ElC t2 r lx Lay m2 l s a s') : ∀ f (l : List α) s l' s', Inv s → list toks x m f l s = .ok (l', s') → Inv s' ∧ Ext s.ts s'.ts ∧ ∃ bs az LS, l' = l ++ az ∧ LayL Lay bs s.ns az s'.ns ∧
     (∀ tsF, Ext s'.ts tsF → jn l.length (bs.map (lx tsF)) = LS) ∧ s.pos + LS.length + 1 ≤ s'.pos ∧
     ∀ r2, r ≤ r2 → ∀ t rest f2, D t2 t.pos (LS ++ (5, x) :: rest) → Eqs s t → t2.length < t.pos + f2 → ∃ t', list t2 x (m2 r2) f2 l t = .ok (l', t') ∧ t'.pos = t.pos + LS.length + 1 ∧ Eqs s' t'
 | 0, _, _, _, _, _, h => by cases h
 | f + 1, l, s, l', s', hi, h => by
   obtain ⟨b, s1, e1, h⟩ := bnd_inv h
   obtain ⟨hb, q1, q2, q3⟩ := take_inv e1
   cases hbb : Ty.is toks x s.pos with
   | true =>
     rw [hbb] at hb q3
     subst hb
     simp only [if_true] at h q3
     obtain ⟨rfl, rfl⟩ : l = l' ∧ s1 = s' := by cases h; exact ⟨rfl, rfl⟩
     refine ⟨inv_of hi q1 q2, by rw [q1]; exact Ext.refl _, [], [], [], by simp, ⟨rfl, q2⟩, fun _ _ => jn_nil _, by simp; omega, fun r2 _ t rest f2 hd he hf2 => ?_⟩
     have hd : D t2 t.pos ((5, x) :: rest) := hd
     have := hd.lt
     obtain ⟨f2, rfl⟩ : ∃ g, f2 = g + 1 := ⟨f2 - 1, by omega⟩
     refine ⟨{ t with pos := t.pos + 1 }, ?_, rfl, (he.of q1 q2).atR _⟩
     rw [list, bnd_ok (go_take hd (by simp [isL]))]; rfl
   | false =>
     rw [hbb] at hb q3
     subst hb
     simp only [Bool.false_eq_true, if_false] at h q3
     obtain ⟨u, s2, e2, h⟩ := bnd_inv h
     have h2 : s2.ts = s1.ts ∧ s2.ns = s1.ns ∧ s2.pos = s1.pos + (if l.length = 0 then 0 else 1) := by
       split at e2
       · rename_i h0; cases e2; rw [if_pos h0]; exact ⟨rfl, rfl, rfl⟩
       · rename_i h0; obtain ⟨_, a, b, c⟩ := need_inv e2; rw [if_neg h0]; exact ⟨a, b, c⟩
     obtain ⟨p1, p2, p3⟩ := h2
     obtain ⟨n, s3, e3, h⟩ := bnd_inv h
     have t12 : s2.ts = s.ts := p1.trans q1
     have n12 : s2.ns = s.ns := p2.trans q2
     obtain ⟨i3, x3, b, ls, k1, k2, k3, k4, k5⟩ := H l s2 n s3 (inv_of hi t12 n12) e3
     obtain ⟨i4, x4, bs, az, LS, g1, g2, g3, g4, g5⟩ := list_op hx hx2 hxc H f (l ++ [n]) s3 l' s' i3 h
     have hne : (l ++ [n]).length ≠ 0 := by simp
     have ej : ∀ y : List (List Lm), jn (l ++ [n]).length y = tailG [(5, [44])] y := fun y => by unfold jn; rw [if_neg hne]
     have ec : (if l.length = 0 then ([] : List Lm) else [(5, [44])]).length = if l.length = 0 then 0 else 1 := by split <;> rfl
     refine ⟨i4, by rw [← t12]; exact x3.trans x4, b :: bs, n :: az, (if l.length = 0 then [] else [(5, [44])]) ++ (ls ++ LS), by rw [g1]; simp, ⟨n, az, s3.ns, rfl, by rw [← n12]; exact k1, g2⟩, fun tsF hxt => ?_, ?_, fun r2 hr t rest f2 hd he hf2 => ?_⟩
     · rw [List.map_cons, jn_cons, k2 tsF (x4.trans hxt), ← ej, g3 tsF hxt]
     · simp only [List.length_append]
       omega
     · simp only [List.append_assoc] at hd
       have hno : isL ((if l.length = 0 then ([] : List Lm) else [(5, [44])]) ++ (ls ++ (LS ++ (5, x) :: rest))) x = false := by
         split
         · exact k3.no _ hx
         · simp [isL, Ne.symm hx2]
       obtain ⟨t1, c1, c2, c3, c4⟩ : ∃ t1, (if l.length = 0 then ret () else need t2 [44] : M Unit) t = .ok ((), t1) ∧ t1.pos = t.pos + (if l.length = 0 then 0 else 1) ∧ D t2 t1.pos (ls ++ (LS ++ (5, x) :: rest)) ∧ Eqs s t1 := by
         by_cases h0 : l.length = 0
         · rw [if_pos h0] at hd; rw [if_pos h0, if_pos h0]; exact ⟨t, rfl, rfl, hd, he⟩
         · rw [if_neg h0] at hd; rw [if_neg h0, if_neg h0]; exact ⟨_, go_need (l := (5, [44])) hd rfl, rfl, D.next (l := (5, [44])) hd, he.atR _⟩
       have hfo : FoC (LS ++ (5, x) :: rest) := by
         have h1 := g3 s'.ts (Ext.refl _)
         rw [ej] at h1
         cases bs with
         | nil => rw [← h1]; exact hxc _
         | cons b2 bs => rw [← h1, List.map_cons, tailG]; exact FoC.sign (by decide)
       obtain ⟨t3, a1, a2, a3⟩ := k5 r2 hr t1 _ c3 hfo (c4.of t12 n12)
       have := k3.len
       have hlt : t.pos < t2.length := by
         by_cases h0 : l.length = 0
         · rw [if_pos h0] at c2
           have : t1.pos < t2.length := by
             obtain ⟨u, v, e, _⟩ := k3
             rw [e] at c3; exact c3.lt
           omega
         · rw [if_neg h0] at hd; exact D.lt (l := (5, [44])) hd
       obtain ⟨f2, rfl⟩ : ∃ g, f2 = g + 1 := ⟨f2 - 1, by omega⟩
       obtain ⟨t', b1, b2, b3⟩ := g5 r2 hr t3 rest f2 (c3.add.pos a2) a3 (by omega)
       refine ⟨t', ?_, ?_, b3⟩
       · rw [list, bnd_ok (go_pass hd hno)]
         simp only [Bool.false_eq_true, if_false]
         rw [bnd_ok c1, bnd_ok a1]
         exact b1
       · simp only [List.length_append]
         omega
theorem written_op (hT : ∀ t ∈ toks, TkOk t) (hL : toks.length ≤ 1001) {r : Nat} {s s' : St} {ty : Int} (hi : Inv s) (h : written toks (typ toks r) s = .ok (ty, s')) :
   Inv s' ∧ Ext s.ts s'.ts ∧ s'.ns = s.ns ∧ ∃ ls, (∀ tsF, Ext s'.ts tsF → lexCol tsF ty = ls) ∧ s.pos + ls.length ≤ s'.pos ∧ (∀ x y : List UInt8, ∀ r, x ≠ y → y ≠ [58] → isL (ls ++ (5, x) :: r) y = false) ∧
     ∀ r2, r ≤ r2 → Ac t2 (written t2 (typ t2 r2)) (fun x => isL x [58] = false ∧ Fol x) ls s ty s' := by
 have hall := written_ik (T := typ toks r) (fun t0 => IK.typ hT hL r) s.ts s ty s' (Ext.refl _) hi h
 refine ⟨hall.1, hall.2.1, ?_⟩
 obtain ⟨b, s1, e1, h⟩ := bnd_inv h
 obtain ⟨hb, q1, q2, q3⟩ := take_inv e1
 cases hbb : Ty.is toks [58] s.pos with
 | true =>
   rw [hbb] at hb q3
   subst hb
   simp only [if_true] at h q3
   obtain ⟨n, s2, e2, h⟩ := bnd_inv h
   obtain ⟨rfl, rfl⟩ : (n : Int) = ty ∧ s2 = s' := by cases h; exact ⟨rfl, rfl⟩
   have hw1 : Wf s1.ts := by rw [q1]; exact hi.wf
   obtain ⟨k1, k2, k3, k4⟩ := typ_sr hL r _ _ _ hw1 e2
   obtain ⟨_, _, g3⟩ := typ_keep toks hL r _ _ _ hw1 e2
   refine ⟨k1.trans q2, (5, [58]) :: lexT (den s2.ts n), fun tsF hx => ?_, ?_, fun x y r hxy hy => by simp [isL, Ne.symm hy], fun r2 hr t rest hd hf he => ?_⟩
   · unfold lexCol
     rw [if_neg (by omega), Int.toNat_natCast, hx.den g3]
   · simp only [List.length_cons]; omega
   · have hd : D t2 t.pos ((5, [58]) :: (lexT (den s2.ts n) ++ rest)) := hd
     obtain ⟨t1, a1, a2, a3⟩ := k4.1 r2 hr { t with pos := t.pos + 1 } rest hd.next hf.2 ((he.of q1 q2).atR _)
     refine ⟨t1, ?_, ?_, a3⟩
     · unfold written
       rw [bnd_ok (go_take hd rfl), if_pos rfl, bnd_ok a1]; rfl
     · simp only [List.length_cons] at a2 ⊢; omega
 | false =>
   rw [hbb] at hb q3
   subst hb
   simp only [Bool.false_eq_true, if_false] at h q3
   obtain ⟨rfl, rfl⟩ : (-1 : Int) = ty ∧ s1 = s' := by cases h; exact ⟨rfl, rfl⟩
   refine ⟨q2, [], fun tsF hx => rfl, by simp; omega, fun x y r hxy hy => by simp [isL, hxy], fun r2 hr t rest hd hf he => ?_⟩
   refine ⟨t, ?_, by simp, he.of q1 q2⟩
   unfold written
   rw [bnd_ok (go_pass (r := rest) hd hf.1), if_neg (by simp)]; rfl
def SrE (t2 : List Tk) (r : Nat) (E : M Nat) : Prop := ∀ s n s', Inv s → E s = .ok (n, s') → Inv s' ∧ Ext s.ts s'.ts ∧ ∃ r', r = r' + 1 ∧ Op t2 0 r' s n s'
theorem SrE.go {r : Nat} {E : M Nat} (H : SrE t2 r E) {s s' : St} {n : Nat} (hi : Inv s) (h : E s = .ok (n, s')) : Inv s' ∧ Ext s.ts s'.ts ∧ ∃ e ls, layE e s.ns = (s'.ns, n) ∧ (∀ tsF, Ext s'.ts tsF → lexE tsF e = ls) ∧ NoHd ls ∧ s.pos + ls.length ≤ s'.pos ∧
   ∀ r2, r ≤ r2 → Ac t2 (lv t2 r2).E FoE ls s n s' := by
 obtain ⟨i, x, r', rfl, ho⟩ := H _ _ _ hi h
 obtain ⟨e, ls, h1, h2, h3, h4, h5⟩ := ho.whole
 refine ⟨i, x, e, ls, h1, h2, h3, h4, fun r2 hr => ?_⟩
 obtain ⟨r2, rfl⟩ : ∃ g, r2 = g + 1 := ⟨r2 - 1, by omega⟩
 exact h5.e0 r2 (by omega)
def layExp (e : Ex) (ns : List Nd) (a : Nat) (ns' : List Nd) : Prop := layE e ns = (ns', a)
theorem layL_exp : ∀ (bs : List Ex) (ns : List Nd) (az : List Nat) (ns' : List Nd), LayL layExp bs ns az ns' → layEs bs ns = (ns', az)
 | [], ns, az, ns', h => by obtain ⟨rfl, rfl⟩ := h; rw [layEs]
 | b :: bs, ns, az, ns', h => by
   obtain ⟨a, az', ns1, rfl, h1, h2⟩ := h
   rw [layEs, show layE b ns = (ns1, a) from h1]
   dsimp only
   rw [layL_exp bs ns1 az' ns' h2]
theorem lexEs_map (ts : List Ty) : ∀ l : List Ex, lexEs ts l = l.map (lexE ts)
 | [] => by rw [lexEs]; rfl
 | e :: l => by rw [lexEs, lexEs_map ts l]; rfl
theorem exprs_op {r : Nat} {E : M Nat} (H : SrE t2 r E) {x : List UInt8} (hx : x ∈ shuts) (hx2 : x ≠ [44]) (hxc : ∀ r, FoC ((5, x) :: r)) {s s' : St} {l' : List Nat} (hi : Inv s) (h : list toks x (fun _ => E) (toks.length + 1) [] s = .ok (l', s')) :
   Inv s' ∧ Ext s.ts s'.ts ∧ ∃ es LS, layEs es s.ns = (s'.ns, l') ∧ (∀ tsF, Ext s'.ts tsF → joinG [(5, [44])] (lexEs tsF es) = LS) ∧ s.pos + LS.length + 1 ≤ s'.pos ∧
     ∀ r2, r ≤ r2 → ∀ t rest, D t2 t.pos (LS ++ (5, x) :: rest) → Eqs s t → ∃ t', list t2 x (fun _ => (lv t2 r2).E) (t2.length + 1) [] t = .ok (l', t') ∧ t'.pos = t.pos + LS.length + 1 ∧ Eqs s' t' := by
 obtain ⟨i, xx, bs, az, LS, h1, h2, h3, h4, h5⟩ := list_op (r := r) (lx := lexE) (Lay := layExp) (m2 := fun r2 _ => (lv t2 r2).E) hx hx2 hxc (fun l s a s' hi h => by
   obtain ⟨i, x, e, ls, k1, k2, k3, k4, k5⟩ := H.go hi h
   exact ⟨i, x, e, ls, k1, k2, k3, k4, fun r2 hr => (k5 r2 hr).mono fun _ hq => hq.toFoE⟩) _ _ _ _ _ hi h
 rw [List.nil_append] at h1
 subst h1
 exact ⟨i, xx, bs, LS, layL_exp _ _ _ _ h2, fun tsF hx => by rw [lexEs_map]; exact h3 tsF hx, h4, fun r2 hr t rest hd he => h5 r2 hr t rest _ hd he (by omega)⟩
def layPart (b : Nat × ByteArray × Ex) (ns : List Nd) (a : ByteArray × Nat) (ns' : List Nd) : Prop := a.1 = b.2.1 ∧ ∃ ns1 m, layE b.2.2 ns = (ns1, m) ∧ ns' = ns1 ++ [{ ndOf 15 b.1 with text := b.2.1, a := m }] ∧ a.2 = ns1.length
theorem layL_part : ∀ (bs : List (Nat × ByteArray × Ex)) (ns : List Nd) (az : List (ByteArray × Nat)) (ns' : List Nd), LayL layPart bs ns az ns' → layOs bs ns = (ns', az.map Prod.snd)
 | [], ns, az, ns', h => by obtain ⟨rfl, rfl⟩ := h; rw [layOs]; rfl
 | (p, x, e) :: bs, ns, az, ns', h => by
   obtain ⟨a, az', ns1, rfl, ⟨h1, ns2, m, h2, h3, h4⟩, h5⟩ := h
   dsimp only at h2 h3
   rw [layOs, h2]
   dsimp only
   rw [← h3, layL_part bs ns1 az' ns' h5, List.map_cons, h4]
def lexPart (ts : List Ty) (b : Nat × ByteArray × Ex) : List Lm := (1, b.2.1.data.toList) :: (5, [58]) :: lexE ts b.2.2
theorem lexOs_map (ts : List Ty) : ∀ l : List (Nat × ByteArray × Ex), lexOs ts l = l.map (lexPart ts)
 | [] => by rw [lexOs]; rfl
 | (p, x, e) :: l => by rw [lexOs, lexOs_map ts l]; rfl
theorem no_name {x : List UInt8} : ∀ y ∈ shutsE, isL [(1, x)] y = false := fun y _ => isL_kind (by decide) (by decide)
theorem parts_op (hT : ∀ t ∈ toks, TkOk t) {r : Nat} {E : M Nat} (H : SrE t2 r E) {s s' : St} {l' : List (ByteArray × Nat)} (hIK : ∀ t0, IK t0 E fun _ _ => True) (hi : Inv s) (h : list toks [125] (fun l => partM toks E (l.map Prod.fst)) (toks.length + 1) [] s = .ok (l', s')) :
   Inv s' ∧ Ext s.ts s'.ts ∧ ∃ es LS, layOs es s.ns = (s'.ns, l'.map Prod.snd) ∧ (∀ tsF, Ext s'.ts tsF → joinG [(5, [44])] (lexOs tsF es) = LS) ∧ s.pos + LS.length + 1 ≤ s'.pos ∧
     ∀ r2, r ≤ r2 → ∀ t rest, D t2 t.pos (LS ++ (5, [125]) :: rest) → Eqs s t → ∃ t', list t2 [125] (fun l => partM t2 (lv t2 r2).E (l.map Prod.fst)) (t2.length + 1) [] t = .ok (l', t') ∧ t'.pos = t.pos + LS.length + 1 ∧ Eqs s' t' := by
 obtain ⟨i, xx, bs, az, LS, h1, h2, h3, h4, h5⟩ := list_op (r := r) (lx := lexPart) (Lay := layPart) (m2 := fun r2 l => partM t2 (lv t2 r2).E (l.map Prod.fst)) (x := [125]) (by decide) (by decide) (fun r => FoC.sign (by decide)) (fun l s a s' hi h => by
   have hall := partM_ik hT hIK (l.map Prod.fst) s.ts s a s' (Ext.refl _) hi h
   obtain ⟨x, s1, e1, h⟩ := bnd_inv (show bnd (name toks (l.map Prod.fst)) (fun x => bnd (need toks [58]) fun _ => bnd E fun a => bnd (addNode { ndOf 15 (cur toks s.pos).pos with text := x, a := a }) fun n => ret (x, n)) s = _ from h)
   obtain ⟨m1, m2, m3, m4⟩ := name_inv e1
   obtain ⟨u, s2, e2, h⟩ := bnd_inv h
   obtain ⟨_, o1, o2, o3⟩ := need_inv e2
   obtain ⟨n, s3, e3, h⟩ := bnd_inv h
   obtain ⟨q, s4, e4, h⟩ := bnd_inv h
   obtain ⟨rfl, rfl⟩ : (x, q) = a ∧ s4 = s' := by cases h; exact ⟨rfl, rfl⟩
   obtain ⟨i3, x3, e, ls, k1, k2, k3, k4, k5⟩ := H.go (inv_of hi (o1.trans m2) (o2.trans m3)) e3
   have w : s4.ts = s3.ts ∧ s4.pos = s3.pos ∧ q = s3.ns.length ∧ s4.ns = s3.ns ++ [{ ndOf 15 (cur toks s.pos).pos with text := x, a := n }] := by cases e4; exact ⟨rfl, rfl, rfl, rfl⟩
   obtain ⟨w1, w2, w3, w4⟩ := w
   refine ⟨hall.1, hall.2.1, ((cur toks s.pos).pos, x, e), (1, x.data.toList) :: (5, [58]) :: ls, ⟨rfl, s3.ns, n, by rw [← m3, ← o2]; exact k1, w4, w3⟩, fun tsF hx => ?_, ⟨_, _, rfl, no_name⟩, ?_, fun r2 hr t rest hd hf he => ?_⟩
   · rw [w1] at hx
     show (1, x.data.toList) :: (5, [58]) :: lexE tsF e = _
     rw [k2 tsF hx]
   · simp only [List.length_cons]; omega
   · have hd : D t2 t.pos ((1, x.data.toList) :: (5, [58]) :: (ls ++ rest)) := hd
     obtain ⟨t3, a1, a2, a3⟩ := k5 r2 hr { t with pos := t.pos + 1 + 1 } rest hd.next.next hf.toFoE ((he.of (o1.trans m2) (o2.trans m3)).atR _)
     obtain ⟨t4, b1, b2, b3⟩ := add_eqs (b := { ndOf 15 (cur t2 t.pos).pos with text := x, a := n }) e4 a3 rfl
     refine ⟨t4, ?_, ?_, b3⟩
     · show bnd (name t2 (l.map Prod.fst)) _ t = _
       rw [bnd_ok (go_name hd m1), bnd_ok (go_need (t := { t with pos := t.pos + 1 }) hd.next rfl), bnd_ok a1, bnd_ok b1]; rfl
     · dsimp only at a2
       simp only [List.length_cons]; omega) _ _ _ _ _ hi h
 rw [List.nil_append] at h1
 subst h1
 exact ⟨i, xx, bs, LS, layL_part _ _ _ _ h2, fun tsF hx => by rw [lexOs_map]; exact h3 tsF hx, h4, fun r2 hr t rest hd he => h5 r2 hr t rest _ hd he (by omega)⟩
def layPar (b : Par) (ns : List Nd) (a : ByteArray × Nat) (ns' : List Nd) : Prop := a.1 = b.text ∧ ns' = ns ++ [{ ndOf 16 b.pos with text := b.text, ty := b.ty }] ∧ a.2 = ns.length
theorem layL_par : ∀ (bs : List Par) (ns : List Nd) (az : List (ByteArray × Nat)) (ns' : List Nd), LayL layPar bs ns az ns' → layPs bs ns = (ns', az.map Prod.snd)
 | [], ns, az, ns', h => by obtain ⟨rfl, rfl⟩ := h; rw [layPs]; rfl
 | q :: bs, ns, az, ns', h => by
   obtain ⟨a, az', ns1, rfl, ⟨h1, h3, h4⟩, h5⟩ := h
   rw [layPs]
   dsimp only
   rw [← h3, layL_par bs ns1 az' ns' h5, List.map_cons, h4]
theorem params_op (hT : ∀ t ∈ toks, TkOk t) (hL : toks.length ≤ 1001) {r : Nat} {s s' : St} {l' : List (ByteArray × Nat)} (hi : Inv s) (h : list toks [41] (fun l => paramM toks (typ toks r) (l.map Prod.fst)) (toks.length + 1) [] s = .ok (l', s')) :
   Inv s' ∧ Ext s.ts s'.ts ∧ ∃ ps LS, layPs ps s.ns = (s'.ns, l'.map Prod.snd) ∧ (∀ tsF, Ext s'.ts tsF → joinG [(5, [44])] (ps.map (lexPar tsF)) = LS) ∧ s.pos + LS.length + 1 ≤ s'.pos ∧
     ∀ r2, r ≤ r2 → ∀ t rest, D t2 t.pos (LS ++ (5, [41]) :: rest) → Eqs s t → ∃ t', list t2 [41] (fun l => paramM t2 (typ t2 r2) (l.map Prod.fst)) (t2.length + 1) [] t = .ok (l', t') ∧ t'.pos = t.pos + LS.length + 1 ∧ Eqs s' t' := by
 obtain ⟨i, xx, bs, az, LS, h1, h2, h3, h4, h5⟩ := list_op (r := r) (lx := lexPar) (Lay := layPar) (m2 := fun r2 l => paramM t2 (typ t2 r2) (l.map Prod.fst)) (x := [41]) (by decide) (by decide) (fun r => FoC.sign (by decide)) (fun l s a s' hi h => by
   have hall := paramM_ik hT (fun t0 => IK.typ hT hL r) (l.map Prod.fst) s.ts s a s' (Ext.refl _) hi h
   obtain ⟨x, s1, e1, h⟩ := bnd_inv (show bnd (name toks (l.map Prod.fst)) (fun x => bnd (written toks (typ toks r)) fun t => bnd (addNode { ndOf 16 (cur toks s.pos).pos with text := x, ty := t }) fun n => ret (x, n)) s = _ from h)
   obtain ⟨m1, m2, m3, m4⟩ := name_inv e1
   obtain ⟨ty, s2, e2, h⟩ := bnd_inv h
   obtain ⟨q, s4, e4, h⟩ := bnd_inv h
   obtain ⟨rfl, rfl⟩ : (x, q) = a ∧ s4 = s' := by cases h; exact ⟨rfl, rfl⟩
   obtain ⟨i3, x3, n3, ls, k2, k4, _, k5⟩ := written_op (t2 := t2) hT hL (inv_of hi m2 m3) e2
   have w : s4.ts = s2.ts ∧ s4.pos = s2.pos ∧ q = s2.ns.length ∧ s4.ns = s2.ns ++ [{ ndOf 16 (cur toks s.pos).pos with text := x, ty := ty }] := by cases e4; exact ⟨rfl, rfl, rfl, rfl⟩
   obtain ⟨w1, w2, w3, w4⟩ := w
   refine ⟨hall.1, hall.2.1, ⟨(cur toks s.pos).pos, x, ty⟩, (1, x.data.toList) :: ls, ⟨rfl, by rw [w4, n3, m3], by rw [← m3, ← n3]; exact w3⟩, fun tsF hx => ?_, ⟨_, _, rfl, no_name⟩, ?_, fun r2 hr t rest hd hf he => ?_⟩
   · rw [w1] at hx
     show (1, x.data.toList) :: lexCol tsF ty = _
     rw [k2 tsF hx]
   · simp only [List.length_cons]; omega
   · have hd : D t2 t.pos ((1, x.data.toList) :: (ls ++ rest)) := hd
     obtain ⟨t3, a1, a2, a3⟩ := k5 r2 hr { t with pos := t.pos + 1 } rest hd.next ⟨hf.k, hf.f⟩ ((he.of m2 m3).atR _)
     obtain ⟨t4, b1, b2, b3⟩ := add_eqs (b := { ndOf 16 (cur t2 t.pos).pos with text := x, ty := ty }) e4 a3 rfl
     refine ⟨t4, ?_, ?_, b3⟩
     · show bnd (name t2 (l.map Prod.fst)) _ t = _
       rw [bnd_ok (go_name hd m1), bnd_ok a1, bnd_ok b1]; rfl
     · dsimp only at a2
       simp only [List.length_cons]; omega) _ _ _ _ _ hi h
 rw [List.nil_append] at h1
 subst h1
 exact ⟨i, xx, bs, LS, layL_par _ _ _ _ h2, fun tsF hx => h3 tsF hx, h4, fun r2 hr t rest hd he => h5 r2 hr t rest _ hd he (by omega)⟩
def FoS (r : List Lm) : Prop := isL r [101, 108, 115, 101] = false
def SrM (t2 : List Tk) (r : Nat) (S : M Nat) : Prop := ∀ s n s', Inv s → S s = .ok (n, s') → Inv s' ∧ Ext s.ts s'.ts ∧ ∃ e ls, layS e s.ns = (s'.ns, n) ∧ (∀ tsF, Ext s'.ts tsF → lexS tsF e = ls) ∧ HdOf shuts ls ∧ s.pos + ls.length ≤ s'.pos ∧ ∀ r2, r ≤ r2 → Ac t2 (lv t2 r2).S FoS ls s n s'
theorem stmts_op {r : Nat} {S : M Nat} (H : SrM t2 r S) : ∀ f (l : List Nat) s l' s', Inv s → stmts toks S f l s = .ok (l', s') → Inv s' ∧ Ext s.ts s'.ts ∧ ∃ es az LS, l' = l ++ az ∧ laySs es s.ns = (s'.ns, az) ∧
     (∀ tsF, Ext s'.ts tsF → lexSs tsF es = LS) ∧ (LS = [] ∨ HdOf shuts LS) ∧ s.pos + LS.length + 1 ≤ s'.pos ∧
     ∀ r2, r ≤ r2 → ∀ t rest f2, D t2 t.pos (LS ++ (5, [125]) :: rest) → Eqs s t → t2.length < t.pos + f2 → ∃ t', stmts t2 (lv t2 r2).S f2 l t = .ok (l', t') ∧ t'.pos = t.pos + LS.length + 1 ∧ Eqs s' t'
 | 0, _, _, _, _, _, h => by cases h
 | f + 1, l, s, l', s', hi, h => by
   obtain ⟨b, s1, e1, h⟩ := bnd_inv h
   obtain ⟨hb, q1, q2, q3⟩ := take_inv e1
   cases hbb : Ty.is toks [125] s.pos with
   | true =>
     rw [hbb] at hb q3
     subst hb
     simp only [if_true] at h q3
     obtain ⟨rfl, rfl⟩ : l = l' ∧ s1 = s' := by cases h; exact ⟨rfl, rfl⟩
     refine ⟨inv_of hi q1 q2, by rw [q1]; exact Ext.refl _, [], [], [], by simp, by rw [laySs, q2], fun _ _ => by rw [lexSs], .inl rfl, by simp; omega, fun r2 _ t rest f2 hd he hf2 => ?_⟩
     have hd : D t2 t.pos ((5, [125]) :: rest) := hd
     have := hd.lt
     obtain ⟨f2, rfl⟩ : ∃ g, f2 = g + 1 := ⟨f2 - 1, by omega⟩
     refine ⟨{ t with pos := t.pos + 1 }, ?_, rfl, (he.of q1 q2).atR _⟩
     rw [stmts, bnd_ok (go_take hd rfl)]; rfl
   | false =>
     rw [hbb] at hb q3
     subst hb
     simp only [Bool.false_eq_true, if_false] at h q3
     obtain ⟨n, s3, e3, h⟩ := bnd_inv h
     obtain ⟨i3, x3, e, ls, k1, k2, k3, k4, k5⟩ := H _ _ _ (inv_of hi q1 q2) e3
     obtain ⟨i4, x4, es, az, LS, g1, g2, g3, gh, g4, g5⟩ := stmts_op H f (l ++ [n]) s3 l' s' i3 h
     refine ⟨i4, by rw [← q1]; exact x3.trans x4, e :: es, n :: az, ls ++ LS, by rw [g1]; simp, ?_, fun tsF hxt => ?_, .inr (k3.app _), ?_, fun r2 hr t rest f2 hd he hf2 => ?_⟩
     · rw [laySs, ← q2, k1]
       dsimp only
       rw [g2]
     · rw [lexSs, k2 tsF (x4.trans hxt), g3 tsF hxt]
     · simp only [List.length_append]
       omega
     · rw [List.append_assoc] at hd
       have hfo : FoS (LS ++ (5, [125]) :: rest) := by
         rcases gh with rfl | gh
         · rfl
         · exact gh.at _ (by decide)
       obtain ⟨t3, a1, a2, a3⟩ := k5 r2 hr t _ hd hfo (he.of q1 q2)
       have := k3.len
       have hlt : t.pos < t2.length := by
         obtain ⟨u, v, e, _⟩ := k3
         rw [e] at hd; exact hd.lt
       obtain ⟨f2, rfl⟩ : ∃ g, f2 = g + 1 := ⟨f2 - 1, by omega⟩
       obtain ⟨t', b1, b2, b3⟩ := g5 r2 hr t3 rest f2 (hd.add.pos a2) a3 (by omega)
       refine ⟨t', ?_, ?_, b3⟩
       · rw [stmts, bnd_ok (go_pass hd (k3.at _ (by decide)))]
         simp only [Bool.false_eq_true, if_false]
         rw [bnd_ok a1]
         exact b1
       · simp only [List.length_append]
         omega
end
end Ty
end
end Go.Proofs.YtdlbhiaceheffabGreatDoor
