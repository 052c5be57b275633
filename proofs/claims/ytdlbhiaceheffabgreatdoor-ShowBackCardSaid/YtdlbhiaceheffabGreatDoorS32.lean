/- Plain: what was read once, and printed, is read again as it was: types. No program in sight. -/
import Derived.Test.YtdlbhiaceheffabGreatDoorS31
set_option linter.all false
namespace Go.Proofs.YtdlbhiaceheffabGreatDoor
section
namespace Ty
open Tok (Tk)
theorem new_inv {s s' : St} {t : Ty} {n : Nat} (h : newType t s = .ok (n, s')) (hw : Wf s'.ts) : n = s.ts.length ∧ s'.ts = s.ts ++ [t] ∧ s'.ns = s.ns ∧ s'.pos = s.pos ∧
   den s'.ts n = .mk t.kind (t.fields.map Prod.fst) (t.fields.map fun f => den s.ts f.2) (t.list.map (den s.ts)) (if t.kind = 8 ∨ t.kind = 9 then [den s.ts t.of] else []) := by
 have h0 := h
 cases h
 refine ⟨rfl, rfl, rfl, rfl, (den_new (hw _ t (by simp)) h0).1⟩
theorem go_new {s s1 t : St} {u : Ty} {n : Nat} (h : newType u s = .ok (n, s1)) (he : Eqs s t) : ∃ t', newType u t = .ok (n, t') ∧ t'.pos = t.pos ∧ Eqs s1 t' := by
 cases h
 refine ⟨{ t with ts := t.ts ++ [u] }, ?_, rfl, ⟨by dsimp only; rw [he.ts], he.ns⟩⟩
 unfold newType; rw [he.ts]
theorem D.bound {toks : List Tk} {p : Nat} {ls rest : List Lm} (h : D toks p (ls ++ rest)) (hp : p ≤ toks.length) : p + ls.length ≤ toks.length := by
 have h1 := congrArg List.length (show (toks.map kt).drop p = ls ++ rest from h)
 simp only [List.length_drop, List.length_map, List.length_append] at h1
 omega
theorem D.lt {toks : List Tk} {p : Nat} {l : Lm} {r : List Lm} (h : D toks p (l :: r)) : p < toks.length := by
 have h1 := congrArg List.length (show (toks.map kt).drop p = l :: r from h)
 simp only [List.length_drop, List.length_map, List.length_cons] at h1
 omega
def memL : List Tr → List (List Lm)
 | [] => []
 | t :: l => parL (unL t (!l.isEmpty)) (lexT t) :: memL l
theorem memL_len : ∀ l : List Tr, (memL l).length = l.length
 | [] => rfl
 | t :: l => by rw [memL, List.length_cons, memL_len l, List.length_cons]
theorem memL_get : ∀ (l : List Tr) (i : Nat) (h : i < l.length) (h2 : i < (memL l).length), (memL l)[i] = brkG l.length i (kindOf l[i]) (lexT l[i])
 | [], i, h, _ => by simp at h
 | t :: l, 0, _, _ => by
   simp only [memL, List.getElem_cons_zero, List.length_cons]
   unfold parL unL brkG
   cases l with
   | nil => by_cases h : kindOf t = 10 <;> simp [h]
   | cons u l => by_cases h : kindOf t = 10 <;> by_cases h9 : kindOf t = 9 <;> simp [h, h9]
 | t :: l, i + 1, h, h2 => by
   simp only [memL, List.getElem_cons_succ, List.length_cons]
   rw [memL_get l i (by simpa using h) (by rw [memL_len]; simpa using h)]
   unfold brkG
   simp
theorem lexT_union (l : List Tr) : lexT (.mk 10 [] [] l []) = joinG [(5, [124])] (memL l) := by
 rw [lexT, if_neg (by decide), if_neg (by decide), if_neg (by decide), if_pos rfl]
 congr 1
 apply List.ext_getElem
 · simp [memL_len]
 · intro i h1 h2
   have hi : i < l.length := by simpa using h1
   rw [memL_get l i hi h2]
   simp only [List.getElem_map, List.getElem_range]
   rw [show (l.map kindOf).getD i 0 = kindOf l[i] from getD_map _ _ _ _ hi, lexs_map, show (l.map lexT).getD i [] = lexT l[i] from getD_map _ _ _ _ hi]
section
variable {toks t2 : List Tk}
theorem paren_ac {r2 : Nat} {s s' : St} {n : Nat} {ls : List Lm} (hh : Hd ls) (h : Ac t2 (typ t2 r2) Fol ls s n s') : Ac t2 (single t2 (typ t2 r2)) (fun x => isL x [61, 62] = false) ((5, [40]) :: (ls ++ [(5, [41])])) s n s' := fun t rest hd hf he => by
 simp only [List.cons_append, List.append_assoc, List.nil_append] at hd
 have d1 := hd.next
 obtain ⟨t1, a1, a2, a3⟩ := h { t with pos := t.pos + 1 } _ d1 ⟨rfl, rfl⟩ (he.atR _)
 have d2 := d1.add.pos a2
 have hk : (cur t2 t.pos).kind = 5 := congrArg Prod.fst hd.cur
 refine ⟨{ t1 with pos := t1.pos + 1 }, ?_, ?_, a3.atR _⟩
 · unfold single
   rw [if_neg (by rw [hk]; rintro ⟨h, _⟩; cases h), bnd_ok (go_pass hd rfl)]
   simp only [Bool.false_eq_true, if_false]
   rw [bnd_ok (go_pass hd rfl)]
   simp only [Bool.false_eq_true, if_false]
   rw [bnd_ok (go_need hd rfl)]
   unfold round
   have hlen : ∃ g, t2.length = g + 1 := ⟨t2.length - 1, by
     rcases hd.len with h | h
     · simp only [List.length_cons] at h; omega
     · simp at h⟩
   obtain ⟨g, hg⟩ := hlen
   have e1 : list t2 [41] (fun _ => typ t2 r2) (t2.length + 1) [] { t with pos := t.pos + 1 } = .ok ([n], { t1 with pos := t1.pos + 1 }) := by
     rw [list, bnd_ok (go_pass d1 (hh.no _))]
     simp only [Bool.false_eq_true, if_false, List.length_nil, if_true]
     rw [bnd_ok (show ret () _ = .ok ((), _) from rfl), bnd_ok a1, hg, list, bnd_ok (go_take d2 rfl)]
     rfl
   rw [bnd_ok e1, bnd_ok (go_pass (t := { t1 with pos := t1.pos + 1 }) d2.next hf)]
   simp only [Bool.false_eq_true, if_false, List.length_cons, List.length_nil, Nat.zero_add, if_true]
   rfl
 · simp only [List.length_cons, List.length_append, List.length_nil] at a2 ⊢; omega
theorem lexT_one {k : Nat} (hk : 1 ≤ k ∧ k ≤ 6) : lexT (.mk k [] [] [] []) = [(2, wordS k)] := by
 rw [lexT, if_neg (by omega), if_neg (by omega), if_neg (by omega), if_neg (by omega)]
theorem plain_word {x : ByteArray} (h : plainKind x > 0) : 1 ≤ plainKind x ∧ plainKind x ≤ 6 := by
 refine ⟨h, ?_⟩
 unfold plainKind
 split
 · rename_i i hi
   have := List.idxOf?_eq_some_iff.1 hi
   obtain ⟨h1, _⟩ := this
   simp [plains] at h1; omega
 · omega
theorem single_sr (hL : toks.length ≤ 1001) {r : Nat} (H : SrT toks t2 r) : SrS toks t2 r := fun s n s' hw h => by
 have hkeep := single_keep hL (typ_keep toks hL r) _ _ _ hw h
 obtain ⟨hw', hle, hnum⟩ := hkeep
 unfold single at h
 split at h
 · rename_i hk
   obtain ⟨u, s1, e1, e2⟩ := bnd_inv h
   cases e1
   obtain ⟨q1, q2, q3, q4, q5⟩ := new_inv e2 hw'
   have hp := plain_word hk.2
   simp only [List.map_nil] at q5
   rw [if_neg (by omega)] at q5
   refine ⟨q3, .inl ?_⟩
   rw [q5, lexT_one hp]
   refine ⟨by show plainKind _ ≠ 10; omega, by rw [q4]; simp, fun h9 => by have : plainKind (cur toks s.pos).text = 9 := h9; omega, fun r2 _ t rest hd hf he => ?_⟩
   have hc := hd.cur
   have hk2 : (cur t2 t.pos).kind = 2 := congrArg Prod.fst hc
   have hpk := plainKind_word (cur t2 t.pos).text _ hp (congrArg Prod.snd hc)
   obtain ⟨t', g1, g2, g3⟩ := go_new e2 ((he.at (s.pos + 1) (t.pos + 1)))
   refine ⟨t', ?_, by rw [g2]; simp, g3⟩
   unfold single
   rw [if_pos ⟨hk2, by rw [hpk]; exact hk.2⟩, hpk, bnd_ok (show step t = .ok ((), _) from rfl)]
   exact g1
 · obtain ⟨b, s1, e1, h⟩ := bnd_inv h
   obtain ⟨hb, q1, q2, q3⟩ := take_inv e1
   cases hbb : Ty.is toks [123] s.pos with
   | true =>
     rw [hbb] at hb q3
     subst hb
     simp only [if_true] at h q3
     unfold object at h
     obtain ⟨l, s2, e2, e3⟩ := bnd_inv h
     have hw1 : Wf s1.ts := by rw [q1]; exact hw
     obtain ⟨ns, is, i1, i2, i3, i4, i5⟩ := fields_sr hL H _ _ _ _ _ hw1 (fun j hj => by simp at hj) e2
     obtain ⟨p1, p2, p3, p4, p5⟩ := new_inv e3 hw'
     rw [List.nil_append] at i2
     rw [i2] at p5
     simp only [List.map_nil] at p5
     rw [zip_fst _ _ i1, zip_snd _ _ _ i1, if_neg (by omega)] at p5
     refine ⟨by rw [p3, i3, q2], .inl ?_⟩
     rw [p5, lexT, if_pos rfl]
     refine ⟨by show (7 : Nat) ≠ 10; omega, ?_, fun h9 => absurd (show (7 : Nat) = 9 from h9) (by decide), fun r2 hr t rest hd hf he => ?_⟩
     · simp only [List.length_cons, List.length_append, List.length_nil]; omega
     · simp only [List.cons_append, List.append_assoc, List.nil_append] at hd
       have hk : (cur t2 t.pos).kind = 5 := congrArg Prod.fst hd.cur
       obtain ⟨t3, a1, a2, a3⟩ := i5 r2 hr { t with pos := t.pos + 1 } rest (t2.length + 1) hd.next ((he.of q1 q2).atR _) (by dsimp only; omega)
       obtain ⟨t', g1, g2, g3⟩ := go_new e3 a3
       refine ⟨t', ?_, ?_, g3⟩
       · unfold single
         rw [if_neg (by rw [hk]; rintro ⟨h, _⟩; cases h), bnd_ok (go_take hd rfl)]
         simp only [if_true]
         unfold object
         rw [bnd_ok a1]
         exact g1
       · dsimp only at a2
         simp only [List.length_cons, List.length_append, List.length_nil]
         omega
   | false =>
     rw [hbb] at hb q3
     subst hb
     simp only [Bool.false_eq_true, if_false] at h q3
     obtain ⟨b, s2, e2, h⟩ := bnd_inv h
     obtain ⟨hb, p1, p2, p3⟩ := take_inv e2
     cases hbc : Ty.is toks [91] s1.pos with
     | true =>
       rw [hbc] at hb p3
       subst hb
       simp only [if_true] at h p3
       obtain ⟨m, s3, e3, h⟩ := bnd_inv h
       obtain ⟨u, s4, e4, e5⟩ := bnd_inv h
       have hw2 : Wf s2.ts := by rw [p1, q1]; exact hw
       obtain ⟨k1, k2, k3, k4⟩ := H _ _ _ hw2 e3
       obtain ⟨_, m1, m2, m3⟩ := need_inv e4
       obtain ⟨o1, o2, o3, o4, o5⟩ := new_inv e5 hw'
       simp only [List.map_nil, true_or, if_true] at o5
       rw [m1] at o5
       refine ⟨by rw [o3, m2, k1, p2, q2], .inl ?_⟩
       rw [o5, lexT, if_neg (by decide), if_pos rfl, lexs, lexs, List.headD_cons]
       refine ⟨by show (8 : Nat) ≠ 10; omega, ?_, fun h9 => absurd (show (8 : Nat) = 9 from h9) (by decide), fun r2 hr t rest hd hf he => ?_⟩
       · simp only [List.length_cons, List.length_append, List.length_nil]; omega
       · simp only [List.cons_append, List.append_assoc, List.nil_append] at hd
         have hk : (cur t2 t.pos).kind = 5 := congrArg Prod.fst hd.cur
         obtain ⟨t3, a1, a2, a3⟩ := k4.1 r2 hr { t with pos := t.pos + 1 } _ hd.next ⟨rfl, rfl⟩ ((he.of (p1.trans q1) (p2.trans q2)).atR _)
         have d3 := hd.next.add.pos a2
         obtain ⟨t', g1, g2, g3⟩ := go_new e5 ((a3.of m1 m2).atR (t3.pos + 1))
         refine ⟨t', ?_, ?_, g3⟩
         · unfold single
           rw [if_neg (by rw [hk]; rintro ⟨h, _⟩; cases h), bnd_ok (go_pass hd rfl)]
           simp only [Bool.false_eq_true, if_false]
           rw [bnd_ok (go_take hd rfl)]
           simp only [if_true]
           rw [bnd_ok a1, bnd_ok (go_need d3 rfl)]
           exact g1
         · dsimp only at a2 g2
           simp only [List.length_cons, List.length_append, List.length_nil]
           omega
     | false =>
       rw [hbc] at hb p3
       subst hb
       simp only [Bool.false_eq_true, if_false] at h p3
       obtain ⟨u, s3, e3, h⟩ := bnd_inv h
       obtain ⟨_, m1, m2, m3⟩ := need_inv e3
       unfold round at h
       obtain ⟨l, s4, e4, h⟩ := bnd_inv h
       have t3 : s3.ts = s.ts := m1.trans (p1.trans q1)
       have n3 : s3.ns = s.ns := m2.trans (p2.trans q2)
       have hw3 : Wf s3.ts := by rw [t3]; exact hw
       obtain ⟨is, i2, i3, i4, i5⟩ := list_sr hL H _ _ _ _ _ hw3 (fun j hj => by simp at hj) (Last.nil _) e4
       obtain ⟨g1, g2, g3⟩ := list_keep (typ_keep toks hL r) _ _ _ _ _ hw3 (fun j hj => by simp at hj) e4
       rw [List.nil_append] at i2
       subst i2
       simp only [List.length_nil, if_true] at i4 i5
       obtain ⟨b, s5, e5, h⟩ := bnd_inv h
       obtain ⟨hb, o1, o2, o3⟩ := take_inv e5
       cases hbd : Ty.is toks [61, 62] s4.pos with
       | true =>
         rw [hbd] at hb o3
         subst hb
         simp only [if_true] at h o3
         obtain ⟨m, s6, e6, e7⟩ := bnd_inv h
         have hw5 : Wf s5.ts := by rw [o1]; exact g1
         obtain ⟨k1, k2, k3, k4⟩ := H _ _ _ hw5 e6
         obtain ⟨j1, _, _⟩ := typ_grow toks hL r _ _ _ hw5 e6
         obtain ⟨v1, v2, v3, v4, v5⟩ := new_inv e7 hw'
         simp only [List.map_nil, or_true, if_true] at v5
         rw [j1.dens (by rw [o1]; exact g3), o1] at v5
         refine ⟨by rw [v3, k1, o2, i3, n3], .inl ?_⟩
         rw [v5, lexT, if_neg (by decide), if_neg (by decide), if_pos rfl, lexs, lexs, List.headD_cons]
         refine ⟨by show (9 : Nat) ≠ 10; omega, ?_, fun _ => by rw [v4]; exact k3, fun r2 hr t rest hd hf he => ?_⟩
         · simp only [List.length_cons, List.length_append]; omega
         · simp only [List.cons_append, List.append_assoc] at hd
           have hk : (cur t2 t.pos).kind = 5 := congrArg Prod.fst hd.cur
           obtain ⟨t4, a1, a2, a3⟩ := i5 r2 hr { t with pos := t.pos + 1 } _ (t2.length + 1) hd.next ((he.of t3 n3).atR _) (by dsimp only; omega)
           have d4 : D t2 t4.pos ((5, [61, 62]) :: (lexT (den s6.ts m) ++ rest)) := by
             have h1 := hd.next.add.next
             exact h1.pos (by rw [a2])
           obtain ⟨t5, b1, b2, b3⟩ := k4.1 r2 hr { t4 with pos := t4.pos + 1 } rest d4.next (hf rfl) ((a3.of o1 o2).atR _)
           obtain ⟨t', c1, c2, c3⟩ := go_new e7 b3
           refine ⟨t', ?_, ?_, c3⟩
           · unfold single
             rw [if_neg (by rw [hk]; rintro ⟨h, _⟩; cases h), bnd_ok (go_pass hd rfl)]
             simp only [Bool.false_eq_true, if_false]
             rw [bnd_ok (go_pass hd rfl)]
             simp only [Bool.false_eq_true, if_false]
             rw [bnd_ok (go_need hd rfl)]
             unfold round
             rw [bnd_ok a1, bnd_ok (go_take d4 rfl)]
             simp only [if_true]
             rw [bnd_ok b1]
             exact c1
           · dsimp only at a2 b2
             simp only [List.length_cons, List.length_append]
             omega
       | false =>
         rw [hbd] at hb o3
         subst hb
         simp only [Bool.false_eq_true, if_false] at h o3
         split at h
         · rename_i hl
           obtain ⟨m, rfl⟩ := List.length_eq_one_iff.1 hl
           cases h
           simp only [List.headD_cons]
           -- the one list of one type
           have hsub : ∃ s4', typ toks r s3 = .ok (m, s4') ∧ s4'.ts = s4.ts ∧ s4'.ns = s4.ns ∧ s4'.pos + 1 ≤ s4.pos := by
             obtain ⟨b, u1, f1, k4⟩ := bnd_inv e4
             obtain ⟨hb, w1, w2, w3⟩ := take_inv f1
             cases hbe : Ty.is toks [41] s3.pos with
             | true => rw [hbe] at hb; subst hb; simp only [if_true] at k4; cases k4
             | false =>
               rw [hbe] at hb w3
               subst hb
               simp only [Bool.false_eq_true, if_false, List.length_nil, if_true] at k4 w3
               obtain ⟨u, u2, f2, k4⟩ := bnd_inv k4
               obtain rfl : u1 = u2 := by cases f2; rfl
               obtain ⟨m', u3, f3, k4⟩ := bnd_inv k4
               have hu : u1 = s3 := by
                 unfold take at f1
                 rw [hbe] at f1
                 cases f1; rfl
               rw [hu] at f3
               have hlen : ∃ g, toks.length = g + 1 := ⟨toks.length - 1, by
                 have hl0 : toks.length ≠ 0 := by
                   intro h0; rw [h0] at k4; cases k4
                 omega⟩
               obtain ⟨g, hg⟩ := hlen
               rw [hg] at k4
               obtain ⟨b, u4, f4, k4⟩ := bnd_inv k4
               obtain ⟨hb, x1, x2, x3⟩ := take_inv f4
               cases hbf : Ty.is toks [41] u3.pos with
               | true =>
                 rw [hbf] at hb x3
                 subst hb
                 simp only [if_true] at k4 x3
                 cases k4
                 exact ⟨u3, f3, x1.symm, x2.symm, by omega⟩
               | false =>
                 rw [hbf] at hb
                 subst hb
                 simp only [Bool.false_eq_true, if_false] at k4
                 obtain ⟨_, u5, _, k4⟩ := bnd_inv k4
                 obtain ⟨m2, u6, _, k4⟩ := bnd_inv k4
                 have hl2 : ∀ f (l : List Nat) (a : St) l' b, 2 ≤ l.length → list toks [41] (fun _ => typ toks r) f l a = .ok (l', b) → 2 ≤ l'.length := by
                   intro f
                   induction f with
                   | zero => intro l a l' b _ h; cases h
                   | succ f ih =>
                     intro l a l' b hl h
                     obtain ⟨b2, a1, _, h⟩ := bnd_inv h
                     cases b2
                     · simp only [Bool.false_eq_true, if_false] at h
                       obtain ⟨_, a2, _, h⟩ := bnd_inv h
                       obtain ⟨n2, a3, _, h⟩ := bnd_inv h
                       exact ih _ _ _ _ (by simp; omega) h
                     · simp only [if_true] at h; cases h; exact hl
                 have := hl2 _ _ _ _ _ (by simp) k4
                 simp at this
           obtain ⟨s4', f1, f2, f3, f4⟩ := hsub
           obtain ⟨k1, k2, k3, k4⟩ := H _ _ _ hw3 f1
           have hts : s'.ts = s4'.ts := by rw [o1, f2]
           have hns : s'.ns = s4'.ns := by rw [o2, f3]
           refine ⟨by rw [hns, k1, n3], .inr ⟨?_, ?_, ?_⟩⟩
           · rw [hts]; omega
           · intro r2 hr
             rw [hts]
             exact (k4.1 r2 hr).of t3.symm n3.symm hts hns
           · intro hk r2 hr
             rw [hts] at hk ⊢
             exact (k4.2 hk r2 hr).of t3.symm n3.symm hts hns
         · cases h
theorem member_ac (hL : toks.length ≤ 1001) {r : Nat} (H : SrT toks t2 r) {s s' : St} {n : Nat} (hw : Wf s.ts) (h : single toks (typ toks r) s = .ok (n, s')) (more : Bool) (hm : more = true → Ty.is toks [124] s'.pos = true) :
   s'.ns = s.ns ∧ s.pos + (parL (unL (den s'.ts n) more) (lexT (den s'.ts n))).length ≤ s'.pos ∧ ∀ r2, r ≤ r2 → Ac t2 (single t2 (typ t2 r2)) (fun x => if more then isL x [61, 62] = false else Fol x) (parL (unL (den s'.ts n) more) (lexT (den s'.ts n))) s n s' := by
 obtain ⟨h1, h2⟩ := single_sr hL H _ _ _ hw h
 obtain ⟨hw', _, hnum⟩ := single_keep hL (typ_keep toks hL r) _ _ _ hw h
 refine ⟨h1, ?_⟩
 rcases h2 with ⟨k1, k2, k3, k4⟩ | ⟨k1, k2, k3⟩
 · have hu : unL (den s'.ts n) more = false := by
     unfold unL
     simp only [k1, decide_false, Bool.false_or]
     cases more with
     | false => simp
     | true =>
       by_cases h9 : kindOf (den s'.ts n) = 9
       · have := k3 h9; rw [hm rfl] at this; cases this
       · simp [h9]
   rw [hu]
   unfold parL
   simp only [Bool.false_eq_true, if_false]
   refine ⟨k2, fun r2 hr => (k4 r2 hr).mono fun x hx h9 => ?_⟩
   cases more with
   | false => simpa using hx
   | true => unfold unL at hu; simp [h9] at hu
 · have hh := lexT_hd (den s'.ts n) (den_ok hw' _ _ (Nat.lt_succ_self _) hnum) (den_uni hw' _ _ (Nat.lt_succ_self _) hnum)
   cases hu : unL (den s'.ts n) more with
   | true =>
     unfold parL
     simp only [if_true, List.length_cons, List.length_append, List.length_nil]
     refine ⟨by omega, fun r2 hr => (paren_ac hh (k2 r2 hr)).mono fun x hx => ?_⟩
     cases more with
     | false => simp only [Bool.false_eq_true, if_false] at hx; exact hx.2
     | true => simpa using hx
   | false =>
     unfold parL
     simp only [Bool.false_eq_true, if_false]
     have hk : kindOf (den s'.ts n) ≠ 10 := by intro e; unfold unL at hu; simp [e] at hu
     refine ⟨by omega, fun r2 hr => (k3 hk r2 (by omega)).mono fun x hx h9 => ?_⟩
     cases more with
     | false => simpa using hx
     | true => unfold unL at hu; simp [h9] at hu
theorem bars_sr (hL : toks.length ≤ 1001) {r : Nat} (H : SrT toks t2 r) : ∀ f (acc : List Nat) s l' s', Wf s.ts → All acc s.ts → Last acc s.ts → bars toks (single toks (typ toks r)) f acc s = .ok (l', s') →
   ∃ (is : List Nat), l' = acc ++ is ∧ s'.ns = s.ns ∧ Ty.is toks [124] s'.pos = false ∧ (is.isEmpty = false → Ty.is toks [124] s.pos = true) ∧ (is = [] → s'.pos = s.pos ∧ s'.ts = s.ts) ∧ s.pos + (tailG [(5, [124])] (memL (is.map (den s'.ts)))).length ≤ s'.pos ∧
     ∀ r2, r ≤ r2 → ∀ t rest f2, D t2 t.pos (tailG [(5, [124])] (memL (is.map (den s'.ts))) ++ rest) → Fol rest → Eqs s t → t.pos ≤ t2.length → t2.length < t.pos + f2 →
       ∃ t', bars t2 (single t2 (typ t2 r2)) f2 acc t = .ok (l', t') ∧ t'.pos = t.pos + (tailG [(5, [124])] (memL (is.map (den s'.ts)))).length ∧ Eqs s' t'
 | 0, _, _, _, _, _, _, _, h => by cases h
 | f + 1, acc, s, l', s', hw, ha, hla, h => by
   obtain ⟨b, s1, e1, h⟩ := bnd_inv h
   obtain ⟨hb, q1, q2, q3⟩ := take_inv e1
   cases hbb : Ty.is toks [124] s.pos with
   | false =>
     rw [hbb] at hb q3
     subst hb
     simp only [Bool.false_eq_true, if_false] at h q3
     cases h
     refine ⟨[], by simp, q2, by rw [q3]; exact hbb, fun h => by simp at h, fun _ => ⟨q3, q1⟩, by simp [memL, tailG]; omega, fun r2 _ t rest f2 hd hf he hp hf2 => ?_⟩
     have hd : D t2 t.pos rest := hd
     obtain ⟨f2, rfl⟩ : ∃ g, f2 = g + 1 := ⟨f2 - 1, by omega⟩
     refine ⟨t, ?_, by simp [memL, tailG], he.of q1 q2⟩
     rw [bars, bnd_ok (go_pass hd hf.1)]; rfl
   | true =>
     rw [hbb] at hb q3
     subst hb
     simp only [if_true] at h q3
     obtain ⟨n, s2, e2, h⟩ := bnd_inv h
     have hw1 : Wf s1.ts := by rw [q1]; exact hw
     obtain ⟨g1, g2, g3⟩ := single_keep hL (typ_keep toks hL r) _ _ _ hw1 e2
     obtain ⟨j1, _, j3⟩ := single_grow hL (typ_keep toks hL r) (typ_grow toks hL r) _ _ _ hw1 e2
     have ha2 : All (acc ++ [n]) s2.ts := fun j hj => by
       rw [List.mem_append] at hj
       have e3 : s1.ts.length = s.ts.length := by rw [q1]
       rcases hj with hj | hj
       · have := ha j hj; omega
       · simp at hj; subst hj; exact g3
     obtain ⟨is, i1, i2, i3, i4, i5, i6, i7⟩ := bars_sr hL H f _ _ _ _ g1 ha2 (Last.snoc j3) h
     obtain ⟨x1, _, _⟩ := bars_grow (single_keep hL (typ_keep toks hL r)) (single_grow hL (typ_keep toks hL r) (typ_grow toks hL r)) _ _ _ _ _ g1 ha2 (Last.snoc j3) h
     obtain ⟨m1, m2, m3⟩ := member_ac hL H hw1 e2 (!is.isEmpty) (fun h => i4 (by simpa using h))
     have hden : den s'.ts n = den s2.ts n := x1.den g3
     have el : tailG [(5, [124])] (memL ((n :: is).map (den s'.ts))) = (5, [124]) :: (parL (unL (den s2.ts n) (!is.isEmpty)) (lexT (den s2.ts n)) ++ tailG [(5, [124])] (memL (is.map (den s'.ts)))) := by
       rw [List.map_cons, memL, tailG, hden, List.isEmpty_map]; rfl
     refine ⟨n :: is, by rw [i1]; simp, by rw [i2, m1, q2], i3, fun _ => rfl, fun h => absurd h (by simp), ?_, fun r2 hr t rest f2 hd hf he hp hf2 => ?_⟩
     · rw [el]
       simp only [List.length_cons, List.length_append]
       omega
     · rw [el] at hd ⊢
       simp only [List.cons_append, List.append_assoc] at hd
       obtain ⟨f2, rfl⟩ : ∃ g, f2 = g + 1 := ⟨f2 - 1, by
         rcases hd.len with h | h
         · simp only [List.length_cons] at h; omega
         · simp at h⟩
       obtain ⟨t1, a1, a2, a3⟩ := m3 r2 hr { t with pos := t.pos + 1 } _ hd.next (by
         cases is with
         | nil => simpa [memL, tailG] using hf
         | cons i is => simp only [List.isEmpty_cons, Bool.not_false, if_true, List.map_cons, memL, tailG]; rfl) ((he.of q1 q2).atR _)
       obtain ⟨t', b1, b2, b3⟩ := i7 r2 hr t1 rest f2 (hd.next.add.pos a2) hf a3 (by rw [a2]; exact hd.next.bound (by have := hd.lt; omega)) (by dsimp only at a2; omega)
       refine ⟨t', ?_, ?_, b3⟩
       · rw [bars, bnd_ok (go_take hd rfl)]
         simp only [if_true]
         rw [bnd_ok a1]
         exact b1
       · dsimp only at a2
         simp only [List.length_cons, List.length_append]
         omega
theorem typ_sr (hL : toks.length ≤ 1001) : ∀ r, SrT toks t2 r
 | 0 => fun s n s' _ h => by cases h
 | r + 1 => fun s n s' hw h => by
   have H := typ_sr hL r
   obtain ⟨hw', _, hnum⟩ := typ_keep toks hL (r + 1) _ _ _ hw h
   obtain ⟨m, s1, e1, h⟩ := bnd_inv (show bnd (single toks (typ toks r)) _ s = _ from h)
   obtain ⟨l, s2, e2, h⟩ := bnd_inv h
   obtain ⟨g1, g2, g3⟩ := single_keep hL (typ_keep toks hL r) _ _ _ hw e1
   obtain ⟨j1, _, j3⟩ := single_grow hL (typ_keep toks hL r) (typ_grow toks hL r) _ _ _ hw e1
   have ha1 : All [m] s1.ts := fun j hj => by simp at hj; subst hj; exact g3
   have hla1 : Last [m] s1.ts := Last.snoc (l := []) j3
   obtain ⟨is, i1, i2, i3, i4, i5, i6, i7⟩ := bars_sr hL H _ _ _ _ _ g1 ha1 hla1 e2
   obtain ⟨x1, _, _⟩ := bars_grow (single_keep hL (typ_keep toks hL r)) (single_grow hL (typ_keep toks hL r) (typ_grow toks hL r)) _ _ _ _ _ g1 ha1 hla1 e2
   obtain ⟨m1, m2, m3⟩ := member_ac hL H hw e1 (!is.isEmpty) (fun h => i4 (by simpa using h))
   subst i1
   cases is with
   | nil =>
     obtain ⟨y1, y2⟩ := i5 rfl
     replace h : ret m s2 = .ok (n, s') := h
     cases h
     have hde : den s'.ts n = den s1.ts n := by rw [y2]
     obtain ⟨z1, z2⟩ := single_sr hL H _ _ _ hw e1
     have hex : ∀ r2, r ≤ r2 → kindOf (den s1.ts n) ≠ 10 → Ac t2 (single t2 (typ t2 r2)) (fun x => kindOf (den s1.ts n) = 9 → Fol x) (lexT (den s1.ts n)) s n s' := fun r2 hr hk => by
       rcases z2 with ⟨_, _, _, z5⟩ | ⟨_, z3, z4⟩
       · exact (z5 r2 hr).of rfl rfl y2 i2
       · exact (z4 hk r2 (by omega)).of rfl rfl y2 i2
     refine ⟨by rw [i2, m1], ?_, i3, ?_⟩
     · show s.pos + (lexT (den s'.ts n)).length ≤ s'.pos
       rw [hde]
       rcases z2 with ⟨_, z3, _⟩ | ⟨z3, _⟩ <;> omega
     · show GT t2 (r + 1) (den s'.ts n) s n s'
       rw [hde]
       refine ⟨fun r2 hr => ?_, fun hk r2 hr => hex r2 (by omega) hk⟩
       by_cases hk : kindOf (den s1.ts n) = 10
       · rcases z2 with ⟨z3, _⟩ | ⟨_, z3, z4⟩
         · exact absurd hk z3
         · exact (z3 r2 (by omega)).of rfl rfl y2 i2
       · obtain ⟨r2, rfl⟩ : ∃ g, r2 = g + 1 := ⟨r2 - 1, by omega⟩
         intro t rest hd hf he
         obtain ⟨t1, a1, a2, a3⟩ := hex r2 (by omega) hk t rest hd (fun _ => hf) he
         refine ⟨t1, ?_, a2, a3⟩
         have hd1 := hd.add.pos a2
         show bnd (single t2 (typ t2 r2)) _ t = _
         rw [bnd_ok a1]
         have e : bars t2 (single t2 (typ t2 r2)) (t2.length + 1) [n] t1 = .ok ([n], t1) := by
           rw [bars, bnd_ok (go_pass hd1 hf.1)]; rfl
         rw [bnd_ok e]
         rfl
   | cons i is =>
     rw [if_neg (by simp)] at h
     obtain ⟨v1, v2, v3, v4, v5⟩ := new_inv h hw'
     simp only [List.map_nil, List.cons_append, List.nil_append, List.map_cons] at v5
     rw [if_neg (by omega), x1.den g3] at v5
     have hlex : lexT (den s'.ts n) = parL (unL (den s1.ts m) true) (lexT (den s1.ts m)) ++ tailG [(5, [124])] (memL ((i :: is).map (den s2.ts))) := by
       rw [v5, lexT_union, memL, joinG]
       rfl
     refine ⟨by rw [v3, i2, m1], ?_, by rw [v4]; exact i3, ?_⟩
     · rw [hlex, List.length_append]
       simp only [List.isEmpty_cons, Bool.not_false] at m2
       omega
     · refine ⟨fun r2 hr => ?_, fun hk => absurd (by rw [v5]; rfl) hk⟩
       obtain ⟨r2, rfl⟩ : ∃ g, r2 = g + 1 := ⟨r2 - 1, by omega⟩
       rw [hlex]
       intro t rest hd hf he
       rw [List.append_assoc] at hd
       simp only [List.isEmpty_cons, Bool.not_false, if_true] at m3
       have hne : t.pos ≤ t2.length := by
         rcases hd.len with h | h
         · omega
         · simp [memL, tailG] at h
       obtain ⟨t1, a1, a2, a3⟩ := m3 r2 (by omega) t _ hd (by simp only [List.map_cons, memL, tailG]; rfl) he
       obtain ⟨t3, b1, b2, b3⟩ := i7 r2 (by omega) t1 rest (t2.length + 1) (hd.add.pos a2) hf a3 (by rw [a2]; exact hd.bound hne) (by omega)
       obtain ⟨t', c1, c2, c3⟩ := go_new h b3
       refine ⟨t', ?_, ?_, c3⟩
       · show bnd (single t2 (typ t2 r2)) _ t = _
         rw [bnd_ok a1, bnd_ok b1, if_neg (by simp)]
         exact c1
       · rw [List.length_append]; omega
end
end Ty
end
end Go.Proofs.YtdlbhiaceheffabGreatDoor
