/- Plain: what was read once, and printed, is read again as it was: blocks, functions, simple expressions, what stands behind them. No program in sight. Plain: what was read once, and printed, is read again as it was: expressions of all levels. No program in sight. -/
import Derived.Lib.ItoaMem
import Derived.Test.YtdlbhiaceheffabGreatDoorS34
set_option linter.all false
namespace Go.Proofs.YtdlbhiaceheffabGreatDoor
section
namespace Ty
open Tok (Tk)
theorem fold_digits : ∀ (u : Nat), (Lib.decDigits u).foldl (fun n (c : UInt8) => 10 * n + (c.toNat - 48)) 0 = u := by
 intro u
 induction u using Nat.strongRecOn with
 | ind u ih =>
   rw [Lib.decDigits]
   have hd : ∀ k, k < 10 → (UInt8.ofNat (48 + k)).toNat - 48 = k := by intro k hk; rw [UInt8.toNat_ofNat']; omega
   split
   · rename_i h
     rw [List.foldl_cons, List.foldl_nil, hd u h]; omega
   · rename_i h
     rw [List.foldl_append, ih (u / 10) (by omega)]
     simp only [List.foldl_cons, List.foldl_nil]
     rw [hd _ (by omega)]
     omega
theorem value_itoa {x : ByteArray} {n : Nat} (h : x.data.toList = Lib.itoa (n : Int)) : value x = n := by
 unfold value
 rw [h, Lib.itoa_nonneg, fold_digits]
section
variable {toks t2 : List Tk}
theorem block_op {r : Nat} {S : M Nat} (H : SrM t2 r S) (hIS : ∀ t0, IK t0 S fun _ _ => True) {s s' : St} {n : Nat} (hi : Inv s) (h : blockM toks S s = .ok (n, s')) : Inv s' ∧ Ext s.ts s'.ts ∧ ∃ bp l LS, layB bp l s.ns = (s'.ns, n) ∧
   (∀ tsF, Ext s'.ts tsF → lexSs tsF l = LS) ∧ s.pos + LS.length + 2 ≤ s'.pos ∧ ∀ r2, r ≤ r2 → Ac t2 (blockM t2 (lv t2 r2).S) (fun _ => True) ((5, [123]) :: (LS ++ [(5, [125])])) s n s' := by
 have hall := blockM_ik hIS s.ts s n s' (Ext.refl _) hi h
 obtain ⟨u, s1, e1, h⟩ := bnd_inv (show bnd (need toks [123]) (fun _ => bnd (stmts toks S (toks.length + 1) []) fun l => addNode { ndOf 26 (cur toks s.pos).pos with list := l }) s = _ from h)
 obtain ⟨_, q1, q2, q3⟩ := need_inv e1
 obtain ⟨l, s2, e2, h⟩ := bnd_inv h
 obtain ⟨i2, x2, es, az, LS, g1, g2, g3, gh, g4, g5⟩ := stmts_op H _ _ _ _ _ (inv_of hi q1 q2) e2
 rw [List.nil_append] at g1
 subst g1
 have w : s'.ts = s2.ts ∧ s'.pos = s2.pos ∧ n = s2.ns.length ∧ s'.ns = s2.ns ++ [{ ndOf 26 (cur toks s.pos).pos with list := l }] := by cases h; exact ⟨rfl, rfl, rfl, rfl⟩
 obtain ⟨w1, w2, w3, w4⟩ := w
 refine ⟨hall.1, hall.2.1, (cur toks s.pos).pos, es, LS, ?_, fun tsF hx => g3 tsF (by rw [← w1]; exact hx), by omega, fun r2 hr t rest hd _ he => ?_⟩
 · rw [layB, ← q2, g2, w4, w3]
 · simp only [List.cons_append, List.append_assoc, List.nil_append] at hd
   obtain ⟨t1, a1, a2, a3⟩ := g5 r2 hr { t with pos := t.pos + 1 } rest (t2.length + 1) hd.next ((he.of q1 q2).atR _) (by dsimp only; omega)
   obtain ⟨t3, b1, b2, b3⟩ := add_eqs (b := { ndOf 26 (cur t2 t.pos).pos with list := l }) h a3 rfl
   refine ⟨t3, ?_, ?_, b3⟩
   · show bnd (need t2 [123]) _ t = _
     rw [bnd_ok (go_need hd rfl), bnd_ok a1]
     exact b1
   · dsimp only at a2
     simp only [List.length_cons, List.length_append, List.length_nil]; omega
theorem function_op (hT : ∀ t ∈ toks, TkOk t) (hL : toks.length ≤ 1001) {r : Nat} {S : M Nat} (H : SrM t2 r S) (hIS : ∀ t0, IK t0 S fun _ _ => True) (p : Nat) {s s' : St} {n : Nat} (hi : Inv s) (h : functionM toks (typ toks r) S p s = .ok (n, s')) :
   ∃ ps ty bp body LS, layE (.fn p ps ty bp body) s.ns = (s'.ns, n) ∧ (∀ tsF, Ext s'.ts tsF → lexE tsF (.fn p ps ty bp body) = (2, [102, 110]) :: LS) ∧ s.pos + LS.length ≤ s'.pos ∧
     ∀ r2, r ≤ r2 → ∀ p2, Ac t2 (functionM t2 (typ t2 r2) (lv t2 r2).S p2) (fun _ => True) LS s n s' := by
 obtain ⟨u, s1, e1, h⟩ := bnd_inv h
 obtain ⟨_, q1, q2, q3⟩ := need_inv e1
 obtain ⟨l, s2, e2, h⟩ := bnd_inv h
 obtain ⟨i2, x2, ps, LP, g1, g2, g3, g4⟩ := params_op (t2 := t2) hT hL (inv_of hi q1 q2) e2
 obtain ⟨ty, s3, e3, h⟩ := bnd_inv h
 obtain ⟨i3, x3, n3, LT, k1, k2, k3, k4⟩ := written_op (t2 := t2) hT hL i2 e3
 obtain ⟨a, s4, e4, h⟩ := bnd_inv h
 obtain ⟨i4, x4, bp, body, LB, b1, b2, b3, b4⟩ := block_op H hIS i3 e4
 have w : s'.ts = s4.ts ∧ s'.pos = s4.pos ∧ n = s4.ns.length ∧ s'.ns = s4.ns ++ [{ ndOf 6 p with list := l.map Prod.snd, ty := ty, a := a }] := by cases h; exact ⟨rfl, rfl, rfl, rfl⟩
 obtain ⟨w1, w2, w3, w4⟩ := w
 refine ⟨ps, ty, bp, body, (5, [40]) :: (LP ++ ((5, [41]) :: (LT ++ ((5, [123]) :: (LB ++ [(5, [125])]))))), ?_, fun tsF hx => ?_, ?_, fun r2 hr p2 t rest hd _ he => ?_⟩
 · rw [layE, ← q2, g1]
   dsimp only
   rw [← n3, b1, w4, w3]
 · rw [w1] at hx
   rw [lexE, g2 tsF ((x3.trans x4).trans hx), k1 tsF (x4.trans hx), b2 tsF hx]
 · simp only [List.length_cons, List.length_append, List.length_nil]; omega
 · simp only [List.cons_append, List.append_assoc, List.nil_append] at hd
   obtain ⟨t1, c1, c2, c3⟩ := g4 r2 hr { t with pos := t.pos + 1 } _ hd.next ((he.of q1 q2).atR _)
   have d1 : D t2 t1.pos (LT ++ ((5, [123]) :: (LB ++ (5, [125]) :: rest))) := by
     have h1 := hd.next.add.next
     exact h1.pos (by rw [c2])
   obtain ⟨t3, f1, f2, f3⟩ := k4 r2 hr t1 _ d1 ⟨rfl, rfl, rfl⟩ c3
   obtain ⟨t4, v1, v2, v3⟩ := b4 r2 hr t3 rest (by simpa using d1.add.pos f2) trivial f3
   obtain ⟨t5, y1, y2, y3⟩ := add_eqs (b := { ndOf 6 p2 with list := l.map Prod.snd, ty := ty, a := a }) h v3 rfl
   refine ⟨t5, ?_, ?_, y3⟩
   · unfold functionM
     rw [bnd_ok (go_need hd rfl), bnd_ok c1, bnd_ok f1, bnd_ok v1]
     exact y1
   · dsimp only at c2
     simp only [List.length_cons, List.length_append, List.length_nil] at v2 ⊢; omega
theorem op_simple {r : Nat} {s s' : St} {n : Nat} {e : Ex} {ls : List Lm} (h1 : layE e s.ns = (s'.ns, n)) (h2 : ∀ tsF, Ext s'.ts tsF → lexE tsF e = ls) (hh : NoHd ls) (hl : lvl e = 4) (hc : s.pos + ls.length ≤ s'.pos) (h3 : ∀ r2, r ≤ r2 → C4 t2 r2 ls s n s') : Op t2 4 r s n s' :=
 ⟨e, ls, h1, h2, hh, by rw [hl]; exact h3, .inl ⟨by omega, hc⟩⟩
theorem add_inv {a : Nd} {s s' : St} {n : Nat} (h : addNode a s = .ok (n, s')) : s'.ts = s.ts ∧ s'.pos = s.pos ∧ n = s.ns.length ∧ s'.ns = s.ns ++ [a] := by cases h; exact ⟨rfl, rfl, rfl, rfl⟩
theorem simple_op (hT : ∀ t ∈ toks, TkOk t) (hL : toks.length ≤ 1001) {r : Nat} {E S : M Nat} (HE : SrE t2 r E) (HS : SrM t2 r S) (hIK : ∀ t0, IK t0 E fun _ _ => True) (hIS : ∀ t0, IK t0 S fun _ _ => True) {s s' : St} {n : Nat} (hi : Inv s) (h : simpleM toks (typ toks r) E S s = .ok (n, s')) : Op t2 4 r s n s' := by
 have h : (if (cur toks s.pos).kind = 3 then bnd step fun _ => addNode { ndOf 1 (cur toks s.pos).pos with n := value (cur toks s.pos).text } else
   if (cur toks s.pos).kind = 4 then bnd step fun _ => addNode { ndOf 2 (cur toks s.pos).pos with text := (cur toks s.pos).text } else
   if (cur toks s.pos).kind = 1 then bnd step fun _ => addNode { ndOf 5 (cur toks s.pos).pos with text := (cur toks s.pos).text } else
   bnd (take toks [116, 114, 117, 101]) fun b => if b then addNode { ndOf 3 (cur toks s.pos).pos with n := 1 } else
   bnd (take toks [102, 97, 108, 115, 101]) fun b => if b then addNode (ndOf 3 (cur toks s.pos).pos) else
   bnd (take toks [110, 117, 108, 108]) fun b => if b then addNode (ndOf 4 (cur toks s.pos).pos) else
   bnd (take toks [102, 110]) fun b => if b then functionM toks (typ toks r) S (cur toks s.pos).pos else
   bnd (take toks [91]) fun b => if b then bnd (list toks [93] (fun _ => E) (toks.length + 1) []) fun l => addNode { ndOf 11 (cur toks s.pos).pos with list := l } else
   bnd (take toks [123]) fun b => if b then bnd (list toks [125] (fun l => partM toks E (l.map Prod.fst)) (toks.length + 1) []) fun l => addNode { ndOf 10 (cur toks s.pos).pos with list := l.map Prod.snd } else
   bnd (need toks [40]) fun _ => bnd E fun a => bnd (need toks [41]) fun _ => ret a : M Nat) s = .ok (n, s') := h
 by_cases hk3 : (cur toks s.pos).kind = 3
 · rw [if_pos hk3] at h
   obtain ⟨u, s1, e1, h⟩ := bnd_inv h
   obtain rfl : s1 = { s with pos := s.pos + 1 } := by cases e1; rfl
   obtain ⟨w1, w2, w3, w4⟩ := add_inv h
   refine op_simple (e := .num (cur toks s.pos).pos (value (cur toks s.pos).text)) (ls := [(3, Lib.itoa (value (cur toks s.pos).text : Nat))]) (by rw [layE, w4, w3]) (fun _ _ => by rw [lexE]) ⟨_, _, rfl, fun y _ => isL_kind (by decide) (by decide)⟩ rfl (by rw [w2]; simp) fun r2 _ => ?_
   refine c4_simple fun t rest hd he => ?_
   have hd : D t2 t.pos ((3, Lib.itoa (value (cur toks s.pos).text : Nat)) :: rest) := hd
   have hk : (cur t2 t.pos).kind = 3 := congrArg Prod.fst hd.cur
   have hv : value (cur t2 t.pos).text = value (cur toks s.pos).text := value_itoa (congrArg Prod.snd hd.cur)
   obtain ⟨t3, y1, y2, y3⟩ := add_eqs (b := { ndOf 1 (cur t2 t.pos).pos with n := value (cur t2 t.pos).text }) h (he.at (s.pos + 1) (t.pos + 1)) (by rw [hv]; rfl)
   refine ⟨_, _, t3, rfl, rfl, ?_, by rw [y2]; simp, y3⟩
   show (if (cur t2 t.pos).kind = 3 then _ else _ : M Nat) t = _
   rw [if_pos hk, bnd_ok (show step t = .ok ((), { t with pos := t.pos + 1 }) from rfl)]
   exact y1
 · rw [if_neg hk3] at h
   by_cases hk4 : (cur toks s.pos).kind = 4
   · rw [if_pos hk4] at h
     obtain ⟨u, s1, e1, h⟩ := bnd_inv h
     obtain rfl : s1 = { s with pos := s.pos + 1 } := by cases e1; rfl
     obtain ⟨w1, w2, w3, w4⟩ := add_inv h
     refine op_simple (e := .text (cur toks s.pos).pos (cur toks s.pos).text) (ls := [(4, (cur toks s.pos).text.data.toList)]) (by rw [layE, w4, w3]) (fun _ _ => by rw [lexE]) ⟨_, _, rfl, fun y _ => isL_kind (by decide) (by decide)⟩ rfl (by rw [w2]; simp) fun r2 _ => ?_
     refine c4_simple fun t rest hd he => ?_
     have hd : D t2 t.pos ((4, (cur toks s.pos).text.data.toList) :: rest) := hd
     have hk : (cur t2 t.pos).kind = 4 := congrArg Prod.fst hd.cur
     have hv : (cur t2 t.pos).text = (cur toks s.pos).text := text_of hd
     obtain ⟨t3, y1, y2, y3⟩ := add_eqs (b := { ndOf 2 (cur t2 t.pos).pos with text := (cur t2 t.pos).text }) h (he.at (s.pos + 1) (t.pos + 1)) (by rw [hv]; rfl)
     refine ⟨_, _, t3, rfl, rfl, ?_, by rw [y2]; simp, y3⟩
     show (if (cur t2 t.pos).kind = 3 then _ else if (cur t2 t.pos).kind = 4 then _ else _ : M Nat) t = _
     rw [if_neg (by omega), if_pos hk, bnd_ok (show step t = .ok ((), { t with pos := t.pos + 1 }) from rfl)]
     exact y1
   · rw [if_neg hk4] at h
     by_cases hk1 : (cur toks s.pos).kind = 1
     · rw [if_pos hk1] at h
       obtain ⟨u, s1, e1, h⟩ := bnd_inv h
       obtain rfl : s1 = { s with pos := s.pos + 1 } := by cases e1; rfl
       obtain ⟨w1, w2, w3, w4⟩ := add_inv h
       refine op_simple (e := .var (cur toks s.pos).pos (cur toks s.pos).text) (ls := [(1, (cur toks s.pos).text.data.toList)]) (by rw [layE, w4, w3]) (fun _ _ => by rw [lexE]) ⟨_, _, rfl, no_name⟩ rfl (by rw [w2]; simp) fun r2 _ => ?_
       refine c4_simple fun t rest hd he => ?_
       have hd : D t2 t.pos ((1, (cur toks s.pos).text.data.toList) :: rest) := hd
       have hk : (cur t2 t.pos).kind = 1 := congrArg Prod.fst hd.cur
       have hv : (cur t2 t.pos).text = (cur toks s.pos).text := text_of hd
       obtain ⟨t3, y1, y2, y3⟩ := add_eqs (b := { ndOf 5 (cur t2 t.pos).pos with text := (cur t2 t.pos).text }) h (he.at (s.pos + 1) (t.pos + 1)) (by rw [hv]; rfl)
       refine ⟨_, _, t3, rfl, rfl, ?_, by rw [y2]; simp, y3⟩
       show (if (cur t2 t.pos).kind = 3 then _ else if (cur t2 t.pos).kind = 4 then _ else if (cur t2 t.pos).kind = 1 then _ else _ : M Nat) t = _
       rw [if_neg (by omega), if_neg (by omega), if_pos hk, bnd_ok (show step t = .ok ((), { t with pos := t.pos + 1 }) from rfl)]
       exact y1
     · rw [if_neg hk1] at h
       obtain ⟨b, s1, e1, h⟩ := bnd_inv h
       obtain ⟨hb, q1, q2, q3⟩ := take_inv e1
       cases b with
       | true =>
         rw [← hb, if_pos rfl] at q3
         have h : addNode { ndOf 3 (cur toks s.pos).pos with n := 1 } s1 = .ok (n, s') := h
         obtain ⟨w1, w2, w3, w4⟩ := add_inv h
         refine op_simple (e := .bool (cur toks s.pos).pos 1) (ls := [(2, [116, 114, 117, 101])]) (by rw [layE, ← q2, w4, w3]) (fun _ _ => by rw [lexE]; rfl) ⟨_, _, rfl, by decide⟩ rfl (by rw [w2]; simp; omega) fun r2 _ => ?_
         refine c4_simple fun t rest hd he => ?_
         have hd : D t2 t.pos ((2, [116, 114, 117, 101]) :: rest) := hd
         obtain ⟨t3, y1, y2, y3⟩ := add_eqs (b := { ndOf 3 (cur t2 t.pos).pos with n := 1 }) h ((he.of q1 q2).atR (t.pos + 1)) rfl
         refine ⟨_, _, t3, rfl, rfl, ?_, by rw [y2]; simp, y3⟩
         rw [simple_sign hd (.inr rfl), bnd_ok (go_take hd rfl)]
         exact y1
       | false =>
         rw [← hb] at q3
         simp only [Bool.false_eq_true, if_false] at h q3
         obtain ⟨b, s2, e2, h⟩ := bnd_inv h
         obtain ⟨hb2, p1, p2, p3⟩ := take_inv e2
         have t2e : s2.ts = s.ts := p1.trans q1
         have n2e : s2.ns = s.ns := p2.trans q2
         cases b with
         | true =>
           rw [← hb2, if_pos rfl] at p3
           have h : addNode (ndOf 3 (cur toks s.pos).pos) s2 = .ok (n, s') := h
           obtain ⟨w1, w2, w3, w4⟩ := add_inv h
           refine op_simple (e := .bool (cur toks s.pos).pos 0) (ls := [(2, [102, 97, 108, 115, 101])]) (by rw [layE, ← n2e, w4, w3]; rfl) (fun _ _ => by rw [lexE]; rfl) ⟨_, _, rfl, by decide⟩ rfl (by rw [w2]; simp; omega) fun r2 _ => ?_
           refine c4_simple fun t rest hd he => ?_
           have hd : D t2 t.pos ((2, [102, 97, 108, 115, 101]) :: rest) := hd
           obtain ⟨t3, y1, y2, y3⟩ := add_eqs (b := ndOf 3 (cur t2 t.pos).pos) h ((he.of t2e n2e).atR (t.pos + 1)) rfl
           refine ⟨_, _, t3, rfl, rfl, ?_, by rw [y2]; simp, y3⟩
           rw [simple_sign hd (.inr rfl), bnd_ok (go_pass hd rfl), if_neg (by simp), bnd_ok (go_take hd rfl)]
           exact y1
         | false =>
           rw [← hb2] at p3
           simp only [Bool.false_eq_true, if_false] at h p3
           obtain ⟨b, s3, e3, h⟩ := bnd_inv h
           obtain ⟨hb3, o1, o2, o3⟩ := take_inv e3
           have t3e : s3.ts = s.ts := o1.trans t2e
           have n3e : s3.ns = s.ns := o2.trans n2e
           cases b with
           | true =>
             rw [← hb3, if_pos rfl] at o3
             have h : addNode (ndOf 4 (cur toks s.pos).pos) s3 = .ok (n, s') := h
             obtain ⟨w1, w2, w3, w4⟩ := add_inv h
             refine op_simple (e := .null (cur toks s.pos).pos) (ls := [(2, [110, 117, 108, 108])]) (by rw [layE, ← n3e, w4, w3]) (fun _ _ => by rw [lexE]) ⟨_, _, rfl, by decide⟩ rfl (by rw [w2]; simp; omega) fun r2 _ => ?_
             refine c4_simple fun t rest hd he => ?_
             have hd : D t2 t.pos ((2, [110, 117, 108, 108]) :: rest) := hd
             obtain ⟨t3, y1, y2, y3⟩ := add_eqs (b := ndOf 4 (cur t2 t.pos).pos) h ((he.of t3e n3e).atR (t.pos + 1)) rfl
             refine ⟨_, _, t3, rfl, rfl, ?_, by rw [y2]; simp, y3⟩
             rw [simple_sign hd (.inr rfl), bnd_ok (go_pass hd rfl), if_neg (by simp), bnd_ok (go_pass hd rfl), if_neg (by simp), bnd_ok (go_take hd rfl)]
             exact y1
           | false =>
             rw [← hb3] at o3
             simp only [Bool.false_eq_true, if_false] at h o3
             obtain ⟨b, s4, e4, h⟩ := bnd_inv h
             obtain ⟨hb4, m1, m2, m3⟩ := take_inv e4
             have t4e : s4.ts = s.ts := m1.trans t3e
             have n4e : s4.ns = s.ns := m2.trans n3e
             cases b with
             | true =>
               rw [← hb4, if_pos rfl] at m3
               have h : functionM toks (typ toks r) S (cur toks s.pos).pos s4 = .ok (n, s') := h
               obtain ⟨ps, ty, bp, body, LS, k1, k2, k3, k4⟩ := function_op hT hL HS hIS _ (inv_of hi t4e n4e) h
               refine op_simple (e := .fn (cur toks s.pos).pos ps ty bp body) (ls := (2, [102, 110]) :: LS) (by rw [← n4e]; exact k1) k2 ⟨_, _, rfl, by decide⟩ rfl (by simp only [List.length_cons]; omega) fun r2 hr => ?_
               refine c4_simple fun t rest hd he => ?_
               have hd : D t2 t.pos ((2, [102, 110]) :: (LS ++ rest)) := hd
               obtain ⟨t3, y1, y2, y3⟩ := k4 r2 hr (cur t2 t.pos).pos { t with pos := t.pos + 1 } rest hd.next trivial ((he.of t4e n4e).atR _)
               refine ⟨_, _, t3, rfl, rfl, ?_, by dsimp only at y2; simp only [List.length_cons]; omega, y3⟩
               rw [simple_sign hd (.inr rfl), bnd_ok (go_pass hd rfl), if_neg (by simp), bnd_ok (go_pass hd rfl), if_neg (by simp), bnd_ok (go_pass hd rfl), if_neg (by simp), bnd_ok (go_take hd rfl)]
               exact y1
             | false =>
               rw [← hb4] at m3
               simp only [Bool.false_eq_true, if_false] at h m3
               obtain ⟨b, s5, e5, h⟩ := bnd_inv h
               obtain ⟨hb5, j1, j2, j3⟩ := take_inv e5
               have t5e : s5.ts = s.ts := j1.trans t4e
               have n5e : s5.ns = s.ns := j2.trans n4e
               cases b with
               | true =>
                 rw [← hb5, if_pos rfl] at j3
                 obtain ⟨l, s6, e6, h⟩ := bnd_inv (show bnd (list toks [93] (fun _ => E) (toks.length + 1) []) (fun l => addNode { ndOf 11 (cur toks s.pos).pos with list := l }) s5 = _ from h)
                 obtain ⟨i6, x6, es, LS, g1, g2, g3, g4⟩ := exprs_op HE (x := [93]) (by decide) (by decide) (fun r => FoC.sign (by decide)) (inv_of hi t5e n5e) e6
                 obtain ⟨w1, w2, w3, w4⟩ := add_inv h
                 refine op_simple (e := .arr (cur toks s.pos).pos es) (ls := (5, [91]) :: (LS ++ [(5, [93])])) (by rw [layE, ← n5e, g1, w4, w3]) (fun tsF hx => by rw [w1] at hx; rw [lexE, g2 tsF hx]) ⟨_, _, rfl, by decide⟩ rfl (by simp only [List.length_cons, List.length_append, List.length_nil]; omega) fun r2 hr => ?_
                 refine c4_simple fun t rest hd he => ?_
                 simp only [List.cons_append, List.append_assoc, List.nil_append] at hd ⊢
                 obtain ⟨t3, y1, y2, y3⟩ := g4 r2 hr { t with pos := t.pos + 1 } rest hd.next ((he.of t5e n5e).atR _)
                 obtain ⟨t4, z1, z2, z3⟩ := add_eqs (b := { ndOf 11 (cur t2 t.pos).pos with list := l }) h y3 rfl
                 refine ⟨_, _, t4, rfl, rfl, ?_, by dsimp only at y2; simp only [List.length_cons, List.length_append, List.length_nil]; omega, z3⟩
                 rw [simple_sign hd (.inl rfl), bnd_ok (go_pass hd rfl), if_neg (by simp), bnd_ok (go_pass hd rfl), if_neg (by simp), bnd_ok (go_pass hd rfl), if_neg (by simp), bnd_ok (go_pass hd rfl), if_neg (by simp), bnd_ok (go_take hd rfl), if_pos rfl, bnd_ok y1]
                 exact z1
               | false =>
                 rw [← hb5] at j3
                 simp only [Bool.false_eq_true, if_false] at h j3
                 obtain ⟨b, s6, e6, h⟩ := bnd_inv h
                 obtain ⟨hb6, v1, v2, v3⟩ := take_inv e6
                 have t6e : s6.ts = s.ts := v1.trans t5e
                 have n6e : s6.ns = s.ns := v2.trans n5e
                 cases b with
                 | true =>
                   rw [← hb6, if_pos rfl] at v3
                   obtain ⟨l, s7, e7, h⟩ := bnd_inv (show bnd (list toks [125] (fun l => partM toks E (l.map Prod.fst)) (toks.length + 1) []) (fun l => addNode { ndOf 10 (cur toks s.pos).pos with list := l.map Prod.snd }) s6 = _ from h)
                   obtain ⟨i7, x7, es, LS, g1, g2, g3, g4⟩ := parts_op hT HE hIK (inv_of hi t6e n6e) e7
                   obtain ⟨w1, w2, w3, w4⟩ := add_inv h
                   refine op_simple (e := .obj (cur toks s.pos).pos es) (ls := (5, [123]) :: (LS ++ [(5, [125])])) (by rw [layE, ← n6e, g1, w4, w3]) (fun tsF hx => by rw [w1] at hx; rw [lexE, g2 tsF hx]) ⟨_, _, rfl, by decide⟩ rfl (by simp only [List.length_cons, List.length_append, List.length_nil]; omega) fun r2 hr => ?_
                   refine c4_simple fun t rest hd he => ?_
                   simp only [List.cons_append, List.append_assoc, List.nil_append] at hd ⊢
                   obtain ⟨t3, y1, y2, y3⟩ := g4 r2 hr { t with pos := t.pos + 1 } rest hd.next ((he.of t6e n6e).atR _)
                   obtain ⟨t4, z1, z2, z3⟩ := add_eqs (b := { ndOf 10 (cur t2 t.pos).pos with list := l.map Prod.snd }) h y3 rfl
                   refine ⟨_, _, t4, rfl, rfl, ?_, by dsimp only at y2; simp only [List.length_cons, List.length_append, List.length_nil]; omega, z3⟩
                   rw [simple_sign hd (.inl rfl), bnd_ok (go_pass hd rfl), if_neg (by simp), bnd_ok (go_pass hd rfl), if_neg (by simp), bnd_ok (go_pass hd rfl), if_neg (by simp), bnd_ok (go_pass hd rfl), if_neg (by simp), bnd_ok (go_pass hd rfl), if_neg (by simp), bnd_ok (go_take hd rfl), if_pos rfl, bnd_ok y1]
                   exact z1
                 | false =>
                   rw [← hb6] at v3
                   simp only [Bool.false_eq_true, if_false] at h v3
                   obtain ⟨u, s7, e7, h⟩ := bnd_inv h
                   obtain ⟨_, g1, g2, g3⟩ := need_inv e7
                   obtain ⟨m, s8, e8, h⟩ := bnd_inv h
                   obtain ⟨u, s9, e9, h⟩ := bnd_inv h
                   obtain ⟨_, f1, f2, f3⟩ := need_inv e9
                   obtain ⟨rfl, rfl⟩ : m = n ∧ s9 = s' := by cases h; exact ⟨rfl, rfl⟩
                   obtain ⟨_, _, r', hr', e, ls, k1, k2, k3, k4, k5⟩ := HE _ _ _ (inv_of hi (g1.trans t6e) (g2.trans n6e)) e8
                   have hre : GE t2 r' (lvl e) ls s m s9 := fun r2 hr => by
                     have hk := k4 r2 hr
                     have a1 : s.ts = s7.ts := (g1.trans t6e).symm
                     have a2 : s.ns = s7.ns := (g2.trans n6e).symm
                     generalize lvl e = k at hk ⊢
                     match k, hk with
                     | 0, hk => exact Ac.of hk a1 a2 f1 f2
                     | 1, hk => exact fun t rest hd hf he => by obtain ⟨t', f, c1, c2, c3, c4⟩ := hk t rest hd hf (he.of a1.symm a2.symm); exact ⟨t', f, c1, c2, c3.of f1 f2, c4⟩
                     | 2, hk => exact fun t rest hd hf he => by obtain ⟨t', f, c1, c2, c3, c4⟩ := hk t rest hd hf (he.of a1.symm a2.symm); exact ⟨t', f, c1, c2, c3.of f1 f2, c4⟩
                     | 3, hk => exact Ac.of hk a1 a2 f1 f2
                     | k + 4, hk => exact fun t rest hd hf he => by obtain ⟨t', f, c1, c2, c3, c4⟩ := hk t rest hd hf (he.of a1.symm a2.symm); exact ⟨t', f, c1, c2, c3.of f1 f2, c4⟩
                   refine ⟨e, ls, by rw [f2, ← n6e, ← g2]; exact k1, by rw [f1]; exact k2, k3, hre.up (by omega), .inr ⟨r', hr', hre, ?_⟩⟩
                   rcases k5 with ⟨_, k5⟩ | ⟨_, _, _, k5⟩ <;> omega
end
end Ty
end
section
namespace Ty
open Tok (Tk)
section
variable {toks t2 : List Tk}
theorem c4_step {r2 : Nat} {la lx : List Lm} {s0 s s' : St} {a m : Nat} {l0 : Lm} (h : C4 t2 r2 la s0 a s) (hl : ∃ r, lx = l0 :: r) (h0 : Fol [l0])
   (g : ∀ t1 rest f, D t2 t1.pos (lx ++ rest) → Fol rest → Eqs s t1 → ∃ t', behind t2 (typ t2 r2) (lv t2 r2).E (f + 1) a t1 = behind t2 (typ t2 r2) (lv t2 r2).E f m t' ∧ t'.pos = t1.pos + lx.length ∧ Eqs s' t') : C4 t2 r2 (la ++ lx) s0 m s' := fun t rest hd hf he => by
 rw [List.append_assoc] at hd
 obtain ⟨r, hr⟩ := hl
 obtain ⟨t1, f, a1, a2, a3, a4⟩ := h t _ hd (by rw [hr]; exact h0) he
 have d1 := hd.add.pos a2
 have hlt : t1.pos < t2.length := by rw [hr] at d1; exact d1.lt
 obtain ⟨t', b1, b2, b3⟩ := g t1 rest f d1 hf a3
 obtain ⟨f, rfl⟩ : ∃ g, f = g + 1 := ⟨f - 1, by omega⟩
 have hl1 : 1 ≤ lx.length := by rw [hr]; simp
 exact ⟨t', f, by rw [a1, b1], by rw [List.length_append]; omega, b3, by omega⟩
theorem op4 {r : Nat} {s0 s s' : St} {a m : Nat} {lx : List Lm} (h0 : Op t2 4 r s0 a s) (hx : Ext s.ts s'.ts) (hc : s.pos + lx.length ≤ s'.pos)
   (hE : ∀ e, layE e s0.ns = (s.ns, a) → ∃ e'', lvl e'' = 4 ∧ layE e'' s0.ns = (s'.ns, m) ∧ ∀ tsF, Ext s'.ts tsF → lexE tsF e'' = parL (decide (lvl e < 4)) (lexE tsF e) ++ lx)
   (hC : ∀ r2, r ≤ r2 → ∀ la, C4 t2 r2 la s0 a s → C4 t2 r2 (la ++ lx) s0 m s') : Op t2 4 r s0 m s' := by
 obtain ⟨e, la, a1, a2, a3, a4, a5⟩ := h0.part
 obtain ⟨e2, k1, k2, k3⟩ := hE e a1
 exact op_simple k2 (fun tsF hxt => by rw [k3 tsF hxt, a2 tsF (hx.trans hxt)]) (a3.app _) k1 (by rw [List.length_append]; omega) fun r2 hr => hC r2 hr la (a5 r2 hr)
theorem behind_op (hT : ∀ t ∈ toks, TkOk t) (hL : toks.length ≤ 1001) {r : Nat} {E : M Nat} (HE : SrE t2 r E) (hIK : ∀ t0, IK t0 E fun _ _ => True) : ∀ f a s0 s, Inv s → Op t2 4 r s0 a s → ∀ m s', behind toks (typ toks r) E f a s = .ok (m, s') → Op t2 4 r s0 m s'
 | 0, _, _, _, _, _, _, _, h => by cases h
 | f + 1, a, s0, s, hi, ho, m, s', h => by
   obtain ⟨b, s1, e1, h⟩ := bnd_inv (show bnd (take toks [40]) _ s = _ from h)
   obtain ⟨hb, q1, q2, q3⟩ := take_inv e1
   cases b with
   | true =>
     rw [← hb, if_pos rfl] at q3
     obtain ⟨l, s2, e2, h⟩ := bnd_inv (show bnd (list toks [41] (fun _ => E) (toks.length + 1) []) (fun l => bnd (addNode { ndOf 7 (ndAt s a).pos with a := a, list := l }) fun m => behind toks (typ toks r) E f m) s1 = _ from h)
     obtain ⟨q, s3, e3, h⟩ := bnd_inv h
     obtain ⟨i2, x2, es, LS, g1, g2, g3, g4⟩ := exprs_op HE (x := [41]) (by decide) (by decide) (fun r => FoC.sign (by decide)) (inv_of hi q1 q2) e2
     obtain ⟨w1, w2, w3, w4⟩ := add_inv e3
     have i3 : Inv s3 := ((IK.addNode _ fun t _ => ndOk_plain e30 rfl (fun h => (by cases h)) (fun _ => (by simp [ndOf])) (fun h => (by cases h)) (fun h => (by simp [ndOf] at h)) (fun h => (by cases h)) (fun h => (by cases h)) (by simp [ndOf]) t) s2 q s3 (Ext.refl _) i2 e3).1
     refine behind_op hT hL HE hIK f q s0 s3 i3 ?_ m s' h
     refine op4 (lx := (5, [40]) :: (LS ++ [(5, [41])])) ho (by rw [w1, ← q1]; exact x2) (by simp only [List.length_cons, List.length_append, List.length_nil]; omega) (fun e he => ⟨.call (ndAt s a).pos e es, rfl, ?_, fun tsF hx => ?_⟩) fun r2 hr la hc => c4_step hc ⟨_, rfl⟩ ⟨rfl, rfl⟩ fun t1 rest f hd hf he => ?_
     · rw [layE, he]
       dsimp only
       rw [← q2, g1, w4, w3]
     · rw [w1] at hx
       rw [lexE, g2 tsF hx]
     · simp only [List.cons_append, List.append_assoc, List.nil_append] at hd
       obtain ⟨t3, y1, y2, y3⟩ := g4 r2 hr { t1 with pos := t1.pos + 1 } rest hd.next ((he.of q1 q2).atR _)
       obtain ⟨t4, z1, z2, z3⟩ := add_eqs (b := { ndOf 7 (ndAt t1 a).pos with a := a, list := l }) e3 y3 rfl
       refine ⟨t4, ?_, by dsimp only at y2; simp only [List.length_cons, List.length_append, List.length_nil]; omega, z3⟩
       show bnd (take t2 [40]) _ t1 = _
       rw [bnd_ok (go_take hd rfl), if_pos rfl, bnd_ok y1, bnd_ok z1]
   | false =>
     rw [← hb] at q3
     simp only [Bool.false_eq_true, if_false] at q3
     obtain ⟨b, s2, e2, h⟩ := bnd_inv (show bnd (take toks [46]) _ s1 = _ from h)
     obtain ⟨hb2, p1, p2, p3⟩ := take_inv e2
     have t2e : s2.ts = s.ts := p1.trans q1
     have n2e : s2.ns = s.ns := p2.trans q2
     cases b with
     | true =>
       rw [← hb2, if_pos rfl] at p3
       obtain ⟨x, s3, e3, h⟩ := bnd_inv (show bnd (name toks []) (fun x => bnd (addNode { ndOf 8 (ndAt s a).pos with a := a, text := x }) fun m => behind toks (typ toks r) E f m) s2 = _ from h)
       obtain ⟨q, s4, e4, h⟩ := bnd_inv h
       obtain ⟨m1, m2, m3, m4⟩ := name_inv e3
       obtain ⟨w1, w2, w3, w4⟩ := add_inv e4
       have hx3 := (IK.name hT []) s2 x s3 (Ext.refl _) (inv_of hi t2e n2e) e3
       have i4 : Inv s4 := ((IK.addNode _ fun t _ => ndOk_plain (by have := hx3.2.2.size; show x.size ≤ 30; omega) rfl (fun h => (by cases h)) (fun _ => (by simp [ndOf])) (fun h => (by cases h)) (fun _ => hx3.2.2) (fun h => (by cases h)) (fun h => (by cases h)) (by simp [ndOf]) t) s3 q s4 (Ext.refl _) hx3.1 e4).1
       refine behind_op hT hL HE hIK f q s0 s4 i4 ?_ m s' h
       refine op4 (lx := [(5, [46]), (1, x.data.toList)]) ho (by rw [w1, m2, t2e]; exact Ext.refl _) (by simp only [List.length_cons, List.length_nil]; omega) (fun e he => ⟨.get (ndAt s a).pos e x, rfl, ?_, fun tsF hx => ?_⟩) fun r2 hr la hc => c4_step hc ⟨_, rfl⟩ ⟨rfl, rfl⟩ fun t1 rest f hd hf he => ?_
       · rw [layE, he]
         dsimp only
         rw [← n2e, ← m3, w4, w3]
       · rw [lexE]
       · have hd : D t2 t1.pos ((5, [46]) :: (1, x.data.toList) :: rest) := hd
         obtain ⟨t4, z1, z2, z3⟩ := add_eqs (b := { ndOf 8 (ndAt t1 a).pos with a := a, text := x }) e4 ((he.of (m2.trans t2e) (m3.trans n2e)).atR (t1.pos + 1 + 1)) rfl
         refine ⟨t4, ?_, by rw [z2]; simp, z3⟩
         show bnd (take t2 [40]) _ t1 = _
         rw [bnd_ok (go_pass hd rfl), if_neg (by simp), bnd_ok (go_take hd rfl), if_pos rfl, bnd_ok (go_name (t := { t1 with pos := t1.pos + 1 }) hd.next m1), bnd_ok z1]
     | false =>
       rw [← hb2] at p3
       simp only [Bool.false_eq_true, if_false] at p3
       obtain ⟨b, s3, e3, h⟩ := bnd_inv (show bnd (take toks [91]) _ s2 = _ from h)
       obtain ⟨hb3, o1, o2, o3⟩ := take_inv e3
       have t3e : s3.ts = s.ts := o1.trans t2e
       have n3e : s3.ns = s.ns := o2.trans n2e
       cases b with
       | true =>
         rw [← hb3, if_pos rfl] at o3
         obtain ⟨c, s4, e4, h⟩ := bnd_inv (show bnd E (fun c => bnd (need toks [93]) fun _ => bnd (addNode { ndOf 9 (ndAt s a).pos with a := a, b := c }) fun m => behind toks (typ toks r) E f m) s3 = _ from h)
         obtain ⟨u, s5, e5, h⟩ := bnd_inv h
         obtain ⟨q, s6, e6, h⟩ := bnd_inv h
         obtain ⟨i4, x4, eb, lb, k1, k2, k3, k4, k5⟩ := HE.go (inv_of hi t3e n3e) e4
         obtain ⟨_, m1, m2, m3⟩ := need_inv e5
         obtain ⟨w1, w2, w3, w4⟩ := add_inv e6
         have i5 : Inv s5 := inv_of i4 m1 m2
         have i6 : Inv s6 := ((IK.addNode _ fun t _ => ndOk_plain e30 rfl (fun h => (by cases h)) (fun _ => (by simp [ndOf])) (fun h => (by cases h)) (fun h => (by simp [ndOf] at h)) (fun h => (by cases h)) (fun h => (by cases h)) (by simp [ndOf]) t) s5 q s6 (Ext.refl _) i5 e6).1
         refine behind_op hT hL HE hIK f q s0 s6 i6 ?_ m s' h
         refine op4 (lx := (5, [91]) :: (lb ++ [(5, [93])])) ho (by rw [w1, m1, ← t3e]; exact x4) (by simp only [List.length_cons, List.length_append, List.length_nil]; omega) (fun e he => ⟨.at (ndAt s a).pos e eb, rfl, ?_, fun tsF hx => ?_⟩) fun r2 hr la hc => c4_step hc ⟨_, rfl⟩ ⟨rfl, rfl⟩ fun t1 rest f hd hf he => ?_
         · rw [layE, he]
           dsimp only
           rw [← n3e, k1]
           dsimp only
           rw [w4, w3, m2]
         · rw [w1, m1] at hx
           rw [lexE, k2 tsF hx]
         · simp only [List.cons_append, List.append_assoc, List.nil_append] at hd
           obtain ⟨t3, y1, y2, y3⟩ := k5 r2 hr { t1 with pos := t1.pos + 1 } _ hd.next (FoE.sign (by decide)) ((he.of t3e n3e).atR _)
           have d3 := hd.next.add.pos y2
           obtain ⟨t4, z1, z2, z3⟩ := add_eqs (b := { ndOf 9 (ndAt t1 a).pos with a := a, b := c }) e6 ((y3.of m1 m2).atR (t3.pos + 1)) rfl
           refine ⟨t4, ?_, by dsimp only at y2 z2; simp only [List.length_cons, List.length_append, List.length_nil]; omega, z3⟩
           show bnd (take t2 [40]) _ t1 = _
           rw [bnd_ok (go_pass hd rfl), if_neg (by simp), bnd_ok (go_pass hd rfl), if_neg (by simp), bnd_ok (go_take hd rfl), if_pos rfl, bnd_ok y1, bnd_ok (go_need d3 rfl), bnd_ok z1]
       | false =>
         rw [← hb3] at o3
         simp only [Bool.false_eq_true, if_false] at o3
         obtain ⟨b, s4, e4, h⟩ := bnd_inv (show bnd (take toks [97, 115]) _ s3 = _ from h)
         obtain ⟨hb4, m1, m2, m3⟩ := take_inv e4
         have t4e : s4.ts = s.ts := m1.trans t3e
         have n4e : s4.ns = s.ns := m2.trans n3e
         cases b with
         | true =>
           rw [← hb4, if_pos rfl] at m3
           obtain ⟨t, s5, e5, h⟩ := bnd_inv (show bnd (typ toks r) (fun t => bnd (addNode { ndOf 14 (ndAt s a).pos with a := a, ty := (t : Int) }) fun m => behind toks (typ toks r) E f m) s4 = _ from h)
           obtain ⟨q, s6, e6, h⟩ := bnd_inv h
           have i4 : Inv s4 := inv_of hi t4e n4e
           obtain ⟨k1, k2, k3, k4⟩ := typ_sr (t2 := t2) hL r _ _ _ i4.wf e5
           have hik := (IK.typ hT hL r) s4 t s5 (Ext.refl _) i4 e5
           obtain ⟨_, _, g3⟩ := typ_keep toks hL r _ _ _ i4.wf e5
           obtain ⟨w1, w2, w3, w4⟩ := add_inv e6
           have i6 : Inv s6 := ((IK.addNode _ fun u hu => ⟨e30, fun h => (by cases h), fun _ => (by simp [ndOf]), fun h => (by cases h), fun h => (by simp [ndOf] at h), fun h => (by cases h), fun h => (by cases h), (show TyZ (t : Int) u from .inr ⟨t, rfl, hik.2.2.ext hu⟩), fun _ => (by simp)⟩) s5 q s6 (Ext.refl _) hik.1 e6).1
           refine behind_op hT hL HE hIK f q s0 s6 i6 ?_ m s' h
           refine op4 (lx := (2, [97, 115]) :: lexT (den s5.ts t)) ho (by rw [w1, ← t4e]; exact hik.2.1) (by simp only [List.length_cons]; omega) (fun e he => ⟨.as (ndAt s a).pos e t, rfl, ?_, fun tsF hx => ?_⟩) fun r2 hr la hc => c4_step hc ⟨_, rfl⟩ ⟨rfl, rfl⟩ fun t1 rest f hd hf he => ?_
           · rw [layE, he]
             dsimp only
             rw [← n4e, ← k1, w4, w3]
           · rw [w1] at hx
             rw [lexE, Int.toNat_natCast, hx.den g3]
           · have hd : D t2 t1.pos ((2, [97, 115]) :: (lexT (den s5.ts t) ++ rest)) := hd
             obtain ⟨t3, y1, y2, y3⟩ := k4.1 r2 hr { t1 with pos := t1.pos + 1 } _ hd.next hf ((he.of t4e n4e).atR _)
             obtain ⟨t4, z1, z2, z3⟩ := add_eqs (b := { ndOf 14 (ndAt t1 a).pos with a := a, ty := (t : Int) }) e6 y3 rfl
             refine ⟨t4, ?_, by dsimp only at y2; simp only [List.length_cons]; omega, z3⟩
             show bnd (take t2 [40]) _ t1 = _
             rw [bnd_ok (go_pass hd rfl), if_neg (by simp), bnd_ok (go_pass hd rfl), if_neg (by simp), bnd_ok (go_pass hd rfl), if_neg (by simp), bnd_ok (go_take hd rfl), if_pos rfl, bnd_ok y1, bnd_ok z1]
         | false =>
           rw [← hb4] at m3
           simp only [Bool.false_eq_true, if_false] at m3
           obtain ⟨rfl, rfl⟩ : a = m ∧ s4 = s' := by have h : ret a s4 = .ok (m, s') := h; cases h; exact ⟨rfl, rfl⟩
           obtain ⟨e, ls, h1, h2, hh, h3, h4⟩ := ho
           have hre : ∀ r3, GE t2 r3 (lvl e) ls s0 a s → GE t2 r3 (lvl e) ls s0 a s4 := fun r3 hg r2 hr => by
             have hk := hg r2 hr
             generalize lvl e = k at hk ⊢
             match k, hk with
             | 0, hk => exact Ac.of hk rfl rfl t4e n4e
             | 1, hk => exact fun t rest hd hf he => by obtain ⟨t', f, c1, c2, c3, c4⟩ := hk t rest hd hf he; exact ⟨t', f, c1, c2, c3.of t4e n4e, c4⟩
             | 2, hk => exact fun t rest hd hf he => by obtain ⟨t', f, c1, c2, c3, c4⟩ := hk t rest hd hf he; exact ⟨t', f, c1, c2, c3.of t4e n4e, c4⟩
             | 3, hk => exact Ac.of hk rfl rfl t4e n4e
             | k + 4, hk => exact fun t rest hd hf he => by obtain ⟨t', f, c1, c2, c3, c4⟩ := hk t rest hd hf he; exact ⟨t', f, c1, c2, c3.of t4e n4e, c4⟩
           refine ⟨e, ls, by rw [n4e]; exact h1, by rw [t4e]; exact h2, hh, hre _ h3, ?_⟩
           rcases h4 with ⟨k1, k2⟩ | ⟨r', k1, k2, k3⟩
           · exact .inl ⟨k1, by omega⟩
           · exact .inr ⟨r', k1, hre _ k2, by omega⟩
def SrP (t2 : List Tk) (r : Nat) (O : M Nat) : Prop := ∀ s n s', Inv s → O s = .ok (n, s') → Inv s' ∧ Ext s.ts s'.ts ∧ ∃ r', r = r' + 1 ∧ Op t2 3 r' s n s'
theorem one_op (hT : ∀ t ∈ toks, TkOk t) (hL : toks.length ≤ 1001) {r : Nat} {E O S : M Nat} (HE : SrE t2 r E) (HO : SrP t2 r O) (HS : SrM t2 r S) (hIE : ∀ t0, IK t0 E fun _ _ => True) (hIO : ∀ t0, IK t0 O fun _ _ => True) (hIS : ∀ t0, IK t0 S fun _ _ => True) : SrO t2 3 r (oneM toks (typ toks r) E O S) := fun s n s' hi h => by
 have hall := oneM_ik hT (fun t0 => IK.typ hT hL r) hIE hIO hIS s.ts s n s' (Ext.refl _) hi h
 refine ⟨hall.1, hall.2.1, ?_⟩
 have h : (if prefixes.any (fun x => Ty.is toks x s.pos) = true then bnd step fun _ => bnd O fun a => addNode { ndOf 13 (cur toks s.pos).pos with text := (cur toks s.pos).text, a := a }
   else bnd (simpleM toks (typ toks r) E S) fun a => behind toks (typ toks r) E (toks.length + 1) a : M Nat) s = .ok (n, s') := h
 by_cases hp : prefixes.any (fun x => Ty.is toks x s.pos) = true
 · rw [if_pos hp] at h
   obtain ⟨u, s1, e1, h⟩ := bnd_inv h
   obtain rfl : s1 = { s with pos := s.pos + 1 } := by cases e1; rfl
   obtain ⟨a, s2, e2, hA⟩ := bnd_inv h
   clear h
   obtain ⟨i2, x2, r', hr', ho⟩ := HO { s with pos := s.pos + 1 } a s2 (inv_of hi rfl rfl) e2
   obtain ⟨e, ls, a1, a2, a3, a4, a5⟩ := ho.part
   obtain ⟨w1, w2, w3, w4⟩ := add_inv hA
   have hmem := any_text hp
   generalize hx : (cur toks s.pos).text = x at *
   have hk : (if x.data.toList = typeofS then 2 else 5) = 5 ∨ (if x.data.toList = typeofS then 2 else 5) = 2 := by split <;> simp
   have hhd : NoHd ((if x.data.toList = typeofS then 2 else 5, x.data.toList) :: ls) := by
     refine ⟨_, _, rfl, fun y hy => ?_⟩
     rw [isL_cons hk, decide_eq_false]
     rintro rfl
     revert hmem hy
     generalize x.data.toList = z
     intro h1 h2
     simp only [prefixes, List.mem_cons, List.not_mem_nil, or_false] at h1
     rcases h1 with rfl | rfl | rfl <;> revert h2 <;> decide
   refine ⟨.one (cur toks s.pos).pos x e, (if x.data.toList = typeofS then 2 else 5, x.data.toList) :: ls, ?_, fun tsF hxt => ?_, hhd, fun r2 hr => ?_, .inl ⟨by simp [lvl], ?_⟩⟩
   · dsimp only at a1
     rw [layE, a1, w4, w3]
   · rw [w1] at hxt
     rw [lexE, a2 tsF hxt]
   · obtain ⟨r2, rfl⟩ : ∃ g, r2 = g + 1 := ⟨r2 - 1, by omega⟩
     show C3 t2 (r2 + 1) _ s n s'
     intro t rest hd hf he
     have hd : D t2 t.pos ((if x.data.toList = typeofS then 2 else 5, x.data.toList) :: (ls ++ rest)) := hd
     obtain ⟨t1, b1, b2, b3⟩ := (show C3 t2 r2 ls { s with pos := s.pos + 1 } a s2 from a5 r2 (by omega)) { t with pos := t.pos + 1 } rest hd.next hf (he.at _ _)
     have htx : (cur t2 t.pos).text = x := text_of hd
     obtain ⟨t3, y1, y2, y3⟩ := add_eqs (b := { ndOf 13 (cur t2 t.pos).pos with text := (cur t2 t.pos).text, a := a }) hA b3 (by rw [htx]; rfl)
     refine ⟨t3, ?_, by dsimp only at b2; simp only [List.length_cons]; omega, y3⟩
     have hpa : prefixes.any (fun y => Ty.is t2 y t.pos) = true := List.any_eq_true.2 ⟨_, hmem, by rw [hd.is, isL_cons hk]; simp⟩
     show (if prefixes.any (fun y => Ty.is t2 y t.pos) = true then bnd step fun _ => bnd (lv t2 (r2 + 1)).O fun a => addNode { ndOf 13 (cur t2 t.pos).pos with text := (cur t2 t.pos).text, a := a } else _ : M Nat) t = _
     rw [if_pos hpa, bnd_ok (show step t = .ok ((), { t with pos := t.pos + 1 }) from rfl), bnd_ok (show (Ty.lv t2 (r2 + 1)).O { t with pos := t.pos + 1 } = .ok (a, t1) from b1)]
     exact y1
   · dsimp only at a4
     simp only [List.length_cons]; omega
 · rw [if_neg hp] at h
   obtain ⟨a, s1, e1, h⟩ := bnd_inv h
   have hik := simpleM_ik hT (fun t0 => IK.typ hT hL r) hIE hIS s.ts s a s1 (Ext.refl _) hi e1
   have h1 := simple_op (t2 := t2) hT hL HE HS hIE hIS hi e1
   exact (behind_op hT hL HE hIE _ _ s s1 hik.1 h1 _ _ h).down (by omega)
end
end Ty
end
end Go.Proofs.YtdlbhiaceheffabGreatDoor
