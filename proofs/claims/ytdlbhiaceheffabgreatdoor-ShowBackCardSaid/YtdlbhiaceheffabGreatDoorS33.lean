/- Plain: what was read once, and printed, is read again as it was: the tokens of a tree; levels of expressions. No program in sight. Plain: what was read once, and printed, is read again as it was: sums, comparisons, lists. No program in sight. -/
import Derived.Test.YtdlbhiaceheffabGreatDoorS32
set_option linter.all false
namespace Go.Proofs.YtdlbhiaceheffabGreatDoor
section
namespace Ty
open Tok (Tk)
def lexCol (ts : List Ty) (ty : Int) : List Lm := if ty < 0 then [] else (5, [58]) :: lexT (den ts ty.toNat)
def lexPar (ts : List Ty) (q : Par) : List Lm := (1, q.text.data.toList) :: lexCol ts q.ty
mutual
def lexE (ts : List Ty) : Ex → List Lm
 | .num _ n => [(3, Lib.itoa n)]
 | .text _ x => [(4, x.data.toList)]
 | .bool _ n => [(2, if n = 1 then [116, 114, 117, 101] else [102, 97, 108, 115, 101])]
 | .null _ => [(2, [110, 117, 108, 108])]
 | .var _ x => [(1, x.data.toList)]
 | .fn _ ps ty _ body => (2, [102, 110]) :: (5, [40]) :: (joinG [(5, [44])] (ps.map (lexPar ts)) ++ ((5, [41]) :: (lexCol ts ty ++ ((5, [123]) :: (lexSs ts body ++ [(5, [125])])))))
 | .call _ a l => parL (decide (lvl a < 4)) (lexE ts a) ++ ((5, [40]) :: (joinG [(5, [44])] (lexEs ts l) ++ [(5, [41])]))
 | .get _ a x => parL (decide (lvl a < 4)) (lexE ts a) ++ [(5, [46]), (1, x.data.toList)]
 | .at _ a b => parL (decide (lvl a < 4)) (lexE ts a) ++ ((5, [91]) :: (lexE ts b ++ [(5, [93])]))
 | .obj _ l => (5, [123]) :: (joinG [(5, [44])] (lexOs ts l) ++ [(5, [125])])
 | .arr _ l => (5, [91]) :: (joinG [(5, [44])] (lexEs ts l) ++ [(5, [93])])
 | .two _ x a b => parL (decide (lvl a < max (signLv x) 1)) (lexE ts a) ++ ((5, x.data.toList) :: parL (decide (lvl b < signLv x + 1)) (lexE ts b))
 | .one _ x a => (if x.data.toList = typeofS then 2 else 5, x.data.toList) :: parL (decide (lvl a < 3)) (lexE ts a)
 | .as _ a ty => parL (decide (lvl a < 4)) (lexE ts a) ++ ((2, [97, 115]) :: lexT (den ts ty.toNat))
def lexEs (ts : List Ty) : List Ex → List (List Lm)
 | [] => []
 | e :: l => lexE ts e :: lexEs ts l
def lexOs (ts : List Ty) : List (Nat × ByteArray × Ex) → List (List Lm)
 | [] => []
 | (_, x, e) :: l => ((1, x.data.toList) :: (5, [58]) :: lexE ts e) :: lexOs ts l
def lexSs (ts : List Ty) : List Sm → List Lm
 | [] => []
 | e :: l => lexS ts e ++ lexSs ts l
def lexS (ts : List Ty) : Sm → List Lm
 | .let_ _ x ty a => (2, [108, 101, 116]) :: (1, x.data.toList) :: (lexCol ts ty ++ ((5, [61]) :: (lexE ts a ++ [(5, [59])])))
 | .set _ x v => (1, x.data.toList) :: (5, [61]) :: (lexE ts v ++ [(5, [59])])
 | .put _ a x v => parL (decide (lvl a < 4)) (lexE ts a) ++ ((5, [46]) :: (1, x.data.toList) :: (5, [61]) :: (lexE ts v ++ [(5, [59])]))
 | .lay _ a b v => parL (decide (lvl a < 4)) (lexE ts a) ++ ((5, [91]) :: (lexE ts b ++ ((5, [93]) :: (5, [61]) :: (lexE ts v ++ [(5, [59])]))))
 | .print _ a => (2, [112, 114, 105, 110, 116]) :: (lexE ts a ++ [(5, [59])])
 | .ret _ a => (2, [114, 101, 116, 117, 114, 110]) :: (lexE ts a ++ [(5, [59])])
 | .do_ _ a => lexE ts a ++ [(5, [59])]
 | .if_ _ a _ b none => (2, [105, 102]) :: (5, [40]) :: (lexE ts a ++ ((5, [41]) :: (5, [123]) :: (lexSs ts b ++ [(5, [125])])))
 | .if_ _ a _ b (some (_, c)) => (2, [105, 102]) :: (5, [40]) :: (lexE ts a ++ ((5, [41]) :: (5, [123]) :: (lexSs ts b ++ ((5, [125]) :: (2, [101, 108, 115, 101]) :: (5, [123]) :: (lexSs ts c ++ [(5, [125])])))))
 | .while_ _ a _ b => (2, [119, 104, 105, 108, 101]) :: (5, [40]) :: (lexE ts a ++ ((5, [41]) :: (5, [123]) :: (lexSs ts b ++ [(5, [125])])))
end
structure FoB (r : List Lm) : Prop where
 a : isL r [40] = false
 b : isL r [46] = false
 c : isL r [91] = false
 d : isL r [97, 115] = false
 f : Fol r
structure Fo2 (r : List Lm) : Prop extends FoB r where
 e : isL r [42] = false
structure Fo1 (r : List Lm) : Prop extends Fo2 r where
 g : isL r [43] = false
 h : isL r [45] = false
structure FoE (r : List Lm) : Prop extends Fo1 r where
 i : isL r [61, 61] = false
 j : isL r [60] = false
theorem FoE.sign {x : List UInt8} {r : List Lm} (h : x ∉ [[40], [46], [91], [97, 115], [124], [61, 62], [42], [43], [45], [61, 61], [60]]) : FoE ((5, x) :: r) := by
 simp only [List.mem_cons, List.not_mem_nil, or_false, not_or] at h
 obtain ⟨h1, h2, h3, h4, h5, h6, h7, h8, h9, h10, h11⟩ := h
 exact ⟨⟨⟨⟨by simp [isL, h1], by simp [isL, h2], by simp [isL, h3], by simp [isL, h4], ⟨by simp [isL, h5], by simp [isL, h6]⟩⟩, by simp [isL, h7]⟩, by simp [isL, h8], by simp [isL, h9]⟩, by simp [isL, h10], by simp [isL, h11]⟩
section
variable (t2 : List Tk)
def one2 (r2 : Nat) : M Nat := oneM t2 (typ t2 r2) (lv t2 r2).E (lv t2 r2).O (lv t2 r2).S
def C4 (r2 : Nat) (ls : List Lm) (s : St) (n : Nat) (s' : St) : Prop := ∀ t rest, D t2 t.pos (ls ++ rest) → Fol rest → Eqs s t → ∃ t' f, one2 t2 r2 t = behind t2 (typ t2 r2) (lv t2 r2).E (f + 1) n t' ∧ t'.pos = t.pos + ls.length ∧ Eqs s' t' ∧ t2.length ≤ t'.pos + f
def C3 (r2 : Nat) (ls : List Lm) (s : St) (n : Nat) (s' : St) : Prop := Ac t2 (one2 t2 r2) FoB ls s n s'
def C2 (r2 : Nat) (ls : List Lm) (s : St) (n : Nat) (s' : St) : Prop := ∀ t rest, D t2 t.pos (ls ++ rest) → FoB rest → Eqs s t → ∃ t' f, products t2 (one2 t2 r2) t = leftLoop t2 (one2 t2 r2) [[42]] (f + 1) n t' ∧ t'.pos = t.pos + ls.length ∧ Eqs s' t' ∧ t2.length ≤ t'.pos + f
def C1 (r2 : Nat) (ls : List Lm) (s : St) (n : Nat) (s' : St) : Prop := ∀ t rest, D t2 t.pos (ls ++ rest) → Fo2 rest → Eqs s t → ∃ t' f, sums t2 (one2 t2 r2) t = leftLoop t2 (products t2 (one2 t2 r2)) [[43], [45]] (f + 1) n t' ∧ t'.pos = t.pos + ls.length ∧ Eqs s' t' ∧ t2.length ≤ t'.pos + f
def C0 (r2 : Nat) (ls : List Lm) (s : St) (n : Nat) (s' : St) : Prop := Ac t2 (exprM t2 (one2 t2 r2)) FoE ls s n s'
def Ck (k r2 : Nat) (ls : List Lm) (s : St) (n : Nat) (s' : St) : Prop := match k with
 | 0 => C0 t2 r2 ls s n s'
 | 1 => C1 t2 r2 ls s n s'
 | 2 => C2 t2 r2 ls s n s'
 | 3 => C3 t2 r2 ls s n s'
 | _ => C4 t2 r2 ls s n s'
end
section
variable {t2 : List Tk} {r2 : Nat} {ls : List Lm} {s s' : St} {n : Nat}
theorem C4.c3 (h : C4 t2 r2 ls s n s') : C3 t2 r2 ls s n s' := fun t rest hd hf he => by
 obtain ⟨t', f, h1, h2, h3, h4⟩ := h t rest hd hf.f he
 refine ⟨t', ?_, h2, h3⟩
 have d := hd.add.pos h2
 rw [h1, behind]
 show bnd (take t2 [40]) _ t' = _
 rw [bnd_ok (go_pass d hf.a)]
 simp only [Bool.false_eq_true, if_false]
 rw [bnd_ok (go_pass d hf.b)]
 simp only [Bool.false_eq_true, if_false]
 rw [bnd_ok (go_pass d hf.c)]
 simp only [Bool.false_eq_true, if_false]
 rw [bnd_ok (go_pass d hf.d)]
 rfl
theorem C3.c2 (h : C3 t2 r2 ls s n s') : C2 t2 r2 ls s n s' := fun t rest hd hf he => by
 obtain ⟨t', h1, h2, h3⟩ := h t rest hd hf he
 refine ⟨t', t2.length, ?_, h2, h3, by omega⟩
 unfold products left
 rw [bnd_ok h1]
theorem left_end {one : M Nat} {signs : List (List UInt8)} {f : Nat} {t : St} {rest : List Lm} (hd : D t2 t.pos rest) (h : ∀ x ∈ signs, isL rest x = false) : leftLoop t2 one signs (f + 1) n t = .ok (n, t) := by
 have hx : (signs.any fun x => Ty.is t2 x t.pos) = false := by
   rw [List.any_eq_false]
   intro x hx
   rw [hd.is, h x hx]; simp
 show (if (signs.any fun x => Ty.is t2 x t.pos) = true then _ else ret n : M Nat) t = _
 rw [hx]
 rfl
theorem C2.prod (h : C2 t2 r2 ls s n s') : Ac t2 (products t2 (one2 t2 r2)) Fo2 ls s n s' := fun t rest hd hf he => by
 obtain ⟨t', f, h1, h2, h3, h4⟩ := h t rest hd hf.toFoB he
 refine ⟨t', ?_, h2, h3⟩
 rw [h1, left_end (hd.add.pos h2) (by simpa using hf.e)]
theorem C2.c1 (h : C2 t2 r2 ls s n s') : C1 t2 r2 ls s n s' := fun t rest hd hf he => by
 obtain ⟨t', h1, h2, h3⟩ := h.prod t rest hd hf he
 refine ⟨t', t2.length, ?_, h2, h3, by omega⟩
 unfold sums left
 rw [bnd_ok h1]
theorem C1.sum (h : C1 t2 r2 ls s n s') : Ac t2 (sums t2 (one2 t2 r2)) Fo1 ls s n s' := fun t rest hd hf he => by
 obtain ⟨t', f, h1, h2, h3, h4⟩ := h t rest hd hf.toFo2 he
 refine ⟨t', ?_, h2, h3⟩
 rw [h1, left_end (hd.add.pos h2) (by
   intro x hx
   simp only [List.mem_cons, List.not_mem_nil, or_false] at hx
   rcases hx with rfl | rfl
   · exact hf.g
   · exact hf.h)]
theorem C1.c0 (h : C1 t2 r2 ls s n s') : C0 t2 r2 ls s n s' := fun t rest hd hf he => by
 obtain ⟨t', h1, h2, h3⟩ := h.sum t rest hd hf.toFo1 he
 refine ⟨t', ?_, h2, h3⟩
 have d := hd.add.pos h2
 unfold exprM
 rw [bnd_ok h1, bnd_ok (go_pass d hf.i)]
 simp only [Bool.false_eq_true, if_false]
 rw [bnd_ok (go_pass d hf.j)]
 rfl
theorem Ck.down : ∀ {k : Nat}, Ck t2 k r2 ls s n s' → ∀ j, j ≤ k → Ck t2 j r2 ls s n s'
 | 0, h, j, hj => by obtain rfl : j = 0 := by omega
                     exact h
 | 1, h, j, hj => by
   rcases (show j = 0 ∨ j = 1 by omega) with rfl | rfl
   · exact C1.c0 h
   · exact h
 | 2, h, j, hj => by
   rcases (show j ≤ 1 ∨ j = 2 by omega) with h1 | rfl
   · exact Ck.down (k := 1) (C2.c1 h) j h1
   · exact h
 | 3, h, j, hj => by
   rcases (show j ≤ 2 ∨ j = 3 by omega) with h1 | rfl
   · exact Ck.down (k := 2) (C3.c2 h) j h1
   · exact h
 | k + 4, h, j, hj => by
   rcases (show j ≤ 3 ∨ 4 ≤ j by omega) with h1 | h1
   · exact Ck.down (k := 3) (C4.c3 h) j h1
   · obtain ⟨j, rfl⟩ : ∃ g, j = g + 4 := ⟨j - 4, by omega⟩
     exact h
def GE (t2 : List Tk) (r lv : Nat) (ls : List Lm) (s : St) (n : Nat) (s' : St) : Prop := ∀ r2, r ≤ r2 → Ck t2 lv r2 ls s n s'
theorem GE.up {r r' lv : Nat} (h : GE t2 r lv ls s n s') (hr : r ≤ r') : GE t2 r' lv ls s n s' := fun r2 h2 => h r2 (by omega)
theorem GE.e0 {r lv : Nat} (h : GE t2 r lv ls s n s') (r2 : Nat) (hr : r ≤ r2) : C0 t2 r2 ls s n s' := Ck.down (h r2 hr) 0 (Nat.zero_le _)
theorem no_prefix {t : St} {l : Lm} {r : List Lm} (hd : D t2 t.pos (l :: r)) (h : prefixes.any (fun x => isL (l :: r) x) = false) : (prefixes.any fun x => Ty.is t2 x t.pos) = false := by
 rw [← h]; congr 1; funext x; exact hd.is x
theorem simple_sign {T E S : M Nat} {t : St} {l : Lm} {r : List Lm} (hd : D t2 t.pos (l :: r)) (h : l.1 = 5 ∨ l.1 = 2) : simpleM t2 T E S t =
   bnd (take t2 [116, 114, 117, 101]) (fun b => if b then addNode { ndOf 3 (cur t2 t.pos).pos with n := 1 } else
   bnd (take t2 [102, 97, 108, 115, 101]) fun b => if b then addNode (ndOf 3 (cur t2 t.pos).pos) else
   bnd (take t2 [110, 117, 108, 108]) fun b => if b then addNode (ndOf 4 (cur t2 t.pos).pos) else
   bnd (take t2 [102, 110]) fun b => if b then functionM t2 T S (cur t2 t.pos).pos else
   bnd (take t2 [91]) fun b => if b then bnd (list t2 [93] (fun _ => E) (t2.length + 1) []) fun l => addNode { ndOf 11 (cur t2 t.pos).pos with list := l } else
   bnd (take t2 [123]) fun b => if b then bnd (list t2 [125] (fun l => partM t2 E (l.map Prod.fst)) (t2.length + 1) []) fun l => addNode { ndOf 10 (cur t2 t.pos).pos with list := l.map Prod.snd } else
   bnd (need t2 [40]) fun _ => bnd E fun a => bnd (need t2 [41]) fun _ => ret a) t := by
 have hk : (cur t2 t.pos).kind = l.1 := congrArg Prod.fst hd.cur
 show (if (cur t2 t.pos).kind = 3 then _ else if (cur t2 t.pos).kind = 4 then _ else if (cur t2 t.pos).kind = 1 then _ else _ : M Nat) t = _
 rw [if_neg (by omega), if_neg (by omega), if_neg (by omega)]
theorem one_simple {t : St} {l : Lm} {r : List Lm} (hd : D t2 t.pos (l :: r)) (h : prefixes.any (fun x => isL (l :: r) x) = false) {t' : St} (hs : simpleM t2 (typ t2 r2) (lv t2 r2).E (lv t2 r2).S t = .ok (n, t')) : one2 t2 r2 t = behind t2 (typ t2 r2) (lv t2 r2).E (t2.length + 1) n t' := by
 show (if (prefixes.any fun x => Ty.is t2 x t.pos) = true then _ else bnd (simpleM t2 (typ t2 r2) (lv t2 r2).E (lv t2 r2).S) _ : M Nat) t = _
 rw [no_prefix hd h, if_neg (by simp), bnd_ok hs]
theorem c4_simple (h : ∀ t rest, D t2 t.pos (ls ++ rest) → Eqs s t → ∃ l r t', ls ++ rest = l :: r ∧ prefixes.any (fun x => isL (l :: r) x) = false ∧ simpleM t2 (typ t2 r2) (lv t2 r2).E (lv t2 r2).S t = .ok (n, t') ∧ t'.pos = t.pos + ls.length ∧ Eqs s' t') : C4 t2 r2 ls s n s' := fun t rest hd _ he => by
 obtain ⟨l, r, t', h1, h2, h3, h4, h5⟩ := h t rest hd he
 rw [h1] at hd
 exact ⟨t', t2.length, one_simple hd h2 h3, h4, h5, by omega⟩
theorem add_eqs {s s1 t : St} {a b : Nd} {n : Nat} (h : addNode a s = .ok (n, s1)) (he : Eqs s t) (hab : er b = er a) : ∃ t', addNode b t = .ok (n, t') ∧ t'.pos = t.pos ∧ Eqs s1 t' := by
 cases h
 have hl : t.ns.length = s.ns.length := by have := congrArg List.length he.ns; simpa using this
 refine ⟨{ t with ns := t.ns ++ [b] }, ?_, rfl, he.ts, by simp [he.ns, hab]⟩
 unfold addNode; rw [hl]
theorem c4_paren {r lv : Nat} (h : GE t2 r lv ls s n s') (hr : r + 1 ≤ r2) : C4 t2 r2 ((5, [40]) :: (ls ++ [(5, [41])])) s n s' := by
 obtain ⟨r2, rfl⟩ : ∃ g, r2 = g + 1 := ⟨r2 - 1, by omega⟩
 refine c4_simple fun t rest hd he => ?_
 simp only [List.cons_append, List.append_assoc, List.nil_append] at hd ⊢
 obtain ⟨t1, a1, a2, a3⟩ := h.e0 r2 (by omega) { t with pos := t.pos + 1 } _ hd.next (FoE.sign (by decide)) (he.atR _)
 have d1 := hd.next.add.pos a2
 refine ⟨_, _, { t1 with pos := t1.pos + 1 }, rfl, rfl, ?_, ?_, a3.atR _⟩
 · rw [simple_sign hd (.inl rfl), bnd_ok (go_pass hd rfl)]
   simp only [Bool.false_eq_true, if_false]
   rw [bnd_ok (go_pass hd rfl)]
   simp only [Bool.false_eq_true, if_false]
   rw [bnd_ok (go_pass hd rfl)]
   simp only [Bool.false_eq_true, if_false]
   rw [bnd_ok (go_pass hd rfl)]
   simp only [Bool.false_eq_true, if_false]
   rw [bnd_ok (go_pass hd rfl)]
   simp only [Bool.false_eq_true, if_false]
   rw [bnd_ok (go_pass hd rfl)]
   simp only [Bool.false_eq_true, if_false]
   rw [bnd_ok (go_need hd rfl), bnd_ok (show (Ty.lv t2 (r2 + 1)).E { t with pos := t.pos + 1 } = .ok (n, t1) from a1), bnd_ok (go_need d1 rfl)]
   rfl
 · simp only [List.length_cons, List.length_append, List.length_nil] at a2 ⊢; omega
end
def shuts : List (List UInt8) := [[101, 108, 115, 101], [125], [41], [93], [44]]
def shutsE : List (List UInt8) := shuts ++ [[108, 101, 116], [112, 114, 105, 110, 116], [114, 101, 116, 117, 114, 110], [105, 102], [119, 104, 105, 108, 101]]
def HdOf (S : List (List UInt8)) (ls : List Lm) : Prop := ∃ l r, ls = l :: r ∧ ∀ x ∈ S, isL [l] x = false
abbrev NoHd (ls : List Lm) : Prop := HdOf shutsE ls
theorem HdOf.at {S : List (List UInt8)} {ls : List Lm} (h : HdOf S ls) (rest : List Lm) {x : List UInt8} (hx : x ∈ S) : isL (ls ++ rest) x = false := by
 obtain ⟨l, r, rfl, h⟩ := h
 exact h x hx
theorem HdOf.weak {ls : List Lm} (h : HdOf shutsE ls) : HdOf shuts ls := by
 obtain ⟨l, r, e, h⟩ := h
 exact ⟨l, r, e, fun x hx => h x (List.mem_append_left _ hx)⟩
theorem HdOf.no {ls : List Lm} (h : HdOf shutsE ls) (rest : List Lm) {x : List UInt8} (hx : x ∈ shuts) : isL (ls ++ rest) x = false := h.weak.at rest hx
theorem HdOf.app {S : List (List UInt8)} {ls : List Lm} (h : HdOf S ls) (k : List Lm) : HdOf S (ls ++ k) := by
 obtain ⟨l, r, rfl, h⟩ := h
 exact ⟨l, r ++ k, rfl, h⟩
theorem HdOf.len {S : List (List UInt8)} {ls : List Lm} (h : HdOf S ls) : 1 ≤ ls.length := by obtain ⟨l, r, rfl, h⟩ := h; simp
def Op (t2 : List Tk) (k r : Nat) (s : St) (n : Nat) (s' : St) : Prop := ∃ e ls, layE e s.ns = (s'.ns, n) ∧ (∀ tsF, Ext s'.ts tsF → lexE tsF e = ls) ∧ NoHd ls ∧ GE t2 r (lvl e) ls s n s' ∧
 ((k ≤ lvl e ∧ s.pos + ls.length ≤ s'.pos) ∨ ∃ r', r = r' + 1 ∧ GE t2 r' (lvl e) ls s n s' ∧ s.pos + ls.length + 2 ≤ s'.pos)
section
variable {t2 : List Tk} {k r : Nat} {s s' : St} {n : Nat}
theorem Op.down (h : Op t2 k r s n s') {j : Nat} (hj : j ≤ k) : Op t2 j r s n s' := by
 obtain ⟨e, ls, h1, h2, hh, h3, h4⟩ := h
 refine ⟨e, ls, h1, h2, hh, h3, ?_⟩
 rcases h4 with ⟨h4, h5⟩ | h4
 · exact .inl ⟨by omega, h5⟩
 · exact .inr h4
theorem Op.part (h : Op t2 k r s n s') : ∃ e ls, layE e s.ns = (s'.ns, n) ∧ (∀ tsF, Ext s'.ts tsF → parL (decide (lvl e < k)) (lexE tsF e) = ls) ∧ NoHd ls ∧ s.pos + ls.length ≤ s'.pos ∧ ∀ r2, r ≤ r2 → Ck t2 k r2 ls s n s' := by
 obtain ⟨e, ls, h1, h2, hh, h3, h4⟩ := h
 by_cases hk : lvl e < k
 · rcases h4 with ⟨h4, _⟩ | ⟨r', rfl, h5, h6⟩
   · omega
   · refine ⟨e, (5, [40]) :: (ls ++ [(5, [41])]), h1, fun tsF hx => ?_, ⟨_, _, rfl, by decide⟩, ?_, fun r2 hr => Ck.down (k := 4 + k) (by rw [Nat.add_comm]; exact c4_paren h5 hr) k (by omega)⟩
     · rw [decide_eq_true hk, h2 tsF hx]; rfl
     · simp only [List.length_cons, List.length_append, List.length_nil]; omega
 · refine ⟨e, ls, h1, fun tsF hx => ?_, hh, by rcases h4 with ⟨_, h5⟩ | ⟨_, _, _, h5⟩ <;> omega, fun r2 hr => Ck.down (h3 r2 hr) k (by omega)⟩
   rw [decide_eq_false hk, h2 tsF hx]; rfl
theorem Op.whole (h : Op t2 k r s n s') : ∃ e ls, layE e s.ns = (s'.ns, n) ∧ (∀ tsF, Ext s'.ts tsF → lexE tsF e = ls) ∧ NoHd ls ∧ s.pos + ls.length ≤ s'.pos ∧ GE t2 r (lvl e) ls s n s' := by
 obtain ⟨e, ls, h1, h2, hh, h3, h4⟩ := h
 exact ⟨e, ls, h1, h2, hh, by rcases h4 with ⟨_, h5⟩ | ⟨_, _, _, h5⟩ <;> omega, h3⟩
end
end Ty
end
section
namespace Ty
open Tok (Tk)
section
variable {toks t2 : List Tk}
def CL (t2 : List Tk) (ONE : M Nat) (signs : List (List UInt8)) (Fo : List Lm → Prop) (ls : List Lm) (s : St) (n : Nat) (s' : St) : Prop :=
 ∀ t rest, D t2 t.pos (ls ++ rest) → Fo rest → Eqs s t → ∃ t' f, left t2 ONE signs t = leftLoop t2 ONE signs (f + 1) n t' ∧ t'.pos = t.pos + ls.length ∧ Eqs s' t' ∧ t2.length ≤ t'.pos + f
theorem ndAt_er {s t : St} (he : Eqs s t) (a : Nat) : er (ndAt t a) = er (ndAt s a) := by
 have h1 : t.ns[a]?.map er = s.ns[a]?.map er := by rw [← List.getElem?_map, ← List.getElem?_map, he.ns]
 unfold ndAt
 cases h2 : t.ns[a]? with
 | none => rw [h2] at h1; cases h3 : s.ns[a]? with
   | none => rfl
   | some x => rw [h3] at h1; cases h1
 | some y => rw [h2] at h1; cases h3 : s.ns[a]? with
   | none => rw [h3] at h1; cases h1
   | some x => rw [h3] at h1; simpa using h1
theorem two_eqs {x y : ByteArray} (hxy : x = y) {a b m : Nat} {s s1 t : St} (h : two x a b s = .ok (m, s1)) (he : Eqs s t) : ∃ t', two y a b t = .ok (m, t') ∧ t'.pos = t.pos ∧ Eqs s1 t' := by
 subst hxy
 exact add_eqs (a := { ndOf 12 (ndAt s a).pos with text := x, a := a, b := b }) (b := { ndOf 12 (ndAt t a).pos with text := x, a := a, b := b }) h he rfl
theorem text_of {t : St} {k : Nat} {x : ByteArray} {r : List Lm} (hd : D t2 t.pos ((k, x.data.toList) :: r)) : (cur t2 t.pos).text = x := by
 have h1 := congrArg Prod.snd hd.cur
 exact ByteArray.ext (Array.ext' h1)
theorem cl_two {ONE : M Nat} {signs : List (List UInt8)} {Fo : List Lm → Prop} {lsA lsB : List Lm} {x : ByteArray} {s s1 s1' s2 s3 : St} {n b m : Nat} (h1 : CL t2 ONE signs Fo lsA s n s1) (h2 : Ac t2 ONE Fo lsB s1' b s2) (e1 : s1'.ts = s1.ts) (e2 : s1'.ns = s1.ns)
   (hx : x.data.toList ∈ signs) (hf : ∀ r, Fo ((5, x.data.toList) :: r)) (h3 : two x n b s2 = .ok (m, s3)) : CL t2 ONE signs Fo (lsA ++ (5, x.data.toList) :: lsB) s m s3 := fun t rest hd hfo he => by
 simp only [List.append_assoc, List.cons_append] at hd
 obtain ⟨t1, f, a1, a2, a3, a4⟩ := h1 t _ hd (hf _) he
 have d1 := hd.add.pos a2
 have hlt := d1.lt
 obtain ⟨t2', b1, b2, b3⟩ := h2 { t1 with pos := t1.pos + 1 } rest d1.next hfo ((a3.of e1 e2).atR _)
 obtain ⟨t3, c1, c2, c3⟩ := two_eqs (text_of (t := t1) d1).symm h3 b3
 obtain ⟨f, rfl⟩ : ∃ g, f = g + 1 := ⟨f - 1, by omega⟩
 refine ⟨t3, f, ?_, ?_, c3, ?_⟩
 · rw [a1, leftLoop]
   have hany : (signs.any fun x => Ty.is t2 x t1.pos) = true := List.any_eq_true.2 ⟨_, hx, by rw [d1.is]; simp [isL]⟩
   show (if (signs.any fun x => Ty.is t2 x t1.pos) = true then bnd step fun _ => bnd ONE fun b => bnd (two (cur t2 t1.pos).text n b) fun m => leftLoop t2 ONE signs (f + 1) m else ret n : M Nat) t1 = _
   rw [if_pos hany, bnd_ok (show step t1 = .ok ((), { t1 with pos := t1.pos + 1 }) from rfl), bnd_ok b1, bnd_ok c1]
 · dsimp only at b2
   simp only [List.length_append, List.length_cons]; omega
 · dsimp only at b2; omega
theorem inv_of {s s' : St} (h : Inv s) (h1 : s'.ts = s.ts) (h2 : s'.ns = s.ns) : Inv s' := ⟨by rw [h1]; exact h.wf, by rw [h1]; exact h.nm, by rw [h1, h2]; exact h.ns⟩
def SrO (t2 : List Tk) (k r : Nat) (m : M Nat) : Prop := ∀ s n s', Inv s → m s = .ok (n, s') → Inv s' ∧ Ext s.ts s'.ts ∧ Op t2 k r s n s'
theorem any_is {signs : List (List UInt8)} {p : Nat} (h : signs.any (fun x => Ty.is toks x p) = true) : (cur toks p).text.data.toList ∈ signs := any_text h
theorem two_inv {x : ByteArray} {a b m : Nat} {s s' : St} (h : two x a b s = .ok (m, s')) : s'.ts = s.ts ∧ s'.pos = s.pos ∧ m = s.ns.length ∧ s'.ns = s.ns ++ [{ ndOf 12 (ndAt s a).pos with text := x, a := a, b := b }] := by cases h; exact ⟨rfl, rfl, rfl, rfl⟩
theorem loop_op {k r : Nat} (hk : 1 ≤ k) {ONE : M Nat} {signs : List (List UInt8)} (hk4 : k ≤ 2) (H : SrO t2 (k + 1) r ONE) (hIK : ∀ t0, IK t0 ONE fun _ _ => True) (hs : ∀ x : ByteArray, x.data.toList ∈ signs → signLv x = k)
   (hS : signs ⊆ signsTwo) (hT : ∀ t ∈ toks, TkOk t) {ONE2 : Nat → M Nat} {Fo : List Lm → Prop} (hC : ∀ r2 ls s n s', Ck t2 (k + 1) r2 ls s n s' → Ac t2 (ONE2 r2) Fo ls s n s') (hL : ∀ r2 ls s n s', Ck t2 k r2 ls s n s' ↔ CL t2 (ONE2 r2) signs Fo ls s n s')
   (hF : ∀ (x : List UInt8) r, x ∈ signs → Fo ((5, x) :: r)) : ∀ f n s0 s, Inv s → Ext s0.ts s.ts → Op t2 k r s0 n s → ∀ m s', leftLoop toks ONE signs f n s = .ok (m, s') → Inv s' ∧ Ext s0.ts s'.ts ∧ Op t2 k r s0 m s'
 | 0, _, _, _, _, _, _, _, _, h => by cases h
 | f + 1, n, s0, s, hi, hx, ho, m, s', h => by
   have h : (if (signs.any fun x => Ty.is toks x s.pos) = true then bnd step fun _ => bnd ONE fun b => bnd (two (cur toks s.pos).text n b) fun m => leftLoop toks ONE signs f m else ret n : M Nat) s = .ok (m, s') := h
   split at h
   · rename_i hsg
     obtain ⟨u, s1, e1, h⟩ := bnd_inv h
     obtain rfl : s1 = { s with pos := s.pos + 1 } := by cases e1; rfl
     obtain ⟨b, s2, e2, h⟩ := bnd_inv h
     obtain ⟨q, s3, e3, h⟩ := bnd_inv h
     obtain ⟨i2, x2, o2⟩ := H { s with pos := s.pos + 1 } b s2 (inv_of hi rfl rfl) e2
     have hmem := any_is hsg
     have hlv := hs _ hmem
     obtain ⟨w1, w2, w3, w4⟩ := two_inv e3
     have i3 : Inv s3 := ((IK.two (t0 := []) (hS hmem) (cur_tk hT _).size) s2 q s3 ⟨_, rfl⟩ i2 e3).1
     obtain ⟨ea, la, a1, a2, a3, a4, a5⟩ := ho.part
     obtain ⟨eb, lb, b1, b2, b3, b4, b5⟩ := o2.part
     have hE : layE (.two (ndAt s2 n).pos (cur toks s.pos).text ea eb) s0.ns = (s3.ns, q) := by
       rw [layE, a1]
       dsimp only at b1 ⊢
       rw [b1, w4, w3]
     refine loop_op hk hk4 H hIK hs hS hT hC hL hF f q s0 s3 i3 (by rw [w1]; exact hx.trans x2) ⟨_, la ++ (5, (cur toks s.pos).text.data.toList) :: lb, hE, fun tsF hxt => ?_, a3.app _, ?_, ?_⟩ m s' h
     · rw [w1] at hxt
       rw [lexE, hlv, show max k 1 = k by omega, a2 tsF (x2.trans hxt), b2 tsF hxt]
     · rw [lvl, hlv]
       intro r2 hr
       rw [hL]
       exact cl_two ((hL _ _ _ _ _).1 (a5 r2 hr)) (hC _ _ _ _ _ (b5 r2 hr)) rfl rfl hmem (fun r => hF _ _ hmem) e3
     · left
       rw [lvl, hlv]
       refine ⟨Nat.le_refl _, ?_⟩
       dsimp only at b4
       simp only [List.length_append, List.length_cons]
       omega
   · cases h
     exact ⟨hi, hx, ho⟩
theorem left_op {k r : Nat} (hk : 1 ≤ k) {ONE : M Nat} {signs : List (List UInt8)} (hk4 : k ≤ 2) (H : SrO t2 (k + 1) r ONE) (hIK : ∀ t0, IK t0 ONE fun _ _ => True) (hs : ∀ x : ByteArray, x.data.toList ∈ signs → signLv x = k)
   (hS : signs ⊆ signsTwo) (hT : ∀ t ∈ toks, TkOk t) {ONE2 : Nat → M Nat} {Fo : List Lm → Prop} (hC : ∀ r2 ls s n s', Ck t2 (k + 1) r2 ls s n s' → Ac t2 (ONE2 r2) Fo ls s n s') (hL : ∀ r2 ls s n s', Ck t2 k r2 ls s n s' ↔ CL t2 (ONE2 r2) signs Fo ls s n s')
   (hF : ∀ (x : List UInt8) r, x ∈ signs → Fo ((5, x) :: r)) : SrO t2 k r (left toks ONE signs) := fun s n s' hi h => by
 obtain ⟨a, s1, e1, h⟩ := bnd_inv h
 obtain ⟨i1, x1, o1⟩ := H _ _ _ hi e1
 exact loop_op hk hk4 H hIK hs hS hT hC hL hF _ _ s s1 i1 x1 (o1.down (by omega)) _ _ h
theorem sign_lv {x : ByteArray} {y : List UInt8} (h : x.data.toList = y) : signLv x = if y = [42] then 2 else if y = [43] ∨ y = [45] then 1 else 0 := by unfold signLv; rw [h]
theorem products_op {r : Nat} (hT : ∀ t ∈ toks, TkOk t) {ONE : M Nat} (H : SrO t2 3 r ONE) (hIK : ∀ t0, IK t0 ONE fun _ _ => True) : SrO t2 2 r (products toks ONE) :=
 left_op (k := 2) (by omega) (by omega) H hIK (fun x hx => by simp at hx; rw [sign_lv hx]; rfl) (by simp [signsTwo]) hT (ONE2 := one2 t2) (Fo := FoB) (fun _ _ _ _ _ h => h) (fun _ _ _ _ _ => Iff.rfl) (fun x r hx => by
   simp at hx; subst hx; exact ⟨rfl, rfl, rfl, rfl, rfl, rfl⟩)
theorem sums_op {r : Nat} (hT : ∀ t ∈ toks, TkOk t) {ONE : M Nat} (H : SrO t2 3 r ONE) (hIK : ∀ t0, IK t0 ONE fun _ _ => True) : SrO t2 1 r (sums toks ONE) :=
 left_op (k := 1) (by omega) (by omega) (products_op hT H hIK) (left_ik hT (by simp [signsTwo]) hIK) (fun x hx => by
   simp at hx
   rcases hx with hx | hx <;> (rw [sign_lv hx]; rfl)) (by simp [signsTwo]) hT (ONE2 := fun r2 => products t2 (one2 t2 r2)) (Fo := Fo2) (fun _ _ _ _ _ h => C2.prod h) (fun _ _ _ _ _ => Iff.rfl) (fun x r hx => by
   simp at hx
   rcases hx with rfl | rfl <;> exact ⟨⟨rfl, rfl, rfl, rfl, rfl, rfl⟩, rfl⟩)
theorem cmp_op {r : Nat} (x : ByteArray) (hx : signLv x = 0) {s s1 s1' s2 s3 : St} {n b m : Nat} (ho : Op t2 1 r s n s1) (hb : Op t2 1 r s1' b s2) (e1 : s1'.ts = s1.ts) (e2 : s1'.ns = s1.ns) (ep : s1'.pos = s1.pos + 1) (x2 : Ext s1.ts s2.ts) (h3 : two x n b s2 = .ok (m, s3))
   (hc : x.data.toList = [61, 61] ∨ x.data.toList = [60]) : Op t2 0 r s m s3 := by
 obtain ⟨ea, la, a1, a2, a3, a4, a5⟩ := ho.part
 obtain ⟨eb, lb, b1, b2, b3, b4, b5⟩ := hb.part
 obtain ⟨w1, w2, w3, w4⟩ := two_inv h3
 refine ⟨.two (ndAt s2 n).pos x ea eb, la ++ (5, x.data.toList) :: lb, ?_, fun tsF hxt => ?_, a3.app _, ?_, .inl ⟨Nat.zero_le _, ?_⟩⟩
 · rw [layE, a1]
   rw [e2] at b1
   dsimp only
   rw [b1, w4, w3]
 · rw [w1] at hxt
   rw [lexE, hx, show max 0 1 = 1 from rfl, a2 tsF (x2.trans hxt), b2 tsF hxt]
 · rw [lvl, hx]
   intro r2 hr t rest hd hf he
   simp only [List.append_assoc, List.cons_append] at hd
   have f1 : Fo1 ((5, x.data.toList) :: (lb ++ rest)) := by rcases hc with hc | hc <;> (rw [hc]; exact ⟨⟨⟨rfl, rfl, rfl, rfl, rfl, rfl⟩, rfl⟩, rfl, rfl⟩)
   obtain ⟨t1, c1, c2, c3⟩ := (C1.sum (a5 r2 hr)) t _ hd f1 he
   have d1 := hd.add.pos c2
   obtain ⟨t3, g1, g2, g3⟩ := (C1.sum (b5 r2 hr)) { t1 with pos := t1.pos + 1 } rest d1.next hf.toFo1 ((c3.of e1 e2).atR _)
   refine (?_ : ∀ y : ByteArray, x = y → ∃ t', exprM t2 (one2 t2 r2) t = .ok (m, t') ∧ t'.pos = t.pos + (la ++ (5, x.data.toList) :: lb).length ∧ Eqs s3 t') x rfl
   intro y _
   rcases hc with hc | hc
   · have hy : x = ⟨#[61, 61]⟩ := ByteArray.ext (Array.ext' hc)
     obtain ⟨t4, k1, k2, k3⟩ := two_eqs hy h3 g3
     refine ⟨t4, ?_, ?_, k3⟩
     · unfold exprM
       rw [bnd_ok c1, bnd_ok (go_take d1 (by rw [hc]; rfl)), if_pos rfl, bnd_ok g1]
       exact k1
     · dsimp only at g2
       simp only [List.length_append, List.length_cons]; omega
   · have hy : x = ⟨#[60]⟩ := ByteArray.ext (Array.ext' hc)
     obtain ⟨t4, k1, k2, k3⟩ := two_eqs hy h3 g3
     refine ⟨t4, ?_, ?_, k3⟩
     · unfold exprM
       rw [bnd_ok c1, bnd_ok (go_pass d1 (by rw [hc]; rfl)), if_neg (by simp), bnd_ok (go_take d1 (by rw [hc]; rfl)), if_pos rfl, bnd_ok g1]
       exact k1
     · dsimp only at g2
       simp only [List.length_append, List.length_cons]; omega
 · simp only [List.length_append, List.length_cons]; omega
theorem expr_op {r : Nat} (hT : ∀ t ∈ toks, TkOk t) {ONE : M Nat} (H : SrO t2 3 r ONE) (hIK : ∀ t0, IK t0 ONE fun _ _ => True) : SrO t2 0 r (exprM toks ONE) := fun s n s' hi h => by
 have hall := (exprM_ik hT hIK s.ts) s n s' (Ext.refl _) hi h
 refine ⟨hall.1, hall.2.1, ?_⟩
 have HS := sums_op hT H hIK
 obtain ⟨a, s1, e1, h⟩ := bnd_inv h
 obtain ⟨i1, x1, o1⟩ := HS _ _ _ hi e1
 obtain ⟨b, s2, e2, h⟩ := bnd_inv h
 obtain ⟨hb, q1, q2, q3⟩ := take_inv e2
 cases hbb : Ty.is toks [61, 61] s1.pos with
 | true =>
   rw [hbb] at hb q3
   subst hb
   rw [if_pos rfl] at q3
   obtain ⟨m, s3, e3, h⟩ := bnd_inv (show bnd (sums toks ONE) (fun m => two ⟨#[61, 61]⟩ a m) s2 = _ from h)
   obtain ⟨i3, x3, o3⟩ := HS _ _ _ (inv_of i1 q1 q2) e3
   exact cmp_op ⟨#[61, 61]⟩ rfl o1 o3 q1 q2 q3 (by rw [← q1]; exact x3) h (.inl rfl)
 | false =>
   rw [hbb] at hb q3
   subst hb
   simp only [Bool.false_eq_true, if_false] at q3
   obtain ⟨b, s3, e3, h⟩ := bnd_inv (show bnd (take toks [60]) _ s2 = _ from h)
   obtain ⟨hb, p1, p2, p3⟩ := take_inv e3
   cases hbc : Ty.is toks [60] s2.pos with
   | true =>
     rw [hbc] at hb p3
     subst hb
     rw [if_pos rfl] at p3
     obtain ⟨m, s4, e4, h⟩ := bnd_inv (show bnd (sums toks ONE) (fun m => two ⟨#[60]⟩ a m) s3 = _ from h)
     obtain ⟨i4, x4, o4⟩ := HS _ _ _ (inv_of i1 (p1.trans q1) (p2.trans q2)) e4
     exact cmp_op ⟨#[60]⟩ rfl o1 o4 (p1.trans q1) (p2.trans q2) (by omega) (by rw [← q1, ← p1]; exact x4) h (.inr rfl)
   | false =>
     rw [hbc] at hb p3
     subst hb
     simp only [Bool.false_eq_true, if_false] at p3
     have h : ret a s3 = .ok (n, s') := h
     obtain ⟨rfl, rfl⟩ : a = n ∧ s3 = s' := by cases h; exact ⟨rfl, rfl⟩
     obtain ⟨e, ls, h1, h2, hh, h3, h4⟩ := o1.down (Nat.zero_le 1)
     refine ⟨e, ls, by rw [p2, q2]; exact h1, by rw [p1, q1]; exact h2, hh, fun r2 hr => ?_, ?_⟩
     · have hc := h3 r2 hr
       have hre : ∀ k, Ck t2 k r2 ls s a s1 → Ck t2 k r2 ls s a s3 := by
         intro k hk
         have t3 : s3.ts = s1.ts := p1.trans q1
         have n3 : s3.ns = s1.ns := p2.trans q2
         match k, hk with
         | 0, hk => exact Ac.of hk rfl rfl t3 n3
         | 1, hk => exact fun t rest hd hf he => by obtain ⟨t', f, a1, a2, a3, a4⟩ := hk t rest hd hf he; exact ⟨t', f, a1, a2, a3.of t3 n3, a4⟩
         | 2, hk => exact fun t rest hd hf he => by obtain ⟨t', f, a1, a2, a3, a4⟩ := hk t rest hd hf he; exact ⟨t', f, a1, a2, a3.of t3 n3, a4⟩
         | 3, hk => exact Ac.of hk rfl rfl t3 n3
         | k + 4, hk => exact fun t rest hd hf he => by obtain ⟨t', f, a1, a2, a3, a4⟩ := hk t rest hd hf he; exact ⟨t', f, a1, a2, a3.of t3 n3, a4⟩
       exact hre _ hc
     · rcases h4 with ⟨k1, k2⟩ | ⟨r', k1, k2, k3⟩
       · exact .inl ⟨k1, by omega⟩
       · exact .inl ⟨Nat.zero_le _, by omega⟩
end
end Ty
end
end Go.Proofs.YtdlbhiaceheffabGreatDoor
