/- Plain: trees that are laid as nodes are those nodes' trees. -/
import Derived.Test.YtdlbhiaceheffabGreatDoorY03
set_option linter.all false
namespace Go.Proofs.YtdlbhiaceheffabGreatDoor
section
namespace Ty
theorem last_get (ns : List Nd) (nd : Nd) : (ns ++ [nd])[ns.length]? = some nd := by simp
theorem pre_add (ns : List Nd) (nd : Nd) : ns <+: ns ++ [nd] := List.prefix_append _ _
theorem layPs_den : ∀ (ps : List Par) (ns : List Nd), ns <+: (layPs ps ns).1 ∧ DenPs (layPs ps ns).1 ps (layPs ps ns).2
 | [], ns => ⟨List.prefix_rfl, rfl⟩
 | q :: ps, ns => by
   obtain ⟨h1, h2⟩ := layPs_den ps (ns ++ [{ ndOf 16 q.pos with text := q.text, ty := q.ty }])
   exact ⟨(pre_add _ _).trans h1, _, _, rfl, get_pre h1 (last_get _ _), h2⟩
mutual
theorem layE_den : ∀ (e : Ex) (ns : List Nd), ns <+: (layE e ns).1 ∧ DenE (layE e ns).1 e (layE e ns).2
 | .num _ _, ns => by rw [layE, DenE]; exact ⟨pre_add _ _, last_get _ _⟩
 | .text _ _, ns => by rw [layE, DenE]; exact ⟨pre_add _ _, last_get _ _⟩
 | .bool _ _, ns => by rw [layE, DenE]; exact ⟨pre_add _ _, last_get _ _⟩
 | .null _, ns => by rw [layE, DenE]; exact ⟨pre_add _ _, last_get _ _⟩
 | .var _ _, ns => by rw [layE, DenE]; exact ⟨pre_add _ _, last_get _ _⟩
 | .fn p ps ty bp body, ns => by
   obtain ⟨h1, h2⟩ := layPs_den ps ns
   obtain ⟨h3, h4⟩ := layB_den bp body (layPs ps ns).1
   rw [layE, DenE]
   exact ⟨(h1.trans h3).trans (pre_add _ _), _, _, last_get _ _, DenPs.mono (h3.trans (pre_add _ _)) _ _ h2, DenB.mono (pre_add _ _) _ _ _ h4⟩
 | .call p a l, ns => by
   obtain ⟨h1, h2⟩ := layE_den a ns
   obtain ⟨h3, h4⟩ := layEs_den l (layE a ns).1
   rw [layE, DenE]
   exact ⟨(h1.trans h3).trans (pre_add _ _), _, _, last_get _ _, DenE.mono (h3.trans (pre_add _ _)) _ _ h2, DenEs.mono (pre_add _ _) _ _ h4⟩
 | .get p a x, ns => by
   obtain ⟨h1, h2⟩ := layE_den a ns
   rw [layE, DenE]
   exact ⟨h1.trans (pre_add _ _), _, last_get _ _, DenE.mono (pre_add _ _) _ _ h2⟩
 | .at p a b, ns => by
   obtain ⟨h1, h2⟩ := layE_den a ns
   obtain ⟨h3, h4⟩ := layE_den b (layE a ns).1
   rw [layE, DenE]
   exact ⟨(h1.trans h3).trans (pre_add _ _), _, _, last_get _ _, DenE.mono (h3.trans (pre_add _ _)) _ _ h2, DenE.mono (pre_add _ _) _ _ h4⟩
 | .obj p l, ns => by
   obtain ⟨h3, h4⟩ := layOs_den l ns
   rw [layE, DenE]
   exact ⟨h3.trans (pre_add _ _), _, last_get _ _, DenOs.mono (pre_add _ _) _ _ h4⟩
 | .arr p l, ns => by
   obtain ⟨h3, h4⟩ := layEs_den l ns
   rw [layE, DenE]
   exact ⟨h3.trans (pre_add _ _), _, last_get _ _, DenEs.mono (pre_add _ _) _ _ h4⟩
 | .two p x a b, ns => by
   obtain ⟨h1, h2⟩ := layE_den a ns
   obtain ⟨h3, h4⟩ := layE_den b (layE a ns).1
   rw [layE, DenE]
   exact ⟨(h1.trans h3).trans (pre_add _ _), _, _, last_get _ _, DenE.mono (h3.trans (pre_add _ _)) _ _ h2, DenE.mono (pre_add _ _) _ _ h4⟩
 | .one p x a, ns => by
   obtain ⟨h1, h2⟩ := layE_den a ns
   rw [layE, DenE]
   exact ⟨h1.trans (pre_add _ _), _, last_get _ _, DenE.mono (pre_add _ _) _ _ h2⟩
 | .as p a ty, ns => by
   obtain ⟨h1, h2⟩ := layE_den a ns
   rw [layE, DenE]
   exact ⟨h1.trans (pre_add _ _), _, last_get _ _, DenE.mono (pre_add _ _) _ _ h2⟩
theorem layEs_den : ∀ (l : List Ex) (ns : List Nd), ns <+: (layEs l ns).1 ∧ DenEs (layEs l ns).1 l (layEs l ns).2
 | [], ns => by rw [layEs, DenEs]; exact ⟨List.prefix_rfl, rfl⟩
 | e :: l, ns => by
   obtain ⟨h1, h2⟩ := layE_den e ns
   obtain ⟨h3, h4⟩ := layEs_den l (layE e ns).1
   rw [layEs, DenEs]
   exact ⟨h1.trans h3, _, _, rfl, DenE.mono h3 _ _ h2, h4⟩
theorem layOs_den : ∀ (l : List (Nat × ByteArray × Ex)) (ns : List Nd), ns <+: (layOs l ns).1 ∧ DenOs (layOs l ns).1 l (layOs l ns).2
 | [], ns => by rw [layOs, DenOs]; exact ⟨List.prefix_rfl, rfl⟩
 | (p, x, e) :: l, ns => by
   obtain ⟨h1, h2⟩ := layE_den e ns
   obtain ⟨h3, h4⟩ := layOs_den l ((layE e ns).1 ++ [{ ndOf 15 p with text := x, a := (layE e ns).2 }])
   rw [layOs, DenOs]
   exact ⟨(h1.trans (pre_add _ _)).trans h3, _, _, _, rfl, get_pre h3 (last_get _ _), DenE.mono ((pre_add _ _).trans h3) _ _ h2, h4⟩
theorem layB_den (bp : Nat) (l : List Sm) (ns : List Nd) : ns <+: (layB bp l ns).1 ∧ DenB (layB bp l ns).1 bp l (layB bp l ns).2 := by
 obtain ⟨h1, h2⟩ := laySs_den l ns
 rw [layB, DenB]
 exact ⟨h1.trans (pre_add _ _), _, last_get _ _, DenSs.mono (pre_add _ _) _ _ h2⟩
theorem laySs_den : ∀ (l : List Sm) (ns : List Nd), ns <+: (laySs l ns).1 ∧ DenSs (laySs l ns).1 l (laySs l ns).2
 | [], ns => by rw [laySs, DenSs]; exact ⟨List.prefix_rfl, rfl⟩
 | e :: l, ns => by
   obtain ⟨h1, h2⟩ := layS_den e ns
   obtain ⟨h3, h4⟩ := laySs_den l (layS e ns).1
   rw [laySs, DenSs]
   exact ⟨h1.trans h3, _, _, rfl, DenS.mono h3 _ _ h2, h4⟩
theorem layS_den : ∀ (e : Sm) (ns : List Nd), ns <+: (layS e ns).1 ∧ DenS (layS e ns).1 e (layS e ns).2
 | .let_ _ _ _ a, ns => by obtain ⟨h1, h2⟩ := layE_den a ns; rw [layS, DenS]; exact ⟨h1.trans (pre_add _ _), _, last_get _ _, DenE.mono (pre_add _ _) _ _ h2⟩
 | .set _ _ a, ns => by obtain ⟨h1, h2⟩ := layE_den a ns; rw [layS, DenS]; exact ⟨h1.trans (pre_add _ _), _, last_get _ _, DenE.mono (pre_add _ _) _ _ h2⟩
 | .put _ a _ v, ns => by
   obtain ⟨h1, h2⟩ := layE_den a ns
   obtain ⟨h3, h4⟩ := layE_den v (layE a ns).1
   rw [layS, DenS]
   exact ⟨(h1.trans h3).trans (pre_add _ _), _, _, last_get _ _, DenE.mono (h3.trans (pre_add _ _)) _ _ h2, DenE.mono (pre_add _ _) _ _ h4⟩
 | .lay _ a b v, ns => by
   obtain ⟨h1, h2⟩ := layE_den a ns
   obtain ⟨h3, h4⟩ := layE_den b (layE a ns).1
   obtain ⟨h5, h6⟩ := layE_den v (layE b (layE a ns).1).1
   rw [layS, DenS]
   exact ⟨((h1.trans h3).trans h5).trans (pre_add _ _), _, _, _, last_get _ _, DenE.mono ((h3.trans h5).trans (pre_add _ _)) _ _ h2, DenE.mono (h5.trans (pre_add _ _)) _ _ h4, DenE.mono (pre_add _ _) _ _ h6⟩
 | .print _ a, ns => by obtain ⟨h1, h2⟩ := layE_den a ns; rw [layS, DenS]; exact ⟨h1.trans (pre_add _ _), _, last_get _ _, DenE.mono (pre_add _ _) _ _ h2⟩
 | .ret _ a, ns => by obtain ⟨h1, h2⟩ := layE_den a ns; rw [layS, DenS]; exact ⟨h1.trans (pre_add _ _), _, last_get _ _, DenE.mono (pre_add _ _) _ _ h2⟩
 | .do_ _ a, ns => by obtain ⟨h1, h2⟩ := layE_den a ns; rw [layS, DenS]; exact ⟨h1.trans (pre_add _ _), _, last_get _ _, DenE.mono (pre_add _ _) _ _ h2⟩
 | .if_ _ a bp b none, ns => by
   obtain ⟨h1, h2⟩ := layE_den a ns
   obtain ⟨h3, h4⟩ := layB_den bp b (layE a ns).1
   rw [layS, DenS]
   exact ⟨(h1.trans h3).trans (pre_add _ _), _, _, last_get _ _, DenE.mono (h3.trans (pre_add _ _)) _ _ h2, DenB.mono (pre_add _ _) _ _ _ h4⟩
 | .if_ _ a bp b (some (cp, c)), ns => by
   obtain ⟨h1, h2⟩ := layE_den a ns
   obtain ⟨h3, h4⟩ := layB_den bp b (layE a ns).1
   obtain ⟨h5, h6⟩ := layB_den cp c (layB bp b (layE a ns).1).1
   rw [layS, DenS]
   exact ⟨((h1.trans h3).trans h5).trans (pre_add _ _), _, _, _, last_get _ _, DenE.mono ((h3.trans h5).trans (pre_add _ _)) _ _ h2, DenB.mono (h5.trans (pre_add _ _)) _ _ _ h4, DenB.mono (pre_add _ _) _ _ _ h6⟩
 | .while_ _ a bp b, ns => by
   obtain ⟨h1, h2⟩ := layE_den a ns
   obtain ⟨h3, h4⟩ := layB_den bp b (layE a ns).1
   rw [layS, DenS]
   exact ⟨(h1.trans h3).trans (pre_add _ _), _, _, last_get _ _, DenE.mono (h3.trans (pre_add _ _)) _ _ h2, DenB.mono (pre_add _ _) _ _ _ h4⟩
end
theorem parse_den {s : ByteArray} {pg : Pg} (h : parse s = .ok pg) : ∃ l : List Sm, layB 0 l [] = (pg.ns, pg.main) ∧ DenB pg.ns 0 l pg.main := by
 obtain ⟨l, hl⟩ := parse_tree h
 refine ⟨l, hl, ?_⟩
 have := (layB_den 0 l []).2
 rw [hl] at this
 exact this
end Ty
end
section
namespace Ty
open Tok (Tk)
inductive Tr where
 | mk (kind : Nat) (names : List ByteArray) (parts list of : List Tr)
structure WfAt (i : Nat) (t : Ty) : Prop where
 fields : ∀ f ∈ t.fields, f.2 < i
 list : ∀ j ∈ t.list, j < i
 of : t.kind = 8 ∨ t.kind = 9 → t.of < i
 kind : 1 ≤ t.kind ∧ t.kind ≤ 10
 noParts : t.kind ≠ 7 → t.fields = []
 noList : t.kind ≠ 9 → t.kind ≠ 10 → t.list = []
 noOf : t.kind ≠ 8 → t.kind ≠ 9 → t.of = 0
 uni : t.kind = 10 → 2 ≤ t.list.length
 lens : t.fields.length ≤ 1000000 ∧ t.list.length ≤ 1000000
def Wf (ts : List Ty) : Prop := ∀ i t, ts[i]? = some t → WfAt i t
theorem Wf.nil : Wf [] := fun i t h => by simp at h
theorem Wf.snoc {ts : List Ty} {t : Ty} (h : Wf ts) (ht : WfAt ts.length t) : Wf (ts ++ [t]) := fun i u hu => by
 by_cases hi : i < ts.length
 · rw [List.getElem?_append_left hi] at hu; exact h i u hu
 · rw [List.getElem?_append_right (by omega)] at hu
   have h0 : i - ts.length = 0 := by
     refine Nat.eq_zero_of_not_pos fun hp => ?_
     rw [List.getElem?_eq_none (by simp; omega)] at hu; cases hu
   rw [h0] at hu
   simp at hu
   subst hu
   have : i = ts.length := by omega
   rw [this]; exact ht
def Keep {α : Type} (m : M α) (P : α → List Ty → Prop) : Prop := ∀ s a s', Wf s.ts → m s = .ok (a, s') → Wf s'.ts ∧ s.ts.length ≤ s'.ts.length ∧ P a s'.ts
theorem Keep.bnd {α β : Type} {m : M α} {k : α → M β} {P : α → List Ty → Prop} {Q : β → List Ty → Prop} (h : Keep m P) (g : ∀ a (s : St) b s', Wf s.ts → P a s.ts → k a s = .ok (b, s') → Wf s'.ts ∧ s.ts.length ≤ s'.ts.length ∧ Q b s'.ts) : Keep (Ty.bnd m k) Q := fun s b s' hw e => by
 obtain ⟨a, s1, e1, e2⟩ := bnd_inv e
 obtain ⟨h1, h2, h3⟩ := h _ _ _ hw e1
 obtain ⟨g1, g2, g3⟩ := g a s1 b s' h1 h3 e2
 exact ⟨g1, by omega, g3⟩
theorem take_keep (af : List Tk) (x : List UInt8) {s s' : St} {b : Bool} (h : take af x s = .ok (b, s')) : s'.ts = s.ts := by
 unfold take at h; split at h <;> cases h <;> rfl
theorem need_keep (af : List Tk) (x : List UInt8) {s s' : St} {u : Unit} (h : need af x s = .ok (u, s')) : s'.ts = s.ts := by
 unfold need at h; split at h <;> cases h; rfl
theorem name_keep (af : List Tk) (met : List ByteArray) {s s' : St} {x : ByteArray} (h : name af met s = .ok (x, s')) : s'.ts = s.ts := by
 unfold name at h
 split at h
 · cases h
 · split at h <;> cases h; rfl
def Num (n : Nat) (ts : List Ty) : Prop := n < ts.length
theorem newType_keep {t : Ty} {s s' : St} {n : Nat} (hw : Wf s.ts) (ht : WfAt s.ts.length t) (h : newType t s = .ok (n, s')) : Wf s'.ts ∧ s.ts.length ≤ s'.ts.length ∧ Num n s'.ts := by
 cases h
 exact ⟨hw.snoc ht, by simp, by simp [Num]⟩
def All (l : List Nat) (ts : List Ty) : Prop := ∀ j ∈ l, j < ts.length
theorem list_lens {af : List Tk} {x : List UInt8} {α : Type} {m : List α → M α} : ∀ f l s l' s', list af x m f l s = .ok (l', s') → l'.length ≤ l.length + f
 | 0, l, s, l', s', h => by cases h
 | f + 1, l, s, l', s', h => by
   obtain ⟨b, s1, e1, e2⟩ := bnd_inv h
   cases b
   · simp only [Bool.false_eq_true, if_false] at e2
     obtain ⟨u, s2, e3, e4⟩ := bnd_inv e2
     obtain ⟨n, s3, e5, e6⟩ := bnd_inv e4
     have := list_lens f _ _ _ _ e6
     simp at this; omega
   · simp only [if_true] at e2
     cases e2; omega
theorem fields_lens {af : List Tk} {T : M Nat} : ∀ f l s l' s', fields af T f l s = .ok (l', s') → l'.length ≤ l.length + f
 | 0, l, s, l', s', h => by cases h
 | f + 1, l, s, l', s', h => by
   obtain ⟨b, s1, e1, e2⟩ := bnd_inv h
   cases b
   · simp only [Bool.false_eq_true, if_false] at e2
     obtain ⟨x, s2, e3, e4⟩ := bnd_inv e2
     obtain ⟨u, s3, e5, e6⟩ := bnd_inv e4
     obtain ⟨n, s4, e7, e8⟩ := bnd_inv e6
     obtain ⟨u, s5, e9, e10⟩ := bnd_inv e8
     have := fields_lens f _ _ _ _ e10
     simp at this; omega
   · simp only [if_true] at e2
     cases e2; omega
theorem bars_lens {af : List Tk} {S : M Nat} : ∀ f l s l' s', bars af S f l s = .ok (l', s') → l'.length ≤ l.length + f
 | 0, l, s, l', s', h => by cases h
 | f + 1, l, s, l', s', h => by
   obtain ⟨b, s1, e1, e2⟩ := bnd_inv h
   cases b
   · simp only [Bool.false_eq_true, if_false] at e2
     cases e2; omega
   · simp only [if_true] at e2
     obtain ⟨n, s2, e3, e4⟩ := bnd_inv e2
     have := bars_lens f _ _ _ _ e4
     simp at this; omega
theorem list_keep {af : List Tk} {x : List UInt8} {T : M Nat} (hT : Keep T Num) : ∀ f l s l' s', Wf s.ts → All l s.ts → list af x (fun _ => T) f l s = .ok (l', s') → Wf s'.ts ∧ s.ts.length ≤ s'.ts.length ∧ All l' s'.ts
 | 0, l, s, l', s', _, _, h => by cases h
 | f + 1, l, s, l', s', hw, hl, h => by
   obtain ⟨b, s1, e1, e2⟩ := bnd_inv h
   have t1 := take_keep _ _ e1
   cases b
   · simp only [Bool.false_eq_true, if_false] at e2
     obtain ⟨u, s2, e3, e4⟩ := bnd_inv e2
     have t2 : s2.ts = s1.ts := by
       split at e3
       · cases e3; rfl
       · exact need_keep _ _ e3
     obtain ⟨n, s3, e5, e6⟩ := bnd_inv e4
     rw [t1] at t2
     obtain ⟨h1, h2, h3⟩ := hT _ _ _ (by rw [t2]; exact hw) e5
     rw [t2] at h2
     obtain ⟨g1, g2, g3⟩ := list_keep hT f (l ++ [n]) s3 l' s' h1 (fun j hj => by
       rw [List.mem_append] at hj
       rcases hj with hj | hj
       · have := hl j hj; omega
       · simp at hj; subst hj; unfold Num at h3; omega) e6
     exact ⟨g1, by omega, g3⟩
   · simp only [if_true] at e2
     cases e2
     rw [t1]; exact ⟨hw, by omega, hl⟩
theorem fields_keep {af : List Tk} {T : M Nat} (hT : Keep T Num) : ∀ f l s l' s', Wf s.ts → All (l.map Prod.snd) s.ts → fields af T f l s = .ok (l', s') → Wf s'.ts ∧ s.ts.length ≤ s'.ts.length ∧ All (l'.map Prod.snd) s'.ts
 | 0, l, s, l', s', _, _, h => by cases h
 | f + 1, l, s, l', s', hw, hl, h => by
   obtain ⟨b, s1, e1, e2⟩ := bnd_inv h
   have t1 := take_keep _ _ e1
   cases b
   · simp only [Bool.false_eq_true, if_false] at e2
     obtain ⟨x, s2, e3, e4⟩ := bnd_inv e2
     have t2 := name_keep _ _ e3
     obtain ⟨u, s3, e5, e6⟩ := bnd_inv e4
     have t3 := need_keep _ _ e5
     obtain ⟨n, s4, e7, e8⟩ := bnd_inv e6
     obtain ⟨u, s5, e9, e10⟩ := bnd_inv e8
     have t5 := need_keep _ _ e9
     have t : s3.ts = s.ts := by rw [t3, t2, t1]
     obtain ⟨h1, h2, h3⟩ := hT _ _ _ (by rw [t]; exact hw) e7
     rw [t] at h2
     obtain ⟨g1, g2, g3⟩ := fields_keep hT f (l ++ [(x, n)]) s5 l' s' (by rw [t5]; exact h1) (fun j hj => by
       rw [List.map_append, List.mem_append] at hj
       rw [t5]
       rcases hj with hj | hj
       · have := hl j hj; omega
       · simp at hj; subst hj; unfold Num at h3; omega) e10
     rw [t5] at g2
     exact ⟨g1, by omega, g3⟩
   · simp only [if_true] at e2
     cases e2
     rw [t1]; exact ⟨hw, by omega, hl⟩
theorem single_keep {af : List Tk} (hL : af.length ≤ 1001) {T : M Nat} (hT : Keep T Num) : Keep (single af T) Num := fun s n s' hw h => by
 unfold single at h
 split at h
 · rename_i hk
   obtain ⟨u, s1, e1, e2⟩ := bnd_inv h
   cases e1
   have hp : plainKind (cur af s.pos).text ≤ 6 := by
     unfold plainKind
     split
     · rename_i i hi
       have := List.idxOf?_eq_some_iff.1 hi
       obtain ⟨h1, _⟩ := this
       simp [plains] at h1; omega
     · omega
   exact newType_keep (s := { s with pos := s.pos + 1 }) hw ⟨fun f hf => by simp at hf, fun j hj => by simp at hj, fun h => by dsimp only at h; omega, ⟨by have := hk.2; show 1 ≤ plainKind _; omega, by dsimp only; omega⟩, fun _ => rfl, fun _ _ => rfl, fun _ _ => rfl, fun h => (by dsimp only at h; omega), ⟨by simp, by simp⟩⟩ e2
 · obtain ⟨b, s1, e1, e2⟩ := bnd_inv h
   have t1 := take_keep _ _ e1
   rw [← t1] at hw
   suffices H : Wf s'.ts ∧ s1.ts.length ≤ s'.ts.length ∧ Num n s'.ts by rw [t1] at H; exact H
   cases b
   · simp only [Bool.false_eq_true, if_false] at e2
     obtain ⟨b, s2, e3, e4⟩ := bnd_inv e2
     have t2 := take_keep _ _ e3
     rw [← t2] at hw
     rw [← t2]
     cases b
     · simp only [Bool.false_eq_true, if_false] at e4
       obtain ⟨u, s3, e5, e6⟩ := bnd_inv e4
       have t3 := need_keep _ _ e5
       rw [← t3] at hw
       rw [← t3]
       obtain ⟨l, s4, e7, e8⟩ := bnd_inv e6
       obtain ⟨h1, h2, h3⟩ := list_keep hT _ _ _ _ _ hw (fun j hj => by simp at hj) e7
       obtain ⟨b, s5, e9, e10⟩ := bnd_inv e8
       have t5 := take_keep _ _ e9
       rw [← t5] at h1 h2 h3
       cases b
       · simp only [Bool.false_eq_true, if_false] at e10
         split at e10
         · rename_i hl
           cases e10
           refine ⟨h1, h2, ?_⟩
           obtain ⟨n, rfl⟩ := List.length_eq_one_iff.1 hl
           exact h3 n (by simp)
         · cases e10
       · simp only [if_true] at e10
         obtain ⟨m, s6, e11, e12⟩ := bnd_inv e10
         obtain ⟨g1, g2, g3⟩ := hT _ _ _ h1 e11
         obtain ⟨k1, k2, k3⟩ := newType_keep g1 ⟨fun f hf => by simp at hf, fun j hj => by have := h3 j hj; omega, fun _ => by unfold Num at g3; show m < _; omega, ⟨by simp, by simp⟩, fun _ => rfl, fun h => absurd rfl h, fun _ h => absurd rfl h, fun h => (by cases h), ⟨by simp, by have := list_lens _ _ _ _ _ e7; simp at this; dsimp only; omega⟩⟩ e12
         exact ⟨k1, by omega, k3⟩
     · simp only [if_true] at e4
       obtain ⟨m, s3, e5, e6⟩ := bnd_inv e4
       obtain ⟨g1, g2, g3⟩ := hT _ _ _ hw e5
       obtain ⟨u, s4, e7, e8⟩ := bnd_inv e6
       have t4 := need_keep _ _ e7
       obtain ⟨k1, k2, k3⟩ := newType_keep (by rw [t4]; exact g1) ⟨fun f hf => by simp at hf, fun j hj => by simp at hj, fun _ => by unfold Num at g3; rw [t4]; show m < _; omega, ⟨by simp, by simp⟩, fun _ => rfl, fun _ _ => rfl, fun h => absurd rfl h, fun h => (by cases h), ⟨by simp, by simp⟩⟩ e8
       rw [t4] at k2
       exact ⟨k1, by omega, k3⟩
   · simp only [if_true] at e2
     unfold object at e2
     obtain ⟨l, s2, e3, e4⟩ := bnd_inv e2
     obtain ⟨h1, h2, h3⟩ := fields_keep hT _ _ _ _ _ hw (fun j hj => by simp at hj) e3
     obtain ⟨k1, k2, k3⟩ := newType_keep h1 ⟨fun f hf => h3 _ (List.mem_map_of_mem hf), fun j hj => by simp at hj, fun h => by dsimp only at h; omega, ⟨by simp, by simp⟩, fun h => absurd rfl h, fun _ _ => rfl, fun _ _ => rfl, fun h => (by cases h), ⟨by have := fields_lens _ _ _ _ _ e3; simp at this; dsimp only; omega, by simp⟩⟩ e4
     exact ⟨k1, by omega, k3⟩
theorem bars_keep {af : List Tk} {S : M Nat} (hS : Keep S Num) : ∀ f l s l' s', Wf s.ts → All l s.ts → bars af S f l s = .ok (l', s') → Wf s'.ts ∧ s.ts.length ≤ s'.ts.length ∧ All l' s'.ts ∧ l.length ≤ l'.length
 | 0, l, s, l', s', _, _, h => by cases h
 | f + 1, l, s, l', s', hw, hl, h => by
   obtain ⟨b, s1, e1, e2⟩ := bnd_inv h
   have t1 := take_keep _ _ e1
   cases b
   · simp only [Bool.false_eq_true, if_false] at e2
     cases e2
     rw [t1]; exact ⟨hw, by omega, hl, by omega⟩
   · simp only [if_true] at e2
     obtain ⟨n, s2, e3, e4⟩ := bnd_inv e2
     obtain ⟨h1, h2, h3⟩ := hS _ _ _ (by rw [t1]; exact hw) e3
     rw [t1] at h2
     obtain ⟨g1, g2, g3, g4⟩ := bars_keep hS f (l ++ [n]) s2 l' s' h1 (fun j hj => by
       rw [List.mem_append] at hj
       rcases hj with hj | hj
       · have := hl j hj; omega
       · simp at hj; subst hj; unfold Num at h3; omega) e4
     exact ⟨g1, by omega, g3, by simp at g4; omega⟩
theorem union_keep {af : List Tk} (hL : af.length ≤ 1001) {S : M Nat} (hS : Keep S Num) : Keep (union af S) Num := fun s n s' hw h => by
 obtain ⟨m, s1, e1, e2⟩ := bnd_inv h
 obtain ⟨h1, h2, h3⟩ := hS _ _ _ hw e1
 obtain ⟨l, s2, e3, e4⟩ := bnd_inv e2
 obtain ⟨g1, g2, g3, g4⟩ := bars_keep hS _ _ _ _ _ h1 (fun j hj => by simp at hj; subst hj; exact h3) e3
 simp at g4
 split at e4
 · rename_i hl
   cases e4
   obtain ⟨n, rfl⟩ := List.length_eq_one_iff.1 hl
   exact ⟨g1, by omega, g3 n (by simp)⟩
 · obtain ⟨k1, k2, k3⟩ := newType_keep g1 ⟨fun f hf => by simp at hf, fun j hj => g3 j hj, fun h => by dsimp only at h; omega, ⟨by simp, by simp⟩, fun _ => rfl, fun _ h => absurd rfl h, fun _ _ => rfl, fun _ => (by dsimp only; omega), ⟨by simp, by have := bars_lens _ _ _ _ _ e3; simp at this; dsimp only; omega⟩⟩ e4
   exact ⟨k1, by omega, k3⟩
theorem typ_keep (af : List Tk) (hL : af.length ≤ 1001) : ∀ r, Keep (typ af r) Num
 | 0 => fun s a s' _ h => by cases h
 | r + 1 => union_keep hL (single_keep hL (typ_keep af hL r))
def den (ts : List Ty) (n : Nat) : Tr :=
 match ts[n]? with
 | none => .mk 0 [] [] [] []
 | some t => .mk t.kind (t.fields.map Prod.fst) (t.fields.map fun f => if _h : f.2 < n then den ts f.2 else .mk 0 [] [] [] []) (t.list.map fun j => if _h : j < n then den ts j else .mk 0 [] [] [] [])
     (if t.kind = 8 ∨ t.kind = 9 then [if _h : t.of < n then den ts t.of else .mk 0 [] [] [] []] else [])
termination_by n
theorem den_eq {ts : List Ty} (hw : Wf ts) {n : Nat} {t : Ty} (h : ts[n]? = some t) :
   den ts n = .mk t.kind (t.fields.map Prod.fst) (t.fields.map fun f => den ts f.2) (t.list.map (den ts)) (if t.kind = 8 ∨ t.kind = 9 then [den ts t.of] else []) := by
 have hi := hw n t h
 rw [den, h]
 dsimp only
 congr 1
 · exact List.map_congr_left fun f hf => by rw [dif_pos (hi.fields f hf)]
 · exact List.map_congr_left fun j hj => by rw [dif_pos (hi.list j hj)]
 · split
   · rename_i hk; rw [dif_pos (hi.of hk)]
   · rfl
end Ty
end
section
namespace Ty
mutual
def okT : Tr → Prop
 | .mk k names parts list of => (1 ≤ k ∧ k ≤ 10) ∧ names.length = parts.length ∧ (k = 8 ∨ k = 9 → of.length = 1) ∧ (k ≠ 8 → k ≠ 9 → of = []) ∧ (k ≠ 7 → parts = []) ∧ (k ≠ 9 → k ≠ 10 → list = []) ∧ (parts.length ≤ 1000000 ∧ list.length ≤ 1000000) ∧ okL parts ∧ okL list ∧ okL of
def okL : List Tr → Prop
 | [] => True
 | t :: l => okT t ∧ okL l
end
theorem okL_of {l : List Tr} (h : ∀ t ∈ l, okT t) : okL l := by
 induction l with
 | nil => rw [okL]; trivial
 | cons a l ih => rw [okL]; exact ⟨h a (by simp), ih fun t ht => h t (by simp [ht])⟩
theorem den_ok {ts : List Ty} (hw : Wf ts) : ∀ N n, n < N → n < ts.length → okT (den ts n) := by
 intro N
 induction N with
 | zero => intro n h; omega
 | succ N ih =>
   intro n hN hn
   have hg : ts[n]? = some ts[n] := List.getElem?_eq_getElem hn
   have hwf := hw n _ hg
   rw [den_eq hw hg, okT]
   refine ⟨hwf.kind, by simp, fun hk => by rw [if_pos hk]; rfl, fun h8 h9 => by rw [if_neg (by omega)], fun h7 => by rw [hwf.noParts h7]; rfl, fun h9 h10 => by rw [hwf.noList h9 h10]; rfl, by simpa using hwf.lens, okL_of fun t ht => ?_, okL_of fun t ht => ?_, okL_of fun t ht => ?_⟩
   · obtain ⟨f, hf, rfl⟩ := List.mem_map.1 ht
     have := hwf.fields f hf
     exact ih _ (by omega) (by omega)
   · obtain ⟨j, hj, rfl⟩ := List.mem_map.1 ht
     have := hwf.list j hj
     exact ih _ (by omega) (by omega)
   · split at ht
     · rename_i hk
       simp at ht; subst ht
       have := hwf.of hk
       exact ih _ (by omega) (by omega)
     · simp at ht
mutual
def sz : Tr → Nat
 | .mk _ _ p l o => 1 + szL p + szL l + szL o
def szL : List Tr → Nat
 | [] => 0
 | t :: l => sz t + szL l + 1
end
end Ty
end
section
namespace Ty
def anyTo (f : Nat → Bool) : Nat → Bool
 | 0 => false
 | n + 1 => anyTo f n || f n
theorem anyTo_iff {f : Nat → Bool} : ∀ {n : Nat}, anyTo f n = true ↔ ∃ j, j < n ∧ f j = true
 | 0 => by simp [anyTo]
 | n + 1 => by
   rw [anyTo, Bool.or_eq_true, anyTo_iff]
   constructor
   · rintro (⟨j, h1, h2⟩ | h)
     · exact ⟨j, by omega, h2⟩
     · exact ⟨n, by omega, h⟩
   · rintro ⟨j, h1, h2⟩
     by_cases h : j = n
     · subst h; exact .inr h2
     · exact .inl ⟨j, by omega, h2⟩
theorem anyTo_false {f : Nat → Bool} {n : Nat} : anyTo f n = false ↔ ∀ j, j < n → f j = false := by
 rw [← Bool.not_eq_true, anyTo_iff]
 constructor
 · intro h j hj
   cases hf : f j with
   | false => rfl
   | true => exact absurd ⟨j, hj, hf⟩ h
 · rintro h ⟨j, hj, hf⟩
   rw [h j hj] at hf; cases hf
def part {α : Type} : List ByteArray → List α → ByteArray → Option α
 | n :: ns, t :: l, x => if n = x then some t else part ns l x
 | _, _, _ => none
def nilT : Tr := .mk 0 [] [] [] []
def kindOf : Tr → Nat | .mk k _ _ _ _ => k
def namesOf : Tr → List ByteArray | .mk _ n _ _ _ => n
def partsOf : Tr → List Tr | .mk _ _ p _ _ => p
def listOf : Tr → List Tr | .mk _ _ _ l _ => l
def ofOf : Tr → Tr | .mk _ _ _ _ o => o.headD nilT
def fitN : Nat → Tr → Tr → Bool
 | 0, _, _ => false
 | n + 1, a, b =>
   if kindOf a = 5 ∨ kindOf b = 5 ∨ kindOf b = 6 then true
   else if kindOf a = 10 then !anyTo (fun j => !fitN n ((listOf a).getD j nilT) b) (listOf a).length
   else if kindOf b = 10 then anyTo (fun j => fitN n a ((listOf b).getD j nilT)) (listOf b).length
   else if kindOf a ≠ kindOf b then false
   else if kindOf a = 7 then !anyTo (fun j => match part (namesOf a) (partsOf a) ((namesOf b).getD j ⟨#[]⟩) with | none => true | some t => !fitN n t ((partsOf b).getD j nilT)) (partsOf b).length
   else if kindOf a = 8 then fitN n (ofOf a) (ofOf b)
   else if kindOf a = 9 then decide ((listOf a).length ≤ (listOf b).length) && !anyTo (fun j => !(fitN n ((listOf a).getD j nilT) ((listOf b).getD j nilT) || fitN n ((listOf b).getD j nilT) ((listOf a).getD j nilT))) (listOf a).length && fitN n (ofOf a) (ofOf b)
   else true
def fits (a b : Tr) : Bool := fitN (sz a + sz b + 1) a b
end Ty
end
section
namespace Ty
def alikeN : Nat → Tr → Tr → Bool
 | 0, _, _ => false
 | n + 1, a, b =>
   decide (kindOf a = kindOf b) && decide ((partsOf a).length = (partsOf b).length) && decide ((listOf a).length = (listOf b).length)
     && !anyTo (fun j => !alikeN n ((listOf a).getD j nilT) ((listOf b).getD j nilT)) (listOf a).length
     && !anyTo (fun j => match part (namesOf b) (partsOf b) ((namesOf a).getD j ⟨#[]⟩) with | none => true | some t => !alikeN n ((partsOf a).getD j nilT) t) (partsOf a).length
     && (!decide (kindOf a = 8 ∨ kindOf a = 9) || alikeN n (ofOf a) (ofOf b))
def alike (a b : Tr) : Bool := alikeN (sz a + sz b + 1) a b
end Ty
end
section
namespace Ty
mutual
def put : Tr → List Ty → List Ty × Nat
 | .mk k names parts list of, l =>
   ((putL of (putL list (putL parts l).1).1).1 ++ [⟨k, names.zip (putL parts l).2, (putL list (putL parts l).1).2, ((putL of (putL list (putL parts l).1).1).2).headD 0⟩], (putL of (putL list (putL parts l).1).1).1.length)
def putL : List Tr → List Ty → List Ty × List Nat
 | [], l => (l, [])
 | t :: ts, l => ((putL ts (put t l).1).1, (put t l).2 :: (putL ts (put t l).1).2)
end
mutual
def cnt : Tr → Nat
 | .mk _ _ p l o => cntL p + cntL l + cntL o + 1
def cntL : List Tr → Nat
 | [] => 0
 | t :: l => cnt t + cntL l
end
theorem cntL_append : ∀ (a b : List Tr), cntL (a ++ b) = cntL a + cntL b
 | [], b => by simp [cntL]
 | x :: a, b => by rw [List.cons_append, cntL, cntL_append a b, cntL]; omega
theorem den_pre (l m : List Ty) : ∀ N n, n < N → n < l.length → den (l ++ m) n = den l n := by
 intro N
 induction N with
 | zero => intro n h; omega
 | succ N ih =>
   intro n hN hn
   conv => lhs; rw [den]
   conv => rhs; rw [den]
   rw [List.getElem?_append_left hn, List.getElem?_eq_getElem hn]
   dsimp only
   congr 1
   · exact List.map_congr_left fun f _ => by
       split
       · exact ih _ (by omega) (by omega)
       · rfl
   · exact List.map_congr_left fun j _ => by
       split
       · exact ih _ (by omega) (by omega)
       · rfl
   · split
     · congr 1
       split
       · exact ih _ (by omega) (by omega)
       · rfl
     · rfl
theorem den_app {l m : List Ty} {n : Nat} (h : n < l.length) : den (l ++ m) n = den l n := den_pre l m (n + 1) n (by omega) h
theorem den_last (l : List Ty) (t : Ty) (h1 : ∀ f ∈ t.fields, f.2 < l.length) (h2 : ∀ j ∈ t.list, j < l.length) (h3 : t.kind = 8 ∨ t.kind = 9 → t.of < l.length) :
   den (l ++ [t]) l.length = .mk t.kind (t.fields.map Prod.fst) (t.fields.map fun f => den l f.2) (t.list.map (den l)) (if t.kind = 8 ∨ t.kind = 9 then [den l t.of] else []) := by
 rw [den, List.getElem?_append_right (Nat.le_refl _), Nat.sub_self]
 dsimp only [List.getElem?_cons_zero]
 congr 1
 · exact List.map_congr_left fun f hf => by rw [dif_pos (h1 f hf), den_app (h1 f hf)]
 · exact List.map_congr_left fun j hj => by rw [dif_pos (h2 j hj), den_app (h2 j hj)]
 · split
   · rename_i hk; rw [dif_pos (h3 hk), den_app (h3 hk)]
   · rfl
end Ty
end
section
namespace Ty
open Tok (Tk)
def Ext (a b : List Ty) : Prop := ∃ e, b = a ++ e
theorem Ext.refl (a : List Ty) : Ext a a := ⟨[], by simp⟩
theorem Ext.trans {a b c : List Ty} (h : Ext a b) (k : Ext b c) : Ext a c := by
 obtain ⟨e, rfl⟩ := h
 obtain ⟨f, rfl⟩ := k
 exact ⟨e ++ f, by simp⟩
theorem Ext.len {a b : List Ty} (h : Ext a b) : a.length ≤ b.length := by obtain ⟨e, rfl⟩ := h; simp
theorem Ext.den {a b : List Ty} (h : Ext a b) {n : Nat} (hn : n < a.length) : Ty.den b n = Ty.den a n := by obtain ⟨e, rfl⟩ := h; exact den_app hn
theorem Ext.dens {a b : List Ty} (h : Ext a b) {l : List Nat} (hl : All l a) : l.map (Ty.den b) = l.map (Ty.den a) := List.map_congr_left fun j hj => h.den (hl j hj)
def Grow (m : M Nat) : Prop := ∀ s a s', Wf s.ts → m s = .ok (a, s') → Ext s.ts s'.ts ∧ s.ts.length + cnt (den s'.ts a) ≤ s'.ts.length ∧ a + 1 = s'.ts.length
def Last (l : List Nat) (ts : List Ty) : Prop := ∀ n, l.getLast? = some n → n + 1 = ts.length
theorem Last.nil (ts : List Ty) : Last [] ts := fun n h => by simp at h
theorem Last.snoc {l : List Nat} {n : Nat} {ts : List Ty} (h : n + 1 = ts.length) : Last (l ++ [n]) ts := fun m hm => by simp at hm; subst hm; exact h
theorem newType_grow {t : Ty} {s s' : St} {n : Nat} (ht : WfAt s.ts.length t) (h : newType t s = .ok (n, s')) : Ext s.ts s'.ts ∧ s'.ts.length = s.ts.length + 1 ∧ cnt (den s'.ts n) = cntL (t.fields.map fun f => den s.ts f.2) + cntL (t.list.map (den s.ts)) + cntL (if t.kind = 8 ∨ t.kind = 9 then [den s.ts t.of] else []) + 1 ∧ n + 1 = s'.ts.length := by
 cases h
 refine ⟨⟨_, rfl⟩, by simp, ?_, by simp⟩
 dsimp only
 rw [den_last _ _ ht.fields ht.list ht.of, cnt]
theorem list_grow {af : List Tk} {x : List UInt8} {T : M Nat} (hT : Keep T Num) (hG : Grow T) : ∀ f l s l' s', Wf s.ts → All l s.ts → Last l s.ts → list af x (fun _ => T) f l s = .ok (l', s') → Ext s.ts s'.ts ∧ s.ts.length + cntL (l'.map (den s'.ts)) ≤ s'.ts.length + cntL (l.map (den s.ts)) ∧ Last l' s'.ts
 | 0, l, s, l', s', _, _, _, h => by cases h
 | f + 1, l, s, l', s', hw, hl, hla, h => by
   obtain ⟨b, s1, e1, e2⟩ := bnd_inv h
   have t1 := take_keep _ _ e1
   cases b
   · simp only [Bool.false_eq_true, if_false] at e2
     obtain ⟨u, s2, e3, e4⟩ := bnd_inv e2
     have t2 : s2.ts = s1.ts := by
       split at e3
       · cases e3; rfl
       · exact need_keep _ _ e3
     obtain ⟨n, s3, e5, e6⟩ := bnd_inv e4
     rw [t1] at t2
     obtain ⟨h1, h2, h3⟩ := hT _ _ _ (by rw [t2]; exact hw) e5
     obtain ⟨k1, k2, k3⟩ := hG _ _ _ (by rw [t2]; exact hw) e5
     rw [t2] at h2 k1 k2
     have hl3 : All l s3.ts := fun j hj => by have := hl j hj; omega
     obtain ⟨g1, g2, g3⟩ := list_grow hT hG f (l ++ [n]) s3 l' s' h1 (fun j hj => by
       rw [List.mem_append] at hj
       rcases hj with hj | hj
       · exact hl3 j hj
       · simp at hj; subst hj; exact h3) (Last.snoc k3) e6
     rw [List.map_append, cntL_append, k1.dens hl] at g2
     simp only [List.map_cons, List.map_nil, cntL] at g2
     exact ⟨k1.trans g1, by omega, g3⟩
   · simp only [if_true] at e2
     cases e2
     rw [t1]; exact ⟨Ext.refl _, by omega, hla⟩
theorem fields_grow {af : List Tk} {T : M Nat} (hT : Keep T Num) (hG : Grow T) : ∀ f l s l' s', Wf s.ts → All (l.map Prod.snd) s.ts → fields af T f l s = .ok (l', s') → Ext s.ts s'.ts ∧ s.ts.length + cntL ((l'.map Prod.snd).map (den s'.ts)) ≤ s'.ts.length + cntL ((l.map Prod.snd).map (den s.ts))
 | 0, l, s, l', s', _, _, h => by cases h
 | f + 1, l, s, l', s', hw, hl, h => by
   obtain ⟨b, s1, e1, e2⟩ := bnd_inv h
   have t1 := take_keep _ _ e1
   cases b
   · simp only [Bool.false_eq_true, if_false] at e2
     obtain ⟨x, s2, e3, e4⟩ := bnd_inv e2
     have t2 := name_keep _ _ e3
     obtain ⟨u, s3, e5, e6⟩ := bnd_inv e4
     have t3 := need_keep _ _ e5
     obtain ⟨n, s4, e7, e8⟩ := bnd_inv e6
     obtain ⟨u, s5, e9, e10⟩ := bnd_inv e8
     have t5 := need_keep _ _ e9
     have t : s3.ts = s.ts := by rw [t3, t2, t1]
     obtain ⟨h1, h2, h3⟩ := hT _ _ _ (by rw [t]; exact hw) e7
     obtain ⟨k1, k2, _⟩ := hG _ _ _ (by rw [t]; exact hw) e7
     rw [t] at h2 k1 k2
     rw [← t5] at h1 h2 h3 k1 k2
     have hl3 : All (l.map Prod.snd) s5.ts := fun j hj => by have := hl j hj; omega
     obtain ⟨g1, g2⟩ := fields_grow hT hG f (l ++ [(x, n)]) s5 l' s' h1 (fun j hj => by
       rw [List.map_append, List.mem_append] at hj
       rcases hj with hj | hj
       · exact hl3 j hj
       · simp at hj; subst hj; exact h3) e10
     rw [List.map_append, List.map_append, cntL_append, k1.dens hl] at g2
     simp only [List.map_cons, List.map_nil, cntL] at g2
     exact ⟨k1.trans g1, by omega⟩
   · simp only [if_true] at e2
     cases e2
     rw [t1]; exact ⟨Ext.refl _, by omega⟩
theorem single_grow {af : List Tk} (hL : af.length ≤ 1001) {T : M Nat} (hT : Keep T Num) (hG : Grow T) : Grow (single af T) := fun s n s' hw h => by
 unfold single at h
 split at h
 · rename_i hk
   obtain ⟨u, s1, e1, e2⟩ := bnd_inv h
   cases e1
   cases e2
   refine ⟨⟨_, rfl⟩, ?_, by simp⟩
   have h8 : ¬ (plainKind (cur af s.pos).text = 8 ∨ plainKind (cur af s.pos).text = 9) := by
     have : plainKind (cur af s.pos).text ≤ 6 := by
       unfold plainKind
       split
       · rename_i i hi
         obtain ⟨h1, _⟩ := List.idxOf?_eq_some_iff.1 hi
         simp [plains] at h1; omega
       · omega
     omega
   dsimp only
   rw [den_last _ _ (fun f hf => by simp at hf) (fun j hj => by simp at hj) (fun h => absurd h h8), cnt]
   dsimp only
   rw [if_neg h8]
   simp [cntL]
 · obtain ⟨b, s1, e1, e2⟩ := bnd_inv h
   have t1 := take_keep _ _ e1
   rw [← t1] at hw
   suffices H : Ext s1.ts s'.ts ∧ s1.ts.length + cnt (den s'.ts n) ≤ s'.ts.length ∧ n + 1 = s'.ts.length by rw [t1] at H; exact H
   cases b
   · simp only [Bool.false_eq_true, if_false] at e2
     obtain ⟨b, s2, e3, e4⟩ := bnd_inv e2
     have t2 := take_keep _ _ e3
     rw [← t2] at hw
     rw [← t2]
     cases b
     · simp only [Bool.false_eq_true, if_false] at e4
       obtain ⟨u, s3, e5, e6⟩ := bnd_inv e4
       have t3 := need_keep _ _ e5
       rw [← t3] at hw
       rw [← t3]
       obtain ⟨l, s4, e7, e8⟩ := bnd_inv e6
       obtain ⟨h1, h2, h3⟩ := list_keep hT _ _ _ _ _ hw (fun j hj => by simp at hj) e7
       obtain ⟨k1, k2, kl⟩ := list_grow hT hG _ _ _ _ _ hw (fun j hj => by simp at hj) (Last.nil _) e7
       obtain ⟨b, s5, e9, e10⟩ := bnd_inv e8
       have t5 := take_keep _ _ e9
       rw [← t5] at h1 h2 h3 k1 k2 kl
       simp only [List.map_nil, cntL] at k2
       cases b
       · simp only [Bool.false_eq_true, if_false] at e10
         split at e10
         · rename_i hl
           cases e10
           obtain ⟨n, rfl⟩ := List.length_eq_one_iff.1 hl
           simp only [List.map_cons, List.map_nil, cntL] at k2
           exact ⟨k1, by simp; omega, kl _ rfl⟩
         · cases e10
       · simp only [if_true] at e10
         obtain ⟨m, s6, e11, e12⟩ := bnd_inv e10
         obtain ⟨g1, g2, g3⟩ := hT _ _ _ h1 e11
         obtain ⟨j1, j2, _⟩ := hG _ _ _ h1 e11
         have hl6 : All l s6.ts := fun j hj => by have := h3 j hj; omega
         obtain ⟨i1, i2, i3, i4⟩ := newType_grow (s := s6) ⟨fun f hf => by simp at hf, fun j hj => hl6 j hj, fun _ => (show m < _ from g3), ⟨by simp, by simp⟩, fun _ => rfl, fun h => absurd rfl h, fun _ h => absurd rfl h, fun h => (by cases h), ⟨by simp, by have := list_lens _ _ _ _ _ e7; simp at this; dsimp only; omega⟩⟩ e12
         refine ⟨(k1.trans j1).trans i1, ?_, i4⟩
         dsimp only at i3
         rw [j1.dens h3] at i3
         simp [cntL] at i3
         omega
     · simp only [if_true] at e4
       obtain ⟨m, s3, e5, e6⟩ := bnd_inv e4
       obtain ⟨g1, g2, g3⟩ := hT _ _ _ hw e5
       obtain ⟨j1, j2, _⟩ := hG _ _ _ hw e5
       obtain ⟨u, s4, e7, e8⟩ := bnd_inv e6
       have t4 := need_keep _ _ e7
       rw [← t4] at g1 g2 g3 j1 j2
       obtain ⟨i1, i2, i3, i4⟩ := newType_grow (s := s4) ⟨fun f hf => by simp at hf, fun j hj => by simp at hj, fun _ => (show m < _ from g3), ⟨by simp, by simp⟩, fun _ => rfl, fun _ _ => rfl, fun h => absurd rfl h, fun h => (by cases h), ⟨by simp, by simp⟩⟩ e8
       simp [cntL] at i3
       exact ⟨j1.trans i1, by omega, i4⟩
   · simp only [if_true] at e2
     unfold object at e2
     obtain ⟨l, s2, e3, e4⟩ := bnd_inv e2
     obtain ⟨h1, h2, h3⟩ := fields_keep hT _ _ _ _ _ hw (fun j hj => by simp at hj) e3
     obtain ⟨k1, k2⟩ := fields_grow hT hG _ _ _ _ _ hw (fun j hj => by simp at hj) e3
     simp only [List.map_nil, cntL] at k2
     obtain ⟨i1, i2, i3, i4⟩ := newType_grow (s := s2) ⟨fun f hf => h3 _ (List.mem_map_of_mem hf), fun j hj => by simp at hj, fun h => by dsimp only at h; omega, ⟨by simp, by simp⟩, fun h => absurd rfl h, fun _ _ => rfl, fun _ _ => rfl, fun h => (by cases h), ⟨by have := fields_lens _ _ _ _ _ e3; simp at this; dsimp only; omega, by simp⟩⟩ e4
     have e5 : (l.map fun f => den s2.ts f.2) = (l.map Prod.snd).map (den s2.ts) := by rw [List.map_map]; rfl
     simp [cntL, e5] at i3
     simp at k2
     exact ⟨k1.trans i1, by omega, i4⟩
theorem bars_grow {af : List Tk} {S : M Nat} (hS : Keep S Num) (hG : Grow S) : ∀ f l s l' s', Wf s.ts → All l s.ts → Last l s.ts → bars af S f l s = .ok (l', s') → Ext s.ts s'.ts ∧ s.ts.length + cntL (l'.map (den s'.ts)) ≤ s'.ts.length + cntL (l.map (den s.ts)) ∧ Last l' s'.ts
 | 0, l, s, l', s', _, _, _, h => by cases h
 | f + 1, l, s, l', s', hw, hl, hla, h => by
   obtain ⟨b, s1, e1, e2⟩ := bnd_inv h
   have t1 := take_keep _ _ e1
   cases b
   · simp only [Bool.false_eq_true, if_false] at e2
     cases e2
     rw [t1]; exact ⟨Ext.refl _, by omega, hla⟩
   · simp only [if_true] at e2
     obtain ⟨n, s2, e3, e4⟩ := bnd_inv e2
     obtain ⟨h1, h2, h3⟩ := hS _ _ _ (by rw [t1]; exact hw) e3
     obtain ⟨k1, k2, k3⟩ := hG _ _ _ (by rw [t1]; exact hw) e3
     rw [t1] at h2 k1 k2
     have hl3 : All l s2.ts := fun j hj => by have := hl j hj; omega
     obtain ⟨g1, g2, g3⟩ := bars_grow hS hG f (l ++ [n]) s2 l' s' h1 (fun j hj => by
       rw [List.mem_append] at hj
       rcases hj with hj | hj
       · exact hl3 j hj
       · simp at hj; subst hj; exact h3) (Last.snoc k3) e4
     rw [List.map_append, cntL_append, k1.dens hl] at g2
     simp only [List.map_cons, List.map_nil, cntL] at g2
     exact ⟨k1.trans g1, by omega, g3⟩
theorem union_grow {af : List Tk} (hL : af.length ≤ 1001) {S : M Nat} (hS : Keep S Num) (hG : Grow S) : Grow (union af S) := fun s n s' hw h => by
 obtain ⟨m, s1, e1, e2⟩ := bnd_inv h
 obtain ⟨h1, h2, h3⟩ := hS _ _ _ hw e1
 obtain ⟨k1, k2, k3⟩ := hG _ _ _ hw e1
 obtain ⟨l, s2, e3, e4⟩ := bnd_inv e2
 obtain ⟨g1, g2, g3, g4⟩ := bars_keep hS _ _ _ _ _ h1 (fun j hj => by simp at hj; subst hj; exact h3) e3
 obtain ⟨j1, j2, j3⟩ := bars_grow hS hG _ _ _ _ _ h1 (fun j hj => by simp at hj; subst hj; exact h3) (show Last [m] s1.ts from Last.snoc (l := []) k3) e3
 simp only [List.length_cons, List.length_nil] at g4
 simp only [List.map_cons, List.map_nil, cntL] at j2
 split at e4
 · rename_i hl
   cases e4
   obtain ⟨n, rfl⟩ := List.length_eq_one_iff.1 hl
   simp only [List.map_cons, List.map_nil, cntL] at j2
   exact ⟨k1.trans j1, by simp; omega, j3 _ rfl⟩
 · obtain ⟨i1, i2, i3, i4⟩ := newType_grow (s := s2) ⟨fun f hf => by simp at hf, fun j hj => g3 j hj, fun h => by dsimp only at h; omega, ⟨by simp, by simp⟩, fun _ => rfl, fun _ h => absurd rfl h, fun _ _ => rfl, fun _ => (by dsimp only; omega), ⟨by simp, by have := bars_lens _ _ _ _ _ e3; simp at this; dsimp only; omega⟩⟩ e4
   simp [cntL] at i3
   exact ⟨(k1.trans j1).trans i1, by omega, i4⟩
theorem typ_grow (af : List Tk) (hL : af.length ≤ 1001) : ∀ r, Grow (typ af r)
 | 0 => fun s a s' _ h => by cases h
 | r + 1 => union_grow hL (single_keep hL (typ_keep af hL r)) (single_grow hL (typ_keep af hL r) (typ_grow af hL r))
end Ty
end
section
namespace Ty
def addT (out : List Tr) (x : Tr) : List Tr := if anyTo (fun j => alike x (out.getD j nilT)) out.length then out else out ++ [x]
end Ty
open Ty (Tr)
end
section
namespace Ty
def joinL (sep : List UInt8) : List (List UInt8) → List UInt8
 | [] => []
 | [x] => x
 | x :: y :: l => x ++ sep ++ joinL sep (y :: l)
def brk (n i k : Nat) (s : List UInt8) : List UInt8 := if k = 10 ∨ k = 9 ∧ i + 1 < n then 40 :: (s ++ [41]) else s
def brks (ks : List Nat) (ts : List (List UInt8)) : List (List UInt8) := (List.range ts.length).map fun i => brk ts.length i (ks.getD i 0) (ts.getD i [])
def fieldS (n : ByteArray) (t : List UInt8) : List UInt8 := 32 :: (n.data.toList ++ [58, 32] ++ t ++ [59])
def fieldsS : List ByteArray → List (List UInt8) → List UInt8
 | n :: ns, t :: ts => fieldS n t ++ fieldsS ns ts
 | _, _ => []
def wordS (k : Nat) : List UInt8 := [[], [110, 117, 109], [98, 111, 111, 108], [116, 101, 120, 116], [110, 117, 108, 108], [97, 110, 121], [117, 110, 107, 110, 111, 119, 110]].getD k []
mutual
def text : Tr → List UInt8
 | .mk k names parts list of =>
   if k = 7 then [123] ++ fieldsS names (texts parts) ++ (if parts.length > 0 then [32] else []) ++ [125]
   else if k = 8 then [91] ++ (texts of).headD [] ++ [93]
   else if k = 9 then [40] ++ joinL [44, 32] (texts list) ++ [41, 32, 61, 62, 32] ++ (texts of).headD []
   else if k = 10 then joinL [32, 124, 32] (brks (list.map kindOf) (texts list))
   else wordS k
def texts : List Tr → List (List UInt8)
 | [] => []
 | t :: l => text t :: texts l
end
theorem texts_map : ∀ l : List Tr, texts l = l.map text
 | [] => by rw [texts]; rfl
 | t :: l => by rw [texts, texts_map l]; rfl
mutual
def shortT : Tr → Prop
 | .mk _ names parts list of => (∀ n ∈ names, n.size ≤ 20) ∧ shortL parts ∧ shortL list ∧ shortL of
def shortL : List Tr → Prop
 | [] => True
 | t :: l => shortT t ∧ shortL l
end
def sumLen (l : List (List UInt8)) : Nat := (l.map List.length).foldr (· + ·) 0
theorem joinL_len (sep : List UInt8) : ∀ l : List (List UInt8), (joinL sep l).length ≤ sumLen l + sep.length * l.length
 | [] => by simp [joinL]
 | [x] => by simp [joinL, sumLen]
 | x :: y :: l => by
   have := joinL_len sep (y :: l)
   simp only [joinL, List.length_append, List.length_cons, sumLen, List.map_cons, List.foldr_cons] at this ⊢
   rw [Nat.mul_add sep.length (l.length + 1) 1]
   omega
theorem fieldsS_len : ∀ (ns : List ByteArray) (ts : List (List UInt8)), (∀ n ∈ ns, n.size ≤ 20) → (fieldsS ns ts).length ≤ sumLen ts + 24 * ts.length
 | [], ts, _ => by simp [fieldsS]
 | n :: ns, [], _ => by simp [fieldsS, sumLen]
 | n :: ns, t :: ts, h => by
   have h1 := fieldsS_len ns ts (fun m hm => h m (by simp [hm]))
   have h2 : n.data.toList.length ≤ 20 := by have := h n (by simp); simpa using this
   simp only [fieldsS, fieldS, lzA, lzC, lzN, sumLen, List.map_cons, List.foldr_cons] at h1 ⊢
   omega
theorem brks_sum (ks : List Nat) (ts : List (List UInt8)) : (brks ks ts).length = ts.length ∧ sumLen (brks ks ts) ≤ sumLen ts + 2 * ts.length := by
 refine ⟨by simp [brks], ?_⟩
 have key : ∀ (l : List Nat) (f g : Nat → List UInt8), (∀ i, (f i).length ≤ (g i).length + 2) → sumLen (l.map f) ≤ sumLen (l.map g) + 2 * l.length := by
   intro l f g h
   induction l with
   | nil => simp [sumLen]
   | cons a l ih =>
     have := h a
     simp only [sumLen, List.map_cons, List.foldr_cons, List.length_cons] at ih ⊢
     omega
 have h := key (List.range ts.length) (fun i => brk ts.length i (ks.getD i 0) (ts.getD i [])) (fun i => ts.getD i []) (fun i => by unfold brk; split <;> simp <;> omega)
 have e : (List.range ts.length).map (fun i => ts.getD i []) = ts := by
   apply List.ext_getElem
   · simp
   · intro i h1 h2
     simp at h1 ⊢
     rw [List.getElem?_eq_getElem h1]; rfl
 rw [e, List.length_range] at h
 exact h
mutual
theorem text_len : ∀ t : Tr, okT t → shortT t → (text t).length + 24 ≤ 40 * cnt t
 | .mk k names parts list of, h, hs => by
   rw [okT] at h
   rw [shortT] at hs
   obtain ⟨hk, hn, h8, h89, h7, h910, hlen, hp, hl, ho⟩ := h
   have a1 := texts_len parts hp hs.2.1
   have a2 := texts_len list hl hs.2.2.1
   have a3 := texts_len of ho hs.2.2.2
   have e1 : (texts parts).length = parts.length := by rw [texts_map]; simp
   have e2 : (texts list).length = list.length := by rw [texts_map]; simp
   have hof : ((texts of).headD []).length ≤ sumLen (texts of) := by
     cases of with
     | nil => simp [texts]
     | cons o l => simp only [texts, List.headD_cons, sumLen, List.map_cons, List.foldr_cons]; omega
   rw [cnt, text]
   split
   · have := fieldsS_len names (texts parts) hs.1
     simp only [lzA, lzC, lzN]
     split <;> simp <;> omega
   · split
     · simp only [lzA, lzC, lzN]; omega
     · split
       · have := joinL_len [44, 32] (texts list)
         simp only [lzA, lzC, lzN] at this ⊢; omega
       · split
         · have := joinL_len [32, 124, 32] (brks (list.map kindOf) (texts list))
           obtain ⟨b1, b2⟩ := brks_sum (list.map kindOf) (texts list)
           simp only [List.length_cons, List.length_nil] at this ⊢
           omega
         · have hw : (wordS k).length ≤ 7 := by
             have : k = 1 ∨ k = 2 ∨ k = 3 ∨ k = 4 ∨ k = 5 ∨ k = 6 := by omega
             rcases this with rfl | rfl | rfl | rfl | rfl | rfl <;> decide
           omega
theorem texts_len : ∀ l : List Tr, okL l → shortL l → sumLen (texts l) + 24 * l.length ≤ 40 * cntL l
 | [], _, _ => by simp [texts, sumLen]
 | t :: l, h, hs => by
   rw [okL] at h
   rw [shortL] at hs
   have h1 := text_len t h.1 hs.1
   have h2 := texts_len l h.2 hs.2
   rw [texts, cntL]
   simp only [sumLen, List.map_cons, List.foldr_cons, List.length_cons] at h2 ⊢
   omega
end
end Ty
end
section
namespace Ty
open Tok (Tk)
structure NameOk (x : ByteArray) : Prop where
 size : x.size ≤ 20
 head : ∃ c l, x.data.toList = c :: l ∧ Tok.isLetter c = true ∧ ∀ d ∈ l, Tok.isPart d = true
 word : Tok.isWord x = false
theorem takeWhile_all {α : Type} (p : α → Bool) : ∀ (l : List α), ∀ d ∈ l.takeWhile p, p d = true
 | [], d, h => by simp at h
 | a :: l, d, h => by
   rw [List.takeWhile_cons] at h
   split at h
   · rcases List.mem_cons.1 h with rfl | h
     · assumption
     · exact takeWhile_all p l d h
   · simp at h
theorem extract_stop (p : UInt8 → Bool) (s : ByteArray) (k : Nat) (_ : k ≤ s.size) : (s.extract k (Tok.stop p s k)).data.toList = (s.data.toList.drop k).takeWhile p := by
 simp only [ByteArray.data_extract, Array.toList_extract, List.extract_eq_take_drop, Tok.stop]
 rw [Nat.add_sub_cancel_left]
 exact (List.prefix_iff_eq_take.1 (List.takeWhile_prefix p)).symm
theorem next_name (s : ByteArray) (k : Nat) (h : k < s.size) (hok : (Tok.next s k).2.2 = true) (hk : (Tok.next s k).1.kind = 1) : NameOk (Tok.next s k).1.text := by
 unfold Tok.next at hok hk ⊢
 by_cases hl : Tok.isLetter (Tok.byte s k) = true
 · simp only [hl, if_true] at hok hk ⊢
   have hst := Tok.stop_ge Tok.isPart s k
   have hle := Tok.stop_le Tok.isPart s k (by omega)
   refine ⟨?_, ?_, ?_⟩
   · have := of_decide_eq_true hok
     simp only [ByteArray.size_extract]; omega
   · rw [extract_stop _ _ _ (by omega), Tok.drop_cons s k h, List.takeWhile_cons, if_pos (by rw [← Tok.byte_eq]; simp [Tok.isPart, hl])]
     exact ⟨_, _, rfl, by rw [← Tok.byte_eq]; exact hl, takeWhile_all _ _⟩
   · split at hk
     · cases hk
     · rename_i h2; simpa using h2
 · simp only [hl, if_false, Bool.false_eq_true] at hk
   split at hk
   · cases hk
   · split at hk
     · cases hk
     · split at hk <;> cases hk
structure NmT (l : List (ByteArray × Nat)) : Prop where
 ok : ∀ f ∈ l, NameOk f.1
 nodup : (l.map Prod.fst).Nodup
theorem NmT.nil : NmT [] := ⟨fun f h => by simp at h, by simp⟩
def Nm (ts : List Ty) : Prop := ∀ t ∈ ts, NmT t.fields
theorem Nm.nil : Nm [] := fun t h => by simp at h
def NK {α : Type} (m : M α) (P : α → Prop) : Prop := ∀ s a s', Nm s.ts → m s = .ok (a, s') → Nm s'.ts ∧ P a
theorem NK.bnd {α β : Type} {m : M α} {k : α → M β} {P : α → Prop} {Q : β → Prop} (h : NK m P) (g : ∀ a, P a → NK (k a) Q) : NK (Ty.bnd m k) Q := fun s b s' hn e => by
 obtain ⟨a, s1, e1, e2⟩ := bnd_inv e
 obtain ⟨h1, h2⟩ := h _ _ _ hn e1
 exact g a h2 _ _ _ h1 e2
theorem NK.ret {α : Type} (a : α) {P : α → Prop} (h : P a) : NK (ret a) P := fun s b s' hn e => by cases e; exact ⟨hn, h⟩
theorem NK.fail {α : Type} (af : List Tk) (n : Nat) (P : α → Prop) : NK (fail (α := α) af n) P := fun s b s' _ e => by cases e
theorem NK.step : NK step fun _ => True := fun s b s' hn e => by cases e; exact ⟨hn, trivial⟩
theorem NK.take (af : List Tk) (x : List UInt8) : NK (take af x) fun _ => True := fun s b s' hn e => ⟨by rw [take_keep _ _ e]; exact hn, trivial⟩
theorem NK.need (af : List Tk) (x : List UInt8) : NK (need af x) fun _ => True := fun s b s' hn e => ⟨by rw [need_keep _ _ e]; exact hn, trivial⟩
theorem NK.newType (t : Ty) (h : NmT t.fields) : NK (newType t) fun _ => True := fun s b s' hn e => by
 cases e
 refine ⟨fun u hu => ?_, trivial⟩
 rw [List.mem_append] at hu
 rcases hu with hu | hu
 · exact hn u hu
 · simp at hu; subst hu; exact h
theorem NK.ite {α : Type} {p : Prop} [Decidable p] {m n : M α} {P : α → Prop} (h : NK m P) (g : NK n P) : NK (if p then m else n) P := by
 split
 · exact h
 · exact g
theorem NK.name {af : List Tk} (ht : ∀ t ∈ af, t.kind = 1 → NameOk t.text) (met : List ByteArray) : NK (name af met) fun x => NameOk x ∧ x ∉ met := fun s x s' hn e => by
 refine ⟨by rw [name_keep _ _ e]; exact hn, ?_⟩
 unfold Ty.name at e
 split at e
 · cases e
 · rename_i hk
   split at e
   · cases e
   · rename_i hm
     cases e
     constructor
     · refine ht _ ?_ (by simpa using hk)
       unfold cur at hk ⊢
       cases h : af[s.pos]? with
       | none => rw [h] at hk; simp at hk
       | some t => exact List.mem_of_getElem? h
     · intro hx; exact hm (List.mem_map_of_mem hx)
theorem list_nm {af : List Tk} {x : List UInt8} {T : M Nat} (hT : NK T fun _ => True) : ∀ f l, NK (list af x (fun _ => T) f l) fun _ => True
 | 0, _ => NK.fail _ _ _
 | f + 1, _ => (NK.take _ _).bnd fun _ _ => NK.ite (NK.ret _ trivial) ((NK.ite (NK.ret _ trivial) (NK.need _ _)).bnd fun _ _ => hT.bnd fun _ _ => list_nm hT f _)
theorem fields_nm {af : List Tk} (ht : ∀ t ∈ af, t.kind = 1 → NameOk t.text) {T : M Nat} (hT : NK T fun _ => True) : ∀ f l, NmT l → NK (fields af T f l) NmT
 | 0, _, _ => NK.fail _ _ _
 | f + 1, l, hl => (NK.take _ _).bnd fun b _ => NK.ite (NK.ret _ hl) ((NK.name ht _).bnd fun s hs => (NK.need _ _).bnd fun _ _ => hT.bnd fun n _ => (NK.need _ _).bnd fun _ _ => fields_nm ht hT f _ ⟨fun f hf => by
     rw [List.mem_append] at hf
     rcases hf with hf | hf
     · exact hl.ok f hf
     · simp at hf; subst hf; exact hs.1, by
     rw [List.map_append, List.nodup_append]
     refine ⟨hl.nodup, by simp, fun a ha b hb => ?_⟩
     simp at hb; subst hb
     intro e; subst e; exact hs.2 ha⟩)
theorem round_nm {af : List Tk} {T : M Nat} (hT : NK T fun _ => True) : NK (round af T) fun _ => True :=
 (list_nm hT _ _).bnd fun _ _ => (NK.take _ _).bnd fun _ _ => NK.ite (hT.bnd fun _ _ => NK.newType _ NmT.nil) (NK.ite (NK.ret _ trivial) (NK.fail _ _ _))
theorem single_nm {af : List Tk} (ht : ∀ t ∈ af, t.kind = 1 → NameOk t.text) {T : M Nat} (hT : NK T fun _ => True) : NK (single af T) fun _ => True := fun s n s' hn h => by
 unfold single at h
 split at h
 · exact (NK.step.bnd fun _ _ => NK.newType _ NmT.nil) s n s' hn h
 · exact ((NK.take _ _).bnd fun b _ => NK.ite ((fields_nm ht hT _ _ NmT.nil).bnd fun l hl => NK.newType _ hl) ((NK.take _ _).bnd fun b _ => NK.ite (hT.bnd fun n _ => (NK.need _ _).bnd fun _ _ => NK.newType _ NmT.nil) ((NK.need _ _).bnd fun _ _ => round_nm hT))) s n s' hn h
theorem bars_nm {af : List Tk} {S : M Nat} (hS : NK S fun _ => True) : ∀ f l, NK (bars af S f l) fun _ => True
 | 0, _ => NK.fail _ _ _
 | f + 1, _ => (NK.take _ _).bnd fun _ _ => NK.ite (hS.bnd fun _ _ => bars_nm hS f _) (NK.ret _ trivial)
theorem union_nm {af : List Tk} {S : M Nat} (hS : NK S fun _ => True) : NK (union af S) fun _ => True :=
 hS.bnd fun _ _ => (bars_nm hS _ _).bnd fun _ _ => NK.ite (NK.ret _ trivial) (NK.newType _ NmT.nil)
theorem typ_nm {af : List Tk} (ht : ∀ t ∈ af, t.kind = 1 → NameOk t.text) : ∀ r, NK (typ af r) fun _ => True
 | 0 => NK.fail _ _ _
 | r + 1 => union_nm (single_nm ht (typ_nm ht r))
mutual
def nmT : Tr → Prop
 | .mk _ names parts list of => (∀ n ∈ names, NameOk n) ∧ names.Nodup ∧ nmL parts ∧ nmL list ∧ nmL of
def nmL : List Tr → Prop
 | [] => True
 | t :: l => nmT t ∧ nmL l
end
theorem nmL_of {l : List Tr} (h : ∀ t ∈ l, nmT t) : nmL l := by
 induction l with
 | nil => rw [nmL]; trivial
 | cons a l ih => rw [nmL]; exact ⟨h a (by simp), ih fun t ht => h t (by simp [ht])⟩
mutual
theorem nm_short : ∀ t : Tr, nmT t → shortT t
 | .mk k names parts list of, h => by
   rw [nmT] at h
   rw [shortT]
   exact ⟨fun n hn => (h.1 n hn).size, nmL_short _ h.2.2.1, nmL_short _ h.2.2.2.1, nmL_short _ h.2.2.2.2⟩
theorem nmL_short : ∀ l : List Tr, nmL l → shortL l
 | [], _ => by rw [shortL]; trivial
 | t :: l, h => by
   rw [nmL] at h
   rw [shortL]; exact ⟨nm_short t h.1, nmL_short l h.2⟩
end
theorem den_nm {ts : List Ty} (hw : Wf ts) (hn : Nm ts) : ∀ N n, n < N → n < ts.length → nmT (den ts n) := by
 intro N
 induction N with
 | zero => intro n h; omega
 | succ N ih =>
   intro n hN hl
   have hg : ts[n]? = some ts[n] := List.getElem?_eq_getElem hl
   have hwf := hw n _ hg
   have hnt := hn ts[n] (List.getElem_mem _)
   rw [den_eq hw hg, nmT]
   refine ⟨fun x hx => ?_, hnt.nodup, nmL_of fun t ht => ?_, nmL_of fun t ht => ?_, nmL_of fun t ht => ?_⟩
   · obtain ⟨f, hf, rfl⟩ := List.mem_map.1 hx
     exact hnt.ok f hf
   · obtain ⟨f, hf, rfl⟩ := List.mem_map.1 ht
     have := hwf.fields f hf
     exact ih _ (by omega) (by omega)
   · obtain ⟨j, hj, rfl⟩ := List.mem_map.1 ht
     have := hwf.list j hj
     exact ih _ (by omega) (by omega)
   · split at ht
     · rename_i hk
       simp at ht; subst ht
       have := hwf.of hk
       exact ih _ (by omega) (by omega)
     · simp at ht
end Ty
end
end Go.Proofs.YtdlbhiaceheffabGreatDoor
