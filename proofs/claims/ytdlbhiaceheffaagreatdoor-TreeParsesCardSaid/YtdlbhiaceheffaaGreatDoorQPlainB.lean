/- Plain: types as trees; what a list of types says. Plain: trees of their form. Plain: what fits, what is the same. One step of the fit of two trees, in its own words. Plain: what is the same: two trees alike. Plain: a tree is laid behind a list of types. Plain: the tree of a type that was read is no greater than what was read. -/
import Derived.Test.YtdlbhiaceheffaaGreatDoorQPlainA
namespace Go.Proofs.YtdlbhiaceheffaaGreatDoor
namespace Ty
open Tok (Tk)
/-- A type as a tree: its kind, the names and types of its parts, its list, and what it is of (one, or none). -/
inductive Tr where
  | mk (kind : Nat) (names : List ByteArray) (parts list of : List Tr)
/-- A list of types in which each number is of one ahead. -/
structure WfAt (i : Nat) (t : Ty) : Prop where
  fields : ∀ f ∈ t.fields, f.2 < i
  list : ∀ j ∈ t.list, j < i
  of : t.kind = 8 ∨ t.kind = 9 → t.of < i
  kind : 1 ≤ t.kind ∧ t.kind ≤ 10
  noParts : t.kind ≠ 7 → t.fields = []
  noList : t.kind ≠ 9 → t.kind ≠ 10 → t.list = []
  noOf : t.kind ≠ 8 → t.kind ≠ 9 → t.of = 0
  uni : t.kind = 10 → 2 ≤ t.list.length
  lens : t.fields.length ≤ 1000000 ∧ t.list.length ≤ 1000000
def Wf (ts : List Ty) : Prop := ∀ i t, ts[i]? = some t → WfAt i t
theorem Wf.nil : Wf [] := fun i t h => by simp at h
theorem Wf.snoc {ts : List Ty} {t : Ty} (h : Wf ts) (ht : WfAt ts.length t) : Wf (ts ++ [t]) := fun i u hu => by
  by_cases hi : i < ts.length
  · rw [List.getElem?_append_left hi] at hu; exact h i u hu
  · rw [List.getElem?_append_right (by omega)] at hu
    have h0 : i - ts.length = 0 := by
      refine Nat.eq_zero_of_not_pos fun hp => ?_
      rw [List.getElem?_eq_none (by simp; omega)] at hu; cases hu
    rw [h0] at hu
    simp at hu
    subst hu
    have : i = ts.length := by omega
    rw [this]; exact ht
/-- A step that keeps the list of types well formed. -/
def Keep {α : Type} (m : M α) (P : α → List Ty → Prop) : Prop := ∀ s a s', Wf s.ts → m s = .ok (a, s') → Wf s'.ts ∧ s.ts.length ≤ s'.ts.length ∧ P a s'.ts
theorem Keep.bnd {α β : Type} {m : M α} {k : α → M β} {P : α → List Ty → Prop} {Q : β → List Ty → Prop} (h : Keep m P) (g : ∀ a (s : St) b s', Wf s.ts → P a s.ts → k a s = .ok (b, s') → Wf s'.ts ∧ s.ts.length ≤ s'.ts.length ∧ Q b s'.ts) : Keep (Ty.bnd m k) Q := fun s b s' hw e => by
  obtain ⟨a, s1, e1, e2⟩ := bnd_inv e
  obtain ⟨h1, h2, h3⟩ := h _ _ _ hw e1
  obtain ⟨g1, g2, g3⟩ := g a s1 b s' h1 h3 e2
  exact ⟨g1, by omega, g3⟩
theorem take_keep (toks : List Tk) (x : List UInt8) {s s' : St} {b : Bool} (h : take toks x s = .ok (b, s')) : s'.ts = s.ts := by
  unfold take at h; split at h <;> cases h <;> rfl
theorem need_keep (toks : List Tk) (x : List UInt8) {s s' : St} {u : Unit} (h : need toks x s = .ok (u, s')) : s'.ts = s.ts := by
  unfold need at h; split at h <;> cases h; rfl
theorem name_keep (toks : List Tk) (met : List ByteArray) {s s' : St} {x : ByteArray} (h : name toks met s = .ok (x, s')) : s'.ts = s.ts := by
  unfold name at h
  split at h
  · cases h
  · split at h <;> cases h; rfl
/-- Number of a type of the list. -/
def Num (n : Nat) (ts : List Ty) : Prop := n < ts.length
theorem newType_keep {t : Ty} {s s' : St} {n : Nat} (hw : Wf s.ts) (ht : WfAt s.ts.length t) (h : newType t s = .ok (n, s')) : Wf s'.ts ∧ s.ts.length ≤ s'.ts.length ∧ Num n s'.ts := by
  cases h
  exact ⟨hw.snoc ht, by simp, by simp [Num]⟩
def All (l : List Nat) (ts : List Ty) : Prop := ∀ j ∈ l, j < ts.length
theorem list_lens {toks : List Tk} {x : List UInt8} {α : Type} {m : List α → M α} : ∀ f l s l' s', list toks x m f l s = .ok (l', s') → l'.length ≤ l.length + f
  | 0, l, s, l', s', h => by cases h
  | f + 1, l, s, l', s', h => by
    obtain ⟨b, s1, e1, e2⟩ := bnd_inv h
    cases b
    · simp only [Bool.false_eq_true, if_false] at e2
      obtain ⟨u, s2, e3, e4⟩ := bnd_inv e2
      obtain ⟨n, s3, e5, e6⟩ := bnd_inv e4
      have := list_lens f _ _ _ _ e6
      simp at this; omega
    · simp only [if_true] at e2
      cases e2; omega
theorem fields_lens {toks : List Tk} {T : M Nat} : ∀ f l s l' s', fields toks T f l s = .ok (l', s') → l'.length ≤ l.length + f
  | 0, l, s, l', s', h => by cases h
  | f + 1, l, s, l', s', h => by
    obtain ⟨b, s1, e1, e2⟩ := bnd_inv h
    cases b
    · simp only [Bool.false_eq_true, if_false] at e2
      obtain ⟨x, s2, e3, e4⟩ := bnd_inv e2
      obtain ⟨u, s3, e5, e6⟩ := bnd_inv e4
      obtain ⟨n, s4, e7, e8⟩ := bnd_inv e6
      obtain ⟨u, s5, e9, e10⟩ := bnd_inv e8
      have := fields_lens f _ _ _ _ e10
      simp at this; omega
    · simp only [if_true] at e2
      cases e2; omega
theorem bars_lens {toks : List Tk} {S : M Nat} : ∀ f l s l' s', bars toks S f l s = .ok (l', s') → l'.length ≤ l.length + f
  | 0, l, s, l', s', h => by cases h
  | f + 1, l, s, l', s', h => by
    obtain ⟨b, s1, e1, e2⟩ := bnd_inv h
    cases b
    · simp only [Bool.false_eq_true, if_false] at e2
      cases e2; omega
    · simp only [if_true] at e2
      obtain ⟨n, s2, e3, e4⟩ := bnd_inv e2
      have := bars_lens f _ _ _ _ e4
      simp at this; omega
theorem list_keep {toks : List Tk} {x : List UInt8} {T : M Nat} (hT : Keep T Num) : ∀ f l s l' s', Wf s.ts → All l s.ts → list toks x (fun _ => T) f l s = .ok (l', s') → Wf s'.ts ∧ s.ts.length ≤ s'.ts.length ∧ All l' s'.ts
  | 0, l, s, l', s', _, _, h => by cases h
  | f + 1, l, s, l', s', hw, hl, h => by
    obtain ⟨b, s1, e1, e2⟩ := bnd_inv h
    have t1 := take_keep _ _ e1
    cases b
    · simp only [Bool.false_eq_true, if_false] at e2
      obtain ⟨u, s2, e3, e4⟩ := bnd_inv e2
      have t2 : s2.ts = s1.ts := by
        split at e3
        · cases e3; rfl
        · exact need_keep _ _ e3
      obtain ⟨n, s3, e5, e6⟩ := bnd_inv e4
      rw [t1] at t2
      obtain ⟨h1, h2, h3⟩ := hT _ _ _ (by rw [t2]; exact hw) e5
      rw [t2] at h2
      obtain ⟨g1, g2, g3⟩ := list_keep hT f (l ++ [n]) s3 l' s' h1 (fun j hj => by
        rw [List.mem_append] at hj
        rcases hj with hj | hj
        · have := hl j hj; omega
        · simp at hj; subst hj; unfold Num at h3; omega) e6
      exact ⟨g1, by omega, g3⟩
    · simp only [if_true] at e2
      cases e2
      rw [t1]; exact ⟨hw, by omega, hl⟩
theorem fields_keep {toks : List Tk} {T : M Nat} (hT : Keep T Num) : ∀ f l s l' s', Wf s.ts → All (l.map Prod.snd) s.ts → fields toks T f l s = .ok (l', s') → Wf s'.ts ∧ s.ts.length ≤ s'.ts.length ∧ All (l'.map Prod.snd) s'.ts
  | 0, l, s, l', s', _, _, h => by cases h
  | f + 1, l, s, l', s', hw, hl, h => by
    obtain ⟨b, s1, e1, e2⟩ := bnd_inv h
    have t1 := take_keep _ _ e1
    cases b
    · simp only [Bool.false_eq_true, if_false] at e2
      obtain ⟨x, s2, e3, e4⟩ := bnd_inv e2
      have t2 := name_keep _ _ e3
      obtain ⟨u, s3, e5, e6⟩ := bnd_inv e4
      have t3 := need_keep _ _ e5
      obtain ⟨n, s4, e7, e8⟩ := bnd_inv e6
      obtain ⟨u, s5, e9, e10⟩ := bnd_inv e8
      have t5 := need_keep _ _ e9
      have t : s3.ts = s.ts := by rw [t3, t2, t1]
      obtain ⟨h1, h2, h3⟩ := hT _ _ _ (by rw [t]; exact hw) e7
      rw [t] at h2
      obtain ⟨g1, g2, g3⟩ := fields_keep hT f (l ++ [(x, n)]) s5 l' s' (by rw [t5]; exact h1) (fun j hj => by
        rw [List.map_append, List.mem_append] at hj
        rw [t5]
        rcases hj with hj | hj
        · have := hl j hj; omega
        · simp at hj; subst hj; unfold Num at h3; omega) e10
      rw [t5] at g2
      exact ⟨g1, by omega, g3⟩
    · simp only [if_true] at e2
      cases e2
      rw [t1]; exact ⟨hw, by omega, hl⟩
theorem single_keep {toks : List Tk} (hL : toks.length ≤ 1001) {T : M Nat} (hT : Keep T Num) : Keep (single toks T) Num := fun s n s' hw h => by
  unfold single at h
  split at h
  · rename_i hk
    obtain ⟨u, s1, e1, e2⟩ := bnd_inv h
    cases e1
    have hp : plainKind (cur toks s.pos).text ≤ 6 := by
      unfold plainKind
      split
      · rename_i i hi
        have := List.idxOf?_eq_some_iff.1 hi
        obtain ⟨h1, _⟩ := this
        simp [plains] at h1; omega
      · omega
    exact newType_keep (s := { s with pos := s.pos + 1 }) hw ⟨fun f hf => by simp at hf, fun j hj => by simp at hj, fun h => by dsimp only at h; omega, ⟨by have := hk.2; show 1 ≤ plainKind _; omega, by dsimp only; omega⟩, fun _ => rfl, fun _ _ => rfl, fun _ _ => rfl, fun h => (by dsimp only at h; omega), ⟨by simp, by simp⟩⟩ e2
  · obtain ⟨b, s1, e1, e2⟩ := bnd_inv h
    have t1 := take_keep _ _ e1
    rw [← t1] at hw
    suffices H : Wf s'.ts ∧ s1.ts.length ≤ s'.ts.length ∧ Num n s'.ts by rw [t1] at H; exact H
    cases b
    · simp only [Bool.false_eq_true, if_false] at e2
      obtain ⟨b, s2, e3, e4⟩ := bnd_inv e2
      have t2 := take_keep _ _ e3
      rw [← t2] at hw
      rw [← t2]
      cases b
      · simp only [Bool.false_eq_true, if_false] at e4
        obtain ⟨u, s3, e5, e6⟩ := bnd_inv e4
        have t3 := need_keep _ _ e5
        rw [← t3] at hw
        rw [← t3]
        obtain ⟨l, s4, e7, e8⟩ := bnd_inv e6
        obtain ⟨h1, h2, h3⟩ := list_keep hT _ _ _ _ _ hw (fun j hj => by simp at hj) e7
        obtain ⟨b, s5, e9, e10⟩ := bnd_inv e8
        have t5 := take_keep _ _ e9
        rw [← t5] at h1 h2 h3
        cases b
        · simp only [Bool.false_eq_true, if_false] at e10
          split at e10
          · rename_i hl
            cases e10
            refine ⟨h1, h2, ?_⟩
            obtain ⟨n, rfl⟩ := List.length_eq_one_iff.1 hl
            exact h3 n (by simp)
          · cases e10
        · simp only [if_true] at e10
          obtain ⟨m, s6, e11, e12⟩ := bnd_inv e10
          obtain ⟨g1, g2, g3⟩ := hT _ _ _ h1 e11
          obtain ⟨k1, k2, k3⟩ := newType_keep g1 ⟨fun f hf => by simp at hf, fun j hj => by have := h3 j hj; omega, fun _ => by unfold Num at g3; show m < _; omega, ⟨by simp, by simp⟩, fun _ => rfl, fun h => absurd rfl h, fun _ h => absurd rfl h, fun h => (by cases h), ⟨by simp, by have := list_lens _ _ _ _ _ e7; simp at this; dsimp only; omega⟩⟩ e12
          exact ⟨k1, by omega, k3⟩
      · simp only [if_true] at e4
        obtain ⟨m, s3, e5, e6⟩ := bnd_inv e4
        obtain ⟨g1, g2, g3⟩ := hT _ _ _ hw e5
        obtain ⟨u, s4, e7, e8⟩ := bnd_inv e6
        have t4 := need_keep _ _ e7
        obtain ⟨k1, k2, k3⟩ := newType_keep (by rw [t4]; exact g1) ⟨fun f hf => by simp at hf, fun j hj => by simp at hj, fun _ => by unfold Num at g3; rw [t4]; show m < _; omega, ⟨by simp, by simp⟩, fun _ => rfl, fun _ _ => rfl, fun h => absurd rfl h, fun h => (by cases h), ⟨by simp, by simp⟩⟩ e8
        rw [t4] at k2
        exact ⟨k1, by omega, k3⟩
    · simp only [if_true] at e2
      unfold object at e2
      obtain ⟨l, s2, e3, e4⟩ := bnd_inv e2
      obtain ⟨h1, h2, h3⟩ := fields_keep hT _ _ _ _ _ hw (fun j hj => by simp at hj) e3
      obtain ⟨k1, k2, k3⟩ := newType_keep h1 ⟨fun f hf => h3 _ (List.mem_map_of_mem hf), fun j hj => by simp at hj, fun h => by dsimp only at h; omega, ⟨by simp, by simp⟩, fun h => absurd rfl h, fun _ _ => rfl, fun _ _ => rfl, fun h => (by cases h), ⟨by have := fields_lens _ _ _ _ _ e3; simp at this; dsimp only; omega, by simp⟩⟩ e4
      exact ⟨k1, by omega, k3⟩
theorem bars_keep {toks : List Tk} {S : M Nat} (hS : Keep S Num) : ∀ f l s l' s', Wf s.ts → All l s.ts → bars toks S f l s = .ok (l', s') → Wf s'.ts ∧ s.ts.length ≤ s'.ts.length ∧ All l' s'.ts ∧ l.length ≤ l'.length
  | 0, l, s, l', s', _, _, h => by cases h
  | f + 1, l, s, l', s', hw, hl, h => by
    obtain ⟨b, s1, e1, e2⟩ := bnd_inv h
    have t1 := take_keep _ _ e1
    cases b
    · simp only [Bool.false_eq_true, if_false] at e2
      cases e2
      rw [t1]; exact ⟨hw, by omega, hl, by omega⟩
    · simp only [if_true] at e2
      obtain ⟨n, s2, e3, e4⟩ := bnd_inv e2
      obtain ⟨h1, h2, h3⟩ := hS _ _ _ (by rw [t1]; exact hw) e3
      rw [t1] at h2
      obtain ⟨g1, g2, g3, g4⟩ := bars_keep hS f (l ++ [n]) s2 l' s' h1 (fun j hj => by
        rw [List.mem_append] at hj
        rcases hj with hj | hj
        · have := hl j hj; omega
        · simp at hj; subst hj; unfold Num at h3; omega) e4
      exact ⟨g1, by omega, g3, by simp at g4; omega⟩
theorem union_keep {toks : List Tk} (hL : toks.length ≤ 1001) {S : M Nat} (hS : Keep S Num) : Keep (union toks S) Num := fun s n s' hw h => by
  obtain ⟨m, s1, e1, e2⟩ := bnd_inv h
  obtain ⟨h1, h2, h3⟩ := hS _ _ _ hw e1
  obtain ⟨l, s2, e3, e4⟩ := bnd_inv e2
  obtain ⟨g1, g2, g3, g4⟩ := bars_keep hS _ _ _ _ _ h1 (fun j hj => by simp at hj; subst hj; exact h3) e3
  simp at g4
  split at e4
  · rename_i hl
    cases e4
    obtain ⟨n, rfl⟩ := List.length_eq_one_iff.1 hl
    exact ⟨g1, by omega, g3 n (by simp)⟩
  · obtain ⟨k1, k2, k3⟩ := newType_keep g1 ⟨fun f hf => by simp at hf, fun j hj => g3 j hj, fun h => by dsimp only at h; omega, ⟨by simp, by simp⟩, fun _ => rfl, fun _ h => absurd rfl h, fun _ _ => rfl, fun _ => (by dsimp only; omega), ⟨by simp, by have := bars_lens _ _ _ _ _ e3; simp at this; dsimp only; omega⟩⟩ e4
    exact ⟨k1, by omega, k3⟩
theorem typ_keep (toks : List Tk) (hL : toks.length ≤ 1001) : ∀ r, Keep (typ toks r) Num
  | 0 => fun s a s' _ h => by cases h
  | r + 1 => union_keep hL (single_keep hL (typ_keep toks hL r))
theorem typeOf_wf {s : ByteArray} {ts : List Ty} (h : typeOf s = .ok ts) : Wf ts ∧ 0 < ts.length ∧ ts.length ≤ 300 := by
  unfold typeOf at h
  split at h
  · cases h
  · rename_i toks hsc
    split at h
    · cases h
    · rename_i n st e
      split at h
      · cases h
      · split at h
        · cases h
        · cases h
          obtain ⟨h1, _, h3⟩ := typ_keep toks (Tok.scan_ok _ _ hsc).2.1 20 _ _ _ Wf.nil e
          unfold Num at h3
          exact ⟨h1, by omega, by omega⟩

/-- What a number of a list of types says. -/
def den (ts : List Ty) (n : Nat) : Tr :=
  match ts[n]? with
  | none => .mk 0 [] [] [] []
  | some t => .mk t.kind (t.fields.map Prod.fst) (t.fields.map fun f => if _h : f.2 < n then den ts f.2 else .mk 0 [] [] [] []) (t.list.map fun j => if _h : j < n then den ts j else .mk 0 [] [] [] [])
      (if t.kind = 8 ∨ t.kind = 9 then [if _h : t.of < n then den ts t.of else .mk 0 [] [] [] []] else [])
termination_by n
theorem den_eq {ts : List Ty} (hw : Wf ts) {n : Nat} {t : Ty} (h : ts[n]? = some t) :
    den ts n = .mk t.kind (t.fields.map Prod.fst) (t.fields.map fun f => den ts f.2) (t.list.map (den ts)) (if t.kind = 8 ∨ t.kind = 9 then [den ts t.of] else []) := by
  have hi := hw n t h
  rw [den, h]
  dsimp only
  congr 1
  · exact List.map_congr_left fun f hf => by rw [dif_pos (hi.fields f hf)]
  · exact List.map_congr_left fun j hj => by rw [dif_pos (hi.list j hj)]
  · split
    · rename_i hk; rw [dif_pos (hi.of hk)]
    · rfl
/-- The tags of a type. -/
def tagOf (k : Nat) : Nat := if k = 7 then 16 else if k = 8 then 32 else if k = 9 then 64 else if k = 5 ∨ k = 6 then 127 else 2 ^ (k - 1)
mutual
def tags : Tr → Nat
  | .mk k _ _ l _ => if k = 10 then tagsL l else tagOf k
def tagsL : List Tr → Nat
  | [] => 0
  | t :: l => tags t ||| tagsL l
end
theorem tagsL_snoc (l : List Tr) (t : Tr) : tagsL (l ++ [t]) = tagsL l ||| tags t := by
  induction l with
  | nil => simp [tagsL]
  | cons a l ih => simp [tagsL, ih, Nat.or_assoc]
end Ty
end Go.Proofs.YtdlbhiaceheffaaGreatDoor

namespace Go.Proofs.YtdlbhiaceheffaaGreatDoor
namespace Ty
mutual
/-- A tree of its form. -/
def okT : Tr → Prop
  | .mk k names parts list of => (1 ≤ k ∧ k ≤ 10) ∧ names.length = parts.length ∧ (k = 8 ∨ k = 9 → of.length = 1) ∧ (k ≠ 8 → k ≠ 9 → of = []) ∧ (k ≠ 7 → parts = []) ∧ (k ≠ 9 → k ≠ 10 → list = []) ∧ (parts.length ≤ 1000000 ∧ list.length ≤ 1000000) ∧ okL parts ∧ okL list ∧ okL of
def okL : List Tr → Prop
  | [] => True
  | t :: l => okT t ∧ okL l
end
theorem okL_mem {l : List Tr} (h : okL l) : ∀ t ∈ l, okT t := by
  induction l with
  | nil => intro t ht; simp at ht
  | cons a l ih =>
    rw [okL] at h
    intro t ht
    rcases List.mem_cons.1 ht with rfl | ht
    · exact h.1
    · exact ih h.2 t ht
theorem okL_of {l : List Tr} (h : ∀ t ∈ l, okT t) : okL l := by
  induction l with
  | nil => rw [okL]; trivial
  | cons a l ih => rw [okL]; exact ⟨h a (by simp), ih fun t ht => h t (by simp [ht])⟩
theorem den_ok {ts : List Ty} (hw : Wf ts) : ∀ N n, n < N → n < ts.length → okT (den ts n) := by
  intro N
  induction N with
  | zero => intro n h; omega
  | succ N ih =>
    intro n hN hn
    have hg : ts[n]? = some ts[n] := List.getElem?_eq_getElem hn
    have hwf := hw n _ hg
    rw [den_eq hw hg, okT]
    refine ⟨hwf.kind, by simp, fun hk => by rw [if_pos hk]; rfl, fun h8 h9 => by rw [if_neg (by omega)], fun h7 => by rw [hwf.noParts h7]; rfl, fun h9 h10 => by rw [hwf.noList h9 h10]; rfl, by simpa using hwf.lens, okL_of fun t ht => ?_, okL_of fun t ht => ?_, okL_of fun t ht => ?_⟩
    · obtain ⟨f, hf, rfl⟩ := List.mem_map.1 ht
      have := hwf.fields f hf
      exact ih _ (by omega) (by omega)
    · obtain ⟨j, hj, rfl⟩ := List.mem_map.1 ht
      have := hwf.list j hj
      exact ih _ (by omega) (by omega)
    · split at ht
      · rename_i hk
        simp at ht; subst ht
        have := hwf.of hk
        exact ih _ (by omega) (by omega)
      · simp at ht
theorem tagOf_le (k : Nat) (hk : 1 ≤ k ∧ k ≤ 10) (h10 : k ≠ 10) : tagOf k < 128 := by
  have : k = 1 ∨ k = 2 ∨ k = 3 ∨ k = 4 ∨ k = 5 ∨ k = 6 ∨ k = 7 ∨ k = 8 ∨ k = 9 := by omega
  rcases this with rfl | rfl | rfl | rfl | rfl | rfl | rfl | rfl | rfl <;> decide
mutual
theorem tags_le : ∀ t, okT t → tags t < 128
  | .mk k names parts list of, h => by
    rw [okT] at h
    rw [tags]
    split
    · exact tagsL_le list h.2.2.2.2.2.2.2.2.1
    · exact tagOf_le k h.1 ‹_›
theorem tagsL_le : ∀ l, okL l → tagsL l < 128
  | [], _ => by rw [tagsL]; omega
  | t :: l, h => by
    rw [okL] at h
    rw [tagsL]
    exact Nat.or_lt_two_pow (n := 7) (tags_le t h.1) (tagsL_le l h.2)
end
mutual
/-- How great a tree is. -/
def sz : Tr → Nat
  | .mk _ _ p l o => 1 + szL p + szL l + szL o
def szL : List Tr → Nat
  | [] => 0
  | t :: l => sz t + szL l + 1
end
theorem sz_mem {t : Tr} : ∀ {l : List Tr}, t ∈ l → sz t < szL l
  | [], h => by simp at h
  | a :: l, h => by
    rw [szL]
    rcases List.mem_cons.1 h with rfl | h
    · omega
    · have := sz_mem h; omega
theorem sz_list {t : Tr} {l : List Tr} (h : t ∈ l) (k : Nat) (names : List ByteArray) (parts of : List Tr) : sz t < sz (.mk k names parts l of) := by
  have := sz_mem h
  rw [sz]; omega
theorem sz_parts {t : Tr} {l : List Tr} (h : t ∈ l) (k : Nat) (names : List ByteArray) (list of : List Tr) : sz t < sz (.mk k names l list of) := by
  have := sz_mem h
  rw [sz]; omega
theorem sz_of {t : Tr} {l : List Tr} (h : t ∈ l) (k : Nat) (names : List ByteArray) (parts list : List Tr) : sz t < sz (.mk k names parts list l) := by
  have := sz_mem h
  rw [sz]; omega
end Ty
end Go.Proofs.YtdlbhiaceheffaaGreatDoor

namespace Go.Proofs.YtdlbhiaceheffaaGreatDoor
namespace Ty
/-- Does something hold of a number below n? -/
def anyTo (f : Nat → Bool) : Nat → Bool
  | 0 => false
  | n + 1 => anyTo f n || f n
theorem anyTo_iff {f : Nat → Bool} : ∀ {n : Nat}, anyTo f n = true ↔ ∃ j, j < n ∧ f j = true
  | 0 => by simp [anyTo]
  | n + 1 => by
    rw [anyTo, Bool.or_eq_true, anyTo_iff]
    constructor
    · rintro (⟨j, h1, h2⟩ | h)
      · exact ⟨j, by omega, h2⟩
      · exact ⟨n, by omega, h⟩
    · rintro ⟨j, h1, h2⟩
      by_cases h : j = n
      · subst h; exact .inr h2
      · exact .inl ⟨j, by omega, h2⟩
theorem anyTo_false {f : Nat → Bool} {n : Nat} : anyTo f n = false ↔ ∀ j, j < n → f j = false := by
  rw [← Bool.not_eq_true, anyTo_iff]
  constructor
  · intro h j hj
    cases hf : f j with
    | false => rfl
    | true => exact absurd ⟨j, hj, hf⟩ h
  · rintro h ⟨j, hj, hf⟩
    rw [h j hj] at hf; cases hf
/-- The part of a name. -/
def part {α : Type} : List ByteArray → List α → ByteArray → Option α
  | n :: ns, t :: l, x => if n = x then some t else part ns l x
  | _, _, _ => none
theorem part_mem {α : Type} {x : ByteArray} : ∀ {ns : List ByteArray} {l : List α} {t : α}, part ns l x = some t → t ∈ l
  | [], l, t, h => by cases h
  | n :: ns, [], t, h => by cases h
  | n :: ns, a :: l, t, h => by
    rw [part] at h
    split at h
    · cases h; simp
    · exact List.mem_cons_of_mem _ (part_mem h)
def nilT : Tr := .mk 0 [] [] [] []
def kindOf : Tr → Nat | .mk k _ _ _ _ => k
def namesOf : Tr → List ByteArray | .mk _ n _ _ _ => n
def partsOf : Tr → List Tr | .mk _ _ p _ _ => p
def listOf : Tr → List Tr | .mk _ _ _ l _ => l
def ofOf : Tr → Tr | .mk _ _ _ _ o => o.headD nilT
/-- May what has a be where b is asked for? With so much left. -/
def fitN : Nat → Tr → Tr → Bool
  | 0, _, _ => false
  | n + 1, a, b =>
    if kindOf a = 5 ∨ kindOf b = 5 ∨ kindOf b = 6 then true
    else if kindOf a = 10 then !anyTo (fun j => !fitN n ((listOf a).getD j nilT) b) (listOf a).length
    else if kindOf b = 10 then anyTo (fun j => fitN n a ((listOf b).getD j nilT)) (listOf b).length
    else if kindOf a ≠ kindOf b then false
    else if kindOf a = 7 then !anyTo (fun j => match part (namesOf a) (partsOf a) ((namesOf b).getD j ⟨#[]⟩) with | none => true | some t => !fitN n t ((partsOf b).getD j nilT)) (partsOf b).length
    else if kindOf a = 8 then fitN n (ofOf a) (ofOf b)
    else if kindOf a = 9 then decide ((listOf a).length ≤ (listOf b).length) && !anyTo (fun j => !(fitN n ((listOf a).getD j nilT) ((listOf b).getD j nilT) || fitN n ((listOf b).getD j nilT) ((listOf a).getD j nilT))) (listOf a).length && fitN n (ofOf a) (ofOf b)
    else true
theorem anyTo_congr {f g : Nat → Bool} {n : Nat} (h : ∀ j, j < n → f j = g j) : anyTo f n = anyTo g n := by
  induction n with
  | zero => rfl
  | succ n ih => rw [anyTo, anyTo, ih (fun j hj => h j (by omega)), h n (by omega)]
theorem getD_mem {l : List Tr} {j : Nat} (h : j < l.length) : l.getD j nilT ∈ l := by
  rw [List.getD_eq_getElem?_getD, List.getElem?_eq_getElem h]; exact List.getElem_mem h
theorem sz_pos (t : Tr) : 0 < sz t := by cases t; rw [sz]; omega
theorem sz_getList {a : Tr} {j : Nat} (h : j < (listOf a).length) : sz ((listOf a).getD j nilT) < sz a := by cases a; exact sz_list (getD_mem h) _ _ _ _
theorem sz_getParts {a : Tr} {j : Nat} (h : j < (partsOf a).length) : sz ((partsOf a).getD j nilT) < sz a := by cases a; exact sz_parts (getD_mem h) _ _ _ _
theorem sz_part {a t : Tr} {x : ByteArray} (h : part (namesOf a) (partsOf a) x = some t) : sz t < sz a := by cases a; exact sz_parts (part_mem h) _ _ _ _
theorem sz_ofOf {a : Tr} (h : okT a) (hk : kindOf a = 8 ∨ kindOf a = 9) : sz (ofOf a) < sz a := by
  cases a with
  | mk k names parts list of =>
    rw [okT] at h
    have h1 := h.2.2.1 hk
    cases of with
    | nil => simp at h1
    | cons o l => exact sz_of (t := o) (by simp) _ _ _ _
theorem ok_getList {a : Tr} (ha : okT a) {j : Nat} (h : j < (listOf a).length) : okT ((listOf a).getD j nilT) := by
  cases a; rw [okT] at ha; exact okL_mem ha.2.2.2.2.2.2.2.2.1 _ (getD_mem h)
theorem ok_getParts {a : Tr} (ha : okT a) {j : Nat} (h : j < (partsOf a).length) : okT ((partsOf a).getD j nilT) := by
  cases a; rw [okT] at ha; exact okL_mem ha.2.2.2.2.2.2.2.1 _ (getD_mem h)
theorem ok_part {a t : Tr} (ha : okT a) {x : ByteArray} (h : part (namesOf a) (partsOf a) x = some t) : okT t := by
  cases a; rw [okT] at ha; exact okL_mem ha.2.2.2.2.2.2.2.1 _ (part_mem h)
theorem ok_ofOf {a : Tr} (h : okT a) (hk : kindOf a = 8 ∨ kindOf a = 9) : okT (ofOf a) := by
  cases a with
  | mk k names parts list of =>
    rw [okT] at h
    have h1 := h.2.2.1 hk
    cases of with
    | nil => simp at h1
    | cons o l => exact okL_mem h.2.2.2.2.2.2.2.2.2 o (by simp)
/-- Enough is enough. -/
theorem fitN_eq : ∀ n m a b, okT a → okT b → sz a + sz b < n → sz a + sz b < m → fitN n a b = fitN m a b := by
  intro n
  induction n with
  | zero => intro m a b _ _ h; omega
  | succ n ih =>
    intro m a b ha hb h1 h2
    obtain ⟨m, rfl⟩ : ∃ q, m = q + 1 := ⟨m - 1, by omega⟩
    rw [fitN, fitN]
    have pa := sz_pos a
    have pb := sz_pos b
    split
    · rfl
    · split
      · congr 1
        exact anyTo_congr fun j hj => by have := sz_getList hj; rw [ih m _ _ (ok_getList ha hj) hb (by omega) (by omega)]
      · split
        · exact anyTo_congr fun j hj => by have := sz_getList hj; rw [ih m _ _ ha (ok_getList hb hj) (by omega) (by omega)]
        · split
          · rfl
          · split
            · congr 1
              exact anyTo_congr fun j hj => by
                have h3 := sz_getParts hj
                cases hp : part (namesOf a) (partsOf a) ((namesOf b).getD j ⟨#[]⟩) with
                | none => rfl
                | some t => have h4 := sz_part hp; dsimp only; rw [ih m _ _ (ok_part ha hp) (ok_getParts hb hj) (by omega) (by omega)]
            · split
              · rename_i hk8
                have h3 := sz_ofOf ha (.inl hk8)
                have h4 := sz_ofOf hb (.inl (by omega))
                rw [ih m _ _ (ok_ofOf ha (.inl hk8)) (ok_ofOf hb (.inl (by omega))) (by omega) (by omega)]
              · split
                · rename_i hk9
                  have h3 := sz_ofOf ha (.inr hk9)
                  have h4 := sz_ofOf hb (.inr (by omega))
                  rw [ih m (ofOf a) (ofOf b) (ok_ofOf ha (.inr hk9)) (ok_ofOf hb (.inr (by omega))) (by omega) (by omega)]
                  by_cases hl : (listOf a).length ≤ (listOf b).length
                  · congr 3
                    exact anyTo_congr fun j hj => by
                      have h5 := sz_getList hj
                      have hj2 : j < (listOf b).length := by omega
                      have h6 := sz_getList hj2
                      rw [ih m _ _ (ok_getList ha hj) (ok_getList hb hj2) (by omega) (by omega), ih m _ _ (ok_getList hb hj2) (ok_getList ha hj) (by omega) (by omega)]
                  · simp [hl]
                · rfl
def fits (a b : Tr) : Bool := fitN (sz a + sz b + 1) a b
theorem fits_eq {a b : Tr} (ha : okT a) (hb : okT b) {n : Nat} (h : sz a + sz b < n) : fitN n a b = fits a b := fitN_eq _ _ _ _ ha hb h (by omega)
end Ty
end Go.Proofs.YtdlbhiaceheffaaGreatDoor

namespace Go.Proofs.YtdlbhiaceheffaaGreatDoor
namespace Ty
theorem fits_step {a b : Tr} (ha : okT a) (hb : okT b) : fits a b =
    if kindOf a = 5 ∨ kindOf b = 5 ∨ kindOf b = 6 then true
    else if kindOf a = 10 then !anyTo (fun j => !fits ((listOf a).getD j nilT) b) (listOf a).length
    else if kindOf b = 10 then anyTo (fun j => fits a ((listOf b).getD j nilT)) (listOf b).length
    else if kindOf a ≠ kindOf b then false
    else if kindOf a = 7 then !anyTo (fun j => match part (namesOf a) (partsOf a) ((namesOf b).getD j ⟨#[]⟩) with | none => true | some t => !fits t ((partsOf b).getD j nilT)) (partsOf b).length
    else if kindOf a = 8 then fits (ofOf a) (ofOf b)
    else if kindOf a = 9 then decide ((listOf a).length ≤ (listOf b).length) && !anyTo (fun j => !(fits ((listOf a).getD j nilT) ((listOf b).getD j nilT) || fits ((listOf b).getD j nilT) ((listOf a).getD j nilT))) (listOf a).length && fits (ofOf a) (ofOf b)
    else true := by
  have pa := sz_pos a
  have pb := sz_pos b
  conv => lhs; rw [fits, fitN]
  split
  · rfl
  · split
    · congr 1
      exact anyTo_congr fun j hj => by have := sz_getList hj; rw [fits_eq (ok_getList ha hj) hb (by omega)]
    · split
      · exact anyTo_congr fun j hj => by have := sz_getList hj; rw [fits_eq ha (ok_getList hb hj) (by omega)]
      · split
        · rfl
        · split
          · congr 1
            exact anyTo_congr fun j hj => by
              have h3 := sz_getParts hj
              cases hp : part (namesOf a) (partsOf a) ((namesOf b).getD j ⟨#[]⟩) with
              | none => rfl
              | some t => have h4 := sz_part hp; dsimp only; rw [fits_eq (ok_part ha hp) (ok_getParts hb hj) (by omega)]
          · split
            · rename_i hk8
              have h3 := sz_ofOf ha (.inl hk8)
              have h4 := sz_ofOf hb (.inl (by omega))
              rw [fits_eq (ok_ofOf ha (.inl hk8)) (ok_ofOf hb (.inl (by omega))) (by omega)]
            · split
              · rename_i hk9
                have h3 := sz_ofOf ha (.inr hk9)
                have h4 := sz_ofOf hb (.inr (by omega))
                rw [fits_eq (ok_ofOf ha (.inr hk9)) (ok_ofOf hb (.inr (by omega))) (by omega)]
                by_cases hl : (listOf a).length ≤ (listOf b).length
                · congr 3
                  exact anyTo_congr fun j hj => by
                    have h5 := sz_getList hj
                    have hj2 : j < (listOf b).length := by omega
                    have h6 := sz_getList hj2
                    rw [fits_eq (ok_getList ha hj) (ok_getList hb hj2) (by omega), fits_eq (ok_getList hb hj2) (ok_getList ha hj) (by omega)]
                · simp [hl]
              · rfl
end Ty
end Go.Proofs.YtdlbhiaceheffaaGreatDoor

namespace Go.Proofs.YtdlbhiaceheffaaGreatDoor
namespace Ty
/-- Are two trees the same? With so much left. -/
def alikeN : Nat → Tr → Tr → Bool
  | 0, _, _ => false
  | n + 1, a, b =>
    decide (kindOf a = kindOf b) && decide ((partsOf a).length = (partsOf b).length) && decide ((listOf a).length = (listOf b).length)
      && !anyTo (fun j => !alikeN n ((listOf a).getD j nilT) ((listOf b).getD j nilT)) (listOf a).length
      && !anyTo (fun j => match part (namesOf b) (partsOf b) ((namesOf a).getD j ⟨#[]⟩) with | none => true | some t => !alikeN n ((partsOf a).getD j nilT) t) (partsOf a).length
      && (!decide (kindOf a = 8 ∨ kindOf a = 9) || alikeN n (ofOf a) (ofOf b))
/-- One step, in words of what is left. -/
def alikeF (al : Tr → Tr → Bool) (a b : Tr) : Bool :=
    decide (kindOf a = kindOf b) && decide ((partsOf a).length = (partsOf b).length) && decide ((listOf a).length = (listOf b).length)
      && !anyTo (fun j => !al ((listOf a).getD j nilT) ((listOf b).getD j nilT)) (listOf a).length
      && !anyTo (fun j => match part (namesOf b) (partsOf b) ((namesOf a).getD j ⟨#[]⟩) with | none => true | some t => !al ((partsOf a).getD j nilT) t) (partsOf a).length
      && (!decide (kindOf a = 8 ∨ kindOf a = 9) || al (ofOf a) (ofOf b))
theorem alikeN_succ (n : Nat) (a b : Tr) : alikeN (n + 1) a b = alikeF (alikeN n) a b := by rw [alikeN, alikeF]
theorem and_congr_of {p q r : Bool} (h : p = true → q = r) : (p && q) = (p && r) := by cases p <;> simp_all
theorem alikeF_congr {f g : Tr → Tr → Bool} {a b : Tr} (ha : okT a) (hb : okT b) (h : ∀ x y, okT x → okT y → sz x < sz a → sz y < sz b → f x y = g x y) : alikeF f a b = alikeF g a b := by
  unfold alikeF
  by_cases hk : kindOf a = kindOf b
  · by_cases hp : (partsOf a).length = (partsOf b).length
    · by_cases hl : (listOf a).length = (listOf b).length
      · have e1 : anyTo (fun j => !f ((listOf a).getD j nilT) ((listOf b).getD j nilT)) (listOf a).length = anyTo (fun j => !g ((listOf a).getD j nilT) ((listOf b).getD j nilT)) (listOf a).length :=
          anyTo_congr fun j hj => by rw [h _ _ (ok_getList ha hj) (ok_getList hb (by omega)) (sz_getList hj) (sz_getList (by omega))]
        have e2 : anyTo (fun j => match part (namesOf b) (partsOf b) ((namesOf a).getD j ⟨#[]⟩) with | none => true | some t => !f ((partsOf a).getD j nilT) t) (partsOf a).length = anyTo (fun j => match part (namesOf b) (partsOf b) ((namesOf a).getD j ⟨#[]⟩) with | none => true | some t => !g ((partsOf a).getD j nilT) t) (partsOf a).length :=
          anyTo_congr fun j hj => by
            cases hq : part (namesOf b) (partsOf b) ((namesOf a).getD j ⟨#[]⟩) with
            | none => rfl
            | some t => dsimp only; rw [h _ _ (ok_getParts ha hj) (ok_part hb hq) (sz_getParts hj) (sz_part hq)]
        rw [e1, e2]
        by_cases h8 : kindOf a = 8 ∨ kindOf a = 9
        · rw [h _ _ (ok_ofOf ha h8) (ok_ofOf hb (by omega)) (sz_ofOf ha h8) (sz_ofOf hb (by omega))]
        · simp [h8]
      · simp [hl]
    · simp [hp]
  · simp [hk]
theorem alikeN_eq : ∀ n m a b, okT a → okT b → sz a + sz b < n → sz a + sz b < m → alikeN n a b = alikeN m a b := by
  intro n
  induction n with
  | zero => intro m a b _ _ h; omega
  | succ n ih =>
    intro m a b ha hb h1 h2
    obtain ⟨m, rfl⟩ : ∃ q, m = q + 1 := ⟨m - 1, by omega⟩
    rw [alikeN_succ, alikeN_succ]
    exact alikeF_congr ha hb fun x y hx hy h3 h4 => ih m x y hx hy (by omega) (by omega)
def alike (a b : Tr) : Bool := alikeN (sz a + sz b + 1) a b
theorem alike_step {a b : Tr} (ha : okT a) (hb : okT b) : alike a b = alikeF alike a b := by
  unfold alike
  rw [alikeN_succ]
  exact alikeF_congr ha hb fun x y hx hy h3 h4 => alikeN_eq _ _ x y hx hy (by omega) (by omega)
end Ty
end Go.Proofs.YtdlbhiaceheffaaGreatDoor

namespace Go.Proofs.YtdlbhiaceheffaaGreatDoor
namespace Ty
mutual
/-- A tree, laid behind a list: the list, and its number. -/
def put : Tr → List Ty → List Ty × Nat
  | .mk k names parts list of, l =>
    ((putL of (putL list (putL parts l).1).1).1 ++ [⟨k, names.zip (putL parts l).2, (putL list (putL parts l).1).2, ((putL of (putL list (putL parts l).1).1).2).headD 0⟩], (putL of (putL list (putL parts l).1).1).1.length)
def putL : List Tr → List Ty → List Ty × List Nat
  | [], l => (l, [])
  | t :: ts, l => ((putL ts (put t l).1).1, (put t l).2 :: (putL ts (put t l).1).2)
end
theorem putL_snoc : ∀ (a : List Tr) (t : Tr) (l : List Ty), putL (a ++ [t]) l = ((put t (putL a l).1).1, (putL a l).2 ++ [(put t (putL a l).1).2])
  | [], t, l => by simp [putL]
  | x :: a, t, l => by
    rw [List.cons_append, putL, putL_snoc a t, putL]; rfl
mutual
/-- How many nodes a tree has. -/
def cnt : Tr → Nat
  | .mk _ _ p l o => cntL p + cntL l + cntL o + 1
def cntL : List Tr → Nat
  | [] => 0
  | t :: l => cnt t + cntL l
end
theorem cntL_snoc : ∀ (a : List Tr) (t : Tr), cntL (a ++ [t]) = cntL a + cnt t
  | [], t => by simp [cntL]
  | x :: a, t => by rw [List.cons_append, cntL, cntL_snoc a t, cntL]; omega
theorem cntL_append : ∀ (a b : List Tr), cntL (a ++ b) = cntL a + cntL b
  | [], b => by simp [cntL]
  | x :: a, b => by rw [List.cons_append, cntL, cntL_append a b, cntL]; omega
theorem cnt_pos (t : Tr) : 0 < cnt t := by cases t; rw [cnt]; omega
mutual
theorem put_ext : ∀ (t : Tr) (l : List Ty), ∃ m, (put t l).1 = l ++ m ∧ m.length = cnt t
  | .mk k names parts list of, l => by
    obtain ⟨m1, h1, k1⟩ := putL_ext parts l
    obtain ⟨m2, h2, k2⟩ := putL_ext list (putL parts l).1
    obtain ⟨m3, h3, k3⟩ := putL_ext of (putL list (putL parts l).1).1
    refine ⟨m1 ++ m2 ++ m3 ++ [⟨k, names.zip (putL parts l).2, (putL list (putL parts l).1).2, ((putL of (putL list (putL parts l).1).1).2).headD 0⟩], ?_, by simp [cnt, k1, k2, k3]; omega⟩
    rw [put, h3, h2, h1]
    simp
theorem putL_ext : ∀ (ts : List Tr) (l : List Ty), ∃ m, (putL ts l).1 = l ++ m ∧ m.length = cntL ts
  | [], l => ⟨[], by simp [putL], by simp [cntL]⟩
  | t :: ts, l => by
    obtain ⟨m1, h1, k1⟩ := put_ext t l
    obtain ⟨m2, h2, k2⟩ := putL_ext ts (put t l).1
    exact ⟨m1 ++ m2, by rw [putL, h2, h1]; simp, by simp [cntL, k1, k2]⟩
end
theorem put_num (t : Tr) (l : List Ty) : (put t l).2 + 1 = (put t l).1.length := by
  cases t; rw [put]; simp
theorem put_len (t : Tr) (l : List Ty) : (put t l).1.length = l.length + cnt t := by
  obtain ⟨m, h, k⟩ := put_ext t l; rw [h]; simp [k]
theorem putL_len (ts : List Tr) (l : List Ty) : (putL ts l).1.length = l.length + cntL ts := by
  obtain ⟨m, h, k⟩ := putL_ext ts l; rw [h]; simp [k]
theorem putL_nums : ∀ (ts : List Tr) (l : List Ty), (putL ts l).2.length = ts.length ∧ ∀ p ∈ (putL ts l).2, p < (putL ts l).1.length
  | [], l => by simp [putL]
  | t :: ts, l => by
    obtain ⟨h1, h2⟩ := putL_nums ts (put t l).1
    refine ⟨by simp [putL, h1], fun p hp => ?_⟩
    rw [putL] at hp ⊢
    rcases List.mem_cons.1 hp with rfl | hp
    · have := put_num t l
      have := putL_len ts (put t l).1
      dsimp only; omega
    · exact h2 p hp
/-- What stands behind says nothing of what is ahead. -/
theorem den_pre (l m : List Ty) : ∀ N n, n < N → n < l.length → den (l ++ m) n = den l n := by
  intro N
  induction N with
  | zero => intro n h; omega
  | succ N ih =>
    intro n hN hn
    conv => lhs; rw [den]
    conv => rhs; rw [den]
    rw [List.getElem?_append_left hn, List.getElem?_eq_getElem hn]
    dsimp only
    congr 1
    · exact List.map_congr_left fun f _ => by
        split
        · exact ih _ (by omega) (by omega)
        · rfl
    · exact List.map_congr_left fun j _ => by
        split
        · exact ih _ (by omega) (by omega)
        · rfl
    · split
      · congr 1
        split
        · exact ih _ (by omega) (by omega)
        · rfl
      · rfl
theorem den_app {l m : List Ty} {n : Nat} (h : n < l.length) : den (l ++ m) n = den l n := den_pre l m (n + 1) n (by omega) h
theorem den_last (l : List Ty) (t : Ty) (h1 : ∀ f ∈ t.fields, f.2 < l.length) (h2 : ∀ j ∈ t.list, j < l.length) (h3 : t.kind = 8 ∨ t.kind = 9 → t.of < l.length) :
    den (l ++ [t]) l.length = .mk t.kind (t.fields.map Prod.fst) (t.fields.map fun f => den l f.2) (t.list.map (den l)) (if t.kind = 8 ∨ t.kind = 9 then [den l t.of] else []) := by
  rw [den, List.getElem?_append_right (Nat.le_refl _), Nat.sub_self]
  dsimp only [List.getElem?_cons_zero]
  congr 1
  · exact List.map_congr_left fun f hf => by rw [dif_pos (h1 f hf), den_app (h1 f hf)]
  · exact List.map_congr_left fun j hj => by rw [dif_pos (h2 j hj), den_app (h2 j hj)]
  · split
    · rename_i hk; rw [dif_pos (h3 hk), den_app (h3 hk)]
    · rfl
theorem zip_fst : ∀ (a : List ByteArray) (b : List Nat), a.length = b.length → (a.zip b).map Prod.fst = a
  | [], [], _ => rfl
  | x :: a, y :: b, h => by simp [zip_fst a b (by simpa using h)]
theorem zip_snd {α : Type} (f : Nat → α) : ∀ (a : List ByteArray) (b : List Nat), a.length = b.length → ((a.zip b).map fun p => f p.2) = b.map f
  | [], [], _ => rfl
  | x :: a, y :: b, h => by
    have := zip_snd f a b (by simpa using h)
    simp only [List.zip_cons_cons, List.map_cons, this]
mutual
theorem put_den : ∀ (t : Tr) (l : List Ty), okT t → den (put t l).1 (put t l).2 = t
  | .mk k names parts list of, l, h => by
    rw [okT] at h
    obtain ⟨_, hn, h8, h89, _, _, _, hp, hl, ho⟩ := h
    have e1 := putL_den parts l hp
    have e2 := putL_den list (putL parts l).1 hl
    have e3 := putL_den of (putL list (putL parts l).1).1 ho
    obtain ⟨n1, b1⟩ := putL_nums parts l
    obtain ⟨n2, b2⟩ := putL_nums list (putL parts l).1
    obtain ⟨n3, b3⟩ := putL_nums of (putL list (putL parts l).1).1
    have g2 := putL_len list (putL parts l).1
    have g3 := putL_len of (putL list (putL parts l).1).1
    obtain ⟨m2, x2, _⟩ := putL_ext list (putL parts l).1
    obtain ⟨m3, x3, _⟩ := putL_ext of (putL list (putL parts l).1).1
    have hz : names.length = (putL parts l).2.length := by omega
    rw [put]
    dsimp only
    rw [den_last]
    · dsimp only
      rw [zip_fst _ _ hz, zip_snd _ _ _ hz]
      congr 1
      · refine Eq.trans (List.map_congr_left fun p hp => ?_) e1
        have := b1 p hp
        rw [x3, den_app (by omega), x2, den_app this]
      · refine Eq.trans (List.map_congr_left fun p hp => ?_) e2
        rw [x3, den_app (b2 p hp)]
      · split
        · rename_i hk
          have h1 := h8 hk
          match of, h1 with
          | [o], _ => simpa [putL] using e3
        · rename_i hk
          rw [h89 (by omega) (by omega)]
    · intro f hf
      have := b1 f.2 (List.of_mem_zip hf).2
      omega
    · intro j hj
      have := b2 j hj
      omega
    · intro hk
      have h1 := h8 hk
      match of, h1 with
      | [o], _ => exact b3 _ (by simp [putL])
theorem putL_den : ∀ (ts : List Tr) (l : List Ty), okL ts → (putL ts l).2.map (den (putL ts l).1) = ts
  | [], l, _ => by simp [putL]
  | t :: ts, l, h => by
    rw [okL] at h
    have e1 := put_den t l h.1
    have e2 := putL_den ts (put t l).1 h.2
    obtain ⟨m, x, _⟩ := putL_ext ts (put t l).1
    have := put_num t l
    rw [putL]
    dsimp only
    rw [List.map_cons, e2, x, den_app (by omega), e1]
end
mutual
/-- Unions have two at least. -/
def uniT : Tr → Prop
  | .mk k _ parts list of => (k = 10 → 2 ≤ list.length) ∧ uniL parts ∧ uniL list ∧ uniL of
def uniL : List Tr → Prop
  | [] => True
  | t :: l => uniT t ∧ uniL l
end
theorem uniL_of {l : List Tr} (h : ∀ t ∈ l, uniT t) : uniL l := by
  induction l with
  | nil => rw [uniL]; trivial
  | cons a l ih => rw [uniL]; exact ⟨h a (by simp), ih fun t ht => h t (by simp [ht])⟩
theorem uniL_mem {l : List Tr} (h : uniL l) : ∀ t ∈ l, uniT t := by
  induction l with
  | nil => intro t ht; simp at ht
  | cons a l ih =>
    rw [uniL] at h
    intro t ht
    rcases List.mem_cons.1 ht with rfl | ht
    · exact h.1
    · exact ih h.2 t ht
theorem den_uni {ts : List Ty} (hw : Wf ts) : ∀ N n, n < N → n < ts.length → uniT (den ts n) := by
  intro N
  induction N with
  | zero => intro n h; omega
  | succ N ih =>
    intro n hN hn
    have hg : ts[n]? = some ts[n] := List.getElem?_eq_getElem hn
    have hwf := hw n _ hg
    rw [den_eq hw hg, uniT]
    refine ⟨fun hk => by simpa using hwf.uni hk, uniL_of fun t ht => ?_, uniL_of fun t ht => ?_, uniL_of fun t ht => ?_⟩
    · obtain ⟨f, hf, rfl⟩ := List.mem_map.1 ht
      have := hwf.fields f hf
      exact ih _ (by omega) (by omega)
    · obtain ⟨j, hj, rfl⟩ := List.mem_map.1 ht
      have := hwf.list j hj
      exact ih _ (by omega) (by omega)
    · split at ht
      · rename_i hk
        simp at ht; subst ht
        have := hwf.of hk
        exact ih _ (by omega) (by omega)
      · simp at ht
mutual
theorem put_wf : ∀ (t : Tr) (l : List Ty), okT t → uniT t → Wf l → Wf (put t l).1
  | .mk k names parts list of, l, h, hu, hw => by
    rw [okT] at h
    rw [uniT] at hu
    obtain ⟨hk, hn, h8, h89, h7, h910, hlen, hp, hl, ho⟩ := h
    have w1 := putL_wf parts l hp hu.2.1 hw
    have w2 := putL_wf list _ hl hu.2.2.1 w1
    have w3 := putL_wf of _ ho hu.2.2.2 w2
    obtain ⟨n1, b1⟩ := putL_nums parts l
    obtain ⟨n2, b2⟩ := putL_nums list (putL parts l).1
    obtain ⟨n3, b3⟩ := putL_nums of (putL list (putL parts l).1).1
    have g2 := putL_len list (putL parts l).1
    have g3 := putL_len of (putL list (putL parts l).1).1
    rw [put]
    refine w3.snoc ⟨fun f hf => ?_, fun j hj => ?_, fun hk8 => ?_, hk, fun h => ?_, fun h9 h10 => ?_, fun h8' h9 => ?_, fun h10 => ?_, ?_⟩
    · have := b1 f.2 (List.of_mem_zip hf).2; omega
    · have := b2 j hj; omega
    · have h1 := h8 hk8
      match of, h1 with
      | [o], _ => exact b3 _ (by simp [putL])
    · dsimp only at h ⊢; rw [h7 h]; simp [putL]
    · dsimp only at h9 h10 ⊢; rw [h910 h9 h10]; simp [putL]
    · dsimp only at h8' h9 ⊢; rw [h89 h8' h9]; simp [putL]
    · dsimp only at h10 ⊢; have := hu.1 h10; omega
    · dsimp only; rw [List.length_zip]; omega
theorem putL_wf : ∀ (ts : List Tr) (l : List Ty), okL ts → uniL ts → Wf l → Wf (putL ts l).1
  | [], l, _, _, hw => by rw [putL]; exact hw
  | t :: ts, l, h, hu, hw => by
    rw [okL] at h
    rw [uniL] at hu
    rw [putL]
    exact putL_wf ts _ h.2 hu.2 (put_wf t l h.1 hu.1 hw)
end
end Ty
end Go.Proofs.YtdlbhiaceheffaaGreatDoor

namespace Go.Proofs.YtdlbhiaceheffaaGreatDoor
namespace Ty
open Tok (Tk)
def Ext (a b : List Ty) : Prop := ∃ e, b = a ++ e
theorem Ext.refl (a : List Ty) : Ext a a := ⟨[], by simp⟩
theorem Ext.trans {a b c : List Ty} (h : Ext a b) (k : Ext b c) : Ext a c := by
  obtain ⟨e, rfl⟩ := h
  obtain ⟨f, rfl⟩ := k
  exact ⟨e ++ f, by simp⟩
theorem Ext.len {a b : List Ty} (h : Ext a b) : a.length ≤ b.length := by obtain ⟨e, rfl⟩ := h; simp
theorem Ext.den {a b : List Ty} (h : Ext a b) {n : Nat} (hn : n < a.length) : Ty.den b n = Ty.den a n := by obtain ⟨e, rfl⟩ := h; exact den_app hn
theorem Ext.dens {a b : List Ty} (h : Ext a b) {l : List Nat} (hl : All l a) : l.map (Ty.den b) = l.map (Ty.den a) := List.map_congr_left fun j hj => h.den (hl j hj)
/-- What is made is as great as what the list grew; it is the last. -/
def Grow (m : M Nat) : Prop := ∀ s a s', Wf s.ts → m s = .ok (a, s') → Ext s.ts s'.ts ∧ s.ts.length + cnt (den s'.ts a) ≤ s'.ts.length ∧ a + 1 = s'.ts.length
def Last (l : List Nat) (ts : List Ty) : Prop := ∀ n, l.getLast? = some n → n + 1 = ts.length
theorem Last.nil (ts : List Ty) : Last [] ts := fun n h => by simp at h
theorem Last.snoc {l : List Nat} {n : Nat} {ts : List Ty} (h : n + 1 = ts.length) : Last (l ++ [n]) ts := fun m hm => by simp at hm; subst hm; exact h
theorem newType_grow {t : Ty} {s s' : St} {n : Nat} (ht : WfAt s.ts.length t) (h : newType t s = .ok (n, s')) : Ext s.ts s'.ts ∧ s'.ts.length = s.ts.length + 1 ∧ cnt (den s'.ts n) = cntL (t.fields.map fun f => den s.ts f.2) + cntL (t.list.map (den s.ts)) + cntL (if t.kind = 8 ∨ t.kind = 9 then [den s.ts t.of] else []) + 1 ∧ n + 1 = s'.ts.length := by
  cases h
  refine ⟨⟨_, rfl⟩, by simp, ?_, by simp⟩
  dsimp only
  rw [den_last _ _ ht.fields ht.list ht.of, cnt]
theorem list_grow {toks : List Tk} {x : List UInt8} {T : M Nat} (hT : Keep T Num) (hG : Grow T) : ∀ f l s l' s', Wf s.ts → All l s.ts → Last l s.ts → list toks x (fun _ => T) f l s = .ok (l', s') → Ext s.ts s'.ts ∧ s.ts.length + cntL (l'.map (den s'.ts)) ≤ s'.ts.length + cntL (l.map (den s.ts)) ∧ Last l' s'.ts
  | 0, l, s, l', s', _, _, _, h => by cases h
  | f + 1, l, s, l', s', hw, hl, hla, h => by
    obtain ⟨b, s1, e1, e2⟩ := bnd_inv h
    have t1 := take_keep _ _ e1
    cases b
    · simp only [Bool.false_eq_true, if_false] at e2
      obtain ⟨u, s2, e3, e4⟩ := bnd_inv e2
      have t2 : s2.ts = s1.ts := by
        split at e3
        · cases e3; rfl
        · exact need_keep _ _ e3
      obtain ⟨n, s3, e5, e6⟩ := bnd_inv e4
      rw [t1] at t2
      obtain ⟨h1, h2, h3⟩ := hT _ _ _ (by rw [t2]; exact hw) e5
      obtain ⟨k1, k2, k3⟩ := hG _ _ _ (by rw [t2]; exact hw) e5
      rw [t2] at h2 k1 k2
      have hl3 : All l s3.ts := fun j hj => by have := hl j hj; omega
      obtain ⟨g1, g2, g3⟩ := list_grow hT hG f (l ++ [n]) s3 l' s' h1 (fun j hj => by
        rw [List.mem_append] at hj
        rcases hj with hj | hj
        · exact hl3 j hj
        · simp at hj; subst hj; exact h3) (Last.snoc k3) e6
      rw [List.map_append, cntL_append, k1.dens hl] at g2
      simp only [List.map_cons, List.map_nil, cntL] at g2
      exact ⟨k1.trans g1, by omega, g3⟩
    · simp only [if_true] at e2
      cases e2
      rw [t1]; exact ⟨Ext.refl _, by omega, hla⟩
theorem fields_grow {toks : List Tk} {T : M Nat} (hT : Keep T Num) (hG : Grow T) : ∀ f l s l' s', Wf s.ts → All (l.map Prod.snd) s.ts → fields toks T f l s = .ok (l', s') → Ext s.ts s'.ts ∧ s.ts.length + cntL ((l'.map Prod.snd).map (den s'.ts)) ≤ s'.ts.length + cntL ((l.map Prod.snd).map (den s.ts))
  | 0, l, s, l', s', _, _, h => by cases h
  | f + 1, l, s, l', s', hw, hl, h => by
    obtain ⟨b, s1, e1, e2⟩ := bnd_inv h
    have t1 := take_keep _ _ e1
    cases b
    · simp only [Bool.false_eq_true, if_false] at e2
      obtain ⟨x, s2, e3, e4⟩ := bnd_inv e2
      have t2 := name_keep _ _ e3
      obtain ⟨u, s3, e5, e6⟩ := bnd_inv e4
      have t3 := need_keep _ _ e5
      obtain ⟨n, s4, e7, e8⟩ := bnd_inv e6
      obtain ⟨u, s5, e9, e10⟩ := bnd_inv e8
      have t5 := need_keep _ _ e9
      have t : s3.ts = s.ts := by rw [t3, t2, t1]
      obtain ⟨h1, h2, h3⟩ := hT _ _ _ (by rw [t]; exact hw) e7
      obtain ⟨k1, k2, _⟩ := hG _ _ _ (by rw [t]; exact hw) e7
      rw [t] at h2 k1 k2
      rw [← t5] at h1 h2 h3 k1 k2
      have hl3 : All (l.map Prod.snd) s5.ts := fun j hj => by have := hl j hj; omega
      obtain ⟨g1, g2⟩ := fields_grow hT hG f (l ++ [(x, n)]) s5 l' s' h1 (fun j hj => by
        rw [List.map_append, List.mem_append] at hj
        rcases hj with hj | hj
        · exact hl3 j hj
        · simp at hj; subst hj; exact h3) e10
      rw [List.map_append, List.map_append, cntL_append, k1.dens hl] at g2
      simp only [List.map_cons, List.map_nil, cntL] at g2
      exact ⟨k1.trans g1, by omega⟩
    · simp only [if_true] at e2
      cases e2
      rw [t1]; exact ⟨Ext.refl _, by omega⟩
theorem single_grow {toks : List Tk} (hL : toks.length ≤ 1001) {T : M Nat} (hT : Keep T Num) (hG : Grow T) : Grow (single toks T) := fun s n s' hw h => by
  unfold single at h
  split at h
  · rename_i hk
    obtain ⟨u, s1, e1, e2⟩ := bnd_inv h
    cases e1
    cases e2
    refine ⟨⟨_, rfl⟩, ?_, by simp⟩
    have h8 : ¬ (plainKind (cur toks s.pos).text = 8 ∨ plainKind (cur toks s.pos).text = 9) := by
      have : plainKind (cur toks s.pos).text ≤ 6 := by
        unfold plainKind
        split
        · rename_i i hi
          obtain ⟨h1, _⟩ := List.idxOf?_eq_some_iff.1 hi
          simp [plains] at h1; omega
        · omega
      omega
    dsimp only
    rw [den_last _ _ (fun f hf => by simp at hf) (fun j hj => by simp at hj) (fun h => absurd h h8), cnt]
    dsimp only
    rw [if_neg h8]
    simp [cntL]
  · obtain ⟨b, s1, e1, e2⟩ := bnd_inv h
    have t1 := take_keep _ _ e1
    rw [← t1] at hw
    suffices H : Ext s1.ts s'.ts ∧ s1.ts.length + cnt (den s'.ts n) ≤ s'.ts.length ∧ n + 1 = s'.ts.length by rw [t1] at H; exact H
    cases b
    · simp only [Bool.false_eq_true, if_false] at e2
      obtain ⟨b, s2, e3, e4⟩ := bnd_inv e2
      have t2 := take_keep _ _ e3
      rw [← t2] at hw
      rw [← t2]
      cases b
      · simp only [Bool.false_eq_true, if_false] at e4
        obtain ⟨u, s3, e5, e6⟩ := bnd_inv e4
        have t3 := need_keep _ _ e5
        rw [← t3] at hw
        rw [← t3]
        obtain ⟨l, s4, e7, e8⟩ := bnd_inv e6
        obtain ⟨h1, h2, h3⟩ := list_keep hT _ _ _ _ _ hw (fun j hj => by simp at hj) e7
        obtain ⟨k1, k2, kl⟩ := list_grow hT hG _ _ _ _ _ hw (fun j hj => by simp at hj) (Last.nil _) e7
        obtain ⟨b, s5, e9, e10⟩ := bnd_inv e8
        have t5 := take_keep _ _ e9
        rw [← t5] at h1 h2 h3 k1 k2 kl
        simp only [List.map_nil, cntL] at k2
        cases b
        · simp only [Bool.false_eq_true, if_false] at e10
          split at e10
          · rename_i hl
            cases e10
            obtain ⟨n, rfl⟩ := List.length_eq_one_iff.1 hl
            simp only [List.map_cons, List.map_nil, cntL] at k2
            exact ⟨k1, by simp; omega, kl _ rfl⟩
          · cases e10
        · simp only [if_true] at e10
          obtain ⟨m, s6, e11, e12⟩ := bnd_inv e10
          obtain ⟨g1, g2, g3⟩ := hT _ _ _ h1 e11
          obtain ⟨j1, j2, _⟩ := hG _ _ _ h1 e11
          have hl6 : All l s6.ts := fun j hj => by have := h3 j hj; omega
          obtain ⟨i1, i2, i3, i4⟩ := newType_grow (s := s6) ⟨fun f hf => by simp at hf, fun j hj => hl6 j hj, fun _ => (show m < _ from g3), ⟨by simp, by simp⟩, fun _ => rfl, fun h => absurd rfl h, fun _ h => absurd rfl h, fun h => (by cases h), ⟨by simp, by have := list_lens _ _ _ _ _ e7; simp at this; dsimp only; omega⟩⟩ e12
          refine ⟨(k1.trans j1).trans i1, ?_, i4⟩
          dsimp only at i3
          rw [j1.dens h3] at i3
          simp [cntL] at i3
          omega
      · simp only [if_true] at e4
        obtain ⟨m, s3, e5, e6⟩ := bnd_inv e4
        obtain ⟨g1, g2, g3⟩ := hT _ _ _ hw e5
        obtain ⟨j1, j2, _⟩ := hG _ _ _ hw e5
        obtain ⟨u, s4, e7, e8⟩ := bnd_inv e6
        have t4 := need_keep _ _ e7
        rw [← t4] at g1 g2 g3 j1 j2
        obtain ⟨i1, i2, i3, i4⟩ := newType_grow (s := s4) ⟨fun f hf => by simp at hf, fun j hj => by simp at hj, fun _ => (show m < _ from g3), ⟨by simp, by simp⟩, fun _ => rfl, fun _ _ => rfl, fun h => absurd rfl h, fun h => (by cases h), ⟨by simp, by simp⟩⟩ e8
        simp [cntL] at i3
        exact ⟨j1.trans i1, by omega, i4⟩
    · simp only [if_true] at e2
      unfold object at e2
      obtain ⟨l, s2, e3, e4⟩ := bnd_inv e2
      obtain ⟨h1, h2, h3⟩ := fields_keep hT _ _ _ _ _ hw (fun j hj => by simp at hj) e3
      obtain ⟨k1, k2⟩ := fields_grow hT hG _ _ _ _ _ hw (fun j hj => by simp at hj) e3
      simp only [List.map_nil, cntL] at k2
      obtain ⟨i1, i2, i3, i4⟩ := newType_grow (s := s2) ⟨fun f hf => h3 _ (List.mem_map_of_mem hf), fun j hj => by simp at hj, fun h => by dsimp only at h; omega, ⟨by simp, by simp⟩, fun h => absurd rfl h, fun _ _ => rfl, fun _ _ => rfl, fun h => (by cases h), ⟨by have := fields_lens _ _ _ _ _ e3; simp at this; dsimp only; omega, by simp⟩⟩ e4
      have e5 : (l.map fun f => den s2.ts f.2) = (l.map Prod.snd).map (den s2.ts) := by rw [List.map_map]; rfl
      simp [cntL, e5] at i3
      simp at k2
      exact ⟨k1.trans i1, by omega, i4⟩
theorem bars_grow {toks : List Tk} {S : M Nat} (hS : Keep S Num) (hG : Grow S) : ∀ f l s l' s', Wf s.ts → All l s.ts → Last l s.ts → bars toks S f l s = .ok (l', s') → Ext s.ts s'.ts ∧ s.ts.length + cntL (l'.map (den s'.ts)) ≤ s'.ts.length + cntL (l.map (den s.ts)) ∧ Last l' s'.ts
  | 0, l, s, l', s', _, _, _, h => by cases h
  | f + 1, l, s, l', s', hw, hl, hla, h => by
    obtain ⟨b, s1, e1, e2⟩ := bnd_inv h
    have t1 := take_keep _ _ e1
    cases b
    · simp only [Bool.false_eq_true, if_false] at e2
      cases e2
      rw [t1]; exact ⟨Ext.refl _, by omega, hla⟩
    · simp only [if_true] at e2
      obtain ⟨n, s2, e3, e4⟩ := bnd_inv e2
      obtain ⟨h1, h2, h3⟩ := hS _ _ _ (by rw [t1]; exact hw) e3
      obtain ⟨k1, k2, k3⟩ := hG _ _ _ (by rw [t1]; exact hw) e3
      rw [t1] at h2 k1 k2
      have hl3 : All l s2.ts := fun j hj => by have := hl j hj; omega
      obtain ⟨g1, g2, g3⟩ := bars_grow hS hG f (l ++ [n]) s2 l' s' h1 (fun j hj => by
        rw [List.mem_append] at hj
        rcases hj with hj | hj
        · exact hl3 j hj
        · simp at hj; subst hj; exact h3) (Last.snoc k3) e4
      rw [List.map_append, cntL_append, k1.dens hl] at g2
      simp only [List.map_cons, List.map_nil, cntL] at g2
      exact ⟨k1.trans g1, by omega, g3⟩
theorem union_grow {toks : List Tk} (hL : toks.length ≤ 1001) {S : M Nat} (hS : Keep S Num) (hG : Grow S) : Grow (union toks S) := fun s n s' hw h => by
  obtain ⟨m, s1, e1, e2⟩ := bnd_inv h
  obtain ⟨h1, h2, h3⟩ := hS _ _ _ hw e1
  obtain ⟨k1, k2, k3⟩ := hG _ _ _ hw e1
  obtain ⟨l, s2, e3, e4⟩ := bnd_inv e2
  obtain ⟨g1, g2, g3, g4⟩ := bars_keep hS _ _ _ _ _ h1 (fun j hj => by simp at hj; subst hj; exact h3) e3
  obtain ⟨j1, j2, j3⟩ := bars_grow hS hG _ _ _ _ _ h1 (fun j hj => by simp at hj; subst hj; exact h3) (show Last [m] s1.ts from Last.snoc (l := []) k3) e3
  simp only [List.length_cons, List.length_nil] at g4
  simp only [List.map_cons, List.map_nil, cntL] at j2
  split at e4
  · rename_i hl
    cases e4
    obtain ⟨n, rfl⟩ := List.length_eq_one_iff.1 hl
    simp only [List.map_cons, List.map_nil, cntL] at j2
    exact ⟨k1.trans j1, by simp; omega, j3 _ rfl⟩
  · obtain ⟨i1, i2, i3, i4⟩ := newType_grow (s := s2) ⟨fun f hf => by simp at hf, fun j hj => g3 j hj, fun h => by dsimp only at h; omega, ⟨by simp, by simp⟩, fun _ => rfl, fun _ h => absurd rfl h, fun _ _ => rfl, fun _ => (by dsimp only; omega), ⟨by simp, by have := bars_lens _ _ _ _ _ e3; simp at this; dsimp only; omega⟩⟩ e4
    simp [cntL] at i3
    exact ⟨(k1.trans j1).trans i1, by omega, i4⟩
theorem typ_grow (toks : List Tk) (hL : toks.length ≤ 1001) : ∀ r, Grow (typ toks r)
  | 0 => fun s a s' _ h => by cases h
  | r + 1 => union_grow hL (single_keep hL (typ_keep toks hL r)) (single_grow hL (typ_keep toks hL r) (typ_grow toks hL r))
theorem typeOf_cnt {s : ByteArray} {ts : List Ty} (h : typeOf s = .ok ts) : cnt (den ts (ts.length - 1)) ≤ ts.length := by
  unfold typeOf at h
  split at h
  · cases h
  · rename_i toks hsc
    split at h
    · cases h
    · rename_i n st e
      split at h
      · cases h
      · split at h
        · cases h
        · cases h
          obtain ⟨_, h2, h3⟩ := typ_grow toks (Tok.scan_ok _ _ hsc).2.1 20 _ _ _ Wf.nil e
          have : st.ts.length - 1 = n := by omega
          rw [this]
          simp at h2
          exact h2
end Ty
end Go.Proofs.YtdlbhiaceheffaaGreatDoor
