/- Plain: types as trees; what a list of types says. Types in memory: lists of types that are read, and trees. Nodes that are read; walks of the parser's of, start, two. Plain: expressions and statements as trees; how they are laid as nodes. No program in sight. -/
import Derived.Test.YtdlbhiaceheffabGreatDoorS08
import Derived.Test.YtdlbhiaceheffabGreatDoorS06
set_option linter.all false
set_option maxRecDepth 100000
set_option maxHeartbeats 1000000
namespace Go.Proofs.YtdlbhiaceheffabGreatDoor
section
namespace Ty
open Tok (Tk)
inductive Tr where
 | mk (kind : Nat) (names : List ByteArray) (parts list of : List Tr)
structure WfAt (i : Nat) (t : Ty) : Prop where
 fields : ∀ f ∈ t.fields, f.2 < i
 list : ∀ j ∈ t.list, j < i
 of : t.kind = 8 ∨ t.kind = 9 → t.of < i
 kind : 1 ≤ t.kind ∧ t.kind ≤ 10
 noParts : t.kind ≠ 7 → t.fields = []
 noList : t.kind ≠ 9 → t.kind ≠ 10 → t.list = []
 noOf : t.kind ≠ 8 → t.kind ≠ 9 → t.of = 0
 uni : t.kind = 10 → 2 ≤ t.list.length
 lens : t.fields.length ≤ 1000000 ∧ t.list.length ≤ 1000000
def Wf (ts : List Ty) : Prop := ∀ i t, ts[i]? = some t → WfAt i t
theorem Wf.nil : Wf [] := fun i t h => by simp at h
theorem Wf.snoc {ts : List Ty} {t : Ty} (h : Wf ts) (ht : WfAt ts.length t) : Wf (ts ++ [t]) := fun i u hu => by
 by_cases hi : i < ts.length
 · rw [List.getElem?_append_left hi] at hu; exact h i u hu
 · rw [List.getElem?_append_right (by omega)] at hu
   have h0 : i - ts.length = 0 := by
     refine Nat.eq_zero_of_not_pos fun hp => ?_
     rw [List.getElem?_eq_none (by simp; omega)] at hu; cases hu
   rw [h0] at hu
   simp at hu
   subst hu
   have : i = ts.length := by omega
   rw [this]; exact ht
def Keep {α : Type} (m : M α) (P : α → List Ty → Prop) : Prop := ∀ s a s', Wf s.ts → m s = .ok (a, s') → Wf s'.ts ∧ s.ts.length ≤ s'.ts.length ∧ P a s'.ts
theorem Keep.bnd {α β : Type} {m : M α} {k : α → M β} {P : α → List Ty → Prop} {Q : β → List Ty → Prop} (h : Keep m P) (g : ∀ a (s : St) b s', Wf s.ts → P a s.ts → k a s = .ok (b, s') → Wf s'.ts ∧ s.ts.length ≤ s'.ts.length ∧ Q b s'.ts) : Keep (Ty.bnd m k) Q := fun s b s' hw e => by
 obtain ⟨a, s1, e1, e2⟩ := bnd_inv e
 obtain ⟨h1, h2, h3⟩ := h _ _ _ hw e1
 obtain ⟨g1, g2, g3⟩ := g a s1 b s' h1 h3 e2
 exact ⟨g1, by omega, g3⟩
theorem take_keep (toks : List Tk) (x : List UInt8) {s s' : St} {b : Bool} (h : take toks x s = .ok (b, s')) : s'.ts = s.ts := by
 unfold take at h; split at h <;> cases h <;> rfl
theorem need_keep (toks : List Tk) (x : List UInt8) {s s' : St} {u : Unit} (h : need toks x s = .ok (u, s')) : s'.ts = s.ts := by
 unfold need at h; split at h <;> cases h; rfl
theorem name_keep (toks : List Tk) (met : List ByteArray) {s s' : St} {x : ByteArray} (h : name toks met s = .ok (x, s')) : s'.ts = s.ts := by
 unfold name at h
 split at h
 · cases h
 · split at h <;> cases h; rfl
def Num (n : Nat) (ts : List Ty) : Prop := n < ts.length
theorem newType_keep {t : Ty} {s s' : St} {n : Nat} (hw : Wf s.ts) (ht : WfAt s.ts.length t) (h : newType t s = .ok (n, s')) : Wf s'.ts ∧ s.ts.length ≤ s'.ts.length ∧ Num n s'.ts := by
 cases h
 exact ⟨hw.snoc ht, by simp, by simp [Num]⟩
def All (l : List Nat) (ts : List Ty) : Prop := ∀ j ∈ l, j < ts.length
theorem list_lens {toks : List Tk} {x : List UInt8} {α : Type} {m : List α → M α} : ∀ f l s l' s', list toks x m f l s = .ok (l', s') → l'.length ≤ l.length + f
 | 0, l, s, l', s', h => by cases h
 | f + 1, l, s, l', s', h => by
   obtain ⟨b, s1, e1, e2⟩ := bnd_inv h
   cases b
   · simp only [Bool.false_eq_true, if_false] at e2
     obtain ⟨u, s2, e3, e4⟩ := bnd_inv e2
     obtain ⟨n, s3, e5, e6⟩ := bnd_inv e4
     have := list_lens f _ _ _ _ e6
     simp at this; omega
   · simp only [if_true] at e2
     cases e2; omega
theorem fields_lens {toks : List Tk} {T : M Nat} : ∀ f l s l' s', fields toks T f l s = .ok (l', s') → l'.length ≤ l.length + f
 | 0, l, s, l', s', h => by cases h
 | f + 1, l, s, l', s', h => by
   obtain ⟨b, s1, e1, e2⟩ := bnd_inv h
   cases b
   · simp only [Bool.false_eq_true, if_false] at e2
     obtain ⟨x, s2, e3, e4⟩ := bnd_inv e2
     obtain ⟨u, s3, e5, e6⟩ := bnd_inv e4
     obtain ⟨n, s4, e7, e8⟩ := bnd_inv e6
     obtain ⟨u, s5, e9, e10⟩ := bnd_inv e8
     have := fields_lens f _ _ _ _ e10
     simp at this; omega
   · simp only [if_true] at e2
     cases e2; omega
theorem bars_lens {toks : List Tk} {S : M Nat} : ∀ f l s l' s', bars toks S f l s = .ok (l', s') → l'.length ≤ l.length + f
 | 0, l, s, l', s', h => by cases h
 | f + 1, l, s, l', s', h => by
   obtain ⟨b, s1, e1, e2⟩ := bnd_inv h
   cases b
   · simp only [Bool.false_eq_true, if_false] at e2
     cases e2; omega
   · simp only [if_true] at e2
     obtain ⟨n, s2, e3, e4⟩ := bnd_inv e2
     have := bars_lens f _ _ _ _ e4
     simp at this; omega
theorem list_keep {toks : List Tk} {x : List UInt8} {T : M Nat} (hT : Keep T Num) : ∀ f l s l' s', Wf s.ts → All l s.ts → list toks x (fun _ => T) f l s = .ok (l', s') → Wf s'.ts ∧ s.ts.length ≤ s'.ts.length ∧ All l' s'.ts
 | 0, l, s, l', s', _, _, h => by cases h
 | f + 1, l, s, l', s', hw, hl, h => by
   obtain ⟨b, s1, e1, e2⟩ := bnd_inv h
   have t1 := take_keep _ _ e1
   cases b
   · simp only [Bool.false_eq_true, if_false] at e2
     obtain ⟨u, s2, e3, e4⟩ := bnd_inv e2
     have t2 : s2.ts = s1.ts := by
       split at e3
       · cases e3; rfl
       · exact need_keep _ _ e3
     obtain ⟨n, s3, e5, e6⟩ := bnd_inv e4
     rw [t1] at t2
     obtain ⟨h1, h2, h3⟩ := hT _ _ _ (by rw [t2]; exact hw) e5
     rw [t2] at h2
     obtain ⟨g1, g2, g3⟩ := list_keep hT f (l ++ [n]) s3 l' s' h1 (fun j hj => by
       rw [List.mem_append] at hj
       rcases hj with hj | hj
       · have := hl j hj; omega
       · simp at hj; subst hj; unfold Num at h3; omega) e6
     exact ⟨g1, by omega, g3⟩
   · simp only [if_true] at e2
     cases e2
     rw [t1]; exact ⟨hw, by omega, hl⟩
theorem fields_keep {toks : List Tk} {T : M Nat} (hT : Keep T Num) : ∀ f l s l' s', Wf s.ts → All (l.map Prod.snd) s.ts → fields toks T f l s = .ok (l', s') → Wf s'.ts ∧ s.ts.length ≤ s'.ts.length ∧ All (l'.map Prod.snd) s'.ts
 | 0, l, s, l', s', _, _, h => by cases h
 | f + 1, l, s, l', s', hw, hl, h => by
   obtain ⟨b, s1, e1, e2⟩ := bnd_inv h
   have t1 := take_keep _ _ e1
   cases b
   · simp only [Bool.false_eq_true, if_false] at e2
     obtain ⟨x, s2, e3, e4⟩ := bnd_inv e2
     have t2 := name_keep _ _ e3
     obtain ⟨u, s3, e5, e6⟩ := bnd_inv e4
     have t3 := need_keep _ _ e5
     obtain ⟨n, s4, e7, e8⟩ := bnd_inv e6
     obtain ⟨u, s5, e9, e10⟩ := bnd_inv e8
     have t5 := need_keep _ _ e9
     have t : s3.ts = s.ts := by rw [t3, t2, t1]
     obtain ⟨h1, h2, h3⟩ := hT _ _ _ (by rw [t]; exact hw) e7
     rw [t] at h2
     obtain ⟨g1, g2, g3⟩ := fields_keep hT f (l ++ [(x, n)]) s5 l' s' (by rw [t5]; exact h1) (fun j hj => by
       rw [List.map_append, List.mem_append] at hj
       rw [t5]
       rcases hj with hj | hj
       · have := hl j hj; omega
       · simp at hj; subst hj; unfold Num at h3; omega) e10
     rw [t5] at g2
     exact ⟨g1, by omega, g3⟩
   · simp only [if_true] at e2
     cases e2
     rw [t1]; exact ⟨hw, by omega, hl⟩
theorem single_keep {toks : List Tk} (hL : toks.length ≤ 1001) {T : M Nat} (hT : Keep T Num) : Keep (single toks T) Num := fun s n s' hw h => by
 unfold single at h
 split at h
 · rename_i hk
   obtain ⟨u, s1, e1, e2⟩ := bnd_inv h
   cases e1
   have hp : plainKind (cur toks s.pos).text ≤ 6 := by
     unfold plainKind
     split
     · rename_i i hi
       have := List.idxOf?_eq_some_iff.1 hi
       obtain ⟨h1, _⟩ := this
       simp [plains] at h1; omega
     · omega
   exact newType_keep (s := { s with pos := s.pos + 1 }) hw ⟨fun f hf => by simp at hf, fun j hj => by simp at hj, fun h => by dsimp only at h; omega, ⟨by have := hk.2; show 1 ≤ plainKind _; omega, by dsimp only; omega⟩, fun _ => rfl, fun _ _ => rfl, fun _ _ => rfl, fun h => (by dsimp only at h; omega), ⟨by simp, by simp⟩⟩ e2
 · obtain ⟨b, s1, e1, e2⟩ := bnd_inv h
   have t1 := take_keep _ _ e1
   rw [← t1] at hw
   suffices H : Wf s'.ts ∧ s1.ts.length ≤ s'.ts.length ∧ Num n s'.ts by rw [t1] at H; exact H
   cases b
   · simp only [Bool.false_eq_true, if_false] at e2
     obtain ⟨b, s2, e3, e4⟩ := bnd_inv e2
     have t2 := take_keep _ _ e3
     rw [← t2] at hw
     rw [← t2]
     cases b
     · simp only [Bool.false_eq_true, if_false] at e4
       obtain ⟨u, s3, e5, e6⟩ := bnd_inv e4
       have t3 := need_keep _ _ e5
       rw [← t3] at hw
       rw [← t3]
       obtain ⟨l, s4, e7, e8⟩ := bnd_inv e6
       obtain ⟨h1, h2, h3⟩ := list_keep hT _ _ _ _ _ hw (fun j hj => by simp at hj) e7
       obtain ⟨b, s5, e9, e10⟩ := bnd_inv e8
       have t5 := take_keep _ _ e9
       rw [← t5] at h1 h2 h3
       cases b
       · simp only [Bool.false_eq_true, if_false] at e10
         split at e10
         · rename_i hl
           cases e10
           refine ⟨h1, h2, ?_⟩
           obtain ⟨n, rfl⟩ := List.length_eq_one_iff.1 hl
           exact h3 n (by simp)
         · cases e10
       · simp only [if_true] at e10
         obtain ⟨m, s6, e11, e12⟩ := bnd_inv e10
         obtain ⟨g1, g2, g3⟩ := hT _ _ _ h1 e11
         obtain ⟨k1, k2, k3⟩ := newType_keep g1 ⟨fun f hf => by simp at hf, fun j hj => by have := h3 j hj; omega, fun _ => by unfold Num at g3; show m < _; omega, ⟨by simp, by simp⟩, fun _ => rfl, fun h => absurd rfl h, fun _ h => absurd rfl h, fun h => (by cases h), ⟨by simp, by have := list_lens _ _ _ _ _ e7; simp at this; dsimp only; omega⟩⟩ e12
         exact ⟨k1, by omega, k3⟩
     · simp only [if_true] at e4
       obtain ⟨m, s3, e5, e6⟩ := bnd_inv e4
       obtain ⟨g1, g2, g3⟩ := hT _ _ _ hw e5
       obtain ⟨u, s4, e7, e8⟩ := bnd_inv e6
       have t4 := need_keep _ _ e7
       obtain ⟨k1, k2, k3⟩ := newType_keep (by rw [t4]; exact g1) ⟨fun f hf => by simp at hf, fun j hj => by simp at hj, fun _ => by unfold Num at g3; rw [t4]; show m < _; omega, ⟨by simp, by simp⟩, fun _ => rfl, fun _ _ => rfl, fun h => absurd rfl h, fun h => (by cases h), ⟨by simp, by simp⟩⟩ e8
       rw [t4] at k2
       exact ⟨k1, by omega, k3⟩
   · simp only [if_true] at e2
     unfold object at e2
     obtain ⟨l, s2, e3, e4⟩ := bnd_inv e2
     obtain ⟨h1, h2, h3⟩ := fields_keep hT _ _ _ _ _ hw (fun j hj => by simp at hj) e3
     obtain ⟨k1, k2, k3⟩ := newType_keep h1 ⟨fun f hf => h3 _ (List.mem_map_of_mem hf), fun j hj => by simp at hj, fun h => by dsimp only at h; omega, ⟨by simp, by simp⟩, fun h => absurd rfl h, fun _ _ => rfl, fun _ _ => rfl, fun h => (by cases h), ⟨by have := fields_lens _ _ _ _ _ e3; simp at this; dsimp only; omega, by simp⟩⟩ e4
     exact ⟨k1, by omega, k3⟩
theorem bars_keep {toks : List Tk} {S : M Nat} (hS : Keep S Num) : ∀ f l s l' s', Wf s.ts → All l s.ts → bars toks S f l s = .ok (l', s') → Wf s'.ts ∧ s.ts.length ≤ s'.ts.length ∧ All l' s'.ts ∧ l.length ≤ l'.length
 | 0, l, s, l', s', _, _, h => by cases h
 | f + 1, l, s, l', s', hw, hl, h => by
   obtain ⟨b, s1, e1, e2⟩ := bnd_inv h
   have t1 := take_keep _ _ e1
   cases b
   · simp only [Bool.false_eq_true, if_false] at e2
     cases e2
     rw [t1]; exact ⟨hw, by omega, hl, by omega⟩
   · simp only [if_true] at e2
     obtain ⟨n, s2, e3, e4⟩ := bnd_inv e2
     obtain ⟨h1, h2, h3⟩ := hS _ _ _ (by rw [t1]; exact hw) e3
     rw [t1] at h2
     obtain ⟨g1, g2, g3, g4⟩ := bars_keep hS f (l ++ [n]) s2 l' s' h1 (fun j hj => by
       rw [List.mem_append] at hj
       rcases hj with hj | hj
       · have := hl j hj; omega
       · simp at hj; subst hj; unfold Num at h3; omega) e4
     exact ⟨g1, by omega, g3, by simp at g4; omega⟩
theorem union_keep {toks : List Tk} (hL : toks.length ≤ 1001) {S : M Nat} (hS : Keep S Num) : Keep (union toks S) Num := fun s n s' hw h => by
 obtain ⟨m, s1, e1, e2⟩ := bnd_inv h
 obtain ⟨h1, h2, h3⟩ := hS _ _ _ hw e1
 obtain ⟨l, s2, e3, e4⟩ := bnd_inv e2
 obtain ⟨g1, g2, g3, g4⟩ := bars_keep hS _ _ _ _ _ h1 (fun j hj => by simp at hj; subst hj; exact h3) e3
 simp at g4
 split at e4
 · rename_i hl
   cases e4
   obtain ⟨n, rfl⟩ := List.length_eq_one_iff.1 hl
   exact ⟨g1, by omega, g3 n (by simp)⟩
 · obtain ⟨k1, k2, k3⟩ := newType_keep g1 ⟨fun f hf => by simp at hf, fun j hj => g3 j hj, fun h => by dsimp only at h; omega, ⟨by simp, by simp⟩, fun _ => rfl, fun _ h => absurd rfl h, fun _ _ => rfl, fun _ => (by dsimp only; omega), ⟨by simp, by have := bars_lens _ _ _ _ _ e3; simp at this; dsimp only; omega⟩⟩ e4
   exact ⟨k1, by omega, k3⟩
theorem typ_keep (toks : List Tk) (hL : toks.length ≤ 1001) : ∀ r, Keep (typ toks r) Num
 | 0 => fun s a s' _ h => by cases h
 | r + 1 => union_keep hL (single_keep hL (typ_keep toks hL r))
theorem typeOf_wf {s : ByteArray} {ts : List Ty} (h : typeOf s = .ok ts) : Wf ts ∧ 0 < ts.length ∧ ts.length ≤ 300 := by
 unfold typeOf at h
 split at h
 · cases h
 · rename_i toks hsc
   split at h
   · cases h
   · rename_i n st e
     split at h
     · cases h
     · split at h
       · cases h
       · cases h
         obtain ⟨h1, _, h3⟩ := typ_keep toks (Tok.scan_ok _ _ hsc).2.1 20 _ _ _ Wf.nil e
         unfold Num at h3
         exact ⟨h1, by omega, by omega⟩
def den (ts : List Ty) (n : Nat) : Tr :=
 match ts[n]? with
 | none => .mk 0 [] [] [] []
 | some t => .mk t.kind (t.fields.map Prod.fst) (t.fields.map fun f => if _h : f.2 < n then den ts f.2 else .mk 0 [] [] [] []) (t.list.map fun j => if _h : j < n then den ts j else .mk 0 [] [] [] [])
     (if t.kind = 8 ∨ t.kind = 9 then [if _h : t.of < n then den ts t.of else .mk 0 [] [] [] []] else [])
termination_by n
theorem den_eq {ts : List Ty} (hw : Wf ts) {n : Nat} {t : Ty} (h : ts[n]? = some t) :
   den ts n = .mk t.kind (t.fields.map Prod.fst) (t.fields.map fun f => den ts f.2) (t.list.map (den ts)) (if t.kind = 8 ∨ t.kind = 9 then [den ts t.of] else []) := by
 have hi := hw n t h
 rw [den, h]
 dsimp only
 congr 1
 · exact List.map_congr_left fun f hf => by rw [dif_pos (hi.fields f hf)]
 · exact List.map_congr_left fun j hj => by rw [dif_pos (hi.list j hj)]
 · split
   · rename_i hk; rw [dif_pos (hi.of hk)]
   · rfl
end Ty
end
section
open Go Go.RowKit
open Prt (Sat As blk pur exs star stars)
open Ty (Tr)
structure TyRd (w : World) (v : Value) (rows : List TyRow) : Prop where
 row : w.ownsRow 0 69 4 v rows.length (rows.flatMap tyCells)
 bits : ∀ r ∈ rows, w.ownsRow 0 141 2 r.fv r.t.fields.length (r.t.fields.flatMap fdCells) ∧ w.ownsRow 0 3 1 r.lv r.t.list.length (r.t.list.map inCell)
theorem TyRd.below {w w' : World} {v : Value} {rows : List TyRow} (h : TyRd w v rows) (hb : Below w.heap.size w w') : TyRd w' v rows :=
 ⟨owns_below h.row hb, fun r hr => ⟨owns_below (h.bits r hr).1 hb, owns_below (h.bits r hr).2 hb⟩⟩
theorem row_le {e : TypeId} {size : Nat} {v : Value} {n : Nat} {xs : List Value} {a b : Prt.Hp} (h : Prt.row e size v n xs a) (hl : Prt.le a b) : Prt.row e size v n xs b := by
 refine ⟨h.1, ?_⟩
 rcases h.2 with h2 | ⟨g, cap, cur, e1, e2, e3⟩
 · exact .inl h2
 · exact .inr ⟨g, cap, cur, e1, hl _ _ e2, e3⟩
theorem row_owns {e : TypeId} {size : Nat} {v : Value} {n : Nat} {xs : List Value} {w : World} (h : Prt.row e size v n xs (Prt.hp w)) : w.ownsRow 0 e size v n xs := by
 refine ⟨h.1, ?_⟩
 rcases h.2 with h2 | ⟨g, cap, cur, e1, e2, e3⟩
 · exact .inl h2
 · exact .inr ⟨g, cap, cur, e1, Nat.zero_le _, e2, e3⟩
theorem stars_mem : ∀ {L : List As} {a : Prt.Hp}, stars L a → ∀ P ∈ L, ∃ b, Prt.le b a ∧ P b := by
 intro L
 induction L with
 | nil => intro a _ P hP; simp at hP
 | cons Q L ih =>
   intro a h P hP
   obtain ⟨x, y, h1, h2, h3, h4, h5⟩ := h
   rcases List.mem_cons.1 hP with rfl | hP
   · exact ⟨x, h2, h4⟩
   · obtain ⟨b, hb, hp⟩ := ih h5 P hP
     exact ⟨b, Prt.le_trans hb h3, hp⟩
theorem Prt.Sat.tyRd {w0 w : World} {L : List As} (h : Sat w0 w L) (i : Nat) {v : Value} {ts : List Ty.Ty} (hi : L[i]? = some (tyA v ts)) : ∃ rows, rows.map TyRow.t = ts ∧ TyRd w v rows := by
 refine h.get hi fun a ha hl => ?_
 obtain ⟨rows, x, y, _, hx, hy, hr, z, u, _, hz, hu, h1, h2⟩ := ha
 refine ⟨rows, hr, ?_⟩
 obtain ⟨q, _, _, hq, _, hbits, _⟩ := h2
 have hlen : rows.length = ts.length := by have := congrArg List.length (show rows.map TyRow.t = ts from hr); simpa using this
 have hle1 : Prt.le z (Prt.hp w) := Prt.le_trans hz (Prt.le_trans hy hl)
 have hle2 : Prt.le q (Prt.hp w) := Prt.le_trans hq (Prt.le_trans hu (Prt.le_trans hy hl))
 refine ⟨?_, fun r hrm => ?_⟩
 · rw [hlen]; exact row_owns (row_le h1 hle1)
 · obtain ⟨b, hb, hp⟩ := stars_mem hbits _ (List.mem_map_of_mem hrm)
   obtain ⟨c, d, _, hc, hd, p1, p2⟩ := hp
   exact ⟨row_owns (row_le p1 (Prt.le_trans hc (Prt.le_trans hb hle2))), row_owns (row_le p2 (Prt.le_trans hd (Prt.le_trans hb hle2)))⟩
theorem ty_flat (rows : List TyRow) (k : Nat) (h : k < rows.length) (j : Nat) (hj : j < 4) : (rows.flatMap tyCells)[k * 4 + j]? = (tyCells rows[k])[j]? := by
 induction rows generalizing k with
 | nil => simp at h
 | cons a l ih =>
   cases k with
   | zero => simp only [List.flatMap_cons, List.getElem_cons_zero]; rw [List.getElem?_append_left (by simp [tyCells]; omega)]; simp
   | succ k =>
     have := ih k (by simpa using h)
     simp only [List.flatMap_cons, List.getElem_cons_succ]
     rw [List.getElem?_append_right (by simp [tyCells]; omega), show (k + 1) * 4 + j - (tyCells a).length = k * 4 + j by simp [tyCells]; omega]
     exact this
theorem TyRd.at {w : World} {v : Value} {rows : List TyRow} (h : TyRd w v rows) (hne : 0 < rows.length) :
   ∃ g cap : Nat, v = .slice (some ⟨g, 0, none⟩) rows.length cap ∧ g < w.heap.size ∧ rows.length ≤ cap ∧ cap ≤ maxLen ∧ ∀ k (hk : k < rows.length), w.cell? ⟨g, k * 4, none⟩ = some (.int .i64 rows[k].t.kind) ∧ w.cell? ⟨g, k * 4 + 1, none⟩ = some rows[k].fv ∧ w.cell? ⟨g, k * 4 + 2, none⟩ = some rows[k].lv ∧ w.cell? ⟨g, k * 4 + 3, none⟩ = some (.int .i64 rows[k].t.of) := by
 have hc := fun g => World.ownsRow.cells (g := g) h.row
 have hlt := World.ownsRow.lt h.row
 rcases h.row.2 with ⟨_, h0⟩ | ⟨g, cap, cur, rfl, hg, hh, hn, hm, _⟩
 · omega
 · refine ⟨g, cap, rfl, (hlt g rfl).2, hn, hm, fun k hk => ?_⟩
   have e : ∀ j, (⟨g, 0, none⟩ : Addr).add j = ⟨g, j, none⟩ := fun j => by unfold Addr.add; split <;> simp_all
   refine ⟨?_, ?_, ?_, ?_⟩
   · rw [← e]; exact hc g rfl _ _ ((ty_flat rows k hk 0 (by omega)).trans rfl)
   · rw [← e]; exact hc g rfl _ _ ((ty_flat rows k hk 1 (by omega)).trans rfl)
   · rw [← e]; exact hc g rfl _ _ ((ty_flat rows k hk 2 (by omega)).trans rfl)
   · rw [← e]; exact hc g rfl _ _ ((ty_flat rows k hk 3 (by omega)).trans rfl)
theorem ints_at {w : World} {v : Value} {l : List Nat} (h : w.ownsRow 0 3 1 v l.length (l.map inCell)) (k : Nat) (hk : k < l.length) : ∃ g cap : Nat, v = .slice (some ⟨g, 0, none⟩) l.length cap ∧ g < w.heap.size ∧ w.cell? ⟨g, k, none⟩ = some (.int .i64 (l[k] : Nat)) := by
 obtain ⟨g, cap, rfl, _, hg⟩ := h.form (by omega)
 refine ⟨g, cap, rfl, hg, ?_⟩
 have := World.ownsRow.cells h (g := g) rfl k (inCell l[k]) (by simp [hk])
 rwa [Addr.add_lit, Nat.zero_add] at this
end
section
open Go Go.RowKit
open Prt (Sat As blk pur exs star stars)
theorem flat_get {α : Type} (f : α → List Value) (m : Nat) (hf : ∀ x, (f x).length = m) : ∀ (l : List α) (n : Nat) (hn : n < l.length) (i : Nat), i < m → (l.flatMap f)[n * m + i]? = (f l[n])[i]?
 | [], n, hn, _, _ => by simp at hn
 | a :: l, 0, _, i, hi => by
   rw [List.flatMap_cons, List.getElem?_append_left (by rw [hf]; omega)]
   simp
 | a :: l, n + 1, hn, i, hi => by
   have e : (n + 1) * m + i - m = n * m + i := by rw [Nat.succ_mul]; omega
   rw [List.flatMap_cons, List.getElem?_append_right (by rw [hf, Nat.succ_mul]; omega), hf, e]
   exact flat_get f m hf l n (by simpa using hn) i hi
structure NRd (w : World) (v : Value) (rows : List NdRow) : Prop where
 row : w.ownsRow 0 66 9 v rows.length (rows.flatMap ndCells)
 bits : ∀ r ∈ rows, w.ownsRow 0 3 1 r.lv r.t.list.length (r.t.list.map inCell)
theorem NRd.below {w w' : World} {v : Value} {rows : List NdRow} (h : NRd w v rows) (hb : Below w.heap.size w w') : NRd w' v rows :=
 ⟨owns_below h.row hb, fun r hr => owns_below (h.bits r hr) hb⟩
structure NdAt (w : World) (g n : Nat) (t : Ty.Nd) (lv : Value) : Prop where
 q0 : w.cell? ⟨g, n * 9, none⟩ = some (.int .i64 t.kind)
 q1 : w.cell? ⟨g, n * 9 + 1, none⟩ = some (.int .i64 t.a)
 q2 : w.cell? ⟨g, n * 9 + 2, none⟩ = some (.int .i64 t.b)
 q3 : w.cell? ⟨g, n * 9 + 3, none⟩ = some (.int .i64 t.c)
 q4 : w.cell? ⟨g, n * 9 + 4, none⟩ = some lv
 q5 : w.cell? ⟨g, n * 9 + 5, none⟩ = some (.string t.text)
 q6 : w.cell? ⟨g, n * 9 + 6, none⟩ = some (.int .i64 t.n)
 q7 : w.cell? ⟨g, n * 9 + 7, none⟩ = some (.int .i64 t.ty)
 q8 : w.cell? ⟨g, n * 9 + 8, none⟩ = some (.int .i64 t.pos)
theorem NRd.look {w : World} {v : Value} {rows : List NdRow} {ns : List Ty.Nd} (h : NRd w v rows) (hns : rows.map NdRow.t = ns) {n : Nat} (hn : n < ns.length) :
   ∃ (g cap : Nat) (lv : Value), v = .slice (some ⟨g, 0, none⟩) ns.length cap ∧ g < w.heap.size ∧ ns.length ≤ cap ∧ cap ≤ maxLen ∧ NdAt w g n ns[n] lv ∧ w.ownsRow 0 3 1 lv ns[n].list.length (ns[n].list.map inCell) := by
 have hl : rows.length = ns.length := by rw [← hns]; simp
 have hn2 : n < rows.length := by omega
 obtain ⟨g, cap, hv, _, hg⟩ := h.row.form (by omega)
 have hc := World.ownsRow.cells h.row (g := g) (by rw [hv]; rfl)
 have hcap : rows.length ≤ cap ∧ cap ≤ maxLen := by
   rcases h.row.2 with ⟨_, h0⟩ | ⟨g', cap', cur, e4, _, _, h5, h6, _⟩
   · omega
   · rw [hv] at e4; cases e4; exact ⟨h5, h6⟩
 have ht : rows[n].t = ns[n] := by subst hns; simp
 have key : ∀ i, i < 9 → ∀ x, (ndCells rows[n])[i]? = some x → w.cell? ⟨g, n * 9 + i, none⟩ = some x := fun i hi x hx => by
   have := hc (n * 9 + i) x (by rw [flat_get ndCells 9 (fun _ => rfl) rows n hn2 i hi]; exact hx)
   rwa [Addr.add_lit, Nat.zero_add] at this
 refine ⟨g, cap, rows[n].lv, by rw [hv, hl], hg, by omega, hcap.2, ⟨?_, ?_, ?_, ?_, ?_, ?_, ?_, ?_, ?_⟩, ?_⟩
 · exact key 0 (by omega) _ (by rw [← ht]; rfl)
 · exact key 1 (by omega) _ (by rw [← ht]; rfl)
 · exact key 2 (by omega) _ (by rw [← ht]; rfl)
 · exact key 3 (by omega) _ (by rw [← ht]; rfl)
 · exact key 4 (by omega) _ rfl
 · exact key 5 (by omega) _ (by rw [← ht]; rfl)
 · exact key 6 (by omega) _ (by rw [← ht]; rfl)
 · exact key 7 (by omega) _ (by rw [← ht]; rfl)
 · exact key 8 (by omega) _ (by rw [← ht]; rfl)
 · rw [← ht]; exact h.bits _ (List.getElem_mem _)
theorem Prt.Sat.rdNodes {w0 w : World} {L : List As} (h : Sat w0 w L) (i : Nat) {v : Value} {ns : List Ty.Nd} (hi : L[i]? = some (ndA v ns)) : ∃ rows, rows.map NdRow.t = ns ∧ NRd w v rows := by
 refine h.get hi fun a ha hl => ?_
 obtain ⟨rows, x, y, _, _, hy, hp, z, u, _, hz, hu, h1, q, _, _, hq, _, hbits, _⟩ := ha
 have e : ns.length = rows.length := by have := congrArg List.length (show rows.map NdRow.t = ns from hp); simpa using this.symm
 have hyw : Prt.le y (Prt.hp w) := Prt.le_trans hy hl
 refine ⟨rows, hp, ⟨?_, fun r hr => ?_⟩⟩
 · rw [← e]; exact row_owns (row_le h1 (Prt.le_trans hz hyw))
 · obtain ⟨b, hb, hp2⟩ := stars_mem hbits _ (List.mem_map_of_mem (f := fun r : NdRow => inA r.lv r.t.list) hr)
   exact row_owns (row_le hp2 (Prt.le_trans hb (Prt.le_trans hq (Prt.le_trans hu hyw))))
theorem ndAt_lt {st : Ty.St} {n : Nat} (hn : n < st.ns.length) : Ty.ndAt st n = st.ns[n] := by unfold Ty.ndAt; rw [List.getElem?_eq_getElem hn]; rfl
section
variable {w0 w : World} {Fr : As} {pb d : Nat} {toks : List Tok.Tk} {st : Ty.St}
theorem Prt.Sat.parNode (h : Sat w0 w [Fr, parA pb d toks st]) {n : Nat} (hn : n < st.ns.length) : ∃ (g cap : Nat) (lv : Value), w.cell? ⟨pb, 3, none⟩ = some (.slice (some ⟨g, 0, none⟩) st.ns.length cap) ∧ g < w.heap.size ∧ st.ns.length ≤ cap ∧ cap ≤ maxLen ∧ NdAt w g n (Ty.ndAt st n) lv ∧ w.ownsRow 0 3 1 lv (Ty.ndAt st n).list.length ((Ty.ndAt st n).list.map inCell) := by
 obtain ⟨⟨lv0, nv, tv, main⟩, h⟩ := h.openPar
 obtain ⟨rows, hr, hrd⟩ := h.rdNodes 4 rfl
 obtain ⟨g, cap, lv, e, h1, h2, h3, h4, h5⟩ := hrd.look hr hn
 have c3 := h.cell 2 rfl 3 rfl
 dsimp only at e c3
 subst e
 rw [ndAt_lt hn]
 exact ⟨g, cap, lv, c3, h1, h2, h3, h4, h5⟩
theorem of_any (w : World) (kind pos : Nat) {R : Ending → World → Prop} (hR : ∀ w', Below w.heap.size w w' → R (.returned (.agg #[.int .i64 kind, .int .i64 0, .int .i64 0, .int .i64 0, .slice none 0 0, .string ⟨#[]⟩, .int .i64 0, .int .i64 (-1), .int .i64 pos])) w') :
   Calls Tryz.prog 74 #[.int .i64 kind, .int .i64 pos] w R := by
 have HR := qh hR
 clear hR
 go_enter Tryz.func74, Tryz.ntmps74
 go_wp2_with fail
 refine bodyPost_ret ?_ rfl (HR.out _ ?_)
 · simp [results, Tryz.results74, go_sem]
 · first | exact (Below.refl _ _).alloc (Nat.le_refl _) _ | (repeat' (first | exact Below.refl _ _ | apply Below.drew | apply Below.setCell | apply Below.alloc | (simp; done) | (simp; omega) | omega))
theorem start_any (H : Sat w0 w [Fr, parA pb d toks st]) {n : Nat} (hn : n < st.ns.length) {R : Ending → World → Prop} (hR : R (.returned (.int .i64 (Ty.ndAt st n).pos)) w) :
   Calls Tryz.prog 320 #[.pointer (some ⟨pb, 0, none⟩), .int .i64 (n : Nat)] w R := by
 have HR := qh hR
 have hlk := H.look
 have hlt := hlk.lt
 have hns : st.ns.length ≤ 1002 := by have := hlk.fits; have := hlk.wf.1; omega
 obtain ⟨g, cap, lv, c3, hg, h2, h3, hA, _⟩ := H.parNode hn
 obtain ⟨_, _, _, _, _, _, _, _, q8⟩ := hA
 generalize Ty.ndAt st n = t at *
 clear hR H hlk
 go_enter Tryz.func320, Tryz.ntmps320
 go_wp2_with fail
 exact HR.out
theorem two_any (H : Sat w0 w [Fr, parA pb d toks st]) (x : ByteArray) {a b : Nat} (ha : a < st.ns.length) (hb : st.ns.length ≤ st.pos) {R : Ending → World → Prop}
   (hR : ∀ n s2 w', Ty.two x a b st = .ok (n, s2) → Sat w0 w' [Fr, parA pb d toks s2] → R (.returned (.int .i64 (n : Nat))) w') :
   Calls Tryz.prog 282 #[.pointer (some ⟨pb, 0, none⟩), .string x, .int .i64 (a : Nat), .int .i64 (b : Nat)] w R := by
 have HR := qh hR
 have HS := qh H
 have HA := qh ha
 have HB := qh hb
 clear hR H ha hb
 go_enter Tryz.func282, Tryz.ntmps282
 go_wp2_with fail
 refine start_any HS.out HA.out ?_
 have HE : Hid (Ty.two x a b st = .ok (st.ns.length, { st with ns := st.ns ++ [{ Ty.ndOf 12 (Ty.ndAt st a).pos with text := x, a := a, b := b }] })) := rfl
 generalize (Ty.ndAt st a).pos = ps at *
 go_wp2_with fail
 refine of_any w 12 ps (fun w1 hb1 => ?_)
 have H1 := qh (HS.out.below hb1)
 clear hb1
 go_wp2_with fail
 refine node_any { Ty.ndOf 12 ps with text := x, a := a, b := b } (.slice none 0 0) ((H1.out.waste _).nil 3 1) HB.out (fun w2 h2 => ?_)
 have H2 := qh h2
 clear h2
 go_wp2_with fail
 exact HR.out _ _ _ HE.out H2.out
end
end
section
namespace Ty
structure Par where
 pos : Nat
 text : ByteArray
 ty : Int
mutual
inductive Ex where
 | num (p n : Nat)
 | text (p : Nat) (x : ByteArray)
 | bool (p n : Nat)
 | null (p : Nat)
 | var (p : Nat) (x : ByteArray)
 | fn (p : Nat) (ps : List Par) (ty : Int) (bp : Nat) (body : List Sm)
 | call (p : Nat) (a : Ex) (l : List Ex)
 | get (p : Nat) (a : Ex) (x : ByteArray)
 | at (p : Nat) (a b : Ex)
 | obj (p : Nat) (l : List (Nat × ByteArray × Ex))
 | arr (p : Nat) (l : List Ex)
 | two (p : Nat) (x : ByteArray) (a b : Ex)
 | one (p : Nat) (x : ByteArray) (a : Ex)
 | as (p : Nat) (a : Ex) (ty : Int)
inductive Sm where
 | let_ (p : Nat) (x : ByteArray) (ty : Int) (a : Ex)
 | set (p : Nat) (x : ByteArray) (v : Ex)
 | put (p : Nat) (a : Ex) (x : ByteArray) (v : Ex)
 | lay (p : Nat) (a b v : Ex)
 | print (p : Nat) (a : Ex)
 | ret (p : Nat) (a : Ex)
 | do_ (p : Nat) (a : Ex)
 | if_ (p : Nat) (a : Ex) (bp : Nat) (b : List Sm) (c : Option (Nat × List Sm))
 | while_ (p : Nat) (a : Ex) (bp : Nat) (b : List Sm)
end
def layPs : List Par → List Nd → List Nd × List Nat
 | [], ns => (ns, [])
 | q :: ps, ns => let r := layPs ps (ns ++ [{ ndOf 16 q.pos with text := q.text, ty := q.ty }]); (r.1, ns.length :: r.2)
mutual
def layE : Ex → List Nd → List Nd × Nat
 | .num p n, ns => (ns ++ [{ ndOf 1 p with n := n }], ns.length)
 | .text p x, ns => (ns ++ [{ ndOf 2 p with text := x }], ns.length)
 | .bool p n, ns => (ns ++ [{ ndOf 3 p with n := n }], ns.length)
 | .null p, ns => (ns ++ [ndOf 4 p], ns.length)
 | .var p x, ns => (ns ++ [{ ndOf 5 p with text := x }], ns.length)
 | .fn p ps ty bp body, ns => let r := layPs ps ns; let b := layB bp body r.1; (b.1 ++ [{ ndOf 6 p with list := r.2, ty := ty, a := b.2 }], b.1.length)
 | .call p a l, ns => let r := layE a ns; let q := layEs l r.1; (q.1 ++ [{ ndOf 7 p with a := r.2, list := q.2 }], q.1.length)
 | .get p a x, ns => let r := layE a ns; (r.1 ++ [{ ndOf 8 p with a := r.2, text := x }], r.1.length)
 | .at p a b, ns => let r := layE a ns; let q := layE b r.1; (q.1 ++ [{ ndOf 9 p with a := r.2, b := q.2 }], q.1.length)
 | .obj p l, ns => let q := layOs l ns; (q.1 ++ [{ ndOf 10 p with list := q.2 }], q.1.length)
 | .arr p l, ns => let q := layEs l ns; (q.1 ++ [{ ndOf 11 p with list := q.2 }], q.1.length)
 | .two p x a b, ns => let r := layE a ns; let q := layE b r.1; (q.1 ++ [{ ndOf 12 p with text := x, a := r.2, b := q.2 }], q.1.length)
 | .one p x a, ns => let r := layE a ns; (r.1 ++ [{ ndOf 13 p with text := x, a := r.2 }], r.1.length)
 | .as p a ty, ns => let r := layE a ns; (r.1 ++ [{ ndOf 14 p with a := r.2, ty := ty }], r.1.length)
def layEs : List Ex → List Nd → List Nd × List Nat
 | [], ns => (ns, [])
 | e :: l, ns => let r := layE e ns; let q := layEs l r.1; (q.1, r.2 :: q.2)
def layOs : List (Nat × ByteArray × Ex) → List Nd → List Nd × List Nat
 | [], ns => (ns, [])
 | (p, x, e) :: l, ns => let r := layE e ns; let q := layOs l (r.1 ++ [{ ndOf 15 p with text := x, a := r.2 }]); (q.1, r.1.length :: q.2)
def layB (bp : Nat) (l : List Sm) (ns : List Nd) : List Nd × Nat := let q := laySs l ns; (q.1 ++ [{ ndOf 26 bp with list := q.2 }], q.1.length)
def laySs : List Sm → List Nd → List Nd × List Nat
 | [], ns => (ns, [])
 | e :: l, ns => let r := layS e ns; let q := laySs l r.1; (q.1, r.2 :: q.2)
def layS : Sm → List Nd → List Nd × Nat
 | .let_ p x ty a, ns => let r := layE a ns; (r.1 ++ [{ ndOf 17 p with text := x, ty := ty, a := r.2 }], r.1.length)
 | .set p x v, ns => let r := layE v ns; (r.1 ++ [{ ndOf 18 p with text := x, a := r.2 }], r.1.length)
 | .put p a x v, ns => let r := layE a ns; let q := layE v r.1; (q.1 ++ [{ ndOf 19 p with text := x, a := r.2, b := q.2 }], q.1.length)
 | .lay p a b v, ns => let r := layE a ns; let q := layE b r.1; let u := layE v q.1; (u.1 ++ [{ ndOf 20 p with a := r.2, b := q.2, c := (u.2 : Int) }], u.1.length)
 | .print p a, ns => let r := layE a ns; (r.1 ++ [{ ndOf 21 p with a := r.2 }], r.1.length)
 | .ret p a, ns => let r := layE a ns; (r.1 ++ [{ ndOf 24 p with a := r.2 }], r.1.length)
 | .do_ p a, ns => let r := layE a ns; (r.1 ++ [{ ndOf 25 p with a := r.2 }], r.1.length)
 | .if_ p a bp b none, ns => let r := layE a ns; let q := layB bp b r.1; (q.1 ++ [{ ndOf 22 p with a := r.2, b := q.2, c := -1 }], q.1.length)
 | .if_ p a bp b (some (cp, c)), ns => let r := layE a ns; let q := layB bp b r.1; let u := layB cp c q.1; (u.1 ++ [{ ndOf 22 p with a := r.2, b := q.2, c := (u.2 : Int) }], u.1.length)
 | .while_ p a bp b, ns => let r := layE a ns; let q := layB bp b r.1; (q.1 ++ [{ ndOf 23 p with a := r.2, b := q.2 }], q.1.length)
end
end Ty
end
end Go.Proofs.YtdlbhiaceheffabGreatDoor
