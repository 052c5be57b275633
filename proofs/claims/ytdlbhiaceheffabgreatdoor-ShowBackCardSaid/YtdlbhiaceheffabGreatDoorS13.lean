/- Plain: what holds of each node that is parsed: its text, its number, its type. -/
import Derived.Test.YtdlbhiaceheffabGreatDoorS12
set_option linter.all false
namespace Go.Proofs.YtdlbhiaceheffabGreatDoor
section
namespace Ty
open Tok (Tk)
structure LitOk (x : ByteArray) : Prop where
 size : x.size ≤ 30
 plain : ∀ d ∈ x.data.toList, Tok.isPlain d = true
structure TkOk (t : Tk) : Prop where
 size : t.text.size ≤ 30
 name : t.kind = 1 → NameOk t.text
 num : t.kind = 3 → NumOk t.text
 lit : t.kind = 4 → LitOk t.text
theorem e30 : (ByteArray.mk #[]).size ≤ 30 := by decide
theorem next_lit (s : ByteArray) (k : Nat) (hok : (Tok.next s k).2.2 = true) : (Tok.next s k).1.text.size ≤ 30 ∧ ((Tok.next s k).1.kind = 4 → LitOk (Tok.next s k).1.text) := by
 unfold Tok.next at hok ⊢
 dsimp only at hok ⊢
 split
 · rename_i h; rw [if_pos h] at hok
   have := of_decide_eq_true hok
   have := Tok.stop_ge Tok.isPart s k
   exact ⟨by simp only [ByteArray.size_extract]; omega, fun h => by dsimp only at h; split at h <;> cases h⟩
 · rename_i h; rw [if_neg h] at hok
   split
   · rename_i h; rw [if_pos h] at hok
     simp only [Bool.and_eq_true, decide_eq_true_eq] at hok
     have := Tok.stop_ge Tok.isDigit s k
     exact ⟨by simp only [ByteArray.size_extract]; omega, fun h => (by cases h)⟩
   · rename_i h; rw [if_neg h] at hok
     split
     · rename_i h; rw [if_pos h] at hok
       simp only [Bool.and_eq_true, decide_eq_true_eq] at hok
       have := Tok.stop_ge Tok.isPlain s (k + 1)
       have hz : (s.extract (k + 1) (Tok.stop Tok.isPlain s (k + 1))).size ≤ 30 := by simp only [ByteArray.size_extract]; omega
       refine ⟨hz, fun _ => ⟨hz, fun d hd => ?_⟩⟩
       rw [extract_stop _ _ _ (by omega)] at hd
       exact takeWhile_all _ _ _ hd
     · split
       · exact ⟨by simp only [ByteArray.size_extract]; omega, fun h => (by cases h)⟩
       · exact ⟨by simp only [ByteArray.size_extract]; omega, fun h => (by cases h)⟩
theorem scanFrom_all (P : Tk → Prop) (s : ByteArray) (hn : ∀ k, k < s.size → (Tok.next s k).2.2 = true → P (Tok.next s k).1) (he : P ⟨6, ⟨#[]⟩, s.size⟩) : ∀ (f k : Nat) (o l : List Tk), Tok.scanFrom s f k o = .ok l → (∀ t ∈ o, P t) → ∀ t ∈ l, P t
 | 0, k, o, l, h, ho => by cases h; exact ho
 | f + 1, k, o, l, h, ho => by
   rw [Tok.scanFrom] at h
   split at h
   · rename_i hk
     split at h
     · exact scanFrom_all P s hn he f _ _ _ h ho
     · split at h
       · cases h
       · rename_i hok
         split at h
         · cases h
         · refine scanFrom_all P s hn he f _ _ _ h fun t ht => ?_
           rw [List.mem_append] at ht
           rcases ht with ht | ht
           · exact ho t ht
           · simp at ht; subst ht
             exact hn k hk (by simpa using hok)
   · cases h
     intro t ht
     rw [List.mem_append] at ht
     rcases ht with ht | ht
     · exact ho t ht
     · simp at ht; subst ht; exact he
theorem scan_all {P : Tk → Prop} {s : ByteArray} {l : List Tk} (h : Tok.scan s = .ok l) (hn : ∀ k, k < s.size → (Tok.next s k).2.2 = true → P (Tok.next s k).1) (he : P ⟨6, ⟨#[]⟩, s.size⟩) : ∀ t ∈ l, P t := by
 unfold Tok.scan at h
 split at h
 · cases h
 · exact scanFrom_all P s hn he _ _ _ _ h fun t ht => by simp at ht
theorem scan_tk {s : ByteArray} {l : List Tk} (h : Tok.scan s = .ok l) : ∀ t ∈ l, TkOk t :=
 scan_all h (fun k hk hok => ⟨(next_lit s k hok).1, next_name s k hk hok, next_num s k hk hok, (next_lit s k hok).2⟩)
   ⟨e30, fun h => (by cases h), fun h => (by cases h), fun h => (by cases h)⟩
theorem cur_tk {toks : List Tk} (h : ∀ t ∈ toks, TkOk t) (p : Nat) : TkOk (cur toks p) := by
 unfold cur
 cases e : toks[p]? with
 | none => exact ⟨e30, fun h => (by cases h), fun h => (by cases h), fun h => (by cases h)⟩
 | some t => exact h t (List.mem_of_getElem? e)
structure TyIn (t : Nat) (ts : List Ty) : Prop where
 lt : t < ts.length
 cnt : cnt (den ts t) ≤ ts.length
theorem TyIn.ext {t : Nat} {a b : List Ty} (h : TyIn t a) (he : Ext a b) : TyIn t b :=
 ⟨Nat.lt_of_lt_of_le h.lt he.len, by rw [he.den h.lt]; exact Nat.le_trans h.cnt he.len⟩
def TyZ (t : Int) (ts : List Ty) : Prop := t = -1 ∨ ∃ n : Nat, t = (n : Int) ∧ TyIn n ts
theorem TyZ.ext {t : Int} {a b : List Ty} (h : TyZ t a) (he : Ext a b) : TyZ t b := by
 rcases h with h | ⟨n, h, k⟩
 · exact .inl h
 · exact .inr ⟨n, h, k.ext he⟩
def ValOk (n : Nat) : Prop := ∃ x : ByteArray, NumOk x ∧ value x = n
def signsTwo : List (List UInt8) := [[61, 61], [60], [43], [45], [42]]
structure NdOk (nd : Nd) (ts : List Ty) : Prop where
 size : nd.text.size ≤ 30
 num : nd.kind = 1 → ValOk nd.n
 small : nd.kind ≠ 1 → nd.n ≤ 1
 lit : nd.kind = 2 → LitOk nd.text
 name : nd.kind = 5 ∨ nd.kind = 8 ∨ (15 ≤ nd.kind ∧ nd.kind ≤ 19) → NameOk nd.text
 two : nd.kind = 12 → nd.text.data.toList ∈ signsTwo
 one : nd.kind = 13 → nd.text.data.toList ∈ prefixes
 ty : TyZ nd.ty ts
 asTy : nd.kind = 14 → 0 ≤ nd.ty
theorem NdOk.ext {nd : Nd} {a b : List Ty} (h : NdOk nd a) (he : Ext a b) : NdOk nd b := { h with ty := h.ty.ext he }
structure Inv (s : St) : Prop where
 wf : Wf s.ts
 nm : Nm s.ts
 ns : ∀ nd ∈ s.ns, NdOk nd s.ts
def IK {α : Type} (t0 : List Ty) (m : M α) (P : α → List Ty → Prop) : Prop := ∀ s a s', Ext t0 s.ts → Inv s → m s = .ok (a, s') → Inv s' ∧ Ext s.ts s'.ts ∧ P a s'.ts
section
variable {α β : Type} {t0 : List Ty} {toks : List Tk}
theorem IK.bnd {m : M α} {k : α → M β} {P : α → List Ty → Prop} {Q : β → List Ty → Prop} (h : IK t0 m P) (g : ∀ a t1, Ext t0 t1 → P a t1 → IK t1 (k a) Q) : IK t0 (Ty.bnd m k) Q := fun s b s' h0 hi e => by
 obtain ⟨a, s1, e1, e2⟩ := bnd_inv e
 obtain ⟨h1, h2, h3⟩ := h _ _ _ h0 hi e1
 obtain ⟨g1, g2, g3⟩ := g a s1.ts (h0.trans h2) h3 s1 b s' (Ext.refl _) h1 e2
 exact ⟨g1, h2.trans g2, g3⟩
theorem IK.ret (a : α) {P : α → List Ty → Prop} (h : ∀ t, Ext t0 t → P a t) : IK t0 (ret a) P := fun s b s' h0 hi e => by cases e; exact ⟨hi, Ext.refl _, h _ h0⟩
theorem IK.fail (n : Nat) (P : α → List Ty → Prop) : IK t0 (fail (α := α) toks n) P := fun s b s' _ _ e => by cases e
theorem IK.step : IK t0 step fun _ _ => True := fun s b s' h0 hi e => by cases e; exact ⟨⟨hi.wf, hi.nm, hi.ns⟩, Ext.refl _, trivial⟩
theorem IK.take (x : List UInt8) : IK t0 (take toks x) fun _ _ => True := fun s b s' h0 hi e => by
 unfold Ty.take at e; split at e <;> cases e <;> exact ⟨⟨hi.wf, hi.nm, hi.ns⟩, Ext.refl _, trivial⟩
theorem IK.need (x : List UInt8) : IK t0 (need toks x) fun _ _ => True := fun s b s' h0 hi e => by
 unfold Ty.need at e; split at e <;> cases e; exact ⟨⟨hi.wf, hi.nm, hi.ns⟩, Ext.refl _, trivial⟩
theorem IK.name (ht : ∀ t ∈ toks, TkOk t) (met : List ByteArray) : IK t0 (name toks met) fun x _ => NameOk x := fun s b s' h0 hi e => by
 unfold Ty.name at e
 split at e
 · cases e
 · rename_i hk
   split at e <;> cases e
   exact ⟨⟨hi.wf, hi.nm, hi.ns⟩, Ext.refl _, (cur_tk ht _).name (by omega)⟩
theorem IK.look {k : St → M α} {P : α → List Ty → Prop} (h : ∀ s, IK t0 (k s) P) : IK t0 (Ty.look k) P := fun s a s' h0 hi x => h s s a s' h0 hi x
theorem IK.ite {p : Prop} [Decidable p] {m n : M α} {P : α → List Ty → Prop} (h : p → IK t0 m P) (g : ¬ p → IK t0 n P) : IK t0 (if p then m else n) P := by
 split
 · exact h ‹_›
 · exact g ‹_›
theorem IK.mono {m : M α} {P Q : α → List Ty → Prop} (h : IK t0 m P) (hpq : ∀ a t, P a t → Q a t) : IK t0 m Q := fun s a s' h0 hi e => by
 obtain ⟨h1, h2, h3⟩ := h s a s' h0 hi e
 exact ⟨h1, h2, hpq _ _ h3⟩
theorem IK.up {t1 : List Ty} {m : M α} {P : α → List Ty → Prop} (h : IK t0 m P) (he : Ext t0 t1) : IK t1 m P := fun s a s' h0 hi e => h s a s' (he.trans h0) hi e
theorem IK.addNode (nd : Nd) (h : ∀ t, Ext t0 t → NdOk nd t) : IK t0 (addNode nd) fun _ _ => True := fun s b s' h0 hi e => by
 cases e
 refine ⟨⟨hi.wf, hi.nm, fun x hx => ?_⟩, Ext.refl _, trivial⟩
 rw [List.mem_append] at hx
 rcases hx with hx | hx
 · exact hi.ns x hx
 · simp at hx; subst hx; exact h _ h0
theorem IK.trunc (a : Nat) : IK t0 (trunc a) fun _ _ => True := fun s b s' h0 hi e => by
 cases e
 exact ⟨⟨hi.wf, hi.nm, fun x hx => hi.ns x (List.mem_of_mem_take hx)⟩, Ext.refl _, trivial⟩
theorem IK.typ (ht : ∀ t ∈ toks, TkOk t) (hL : toks.length ≤ 1001) (r : Nat) : IK t0 (typ toks r) fun n t => TyIn n t := fun s n s' h0 hi e => by
 obtain ⟨h1, h2, h3⟩ := typ_keep toks hL r _ _ _ hi.wf e
 obtain ⟨g1, g2, _⟩ := typ_grow toks hL r _ _ _ hi.wf e
 have h4 := (typ_nm (fun t h => (ht t h).name) r _ _ _ hi.nm e).1
 refine ⟨⟨h1, h4, fun x hx => ?_⟩, g1, h3, by omega⟩
 rw [Keeps.typ toks r _ _ _ e] at hx
 exact (hi.ns x hx).ext g1
theorem ndOk_plain {nd : Nd} (hs : nd.text.size ≤ 30) (hty : nd.ty = -1) (h1 : nd.kind = 1 → ValOk nd.n) (h1n : nd.kind ≠ 1 → nd.n ≤ 1) (h2 : nd.kind = 2 → LitOk nd.text) (h3 : nd.kind = 5 ∨ nd.kind = 8 ∨ (15 ≤ nd.kind ∧ nd.kind ≤ 19) → NameOk nd.text)
   (h4 : nd.kind = 12 → nd.text.data.toList ∈ signsTwo) (h5 : nd.kind = 13 → nd.text.data.toList ∈ prefixes) (h6 : nd.kind ≠ 14) : ∀ t, NdOk nd t := fun t => ⟨hs, h1, h1n, h2, h3, h4, h5, .inl hty, fun h => absurd h h6⟩
theorem IK.list {x : List UInt8} {m : List α → M α} {P : α → List Ty → Prop} {t0 : List Ty} (hP : ∀ a t t', P a t → Ext t t' → P a t') (hm : ∀ t1 l, Ext t0 t1 → IK t1 (m l) P) : ∀ f l t1, Ext t0 t1 → (∀ a ∈ l, P a t1) → IK t1 (list toks x m f l) fun l t => ∀ a ∈ l, P a t
 | 0, _, _, _, _ => IK.fail _ _
 | f + 1, l, t1, he, hl => (IK.take _).bnd fun _ t2 e2 _ => IK.ite (fun _ => IK.ret l fun t et a ha => hP a _ _ (hl a ha) (e2.trans et)) fun _ =>
     (show IK t2 _ (fun _ _ => True) from IK.ite (fun _ => IK.ret () fun _ _ => trivial) fun _ => IK.need _).bnd fun _ t3 e3 _ => (hm t3 l ((he.trans e2).trans e3)).bnd fun n t4 e4 hn =>
       IK.list hP hm f (l ++ [n]) t4 (((he.trans e2).trans e3).trans e4) fun a ha => by
         rw [List.mem_append] at ha
         rcases ha with ha | ha
         · exact hP a _ _ (hl a ha) ((e2.trans e3).trans e4)
         · simp at ha; subst ha; exact hn
end
section
variable {toks : List Tk}
theorem IK.two {t0 : List Ty} {x : ByteArray} {a b : Nat} (hx : x.data.toList ∈ signsTwo) (hs : x.size ≤ 30) : IK t0 (two x a b) fun _ _ => True :=
 IK.look fun s => IK.addNode _ fun t _ => ndOk_plain hs rfl (fun h => (by cases h)) (fun _ => (by simp [ndOf])) (fun h => (by cases h)) (fun h => (by simp [ndOf] at h)) (fun _ => hx) (fun h => (by cases h)) (by simp [ndOf]) t
theorem is_text {x : List UInt8} {p : Nat} (h : is toks x p = true) : (cur toks p).text.data.toList = x := by
 unfold is at h
 simp only [Bool.and_eq_true, decide_eq_true_eq] at h
 exact h.2
theorem any_text {l : List (List UInt8)} {p : Nat} (h : l.any (fun x => is toks x p) = true) : (cur toks p).text.data.toList ∈ l := by
 obtain ⟨x, hx, hi⟩ := List.any_eq_true.1 h
 rw [is_text hi]; exact hx
theorem leftLoop_ik {ONE : M Nat} (ht : ∀ t ∈ toks, TkOk t) {signs : List (List UInt8)} (hsg : ∀ x ∈ signs, x ∈ signsTwo) : ∀ f n t0, (∀ t0, IK t0 ONE fun _ _ => True) → IK t0 (leftLoop toks ONE signs f n) fun _ _ => True
 | 0, _, _, _ => IK.fail _ _
 | f + 1, n, t0, h => IK.look fun s => IK.ite (fun hs => IK.step.bnd fun _ t1 _ _ => (h t1).bnd fun _ t2 _ _ => (IK.two (hsg _ (any_text hs)) (cur_tk ht _).size).bnd fun m t3 _ _ => leftLoop_ik ht hsg f m t3 h) (fun _ => IK.ret n fun _ _ => trivial)
theorem left_ik {ONE : M Nat} (ht : ∀ t ∈ toks, TkOk t) {signs : List (List UInt8)} (hsg : ∀ x ∈ signs, x ∈ signsTwo) (h : ∀ t0, IK t0 ONE fun _ _ => True) (t0 : List Ty) : IK t0 (left toks ONE signs) fun _ _ => True :=
 (h t0).bnd fun n t1 _ _ => leftLoop_ik ht hsg _ n t1 h
theorem sums_ik {ONE : M Nat} (ht : ∀ t ∈ toks, TkOk t) (h : ∀ t0, IK t0 ONE fun _ _ => True) (t0 : List Ty) : IK t0 (sums toks ONE) fun _ _ => True :=
 left_ik ht (by decide) (left_ik ht (by decide) h) t0
theorem exprM_ik {ONE : M Nat} (ht : ∀ t ∈ toks, TkOk t) (h : ∀ t0, IK t0 ONE fun _ _ => True) (t0 : List Ty) : IK t0 (exprM toks ONE) fun _ _ => True :=
 (sums_ik ht h t0).bnd fun n t1 _ _ => (IK.take _).bnd fun _ t2 _ _ => IK.ite (fun _ => (sums_ik ht h t2).bnd fun m t3 _ _ => IK.two (by decide) (by decide)) fun _ =>
   (IK.take _).bnd fun _ t3 _ _ => IK.ite (fun _ => (sums_ik ht h t3).bnd fun m t3 _ _ => IK.two (by decide) (by decide)) fun _ => IK.ret n fun _ _ => trivial
theorem behind_ik {T E : M Nat} (ht : ∀ t ∈ toks, TkOk t) (hT : ∀ t0, IK t0 T TyIn) (hE : ∀ t0, IK t0 E fun _ _ => True) : ∀ f a t0, IK t0 (behind toks T E f a) fun _ _ => True
 | 0, _, _ => IK.fail _ _
 | f + 1, a, t0 => IK.look fun s => (IK.take _).bnd fun _ t1 _ _ => IK.ite (fun _ => (IK.list (P := fun _ _ => True) (fun _ _ _ _ _ => trivial) (fun t1 _ _ => hE t1) _ [] t1 (Ext.refl _) (fun _ _ => trivial)).bnd fun l t2 _ _ => (IK.addNode _ fun t _ => ndOk_plain e30 rfl (fun h => (by cases h)) (fun _ => (by simp [ndOf])) (fun h => (by cases h)) (fun h => (by simp [ndOf] at h)) (fun h => (by cases h)) (fun h => (by cases h)) (by simp [ndOf]) t).bnd fun m t3 _ _ => behind_ik ht hT hE f m t3) fun _ =>
     (IK.take _).bnd fun _ t2 _ _ => IK.ite (fun _ => (IK.name ht []).bnd fun x t3 _ hx => (IK.addNode _ fun t _ => ndOk_plain (Nat.le_trans hx.size (by omega)) rfl (fun h => (by cases h)) (fun _ => (by simp [ndOf])) (fun h => (by cases h)) (fun _ => hx) (fun h => (by cases h)) (fun h => (by cases h)) (by simp [ndOf]) t).bnd fun m t3 _ _ => behind_ik ht hT hE f m t3) fun _ =>
     (IK.take _).bnd fun _ t2 _ _ => IK.ite (fun _ => (hE t2).bnd fun c t3 _ _ => (IK.need _).bnd fun _ t4 _ _ => (IK.addNode _ fun t _ => ndOk_plain e30 rfl (fun h => (by cases h)) (fun _ => (by simp [ndOf])) (fun h => (by cases h)) (fun h => (by simp [ndOf] at h)) (fun h => (by cases h)) (fun h => (by cases h)) (by simp [ndOf]) t).bnd fun m t3 _ _ => behind_ik ht hT hE f m t3) fun _ =>
     (IK.take _).bnd fun _ t2 _ _ => IK.ite (fun _ => (hT t2).bnd fun c t3 _ hc => (IK.addNode _ fun t et => ⟨e30, fun h => (by cases h), fun _ => (by simp [ndOf]), fun h => (by cases h), fun h => (by simp [ndOf] at h), fun h => (by cases h), fun h => (by cases h), .inr ⟨c, rfl, hc.ext et⟩, fun _ => Int.natCast_nonneg _⟩).bnd fun m t3 _ _ => behind_ik ht hT hE f m t3) fun _ => IK.ret a fun _ _ => trivial
theorem written_ik {T : M Nat} (hT : ∀ t0, IK t0 T TyIn) (t0 : List Ty) : IK t0 (written toks T) fun z t => TyZ z t :=
 (IK.take _).bnd fun _ t1 _ _ => IK.ite (fun _ => (hT t1).bnd fun n t2 _ hn => IK.ret _ fun t et => .inr ⟨n, rfl, hn.ext et⟩) fun _ => IK.ret _ fun t _ => .inl rfl
theorem partM_ik {E : M Nat} (ht : ∀ t ∈ toks, TkOk t) (hE : ∀ t0, IK t0 E fun _ _ => True) (met : List ByteArray) (t0 : List Ty) : IK t0 (partM toks E met) fun _ _ => True :=
 IK.look fun _ => (IK.name ht met).bnd fun x t1 _ hx => (IK.need _).bnd fun _ t2 _ _ => (hE t2).bnd fun a t3 _ _ => (IK.addNode _ fun t _ => ndOk_plain (Nat.le_trans hx.size (by omega)) rfl (fun h => (by cases h)) (fun _ => (by simp [ndOf])) (fun h => (by cases h)) (fun _ => hx) (fun h => (by cases h)) (fun h => (by cases h)) (by simp [ndOf]) t).bnd fun n t4 _ _ => IK.ret _ fun _ _ => trivial
theorem paramM_ik {T : M Nat} (ht : ∀ t ∈ toks, TkOk t) (hT : ∀ t0, IK t0 T TyIn) (met : List ByteArray) (t0 : List Ty) : IK t0 (paramM toks T met) fun _ _ => True :=
 IK.look fun _ => (IK.name ht met).bnd fun x t1 _ hx => (written_ik hT t1).bnd fun z t2 _ hz => (IK.addNode _ fun t et => ⟨Nat.le_trans hx.size (by omega), fun h => (by cases h), fun _ => (by simp [ndOf]), fun h => (by cases h), fun _ => hx, fun h => (by cases h), fun h => (by cases h), hz.ext et, fun h => (by cases h)⟩).bnd fun n t4 _ _ => IK.ret _ fun _ _ => trivial
theorem stmts_ik {S : M Nat} (hS : ∀ t0, IK t0 S fun _ _ => True) : ∀ f l t0, IK t0 (stmts toks S f l) fun _ _ => True
 | 0, _, _ => IK.fail _ _
 | f + 1, l, t0 => (IK.take _).bnd fun _ t1 _ _ => IK.ite (fun _ => IK.ret l fun _ _ => trivial) fun _ => (hS t1).bnd fun n t2 _ _ => stmts_ik hS f _ t2
theorem blockM_ik {S : M Nat} (hS : ∀ t0, IK t0 S fun _ _ => True) (t0 : List Ty) : IK t0 (blockM toks S) fun _ _ => True :=
 IK.look fun _ => (IK.need _).bnd fun _ t1 _ _ => (stmts_ik hS _ _ t1).bnd fun l t2 _ _ => IK.addNode _ fun t _ => ndOk_plain e30 rfl (fun h => (by cases h)) (fun _ => (by simp [ndOf])) (fun h => (by cases h)) (fun h => (by simp [ndOf] at h)) (fun h => (by cases h)) (fun h => (by cases h)) (by simp [ndOf]) t
theorem functionM_ik {T S : M Nat} (ht : ∀ t ∈ toks, TkOk t) (hT : ∀ t0, IK t0 T TyIn) (hS : ∀ t0, IK t0 S fun _ _ => True) (pos : Nat) (t0 : List Ty) : IK t0 (functionM toks T S pos) fun _ _ => True :=
 (IK.need _).bnd fun _ t1 _ _ => (IK.list (P := fun _ _ => True) (fun _ _ _ _ _ => trivial) (fun t1 l _ => paramM_ik ht hT _ t1) _ [] t1 (Ext.refl _) (fun _ _ => trivial)).bnd fun l t2 _ _ => (written_ik hT t2).bnd fun z t3 _ hz => (blockM_ik hS t3).bnd fun a t4 e4 _ =>
   IK.addNode _ fun t et => ⟨e30, fun h => (by cases h), fun _ => (by simp [ndOf]), fun h => (by cases h), fun h => (by simp [ndOf] at h), fun h => (by cases h), fun h => (by cases h), hz.ext (e4.trans et), fun h => (by cases h)⟩
theorem simpleM_ik {T E S : M Nat} (ht : ∀ t ∈ toks, TkOk t) (hT : ∀ t0, IK t0 T TyIn) (hE : ∀ t0, IK t0 E fun _ _ => True) (hS : ∀ t0, IK t0 S fun _ _ => True) (t0 : List Ty) : IK t0 (simpleM toks T E S) fun _ _ => True := by
 refine IK.look fun s => ?_
 have hc := cur_tk ht s.pos
 refine IK.ite (fun hk => IK.step.bnd fun _ t1 _ _ => IK.addNode _ fun t _ => ndOk_plain e30 rfl (fun _ => ⟨_, hc.num hk, rfl⟩) (fun h => absurd rfl h) (fun h => (by cases h)) (fun h => (by simp [ndOf] at h)) (fun h => (by cases h)) (fun h => (by cases h)) (by simp [ndOf]) t) fun _ => ?_
 refine IK.ite (fun hk => IK.step.bnd fun _ t1 _ _ => IK.addNode _ fun t _ => ndOk_plain hc.size rfl (fun h => (by cases h)) (fun _ => (by simp [ndOf])) (fun _ => hc.lit hk) (fun h => (by simp [ndOf] at h)) (fun h => (by cases h)) (fun h => (by cases h)) (by simp [ndOf]) t) fun _ => ?_
 refine IK.ite (fun hk => IK.step.bnd fun _ t1 _ _ => IK.addNode _ fun t _ => ndOk_plain hc.size rfl (fun h => (by cases h)) (fun _ => (by simp [ndOf])) (fun h => (by cases h)) (fun _ => hc.name hk) (fun h => (by cases h)) (fun h => (by cases h)) (by simp [ndOf]) t) fun _ => ?_
 refine (IK.take _).bnd fun _ t1 _ _ => IK.ite (fun _ => IK.addNode _ fun t _ => ndOk_plain e30 rfl (fun h => (by cases h)) (fun _ => by simp) (fun h => (by cases h)) (fun h => (by simp [ndOf] at h)) (fun h => (by cases h)) (fun h => (by cases h)) (by simp [ndOf]) t) fun _ => ?_
 refine (IK.take _).bnd fun _ t2 _ _ => IK.ite (fun _ => IK.addNode _ fun t _ => ndOk_plain e30 rfl (fun h => (by cases h)) (fun _ => (by simp [ndOf])) (fun h => (by cases h)) (fun h => (by simp [ndOf] at h)) (fun h => (by cases h)) (fun h => (by cases h)) (by simp [ndOf]) t) fun _ => ?_
 refine (IK.take _).bnd fun _ t3 _ _ => IK.ite (fun _ => IK.addNode _ fun t _ => ndOk_plain e30 rfl (fun h => (by cases h)) (fun _ => (by simp [ndOf])) (fun h => (by cases h)) (fun h => (by simp [ndOf] at h)) (fun h => (by cases h)) (fun h => (by cases h)) (by simp [ndOf]) t) fun _ => ?_
 refine (IK.take _).bnd fun _ t4 _ _ => IK.ite (fun _ => functionM_ik ht hT hS _ t4) fun _ => ?_
 refine (IK.take _).bnd fun _ t5 _ _ => IK.ite (fun _ => (IK.list (P := fun _ _ => True) (fun _ _ _ _ _ => trivial) (fun t1 _ _ => hE t1) _ [] t5 (Ext.refl _) (fun _ _ => trivial)).bnd fun l t6 _ _ => IK.addNode _ fun t _ => ndOk_plain e30 rfl (fun h => (by cases h)) (fun _ => (by simp [ndOf])) (fun h => (by cases h)) (fun h => (by simp [ndOf] at h)) (fun h => (by cases h)) (fun h => (by cases h)) (by simp [ndOf]) t) fun _ => ?_
 refine (IK.take _).bnd fun _ t6 _ _ => IK.ite (fun _ => (IK.list (P := fun _ _ => True) (fun _ _ _ _ _ => trivial) (fun t1 l _ => partM_ik ht hE _ t1) _ [] t6 (Ext.refl _) (fun _ _ => trivial)).bnd fun l t7 _ _ => IK.addNode _ fun t _ => ndOk_plain e30 rfl (fun h => (by cases h)) (fun _ => (by simp [ndOf])) (fun h => (by cases h)) (fun h => (by simp [ndOf] at h)) (fun h => (by cases h)) (fun h => (by cases h)) (by simp [ndOf]) t) fun _ => ?_
 exact (IK.need _).bnd fun _ t7 _ _ => (hE t7).bnd fun a t8 _ _ => (IK.need _).bnd fun _ t9 _ _ => IK.ret a fun _ _ => trivial
theorem oneM_ik {T E O S : M Nat} (ht : ∀ t ∈ toks, TkOk t) (hT : ∀ t0, IK t0 T TyIn) (hE : ∀ t0, IK t0 E fun _ _ => True) (hO : ∀ t0, IK t0 O fun _ _ => True) (hS : ∀ t0, IK t0 S fun _ _ => True) (t0 : List Ty) : IK t0 (oneM toks T E O S) fun _ _ => True :=
 IK.look fun s => IK.ite (fun hp => IK.step.bnd fun _ t1 _ _ => (hO t1).bnd fun a t2 _ _ => IK.addNode _ fun t _ => ndOk_plain (cur_tk ht _).size rfl (fun h => (by cases h)) (fun _ => (by simp [ndOf])) (fun h => (by cases h)) (fun h => (by simp [ndOf] at h)) (fun h => (by cases h)) (fun _ => any_text hp) (by simp [ndOf]) t)
   fun _ => (simpleM_ik ht hT hE hS t0).bnd fun a t1 _ _ => behind_ik ht hT hE _ a t1
theorem ndAt_ok {s : St} (h : Inv s) (a : Nat) (hk : (ndAt s a).kind ≠ 0) : NdOk (ndAt s a) s.ts := by
 unfold ndAt at hk ⊢
 cases e : s.ns[a]? with
 | none => rw [e] at hk; exact absurd rfl hk
 | some nd => exact h.ns nd (List.mem_of_getElem? e)
theorem plainM_ik {E : M Nat} (hE : ∀ t0, IK t0 E fun _ _ => True) (t0 : List Ty) : IK t0 (plainM toks E) fun _ _ => True := by
 refine (hE t0).bnd fun a t1 _ _ => fun s n s' h0 hi x => ?_
 revert x
 have key : ∀ (f : Nat → Nd), (∀ v t, NdOk (f v) t) → IK t1 (bnd (trunc a) fun _ => bnd step fun _ => bnd E fun v => bnd (need toks [59]) fun _ => addNode (f v)) fun _ _ => True := fun f hf =>
   (IK.trunc a).bnd fun _ t2 _ _ => IK.step.bnd fun _ t3 _ _ => (hE t3).bnd fun v t4 _ _ => (IK.need _).bnd fun _ t5 _ _ => IK.addNode _ fun t _ => hf v t
 refine (show IK t1 (if is toks [61] s.pos then _ else _) (fun _ _ => True) from ?_) s n s' h0 hi
 refine IK.ite (fun _ => IK.ite (fun hk => ?_) fun _ => IK.ite (fun hk => ?_) fun _ => IK.ite (fun hk => ?_) fun _ => IK.fail _ _) fun _ => (IK.need _).bnd fun _ t2 _ _ => IK.addNode _ fun t _ => ndOk_plain e30 rfl (fun h => (by cases h)) (fun _ => (by simp [ndOf])) (fun h => (by cases h)) (fun h => (by simp [ndOf] at h)) (fun h => (by cases h)) (fun h => (by cases h)) (by simp [ndOf]) t
 · have ho := ndAt_ok hi a (by omega)
   exact key _ fun v t => ndOk_plain (nd := { ndOf 18 (ndAt s a).pos with text := (ndAt s a).text, a := v }) ho.size rfl (fun h => (by cases h)) (fun _ => (by simp [ndOf])) (fun h => (by cases h)) (fun _ => ho.name (.inl hk)) (fun h => (by cases h)) (fun h => (by cases h)) (by simp [ndOf]) t
 · have ho := ndAt_ok hi a (by omega)
   exact key _ fun v t => ndOk_plain (nd := { ndOf 19 (ndAt s a).pos with text := (ndAt s a).text, a := (ndAt s a).a, b := v }) ho.size rfl (fun h => (by cases h)) (fun _ => (by simp [ndOf])) (fun h => (by cases h)) (fun _ => ho.name (.inr (.inl hk))) (fun h => (by cases h)) (fun h => (by cases h)) (by simp [ndOf]) t
 · exact key _ fun v t => ndOk_plain e30 rfl (fun h => (by cases h)) (fun _ => (by simp [ndOf])) (fun h => (by cases h)) (fun h => (by simp [ndOf] at h)) (fun h => (by cases h)) (fun h => (by cases h)) (by simp [ndOf]) t
theorem branchM_ik {E S : M Nat} (hE : ∀ t0, IK t0 E fun _ _ => True) (hS : ∀ t0, IK t0 S fun _ _ => True) (yes : Bool) (pos : Nat) (t0 : List Ty) : IK t0 (branchM toks E S yes pos) fun _ _ => True := by
 have hn : ∀ (nd : Nd), nd.text = ⟨#[]⟩ → nd.ty = -1 → nd.n = 0 → nd.kind = 22 ∨ nd.kind = 23 → ∀ t, NdOk nd t := fun nd h1 h2 h3 h4 => ndOk_plain (by rw [h1]; exact e30) h2 (fun h => by omega) (fun _ => by omega) (fun h => by omega) (fun h => by omega) (fun h => by omega) (fun h => by omega) (by omega)
 exact IK.step.bnd fun _ t1 _ _ => (IK.need _).bnd fun _ t2 _ _ => (hE t2).bnd fun a t3 _ _ => (IK.need _).bnd fun _ t4 _ _ => (blockM_ik hS t4).bnd fun b t5 _ _ =>
   IK.ite (fun _ => (IK.take _).bnd fun _ t6 _ _ => IK.ite (fun _ => (blockM_ik hS t6).bnd fun c t7 _ _ => IK.addNode _ fun t _ => hn _ rfl rfl rfl (.inl rfl) t) fun _ => IK.addNode _ fun t _ => hn _ rfl rfl rfl (.inl rfl) t) fun _ => IK.addNode _ fun t _ => hn _ rfl rfl rfl (.inr rfl) t
theorem bareM_ik {T E S : M Nat} (ht : ∀ t ∈ toks, TkOk t) (hT : ∀ t0, IK t0 T TyIn) (hE : ∀ t0, IK t0 E fun _ _ => True) (hS : ∀ t0, IK t0 S fun _ _ => True) (t0 : List Ty) : IK t0 (bareM toks T E S) fun _ _ => True := by
 refine IK.look fun s => (IK.take _).bnd fun _ t1 _ _ => IK.ite (fun _ => ?_) fun _ => ?_
 · exact (IK.name ht []).bnd fun x t2 _ hx => (written_ik hT t2).bnd fun z t3 _ hz => (IK.need _).bnd fun _ t4 e4 _ => (hE t4).bnd fun a t5 e5 _ => (IK.need _).bnd fun _ t6 e6 _ => IK.addNode _ fun t et =>
     ⟨Nat.le_trans hx.size (by omega), fun h => (by cases h), fun _ => (by simp [ndOf]), fun h => (by cases h), fun _ => hx, fun h => (by cases h), fun h => (by cases h), hz.ext (((e4.trans e5).trans e6).trans et), fun h => (by cases h)⟩
 · have hn : ∀ (nd : Nd), nd.text = ⟨#[]⟩ → nd.ty = -1 → nd.n = 0 → nd.kind = 21 ∨ nd.kind = 24 → ∀ t, NdOk nd t := fun nd h1 h2 h3 h4 => ndOk_plain (by rw [h1]; exact e30) h2 (fun h => by omega) (fun _ => by omega) (fun h => by omega) (fun h => by omega) (fun h => by omega) (fun h => by omega) (by omega)
   exact (IK.take _).bnd fun _ t2 _ _ => IK.ite (fun _ => (hE t2).bnd fun a t5 _ _ => (IK.need _).bnd fun _ t6 _ _ => IK.addNode _ fun t _ => hn _ rfl rfl rfl (.inl rfl) t) fun _ =>
     (IK.take _).bnd fun _ t2 _ _ => IK.ite (fun _ => (hE t2).bnd fun a t5 _ _ => (IK.need _).bnd fun _ t6 _ _ => IK.addNode _ fun t _ => hn _ rfl rfl rfl (.inr rfl) t) fun _ =>
       IK.look fun s2 => IK.ite (fun _ => branchM_ik hE hS _ _ t2) fun _ => IK.ite (fun _ => branchM_ik hE hS _ _ t2) fun _ => plainM_ik hE t2
theorem lv_ik (ht : ∀ t ∈ toks, TkOk t) (hL : toks.length ≤ 1001) : ∀ r, (∀ t0, IK t0 (lv toks r).E fun _ _ => True) ∧ (∀ t0, IK t0 (lv toks r).O fun _ _ => True) ∧ (∀ t0, IK t0 (lv toks r).S fun _ _ => True)
 | 0 => ⟨fun _ => IK.fail _ _, fun _ => IK.fail _ _, fun _ => IK.fail _ _⟩
 | r + 1 => by
   obtain ⟨h1, h2, h3⟩ := lv_ik ht hL r
   have hT : ∀ t0, IK t0 (typ toks r) TyIn := fun t0 => IK.typ ht hL r
   exact ⟨exprM_ik ht (oneM_ik ht hT h1 h2 h3), oneM_ik ht hT h1 h2 h3, bareM_ik ht hT h1 h3⟩
theorem progLoop_ik {S : M Nat} (hS : ∀ t0, IK t0 S fun _ _ => True) : ∀ f l t0, IK t0 (progLoop toks S f l) fun _ _ => True
 | 0, _, _ => IK.fail _ _
 | f + 1, l, t0 => IK.look fun s => IK.ite (fun _ => IK.ret l fun _ _ => trivial) fun _ => (hS t0).bnd fun n t1 _ _ => progLoop_ik hS f _ t1
theorem progM_ik (ht : ∀ t ∈ toks, TkOk t) (hL : toks.length ≤ 1001) (t0 : List Ty) : IK t0 (progM toks) fun _ _ => True :=
 (progLoop_ik (lv_ik ht hL 20).2.2 _ _ t0).bnd fun l t1 _ _ => IK.addNode _ fun t _ => ndOk_plain e30 rfl (fun h => (by cases h)) (fun _ => (by simp [ndOf])) (fun h => (by cases h)) (fun h => (by simp [ndOf] at h)) (fun h => (by cases h)) (fun h => (by cases h)) (by simp [ndOf]) t
end
structure PgOk (pg : Pg) : Prop where
 wf : Wf pg.ts
 nm : Nm pg.ts
 ns : ∀ nd ∈ pg.ns, NdOk nd pg.ts
 nlen : pg.ns.length ≤ 1200
 tlen : pg.ts.length ≤ 300
theorem parse_pg {s : ByteArray} {pg : Pg} (h : parse s = .ok pg) : PgOk pg := by
 unfold parse at h
 split at h
 · cases h
 · rename_i toks hsc
   split at h
   · cases h
   · rename_i n st e
     split at h
     · cases h
     · rename_i hlen
       cases h
       obtain ⟨h1, _, _⟩ := progM_ik (scan_tk hsc) (Tok.scan_ok _ _ hsc).2.1 [] _ _ _ (Ext.refl _) ⟨Wf.nil, Nm.nil, fun x hx => by simp at hx⟩ e
       exact ⟨h1.wf, h1.nm, h1.ns, by dsimp only; omega, by dsimp only; omega⟩
end Ty
end
end Go.Proofs.YtdlbhiaceheffabGreatDoor
