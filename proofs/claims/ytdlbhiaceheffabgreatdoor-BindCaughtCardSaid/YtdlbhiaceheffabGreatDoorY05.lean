/- Plain: numbers that were scanned, and their values. -/
import Derived.Lib.Atoi
import Derived.Lib.ItoaLen
import Derived.Test.YtdlbhiaceheffabGreatDoorY04
set_option linter.all false
namespace Go.Proofs.YtdlbhiaceheffabGreatDoor
section
namespace Ty
open Tok (Tk)
structure NumOk (x : ByteArray) : Prop where
 size : x.size ≤ 9
 dig : ∀ d ∈ x.data.toList, Tok.isDigit d = true
 ne : x.data.toList ≠ []
 nz : x.data.toList.length = 1 ∨ x.data.toList.head? ≠ some 48
def Nums (af : List Tk) : Prop := ∀ t ∈ af, t.kind = 3 → NumOk t.text
theorem next_num (s : ByteArray) (k : Nat) (h : k < s.size) (hok : (Tok.next s k).2.2 = true) (hk : (Tok.next s k).1.kind = 3) : NumOk (Tok.next s k).1.text := by
 unfold Tok.next at hok hk ⊢
 by_cases hl : Tok.isLetter (Tok.byte s k) = true
 · simp only [hl, if_true] at hk
   split at hk <;> cases hk
 · simp only [hl, if_false, Bool.false_eq_true] at hok hk ⊢
   by_cases hd : Tok.isDigit (Tok.byte s k) = true
   · simp only [hd, if_true] at hok ⊢
     have hst := Tok.stop_ge Tok.isDigit s k
     have hle := Tok.stop_le Tok.isDigit s k (by omega)
     simp only [Bool.and_eq_true, Bool.or_eq_true, decide_eq_true_eq, Bool.not_eq_true', decide_eq_false_iff_not] at hok
     have hl2 : (s.extract k (Tok.stop Tok.isDigit s k)).data.toList.length = Tok.stop Tok.isDigit s k - k := by
       have : (s.extract k (Tok.stop Tok.isDigit s k)).size = Tok.stop Tok.isDigit s k - k := by simp only [ByteArray.size_extract]; omega
       rw [← this]; exact Array.length_toList
     have hx : (s.extract k (Tok.stop Tok.isDigit s k)).data.toList = s[k] :: (s.data.toList.drop (k + 1)).takeWhile Tok.isDigit := by
       rw [extract_stop _ _ _ (by omega), Tok.drop_cons s k h, List.takeWhile_cons, if_pos (by rw [← Tok.byte_eq]; exact hd)]
     refine ⟨?_, ?_, ?_, ?_⟩
     · simp only [ByteArray.size_extract]; omega
     · rw [extract_stop _ _ _ (by omega)]; exact takeWhile_all _ _
     · rw [hx]; simp
     · rcases hok.2 with h1 | h1
       · left; omega
       · right
         rw [hx]
         intro e
         simp only [List.head?_cons, Option.some.injEq] at e
         exact h1 (by rw [Tok.byte_eq s k h]; exact e)
   · simp only [hd, if_false, Bool.false_eq_true] at hk
     split at hk
     · cases hk
     · split at hk <;> cases hk
theorem scanFrom_nums (s : ByteArray) : ∀ (f k : Nat) (o l : List Tk), Tok.scanFrom s f k o = .ok l → Nums o → Nums l
 | 0, k, o, l, h, ho => by cases h; exact ho
 | f + 1, k, o, l, h, ho => by
   rw [Tok.scanFrom] at h
   split at h
   · rename_i hk
     split at h
     · exact scanFrom_nums s f _ _ _ h ho
     · split at h
       · cases h
       · rename_i hok
         split at h
         · cases h
         · refine scanFrom_nums s f _ _ _ h fun t ht => ?_
           rw [List.mem_append] at ht
           rcases ht with ht | ht
           · exact ho t ht
           · simp at ht; subst ht
             exact next_num s k hk (by simpa using hok)
   · cases h
     intro t ht
     rw [List.mem_append] at ht
     rcases ht with ht | ht
     · exact ho t ht
     · simp at ht; subst ht; intro h; cases h
theorem scan_nums {s : ByteArray} {l : List Tk} (h : Tok.scan s = .ok l) : Nums l := by
 unfold Tok.scan at h
 split at h
 · cases h
 · exact scanFrom_nums s _ _ _ _ h fun t ht => by simp at ht
theorem digitVal_of {d : UInt8} (h : Tok.isDigit d = true) : Lib.digitVal d = some (d.toNat - 48) := by
 unfold Tok.isDigit at h
 simp at h
 unfold Lib.digitVal
 rw [if_pos h]
theorem decFrom_fold : ∀ (l : List UInt8) (acc : Nat), (∀ d ∈ l, Tok.isDigit d = true) → Lib.decFrom acc l = some (l.foldl (fun n c => 10 * n + (c.toNat - 48)) acc)
 | [], acc, _ => rfl
 | c :: l, acc, h => by
   rw [Lib.decFrom, digitVal_of (h c (by simp))]
   dsimp only
   rw [decFrom_fold l _ (fun d hd => h d (by simp [hd])), List.foldl_cons, Nat.mul_comm acc 10]
theorem atoi_value {x : ByteArray} (h : NumOk x) : Lib.atoi x.data.toList = some ((value x : Nat) : Int) := by
 unfold value
 cases e : x.data.toList with
 | nil => exact absurd e h.ne
 | cons c l =>
   have hd := h.dig
   rw [e] at hd
   have hc := hd c (by simp)
   unfold Tok.isDigit at hc
   simp at hc
   rw [Lib.atoi, if_neg (by intro h45; have := beq_iff_eq.1 h45; subst this; simp at hc), if_neg (by intro h43; have := beq_iff_eq.1 h43; subst this; simp at hc)]
   unfold Lib.decNat
   rw [if_neg (by simp), decFrom_fold _ _ hd]
   rfl
end Ty
end
section
namespace Ty
open Tok (Tk)
structure LitOk (x : ByteArray) : Prop where
 size : x.size ≤ 30
 plain : ∀ d ∈ x.data.toList, Tok.isPlain d = true
structure TkOk (t : Tk) : Prop where
 size : t.text.size ≤ 30
 name : t.kind = 1 → NameOk t.text
 num : t.kind = 3 → NumOk t.text
 lit : t.kind = 4 → LitOk t.text
theorem e30 : (ByteArray.mk #[]).size ≤ 30 := by decide
theorem next_lit (s : ByteArray) (k : Nat) (hok : (Tok.next s k).2.2 = true) : (Tok.next s k).1.text.size ≤ 30 ∧ ((Tok.next s k).1.kind = 4 → LitOk (Tok.next s k).1.text) := by
 unfold Tok.next at hok ⊢
 dsimp only at hok ⊢
 split
 · rename_i h; rw [if_pos h] at hok
   have := of_decide_eq_true hok
   have := Tok.stop_ge Tok.isPart s k
   exact ⟨by simp only [ByteArray.size_extract]; omega, fun h => by dsimp only at h; split at h <;> cases h⟩
 · rename_i h; rw [if_neg h] at hok
   split
   · rename_i h; rw [if_pos h] at hok
     simp only [Bool.and_eq_true, decide_eq_true_eq] at hok
     have := Tok.stop_ge Tok.isDigit s k
     exact ⟨by simp only [ByteArray.size_extract]; omega, fun h => (by cases h)⟩
   · rename_i h; rw [if_neg h] at hok
     split
     · rename_i h; rw [if_pos h] at hok
       simp only [Bool.and_eq_true, decide_eq_true_eq] at hok
       have := Tok.stop_ge Tok.isPlain s (k + 1)
       have hz : (s.extract (k + 1) (Tok.stop Tok.isPlain s (k + 1))).size ≤ 30 := by simp only [ByteArray.size_extract]; omega
       refine ⟨hz, fun _ => ⟨hz, fun d hd => ?_⟩⟩
       rw [extract_stop _ _ _ (by omega)] at hd
       exact takeWhile_all _ _ _ hd
     · split
       · exact ⟨by simp only [ByteArray.size_extract]; omega, fun h => (by cases h)⟩
       · exact ⟨by simp only [ByteArray.size_extract]; omega, fun h => (by cases h)⟩
theorem scanFrom_all (P : Tk → Prop) (s : ByteArray) (hn : ∀ k, k < s.size → (Tok.next s k).2.2 = true → P (Tok.next s k).1) (he : P ⟨6, ⟨#[]⟩, s.size⟩) : ∀ (f k : Nat) (o l : List Tk), Tok.scanFrom s f k o = .ok l → (∀ t ∈ o, P t) → ∀ t ∈ l, P t
 | 0, k, o, l, h, ho => by cases h; exact ho
 | f + 1, k, o, l, h, ho => by
   rw [Tok.scanFrom] at h
   split at h
   · rename_i hk
     split at h
     · exact scanFrom_all P s hn he f _ _ _ h ho
     · split at h
       · cases h
       · rename_i hok
         split at h
         · cases h
         · refine scanFrom_all P s hn he f _ _ _ h fun t ht => ?_
           rw [List.mem_append] at ht
           rcases ht with ht | ht
           · exact ho t ht
           · simp at ht; subst ht
             exact hn k hk (by simpa using hok)
   · cases h
     intro t ht
     rw [List.mem_append] at ht
     rcases ht with ht | ht
     · exact ho t ht
     · simp at ht; subst ht; exact he
theorem scan_all {P : Tk → Prop} {s : ByteArray} {l : List Tk} (h : Tok.scan s = .ok l) (hn : ∀ k, k < s.size → (Tok.next s k).2.2 = true → P (Tok.next s k).1) (he : P ⟨6, ⟨#[]⟩, s.size⟩) : ∀ t ∈ l, P t := by
 unfold Tok.scan at h
 split at h
 · cases h
 · exact scanFrom_all P s hn he _ _ _ _ h fun t ht => by simp at ht
theorem scan_tk {s : ByteArray} {l : List Tk} (h : Tok.scan s = .ok l) : ∀ t ∈ l, TkOk t :=
 scan_all h (fun k hk hok => ⟨(next_lit s k hok).1, next_name s k hk hok, next_num s k hk hok, (next_lit s k hok).2⟩)
   ⟨e30, fun h => (by cases h), fun h => (by cases h), fun h => (by cases h)⟩
theorem cur_tk {af : List Tk} (h : ∀ t ∈ af, TkOk t) (p : Nat) : TkOk (cur af p) := by
 unfold cur
 cases e : af[p]? with
 | none => exact ⟨e30, fun h => (by cases h), fun h => (by cases h), fun h => (by cases h)⟩
 | some t => exact h t (List.mem_of_getElem? e)
structure TyIn (t : Nat) (ts : List Ty) : Prop where
 lt : t < ts.length
 cnt : cnt (den ts t) ≤ ts.length
theorem TyIn.ext {t : Nat} {a b : List Ty} (h : TyIn t a) (he : Ext a b) : TyIn t b :=
 ⟨Nat.lt_of_lt_of_le h.lt he.len, by rw [he.den h.lt]; exact Nat.le_trans h.cnt he.len⟩
def TyZ (t : Int) (ts : List Ty) : Prop := t = -1 ∨ ∃ n : Nat, t = (n : Int) ∧ TyIn n ts
theorem TyZ.ext {t : Int} {a b : List Ty} (h : TyZ t a) (he : Ext a b) : TyZ t b := by
 rcases h with h | ⟨n, h, k⟩
 · exact .inl h
 · exact .inr ⟨n, h, k.ext he⟩
def ValOk (n : Nat) : Prop := ∃ x : ByteArray, NumOk x ∧ value x = n
def signsTwo : List (List UInt8) := [[61, 61], [60], [43], [45], [42]]
structure NdOk (nd : Nd) (ts : List Ty) : Prop where
 size : nd.text.size ≤ 30
 num : nd.kind = 1 → ValOk nd.n
 small : nd.kind ≠ 1 → nd.n ≤ 1
 lit : nd.kind = 2 → LitOk nd.text
 name : nd.kind = 5 ∨ nd.kind = 8 ∨ (15 ≤ nd.kind ∧ nd.kind ≤ 19) → NameOk nd.text
 two : nd.kind = 12 → nd.text.data.toList ∈ signsTwo
 one : nd.kind = 13 → nd.text.data.toList ∈ prefixes
 ty : TyZ nd.ty ts
 asTy : nd.kind = 14 → 0 ≤ nd.ty
theorem NdOk.ext {nd : Nd} {a b : List Ty} (h : NdOk nd a) (he : Ext a b) : NdOk nd b := { h with ty := h.ty.ext he }
structure Inv (s : St) : Prop where
 wf : Wf s.ts
 nm : Nm s.ts
 ns : ∀ nd ∈ s.ns, NdOk nd s.ts
def IK {α : Type} (t0 : List Ty) (m : M α) (P : α → List Ty → Prop) : Prop := ∀ s a s', Ext t0 s.ts → Inv s → m s = .ok (a, s') → Inv s' ∧ Ext s.ts s'.ts ∧ P a s'.ts
section
variable {α β : Type} {t0 : List Ty} {af : List Tk}
theorem IK.bnd {m : M α} {k : α → M β} {P : α → List Ty → Prop} {Q : β → List Ty → Prop} (h : IK t0 m P) (g : ∀ a t1, Ext t0 t1 → P a t1 → IK t1 (k a) Q) : IK t0 (Ty.bnd m k) Q := fun s b s' h0 hi e => by
 obtain ⟨a, s1, e1, e2⟩ := bnd_inv e
 obtain ⟨h1, h2, h3⟩ := h _ _ _ h0 hi e1
 obtain ⟨g1, g2, g3⟩ := g a s1.ts (h0.trans h2) h3 s1 b s' (Ext.refl _) h1 e2
 exact ⟨g1, h2.trans g2, g3⟩
theorem IK.ret (a : α) {P : α → List Ty → Prop} (h : ∀ t, Ext t0 t → P a t) : IK t0 (ret a) P := fun s b s' h0 hi e => by cases e; exact ⟨hi, Ext.refl _, h _ h0⟩
theorem IK.fail (n : Nat) (P : α → List Ty → Prop) : IK t0 (fail (α := α) af n) P := fun s b s' _ _ e => by cases e
theorem IK.step : IK t0 step fun _ _ => True := fun s b s' h0 hi e => by cases e; exact ⟨⟨hi.wf, hi.nm, hi.ns⟩, Ext.refl _, trivial⟩
theorem IK.take (x : List UInt8) : IK t0 (take af x) fun _ _ => True := fun s b s' h0 hi e => by
 unfold Ty.take at e; split at e <;> cases e <;> exact ⟨⟨hi.wf, hi.nm, hi.ns⟩, Ext.refl _, trivial⟩
theorem IK.need (x : List UInt8) : IK t0 (need af x) fun _ _ => True := fun s b s' h0 hi e => by
 unfold Ty.need at e; split at e <;> cases e; exact ⟨⟨hi.wf, hi.nm, hi.ns⟩, Ext.refl _, trivial⟩
theorem IK.name (ht : ∀ t ∈ af, TkOk t) (met : List ByteArray) : IK t0 (name af met) fun x _ => NameOk x := fun s b s' h0 hi e => by
 unfold Ty.name at e
 split at e
 · cases e
 · rename_i hk
   split at e <;> cases e
   exact ⟨⟨hi.wf, hi.nm, hi.ns⟩, Ext.refl _, (cur_tk ht _).name (by omega)⟩
theorem IK.look {k : St → M α} {P : α → List Ty → Prop} (h : ∀ s, IK t0 (k s) P) : IK t0 (Ty.look k) P := fun s a s' h0 hi x => h s s a s' h0 hi x
theorem IK.ite {p : Prop} [Decidable p] {m n : M α} {P : α → List Ty → Prop} (h : p → IK t0 m P) (g : ¬ p → IK t0 n P) : IK t0 (if p then m else n) P := by
 split
 · exact h ‹_›
 · exact g ‹_›
theorem IK.mono {m : M α} {P Q : α → List Ty → Prop} (h : IK t0 m P) (hpq : ∀ a t, P a t → Q a t) : IK t0 m Q := fun s a s' h0 hi e => by
 obtain ⟨h1, h2, h3⟩ := h s a s' h0 hi e
 exact ⟨h1, h2, hpq _ _ h3⟩
theorem IK.addNode (nd : Nd) (h : ∀ t, Ext t0 t → NdOk nd t) : IK t0 (addNode nd) fun _ _ => True := fun s b s' h0 hi e => by
 cases e
 refine ⟨⟨hi.wf, hi.nm, fun x hx => ?_⟩, Ext.refl _, trivial⟩
 rw [List.mem_append] at hx
 rcases hx with hx | hx
 · exact hi.ns x hx
 · simp at hx; subst hx; exact h _ h0
theorem IK.trunc (a : Nat) : IK t0 (trunc a) fun _ _ => True := fun s b s' h0 hi e => by
 cases e
 exact ⟨⟨hi.wf, hi.nm, fun x hx => hi.ns x (List.mem_of_mem_take hx)⟩, Ext.refl _, trivial⟩
theorem IK.typ (ht : ∀ t ∈ af, TkOk t) (hL : af.length ≤ 1001) (r : Nat) : IK t0 (typ af r) fun n t => TyIn n t := fun s n s' h0 hi e => by
 obtain ⟨h1, h2, h3⟩ := typ_keep af hL r _ _ _ hi.wf e
 obtain ⟨g1, g2, _⟩ := typ_grow af hL r _ _ _ hi.wf e
 have h4 := (typ_nm (fun t h => (ht t h).name) r _ _ _ hi.nm e).1
 refine ⟨⟨h1, h4, fun x hx => ?_⟩, g1, h3, by omega⟩
 rw [Keeps.typ af r _ _ _ e] at hx
 exact (hi.ns x hx).ext g1
theorem ndOk_plain {nd : Nd} (hs : nd.text.size ≤ 30) (hty : nd.ty = -1) (h1 : nd.kind = 1 → ValOk nd.n) (h1n : nd.kind ≠ 1 → nd.n ≤ 1) (h2 : nd.kind = 2 → LitOk nd.text) (h3 : nd.kind = 5 ∨ nd.kind = 8 ∨ (15 ≤ nd.kind ∧ nd.kind ≤ 19) → NameOk nd.text)
   (h4 : nd.kind = 12 → nd.text.data.toList ∈ signsTwo) (h5 : nd.kind = 13 → nd.text.data.toList ∈ prefixes) (h6 : nd.kind ≠ 14) : ∀ t, NdOk nd t := fun t => ⟨hs, h1, h1n, h2, h3, h4, h5, .inl hty, fun h => absurd h h6⟩
theorem IK.list {x : List UInt8} {m : List α → M α} {P : α → List Ty → Prop} {t0 : List Ty} (hP : ∀ a t t', P a t → Ext t t' → P a t') (hm : ∀ t1 l, Ext t0 t1 → IK t1 (m l) P) : ∀ f l t1, Ext t0 t1 → (∀ a ∈ l, P a t1) → IK t1 (list af x m f l) fun l t => ∀ a ∈ l, P a t
 | 0, _, _, _, _ => IK.fail _ _
 | f + 1, l, t1, he, hl => (IK.take _).bnd fun _ t2 e2 _ => IK.ite (fun _ => IK.ret l fun t et a ha => hP a _ _ (hl a ha) (e2.trans et)) fun _ =>
     (show IK t2 _ (fun _ _ => True) from IK.ite (fun _ => IK.ret () fun _ _ => trivial) fun _ => IK.need _).bnd fun _ t3 e3 _ => (hm t3 l ((he.trans e2).trans e3)).bnd fun n t4 e4 hn =>
       IK.list hP hm f (l ++ [n]) t4 (((he.trans e2).trans e3).trans e4) fun a ha => by
         rw [List.mem_append] at ha
         rcases ha with ha | ha
         · exact hP a _ _ (hl a ha) ((e2.trans e3).trans e4)
         · simp at ha; subst ha; exact hn
end
section
variable {af : List Tk}
theorem IK.two {t0 : List Ty} {x : ByteArray} {a b : Nat} (hx : x.data.toList ∈ signsTwo) (hs : x.size ≤ 30) : IK t0 (two x a b) fun _ _ => True :=
 IK.look fun s => IK.addNode _ fun t _ => ndOk_plain hs rfl (fun h => (by cases h)) (fun _ => (by simp [ndOf])) (fun h => (by cases h)) (fun h => (by simp [ndOf] at h)) (fun _ => hx) (fun h => (by cases h)) (by simp [ndOf]) t
theorem is_text {x : List UInt8} {p : Nat} (h : is af x p = true) : (cur af p).text.data.toList = x := by
 unfold is at h
 simp only [Bool.and_eq_true, decide_eq_true_eq] at h
 exact h.2
theorem any_text {l : List (List UInt8)} {p : Nat} (h : l.any (fun x => is af x p) = true) : (cur af p).text.data.toList ∈ l := by
 obtain ⟨x, hx, hi⟩ := List.any_eq_true.1 h
 rw [is_text hi]; exact hx
theorem leftLoop_ik {ONE : M Nat} (ht : ∀ t ∈ af, TkOk t) {signs : List (List UInt8)} (hsg : ∀ x ∈ signs, x ∈ signsTwo) : ∀ f n t0, (∀ t0, IK t0 ONE fun _ _ => True) → IK t0 (leftLoop af ONE signs f n) fun _ _ => True
 | 0, _, _, _ => IK.fail _ _
 | f + 1, n, t0, h => IK.look fun s => IK.ite (fun hs => IK.step.bnd fun _ t1 _ _ => (h t1).bnd fun _ t2 _ _ => (IK.two (hsg _ (any_text hs)) (cur_tk ht _).size).bnd fun m t3 _ _ => leftLoop_ik ht hsg f m t3 h) (fun _ => IK.ret n fun _ _ => trivial)
theorem left_ik {ONE : M Nat} (ht : ∀ t ∈ af, TkOk t) {signs : List (List UInt8)} (hsg : ∀ x ∈ signs, x ∈ signsTwo) (h : ∀ t0, IK t0 ONE fun _ _ => True) (t0 : List Ty) : IK t0 (left af ONE signs) fun _ _ => True :=
 (h t0).bnd fun n t1 _ _ => leftLoop_ik ht hsg _ n t1 h
theorem sums_ik {ONE : M Nat} (ht : ∀ t ∈ af, TkOk t) (h : ∀ t0, IK t0 ONE fun _ _ => True) (t0 : List Ty) : IK t0 (sums af ONE) fun _ _ => True :=
 left_ik ht (by decide) (left_ik ht (by decide) h) t0
theorem exprM_ik {ONE : M Nat} (ht : ∀ t ∈ af, TkOk t) (h : ∀ t0, IK t0 ONE fun _ _ => True) (t0 : List Ty) : IK t0 (exprM af ONE) fun _ _ => True :=
 (sums_ik ht h t0).bnd fun n t1 _ _ => (IK.take _).bnd fun _ t2 _ _ => IK.ite (fun _ => (sums_ik ht h t2).bnd fun m t3 _ _ => IK.two (by decide) (by decide)) fun _ =>
   (IK.take _).bnd fun _ t3 _ _ => IK.ite (fun _ => (sums_ik ht h t3).bnd fun m t3 _ _ => IK.two (by decide) (by decide)) fun _ => IK.ret n fun _ _ => trivial
theorem behind_ik {T E : M Nat} (ht : ∀ t ∈ af, TkOk t) (hT : ∀ t0, IK t0 T TyIn) (hE : ∀ t0, IK t0 E fun _ _ => True) : ∀ f a t0, IK t0 (behind af T E f a) fun _ _ => True
 | 0, _, _ => IK.fail _ _
 | f + 1, a, t0 => IK.look fun s => (IK.take _).bnd fun _ t1 _ _ => IK.ite (fun _ => (IK.list (P := fun _ _ => True) (fun _ _ _ _ _ => trivial) (fun t1 _ _ => hE t1) _ [] t1 (Ext.refl _) (fun _ _ => trivial)).bnd fun l t2 _ _ => (IK.addNode _ fun t _ => ndOk_plain e30 rfl (fun h => (by cases h)) (fun _ => (by simp [ndOf])) (fun h => (by cases h)) (fun h => (by simp [ndOf] at h)) (fun h => (by cases h)) (fun h => (by cases h)) (by simp [ndOf]) t).bnd fun m t3 _ _ => behind_ik ht hT hE f m t3) fun _ =>
     (IK.take _).bnd fun _ t2 _ _ => IK.ite (fun _ => (IK.name ht []).bnd fun x t3 _ hx => (IK.addNode _ fun t _ => ndOk_plain (Nat.le_trans hx.size (by omega)) rfl (fun h => (by cases h)) (fun _ => (by simp [ndOf])) (fun h => (by cases h)) (fun _ => hx) (fun h => (by cases h)) (fun h => (by cases h)) (by simp [ndOf]) t).bnd fun m t3 _ _ => behind_ik ht hT hE f m t3) fun _ =>
     (IK.take _).bnd fun _ t2 _ _ => IK.ite (fun _ => (hE t2).bnd fun c t3 _ _ => (IK.need _).bnd fun _ t4 _ _ => (IK.addNode _ fun t _ => ndOk_plain e30 rfl (fun h => (by cases h)) (fun _ => (by simp [ndOf])) (fun h => (by cases h)) (fun h => (by simp [ndOf] at h)) (fun h => (by cases h)) (fun h => (by cases h)) (by simp [ndOf]) t).bnd fun m t3 _ _ => behind_ik ht hT hE f m t3) fun _ =>
     (IK.take _).bnd fun _ t2 _ _ => IK.ite (fun _ => (hT t2).bnd fun c t3 _ hc => (IK.addNode _ fun t et => ⟨e30, fun h => (by cases h), fun _ => (by simp [ndOf]), fun h => (by cases h), fun h => (by simp [ndOf] at h), fun h => (by cases h), fun h => (by cases h), .inr ⟨c, rfl, hc.ext et⟩, fun _ => Int.natCast_nonneg _⟩).bnd fun m t3 _ _ => behind_ik ht hT hE f m t3) fun _ => IK.ret a fun _ _ => trivial
theorem written_ik {T : M Nat} (hT : ∀ t0, IK t0 T TyIn) (t0 : List Ty) : IK t0 (written af T) fun z t => TyZ z t :=
 (IK.take _).bnd fun _ t1 _ _ => IK.ite (fun _ => (hT t1).bnd fun n t2 _ hn => IK.ret _ fun t et => .inr ⟨n, rfl, hn.ext et⟩) fun _ => IK.ret _ fun t _ => .inl rfl
theorem partM_ik {E : M Nat} (ht : ∀ t ∈ af, TkOk t) (hE : ∀ t0, IK t0 E fun _ _ => True) (met : List ByteArray) (t0 : List Ty) : IK t0 (partM af E met) fun _ _ => True :=
 IK.look fun _ => (IK.name ht met).bnd fun x t1 _ hx => (IK.need _).bnd fun _ t2 _ _ => (hE t2).bnd fun a t3 _ _ => (IK.addNode _ fun t _ => ndOk_plain (Nat.le_trans hx.size (by omega)) rfl (fun h => (by cases h)) (fun _ => (by simp [ndOf])) (fun h => (by cases h)) (fun _ => hx) (fun h => (by cases h)) (fun h => (by cases h)) (by simp [ndOf]) t).bnd fun n t4 _ _ => IK.ret _ fun _ _ => trivial
theorem paramM_ik {T : M Nat} (ht : ∀ t ∈ af, TkOk t) (hT : ∀ t0, IK t0 T TyIn) (met : List ByteArray) (t0 : List Ty) : IK t0 (paramM af T met) fun _ _ => True :=
 IK.look fun _ => (IK.name ht met).bnd fun x t1 _ hx => (written_ik hT t1).bnd fun z t2 _ hz => (IK.addNode _ fun t et => ⟨Nat.le_trans hx.size (by omega), fun h => (by cases h), fun _ => (by simp [ndOf]), fun h => (by cases h), fun _ => hx, fun h => (by cases h), fun h => (by cases h), hz.ext et, fun h => (by cases h)⟩).bnd fun n t4 _ _ => IK.ret _ fun _ _ => trivial
theorem stmts_ik {S : M Nat} (hS : ∀ t0, IK t0 S fun _ _ => True) : ∀ f l t0, IK t0 (stmts af S f l) fun _ _ => True
 | 0, _, _ => IK.fail _ _
 | f + 1, l, t0 => (IK.take _).bnd fun _ t1 _ _ => IK.ite (fun _ => IK.ret l fun _ _ => trivial) fun _ => (hS t1).bnd fun n t2 _ _ => stmts_ik hS f _ t2
theorem blockM_ik {S : M Nat} (hS : ∀ t0, IK t0 S fun _ _ => True) (t0 : List Ty) : IK t0 (blockM af S) fun _ _ => True :=
 IK.look fun _ => (IK.need _).bnd fun _ t1 _ _ => (stmts_ik hS _ _ t1).bnd fun l t2 _ _ => IK.addNode _ fun t _ => ndOk_plain e30 rfl (fun h => (by cases h)) (fun _ => (by simp [ndOf])) (fun h => (by cases h)) (fun h => (by simp [ndOf] at h)) (fun h => (by cases h)) (fun h => (by cases h)) (by simp [ndOf]) t
theorem functionM_ik {T S : M Nat} (ht : ∀ t ∈ af, TkOk t) (hT : ∀ t0, IK t0 T TyIn) (hS : ∀ t0, IK t0 S fun _ _ => True) (pos : Nat) (t0 : List Ty) : IK t0 (functionM af T S pos) fun _ _ => True :=
 (IK.need _).bnd fun _ t1 _ _ => (IK.list (P := fun _ _ => True) (fun _ _ _ _ _ => trivial) (fun t1 l _ => paramM_ik ht hT _ t1) _ [] t1 (Ext.refl _) (fun _ _ => trivial)).bnd fun l t2 _ _ => (written_ik hT t2).bnd fun z t3 _ hz => (blockM_ik hS t3).bnd fun a t4 e4 _ =>
   IK.addNode _ fun t et => ⟨e30, fun h => (by cases h), fun _ => (by simp [ndOf]), fun h => (by cases h), fun h => (by simp [ndOf] at h), fun h => (by cases h), fun h => (by cases h), hz.ext (e4.trans et), fun h => (by cases h)⟩
theorem simpleM_ik {T E S : M Nat} (ht : ∀ t ∈ af, TkOk t) (hT : ∀ t0, IK t0 T TyIn) (hE : ∀ t0, IK t0 E fun _ _ => True) (hS : ∀ t0, IK t0 S fun _ _ => True) (t0 : List Ty) : IK t0 (simpleM af T E S) fun _ _ => True := by
 refine IK.look fun s => ?_
 have hc := cur_tk ht s.pos
 refine IK.ite (fun hk => IK.step.bnd fun _ t1 _ _ => IK.addNode _ fun t _ => ndOk_plain e30 rfl (fun _ => ⟨_, hc.num hk, rfl⟩) (fun h => absurd rfl h) (fun h => (by cases h)) (fun h => (by simp [ndOf] at h)) (fun h => (by cases h)) (fun h => (by cases h)) (by simp [ndOf]) t) fun _ => ?_
 refine IK.ite (fun hk => IK.step.bnd fun _ t1 _ _ => IK.addNode _ fun t _ => ndOk_plain hc.size rfl (fun h => (by cases h)) (fun _ => (by simp [ndOf])) (fun _ => hc.lit hk) (fun h => (by simp [ndOf] at h)) (fun h => (by cases h)) (fun h => (by cases h)) (by simp [ndOf]) t) fun _ => ?_
 refine IK.ite (fun hk => IK.step.bnd fun _ t1 _ _ => IK.addNode _ fun t _ => ndOk_plain hc.size rfl (fun h => (by cases h)) (fun _ => (by simp [ndOf])) (fun h => (by cases h)) (fun _ => hc.name hk) (fun h => (by cases h)) (fun h => (by cases h)) (by simp [ndOf]) t) fun _ => ?_
 refine (IK.take _).bnd fun _ t1 _ _ => IK.ite (fun _ => IK.addNode _ fun t _ => ndOk_plain e30 rfl (fun h => (by cases h)) (fun _ => by simp) (fun h => (by cases h)) (fun h => (by simp [ndOf] at h)) (fun h => (by cases h)) (fun h => (by cases h)) (by simp [ndOf]) t) fun _ => ?_
 refine (IK.take _).bnd fun _ t2 _ _ => IK.ite (fun _ => IK.addNode _ fun t _ => ndOk_plain e30 rfl (fun h => (by cases h)) (fun _ => (by simp [ndOf])) (fun h => (by cases h)) (fun h => (by simp [ndOf] at h)) (fun h => (by cases h)) (fun h => (by cases h)) (by simp [ndOf]) t) fun _ => ?_
 refine (IK.take _).bnd fun _ t3 _ _ => IK.ite (fun _ => IK.addNode _ fun t _ => ndOk_plain e30 rfl (fun h => (by cases h)) (fun _ => (by simp [ndOf])) (fun h => (by cases h)) (fun h => (by simp [ndOf] at h)) (fun h => (by cases h)) (fun h => (by cases h)) (by simp [ndOf]) t) fun _ => ?_
 refine (IK.take _).bnd fun _ t4 _ _ => IK.ite (fun _ => functionM_ik ht hT hS _ t4) fun _ => ?_
 refine (IK.take _).bnd fun _ t5 _ _ => IK.ite (fun _ => (IK.list (P := fun _ _ => True) (fun _ _ _ _ _ => trivial) (fun t1 _ _ => hE t1) _ [] t5 (Ext.refl _) (fun _ _ => trivial)).bnd fun l t6 _ _ => IK.addNode _ fun t _ => ndOk_plain e30 rfl (fun h => (by cases h)) (fun _ => (by simp [ndOf])) (fun h => (by cases h)) (fun h => (by simp [ndOf] at h)) (fun h => (by cases h)) (fun h => (by cases h)) (by simp [ndOf]) t) fun _ => ?_
 refine (IK.take _).bnd fun _ t6 _ _ => IK.ite (fun _ => (IK.list (P := fun _ _ => True) (fun _ _ _ _ _ => trivial) (fun t1 l _ => partM_ik ht hE _ t1) _ [] t6 (Ext.refl _) (fun _ _ => trivial)).bnd fun l t7 _ _ => IK.addNode _ fun t _ => ndOk_plain e30 rfl (fun h => (by cases h)) (fun _ => (by simp [ndOf])) (fun h => (by cases h)) (fun h => (by simp [ndOf] at h)) (fun h => (by cases h)) (fun h => (by cases h)) (by simp [ndOf]) t) fun _ => ?_
 exact (IK.need _).bnd fun _ t7 _ _ => (hE t7).bnd fun a t8 _ _ => (IK.need _).bnd fun _ t9 _ _ => IK.ret a fun _ _ => trivial
theorem oneM_ik {T E O S : M Nat} (ht : ∀ t ∈ af, TkOk t) (hT : ∀ t0, IK t0 T TyIn) (hE : ∀ t0, IK t0 E fun _ _ => True) (hO : ∀ t0, IK t0 O fun _ _ => True) (hS : ∀ t0, IK t0 S fun _ _ => True) (t0 : List Ty) : IK t0 (oneM af T E O S) fun _ _ => True :=
 IK.look fun s => IK.ite (fun hp => IK.step.bnd fun _ t1 _ _ => (hO t1).bnd fun a t2 _ _ => IK.addNode _ fun t _ => ndOk_plain (cur_tk ht _).size rfl (fun h => (by cases h)) (fun _ => (by simp [ndOf])) (fun h => (by cases h)) (fun h => (by simp [ndOf] at h)) (fun h => (by cases h)) (fun _ => any_text hp) (by simp [ndOf]) t)
   fun _ => (simpleM_ik ht hT hE hS t0).bnd fun a t1 _ _ => behind_ik ht hT hE _ a t1
theorem ndAt_ok {s : St} (h : Inv s) (a : Nat) (hk : (ndAt s a).kind ≠ 0) : NdOk (ndAt s a) s.ts := by
 unfold ndAt at hk ⊢
 cases e : s.ns[a]? with
 | none => rw [e] at hk; exact absurd rfl hk
 | some nd => exact h.ns nd (List.mem_of_getElem? e)
theorem plainM_ik {E : M Nat} (hE : ∀ t0, IK t0 E fun _ _ => True) (t0 : List Ty) : IK t0 (plainM af E) fun _ _ => True := by
 refine (hE t0).bnd fun a t1 _ _ => fun s n s' h0 hi x => ?_
 revert x
 have key : ∀ (f : Nat → Nd), (∀ v t, NdOk (f v) t) → IK t1 (bnd (trunc a) fun _ => bnd step fun _ => bnd E fun v => bnd (need af [59]) fun _ => addNode (f v)) fun _ _ => True := fun f hf =>
   (IK.trunc a).bnd fun _ t2 _ _ => IK.step.bnd fun _ t3 _ _ => (hE t3).bnd fun v t4 _ _ => (IK.need _).bnd fun _ t5 _ _ => IK.addNode _ fun t _ => hf v t
 refine (show IK t1 (if is af [61] s.pos then _ else _) (fun _ _ => True) from ?_) s n s' h0 hi
 refine IK.ite (fun _ => IK.ite (fun hk => ?_) fun _ => IK.ite (fun hk => ?_) fun _ => IK.ite (fun hk => ?_) fun _ => IK.fail _ _) fun _ => (IK.need _).bnd fun _ t2 _ _ => IK.addNode _ fun t _ => ndOk_plain e30 rfl (fun h => (by cases h)) (fun _ => (by simp [ndOf])) (fun h => (by cases h)) (fun h => (by simp [ndOf] at h)) (fun h => (by cases h)) (fun h => (by cases h)) (by simp [ndOf]) t
 · have ho := ndAt_ok hi a (by omega)
   exact key _ fun v t => ndOk_plain (nd := { ndOf 18 (ndAt s a).pos with text := (ndAt s a).text, a := v }) ho.size rfl (fun h => (by cases h)) (fun _ => (by simp [ndOf])) (fun h => (by cases h)) (fun _ => ho.name (.inl hk)) (fun h => (by cases h)) (fun h => (by cases h)) (by simp [ndOf]) t
 · have ho := ndAt_ok hi a (by omega)
   exact key _ fun v t => ndOk_plain (nd := { ndOf 19 (ndAt s a).pos with text := (ndAt s a).text, a := (ndAt s a).a, b := v }) ho.size rfl (fun h => (by cases h)) (fun _ => (by simp [ndOf])) (fun h => (by cases h)) (fun _ => ho.name (.inr (.inl hk))) (fun h => (by cases h)) (fun h => (by cases h)) (by simp [ndOf]) t
 · exact key _ fun v t => ndOk_plain e30 rfl (fun h => (by cases h)) (fun _ => (by simp [ndOf])) (fun h => (by cases h)) (fun h => (by simp [ndOf] at h)) (fun h => (by cases h)) (fun h => (by cases h)) (by simp [ndOf]) t
theorem branchM_ik {E S : M Nat} (hE : ∀ t0, IK t0 E fun _ _ => True) (hS : ∀ t0, IK t0 S fun _ _ => True) (yes : Bool) (pos : Nat) (t0 : List Ty) : IK t0 (branchM af E S yes pos) fun _ _ => True := by
 have hn : ∀ (nd : Nd), nd.text = ⟨#[]⟩ → nd.ty = -1 → nd.n = 0 → nd.kind = 22 ∨ nd.kind = 23 → ∀ t, NdOk nd t := fun nd h1 h2 h3 h4 => ndOk_plain (by rw [h1]; exact e30) h2 (fun h => by omega) (fun _ => by omega) (fun h => by omega) (fun h => by omega) (fun h => by omega) (fun h => by omega) (by omega)
 exact IK.step.bnd fun _ t1 _ _ => (IK.need _).bnd fun _ t2 _ _ => (hE t2).bnd fun a t3 _ _ => (IK.need _).bnd fun _ t4 _ _ => (blockM_ik hS t4).bnd fun b t5 _ _ =>
   IK.ite (fun _ => (IK.take _).bnd fun _ t6 _ _ => IK.ite (fun _ => (blockM_ik hS t6).bnd fun c t7 _ _ => IK.addNode _ fun t _ => hn _ rfl rfl rfl (.inl rfl) t) fun _ => IK.addNode _ fun t _ => hn _ rfl rfl rfl (.inl rfl) t) fun _ => IK.addNode _ fun t _ => hn _ rfl rfl rfl (.inr rfl) t
theorem bareM_ik {T E S : M Nat} (ht : ∀ t ∈ af, TkOk t) (hT : ∀ t0, IK t0 T TyIn) (hE : ∀ t0, IK t0 E fun _ _ => True) (hS : ∀ t0, IK t0 S fun _ _ => True) (t0 : List Ty) : IK t0 (bareM af T E S) fun _ _ => True := by
 refine IK.look fun s => (IK.take _).bnd fun _ t1 _ _ => IK.ite (fun _ => ?_) fun _ => ?_
 · exact (IK.name ht []).bnd fun x t2 _ hx => (written_ik hT t2).bnd fun z t3 _ hz => (IK.need _).bnd fun _ t4 e4 _ => (hE t4).bnd fun a t5 e5 _ => (IK.need _).bnd fun _ t6 e6 _ => IK.addNode _ fun t et =>
     ⟨Nat.le_trans hx.size (by omega), fun h => (by cases h), fun _ => (by simp [ndOf]), fun h => (by cases h), fun _ => hx, fun h => (by cases h), fun h => (by cases h), hz.ext (((e4.trans e5).trans e6).trans et), fun h => (by cases h)⟩
 · have hn : ∀ (nd : Nd), nd.text = ⟨#[]⟩ → nd.ty = -1 → nd.n = 0 → nd.kind = 21 ∨ nd.kind = 24 → ∀ t, NdOk nd t := fun nd h1 h2 h3 h4 => ndOk_plain (by rw [h1]; exact e30) h2 (fun h => by omega) (fun _ => by omega) (fun h => by omega) (fun h => by omega) (fun h => by omega) (fun h => by omega) (by omega)
   exact (IK.take _).bnd fun _ t2 _ _ => IK.ite (fun _ => (hE t2).bnd fun a t5 _ _ => (IK.need _).bnd fun _ t6 _ _ => IK.addNode _ fun t _ => hn _ rfl rfl rfl (.inl rfl) t) fun _ =>
     (IK.take _).bnd fun _ t2 _ _ => IK.ite (fun _ => (hE t2).bnd fun a t5 _ _ => (IK.need _).bnd fun _ t6 _ _ => IK.addNode _ fun t _ => hn _ rfl rfl rfl (.inr rfl) t) fun _ =>
       IK.look fun s2 => IK.ite (fun _ => branchM_ik hE hS _ _ t2) fun _ => IK.ite (fun _ => branchM_ik hE hS _ _ t2) fun _ => plainM_ik hE t2
theorem lv_ik (ht : ∀ t ∈ af, TkOk t) (hL : af.length ≤ 1001) : ∀ r, (∀ t0, IK t0 (lv af r).E fun _ _ => True) ∧ (∀ t0, IK t0 (lv af r).O fun _ _ => True) ∧ (∀ t0, IK t0 (lv af r).S fun _ _ => True)
 | 0 => ⟨fun _ => IK.fail _ _, fun _ => IK.fail _ _, fun _ => IK.fail _ _⟩
 | r + 1 => by
   obtain ⟨h1, h2, h3⟩ := lv_ik ht hL r
   have hT : ∀ t0, IK t0 (typ af r) TyIn := fun t0 => IK.typ ht hL r
   exact ⟨exprM_ik ht (oneM_ik ht hT h1 h2 h3), oneM_ik ht hT h1 h2 h3, bareM_ik ht hT h1 h3⟩
theorem progLoop_ik {S : M Nat} (hS : ∀ t0, IK t0 S fun _ _ => True) : ∀ f l t0, IK t0 (progLoop af S f l) fun _ _ => True
 | 0, _, _ => IK.fail _ _
 | f + 1, l, t0 => IK.look fun s => IK.ite (fun _ => IK.ret l fun _ _ => trivial) fun _ => (hS t0).bnd fun n t1 _ _ => progLoop_ik hS f _ t1
theorem progM_ik (ht : ∀ t ∈ af, TkOk t) (hL : af.length ≤ 1001) (t0 : List Ty) : IK t0 (progM af) fun _ _ => True :=
 (progLoop_ik (lv_ik ht hL 20).2.2 _ _ t0).bnd fun l t1 _ _ => IK.addNode _ fun t _ => ndOk_plain e30 rfl (fun h => (by cases h)) (fun _ => (by simp [ndOf])) (fun h => (by cases h)) (fun h => (by simp [ndOf] at h)) (fun h => (by cases h)) (fun h => (by cases h)) (by simp [ndOf]) t
end
structure PgOk (pg : Pg) : Prop where
 wf : Wf pg.ts
 nm : Nm pg.ts
 ns : ∀ nd ∈ pg.ns, NdOk nd pg.ts
 nlen : pg.ns.length ≤ 1200
 tlen : pg.ts.length ≤ 300
theorem parse_pg {s : ByteArray} {pg : Pg} (h : parse s = .ok pg) : PgOk pg := by
 unfold parse at h
 split at h
 · cases h
 · rename_i af hsc
   split at h
   · cases h
   · rename_i n st e
     split at h
     · cases h
     · rename_i hlen
       cases h
       obtain ⟨h1, _, _⟩ := progM_ik (scan_tk hsc) (Tok.scan_ok _ _ hsc).2.1 [] _ _ _ (Ext.refl _) ⟨Wf.nil, Nm.nil, fun x hx => by simp at hx⟩ e
       exact ⟨h1.wf, h1.nm, h1.ns, by dsimp only; omega, by dsimp only; omega⟩
end Ty
end
section
namespace Ty
def colS (ts : List Ty) (ty : Int) : List UInt8 := if ty < 0 then [] else [58, 32] ++ text (den ts ty.toNat)
def blanks : Nat → List UInt8
 | 0 => []
 | n + 1 => [32, 32] ++ blanks n
def signLv (x : ByteArray) : Nat := if x.data.toList = [42] then 2 else if x.data.toList = [43] ∨ x.data.toList = [45] then 1 else 0
def lvl : Ex → Nat
 | .one .. => 3
 | .two _ x _ _ => signLv x
 | .num .. => 4
 | .text .. => 4
 | .bool .. => 4
 | .null .. => 4
 | .var .. => 4
 | .fn .. => 4
 | .call .. => 4
 | .get .. => 4
 | .at .. => 4
 | .obj .. => 4
 | .arr .. => 4
 | .as .. => 4
def par (b : Bool) (s : List UInt8) : List UInt8 := if b then [40] ++ s ++ [41] else s
def parS (ts : List Ty) (q : Par) : List UInt8 := q.text.data.toList ++ colS ts q.ty
def typeofS : List UInt8 := [116, 121, 112, 101, 111, 102]
mutual
def wE (ts : List Ty) (ind : Nat) : Ex → List UInt8
 | .num _ n => Lib.itoa n
 | .text _ x => [34] ++ x.data.toList ++ [34]
 | .bool _ n => if n = 1 then [116, 114, 117, 101] else [102, 97, 108, 115, 101]
 | .null _ => [110, 117, 108, 108]
 | .var _ x => x.data.toList
 | .fn _ ps ty _ body => [102, 110, 40] ++ joinL [44, 32] (ps.map (parS ts)) ++ [41] ++ colS ts ty ++ [32] ++ ([123, 10] ++ wSs ts (ind + 1) body ++ blanks ind ++ [125])
 | .call _ a l => par (decide (lvl a < 4)) (wE ts ind a) ++ [40] ++ joinL [44, 32] (wEs ts ind l) ++ [41]
 | .get _ a x => par (decide (lvl a < 4)) (wE ts ind a) ++ [46] ++ x.data.toList
 | .at _ a b => par (decide (lvl a < 4)) (wE ts ind a) ++ [91] ++ wE ts ind b ++ [93]
 | .obj _ l => if l.length = 0 then [123, 125] else [123, 32] ++ joinL [44, 32] (wOs ts ind l) ++ [32, 125]
 | .arr _ l => [91] ++ joinL [44, 32] (wEs ts ind l) ++ [93]
 | .two _ x a b => par (decide (lvl a < max (signLv x) 1)) (wE ts ind a) ++ [32] ++ x.data.toList ++ [32] ++ par (decide (lvl b < signLv x + 1)) (wE ts ind b)
 | .one _ x a => x.data.toList ++ (if x.data.toList = typeofS then [32] else []) ++ par (decide (lvl a < 3)) (wE ts ind a)
 | .as _ a ty => par (decide (lvl a < 4)) (wE ts ind a) ++ [32, 97, 115, 32] ++ text (den ts ty.toNat)
def wEs (ts : List Ty) (ind : Nat) : List Ex → List (List UInt8)
 | [] => []
 | e :: l => wE ts ind e :: wEs ts ind l
def wOs (ts : List Ty) (ind : Nat) : List (Nat × ByteArray × Ex) → List (List UInt8)
 | [] => []
 | (_, x, e) :: l => (x.data.toList ++ [58, 32] ++ wE ts ind e) :: wOs ts ind l
def wSs (ts : List Ty) (ind : Nat) : List Sm → List UInt8
 | [] => []
 | e :: l => wS ts ind e ++ wSs ts ind l
def wS (ts : List Ty) (ind : Nat) : Sm → List UInt8
 | .let_ _ x ty a => blanks ind ++ [108, 101, 116, 32] ++ x.data.toList ++ colS ts ty ++ [32, 61, 32] ++ wE ts ind a ++ [59, 10]
 | .set _ x v => blanks ind ++ x.data.toList ++ [32, 61, 32] ++ wE ts ind v ++ [59, 10]
 | .put _ a x v => blanks ind ++ par (decide (lvl a < 4)) (wE ts ind a) ++ [46] ++ x.data.toList ++ [32, 61, 32] ++ wE ts ind v ++ [59, 10]
 | .lay _ a b v => blanks ind ++ par (decide (lvl a < 4)) (wE ts ind a) ++ [91] ++ wE ts ind b ++ [93, 32, 61, 32] ++ wE ts ind v ++ [59, 10]
 | .print _ a => blanks ind ++ [112, 114, 105, 110, 116, 32] ++ wE ts ind a ++ [59, 10]
 | .ret _ a => blanks ind ++ [114, 101, 116, 117, 114, 110, 32] ++ wE ts ind a ++ [59, 10]
 | .do_ _ a => blanks ind ++ wE ts ind a ++ [59, 10]
 | .if_ _ a _ b none => blanks ind ++ [105, 102, 32, 40] ++ wE ts ind a ++ [41, 32] ++ ([123, 10] ++ wSs ts (ind + 1) b ++ blanks ind ++ [125]) ++ [10]
 | .if_ _ a _ b (some (_, c)) => blanks ind ++ [105, 102, 32, 40] ++ wE ts ind a ++ [41, 32] ++ ([123, 10] ++ wSs ts (ind + 1) b ++ blanks ind ++ [125]) ++ [32, 101, 108, 115, 101, 32] ++ ([123, 10] ++ wSs ts (ind + 1) c ++ blanks ind ++ [125]) ++ [10]
 | .while_ _ a _ b => blanks ind ++ [119, 104, 105, 108, 101, 32, 40] ++ wE ts ind a ++ [41, 32] ++ ([123, 10] ++ wSs ts (ind + 1) b ++ blanks ind ++ [125]) ++ [10]
end
def wB (ts : List Ty) (ind : Nat) (l : List Sm) : List UInt8 := [123, 10] ++ wSs ts (ind + 1) l ++ blanks ind ++ [125]
mutual
def szE : Ex → Nat
 | .num .. => 1
 | .text .. => 1
 | .bool .. => 1
 | .null .. => 1
 | .var .. => 1
 | .fn _ ps _ _ body => ps.length + szSs body + 2
 | .call _ a l => szE a + szEs l + 1
 | .get _ a _ => szE a + 1
 | .at _ a b => szE a + szE b + 1
 | .obj _ l => szOs l + 1
 | .arr _ l => szEs l + 1
 | .two _ _ a b => szE a + szE b + 1
 | .one _ _ a => szE a + 1
 | .as _ a _ => szE a + 1
def szEs : List Ex → Nat
 | [] => 0
 | e :: l => szE e + szEs l
def szOs : List (Nat × ByteArray × Ex) → Nat
 | [] => 0
 | (_, _, e) :: l => szE e + 1 + szOs l
def szSs : List Sm → Nat
 | [] => 0
 | e :: l => szS e + szSs l
def szS : Sm → Nat
 | .let_ _ _ _ a => szE a + 1
 | .set _ _ v => szE v + 1
 | .put _ a _ v => szE a + szE v + 1
 | .lay _ a b v => szE a + szE b + szE v + 1
 | .print _ a => szE a + 1
 | .ret _ a => szE a + 1
 | .do_ _ a => szE a + 1
 | .if_ _ a _ b none => szE a + szSs b + 2
 | .if_ _ a _ b (some (_, c)) => szE a + szSs b + szSs c + 3
 | .while_ _ a _ b => szE a + szSs b + 2
end
theorem layPs_sz : ∀ (ps : List Par) (ns : List Nd), (layPs ps ns).1.length = ns.length + ps.length ∧ (layPs ps ns).2.length = ps.length
 | [], ns => by simp [layPs]
 | q :: ps, ns => by
   have := layPs_sz ps (ns ++ [{ ndOf 16 q.pos with text := q.text, ty := q.ty }])
   simp [layPs] at this ⊢
   omega
mutual
theorem layE_sz : ∀ (e : Ex) (ns : List Nd), (layE e ns).1.length = ns.length + szE e
 | .num _ _, ns => by simp [layE, szE]
 | .text _ _, ns => by simp [layE, szE]
 | .bool _ _, ns => by simp [layE, szE]
 | .null _, ns => by simp [layE, szE]
 | .var _ _, ns => by simp [layE, szE]
 | .fn p ps ty bp body, ns => by
   have h1 := layPs_sz ps ns
   have h2 := laySs_sz body (layPs ps ns).1
   rw [layE, szE, layB]; simp; omega
 | .call p a l, ns => by
   have h1 := layE_sz a ns
   have h2 := layEs_sz l (layE a ns).1
   rw [layE, szE]; simp; omega
 | .get p a x, ns => by have h1 := layE_sz a ns; rw [layE, szE]; simp; omega
 | .at p a b, ns => by
   have h1 := layE_sz a ns
   have h2 := layE_sz b (layE a ns).1
   rw [layE, szE]; simp; omega
 | .obj p l, ns => by have h1 := layOs_sz l ns; rw [layE, szE]; simp; omega
 | .arr p l, ns => by have h1 := layEs_sz l ns; rw [layE, szE]; simp; omega
 | .two p x a b, ns => by
   have h1 := layE_sz a ns
   have h2 := layE_sz b (layE a ns).1
   rw [layE, szE]; simp; omega
 | .one p x a, ns => by have h1 := layE_sz a ns; rw [layE, szE]; simp; omega
 | .as p a ty, ns => by have h1 := layE_sz a ns; rw [layE, szE]; simp; omega
theorem layEs_sz : ∀ (l : List Ex) (ns : List Nd), (layEs l ns).1.length = ns.length + szEs l
 | [], ns => by simp [layEs, szEs]
 | e :: l, ns => by
   have h1 := layE_sz e ns
   have h2 := layEs_sz l (layE e ns).1
   rw [layEs, szEs]; simp; omega
theorem layOs_sz : ∀ (l : List (Nat × ByteArray × Ex)) (ns : List Nd), (layOs l ns).1.length = ns.length + szOs l
 | [], ns => by simp [layOs, szOs]
 | (p, x, e) :: l, ns => by
   have h1 := layE_sz e ns
   have h2 := layOs_sz l ((layE e ns).1 ++ [{ ndOf 15 p with text := x, a := (layE e ns).2 }])
   rw [layOs, szOs]; simp at h2 ⊢; omega
theorem laySs_sz : ∀ (l : List Sm) (ns : List Nd), (laySs l ns).1.length = ns.length + szSs l
 | [], ns => by simp [laySs, szSs]
 | e :: l, ns => by
   have h1 := layS_sz e ns
   have h2 := laySs_sz l (layS e ns).1
   rw [laySs, szSs]; simp; omega
theorem layS_sz : ∀ (e : Sm) (ns : List Nd), (layS e ns).1.length = ns.length + szS e
 | .let_ _ _ _ a, ns => by have h1 := layE_sz a ns; rw [layS, szS]; simp; omega
 | .set _ _ a, ns => by have h1 := layE_sz a ns; rw [layS, szS]; simp; omega
 | .put _ a _ v, ns => by
   have h1 := layE_sz a ns
   have h2 := layE_sz v (layE a ns).1
   rw [layS, szS]; simp; omega
 | .lay _ a b v, ns => by
   have h1 := layE_sz a ns
   have h2 := layE_sz b (layE a ns).1
   have h3 := layE_sz v (layE b (layE a ns).1).1
   rw [layS, szS]; simp; omega
 | .print _ a, ns => by have h1 := layE_sz a ns; rw [layS, szS]; simp; omega
 | .ret _ a, ns => by have h1 := layE_sz a ns; rw [layS, szS]; simp; omega
 | .do_ _ a, ns => by have h1 := layE_sz a ns; rw [layS, szS]; simp; omega
 | .if_ _ a _ b none, ns => by
   have h1 := layE_sz a ns
   have h2 := laySs_sz b (layE a ns).1
   rw [layS, szS, layB]; simp; omega
 | .if_ _ a bp b (some (cp, c)), ns => by
   have h1 := layE_sz a ns
   have h2 := laySs_sz b (layE a ns).1
   have h3 := laySs_sz c (layB bp b (layE a ns).1).1
   have h4 : (layB bp b (layE a ns).1).1.length = (laySs b (layE a ns).1).1.length + 1 := by rw [layB]; simp
   rw [layS, szS, layB]; simp; omega
 | .while_ _ a _ b, ns => by
   have h1 := layE_sz a ns
   have h2 := laySs_sz b (layE a ns).1
   rw [layS, szS, layB]; simp; omega
end
end Ty
end
section
namespace Ty
def idsPs : List Par → Nat → List Nat
 | [], _ => []
 | _ :: l, a => a :: idsPs l (a + 1)
def idsEs : List Ex → Nat → List Nat
 | [], _ => []
 | e :: l, a => (a + szE e - 1) :: idsEs l (a + szE e)
def idsOs : List (Nat × ByteArray × Ex) → Nat → List Nat
 | [], _ => []
 | (_, _, e) :: l, a => (a + szE e) :: idsOs l (a + szE e + 1)
def idsSs : List Sm → Nat → List Nat
 | [], _ => []
 | e :: l, a => (a + szS e - 1) :: idsSs l (a + szS e)
def LyPs (ns : List Nd) : List Par → Nat → Prop
 | [], _ => True
 | q :: l, a => ns[a]? = some { ndOf 16 q.pos with text := q.text, ty := q.ty } ∧ LyPs ns l (a + 1)
mutual
def LyE (ns : List Nd) : Ex → Nat → Prop
 | .num p n, a => ns[a]? = some { ndOf 1 p with n := n }
 | .text p x, a => ns[a]? = some { ndOf 2 p with text := x }
 | .bool p n, a => ns[a]? = some { ndOf 3 p with n := n }
 | .null p, a => ns[a]? = some (ndOf 4 p)
 | .var p x, a => ns[a]? = some { ndOf 5 p with text := x }
 | .fn p ps ty bp body, a => LyPs ns ps a ∧ LySs ns body (a + ps.length) ∧ ns[a + ps.length + szSs body]? = some { ndOf 26 bp with list := idsSs body (a + ps.length) } ∧ ns[a + ps.length + szSs body + 1]? = some { ndOf 6 p with list := idsPs ps a, ty := ty, a := a + ps.length + szSs body }
 | .call p e l, a => LyE ns e a ∧ LyEs ns l (a + szE e) ∧ ns[a + szE e + szEs l]? = some { ndOf 7 p with a := a + szE e - 1, list := idsEs l (a + szE e) }
 | .get p e x, a => LyE ns e a ∧ ns[a + szE e]? = some { ndOf 8 p with a := a + szE e - 1, text := x }
 | .at p e i, a => LyE ns e a ∧ LyE ns i (a + szE e) ∧ ns[a + szE e + szE i]? = some { ndOf 9 p with a := a + szE e - 1, b := a + szE e + szE i - 1 }
 | .obj p l, a => LyOs ns l a ∧ ns[a + szOs l]? = some { ndOf 10 p with list := idsOs l a }
 | .arr p l, a => LyEs ns l a ∧ ns[a + szEs l]? = some { ndOf 11 p with list := idsEs l a }
 | .two p x e i, a => LyE ns e a ∧ LyE ns i (a + szE e) ∧ ns[a + szE e + szE i]? = some { ndOf 12 p with text := x, a := a + szE e - 1, b := a + szE e + szE i - 1 }
 | .one p x e, a => LyE ns e a ∧ ns[a + szE e]? = some { ndOf 13 p with text := x, a := a + szE e - 1 }
 | .as p e ty, a => LyE ns e a ∧ ns[a + szE e]? = some { ndOf 14 p with a := a + szE e - 1, ty := ty }
def LyEs (ns : List Nd) : List Ex → Nat → Prop
 | [], _ => True
 | e :: l, a => LyE ns e a ∧ LyEs ns l (a + szE e)
def LyOs (ns : List Nd) : List (Nat × ByteArray × Ex) → Nat → Prop
 | [], _ => True
 | (p, x, e) :: l, a => LyE ns e a ∧ ns[a + szE e]? = some { ndOf 15 p with text := x, a := a + szE e - 1 } ∧ LyOs ns l (a + szE e + 1)
def LySs (ns : List Nd) : List Sm → Nat → Prop
 | [], _ => True
 | e :: l, a => LyS ns e a ∧ LySs ns l (a + szS e)
def LyS (ns : List Nd) : Sm → Nat → Prop
 | .let_ p x ty e, a => LyE ns e a ∧ ns[a + szE e]? = some { ndOf 17 p with text := x, ty := ty, a := a + szE e - 1 }
 | .set p x e, a => LyE ns e a ∧ ns[a + szE e]? = some { ndOf 18 p with text := x, a := a + szE e - 1 }
 | .put p e x v, a => LyE ns e a ∧ LyE ns v (a + szE e) ∧ ns[a + szE e + szE v]? = some { ndOf 19 p with text := x, a := a + szE e - 1, b := a + szE e + szE v - 1 }
 | .lay p e i v, a => LyE ns e a ∧ LyE ns i (a + szE e) ∧ LyE ns v (a + szE e + szE i) ∧ ns[a + szE e + szE i + szE v]? = some { ndOf 20 p with a := a + szE e - 1, b := a + szE e + szE i - 1, c := ((a + szE e + szE i + szE v - 1 : Nat) : Int) }
 | .print p e, a => LyE ns e a ∧ ns[a + szE e]? = some { ndOf 21 p with a := a + szE e - 1 }
 | .ret p e, a => LyE ns e a ∧ ns[a + szE e]? = some { ndOf 24 p with a := a + szE e - 1 }
 | .do_ p e, a => LyE ns e a ∧ ns[a + szE e]? = some { ndOf 25 p with a := a + szE e - 1 }
 | .if_ p e bp b none, a => LyE ns e a ∧ LySs ns b (a + szE e) ∧ ns[a + szE e + szSs b]? = some { ndOf 26 bp with list := idsSs b (a + szE e) } ∧ ns[a + szE e + szSs b + 1]? = some { ndOf 22 p with a := a + szE e - 1, b := a + szE e + szSs b, c := -1 }
 | .if_ p e bp b (some (cp, c)), a => LyE ns e a ∧ LySs ns b (a + szE e) ∧ ns[a + szE e + szSs b]? = some { ndOf 26 bp with list := idsSs b (a + szE e) } ∧ LySs ns c (a + szE e + szSs b + 1) ∧
     ns[a + szE e + szSs b + 1 + szSs c]? = some { ndOf 26 cp with list := idsSs c (a + szE e + szSs b + 1) } ∧ ns[a + szE e + szSs b + 1 + szSs c + 1]? = some { ndOf 22 p with a := a + szE e - 1, b := a + szE e + szSs b, c := ((a + szE e + szSs b + 1 + szSs c : Nat) : Int) }
 | .while_ p e bp b, a => LyE ns e a ∧ LySs ns b (a + szE e) ∧ ns[a + szE e + szSs b]? = some { ndOf 26 bp with list := idsSs b (a + szE e) } ∧ ns[a + szE e + szSs b + 1]? = some { ndOf 23 p with a := a + szE e - 1, b := a + szE e + szSs b }
end
theorem layE_snd (e : Ex) (ns : List Nd) : (layE e ns).2 = ns.length + szE e - 1 := by
 obtain ⟨n1, nd, h, _⟩ := layE_last e ns
 have h2 := layE_sz e ns
 rw [h] at h2 ⊢
 simp at h2
 simp only
 omega
theorem szE_pos (e : Ex) : 1 ≤ szE e := by cases e <;> simp [szE] <;> omega
theorem szS_pos (e : Sm) : 1 ≤ szS e := by
 cases e with
 | if_ p a bp b c => rcases c with _ | ⟨cp, c⟩ <;> simp [szS]
 | _ => simp [szS]
theorem layS_snd (e : Sm) (ns : List Nd) : (layS e ns).2 = ns.length + szS e - 1 := by
 have h2 := layS_sz e ns
 cases e with
 | if_ p a bp b c => rcases c with _ | ⟨cp, c⟩ <;> (rw [layS] at h2 ⊢; simp only [lzA, lzC, lzN] at h2 ⊢; omega)
 | _ => rw [layS] at h2 ⊢; simp only [lzA, lzC, lzN] at h2 ⊢; omega
theorem get_of_pre {ns ns1 : List Nd} {nd : Nd} (h : ns1 ++ [nd] <+: ns) {k : Nat} (hk : ns1.length = k) : ns[k]? = some nd := by subst hk; exact get_pre h (last_get _ _)
theorem pre_of_pre {ns ns1 : List Nd} {nd : Nd} (h : ns1 ++ [nd] <+: ns) : ns1 <+: ns := (List.prefix_append _ _).trans h
theorem layPs_ids : ∀ (ps : List Par) (ns : List Nd), (layPs ps ns).2 = idsPs ps ns.length
 | [], _ => rfl
 | q :: ps, ns => by
   have h := layPs_ids ps (ns ++ [{ ndOf 16 q.pos with text := q.text, ty := q.ty }])
   rw [layPs]; simp only [idsPs, h, lzA, lzC, lzN]
theorem layEs_ids : ∀ (l : List Ex) (ns : List Nd), (layEs l ns).2 = idsEs l ns.length
 | [], _ => by rw [layEs]; rfl
 | e :: l, ns => by
   have h := layEs_ids l (layE e ns).1
   rw [layEs]; simp only [idsEs, h, layE_sz, layE_snd]
theorem layOs_ids : ∀ (l : List (Nat × ByteArray × Ex)) (ns : List Nd), (layOs l ns).2 = idsOs l ns.length
 | [], _ => by rw [layOs]; rfl
 | (p, x, e) :: l, ns => by
   have h := layOs_ids l ((layE e ns).1 ++ [{ ndOf 15 p with text := x, a := (layE e ns).2 }])
   rw [layOs]; simp only [idsOs, h, layE_sz, lzA, lzC, lzN]
theorem laySs_ids : ∀ (l : List Sm) (ns : List Nd), (laySs l ns).2 = idsSs l ns.length
 | [], _ => by rw [laySs]; rfl
 | e :: l, ns => by
   have h := laySs_ids l (layS e ns).1
   rw [laySs]; simp only [idsSs, h, layS_sz, layS_snd]
theorem layPs_ly {ns : List Nd} : ∀ (ps : List Par) (n0 : List Nd), (layPs ps n0).1 <+: ns → LyPs ns ps n0.length
 | [], _, _ => trivial
 | q :: ps, n0, h => by
   rw [layPs] at h
   have h1 := layPs_ly ps _ h
   have h2 := (layPs_den ps (n0 ++ [{ ndOf 16 q.pos with text := q.text, ty := q.ty }])).1.trans h
   refine ⟨get_of_pre h2 rfl, ?_⟩
   simpa using h1
mutual
theorem layE_ly {ns : List Nd} : ∀ (e : Ex) (n0 : List Nd), (layE e n0).1 <+: ns → LyE ns e n0.length
 | .num .., n0, h => by rw [layE] at h; rw [LyE]; exact get_of_pre h rfl
 | .text .., n0, h => by rw [layE] at h; rw [LyE]; exact get_of_pre h rfl
 | .bool .., n0, h => by rw [layE] at h; rw [LyE]; exact get_of_pre h rfl
 | .null .., n0, h => by rw [layE] at h; rw [LyE]; exact get_of_pre h rfl
 | .var .., n0, h => by rw [layE] at h; rw [LyE]; exact get_of_pre h rfl
 | .fn p ps ty bp body, n0, h => by
   rw [layE, layB] at h; dsimp only at h
   have h1 := pre_of_pre h
   have h2 := pre_of_pre h1
   have hb := laySs_ly body _ h2
   have hp := layPs_ly ps _ ((laySs_den body _).1.trans h2)
   have l1 := layPs_sz ps n0
   have l2 := laySs_sz body (layPs ps n0).1
   have g1 := get_of_pre h1 (k := n0.length + ps.length + szSs body) (by omega)
   have g2 := get_of_pre h (k := n0.length + ps.length + szSs body + 1) (by simp; omega)
   rw [laySs_ids, l1.1] at g1
   rw [layPs_ids, l2, l1.1] at g2
   rw [l1.1] at hb
   rw [LyE]
   exact ⟨hp, hb, g1, g2⟩
 | .call p e l, n0, h => by
   rw [layE] at h; dsimp only at h
   have h1 := pre_of_pre h
   have hl := layEs_ly l _ h1
   have he := layE_ly e _ ((layEs_den l _).1.trans h1)
   have l1 := layE_sz e n0
   have l2 := layEs_sz l (layE e n0).1
   have g := get_of_pre h (k := n0.length + szE e + szEs l) (by omega)
   rw [layEs_ids, layE_snd, l1] at g
   rw [l1] at hl
   rw [LyE]
   exact ⟨he, hl, g⟩
 | .get p e x, n0, h => by
   rw [layE] at h; dsimp only at h
   have g := get_of_pre h (k := n0.length + szE e) (layE_sz e n0)
   rw [layE_snd] at g
   rw [LyE]
   exact ⟨layE_ly e _ (pre_of_pre h), g⟩
 | .at p e i, n0, h => by
   rw [layE] at h; dsimp only at h
   have h1 := pre_of_pre h
   have hl := layE_ly i _ h1
   have he := layE_ly e _ ((layE_den i _).1.trans h1)
   have l1 := layE_sz e n0
   have l2 := layE_sz i (layE e n0).1
   have g := get_of_pre h (k := n0.length + szE e + szE i) (by omega)
   rw [layE_snd, layE_snd, l1] at g
   rw [l1] at hl
   rw [LyE]
   exact ⟨he, hl, g⟩
 | .obj p l, n0, h => by
   rw [layE] at h; dsimp only at h
   have g := get_of_pre h (k := n0.length + szOs l) (layOs_sz l n0)
   rw [layOs_ids] at g
   rw [LyE]
   exact ⟨layOs_ly l _ (pre_of_pre h), g⟩
 | .arr p l, n0, h => by
   rw [layE] at h; dsimp only at h
   have g := get_of_pre h (k := n0.length + szEs l) (layEs_sz l n0)
   rw [layEs_ids] at g
   rw [LyE]
   exact ⟨layEs_ly l _ (pre_of_pre h), g⟩
 | .two p x e i, n0, h => by
   rw [layE] at h; dsimp only at h
   have h1 := pre_of_pre h
   have hl := layE_ly i _ h1
   have he := layE_ly e _ ((layE_den i _).1.trans h1)
   have l1 := layE_sz e n0
   have l2 := layE_sz i (layE e n0).1
   have g := get_of_pre h (k := n0.length + szE e + szE i) (by omega)
   rw [layE_snd, layE_snd, l1] at g
   rw [l1] at hl
   rw [LyE]
   exact ⟨he, hl, g⟩
 | .one p x e, n0, h => by
   rw [layE] at h; dsimp only at h
   have g := get_of_pre h (k := n0.length + szE e) (layE_sz e n0)
   rw [layE_snd] at g
   rw [LyE]
   exact ⟨layE_ly e _ (pre_of_pre h), g⟩
 | .as p e ty, n0, h => by
   rw [layE] at h; dsimp only at h
   have g := get_of_pre h (k := n0.length + szE e) (layE_sz e n0)
   rw [layE_snd] at g
   rw [LyE]
   exact ⟨layE_ly e _ (pre_of_pre h), g⟩
theorem layEs_ly {ns : List Nd} : ∀ (l : List Ex) (n0 : List Nd), (layEs l n0).1 <+: ns → LyEs ns l n0.length
 | [], _, _ => by rw [LyEs]; trivial
 | e :: l, n0, h => by
   rw [layEs] at h; dsimp only at h
   have hl := layEs_ly l _ h
   rw [layE_sz] at hl
   rw [LyEs]
   exact ⟨layE_ly e _ ((layEs_den l _).1.trans h), hl⟩
theorem layOs_ly {ns : List Nd} : ∀ (l : List (Nat × ByteArray × Ex)) (n0 : List Nd), (layOs l n0).1 <+: ns → LyOs ns l n0.length
 | [], _, _ => by rw [LyOs]; trivial
 | (p, x, e) :: l, n0, h => by
   rw [layOs] at h; dsimp only at h
   have hl := layOs_ly l _ h
   have h1 := (layOs_den l _).1.trans h
   have g := get_of_pre h1 (k := n0.length + szE e) (layE_sz e n0)
   rw [List.length_append, layE_sz] at hl
   rw [layE_snd] at g
   rw [LyOs]
   exact ⟨layE_ly e _ (pre_of_pre h1), g, hl⟩
theorem laySs_ly {ns : List Nd} : ∀ (l : List Sm) (n0 : List Nd), (laySs l n0).1 <+: ns → LySs ns l n0.length
 | [], _, _ => by rw [LySs]; trivial
 | e :: l, n0, h => by
   rw [laySs] at h; dsimp only at h
   have hl := laySs_ly l _ h
   rw [layS_sz] at hl
   rw [LySs]
   exact ⟨layS_ly e _ ((laySs_den l _).1.trans h), hl⟩
theorem layS_ly {ns : List Nd} : ∀ (e : Sm) (n0 : List Nd), (layS e n0).1 <+: ns → LyS ns e n0.length
 | .let_ p x ty e, n0, h => by
   rw [layS] at h; dsimp only at h
   have g := get_of_pre h (k := n0.length + szE e) (layE_sz e n0)
   rw [layE_snd] at g
   rw [LyS]
   exact ⟨layE_ly e _ (pre_of_pre h), g⟩
 | .set p x e, n0, h => by
   rw [layS] at h; dsimp only at h
   have g := get_of_pre h (k := n0.length + szE e) (layE_sz e n0)
   rw [layE_snd] at g
   rw [LyS]
   exact ⟨layE_ly e _ (pre_of_pre h), g⟩
 | .put p e x i, n0, h => by
   rw [layS] at h; dsimp only at h
   have h1 := pre_of_pre h
   have hl := layE_ly i _ h1
   have he := layE_ly e _ ((layE_den i _).1.trans h1)
   have l1 := layE_sz e n0
   have l2 := layE_sz i (layE e n0).1
   have g := get_of_pre h (k := n0.length + szE e + szE i) (by omega)
   rw [layE_snd, layE_snd, l1] at g
   rw [l1] at hl
   rw [LyS]
   exact ⟨he, hl, g⟩
 | .lay p e i v, n0, h => by
   rw [layS] at h; dsimp only at h
   have h1 := pre_of_pre h
   have hv := layE_ly v _ h1
   have h2 := (layE_den v _).1.trans h1
   have hl := layE_ly i _ h2
   have he := layE_ly e _ ((layE_den i _).1.trans h2)
   have l1 := layE_sz e n0
   have l2 := layE_sz i (layE e n0).1
   have l3 := layE_sz v (layE i (layE e n0).1).1
   have g := get_of_pre h (k := n0.length + szE e + szE i + szE v) (by omega)
   rw [layE_snd, layE_snd, layE_snd, l2, l1] at g
   rw [l1] at hl
   rw [l2, l1] at hv
   rw [LyS]
   exact ⟨he, hl, hv, g⟩
 | .print p e, n0, h => by
   rw [layS] at h; dsimp only at h
   have g := get_of_pre h (k := n0.length + szE e) (layE_sz e n0)
   rw [layE_snd] at g
   rw [LyS]
   exact ⟨layE_ly e _ (pre_of_pre h), g⟩
 | .ret p e, n0, h => by
   rw [layS] at h; dsimp only at h
   have g := get_of_pre h (k := n0.length + szE e) (layE_sz e n0)
   rw [layE_snd] at g
   rw [LyS]
   exact ⟨layE_ly e _ (pre_of_pre h), g⟩
 | .do_ p e, n0, h => by
   rw [layS] at h; dsimp only at h
   have g := get_of_pre h (k := n0.length + szE e) (layE_sz e n0)
   rw [layE_snd] at g
   rw [LyS]
   exact ⟨layE_ly e _ (pre_of_pre h), g⟩
 | .if_ p e bp b none, n0, h => by
   rw [layS_if1, layB] at h; dsimp only at h
   have h1 := pre_of_pre h
   have h2 := pre_of_pre h1
   have hb := laySs_ly b _ h2
   have he := layE_ly e _ ((laySs_den b _).1.trans h2)
   have l1 := layE_sz e n0
   have l2 := laySs_sz b (layE e n0).1
   have g1 := get_of_pre h1 (k := n0.length + szE e + szSs b) (by omega)
   have g2 := get_of_pre h (k := n0.length + szE e + szSs b + 1) (by simp; omega)
   rw [laySs_ids, l1] at g1
   rw [layE_snd, l2, l1] at g2
   rw [l1] at hb
   rw [LyS]
   exact ⟨he, hb, g1, g2⟩
 | .if_ p e bp b (some (cp, c)), n0, h => by
   rw [layS, layB, layB] at h; dsimp only at h
   have h1 := pre_of_pre h
   have h2 := pre_of_pre h1
   have hc := laySs_ly c _ h2
   have h3 := (laySs_den c _).1.trans h2
   have h4 := pre_of_pre h3
   have hb := laySs_ly b _ h4
   have he := layE_ly e _ ((laySs_den b _).1.trans h4)
   have l1 := layE_sz e n0
   have l2 := laySs_sz b (layE e n0).1
   have l3 : ((laySs b (layE e n0).1).1 ++ [({ ndOf 26 bp with list := (laySs b (layE e n0).1).2 } : Nd)]).length = n0.length + szE e + szSs b + 1 := by simp; omega
   have l4 := laySs_sz c ((laySs b (layE e n0).1).1 ++ [({ ndOf 26 bp with list := (laySs b (layE e n0).1).2 } : Nd)])
   rw [l3] at l4
   have g1 := get_of_pre h3 (k := n0.length + szE e + szSs b) (by omega)
   have g2 := get_of_pre h1 (k := n0.length + szE e + szSs b + 1 + szSs c) (by omega)
   have g3 := get_of_pre h (k := n0.length + szE e + szSs b + 1 + szSs c + 1) (by rw [List.length_append, l4]; rfl)
   rw [laySs_ids, l1] at g1
   rw [laySs_ids, l3] at g2
   rw [layE_snd, l2, l1, l4] at g3
   rw [l1] at hb
   rw [l3] at hc
   rw [LyS]
   exact ⟨he, hb, g1, hc, g2, g3⟩
 | .while_ p e bp b, n0, h => by
   rw [layS, layB] at h; dsimp only at h
   have h1 := pre_of_pre h
   have h2 := pre_of_pre h1
   have hb := laySs_ly b _ h2
   have he := layE_ly e _ ((laySs_den b _).1.trans h2)
   have l1 := layE_sz e n0
   have l2 := laySs_sz b (layE e n0).1
   have g1 := get_of_pre h1 (k := n0.length + szE e + szSs b) (by omega)
   have g2 := get_of_pre h (k := n0.length + szE e + szSs b + 1) (by simp; omega)
   rw [laySs_ids, l1] at g1
   rw [layE_snd, l2, l1] at g2
   rw [l1] at hb
   rw [LyS]
   exact ⟨he, hb, g1, g2⟩
end
theorem lay_ly {l : List Sm} {ns : List Nd} {m : Nat} (h : layB 0 l [] = (ns, m)) : LySs ns l 0 ∧ ns[szSs l]? = some { ndOf 26 0 with list := idsSs l 0 } ∧ m = szSs l ∧ ns.length = szSs l + 1 := by
 rw [layB] at h
 simp only [Prod.mk.injEq] at h
 obtain ⟨h1, h2⟩ := h
 have l1 := laySs_sz l []
 have l2 := laySs_ids l []
 simp only [List.length_nil, Nat.zero_add] at l1 l2
 have hp : (laySs l []).1 ++ [({ ndOf 26 0 with list := (laySs l []).2 } : Nd)] <+: ns := by rw [h1]; exact List.prefix_refl _
 have g := get_of_pre hp l1
 rw [l2] at g
 exact ⟨laySs_ly l [] (pre_of_pre hp), g, by omega, by rw [← h1]; simp [l1]⟩
end Ty
end
end Go.Proofs.YtdlbhiaceheffabGreatDoor
