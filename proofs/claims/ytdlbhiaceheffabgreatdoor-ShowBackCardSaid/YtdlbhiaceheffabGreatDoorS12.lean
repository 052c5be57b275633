/- Plain: programs as texts: trees that are written. Plain: names of a type that was read: short, good, and each once. Plain: numbers that were scanned, and their values. -/
import Derived.Lib.ItoaLen
import Derived.Lib.Atoi
import Derived.Test.YtdlbhiaceheffabGreatDoorS11
set_option linter.all false
namespace Go.Proofs.YtdlbhiaceheffabGreatDoor
section
namespace Ty
def colS (ts : List Ty) (ty : Int) : List UInt8 := if ty < 0 then [] else [58, 32] ++ text (den ts ty.toNat)
def blanks : Nat → List UInt8
 | 0 => []
 | n + 1 => [32, 32] ++ blanks n
theorem blanks_len : ∀ n, (blanks n).length = 2 * n
 | 0 => rfl
 | n + 1 => by rw [blanks, List.length_append, blanks_len n]; simp; omega
def signLv (x : ByteArray) : Nat := if x.data.toList = [42] then 2 else if x.data.toList = [43] ∨ x.data.toList = [45] then 1 else 0
def lvl : Ex → Nat
 | .one .. => 3
 | .two _ x _ _ => signLv x
 | .num .. => 4
 | .text .. => 4
 | .bool .. => 4
 | .null .. => 4
 | .var .. => 4
 | .fn .. => 4
 | .call .. => 4
 | .get .. => 4
 | .at .. => 4
 | .obj .. => 4
 | .arr .. => 4
 | .as .. => 4
def par (b : Bool) (s : List UInt8) : List UInt8 := if b then [40] ++ s ++ [41] else s
def parS (ts : List Ty) (q : Par) : List UInt8 := q.text.data.toList ++ colS ts q.ty
def typeofS : List UInt8 := [116, 121, 112, 101, 111, 102]
mutual
def wE (ts : List Ty) (ind : Nat) : Ex → List UInt8
 | .num _ n => Lib.itoa n
 | .text _ x => [34] ++ x.data.toList ++ [34]
 | .bool _ n => if n = 1 then [116, 114, 117, 101] else [102, 97, 108, 115, 101]
 | .null _ => [110, 117, 108, 108]
 | .var _ x => x.data.toList
 | .fn _ ps ty _ body => [102, 110, 40] ++ joinL [44, 32] (ps.map (parS ts)) ++ [41] ++ colS ts ty ++ [32] ++ ([123, 10] ++ wSs ts (ind + 1) body ++ blanks ind ++ [125])
 | .call _ a l => par (decide (lvl a < 4)) (wE ts ind a) ++ [40] ++ joinL [44, 32] (wEs ts ind l) ++ [41]
 | .get _ a x => par (decide (lvl a < 4)) (wE ts ind a) ++ [46] ++ x.data.toList
 | .at _ a b => par (decide (lvl a < 4)) (wE ts ind a) ++ [91] ++ wE ts ind b ++ [93]
 | .obj _ l => if l.length = 0 then [123, 125] else [123, 32] ++ joinL [44, 32] (wOs ts ind l) ++ [32, 125]
 | .arr _ l => [91] ++ joinL [44, 32] (wEs ts ind l) ++ [93]
 | .two _ x a b => par (decide (lvl a < max (signLv x) 1)) (wE ts ind a) ++ [32] ++ x.data.toList ++ [32] ++ par (decide (lvl b < signLv x + 1)) (wE ts ind b)
 | .one _ x a => x.data.toList ++ (if x.data.toList = typeofS then [32] else []) ++ par (decide (lvl a < 3)) (wE ts ind a)
 | .as _ a ty => par (decide (lvl a < 4)) (wE ts ind a) ++ [32, 97, 115, 32] ++ text (den ts ty.toNat)
def wEs (ts : List Ty) (ind : Nat) : List Ex → List (List UInt8)
 | [] => []
 | e :: l => wE ts ind e :: wEs ts ind l
def wOs (ts : List Ty) (ind : Nat) : List (Nat × ByteArray × Ex) → List (List UInt8)
 | [] => []
 | (_, x, e) :: l => (x.data.toList ++ [58, 32] ++ wE ts ind e) :: wOs ts ind l
def wSs (ts : List Ty) (ind : Nat) : List Sm → List UInt8
 | [] => []
 | e :: l => wS ts ind e ++ wSs ts ind l
def wS (ts : List Ty) (ind : Nat) : Sm → List UInt8
 | .let_ _ x ty a => blanks ind ++ [108, 101, 116, 32] ++ x.data.toList ++ colS ts ty ++ [32, 61, 32] ++ wE ts ind a ++ [59, 10]
 | .set _ x v => blanks ind ++ x.data.toList ++ [32, 61, 32] ++ wE ts ind v ++ [59, 10]
 | .put _ a x v => blanks ind ++ par (decide (lvl a < 4)) (wE ts ind a) ++ [46] ++ x.data.toList ++ [32, 61, 32] ++ wE ts ind v ++ [59, 10]
 | .lay _ a b v => blanks ind ++ par (decide (lvl a < 4)) (wE ts ind a) ++ [91] ++ wE ts ind b ++ [93, 32, 61, 32] ++ wE ts ind v ++ [59, 10]
 | .print _ a => blanks ind ++ [112, 114, 105, 110, 116, 32] ++ wE ts ind a ++ [59, 10]
 | .ret _ a => blanks ind ++ [114, 101, 116, 117, 114, 110, 32] ++ wE ts ind a ++ [59, 10]
 | .do_ _ a => blanks ind ++ wE ts ind a ++ [59, 10]
 | .if_ _ a _ b none => blanks ind ++ [105, 102, 32, 40] ++ wE ts ind a ++ [41, 32] ++ ([123, 10] ++ wSs ts (ind + 1) b ++ blanks ind ++ [125]) ++ [10]
 | .if_ _ a _ b (some (_, c)) => blanks ind ++ [105, 102, 32, 40] ++ wE ts ind a ++ [41, 32] ++ ([123, 10] ++ wSs ts (ind + 1) b ++ blanks ind ++ [125]) ++ [32, 101, 108, 115, 101, 32] ++ ([123, 10] ++ wSs ts (ind + 1) c ++ blanks ind ++ [125]) ++ [10]
 | .while_ _ a _ b => blanks ind ++ [119, 104, 105, 108, 101, 32, 40] ++ wE ts ind a ++ [41, 32] ++ ([123, 10] ++ wSs ts (ind + 1) b ++ blanks ind ++ [125]) ++ [10]
end
def wB (ts : List Ty) (ind : Nat) (l : List Sm) : List UInt8 := [123, 10] ++ wSs ts (ind + 1) l ++ blanks ind ++ [125]
def wP (ts : List Ty) (ind least : Nat) (e : Ex) : List UInt8 := par (decide (lvl e < least)) (wE ts ind e)
theorem wP_zero (ts : List Ty) (ind : Nat) (e : Ex) : wP ts ind 0 e = wE ts ind e := by unfold wP par; simp
mutual
def szE : Ex → Nat
 | .num .. => 1
 | .text .. => 1
 | .bool .. => 1
 | .null .. => 1
 | .var .. => 1
 | .fn _ ps _ _ body => ps.length + szSs body + 2
 | .call _ a l => szE a + szEs l + 1
 | .get _ a _ => szE a + 1
 | .at _ a b => szE a + szE b + 1
 | .obj _ l => szOs l + 1
 | .arr _ l => szEs l + 1
 | .two _ _ a b => szE a + szE b + 1
 | .one _ _ a => szE a + 1
 | .as _ a _ => szE a + 1
def szEs : List Ex → Nat
 | [] => 0
 | e :: l => szE e + szEs l
def szOs : List (Nat × ByteArray × Ex) → Nat
 | [] => 0
 | (_, _, e) :: l => szE e + 1 + szOs l
def szSs : List Sm → Nat
 | [] => 0
 | e :: l => szS e + szSs l
def szS : Sm → Nat
 | .let_ _ _ _ a => szE a + 1
 | .set _ _ v => szE v + 1
 | .put _ a _ v => szE a + szE v + 1
 | .lay _ a b v => szE a + szE b + szE v + 1
 | .print _ a => szE a + 1
 | .ret _ a => szE a + 1
 | .do_ _ a => szE a + 1
 | .if_ _ a _ b none => szE a + szSs b + 2
 | .if_ _ a _ b (some (_, c)) => szE a + szSs b + szSs c + 3
 | .while_ _ a _ b => szE a + szSs b + 2
end
theorem layPs_sz : ∀ (ps : List Par) (ns : List Nd), (layPs ps ns).1.length = ns.length + ps.length ∧ (layPs ps ns).2.length = ps.length
 | [], ns => by simp [layPs]
 | q :: ps, ns => by
   have := layPs_sz ps (ns ++ [{ ndOf 16 q.pos with text := q.text, ty := q.ty }])
   simp [layPs] at this ⊢
   omega
mutual
theorem layE_sz : ∀ (e : Ex) (ns : List Nd), (layE e ns).1.length = ns.length + szE e
 | .num _ _, ns => by simp [layE, szE]
 | .text _ _, ns => by simp [layE, szE]
 | .bool _ _, ns => by simp [layE, szE]
 | .null _, ns => by simp [layE, szE]
 | .var _ _, ns => by simp [layE, szE]
 | .fn p ps ty bp body, ns => by
   have h1 := layPs_sz ps ns
   have h2 := laySs_sz body (layPs ps ns).1
   rw [layE, szE, layB]; simp; omega
 | .call p a l, ns => by
   have h1 := layE_sz a ns
   have h2 := layEs_sz l (layE a ns).1
   rw [layE, szE]; simp; omega
 | .get p a x, ns => by have h1 := layE_sz a ns; rw [layE, szE]; simp; omega
 | .at p a b, ns => by
   have h1 := layE_sz a ns
   have h2 := layE_sz b (layE a ns).1
   rw [layE, szE]; simp; omega
 | .obj p l, ns => by have h1 := layOs_sz l ns; rw [layE, szE]; simp; omega
 | .arr p l, ns => by have h1 := layEs_sz l ns; rw [layE, szE]; simp; omega
 | .two p x a b, ns => by
   have h1 := layE_sz a ns
   have h2 := layE_sz b (layE a ns).1
   rw [layE, szE]; simp; omega
 | .one p x a, ns => by have h1 := layE_sz a ns; rw [layE, szE]; simp; omega
 | .as p a ty, ns => by have h1 := layE_sz a ns; rw [layE, szE]; simp; omega
theorem layEs_sz : ∀ (l : List Ex) (ns : List Nd), (layEs l ns).1.length = ns.length + szEs l
 | [], ns => by simp [layEs, szEs]
 | e :: l, ns => by
   have h1 := layE_sz e ns
   have h2 := layEs_sz l (layE e ns).1
   rw [layEs, szEs]; simp; omega
theorem layOs_sz : ∀ (l : List (Nat × ByteArray × Ex)) (ns : List Nd), (layOs l ns).1.length = ns.length + szOs l
 | [], ns => by simp [layOs, szOs]
 | (p, x, e) :: l, ns => by
   have h1 := layE_sz e ns
   have h2 := layOs_sz l ((layE e ns).1 ++ [{ ndOf 15 p with text := x, a := (layE e ns).2 }])
   rw [layOs, szOs]; simp at h2 ⊢; omega
theorem laySs_sz : ∀ (l : List Sm) (ns : List Nd), (laySs l ns).1.length = ns.length + szSs l
 | [], ns => by simp [laySs, szSs]
 | e :: l, ns => by
   have h1 := layS_sz e ns
   have h2 := laySs_sz l (layS e ns).1
   rw [laySs, szSs]; simp; omega
theorem layS_sz : ∀ (e : Sm) (ns : List Nd), (layS e ns).1.length = ns.length + szS e
 | .let_ _ _ _ a, ns => by have h1 := layE_sz a ns; rw [layS, szS]; simp; omega
 | .set _ _ a, ns => by have h1 := layE_sz a ns; rw [layS, szS]; simp; omega
 | .put _ a _ v, ns => by
   have h1 := layE_sz a ns
   have h2 := layE_sz v (layE a ns).1
   rw [layS, szS]; simp; omega
 | .lay _ a b v, ns => by
   have h1 := layE_sz a ns
   have h2 := layE_sz b (layE a ns).1
   have h3 := layE_sz v (layE b (layE a ns).1).1
   rw [layS, szS]; simp; omega
 | .print _ a, ns => by have h1 := layE_sz a ns; rw [layS, szS]; simp; omega
 | .ret _ a, ns => by have h1 := layE_sz a ns; rw [layS, szS]; simp; omega
 | .do_ _ a, ns => by have h1 := layE_sz a ns; rw [layS, szS]; simp; omega
 | .if_ _ a _ b none, ns => by
   have h1 := layE_sz a ns
   have h2 := laySs_sz b (layE a ns).1
   rw [layS, szS, layB]; simp; omega
 | .if_ _ a bp b (some (cp, c)), ns => by
   have h1 := layE_sz a ns
   have h2 := laySs_sz b (layE a ns).1
   have h3 := laySs_sz c (layB bp b (layE a ns).1).1
   have h4 : (layB bp b (layE a ns).1).1.length = (laySs b (layE a ns).1).1.length + 1 := by rw [layB]; simp
   rw [layS, szS, layB]; simp; omega
 | .while_ _ a _ b, ns => by
   have h1 := layE_sz a ns
   have h2 := laySs_sz b (layE a ns).1
   rw [layS, szS, layB]; simp; omega
end
end Ty
end
section
namespace Ty
open Tok (Tk)
structure NameOk (x : ByteArray) : Prop where
 size : x.size ≤ 20
 head : ∃ c l, x.data.toList = c :: l ∧ Tok.isLetter c = true ∧ ∀ d ∈ l, Tok.isPart d = true
 word : Tok.isWord x = false
theorem takeWhile_all {α : Type} (p : α → Bool) : ∀ (l : List α), ∀ d ∈ l.takeWhile p, p d = true
 | [], d, h => by simp at h
 | a :: l, d, h => by
   rw [List.takeWhile_cons] at h
   split at h
   · rcases List.mem_cons.1 h with rfl | h
     · assumption
     · exact takeWhile_all p l d h
   · simp at h
theorem extract_stop (p : UInt8 → Bool) (s : ByteArray) (k : Nat) (_ : k ≤ s.size) : (s.extract k (Tok.stop p s k)).data.toList = (s.data.toList.drop k).takeWhile p := by
 simp only [ByteArray.data_extract, Array.toList_extract, List.extract_eq_take_drop, Tok.stop]
 rw [Nat.add_sub_cancel_left]
 exact (List.prefix_iff_eq_take.1 (List.takeWhile_prefix p)).symm
theorem next_name (s : ByteArray) (k : Nat) (h : k < s.size) (hok : (Tok.next s k).2.2 = true) (hk : (Tok.next s k).1.kind = 1) : NameOk (Tok.next s k).1.text := by
 unfold Tok.next at hok hk ⊢
 by_cases hl : Tok.isLetter (Tok.byte s k) = true
 · simp only [hl, if_true] at hok hk ⊢
   have hst := Tok.stop_ge Tok.isPart s k
   have hle := Tok.stop_le Tok.isPart s k (by omega)
   refine ⟨?_, ?_, ?_⟩
   · have := of_decide_eq_true hok
     simp only [ByteArray.size_extract]; omega
   · rw [extract_stop _ _ _ (by omega), Tok.drop_cons s k h, List.takeWhile_cons, if_pos (by rw [← Tok.byte_eq]; simp [Tok.isPart, hl])]
     exact ⟨_, _, rfl, by rw [← Tok.byte_eq]; exact hl, takeWhile_all _ _⟩
   · split at hk
     · cases hk
     · rename_i h2; simpa using h2
 · simp only [hl, if_false, Bool.false_eq_true] at hk
   split at hk
   · cases hk
   · split at hk
     · cases hk
     · split at hk <;> cases hk
theorem scanFrom_names (s : ByteArray) : ∀ (f k : Nat) (o l : List Tk), Tok.scanFrom s f k o = .ok l → (∀ t ∈ o, t.kind = 1 → NameOk t.text) → ∀ t ∈ l, t.kind = 1 → NameOk t.text
 | 0, k, o, l, h, ho => by cases h; exact ho
 | f + 1, k, o, l, h, ho => by
   rw [Tok.scanFrom] at h
   split at h
   · rename_i hk
     split at h
     · exact scanFrom_names s f _ _ _ h ho
     · split at h
       · cases h
       · rename_i hok
         split at h
         · cases h
         · refine scanFrom_names s f _ _ _ h fun t ht => ?_
           rw [List.mem_append] at ht
           rcases ht with ht | ht
           · exact ho t ht
           · simp at ht; subst ht
             exact next_name s k hk (by simpa using hok)
   · cases h
     intro t ht
     rw [List.mem_append] at ht
     rcases ht with ht | ht
     · exact ho t ht
     · simp at ht; subst ht; intro h; cases h
theorem scan_names {s : ByteArray} {l : List Tk} (h : Tok.scan s = .ok l) : ∀ t ∈ l, t.kind = 1 → NameOk t.text := by
 unfold Tok.scan at h
 split at h
 · cases h
 · exact scanFrom_names s _ _ _ _ h fun t ht => by simp at ht
structure NmT (l : List (ByteArray × Nat)) : Prop where
 ok : ∀ f ∈ l, NameOk f.1
 nodup : (l.map Prod.fst).Nodup
theorem NmT.nil : NmT [] := ⟨fun f h => by simp at h, by simp⟩
def Nm (ts : List Ty) : Prop := ∀ t ∈ ts, NmT t.fields
theorem Nm.nil : Nm [] := fun t h => by simp at h
def NK {α : Type} (m : M α) (P : α → Prop) : Prop := ∀ s a s', Nm s.ts → m s = .ok (a, s') → Nm s'.ts ∧ P a
theorem NK.bnd {α β : Type} {m : M α} {k : α → M β} {P : α → Prop} {Q : β → Prop} (h : NK m P) (g : ∀ a, P a → NK (k a) Q) : NK (Ty.bnd m k) Q := fun s b s' hn e => by
 obtain ⟨a, s1, e1, e2⟩ := bnd_inv e
 obtain ⟨h1, h2⟩ := h _ _ _ hn e1
 exact g a h2 _ _ _ h1 e2
theorem NK.ret {α : Type} (a : α) {P : α → Prop} (h : P a) : NK (ret a) P := fun s b s' hn e => by cases e; exact ⟨hn, h⟩
theorem NK.fail {α : Type} (toks : List Tk) (n : Nat) (P : α → Prop) : NK (fail (α := α) toks n) P := fun s b s' _ e => by cases e
theorem NK.step : NK step fun _ => True := fun s b s' hn e => by cases e; exact ⟨hn, trivial⟩
theorem NK.take (toks : List Tk) (x : List UInt8) : NK (take toks x) fun _ => True := fun s b s' hn e => ⟨by rw [take_keep _ _ e]; exact hn, trivial⟩
theorem NK.need (toks : List Tk) (x : List UInt8) : NK (need toks x) fun _ => True := fun s b s' hn e => ⟨by rw [need_keep _ _ e]; exact hn, trivial⟩
theorem NK.newType (t : Ty) (h : NmT t.fields) : NK (newType t) fun _ => True := fun s b s' hn e => by
 cases e
 refine ⟨fun u hu => ?_, trivial⟩
 rw [List.mem_append] at hu
 rcases hu with hu | hu
 · exact hn u hu
 · simp at hu; subst hu; exact h
theorem NK.ite {α : Type} {p : Prop} [Decidable p] {m n : M α} {P : α → Prop} (h : NK m P) (g : NK n P) : NK (if p then m else n) P := by
 split
 · exact h
 · exact g
theorem NK.name {toks : List Tk} (ht : ∀ t ∈ toks, t.kind = 1 → NameOk t.text) (met : List ByteArray) : NK (name toks met) fun x => NameOk x ∧ x ∉ met := fun s x s' hn e => by
 refine ⟨by rw [name_keep _ _ e]; exact hn, ?_⟩
 unfold Ty.name at e
 split at e
 · cases e
 · rename_i hk
   split at e
   · cases e
   · rename_i hm
     cases e
     constructor
     · refine ht _ ?_ (by simpa using hk)
       unfold cur at hk ⊢
       cases h : toks[s.pos]? with
       | none => rw [h] at hk; simp at hk
       | some t => exact List.mem_of_getElem? h
     · intro hx; exact hm (List.mem_map_of_mem hx)
theorem list_nm {toks : List Tk} {x : List UInt8} {T : M Nat} (hT : NK T fun _ => True) : ∀ f l, NK (list toks x (fun _ => T) f l) fun _ => True
 | 0, _ => NK.fail _ _ _
 | f + 1, _ => (NK.take _ _).bnd fun _ _ => NK.ite (NK.ret _ trivial) ((NK.ite (NK.ret _ trivial) (NK.need _ _)).bnd fun _ _ => hT.bnd fun _ _ => list_nm hT f _)
theorem fields_nm {toks : List Tk} (ht : ∀ t ∈ toks, t.kind = 1 → NameOk t.text) {T : M Nat} (hT : NK T fun _ => True) : ∀ f l, NmT l → NK (fields toks T f l) NmT
 | 0, _, _ => NK.fail _ _ _
 | f + 1, l, hl => (NK.take _ _).bnd fun b _ => NK.ite (NK.ret _ hl) ((NK.name ht _).bnd fun s hs => (NK.need _ _).bnd fun _ _ => hT.bnd fun n _ => (NK.need _ _).bnd fun _ _ => fields_nm ht hT f _ ⟨fun f hf => by
     rw [List.mem_append] at hf
     rcases hf with hf | hf
     · exact hl.ok f hf
     · simp at hf; subst hf; exact hs.1, by
     rw [List.map_append, List.nodup_append]
     refine ⟨hl.nodup, by simp, fun a ha b hb => ?_⟩
     simp at hb; subst hb
     intro e; subst e; exact hs.2 ha⟩)
theorem round_nm {toks : List Tk} {T : M Nat} (hT : NK T fun _ => True) : NK (round toks T) fun _ => True :=
 (list_nm hT _ _).bnd fun _ _ => (NK.take _ _).bnd fun _ _ => NK.ite (hT.bnd fun _ _ => NK.newType _ NmT.nil) (NK.ite (NK.ret _ trivial) (NK.fail _ _ _))
theorem single_nm {toks : List Tk} (ht : ∀ t ∈ toks, t.kind = 1 → NameOk t.text) {T : M Nat} (hT : NK T fun _ => True) : NK (single toks T) fun _ => True := fun s n s' hn h => by
 unfold single at h
 split at h
 · exact (NK.step.bnd fun _ _ => NK.newType _ NmT.nil) s n s' hn h
 · exact ((NK.take _ _).bnd fun b _ => NK.ite ((fields_nm ht hT _ _ NmT.nil).bnd fun l hl => NK.newType _ hl) ((NK.take _ _).bnd fun b _ => NK.ite (hT.bnd fun n _ => (NK.need _ _).bnd fun _ _ => NK.newType _ NmT.nil) ((NK.need _ _).bnd fun _ _ => round_nm hT))) s n s' hn h
theorem bars_nm {toks : List Tk} {S : M Nat} (hS : NK S fun _ => True) : ∀ f l, NK (bars toks S f l) fun _ => True
 | 0, _ => NK.fail _ _ _
 | f + 1, _ => (NK.take _ _).bnd fun _ _ => NK.ite (hS.bnd fun _ _ => bars_nm hS f _) (NK.ret _ trivial)
theorem union_nm {toks : List Tk} {S : M Nat} (hS : NK S fun _ => True) : NK (union toks S) fun _ => True :=
 hS.bnd fun _ _ => (bars_nm hS _ _).bnd fun _ _ => NK.ite (NK.ret _ trivial) (NK.newType _ NmT.nil)
theorem typ_nm {toks : List Tk} (ht : ∀ t ∈ toks, t.kind = 1 → NameOk t.text) : ∀ r, NK (typ toks r) fun _ => True
 | 0 => NK.fail _ _ _
 | r + 1 => union_nm (single_nm ht (typ_nm ht r))
theorem typeOf_nm {s : ByteArray} {ts : List Ty} (h : typeOf s = .ok ts) : Nm ts := by
 unfold typeOf at h
 split at h
 · cases h
 · rename_i toks hsc
   split at h
   · cases h
   · rename_i n st e
     split at h
     · cases h
     · split at h
       · cases h
       · cases h
         exact (typ_nm (scan_names hsc) 20 _ _ _ Nm.nil e).1
mutual
def nmT : Tr → Prop
 | .mk _ names parts list of => (∀ n ∈ names, NameOk n) ∧ names.Nodup ∧ nmL parts ∧ nmL list ∧ nmL of
def nmL : List Tr → Prop
 | [] => True
 | t :: l => nmT t ∧ nmL l
end
theorem nmL_of {l : List Tr} (h : ∀ t ∈ l, nmT t) : nmL l := by
 induction l with
 | nil => rw [nmL]; trivial
 | cons a l ih => rw [nmL]; exact ⟨h a (by simp), ih fun t ht => h t (by simp [ht])⟩
mutual
theorem nm_short : ∀ t : Tr, nmT t → shortT t
 | .mk k names parts list of, h => by
   rw [nmT] at h
   rw [shortT]
   exact ⟨fun n hn => (h.1 n hn).size, nmL_short _ h.2.2.1, nmL_short _ h.2.2.2.1, nmL_short _ h.2.2.2.2⟩
theorem nmL_short : ∀ l : List Tr, nmL l → shortL l
 | [], _ => by rw [shortL]; trivial
 | t :: l, h => by
   rw [nmL] at h
   rw [shortL]; exact ⟨nm_short t h.1, nmL_short l h.2⟩
end
theorem den_nm {ts : List Ty} (hw : Wf ts) (hn : Nm ts) : ∀ N n, n < N → n < ts.length → nmT (den ts n) := by
 intro N
 induction N with
 | zero => intro n h; omega
 | succ N ih =>
   intro n hN hl
   have hg : ts[n]? = some ts[n] := List.getElem?_eq_getElem hl
   have hwf := hw n _ hg
   have hnt := hn ts[n] (List.getElem_mem _)
   rw [den_eq hw hg, nmT]
   refine ⟨fun x hx => ?_, hnt.nodup, nmL_of fun t ht => ?_, nmL_of fun t ht => ?_, nmL_of fun t ht => ?_⟩
   · obtain ⟨f, hf, rfl⟩ := List.mem_map.1 hx
     exact hnt.ok f hf
   · obtain ⟨f, hf, rfl⟩ := List.mem_map.1 ht
     have := hwf.fields f hf
     exact ih _ (by omega) (by omega)
   · obtain ⟨j, hj, rfl⟩ := List.mem_map.1 ht
     have := hwf.list j hj
     exact ih _ (by omega) (by omega)
   · split at ht
     · rename_i hk
       simp at ht; subst ht
       have := hwf.of hk
       exact ih _ (by omega) (by omega)
     · simp at ht
end Ty
end
section
namespace Ty
open Tok (Tk)
structure NumOk (x : ByteArray) : Prop where
 size : x.size ≤ 9
 dig : ∀ d ∈ x.data.toList, Tok.isDigit d = true
 ne : x.data.toList ≠ []
 nz : x.data.toList.length = 1 ∨ x.data.toList.head? ≠ some 48
def Nums (toks : List Tk) : Prop := ∀ t ∈ toks, t.kind = 3 → NumOk t.text
theorem next_num (s : ByteArray) (k : Nat) (h : k < s.size) (hok : (Tok.next s k).2.2 = true) (hk : (Tok.next s k).1.kind = 3) : NumOk (Tok.next s k).1.text := by
 unfold Tok.next at hok hk ⊢
 by_cases hl : Tok.isLetter (Tok.byte s k) = true
 · simp only [hl, if_true] at hk
   split at hk <;> cases hk
 · simp only [hl, if_false, Bool.false_eq_true] at hok hk ⊢
   by_cases hd : Tok.isDigit (Tok.byte s k) = true
   · simp only [hd, if_true] at hok ⊢
     have hst := Tok.stop_ge Tok.isDigit s k
     have hle := Tok.stop_le Tok.isDigit s k (by omega)
     simp only [Bool.and_eq_true, Bool.or_eq_true, decide_eq_true_eq, Bool.not_eq_true', decide_eq_false_iff_not] at hok
     have hl2 : (s.extract k (Tok.stop Tok.isDigit s k)).data.toList.length = Tok.stop Tok.isDigit s k - k := by
       have : (s.extract k (Tok.stop Tok.isDigit s k)).size = Tok.stop Tok.isDigit s k - k := by simp only [ByteArray.size_extract]; omega
       rw [← this]; exact Array.length_toList
     have hx : (s.extract k (Tok.stop Tok.isDigit s k)).data.toList = s[k] :: (s.data.toList.drop (k + 1)).takeWhile Tok.isDigit := by
       rw [extract_stop _ _ _ (by omega), Tok.drop_cons s k h, List.takeWhile_cons, if_pos (by rw [← Tok.byte_eq]; exact hd)]
     refine ⟨?_, ?_, ?_, ?_⟩
     · simp only [ByteArray.size_extract]; omega
     · rw [extract_stop _ _ _ (by omega)]; exact takeWhile_all _ _
     · rw [hx]; simp
     · rcases hok.2 with h1 | h1
       · left; omega
       · right
         rw [hx]
         intro e
         simp only [List.head?_cons, Option.some.injEq] at e
         exact h1 (by rw [Tok.byte_eq s k h]; exact e)
   · simp only [hd, if_false, Bool.false_eq_true] at hk
     split at hk
     · cases hk
     · split at hk <;> cases hk
theorem scanFrom_nums (s : ByteArray) : ∀ (f k : Nat) (o l : List Tk), Tok.scanFrom s f k o = .ok l → Nums o → Nums l
 | 0, k, o, l, h, ho => by cases h; exact ho
 | f + 1, k, o, l, h, ho => by
   rw [Tok.scanFrom] at h
   split at h
   · rename_i hk
     split at h
     · exact scanFrom_nums s f _ _ _ h ho
     · split at h
       · cases h
       · rename_i hok
         split at h
         · cases h
         · refine scanFrom_nums s f _ _ _ h fun t ht => ?_
           rw [List.mem_append] at ht
           rcases ht with ht | ht
           · exact ho t ht
           · simp at ht; subst ht
             exact next_num s k hk (by simpa using hok)
   · cases h
     intro t ht
     rw [List.mem_append] at ht
     rcases ht with ht | ht
     · exact ho t ht
     · simp at ht; subst ht; intro h; cases h
theorem scan_nums {s : ByteArray} {l : List Tk} (h : Tok.scan s = .ok l) : Nums l := by
 unfold Tok.scan at h
 split at h
 · cases h
 · exact scanFrom_nums s _ _ _ _ h fun t ht => by simp at ht
theorem digitVal_of {d : UInt8} (h : Tok.isDigit d = true) : Lib.digitVal d = some (d.toNat - 48) := by
 unfold Tok.isDigit at h
 simp at h
 unfold Lib.digitVal
 rw [if_pos h]
theorem decFrom_fold : ∀ (l : List UInt8) (acc : Nat), (∀ d ∈ l, Tok.isDigit d = true) → Lib.decFrom acc l = some (l.foldl (fun n c => 10 * n + (c.toNat - 48)) acc)
 | [], acc, _ => rfl
 | c :: l, acc, h => by
   rw [Lib.decFrom, digitVal_of (h c (by simp))]
   dsimp only
   rw [decFrom_fold l _ (fun d hd => h d (by simp [hd])), List.foldl_cons, Nat.mul_comm acc 10]
theorem atoi_value {x : ByteArray} (h : NumOk x) : Lib.atoi x.data.toList = some ((value x : Nat) : Int) := by
 unfold value
 cases e : x.data.toList with
 | nil => exact absurd e h.ne
 | cons c l =>
   have hd := h.dig
   rw [e] at hd
   have hc := hd c (by simp)
   unfold Tok.isDigit at hc
   simp at hc
   rw [Lib.atoi, if_neg (by intro h45; have := beq_iff_eq.1 h45; subst this; simp at hc), if_neg (by intro h43; have := beq_iff_eq.1 h43; subst this; simp at hc)]
   unfold Lib.decNat
   rw [if_neg (by simp), decFrom_fold _ _ hd]
   rfl
end Ty
end
end Go.Proofs.YtdlbhiaceheffabGreatDoor
