/- Plain: a type that was printed is scanned to its tokens. Plain: the tokens of a type are read as it. Plain: a printed type that is read at all is read as it was. -/
import Derived.Test.YtdlbhiaceheffaaDoorQTrB
namespace Go.Proofs.YtdlbhiaceheffaaDoor
namespace Ty
open Tok (Tk)
/-- A token's kind and text. -/
abbrev Lm := Nat × List UInt8
def kt (t : Tk) : Lm := (t.kind, t.text.data.toList)
/-- These bytes, wherever they stand, are scanned to these tokens; c: if what follows is no part of a name. -/
def Lx (c : Bool) (cs : List UInt8) (ls : List Lm) : Prop := ∀ (s : ByteArray) (k : Nat) (o l : List Tk) (f : Nat) (rest : List UInt8), s.data.toList.drop k = cs ++ rest → (c = true → ∀ d r, rest = d :: r → Tok.isPart d = false) → s.size < k + f → k ≤ s.size → Tok.scanFrom s f k o = .ok l →
  ∃ f' o', o'.map kt = o.map kt ++ ls ∧ s.size < k + cs.length + f' ∧ k + cs.length ≤ s.size ∧ Tok.scanFrom s f' (k + cs.length) o' = .ok l
theorem Lx.nil : Lx false [] [] := fun s k o l f rest _ _ hf hk h => ⟨f, o, by simp, by simpa using hf, by simpa using hk, by simpa using h⟩
theorem Lx.weak {cs : List UInt8} {ls : List Lm} (h : Lx false cs ls) : Lx true cs ls := fun s k o l f rest hd _ => h s k o l f rest hd (fun e => by cases e)
theorem drop_add {s : ByteArray} {k : Nat} {a b : List UInt8} (h : s.data.toList.drop k = a ++ b) : s.data.toList.drop (k + a.length) = b := by
  rw [← List.drop_drop, h]; simp
theorem Lx.comp {c1 c2 : Bool} {a b : List UInt8} {la lb : List Lm} (h : Lx c1 a la) (g : Lx c2 b lb) (hh : c1 = true → ∃ d r, b = d :: r ∧ Tok.isPart d = false := by intro e; cases e) : Lx c2 (a ++ b) (la ++ lb) := fun s k o l f rest hd hc hf hk hs => by
  rw [List.append_assoc] at hd
  obtain ⟨f1, o1, e1, e2, e3, e4⟩ := h s k o l f (b ++ rest) hd (fun e d r hr => by
    obtain ⟨d', r', rfl, hp⟩ := hh e
    cases hr; exact hp) hf hk hs
  obtain ⟨f2, o2, g1, g2, g3, g4⟩ := g s _ o1 l f1 rest (drop_add hd) hc e2 e3 e4
  refine ⟨f2, o2, by rw [g1, e1, List.append_assoc], ?_, ?_, ?_⟩
  · rw [List.length_append]; omega
  · rw [List.length_append]; omega
  · rw [List.length_append, ← Nat.add_assoc]; exact g4
theorem drop_lt {s : ByteArray} {k : Nat} {d : UInt8} {r : List UInt8} (h : s.data.toList.drop k = d :: r) : k < s.size ∧ Tok.byte s k = d := by
  have hk : k < s.size := by
    refine Nat.lt_of_not_le fun hle => ?_
    rw [List.drop_eq_nil_of_le (by simpa using hle)] at h; cases h
  refine ⟨hk, ?_⟩
  rw [Tok.drop_cons s k hk] at h
  rw [Tok.byte_eq s k hk]
  cases h; rfl
theorem Lx.blank : Lx false [32] [] := fun s k o l f rest hd _ hf hk hs => by
  obtain ⟨h1, h2⟩ := drop_lt (d := 32) (r := rest) hd
  obtain ⟨f, rfl⟩ : ∃ g, f = g + 1 := ⟨f - 1, by omega⟩
  rw [Tok.scanFrom, if_pos h1, if_pos (.inl h2)] at hs
  exact ⟨f, o, by simp, by simp; omega, by simp; omega, hs⟩
/-- A token that stands at a place. -/
theorem Lx.one {c : Bool} {d : UInt8} {cs : List UInt8} {x : Lm} (h32 : d ≠ 32 ∧ d ≠ 10) (h : ∀ (s : ByteArray) (k : Nat) (rest : List UInt8), s.data.toList.drop k = d :: cs ++ rest → (c = true → ∀ d r, rest = d :: r → Tok.isPart d = false) → k < s.size → Tok.byte s k = d → kt (Tok.next s k).1 = x ∧ (Tok.next s k).2.1 = cs.length + 1) : Lx c (d :: cs) [x] := fun s k o l f rest hd hc hf hk hs => by
  obtain ⟨h1, h2⟩ := drop_lt (d := d) (r := cs ++ rest) hd
  obtain ⟨f, rfl⟩ : ∃ g, f = g + 1 := ⟨f - 1, by omega⟩
  have hle : (d :: cs ++ rest).length = s.size - k := by rw [← hd]; simp
  simp only [List.length_append, List.length_cons] at hle
  obtain ⟨h3, h4⟩ := h s k rest hd hc h1 h2
  rw [Tok.scanFrom, if_pos h1, if_neg (by rw [h2]; intro e; rcases e with e | e; exact h32.1 e; exact h32.2 e)] at hs
  split at hs
  · cases hs
  · split at hs
    · cases hs
    · rw [h4] at hs
      exact ⟨f, _, by rw [List.map_append]; simp [h3], by simp; omega, by simp; omega, hs⟩
theorem next_sign (s : ByteArray) (k : Nat) (d : UInt8) (hk : k < s.size) (hb : Tok.byte s k = d) (h1 : Tok.isLetter d = false) (h2 : Tok.isDigit d = false) (h3 : d ≠ 34) (h4 : d ≠ 61) : kt (Tok.next s k).1 = (5, [d]) ∧ (Tok.next s k).2.1 = 1 := by
  have ht : Tok.two s k = false := by
    unfold Tok.two; rw [hb]
    have : (d == 61) = false := beq_eq_false_iff_ne.2 h4
    rw [this]; simp
  unfold Tok.next
  rw [hb]
  simp only [h1, h2, h3, ht, Bool.false_eq_true, if_false]
  refine ⟨?_, trivial⟩
  have hd := Tok.drop_cons s k hk
  rw [Tok.byte_eq s k hk] at hb
  simp only [kt, ByteArray.data_extract, Array.toList_extract, List.extract_eq_take_drop, hd, hb]
  simp
theorem Lx.sign (d : UInt8) (h1 : Tok.isLetter d = false := by decide) (h2 : Tok.isDigit d = false := by decide) (h3 : d ≠ 34 := by decide) (h4 : d ≠ 61 := by decide) (h5 : d ≠ 32 ∧ d ≠ 10 := by decide) : Lx false [d] [(5, [d])] :=
  Lx.one h5 fun s k _ _ _ hk hb => next_sign s k d hk hb h1 h2 h3 h4
theorem Lx.arrow : Lx false [61, 62] [(5, [61, 62])] := Lx.one (by decide) fun s k rest hd _ hk hb => by
  have h2 := drop_lt (drop_add (a := [61]) (b := 62 :: rest) hd)
  have ht : Tok.two s k = true := by
    unfold Tok.two; rw [hb]
    have := h2.1
    simp only [List.length_cons, List.length_nil] at this
    have e2 : Tok.byte s (k + 1) = 62 := h2.2
    rw [e2, decide_eq_true (by omega)]; rfl
  have hx := Tok.extract_two s k h2.1
  have e2 : Tok.byte s (k + 1) = 62 := h2.2
  unfold Tok.next
  rw [hb]
  simp only [show Tok.isLetter 61 = false by decide, show Tok.isDigit 61 = false by decide, show ¬ (61 : UInt8) = 34 by decide, ht, Bool.false_eq_true, if_false, if_true]
  refine ⟨?_, rfl⟩
  rw [kt, hx, hb, e2]
theorem takeWhile_exact {p : UInt8 → Bool} : ∀ (a r : List UInt8), (∀ d ∈ a, p d = true) → (∀ d r', r = d :: r' → p d = false) → (a ++ r).takeWhile p = a
  | [], [], _, _ => rfl
  | [], d :: r, _, h => by rw [List.nil_append, List.takeWhile_cons, if_neg (by rw [h d r rfl]; simp)]
  | x :: a, r, h1, h2 => by rw [List.cons_append, List.takeWhile_cons, if_pos (h1 x (by simp)), takeWhile_exact a r (fun d hd => h1 d (by simp [hd])) h2]
theorem Lx.name (d : UInt8) (cs : List UInt8) (h1 : Tok.isLetter d = true) (h2 : ∀ c ∈ cs, Tok.isPart c = true) (kd : Nat) (hkd : kd = if d :: cs ∈ Tok.wordsL then 2 else 1) : Lx true (d :: cs) [(kd, d :: cs)] := by
  refine Lx.one ?_ fun s k rest hd hc hk hb => ?_
  · constructor <;> (rintro rfl; revert h1; decide)
  have hst : (s.data.toList.drop k).takeWhile Tok.isPart = d :: cs := by
    rw [hd]
    refine takeWhile_exact _ _ (fun c hc => ?_) (hc rfl)
    rcases List.mem_cons.1 hc with rfl | hc
    · simp [Tok.isPart, h1]
    · exact h2 c hc
  have hx := extract_stop Tok.isPart s k (by omega)
  rw [hst] at hx
  have hlen : Tok.stop Tok.isPart s k - k = cs.length + 1 := by unfold Tok.stop; rw [hst]; simp
  unfold Tok.next
  rw [hb]
  simp only [h1, if_true]
  refine ⟨?_, hlen⟩
  have hw : Tok.isWord (s.extract k (Tok.stop Tok.isPart s k)) = decide (d :: cs ∈ Tok.wordsL) := by unfold Tok.isWord; rw [hx]
  simp only [kt, hx, hw, hkd, decide_eq_true_eq]
theorem Lx.nameOk {x : ByteArray} (h : NameOk x) : Lx true x.data.toList [(1, x.data.toList)] := by
  obtain ⟨c, l, e, h1, h2⟩ := h.head
  have hw := h.word
  unfold Tok.isWord at hw
  rw [e] at hw ⊢
  exact Lx.name c l h1 h2 1 (by rw [if_neg (by simpa using hw)])
/-- Tokens joined. -/
def tailG (sep : List Lm) : List (List Lm) → List Lm
  | [] => []
  | x :: l => sep ++ (x ++ tailG sep l)
def joinG (sep : List Lm) : List (List Lm) → List Lm
  | [] => []
  | x :: l => x ++ tailG sep l
def brkG (n i k : Nat) (s : List Lm) : List Lm := if k = 10 ∨ k = 9 ∧ i + 1 < n then (5, [40]) :: (s ++ [(5, [41])]) else s
def lexF : List ByteArray → List (List Lm) → List Lm
  | n :: ns, t :: ts => (1, n.data.toList) :: (5, [58]) :: (t ++ (5, [59]) :: lexF ns ts)
  | _, _ => []
mutual
/-- The tokens of a type. -/
def lexT : Tr → List Lm
  | .mk k names parts list of =>
    if k = 7 then (5, [123]) :: (lexF names (lexs parts) ++ [(5, [125])])
    else if k = 8 then (5, [91]) :: ((lexs of).headD [] ++ [(5, [93])])
    else if k = 9 then (5, [40]) :: (joinG [(5, [44])] (lexs list) ++ ((5, [41]) :: (5, [61, 62]) :: (lexs of).headD []))
    else if k = 10 then joinG [(5, [124])] ((List.range list.length).map fun i => brkG list.length i ((list.map kindOf).getD i 0) ((lexs list).getD i []))
    else [(2, wordS k)]
def lexs : List Tr → List (List Lm)
  | [] => []
  | t :: l => lexT t :: lexs l
end
theorem lexs_map : ∀ l : List Tr, lexs l = l.map lexT
  | [] => by rw [lexs]; rfl
  | t :: l => by rw [lexs, lexs_map l]; rfl
theorem lx_fields : ∀ (ns : List ByteArray) (l : List Tr), (∀ t ∈ l, Lx true (text t) (lexT t)) → (∀ n ∈ ns, NameOk n) → Lx false (fieldsS ns (texts l)) (lexF ns (lexs l))
  | [], l, _, _ => by simpa [fieldsS, lexF] using Lx.nil
  | n :: ns, [], _, _ => by simpa [texts, lexs, fieldsS, lexF] using Lx.nil
  | n :: ns, t :: l, h, hn => by
    have h1 := lx_fields ns l (fun u hu => h u (by simp [hu])) (fun m hm => hn m (by simp [hm]))
    have h2 := Lx.blank.comp ((Lx.nameOk (hn n (by simp))).comp ((Lx.sign 58).comp (Lx.blank.comp ((h t (by simp)).comp ((Lx.sign 59).comp h1) fun _ => ⟨59, _, rfl, by decide⟩))) fun _ => ⟨58, _, rfl, by decide⟩)
    rw [texts, lexs, fieldsS, lexF, fieldS]
    simpa using h2
theorem lx_join {sep : List UInt8} {lsep : List Lm} (hs : Lx false sep lsep) (hd : ∃ d r, sep = d :: r ∧ Tok.isPart d = false) : ∀ ps : List (List UInt8 × List Lm), (∀ p ∈ ps, Lx true p.1 p.2) → Lx true (joinL sep (ps.map Prod.fst)) (joinG lsep (ps.map Prod.snd))
  | [], _ => Lx.nil.weak
  | [p], h => by simpa [joinL, joinG, tailG] using h p (by simp)
  | p :: q :: ps, h => by
    have h1 := lx_join hs hd (q :: ps) fun x hx => h x (by simp [hx])
    have h2 := (h p (by simp)).comp (hs.comp h1) fun _ => by obtain ⟨d, r, rfl, hp⟩ := hd; exact ⟨d, _, rfl, hp⟩
    simp only [List.map_cons, joinL, joinG, tailG, List.append_assoc] at h2 ⊢
    exact h2
theorem getD_map {α β : Type} (f : α → β) (l : List α) (i : Nat) (d : β) (h : i < l.length) : (l.map f).getD i d = f l[i] := by
  rw [List.getD_eq_getElem?_getD, List.getElem?_map, List.getElem?_eq_getElem h]; rfl
mutual
theorem lx_text : ∀ t : Tr, okT t → nmT t → Lx true (text t) (lexT t)
  | .mk k names parts list of, ho, hn => by
    rw [okT] at ho
    rw [nmT] at hn
    obtain ⟨hk, hnl, h8, _, _, _, _, op, ol, oo⟩ := ho
    have ip := lx_texts parts op hn.2.2.1
    have il := lx_texts list ol hn.2.2.2.1
    have io := lx_texts of oo hn.2.2.2.2
    rw [text, lexT]
    split
    · have h1 := (Lx.sign 123).comp ((lx_fields names parts ip hn.1).comp ((show Lx false (if parts.length > 0 then [32] else []) [] from by split; exact Lx.blank; exact Lx.nil).comp (Lx.sign 125)))
      simpa using h1.weak
    · split
      · rename_i h8'
        have h1 := h8 (.inl h8')
        match of, h1 with
        | [o], _ =>
          have h1 := (Lx.sign 91).comp ((io o (by simp)).comp (Lx.sign 93) fun _ => ⟨93, _, rfl, by decide⟩)
          simpa [texts, lexs] using h1.weak
      · split
        · rename_i h9'
          have h1 := h8 (.inr h9')
          match of, h1 with
          | [o], _ =>
            have hj := lx_join (sep := [44, 32]) (lsep := [(5, [44])]) ((Lx.sign 44).comp Lx.blank) ⟨44, _, rfl, by decide⟩ (list.map fun t => (text t, lexT t)) (fun p hp => by
              obtain ⟨t, ht, rfl⟩ := List.mem_map.1 hp
              exact il t ht)
            have e1 : (list.map fun t => (text t, lexT t)).map Prod.fst = texts list := by rw [texts_map, List.map_map]; rfl
            have e2 : (list.map fun t => (text t, lexT t)).map Prod.snd = lexs list := by rw [lexs_map, List.map_map]; rfl
            rw [e1, e2] at hj
            have h1 := (Lx.sign 40).comp (hj.comp ((Lx.sign 41).comp (Lx.blank.comp (Lx.arrow.comp (Lx.blank.comp (io o (by simp)))))) fun _ => ⟨41, _, rfl, by decide⟩)
            simpa [texts, lexs] using h1
        · split
          · have hj := lx_join (sep := [32, 124, 32]) (lsep := [(5, [124])]) (Lx.blank.comp ((Lx.sign 124).comp Lx.blank)) ⟨32, _, rfl, by decide⟩ ((List.range list.length).map fun i => (brk list.length i ((list.map kindOf).getD i 0) ((texts list).getD i []), brkG list.length i ((list.map kindOf).getD i 0) ((lexs list).getD i []))) (fun p hp => by
              obtain ⟨i, hi, rfl⟩ := List.mem_map.1 hp
              have hi2 : i < list.length := by simpa using hi
              have e1 : (texts list).getD i [] = text list[i] := by rw [texts_map]; exact getD_map _ _ _ _ hi2
              have e2 : (lexs list).getD i [] = lexT list[i] := by rw [lexs_map]; exact getD_map _ _ _ _ hi2
              have h1 := il list[i] (List.getElem_mem _)
              dsimp only
              rw [e1, e2]
              unfold brk brkG
              split
              · have h2 := (Lx.sign 40).comp (h1.comp (Lx.sign 41) fun _ => ⟨41, _, rfl, by decide⟩)
                simpa using h2.weak
              · exact h1)
            rw [List.map_map, List.map_map] at hj
            have el : (texts list).length = list.length := by rw [texts_map]; simp
            unfold brks
            rw [el]
            exact hj
          · have : k = 1 ∨ k = 2 ∨ k = 3 ∨ k = 4 ∨ k = 5 ∨ k = 6 := by omega
            rcases this with rfl | rfl | rfl | rfl | rfl | rfl <;> exact Lx.name _ _ (by decide) (by decide) 2 (by decide)
theorem lx_texts : ∀ l : List Tr, okL l → nmL l → ∀ t ∈ l, Lx true (text t) (lexT t)
  | [], _, _, t, h => by simp at h
  | u :: l, ho, hn, t, h => by
    rw [okL] at ho
    rw [nmL] at hn
    rcases List.mem_cons.1 h with e | h
    · rw [e]; exact lx_text u ho.1 hn.1
    · exact lx_texts l ho.2 hn.2 t h
end
theorem scan_text {cs : List UInt8} {ls : List Lm} {toks : List Tk} (h : Lx true cs ls) (hs : Tok.scan ⟨cs.toArray⟩ = .ok toks) : toks.map kt = ls ++ [(6, [])] := by
  unfold Tok.scan at hs
  split at hs
  · cases hs
  · obtain ⟨f, o, h1, h2, h3, h4⟩ := h ⟨cs.toArray⟩ 0 [] toks _ [] (by simp) (fun _ d r e => by cases e) (by omega) (by omega) hs
    have hz : (⟨cs.toArray⟩ : ByteArray).size = cs.length := by show cs.toArray.size = _; simp
    obtain ⟨f, rfl⟩ : ∃ g, f = g + 1 := ⟨f - 1, by omega⟩
    rw [Tok.scanFrom, if_neg (by omega)] at h4
    cases h4
    rw [List.map_append, h1]; rfl
end Ty
end Go.Proofs.YtdlbhiaceheffaaDoor

namespace Go.Proofs.YtdlbhiaceheffaaDoor
namespace Ty
open Tok (Tk)
/-- What lies ahead. -/
def D (toks : List Tk) (p : Nat) (r : List Lm) : Prop := (toks.map kt).drop p = r
def isL (r : List Lm) (x : List UInt8) : Bool := match r with
  | [] => false
  | l :: _ => (decide (l.1 = 5) || decide (l.1 = 2)) && decide (l.2 = x)
theorem D.cur {toks : List Tk} {p : Nat} {l : Lm} {r : List Lm} (h : D toks p (l :: r)) : kt (cur toks p) = l := by
  have h1 : (toks.map kt)[p]? = some l := by
    have := congrArg List.head? (show (toks.map kt).drop p = l :: r from h)
    rwa [List.head?_drop] at this
  rw [List.getElem?_map] at h1
  unfold Ty.cur
  cases e : toks[p]? with
  | none => rw [e] at h1; cases h1
  | some t => rw [e] at h1; cases h1; rfl
theorem D.next {toks : List Tk} {p : Nat} {l : Lm} {r : List Lm} (h : D toks p (l :: r)) : D toks (p + 1) r := by
  have h1 : (toks.map kt).drop p = l :: r := h
  show (toks.map kt).drop (p + 1) = r
  rw [← List.drop_drop, h1]; rfl
theorem D.is {toks : List Tk} {p : Nat} {r : List Lm} (h : D toks p r) (x : List UInt8) : Ty.is toks x p = isL r x := by
  cases r with
  | nil =>
    have h1 : toks.length ≤ p := by
      have := congrArg List.length (show (toks.map kt).drop p = [] from h)
      simp at this; omega
    unfold Ty.is Ty.cur isL
    rw [List.getElem?_eq_none h1]; rfl
  | cons l r =>
    have := h.cur
    unfold Ty.is isL
    rw [← this]; rfl
theorem take_rt {toks : List Tk} {x : List UInt8} {s s' : St} {b : Bool} {r : List Lm} (hd : D toks s.pos r) (h : take toks x s = .ok (b, s')) : b = isL r x ∧ s'.ts = s.ts ∧ (isL r x = true → s'.pos = s.pos + 1) ∧ (isL r x = false → s'.pos = s.pos) := by
  unfold take at h
  rw [hd.is] at h
  split at h
  · rename_i e; cases h; exact ⟨e.symm, rfl, fun _ => rfl, fun e2 => absurd (e.symm.trans e2) (by simp)⟩
  · rename_i e
    have e : isL r x = false := by simpa using e
    cases h; exact ⟨e.symm, rfl, fun e2 => absurd (e.symm.trans e2) (by simp), fun _ => rfl⟩
theorem need_rt {toks : List Tk} {x : List UInt8} {s s' : St} {u : Unit} (h : need toks x s = .ok (u, s')) : s'.ts = s.ts ∧ s'.pos = s.pos + 1 := by
  unfold need at h; split at h <;> cases h; exact ⟨rfl, rfl⟩
theorem take_yes {toks : List Tk} {x : List UInt8} {s s' : St} {b : Bool} {l : Lm} {r : List Lm} (hd : D toks s.pos (l :: r)) (hl : isL (l :: r) x = true) (h : take toks x s = .ok (b, s')) : b = true ∧ s'.ts = s.ts ∧ D toks s'.pos r := by
  obtain ⟨h1, h2, h3, _⟩ := take_rt hd h
  exact ⟨h1.trans hl, h2, by rw [h3 hl]; exact hd.next⟩
theorem take_no {toks : List Tk} {x : List UInt8} {s s' : St} {b : Bool} {r : List Lm} (hd : D toks s.pos r) (hl : isL r x = false) (h : take toks x s = .ok (b, s')) : b = false ∧ s'.ts = s.ts ∧ D toks s'.pos r := by
  obtain ⟨h1, h2, _, h3⟩ := take_rt hd h
  exact ⟨h1.trans hl, h2, by rw [h3 hl]; exact hd⟩
theorem need_go {toks : List Tk} {x : List UInt8} {s s' : St} {u : Unit} {l : Lm} {r : List Lm} (hd : D toks s.pos (l :: r)) (h : need toks x s = .ok (u, s')) : s'.ts = s.ts ∧ D toks s'.pos r := by
  obtain ⟨h1, h2⟩ := need_rt h
  exact ⟨h1, by rw [h2]; exact hd.next⟩
/-- What follows a type. -/
def Fol (r : List Lm) : Prop := isL r [124] = false ∧ isL r [61, 62] = false
/-- A step that reads these tokens as this tree, if P holds of what follows. -/
def Rt (toks : List Tk) (m : M Nat) (P : List Lm → Prop) (ls : List Lm) (t : Tr) : Prop := ∀ s n s' rest, D toks s.pos (ls ++ rest) → P rest → Wf s.ts → m s = .ok (n, s') → D toks s'.pos rest ∧ den s'.ts n = t
/-- Its head is no shutting bracket. -/
def Hd (ls : List Lm) : Prop := ∃ l r, ls = l :: r ∧ l.2 ≠ [41]
theorem Hd.no {ls : List Lm} (h : Hd ls) (r : List Lm) : isL (ls ++ r) [41] = false := by
  obtain ⟨l, r', rfl, h⟩ := h
  simp [isL, h]
mutual
theorem lexT_hd : ∀ t : Tr, okT t → uniT t → Hd (lexT t)
  | .mk k names parts list of, ho, hu => by
    rw [lexT]
    split
    · exact ⟨_, _, rfl, by decide⟩
    · split
      · exact ⟨_, _, rfl, by decide⟩
      · split
        · exact ⟨_, _, rfl, by decide⟩
        · split
          · rename_i h10
            rw [uniT] at hu
            rw [okT] at ho
            have h2 := hu.1 h10
            match list, h2, ho.2.2.2.2.2.2.2.2.1, hu.2.2.1 with
            | t :: l, _, o1, u1 =>
              rw [okL] at o1
              rw [uniL] at u1
              have ht := lexT_hd t o1.1 u1.1
              rw [List.length_cons, List.range_succ_eq_map, List.map_cons]
              simp only [joinG, lexs, List.map_cons]
              unfold brkG
              split
              · exact ⟨_, _, rfl, by decide⟩
              · obtain ⟨x, r, e, hx⟩ := ht
                refine ⟨x, ?_, ?_, hx⟩
                rotate_left
                · simp only [List.getD_cons_zero]; rw [e]; rfl
          · rename_i h7 h8 h9 h10
            rw [okT] at ho
            have : k = 1 ∨ k = 2 ∨ k = 3 ∨ k = 4 ∨ k = 5 ∨ k = 6 := by omega
            rcases this with rfl | rfl | rfl | rfl | rfl | rfl <;> exact ⟨_, _, rfl, by decide⟩
end
theorem den_new {s s' : St} {t : Ty} {n : Nat} (ht : WfAt s.ts.length t) (h : newType t s = .ok (n, s')) : den s'.ts n = .mk t.kind (t.fields.map Prod.fst) (t.fields.map fun f => den s.ts f.2) (t.list.map (den s.ts)) (if t.kind = 8 ∨ t.kind = 9 then [den s.ts t.of] else []) ∧ s'.pos = s.pos := by
  cases h
  exact ⟨den_last _ _ ht.fields ht.list ht.of, rfl⟩
/-- A step that keeps types, and reads. -/
structure Stp (T : M Nat) : Prop where
  keep : Keep T Num
  grow : Grow T
theorem fields_rt {toks : List Tk} {T : M Nat} (hT : Stp T) : ∀ f acc ns (ps : List Tr) s l' s' rest, ns.length = ps.length → D toks s.pos (lexF ns (lexs ps) ++ (5, [125]) :: rest) → (∀ t ∈ ps, Rt toks T Fol (lexT t) t) → Wf s.ts → All (acc.map Prod.snd) s.ts → fields toks T f acc s = .ok (l', s') →
    D toks s'.pos rest ∧ l'.map Prod.fst = acc.map Prod.fst ++ ns ∧ (l'.map fun f => den s'.ts f.2) = (acc.map fun f => den s.ts f.2) ++ ps
  | 0, acc, ns, ps, s, l', s', rest, _, _, _, _, _, h => by cases h
  | f + 1, acc, [], [], s, l', s', rest, _, hd, _, _, _, h => by
    obtain ⟨b, s1, e1, e2⟩ := bnd_inv h
    obtain ⟨rfl, t1, d1⟩ := take_yes hd rfl e1
    simp only [if_true] at e2
    cases e2
    exact ⟨d1, by simp, by rw [t1]; simp⟩
  | f + 1, acc, x :: ns, t :: ps, s, l', s', rest, hl, hd, hp, hw, ha, h => by
    rw [lexs, lexF] at hd
    simp only [List.cons_append, List.append_assoc] at hd
    obtain ⟨b, s1, e1, e2⟩ := bnd_inv h
    obtain ⟨rfl, t1, d1⟩ := take_no hd (by simp [isL]) e1
    simp only [Bool.false_eq_true, if_false] at e2
    obtain ⟨y, s2, e3, e4⟩ := bnd_inv e2
    have t2 := name_keep _ _ e3
    have hy : y = x ∧ D toks s2.pos ((5, [58]) :: (lexT t ++ ((5, [59]) :: (lexF ns (lexs ps) ++ (5, [125]) :: rest)))) := by
      have hc := d1.cur
      unfold name at e3
      split at e3
      · cases e3
      · split at e3
        · cases e3
        · cases e3
          refine ⟨?_, d1.next⟩
          have : (Ty.cur toks s1.pos).text.data.toList = x.data.toList := congrArg Prod.snd hc
          exact ByteArray.ext (Array.ext' this)
    obtain ⟨rfl, d2⟩ := hy
    obtain ⟨u, s3, e5, e6⟩ := bnd_inv e4
    obtain ⟨t3, d3⟩ := need_go d2 e5
    obtain ⟨n, s4, e7, e8⟩ := bnd_inv e6
    obtain ⟨u, s5, e9, e10⟩ := bnd_inv e8
    have tt : s3.ts = s.ts := by rw [t3, t2, t1]
    obtain ⟨h1, h2, h3⟩ := hT.keep _ _ _ (by rw [tt]; exact hw) e7
    obtain ⟨k1, _, _⟩ := hT.grow _ _ _ (by rw [tt]; exact hw) e7
    obtain ⟨d4, q4⟩ := hp t (by simp) _ _ _ _ d3 ⟨rfl, rfl⟩ (by rw [tt]; exact hw) e7
    obtain ⟨t5, d5⟩ := need_go d4 e9
    rw [tt] at h2 k1
    rw [← t5] at h1 h2 h3 k1 q4
    obtain ⟨g1, g2, g3⟩ := fields_rt hT f (acc ++ [(y, n)]) ns ps s5 l' s' rest (by simpa using hl) d5 (fun v hv => hp v (by simp [hv])) h1 (fun j hj => by
      rw [List.map_append, List.mem_append] at hj
      rcases hj with hj | hj
      · have := ha j hj; omega
      · simp at hj; subst hj; exact h3) e10
    refine ⟨g1, by rw [g2]; simp, ?_⟩
    rw [g3, List.map_append]
    have e11 : (acc.map fun f => den s5.ts f.2) = acc.map fun f => den s.ts f.2 := List.map_congr_left fun j hj => k1.den (ha _ (List.mem_map_of_mem hj))
    rw [e11]
    simp [q4]
  | f + 1, acc, [], t :: ps, s, l', s', rest, hl, _, _, _, _, _ => by simp at hl
  | f + 1, acc, x :: ns, [], s, l', s', rest, hl, _, _, _, _, _ => by simp at hl
/-- Things with commas between, up to a bracket. -/
theorem list_rt {toks : List Tk} {T : M Nat} (hT : Stp T) : ∀ f acc (ps : List Tr) s l' s' rest, D toks s.pos ((if acc.length = 0 then joinG [(5, [44])] (lexs ps) else tailG [(5, [44])] (lexs ps)) ++ (5, [41]) :: rest) → (∀ t ∈ ps, Rt toks T Fol (lexT t) t ∧ Hd (lexT t)) → Wf s.ts → All acc s.ts → list toks [41] (fun _ => T) f acc s = .ok (l', s') →
    D toks s'.pos rest ∧ l'.map (den s'.ts) = acc.map (den s.ts) ++ ps
  | 0, acc, ps, s, l', s', rest, _, _, _, _, h => by cases h
  | f + 1, acc, [], s, l', s', rest, hd, _, _, _, h => by
    have hd2 : D toks s.pos ((5, [41]) :: rest) := by
      have e : (if acc.length = 0 then joinG [(5, [44])] (lexs []) else tailG [(5, [44])] (lexs [])) = ([] : List Lm) := by split <;> rfl
      rw [e] at hd; exact hd
    obtain ⟨b, s1, e1, e2⟩ := bnd_inv h
    obtain ⟨rfl, t1, d1⟩ := take_yes hd2 rfl e1
    simp only [if_true] at e2
    cases e2
    exact ⟨d1, by rw [t1]; simp⟩
  | f + 1, acc, t :: ps, s, l', s', rest, hd, hp, hw, ha, h => by
    obtain ⟨b, s1, e1, e2⟩ := bnd_inv h
    have hb : b = false ∧ s1.ts = s.ts ∧ D toks s1.pos ((if acc.length = 0 then joinG [(5, [44])] (lexs (t :: ps)) else tailG [(5, [44])] (lexs (t :: ps))) ++ (5, [41]) :: rest) := by
      refine take_no hd ?_ e1
      split
      · rw [lexs, joinG, List.append_assoc]; exact (hp t (by simp)).2.no _
      · rfl
    obtain ⟨rfl, t1, d1⟩ := hb
    simp only [Bool.false_eq_true, if_false] at e2
    obtain ⟨u, s2, e3, e4⟩ := bnd_inv e2
    have h2 : s2.ts = s1.ts ∧ D toks s2.pos (lexT t ++ (tailG [(5, [44])] (lexs ps) ++ (5, [41]) :: rest)) := by
      split at e3
      · rename_i h0
        cases e3
        rw [if_pos h0, lexs, joinG, List.append_assoc] at d1
        exact ⟨rfl, d1⟩
      · rename_i h0
        rw [if_neg h0, lexs, tailG] at d1
        simp only [List.append_assoc, List.cons_append, List.nil_append] at d1
        exact need_go d1 e3
    obtain ⟨t2, d2⟩ := h2
    obtain ⟨n, s3, e5, e6⟩ := bnd_inv e4
    rw [t1] at t2
    obtain ⟨h1, h2, h3⟩ := hT.keep _ _ _ (by rw [t2]; exact hw) e5
    obtain ⟨k1, _, _⟩ := hT.grow _ _ _ (by rw [t2]; exact hw) e5
    obtain ⟨d3, q3⟩ := (hp t (by simp)).1 _ _ _ _ d2 (by cases ps <;> exact ⟨rfl, rfl⟩) (by rw [t2]; exact hw) e5
    rw [t2] at h2 k1
    obtain ⟨g1, g2⟩ := list_rt hT f (acc ++ [n]) ps s3 l' s' rest (by rw [if_neg (by simp)]; exact d3) (fun v hv => hp v (by simp [hv])) h1 (fun j hj => by
      rw [List.mem_append] at hj
      rcases hj with hj | hj
      · have := ha j hj; omega
      · simp at hj; subst hj; exact h3) e6
    refine ⟨g1, ?_⟩
    rw [g2, List.map_append, k1.dens ha]
    simp [q3]
/-- Members of a union: the last one may be greedy. -/
def Chain (toks : List Tk) (S : M Nat) : List (List Lm × Tr) → Prop
  | [] => True
  | [q] => Rt toks S Fol q.1 q.2
  | q :: q' :: l => Rt toks S (fun r => isL r [61, 62] = false) q.1 q.2 ∧ Chain toks S (q' :: l)
theorem bars_rt {toks : List Tk} {S : M Nat} (hS : Stp S) : ∀ f acc (qs : List (List Lm × Tr)) s l' s' rest, D toks s.pos (tailG [(5, [124])] (qs.map Prod.fst) ++ rest) → Fol rest → Chain toks S qs → Wf s.ts → All acc s.ts → bars toks S f acc s = .ok (l', s') →
    D toks s'.pos rest ∧ l'.map (den s'.ts) = acc.map (den s.ts) ++ qs.map Prod.snd
  | 0, acc, qs, s, l', s', rest, _, _, _, _, _, h => by cases h
  | f + 1, acc, [], s, l', s', rest, hd, hf, _, _, _, h => by
    obtain ⟨b, s1, e1, e2⟩ := bnd_inv h
    obtain ⟨rfl, t1, d1⟩ := take_no (r := rest) hd hf.1 e1
    simp only [Bool.false_eq_true, if_false] at e2
    cases e2
    exact ⟨d1, by rw [t1]; simp⟩
  | f + 1, acc, q :: qs, s, l', s', rest, hd, hf, hc, hw, ha, h => by
    simp only [List.map_cons, tailG, List.append_assoc, List.cons_append, List.nil_append] at hd
    obtain ⟨b, s1, e1, e2⟩ := bnd_inv h
    obtain ⟨rfl, t1, d1⟩ := take_yes hd rfl e1
    simp only [if_true] at e2
    obtain ⟨n, s2, e3, e4⟩ := bnd_inv e2
    obtain ⟨h1, h2, h3⟩ := hS.keep _ _ _ (by rw [t1]; exact hw) e3
    obtain ⟨k1, _, _⟩ := hS.grow _ _ _ (by rw [t1]; exact hw) e3
    have hq : D toks s2.pos (tailG [(5, [124])] (qs.map Prod.fst) ++ rest) ∧ den s2.ts n = q.2 := by
      cases qs with
      | nil => exact hc _ _ _ _ d1 hf (by rw [t1]; exact hw) e3
      | cons q' qs => exact hc.1 _ _ _ _ d1 rfl (by rw [t1]; exact hw) e3
    have hc2 : Chain toks S qs := by
      cases qs with
      | nil => trivial
      | cons q' qs => exact hc.2
    rw [t1] at h2 k1
    obtain ⟨g1, g2⟩ := bars_rt hS f (acc ++ [n]) qs s2 l' s' rest hq.1 hf hc2 h1 (fun j hj => by
      rw [List.mem_append] at hj
      rcases hj with hj | hj
      · have := ha j hj; omega
      · simp at hj; subst hj; exact h3) e4
    refine ⟨g1, ?_⟩
    rw [g2, List.map_append, k1.dens ha]
    simp [hq.2]
end Ty
end Go.Proofs.YtdlbhiaceheffaaDoor

namespace Go.Proofs.YtdlbhiaceheffaaDoor
namespace Ty
open Tok (Tk)
theorem plainKind_word (x : ByteArray) (k : Nat) (hk : 1 ≤ k ∧ k ≤ 6) (h : x.data.toList = wordS k) : plainKind x = k := by
  unfold plainKind
  rw [h]
  have : k = 1 ∨ k = 2 ∨ k = 3 ∨ k = 4 ∨ k = 5 ∨ k = 6 := by omega
  rcases this with rfl | rfl | rfl | rfl | rfl | rfl <;> rfl
theorem single_rt {toks : List Tk} (hL : toks.length ≤ 1001) {T : M Nat} (hT : Stp T) (k : Nat) (names : List ByteArray) (parts list of : List Tr) (ho : okT (.mk k names parts list of)) (hk : k ≠ 10) (hp : ∀ t ∈ parts, Rt toks T Fol (lexT t) t) (hl : ∀ t ∈ list, Rt toks T Fol (lexT t) t ∧ Hd (lexT t)) (hof : ∀ t ∈ of, Rt toks T Fol (lexT t) t) :
    Rt toks (single toks T) (fun r => k = 9 → Fol r) (lexT (.mk k names parts list of)) (.mk k names parts list of) := fun s n s' rest hd hP hw h => by
  rw [okT] at ho
  obtain ⟨hk1, hnl, h8, h89, h7, h910, hlen, _, _, _⟩ := ho
  rw [lexT] at hd
  unfold single at h
  have hcase : k = 7 ∨ k = 8 ∨ k = 9 ∨ (1 ≤ k ∧ k ≤ 6) := by omega
  rcases hcase with rfl | rfl | rfl | hk6
  · rw [if_pos rfl] at hd
    simp only [List.cons_append, List.append_assoc, List.nil_append] at hd
    have hkind : (cur toks s.pos).kind = 5 := congrArg Prod.fst hd.cur
    rw [if_neg (by rw [hkind]; rintro ⟨h, _⟩; cases h)] at h
    obtain ⟨b, s1, e1, e2⟩ := bnd_inv h
    obtain ⟨rfl, t1, d1⟩ := take_yes hd rfl e1
    simp only [if_true] at e2
    unfold object at e2
    obtain ⟨l, s2, e3, e4⟩ := bnd_inv e2
    have hw1 : Wf s1.ts := by rw [t1]; exact hw
    obtain ⟨g1, g2, g3⟩ := fields_rt hT _ [] names parts s1 l s2 rest hnl d1 hp hw1 (fun j hj => by simp at hj) e3
    obtain ⟨_, _, h3⟩ := fields_keep hT.keep _ _ _ _ _ hw1 (fun j hj => by simp at hj) e3
    obtain ⟨q, qp⟩ := den_new (s := s2) ⟨fun f hf => h3 _ (List.mem_map_of_mem hf), fun j hj => by simp at hj, fun h => by dsimp only at h; omega, ⟨by simp, by simp⟩, fun h => absurd rfl h, fun _ _ => rfl, fun _ _ => rfl, fun h => (by cases h), ⟨by have := fields_lens _ _ _ _ _ e3; simp at this; dsimp only; omega, by simp⟩⟩ e4
    refine ⟨by rw [qp]; exact g1, ?_⟩
    rw [q, h910 (by omega) (by omega), h89 (by omega) (by omega)]
    simp at g2 g3
    simp [g2, g3]
  · rw [if_neg (by decide), if_pos rfl] at hd
    have h1 := h8 (.inl rfl)
    match of, h1, hof with
    | [o], _, hof =>
      simp only [lexs, List.headD_cons, List.cons_append, List.append_assoc, List.nil_append] at hd
      have hkind : (cur toks s.pos).kind = 5 := congrArg Prod.fst hd.cur
      rw [if_neg (by rw [hkind]; rintro ⟨h, _⟩; cases h)] at h
      obtain ⟨b, s1, e1, e2⟩ := bnd_inv h
      obtain ⟨rfl, t1, d1⟩ := take_no hd rfl e1
      simp only [Bool.false_eq_true, if_false] at e2
      obtain ⟨b, s2, e3, e4⟩ := bnd_inv e2
      obtain ⟨rfl, t2, d2⟩ := take_yes d1 rfl e3
      simp only [if_true] at e4
      obtain ⟨m, s3, e5, e6⟩ := bnd_inv e4
      have hw2 : Wf s2.ts := by rw [t2, t1]; exact hw
      obtain ⟨g1, g2, g3⟩ := hT.keep _ _ _ hw2 e5
      obtain ⟨d3, q3⟩ := hof o (by simp) _ _ _ _ d2 ⟨rfl, rfl⟩ hw2 e5
      obtain ⟨u, s4, e7, e8⟩ := bnd_inv e6
      obtain ⟨t4, d4⟩ := need_go d3 e7
      rw [← t4] at g1 g2 g3 q3
      obtain ⟨q, qp⟩ := den_new (s := s4) ⟨fun f hf => by simp at hf, fun j hj => by simp at hj, fun _ => (show m < _ from g3), ⟨by simp, by simp⟩, fun _ => rfl, fun _ _ => rfl, fun h => absurd rfl h, fun h => (by cases h), ⟨by simp, by simp⟩⟩ e8
      refine ⟨by rw [qp]; exact d4, ?_⟩
      have hz := h7 (by omega)
      rw [q, h910 (by omega) (by omega), hz]
      rw [hz] at hnl
      have : names = [] := List.length_eq_zero_iff.1 hnl
      subst this
      simp [q3]
  · rw [if_neg (by decide), if_neg (by decide), if_pos rfl] at hd
    have h1 := h8 (.inr rfl)
    match of, h1, hof with
    | [o], _, hof =>
      simp only [lexs, List.headD_cons, List.cons_append, List.append_assoc] at hd
      have hkind : (cur toks s.pos).kind = 5 := congrArg Prod.fst hd.cur
      rw [if_neg (by rw [hkind]; rintro ⟨h, _⟩; cases h)] at h
      obtain ⟨b, s1, e1, e2⟩ := bnd_inv h
      obtain ⟨rfl, t1, d1⟩ := take_no hd rfl e1
      simp only [Bool.false_eq_true, if_false] at e2
      obtain ⟨b, s2, e3, e4⟩ := bnd_inv e2
      obtain ⟨rfl, t2, d2⟩ := take_no d1 rfl e3
      simp only [Bool.false_eq_true, if_false] at e4
      obtain ⟨u, s3, e5, e6⟩ := bnd_inv e4
      obtain ⟨t3, d3⟩ := need_go d2 e5
      have hw3 : Wf s3.ts := by rw [t3, t2, t1]; exact hw
      unfold round at e6
      obtain ⟨l, s4, e7, e8⟩ := bnd_inv e6
      obtain ⟨h1, h2, h3⟩ := list_keep hT.keep _ _ _ _ _ hw3 (fun j hj => by simp at hj) e7
      obtain ⟨d4, q4⟩ := list_rt hT _ [] list s3 l s4 ((5, [61, 62]) :: (lexT o ++ rest)) (by rw [List.length_nil, if_pos rfl]; exact d3) hl hw3 (fun j hj => by simp at hj) e7
      obtain ⟨b, s5, e9, e10⟩ := bnd_inv e8
      obtain ⟨rfl, t5, d5⟩ := take_yes d4 rfl e9
      simp only [if_true] at e10
      rw [← t5] at h1 h2 h3 q4
      obtain ⟨m, s6, e11, e12⟩ := bnd_inv e10
      obtain ⟨g1, g2, g3⟩ := hT.keep _ _ _ h1 e11
      obtain ⟨j1, _, _⟩ := hT.grow _ _ _ h1 e11
      obtain ⟨d6, q6⟩ := hof o (by simp) _ _ _ _ d5 (hP rfl) h1 e11
      have hl6 : All l s6.ts := fun j hj => by have := h3 j hj; omega
      obtain ⟨q, qp⟩ := den_new (s := s6) ⟨fun f hf => by simp at hf, fun j hj => hl6 j hj, fun _ => (show m < _ from g3), ⟨by simp, by simp⟩, fun _ => rfl, fun h => absurd rfl h, fun _ h => absurd rfl h, fun h => (by cases h), ⟨by simp, by have := list_lens _ _ _ _ _ e7; simp at this; dsimp only; omega⟩⟩ e12
      refine ⟨by rw [qp]; exact d6, ?_⟩
      have hz := h7 (by omega)
      rw [q, hz]
      rw [hz] at hnl
      have : names = [] := List.length_eq_zero_iff.1 hnl
      subst this
      dsimp only
      rw [j1.dens h3]
      simp at q4
      simp [q4, q6]
  · rw [if_neg (by omega), if_neg (by omega), if_neg (by omega), if_neg (by omega)] at hd
    have hc := hd.cur
    have hkind : (cur toks s.pos).kind = 2 := congrArg Prod.fst hc
    have hpk := plainKind_word (cur toks s.pos).text k hk6 (congrArg Prod.snd hc)
    rw [if_pos ⟨hkind, by omega⟩, hpk] at h
    obtain ⟨u, s1, e1, e2⟩ := bnd_inv h
    cases e1
    obtain ⟨q, qp⟩ := den_new (s := { s with pos := s.pos + 1 }) ⟨fun f hf => by simp at hf, fun j hj => by simp at hj, fun h => by dsimp only at h; omega, ⟨by dsimp only; omega, by dsimp only; omega⟩, fun _ => rfl, fun _ _ => rfl, fun _ _ => rfl, fun h => (by dsimp only at h; omega), ⟨by simp, by simp⟩⟩ e2
    refine ⟨by rw [qp]; exact hd.next, ?_⟩
    have hz := h7 (by omega)
    rw [q, hz, h910 (by omega) (by omega), h89 (by omega) (by omega)]
    rw [hz] at hnl
    have : names = [] := List.length_eq_zero_iff.1 hnl
    subst this
    dsimp only
    rw [if_neg (by omega)]
    rfl
/-- A type in round brackets. -/
theorem paren_rt {toks : List Tk} {T : M Nat} (hT : Stp T) {t : Tr} (ht : Rt toks T Fol (lexT t) t) (hh : Hd (lexT t)) : Rt toks (single toks T) (fun r => isL r [61, 62] = false) ((5, [40]) :: (lexT t ++ [(5, [41])])) t := fun s n s' rest hd hP hw h => by
  unfold single at h
  simp only [List.cons_append, List.append_assoc, List.nil_append] at hd
  have hkind : (cur toks s.pos).kind = 5 := congrArg Prod.fst hd.cur
  rw [if_neg (by rw [hkind]; rintro ⟨h, _⟩; cases h)] at h
  obtain ⟨b, s1, e1, e2⟩ := bnd_inv h
  obtain ⟨rfl, t1, d1⟩ := take_no hd rfl e1
  simp only [Bool.false_eq_true, if_false] at e2
  obtain ⟨b, s2, e3, e4⟩ := bnd_inv e2
  obtain ⟨rfl, t2, d2⟩ := take_no d1 rfl e3
  simp only [Bool.false_eq_true, if_false] at e4
  obtain ⟨u, s3, e5, e6⟩ := bnd_inv e4
  obtain ⟨t3, d3⟩ := need_go d2 e5
  have hw3 : Wf s3.ts := by rw [t3, t2, t1]; exact hw
  unfold round at e6
  obtain ⟨l, s4, e7, e8⟩ := bnd_inv e6
  obtain ⟨d4, q4⟩ := list_rt hT _ [] [t] s3 l s4 rest (by rw [List.length_nil, if_pos rfl]; simpa [lexs, joinG, tailG] using d3) (fun v hv => by simp at hv; subst hv; exact ⟨ht, hh⟩) hw3 (fun j hj => by simp at hj) e7
  obtain ⟨b, s5, e9, e10⟩ := bnd_inv e8
  obtain ⟨rfl, t5, d5⟩ := take_no d4 hP e9
  simp only [Bool.false_eq_true, if_false] at e10
  have hl1 : l.length = 1 := by have := congrArg List.length q4; simpa using this
  rw [if_pos hl1] at e10
  cases e10
  obtain ⟨m, rfl⟩ := List.length_eq_one_iff.1 hl1
  simp at q4
  refine ⟨d5, ?_⟩
  rw [t5]
  exact q4
/-- Members with bars between. -/
theorem union_rt {toks : List Tk} (hL : toks.length ≤ 1001) {S : M Nat} (hS : Stp S) (q : List Lm × Tr) (qs : List (List Lm × Tr)) (hc : Chain toks S (q :: qs)) :
    Rt toks (union toks S) Fol (joinG [(5, [124])] ((q :: qs).map Prod.fst)) (if qs = [] then q.2 else .mk 10 [] [] ((q :: qs).map Prod.snd) []) := fun s n s' rest hd hf hw h => by
  simp only [List.map_cons, joinG, List.append_assoc] at hd
  obtain ⟨m, s1, e1, e2⟩ := bnd_inv h
  obtain ⟨h1, h2, h3⟩ := hS.keep _ _ _ hw e1
  have hq : D toks s1.pos (tailG [(5, [124])] (qs.map Prod.fst) ++ rest) ∧ den s1.ts m = q.2 := by
    cases qs with
    | nil => exact hc _ _ _ _ hd hf hw e1
    | cons q' qs => exact hc.1 _ _ _ _ hd rfl hw e1
  have hc2 : Chain toks S qs := by
    cases qs with
    | nil => trivial
    | cons q' qs => exact hc.2
  obtain ⟨l, s2, e3, e4⟩ := bnd_inv e2
  have ha : All [m] s1.ts := fun j hj => by simp at hj; subst hj; exact h3
  obtain ⟨g1, g2, g3, g4⟩ := bars_keep hS.keep _ _ _ _ _ h1 ha e3
  obtain ⟨d2, q2⟩ := bars_rt hS _ [m] qs s1 l s2 rest hq.1 hf hc2 h1 ha e3
  have hlen : l.length = qs.length + 1 := by have := congrArg List.length q2; simp at this; omega
  split at e4
  · rename_i hl
    cases e4
    have : qs = [] := List.length_eq_zero_iff.1 (by omega)
    subst this
    obtain ⟨m2, rfl⟩ := List.length_eq_one_iff.1 hl
    refine ⟨d2, ?_⟩
    simp at q2
    simp [q2, hq.2]
  · rename_i hl
    obtain ⟨q3, qp⟩ := den_new (s := s2) ⟨fun f hf => by simp at hf, fun j hj => g3 j hj, fun h => by dsimp only at h; omega, ⟨by simp, by simp⟩, fun _ => rfl, fun _ h => absurd rfl h, fun _ _ => rfl, fun _ => (by dsimp only; omega), ⟨by simp, by have := bars_lens _ _ _ _ _ e3; simp at this; dsimp only; omega⟩⟩ e4
    refine ⟨by rw [qp]; exact d2, ?_⟩
    rw [if_neg (show ¬ qs = [] from by intro e; rw [e] at hlen; simp at hlen; omega), q3]
    dsimp only
    rw [q2]
    simp [hq.2]
theorem single_stp {toks : List Tk} (hL : toks.length ≤ 1001) {T : M Nat} (hT : Stp T) : Stp (single toks T) := ⟨single_keep hL hT.keep, single_grow hL hT.keep hT.grow⟩
theorem typ_stp {toks : List Tk} (hL : toks.length ≤ 1001) (r : Nat) : Stp (typ toks r) := ⟨typ_keep toks hL r, typ_grow toks hL r⟩
theorem chain_of {toks : List Tk} {S : M Nat} : ∀ (qs : List (List Lm × Tr)), (∀ i (hi : i < qs.length), Rt toks S Fol qs[i].1 qs[i].2 ∧ (i + 1 < qs.length → Rt toks S (fun r => isL r [61, 62] = false) qs[i].1 qs[i].2)) → Chain toks S qs
  | [], _ => trivial
  | [q], h => (h 0 (by simp)).1
  | q :: q' :: l, h => ⟨(h 0 (by simp)).2 (by simp), chain_of (q' :: l) fun i hi => by
      have := h (i + 1) (by simp at hi ⊢; omega)
      simp only [List.getElem_cons_succ] at this
      exact ⟨this.1, fun h2 => this.2 (by simp at h2 ⊢; omega)⟩⟩
theorem Rt.mono {toks : List Tk} {m : M Nat} {P Q : List Lm → Prop} {ls : List Lm} {t : Tr} (h : Rt toks m P ls t) (hq : ∀ r, Q r → P r) : Rt toks m Q ls t := fun s n s' rest hd hr => h s n s' rest hd (hq _ hr)
mutual
theorem both_rt {toks : List Tk} (hL : toks.length ≤ 1001) : ∀ (t : Tr), okT t → uniT t → (∀ r, kindOf t ≠ 10 → Rt toks (single toks (typ toks r)) (fun x => kindOf t = 9 → Fol x) (lexT t) t) ∧ ∀ r, Rt toks (typ toks r) Fol (lexT t) t
  | .mk k names parts list of, ho, hu => by
    have hok := ho
    have hun := hu
    rw [okT] at ho
    rw [uniT] at hu
    obtain ⟨_, hnl, _, h89, h7, _, _, op, ol, oo⟩ := ho
    have ip := typs_rt hL parts op hu.2.1
    have il := typs_rt hL list ol hu.2.2.1
    have io := typs_rt hL of oo hu.2.2.2
    have hsg : ∀ r, k ≠ 10 → Rt toks (single toks (typ toks r)) (fun x => k = 9 → Fol x) (lexT (.mk k names parts list of)) (.mk k names parts list of) := fun r hk =>
      single_rt hL (typ_stp hL r) k names parts list of hok hk (fun t ht => (ip t ht).2.1 r) (fun t ht => ⟨(il t ht).2.1 r, (il t ht).2.2⟩) (fun t ht => (io t ht).2.1 r)
    refine ⟨hsg, fun r => ?_⟩
    cases r with
    | zero => exact fun s n s' rest _ _ _ h => by cases h
    | succ r =>
      have hT := typ_stp hL r
      have hS := single_stp hL hT
      by_cases hk : k = 10
      · have h2 := hu.1 hk
        subst hk
        have hm : ∀ i (hi : i < list.length), Rt toks (single toks (typ toks r)) Fol (brkG list.length i ((list.map kindOf).getD i 0) ((lexs list).getD i [])) list[i] ∧ (i + 1 < list.length → Rt toks (single toks (typ toks r)) (fun r => isL r [61, 62] = false) (brkG list.length i ((list.map kindOf).getD i 0) ((lexs list).getD i [])) list[i]) := fun i hi => by
          have e1 : (lexs list).getD i [] = lexT list[i] := by rw [lexs_map]; exact getD_map _ _ _ _ hi
          have e2 : (list.map kindOf).getD i 0 = kindOf list[i] := getD_map _ _ _ _ hi
          rw [e1, e2]
          have him := il list[i] (List.getElem_mem _)
          unfold brkG
          split
          · have hp := paren_rt hT (him.2.1 r) him.2.2
            exact ⟨hp.mono fun r hr => hr.2, fun _ => hp⟩
          · rename_i hb
            have hk1 : kindOf list[i] ≠ 10 := by omega
            exact ⟨(him.1 r hk1).mono fun _ hr _ => hr, fun h2 => (him.1 r hk1).mono fun _ _ h9 => absurd h9 (by omega)⟩
        have hlex : lexT (.mk 10 names parts list of) = joinG [(5, [124])] ((List.range list.length).map fun i => brkG list.length i ((list.map kindOf).getD i 0) ((lexs list).getD i [])) := by
          rw [lexT, if_neg (by decide), if_neg (by decide), if_neg (by decide), if_pos rfl]
        obtain ⟨qs, hqs⟩ : ∃ qs, qs = (List.range list.length).map fun i => (brkG list.length i ((list.map kindOf).getD i 0) ((lexs list).getD i []), list.getD i nilT) := ⟨_, rfl⟩
        have hql : qs.length = list.length := by rw [hqs]; simp
        have hch : Chain toks (single toks (typ toks r)) qs := chain_of qs fun i hi => by
          have hi2 : i < list.length := by omega
          have e : qs[i] = (brkG list.length i ((list.map kindOf).getD i 0) ((lexs list).getD i []), list[i]) := by
            subst hqs
            have e0 : list.getD i nilT = list[i] := by rw [List.getD_eq_getElem?_getD, List.getElem?_eq_getElem hi2]; rfl
            simp only [List.getElem_map, List.getElem_range, e0]
          rw [e, hql]
          exact hm i hi2
        have h1 : qs.map Prod.fst = (List.range list.length).map fun i => brkG list.length i ((list.map kindOf).getD i 0) ((lexs list).getD i []) := by rw [hqs, List.map_map]; rfl
        have h3 : qs.map Prod.snd = list := by
          rw [hqs, List.map_map]
          apply List.ext_getElem
          · simp
          · intro i a b
            simp only [List.getElem_map, List.getElem_range, Function.comp]
            rw [List.getD_eq_getElem?_getD, List.getElem?_eq_getElem b]; rfl
        rw [hlex, ← h1]
        have hp0 := h7 (by decide)
        have hn0 : names = [] := List.length_eq_zero_iff.1 (by rw [hnl, hp0]; rfl)
        rw [hn0, hp0, h89 (by decide) (by decide)]
        conv => rhs; rw [← h3]
        match qs, hql, hch with
        | [], hql, _ => simp at hql; omega
        | q :: qs, hql, hch =>
          have hu2 := union_rt hL hS q qs hch
          rw [if_neg (by intro e; rw [e] at hql; simp at hql; omega)] at hu2
          exact hu2
      · have hu2 := union_rt hL hS (lexT (.mk k names parts list of), .mk k names parts list of) [] ((hsg r hk).mono fun x hx _ => hx)
        show Rt toks (union toks (single toks (typ toks r))) _ _ _
        simpa [joinG, tailG] using hu2
theorem typs_rt {toks : List Tk} (hL : toks.length ≤ 1001) : ∀ (l : List Tr), okL l → uniL l → ∀ t ∈ l, (∀ r, kindOf t ≠ 10 → Rt toks (single toks (typ toks r)) (fun x => kindOf t = 9 → Fol x) (lexT t) t) ∧ (∀ r, Rt toks (typ toks r) Fol (lexT t) t) ∧ Hd (lexT t)
  | [], _, _, t, h => by simp at h
  | u :: l, ho, hu, t, h => by
    rw [okL] at ho
    rw [uniL] at hu
    rcases List.mem_cons.1 h with e | h
    · rw [e]
      have hb := both_rt hL u ho.1 hu.1
      exact ⟨hb.1, hb.2, lexT_hd u ho.1 hu.1⟩
    · exact typs_rt hL l ho.2 hu.2 t h
end
/-- A printed type that is read at all is read as it was. -/
theorem typeOf_text {t : Tr} (ho : okT t) (hu : uniT t) (hn : nmT t) {ts : List Ty} (h : typeOf ⟨(text t).toArray⟩ = .ok ts) : den ts (ts.length - 1) = t := by
  unfold typeOf at h
  split at h
  · cases h
  · rename_i toks hsc
    have hkt := scan_text (lx_text t ho hn) hsc
    split at h
    · cases h
    · rename_i n st e
      split at h
      · cases h
      · split at h
        · cases h
        · cases h
          have hL := (Tok.scan_ok _ _ hsc).2.1
          obtain ⟨_, _, h3⟩ := typ_grow toks hL 20 _ _ _ Wf.nil e
          have hd : D toks 0 (lexT t ++ [(6, [])]) := by rw [D, hkt]; rfl
          obtain ⟨_, h2⟩ := (both_rt hL t ho hu).2 20 _ _ _ _ hd ⟨rfl, rfl⟩ Wf.nil e
          have : st.ts.length - 1 = n := by omega
          rw [this]; exact h2
end Ty
end Go.Proofs.YtdlbhiaceheffaaDoor
