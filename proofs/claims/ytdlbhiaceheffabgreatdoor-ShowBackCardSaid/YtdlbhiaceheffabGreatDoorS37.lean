/- Plain: what was printed is scanned, without a fault, to its tokens: signs, words, names, numbers, texts; types. No program in sight. Plain: what was printed is scanned, without a fault, to its tokens: expressions, statements, programs. No program in sight. -/
import Derived.Test.YtdlbhiaceheffabGreatDoorS36
set_option linter.all false
namespace Go.Proofs.YtdlbhiaceheffabGreatDoor
section
namespace Ty
open Tok (Tk)
def Ly (c : Bool) (cs : List UInt8) (ls : List Lm) : Prop := ∀ (s : ByteArray) (k : Nat) (o : List Tk) (f : Nat) (rest : List UInt8), s.data.toList.drop k = cs ++ rest → (c = true → ∀ d r, rest = d :: r → Tok.isPart d = false) → s.size < k + f → k ≤ s.size → o.length + ls.length ≤ 1000 →
 ∃ f' o', o'.map kt = o.map kt ++ ls ∧ s.size < k + cs.length + f' ∧ k + cs.length ≤ s.size ∧ Tok.scanFrom s f k o = Tok.scanFrom s f' (k + cs.length) o'
theorem Ly.nil : Ly false [] [] := fun s k o f rest _ _ hf hk _ => ⟨f, o, by simp, by simpa using hf, by simpa using hk, rfl⟩
theorem Ly.weak {cs : List UInt8} {ls : List Lm} (h : Ly false cs ls) : Ly true cs ls := fun s k o f rest hd _ => h s k o f rest hd (fun e => by cases e)
theorem Ly.comp {c1 c2 : Bool} {a b : List UInt8} {la lb : List Lm} (h : Ly c1 a la) (g : Ly c2 b lb) (hh : c1 = true → ∃ d r, b = d :: r ∧ Tok.isPart d = false := by intro e; cases e) : Ly c2 (a ++ b) (la ++ lb) := fun s k o f rest hd hc hf hk hn => by
 rw [List.append_assoc] at hd
 rw [List.length_append] at hn
 obtain ⟨f1, o1, e1, e2, e3, e4⟩ := h s k o f (b ++ rest) hd (fun e d r hr => by
   obtain ⟨d', r', rfl, hp⟩ := hh e
   cases hr; exact hp) hf hk (by omega)
 have hl := congrArg List.length e1
 simp only [List.length_append, List.length_map] at hl
 obtain ⟨f2, o2, g1, g2, g3, g4⟩ := g s _ o1 f1 rest (drop_add hd) hc e2 e3 (by omega)
 refine ⟨f2, o2, by rw [g1, e1, List.append_assoc], ?_, ?_, ?_⟩
 · rw [List.length_append]; omega
 · rw [List.length_append]; omega
 · rw [List.length_append, ← Nat.add_assoc, e4]; exact g4
theorem ly_blank (d : UInt8) (h : d = 32 ∨ d = 10) : Ly false [d] [] := fun s k o f rest hd _ hf hk _ => by
 obtain ⟨h1, h2⟩ := drop_lt (d := d) (r := rest) hd
 obtain ⟨f, rfl⟩ : ∃ g, f = g + 1 := ⟨f - 1, by omega⟩
 refine ⟨f, o, by simp, ?_, ?_, ?_⟩
 · simp only [List.length_cons, List.length_nil]; omega
 · simp only [List.length_cons, List.length_nil]; omega
 · rw [Tok.scanFrom, if_pos h1, if_pos (by rw [h2]; exact h)]; rfl
theorem Ly.blank : Ly false [32] [] := ly_blank 32 (.inl rfl)
theorem Ly.feed : Ly false [10] [] := ly_blank 10 (.inr rfl)
theorem Ly.one {c : Bool} {d : UInt8} {cs : List UInt8} {x : Lm} (h32 : d ≠ 32 ∧ d ≠ 10) (h : ∀ (s : ByteArray) (k : Nat) (rest : List UInt8), s.data.toList.drop k = d :: cs ++ rest → (c = true → ∀ d r, rest = d :: r → Tok.isPart d = false) → k < s.size → Tok.byte s k = d →
   kt (Tok.next s k).1 = x ∧ (Tok.next s k).2.1 = cs.length + 1 ∧ (Tok.next s k).2.2 = true) : Ly c (d :: cs) [x] := fun s k o f rest hd hc hf hk hn => by
 obtain ⟨h1, h2⟩ := drop_lt (d := d) (r := cs ++ rest) hd
 obtain ⟨f, rfl⟩ : ∃ g, f = g + 1 := ⟨f - 1, by omega⟩
 obtain ⟨n1, n2, n3⟩ := h s k rest hd hc h1 h2
 have hlen := congrArg List.length hd
 simp only [List.length_drop, List.length_append, List.length_cons] at hlen
 have hz : s.data.toList.length = s.size := by simp
 simp only [List.length_cons, List.length_nil] at hn
 refine ⟨f, o ++ [(Tok.next s k).1], by simp [n1], ?_, ?_, ?_⟩
 · simp only [List.length_cons]; omega
 · simp only [List.length_cons]; omega
 · rw [Tok.scanFrom, if_pos h1, if_neg (by rw [h2]; rintro (e | e) <;> simp_all), if_neg (by rw [n3]; simp), if_neg (by omega), n2]; rfl
theorem next_okS (s : ByteArray) (k : Nat) (d : UInt8) (hb : Tok.byte s k = d) (h1 : Tok.isLetter d = false) (h2 : Tok.isDigit d = false) (h3 : d ≠ 34) (h4 : Tok.isSign d = true) : (Tok.next s k).2.2 = true := by
 unfold Tok.next
 rw [hb]
 simp only [h1, h2, h3, Bool.false_eq_true, if_false]
 split
 · rfl
 · exact h4
theorem Ly.sign (d : UInt8) (h1 : Tok.isLetter d = false := by decide) (h2 : Tok.isDigit d = false := by decide) (h3 : d ≠ 34 := by decide) (h4 : d ≠ 61 := by decide) (h5 : d ≠ 32 ∧ d ≠ 10 := by decide) (h6 : Tok.isSign d = true := by decide) : Ly false [d] [(5, [d])] :=
 Ly.one h5 fun s k _ _ _ hk hb => ⟨(next_sign s k d hk hb h1 h2 h3 h4).1, (next_sign s k d hk hb h1 h2 h3 h4).2, next_okS s k d hb h1 h2 h3 h6⟩
theorem ly_two (e : UInt8) (he : e = 61 ∨ e = 62) : Ly false [61, e] [(5, [61, e])] := Ly.one (by decide) fun s k rest hd _ hk hb => by
 have h2 := drop_lt (drop_add (a := [61]) (b := e :: rest) hd)
 have e2 : Tok.byte s (k + 1) = e := h2.2
 have ht : Tok.two s k = true := by
   unfold Tok.two; rw [hb, e2]
   have := h2.1
   simp only [List.length_cons, List.length_nil] at this
   rw [decide_eq_true (by omega)]
   rcases he with rfl | rfl <;> rfl
 have hx := Tok.extract_two s k h2.1
 unfold Tok.next
 rw [hb]
 simp only [show Tok.isLetter 61 = false by decide, show Tok.isDigit 61 = false by decide, show ¬ (61 : UInt8) = 34 by decide, ht, Bool.false_eq_true, if_false, if_true]
 refine ⟨?_, rfl, trivial⟩
 rw [kt, hx, hb, e2]
theorem Ly.arrow : Ly false [61, 62] [(5, [61, 62])] := ly_two 62 (.inr rfl)
theorem Ly.same : Ly false [61, 61] [(5, [61, 61])] := ly_two 61 (.inl rfl)
theorem Ly.set : Ly false [61, 32] [(5, [61])] := by
 have h1 : ∀ (s : ByteArray) (k : Nat) (o : List Tk) (f : Nat) (rest : List UInt8), s.data.toList.drop k = [61, 32] ++ rest → s.size < k + f → k ≤ s.size → o.length + 1 ≤ 1000 →
     ∃ f' o', o'.map kt = o.map kt ++ [(5, [61])] ∧ s.size < k + 1 + f' ∧ k + 1 ≤ s.size ∧ Tok.scanFrom s f k o = Tok.scanFrom s f' (k + 1) o' := fun s k o f rest hd hf hk hn => by
   obtain ⟨h1, h2⟩ := drop_lt (d := 61) (r := 32 :: rest) hd
   have h3 := drop_lt (drop_add (a := [61]) (b := 32 :: rest) hd)
   have e2 : Tok.byte s (k + 1) = 32 := h3.2
   obtain ⟨f, rfl⟩ : ∃ g, f = g + 1 := ⟨f - 1, by omega⟩
   have ht : Tok.two s k = false := by
     unfold Tok.two; rw [h2, e2]; simp
   have hz := h3.1
   simp only [List.length_cons, List.length_nil] at hz
   have hx : kt ⟨5, s.extract k (k + 1), k⟩ = (5, [61]) := by
     have hd' := Tok.drop_cons s k h1
     have hb := h2
     rw [Tok.byte_eq s k h1] at hb
     simp only [kt, ByteArray.data_extract, Array.toList_extract, List.extract_eq_take_drop, hd', hb]
     simp
   have hn1 : Tok.next s k = (⟨5, s.extract k (k + 1), k⟩, 1, Tok.isSign 61) := by
     unfold Tok.next
     rw [h2]
     simp only [show Tok.isLetter 61 = false by decide, show Tok.isDigit 61 = false by decide, show ¬ (61 : UInt8) = 34 by decide, ht, Bool.false_eq_true, if_false]
   refine ⟨f, o ++ [(Tok.next s k).1], by rw [hn1, List.map_append, List.map_cons, hx]; rfl, by omega, by omega, ?_⟩
   rw [Tok.scanFrom, if_pos h1, if_neg (by rw [h2]; decide), if_neg (by rw [hn1]; simp [show Tok.isSign 61 = true by decide]), if_neg (by omega), hn1]
 intro s k o f rest hd hc hf hk hn
 obtain ⟨f1, o1, a1, a2, a3, a4⟩ := h1 s k o f rest hd hf hk (by simpa using hn)
 obtain ⟨f2, o2, b1, b2, b3, b4⟩ := Ly.blank s (k + 1) o1 f1 rest (drop_add (a := [61]) hd) (fun e => by cases e) a2 a3 (by
   have := congrArg List.length a1
   simp only [List.length_append, List.length_map, List.length_cons, List.length_nil] at this hn ⊢
   omega)
 refine ⟨f2, o2, by rw [b1, a1]; simp, ?_, ?_, ?_⟩
 · simp only [List.length_cons, List.length_nil] at b2 ⊢; omega
 · simp only [List.length_cons, List.length_nil] at b3 ⊢; omega
 · rw [a4, b4]; rfl
theorem Ly.name (d : UInt8) (cs : List UInt8) (h1 : Tok.isLetter d = true) (h2 : ∀ c ∈ cs, Tok.isPart c = true) (hz : cs.length ≤ 19) (kd : Nat) (hkd : kd = if d :: cs ∈ Tok.wordsL then 2 else 1) : Ly true (d :: cs) [(kd, d :: cs)] := by
 refine Ly.one ?_ fun s k rest hd hc hk hb => ?_
 · constructor <;> (rintro rfl; revert h1; decide)
 have hst : (s.data.toList.drop k).takeWhile Tok.isPart = d :: cs := by
   rw [hd]
   refine takeWhile_exact _ _ (fun c hc => ?_) (hc rfl)
   rcases List.mem_cons.1 hc with rfl | hc
   · simp [Tok.isPart, h1]
   · exact h2 c hc
 have hx := extract_stop Tok.isPart s k (by omega)
 rw [hst] at hx
 have hlen : Tok.stop Tok.isPart s k - k = cs.length + 1 := by unfold Tok.stop; rw [hst]; simp
 unfold Tok.next
 rw [hb]
 simp only [h1, if_true]
 refine ⟨?_, hlen, decide_eq_true (by omega)⟩
 have hw : Tok.isWord (s.extract k (Tok.stop Tok.isPart s k)) = decide (d :: cs ∈ Tok.wordsL) := by unfold Tok.isWord; rw [hx]
 simp only [kt, hx, hw, hkd, decide_eq_true_eq]
theorem Ly.nameOk {x : ByteArray} (h : NameOk x) : Ly true x.data.toList [(1, x.data.toList)] := by
 obtain ⟨c, l, e, h1, h2⟩ := h.head
 have hw := h.word
 unfold Tok.isWord at hw
 have hz : x.data.toList.length ≤ 20 := h.size
 rw [e] at hw hz ⊢
 exact Ly.name c l h1 h2 (by simpa using hz) 1 (by rw [if_neg (by simpa using hw)])
theorem Ly.word (d : UInt8) (cs : List UInt8) (h : d :: cs ∈ Tok.wordsL) (h1 : Tok.isLetter d = true := by decide) (h2 : ∀ c ∈ cs, Tok.isPart c = true := by decide) (hz : cs.length ≤ 19 := by decide) : Ly true (d :: cs) [(2, d :: cs)] :=
 Ly.name d cs h1 h2 hz 2 (by rw [if_pos h])
theorem Ly.num (d : UInt8) (cs : List UInt8) (h : ∀ c ∈ d :: cs, Tok.isDigit c = true) (hz : cs.length ≤ 8) (h0 : cs = [] ∨ d ≠ 48) : Ly true (d :: cs) [(3, d :: cs)] := by
 have hd0 := h d (by simp)
 refine Ly.one ?_ fun s k rest hd hc hk hb => ?_
 · constructor <;> (rintro rfl; revert hd0; decide)
 have hst : (s.data.toList.drop k).takeWhile Tok.isDigit = d :: cs := by
   rw [hd]
   refine takeWhile_exact _ _ h fun e r he => ?_
   have := hc rfl e r he
   unfold Tok.isPart at this
   simp only [Bool.or_eq_false_iff] at this
   exact this.2
 have hx := extract_stop Tok.isDigit s k (by omega)
 rw [hst] at hx
 have hlen : Tok.stop Tok.isDigit s k - k = cs.length + 1 := by unfold Tok.stop; rw [hst]; simp
 have hl : Tok.isLetter d = false := by
   unfold Tok.isDigit at hd0
   unfold Tok.isLetter
   simp only [Bool.and_eq_true, decide_eq_true_eq] at hd0
   simp only [Bool.or_eq_false_iff, Bool.and_eq_false_iff, decide_eq_false_iff_not]
   omega
 unfold Tok.next
 rw [hb]
 simp only [hl, hd0, Bool.false_eq_true, if_false, if_true]
 refine ⟨by rw [kt, hx], hlen, ?_⟩
 rw [Bool.and_eq_true, Bool.or_eq_true]
 refine ⟨decide_eq_true (by omega), ?_⟩
 rcases h0 with rfl | h0
 · left; exact decide_eq_true (by simpa using hlen)
 · right; simp [h0]
theorem Ly.lit {x : ByteArray} (h : LitOk x) : Ly false ([34] ++ x.data.toList ++ [34]) [(4, x.data.toList)] := by
 have hz : x.data.toList.length ≤ 30 := h.size
 refine Ly.one (d := 34) (cs := x.data.toList ++ [34]) (by decide) fun s k rest hd _ hk hb => ?_
 have hd1 : s.data.toList.drop (k + 1) = x.data.toList ++ (34 :: rest) := by
   have := drop_add (a := [34]) (b := x.data.toList ++ (34 :: rest)) (s := s) (k := k) (by rw [hd]; simp)
   exact this
 have hst : (s.data.toList.drop (k + 1)).takeWhile Tok.isPlain = x.data.toList := by
   rw [hd1]
   refine takeWhile_exact _ _ h.plain fun e r he => ?_
   cases he; decide
 have hstop : Tok.stop Tok.isPlain s (k + 1) = k + 1 + x.data.toList.length := by unfold Tok.stop; rw [hst]
 have hend := drop_lt (drop_add hd1)
 have hx := extract_stop Tok.isPlain s (k + 1) (by omega)
 rw [hst] at hx
 unfold Tok.next
 rw [hb]
 simp only [show Tok.isLetter 34 = false by decide, show Tok.isDigit 34 = false by decide, Bool.false_eq_true, if_false, if_true]
 refine ⟨by rw [kt, hx], ?_, ?_⟩
 · rw [hstop]; simp only [lzA, lzC, lzN]; omega
 · rw [hstop, hend.2, decide_eq_true (by omega), decide_eq_true hend.1]; rfl
theorem ly_fields : ∀ (ns : List ByteArray) (l : List Tr), (∀ t ∈ l, Ly true (text t) (lexT t)) → (∀ n ∈ ns, NameOk n) → Ly false (fieldsS ns (texts l)) (lexF ns (lexs l))
 | [], l, _, _ => by simpa [fieldsS, lexF] using Ly.nil
 | n :: ns, [], _, _ => by simpa [texts, lexs, fieldsS, lexF] using Ly.nil
 | n :: ns, t :: l, h, hn => by
   have h1 := ly_fields ns l (fun u hu => h u (by simp [hu])) (fun m hm => hn m (by simp [hm]))
   have h2 := Ly.blank.comp ((Ly.nameOk (hn n (by simp))).comp ((Ly.sign 58).comp (Ly.blank.comp ((h t (by simp)).comp ((Ly.sign 59).comp h1) fun _ => ⟨59, _, rfl, by decide⟩))) fun _ => ⟨58, _, rfl, by decide⟩)
   rw [texts, lexs, fieldsS, lexF, fieldS]
   simpa using h2
theorem ly_join {sep : List UInt8} {lsep : List Lm} (hs : Ly false sep lsep) (hd : ∃ d r, sep = d :: r ∧ Tok.isPart d = false) : ∀ ps : List (List UInt8 × List Lm), (∀ p ∈ ps, Ly true p.1 p.2) → Ly true (joinL sep (ps.map Prod.fst)) (joinG lsep (ps.map Prod.snd))
 | [], _ => Ly.nil.weak
 | [p], h => by simpa [joinL, joinG, tailG] using h p (by simp)
 | p :: q :: ps, h => by
   have h1 := ly_join hs hd (q :: ps) fun x hx => h x (by simp [hx])
   have h2 := (h p (by simp)).comp (hs.comp h1) fun _ => by obtain ⟨d, r, rfl, hp⟩ := hd; exact ⟨d, _, rfl, hp⟩
   simp only [List.map_cons, joinL, joinG, tailG, List.append_assoc] at h2 ⊢
   exact h2
theorem ly_joinM {α : Type} (f : α → List UInt8) (g : α → List Lm) (l : List α) (h : ∀ a ∈ l, Ly true (f a) (g a)) : Ly true (joinL [44, 32] (l.map f)) (joinG [(5, [44])] (l.map g)) := by
 have hj := ly_join (sep := [44, 32]) (lsep := [(5, [44])]) ((Ly.sign 44).comp Ly.blank) ⟨44, _, rfl, by decide⟩ (l.map fun t => (f t, g t)) (fun p hp => by
   obtain ⟨t, ht, rfl⟩ := List.mem_map.1 hp
   exact h t ht)
 rw [List.map_map, List.map_map] at hj
 exact hj
mutual
theorem ly_text : ∀ t : Tr, okT t → nmT t → Ly true (text t) (lexT t)
 | .mk k names parts list of, ho, hn => by
   rw [okT] at ho
   rw [nmT] at hn
   obtain ⟨hk, hnl, h8, _, _, _, _, op, ol, oo⟩ := ho
   have ip := ly_texts parts op hn.2.2.1
   have il := ly_texts list ol hn.2.2.2.1
   have io := ly_texts of oo hn.2.2.2.2
   rw [text, lexT]
   split
   · have h1 := (Ly.sign 123).comp ((ly_fields names parts ip hn.1).comp ((show Ly false (if parts.length > 0 then [32] else []) [] from by split; exact Ly.blank; exact Ly.nil).comp (Ly.sign 125)))
     simpa using h1.weak
   · split
     · rename_i h8'
       have h1 := h8 (.inl h8')
       match of, h1 with
       | [o], _ =>
         have h1 := (Ly.sign 91).comp ((io o (by simp)).comp (Ly.sign 93) fun _ => ⟨93, _, rfl, by decide⟩)
         simpa [texts, lexs] using h1.weak
     · split
       · rename_i h9'
         have h1 := h8 (.inr h9')
         match of, h1 with
         | [o], _ =>
           have hj := ly_joinM text lexT list il
           rw [← texts_map, ← lexs_map] at hj
           have h1 := (Ly.sign 40).comp (hj.comp ((Ly.sign 41).comp (Ly.blank.comp (Ly.arrow.comp (Ly.blank.comp (io o (by simp)))))) fun _ => ⟨41, _, rfl, by decide⟩)
           simpa [texts, lexs] using h1
       · split
         · have hj := ly_join (sep := [32, 124, 32]) (lsep := [(5, [124])]) (Ly.blank.comp ((Ly.sign 124).comp Ly.blank)) ⟨32, _, rfl, by decide⟩ ((List.range list.length).map fun i => (brk list.length i ((list.map kindOf).getD i 0) ((texts list).getD i []), brkG list.length i ((list.map kindOf).getD i 0) ((lexs list).getD i []))) (fun p hp => by
             obtain ⟨i, hi, rfl⟩ := List.mem_map.1 hp
             have hi2 : i < list.length := by simpa using hi
             have e1 : (texts list).getD i [] = text list[i] := by rw [texts_map]; exact getD_map _ _ _ _ hi2
             have e2 : (lexs list).getD i [] = lexT list[i] := by rw [lexs_map]; exact getD_map _ _ _ _ hi2
             have h1 := il list[i] (List.getElem_mem _)
             dsimp only
             rw [e1, e2]
             unfold brk brkG
             split
             · have h2 := (Ly.sign 40).comp (h1.comp (Ly.sign 41) fun _ => ⟨41, _, rfl, by decide⟩)
               simpa using h2.weak
             · exact h1)
           rw [List.map_map, List.map_map] at hj
           have el : (texts list).length = list.length := by rw [texts_map]; simp
           unfold brks
           rw [el]
           exact hj
         · have : k = 1 ∨ k = 2 ∨ k = 3 ∨ k = 4 ∨ k = 5 ∨ k = 6 := by omega
           rcases this with rfl | rfl | rfl | rfl | rfl | rfl <;> exact Ly.name _ _ (by decide) (by decide) (by decide) 2 (by decide)
theorem ly_texts : ∀ l : List Tr, okL l → nmL l → ∀ t ∈ l, Ly true (text t) (lexT t)
 | [], _, _, t, h => by simp at h
 | u :: l, ho, hn, t, h => by
   rw [okL] at ho
   rw [nmL] at hn
   rcases List.mem_cons.1 h with e | h
   · rw [e]; exact ly_text u ho.1 hn.1
   · exact ly_texts l ho.2 hn.2 t h
end
theorem scan_ly {cs : List UInt8} {ls : List Lm} (h : Ly true cs ls) (hn : ls.length ≤ 1000) (hz : cs.length ≤ 4000) : ∃ toks, Tok.scan ⟨cs.toArray⟩ = .ok toks ∧ toks.map kt = ls ++ [(6, [])] := by
 have hz2 : (⟨cs.toArray⟩ : ByteArray).size = cs.length := by show cs.toArray.size = _; simp
 unfold Tok.scan
 rw [if_neg (by omega)]
 obtain ⟨f, o, h1, h2, h3, h4⟩ := h ⟨cs.toArray⟩ 0 [] _ [] (by simp) (fun _ d r e => by cases e) (Nat.lt_of_lt_of_le (Nat.lt_succ_self _) (Nat.le_add_left _ _)) (by omega) (by simpa using hn)
 rw [h4]
 obtain ⟨f, rfl⟩ : ∃ g, f = g + 1 := ⟨f - 1, by omega⟩
 rw [Tok.scanFrom, if_neg (by omega)]
 exact ⟨_, rfl, by rw [List.map_append, h1]; rfl⟩
end Ty
end
section
namespace Ty
open Tok (Tk)
theorem Ly.then {c : Bool} {a b : List UInt8} {la lb : List Lm} (h : Ly true a la) (g : Ly c b lb) (hd : ∃ d r, b = d :: r ∧ Tok.isPart d = false := by exact ⟨_, _, rfl, by decide⟩) : Ly c (a ++ b) (la ++ lb) := h.comp g fun _ => hd
theorem Ly.any {c : Bool} {cs : List UInt8} {ls : List Lm} (h : Ly c cs ls) : Ly true cs ls := by cases c; exact h.weak; exact h
theorem Ly.blanks : ∀ n, Ly false (Ty.blanks n) []
 | 0 => Ly.nil
 | n + 1 => (Ly.blank.comp Ly.blank).comp (Ly.blanks n)
theorem ly_par (b : Bool) {w : List UInt8} {l : List Lm} (h : Ly true w l) : Ly true (par b w) (parL b l) := by
 unfold par parL
 split
 · have h1 := (Ly.sign 40).comp (h.then (Ly.sign 41))
   simpa using h1.weak
 · exact h
theorem decDigits_dig : ∀ (u : Nat), ∀ d ∈ Lib.decDigits u, Tok.isDigit d = true := by
 intro u
 induction u using Nat.strongRecOn with
 | ind u ih =>
   rw [Lib.decDigits]
   have hd : ∀ k, k < 10 → Tok.isDigit (UInt8.ofNat (48 + k)) = true := by
     intro k hk
     have : (UInt8.ofNat (48 + k)).toNat = 48 + k := by rw [UInt8.toNat_ofNat']; omega
     unfold Tok.isDigit
     rw [this, Bool.and_eq_true]
     exact ⟨decide_eq_true (by omega), decide_eq_true (by omega)⟩
   split
   · rename_i h
     intro d h1
     rw [List.mem_singleton] at h1
     rw [h1]; exact hd u h
   · rename_i h
     intro d h1
     rcases List.mem_append.1 h1 with h1 | h1
     · exact ih (u / 10) (by omega) d h1
     · rw [List.mem_singleton] at h1
       rw [h1]; exact hd _ (by omega)
theorem decDigits_shape : ∀ (u k : Nat), u < 10 ^ (k + 1) → ∃ d l, Lib.decDigits u = d :: l ∧ l.length ≤ k ∧ (l = [] ∨ d ≠ 48) := by
 intro u
 induction u using Nat.strongRecOn with
 | ind u ih =>
   intro k hk
   rw [Lib.decDigits]
   split
   · exact ⟨_, _, rfl, by simp, .inl rfl⟩
   · rename_i h
     obtain ⟨k, rfl⟩ : ∃ j, k = j + 1 := ⟨k - 1, by
       rcases Nat.eq_zero_or_pos k with rfl | h0
       · rw [show 10 ^ (0 + 1) = 10 from rfl] at hk; omega
       · omega⟩
     rw [Nat.pow_succ] at hk
     obtain ⟨d, l, e, h1, h2⟩ := ih (u / 10) (by omega) k (by omega)
     rw [e]
     refine ⟨d, l ++ [_], rfl, by simp; omega, .inr ?_⟩
     rcases h2 with rfl | h2
     · -- one digit, not a nought
       rw [Lib.decDigits] at e
       split at e
       · rename_i h10
         cases e
         intro e0
         have : (UInt8.ofNat (48 + u / 10)).toNat = 48 + u / 10 := by rw [UInt8.toNat_ofNat']; omega
         rw [e0] at this
         have h48 : (48 : UInt8).toNat = 48 := rfl
         omega
       · have := congrArg List.length e
         simp at this
         rw [Lib.decDigits_eq] at this
         have h0 : Lib.decDigits (u / 10 / 10) ≠ [] := by
           rw [Lib.decDigits]; split <;> simp
         rw [← Lib.decDigits_eq] at this
         exact absurd (List.length_eq_zero_iff.1 (by simpa using this)) h0
     · exact h2
theorem ly_num {n : Nat} (h : n < 1000000000) : Ly true (Lib.itoa n) [(3, Lib.itoa n)] := by
 rw [Lib.itoa_nonneg]
 obtain ⟨d, l, e, h1, h2⟩ := decDigits_shape n 8 (by simpa using h)
 have := decDigits_dig n
 rw [e] at this ⊢
 exact Ly.num d l this (by omega) h2
theorem wEs_ln (ts : List Ty) (ind : Nat) : ∀ l, (wEs ts ind l).length = l.length
 | [] => by rw [wEs]; rfl
 | e :: l => by rw [wEs, List.length_cons, wEs_ln ts ind l, List.length_cons]
theorem lexEs_ln (ts : List Ty) : ∀ l, (lexEs ts l).length = l.length
 | [] => by rw [lexEs]; rfl
 | e :: l => by rw [lexEs, List.length_cons, lexEs_ln ts l, List.length_cons]
theorem wOs_ln (ts : List Ty) (ind : Nat) : ∀ l, (wOs ts ind l).length = l.length
 | [] => by rw [wOs]; rfl
 | (p, x, e) :: l => by rw [wOs, List.length_cons, wOs_ln ts ind l, List.length_cons]
theorem lexOs_ln (ts : List Ty) : ∀ l, (lexOs ts l).length = l.length
 | [] => by rw [lexOs]; rfl
 | (p, x, e) :: l => by rw [lexOs, List.length_cons, lexOs_ln ts l, List.length_cons]
section
variable {ts : List Ty} {ns : List Nd}
theorem ly_ty (hw : Wf ts) (hm : Nm ts) {t : Nat} (h : TyIn t ts) : Ly true (text (den ts t)) (lexT (den ts t)) :=
 ly_text _ (tyIn_text hw hm h).1 (den_nm hw hm _ t (Nat.lt_succ_self _) h.lt)
theorem ly_col (hw : Wf ts) (hm : Nm ts) {ty : Int} (h : TyZ ty ts) : Ly true (colS ts ty) (lexCol ts ty) ∧ (colS ts ty = [] ∧ lexCol ts ty = [] ∨ ∃ r, colS ts ty = 58 :: r) := by
 rcases h with rfl | ⟨n, rfl, h⟩
 · exact ⟨Ly.nil.weak, .inl ⟨rfl, rfl⟩⟩
 · unfold colS lexCol
   rw [if_neg (by omega), if_neg (by omega)]
   have h1 := (Ly.sign 58).comp (Ly.blank.comp (ly_ty hw hm h))
   exact ⟨h1, .inr ⟨_, rfl⟩⟩
theorem ly_named (hw : Wf ts) (hm : Nm ts) {x : ByteArray} (hx : NameOk x) {ty : Int} (h : TyZ ty ts) : Ly true (x.data.toList ++ colS ts ty) ((1, x.data.toList) :: lexCol ts ty) := by
 obtain ⟨h1, h2⟩ := ly_col hw hm h
 rcases h2 with ⟨h2, h3⟩ | ⟨r, h2⟩
 · rw [h2, h3, List.append_nil]; exact Ly.nameOk hx
 · rw [h2] at h1 ⊢
   exact (Ly.nameOk hx).then h1 ⟨_, _, rfl, by decide⟩
theorem nd_ok (hN : ∀ nd ∈ ns, NdOk nd ts) {n : Nat} {nd : Nd} (h : ns[n]? = some nd) : NdOk nd ts := hN nd (List.mem_of_getElem? h)
theorem ly_params (hw : Wf ts) (hm : Nm ts) (hN : ∀ nd ∈ ns, NdOk nd ts) : ∀ (ps : List Par) (l : List Nat), DenPs ns ps l → ∀ q ∈ ps, Ly true (parS ts q) (lexPar ts q)
 | [], _, _, q, h => by simp at h
 | p :: ps, _, ⟨n, t, _, h1, h2⟩, q, h => by
   rcases List.mem_cons.1 h with rfl | h
   · have h4 := nd_ok hN h1
     exact ly_named hw hm (h4.name (.inr (.inr ⟨by show 15 ≤ 16; omega, by show 16 ≤ 19; omega⟩))) h4.ty
   · exact ly_params hw hm hN ps t h2 q h
theorem ly_sign2 {x : ByteArray} (h : x.data.toList ∈ signsTwo) : Ly false x.data.toList [(5, x.data.toList)] := by
 unfold signsTwo at h
 simp only [List.mem_cons, List.not_mem_nil, or_false] at h
 rcases h with h | h | h | h | h <;> rw [h]
 · exact Ly.same
 · exact Ly.sign 60
 · exact Ly.sign 43
 · exact Ly.sign 45
 · exact Ly.sign 42
theorem ly_sign1 {x : ByteArray} (h : x.data.toList ∈ prefixes) {w : List UInt8} {l : List Lm} (hw : Ly true w l) : Ly true (x.data.toList ++ (if x.data.toList = typeofS then [32] else []) ++ w) ((if x.data.toList = typeofS then 2 else 5, x.data.toList) :: l) := by
 unfold prefixes at h
 simp only [List.mem_cons, List.not_mem_nil, or_false] at h
 rcases h with h | h | h <;> rw [h]
 · exact (Ly.sign 33).comp hw
 · exact (Ly.sign 45).comp hw
 · exact (Ly.word 116 [121, 112, 101, 111, 102] (by decide)).then (Ly.blank.comp hw)
def okN (ns : List Nd) (ts : List Ty) : Prop := Wf ts ∧ Nm ts ∧ ∀ nd ∈ ns, NdOk nd ts
theorem ly_block {ind : Nat} {w : List UInt8} {l : List Lm} (h : Ly false w l) : Ly false ([123, 10] ++ w ++ blanks ind ++ [125]) ((5, [123]) :: (l ++ [(5, [125])])) := by
 have h1 := (Ly.sign 123).comp (Ly.feed.comp (h.comp ((Ly.blanks ind).comp (Ly.sign 125))))
 simpa only [List.append_assoc, List.cons_append, List.nil_append] using h1
mutual
theorem wE_ly (hN : okN ns ts) : ∀ (e : Ex) (n ind : Nat), DenE ns e n → Ly true (wE ts ind e) (lexE ts e)
 | .num _ k, _, _, h => by
   rw [DenE] at h
   obtain ⟨x, h1, h2⟩ := (nd_ok hN.2.2 h).num rfl
   rw [wE, lexE]
   exact ly_num (by have := value_lt h1; dsimp only at h2; omega)
 | .text _ x, _, _, h => by
   rw [DenE] at h
   rw [wE, lexE]
   exact (Ly.lit ((nd_ok hN.2.2 h).lit rfl)).weak
 | .bool _ k, _, _, h => by
   rw [wE, lexE]
   split
   · exact Ly.word _ _ (by decide)
   · exact Ly.word _ _ (by decide)
 | .null _, _, _, h => by rw [wE, lexE]; exact Ly.word _ _ (by decide)
 | .var _ x, _, _, h => by
   rw [DenE] at h
   rw [wE, lexE]
   exact Ly.nameOk ((nd_ok hN.2.2 h).name (.inl rfl))
 | .fn p ps ty bp body, n, ind, h => by
   rw [DenE] at h
   obtain ⟨ids, b, h1, h2, h3⟩ := h
   rw [DenB] at h3
   obtain ⟨ids2, h3, h4⟩ := h3
   have a2 := ly_joinM (parS ts) (lexPar ts) ps (ly_params hN.1 hN.2.1 hN.2.2 ps ids h2)
   have a3 := ly_block (ind := ind) (wSs_ly hN body ids2 (ind + 1) h4)
   obtain ⟨a4, a5⟩ := ly_col hN.1 hN.2.1 (nd_ok hN.2.2 h1).ty
   dsimp only at a4 a5
   have a6 : Ly false (colS ts ty ++ ([32] ++ ([123, 10] ++ wSs ts (ind + 1) body ++ blanks ind ++ [125]))) (lexCol ts ty ++ ((5, [123]) :: (lexSs ts body ++ [(5, [125])]))) := by exact a4.then (Ly.blank.comp a3)
   have a7 := (Ly.word 102 [110] (by decide)).then ((Ly.sign 40).comp (a2.then ((Ly.sign 41).comp a6)))
   rw [wE, lexE]
   simpa only [List.append_assoc, List.cons_append, List.nil_append] using a7.weak
 | .call p a l, n, ind, h => by
   rw [DenE] at h
   obtain ⟨na, nl, h1, h2, h3⟩ := h
   have a1 := ly_par (decide (lvl a < 4)) (wE_ly hN a na ind h2)
   have a2 := wEs_ly hN l nl ind h3
   have a7 := a1.then ((Ly.sign 40).comp (a2.then (Ly.sign 41)))
   rw [wE, lexE]
   simpa only [List.append_assoc, List.cons_append, List.nil_append] using a7.weak
 | .get p a x, n, ind, h => by
   rw [DenE] at h
   obtain ⟨na, h1, h2⟩ := h
   have a1 := ly_par (decide (lvl a < 4)) (wE_ly hN a na ind h2)
   have a7 := a1.then ((Ly.sign 46).comp (Ly.nameOk ((nd_ok hN.2.2 h1).name (.inr (.inl rfl)))))
   rw [wE, lexE]
   simpa only [List.append_assoc, List.cons_append, List.nil_append] using a7
 | .at p a b, n, ind, h => by
   rw [DenE] at h
   obtain ⟨na, nb, h1, h2, h3⟩ := h
   have a1 := ly_par (decide (lvl a < 4)) (wE_ly hN a na ind h2)
   have a7 := a1.then ((Ly.sign 91).comp ((wE_ly hN b nb ind h3).then (Ly.sign 93)))
   rw [wE, lexE]
   simpa only [List.append_assoc, List.cons_append, List.nil_append] using a7.weak
 | .obj p l, n, ind, h => by
   rw [DenE] at h
   obtain ⟨nl, h1, h2⟩ := h
   rw [wE, lexE]
   split
   · rename_i h0
     obtain rfl := List.length_eq_zero_iff.1 h0
     exact ((Ly.sign 123).comp (Ly.sign 125)).weak
   · have a2 := wOs_ly hN l nl ind h2
     have a7 := (Ly.sign 123).comp (Ly.blank.comp (a2.then (Ly.blank.comp (Ly.sign 125))))
     simpa only [List.append_assoc, List.cons_append, List.nil_append] using a7.weak
 | .arr p l, n, ind, h => by
   rw [DenE] at h
   obtain ⟨nl, h1, h2⟩ := h
   have a2 := wEs_ly hN l nl ind h2
   have a7 := (Ly.sign 91).comp (a2.then (Ly.sign 93))
   rw [wE, lexE]
   simpa only [List.append_assoc, List.cons_append, List.nil_append] using a7.weak
 | .two p x a b, n, ind, h => by
   rw [DenE] at h
   obtain ⟨na, nb, h1, h2, h3⟩ := h
   have a1 := ly_par (decide (lvl a < max (signLv x) 1)) (wE_ly hN a na ind h2)
   have a2 := ly_par (decide (lvl b < signLv x + 1)) (wE_ly hN b nb ind h3)
   have a7 := a1.then (Ly.blank.comp ((ly_sign2 ((nd_ok hN.2.2 h1).two rfl)).comp (Ly.blank.comp a2)))
   rw [wE, lexE]
   simpa only [List.append_assoc, List.cons_append, List.nil_append] using a7
 | .one p x a, n, ind, h => by
   rw [DenE] at h
   obtain ⟨na, h1, h2⟩ := h
   rw [wE, lexE]
   exact ly_sign1 ((nd_ok hN.2.2 h1).one rfl) (ly_par (decide (lvl a < 3)) (wE_ly hN a na ind h2))
 | .as p a ty, n, ind, h => by
   rw [DenE] at h
   obtain ⟨na, h1, h2⟩ := h
   have a1 := ly_par (decide (lvl a < 4)) (wE_ly hN a na ind h2)
   have a4 := nd_ok hN.2.2 h1
   have a5 : TyIn ty.toNat ts := by
     have h0 := a4.asTy rfl
     rcases a4.ty with h5 | ⟨m, h5, h6⟩
     · dsimp only at h0 h5; omega
     · dsimp only at h5; rw [h5]; exact h6
   have a7 := a1.then (Ly.blank.comp ((Ly.word 97 [115] (by decide)).then (Ly.blank.comp (ly_ty hN.1 hN.2.1 a5))))
   rw [wE, lexE]
   simpa only [List.append_assoc, List.cons_append, List.nil_append] using a7
theorem wEs_ly (hN : okN ns ts) : ∀ (l : List Ex) (nl : List Nat) (ind : Nat), DenEs ns l nl → Ly true (joinL [44, 32] (wEs ts ind l)) (joinG [(5, [44])] (lexEs ts l)) := by
 intro l nl ind h
 have hj := ly_join (sep := [44, 32]) (lsep := [(5, [44])]) ((Ly.sign 44).comp Ly.blank) ⟨44, _, rfl, by decide⟩ ((wEs ts ind l).zip (lexEs ts l)) (wEs_each hN l nl ind h)
 rw [List.map_fst_zip (by rw [wEs_ln, lexEs_ln]; exact Nat.le_refl _), List.map_snd_zip (by rw [wEs_ln, lexEs_ln]; exact Nat.le_refl _)] at hj
 exact hj
theorem wEs_each (hN : okN ns ts) : ∀ (l : List Ex) (nl : List Nat) (ind : Nat), DenEs ns l nl → ∀ p ∈ (wEs ts ind l).zip (lexEs ts l), Ly true p.1 p.2
 | [], _, _, _, p, hp => by simp [wEs] at hp
 | e :: l, _, ind, h, p, hp => by
   rw [DenEs] at h
   obtain ⟨n, t, _, h1, h2⟩ := h
   rw [wEs, lexEs, List.zip_cons_cons] at hp
   rcases List.mem_cons.1 hp with rfl | hp
   · exact wE_ly hN e n ind h1
   · exact wEs_each hN l t ind h2 p hp
theorem wOs_ly (hN : okN ns ts) : ∀ (l : List (Nat × ByteArray × Ex)) (nl : List Nat) (ind : Nat), DenOs ns l nl → Ly true (joinL [44, 32] (wOs ts ind l)) (joinG [(5, [44])] (lexOs ts l)) := by
 intro l nl ind h
 have hj := ly_join (sep := [44, 32]) (lsep := [(5, [44])]) ((Ly.sign 44).comp Ly.blank) ⟨44, _, rfl, by decide⟩ ((wOs ts ind l).zip (lexOs ts l)) (wOs_each hN l nl ind h)
 rw [List.map_fst_zip (by rw [wOs_ln, lexOs_ln]; exact Nat.le_refl _), List.map_snd_zip (by rw [wOs_ln, lexOs_ln]; exact Nat.le_refl _)] at hj
 exact hj
theorem wOs_each (hN : okN ns ts) : ∀ (l : List (Nat × ByteArray × Ex)) (nl : List Nat) (ind : Nat), DenOs ns l nl → ∀ p ∈ (wOs ts ind l).zip (lexOs ts l), Ly true p.1 p.2
 | [], _, _, _, p, hp => by simp [wOs] at hp
 | (q, x, e) :: l, _, ind, h, p, hp => by
   rw [DenOs] at h
   obtain ⟨n, a, t, _, h0, h1, h2⟩ := h
   rw [wOs, lexOs, List.zip_cons_cons] at hp
   rcases List.mem_cons.1 hp with rfl | hp
   · have a7 := (Ly.nameOk ((nd_ok hN.2.2 h0).name (.inr (.inr ⟨Nat.le_refl _, by show 15 ≤ 19; omega⟩)))).then ((Ly.sign 58).comp (Ly.blank.comp (wE_ly hN e a ind h1)))
     simpa only [List.append_assoc, List.cons_append, List.nil_append] using a7
   · exact wOs_each hN l t ind h2 p hp
theorem wSs_ly (hN : okN ns ts) : ∀ (l : List Sm) (nl : List Nat) (ind : Nat), DenSs ns l nl → Ly false (wSs ts ind l) (lexSs ts l)
 | [], _, _, _ => by rw [wSs, lexSs]; exact Ly.nil
 | e :: l, _, ind, h => by
   rw [DenSs] at h
   obtain ⟨n, t, _, h1, h2⟩ := h
   rw [wSs, lexSs]
   exact (wS_ly hN e n ind h1).comp (wSs_ly hN l t ind h2)
theorem wS_ly (hN : okN ns ts) : ∀ (e : Sm) (n ind : Nat), DenS ns e n → Ly false (wS ts ind e) (lexS ts e)
 | .let_ p x ty a, n, ind, h => by
   rw [DenS] at h
   obtain ⟨na, h1, h2⟩ := h
   have a1 := wE_ly hN a na ind h2
   have a3 := nd_ok hN.2.2 h1
   have a4 := ly_named hN.1 hN.2.1 (a3.name (.inr (.inr ⟨by show 15 ≤ 17; omega, by show 17 ≤ 19; omega⟩))) a3.ty
   dsimp only at a4
   have a7 := (Ly.blanks ind).comp ((Ly.word 108 [101, 116] (by decide)).then (Ly.blank.comp (a4.then (Ly.blank.comp (Ly.set.comp (a1.then ((Ly.sign 59).comp Ly.feed)))))))
   rw [wS, lexS]
   simpa only [List.append_assoc, List.cons_append, List.nil_append] using a7
 | .set p x a, n, ind, h => by
   rw [DenS] at h
   obtain ⟨na, h1, h2⟩ := h
   have a1 := wE_ly hN a na ind h2
   have a3 := nd_ok hN.2.2 h1
   have a4 := Ly.nameOk (a3.name (.inr (.inr ⟨by show 15 ≤ 18; omega, by show 18 ≤ 19; omega⟩)))
   have a7 := (Ly.blanks ind).comp (a4.then (Ly.blank.comp (Ly.set.comp (a1.then ((Ly.sign 59).comp Ly.feed)))))
   rw [wS, lexS]
   simpa only [List.append_assoc, List.cons_append, List.nil_append] using a7
 | .put p a x v, n, ind, h => by
   rw [DenS] at h
   obtain ⟨na, nb, h1, h2, h3⟩ := h
   have a1 := ly_par (decide (lvl a < 4)) (wE_ly hN a na ind h2)
   have a2 := wE_ly hN v nb ind h3
   have a3 := nd_ok hN.2.2 h1
   have a4 := Ly.nameOk (a3.name (.inr (.inr ⟨by show 15 ≤ 19; omega, Nat.le_refl _⟩)))
   have a7 := (Ly.blanks ind).comp (a1.then ((Ly.sign 46).comp (a4.then (Ly.blank.comp (Ly.set.comp (a2.then ((Ly.sign 59).comp Ly.feed)))))))
   rw [wS, lexS]
   simpa only [List.append_assoc, List.cons_append, List.nil_append] using a7
 | .lay p a b v, n, ind, h => by
   rw [DenS] at h
   obtain ⟨na, nb, nv, h1, h2, h3, h4⟩ := h
   have a1 := ly_par (decide (lvl a < 4)) (wE_ly hN a na ind h2)
   have a2 := wE_ly hN b nb ind h3
   have a3 := wE_ly hN v nv ind h4
   have a7 := (Ly.blanks ind).comp (a1.then ((Ly.sign 91).comp (a2.then ((Ly.sign 93).comp (Ly.blank.comp (Ly.set.comp (a3.then ((Ly.sign 59).comp Ly.feed))))))))
   rw [wS, lexS]
   simpa only [List.append_assoc, List.cons_append, List.nil_append] using a7
 | .print p a, n, ind, h => by
   rw [DenS] at h
   obtain ⟨na, h1, h2⟩ := h
   have a7 := (Ly.blanks ind).comp ((Ly.word 112 [114, 105, 110, 116] (by decide)).then (Ly.blank.comp ((wE_ly hN a na ind h2).then ((Ly.sign 59).comp Ly.feed))))
   rw [wS, lexS]
   simpa only [List.append_assoc, List.cons_append, List.nil_append] using a7
 | .ret p a, n, ind, h => by
   rw [DenS] at h
   obtain ⟨na, h1, h2⟩ := h
   have a7 := (Ly.blanks ind).comp ((Ly.word 114 [101, 116, 117, 114, 110] (by decide)).then (Ly.blank.comp ((wE_ly hN a na ind h2).then ((Ly.sign 59).comp Ly.feed))))
   rw [wS, lexS]
   simpa only [List.append_assoc, List.cons_append, List.nil_append] using a7
 | .do_ p a, n, ind, h => by
   rw [DenS] at h
   obtain ⟨na, h1, h2⟩ := h
   have a7 := (Ly.blanks ind).comp ((wE_ly hN a na ind h2).then ((Ly.sign 59).comp Ly.feed))
   rw [wS, lexS]
   simpa only [List.append_assoc, List.cons_append, List.nil_append] using a7
 | .if_ p a bp b none, n, ind, h => by
   rw [DenS] at h
   obtain ⟨na, nb, h1, h2, h3⟩ := h
   rw [DenB] at h3
   obtain ⟨ids, _, h4⟩ := h3
   have a3 := ly_block (ind := ind) (wSs_ly hN b ids (ind + 1) h4)
   have a7 := (Ly.blanks ind).comp ((Ly.word 105 [102] (by decide)).then (Ly.blank.comp ((Ly.sign 40).comp ((wE_ly hN a na ind h2).then ((Ly.sign 41).comp (Ly.blank.comp (a3.comp Ly.feed)))))))
   rw [wS, lexS]
   simpa only [List.append_assoc, List.cons_append, List.nil_append, List.append_nil] using a7
 | .if_ p a bp b (some (cp, c)), n, ind, h => by
   rw [DenS] at h
   obtain ⟨na, nb, nc, h1, h2, h3, h5⟩ := h
   rw [DenB] at h3 h5
   obtain ⟨ids, _, h4⟩ := h3
   obtain ⟨idc, _, h6⟩ := h5
   have a3 := ly_block (ind := ind) (wSs_ly hN b ids (ind + 1) h4)
   have a5 := ly_block (ind := ind) (wSs_ly hN c idc (ind + 1) h6)
   have a7 := (Ly.blanks ind).comp ((Ly.word 105 [102] (by decide)).then (Ly.blank.comp ((Ly.sign 40).comp ((wE_ly hN a na ind h2).then ((Ly.sign 41).comp (Ly.blank.comp (a3.comp (Ly.blank.comp ((Ly.word 101 [108, 115, 101] (by decide)).then (Ly.blank.comp (a5.comp Ly.feed)))))))))))
   rw [wS, lexS]
   simpa only [List.append_assoc, List.cons_append, List.nil_append, List.append_nil] using a7
 | .while_ p a bp b, n, ind, h => by
   rw [DenS] at h
   obtain ⟨na, nb, h1, h2, h3⟩ := h
   rw [DenB] at h3
   obtain ⟨ids, _, h4⟩ := h3
   have a3 := ly_block (ind := ind) (wSs_ly hN b ids (ind + 1) h4)
   have a7 := (Ly.blanks ind).comp ((Ly.word 119 [104, 105, 108, 101] (by decide)).then (Ly.blank.comp ((Ly.sign 40).comp ((wE_ly hN a na ind h2).then ((Ly.sign 41).comp (Ly.blank.comp (a3.comp Ly.feed)))))))
   rw [wS, lexS]
   simpa only [List.append_assoc, List.cons_append, List.nil_append, List.append_nil] using a7
end
end
end Ty
end
end Go.Proofs.YtdlbhiaceheffabGreatDoor
