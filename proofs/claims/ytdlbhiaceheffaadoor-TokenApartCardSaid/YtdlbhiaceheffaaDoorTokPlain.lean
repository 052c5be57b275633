/- Plain definitions and facts on bytes, texts and tokens: what the scanners compute. No program in sight. -/
namespace Go.Proofs.YtdlbhiaceheffaaDoor
namespace Tok
def isDigit (c : UInt8) : Bool := decide (48 ≤ c.toNat) && decide (c.toNat ≤ 57)
def isLetter (c : UInt8) : Bool := decide (97 ≤ c.toNat) && decide (c.toNat ≤ 122) || (decide (65 ≤ c.toNat) && decide (c.toNat ≤ 90)) || decide (c.toNat = 95)
def isPart (c : UInt8) : Bool := isLetter c || isDigit c
def isPlain (c : UInt8) : Bool := decide (32 ≤ c.toNat) && decide (c.toNat ≤ 126) && !decide (c.toNat = 34)

/-- The first place from k on whose byte is not of a kind, or the end. -/
def stop (p : UInt8 → Bool) (s : ByteArray) (k : Nat) : Nat := k + ((s.data.toList.drop k).takeWhile p).length

theorem drop_cons (s : ByteArray) (k : Nat) (h : k < s.size) : s.data.toList.drop k = s[k] :: s.data.toList.drop (k + 1) := by
  have h' : k < s.data.toList.length := by simpa using h
  rw [List.drop_eq_getElem_cons h']; rfl
theorem stop_step {p : UInt8 → Bool} {s : ByteArray} {k : Nat} (h : k < s.size) (hp : p s[k] = true) : stop p s (k + 1) = stop p s k := by
  unfold stop; rw [drop_cons s k h]; simp [hp]; omega
theorem stop_here {p : UInt8 → Bool} {s : ByteArray} {k : Nat} (h : k < s.size) (hp : p s[k] = false) : stop p s k = k := by
  unfold stop; rw [drop_cons s k h]; simp [hp]
theorem stop_end {p : UInt8 → Bool} {s : ByteArray} {k : Nat} (h : s.size ≤ k) : stop p s k = k := by
  unfold stop; rw [List.drop_eq_nil_of_le (by simpa using h)]; simp
theorem stop_ge (p : UInt8 → Bool) (s : ByteArray) (k : Nat) : k ≤ stop p s k := by unfold stop; omega
theorem stop_le (p : UInt8 → Bool) (s : ByteArray) (k : Nat) (h : k ≤ s.size) : stop p s k ≤ s.size := by
  unfold stop
  have h1 : ((s.data.toList.drop k).takeWhile p).length ≤ (s.data.toList.drop k).length := (List.takeWhile_sublist p).length_le
  have h2 : (s.data.toList.drop k).length = s.size - k := by simp
  omega

/-- The words of the language. -/
def wordsL : List (List UInt8) :=
  [[108, 101, 116], [102, 110], [105, 102], [101, 108, 115, 101], [119, 104, 105, 108, 101], [114, 101, 116, 117, 114, 110], [112, 114, 105, 110, 116], [116, 114, 117, 101], [102, 97, 108, 115, 101], [110, 117, 108, 108], [97, 115], [116, 121, 112, 101, 111, 102], [110, 117, 109], [98, 111, 111, 108], [116, 101, 120, 116], [97, 110, 121], [117, 110, 107, 110, 111, 119, 110]]
def words : List ByteArray := wordsL.map fun l => ⟨l.toArray⟩
def isWord (x : ByteArray) : Bool := decide (x.data.toList ∈ wordsL)
theorem isWord_iff (x : ByteArray) : isWord x = true ↔ x ∈ words := by
  unfold isWord words
  simp only [decide_eq_true_eq, List.mem_map]
  constructor
  · intro h; exact ⟨_, h, by cases x; rfl⟩
  · rintro ⟨l, hl, rfl⟩; exact hl

/-- A token: what it is, its text, where it begins. -/
structure Tk where
  kind : Nat
  text : ByteArray
  pos : Nat

def isSign (c : UInt8) : Bool := decide (c ∈ [40, 41, 123, 125, 91, 93, 44, 59, 58, 46, 61, 60, 43, 45, 42, 33, 124].map (fun n : Nat => n.toUInt8))
/-- The byte at a place; 0 behind the end. -/
def byte (s : ByteArray) (k : Nat) : UInt8 := s.data.toList.getD k 0
/-- Do two bytes from a place on read '==' or '=>'? -/
def two (s : ByteArray) (k : Nat) : Bool := decide (k + 1 < s.size) && byte s k == 61 && (byte s (k + 1) == 61 || byte s (k + 1) == 62)

/-- The token at a place, how many bytes it takes, and whether it is one. -/
def next (s : ByteArray) (k : Nat) : Tk × Nat × Bool :=
  let c := byte s k
  if isLetter c then
    let e := stop isPart s k
    (⟨if isWord (s.extract k e) then 2 else 1, s.extract k e, k⟩, e - k, decide (e - k ≤ 20))
  else if isDigit c then
    let e := stop isDigit s k
    (⟨3, s.extract k e, k⟩, e - k, decide (e - k ≤ 9) && (decide (e - k = 1) || !decide (c = 48)))
  else if c = 34 then
    let e := stop isPlain s (k + 1)
    (⟨4, s.extract (k + 1) e, k⟩, e - k + 1, decide (e - (k + 1) ≤ 30) && (decide (e < s.size) && decide (byte s e = 34)))
  else if two s k then (⟨5, s.extract k (k + 2), k⟩, 2, true)
  else (⟨5, s.extract k (k + 1), k⟩, 1, isSign c)

/-- What a scan comes to: tokens, or a fault (its error, its place). -/
abbrev Res := Except (Nat × Nat) (List Tk)

def scanFrom (s : ByteArray) : Nat → Nat → List Tk → Res
  | 0, _, out => .ok out
  | f + 1, k, out =>
    if k < s.size then
      if byte s k = 32 ∨ byte s k = 10 then scanFrom s f (k + 1) out
      else if (next s k).2.2 = false then .error (1, k)
      else if out.length = 1000 then .error (2, k)
      else scanFrom s f (k + (next s k).2.1) (out ++ [(next s k).1])
    else .ok (out ++ [⟨6, ⟨#[]⟩, s.size⟩])
def scan (s : ByteArray) : Res := if 4000 < s.size then .error (2, 0) else scanFrom s (s.size + 1) 0 []

theorem byte_eq (s : ByteArray) (k : Nat) (h : k < s.size) : byte s k = s[k] := by
  have h' : k < s.data.toList.length := by simpa using h
  unfold byte
  rw [List.getD_eq_getElem?_getD, List.getElem?_eq_getElem h']; rfl
theorem byte_extract (s : ByteArray) (k e i : Nat) (h : i < (s.extract k e).size) : (s.extract k e)[i] = byte s (k + i) := by
  have hh : i < min e s.size - k := by simpa using h
  rw [ByteArray.getElem_extract, byte_eq s (k + i) (by omega)]
theorem is48 (c : UInt8) : c = 48 ↔ (c.toNat : Int) = 48 := by rw [← UInt8.toNat_inj]; simp; omega
theorem is34 (c : UInt8) : c = 34 ↔ (c.toNat : Int) = 34 := by rw [← UInt8.toNat_inj]; simp; omega
theorem is32 (c : UInt8) : c = 32 ↔ (c.toNat : Int) = 32 := by rw [← UInt8.toNat_inj]; simp; omega
theorem is10 (c : UInt8) : c = 10 ↔ (c.toNat : Int) = 10 := by rw [← UInt8.toNat_inj]; simp; omega
theorem take_drop_size (s : ByteArray) (k : Nat) : List.take (s.size - k) (List.drop k s.data.toList) = List.drop k s.data.toList := List.take_of_length_le (by simp)
theorem prefix2 (s : ByteArray) (k : Nat) (a b : UInt8) : List.isPrefixOf [a, b] (List.drop k s.data.toList) = (decide (k + 1 < s.size) && (byte s k == a && byte s (k + 1) == b)) := by
  by_cases h : k + 1 < s.size
  · rw [drop_cons s k (by omega), drop_cons s (k + 1) h, byte_eq s k (by omega), byte_eq s (k + 1) h]
    simp [List.isPrefixOf, h, BEq.comm]
  · by_cases h1 : k < s.size
    · rw [drop_cons s k h1, List.drop_eq_nil_of_le (by simp; omega)]
      simp [List.isPrefixOf, h]
    · rw [List.drop_eq_nil_of_le (by simp; omega)]
      simp [List.isPrefixOf, h]
theorem two_eq (s : ByteArray) (k : Nat) : two s k = (List.isPrefixOf [61, 61] (List.drop k s.data.toList) || List.isPrefixOf [61, 62] (List.drop k s.data.toList)) := by
  rw [prefix2, prefix2]
  unfold two
  cases decide (k + 1 < s.size) <;> cases byte s k == 61 <;> simp
theorem two_size (s : ByteArray) (k : Nat) (h : two s k = true) : k + 1 < s.size := by
  unfold two at h
  simp at h; exact h.1.1
theorem extract2 (s : ByteArray) (k : Nat) (a b : UInt8) (h : List.isPrefixOf [a, b] (List.drop k s.data.toList) = true) : s.extract k (k + 2) = ⟨#[a, b]⟩ := by
  rw [prefix2] at h
  simp at h
  obtain ⟨h1, h2, h3⟩ := h
  apply ByteArray.ext
  apply Array.ext'
  rw [byte_eq s k (by omega)] at h2
  rw [byte_eq s (k + 1) h1] at h3
  have hd := drop_cons s k (by omega)
  have hd' := drop_cons s (k + 1) h1
  simp only [ByteArray.data_extract, Array.toList_extract, List.extract_eq_take_drop, hd, hd', h2, h3]
  simp
theorem next_bound (s : ByteArray) (k : Nat) (h : k < s.size) (ok : (next s k).2.2 = true) : 1 ≤ (next s k).2.1 ∧ k + (next s k).2.1 ≤ s.size := by
  unfold next at ok ⊢
  by_cases hl : isLetter (byte s k) = true
  · simp only [hl, if_true] at ok ⊢
    have h1 := stop_step (p := isPart) h (by rw [← byte_eq]; simp [isPart, hl])
    have h2 := stop_ge isPart s (k + 1)
    have h3 := stop_le isPart s k (by omega)
    omega
  · by_cases hd : isDigit (byte s k) = true
    · simp only [hl, hd, if_true] at ok ⊢
      have h1 := stop_step (p := isDigit) h (by rw [← byte_eq]; exact hd)
      have h2 := stop_ge isDigit s (k + 1)
      have h3 := stop_le isDigit s k (by omega)
      simp only [Bool.false_eq_true, if_false]
      omega
    · by_cases hq : byte s k = 34
      · simp only [hl, hd, if_false, Bool.false_eq_true] at ok ⊢
        rw [if_pos hq] at ok ⊢
        have h2 := stop_ge isPlain s (k + 1)
        have h3 : stop isPlain s (k + 1) < s.size := by simp at ok; exact ok.2.1
        show 1 ≤ stop isPlain s (k + 1) - k + 1 ∧ k + (stop isPlain s (k + 1) - k + 1) ≤ s.size
        omega
      · by_cases ht : two s k = true
        · simp only [hl, hd, hq, ht, if_true, if_false, Bool.false_eq_true] at ok ⊢
          have := two_size s k ht
          omega
        · simp only [hl, hd, hq, ht, if_false, Bool.false_eq_true] at ok ⊢
          omega
theorem extract_two (s : ByteArray) (k : Nat) (h : k + 1 < s.size) : (s.extract k (k + 2)).data.toList = [byte s k, byte s (k + 1)] := by
  have hd := drop_cons s k (by omega)
  have hd' := drop_cons s (k + 1) h
  rw [← byte_eq s k (by omega)] at hd
  rw [← byte_eq s (k + 1) h] at hd'
  simp only [ByteArray.data_extract, Array.toList_extract, List.extract_eq_take_drop, hd, hd']
  simp
theorem two_bytes (s : ByteArray) (k : Nat) (h : k + 1 < s.size) : two s k = ((s.extract k (k + 2)).data.toList == [61, 61] || (s.extract k (k + 2)).data.toList == [61, 62]) := by
  rw [extract_two s k h]
  unfold two
  rw [Bool.eq_iff_iff]
  simp [h]
  constructor
  · rintro ⟨h1, h2 | h2⟩
    · exact .inl ⟨h1, h2⟩
    · exact .inr ⟨h1, h2⟩
  · rintro (⟨h1, h2⟩ | ⟨h1, h2⟩)
    · exact ⟨h1, .inl h2⟩
    · exact ⟨h1, .inr h2⟩
theorem two_end (s : ByteArray) (k : Nat) (h : ¬ k + 1 < s.size) : two s k = false := by
  unfold two; simp [h]
def signsL : List UInt8 := [40, 41, 123, 125, 91, 93, 44, 59, 58, 46, 61, 60, 43, 45, 42, 33, 124]
/-- Is a byte among the first i signs? -/
def signTo (c : UInt8) (i : Nat) : Bool := (signsL.take i).any (fun x => x == c)
theorem signTo_step (c : UInt8) (i : Nat) (h : i < 17) : signTo c (i + 1) = (signTo c i || signsL.getD i 0 == c) := by
  unfold signTo
  have h' : i < signsL.length := h
  rw [List.take_succ_eq_append_getElem h', List.any_append, List.getD_eq_getElem?_getD, List.getElem?_eq_getElem h']
  simp
theorem signTo_fin : ∀ n : Fin 256, signTo (UInt8.ofNat n.val) 17 = isSign (UInt8.ofNat n.val) := by decide +kernel
theorem signTo_all (c : UInt8) : signTo c 17 = isSign c := by
  have h := signTo_fin ⟨c.toNat, c.toNat_lt⟩
  simpa using h
theorem signs_at : ∀ i : Fin 17, (⟨#[40, 41, 123, 125, 91, 93, 44, 59, 58, 46, 61, 60, 43, 45, 42, 33, 124]⟩ : ByteArray)[i.val]'(i.isLt) = signsL.getD i.val 0 := by decide +kernel
end Tok
end Go.Proofs.YtdlbhiaceheffaaDoor
