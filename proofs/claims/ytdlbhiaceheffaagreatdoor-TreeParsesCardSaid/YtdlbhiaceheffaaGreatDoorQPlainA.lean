/- Plain definitions and facts on bytes, texts and tokens: what the scanners compute. No program in sight. More plain facts on scans. Plain facts: the tokens of a scan stand apart. Plain: what reading tokens comes to: the reader's steps, and types. No program in sight. Plain: a fault has an error; a scan ends with its end. Plain: the reference's reader of types: what it comes to in each state; and that it is the parser's. No program in sight. Plain: how far the reference's reader may go, in each state. -/
namespace Go.Proofs.YtdlbhiaceheffaaGreatDoor
namespace Tok
def isDigit (c : UInt8) : Bool := decide (48 ≤ c.toNat) && decide (c.toNat ≤ 57)
def isLetter (c : UInt8) : Bool := decide (97 ≤ c.toNat) && decide (c.toNat ≤ 122) || (decide (65 ≤ c.toNat) && decide (c.toNat ≤ 90)) || decide (c.toNat = 95)
def isPart (c : UInt8) : Bool := isLetter c || isDigit c
def isPlain (c : UInt8) : Bool := decide (32 ≤ c.toNat) && decide (c.toNat ≤ 126) && !decide (c.toNat = 34)

/-- The first place from k on whose byte is not of a kind, or the end. -/
def stop (p : UInt8 → Bool) (s : ByteArray) (k : Nat) : Nat := k + ((s.data.toList.drop k).takeWhile p).length

theorem drop_cons (s : ByteArray) (k : Nat) (h : k < s.size) : s.data.toList.drop k = s[k] :: s.data.toList.drop (k + 1) := by
  have h' : k < s.data.toList.length := by simpa using h
  rw [List.drop_eq_getElem_cons h']; rfl
theorem stop_step {p : UInt8 → Bool} {s : ByteArray} {k : Nat} (h : k < s.size) (hp : p s[k] = true) : stop p s (k + 1) = stop p s k := by
  unfold stop; rw [drop_cons s k h]; simp [hp]; omega
theorem stop_here {p : UInt8 → Bool} {s : ByteArray} {k : Nat} (h : k < s.size) (hp : p s[k] = false) : stop p s k = k := by
  unfold stop; rw [drop_cons s k h]; simp [hp]
theorem stop_end {p : UInt8 → Bool} {s : ByteArray} {k : Nat} (h : s.size ≤ k) : stop p s k = k := by
  unfold stop; rw [List.drop_eq_nil_of_le (by simpa using h)]; simp
theorem stop_ge (p : UInt8 → Bool) (s : ByteArray) (k : Nat) : k ≤ stop p s k := by unfold stop; omega
theorem stop_le (p : UInt8 → Bool) (s : ByteArray) (k : Nat) (h : k ≤ s.size) : stop p s k ≤ s.size := by
  unfold stop
  have h1 : ((s.data.toList.drop k).takeWhile p).length ≤ (s.data.toList.drop k).length := (List.takeWhile_sublist p).length_le
  have h2 : (s.data.toList.drop k).length = s.size - k := by simp
  omega

/-- The words of the language. -/
def wordsL : List (List UInt8) :=
  [[108, 101, 116], [102, 110], [105, 102], [101, 108, 115, 101], [119, 104, 105, 108, 101], [114, 101, 116, 117, 114, 110], [112, 114, 105, 110, 116], [116, 114, 117, 101], [102, 97, 108, 115, 101], [110, 117, 108, 108], [97, 115], [116, 121, 112, 101, 111, 102], [110, 117, 109], [98, 111, 111, 108], [116, 101, 120, 116], [97, 110, 121], [117, 110, 107, 110, 111, 119, 110]]
def words : List ByteArray := wordsL.map fun l => ⟨l.toArray⟩
def isWord (x : ByteArray) : Bool := decide (x.data.toList ∈ wordsL)
theorem isWord_iff (x : ByteArray) : isWord x = true ↔ x ∈ words := by
  unfold isWord words
  simp only [decide_eq_true_eq, List.mem_map]
  constructor
  · intro h; exact ⟨_, h, by cases x; rfl⟩
  · rintro ⟨l, hl, rfl⟩; exact hl

/-- A token: what it is, its text, where it begins. -/
structure Tk where
  kind : Nat
  text : ByteArray
  pos : Nat

def isSign (c : UInt8) : Bool := decide (c ∈ [40, 41, 123, 125, 91, 93, 44, 59, 58, 46, 61, 60, 43, 45, 42, 33, 124].map (fun n : Nat => n.toUInt8))
/-- The byte at a place; 0 behind the end. -/
def byte (s : ByteArray) (k : Nat) : UInt8 := s.data.toList.getD k 0
/-- Do two bytes from a place on read '==' or '=>'? -/
def two (s : ByteArray) (k : Nat) : Bool := decide (k + 1 < s.size) && byte s k == 61 && (byte s (k + 1) == 61 || byte s (k + 1) == 62)

/-- The token at a place, how many bytes it takes, and whether it is one. -/
def next (s : ByteArray) (k : Nat) : Tk × Nat × Bool :=
  let c := byte s k
  if isLetter c then
    let e := stop isPart s k
    (⟨if isWord (s.extract k e) then 2 else 1, s.extract k e, k⟩, e - k, decide (e - k ≤ 20))
  else if isDigit c then
    let e := stop isDigit s k
    (⟨3, s.extract k e, k⟩, e - k, decide (e - k ≤ 9) && (decide (e - k = 1) || !decide (c = 48)))
  else if c = 34 then
    let e := stop isPlain s (k + 1)
    (⟨4, s.extract (k + 1) e, k⟩, e - k + 1, decide (e - (k + 1) ≤ 30) && (decide (e < s.size) && decide (byte s e = 34)))
  else if two s k then (⟨5, s.extract k (k + 2), k⟩, 2, true)
  else (⟨5, s.extract k (k + 1), k⟩, 1, isSign c)

/-- What a scan comes to: tokens, or a fault (its error, its place). -/
abbrev Res := Except (Nat × Nat) (List Tk)

def scanFrom (s : ByteArray) : Nat → Nat → List Tk → Res
  | 0, _, out => .ok out
  | f + 1, k, out =>
    if k < s.size then
      if byte s k = 32 ∨ byte s k = 10 then scanFrom s f (k + 1) out
      else if (next s k).2.2 = false then .error (1, k)
      else if out.length = 1000 then .error (2, k)
      else scanFrom s f (k + (next s k).2.1) (out ++ [(next s k).1])
    else .ok (out ++ [⟨6, ⟨#[]⟩, s.size⟩])
def scan (s : ByteArray) : Res := if 4000 < s.size then .error (2, 0) else scanFrom s (s.size + 1) 0 []

theorem byte_eq (s : ByteArray) (k : Nat) (h : k < s.size) : byte s k = s[k] := by
  have h' : k < s.data.toList.length := by simpa using h
  unfold byte
  rw [List.getD_eq_getElem?_getD, List.getElem?_eq_getElem h']; rfl
theorem byte_extract (s : ByteArray) (k e i : Nat) (h : i < (s.extract k e).size) : (s.extract k e)[i] = byte s (k + i) := by
  have hh : i < min e s.size - k := by simpa using h
  rw [ByteArray.getElem_extract, byte_eq s (k + i) (by omega)]
theorem is48 (c : UInt8) : c = 48 ↔ (c.toNat : Int) = 48 := by rw [← UInt8.toNat_inj]; simp; omega
theorem is34 (c : UInt8) : c = 34 ↔ (c.toNat : Int) = 34 := by rw [← UInt8.toNat_inj]; simp; omega
theorem is32 (c : UInt8) : c = 32 ↔ (c.toNat : Int) = 32 := by rw [← UInt8.toNat_inj]; simp; omega
theorem is10 (c : UInt8) : c = 10 ↔ (c.toNat : Int) = 10 := by rw [← UInt8.toNat_inj]; simp; omega
theorem take_drop_size (s : ByteArray) (k : Nat) : List.take (s.size - k) (List.drop k s.data.toList) = List.drop k s.data.toList := List.take_of_length_le (by simp)
theorem prefix2 (s : ByteArray) (k : Nat) (a b : UInt8) : List.isPrefixOf [a, b] (List.drop k s.data.toList) = (decide (k + 1 < s.size) && (byte s k == a && byte s (k + 1) == b)) := by
  by_cases h : k + 1 < s.size
  · rw [drop_cons s k (by omega), drop_cons s (k + 1) h, byte_eq s k (by omega), byte_eq s (k + 1) h]
    simp [List.isPrefixOf, h, BEq.comm]
  · by_cases h1 : k < s.size
    · rw [drop_cons s k h1, List.drop_eq_nil_of_le (by simp; omega)]
      simp [List.isPrefixOf, h]
    · rw [List.drop_eq_nil_of_le (by simp; omega)]
      simp [List.isPrefixOf, h]
theorem two_eq (s : ByteArray) (k : Nat) : two s k = (List.isPrefixOf [61, 61] (List.drop k s.data.toList) || List.isPrefixOf [61, 62] (List.drop k s.data.toList)) := by
  rw [prefix2, prefix2]
  unfold two
  cases decide (k + 1 < s.size) <;> cases byte s k == 61 <;> simp
theorem two_size (s : ByteArray) (k : Nat) (h : two s k = true) : k + 1 < s.size := by
  unfold two at h
  simp at h; exact h.1.1
theorem extract2 (s : ByteArray) (k : Nat) (a b : UInt8) (h : List.isPrefixOf [a, b] (List.drop k s.data.toList) = true) : s.extract k (k + 2) = ⟨#[a, b]⟩ := by
  rw [prefix2] at h
  simp at h
  obtain ⟨h1, h2, h3⟩ := h
  apply ByteArray.ext
  apply Array.ext'
  rw [byte_eq s k (by omega)] at h2
  rw [byte_eq s (k + 1) h1] at h3
  have hd := drop_cons s k (by omega)
  have hd' := drop_cons s (k + 1) h1
  simp only [ByteArray.data_extract, Array.toList_extract, List.extract_eq_take_drop, hd, hd', h2, h3]
  simp
theorem next_bound (s : ByteArray) (k : Nat) (h : k < s.size) (ok : (next s k).2.2 = true) : 1 ≤ (next s k).2.1 ∧ k + (next s k).2.1 ≤ s.size := by
  unfold next at ok ⊢
  by_cases hl : isLetter (byte s k) = true
  · simp only [hl, if_true] at ok ⊢
    have h1 := stop_step (p := isPart) h (by rw [← byte_eq]; simp [isPart, hl])
    have h2 := stop_ge isPart s (k + 1)
    have h3 := stop_le isPart s k (by omega)
    omega
  · by_cases hd : isDigit (byte s k) = true
    · simp only [hl, hd, if_true] at ok ⊢
      have h1 := stop_step (p := isDigit) h (by rw [← byte_eq]; exact hd)
      have h2 := stop_ge isDigit s (k + 1)
      have h3 := stop_le isDigit s k (by omega)
      simp only [Bool.false_eq_true, if_false]
      omega
    · by_cases hq : byte s k = 34
      · simp only [hl, hd, if_false, Bool.false_eq_true] at ok ⊢
        rw [if_pos hq] at ok ⊢
        have h2 := stop_ge isPlain s (k + 1)
        have h3 : stop isPlain s (k + 1) < s.size := by simp at ok; exact ok.2.1
        show 1 ≤ stop isPlain s (k + 1) - k + 1 ∧ k + (stop isPlain s (k + 1) - k + 1) ≤ s.size
        omega
      · by_cases ht : two s k = true
        · simp only [hl, hd, hq, ht, if_true, if_false, Bool.false_eq_true] at ok ⊢
          have := two_size s k ht
          omega
        · simp only [hl, hd, hq, ht, if_false, Bool.false_eq_true] at ok ⊢
          omega
theorem extract_two (s : ByteArray) (k : Nat) (h : k + 1 < s.size) : (s.extract k (k + 2)).data.toList = [byte s k, byte s (k + 1)] := by
  have hd := drop_cons s k (by omega)
  have hd' := drop_cons s (k + 1) h
  rw [← byte_eq s k (by omega)] at hd
  rw [← byte_eq s (k + 1) h] at hd'
  simp only [ByteArray.data_extract, Array.toList_extract, List.extract_eq_take_drop, hd, hd']
  simp
theorem two_bytes (s : ByteArray) (k : Nat) (h : k + 1 < s.size) : two s k = ((s.extract k (k + 2)).data.toList == [61, 61] || (s.extract k (k + 2)).data.toList == [61, 62]) := by
  rw [extract_two s k h]
  unfold two
  rw [Bool.eq_iff_iff]
  simp [h]
  constructor
  · rintro ⟨h1, h2 | h2⟩
    · exact .inl ⟨h1, h2⟩
    · exact .inr ⟨h1, h2⟩
  · rintro (⟨h1, h2⟩ | ⟨h1, h2⟩)
    · exact ⟨h1, .inl h2⟩
    · exact ⟨h1, .inr h2⟩
theorem two_end (s : ByteArray) (k : Nat) (h : ¬ k + 1 < s.size) : two s k = false := by
  unfold two; simp [h]
def signsL : List UInt8 := [40, 41, 123, 125, 91, 93, 44, 59, 58, 46, 61, 60, 43, 45, 42, 33, 124]
/-- Is a byte among the first i signs? -/
def signTo (c : UInt8) (i : Nat) : Bool := (signsL.take i).any (fun x => x == c)
theorem signTo_step (c : UInt8) (i : Nat) (h : i < 17) : signTo c (i + 1) = (signTo c i || signsL.getD i 0 == c) := by
  unfold signTo
  have h' : i < signsL.length := h
  rw [List.take_succ_eq_append_getElem h', List.any_append, List.getD_eq_getElem?_getD, List.getElem?_eq_getElem h']
  simp
theorem signTo_fin : ∀ n : Fin 256, signTo (UInt8.ofNat n.val) 17 = isSign (UInt8.ofNat n.val) := by decide +kernel
theorem signTo_all (c : UInt8) : signTo c 17 = isSign c := by
  have h := signTo_fin ⟨c.toNat, c.toNat_lt⟩
  simpa using h
theorem signs_at : ∀ i : Fin 17, (⟨#[40, 41, 123, 125, 91, 93, 44, 59, 58, 46, 61, 60, 43, 45, 42, 33, 124]⟩ : ByteArray)[i.val]'(i.isLt) = signsL.getD i.val 0 := by decide +kernel
end Tok
end Go.Proofs.YtdlbhiaceheffaaGreatDoor

namespace Go.Proofs.YtdlbhiaceheffaaGreatDoor
namespace Tok
theorem scanFrom_ok (s : ByteArray) : ∀ (f k : Nat) (o l : List Tk), k ≤ s.size → s.size < k + f → o.length ≤ 1000 → scanFrom s f k o = .ok l → l ≠ [] ∧ l.length ≤ 1001 := by
  intro f
  induction f with
  | zero => intro k o l hk hf; omega
  | succ f ih =>
    intro k o l hk hf ho h
    rw [scanFrom] at h
    by_cases hlt : k < s.size
    · rw [if_pos hlt] at h
      by_cases hb : byte s k = 32 ∨ byte s k = 10
      · rw [if_pos hb] at h
        exact ih (k + 1) o l (by omega) (by omega) ho h
      · rw [if_neg hb] at h
        by_cases hok : (next s k).2.2 = false
        · rw [if_pos hok] at h; cases h
        · rw [if_neg hok] at h
          by_cases hl : o.length = 1000
          · rw [if_pos hl] at h; cases h
          · rw [if_neg hl] at h
            have hn := next_bound s k hlt (by simpa using hok)
            exact ih _ _ l (by omega) (by omega) (by simp; omega) h
    · rw [if_neg hlt] at h
      obtain rfl := Except.ok.inj h
      simp; omega
theorem scan_ok (s : ByteArray) (l : List Tk) (h : scan s = .ok l) : l ≠ [] ∧ l.length ≤ 1001 ∧ s.size ≤ 4000 := by
  unfold scan at h
  by_cases hs : 4000 < s.size
  · rw [if_pos hs] at h; cases h
  · rw [if_neg hs] at h
    have := scanFrom_ok s (s.size + 1) 0 [] l (by omega) (by omega) (by simp) h
    exact ⟨this.1, this.2, by omega⟩
end Tok
end Go.Proofs.YtdlbhiaceheffaaGreatDoor

namespace Go.Proofs.YtdlbhiaceheffaaGreatDoor
namespace Tok
theorem stop_not (p : UInt8 → Bool) (s : ByteArray) (k : Nat) (hk : k ≤ s.size) (h : stop p s k < s.size) : p (byte s (stop p s k)) = false := by
  obtain ⟨d, hd⟩ : ∃ d, s.size - k = d := ⟨_, rfl⟩
  induction d generalizing k with
  | zero => have := stop_ge p s k; omega
  | succ d ih =>
    have hlt : k < s.size := by omega
    cases hp : p s[k]
    · rw [stop_here hlt hp, byte_eq s k hlt]; exact hp
    · rw [← stop_step hlt hp] at h ⊢
      exact ih (k + 1) (by omega) h (by omega)
/-- Where a token ends. -/
def ends (t : Tk) : Nat := t.pos + t.text.size + if t.kind = 4 then 2 else 0
def plainKind (k : Nat) : Bool := decide (k = 1) || decide (k = 2) || decide (k = 3)
/-- A token that stands wrongly right behind another one. -/
def bad (pk : Nat) (t : Tk) (a : Nat) : Bool := plainKind t.kind && decide (t.pos = a) && plainKind pk && !(decide (pk = 3) && !decide (t.kind = 3))
def apart (s : ByteArray) : Nat → Nat → List Tk → Prop
  | a, pk, [] => a = s.size ∧ pk = 6
  | a, pk, t :: r => a ≤ t.pos ∧ t.pos ≤ s.size ∧ (∀ k, a ≤ k → k < t.pos → byte s k = 32 ∨ byte s k = 10) ∧ bad pk t a = false ∧ ends t ≤ s.size ∧ apart s (ends t) t.kind r
/-- What may not stand behind a token of a kind. -/
def shut (s : ByteArray) (a pk : Nat) : Prop := a < s.size → ((pk = 1 ∨ pk = 2) → isPart (byte s a) = false) ∧ (pk = 3 → isDigit (byte s a) = false)
theorem next_apart (s : ByteArray) (k : Nat) (h : k < s.size) (_hok : (next s k).2.2 = true) :
    (next s k).1.pos = k ∧ ends (next s k).1 = k + (next s k).2.1 ∧ shut s (k + (next s k).2.1) (next s k).1.kind ∧
    (((next s k).1.kind = 1 ∨ (next s k).1.kind = 2) → isLetter (byte s k) = true) ∧ ((next s k).1.kind = 3 → isDigit (byte s k) = true) := by
  unfold next
  by_cases hl : isLetter (byte s k) = true
  · simp only [hl, if_true]
    have h1 := stop_le isPart s k (by omega)
    have h2 := stop_ge isPart s k
    have h3 := stop_not isPart s k (by omega)
    refine ⟨trivial, ?_, ?_, fun _ => trivial, ?_⟩
    · unfold ends
      simp only [ByteArray.size_extract]
      rw [if_neg (by split <;> omega)]
      omega
    · intro hlt
      have e : k + (stop isPart s k - k) = stop isPart s k := by omega
      rw [e] at hlt ⊢
      refine ⟨fun _ => h3 hlt, fun hh => ?_⟩
      split at hh <;> omega
    · intro hh; split at hh <;> omega
  · by_cases hd : isDigit (byte s k) = true
    · simp only [hl, hd, if_true, if_false, Bool.false_eq_true]
      have h1 := stop_le isDigit s k (by omega)
      have h2 := stop_ge isDigit s k
      have h3 := stop_not isDigit s k (by omega)
      refine ⟨trivial, ?_, ?_, ?_, fun _ => trivial⟩
      · unfold ends; simp only [ByteArray.size_extract]; simp; omega
      · intro hlt
        have e : k + (stop isDigit s k - k) = stop isDigit s k := by omega
        rw [e] at hlt ⊢
        exact ⟨by omega, fun _ => h3 hlt⟩
      · omega
    · by_cases hq : byte s k = 34
      · simp only [hl, hd, if_false, Bool.false_eq_true]
        rw [if_pos hq]
        have h1 := stop_le isPlain s (k + 1) (by omega)
        have h2 := stop_ge isPlain s (k + 1)
        refine ⟨rfl, ?_, fun _ => ⟨by simp, by simp⟩, by simp, by simp⟩
        unfold ends; simp only [ByteArray.size_extract]; simp; omega
      · by_cases ht : two s k = true
        · simp only [hl, hd, hq, ht, if_true, if_false, Bool.false_eq_true]
          have := two_size s k ht
          refine ⟨trivial, ?_, fun _ => ⟨by simp, by simp⟩, by simp, by simp⟩
          unfold ends; simp only [ByteArray.size_extract]; simp; omega
        · simp only [hl, hd, hq, ht, if_false, Bool.false_eq_true]
          refine ⟨trivial, ?_, fun _ => ⟨by simp, by simp⟩, by simp, by simp⟩
          unfold ends; simp only [ByteArray.size_extract]; simp; omega
theorem scanFrom_apart (s : ByteArray) : ∀ (f k : Nat) (o l : List Tk), k ≤ s.size → s.size < k + f → scanFrom s f k o = .ok l →
    ∃ r, l = o ++ r ∧ ∀ a pk, a ≤ k → (∀ j, a ≤ j → j < k → byte s j = 32 ∨ byte s j = 10) → shut s a pk → apart s a pk r := by
  intro f
  induction f with
  | zero => intro k o l hk hf; omega
  | succ f ih =>
    intro k o l hk hf h
    rw [scanFrom] at h
    by_cases hlt : k < s.size
    · rw [if_pos hlt] at h
      by_cases hb : byte s k = 32 ∨ byte s k = 10
      · rw [if_pos hb] at h
        obtain ⟨r, hr, hap⟩ := ih (k + 1) o l (by omega) (by omega) h
        refine ⟨r, hr, fun a pk ha hbl hsh => hap a pk (by omega) (fun j h1 h2 => ?_) hsh⟩
        by_cases hj : j = k
        · subst hj; exact hb
        · exact hbl j h1 (by omega)
      · rw [if_neg hb] at h
        by_cases hok : (next s k).2.2 = false
        · rw [if_pos hok] at h; cases h
        · rw [if_neg hok] at h
          by_cases hl : o.length = 1000
          · rw [if_pos hl] at h; cases h
          · rw [if_neg hl] at h
            have hok' : (next s k).2.2 = true := by simpa using hok
            have hn := next_bound s k hlt hok'
            have hx := next_apart s k hlt hok'
            obtain ⟨r, hr, hap⟩ := ih _ _ l (by omega) (by omega) h
            refine ⟨(next s k).1 :: r, by rw [hr]; simp, fun a pk ha hbl hsh => ?_⟩
            obtain ⟨x1, x2, x3, x4, x5⟩ := hx
            refine ⟨by rw [x1]; exact ha, by rw [x1]; omega, by rw [x1]; exact hbl, ?_, by rw [x2]; exact hn.2, ?_⟩
            · cases hbad : bad pk (next s k).1 a
              · rfl
              · exfalso
                unfold bad at hbad
                simp only [Bool.and_eq_true, decide_eq_true_eq, x1] at hbad
                obtain ⟨⟨⟨h1, rfl⟩, h3⟩, h4⟩ := hbad
                have hs := hsh hlt
                unfold plainKind at h1 h3
                simp only [Bool.or_eq_true, decide_eq_true_eq] at h1 h3
                have hletter : isLetter (byte s k) = true → isPart (byte s k) = true := fun h => by unfold isPart; rw [h]; rfl
                have hdigit : isDigit (byte s k) = true → isPart (byte s k) = true := fun h => by unfold isPart; rw [h]; simp
                rcases h1 with h1 | h1
                · have hL := x4 h1
                  rcases h3 with h3 | h3
                  · exact absurd (hletter hL) (by rw [hs.1 h3]; simp)
                  · subst h3
                    have : (next s k).1.kind ≠ 3 := by omega
                    simp [this] at h4
                · have hD := x5 h1
                  rcases h3 with h3 | h3
                  · exact absurd (hdigit hD) (by rw [hs.1 h3]; simp)
                  · exact absurd hD (by rw [hs.2 h3]; simp)
            · rw [x2]
              exact hap _ _ (Nat.le_refl _) (fun j h1 h2 => by omega) x3
    · rw [if_neg hlt] at h
      obtain rfl := Except.ok.inj h
      refine ⟨[⟨6, ⟨#[]⟩, s.size⟩], rfl, fun a pk ha hbl hsh => ?_⟩
      have : k = s.size := by omega
      subst this
      exact ⟨ha, Nat.le_refl _, hbl, by simp [bad, plainKind], Nat.le_refl _, rfl, rfl⟩
theorem scan_apart (s : ByteArray) (l : List Tk) (h : scan s = .ok l) : apart s 0 0 l := by
  have hs := (scan_ok s l h).2.2
  unfold scan at h
  rw [if_neg (by omega)] at h
  obtain ⟨r, hr, hap⟩ := scanFrom_apart s (s.size + 1) 0 [] l (by omega) (by omega) h
  rw [hr]
  exact hap 0 0 (Nat.le_refl _) (fun j _ h => by omega) (fun _ => ⟨by omega, by omega⟩)
theorem scanFrom_err (s : ByteArray) : ∀ (f k : Nat) (o : List Tk) (e p : Nat), scanFrom s f k o = .error (e, p) → e = 1 ∨ e = 2 := by
  intro f
  induction f with
  | zero => intro k o e p h; cases h
  | succ f ih =>
    intro k o e p h
    rw [scanFrom] at h
    by_cases hlt : k < s.size
    · rw [if_pos hlt] at h
      by_cases hb : byte s k = 32 ∨ byte s k = 10
      · rw [if_pos hb] at h; exact ih _ _ _ _ h
      · rw [if_neg hb] at h
        by_cases hok : (next s k).2.2 = false
        · rw [if_pos hok] at h
          have := Except.error.inj h
          simp only [Prod.mk.injEq] at this; omega
        · rw [if_neg hok] at h
          by_cases hl : o.length = 1000
          · rw [if_pos hl] at h
            have := Except.error.inj h
            simp only [Prod.mk.injEq] at this; omega
          · rw [if_neg hl] at h; exact ih _ _ _ _ h
    · rw [if_neg hlt] at h; cases h
theorem scan_err (s : ByteArray) (e p : Nat) (h : scan s = .error (e, p)) : e = 1 ∨ e = 2 := by
  unfold scan at h
  by_cases hs : 4000 < s.size
  · rw [if_pos hs] at h
    have := Except.error.inj h
    simp only [Prod.mk.injEq] at this; omega
  · rw [if_neg hs] at h; exact scanFrom_err s _ _ _ e p h
end Tok
end Go.Proofs.YtdlbhiaceheffaaGreatDoor

namespace Go.Proofs.YtdlbhiaceheffaaGreatDoor
namespace Ty
open Tok (Tk)
/-- A type of a list: as api.Type. -/
structure Ty where
  kind : Nat
  fields : List (ByteArray × Nat)
  list : List Nat
  of : Nat
/-- A node, as api.Node. -/
structure Nd where
  kind : Nat
  a : Nat
  b : Nat
  c : Int
  list : List Nat
  text : ByteArray
  n : Nat
  ty : Int
  pos : Nat
/-- A fault: its error and its place. -/
abbrev Ft := Nat × Nat
/-- What a reader holds: the place, the types, the nodes. -/
structure St where
  pos : Nat
  ts : List Ty
  ns : List Nd
/-- A reader's step: a fault, or what it gives and what it then holds. -/
def M (α : Type) := St → Except Ft (α × St)
def ret {α : Type} (a : α) : M α := fun s => .ok (a, s)
def bnd {α β : Type} (m : M α) (k : α → M β) : M β := fun s => match m s with
  | .error e => .error e
  | .ok (a, s') => k a s'
theorem bnd_ok {α β : Type} {m : M α} {k : α → M β} {s s' : St} {a : α} (h : m s = .ok (a, s')) : bnd m k s = k a s' := by unfold bnd; rw [h]
theorem bnd_err {α β : Type} {m : M α} {k : α → M β} {s : St} {e : Ft} (h : m s = .error e) : bnd m k s = .error e := by unfold bnd; rw [h]
theorem bnd_inv {α β : Type} {m : M α} {k : α → M β} {s s' : St} {b : β} (h : bnd m k s = .ok (b, s')) : ∃ a s1, m s = .ok (a, s1) ∧ k a s1 = .ok (b, s') := by
  unfold bnd at h
  split at h
  · cases h
  · rename_i a s1 e; exact ⟨a, s1, e, h⟩
def cur (toks : List Tk) (pos : Nat) : Tk := (toks[pos]?).getD ⟨6, ⟨#[]⟩, 0⟩
def here (toks : List Tk) (e pos : Nat) : Ft := (e, (cur toks pos).pos)
/-- Does this sign, or word, stand at a place? -/
def is (toks : List Tk) (s : List UInt8) (pos : Nat) : Bool := (decide ((cur toks pos).kind = 5) || decide ((cur toks pos).kind = 2)) && decide ((cur toks pos).text.data.toList = s)
def fail {α : Type} (toks : List Tk) (e : Nat) : M α := fun s => .error (here toks e s.pos)
def step : M Unit := fun s => .ok ((), { s with pos := s.pos + 1 })
def take (toks : List Tk) (x : List UInt8) : M Bool := fun s => if is toks x s.pos then .ok (true, { s with pos := s.pos + 1 }) else .ok (false, s)
/-- A sign that must stand. -/
def need (toks : List Tk) (x : List UInt8) : M Unit := fun s => if is toks x s.pos then .ok ((), { s with pos := s.pos + 1 }) else .error (here toks 1 s.pos)
/-- A name that is not among some. -/
def name (toks : List Tk) (met : List ByteArray) : M ByteArray := fun s =>
  if (cur toks s.pos).kind ≠ 1 then .error (here toks 1 s.pos)
  else if (cur toks s.pos).text.data.toList ∈ met.map (fun t => t.data.toList) then .error (here toks 6 s.pos)
  else .ok ((cur toks s.pos).text, { s with pos := s.pos + 1 })
def newType (t : Ty) : M Nat := fun s => .ok (s.ts.length, { s with ts := s.ts ++ [t] })
def plains : List (List UInt8) := [[110, 117, 109], [98, 111, 111, 108], [116, 101, 120, 116], [110, 117, 108, 108], [97, 110, 121], [117, 110, 107, 110, 111, 119, 110]]
/-- The kind of a word that is a type alone; 0: it is none. -/
def plainKind (x : ByteArray) : Nat := match plains.idxOf? x.data.toList with | some i => i + 1 | none => 0
/-- Things up to a sign, with commas between. -/
def list {α : Type} (toks : List Tk) (e : List UInt8) (m : List α → M α) : Nat → List α → M (List α)
  | 0, _ => fail toks 1
  | f + 1, l => bnd (take toks e) fun b => if b then ret l else
      bnd (if l.length = 0 then ret () else need toks [44]) fun _ => bnd (m l) fun n => list toks e m f (l ++ [n])
/-- Fields up to the bracket. -/
def fields (toks : List Tk) (T : M Nat) : Nat → List (ByteArray × Nat) → M (List (ByteArray × Nat))
  | 0, _ => fail toks 1
  | f + 1, l => bnd (take toks [125]) fun b => if b then ret l else
      bnd (name toks (l.map Prod.fst)) fun s => bnd (need toks [58]) fun _ => bnd T fun n => bnd (need toks [59]) fun _ => fields toks T f (l ++ [(s, n)])
def object (toks : List Tk) (T : M Nat) : M Nat := bnd (fields toks T (toks.length + 1) []) fun l => newType ⟨7, l, [], 0⟩
/-- What stands in round brackets. -/
def round (toks : List Tk) (T : M Nat) : M Nat :=
  bnd (list toks [41] (fun _ => T) (toks.length + 1) []) fun l => bnd (take toks [61, 62]) fun b =>
    if b then bnd T fun n => newType ⟨9, [], l, n⟩
    else if l.length = 1 then ret (l.headD 0) else fail toks 1
def single (toks : List Tk) (T : M Nat) : M Nat := fun s =>
  if (cur toks s.pos).kind = 2 ∧ plainKind (cur toks s.pos).text > 0 then bnd step (fun _ => newType ⟨plainKind (cur toks s.pos).text, [], [], 0⟩) s
  else bnd (take toks [123]) (fun b => if b then object toks T else
    bnd (take toks [91]) fun b => if b then bnd T fun n => bnd (need toks [93]) fun _ => newType ⟨8, [], [], n⟩ else
      bnd (need toks [40]) fun _ => round toks T) s
/-- More types behind bars. -/
def bars (toks : List Tk) (S : M Nat) : Nat → List Nat → M (List Nat)
  | 0, _ => fail toks 1
  | f + 1, l => bnd (take toks [124]) fun b => if b then bnd S fun n => bars toks S f (l ++ [n]) else ret l
def union (toks : List Tk) (S : M Nat) : M Nat :=
  bnd S fun n => bnd (bars toks S (toks.length + 1) [n]) fun l => if l.length = 1 then ret (l.headD 0) else newType ⟨10, [], l, 0⟩
/-- A type, with so much depth left. -/
def typ (toks : List Tk) : Nat → M Nat
  | 0 => fail toks 8
  | r + 1 => union toks (single toks (typ toks r))
/-- The types of a text that is a type alone. -/
def typeOf (s : ByteArray) : Except Ft (List Ty) :=
  match Tok.scan s with
  | .error e => .error e
  | .ok toks => match typ toks 20 ⟨0, [], []⟩ with
    | .error e => .error e
    | .ok (_, st) => if (cur toks st.pos).kind ≠ 6 then .error (here toks 1 st.pos) else if st.ts.length > 300 then .error (2, 0) else .ok st.ts

/-- How far a step goes: by d tokens at least; and how many more tokens it takes than types, or nodes, it makes: c, e at least. -/
def Adv {α : Type} (d c e : Int) (m : M α) : Prop := ∀ s a s', m s = .ok (a, s') → (s.pos : Int) + d ≤ s'.pos ∧ (s'.ts.length : Int) + s.pos + c ≤ s.ts.length + s'.pos ∧ (s'.ns.length : Int) + s.pos + e ≤ s.ns.length + s'.pos
theorem Adv.mono {α : Type} {d c e d' c' e' : Int} {m : M α} (h : Adv d c e m) (hd : d' ≤ d := by omega) (hc : c' ≤ c := by omega) (he : e' ≤ e := by omega) : Adv d' c' e' m := fun s a s' k => by have := h s a s' k; omega
theorem Adv.ret {α : Type} (a : α) : Adv 0 0 0 (ret a) := fun s b s' e => by cases e; simp
theorem Adv.fail {α : Type} (toks : List Tk) (n : Nat) (d c e : Int) : Adv d c e (fail (α := α) toks n) := fun s b s' h => by cases h
theorem Adv.step : Adv 1 1 1 step := fun s b s' e => by cases e; simp; omega
theorem Adv.need (toks : List Tk) (x : List UInt8) : Adv 1 1 1 (need toks x) := fun s b s' e => by
  unfold Ty.need at e
  split at e
  · cases e; simp; omega
  · cases e
theorem Adv.name (toks : List Tk) (met : List ByteArray) : Adv 1 1 1 (name toks met) := fun s b s' e => by
  unfold Ty.name at e
  split at e
  · cases e
  · split at e
    · cases e
    · cases e; simp; omega
theorem Adv.newType (t : Ty) : Adv 0 (-1) 0 (newType t) := fun s b s' e => by cases e; simp; omega
theorem Adv.bnd {α β : Type} {m : M α} {k : α → M β} {d c e d' c' e' : Int} (h : Adv d c e m) (g : ∀ a, Adv d' c' e' (k a)) : Adv (d + d') (c + c') (e + e') (Ty.bnd m k) := fun s b s' x => by
  obtain ⟨a, s1, e1, e2⟩ := bnd_inv x
  have := h _ _ _ e1
  have := g a _ _ _ e2
  omega
theorem Adv.take {β : Type} (toks : List Tk) (x : List UInt8) {k : Bool → M β} {d c e : Int} (h1 : Adv (d - 1) (c - 1) (e - 1) (k true)) (h2 : Adv d c e (k false)) : Adv d c e (Ty.bnd (Ty.take toks x) k) := fun s b s' y => by
  obtain ⟨a, s1, e1, e2⟩ := bnd_inv y
  unfold Ty.take at e1
  split at e1 <;> cases e1
  · have := h1 _ _ _ e2
    simp at this; omega
  · exact h2 _ _ _ e2
theorem Adv.ite {α : Type} {p : Prop} [Decidable p] {m n : M α} {d c e : Int} (h : p → Adv d c e m) (g : ¬ p → Adv d c e n) : Adv d c e (if p then m else n) := by
  split
  · exact h ‹_›
  · exact g ‹_›
theorem list_adv {α : Type} {toks : List Tk} {x : List UInt8} {m : List α → M α} (hm : ∀ l, Adv 1 0 0 (m l)) : ∀ f l, Adv 1 1 1 (list toks x m f l)
  | 0, _ => Adv.fail _ _ _ _ _
  | f + 1, l => by
    refine Adv.take _ _ ?_ ?_
    · simp only [if_true]; exact (Adv.ret l).mono
    · simp only [Bool.false_eq_true, if_false]
      exact ((Adv.ite (d := 0) (c := 0) (e := 0) (fun _ => Adv.ret ()) (fun _ => (Adv.need _ _).mono)).bnd fun _ => (hm l).bnd fun n => list_adv hm f (l ++ [n])).mono
theorem fields_adv {toks : List Tk} {T : M Nat} (hT : Adv 1 0 0 T) : ∀ f l, Adv 1 1 1 (fields toks T f l)
  | 0, _ => Adv.fail _ _ _ _ _
  | f + 1, l => by
    refine Adv.take _ _ ?_ ?_
    · simp only [if_true]; exact (Adv.ret l).mono
    · simp only [Bool.false_eq_true, if_false]
      exact ((Adv.name _ _).bnd fun s => (Adv.need _ _).bnd fun _ => hT.bnd fun n => (Adv.need _ _).bnd fun _ => fields_adv hT f (l ++ [(s, n)])).mono
theorem object_adv {toks : List Tk} {T : M Nat} (hT : Adv 1 0 0 T) : Adv 1 0 0 (object toks T) := ((fields_adv hT _ _).bnd fun _ => Adv.newType _).mono
theorem round_adv {toks : List Tk} {T : M Nat} (hT : Adv 1 0 0 T) : Adv 1 0 0 (round toks T) :=
  ((list_adv (fun _ => hT) _ _).bnd (d' := 0) (c' := 0) (e' := 0) fun l => Adv.take _ _ (by simp only [if_true]; exact (hT.bnd fun n => Adv.newType _).mono)
    (by simp only [Bool.false_eq_true, if_false]; exact Adv.ite (fun _ => Adv.ret _) (fun _ => Adv.fail _ _ _ _ _))).mono
theorem single_adv {toks : List Tk} {T : M Nat} (hT : Adv 1 0 0 T) : Adv 1 0 0 (single toks T) := fun s a s' h => by
  unfold single at h
  split at h
  · exact (Adv.step.bnd fun _ => Adv.newType _).mono (by omega) (by omega) (by omega) s a s' h
  · revert h
    refine (show Adv 1 0 0 _ from ?_) s a s'
    refine Adv.take _ _ ?_ ?_
    · simp only [if_true]; exact (object_adv hT).mono
    · simp only [Bool.false_eq_true, if_false]
      refine Adv.take _ _ ?_ ?_
      · simp only [if_true]; exact (hT.bnd fun n => (Adv.need _ _).bnd fun _ => Adv.newType _).mono
      · simp only [Bool.false_eq_true, if_false]; exact ((Adv.need _ _).bnd fun _ => round_adv hT).mono
theorem bars_adv {toks : List Tk} {S : M Nat} (hS : Adv 1 0 0 S) : ∀ f l s l' s', bars toks S f l s = .ok (l', s') → l.length ≤ l'.length ∧ s.pos ≤ s'.pos ∧ s'.ts.length + s.pos + l'.length ≤ s.ts.length + s'.pos + l.length ∧ s'.ns.length + s.pos + l'.length ≤ s.ns.length + s'.pos + l.length
  | 0, _, s, l', s', h => by cases h
  | f + 1, l, s, l', s', h => by
    obtain ⟨b, s1, e1, e2⟩ := bnd_inv h
    unfold Ty.take at e1
    split at e1 <;> cases e1
    · simp only [if_true] at e2
      obtain ⟨n, s2, e3, e4⟩ := bnd_inv e2
      have a1 := hS _ _ _ e3
      have a2 := bars_adv hS f _ _ _ _ e4
      simp at a1 a2
      omega
    · simp only [Bool.false_eq_true, if_false] at e2
      cases e2; simp
theorem union_adv {toks : List Tk} {S : M Nat} (hS : Adv 1 0 0 S) : Adv 1 0 0 (union toks S) := fun s a s' h => by
  obtain ⟨n, s1, e1, e2⟩ := bnd_inv h
  obtain ⟨l, s2, e3, e4⟩ := bnd_inv e2
  have a1 := hS _ _ _ e1
  have a2 := bars_adv hS _ _ _ _ _ e3
  simp at a2
  split at e4
  · cases e4; omega
  · cases e4; simp; omega
theorem typ_adv (toks : List Tk) : ∀ r, Adv 1 0 0 (typ toks r)
  | 0 => Adv.fail _ _ _ _ _
  | r + 1 => union_adv (single_adv (typ_adv toks r))
end Ty
end Go.Proofs.YtdlbhiaceheffaaGreatDoor

namespace Go.Proofs.YtdlbhiaceheffaaGreatDoor
namespace Ty
open Tok (Tk)
/-- Where a step fails, its fault has an error. -/
def Bad {α : Type} (m : M α) : Prop := ∀ s f, m s = .error f → f.1 ≠ 0 ∧ f.1 ≤ 9
theorem Bad.ret {α : Type} (a : α) : Bad (ret a) := fun s f h => by cases h
theorem Bad.fail {α : Type} (toks : List Tk) (n : Nat) (hn : n ≠ 0 ∧ n ≤ 9 := by omega) : Bad (fail (α := α) toks n) := fun s f h => by cases h; exact hn
theorem Bad.step : Bad step := fun s f h => by cases h
theorem Bad.take (toks : List Tk) (x : List UInt8) : Bad (take toks x) := fun s f h => by unfold Ty.take at h; split at h <;> cases h
theorem Bad.need (toks : List Tk) (x : List UInt8) : Bad (need toks x) := fun s f h => by unfold Ty.need at h; split at h <;> cases h; simp [here]
theorem Bad.name (toks : List Tk) (met : List ByteArray) : Bad (name toks met) := fun s f h => by
  unfold Ty.name at h
  split at h
  · cases h; simp [here]
  · split at h
    · cases h; simp [here]
    · cases h
theorem Bad.newType (t : Ty) : Bad (newType t) := fun s f h => by cases h
theorem Bad.bnd {α β : Type} {m : M α} {k : α → M β} (h : Bad m) (g : ∀ a, Bad (k a)) : Bad (Ty.bnd m k) := fun s f e => by
  unfold Ty.bnd at e
  split at e
  · rename_i e1; cases e; exact h _ _ e1
  · exact g _ _ _ e
theorem Bad.ite {α : Type} {p : Prop} [Decidable p] {m n : M α} (h : Bad m) (g : Bad n) : Bad (if p then m else n) := by
  split
  · exact h
  · exact g
theorem list_bad {α : Type} {toks : List Tk} {x : List UInt8} {m : List α → M α} (hm : ∀ l, Bad (m l)) : ∀ f l, Bad (list toks x m f l)
  | 0, _ => Bad.fail _ _
  | f + 1, l => (Bad.take _ _).bnd fun b => Bad.ite (Bad.ret l) ((Bad.ite (Bad.ret ()) (Bad.need _ _)).bnd fun _ => (hm l).bnd fun n => list_bad hm f (l ++ [n]))
theorem fields_bad {toks : List Tk} {T : M Nat} (hT : Bad T) : ∀ f l, Bad (fields toks T f l)
  | 0, _ => Bad.fail _ _
  | f + 1, l => (Bad.take _ _).bnd fun b => Bad.ite (Bad.ret l) ((Bad.name _ _).bnd fun s => (Bad.need _ _).bnd fun _ => hT.bnd fun n => (Bad.need _ _).bnd fun _ => fields_bad hT f (l ++ [(s, n)]))
theorem object_bad {toks : List Tk} {T : M Nat} (hT : Bad T) : Bad (object toks T) := (fields_bad hT _ _).bnd fun _ => Bad.newType _
theorem round_bad {toks : List Tk} {T : M Nat} (hT : Bad T) : Bad (round toks T) :=
  (list_bad (fun _ => hT) _ _).bnd fun l => (Bad.take _ _).bnd fun b => Bad.ite (hT.bnd fun n => Bad.newType _) (Bad.ite (Bad.ret _) (Bad.fail _ _))
theorem single_bad {toks : List Tk} {T : M Nat} (hT : Bad T) : Bad (single toks T) := fun s f h => by
  unfold single at h
  split at h
  · exact (Bad.step.bnd fun _ => Bad.newType _) s f h
  · exact ((Bad.take _ _).bnd fun b => Bad.ite (object_bad hT) ((Bad.take _ _).bnd fun b => Bad.ite (hT.bnd fun n => (Bad.need _ _).bnd fun _ => Bad.newType _) ((Bad.need _ _).bnd fun _ => round_bad hT))) s f h
theorem bars_bad {toks : List Tk} {S : M Nat} (hS : Bad S) : ∀ f l, Bad (bars toks S f l)
  | 0, _ => Bad.fail _ _
  | f + 1, l => (Bad.take _ _).bnd fun b => Bad.ite (hS.bnd fun n => bars_bad hS f (l ++ [n])) (Bad.ret l)
theorem union_bad {toks : List Tk} {S : M Nat} (hS : Bad S) : Bad (union toks S) := hS.bnd fun _ => (bars_bad hS _ _).bnd fun _ => Bad.ite (Bad.ret _) (Bad.newType _)
theorem typ_bad (toks : List Tk) : ∀ r, Bad (typ toks r)
  | 0 => Bad.fail _ _
  | r + 1 => union_bad (single_bad (typ_bad toks r))
theorem typeOf_bad {s : ByteArray} {f : Ft} (h : typeOf s = .error f) : f.1 ≠ 0 := by
  unfold typeOf at h
  split at h
  · rename_i e he
    cases h
    have := Tok.scan_err s f.1 f.2 he
    omega
  · split at h
    · rename_i e he; cases h; exact (typ_bad _ _ _ _ he).1
    · split at h
      · cases h; simp [here]
      · split at h
        · cases h; simp
        · cases h
theorem scanFrom_last (s : ByteArray) : ∀ (f k : Nat) (o l : List Tk), Tok.scanFrom s f k o = .ok l → s.size < k + f → k ≤ s.size → ∀ t, l.getLast? = some t → t.kind = 6 := by
  intro f
  induction f with
  | zero => intro k o l _ h1 h2; omega
  | succ f ih =>
    intro k o l h h1 h2 t ht
    rw [Tok.scanFrom] at h
    by_cases hlt : k < s.size
    · rw [if_pos hlt] at h
      by_cases hb : Tok.byte s k = 32 ∨ Tok.byte s k = 10
      · rw [if_pos hb] at h
        exact ih _ _ _ h (by omega) (by omega) t ht
      · rw [if_neg hb] at h
        by_cases hok : (Tok.next s k).2.2 = false
        · rw [if_pos hok] at h; cases h
        · rw [if_neg hok] at h
          by_cases hl : o.length = 1000
          · rw [if_pos hl] at h; cases h
          · rw [if_neg hl] at h
            have hbd := Tok.next_bound s k hlt (by simpa using hok)
            exact ih _ _ _ h (by omega) (by omega) t ht
    · rw [if_neg hlt] at h
      cases h
      simp at ht
      subst ht; rfl
theorem scan_last {s : ByteArray} {l : List Tk} (h : Tok.scan s = .ok l) : ∀ t, l.getLast? = some t → t.kind = 6 := by
  unfold Tok.scan at h
  split at h
  · cases h
  · exact scanFrom_last s _ _ _ _ h (by omega) (by omega)
end Ty
end Go.Proofs.YtdlbhiaceheffaaGreatDoor

namespace Go.Proofs.YtdlbhiaceheffaaGreatDoor
namespace Rd
open Tok (Tk)
open Ty (Ft St Nd cur here is plainKind M)
/-- What a reader holds, and the first thing that is wrong. -/
structure RS where
  st : St
  f : Option Ft
def wrong (toks : List Tk) (e : Nat) (s : RS) : RS := match s.f with | none => ⟨s.st, some (here toks e s.st.pos)⟩ | some _ => s
def peek (toks : List Tk) (x : List UInt8) (s : RS) : Bool := s.f.isNone && is toks x s.st.pos
def next (s : RS) : RS := ⟨{ s.st with pos := s.st.pos + 1 }, s.f⟩
def must (toks : List Tk) (x : List UInt8) (s : RS) : RS := if peek toks x s then next s else wrong toks 1 s
def ident (toks : List Tk) (met : List ByteArray) (s : RS) : ByteArray × RS :=
  if (cur toks s.st.pos).kind ≠ 1 then (⟨#[]⟩, wrong toks 1 s)
  else if (cur toks s.st.pos).text.data.toList ∈ met.map (fun t => t.data.toList) then (⟨#[]⟩, wrong toks 6 s)
  else ((cur toks s.st.pos).text, next s)
def addT (t : Ty.Ty) (s : RS) : Nat × RS := (s.st.ts.length, ⟨{ s.st with ts := s.st.ts ++ [t] }, s.f⟩)
def fields (toks : List Tk) (T : RS → Nat × RS) : Nat → List (ByteArray × Nat) → RS → List (ByteArray × Nat) × RS
  | 0, l, s => (l, s)
  | n + 1, l, s => if peek toks [125] s then (l, next s) else if s.f.isSome then (l, s) else
      fields toks T n (l ++ [((ident toks (l.map Prod.fst) s).1, (T (must toks [58] (ident toks (l.map Prod.fst) s).2)).1)]) (must toks [59] (T (must toks [58] (ident toks (l.map Prod.fst) s).2)).2)
def args (toks : List Tk) (T : RS → Nat × RS) : Nat → List Nat → RS → List Nat × RS
  | 0, l, s => (l, s)
  | n + 1, l, s => if peek toks [41] s then (l, next s) else if s.f.isSome then (l, s) else
      args toks T n (l ++ [(T (if l.length > 0 then must toks [44] s else s)).1]) (T (if l.length > 0 then must toks [44] s else s)).2
def round (toks : List Tk) (T : RS → Nat × RS) (l : List Nat) (s : RS) : Nat × RS :=
  if peek toks [61, 62] s then addT ⟨9, [], l, (T (next s)).1⟩ (T (next s)).2
  else if l.length ≠ 1 then (0, wrong toks 1 s) else (l.headD 0, s)
def one (toks : List Tk) (T : RS → Nat × RS) (s : RS) : Nat × RS :=
  if (cur toks s.st.pos).kind = 2 ∧ plainKind (cur toks s.st.pos).text > 0 ∧ s.f = none then addT ⟨plainKind (cur toks s.st.pos).text, [], [], 0⟩ (next s)
  else if peek toks [91] s then addT ⟨8, [], [], (T (next s)).1⟩ (must toks [93] (T (next s)).2)
  else if peek toks [123] s then addT ⟨7, (fields toks T (toks.length + 1) [] (next s)).1, [], 0⟩ (fields toks T (toks.length + 1) [] (next s)).2
  else round toks T (args toks T (toks.length + 1) [] (must toks [40] s)).1 (args toks T (toks.length + 1) [] (must toks [40] s)).2
def bars (toks : List Tk) (S : RS → Nat × RS) : Nat → List Nat → RS → List Nat × RS
  | 0, l, s => (l, s)
  | n + 1, l, s => if peek toks [124] s then bars toks S n (l ++ [(S (next s)).1]) (S (next s)).2 else (l, s)
def unite (l : List Nat) (s : RS) : Nat × RS := if 1 < l.length ∧ s.f = none then addT ⟨10, [], l, 0⟩ s else (l.headD 0, s)
def read (toks : List Tk) : Nat → RS → Nat × RS
  | 0, s => (0, wrong toks 8 s)
  | r + 1, s => if s.f.isSome then (0, s) else
      unite (bars toks (one toks (read toks r)) (toks.length + 1) [(one toks (read toks r) s).1] (one toks (read toks r) s).2).1 (bars toks (one toks (read toks r)) (toks.length + 1) [(one toks (read toks r) s).1] (one toks (read toks r) s).2).2

/-- What a good reading begins with. -/
def Ok (toks : List Tk) (st : St) : Prop := st.pos < toks.length ∧ st.ts.length ≤ st.pos ∧ st.ns.length ≤ st.pos + 1
/-- What a bad one is left with. -/
def Off (toks : List Tk) (c : Nat) (st : St) : Prop := st.pos < toks.length ∧ st.ts.length ≤ toks.length + c ∧ st.ns.length ≤ toks.length + 1 + c
theorem Off.mono {toks : List Tk} {c d : Nat} {st : St} (h : Off toks c st) (hd : c ≤ d) : Off toks d st := ⟨h.1, by have := h.2; omega, by have := h.2; omega⟩
theorem Ok.off {toks : List Tk} {st : St} (h : Ok toks st) (c : Nat) : Off toks c st := ⟨h.1, by have := h; unfold Ok at this; omega, by have := h; unfold Ok at this; omega⟩
/-- The reference's reading is the model's. -/
def Sim {α : Type} (toks : List Tk) (c : Nat) (m : M α) (g : RS → α × RS) : Prop :=
  ∀ st, Ok toks st → match m st with
    | .ok (a, st') => g ⟨st, none⟩ = (a, ⟨st', none⟩) ∧ Ok toks st'
    | .error f => ∃ a st', g ⟨st, none⟩ = (a, ⟨st', some f⟩) ∧ Off toks c st'
/-- What is bad stays as it is. -/
def Idle (g : RS → Nat × RS) : Prop := ∀ st x, g ⟨st, some x⟩ = (0, ⟨st, some x⟩)
theorem must_bad (toks : List Tk) (x : List UInt8) (st : St) (f : Ft) : must toks x ⟨st, some f⟩ = ⟨st, some f⟩ := by simp [must, peek, wrong]
theorem fields_off (toks : List Tk) (T : RS → Nat × RS) (n : Nat) (l : List (ByteArray × Nat)) (st : St) (f : Ft) : fields toks T n l ⟨st, some f⟩ = (l, ⟨st, some f⟩) := by
  cases n <;> simp [fields, peek]
theorem args_off (toks : List Tk) (T : RS → Nat × RS) (n : Nat) (l : List Nat) (st : St) (f : Ft) : args toks T n l ⟨st, some f⟩ = (l, ⟨st, some f⟩) := by
  cases n <;> simp [args, peek]
theorem bars_off (toks : List Tk) (T : RS → Nat × RS) (n : Nat) (l : List Nat) (st : St) (f : Ft) : bars toks T n l ⟨st, some f⟩ = (l, ⟨st, some f⟩) := by
  cases n <;> simp [bars, peek]
theorem must_ok {toks : List Tk} {x : List UInt8} {st st' : St} (h : Ty.need toks x st = .ok ((), st')) : must toks x ⟨st, none⟩ = ⟨st', none⟩ := by
  unfold Ty.need at h
  split at h
  · rename_i hi; cases h; simp [must, peek, hi, next]
  · cases h
theorem must_err {toks : List Tk} {x : List UInt8} {st : St} {f : Ft} (h : Ty.need toks x st = .error f) : must toks x ⟨st, none⟩ = ⟨st, some f⟩ := by
  unfold Ty.need at h
  split at h
  · cases h
  · rename_i hi; cases h; simp [must, peek, hi, wrong]
theorem ident_ok {toks : List Tk} {met : List ByteArray} {st st' : St} {x : ByteArray} (h : Ty.name toks met st = .ok (x, st')) : ident toks met ⟨st, none⟩ = (x, ⟨st', none⟩) := by
  unfold Ty.name at h
  unfold ident
  dsimp only
  split at h
  · cases h
  · rename_i h1
    rw [if_neg h1]
    split at h
    · cases h
    · rename_i h2; rw [if_neg h2]; cases h; rfl
theorem ident_err {toks : List Tk} {met : List ByteArray} {st : St} {f : Ft} (h : Ty.name toks met st = .error f) : ident toks met ⟨st, none⟩ = (⟨#[]⟩, ⟨st, some f⟩) := by
  unfold Ty.name at h
  unfold ident
  dsimp only
  split at h
  · rename_i h1; rw [if_pos h1]; cases h; rfl
  · rename_i h1
    rw [if_neg h1]
    split at h
    · rename_i h2; rw [if_pos h2]; cases h; rfl
    · cases h
theorem peek_ok (toks : List Tk) (x : List UInt8) (st : St) : peek toks x ⟨st, none⟩ = is toks x st.pos := by simp [peek]
section
variable {toks : List Tk} (hL : ∀ t, toks.getLast? = some t → t.kind = 6)
include hL
theorem kind_lt {pos : Nat} (hp : pos < toks.length) (h : (cur toks pos).kind ≠ 6) : pos + 1 < toks.length := by
  refine Nat.lt_of_le_of_ne hp fun e => h ?_
  unfold cur
  rw [List.getElem?_eq_getElem hp]
  exact hL _ (by rw [List.getLast?_eq_getElem?, List.getElem?_eq_getElem (by omega)]; congr 1; simp [← e])
theorem is_lt {s : List UInt8} {pos : Nat} (hp : pos < toks.length) (h : is toks s pos = true) : pos + 1 < toks.length := by
  refine kind_lt hL hp fun e => ?_
  unfold is at h
  rw [e] at h
  simp at h
theorem need_cases (x : List UInt8) {st : St} (h : Ok toks st) : (∃ st', Ty.need toks x st = .ok ((), st') ∧ Ok toks st' ∧ st'.pos = st.pos + 1 ∧ st'.ts = st.ts ∧ st'.ns = st.ns) ∨ ∃ f, Ty.need toks x st = .error f := by
  unfold Ty.need
  by_cases hi : is toks x st.pos = true
  · left
    have := is_lt hL h.1 hi
    have := h
    unfold Ok at this
    exact ⟨{ st with pos := st.pos + 1 }, by rw [if_pos hi], by unfold Ok; dsimp only; omega, rfl, rfl, rfl⟩
  · right; exact ⟨_, by rw [if_neg hi]⟩
theorem name_cases (met : List ByteArray) {st : St} (h : Ok toks st) : (∃ x st', Ty.name toks met st = .ok (x, st') ∧ Ok toks st' ∧ st'.pos = st.pos + 1 ∧ st'.ts = st.ts ∧ st'.ns = st.ns) ∨ ∃ f, Ty.name toks met st = .error f := by
  unfold Ty.name
  by_cases hk : (cur toks st.pos).kind ≠ 1
  · right; exact ⟨_, by rw [if_pos hk]⟩
  · rw [if_neg hk]
    by_cases hm : (cur toks st.pos).text.data.toList ∈ met.map (fun t => t.data.toList)
    · right; exact ⟨_, by rw [if_pos hm]⟩
    · left
      have := kind_lt hL h.1 (by omega : (cur toks st.pos).kind ≠ 6)
      have := h
      unfold Ok at this
      exact ⟨_, { st with pos := st.pos + 1 }, by rw [if_neg hm], by unfold Ok; dsimp only; omega, rfl, rfl, rfl⟩
theorem Ok.next {x : List UInt8} {st : St} (h : Ok toks st) (hi : is toks x st.pos = true) : Ok toks { st with pos := st.pos + 1 } := by
  have := is_lt hL h.1 hi
  unfold Ok at *; dsimp only; omega
variable {c : Nat} {T : M Nat} {g : RS → Nat × RS} (hT : Sim toks c T g) (hA : Ty.Adv 1 0 0 T) (hI : Idle g)
include hT hA hI
theorem fields_sim : ∀ n l st, Ok toks st → toks.length < st.pos + n → match Ty.fields toks T n l st with
    | .ok (l', st') => fields toks g n l ⟨st, none⟩ = (l', ⟨st', none⟩) ∧ Ok toks st'
    | .error f => ∃ l' st', fields toks g n l ⟨st, none⟩ = (l', ⟨st', some f⟩) ∧ Off toks c st' := by
  intro n
  induction n with
  | zero => intro l st h hf; have := h.1; omega
  | succ n ih =>
    intro l st h hf
    rw [Ty.fields, fields, peek_ok]
    by_cases hi : is toks [125] st.pos = true
    · rw [if_pos hi, Ty.bnd_ok (show Ty.take toks [125] st = .ok (true, { st with pos := st.pos + 1 }) by unfold Ty.take; rw [if_pos hi])]
      exact ⟨rfl, h.next hL hi⟩
    · rw [if_neg hi, Ty.bnd_ok (show Ty.take toks [125] st = .ok (false, st) by unfold Ty.take; rw [if_neg hi]), if_neg (show ¬ (false = true) by simp), if_neg (show ¬ ((⟨st, none⟩ : RS).f.isSome = true) by simp)]
      rcases name_cases hL (l.map Prod.fst) h with ⟨x, s1, e1, o1, p1, _⟩ | ⟨f, e1⟩
      · rw [Ty.bnd_ok e1, ident_ok e1]
        dsimp only
        rcases need_cases hL [58] o1 with ⟨s2, e2, o2, p2, _⟩ | ⟨f, e2⟩
        · rw [Ty.bnd_ok e2, must_ok e2]
          have h3 := hT s2 o2
          cases e3 : T s2 with
          | error f =>
            rw [e3] at h3
            obtain ⟨a, s3, g3, o3⟩ := h3
            rw [Ty.bnd_err e3, g3]
            dsimp only
            rw [must_bad, fields_off]
            exact ⟨_, _, rfl, o3⟩
          | ok p =>
            obtain ⟨a, s3⟩ := p
            rw [e3] at h3
            obtain ⟨g3, o3⟩ := h3
            rw [Ty.bnd_ok e3, g3]
            dsimp only
            have a3 := hA _ _ _ e3
            rcases need_cases hL [59] o3 with ⟨s4, e4, o4, p4, _⟩ | ⟨f, e4⟩
            · rw [Ty.bnd_ok e4, must_ok e4]
              exact ih _ s4 o4 (by omega)
            · rw [Ty.bnd_err e4, must_err e4, fields_off]
              exact ⟨_, _, rfl, o3.off c⟩
        · rw [Ty.bnd_err e2, must_err e2, hI, must_bad, fields_off]
          exact ⟨_, _, rfl, o1.off c⟩
      · rw [Ty.bnd_err e1, ident_err e1]
        dsimp only
        rw [must_bad, hI, must_bad, fields_off]
        exact ⟨_, _, rfl, h.off c⟩
theorem args_sim : ∀ n l st, Ok toks st → toks.length < st.pos + n → match Ty.list toks [41] (fun _ => T) n l st with
    | .ok (l', st') => args toks g n l ⟨st, none⟩ = (l', ⟨st', none⟩) ∧ Ok toks st'
    | .error f => ∃ l' st', args toks g n l ⟨st, none⟩ = (l', ⟨st', some f⟩) ∧ Off toks c st' := by
  intro n
  induction n with
  | zero => intro l st h hf; have := h.1; omega
  | succ n ih =>
    intro l st h hf
    rw [Ty.list, args, peek_ok]
    by_cases hi : is toks [41] st.pos = true
    · rw [if_pos hi, Ty.bnd_ok (show Ty.take toks [41] st = .ok (true, { st with pos := st.pos + 1 }) by unfold Ty.take; rw [if_pos hi])]
      exact ⟨rfl, h.next hL hi⟩
    · rw [if_neg hi, Ty.bnd_ok (show Ty.take toks [41] st = .ok (false, st) by unfold Ty.take; rw [if_neg hi]), if_neg (show ¬ (false = true) by simp), if_neg (show ¬ ((⟨st, none⟩ : RS).f.isSome = true) by simp)]
      have key : ∀ s1, Ok toks s1 → st.pos ≤ s1.pos → match Ty.bnd T (fun n_1 => Ty.list toks [41] (fun _ => T) n (l ++ [n_1])) s1 with
          | .ok (l', st') => args toks g n (l ++ [(g ⟨s1, none⟩).1]) (g ⟨s1, none⟩).2 = (l', ⟨st', none⟩) ∧ Ok toks st'
          | .error f => ∃ l' st', args toks g n (l ++ [(g ⟨s1, none⟩).1]) (g ⟨s1, none⟩).2 = (l', ⟨st', some f⟩) ∧ Off toks c st' := by
        intro s1 o1 hp
        have h3 := hT s1 o1
        cases e3 : T s1 with
        | error f =>
          rw [e3] at h3
          obtain ⟨a, s3, g3, o3⟩ := h3
          rw [Ty.bnd_err e3, g3]
          dsimp only
          rw [args_off]
          exact ⟨_, _, rfl, o3⟩
        | ok p =>
          obtain ⟨a, s3⟩ := p
          rw [e3] at h3
          obtain ⟨g3, o3⟩ := h3
          rw [Ty.bnd_ok e3, g3]
          have a3 := hA _ _ _ e3
          exact ih _ s3 o3 (by omega)
      by_cases hl : l.length = 0
      · rw [if_pos hl, if_neg (by omega), Ty.bnd_ok (show Ty.ret () st = .ok ((), st) from rfl)]
        exact key st h (Nat.le_refl _)
      · rw [if_neg hl, if_pos (by omega)]
        rcases need_cases hL [44] h with ⟨s1, e1, o1, p1, _⟩ | ⟨f, e1⟩
        · rw [Ty.bnd_ok e1, must_ok e1]
          exact key s1 o1 (by omega)
        · rw [Ty.bnd_err e1, must_err e1, hI, args_off]
          exact ⟨_, _, rfl, h.off c⟩
theorem one_sim : Sim toks (c + 1) (Ty.single toks T) (one toks g) := by
  intro st h
  have hadv := Ty.single_adv (toks := toks) hA
  -- a state that went well is good, if it stands within the tokens
  have fin : ∀ a st', Ty.single toks T st = .ok (a, st') → st'.pos < toks.length → Ok toks st' := fun a st' e hp => by
    have := hadv _ _ _ e
    unfold Ok at *
    omega
  have off1 : ∀ st', Off toks c st' → ∀ t, Off toks (c + 1) { st' with ts := st'.ts ++ [t] } := fun st' o t => by
    unfold Off at *; simp; omega
  revert fin
  unfold Ty.single one
  by_cases hw : (cur toks st.pos).kind = 2 ∧ plainKind (cur toks st.pos).text > 0
  · rw [if_pos hw, if_pos ⟨hw.1, hw.2, rfl⟩]
    intro fin
    have hlt := kind_lt hL h.1 (by omega : (cur toks st.pos).kind ≠ 6)
    exact ⟨rfl, fin _ _ rfl hlt⟩
  · rw [if_neg hw, if_neg (fun k => hw ⟨k.1, k.2.1⟩), peek_ok, peek_ok]
    by_cases h1 : is toks [91] st.pos = true
    · have h2 : is toks [123] st.pos = false := by
        unfold is at h1 ⊢
        simp at h1 ⊢
        intro _ e; rw [h1.2] at e; cases e
      rw [if_pos h1, Ty.bnd_ok (show Ty.take toks [123] st = .ok (false, st) by unfold Ty.take; rw [if_neg (by rw [h2]; simp)]), if_neg (by simp),
        Ty.bnd_ok (show Ty.take toks [91] st = .ok (true, { st with pos := st.pos + 1 }) by unfold Ty.take; rw [if_pos h1]), if_pos rfl]
      intro fin
      have o1 := h.next hL h1
      have h3 := hT _ o1
      cases e3 : T { st with pos := st.pos + 1 } with
      | error f =>
        rw [e3] at h3
        obtain ⟨a, s3, g3, o3⟩ := h3
        rw [Ty.bnd_err e3]
        show ∃ a st', addT ⟨8, [], [], (g ⟨{ st with pos := st.pos + 1 }, none⟩).1⟩ (must toks [93] (g ⟨{ st with pos := st.pos + 1 }, none⟩).2) = _ ∧ _
        rw [g3, must_bad]
        exact ⟨_, _, rfl, off1 _ o3 _⟩
      | ok p =>
        obtain ⟨a, s3⟩ := p
        rw [e3] at h3
        obtain ⟨g3, o3⟩ := h3
        rw [Ty.bnd_ok e3] at fin ⊢
        rcases need_cases hL [93] o3 with ⟨s4, e4, o4, p4, _⟩ | ⟨f, e4⟩
        · rw [Ty.bnd_ok e4] at fin ⊢
          refine ⟨?_, fin _ _ rfl o4.1⟩
          show addT ⟨8, [], [], (g ⟨{ st with pos := st.pos + 1 }, none⟩).1⟩ (must toks [93] (g ⟨{ st with pos := st.pos + 1 }, none⟩).2) = _
          rw [g3, must_ok e4]
          rfl
        · rw [Ty.bnd_err e4]
          show ∃ a st', addT ⟨8, [], [], (g ⟨{ st with pos := st.pos + 1 }, none⟩).1⟩ (must toks [93] (g ⟨{ st with pos := st.pos + 1 }, none⟩).2) = _ ∧ _
          rw [g3, must_err e4]
          exact ⟨_, _, rfl, off1 _ (o3.off c) _⟩
    · rw [if_neg h1]
      by_cases h2 : is toks [123] st.pos = true
      · rw [if_pos h2, Ty.bnd_ok (show Ty.take toks [123] st = .ok (true, { st with pos := st.pos + 1 }) by unfold Ty.take; rw [if_pos h2]), if_pos rfl]
        intro fin
        have o1 := h.next hL h2
        have h3 := fields_sim hL hT hA hI (toks.length + 1) [] _ o1 (by omega)
        unfold Ty.object at fin ⊢
        cases e3 : Ty.fields toks T (toks.length + 1) [] { st with pos := st.pos + 1 } with
        | error f =>
          rw [e3] at h3
          obtain ⟨a, s3, g3, o3⟩ := h3
          rw [Ty.bnd_err e3]
          show ∃ a st', addT ⟨7, (fields toks g (toks.length + 1) [] ⟨{ st with pos := st.pos + 1 }, none⟩).1, [], 0⟩ (fields toks g (toks.length + 1) [] ⟨{ st with pos := st.pos + 1 }, none⟩).2 = _ ∧ _
          rw [g3]
          exact ⟨_, _, rfl, off1 _ o3 _⟩
        | ok p =>
          obtain ⟨a, s3⟩ := p
          rw [e3] at h3
          obtain ⟨g3, o3⟩ := h3
          rw [Ty.bnd_ok e3] at fin ⊢
          refine ⟨?_, fin _ _ rfl o3.1⟩
          show addT ⟨7, (fields toks g (toks.length + 1) [] ⟨{ st with pos := st.pos + 1 }, none⟩).1, [], 0⟩ (fields toks g (toks.length + 1) [] ⟨{ st with pos := st.pos + 1 }, none⟩).2 = _
          rw [g3]
          rfl
      · rw [if_neg h2, Ty.bnd_ok (show Ty.take toks [123] st = .ok (false, st) by unfold Ty.take; rw [if_neg h2]), if_neg (show ¬ (false = true) by simp),
          Ty.bnd_ok (show Ty.take toks [91] st = .ok (false, st) by unfold Ty.take; rw [if_neg h1]), if_neg (show ¬ (false = true) by simp)]
        intro fin
        have badround : ∀ l st' f, Off toks c st' → ∃ a st'', round toks g l ⟨st', some f⟩ = (a, ⟨st'', some f⟩) ∧ Off toks (c + 1) st'' := by
          intro l st' f o
          unfold round
          rw [show peek toks [61, 62] ⟨st', some f⟩ = false from by simp [peek], if_neg (show ¬ (false = true) by simp)]
          split
          · exact ⟨_, _, rfl, o.mono (by omega)⟩
          · exact ⟨_, _, rfl, o.mono (by omega)⟩
        rcases need_cases hL [40] h with ⟨s1, e1, o1, p1, _⟩ | ⟨f, e1⟩
        · rw [Ty.bnd_ok e1] at fin ⊢
          rw [must_ok e1]
          unfold Ty.round at fin ⊢
          have h3 := args_sim hL hT hA hI (toks.length + 1) [] s1 o1 (by omega)
          cases e3 : Ty.list toks [41] (fun _ => T) (toks.length + 1) [] s1 with
          | error f =>
            rw [e3] at h3
            obtain ⟨a, s3, g3, o3⟩ := h3
            rw [Ty.bnd_err e3, g3]
            exact badround _ _ _ o3
          | ok p =>
            obtain ⟨l, s3⟩ := p
            rw [e3] at h3
            obtain ⟨g3, o3⟩ := h3
            rw [Ty.bnd_ok e3] at fin ⊢
            rw [g3]
            dsimp only
            unfold round
            rw [peek_ok]
            by_cases h5 : is toks [61, 62] s3.pos = true
            · rw [Ty.bnd_ok (show Ty.take toks [61, 62] s3 = .ok (true, { s3 with pos := s3.pos + 1 }) by unfold Ty.take; rw [if_pos h5]), if_pos rfl] at fin ⊢
              rw [if_pos h5]
              have o5 := o3.next hL h5
              have h6 := hT _ o5
              cases e6 : T { s3 with pos := s3.pos + 1 } with
              | error f =>
                rw [e6] at h6
                obtain ⟨a, s6, g6, o6⟩ := h6
                rw [Ty.bnd_err e6]
                show ∃ a st', addT ⟨9, [], l, (g ⟨{ s3 with pos := s3.pos + 1 }, none⟩).1⟩ (g ⟨{ s3 with pos := s3.pos + 1 }, none⟩).2 = _ ∧ _
                rw [g6]
                exact ⟨_, _, rfl, off1 _ o6 _⟩
              | ok p =>
                obtain ⟨a, s6⟩ := p
                rw [e6] at h6
                obtain ⟨g6, o6⟩ := h6
                rw [Ty.bnd_ok e6] at fin ⊢
                refine ⟨?_, fin _ _ rfl o6.1⟩
                show addT ⟨9, [], l, (g ⟨{ s3 with pos := s3.pos + 1 }, none⟩).1⟩ (g ⟨{ s3 with pos := s3.pos + 1 }, none⟩).2 = _
                rw [g6]
                rfl
            · rw [Ty.bnd_ok (show Ty.take toks [61, 62] s3 = .ok (false, s3) by unfold Ty.take; rw [if_neg h5]), if_neg (show ¬ (false = true) by simp)] at fin ⊢
              rw [if_neg h5]
              by_cases hl : l.length = 1
              · rw [if_pos hl] at fin ⊢
                rw [if_neg (by omega)]
                exact ⟨rfl, o3⟩
              · rw [if_neg hl, if_pos hl]
                exact ⟨_, _, rfl, o3.off _⟩
        · rw [Ty.bnd_err e1, must_err e1, args_off]
          exact badround _ _ _ (h.off c)
omit hI in
theorem bars_sim : ∀ n l st, Ok toks st → 1 ≤ l.length → toks.length < st.pos + n → match Ty.bars toks T n l st with
    | .ok (l', st') => bars toks g n l ⟨st, none⟩ = (l', ⟨st', none⟩) ∧ Ok toks st' ∧ 1 ≤ l'.length
    | .error f => ∃ l' st', bars toks g n l ⟨st, none⟩ = (l', ⟨st', some f⟩) ∧ Off toks c st' ∧ 1 ≤ l'.length := by
  intro n
  induction n with
  | zero => intro l st h _ hf; have := h.1; omega
  | succ n ih =>
    intro l st h hl hf
    rw [Ty.bars, bars, peek_ok]
    by_cases hi : is toks [124] st.pos = true
    · rw [if_pos hi, Ty.bnd_ok (show Ty.take toks [124] st = .ok (true, { st with pos := st.pos + 1 }) by unfold Ty.take; rw [if_pos hi]), if_pos rfl]
      have o1 := h.next hL hi
      have h3 := hT _ o1
      cases e3 : T { st with pos := st.pos + 1 } with
      | error f =>
        rw [e3] at h3
        obtain ⟨a, s3, g3, o3⟩ := h3
        rw [Ty.bnd_err e3]
        show ∃ l' st', bars toks g n (l ++ [(g ⟨{ st with pos := st.pos + 1 }, none⟩).1]) (g ⟨{ st with pos := st.pos + 1 }, none⟩).2 = _ ∧ _
        rw [g3, bars_off]
        exact ⟨_, _, rfl, o3, by simp⟩
      | ok p =>
        obtain ⟨a, s3⟩ := p
        rw [e3] at h3
        obtain ⟨g3, o3⟩ := h3
        rw [Ty.bnd_ok e3]
        have a3 := hA _ _ _ e3
        have := ih (l ++ [a]) s3 o3 (by simp) (by dsimp only at a3; omega)
        show match Ty.bars toks T n (l ++ [a]) s3 with
          | .ok (l', st') => bars toks g n (l ++ [(g ⟨{ st with pos := st.pos + 1 }, none⟩).1]) (g ⟨{ st with pos := st.pos + 1 }, none⟩).2 = (l', ⟨st', none⟩) ∧ Ok toks st' ∧ 1 ≤ l'.length
          | .error f => ∃ l' st', bars toks g n (l ++ [(g ⟨{ st with pos := st.pos + 1 }, none⟩).1]) (g ⟨{ st with pos := st.pos + 1 }, none⟩).2 = (l', ⟨st', some f⟩) ∧ Off toks c st' ∧ 1 ≤ l'.length
        rw [g3]
        exact this
    · rw [if_neg hi, Ty.bnd_ok (show Ty.take toks [124] st = .ok (false, st) by unfold Ty.take; rw [if_neg hi]), if_neg (show ¬ (false = true) by simp)]
      exact ⟨rfl, h, hl⟩
end
theorem read_idle (toks : List Tk) : ∀ r, Idle (read toks r) := by
  intro r st x
  cases r <;> simp [read, wrong]
theorem read_sim {toks : List Tk} (hL : ∀ t, toks.getLast? = some t → t.kind = 6) : ∀ r, Sim toks r (Ty.typ toks r) (read toks r) := by
  intro r
  induction r with
  | zero =>
    intro st h
    exact ⟨0, st, rfl, h.off 0⟩
  | succ r ih =>
    intro st h
    have hadv := Ty.typ_adv toks (r + 1)
    have hone := one_sim hL ih (Ty.typ_adv toks r) (read_idle toks r)
    have hA1 := Ty.single_adv (toks := toks) (Ty.typ_adv toks r)
    have fin : ∀ a st', Ty.typ toks (r + 1) st = .ok (a, st') → st'.pos < toks.length → Ok toks st' := fun a st' e hp => by
      have := hadv _ _ _ e
      unfold Ok at *
      omega
    revert fin
    rw [Ty.typ, Ty.union, read, if_neg (show ¬ ((⟨st, none⟩ : RS).f.isSome = true) by simp)]
    have h1 := hone st h
    cases e1 : Ty.single toks (Ty.typ toks r) st with
    | error f =>
      rw [e1] at h1
      obtain ⟨a, s1, g1, o1⟩ := h1
      rw [Ty.bnd_err e1, g1]
      dsimp only
      rw [bars_off]
      intro _
      unfold unite
      rw [if_neg (by simp)]
      exact ⟨_, _, rfl, o1⟩
    | ok p =>
      obtain ⟨a, s1⟩ := p
      rw [e1] at h1
      obtain ⟨g1, o1⟩ := h1
      rw [Ty.bnd_ok e1, g1]
      dsimp only
      have h2 := bars_sim hL hone hA1 (toks.length + 1) [a] s1 o1 (by simp) (by omega)
      cases e2 : Ty.bars toks (Ty.single toks (Ty.typ toks r)) (toks.length + 1) [a] s1 with
      | error f =>
        rw [e2] at h2
        obtain ⟨l, s2, g2, o2, hl⟩ := h2
        rw [Ty.bnd_err e2, g2]
        intro _
        unfold unite
        rw [if_neg (by simp)]
        exact ⟨_, _, rfl, o2⟩
      | ok p =>
        obtain ⟨l, s2⟩ := p
        rw [e2] at h2
        obtain ⟨g2, o2, hl⟩ := h2
        rw [Ty.bnd_ok e2, g2]
        dsimp only
        intro fin
        unfold unite
        by_cases hl1 : l.length = 1
        · rw [if_pos hl1, if_neg (by omega)]
          exact ⟨rfl, o2⟩
        · rw [if_neg hl1] at fin ⊢
          rw [if_pos ⟨by omega, rfl⟩]
          exact ⟨rfl, fin _ _ rfl o2.1⟩
end Rd
end Go.Proofs.YtdlbhiaceheffaaGreatDoor

namespace Go.Proofs.YtdlbhiaceheffaaGreatDoor
namespace Rd
open Tok (Tk)
open Ty (Ft St Nd cur here is plainKind M)
/-- Where a reader stands: within the tokens; with k more types than tokens at most; and, if nothing is wrong, with j less types than tokens have been taken. -/
structure In (toks : List Tk) (k j : Nat) (s : RS) : Prop where
  pos : s.st.pos < toks.length
  good : s.f = none → s.st.ts.length + j ≤ s.st.pos ∧ s.st.ns.length + j ≤ s.st.pos + 1
  ts : s.st.ts.length ≤ toks.length + k
  ns : s.st.ns.length ≤ toks.length + 1 + k
theorem In.mono {toks : List Tk} {k j k' j' : Nat} {s : RS} (h : In toks k j s) (hk : k ≤ k' := by omega) (hj : j' ≤ j := by omega) : In toks k' j' s :=
  ⟨h.pos, fun e => by have := h.good e; omega, by have := h.ts; omega, by have := h.ns; omega⟩
theorem In.next {toks : List Tk} {k j : Nat} {s : RS} (h : In toks k j s) (hp : s.st.pos + 1 < toks.length) : In toks k (j + 1) (next s) :=
  ⟨hp, fun e => by have := h.good e; simp only [Rd.next]; omega, h.ts, h.ns⟩
theorem In.wrong {toks : List Tk} {k j : Nat} {s : RS} (h : In toks k j s) (e j' : Nat) : In toks k j' (wrong toks e s) := by
  obtain ⟨st, f⟩ := s
  cases f with
  | none => exact ⟨h.pos, fun e => (by cases e), h.ts, h.ns⟩
  | some x => exact ⟨h.pos, fun e => (by cases e), h.ts, h.ns⟩
theorem In.must {toks : List Tk} (hL : ∀ t, toks.getLast? = some t → t.kind = 6) {k j : Nat} {s : RS} (h : In toks k j s) (x : List UInt8) : In toks k (j + 1) (must toks x s) := by
  unfold Rd.must
  split
  · rename_i hi
    exact h.next (is_lt hL h.pos (by unfold peek at hi; simp at hi; exact hi.2))
  · exact h.wrong _ _
theorem In.ident {toks : List Tk} (hL : ∀ t, toks.getLast? = some t → t.kind = 6) {k j : Nat} {s : RS} (h : In toks k j s) (met : List ByteArray) : In toks k (j + 1) (ident toks met s).2 := by
  unfold Rd.ident
  split
  · exact h.wrong _ _
  · rename_i h1
    split
    · exact h.wrong _ _
    · exact h.next (kind_lt hL h.pos (by omega))
theorem In.addT {toks : List Tk} {k j : Nat} {s : RS} (h : In toks k (j + 1) s) (t : Ty.Ty) : In toks (k + 1) j (addT t s).2 :=
  ⟨h.pos, fun e => by have := h.good e; simp [Rd.addT]; omega, by have := h.ts; simp [Rd.addT]; omega, by have := h.ns; simp [Rd.addT]; omega⟩
theorem In.read {toks : List Tk} {k j c : Nat} {s : RS} (h : In toks k j s) {T : M Nat} {g : RS → Nat × RS} (hT : Sim toks c T g) (hA : Ty.Adv 1 0 0 T) (hI : Idle g) : In toks (max k c) j (g s).2 := by
  obtain ⟨st, f⟩ := s
  cases f with
  | some x => rw [hI]; exact h.mono
  | none =>
    have hg := h.good rfl
    have ho : Ok toks st := ⟨h.pos, by dsimp only at hg; omega, by dsimp only at hg; omega⟩
    have h1 := hT st ho
    cases e : T st with
    | error f =>
      rw [e] at h1
      obtain ⟨a, s1, g1, o1⟩ := h1
      rw [g1]
      exact ⟨o1.1, fun e => (by cases e), by have := o1.2.1; show s1.ts.length ≤ _; omega, by have := o1.2.2; show s1.ns.length ≤ _; omega⟩
    | ok p =>
      obtain ⟨a, s1⟩ := p
      rw [e] at h1
      obtain ⟨g1, o1⟩ := h1
      rw [g1]
      have a1 := hA _ _ _ e
      dsimp only at hg
      exact ⟨o1.1, fun _ => by dsimp only; omega, by have := o1.1; have := o1.2.1; dsimp only; omega, by have := o1.1; have := o1.2.2; dsimp only; omega⟩
theorem In.ok {toks : List Tk} {k j : Nat} {st : St} (h : In toks k j ⟨st, none⟩) : Ok toks st := ⟨h.pos, by have := h.good rfl; dsimp only at this; omega, by have := h.good rfl; dsimp only at this; omega⟩
/-- A step that is the model's, from where nothing is wrong. -/
theorem In.sim {α : Type} {toks : List Tk} {k j c : Nat} {s : RS} (h : In toks k j s) (hs : s.f = none) {T : M α} {g : RS → α × RS} (hT : Sim toks c T g) {d e : Int} (hA : Ty.Adv 0 d e T) (hd : 0 ≤ d := by omega) (he : 0 ≤ e := by omega) : In toks (max k c) j (g s).2 := by
  obtain ⟨st, f⟩ := s
  cases hs
  have hg := h.good rfl
  have h1 := hT st h.ok
  cases e : T st with
  | error f =>
    rw [e] at h1
    obtain ⟨a, s1, g1, o1⟩ := h1
    rw [g1]
    exact ⟨o1.1, fun e => (by cases e), by have := o1.2.1; show s1.ts.length ≤ _; omega, by have := o1.2.2; show s1.ns.length ≤ _; omega⟩
  | ok p =>
    obtain ⟨a, s1⟩ := p
    rw [e] at h1
    obtain ⟨g1, o1⟩ := h1
    rw [g1]
    have a1 := hA _ _ _ e
    dsimp only at hg
    exact ⟨o1.1, fun _ => by dsimp only; omega, by have := o1.1; have := o1.2.1; dsimp only; omega, by have := o1.1; have := o1.2.2; dsimp only; omega⟩
theorem must_good {toks : List Tk} {x : List UInt8} {s : RS} (h : (must toks x s).f = none) : s.f = none ∧ (must toks x s).st.pos = s.st.pos + 1 := by
  obtain ⟨st, f⟩ := s
  cases f with
  | some y => rw [must_bad] at h; cases h
  | none =>
    refine ⟨rfl, ?_⟩
    unfold Rd.must at h ⊢
    split
    · rfl
    · rename_i hi; rw [if_neg hi] at h; cases h
theorem ident_good {toks : List Tk} {met : List ByteArray} {s : RS} (h : (ident toks met s).2.f = none) : s.f = none ∧ (ident toks met s).2.st.pos = s.st.pos + 1 := by
  obtain ⟨st, f⟩ := s
  unfold Rd.ident at h ⊢
  split
  · rename_i h1; rw [if_pos h1] at h; cases f <;> cases h
  · rename_i h1
    rw [if_neg h1] at h
    split
    · rename_i h2; rw [if_pos h2] at h; cases f <;> cases h
    · rename_i h2; rw [if_neg h2] at h; exact ⟨h, rfl⟩
theorem read_good {toks : List Tk} {k j c : Nat} {s : RS} (h : In toks k j s) {T : M Nat} {g : RS → Nat × RS} (hT : Sim toks c T g) (hA : Ty.Adv 1 0 0 T) (hI : Idle g) (hg : (g s).2.f = none) : s.f = none ∧ s.st.pos < (g s).2.st.pos := by
  obtain ⟨st, f⟩ := s
  cases f with
  | some x => rw [hI] at hg; cases hg
  | none =>
    refine ⟨rfl, ?_⟩
    have h1 := hT st h.ok
    cases e : T st with
    | error f =>
      rw [e] at h1
      obtain ⟨a, s1, g1, o1⟩ := h1
      rw [g1] at hg; cases hg
    | ok p =>
      obtain ⟨a, s1⟩ := p
      rw [e] at h1
      rw [h1.1]
      have := hA _ _ _ e
      show st.pos < s1.pos
      omega
end Rd
end Go.Proofs.YtdlbhiaceheffaaGreatDoor
