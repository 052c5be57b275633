/- Plain definitions and facts on bytes, texts and tokens: what the scanners compute. No program in sight. -/
import Derived.Lib.Hide
set_option linter.all false
namespace Go.Proofs.YtdlbhiaceheffabGreatDoor
section
theorem qh {p : Prop} (h : p) : Go.RowKit.Hid p := h
def lyA := @List.getElem_toArray
def lyB := @List.getElem_cons_zero
def lyC := @List.getElem_cons_succ
def lyD := @List.setIfInBounds_toArray
def lyE := @List.set_cons_zero
def lyF := @List.set_cons_succ
theorem lzA {α : Type} {a b : List α} : (a ++ b).length = a.length + b.length := List.length_append
theorem lzC {α : Type} {a : α} {l : List α} : (a :: l).length = l.length + 1 := rfl
theorem lzN {α : Type} : ([] : List α).length = 0 := rfl
end
section
namespace Tok
def isDigit (c : UInt8) : Bool := decide (48 ≤ c.toNat) && decide (c.toNat ≤ 57)
def isLetter (c : UInt8) : Bool := decide (97 ≤ c.toNat) && decide (c.toNat ≤ 122) || (decide (65 ≤ c.toNat) && decide (c.toNat ≤ 90)) || decide (c.toNat = 95)
def isPart (c : UInt8) : Bool := isLetter c || isDigit c
def isPlain (c : UInt8) : Bool := decide (32 ≤ c.toNat) && decide (c.toNat ≤ 126) && !decide (c.toNat = 34)
def stop (p : UInt8 → Bool) (s : ByteArray) (k : Nat) : Nat := k + ((s.data.toList.drop k).takeWhile p).length
theorem drop_cons (s : ByteArray) (k : Nat) (h : k < s.size) : s.data.toList.drop k = s[k] :: s.data.toList.drop (k + 1) := by
 have h' : k < s.data.toList.length := by simpa using h
 rw [List.drop_eq_getElem_cons h']; rfl
theorem stop_step {p : UInt8 → Bool} {s : ByteArray} {k : Nat} (h : k < s.size) (hp : p s[k] = true) : stop p s (k + 1) = stop p s k := by
 unfold stop; rw [drop_cons s k h]; simp [hp]; omega
theorem stop_here {p : UInt8 → Bool} {s : ByteArray} {k : Nat} (h : k < s.size) (hp : p s[k] = false) : stop p s k = k := by
 unfold stop; rw [drop_cons s k h]; simp [hp]
theorem stop_end {p : UInt8 → Bool} {s : ByteArray} {k : Nat} (h : s.size ≤ k) : stop p s k = k := by
 unfold stop; rw [List.drop_eq_nil_of_le (by simpa using h)]; simp
theorem stop_ge (p : UInt8 → Bool) (s : ByteArray) (k : Nat) : k ≤ stop p s k := by unfold stop; omega
theorem stop_le (p : UInt8 → Bool) (s : ByteArray) (k : Nat) (h : k ≤ s.size) : stop p s k ≤ s.size := by
 unfold stop
 have h1 : ((s.data.toList.drop k).takeWhile p).length ≤ (s.data.toList.drop k).length := (List.takeWhile_sublist p).length_le
 have h2 : (s.data.toList.drop k).length = s.size - k := by simp
 omega
def wordsL : List (List UInt8) :=
 [[108, 101, 116], [102, 110], [105, 102], [101, 108, 115, 101], [119, 104, 105, 108, 101], [114, 101, 116, 117, 114, 110], [112, 114, 105, 110, 116], [116, 114, 117, 101], [102, 97, 108, 115, 101], [110, 117, 108, 108], [97, 115], [116, 121, 112, 101, 111, 102], [110, 117, 109], [98, 111, 111, 108], [116, 101, 120, 116], [97, 110, 121], [117, 110, 107, 110, 111, 119, 110]]
def words : List ByteArray := wordsL.map fun l => ⟨l.toArray⟩
def isWord (x : ByteArray) : Bool := decide (x.data.toList ∈ wordsL)
theorem isWord_iff (x : ByteArray) : isWord x = true ↔ x ∈ words := by
 unfold isWord words
 simp only [decide_eq_true_eq, List.mem_map]
 constructor
 · intro h; exact ⟨_, h, by cases x; rfl⟩
 · rintro ⟨l, hl, rfl⟩; exact hl
structure Tk where
 kind : Nat
 text : ByteArray
 pos : Nat
def isSign (c : UInt8) : Bool := decide (c ∈ [40, 41, 123, 125, 91, 93, 44, 59, 58, 46, 61, 60, 43, 45, 42, 33, 124].map (fun n : Nat => n.toUInt8))
def byte (s : ByteArray) (k : Nat) : UInt8 := s.data.toList.getD k 0
def two (s : ByteArray) (k : Nat) : Bool := decide (k + 1 < s.size) && byte s k == 61 && (byte s (k + 1) == 61 || byte s (k + 1) == 62)
def next (s : ByteArray) (k : Nat) : Tk × Nat × Bool :=
 let c := byte s k
 if isLetter c then
   let e := stop isPart s k
   (⟨if isWord (s.extract k e) then 2 else 1, s.extract k e, k⟩, e - k, decide (e - k ≤ 20))
 else if isDigit c then
   let e := stop isDigit s k
   (⟨3, s.extract k e, k⟩, e - k, decide (e - k ≤ 9) && (decide (e - k = 1) || !decide (c = 48)))
 else if c = 34 then
   let e := stop isPlain s (k + 1)
   (⟨4, s.extract (k + 1) e, k⟩, e - k + 1, decide (e - (k + 1) ≤ 30) && (decide (e < s.size) && decide (byte s e = 34)))
 else if two s k then (⟨5, s.extract k (k + 2), k⟩, 2, true)
 else (⟨5, s.extract k (k + 1), k⟩, 1, isSign c)
abbrev Res := Except (Nat × Nat) (List Tk)
def scanFrom (s : ByteArray) : Nat → Nat → List Tk → Res
 | 0, _, out => .ok out
 | f + 1, k, out =>
   if k < s.size then
     if byte s k = 32 ∨ byte s k = 10 then scanFrom s f (k + 1) out
     else if (next s k).2.2 = false then .error (1, k)
     else if out.length = 1000 then .error (2, k)
     else scanFrom s f (k + (next s k).2.1) (out ++ [(next s k).1])
   else .ok (out ++ [⟨6, ⟨#[]⟩, s.size⟩])
def scan (s : ByteArray) : Res := if 4000 < s.size then .error (2, 0) else scanFrom s (s.size + 1) 0 []
theorem byte_eq (s : ByteArray) (k : Nat) (h : k < s.size) : byte s k = s[k] := by
 have h' : k < s.data.toList.length := by simpa using h
 unfold byte
 rw [List.getD_eq_getElem?_getD, List.getElem?_eq_getElem h']; rfl
theorem byte_extract (s : ByteArray) (k e i : Nat) (h : i < (s.extract k e).size) : (s.extract k e)[i] = byte s (k + i) := by
 have hh : i < min e s.size - k := by simpa using h
 rw [ByteArray.getElem_extract, byte_eq s (k + i) (by omega)]
theorem is48 (c : UInt8) : c = 48 ↔ (c.toNat : Int) = 48 := by rw [← UInt8.toNat_inj]; simp; omega
theorem is34 (c : UInt8) : c = 34 ↔ (c.toNat : Int) = 34 := by rw [← UInt8.toNat_inj]; simp; omega
theorem is32 (c : UInt8) : c = 32 ↔ (c.toNat : Int) = 32 := by rw [← UInt8.toNat_inj]; simp; omega
theorem is10 (c : UInt8) : c = 10 ↔ (c.toNat : Int) = 10 := by rw [← UInt8.toNat_inj]; simp; omega
theorem take_drop_size (s : ByteArray) (k : Nat) : List.take (s.size - k) (List.drop k s.data.toList) = List.drop k s.data.toList := List.take_of_length_le (by simp)
theorem prefix2 (s : ByteArray) (k : Nat) (a b : UInt8) : List.isPrefixOf [a, b] (List.drop k s.data.toList) = (decide (k + 1 < s.size) && (byte s k == a && byte s (k + 1) == b)) := by
 by_cases h : k + 1 < s.size
 · rw [drop_cons s k (by omega), drop_cons s (k + 1) h, byte_eq s k (by omega), byte_eq s (k + 1) h]
   simp [List.isPrefixOf, h, BEq.comm]
 · by_cases h1 : k < s.size
   · rw [drop_cons s k h1, List.drop_eq_nil_of_le (by simp; omega)]
     simp [List.isPrefixOf, h]
   · rw [List.drop_eq_nil_of_le (by simp; omega)]
     simp [List.isPrefixOf, h]
theorem two_eq (s : ByteArray) (k : Nat) : two s k = (List.isPrefixOf [61, 61] (List.drop k s.data.toList) || List.isPrefixOf [61, 62] (List.drop k s.data.toList)) := by
 rw [prefix2, prefix2]
 unfold two
 cases decide (k + 1 < s.size) <;> cases byte s k == 61 <;> simp
theorem two_size (s : ByteArray) (k : Nat) (h : two s k = true) : k + 1 < s.size := by
 unfold two at h
 simp at h; exact h.1.1
theorem extract2 (s : ByteArray) (k : Nat) (a b : UInt8) (h : List.isPrefixOf [a, b] (List.drop k s.data.toList) = true) : s.extract k (k + 2) = ⟨#[a, b]⟩ := by
 rw [prefix2] at h
 simp at h
 obtain ⟨h1, h2, h3⟩ := h
 apply ByteArray.ext
 apply Array.ext'
 rw [byte_eq s k (by omega)] at h2
 rw [byte_eq s (k + 1) h1] at h3
 have hd := drop_cons s k (by omega)
 have hd' := drop_cons s (k + 1) h1
 simp only [ByteArray.data_extract, Array.toList_extract, List.extract_eq_take_drop, hd, hd', h2, h3]
 simp
theorem next_bound (s : ByteArray) (k : Nat) (h : k < s.size) (ok : (next s k).2.2 = true) : 1 ≤ (next s k).2.1 ∧ k + (next s k).2.1 ≤ s.size := by
 unfold next at ok ⊢
 by_cases hl : isLetter (byte s k) = true
 · simp only [hl, if_true] at ok ⊢
   have h1 := stop_step (p := isPart) h (by rw [← byte_eq]; simp [isPart, hl])
   have h2 := stop_ge isPart s (k + 1)
   have h3 := stop_le isPart s k (by omega)
   omega
 · by_cases hd : isDigit (byte s k) = true
   · simp only [hl, hd, if_true] at ok ⊢
     have h1 := stop_step (p := isDigit) h (by rw [← byte_eq]; exact hd)
     have h2 := stop_ge isDigit s (k + 1)
     have h3 := stop_le isDigit s k (by omega)
     simp only [Bool.false_eq_true, if_false]
     omega
   · by_cases hq : byte s k = 34
     · simp only [hl, hd, if_false, Bool.false_eq_true] at ok ⊢
       rw [if_pos hq] at ok ⊢
       have h2 := stop_ge isPlain s (k + 1)
       have h3 : stop isPlain s (k + 1) < s.size := by simp at ok; exact ok.2.1
       show 1 ≤ stop isPlain s (k + 1) - k + 1 ∧ k + (stop isPlain s (k + 1) - k + 1) ≤ s.size
       omega
     · by_cases ht : two s k = true
       · simp only [hl, hd, hq, ht, if_true, if_false, Bool.false_eq_true] at ok ⊢
         have := two_size s k ht
         omega
       · simp only [hl, hd, hq, ht, if_false, Bool.false_eq_true] at ok ⊢
         omega
theorem extract_two (s : ByteArray) (k : Nat) (h : k + 1 < s.size) : (s.extract k (k + 2)).data.toList = [byte s k, byte s (k + 1)] := by
 have hd := drop_cons s k (by omega)
 have hd' := drop_cons s (k + 1) h
 rw [← byte_eq s k (by omega)] at hd
 rw [← byte_eq s (k + 1) h] at hd'
 simp only [ByteArray.data_extract, Array.toList_extract, List.extract_eq_take_drop, hd, hd']
 simp
theorem two_bytes (s : ByteArray) (k : Nat) (h : k + 1 < s.size) : two s k = ((s.extract k (k + 2)).data.toList == [61, 61] || (s.extract k (k + 2)).data.toList == [61, 62]) := by
 rw [extract_two s k h]
 unfold two
 rw [Bool.eq_iff_iff]
 simp [h]
 constructor
 · rintro ⟨h1, h2 | h2⟩
   · exact .inl ⟨h1, h2⟩
   · exact .inr ⟨h1, h2⟩
 · rintro (⟨h1, h2⟩ | ⟨h1, h2⟩)
   · exact ⟨h1, .inl h2⟩
   · exact ⟨h1, .inr h2⟩
def signsL : List UInt8 := [40, 41, 123, 125, 91, 93, 44, 59, 58, 46, 61, 60, 43, 45, 42, 33, 124]
def signTo (c : UInt8) (i : Nat) : Bool := (signsL.take i).any (fun x => x == c)
theorem signTo_step (c : UInt8) (i : Nat) (h : i < 17) : signTo c (i + 1) = (signTo c i || signsL.getD i 0 == c) := by
 unfold signTo
 have h' : i < signsL.length := h
 rw [List.take_succ_eq_append_getElem h', List.any_append, List.getD_eq_getElem?_getD, List.getElem?_eq_getElem h']
 simp
theorem signTo_fin : ∀ n : Fin 256, signTo (UInt8.ofNat n.val) 17 = isSign (UInt8.ofNat n.val) := by decide +kernel
theorem signTo_all (c : UInt8) : signTo c 17 = isSign c := by
 have h := signTo_fin ⟨c.toNat, c.toNat_lt⟩
 simpa using h
theorem signs_at : ∀ i : Fin 17, (⟨#[40, 41, 123, 125, 91, 93, 44, 59, 58, 46, 61, 60, 43, 45, 42, 33, 124]⟩ : ByteArray)[i.val]'(i.isLt) = signsL.getD i.val 0 := by decide +kernel
end Tok
end
section
namespace Tok
theorem scanFrom_ok (s : ByteArray) : ∀ (f k : Nat) (o l : List Tk), k ≤ s.size → s.size < k + f → o.length ≤ 1000 → scanFrom s f k o = .ok l → l ≠ [] ∧ l.length ≤ 1001 := by
 intro f
 induction f with
 | zero => intro k o l hk hf; omega
 | succ f ih =>
   intro k o l hk hf ho h
   rw [scanFrom] at h
   by_cases hlt : k < s.size
   · rw [if_pos hlt] at h
     by_cases hb : byte s k = 32 ∨ byte s k = 10
     · rw [if_pos hb] at h
       exact ih (k + 1) o l (by omega) (by omega) ho h
     · rw [if_neg hb] at h
       by_cases hok : (next s k).2.2 = false
       · rw [if_pos hok] at h; cases h
       · rw [if_neg hok] at h
         by_cases hl : o.length = 1000
         · rw [if_pos hl] at h; cases h
         · rw [if_neg hl] at h
           have hn := next_bound s k hlt (by simpa using hok)
           exact ih _ _ l (by omega) (by omega) (by simp; omega) h
   · rw [if_neg hlt] at h
     obtain rfl := Except.ok.inj h
     simp; omega
theorem scan_ok (s : ByteArray) (l : List Tk) (h : scan s = .ok l) : l ≠ [] ∧ l.length ≤ 1001 ∧ s.size ≤ 4000 := by
 unfold scan at h
 by_cases hs : 4000 < s.size
 · rw [if_pos hs] at h; cases h
 · rw [if_neg hs] at h
   have := scanFrom_ok s (s.size + 1) 0 [] l (by omega) (by omega) (by simp) h
   exact ⟨this.1, this.2, by omega⟩
end Tok
end
section
namespace Ty
open Tok (Tk)
structure Ty where
 kind : Nat
 fields : List (ByteArray × Nat)
 list : List Nat
 of : Nat
structure Nd where
 kind : Nat
 a : Nat
 b : Nat
 c : Int
 list : List Nat
 text : ByteArray
 n : Nat
 ty : Int
 pos : Nat
abbrev Ft := Nat × Nat
structure St where
 pos : Nat
 ts : List Ty
 ns : List Nd
def M (α : Type) := St → Except Ft (α × St)
def ret {α : Type} (a : α) : M α := fun s => .ok (a, s)
def bnd {α β : Type} (m : M α) (k : α → M β) : M β := fun s => match m s with
 | .error e => .error e
 | .ok (a, s') => k a s'
theorem bnd_ok {α β : Type} {m : M α} {k : α → M β} {s s' : St} {a : α} (h : m s = .ok (a, s')) : bnd m k s = k a s' := by unfold bnd; rw [h]
theorem bnd_err {α β : Type} {m : M α} {k : α → M β} {s : St} {e : Ft} (h : m s = .error e) : bnd m k s = .error e := by unfold bnd; rw [h]
theorem bnd_inv {α β : Type} {m : M α} {k : α → M β} {s s' : St} {b : β} (h : bnd m k s = .ok (b, s')) : ∃ a s1, m s = .ok (a, s1) ∧ k a s1 = .ok (b, s') := by
 unfold bnd at h
 split at h
 · cases h
 · rename_i a s1 e; exact ⟨a, s1, e, h⟩
def cur (af : List Tk) (pos : Nat) : Tk := (af[pos]?).getD ⟨6, ⟨#[]⟩, 0⟩
def here (af : List Tk) (e pos : Nat) : Ft := (e, (cur af pos).pos)
def is (af : List Tk) (s : List UInt8) (pos : Nat) : Bool := (decide ((cur af pos).kind = 5) || decide ((cur af pos).kind = 2)) && decide ((cur af pos).text.data.toList = s)
def fail {α : Type} (af : List Tk) (e : Nat) : M α := fun s => .error (here af e s.pos)
def step : M Unit := fun s => .ok ((), { s with pos := s.pos + 1 })
def take (af : List Tk) (x : List UInt8) : M Bool := fun s => if is af x s.pos then .ok (true, { s with pos := s.pos + 1 }) else .ok (false, s)
def need (af : List Tk) (x : List UInt8) : M Unit := fun s => if is af x s.pos then .ok ((), { s with pos := s.pos + 1 }) else .error (here af 1 s.pos)
def name (af : List Tk) (met : List ByteArray) : M ByteArray := fun s =>
 if (cur af s.pos).kind ≠ 1 then .error (here af 1 s.pos)
 else if (cur af s.pos).text.data.toList ∈ met.map (fun t => t.data.toList) then .error (here af 6 s.pos)
 else .ok ((cur af s.pos).text, { s with pos := s.pos + 1 })
def newType (t : Ty) : M Nat := fun s => .ok (s.ts.length, { s with ts := s.ts ++ [t] })
def plains : List (List UInt8) := [[110, 117, 109], [98, 111, 111, 108], [116, 101, 120, 116], [110, 117, 108, 108], [97, 110, 121], [117, 110, 107, 110, 111, 119, 110]]
def plainKind (x : ByteArray) : Nat := match plains.idxOf? x.data.toList with | some i => i + 1 | none => 0
def list {α : Type} (af : List Tk) (e : List UInt8) (m : List α → M α) : Nat → List α → M (List α)
 | 0, _ => fail af 1
 | f + 1, l => bnd (take af e) fun b => if b then ret l else
     bnd (if l.length = 0 then ret () else need af [44]) fun _ => bnd (m l) fun n => list af e m f (l ++ [n])
def fields (af : List Tk) (T : M Nat) : Nat → List (ByteArray × Nat) → M (List (ByteArray × Nat))
 | 0, _ => fail af 1
 | f + 1, l => bnd (take af [125]) fun b => if b then ret l else
     bnd (name af (l.map Prod.fst)) fun s => bnd (need af [58]) fun _ => bnd T fun n => bnd (need af [59]) fun _ => fields af T f (l ++ [(s, n)])
def object (af : List Tk) (T : M Nat) : M Nat := bnd (fields af T (af.length + 1) []) fun l => newType ⟨7, l, [], 0⟩
def round (af : List Tk) (T : M Nat) : M Nat :=
 bnd (list af [41] (fun _ => T) (af.length + 1) []) fun l => bnd (take af [61, 62]) fun b =>
   if b then bnd T fun n => newType ⟨9, [], l, n⟩
   else if l.length = 1 then ret (l.headD 0) else fail af 1
def single (af : List Tk) (T : M Nat) : M Nat := fun s =>
 if (cur af s.pos).kind = 2 ∧ plainKind (cur af s.pos).text > 0 then bnd step (fun _ => newType ⟨plainKind (cur af s.pos).text, [], [], 0⟩) s
 else bnd (take af [123]) (fun b => if b then object af T else
   bnd (take af [91]) fun b => if b then bnd T fun n => bnd (need af [93]) fun _ => newType ⟨8, [], [], n⟩ else
     bnd (need af [40]) fun _ => round af T) s
def bars (af : List Tk) (S : M Nat) : Nat → List Nat → M (List Nat)
 | 0, _ => fail af 1
 | f + 1, l => bnd (take af [124]) fun b => if b then bnd S fun n => bars af S f (l ++ [n]) else ret l
def union (af : List Tk) (S : M Nat) : M Nat :=
 bnd S fun n => bnd (bars af S (af.length + 1) [n]) fun l => if l.length = 1 then ret (l.headD 0) else newType ⟨10, [], l, 0⟩
def typ (af : List Tk) : Nat → M Nat
 | 0 => fail af 8
 | r + 1 => union af (single af (typ af r))
def Adv {α : Type} (d c e : Int) (m : M α) : Prop := ∀ s a s', m s = .ok (a, s') → (s.pos : Int) + d ≤ s'.pos ∧ (s'.ts.length : Int) + s.pos + c ≤ s.ts.length + s'.pos ∧ (s'.ns.length : Int) + s.pos + e ≤ s.ns.length + s'.pos
theorem Adv.mono {α : Type} {d c e d' c' e' : Int} {m : M α} (h : Adv d c e m) (hd : d' ≤ d := by omega) (hc : c' ≤ c := by omega) (he : e' ≤ e := by omega) : Adv d' c' e' m := fun s a s' k => by have := h s a s' k; omega
theorem Adv.ret {α : Type} (a : α) : Adv 0 0 0 (ret a) := fun s b s' e => by cases e; simp
theorem Adv.fail {α : Type} (af : List Tk) (n : Nat) (d c e : Int) : Adv d c e (fail (α := α) af n) := fun s b s' h => by cases h
theorem Adv.step : Adv 1 1 1 step := fun s b s' e => by cases e; simp; omega
theorem Adv.need (af : List Tk) (x : List UInt8) : Adv 1 1 1 (need af x) := fun s b s' e => by
 unfold Ty.need at e
 split at e
 · cases e; simp; omega
 · cases e
theorem Adv.name (af : List Tk) (met : List ByteArray) : Adv 1 1 1 (name af met) := fun s b s' e => by
 unfold Ty.name at e
 split at e
 · cases e
 · split at e
   · cases e
   · cases e; simp; omega
theorem Adv.newType (t : Ty) : Adv 0 (-1) 0 (newType t) := fun s b s' e => by cases e; simp; omega
theorem Adv.bnd {α β : Type} {m : M α} {k : α → M β} {d c e d' c' e' : Int} (h : Adv d c e m) (g : ∀ a, Adv d' c' e' (k a)) : Adv (d + d') (c + c') (e + e') (Ty.bnd m k) := fun s b s' x => by
 obtain ⟨a, s1, e1, e2⟩ := bnd_inv x
 have := h _ _ _ e1
 have := g a _ _ _ e2
 omega
theorem Adv.take {β : Type} (af : List Tk) (x : List UInt8) {k : Bool → M β} {d c e : Int} (h1 : Adv (d - 1) (c - 1) (e - 1) (k true)) (h2 : Adv d c e (k false)) : Adv d c e (Ty.bnd (Ty.take af x) k) := fun s b s' y => by
 obtain ⟨a, s1, e1, e2⟩ := bnd_inv y
 unfold Ty.take at e1
 split at e1 <;> cases e1
 · have := h1 _ _ _ e2
   simp at this; omega
 · exact h2 _ _ _ e2
theorem Adv.ite {α : Type} {p : Prop} [Decidable p] {m n : M α} {d c e : Int} (h : p → Adv d c e m) (g : ¬ p → Adv d c e n) : Adv d c e (if p then m else n) := by
 split
 · exact h ‹_›
 · exact g ‹_›
theorem list_adv {α : Type} {af : List Tk} {x : List UInt8} {m : List α → M α} (hm : ∀ l, Adv 1 0 0 (m l)) : ∀ f l, Adv 1 1 1 (list af x m f l)
 | 0, _ => Adv.fail _ _ _ _ _
 | f + 1, l => by
   refine Adv.take _ _ ?_ ?_
   · simp only [if_true]; exact (Adv.ret l).mono
   · simp only [Bool.false_eq_true, if_false]
     exact ((Adv.ite (d := 0) (c := 0) (e := 0) (fun _ => Adv.ret ()) (fun _ => (Adv.need _ _).mono)).bnd fun _ => (hm l).bnd fun n => list_adv hm f (l ++ [n])).mono
theorem fields_adv {af : List Tk} {T : M Nat} (hT : Adv 1 0 0 T) : ∀ f l, Adv 1 1 1 (fields af T f l)
 | 0, _ => Adv.fail _ _ _ _ _
 | f + 1, l => by
   refine Adv.take _ _ ?_ ?_
   · simp only [if_true]; exact (Adv.ret l).mono
   · simp only [Bool.false_eq_true, if_false]
     exact ((Adv.name _ _).bnd fun s => (Adv.need _ _).bnd fun _ => hT.bnd fun n => (Adv.need _ _).bnd fun _ => fields_adv hT f (l ++ [(s, n)])).mono
theorem object_adv {af : List Tk} {T : M Nat} (hT : Adv 1 0 0 T) : Adv 1 0 0 (object af T) := ((fields_adv hT _ _).bnd fun _ => Adv.newType _).mono
theorem round_adv {af : List Tk} {T : M Nat} (hT : Adv 1 0 0 T) : Adv 1 0 0 (round af T) :=
 ((list_adv (fun _ => hT) _ _).bnd (d' := 0) (c' := 0) (e' := 0) fun l => Adv.take _ _ (by simp only [if_true]; exact (hT.bnd fun n => Adv.newType _).mono)
   (by simp only [Bool.false_eq_true, if_false]; exact Adv.ite (fun _ => Adv.ret _) (fun _ => Adv.fail _ _ _ _ _))).mono
theorem single_adv {af : List Tk} {T : M Nat} (hT : Adv 1 0 0 T) : Adv 1 0 0 (single af T) := fun s a s' h => by
 unfold single at h
 split at h
 · exact (Adv.step.bnd fun _ => Adv.newType _).mono (by omega) (by omega) (by omega) s a s' h
 · revert h
   refine (show Adv 1 0 0 _ from ?_) s a s'
   refine Adv.take _ _ ?_ ?_
   · simp only [if_true]; exact (object_adv hT).mono
   · simp only [Bool.false_eq_true, if_false]
     refine Adv.take _ _ ?_ ?_
     · simp only [if_true]; exact (hT.bnd fun n => (Adv.need _ _).bnd fun _ => Adv.newType _).mono
     · simp only [Bool.false_eq_true, if_false]; exact ((Adv.need _ _).bnd fun _ => round_adv hT).mono
theorem bars_adv {af : List Tk} {S : M Nat} (hS : Adv 1 0 0 S) : ∀ f l s l' s', bars af S f l s = .ok (l', s') → l.length ≤ l'.length ∧ s.pos ≤ s'.pos ∧ s'.ts.length + s.pos + l'.length ≤ s.ts.length + s'.pos + l.length ∧ s'.ns.length + s.pos + l'.length ≤ s.ns.length + s'.pos + l.length
 | 0, _, s, l', s', h => by cases h
 | f + 1, l, s, l', s', h => by
   obtain ⟨b, s1, e1, e2⟩ := bnd_inv h
   unfold Ty.take at e1
   split at e1 <;> cases e1
   · simp only [if_true] at e2
     obtain ⟨n, s2, e3, e4⟩ := bnd_inv e2
     have a1 := hS _ _ _ e3
     have a2 := bars_adv hS f _ _ _ _ e4
     simp at a1 a2
     omega
   · simp only [Bool.false_eq_true, if_false] at e2
     cases e2; simp
theorem union_adv {af : List Tk} {S : M Nat} (hS : Adv 1 0 0 S) : Adv 1 0 0 (union af S) := fun s a s' h => by
 obtain ⟨n, s1, e1, e2⟩ := bnd_inv h
 obtain ⟨l, s2, e3, e4⟩ := bnd_inv e2
 have a1 := hS _ _ _ e1
 have a2 := bars_adv hS _ _ _ _ _ e3
 simp at a2
 split at e4
 · cases e4; omega
 · cases e4; simp; omega
theorem typ_adv (af : List Tk) : ∀ r, Adv 1 0 0 (typ af r)
 | 0 => Adv.fail _ _ _ _ _
 | r + 1 => union_adv (single_adv (typ_adv af r))
end Ty
end
section
namespace Tok
def ends (t : Tk) : Nat := t.pos + t.text.size + if t.kind = 4 then 2 else 0
def plainKind (k : Nat) : Bool := decide (k = 1) || decide (k = 2) || decide (k = 3)
def bad (pk : Nat) (t : Tk) (a : Nat) : Bool := plainKind t.kind && decide (t.pos = a) && plainKind pk && !(decide (pk = 3) && !decide (t.kind = 3))
def apart (s : ByteArray) : Nat → Nat → List Tk → Prop
 | a, pk, [] => a = s.size ∧ pk = 6
 | a, pk, t :: r => a ≤ t.pos ∧ t.pos ≤ s.size ∧ (∀ k, a ≤ k → k < t.pos → byte s k = 32 ∨ byte s k = 10) ∧ bad pk t a = false ∧ ends t ≤ s.size ∧ apart s (ends t) t.kind r
theorem scanFrom_err (s : ByteArray) : ∀ (f k : Nat) (o : List Tk) (e p : Nat), scanFrom s f k o = .error (e, p) → e = 1 ∨ e = 2 := by
 intro f
 induction f with
 | zero => intro k o e p h; cases h
 | succ f ih =>
   intro k o e p h
   rw [scanFrom] at h
   by_cases hlt : k < s.size
   · rw [if_pos hlt] at h
     by_cases hb : byte s k = 32 ∨ byte s k = 10
     · rw [if_pos hb] at h; exact ih _ _ _ _ h
     · rw [if_neg hb] at h
       by_cases hok : (next s k).2.2 = false
       · rw [if_pos hok] at h
         have := Except.error.inj h
         simp only [Prod.mk.injEq] at this; omega
       · rw [if_neg hok] at h
         by_cases hl : o.length = 1000
         · rw [if_pos hl] at h
           have := Except.error.inj h
           simp only [Prod.mk.injEq] at this; omega
         · rw [if_neg hl] at h; exact ih _ _ _ _ h
   · rw [if_neg hlt] at h; cases h
theorem scan_err (s : ByteArray) (e p : Nat) (h : scan s = .error (e, p)) : e = 1 ∨ e = 2 := by
 unfold scan at h
 by_cases hs : 4000 < s.size
 · rw [if_pos hs] at h
   have := Except.error.inj h
   simp only [Prod.mk.injEq] at this; omega
 · rw [if_neg hs] at h; exact scanFrom_err s _ _ _ e p h
end Tok
end
section
namespace Ty
open Tok (Tk)
def Bad {α : Type} (m : M α) : Prop := ∀ s f, m s = .error f → f.1 ≠ 0 ∧ f.1 ≤ 9
theorem Bad.ret {α : Type} (a : α) : Bad (ret a) := fun s f h => by cases h
theorem Bad.fail {α : Type} (af : List Tk) (n : Nat) (hn : n ≠ 0 ∧ n ≤ 9 := by omega) : Bad (fail (α := α) af n) := fun s f h => by cases h; exact hn
theorem Bad.step : Bad step := fun s f h => by cases h
theorem Bad.take (af : List Tk) (x : List UInt8) : Bad (take af x) := fun s f h => by unfold Ty.take at h; split at h <;> cases h
theorem Bad.need (af : List Tk) (x : List UInt8) : Bad (need af x) := fun s f h => by unfold Ty.need at h; split at h <;> cases h; simp [here]
theorem Bad.name (af : List Tk) (met : List ByteArray) : Bad (name af met) := fun s f h => by
 unfold Ty.name at h
 split at h
 · cases h; simp [here]
 · split at h
   · cases h; simp [here]
   · cases h
theorem Bad.newType (t : Ty) : Bad (newType t) := fun s f h => by cases h
theorem Bad.bnd {α β : Type} {m : M α} {k : α → M β} (h : Bad m) (g : ∀ a, Bad (k a)) : Bad (Ty.bnd m k) := fun s f e => by
 unfold Ty.bnd at e
 split at e
 · rename_i e1; cases e; exact h _ _ e1
 · exact g _ _ _ e
theorem Bad.ite {α : Type} {p : Prop} [Decidable p] {m n : M α} (h : Bad m) (g : Bad n) : Bad (if p then m else n) := by
 split
 · exact h
 · exact g
theorem list_bad {α : Type} {af : List Tk} {x : List UInt8} {m : List α → M α} (hm : ∀ l, Bad (m l)) : ∀ f l, Bad (list af x m f l)
 | 0, _ => Bad.fail _ _
 | f + 1, l => (Bad.take _ _).bnd fun b => Bad.ite (Bad.ret l) ((Bad.ite (Bad.ret ()) (Bad.need _ _)).bnd fun _ => (hm l).bnd fun n => list_bad hm f (l ++ [n]))
theorem fields_bad {af : List Tk} {T : M Nat} (hT : Bad T) : ∀ f l, Bad (fields af T f l)
 | 0, _ => Bad.fail _ _
 | f + 1, l => (Bad.take _ _).bnd fun b => Bad.ite (Bad.ret l) ((Bad.name _ _).bnd fun s => (Bad.need _ _).bnd fun _ => hT.bnd fun n => (Bad.need _ _).bnd fun _ => fields_bad hT f (l ++ [(s, n)]))
theorem object_bad {af : List Tk} {T : M Nat} (hT : Bad T) : Bad (object af T) := (fields_bad hT _ _).bnd fun _ => Bad.newType _
theorem round_bad {af : List Tk} {T : M Nat} (hT : Bad T) : Bad (round af T) :=
 (list_bad (fun _ => hT) _ _).bnd fun l => (Bad.take _ _).bnd fun b => Bad.ite (hT.bnd fun n => Bad.newType _) (Bad.ite (Bad.ret _) (Bad.fail _ _))
theorem single_bad {af : List Tk} {T : M Nat} (hT : Bad T) : Bad (single af T) := fun s f h => by
 unfold single at h
 split at h
 · exact (Bad.step.bnd fun _ => Bad.newType _) s f h
 · exact ((Bad.take _ _).bnd fun b => Bad.ite (object_bad hT) ((Bad.take _ _).bnd fun b => Bad.ite (hT.bnd fun n => (Bad.need _ _).bnd fun _ => Bad.newType _) ((Bad.need _ _).bnd fun _ => round_bad hT))) s f h
theorem bars_bad {af : List Tk} {S : M Nat} (hS : Bad S) : ∀ f l, Bad (bars af S f l)
 | 0, _ => Bad.fail _ _
 | f + 1, l => (Bad.take _ _).bnd fun b => Bad.ite (hS.bnd fun n => bars_bad hS f (l ++ [n])) (Bad.ret l)
theorem union_bad {af : List Tk} {S : M Nat} (hS : Bad S) : Bad (union af S) := hS.bnd fun _ => (bars_bad hS _ _).bnd fun _ => Bad.ite (Bad.ret _) (Bad.newType _)
theorem typ_bad (af : List Tk) : ∀ r, Bad (typ af r)
 | 0 => Bad.fail _ _
 | r + 1 => union_bad (single_bad (typ_bad af r))
theorem scanFrom_last (s : ByteArray) : ∀ (f k : Nat) (o l : List Tk), Tok.scanFrom s f k o = .ok l → s.size < k + f → k ≤ s.size → ∀ t, l.getLast? = some t → t.kind = 6 := by
 intro f
 induction f with
 | zero => intro k o l _ h1 h2; omega
 | succ f ih =>
   intro k o l h h1 h2 t ht
   rw [Tok.scanFrom] at h
   by_cases hlt : k < s.size
   · rw [if_pos hlt] at h
     by_cases hb : Tok.byte s k = 32 ∨ Tok.byte s k = 10
     · rw [if_pos hb] at h
       exact ih _ _ _ h (by omega) (by omega) t ht
     · rw [if_neg hb] at h
       by_cases hok : (Tok.next s k).2.2 = false
       · rw [if_pos hok] at h; cases h
       · rw [if_neg hok] at h
         by_cases hl : o.length = 1000
         · rw [if_pos hl] at h; cases h
         · rw [if_neg hl] at h
           have hbd := Tok.next_bound s k hlt (by simpa using hok)
           exact ih _ _ _ h (by omega) (by omega) t ht
   · rw [if_neg hlt] at h
     cases h
     simp at ht
     subst ht; rfl
theorem scan_last {s : ByteArray} {l : List Tk} (h : Tok.scan s = .ok l) : ∀ t, l.getLast? = some t → t.kind = 6 := by
 unfold Tok.scan at h
 split at h
 · cases h
 · exact scanFrom_last s _ _ _ _ h (by omega) (by omega)
end Ty
end
section
namespace Ty
open Tok (Tk)
def ndOf (kind pos : Nat) : Nd := ⟨kind, 0, 0, 0, [], ⟨#[]⟩, 0, -1, pos⟩
def addNode (n : Nd) : M Nat := fun s => .ok (s.ns.length, { s with ns := s.ns ++ [n] })
def ndAt (s : St) (a : Nat) : Nd := (s.ns[a]?).getD (ndOf 0 0)
def look {α : Type} (k : St → M α) : M α := fun s => k s s
def two (x : ByteArray) (a b : Nat) : M Nat := look fun s => addNode { ndOf 12 (ndAt s a).pos with text := x, a := a, b := b }
def leftLoop (af : List Tk) (one : M Nat) (signs : List (List UInt8)) : Nat → Nat → M Nat
 | 0, _ => fail af 1
 | f + 1, n => look fun s => if signs.any (fun x => is af x s.pos) then bnd step fun _ => bnd one fun b => bnd (two (cur af s.pos).text n b) fun m => leftLoop af one signs f m else ret n
def left (af : List Tk) (one : M Nat) (signs : List (List UInt8)) : M Nat := bnd one fun n => leftLoop af one signs (af.length + 1) n
def products (af : List Tk) (one : M Nat) : M Nat := left af one [[42]]
def sums (af : List Tk) (one : M Nat) : M Nat := left af (products af one) [[43], [45]]
def exprM (af : List Tk) (one : M Nat) : M Nat :=
 bnd (sums af one) fun n => bnd (take af [61, 61]) fun b => if b then bnd (sums af one) fun m => two ⟨#[61, 61]⟩ n m else
   bnd (take af [60]) fun b => if b then bnd (sums af one) fun m => two ⟨#[60]⟩ n m else ret n
def behind (af : List Tk) (T E : M Nat) : Nat → Nat → M Nat
 | 0, _ => fail af 1
 | f + 1, a => look fun s => bnd (take af [40]) fun b => if b then bnd (list af [41] (fun _ => E) (af.length + 1) []) fun l => bnd (addNode { ndOf 7 (ndAt s a).pos with a := a, list := l }) fun m => behind af T E f m else
     bnd (take af [46]) fun b => if b then bnd (name af []) fun x => bnd (addNode { ndOf 8 (ndAt s a).pos with a := a, text := x }) fun m => behind af T E f m else
     bnd (take af [91]) fun b => if b then bnd E fun c => bnd (need af [93]) fun _ => bnd (addNode { ndOf 9 (ndAt s a).pos with a := a, b := c }) fun m => behind af T E f m else
     bnd (take af [97, 115]) fun b => if b then bnd T fun t => bnd (addNode { ndOf 14 (ndAt s a).pos with a := a, ty := (t : Int) }) fun m => behind af T E f m else ret a
def written (af : List Tk) (T : M Nat) : M Int := bnd (take af [58]) fun b => if b then bnd T fun n => ret (n : Int) else ret (-1)
def partM (af : List Tk) (E : M Nat) (met : List ByteArray) : M (ByteArray × Nat) :=
 look fun s => bnd (name af met) fun x => bnd (need af [58]) fun _ => bnd E fun a => bnd (addNode { ndOf 15 (cur af s.pos).pos with text := x, a := a }) fun n => ret (x, n)
def paramM (af : List Tk) (T : M Nat) (met : List ByteArray) : M (ByteArray × Nat) :=
 look fun s => bnd (name af met) fun x => bnd (written af T) fun t => bnd (addNode { ndOf 16 (cur af s.pos).pos with text := x, ty := t }) fun n => ret (x, n)
def stmts (af : List Tk) (S : M Nat) : Nat → List Nat → M (List Nat)
 | 0, _ => fail af 1
 | f + 1, l => bnd (take af [125]) fun b => if b then ret l else bnd S fun n => stmts af S f (l ++ [n])
def blockM (af : List Tk) (S : M Nat) : M Nat := look fun s => bnd (need af [123]) fun _ => bnd (stmts af S (af.length + 1) []) fun l => addNode { ndOf 26 (cur af s.pos).pos with list := l }
def functionM (af : List Tk) (T S : M Nat) (pos : Nat) : M Nat :=
 bnd (need af [40]) fun _ => bnd (list af [41] (fun l => paramM af T (l.map Prod.fst)) (af.length + 1) []) fun l => bnd (written af T) fun t => bnd (blockM af S) fun a =>
   addNode { ndOf 6 pos with list := l.map Prod.snd, ty := t, a := a }
def value (x : ByteArray) : Nat := x.data.toList.foldl (fun n c => 10 * n + (c.toNat - 48)) 0
def simpleM (af : List Tk) (T E S : M Nat) : M Nat := look fun s =>
 if (cur af s.pos).kind = 3 then bnd step fun _ => addNode { ndOf 1 (cur af s.pos).pos with n := value (cur af s.pos).text } else
 if (cur af s.pos).kind = 4 then bnd step fun _ => addNode { ndOf 2 (cur af s.pos).pos with text := (cur af s.pos).text } else
 if (cur af s.pos).kind = 1 then bnd step fun _ => addNode { ndOf 5 (cur af s.pos).pos with text := (cur af s.pos).text } else
 bnd (take af [116, 114, 117, 101]) fun b => if b then addNode { ndOf 3 (cur af s.pos).pos with n := 1 } else
 bnd (take af [102, 97, 108, 115, 101]) fun b => if b then addNode (ndOf 3 (cur af s.pos).pos) else
 bnd (take af [110, 117, 108, 108]) fun b => if b then addNode (ndOf 4 (cur af s.pos).pos) else
 bnd (take af [102, 110]) fun b => if b then functionM af T S (cur af s.pos).pos else
 bnd (take af [91]) fun b => if b then bnd (list af [93] (fun _ => E) (af.length + 1) []) fun l => addNode { ndOf 11 (cur af s.pos).pos with list := l } else
 bnd (take af [123]) fun b => if b then bnd (list af [125] (fun l => partM af E (l.map Prod.fst)) (af.length + 1) []) fun l => addNode { ndOf 10 (cur af s.pos).pos with list := l.map Prod.snd } else
 bnd (need af [40]) fun _ => bnd E fun a => bnd (need af [41]) fun _ => ret a
def prefixes : List (List UInt8) := [[33], [45], [116, 121, 112, 101, 111, 102]]
def oneM (af : List Tk) (T E O S : M Nat) : M Nat := look fun s =>
 if prefixes.any (fun x => is af x s.pos) then bnd step fun _ => bnd O fun a => addNode { ndOf 13 (cur af s.pos).pos with text := (cur af s.pos).text, a := a }
 else bnd (simpleM af T E S) fun a => behind af T E (af.length + 1) a
def trunc (a : Nat) : M Unit := fun s => .ok ((), { s with ns := s.ns.take a })
def plainM (af : List Tk) (E : M Nat) : M Nat := bnd E fun a => look fun s =>
 if is af [61] s.pos then
   if (ndAt s a).kind = 5 then bnd (trunc a) fun _ => bnd step fun _ => bnd E fun v => bnd (need af [59]) fun _ => addNode { ndOf 18 (ndAt s a).pos with text := (ndAt s a).text, a := v }
   else if (ndAt s a).kind = 8 then bnd (trunc a) fun _ => bnd step fun _ => bnd E fun v => bnd (need af [59]) fun _ => addNode { ndOf 19 (ndAt s a).pos with text := (ndAt s a).text, a := (ndAt s a).a, b := v }
   else if (ndAt s a).kind = 9 then bnd (trunc a) fun _ => bnd step fun _ => bnd E fun v => bnd (need af [59]) fun _ => addNode { ndOf 20 (ndAt s a).pos with a := (ndAt s a).a, b := (ndAt s a).b, c := (v : Int) }
   else fail af 1
 else bnd (need af [59]) fun _ => addNode { ndOf 25 (ndAt s a).pos with a := a }
def branchM (af : List Tk) (E S : M Nat) (yes : Bool) (pos : Nat) : M Nat :=
 bnd step fun _ => bnd (need af [40]) fun _ => bnd E fun a => bnd (need af [41]) fun _ => bnd (blockM af S) fun b =>
   if yes then bnd (take af [101, 108, 115, 101]) fun e => if e then bnd (blockM af S) fun c => addNode { ndOf 22 pos with a := a, b := b, c := (c : Int) } else addNode { ndOf 22 pos with a := a, b := b, c := -1 }
   else addNode { ndOf 23 pos with a := a, b := b }
def bareM (af : List Tk) (T E S : M Nat) : M Nat := look fun s =>
 bnd (take af [108, 101, 116]) fun b => if b then bnd (name af []) fun x => bnd (written af T) fun t => bnd (need af [61]) fun _ => bnd E fun a => bnd (need af [59]) fun _ => addNode { ndOf 17 (cur af s.pos).pos with text := x, ty := t, a := a } else
 bnd (take af [112, 114, 105, 110, 116]) fun b => if b then bnd E fun a => bnd (need af [59]) fun _ => addNode { ndOf 21 (cur af s.pos).pos with a := a } else
 bnd (take af [114, 101, 116, 117, 114, 110]) fun b => if b then bnd E fun a => bnd (need af [59]) fun _ => addNode { ndOf 24 (cur af s.pos).pos with a := a } else
 look fun s2 => if is af [105, 102] s2.pos then branchM af E S true (cur af s.pos).pos else if is af [119, 104, 105, 108, 101] s2.pos then branchM af E S false (cur af s.pos).pos else plainM af E
structure Lv where
 E : M Nat
 O : M Nat
 S : M Nat
def lv (af : List Tk) : Nat → Lv
 | 0 => ⟨fail af 8, fail af 8, fail af 8⟩
 | r + 1 => ⟨exprM af (oneM af (typ af r) (lv af r).E (lv af r).O (lv af r).S), oneM af (typ af r) (lv af r).E (lv af r).O (lv af r).S, bareM af (typ af r) (lv af r).E (lv af r).S⟩
def progLoop (af : List Tk) (S : M Nat) : Nat → List Nat → M (List Nat)
 | 0, _ => fail af 1
 | f + 1, l => look fun s => if (cur af s.pos).kind = 6 then ret l else bnd S fun n => progLoop af S f (l ++ [n])
def progM (af : List Tk) : M Nat := bnd (progLoop af (lv af 20).S (af.length + 1) []) fun l => addNode { ndOf 26 0 with list := l }
structure Pg where
 ns : List Nd
 ts : List Ty
 main : Nat
def parse (s : ByteArray) : Except Ft Pg :=
 match Tok.scan s with
 | .error e => .error e
 | .ok af => match progM af ⟨0, [], []⟩ with
   | .error e => .error e
   | .ok (n, st) => if st.ns.length > 1200 ∨ st.ts.length > 300 then .error (2, 0) else .ok ⟨st.ns, st.ts, n⟩
end Ty
end
section
namespace Ty
open Tok (Tk)
theorem Adv.addNode (n : Nd) : Adv 0 0 (-1) (addNode n) := fun s b s' e => by cases e; simp; omega
theorem Adv.look {α : Type} {k : St → M α} {d c e : Int} (h : ∀ s, Adv d c e (k s)) : Adv d c e (Ty.look k) := fun s a s' x => h s s a s' x
theorem Adv.two (x : ByteArray) (a b : Nat) : Adv 0 0 (-1) (two x a b) := Adv.look fun _ => Adv.addNode _
theorem Adv.trunc (a : Nat) : Adv 0 0 0 (trunc a) := fun s b s' e => by cases e; simp; omega
theorem leftLoop_adv {af : List Tk} {one : M Nat} (h : Adv 1 0 0 one) {signs : List (List UInt8)} : ∀ f n, Adv 0 0 0 (leftLoop af one signs f n)
 | 0, _ => Adv.fail _ _ _ _ _
 | f + 1, n => Adv.look fun s => Adv.ite (fun _ => (Adv.step.bnd fun _ => h.bnd fun b => (Adv.two _ _ _).bnd fun m => leftLoop_adv h f m).mono) (fun _ => Adv.ret _)
theorem left_adv {af : List Tk} {one : M Nat} (h : Adv 1 0 0 one) {signs : List (List UInt8)} : Adv 1 0 0 (left af one signs) := (h.bnd fun n => leftLoop_adv h _ n).mono
theorem sums_adv {af : List Tk} {one : M Nat} (h : Adv 1 0 0 one) : Adv 1 0 0 (sums af one) := left_adv (left_adv h)
theorem exprM_adv {af : List Tk} {one : M Nat} (h : Adv 1 0 0 one) : Adv 1 0 0 (exprM af one) := by
 refine ((sums_adv h).bnd (d' := 0) (c' := 0) (e' := 0) fun n => ?_).mono
 refine Adv.take _ _ ?_ ?_
 · simp only [if_true]; exact ((sums_adv h).bnd fun m => Adv.two _ _ _).mono
 · simp only [Bool.false_eq_true, if_false]
   refine Adv.take _ _ ?_ ?_
   · simp only [if_true]; exact ((sums_adv h).bnd fun m => Adv.two _ _ _).mono
   · simp only [Bool.false_eq_true, if_false]; exact Adv.ret _
theorem behind_adv {af : List Tk} {T E : M Nat} (hT : Adv 1 0 0 T) (hE : Adv 1 0 0 E) : ∀ f a, Adv 0 0 0 (behind af T E f a)
 | 0, _ => Adv.fail _ _ _ _ _
 | f + 1, a => by
   refine Adv.look fun s => Adv.take _ _ ?_ ?_
   · simp only [if_true]; exact ((list_adv (fun _ => hE) _ _).bnd fun l => (Adv.addNode _).bnd fun m => behind_adv hT hE f m).mono
   · simp only [Bool.false_eq_true, if_false]
     refine Adv.take _ _ ?_ ?_
     · simp only [if_true]; exact ((Adv.name _ _).bnd fun l => (Adv.addNode _).bnd fun m => behind_adv hT hE f m).mono
     · simp only [Bool.false_eq_true, if_false]
       refine Adv.take _ _ ?_ ?_
       · simp only [if_true]; exact (hE.bnd fun c => (Adv.need _ _).bnd fun _ => (Adv.addNode _).bnd fun m => behind_adv hT hE f m).mono
       · simp only [Bool.false_eq_true, if_false]
         refine Adv.take _ _ ?_ ?_
         · simp only [if_true]; exact (hT.bnd fun c => (Adv.addNode _).bnd fun m => behind_adv hT hE f m).mono
         · simp only [Bool.false_eq_true, if_false]; exact Adv.ret _
theorem written_adv {af : List Tk} {T : M Nat} (hT : Adv 1 0 0 T) : Adv 0 0 0 (written af T) := by
 refine Adv.take _ _ ?_ ?_
 · simp only [if_true]; exact (hT.bnd fun n => Adv.ret _).mono
 · simp only [Bool.false_eq_true, if_false]; exact Adv.ret _
theorem partM_adv {af : List Tk} {E : M Nat} (hE : Adv 1 0 0 E) (met : List ByteArray) : Adv 1 0 0 (partM af E met) :=
 Adv.look fun s => ((Adv.name _ _).bnd fun x => (Adv.need _ _).bnd fun _ => hE.bnd fun a => (Adv.addNode _).bnd fun n => Adv.ret _).mono
theorem paramM_adv {af : List Tk} {T : M Nat} (hT : Adv 1 0 0 T) (met : List ByteArray) : Adv 1 0 0 (paramM af T met) :=
 Adv.look fun s => ((Adv.name _ _).bnd fun x => (written_adv hT).bnd fun t => (Adv.addNode _).bnd fun n => Adv.ret _).mono
theorem stmts_adv {af : List Tk} {S : M Nat} (hS : Adv 1 0 0 S) : ∀ f l, Adv 1 1 1 (stmts af S f l)
 | 0, _ => Adv.fail _ _ _ _ _
 | f + 1, l => by
   refine Adv.take _ _ ?_ ?_
   · simp only [if_true]; exact (Adv.ret _).mono
   · simp only [Bool.false_eq_true, if_false]; exact (hS.bnd fun n => stmts_adv hS f _).mono
theorem blockM_adv {af : List Tk} {S : M Nat} (hS : Adv 1 0 0 S) : Adv 2 1 1 (blockM af S) :=
 Adv.look fun s => ((Adv.need _ _).bnd fun _ => (stmts_adv hS _ _).bnd fun l => Adv.addNode _).mono
theorem functionM_adv {af : List Tk} {T S : M Nat} (hT : Adv 1 0 0 T) (hS : Adv 1 0 0 S) (pos : Nat) : Adv 1 0 0 (functionM af T S pos) :=
 ((Adv.need _ _).bnd fun _ => (list_adv (fun _ => paramM_adv hT _) _ _).bnd fun l => (written_adv hT).bnd fun t => (blockM_adv hS).bnd fun a => Adv.addNode _).mono
theorem simpleM_adv {af : List Tk} {T E S : M Nat} (hT : Adv 1 0 0 T) (hE : Adv 1 0 0 E) (hS : Adv 1 0 0 S) : Adv 1 0 0 (simpleM af T E S) := by
 refine Adv.look fun s => Adv.ite (fun _ => (Adv.step.bnd fun _ => Adv.addNode _).mono) fun _ => Adv.ite (fun _ => (Adv.step.bnd fun _ => Adv.addNode _).mono) fun _ => Adv.ite (fun _ => (Adv.step.bnd fun _ => Adv.addNode _).mono) fun _ => ?_
 refine Adv.take _ _ ?_ ?_
 · simp only [if_true]; exact (Adv.addNode _).mono
 simp only [Bool.false_eq_true, if_false]
 refine Adv.take _ _ ?_ ?_
 · simp only [if_true]; exact (Adv.addNode _).mono
 simp only [Bool.false_eq_true, if_false]
 refine Adv.take _ _ ?_ ?_
 · simp only [if_true]; exact (Adv.addNode _).mono
 simp only [Bool.false_eq_true, if_false]
 refine Adv.take _ _ ?_ ?_
 · simp only [if_true]; exact (functionM_adv hT hS _).mono
 simp only [Bool.false_eq_true, if_false]
 refine Adv.take _ _ ?_ ?_
 · simp only [if_true]; exact ((list_adv (fun _ => hE) _ _).bnd fun l => Adv.addNode _).mono
 simp only [Bool.false_eq_true, if_false]
 refine Adv.take _ _ ?_ ?_
 · simp only [if_true]; exact ((list_adv (fun _ => partM_adv hE _) _ _).bnd fun l => Adv.addNode _).mono
 simp only [Bool.false_eq_true, if_false]
 exact ((Adv.need _ _).bnd fun _ => hE.bnd fun a => (Adv.need _ _).bnd fun _ => Adv.ret _).mono
theorem oneM_adv {af : List Tk} {T E O S : M Nat} (hT : Adv 1 0 0 T) (hE : Adv 1 0 0 E) (hO : Adv 1 0 0 O) (hS : Adv 1 0 0 S) : Adv 1 0 0 (oneM af T E O S) :=
 Adv.look fun s => Adv.ite (fun _ => (Adv.step.bnd fun _ => hO.bnd fun a => Adv.addNode _).mono) (fun _ => ((simpleM_adv hT hE hS).bnd fun a => behind_adv hT hE _ a).mono)
theorem plainM_adv {af : List Tk} {E : M Nat} (hE : Adv 1 0 0 E) : Adv 1 0 0 (plainM af E) := by
 have h : ∀ (a : Nat) (f : Nat → Nd), Adv 0 0 0 (bnd (trunc a) fun _ => bnd step fun _ => bnd E fun v => bnd (need af [59]) fun _ => addNode (f v)) := fun a f =>
   ((Adv.trunc _).bnd fun _ => Adv.step.bnd fun _ => hE.bnd fun v => (Adv.need _ _).bnd fun _ => Adv.addNode _).mono
 exact (hE.bnd (d' := 0) (c' := 0) (e' := 0) fun a => Adv.look fun s => Adv.ite (fun _ => Adv.ite (fun _ => h _ _) fun _ => Adv.ite (fun _ => h _ _) fun _ => Adv.ite (fun _ => h _ _) fun _ => Adv.fail _ _ _ _ _)
   (fun _ => ((Adv.need _ _).bnd fun _ => Adv.addNode _).mono)).mono
theorem branchM_adv {af : List Tk} {E S : M Nat} (hE : Adv 1 0 0 E) (hS : Adv 1 0 0 S) (yes : Bool) (pos : Nat) : Adv 1 0 0 (branchM af E S yes pos) := by
 refine (Adv.step.bnd fun _ => (Adv.need _ _).bnd fun _ => hE.bnd fun a => (Adv.need _ _).bnd fun _ => (blockM_adv hS).bnd (d' := 0) (c' := 0) (e' := -1) fun b => ?_).mono
 cases yes
 · simp only [Bool.false_eq_true, if_false]; exact Adv.addNode _
 · simp only [if_true]
   refine Adv.take _ _ ?_ ?_
   · simp only [if_true]; exact ((blockM_adv hS).bnd fun c => Adv.addNode _).mono
   · simp only [Bool.false_eq_true, if_false]; exact Adv.addNode _
theorem bareM_adv {af : List Tk} {T E S : M Nat} (hT : Adv 1 0 0 T) (hE : Adv 1 0 0 E) (hS : Adv 1 0 0 S) : Adv 1 0 0 (bareM af T E S) := by
 refine Adv.look fun s => Adv.take _ _ ?_ ?_
 · simp only [if_true]; exact ((Adv.name _ _).bnd fun x => (written_adv hT).bnd fun t => (Adv.need _ _).bnd fun _ => hE.bnd fun a => (Adv.need _ _).bnd fun _ => Adv.addNode _).mono
 simp only [Bool.false_eq_true, if_false]
 refine Adv.take _ _ ?_ ?_
 · simp only [if_true]; exact (hE.bnd fun a => (Adv.need _ _).bnd fun _ => Adv.addNode _).mono
 simp only [Bool.false_eq_true, if_false]
 refine Adv.take _ _ ?_ ?_
 · simp only [if_true]; exact (hE.bnd fun a => (Adv.need _ _).bnd fun _ => Adv.addNode _).mono
 simp only [Bool.false_eq_true, if_false]
 exact Adv.look fun s2 => Adv.ite (fun _ => branchM_adv hE hS _ _) fun _ => Adv.ite (fun _ => branchM_adv hE hS _ _) fun _ => plainM_adv hE
theorem lv_adv (af : List Tk) : ∀ r, Adv 1 0 0 (lv af r).E ∧ Adv 1 0 0 (lv af r).O ∧ Adv 1 0 0 (lv af r).S
 | 0 => ⟨Adv.fail _ _ _ _ _, Adv.fail _ _ _ _ _, Adv.fail _ _ _ _ _⟩
 | r + 1 => by
   obtain ⟨h1, h2, h3⟩ := lv_adv af r
   have hT := typ_adv af r
   exact ⟨exprM_adv (oneM_adv hT h1 h2 h3), oneM_adv hT h1 h2 h3, bareM_adv hT h1 h3⟩
theorem Bad.addNode (n : Nd) : Bad (addNode n) := fun s f h => by cases h
theorem Bad.look {α : Type} {k : St → M α} (h : ∀ s, Bad (k s)) : Bad (Ty.look k) := fun s f x => h s s f x
theorem Bad.two (x : ByteArray) (a b : Nat) : Bad (two x a b) := Bad.look fun _ => Bad.addNode _
theorem Bad.trunc (a : Nat) : Bad (trunc a) := fun s f h => by cases h
theorem leftLoop_bad {af : List Tk} {one : M Nat} (h : Bad one) {signs : List (List UInt8)} : ∀ f n, Bad (leftLoop af one signs f n)
 | 0, _ => Bad.fail _ _
 | f + 1, n => Bad.look fun s => Bad.ite (Bad.step.bnd fun _ => h.bnd fun b => (Bad.two _ _ _).bnd fun m => leftLoop_bad h f m) (Bad.ret _)
theorem left_bad {af : List Tk} {one : M Nat} (h : Bad one) {signs : List (List UInt8)} : Bad (left af one signs) := h.bnd fun n => leftLoop_bad h _ n
theorem sums_bad {af : List Tk} {one : M Nat} (h : Bad one) : Bad (sums af one) := left_bad (left_bad h)
theorem exprM_bad {af : List Tk} {one : M Nat} (h : Bad one) : Bad (exprM af one) :=
 (sums_bad h).bnd fun _ => (Bad.take _ _).bnd fun _ => Bad.ite ((sums_bad h).bnd fun _ => Bad.two _ _ _) ((Bad.take _ _).bnd fun _ => Bad.ite ((sums_bad h).bnd fun _ => Bad.two _ _ _) (Bad.ret _))
theorem behind_bad {af : List Tk} {T E : M Nat} (hT : Bad T) (hE : Bad E) : ∀ f a, Bad (behind af T E f a)
 | 0, _ => Bad.fail _ _
 | f + 1, a => Bad.look fun s => (Bad.take _ _).bnd fun b => Bad.ite ((list_bad (fun _ => hE) _ _).bnd fun l => (Bad.addNode _).bnd fun m => behind_bad hT hE f m)
     ((Bad.take _ _).bnd fun b => Bad.ite ((Bad.name _ _).bnd fun l => (Bad.addNode _).bnd fun m => behind_bad hT hE f m)
     ((Bad.take _ _).bnd fun b => Bad.ite (hE.bnd fun c => (Bad.need _ _).bnd fun _ => (Bad.addNode _).bnd fun m => behind_bad hT hE f m)
     ((Bad.take _ _).bnd fun b => Bad.ite (hT.bnd fun c => (Bad.addNode _).bnd fun m => behind_bad hT hE f m) (Bad.ret _))))
theorem written_bad {af : List Tk} {T : M Nat} (hT : Bad T) : Bad (written af T) := (Bad.take _ _).bnd fun _ => Bad.ite (hT.bnd fun _ => Bad.ret _) (Bad.ret _)
theorem partM_bad {af : List Tk} {E : M Nat} (hE : Bad E) (met : List ByteArray) : Bad (partM af E met) :=
 Bad.look fun _ => (Bad.name _ _).bnd fun _ => (Bad.need _ _).bnd fun _ => hE.bnd fun _ => (Bad.addNode _).bnd fun _ => Bad.ret _
theorem paramM_bad {af : List Tk} {T : M Nat} (hT : Bad T) (met : List ByteArray) : Bad (paramM af T met) :=
 Bad.look fun _ => (Bad.name _ _).bnd fun _ => (written_bad hT).bnd fun _ => (Bad.addNode _).bnd fun _ => Bad.ret _
theorem stmts_bad {af : List Tk} {S : M Nat} (hS : Bad S) : ∀ f l, Bad (stmts af S f l)
 | 0, _ => Bad.fail _ _
 | f + 1, l => (Bad.take _ _).bnd fun b => Bad.ite (Bad.ret _) (hS.bnd fun n => stmts_bad hS f _)
theorem blockM_bad {af : List Tk} {S : M Nat} (hS : Bad S) : Bad (blockM af S) := Bad.look fun _ => (Bad.need _ _).bnd fun _ => (stmts_bad hS _ _).bnd fun _ => Bad.addNode _
theorem functionM_bad {af : List Tk} {T S : M Nat} (hT : Bad T) (hS : Bad S) (pos : Nat) : Bad (functionM af T S pos) :=
 (Bad.need _ _).bnd fun _ => (list_bad (fun _ => paramM_bad hT _) _ _).bnd fun _ => (written_bad hT).bnd fun _ => (blockM_bad hS).bnd fun _ => Bad.addNode _
theorem simpleM_bad {af : List Tk} {T E S : M Nat} (hT : Bad T) (hE : Bad E) (hS : Bad S) : Bad (simpleM af T E S) :=
 Bad.look fun _ => Bad.ite (Bad.step.bnd fun _ => Bad.addNode _) <| Bad.ite (Bad.step.bnd fun _ => Bad.addNode _) <| Bad.ite (Bad.step.bnd fun _ => Bad.addNode _) <|
 (Bad.take _ _).bnd fun _ => Bad.ite (Bad.addNode _) <| (Bad.take _ _).bnd fun _ => Bad.ite (Bad.addNode _) <| (Bad.take _ _).bnd fun _ => Bad.ite (Bad.addNode _) <|
 (Bad.take _ _).bnd fun _ => Bad.ite (functionM_bad hT hS _) <| (Bad.take _ _).bnd fun _ => Bad.ite ((list_bad (fun _ => hE) _ _).bnd fun _ => Bad.addNode _) <|
 (Bad.take _ _).bnd fun _ => Bad.ite ((list_bad (fun _ => partM_bad hE _) _ _).bnd fun _ => Bad.addNode _) <| (Bad.need _ _).bnd fun _ => hE.bnd fun _ => (Bad.need _ _).bnd fun _ => Bad.ret _
theorem oneM_bad {af : List Tk} {T E O S : M Nat} (hT : Bad T) (hE : Bad E) (hO : Bad O) (hS : Bad S) : Bad (oneM af T E O S) :=
 Bad.look fun _ => Bad.ite (Bad.step.bnd fun _ => hO.bnd fun _ => Bad.addNode _) ((simpleM_bad hT hE hS).bnd fun a => behind_bad hT hE _ a)
theorem plainM_bad {af : List Tk} {E : M Nat} (hE : Bad E) : Bad (plainM af E) := by
 have h : ∀ (a : Nat) (f : Nat → Nd), Bad (bnd (trunc a) fun _ => bnd step fun _ => bnd E fun v => bnd (need af [59]) fun _ => addNode (f v)) := fun a f =>
   (Bad.trunc _).bnd fun _ => Bad.step.bnd fun _ => hE.bnd fun v => (Bad.need _ _).bnd fun _ => Bad.addNode _
 exact hE.bnd fun a => Bad.look fun s => Bad.ite (Bad.ite (h _ _) (Bad.ite (h _ _) (Bad.ite (h _ _) (Bad.fail _ _)))) ((Bad.need _ _).bnd fun _ => Bad.addNode _)
theorem branchM_bad {af : List Tk} {E S : M Nat} (hE : Bad E) (hS : Bad S) (yes : Bool) (pos : Nat) : Bad (branchM af E S yes pos) :=
 Bad.step.bnd fun _ => (Bad.need _ _).bnd fun _ => hE.bnd fun _ => (Bad.need _ _).bnd fun _ => (blockM_bad hS).bnd fun _ => Bad.ite ((Bad.take _ _).bnd fun _ => Bad.ite ((blockM_bad hS).bnd fun _ => Bad.addNode _) (Bad.addNode _)) (Bad.addNode _)
theorem bareM_bad {af : List Tk} {T E S : M Nat} (hT : Bad T) (hE : Bad E) (hS : Bad S) : Bad (bareM af T E S) :=
 Bad.look fun _ => (Bad.take _ _).bnd fun _ => Bad.ite ((Bad.name _ _).bnd fun _ => (written_bad hT).bnd fun _ => (Bad.need _ _).bnd fun _ => hE.bnd fun _ => (Bad.need _ _).bnd fun _ => Bad.addNode _) <|
 (Bad.take _ _).bnd fun _ => Bad.ite (hE.bnd fun _ => (Bad.need _ _).bnd fun _ => Bad.addNode _) <|
 (Bad.take _ _).bnd fun _ => Bad.ite (hE.bnd fun _ => (Bad.need _ _).bnd fun _ => Bad.addNode _) <|
 Bad.look fun _ => Bad.ite (branchM_bad hE hS _ _) <| Bad.ite (branchM_bad hE hS _ _) (plainM_bad hE)
theorem lv_bad (af : List Tk) : ∀ r, Bad (lv af r).E ∧ Bad (lv af r).O ∧ Bad (lv af r).S
 | 0 => ⟨Bad.fail _ _, Bad.fail _ _, Bad.fail _ _⟩
 | r + 1 => by
   obtain ⟨h1, h2, h3⟩ := lv_bad af r
   have hT := typ_bad af r
   exact ⟨exprM_bad (oneM_bad hT h1 h2 h3), oneM_bad hT h1 h2 h3, bareM_bad hT h1 h3⟩
theorem progLoop_bad {af : List Tk} {S : M Nat} (hS : Bad S) : ∀ f l, Bad (progLoop af S f l)
 | 0, _ => Bad.fail _ _
 | f + 1, l => Bad.look fun s => Bad.ite (Bad.ret _) (hS.bnd fun n => progLoop_bad hS f _)
theorem progM_bad (af : List Tk) : Bad (progM af) := (progLoop_bad (lv_bad af 20).2.2 _ _).bnd fun _ => Bad.addNode _
theorem parse_bad {s : ByteArray} {f : Ft} (h : parse s = .error f) : f.1 ≠ 0 := by
 unfold parse at h
 split at h
 · rename_i e he
   cases h
   have := Tok.scan_err s f.1 f.2 he
   omega
 · split at h
   · rename_i e he; cases h; exact (progM_bad _ _ _ he).1
   · split at h
     · cases h; simp
     · cases h
end Ty
end
end Go.Proofs.YtdlbhiaceheffabGreatDoor
