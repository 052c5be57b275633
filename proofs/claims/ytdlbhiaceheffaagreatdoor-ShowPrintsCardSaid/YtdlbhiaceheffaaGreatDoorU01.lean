/- Plain definitions and facts on bytes, texts and tokens: what the scanners compute. No program in sight. Walks of the small functions of package token, and of token.run. DERIVED: THE SHELF's CONTRACTS AT THIS DUMP, IN PLAIN WORDS (tools/lay-plain.mjs out of 'TryzShelf.lean', which tools/lay-shelf.mjs wrote): THE SAME DECLARATION Walks of token.IsWord, name, number, text, sign. What the listed variable gives, and the witness world. A world in which six listed variables are laid. -/
import Derived.Test.YtdlbhiaceheffaaGreatDoorProg
import Derived.WalkKit
import Derived.Lib.Hide
import Derived.Shelf.Strings.Builder1
import Derived.Shelf.Strings.Builder2
import Derived.Shelf.Strings.OnBuilder
import Derived.Shelf.Small.Strs
import Derived.Shelf.Small.Wraps
import Derived.Shelf.Strings.BuilderF
import Derived.Shelf.Strings.BuilderK
import Derived.Shelf.Strconv.Atoi
import Derived.Shelf.Strconv.Itoa0
import Derived.Shelf.Strconv.Itoa1
import Derived.Shelf.LaysM
import Derived.Shelf.Strings.Search1
import Derived.Shelf.Strings.Prefix
import Derived.Shelf.Bits.Mul64
import Derived.Shelf.Slices.Turned
import Derived.BigQuiet
import Derived.Deep.QuietTactic
import Derived.Test.YtdlbhiaceheffaaGreatDoorCards
import Derived.Test.YtdlbhiaceheffaaGreatDoorTie
import Derived.Lib.LaidIn
import Derived.Lib.LaidU8
import Derived.Lib.LaidPrint
import Derived.Deep.DeepHandedRow
import Derived.Deep.DeepWitnessRowRef
import Derived.ProofKit
import Derived.SizedLaws
import Derived.SliceStrings
set_option linter.all false
namespace Go.Proofs.YtdlbhiaceheffaaGreatDoor
section
theorem qh {p : Prop} (h : p) : Go.RowKit.Hid p := h
theorem lzA {α : Type} {a b : List α} : (a ++ b).length = a.length + b.length := List.length_append
theorem lzC {α : Type} {a : α} {l : List α} : (a :: l).length = l.length + 1 := rfl
theorem lzN {α : Type} : ([] : List α).length = 0 := rfl
end
section
namespace Tok
def isDigit (c : UInt8) : Bool := decide (48 ≤ c.toNat) && decide (c.toNat ≤ 57)
def isLetter (c : UInt8) : Bool := decide (97 ≤ c.toNat) && decide (c.toNat ≤ 122) || (decide (65 ≤ c.toNat) && decide (c.toNat ≤ 90)) || decide (c.toNat = 95)
def isPart (c : UInt8) : Bool := isLetter c || isDigit c
def isPlain (c : UInt8) : Bool := decide (32 ≤ c.toNat) && decide (c.toNat ≤ 126) && !decide (c.toNat = 34)
def stop (p : UInt8 → Bool) (s : ByteArray) (k : Nat) : Nat := k + ((s.data.toList.drop k).takeWhile p).length
theorem drop_cons (s : ByteArray) (k : Nat) (h : k < s.size) : s.data.toList.drop k = s[k] :: s.data.toList.drop (k + 1) := by
 have h' : k < s.data.toList.length := by simpa using h
 rw [List.drop_eq_getElem_cons h']; rfl
theorem stop_step {p : UInt8 → Bool} {s : ByteArray} {k : Nat} (h : k < s.size) (hp : p s[k] = true) : stop p s (k + 1) = stop p s k := by
 unfold stop; rw [drop_cons s k h]; simp [hp]; omega
theorem stop_here {p : UInt8 → Bool} {s : ByteArray} {k : Nat} (h : k < s.size) (hp : p s[k] = false) : stop p s k = k := by
 unfold stop; rw [drop_cons s k h]; simp [hp]
theorem stop_end {p : UInt8 → Bool} {s : ByteArray} {k : Nat} (h : s.size ≤ k) : stop p s k = k := by
 unfold stop; rw [List.drop_eq_nil_of_le (by simpa using h)]; simp
theorem stop_ge (p : UInt8 → Bool) (s : ByteArray) (k : Nat) : k ≤ stop p s k := by unfold stop; omega
theorem stop_le (p : UInt8 → Bool) (s : ByteArray) (k : Nat) (h : k ≤ s.size) : stop p s k ≤ s.size := by
 unfold stop
 have h1 : ((s.data.toList.drop k).takeWhile p).length ≤ (s.data.toList.drop k).length := (List.takeWhile_sublist p).length_le
 have h2 : (s.data.toList.drop k).length = s.size - k := by simp
 omega
def wordsL : List (List UInt8) :=
 [[108, 101, 116], [102, 110], [105, 102], [101, 108, 115, 101], [119, 104, 105, 108, 101], [114, 101, 116, 117, 114, 110], [112, 114, 105, 110, 116], [116, 114, 117, 101], [102, 97, 108, 115, 101], [110, 117, 108, 108], [97, 115], [116, 121, 112, 101, 111, 102], [110, 117, 109], [98, 111, 111, 108], [116, 101, 120, 116], [97, 110, 121], [117, 110, 107, 110, 111, 119, 110]]
def words : List ByteArray := wordsL.map fun l => ⟨l.toArray⟩
def isWord (x : ByteArray) : Bool := decide (x.data.toList ∈ wordsL)
theorem isWord_iff (x : ByteArray) : isWord x = true ↔ x ∈ words := by
 unfold isWord words
 simp only [decide_eq_true_eq, List.mem_map]
 constructor
 · intro h; exact ⟨_, h, by cases x; rfl⟩
 · rintro ⟨l, hl, rfl⟩; exact hl
structure Tk where
 kind : Nat
 text : ByteArray
 pos : Nat
def isSign (c : UInt8) : Bool := decide (c ∈ [40, 41, 123, 125, 91, 93, 44, 59, 58, 46, 61, 60, 43, 45, 42, 33, 124].map (fun n : Nat => n.toUInt8))
def byte (s : ByteArray) (k : Nat) : UInt8 := s.data.toList.getD k 0
def two (s : ByteArray) (k : Nat) : Bool := decide (k + 1 < s.size) && byte s k == 61 && (byte s (k + 1) == 61 || byte s (k + 1) == 62)
def next (s : ByteArray) (k : Nat) : Tk × Nat × Bool :=
 let c := byte s k
 if isLetter c then
   let e := stop isPart s k
   (⟨if isWord (s.extract k e) then 2 else 1, s.extract k e, k⟩, e - k, decide (e - k ≤ 20))
 else if isDigit c then
   let e := stop isDigit s k
   (⟨3, s.extract k e, k⟩, e - k, decide (e - k ≤ 9) && (decide (e - k = 1) || !decide (c = 48)))
 else if c = 34 then
   let e := stop isPlain s (k + 1)
   (⟨4, s.extract (k + 1) e, k⟩, e - k + 1, decide (e - (k + 1) ≤ 30) && (decide (e < s.size) && decide (byte s e = 34)))
 else if two s k then (⟨5, s.extract k (k + 2), k⟩, 2, true)
 else (⟨5, s.extract k (k + 1), k⟩, 1, isSign c)
abbrev Res := Except (Nat × Nat) (List Tk)
def scanFrom (s : ByteArray) : Nat → Nat → List Tk → Res
 | 0, _, out => .ok out
 | f + 1, k, out =>
   if k < s.size then
     if byte s k = 32 ∨ byte s k = 10 then scanFrom s f (k + 1) out
     else if (next s k).2.2 = false then .error (1, k)
     else if out.length = 1000 then .error (2, k)
     else scanFrom s f (k + (next s k).2.1) (out ++ [(next s k).1])
   else .ok (out ++ [⟨6, ⟨#[]⟩, s.size⟩])
def scan (s : ByteArray) : Res := if 4000 < s.size then .error (2, 0) else scanFrom s (s.size + 1) 0 []
theorem byte_eq (s : ByteArray) (k : Nat) (h : k < s.size) : byte s k = s[k] := by
 have h' : k < s.data.toList.length := by simpa using h
 unfold byte
 rw [List.getD_eq_getElem?_getD, List.getElem?_eq_getElem h']; rfl
theorem byte_extract (s : ByteArray) (k e i : Nat) (h : i < (s.extract k e).size) : (s.extract k e)[i] = byte s (k + i) := by
 have hh : i < min e s.size - k := by simpa using h
 rw [ByteArray.getElem_extract, byte_eq s (k + i) (by omega)]
theorem is48 (c : UInt8) : c = 48 ↔ (c.toNat : Int) = 48 := by rw [← UInt8.toNat_inj]; simp; omega
theorem is34 (c : UInt8) : c = 34 ↔ (c.toNat : Int) = 34 := by rw [← UInt8.toNat_inj]; simp; omega
theorem is32 (c : UInt8) : c = 32 ↔ (c.toNat : Int) = 32 := by rw [← UInt8.toNat_inj]; simp; omega
theorem is10 (c : UInt8) : c = 10 ↔ (c.toNat : Int) = 10 := by rw [← UInt8.toNat_inj]; simp; omega
theorem take_drop_size (s : ByteArray) (k : Nat) : List.take (s.size - k) (List.drop k s.data.toList) = List.drop k s.data.toList := List.take_of_length_le (by simp)
theorem prefix2 (s : ByteArray) (k : Nat) (a b : UInt8) : List.isPrefixOf [a, b] (List.drop k s.data.toList) = (decide (k + 1 < s.size) && (byte s k == a && byte s (k + 1) == b)) := by
 by_cases h : k + 1 < s.size
 · rw [drop_cons s k (by omega), drop_cons s (k + 1) h, byte_eq s k (by omega), byte_eq s (k + 1) h]
   simp [List.isPrefixOf, h, BEq.comm]
 · by_cases h1 : k < s.size
   · rw [drop_cons s k h1, List.drop_eq_nil_of_le (by simp; omega)]
     simp [List.isPrefixOf, h]
   · rw [List.drop_eq_nil_of_le (by simp; omega)]
     simp [List.isPrefixOf, h]
theorem two_eq (s : ByteArray) (k : Nat) : two s k = (List.isPrefixOf [61, 61] (List.drop k s.data.toList) || List.isPrefixOf [61, 62] (List.drop k s.data.toList)) := by
 rw [prefix2, prefix2]
 unfold two
 cases decide (k + 1 < s.size) <;> cases byte s k == 61 <;> simp
theorem two_size (s : ByteArray) (k : Nat) (h : two s k = true) : k + 1 < s.size := by
 unfold two at h
 simp at h; exact h.1.1
theorem extract2 (s : ByteArray) (k : Nat) (a b : UInt8) (h : List.isPrefixOf [a, b] (List.drop k s.data.toList) = true) : s.extract k (k + 2) = ⟨#[a, b]⟩ := by
 rw [prefix2] at h
 simp at h
 obtain ⟨h1, h2, h3⟩ := h
 apply ByteArray.ext
 apply Array.ext'
 rw [byte_eq s k (by omega)] at h2
 rw [byte_eq s (k + 1) h1] at h3
 have hd := drop_cons s k (by omega)
 have hd' := drop_cons s (k + 1) h1
 simp only [ByteArray.data_extract, Array.toList_extract, List.extract_eq_take_drop, hd, hd', h2, h3]
 simp
theorem next_bound (s : ByteArray) (k : Nat) (h : k < s.size) (ok : (next s k).2.2 = true) : 1 ≤ (next s k).2.1 ∧ k + (next s k).2.1 ≤ s.size := by
 unfold next at ok ⊢
 by_cases hl : isLetter (byte s k) = true
 · simp only [hl, if_true] at ok ⊢
   have h1 := stop_step (p := isPart) h (by rw [← byte_eq]; simp [isPart, hl])
   have h2 := stop_ge isPart s (k + 1)
   have h3 := stop_le isPart s k (by omega)
   omega
 · by_cases hd : isDigit (byte s k) = true
   · simp only [hl, hd, if_true] at ok ⊢
     have h1 := stop_step (p := isDigit) h (by rw [← byte_eq]; exact hd)
     have h2 := stop_ge isDigit s (k + 1)
     have h3 := stop_le isDigit s k (by omega)
     simp only [Bool.false_eq_true, if_false]
     omega
   · by_cases hq : byte s k = 34
     · simp only [hl, hd, if_false, Bool.false_eq_true] at ok ⊢
       rw [if_pos hq] at ok ⊢
       have h2 := stop_ge isPlain s (k + 1)
       have h3 : stop isPlain s (k + 1) < s.size := by simp at ok; exact ok.2.1
       show 1 ≤ stop isPlain s (k + 1) - k + 1 ∧ k + (stop isPlain s (k + 1) - k + 1) ≤ s.size
       omega
     · by_cases ht : two s k = true
       · simp only [hl, hd, hq, ht, if_true, if_false, Bool.false_eq_true] at ok ⊢
         have := two_size s k ht
         omega
       · simp only [hl, hd, hq, ht, if_false, Bool.false_eq_true] at ok ⊢
         omega
theorem extract_two (s : ByteArray) (k : Nat) (h : k + 1 < s.size) : (s.extract k (k + 2)).data.toList = [byte s k, byte s (k + 1)] := by
 have hd := drop_cons s k (by omega)
 have hd' := drop_cons s (k + 1) h
 rw [← byte_eq s k (by omega)] at hd
 rw [← byte_eq s (k + 1) h] at hd'
 simp only [ByteArray.data_extract, Array.toList_extract, List.extract_eq_take_drop, hd, hd']
 simp
theorem two_bytes (s : ByteArray) (k : Nat) (h : k + 1 < s.size) : two s k = ((s.extract k (k + 2)).data.toList == [61, 61] || (s.extract k (k + 2)).data.toList == [61, 62]) := by
 rw [extract_two s k h]
 unfold two
 rw [Bool.eq_iff_iff]
 simp [h]
 constructor
 · rintro ⟨h1, h2 | h2⟩
   · exact .inl ⟨h1, h2⟩
   · exact .inr ⟨h1, h2⟩
 · rintro (⟨h1, h2⟩ | ⟨h1, h2⟩)
   · exact ⟨h1, .inl h2⟩
   · exact ⟨h1, .inr h2⟩
def signsL : List UInt8 := [40, 41, 123, 125, 91, 93, 44, 59, 58, 46, 61, 60, 43, 45, 42, 33, 124]
def signTo (c : UInt8) (i : Nat) : Bool := (signsL.take i).any (fun x => x == c)
theorem signTo_step (c : UInt8) (i : Nat) (h : i < 17) : signTo c (i + 1) = (signTo c i || signsL.getD i 0 == c) := by
 unfold signTo
 have h' : i < signsL.length := h
 rw [List.take_succ_eq_append_getElem h', List.any_append, List.getD_eq_getElem?_getD, List.getElem?_eq_getElem h']
 simp
theorem signTo_fin : ∀ n : Fin 256, signTo (UInt8.ofNat n.val) 17 = isSign (UInt8.ofNat n.val) := by decide +kernel
theorem signTo_all (c : UInt8) : signTo c 17 = isSign c := by
 have h := signTo_fin ⟨c.toNat, c.toNat_lt⟩
 simpa using h
theorem signs_at : ∀ i : Fin 17, (⟨#[40, 41, 123, 125, 91, 93, 44, 59, 58, 46, 61, 60, 43, 45, 42, 33, 124]⟩ : ByteArray)[i.val]'(i.isLt) = signsL.getD i.val 0 := by decide +kernel
end Tok
end
section
open Go Go.RowKit
theorem ret_eq {R : Ending → World → Prop} {v v' : Value} {w : World} (h : R (.returned v') w) (e : v = v') : R (.returned v) w := e ▸ h
theorem isDigit_any (c : UInt8) (w : World) {R : Ending → World → Prop} (hR : R (.returned (.bool (Tok.isDigit c))) w) :
   Calls Tryz.prog 126 #[.int .u8 (c.toNat : Int)] w R := by
 have HR := qh hR
 clear hR
 go_enter Tryz.func126, Tryz.ntmps126
 go_wp2
 all_goals
   refine ret_eq HR.out (congrArg Value.bool ?_)
   rw [Bool.eq_iff_iff]; simp [Tok.isDigit]; try omega
theorem isLetter_any (c : UInt8) (w : World) {R : Ending → World → Prop} (hR : R (.returned (.bool (Tok.isLetter c))) w) :
   Calls Tryz.prog 124 #[.int .u8 (c.toNat : Int)] w R := by
 have HR := qh hR
 clear hR
 go_enter Tryz.func124, Tryz.ntmps124
 go_wp2
 all_goals
   refine ret_eq HR.out (congrArg Value.bool ?_)
   rw [Bool.eq_iff_iff]; simp [Tok.isLetter]; try omega
theorem name1_any (c : UInt8) (w : World) {R : Ending → World → Prop} (hR : R (.returned (.bool (Tok.isPart c))) w) :
   Calls Tryz.prog 157 #[.int .u8 (c.toNat : Int)] w R := by
 have HR := qh hR
 clear hR
 by_cases h : Tok.isLetter c = true
 all_goals
   try rw [Bool.not_eq_true] at h
   go_enter Tryz.func157, Tryz.ntmps157
   go_wp2_with (first | (go_at_call 124; refine isLetter_any _ _ ?_) | (go_at_call 126; refine isDigit_any _ _ ?_))
   refine ret_eq HR.out (congrArg Value.bool ?_)
   simp [Tok.isPart, h]
theorem text1_any (c : UInt8) (w : World) {R : Ending → World → Prop} (hR : R (.returned (.bool (Tok.isPlain c))) w) :
   Calls Tryz.prog 159 #[.int .u8 (c.toNat : Int)] w R := by
 have HR := qh hR
 clear hR
 go_enter Tryz.func159, Tryz.ntmps159
 go_wp2
 all_goals
   refine ret_eq HR.out (congrArg Value.bool ?_)
   rw [Bool.eq_iff_iff]; simp [Tok.isPlain]; try omega
theorem run_any (F : FuncId) (p : UInt8 → Bool) (hc : ∀ (args : Array Value) (w : World), (callFunc F args).run Tryz.prog w = .ok (.enter F args) w)
   (hf : ∀ (c : UInt8) (w : World) {R : Ending → World → Prop}, R (.returned (.bool (p c))) w → Calls Tryz.prog F #[.int .u8 (c.toNat : Int)] w R)
   (s : ByteArray) (at' : Nat) (hs : s.size ≤ 4000) (ha : at' ≤ s.size) (w : World) (a : Int) (hae : a = (at' : Int)) {R : Ending → World → Prop} (hR : R (.returned (.string (s.extract at' (Tok.stop p s at')))) w) :
   Calls Tryz.prog 156 #[.string s, .int .i64 a, .func (.func F) #[] #[]] w R := by
 subst hae
 have HF := qh @hf
 have HR := qh hR
 clear hf hR
 go_enter Tryz.func156, Tryz.ntmps156
 go_wp2_with fail
 go_loop [7] (fun i => ∃ k : Nat, at' ≤ k ∧ k ≤ s.size ∧ i = .int .i64 k ∧ Tok.stop p s k = Tok.stop p s at') (fun i => s.size - (intOf i).toNat)
 case atStart => exact ⟨at', Nat.le_refl _, ha, rfl, rfl⟩
 case round =>
   obtain ⟨k, hk1, hk2, rfl, he⟩ := hrel
   have HE := qh he
   clear he
   by_cases hlt : k < s.size
   · go_wp2_with (with_reducible refine HF.out _ _ ?_)
     · have hp : p s[k] = true := by assumption
       go_round
       case rel => exact ⟨k + 1, by omega, by omega, by go_num, by rw [Tok.stop_step hlt hp, HE.out]⟩
       case measure => simp [intOf]; omega
     · have hp : p s[k] = false := by assumption
       refine ret_eq HR.out ?_
       rw [← HE.out, Tok.stop_here hlt hp] <;> rfl
   · go_wp2_with fail
     refine ret_eq HR.out ?_
     rw [← HE.out, Tok.stop_end (by omega)] <;> rfl
end
end Go.Proofs.YtdlbhiaceheffaaGreatDoor
namespace Go.Proofs
open Go.Shelf
def Tryz.lays156_ren : Go.Shelf.Ren := ⟨fun | 156 => 122 | 165 => 116 | 166 => 113 | 169 => 43 | 240 => 142 | 241 => 146 | 276 => 169 | 277 => 170 | n => n, fun | 31 => 22 | 9 => 9 | 3 => 3 | 4 => 4 | 0 => 0 | 20 => 20 | 72 => 87 | 76 => 140 | 70 => 84 | 37 => 85 | 75 => 139 | 127 => 118 | 164 => 166 | 5 => 5 | 80 => 91 | n => n, fun | n => n⟩
theorem Tryz.lays156 : Go.Proofs.Lays.n156 Tryz.prog Tryz.lays156_ren := {
 mixed := by kernel_rfl
 f156 := Tryz.func122.trans (congrArg some (by kernel_rfl))
 f165 := Tryz.func116.trans (congrArg some (by kernel_rfl))
 f166 := Tryz.func113.trans (congrArg some (by kernel_rfl))
 f169 := Tryz.func43.trans (congrArg some (by kernel_rfl))
 f240 := Tryz.func142.trans (congrArg some (by kernel_rfl))
 f241 := Tryz.func146.trans (congrArg some (by kernel_rfl))
 f276 := Tryz.func169.trans (congrArg some (by kernel_rfl))
 f277 := Tryz.func170.trans (congrArg some (by kernel_rfl))
 t0 := Tryz.underlying0
 a0 := Tryz.isAgg0
 z0 := Tryz.sizeOf0
 v0 := Tryz.zeroValue0
 t3 := Tryz.underlying3
 a3 := Tryz.isAgg3
 z3 := Tryz.sizeOf3
 v3 := Tryz.zeroValue3
 t4 := Tryz.underlying4
 a4 := Tryz.isAgg4
 z4 := Tryz.sizeOf4
 v4 := Tryz.zeroValue4
 t9 := Tryz.underlying9
 a9 := Tryz.isAgg9
 z9 := Tryz.sizeOf9
 v9 := Tryz.zeroValue9
 t20 := Tryz.underlying20
 a20 := Tryz.isAgg20
 z20 := Tryz.sizeOf20
 v20 := Tryz.zeroValue20
 t31 := Tryz.underlying22
 a31 := Tryz.isAgg22
 z31 := Tryz.sizeOf22
 v31 := Tryz.zeroValue22
 t37 := Tryz.underlying85
 a37 := Tryz.isAgg85
 z37 := Tryz.sizeOf85
 v37 := Tryz.zeroValue85
 t70 := Tryz.underlying84
 a70 := Tryz.isAgg84
 z70 := Tryz.sizeOf84
 v70 := Tryz.zeroValue84
 t72 := Tryz.underlying87
 a72 := Tryz.isAgg87
 z72 := Tryz.sizeOf87
 v72 := Tryz.zeroValue87
 t75 := Tryz.underlying139
 a75 := Tryz.isAgg139
 z75 := Tryz.sizeOf139
 v75 := Tryz.zeroValue139
 t76 := Tryz.underlying140
 a76 := Tryz.isAgg140
 z76 := Tryz.sizeOf140
 v76 := Tryz.zeroValue140
 t127 := Tryz.underlying118
 a127 := Tryz.isAgg118
 z127 := Tryz.sizeOf118
 v127 := Tryz.zeroValue118
 t164 := Tryz.underlying166
 a164 := Tryz.isAgg166
 z164 := Tryz.sizeOf166
 v164 := Tryz.zeroValue166 }
theorem Tryz.Builder_Extra_156 : Builder.Extra Tryz.prog Tryz.lays156_ren := {
 sizeBuilder := by kernel_rfl
 liesBuilder := by kernel_rfl
 t5 := Tryz.underlying5
 a5 := Tryz.isAgg5
 z5 := Tryz.sizeOf5
 v5 := Tryz.zeroValue5
 infoByte := by kernel_rfl
 cellsByte := by kernel_rfl
 sizeByte := by kernel_rfl
 neB5 := by decide }
open Go.RowKit in
theorem Tryz.strings_Join_none (a : Option Addr) (c : Nat) (sep : ByteArray) (w : World) :
   Calls Tryz.prog 122 #[.slice a 0 c, .string sep] w fun e w' => e = .returned (.string ⟨#[]⟩) ∧ w' = w := Any.strings_Join_none Tryz.lays156 Tryz.Builder_Extra_156 a c sep w
open Go.RowKit in
theorem Tryz.strings_Join (bk o c : Nat) (xs : List ByteArray) (sep : ByteArray) (w : World) (hcells : ∀ (j : Nat) x, xs[j]? = some x → w.cell? ⟨bk, o + j, none⟩ = some (.string x)) (hbk : bk < w.heap.size) (hN : xs.length ≤ 140737488355328) (hcap : xs.length ≤ c) (hlen : (Lib.join (xs.map (·.data.toList)) sep.data.toList).length ≤ 140737488355328) :
   Calls Tryz.prog 122 #[.slice (some ⟨bk, o, none⟩) xs.length c, .string sep] w fun e w' => e = .returned (.string ⟨(Lib.join (xs.map (·.data.toList)) sep.data.toList).toArray⟩) ∧ Below w.heap.size w w' := Any.strings_Join Tryz.lays156 Tryz.Builder_Extra_156 bk o c xs sep w hcells hbk hN hcap hlen
def Tryz.lays137_ren : Go.Shelf.Ren := ⟨fun | 137 => 160 | 217 => 175 | 266 => 182 | n => n, fun | 9 => 9 | 5 => 5 | 3 => 3 | n => n, fun | n => n⟩
theorem Tryz.lays137 : Go.Proofs.Lays.n137 Tryz.prog Tryz.lays137_ren := {
 mixed := by kernel_rfl
 f137 := Tryz.func160.trans (congrArg some (by kernel_rfl))
 f217 := Tryz.func175.trans (congrArg some (by kernel_rfl))
 f266 := Tryz.func182.trans (congrArg some (by kernel_rfl))
 t3 := Tryz.underlying3
 a3 := Tryz.isAgg3
 z3 := Tryz.sizeOf3
 v3 := Tryz.zeroValue3
 t5 := Tryz.underlying5
 a5 := Tryz.isAgg5
 z5 := Tryz.sizeOf5
 v5 := Tryz.zeroValue5
 t9 := Tryz.underlying9
 a9 := Tryz.isAgg9
 z9 := Tryz.sizeOf9
 v9 := Tryz.zeroValue9 }
open Go.RowKit in
theorem Tryz.strings_IndexByte (s : ByteArray) (c : Int) (w : World) :
   Calls Tryz.prog 160 #[.string s, .int .u8 c] w fun e w' => e = .returned (.int .i64 (Lib.indexByte s.data.toList c.toNat.toUInt8)) ∧ w' = w := Any.strings_IndexByte Tryz.lays137 s c w
def Tryz.lays121_ren : Go.Shelf.Ren := ⟨fun | 121 => 148 | 214 => 172 | n => n, fun | 4 => 4 | 9 => 9 | n => n, fun | n => n⟩
theorem Tryz.lays121 : Go.Proofs.Lays.n121 Tryz.prog Tryz.lays121_ren := {
 mixed := by kernel_rfl
 f121 := Tryz.func148.trans (congrArg some (by kernel_rfl))
 f214 := Tryz.func172.trans (congrArg some (by kernel_rfl))
 t4 := Tryz.underlying4
 a4 := Tryz.isAgg4
 z4 := Tryz.sizeOf4
 v4 := Tryz.zeroValue4
 t9 := Tryz.underlying9
 a9 := Tryz.isAgg9
 z9 := Tryz.sizeOf9
 v9 := Tryz.zeroValue9 }
open Go.RowKit in
theorem Tryz.strconv_FormatBool (b : Bool) (w : World) :
   Calls Tryz.prog 148 #[.bool b] w fun e w' => e = .returned (.string ⟨(Lib.formatBool b).toArray⟩) ∧ w' = w := Any.strconv_FormatBool Tryz.lays121 b w
def Tryz.lays172_ren : Go.Shelf.Ren := ⟨fun | 172 => 194 | 244 => 206 | 245 => 207 | 247 => 212 | 279 => 213 | 280 => 214 | 281 => 215 | 282 => 216 | 287 => 217 | 316 => 218 | 171 => 147 | 205 => 219 | 321 => 220 | 322 => 221 | 243 => 171 | 246 => 181 | 283 => 188 | 284 => 189 | 285 => 190 | 286 => 191 | 129 => 202 | 317 => 201 | 318 => 203 | 319 => 204 | 320 => 205 | 337 => 210 | 338 => 211 | n => n, fun | 9 => 9 | 3 => 3 | 75 => 139 | 76 => 140 | 4 => 4 | 5 => 5 | 167 => 188 | 37 => 85 | 0 => 0 | 85 => 189 | 2 => 2 | 168 => 191 | 53 => 156 | 175 => 196 | 46 => 142 | 210 => 200 | 127 => 118 | 145 => 205 | 143 => 203 | 21 => 21 | 171 => 172 | 173 => 175 | 212 => 182 | 51 => 153 | 20 => 20 | 213 => 183 | 232 => 194 | 233 => 195 | 80 => 91 | n => n, fun | 15 => 5 | 16 => 6 | 17 => 2 | 18 => 3 | 19 => 4 | n => n⟩
theorem Tryz.lays172 : Go.Proofs.Lays.n172 Tryz.prog Tryz.lays172_ren := {
 mixed := by kernel_rfl
 f129 := Tryz.func202.trans (congrArg some (by kernel_rfl))
 f171 := Tryz.func147.trans (congrArg some (by kernel_rfl))
 f172 := Tryz.func194.trans (congrArg some (by kernel_rfl))
 f205 := Tryz.func219.trans (congrArg some (by kernel_rfl))
 f243 := Tryz.func171.trans (congrArg some (by kernel_rfl))
 f244 := Tryz.func206.trans (congrArg some (by kernel_rfl))
 f245 := Tryz.func207.trans (congrArg some (by kernel_rfl))
 f246 := Tryz.func181.trans (congrArg some (by kernel_rfl))
 f247 := Tryz.func212.trans (congrArg some (by kernel_rfl))
 f279 := Tryz.func213.trans (congrArg some (by kernel_rfl))
 f280 := Tryz.func214.trans (congrArg some (by kernel_rfl))
 f281 := Tryz.func215.trans (congrArg some (by kernel_rfl))
 f282 := Tryz.func216.trans (congrArg some (by kernel_rfl))
 f283 := Tryz.func188.trans (congrArg some (by kernel_rfl))
 f284 := Tryz.func189.trans (congrArg some (by kernel_rfl))
 f285 := Tryz.func190.trans (congrArg some (by kernel_rfl))
 f286 := Tryz.func191.trans (congrArg some (by kernel_rfl))
 f287 := Tryz.func217.trans (congrArg some (by kernel_rfl))
 f316 := Tryz.func218.trans (congrArg some (by kernel_rfl))
 f317 := Tryz.func201.trans (congrArg some (by kernel_rfl))
 f318 := Tryz.func203.trans (congrArg some (by kernel_rfl))
 f319 := Tryz.func204.trans (congrArg some (by kernel_rfl))
 f320 := Tryz.func205.trans (congrArg some (by kernel_rfl))
 f321 := Tryz.func220.trans (congrArg some (by kernel_rfl))
 f322 := Tryz.func221.trans (congrArg some (by kernel_rfl))
 f337 := Tryz.func210.trans (congrArg some (by kernel_rfl))
 f338 := Tryz.func211.trans (congrArg some (by kernel_rfl))
 t0 := Tryz.underlying0
 a0 := Tryz.isAgg0
 z0 := Tryz.sizeOf0
 v0 := Tryz.zeroValue0
 t2 := Tryz.underlying2
 a2 := Tryz.isAgg2
 z2 := Tryz.sizeOf2
 v2 := Tryz.zeroValue2
 t3 := Tryz.underlying3
 a3 := Tryz.isAgg3
 z3 := Tryz.sizeOf3
 v3 := Tryz.zeroValue3
 t4 := Tryz.underlying4
 a4 := Tryz.isAgg4
 z4 := Tryz.sizeOf4
 v4 := Tryz.zeroValue4
 t5 := Tryz.underlying5
 a5 := Tryz.isAgg5
 z5 := Tryz.sizeOf5
 v5 := Tryz.zeroValue5
 t9 := Tryz.underlying9
 a9 := Tryz.isAgg9
 z9 := Tryz.sizeOf9
 v9 := Tryz.zeroValue9
 t20 := Tryz.underlying20
 a20 := Tryz.isAgg20
 z20 := Tryz.sizeOf20
 v20 := Tryz.zeroValue20
 t21 := Tryz.underlying21
 a21 := Tryz.isAgg21
 z21 := Tryz.sizeOf21
 v21 := Tryz.zeroValue21
 t37 := Tryz.underlying85
 a37 := Tryz.isAgg85
 z37 := Tryz.sizeOf85
 v37 := Tryz.zeroValue85
 t46 := Tryz.underlying142
 a46 := Tryz.isAgg142
 z46 := Tryz.sizeOf142
 v46 := Tryz.zeroValue142
 t51 := Tryz.underlying153
 a51 := Tryz.isAgg153
 z51 := Tryz.sizeOf153
 v51 := Tryz.zeroValue153
 t53 := Tryz.underlying156
 a53 := Tryz.isAgg156
 z53 := Tryz.sizeOf156
 v53 := Tryz.zeroValue156
 t75 := Tryz.underlying139
 a75 := Tryz.isAgg139
 z75 := Tryz.sizeOf139
 v75 := Tryz.zeroValue139
 t76 := Tryz.underlying140
 a76 := Tryz.isAgg140
 z76 := Tryz.sizeOf140
 v76 := Tryz.zeroValue140
 t85 := Tryz.underlying189
 a85 := Tryz.isAgg189
 z85 := Tryz.sizeOf189
 v85 := Tryz.zeroValue189
 t127 := Tryz.underlying118
 a127 := Tryz.isAgg118
 z127 := Tryz.sizeOf118
 v127 := Tryz.zeroValue118
 t143 := Tryz.underlying203
 a143 := Tryz.isAgg203
 z143 := Tryz.sizeOf203
 v143 := Tryz.zeroValue203
 t145 := Tryz.underlying205
 a145 := Tryz.isAgg205
 z145 := Tryz.sizeOf205
 v145 := Tryz.zeroValue205
 t167 := Tryz.underlying188
 a167 := Tryz.isAgg188
 z167 := Tryz.sizeOf188
 v167 := Tryz.zeroValue188
 t168 := Tryz.underlying191
 a168 := Tryz.isAgg191
 z168 := Tryz.sizeOf191
 v168 := Tryz.zeroValue191
 t171 := Tryz.underlying172
 a171 := Tryz.isAgg172
 z171 := Tryz.sizeOf172
 v171 := Tryz.zeroValue172
 t173 := Tryz.underlying175
 a173 := Tryz.isAgg175
 z173 := Tryz.sizeOf175
 v173 := Tryz.zeroValue175
 t175 := Tryz.underlying196
 a175 := Tryz.isAgg196
 z175 := Tryz.sizeOf196
 v175 := Tryz.zeroValue196
 t210 := Tryz.underlying200
 a210 := Tryz.isAgg200
 z210 := Tryz.sizeOf200
 v210 := Tryz.zeroValue200
 t212 := Tryz.underlying182
 a212 := Tryz.isAgg182
 z212 := Tryz.sizeOf182
 v212 := Tryz.zeroValue182
 t213 := Tryz.underlying183
 a213 := Tryz.isAgg183
 z213 := Tryz.sizeOf183
 t232 := Tryz.underlying194
 a232 := Tryz.isAgg194
 z232 := Tryz.sizeOf194
 v232 := Tryz.zeroValue194
 t233 := Tryz.underlying195
 a233 := Tryz.isAgg195
 z233 := Tryz.sizeOf195
 v233 := Tryz.zeroValue195
 g15 := by kernel_rfl
 g16 := by kernel_rfl
 g17 := by kernel_rfl
 g18 := by kernel_rfl
 g19 := by kernel_rfl }
open Go.RowKit in
theorem Tryz.strconv_Atoi (s : ByteArray) (n : Int) (hl : s.size ≤ 18) (h : Lib.atoi s.data.toList = some n) (w : World) :
   Calls Tryz.prog 194 #[.string s] w fun e w' => e = .returned (.tuple #[.int .i64 n, .nilIface]) ∧ ∃ t, w' = Lib.bytesWorld w 5 t := Any.strconv_Atoi Tryz.lays172 s n hl h w
def Tryz.lays99_ren : Go.Shelf.Ren := ⟨fun | 99 => 115 | 206 => 145 | n => n, fun | 9 => 9 | 4 => 4 | 3 => 3 | n => n, fun | n => n⟩
theorem Tryz.lays99 : Go.Proofs.Lays.n99 Tryz.prog Tryz.lays99_ren := {
 mixed := by kernel_rfl
 f99 := Tryz.func115.trans (congrArg some (by kernel_rfl))
 f206 := Tryz.func145.trans (congrArg some (by kernel_rfl))
 t3 := Tryz.underlying3
 a3 := Tryz.isAgg3
 z3 := Tryz.sizeOf3
 v3 := Tryz.zeroValue3
 t4 := Tryz.underlying4
 a4 := Tryz.isAgg4
 z4 := Tryz.sizeOf4
 v4 := Tryz.zeroValue4
 t9 := Tryz.underlying9
 a9 := Tryz.isAgg9
 z9 := Tryz.sizeOf9
 v9 := Tryz.zeroValue9 }
open Go.RowKit Go.Lib in
theorem Tryz.strings_HasPrefix (s p : ByteArray) (w : World) :
   Calls Tryz.prog 115 #[.string s, .string p] w fun e w' => e = .returned (.bool (Lib.hasPrefix s.data.toList p.data.toList)) ∧ w' = w := Any.strings_HasPrefix Tryz.lays99 s p w
def Tryz.lays109_ren : Go.Shelf.Ren := ⟨fun | 109 => 139 | n => n, fun | 31 => 22 | 9 => 9 | 3 => 3 | 0 => 0 | 4 => 4 | n => n, fun | n => n⟩
theorem Tryz.lays109 : Go.Proofs.Lays.n109 Tryz.prog Tryz.lays109_ren := {
 mixed := by kernel_rfl
 f109 := Tryz.func139.trans (congrArg some (by kernel_rfl))
 t0 := Tryz.underlying0
 a0 := Tryz.isAgg0
 z0 := Tryz.sizeOf0
 v0 := Tryz.zeroValue0
 t3 := Tryz.underlying3
 a3 := Tryz.isAgg3
 z3 := Tryz.sizeOf3
 v3 := Tryz.zeroValue3
 t4 := Tryz.underlying4
 a4 := Tryz.isAgg4
 z4 := Tryz.sizeOf4
 v4 := Tryz.zeroValue4
 t9 := Tryz.underlying9
 a9 := Tryz.isAgg9
 z9 := Tryz.sizeOf9
 v9 := Tryz.zeroValue9
 t31 := Tryz.underlying22
 a31 := Tryz.isAgg22
 z31 := Tryz.sizeOf22
 v31 := Tryz.zeroValue22 }
open Go.Lib in
theorem Tryz.slices_Index_string (b off n c : Nat) (zs : List ByteArray) (x : ByteArray) (w : World) (hz : n ≤ zs.length) (hbig : n ≤ 9223372036854775807) (hc : ∀ j, j < zs.length → w.cell? ⟨b, off + j, none⟩ = some (.string (zs.getD j ByteArray.empty))) :
   Calls Tryz.prog 139 #[.slice (some ⟨b, off, none⟩) n c, .string x] w fun e w' => e = .returned (.int .i64 (Lib.idxOfS (zs.take n) x)) ∧ w' = w := Any.slices_Index_string Tryz.lays109 b off n c zs x w hz hbig hc
def Tryz.lays110_ren : Go.Shelf.Ren := ⟨fun | 110 => 161 | 109 => 139 | n => n, fun | 31 => 22 | 9 => 9 | 4 => 4 | 3 => 3 | 0 => 0 | n => n, fun | n => n⟩
theorem Tryz.lays110 : Go.Proofs.Lays.n110 Tryz.prog Tryz.lays110_ren := {
 mixed := by kernel_rfl
 f109 := Tryz.func139.trans (congrArg some (by kernel_rfl))
 f110 := Tryz.func161.trans (congrArg some (by kernel_rfl))
 t0 := Tryz.underlying0
 a0 := Tryz.isAgg0
 z0 := Tryz.sizeOf0
 v0 := Tryz.zeroValue0
 t3 := Tryz.underlying3
 a3 := Tryz.isAgg3
 z3 := Tryz.sizeOf3
 v3 := Tryz.zeroValue3
 t4 := Tryz.underlying4
 a4 := Tryz.isAgg4
 z4 := Tryz.sizeOf4
 v4 := Tryz.zeroValue4
 t9 := Tryz.underlying9
 a9 := Tryz.isAgg9
 z9 := Tryz.sizeOf9
 v9 := Tryz.zeroValue9
 t31 := Tryz.underlying22
 a31 := Tryz.isAgg22
 z31 := Tryz.sizeOf22
 v31 := Tryz.zeroValue22 }
open Go.Lib in
theorem Tryz.slices_Contains_string (b off n c : Nat) (zs : List ByteArray) (x : ByteArray) (w : World) (hz : n ≤ zs.length) (hbig : n ≤ 9223372036854775807) (hc : ∀ j, j < zs.length → w.cell? ⟨b, off + j, none⟩ = some (.string (zs.getD j ByteArray.empty))) :
   Calls Tryz.prog 161 #[.slice (some ⟨b, off, none⟩) n c, .string x] w fun e w' => e = .returned (.bool (Lib.containsS (zs.take n) x)) ∧ w' = w := Any.slices_Contains_string Tryz.lays110 b off n c zs x w hz hbig hc
open Go.Lib in
theorem Tryz.slices_Contains_string_empty (a : Option Addr) (c : Nat) (x : ByteArray) (w : World) :
   Calls Tryz.prog 161 #[.slice a 0 c, .string x] w fun e w' => e = .returned (.bool false) ∧ w' = w := Any.slices_Contains_string_empty Tryz.lays110 a c x w
end Go.Proofs
namespace Go.Proofs.YtdlbhiaceheffaaGreatDoor
section
open Go Go.RowKit
def Words (w : World) : Prop := ∃ b off cap : Nat, w.cell? ⟨0, 0, none⟩ = some (.slice (some ⟨b, off, none⟩) 17 cap) ∧ ∀ j, j < 17 → w.cell? ⟨b, off + j, none⟩ = some (.string (Tok.words.getD j ByteArray.empty))
theorem Words.below {w w' : World} (h : Words w) (hb : Below w.heap.size w w') : Words w' := by
 obtain ⟨b, off, cap, h1, h2⟩ := h
 exact ⟨b, off, cap, by rw [hb.cell (World.block_lt_of_cell? w _ h1)]; exact h1, fun j hj => by rw [hb.cell (World.block_lt_of_cell? w _ (h2 j hj))]; exact h2 j hj⟩
theorem isWord_any (s : ByteArray) (w : World) (hw : Words w) {R : Ending → World → Prop} (hR : R (.returned (.bool (Tok.isWord s))) w) :
   Calls Tryz.prog 158 #[.string s] w R := by
 have HR := qh hR
 clear hR
 obtain ⟨b, off, cap, h1, h2⟩ := hw
 have hc := Tryz.slices_Contains_string b off 17 cap Tok.words s w (by decide) (by decide) (fun j hj => h2 j hj)
 have HC := qh hc
 clear hc h2
 go_enter Tryz.func158, Tryz.ntmps158
 go_wp2_with (go_at_call 161; refine HC.out.mono ?_; rintro e w' ⟨rfl, rfl⟩)
 have e1 : Lib.containsS (Tok.words.take 17) s = Tok.isWord s := by rw [Bool.eq_iff_iff, Tok.isWord_iff, Lib.containsS_iff]; rfl
 exact ret_eq HR.out (congrArg Value.bool e1)
def tkVal (t : Tok.Tk) : Value := .agg #[.int .i64 t.kind, .string t.text, .int .i64 t.pos]
theorem name_any (s : ByteArray) (k : Nat) (w : World) (hw : Words w) (hs : s.size ≤ 4000) (hk : k < s.size) {R : Ending → World → Prop}
   (hR : ∀ w', Below w.heap.size w w' → R (.returned (.tuple #[tkVal ⟨if Tok.isWord (s.extract k (Tok.stop Tok.isPart s k)) then 2 else 1, s.extract k (Tok.stop Tok.isPart s k), k⟩, .bool (decide (Tok.stop Tok.isPart s k - k ≤ 20))])) w') :
   Calls Tryz.prog 125 #[.string s, .int .i64 k] w R := by
 have HRUN := qh (@run_any 157 Tok.isPart Tryz.call157 name1_any s k hs (by omega))
 have HR := qh hR
 have HW := qh hw
 clear hR hw
 have hle := Tok.stop_le Tok.isPart s k (by omega)
 have hge := Tok.stop_ge Tok.isPart s k
 generalize Tok.stop Tok.isPart s k = e at *
 cases hi : Tok.isWord (s.extract k e)
 all_goals
   have HI := qh hi
   clear hi
   go_enter Tryz.func125, Tryz.ntmps125
   go_wp2_with (go_at_call 156; refine HRUN.out _ _ rfl ?_)
   refine isWord_any _ _ ?_ ?_
   · exact HW.out.below (((Below.refl _ _).alloc (Nat.le_refl _) _).alloc (by simp) _)
   rw [HI.out]
   go_wp2
   go_region
   go_wp2
   refine bodyPost_ret ?_ rfl (HR.out _ ?_)
   · simp [results, Tryz.results125, go_sem, tkVal, HI.out]; omega
   · exact ((((Below.refl _ _).alloc (Nat.le_refl _) _).alloc (by simp) _).drew)
end
section
open Go.ChangeShapes Go.WideShapes Go.ChangeAt Go.RowKit Go.Lib
open Go.ChangeMaps (open_string shut_string)
theorem ownKnob_none : ownKnob Tryz.prog.godebug = none := by kernel_rfl
theorem words_named : Tryz.prog.globalNamed "guardrail/token.words" = some 0 := by kernel_rfl
theorem words_type : (Tryz.prog.globals[0]?).map (·.type) = some 22 := by kernel_rfl
theorem cells_string : Tryz.prog.cellsOf 9 = 1 := by kernel_rfl
theorem laid_words : (Rows.laid_guardrail_token_words : DataW Unit) = .slice (Tok.wordsL.map fun l => .lit (.string l)) [] := rfl
theorem words_of_laid {W : World} (h : VarReads Tryz.prog W "guardrail/token.words" Rows.laid_guardrail_token_words) : Words W := by
 obtain ⟨g', t', cs, fuel, p, hg, hty, hvar, hd⟩ := h
 obtain rfl := Option.some.inj (words_named.symm.trans hg)
 obtain rfl := Option.some.inj (words_type.symm.trans hty)
 rw [laid_words] at hd
 rcases open_strings Tryz.underlying22 Tryz.underlying9 cells_string hd with ⟨_, hx⟩ | ⟨a, len, cap, ss, hcs, _, hl, _, hsz, hx, hcell, _⟩
 · cases hx
 simp only [Prod.mk.injEq, DataW.slice.injEq] at hx
 obtain ⟨⟨hx1, hx2⟩, _⟩ := hx
 have hmap : (ss.take len).map (fun s => s.data.toList) = Tok.wordsL := by
   have h1 : (ss.take len).map (fun s => (DataW.lit (.string s.data.toList) : DataW Unit)) = Tok.wordsL.map fun l => .lit (.string l) := hx1.symm
   have h2 := congrArg (List.map (fun d : DataW Unit => match d with | .lit (.string l) => l | _ => [])) h1
   simpa [List.map_map, Function.comp_def] using h2
 have hlen : (ss.take len).length = 17 := by have := congrArg List.length hmap; simpa [Tok.wordsL] using this
 have hss : ss.length ≥ 17 := by simp at hlen; omega
 have hl17 : len = 17 := by
   have h3 : (ss.drop len).length = 0 := by have := congrArg List.length hx2; simp [strs] at this; simp; omega
   simp at hlen h3
   simp at hsz
   omega
 subst hl17
 have hw : ss.take 17 = Tok.words := by
   unfold Tok.words
   rw [← hmap, List.map_map]
   symm
   exact List.map_id'' (fun s => by cases s; rfl) _
 have hcell' : ∀ i, i < 17 → W.cell? (a.add i) = some (.string (Tok.words.getD i ByteArray.empty)) := by
   intro i hi
   rw [hcell i (by omega), ← hw]
   simp [List.getD, hi]
 obtain ⟨R, o, sR⟩ := a
 obtain rfl : sR = none := by
   have h00 := hcell' 0 (by omega)
   have : (Addr.add ⟨R, o, sR⟩ 0) = ⟨R, o, sR⟩ := by simp [Addr.add]
   rw [this] at h00
   exact Go.Proofs.cell_spot h00
 refine ⟨R, o, cap, ?_, fun j hj => ?_⟩
 · rw [World.var?_cell hg hvar 0, ← Array.getElem?_toList, hcs]
   rfl
 · have := hcell' j hj
   rwa [Addr.add_lit] at this
end
section
open Go.ChangeShapes Go.WideShapes Go.ChangeAt Go.RowKit Go.Lib
def tab32 : Array Value := (#[0, 1, 28, 2, 29, 14, 24, 3, 30, 22, 20, 15, 25, 17, 4, 8, 31, 27, 13, 23, 21, 19, 16, 7, 26, 12, 18, 6, 11, 5, 10, 9] : Array Int).map fun n => .int .u8 n
def tab64 : Array Value := (#[0, 1, 56, 2, 57, 49, 28, 3, 61, 58, 42, 50, 38, 29, 17, 4, 62, 47, 59, 36, 45, 43, 51, 22, 53, 39, 33, 30, 24, 18, 12, 5, 63, 55, 48, 27, 60, 41, 37, 16, 46, 35, 44, 21, 52, 32, 23, 11, 54, 26, 40, 15, 34, 20, 31, 10, 25, 14, 19, 9, 13, 8, 7, 6] : Array Int).map fun n => .int .u8 n
def pow10s : Array Value := (#[1, 10, 100, 1000, 10000, 100000, 1000000, 10000000, 100000000, 1000000000, 10000000000, 100000000000, 1000000000000, 10000000000000, 100000000000000, 1000000000000000, 10000000000000000, 100000000000000000, 1000000000000000000, 10000000000000000000] : Array Int).map fun n => .int .u64 n
def relay (cs : Array Value) : Obj → Obj
 | .cells _ t frozen => .cells cs t frozen
 | o => o
noncomputable def laidWorld6 (os : Os) : World :=
 let w0 := World.holding Tryz.prog os ⟨#[], #[], []⟩
 let n := w0.heap.size
 { w0 with heap := (((((((((w0.heap.modify 0 (relay #[.slice (some ⟨n, 0, none⟩) 17 17])).modify 3 (relay tab32)).modify 4 (relay tab64)).modify 2 (relay pow10s)).modify 6 (relay #[.iface 203 (.pointer (some ⟨n + 1, 0, none⟩))])).modify 5 (relay #[.iface 203 (.pointer (some ⟨n + 2, 0, none⟩))])).push (.cells (Tok.words.map Value.string).toArray 9)).push (.cells #[.string ⟨#[118, 97, 108, 117, 101, 32, 111, 117, 116, 32, 111, 102, 32, 114, 97, 110, 103, 101]⟩] 205)).push (.cells #[.string ⟨#[105, 110, 118, 97, 108, 105, 100, 32, 115, 121, 110, 116, 97, 120]⟩] 205)) }
end
end Go.Proofs.YtdlbhiaceheffaaGreatDoor
