/- Plain definitions and facts on bytes, texts and tokens: what the scanners compute. No program in sight. Walks of the small functions of package token, and of token.run. DERIVED: THE SHELF's CONTRACTS AT THIS DUMP, IN PLAIN WORDS (tools/lay-plain.mjs out of 'TryzShelf.lean', which tools/lay-shelf.mjs wrote): THE SAME DECLARATION Walks of token.IsWord, name, number, text, sign. -/
import Derived.Test.YtdlbhiaceheffabGreatDoorProg
import Derived.WalkKit
import Derived.Lib.Hide
import Derived.Shelf.Strings.Builder1
import Derived.Shelf.Strings.Builder2
import Derived.Shelf.Strings.OnBuilder
import Derived.Shelf.Small.Strs
import Derived.Shelf.Small.Wraps
import Derived.Shelf.Strings.BuilderF
import Derived.Shelf.Strings.BuilderK
import Derived.Shelf.Strconv.Atoi
import Derived.Shelf.Strconv.Itoa0
import Derived.Shelf.Strconv.Itoa1
import Derived.Shelf.LaysM
import Derived.Shelf.Strconv.Itoa2
import Derived.Shelf.Strconv.Itoa3
import Derived.Shelf.Strings.Search1
import Derived.Shelf.Strings.Prefix
import Derived.Shelf.Bits.Mul64
import Derived.Shelf.Strings.Repeat
import Derived.Shelf.Slices.Turned
import Derived.BigQuiet
import Derived.Deep.QuietTactic
set_option linter.all false
namespace Go.Proofs.YtdlbhiaceheffabGreatDoor
section
theorem qh {p : Prop} (h : p) : Go.RowKit.Hid p := h
theorem lzA {α : Type} {a b : List α} : (a ++ b).length = a.length + b.length := List.length_append
theorem lzC {α : Type} {a : α} {l : List α} : (a :: l).length = l.length + 1 := rfl
theorem lzN {α : Type} : ([] : List α).length = 0 := rfl
end
section
namespace Tok
def isDigit (c : UInt8) : Bool := decide (48 ≤ c.toNat) && decide (c.toNat ≤ 57)
def isLetter (c : UInt8) : Bool := decide (97 ≤ c.toNat) && decide (c.toNat ≤ 122) || (decide (65 ≤ c.toNat) && decide (c.toNat ≤ 90)) || decide (c.toNat = 95)
def isPart (c : UInt8) : Bool := isLetter c || isDigit c
def isPlain (c : UInt8) : Bool := decide (32 ≤ c.toNat) && decide (c.toNat ≤ 126) && !decide (c.toNat = 34)
def stop (p : UInt8 → Bool) (s : ByteArray) (k : Nat) : Nat := k + ((s.data.toList.drop k).takeWhile p).length
theorem drop_cons (s : ByteArray) (k : Nat) (h : k < s.size) : s.data.toList.drop k = s[k] :: s.data.toList.drop (k + 1) := by
 have h' : k < s.data.toList.length := by simpa using h
 rw [List.drop_eq_getElem_cons h']; rfl
theorem stop_step {p : UInt8 → Bool} {s : ByteArray} {k : Nat} (h : k < s.size) (hp : p s[k] = true) : stop p s (k + 1) = stop p s k := by
 unfold stop; rw [drop_cons s k h]; simp [hp]; omega
theorem stop_here {p : UInt8 → Bool} {s : ByteArray} {k : Nat} (h : k < s.size) (hp : p s[k] = false) : stop p s k = k := by
 unfold stop; rw [drop_cons s k h]; simp [hp]
theorem stop_end {p : UInt8 → Bool} {s : ByteArray} {k : Nat} (h : s.size ≤ k) : stop p s k = k := by
 unfold stop; rw [List.drop_eq_nil_of_le (by simpa using h)]; simp
theorem stop_ge (p : UInt8 → Bool) (s : ByteArray) (k : Nat) : k ≤ stop p s k := by unfold stop; omega
theorem stop_le (p : UInt8 → Bool) (s : ByteArray) (k : Nat) (h : k ≤ s.size) : stop p s k ≤ s.size := by
 unfold stop
 have h1 : ((s.data.toList.drop k).takeWhile p).length ≤ (s.data.toList.drop k).length := (List.takeWhile_sublist p).length_le
 have h2 : (s.data.toList.drop k).length = s.size - k := by simp
 omega
def wordsL : List (List UInt8) :=
 [[108, 101, 116], [102, 110], [105, 102], [101, 108, 115, 101], [119, 104, 105, 108, 101], [114, 101, 116, 117, 114, 110], [112, 114, 105, 110, 116], [116, 114, 117, 101], [102, 97, 108, 115, 101], [110, 117, 108, 108], [97, 115], [116, 121, 112, 101, 111, 102], [110, 117, 109], [98, 111, 111, 108], [116, 101, 120, 116], [97, 110, 121], [117, 110, 107, 110, 111, 119, 110]]
def words : List ByteArray := wordsL.map fun l => ⟨l.toArray⟩
def isWord (x : ByteArray) : Bool := decide (x.data.toList ∈ wordsL)
theorem isWord_iff (x : ByteArray) : isWord x = true ↔ x ∈ words := by
 unfold isWord words
 simp only [decide_eq_true_eq, List.mem_map]
 constructor
 · intro h; exact ⟨_, h, by cases x; rfl⟩
 · rintro ⟨l, hl, rfl⟩; exact hl
structure Tk where
 kind : Nat
 text : ByteArray
 pos : Nat
def isSign (c : UInt8) : Bool := decide (c ∈ [40, 41, 123, 125, 91, 93, 44, 59, 58, 46, 61, 60, 43, 45, 42, 33, 124].map (fun n : Nat => n.toUInt8))
def byte (s : ByteArray) (k : Nat) : UInt8 := s.data.toList.getD k 0
def two (s : ByteArray) (k : Nat) : Bool := decide (k + 1 < s.size) && byte s k == 61 && (byte s (k + 1) == 61 || byte s (k + 1) == 62)
def next (s : ByteArray) (k : Nat) : Tk × Nat × Bool :=
 let c := byte s k
 if isLetter c then
   let e := stop isPart s k
   (⟨if isWord (s.extract k e) then 2 else 1, s.extract k e, k⟩, e - k, decide (e - k ≤ 20))
 else if isDigit c then
   let e := stop isDigit s k
   (⟨3, s.extract k e, k⟩, e - k, decide (e - k ≤ 9) && (decide (e - k = 1) || !decide (c = 48)))
 else if c = 34 then
   let e := stop isPlain s (k + 1)
   (⟨4, s.extract (k + 1) e, k⟩, e - k + 1, decide (e - (k + 1) ≤ 30) && (decide (e < s.size) && decide (byte s e = 34)))
 else if two s k then (⟨5, s.extract k (k + 2), k⟩, 2, true)
 else (⟨5, s.extract k (k + 1), k⟩, 1, isSign c)
abbrev Res := Except (Nat × Nat) (List Tk)
def scanFrom (s : ByteArray) : Nat → Nat → List Tk → Res
 | 0, _, out => .ok out
 | f + 1, k, out =>
   if k < s.size then
     if byte s k = 32 ∨ byte s k = 10 then scanFrom s f (k + 1) out
     else if (next s k).2.2 = false then .error (1, k)
     else if out.length = 1000 then .error (2, k)
     else scanFrom s f (k + (next s k).2.1) (out ++ [(next s k).1])
   else .ok (out ++ [⟨6, ⟨#[]⟩, s.size⟩])
def scan (s : ByteArray) : Res := if 4000 < s.size then .error (2, 0) else scanFrom s (s.size + 1) 0 []
theorem byte_eq (s : ByteArray) (k : Nat) (h : k < s.size) : byte s k = s[k] := by
 have h' : k < s.data.toList.length := by simpa using h
 unfold byte
 rw [List.getD_eq_getElem?_getD, List.getElem?_eq_getElem h']; rfl
theorem byte_extract (s : ByteArray) (k e i : Nat) (h : i < (s.extract k e).size) : (s.extract k e)[i] = byte s (k + i) := by
 have hh : i < min e s.size - k := by simpa using h
 rw [ByteArray.getElem_extract, byte_eq s (k + i) (by omega)]
theorem is48 (c : UInt8) : c = 48 ↔ (c.toNat : Int) = 48 := by rw [← UInt8.toNat_inj]; simp; omega
theorem is34 (c : UInt8) : c = 34 ↔ (c.toNat : Int) = 34 := by rw [← UInt8.toNat_inj]; simp; omega
theorem is32 (c : UInt8) : c = 32 ↔ (c.toNat : Int) = 32 := by rw [← UInt8.toNat_inj]; simp; omega
theorem is10 (c : UInt8) : c = 10 ↔ (c.toNat : Int) = 10 := by rw [← UInt8.toNat_inj]; simp; omega
theorem take_drop_size (s : ByteArray) (k : Nat) : List.take (s.size - k) (List.drop k s.data.toList) = List.drop k s.data.toList := List.take_of_length_le (by simp)
theorem prefix2 (s : ByteArray) (k : Nat) (a b : UInt8) : List.isPrefixOf [a, b] (List.drop k s.data.toList) = (decide (k + 1 < s.size) && (byte s k == a && byte s (k + 1) == b)) := by
 by_cases h : k + 1 < s.size
 · rw [drop_cons s k (by omega), drop_cons s (k + 1) h, byte_eq s k (by omega), byte_eq s (k + 1) h]
   simp [List.isPrefixOf, h, BEq.comm]
 · by_cases h1 : k < s.size
   · rw [drop_cons s k h1, List.drop_eq_nil_of_le (by simp; omega)]
     simp [List.isPrefixOf, h]
   · rw [List.drop_eq_nil_of_le (by simp; omega)]
     simp [List.isPrefixOf, h]
theorem two_eq (s : ByteArray) (k : Nat) : two s k = (List.isPrefixOf [61, 61] (List.drop k s.data.toList) || List.isPrefixOf [61, 62] (List.drop k s.data.toList)) := by
 rw [prefix2, prefix2]
 unfold two
 cases decide (k + 1 < s.size) <;> cases byte s k == 61 <;> simp
theorem two_size (s : ByteArray) (k : Nat) (h : two s k = true) : k + 1 < s.size := by
 unfold two at h
 simp at h; exact h.1.1
theorem extract2 (s : ByteArray) (k : Nat) (a b : UInt8) (h : List.isPrefixOf [a, b] (List.drop k s.data.toList) = true) : s.extract k (k + 2) = ⟨#[a, b]⟩ := by
 rw [prefix2] at h
 simp at h
 obtain ⟨h1, h2, h3⟩ := h
 apply ByteArray.ext
 apply Array.ext'
 rw [byte_eq s k (by omega)] at h2
 rw [byte_eq s (k + 1) h1] at h3
 have hd := drop_cons s k (by omega)
 have hd' := drop_cons s (k + 1) h1
 simp only [ByteArray.data_extract, Array.toList_extract, List.extract_eq_take_drop, hd, hd', h2, h3]
 simp
theorem next_bound (s : ByteArray) (k : Nat) (h : k < s.size) (ok : (next s k).2.2 = true) : 1 ≤ (next s k).2.1 ∧ k + (next s k).2.1 ≤ s.size := by
 unfold next at ok ⊢
 by_cases hl : isLetter (byte s k) = true
 · simp only [hl, if_true] at ok ⊢
   have h1 := stop_step (p := isPart) h (by rw [← byte_eq]; simp [isPart, hl])
   have h2 := stop_ge isPart s (k + 1)
   have h3 := stop_le isPart s k (by omega)
   omega
 · by_cases hd : isDigit (byte s k) = true
   · simp only [hl, hd, if_true] at ok ⊢
     have h1 := stop_step (p := isDigit) h (by rw [← byte_eq]; exact hd)
     have h2 := stop_ge isDigit s (k + 1)
     have h3 := stop_le isDigit s k (by omega)
     simp only [Bool.false_eq_true, if_false]
     omega
   · by_cases hq : byte s k = 34
     · simp only [hl, hd, if_false, Bool.false_eq_true] at ok ⊢
       rw [if_pos hq] at ok ⊢
       have h2 := stop_ge isPlain s (k + 1)
       have h3 : stop isPlain s (k + 1) < s.size := by simp at ok; exact ok.2.1
       show 1 ≤ stop isPlain s (k + 1) - k + 1 ∧ k + (stop isPlain s (k + 1) - k + 1) ≤ s.size
       omega
     · by_cases ht : two s k = true
       · simp only [hl, hd, hq, ht, if_true, if_false, Bool.false_eq_true] at ok ⊢
         have := two_size s k ht
         omega
       · simp only [hl, hd, hq, ht, if_false, Bool.false_eq_true] at ok ⊢
         omega
theorem extract_two (s : ByteArray) (k : Nat) (h : k + 1 < s.size) : (s.extract k (k + 2)).data.toList = [byte s k, byte s (k + 1)] := by
 have hd := drop_cons s k (by omega)
 have hd' := drop_cons s (k + 1) h
 rw [← byte_eq s k (by omega)] at hd
 rw [← byte_eq s (k + 1) h] at hd'
 simp only [ByteArray.data_extract, Array.toList_extract, List.extract_eq_take_drop, hd, hd']
 simp
end Tok
end
section
open Go Go.RowKit
theorem ret_eq {R : Ending → World → Prop} {v v' : Value} {w : World} (h : R (.returned v') w) (e : v = v') : R (.returned v) w := e ▸ h
theorem isDigit_any (c : UInt8) (w : World) {R : Ending → World → Prop} (hR : R (.returned (.bool (Tok.isDigit c))) w) :
   Calls Tryz.prog 202 #[.int .u8 (c.toNat : Int)] w R := by
 have HR := qh hR
 clear hR
 go_enter Tryz.func202, Tryz.ntmps202
 go_wp2
 all_goals
   refine ret_eq HR.out (congrArg Value.bool ?_)
   rw [Bool.eq_iff_iff]; simp [Tok.isDigit]; try omega
theorem isLetter_any (c : UInt8) (w : World) {R : Ending → World → Prop} (hR : R (.returned (.bool (Tok.isLetter c))) w) :
   Calls Tryz.prog 200 #[.int .u8 (c.toNat : Int)] w R := by
 have HR := qh hR
 clear hR
 go_enter Tryz.func200, Tryz.ntmps200
 go_wp2
 all_goals
   refine ret_eq HR.out (congrArg Value.bool ?_)
   rw [Bool.eq_iff_iff]; simp [Tok.isLetter]; try omega
theorem name1_any (c : UInt8) (w : World) {R : Ending → World → Prop} (hR : R (.returned (.bool (Tok.isPart c))) w) :
   Calls Tryz.prog 275 #[.int .u8 (c.toNat : Int)] w R := by
 have HR := qh hR
 clear hR
 by_cases h : Tok.isLetter c = true
 all_goals
   try rw [Bool.not_eq_true] at h
   go_enter Tryz.func275, Tryz.ntmps275
   go_wp2_with (first | (go_at_call 200; refine isLetter_any _ _ ?_) | (go_at_call 202; refine isDigit_any _ _ ?_))
   refine ret_eq HR.out (congrArg Value.bool ?_)
   simp [Tok.isPart, h]
theorem text1_any (c : UInt8) (w : World) {R : Ending → World → Prop} (hR : R (.returned (.bool (Tok.isPlain c))) w) :
   Calls Tryz.prog 277 #[.int .u8 (c.toNat : Int)] w R := by
 have HR := qh hR
 clear hR
 go_enter Tryz.func277, Tryz.ntmps277
 go_wp2
 all_goals
   refine ret_eq HR.out (congrArg Value.bool ?_)
   rw [Bool.eq_iff_iff]; simp [Tok.isPlain]; try omega
theorem run_any (F : FuncId) (p : UInt8 → Bool) (hc : ∀ (args : Array Value) (w : World), (callFunc F args).run Tryz.prog w = .ok (.enter F args) w)
   (hf : ∀ (c : UInt8) (w : World) {R : Ending → World → Prop}, R (.returned (.bool (p c))) w → Calls Tryz.prog F #[.int .u8 (c.toNat : Int)] w R)
   (s : ByteArray) (at' : Nat) (hs : s.size ≤ 4000) (ha : at' ≤ s.size) (w : World) (a : Int) (hae : a = (at' : Int)) {R : Ending → World → Prop} (hR : R (.returned (.string (s.extract at' (Tok.stop p s at')))) w) :
   Calls Tryz.prog 274 #[.string s, .int .i64 a, .func (.func F) #[] #[]] w R := by
 subst hae
 have HF := qh @hf
 have HR := qh hR
 clear hf hR
 go_enter Tryz.func274, Tryz.ntmps274
 go_wp2_with fail
 go_loop [7] (fun i => ∃ k : Nat, at' ≤ k ∧ k ≤ s.size ∧ i = .int .i64 k ∧ Tok.stop p s k = Tok.stop p s at') (fun i => s.size - (intOf i).toNat)
 case atStart => exact ⟨at', Nat.le_refl _, ha, rfl, rfl⟩
 case round =>
   obtain ⟨k, hk1, hk2, rfl, he⟩ := hrel
   have HE := qh he
   clear he
   by_cases hlt : k < s.size
   · go_wp2_with (with_reducible refine HF.out _ _ ?_)
     · have hp : p s[k] = true := by assumption
       go_round
       case rel => exact ⟨k + 1, by omega, by omega, by go_num, by rw [Tok.stop_step hlt hp, HE.out]⟩
       case measure => simp [intOf]; omega
     · have hp : p s[k] = false := by assumption
       refine ret_eq HR.out ?_
       rw [← HE.out, Tok.stop_here hlt hp] <;> rfl
   · go_wp2_with fail
     refine ret_eq HR.out ?_
     rw [← HE.out, Tok.stop_end (by omega)] <;> rfl
end
end Go.Proofs.YtdlbhiaceheffabGreatDoor
namespace Go.Proofs
open Go.Shelf
def Tryz.lays156_ren : Go.Shelf.Ren := ⟨fun | 156 => 183 | 165 => 125 | 166 => 122 | 169 => 38 | 240 => 188 | 241 => 192 | 276 => 268 | 277 => 269 | n => n, fun | 31 => 161 | 9 => 9 | 3 => 3 | 4 => 4 | 0 => 0 | 20 => 20 | 72 => 74 | 76 => 185 | 70 => 71 | 37 => 72 | 75 => 184 | 127 => 133 | 164 => 268 | 5 => 5 | 80 => 79 | n => n, fun | n => n⟩
theorem Tryz.lays156 : Go.Proofs.Lays.n156 Tryz.prog Tryz.lays156_ren := {
 mixed := by kernel_rfl
 f156 := Tryz.func183.trans (congrArg some (by kernel_rfl))
 f165 := Tryz.func125.trans (congrArg some (by kernel_rfl))
 f166 := Tryz.func122.trans (congrArg some (by kernel_rfl))
 f169 := Tryz.func38.trans (congrArg some (by kernel_rfl))
 f240 := Tryz.func188.trans (congrArg some (by kernel_rfl))
 f241 := Tryz.func192.trans (congrArg some (by kernel_rfl))
 f276 := Tryz.func268.trans (congrArg some (by kernel_rfl))
 f277 := Tryz.func269.trans (congrArg some (by kernel_rfl))
 t0 := Tryz.underlying0
 a0 := Tryz.isAgg0
 z0 := Tryz.sizeOf0
 v0 := Tryz.zeroValue0
 t3 := Tryz.underlying3
 a3 := Tryz.isAgg3
 z3 := Tryz.sizeOf3
 v3 := Tryz.zeroValue3
 t4 := Tryz.underlying4
 a4 := Tryz.isAgg4
 z4 := Tryz.sizeOf4
 v4 := Tryz.zeroValue4
 t9 := Tryz.underlying9
 a9 := Tryz.isAgg9
 z9 := Tryz.sizeOf9
 v9 := Tryz.zeroValue9
 t20 := Tryz.underlying20
 a20 := Tryz.isAgg20
 z20 := Tryz.sizeOf20
 v20 := Tryz.zeroValue20
 t31 := Tryz.underlying161
 a31 := Tryz.isAgg161
 z31 := Tryz.sizeOf161
 v31 := Tryz.zeroValue161
 t37 := Tryz.underlying72
 a37 := Tryz.isAgg72
 z37 := Tryz.sizeOf72
 v37 := Tryz.zeroValue72
 t70 := Tryz.underlying71
 a70 := Tryz.isAgg71
 z70 := Tryz.sizeOf71
 v70 := Tryz.zeroValue71
 t72 := Tryz.underlying74
 a72 := Tryz.isAgg74
 z72 := Tryz.sizeOf74
 v72 := Tryz.zeroValue74
 t75 := Tryz.underlying184
 a75 := Tryz.isAgg184
 z75 := Tryz.sizeOf184
 v75 := Tryz.zeroValue184
 t76 := Tryz.underlying185
 a76 := Tryz.isAgg185
 z76 := Tryz.sizeOf185
 v76 := Tryz.zeroValue185
 t127 := Tryz.underlying133
 a127 := Tryz.isAgg133
 z127 := Tryz.sizeOf133
 v127 := Tryz.zeroValue133
 t164 := Tryz.underlying268
 a164 := Tryz.isAgg268
 z164 := Tryz.sizeOf268
 v164 := Tryz.zeroValue268 }
theorem Tryz.Builder_Extra_156 : Builder.Extra Tryz.prog Tryz.lays156_ren := {
 sizeBuilder := by kernel_rfl
 liesBuilder := by kernel_rfl
 t5 := Tryz.underlying5
 a5 := Tryz.isAgg5
 z5 := Tryz.sizeOf5
 v5 := Tryz.zeroValue5
 infoByte := by kernel_rfl
 cellsByte := by kernel_rfl
 sizeByte := by kernel_rfl
 neB5 := by decide }
open Go.RowKit in
theorem Tryz.strings_Join_none (a : Option Addr) (c : Nat) (sep : ByteArray) (w : World) :
   Calls Tryz.prog 183 #[.slice a 0 c, .string sep] w fun e w' => e = .returned (.string ⟨#[]⟩) ∧ w' = w := Any.strings_Join_none Tryz.lays156 Tryz.Builder_Extra_156 a c sep w
open Go.RowKit in
theorem Tryz.strings_Join (bk o c : Nat) (xs : List ByteArray) (sep : ByteArray) (w : World) (hcells : ∀ (j : Nat) x, xs[j]? = some x → w.cell? ⟨bk, o + j, none⟩ = some (.string x)) (hbk : bk < w.heap.size) (hN : xs.length ≤ 140737488355328) (hcap : xs.length ≤ c) (hlen : (Lib.join (xs.map (·.data.toList)) sep.data.toList).length ≤ 140737488355328) :
   Calls Tryz.prog 183 #[.slice (some ⟨bk, o, none⟩) xs.length c, .string sep] w fun e w' => e = .returned (.string ⟨(Lib.join (xs.map (·.data.toList)) sep.data.toList).toArray⟩) ∧ Below w.heap.size w w' := Any.strings_Join Tryz.lays156 Tryz.Builder_Extra_156 bk o c xs sep w hcells hbk hN hcap hlen
def Tryz.lays137_ren : Go.Shelf.Ren := ⟨fun | 137 => 278 | 217 => 316 | 266 => 333 | n => n, fun | 9 => 9 | 5 => 5 | 3 => 3 | n => n, fun | n => n⟩
theorem Tryz.lays137 : Go.Proofs.Lays.n137 Tryz.prog Tryz.lays137_ren := {
 mixed := by kernel_rfl
 f137 := Tryz.func278.trans (congrArg some (by kernel_rfl))
 f217 := Tryz.func316.trans (congrArg some (by kernel_rfl))
 f266 := Tryz.func333.trans (congrArg some (by kernel_rfl))
 t3 := Tryz.underlying3
 a3 := Tryz.isAgg3
 z3 := Tryz.sizeOf3
 v3 := Tryz.zeroValue3
 t5 := Tryz.underlying5
 a5 := Tryz.isAgg5
 z5 := Tryz.sizeOf5
 v5 := Tryz.zeroValue5
 t9 := Tryz.underlying9
 a9 := Tryz.isAgg9
 z9 := Tryz.sizeOf9
 v9 := Tryz.zeroValue9 }
open Go.RowKit in
theorem Tryz.strings_IndexByte (s : ByteArray) (c : Int) (w : World) :
   Calls Tryz.prog 278 #[.string s, .int .u8 c] w fun e w' => e = .returned (.int .i64 (Lib.indexByte s.data.toList c.toNat.toUInt8)) ∧ w' = w := Any.strings_IndexByte Tryz.lays137 s c w
def Tryz.lays121_ren : Go.Shelf.Ren := ⟨fun | 121 => 194 | 214 => 271 | n => n, fun | 4 => 4 | 9 => 9 | n => n, fun | n => n⟩
theorem Tryz.lays121 : Go.Proofs.Lays.n121 Tryz.prog Tryz.lays121_ren := {
 mixed := by kernel_rfl
 f121 := Tryz.func194.trans (congrArg some (by kernel_rfl))
 f214 := Tryz.func271.trans (congrArg some (by kernel_rfl))
 t4 := Tryz.underlying4
 a4 := Tryz.isAgg4
 z4 := Tryz.sizeOf4
 v4 := Tryz.zeroValue4
 t9 := Tryz.underlying9
 a9 := Tryz.isAgg9
 z9 := Tryz.sizeOf9
 v9 := Tryz.zeroValue9 }
open Go.RowKit in
theorem Tryz.strconv_FormatBool (b : Bool) (w : World) :
   Calls Tryz.prog 194 #[.bool b] w fun e w' => e = .returned (.string ⟨(Lib.formatBool b).toArray⟩) ∧ w' = w := Any.strconv_FormatBool Tryz.lays121 b w
def Tryz.lays172_ren : Go.Shelf.Ren := ⟨fun | 172 => 345 | 244 => 354 | 245 => 355 | 247 => 360 | 279 => 361 | 280 => 362 | 281 => 363 | 282 => 364 | 287 => 365 | 316 => 366 | 171 => 193 | 205 => 367 | 321 => 368 | 322 => 369 | 243 => 270 | 246 => 315 | 283 => 329 | 284 => 330 | 285 => 331 | 286 => 332 | 129 => 151 | 317 => 339 | 318 => 340 | 319 => 341 | 320 => 342 | 337 => 352 | 338 => 353 | n => n, fun | 9 => 9 | 3 => 3 | 75 => 184 | 76 => 185 | 4 => 4 | 5 => 5 | 167 => 317 | 37 => 72 | 0 => 0 | 85 => 318 | 2 => 2 | 168 => 320 | 53 => 211 | 175 => 323 | 46 => 158 | 210 => 327 | 127 => 133 | 145 => 332 | 143 => 330 | 21 => 21 | 171 => 301 | 173 => 303 | 212 => 308 | 51 => 209 | 20 => 20 | 213 => 309 | 232 => 315 | 233 => 316 | 80 => 79 | n => n, fun | 15 => 5 | 16 => 6 | 17 => 2 | 18 => 3 | 19 => 4 | n => n⟩
theorem Tryz.lays172 : Go.Proofs.Lays.n172 Tryz.prog Tryz.lays172_ren := {
 mixed := by kernel_rfl
 f129 := Tryz.func151.trans (congrArg some (by kernel_rfl))
 f171 := Tryz.func193.trans (congrArg some (by kernel_rfl))
 f172 := Tryz.func345.trans (congrArg some (by kernel_rfl))
 f205 := Tryz.func367.trans (congrArg some (by kernel_rfl))
 f243 := Tryz.func270.trans (congrArg some (by kernel_rfl))
 f244 := Tryz.func354.trans (congrArg some (by kernel_rfl))
 f245 := Tryz.func355.trans (congrArg some (by kernel_rfl))
 f246 := Tryz.func315.trans (congrArg some (by kernel_rfl))
 f247 := Tryz.func360.trans (congrArg some (by kernel_rfl))
 f279 := Tryz.func361.trans (congrArg some (by kernel_rfl))
 f280 := Tryz.func362.trans (congrArg some (by kernel_rfl))
 f281 := Tryz.func363.trans (congrArg some (by kernel_rfl))
 f282 := Tryz.func364.trans (congrArg some (by kernel_rfl))
 f283 := Tryz.func329.trans (congrArg some (by kernel_rfl))
 f284 := Tryz.func330.trans (congrArg some (by kernel_rfl))
 f285 := Tryz.func331.trans (congrArg some (by kernel_rfl))
 f286 := Tryz.func332.trans (congrArg some (by kernel_rfl))
 f287 := Tryz.func365.trans (congrArg some (by kernel_rfl))
 f316 := Tryz.func366.trans (congrArg some (by kernel_rfl))
 f317 := Tryz.func339.trans (congrArg some (by kernel_rfl))
 f318 := Tryz.func340.trans (congrArg some (by kernel_rfl))
 f319 := Tryz.func341.trans (congrArg some (by kernel_rfl))
 f320 := Tryz.func342.trans (congrArg some (by kernel_rfl))
 f321 := Tryz.func368.trans (congrArg some (by kernel_rfl))
 f322 := Tryz.func369.trans (congrArg some (by kernel_rfl))
 f337 := Tryz.func352.trans (congrArg some (by kernel_rfl))
 f338 := Tryz.func353.trans (congrArg some (by kernel_rfl))
 t0 := Tryz.underlying0
 a0 := Tryz.isAgg0
 z0 := Tryz.sizeOf0
 v0 := Tryz.zeroValue0
 t2 := Tryz.underlying2
 a2 := Tryz.isAgg2
 z2 := Tryz.sizeOf2
 v2 := Tryz.zeroValue2
 t3 := Tryz.underlying3
 a3 := Tryz.isAgg3
 z3 := Tryz.sizeOf3
 v3 := Tryz.zeroValue3
 t4 := Tryz.underlying4
 a4 := Tryz.isAgg4
 z4 := Tryz.sizeOf4
 v4 := Tryz.zeroValue4
 t5 := Tryz.underlying5
 a5 := Tryz.isAgg5
 z5 := Tryz.sizeOf5
 v5 := Tryz.zeroValue5
 t9 := Tryz.underlying9
 a9 := Tryz.isAgg9
 z9 := Tryz.sizeOf9
 v9 := Tryz.zeroValue9
 t20 := Tryz.underlying20
 a20 := Tryz.isAgg20
 z20 := Tryz.sizeOf20
 v20 := Tryz.zeroValue20
 t21 := Tryz.underlying21
 a21 := Tryz.isAgg21
 z21 := Tryz.sizeOf21
 v21 := Tryz.zeroValue21
 t37 := Tryz.underlying72
 a37 := Tryz.isAgg72
 z37 := Tryz.sizeOf72
 v37 := Tryz.zeroValue72
 t46 := Tryz.underlying158
 a46 := Tryz.isAgg158
 z46 := Tryz.sizeOf158
 v46 := Tryz.zeroValue158
 t51 := Tryz.underlying209
 a51 := Tryz.isAgg209
 z51 := Tryz.sizeOf209
 v51 := Tryz.zeroValue209
 t53 := Tryz.underlying211
 a53 := Tryz.isAgg211
 z53 := Tryz.sizeOf211
 v53 := Tryz.zeroValue211
 t75 := Tryz.underlying184
 a75 := Tryz.isAgg184
 z75 := Tryz.sizeOf184
 v75 := Tryz.zeroValue184
 t76 := Tryz.underlying185
 a76 := Tryz.isAgg185
 z76 := Tryz.sizeOf185
 v76 := Tryz.zeroValue185
 t85 := Tryz.underlying318
 a85 := Tryz.isAgg318
 z85 := Tryz.sizeOf318
 v85 := Tryz.zeroValue318
 t127 := Tryz.underlying133
 a127 := Tryz.isAgg133
 z127 := Tryz.sizeOf133
 v127 := Tryz.zeroValue133
 t143 := Tryz.underlying330
 a143 := Tryz.isAgg330
 z143 := Tryz.sizeOf330
 v143 := Tryz.zeroValue330
 t145 := Tryz.underlying332
 a145 := Tryz.isAgg332
 z145 := Tryz.sizeOf332
 v145 := Tryz.zeroValue332
 t167 := Tryz.underlying317
 a167 := Tryz.isAgg317
 z167 := Tryz.sizeOf317
 v167 := Tryz.zeroValue317
 t168 := Tryz.underlying320
 a168 := Tryz.isAgg320
 z168 := Tryz.sizeOf320
 v168 := Tryz.zeroValue320
 t171 := Tryz.underlying301
 a171 := Tryz.isAgg301
 z171 := Tryz.sizeOf301
 v171 := Tryz.zeroValue301
 t173 := Tryz.underlying303
 a173 := Tryz.isAgg303
 z173 := Tryz.sizeOf303
 v173 := Tryz.zeroValue303
 t175 := Tryz.underlying323
 a175 := Tryz.isAgg323
 z175 := Tryz.sizeOf323
 v175 := Tryz.zeroValue323
 t210 := Tryz.underlying327
 a210 := Tryz.isAgg327
 z210 := Tryz.sizeOf327
 v210 := Tryz.zeroValue327
 t212 := Tryz.underlying308
 a212 := Tryz.isAgg308
 z212 := Tryz.sizeOf308
 v212 := Tryz.zeroValue308
 t213 := Tryz.underlying309
 a213 := Tryz.isAgg309
 z213 := Tryz.sizeOf309
 t232 := Tryz.underlying315
 a232 := Tryz.isAgg315
 z232 := Tryz.sizeOf315
 v232 := Tryz.zeroValue315
 t233 := Tryz.underlying316
 a233 := Tryz.isAgg316
 z233 := Tryz.sizeOf316
 v233 := Tryz.zeroValue316
 g15 := by kernel_rfl
 g16 := by kernel_rfl
 g17 := by kernel_rfl
 g18 := by kernel_rfl
 g19 := by kernel_rfl }
open Go.RowKit in
theorem Tryz.strconv_Atoi (s : ByteArray) (n : Int) (hl : s.size ≤ 18) (h : Lib.atoi s.data.toList = some n) (w : World) :
   Calls Tryz.prog 345 #[.string s] w fun e w' => e = .returned (.tuple #[.int .i64 n, .nilIface]) ∧ ∃ t, w' = Lib.bytesWorld w 5 t := Any.strconv_Atoi Tryz.lays172 s n hl h w
def Tryz.laysM171_ren : Go.Shelf.Ren := ⟨fun | 171 => 193 | 243 => 270 | 246 => 315 | 283 => 329 | 284 => 330 | 285 => 331 | 286 => 332 | 129 => 151 | 317 => 339 | 318 => 340 | 319 => 341 | 320 => 342 | 337 => 352 | 338 => 353 | n => n, fun | 3 => 3 | 9 => 9 | 2 => 2 | 4 => 4 | 171 => 301 | 0 => 0 | 53 => 211 | 37 => 72 | 5 => 5 | 173 => 303 | 212 => 308 | 51 => 209 | 20 => 20 | 213 => 309 | 46 => 158 | 232 => 315 | 233 => 316 | n => n, fun | 17 => 2 | 18 => 3 | 19 => 4 | n => n⟩
theorem Tryz.laysM171 : Go.Proofs.LaysM.n171 Tryz.prog Tryz.laysM171_ren := {
 mixed := by kernel_rfl
 f129 := Tryz.func151.trans (congrArg some (by kernel_rfl))
 f171 := Tryz.func193.trans (congrArg some (by kernel_rfl))
 f243 := Tryz.func270.trans (congrArg some (by kernel_rfl))
 f246 := Tryz.func315.trans (congrArg some (by kernel_rfl))
 f283 := Tryz.func329.trans (congrArg some (by kernel_rfl))
 f284 := Tryz.func330.trans (congrArg some (by kernel_rfl))
 f285 := Tryz.func331.trans (congrArg some (by kernel_rfl))
 f286 := Tryz.func332.trans (congrArg some (by kernel_rfl))
 f317 := Tryz.func339.trans (congrArg some (by kernel_rfl))
 f318 := Tryz.func340.trans (congrArg some (by kernel_rfl))
 f319 := Tryz.func341.trans (congrArg some (by kernel_rfl))
 f320 := Tryz.func342.trans (congrArg some (by kernel_rfl))
 f337 := Tryz.func352.trans (congrArg some (by kernel_rfl))
 f338 := Tryz.func353.trans (congrArg some (by kernel_rfl))
 t0 := Tryz.underlying0
 a0 := Tryz.isAgg0
 z0 := Tryz.sizeOf0
 v0 := Tryz.zeroValue0
 t2 := Tryz.underlying2
 a2 := Tryz.isAgg2
 z2 := Tryz.sizeOf2
 v2 := Tryz.zeroValue2
 t3 := Tryz.underlying3
 a3 := Tryz.isAgg3
 z3 := Tryz.sizeOf3
 v3 := Tryz.zeroValue3
 t4 := Tryz.underlying4
 a4 := Tryz.isAgg4
 z4 := Tryz.sizeOf4
 v4 := Tryz.zeroValue4
 t5 := Tryz.underlying5
 a5 := Tryz.isAgg5
 z5 := Tryz.sizeOf5
 v5 := Tryz.zeroValue5
 t9 := Tryz.underlying9
 a9 := Tryz.isAgg9
 z9 := Tryz.sizeOf9
 v9 := Tryz.zeroValue9
 t20 := Tryz.underlying20
 a20 := Tryz.isAgg20
 z20 := Tryz.sizeOf20
 v20 := Tryz.zeroValue20
 t37 := Tryz.underlying72
 a37 := Tryz.isAgg72
 z37 := Tryz.sizeOf72
 v37 := Tryz.zeroValue72
 t46 := Tryz.underlying158
 a46 := Tryz.isAgg158
 z46 := Tryz.sizeOf158
 v46 := Tryz.zeroValue158
 t51 := Tryz.underlying209
 a51 := Tryz.isAgg209
 z51 := Tryz.sizeOf209
 v51 := Tryz.zeroValue209
 t53 := Tryz.underlying211
 a53 := Tryz.isAgg211
 z53 := Tryz.sizeOf211
 v53 := Tryz.zeroValue211
 t171 := Tryz.underlying301
 a171 := Tryz.isAgg301
 z171 := Tryz.sizeOf301
 v171 := Tryz.zeroValue301
 t173 := Tryz.underlying303
 a173 := Tryz.isAgg303
 z173 := Tryz.sizeOf303
 v173 := Tryz.zeroValue303
 t212 := Tryz.underlying308
 a212 := Tryz.isAgg308
 z212 := Tryz.sizeOf308
 v212 := Tryz.zeroValue308
 t213 := Tryz.underlying309
 a213 := Tryz.isAgg309
 z213 := Tryz.sizeOf309
 t232 := Tryz.underlying315
 a232 := Tryz.isAgg315
 z232 := Tryz.sizeOf315
 v232 := Tryz.zeroValue315
 t233 := Tryz.underlying316
 a233 := Tryz.isAgg316
 z233 := Tryz.sizeOf316
 v233 := Tryz.zeroValue316
 g17 := by kernel_rfl
 g18 := by kernel_rfl
 g19 := by kernel_rfl
 i0 := by kernel_rfl
 i2 := by kernel_rfl
 i3 := by kernel_rfl
 i4 := by kernel_rfl
 i5 := by kernel_rfl
 i9 := by kernel_rfl
 i20 := by kernel_rfl
 i37 := by kernel_rfl
 i46 := by kernel_rfl
 i51 := by kernel_rfl
 i53 := by kernel_rfl
 i171 := by kernel_rfl
 i173 := by kernel_rfl
 i212 := by kernel_rfl
 i232 := by kernel_rfl
 i233 := by kernel_rfl
 m17 := by kernel_rfl
 m18 := by kernel_rfl
 m19 := by kernel_rfl }
open Go.RowKit Go.Sort Go.Lib in
theorem Tryz.strconv_Itoa (n : Int) (h0 : -9223372036854775808 ≤ n) (h1 : n ≤ 9223372036854775807) (w : World) (htab : Lib.TabIs Tryz.prog w "internal/strconv.uint64pow10" .u64 Lib.pow10Tab) :
   Calls Tryz.prog 193 #[.int .i64 n] w fun e w' => e = .returned (.string ⟨(Lib.itoa n).toArray⟩) ∧ ∃ k os, w' = grow (w.drewN k) os := Any.strconv_Itoa Tryz.laysM171 n h0 h1 w htab
def Tryz.lays99_ren : Go.Shelf.Ren := ⟨fun | 99 => 124 | 206 => 191 | n => n, fun | 9 => 9 | 4 => 4 | 3 => 3 | n => n, fun | n => n⟩
theorem Tryz.lays99 : Go.Proofs.Lays.n99 Tryz.prog Tryz.lays99_ren := {
 mixed := by kernel_rfl
 f99 := Tryz.func124.trans (congrArg some (by kernel_rfl))
 f206 := Tryz.func191.trans (congrArg some (by kernel_rfl))
 t3 := Tryz.underlying3
 a3 := Tryz.isAgg3
 z3 := Tryz.sizeOf3
 v3 := Tryz.zeroValue3
 t4 := Tryz.underlying4
 a4 := Tryz.isAgg4
 z4 := Tryz.sizeOf4
 v4 := Tryz.zeroValue4
 t9 := Tryz.underlying9
 a9 := Tryz.isAgg9
 z9 := Tryz.sizeOf9
 v9 := Tryz.zeroValue9 }
open Go.RowKit Go.Lib in
theorem Tryz.strings_HasPrefix (s p : ByteArray) (w : World) :
   Calls Tryz.prog 124 #[.string s, .string p] w fun e w' => e = .returned (.bool (Lib.hasPrefix s.data.toList p.data.toList)) ∧ w' = w := Any.strings_HasPrefix Tryz.lays99 s p w
def Tryz.lays105_ren : Go.Shelf.Ren := ⟨fun | 105 => 68 | 212 => 123 | 99 => 124 | 165 => 125 | 166 => 122 | 170 => 37 | 169 => 38 | 263 => 189 | 264 => 190 | 206 => 191 | 240 => 188 | 241 => 192 | 276 => 268 | 277 => 269 | n => n, fun | 9 => 9 | 3 => 3 | 4 => 4 | 20 => 20 | 0 => 0 | 46 => 158 | 109 => 187 | 5 => 5 | 72 => 74 | 76 => 185 | 51 => 209 | 146 => 230 | 53 => 211 | 148 => 232 | 70 => 71 | 37 => 72 | 75 => 184 | 127 => 133 | 164 => 268 | 80 => 79 | n => n, fun | n => n⟩
theorem Tryz.lays105 : Go.Proofs.Lays.n105 Tryz.prog Tryz.lays105_ren := {
 mixed := by kernel_rfl
 f99 := Tryz.func124.trans (congrArg some (by kernel_rfl))
 f105 := Tryz.func68.trans (congrArg some (by kernel_rfl))
 f165 := Tryz.func125.trans (congrArg some (by kernel_rfl))
 f166 := Tryz.func122.trans (congrArg some (by kernel_rfl))
 f169 := Tryz.func38.trans (congrArg some (by kernel_rfl))
 f170 := Tryz.func37.trans (congrArg some (by kernel_rfl))
 f206 := Tryz.func191.trans (congrArg some (by kernel_rfl))
 f212 := Tryz.func123.trans (congrArg some (by kernel_rfl))
 f240 := Tryz.func188.trans (congrArg some (by kernel_rfl))
 f241 := Tryz.func192.trans (congrArg some (by kernel_rfl))
 f263 := Tryz.func189.trans (congrArg some (by kernel_rfl))
 f264 := Tryz.func190.trans (congrArg some (by kernel_rfl))
 f276 := Tryz.func268.trans (congrArg some (by kernel_rfl))
 f277 := Tryz.func269.trans (congrArg some (by kernel_rfl))
 t0 := Tryz.underlying0
 a0 := Tryz.isAgg0
 z0 := Tryz.sizeOf0
 v0 := Tryz.zeroValue0
 t3 := Tryz.underlying3
 a3 := Tryz.isAgg3
 z3 := Tryz.sizeOf3
 v3 := Tryz.zeroValue3
 t4 := Tryz.underlying4
 a4 := Tryz.isAgg4
 z4 := Tryz.sizeOf4
 v4 := Tryz.zeroValue4
 t5 := Tryz.underlying5
 a5 := Tryz.isAgg5
 z5 := Tryz.sizeOf5
 v5 := Tryz.zeroValue5
 t9 := Tryz.underlying9
 a9 := Tryz.isAgg9
 z9 := Tryz.sizeOf9
 v9 := Tryz.zeroValue9
 t20 := Tryz.underlying20
 a20 := Tryz.isAgg20
 z20 := Tryz.sizeOf20
 v20 := Tryz.zeroValue20
 t37 := Tryz.underlying72
 a37 := Tryz.isAgg72
 z37 := Tryz.sizeOf72
 v37 := Tryz.zeroValue72
 t46 := Tryz.underlying158
 a46 := Tryz.isAgg158
 z46 := Tryz.sizeOf158
 v46 := Tryz.zeroValue158
 t51 := Tryz.underlying209
 a51 := Tryz.isAgg209
 z51 := Tryz.sizeOf209
 v51 := Tryz.zeroValue209
 t53 := Tryz.underlying211
 a53 := Tryz.isAgg211
 z53 := Tryz.sizeOf211
 v53 := Tryz.zeroValue211
 t70 := Tryz.underlying71
 a70 := Tryz.isAgg71
 z70 := Tryz.sizeOf71
 v70 := Tryz.zeroValue71
 t72 := Tryz.underlying74
 a72 := Tryz.isAgg74
 z72 := Tryz.sizeOf74
 v72 := Tryz.zeroValue74
 t75 := Tryz.underlying184
 a75 := Tryz.isAgg184
 z75 := Tryz.sizeOf184
 v75 := Tryz.zeroValue184
 t76 := Tryz.underlying185
 a76 := Tryz.isAgg185
 z76 := Tryz.sizeOf185
 v76 := Tryz.zeroValue185
 t109 := Tryz.underlying187
 a109 := Tryz.isAgg187
 z109 := Tryz.sizeOf187
 v109 := Tryz.zeroValue187
 t127 := Tryz.underlying133
 a127 := Tryz.isAgg133
 z127 := Tryz.sizeOf133
 v127 := Tryz.zeroValue133
 t146 := Tryz.underlying230
 a146 := Tryz.isAgg230
 z146 := Tryz.sizeOf230
 v146 := Tryz.zeroValue230
 t148 := Tryz.underlying232
 a148 := Tryz.isAgg232
 z148 := Tryz.sizeOf232
 v148 := Tryz.zeroValue232
 t164 := Tryz.underlying268
 a164 := Tryz.isAgg268
 z164 := Tryz.sizeOf268
 v164 := Tryz.zeroValue268 }
theorem Tryz.Builder_Extra_105 : Builder.Extra Tryz.prog Tryz.lays105_ren := {
 sizeBuilder := by kernel_rfl
 liesBuilder := by kernel_rfl
 t5 := Tryz.underlying5
 a5 := Tryz.isAgg5
 z5 := Tryz.sizeOf5
 v5 := Tryz.zeroValue5
 infoByte := by kernel_rfl
 cellsByte := by kernel_rfl
 sizeByte := by kernel_rfl
 neB5 := by decide }
open Go.RowKit Go.Lib in
theorem Tryz.strings_Repeat (s : ByteArray) (c : Nat) (w : World) (hc : c ≤ 9223372036854775807) (hlen : s.size * c ≤ 140737488355328) :
   Calls Tryz.prog 68 #[.string s, .int .i64 c] w fun e w' => e = .returned (.string ⟨(Lib.repeatL s.data.toList c).toArray⟩) ∧ Below w.heap.size w w' := Any.strings_Repeat Tryz.lays105 Tryz.Builder_Extra_105 s c w hc hlen
def Tryz.lays109_ren : Go.Shelf.Ren := ⟨fun | 109 => 265 | n => n, fun | 31 => 161 | 9 => 9 | 3 => 3 | 0 => 0 | 4 => 4 | n => n, fun | n => n⟩
theorem Tryz.lays109 : Go.Proofs.Lays.n109 Tryz.prog Tryz.lays109_ren := {
 mixed := by kernel_rfl
 f109 := Tryz.func265.trans (congrArg some (by kernel_rfl))
 t0 := Tryz.underlying0
 a0 := Tryz.isAgg0
 z0 := Tryz.sizeOf0
 v0 := Tryz.zeroValue0
 t3 := Tryz.underlying3
 a3 := Tryz.isAgg3
 z3 := Tryz.sizeOf3
 v3 := Tryz.zeroValue3
 t4 := Tryz.underlying4
 a4 := Tryz.isAgg4
 z4 := Tryz.sizeOf4
 v4 := Tryz.zeroValue4
 t9 := Tryz.underlying9
 a9 := Tryz.isAgg9
 z9 := Tryz.sizeOf9
 v9 := Tryz.zeroValue9
 t31 := Tryz.underlying161
 a31 := Tryz.isAgg161
 z31 := Tryz.sizeOf161
 v31 := Tryz.zeroValue161 }
open Go.Lib in
theorem Tryz.slices_Index_string (b off n c : Nat) (zs : List ByteArray) (x : ByteArray) (w : World) (hz : n ≤ zs.length) (hbig : n ≤ 9223372036854775807) (hc : ∀ j, j < zs.length → w.cell? ⟨b, off + j, none⟩ = some (.string (zs.getD j ByteArray.empty))) :
   Calls Tryz.prog 265 #[.slice (some ⟨b, off, none⟩) n c, .string x] w fun e w' => e = .returned (.int .i64 (Lib.idxOfS (zs.take n) x)) ∧ w' = w := Any.slices_Index_string Tryz.lays109 b off n c zs x w hz hbig hc
def Tryz.lays110_ren : Go.Shelf.Ren := ⟨fun | 110 => 279 | 109 => 265 | n => n, fun | 31 => 161 | 9 => 9 | 4 => 4 | 3 => 3 | 0 => 0 | n => n, fun | n => n⟩
theorem Tryz.lays110 : Go.Proofs.Lays.n110 Tryz.prog Tryz.lays110_ren := {
 mixed := by kernel_rfl
 f109 := Tryz.func265.trans (congrArg some (by kernel_rfl))
 f110 := Tryz.func279.trans (congrArg some (by kernel_rfl))
 t0 := Tryz.underlying0
 a0 := Tryz.isAgg0
 z0 := Tryz.sizeOf0
 v0 := Tryz.zeroValue0
 t3 := Tryz.underlying3
 a3 := Tryz.isAgg3
 z3 := Tryz.sizeOf3
 v3 := Tryz.zeroValue3
 t4 := Tryz.underlying4
 a4 := Tryz.isAgg4
 z4 := Tryz.sizeOf4
 v4 := Tryz.zeroValue4
 t9 := Tryz.underlying9
 a9 := Tryz.isAgg9
 z9 := Tryz.sizeOf9
 v9 := Tryz.zeroValue9
 t31 := Tryz.underlying161
 a31 := Tryz.isAgg161
 z31 := Tryz.sizeOf161
 v31 := Tryz.zeroValue161 }
open Go.Lib in
theorem Tryz.slices_Contains_string (b off n c : Nat) (zs : List ByteArray) (x : ByteArray) (w : World) (hz : n ≤ zs.length) (hbig : n ≤ 9223372036854775807) (hc : ∀ j, j < zs.length → w.cell? ⟨b, off + j, none⟩ = some (.string (zs.getD j ByteArray.empty))) :
   Calls Tryz.prog 279 #[.slice (some ⟨b, off, none⟩) n c, .string x] w fun e w' => e = .returned (.bool (Lib.containsS (zs.take n) x)) ∧ w' = w := Any.slices_Contains_string Tryz.lays110 b off n c zs x w hz hbig hc
open Go.Lib in
theorem Tryz.slices_Contains_string_empty (a : Option Addr) (c : Nat) (x : ByteArray) (w : World) :
   Calls Tryz.prog 279 #[.slice a 0 c, .string x] w fun e w' => e = .returned (.bool false) ∧ w' = w := Any.slices_Contains_string_empty Tryz.lays110 a c x w
end Go.Proofs
namespace Go.Proofs.YtdlbhiaceheffabGreatDoor
section
open Go Go.RowKit
def Words (w : World) : Prop := ∃ b off cap : Nat, w.cell? ⟨1, 0, none⟩ = some (.slice (some ⟨b, off, none⟩) 17 cap) ∧ ∀ j, j < 17 → w.cell? ⟨b, off + j, none⟩ = some (.string (Tok.words.getD j ByteArray.empty))
theorem Words.below {w w' : World} (h : Words w) (hb : Below w.heap.size w w') : Words w' := by
 obtain ⟨b, off, cap, h1, h2⟩ := h
 exact ⟨b, off, cap, by rw [hb.cell (World.block_lt_of_cell? w _ h1)]; exact h1, fun j hj => by rw [hb.cell (World.block_lt_of_cell? w _ (h2 j hj))]; exact h2 j hj⟩
theorem isWord_any (s : ByteArray) (w : World) (hw : Words w) {R : Ending → World → Prop} (hR : R (.returned (.bool (Tok.isWord s))) w) :
   Calls Tryz.prog 276 #[.string s] w R := by
 have HR := qh hR
 clear hR
 obtain ⟨b, off, cap, h1, h2⟩ := hw
 have hc := Tryz.slices_Contains_string b off 17 cap Tok.words s w (by decide) (by decide) (fun j hj => h2 j hj)
 have HC := qh hc
 clear hc h2
 go_enter Tryz.func276, Tryz.ntmps276
 go_wp2_with (go_at_call 279; refine HC.out.mono ?_; rintro e w' ⟨rfl, rfl⟩)
 have e1 : Lib.containsS (Tok.words.take 17) s = Tok.isWord s := by rw [Bool.eq_iff_iff, Tok.isWord_iff, Lib.containsS_iff]; rfl
 exact ret_eq HR.out (congrArg Value.bool e1)
def tkVal (t : Tok.Tk) : Value := .agg #[.int .i64 t.kind, .string t.text, .int .i64 t.pos]
theorem name_any (s : ByteArray) (k : Nat) (w : World) (hw : Words w) (hs : s.size ≤ 4000) (hk : k < s.size) {R : Ending → World → Prop}
   (hR : ∀ w', Below w.heap.size w w' → R (.returned (.tuple #[tkVal ⟨if Tok.isWord (s.extract k (Tok.stop Tok.isPart s k)) then 2 else 1, s.extract k (Tok.stop Tok.isPart s k), k⟩, .bool (decide (Tok.stop Tok.isPart s k - k ≤ 20))])) w') :
   Calls Tryz.prog 201 #[.string s, .int .i64 k] w R := by
 have HRUN := qh (@run_any 275 Tok.isPart Tryz.call275 name1_any s k hs (by omega))
 have HR := qh hR
 have HW := qh hw
 clear hR hw
 have hle := Tok.stop_le Tok.isPart s k (by omega)
 have hge := Tok.stop_ge Tok.isPart s k
 generalize Tok.stop Tok.isPart s k = e at *
 cases hi : Tok.isWord (s.extract k e)
 all_goals
   have HI := qh hi
   clear hi
   go_enter Tryz.func201, Tryz.ntmps201
   go_wp2_with (go_at_call 274; refine HRUN.out _ _ rfl ?_)
   refine isWord_any _ _ ?_ ?_
   · exact HW.out.below (((Below.refl _ _).alloc (Nat.le_refl _) _).alloc (by simp) _)
   rw [HI.out]
   go_wp2
   go_region
   go_wp2
   refine bodyPost_ret ?_ rfl (HR.out _ ?_)
   · simp [results, Tryz.results201, go_sem, tkVal, HI.out]; omega
   · exact ((((Below.refl _ _).alloc (Nat.le_refl _) _).alloc (by simp) _).drew)
end
end Go.Proofs.YtdlbhiaceheffabGreatDoor
