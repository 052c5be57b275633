/- What the listed variable gives, and the witness world. A world in which six listed variables are laid. Parts of memory, each with blocks of its own: a world bears a list of parts. Parts of memory: a string's bytes appended to a row of bytes; a row that is frozen. More plain facts on scans. -/
import Derived.Test.YtdlbhiaceheffabGreatDoorCards
import Derived.Test.YtdlbhiaceheffabGreatDoorTie
import Derived.Lib.LaidIn
import Derived.Lib.LaidU8
import Derived.Lib.LaidPrint
import Derived.Deep.DeepHandedRow
import Derived.Deep.DeepWitnessRowRef
import Derived.ProofKit
import Derived.SizedLaws
import Derived.SliceStrings
import Derived.Below
import Derived.OneCell
import Derived.Deep.AppendLies
import Derived.Lib.Hide
import Derived.Lib.AppendStr
import Derived.Lib.Builder
import Derived.Test.YtdlbhiaceheffabGreatDoorS01
set_option linter.all false
namespace Go.Proofs.YtdlbhiaceheffabGreatDoor
section
open Go.ChangeShapes Go.WideShapes Go.ChangeAt Go.RowKit Go.Lib
open Go.ChangeMaps (open_string shut_string)
theorem ownKnob_none : ownKnob Tryz.prog.godebug = none := by kernel_rfl
theorem words_named : Tryz.prog.globalNamed "guardrail/token.words" = some 1 := by kernel_rfl
theorem words_type : (Tryz.prog.globals[1]?).map (·.type) = some 161 := by kernel_rfl
theorem cells_string : Tryz.prog.cellsOf 9 = 1 := by kernel_rfl
theorem laid_words : (Rows.laid_guardrail_token_words : DataW Unit) = .slice (Tok.wordsL.map fun l => .lit (.string l)) [] := rfl
theorem words_of_laid {W : World} (h : VarReads Tryz.prog W "guardrail/token.words" Rows.laid_guardrail_token_words) : Words W := by
 obtain ⟨g', t', cs, fuel, p, hg, hty, hvar, hd⟩ := h
 obtain rfl := Option.some.inj (words_named.symm.trans hg)
 obtain rfl := Option.some.inj (words_type.symm.trans hty)
 rw [laid_words] at hd
 rcases open_strings Tryz.underlying161 Tryz.underlying9 cells_string hd with ⟨_, hx⟩ | ⟨a, len, cap, ss, hcs, _, hl, _, hsz, hx, hcell, _⟩
 · cases hx
 simp only [Prod.mk.injEq, DataW.slice.injEq] at hx
 obtain ⟨⟨hx1, hx2⟩, _⟩ := hx
 have hmap : (ss.take len).map (fun s => s.data.toList) = Tok.wordsL := by
   have h1 : (ss.take len).map (fun s => (DataW.lit (.string s.data.toList) : DataW Unit)) = Tok.wordsL.map fun l => .lit (.string l) := hx1.symm
   have h2 := congrArg (List.map (fun d : DataW Unit => match d with | .lit (.string l) => l | _ => [])) h1
   simpa [List.map_map, Function.comp_def] using h2
 have hlen : (ss.take len).length = 17 := by have := congrArg List.length hmap; simpa [Tok.wordsL] using this
 have hss : ss.length ≥ 17 := by simp at hlen; omega
 have hl17 : len = 17 := by
   have h3 : (ss.drop len).length = 0 := by have := congrArg List.length hx2; simp [strs] at this; simp; omega
   simp at hlen h3
   simp at hsz
   omega
 subst hl17
 have hw : ss.take 17 = Tok.words := by
   unfold Tok.words
   rw [← hmap, List.map_map]
   symm
   exact List.map_id'' (fun s => by cases s; rfl) _
 have hcell' : ∀ i, i < 17 → W.cell? (a.add i) = some (.string (Tok.words.getD i ByteArray.empty)) := by
   intro i hi
   rw [hcell i (by omega), ← hw]
   simp [List.getD, hi]
 obtain ⟨R, o, sR⟩ := a
 obtain rfl : sR = none := by
   have h00 := hcell' 0 (by omega)
   have : (Addr.add ⟨R, o, sR⟩ 0) = ⟨R, o, sR⟩ := by simp [Addr.add]
   rw [this] at h00
   exact Go.Proofs.cell_spot h00
 refine ⟨R, o, cap, ?_, fun j hj => ?_⟩
 · rw [World.var?_cell hg hvar 0, ← Array.getElem?_toList, hcs]
   rfl
 · have := hcell' j hj
   rwa [Addr.add_lit] at this
end
section
open Go.ChangeShapes Go.WideShapes Go.ChangeAt Go.RowKit Go.Lib
def tab32 : Array Value := (#[0, 1, 28, 2, 29, 14, 24, 3, 30, 22, 20, 15, 25, 17, 4, 8, 31, 27, 13, 23, 21, 19, 16, 7, 26, 12, 18, 6, 11, 5, 10, 9] : Array Int).map fun n => .int .u8 n
def tab64 : Array Value := (#[0, 1, 56, 2, 57, 49, 28, 3, 61, 58, 42, 50, 38, 29, 17, 4, 62, 47, 59, 36, 45, 43, 51, 22, 53, 39, 33, 30, 24, 18, 12, 5, 63, 55, 48, 27, 60, 41, 37, 16, 46, 35, 44, 21, 52, 32, 23, 11, 54, 26, 40, 15, 34, 20, 31, 10, 25, 14, 19, 9, 13, 8, 7, 6] : Array Int).map fun n => .int .u8 n
def pow10s : Array Value := (#[1, 10, 100, 1000, 10000, 100000, 1000000, 10000000, 100000000, 1000000000, 10000000000, 100000000000, 1000000000000, 10000000000000, 100000000000000, 1000000000000000, 10000000000000000, 100000000000000000, 1000000000000000000, 10000000000000000000] : Array Int).map fun n => .int .u64 n
def relay (cs : Array Value) : Obj → Obj
 | .cells _ t frozen => .cells cs t frozen
 | o => o
noncomputable def laidWorld6 (os : Os) : World :=
 let w0 := World.holding Tryz.prog os ⟨#[], #[], []⟩
 let n := w0.heap.size
 { w0 with heap := (((((((((w0.heap.modify 1 (relay #[.slice (some ⟨n, 0, none⟩) 17 17])).modify 3 (relay tab32)).modify 4 (relay tab64)).modify 2 (relay pow10s)).modify 6 (relay #[.iface 330 (.pointer (some ⟨n + 1, 0, none⟩))])).modify 5 (relay #[.iface 330 (.pointer (some ⟨n + 2, 0, none⟩))])).push (.cells (Tok.words.map Value.string).toArray 9)).push (.cells #[.string ⟨#[118, 97, 108, 117, 101, 32, 111, 117, 116, 32, 111, 102, 32, 114, 97, 110, 103, 101]⟩] 332)).push (.cells #[.string ⟨#[105, 110, 118, 97, 108, 105, 100, 32, 115, 121, 110, 116, 97, 120]⟩] 332)) }
end
section
open Go Go.RowKit
namespace Prt
abbrev Hp := Nat → Option Obj
def le (a b : Hp) : Prop := ∀ k o, a k = some o → b k = some o
def dis (a b : Hp) : Prop := ∀ k, a k = none ∨ b k = none
def uni (a b : Hp) : Hp := fun k => match a k with | some o => some o | none => b k
theorem le_refl (a : Hp) : le a a := fun _ _ h => h
theorem le_trans {a b c : Hp} (h : le a b) (k : le b c) : le a c := fun _ _ e => k _ _ (h _ _ e)
theorem dis_comm {a b : Hp} (h : dis a b) : dis b a := fun k => (h k).symm
theorem dis_le {a b c : Hp} (h : dis a b) (hc : le c b) : dis a c := fun k => by
 rcases h k with h | h
 · exact .inl h
 · right
   cases e : c k with
   | none => rfl
   | some o => rw [hc _ _ e] at h; cases h
theorem le_uni1 (a b : Hp) : le a (uni a b) := fun k o h => by simp [uni, h]
theorem le_uni2 {a b : Hp} (h : dis a b) : le b (uni a b) := fun k o e => by
 rcases h k with h | h
 · simp [uni, h, e]
 · rw [h] at e; cases e
theorem uni_le {a b h : Hp} (ha : le a h) (hb : le b h) : le (uni a b) h := fun k o e => by
 unfold uni at e
 split at e
 · rename_i x hx; cases e; exact ha _ _ hx
 · exact hb _ _ e
theorem dis_uni {a b c : Hp} (ha : dis c a) (hb : dis c b) : dis c (uni a b) := fun k => by
 rcases ha k with h | h
 · exact .inl h
 · rcases hb k with h2 | h2
   · exact .inl h2
   · right; simp [uni, h, h2]
abbrev As := Hp → Prop
def blk (b : Nat) (o : Obj) : As := fun h => h b = some o
def pur (p : Prop) : As := fun _ => p
def exs {α : Type} (P : α → As) : As := fun h => ∃ x, P x h
def star (P Q : As) : As := fun h => ∃ a b, dis a b ∧ le a h ∧ le b h ∧ P a ∧ Q b
def stars : List As → As
 | [] => fun _ => True
 | P :: L => star P (stars L)
def hp (w : World) : Hp := fun k => w.heap[k]?
theorem stars_mono {L : List As} {a h : Hp} (hs : stars L a) (hl : le a h) : stars L h := by
 cases L with
 | nil => trivial
 | cons P L =>
   obtain ⟨x, y, h1, h2, h3, h4, h5⟩ := hs
   exact ⟨x, y, h1, le_trans h2 hl, le_trans h3 hl, h4, h5⟩
theorem stars_focus {P : As} : ∀ {L : List As} {i : Nat} {h : Hp}, stars L h → L[i]? = some P → ∃ a b, dis a b ∧ le a h ∧ le b h ∧ P a ∧ stars (L.eraseIdx i) b := by
 intro L
 induction L with
 | nil => intro i h _ hi; simp at hi
 | cons Q L ih =>
   intro i h hs hi
   obtain ⟨x, y, h1, h2, h3, h4, h5⟩ := hs
   cases i with
   | zero =>
     simp at hi; subst hi
     exact ⟨x, y, h1, h2, h3, h4, h5⟩
   | succ i =>
     simp at hi
     obtain ⟨a, b, g1, g2, g3, g4, g5⟩ := ih h5 hi
     have hxa : dis x a := dis_le h1 g2
     have hxb : dis x b := dis_le h1 g3
     refine ⟨a, uni x b, dis_uni (dis_comm hxa) g1, le_trans g2 h3, uni_le h2 (le_trans g3 h3), g4, ?_⟩
     exact ⟨x, b, hxb, le_uni1 _ _, le_uni2 hxb, h4, g5⟩
theorem stars_unfocus {P : As} : ∀ {L : List As} {i : Nat} {h a b : Hp}, i < L.length → dis a b → le a h → le b h → P a → stars (L.eraseIdx i) b → stars (L.set i P) h := by
 intro L
 induction L with
 | nil => intro i h a b hi; simp at hi
 | cons Q L ih =>
   intro i h a b hi h1 h2 h3 h4 h5
   cases i with
   | zero => exact ⟨a, b, h1, h2, h3, h4, h5⟩
   | succ i =>
     simp at hi
     obtain ⟨x, y, g1, g2, g3, g4, g5⟩ := h5
     have hax : dis a x := dis_le h1 g2
     have hay : dis a y := dis_le h1 g3
     exact ⟨x, uni a y, dis_uni (dis_comm hax) g1, le_trans g2 h3, uni_le h2 (le_trans g3 h3), g4, ih hi hay (le_uni1 _ _) (le_uni2 hay) h4 g5⟩
theorem stars_append : ∀ {L M : List As} {a b h : Hp}, stars L a → stars M b → dis a b → le a h → le b h → stars (L ++ M) h := by
 intro L
 induction L with
 | nil => intro M a b h _ hM _ _ hb; exact stars_mono hM hb
 | cons P L ih =>
   intro M a b h hL hM hd ha hb
   obtain ⟨x, y, h1, h2, h3, h4, h5⟩ := hL
   have hyb : dis y b := dis_comm (dis_le (dis_comm hd) h3)
   have hxb : dis x b := dis_comm (dis_le (dis_comm hd) h2)
   exact ⟨x, uni y b, dis_uni h1 hxb, le_trans h2 ha, uni_le (le_trans h3 ha) hb, h4, ih h5 hM hyb (le_uni1 _ _) (le_uni2 hyb)⟩
theorem stars_parts : ∀ {L M : List As} {h : Hp}, stars (L ++ M) h → ∃ a b, dis a b ∧ le a h ∧ le b h ∧ stars L a ∧ stars M b := by
 intro L
 induction L with
 | nil => intro M h hs; exact ⟨fun _ => none, h, fun _ => .inl rfl, fun _ _ e => (by cases e), le_refl _, trivial, hs⟩
 | cons P L ih =>
   intro M h hs
   obtain ⟨x, y, h1, h2, h3, h4, h5⟩ := hs
   obtain ⟨a, b, g1, g2, g3, g4, g5⟩ := ih h5
   have hxa : dis x a := dis_le h1 g2
   have hxb : dis x b := dis_le h1 g3
   exact ⟨uni x a, b, dis_comm (dis_uni (dis_comm hxb) (dis_comm g1)), uni_le h2 (le_trans g2 h3), le_trans g3 h3, ⟨x, a, hxa, le_uni1 _ _, le_uni2 hxa, h4, g4⟩, g5⟩
structure Sat (w0 w : World) (L : List As) : Prop where
 os : w.os = w0.os
 tape : w.tape = w0.tape
 output : w.output = w0.output
 mem : stars L (hp w)
section
variable {w0 w w' : World} {L M : List As}
theorem Sat.lt_of {i : Nat} {P : As} (hi : L[i]? = some P) : i < L.length := (List.getElem?_eq_some_iff.1 hi).1
theorem Sat.upd (h : Sat w0 w L) {i : Nat} {P P' : As} (hi : L[i]? = some P) (hos : w'.os = w.os) (htape : w'.tape = w.tape) (hout : w'.output = w.output)
   (hp' : ∀ a, P a → le a (hp w) → ∃ a', P' a' ∧ le a' (hp w') ∧ ∀ k, a k = none → k < w.heap.size → a' k = none ∧ w'.heap[k]? = w.heap[k]?) : Sat w0 w' (L.set i P') := by
 obtain ⟨a, b, h1, h2, h3, h4, h5⟩ := stars_focus h.mem hi
 obtain ⟨a', g1, g2, g3⟩ := hp' a h4 h2
 have hb : ∀ k o, b k = some o → a k = none ∧ k < w.heap.size := fun k o e => by
   refine ⟨?_, (Array.getElem?_eq_some_iff.1 (h3 k o e)).1⟩
   rcases h1 k with h1 | h1
   · exact h1
   · rw [h1] at e; cases e
 refine ⟨hos.trans h.os, htape.trans h.tape, hout.trans h.output, stars_unfocus (Sat.lt_of hi) (a := a') (b := b) (fun k => ?_) g2 (fun k o e => ?_) g1 h5⟩
 · cases e : b k with
   | none => exact .inr rfl
   | some o => exact .inl (g3 k (hb k o e).1 (hb k o e).2).1
 · show w'.heap[k]? = some o
   rw [(g3 k (hb k o e).1 (hb k o e).2).2]
   exact h3 k o e
theorem Sat.new (h : Sat w0 w L) (hb : Below w.heap.size w w') {P : As} (hP : ∃ a, P a ∧ le a (hp w') ∧ ∀ k, k < w.heap.size → a k = none) : Sat w0 w' (L ++ [P]) := by
 obtain ⟨a, h1, h2, h3⟩ := hP
 refine ⟨hb.os.trans h.os, hb.tape.trans h.tape, hb.output.trans h.output, ?_⟩
 refine stars_append (a := hp w) (b := a) h.mem ⟨a, fun _ => none, fun _ => .inr rfl, le_refl _, fun _ _ e => (by cases e), h1, trivial⟩ (fun k => ?_) (fun k o e => ?_) h2
 · by_cases hk : k < w.heap.size
   · exact .inr (h3 k hk)
   · exact .inl (Array.getElem?_eq_none (by omega))
 · show w'.heap[k]? = some o
   rw [hb.block k (Array.getElem?_eq_some_iff.1 e).1]; exact e
theorem Sat.below (h : Sat w0 w L) (hb : Below w.heap.size w w') : Sat w0 w' L :=
 ⟨hb.os.trans h.os, hb.tape.trans h.tape, hb.output.trans h.output, stars_mono h.mem (fun k o e => by show w'.heap[k]? = some o; rw [hb.block k (Array.getElem?_eq_some_iff.1 e).1]; exact e)⟩
theorem Sat.drew (h : Sat w0 w L) : Sat w0 w.drew L := ⟨h.os, h.tape, h.output, h.mem⟩
theorem Sat.alloc (h : Sat w0 w L) (o : Obj) : Sat w0 (w.alloc o) (L ++ [blk w.heap.size o]) :=
 h.new ((Below.refl _ _).alloc (Nat.le_refl _) o) ⟨fun k => if k = w.heap.size then some o else none, by simp [blk], fun k x e => (by
   dsimp only at e
   split at e
   · rename_i hk; subst hk; cases e; exact heap_alloc_new w o
   · cases e), fun k hk => by dsimp only; rw [if_neg (by omega)]⟩
theorem Sat.allocAt (h : Sat w0 w L) (o : Obj) (b : Nat) (hb : b = w.heap.size := by simp) : Sat w0 (w.alloc o) (L ++ [blk b o]) := hb ▸ h.alloc o
theorem Sat.waste (h : Sat w0 w L) (o : Obj) : Sat w0 (w.alloc o) L := h.below ((Below.refl _ _).alloc (Nat.le_refl _) o)
theorem Sat.get (h : Sat w0 w L) {i : Nat} {P : As} (hi : L[i]? = some P) {p : Prop} (hp' : ∀ a, P a → le a (hp w) → p) : p := by
 obtain ⟨a, b, _, h2, _, h4, _⟩ := stars_focus h.mem hi
 exact hp' a h4 h2
theorem Sat.ent (h : Sat w0 w L) {i : Nat} {P Q : As} (hi : L[i]? = some P) (hPQ : ∀ a, P a → Q a) : Sat w0 w (L.set i Q) := by
 obtain ⟨a, b, h1, h2, h3, h4, h5⟩ := stars_focus h.mem hi
 exact ⟨h.os, h.tape, h.output, stars_unfocus (Sat.lt_of hi) h1 h2 h3 (hPQ a h4) h5⟩
theorem Sat.ex (h : Sat w0 w L) {i : Nat} {α : Type} {P : α → As} (hi : L[i]? = some (exs P)) : ∃ x, Sat w0 w (L.set i (P x)) := by
 obtain ⟨a, b, h1, h2, h3, ⟨x, h4⟩, h5⟩ := stars_focus h.mem hi
 exact ⟨x, h.os, h.tape, h.output, stars_unfocus (Sat.lt_of hi) h1 h2 h3 h4 h5⟩
theorem Sat.unpack (h : Sat w0 w L) {i : Nat} {M : List As} (hi : L[i]? = some (stars M)) : Sat w0 w (L.eraseIdx i ++ M) := by
 obtain ⟨a, b, h1, h2, h3, h4, h5⟩ := stars_focus h.mem hi
 exact ⟨h.os, h.tape, h.output, stars_append h5 h4 (dis_comm h1) h3 h2⟩
theorem Sat.pack (h : Sat w0 w (L ++ M)) : Sat w0 w (L ++ [stars M]) := by
 obtain ⟨a, b, h1, h2, h3, h4, h5⟩ := stars_parts h.mem
 exact ⟨h.os, h.tape, h.output, stars_append h4 (b := b) ⟨b, fun _ => none, fun _ => .inr rfl, le_refl _, fun _ _ e => (by cases e), h5, trivial⟩ h1 h2 h3⟩
theorem Sat.left (h : Sat w0 w (L ++ M)) : Sat w0 w L := by
 obtain ⟨a, b, h1, h2, h3, h4, h5⟩ := stars_parts h.mem
 exact ⟨h.os, h.tape, h.output, stars_mono h4 h2⟩
end
theorem stars_fam : ∀ {L : List As} {h : Hp}, stars L h → ∃ f : Nat → Hp, (∀ (i : Nat) (P : As), L[i]? = some P → P (f i)) ∧ (∀ i j, i ≠ j → dis (f i) (f j)) ∧ ∀ i, le (f i) h := by
 intro L
 induction L with
 | nil => intro h _; exact ⟨fun _ _ => none, fun i P hi => (by simp at hi), fun _ _ _ _ => .inl rfl, fun _ _ _ e => (by cases e)⟩
 | cons Q L ih =>
   intro h hs
   obtain ⟨a, b, h1, h2, h3, h4, h5⟩ := hs
   obtain ⟨f, g1, g2, g3⟩ := ih h5
   refine ⟨fun i => match i with | 0 => a | i + 1 => f i, fun i P hi => ?_, fun i j hij => ?_, fun i => ?_⟩
   · cases i with
     | zero => simp at hi; subst hi; exact h4
     | succ i => simp at hi; exact g1 i P hi
   · cases i with
     | zero => cases j with
       | zero => exact absurd rfl hij
       | succ j => exact dis_le h1 (g3 j)
     | succ i => cases j with
       | zero => exact dis_comm (dis_le h1 (g3 i))
       | succ j => exact g2 i j (by omega)
   · cases i with
     | zero => exact h2
     | succ i => exact le_trans (g3 i) h3
theorem stars_of_fam : ∀ {L : List As} {h : Hp} (f : Nat → Hp), (∀ (i : Nat) (P : As), L[i]? = some P → P (f i)) → (∀ i j, i ≠ j → dis (f i) (f j)) → (∀ i, le (f i) h) → stars L h := by
 intro L
 induction L with
 | nil => intros; trivial
 | cons Q L ih =>
   intro h f g1 g2 g3
   refine ⟨f 0, fun k => match f 0 k with | none => h k | some _ => none, fun k => ?_, g3 0, fun k o e => ?_, g1 0 Q rfl, ih (fun i => f (i + 1)) (fun i P hi => g1 (i + 1) P (by simpa using hi)) (fun i j hij => g2 _ _ (by omega)) (fun i k o e => ?_)⟩
   · cases hk : f 0 k with
     | none => exact .inl rfl
     | some o => exact .inr (by simp [hk])
   · dsimp only at e
     split at e
     · exact e
     · cases e
   · rcases g2 0 (i + 1) (by omega) k with hk | hk
     · show (match f 0 k with | none => h k | some _ => none) = some o
       rw [hk]; exact g3 _ _ _ e
     · rw [hk] at e; cases e
theorem Sat.pick {w0 w : World} {L : List As} (h : Sat w0 w L) (p : List Nat) (hn : p.Nodup := by decide) (hl : p.all (· < L.length) = true := by rfl) : Sat w0 w (p.map fun i => L.getD i (fun _ => True)) := by
 obtain ⟨f, g1, g2, g3⟩ := stars_fam h.mem
 refine ⟨h.os, h.tape, h.output, stars_of_fam (fun i => match p[i]? with | some j => f j | none => fun _ => none) (fun i P hi => ?_) (fun i j hij => ?_) (fun i => ?_)⟩
 · rw [List.getElem?_map] at hi
   cases e : p[i]? with
   | none => rw [e] at hi; cases hi
   | some j =>
     rw [e] at hi
     have hj : j < L.length := by simpa using List.all_eq_true.1 hl j (List.mem_of_getElem? e)
     have : L.getD j (fun _ => True) = P := Option.some.inj hi
     refine g1 j P ?_
     rw [← this, List.getD_eq_getElem?_getD, List.getElem?_eq_getElem hj]; rfl
 · cases e1 : p[i]? with
   | none => exact fun k => .inl rfl
   | some a => cases e2 : p[j]? with
     | none => exact fun k => .inr rfl
     | some b =>
       refine g2 a b fun hab => hij ?_
       subst hab
       exact (List.getElem?_inj (List.getElem?_eq_some_iff.1 e1).1 hn).1 (e1.trans e2.symm)
 · cases e : p[i]? with
   | none => exact fun _ _ e => by cases e
   | some j => exact g3 j
section
variable {w0 w w' : World} {L M : List As}
theorem Sat.at (h : Sat w0 w L) (i : Nat) {P : As} (hi : L[i]? = some P) : Sat w0 w [stars (L.eraseIdx i), P] := by
 obtain ⟨a, b, h1, h2, h3, h4, h5⟩ := stars_focus h.mem hi
 exact ⟨h.os, h.tape, h.output, b, a, dis_comm h1, h3, h2, h5, a, fun _ => none, fun _ => .inr rfl, le_refl _, fun _ _ e => (by cases e), h4, trivial⟩
theorem Sat.back {i : Nat} (hi : i < L.length) {Q : As} {M : List As} (h : Sat w0 w (stars (L.eraseIdx i) :: Q :: M)) : Sat w0 w (L.set i Q ++ M) := by
 obtain ⟨b, r, h1, h2, h3, h5, a, m, g1, g2, g3, g4, g5⟩ := h.mem
 have hba : dis a b := dis_comm (dis_le h1 g2)
 have hbm : dis m b := dis_comm (dis_le h1 g3)
 refine ⟨h.os, h.tape, h.output, stars_append (a := uni a b) (b := m) (stars_unfocus hi hba (le_uni1 _ _) (le_uni2 hba) g4 h5) g5 ?_ (uni_le (le_trans g2 h3) h2) (le_trans g3 h3)⟩
 exact dis_comm (dis_uni (dis_comm g1) hbm)
theorem Sat.back1 {i : Nat} (hi : i < L.length) {Q : As} (h : Sat w0 w [stars (L.eraseIdx i), Q]) : Sat w0 w (L.set i Q) := by
 have := Sat.back hi h
 rwa [List.append_nil] at this
theorem Sat.store (h : Sat w0 w L) (i : Nat) {b : Nat} {cs : Array Value} {T : TypeId} {z : Nat × Nat} (hi : L[i]? = some (blk b (.cells cs T z))) (o : Nat) (v : Value) :
   Sat w0 (w.setCell ⟨b, o, none⟩ v) (L.set i (blk b (.cells (cs.setIfInBounds o v) T z))) := by
 refine h.upd hi rfl rfl rfl fun a ha hl => ⟨fun k => if k = b then some (.cells (cs.setIfInBounds o v) T z) else none, by simp [blk], fun k x e => ?_, fun k hk _ => ?_⟩
 · dsimp only at e
   split at e
   · rename_i hk
     subst hk; cases e
     have hb : w.heap[k]? = some (.cells cs T z) := hl _ _ ha
     show (w.setCell ⟨k, o, none⟩ v).heap[k]? = _
     simp [World.setCell, Array.getElem?_modify, hb]
   · cases e
 · have hne : k ≠ b := by rintro rfl; rw [show a k = _ from ha] at hk; cases hk
   exact ⟨by dsimp only; rw [if_neg hne], Below.heap_setCell _ _ _ _ hne⟩
theorem Sat.heap (h : Sat w0 w L) (i : Nat) {b : Nat} {o : Obj} (hi : L[i]? = some (blk b o)) : w.heap[b]? = some o := h.get hi fun _ ha hl => hl _ _ ha
theorem Sat.lt (h : Sat w0 w L) (i : Nat) {b : Nat} {o : Obj} (hi : L[i]? = some (blk b o)) : b < w.heap.size := (Array.getElem?_eq_some_iff.1 (h.heap i hi)).1
theorem Sat.cell (h : Sat w0 w L) (i : Nat) {b : Nat} {cs : Array Value} {T : TypeId} {z : Nat × Nat} (hi : L[i]? = some (blk b (.cells cs T z))) (o : Nat) {v : Value} (ho : cs[o]? = some v) : w.cell? ⟨b, o, none⟩ = some v := by
 simp [World.cell?, h.heap i hi, ho]
theorem Sat.free (h : Sat w0 w L) (i : Nat) {b : Nat} {cs : Array Value} {T : TypeId} (hi : L[i]? = some (blk b (.cells cs T (0, 0)))) (o : Nat) : w.frozen? ⟨b, o, none⟩ = false := by
 simp [World.frozen?, h.heap i hi]
theorem Sat.ne (h : Sat w0 w L) (i j : Nat) (hij : i ≠ j) {b c : Nat} {o u : Obj} (hi : L[i]? = some (blk b o)) (hj : L[j]? = some (blk c u)) : b ≠ c := by
 obtain ⟨f, g1, g2, g3⟩ := stars_fam h.mem
 rintro rfl
 have e1 : f i b = some o := g1 i _ hi
 have e2 : f j b = some u := g1 j _ hj
 rcases g2 i j hij b with e | e
 · rw [e] at e1; cases e1
 · rw [e] at e2; cases e2
def row (e : TypeId) (size : Nat) (v : Value) (n : Nat) (xs : List Value) : As := fun h =>
 xs.length = n * size ∧
 ((v = .slice none 0 0 ∧ n = 0) ∨
  ∃ g cap cur, v = .slice (some ⟨g, 0, none⟩) n cap ∧ h g = some (.cells cur e (0, 0)) ∧ n ≤ cap ∧ cap ≤ maxLen ∧ cur.size = cap * size ∧ cur.toList.take (n * size) = xs)
theorem Sat.row (h : Sat w0 w L) (i : Nat) {e : TypeId} {size : Nat} {v : Value} {n : Nat} {xs : List Value} (hi : L[i]? = some (row e size v n xs)) : w.ownsRow 0 e size v n xs :=
 h.get hi fun a ha hl => by
   refine ⟨ha.1, ?_⟩
   rcases ha.2 with h1 | ⟨g, cap, cur, h1, h2, h3⟩
   · exact .inl h1
   · exact .inr ⟨g, cap, cur, h1, Nat.zero_le _, hl _ _ h2, h3⟩
theorem Sat.nil (h : Sat w0 w L) (e : TypeId) (size : Nat) : Sat w0 w (L ++ [Prt.row e size (.slice none 0 0) 0 []]) :=
 h.new (Below.refl _ _) ⟨fun _ => none, ⟨by simp, .inl ⟨rfl, rfl⟩⟩, fun _ _ e => (by cases e), fun _ _ => rfl⟩
theorem Sat.triv (h : Sat w0 w L) {P : As} (hP : ∀ a, P a) : Sat w0 w (L ++ [P]) := h.new (Below.refl _ _) ⟨fun _ => none, hP _, fun _ _ e => (by cases e), fun _ _ => rfl⟩
theorem Sat.newRow (h : Sat w0 w L) (hb : Below w.heap.size w w') {base : Nat} {e : TypeId} {size : Nat} {v : Value} {n : Nat} {xs : List Value} (ho : w'.ownsRow base e size v n xs) (hbase : w.heap.size ≤ base) : Sat w0 w' (L ++ [Prt.row e size v n xs]) := by
 refine h.new hb ?_
 obtain ⟨h1, h2⟩ := ho
 rcases h2 with ⟨rfl, rfl⟩ | ⟨g, cap, cur, rfl, h3, h4, h5⟩
 · exact ⟨fun _ => none, ⟨h1, .inl ⟨rfl, rfl⟩⟩, fun _ _ e => (by cases e), fun _ _ => rfl⟩
 · refine ⟨fun k => if k = g then some (.cells cur e (0, 0)) else none, ⟨h1, .inr ⟨g, cap, cur, rfl, if_pos rfl, h5⟩⟩, fun k x ex => ?_, fun k hk => ?_⟩
   · dsimp only at ex
     split at ex
     · rename_i hkg; subst hkg; cases ex; exact h4
     · cases ex
   · dsimp only; rw [if_neg (by omega)]
theorem Sat.grow (h : Sat w0 w L) (i : Nat) {e : TypeId} {size : Nat} {v : Value} {n : Nat} {xs : List Value} (hi : L[i]? = some (Prt.row e size v n xs)) {base g m cap : Nat} {ys : List Value}
   (hg : w.grownBy w' v.ownBlock) (ho : w'.ownsRow base e size (.slice (some ⟨g, 0, none⟩) m cap) m ys) (hat : v.ownBlock = some g ∨ g = w.heap.size) : Sat w0 w' (L.set i (Prt.row e size (.slice (some ⟨g, 0, none⟩) m cap) m ys)) := by
 refine h.upd hi hg.os hg.tape hg.output fun a ha hl => ?_
 obtain ⟨h1, h2⟩ := ho
 rcases h2 with ⟨h2, _⟩ | ⟨g', cap', cur, h2, _, h4, h5, h6, h7, h8⟩
 · cases h2
 · cases h2
   refine ⟨fun k => if k = g then some (.cells cur e (0, 0)) else none, ⟨h1, .inr ⟨g, cap, cur, rfl, if_pos rfl, h5, h6, h7, h8⟩⟩, fun k x ex => ?_, fun k hk hlt => ?_⟩
   · dsimp only at ex
     split at ex
     · rename_i hkg; subst hkg; cases ex; exact h4
     · cases ex
   · have hv : v.ownBlock ≠ some k := fun ev => by
       rcases ha.2 with ⟨rfl, _⟩ | ⟨g2, cap2, cur2, rfl, e2, _⟩
       · simp [Value.ownBlock] at ev
       · simp [Value.ownBlock] at ev; subst ev; rw [hk] at e2; cases e2
     refine ⟨?_, hg.block k hlt (fun ev => hv ev.symm)⟩
     dsimp only
     rw [if_neg]
     rintro rfl
     rcases hat with hat | hat
     · exact hv hat
     · omega
theorem row_of_blk {b : Nat} {cs : Array Value} {e : TypeId} {size n : Nat} {xs : List Value} {a : Hp} (h : blk b (.cells cs e (0, 0)) a) (hm : n ≤ maxLen) (hs : cs.size = n * size) (hx : cs.toList = xs) : Prt.row e size (.slice (some ⟨b, 0, none⟩) n n) n xs a :=
 ⟨by rw [← hx]; simp [hs], .inr ⟨b, n, cs, rfl, h, Nat.le_refl _, hm, hs, by rw [← hx]; exact List.take_of_length_le (by simp [hs])⟩⟩
theorem Sat.un3 {F P A : As} (h : Sat w0 w [stars [F, A], P]) : Sat w0 w [F, P, A] := (h.unpack (i := 0) rfl).pick [1, 0, 2]
theorem Sat.un4 {F P A B : As} (h : Sat w0 w [stars [F, A, B], P]) : Sat w0 w [F, P, A, B] := (h.unpack (i := 0) rfl).pick [1, 0, 2, 3]
theorem Sat.un5 {F P A B C : As} (h : Sat w0 w [stars [F, A, B, C], P]) : Sat w0 w [F, P, A, B, C] := (h.unpack (i := 0) rfl).pick [1, 0, 2, 3, 4]
theorem Sat.un6 {F P A B C D : As} (h : Sat w0 w [stars [F, A, B, C, D], P]) : Sat w0 w [F, P, A, B, C, D] := (h.unpack (i := 0) rfl).pick [1, 0, 2, 3, 4, 5]
theorem Sat.out {F : As} {M : List As} (h : Sat w0 w [stars (F :: M)]) : Sat w0 w [F] := Sat.left (L := [F]) (M := M) (h.unpack (i := 0) rfl)
def oldA (w : World) : As := fun h => ∀ k, k < w.heap.size → h k = w.heap[k]?
theorem Sat.old (w : World) : Sat w w [oldA w] :=
 ⟨rfl, rfl, rfl, hp w, fun _ => none, fun _ => .inr rfl, le_refl _, fun _ _ e => (by cases e), fun _ _ => rfl, trivial⟩
theorem Sat.isBelow {M : List As} (h : Sat w w' (oldA w :: M)) : Below w.heap.size w w' := by
 obtain ⟨a, b, _, h2, _, h4, _⟩ := h.mem
 have hb : ∀ k, k < w.heap.size → w'.heap[k]? = w.heap[k]? := fun k hk => by
   have h5 := h4 k hk
   rw [Array.getElem?_eq_getElem hk] at h5 ⊢
   exact h2 _ _ h5
 refine ⟨h.os, h.tape, h.output, Nat.le_of_not_lt fun hlt => ?_, hb⟩
 have h6 := hb (w.heap.size - 1) (by omega)
 rw [Array.getElem?_eq_none (by omega), Array.getElem?_eq_getElem (by omega)] at h6
 cases h6
theorem Sat.join {M : List As} (h : Sat w0 w L) (g : Sat w w' (oldA w :: M)) : Sat w0 w' (L ++ M) := by
 have hb := g.isBelow
 obtain ⟨a, b, h1, h2, h3, h4, h5⟩ := g.mem
 refine ⟨hb.os.trans h.os, hb.tape.trans h.tape, hb.output.trans h.output, stars_append (a := hp w) (b := b) h.mem h5 (fun k => ?_) (fun k o e => ?_) h3⟩
 · by_cases hk : k < w.heap.size
   · right
     rcases h1 k with h6 | h6
     · have h7 := h4 k hk
       rw [h6, Array.getElem?_eq_getElem hk] at h7; cases h7
     · exact h6
   · exact .inl (Array.getElem?_eq_none (by omega))
 · show w'.heap[k]? = some o
   rw [hb.block k (Array.getElem?_eq_some_iff.1 e).1]; exact e
end
end Prt
end
section
open Go Go.RowKit
theorem run_append_str_at {P : Program} (w : World) (t u ty e : TypeId) (i : TypeInfo) (ht : P.underlying t = some (.slice e)) (hu : P.underlying u = some .string) (hi : P.info? e = some i) (hz : i.zero = some (.int .u8 0))
   (hsize : i.size = 1) (hby : i.bytes = 1) (v : Value) (n : Nat) (xs : List Value) (hown : w.ownsRow 0 e 1 v n xs) (s : ByteArray) (h63 : n + s.size ≤ maxLen) (hbytes : n + s.size ≤ 140737488355328) :
   ∃ v' w', (Builtin.append_ #[t, u] ty #[v, .string s]).run P w = .ok v' w' ∧ w'.ownsRow 0 e 1 v' (n + s.size) (xs ++ Lib.strCells s) ∧ w.grownBy w' v.ownBlock ∧ (∀ g, v'.ownBlock = some g → v.ownBlock = some g ∨ w.heap.size ≤ g) := by
 obtain ⟨v', w', hr, h2, h3, _⟩ := Lib.run_append_own_string (P := P) w 0 t u ty e i ht hu hi hz hsize hby v n xs hown s h63 hbytes (Nat.zero_le _)
 refine ⟨v', w', hr, h2, h3, fun g hg => ?_⟩
 have hxl : xs.length = n := by simpa using hown.1
 rcases hown.2 with ⟨rfl, rfl⟩ | ⟨g0, cap, cur, rfl, _, hgc, hnc, hcm, hcs, htake⟩
 · obtain ⟨v2, w2, hr2, k2, _, _⟩ := Lib.run_append_own_string (P := P) w w.heap.size t u ty e i ht hu hi hz hsize hby _ 0 xs ⟨hown.1, .inl ⟨rfl, rfl⟩⟩ s h63 hbytes (Nat.le_refl _)
   rw [hr] at hr2
   cases hr2
   right
   rcases k2.2 with ⟨rfl, _⟩ | ⟨g2, _, _, rfl, hb, _⟩
   · cases hg
   · simp [Value.ownBlock] at hg; omega
 · by_cases hroom : n + s.size ≤ cap
   · have hr2 := Lib.run_append_room_string (P := P) w t u ty e i ht hu hi hsize g0 n cap cur hgc s hroom (by omega)
     rw [hr] at hr2
     cases hr2
     exact .inl hg
   · have holds : ∀ j u, xs[j]? = some u → w.cell? ((⟨g0, 0, none⟩ : Addr).add j) = some u := hown.cells (g := g0) rfl
     have hsm : n + s.size ≤ 9223372036854775807 := by simp only [maxLen] at h63; omega
     have hr2 := Lib.run_append_grow_string (P := P) w t u ty e i (.int .u8 0) ht hu hi hz ⟨g0, 0, none⟩ n cap xs (by rw [hsize]; simpa using hxl) holds s (by omega) (by omega) (by rw [hby]; exact growslice_fits (by omega) (by omega))
     rw [hr] at hr2
     cases hr2
     right
     simp [Value.ownBlock] at hg; omega
theorem wpList_append_str {P : Program} {w : World} {ops : Array Oper} {rest : List Oper} {o : Oper} {a : Act} {Q : Exit → Act → World → Prop} (hgd : o.guard = none) (sl x : Operand) (t u : TypeId)
   (ho : o.op = .call { callee := .builtin .append, args := #[sl, x], argTypes := #[t, u] }) (e : TypeId) (i : TypeInfo) (ht : P.underlying t = some (.slice e)) (hu : P.underlying u = some .string) (hi : P.info? e = some i) (hz : i.zero = some (.int .u8 0))
   (hsize : i.size = 1) (hby : i.bytes = 1) (v : Value) (n : Nat) (xs : List Value) (hs : a.eval sl = v) (hown : w.ownsRow 0 e 1 v n xs) (s : ByteArray) (hx : a.eval x = .string s) (h63 : n + s.size ≤ maxLen) (hbytes : n + s.size ≤ 140737488355328)
   (h : ∀ v' w', w'.ownsRow 0 e 1 v' (n + s.size) (xs ++ Lib.strCells s) → w.grownBy w' v.ownBlock → (∀ g, v'.ownBlock = some g → v.ownBlock = some g ∨ w.heap.size ≤ g) → wpList P ops Q rest (a.put o.dst v') w') : wpList P ops Q (o :: rest) a w := by
 refine wpList_plain hgd fun K hK => ?_
 obtain ⟨v', w', hr, h2, h3, h4⟩ := run_append_str_at (P := P) w t u o.type e i ht hu hi hz hsize hby v n xs hown s h63 hbytes
 unfold Oper.wp execOp
 simp only [ho, resolve, invoke, builtin, Sem.run_bind, Sem.run_pure, Result.andThen_ok, List.map_toArray, List.map_cons, List.map_nil, hs, hx, hr]
 exact hK _ _ (h v' w' h2 h3 h4)
namespace Prt
section
variable {w0 w w' : World} {L : List As}
theorem Sat.growS (h : Sat w0 w L) (i : Nat) {e : TypeId} {size : Nat} {v v' : Value} {n m : Nat} {xs ys : List Value} (hi : L[i]? = some (Prt.row e size v n xs))
   (hg : w.grownBy w' v.ownBlock) (ho : w'.ownsRow 0 e size v' m ys) (hat : ∀ g, v'.ownBlock = some g → v.ownBlock = some g ∨ w.heap.size ≤ g) : Sat w0 w' (L.set i (Prt.row e size v' m ys)) := by
 refine h.upd hi hg.os hg.tape hg.output fun a ha hl => ?_
 have hv : ∀ k, a k = none → v.ownBlock ≠ some k := fun k hk ev => by
   rcases ha.2 with ⟨rfl, _⟩ | ⟨g2, cap2, cur2, rfl, e2, _⟩
   · simp [Value.ownBlock] at ev
   · simp [Value.ownBlock] at ev; subst ev; rw [hk] at e2; cases e2
 obtain ⟨h1, h2⟩ := ho
 rcases h2 with ⟨rfl, rfl⟩ | ⟨g', cap', cur, rfl, _, h4, h5, h6, h7, h8⟩
 · exact ⟨fun _ => none, ⟨h1, .inl ⟨rfl, rfl⟩⟩, fun _ _ e => (by cases e), fun k hk hlt => ⟨rfl, hg.block k hlt fun ev => hv k hk ev.symm⟩⟩
 · refine ⟨fun k => if k = g' then some (.cells cur e (0, 0)) else none, ⟨h1, .inr ⟨g', cap', cur, rfl, if_pos rfl, h5, h6, h7, h8⟩⟩, fun k x ex => ?_, fun k hk hlt => ⟨?_, hg.block k hlt fun ev => hv k hk ev.symm⟩⟩
   · dsimp only at ex
     split at ex
     · rename_i hkg; subst hkg; cases ex; exact h4
     · cases ex
   · dsimp only
     rw [if_neg]
     rintro rfl
     rcases hat k rfl with hat | hat
     · exact hv k hk hat
     · omega
theorem Sat.freeze (h : Sat w0 w L) (i : Nat) {e : TypeId} {size g n cap m : Nat} {xs : List Value} (hi : L[i]? = some (Prt.row e size (.slice (some ⟨g, 0, none⟩) n cap) n xs)) : Sat w0 (w.freeze ⟨g, 0, none⟩ m) (L.set i fun _ => True) := by
 have hz : (w.freeze ⟨g, 0, none⟩ m).os = w.os ∧ (w.freeze ⟨g, 0, none⟩ m).tape = w.tape ∧ (w.freeze ⟨g, 0, none⟩ m).output = w.output := by unfold World.freeze; split <;> exact ⟨rfl, rfl, rfl⟩
 refine h.upd hi hz.1 hz.2.1 hz.2.2 fun a ha hl => ⟨fun _ => none, trivial, fun _ _ e => (by cases e), fun k hk _ => ⟨rfl, ?_⟩⟩
 have hne : k ≠ g := by
   rintro rfl
   rcases ha.2 with ⟨h1, _⟩ | ⟨g2, cap2, cur2, h1, e2, _⟩
   · cases h1
   · cases h1; rw [hk] at e2; cases e2
 unfold World.freeze
 split
 · rfl
 · simp [Array.getElem?_modify, Ne.symm hne]
end
end Prt
end
section
namespace Tok
theorem scanFrom_ok (s : ByteArray) : ∀ (f k : Nat) (o l : List Tk), k ≤ s.size → s.size < k + f → o.length ≤ 1000 → scanFrom s f k o = .ok l → l ≠ [] ∧ l.length ≤ 1001 := by
 intro f
 induction f with
 | zero => intro k o l hk hf; omega
 | succ f ih =>
   intro k o l hk hf ho h
   rw [scanFrom] at h
   by_cases hlt : k < s.size
   · rw [if_pos hlt] at h
     by_cases hb : byte s k = 32 ∨ byte s k = 10
     · rw [if_pos hb] at h
       exact ih (k + 1) o l (by omega) (by omega) ho h
     · rw [if_neg hb] at h
       by_cases hok : (next s k).2.2 = false
       · rw [if_pos hok] at h; cases h
       · rw [if_neg hok] at h
         by_cases hl : o.length = 1000
         · rw [if_pos hl] at h; cases h
         · rw [if_neg hl] at h
           have hn := next_bound s k hlt (by simpa using hok)
           exact ih _ _ l (by omega) (by omega) (by simp; omega) h
   · rw [if_neg hlt] at h
     obtain rfl := Except.ok.inj h
     simp; omega
theorem scan_ok (s : ByteArray) (l : List Tk) (h : scan s = .ok l) : l ≠ [] ∧ l.length ≤ 1001 ∧ s.size ≤ 4000 := by
 unfold scan at h
 by_cases hs : 4000 < s.size
 · rw [if_pos hs] at h; cases h
 · rw [if_neg hs] at h
   have := scanFrom_ok s (s.size + 1) 0 [] l (by omega) (by omega) (by simp) h
   exact ⟨this.1, this.2, by omega⟩
end Tok
end
end Go.Proofs.YtdlbhiaceheffabGreatDoor
