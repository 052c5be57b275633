/- Plain: the reference's reader of types: what it comes to in each state; and that it is the parser's. No program in sight. -/
import Derived.BigQuiet
import Derived.Deep.QuietTactic
import Derived.Test.YtdlbhiaceheffabGreatDoorY08
set_option linter.all false
set_option maxRecDepth 100000
set_option maxHeartbeats 1000000
namespace Go.Proofs.YtdlbhiaceheffabGreatDoor
section
namespace Rd
open Tok (Tk)
open Ty (Ft St Nd cur here is plainKind M)
structure RS where
 st : St
 f : Option Ft
def wrong (af : List Tk) (e : Nat) (s : RS) : RS := match s.f with | none => ⟨s.st, some (here af e s.st.pos)⟩ | some _ => s
def peek (af : List Tk) (x : List UInt8) (s : RS) : Bool := s.f.isNone && is af x s.st.pos
def next (s : RS) : RS := ⟨{ s.st with pos := s.st.pos + 1 }, s.f⟩
def must (af : List Tk) (x : List UInt8) (s : RS) : RS := if peek af x s then next s else wrong af 1 s
def ident (af : List Tk) (met : List ByteArray) (s : RS) : ByteArray × RS :=
 if (cur af s.st.pos).kind ≠ 1 then (⟨#[]⟩, wrong af 1 s)
 else if (cur af s.st.pos).text.data.toList ∈ met.map (fun t => t.data.toList) then (⟨#[]⟩, wrong af 6 s)
 else ((cur af s.st.pos).text, next s)
def addT (t : Ty.Ty) (s : RS) : Nat × RS := (s.st.ts.length, ⟨{ s.st with ts := s.st.ts ++ [t] }, s.f⟩)
def fields (af : List Tk) (T : RS → Nat × RS) : Nat → List (ByteArray × Nat) → RS → List (ByteArray × Nat) × RS
 | 0, l, s => (l, s)
 | n + 1, l, s => if peek af [125] s then (l, next s) else if s.f.isSome then (l, s) else
     fields af T n (l ++ [((ident af (l.map Prod.fst) s).1, (T (must af [58] (ident af (l.map Prod.fst) s).2)).1)]) (must af [59] (T (must af [58] (ident af (l.map Prod.fst) s).2)).2)
def args (af : List Tk) (T : RS → Nat × RS) : Nat → List Nat → RS → List Nat × RS
 | 0, l, s => (l, s)
 | n + 1, l, s => if peek af [41] s then (l, next s) else if s.f.isSome then (l, s) else
     args af T n (l ++ [(T (if l.length > 0 then must af [44] s else s)).1]) (T (if l.length > 0 then must af [44] s else s)).2
def round (af : List Tk) (T : RS → Nat × RS) (l : List Nat) (s : RS) : Nat × RS :=
 if peek af [61, 62] s then addT ⟨9, [], l, (T (next s)).1⟩ (T (next s)).2
 else if l.length ≠ 1 then (0, wrong af 1 s) else (l.headD 0, s)
def one (af : List Tk) (T : RS → Nat × RS) (s : RS) : Nat × RS :=
 if (cur af s.st.pos).kind = 2 ∧ plainKind (cur af s.st.pos).text > 0 ∧ s.f = none then addT ⟨plainKind (cur af s.st.pos).text, [], [], 0⟩ (next s)
 else if peek af [91] s then addT ⟨8, [], [], (T (next s)).1⟩ (must af [93] (T (next s)).2)
 else if peek af [123] s then addT ⟨7, (fields af T (af.length + 1) [] (next s)).1, [], 0⟩ (fields af T (af.length + 1) [] (next s)).2
 else round af T (args af T (af.length + 1) [] (must af [40] s)).1 (args af T (af.length + 1) [] (must af [40] s)).2
def bars (af : List Tk) (S : RS → Nat × RS) : Nat → List Nat → RS → List Nat × RS
 | 0, l, s => (l, s)
 | n + 1, l, s => if peek af [124] s then bars af S n (l ++ [(S (next s)).1]) (S (next s)).2 else (l, s)
def rU (l : List Nat) (s : RS) : Nat × RS := if 1 < l.length ∧ s.f = none then addT ⟨10, [], l, 0⟩ s else (l.headD 0, s)
def read (af : List Tk) : Nat → RS → Nat × RS
 | 0, s => (0, wrong af 8 s)
 | r + 1, s => if s.f.isSome then (0, s) else
     rU (bars af (one af (read af r)) (af.length + 1) [(one af (read af r) s).1] (one af (read af r) s).2).1 (bars af (one af (read af r)) (af.length + 1) [(one af (read af r) s).1] (one af (read af r) s).2).2
def Ok (af : List Tk) (st : St) : Prop := st.pos < af.length ∧ st.ts.length ≤ st.pos ∧ st.ns.length ≤ st.pos + 1
def Off (af : List Tk) (c : Nat) (st : St) : Prop := st.pos < af.length ∧ st.ts.length ≤ af.length + c ∧ st.ns.length ≤ af.length + 1 + c
theorem Off.mono {af : List Tk} {c d : Nat} {st : St} (h : Off af c st) (hd : c ≤ d) : Off af d st := ⟨h.1, by have := h.2; omega, by have := h.2; omega⟩
theorem Ok.off {af : List Tk} {st : St} (h : Ok af st) (c : Nat) : Off af c st := ⟨h.1, by have := h; unfold Ok at this; omega, by have := h; unfold Ok at this; omega⟩
def Sim {α : Type} (af : List Tk) (c : Nat) (m : M α) (g : RS → α × RS) : Prop :=
 ∀ st, Ok af st → match m st with
   | .ok (a, st') => g ⟨st, none⟩ = (a, ⟨st', none⟩) ∧ Ok af st'
   | .error f => ∃ a st', g ⟨st, none⟩ = (a, ⟨st', some f⟩) ∧ Off af c st'
def Idle (g : RS → Nat × RS) : Prop := ∀ st x, g ⟨st, some x⟩ = (0, ⟨st, some x⟩)
theorem gm (af : List Tk) (x : List UInt8) (st : St) (f : Ft) : must af x ⟨st, some f⟩ = ⟨st, some f⟩ := by simp [must, peek, wrong]
theorem fO (af : List Tk) (T : RS → Nat × RS) (n : Nat) (l : List (ByteArray × Nat)) (st : St) (f : Ft) : fields af T n l ⟨st, some f⟩ = (l, ⟨st, some f⟩) := by
 cases n <;> simp [fields, peek]
theorem jF (af : List Tk) (T : RS → Nat × RS) (n : Nat) (l : List Nat) (st : St) (f : Ft) : args af T n l ⟨st, some f⟩ = (l, ⟨st, some f⟩) := by
 cases n <;> simp [args, peek]
theorem qB (af : List Tk) (T : RS → Nat × RS) (n : Nat) (l : List Nat) (st : St) (f : Ft) : bars af T n l ⟨st, some f⟩ = (l, ⟨st, some f⟩) := by
 cases n <;> simp [bars, peek]
theorem iZ {af : List Tk} {x : List UInt8} {st st' : St} (h : Ty.need af x st = .ok ((), st')) : must af x ⟨st, none⟩ = ⟨st', none⟩ := by
 unfold Ty.need at h
 split at h
 · rename_i hi; cases h; simp [must, peek, hi, next]
 · cases h
theorem gI {af : List Tk} {x : List UInt8} {st : St} {f : Ft} (h : Ty.need af x st = .error f) : must af x ⟨st, none⟩ = ⟨st, some f⟩ := by
 unfold Ty.need at h
 split at h
 · cases h
 · rename_i hi; cases h; simp [must, peek, hi, wrong]
theorem qE {af : List Tk} {met : List ByteArray} {st st' : St} {x : ByteArray} (h : Ty.name af met st = .ok (x, st')) : ident af met ⟨st, none⟩ = (x, ⟨st', none⟩) := by
 unfold Ty.name at h
 unfold ident
 dsimp only
 split at h
 · cases h
 · rename_i h1
   rw [if_neg h1]
   split at h
   · cases h
   · rename_i h2; rw [if_neg h2]; cases h; rfl
theorem nH {af : List Tk} {met : List ByteArray} {st : St} {f : Ft} (h : Ty.name af met st = .error f) : ident af met ⟨st, none⟩ = (⟨#[]⟩, ⟨st, some f⟩) := by
 unfold Ty.name at h
 unfold ident
 dsimp only
 split at h
 · rename_i h1; rw [if_pos h1]; cases h; rfl
 · rename_i h1
   rw [if_neg h1]
   split at h
   · rename_i h2; rw [if_pos h2]; cases h; rfl
   · cases h
theorem iW (af : List Tk) (x : List UInt8) (st : St) : peek af x ⟨st, none⟩ = is af x st.pos := by simp [peek]
section
variable {af : List Tk} (hL : ∀ t, af.getLast? = some t → t.kind = 6)
include hL
theorem dI {pos : Nat} (hp : pos < af.length) (h : (cur af pos).kind ≠ 6) : pos + 1 < af.length := by
 refine Nat.lt_of_le_of_ne hp fun e => h ?_
 unfold cur
 rw [List.getElem?_eq_getElem hp]
 exact hL _ (by rw [List.getLast?_eq_getElem?, List.getElem?_eq_getElem (by omega)]; congr 1; simp [← e])
theorem is_lt {s : List UInt8} {pos : Nat} (hp : pos < af.length) (h : is af s pos = true) : pos + 1 < af.length := by
 refine dI hL hp fun e => ?_
 unfold is at h
 rw [e] at h
 simp at h
theorem fU (x : List UInt8) {st : St} (h : Ok af st) : (∃ st', Ty.need af x st = .ok ((), st') ∧ Ok af st' ∧ st'.pos = st.pos + 1 ∧ st'.ts = st.ts ∧ st'.ns = st.ns) ∨ ∃ f, Ty.need af x st = .error f := by
 unfold Ty.need
 by_cases hi : is af x st.pos = true
 · left
   have := is_lt hL h.1 hi
   have := h
   unfold Ok at this
   exact ⟨{ st with pos := st.pos + 1 }, by rw [if_pos hi], by unfold Ok; dsimp only; omega, rfl, rfl, rfl⟩
 · right; exact ⟨_, by rw [if_neg hi]⟩
theorem uK (met : List ByteArray) {st : St} (h : Ok af st) : (∃ x st', Ty.name af met st = .ok (x, st') ∧ Ok af st' ∧ st'.pos = st.pos + 1 ∧ st'.ts = st.ts ∧ st'.ns = st.ns) ∨ ∃ f, Ty.name af met st = .error f := by
 unfold Ty.name
 by_cases hk : (cur af st.pos).kind ≠ 1
 · right; exact ⟨_, by rw [if_pos hk]⟩
 · rw [if_neg hk]
   by_cases hm : (cur af st.pos).text.data.toList ∈ met.map (fun t => t.data.toList)
   · right; exact ⟨_, by rw [if_pos hm]⟩
   · left
     have := dI hL h.1 (by omega : (cur af st.pos).kind ≠ 6)
     have := h
     unfold Ok at this
     exact ⟨_, { st with pos := st.pos + 1 }, by rw [if_neg hm], by unfold Ok; dsimp only; omega, rfl, rfl, rfl⟩
theorem Ok.next {x : List UInt8} {st : St} (h : Ok af st) (hi : is af x st.pos = true) : Ok af { st with pos := st.pos + 1 } := by
 have := is_lt hL h.1 hi
 unfold Ok at *; dsimp only; omega
variable {c : Nat} {T : M Nat} {g : RS → Nat × RS} (hT : Sim af c T g) (hA : Ty.Adv 1 0 0 T) (hI : Idle g)
include hT hA hI
theorem rX : ∀ n l st, Ok af st → af.length < st.pos + n → match Ty.fields af T n l st with
   | .ok (l', st') => fields af g n l ⟨st, none⟩ = (l', ⟨st', none⟩) ∧ Ok af st'
   | .error f => ∃ l' st', fields af g n l ⟨st, none⟩ = (l', ⟨st', some f⟩) ∧ Off af c st' := by
 intro n
 induction n with
 | zero => intro l st h hf; have := h.1; omega
 | succ n ih =>
   intro l st h hf
   rw [Ty.fields, fields, iW]
   by_cases hi : is af [125] st.pos = true
   · rw [if_pos hi, Ty.bnd_ok (show Ty.take af [125] st = .ok (true, { st with pos := st.pos + 1 }) by unfold Ty.take; rw [if_pos hi])]
     exact ⟨rfl, h.next hL hi⟩
   · rw [if_neg hi, Ty.bnd_ok (show Ty.take af [125] st = .ok (false, st) by unfold Ty.take; rw [if_neg hi]), if_neg (show ¬ (false = true) by simp), if_neg (show ¬ ((⟨st, none⟩ : RS).f.isSome = true) by simp)]
     rcases uK hL (l.map Prod.fst) h with ⟨x, s1, e1, o1, p1, _⟩ | ⟨f, e1⟩
     · rw [Ty.bnd_ok e1, qE e1]
       dsimp only
       rcases fU hL [58] o1 with ⟨s2, e2, o2, p2, _⟩ | ⟨f, e2⟩
       · rw [Ty.bnd_ok e2, iZ e2]
         have h3 := hT s2 o2
         cases e3 : T s2 with
         | error f =>
           rw [e3] at h3
           obtain ⟨a, s3, g3, o3⟩ := h3
           rw [Ty.bnd_err e3, g3]
           dsimp only
           rw [gm, fO]
           exact ⟨_, _, rfl, o3⟩
         | ok p =>
           obtain ⟨a, s3⟩ := p
           rw [e3] at h3
           obtain ⟨g3, o3⟩ := h3
           rw [Ty.bnd_ok e3, g3]
           dsimp only
           have a3 := hA _ _ _ e3
           rcases fU hL [59] o3 with ⟨s4, e4, o4, p4, _⟩ | ⟨f, e4⟩
           · rw [Ty.bnd_ok e4, iZ e4]
             exact ih _ s4 o4 (by omega)
           · rw [Ty.bnd_err e4, gI e4, fO]
             exact ⟨_, _, rfl, o3.off c⟩
       · rw [Ty.bnd_err e2, gI e2, hI, gm, fO]
         exact ⟨_, _, rfl, o1.off c⟩
     · rw [Ty.bnd_err e1, nH e1]
       dsimp only
       rw [gm, hI, gm, fO]
       exact ⟨_, _, rfl, h.off c⟩
theorem yM : ∀ n l st, Ok af st → af.length < st.pos + n → match Ty.list af [41] (fun _ => T) n l st with
   | .ok (l', st') => args af g n l ⟨st, none⟩ = (l', ⟨st', none⟩) ∧ Ok af st'
   | .error f => ∃ l' st', args af g n l ⟨st, none⟩ = (l', ⟨st', some f⟩) ∧ Off af c st' := by
 intro n
 induction n with
 | zero => intro l st h hf; have := h.1; omega
 | succ n ih =>
   intro l st h hf
   rw [Ty.list, args, iW]
   by_cases hi : is af [41] st.pos = true
   · rw [if_pos hi, Ty.bnd_ok (show Ty.take af [41] st = .ok (true, { st with pos := st.pos + 1 }) by unfold Ty.take; rw [if_pos hi])]
     exact ⟨rfl, h.next hL hi⟩
   · rw [if_neg hi, Ty.bnd_ok (show Ty.take af [41] st = .ok (false, st) by unfold Ty.take; rw [if_neg hi]), if_neg (show ¬ (false = true) by simp), if_neg (show ¬ ((⟨st, none⟩ : RS).f.isSome = true) by simp)]
     have key : ∀ s1, Ok af s1 → st.pos ≤ s1.pos → match Ty.bnd T (fun n_1 => Ty.list af [41] (fun _ => T) n (l ++ [n_1])) s1 with
         | .ok (l', st') => args af g n (l ++ [(g ⟨s1, none⟩).1]) (g ⟨s1, none⟩).2 = (l', ⟨st', none⟩) ∧ Ok af st'
         | .error f => ∃ l' st', args af g n (l ++ [(g ⟨s1, none⟩).1]) (g ⟨s1, none⟩).2 = (l', ⟨st', some f⟩) ∧ Off af c st' := by
       intro s1 o1 hp
       have h3 := hT s1 o1
       cases e3 : T s1 with
       | error f =>
         rw [e3] at h3
         obtain ⟨a, s3, g3, o3⟩ := h3
         rw [Ty.bnd_err e3, g3]
         dsimp only
         rw [jF]
         exact ⟨_, _, rfl, o3⟩
       | ok p =>
         obtain ⟨a, s3⟩ := p
         rw [e3] at h3
         obtain ⟨g3, o3⟩ := h3
         rw [Ty.bnd_ok e3, g3]
         have a3 := hA _ _ _ e3
         exact ih _ s3 o3 (by omega)
     by_cases hl : l.length = 0
     · rw [if_pos hl, if_neg (by omega), Ty.bnd_ok (show Ty.ret () st = .ok ((), st) from rfl)]
       exact key st h (Nat.le_refl _)
     · rw [if_neg hl, if_pos (by omega)]
       rcases fU hL [44] h with ⟨s1, e1, o1, p1, _⟩ | ⟨f, e1⟩
       · rw [Ty.bnd_ok e1, iZ e1]
         exact key s1 o1 (by omega)
       · rw [Ty.bnd_err e1, gI e1, hI, jF]
         exact ⟨_, _, rfl, h.off c⟩
theorem wI : Sim af (c + 1) (Ty.single af T) (one af g) := by
 intro st h
 have hadv := Ty.single_adv (af := af) hA
 -- a state that went well is good, if it stands within the tokens
 have fin : ∀ a st', Ty.single af T st = .ok (a, st') → st'.pos < af.length → Ok af st' := fun a st' e hp => by
   have := hadv _ _ _ e
   unfold Ok at *
   omega
 have off1 : ∀ st', Off af c st' → ∀ t, Off af (c + 1) { st' with ts := st'.ts ++ [t] } := fun st' o t => by
   unfold Off at *; simp; omega
 revert fin
 unfold Ty.single one
 by_cases hw : (cur af st.pos).kind = 2 ∧ plainKind (cur af st.pos).text > 0
 · rw [if_pos hw, if_pos ⟨hw.1, hw.2, rfl⟩]
   intro fin
   have hlt := dI hL h.1 (by omega : (cur af st.pos).kind ≠ 6)
   exact ⟨rfl, fin _ _ rfl hlt⟩
 · rw [if_neg hw, if_neg (fun k => hw ⟨k.1, k.2.1⟩), iW, iW]
   by_cases h1 : is af [91] st.pos = true
   · have h2 : is af [123] st.pos = false := by
       unfold is at h1 ⊢
       simp at h1 ⊢
       intro _ e; rw [h1.2] at e; cases e
     rw [if_pos h1, Ty.bnd_ok (show Ty.take af [123] st = .ok (false, st) by unfold Ty.take; rw [if_neg (by rw [h2]; simp)]), if_neg (by simp),
       Ty.bnd_ok (show Ty.take af [91] st = .ok (true, { st with pos := st.pos + 1 }) by unfold Ty.take; rw [if_pos h1]), if_pos rfl]
     intro fin
     have o1 := h.next hL h1
     have h3 := hT _ o1
     cases e3 : T { st with pos := st.pos + 1 } with
     | error f =>
       rw [e3] at h3
       obtain ⟨a, s3, g3, o3⟩ := h3
       rw [Ty.bnd_err e3]
       show ∃ a st', addT ⟨8, [], [], (g ⟨{ st with pos := st.pos + 1 }, none⟩).1⟩ (must af [93] (g ⟨{ st with pos := st.pos + 1 }, none⟩).2) = _ ∧ _
       rw [g3, gm]
       exact ⟨_, _, rfl, off1 _ o3 _⟩
     | ok p =>
       obtain ⟨a, s3⟩ := p
       rw [e3] at h3
       obtain ⟨g3, o3⟩ := h3
       rw [Ty.bnd_ok e3] at fin ⊢
       rcases fU hL [93] o3 with ⟨s4, e4, o4, p4, _⟩ | ⟨f, e4⟩
       · rw [Ty.bnd_ok e4] at fin ⊢
         refine ⟨?_, fin _ _ rfl o4.1⟩
         show addT ⟨8, [], [], (g ⟨{ st with pos := st.pos + 1 }, none⟩).1⟩ (must af [93] (g ⟨{ st with pos := st.pos + 1 }, none⟩).2) = _
         rw [g3, iZ e4]
         rfl
       · rw [Ty.bnd_err e4]
         show ∃ a st', addT ⟨8, [], [], (g ⟨{ st with pos := st.pos + 1 }, none⟩).1⟩ (must af [93] (g ⟨{ st with pos := st.pos + 1 }, none⟩).2) = _ ∧ _
         rw [g3, gI e4]
         exact ⟨_, _, rfl, off1 _ (o3.off c) _⟩
   · rw [if_neg h1]
     by_cases h2 : is af [123] st.pos = true
     · rw [if_pos h2, Ty.bnd_ok (show Ty.take af [123] st = .ok (true, { st with pos := st.pos + 1 }) by unfold Ty.take; rw [if_pos h2]), if_pos rfl]
       intro fin
       have o1 := h.next hL h2
       have h3 := rX hL hT hA hI (af.length + 1) [] _ o1 (by omega)
       unfold Ty.object at fin ⊢
       cases e3 : Ty.fields af T (af.length + 1) [] { st with pos := st.pos + 1 } with
       | error f =>
         rw [e3] at h3
         obtain ⟨a, s3, g3, o3⟩ := h3
         rw [Ty.bnd_err e3]
         show ∃ a st', addT ⟨7, (fields af g (af.length + 1) [] ⟨{ st with pos := st.pos + 1 }, none⟩).1, [], 0⟩ (fields af g (af.length + 1) [] ⟨{ st with pos := st.pos + 1 }, none⟩).2 = _ ∧ _
         rw [g3]
         exact ⟨_, _, rfl, off1 _ o3 _⟩
       | ok p =>
         obtain ⟨a, s3⟩ := p
         rw [e3] at h3
         obtain ⟨g3, o3⟩ := h3
         rw [Ty.bnd_ok e3] at fin ⊢
         refine ⟨?_, fin _ _ rfl o3.1⟩
         show addT ⟨7, (fields af g (af.length + 1) [] ⟨{ st with pos := st.pos + 1 }, none⟩).1, [], 0⟩ (fields af g (af.length + 1) [] ⟨{ st with pos := st.pos + 1 }, none⟩).2 = _
         rw [g3]
         rfl
     · rw [if_neg h2, Ty.bnd_ok (show Ty.take af [123] st = .ok (false, st) by unfold Ty.take; rw [if_neg h2]), if_neg (show ¬ (false = true) by simp),
         Ty.bnd_ok (show Ty.take af [91] st = .ok (false, st) by unfold Ty.take; rw [if_neg h1]), if_neg (show ¬ (false = true) by simp)]
       intro fin
       have badround : ∀ l st' f, Off af c st' → ∃ a st'', round af g l ⟨st', some f⟩ = (a, ⟨st'', some f⟩) ∧ Off af (c + 1) st'' := by
         intro l st' f o
         unfold round
         rw [show peek af [61, 62] ⟨st', some f⟩ = false from by simp [peek], if_neg (show ¬ (false = true) by simp)]
         split
         · exact ⟨_, _, rfl, o.mono (by omega)⟩
         · exact ⟨_, _, rfl, o.mono (by omega)⟩
       rcases fU hL [40] h with ⟨s1, e1, o1, p1, _⟩ | ⟨f, e1⟩
       · rw [Ty.bnd_ok e1] at fin ⊢
         rw [iZ e1]
         unfold Ty.round at fin ⊢
         have h3 := yM hL hT hA hI (af.length + 1) [] s1 o1 (by omega)
         cases e3 : Ty.list af [41] (fun _ => T) (af.length + 1) [] s1 with
         | error f =>
           rw [e3] at h3
           obtain ⟨a, s3, g3, o3⟩ := h3
           rw [Ty.bnd_err e3, g3]
           exact badround _ _ _ o3
         | ok p =>
           obtain ⟨l, s3⟩ := p
           rw [e3] at h3
           obtain ⟨g3, o3⟩ := h3
           rw [Ty.bnd_ok e3] at fin ⊢
           rw [g3]
           dsimp only
           unfold round
           rw [iW]
           by_cases h5 : is af [61, 62] s3.pos = true
           · rw [Ty.bnd_ok (show Ty.take af [61, 62] s3 = .ok (true, { s3 with pos := s3.pos + 1 }) by unfold Ty.take; rw [if_pos h5]), if_pos rfl] at fin ⊢
             rw [if_pos h5]
             have o5 := o3.next hL h5
             have h6 := hT _ o5
             cases e6 : T { s3 with pos := s3.pos + 1 } with
             | error f =>
               rw [e6] at h6
               obtain ⟨a, s6, g6, o6⟩ := h6
               rw [Ty.bnd_err e6]
               show ∃ a st', addT ⟨9, [], l, (g ⟨{ s3 with pos := s3.pos + 1 }, none⟩).1⟩ (g ⟨{ s3 with pos := s3.pos + 1 }, none⟩).2 = _ ∧ _
               rw [g6]
               exact ⟨_, _, rfl, off1 _ o6 _⟩
             | ok p =>
               obtain ⟨a, s6⟩ := p
               rw [e6] at h6
               obtain ⟨g6, o6⟩ := h6
               rw [Ty.bnd_ok e6] at fin ⊢
               refine ⟨?_, fin _ _ rfl o6.1⟩
               show addT ⟨9, [], l, (g ⟨{ s3 with pos := s3.pos + 1 }, none⟩).1⟩ (g ⟨{ s3 with pos := s3.pos + 1 }, none⟩).2 = _
               rw [g6]
               rfl
           · rw [Ty.bnd_ok (show Ty.take af [61, 62] s3 = .ok (false, s3) by unfold Ty.take; rw [if_neg h5]), if_neg (show ¬ (false = true) by simp)] at fin ⊢
             rw [if_neg h5]
             by_cases hl : l.length = 1
             · rw [if_pos hl] at fin ⊢
               rw [if_neg (by omega)]
               exact ⟨rfl, o3⟩
             · rw [if_neg hl, if_pos hl]
               exact ⟨_, _, rfl, o3.off _⟩
       · rw [Ty.bnd_err e1, gI e1, jF]
         exact badround _ _ _ (h.off c)
omit hI in
theorem Au : ∀ n l st, Ok af st → 1 ≤ l.length → af.length < st.pos + n → match Ty.bars af T n l st with
   | .ok (l', st') => bars af g n l ⟨st, none⟩ = (l', ⟨st', none⟩) ∧ Ok af st' ∧ 1 ≤ l'.length
   | .error f => ∃ l' st', bars af g n l ⟨st, none⟩ = (l', ⟨st', some f⟩) ∧ Off af c st' ∧ 1 ≤ l'.length := by
 intro n
 induction n with
 | zero => intro l st h _ hf; have := h.1; omega
 | succ n ih =>
   intro l st h hl hf
   rw [Ty.bars, bars, iW]
   by_cases hi : is af [124] st.pos = true
   · rw [if_pos hi, Ty.bnd_ok (show Ty.take af [124] st = .ok (true, { st with pos := st.pos + 1 }) by unfold Ty.take; rw [if_pos hi]), if_pos rfl]
     have o1 := h.next hL hi
     have h3 := hT _ o1
     cases e3 : T { st with pos := st.pos + 1 } with
     | error f =>
       rw [e3] at h3
       obtain ⟨a, s3, g3, o3⟩ := h3
       rw [Ty.bnd_err e3]
       show ∃ l' st', bars af g n (l ++ [(g ⟨{ st with pos := st.pos + 1 }, none⟩).1]) (g ⟨{ st with pos := st.pos + 1 }, none⟩).2 = _ ∧ _
       rw [g3, qB]
       exact ⟨_, _, rfl, o3, by simp⟩
     | ok p =>
       obtain ⟨a, s3⟩ := p
       rw [e3] at h3
       obtain ⟨g3, o3⟩ := h3
       rw [Ty.bnd_ok e3]
       have a3 := hA _ _ _ e3
       have := ih (l ++ [a]) s3 o3 (by simp) (by dsimp only at a3; omega)
       show match Ty.bars af T n (l ++ [a]) s3 with
         | .ok (l', st') => bars af g n (l ++ [(g ⟨{ st with pos := st.pos + 1 }, none⟩).1]) (g ⟨{ st with pos := st.pos + 1 }, none⟩).2 = (l', ⟨st', none⟩) ∧ Ok af st' ∧ 1 ≤ l'.length
         | .error f => ∃ l' st', bars af g n (l ++ [(g ⟨{ st with pos := st.pos + 1 }, none⟩).1]) (g ⟨{ st with pos := st.pos + 1 }, none⟩).2 = (l', ⟨st', some f⟩) ∧ Off af c st' ∧ 1 ≤ l'.length
       rw [g3]
       exact this
   · rw [if_neg hi, Ty.bnd_ok (show Ty.take af [124] st = .ok (false, st) by unfold Ty.take; rw [if_neg hi]), if_neg (show ¬ (false = true) by simp)]
     exact ⟨rfl, h, hl⟩
end
theorem jc (af : List Tk) : ∀ r, Idle (read af r) := by
 intro r st x
 cases r <;> simp [read, wrong]
theorem mf {af : List Tk} (hL : ∀ t, af.getLast? = some t → t.kind = 6) : ∀ r, Sim af r (Ty.typ af r) (read af r) := by
 intro r
 induction r with
 | zero =>
   intro st h
   exact ⟨0, st, rfl, h.off 0⟩
 | succ r ih =>
   intro st h
   have hadv := Ty.typ_adv af (r + 1)
   have hone := wI hL ih (Ty.typ_adv af r) (jc af r)
   have hA1 := Ty.single_adv (af := af) (Ty.typ_adv af r)
   have fin : ∀ a st', Ty.typ af (r + 1) st = .ok (a, st') → st'.pos < af.length → Ok af st' := fun a st' e hp => by
     have := hadv _ _ _ e
     unfold Ok at *
     omega
   revert fin
   rw [Ty.typ, Ty.union, read, if_neg (show ¬ ((⟨st, none⟩ : RS).f.isSome = true) by simp)]
   have h1 := hone st h
   cases e1 : Ty.single af (Ty.typ af r) st with
   | error f =>
     rw [e1] at h1
     obtain ⟨a, s1, g1, o1⟩ := h1
     rw [Ty.bnd_err e1, g1]
     dsimp only
     rw [qB]
     intro _
     unfold rU
     rw [if_neg (by simp)]
     exact ⟨_, _, rfl, o1⟩
   | ok p =>
     obtain ⟨a, s1⟩ := p
     rw [e1] at h1
     obtain ⟨g1, o1⟩ := h1
     rw [Ty.bnd_ok e1, g1]
     dsimp only
     have h2 := Au hL hone hA1 (af.length + 1) [a] s1 o1 (by simp) (by omega)
     cases e2 : Ty.bars af (Ty.single af (Ty.typ af r)) (af.length + 1) [a] s1 with
     | error f =>
       rw [e2] at h2
       obtain ⟨l, s2, g2, o2, hl⟩ := h2
       rw [Ty.bnd_err e2, g2]
       intro _
       unfold rU
       rw [if_neg (by simp)]
       exact ⟨_, _, rfl, o2⟩
     | ok p =>
       obtain ⟨l, s2⟩ := p
       rw [e2] at h2
       obtain ⟨g2, o2, hl⟩ := h2
       rw [Ty.bnd_ok e2, g2]
       dsimp only
       intro fin
       unfold rU
       by_cases hl1 : l.length = 1
       · rw [if_pos hl1, if_neg (by omega)]
         exact ⟨rfl, o2⟩
       · rw [if_neg hl1] at fin ⊢
         rw [if_pos ⟨by omega, rfl⟩]
         exact ⟨rfl, fin _ _ rfl o2.1⟩
end Rd
end
section
namespace Rd
open Tok (Tk)
open Ty (Ft St Nd cur here is plainKind M)
structure In (af : List Tk) (k j : Nat) (s : RS) : Prop where
 pos : s.st.pos < af.length
 good : s.f = none → s.st.ts.length + j ≤ s.st.pos ∧ s.st.ns.length + j ≤ s.st.pos + 1
 ts : s.st.ts.length ≤ af.length + k
 ns : s.st.ns.length ≤ af.length + 1 + k
theorem In.mono {af : List Tk} {k j k' j' : Nat} {s : RS} (h : In af k j s) (hk : k ≤ k' := by omega) (hj : j' ≤ j := by omega) : In af k' j' s :=
 ⟨h.pos, fun e => by have := h.good e; omega, by have := h.ts; omega, by have := h.ns; omega⟩
theorem In.next {af : List Tk} {k j : Nat} {s : RS} (h : In af k j s) (hp : s.st.pos + 1 < af.length) : In af k (j + 1) (next s) :=
 ⟨hp, fun e => by have := h.good e; simp only [Rd.next]; omega, h.ts, h.ns⟩
theorem In.wrong {af : List Tk} {k j : Nat} {s : RS} (h : In af k j s) (e j' : Nat) : In af k j' (wrong af e s) := by
 obtain ⟨st, f⟩ := s
 cases f with
 | none => exact ⟨h.pos, fun e => (by cases e), h.ts, h.ns⟩
 | some x => exact ⟨h.pos, fun e => (by cases e), h.ts, h.ns⟩
theorem In.must {af : List Tk} (hL : ∀ t, af.getLast? = some t → t.kind = 6) {k j : Nat} {s : RS} (h : In af k j s) (x : List UInt8) : In af k (j + 1) (must af x s) := by
 unfold Rd.must
 split
 · rename_i hi
   exact h.next (is_lt hL h.pos (by unfold peek at hi; simp at hi; exact hi.2))
 · exact h.wrong _ _
theorem In.ident {af : List Tk} (hL : ∀ t, af.getLast? = some t → t.kind = 6) {k j : Nat} {s : RS} (h : In af k j s) (met : List ByteArray) : In af k (j + 1) (ident af met s).2 := by
 unfold Rd.ident
 split
 · exact h.wrong _ _
 · rename_i h1
   split
   · exact h.wrong _ _
   · exact h.next (dI hL h.pos (by omega))
theorem In.addT {af : List Tk} {k j : Nat} {s : RS} (h : In af k (j + 1) s) (t : Ty.Ty) : In af (k + 1) j (addT t s).2 :=
 ⟨h.pos, fun e => by have := h.good e; simp [Rd.addT]; omega, by have := h.ts; simp [Rd.addT]; omega, by have := h.ns; simp [Rd.addT]; omega⟩
theorem In.read {af : List Tk} {k j c : Nat} {s : RS} (h : In af k j s) {T : M Nat} {g : RS → Nat × RS} (hT : Sim af c T g) (hA : Ty.Adv 1 0 0 T) (hI : Idle g) : In af (max k c) j (g s).2 := by
 obtain ⟨st, f⟩ := s
 cases f with
 | some x => rw [hI]; exact h.mono
 | none =>
   have hg := h.good rfl
   have ho : Ok af st := ⟨h.pos, by dsimp only at hg; omega, by dsimp only at hg; omega⟩
   have h1 := hT st ho
   cases e : T st with
   | error f =>
     rw [e] at h1
     obtain ⟨a, s1, g1, o1⟩ := h1
     rw [g1]
     exact ⟨o1.1, fun e => (by cases e), by have := o1.2.1; show s1.ts.length ≤ _; omega, by have := o1.2.2; show s1.ns.length ≤ _; omega⟩
   | ok p =>
     obtain ⟨a, s1⟩ := p
     rw [e] at h1
     obtain ⟨g1, o1⟩ := h1
     rw [g1]
     have a1 := hA _ _ _ e
     dsimp only at hg
     exact ⟨o1.1, fun _ => by dsimp only; omega, by have := o1.1; have := o1.2.1; dsimp only; omega, by have := o1.1; have := o1.2.2; dsimp only; omega⟩
theorem In.ok {af : List Tk} {k j : Nat} {st : St} (h : In af k j ⟨st, none⟩) : Ok af st := ⟨h.pos, by have := h.good rfl; dsimp only at this; omega, by have := h.good rfl; dsimp only at this; omega⟩
theorem In.sim {α : Type} {af : List Tk} {k j c : Nat} {s : RS} (h : In af k j s) (hs : s.f = none) {T : M α} {g : RS → α × RS} (hT : Sim af c T g) {d e : Int} (hA : Ty.Adv 0 d e T) (hd : 0 ≤ d := by omega) (he : 0 ≤ e := by omega) : In af (max k c) j (g s).2 := by
 obtain ⟨st, f⟩ := s
 cases hs
 have hg := h.good rfl
 have h1 := hT st h.ok
 cases e : T st with
 | error f =>
   rw [e] at h1
   obtain ⟨a, s1, g1, o1⟩ := h1
   rw [g1]
   exact ⟨o1.1, fun e => (by cases e), by have := o1.2.1; show s1.ts.length ≤ _; omega, by have := o1.2.2; show s1.ns.length ≤ _; omega⟩
 | ok p =>
   obtain ⟨a, s1⟩ := p
   rw [e] at h1
   obtain ⟨g1, o1⟩ := h1
   rw [g1]
   have a1 := hA _ _ _ e
   dsimp only at hg
   exact ⟨o1.1, fun _ => by dsimp only; omega, by have := o1.1; have := o1.2.1; dsimp only; omega, by have := o1.1; have := o1.2.2; dsimp only; omega⟩
theorem dH {af : List Tk} {x : List UInt8} {s : RS} (h : (must af x s).f = none) : s.f = none ∧ (must af x s).st.pos = s.st.pos + 1 := by
 obtain ⟨st, f⟩ := s
 cases f with
 | some y => rw [gm] at h; cases h
 | none =>
   refine ⟨rfl, ?_⟩
   unfold Rd.must at h ⊢
   split
   · rfl
   · rename_i hi; rw [if_neg hi] at h; cases h
theorem dA {af : List Tk} {met : List ByteArray} {s : RS} (h : (ident af met s).2.f = none) : s.f = none ∧ (ident af met s).2.st.pos = s.st.pos + 1 := by
 obtain ⟨st, f⟩ := s
 unfold Rd.ident at h ⊢
 split
 · rename_i h1; rw [if_pos h1] at h; cases f <;> cases h
 · rename_i h1
   rw [if_neg h1] at h
   split
   · rename_i h2; rw [if_pos h2] at h; cases f <;> cases h
   · rename_i h2; rw [if_neg h2] at h; exact ⟨h, rfl⟩
theorem jU {af : List Tk} {k j c : Nat} {s : RS} (h : In af k j s) {T : M Nat} {g : RS → Nat × RS} (hT : Sim af c T g) (hA : Ty.Adv 1 0 0 T) (hI : Idle g) (hg : (g s).2.f = none) : s.f = none ∧ s.st.pos < (g s).2.st.pos := by
 obtain ⟨st, f⟩ := s
 cases f with
 | some x => rw [hI] at hg; cases hg
 | none =>
   refine ⟨rfl, ?_⟩
   have h1 := hT st h.ok
   cases e : T st with
   | error f =>
     rw [e] at h1
     obtain ⟨a, s1, g1, o1⟩ := h1
     rw [g1] at hg; cases hg
   | ok p =>
     obtain ⟨a, s1⟩ := p
     rw [e] at h1
     rw [h1.1]
     have := hA _ _ _ e
     show st.pos < s1.pos
     omega
end Rd
end
section
open Go Go.RowKit
open Prt (Sat As blk pur exs star ah)
def jq (f : Option Ty.Ft) : Ty.Ft := f.getD (0, 0)
def BD (pb d : Nat) (af : List Tok.Tk) (s : Rd.RS) (p : Value × Value × Value × Int) : List As :=
 [pur (gJ af ∧ s.st.pos < af.length ∧ d ≤ 21 ∧ ∀ x, s.f = some x → x.1 ≠ 0),
  blk pb (.cells #[p.1, .int .i64 s.st.pos, .int .i64 d, p.2.1, p.2.2.1, .int .i64 p.2.2.2, .int .i64 (jq s.f).1, .int .i64 (jq s.f).2] 152 (0, 0)), tkA p.1 af, ndA p.2.1 s.st.ns, tyA p.2.2.1 s.st.ts]
def rdA (pb d : Nat) (af : List Tok.Tk) (s : Rd.RS) : As := exs fun p : Value × Value × Value × Int => ah (BD pb d af s p)
structure RRd (w : World) (pb d : Nat) (af : List Tok.Tk) (s : Rd.RS) : Prop where
 holds : ∃ (lv nv tv : Value) (main : Int), w.heap[pb]? = some (.cells #[lv, .int .i64 s.st.pos, .int .i64 d, nv, tv, .int .i64 main, .int .i64 (jq s.f).1, .int .i64 (jq s.f).2] 152 (0, 0)) ∧ dG w 0 lv af
 wf : gJ af
 fits : s.st.pos < af.length ∧ d ≤ 21 ∧ ∀ x, s.f = some x → x.1 ≠ 0
section
variable {w0 w : World} {L : List As} {Fr : As} {pb d : Nat} {af : List Tok.Tk} {s : Rd.RS}
theorem Prt.Sat.jm (h : Sat w0 w [Fr, rdA pb d af s]) : ∃ p, Sat w0 w (Fr :: BD pb d af s p) := by
 obtain ⟨p, h⟩ := h.ex (i := 1) rfl
 exact ⟨p, h.unpack (i := 1) rfl⟩
theorem Prt.Sat.shutRd {p : Value × Value × Value × Int} (h : Sat w0 w (Fr :: BD pb d af s p)) : Sat w0 w [Fr, rdA pb d af s] :=
 (Prt.Sat.pack (L := [Fr]) h).ent (i := 1) rfl fun _ h => ⟨p, h⟩
theorem Prt.Sat.az (h : Sat w0 w [Fr, rdA pb d af s]) : RRd w pb d af s := by
 obtain ⟨⟨lv, nv, tv, main⟩, h⟩ := h.jm
 have hp := h.pure 1 rfl
 exact ⟨⟨lv, nv, tv, main, h.heap 2 rfl, h.row 3 rfl⟩, hp.1, hp.2⟩
theorem Prt.Sat.kL (h : Sat w0 w [Fr, rdA pb d af s]) (hp : s.st.pos + 1 < af.length) : Sat w0 (w.setCell ⟨pb, 1, none⟩ (.int .i64 (s.st.pos + 1 : Nat))) [Fr, rdA pb d af (Rd.next s)] := by
 obtain ⟨x, h⟩ := h.jm
 have hq := h.pure 1 rfl
 exact Prt.Sat.shutRd (p := x) (((h.store 2 rfl 1 (.int .i64 (s.st.pos + 1 : Nat))).ent (i := 1) rfl (Q := pur _) fun _ _ => ⟨hq.1, hp, hq.2.2.1, hq.2.2.2⟩))
theorem Prt.Sat.kV (h : Sat w0 w [Fr, rdA pb d af s]) (d' : Nat) (hd : d' ≤ 21) : Sat w0 (w.setCell ⟨pb, 2, none⟩ (.int .i64 d')) [Fr, rdA pb d' af s] := by
 obtain ⟨x, h⟩ := h.jm
 have hq := h.pure 1 rfl
 exact Prt.Sat.shutRd (p := x) (((h.store 2 rfl 2 (.int .i64 d')).ent (i := 1) rfl (Q := pur _) fun _ _ => ⟨hq.1, hq.2.1, hd, hq.2.2.2⟩))
theorem Prt.Sat.xe {st : Ty.St} (h : Sat w0 w [Fr, rdA pb d af ⟨st, none⟩]) (f : Ty.Ft) (hf : f.1 ≠ 0) : Sat w0 ((w.setCell ⟨pb, 6, none⟩ (.int .i64 f.1)).setCell ⟨pb, 7, none⟩ (.int .i64 f.2)) [Fr, rdA pb d af ⟨st, some f⟩] := by
 obtain ⟨x, h⟩ := h.jm
 have hq := h.pure 1 rfl
 exact Prt.Sat.shutRd (p := x) ((((h.store 2 rfl 6 (.int .i64 f.1)).store 2 rfl 7 (.int .i64 f.2)).ent (i := 1) rfl (Q := pur _) fun _ _ => ⟨hq.1, hq.2.1, hq.2.2.1, fun y hy => by cases hy; exact hf⟩))
end
theorem RRd.below {w w' : World} {pb d : Nat} {af : List Tok.Tk} {s : Rd.RS} (h : RRd w pb d af s) (hb : Below w.heap.size w w') : RRd w' pb d af s := by
 obtain ⟨⟨lv, nv, tv, main, h1, h2⟩, h3, h4⟩ := h
 exact ⟨⟨lv, nv, tv, main, by rw [hb.block _ (Array.getElem?_eq_some_iff.1 h1).1]; exact h1, aH h2 hb⟩, h3, h4⟩
theorem RRd.lt {w : World} {pb d : Nat} {af : List Tok.Tk} {s : Rd.RS} (h : RRd w pb d af s) : pb < w.heap.size := by
 obtain ⟨⟨lv, nv, tv, main, h1, _⟩, _⟩ := h
 exact (Array.getElem?_eq_some_iff.1 h1).1
theorem RRd.cells {w : World} {pb d : Nat} {af : List Tok.Tk} {s : Rd.RS} (h : RRd w pb d af s) :
   (∀ o, w.frozen? ⟨pb, o, none⟩ = false) ∧ w.cell? ⟨pb, 1, none⟩ = some (.int .i64 s.st.pos) ∧ w.cell? ⟨pb, 2, none⟩ = some (.int .i64 d) ∧ w.cell? ⟨pb, 6, none⟩ = some (.int .i64 (jq s.f).1) ∧ w.cell? ⟨pb, 7, none⟩ = some (.int .i64 (jq s.f).2) ∧
   ∃ g cap : Nat, w.cell? ⟨pb, 0, none⟩ = some (.slice (some ⟨g, 0, none⟩) af.length cap) ∧ g < w.heap.size ∧ w.cell? ⟨g, s.st.pos * 3, none⟩ = some (.int .i64 (Ty.cur af s.st.pos).kind) ∧ w.cell? ⟨g, s.st.pos * 3 + 1, none⟩ = some (.string (Ty.cur af s.st.pos).text) ∧ w.cell? ⟨g, s.st.pos * 3 + 2, none⟩ = some (.int .i64 (Ty.cur af s.st.pos).pos) := by
 obtain ⟨⟨lv, nv, tv, main, h1, h2⟩, h3, h4⟩ := h
 have hne : af ≠ [] := by rintro rfl; have := h4.1; simp at this
 obtain ⟨g, cap, rfl, _, hg, _, _, hc⟩ := h2.at hne
 obtain ⟨t0, t1, t2⟩ := hc s.st.pos h4.1
 rw [lq af _ h4.1]
 refine ⟨fun o => aN h1 o, by rw [cell_of_block h1]; rfl, by rw [cell_of_block h1]; rfl, by rw [cell_of_block h1]; rfl, by rw [cell_of_block h1]; rfl, g, cap, by rw [cell_of_block h1]; rfl, hg, t0, t1, t2⟩
theorem uJ {s : Rd.RS} (h : ∀ x, s.f = some x → x.1 ≠ 0) : (((jq s.f).1 : Int) != 0) = s.f.isSome := by
 cases e : s.f with
 | none => rfl
 | some x => have := h x e; simp [jq]; omega
theorem bC (w : World) (pb d : Nat) (af : List Tok.Tk) (s : Rd.RS) (h : RRd w pb d af s) {R : Ending → World → Prop} (hR : R (.returned (.bool s.f.isSome)) w) :
   Calls Tryz.prog 86 #[.pointer (some ⟨pb, 0, none⟩)] w R := by
 have HR := qh hR
 have hb := uJ h.fits.2.2
 obtain ⟨_, _, _, c6, _⟩ := h.cells
 have HB := qh hb
 clear hR hb h
 go_enter Tryz.func86, Tryz.ntmps86
 go_wp2_with fail
 exact dh HR.out (congrArg Value.bool HB.out)
theorem eY {w0 w : World} {Fr : As} {pb d : Nat} {af : List Tok.Tk} {s : Rd.RS} (H : Sat w0 w [Fr, rdA pb d af s]) (e : Nat) (he : e ≠ 0) {R : Ending → World → Prop}
   (hR : ∀ w', Sat w0 w' [Fr, rdA pb d af (Rd.wrong af e s)] → R (.returned (.tuple #[])) w') :
   Calls Tryz.prog 227 #[.pointer (some ⟨pb, 0, none⟩), .int .i64 e] w R := by
 have HR := qh hR
 have HS := qh H
 have hlk := H.az
 have hpos := hlk.fits.1
 have hlen := hlk.wf.1
 obtain ⟨f0, c1, _, c6, c7, g, cap, c0, hg, t0, t1, t2⟩ := hlk.cells
 have HLK := qh hlk
 have HE := qh he
 obtain ⟨st, f⟩ := s
 cases f with
 | none =>
   have hw : Hid (Rd.wrong af e ⟨st, none⟩ = ⟨st, some (e, (Ty.cur af st.pos).pos)⟩) := rfl
   dsimp only at c1 t0 t1 t2 hpos
   generalize Ty.cur af st.pos = t at *
   clear hR H hlk he
   go_enter Tryz.func227, Tryz.ntmps227
   go_wp2_with fail
   refine bC _ pb d af ⟨st, none⟩ HLK.out ?_
   dsimp only [Option.isSome]
   go_wp2_with fail
   go_region
   all_goals
     go_wp2_with fail
     go_end0
     refine HR.out _ ?_
     rw [hw.out]
     exact (HS.out.xe (e, t.pos) HE.out).drew
 | some x =>
   clear hR H hlk he c0 c1 c6 c7 t0 t1 t2
   go_enter Tryz.func227, Tryz.ntmps227
   go_wp2_with fail
   refine bC _ pb d af ⟨st, some x⟩ HLK.out ?_
   dsimp only [Option.isSome]
   go_wp2_with fail
   go_end0
   exact HR.out _ HS.out
theorem fE (w : World) (pb d : Nat) (af : List Tok.Tk) (s : Rd.RS) (h : RRd w pb d af s) (x : ByteArray) {R : Ending → World → Prop} (hR : ∀ w', Below w.heap.size w w' → R (.returned (.bool (Rd.peek af x.data.toList s))) w') :
   Calls Tryz.prog 234 #[.pointer (some ⟨pb, 0, none⟩), .string x] w R := by
 have HR := qh hR
 have hpos := h.fits.1
 have hlen := h.wf.1
 obtain ⟨f0, c1, _, c6, c7, g, cap, c0, hg, t0, t1, t2⟩ := h.cells
 have hlt := h.lt
 have HLK := qh h
 obtain ⟨st, f⟩ := s
 dsimp only at c1 t0 t1 t2 hpos
 unfold Rd.peek Ty.is at HR
 dsimp only at HR
 generalize Ty.cur af st.pos = t at *
 obtain ⟨kd, tx, ps⟩ := t
 dsimp only at t0 t1 t2 HR
 have HE := qh (show (tx.toList == x.toList) = decide (tx.data.toList = x.data.toList) by rw [ByteArray.toList_eq, ByteArray.toList_eq, Bool.eq_iff_iff]; simp)
 have hk : kd = 5 ∨ kd ≠ 5 ∧ kd = 2 ∨ kd ≠ 5 ∧ kd ≠ 2 := by omega
 clear hR h
 cases f with
 | some y =>
   clear hk
   go_enter Tryz.func234, Tryz.ntmps234
   go_wp2_with fail
   go_region
   go_wp2_with fail
   refine bC _ pb d af ⟨st, some y⟩ (HLK.out.below ((((Below.refl _ _).alloc (Nat.le_refl _) _)).drew)) ?_
   dsimp only [Option.isSome]
   go_wp2_with fail
   exact HR.out _ (((Below.refl _ _).alloc (Nat.le_refl _) _).drew)
 | none =>
   rcases hk with hk | ⟨hk, hk2⟩ | ⟨hk, hk2⟩
   · subst hk
     go_enter Tryz.func234, Tryz.ntmps234
     go_wp2_with fail
     go_region
     go_wp2_with fail
     refine bC _ pb d af ⟨st, none⟩ (HLK.out.below ((((Below.refl _ _).alloc (Nat.le_refl _) _)).drew)) ?_
     dsimp only [Option.isSome]
     go_wp2_with fail
     refine dh (HR.out _ (((Below.refl _ _).alloc (Nat.le_refl _) _).drew)) (congrArg Value.bool ?_)
     rw [HE.out]; simp
   · subst hk2
     clear hk
     go_enter Tryz.func234, Tryz.ntmps234
     go_wp2_with fail
     go_region
     go_wp2_with fail
     refine bC _ pb d af ⟨st, none⟩ (HLK.out.below ((((Below.refl _ _).alloc (Nat.le_refl _) _)).drew)) ?_
     dsimp only [Option.isSome]
     go_wp2_with fail
     refine dh (HR.out _ (((Below.refl _ _).alloc (Nat.le_refl _) _).drew)) (congrArg Value.bool ?_)
     rw [HE.out]; simp
   · have k1 : ((kd : Int) == 5) = false := by simp; omega
     have k2 : ((kd : Int) == 2) = false := by simp; omega
     have HK := qh (And.intro hk hk2)
     clear hk hk2
     go_enter Tryz.func234, Tryz.ntmps234
     go_wp2_with fail
     go_region
     go_wp2_with fail
     refine bC _ pb d af ⟨st, none⟩ (HLK.out.below ((((Below.refl _ _).alloc (Nat.le_refl _) _)).drew)) ?_
     dsimp only [Option.isSome]
     go_wp2_with fail
     refine dh (HR.out _ (((Below.refl _ _).alloc (Nat.le_refl _) _).drew)) (congrArg Value.bool ?_)
     simp [HK.out.1, HK.out.2]
section
variable {w0 w : World} {Fr : As} {pb d : Nat} {af : List Tok.Tk} {s : Rd.RS}
theorem aW (H : Sat w0 w [Fr, rdA pb d af s]) (x : ByteArray) {R : Ending → World → Prop}
   (hyes : ∀ w', Rd.peek af x.data.toList s = true → Sat w0 w' [Fr, rdA pb d af (Rd.next s)] → R (.returned (.bool true)) w')
   (hno : ∀ w', Rd.peek af x.data.toList s = false → Sat w0 w' [Fr, rdA pb d af s] → R (.returned (.bool false)) w') :
   Calls Tryz.prog 228 #[.pointer (some ⟨pb, 0, none⟩), .string x] w R := by
 have HY := qh hyes
 have HNO := qh hno
 have HS := qh H
 have hl := H.az
 have HL := qh hl
 clear hyes hno H
 cases hi : Rd.peek af x.data.toList s
 · have HI := qh hi
   clear hi hl
   go_enter Tryz.func228, Tryz.ntmps228
   go_wp2_with fail
   refine fE w pb d af s HL.out x (fun w1 hb1 => ?_)
   rw [HI.out]
   have HB := qh hb1
   clear hb1
   go_wp2_with fail
   exact HNO.out _ HI.out (HS.out.below HB.out)
 · have hlt := Rd.is_lt hl.wf.2 hl.fits.1 (show Ty.is af x.data.toList s.st.pos = true by unfold Rd.peek at hi; simp at hi; exact hi.2)
   have h5 := hl.wf.1
   have HI := qh hi
   clear hi hl
   go_enter Tryz.func228, Tryz.ntmps228
   go_wp2_with fail
   refine fE w pb d af s HL.out x (fun w1 hb1 => ?_)
   rw [HI.out]
   obtain ⟨f0, c1, _⟩ := (HL.out.below hb1).cells
   have HB := qh hb1
   clear hb1
   go_wp2_with fail
   exact HY.out _ HI.out ((HS.out.below HB.out).kL hlt)
theorem aS (H : Sat w0 w [Fr, rdA pb d af s]) (x : ByteArray) {R : Ending → World → Prop}
   (hR : ∀ w', Sat w0 w' [Fr, rdA pb d af (Rd.must af x.data.toList s)] → R (.returned (.tuple #[])) w') :
   Calls Tryz.prog 231 #[.pointer (some ⟨pb, 0, none⟩), .string x] w R := by
 have HR := qh hR
 have HS := qh H
 clear hR H
 unfold Rd.must at HR
 go_enter Tryz.func231, Tryz.ntmps231
 go_wp2_with fail
 refine aW HS.out x (fun w1 hi h1 => ?_) (fun w1 hi h1 => ?_)
 · rw [if_pos hi] at HR
   have H1 := qh h1
   clear hi h1
   go_wp2_with fail
   go_end0
   exact HR.out _ H1.out
 · rw [if_neg (by rw [hi]; simp)] at HR
   have H1 := qh h1
   clear hi h1
   go_wp2_with fail
   refine eY H1.out 1 (by omega) (fun w2 h2 => ?_)
   have H2 := qh h2
   clear h2
   go_wp2_with fail
   go_end0
   exact HR.out _ H2.out
theorem bU (H : Sat w0 w [Fr, rdA pb d af s]) (hd : d ≤ 20) {R : Ending → World → Prop}
   (hR : ∀ w', Sat w0 w' [Fr, rdA pb (d + 1) af (if d = 20 then Rd.wrong af 8 s else s)] → R (.returned (.bool (if d = 20 then Rd.wrong af 8 s else s).f.isNone)) w') :
   Calls Tryz.prog 138 #[.pointer (some ⟨pb, 0, none⟩)] w R := by
 have HR := qh hR
 have HS := qh H
 obtain ⟨f0, _, c2, _⟩ := H.az.cells
 clear hR H
 by_cases h20 : d = 20
 · rw [if_pos h20] at HR
   have k1 : ((d : Int) == 20) = true := by simp [h20]
   have H20 := qh h20
   clear h20
   go_enter Tryz.func138, Tryz.ntmps138
   go_wp2_with fail
   refine eY HS.out 8 (by omega) (fun w1 h1 => ?_)
   obtain ⟨f1, _, c21, _⟩ := h1.az.cells
   have H1 := qh h1
   clear h1
   go_wp2_with fail
   have h2 := H1.out.kV (d + 1) (by omega)
   refine bC _ pb (d + 1) af _ h2.az ?_
   have H2 := qh h2
   clear h2
   go_wp2_with fail
   refine dh (HR.out _ H2.out) (congrArg Value.bool ?_)
   cases (Rd.wrong af 8 s).f <;> rfl
 · rw [if_neg h20] at HR
   have k1 : ((d : Int) == 20) = false := by simp; omega
   clear h20
   go_enter Tryz.func138, Tryz.ntmps138
   go_wp2_with fail
   have h2 := HS.out.kV (d + 1) (by omega)
   refine bC _ pb (d + 1) af _ h2.az ?_
   have H2 := qh h2
   clear h2
   go_wp2_with fail
   refine dh (HR.out _ H2.out) (congrArg Value.bool ?_)
   cases s.f <;> rfl
theorem bg (H : Sat w0 w [Fr, rdA pb (d + 1) af s]) {R : Ending → World → Prop} (hR : ∀ w', Sat w0 w' [Fr, rdA pb d af s] → R (.returned (.tuple #[])) w') :
   Calls Tryz.prog 140 #[.pointer (some ⟨pb, 0, none⟩)] w R := by
 have HR := qh hR
 have HS := qh H
 have hd := H.az.fits.2.1
 obtain ⟨f0, _, c2, _⟩ := H.az.cells
 have e : ((d + 1 : Nat) : Int) = (d : Int) + 1 := by omega
 rw [e] at c2
 clear hR H e
 go_enter Tryz.func140, Tryz.ntmps140
 go_wp2_with fail
 go_end0
 exact HR.out _ (HS.out.kV d (by omega))
end
def aT : List ByteArray := [⟨#[110, 117, 109]⟩, ⟨#[98, 111, 111, 108]⟩, ⟨#[116, 101, 120, 116]⟩, ⟨#[110, 117, 108, 108]⟩, ⟨#[97, 110, 121]⟩, ⟨#[117, 110, 107, 110, 111, 119, 110]⟩]
def nC : Array Value := #[.string ⟨#[110, 117, 109]⟩, .string ⟨#[98, 111, 111, 108]⟩, .string ⟨#[116, 101, 120, 116]⟩, .string ⟨#[110, 117, 108, 108]⟩, .string ⟨#[97, 110, 121]⟩, .string ⟨#[117, 110, 107, 110, 111, 119, 110]⟩]
theorem xn (k : Nat) (hk : k < 6) (x : ByteArray) (h : aT[k]'(by simpa [aT] using hk) = x) : Ty.plainKind x = k + 1 := by
 have h2 := (show ∀ k : Fin 6, Ty.plainKind (aT.getD k.1 ⟨#[]⟩) = k.1 + 1 by decide) ⟨k, hk⟩
 have h3 : k < aT.length := by simpa [aT] using hk
 rw [← h, ← h2]
 simp [List.getD, List.getElem?_eq_getElem h3]
theorem uZ (x : ByteArray) (h : ∀ y ∈ aT, y ≠ x) : Ty.plainKind x = 0 := by
 have hh : ∀ l : List UInt8, (⟨⟨l⟩⟩ : ByteArray) ∈ aT → l ≠ x.data.toList := fun l hl e => h _ hl (by subst e; rfl)
 unfold Ty.plainKind Ty.plains
 simp only [List.idxOf?_cons, List.idxOf?_nil, beq_iff_eq]
 rw [if_neg (hh _ (by simp [aT])), if_neg (hh _ (by simp [aT])), if_neg (hh _ (by simp [aT])), if_neg (hh _ (by simp [aT])), if_neg (hh _ (by simp [aT])), if_neg (hh _ (by simp [aT]))]
 rfl
theorem gB (w : World) (x : ByteArray) {R : Ending → World → Prop} (hR : ∀ w', Below w.heap.size w w' → R (.returned (.int .i64 (Ty.plainKind x : Nat))) w') :
   Calls Tryz.prog 337 #[.string x] w R := by
 have HR := qh hR
 clear hR
 go_enter Tryz.func337, Tryz.ntmps337
 go_wp2_with fail
 have hc : ∀ j (hj : j < 6), (w.alloc (.cells nC 9)).cell? ⟨w.heap.size, j, none⟩ = some (.string (aT[j]'(by simpa [aT] using hj))) := fun j hj => by
   rw [cell_of_block (heap_alloc_new w _)]
   match j, hj with
   | 0, _ => rfl
   | 1, _ => rfl
   | 2, _ => rfl
   | 3, _ => rfl
   | 4, _ => rfl
   | 5, _ => rfl
 have HC := qh hc
 clear hc
 go_loop [4] (fun i => ∃ k : Nat, k ≤ 6 ∧ i = .int .i64 k ∧ Hid (∀ y ∈ aT.take k, y ≠ x)) (fun i => 6 - (intOf i).toNat)
 case atStart => exact ⟨0, Nat.zero_le _, rfl, by simp [Hid]⟩
 case round =>
   obtain ⟨k, hk, rfl, he⟩ := hrel
   by_cases hlt : k < 6
   · have hck := HC.out k hlt
     have HH := qh (xn k hlt x)
     have hgl : k < aT.length := by simpa [aT] using hlt
     have HG := qh (List.take_succ_eq_append_getElem hgl)
     obtain ⟨y, hy⟩ : ∃ y, aT[k]'hgl = y := ⟨_, rfl⟩
     rw [hy] at hck HH HG
     unfold nC at hck
     clear hy
     go_wp2_with fail
     · have h : (y.toList == x.toList) = true := by assumption
       refine dh (HR.out _ ((Below.refl _ _).alloc (Nat.le_refl _) _)) (congrArg (Value.int .i64) ?_)
       rw [HH.out ((eX _ _).1 h)]; simp
     · have h : (y.toList == x.toList) = false := by assumption
       go_round
       case rel =>
         refine ⟨k + 1, by omega, by go_num, fun z hz => ?_⟩
         rw [HG.out, List.mem_append] at hz
         rcases hz with hz | hz
         · exact he.out z hz
         · simp at hz; subst hz; exact pR _ _ h
       case measure => simp [intOf]; omega
   · have h6 : k = 6 := by omega
     have HM : Hid (Ty.plainKind x = 0) := uZ x (by have := he.out; rw [h6] at this; simpa [aT] using this)
     clear h6
     go_wp2_with fail
     refine dh (HR.out _ ((Below.refl _ _).alloc (Nat.le_refl _) _)) (congrArg (Value.int .i64) ?_)
     rw [HM.out]; rfl
theorem pF (x : ByteArray) (a : Option Addr) (cap : Nat) (w : World) {R : Ending → World → Prop} (hR : R (.returned (.bool false)) w) :
   Calls Tryz.prog 136 #[.slice a 0 cap, .string x] w R := by
 have HR := qh hR
 clear hR
 go_enter Tryz.func136, Tryz.ntmps136
 go_wp2_with fail
 refine wp_loop_rounds 1 ?_
 rw [rounds_succ]
 go_wp2_with fail
 exact HR.out
theorem pX (w : World) (v : Value) (l : List ByteArray) (h : w.ownsRow 0 9 1 v l.length (l.map Value.string)) (hl : l.length ≤ 100000) (x : ByteArray) {R : Ending → World → Prop} (hR : ∀ r : Bool, (r = true ↔ x ∈ l) → R (.returned (.bool r)) w) :
   Calls Tryz.prog 136 #[v, .string x] w R := by
 obtain ⟨a, cap, rfl⟩ := ag h
 by_cases h0 : l = []
 · subst h0
   exact pF x a cap w (hR false (by simp))
 · obtain ⟨g, cap', hv, _, _⟩ := h.form (List.length_pos_iff.2 h0)
   have hc := World.ownsRow.cells (g := g) h (by rw [hv]; rfl)
   cases hv
   refine kE g 0 cap l.length l x w hl rfl (fun j hj => ?_) hR
   have := hc j (.string (l.getD j ByteArray.empty)) (by simp [hj])
   rwa [Addr.add_lit] at this
section
variable {w0 w : World} {Fr : As} {pb d : Nat} {af : List Tok.Tk} {s : Rd.RS}
theorem fB (H : Sat w0 w [Fr, rdA pb d af s]) (v : Value) (l : List ByteArray) (hv : w.ownsRow 0 9 1 v l.length (l.map Value.string)) (hl : l.length ≤ 2000) {R : Ending → World → Prop}
   (hR : ∀ w', Sat w0 w' [Fr, rdA pb d af (Rd.ident af l s).2] → R (.returned (.string (Rd.ident af l s).1)) w') :
   Calls Tryz.prog 229 #[.pointer (some ⟨pb, 0, none⟩), v] w R := by
 have HR := qh hR
 have HS := qh H
 have HV := qh hv
 have hlk := H.az
 have hpos := hlk.fits.1
 have hlen := hlk.wf.1
 have hlt := fun h1 : (Ty.cur af s.st.pos).kind = 1 => dI hlk.fits.1 hlk.wf (by omega)
 obtain ⟨f0, c1, _, _, _, g, cap, c0, hg, t0, t1, t2⟩ := hlk.cells
 have hpb := hlk.lt
 unfold Rd.ident at HR
 generalize Ty.cur af s.st.pos = t at *
 obtain ⟨kd, tx, ps⟩ := t
 dsimp only at t0 t1 t2 hlt HR
 have h2 := (HS.out.ay (.cells #[.int .i64 kd, .string tx, .int .i64 ps] 138)).drew
 have HS2 := qh h2
 clear hR H hlk hv h2
 by_cases hkd : kd = 1
 · have hlt1 := hlt hkd
   have k1 : ((kd : Int) != 1) = false := by simp [hkd]
   have HKD := qh hkd
   clear hlt hkd
   go_enter Tryz.func229, Tryz.ntmps229
   go_wp2_with fail
   go_region
   go_wp2_with fail
   refine pX _ v l (aH HV.out (((Below.refl _ _).alloc (Nat.le_refl _) _).drew)) (by omega) tx (fun r hr => ?_)
   have HRR := qh hr
   clear hr
   cases r
   · have hmem : ¬ (tx.data.toList ∈ l.map (fun t => t.data.toList)) := by rw [jy]; intro hm; have := HRR.out.2 hm; simp at this
     rw [if_neg (by rw [HKD.out]; simp), if_neg hmem] at HR
     clear hmem
     go_wp2_with fail
     exact HR.out _ ((HS.out.kL hlt1).ay _).drew
   · have hmem : tx.data.toList ∈ l.map (fun t => t.data.toList) := jy.2 (HRR.out.1 (by trivial))
     rw [if_neg (by rw [HKD.out]; simp), if_pos hmem] at HR
     clear hmem
     go_wp2_with fail
     refine eY HS2.out 6 (by omega) (fun w3 h3 => ?_)
     have H3 := qh h3
     clear h3
     go_wp2_with fail
     exact HR.out _ H3.out
 · have k1 : ((kd : Int) != 1) = true := by simp; omega
   rw [if_pos hkd] at HR
   clear hlt hkd
   go_enter Tryz.func229, Tryz.ntmps229
   go_wp2_with fail
   go_region
   go_wp2_with fail
   refine eY HS2.out 1 (by omega) (fun w3 h3 => ?_)
   have H3 := qh h3
   clear h3
   go_wp2_with fail
   exact HR.out _ H3.out
end
section
variable {w0 w : World} {Fr : As} {pb d : Nat} {af : List Tok.Tk} {s : Rd.RS}
def Dv (pb d : Nat) (af : List Tok.Tk) (s : Rd.RS) (p : Value × Value × Value × Int) (n : Nat) (cells : List Value) (rows : List TyRow) (ts : List Ty.Ty) : List As :=
 [pur (gJ af ∧ s.st.pos < af.length ∧ d ≤ 21 ∧ ∀ x, s.f = some x → x.1 ≠ 0),
  blk pb (.cells #[p.1, .int .i64 s.st.pos, .int .i64 d, p.2.1, p.2.2.1, .int .i64 p.2.2.2, .int .i64 (jq s.f).1, .int .i64 (jq s.f).2] 152 (0, 0)), tkA p.1 af, ndA p.2.1 s.st.ns,
  pur (rows.map TyRow.t = ts), Prt.row 69 4 p.2.2.1 n cells, ah (rows.map dY)]
theorem Prt.Sat.C9 {A B : As} (h : Sat w0 w [Fr, rdA pb d af s, A, B]) : ∃ p rows, Sat w0 w (Fr :: A :: B :: Dv pb d af s p s.st.ts.length (rows.flatMap bK) rows s.st.ts) := by
 obtain ⟨p, h⟩ := h.ex (i := 1) rfl
 obtain ⟨rows, h⟩ := (h.unpack (i := 1) rfl).ex (i := 7) rfl
 exact ⟨p, rows, h.unpack (i := 7) rfl⟩
theorem Prt.Sat.DY {A B C D : As} {rows : List TyRow} {ts : List Ty.Ty} {t : Ty.Ty} {v fv lv : Value} (h : Sat w0 w [Fr, A, B, C, D, pur (rows.map TyRow.t = ts), Prt.row 69 4 v (ts.length + 1) (rows.flatMap bK ++ bK ⟨t, fv, lv⟩), ah (rows.map dY), fdA fv t.fields, inA lv t.list]) :
   Sat w0 w [Fr, A, B, C, D, tyA v (ts ++ [t])] := by
 have hr := h.pure 5 rfl
 have h := Prt.Sat.pack (L := [Fr, _, _, _, _, _, _, ah (rows.map dY)]) (M := [fdA fv t.fields, inA lv t.list]) h
 have h := h.ent (i := 8) rfl (Q := dY (TyRow.mk t fv lv)) (fun a ha => by
   obtain ⟨x, y, h1, h2, h3, h4, u, v, _, h6, _, h8, _⟩ := ha
   exact ⟨x, y, h1, h2, h3, h4, (by
     obtain ⟨k1, k2⟩ := h8
     refine ⟨k1, ?_⟩
     rcases k2 with k2 | ⟨g, cap, cur, e1, e2, e3⟩
     · exact .inl k2
     · exact .inr ⟨g, cap, cur, e1, h6 _ _ e2, e3⟩)⟩)
 have h := Prt.Sat.pack (L := [Fr, _, _, _, _, _, _]) (M := [ah (rows.map dY), dY (TyRow.mk t fv lv)]) h
 have h := h.ent (i := 7) rfl (Q := ah ((rows ++ [TyRow.mk t fv lv]).map dY)) (fun a ha => by rw [List.map_append]; exact Prt.jo ha)
 have h := h.ent (i := 5) rfl (Q := pur ((rows ++ [TyRow.mk t fv lv]).map TyRow.t = ts ++ [t])) (fun a _ => by show _ = _; rw [List.map_append, hr]; rfl)
 have h := h.ent (i := 6) rfl (Q := Prt.row 69 4 v (ts ++ [t]).length ((rows ++ [TyRow.mk t fv lv]).flatMap bK)) (fun a ha => by rw [List.flatMap_append, List.length_append]; exact ha)
 have h := Prt.Sat.pack (L := [Fr, _, _, _, _]) (M := [_, _, _]) h
 exact h.ent (i := 5) rfl (Q := tyA v (ts ++ [t])) (fun a ha => ⟨_, ha⟩)
theorem Prt.Sat.BO {p : Value × Value × Value × Int} {rows : List TyRow} {t : Ty.Ty} {fv lv : Value} (h : Sat w0 w (Fr :: fdA fv t.fields :: inA lv t.list :: Dv pb d af s p (s.st.ts.length + 1) (rows.flatMap bK ++ bK ⟨t, fv, lv⟩) rows s.st.ts)) :
   Sat w0 w [Fr, rdA pb d af (Rd.addT t s).2] :=
 Prt.Sat.shutRd (s := (Rd.addT t s).2) (p := p) (Prt.Sat.DY (h.pick [0, 3, 4, 5, 6, 7, 8, 9, 1, 2]))
theorem dO (t : Ty.Ty) (fv lv : Value) (H : Sat w0 w [Fr, rdA pb d af s, fdA fv t.fields, inA lv t.list]) (hb : s.st.ts.length ≤ 3000)
   {R : Ending → World → Prop} (hR : ∀ w', Sat w0 w' [Fr, rdA pb d af (Rd.addT t s).2] → R (.returned (.int .i64 (Rd.addT t s).1)) w') :
   Calls Tryz.prog 324 #[.pointer (some ⟨pb, 0, none⟩), .agg #[.int .i64 t.kind, fv, lv, .int .i64 t.of]] w R := by
 have HR := qh hR
 obtain ⟨i0, ti, tz0, tz1, tz2⟩ := info_parts zV
 obtain ⟨⟨lv0, nv, tv, main⟩, rows, hs⟩ := H.C9
 have hs : Sat w0 w (Fr :: fdA fv t.fields :: inA lv t.list :: Dv pb d af s (lv0, nv, tv, main) s.st.ts.length (rows.flatMap bK) rows s.st.ts) := hs
 have c4 := hs.cell 4 rfl 4 rfl
 have f4 := hs.free 4 rfl 4
 have hlt := hs.lt 4 rfl
 have hr := hs.row 8 rfl
 obtain ⟨a, cap0, rfl⟩ := ag hr
 obtain ⟨fa, fc, rfl⟩ := ag (hs.row 1 rfl)
 obtain ⟨la, lc, rfl⟩ := ag (hs.row 2 rfl)
 have HROW := qh hr
 have HS := qh hs
 clear hR H hs hr
 dsimp only at c4
 go_enter Tryz.func324, Tryz.ntmps324
 go_wp2_with fail
 go_region_law (first
   | (go_loud (refine step_append_lies _ (by rfl) _ _ _ (by rfl) 0 69 i0 _ 4 64 Tryz.underlying29 ti tz0 tz1 tz2 rfl (by omega) (.slice a s.st.ts.length cap0) s.st.ts.length (rows.flatMap bK) (by rfl) (((HROW.out.alloc _).alloc _).drew) ⟨w.heap.size + 1, 0, none⟩ 1 1 [.int .i64 t.kind, .slice fa t.fields.length fc, .slice la t.list.length lc, .int .i64 t.of] (by rfl) (by rfl) (World.news_of_block (cs := #[.int .i64 t.kind, .slice fa t.fields.length fc, .slice la t.list.length lc, .int .i64 t.of]) (t := 69) (fr := (0, 0)) (aV (ak _ _ _ (by simp)))) (by simp [Value.oneCell']) (by omega) (by unfold maxLen; omega) (by omega) (by simp) (w.heap.size + 2) (by simp) ?_); intro g cap w1 hown1 hgrow hat hlt1; have h1 := Prt.Sat.grow ((HS.out.ay _).ay _).drew 8 rfl hgrow hown1 (by simpa using hat); have d4 := h1.cell 4 rfl 4 rfl; have e4 := h1.free 4 rfl 4; have H1 := qh h1; clear h1))
 all_goals
   clear hown1 hgrow
   go_wp2_with fail
   exact HR.out _ (Prt.Sat.BO (p := (lv0, nv, .slice (some ⟨g, 0, none⟩) (s.st.ts.length + 1) cap, main)) (rows := rows) (H1.out.store 4 rfl 4 _))
end
end
end Go.Proofs.YtdlbhiaceheffabGreatDoor
