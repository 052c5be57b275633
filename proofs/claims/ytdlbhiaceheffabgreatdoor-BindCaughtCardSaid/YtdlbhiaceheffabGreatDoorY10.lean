/- Plain: what the reference's reader has come to: what is left of the model's work, or a fault. -/
import Derived.Test.YtdlbhiaceheffabGreatDoorY03
import Derived.Test.YtdlbhiaceheffabGreatDoorY09
set_option linter.all false
namespace Go.Proofs.YtdlbhiaceheffabGreatDoor
section
namespace Rd
open Tok (Tk)
open Ty (Ft St Nd cur here is M ndAt)
def Gd (af : List Tk) (j : Nat) (st : St) : Prop := st.pos < af.length ∧ st.ts.length + j ≤ st.pos ∧ st.ns.length + j ≤ st.pos + 1
def At {γ : Type} (af : List Tk) (c j : Nat) (whole : Except Ft (γ × St)) (m : M γ) (s : RS) : Prop :=
 (s.f = none ∧ Gd af j s.st ∧ whole = m s.st) ∨ ∃ f, s.f = some f ∧ Off af c s.st ∧ whole = .error f
def addN (n : Nd) (s : RS) : RS := ⟨{ s.st with ns := s.st.ns ++ [n] }, s.f⟩
section
variable {γ : Type} {af : List Tk} {c j : Nat} {whole : Except Ft (γ × St)} {m : M γ} {s : RS}
theorem At.mono (h : At af c j whole m s) {c' j' : Nat} (hc : c ≤ c' := by omega) (hj : j' ≤ j := by omega) : At af c' j' whole m s := by
 rcases h with ⟨h1, ⟨h2, h3, h4⟩, h5⟩ | ⟨f, h1, h2, h3⟩
 · exact .inl ⟨h1, ⟨h2, by omega, by omega⟩, h5⟩
 · exact .inr ⟨f, h1, h2.mono hc, h3⟩
theorem At.good (h : At af c j whole m s) (hf : s.f = none) (c' : Nat) : At af c' j whole m s := by
 rcases h with h | ⟨f, h1, _⟩
 · exact .inl h
 · rw [hf] at h1; cases h1
theorem At.pos (h : At af c j whole m s) : s.st.pos < af.length := by
 rcases h with ⟨_, h, _⟩ | ⟨_, _, h, _⟩
 · exact h.1
 · exact h.1
theorem At.ns (h : At af c j whole m s) : s.st.ns.length ≤ af.length + 1 + c := by
 rcases h with ⟨_, h, _⟩ | ⟨_, _, h, _⟩
 · have := h.1; have := h.2.2; omega
 · exact h.2.2
theorem At.ts (h : At af c j whole m s) : s.st.ts.length ≤ af.length + c := by
 rcases h with ⟨_, h, _⟩ | ⟨_, _, h, _⟩
 · have := h.1; have := h.2.1; omega
 · exact h.2.1
theorem At.EZ (h : At af c j whole m s) : In af c j s := by
 refine ⟨h.pos, fun e => ?_, h.ts, h.ns⟩
 rcases h with ⟨_, h, _⟩ | ⟨_, h, _⟩
 · exact ⟨h.2.1, h.2.2⟩
 · rw [e] at h; cases h
theorem At.congr {m' : M γ} (h : At af c j whole m s) (e : s.f = none → m s.st = m' s.st) : At af c j whole m' s := by
 rcases h with ⟨h1, h2, h3⟩ | h
 · exact .inl ⟨h1, h2, h3.trans (e h1)⟩
 · exact .inr h
theorem At.look {k : St → M γ} (h : At af c j whole (Ty.look k) s) : At af c j whole (k s.st) s := h
theorem At.bad {f : Ft} (h : At af c j whole m s) (hf : s.f = some f) (m' : M γ) (j' : Nat) : At af c j' whole m' s := by
 rcases h with ⟨h1, _⟩ | h
 · rw [hf] at h1; cases h1
 · exact .inr h
theorem At.fail {α : Type} {e : Nat} {k : α → M γ} (h : At af c j whole (Ty.bnd (Ty.fail af e) k) s) (m' : M γ) (j' : Nat) : At af c j' whole m' (wrong af e s) := by
 rcases h with ⟨h1, h2, h3⟩ | ⟨f, h1, h2, h3⟩
 · obtain ⟨st, f⟩ := s
   cases h1
   exact .inr ⟨here af e st.pos, rfl, ⟨h2.1, by have := h2.1; have := h2.2.1; show st.ts.length ≤ _; dsimp only at *; omega, by have := h2.1; have := h2.2.2; show st.ns.length ≤ _; dsimp only at *; omega⟩, h3⟩
 · obtain ⟨st, f'⟩ := s
   cases h1
   exact .inr ⟨f, rfl, h2, h3⟩
theorem Gd.off {st : St} (h : Gd af j st) (c : Nat) : Off af c st := ⟨h.1, by have := h.1; have := h.2.1; omega, by have := h.1; have := h.2.2; omega⟩
theorem At.ret {b : γ} (h : At af c j whole (Ty.ret b) s) : (s.f = none ∧ Gd af j s.st ∧ whole = .ok (b, s.st)) ∨ ∃ f, s.f = some f ∧ Off af c s.st ∧ whole = .error f := h
theorem At.addN {n : Nd} {k : Nat → M γ} (h : At af c (j + 1) whole (Ty.bnd (Ty.addNode n) k) s) : At af (c + 1) j whole (k s.st.ns.length) (Rd.addN n s) := by
 rcases h with ⟨h1, ⟨h2, h3, h4⟩, h5⟩ | ⟨f, h1, ⟨h2, h3, h4⟩, h5⟩
 · exact .inl ⟨h1, ⟨h2, by show s.st.ts.length + j ≤ s.st.pos; omega, by show (s.st.ns ++ [n]).length + j ≤ s.st.pos + 1; simp; omega⟩, h5⟩
 · exact .inr ⟨f, h1, ⟨h2, by show s.st.ts.length ≤ _; omega, by show (s.st.ns ++ [n]).length ≤ _; simp; omega⟩, h5⟩
theorem At.di {n : Nd} {whole : Except Ft (Nat × St)} (h : At af c (j + 1) whole (Ty.addNode n) s) : At af (c + 1) j whole (Ty.ret s.st.ns.length) (Rd.addN n s) := by
 rcases h with ⟨h1, ⟨h2, h3, h4⟩, h5⟩ | ⟨f, h1, ⟨h2, h3, h4⟩, h5⟩
 · exact .inl ⟨h1, ⟨h2, by show s.st.ts.length + j ≤ s.st.pos; omega, by show (s.st.ns ++ [n]).length + j ≤ s.st.pos + 1; simp; omega⟩, h5⟩
 · exact .inr ⟨f, h1, ⟨h2, by show s.st.ts.length ≤ _; omega, by show (s.st.ns ++ [n]).length ≤ _; simp; omega⟩, h5⟩
theorem At.use {β : Type} {mF : M β} {k : β → M γ} (h : At af c j whole (Ty.bnd mF k) s) : ∃ w0 : Except Ft (β × St), At af c j w0 mF s ∧ ∀ c' b s', At af c' j w0 (Ty.ret b) s' → At af c' j whole (k b) s' ∧ (s'.f = none → s.f = none ∧ mF s.st = .ok (b, s'.st)) := by
 rcases h with ⟨h1, h2, h3⟩ | ⟨f, h1, h2, h3⟩
 · refine ⟨mF s.st, .inl ⟨h1, h2, rfl⟩, fun c' b s' g => ?_⟩
   rcases g with ⟨g1, g2, g3⟩ | ⟨f, g1, g2, g3⟩
   · refine ⟨.inl ⟨g1, g2, ?_⟩, fun _ => ⟨h1, g3⟩⟩
     rw [h3, Ty.bnd_ok g3]
   · refine ⟨.inr ⟨f, g1, g2, ?_⟩, fun e => by rw [g1] at e; cases e⟩
     rw [h3, Ty.bnd_err g3]
 · refine ⟨.error f, .inr ⟨f, h1, h2, rfl⟩, fun c' b s' g => ?_⟩
   rcases g with ⟨g1, g2, g3⟩ | ⟨f', g1, g2, g3⟩
   · cases g3
   · cases g3
     exact ⟨.inr ⟨f, g1, g2, h3⟩, fun e => by rw [g1] at e; cases e⟩
variable (hL : ∀ t, af.getLast? = some t → t.kind = 6)
include hL
theorem At.step {k : Unit → M γ} (h : At af c j whole (Ty.bnd Ty.step k) s) (hf : s.f = none) (hk : (cur af s.st.pos).kind ≠ 6) : At af c (j + 1) whole (k ()) (next s) := by
 rcases h with ⟨h1, ⟨h2, h3, h4⟩, h5⟩ | ⟨f, h1, _⟩
 · have := dI hL h2 hk
   exact .inl ⟨h1, ⟨this, by show s.st.ts.length + (j + 1) ≤ s.st.pos + 1; omega, by show s.st.ns.length + (j + 1) ≤ s.st.pos + 1 + 1; omega⟩, h5⟩
 · rw [hf] at h1; cases h1
theorem At.yes {x : List UInt8} {k : Bool → M γ} (h : At af c j whole (Ty.bnd (Ty.take af x) k) s) (hp : peek af x s = true) : At af c (j + 1) whole (k true) (next s) := by
 unfold peek at hp
 simp at hp
 rcases h with ⟨h1, ⟨h2, h3, h4⟩, h5⟩ | ⟨f, h1, _⟩
 · have := is_lt hL h2 hp.2
   refine .inl ⟨h1, ⟨this, by show s.st.ts.length + (j + 1) ≤ s.st.pos + 1; omega, by show s.st.ns.length + (j + 1) ≤ s.st.pos + 1 + 1; omega⟩, ?_⟩
   rw [h5, Ty.bnd_ok (show Ty.take af x s.st = .ok (true, { s.st with pos := s.st.pos + 1 }) by unfold Ty.take; rw [if_pos hp.2])]
   rfl
 · rw [hp.1] at h1; cases h1
omit hL in
theorem At.no {x : List UInt8} {k : Bool → M γ} (h : At af c j whole (Ty.bnd (Ty.take af x) k) s) (hp : peek af x s = false) : At af c j whole (k false) s := by
 rcases h with ⟨h1, h2, h5⟩ | h
 · refine .inl ⟨h1, h2, ?_⟩
   have hi : ¬ is af x s.st.pos = true := by unfold peek at hp; rw [h1] at hp; simpa using hp
   rw [h5, Ty.bnd_ok (show Ty.take af x s.st = .ok (false, s.st) by unfold Ty.take; rw [if_neg hi])]
 · exact .inr h
theorem At.must {x : List UInt8} {k : Unit → M γ} (h : At af c j whole (Ty.bnd (Ty.need af x) k) s) : At af c (j + 1) whole (k ()) (must af x s) := by
 obtain ⟨st, f⟩ := s
 rcases h with ⟨h1, ⟨h2, h3, h4⟩, h5⟩ | ⟨f', h1, h2, h3⟩
 · cases h1
   dsimp only at h2 h3 h4 h5
   by_cases hi : is af x st.pos = true
   · have := is_lt hL h2 hi
     have e : Ty.need af x st = .ok ((), { st with pos := st.pos + 1 }) := by unfold Ty.need; rw [if_pos hi]
     rw [iZ e]
     refine .inl ⟨rfl, ⟨this, by show st.ts.length + (j + 1) ≤ st.pos + 1; omega, by show st.ns.length + (j + 1) ≤ st.pos + 1 + 1; omega⟩, ?_⟩
     rw [h5, Ty.bnd_ok e]
   · have e : Ty.need af x st = .error (here af 1 st.pos) := by unfold Ty.need; rw [if_neg hi]
     rw [gI e]
     refine .inr ⟨_, rfl, ⟨h2, by show st.ts.length ≤ _; omega, by show st.ns.length ≤ _; omega⟩, ?_⟩
     rw [h5, Ty.bnd_err e]
 · cases h1
   rw [gm]
   exact .inr ⟨f', rfl, h2, h3⟩
theorem At.ident {met : List ByteArray} {k : ByteArray → M γ} (h : At af c j whole (Ty.bnd (Ty.name af met) k) s) : At af c (j + 1) whole (k (ident af met s).1) (ident af met s).2 := by
 obtain ⟨st, f⟩ := s
 rcases h with ⟨h1, ⟨h2, h3, h4⟩, h5⟩ | ⟨f', h1, h2, h3⟩
 · cases h1
   dsimp only at h2 h3 h4 h5
   cases e : Ty.name af met st with
   | ok p =>
     obtain ⟨x, st'⟩ := p
     rw [qE e]
     have hx : st' = { st with pos := st.pos + 1 } ∧ st.pos + 1 < af.length := by
       unfold Ty.name at e
       split at e
       · cases e
       · rename_i hk
         have hk1 : (cur af st.pos).kind = 1 := Decidable.not_not.1 hk
         split at e <;> cases e
         exact ⟨rfl, dI hL h2 (by rw [hk1]; decide)⟩
     obtain ⟨rfl, hlt⟩ := hx
     refine .inl ⟨rfl, ⟨hlt, by show st.ts.length + (j + 1) ≤ st.pos + 1; omega, by show st.ns.length + (j + 1) ≤ st.pos + 1 + 1; omega⟩, ?_⟩
     rw [h5, Ty.bnd_ok e]
   | error f =>
     rw [nH e]
     refine .inr ⟨_, rfl, ⟨h2, by show st.ts.length ≤ _; omega, by show st.ns.length ≤ _; omega⟩, ?_⟩
     rw [h5, Ty.bnd_err e]
 · cases h1
   have e : (Rd.ident af met ⟨st, some f'⟩).2 = ⟨st, some f'⟩ ∨ (Rd.ident af met ⟨st, some f'⟩).2 = Rd.next ⟨st, some f'⟩ ∧ st.pos + 1 < af.length := by
     unfold Rd.ident
     split
     · exact .inl rfl
     · rename_i hk
       split
       · exact .inl rfl
       · exact .inr ⟨rfl, dI hL h2.1 (by rw [show (cur af st.pos).kind = 1 from Decidable.not_not.1 hk]; decide)⟩
   rcases e with e | ⟨e, hlt⟩
   · rw [e]; exact .inr ⟨f', rfl, h2, h3⟩
   · rw [e]; exact .inr ⟨f', rfl, ⟨hlt, h2.2.1, h2.2.2⟩, h3⟩
end
end Rd
end
end Go.Proofs.YtdlbhiaceheffabGreatDoor
