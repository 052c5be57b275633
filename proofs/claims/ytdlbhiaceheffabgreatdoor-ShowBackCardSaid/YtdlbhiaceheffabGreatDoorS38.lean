/- Plain: a reader stays within its tokens. No program in sight. Plain: trees without their places: one node's tree is one, and is written as it was. No program in sight. -/
import Derived.Test.YtdlbhiaceheffabGreatDoorS37
set_option linter.all false
namespace Go.Proofs.YtdlbhiaceheffabGreatDoor
section
namespace Ty
open Tok (Tk)
section
variable {toks : List Tk}
def Ends (toks : List Tk) : Prop := ∀ p, p < toks.length → (cur toks p).kind ≠ 6 → p + 1 < toks.length
def La {α : Type} (toks : List Tk) (s : St) (m : M α) : Prop := ∀ a s', m s = .ok (a, s') → s'.pos < toks.length
def Lim {α : Type} (toks : List Tk) (m : M α) : Prop := ∀ s, s.pos < toks.length → La toks s m
theorem La.bnd {α β : Type} {s : St} {m : M α} {k : α → M β} (h : La toks s m) (g : ∀ a s1, s1.pos < toks.length → m s = .ok (a, s1) → La toks s1 (k a)) : La toks s (Ty.bnd m k) := fun b s' x => by
 obtain ⟨a, s1, e1, e2⟩ := bnd_inv x
 exact g a s1 (h a s1 e1) e1 b s' e2
theorem Lim.bnd {α β : Type} {m : M α} {k : α → M β} (h : Lim toks m) (g : ∀ a, Lim toks (k a)) : Lim toks (Ty.bnd m k) := fun s hs => (h s hs).bnd fun a s1 h1 _ => g a s1 h1
theorem Lim.ret {α : Type} (a : α) : Lim toks (ret a) := fun s hs b s' e => by cases e; exact hs
theorem Lim.fail {α : Type} (n : Nat) : Lim toks (fail (α := α) toks n) := fun s _ b s' h => by cases h
theorem Lim.addNode (n : Nd) : Lim toks (addNode n) := fun s hs b s' e => by cases e; exact hs
theorem Lim.newType (n : Ty) : Lim toks (newType n) := fun s hs b s' e => by cases e; exact hs
theorem Lim.trunc (n : Nat) : Lim toks (trunc n) := fun s hs b s' e => by cases e; exact hs
theorem Lim.look {α : Type} {k : St → M α} (h : ∀ s, s.pos < toks.length → La toks s (k s)) : Lim toks (Ty.look k) := fun s hs a s' x => h s hs a s' x
theorem Lim.two (x : ByteArray) (a b : Nat) : Lim toks (two x a b) := Lim.look fun s hs => Lim.addNode _ s hs
theorem Lim.ite {α : Type} {p : Prop} [Decidable p] {m n : M α} (h : Lim toks m) (g : Lim toks n) : Lim toks (if p then m else n) := by split <;> assumption
theorem La.ite {α : Type} {s : St} {p : Prop} [Decidable p] {m n : M α} (h : p → La toks s m) (g : ¬ p → La toks s n) : La toks s (if p then m else n) := by
 split
 · rename_i hp; exact h hp
 · rename_i hp; exact g hp
variable (hz : Ends toks)
include hz
theorem is_end {x : List UInt8} {s : St} (hs : s.pos < toks.length) (h : Ty.is toks x s.pos = true) : s.pos + 1 < toks.length := by
 refine hz _ hs fun e => ?_
 unfold Ty.is at h
 rw [e] at h
 simp at h
theorem La.step {s : St} (hs : s.pos < toks.length) (h : (cur toks s.pos).kind ≠ 6) : La toks s Ty.step := fun a s' e => by cases e; exact hz _ hs h
theorem La.stepIs {x : List UInt8} {s : St} (hs : s.pos < toks.length) (h : Ty.is toks x s.pos = true) : La toks s Ty.step := fun a s' e => by cases e; exact is_end hz hs h
theorem La.stepAny {l : List (List UInt8)} {s : St} (hs : s.pos < toks.length) (h : l.any (fun x => Ty.is toks x s.pos) = true) : La toks s Ty.step := by
 obtain ⟨x, _, hx⟩ := List.any_eq_true.1 h
 exact La.stepIs hz hs hx
theorem Lim.take (x : List UInt8) : Lim toks (take toks x) := fun s hs b s' e => by
 unfold Ty.take at e
 split at e <;> cases e
 · rename_i h; exact is_end hz hs h
 · exact hs
theorem Lim.need (x : List UInt8) : Lim toks (need toks x) := fun s hs b s' e => by
 unfold Ty.need at e
 split at e <;> cases e
 rename_i h; exact is_end hz hs h
theorem Lim.name (met : List ByteArray) : Lim toks (name toks met) := fun s hs b s' e => by
 unfold Ty.name at e
 split at e
 · cases e
 · rename_i h
   split at e <;> cases e
   exact hz _ hs (by rw [Classical.not_not.1 h]; decide)
theorem Lim.list {α : Type} {x : List UInt8} {m : List α → M α} (hm : ∀ l, Lim toks (m l)) : ∀ f l, Lim toks (list toks x m f l)
 | 0, _ => Lim.fail _
 | f + 1, l => (Lim.take hz _).bnd fun _ => Lim.ite (Lim.ret l) ((Lim.ite (Lim.ret ()) (Lim.need hz _)).bnd fun _ => (hm l).bnd fun n => Lim.list hm f (l ++ [n]))
theorem Lim.fields {T : M Nat} (hT : Lim toks T) : ∀ f l, Lim toks (fields toks T f l)
 | 0, _ => Lim.fail _
 | f + 1, l => (Lim.take hz _).bnd fun _ => Lim.ite (Lim.ret l) ((Lim.name hz _).bnd fun s => (Lim.need hz _).bnd fun _ => hT.bnd fun n => (Lim.need hz _).bnd fun _ => Lim.fields hT f (l ++ [(s, n)]))
theorem Lim.round {T : M Nat} (hT : Lim toks T) : Lim toks (round toks T) :=
 (Lim.list hz (fun _ => hT) _ _).bnd fun _ => (Lim.take hz _).bnd fun _ => Lim.ite (hT.bnd fun _ => Lim.newType _) (Lim.ite (Lim.ret _) (Lim.fail _))
theorem Lim.single {T : M Nat} (hT : Lim toks T) : Lim toks (single toks T) := fun s hs a s' h => by
 unfold Ty.single at h
 split at h
 · rename_i hk
   refine ((La.step hz hs ?_).bnd fun _ s1 h1 _ => Lim.newType _ s1 h1) a s' h
   omega
 · exact ((Lim.take hz _).bnd fun b => Lim.ite ((Lim.fields hz hT _ _).bnd fun _ => Lim.newType _) ((Lim.take hz _).bnd fun b => Lim.ite (hT.bnd fun n => (Lim.need hz _).bnd fun _ => Lim.newType _) ((Lim.need hz _).bnd fun _ => Lim.round hz hT))) s hs a s' h
theorem Lim.bars {S : M Nat} (hS : Lim toks S) : ∀ f l, Lim toks (bars toks S f l)
 | 0, _ => Lim.fail _
 | f + 1, l => (Lim.take hz _).bnd fun _ => Lim.ite (hS.bnd fun n => Lim.bars hS f (l ++ [n])) (Lim.ret l)
theorem Lim.union {S : M Nat} (hS : Lim toks S) : Lim toks (union toks S) := hS.bnd fun _ => (Lim.bars hz hS _ _).bnd fun _ => Lim.ite (Lim.ret _) (Lim.newType _)
theorem Lim.typ : ∀ r, Lim toks (typ toks r)
 | 0 => Lim.fail _
 | r + 1 => Lim.union hz (Lim.single hz (Lim.typ r))
theorem leftLoop_lim {one : M Nat} (h : Lim toks one) {signs : List (List UInt8)} : ∀ f n, Lim toks (leftLoop toks one signs f n)
 | 0, _ => Lim.fail _
 | f + 1, n => Lim.look fun s hs => La.ite (fun hk => (La.stepAny hz hs hk).bnd fun _ s1 h1 _ => (h.bnd fun _ => (Lim.two _ _ _).bnd fun m => leftLoop_lim h f m) s1 h1) fun _ => Lim.ret n s hs
theorem sums_lim {one : M Nat} (h : Lim toks one) : Lim toks (sums toks one) := (h.bnd fun n => leftLoop_lim hz h _ n).bnd fun n => leftLoop_lim hz (h.bnd fun n => leftLoop_lim hz h _ n) _ n
theorem exprM_lim {one : M Nat} (h : Lim toks one) : Lim toks (exprM toks one) :=
 (sums_lim hz h).bnd fun n => (Lim.take hz _).bnd fun _ => Lim.ite ((sums_lim hz h).bnd fun _ => Lim.two _ _ _) ((Lim.take hz _).bnd fun _ => Lim.ite ((sums_lim hz h).bnd fun _ => Lim.two _ _ _) (Lim.ret n))
theorem behind_lim {T E : M Nat} (hT : Lim toks T) (hE : Lim toks E) : ∀ f a, Lim toks (behind toks T E f a)
 | 0, _ => Lim.fail _
 | f + 1, a => Lim.look fun s hs => ((Lim.take hz _).bnd fun _ => Lim.ite ((Lim.list hz (fun _ => hE) _ _).bnd fun _ => (Lim.addNode _).bnd fun m => behind_lim hT hE f m)
     ((Lim.take hz _).bnd fun _ => Lim.ite ((Lim.name hz _).bnd fun _ => (Lim.addNode _).bnd fun m => behind_lim hT hE f m)
     ((Lim.take hz _).bnd fun _ => Lim.ite (hE.bnd fun _ => (Lim.need hz _).bnd fun _ => (Lim.addNode _).bnd fun m => behind_lim hT hE f m)
     ((Lim.take hz _).bnd fun _ => Lim.ite (hT.bnd fun _ => (Lim.addNode _).bnd fun m => behind_lim hT hE f m) (Lim.ret a))))) s hs
theorem written_lim {T : M Nat} (hT : Lim toks T) : Lim toks (written toks T) := (Lim.take hz _).bnd fun _ => Lim.ite (hT.bnd fun _ => Lim.ret _) (Lim.ret _)
theorem partM_lim {E : M Nat} (hE : Lim toks E) (met : List ByteArray) : Lim toks (partM toks E met) :=
 Lim.look fun s hs => ((Lim.name hz _).bnd fun _ => (Lim.need hz _).bnd fun _ => hE.bnd fun _ => (Lim.addNode _).bnd fun _ => Lim.ret _) s hs
theorem paramM_lim {T : M Nat} (hT : Lim toks T) (met : List ByteArray) : Lim toks (paramM toks T met) :=
 Lim.look fun s hs => ((Lim.name hz _).bnd fun _ => (written_lim hz hT).bnd fun _ => (Lim.addNode _).bnd fun _ => Lim.ret _) s hs
theorem stmts_lim {S : M Nat} (hS : Lim toks S) : ∀ f l, Lim toks (stmts toks S f l)
 | 0, _ => Lim.fail _
 | f + 1, _ => (Lim.take hz _).bnd fun _ => Lim.ite (Lim.ret _) (hS.bnd fun _ => stmts_lim hS f _)
theorem blockM_lim {S : M Nat} (hS : Lim toks S) : Lim toks (blockM toks S) := Lim.look fun s hs => ((Lim.need hz _).bnd fun _ => (stmts_lim hz hS _ _).bnd fun _ => Lim.addNode _) s hs
theorem functionM_lim {T S : M Nat} (hT : Lim toks T) (hS : Lim toks S) (p : Nat) : Lim toks (functionM toks T S p) :=
 (Lim.need hz _).bnd fun _ => (Lim.list hz (fun _ => paramM_lim hz hT _) _ _).bnd fun _ => (written_lim hz hT).bnd fun _ => (blockM_lim hz hS).bnd fun _ => Lim.addNode _
theorem simpleM_lim {T E S : M Nat} (hT : Lim toks T) (hE : Lim toks E) (hS : Lim toks S) : Lim toks (simpleM toks T E S) :=
 Lim.look fun s hs => La.ite (fun hk => (La.step hz hs (by rw [hk]; decide)).bnd fun _ s1 h1 _ => Lim.addNode _ s1 h1) fun _ => La.ite (fun hk => (La.step hz hs (by rw [hk]; decide)).bnd fun _ s1 h1 _ => Lim.addNode _ s1 h1) fun _ =>
   La.ite (fun hk => (La.step hz hs (by rw [hk]; decide)).bnd fun _ s1 h1 _ => Lim.addNode _ s1 h1) fun _ =>
   ((Lim.take hz _).bnd fun _ => Lim.ite (Lim.addNode _) ((Lim.take hz _).bnd fun _ => Lim.ite (Lim.addNode _) ((Lim.take hz _).bnd fun _ => Lim.ite (Lim.addNode _) ((Lim.take hz _).bnd fun _ => Lim.ite (functionM_lim hz hT hS _)
     ((Lim.take hz _).bnd fun _ => Lim.ite ((Lim.list hz (fun _ => hE) _ _).bnd fun _ => Lim.addNode _) ((Lim.take hz _).bnd fun _ => Lim.ite ((Lim.list hz (fun _ => partM_lim hz hE _) _ _).bnd fun _ => Lim.addNode _)
       ((Lim.need hz _).bnd fun _ => hE.bnd fun _ => (Lim.need hz _).bnd fun _ => Lim.ret _))))))) s hs
theorem oneM_lim {T E O S : M Nat} (hT : Lim toks T) (hE : Lim toks E) (hO : Lim toks O) (hS : Lim toks S) : Lim toks (oneM toks T E O S) :=
 Lim.look fun s hs => La.ite (fun hk => (La.stepAny hz hs hk).bnd fun _ s1 h1 _ => (hO.bnd fun _ => Lim.addNode _) s1 h1) fun _ => ((simpleM_lim hz hT hE hS).bnd fun a => behind_lim hz hT hE _ a) s hs
theorem plainM_lim {E : M Nat} (hE : Lim toks E) : Lim toks (plainM toks E) := by
 refine hE.bnd fun a => Lim.look fun s hs => La.ite (fun hk => ?_) fun _ => ((Lim.need hz _).bnd fun _ => Lim.addNode _) s hs
 have h : ∀ f : Nat → Nd, La toks s (Ty.bnd (trunc a) fun _ => Ty.bnd Ty.step fun _ => Ty.bnd E fun v => Ty.bnd (need toks [59]) fun _ => addNode (f v)) := fun f =>
   (Lim.trunc a s hs).bnd fun _ s1 h1 e => (La.stepIs hz h1 (by cases e; exact hk)).bnd fun _ s2 h2 _ => (hE.bnd fun v => (Lim.need hz _).bnd fun _ => Lim.addNode _) s2 h2
 exact La.ite (fun _ => h _) fun _ => La.ite (fun _ => h _) fun _ => La.ite (fun _ => h _) fun _ => Lim.fail _ s hs
theorem branchM_lim {E S : M Nat} (hE : Lim toks E) (hS : Lim toks S) (yes : Bool) (p : Nat) {x : List UInt8} {s : St} (hs : s.pos < toks.length) (hk : Ty.is toks x s.pos = true) : La toks s (branchM toks E S yes p) :=
 (La.stepIs hz hs hk).bnd fun _ s1 h1 _ => ((Lim.need hz _).bnd fun _ => hE.bnd fun _ => (Lim.need hz _).bnd fun _ => (blockM_lim hz hS).bnd fun _ => Lim.ite ((Lim.take hz _).bnd fun _ => Lim.ite ((blockM_lim hz hS).bnd fun _ => Lim.addNode _) (Lim.addNode _)) (Lim.addNode _)) s1 h1
theorem bareM_lim {T E S : M Nat} (hT : Lim toks T) (hE : Lim toks E) (hS : Lim toks S) : Lim toks (bareM toks T E S) :=
 Lim.look fun s hs => ((Lim.take hz _).bnd fun _ => Lim.ite ((Lim.name hz _).bnd fun _ => (written_lim hz hT).bnd fun _ => (Lim.need hz _).bnd fun _ => hE.bnd fun _ => (Lim.need hz _).bnd fun _ => Lim.addNode _)
   ((Lim.take hz _).bnd fun _ => Lim.ite (hE.bnd fun _ => (Lim.need hz _).bnd fun _ => Lim.addNode _) ((Lim.take hz _).bnd fun _ => Lim.ite (hE.bnd fun _ => (Lim.need hz _).bnd fun _ => Lim.addNode _)
     (Lim.look fun s2 h2 => La.ite (fun hk => branchM_lim hz hE hS _ _ h2 hk) fun _ => La.ite (fun hk => branchM_lim hz hE hS _ _ h2 hk) fun _ => plainM_lim hz hE s2 h2)))) s hs
theorem lv_lim : ∀ r, Lim toks (lv toks r).E ∧ Lim toks (lv toks r).O ∧ Lim toks (lv toks r).S
 | 0 => ⟨Lim.fail _, Lim.fail _, Lim.fail _⟩
 | r + 1 => by
   obtain ⟨h1, h2, h3⟩ := lv_lim r
   have h := oneM_lim hz (Lim.typ hz r) h1 h2 h3
   exact ⟨exprM_lim hz h, h, bareM_lim hz (Lim.typ hz r) h1 h3⟩
end
end Ty
end
section
namespace Ty
open Tok (Tk)
mutual
def eE : Ex → Ex
 | .num _ n => .num 0 n
 | .text _ x => .text 0 x
 | .bool _ n => .bool 0 n
 | .null _ => .null 0
 | .var _ x => .var 0 x
 | .fn _ ps ty _ body => .fn 0 (ps.map fun q => ⟨0, q.text, q.ty⟩) ty 0 (eSs body)
 | .call _ a l => .call 0 (eE a) (eEs l)
 | .get _ a x => .get 0 (eE a) x
 | .at _ a b => .at 0 (eE a) (eE b)
 | .obj _ l => .obj 0 (eOs l)
 | .arr _ l => .arr 0 (eEs l)
 | .two _ x a b => .two 0 x (eE a) (eE b)
 | .one _ x a => .one 0 x (eE a)
 | .as _ a ty => .as 0 (eE a) ty
def eEs : List Ex → List Ex
 | [] => []
 | e :: l => eE e :: eEs l
def eOs : List (Nat × ByteArray × Ex) → List (Nat × ByteArray × Ex)
 | [] => []
 | (_, x, e) :: l => (0, x, eE e) :: eOs l
def eSs : List Sm → List Sm
 | [] => []
 | e :: l => eS e :: eSs l
def eS : Sm → Sm
 | .let_ _ x ty a => .let_ 0 x ty (eE a)
 | .set _ x v => .set 0 x (eE v)
 | .put _ a x v => .put 0 (eE a) x (eE v)
 | .lay _ a b v => .lay 0 (eE a) (eE b) (eE v)
 | .print _ a => .print 0 (eE a)
 | .ret _ a => .ret 0 (eE a)
 | .do_ _ a => .do_ 0 (eE a)
 | .if_ _ a _ b none => .if_ 0 (eE a) 0 (eSs b) none
 | .if_ _ a _ b (some (_, c)) => .if_ 0 (eE a) 0 (eSs b) (some (0, eSs c))
 | .while_ _ a _ b => .while_ 0 (eE a) 0 (eSs b)
end
theorem lvl_eE (e : Ex) : lvl (eE e) = lvl e := by cases e <;> rw [eE] <;> rfl
theorem eOs_ln : ∀ l, (eOs l).length = l.length
 | [] => by rw [eOs]
 | (p, x, e) :: l => by rw [eOs, List.length_cons, eOs_ln l, List.length_cons]
mutual
theorem wE_eE (ts : List Ty) : ∀ (e : Ex) (ind : Nat), wE ts ind (eE e) = wE ts ind e
 | .num _ _, _ => by rw [eE, wE, wE]
 | .text _ _, _ => by rw [eE, wE, wE]
 | .bool _ _, _ => by rw [eE, wE, wE]
 | .null _, _ => by rw [eE, wE, wE]
 | .var _ _, _ => by rw [eE, wE, wE]
 | .fn _ ps ty _ body, ind => by rw [eE, wE, wE, wSs_eSs ts body, List.map_map]; rfl
 | .call _ a l, ind => by rw [eE, wE, wE, wE_eE ts a, wEs_eEs ts l, lvl_eE]
 | .get _ a _, ind => by rw [eE, wE, wE, wE_eE ts a, lvl_eE]
 | .at _ a b, ind => by rw [eE, wE, wE, wE_eE ts a, wE_eE ts b, lvl_eE]
 | .obj _ l, ind => by rw [eE, wE, wE, wOs_eOs ts l, eOs_ln]
 | .arr _ l, ind => by rw [eE, wE, wE, wEs_eEs ts l]
 | .two _ x a b, ind => by rw [eE, wE, wE, wE_eE ts a, wE_eE ts b, lvl_eE, lvl_eE]
 | .one _ x a, ind => by rw [eE, wE, wE, wE_eE ts a, lvl_eE]
 | .as _ a _, ind => by rw [eE, wE, wE, wE_eE ts a, lvl_eE]
theorem wEs_eEs (ts : List Ty) : ∀ (l : List Ex) (ind : Nat), wEs ts ind (eEs l) = wEs ts ind l
 | [], _ => by rw [eEs]
 | e :: l, ind => by rw [eEs, wEs, wEs, wE_eE ts e, wEs_eEs ts l]
theorem wOs_eOs (ts : List Ty) : ∀ (l : List (Nat × ByteArray × Ex)) (ind : Nat), wOs ts ind (eOs l) = wOs ts ind l
 | [], _ => by rw [eOs]
 | (p, x, e) :: l, ind => by rw [eOs, wOs, wOs, wE_eE ts e, wOs_eOs ts l]
theorem wSs_eSs (ts : List Ty) : ∀ (l : List Sm) (ind : Nat), wSs ts ind (eSs l) = wSs ts ind l
 | [], _ => by rw [eSs]
 | e :: l, ind => by rw [eSs, wSs, wSs, wS_eS ts e, wSs_eSs ts l]
theorem wS_eS (ts : List Ty) : ∀ (e : Sm) (ind : Nat), wS ts ind (eS e) = wS ts ind e
 | .let_ _ _ _ a, ind => by rw [eS, wS, wS, wE_eE ts a]
 | .set _ _ a, ind => by rw [eS, wS, wS, wE_eE ts a]
 | .put _ a _ v, ind => by rw [eS, wS, wS, wE_eE ts a, wE_eE ts v, lvl_eE]
 | .lay _ a b v, ind => by rw [eS, wS, wS, wE_eE ts a, wE_eE ts b, wE_eE ts v, lvl_eE]
 | .print _ a, ind => by rw [eS, wS, wS, wE_eE ts a]
 | .ret _ a, ind => by rw [eS, wS, wS, wE_eE ts a]
 | .do_ _ a, ind => by rw [eS, wS, wS, wE_eE ts a]
 | .if_ _ a _ b none, ind => by rw [eS, wS, wS, wE_eE ts a, wSs_eSs ts b]
 | .if_ _ a _ b (some (cp, c)), ind => by rw [eS, wS, wS, wE_eE ts a, wSs_eSs ts b, wSs_eSs ts c]
 | .while_ _ a _ b, ind => by rw [eS, wS, wS, wE_eE ts a, wSs_eSs ts b]
end
mutual
theorem lexE_eE (ts : List Ty) : ∀ e : Ex, lexE ts (eE e) = lexE ts e
 | .num _ _ => by rw [eE, lexE, lexE]
 | .text _ _ => by rw [eE, lexE, lexE]
 | .bool _ _ => by rw [eE, lexE, lexE]
 | .null _ => by rw [eE, lexE, lexE]
 | .var _ _ => by rw [eE, lexE, lexE]
 | .fn _ ps ty _ body => by rw [eE, lexE, lexE, lexSs_eSs ts body, List.map_map]; rfl
 | .call _ a l => by rw [eE, lexE, lexE, lexE_eE ts a, lexEs_eEs ts l, lvl_eE]
 | .get _ a _ => by rw [eE, lexE, lexE, lexE_eE ts a, lvl_eE]
 | .at _ a b => by rw [eE, lexE, lexE, lexE_eE ts a, lexE_eE ts b, lvl_eE]
 | .obj _ l => by rw [eE, lexE, lexE, lexOs_eOs ts l]
 | .arr _ l => by rw [eE, lexE, lexE, lexEs_eEs ts l]
 | .two _ x a b => by rw [eE, lexE, lexE, lexE_eE ts a, lexE_eE ts b, lvl_eE, lvl_eE]
 | .one _ x a => by rw [eE, lexE, lexE, lexE_eE ts a, lvl_eE]
 | .as _ a _ => by rw [eE, lexE, lexE, lexE_eE ts a, lvl_eE]
theorem lexEs_eEs (ts : List Ty) : ∀ l : List Ex, lexEs ts (eEs l) = lexEs ts l
 | [] => by rw [eEs]
 | e :: l => by rw [eEs, lexEs, lexEs, lexE_eE ts e, lexEs_eEs ts l]
theorem lexOs_eOs (ts : List Ty) : ∀ l : List (Nat × ByteArray × Ex), lexOs ts (eOs l) = lexOs ts l
 | [] => by rw [eOs]
 | (p, x, e) :: l => by rw [eOs, lexOs, lexOs, lexE_eE ts e, lexOs_eOs ts l]
theorem lexSs_eSs (ts : List Ty) : ∀ l : List Sm, lexSs ts (eSs l) = lexSs ts l
 | [] => by rw [eSs]
 | e :: l => by rw [eSs, lexSs, lexSs, lexS_eS ts e, lexSs_eSs ts l]
theorem lexS_eS (ts : List Ty) : ∀ e : Sm, lexS ts (eS e) = lexS ts e
 | .let_ _ _ _ a => by rw [eS, lexS, lexS, lexE_eE ts a]
 | .set _ _ a => by rw [eS, lexS, lexS, lexE_eE ts a]
 | .put _ a _ v => by rw [eS, lexS, lexS, lexE_eE ts a, lexE_eE ts v, lvl_eE]
 | .lay _ a b v => by rw [eS, lexS, lexS, lexE_eE ts a, lexE_eE ts b, lexE_eE ts v, lvl_eE]
 | .print _ a => by rw [eS, lexS, lexS, lexE_eE ts a]
 | .ret _ a => by rw [eS, lexS, lexS, lexE_eE ts a]
 | .do_ _ a => by rw [eS, lexS, lexS, lexE_eE ts a]
 | .if_ _ a _ b none => by rw [eS, lexS, lexS, lexE_eE ts a, lexSs_eSs ts b]
 | .if_ _ a _ b (some (cp, c)) => by rw [eS, lexS, lexS, lexE_eE ts a, lexSs_eSs ts b, lexSs_eSs ts c]
 | .while_ _ a _ b => by rw [eS, lexS, lexS, lexE_eE ts a, lexSs_eSs ts b]
end
def kindS : Sm → Nat
 | .let_ .. => 17
 | .set .. => 18
 | .put .. => 19
 | .lay .. => 20
 | .print .. => 21
 | .ret .. => 24
 | .do_ .. => 25
 | .if_ .. => 22
 | .while_ .. => 23
section
variable {ns ns2 : List Nd}
theorem den_kind {e : Ex} {n : Nat} (h : DenE ns e n) : ∃ nd, ns[n]? = some nd ∧ nd.kind = kindE e := by
 cases e <;> rw [DenE] at h
 case num => exact ⟨_, h, rfl⟩
 case text => exact ⟨_, h, rfl⟩
 case bool => exact ⟨_, h, rfl⟩
 case null => exact ⟨_, h, rfl⟩
 case var => exact ⟨_, h, rfl⟩
 case fn => obtain ⟨_, _, h, _⟩ := h; exact ⟨_, h, rfl⟩
 case call => obtain ⟨_, _, h, _⟩ := h; exact ⟨_, h, rfl⟩
 case get => obtain ⟨_, h, _⟩ := h; exact ⟨_, h, rfl⟩
 case «at» => obtain ⟨_, _, h, _⟩ := h; exact ⟨_, h, rfl⟩
 case obj => obtain ⟨_, h, _⟩ := h; exact ⟨_, h, rfl⟩
 case arr => obtain ⟨_, h, _⟩ := h; exact ⟨_, h, rfl⟩
 case two => obtain ⟨_, _, h, _⟩ := h; exact ⟨_, h, rfl⟩
 case one => obtain ⟨_, h, _⟩ := h; exact ⟨_, h, rfl⟩
 case «as» => obtain ⟨_, h, _⟩ := h; exact ⟨_, h, rfl⟩
theorem denS_kind : ∀ {e : Sm} {n : Nat}, DenS ns e n → ∃ nd, ns[n]? = some nd ∧ nd.kind = kindS e
 | .let_ .., _, h => by rw [DenS] at h; obtain ⟨_, h, _⟩ := h; exact ⟨_, h, rfl⟩
 | .set .., _, h => by rw [DenS] at h; obtain ⟨_, h, _⟩ := h; exact ⟨_, h, rfl⟩
 | .put .., _, h => by rw [DenS] at h; obtain ⟨_, _, h, _⟩ := h; exact ⟨_, h, rfl⟩
 | .lay .., _, h => by rw [DenS] at h; obtain ⟨_, _, _, h, _⟩ := h; exact ⟨_, h, rfl⟩
 | .print .., _, h => by rw [DenS] at h; obtain ⟨_, h, _⟩ := h; exact ⟨_, h, rfl⟩
 | .ret .., _, h => by rw [DenS] at h; obtain ⟨_, h, _⟩ := h; exact ⟨_, h, rfl⟩
 | .do_ .., _, h => by rw [DenS] at h; obtain ⟨_, h, _⟩ := h; exact ⟨_, h, rfl⟩
 | .if_ _ _ _ _ none, _, h => by rw [DenS] at h; obtain ⟨_, _, h, _⟩ := h; exact ⟨_, h, rfl⟩
 | .if_ _ _ _ _ (some (_, _)), _, h => by rw [DenS] at h; obtain ⟨_, _, _, h, _⟩ := h; exact ⟨_, h, rfl⟩
 | .while_ .., _, h => by rw [DenS] at h; obtain ⟨_, _, h, _⟩ := h; exact ⟨_, h, rfl⟩
variable (he : ns2.map er = ns.map er)
include he
set_option maxHeartbeats 1600000
theorem er_get {n : Nat} {a b : Nd} (h : ns[n]? = some a) (h2 : ns2[n]? = some b) : er b = er a := by
 have := congrArg (fun l => l[n]?) he
 simp only [List.getElem?_map, h, h2, Option.map_some, Option.some.injEq] at this
 exact this
theorem er_all {n : Nat} {a b : Nd} (h : ns[n]? = some a) (h2 : ns2[n]? = some b) : b.kind = a.kind ∧ b.a = a.a ∧ b.b = a.b ∧ b.c = a.c ∧ b.list = a.list ∧ b.text = a.text ∧ b.n = a.n ∧ b.ty = a.ty := by
 have h := er_get he h h2
 obtain ⟨x1, x2, x3, x4, x5, x6, x7, x8, x9⟩ := a
 obtain ⟨y1, y2, y3, y4, y5, y6, y7, y8, y9⟩ := b
 simp only [er, Nd.mk.injEq] at h
 obtain ⟨h1, h2, h3, h4, h5, h6, h7, h8, _⟩ := h
 exact ⟨h1, h2, h3, h4, h5, h6, h7, h8⟩
theorem kind_uni {e e2 : Ex} {n : Nat} (h : DenE ns e n) (h2 : DenE ns2 e2 n) : kindE e = kindE e2 := by
 obtain ⟨a, g1, g2⟩ := den_kind h
 obtain ⟨b, k1, k2⟩ := den_kind h2
 have := (er_all he g1 k1).1
 omega
theorem kindS_uni {e e2 : Sm} {n : Nat} (h : DenS ns e n) (h2 : DenS ns2 e2 n) : kindS e = kindS e2 := by
 obtain ⟨a, g1, g2⟩ := denS_kind h
 obtain ⟨b, k1, k2⟩ := denS_kind h2
 have := (er_all he g1 k1).1
 omega
theorem denPs_uni : ∀ (ps ps2 : List Par) (l : List Nat), DenPs ns ps l → DenPs ns2 ps2 l → (ps.map fun q => (⟨0, q.text, q.ty⟩ : Par)) = ps2.map fun q => ⟨0, q.text, q.ty⟩
 | [], [], _, _, _ => rfl
 | [], _ :: _, _, h, ⟨_, _, e, _⟩ => by rw [DenPs] at h; rw [h] at e; cases e
 | _ :: _, [], _, ⟨_, _, e, _⟩, h => by rw [DenPs] at h; rw [h] at e; cases e
 | q :: ps, r :: ps2, _, ⟨n, t, rfl, h1, h2⟩, ⟨m, t2, e, k1, k2⟩ => by
   obtain ⟨rfl, rfl⟩ := List.cons.inj e
   have := er_all he h1 k1
   simp only [List.map_cons, denPs_uni ps ps2 t h2 k2]
   rw [show r.text = q.text from this.2.2.2.2.2.1, show r.ty = q.ty from this.2.2.2.2.2.2.2]
mutual
theorem denE_uni : ∀ (e e2 : Ex) (n : Nat), DenE ns e n → DenE ns2 e2 n → eE e = eE e2
 | .num _ _, e2, n, h, k => by
   have hk := kind_uni he h k
   cases e2 <;> simp [kindE] at hk
   rw [DenE] at h k
   have := er_all he h k
   simp only [ndOf] at this
   simp only [eE, this]
 | .text _ _, e2, n, h, k => by
   have hk := kind_uni he h k
   cases e2 <;> simp [kindE] at hk
   rw [DenE] at h k
   have := er_all he h k
   simp only [ndOf] at this
   simp only [eE, this]
 | .bool _ _, e2, n, h, k => by
   have hk := kind_uni he h k
   cases e2 <;> simp [kindE] at hk
   rw [DenE] at h k
   have := er_all he h k
   simp only [ndOf] at this
   simp only [eE, this]
 | .null _, e2, n, h, k => by
   have hk := kind_uni he h k
   cases e2 <;> simp [kindE] at hk
   simp only [eE]
 | .var _ _, e2, n, h, k => by
   have hk := kind_uni he h k
   cases e2 <;> simp [kindE] at hk
   rw [DenE] at h k
   have := er_all he h k
   simp only [ndOf] at this
   simp only [eE, this]
 | .fn _ ps ty bp body, e2, n, h, k => by
   have hk := kind_uni he h k
   cases e2 <;> simp [kindE] at hk
   rw [DenE] at h k
   obtain ⟨ids, b, h1, h2, h3⟩ := h
   obtain ⟨ids', b', k1, k2, k3⟩ := k
   have := er_all he h1 k1
   simp only [ndOf] at this
   obtain ⟨_, rfl, _, _, rfl, _, _, rfl⟩ := this
   rw [DenB] at h3 k3
   obtain ⟨j, h4, h5⟩ := h3
   obtain ⟨j', k4, k5⟩ := k3
   have := er_all he h4 k4
   simp only [ndOf] at this
   obtain ⟨_, _, _, _, rfl, _⟩ := this
   simp only [eE, denPs_uni he _ _ _ h2 k2, denSs_uni _ _ _ h5 k5]
 | .call _ a l, e2, n, h, k => by
   have hk := kind_uni he h k
   cases e2 <;> simp [kindE] at hk
   rw [DenE] at h k
   obtain ⟨na, nl, h1, h2, h3⟩ := h
   obtain ⟨na', nl', k1, k2, k3⟩ := k
   have := er_all he h1 k1
   simp only [ndOf] at this
   obtain ⟨_, rfl, _, _, rfl, _, _, _⟩ := this
   simp only [eE, denE_uni _ _ _ h2 k2, denEs_uni _ _ _ h3 k3]
 | .get _ a x, e2, n, h, k => by
   have hk := kind_uni he h k
   cases e2 <;> simp [kindE] at hk
   rw [DenE] at h k
   obtain ⟨na, h1, h2⟩ := h
   obtain ⟨na', k1, k2⟩ := k
   have := er_all he h1 k1
   simp only [ndOf] at this
   obtain ⟨_, rfl, _, _, _, rfl, _, _⟩ := this
   simp only [eE, denE_uni _ _ _ h2 k2]
 | .at _ a b, e2, n, h, k => by
   have hk := kind_uni he h k
   cases e2 <;> simp [kindE] at hk
   rw [DenE] at h k
   obtain ⟨na, nb, h1, h2, h3⟩ := h
   obtain ⟨na', nb', k1, k2, k3⟩ := k
   have := er_all he h1 k1
   simp only [ndOf] at this
   obtain ⟨_, rfl, rfl, _⟩ := this
   simp only [eE, denE_uni _ _ _ h2 k2, denE_uni _ _ _ h3 k3]
 | .obj _ l, e2, n, h, k => by
   have hk := kind_uni he h k
   cases e2 <;> simp [kindE] at hk
   rw [DenE] at h k
   obtain ⟨nl, h1, h2⟩ := h
   obtain ⟨nl', k1, k2⟩ := k
   have := er_all he h1 k1
   simp only [ndOf] at this
   obtain ⟨_, _, _, _, rfl, _⟩ := this
   simp only [eE, denOs_uni _ _ _ h2 k2]
 | .arr _ l, e2, n, h, k => by
   have hk := kind_uni he h k
   cases e2 <;> simp [kindE] at hk
   rw [DenE] at h k
   obtain ⟨nl, h1, h2⟩ := h
   obtain ⟨nl', k1, k2⟩ := k
   have := er_all he h1 k1
   simp only [ndOf] at this
   obtain ⟨_, _, _, _, rfl, _⟩ := this
   simp only [eE, denEs_uni _ _ _ h2 k2]
 | .two _ x a b, e2, n, h, k => by
   have hk := kind_uni he h k
   cases e2 <;> simp [kindE] at hk
   rw [DenE] at h k
   obtain ⟨na, nb, h1, h2, h3⟩ := h
   obtain ⟨na', nb', k1, k2, k3⟩ := k
   have := er_all he h1 k1
   simp only [ndOf] at this
   obtain ⟨_, rfl, rfl, _, _, rfl, _⟩ := this
   simp only [eE, denE_uni _ _ _ h2 k2, denE_uni _ _ _ h3 k3]
 | .one _ x a, e2, n, h, k => by
   have hk := kind_uni he h k
   cases e2 <;> simp [kindE] at hk
   rw [DenE] at h k
   obtain ⟨na, h1, h2⟩ := h
   obtain ⟨na', k1, k2⟩ := k
   have := er_all he h1 k1
   simp only [ndOf] at this
   obtain ⟨_, rfl, _, _, _, rfl, _, _⟩ := this
   simp only [eE, denE_uni _ _ _ h2 k2]
 | .as _ a ty, e2, n, h, k => by
   have hk := kind_uni he h k
   cases e2 <;> simp [kindE] at hk
   rw [DenE] at h k
   obtain ⟨na, h1, h2⟩ := h
   obtain ⟨na', k1, k2⟩ := k
   have := er_all he h1 k1
   simp only [ndOf] at this
   obtain ⟨_, rfl, _, _, _, _, _, rfl⟩ := this
   simp only [eE, denE_uni _ _ _ h2 k2]
theorem denEs_uni : ∀ (l l2 : List Ex) (nl : List Nat), DenEs ns l nl → DenEs ns2 l2 nl → eEs l = eEs l2
 | [], [], _, _, _ => rfl
 | [], _ :: _, _, h, k => by rw [DenEs] at h; rw [DenEs] at k; obtain ⟨_, _, e, _⟩ := k; rw [h] at e; cases e
 | _ :: _, [], _, h, k => by rw [DenEs] at h; rw [DenEs] at k; obtain ⟨_, _, e, _⟩ := h; rw [k] at e; cases e
 | e :: l, e2 :: l2, nl, h, k => by
   rw [DenEs] at h; rw [DenEs] at k
   obtain ⟨n, t, rfl, h1, h2⟩ := h
   obtain ⟨m, t2, eq, k1, k2⟩ := k
   obtain ⟨rfl, rfl⟩ := List.cons.inj eq
   simp only [eEs, denE_uni _ _ _ h1 k1, denEs_uni _ _ _ h2 k2]
theorem denOs_uni : ∀ (l l2 : List (Nat × ByteArray × Ex)) (nl : List Nat), DenOs ns l nl → DenOs ns2 l2 nl → eOs l = eOs l2
 | [], [], _, _, _ => rfl
 | [], (_, _, _) :: _, _, h, k => by rw [DenOs] at h; rw [DenOs] at k; obtain ⟨_, _, _, e, _⟩ := k; rw [h] at e; cases e
 | (_, _, _) :: _, [], _, h, k => by rw [DenOs] at h; rw [DenOs] at k; obtain ⟨_, _, _, e, _⟩ := h; rw [k] at e; cases e
 | (_, x, e) :: l, (_, y, e2) :: l2, nl, h, k => by
   rw [DenOs] at h; rw [DenOs] at k
   obtain ⟨n, a, t, rfl, h0, h1, h2⟩ := h
   obtain ⟨m, a2, t2, eq, k0, k1, k2⟩ := k
   obtain ⟨rfl, rfl⟩ := List.cons.inj eq
   have := er_all he h0 k0
   simp only [ndOf] at this
   obtain ⟨_, rfl, _, _, _, rfl, _, _⟩ := this
   simp only [eOs, denE_uni _ _ _ h1 k1, denOs_uni _ _ _ h2 k2]
theorem denSs_uni : ∀ (l l2 : List Sm) (nl : List Nat), DenSs ns l nl → DenSs ns2 l2 nl → eSs l = eSs l2
 | [], [], _, _, _ => rfl
 | [], _ :: _, _, h, k => by rw [DenSs] at h; rw [DenSs] at k; obtain ⟨_, _, e, _⟩ := k; rw [h] at e; cases e
 | _ :: _, [], _, h, k => by rw [DenSs] at h; rw [DenSs] at k; obtain ⟨_, _, e, _⟩ := h; rw [k] at e; cases e
 | e :: l, e2 :: l2, nl, h, k => by
   rw [DenSs] at h; rw [DenSs] at k
   obtain ⟨n, t, rfl, h1, h2⟩ := h
   obtain ⟨m, t2, eq, k1, k2⟩ := k
   obtain ⟨rfl, rfl⟩ := List.cons.inj eq
   simp only [eSs, denS_uni _ _ _ h1 k1, denSs_uni _ _ _ h2 k2]
theorem denS_uni : ∀ (e e2 : Sm) (n : Nat), DenS ns e n → DenS ns2 e2 n → eS e = eS e2
 | .let_ _ x ty a, e2, n, h, k => by
   have hk := kindS_uni he h k
   cases e2 <;> simp [kindS] at hk
   rw [DenS] at h; rw [DenS] at k
   obtain ⟨na, h1, h2⟩ := h
   obtain ⟨na', k1, k2⟩ := k
   have := er_all he h1 k1
   simp only [ndOf] at this
   obtain ⟨_, rfl, _, _, _, rfl, _, rfl⟩ := this
   simp only [eS, denE_uni _ _ _ h2 k2]
 | .set _ x a, e2, n, h, k => by
   have hk := kindS_uni he h k
   cases e2 <;> simp [kindS] at hk
   rw [DenS] at h; rw [DenS] at k
   obtain ⟨na, h1, h2⟩ := h
   obtain ⟨na', k1, k2⟩ := k
   have := er_all he h1 k1
   simp only [ndOf] at this
   obtain ⟨_, rfl, _, _, _, rfl, _, _⟩ := this
   simp only [eS, denE_uni _ _ _ h2 k2]
 | .put _ a x v, e2, n, h, k => by
   have hk := kindS_uni he h k
   cases e2 <;> simp [kindS] at hk
   rw [DenS] at h; rw [DenS] at k
   obtain ⟨na, nb, h1, h2, h3⟩ := h
   obtain ⟨na', nb', k1, k2, k3⟩ := k
   have := er_all he h1 k1
   simp only [ndOf] at this
   obtain ⟨_, rfl, rfl, _, _, rfl, _⟩ := this
   simp only [eS, denE_uni _ _ _ h2 k2, denE_uni _ _ _ h3 k3]
 | .lay _ a b v, e2, n, h, k => by
   have hk := kindS_uni he h k
   cases e2 <;> simp [kindS] at hk
   rw [DenS] at h; rw [DenS] at k
   obtain ⟨na, nb, nv, h1, h2, h3, h4⟩ := h
   obtain ⟨na', nb', nv', k1, k2, k3, k4⟩ := k
   have := er_all he h1 k1
   simp only [ndOf] at this
   obtain ⟨_, rfl, rfl, hv, _⟩ := this
   obtain rfl : nv' = nv := by omega
   simp only [eS, denE_uni _ _ _ h2 k2, denE_uni _ _ _ h3 k3, denE_uni _ _ _ h4 k4]
 | .print _ a, e2, n, h, k => by
   have hk := kindS_uni he h k
   cases e2 <;> simp [kindS] at hk
   rw [DenS] at h; rw [DenS] at k
   obtain ⟨na, h1, h2⟩ := h
   obtain ⟨na', k1, k2⟩ := k
   have := er_all he h1 k1
   simp only [ndOf] at this
   obtain ⟨_, rfl, _⟩ := this
   simp only [eS, denE_uni _ _ _ h2 k2]
 | .ret _ a, e2, n, h, k => by
   have hk := kindS_uni he h k
   cases e2 <;> simp [kindS] at hk
   rw [DenS] at h; rw [DenS] at k
   obtain ⟨na, h1, h2⟩ := h
   obtain ⟨na', k1, k2⟩ := k
   have := er_all he h1 k1
   simp only [ndOf] at this
   obtain ⟨_, rfl, _⟩ := this
   simp only [eS, denE_uni _ _ _ h2 k2]
 | .do_ _ a, e2, n, h, k => by
   have hk := kindS_uni he h k
   cases e2 <;> simp [kindS] at hk
   rw [DenS] at h; rw [DenS] at k
   obtain ⟨na, h1, h2⟩ := h
   obtain ⟨na', k1, k2⟩ := k
   have := er_all he h1 k1
   simp only [ndOf] at this
   obtain ⟨_, rfl, _⟩ := this
   simp only [eS, denE_uni _ _ _ h2 k2]
 | .if_ _ a _ b none, e2, n, h, k => by
   have hk := kindS_uni he h k
   cases e2 <;> simp [kindS] at hk
   rename_i c2
   rcases c2 with _ | ⟨cp2, c2⟩ <;> (rw [DenS] at h; rw [DenS] at k)
   · obtain ⟨na, nb, h1, h2, h3⟩ := h
     obtain ⟨na', nb', k1, k2, k3⟩ := k
     have := er_all he h1 k1
     simp only [ndOf] at this
     obtain ⟨_, rfl, rfl, _⟩ := this
     rw [DenB] at h3 k3
     obtain ⟨j, h4, h5⟩ := h3
     obtain ⟨j', k4, k5⟩ := k3
     have := er_all he h4 k4
     simp only [ndOf] at this
     obtain ⟨_, _, _, _, rfl, _⟩ := this
     simp only [eS, denE_uni _ _ _ h2 k2, denSs_uni _ _ _ h5 k5]
   · obtain ⟨na, nb, h1, h2, h3⟩ := h
     obtain ⟨na', nb', nc', k1, k2, k3⟩ := k
     have := er_all he h1 k1
     simp only [ndOf] at this
     omega
 | .if_ _ a _ b (some (cp, c)), e2, n, h, k => by
   have hk := kindS_uni he h k
   cases e2 <;> simp [kindS] at hk
   rename_i c2
   rcases c2 with _ | ⟨cp2, c2⟩ <;> (rw [DenS] at h; rw [DenS] at k)
   · obtain ⟨na, nb, nc, h1, h2, h3⟩ := h
     obtain ⟨na', nb', k1, k2, k3⟩ := k
     have := er_all he h1 k1
     simp only [ndOf] at this
     omega
   · obtain ⟨na, nb, nc, h1, h2, h3, h6⟩ := h
     obtain ⟨na', nb', nc', k1, k2, k3, k6⟩ := k
     have := er_all he h1 k1
     simp only [ndOf] at this
     obtain ⟨_, rfl, rfl, hc, _⟩ := this
     obtain rfl : nc' = nc := by omega
     rw [DenB] at h3 k3 h6 k6
     obtain ⟨j, h4, h5⟩ := h3
     obtain ⟨j', k4, k5⟩ := k3
     have := er_all he h4 k4
     simp only [ndOf] at this
     obtain ⟨_, _, _, _, rfl, _⟩ := this
     obtain ⟨i, h7, h8⟩ := h6
     obtain ⟨i', k7, k8⟩ := k6
     have := er_all he h7 k7
     simp only [ndOf] at this
     obtain ⟨_, _, _, _, rfl, _⟩ := this
     simp only [eS, denE_uni _ _ _ h2 k2, denSs_uni _ _ _ h5 k5, denSs_uni _ _ _ h8 k8]
 | .while_ _ a _ b, e2, n, h, k => by
   have hk := kindS_uni he h k
   cases e2 <;> simp [kindS] at hk
   rw [DenS] at h; rw [DenS] at k
   obtain ⟨na, nb, h1, h2, h3⟩ := h
   obtain ⟨na', nb', k1, k2, k3⟩ := k
   have := er_all he h1 k1
   simp only [ndOf] at this
   obtain ⟨_, rfl, rfl, _⟩ := this
   rw [DenB] at h3 k3
   obtain ⟨j, h4, h5⟩ := h3
   obtain ⟨j', k4, k5⟩ := k3
   have := er_all he h4 k4
   simp only [ndOf] at this
   obtain ⟨_, _, _, _, rfl, _⟩ := this
   simp only [eS, denE_uni _ _ _ h2 k2, denSs_uni _ _ _ h5 k5]
end
theorem layB_uni {l l2 : List Sm} {n : Nat} (h : layB 0 l [] = (ns, n)) (k : layB 0 l2 [] = (ns2, n)) : eSs l = eSs l2 := by
 have h1 := (layB_den 0 l []).2
 have k1 := (layB_den 0 l2 []).2
 rw [h] at h1
 rw [k] at k1
 rw [DenB] at h1 k1
 obtain ⟨i, a1, a2⟩ := h1
 obtain ⟨i2, b1, b2⟩ := k1
 have := er_all he a1 b1
 simp only [ndOf] at this
 obtain ⟨_, _, _, _, rfl, _⟩ := this
 exact denSs_uni he _ _ _ a2 b2
end
end Ty
end
end Go.Proofs.YtdlbhiaceheffabGreatDoor
