/- Plain: nodes grow behind what was there; an expression's node is the last one. -/
import Derived.Test.YtdlbhiaceheffabGreatDoorY01
set_option linter.all false
namespace Go.Proofs.YtdlbhiaceheffabGreatDoor
section
namespace Ty
open Tok (Tk)
def Pre {α : Type} (m : M α) : Prop := ∀ s a s', m s = .ok (a, s') → s.ns <+: s'.ns
def Nx (m : M Nat) : Prop := ∀ s a s', m s = .ok (a, s') → s.ns <+: s'.ns ∧ a + 1 = s'.ns.length ∧ s.ns.length ≤ a
theorem Nx.pre {m : M Nat} (h : Nx m) : Pre m := fun s a s' e => (h s a s' e).1
theorem Pre.ret {α : Type} (a : α) : Pre (ret a) := fun s b s' e => by cases e; exact List.prefix_rfl
theorem Pre.fail {α : Type} (af : List Tk) (n : Nat) : Pre (fail (α := α) af n) := fun s b s' h => by cases h
theorem Nx.fail (af : List Tk) (n : Nat) : Nx (fail af n) := fun s b s' h => by cases h
theorem Pre.step : Pre step := fun s b s' e => by cases e; exact List.prefix_rfl
theorem Pre.need (af : List Tk) (x : List UInt8) : Pre (need af x) := fun s b s' e => by
 unfold Ty.need at e; split at e <;> cases e; exact List.prefix_rfl
theorem Pre.take (af : List Tk) (x : List UInt8) : Pre (take af x) := fun s b s' e => by
 unfold Ty.take at e; split at e <;> cases e <;> exact List.prefix_rfl
theorem Pre.name (af : List Tk) (met : List ByteArray) : Pre (name af met) := fun s b s' e => by
 unfold Ty.name at e
 split at e
 · cases e
 · split at e <;> cases e; exact List.prefix_rfl
theorem Pre.newType (t : Ty) : Pre (newType t) := fun s b s' e => by cases e; exact List.prefix_rfl
theorem Pre.look {α : Type} {k : St → M α} (h : ∀ s, Pre (k s)) : Pre (Ty.look k) := fun s a s' x => h s s a s' x
theorem Nx.look {k : St → M Nat} (h : ∀ s, Nx (k s)) : Nx (Ty.look k) := fun s a s' x => h s s a s' x
theorem Nx.addNode (n : Nd) : Nx (addNode n) := fun s b s' e => by cases e; simp
theorem Pre.addNode (n : Nd) : Pre (addNode n) := (Nx.addNode n).pre
theorem Nx.two (x : ByteArray) (a b : Nat) : Nx (two x a b) := Nx.look fun _ => Nx.addNode _
theorem Pre.bnd {α β : Type} {m : M α} {k : α → M β} (h : Pre m) (g : ∀ a, Pre (k a)) : Pre (Ty.bnd m k) := fun s b s' x => by
 obtain ⟨a, s1, e1, e2⟩ := bnd_inv x
 exact (h _ _ _ e1).trans (g a _ _ _ e2)
theorem Nx.bnd {α : Type} {m : M α} {k : α → M Nat} (h : Pre m) (g : ∀ a, Nx (k a)) : Nx (Ty.bnd m k) := fun s b s' x => by
 obtain ⟨a, s1, e1, e2⟩ := bnd_inv x
 have h1 := h _ _ _ e1
 obtain ⟨g1, g2, g3⟩ := g a _ _ _ e2
 exact ⟨h1.trans g1, g2, Nat.le_trans h1.length_le g3⟩
theorem Pre.ite {α : Type} {p : Prop} [Decidable p] {m n : M α} (h : Pre m) (g : Pre n) : Pre (if p then m else n) := by split <;> assumption
theorem Nx.ite {p : Prop} [Decidable p] {m n : M Nat} (h : Nx m) (g : Nx n) : Nx (if p then m else n) := by split <;> assumption
theorem Pre.list {α : Type} {af : List Tk} {x : List UInt8} {m : List α → M α} (hm : ∀ l, Pre (m l)) : ∀ f l, Pre (list af x m f l)
 | 0, _ => Pre.fail _ _
 | f + 1, l => (Pre.take _ _).bnd fun _ => Pre.ite (Pre.ret l) ((Pre.ite (Pre.ret ()) (Pre.need _ _)).bnd fun _ => (hm l).bnd fun n => Pre.list hm f (l ++ [n]))
theorem Pre.fields {af : List Tk} {T : M Nat} (hT : Pre T) : ∀ f l, Pre (fields af T f l)
 | 0, _ => Pre.fail _ _
 | f + 1, l => (Pre.take _ _).bnd fun _ => Pre.ite (Pre.ret l) ((Pre.name _ _).bnd fun s => (Pre.need _ _).bnd fun _ => hT.bnd fun n => (Pre.need _ _).bnd fun _ => Pre.fields hT f (l ++ [(s, n)]))
theorem Pre.round {af : List Tk} {T : M Nat} (hT : Pre T) : Pre (round af T) :=
 (Pre.list (fun _ => hT) _ _).bnd fun _ => (Pre.take _ _).bnd fun _ => Pre.ite (hT.bnd fun _ => Pre.newType _) (Pre.ite (Pre.ret _) (Pre.fail _ _))
theorem Pre.single {af : List Tk} {T : M Nat} (hT : Pre T) : Pre (single af T) := fun s a s' h => by
 unfold Ty.single at h
 split at h
 · exact (Pre.step.bnd fun _ => Pre.newType _) s a s' h
 · exact ((Pre.take _ _).bnd fun b => Pre.ite ((Pre.fields hT _ _).bnd fun _ => Pre.newType _) ((Pre.take _ _).bnd fun b => Pre.ite (hT.bnd fun n => (Pre.need _ _).bnd fun _ => Pre.newType _) ((Pre.need _ _).bnd fun _ => Pre.round hT))) s a s' h
theorem Pre.bars {af : List Tk} {S : M Nat} (hS : Pre S) : ∀ f l, Pre (bars af S f l)
 | 0, _ => Pre.fail _ _
 | f + 1, l => (Pre.take _ _).bnd fun _ => Pre.ite (hS.bnd fun n => Pre.bars hS f (l ++ [n])) (Pre.ret l)
theorem Pre.union {af : List Tk} {S : M Nat} (hS : Pre S) : Pre (union af S) := hS.bnd fun _ => (Pre.bars hS _ _).bnd fun _ => Pre.ite (Pre.ret _) (Pre.newType _)
theorem Pre.typ (af : List Tk) : ∀ r, Pre (typ af r)
 | 0 => Pre.fail _ _
 | r + 1 => Pre.union (Pre.single (Pre.typ af r))
def Nl (n : Nat) (m : M Nat) : Prop := ∀ s a s', n + 1 = s.ns.length → m s = .ok (a, s') → s.ns <+: s'.ns ∧ a + 1 = s'.ns.length
theorem Nl.ret (n : Nat) : Nl n (ret n) := fun s a s' h e => by cases e; exact ⟨List.prefix_rfl, h⟩
theorem Nl.nx {n : Nat} {m : M Nat} (h : Nx m) : Nl n m := fun s a s' _ e => ⟨(h s a s' e).1, (h s a s' e).2.1⟩
theorem Nx.then {m : M Nat} {k : Nat → M Nat} (h : Nx m) (g : ∀ a, Nl a (k a)) : Nx (Ty.bnd m k) := fun s b s' x => by
 obtain ⟨a, s1, e1, e2⟩ := bnd_inv x
 obtain ⟨h1, h2, h3⟩ := h _ _ _ e1
 obtain ⟨g1, g2⟩ := g a _ _ _ h2 e2
 exact ⟨h1.trans g1, g2, by have := g1.length_le; omega⟩
theorem Nl.look {n : Nat} {k : St → M Nat} (h : ∀ s, Nl n (k s)) : Nl n (Ty.look k) := fun s a s' e x => h s s a s' e x
theorem Nl.ite {n : Nat} {p : Prop} [Decidable p] {m k : M Nat} (h : Nl n m) (g : Nl n k) : Nl n (if p then m else k) := by split <;> assumption
theorem Nl.bnd {α : Type} {n : Nat} {m : M α} {k : α → M Nat} (h : Pre m) (g : ∀ a, Nx (k a)) : Nl n (Ty.bnd m k) := Nl.nx (Nx.bnd h g)
theorem Nl.take {n : Nat} (af : List Tk) (x : List UInt8) {k : Bool → M Nat} (h : ∀ b, Nl n (k b)) : Nl n (Ty.bnd (Ty.take af x) k) := fun s a s' e y => by
 obtain ⟨b, s1, e1, e2⟩ := bnd_inv y
 unfold Ty.take at e1
 split at e1 <;> cases e1
 · exact h true { s with pos := s.pos + 1 } a s' e e2
 · exact h false s a s' e e2
theorem leftLoop_nl {af : List Tk} {one : M Nat} (h : Nx one) {signs : List (List UInt8)} : ∀ f n, Nl n (leftLoop af one signs f n)
 | 0, _ => Nl.nx (Nx.fail _ _)
 | f + 1, n => Nl.look fun _ => Nl.ite (Nl.bnd Pre.step fun _ => Nx.bnd h.pre fun _ => Nx.then (Nx.two _ _ _) fun m => leftLoop_nl h f m) (Nl.ret n)
theorem left_nx {af : List Tk} {one : M Nat} (h : Nx one) {signs : List (List UInt8)} : Nx (left af one signs) := Nx.then h fun n => leftLoop_nl h _ n
theorem sums_nx {af : List Tk} {one : M Nat} (h : Nx one) : Nx (sums af one) := left_nx (left_nx h)
theorem exprM_nx {af : List Tk} {one : M Nat} (h : Nx one) : Nx (exprM af one) :=
 Nx.then (sums_nx h) fun n => Nl.take _ _ fun _ => Nl.ite (Nl.bnd (sums_nx h).pre fun _ => Nx.two _ _ _) (Nl.take _ _ fun _ => Nl.ite (Nl.bnd (sums_nx h).pre fun _ => Nx.two _ _ _) (Nl.ret n))
theorem behind_nl {af : List Tk} {T E : M Nat} (hT : Pre T) (hE : Nx E) : ∀ f a, Nl a (behind af T E f a)
 | 0, _ => Nl.nx (Nx.fail _ _)
 | f + 1, a => Nl.look fun _ => Nl.take _ _ fun _ => Nl.ite (Nl.bnd (Pre.list (fun _ => hE.pre) _ _) fun _ => Nx.then (Nx.addNode _) fun m => behind_nl hT hE f m)
     (Nl.take _ _ fun _ => Nl.ite (Nl.bnd (Pre.name _ _) fun _ => Nx.then (Nx.addNode _) fun m => behind_nl hT hE f m)
     (Nl.take _ _ fun _ => Nl.ite (Nl.bnd hE.pre fun _ => Nx.bnd (Pre.need _ _) fun _ => Nx.then (Nx.addNode _) fun m => behind_nl hT hE f m)
     (Nl.take _ _ fun _ => Nl.ite (Nl.bnd hT fun _ => Nx.then (Nx.addNode _) fun m => behind_nl hT hE f m) (Nl.ret a))))
theorem Pre.written {af : List Tk} {T : M Nat} (hT : Pre T) : Pre (written af T) := (Pre.take _ _).bnd fun _ => Pre.ite (hT.bnd fun _ => Pre.ret _) (Pre.ret _)
theorem Pre.partM {af : List Tk} {E : M Nat} (hE : Pre E) (met : List ByteArray) : Pre (partM af E met) :=
 Pre.look fun _ => (Pre.name _ _).bnd fun _ => (Pre.need _ _).bnd fun _ => hE.bnd fun _ => (Pre.addNode _).bnd fun _ => Pre.ret _
theorem Pre.paramM {af : List Tk} {T : M Nat} (hT : Pre T) (met : List ByteArray) : Pre (paramM af T met) :=
 Pre.look fun _ => (Pre.name _ _).bnd fun _ => (Pre.written hT).bnd fun _ => (Pre.addNode _).bnd fun _ => Pre.ret _
theorem Pre.stmts {af : List Tk} {S : M Nat} (hS : Pre S) : ∀ f l, Pre (stmts af S f l)
 | 0, _ => Pre.fail _ _
 | f + 1, _ => (Pre.take _ _).bnd fun _ => Pre.ite (Pre.ret _) (hS.bnd fun _ => Pre.stmts hS f _)
theorem blockM_nx {af : List Tk} {S : M Nat} (hS : Pre S) : Nx (blockM af S) := Nx.look fun _ => Nx.bnd (Pre.need _ _) fun _ => Nx.bnd (Pre.stmts hS _ _) fun _ => Nx.addNode _
theorem functionM_nx {af : List Tk} {T S : M Nat} (hT : Pre T) (hS : Pre S) (pos : Nat) : Nx (functionM af T S pos) :=
 Nx.bnd (Pre.need _ _) fun _ => Nx.bnd (Pre.list (fun _ => Pre.paramM hT _) _ _) fun _ => Nx.bnd (Pre.written hT) fun _ => Nx.bnd (blockM_nx hS).pre fun _ => Nx.addNode _
theorem inner_nx {af : List Tk} {E : M Nat} (hE : Nx E) : Nx (bnd (need af [40]) fun _ => bnd E fun a => bnd (need af [41]) fun _ => ret a) := by
 refine Nx.bnd (Pre.need _ _) fun _ => Nx.then hE fun a => fun s n s' h x => ?_
 obtain ⟨u, s1, e1, e2⟩ := bnd_inv x
 cases e2
 unfold need at e1
 split at e1 <;> cases e1
 exact ⟨List.prefix_rfl, h⟩
theorem simpleM_nx {af : List Tk} {T E S : M Nat} (hT : Pre T) (hE : Nx E) (hS : Pre S) : Nx (simpleM af T E S) :=
 Nx.look fun _ => Nx.ite (Nx.bnd Pre.step fun _ => Nx.addNode _) <| Nx.ite (Nx.bnd Pre.step fun _ => Nx.addNode _) <| Nx.ite (Nx.bnd Pre.step fun _ => Nx.addNode _) <|
 Nx.bnd (Pre.take _ _) fun _ => Nx.ite (Nx.addNode _) <| Nx.bnd (Pre.take _ _) fun _ => Nx.ite (Nx.addNode _) <| Nx.bnd (Pre.take _ _) fun _ => Nx.ite (Nx.addNode _) <|
 Nx.bnd (Pre.take _ _) fun _ => Nx.ite (functionM_nx hT hS _) <| Nx.bnd (Pre.take _ _) fun _ => Nx.ite (Nx.bnd (Pre.list (fun _ => hE.pre) _ _) fun _ => Nx.addNode _) <|
 Nx.bnd (Pre.take _ _) fun _ => Nx.ite (Nx.bnd (Pre.list (fun _ => Pre.partM hE.pre _) _ _) fun _ => Nx.addNode _) <| inner_nx hE
theorem oneM_nx {af : List Tk} {T E O S : M Nat} (hT : Pre T) (hE : Nx E) (hO : Nx O) (hS : Pre S) : Nx (oneM af T E O S) :=
 Nx.look fun _ => Nx.ite (Nx.bnd Pre.step fun _ => Nx.bnd hO.pre fun _ => Nx.addNode _) (Nx.then (simpleM_nx hT hE hS) fun a => behind_nl hT hE _ a)
theorem plainM_nx {af : List Tk} {E : M Nat} (hE : Nx E) : Nx (plainM af E) := fun s n s' x => by
 obtain ⟨a, s1, e1, e2⟩ := bnd_inv x
 obtain ⟨h1, h2, h3⟩ := hE _ _ _ e1
 have key : ∀ (f : Nat → Nd), (bnd (trunc a) fun _ => bnd step fun _ => bnd E fun v => bnd (need af [59]) fun _ => addNode (f v)) s1 = .ok (n, s') → s.ns <+: s'.ns ∧ n + 1 = s'.ns.length ∧ s.ns.length ≤ n := fun f y => by
   have hk : Nx (bnd step fun _ => bnd E fun v => bnd (need af [59]) fun _ => addNode (f v)) := Nx.bnd Pre.step fun _ => Nx.bnd hE.pre fun _ => Nx.bnd (Pre.need _ _) fun _ => Nx.addNode _
   obtain ⟨g1, g2, g3⟩ := hk { s1 with ns := s1.ns.take a } n s' y
   have hp : s.ns <+: s1.ns.take a := by
     obtain ⟨t, ht⟩ := h1
     rw [← ht, List.take_append, List.take_of_length_le h3]
     exact List.prefix_append _ _
   refine ⟨hp.trans g1, g2, Nat.le_trans hp.length_le g3⟩
 unfold look at e2
 dsimp only at e2
 split at e2
 · split at e2
   · exact key _ e2
   · split at e2
     · exact key _ e2
     · split at e2
       · exact key _ e2
       · cases e2
 · obtain ⟨g1, g2, g3⟩ := (Nx.bnd (Pre.need af [59]) fun _ => Nx.addNode { ndOf 25 (ndAt s1 a).pos with a := a }) _ _ _ e2
   exact ⟨h1.trans g1, g2, Nat.le_trans h1.length_le g3⟩
theorem branchM_nx {af : List Tk} {E S : M Nat} (hE : Pre E) (hS : Pre S) (yes : Bool) (pos : Nat) : Nx (branchM af E S yes pos) :=
 Nx.bnd Pre.step fun _ => Nx.bnd (Pre.need _ _) fun _ => Nx.bnd hE fun _ => Nx.bnd (Pre.need _ _) fun _ => Nx.bnd (blockM_nx hS).pre fun _ => Nx.ite (Nx.bnd (Pre.take _ _) fun _ => Nx.ite (Nx.bnd (blockM_nx hS).pre fun _ => Nx.addNode _) (Nx.addNode _)) (Nx.addNode _)
theorem bareM_nx {af : List Tk} {T E S : M Nat} (hT : Pre T) (hE : Nx E) (hS : Pre S) : Nx (bareM af T E S) :=
 Nx.look fun _ => Nx.bnd (Pre.take _ _) fun _ => Nx.ite (Nx.bnd (Pre.name _ _) fun _ => Nx.bnd (Pre.written hT) fun _ => Nx.bnd (Pre.need _ _) fun _ => Nx.bnd hE.pre fun _ => Nx.bnd (Pre.need _ _) fun _ => Nx.addNode _) <|
 Nx.bnd (Pre.take _ _) fun _ => Nx.ite (Nx.bnd hE.pre fun _ => Nx.bnd (Pre.need _ _) fun _ => Nx.addNode _) <|
 Nx.bnd (Pre.take _ _) fun _ => Nx.ite (Nx.bnd hE.pre fun _ => Nx.bnd (Pre.need _ _) fun _ => Nx.addNode _) <|
 Nx.look fun _ => Nx.ite (branchM_nx hE.pre hS _ _) <| Nx.ite (branchM_nx hE.pre hS _ _) (plainM_nx hE)
theorem lv_nx (af : List Tk) : ∀ r, Nx (lv af r).E ∧ Nx (lv af r).O ∧ Nx (lv af r).S
 | 0 => ⟨Nx.fail _ _, Nx.fail _ _, Nx.fail _ _⟩
 | r + 1 => by
   obtain ⟨h1, h2, h3⟩ := lv_nx af r
   have hT := Pre.typ af r
   exact ⟨exprM_nx (oneM_nx hT h1 h2 h3.pre), oneM_nx hT h1 h2 h3.pre, bareM_nx hT h1 h3.pre⟩
end Ty
end
section
namespace Ty
structure Par where
 pos : Nat
 text : ByteArray
 ty : Int
mutual
inductive Ex where
 | num (p n : Nat)
 | text (p : Nat) (x : ByteArray)
 | bool (p n : Nat)
 | null (p : Nat)
 | var (p : Nat) (x : ByteArray)
 | fn (p : Nat) (ps : List Par) (ty : Int) (bp : Nat) (body : List Sm)
 | call (p : Nat) (a : Ex) (l : List Ex)
 | get (p : Nat) (a : Ex) (x : ByteArray)
 | at (p : Nat) (a b : Ex)
 | obj (p : Nat) (l : List (Nat × ByteArray × Ex))
 | arr (p : Nat) (l : List Ex)
 | two (p : Nat) (x : ByteArray) (a b : Ex)
 | one (p : Nat) (x : ByteArray) (a : Ex)
 | as (p : Nat) (a : Ex) (ty : Int)
inductive Sm where
 | let_ (p : Nat) (x : ByteArray) (ty : Int) (a : Ex)
 | set (p : Nat) (x : ByteArray) (v : Ex)
 | put (p : Nat) (a : Ex) (x : ByteArray) (v : Ex)
 | lay (p : Nat) (a b v : Ex)
 | print (p : Nat) (a : Ex)
 | ret (p : Nat) (a : Ex)
 | do_ (p : Nat) (a : Ex)
 | if_ (p : Nat) (a : Ex) (bp : Nat) (b : List Sm) (c : Option (Nat × List Sm))
 | while_ (p : Nat) (a : Ex) (bp : Nat) (b : List Sm)
end
def layPs : List Par → List Nd → List Nd × List Nat
 | [], ns => (ns, [])
 | q :: ps, ns => let r := layPs ps (ns ++ [{ ndOf 16 q.pos with text := q.text, ty := q.ty }]); (r.1, ns.length :: r.2)
mutual
def layE : Ex → List Nd → List Nd × Nat
 | .num p n, ns => (ns ++ [{ ndOf 1 p with n := n }], ns.length)
 | .text p x, ns => (ns ++ [{ ndOf 2 p with text := x }], ns.length)
 | .bool p n, ns => (ns ++ [{ ndOf 3 p with n := n }], ns.length)
 | .null p, ns => (ns ++ [ndOf 4 p], ns.length)
 | .var p x, ns => (ns ++ [{ ndOf 5 p with text := x }], ns.length)
 | .fn p ps ty bp body, ns => let r := layPs ps ns; let b := layB bp body r.1; (b.1 ++ [{ ndOf 6 p with list := r.2, ty := ty, a := b.2 }], b.1.length)
 | .call p a l, ns => let r := layE a ns; let q := layEs l r.1; (q.1 ++ [{ ndOf 7 p with a := r.2, list := q.2 }], q.1.length)
 | .get p a x, ns => let r := layE a ns; (r.1 ++ [{ ndOf 8 p with a := r.2, text := x }], r.1.length)
 | .at p a b, ns => let r := layE a ns; let q := layE b r.1; (q.1 ++ [{ ndOf 9 p with a := r.2, b := q.2 }], q.1.length)
 | .obj p l, ns => let q := layOs l ns; (q.1 ++ [{ ndOf 10 p with list := q.2 }], q.1.length)
 | .arr p l, ns => let q := layEs l ns; (q.1 ++ [{ ndOf 11 p with list := q.2 }], q.1.length)
 | .two p x a b, ns => let r := layE a ns; let q := layE b r.1; (q.1 ++ [{ ndOf 12 p with text := x, a := r.2, b := q.2 }], q.1.length)
 | .one p x a, ns => let r := layE a ns; (r.1 ++ [{ ndOf 13 p with text := x, a := r.2 }], r.1.length)
 | .as p a ty, ns => let r := layE a ns; (r.1 ++ [{ ndOf 14 p with a := r.2, ty := ty }], r.1.length)
def layEs : List Ex → List Nd → List Nd × List Nat
 | [], ns => (ns, [])
 | e :: l, ns => let r := layE e ns; let q := layEs l r.1; (q.1, r.2 :: q.2)
def layOs : List (Nat × ByteArray × Ex) → List Nd → List Nd × List Nat
 | [], ns => (ns, [])
 | (p, x, e) :: l, ns => let r := layE e ns; let q := layOs l (r.1 ++ [{ ndOf 15 p with text := x, a := r.2 }]); (q.1, r.1.length :: q.2)
def layB (bp : Nat) (l : List Sm) (ns : List Nd) : List Nd × Nat := let q := laySs l ns; (q.1 ++ [{ ndOf 26 bp with list := q.2 }], q.1.length)
def laySs : List Sm → List Nd → List Nd × List Nat
 | [], ns => (ns, [])
 | e :: l, ns => let r := layS e ns; let q := laySs l r.1; (q.1, r.2 :: q.2)
def layS : Sm → List Nd → List Nd × Nat
 | .let_ p x ty a, ns => let r := layE a ns; (r.1 ++ [{ ndOf 17 p with text := x, ty := ty, a := r.2 }], r.1.length)
 | .set p x v, ns => let r := layE v ns; (r.1 ++ [{ ndOf 18 p with text := x, a := r.2 }], r.1.length)
 | .put p a x v, ns => let r := layE a ns; let q := layE v r.1; (q.1 ++ [{ ndOf 19 p with text := x, a := r.2, b := q.2 }], q.1.length)
 | .lay p a b v, ns => let r := layE a ns; let q := layE b r.1; let u := layE v q.1; (u.1 ++ [{ ndOf 20 p with a := r.2, b := q.2, c := (u.2 : Int) }], u.1.length)
 | .print p a, ns => let r := layE a ns; (r.1 ++ [{ ndOf 21 p with a := r.2 }], r.1.length)
 | .ret p a, ns => let r := layE a ns; (r.1 ++ [{ ndOf 24 p with a := r.2 }], r.1.length)
 | .do_ p a, ns => let r := layE a ns; (r.1 ++ [{ ndOf 25 p with a := r.2 }], r.1.length)
 | .if_ p a bp b none, ns => let r := layE a ns; let q := layB bp b r.1; (q.1 ++ [{ ndOf 22 p with a := r.2, b := q.2, c := -1 }], q.1.length)
 | .if_ p a bp b (some (cp, c)), ns => let r := layE a ns; let q := layB bp b r.1; let u := layB cp c q.1; (u.1 ++ [{ ndOf 22 p with a := r.2, b := q.2, c := (u.2 : Int) }], u.1.length)
 | .while_ p a bp b, ns => let r := layE a ns; let q := layB bp b r.1; (q.1 ++ [{ ndOf 23 p with a := r.2, b := q.2 }], q.1.length)
end
end Ty
end
section
namespace Ty
open Tok (Tk)
def Keeps {α : Type} (m : M α) : Prop := ∀ s a s', m s = .ok (a, s') → s'.ns = s.ns
section
variable {α β : Type}
theorem Keeps.ret (a : α) : Keeps (ret a) := fun s b s' e => by cases e; rfl
theorem Keeps.fail (af : List Tk) (n : Nat) : Keeps (fail (α := α) af n) := fun s b s' h => by cases h
theorem Keeps.step : Keeps step := fun s b s' e => by cases e; rfl
theorem Keeps.need (af : List Tk) (x : List UInt8) : Keeps (need af x) := fun s b s' e => by unfold Ty.need at e; split at e <;> cases e; rfl
theorem Keeps.take (af : List Tk) (x : List UInt8) : Keeps (take af x) := fun s b s' e => by unfold Ty.take at e; split at e <;> cases e <;> rfl
theorem Keeps.name (af : List Tk) (met : List ByteArray) : Keeps (name af met) := fun s b s' e => by
 unfold Ty.name at e
 split at e
 · cases e
 · split at e <;> cases e; rfl
theorem Keeps.newType (t : Ty) : Keeps (newType t) := fun s b s' e => by cases e; rfl
theorem Keeps.look {k : St → M α} (h : ∀ s, Keeps (k s)) : Keeps (Ty.look k) := fun s a s' x => h s s a s' x
theorem Keeps.bnd {m : M α} {k : α → M β} (h : Keeps m) (g : ∀ a, Keeps (k a)) : Keeps (Ty.bnd m k) := fun s b s' x => by
 obtain ⟨a, s1, e1, e2⟩ := bnd_inv x
 exact (g a _ _ _ e2).trans (h _ _ _ e1)
theorem Keeps.ite {p : Prop} [Decidable p] {m n : M α} (h : Keeps m) (g : Keeps n) : Keeps (if p then m else n) := by split <;> assumption
theorem Keeps.list {af : List Tk} {x : List UInt8} {m : List α → M α} (hm : ∀ l, Keeps (m l)) : ∀ f l, Keeps (list af x m f l)
 | 0, _ => Keeps.fail _ _
 | f + 1, l => (Keeps.take _ _).bnd fun _ => Keeps.ite (Keeps.ret l) ((Keeps.ite (Keeps.ret ()) (Keeps.need _ _)).bnd fun _ => (hm l).bnd fun n => Keeps.list hm f (l ++ [n]))
theorem Keeps.fields {af : List Tk} {T : M Nat} (hT : Keeps T) : ∀ f l, Keeps (fields af T f l)
 | 0, _ => Keeps.fail _ _
 | f + 1, l => (Keeps.take _ _).bnd fun _ => Keeps.ite (Keeps.ret l) ((Keeps.name _ _).bnd fun s => (Keeps.need _ _).bnd fun _ => hT.bnd fun n => (Keeps.need _ _).bnd fun _ => Keeps.fields hT f (l ++ [(s, n)]))
theorem Keeps.round {af : List Tk} {T : M Nat} (hT : Keeps T) : Keeps (round af T) :=
 (Keeps.list (fun _ => hT) _ _).bnd fun _ => (Keeps.take _ _).bnd fun _ => Keeps.ite (hT.bnd fun _ => Keeps.newType _) (Keeps.ite (Keeps.ret _) (Keeps.fail _ _))
theorem Keeps.single {af : List Tk} {T : M Nat} (hT : Keeps T) : Keeps (single af T) := fun s a s' h => by
 unfold Ty.single at h
 split at h
 · exact (Keeps.step.bnd fun _ => Keeps.newType _) s a s' h
 · exact ((Keeps.take _ _).bnd fun b => Keeps.ite ((Keeps.fields hT _ _).bnd fun _ => Keeps.newType _) ((Keeps.take _ _).bnd fun b => Keeps.ite (hT.bnd fun n => (Keeps.need _ _).bnd fun _ => Keeps.newType _) ((Keeps.need _ _).bnd fun _ => Keeps.round hT))) s a s' h
theorem Keeps.bars {af : List Tk} {S : M Nat} (hS : Keeps S) : ∀ f l, Keeps (bars af S f l)
 | 0, _ => Keeps.fail _ _
 | f + 1, l => (Keeps.take _ _).bnd fun _ => Keeps.ite (hS.bnd fun n => Keeps.bars hS f (l ++ [n])) (Keeps.ret l)
theorem Keeps.union {af : List Tk} {S : M Nat} (hS : Keeps S) : Keeps (union af S) := hS.bnd fun _ => (Keeps.bars hS _ _).bnd fun _ => Keeps.ite (Keeps.ret _) (Keeps.newType _)
theorem Keeps.typ (af : List Tk) : ∀ r, Keeps (typ af r)
 | 0 => Keeps.fail _ _
 | r + 1 => Keeps.union (Keeps.single (Keeps.typ af r))
theorem Keeps.written {af : List Tk} {T : M Nat} (hT : Keeps T) : Keeps (written af T) := (Keeps.take _ _).bnd fun _ => Keeps.ite (hT.bnd fun _ => Keeps.ret _) (Keeps.ret _)
end
def OutE (m : M Nat) : Prop := ∀ s n s', m s = .ok (n, s') → ∃ e, layE e s.ns = (s'.ns, n)
def OutS (m : M Nat) : Prop := ∀ s n s', m s = .ok (n, s') → ∃ e, layS e s.ns = (s'.ns, n)
section
variable {af : List Tk} {T E O S ONE : M Nat}
theorem leftLoop_out (h : OutE ONE) {signs : List (List UInt8)} : ∀ f n (s0 : List Nd) s, (∃ e, layE e s0 = (s.ns, n)) → ∀ m s', leftLoop af ONE signs f n s = .ok (m, s') → ∃ e, layE e s0 = (s'.ns, m)
 | 0, _, _, _, _, _, _, x => by cases x
 | f + 1, n, s0, s, ⟨e, he⟩, m, s', x => by
   have x : (if signs.any (fun x => is af x s.pos) = true then bnd step fun _ => bnd ONE fun b => bnd (two (cur af s.pos).text n b) fun m => leftLoop af ONE signs f m else ret n : M Nat) s = .ok (m, s') := x
   split at x
   · obtain ⟨_, s1, e1, x⟩ := bnd_inv x
     obtain ⟨b, s2, e2, x⟩ := bnd_inv x
     obtain ⟨k, s3, e3, x⟩ := bnd_inv x
     obtain ⟨eb, hb⟩ := h _ _ _ e2
     cases e1
     cases e3
     refine leftLoop_out h f _ s0 _ ⟨.two (ndAt s2 n).pos (cur af s.pos).text e eb, ?_⟩ m s' x
     rw [layE, he]
     dsimp only at hb ⊢
     rw [hb]
   · cases x; exact ⟨e, he⟩
theorem left_out (h : OutE ONE) {signs : List (List UInt8)} : OutE (left af ONE signs) := fun s n s' x => by
 obtain ⟨a, s1, e1, x⟩ := bnd_inv x
 exact leftLoop_out h _ _ _ _ (h _ _ _ e1) _ _ x
theorem two_out {x : ByteArray} {n b m : Nat} {s0 : List Nd} {s1 s2 s3 : St} {e eb : Ex} (he : layE e s0 = (s1.ns, n)) (hb : layE eb s1.ns = (s2.ns, b)) (h : two x n b s2 = .ok (m, s3)) : ∃ e', layE e' s0 = (s3.ns, m) := by
 cases h
 exact ⟨.two (ndAt s2 n).pos x e eb, by rw [layE, he]; dsimp only; rw [hb]⟩
theorem exprM_out (h : OutE ONE) : OutE (exprM af ONE) := fun s n s' x => by
 have hs : OutE (sums af ONE) := left_out (left_out h)
 obtain ⟨a, s1, e1, x⟩ := bnd_inv x
 obtain ⟨e, he⟩ := hs _ _ _ e1
 obtain ⟨b, s2, e2, x⟩ := bnd_inv x
 have k2 := Keeps.take _ _ _ _ _ e2
 cases b
 · obtain ⟨b, s3, e3, x⟩ := bnd_inv (show bnd (take af [60]) _ s2 = _ from x)
   have k3 := Keeps.take _ _ _ _ _ e3
   cases b
   · have x : ret a s3 = .ok (n, s') := x
     cases x
     exact ⟨e, by rw [he, k3, k2]⟩
   · obtain ⟨m, s4, e4, x⟩ := bnd_inv (show bnd (sums af ONE) (fun m => two ⟨#[60]⟩ a m) s3 = _ from x)
     obtain ⟨eb, hb⟩ := hs _ _ _ e4
     rw [k3, k2] at hb
     exact two_out he hb x
 · obtain ⟨m, s4, e4, x⟩ := bnd_inv (show bnd (sums af ONE) (fun m => two ⟨#[61, 61]⟩ a m) s2 = _ from x)
   obtain ⟨eb, hb⟩ := hs _ _ _ e4
   rw [k2] at hb
   exact two_out he hb x
theorem list_outE {x : List UInt8} (h : OutE E) : ∀ f l s r s', list af x (fun _ => E) f l s = .ok (r, s') → ∃ es ids, layEs es s.ns = (s'.ns, ids) ∧ r = l ++ ids
 | 0, _, _, _, _, y => by cases y
 | f + 1, l, s, r, s', y => by
   obtain ⟨b, s1, e1, y⟩ := bnd_inv y
   have k1 := Keeps.take _ _ _ _ _ e1
   cases b
   · obtain ⟨_, s2, e2, y⟩ := bnd_inv (show bnd (if l.length = 0 then ret () else need af [44]) _ s1 = _ from y)
     have k2 := (Keeps.ite (Keeps.ret ()) (Keeps.need af [44])) _ _ _ e2
     obtain ⟨n, s3, e3, y⟩ := bnd_inv y
     obtain ⟨e, he⟩ := h _ _ _ e3
     obtain ⟨es, ids, h1, h2⟩ := list_outE h f _ _ _ _ y
     refine ⟨e :: es, n :: ids, ?_, by rw [h2]; simp⟩
     rw [layEs, ← k1, ← k2, he]
     dsimp only
     rw [h1]
   · have y : ret l s1 = .ok (r, s') := y
     cases y
     exact ⟨[], [], by rw [layEs, k1], by simp⟩
theorem list_outO {x : List UInt8} (h : OutE E) : ∀ f l s r s', list af x (fun l => partM af E (l.map Prod.fst)) f l s = .ok (r, s') → ∃ os ids, layOs os s.ns = (s'.ns, ids) ∧ r.map Prod.snd = l.map Prod.snd ++ ids
 | 0, _, _, _, _, y => by cases y
 | f + 1, l, s, r, s', y => by
   obtain ⟨b, s1, e1, y⟩ := bnd_inv y
   have k1 := Keeps.take _ _ _ _ _ e1
   cases b
   · obtain ⟨_, s2, e2, y⟩ := bnd_inv (show bnd (if l.length = 0 then ret () else need af [44]) _ s1 = _ from y)
     have k2 := (Keeps.ite (Keeps.ret ()) (Keeps.need af [44])) _ _ _ e2
     obtain ⟨q, s3, e3, y⟩ := bnd_inv y
     obtain ⟨nm, t1, f1, g⟩ := bnd_inv (show bnd (name af (l.map Prod.fst)) (fun x => bnd (need af [58]) fun _ => bnd E fun a => bnd (addNode { ndOf 15 (cur af s2.pos).pos with text := x, a := a }) fun n => ret (x, n)) s2 = _ from e3)
     have m1 := Keeps.name _ _ _ _ _ f1
     obtain ⟨_, t2, f2, g⟩ := bnd_inv g
     have m2 := Keeps.need _ _ _ _ _ f2
     obtain ⟨a, t3, f3, g⟩ := bnd_inv g
     obtain ⟨e, he⟩ := h _ _ _ f3
     cases g
     obtain ⟨os, ids, h1, h2⟩ := list_outO h f _ _ _ _ y
     refine ⟨((cur af s2.pos).pos, nm, e) :: os, t3.ns.length :: ids, ?_, by rw [h2]; simp⟩
     rw [layOs, ← k1, ← k2, ← m1, ← m2, he]
     dsimp only at h1 ⊢
     rw [h1]
   · have y : ret l s1 = .ok (r, s') := y
     cases y
     exact ⟨[], [], by rw [layOs, k1], by simp⟩
theorem list_outP {x : List UInt8} (hT : Keeps T) : ∀ f l s r s', list af x (fun l => paramM af T (l.map Prod.fst)) f l s = .ok (r, s') → ∃ ps ids, layPs ps s.ns = (s'.ns, ids) ∧ r.map Prod.snd = l.map Prod.snd ++ ids
 | 0, _, _, _, _, y => by cases y
 | f + 1, l, s, r, s', y => by
   obtain ⟨b, s1, e1, y⟩ := bnd_inv y
   have k1 := Keeps.take _ _ _ _ _ e1
   cases b
   · obtain ⟨_, s2, e2, y⟩ := bnd_inv (show bnd (if l.length = 0 then ret () else need af [44]) _ s1 = _ from y)
     have k2 := (Keeps.ite (Keeps.ret ()) (Keeps.need af [44])) _ _ _ e2
     obtain ⟨q, s3, e3, y⟩ := bnd_inv y
     obtain ⟨nm, t1, f1, g⟩ := bnd_inv (show bnd (name af (l.map Prod.fst)) (fun x => bnd (written af T) fun t => bnd (addNode { ndOf 16 (cur af s2.pos).pos with text := x, ty := t }) fun n => ret (x, n)) s2 = _ from e3)
     have m1 := Keeps.name _ _ _ _ _ f1
     obtain ⟨t, t2, f2, g⟩ := bnd_inv g
     have m2 := Keeps.written hT _ _ _ f2
     cases g
     obtain ⟨ps, ids, h1, h2⟩ := list_outP hT f _ _ _ _ y
     refine ⟨⟨(cur af s2.pos).pos, nm, t⟩ :: ps, t2.ns.length :: ids, ?_, by rw [h2]; simp⟩
     rw [layPs, ← k1, ← k2, ← m1, ← m2]
     dsimp only at h1 ⊢
     rw [h1]
   · have y : ret l s1 = .ok (r, s') := y
     cases y
     exact ⟨[], [], by rw [layPs, k1], by simp⟩
theorem stmts_out (h : OutS S) : ∀ f l s r s', stmts af S f l s = .ok (r, s') → ∃ es ids, laySs es s.ns = (s'.ns, ids) ∧ r = l ++ ids
 | 0, _, _, _, _, y => by cases y
 | f + 1, l, s, r, s', y => by
   obtain ⟨b, s1, e1, y⟩ := bnd_inv y
   have k1 := Keeps.take _ _ _ _ _ e1
   cases b
   · obtain ⟨n, s3, e3, y⟩ := bnd_inv (show bnd S (fun n => stmts af S f (l ++ [n])) s1 = _ from y)
     obtain ⟨e, he⟩ := h _ _ _ e3
     obtain ⟨es, ids, h1, h2⟩ := stmts_out h f _ _ _ _ y
     refine ⟨e :: es, n :: ids, ?_, by rw [h2]; simp⟩
     rw [laySs, ← k1, he]
     dsimp only
     rw [h1]
   · have y : ret l s1 = .ok (r, s') := y
     cases y
     exact ⟨[], [], by rw [laySs, k1], by simp⟩
theorem blockM_out (h : OutS S) : ∀ s n s', blockM af S s = .ok (n, s') → ∃ bp l, layB bp l s.ns = (s'.ns, n) := fun s n s' y => by
 obtain ⟨_, s1, e1, y⟩ := bnd_inv (show bnd (need af [123]) (fun _ => bnd (stmts af S (af.length + 1) []) fun l => addNode { ndOf 26 (cur af s.pos).pos with list := l }) s = _ from y)
 have k1 := Keeps.need _ _ _ _ _ e1
 obtain ⟨l, s2, e2, y⟩ := bnd_inv y
 obtain ⟨es, ids, h1, h2⟩ := stmts_out h _ _ _ _ _ e2
 cases y
 refine ⟨(cur af s.pos).pos, es, ?_⟩
 rw [layB, ← k1, h1]
 dsimp only
 rw [h2]; rfl
theorem functionM_out (hT : Keeps T) (h : OutS S) (p : Nat) : OutE (functionM af T S p) := fun s n s' y => by
 obtain ⟨_, s1, e1, y⟩ := bnd_inv y
 have k1 := Keeps.need _ _ _ _ _ e1
 obtain ⟨l, s2, e2, y⟩ := bnd_inv y
 obtain ⟨ps, ids, h1, h2⟩ := list_outP hT _ _ _ _ _ e2
 obtain ⟨t, s3, e3, y⟩ := bnd_inv y
 have k3 := Keeps.written hT _ _ _ e3
 obtain ⟨a, s4, e4, y⟩ := bnd_inv y
 obtain ⟨bp, body, hb⟩ := blockM_out h _ _ _ e4
 cases y
 refine ⟨.fn p ps t bp body, ?_⟩
 rw [layE, ← k1, h1]
 dsimp only
 rw [← k3, hb]
 dsimp only
 rw [h2]; rfl
theorem behind_out (hT : Keeps T) (h : OutE E) : ∀ f a (s0 : List Nd) s, (∃ e, layE e s0 = (s.ns, a)) → ∀ m s', behind af T E f a s = .ok (m, s') → ∃ e, layE e s0 = (s'.ns, m)
 | 0, _, _, _, _, _, _, y => by cases y
 | f + 1, a, s0, s, ⟨e, he⟩, m, s', y => by
   obtain ⟨b, s1, e1, y⟩ := bnd_inv (show bnd (take af [40]) _ s = _ from y)
   have k1 := Keeps.take _ _ _ _ _ e1
   cases b
   rotate_left
   · obtain ⟨l, s2, e2, y⟩ := bnd_inv (show bnd (list af [41] (fun _ => E) (af.length + 1) []) (fun l => bnd (addNode { ndOf 7 (ndAt s a).pos with a := a, list := l }) fun m => behind af T E f m) s1 = _ from y)
     obtain ⟨es, ids, h1, h2⟩ := list_outE h _ _ _ _ _ e2
     obtain ⟨q, s3, e3, y⟩ := bnd_inv y
     cases e3
     refine behind_out hT h f _ s0 _ ⟨.call (ndAt s a).pos e es, ?_⟩ m s' y
     rw [layE, he]
     dsimp only
     rw [← k1, h1]
     dsimp only
     rw [h2]; rfl
   obtain ⟨b, s2, e2, y⟩ := bnd_inv (show bnd (take af [46]) _ s1 = _ from y)
   have k2 := Keeps.take _ _ _ _ _ e2
   cases b
   rotate_left
   · obtain ⟨x, s3, e3, y⟩ := bnd_inv (show bnd (name af []) (fun x => bnd (addNode { ndOf 8 (ndAt s a).pos with a := a, text := x }) fun m => behind af T E f m) s2 = _ from y)
     have k3 := Keeps.name _ _ _ _ _ e3
     obtain ⟨q, s4, e4, y⟩ := bnd_inv y
     cases e4
     refine behind_out hT h f _ s0 _ ⟨.get (ndAt s a).pos e x, ?_⟩ m s' y
     rw [layE, he]
     dsimp only
     rw [← k1, ← k2, ← k3]
   obtain ⟨b, s3, e3, y⟩ := bnd_inv (show bnd (take af [91]) _ s2 = _ from y)
   have k3 := Keeps.take _ _ _ _ _ e3
   cases b
   rotate_left
   · obtain ⟨c, s4, e4, y⟩ := bnd_inv (show bnd E (fun c => bnd (need af [93]) fun _ => bnd (addNode { ndOf 9 (ndAt s a).pos with a := a, b := c }) fun m => behind af T E f m) s3 = _ from y)
     obtain ⟨ec, hc⟩ := h _ _ _ e4
     obtain ⟨_, s5, e5, y⟩ := bnd_inv y
     have k5 := Keeps.need _ _ _ _ _ e5
     obtain ⟨q, s6, e6, y⟩ := bnd_inv y
     cases e6
     refine behind_out hT h f _ s0 _ ⟨.at (ndAt s a).pos e ec, ?_⟩ m s' y
     rw [layE, he]
     dsimp only
     rw [← k1, ← k2, ← k3, hc]
     dsimp only
     rw [← k5]
   obtain ⟨b, s4, e4, y⟩ := bnd_inv (show bnd (take af [97, 115]) _ s3 = _ from y)
   have k4 := Keeps.take _ _ _ _ _ e4
   cases b
   rotate_left
   · obtain ⟨t, s5, e5, y⟩ := bnd_inv (show bnd T (fun t => bnd (addNode { ndOf 14 (ndAt s a).pos with a := a, ty := (t : Int) }) fun m => behind af T E f m) s4 = _ from y)
     have k5 := hT _ _ _ e5
     obtain ⟨q, s6, e6, y⟩ := bnd_inv y
     cases e6
     refine behind_out hT h f _ s0 _ ⟨.as (ndAt s a).pos e t, ?_⟩ m s' y
     rw [layE, he]
     dsimp only
     rw [← k1, ← k2, ← k3, ← k4, ← k5]
   · have y : ret a s4 = .ok (m, s') := y
     cases y
     exact ⟨e, by rw [he, k4, k3, k2, k1]⟩
theorem simpleM_out (hT : Keeps T) (h : OutE E) (hS : OutS S) : OutE (simpleM af T E S) := fun s n s' y => by
 have y : (if (cur af s.pos).kind = 3 then bnd step fun _ => addNode { ndOf 1 (cur af s.pos).pos with n := value (cur af s.pos).text } else
   if (cur af s.pos).kind = 4 then bnd step fun _ => addNode { ndOf 2 (cur af s.pos).pos with text := (cur af s.pos).text } else
   if (cur af s.pos).kind = 1 then bnd step fun _ => addNode { ndOf 5 (cur af s.pos).pos with text := (cur af s.pos).text } else _ : M Nat) s = .ok (n, s') := y
 by_cases hk3 : (cur af s.pos).kind = 3
 · rw [if_pos hk3] at y; cases y; exact ⟨.num (cur af s.pos).pos (value (cur af s.pos).text), by rw [layE]⟩
 rw [if_neg hk3] at y
 by_cases hk4 : (cur af s.pos).kind = 4
 · rw [if_pos hk4] at y; cases y; exact ⟨.text (cur af s.pos).pos (cur af s.pos).text, by rw [layE]⟩
 rw [if_neg hk4] at y
 by_cases hk1 : (cur af s.pos).kind = 1
 · rw [if_pos hk1] at y; cases y; exact ⟨.var (cur af s.pos).pos (cur af s.pos).text, by rw [layE]⟩
 rw [if_neg hk1] at y
 obtain ⟨b, s1, e1, y⟩ := bnd_inv y
 have k1 := Keeps.take _ _ _ _ _ e1
 cases b
 rotate_left
 · have y : addNode { ndOf 3 (cur af s.pos).pos with n := 1 } s1 = .ok (n, s') := y
   cases y; exact ⟨.bool (cur af s.pos).pos 1, by rw [layE, ← k1]⟩
 obtain ⟨b, s2, e2, y⟩ := bnd_inv (show bnd (take af [102, 97, 108, 115, 101]) _ s1 = _ from y)
 have k2 := Keeps.take _ _ _ _ _ e2
 cases b
 rotate_left
 · have y : addNode (ndOf 3 (cur af s.pos).pos) s2 = .ok (n, s') := y
   cases y; exact ⟨.bool (cur af s.pos).pos 0, by rw [layE, ← k1, ← k2]; rfl⟩
 obtain ⟨b, s3, e3, y⟩ := bnd_inv (show bnd (take af [110, 117, 108, 108]) _ s2 = _ from y)
 have k3 := Keeps.take _ _ _ _ _ e3
 cases b
 rotate_left
 · have y : addNode (ndOf 4 (cur af s.pos).pos) s3 = .ok (n, s') := y
   cases y; exact ⟨.null (cur af s.pos).pos, by rw [layE, ← k1, ← k2, ← k3]⟩
 obtain ⟨b, s4, e4, y⟩ := bnd_inv (show bnd (take af [102, 110]) _ s3 = _ from y)
 have k4 := Keeps.take _ _ _ _ _ e4
 cases b
 rotate_left
 · obtain ⟨e, he⟩ := functionM_out hT hS _ _ _ _ (show functionM af T S (cur af s.pos).pos s4 = _ from y)
   exact ⟨e, by rw [← k1, ← k2, ← k3, ← k4]; exact he⟩
 obtain ⟨b, s5, e5, y⟩ := bnd_inv (show bnd (take af [91]) _ s4 = _ from y)
 have k5 := Keeps.take _ _ _ _ _ e5
 cases b
 rotate_left
 · obtain ⟨l, s6, e6, y⟩ := bnd_inv (show bnd (list af [93] (fun _ => E) (af.length + 1) []) (fun l => addNode { ndOf 11 (cur af s.pos).pos with list := l }) s5 = _ from y)
   obtain ⟨es, ids, h1, h2⟩ := list_outE h _ _ _ _ _ e6
   cases y
   refine ⟨.arr (cur af s.pos).pos es, ?_⟩
   rw [layE, ← k1, ← k2, ← k3, ← k4, ← k5, h1]
   dsimp only
   rw [h2]; rfl
 obtain ⟨b, s6, e6, y⟩ := bnd_inv (show bnd (take af [123]) _ s5 = _ from y)
 have k6 := Keeps.take _ _ _ _ _ e6
 cases b
 rotate_left
 · obtain ⟨l, s7, e7, y⟩ := bnd_inv (show bnd (list af [125] (fun l => partM af E (l.map Prod.fst)) (af.length + 1) []) (fun l => addNode { ndOf 10 (cur af s.pos).pos with list := l.map Prod.snd }) s6 = _ from y)
   obtain ⟨os, ids, h1, h2⟩ := list_outO h _ _ _ _ _ e7
   cases y
   refine ⟨.obj (cur af s.pos).pos os, ?_⟩
   rw [layE, ← k1, ← k2, ← k3, ← k4, ← k5, ← k6, h1]
   dsimp only
   rw [h2]; rfl
 · obtain ⟨_, s7, e7, y⟩ := bnd_inv (show bnd (need af [40]) (fun _ => bnd E fun a => bnd (need af [41]) fun _ => ret a) s6 = _ from y)
   have k7 := Keeps.need _ _ _ _ _ e7
   obtain ⟨a, s8, e8, y⟩ := bnd_inv y
   obtain ⟨e, he⟩ := h _ _ _ e8
   obtain ⟨_, s9, e9, y⟩ := bnd_inv y
   have k9 := Keeps.need _ _ _ _ _ e9
   cases y
   exact ⟨e, by rw [k9, ← k1, ← k2, ← k3, ← k4, ← k5, ← k6, ← k7]; exact he⟩
theorem oneM_out (hT : Keeps T) (h : OutE E) (hO : OutE O) (hS : OutS S) : OutE (oneM af T E O S) := fun s n s' y => by
 have y : (if prefixes.any (fun x => is af x s.pos) = true then bnd step fun _ => bnd O fun a => addNode { ndOf 13 (cur af s.pos).pos with text := (cur af s.pos).text, a := a } else bnd (simpleM af T E S) fun a => behind af T E (af.length + 1) a : M Nat) s = .ok (n, s') := y
 by_cases hp : prefixes.any (fun x => is af x s.pos) = true
 · rw [if_pos hp] at y
   obtain ⟨a, s2, e2, y⟩ := bnd_inv (show bnd O (fun a => addNode { ndOf 13 (cur af s.pos).pos with text := (cur af s.pos).text, a := a }) { s with pos := s.pos + 1 } = _ from y)
   obtain ⟨e, he⟩ := hO _ _ _ e2
   cases y
   exact ⟨.one (cur af s.pos).pos (cur af s.pos).text e, by rw [layE]; dsimp only at he ⊢; rw [he]⟩
 · rw [if_neg hp] at y
   obtain ⟨a, s1, e1, y⟩ := bnd_inv y
   exact behind_out hT h _ _ _ _ (simpleM_out hT h hS _ _ _ e1) _ _ y
def kindE : Ex → Nat
 | .num .. => 1 | .text .. => 2 | .bool .. => 3 | .null .. => 4 | .var .. => 5 | .fn .. => 6 | .call .. => 7 | .get .. => 8 | .at .. => 9 | .obj .. => 10 | .arr .. => 11 | .two .. => 12 | .one .. => 13 | .as .. => 14
theorem layE_last (e : Ex) (ns : List Nd) : ∃ ns1 nd, layE e ns = (ns1 ++ [nd], ns1.length) ∧ nd.kind = kindE e := by
 cases e <;> rw [layE] <;> exact ⟨_, _, rfl, rfl⟩
theorem ndAt_last {ns1 : List Nd} {nd : Nd} {st : St} {a : Nat} (h : (ns1 ++ [nd], ns1.length) = (st.ns, a)) : ndAt st a = nd := by
 obtain ⟨h1, h2⟩ := Prod.mk.inj h
 unfold ndAt
 rw [← h1, ← h2]; simp
theorem plainM_out (h : OutE E) : OutS (plainM af E) := fun s n s' y => by
 obtain ⟨a, s1, e1, y⟩ := bnd_inv y
 obtain ⟨e, he⟩ := h _ _ _ e1
 have y : (if is af [61] s1.pos = true then
   if (ndAt s1 a).kind = 5 then bnd (trunc a) fun _ => bnd step fun _ => bnd E fun v => bnd (need af [59]) fun _ => addNode { ndOf 18 (ndAt s1 a).pos with text := (ndAt s1 a).text, a := v }
   else if (ndAt s1 a).kind = 8 then bnd (trunc a) fun _ => bnd step fun _ => bnd E fun v => bnd (need af [59]) fun _ => addNode { ndOf 19 (ndAt s1 a).pos with text := (ndAt s1 a).text, a := (ndAt s1 a).a, b := v }
   else if (ndAt s1 a).kind = 9 then bnd (trunc a) fun _ => bnd step fun _ => bnd E fun v => bnd (need af [59]) fun _ => addNode { ndOf 20 (ndAt s1 a).pos with a := (ndAt s1 a).a, b := (ndAt s1 a).b, c := (v : Int) }
   else fail af 1
 else bnd (need af [59]) fun _ => addNode { ndOf 25 (ndAt s1 a).pos with a := a } : M Nat) s1 = .ok (n, s') := y
 obtain ⟨ns1, nd, hl, hk⟩ := layE_last e s.ns
 have hnd := ndAt_last (hl.symm.trans he)
 rw [hnd] at y
 by_cases hi : is af [61] s1.pos = true
 · rw [if_pos hi] at y
   by_cases h5 : nd.kind = 5
   · rw [if_pos h5] at y
     obtain ⟨v, s2, e2, y⟩ := bnd_inv (show bnd E (fun v => bnd (need af [59]) fun _ => addNode { ndOf 18 nd.pos with text := nd.text, a := v }) { s1 with ns := s1.ns.take a, pos := s1.pos + 1 } = _ from y)
     obtain ⟨ev, hv⟩ := h _ _ _ e2
     obtain ⟨_, s3, e3, y⟩ := bnd_inv y
     have k3 := Keeps.need _ _ _ _ _ e3
     rw [hk] at h5
     cases e <;> simp only [kindE] at h5 <;> try omega
     rename_i p x
     rw [layE] at he hl
     obtain ⟨q1, q2⟩ := Prod.mk.inj he
     cases y
     refine ⟨.set nd.pos nd.text ev, ?_⟩
     rw [layS]
     dsimp only at hv
     rw [← q1, ← q2] at hv
     simp only [List.take_left'] at hv
     rw [hv]
     dsimp only
     rw [k3]
   rw [if_neg h5] at y
   by_cases h8 : nd.kind = 8
   · rw [if_pos h8] at y
     obtain ⟨v, s2, e2, y⟩ := bnd_inv (show bnd E (fun v => bnd (need af [59]) fun _ => addNode { ndOf 19 nd.pos with text := nd.text, a := nd.a, b := v }) { s1 with ns := s1.ns.take a, pos := s1.pos + 1 } = _ from y)
     obtain ⟨ev, hv⟩ := h _ _ _ e2
     obtain ⟨_, s3, e3, y⟩ := bnd_inv y
     have k3 := Keeps.need _ _ _ _ _ e3
     rw [hk] at h8
     cases e <;> simp only [kindE] at h8 <;> try omega
     rename_i p ea x
     rw [layE] at he hl
     dsimp only at he hl
     obtain ⟨q1, q2⟩ := Prod.mk.inj he
     obtain ⟨r1, r2⟩ := Prod.mk.inj hl
     obtain ⟨r3, r4⟩ := List.append_inj' r1 rfl
     obtain rfl := List.cons.inj r4 |>.1
     cases y
     refine ⟨.put p ea x ev, ?_⟩
     rw [layS]
     dsimp only at hv ⊢
     rw [← q1, ← q2] at hv
     simp only [List.take_left'] at hv
     rw [hv]
     dsimp only
     rw [k3]; rfl
   rw [if_neg h8] at y
   by_cases h9 : nd.kind = 9
   · rw [if_pos h9] at y
     obtain ⟨v, s2, e2, y⟩ := bnd_inv (show bnd E (fun v => bnd (need af [59]) fun _ => addNode { ndOf 20 nd.pos with a := nd.a, b := nd.b, c := (v : Int) }) { s1 with ns := s1.ns.take a, pos := s1.pos + 1 } = _ from y)
     obtain ⟨ev, hv⟩ := h _ _ _ e2
     obtain ⟨_, s3, e3, y⟩ := bnd_inv y
     have k3 := Keeps.need _ _ _ _ _ e3
     rw [hk] at h9
     cases e <;> simp only [kindE] at h9 <;> try omega
     rename_i p ea eb
     rw [layE] at he hl
     dsimp only at he hl
     obtain ⟨q1, q2⟩ := Prod.mk.inj he
     obtain ⟨r1, r2⟩ := Prod.mk.inj hl
     obtain ⟨r3, r4⟩ := List.append_inj' r1 rfl
     obtain rfl := List.cons.inj r4 |>.1
     cases y
     refine ⟨.lay p ea eb ev, ?_⟩
     rw [layS]
     dsimp only at hv ⊢
     rw [← q1, ← q2] at hv
     simp only [List.take_left'] at hv
     rw [hv]
     dsimp only
     rw [k3]; rfl
   rw [if_neg h9] at y
   cases y
 · rw [if_neg hi] at y
   obtain ⟨_, s2, e2, y⟩ := bnd_inv y
   have k2 := Keeps.need _ _ _ _ _ e2
   cases y
   exact ⟨.do_ nd.pos e, by rw [layS, he]; dsimp only; rw [k2]⟩
theorem layS_if1 (p : Nat) (e : Ex) (bp : Nat) (b : List Sm) (ns : List Nd) : layS (.if_ p e bp b none) ns = (((layB bp b (layE e ns).1).1 ++ [{ ndOf 22 p with a := (layE e ns).2, b := (layB bp b (layE e ns).1).2, c := -1 }]), (layB bp b (layE e ns).1).1.length) := by rw [layS]
theorem branchM_out (h : OutE E) (hS : OutS S) (yes : Bool) (p : Nat) : OutS (branchM af E S yes p) := fun s n s' y => by
 obtain ⟨_, s1, e1, y⟩ := bnd_inv y
 have k1 := Keeps.step _ _ _ e1
 obtain ⟨_, s2, e2, y⟩ := bnd_inv y
 have k2 := Keeps.need _ _ _ _ _ e2
 obtain ⟨a, s3, e3, y⟩ := bnd_inv y
 obtain ⟨e, he⟩ := h _ _ _ e3
 obtain ⟨_, s4, e4, y⟩ := bnd_inv y
 have k4 := Keeps.need _ _ _ _ _ e4
 obtain ⟨b, s5, e5, y⟩ := bnd_inv y
 obtain ⟨bp, bl, hb⟩ := blockM_out hS _ _ _ e5
 rw [k2, k1] at he
 rw [k4] at hb
 cases yes
 · have y : addNode { ndOf 23 p with a := a, b := b } s5 = .ok (n, s') := y
   cases y
   exact ⟨.while_ p e bp bl, by rw [layS, he]; dsimp only; rw [hb]⟩
 · obtain ⟨t, s6, e6, y⟩ := bnd_inv (show bnd (take af [101, 108, 115, 101]) (fun t => if t then bnd (blockM af S) fun c => addNode { ndOf 22 p with a := a, b := b, c := (c : Int) } else addNode { ndOf 22 p with a := a, b := b, c := -1 }) s5 = _ from y)
   have k6 := Keeps.take _ _ _ _ _ e6
   cases t
   · have y : addNode { ndOf 22 p with a := a, b := b, c := -1 } s6 = .ok (n, s') := y
     cases y
     exact ⟨.if_ p e bp bl none, by rw [layS, he]; dsimp only; rw [hb]; dsimp only; rw [k6]⟩
   · obtain ⟨c, s7, e7, y⟩ := bnd_inv (show bnd (blockM af S) (fun c => addNode { ndOf 22 p with a := a, b := b, c := (c : Int) }) s6 = _ from y)
     obtain ⟨cp, cl, hc⟩ := blockM_out hS _ _ _ e7
     rw [k6] at hc
     cases y
     exact ⟨.if_ p e bp bl (some (cp, cl)), by rw [layS, he]; dsimp only; rw [hb]; dsimp only; rw [hc]⟩
theorem bareM_out (hT : Keeps T) (h : OutE E) (hS : OutS S) : OutS (bareM af T E S) := fun s n s' y => by
 obtain ⟨b, s1, e1, y⟩ := bnd_inv (show bnd (take af [108, 101, 116]) _ s = _ from y)
 have k1 := Keeps.take _ _ _ _ _ e1
 cases b
 rotate_left
 · obtain ⟨x, s2, e2, y⟩ := bnd_inv (show bnd (name af []) (fun x => bnd (written af T) fun t => bnd (need af [61]) fun _ => bnd E fun a => bnd (need af [59]) fun _ => addNode { ndOf 17 (cur af s.pos).pos with text := x, ty := t, a := a }) s1 = _ from y)
   have k2 := Keeps.name _ _ _ _ _ e2
   obtain ⟨t, s3, e3, y⟩ := bnd_inv y
   have k3 := Keeps.written hT _ _ _ e3
   obtain ⟨_, s4, e4, y⟩ := bnd_inv y
   have k4 := Keeps.need _ _ _ _ _ e4
   obtain ⟨a, s5, e5, y⟩ := bnd_inv y
   obtain ⟨e, he⟩ := h _ _ _ e5
   obtain ⟨_, s6, e6, y⟩ := bnd_inv y
   have k6 := Keeps.need _ _ _ _ _ e6
   cases y
   rw [k4, k3, k2, k1] at he
   exact ⟨.let_ (cur af s.pos).pos x t e, by rw [layS, he]; dsimp only; rw [k6]⟩
 obtain ⟨b, s2, e2, y⟩ := bnd_inv (show bnd (take af [112, 114, 105, 110, 116]) _ s1 = _ from y)
 have k2 := Keeps.take _ _ _ _ _ e2
 cases b
 rotate_left
 · obtain ⟨a, s3, e3, y⟩ := bnd_inv (show bnd E (fun a => bnd (need af [59]) fun _ => addNode { ndOf 21 (cur af s.pos).pos with a := a }) s2 = _ from y)
   obtain ⟨e, he⟩ := h _ _ _ e3
   obtain ⟨_, s4, e4, y⟩ := bnd_inv y
   have k4 := Keeps.need _ _ _ _ _ e4
   cases y
   rw [k2, k1] at he
   exact ⟨.print (cur af s.pos).pos e, by rw [layS, he]; dsimp only; rw [k4]⟩
 obtain ⟨b, s3, e3, y⟩ := bnd_inv (show bnd (take af [114, 101, 116, 117, 114, 110]) _ s2 = _ from y)
 have k3 := Keeps.take _ _ _ _ _ e3
 cases b
 rotate_left
 · obtain ⟨a, s4, e4, y⟩ := bnd_inv (show bnd E (fun a => bnd (need af [59]) fun _ => addNode { ndOf 24 (cur af s.pos).pos with a := a }) s3 = _ from y)
   obtain ⟨e, he⟩ := h _ _ _ e4
   obtain ⟨_, s5, e5, y⟩ := bnd_inv y
   have k5 := Keeps.need _ _ _ _ _ e5
   cases y
   rw [k3, k2, k1] at he
   exact ⟨.ret (cur af s.pos).pos e, by rw [layS, he]; dsimp only; rw [k5]⟩
 have y : (if is af [105, 102] s3.pos = true then branchM af E S true (cur af s.pos).pos else if is af [119, 104, 105, 108, 101] s3.pos = true then branchM af E S false (cur af s.pos).pos else plainM af E : M Nat) s3 = .ok (n, s') := y
 have go : ∀ m : M Nat, OutS m → m s3 = .ok (n, s') → ∃ e, layS e s.ns = (s'.ns, n) := fun m hm hy => by
   obtain ⟨e, he⟩ := hm _ _ _ hy
   exact ⟨e, by rw [← he, k3, k2, k1]⟩
 by_cases hi : is af [105, 102] s3.pos = true
 · rw [if_pos hi] at y; exact go _ (branchM_out h hS _ _) y
 · rw [if_neg hi] at y
   by_cases hw : is af [119, 104, 105, 108, 101] s3.pos = true
   · rw [if_pos hw] at y; exact go _ (branchM_out h hS _ _) y
   · rw [if_neg hw] at y; exact go _ (plainM_out h) y
theorem lv_out (af : List Tk) : ∀ r, OutE (lv af r).E ∧ OutE (lv af r).O ∧ OutS (lv af r).S
 | 0 => ⟨fun _ _ _ h => (by cases h), fun _ _ _ h => (by cases h), fun _ _ _ h => (by cases h)⟩
 | r + 1 => by
   obtain ⟨h1, h2, h3⟩ := lv_out af r
   have hT := Keeps.typ af r
   exact ⟨exprM_out (oneM_out hT h1 h2 h3), oneM_out hT h1 h2 h3, bareM_out hT h1 h3⟩
theorem progLoop_out (h : OutS S) : ∀ f l s r s', progLoop af S f l s = .ok (r, s') → ∃ es ids, laySs es s.ns = (s'.ns, ids) ∧ r = l ++ ids
 | 0, _, _, _, _, y => by cases y
 | f + 1, l, s, r, s', y => by
   have y : (if (cur af s.pos).kind = 6 then ret l else bnd S fun n => progLoop af S f (l ++ [n]) : M (List Nat)) s = .ok (r, s') := y
   by_cases hk : (cur af s.pos).kind = 6
   · rw [if_pos hk] at y
     cases y
     exact ⟨[], [], by rw [laySs], by simp⟩
   · rw [if_neg hk] at y
     obtain ⟨n, s3, e3, y⟩ := bnd_inv y
     obtain ⟨e, he⟩ := h _ _ _ e3
     obtain ⟨es, ids, h1, h2⟩ := progLoop_out h f _ _ _ _ y
     refine ⟨e :: es, n :: ids, ?_, by rw [h2]; simp⟩
     rw [laySs, he]
     dsimp only
     rw [h1]
theorem parse_tree {s : ByteArray} {pg : Pg} (h : parse s = .ok pg) : ∃ l : List Sm, layB 0 l [] = (pg.ns, pg.main) := by
 unfold parse at h
 split at h
 · cases h
 · rename_i af _
   split at h
   · cases h
   · rename_i n st hp
     split at h
     · cases h
     · cases h
       obtain ⟨l, s1, e1, y⟩ := bnd_inv hp
       obtain ⟨es, ids, h1, h2⟩ := progLoop_out (lv_out af 20).2.2 _ _ _ _ _ e1
       cases y
       refine ⟨es, ?_⟩
       rw [layB, h1]
       dsimp only
       rw [h2]; rfl
end
end Ty
end
section
namespace Ty
def DenPs (ns : List Nd) : List Par → List Nat → Prop
 | [], l => l = []
 | q :: ps, l => ∃ n t, l = n :: t ∧ ns[n]? = some { ndOf 16 q.pos with text := q.text, ty := q.ty } ∧ DenPs ns ps t
mutual
def DenE (ns : List Nd) : Ex → Nat → Prop
 | .num p k, n => ns[n]? = some { ndOf 1 p with n := k }
 | .text p x, n => ns[n]? = some { ndOf 2 p with text := x }
 | .bool p k, n => ns[n]? = some { ndOf 3 p with n := k }
 | .null p, n => ns[n]? = some (ndOf 4 p)
 | .var p x, n => ns[n]? = some { ndOf 5 p with text := x }
 | .fn p ps ty bp body, n => ∃ ids b, ns[n]? = some { ndOf 6 p with list := ids, ty := ty, a := b } ∧ DenPs ns ps ids ∧ DenB ns bp body b
 | .call p a l, n => ∃ na nl, ns[n]? = some { ndOf 7 p with a := na, list := nl } ∧ DenE ns a na ∧ DenEs ns l nl
 | .get p a x, n => ∃ na, ns[n]? = some { ndOf 8 p with a := na, text := x } ∧ DenE ns a na
 | .at p a b, n => ∃ na nb, ns[n]? = some { ndOf 9 p with a := na, b := nb } ∧ DenE ns a na ∧ DenE ns b nb
 | .obj p l, n => ∃ nl, ns[n]? = some { ndOf 10 p with list := nl } ∧ DenOs ns l nl
 | .arr p l, n => ∃ nl, ns[n]? = some { ndOf 11 p with list := nl } ∧ DenEs ns l nl
 | .two p x a b, n => ∃ na nb, ns[n]? = some { ndOf 12 p with text := x, a := na, b := nb } ∧ DenE ns a na ∧ DenE ns b nb
 | .one p x a, n => ∃ na, ns[n]? = some { ndOf 13 p with text := x, a := na } ∧ DenE ns a na
 | .as p a ty, n => ∃ na, ns[n]? = some { ndOf 14 p with a := na, ty := ty } ∧ DenE ns a na
def DenEs (ns : List Nd) : List Ex → List Nat → Prop
 | [], l => l = []
 | e :: es, l => ∃ n t, l = n :: t ∧ DenE ns e n ∧ DenEs ns es t
def DenOs (ns : List Nd) : List (Nat × ByteArray × Ex) → List Nat → Prop
 | [], l => l = []
 | (p, x, e) :: es, l => ∃ n a t, l = n :: t ∧ ns[n]? = some { ndOf 15 p with text := x, a := a } ∧ DenE ns e a ∧ DenOs ns es t
def DenB (ns : List Nd) (bp : Nat) (l : List Sm) (n : Nat) : Prop := ∃ ids, ns[n]? = some { ndOf 26 bp with list := ids } ∧ DenSs ns l ids
def DenSs (ns : List Nd) : List Sm → List Nat → Prop
 | [], l => l = []
 | e :: es, l => ∃ n t, l = n :: t ∧ DenS ns e n ∧ DenSs ns es t
def DenS (ns : List Nd) : Sm → Nat → Prop
 | .let_ p x ty a, n => ∃ na, ns[n]? = some { ndOf 17 p with text := x, ty := ty, a := na } ∧ DenE ns a na
 | .set p x v, n => ∃ nv, ns[n]? = some { ndOf 18 p with text := x, a := nv } ∧ DenE ns v nv
 | .put p a x v, n => ∃ na nv, ns[n]? = some { ndOf 19 p with text := x, a := na, b := nv } ∧ DenE ns a na ∧ DenE ns v nv
 | .lay p a b v, n => ∃ na nb nv, ns[n]? = some { ndOf 20 p with a := na, b := nb, c := ((nv : Nat) : Int) } ∧ DenE ns a na ∧ DenE ns b nb ∧ DenE ns v nv
 | .print p a, n => ∃ na, ns[n]? = some { ndOf 21 p with a := na } ∧ DenE ns a na
 | .ret p a, n => ∃ na, ns[n]? = some { ndOf 24 p with a := na } ∧ DenE ns a na
 | .do_ p a, n => ∃ na, ns[n]? = some { ndOf 25 p with a := na } ∧ DenE ns a na
 | .if_ p a bp b none, n => ∃ na nb, ns[n]? = some { ndOf 22 p with a := na, b := nb, c := -1 } ∧ DenE ns a na ∧ DenB ns bp b nb
 | .if_ p a bp b (some (cp, c)), n => ∃ na nb nc, ns[n]? = some { ndOf 22 p with a := na, b := nb, c := ((nc : Nat) : Int) } ∧ DenE ns a na ∧ DenB ns bp b nb ∧ DenB ns cp c nc
 | .while_ p a bp b, n => ∃ na nb, ns[n]? = some { ndOf 23 p with a := na, b := nb } ∧ DenE ns a na ∧ DenB ns bp b nb
end
section
variable {ns ns' : List Nd}
theorem get_pre (h : ns <+: ns') {n : Nat} {nd : Nd} (e : ns[n]? = some nd) : ns'[n]? = some nd := by
 obtain ⟨t, rfl⟩ := h
 have hn : n < ns.length := by
   rcases Nat.lt_or_ge n ns.length with hn | hn
   · exact hn
   · rw [List.getElem?_eq_none hn] at e; cases e
 rw [List.getElem?_append_left hn]; exact e
theorem DenPs.mono (h : ns <+: ns') : ∀ ps l, DenPs ns ps l → DenPs ns' ps l
 | [], _, d => d
 | _ :: ps, _, ⟨n, t, e, h1, h2⟩ => ⟨n, t, e, get_pre h h1, DenPs.mono h ps t h2⟩
mutual
theorem DenE.mono (h : ns <+: ns') : ∀ e n, DenE ns e n → DenE ns' e n
 | .num _ _, _, d => by rw [DenE] at d ⊢; exact get_pre h d
 | .text _ _, _, d => by rw [DenE] at d ⊢; exact get_pre h d
 | .bool _ _, _, d => by rw [DenE] at d ⊢; exact get_pre h d
 | .null _, _, d => by rw [DenE] at d ⊢; exact get_pre h d
 | .var _ _, _, d => by rw [DenE] at d ⊢; exact get_pre h d
 | .fn _ ps _ bp body, _, d => by rw [DenE] at d ⊢; obtain ⟨ids, b, h1, h2, h3⟩ := d; exact ⟨ids, b, get_pre h h1, DenPs.mono h _ _ h2, DenB.mono h bp body b h3⟩
 | .call _ a l, _, d => by rw [DenE] at d ⊢; obtain ⟨na, nl, h1, h2, h3⟩ := d; exact ⟨na, nl, get_pre h h1, DenE.mono h a _ h2, DenEs.mono h l _ h3⟩
 | .get _ a _, _, d => by rw [DenE] at d ⊢; obtain ⟨na, h1, h2⟩ := d; exact ⟨na, get_pre h h1, DenE.mono h a _ h2⟩
 | .at _ a b, _, d => by rw [DenE] at d ⊢; obtain ⟨na, nb, h1, h2, h3⟩ := d; exact ⟨na, nb, get_pre h h1, DenE.mono h a _ h2, DenE.mono h b _ h3⟩
 | .obj _ l, _, d => by rw [DenE] at d ⊢; obtain ⟨nl, h1, h2⟩ := d; exact ⟨nl, get_pre h h1, DenOs.mono h l _ h2⟩
 | .arr _ l, _, d => by rw [DenE] at d ⊢; obtain ⟨nl, h1, h2⟩ := d; exact ⟨nl, get_pre h h1, DenEs.mono h l _ h2⟩
 | .two _ _ a b, _, d => by rw [DenE] at d ⊢; obtain ⟨na, nb, h1, h2, h3⟩ := d; exact ⟨na, nb, get_pre h h1, DenE.mono h a _ h2, DenE.mono h b _ h3⟩
 | .one _ _ a, _, d => by rw [DenE] at d ⊢; obtain ⟨na, h1, h2⟩ := d; exact ⟨na, get_pre h h1, DenE.mono h a _ h2⟩
 | .as _ a _, _, d => by rw [DenE] at d ⊢; obtain ⟨na, h1, h2⟩ := d; exact ⟨na, get_pre h h1, DenE.mono h a _ h2⟩
theorem DenEs.mono (h : ns <+: ns') : ∀ es l, DenEs ns es l → DenEs ns' es l
 | [], _, d => by rw [DenEs] at d ⊢; exact d
 | e :: es, _, d => by rw [DenEs] at d ⊢; obtain ⟨n, t, h1, h2, h3⟩ := d; exact ⟨n, t, h1, DenE.mono h e _ h2, DenEs.mono h es _ h3⟩
theorem DenOs.mono (h : ns <+: ns') : ∀ es l, DenOs ns es l → DenOs ns' es l
 | [], _, d => by rw [DenOs] at d ⊢; exact d
 | (_, _, e) :: es, _, d => by rw [DenOs] at d ⊢; obtain ⟨n, a, t, h1, h2, h3, h4⟩ := d; exact ⟨n, a, t, h1, get_pre h h2, DenE.mono h e _ h3, DenOs.mono h es _ h4⟩
theorem DenB.mono (h : ns <+: ns') (bp : Nat) (l : List Sm) (n : Nat) (d : DenB ns bp l n) : DenB ns' bp l n := by
 rw [DenB] at d ⊢; obtain ⟨ids, h1, h2⟩ := d; exact ⟨ids, get_pre h h1, DenSs.mono h l _ h2⟩
theorem DenSs.mono (h : ns <+: ns') : ∀ es l, DenSs ns es l → DenSs ns' es l
 | [], _, d => by rw [DenSs] at d ⊢; exact d
 | e :: es, _, d => by rw [DenSs] at d ⊢; obtain ⟨n, t, h1, h2, h3⟩ := d; exact ⟨n, t, h1, DenS.mono h e _ h2, DenSs.mono h es _ h3⟩
theorem DenS.mono (h : ns <+: ns') : ∀ e n, DenS ns e n → DenS ns' e n
 | .let_ _ _ _ a, _, d => by rw [DenS] at d ⊢; obtain ⟨na, h1, h2⟩ := d; exact ⟨na, get_pre h h1, DenE.mono h a _ h2⟩
 | .set _ _ a, _, d => by rw [DenS] at d ⊢; obtain ⟨na, h1, h2⟩ := d; exact ⟨na, get_pre h h1, DenE.mono h a _ h2⟩
 | .put _ a _ v, _, d => by rw [DenS] at d ⊢; obtain ⟨na, nb, h1, h2, h3⟩ := d; exact ⟨na, nb, get_pre h h1, DenE.mono h a _ h2, DenE.mono h v _ h3⟩
 | .lay _ a b v, _, d => by rw [DenS] at d ⊢; obtain ⟨na, nb, nv, h1, h2, h3, h4⟩ := d; exact ⟨na, nb, nv, get_pre h h1, DenE.mono h a _ h2, DenE.mono h b _ h3, DenE.mono h v _ h4⟩
 | .print _ a, _, d => by rw [DenS] at d ⊢; obtain ⟨na, h1, h2⟩ := d; exact ⟨na, get_pre h h1, DenE.mono h a _ h2⟩
 | .ret _ a, _, d => by rw [DenS] at d ⊢; obtain ⟨na, h1, h2⟩ := d; exact ⟨na, get_pre h h1, DenE.mono h a _ h2⟩
 | .do_ _ a, _, d => by rw [DenS] at d ⊢; obtain ⟨na, h1, h2⟩ := d; exact ⟨na, get_pre h h1, DenE.mono h a _ h2⟩
 | .if_ _ a bp b none, _, d => by rw [DenS] at d ⊢; obtain ⟨na, nb, h1, h2, h3⟩ := d; exact ⟨na, nb, get_pre h h1, DenE.mono h a _ h2, DenB.mono h bp b _ h3⟩
 | .if_ _ a bp b (some (cp, c)), _, d => by rw [DenS] at d ⊢; obtain ⟨na, nb, nc, h1, h2, h3, h4⟩ := d; exact ⟨na, nb, nc, get_pre h h1, DenE.mono h a _ h2, DenB.mono h bp b _ h3, DenB.mono h cp c _ h4⟩
 | .while_ _ a bp b, _, d => by rw [DenS] at d ⊢; obtain ⟨na, nb, h1, h2, h3⟩ := d; exact ⟨na, nb, get_pre h h1, DenE.mono h a _ h2, DenB.mono h bp b _ h3⟩
end
end
end Ty
end
end Go.Proofs.YtdlbhiaceheffabGreatDoor
