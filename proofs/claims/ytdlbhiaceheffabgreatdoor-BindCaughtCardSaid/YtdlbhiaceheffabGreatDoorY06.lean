/- Plain: names: what each use of one is bound to, and which are caught, by the reference's way and by the program's. No program in sight. -/
import Derived.Test.YtdlbhiaceheffabGreatDoorY05
set_option linter.all false
namespace Go.Proofs.YtdlbhiaceheffabGreatDoor
section
namespace Ty
structure Kn where
 text : ByteArray
 node : Nat
 owner : Nat
 f : Int
structure Sg where
 out : List (Nat × Nat)
 caught : List Nat
def findN (env : List Kn) (x : ByteArray) : Option Kn := env.reverse.find? (fun m => decide (m.text = x))
def useN (p : Nat) (x : ByteArray) (n : Nat) (set : Bool) (f : Int) (env : List Kn) (s : Sg) : Except Ft Sg :=
 match findN env x with
 | none => .error (5, p)
 | some m => .ok ⟨s.out ++ [(n, m.node)], if set && decide (m.f ≠ f) && !decide (m.node ∈ s.caught) then s.caught ++ [m.node] else s.caught⟩
def parN (n : Nat) : List Par → Nat → List Kn
 | q :: ps, a => ⟨q.text, a, n, n⟩ :: parN n ps (a + 1)
 | [], _ => []
def isFn : Ex → Bool
 | .fn .. => true
 | .num .. => false
 | .text .. => false
 | .bool .. => false
 | .null .. => false
 | .var .. => false
 | .call .. => false
 | .get .. => false
 | .at .. => false
 | .obj .. => false
 | .arr .. => false
 | .two .. => false
 | .one .. => false
 | .as .. => false
def andX {α β : Type} (a : Except Ft α) (k : α → Except Ft β) : Except Ft β := match a with
 | .error e => .error e
 | .ok s => k s
mutual
def seeE : Ex → Nat → Int → List Kn → Sg → Except Ft Sg
 | .num .., _, _, _, s => .ok s
 | .text .., _, _, _, s => .ok s
 | .bool .., _, _, _, s => .ok s
 | .null .., _, _, _, s => .ok s
 | .var p x, a, f, env, s => useN p x a false f env s
 | .fn _ ps _ _ body, a, _, env, s => andX (seeSs body (a + ps.length) (a + ps.length + szSs body + 1) ((a + ps.length + szSs body + 1 : Nat) : Int) (env ++ parN (a + ps.length + szSs body + 1) ps a) s) fun r => .ok r.2
 | .call _ e l, a, f, env, s => andX (seeE e a f env s) fun s => seeEs l (a + szE e) f env s
 | .get _ e _, a, f, env, s => seeE e a f env s
 | .at _ e i, a, f, env, s => andX (seeE e a f env s) fun s => seeE i (a + szE e) f env s
 | .obj _ l, a, f, env, s => seeOs l a f env s
 | .arr _ l, a, f, env, s => seeEs l a f env s
 | .two _ _ e i, a, f, env, s => andX (seeE e a f env s) fun s => seeE i (a + szE e) f env s
 | .one _ _ e, a, f, env, s => seeE e a f env s
 | .as _ e _, a, f, env, s => seeE e a f env s
def seeEs : List Ex → Nat → Int → List Kn → Sg → Except Ft Sg
 | [], _, _, _, s => .ok s
 | e :: l, a, f, env, s => andX (seeE e a f env s) fun s => seeEs l (a + szE e) f env s
def seeOs : List (Nat × ByteArray × Ex) → Nat → Int → List Kn → Sg → Except Ft Sg
 | [], _, _, _, s => .ok s
 | (_, _, e) :: l, a, f, env, s => andX (seeE e a f env s) fun s => seeOs l (a + szE e + 1) f env s
def seeSs : List Sm → Nat → Nat → Int → List Kn → Sg → Except Ft (List Kn × Sg)
 | [], _, _, _, env, s => .ok (env, s)
 | e :: l, a, o, f, env, s => andX (seeS e a o f env s) fun r => seeSs l (a + szS e) o f r.1 r.2
def seeS : Sm → Nat → Nat → Int → List Kn → Sg → Except Ft (List Kn × Sg)
 | .let_ p x _ e, a, o, f, env, s =>
   if env.any (fun m => decide (m.owner = o) && decide (m.text = x)) then .error (6, p)
   else andX (seeE e a f (if isFn e then env ++ [⟨x, a + szE e, o, f⟩] else env) s) fun s => .ok (env ++ [⟨x, a + szE e, o, f⟩], s)
 | .set p x e, a, _, f, env, s => andX (useN p x (a + szE e) true f env s) fun s => andX (seeE e a f env s) fun s => .ok (env, s)
 | .put _ e _ v, a, _, f, env, s => andX (seeE e a f env s) fun s => andX (seeE v (a + szE e) f env s) fun s => .ok (env, s)
 | .lay _ e i v, a, _, f, env, s => andX (seeE e a f env s) fun s => andX (seeE i (a + szE e) f env s) fun s => andX (seeE v (a + szE e + szE i) f env s) fun s => .ok (env, s)
 | .print _ e, a, _, f, env, s => andX (seeE e a f env s) fun s => .ok (env, s)
 | .ret _ e, a, _, f, env, s => andX (seeE e a f env s) fun s => .ok (env, s)
 | .do_ _ e, a, _, f, env, s => andX (seeE e a f env s) fun s => .ok (env, s)
 | .if_ _ e _ b none, a, _, f, env, s => andX (seeE e a f env s) fun s => andX (seeSs b (a + szE e) (a + szE e + szSs b) f env s) fun r => .ok (env, r.2)
 | .if_ _ e _ b (some (_, c)), a, _, f, env, s => andX (seeE e a f env s) fun s => andX (seeSs b (a + szE e) (a + szE e + szSs b) f env s) fun r => andX (seeSs c (a + szE e + szSs b + 1) (a + szE e + szSs b + 1 + szSs c) f env r.2) fun r => .ok (env, r.2)
 | .while_ _ e _ b, a, _, f, env, s => andX (seeE e a f env s) fun s => andX (seeSs b (a + szE e) (a + szE e + szSs b) f env s) fun r => .ok (env, r.2)
end
structure Frm where
 names : List (ByteArray × Nat)
 owner : Nat
 of : Int
structure Vg where
 out : List (Nat × Nat)
 wi : Nat → Option Int
 ca : Nat → Bool
def lookN (l : List (ByteArray × Nat)) (x : ByteArray) : Option Nat := (l.reverse.find? (fun m => decide (m.1 = x))).map (·.2)
def lookF : List Frm → ByteArray → Option Nat
 | [], _ => none
 | fr :: l, x => match lookN fr.names x with
   | some n => some n
   | none => lookF l x
def topOf : List Frm → Int
 | [] => 0
 | fr :: _ => fr.of
def useV (p : Nat) (x : ByteArray) (n : Nat) (set : Bool) (frs : List Frm) (s : Vg) : Except Ft Vg :=
 match lookF frs x with
 | none => .error (5, p)
 | some to => .ok { s with out := s.out ++ [(n, to)], ca := if set && decide ((s.wi to).getD 0 ≠ topOf frs) then fun k => if k = to then true else s.ca k else s.ca }
def addN (fr : Frm) (x : ByteArray) (n : Nat) : Frm := { fr with names := fr.names ++ [(x, n)] }
def addW (s : Vg) (n : Nat) (o : Int) : Vg := { s with wi := fun k => if k = n then some o else s.wi k }
def declPs : List Par → Nat → Frm → Vg → Frm × Vg
 | [], _, fr, s => (fr, s)
 | q :: ps, a, fr, s => declPs ps (a + 1) (addN fr q.text a) (addW s a fr.of)
mutual
def visE : Ex → Nat → List Frm → Vg → Except Ft Vg
 | .num .., _, _, s => .ok s
 | .text .., _, _, s => .ok s
 | .bool .., _, _, s => .ok s
 | .null .., _, _, s => .ok s
 | .var p x, a, frs, s => useV p x a false frs s
 | .fn _ ps _ _ body, a, frs, s =>
   andX (visSs body (a + ps.length) (declPs ps a ⟨[], a + ps.length + szSs body + 1, ((a + ps.length + szSs body + 1 : Nat) : Int)⟩ s).1 frs (declPs ps a ⟨[], a + ps.length + szSs body + 1, ((a + ps.length + szSs body + 1 : Nat) : Int)⟩ s).2) fun r => .ok r.2
 | .call _ e l, a, frs, s => andX (visE e a frs s) fun s => visEs l (a + szE e) frs s
 | .get _ e _, a, frs, s => visE e a frs s
 | .at _ e i, a, frs, s => andX (visE e a frs s) fun s => visE i (a + szE e) frs s
 | .obj _ l, a, frs, s => visOs l a frs s
 | .arr _ l, a, frs, s => visEs l a frs s
 | .two _ _ e i, a, frs, s => andX (visE e a frs s) fun s => visE i (a + szE e) frs s
 | .one _ _ e, a, frs, s => visE e a frs s
 | .as _ e _, a, frs, s => visE e a frs s
def visEs : List Ex → Nat → List Frm → Vg → Except Ft Vg
 | [], _, _, s => .ok s
 | e :: l, a, frs, s => andX (visE e a frs s) fun s => visEs l (a + szE e) frs s
def visOs : List (Nat × ByteArray × Ex) → Nat → List Frm → Vg → Except Ft Vg
 | [], _, _, s => .ok s
 | (_, _, e) :: l, a, frs, s => andX (visE e a frs s) fun s => visOs l (a + szE e + 1) frs s
def visSs : List Sm → Nat → Frm → List Frm → Vg → Except Ft (Frm × Vg)
 | [], _, fr, _, s => .ok (fr, s)
 | e :: l, a, fr, frs, s => andX (visS e a fr frs s) fun r => visSs l (a + szS e) r.1 frs r.2
def visS : Sm → Nat → Frm → List Frm → Vg → Except Ft (Frm × Vg)
 | .let_ p x _ e, a, fr, frs, s =>
   if (lookN fr.names x).isSome then .error (6, p)
   else if isFn e then andX (visE e a (addN fr x (a + szE e) :: frs) (addW s (a + szE e) fr.of)) fun s => .ok (addN fr x (a + szE e), s)
   else andX (visE e a (fr :: frs) s) fun s => .ok (addN fr x (a + szE e), addW s (a + szE e) fr.of)
 | .set p x e, a, fr, frs, s => andX (useV p x (a + szE e) true (fr :: frs) s) fun s => andX (visE e a (fr :: frs) s) fun s => .ok (fr, s)
 | .put _ e _ v, a, fr, frs, s => andX (visE e a (fr :: frs) s) fun s => andX (visE v (a + szE e) (fr :: frs) s) fun s => .ok (fr, s)
 | .lay _ e i v, a, fr, frs, s => andX (visE e a (fr :: frs) s) fun s => andX (visE i (a + szE e) (fr :: frs) s) fun s => andX (visE v (a + szE e + szE i) (fr :: frs) s) fun s => .ok (fr, s)
 | .print _ e, a, fr, frs, s => andX (visE e a (fr :: frs) s) fun s => .ok (fr, s)
 | .ret _ e, a, fr, frs, s => andX (visE e a (fr :: frs) s) fun s => .ok (fr, s)
 | .do_ _ e, a, fr, frs, s => andX (visE e a (fr :: frs) s) fun s => .ok (fr, s)
 | .if_ _ e _ b none, a, fr, frs, s => andX (visE e a (fr :: frs) s) fun s => andX (visSs b (a + szE e) ⟨[], a + szE e + szSs b, fr.of⟩ (fr :: frs) s) fun r => .ok (fr, r.2)
 | .if_ _ e _ b (some (_, c)), a, fr, frs, s => andX (visE e a (fr :: frs) s) fun s => andX (visSs b (a + szE e) ⟨[], a + szE e + szSs b, fr.of⟩ (fr :: frs) s) fun r => andX (visSs c (a + szE e + szSs b + 1) ⟨[], a + szE e + szSs b + 1 + szSs c, fr.of⟩ (fr :: frs) r.2) fun r => .ok (fr, r.2)
 | .while_ _ e _ b, a, fr, frs, s => andX (visE e a (fr :: frs) s) fun s => andX (visSs b (a + szE e) ⟨[], a + szE e + szSs b, fr.of⟩ (fr :: frs) s) fun r => .ok (fr, r.2)
end
end Ty
end
section
namespace Ty
def knF (fr : Frm) : List Kn := fr.names.map fun p => ⟨p.1, p.2, fr.owner, fr.of⟩
def gX : List Frm → List Kn
 | [] => []
 | fr :: l => gX l ++ knF fr
structure Brg (N : Nat) (frs : List Frm) (env : List Kn) (v : Vg) (s : Sg) (a c : Nat) : Prop where
 ev : env = gX frs
 own : frs.Pairwise fun x y => x.owner < y.owner
 top : ∀ fr ∈ frs, c ≤ fr.owner
 wi : ∀ m ∈ env, v.wi m.node = some m.f
 apart : ∀ m ∈ env, m.node < a ∨ c ≤ m.node
 out : v.out = s.out
 ca : ∀ k, v.ca k = decide (k ∈ s.caught)
 lt : ∀ m ∈ env, m.node < N
 cl : ∀ k ∈ s.caught, k < N
structure Go3 (N a b : Nat) (v v' : Vg) (s s' : Sg) : Prop where
 out : v'.out = s'.out
 ca : ∀ k, v'.ca k = decide (k ∈ s'.caught)
 wi : ∀ k, k < a ∨ b ≤ k → v'.wi k = v.wi k
 cl : ∀ k ∈ s'.caught, k < N
 ext : ∃ l, s'.out = s.out ++ l ∧ (∀ p ∈ l, a ≤ p.1 ∧ p.1 < b) ∧ (l.map Prod.fst).Nodup
section
variable {N a b c : Nat} {v v' v2 : Vg} {s s' s2 : Sg} {frs : List Frm} {env : List Kn} {fr : Frm}
theorem Brg.next (h : Brg N frs env v s a c) (g : Go3 N a b v v' s s') (hab : a ≤ b) (hbc : b ≤ c) : Brg N frs env v' s' b c where
 ev := h.ev
 own := h.own
 top := h.top
 wi m hm := by
   rw [g.wi m.node (by have := h.apart m hm; omega)]; exact h.wi m hm
 apart m hm := by have := h.apart m hm; omega
 out := g.out
 ca := g.ca
 lt := h.lt
 cl := g.cl
theorem Brg.mono (h : Brg N frs env v s a c) {a' c' : Nat} (h1 : a ≤ a') (h2 : c' ≤ c) : Brg N frs env v s a' c' :=
 { h with top := fun fr hf => Nat.le_trans h2 (h.top fr hf), apart := fun m hm => by have := h.apart m hm; omega }
theorem Go3.refl (h : Brg N frs env v s a c) (b : Nat) : Go3 N a b v v s s := ⟨h.out, h.ca, fun _ _ => rfl, h.cl, [], by simp, by simp, by simp⟩
theorem Go3.trans (h : Go3 N a b v v' s s') (g : Go3 N b c v' v2 s' s2) (hab : a ≤ b) (hbc : b ≤ c) : Go3 N a c v v2 s s2 := by
 obtain ⟨l, h1, h2, h3⟩ := h.ext
 obtain ⟨k, g1, g2, g3⟩ := g.ext
 refine ⟨g.out, g.ca, fun k hk => by rw [g.wi k (by omega), h.wi k (by omega)], g.cl, l ++ k, by rw [g1, h1, List.append_assoc], fun p hp => ?_, ?_⟩
 · rcases List.mem_append.1 hp with hp | hp
   · have := h2 p hp; omega
   · have := g2 p hp; omega
 · rw [List.map_append, List.nodup_append]
   refine ⟨h3, g3, fun x hx y hy => ?_⟩
   obtain ⟨p, hp, rfl⟩ := List.mem_map.1 hx
   obtain ⟨q, hq, rfl⟩ := List.mem_map.1 hy
   have := h2 p hp
   have := g2 q hq
   omega
theorem Go3.mono (h : Go3 N a b v v' s s') {a' b' : Nat} (h1 : a' ≤ a) (h2 : b ≤ b') : Go3 N a' b' v v' s s' := by
 obtain ⟨l, k1, k2, k3⟩ := h.ext
 exact ⟨h.out, h.ca, fun k hk => h.wi k (by omega), h.cl, l, k1, fun p hp => by have := k2 p hp; omega, k3⟩
def Twin (N a b : Nat) (v : Vg) (s : Sg) (x : Except Ft Vg) (y : Except Ft Sg) : Prop :=
 (∃ f, x = .error f ∧ y = .error f) ∨ ∃ v' s', x = .ok v' ∧ y = .ok s' ∧ Go3 N a b v v' s s'
def TwinS (N a b c : Nat) (v : Vg) (s : Sg) (fr : Frm) (frs : List Frm) (x : Except Ft (Frm × Vg)) (y : Except Ft (List Kn × Sg)) : Prop :=
 (∃ f, x = .error f ∧ y = .error f) ∨ ∃ fr' v' env' s', x = .ok (fr', v') ∧ y = .ok (env', s') ∧ Go3 N a b v v' s s' ∧ Brg N (fr' :: frs) env' v' s' b c ∧ fr'.owner = fr.owner ∧ fr'.of = fr.of
theorem Twin.and {x : Except Ft Vg} {y : Except Ft Sg} {k : Vg → Except Ft Vg} {l : Sg → Except Ft Sg} (h : Twin N a b v s x y) (B : Brg N frs env v s a c) (hab : a ≤ b) (hbc : b ≤ c)
   (g : ∀ v' s', Brg N frs env v' s' b c → Twin N b c v' s' (k v') (l s')) : Twin N a c v s (andX x k) (andX y l) := by
 rcases h with ⟨f, rfl, rfl⟩ | ⟨v', s', rfl, rfl, h1⟩
 · exact .inl ⟨f, rfl, rfl⟩
 · rcases g v' s' (B.next h1 hab hbc) with ⟨f, e1, e2⟩ | ⟨v2, s2, e1, e2, h2⟩
   · exact .inl ⟨f, e1, e2⟩
   · exact .inr ⟨v2, s2, e1, e2, h1.trans h2 hab hbc⟩
theorem Twin.mono {x : Except Ft Vg} {y : Except Ft Sg} (h : Twin N a b v s x y) {a' b' : Nat} (h1 : a' ≤ a) (h2 : b ≤ b') : Twin N a' b' v s x y := by
 rcases h with h | ⟨v', s', e1, e2, h3⟩
 · exact .inl h
 · exact .inr ⟨v', s', e1, e2, h3.mono h1 h2⟩
theorem TwinS.snd {x : Except Ft (Frm × Vg)} {y : Except Ft (List Kn × Sg)} (h : TwinS N a b c v s fr frs x y) : Twin N a b v s (andX x fun r => .ok r.2) (andX y fun r => .ok r.2) := by
 rcases h with ⟨f, rfl, rfl⟩ | ⟨fr', v', env', s', rfl, rfl, h1, _⟩
 · exact .inl ⟨f, rfl, rfl⟩
 · exact .inr ⟨v', s', rfl, rfl, h1⟩
theorem Twin.stmt {x : Except Ft Vg} {y : Except Ft Sg} (h : Twin N a b v s x y) (B : Brg N (fr :: frs) env v s a c) (hab : a ≤ b) (hbc : b ≤ c) : TwinS N a b c v s fr frs (andX x fun s => .ok (fr, s)) (andX y fun s => .ok (env, s)) := by
 rcases h with ⟨f, rfl, rfl⟩ | ⟨v', s', rfl, rfl, h1⟩
 · exact .inl ⟨f, rfl, rfl⟩
 · exact .inr ⟨fr, v', env, s', rfl, rfl, h1, B.next h1 hab hbc, rfl, rfl⟩
theorem au {α β γ : Type} (x : Except Ft α) (f : α → Except Ft β) (g : β → Except Ft γ) : andX (andX x f) g = andX x fun r => andX (f r) g := by cases x <;> rfl
theorem aK {α β : Type} (x : α) (f : α → Except Ft β) : andX (.ok x) f = f x := rfl
theorem qg (l k : List Kn) (x : ByteArray) : findN (l ++ k) x = match findN k x with | some m => some m | none => findN l x := by
 unfold findN
 rw [List.reverse_append, List.find?_append]
 cases k.reverse.find? _ <;> rfl
theorem Ci (fr : Frm) (x : ByteArray) : (findN (knF fr) x).map Kn.node = lookN fr.names x := by
 unfold findN knF lookN
 rw [← List.map_reverse, List.find?_map, Option.map_map]
 rfl
theorem mP : ∀ (frs : List Frm) (x : ByteArray), (findN (gX frs) x).map Kn.node = lookF frs x
 | [], _ => rfl
 | fr :: l, x => by
   rw [gX, qg, lookF, ← Ci]
   cases findN (knF fr) x with
   | some m => rfl
   | none => exact mP l x
theorem zl {env : List Kn} {x : ByteArray} {m : Kn} (h : findN env x = some m) : m ∈ env := by
 have := List.mem_of_find?_eq_some h
 simpa using this
theorem qA (B : Brg N (fr :: frs) env v s a c) (p : Nat) (x : ByteArray) (n : Nat) (set : Bool) (hn : a ≤ n) (hb : n < b) : Twin N a b v s (useV p x n set (fr :: frs) v) (useN p x n set fr.of env s) := by
 unfold useV useN
 rw [B.ev, ← mP]
 cases h : findN (gX (fr :: frs)) x with
 | none => exact .inl ⟨_, rfl, rfl⟩
 | some m =>
   have hm : m ∈ env := by rw [B.ev]; exact zl h
   refine .inr ⟨_, _, rfl, rfl, ?_⟩
   have hw : (v.wi m.node).getD 0 = m.f := by rw [B.wi m hm]; rfl
   refine ⟨by simp [B.out], fun k => ?_, fun _ _ => rfl, fun k hk => ?_, [(n, m.node)], rfl, by simp; omega, by simp⟩
   · dsimp only
     rw [hw]
     rw [show topOf (fr :: frs) = fr.of from rfl]
     cases hs : (set && decide (m.f ≠ fr.of)) with
     | false => simpa using B.ca k
     | true =>
       by_cases hc : m.node ∈ s.caught
       · simp only [Bool.true_and, hc, decide_true, Bool.not_true, if_true, Bool.false_eq_true, if_false]
         by_cases hk : k = m.node
         · subst hk; simp [hc]
         · rw [if_neg hk]; exact B.ca k
       · simp only [Bool.true_and, hc, decide_false, Bool.not_false, if_true]
         by_cases hk : k = m.node
         · subst hk; simp
         · rw [if_neg hk, B.ca k]; simp [hk]
   · dsimp only at hk
     split at hk
     · rcases List.mem_append.1 hk with hk | hk
       · exact B.cl k hk
       · simp at hk; subst hk; exact B.lt m hm
     · exact B.cl k hk
theorem qY : ∀ {frs : List Frm} {m : Kn}, m ∈ gX frs → ∃ fr ∈ frs, m.owner = fr.owner
 | [], m, h => by simp [gX] at h
 | fr :: l, m, h => by
   rw [gX] at h
   rcases List.mem_append.1 h with h | h
   · obtain ⟨f, h1, h2⟩ := qY h; exact ⟨f, by simp [h1], h2⟩
   · unfold knF at h
     obtain ⟨p, hp, rfl⟩ := List.mem_map.1 h
     exact ⟨fr, by simp, rfl⟩
theorem vk (l : List (ByteArray × Nat)) (x : ByteArray) : (lookN l x).isSome = l.any fun p => decide (p.1 = x) := by
 unfold lookN
 rw [Option.isSome_map, ← List.any_reverse (l := l)]
 rw [Bool.eq_iff_iff, List.find?_isSome, List.any_eq_true]
theorem CY (B : Brg N (fr :: frs) env v s a c) (x : ByteArray) : env.any (fun m => decide (m.owner = fr.owner) && decide (m.text = x)) = (lookN fr.names x).isSome := by
 rw [vk, B.ev, gX, List.any_append]
 have h1 : (gX frs).any (fun m => decide (m.owner = fr.owner) && decide (m.text = x)) = false := by
   rw [List.any_eq_false]
   intro m hm
   obtain ⟨f, hf, e⟩ := qY hm
   have := (List.pairwise_cons.1 B.own).1 f hf
   have hne : m.owner ≠ fr.owner := by omega
   simp [hne]
 rw [h1]
 unfold knF
 simp [List.any_map, Function.comp_def]
theorem Brg.add (B : Brg N (fr :: frs) env v s a c) (x : ByteArray) (n : Nat) (h1 : ∀ m ∈ env, m.node ≠ n) {a' c' : Nat} (ha : a ≤ a') (hc : c' ≤ c) (hn : n < a' ∨ c' ≤ n) (hN : n < N) :
   Brg N (addN fr x n :: frs) (env ++ [⟨x, n, fr.owner, fr.of⟩]) (addW v n fr.of) s a' c' where
 ev := by rw [B.ev, gX, gX]; simp [knF, addN]
 own := List.pairwise_cons.2 (List.pairwise_cons.1 B.own)
 top f hf := by
   rcases List.mem_cons.1 hf with rfl | hf
   · exact Nat.le_trans hc (B.top fr (by simp))
   · exact Nat.le_trans hc (B.top f (by simp [hf]))
 wi m hm := by
   rcases List.mem_append.1 hm with hm | hm
   · show (if m.node = n then _ else _) = _
     rw [if_neg (h1 m hm)]; exact B.wi m hm
   · simp at hm; subst hm; simp [addW]
 apart m hm := by
   rcases List.mem_append.1 hm with hm | hm
   · have := B.apart m hm; omega
   · simp at hm; subst hm; exact hn
 out := B.out
 ca := B.ca
 lt m hm := by
   rcases List.mem_append.1 hm with hm | hm
   · exact B.lt m hm
   · simp at hm; subst hm; exact hN
 cl := B.cl
theorem Brg.push (B : Brg N frs env v s a c) (n : Nat) (o : Int) (h1 : n < c) {c' : Nat} (hc : c' ≤ n) : Brg N (⟨[], n, o⟩ :: frs) env v s a c' where
 ev := by rw [B.ev, gX]; simp [knF]
 own := List.pairwise_cons.2 ⟨fun f hf => Nat.lt_of_lt_of_le h1 (B.top f hf), B.own⟩
 top f hf := by
   rcases List.mem_cons.1 hf with rfl | hf
   · exact hc
   · exact Nat.le_trans hc (Nat.le_trans (Nat.le_of_lt h1) (B.top f hf))
 wi := B.wi
 apart m hm := by have := B.apart m hm; omega
 out := B.out
 ca := B.ca
 lt := B.lt
 cl := B.cl
theorem qU : ∀ (ps : List Par) (a : Nat) (fr : Frm) (env : List Kn) (v : Vg), Brg N (fr :: frs) env v s a c → a + ps.length ≤ c → c ≤ N → fr.of = (fr.owner : Int) →
   Brg N ((declPs ps a fr v).1 :: frs) (env ++ parN fr.owner ps a) (declPs ps a fr v).2 s (a + ps.length) c ∧ (declPs ps a fr v).1.owner = fr.owner ∧ (declPs ps a fr v).1.of = fr.of ∧ ∀ k, k < a ∨ a + ps.length ≤ k → (declPs ps a fr v).2.wi k = v.wi k
 | [], a, fr, env, v, B, _, _, _ => ⟨by simpa [declPs, parN] using B, rfl, rfl, fun _ _ => rfl⟩
 | q :: ps, a, fr, env, v, B, h, hN, ho => by
   simp only [List.length_cons] at h
   have B2 := B.add q.text a (fun m hm => by have := B.apart m hm; omega) (a' := a + 1) (Nat.le_succ _) (Nat.le_refl _) (.inl (Nat.lt_succ_self _)) (by omega)
   obtain ⟨h1, h2, h3, h4⟩ := qU ps (a + 1) _ _ _ B2 (by omega) hN ho
   refine ⟨?_, h2, h3, fun k hk => ?_⟩
   · rw [declPs, parN, List.length_cons]
     rw [List.append_assoc, List.singleton_append, ho, show a + 1 + ps.length = a + (ps.length + 1) by omega] at h1
     rw [ho]
     exact h1
   · simp only [List.length_cons] at hk
     rw [declPs, h4 k (by omega)]
     show (if k = a then _ else _) = _
     rw [if_neg (by omega)]
end
mutual
theorem aX {N : Nat} : ∀ (e : Ex) (a c : Nat) (fr : Frm) (frs : List Frm) (env : List Kn) (v : Vg) (s : Sg), Brg N (fr :: frs) env v s a c → a + szE e ≤ c → c ≤ N → Twin N a (a + szE e) v s (visE e a (fr :: frs) v) (seeE e a fr.of env s)
 | .num .., a, c, fr, frs, env, v, s, B, _, _ => by rw [visE, seeE]; exact .inr ⟨_, _, rfl, rfl, Go3.refl B _⟩
 | .text .., a, c, fr, frs, env, v, s, B, _, _ => by rw [visE, seeE]; exact .inr ⟨_, _, rfl, rfl, Go3.refl B _⟩
 | .bool .., a, c, fr, frs, env, v, s, B, _, _ => by rw [visE, seeE]; exact .inr ⟨_, _, rfl, rfl, Go3.refl B _⟩
 | .null .., a, c, fr, frs, env, v, s, B, _, _ => by rw [visE, seeE]; exact .inr ⟨_, _, rfl, rfl, Go3.refl B _⟩
 | .var p x, a, c, fr, frs, env, v, s, B, _, _ => by rw [visE, seeE]; exact qA B p x a false (Nat.le_refl _) (by simp [szE])
 | .fn p ps ty bp body, a, c, fr, frs, env, v, s, B, h, hN => by
   rw [szE] at h ⊢
   rw [visE, seeE]
   have B1 := B.push (a + ps.length + szSs body + 1) ((a + ps.length + szSs body + 1 : Nat) : Int) (by omega) (c' := a + ps.length + szSs body) (by omega)
   obtain ⟨B2, h2, h3, h4⟩ := qU (s := s) ps a ⟨[], a + ps.length + szSs body + 1, ((a + ps.length + szSs body + 1 : Nat) : Int)⟩ env v B1 (by omega) (by omega) rfl
   have T := dZ body (a + ps.length) (a + ps.length + szSs body) _ _ _ _ _ B2 (Nat.le_refl _) (by omega)
   rw [h2, h3] at T
   have G : Go3 N a (a + ps.length) v (declPs ps a ⟨[], a + ps.length + szSs body + 1, ((a + ps.length + szSs body + 1 : Nat) : Int)⟩ v).2 s s := ⟨B2.out, B2.ca, h4, B2.cl, [], by simp, by simp, by simp⟩
   rcases T with ⟨f, e1, e2⟩ | ⟨fr', v', env', s', e1, e2, g, _⟩
   · exact .inl ⟨f, by rw [e1]; rfl, by rw [e2]; rfl⟩
   · exact .inr ⟨v', s', by rw [e1]; rfl, by rw [e2]; rfl, (G.trans g (by omega) (by omega)).mono (Nat.le_refl _) (by omega)⟩
 | .call p e l, a, c, fr, frs, env, v, s, B, h, hN => by
   rw [szE] at h ⊢
   rw [visE, seeE]
   exact ((aX e a c fr frs env v s B (by omega) hN).and (B.mono (Nat.le_refl _) (c' := a + szE e + szEs l) (by omega)) (by omega) (by omega) fun v' s' B' => jT l (a + szE e) _ fr frs env v' s' B' (Nat.le_refl _) (by omega)).mono (Nat.le_refl _) (by omega)
 | .get p e x, a, c, fr, frs, env, v, s, B, h, hN => by
   rw [szE] at h ⊢
   rw [visE, seeE]
   exact (aX e a c fr frs env v s B (by omega) hN).mono (Nat.le_refl _) (by omega)
 | .at p e i, a, c, fr, frs, env, v, s, B, h, hN => by
   rw [szE] at h ⊢
   rw [visE, seeE]
   exact ((aX e a c fr frs env v s B (by omega) hN).and (B.mono (Nat.le_refl _) (c' := a + szE e + szE i) (by omega)) (by omega) (by omega) fun v' s' B' => aX i (a + szE e) _ fr frs env v' s' B' (Nat.le_refl _) (by omega)).mono (Nat.le_refl _) (by omega)
 | .obj p l, a, c, fr, frs, env, v, s, B, h, hN => by
   rw [szE] at h ⊢
   rw [visE, seeE]
   exact (mO l a c fr frs env v s B (by omega) hN).mono (Nat.le_refl _) (by omega)
 | .arr p l, a, c, fr, frs, env, v, s, B, h, hN => by
   rw [szE] at h ⊢
   rw [visE, seeE]
   exact (jT l a c fr frs env v s B (by omega) hN).mono (Nat.le_refl _) (by omega)
 | .two p x e i, a, c, fr, frs, env, v, s, B, h, hN => by
   rw [szE] at h ⊢
   rw [visE, seeE]
   exact ((aX e a c fr frs env v s B (by omega) hN).and (B.mono (Nat.le_refl _) (c' := a + szE e + szE i) (by omega)) (by omega) (by omega) fun v' s' B' => aX i (a + szE e) _ fr frs env v' s' B' (Nat.le_refl _) (by omega)).mono (Nat.le_refl _) (by omega)
 | .one p x e, a, c, fr, frs, env, v, s, B, h, hN => by
   rw [szE] at h ⊢
   rw [visE, seeE]
   exact (aX e a c fr frs env v s B (by omega) hN).mono (Nat.le_refl _) (by omega)
 | .as p e ty, a, c, fr, frs, env, v, s, B, h, hN => by
   rw [szE] at h ⊢
   rw [visE, seeE]
   exact (aX e a c fr frs env v s B (by omega) hN).mono (Nat.le_refl _) (by omega)
theorem jT {N : Nat} : ∀ (l : List Ex) (a c : Nat) (fr : Frm) (frs : List Frm) (env : List Kn) (v : Vg) (s : Sg), Brg N (fr :: frs) env v s a c → a + szEs l ≤ c → c ≤ N → Twin N a (a + szEs l) v s (visEs l a (fr :: frs) v) (seeEs l a fr.of env s)
 | [], a, c, fr, frs, env, v, s, B, _, _ => by rw [visEs, seeEs]; exact .inr ⟨_, _, rfl, rfl, Go3.refl B _⟩
 | e :: l, a, c, fr, frs, env, v, s, B, h, hN => by
   rw [szEs] at h ⊢
   rw [visEs, seeEs]
   exact ((aX e a c fr frs env v s B (by omega) hN).and (B.mono (Nat.le_refl _) (c' := a + szE e + szEs l) (by omega)) (by omega) (by omega) fun v' s' B' => jT l (a + szE e) _ fr frs env v' s' B' (Nat.le_refl _) (by omega)).mono (Nat.le_refl _) (by omega)
theorem mO {N : Nat} : ∀ (l : List (Nat × ByteArray × Ex)) (a c : Nat) (fr : Frm) (frs : List Frm) (env : List Kn) (v : Vg) (s : Sg), Brg N (fr :: frs) env v s a c → a + szOs l ≤ c → c ≤ N → Twin N a (a + szOs l) v s (visOs l a (fr :: frs) v) (seeOs l a fr.of env s)
 | [], a, c, fr, frs, env, v, s, B, _, _ => by rw [visOs, seeOs]; exact .inr ⟨_, _, rfl, rfl, Go3.refl B _⟩
 | (p, x, e) :: l, a, c, fr, frs, env, v, s, B, h, hN => by
   rw [szOs] at h ⊢
   rw [visOs, seeOs]
   exact (((aX e a c fr frs env v s B (by omega) hN).mono (Nat.le_refl _) (b' := a + szE e + 1) (by omega)).and (B.mono (Nat.le_refl _) (c' := a + szE e + 1 + szOs l) (by omega)) (by omega) (by omega) fun v' s' B' => mO l (a + szE e + 1) _ fr frs env v' s' B' (Nat.le_refl _) (by omega)).mono (Nat.le_refl _) (by omega)
theorem dZ {N : Nat} : ∀ (l : List Sm) (a c : Nat) (fr : Frm) (frs : List Frm) (env : List Kn) (v : Vg) (s : Sg), Brg N (fr :: frs) env v s a c → a + szSs l ≤ c → c ≤ N → TwinS N a (a + szSs l) c v s fr frs (visSs l a fr frs v) (seeSs l a fr.owner fr.of env s)
 | [], a, c, fr, frs, env, v, s, B, h, _ => by
   rw [visSs, seeSs]
   exact .inr ⟨fr, v, env, s, rfl, rfl, Go3.refl B _, by simpa [szSs] using B, rfl, rfl⟩
 | e :: l, a, c, fr, frs, env, v, s, B, h, hN => by
   rw [szSs] at h ⊢
   rw [visSs, seeSs]
   rcases zD e a c fr frs env v s B (by omega) hN with ⟨f, e1, e2⟩ | ⟨fr', v', env', s', e1, e2, g, B', h2, h3⟩
   · exact .inl ⟨f, by rw [e1]; rfl, by rw [e2]; rfl⟩
   · rw [e1, e2, aK, aK]
     have T := dZ l (a + szS e) c fr' frs env' v' s' B' (by omega) hN
     rw [h2, h3] at T
     rcases T with ⟨f, e1, e2⟩ | ⟨fr2, v2, env2, s2, e1, e2, g2, B2, h4, h5⟩
     · exact .inl ⟨f, e1, e2⟩
     · refine .inr ⟨fr2, v2, env2, s2, e1, e2, (g.trans g2 (by omega) (by omega)).mono (Nat.le_refl _) (by omega), ?_, h4.trans h2, h5.trans h3⟩
       rw [← Nat.add_assoc]; exact B2
theorem zD {N : Nat} : ∀ (e : Sm) (a c : Nat) (fr : Frm) (frs : List Frm) (env : List Kn) (v : Vg) (s : Sg), Brg N (fr :: frs) env v s a c → a + szS e ≤ c → c ≤ N → TwinS N a (a + szS e) c v s fr frs (visS e a fr frs v) (seeS e a fr.owner fr.of env s)
 | .let_ p x ty e, a, c, fr, frs, env, v, s, B, h, hN => by
   rw [szS] at h ⊢
   rw [visS, seeS, CY B]
   cases hl : (lookN fr.names x).isSome with
   | true => exact .inl ⟨_, rfl, rfl⟩
   | false =>
     simp only [Bool.false_eq_true, if_false]
     have hne : ∀ m ∈ env, m.node ≠ a + szE e := fun m hm => by have := B.apart m hm; omega
     cases hf : isFn e with
     | true =>
       simp only [if_true]
       have B1 := B.add x (a + szE e) hne (a' := a) (c' := a + szE e) (Nat.le_refl _) (by omega) (.inr (Nat.le_refl _)) (by omega)
       rcases aX e a (a + szE e) _ frs _ _ s B1 (Nat.le_refl _) (by omega) with ⟨f, e1, e2⟩ | ⟨v', s', e1, e2, g⟩
       · exact .inl ⟨f, by rw [e1]; rfl, by rw [show seeE e a fr.of _ s = _ from e2]; rfl⟩
       · refine .inr ⟨addN fr x (a + szE e), v', _, s', by rw [e1]; rfl, by rw [show seeE e a fr.of _ s = _ from e2]; rfl, ?_, ?_, rfl, rfl⟩
         · obtain ⟨l, k1, k2, k3⟩ := g.ext
           refine ⟨g.out, g.ca, fun k hk => ?_, g.cl, l, k1, fun p hp => by have := k2 p hp; omega, k3⟩
           rw [g.wi k (by omega)]
           show (if k = _ then _ else _) = _
           rw [if_neg (by omega)]
         · have B3 := B1.next g (by omega) (Nat.le_refl _)
           refine { B3 with top := fun f hf => ?_, apart := fun m hm => ?_ }
           · rcases List.mem_cons.1 hf with rfl | hf
             · exact B.top fr (by simp)
             · exact B.top f (by simp [hf])
           · rcases List.mem_append.1 hm with hm | hm
             · have := B.apart m hm; omega
             · simp at hm; subst hm; left; dsimp only; omega
     | false =>
       simp only [Bool.false_eq_true, if_false]
       rcases aX e a c fr frs env v s B (by omega) hN with ⟨f, e1, e2⟩ | ⟨v', s', e1, e2, g⟩
       · exact .inl ⟨f, by rw [e1]; rfl, by rw [e2]; rfl⟩
       · have B1 := B.next g (by omega) (by omega)
         refine .inr ⟨addN fr x (a + szE e), _, _, s', by rw [e1]; rfl, by rw [e2]; rfl, ?_, B1.add x (a + szE e) hne (a' := a + (szE e + 1)) (by omega) (Nat.le_refl _) (.inl (by omega)) (by omega), rfl, rfl⟩
         obtain ⟨l, k1, k2, k3⟩ := g.ext
         refine ⟨g.out, g.ca, fun k hk => ?_, g.cl, l, k1, fun p hp => by have := k2 p hp; omega, k3⟩
         show (if k = _ then _ else _) = _
         rw [if_neg (by omega), g.wi k (by omega)]
 | .set p x e, a, c, fr, frs, env, v, s, B, h, hN => by
   rw [szS] at h ⊢
   rw [visS, seeS]
   rcases qA (b := a + szE e + 1) B p x (a + szE e) true (by omega) (by omega) with ⟨f, e1, e2⟩ | ⟨v', s', e1, e2, g⟩
   · exact .inl ⟨f, by rw [e1]; rfl, by rw [e2]; rfl⟩
   · rw [e1, e2, aK, aK]
     have hg : v'.wi = v.wi ∧ ∃ t, s'.out = s.out ++ [(a + szE e, t)] := by
       unfold useV at e1
       unfold useN at e2
       split at e1
       · cases e1
       · split at e2
         · cases e2
         · cases e1; cases e2; exact ⟨rfl, _, rfl⟩
     obtain ⟨hw, t, ht⟩ := hg
     have B1 : Brg N (fr :: frs) env v' s' a c := { B with wi := fun m hm => by rw [hw]; exact B.wi m hm, out := g.out, ca := g.ca, cl := g.cl }
     rcases aX e a c fr frs env v' s' B1 (by omega) hN with ⟨f, e1, e2⟩ | ⟨v2, s2, e1, e2, g2⟩
     · exact .inl ⟨f, by rw [e1]; rfl, by rw [e2]; rfl⟩
     · obtain ⟨l, k1, k2, k3⟩ := g2.ext
       have G : Go3 N a (a + (szE e + 1)) v v2 s s2 := ⟨g2.out, g2.ca, fun k hk => by rw [g2.wi k (by omega), hw], g2.cl, (a + szE e, t) :: l, by rw [k1, ht]; simp, fun p hp => by
           rcases List.mem_cons.1 hp with rfl | hp
           · dsimp only; omega
           · have := k2 p hp; omega, by
           rw [List.map_cons, List.nodup_cons]
           refine ⟨fun hm => ?_, k3⟩
           obtain ⟨q, hq, e⟩ := List.mem_map.1 hm
           have := k2 q hq
           dsimp only at e
           omega⟩
       exact .inr ⟨fr, v2, env, s2, by rw [e1]; rfl, by rw [e2]; rfl, G, B.next G (by omega) (by omega), rfl, rfl⟩
 | .put p e x i, a, c, fr, frs, env, v, s, B, h, hN => by
   rw [szS] at h ⊢
   rw [visS, seeS, ← au, ← au]
   exact (((aX e a c fr frs env v s B (by omega) hN).and (B.mono (Nat.le_refl _) (c' := a + szE e + szE i) (by omega)) (by omega) (by omega) fun v' s' B' => aX i (a + szE e) _ fr frs env v' s' B' (Nat.le_refl _) (by omega)).mono (Nat.le_refl _) (by omega)).stmt B (by omega) h
 | .lay p e i u, a, c, fr, frs, env, v, s, B, h, hN => by
   rw [szS] at h ⊢
   have T := ((aX e a c fr frs env v s B (by omega) hN).and (B.mono (Nat.le_refl _) (c' := a + szE e + szE i) (by omega)) (by omega) (by omega) fun v' s' B' => aX i (a + szE e) _ fr frs env v' s' B' (Nat.le_refl _) (by omega)).and (B.mono (Nat.le_refl _) (c' := a + szE e + szE i + szE u) (by omega)) (by omega) (by omega) fun v' s' B' => aX u (a + szE e + szE i) _ fr frs env v' s' B' (Nat.le_refl _) (by omega)
   have T2 := (T.mono (Nat.le_refl _) (b' := a + (szE e + szE i + szE u + 1)) (by omega)).stmt B (by omega) h
   rw [au, au, au, au] at T2
   rw [visS, seeS]
   simpa only [au] using T2
 | .print p e, a, c, fr, frs, env, v, s, B, h, hN => by
   rw [szS] at h ⊢
   rw [visS, seeS]
   exact ((aX e a c fr frs env v s B (by omega) hN).mono (Nat.le_refl _) (by omega)).stmt B (by omega) h
 | .ret p e, a, c, fr, frs, env, v, s, B, h, hN => by
   rw [szS] at h ⊢
   rw [visS, seeS]
   exact ((aX e a c fr frs env v s B (by omega) hN).mono (Nat.le_refl _) (by omega)).stmt B (by omega) h
 | .do_ p e, a, c, fr, frs, env, v, s, B, h, hN => by
   rw [szS] at h ⊢
   rw [visS, seeS]
   exact ((aX e a c fr frs env v s B (by omega) hN).mono (Nat.le_refl _) (by omega)).stmt B (by omega) h
 | .if_ p e bp b none, a, c, fr, frs, env, v, s, B, h, hN => by
   rw [szS] at h ⊢
   have T := (aX e a c fr frs env v s B (by omega) hN).and (B.mono (Nat.le_refl _) (c' := a + szE e + szSs b + 1) (by omega)) (by omega) (by omega) fun v' s' B' =>
     ((dZ b (a + szE e) (a + szE e + szSs b) ⟨[], a + szE e + szSs b, fr.of⟩ (fr :: frs) env v' s' (B'.push _ _ (by omega) (Nat.le_refl _)) (Nat.le_refl _) (by omega)).snd).mono (Nat.le_refl _) (by omega)
   have T2 := (T.mono (Nat.le_refl _) (b' := a + (szE e + szSs b + 2)) (by omega)).stmt B (by omega) h
   rw [visS, seeS]
   simpa only [au, aK] using T2
 | .if_ p e bp b (some (cp, d)), a, c, fr, frs, env, v, s, B, h, hN => by
   rw [szS] at h ⊢
   have T := ((aX e a c fr frs env v s B (by omega) hN).and (B.mono (Nat.le_refl _) (c' := a + szE e + szSs b + 1) (by omega)) (by omega) (by omega) fun v' s' B' =>
     ((dZ b (a + szE e) (a + szE e + szSs b) ⟨[], a + szE e + szSs b, fr.of⟩ (fr :: frs) env v' s' (B'.push _ _ (by omega) (Nat.le_refl _)) (Nat.le_refl _) (by omega)).snd).mono (Nat.le_refl _) (by omega)).and
     (B.mono (Nat.le_refl _) (c' := a + szE e + szSs b + 1 + szSs d + 1) (by omega)) (by omega) (by omega) fun v' s' B' =>
     ((dZ d (a + szE e + szSs b + 1) (a + szE e + szSs b + 1 + szSs d) ⟨[], a + szE e + szSs b + 1 + szSs d, fr.of⟩ (fr :: frs) env v' s' (B'.push _ _ (by omega) (Nat.le_refl _)) (Nat.le_refl _) (by omega)).snd).mono (Nat.le_refl _) (by omega)
   have T2 := (T.mono (Nat.le_refl _) (b' := a + (szE e + szSs b + szSs d + 3)) (by omega)).stmt B (by omega) h
   rw [visS, seeS]
   simpa only [au, aK] using T2
 | .while_ p e bp b, a, c, fr, frs, env, v, s, B, h, hN => by
   rw [szS] at h ⊢
   have T := (aX e a c fr frs env v s B (by omega) hN).and (B.mono (Nat.le_refl _) (c' := a + szE e + szSs b + 1) (by omega)) (by omega) (by omega) fun v' s' B' =>
     ((dZ b (a + szE e) (a + szE e + szSs b) ⟨[], a + szE e + szSs b, fr.of⟩ (fr :: frs) env v' s' (B'.push _ _ (by omega) (Nat.le_refl _)) (Nat.le_refl _) (by omega)).snd).mono (Nat.le_refl _) (by omega)
   have T2 := (T.mono (Nat.le_refl _) (b' := a + (szE e + szSs b + 2)) (by omega)).stmt B (by omega) h
   rw [visS, seeS]
   simpa only [au, aK] using T2
end
end Ty
end
section
namespace Ty
def dX (l : List Sm) : Except Ft (List (Nat × Nat) × List Nat) :=
 andX (seeSs l 0 (szSs l) (-1) [] ⟨[], []⟩) fun r =>
   .ok ((List.range (szSs l + 1)).flatMap (fun n => r.2.out.filter (fun b => decide (b.1 = n))), (List.range (szSs l + 1)).filter (fun n => decide (n ∈ r.2.caught)))
def fK (l : List Sm) : Except Ft Vg := andX (visSs l 0 ⟨[], szSs l, -1⟩ [] ⟨[], fun _ => none, fun _ => false⟩) fun r => .ok r.2
theorem l9 : ∀ {l k : List (Nat × Nat)}, l.Perm k → l.Pairwise (fun x y => x.1 < y.1) → k.Pairwise (fun x y => x.1 < y.1) → l = k
 | [], k, h, _, _ => by simpa using h
 | x :: l, [], h, _, _ => by simp at h
 | x :: l, y :: k, h, h1, h2 => by
   obtain ⟨a1, a2⟩ := List.pairwise_cons.1 h1
   obtain ⟨b1, b2⟩ := List.pairwise_cons.1 h2
   have e : x = y := by
     have hx : x ∈ y :: k := h.mem_iff.1 (by simp)
     have hy : y ∈ x :: l := h.mem_iff.2 (by simp)
     rcases List.mem_cons.1 hx with hx | hx
     · exact hx
     · rcases List.mem_cons.1 hy with hy | hy
       · exact hy.symm
       · have := a1 y hy; have := b1 x hx; omega
   subst e
   rw [l9 ((List.perm_cons x).1 h) a2 b2]
theorem iE (out : List (Nat × Nat)) : ∀ (n m : Nat) (p : Nat × Nat), p ∈ (List.range' m n).flatMap (fun n => out.filter (fun b => decide (b.1 = n))) ↔ p ∈ out ∧ m ≤ p.1 ∧ p.1 < m + n
 | 0, m, p => by
   simp only [List.range'_zero, List.flatMap_nil, List.not_mem_nil, false_iff]
   omega
 | n + 1, m, p => by
   rw [List.range'_succ, List.flatMap_cons, List.mem_append, iE out n (m + 1) p, List.mem_filter]
   simp only [decide_eq_true_eq]
   constructor
   · rintro (⟨h1, h2⟩ | ⟨h1, h2⟩)
     · exact ⟨h1, by omega⟩
     · exact ⟨h1, by omega⟩
   · rintro ⟨h1, h2⟩
     by_cases e : p.1 = m
     · exact .inl ⟨h1, e⟩
     · exact .inr ⟨h1, by omega⟩
theorem filter_one {out : List (Nat × Nat)} (hn : (out.map Prod.fst).Nodup) (m : Nat) : (out.filter fun b => decide (b.1 = m)).length ≤ 1 := by
 induction out with
 | nil => simp
 | cons x l ih =>
   rw [List.map_cons, List.nodup_cons] at hn
   by_cases e : x.1 = m
   · have h0 : l.filter (fun b => decide (b.1 = m)) = [] := by
       rw [List.filter_eq_nil_iff]
       intro y hy hd
       have : y.1 = m := by simpa using hd
       exact hn.1 (e ▸ this ▸ List.mem_map_of_mem hy)
     simp [e, h0]
   · simp [e]; exact ih hn.2
theorem iK {out : List (Nat × Nat)} (hn : (out.map Prod.fst).Nodup) : ∀ (n m : Nat), ((List.range' m n).flatMap (fun n => out.filter (fun b => decide (b.1 = n)))).Pairwise (fun x y => x.1 < y.1)
 | 0, m => by simp
 | n + 1, m => by
   rw [List.range'_succ, List.flatMap_cons, List.pairwise_append]
   refine ⟨?_, iK hn n (m + 1), fun x hx y hy => ?_⟩
   · have h1 := filter_one hn m
     generalize out.filter (fun b => decide (b.1 = m)) = l at h1
     match l, h1 with
     | [], _ => simp
     | [x], _ => simp
     | _ :: _ :: _, h1 => simp at h1
   · have h1 := (List.mem_filter.1 hx).2
     have h2 := (iE out n (m + 1) y).1 hy
     simp only [decide_eq_true_eq] at h1
     omega
theorem mr {l : List (Nat × Nat)} (h : (l.map Prod.fst).Nodup) : l.Nodup := (List.pairwise_map.1 h).imp fun {a b} hab e => hab (by rw [e])
theorem oN {l : List (Nat × Nat)} (h : l.Pairwise fun x y => x.1 < y.1) : l.Nodup := h.imp fun {a b} hab e => by subst e; omega
theorem qc {α : Type} : ∀ {l k : List α}, l.Nodup → k.Nodup → (∀ x, x ∈ l ↔ x ∈ k) → l.Perm k := by
 classical
 intro l k hl hk h
 exact (List.perm_iff_count).2 fun a => by
   rw [List.Nodup.count hl, List.Nodup.count hk]
   by_cases ha : a ∈ l
   · rw [if_pos ha, if_pos ((h a).1 ha)]
   · rw [if_neg ha, if_neg (fun hb => ha ((h a).2 hb))]
theorem lF {out d : List (Nat × Nat)} {N : Nat} (hn : (out.map Prod.fst).Nodup) (hN : ∀ p ∈ out, p.1 < N) (hp : d.Perm out) (hs : d.Pairwise fun x y => x.1 ≤ y.1) :
   d = (List.range N).flatMap fun n => out.filter fun b => decide (b.1 = n) := by
 rw [List.range_eq_range']
 have hdn : (d.map Prod.fst).Nodup := (hp.map _).nodup_iff.2 hn
 have hs2 : d.Pairwise fun x y => x.1 < y.1 := by
   have h1 : d.Pairwise fun x y => x.1 ≠ y.1 := List.pairwise_map.1 hdn
   exact (List.pairwise_and_iff.2 ⟨hs, h1⟩).imp fun {a b} h => by omega
 refine l9 ?_ hs2 (iK hn N 0)
 refine hp.trans (qc (mr hn) (oN (iK hn N 0)) fun x => ?_)
 rw [iE]
 exact ⟨fun h => ⟨h, by have := hN x h; omega⟩, fun h => h.1⟩
theorem rP (l : List Sm) : (∃ f, fK l = .error f ∧ dX l = .error f) ∨ ∃ v out caught, fK l = .ok v ∧ dX l = .ok (out, caught) ∧
   (∀ d : List (Nat × Nat), d.Perm v.out → d.Pairwise (fun x y => x.1 ≤ y.1) → d = out) ∧ caught = (List.range (szSs l + 1)).filter (fun n => v.ca n) ∧ (∀ k, v.ca k = true → k < szSs l + 1) := by
 have B : Brg (szSs l + 1) [⟨[], szSs l, -1⟩] [] ⟨[], fun _ => none, fun _ => false⟩ ⟨[], []⟩ 0 (szSs l) :=
   ⟨rfl, by simp, by simp, by simp, by simp, rfl, by simp, by simp, by simp⟩
 have T := dZ l 0 (szSs l) _ _ _ _ _ B (by omega) (by omega)
 rcases T with ⟨f, e1, e2⟩ | ⟨fr', v', env', s', e1, e2, g, B', _⟩
 · refine .inl ⟨f, ?_, ?_⟩
   · unfold fK; rw [e1]; rfl
   · unfold dX; rw [e2]; rfl
 · refine .inr ⟨v', (List.range (szSs l + 1)).flatMap (fun n => s'.out.filter (fun b => decide (b.1 = n))), (List.range (szSs l + 1)).filter (fun n => decide (n ∈ s'.caught)), ?_, ?_, fun d hd hs => ?_, ?_, fun k hk => ?_⟩
   · unfold fK; rw [e1]; rfl
   · unfold dX; rw [e2]; rfl
   · obtain ⟨k, h1, h2, h3⟩ := g.ext
     simp only [List.nil_append] at h1
     rw [g.out] at hd
     exact lF (by rw [h1]; exact h3) (fun p hp => by rw [h1] at hp; have := h2 p hp; omega) hd hs
   · simp only [g.ca]
   · rw [g.ca, decide_eq_true_eq] at hk; exact g.cl k hk
end Ty
end
section
namespace Ty
theorem andX_inv {α β : Type} {x : Except Ft α} {k : α → Except Ft β} {r : β} (h : andX x k = .ok r) : ∃ m, x = .ok m ∧ k m = .ok r := by
 cases x with
 | error e => cases h
 | ok m => exact ⟨m, rfl, h⟩
structure Mo (k : Nat) (s s' : Sg) : Prop where
 out : s'.out.length ≤ s.out.length + k
 caught : s'.caught.length ≤ s.caught.length + k
theorem Mo.refl (k : Nat) (s : Sg) : Mo k s s := ⟨by omega, by omega⟩
theorem Mo.trans {j k n : Nat} {s s1 s2 : Sg} (h : Mo j s s1) (g : Mo k s1 s2) (hn : j + k ≤ n) : Mo n s s2 := ⟨by have := h.out; have := g.out; omega, by have := h.caught; have := g.caught; omega⟩
theorem Mo.mono {k n : Nat} {s s1 : Sg} (h : Mo k s s1) (hn : k ≤ n) : Mo n s s1 := ⟨by have := h.out; omega, by have := h.caught; omega⟩
theorem oZ {p : Nat} {x : ByteArray} {n : Nat} {set : Bool} {f : Int} {env : List Kn} {s s' : Sg} (h : useN p x n set f env s = .ok s') : Mo 1 s s' := by
 unfold useN at h
 split at h
 · cases h
 · cases h
   refine ⟨by simp, ?_⟩
   dsimp only
   split <;> simp
mutual
theorem bJ : ∀ (e : Ex) (a : Nat) (f : Int) (env : List Kn) (s s' : Sg), seeE e a f env s = .ok s' → Mo (szE e) s s'
 | .num .., _, _, _, _, _, h => by rw [seeE] at h; cases h; exact Mo.refl _ _
 | .text .., _, _, _, _, _, h => by rw [seeE] at h; cases h; exact Mo.refl _ _
 | .bool .., _, _, _, _, _, h => by rw [seeE] at h; cases h; exact Mo.refl _ _
 | .null .., _, _, _, _, _, h => by rw [seeE] at h; cases h; exact Mo.refl _ _
 | .var .., _, _, _, _, _, h => by rw [seeE] at h; rw [szE]; exact oZ h
 | .fn _ ps _ _ body, _, _, _, _, _, h => by
   rw [seeE] at h
   obtain ⟨r, h1, h2⟩ := andX_inv h
   cases h2
   rw [szE]
   exact (fZ body _ _ _ _ _ _ h1).1.mono (by omega)
 | .call _ e l, _, _, _, _, _, h => by
   rw [seeE] at h
   obtain ⟨r, h1, h2⟩ := andX_inv h
   rw [szE]
   exact (bJ e _ _ _ _ _ h1).trans (lu l _ _ _ _ _ h2) (by omega)
 | .get _ e _, _, _, _, _, _, h => by rw [seeE] at h; rw [szE]; exact (bJ e _ _ _ _ _ h).mono (by omega)
 | .at _ e i, _, _, _, _, _, h => by
   rw [seeE] at h
   obtain ⟨r, h1, h2⟩ := andX_inv h
   rw [szE]
   exact (bJ e _ _ _ _ _ h1).trans (bJ i _ _ _ _ _ h2) (by omega)
 | .obj _ l, _, _, _, _, _, h => by rw [seeE] at h; rw [szE]; exact (qC l _ _ _ _ _ h).mono (by omega)
 | .arr _ l, _, _, _, _, _, h => by rw [seeE] at h; rw [szE]; exact (lu l _ _ _ _ _ h).mono (by omega)
 | .two _ _ e i, _, _, _, _, _, h => by
   rw [seeE] at h
   obtain ⟨r, h1, h2⟩ := andX_inv h
   rw [szE]
   exact (bJ e _ _ _ _ _ h1).trans (bJ i _ _ _ _ _ h2) (by omega)
 | .one _ _ e, _, _, _, _, _, h => by rw [seeE] at h; rw [szE]; exact (bJ e _ _ _ _ _ h).mono (by omega)
 | .as _ e _, _, _, _, _, _, h => by rw [seeE] at h; rw [szE]; exact (bJ e _ _ _ _ _ h).mono (by omega)
theorem lu : ∀ (l : List Ex) (a : Nat) (f : Int) (env : List Kn) (s s' : Sg), seeEs l a f env s = .ok s' → Mo (szEs l) s s'
 | [], _, _, _, _, _, h => by rw [seeEs] at h; cases h; exact Mo.refl _ _
 | e :: l, _, _, _, _, _, h => by
   rw [seeEs] at h
   obtain ⟨r, h1, h2⟩ := andX_inv h
   rw [szEs]
   exact (bJ e _ _ _ _ _ h1).trans (lu l _ _ _ _ _ h2) (by omega)
theorem qC : ∀ (l : List (Nat × ByteArray × Ex)) (a : Nat) (f : Int) (env : List Kn) (s s' : Sg), seeOs l a f env s = .ok s' → Mo (szOs l) s s'
 | [], _, _, _, _, _, h => by rw [seeOs] at h; cases h; exact Mo.refl _ _
 | (_, _, e) :: l, _, _, _, _, _, h => by
   rw [seeOs] at h
   obtain ⟨r, h1, h2⟩ := andX_inv h
   rw [szOs]
   exact (bJ e _ _ _ _ _ h1).trans (qC l _ _ _ _ _ h2) (by omega)
theorem fZ : ∀ (l : List Sm) (a o : Nat) (f : Int) (env : List Kn) (s : Sg) (r : List Kn × Sg), seeSs l a o f env s = .ok r → Mo (szSs l) s r.2 ∧ ∃ x, r.1 = env ++ x ∧ x.length ≤ szSs l
 | [], _, _, _, env, _, _, h => by rw [seeSs] at h; cases h; exact ⟨Mo.refl _ _, [], by simp, by simp⟩
 | e :: l, _, _, _, _, _, _, h => by
   rw [seeSs] at h
   obtain ⟨r, h1, h2⟩ := andX_inv h
   obtain ⟨g1, x, g2, g3⟩ := Ce e _ _ _ _ _ _ h1
   obtain ⟨k1, y, k2, k3⟩ := fZ l _ _ _ _ _ _ h2
   rw [szSs]
   exact ⟨g1.trans k1 (by omega), x ++ y, by rw [k2, g2, List.append_assoc], by rw [List.length_append]; omega⟩
theorem Ce : ∀ (e : Sm) (a o : Nat) (f : Int) (env : List Kn) (s : Sg) (r : List Kn × Sg), seeS e a o f env s = .ok r → Mo (szS e) s r.2 ∧ ∃ x, r.1 = env ++ x ∧ x.length ≤ szS e
 | .let_ p x _ e, _, _, _, _, _, _, h => by
   rw [seeS] at h
   split at h
   · cases h
   · obtain ⟨r, h1, h2⟩ := andX_inv h
     cases h2
     rw [szS]
     exact ⟨(bJ e _ _ _ _ _ h1).mono (by omega), _, rfl, by simp⟩
 | .set p x e, _, _, _, env, _, _, h => by
   rw [seeS] at h
   obtain ⟨r, h1, h2⟩ := andX_inv h
   obtain ⟨r2, h3, h4⟩ := andX_inv h2
   cases h4
   rw [szS]
   exact ⟨(oZ h1).trans (bJ e _ _ _ _ _ h3) (by omega), [], by simp, by simp⟩
 | .put _ e _ v, _, _, _, env, _, _, h => by
   rw [seeS] at h
   obtain ⟨r, h1, h2⟩ := andX_inv h
   obtain ⟨r2, h3, h4⟩ := andX_inv h2
   cases h4
   rw [szS]
   exact ⟨(bJ e _ _ _ _ _ h1).trans (bJ v _ _ _ _ _ h3) (by omega), [], by simp, by simp⟩
 | .lay _ e i v, _, _, _, env, _, _, h => by
   rw [seeS] at h
   obtain ⟨r, h1, h2⟩ := andX_inv h
   obtain ⟨r2, h3, h4⟩ := andX_inv h2
   obtain ⟨r3, h5, h6⟩ := andX_inv h4
   cases h6
   rw [szS]
   exact ⟨((bJ e _ _ _ _ _ h1).trans (bJ i _ _ _ _ _ h3) (Nat.le_refl _)).trans (bJ v _ _ _ _ _ h5) (by omega), [], by simp, by simp⟩
 | .print _ e, _, _, _, env, _, _, h => by
   rw [seeS] at h
   obtain ⟨r, h1, h2⟩ := andX_inv h
   cases h2
   rw [szS]
   exact ⟨(bJ e _ _ _ _ _ h1).mono (by omega), [], by simp, by simp⟩
 | .ret _ e, _, _, _, env, _, _, h => by
   rw [seeS] at h
   obtain ⟨r, h1, h2⟩ := andX_inv h
   cases h2
   rw [szS]
   exact ⟨(bJ e _ _ _ _ _ h1).mono (by omega), [], by simp, by simp⟩
 | .do_ _ e, _, _, _, env, _, _, h => by
   rw [seeS] at h
   obtain ⟨r, h1, h2⟩ := andX_inv h
   cases h2
   rw [szS]
   exact ⟨(bJ e _ _ _ _ _ h1).mono (by omega), [], by simp, by simp⟩
 | .if_ _ e _ b none, _, _, _, env, _, _, h => by
   rw [seeS] at h
   obtain ⟨r, h1, h2⟩ := andX_inv h
   obtain ⟨r2, h3, h4⟩ := andX_inv h2
   cases h4
   rw [szS]
   exact ⟨(bJ e _ _ _ _ _ h1).trans (fZ b _ _ _ _ _ _ h3).1 (by omega), [], by simp, by simp⟩
 | .if_ _ e _ b (some (_, c)), _, _, _, env, _, _, h => by
   rw [seeS] at h
   obtain ⟨r, h1, h2⟩ := andX_inv h
   obtain ⟨r2, h3, h4⟩ := andX_inv h2
   obtain ⟨r3, h5, h6⟩ := andX_inv h4
   cases h6
   rw [szS]
   exact ⟨((bJ e _ _ _ _ _ h1).trans (fZ b _ _ _ _ _ _ h3).1 (Nat.le_refl _)).trans (fZ c _ _ _ _ _ _ h5).1 (by omega), [], by simp, by simp⟩
 | .while_ _ e _ b, _, _, _, env, _, _, h => by
   rw [seeS] at h
   obtain ⟨r, h1, h2⟩ := andX_inv h
   obtain ⟨r2, h3, h4⟩ := andX_inv h2
   cases h4
   rw [szS]
   exact ⟨(bJ e _ _ _ _ _ h1).trans (fZ b _ _ _ _ _ _ h3).1 (by omega), [], by simp, by simp⟩
end
end Ty
end
section
namespace Ty
structure NdLen (ts : List Ty) (nd : Nd) : Prop where
 text : nd.text.data.toList.length ≤ 30
 col : (colS ts nd.ty).length ≤ 12010
 asTy : nd.kind = 14 → (Ty.text (den ts nd.ty.toNat)).length ≤ 12010
 num : (Lib.itoa (nd.n : Int)).length ≤ 21
theorem yJ {x : ByteArray} (h : NumOk x) : value x < 1000000000 := by
 have key : ∀ (l : List UInt8) (a : Nat), (∀ d ∈ l, Tok.isDigit d = true) → l.foldl (fun n c => 10 * n + (c.toNat - 48)) a < (a + 1) * 10 ^ l.length := by
   intro l
   induction l with
   | nil => intro a _; simp
   | cons c l ih =>
     intro a hd
     have hc := hd c (by simp)
     unfold Tok.isDigit at hc
     simp at hc
     have := ih (10 * a + (c.toNat - 48)) (fun d hd' => hd d (by simp [hd']))
     rw [List.foldl_cons, List.length_cons, Nat.pow_succ]
     refine Nat.lt_of_lt_of_le this ?_
     have h2 : 10 * a + (c.toNat - 48) + 1 ≤ (a + 1) * 10 := by omega
     calc _ ≤ ((a + 1) * 10) * 10 ^ l.length := Nat.mul_le_mul_right _ h2
       _ = _ := by rw [Nat.mul_assoc, Nat.mul_comm 10]
 have h1 := key x.data.toList 0 h.dig
 have h2 : x.data.toList.length ≤ 9 := by have := h.size; simpa using this
 have h3 : 10 ^ x.data.toList.length ≤ 10 ^ 9 := Nat.pow_le_pow_right (by omega) h2
 unfold value
 omega
theorem NdOk.EY {nd : Nd} {ts : List Ty} (h : NdOk nd ts) : nd.n ≤ 1000000000 := by
 by_cases hk : nd.kind = 1
 · obtain ⟨x, h1, h2⟩ := h.num hk
   have := yJ h1
   omega
 · have := h.small hk; omega
theorem wY {ts : List Ty} (hw : Wf ts) (hn : Nm ts) {t : Nat} (h : TyIn t ts) : okT (den ts t) ∧ shortT (den ts t) ∧ (text (den ts t)).length + 24 ≤ 40 * ts.length := by
 have h1 := den_ok hw _ t (Nat.lt_succ_self _) h.lt
 have h2 := nm_short _ (den_nm hw hn _ t (Nat.lt_succ_self _) h.lt)
 have h3 := text_len _ h1 h2
 have := h.cnt
 exact ⟨h1, h2, by omega⟩
theorem PgOk.len {pg : Pg} (h : PgOk pg) : ∀ nd ∈ pg.ns, NdLen pg.ts nd := fun nd hm => by
 have hk := h.ns nd hm
 have ht := h.tlen
 have hty : ∀ t, TyIn t pg.ts → (text (den pg.ts t)).length ≤ 12000 := fun t hi => by
   have := (wY h.wf h.nm hi).2.2; omega
 refine ⟨by have := hk.size; simpa using this, ?_, fun h14 => ?_, Lib.itoa_length_le _ (by omega) (by have := hk.EY; omega)⟩
 · unfold colS
   rcases hk.ty with h1 | ⟨n, h1, h2⟩
   · rw [if_pos (by omega)]; simp
   · rw [if_neg (by omega)]
     have := hty n h2
     rw [h1]
     simp; omega
 · rcases hk.ty with h1 | ⟨n, h1, h2⟩
   · have := hk.asTy h14; omega
   · have := hty n h2
     rw [h1]; simp; omega
section
variable {ts : List Ty} {ns : List Nd}
end
end Ty
end
section
namespace Ty
theorem BZ {l : List Sm} {v : Vg} (h : fK l = .ok v) : ∀ p ∈ v.out, p.1 < szSs l + 1 := by
 have B : Brg (szSs l + 1) [⟨[], szSs l, -1⟩] [] ⟨[], fun _ => none, fun _ => false⟩ ⟨[], []⟩ 0 (szSs l) :=
   ⟨rfl, by simp, by simp, by simp, by simp, rfl, by simp, by simp, by simp⟩
 have T := dZ l 0 (szSs l) _ _ _ _ _ B (by omega) (by omega)
 unfold fK at h
 rcases T with ⟨f, e1, e2⟩ | ⟨fr', v', env', s', e1, e2, g, B', _⟩
 · rw [e1] at h; cases h
 · rw [e1] at h
   cases h
   obtain ⟨k, h1, h2, h3⟩ := g.ext
   intro p hp
   have hp2 : p ∈ s'.out := by rw [← g.out]; exact hp
   rw [h1] at hp2
   simp only [List.nil_append] at hp2
   have := h2 p hp2
   omega
theorem lY : ∀ {l k : List Int}, l.Perm k → l.Pairwise (fun x y => x ≤ y) → k.Pairwise (fun x y => x < y) → l = k
 | [], k, h, _, _ => by simpa using h
 | x :: l, [], h, _, _ => by simp at h
 | x :: l, y :: k, h, h1, h2 => by
   obtain ⟨a1, a2⟩ := List.pairwise_cons.1 h1
   obtain ⟨b1, b2⟩ := List.pairwise_cons.1 h2
   have e : x = y := by
     have hx : x ∈ y :: k := h.mem_iff.1 (by simp)
     have hy : y ∈ x :: l := h.mem_iff.2 (by simp)
     rcases List.mem_cons.1 hx with h3 | h3
     · exact h3
     · rcases List.mem_cons.1 hy with h4 | h4
       · exact h4.symm
       · have := b1 x h3; have := a1 y h4; omega
   subst e
   rw [lY (h.cons_inv) a2 b2]
theorem mG {N : Nat} {ca : Nat → Bool} {ks : List Int} (hnd : ks.Nodup) (hks : ∀ z, z ∈ ks ↔ ∃ n : Nat, z = n ∧ ca n = true) (hN : ∀ k, ca k = true → k < N) : ks.mergeSort (fun x y => decide (x ≤ y)) = ((List.range N).filter fun n => ca n).map (fun n => ((n : Nat) : Int)) := by
 have hlt : (((List.range N).filter fun n => ca n).map (fun n => ((n : Nat) : Int))).Pairwise (fun x y => x < y) := by
   rw [List.pairwise_map]
   exact (List.pairwise_lt_range.filter _).imp fun h => by omega
 refine lY ?_ ?_ hlt
 · refine (List.mergeSort_perm _ _).trans ?_
   refine (List.perm_ext_iff_of_nodup hnd (hlt.imp fun h => by omega)).2 fun z => ?_
   rw [hks]
   simp only [List.mem_map, List.mem_filter, List.mem_range]
   exact ⟨fun ⟨n, e, h⟩ => ⟨n, ⟨hN n h, h⟩, e.symm⟩, fun ⟨n, h, e⟩ => ⟨n, e.symm, h.2⟩⟩
 · have h1 := List.pairwise_mergeSort (le := fun x y : Int => decide (x ≤ y)) (fun a b c h1 h2 => by simp at *; omega) (fun a b => by simp; omega) ks
   exact h1.imp fun h => by simpa using h
end Ty
end
section
namespace Ty
abbrev Key := List Nat × List Int × List Nat × List UInt8
def key (n : Nd) : Key := ([n.kind, n.a, n.b, n.n, n.pos], [n.c, n.ty], n.list, n.text.data.toList)
theorem key_inj {m n : Nd} (h : key m = key n) : m = n := by
 obtain ⟨a1, a2, a3, a4, a5, ⟨⟨a6⟩⟩, a7, a8, a9⟩ := m
 obtain ⟨b1, b2, b3, b4, b5, ⟨⟨b6⟩⟩, b7, b8, b9⟩ := n
 simp only [key, Prod.mk.injEq, List.cons.injEq, and_true] at h
 obtain ⟨⟨rfl, rfl, rfl, rfl, rfl⟩, ⟨rfl, rfl⟩, rfl, h6⟩ := h
 obtain rfl : a6 = b6 := h6
 rfl
theorem lV : ∀ {l m : List Nd}, l.map key = m.map key → l = m
 | [], [], _ => rfl
 | a :: l, b :: m, h => by
   simp only [List.map_cons, List.cons.injEq] at h
   rw [key_inj h.1, lV h.2]
 | [], b :: m, h => by simp at h
 | a :: l, [], h => by simp at h
end Ty
end
section
namespace Ty
def AU : ByteArray := ⟨#[108, 101, 116, 32, 120, 32, 61, 32, 49, 59, 32, 112, 114, 105, 110, 116, 32, 120, 59]⟩
def jE : List Sm := [.let_ 0 ⟨#[120]⟩ (-1) (.num 8 1), .print 11 (.var 17 ⟨#[120]⟩)]
def zh : List Key := [([1, 0, 0, 1, 8], [0, -1], [], []), ([17, 0, 0, 0, 0], [0, -1], [], [120]), ([5, 0, 0, 0, 17], [0, -1], [], [120]), ([21, 2, 0, 0, 11], [0, -1], [], []), ([26, 0, 0, 0, 0], [0, -1], [1, 3], [])]
def Ac (r : Except Ft Pg) : Bool := match r with | .ok p => decide (p.ns.map key = zh) && (p.main == 4) | .error _ => false
theorem AV : Ac (parse AU) = true := by decide +kernel
theorem qi : (layB 0 jE []).1.map key = zh ∧ (layB 0 jE []).2 = 4 := by
 simp [jE, layB, laySs, layS, layE, key, zh, ndOf]
theorem vM : ∃ pg, parse AU = .ok pg ∧ layB 0 jE [] = (pg.ns, pg.main) := by
 have h := AV
 cases hp : parse AU with
 | error f => rw [hp] at h; simp [Ac] at h
 | ok pg =>
   rw [hp] at h
   simp only [Ac, Bool.and_eq_true, decide_eq_true_eq, beq_iff_eq] at h
   exact ⟨pg, rfl, Prod.ext (lV (qi.1.trans h.1.symm)) (qi.2.trans h.2.symm)⟩
def Bi : ByteArray := ⟨#[112, 114, 105, 110, 116, 32, 120, 59]⟩
def jG : List Sm := [.print 0 (.var 6 ⟨#[120]⟩)]
def Aw : List Key := [([5, 0, 0, 0, 6], [0, -1], [], [120]), ([21, 0, 0, 0, 0], [0, -1], [], []), ([26, 0, 0, 0, 0], [0, -1], [1], [])]
def yL (r : Except Ft Pg) : Bool := match r with | .ok p => decide (p.ns.map key = Aw) && (p.main == 2) | .error _ => false
theorem Bg : yL (parse Bi) = true := by decide +kernel
theorem qW : (layB 0 jG []).1.map key = Aw ∧ (layB 0 jG []).2 = 2 := by
 simp [jG, layB, laySs, layS, layE, key, Aw, ndOf]
theorem vU : ∃ pg, parse Bi = .ok pg ∧ layB 0 jG [] = (pg.ns, pg.main) := by
 have h := Bg
 cases hp : parse Bi with
 | error f => rw [hp] at h; simp [yL] at h
 | ok pg =>
   rw [hp] at h
   simp only [yL, Bool.and_eq_true, decide_eq_true_eq, beq_iff_eq] at h
   exact ⟨pg, rfl, Prod.ext (lV (qW.1.trans h.1.symm)) (qW.2.trans h.2.symm)⟩
theorem zI {v : Vg} (h : fK jE = .ok v) : v.out = [(2, 1)] := by
 have e : (match fK jE with | .ok v => v.out | .error _ => []) = [(2, 1)] := by decide +kernel
 rw [h] at e
 exact e
theorem CP {f : Ft} (h : fK jE = .error f) : False := by
 have e : (match fK jE with | .ok v => v.out | .error _ => []) = [(2, 1)] := by decide +kernel
 rw [h] at e
 cases e
theorem zg {f : Ft} (h : fK jG = .error f) : f = (5, 6) := by
 have e : (match fK jG with | .ok _ => (0, 0) | .error f => f) = (5, 6) := by decide +kernel
 rw [h] at e
 exact e
theorem BK {v : Vg} (h : fK jG = .ok v) : False := by
 have e : (match fK jG with | .ok _ => (0, 0) | .error f => f) = (5, 6) := by decide +kernel
 rw [h] at e
 cases e
end Ty
end
end Go.Proofs.YtdlbhiaceheffabGreatDoor
