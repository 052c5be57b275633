/- The reference's see at all trees. -/
import Derived.Test.YtdlbhiaceheffabGreatDoorY22
import Derived.Test.YtdlbhiaceheffabGreatDoorY24
import Derived.Test.YtdlbhiaceheffabGreatDoorY37
set_option linter.all false
set_option maxRecDepth 100000
set_option maxHeartbeats 4000000
namespace Go.Proofs.YtdlbhiaceheffabGreatDoor
section
open Go Go.RowKit
open Prt (Sat As blk pur exs star ah)
open Ty (Kn Sg Mo andX bW dM bn Ex Sm Par LyE LyEs LyOs LySs LyS LyPs szE szEs szOs szSs szS idsEs idsOs idsSs idsPs seeE seeEs seeOs seeSs seeS ndOf)
namespace Ty
abbrev EF (e : Ex) (a : Nat) (f : Int) : bV := fun env s => andX (seeE e a f env s) fun s => .ok (env, s)
abbrev SF (e : Sm) (a o : Nat) (f : Int) : bV := fun env s => seeS e a o f env s
def qo : List Ex → Nat → Int → List (Nat × bV)
 | [], _, _ => []
 | e :: l, a, f => (szE e, EF e a f) :: qo l (a + szE e) f
def qJ : List (Nat × ByteArray × Ex) → Nat → Int → List (Nat × bV)
 | [], _, _ => []
 | (_, _, e) :: l, a, f => (szE e + 1, EF e a f) :: qJ l (a + szE e + 1) f
def rH : List Sm → Nat → Nat → Int → List (Nat × bV)
 | [], _, _, _ => []
 | e :: l, a, o, f => (szS e, SF e a o f) :: rH l (a + szS e) o f
theorem kW : ∀ (l : List Ex) (a : Nat) (f : Int), bn (qo l a f) = szEs l
 | [], _, _ => by rw [szEs]; rfl
 | e :: l, a, f => by rw [qo, aJ, kW l, szEs]
theorem pV : ∀ (l : List (Nat × ByteArray × Ex)) (a : Nat) (f : Int), bn (qJ l a f) = szOs l
 | [], _, _ => by rw [szOs]; rfl
 | (_, _, e) :: l, a, f => by rw [qJ, aJ, pV l, szOs]
theorem fV : ∀ (l : List Sm) (a o : Nat) (f : Int), bn (rH l a o f) = szSs l
 | [], _, _, _ => by rw [szSs]; rfl
 | e :: l, a, o, f => by rw [rH, aJ, fV l, szSs]
theorem uT : ∀ (l : List Ex) (a : Nat) (f : Int) (env : List Kn) (s : Sg), bW ((qo l a f).map Prod.snd) env s = andX (seeEs l a f env s) fun s => .ok (env, s)
 | [], _, _, _, _ => by rw [seeEs]; rfl
 | e :: l, a, f, env, s => by
   rw [qo, seeEs, List.map_cons, bW, au, au]
   congr 1
   funext r
   rw [aK, uT l]
theorem zN : ∀ (l : List (Nat × ByteArray × Ex)) (a : Nat) (f : Int) (env : List Kn) (s : Sg), bW ((qJ l a f).map Prod.snd) env s = andX (seeOs l a f env s) fun s => .ok (env, s)
 | [], _, _, _, _ => by rw [seeOs]; rfl
 | (_, _, e) :: l, a, f, env, s => by
   rw [qJ, seeOs, List.map_cons, bW, au, au]
   congr 1
   funext r
   rw [aK, zN l]
theorem jl : ∀ (l : List Sm) (a o : Nat) (f : Int) (env : List Kn) (s : Sg), bW ((rH l a o f).map Prod.snd) env s = seeSs l a o f env s
 | [], _, _, _, _, _ => by rw [seeSs]; rfl
 | e :: l, a, o, f, env, s => by
   rw [rH, seeSs, List.map_cons, bW]
   congr 1
   funext r
   rw [jl l]
theorem gU : ∀ (l : List Ex) (a : Nat), (idsEs l a).length ≤ szEs l
 | [], _ => by rw [szEs]; simp [idsEs]
 | e :: l, a => by rw [szEs, idsEs, List.length_cons]; have := gU l (a + szE e); have := szE_pos e; omega
theorem jX : ∀ (l : List (Nat × ByteArray × Ex)) (a : Nat), (idsOs l a).length ≤ szOs l
 | [], _ => by rw [szOs]; simp [idsOs]
 | (_, _, e) :: l, a => by rw [szOs, idsOs, List.length_cons]; have := jX l (a + szE e + 1); omega
theorem dK : ∀ (l : List Sm) (a : Nat), (idsSs l a).length ≤ szSs l
 | [], _ => by rw [szSs]; simp [idsSs]
 | e :: l, a => by rw [szSs, idsSs, List.length_cons]; have := dK l (a + szS e); have := szS_pos e; omega
theorem iT : ∀ (l : List Par) (a : Nat), (idsPs l a).length = l.length
 | [], _ => rfl
 | _ :: l, a => by rw [idsPs, List.length_cons, iT l, List.length_cons]
theorem lQ (n : Nat) : ∀ (l : List Par) (a : Nat), (parN n l a).length = l.length
 | [], _ => rfl
 | _ :: l, a => by rw [parN, List.length_cons, lQ n l, List.length_cons]
theorem Di {pg : Pg} (id : Nat) : ∀ (l : List Par) (a : Nat), LyPs pg.ns l a → PN pg id (idsPs l a) (parN id l a)
 | [], a, _ => ⟨rfl, fun i h => absurd h (by simp [idsPs])⟩
 | q :: l, a, h => by
   obtain ⟨h1, h2⟩ := Di id l (a + 1) h.2
   refine ⟨by rw [iT, lQ], fun i k1 k2 => ?_⟩
   cases i with
   | zero => exact ⟨q.pos, q.ty, h.1, rfl⟩
   | succ i => exact h2 i (by simpa [idsPs] using k1) (by simpa [parN] using k2)
theorem Dn {ns : List Nd} (e : Ex) (a : Nat) (h : LyE ns e a) : ∃ nb, ns[a + szE e - 1]? = some nb ∧ (((nb.kind : Nat) : Int) == 6) = isFn e := by
 cases e <;> rw [LyE] at h <;> rw [szE]
 case fn p ps ty bp body => exact ⟨_, by rw [← h.2.2.2]; congr 1; omega, rfl⟩
 case call p e l => exact ⟨_, by rw [← h.2.2]; congr 1 <;> omega, rfl⟩
 case get p e x => exact ⟨_, by rw [← h.2]; congr 1 <;> omega, rfl⟩
 case «at» p e i => exact ⟨_, by rw [← h.2.2]; congr 1 <;> omega, rfl⟩
 case obj p l => exact ⟨_, by rw [← h.2]; congr 1 <;> omega, rfl⟩
 case arr p l => exact ⟨_, by rw [← h.2]; congr 1 <;> omega, rfl⟩
 case two p x e i => exact ⟨_, by rw [← h.2.2]; congr 1 <;> omega, rfl⟩
 case one p x e => exact ⟨_, by rw [← h.2]; congr 1 <;> omega, rfl⟩
 case «as» p e ty => exact ⟨_, by rw [← h.2]; congr 1 <;> omega, rfl⟩
 all_goals exact ⟨_, by rw [← h]; congr 1, rfl⟩
end Ty
open Ty (EF SF qo qJ rH)
section
variable {wB : World} {nv tv : Value} {pg : Ty.Pg} {sb : Nat} {main : Int}
theorem dL.nil {o f : Int} : dL wB nv tv pg sb main o f [] [] := ⟨rfl, fun j h => absurd h (by simp)⟩
theorem SeeC.cons {o f : Int} {id k : Nat} {F : bV} {ids : List Nat} {cs : List (Nat × bV)} (h : SeeC wB nv tv pg sb main id o f k F) (g : dL wB nv tv pg sb main o f ids cs) : dL wB nv tv pg sb main o f (id :: ids) ((k, F) :: cs) := by
 refine ⟨by rw [List.length_cons, List.length_cons, g.1], fun j h1 h2 => ?_⟩
 cases j with
 | zero => exact h
 | succ j => exact g.2 j (by simpa using h1) (by simpa using h2)
theorem SeeC.to {id id2 k k2 : Nat} {o f : Int} {F G : bV} (h : SeeC wB nv tv pg sb main id o f k F) (hi : id = id2) (hk : k = k2) (hF : ∀ env s, F env s = G env s) : SeeC wB nv tv pg sb main id2 o f k2 G := by
 have : F = G := by funext env s; exact hF env s
 subst hi hk this; exact h
theorem dB (hP : PB wB nv tv pg) {id id2 : Nat} {nd : Ty.Nd} (hn : pg.ns[id]? = some nd) (hi : id = id2) {o f : Int} {ids : List Nat} {cs : List (Nat × bV)} (hids : Ty.ax nd = ids) (hC : dL wB nv tv pg sb main o f ids cs)
   (hk : nd.kind ≠ 5 ∧ nd.kind ≠ 6 ∧ nd.kind ≠ 17 ∧ nd.kind ≠ 18 ∧ nd.kind ≠ 26) (hk2 : 1 ≤ nd.kind ∧ nd.kind ≤ 26) (hc : nd.kind = 20 → 0 ≤ nd.c) (hln : nd.list.length ≤ id) {K : Nat} (hK : bn cs ≤ K) {G : bV} (hG : ∀ env s, bW (cs.map Prod.snd) env s = G env s) : SeeC wB nv tv pg sb main id2 o f K G := by
 subst hids
 obtain ⟨_, _, _, _, hnl, _, _, _, _, _, _, hN⟩ := hP.look hn
 exact (wU hP hn hC hk hk2 hc (by omega) hK).to hi rfl hG
theorem lW (hP : PB wB nv tv pg) {id id2 bp : Nat} {ids : List Nat} (hn : pg.ns[id]? = some { ndOf 26 bp with list := ids }) (hi : id = id2) {o f : Int} {cs : List (Nat × bV)} (hC : dL wB nv tv pg sb main (id : Nat) f ids cs) (hln : ids.length ≤ id) {K : Nat} (hK : bn cs ≤ K) {G : bV} (hG : ∀ env s, (andX (bW (cs.map Prod.snd) env s) fun r => .ok (env, r.2)) = G env s) : SeeC wB nv tv pg sb main id2 o f K G := by
 obtain ⟨_, _, _, _, hnl, _, _, _, _, _, _, hN⟩ := hP.look hn
 have h := nN hP hn (o := o) hC (by omega) (Nat.le_refl _)
 have hR := (h.to (k2 := bn cs) hi rfl hG)
 exact ⟨hR.lt, fun env s r h => by obtain ⟨a, x, b, c⟩ := hR.good env s r h; exact ⟨a.mono hK, x, b, by omega⟩, (nN hP hn (o := o) hC (by omega) hK |>.to hi rfl hG).run⟩
abbrev BF (b : List Sm) (a : Nat) (f : Int) : bV := fun env s => andX (seeSs b a (a + szSs b) f env s) fun r => .ok (env, r.2)
mutual
theorem dQ (hP : PB wB nv tv pg) : ∀ (e : Ex) (a : Nat), LyE pg.ns e a → ∀ o f : Int, SeeC wB nv tv pg sb main (a + szE e - 1 : Nat) o f (szE e) (EF e a f)
 | .num _ _, a, h, o, f => by
   rw [LyE] at h
   exact dB hP h (by rw [szE]; omega) (ids := []) (by simp [Ty.ax, ndOf]) dL.nil (by simp [ndOf]) (by simp [ndOf]) (by simp [ndOf]) (by simp [ndOf]) (by simp [bn]) (fun env s => by simp only [EF, SF, BF, List.map_cons, List.map_nil]; rw [seeE]; rfl)
 | .text _ _, a, h, o, f => by
   rw [LyE] at h
   exact dB hP h (by rw [szE]; omega) (ids := []) (by simp [Ty.ax, ndOf]) dL.nil (by simp [ndOf]) (by simp [ndOf]) (by simp [ndOf]) (by simp [ndOf]) (by simp [bn]) (fun env s => by simp only [EF, SF, BF, List.map_cons, List.map_nil]; rw [seeE]; rfl)
 | .bool _ _, a, h, o, f => by
   rw [LyE] at h
   exact dB hP h (by rw [szE]; omega) (ids := []) (by simp [Ty.ax, ndOf]) dL.nil (by simp [ndOf]) (by simp [ndOf]) (by simp [ndOf]) (by simp [ndOf]) (by simp [bn]) (fun env s => by simp only [EF, SF, BF, List.map_cons, List.map_nil]; rw [seeE]; rfl)
 | .null _, a, h, o, f => by
   rw [LyE] at h
   exact dB hP h (by rw [szE]; omega) (ids := []) (by simp [Ty.ax, ndOf]) dL.nil (by simp [ndOf]) (by simp [ndOf]) (by simp [ndOf]) (by simp [ndOf]) (by simp [bn]) (fun env s => by simp only [EF, SF, BF, List.map_cons, List.map_nil]; rw [seeE]; rfl)
 | .var p x, a, h, o, f => by
   rw [LyE] at h
   exact (BX hP h).to (by rw [szE]; omega) (by rw [szE]) (fun env s => by simp only [EF, SF, BF, List.map_cons, List.map_nil]; rw [seeE]; rfl)
 | .fn p ps ty bp body, a, h, o, f => by
   rw [LyE] at h
   have hS := jh hP body (a + ps.length) h.2.1 (a + ps.length + szSs body + 1) ((a + ps.length + szSs body + 1 : Nat) : Int)
   obtain ⟨_, _, _, _, hnl, _, _, _, _, _, _, hN⟩ := hP.look h.2.2.2
   have hl := Ty.dK body (a + ps.length)
   have h2 := Ee hP (o := o) (f := f) h.2.2.2 h.2.2.1 (Ty.Di _ ps a h.1) hS (by omega) (K := szE (.fn p ps ty bp body)) (by rw [Ty.lQ, Ty.fV, szE]; omega)
   exact h2.to (by rw [szE]; omega) rfl (fun env s => by simp only [EF, SF, BF, List.map_cons, List.map_nil]; rw [seeE, Ty.fnF, Ty.jl, Ty.au]; rfl)
 | .call p e l, a, h, o, f => by
   rw [LyE] at h
   have h1 := dQ hP e a h.1 o f
   have h2 := uP hP l (a + szE e) h.2.1 o f
   exact dB hP h.2.2 (by rw [szE]; omega) (by first | (simp [Ty.ax, ndOf]; done) | (simp [Ty.ax, ndOf]; rfl)) (h1.cons h2) (by simp [ndOf]) (by simp [ndOf]) (by simp [ndOf]) (by have := Ty.gU l (a + szE e); simp [ndOf]; omega) (by rw [Ty.aJ, Ty.kW, szE]; simp) (fun env s => by
     simp only [EF, SF, BF, List.map_cons, List.map_nil]; rw [bW, seeE, Ty.au, Ty.au]; congr 1; funext r; rw [Ty.aK, Ty.uT])
 | .get p e x, a, h, o, f => by
   rw [LyE] at h
   have h1 := dQ hP e a h.1 o f
   exact dB hP h.2 (by rw [szE]; omega) (by first | (simp [Ty.ax, ndOf]; done) | (simp [Ty.ax, ndOf]; rfl)) (h1.cons dL.nil) (by simp [ndOf]) (by simp [ndOf]) (by simp [ndOf]) (by simp [ndOf]) (by rw [Ty.aJ, szE]; simp [bn]) (fun env s => by
     simp only [EF, SF, BF, List.map_cons, List.map_nil]; rw [Ty.dn, seeE])
 | .one p x e, a, h, o, f => by
   rw [LyE] at h
   have h1 := dQ hP e a h.1 o f
   exact dB hP h.2 (by rw [szE]; omega) (by first | (simp [Ty.ax, ndOf]; done) | (simp [Ty.ax, ndOf]; rfl)) (h1.cons dL.nil) (by simp [ndOf]) (by simp [ndOf]) (by simp [ndOf]) (by simp [ndOf]) (by rw [Ty.aJ, szE]; simp [bn]) (fun env s => by
     simp only [EF, SF, BF, List.map_cons, List.map_nil]; rw [Ty.dn, seeE])
 | .as p e ty, a, h, o, f => by
   rw [LyE] at h
   have h1 := dQ hP e a h.1 o f
   exact dB hP h.2 (by rw [szE]; omega) (by first | (simp [Ty.ax, ndOf]; done) | (simp [Ty.ax, ndOf]; rfl)) (h1.cons dL.nil) (by simp [ndOf]) (by simp [ndOf]) (by simp [ndOf]) (by simp [ndOf]) (by rw [Ty.aJ, szE]; simp [bn]) (fun env s => by
     simp only [EF, SF, BF, List.map_cons, List.map_nil]; rw [Ty.dn, seeE])
 | .at p e i, a, h, o, f => by
   rw [LyE] at h
   have h1 := dQ hP e a h.1 o f
   have h2 := dQ hP i (a + szE e) h.2.1 o f
   exact dB hP h.2.2 (by rw [szE]; omega) (by first | (simp [Ty.ax, ndOf]; done) | (simp [Ty.ax, ndOf]; rfl)) (h1.cons (h2.cons dL.nil)) (by simp [ndOf]) (by simp [ndOf]) (by simp [ndOf]) (by simp [ndOf]) (by rw [Ty.aJ, Ty.aJ, szE]; simp [bn] <;> omega) (fun env s => by
     simp only [EF, SF, BF, List.map_cons, List.map_nil]; rw [bW, seeE, Ty.au, Ty.au]; congr 1; funext r; rw [Ty.aK, Ty.dn])
 | .two p x e i, a, h, o, f => by
   rw [LyE] at h
   have h1 := dQ hP e a h.1 o f
   have h2 := dQ hP i (a + szE e) h.2.1 o f
   exact dB hP h.2.2 (by rw [szE]; omega) (by first | (simp [Ty.ax, ndOf]; done) | (simp [Ty.ax, ndOf]; rfl)) (h1.cons (h2.cons dL.nil)) (by simp [ndOf]) (by simp [ndOf]) (by simp [ndOf]) (by simp [ndOf]) (by rw [Ty.aJ, Ty.aJ, szE]; simp [bn] <;> omega) (fun env s => by
     simp only [EF, SF, BF, List.map_cons, List.map_nil]; rw [bW, seeE, Ty.au, Ty.au]; congr 1; funext r; rw [Ty.aK, Ty.dn])
 | .obj p l, a, h, o, f => by
   rw [LyE] at h
   have h2 := zn hP l a h.1 o f
   exact dB hP h.2 (by rw [szE]; omega) (by first | (simp [Ty.ax, ndOf]; done) | (simp [Ty.ax, ndOf]; rfl)) h2 (by simp [ndOf]) (by simp [ndOf]) (by simp [ndOf]) (by have := Ty.jX l a; simp [ndOf]; omega) (by rw [Ty.pV, szE]; simp) (fun env s => by
     simp only [EF, SF, BF, List.map_cons, List.map_nil]; rw [seeE, Ty.zN])
 | .arr p l, a, h, o, f => by
   rw [LyE] at h
   have h2 := uP hP l a h.1 o f
   exact dB hP h.2 (by rw [szE]; omega) (by first | (simp [Ty.ax, ndOf]; done) | (simp [Ty.ax, ndOf]; rfl)) h2 (by simp [ndOf]) (by simp [ndOf]) (by simp [ndOf]) (by have := Ty.gU l a; simp [ndOf]; omega) (by rw [Ty.kW, szE]; simp) (fun env s => by
     simp only [EF, SF, BF, List.map_cons, List.map_nil]; rw [seeE, Ty.uT])
theorem uP (hP : PB wB nv tv pg) : ∀ (l : List Ex) (a : Nat), LyEs pg.ns l a → ∀ o f : Int, dL wB nv tv pg sb main o f (idsEs l a) (qo l a f)
 | [], _, _, _, _ => dL.nil
 | e :: l, a, h, o, f => by
   rw [LyEs] at h
   rw [idsEs, qo]
   exact (dQ hP e a h.1 o f).cons (uP hP l (a + szE e) h.2 o f)
theorem zn (hP : PB wB nv tv pg) : ∀ (l : List (Nat × ByteArray × Ex)) (a : Nat), LyOs pg.ns l a → ∀ o f : Int, dL wB nv tv pg sb main o f (idsOs l a) (qJ l a f)
 | [], _, _, _, _ => dL.nil
 | (p, x, e) :: l, a, h, o, f => by
   rw [LyOs] at h
   rw [idsOs, qJ]
   have h1 := dQ hP e a h.1 o f
   exact (dB hP h.2.1 rfl (by first | (simp [Ty.ax, ndOf]; done) | (simp [Ty.ax, ndOf]; rfl)) (h1.cons dL.nil) (by simp [ndOf]) (by simp [ndOf]) (by simp [ndOf]) (by simp [ndOf]) (by rw [Ty.aJ]; simp [bn]) (fun env s => by
     simp only [EF, SF, BF, List.map_cons, List.map_nil]; rw [Ty.dn])).cons (zn hP l (a + szE e + 1) h.2.2 o f)
theorem jh (hP : PB wB nv tv pg) : ∀ (l : List Sm) (a : Nat), LySs pg.ns l a → ∀ (o : Nat) (f : Int), dL wB nv tv pg sb main (o : Nat) f (idsSs l a) (rH l a o f)
 | [], _, _, _, _ => dL.nil
 | e :: l, a, h, o, f => by
   rw [LySs] at h
   rw [idsSs, rH]
   exact (ES hP e a h.1 o f).cons (jh hP l (a + szS e) h.2 o f)
theorem ES (hP : PB wB nv tv pg) : ∀ (e : Sm) (a : Nat), LyS pg.ns e a → ∀ (o : Nat) (f : Int), SeeC wB nv tv pg sb main (a + szS e - 1 : Nat) (o : Nat) f (szS e) (SF e a o f)
 | .let_ p x ty e, a, h, o, f => by
   rw [LyS] at h
   have h1 := dQ hP e a h.1 (o : Nat) f
   obtain ⟨nb, hnb, hfn⟩ := Ty.Dn e a h.1
   exact (Cf hP h.2 hnb hfn h1).to (by rw [szS]; omega) (by rw [szS]) (fun env s => by
     simp only [EF, SF, BF, List.map_cons, List.map_nil]; rw [Ty.mi, seeS]
     split
     · rfl
     · cases Ty.isFn e <;> simp only [Ty.au, Ty.aK, if_true, if_false, Bool.false_eq_true] <;> rfl)
 | .set p x e, a, h, o, f => by
   rw [LyS] at h
   have h1 := dQ hP e a h.1 (o : Nat) f
   exact (BA hP h.2 h1).to (by rw [szS]; omega) (by rw [szS]) (fun env s => by simp only [EF, SF, BF, List.map_cons, List.map_nil]; rw [Ty.ui, seeS])
 | .print p e, a, h, o, f => by
   rw [LyS] at h
   have h1 := dQ hP e a h.1 (o : Nat) f
   exact dB hP h.2 (by rw [szS]; omega) (by first | (simp [Ty.ax, ndOf]; done) | (simp [Ty.ax, ndOf]; rfl)) (h1.cons dL.nil) (by simp [ndOf]) (by simp [ndOf]) (by simp [ndOf]) (by simp [ndOf]) (by rw [Ty.aJ, szS]; simp [bn]) (fun env s => by
     simp only [EF, SF, BF, List.map_cons, List.map_nil]; rw [Ty.dn, seeS])
 | .ret p e, a, h, o, f => by
   rw [LyS] at h
   have h1 := dQ hP e a h.1 (o : Nat) f
   exact dB hP h.2 (by rw [szS]; omega) (by first | (simp [Ty.ax, ndOf]; done) | (simp [Ty.ax, ndOf]; rfl)) (h1.cons dL.nil) (by simp [ndOf]) (by simp [ndOf]) (by simp [ndOf]) (by simp [ndOf]) (by rw [Ty.aJ, szS]; simp [bn]) (fun env s => by
     simp only [EF, SF, BF, List.map_cons, List.map_nil]; rw [Ty.dn, seeS])
 | .do_ p e, a, h, o, f => by
   rw [LyS] at h
   have h1 := dQ hP e a h.1 (o : Nat) f
   exact dB hP h.2 (by rw [szS]; omega) (by first | (simp [Ty.ax, ndOf]; done) | (simp [Ty.ax, ndOf]; rfl)) (h1.cons dL.nil) (by simp [ndOf]) (by simp [ndOf]) (by simp [ndOf]) (by simp [ndOf]) (by rw [Ty.aJ, szS]; simp [bn]) (fun env s => by
     simp only [EF, SF, BF, List.map_cons, List.map_nil]; rw [Ty.dn, seeS])
 | .put p e x v, a, h, o, f => by
   rw [LyS] at h
   have h1 := dQ hP e a h.1 (o : Nat) f
   have h2 := dQ hP v (a + szE e) h.2.1 (o : Nat) f
   exact dB hP h.2.2 (by rw [szS]; omega) (by first | (simp [Ty.ax, ndOf]; done) | (simp [Ty.ax, ndOf]; rfl)) (h1.cons (h2.cons dL.nil)) (by simp [ndOf]) (by simp [ndOf]) (by simp [ndOf]) (by simp [ndOf]) (by rw [Ty.aJ, Ty.aJ, szS]; simp [bn] <;> omega) (fun env s => by
     simp only [EF, SF, BF, List.map_cons, List.map_nil]; rw [bW, seeS, Ty.au]; congr 1; funext r; rw [Ty.aK, Ty.dn])
 | .lay p e i v, a, h, o, f => by
   rw [LyS] at h
   have h1 := dQ hP e a h.1 (o : Nat) f
   have h2 := dQ hP i (a + szE e) h.2.1 (o : Nat) f
   have h3 := dQ hP v (a + szE e + szE i) h.2.2.1 (o : Nat) f
   exact dB hP h.2.2.2 (by rw [szS]; omega) (by first | (simp [Ty.ax, ndOf]; done) | (simp [Ty.ax, ndOf]; rfl)) (h1.cons (h2.cons (h3.cons dL.nil))) (by simp [ndOf]) (by simp [ndOf]) (by simp [ndOf]) (by simp [ndOf]) (by rw [Ty.aJ, Ty.aJ, Ty.aJ, szS]; simp [bn] <;> omega) (fun env s => by
     simp only [EF, SF, BF, List.map_cons, List.map_nil]; rw [bW, seeS, Ty.au]; congr 1; funext r; rw [Ty.aK, bW, Ty.au]; congr 1; funext r; rw [Ty.aK, Ty.dn])
 | .while_ p e bp b, a, h, o, f => by
   rw [LyS] at h
   have h1 := dQ hP e a h.1 (o : Nat) f
   have h2 := lW hP h.2.2.1 rfl (o := (o : Nat)) (jh hP b (a + szE e) h.2.1 (a + szE e + szSs b) f) (by have := Ty.dK b (a + szE e); omega) (K := szSs b) (by rw [Ty.fV]; simp) (G := BF b (a + szE e) f) (fun env s => by simp only [EF, SF, BF, List.map_cons, List.map_nil]; rw [Ty.jl])
   exact dB hP h.2.2.2 (by rw [szS]; omega) (by first | (simp [Ty.ax, ndOf]; done) | (simp [Ty.ax, ndOf]; rfl)) (h1.cons (h2.cons dL.nil)) (by simp [ndOf]) (by simp [ndOf]) (by simp [ndOf]) (by simp [ndOf]) (by rw [Ty.aJ, Ty.aJ, szS]; simp [bn] <;> omega) (fun env s => by
     simp only [EF, SF, BF, List.map_cons, List.map_nil]; rw [bW, seeS, Ty.au]; congr 1; funext r; rw [Ty.aK, Ty.dn])
 | .if_ p e bp b none, a, h, o, f => by
   rw [LyS] at h
   have h1 := dQ hP e a h.1 (o : Nat) f
   have h2 := lW hP h.2.2.1 rfl (o := (o : Nat)) (jh hP b (a + szE e) h.2.1 (a + szE e + szSs b) f) (by have := Ty.dK b (a + szE e); omega) (K := szSs b) (by rw [Ty.fV]; simp) (G := BF b (a + szE e) f) (fun env s => by simp only [EF, SF, BF, List.map_cons, List.map_nil]; rw [Ty.jl])
   exact dB hP h.2.2.2 (by rw [szS]; omega) (by first | (simp [Ty.ax, ndOf]; done) | (simp [Ty.ax, ndOf]; rfl)) (h1.cons (h2.cons dL.nil)) (by simp [ndOf]) (by simp [ndOf]) (by simp [ndOf]) (by simp [ndOf]) (by rw [Ty.aJ, Ty.aJ, szS]; simp [bn] <;> omega) (fun env s => by
     simp only [EF, SF, BF, List.map_cons, List.map_nil]; rw [bW, seeS, Ty.au]; congr 1; funext r; rw [Ty.aK, Ty.dn])
 | .if_ p e bp b (some (cp, c)), a, h, o, f => by
   rw [LyS] at h
   have h1 := dQ hP e a h.1 (o : Nat) f
   have h2 := lW hP h.2.2.1 rfl (o := (o : Nat)) (jh hP b (a + szE e) h.2.1 (a + szE e + szSs b) f) (by have := Ty.dK b (a + szE e); omega) (K := szSs b) (by rw [Ty.fV]; simp) (G := BF b (a + szE e) f) (fun env s => by simp only [EF, SF, BF, List.map_cons, List.map_nil]; rw [Ty.jl])
   have h3 := lW hP h.2.2.2.2.1 rfl (o := (o : Nat)) (jh hP c (a + szE e + szSs b + 1) h.2.2.2.1 (a + szE e + szSs b + 1 + szSs c) f) (by have := Ty.dK c (a + szE e + szSs b + 1); omega) (K := szSs c) (by rw [Ty.fV]; simp) (G := BF c (a + szE e + szSs b + 1) f) (fun env s => by simp only [EF, SF, BF, List.map_cons, List.map_nil]; rw [Ty.jl])
   exact dB hP h.2.2.2.2.2 (by rw [szS]; omega) (by first | (simp [Ty.ax, ndOf]; done) | (simp [Ty.ax, ndOf]; rfl)) (h1.cons (h2.cons (h3.cons dL.nil))) (by simp [ndOf]) (by simp [ndOf]) (by simp [ndOf]) (by simp [ndOf]) (by rw [Ty.aJ, Ty.aJ, Ty.aJ, szS]; simp [bn] <;> omega) (fun env s => by
     simp only [EF, SF, BF, List.map_cons, List.map_nil]; rw [bW, seeS, Ty.au]; congr 1; funext r; rw [Ty.aK, bW, BF, Ty.au]; congr 1; funext r; rw [Ty.aK, Ty.dn])
end
end
end
section
open Go Go.RowKit
open Prt (Sat As blk pur exs star ah)
open Ty (Kn Sg Mo andX bW dM bn)
theorem Eu {wB : World} {nv tv : Value} {main : Int} (b : Nat) (hb : b = wB.heap.size) : Sat wB (wB.alloc (.cells #[nv, tv, .int .i64 main, .slice none 0 0, .slice none 0 0, .slice none 0 0, .int .i64 0, .int .i64 0] 95)) [Prt.bI wB, siA b nv tv main [] ⟨[], []⟩ (0, 0)] := by
 have h := ((((Prt.Sat.old wB).aj (.cells #[nv, tv, .int .i64 main, .slice none 0 0, .slice none 0 0, .slice none 0 0, .int .i64 0, .int .i64 0] 95) b hb).nil 154 4).nil 43 2).nil 3 1
 exact Prt.Sat.fP (s := ⟨[], []⟩) (f := (0, 0)) (q := (.slice none 0 0, .slice none 0 0, .slice none 0 0)) h
theorem Dl {w : World} {v : Value} {l : List (Nat × Nat)} (h : w.ownsRow 0 43 2 v l.length (l.flatMap dD)) (k : Nat) (hk : k < l.length) :
   ∃ g cap : Nat, v = .slice (some ⟨g, 0, none⟩) l.length cap ∧ g < w.heap.size ∧ w.cell? ⟨g, k * 2, none⟩ = some (.int .i64 (l[k].1 : Nat)) ∧ w.cell? ⟨g, k * 2 + 1, none⟩ = some (.int .i64 (l[k].2 : Nat)) := by
 obtain ⟨g, cap, rfl, _, hg⟩ := h.form (by omega)
 have hc := fun j u hj => World.ownsRow.cells h (g := g) rfl j u hj
 have hf := flat_get dD 2 (fun _ => rfl) l k hk
 refine ⟨g, cap, rfl, hg, ?_, ?_⟩
 · have := hc (k * 2 + 0) _ (by rw [hf 0 (by omega)]; rfl)
   rwa [Addr.add_lit, Nat.zero_add] at this
 · have := hc (k * 2 + 1) _ (by rw [hf 1 (by omega)]; rfl)
   rwa [Addr.add_lit, Nat.zero_add] at this
namespace Ty
def jv (out : List (Nat × Nat)) (n : Nat) : List (Nat × Nat) := (List.range n).flatMap (fun n => out.filter (fun b => decide (b.1 = n)))
def gG (ca : List Nat) (n : Nat) : List Nat := (List.range n).filter (fun n => decide (n ∈ ca))
theorem nM (out : List (Nat × Nat)) (n : Nat) : jv out (n + 1) = jv out n ++ out.filter (fun b => decide (b.1 = n)) := by
 unfold jv; rw [List.range_succ, List.flatMap_append]; simp
theorem qL (out : List (Nat × Nat)) : ∀ n, (jv out n).length ≤ n * out.length
 | 0 => by simp [jv]
 | n + 1 => by
   rw [nM, List.length_append, Nat.succ_mul]
   have := qL out n
   have := List.length_filter_le (fun b : Nat × Nat => decide (b.1 = n)) out
   omega
theorem xg (ca : List Nat) (n : Nat) : gG ca (n + 1) = gG ca n ++ if n ∈ ca then [n] else [] := by
 unfold gG; rw [List.range_succ, List.filter_append]; congr 1; by_cases h : n ∈ ca <;> simp [h]
theorem yP (ca : List Nat) (n : Nat) : (gG ca n).length ≤ n := by
 unfold gG; have := List.length_filter_le (fun n => decide (n ∈ ca)) (List.range n); simpa using this
end Ty
def PgV (pv : Value) : Prop := ∃ a n c b m c2 k, pv = .agg #[.slice a n c, .slice b m c2, .int .i64 k]
theorem kD {w0 w : World} {Fr : As} (H : Sat w0 w [Fr]) (s : ByteArray) (hm : s.size ≤ maxLen) {l : List Ty.Sm} (hl : ∀ pg : Ty.Pg, Ty.parse s = .ok pg → Ty.layB 0 l [] = (pg.ns, pg.main)) {R : Ending → World → Prop}
   (hok : ∀ (pv : Value) (pg : Ty.Pg) ov cv out caught w', PgV pv → Ty.parse s = .ok pg → Ty.dX l = .ok (out, caught) → Sat w0 w' [Fr, bdA ov out, inA cv caught] → R (.returned (.tuple #[pv, ov, cv, aP (0, 0)])) w')
   (hbad : ∀ (pv : Value) f w', PgV pv → (Ty.parse s = .error f ∨ ∃ pg : Ty.Pg, Ty.parse s = .ok pg ∧ Ty.dX l = .error f) → Sat w0 w' [Fr] → R (.returned (.tuple #[pv, .slice none 0 0, .slice none 0 0, aP f])) w') :
   Calls Tryz.prog 18 #[.string s] w R := by
 have HOK := qh hok
 have HBAD := qh hbad
 have HMX := qh hm
 have HLL := qh hl
 have h1 := (H.aj (.cells #[.slice none 0 0, .slice none 0 0, .int .i64 0] 31) w.heap.size).aj (.cells #[.int .i64 0, .int .i64 0] 25) (w.heap.size + 1)
 have H1 := qh (Prt.Sat.pack (L := []) h1)
 obtain ⟨i0, ti, tz0, tz1, tz2⟩ := info_parts nO
 obtain ⟨j0, tj, uz0, uz1, uz2⟩ := info_parts bY
 clear hok hbad hm H h1 hl
 go_enter Tryz.func18, Tryz.ntmps18
 go_wp2_with fail
 refine kT H1.out s HMX.out (fun pg nv tv w1 ht h2 => ?_) (fun f w1 ht h2 => ?_)
 · have hly := HLL.out pg ht
   obtain ⟨hss, hmn, hmm, hnl⟩ := Ty.lay_ly hly
   have hok := Ty.parse_pg ht
   obtain ⟨nr, hnr, hnrd⟩ := h2.gZ 1 rfl
   obtain ⟨tr, htr, htrd⟩ := h2.zQ 2 rfl
   have h3 := (((h2.unpack (i := 0) rfl).pick [2, 3, 4]).aj (.cells #[nv, tv, .int .i64 (pg.main : Nat)] 31) w1.heap.size).aj (.cells #[.int .i64 0, .int .i64 0] 25) (w1.heap.size + 1)
   have hbB : Below w1.heap.size w1 ((w1.alloc (.cells #[nv, tv, .int .i64 (pg.main : Nat)] 31)).alloc (.cells #[.int .i64 0, .int .i64 0] 25)) := ((Below.refl _ _).alloc (Nat.le_refl _) _).alloc (by simp) _
   have hP : PB ((w1.alloc (.cells #[nv, tv, .int .i64 (pg.main : Nat)] 31)).alloc (.cells #[.int .i64 0, .int .i64 0] 25)) nv tv pg := ⟨⟨nr, hnr, hnrd.below hbB⟩, ⟨tr, htr, htrd.below hbB⟩, hok⟩
   have hsi := Eu (wB := (w1.alloc (.cells #[nv, tv, .int .i64 (pg.main : Nat)] 31)).alloc (.cells #[.int .i64 0, .int .i64 0] 25)) (nv := nv) (tv := tv) (main := (pg.main : Nat)) (w1.heap.size + 2) (by simp)
   have hN := hok.nlen
   have hll := Ty.dK l 0
   have hcs := Ty.fV l 0 (Ty.szSs l) (-1)
   have HST := qh (fun R hR => (lW (sb := w1.heap.size + 2) (main := (pg.main : Nat)) hP hmn hmm.symm (o := (pg.main : Nat)) (jh hP l 0 hss (Ty.szSs l) (-1)) hll (K := Ty.szSs l) (by omega) (G := BF l 0 (-1)) (fun env s => by rw [Ty.jl]; show _ = andX (Ty.seeSs l 0 (0 + Ty.szSs l) (-1) env s) _; rw [Nat.zero_add])).run [] ⟨[], []⟩ _ _ (FrB.old _) hsi (by simp; omega) (by simp; omega) (by simp; omega) R hR)
   have HT := qh ht
   have HLY := qh hly
   have H3 := qh h3
   have HNL := qh hnl
   obtain ⟨g, cap, _, rfl, _⟩ := hP.look hmn
   obtain ⟨ta, tc, rfl⟩ := ag htrd.row
   clear hly hss hmn hok h2 hnr hnrd htr htrd h3 hbB hP hsi hll hcs ht hnl hmm
   generalize tr.length = TL at *
   rw [show aP (0, 0) = .agg #[.int .i64 0, .int .i64 0] from rfl]
   go_wp2_with fail
   refine HST.out _ (fun w5 h5 => ?_)
   obtain ⟨r, hr⟩ : ∃ r, r = Ty.seeSs l 0 (Ty.szSs l) (-1) [] ⟨[], []⟩ := ⟨_, rfl⟩
   have hq : BF l 0 (-1) [] ⟨[], []⟩ = andX r fun r => .ok ([], r.2) := by
     show andX (Ty.seeSs l 0 (0 + Ty.szSs l) (-1) [] ⟨[], []⟩) _ = _
     rw [Nat.zero_add, hr]
   rw [hq] at h5
   cases r with
   | error e =>
     obtain ⟨q, h6⟩ := h5.ex (i := 1) rfl
     have h7 := h6.unpack (i := 1) rfl
     have hqe : q.1.length ≤ Ty.szSs l ∧ e.1 ≠ 0 := h7.get (i := 1) rfl fun _ ha _ => ha
     have he := hqe.2
     have h8 := H3.out.join (M := [siA (w1.heap.size + 1 + 1) _ _ _ _ _ _]) (h7.pick [0, 2])
     obtain ⟨⟨ev, ov, cv⟩, h9⟩ := h8.ex (i := 5) rfl
     have h10 := h9.unpack (i := 5) rfl
     have HB : Hid (Ty.dX l = .error e) := by show _ = _; unfold Ty.dX; rw [← hr]; rfl
     obtain ⟨fe, fp⟩ := e
     dsimp only at he
     have e2 : ((fe : Int) != 0) = true := by simp; omega
     have x6 := h10.cell 5 rfl 6 rfl
     have x7 := h10.cell 5 rfl 7 rfl
     have z0 := h10.cell 1 rfl 0 rfl
     have z1 := h10.cell 1 rfl 1 rfl
     have z2 := h10.cell 1 rfl 2 rfl
     have y0 := h10.cell 2 rfl 0 rfl
     have y1 := h10.cell 2 rfl 1 rfl
     have fz := h10.free 1 rfl
     have fy := h10.free 2 rfl
     have hz := h10.lt 1 rfl
     have hy := h10.lt 2 rfl
     have hsb := h10.lt 5 rfl
     dsimp only at x6 x7
     have H10 := qh h10
     clear h5 h6 h7 h8 h9 h10 hr hq he hqe H3
     go_wp2_with fail
     go_region
     all_goals
       go_wp2_with fail
       refine bodyPost_ret ?_ rfl (HBAD.out (.agg #[.slice none 0 0, .slice none 0 0, .int .i64 0]) (fe, fp) _ ⟨_, _, _, _, _, _, _, rfl⟩ (.inr ⟨pg, HT.out, HB.out⟩) ?_)
       · simp [results, Tryz.results18, go_sem, aP, hz, hy, z0, z1, z2, y0, y1]
       · exact (((((H10.out.store 1 rfl 0 _).store 1 rfl 1 _).store 1 rfl 2 _).store 2 rfl 0 _).store 2 rfl 1 _).drew.pick [0]
   | ok r =>
     obtain ⟨kn0, out, cau⟩ := r
     have hmo := (Ty.fZ l 0 (Ty.szSs l) (-1) [] ⟨[], []⟩ _ hr.symm).1
     have hol : out.length ≤ 1200 := by have := hmo.out; have := HNL.out; simp at *; omega
     have hcl : cau.length ≤ 1200 := by have := hmo.caught; have := HNL.out; simp at *; omega
     have HB : Hid (Ty.dX l = .ok (Ty.jv out pg.ns.length, Ty.gG cau pg.ns.length)) := by show _ = _; unfold Ty.dX; rw [← hr, HNL.out]; rfl
     have h8 := H3.out.join (M := [siA (w1.heap.size + 1 + 1) _ _ _ _ _ _]) h5
     obtain ⟨⟨ev, ov, cv⟩, h9⟩ := h8.ex (i := 5) rfl
     have h10 := h9.unpack (i := 5) rfl
     obtain ⟨oa, oc, rfl⟩ := ag (h10.row 7 rfl)
     obtain ⟨ca, cc, rfl⟩ := ag (h10.row 8 rfl)
     have h11 := (h10.nil 43 2).nil 3 1
     have HNC : Hid (g = g ∧ pg.ns.length ≤ 1200) := ⟨rfl, hN⟩
     obtain ⟨kn, hkn⟩ : ∃ kn : List Kn, kn = [] := ⟨_, rfl⟩
     rw [← hkn] at h11
     clear h5 h8 h9 h10 hr hq hmo H3 hkn HNL
     generalize hmain : pg.main = mn at *
     generalize hNN : pg.ns.length = N at *
     have h12 : Sat w0 w5 [Fr, blk w.heap.size (.cells #[.slice none 0 0, .slice none 0 0, .int .i64 0] 31), blk (w.heap.size + 1) (.cells #[.int .i64 0, .int .i64 0] 25), blk w1.heap.size (.cells #[.slice (some ⟨g, 0, none⟩) N cap, .slice ta TL tc, .int .i64 (mn : Nat)] 31), blk (w1.heap.size + 1) (.cells #[.int .i64 0, .int .i64 0] 25), blk (w1.heap.size + 1 + 1) (siO (.slice (some ⟨g, 0, none⟩) N cap) (.slice ta TL tc) (mn : Nat) ev (.slice oa out.length oc) (.slice ca cau.length cc) (0, 0)), knA ev kn, bdA (.slice oa out.length oc) out, inA (.slice ca cau.length cc) cau, bdA (.slice none 0 0) (Ty.jv out 0), inA (.slice none 0 0) (Ty.gG cau 0)] := h11
     have x6 := h12.cell 5 rfl 6 rfl
     have hsb := h12.lt 5 rfl
     dsimp only at x6
     have H12 := qh h12
     clear h11 h12
     go_wp2_with fail
     go_loopw [9, 10, 11] (fun a b i wr => ∃ (n : Nat) (xa ya : Option Addr) (xc yc : Nat), a = .slice xa (Ty.jv out n).length xc ∧ b = .slice ya (Ty.gG cau n).length yc ∧ i = .int .i64 n ∧ n ≤ N ∧ Hid (Sat w0 wr [Fr, blk w.heap.size (.cells #[.slice none 0 0, .slice none 0 0, .int .i64 0] 31), blk (w.heap.size + 1) (.cells #[.int .i64 0, .int .i64 0] 25), blk w1.heap.size (.cells #[.slice (some ⟨g, 0, none⟩) N cap, .slice ta TL tc, .int .i64 (mn : Nat)] 31), blk (w1.heap.size + 1) (.cells #[.int .i64 0, .int .i64 0] 25), blk (w1.heap.size + 1 + 1) (siO (.slice (some ⟨g, 0, none⟩) N cap) (.slice ta TL tc) (mn : Nat) ev (.slice oa out.length oc) (.slice ca cau.length cc) (0, 0)), knA ev kn, bdA (.slice oa out.length oc) out, inA (.slice ca cau.length cc) cau, bdA (.slice xa (Ty.jv out n).length xc) (Ty.jv out n), inA (.slice ya (Ty.gG cau n).length yc) (Ty.gG cau n)])) (fun _ _ i _ => N - (intOf i).toNat)
     case atStart => exact ⟨0, none, none, 0, 0, rfl, rfl, rfl, Nat.zero_le _, H12.out⟩
     case round =>
       obtain ⟨n, xa, ya, xc, yc, rfl, rfl, rfl, hn, hS⟩ := hrel
       clear H12 x6 hsb
       have v0 := hS.out.cell 3 rfl 0 rfl
       have u4 := hS.out.cell 5 rfl 4 rfl
       dsimp only at v0 u4
       have hsb1 := hS.out.lt 5 rfl
       by_cases hlt : n < N
       · go_wp2_with fail
         go_loopw [9, 12] (fun a i wx => ∃ (k : Nat) (acc : List (Nat × Nat)) (xa : Option Addr) (xc : Nat), a = .slice xa acc.length xc ∧ i = .int .i64 k ∧ k ≤ out.length ∧ Hid (acc = Ty.jv out n ++ (out.take k).filter (fun b => decide (b.1 = n))) ∧ Hid (Sat w0 wx [Fr, blk w.heap.size (.cells #[.slice none 0 0, .slice none 0 0, .int .i64 0] 31), blk (w.heap.size + 1) (.cells #[.int .i64 0, .int .i64 0] 25), blk w1.heap.size (.cells #[.slice (some ⟨g, 0, none⟩) N cap, .slice ta TL tc, .int .i64 (mn : Nat)] 31), blk (w1.heap.size + 1) (.cells #[.int .i64 0, .int .i64 0] 25), blk (w1.heap.size + 1 + 1) (siO (.slice (some ⟨g, 0, none⟩) N cap) (.slice ta TL tc) (mn : Nat) ev (.slice oa out.length oc) (.slice ca cau.length cc) (0, 0)), knA ev kn, bdA (.slice oa out.length oc) out, inA (.slice ca cau.length cc) cau, bdA (.slice xa acc.length xc) acc, inA (.slice ya (Ty.gG cau n).length yc) (Ty.gG cau n)])) (fun _ i _ => out.length - (intOf i).toNat)
         case atStart => exact ⟨0, Ty.jv out n, xa, xc, rfl, rfl, Nat.zero_le _, by show _ = _; simp, hS.out⟩
         case round =>
           obtain ⟨k, acc, xa2, xc2, rfl, rfl, hk, hA, hT⟩ := hrel
           clear hS v0 u4 hsb1
           have u4 := hT.out.cell 5 rfl 4 rfl
           dsimp only at u4
           have hsb1 := hT.out.lt 5 rfl
           by_cases hlk : k < out.length
           · obtain ⟨og, ocap, e, hog, d0, d1⟩ := Dl (hT.out.row 7 rfl) k hlk
             cases e
             have hal : acc.length ≤ 1200 * 1200 + 1200 := by
               rw [hA.out, List.length_append]
               have h1 := Ty.qL out n
               have h2 := List.length_filter_le (fun b : Nat × Nat => decide (b.1 = n)) (out.take k)
               rw [List.length_take] at h2
               have h3 : n * out.length ≤ 1200 * 1200 := Nat.mul_le_mul (by have := HNC.out.2; omega) hol
               omega
             have HTK : Hid ((out.take (k + 1)).filter (fun b => decide (b.1 = n)) = (out.take k).filter (fun b => decide (b.1 = n)) ++ if out[k].1 = n then [out[k]] else []) := by
               show _ = _
               rw [List.take_succ_eq_append_getElem hlk, List.filter_append]
               congr 1
               by_cases h : out[k].1 = n <;> simp [h]
             generalize out[k] = q at *
             by_cases hx : q.1 = n
             · have kk : (((q.1 : Nat) : Int) == (n : Int)) = true := by simp [hx]
               have HTK2 : Hid ((out.take (k + 1)).filter (fun b => decide (b.1 = n)) = (out.take k).filter (fun b => decide (b.1 = n)) ++ [q]) := by show _ = _; rw [HTK.out, if_pos hx]
               clear hx
               go_wp2_with (at_builtin; go_loud (refine wpList_append_lies _ rfl (.tmp 69) (.tmp 77) 36 rfl 0 43 i0 _ 2 16 Tryz.underlying36 ti tz0 tz1 tz2 rfl (by decide) _ _ (acc.flatMap dD) (by rfl) ((hT.out.row 9 rfl).alloc _) ⟨wr.heap.size, 0, none⟩ 1 1 [.int .i64 (q.1 : Nat), .int .i64 (q.2 : Nat)] (by rfl) (by rfl) (World.news_of_block (cs := #[.int .i64 (q.1 : Nat), .int .i64 (q.2 : Nat)]) (t := 43) (fr := (0, 0)) (ak _ _ _ (by simp))) (by simp [Value.oneCell']) (by omega) (by unfold maxLen; omega) (by omega) (by simp) (wr.heap.size + 1) (by simp) ?_))
               intro g8 cap8 w8 hown8 hgrow8 hat8 hlt8'
               have h8 := Prt.Sat.grow (hT.out.ay _) 9 rfl hgrow8 hown8 (by simpa using hat8)
               have h9 := h8.ent (i := 9) rfl (Q := bdA (.slice (some ⟨g8, 0, none⟩) (acc.length + 1) cap8) (acc ++ [q])) (fun _ h => lU h)
               have H9 := qh h9
               have hA2 : Hid (acc ++ [q] = Ty.jv out n ++ (out.take (k + 1)).filter (fun b => decide (b.1 = n))) := by show _ = _; rw [HTK2.out, ← List.append_assoc, ← hA.out]
               clear h8 h9 hown8 hgrow8 u4 d0 d1
               go_wp2_with fail
               go_roundw
               case rel =>
                 refine ⟨k + 1, acc ++ [q], some ⟨g8, 0, none⟩, cap8, by rw [List.length_append]; rfl, by go_num, by omega, hA2, ?_⟩
                 show Sat _ _ _
                 rw [List.length_append]
                 exact H9.out
               case measure => simp [intOf]; omega
             · have kk : (((q.1 : Nat) : Int) == (n : Int)) = false := beq_eq_false_iff_ne.2 (by omega)
               have HTK2 : Hid ((out.take (k + 1)).filter (fun b => decide (b.1 = n)) = (out.take k).filter (fun b => decide (b.1 = n))) := by show _ = _; rw [HTK.out, if_neg hx, List.append_nil]
               clear hx
               go_wp2_with fail
               go_roundw
               case rel => exact ⟨k + 1, acc, _, _, rfl, by go_num, by omega, by show _ = _; rw [HTK2.out]; exact hA.out, hT.out⟩
               case measure => simp [intOf]; omega
           · have e : acc = Ty.jv out (n + 1) := by rw [hA.out, show k = out.length by omega, List.take_length, Ty.nM]
             have u3 := hT.out.cell 5 rfl 5 rfl
             dsimp only at u3
             have HHAS := qh (hT.out.row 8 rfl)
             subst e
             have hke : k = out.length := by omega
             subst hke
             have hyl : (Ty.gG cau n).length ≤ 1200 := by have := Ty.yP cau n; have := HNC.out.2; omega
             have HCN := qh (Ty.xg cau n)
             go_wp2_with fail
             refine vN _ _ cau HHAS.out (by omega) n ?_
             by_cases hx : n ∈ cau
             · rw [decide_eq_true hx]
               have HC2 : Hid (Ty.gG cau (n + 1) = Ty.gG cau n ++ [n]) := by show _ = _; rw [HCN.out, if_pos hx]
               clear hx HHAS u3 u4
               go_wp2_with (at_builtin; go_loud (refine wpList_append_lies _ rfl (.tmp 85) (.tmp 87) 39 rfl 0 3 j0 _ 1 8 Tryz.underlying39 tj uz0 uz1 uz2 rfl (by decide) _ _ ((Ty.gG cau n).map aA) (by rfl) ((hT.out.row 10 rfl).alloc _) ⟨wr.heap.size, 0, none⟩ 1 1 [.int .i64 (n : Nat)] (by rfl) (by rfl) (World.news_of_block (cs := #[.int .i64 (n : Nat)]) (t := 3) (fr := (0, 0)) (ak _ _ _ (by simp))) (by simp [Value.oneCell']) (by omega) (by unfold maxLen; omega) (by omega) (by simp) (wr.heap.size + 1) (by simp) ?_))
               intro g8 cap8 w8 hown8 hgrow8 hat8 hlt8'
               have h8 := Prt.Sat.grow (hT.out.ay _) 10 rfl hgrow8 hown8 (by simpa using hat8)
               have h9 := h8.ent (i := 10) rfl (Q := inA (.slice (some ⟨g8, 0, none⟩) ((Ty.gG cau n).length + 1) cap8) (Ty.gG cau n ++ [n])) (fun _ h => bz h)
               have H9 := qh h9
               clear h8 h9 hown8 hgrow8
               go_wp2_with fail
               go_roundw
               case rel =>
                 refine ⟨n + 1, xa2, some ⟨g8, 0, none⟩, xc2, cap8, rfl, by rw [HC2.out, List.length_append]; rfl, by go_num, by omega, ?_⟩
                 show Sat _ _ _
                 rw [HC2.out, List.length_append]
                 exact H9.out
               case measure => simp [intOf]; omega
             · rw [decide_eq_false hx]
               have HC2 : Hid (Ty.gG cau (n + 1) = Ty.gG cau n) := by show _ = _; rw [HCN.out, if_neg hx, List.append_nil]
               clear hx HHAS u3 u4
               go_wp2_with fail
               go_roundw
               case rel =>
                 refine ⟨n + 1, xa2, ya, xc2, yc, rfl, by rw [HC2.out], by go_num, by omega, ?_⟩
                 show Sat _ _ _
                 rw [HC2.out]
                 exact hT.out
               case measure => simp [intOf]; omega
       · have hne : n = N := by omega
         subst hne
         have v1 := hS.out.cell 3 rfl 1 rfl
         have v2 := hS.out.cell 3 rfl 2 rfl
         have q0 := hS.out.cell 4 rfl 0 rfl
         have q1 := hS.out.cell 4 rfl 1 rfl
         have z0 := hS.out.cell 1 rfl 0 rfl
         have z1 := hS.out.cell 1 rfl 1 rfl
         have z2 := hS.out.cell 1 rfl 2 rfl
         have y0 := hS.out.cell 2 rfl 0 rfl
         have y1 := hS.out.cell 2 rfl 1 rfl
         have fz := hS.out.free 1 rfl
         have fy := hS.out.free 2 rfl
         have hz := hS.out.lt 1 rfl
         have hy := hS.out.lt 2 rfl
         have hv := hS.out.lt 3 rfl
         have hq := hS.out.lt 4 rfl
         have n13 := hS.out.ne 1 3 (by decide) rfl rfl
         have n14 := hS.out.ne 1 4 (by decide) rfl rfl
         have n23 := hS.out.ne 2 3 (by decide) rfl rfl
         have n24 := hS.out.ne 2 4 (by decide) rfl rfl
         have m13 := n13.symm
         have m14 := n14.symm
         have m23 := n23.symm
         have m24 := n24.symm
         go_wp2_with fail
         go_region
         all_goals
           go_wp2_with fail
           refine bodyPost_ret ?_ rfl (HOK.out (.agg #[.slice (some ⟨g, 0, none⟩) n cap, .slice ta TL tc, .int .i64 (mn : Nat)]) pg (.slice xa (Ty.jv out n).length xc) (.slice ya (Ty.gG cau n).length yc) _ _ _ ⟨_, _, _, _, _, _, _, rfl⟩ HT.out HB.out ?_)
           · simp [results, Tryz.results18, go_sem, aP, hz, hy, z0, z1, z2, y0, y1]
           · exact (((((hS.out.store 1 rfl 0 _).store 1 rfl 1 _).store 1 rfl 2 _).store 2 rfl 0 _).store 2 rfl 1 _).drew.pick [0, 9, 10]
 · have hbd := Ty.parse_bad ht
   obtain ⟨fe, fp⟩ := f
   dsimp only at hbd
   have e2 : ((fe : Int) != 0) = true := by simp; omega
   have h10 := h2.unpack (i := 0) rfl
   have z0 := h10.cell 1 rfl 0 rfl
   have z1 := h10.cell 1 rfl 1 rfl
   have z2 := h10.cell 1 rfl 2 rfl
   have y0 := h10.cell 2 rfl 0 rfl
   have y1 := h10.cell 2 rfl 1 rfl
   have fz := h10.free 1 rfl
   have fy := h10.free 2 rfl
   have hz := h10.lt 1 rfl
   have hy := h10.lt 2 rfl
   have H11 := qh h10
   have HT := qh ht
   have hz1 : w.heap.size < w1.heap.size + 1 := by omega
   have hz2 : w.heap.size < w1.heap.size + 1 + 1 := by omega
   have hy1 : w.heap.size + 1 < w1.heap.size + 1 := by omega
   have hy2 : w.heap.size + 1 < w1.heap.size + 1 + 1 := by omega
   clear h2 h10 ht hbd
   dsimp only [aP]
   go_wp2_with fail
   go_region
   all_goals
     go_wp2_with fail
     refine bodyPost_ret ?_ rfl (HBAD.out (.agg #[.slice none 0 0, .slice none 0 0, .int .i64 0]) (fe, fp) _ ⟨_, _, _, _, _, _, _, rfl⟩ (.inl HT.out) ?_)
     · simp [results, Tryz.results18, go_sem, aP, hz, hy, hz1, hz2, hy1, hy2, z0, z1, z2, y0, y1]
     · exact (((((((H11.out.store 1 rfl 0 _).store 1 rfl 1 _).store 1 rfl 2 _).store 2 rfl 0 _).store 2 rfl 1 _).ay _).ay _).drew.pick [0]
end
end Go.Proofs.YtdlbhiaceheffabGreatDoor
