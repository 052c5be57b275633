/- The program's visit at all trees. -/
import Derived.Shelf.GgSortFunc.RowK
import Derived.Shelf.SlSortCmp.NoneTotal
import Derived.Test.YtdlbhiaceheffabGreatDoorY20
import Derived.Test.YtdlbhiaceheffabGreatDoorY38
set_option linter.all false
set_option maxRecDepth 100000
set_option maxHeartbeats 4000000
namespace Go.Proofs.YtdlbhiaceheffabGreatDoor
section
open Go Go.RowKit
open Prt (Sat As blk pur exs star ah)
open Ty (Frm Vg andX Ex Sm Par LyE LyEs LyOs LySs LyS LyPs szE szEs szOs szSs szS idsEs idsOs idsSs idsPs visE visEs visOs visSs visS ndOf)
namespace Ty
abbrev VE (e : Ex) (a : Nat) : df := fun frs v => andX (visE e a frs v) fun v => .ok (frs, v)
def VS (e : Sm) (a : Nat) : df
 | [], v => .ok ([], v)
 | fr :: l, v => andX (visS e a fr l v) fun r => .ok (r.1 :: l, r.2)
def pK : List Ex → Nat → List (Nat × df)
 | [], _ => []
 | e :: l, a => (szE e, VE e a) :: pK l (a + szE e)
def qH : List (Nat × ByteArray × Ex) → Nat → List (Nat × df)
 | [], _ => []
 | (_, _, e) :: l, a => (szE e + 1, VE e a) :: qH l (a + szE e + 1)
def iC : List Sm → Nat → List (Nat × df)
 | [], _ => []
 | e :: l, a => (szS e, VS e a) :: iC l (a + szS e)
theorem lT : ∀ (l : List Ex) (a : Nat), bG (pK l a) = szEs l
 | [], _ => by rw [szEs]; rfl
 | e :: l, a => by rw [pK, aU, lT l, szEs]
theorem pI : ∀ (l : List (Nat × ByteArray × Ex)) (a : Nat), bG (qH l a) = szOs l
 | [], _ => by rw [szOs]; rfl
 | (_, _, e) :: l, a => by rw [qH, aU, pI l, szOs]
theorem jJ : ∀ (l : List Sm) (a : Nat), bG (iC l a) = szSs l
 | [], _ => by rw [szSs]; rfl
 | e :: l, a => by rw [iC, aU, jJ l, szSs]
theorem nP : ∀ (l : List Ex) (a : Nat) (frs : List Frm) (v : Vg), bT ((pK l a).map Prod.snd) frs v = andX (visEs l a frs v) fun v => .ok (frs, v)
 | [], _, _, _ => by rw [visEs]; rfl
 | e :: l, a, frs, v => by
   rw [pK, visEs, List.map_cons, bT, au, au]
   congr 1
   funext r
   rw [aK, nP l]
theorem wo : ∀ (l : List (Nat × ByteArray × Ex)) (a : Nat) (frs : List Frm) (v : Vg), bT ((qH l a).map Prod.snd) frs v = andX (visOs l a frs v) fun v => .ok (frs, v)
 | [], _, _, _ => by rw [visOs]; rfl
 | (_, _, e) :: l, a, frs, v => by
   rw [qH, visOs, List.map_cons, bT, au, au]
   congr 1
   funext r
   rw [aK, wo l]
theorem iQ : ∀ (l : List Sm) (a : Nat) (fr : Frm) (frs : List Frm) (v : Vg), bT ((iC l a).map Prod.snd) (fr :: frs) v = andX (visSs l a fr frs v) fun r => .ok (r.1 :: frs, r.2)
 | [], _, _, _, _ => by rw [visSs]; rfl
 | e :: l, a, fr, frs, v => by
   rw [visSs, au]
   show andX (andX (visS e a fr frs v) fun r => .ok (r.1 :: frs, r.2)) (fun r => bT ((iC l (a + szS e)).map Prod.snd) r.1 r.2) = _
   rw [au]
   congr 1
   funext r
   rw [aK, iQ l]
theorem Az (l : List Sm) (a : Nat) : TlV (iC l a) := fun fr m v frs' v' h => by
 rw [iQ] at h
 cases hq : visSs l a fr m v with
 | error f => rw [hq] at h; cases h
 | ok r => rw [hq] at h; cases h; exact ⟨_, rfl⟩
def psL : List Par → Nat → List (ByteArray × Nat)
 | [], _ => []
 | q :: ps, a => (q.text, a) :: psL ps (a + 1)
theorem oJ : ∀ (ps : List Par) (a : Nat), (psL ps a).length = ps.length
 | [], _ => rfl
 | _ :: l, a => by rw [psL, List.length_cons, oJ l, List.length_cons]
theorem rO : ∀ (ps : List Par) (a : Nat) (fr : Frm) (frs : List Frm) (v : Vg), dw (psL ps a) (fr :: frs) v = ((declPs ps a fr v).1 :: frs, (declPs ps a fr v).2)
 | [], _, _, _, _ => rfl
 | q :: ps, a, fr, frs, v => by
   show dw (psL ps (a + 1)) (addN fr q.text a :: frs) (addW v a fr.of) = _
   rw [rO ps]; rfl
end Ty
open Ty (VE VS pK qH iC)
theorem yZ {wB : World} {nv tv : Value} {pg : Ty.Pg} (hP : PB wB nv tv pg) : ∀ (l : List Par) (a : Nat), LyPs pg.ns l a → (idsPs l a).length = (Ty.psL l a).length ∧
   ∀ i (h1 : i < (idsPs l a).length) (h2 : i < (Ty.psL l a).length), ∃ q ty, pg.ns[(idsPs l a)[i]]? = some { ndOf 16 q with text := (Ty.psL l a)[i].1, ty := ty } ∧ (Ty.psL l a)[i].2 = (idsPs l a)[i] ∧ (Ty.psL l a)[i].1.size ≤ maxLen
 | [], a, _ => ⟨rfl, fun i h => absurd h (by simp [idsPs])⟩
 | q :: l, a, h => by
   obtain ⟨h1, h2⟩ := yZ hP l (a + 1) h.2
   refine ⟨by rw [Ty.iT, Ty.oJ], fun i k1 k2 => ?_⟩
   cases i with
   | zero =>
     obtain ⟨_, _, _, _, _, _, _, _, _, _, hk, _⟩ := hP.look h.1
     exact ⟨q.pos, q.ty, h.1, rfl, by have := hk.size; simp only [ndOf] at this; show q.text.size ≤ _; unfold maxLen; omega⟩
   | succ i => exact h2 i (by simpa [idsPs] using k1) (by simpa [Ty.psL] using k2)
section
variable {wB : World} {nv tv : Value} {pg : Ty.Pg} {bb : Nat} {main : Int}
theorem dS.nil : dS wB nv tv bb main [] [] := ⟨rfl, fun j h => absurd h (by simp)⟩
theorem eU.cons {id k : Nat} {F : df} {ids : List Nat} {cs : List (Nat × df)} (h : eU wB nv tv bb main id k F) (g : dS wB nv tv bb main ids cs) : dS wB nv tv bb main (id :: ids) ((k, F) :: cs) := by
 refine ⟨by rw [List.length_cons, List.length_cons, g.1], fun j h1 h2 => ?_⟩
 cases j with
 | zero => exact h
 | succ j => exact g.2 j (by simpa using h1) (by simpa using h2)
theorem eU.to {id id2 k k2 : Nat} {F G : df} (h : eU wB nv tv bb main id k F) (hi : id = id2) (hk : k ≤ k2) (hF : ∀ fr l v, F (fr :: l) v = G (fr :: l) v) : eU wB nv tv bb main id2 k2 G := by
 subst hi
 intro frs v c w Fr hFr H hc R hok hbad
 obtain ⟨_, _, _, _, ho, _⟩ := H.eQ
 cases frs with
 | nil => exact absurd rfl ho.ne
 | cons fr l =>
   exact h (fr :: l) v c w Fr hFr H (by omega) R (fun frs' v' w' hq h2 => hok frs' v' w' (by rw [← hF]; exact hq) (h2.Ej (by omega))) (fun f w' hq h2 => hbad f w' (by rw [← hF]; exact hq) h2)
theorem dJ (hP : PB wB nv tv pg) {id id2 : Nat} {nd : Ty.Nd} (hn : pg.ns[id]? = some nd) (hi : id = id2) {ids : List Nat} {cs : List (Nat × df)} (hids : Ty.ax nd = ids) (hC : dS wB nv tv bb main ids cs)
   (hk : nd.kind ≠ 5 ∧ nd.kind ≠ 6 ∧ nd.kind ≠ 16 ∧ nd.kind ≠ 17 ∧ nd.kind ≠ 18 ∧ nd.kind ≠ 22 ∧ nd.kind ≠ 26) (hk2 : 1 ≤ nd.kind ∧ nd.kind ≤ 26) (hc : nd.kind = 20 → 0 ≤ nd.c) (hln : nd.list.length ≤ id) {K : Nat} (hK : bG cs ≤ K) {G : df} (hG : ∀ fr l v, bT (cs.map Prod.snd) (fr :: l) v = G (fr :: l) v) : eU wB nv tv bb main id2 K G := by
 subst hids
 obtain ⟨_, _, _, _, hnl, _, _, _, _, _, _, hN⟩ := hP.look hn
 exact (xk hP hn hC hk hk2 hc (by omega)).to hi hK hG
def BV (b : List Sm) (a : Nat) : df
 | [], v => .ok ([], v)
 | fr :: l, v => andX (visSs b a ⟨[], a + szSs b, fr.of⟩ (fr :: l) v) fun r => .ok (fr :: l, r.2)
theorem pq (hP : PB wB nv tv pg) {b : List Sm} {a bp : Nat} (hn : pg.ns[a + szSs b]? = some { ndOf 26 bp with list := idsSs b a }) (hC : dS wB nv tv bb main (idsSs b a) (iC b a)) : eU wB nv tv bb main (a + szSs b) (szSs b + 1) (BV b a) := by
 obtain ⟨_, _, _, _, hnl, _, _, _, _, _, _, hN⟩ := hP.look hn
 have hl := Ty.dK b a
 refine (x9 hP hn hC (Ty.Az b a) (by omega) (a + szSs b)).to rfl (by rw [Ty.jJ]; omega) (fun fr l v => ?_)
 show andX (bT ((iC b a).map Prod.snd) (⟨[], a + szSs b, fr.of⟩ :: fr :: l) v) _ = _
 rw [Ty.iQ, Ty.au]; rfl
mutual
theorem dN (hP : PB wB nv tv pg) : ∀ (e : Ex) (a : Nat), LyE pg.ns e a → eU wB nv tv bb main (a + szE e - 1 : Nat) (szE e) (VE e a)
 | .num _ _, a, h => by
   rw [LyE] at h
   exact dJ hP h (by rw [szE]; omega) (ids := []) (by simp [Ty.ax, ndOf]) dS.nil (by simp [ndOf]) (by simp [ndOf]) (by simp [ndOf]) (by simp [ndOf]) (by simp [bG]) (fun fr l v => by simp only [VE, List.map_nil]; rw [visE]; rfl)
 | .text _ _, a, h => by
   rw [LyE] at h
   exact dJ hP h (by rw [szE]; omega) (ids := []) (by simp [Ty.ax, ndOf]) dS.nil (by simp [ndOf]) (by simp [ndOf]) (by simp [ndOf]) (by simp [ndOf]) (by simp [bG]) (fun fr l v => by simp only [VE, List.map_nil]; rw [visE]; rfl)
 | .bool _ _, a, h => by
   rw [LyE] at h
   exact dJ hP h (by rw [szE]; omega) (ids := []) (by simp [Ty.ax, ndOf]) dS.nil (by simp [ndOf]) (by simp [ndOf]) (by simp [ndOf]) (by simp [ndOf]) (by simp [bG]) (fun fr l v => by simp only [VE, List.map_nil]; rw [visE]; rfl)
 | .null _, a, h => by
   rw [LyE] at h
   exact dJ hP h (by rw [szE]; omega) (ids := []) (by simp [Ty.ax, ndOf]) dS.nil (by simp [ndOf]) (by simp [ndOf]) (by simp [ndOf]) (by simp [ndOf]) (by simp [bG]) (fun fr l v => by simp only [VE, List.map_nil]; rw [visE]; rfl)
 | .var p x, a, h => by
   rw [LyE] at h
   exact (BH hP h).to (by rw [szE]; omega) (by rw [szE]; omega) (fun fr l v => by simp only [VE]; rw [visE])
 | .fn p ps ty bp body, a, h => by
   rw [LyE] at h
   have hS := jk hP body (a + ps.length) h.2.1
   obtain ⟨_, _, _, _, hnl, _, _, _, _, _, _, hN⟩ := hP.look h.2.2.2
   have hl := Ty.dK body (a + ps.length)
   have h2 := DT hP h.2.2.2 h.2.2.1 (yZ hP ps a h.1) hS (Ty.Az _ _) (by omega) (by rw [Ty.iT]; omega)
   exact h2.to (by rw [szE]; omega) (by rw [Ty.oJ, Ty.jJ, szE]; omega) (fun fr l v => by
     show andX (bT _ (dw _ (⟨[], _, _⟩ :: fr :: l) v).1 (dw _ (⟨[], _, _⟩ :: fr :: l) v).2) _ = _
     simp only [VE]; rw [visE, Ty.rO, Ty.iQ, Ty.au, Ty.au]; rfl)
 | .call p e l, a, h => by
   rw [LyE] at h
   have h1 := dN hP e a h.1
   have h2 := rY hP l (a + szE e) h.2.1
   exact dJ hP h.2.2 (by rw [szE]; omega) (by first | (simp [Ty.ax, ndOf]; done) | (simp [Ty.ax, ndOf]; rfl)) (h1.cons h2) (by simp [ndOf]) (by simp [ndOf]) (by simp [ndOf]) (by have := Ty.gU l (a + szE e); simp [ndOf]; omega) (by rw [Ty.aU, Ty.lT, szE]; simp) (fun fr m v => by
     simp only [VE, List.map_cons, List.map_nil]; rw [bT, visE, Ty.au, Ty.au]; congr 1; funext r; rw [Ty.aK, Ty.nP])
 | .get p e x, a, h => by
   rw [LyE] at h
   have h1 := dN hP e a h.1
   exact dJ hP h.2 (by rw [szE]; omega) (by first | (simp [Ty.ax, ndOf]; done) | (simp [Ty.ax, ndOf]; rfl)) (h1.cons dS.nil) (by simp [ndOf]) (by simp [ndOf]) (by simp [ndOf]) (by simp [ndOf]) (by rw [Ty.aU, szE]; simp [bG]) (fun fr m v => by
     simp only [VE, List.map_cons, List.map_nil]; rw [Ty.eG, visE])
 | .one p x e, a, h => by
   rw [LyE] at h
   have h1 := dN hP e a h.1
   exact dJ hP h.2 (by rw [szE]; omega) (by first | (simp [Ty.ax, ndOf]; done) | (simp [Ty.ax, ndOf]; rfl)) (h1.cons dS.nil) (by simp [ndOf]) (by simp [ndOf]) (by simp [ndOf]) (by simp [ndOf]) (by rw [Ty.aU, szE]; simp [bG]) (fun fr m v => by
     simp only [VE, List.map_cons, List.map_nil]; rw [Ty.eG, visE])
 | .as p e ty, a, h => by
   rw [LyE] at h
   have h1 := dN hP e a h.1
   exact dJ hP h.2 (by rw [szE]; omega) (by first | (simp [Ty.ax, ndOf]; done) | (simp [Ty.ax, ndOf]; rfl)) (h1.cons dS.nil) (by simp [ndOf]) (by simp [ndOf]) (by simp [ndOf]) (by simp [ndOf]) (by rw [Ty.aU, szE]; simp [bG]) (fun fr m v => by
     simp only [VE, List.map_cons, List.map_nil]; rw [Ty.eG, visE])
 | .at p e i, a, h => by
   rw [LyE] at h
   have h1 := dN hP e a h.1
   have h2 := dN hP i (a + szE e) h.2.1
   exact dJ hP h.2.2 (by rw [szE]; omega) (by first | (simp [Ty.ax, ndOf]; done) | (simp [Ty.ax, ndOf]; rfl)) (h1.cons (h2.cons dS.nil)) (by simp [ndOf]) (by simp [ndOf]) (by simp [ndOf]) (by simp [ndOf]) (by rw [Ty.aU, Ty.aU, szE]; simp [bG] <;> omega) (fun fr m v => by
     simp only [VE, List.map_cons, List.map_nil]; rw [bT, visE, Ty.au, Ty.au]; congr 1; funext r; rw [Ty.aK, Ty.eG])
 | .two p x e i, a, h => by
   rw [LyE] at h
   have h1 := dN hP e a h.1
   have h2 := dN hP i (a + szE e) h.2.1
   exact dJ hP h.2.2 (by rw [szE]; omega) (by first | (simp [Ty.ax, ndOf]; done) | (simp [Ty.ax, ndOf]; rfl)) (h1.cons (h2.cons dS.nil)) (by simp [ndOf]) (by simp [ndOf]) (by simp [ndOf]) (by simp [ndOf]) (by rw [Ty.aU, Ty.aU, szE]; simp [bG] <;> omega) (fun fr m v => by
     simp only [VE, List.map_cons, List.map_nil]; rw [bT, visE, Ty.au, Ty.au]; congr 1; funext r; rw [Ty.aK, Ty.eG])
 | .obj p l, a, h => by
   rw [LyE] at h
   have h2 := yQ hP l a h.1
   exact dJ hP h.2 (by rw [szE]; omega) (by first | (simp [Ty.ax, ndOf]; done) | (simp [Ty.ax, ndOf]; rfl)) h2 (by simp [ndOf]) (by simp [ndOf]) (by simp [ndOf]) (by have := Ty.jX l a; simp [ndOf]; omega) (by rw [Ty.pI, szE]; simp) (fun fr m v => by
     simp only [VE]; rw [visE, Ty.wo])
 | .arr p l, a, h => by
   rw [LyE] at h
   have h2 := rY hP l a h.1
   exact dJ hP h.2 (by rw [szE]; omega) (by first | (simp [Ty.ax, ndOf]; done) | (simp [Ty.ax, ndOf]; rfl)) h2 (by simp [ndOf]) (by simp [ndOf]) (by simp [ndOf]) (by have := Ty.gU l a; simp [ndOf]; omega) (by rw [Ty.lT, szE]; simp) (fun fr m v => by
     simp only [VE]; rw [visE, Ty.nP])
theorem rY (hP : PB wB nv tv pg) : ∀ (l : List Ex) (a : Nat), LyEs pg.ns l a → dS wB nv tv bb main (idsEs l a) (pK l a)
 | [], _, _ => dS.nil
 | e :: l, a, h => by
   rw [LyEs] at h
   rw [idsEs, pK]
   exact (dN hP e a h.1).cons (rY hP l (a + szE e) h.2)
theorem yQ (hP : PB wB nv tv pg) : ∀ (l : List (Nat × ByteArray × Ex)) (a : Nat), LyOs pg.ns l a → dS wB nv tv bb main (idsOs l a) (qH l a)
 | [], _, _ => dS.nil
 | (p, x, e) :: l, a, h => by
   rw [LyOs] at h
   rw [idsOs, qH]
   have h1 := dN hP e a h.1
   exact (dJ hP h.2.1 rfl (by first | (simp [Ty.ax, ndOf]; done) | (simp [Ty.ax, ndOf]; rfl)) (h1.cons dS.nil) (by simp [ndOf]) (by simp [ndOf]) (by simp [ndOf]) (by simp [ndOf]) (by rw [Ty.aU]; simp [bG]) (fun fr m v => by
     simp only [VE, List.map_cons, List.map_nil]; rw [Ty.eG])).cons (yQ hP l (a + szE e + 1) h.2.2)
theorem jk (hP : PB wB nv tv pg) : ∀ (l : List Sm) (a : Nat), LySs pg.ns l a → dS wB nv tv bb main (idsSs l a) (iC l a)
 | [], _, _ => dS.nil
 | e :: l, a, h => by
   rw [LySs] at h
   rw [idsSs, iC]
   exact (Eo hP e a h.1).cons (jk hP l (a + szS e) h.2)
theorem Eo (hP : PB wB nv tv pg) : ∀ (e : Sm) (a : Nat), LyS pg.ns e a → eU wB nv tv bb main (a + szS e - 1 : Nat) (szS e) (VS e a)
 | .let_ p x ty e, a, h => by
   rw [LyS] at h
   have h1 := dN hP e a h.1
   obtain ⟨nb, hnb, hfn⟩ := Ty.Dn e a h.1
   exact (Bz hP h.2 hnb hfn h1).to (by rw [szS]; omega) (by rw [szS]; omega) (fun fr l v => by
     simp only [VS, oM]; rw [visS]
     split
     · rfl
     · cases Ty.isFn e <;> simp only [VE, Ty.au, Ty.aK, if_true, if_false, Bool.false_eq_true, gV] <;> rfl)
 | .set p x e, a, h => by
   rw [LyS] at h
   have h1 := dN hP e a h.1
   exact (BU hP h.2 h1).to (by rw [szS]; omega) (by rw [szS]; omega) (fun fr l v => by simp only [VS]; rw [Be, visS]; simp only [VE, Ty.au, Ty.aK])
 | .print p e, a, h => by
   rw [LyS] at h
   have h1 := dN hP e a h.1
   exact dJ hP h.2 (by rw [szS]; omega) (by first | (simp [Ty.ax, ndOf]; done) | (simp [Ty.ax, ndOf]; rfl)) (h1.cons dS.nil) (by simp [ndOf]) (by simp [ndOf]) (by simp [ndOf]) (by simp [ndOf]) (by rw [Ty.aU, szS]; simp [bG]) (fun fr m v => by
     simp only [VE, VS, List.map_cons, List.map_nil]; rw [Ty.eG, visS]; simp only [Ty.au, Ty.aK])
 | .ret p e, a, h => by
   rw [LyS] at h
   have h1 := dN hP e a h.1
   exact dJ hP h.2 (by rw [szS]; omega) (by first | (simp [Ty.ax, ndOf]; done) | (simp [Ty.ax, ndOf]; rfl)) (h1.cons dS.nil) (by simp [ndOf]) (by simp [ndOf]) (by simp [ndOf]) (by simp [ndOf]) (by rw [Ty.aU, szS]; simp [bG]) (fun fr m v => by
     simp only [VE, VS, List.map_cons, List.map_nil]; rw [Ty.eG, visS]; simp only [Ty.au, Ty.aK])
 | .do_ p e, a, h => by
   rw [LyS] at h
   have h1 := dN hP e a h.1
   exact dJ hP h.2 (by rw [szS]; omega) (by first | (simp [Ty.ax, ndOf]; done) | (simp [Ty.ax, ndOf]; rfl)) (h1.cons dS.nil) (by simp [ndOf]) (by simp [ndOf]) (by simp [ndOf]) (by simp [ndOf]) (by rw [Ty.aU, szS]; simp [bG]) (fun fr m v => by
     simp only [VE, VS, List.map_cons, List.map_nil]; rw [Ty.eG, visS]; simp only [Ty.au, Ty.aK])
 | .put p e x i, a, h => by
   rw [LyS] at h
   have h1 := dN hP e a h.1
   have h2 := dN hP i (a + szE e) h.2.1
   exact dJ hP h.2.2 (by rw [szS]; omega) (by first | (simp [Ty.ax, ndOf]; done) | (simp [Ty.ax, ndOf]; rfl)) (h1.cons (h2.cons dS.nil)) (by simp [ndOf]) (by simp [ndOf]) (by simp [ndOf]) (by simp [ndOf]) (by rw [Ty.aU, Ty.aU, szS]; simp [bG] <;> omega) (fun fr m v => by
     simp only [VE, VS, List.map_cons, List.map_nil]; rw [visS]; simp only [bT, Ty.au, Ty.aK])
 | .lay p e i j, a, h => by
   rw [LyS] at h
   have h1 := dN hP e a h.1
   have h2 := dN hP i (a + szE e) h.2.1
   have h3 := dN hP j (a + szE e + szE i) h.2.2.1
   exact dJ hP h.2.2.2 (by rw [szS]; omega) (by first | (simp [Ty.ax, ndOf]; done) | (simp [Ty.ax, ndOf]; rfl)) (h1.cons (h2.cons (h3.cons dS.nil))) (by simp [ndOf]) (by simp [ndOf]) (by simp [ndOf]) (by simp [ndOf]) (by rw [Ty.aU, Ty.aU, Ty.aU, szS]; simp [bG] <;> omega) (fun fr m v => by
     simp only [VE, VS, List.map_cons, List.map_nil]; rw [visS]; simp only [bT, Ty.au, Ty.aK])
 | .while_ p e bp b, a, h => by
   rw [LyS] at h
   have h1 := dN hP e a h.1
   have h2 := pq hP h.2.2.1 (jk hP b (a + szE e) h.2.1)
   exact dJ hP h.2.2.2 (by rw [szS]; omega) (by first | (simp [Ty.ax, ndOf]; done) | (simp [Ty.ax, ndOf]; rfl)) (h1.cons (h2.cons dS.nil)) (by simp [ndOf]) (by simp [ndOf]) (by simp [ndOf]) (by simp [ndOf]) (by rw [Ty.aU, Ty.aU, szS]; simp [bG] <;> omega) (fun fr m v => by
     simp only [VE, VS, List.map_cons, List.map_nil]; rw [visS]; simp only [bT, BV, Ty.au, Ty.aK])
 | .if_ p e bp b none, a, h => by
   rw [LyS] at h
   have h1 := dN hP e a h.1
   have h2 := pq hP h.2.2.1 (jk hP b (a + szE e) h.2.1)
   exact (BJ hP h.2.2.2 h1 h2).to (by rw [szS]; omega) (by rw [szS]; omega) (fun fr m v => by
     simp only [VE, VS]; rw [visS]; simp only [bT, BV, Ty.au, Ty.aK])
 | .if_ p e bp b (some (cp, c)), a, h => by
   rw [LyS] at h
   have h1 := dN hP e a h.1
   have h2 := pq hP h.2.2.1 (jk hP b (a + szE e) h.2.1)
   have h3 := pq hP h.2.2.2.2.1 (jk hP c (a + szE e + szSs b + 1) h.2.2.2.1)
   exact (CQ hP h.2.2.2.2.2 h1 h2 h3).to (by rw [szS]; omega) (by rw [szS]; omega) (fun fr m v => by
     simp only [VE, VS]; rw [visS]; simp only [bT, BV, Ty.au, Ty.aK])
end
end
end
section
open Go Go.RowKit Go.Sort
open Prt (Sat As blk pur exs star ah)
theorem lJ {α : Type} [Inhabited α] (enc : α → List Value) (k : Nat) (hk : ∀ x, (enc x).length = k) (hk0 : 0 < k) (l : List α) : (flatK enc k l.toArray).toList = l.flatMap enc := by
 have hl : ∀ l : List α, (l.flatMap enc).length = l.length * k := fun l => by
   induction l with
   | nil => simp
   | cons a l ih => rw [List.flatMap_cons, List.length_append, ih, hk, List.length_cons, Nat.succ_mul, Nat.add_comm]
 apply List.ext_getElem?
 intro t
 by_cases ht : t < l.length * k
 · have hq : t / k < l.length := Nat.div_lt_of_lt_mul (by rwa [Nat.mul_comm] at ht)
   have hm : t % k < k := Nat.mod_lt _ hk0
   have hf := flat_get enc k hk l (t / k) hq (t % k) hm
   rw [show t / k * k + t % k = t by rw [Nat.mul_comm]; exact Nat.div_add_mod t k] at hf
   rw [hf, Array.getElem?_toList, Array.getElem?_eq_getElem (by simpa using ht)]
   have h1 := get_flatK enc k l.toArray t (by simpa using ht)
   rw [getElem!_pos _ t (by simpa using ht)] at h1
   rw [h1, List.getElem?_eq_getElem (by rw [hk]; exact hm)]
   simp [hq, hk, hm]
 · have h1 : (l.flatMap enc)[t]? = none := List.getElem?_eq_none (by rw [hl]; omega)
   have h2 : (flatK enc k l.toArray).toList[t]? = none := List.getElem?_eq_none (by rw [Array.length_toList, size_flatK]; simp; omega)
   rw [h1, h2]
section
variable {w : World} {e : TypeId} {size g m cap n : Nat} {xs : List Value} {os : Array Obj}
theorem xu {α : Type} [Inhabited α] (enc : α → Value) (F : Array α) : w.grownBy (grow (putRow enc (Sort.ahead w n) g 0 F) os) (some g) := by
 refine ⟨rfl, rfl, rfl, by simp, fun k hk hne => ?_⟩
 rw [heap_grow_old _ _ (by simpa using hk)]
 have : g ≠ k := fun e => hne (by rw [e])
 simp [putRow, mapBlock, Sort.ahead, Array.getElem?_modify, this]
theorem o7 {α : Type} [Inhabited α] (enc : α → Value) (off : Nat) (d : Array α) (c : Array Value) : putCells enc off d c = putCells id off (d.map enc) c := by
 unfold putCells
 congr 1
 funext k x
 by_cases h : off ≤ k ∧ k < off + d.size
 · rw [if_pos h, if_pos (by simpa using h)]
   have h1 : k - off < d.size := by omega
   rw [getElem!_pos d _ h1, getElem!_pos (d.map enc) _ (by simpa using h1)]
   simp
 · rw [if_neg h, if_neg (by simpa using h)]
theorem sQ {α : Type} [Inhabited α] (enc : α → Value) (w : World) (blk off : Nat) (d : Array α) : putRow enc w blk off d = putRow id w blk off (d.map enc) := by
 unfold putRow
 congr 1
 funext c
 exact o7 enc off d c
theorem ng (h : w.ownsRow 0 e size (.slice (some ⟨g, 0, none⟩) m cap) m xs) : Holds id w g 0 xs.toArray := by
 rcases h.2 with ⟨h1, _⟩ | ⟨g', cap', cur, h1, _, hb, _, _, hs, ht⟩
 · cases h1
 · cases h1
   intro j hj
   have hj' : j < xs.length := by simpa using hj
   have hj2 : j < m * size := by rw [← h.1]; exact hj'
   refine ⟨?_, by simp [World.frozen?, hb]⟩
   have h1 : (cur.toList.take (m * size))[j]? = xs[j]? := by rw [ht]
   rw [List.getElem?_take_of_lt hj2] at h1
   simp only [World.cell?, hb, Nat.zero_add]
   simp only [Option.isSome_none, Bool.false_eq_true, if_false]
   rw [← Array.getElem?_toList, h1]
   simp [hj']
theorem CU (F : Array Value) (hF : F.size = m * size) (h : w.ownsRow 0 e size (.slice (some ⟨g, 0, none⟩) m cap) m xs) :
   (grow (putRow id (Sort.ahead w n) g 0 F) os).ownsRow 0 e size (.slice (some ⟨g, 0, none⟩) m cap) m F.toList := by
 rcases h.2 with ⟨h1, _⟩ | ⟨g', cap', cur, h1, h0, hb, h3, h4, h5, h6⟩
 · cases h1
 · cases h1
   have hg : g < w.heap.size := (Array.getElem?_eq_some_iff.1 hb).1
   refine ⟨by simpa using hF, .inr ⟨g, cap, putCells id 0 F cur, rfl, h0, ?_, h3, h4, by simp [putCells, h5], ?_⟩⟩
   · rw [heap_grow_old _ _ (by simpa using hg)]
     simp [putRow, mapBlock, Sort.ahead, Array.getElem?_modify, hb, onCells]
   · apply List.ext_getElem?
     intro j
     by_cases hj : j < m * size
     · have h8 : m * size ≤ cap * size := Nat.mul_le_mul_right _ h3
       rw [List.getElem?_take_of_lt hj, Array.getElem?_toList]
       have hj2 : j < F.size := by rw [hF]; exact hj
       have hj3 : j < cur.size := by rw [h5]; omega
       simp [putCells, hj2, hj3]
     · rw [List.getElem?_take_eq_none (by omega), List.getElem?_eq_none (by simp; omega)]
end
theorem Prt.Sat.sorted {w0 w : World} {L : List As} {e : TypeId} {size g m cap : Nat} {xs : List Value} (h : Sat w0 w L) (i : Nat) (hi : L[i]? = some (Prt.row e size (.slice (some ⟨g, 0, none⟩) m cap) m xs)) (F : Array Value) (hF : F.size = m * size) (n : Nat) (os : Array Obj) :
   Sat w0 (Go.Sort.grow (putRow id (Sort.ahead w n) g 0 F) os) (L.set i (Prt.row e size (.slice (some ⟨g, 0, none⟩) m cap) m F.toList)) :=
 h.grow i hi (xu id F) (CU F hF (h.row i hi)) (.inl rfl)
end
section
open Go Go.RowKit
open Prt (Sat As blk pur exs star ah)
open Ty (Frm Vg andX)
theorem Ae (a b c d : Nat) (w : World) :
   CallsD Tryz.prog 79 #[.pointer (some ⟨a, 0, none⟩), .pointer (some ⟨b, 0, none⟩), .pointer (some ⟨c, 0, none⟩), .pointer (some ⟨d, 0, none⟩)] .returning w fun e u' w' => e = .returned (.tuple #[]) ∧ u' = .returning ∧ w' = w := by
 refine callsD_of_wpS Tryz.func79 rfl fun c₀ cs hu => ?_
 apply wpS_seq
 apply wpS_region
 simp [wpOpsS, go_sem, recoverD, hu, Tryz.ntmps79, Exit.thenS]
 apply wpS_seq
 apply wpS_region
 simp [wpOpsS, go_sem, Exit.thenS]
 refine wpS_cond (t := false) (by simp [Act.eval, Array.replicate]) ?_
 simp only [Bool.false_eq_true, if_false]
 refine wpS_of_wp (wp_skip ?_)
 cases c₀
 simp_all [bodyPostS, results, Tryz.results79]
abbrev pgZ : Obj := .cells #[.slice none 0 0, .slice none 0 0, .int .i64 0] 31 (0, 0)
theorem ER {w0 w : World} {Fr : As} {a b c d : Nat} {x0 x1 x2 y z f0 f1 : Value} {L : List As} (H : Sat w0 w (Fr :: blk a (.cells #[x0, x1, x2] 31 (0, 0)) :: blk b (.cells #[y] 36 (0, 0)) :: blk c (.cells #[z] 89 (0, 0)) :: blk d (.cells #[f0, f1] 25 (0, 0)) :: L)) (f : Ty.Ft) :
   CallsD Tryz.prog 79 #[.pointer (some ⟨a, 0, none⟩), .pointer (some ⟨b, 0, none⟩), .pointer (some ⟨c, 0, none⟩), .pointer (some ⟨d, 0, none⟩)] (.panicking (aI f)) w fun e u' w' =>
     e = .returned (.tuple #[]) ∧ u' = .panicking [{ v := .iface 25 (aP f), recovered := true }] ∧
     Sat w0 w' (Fr :: blk a pgZ :: blk b (.cells #[.slice none 0 0] 36 (0, 0)) :: blk c (.cells #[.map none] 89 (0, 0)) :: blk d (.cells #[.int .i64 f.1, .int .i64 f.2] 25 (0, 0)) :: L) := by
 have a0 := H.cell 1 rfl 0 rfl
 have a1 := H.cell 1 rfl 1 rfl
 have a2 := H.cell 1 rfl 2 rfl
 have b0 := H.cell 2 rfl 0 rfl
 have c0 := H.cell 3 rfl 0 rfl
 have d0 := H.cell 4 rfl 0 rfl
 have d1 := H.cell 4 rfl 1 rfl
 have fa := H.free 1 rfl
 have fb := H.free 2 rfl
 have fc := H.free 3 rfl
 have fd := H.free 4 rfl
 have n12 := H.ne 1 2 (by decide) rfl rfl
 have n13 := H.ne 1 3 (by decide) rfl rfl
 have n14 := H.ne 1 4 (by decide) rfl rfl
 have n23 := H.ne 2 3 (by decide) rfl rfl
 have n24 := H.ne 2 4 (by decide) rfl rfl
 have n34 := H.ne 3 4 (by decide) rfl rfl
 have la := H.lt 1 rfl
 have lb := H.lt 2 rfl
 have lc := H.lt 3 rfl
 have ld := H.lt 4 rfl
 have haf := rq f.1 f.2
 have HH := qh H
 refine callsD_of_wpS Tryz.func79 rfl fun c₀ cs hu => ?_
 clear H
 unfold aI at hu
 apply wpS_seq
 apply wpS_region
 simp [wpOpsS, go_sem, recoverD, hu, Tryz.ntmps79, Exit.thenS]
 apply wpS_seq
 apply wpS_region
 simp [wpOpsS, go_sem, Exit.thenS]
 refine wpS_cond (t := true) (by simp [Act.eval, Array.replicate]) ?_
 simp only [if_true]
 refine wpS_of_wp ?_
 unfold aP
 go_region
 all_goals
   simp [bodyPostS, results, Tryz.results79, aP]
   exact (((((((HH.out.store 1 rfl 0 (.slice none 0 0)).store 1 rfl 1 (.slice none 0 0)).store 1 rfl 2 (.int .i64 0)).store 2 rfl 0 (.slice none 0 0)).store 3 rfl 0 (.map none)).store 4 rfl 0 (.int .i64 f.1)).store 4 rfl 1 (.int .i64 f.2)).drew
end
section
open Go Go.RowKit Go.Sort
open Prt (Sat As blk pur exs star ah)
abbrev Bq := { p : Nat × Nat // p.1 ≤ 1000000 }
instance : Inhabited Bq := ⟨⟨(0, 0), by decide⟩⟩
def jg (x : Bq) : List Value := dD x.1
def nD (x y : Bq) : Int := (x.1.1 : Int) - y.1.1
theorem vW (x y : Bq) : ltOf nD x y = decide (x.1.1 < y.1.1) := by
 unfold ltOf nD
 by_cases h : x.1.1 < y.1.1
 · simp [h]; omega
 · simp [h]; omega
theorem DW : SWO (ltOf nD) where
 irrefl x := by rw [vW]; simp
 trans x y z h1 h2 := by rw [vW] at *; simp at *; omega
 ntrans x y z h1 h2 := by rw [vW] at *; simp at *; omega
theorem xX (x y : Bq) (W : World) : Calls Tryz.prog 84 #[.agg #[.int .i64 (x.1.1 : Nat), .int .i64 (x.1.2 : Nat)], .agg #[.int .i64 (y.1.1 : Nat), .int .i64 (y.1.2 : Nat)]] W fun e w' => e = .returned (.int .i64 (nD x y)) ∧ ∃ q os', w' = grow (W.drewN q) os' := by
 have hw := IntWalk.i64_in (n := (x.1.1 : Int) - y.1.1) (by have := x.2; have := y.2; omega)
 unfold nD
 obtain ⟨⟨a, b⟩, ha⟩ := x
 obtain ⟨⟨c, d⟩, hc⟩ := y
 dsimp only at *
 go_enter Tryz.func84, Tryz.ntmps84
 go_wp2_with fail
 go_ret
 refine ⟨rfl, 0, _, by rw [alloc_eq_grow, alloc_eq_grow, grow_grow]; rfl⟩
theorem wO : ∀ l : List (Nat × Nat), (∀ p ∈ l, p.1 ≤ 1000000) → ∃ k : List Bq, k.map Subtype.val = l
 | [], _ => ⟨[], rfl⟩
 | p :: l, h => by
   obtain ⟨k, hk⟩ := wO l fun q hq => h q (by simp [hq])
   exact ⟨⟨p, h p (by simp)⟩ :: k, by simp [hk]⟩
theorem vJ (k : List Bq) : k.flatMap jg = (k.map Subtype.val).flatMap dD := by
 induction k with
 | nil => rfl
 | cons a k ih => rw [List.flatMap_cons, List.map_cons, List.flatMap_cons, ih]; rfl
theorem uk {w0 w : World} {L : List As} {ov : Value} {out : List (Nat × Nat)} (H : Sat w0 w L) (i : Nat) (hi : L[i]? = some (bdA ov out)) (hn : ∀ p ∈ out, p.1 ≤ 1000000) (hl : out.length ≤ 1000000) {R : Ending → World → Prop}
   (hR : ∀ w' d, d.Perm out → d.Pairwise (fun x y => x.1 ≤ y.1) → Sat w0 w' (L.set i (bdA ov d)) → R (.returned (.tuple #[])) w') :
   Calls Tryz.prog 83 #[ov, .func (.func 84) #[] #[]] w R := by
 have hrow := H.row i hi
 by_cases h0 : out = []
 · subst h0
   obtain ⟨oa, oc, rfl⟩ := ag hrow
   have hc := AnyF.slices_SortFunc_none Tryz.sortBd oa oc (.func (.func 84) #[] #[]) w
   refine Calls.mono hc ?_
   rintro e w' ⟨rfl, rfl⟩
   exact hR w' [] (List.Perm.refl _) List.Pairwise.nil (H.ent hi fun _ h => h)
 · obtain ⟨g, cap, rfl, _, hg⟩ := hrow.form (by have := List.length_pos_iff.2 h0; omega)
   obtain ⟨k, hk⟩ := wO out hn
   subst hk
   have hH : HoldsK jg 2 w g 0 k.toArray := by
     unfold HoldsK
     have h1 : (flatK jg 2 k.toArray) = ((k.map Subtype.val).flatMap dD).toArray := by
       apply Array.toList_inj.1
       rw [lJ jg 2 (fun _ => rfl) (by decide), vJ]
     rw [h1]
     exact ng hrow
   have hc := AnyQ.slices_SortFunc Tryz.sortBd 2 Tryz.isAgg43 Tryz.sizeOf43 jg (fun _ => rfl) (fun x v hv => by
     unfold jg dD at hv
     rcases List.mem_cons.1 hv with rfl | hv
     · rfl
     · rw [List.mem_singleton.1 hv]; rfl) nD DW 84 #[] g 0 cap k.toArray w (enters_of Tryz.func84 (by kernel_rfl) rfl) (fun _ _ _ _ x y => xX x y _) hH hg (by simp; simp at hl; omega)
   have he : (#[.slice (some ⟨g, 0, none⟩) (k.map Subtype.val).length cap, .func (.func 84) #[] #[]] : Array Value) = #[.slice (some ⟨g, 0, none⟩) k.toArray.size cap, .func (.func 84) #[] #[]] := by simp
   rw [he]
   refine Calls.mono hc ?_
   rintro e w' ⟨rfl, d, n, os, hp, hs, rfl⟩
   have hsz : d.size = k.length := by have := hp.1; simpa using this
   have hperm : d.toList.Perm k := by
     have h1 := hp.2.2
     have e1 : d.extract 0 k.toArray.size = d := by
       rw [show k.toArray.size = d.size by simp [hsz]]; simp
     have e2 : k.toArray.extract 0 k.toArray.size = k.toArray := by simp
     rw [e1, e2] at h1
     simpa using h1
   have hsort : (d.toList.map Subtype.val).Pairwise (fun x y => x.1 ≤ y.1) := by
     rw [List.pairwise_map, List.pairwise_iff_getElem]
     intro a b ha hb hab
     have h1 := hs a b (Nat.zero_le _) hab (by simp; simp at hb; omega)
     rw [vW, decide_eq_false_iff_not] at h1
     rw [getElem!_pos d b (by simpa using hb), getElem!_pos d a (by simpa using ha)] at h1
     simp only [Array.getElem_toList]
     omega
   have hF : (flatK jg 2 d).toList = (d.toList.map Subtype.val).flatMap dD := by
     have h1 := lJ jg 2 (fun _ => rfl) (by decide) d.toList
     rw [Array.toArray_toList] at h1
     rw [h1, vJ]
   have h2 := H.sorted i hi (flatK jg 2 d) (by simp [hsz]) n os
   refine hR _ (d.toList.map Subtype.val) (hperm.map _) hsort ?_
   have h3 : Prt.row 43 2 (.slice (some ⟨g, 0, none⟩) (k.map Subtype.val).length cap) (k.map Subtype.val).length (flatK jg 2 d).toList = bdA (.slice (some ⟨g, 0, none⟩) (k.map Subtype.val).length cap) (d.toList.map Subtype.val) := by
     rw [hF]
     unfold bdA
     simp [hsz]
   rw [← h3]
   exact h2
end
section
open Go Go.RowKit
open Prt (Sat As blk pur exs star ah)
open Ty (Frm Vg andX szSs idsSs iC)
section
variable {wB : World} {nv tv : Value} {pg : Ty.Pg} {bb : Nat} {main : Int}
theorem xG (hP : PB wB nv tv pg) {mn bp : Nat} {ids : List Nat} (hmn : pg.ns[mn]? = some { Ty.ndOf 26 bp with list := ids }) {cs : List (Nat × df)} (hC : dS wB nv tv bb main ids cs) (hn2 : ids.length ≤ 1000000)
   {frs : List Frm} {v : Vg} {c : Nat} {w : World} {Fr : As} (hF : FrB wB Fr) {xb pb : Nat} (hpb : pb < wB.heap.size) (p0 : wB.cell? ⟨pb, 0, none⟩ = some nv) (p2 : wB.cell? ⟨pb, 2, none⟩ = some (.int .i64 (mn : Nat)))
   (H : Sat wB w [ah [Fr, blk xb (.cells #[.pointer (some ⟨bb, 0, none⟩)] 142 (0, 0))], biB bb nv tv main c frs v]) (hc : c + bG cs ≤ 100000) {R : Ending → World → Prop}
   (hok : ∀ frs' v' w', bT (cs.map Prod.snd) frs v = .ok (frs', v') → Sat wB w' [ah [Fr, blk xb (.cells #[.pointer (some ⟨bb, 0, none⟩)] 142 (0, 0))], biB bb nv tv main (c + bG cs) frs' v'] → R (.returned (.tuple #[])) w')
   (hbad : ∀ f w', bT (cs.map Prod.snd) frs v = .error f → Sat wB w' [ah [Fr, blk xb (.cells #[.pointer (some ⟨bb, 0, none⟩)] 142 (0, 0))]] → R (.panicked (aI f)) w') :
   Calls Tryz.prog 81 #[.pointer (some ⟨xb, 0, none⟩), .pointer (some ⟨pb, 0, none⟩)] w R := by
 obtain ⟨g, cap, lv, rfl, hnl, hg, hcap, hcm, hA, hl, _, hN⟩ := hP.look hmn
 obtain ⟨la, lc, rfl⟩ := ag hl
 dsimp only at hl
 have hu := H.unpack (i := 0) rfl
 have y0 := hu.cell 2 rfl 0 rfl
 have HF2 := qh (hF.ah (M := [blk xb (.cells #[.pointer (some ⟨bb, 0, none⟩)] 142 (0, 0))]))
 have hb := HF2.out w _ 0 H rfl
 have hA2 := hA.below hb
 have c0 := keepCell hb p0
 have c2 := keepCell hb p2
 have c4 := hA2.q4
 dsimp only at c4
 have HOK := qh hok
 have HBAD := qh hbad
 have H1 := qh H
 have HROW := qh hl
 have HP0 := qh p0
 have HP2 := qh p2
 have HP4 := qh hA.q4
 unfold maxLen at hcm
 clear hok hbad H hu hF hA hA2 hb p0 p2 hP hmn hl
 generalize pg.ns.length = N at *
 have e1 : (0 : Int) ≤ (mn : Int) := by omega
 have e2 : (mn : Int) < (N : Int) := by omega
 have e3 : ((mn : Int)).toNat = mn := by omega
 go_enter Tryz.func81, Tryz.ntmps81
 go_wp2_with fail
 refine wp_region_held_drew (S := fun w' => w'.cell? ⟨xb, 0, none⟩ = some (.pointer (some ⟨bb, 0, none⟩)) ∧ w'.cell? ⟨pb, 0, none⟩ = some (.slice (some ⟨g, 0, none⟩) N cap) ∧ w'.cell? ⟨pb, 2, none⟩ = some (.int .i64 (mn : Nat)) ∧ w'.cell? ⟨g, mn * 9 + 4, none⟩ = some (.slice la ids.length lc)) (by kernel_rfl) ⟨y0, c0, c2, c4⟩ (fun hS => ?_)
 refine tkJ 0 ?_
 refine tkJ 1 ?_
 refine tkJ 2 ?_
 refine tkJ 3 ?_
 refine tkJ 4 ?_
 refine tkJ 5 ?_
 refine tkJ 6 ?_
 refine tkJ 7 ?_
 refine wpAnyH_ready (rs := [8]) (by kernel_rfl) (by simp) ?_
 refine AllReadyH.cons rfl (fun K hK => ?_) AllReadyH.nil
 go_simp
 refine je (ids := ids) (cs := cs) HF2.out hC.1 hC.2 (fun w1 L i hs hi => aH HROW.out (HF2.out w1 L i hs hi)) hn2 H1.out.drew hc ?_ ?_
 · intro frs2 v2 w8 hq8 h9
   have hb8 := HF2.out w8 _ 0 h9 rfl
   refine hK.out _ _ ⟨(h9.unpack (i := 0) rfl).cell 2 rfl 0 rfl, keepCell hb8 HP0.out, keepCell hb8 HP2.out, keepCell hb8 HP4.out⟩ (fun hHeld => ?_)
   have HG := qh (HOK.out frs2 v2 w8 hq8 h9)
   clear hK K hHeld hq8 h9 hb8
   refine wpAnyH_done (by kernel_rfl) ?_ _
   go_wp2_with fail
   go_end0
   exact HG.out
 · intro f w8 hq8 h9
   exact ⟨rfl, HBAD.out f w8 hq8 h9⟩
end
end
end Go.Proofs.YtdlbhiaceheffabGreatDoor
