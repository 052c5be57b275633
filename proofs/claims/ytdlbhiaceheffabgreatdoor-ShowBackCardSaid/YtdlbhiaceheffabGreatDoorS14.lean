/- Plain: a program as a text is not too long. Walks of types.Plain and types.Of. Walk of types.open. Walks of the closures of types.Fit. Walks of types.Alike, one for each way through. Walk of types.Fit over two functions' types: both calls are made. The contract of types.Fit. The contract of types.Alike. Walk of the reference's AlikeOf. The contract of the reference's AlikeOf. Walks of the reference's FitsOf, one for each way through. The reference's Move: parts of memory that it works on; plain steps. Walk of types.arena. -/
import Derived.Deep.RegionHeld3
import Derived.Deep.DeepCutAuto
import Derived.Deep.CutBlock
import Derived.Test.YtdlbhiaceheffabGreatDoorS13
set_option linter.all false
namespace Go.Proofs.YtdlbhiaceheffabGreatDoor
section
namespace Ty
theorem par_len (b : Bool) (s : List UInt8) : (par b s).length ≤ s.length + 2 := by
 unfold par; split <;> simp
structure NdLen (ts : List Ty) (nd : Nd) : Prop where
 text : nd.text.data.toList.length ≤ 30
 col : (colS ts nd.ty).length ≤ 12010
 asTy : nd.kind = 14 → (Ty.text (den ts nd.ty.toNat)).length ≤ 12010
 num : (Lib.itoa (nd.n : Int)).length ≤ 21
theorem value_lt {x : ByteArray} (h : NumOk x) : value x < 1000000000 := by
 have key : ∀ (l : List UInt8) (a : Nat), (∀ d ∈ l, Tok.isDigit d = true) → l.foldl (fun n c => 10 * n + (c.toNat - 48)) a < (a + 1) * 10 ^ l.length := by
   intro l
   induction l with
   | nil => intro a _; simp
   | cons c l ih =>
     intro a hd
     have hc := hd c (by simp)
     unfold Tok.isDigit at hc
     simp at hc
     have := ih (10 * a + (c.toNat - 48)) (fun d hd' => hd d (by simp [hd']))
     rw [List.foldl_cons, List.length_cons, Nat.pow_succ]
     refine Nat.lt_of_lt_of_le this ?_
     have h2 : 10 * a + (c.toNat - 48) + 1 ≤ (a + 1) * 10 := by omega
     calc _ ≤ ((a + 1) * 10) * 10 ^ l.length := Nat.mul_le_mul_right _ h2
       _ = _ := by rw [Nat.mul_assoc, Nat.mul_comm 10]
 have h1 := key x.data.toList 0 h.dig
 have h2 : x.data.toList.length ≤ 9 := by have := h.size; simpa using this
 have h3 : 10 ^ x.data.toList.length ≤ 10 ^ 9 := Nat.pow_le_pow_right (by omega) h2
 unfold value
 omega
theorem NdOk.n_le {nd : Nd} {ts : List Ty} (h : NdOk nd ts) : nd.n ≤ 1000000000 := by
 by_cases hk : nd.kind = 1
 · obtain ⟨x, h1, h2⟩ := h.num hk
   have := value_lt h1
   omega
 · have := h.small hk; omega
theorem tyIn_text {ts : List Ty} (hw : Wf ts) (hn : Nm ts) {t : Nat} (h : TyIn t ts) : okT (den ts t) ∧ shortT (den ts t) ∧ (text (den ts t)).length + 24 ≤ 40 * ts.length := by
 have h1 := den_ok hw _ t (Nat.lt_succ_self _) h.lt
 have h2 := nm_short _ (den_nm hw hn _ t (Nat.lt_succ_self _) h.lt)
 have h3 := text_len _ h1 h2
 have := h.cnt
 exact ⟨h1, h2, by omega⟩
theorem PgOk.len {pg : Pg} (h : PgOk pg) : ∀ nd ∈ pg.ns, NdLen pg.ts nd := fun nd hm => by
 have hk := h.ns nd hm
 have ht := h.tlen
 have hty : ∀ t, TyIn t pg.ts → (text (den pg.ts t)).length ≤ 12000 := fun t hi => by
   have := (tyIn_text h.wf h.nm hi).2.2; omega
 refine ⟨by have := hk.size; simpa using this, ?_, fun h14 => ?_, Lib.itoa_length_le _ (by omega) (by have := hk.n_le; omega)⟩
 · unfold colS
   rcases hk.ty with h1 | ⟨n, h1, h2⟩
   · rw [if_pos (by omega)]; simp
   · rw [if_neg (by omega)]
     have := hty n h2
     rw [h1]
     simp; omega
 · rcases hk.ty with h1 | ⟨n, h1, h2⟩
   · have := hk.asTy h14; omega
   · have := hty n h2
     rw [h1]; simp; omega
section
variable {ts : List Ty} {ns : List Nd}
theorem nd_len (hN : ∀ nd ∈ ns, NdLen ts nd) {n : Nat} {nd : Nd} (h : ns[n]? = some nd) : NdLen ts nd := hN nd (List.mem_of_getElem? h)
theorem parS_len (hN : ∀ nd ∈ ns, NdLen ts nd) : ∀ (ps : List Par) (l : List Nat), DenPs ns ps l → sumLen (ps.map (parS ts)) + 20 * ps.length ≤ 20000 * ps.length
 | [], _, _ => by simp [sumLen]
 | q :: ps, _, ⟨n, t, _, h1, h2⟩ => by
   have h3 := parS_len hN ps t h2
   have h4 := nd_len hN h1
   have h5 := h4.text
   have h6 := h4.col
   dsimp only at h5 h6
   simp only [sumLen, List.map_cons, List.foldr_cons, List.length_cons, parS, List.length_append] at h3 ⊢
   omega
theorem ifS_len (b : Prop) [Decidable b] : (if b then [32] else [] : List UInt8).length ≤ 1 := by split <;> simp
mutual
theorem wE_len (hN : ∀ nd ∈ ns, NdLen ts nd) : ∀ (e : Ex) (n ind : Nat), DenE ns e n → ind + szE e ≤ 1300 → (wE ts ind e).length + 100 ≤ 20000 * szE e
 | .num _ k, _, _, h, _ => by rw [DenE] at h; have := (nd_len hN h).num; dsimp only at this; rw [wE, szE]; omega
 | .text _ x, _, _, h, _ => by rw [DenE] at h; have := (nd_len hN h).text; dsimp only at this; rw [wE, szE]; simp only [lzA, lzC, lzN]; omega
 | .bool _ k, _, _, h, _ => by rw [wE, szE]; split <;> simp
 | .null _, _, _, h, _ => by rw [wE, szE]; simp
 | .var _ x, _, _, h, _ => by rw [DenE] at h; have := (nd_len hN h).text; dsimp only at this; rw [wE, szE]; omega
 | .fn p ps ty bp body, n, ind, h, hs => by
   rw [DenE] at h
   obtain ⟨ids, b, h1, h2, h3⟩ := h
   rw [DenB] at h3
   obtain ⟨ids2, h3, h4⟩ := h3
   have a1 := (nd_len hN h1).col
   dsimp only at a1
   rw [szE] at hs ⊢
   have a2 := parS_len hN ps ids h2
   have a3 := wSs_len hN body ids2 (ind + 1) h4 (by omega)
   have a4 := joinL_len [44, 32] (ps.map (parS ts))
   have a5 := blanks_len ind
   rw [List.length_map] at a4
   rw [wE]
   simp only [lzA, lzC, lzN] at a4 ⊢
   omega
 | .call p a l, n, ind, h, hs => by
   rw [DenE] at h
   obtain ⟨na, nl, h1, h2, h3⟩ := h
   rw [szE] at hs ⊢
   have a1 := wE_len hN a na ind h2 (by omega)
   have a2 := wEs_len hN l nl ind h3 (by omega)
   have a3 := joinL_len [44, 32] (wEs ts ind l)
   have a4 := par_len (decide (lvl a < 4)) (wE ts ind a)
   rw [wE]
   simp only [lzA, lzC, lzN] at a3 ⊢
   omega
 | .get p a x, n, ind, h, hs => by
   rw [DenE] at h
   obtain ⟨na, h1, h2⟩ := h
   rw [szE] at hs ⊢
   have a1 := wE_len hN a na ind h2 (by omega)
   have a3 := (nd_len hN h1).text
   have a4 := par_len (decide (lvl a < 4)) (wE ts ind a)
   dsimp only at a3
   rw [wE]
   simp only [lzA, lzC, lzN]
   omega
 | .at p a b, n, ind, h, hs => by
   rw [DenE] at h
   obtain ⟨na, nb, h1, h2, h3⟩ := h
   rw [szE] at hs ⊢
   have a1 := wE_len hN a na ind h2 (by omega)
   have a2 := wE_len hN b nb ind h3 (by omega)
   have a4 := par_len (decide (lvl a < 4)) (wE ts ind a)
   rw [wE]
   simp only [lzA, lzC, lzN]
   omega
 | .obj p l, n, ind, h, hs => by
   rw [DenE] at h
   obtain ⟨nl, h1, h2⟩ := h
   rw [szE] at hs ⊢
   have a2 := wOs_len hN l nl ind h2 (by omega)
   have a3 := joinL_len [44, 32] (wOs ts ind l)
   rw [wE]
   split
   · simp; omega
   · simp only [lzA, lzC, lzN] at a3 ⊢
     omega
 | .arr p l, n, ind, h, hs => by
   rw [DenE] at h
   obtain ⟨nl, h1, h2⟩ := h
   rw [szE] at hs ⊢
   have a2 := wEs_len hN l nl ind h2 (by omega)
   have a3 := joinL_len [44, 32] (wEs ts ind l)
   rw [wE]
   simp only [lzA, lzC, lzN] at a3 ⊢
   omega
 | .two p x a b, n, ind, h, hs => by
   rw [DenE] at h
   obtain ⟨na, nb, h1, h2, h3⟩ := h
   rw [szE] at hs ⊢
   have a1 := wE_len hN a na ind h2 (by omega)
   have a2 := wE_len hN b nb ind h3 (by omega)
   have a3 := (nd_len hN h1).text
   have a4 := par_len (decide (lvl a < max (signLv x) 1)) (wE ts ind a)
   have a5 := par_len (decide (lvl b < signLv x + 1)) (wE ts ind b)
   dsimp only at a3
   rw [wE]
   simp only [lzA, lzC, lzN]
   omega
 | .one p x a, n, ind, h, hs => by
   rw [DenE] at h
   obtain ⟨na, h1, h2⟩ := h
   rw [szE] at hs ⊢
   have a1 := wE_len hN a na ind h2 (by omega)
   have a3 := (nd_len hN h1).text
   have a4 := par_len (decide (lvl a < 3)) (wE ts ind a)
   have a5 := ifS_len (x.data.toList = typeofS)
   dsimp only at a3
   rw [wE]
   simp only [List.length_append]
   omega
 | .as p a ty, n, ind, h, hs => by
   rw [DenE] at h
   obtain ⟨na, h1, h2⟩ := h
   rw [szE] at hs ⊢
   have a1 := wE_len hN a na ind h2 (by omega)
   have a3 := (nd_len hN h1).asTy rfl
   have a4 := par_len (decide (lvl a < 4)) (wE ts ind a)
   dsimp only at a3
   rw [wE]
   simp only [lzA, lzC, lzN]
   omega
theorem wEs_len (hN : ∀ nd ∈ ns, NdLen ts nd) : ∀ (l : List Ex) (nl : List Nat) (ind : Nat), DenEs ns l nl → ind + szEs l ≤ 1300 → sumLen (wEs ts ind l) + 100 * (wEs ts ind l).length ≤ 20000 * szEs l
 | [], _, _, _, _ => by simp [wEs, szEs, sumLen]
 | e :: l, _, ind, h, hs => by
   rw [DenEs] at h
   obtain ⟨n, t, _, h1, h2⟩ := h
   rw [szEs] at hs ⊢
   have a1 := wE_len hN e n ind h1 (by omega)
   have a2 := wEs_len hN l t ind h2 (by omega)
   rw [wEs]
   simp only [sumLen, List.map_cons, List.foldr_cons, List.length_cons] at a2 ⊢
   omega
theorem wOs_len (hN : ∀ nd ∈ ns, NdLen ts nd) : ∀ (l : List (Nat × ByteArray × Ex)) (nl : List Nat) (ind : Nat), DenOs ns l nl → ind + szOs l ≤ 1300 → sumLen (wOs ts ind l) + 100 * (wOs ts ind l).length ≤ 20000 * szOs l
 | [], _, _, _, _ => by simp [wOs, szOs, sumLen]
 | (p, x, e) :: l, _, ind, h, hs => by
   rw [DenOs] at h
   obtain ⟨n, a, t, _, h0, h1, h2⟩ := h
   rw [szOs] at hs ⊢
   have a1 := wE_len hN e a ind h1 (by omega)
   have a2 := wOs_len hN l t ind h2 (by omega)
   have a3 := (nd_len hN h0).text
   dsimp only at a3
   rw [wOs]
   simp only [sumLen, List.map_cons, List.foldr_cons, List.length_cons, List.length_append, List.length_nil] at a2 ⊢
   omega
theorem wSs_len (hN : ∀ nd ∈ ns, NdLen ts nd) : ∀ (l : List Sm) (nl : List Nat) (ind : Nat), DenSs ns l nl → ind + szSs l ≤ 1300 → (wSs ts ind l).length ≤ 20000 * szSs l
 | [], _, _, _, _ => by simp [wSs, szSs]
 | e :: l, _, ind, h, hs => by
   rw [DenSs] at h
   obtain ⟨n, t, _, h1, h2⟩ := h
   rw [szSs] at hs ⊢
   have a1 := wS_len hN e n ind h1 (by omega)
   have a2 := wSs_len hN l t ind h2 (by omega)
   rw [wSs]
   simp only [List.length_append]
   omega
theorem wS_len (hN : ∀ nd ∈ ns, NdLen ts nd) : ∀ (e : Sm) (n ind : Nat), DenS ns e n → ind + szS e ≤ 1300 → (wS ts ind e).length ≤ 20000 * szS e
 | .let_ p x ty a, n, ind, h, hs => by
   rw [DenS] at h
   obtain ⟨na, h1, h2⟩ := h
   rw [szS] at hs ⊢
   have a1 := wE_len hN a na ind h2 (by omega)
   have a3 := (nd_len hN h1).text
   have a4 := (nd_len hN h1).col
   have a5 := blanks_len ind
   dsimp only at a3 a4
   rw [wS]
   simp only [lzA, lzC, lzN]
   omega
 | .set p x a, n, ind, h, hs => by
   rw [DenS] at h
   obtain ⟨na, h1, h2⟩ := h
   rw [szS] at hs ⊢
   have a1 := wE_len hN a na ind h2 (by omega)
   have a3 := (nd_len hN h1).text
   have a5 := blanks_len ind
   dsimp only at a3
   rw [wS]
   simp only [lzA, lzC, lzN]
   omega
 | .put p a x v, n, ind, h, hs => by
   rw [DenS] at h
   obtain ⟨na, nb, h1, h2, h3⟩ := h
   rw [szS] at hs ⊢
   have a1 := wE_len hN a na ind h2 (by omega)
   have a2 := wE_len hN v nb ind h3 (by omega)
   have a3 := (nd_len hN h1).text
   have a4 := par_len (decide (lvl a < 4)) (wE ts ind a)
   have a5 := blanks_len ind
   dsimp only at a3
   rw [wS]
   simp only [lzA, lzC, lzN]
   omega
 | .lay p a b v, n, ind, h, hs => by
   rw [DenS] at h
   obtain ⟨na, nb, nv, h1, h2, h3, h4⟩ := h
   rw [szS] at hs ⊢
   have a1 := wE_len hN a na ind h2 (by omega)
   have a2 := wE_len hN b nb ind h3 (by omega)
   have a3 := wE_len hN v nv ind h4 (by omega)
   have a4 := par_len (decide (lvl a < 4)) (wE ts ind a)
   have a5 := blanks_len ind
   rw [wS]
   simp only [lzA, lzC, lzN]
   omega
 | .print p a, n, ind, h, hs => by
   rw [DenS] at h
   obtain ⟨na, h1, h2⟩ := h
   rw [szS] at hs ⊢
   have a1 := wE_len hN a na ind h2 (by omega)
   have a5 := blanks_len ind
   rw [wS]
   simp only [lzA, lzC, lzN]
   omega
 | .ret p a, n, ind, h, hs => by
   rw [DenS] at h
   obtain ⟨na, h1, h2⟩ := h
   rw [szS] at hs ⊢
   have a1 := wE_len hN a na ind h2 (by omega)
   have a5 := blanks_len ind
   rw [wS]
   simp only [lzA, lzC, lzN]
   omega
 | .do_ p a, n, ind, h, hs => by
   rw [DenS] at h
   obtain ⟨na, h1, h2⟩ := h
   rw [szS] at hs ⊢
   have a1 := wE_len hN a na ind h2 (by omega)
   have a5 := blanks_len ind
   rw [wS]
   simp only [lzA, lzC, lzN]
   omega
 | .if_ p a bp b none, n, ind, h, hs => by
   rw [DenS] at h
   obtain ⟨na, nb, h1, h2, h3⟩ := h
   rw [DenB] at h3
   obtain ⟨ids, _, h3⟩ := h3
   rw [szS] at hs ⊢
   have a1 := wE_len hN a na ind h2 (by omega)
   have a2 := wSs_len hN b ids (ind + 1) h3 (by omega)
   have a5 := blanks_len ind
   rw [wS]
   simp only [lzA, lzC, lzN]
   omega
 | .if_ p a bp b (some (cp, c)), n, ind, h, hs => by
   rw [DenS] at h
   obtain ⟨na, nb, nc, h1, h2, h3, h4⟩ := h
   rw [DenB] at h3 h4
   obtain ⟨ids, _, h3⟩ := h3
   obtain ⟨ids2, _, h4⟩ := h4
   rw [szS] at hs ⊢
   have a1 := wE_len hN a na ind h2 (by omega)
   have a2 := wSs_len hN b ids (ind + 1) h3 (by omega)
   have a3 := wSs_len hN c ids2 (ind + 1) h4 (by omega)
   have a5 := blanks_len ind
   rw [wS]
   simp only [lzA, lzC, lzN]
   omega
 | .while_ p a bp b, n, ind, h, hs => by
   rw [DenS] at h
   obtain ⟨na, nb, h1, h2, h3⟩ := h
   rw [DenB] at h3
   obtain ⟨ids, _, h3⟩ := h3
   rw [szS] at hs ⊢
   have a1 := wE_len hN a na ind h2 (by omega)
   have a2 := wSs_len hN b ids (ind + 1) h3 (by omega)
   have a5 := blanks_len ind
   rw [wS]
   simp only [lzA, lzC, lzN]
   omega
end
end
theorem prog_len {pg : Pg} (h : PgOk pg) {l : List Sm} {n : Nat} (hl : layB 0 l [] = (pg.ns, n)) (hd : DenB pg.ns 0 l n) : (wSs pg.ts 0 l).length ≤ 26000000 := by
 rw [DenB] at hd
 obtain ⟨ids, _, hd⟩ := hd
 have h1 : pg.ns.length = szSs l + 1 := by
   have := laySs_sz l []
   have h2 : (layB 0 l []).1.length = pg.ns.length := by rw [hl]
   rw [layB] at h2
   simp at h2 this
   omega
 have h2 := h.nlen
 have := wSs_len h.len l ids 0 hd (by omega)
 omega
end Ty
end
section
open Go Go.RowKit
open Prt (Sat As blk pur exs star stars)
open Ty (Tr)
theorem fds_at {w : World} {v : Value} {l : List (ByteArray × Nat)} (h : w.ownsRow 0 141 2 v l.length (l.flatMap fdCells)) (k : Nat) (hk : k < l.length) : ∃ g cap : Nat, v = .slice (some ⟨g, 0, none⟩) l.length cap ∧ g < w.heap.size ∧ w.cell? ⟨g, k * 2, none⟩ = some (.string l[k].1) ∧ w.cell? ⟨g, k * 2 + 1, none⟩ = some (.int .i64 (l[k].2 : Nat)) := by
 obtain ⟨g, cap, rfl, _, hg⟩ := h.form (by omega)
 have key : ∀ (l : List (ByteArray × Nat)) (k : Nat) (hk : k < l.length), (l.flatMap fdCells)[k * 2]? = some (.string l[k].1) ∧ (l.flatMap fdCells)[k * 2 + 1]? = some (.int .i64 (l[k].2 : Nat)) := by
   intro l
   induction l with
   | nil => intro k hk; simp at hk
   | cons a l ih =>
     intro k hk
     cases k with
     | zero => simp [fdCells]
     | succ k =>
       have := ih k (by simpa using hk)
       simp only [List.flatMap_cons, List.getElem_cons_succ]
       refine ⟨?_, ?_⟩
       · rw [List.getElem?_append_right (by simp [fdCells]; omega), show (k + 1) * 2 - (fdCells a).length = k * 2 by simp [fdCells]; omega]; exact this.1
       · rw [List.getElem?_append_right (by simp [fdCells]; omega), show (k + 1) * 2 + 1 - (fdCells a).length = k * 2 + 1 by simp [fdCells]; omega]; exact this.2
 obtain ⟨k1, k2⟩ := key l k hk
 refine ⟨g, cap, rfl, hg, ?_, ?_⟩
 · have := World.ownsRow.cells h (g := g) rfl _ _ k1; rwa [Addr.add_lit, Nat.zero_add] at this
 · have := World.ownsRow.cells h (g := g) rfl _ _ k2; rwa [Addr.add_lit, Nat.zero_add] at this
end
section
open Go Go.RowKit
open Prt (Sat As blk pur exs star stars)
open Ty (Tr)
theorem str_at {w : World} {v : Value} {l : List ByteArray} (h : w.ownsRow 0 9 1 v l.length (l.map Value.string)) (k : Nat) (hk : k < l.length) : ∃ g cap : Nat, v = .slice (some ⟨g, 0, none⟩) l.length cap ∧ g < w.heap.size ∧ w.cell? ⟨g, k, none⟩ = some (.string l[k]) := by
 obtain ⟨g, cap, rfl, _, hg⟩ := h.form (by omega)
 refine ⟨g, cap, rfl, hg, ?_⟩
 have := World.ownsRow.cells h (g := g) rfl k (.string l[k]) (by simp [hk])
 rwa [Addr.add_lit, Nat.zero_add] at this
def StrSl (w : World) (v : Value) (l : List ByteArray) : Prop := (∃ a cap, v = .slice a 0 cap ∧ l = []) ∨ ∃ b o cap, v = .slice (some ⟨b, o, none⟩) l.length cap ∧ ∀ k (hk : k < l.length), w.cell? ⟨b, o + k, none⟩ = some (.string l[k])
theorem StrSl.slice {w : World} {v : Value} {l : List ByteArray} (h : StrSl w v l) : ∃ a cap, v = .slice a l.length cap := by
 rcases h with ⟨a, cap, rfl, rfl⟩ | ⟨b, o, cap, rfl, _⟩
 · exact ⟨a, cap, rfl⟩
 · exact ⟨_, cap, rfl⟩
theorem cell_lt {w : World} {b o : Nat} {x : Value} (h : w.cell? ⟨b, o, none⟩ = some x) : b < w.heap.size := by
 refine Nat.lt_of_not_le fun hb => ?_
 unfold World.cell? at h
 rw [show w.heap[(⟨b, o, none⟩ : Addr).block]? = none from Array.getElem?_eq_none hb] at h
 simp at h
theorem StrSl.at {w : World} {v : Value} {l : List ByteArray} (h : StrSl w v l) (k : Nat) (hk : k < l.length) : ∃ b o cap : Nat, v = .slice (some ⟨b, o, none⟩) l.length cap ∧ b < w.heap.size ∧ w.cell? ⟨b, o + k, none⟩ = some (.string l[k]) := by
 rcases h with ⟨a, cap, rfl, rfl⟩ | ⟨b, o, cap, rfl, h⟩
 · simp at hk
 · exact ⟨b, o, cap, rfl, cell_lt (h k hk), h k hk⟩
theorem StrSl.below {w w' : World} {v : Value} {l : List ByteArray} (h : StrSl w v l) (hb : Below w.heap.size w w') : StrSl w' v l := by
 rcases h with h | ⟨b, o, cap, rfl, h⟩
 · exact .inl h
 · exact .inr ⟨b, o, cap, rfl, fun k hk => (hb.cell (p := ⟨b, o + k, none⟩) (cell_lt (h k hk))).trans (h k hk)⟩
end
section
open Go Go.RowKit
open Prt (Sat As blk pur exs star stars)
open Ty (Tr anyTo anyTo_iff anyTo_false)
def FitC (p q : Value) (w : World) (r : Bool) : Prop := ∀ w1, Below w.heap.size w w1 → ∀ R : Ending → World → Prop, (∀ w2, Below w1.heap.size w1 w2 → R (.returned (.bool r)) w2) → Calls Tryz.prog 249 #[p, q] w1 R
end
section
open Go Go.RowKit
open Prt (Sat As blk pur exs star stars)
open Ty (Tr anyTo anyTo_iff anyTo_false)
def AlikeC (p q : Value) (w : World) (r : Bool) : Prop := ∀ w1, Below w.heap.size w w1 → ∀ R : Ending → World → Prop, (∀ w2, Below w1.heap.size w1 w2 → R (.returned (.bool r)) w2) → Calls Tryz.prog 301 #[p, q] w1 R
structure TAt (w : World) (b k : Nat) (a : Option Addr) (n c : Nat) (lv ov : Value) : Prop where
 lt : b < w.heap.size
 c0 : w.cell? ⟨b, 0, none⟩ = some (.int .i64 (k : Nat))
 c1 : w.cell? ⟨b, 1, none⟩ = some (.slice a n c)
 c2 : w.cell? ⟨b, 2, none⟩ = some lv
 c3 : w.cell? ⟨b, 3, none⟩ = some ov
theorem keepC {w w' : World} (h : Below w.heap.size w w') {b o : Nat} {v : Value} (hc : w.cell? ⟨b, o, none⟩ = some v) : w'.cell? ⟨b, o, none⟩ = some v := by
 by_cases hb : b < w.heap.size
 · exact (h.cell (p := ⟨b, o, none⟩) hb).trans hc
 · rw [World.cell?, Array.getElem?_eq_none (by simpa using hb)] at hc; simp at hc
theorem TAt.below {w w' : World} {b k : Nat} {a : Option Addr} {n c : Nat} {lv ov : Value} (h : TAt w b k a n c lv ov) (hb : Below w.heap.size w w') : TAt w' b k a n c lv ov :=
 ⟨Nat.lt_of_lt_of_le h.lt hb.size, keepC hb h.c0, keepC hb h.c1, keepC hb h.c2, keepC hb h.c3⟩
end
section
open Go Go.RowKit
open Prt (Sat As blk pur exs star stars)
open Ty (Tr anyTo anyTo_iff anyTo_false)
theorem keepCell {w w' : World} (h : Below w.heap.size w w') {b o : Nat} {v : Value} (hc : w.cell? ⟨b, o, none⟩ = some v) : w'.cell? ⟨b, o, none⟩ = some v := by
 by_cases hb : b < w.heap.size
 · exact (h.cell (p := ⟨b, o, none⟩) hb).trans hc
 · rw [World.cell?, Array.getElem?_eq_none (by simpa using hb)] at hc; simp at hc
end
section
open Go Go.RowKit
open Prt (Sat As blk pur exs star stars)
open Ty (Tr anyTo anyTo_iff anyTo_false)
theorem FitC.mono {p q : Value} {w w1 : World} {r : Bool} (h : FitC p q w r) (hb : Below w.heap.size w w1) : FitC p q w1 r := fun w2 hb2 R hR => h w2 (hb.trans (hb2.mono hb.size)) R hR
end
section
open Go Go.RowKit
open Prt (Sat As blk pur exs star stars)
open Ty (Tr anyTo anyTo_iff anyTo_false)
theorem AlikeC.mono {p q : Value} {w w1 : World} {r : Bool} (h : AlikeC p q w r) (hb : Below w.heap.size w w1) : AlikeC p q w1 r := fun w2 hb2 R hR => h w2 (hb.trans (hb2.mono hb.size)) R hR
end
section
open Go Go.RowKit
open Prt (Sat As blk pur exs star stars)
open Ty (Tr anyTo anyTo_iff anyTo_false)
structure RowAt (w : World) (g n : Nat) (r : TyRow) : Prop where
 q0 : w.cell? ⟨g, n * 4, none⟩ = some (.int .i64 r.t.kind)
 q1 : w.cell? ⟨g, n * 4 + 1, none⟩ = some r.fv
 q2 : w.cell? ⟨g, n * 4 + 2, none⟩ = some r.lv
 q3 : w.cell? ⟨g, n * 4 + 3, none⟩ = some (.int .i64 r.t.of)
theorem TyRd.look {w : World} {v : Value} {rows : List TyRow} {ts : List Ty.Ty} (h : TyRd w v rows) (hts : rows.map TyRow.t = ts) {n : Nat} (hn : n < ts.length) :
   ∃ (g cap : Nat) (r : TyRow), v = .slice (some ⟨g, 0, none⟩) ts.length cap ∧ g < w.heap.size ∧ ts.length ≤ cap ∧ cap ≤ maxLen ∧ ts[n]? = some r.t ∧ RowAt w g n r ∧ w.ownsRow 0 141 2 r.fv r.t.fields.length (r.t.fields.flatMap fdCells) ∧ w.ownsRow 0 3 1 r.lv r.t.list.length (r.t.list.map inCell) := by
 have hl : rows.length = ts.length := by rw [← hts]; simp
 obtain ⟨g, cap, hv, hg, hc, hm, hcells⟩ := h.at (by omega)
 obtain ⟨q0, q1, q2, q3⟩ := hcells n (by omega)
 have hb := h.bits rows[n] (List.getElem_mem _)
 have hget : (rows.map TyRow.t)[n]? = some rows[n].t := by rw [List.getElem?_map, List.getElem?_eq_getElem (by omega)]; rfl
 rw [hts] at hget
 exact ⟨g, cap, rows[n], by rw [hv, hl], hg, by omega, hm, hget, ⟨q0, q1, q2, q3⟩, hb.1, hb.2⟩
def RalC (v : Value) (w : World) (a b : Nat) (r : Bool) : Prop := ∀ w1, Below w.heap.size w w1 → ∀ R : Ending → World → Prop, (∀ w2, Below w1.heap.size w1 w2 → R (.returned (.bool r)) w2) → Calls Tryz.prog 170 #[v, .int .i64 (a : Nat), .int .i64 (b : Nat)] w1 R
end
section
open Go Go.RowKit
open Prt (Sat As blk pur exs star stars)
open Ty (Tr anyTo anyTo_iff anyTo_false)
theorem RalC.mono {v : Value} {w w1 : World} {a b : Nat} {r : Bool} (h : RalC v w a b r) (hb : Below w.heap.size w w1) : RalC v w1 a b r := fun w2 hb2 R hR => h w2 (hb.trans (hb2.mono hb.size)) R hR
end
section
open Go Go.RowKit
open Prt (Sat As blk pur exs star stars)
open Ty (Tr anyTo anyTo_iff anyTo_false)
def RfiC (v : Value) (w : World) (a b : Nat) (r : Bool) : Prop := ∀ w1, Below w.heap.size w w1 → ∀ R : Ending → World → Prop, (∀ w2, Below w1.heap.size w1 w2 → R (.returned (.bool r)) w2) → Calls Tryz.prog 102 #[v, .int .i64 (a : Nat), .int .i64 (b : Nat)] w1 R
theorem RfiC.mono {v : Value} {w w1 : World} {a b : Nat} {r : Bool} (h : RfiC v w a b r) (hb : Below w.heap.size w w1) : RfiC v w1 a b r := fun w2 hb2 R hR => h w2 (hb.trans (hb2.mono hb.size)) R hR
end
section
open Go Go.RowKit
open Prt (Sat As blk pur exs star stars)
open Ty (Tr)
def rowsA (v : Value) (rows : List TyRow) : As := stars [Prt.row 69 4 v rows.length (rows.flatMap tyCells), stars (rows.map tyBits)]
theorem tyA_open {v : Value} {ts : List Ty.Ty} {a : Prt.Hp} (h : tyA v ts a) : exs (fun rows : List TyRow => star (pur (rows.map TyRow.t = ts)) (rowsA v rows)) a := by
 obtain ⟨rows, x, y, h1, h2, h3, h4, h5⟩ := h
 refine ⟨rows, x, y, h1, h2, h3, h4, ?_⟩
 have e : ts.length = rows.length := by have := congrArg List.length (show rows.map TyRow.t = ts from h4); simpa using this.symm
 rw [e] at h5; exact h5
theorem Prt.Sat.rows {w0 w : World} {L : List As} (h : Sat w0 w L) (i : Nat) {v : Value} {ts : List Ty.Ty} (hi : L[i]? = some (tyA v ts)) : ∃ rows, rows.map TyRow.t = ts ∧ Sat w0 w (L.set i (rowsA v rows)) := by
 have h1 := h.ent hi (Q := exs (fun rows : List TyRow => star (pur (rows.map TyRow.t = ts)) (rowsA v rows))) (fun _ h => tyA_open h)
 have hi2 : (L.set i (exs fun rows : List TyRow => star (pur (rows.map TyRow.t = ts)) (rowsA v rows)))[i]? = some (exs fun rows : List TyRow => star (pur (rows.map TyRow.t = ts)) (rowsA v rows)) := by
   rw [List.getElem?_set_self (Prt.Sat.lt_of hi)]
 obtain ⟨rows, h2⟩ := h1.ex hi2
 rw [List.set_set] at h2
 have hi3 : (L.set i (star (pur (rows.map TyRow.t = ts)) (rowsA v rows)))[i]? = some (star (pur (rows.map TyRow.t = ts)) (rowsA v rows)) := by
   rw [List.getElem?_set_self (Prt.Sat.lt_of hi)]
 have hp : rows.map TyRow.t = ts := h2.get hi3 fun a ha _ => by
   obtain ⟨_, _, _, _, _, h, _⟩ := ha; exact h
 have h3 := h2.ent hi3 (Q := rowsA v rows) (fun a ha => by
   obtain ⟨x, y, _, _, hy, _, h⟩ := ha
   exact Prt.stars_mono h hy)
 rw [List.set_set] at h3
 exact ⟨rows, hp, h3⟩
end
section
open Go Go.RowKit
open Prt (Sat As blk pur exs star stars)
open Ty (Tr)
def Old (wb w : World) : Prop := ∀ k, k < wb.heap.size → w.heap[k]? = wb.heap[k]?
theorem Old.cell {wb w : World} (h : Old wb w) {b o : Nat} {v : Value} (hc : wb.cell? ⟨b, o, none⟩ = some v) : w.cell? ⟨b, o, none⟩ = some v := by
 by_cases hb : b < wb.heap.size
 · rw [← hc]; simp [World.cell?, h b hb]
 · rw [World.cell?, Array.getElem?_eq_none (by simpa using hb)] at hc; simp at hc
theorem Old.size {wb w : World} (h : Old wb w) : wb.heap.size ≤ w.heap.size := by
 refine Nat.le_of_not_lt fun hlt => ?_
 have h6 := h (wb.heap.size - 1) (by omega)
 rw [Array.getElem?_eq_none (by omega), Array.getElem?_eq_getElem (by omega)] at h6
 cases h6
end
end Go.Proofs.YtdlbhiaceheffabGreatDoor
