/- Walks of show.TypeText: functions, unions, words. show.TypeText: a type of a list, as a text. Walks of show.writer's put, node, typed, list; show.binds. Plain: what the reference says of types joined, and of a type as a text. Walks of the reference's WriteType: objects, arrays, functions. The reference's WriteType: a type of a list, as a text. -/
import Derived.Deep.RegionLaw
import Derived.Test.YtdlbhiaceheffabGreatDoorS15
set_option linter.all false
set_option maxRecDepth 100000
set_option maxHeartbeats 4000000
namespace Go.Proofs.YtdlbhiaceheffabGreatDoor
section
open Go Go.RowKit
open Prt (Sat As blk pur exs star stars)
open Ty (Tr)
theorem TxtC.below {v : Value} {w w1 : World} {n : Nat} {r : List UInt8} (h : TxtC v w n r) (hb : Below w.heap.size w w1) : TxtC v w1 n r :=
 fun _ h2 R hR => h _ (hb.trans (h2.mono hb.size)) R hR
def TxsC (v lv : Value) (w : World) (sep : ByteArray) (un : Bool) (r : List UInt8) : Prop := ∀ w1, Below w.heap.size w w1 → ∀ R : Ending → World → Prop, (∀ w2, Below w1.heap.size w1 w2 → R (.returned (.string (bs r))) w2) → Calls Tryz.prog 118 #[v, lv, .string sep, .bool un] w1 R
theorem txs_any (w : World) (g cap L : Nat) (hg : g < w.heap.size) (hc : L ≤ cap) (hL : L ≤ 1000000) (lst : List Nat) (lv : Value) (hlst : w.ownsRow 0 3 1 lv lst.length (lst.map inCell)) (hl6 : lst.length ≤ 1000000) (kd : Nat → Nat) (tx : Nat → List UInt8) (un : Bool) (sep : ByteArray)
   (hk : ∀ j (hj : j < lst.length), lst[j] < L ∧ w.cell? ⟨g, lst[j] * 4, none⟩ = some (.int .i64 (kd j : Nat)))
   (ht : ∀ j (hj : j < lst.length), TxtC (.slice (some ⟨g, 0, none⟩) L cap) w lst[j] (tx j)) (hb : ∀ j, j < lst.length → (tx j).length ≤ 900000000)
   (hs : (Ty.joinL sep.data.toList ((List.range lst.length).map (fTx un lst.length kd tx))).length ≤ 1000000000) :
   TxsC (.slice (some ⟨g, 0, none⟩) L cap) lv w sep un (Ty.joinL sep.data.toList ((List.range lst.length).map (fTx un lst.length kd tx))) := fun w1 h1 _ hR =>
 texts_any w1 g cap L (Nat.lt_of_lt_of_le hg h1.size) hc hL lst lv (owns_below hlst h1) hl6 kd tx un sep (fun j hj => ⟨(hk j hj).1, keepCell h1 (hk j hj).2⟩) (fun j hj => (ht j hj).below h1) hb hs hR
theorem tt_10 (w : World) (g cap L n of : Nat) (_ : g < w.heap.size) (_ : L ≤ cap) (_ : L ≤ 1000000) (hn : n < L) (fds : List (ByteArray × Nat)) (lst : List Nat) (fv lv : Value) (hA : RowAt w g n ⟨⟨10, fds, lst, of⟩, fv, lv⟩)
   (hfx : w.ownsRow 0 141 2 fv fds.length (fds.flatMap fdCells)) (hlx : w.ownsRow 0 3 1 lv lst.length (lst.map inCell))
   (tx : List UInt8) (ht : TxsC (.slice (some ⟨g, 0, none⟩) L cap) lv w ⟨#[32, 124, 32]⟩ true tx) {R : Ending → World → Prop}
   (hR : ∀ w', Below w.heap.size w w' → R (.returned (.string (bs tx))) w') :
   Calls Tryz.prog 64 #[.slice (some ⟨g, 0, none⟩) L cap, .int .i64 (n : Nat)] w R := by
 have HR := qh hR
 obtain ⟨q0, q1, q2, q3⟩ := hA
 obtain ⟨fa, fc, rfl⟩ := owns_slice hfx
 obtain ⟨la, lc, rfl⟩ := owns_slice hlx
 dsimp only at q0 q1 q2 q3
 have h1 := (Prt.Sat.old w).allocAt (.cells #[.int .i64 10, .slice fa fds.length fc, .slice la lst.length lc, .int .i64 of] 69) w.heap.size
 have HI := qh (ht _ h1.isBelow)
 have HB := qh h1.isBelow
 clear hR ht h1 hfx hlx
 go_enter Tryz.func64, Tryz.ntmps64
 go_wp2_with fail
 refine HI.out _ (fun w2 hb2 => ?_)
 have HB2 := qh (HB.out.trans (hb2.mono HB.out.size))
 clear hb2
 go_wp2_with fail
 exact HR.out _ HB2.out
theorem tt_9 (w : World) (g cap L n of : Nat) (_ : g < w.heap.size) (_ : L ≤ cap) (_ : L ≤ 1000000) (hn : n < L) (fds : List (ByteArray × Nat)) (lst : List Nat) (fv lv : Value) (hA : RowAt w g n ⟨⟨9, fds, lst, of⟩, fv, lv⟩)
   (hfx : w.ownsRow 0 141 2 fv fds.length (fds.flatMap fdCells)) (hlx : w.ownsRow 0 3 1 lv lst.length (lst.map inCell))
   (tx ty : List UInt8) (ht : TxsC (.slice (some ⟨g, 0, none⟩) L cap) lv w ⟨#[44, 32]⟩ false tx) (hu : TxtC (.slice (some ⟨g, 0, none⟩) L cap) w of ty) (hs : tx.length ≤ 400000000) (hs2 : ty.length ≤ 400000000) {R : Ending → World → Prop}
   (hR : ∀ w', Below w.heap.size w w' → R (.returned (.string (bs ([40] ++ tx ++ [41, 32, 61, 62, 32] ++ ty)))) w') :
   Calls Tryz.prog 64 #[.slice (some ⟨g, 0, none⟩) L cap, .int .i64 (n : Nat)] w R := by
 have HR := qh hR
 obtain ⟨q0, q1, q2, q3⟩ := hA
 obtain ⟨fa, fc, rfl⟩ := owns_slice hfx
 obtain ⟨la, lc, rfl⟩ := owns_slice hlx
 dsimp only at q0 q1 q2 q3
 have h1 := (Prt.Sat.old w).allocAt (.cells #[.int .i64 9, .slice fa fds.length fc, .slice la lst.length lc, .int .i64 of] 69) w.heap.size
 have HZ : Hid (∀ R : Ending → World → Prop, (∀ w', w'.cell? ⟨w.heap.size, 2, none⟩ = some (.slice la lst.length lc) → w'.cell? ⟨w.heap.size, 3, none⟩ = some (.int .i64 (of : Nat)) → Below w.heap.size w w' → R (.returned (.string (bs tx))) w') → Calls Tryz.prog 118 #[.slice (some ⟨g, 0, none⟩) L cap, .slice la lst.length lc, .string ⟨#[44, 32]⟩, .bool false] (w.alloc (.cells #[.int .i64 9, .slice fa fds.length fc, .slice la lst.length lc, .int .i64 of] 69)).drew R) := fun R h => by
   refine ht _ h1.drew.isBelow _ (fun w2 hb2 => ?_)
   have h2 := h1.drew.below hb2
   exact h w2 (h2.cell 1 rfl 2 rfl) (h2.cell 1 rfl 3 rfl) h2.isBelow
 have HU := qh hu
 have z0 := h1.cell 1 rfl 2 rfl
 have z1 := h1.cell 1 rfl 3 rfl
 obtain ⟨s1, e1, c1⟩ := cat_ex (a := ⟨#[40]⟩) (b := bs tx) (x := [40]) (z := [40] ++ tx) rfl rfl rfl (by simp; omega)
 obtain ⟨s2, e2, c2⟩ := cat_ex (a := s1) (b := ⟨#[41, 32, 61, 62, 32]⟩) (y := [41, 32, 61, 62, 32]) (z := [40] ++ tx ++ [41, 32, 61, 62, 32]) e1 rfl rfl (by simp; omega)
 obtain ⟨s3, e3, c3⟩ := cat_ex (a := s2) (b := bs ty) (z := [40] ++ tx ++ [41, 32, 61, 62, 32] ++ ty) e2 rfl rfl (by simp; omega)
 rw [← e3] at HR
 clear hR ht hu h1 e1 e2 e3 hfx hlx
 go_enter Tryz.func64, Tryz.ntmps64
 go_wp2_with fail
 go_region_held3 (fun w' => w'.cell? ⟨w.heap.size, 2, none⟩ = some (.slice la lst.length lc) ∧ w'.cell? ⟨w.heap.size, 3, none⟩ = some (.int .i64 (of : Nat))) (go_keep)
   (first | (go_at_call 118; refine HZ.out _ (fun w2 s0 s1 hb2 => ?_); have HB2 := qh hb2; clear hb2) | (go_at_call 64; refine HU.out _ HB2.out _ (fun w3 hb3 => ?_); have HB3 := qh (HB2.out.trans (hb3.mono HB2.out.size)); have s0 := keepCell hb3 s0; have s1 := keepCell hb3 s1; clear hb3))
 all_goals
   go_wp2_with fail
   exact HR.out _ HB3.out
theorem tt_w1 (w : World) (g cap L n of : Nat) (_ : g < w.heap.size) (_ : L ≤ cap) (_ : L ≤ 1000000) (hn : n < L) (fds : List (ByteArray × Nat)) (lst : List Nat) (fv lv : Value) (hA : RowAt w g n ⟨⟨1, fds, lst, of⟩, fv, lv⟩)
   (hfx : w.ownsRow 0 141 2 fv fds.length (fds.flatMap fdCells)) (hlx : w.ownsRow 0 3 1 lv lst.length (lst.map inCell)) {R : Ending → World → Prop}
   (hR : ∀ w', Below w.heap.size w w' → R (.returned (.string ⟨#[110, 117, 109]⟩)) w') :
   Calls Tryz.prog 64 #[.slice (some ⟨g, 0, none⟩) L cap, .int .i64 (n : Nat)] w R := by
 have HR := qh hR
 obtain ⟨q0, q1, q2, q3⟩ := hA
 obtain ⟨fa, fc, rfl⟩ := owns_slice hfx
 obtain ⟨la, lc, rfl⟩ := owns_slice hlx
 dsimp only at q0 q1 q2 q3
 clear hR hfx hlx
 go_enter Tryz.func64, Tryz.ntmps64
 go_wp2_with fail
 refine HR.out _ ?_
 repeat' (first | exact Below.refl _ _ | apply Below.drew | apply Below.setCell | apply Below.alloc | (simp; done) | (simp; omega) | omega)
theorem tt_w2 (w : World) (g cap L n of : Nat) (_ : g < w.heap.size) (_ : L ≤ cap) (_ : L ≤ 1000000) (hn : n < L) (fds : List (ByteArray × Nat)) (lst : List Nat) (fv lv : Value) (hA : RowAt w g n ⟨⟨2, fds, lst, of⟩, fv, lv⟩)
   (hfx : w.ownsRow 0 141 2 fv fds.length (fds.flatMap fdCells)) (hlx : w.ownsRow 0 3 1 lv lst.length (lst.map inCell)) {R : Ending → World → Prop}
   (hR : ∀ w', Below w.heap.size w w' → R (.returned (.string ⟨#[98, 111, 111, 108]⟩)) w') :
   Calls Tryz.prog 64 #[.slice (some ⟨g, 0, none⟩) L cap, .int .i64 (n : Nat)] w R := by
 have HR := qh hR
 obtain ⟨q0, q1, q2, q3⟩ := hA
 obtain ⟨fa, fc, rfl⟩ := owns_slice hfx
 obtain ⟨la, lc, rfl⟩ := owns_slice hlx
 dsimp only at q0 q1 q2 q3
 clear hR hfx hlx
 go_enter Tryz.func64, Tryz.ntmps64
 go_wp2_with fail
 refine HR.out _ ?_
 repeat' (first | exact Below.refl _ _ | apply Below.drew | apply Below.setCell | apply Below.alloc | (simp; done) | (simp; omega) | omega)
theorem tt_w3 (w : World) (g cap L n of : Nat) (_ : g < w.heap.size) (_ : L ≤ cap) (_ : L ≤ 1000000) (hn : n < L) (fds : List (ByteArray × Nat)) (lst : List Nat) (fv lv : Value) (hA : RowAt w g n ⟨⟨3, fds, lst, of⟩, fv, lv⟩)
   (hfx : w.ownsRow 0 141 2 fv fds.length (fds.flatMap fdCells)) (hlx : w.ownsRow 0 3 1 lv lst.length (lst.map inCell)) {R : Ending → World → Prop}
   (hR : ∀ w', Below w.heap.size w w' → R (.returned (.string ⟨#[116, 101, 120, 116]⟩)) w') :
   Calls Tryz.prog 64 #[.slice (some ⟨g, 0, none⟩) L cap, .int .i64 (n : Nat)] w R := by
 have HR := qh hR
 obtain ⟨q0, q1, q2, q3⟩ := hA
 obtain ⟨fa, fc, rfl⟩ := owns_slice hfx
 obtain ⟨la, lc, rfl⟩ := owns_slice hlx
 dsimp only at q0 q1 q2 q3
 clear hR hfx hlx
 go_enter Tryz.func64, Tryz.ntmps64
 go_wp2_with fail
 refine HR.out _ ?_
 repeat' (first | exact Below.refl _ _ | apply Below.drew | apply Below.setCell | apply Below.alloc | (simp; done) | (simp; omega) | omega)
theorem tt_w4 (w : World) (g cap L n of : Nat) (_ : g < w.heap.size) (_ : L ≤ cap) (_ : L ≤ 1000000) (hn : n < L) (fds : List (ByteArray × Nat)) (lst : List Nat) (fv lv : Value) (hA : RowAt w g n ⟨⟨4, fds, lst, of⟩, fv, lv⟩)
   (hfx : w.ownsRow 0 141 2 fv fds.length (fds.flatMap fdCells)) (hlx : w.ownsRow 0 3 1 lv lst.length (lst.map inCell)) {R : Ending → World → Prop}
   (hR : ∀ w', Below w.heap.size w w' → R (.returned (.string ⟨#[110, 117, 108, 108]⟩)) w') :
   Calls Tryz.prog 64 #[.slice (some ⟨g, 0, none⟩) L cap, .int .i64 (n : Nat)] w R := by
 have HR := qh hR
 obtain ⟨q0, q1, q2, q3⟩ := hA
 obtain ⟨fa, fc, rfl⟩ := owns_slice hfx
 obtain ⟨la, lc, rfl⟩ := owns_slice hlx
 dsimp only at q0 q1 q2 q3
 clear hR hfx hlx
 go_enter Tryz.func64, Tryz.ntmps64
 go_wp2_with fail
 refine HR.out _ ?_
 repeat' (first | exact Below.refl _ _ | apply Below.drew | apply Below.setCell | apply Below.alloc | (simp; done) | (simp; omega) | omega)
theorem tt_w5 (w : World) (g cap L n of : Nat) (_ : g < w.heap.size) (_ : L ≤ cap) (_ : L ≤ 1000000) (hn : n < L) (fds : List (ByteArray × Nat)) (lst : List Nat) (fv lv : Value) (hA : RowAt w g n ⟨⟨5, fds, lst, of⟩, fv, lv⟩)
   (hfx : w.ownsRow 0 141 2 fv fds.length (fds.flatMap fdCells)) (hlx : w.ownsRow 0 3 1 lv lst.length (lst.map inCell)) {R : Ending → World → Prop}
   (hR : ∀ w', Below w.heap.size w w' → R (.returned (.string ⟨#[97, 110, 121]⟩)) w') :
   Calls Tryz.prog 64 #[.slice (some ⟨g, 0, none⟩) L cap, .int .i64 (n : Nat)] w R := by
 have HR := qh hR
 obtain ⟨q0, q1, q2, q3⟩ := hA
 obtain ⟨fa, fc, rfl⟩ := owns_slice hfx
 obtain ⟨la, lc, rfl⟩ := owns_slice hlx
 dsimp only at q0 q1 q2 q3
 clear hR hfx hlx
 go_enter Tryz.func64, Tryz.ntmps64
 go_wp2_with fail
 refine HR.out _ ?_
 repeat' (first | exact Below.refl _ _ | apply Below.drew | apply Below.setCell | apply Below.alloc | (simp; done) | (simp; omega) | omega)
theorem tt_w6 (w : World) (g cap L n of : Nat) (_ : g < w.heap.size) (_ : L ≤ cap) (_ : L ≤ 1000000) (hn : n < L) (fds : List (ByteArray × Nat)) (lst : List Nat) (fv lv : Value) (hA : RowAt w g n ⟨⟨6, fds, lst, of⟩, fv, lv⟩)
   (hfx : w.ownsRow 0 141 2 fv fds.length (fds.flatMap fdCells)) (hlx : w.ownsRow 0 3 1 lv lst.length (lst.map inCell)) {R : Ending → World → Prop}
   (hR : ∀ w', Below w.heap.size w w' → R (.returned (.string ⟨#[117, 110, 107, 110, 111, 119, 110]⟩)) w') :
   Calls Tryz.prog 64 #[.slice (some ⟨g, 0, none⟩) L cap, .int .i64 (n : Nat)] w R := by
 have HR := qh hR
 obtain ⟨q0, q1, q2, q3⟩ := hA
 obtain ⟨fa, fc, rfl⟩ := owns_slice hfx
 obtain ⟨la, lc, rfl⟩ := owns_slice hlx
 dsimp only at q0 q1 q2 q3
 clear hR hfx hlx
 go_enter Tryz.func64, Tryz.ntmps64
 go_wp2_with fail
 refine HR.out _ ?_
 repeat' (first | exact Below.refl _ _ | apply Below.drew | apply Below.setCell | apply Below.alloc | (simp; done) | (simp; omega) | omega)
end
section
open Go Go.RowKit
open Prt (Sat As blk pur exs star stars)
open Ty (Tr)
theorem Ty.cntL_in {l : List Tr} {t : Tr} (h : t ∈ l) : Ty.cnt t ≤ Ty.cntL l := by
 induction l with
 | nil => simp at h
 | cons a l ih =>
   rw [Ty.cntL]
   rcases List.mem_cons.1 h with rfl | h
   · omega
   · have := ih h; omega
theorem getD_lt {α : Type} {l : List α} {d : α} {j : Nat} (h : j < l.length) : l.getD j d = l[j] := by simp [List.getD, List.getElem?_eq_getElem h]
theorem fTx_false (lst : List Nat) (kd : Nat → Nat) (ts : List (List UInt8)) (h : lst.length = ts.length) : (List.range lst.length).map (fTx false lst.length kd fun j => ts.getD j []) = ts := by
 apply List.ext_getElem
 · simp [h]
 · intro i h1 h2
   simp only [List.getElem_map, List.getElem_range, fTx]
   exact getD_lt h2
theorem fTx_true (lst : List Nat) (ks : List Nat) (ts : List (List UInt8)) (h : lst.length = ts.length) : (List.range lst.length).map (fTx true lst.length (fun j => ks.getD j 0) fun j => ts.getD j []) = Ty.brks ks ts := by
 unfold Ty.brks
 rw [h]; rfl
theorem TypeText_all (w : World) (v : Value) (rows : List TyRow) (ts : List Ty.Ty) (hts : rows.map TyRow.t = ts) (hw : Ty.Wf ts) (hlen : ts.length ≤ 1000000) (hrd : TyRd w v rows) : ∀ (N n : Nat), n < N → n < ts.length → Ty.shortT (Ty.den ts n) → Ty.cnt (Ty.den ts n) ≤ 1000000 → TxtC v w n (Ty.text (Ty.den ts n)) := by
 intro N
 induction N with
 | zero => intro n h; omega
 | succ N ih =>
   intro n hN hn hsh hcnt w1 hw1 R hR
   have hlook := fun (i : Nat) (hi : i < ts.length) => (hrd.below hw1).look hts hi
   obtain ⟨g, cap, x, rfl, hg, hcap, hcm, hx, hA, hfx, hlx⟩ := hlook n hn
   have wx := hw n _ hx
   have da := Ty.den_eq hw hx
   have hok := Ty.den_ok hw _ n (Nat.lt_succ_self _) hn
   have htl := Ty.text_len _ hok hsh
   obtain ⟨⟨kd, fds, lst, of⟩, fv, lv⟩ := x
   dsimp only at hfx hlx wx da
   rw [da] at hsh hcnt htl hR hok
   have lx := wx.lens
   have kx := wx.kind
   dsimp only at lx kx
   have key : ∀ i, i < n → Ty.shortT (Ty.den ts i) → Ty.cnt (Ty.den ts i) ≤ 1000000 → TxtC (.slice (some ⟨g, 0, none⟩) ts.length cap) w1 i (Ty.text (Ty.den ts i)) := fun i hi h1 h2 => (ih i (by omega) (by omega) h1 h2).below hw1
   replace htl := Nat.le_trans htl (Nat.mul_le_mul_left 40 hcnt)
   rw [Ty.shortT] at hsh
   have hcnt1 := hcnt
   rw [Ty.cnt] at hcnt1
   rw [Ty.okT] at hok
   obtain ⟨_, _, _, _, _, _, _, okp, okl, oko⟩ := hok
   have HP : ∀ j (hj : j < fds.length), Ty.shortT (Ty.den ts fds[j].2) ∧ Ty.cnt (Ty.den ts fds[j].2) ≤ 1000000 := fun j hj => by
     have hm : Ty.den ts fds[j].2 ∈ fds.map fun f => Ty.den ts f.2 := List.mem_map.2 ⟨fds[j], List.getElem_mem _, rfl⟩
     exact ⟨Ty.shortL_mem hsh.2.1 _ hm, by have := Ty.cntL_in hm; omega⟩
   have HL : ∀ j (hj : j < lst.length), Ty.shortT (Ty.den ts lst[j]) ∧ Ty.cnt (Ty.den ts lst[j]) ≤ 1000000 := fun j hj => by
     have hm : Ty.den ts lst[j] ∈ lst.map (Ty.den ts) := List.mem_map.2 ⟨lst[j], List.getElem_mem _, rfl⟩
     exact ⟨Ty.shortL_mem hsh.2.2.1 _ hm, by have := Ty.cntL_in hm; omega⟩
   have HK : ∀ j (hj : j < lst.length), lst[j] < ts.length ∧ w1.cell? ⟨g, lst[j] * 4, none⟩ = some (.int .i64 (((lst.map fun i => Ty.kindOf (Ty.den ts i)).getD j 0 : Nat))) := fun j hj => by
     have hl : lst[j] < ts.length := by have := wx.list lst[j] (List.getElem_mem _); omega
     obtain ⟨g2, cap2, y, e, _, _, _, hy, hB, _, _⟩ := hlook _ hl
     cases e
     refine ⟨hl, ?_⟩
     rw [hB.q0, getD_lt (by simpa using hj), List.getElem_map, Ty.den_eq hw hy]; rfl
   have HT : ∀ j (hj : j < lst.length), TxtC (.slice (some ⟨g, 0, none⟩) ts.length cap) w1 lst[j] ((Ty.texts (lst.map (Ty.den ts))).getD j []) := fun j hj => by
     have e : (Ty.texts (lst.map (Ty.den ts))).getD j [] = Ty.text (Ty.den ts lst[j]) := by
       rw [Ty.texts_map, getD_lt (by simpa using hj), List.getElem_map, List.getElem_map]
     rw [e]
     exact key _ (wx.list lst[j] (List.getElem_mem _)) (HL j hj).1 (HL j hj).2
   have HTB : ∀ j, j < lst.length → ((Ty.texts (lst.map (Ty.den ts))).getD j []).length ≤ 900000000 := fun j hj => by
     have e : (Ty.texts (lst.map (Ty.den ts))).getD j [] = Ty.text (Ty.den ts lst[j]) := by
       rw [Ty.texts_map, getD_lt (by simpa using hj), List.getElem_map, List.getElem_map]
     rw [e]
     have hl : lst[j] < ts.length := by have := wx.list lst[j] (List.getElem_mem _); omega
     have := Ty.text_len _ (Ty.den_ok hw _ lst[j] (Nat.lt_succ_self _) hl) (HL j hj).1
     have := (HL j hj).2
     omega
   have hml : lst.length = (Ty.texts (lst.map (Ty.den ts))).length := by rw [Ty.texts_map]; simp
   have hk : kd = 1 ∨ kd = 2 ∨ kd = 3 ∨ kd = 4 ∨ kd = 5 ∨ kd = 6 ∨ kd = 7 ∨ kd = 8 ∨ kd = 9 ∨ kd = 10 := by omega
   rcases hk with rfl | rfl | rfl | rfl | rfl | rfl | rfl | rfl | rfl | rfl
   · rw [Ty.text] at hR
     exact tt_w1 w1 g cap ts.length n of hg hcap hlen hn fds lst fv lv hA hfx hlx (fun w' hb => hR w' hb)
   · rw [Ty.text] at hR
     exact tt_w2 w1 g cap ts.length n of hg hcap hlen hn fds lst fv lv hA hfx hlx (fun w' hb => hR w' hb)
   · rw [Ty.text] at hR
     exact tt_w3 w1 g cap ts.length n of hg hcap hlen hn fds lst fv lv hA hfx hlx (fun w' hb => hR w' hb)
   · rw [Ty.text] at hR
     exact tt_w4 w1 g cap ts.length n of hg hcap hlen hn fds lst fv lv hA hfx hlx (fun w' hb => hR w' hb)
   · rw [Ty.text] at hR
     exact tt_w5 w1 g cap ts.length n of hg hcap hlen hn fds lst fv lv hA hfx hlx (fun w' hb => hR w' hb)
   · rw [Ty.text] at hR
     exact tt_w6 w1 g cap ts.length n of hg hcap hlen hn fds lst fv lv hA hfx hlx (fun w' hb => hR w' hb)
   · have hpl : (Ty.texts (fds.map fun f => Ty.den ts f.2)).length = fds.length := by rw [Ty.texts_map]; simp
     have ha1 : ∀ j (hj : j < fds.length), ([123] ++ Ty.fieldsS ((fds.map Prod.fst).take (j + 1)) ((Ty.texts (fds.map fun f => Ty.den ts f.2)).take (j + 1)) : List UInt8) = ([123] ++ Ty.fieldsS ((fds.map Prod.fst).take j) ((Ty.texts (fds.map fun f => Ty.den ts f.2)).take j)) ++ Ty.fieldS fds[j].1 (Ty.text (Ty.den ts fds[j].2)) := fun j hj => by
       rw [List.take_succ_eq_append_getElem (by simpa using hj), List.take_succ_eq_append_getElem (by omega), Ty.fieldsS_snoc _ _ _ _ (by simp; omega), List.append_assoc]
       congr 3
       · simp
       · simp [Ty.texts_map]
     have hal : ∀ d j, j + d = fds.length → ([123] ++ Ty.fieldsS ((fds.map Prod.fst).take j) ((Ty.texts (fds.map fun f => Ty.den ts f.2)).take j) : List UInt8).length ≤ ([123] ++ Ty.fieldsS ((fds.map Prod.fst).take fds.length) ((Ty.texts (fds.map fun f => Ty.den ts f.2)).take fds.length) : List UInt8).length := by
       intro d
       induction d with
       | zero => intro j h; rw [show j = fds.length by omega]; exact Nat.le_refl _
       | succ d ihd =>
         intro j h
         have h1 := ihd (j + 1) (by omega)
         rw [ha1 j (by omega), List.length_append] at h1
         omega
     have hfin : ([123] ++ Ty.fieldsS ((fds.map Prod.fst).take fds.length) ((Ty.texts (fds.map fun f => Ty.den ts f.2)).take fds.length) : List UInt8) = [123] ++ Ty.fieldsS (fds.map Prod.fst) (Ty.texts (fds.map fun f => Ty.den ts f.2)) := by
       rw [List.take_of_length_le (by simp), List.take_of_length_le (by omega)]
     rw [Ty.text, if_pos rfl, List.length_map] at hR htl
     refine tt_7 w1 g cap ts.length n of hg hcap hlen hn fds lst fv lv hA hfx hlx lx.1 (fun j => if h : j < fds.length then Ty.text (Ty.den ts fds[j].2) else []) (fun j => [123] ++ Ty.fieldsS ((fds.map Prod.fst).take j) ((Ty.texts (fds.map fun f => Ty.den ts f.2)).take j)) (fun j hj => ?_) rfl (fun j hj => ?_) (fun j hj => ?_) (fun w' hb => ?_)
     · rw [dif_pos hj]
       exact key _ (wx.fields fds[j] (List.getElem_mem _)) (HP j hj).1 (HP j hj).2
     · rw [dif_pos hj]; exact ha1 j hj
     · have h1 := hal (fds.length - j) j (by omega)
       rw [hfin] at h1
       simp only [List.length_append] at h1 htl ⊢
       omega
     · have := hR w' hb
       rw [← hfin] at this
       exact this
   · have hsz := Ty.cntL_in (l := [Ty.den ts of]) (List.mem_singleton.2 rfl)
     rw [if_pos (.inl rfl)] at hsh hcnt1 hR htl
     have ho : of < n := wx.of (.inl rfl)
     have hs1 : Ty.shortT (Ty.den ts of) := Ty.shortL_mem hsh.2.2.2 _ (List.mem_singleton.2 rfl)
     rw [Ty.text, if_neg (by decide), if_pos rfl] at hR htl
     simp only [Ty.texts, List.headD_cons] at hR htl
     refine tt_8 w1 g cap ts.length n of hg hcap hlen hn fds lst fv lv hA hfx hlx (Ty.text (Ty.den ts of)) (key of ho hs1 (by omega)) ?_ hR
     simp only [lzA, lzC, lzN] at htl
     omega
   · have hsz := Ty.cntL_in (l := [Ty.den ts of]) (List.mem_singleton.2 rfl)
     rw [if_pos (.inr rfl)] at hsh hcnt1 hR htl
     have ho : of < n := wx.of (.inr rfl)
     have hs1 : Ty.shortT (Ty.den ts of) := Ty.shortL_mem hsh.2.2.2 _ (List.mem_singleton.2 rfl)
     rw [Ty.text, if_neg (by decide), if_neg (by decide), if_pos rfl] at hR htl
     simp only [Ty.texts, List.headD_cons] at hR htl
     have hj2 := Ty.joinL_len [44, 32] (Ty.texts (lst.map (Ty.den ts)))
     have hx2 := txs_any w1 g cap ts.length hg hcap hlen lst lv hlx lx.2 (fun j => (lst.map fun i => Ty.kindOf (Ty.den ts i)).getD j 0) (fun j => (Ty.texts (lst.map (Ty.den ts))).getD j []) false ⟨#[44, 32]⟩ HK HT HTB (by
       rw [fTx_false _ _ _ hml]
       simp only [lzA, lzC, lzN] at htl
       show (Ty.joinL [44, 32] _).length ≤ _
       omega)
     rw [fTx_false _ _ _ hml] at hx2
     simp only [lzA, lzC, lzN] at htl
     exact tt_9 w1 g cap ts.length n of hg hcap hlen hn fds lst fv lv hA hfx hlx (Ty.joinL [44, 32] (Ty.texts (lst.map (Ty.den ts)))) (Ty.text (Ty.den ts of)) hx2 (key of ho hs1 (by omega)) (by omega) (by omega) hR
   · rw [Ty.text, if_neg (by decide), if_neg (by decide), if_neg (by decide), if_pos rfl] at hR htl
     have hx2 := txs_any w1 g cap ts.length hg hcap hlen lst lv hlx lx.2 (fun j => (lst.map fun i => Ty.kindOf (Ty.den ts i)).getD j 0) (fun j => (Ty.texts (lst.map (Ty.den ts))).getD j []) true ⟨#[32, 124, 32]⟩ HK HT HTB (by
       rw [fTx_true _ _ _ hml]
       show (Ty.joinL [32, 124, 32] _).length ≤ _
       have e : (lst.map fun i => Ty.kindOf (Ty.den ts i)) = (lst.map (Ty.den ts)).map Ty.kindOf := by simp
       rw [e]
       omega)
     rw [fTx_true _ _ _ hml] at hx2
     have e : (lst.map fun i => Ty.kindOf (Ty.den ts i)) = (lst.map (Ty.den ts)).map Ty.kindOf := by simp
     rw [e] at hx2
     exact tt_10 w1 g cap ts.length n of hg hcap hlen hn fds lst fv lv hA hfx hlx _ hx2 hR
end
section
open Go Go.RowKit
open Prt (Sat As blk pur exs star stars)
def FrB (wB : World) (Fr : As) : Prop := ∀ (w : World) (L : List As) (i : Nat), Sat wB w L → L[i]? = some Fr → Below wB.heap.size wB w
theorem FrB.old (wB : World) : FrB wB (Prt.oldA wB) := fun w L i h hi => by
 have h1 := h.at i hi
 have h2 : Sat wB w [Prt.oldA wB] := h1.pick [1]
 exact h2.isBelow
theorem FrB.stars {wB : World} {Fr : As} {M : List As} (h : FrB wB Fr) : FrB wB (stars (Fr :: M)) := fun w L i hs hi => by
 have h1 := hs.unpack hi
 refine h w _ (L.eraseIdx i).length h1 ?_
 rw [List.getElem?_append_right (Nat.le_refl _)]; simp
section
variable {w0 w : World} {Fr : As} {wb : Nat} {nv tv : Value} {main : Int} {ind : Nat} {out : List UInt8}
theorem str_blk {a : Prt.Hp} {b : Nat} (xs : List ByteArray) (hm : xs.length ≤ maxLen) (h : blk b (.cells (xs.map Value.string).toArray 9 (0, 0)) a) : strA (.slice (some ⟨b, 0, none⟩) xs.length xs.length) xs a :=
 Prt.row_of_blk h hm (by simp) (by simp)
theorem put_any (v : Value) (xs : List ByteArray) (ls : List (List UInt8)) (hls : xs = ls.map bs) (H : Sat w0 w [Fr, wrA wb nv tv main ind out, strA v xs]) (hn : xs.length ≤ 1000000) (hlen : out.length + ls.flatten.length ≤ 1000000000) {R : Ending → World → Prop}
   (hR : ∀ w', Sat w0 w' [Fr, wrA wb nv tv main ind (out ++ ls.flatten)] → R (.returned (.tuple #[])) w') :
   Calls Tryz.prog 67 #[.pointer (some ⟨wb, 0, none⟩), v] w R := by
 have HR := qh hR
 obtain ⟨a, cap, rfl⟩ := owns_slice (H.row 2 rfl)
 have hll : xs.length = ls.length := by rw [hls]; simp
 have HLS := qh hls
 have HLL := qh hll
 have HS := qh H
 have HLN := qh hlen
 clear hR H hls hll hlen
 go_enter Tryz.func67, Tryz.ntmps67
 go_wp2_with fail
 go_loopw [8] (fun i wr => ∃ k : Nat, k ≤ xs.length ∧ i = .int .i64 k ∧ Hid (Sat w0 wr [Fr, wrA wb nv tv main ind (out ++ (ls.take k).flatten), strA (.slice a xs.length cap) xs])) (fun i _ => xs.length - (intOf i).toNat)
 case atStart => exact ⟨0, by omega, rfl, by rw [List.take_zero, List.flatten_nil, List.append_nil]; exact HS.out⟩
 case round =>
   obtain ⟨k, hk, rfl, hS⟩ := hrel
   by_cases hlt : k < xs.length
   · obtain ⟨g, cap2, e, hg, d0⟩ := str_at (hS.out.row 2 rfl) k hlt
     cases e
     have hkl : k < ls.length := by rw [← HLL.out]; exact hlt
     have hx : xs[k] = bs ls[k] := by have := HLS.out; subst this; simp
     have hts : (ls.take (k + 1)).flatten = (ls.take k).flatten ++ ls[k] := by rw [List.take_succ_eq_append_getElem hkl, List.flatten_append, List.flatten_cons, List.flatten_nil, List.append_nil]
     have hle : (ls.take k).flatten.length + ls[k].length ≤ ls.flatten.length := by
       have h1 : ls.flatten = (ls.take (k + 1)).flatten ++ (ls.drop (k + 1)).flatten := by rw [← List.flatten_append, List.take_append_drop]
       rw [h1, hts]; simp
     have HX := qh hx
     have HTS := qh hts
     have HLE := qh hle
     generalize ls[k] = y at *
     generalize xs[k] = x at *
     have HAT := qh (hS.out.at 1 rfl)
     clear hx hts hle hkl
     go_wp2_with fail
     refine WriteString_any HAT.out x y HX.out (by have := HLN.out; have := HLE.out; rw [List.length_append]; omega) (fun w1 h1 => ?_)
     have h2 := h1.back1 (L := [Fr, wrA wb nv tv main ind (out ++ (ls.take k).flatten), strA (.slice (some ⟨g, 0, none⟩) xs.length cap) xs]) (i := 1) (by simp)
     have H2 := qh h2
     clear h1 h2
     go_wp2_with fail
     go_roundw
     case rel => exact ⟨k + 1, by omega, by go_num, by rw [HTS.out, ← List.append_assoc]; exact H2.out⟩
     case measure => simp [intOf]; omega
   · have e : k = xs.length := by omega
     subst e
     have h1 := hS.out
     rw [HLL.out, List.take_length] at h1
     have H1 := qh h1
     clear h1
     go_wp2_with fail
     go_end0
     exact HR.out _ (H1.out.pick [0, 1])
theorem put1 (H : Sat w0 w [Fr, wrA wb nv tv main ind out]) (s1 : ByteArray) (x1 : List UInt8) (h1 : s1 = bs x1) (hlen : out.length + x1.length ≤ 1000000000) (b : Nat) (hb : w.heap.size = b) {R : Ending → World → Prop}
   (hR : ∀ w', Sat w0 w' [Fr, wrA wb nv tv main ind (out ++ x1)] → R (.returned (.tuple #[])) w') :
   Calls Tryz.prog 67 #[.pointer (some ⟨wb, 0, none⟩), .slice (some ⟨b, 0, none⟩) 1 1] (w.alloc (.cells #[.string s1] 9)) R := by
 have h := (H.allocAt (.cells #[.string s1] 9) b hb.symm).ent (i := 2) rfl (Q := strA (.slice (some ⟨b, 0, none⟩) 1 1) [s1]) fun _ h => str_blk [s1] (by unfold maxLen; simp) h
 exact put_any _ [s1] [x1] (by rw [h1]; rfl) h (by simp) (by simpa using hlen) fun w' h' => hR w' (by simpa using h')
theorem put2 (H : Sat w0 w [Fr, wrA wb nv tv main ind out]) (s1 s2 : ByteArray) (x1 x2 : List UInt8) (h1 : s1 = bs x1) (h2 : s2 = bs x2) (hlen : out.length + (x1 ++ x2).length ≤ 1000000000) (b : Nat) (hb : w.heap.size = b) {R : Ending → World → Prop}
   (hR : ∀ w', Sat w0 w' [Fr, wrA wb nv tv main ind (out ++ (x1 ++ x2))] → R (.returned (.tuple #[])) w') :
   Calls Tryz.prog 67 #[.pointer (some ⟨wb, 0, none⟩), .slice (some ⟨b, 0, none⟩) 2 2] (w.alloc (.cells #[.string s1, .string s2] 9)) R := by
 have h := (H.allocAt (.cells #[.string s1, .string s2] 9) b hb.symm).ent (i := 2) rfl (Q := strA (.slice (some ⟨b, 0, none⟩) 2 2) [s1, s2]) fun _ h => str_blk [s1, s2] (by unfold maxLen; simp) h
 exact put_any _ [s1, s2] [x1, x2] (by rw [h1, h2]; rfl) h (by simp) (by simpa using hlen) fun w' h' => hR w' (by simpa using h')
theorem put3 (H : Sat w0 w [Fr, wrA wb nv tv main ind out]) (s1 s2 s3 : ByteArray) (x1 x2 x3 : List UInt8) (h1 : s1 = bs x1) (h2 : s2 = bs x2) (h3 : s3 = bs x3) (hlen : out.length + (x1 ++ (x2 ++ x3)).length ≤ 1000000000) (b : Nat) (hb : w.heap.size = b) {R : Ending → World → Prop}
   (hR : ∀ w', Sat w0 w' [Fr, wrA wb nv tv main ind (out ++ (x1 ++ (x2 ++ x3)))] → R (.returned (.tuple #[])) w') :
   Calls Tryz.prog 67 #[.pointer (some ⟨wb, 0, none⟩), .slice (some ⟨b, 0, none⟩) 3 3] (w.alloc (.cells #[.string s1, .string s2, .string s3] 9)) R := by
 have h := (H.allocAt (.cells #[.string s1, .string s2, .string s3] 9) b hb.symm).ent (i := 2) rfl (Q := strA (.slice (some ⟨b, 0, none⟩) 3 3) [s1, s2, s3]) fun _ h => str_blk [s1, s2, s3] (by unfold maxLen; simp) h
 exact put_any _ [s1, s2, s3] [x1, x2, x3] (by rw [h1, h2, h3]; rfl) h (by simp) (by simpa [Nat.add_assoc] using hlen) fun w' h' => hR w' (by simpa using h')
end
structure PB (wB : World) (nv tv : Value) (pg : Ty.Pg) : Prop where
 nd : ∃ rows, rows.map NdRow.t = pg.ns ∧ NRd wB nv rows
 ty : ∃ rows, rows.map TyRow.t = pg.ts ∧ TyRd wB tv rows
 ok : Ty.PgOk pg
theorem NdAt.below {w w' : World} {g n : Nat} {t : Ty.Nd} {lv : Value} (h : NdAt w g n t lv) (hb : Below w.heap.size w w') : NdAt w' g n t lv :=
 ⟨keepCell hb h.q0, keepCell hb h.q1, keepCell hb h.q2, keepCell hb h.q3, keepCell hb h.q4, keepCell hb h.q5, keepCell hb h.q6, keepCell hb h.q7, keepCell hb h.q8⟩
theorem PB.look {wB : World} {nv tv : Value} {pg : Ty.Pg} (h : PB wB nv tv pg) {n : Nat} {nd : Ty.Nd} (hn : pg.ns[n]? = some nd) :
   ∃ (g cap : Nat) (lv : Value), nv = .slice (some ⟨g, 0, none⟩) pg.ns.length cap ∧ n < pg.ns.length ∧ g < wB.heap.size ∧ pg.ns.length ≤ cap ∧ cap ≤ maxLen ∧ NdAt wB g n nd lv ∧ wB.ownsRow 0 3 1 lv nd.list.length (nd.list.map inCell) ∧ Ty.NdOk nd pg.ts ∧ pg.ns.length ≤ 1200 := by
 obtain ⟨rows, hr, hrd⟩ := h.nd
 have hl : n < pg.ns.length := by
   rcases Nat.lt_or_ge n pg.ns.length with hl | hl
   · exact hl
   · rw [List.getElem?_eq_none hl] at hn; cases hn
 obtain ⟨g, cap, lv, e, h1, h2, h3, h4, h5⟩ := hrd.look hr hl
 rw [List.getElem?_eq_getElem hl] at hn
 cases hn
 exact ⟨g, cap, lv, e, hl, h1, h2, h3, h4, h5, h.ok.ns _ (List.getElem_mem _), h.ok.nlen⟩
section
variable {wB w : World} {Fr : As} {wb : Nat} {nv tv : Value} {pg : Ty.Pg} {main : Int} {ind : Nat} {out : List UInt8}
theorem wnode_any (hP : PB wB nv tv pg) (hF : FrB wB Fr) (H : Sat wB w [Fr, wrA wb nv tv main ind out]) {n : Nat} {nd : Ty.Nd} (hn : pg.ns[n]? = some nd) {R : Ending → World → Prop}
   (hR : ∀ w' lv, wB.ownsRow 0 3 1 lv nd.list.length (nd.list.map inCell) → Below w.heap.size w w' → R (.returned (ndVal nd lv)) w') :
   Calls Tryz.prog 66 #[.pointer (some ⟨wb, 0, none⟩), .int .i64 (n : Nat)] w R := by
 have HR := qh hR
 obtain ⟨g, cap, lv, rfl, hnl, hg, h2, h3, hA, hl, _, h5⟩ := hP.look hn
 have hb := hF w _ 0 H rfl
 have hg2 : g < w.heap.size := Nat.lt_of_lt_of_le hg hb.size
 obtain ⟨q0, q1, q2, q3, q4, q5, q6, q7, q8⟩ := hA.below hb
 obtain ⟨p, v, hw⟩ := H.openWr
 have c2 := hw.cell 2 rfl 2 rfl
 have hwl := hw.lt 2 rfl
 have HL := qh hl
 obtain ⟨la, lc, rfl⟩ := owns_slice hl
 dsimp only at c2
 unfold maxLen at h3
 obtain ⟨kd, fa, fb, fc, fl, tx, fn, fty, ps⟩ := nd
 dsimp only at *
 clear hR H hP hF hb hw hA hn hl
 generalize pg.ns.length = N at *
 go_enter Tryz.func66, Tryz.ntmps66
 go_wp2_with fail
 refine bodyPost_ret ?_ rfl (HR.out _ _ HL.out ?_)
 · simp [results, Tryz.results66, go_sem, ndVal]
 · repeat' (first | exact Below.refl _ _ | apply Below.drew | apply Below.setCell | apply Below.alloc | (simp; done) | (simp; omega) | omega)
end
def lvlN (nd : Ty.Nd) : Nat := if nd.kind = 13 then 3 else if nd.kind ≠ 12 then 4 else Ty.signLv nd.text
theorem binds_any (w : World) (nd : Ty.Nd) (lv : Value) (hl : ∃ a n c, lv = .slice a n c) {R : Ending → World → Prop} (hR : ∀ w', Below w.heap.size w w' → R (.returned (.int .i64 (lvlN nd : Nat))) w') :
   Calls Tryz.prog 126 #[ndVal nd lv] w R := by
 have HR := qh hR
 obtain ⟨la, ln, lc, rfl⟩ := hl
 obtain ⟨kd, fa, fb, fc, fl, tx, fn, fty, ps⟩ := nd
 dsimp only [lvlN, ndVal] at HR ⊢
 clear hR
 by_cases h13 : kd = 13
 · subst h13
   rw [if_pos rfl] at HR
   go_enter Tryz.func126, Tryz.ntmps126
   go_wp2_with fail
   exact HR.out _ ((Below.refl _ _).alloc (Nat.le_refl _) _)
 · rw [if_neg h13] at HR
   have k13 : ((kd : Int) == 13) = false := beq_eq_false_iff_ne.2 (by omega)
   by_cases h12 : kd = 12
   · subst h12
     rw [if_neg (by simp)] at HR
     unfold Ty.signLv at HR
     have hc : (tx.toList == [42]) = true ∧ tx.data.toList = [42] ∨ (tx.toList == [42]) = false ∧ ((tx.toList == [43]) = true ∨ (tx.toList == [43]) = false ∧ (tx.toList == [45]) = true) ∧ (tx.data.toList ≠ [42] ∧ (tx.data.toList = [43] ∨ tx.data.toList = [45])) ∨
         ((tx.toList == [42]) = false ∧ (tx.toList == [43]) = false ∧ (tx.toList == [45]) = false) ∧ (tx.data.toList ≠ [42] ∧ ¬ (tx.data.toList = [43] ∨ tx.data.toList = [45])) := by
       rw [Lib.toList_data]
       by_cases h1 : tx.data.toList = [42]
       · left; simp [h1]
       · right
         by_cases h2 : tx.data.toList = [43]
         · left; simp [h2]
         · by_cases h3 : tx.data.toList = [45]
           · left; simp [h3]
           · right; simp [h1, h2, h3]
     clear h13
     rcases hc with ⟨k1, hv⟩ | ⟨k1, hk, hv1, hv2⟩ | ⟨⟨k1, k2, k3⟩, hv1, hv2⟩
     · rw [if_pos hv] at HR
       clear hv
       go_enter Tryz.func126, Tryz.ntmps126
       go_wp2_with fail
       exact HR.out _ ((Below.refl _ _).alloc (Nat.le_refl _) _)
     · rw [if_neg hv1, if_pos hv2] at HR
       clear hv1 hv2
       rcases hk with k2 | ⟨k2, k3⟩
       · go_enter Tryz.func126, Tryz.ntmps126
         go_wp2_with fail
         exact HR.out _ ((Below.refl _ _).alloc (Nat.le_refl _) _)
       · go_enter Tryz.func126, Tryz.ntmps126
         go_wp2_with fail
         exact HR.out _ ((Below.refl _ _).alloc (Nat.le_refl _) _)
     · rw [if_neg hv1, if_neg hv2] at HR
       clear hv1 hv2
       go_enter Tryz.func126, Tryz.ntmps126
       go_wp2_with fail
       exact HR.out _ ((Below.refl _ _).alloc (Nat.le_refl _) _)
   · rw [if_pos h12] at HR
     have k12 : ((kd : Int) != 12) = true := by simp; omega
     clear h13 h12
     go_enter Tryz.func126, Tryz.ntmps126
     go_wp2_with fail
     exact HR.out _ ((Below.refl _ _).alloc (Nat.le_refl _) _)
end
section
namespace Ty
theorem joinL_snoc (sep : List UInt8) : ∀ (l : List (List UInt8)) (x : List UInt8), joinL sep (l ++ [x]) = if l.length = 0 then x else joinL sep l ++ sep ++ x
 | [], x => by simp [joinL]
 | [a], x => by simp [joinL]
 | a :: b :: l, x => by
   have := joinL_snoc sep (b :: l) x
   rw [if_neg (by simp)] at this
   rw [if_neg (by simp)]
   simp only [List.cons_append, joinL] at this ⊢
   rw [this]; simp
end Ty
end
section
open Go Go.RowKit
open Prt (Sat As blk pur exs star stars)
open Ty (Tr)
def WtC (v : Value) (w : World) (n : Nat) (r : List UInt8) : Prop := ∀ w1, Below w.heap.size w w1 → ∀ R : Ending → World → Prop, (∀ w2, Below w1.heap.size w1 w2 → R (.returned (.string (bs r))) w2) → Calls Tryz.prog 50 #[v, .int .i64 (n : Nat)] w1 R
theorem WtC.below {v : Value} {w w1 : World} {n : Nat} {r : List UInt8} (h : WtC v w n r) (hb : Below w.heap.size w w1) : WtC v w1 n r :=
 fun _ h2 R hR => h _ (hb.trans (h2.mono hb.size)) R hR
end
section
open Go Go.RowKit
open Prt (Sat As blk pur exs star stars)
open Ty (Tr)
theorem joinL_step (sep : List UInt8) (l : List (List UInt8)) (j : Nat) (hj : j < l.length) : Ty.joinL sep (l.take (j + 1)) = (if j = 0 then Ty.joinL sep (l.take j) else Ty.joinL sep (l.take j) ++ sep) ++ l[j] := by
 rw [List.take_succ_eq_append_getElem hj, Ty.joinL_snoc, List.length_take]
 by_cases h : j = 0
 · subst h; simp [Ty.joinL]
 · rw [if_neg (by omega), if_neg h]
theorem joinL_mono (sep : List UInt8) (l : List (List UInt8)) : ∀ d j, j + d = l.length → (Ty.joinL sep (l.take j)).length ≤ (Ty.joinL sep l).length := by
 intro d
 induction d with
 | zero => intro j h; rw [List.take_of_length_le (by omega)]; exact Nat.le_refl _
 | succ d ih =>
   intro j h
   have h1 := ih (j + 1) (by omega)
   rw [joinL_step sep l j (by omega), List.length_append] at h1
   split at h1
   · omega
   · rw [List.length_append] at h1; omega
end
end Go.Proofs.YtdlbhiaceheffabGreatDoor
