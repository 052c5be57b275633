/- Walk of show.texts. Walks of show.TypeText, one for each kind. Walks of show.TypeText: functions, unions, words. show.TypeText: a type of a list, as a text. -/
import Derived.Test.YtdlbhiaceheffaaGreatDoorQUn
import Derived.Test.YtdlbhiaceheffaaGreatDoorQTrB
import Derived.Laws.Concat
namespace Go.Proofs.YtdlbhiaceheffaaGreatDoor
open Go Go.RowKit
open Prt (Sat As blk pur exs star stars)
open Ty (Tr)

/-- A text of bytes. -/
def bs (l : List UInt8) : ByteArray := ⟨l.toArray⟩
theorem bs_list (l : List UInt8) : (bs l).data.toList = l := by simp [bs]
theorem bs_of (x : ByteArray) : bs x.data.toList = x := by cases x; rfl
theorem bs_add (a b : List UInt8) : bs a ++ bs b = bs (a ++ b) := by
  apply ByteArray.ext; apply Array.ext'; simp [bs]
theorem bs_size (l : List UInt8) : (bs l).size = l.length := by show l.toArray.size = _; simp
theorem cat_run {a b : ByteArray} {x y z : List UInt8} (ha : a = bs x) (hb : b = bs y) (hz : x ++ y = z) (hs : z.length ≤ 1000000000) : ∀ w : World, (Op.stringOp .add a b).run Tryz.prog w = .ok (.string (bs z)) w := fun w => by
  have h1 : a.size + b.size = z.length := by rw [ha, hb, bs_size, bs_size, ← hz, List.length_append]
  rw [run_string_add_sum w a b (by omega), ha, hb, bs_add, hz]
theorem joinL_join (sep : List UInt8) : ∀ l : List (List UInt8), Lib.join l sep = Ty.joinL sep l
  | [] => rfl
  | [x] => by rw [Lib.join_one]; rfl
  | x :: y :: l => by
    rw [Lib.join_cons]
    have h := joinL_join sep (y :: l)
    rw [Lib.join_cons] at h
    rw [Ty.joinL, ← h]
    simp [Lib.joinTail]
/-- A call of TypeText that comes to a text, in whatever world that has more. -/
def TxtC (v : Value) (w : World) (n : Nat) (r : List UInt8) : Prop := ∀ w1, Below w.heap.size w w1 → ∀ R : Ending → World → Prop, (∀ w2, Below w1.heap.size w1 w2 → R (.returned (.string (bs r))) w2) → Calls Tryz.prog 45 #[v, .int .i64 (n : Nat)] w1 R
def fTx (un : Bool) (n : Nat) (kd : Nat → Nat) (tx : Nat → List UInt8) (i : Nat) : List UInt8 := if un then Ty.brk n i (kd i) (tx i) else tx i
theorem stRow_snoc {v : Value} {k : Nat} {F : Nat → List UInt8} {x : List UInt8} {a : Prt.Hp} (hx : x = F k) (h : Prt.row 9 1 v (k + 1) ((List.range k).map (fun i => Value.string (bs (F i))) ++ [.string (bs x)]) a) : Prt.row 9 1 v (k + 1) ((List.range (k + 1)).map (fun i => Value.string (bs (F i)))) a := by
  subst hx
  rw [List.range_succ, List.map_append]; exact h
set_option maxRecDepth 100000 in
set_option maxHeartbeats 4000000 in
theorem texts_any (w : World) (g cap L : Nat) (hg : g < w.heap.size) (_ : L ≤ cap) (_ : L ≤ 1000000) (lst : List Nat) (lv : Value) (hlst : w.ownsRow 0 3 1 lv lst.length (lst.map inCell)) (hl6 : lst.length ≤ 1000000) (kd : Nat → Nat) (tx : Nat → List UInt8) (un : Bool) (sep : ByteArray)
    (hk : ∀ j (hj : j < lst.length), lst[j] < L ∧ w.cell? ⟨g, lst[j] * 4, none⟩ = some (.int .i64 (kd j : Nat)))
    (ht : ∀ j (hj : j < lst.length), TxtC (.slice (some ⟨g, 0, none⟩) L cap) w lst[j] (tx j)) (hb : ∀ j, j < lst.length → (tx j).length ≤ 900000000)
    (hs : (Ty.joinL sep.data.toList ((List.range lst.length).map (fTx un lst.length kd tx))).length ≤ 1000000000) {R : Ending → World → Prop}
    (hR : ∀ w', Below w.heap.size w w' → R (.returned (.string (bs (Ty.joinL sep.data.toList ((List.range lst.length).map (fTx un lst.length kd tx)))))) w') :
    Calls Tryz.prog 89 #[.slice (some ⟨g, 0, none⟩) L cap, lv, .string sep, .bool un] w R := by
  have HR := Lib.hid hR
  have HK := Lib.hid hk
  have HT := Lib.hid ht
  have HBD := Lib.hid hb
  have HSZ := Lib.hid hs
  have HROW := Lib.hid hlst
  obtain ⟨la, lc, rfl⟩ := owns_slice hlst
  obtain ⟨j0, tj, uz0, uz1, uz2⟩ := info_parts infoStr
  have h1 := (Prt.Sat.old w).nil 9 1
  have H1 := Lib.hid h1
  clear hR hk ht hb hs hlst h1
  go_enter Tryz.func89, Tryz.ntmps89
  go_wp2_with fail
  go_loopw [9, 15] (fun v i wr => ∃ (k : Nat), i = .int .i64 k ∧ k ≤ lst.length ∧ Hid (Sat w wr [Prt.oldA w, Prt.row 9 1 v k ((List.range k).map fun i => Value.string (bs (fTx un lst.length kd tx i)))])) (fun _ i _ => lst.length - (intOf i).toNat)
  case atStart => exact ⟨0, rfl, by omega, H1.out⟩
  case round =>
    obtain ⟨k, rfl, hk, hS⟩ := hrel
    obtain ⟨oa, oc, rfl⟩ := owns_slice (hS.out.row 1 rfl)
    by_cases hlt : k < lst.length
    · obtain ⟨gl, capl, e, hgl, d0⟩ := ints_at (owns_below HROW.out hS.out.isBelow) k hlt
      cases e
      obtain ⟨hix, hkc⟩ := HK.out k hlt
      have HI := Lib.hid (HT.out k hlt wr hS.out.isBelow)
      have hbd := HBD.out k hlt
      generalize lst[k] = ix at *
      have HKC := Lib.hid hkc
      clear hkc
      have hF : fTx un lst.length kd tx k = if un = true ∧ (kd k = 10 ∨ kd k = 9 ∧ k + 1 < lst.length) then 40 :: (tx k ++ [41]) else tx k := by
        unfold fTx Ty.brk
        cases un <;> simp
      have HF := Lib.hid hF
      have c1 := cat_run (a := ⟨#[40]⟩) (b := bs (tx k)) (x := [40]) (y := tx k) (z := 40 :: tx k) rfl rfl rfl (by simp; omega)
      have c2 := cat_run (a := bs (40 :: tx k)) (b := ⟨#[41]⟩) (x := 40 :: tx k) (y := [41]) (z := 40 :: (tx k ++ [41])) rfl rfl (by simp) (by simp; omega)
      obtain ⟨fk, hfkk⟩ : ∃ fk, fTx un lst.length kd tx k = fk := ⟨_, rfl⟩
      rw [hfkk] at HF
      have HFKK := Lib.hid hfkk
      clear hF hfkk
      have hcase : (un = false ∧ fk = tx k) ∨ (un = true ∧ ((kd k : Int) == 10) = true ∧ fk = 40 :: (tx k ++ [41])) ∨ (un = true ∧ ((kd k : Int) == 10) = false ∧ ((kd k : Int) == 9) = false ∧ fk = tx k) ∨ (un = true ∧ ((kd k : Int) == 10) = false ∧ ((kd k : Int) == 9) = true ∧ k + 1 < lst.length ∧ fk = 40 :: (tx k ++ [41])) ∨ (un = true ∧ ((kd k : Int) == 10) = false ∧ ((kd k : Int) == 9) = true ∧ ¬ k + 1 < lst.length ∧ fk = tx k) := by
        have hf := HF.out
        cases un
        · left; exact ⟨rfl, by rw [hf]; simp⟩
        · right
          by_cases e10 : kd k = 10
          · left; exact ⟨rfl, by simp [e10], by rw [hf, if_pos ⟨rfl, .inl e10⟩]⟩
          · right
            by_cases e9 : kd k = 9
            · right
              by_cases e1 : k + 1 < lst.length
              · left; exact ⟨rfl, by simp [e9], by simp [e9], e1, by rw [hf, if_pos ⟨rfl, .inr ⟨e9, e1⟩⟩]⟩
              · right; exact ⟨rfl, by simp [e9], by simp [e9], e1, by rw [hf, if_neg (by omega)]⟩
            · left; exact ⟨rfl, by simp; omega, by simp; omega, by rw [hf, if_neg (by omega)]⟩
      have HCASE := Lib.hid hcase
      clear hcase
      go_wp2_with fail
      refine HI.out _ (fun w2 hb2 => ?_)
      have h2 := hS.out.below hb2
      have H2 := Lib.hid h2
      have q0 := keepCell h2.isBelow HKC.out
      have hg2 : g < w2.heap.size := Nat.lt_of_lt_of_le hg h2.isBelow.size
      clear hb2 h2 d0
      rcases HCASE.out with ⟨rfl, hfk⟩ | ⟨rfl, k1, hfk⟩ | ⟨rfl, k1, k2, hfk⟩ | ⟨rfl, k1, k2, k3, hfk⟩ | ⟨rfl, k1, k2, k3, hfk⟩
      · have HFK := Lib.hid hfk.symm
        clear hfk
        go_wp2_with (at_builtin; go_loud (refine wpList_append_lies _ rfl (.tmp 50) (.tmp 52) 22 rfl 0 9 j0 _ 1 16 Tryz.underlying22 tj uz0 uz1 uz2 rfl (by decide) (.slice oa k oc) k _ (by rfl) ((H2.out.row 1 rfl).alloc _) ⟨w2.heap.size, 0, none⟩ 1 1 [.string (bs (tx k))] (by rfl) (by rfl) (World.news_of_block (cs := #[.string (bs (tx k))]) (t := 9) (fr := (0, 0)) (heap_alloc_at' _ _ _ (by simp))) (by simp [Value.oneCell']) (by omega) (by unfold maxLen; omega) (by omega) (by simp) (w2.heap.size + 1) (by simp) ?_))
        intro g4 cap4 w4 hown4 hgrow4 hat4 hlt4
        have h8 := Prt.Sat.grow (m := k + 1) (H2.out.waste _) 1 rfl hgrow4 hown4 (by simpa using hat4)
        have h9 := h8.ent (i := 1) rfl (Q := Prt.row 9 1 (.slice (some ⟨g4, 0, none⟩) (k + 1) cap4) (k + 1) ((List.range (k + 1)).map fun i => Value.string (bs (fTx false lst.length kd tx i)))) (fun _ h => stRow_snoc (F := fTx false lst.length kd tx) (HFK.out.trans HFKK.out.symm) h)
        have H9 := Lib.hid h9
        clear h8 h9 hown4 hgrow4
        go_wp2_with fail
        go_roundw
        case rel => exact ⟨k + 1, by go_num, by omega, H9.out⟩
        case measure => simp [intOf]; omega
      · have HFK := Lib.hid hfk.symm
        clear hfk
        go_wp2_with (at_builtin; go_loud (refine wpList_append_lies _ rfl (.tmp 50) (.tmp 52) 22 rfl 0 9 j0 _ 1 16 Tryz.underlying22 tj uz0 uz1 uz2 rfl (by decide) (.slice oa k oc) k _ (by rfl) ((H2.out.row 1 rfl).alloc _) ⟨w2.heap.size, 0, none⟩ 1 1 [.string (bs (40 :: (tx k ++ [41])))] (by rfl) (by rfl) (World.news_of_block (cs := #[.string (bs (40 :: (tx k ++ [41])))]) (t := 9) (fr := (0, 0)) (heap_alloc_at' _ _ _ (by simp))) (by simp [Value.oneCell']) (by omega) (by unfold maxLen; omega) (by omega) (by simp) (w2.heap.size + 1) (by simp) ?_))
        intro g4 cap4 w4 hown4 hgrow4 hat4 hlt4
        have h8 := Prt.Sat.grow (m := k + 1) (H2.out.waste _) 1 rfl hgrow4 hown4 (by simpa using hat4)
        have h9 := h8.ent (i := 1) rfl (Q := Prt.row 9 1 (.slice (some ⟨g4, 0, none⟩) (k + 1) cap4) (k + 1) ((List.range (k + 1)).map fun i => Value.string (bs (fTx true lst.length kd tx i)))) (fun _ h => stRow_snoc (F := fTx true lst.length kd tx) (HFK.out.trans HFKK.out.symm) h)
        have H9 := Lib.hid h9
        clear h8 h9 hown4 hgrow4
        go_wp2_with fail
        go_roundw
        case rel => exact ⟨k + 1, by go_num, by omega, H9.out⟩
        case measure => simp [intOf]; omega
      · have HFK := Lib.hid hfk.symm
        clear hfk
        go_wp2_with (at_builtin; go_loud (refine wpList_append_lies _ rfl (.tmp 50) (.tmp 52) 22 rfl 0 9 j0 _ 1 16 Tryz.underlying22 tj uz0 uz1 uz2 rfl (by decide) (.slice oa k oc) k _ (by rfl) ((H2.out.row 1 rfl).alloc _) ⟨w2.heap.size, 0, none⟩ 1 1 [.string (bs (tx k))] (by rfl) (by rfl) (World.news_of_block (cs := #[.string (bs (tx k))]) (t := 9) (fr := (0, 0)) (heap_alloc_at' _ _ _ (by simp))) (by simp [Value.oneCell']) (by omega) (by unfold maxLen; omega) (by omega) (by simp) (w2.heap.size + 1) (by simp) ?_))
        intro g4 cap4 w4 hown4 hgrow4 hat4 hlt4
        have h8 := Prt.Sat.grow (m := k + 1) (H2.out.waste _) 1 rfl hgrow4 hown4 (by simpa using hat4)
        have h9 := h8.ent (i := 1) rfl (Q := Prt.row 9 1 (.slice (some ⟨g4, 0, none⟩) (k + 1) cap4) (k + 1) ((List.range (k + 1)).map fun i => Value.string (bs (fTx true lst.length kd tx i)))) (fun _ h => stRow_snoc (F := fTx true lst.length kd tx) (HFK.out.trans HFKK.out.symm) h)
        have H9 := Lib.hid h9
        clear h8 h9 hown4 hgrow4
        go_wp2_with fail
        go_roundw
        case rel => exact ⟨k + 1, by go_num, by omega, H9.out⟩
        case measure => simp [intOf]; omega
      · have HFK := Lib.hid hfk.symm
        clear hfk
        go_wp2_with (at_builtin; go_loud (refine wpList_append_lies _ rfl (.tmp 50) (.tmp 52) 22 rfl 0 9 j0 _ 1 16 Tryz.underlying22 tj uz0 uz1 uz2 rfl (by decide) (.slice oa k oc) k _ (by rfl) ((H2.out.row 1 rfl).alloc _) ⟨w2.heap.size, 0, none⟩ 1 1 [.string (bs (40 :: (tx k ++ [41])))] (by rfl) (by rfl) (World.news_of_block (cs := #[.string (bs (40 :: (tx k ++ [41])))]) (t := 9) (fr := (0, 0)) (heap_alloc_at' _ _ _ (by simp))) (by simp [Value.oneCell']) (by omega) (by unfold maxLen; omega) (by omega) (by simp) (w2.heap.size + 1) (by simp) ?_))
        intro g4 cap4 w4 hown4 hgrow4 hat4 hlt4
        have h8 := Prt.Sat.grow (m := k + 1) (H2.out.waste _) 1 rfl hgrow4 hown4 (by simpa using hat4)
        have h9 := h8.ent (i := 1) rfl (Q := Prt.row 9 1 (.slice (some ⟨g4, 0, none⟩) (k + 1) cap4) (k + 1) ((List.range (k + 1)).map fun i => Value.string (bs (fTx true lst.length kd tx i)))) (fun _ h => stRow_snoc (F := fTx true lst.length kd tx) (HFK.out.trans HFKK.out.symm) h)
        have H9 := Lib.hid h9
        clear h8 h9 hown4 hgrow4
        go_wp2_with fail
        go_roundw
        case rel => exact ⟨k + 1, by go_num, by omega, H9.out⟩
        case measure => simp [intOf]; omega
      · have HFK := Lib.hid hfk.symm
        clear hfk
        have k4 : ¬ k < lst.length - 1 := by omega
        go_wp2_with (at_builtin; go_loud (refine wpList_append_lies _ rfl (.tmp 50) (.tmp 52) 22 rfl 0 9 j0 _ 1 16 Tryz.underlying22 tj uz0 uz1 uz2 rfl (by decide) (.slice oa k oc) k _ (by rfl) ((H2.out.row 1 rfl).alloc _) ⟨w2.heap.size, 0, none⟩ 1 1 [.string (bs (tx k))] (by rfl) (by rfl) (World.news_of_block (cs := #[.string (bs (tx k))]) (t := 9) (fr := (0, 0)) (heap_alloc_at' _ _ _ (by simp))) (by simp [Value.oneCell']) (by omega) (by unfold maxLen; omega) (by omega) (by simp) (w2.heap.size + 1) (by simp) ?_))
        intro g4 cap4 w4 hown4 hgrow4 hat4 hlt4
        have h8 := Prt.Sat.grow (m := k + 1) (H2.out.waste _) 1 rfl hgrow4 hown4 (by simpa using hat4)
        have h9 := h8.ent (i := 1) rfl (Q := Prt.row 9 1 (.slice (some ⟨g4, 0, none⟩) (k + 1) cap4) (k + 1) ((List.range (k + 1)).map fun i => Value.string (bs (fTx true lst.length kd tx i)))) (fun _ h => stRow_snoc (F := fTx true lst.length kd tx) (HFK.out.trans HFKK.out.symm) h)
        have H9 := Lib.hid h9
        clear h8 h9 hown4 hgrow4
        go_wp2_with fail
        go_roundw
        case rel => exact ⟨k + 1, by go_num, by omega, H9.out⟩
        case measure => simp [intOf]; omega
    · have hke : k = lst.length := by omega
      subst hke
      have HJ : Hid (∀ R : Ending → World → Prop, (∀ w', Below wr.heap.size wr w' → R (.returned (.string (bs (Ty.joinL sep.data.toList ((List.range lst.length).map (fTx un lst.length kd tx)))))) w') → Calls Tryz.prog 122 #[.slice oa lst.length oc, .string sep] wr R) := by
        intro R2 hR2
        by_cases h0 : lst.length = 0
        · rw [h0]
          refine (Tryz.strings_Join_none oa oc sep wr).mono ?_
          rintro e w' ⟨rfl, rfl⟩
          have := hR2 w' (Below.refl _ _)
          rw [h0] at this
          exact this
        · have hrow := hS.out.row 1 rfl
          obtain ⟨g3, c3, e3, hc3, hg3⟩ := hrow.form (by omega)
          have hcl := World.ownsRow.cells (g := g3) hrow (by rw [e3]; rfl)
          have hcap : lst.length ≤ c3 := by
            rcases hrow.2 with ⟨_, h⟩ | ⟨g', cap', cur, e4, _, _, h, _⟩
            · omega
            · rw [e3] at e4; cases e4; exact h
          cases e3
          have hx := Tryz.strings_Join g3 0 oc ((List.range lst.length).map fun i => bs (fTx un lst.length kd tx i)) sep wr (fun j x hj => ?_) hg3 (by simp; omega) (by simpa using hcap) ?_
          · rw [List.length_map, List.length_range] at hx
            refine hx.mono ?_
            rintro e w' ⟨rfl, hb⟩
            have := hR2 w' hb
            rw [joinL_join, List.map_map]
            have e5 : ((fun x : ByteArray => x.data.toList) ∘ fun i => bs (fTx un lst.length kd tx i)) = fTx un lst.length kd tx := by
              funext i; exact bs_list _
            rw [e5]; exact this
          · have := hcl j (.string x) (by rw [List.getElem?_map] at hj ⊢; cases h : (List.range lst.length)[j]? with
              | none => rw [h] at hj; cases hj
              | some a => rw [h] at hj; cases hj; rfl)
            rwa [Addr.add_lit] at this
          · rw [joinL_join, List.map_map]
            have e5 : ((fun x : ByteArray => x.data.toList) ∘ fun i => bs (fTx un lst.length kd tx i)) = fTx un lst.length kd tx := by
              funext i; exact bs_list _
            rw [e5]
            have := HSZ.out
            omega
      go_wp2_with fail
      refine HJ.out _ (fun w2 hb2 => ?_)
      have HB2 := Lib.hid (hS.out.isBelow.trans (hb2.mono hS.out.isBelow.size))
      clear hb2
      go_wp2_with fail
      exact HR.out _ HB2.out
end Go.Proofs.YtdlbhiaceheffaaGreatDoor

namespace Go.Proofs.YtdlbhiaceheffaaGreatDoor
open Go Go.RowKit
open Prt (Sat As blk pur exs star stars)
open Ty (Tr)

theorem cat_ex {a b : ByteArray} {x y z : List UInt8} (ha : a = bs x) (hb : b = bs y) (hz : x ++ y = z) (hs : z.length ≤ 1000000000) : ∃ s : ByteArray, s = bs z ∧ ∀ w : World, (Op.stringOp .add a b).run Tryz.prog w = .ok (.string s) w := ⟨_, rfl, cat_run ha hb hz hs⟩

set_option maxRecDepth 100000 in
set_option maxHeartbeats 4000000 in
theorem tt_7 (w : World) (g cap L n of : Nat) (_ : g < w.heap.size) (_ : L ≤ cap) (_ : L ≤ 1000000) (hn : n < L) (fds : List (ByteArray × Nat)) (lst : List Nat) (fv lv : Value) (hA : RowAt w g n ⟨⟨7, fds, lst, of⟩, fv, lv⟩)
    (hfx : w.ownsRow 0 82 2 fv fds.length (fds.flatMap fdCells)) (hlx : w.ownsRow 0 3 1 lv lst.length (lst.map inCell)) (hfl : fds.length ≤ 1000000) (tx : Nat → List UInt8) (A : Nat → List UInt8)
    (ht : ∀ j (hj : j < fds.length), TxtC (.slice (some ⟨g, 0, none⟩) L cap) w fds[j].2 (tx j)) (a0 : A 0 = [123]) (a1 : ∀ j (hj : j < fds.length), A (j + 1) = A j ++ Ty.fieldS fds[j].1 (tx j)) (a2 : ∀ j, j ≤ fds.length → (A j).length ≤ 900000000) {R : Ending → World → Prop}
    (hR : ∀ w', Below w.heap.size w w' → R (.returned (.string (bs (A fds.length ++ (if fds.length > 0 then [32] else []) ++ [125])))) w') :
    Calls Tryz.prog 45 #[.slice (some ⟨g, 0, none⟩) L cap, .int .i64 (n : Nat)] w R := by
  have HR := Lib.hid hR
  have HT := Lib.hid ht
  have HA1 := Lib.hid a1
  have HA2 := Lib.hid a2
  have HFX := Lib.hid hfx
  obtain ⟨q0, q1, q2, q3⟩ := hA
  obtain ⟨fa, fc, rfl⟩ := owns_slice hfx
  obtain ⟨la, lc, rfl⟩ := owns_slice hlx
  dsimp only at q0 q1 q2 q3
  have h1 := (Prt.Sat.old w).allocAt (.cells #[.int .i64 7, .slice fa fds.length fc, .slice la lst.length lc, .int .i64 of] 77) w.heap.size
  have HB1 := Lib.hid h1.isBelow
  have HA0 : Hid (bs [123] = bs (A 0)) := by rw [a0]; rfl
  clear hR ht a0 a1 a2 hfx hlx h1
  go_enter Tryz.func45, Tryz.ntmps45
  go_wp2_with fail
  go_loopw [6, 20] (fun s i wr => ∃ k : Nat, s = .string (bs (A k)) ∧ i = .int .i64 k ∧ k ≤ fds.length ∧ Hid (Sat w wr [Prt.oldA w, blk w.heap.size (.cells #[.int .i64 7, .slice fa fds.length fc, .slice la lst.length lc, .int .i64 of] 77 (0, 0))])) (fun _ i _ => fds.length - (intOf i).toNat)
  case atStart => exact ⟨0, congrArg Value.string HA0.out, rfl, by omega, (Prt.Sat.old w).allocAt _ w.heap.size⟩
  case round =>
    obtain ⟨k, rfl, rfl, hk, hS⟩ := hrel
    by_cases hlt : k < fds.length
    · obtain ⟨gf, capf, e, hgf, d0, d1⟩ := fds_at (owns_below HFX.out hS.out.isBelow) k hlt
      cases e
      have h7 := hS.out.allocAt (.cells #[.string fds[k].1, .int .i64 (fds[k].2 : Nat)] 82) wr.heap.size
      have HI := Lib.hid (HT.out k hlt _ h7.drew.isBelow)
      have hsu := HA1.out k hlt
      have hsz := HA2.out (k + 1) (by omega)
      rw [hsu] at hsz
      have HSU := Lib.hid hsu
      generalize fds[k] = fd at *
      obtain ⟨nm, ix⟩ := fd
      dsimp only at d0 d1 HI hsu hsz HSU h7
      have hsz1 := hsz
      rw [List.length_append] at hsz
      unfold Ty.fieldS at hsz
      simp only [List.length_append, List.length_cons, List.length_nil] at hsz
      have HNM := Lib.hid hsz
      obtain ⟨s1, e1, c1⟩ := cat_ex (a := ⟨#[32]⟩) (b := nm) (x := [32]) (y := nm.data.toList) (z := 32 :: nm.data.toList) rfl (bs_of nm).symm rfl (by rw [List.length_cons]; omega)
      obtain ⟨s2, e2, c2⟩ := cat_ex (a := s1) (b := ⟨#[58, 32]⟩) (y := [58, 32]) (z := 32 :: (nm.data.toList ++ [58, 32])) e1 rfl rfl (by simp only [List.length_append, List.length_cons, List.length_nil]; omega)
      obtain ⟨s3, e3, c3⟩ := cat_ex (a := s2) (b := bs (tx k)) (z := 32 :: (nm.data.toList ++ [58, 32] ++ tx k)) e2 rfl rfl (by simp only [List.length_append, List.length_cons, List.length_nil]; omega)
      obtain ⟨s4, e4, c4⟩ := cat_ex (a := s3) (b := ⟨#[59]⟩) (y := [59]) (z := Ty.fieldS nm (tx k)) e3 rfl rfl (by unfold Ty.fieldS; simp only [List.length_append, List.length_cons, List.length_nil]; omega)
      obtain ⟨s5, e5, c5⟩ := cat_ex (a := bs (A k)) (b := s4) (z := A k ++ Ty.fieldS nm (tx k)) rfl e4 rfl (by omega)
      rw [← hsu] at e5
      have E5 := Lib.hid e5.symm
      clear e1 e2 e3 e4 e5
      have b0 := h7.cell 2 rfl 0 rfl
      have b1 := h7.cell 2 rfl 1 rfl
      have H7 := Lib.hid h7
      clear hsu hsz hsz1 h7
      go_wp2_with fail
      go_region_held3 (fun w' => w'.cell? ⟨wr.heap.size, 0, none⟩ = some (.string nm) ∧ w'.cell? ⟨wr.heap.size, 1, none⟩ = some (.int .i64 (ix : Nat))) (go_keep)
        (first | (go_at_call 45; refine HI.out _ (fun w2 hb2 => ?_); have h2 := H7.out.drew.below hb2; have z0 := h2.cell 2 rfl 0 rfl; have z1 := h2.cell 2 rfl 1 rfl; have H2 := Lib.hid (h2.pick [0, 1]); clear h2 hb2))
      all_goals
        go_wp2_with fail
        go_roundw
        case rel => exact ⟨k + 1, congrArg Value.string E5.out.symm, by go_num, by omega, H2.out⟩
        case measure => simp [intOf]; omega
    · have hke : k = fds.length := by omega
      subst hke
      have x1 := hS.out.cell 1 rfl 1 rfl
      have hsz := HA2.out _ (Nat.le_refl _)
      by_cases h0 : 0 < fds.length
      · have k0 : decide ((0 : Int) < fds.length) = true := decide_eq_true (by omega)
        have k1 : decide (0 < fds.length) = true := decide_eq_true h0
        rw [if_pos h0] at HR
        obtain ⟨s6, e6, c6⟩ := cat_ex (a := bs (A fds.length)) (b := ⟨#[32]⟩) (y := [32]) (z := A fds.length ++ [32]) rfl rfl rfl (by simp; omega)
        obtain ⟨s7, e7, c7⟩ := cat_ex (a := s6) (b := ⟨#[125]⟩) (y := [125]) (z := A fds.length ++ [32] ++ [125]) e6 rfl rfl (by simp; omega)
        rw [← e7] at HR
        clear hsz h0 e6 e7
        go_wp2_with fail
        exact HR.out _ hS.out.isBelow
      · have k0 : decide ((0 : Int) < fds.length) = false := decide_eq_false (by omega)
        have k1 : decide (0 < fds.length) = false := decide_eq_false h0
        rw [if_neg h0, List.append_nil] at HR
        obtain ⟨s7, e7, c7⟩ := cat_ex (a := bs (A fds.length)) (b := ⟨#[125]⟩) (y := [125]) (z := A fds.length ++ [125]) rfl rfl rfl (by simp; omega)
        rw [← e7] at HR
        clear hsz h0 e7
        go_wp2_with fail
        exact HR.out _ hS.out.isBelow

set_option maxRecDepth 100000 in
set_option maxHeartbeats 4000000 in
theorem tt_8 (w : World) (g cap L n of : Nat) (_ : g < w.heap.size) (_ : L ≤ cap) (_ : L ≤ 1000000) (hn : n < L) (fds : List (ByteArray × Nat)) (lst : List Nat) (fv lv : Value) (hA : RowAt w g n ⟨⟨8, fds, lst, of⟩, fv, lv⟩)
    (hfx : w.ownsRow 0 82 2 fv fds.length (fds.flatMap fdCells)) (hlx : w.ownsRow 0 3 1 lv lst.length (lst.map inCell))
    (tx : List UInt8) (ht : TxtC (.slice (some ⟨g, 0, none⟩) L cap) w of tx) (hs : tx.length ≤ 900000000) {R : Ending → World → Prop}
    (hR : ∀ w', Below w.heap.size w w' → R (.returned (.string (bs ([91] ++ tx ++ [93])))) w') :
    Calls Tryz.prog 45 #[.slice (some ⟨g, 0, none⟩) L cap, .int .i64 (n : Nat)] w R := by
  have HR := Lib.hid hR
  obtain ⟨q0, q1, q2, q3⟩ := hA
  obtain ⟨fa, fc, rfl⟩ := owns_slice hfx
  obtain ⟨la, lc, rfl⟩ := owns_slice hlx
  dsimp only at q0 q1 q2 q3
  have h1 := (Prt.Sat.old w).allocAt (.cells #[.int .i64 8, .slice fa fds.length fc, .slice la lst.length lc, .int .i64 of] 77) w.heap.size
  have HI := Lib.hid (ht _ h1.isBelow)
  have HB := Lib.hid h1.isBelow
  obtain ⟨s1, e1, c1⟩ := cat_ex (a := ⟨#[91]⟩) (b := bs tx) (x := [91]) (z := [91] ++ tx) rfl rfl rfl (by simp; omega)
  obtain ⟨s2, e2, c2⟩ := cat_ex (a := s1) (b := ⟨#[93]⟩) (y := [93]) (z := [91] ++ tx ++ [93]) e1 rfl rfl (by simp; omega)
  rw [← e2] at HR
  clear hR ht h1 e1 e2 hfx hlx
  go_enter Tryz.func45, Tryz.ntmps45
  go_wp2_with fail
  refine HI.out _ (fun w2 hb2 => ?_)
  have HB2 := Lib.hid (HB.out.trans (hb2.mono HB.out.size))
  clear hb2
  go_wp2_with fail
  exact HR.out _ HB2.out
end Go.Proofs.YtdlbhiaceheffaaGreatDoor

namespace Go.Proofs.YtdlbhiaceheffaaGreatDoor
open Go Go.RowKit
open Prt (Sat As blk pur exs star stars)
open Ty (Tr)

theorem TxtC.below {v : Value} {w w1 : World} {n : Nat} {r : List UInt8} (h : TxtC v w n r) (hb : Below w.heap.size w w1) : TxtC v w1 n r :=
  fun _ h2 R hR => h _ (hb.trans (h2.mono hb.size)) R hR
/-- A call of texts that comes to a text. -/
def TxsC (v lv : Value) (w : World) (sep : ByteArray) (un : Bool) (r : List UInt8) : Prop := ∀ w1, Below w.heap.size w w1 → ∀ R : Ending → World → Prop, (∀ w2, Below w1.heap.size w1 w2 → R (.returned (.string (bs r))) w2) → Calls Tryz.prog 89 #[v, lv, .string sep, .bool un] w1 R
theorem txs_any (w : World) (g cap L : Nat) (hg : g < w.heap.size) (hc : L ≤ cap) (hL : L ≤ 1000000) (lst : List Nat) (lv : Value) (hlst : w.ownsRow 0 3 1 lv lst.length (lst.map inCell)) (hl6 : lst.length ≤ 1000000) (kd : Nat → Nat) (tx : Nat → List UInt8) (un : Bool) (sep : ByteArray)
    (hk : ∀ j (hj : j < lst.length), lst[j] < L ∧ w.cell? ⟨g, lst[j] * 4, none⟩ = some (.int .i64 (kd j : Nat)))
    (ht : ∀ j (hj : j < lst.length), TxtC (.slice (some ⟨g, 0, none⟩) L cap) w lst[j] (tx j)) (hb : ∀ j, j < lst.length → (tx j).length ≤ 900000000)
    (hs : (Ty.joinL sep.data.toList ((List.range lst.length).map (fTx un lst.length kd tx))).length ≤ 1000000000) :
    TxsC (.slice (some ⟨g, 0, none⟩) L cap) lv w sep un (Ty.joinL sep.data.toList ((List.range lst.length).map (fTx un lst.length kd tx))) := fun w1 h1 _ hR =>
  texts_any w1 g cap L (Nat.lt_of_lt_of_le hg h1.size) hc hL lst lv (owns_below hlst h1) hl6 kd tx un sep (fun j hj => ⟨(hk j hj).1, keepCell h1 (hk j hj).2⟩) (fun j hj => (ht j hj).below h1) hb hs hR

set_option maxRecDepth 100000 in
set_option maxHeartbeats 4000000 in
theorem tt_10 (w : World) (g cap L n of : Nat) (_ : g < w.heap.size) (_ : L ≤ cap) (_ : L ≤ 1000000) (hn : n < L) (fds : List (ByteArray × Nat)) (lst : List Nat) (fv lv : Value) (hA : RowAt w g n ⟨⟨10, fds, lst, of⟩, fv, lv⟩)
    (hfx : w.ownsRow 0 82 2 fv fds.length (fds.flatMap fdCells)) (hlx : w.ownsRow 0 3 1 lv lst.length (lst.map inCell))
    (tx : List UInt8) (ht : TxsC (.slice (some ⟨g, 0, none⟩) L cap) lv w ⟨#[32, 124, 32]⟩ true tx) {R : Ending → World → Prop}
    (hR : ∀ w', Below w.heap.size w w' → R (.returned (.string (bs tx))) w') :
    Calls Tryz.prog 45 #[.slice (some ⟨g, 0, none⟩) L cap, .int .i64 (n : Nat)] w R := by
  have HR := Lib.hid hR
  obtain ⟨q0, q1, q2, q3⟩ := hA
  obtain ⟨fa, fc, rfl⟩ := owns_slice hfx
  obtain ⟨la, lc, rfl⟩ := owns_slice hlx
  dsimp only at q0 q1 q2 q3
  have h1 := (Prt.Sat.old w).allocAt (.cells #[.int .i64 10, .slice fa fds.length fc, .slice la lst.length lc, .int .i64 of] 77) w.heap.size
  have HI := Lib.hid (ht _ h1.isBelow)
  have HB := Lib.hid h1.isBelow
  clear hR ht h1 hfx hlx
  go_enter Tryz.func45, Tryz.ntmps45
  go_wp2_with fail
  refine HI.out _ (fun w2 hb2 => ?_)
  have HB2 := Lib.hid (HB.out.trans (hb2.mono HB.out.size))
  clear hb2
  go_wp2_with fail
  exact HR.out _ HB2.out

set_option maxRecDepth 100000 in
set_option maxHeartbeats 4000000 in
theorem tt_9 (w : World) (g cap L n of : Nat) (_ : g < w.heap.size) (_ : L ≤ cap) (_ : L ≤ 1000000) (hn : n < L) (fds : List (ByteArray × Nat)) (lst : List Nat) (fv lv : Value) (hA : RowAt w g n ⟨⟨9, fds, lst, of⟩, fv, lv⟩)
    (hfx : w.ownsRow 0 82 2 fv fds.length (fds.flatMap fdCells)) (hlx : w.ownsRow 0 3 1 lv lst.length (lst.map inCell))
    (tx ty : List UInt8) (ht : TxsC (.slice (some ⟨g, 0, none⟩) L cap) lv w ⟨#[44, 32]⟩ false tx) (hu : TxtC (.slice (some ⟨g, 0, none⟩) L cap) w of ty) (hs : tx.length ≤ 400000000) (hs2 : ty.length ≤ 400000000) {R : Ending → World → Prop}
    (hR : ∀ w', Below w.heap.size w w' → R (.returned (.string (bs ([40] ++ tx ++ [41, 32, 61, 62, 32] ++ ty)))) w') :
    Calls Tryz.prog 45 #[.slice (some ⟨g, 0, none⟩) L cap, .int .i64 (n : Nat)] w R := by
  have HR := Lib.hid hR
  obtain ⟨q0, q1, q2, q3⟩ := hA
  obtain ⟨fa, fc, rfl⟩ := owns_slice hfx
  obtain ⟨la, lc, rfl⟩ := owns_slice hlx
  dsimp only at q0 q1 q2 q3
  have h1 := (Prt.Sat.old w).allocAt (.cells #[.int .i64 9, .slice fa fds.length fc, .slice la lst.length lc, .int .i64 of] 77) w.heap.size
  have HZ : Hid (∀ R : Ending → World → Prop, (∀ w', w'.cell? ⟨w.heap.size, 2, none⟩ = some (.slice la lst.length lc) → w'.cell? ⟨w.heap.size, 3, none⟩ = some (.int .i64 (of : Nat)) → Below w.heap.size w w' → R (.returned (.string (bs tx))) w') → Calls Tryz.prog 89 #[.slice (some ⟨g, 0, none⟩) L cap, .slice la lst.length lc, .string ⟨#[44, 32]⟩, .bool false] (w.alloc (.cells #[.int .i64 9, .slice fa fds.length fc, .slice la lst.length lc, .int .i64 of] 77)).drew R) := fun R h => by
    refine ht _ h1.drew.isBelow _ (fun w2 hb2 => ?_)
    have h2 := h1.drew.below hb2
    exact h w2 (h2.cell 1 rfl 2 rfl) (h2.cell 1 rfl 3 rfl) h2.isBelow
  have HU := Lib.hid hu
  have z0 := h1.cell 1 rfl 2 rfl
  have z1 := h1.cell 1 rfl 3 rfl
  obtain ⟨s1, e1, c1⟩ := cat_ex (a := ⟨#[40]⟩) (b := bs tx) (x := [40]) (z := [40] ++ tx) rfl rfl rfl (by simp; omega)
  obtain ⟨s2, e2, c2⟩ := cat_ex (a := s1) (b := ⟨#[41, 32, 61, 62, 32]⟩) (y := [41, 32, 61, 62, 32]) (z := [40] ++ tx ++ [41, 32, 61, 62, 32]) e1 rfl rfl (by simp; omega)
  obtain ⟨s3, e3, c3⟩ := cat_ex (a := s2) (b := bs ty) (z := [40] ++ tx ++ [41, 32, 61, 62, 32] ++ ty) e2 rfl rfl (by simp; omega)
  rw [← e3] at HR
  clear hR ht hu h1 e1 e2 e3 hfx hlx
  go_enter Tryz.func45, Tryz.ntmps45
  go_wp2_with fail
  go_region_held3 (fun w' => w'.cell? ⟨w.heap.size, 2, none⟩ = some (.slice la lst.length lc) ∧ w'.cell? ⟨w.heap.size, 3, none⟩ = some (.int .i64 (of : Nat))) (go_keep)
    (first | (go_at_call 89; refine HZ.out _ (fun w2 s0 s1 hb2 => ?_); have HB2 := Lib.hid hb2; clear hb2) | (go_at_call 45; refine HU.out _ HB2.out _ (fun w3 hb3 => ?_); have HB3 := Lib.hid (HB2.out.trans (hb3.mono HB2.out.size)); have s0 := keepCell hb3 s0; have s1 := keepCell hb3 s1; clear hb3))
  all_goals
    go_wp2_with fail
    exact HR.out _ HB3.out

set_option maxRecDepth 100000 in
set_option maxHeartbeats 4000000 in
theorem tt_w1 (w : World) (g cap L n of : Nat) (_ : g < w.heap.size) (_ : L ≤ cap) (_ : L ≤ 1000000) (hn : n < L) (fds : List (ByteArray × Nat)) (lst : List Nat) (fv lv : Value) (hA : RowAt w g n ⟨⟨1, fds, lst, of⟩, fv, lv⟩)
    (hfx : w.ownsRow 0 82 2 fv fds.length (fds.flatMap fdCells)) (hlx : w.ownsRow 0 3 1 lv lst.length (lst.map inCell)) {R : Ending → World → Prop}
    (hR : ∀ w', Below w.heap.size w w' → R (.returned (.string ⟨#[110, 117, 109]⟩)) w') :
    Calls Tryz.prog 45 #[.slice (some ⟨g, 0, none⟩) L cap, .int .i64 (n : Nat)] w R := by
  have HR := Lib.hid hR
  obtain ⟨q0, q1, q2, q3⟩ := hA
  obtain ⟨fa, fc, rfl⟩ := owns_slice hfx
  obtain ⟨la, lc, rfl⟩ := owns_slice hlx
  dsimp only at q0 q1 q2 q3
  clear hR hfx hlx
  go_enter Tryz.func45, Tryz.ntmps45
  go_wp2_with fail
  refine HR.out _ ?_
  repeat' (first | exact Below.refl _ _ | apply Below.drew | apply Below.setCell | apply Below.alloc | (simp; done) | (simp; omega) | omega)
set_option maxRecDepth 100000 in
set_option maxHeartbeats 4000000 in
theorem tt_w2 (w : World) (g cap L n of : Nat) (_ : g < w.heap.size) (_ : L ≤ cap) (_ : L ≤ 1000000) (hn : n < L) (fds : List (ByteArray × Nat)) (lst : List Nat) (fv lv : Value) (hA : RowAt w g n ⟨⟨2, fds, lst, of⟩, fv, lv⟩)
    (hfx : w.ownsRow 0 82 2 fv fds.length (fds.flatMap fdCells)) (hlx : w.ownsRow 0 3 1 lv lst.length (lst.map inCell)) {R : Ending → World → Prop}
    (hR : ∀ w', Below w.heap.size w w' → R (.returned (.string ⟨#[98, 111, 111, 108]⟩)) w') :
    Calls Tryz.prog 45 #[.slice (some ⟨g, 0, none⟩) L cap, .int .i64 (n : Nat)] w R := by
  have HR := Lib.hid hR
  obtain ⟨q0, q1, q2, q3⟩ := hA
  obtain ⟨fa, fc, rfl⟩ := owns_slice hfx
  obtain ⟨la, lc, rfl⟩ := owns_slice hlx
  dsimp only at q0 q1 q2 q3
  clear hR hfx hlx
  go_enter Tryz.func45, Tryz.ntmps45
  go_wp2_with fail
  refine HR.out _ ?_
  repeat' (first | exact Below.refl _ _ | apply Below.drew | apply Below.setCell | apply Below.alloc | (simp; done) | (simp; omega) | omega)
set_option maxRecDepth 100000 in
set_option maxHeartbeats 4000000 in
theorem tt_w3 (w : World) (g cap L n of : Nat) (_ : g < w.heap.size) (_ : L ≤ cap) (_ : L ≤ 1000000) (hn : n < L) (fds : List (ByteArray × Nat)) (lst : List Nat) (fv lv : Value) (hA : RowAt w g n ⟨⟨3, fds, lst, of⟩, fv, lv⟩)
    (hfx : w.ownsRow 0 82 2 fv fds.length (fds.flatMap fdCells)) (hlx : w.ownsRow 0 3 1 lv lst.length (lst.map inCell)) {R : Ending → World → Prop}
    (hR : ∀ w', Below w.heap.size w w' → R (.returned (.string ⟨#[116, 101, 120, 116]⟩)) w') :
    Calls Tryz.prog 45 #[.slice (some ⟨g, 0, none⟩) L cap, .int .i64 (n : Nat)] w R := by
  have HR := Lib.hid hR
  obtain ⟨q0, q1, q2, q3⟩ := hA
  obtain ⟨fa, fc, rfl⟩ := owns_slice hfx
  obtain ⟨la, lc, rfl⟩ := owns_slice hlx
  dsimp only at q0 q1 q2 q3
  clear hR hfx hlx
  go_enter Tryz.func45, Tryz.ntmps45
  go_wp2_with fail
  refine HR.out _ ?_
  repeat' (first | exact Below.refl _ _ | apply Below.drew | apply Below.setCell | apply Below.alloc | (simp; done) | (simp; omega) | omega)
set_option maxRecDepth 100000 in
set_option maxHeartbeats 4000000 in
theorem tt_w4 (w : World) (g cap L n of : Nat) (_ : g < w.heap.size) (_ : L ≤ cap) (_ : L ≤ 1000000) (hn : n < L) (fds : List (ByteArray × Nat)) (lst : List Nat) (fv lv : Value) (hA : RowAt w g n ⟨⟨4, fds, lst, of⟩, fv, lv⟩)
    (hfx : w.ownsRow 0 82 2 fv fds.length (fds.flatMap fdCells)) (hlx : w.ownsRow 0 3 1 lv lst.length (lst.map inCell)) {R : Ending → World → Prop}
    (hR : ∀ w', Below w.heap.size w w' → R (.returned (.string ⟨#[110, 117, 108, 108]⟩)) w') :
    Calls Tryz.prog 45 #[.slice (some ⟨g, 0, none⟩) L cap, .int .i64 (n : Nat)] w R := by
  have HR := Lib.hid hR
  obtain ⟨q0, q1, q2, q3⟩ := hA
  obtain ⟨fa, fc, rfl⟩ := owns_slice hfx
  obtain ⟨la, lc, rfl⟩ := owns_slice hlx
  dsimp only at q0 q1 q2 q3
  clear hR hfx hlx
  go_enter Tryz.func45, Tryz.ntmps45
  go_wp2_with fail
  refine HR.out _ ?_
  repeat' (first | exact Below.refl _ _ | apply Below.drew | apply Below.setCell | apply Below.alloc | (simp; done) | (simp; omega) | omega)
set_option maxRecDepth 100000 in
set_option maxHeartbeats 4000000 in
theorem tt_w5 (w : World) (g cap L n of : Nat) (_ : g < w.heap.size) (_ : L ≤ cap) (_ : L ≤ 1000000) (hn : n < L) (fds : List (ByteArray × Nat)) (lst : List Nat) (fv lv : Value) (hA : RowAt w g n ⟨⟨5, fds, lst, of⟩, fv, lv⟩)
    (hfx : w.ownsRow 0 82 2 fv fds.length (fds.flatMap fdCells)) (hlx : w.ownsRow 0 3 1 lv lst.length (lst.map inCell)) {R : Ending → World → Prop}
    (hR : ∀ w', Below w.heap.size w w' → R (.returned (.string ⟨#[97, 110, 121]⟩)) w') :
    Calls Tryz.prog 45 #[.slice (some ⟨g, 0, none⟩) L cap, .int .i64 (n : Nat)] w R := by
  have HR := Lib.hid hR
  obtain ⟨q0, q1, q2, q3⟩ := hA
  obtain ⟨fa, fc, rfl⟩ := owns_slice hfx
  obtain ⟨la, lc, rfl⟩ := owns_slice hlx
  dsimp only at q0 q1 q2 q3
  clear hR hfx hlx
  go_enter Tryz.func45, Tryz.ntmps45
  go_wp2_with fail
  refine HR.out _ ?_
  repeat' (first | exact Below.refl _ _ | apply Below.drew | apply Below.setCell | apply Below.alloc | (simp; done) | (simp; omega) | omega)
set_option maxRecDepth 100000 in
set_option maxHeartbeats 4000000 in
theorem tt_w6 (w : World) (g cap L n of : Nat) (_ : g < w.heap.size) (_ : L ≤ cap) (_ : L ≤ 1000000) (hn : n < L) (fds : List (ByteArray × Nat)) (lst : List Nat) (fv lv : Value) (hA : RowAt w g n ⟨⟨6, fds, lst, of⟩, fv, lv⟩)
    (hfx : w.ownsRow 0 82 2 fv fds.length (fds.flatMap fdCells)) (hlx : w.ownsRow 0 3 1 lv lst.length (lst.map inCell)) {R : Ending → World → Prop}
    (hR : ∀ w', Below w.heap.size w w' → R (.returned (.string ⟨#[117, 110, 107, 110, 111, 119, 110]⟩)) w') :
    Calls Tryz.prog 45 #[.slice (some ⟨g, 0, none⟩) L cap, .int .i64 (n : Nat)] w R := by
  have HR := Lib.hid hR
  obtain ⟨q0, q1, q2, q3⟩ := hA
  obtain ⟨fa, fc, rfl⟩ := owns_slice hfx
  obtain ⟨la, lc, rfl⟩ := owns_slice hlx
  dsimp only at q0 q1 q2 q3
  clear hR hfx hlx
  go_enter Tryz.func45, Tryz.ntmps45
  go_wp2_with fail
  refine HR.out _ ?_
  repeat' (first | exact Below.refl _ _ | apply Below.drew | apply Below.setCell | apply Below.alloc | (simp; done) | (simp; omega) | omega)
end Go.Proofs.YtdlbhiaceheffaaGreatDoor

namespace Go.Proofs.YtdlbhiaceheffaaGreatDoor
open Go Go.RowKit
open Prt (Sat As blk pur exs star stars)
open Ty (Tr)

theorem Ty.cntL_in {l : List Tr} {t : Tr} (h : t ∈ l) : Ty.cnt t ≤ Ty.cntL l := by
  induction l with
  | nil => simp at h
  | cons a l ih =>
    rw [Ty.cntL]
    rcases List.mem_cons.1 h with rfl | h
    · omega
    · have := ih h; omega
theorem Ty.sumLen_in {l : List (List UInt8)} {t : List UInt8} (h : t ∈ l) : t.length ≤ Ty.sumLen l := by
  induction l with
  | nil => simp at h
  | cons a l ih =>
    simp only [Ty.sumLen, List.map_cons, List.foldr_cons]
    rcases List.mem_cons.1 h with rfl | h
    · omega
    · have := ih h; unfold Ty.sumLen at this; omega
theorem getD_lt {α : Type} {l : List α} {d : α} {j : Nat} (h : j < l.length) : l.getD j d = l[j] := by simp [List.getD, List.getElem?_eq_getElem h]
theorem fTx_false (lst : List Nat) (kd : Nat → Nat) (ts : List (List UInt8)) (h : lst.length = ts.length) : (List.range lst.length).map (fTx false lst.length kd fun j => ts.getD j []) = ts := by
  apply List.ext_getElem
  · simp [h]
  · intro i h1 h2
    simp only [List.getElem_map, List.getElem_range, fTx]
    exact getD_lt h2
theorem fTx_true (lst : List Nat) (ks : List Nat) (ts : List (List UInt8)) (h : lst.length = ts.length) : (List.range lst.length).map (fTx true lst.length (fun j => ks.getD j 0) fun j => ts.getD j []) = Ty.brks ks ts := by
  unfold Ty.brks
  rw [h]; rfl
set_option maxRecDepth 100000 in
theorem TypeText_all (w : World) (v : Value) (rows : List TyRow) (ts : List Ty.Ty) (hts : rows.map TyRow.t = ts) (hw : Ty.Wf ts) (hlen : ts.length ≤ 1000000) (hrd : TyRd w v rows) : ∀ (N n : Nat), n < N → n < ts.length → Ty.shortT (Ty.den ts n) → Ty.cnt (Ty.den ts n) ≤ 1000000 → TxtC v w n (Ty.text (Ty.den ts n)) := by
  intro N
  induction N with
  | zero => intro n h; omega
  | succ N ih =>
    intro n hN hn hsh hcnt w1 hw1 R hR
    have hlook := fun (i : Nat) (hi : i < ts.length) => (hrd.below hw1).look hts hi
    obtain ⟨g, cap, x, rfl, hg, hcap, hcm, hx, hA, hfx, hlx⟩ := hlook n hn
    have wx := hw n _ hx
    have da := Ty.den_eq hw hx
    have hok := Ty.den_ok hw _ n (Nat.lt_succ_self _) hn
    have htl := Ty.text_len _ hok hsh
    obtain ⟨⟨kd, fds, lst, of⟩, fv, lv⟩ := x
    dsimp only at hfx hlx wx da
    rw [da] at hsh hcnt htl hR hok
    have lx := wx.lens
    have kx := wx.kind
    dsimp only at lx kx
    have key : ∀ i, i < n → Ty.shortT (Ty.den ts i) → Ty.cnt (Ty.den ts i) ≤ 1000000 → TxtC (.slice (some ⟨g, 0, none⟩) ts.length cap) w1 i (Ty.text (Ty.den ts i)) := fun i hi h1 h2 => (ih i (by omega) (by omega) h1 h2).below hw1
    replace htl := Nat.le_trans htl (Nat.mul_le_mul_left 40 hcnt)
    rw [Ty.shortT] at hsh
    have hcnt1 := hcnt
    rw [Ty.cnt] at hcnt1
    rw [Ty.okT] at hok
    obtain ⟨_, _, _, _, _, _, _, okp, okl, oko⟩ := hok
    have HP : ∀ j (hj : j < fds.length), Ty.shortT (Ty.den ts fds[j].2) ∧ Ty.cnt (Ty.den ts fds[j].2) ≤ 1000000 := fun j hj => by
      have hm : Ty.den ts fds[j].2 ∈ fds.map fun f => Ty.den ts f.2 := List.mem_map.2 ⟨fds[j], List.getElem_mem _, rfl⟩
      exact ⟨Ty.shortL_mem hsh.2.1 _ hm, by have := Ty.cntL_in hm; omega⟩
    have HL : ∀ j (hj : j < lst.length), Ty.shortT (Ty.den ts lst[j]) ∧ Ty.cnt (Ty.den ts lst[j]) ≤ 1000000 := fun j hj => by
      have hm : Ty.den ts lst[j] ∈ lst.map (Ty.den ts) := List.mem_map.2 ⟨lst[j], List.getElem_mem _, rfl⟩
      exact ⟨Ty.shortL_mem hsh.2.2.1 _ hm, by have := Ty.cntL_in hm; omega⟩
    have HK : ∀ j (hj : j < lst.length), lst[j] < ts.length ∧ w1.cell? ⟨g, lst[j] * 4, none⟩ = some (.int .i64 (((lst.map fun i => Ty.kindOf (Ty.den ts i)).getD j 0 : Nat))) := fun j hj => by
      have hl : lst[j] < ts.length := by have := wx.list lst[j] (List.getElem_mem _); omega
      obtain ⟨g2, cap2, y, e, _, _, _, hy, hB, _, _⟩ := hlook _ hl
      cases e
      refine ⟨hl, ?_⟩
      rw [hB.q0, getD_lt (by simpa using hj), List.getElem_map, Ty.den_eq hw hy]; rfl
    have HT : ∀ j (hj : j < lst.length), TxtC (.slice (some ⟨g, 0, none⟩) ts.length cap) w1 lst[j] ((Ty.texts (lst.map (Ty.den ts))).getD j []) := fun j hj => by
      have e : (Ty.texts (lst.map (Ty.den ts))).getD j [] = Ty.text (Ty.den ts lst[j]) := by
        rw [Ty.texts_map, getD_lt (by simpa using hj), List.getElem_map, List.getElem_map]
      rw [e]
      exact key _ (wx.list lst[j] (List.getElem_mem _)) (HL j hj).1 (HL j hj).2
    have HTB : ∀ j, j < lst.length → ((Ty.texts (lst.map (Ty.den ts))).getD j []).length ≤ 900000000 := fun j hj => by
      have e : (Ty.texts (lst.map (Ty.den ts))).getD j [] = Ty.text (Ty.den ts lst[j]) := by
        rw [Ty.texts_map, getD_lt (by simpa using hj), List.getElem_map, List.getElem_map]
      rw [e]
      have hl : lst[j] < ts.length := by have := wx.list lst[j] (List.getElem_mem _); omega
      have := Ty.text_len _ (Ty.den_ok hw _ lst[j] (Nat.lt_succ_self _) hl) (HL j hj).1
      have := (HL j hj).2
      omega
    have hml : lst.length = (Ty.texts (lst.map (Ty.den ts))).length := by rw [Ty.texts_map]; simp
    have hk : kd = 1 ∨ kd = 2 ∨ kd = 3 ∨ kd = 4 ∨ kd = 5 ∨ kd = 6 ∨ kd = 7 ∨ kd = 8 ∨ kd = 9 ∨ kd = 10 := by omega
    rcases hk with rfl | rfl | rfl | rfl | rfl | rfl | rfl | rfl | rfl | rfl
    · rw [Ty.text] at hR
      exact tt_w1 w1 g cap ts.length n of hg hcap hlen hn fds lst fv lv hA hfx hlx (fun w' hb => hR w' hb)
    · rw [Ty.text] at hR
      exact tt_w2 w1 g cap ts.length n of hg hcap hlen hn fds lst fv lv hA hfx hlx (fun w' hb => hR w' hb)
    · rw [Ty.text] at hR
      exact tt_w3 w1 g cap ts.length n of hg hcap hlen hn fds lst fv lv hA hfx hlx (fun w' hb => hR w' hb)
    · rw [Ty.text] at hR
      exact tt_w4 w1 g cap ts.length n of hg hcap hlen hn fds lst fv lv hA hfx hlx (fun w' hb => hR w' hb)
    · rw [Ty.text] at hR
      exact tt_w5 w1 g cap ts.length n of hg hcap hlen hn fds lst fv lv hA hfx hlx (fun w' hb => hR w' hb)
    · rw [Ty.text] at hR
      exact tt_w6 w1 g cap ts.length n of hg hcap hlen hn fds lst fv lv hA hfx hlx (fun w' hb => hR w' hb)
    · have hpl : (Ty.texts (fds.map fun f => Ty.den ts f.2)).length = fds.length := by rw [Ty.texts_map]; simp
      have ha1 : ∀ j (hj : j < fds.length), ([123] ++ Ty.fieldsS ((fds.map Prod.fst).take (j + 1)) ((Ty.texts (fds.map fun f => Ty.den ts f.2)).take (j + 1)) : List UInt8) = ([123] ++ Ty.fieldsS ((fds.map Prod.fst).take j) ((Ty.texts (fds.map fun f => Ty.den ts f.2)).take j)) ++ Ty.fieldS fds[j].1 (Ty.text (Ty.den ts fds[j].2)) := fun j hj => by
        rw [List.take_succ_eq_append_getElem (by simpa using hj), List.take_succ_eq_append_getElem (by omega), Ty.fieldsS_snoc _ _ _ _ (by simp; omega), List.append_assoc]
        congr 3
        · simp
        · simp [Ty.texts_map]
      have hal : ∀ d j, j + d = fds.length → ([123] ++ Ty.fieldsS ((fds.map Prod.fst).take j) ((Ty.texts (fds.map fun f => Ty.den ts f.2)).take j) : List UInt8).length ≤ ([123] ++ Ty.fieldsS ((fds.map Prod.fst).take fds.length) ((Ty.texts (fds.map fun f => Ty.den ts f.2)).take fds.length) : List UInt8).length := by
        intro d
        induction d with
        | zero => intro j h; rw [show j = fds.length by omega]; exact Nat.le_refl _
        | succ d ihd =>
          intro j h
          have h1 := ihd (j + 1) (by omega)
          rw [ha1 j (by omega), List.length_append] at h1
          omega
      have hfin : ([123] ++ Ty.fieldsS ((fds.map Prod.fst).take fds.length) ((Ty.texts (fds.map fun f => Ty.den ts f.2)).take fds.length) : List UInt8) = [123] ++ Ty.fieldsS (fds.map Prod.fst) (Ty.texts (fds.map fun f => Ty.den ts f.2)) := by
        rw [List.take_of_length_le (by simp), List.take_of_length_le (by omega)]
      rw [Ty.text, if_pos rfl, List.length_map] at hR htl
      refine tt_7 w1 g cap ts.length n of hg hcap hlen hn fds lst fv lv hA hfx hlx lx.1 (fun j => if h : j < fds.length then Ty.text (Ty.den ts fds[j].2) else []) (fun j => [123] ++ Ty.fieldsS ((fds.map Prod.fst).take j) ((Ty.texts (fds.map fun f => Ty.den ts f.2)).take j)) (fun j hj => ?_) rfl (fun j hj => ?_) (fun j hj => ?_) (fun w' hb => ?_)
      · rw [dif_pos hj]
        exact key _ (wx.fields fds[j] (List.getElem_mem _)) (HP j hj).1 (HP j hj).2
      · rw [dif_pos hj]; exact ha1 j hj
      · have h1 := hal (fds.length - j) j (by omega)
        rw [hfin] at h1
        simp only [List.length_append] at h1 htl ⊢
        omega
      · have := hR w' hb
        rw [← hfin] at this
        exact this
    · have hsz := Ty.cntL_in (l := [Ty.den ts of]) (List.mem_singleton.2 rfl)
      rw [if_pos (.inl rfl)] at hsh hcnt1 hR htl
      have ho : of < n := wx.of (.inl rfl)
      have hs1 : Ty.shortT (Ty.den ts of) := Ty.shortL_mem hsh.2.2.2 _ (List.mem_singleton.2 rfl)
      rw [Ty.text, if_neg (by decide), if_pos rfl] at hR htl
      simp only [Ty.texts, List.headD_cons] at hR htl
      refine tt_8 w1 g cap ts.length n of hg hcap hlen hn fds lst fv lv hA hfx hlx (Ty.text (Ty.den ts of)) (key of ho hs1 (by omega)) ?_ hR
      simp only [List.length_append, List.length_cons, List.length_nil] at htl
      omega
    · have hsz := Ty.cntL_in (l := [Ty.den ts of]) (List.mem_singleton.2 rfl)
      rw [if_pos (.inr rfl)] at hsh hcnt1 hR htl
      have ho : of < n := wx.of (.inr rfl)
      have hs1 : Ty.shortT (Ty.den ts of) := Ty.shortL_mem hsh.2.2.2 _ (List.mem_singleton.2 rfl)
      rw [Ty.text, if_neg (by decide), if_neg (by decide), if_pos rfl] at hR htl
      simp only [Ty.texts, List.headD_cons] at hR htl
      have hj2 := Ty.joinL_len [44, 32] (Ty.texts (lst.map (Ty.den ts)))
      have hx2 := txs_any w1 g cap ts.length hg hcap hlen lst lv hlx lx.2 (fun j => (lst.map fun i => Ty.kindOf (Ty.den ts i)).getD j 0) (fun j => (Ty.texts (lst.map (Ty.den ts))).getD j []) false ⟨#[44, 32]⟩ HK HT HTB (by
        rw [fTx_false _ _ _ hml]
        simp only [List.length_append, List.length_cons, List.length_nil] at htl
        show (Ty.joinL [44, 32] _).length ≤ _
        omega)
      rw [fTx_false _ _ _ hml] at hx2
      simp only [List.length_append, List.length_cons, List.length_nil] at htl
      exact tt_9 w1 g cap ts.length n of hg hcap hlen hn fds lst fv lv hA hfx hlx (Ty.joinL [44, 32] (Ty.texts (lst.map (Ty.den ts)))) (Ty.text (Ty.den ts of)) hx2 (key of ho hs1 (by omega)) (by omega) (by omega) hR
    · rw [Ty.text, if_neg (by decide), if_neg (by decide), if_neg (by decide), if_pos rfl] at hR htl
      have hx2 := txs_any w1 g cap ts.length hg hcap hlen lst lv hlx lx.2 (fun j => (lst.map fun i => Ty.kindOf (Ty.den ts i)).getD j 0) (fun j => (Ty.texts (lst.map (Ty.den ts))).getD j []) true ⟨#[32, 124, 32]⟩ HK HT HTB (by
        rw [fTx_true _ _ _ hml]
        show (Ty.joinL [32, 124, 32] _).length ≤ _
        have e : (lst.map fun i => Ty.kindOf (Ty.den ts i)) = (lst.map (Ty.den ts)).map Ty.kindOf := by simp
        rw [e]
        omega)
      rw [fTx_true _ _ _ hml] at hx2
      have e : (lst.map fun i => Ty.kindOf (Ty.den ts i)) = (lst.map (Ty.den ts)).map Ty.kindOf := by simp
      rw [e] at hx2
      exact tt_10 w1 g cap ts.length n of hg hcap hlen hn fds lst fv lv hA hfx hlx _ hx2 hR
end Go.Proofs.YtdlbhiaceheffaaGreatDoor
