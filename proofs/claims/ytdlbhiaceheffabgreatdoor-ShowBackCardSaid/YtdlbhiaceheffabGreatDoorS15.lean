/- Walk of show.texts. Walks of strings.Builder's copyCheck and WriteString, as part of show.writer. Walks of show.TypeText, one for each kind. -/
import Derived.Laws.Concat
import Derived.Test.YtdlbhiaceheffabGreatDoorS14
set_option linter.all false
set_option maxRecDepth 100000
set_option maxHeartbeats 4000000
namespace Go.Proofs.YtdlbhiaceheffabGreatDoor
section
open Go Go.RowKit
open Prt (Sat As blk pur exs star stars)
open Ty (Tr)
def bs (l : List UInt8) : ByteArray := ⟨l.toArray⟩
theorem bs_list (l : List UInt8) : (bs l).data.toList = l := by simp [bs]
theorem bs_of (x : ByteArray) : bs x.data.toList = x := by cases x; rfl
theorem bs_add (a b : List UInt8) : bs a ++ bs b = bs (a ++ b) := by
 apply ByteArray.ext; apply Array.ext'; simp [bs]
theorem bs_size (l : List UInt8) : (bs l).size = l.length := by show l.toArray.size = _; simp
theorem cat_run {a b : ByteArray} {x y z : List UInt8} (ha : a = bs x) (hb : b = bs y) (hz : x ++ y = z) (hs : z.length ≤ 1000000000) : ∀ w : World, (Op.stringOp .add a b).run Tryz.prog w = .ok (.string (bs z)) w := fun w => by
 have h1 : a.size + b.size = z.length := by rw [ha, hb, bs_size, bs_size, ← hz, List.length_append]
 rw [run_string_add_sum w a b (by omega), ha, hb, bs_add, hz]
theorem joinL_join (sep : List UInt8) : ∀ l : List (List UInt8), Lib.join l sep = Ty.joinL sep l
 | [] => rfl
 | [x] => by rw [Lib.join_one]; rfl
 | x :: y :: l => by
   rw [Lib.join_cons]
   have h := joinL_join sep (y :: l)
   rw [Lib.join_cons] at h
   rw [Ty.joinL, ← h]
   simp [Lib.joinTail]
def TxtC (v : Value) (w : World) (n : Nat) (r : List UInt8) : Prop := ∀ w1, Below w.heap.size w w1 → ∀ R : Ending → World → Prop, (∀ w2, Below w1.heap.size w1 w2 → R (.returned (.string (bs r))) w2) → Calls Tryz.prog 64 #[v, .int .i64 (n : Nat)] w1 R
def fTx (un : Bool) (n : Nat) (kd : Nat → Nat) (tx : Nat → List UInt8) (i : Nat) : List UInt8 := if un then Ty.brk n i (kd i) (tx i) else tx i
theorem stRow_snoc {v : Value} {k : Nat} {F : Nat → List UInt8} {x : List UInt8} {a : Prt.Hp} (hx : x = F k) (h : Prt.row 9 1 v (k + 1) ((List.range k).map (fun i => Value.string (bs (F i))) ++ [.string (bs x)]) a) : Prt.row 9 1 v (k + 1) ((List.range (k + 1)).map (fun i => Value.string (bs (F i)))) a := by
 subst hx
 rw [List.range_succ, List.map_append]; exact h
theorem texts_any (w : World) (g cap L : Nat) (hg : g < w.heap.size) (_ : L ≤ cap) (_ : L ≤ 1000000) (lst : List Nat) (lv : Value) (hlst : w.ownsRow 0 3 1 lv lst.length (lst.map inCell)) (hl6 : lst.length ≤ 1000000) (kd : Nat → Nat) (tx : Nat → List UInt8) (un : Bool) (sep : ByteArray)
   (hk : ∀ j (hj : j < lst.length), lst[j] < L ∧ w.cell? ⟨g, lst[j] * 4, none⟩ = some (.int .i64 (kd j : Nat)))
   (ht : ∀ j (hj : j < lst.length), TxtC (.slice (some ⟨g, 0, none⟩) L cap) w lst[j] (tx j)) (hb : ∀ j, j < lst.length → (tx j).length ≤ 900000000)
   (hs : (Ty.joinL sep.data.toList ((List.range lst.length).map (fTx un lst.length kd tx))).length ≤ 1000000000) {R : Ending → World → Prop}
   (hR : ∀ w', Below w.heap.size w w' → R (.returned (.string (bs (Ty.joinL sep.data.toList ((List.range lst.length).map (fTx un lst.length kd tx)))))) w') :
   Calls Tryz.prog 118 #[.slice (some ⟨g, 0, none⟩) L cap, lv, .string sep, .bool un] w R := by
 have HR := qh hR
 have HK := qh hk
 have HT := qh ht
 have HBD := qh hb
 have HSZ := qh hs
 have HROW := qh hlst
 obtain ⟨la, lc, rfl⟩ := owns_slice hlst
 obtain ⟨j0, tj, uz0, uz1, uz2⟩ := info_parts infoStr
 have h1 := (Prt.Sat.old w).nil 9 1
 have H1 := qh h1
 clear hR hk ht hb hs hlst h1
 go_enter Tryz.func118, Tryz.ntmps118
 go_wp2_with fail
 go_loopw [9, 15] (fun v i wr => ∃ (k : Nat), i = .int .i64 k ∧ k ≤ lst.length ∧ Hid (Sat w wr [Prt.oldA w, Prt.row 9 1 v k ((List.range k).map fun i => Value.string (bs (fTx un lst.length kd tx i)))])) (fun _ i _ => lst.length - (intOf i).toNat)
 case atStart => exact ⟨0, rfl, by omega, H1.out⟩
 case round =>
   obtain ⟨k, rfl, hk, hS⟩ := hrel
   obtain ⟨oa, oc, rfl⟩ := owns_slice (hS.out.row 1 rfl)
   by_cases hlt : k < lst.length
   · obtain ⟨gl, capl, e, hgl, d0⟩ := ints_at (owns_below HROW.out hS.out.isBelow) k hlt
     cases e
     obtain ⟨hix, hkc⟩ := HK.out k hlt
     have HI := qh (HT.out k hlt wr hS.out.isBelow)
     have hbd := HBD.out k hlt
     generalize lst[k] = ix at *
     have HKC := qh hkc
     clear hkc
     have hF : fTx un lst.length kd tx k = if un = true ∧ (kd k = 10 ∨ kd k = 9 ∧ k + 1 < lst.length) then 40 :: (tx k ++ [41]) else tx k := by
       unfold fTx Ty.brk
       cases un <;> simp
     have HF := qh hF
     have c1 := cat_run (a := ⟨#[40]⟩) (b := bs (tx k)) (x := [40]) (y := tx k) (z := 40 :: tx k) rfl rfl rfl (by simp; omega)
     have c2 := cat_run (a := bs (40 :: tx k)) (b := ⟨#[41]⟩) (x := 40 :: tx k) (y := [41]) (z := 40 :: (tx k ++ [41])) rfl rfl (by simp) (by simp; omega)
     obtain ⟨fk, hfkk⟩ : ∃ fk, fTx un lst.length kd tx k = fk := ⟨_, rfl⟩
     rw [hfkk] at HF
     have HFKK := qh hfkk
     clear hF hfkk
     have hcase : (un = false ∧ fk = tx k) ∨ (un = true ∧ ((kd k : Int) == 10) = true ∧ fk = 40 :: (tx k ++ [41])) ∨ (un = true ∧ ((kd k : Int) == 10) = false ∧ ((kd k : Int) == 9) = false ∧ fk = tx k) ∨ (un = true ∧ ((kd k : Int) == 10) = false ∧ ((kd k : Int) == 9) = true ∧ k + 1 < lst.length ∧ fk = 40 :: (tx k ++ [41])) ∨ (un = true ∧ ((kd k : Int) == 10) = false ∧ ((kd k : Int) == 9) = true ∧ ¬ k + 1 < lst.length ∧ fk = tx k) := by
       have hf := HF.out
       cases un
       · left; exact ⟨rfl, by rw [hf]; simp⟩
       · right
         by_cases e10 : kd k = 10
         · left; exact ⟨rfl, by simp [e10], by rw [hf, if_pos ⟨rfl, .inl e10⟩]⟩
         · right
           by_cases e9 : kd k = 9
           · right
             by_cases e1 : k + 1 < lst.length
             · left; exact ⟨rfl, by simp [e9], by simp [e9], e1, by rw [hf, if_pos ⟨rfl, .inr ⟨e9, e1⟩⟩]⟩
             · right; exact ⟨rfl, by simp [e9], by simp [e9], e1, by rw [hf, if_neg (by omega)]⟩
           · left; exact ⟨rfl, by simp; omega, by simp; omega, by rw [hf, if_neg (by omega)]⟩
     have HCASE := qh hcase
     clear hcase
     go_wp2_with fail
     refine HI.out _ (fun w2 hb2 => ?_)
     have h2 := hS.out.below hb2
     have H2 := qh h2
     have q0 := keepCell h2.isBelow HKC.out
     have hg2 : g < w2.heap.size := Nat.lt_of_lt_of_le hg h2.isBelow.size
     clear hb2 h2 d0
     rcases HCASE.out with ⟨rfl, hfk⟩ | ⟨rfl, k1, hfk⟩ | ⟨rfl, k1, k2, hfk⟩ | ⟨rfl, k1, k2, k3, hfk⟩ | ⟨rfl, k1, k2, k3, hfk⟩
     · have HFK := qh hfk.symm
       clear hfk
       go_wp2_with (at_builtin; go_loud (refine wpList_append_lies _ rfl (.tmp 50) (.tmp 52) 161 rfl 0 9 j0 _ 1 16 Tryz.underlying161 tj uz0 uz1 uz2 rfl (by decide) (.slice oa k oc) k _ (by rfl) ((H2.out.row 1 rfl).alloc _) ⟨w2.heap.size, 0, none⟩ 1 1 [.string (bs (tx k))] (by rfl) (by rfl) (World.news_of_block (cs := #[.string (bs (tx k))]) (t := 9) (fr := (0, 0)) (heap_alloc_at' _ _ _ (by simp))) (by simp [Value.oneCell']) (by omega) (by unfold maxLen; omega) (by omega) (by simp) (w2.heap.size + 1) (by simp) ?_))
       intro g4 cap4 w4 hown4 hgrow4 hat4 hlt4
       have h8 := Prt.Sat.grow (m := k + 1) (H2.out.waste _) 1 rfl hgrow4 hown4 (by simpa using hat4)
       have h9 := h8.ent (i := 1) rfl (Q := Prt.row 9 1 (.slice (some ⟨g4, 0, none⟩) (k + 1) cap4) (k + 1) ((List.range (k + 1)).map fun i => Value.string (bs (fTx false lst.length kd tx i)))) (fun _ h => stRow_snoc (F := fTx false lst.length kd tx) (HFK.out.trans HFKK.out.symm) h)
       have H9 := qh h9
       clear h8 h9 hown4 hgrow4
       go_wp2_with fail
       go_roundw
       case rel => exact ⟨k + 1, by go_num, by omega, H9.out⟩
       case measure => simp [intOf]; omega
     · have HFK := qh hfk.symm
       clear hfk
       go_wp2_with (at_builtin; go_loud (refine wpList_append_lies _ rfl (.tmp 50) (.tmp 52) 161 rfl 0 9 j0 _ 1 16 Tryz.underlying161 tj uz0 uz1 uz2 rfl (by decide) (.slice oa k oc) k _ (by rfl) ((H2.out.row 1 rfl).alloc _) ⟨w2.heap.size, 0, none⟩ 1 1 [.string (bs (40 :: (tx k ++ [41])))] (by rfl) (by rfl) (World.news_of_block (cs := #[.string (bs (40 :: (tx k ++ [41])))]) (t := 9) (fr := (0, 0)) (heap_alloc_at' _ _ _ (by simp))) (by simp [Value.oneCell']) (by omega) (by unfold maxLen; omega) (by omega) (by simp) (w2.heap.size + 1) (by simp) ?_))
       intro g4 cap4 w4 hown4 hgrow4 hat4 hlt4
       have h8 := Prt.Sat.grow (m := k + 1) (H2.out.waste _) 1 rfl hgrow4 hown4 (by simpa using hat4)
       have h9 := h8.ent (i := 1) rfl (Q := Prt.row 9 1 (.slice (some ⟨g4, 0, none⟩) (k + 1) cap4) (k + 1) ((List.range (k + 1)).map fun i => Value.string (bs (fTx true lst.length kd tx i)))) (fun _ h => stRow_snoc (F := fTx true lst.length kd tx) (HFK.out.trans HFKK.out.symm) h)
       have H9 := qh h9
       clear h8 h9 hown4 hgrow4
       go_wp2_with fail
       go_roundw
       case rel => exact ⟨k + 1, by go_num, by omega, H9.out⟩
       case measure => simp [intOf]; omega
     · have HFK := qh hfk.symm
       clear hfk
       go_wp2_with (at_builtin; go_loud (refine wpList_append_lies _ rfl (.tmp 50) (.tmp 52) 161 rfl 0 9 j0 _ 1 16 Tryz.underlying161 tj uz0 uz1 uz2 rfl (by decide) (.slice oa k oc) k _ (by rfl) ((H2.out.row 1 rfl).alloc _) ⟨w2.heap.size, 0, none⟩ 1 1 [.string (bs (tx k))] (by rfl) (by rfl) (World.news_of_block (cs := #[.string (bs (tx k))]) (t := 9) (fr := (0, 0)) (heap_alloc_at' _ _ _ (by simp))) (by simp [Value.oneCell']) (by omega) (by unfold maxLen; omega) (by omega) (by simp) (w2.heap.size + 1) (by simp) ?_))
       intro g4 cap4 w4 hown4 hgrow4 hat4 hlt4
       have h8 := Prt.Sat.grow (m := k + 1) (H2.out.waste _) 1 rfl hgrow4 hown4 (by simpa using hat4)
       have h9 := h8.ent (i := 1) rfl (Q := Prt.row 9 1 (.slice (some ⟨g4, 0, none⟩) (k + 1) cap4) (k + 1) ((List.range (k + 1)).map fun i => Value.string (bs (fTx true lst.length kd tx i)))) (fun _ h => stRow_snoc (F := fTx true lst.length kd tx) (HFK.out.trans HFKK.out.symm) h)
       have H9 := qh h9
       clear h8 h9 hown4 hgrow4
       go_wp2_with fail
       go_roundw
       case rel => exact ⟨k + 1, by go_num, by omega, H9.out⟩
       case measure => simp [intOf]; omega
     · have HFK := qh hfk.symm
       clear hfk
       go_wp2_with (at_builtin; go_loud (refine wpList_append_lies _ rfl (.tmp 50) (.tmp 52) 161 rfl 0 9 j0 _ 1 16 Tryz.underlying161 tj uz0 uz1 uz2 rfl (by decide) (.slice oa k oc) k _ (by rfl) ((H2.out.row 1 rfl).alloc _) ⟨w2.heap.size, 0, none⟩ 1 1 [.string (bs (40 :: (tx k ++ [41])))] (by rfl) (by rfl) (World.news_of_block (cs := #[.string (bs (40 :: (tx k ++ [41])))]) (t := 9) (fr := (0, 0)) (heap_alloc_at' _ _ _ (by simp))) (by simp [Value.oneCell']) (by omega) (by unfold maxLen; omega) (by omega) (by simp) (w2.heap.size + 1) (by simp) ?_))
       intro g4 cap4 w4 hown4 hgrow4 hat4 hlt4
       have h8 := Prt.Sat.grow (m := k + 1) (H2.out.waste _) 1 rfl hgrow4 hown4 (by simpa using hat4)
       have h9 := h8.ent (i := 1) rfl (Q := Prt.row 9 1 (.slice (some ⟨g4, 0, none⟩) (k + 1) cap4) (k + 1) ((List.range (k + 1)).map fun i => Value.string (bs (fTx true lst.length kd tx i)))) (fun _ h => stRow_snoc (F := fTx true lst.length kd tx) (HFK.out.trans HFKK.out.symm) h)
       have H9 := qh h9
       clear h8 h9 hown4 hgrow4
       go_wp2_with fail
       go_roundw
       case rel => exact ⟨k + 1, by go_num, by omega, H9.out⟩
       case measure => simp [intOf]; omega
     · have HFK := qh hfk.symm
       clear hfk
       have k4 : ¬ k < lst.length - 1 := by omega
       go_wp2_with (at_builtin; go_loud (refine wpList_append_lies _ rfl (.tmp 50) (.tmp 52) 161 rfl 0 9 j0 _ 1 16 Tryz.underlying161 tj uz0 uz1 uz2 rfl (by decide) (.slice oa k oc) k _ (by rfl) ((H2.out.row 1 rfl).alloc _) ⟨w2.heap.size, 0, none⟩ 1 1 [.string (bs (tx k))] (by rfl) (by rfl) (World.news_of_block (cs := #[.string (bs (tx k))]) (t := 9) (fr := (0, 0)) (heap_alloc_at' _ _ _ (by simp))) (by simp [Value.oneCell']) (by omega) (by unfold maxLen; omega) (by omega) (by simp) (w2.heap.size + 1) (by simp) ?_))
       intro g4 cap4 w4 hown4 hgrow4 hat4 hlt4
       have h8 := Prt.Sat.grow (m := k + 1) (H2.out.waste _) 1 rfl hgrow4 hown4 (by simpa using hat4)
       have h9 := h8.ent (i := 1) rfl (Q := Prt.row 9 1 (.slice (some ⟨g4, 0, none⟩) (k + 1) cap4) (k + 1) ((List.range (k + 1)).map fun i => Value.string (bs (fTx true lst.length kd tx i)))) (fun _ h => stRow_snoc (F := fTx true lst.length kd tx) (HFK.out.trans HFKK.out.symm) h)
       have H9 := qh h9
       clear h8 h9 hown4 hgrow4
       go_wp2_with fail
       go_roundw
       case rel => exact ⟨k + 1, by go_num, by omega, H9.out⟩
       case measure => simp [intOf]; omega
   · have hke : k = lst.length := by omega
     subst hke
     have HJ : Hid (∀ R : Ending → World → Prop, (∀ w', Below wr.heap.size wr w' → R (.returned (.string (bs (Ty.joinL sep.data.toList ((List.range lst.length).map (fTx un lst.length kd tx)))))) w') → Calls Tryz.prog 183 #[.slice oa lst.length oc, .string sep] wr R) := by
       intro R2 hR2
       by_cases h0 : lst.length = 0
       · rw [h0]
         refine (Tryz.strings_Join_none oa oc sep wr).mono ?_
         rintro e w' ⟨rfl, rfl⟩
         have := hR2 w' (Below.refl _ _)
         rw [h0] at this
         exact this
       · have hrow := hS.out.row 1 rfl
         obtain ⟨g3, c3, e3, hc3, hg3⟩ := hrow.form (by omega)
         have hcl := World.ownsRow.cells (g := g3) hrow (by rw [e3]; rfl)
         have hcap : lst.length ≤ c3 := by
           rcases hrow.2 with ⟨_, h⟩ | ⟨g', cap', cur, e4, _, _, h, _⟩
           · omega
           · rw [e3] at e4; cases e4; exact h
         cases e3
         have hx := Tryz.strings_Join g3 0 oc ((List.range lst.length).map fun i => bs (fTx un lst.length kd tx i)) sep wr (fun j x hj => ?_) hg3 (by simp; omega) (by simpa using hcap) ?_
         · rw [List.length_map, List.length_range] at hx
           refine hx.mono ?_
           rintro e w' ⟨rfl, hb⟩
           have := hR2 w' hb
           rw [joinL_join, List.map_map]
           have e5 : ((fun x : ByteArray => x.data.toList) ∘ fun i => bs (fTx un lst.length kd tx i)) = fTx un lst.length kd tx := by
             funext i; exact bs_list _
           rw [e5]; exact this
         · have := hcl j (.string x) (by rw [List.getElem?_map] at hj ⊢; cases h : (List.range lst.length)[j]? with
             | none => rw [h] at hj; cases hj
             | some a => rw [h] at hj; cases hj; rfl)
           rwa [Addr.add_lit] at this
         · rw [joinL_join, List.map_map]
           have e5 : ((fun x : ByteArray => x.data.toList) ∘ fun i => bs (fTx un lst.length kd tx i)) = fTx un lst.length kd tx := by
             funext i; exact bs_list _
           rw [e5]
           have := HSZ.out
           omega
     go_wp2_with fail
     refine HJ.out _ (fun w2 hb2 => ?_)
     have HB2 := qh (hS.out.isBelow.trans (hb2.mono hS.out.isBelow.size))
     clear hb2
     go_wp2_with fail
     exact HR.out _ HB2.out
end
section
open Go Go.RowKit
open Prt (Sat As blk pur exs star stars)
theorem infoByte : (Tryz.prog.info? 5).map (fun i => (i.zero, i.size, i.bytes)) = some (some (.int .u8 0), 1, 1) := by kernel_rfl
theorem infoBuilder : (Tryz.prog.info? 74).map (·.size) = some 2 := by kernel_rfl
theorem liesWriter : liesAt Tryz.prog Tryz.prog.depth 76 (6 / Tryz.prog.cellsOf 76) 0 74 1 = true := by kernel_rfl
theorem cellsByte : Tryz.prog.cellsOf 5 = 1 := by kernel_rfl
def wrIn (wb : Nat) (nv tv : Value) (main : Int) (ind : Nat) (out : List UInt8) (q : Value × Value) : List As :=
 [pur (q.1 = .pointer none ∨ q.1 = .pointer (some ⟨wb, 0, none⟩)), blk wb (.cells #[q.1, q.2, nv, tv, .int .i64 main, .int .i64 ind] 76 (0, 0)), Prt.row 5 1 q.2 out.length (Lib.byteCells out)]
def wrA (wb : Nat) (nv tv : Value) (main : Int) (ind : Nat) (out : List UInt8) : As := exs fun q : Value × Value => stars (wrIn wb nv tv main ind out q)
section
variable {w0 w : World} {Fr : As} {wb : Nat} {nv tv : Value} {main : Int} {ind : Nat} {out : List UInt8}
theorem Prt.Sat.openWr (h : Sat w0 w [Fr, wrA wb nv tv main ind out]) : ∃ p v, Sat w0 w (Fr :: wrIn wb nv tv main ind out (p, v)) := by
 obtain ⟨⟨p, v⟩, h⟩ := h.ex (i := 1) rfl
 exact ⟨p, v, h.unpack (i := 1) rfl⟩
theorem Prt.Sat.shutWr {q : Value × Value} (h : Sat w0 w (Fr :: wrIn wb nv tv main ind out q)) : Sat w0 w [Fr, wrA wb nv tv main ind out] :=
 (Prt.Sat.pack (L := [Fr]) h).ent (i := 1) rfl fun _ h => ⟨q, h⟩
theorem copyCheck_any (H : Sat w0 w [Fr, wrA wb nv tv main ind out]) {R : Ending → World → Prop}
   (hR : ∀ w' v, Sat w0 w' (Fr :: wrIn wb nv tv main ind out (.pointer (some ⟨wb, 0, none⟩), v)) → R (.returned (.tuple #[])) w') :
   Calls Tryz.prog 188 #[.pointer (some ⟨wb, 0, none⟩)] w R := by
 have HR := qh hR
 obtain ⟨j, hj, hjs⟩ := Option.map_eq_some_iff.1 infoBuilder
 obtain ⟨p, v, h⟩ := H.openWr
 have HS := qh h
 have hp := h.pure 1 rfl
 have c0 := h.cell 2 rfl 0 rfl
 have f0 := h.free 2 rfl 0
 have hsh : w.shape? wb = some (76, 6) := by
   have := h.heap 2 rfl
   simp [World.shape?, this]
 dsimp only at hp c0
 clear hR H h
 rcases hp with rfl | rfl
 · have h1 := HS.out.store 2 rfl 0 (.pointer (some ⟨wb, 0, none⟩))
   have H1 := qh h1
   clear h1
   go_enter Tryz.func188, Tryz.ntmps188
   go_wp2
   rw [Lib.run_to_unsafe w ⟨wb, 0, none⟩ Tryz.underlying71 Tryz.underlying268 hj (by rw [hjs]; decide) hsh (by show 0 < 6; omega)]
   simp only [Result.andThen]
   rw [Oper.upon_value]
   go_wp2
   rw [run_callFunc_extern Tryz.func268 (by kernel_rfl) (by kernel_rfl) (by kernel_rfl) (e := Extern.AbiNoEscape.same) (by kernel_rfl)]
   rw [Lib.run_noEscape]
   simp only [Result.andThen]
   rw [Oper.upon_value]
   go_wp2
   rw [Lib.run_from_unsafe w ⟨wb, 0, none⟩ Tryz.underlying268 Tryz.underlying71 hj hsh liesWriter]
   simp only [Result.andThen]
   rw [Oper.upon_value]
   go_wp2
   go_end0
   exact HR.out _ v (H1.out.ent (i := 1) rfl (Q := pur _) fun _ _ => .inr rfl)
 · go_enter Tryz.func188, Tryz.ntmps188
   go_wp2
   rw [Lib.run_neq_ptr_same w _ Tryz.underlying71 hj]
   go_wp2
   go_end0
   exact HR.out _ v HS.out
theorem byteCells_app (a b : List UInt8) : Lib.byteCells (a ++ b) = Lib.byteCells a ++ Lib.byteCells b := by simp [Lib.byteCells]
theorem strCells_bs (x : List UInt8) : Lib.strCells (bs x) = Lib.byteCells x := by simp [Lib.strCells, Lib.byteCells, bs]
theorem WriteString_any (H : Sat w0 w [Fr, wrA wb nv tv main ind out]) (s : ByteArray) (x : List UInt8) (hs : s = bs x) (hlen : out.length + x.length ≤ 1000000000) {R : Ending → World → Prop}
   (hR : ∀ w', Sat w0 w' [Fr, wrA wb nv tv main ind (out ++ x)] → R (.returned (.tuple #[.int .i64 s.size, .nilIface])) w') :
   Calls Tryz.prog 122 #[.pointer (some ⟨wb, 0, none⟩), .string s] w R := by
 have HR := qh hR
 have hsz : s.size = x.length := by rw [hs, bs_size]
 have hx : Lib.byteCells out ++ Lib.strCells s = Lib.byteCells (out ++ x) := by rw [byteCells_app, hs, strCells_bs]
 have HX := qh hx
 have HS := qh H
 have HLN := qh hlen
 have HSZ := qh hsz
 obtain ⟨i0, hi, hz0, hz1, hz2⟩ := info_parts infoByte
 clear hR H hs hlen hsz hx
 go_enter Tryz.func122, Tryz.ntmps122
 go_wp2_with fail
 refine copyCheck_any HS.out (fun w1 v h1 => ?_)
 have c1 := h1.cell 2 rfl 1 rfl
 have f1 := h1.free 2 rfl 1
 have HROW := qh (h1.row 3 rfl)
 have H1 := qh h1
 clear h1
 dsimp only at c1 HROW
 go_wp2_with (at_builtin; refine wpList_append_str rfl _ _ 72 9 rfl 5 i0 Tryz.underlying72 Tryz.underlying9 hi hz0 hz1 hz2 v out.length (Lib.byteCells out) rfl HROW.out s rfl (by have := HLN.out; have := HSZ.out; unfold maxLen; omega) (by have := HLN.out; have := HSZ.out; omega) ?_)
 intro v' w2 hown hgrow hat
 rw [HX.out] at hown
 obtain ⟨va, vc, rfl⟩ := owns_slice hown
 have h2 := H1.out.growS 3 rfl hgrow hown hat
 have d1 := h2.cell 2 rfl 1 rfl
 have g1 := h2.free 2 rfl 1
 have H2 := qh h2
 clear h2 hown hgrow hat
 dsimp only at d1
 go_wp2_with fail
 have h3 := (H2.out.store 2 rfl 1 (.slice va (out.length + s.size) vc))
 refine HR.out _ (Prt.Sat.shutWr (q := (.pointer (some ⟨wb, 0, none⟩), .slice va (out.length + s.size) vc)) ?_)
 have e : (out ++ x).length = out.length + s.size := by rw [List.length_append, HSZ.out]
 unfold wrIn
 rw [e]
 exact h3
end
end
section
open Go Go.RowKit
open Prt (Sat As blk pur exs star stars)
open Ty (Tr)
theorem cat_ex {a b : ByteArray} {x y z : List UInt8} (ha : a = bs x) (hb : b = bs y) (hz : x ++ y = z) (hs : z.length ≤ 1000000000) : ∃ s : ByteArray, s = bs z ∧ ∀ w : World, (Op.stringOp .add a b).run Tryz.prog w = .ok (.string s) w := ⟨_, rfl, cat_run ha hb hz hs⟩
theorem tt_7 (w : World) (g cap L n of : Nat) (_ : g < w.heap.size) (_ : L ≤ cap) (_ : L ≤ 1000000) (hn : n < L) (fds : List (ByteArray × Nat)) (lst : List Nat) (fv lv : Value) (hA : RowAt w g n ⟨⟨7, fds, lst, of⟩, fv, lv⟩)
   (hfx : w.ownsRow 0 141 2 fv fds.length (fds.flatMap fdCells)) (hlx : w.ownsRow 0 3 1 lv lst.length (lst.map inCell)) (hfl : fds.length ≤ 1000000) (tx : Nat → List UInt8) (A : Nat → List UInt8)
   (ht : ∀ j (hj : j < fds.length), TxtC (.slice (some ⟨g, 0, none⟩) L cap) w fds[j].2 (tx j)) (a0 : A 0 = [123]) (a1 : ∀ j (hj : j < fds.length), A (j + 1) = A j ++ Ty.fieldS fds[j].1 (tx j)) (a2 : ∀ j, j ≤ fds.length → (A j).length ≤ 900000000) {R : Ending → World → Prop}
   (hR : ∀ w', Below w.heap.size w w' → R (.returned (.string (bs (A fds.length ++ (if fds.length > 0 then [32] else []) ++ [125])))) w') :
   Calls Tryz.prog 64 #[.slice (some ⟨g, 0, none⟩) L cap, .int .i64 (n : Nat)] w R := by
 have HR := qh hR
 have HT := qh ht
 have HA1 := qh a1
 have HA2 := qh a2
 have HFX := qh hfx
 obtain ⟨q0, q1, q2, q3⟩ := hA
 obtain ⟨fa, fc, rfl⟩ := owns_slice hfx
 obtain ⟨la, lc, rfl⟩ := owns_slice hlx
 dsimp only at q0 q1 q2 q3
 have h1 := (Prt.Sat.old w).allocAt (.cells #[.int .i64 7, .slice fa fds.length fc, .slice la lst.length lc, .int .i64 of] 69) w.heap.size
 have HB1 := qh h1.isBelow
 have HA0 : Hid (bs [123] = bs (A 0)) := by rw [a0]; rfl
 clear hR ht a0 a1 a2 hfx hlx h1
 go_enter Tryz.func64, Tryz.ntmps64
 go_wp2_with fail
 go_loopw [6, 20] (fun s i wr => ∃ k : Nat, s = .string (bs (A k)) ∧ i = .int .i64 k ∧ k ≤ fds.length ∧ Hid (Sat w wr [Prt.oldA w, blk w.heap.size (.cells #[.int .i64 7, .slice fa fds.length fc, .slice la lst.length lc, .int .i64 of] 69 (0, 0))])) (fun _ i _ => fds.length - (intOf i).toNat)
 case atStart => exact ⟨0, congrArg Value.string HA0.out, rfl, by omega, (Prt.Sat.old w).allocAt _ w.heap.size⟩
 case round =>
   obtain ⟨k, rfl, rfl, hk, hS⟩ := hrel
   by_cases hlt : k < fds.length
   · obtain ⟨gf, capf, e, hgf, d0, d1⟩ := fds_at (owns_below HFX.out hS.out.isBelow) k hlt
     cases e
     have h7 := hS.out.allocAt (.cells #[.string fds[k].1, .int .i64 (fds[k].2 : Nat)] 141) wr.heap.size
     have HI := qh (HT.out k hlt _ h7.drew.isBelow)
     have hsu := HA1.out k hlt
     have hsz := HA2.out (k + 1) (by omega)
     rw [hsu] at hsz
     have HSU := qh hsu
     generalize fds[k] = fd at *
     obtain ⟨nm, ix⟩ := fd
     dsimp only at d0 d1 HI hsu hsz HSU h7
     have hsz1 := hsz
     rw [List.length_append] at hsz
     unfold Ty.fieldS at hsz
     simp only [lzA, lzC, lzN] at hsz
     have HNM := qh hsz
     obtain ⟨s1, e1, c1⟩ := cat_ex (a := ⟨#[32]⟩) (b := nm) (x := [32]) (y := nm.data.toList) (z := 32 :: nm.data.toList) rfl (bs_of nm).symm rfl (by rw [List.length_cons]; omega)
     obtain ⟨s2, e2, c2⟩ := cat_ex (a := s1) (b := ⟨#[58, 32]⟩) (y := [58, 32]) (z := 32 :: (nm.data.toList ++ [58, 32])) e1 rfl rfl (by simp only [lzA, lzC, lzN]; omega)
     obtain ⟨s3, e3, c3⟩ := cat_ex (a := s2) (b := bs (tx k)) (z := 32 :: (nm.data.toList ++ [58, 32] ++ tx k)) e2 rfl rfl (by simp only [lzA, lzC, lzN]; omega)
     obtain ⟨s4, e4, c4⟩ := cat_ex (a := s3) (b := ⟨#[59]⟩) (y := [59]) (z := Ty.fieldS nm (tx k)) e3 rfl rfl (by unfold Ty.fieldS; simp only [lzA, lzC, lzN]; omega)
     obtain ⟨s5, e5, c5⟩ := cat_ex (a := bs (A k)) (b := s4) (z := A k ++ Ty.fieldS nm (tx k)) rfl e4 rfl (by omega)
     rw [← hsu] at e5
     have E5 := qh e5.symm
     clear e1 e2 e3 e4 e5
     have b0 := h7.cell 2 rfl 0 rfl
     have b1 := h7.cell 2 rfl 1 rfl
     have H7 := qh h7
     clear hsu hsz hsz1 h7
     go_wp2_with fail
     go_region_held3 (fun w' => w'.cell? ⟨wr.heap.size, 0, none⟩ = some (.string nm) ∧ w'.cell? ⟨wr.heap.size, 1, none⟩ = some (.int .i64 (ix : Nat))) (go_keep)
       (first | (go_at_call 64; refine HI.out _ (fun w2 hb2 => ?_); have h2 := H7.out.drew.below hb2; have z0 := h2.cell 2 rfl 0 rfl; have z1 := h2.cell 2 rfl 1 rfl; have H2 := qh (h2.pick [0, 1]); clear h2 hb2))
     all_goals
       go_wp2_with fail
       go_roundw
       case rel => exact ⟨k + 1, congrArg Value.string E5.out.symm, by go_num, by omega, H2.out⟩
       case measure => simp [intOf]; omega
   · have hke : k = fds.length := by omega
     subst hke
     have x1 := hS.out.cell 1 rfl 1 rfl
     have hsz := HA2.out _ (Nat.le_refl _)
     by_cases h0 : 0 < fds.length
     · have k0 : decide ((0 : Int) < fds.length) = true := decide_eq_true (by omega)
       have k1 : decide (0 < fds.length) = true := decide_eq_true h0
       rw [if_pos h0] at HR
       obtain ⟨s6, e6, c6⟩ := cat_ex (a := bs (A fds.length)) (b := ⟨#[32]⟩) (y := [32]) (z := A fds.length ++ [32]) rfl rfl rfl (by simp; omega)
       obtain ⟨s7, e7, c7⟩ := cat_ex (a := s6) (b := ⟨#[125]⟩) (y := [125]) (z := A fds.length ++ [32] ++ [125]) e6 rfl rfl (by simp; omega)
       rw [← e7] at HR
       clear hsz h0 e6 e7
       go_wp2_with fail
       exact HR.out _ hS.out.isBelow
     · have k0 : decide ((0 : Int) < fds.length) = false := decide_eq_false (by omega)
       have k1 : decide (0 < fds.length) = false := decide_eq_false h0
       rw [if_neg h0, List.append_nil] at HR
       obtain ⟨s7, e7, c7⟩ := cat_ex (a := bs (A fds.length)) (b := ⟨#[125]⟩) (y := [125]) (z := A fds.length ++ [125]) rfl rfl rfl (by simp; omega)
       rw [← e7] at HR
       clear hsz h0 e7
       go_wp2_with fail
       exact HR.out _ hS.out.isBelow
theorem tt_8 (w : World) (g cap L n of : Nat) (_ : g < w.heap.size) (_ : L ≤ cap) (_ : L ≤ 1000000) (hn : n < L) (fds : List (ByteArray × Nat)) (lst : List Nat) (fv lv : Value) (hA : RowAt w g n ⟨⟨8, fds, lst, of⟩, fv, lv⟩)
   (hfx : w.ownsRow 0 141 2 fv fds.length (fds.flatMap fdCells)) (hlx : w.ownsRow 0 3 1 lv lst.length (lst.map inCell))
   (tx : List UInt8) (ht : TxtC (.slice (some ⟨g, 0, none⟩) L cap) w of tx) (hs : tx.length ≤ 900000000) {R : Ending → World → Prop}
   (hR : ∀ w', Below w.heap.size w w' → R (.returned (.string (bs ([91] ++ tx ++ [93])))) w') :
   Calls Tryz.prog 64 #[.slice (some ⟨g, 0, none⟩) L cap, .int .i64 (n : Nat)] w R := by
 have HR := qh hR
 obtain ⟨q0, q1, q2, q3⟩ := hA
 obtain ⟨fa, fc, rfl⟩ := owns_slice hfx
 obtain ⟨la, lc, rfl⟩ := owns_slice hlx
 dsimp only at q0 q1 q2 q3
 have h1 := (Prt.Sat.old w).allocAt (.cells #[.int .i64 8, .slice fa fds.length fc, .slice la lst.length lc, .int .i64 of] 69) w.heap.size
 have HI := qh (ht _ h1.isBelow)
 have HB := qh h1.isBelow
 obtain ⟨s1, e1, c1⟩ := cat_ex (a := ⟨#[91]⟩) (b := bs tx) (x := [91]) (z := [91] ++ tx) rfl rfl rfl (by simp; omega)
 obtain ⟨s2, e2, c2⟩ := cat_ex (a := s1) (b := ⟨#[93]⟩) (y := [93]) (z := [91] ++ tx ++ [93]) e1 rfl rfl (by simp; omega)
 rw [← e2] at HR
 clear hR ht h1 e1 e2 hfx hlx
 go_enter Tryz.func64, Tryz.ntmps64
 go_wp2_with fail
 refine HI.out _ (fun w2 hb2 => ?_)
 have HB2 := qh (HB.out.trans (hb2.mono HB.out.size))
 clear hb2
 go_wp2_with fail
 exact HR.out _ HB2.out
end
end Go.Proofs.YtdlbhiaceheffabGreatDoor
