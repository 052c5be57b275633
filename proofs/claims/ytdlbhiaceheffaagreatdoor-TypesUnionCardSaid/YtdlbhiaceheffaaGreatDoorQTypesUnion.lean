/- Walk of the reference's UnionOf. Walk of the law TypesUnion. The row and the card of TypesUnion, out of its walk: whatever text, the law answers true. -/
import Derived.Test.YtdlbhiaceheffaaGreatDoorQJn
import Derived.Test.YtdlbhiaceheffaaGreatDoorQWt
import Derived.Test.YtdlbhiaceheffaaGreatDoorQMv
import Derived.Test.YtdlbhiaceheffaaGreatDoorQUnB
import Derived.Test.YtdlbhiaceheffaaGreatDoorQRrB
import Derived.Test.YtdlbhiaceheffaaGreatDoorQTt
import Derived.Test.YtdlbhiaceheffaaGreatDoorQTokRow
import Derived.SliceStrings
import Derived.Carry
namespace Go.Proofs.YtdlbhiaceheffaaGreatDoor
open Go Go.RowKit
open Prt (Sat As blk pur exs star stars)
open Ty (Tr)

theorem cntL_all : ∀ l : List Tr, (∀ t ∈ l, Ty.cnt t ≤ 300) → Ty.cntL l ≤ 300 * l.length
  | [], _ => by simp [Ty.cntL]
  | t :: l, h => by
    have h1 := h t (by simp)
    have h2 := cntL_all l (fun u hu => h u (by simp [hu]))
    rw [Ty.cntL, List.length_cons]; omega
set_option maxRecDepth 100000 in
set_option maxHeartbeats 8000000 in
theorem UnionOf_any (w : World) (v : Value) (l : List ByteArray) (hv : StrSl w v l) (hm : ∀ s ∈ l, s.size ≤ maxLen) {R : Ending → World → Prop}
    (hok : ∀ r w', unionM l = .ok r → Below w.heap.size w w' → R (.returned (.tuple #[.string (bs r), ftVal (0, 0)])) w')
    (hbad : ∀ f w', unionM l = .error f → Below w.heap.size w w' → R (.returned (.tuple #[.string ⟨#[]⟩, ftVal f])) w') :
    Calls Tryz.prog 9 #[v] w R := by
  have HOK := Lib.hid hok
  have HBAD := Lib.hid hbad
  have HMX := Lib.hid hm
  have HV := Lib.hid hv
  obtain ⟨va, vc, rfl⟩ := hv.slice
  have h1 := (Prt.Sat.old w).allocAt (.cells #[.int .i64 0, .int .i64 0] 25) w.heap.size
  clear hok hbad hm hv
  by_cases h50 : 50 < l.length
  · have k0 : decide ((50 : Int) < l.length) = true := decide_eq_true (by omega)
    have k1 : decide (50 < l.length) = true := decide_eq_true h50
    have HE : Hid (unionM l = .error (2, 0)) := by show unionM l = _; unfold unionM; rw [if_pos h50]
    have x0 := h1.cell 1 rfl 0 rfl
    have x1 := h1.cell 1 rfl 1 rfl
    have H1 := Lib.hid h1
    clear h50 h1
    go_enter Tryz.func9, Tryz.ntmps9
    go_wp2_with fail
    refine bodyPost_ret ?_ rfl (HBAD.out (2, 0) _ HE.out ?_)
    · simp [results, Tryz.results9, go_sem, ftVal]
    · first | exact (Below.refl _ _).alloc (Nat.le_refl _) _ | exact ((H1.out.store 1 rfl 0 (.int .i64 2)).store 1 rfl 1 (.int .i64 0)).isBelow
  · have k0 : decide ((50 : Int) < l.length) = false := decide_eq_false (by omega)
    have k1 : decide (50 < l.length) = false := decide_eq_false h50
    have hl50 : l.length ≤ 50 := by omega
    have HU : Hid (unionM l = match openFrom l [] with | .error f => .error f | .ok trs => .ok (Ty.text (Ty.joinT trs))) := by
      show unionM l = _; unfold unionM; rw [if_neg h50]
      cases openFrom l [] <;> rfl
    obtain ⟨j0, tj, uz0, uz1, uz2⟩ := info_parts infoInt
    have h2 := (h1.triv tyA_nil).nil 3 1
    have H2 := Lib.hid h2
    clear h50 h1 h2
    go_enter Tryz.func9, Tryz.ntmps9
    go_wp2_with fail
    go_loopw [4, 5, 7] (fun av tv i wr => ∃ (k : Nat) (trs : List Tr), i = .int .i64 k ∧ k ≤ l.length ∧ trs.length = k ∧ Hid (Sat w wr [Prt.oldA w, blk w.heap.size (.cells #[.int .i64 0, .int .i64 0] 25 (0, 0)), tyA av (Ty.putL trs []).1, inA tv (Ty.putL trs []).2]) ∧ Hid (openFrom l [] = openFrom (l.drop k) trs) ∧ Hid (∀ t ∈ trs, Ty.okT t ∧ Ty.uniT t ∧ Ty.nmT t ∧ Ty.cnt t ≤ 300))
      (fun _ _ i _ => l.length - (intOf i).toNat)
    case atStart => exact ⟨0, [], rfl, by omega, rfl, H2.out, rfl, by intro t ht; simp at ht⟩
    case round =>
      obtain ⟨k, trs, rfl, hk, hkl, hS, hE, hA⟩ := hrel
      have hpl := Ty.putL_len trs []
      have hcn := cntL_all trs (fun t ht => (hA.out t ht).2.2.2)
      rw [List.length_nil, Nat.zero_add] at hpl
      by_cases hlt : k < l.length
      · have hb := hS.out.isBelow
        obtain ⟨gs, os, caps, e, hgs, d0⟩ := (HV.out.below hb).at k hlt
        cases e
        have HE2 : Hid (openFrom l [] = match treeOf l[k] with | .error f => .error f | .ok t => openFrom (l.drop (k + 1)) (trs ++ [t])) := by
          show _ = _; rw [hE.out, List.drop_eq_getElem_cons hlt, openFrom_cons]
          cases treeOf l[k] <;> rfl
        have hmx := HMX.out l[k] (List.getElem_mem hlt)
        generalize l[k] = s at *
        have HMS := Lib.hid hmx
        have hput := Ty.putL_snoc trs
        have hnl := (Ty.putL_nums trs []).1
        have HPUT := Lib.hid (fun t => hput t [])
        generalize Ty.putL trs [] = P at *
        obtain ⟨acc, tys⟩ := P
        dsimp only at hpl hnl hS HPUT
        obtain ⟨ta, tc, rfl⟩ := owns_slice (hS.out.row 3 rfl)
        have hat : acc.length ≤ 15000 := by omega
        have htt : tys.length ≤ 50 := by omega
        clear hb hmx hput hE hpl hcn hnl
        go_wp2_with fail
        refine refTypeOf_any (Prt.Sat.pack (L := []) hS.out) s HMS.out (fun ts xv w1 ht h3 => ?_) (fun f w1 ht h3 => ?_)
        · obtain ⟨rows, hrt, h4⟩ := h3.rows 1 rfl
          obtain ⟨hwf, hpos, hl300⟩ := Ty.typeOf_wf ht
          have hrl : rows.length = ts.length := by rw [← hrt]; simp
          obtain ⟨gx, cx, rfl, _⟩ := (h4.rdRows 1 rfl).at (by omega)
          have h5 := ((h4.unpack (i := 0) rfl).pick [1, 2, 3, 4, 0]).allocAt (.cells #[.int .i64 0, .int .i64 0] 25) w1.heap.size
          have H5 := Lib.hid h5
          have htr := treeOf_of_ok ht
          rw [← hrl] at htr
          have HTO := Lib.hid (treeOf_ok htr)
          have HTN := Lib.hid (treeOf_nm htr)
          have HMV := Lib.hid (fun w' => Move_all (.slice (some ⟨gx, 0, none⟩) rows.length cx) rows ts hrt hwf (by omega) (rows.length - 1 + 1) (rows.length - 1) (by omega) (by omega) w w')
          have HE3 : Hid (openFrom l [] = openFrom (l.drop (k + 1)) (trs ++ [Ty.den ts (rows.length - 1)])) := by show _ = _; rw [HE2.out, htr]
          have hr3 : rows.length ≤ 300 := by omega
          have hr0 : 0 < rows.length := by omega
          clear ht h3 h4 h5 hrt hwf hrl htr hpos
          dsimp only [ftVal]
          go_wp2_with fail
          have e : ((rows.length : Int) - 1) = ((rows.length - 1 : Nat) : Int) := by omega
          rw [e]
          clear e
          have h6 := (Prt.Sat.pack (L := [_, _]) (M := [_, _, _, _]) (H5.out.pick [4, 2, 0, 1, 3, 5])).pick [2, 0, 1]
          refine HMV.out _ _ _ _ h6 (by have := HTO.out.2.2; omega) _ (fun lv1 w3 h7 => ?_)
          have HPU := Lib.hid (HPUT.out (Ty.den ts (rows.length - 1)))
          generalize Ty.den ts (rows.length - 1) = tx at *
          generalize Ty.put tx acc = pt at *
          obtain ⟨pl, pn⟩ := pt
          dsimp only at h7 HPU ⊢
          have H7 := Lib.hid ((h7.unpack (i := 0) rfl).pick [2, 3, 1, 4])
          clear h6 h7
          go_wp2_with (at_builtin; go_loud (refine wpList_append_lies _ rfl (.tmp 41) (.tmp 43) 49 rfl 0 3 j0 _ 1 8 Tryz.underlying49 tj uz0 uz1 uz2 rfl (by decide) _ _ (tys.map inCell) (by rfl) ((H7.out.row 3 rfl).alloc _) ⟨w3.heap.size, 0, none⟩ 1 1 [.int .i64 (pn : Nat)] (by rfl) (by rfl) (World.news_of_block (cs := #[.int .i64 (pn : Nat)]) (t := 3) (fr := (0, 0)) (heap_alloc_at' _ _ _ (by simp))) (by simp [Value.oneCell']) (by omega) (by unfold maxLen; omega) (by omega) (by simp) (w3.heap.size + 1) (by simp) ?_))
          intro g8 cap8 w8 hown8 hgrow8 hat8 hlt8'
          have h8 := Prt.Sat.grow (H7.out.waste _) 3 rfl hgrow8 hown8 (by simpa using hat8)
          have h9 := h8.ent (i := 3) rfl (Q := inA (.slice (some ⟨g8, 0, none⟩) (tys.length + 1) cap8) (Ty.putL (trs ++ [tx]) []).2) (fun _ h => by rw [HPU.out]; exact inA_snoc h)
          have h10 := h9.ent (i := 2) rfl (Q := tyA lv1 (Ty.putL (trs ++ [tx]) []).1) (fun _ h => by rw [HPU.out]; exact h)
          have H10 := Lib.hid h10
          have HA2 : Hid (∀ t ∈ trs ++ [tx], Ty.okT t ∧ Ty.uniT t ∧ Ty.nmT t ∧ Ty.cnt t ≤ 300) := fun t ht => by
            rw [List.mem_append] at ht
            rcases ht with ht | ht
            · exact hA.out t ht
            · simp at ht; subst ht; exact ⟨HTO.out.1, HTO.out.2.1, HTN.out, HTO.out.2.2⟩
          clear h8 h9 h10 hown8 hgrow8
          go_wp2_with fail
          go_roundw
          case rel => exact ⟨k + 1, trs ++ [tx], by go_num, by omega, by simp; omega, H10.out, HE3.out, HA2.out⟩
          case measure => simp [intOf]; omega
        · have h4 := h3.unpack (i := 0) rfl
          have htr := treeOf_of_err ht
          have hE : unionM l = .error f := by rw [HU.out, HE2.out, htr]
          have hbd := Ty.typeOf_bad ht
          obtain ⟨fe, fp⟩ := f
          dsimp only at hbd
          have e2 : ((fe : Int) != 0) = true := by simp; omega
          have x0 := h4.cell 1 rfl 0 rfl
          have x1 := h4.cell 1 rfl 1 rfl
          have fx := h4.free 1 rfl
          have hx := h4.lt 1 rfl
          have hx2 : w.heap.size < w1.heap.size + 1 := by omega
          have H4 := Lib.hid h4
          have HE3 := Lib.hid hE
          clear h3 h4 hE hbd ht htr
          dsimp only [ftVal]
          go_wp2_with fail
          go_region
          all_goals
            go_wp2_with fail
            refine bodyPost_ret ?_ rfl (HBAD.out (fe, fp) _ HE3.out ?_)
            · simp [results, Tryz.results9, go_sem, ftVal, hx, x0, x1]
            · exact Prt.Sat.isBelow ((((H4.out.store 1 rfl 0 (.int .i64 fe)).store 1 rfl 1 (.int .i64 fp)).waste _).drew)
      · have hE2 : openFrom l [] = .ok trs := by rw [hE.out, List.drop_eq_nil_of_le (by omega)]; rfl
        have HT : Hid (unionM l = .ok (Ty.text (Ty.joinT trs))) := by show unionM l = _; rw [HU.out, hE2]
        have hokL := Ty.okL_of (l := trs) fun t ht => (hA.out t ht).1
        have huL := Ty.uniL_of (l := trs) fun t ht => (hA.out t ht).2.1
        have hnL := Ty.nmL_of (l := trs) fun t ht => (hA.out t ht).2.2.1
        obtain ⟨j1, j2, j3, j4⟩ := Ty.joinT_fine hokL huL hnL (by omega)
        have hwf := Ty.putL_wf trs [] hokL huL Ty.Wf.nil
        have hdn := Ty.putL_den trs [] hokL
        obtain ⟨hnl, hnm⟩ := Ty.putL_nums trs []
        have HJ2 : Hid (∀ (w1 : World) (Fr : As) (av tv : Value), Sat w w1 [Fr, tyA av (Ty.putL trs []).1, inA tv (Ty.putL trs []).2] → ∀ R : Ending → World → Prop, (∀ lv' n w', Sat w w' [Fr] → WtC lv' w' n (Ty.text (Ty.joinT trs)) → R (.returned (.tuple #[lv', .int .i64 (n : Nat)])) w') → Calls Tryz.prog 27 #[av, tv] w1 R) := fun w1 Fr av tv H R hR => by
          refine JoinOf_any av tv _ _ H hwf (by omega) hnm (by rw [hdn]; omega) (fun lv' ts' n w' h2 hw2 hn2 hl2 hd2 => ?_)
          rw [hdn] at hd2
          obtain ⟨rows, hrt, hrd⟩ := h2.tyRd 1 rfl
          have ht := WriteType_all w' lv' rows ts' hrt hw2 hl2 hrd _ n (Nat.lt_succ_self _) hn2 (by rw [hd2]; exact Ty.nm_short _ j3) (by rw [hd2]; exact j4)
          rw [hd2] at ht
          exact hR lv' n w' (h2.pick [0]) ht
        generalize Ty.putL trs [] = P at *
        obtain ⟨acc, tys⟩ := P
        dsimp only at hS HJ2
        obtain ⟨ta, tc, rfl⟩ := owns_slice (hS.out.row 3 rfl)
        obtain ⟨rows, hrt, h5⟩ := hS.out.rows 2 rfl
        obtain ⟨aa, ac, rfl⟩ := owns_slice (h5.rdRows 2 rfl).row
        obtain ⟨tx, htx⟩ : ∃ tx, bs (Ty.text (Ty.joinT trs)) = tx := ⟨_, rfl⟩
        have HTX := Lib.hid htx
        clear hE2 hokL huL hnL j1 j2 j3 j4 hwf hdn hnl hnm hpl hcn h5 hrt htx
        go_wp2_with fail
        refine HJ2.out _ _ _ _ ((Prt.Sat.pack (L := [_, _]) (M := [_, _]) (hS.out.pick [2, 3, 0, 1])).pick [2, 0, 1]) _ (fun lv' n w2 h2 hwt => ?_)
        have h3 := h2.unpack (i := 0) rfl
        have H3 := Lib.hid h3
        have HWT := Lib.hid (hwt w2 (Below.refl _ _))
        rw [HTX.out] at HWT
        clear h2 h3 hwt
        go_wp2_with fail
        refine HWT.out _ (fun w3 hb3 => ?_)
        have h4 := H3.out.below hb3
        have x0 := h4.cell 1 rfl 0 rfl
        have x1 := h4.cell 1 rfl 1 rfl
        have fx := h4.free 1 rfl
        have hx := h4.lt 1 rfl
        have H4 := Lib.hid h4
        clear h4 hb3
        go_wp2_with fail
        refine bodyPost_ret ?_ rfl (HOK.out _ _ HT.out ?_)
        · rw [HTX.out]; simp [results, Tryz.results9, go_sem, ftVal, x0, x1]
        · first | exact Prt.Sat.isBelow ((H4.out.store 1 rfl 0 (.int .i64 0)).store 1 rfl 1 (.int .i64 0)) | exact Prt.Sat.isBelow (((H4.out.store 1 rfl 0 (.int .i64 0)).store 1 rfl 1 (.int .i64 0)).drew)
end Go.Proofs.YtdlbhiaceheffaaGreatDoor

namespace Go.Proofs.YtdlbhiaceheffaaGreatDoor
open Go Go.RowKit
open Prt (Sat As blk pur exs star stars)
open Ty (Tr)

set_option maxRecDepth 100000 in
set_option maxHeartbeats 2000000 in
theorem TypesUnion_walk (v : Value) (l : List ByteArray) (w : World) (hv : StrSl w v l) (hw : Words w) (hm : ∀ s ∈ l, s.size ≤ maxLen) {R : Ending → World → Prop} (hR : ∀ w', Below w.heap.size w w' → R (.returned (.bool true)) w') :
    Calls Tryz.prog 3 #[v] w R := by
  have HR := Lib.hid hR
  have HW := Lib.hid hw
  have HM := Lib.hid hm
  have HV := Lib.hid hv
  obtain ⟨va, vc, rfl⟩ := hv.slice
  clear hR hw hm hv
  go_enter Tryz.func3, Tryz.ntmps3
  go_wp2_with fail
  refine UnionS_any w _ l HV.out HW.out HM.out (fun r w1 ht hb => ?_) (fun f w1 ht hb => ?_)
  · have HT := Lib.hid ht
    have h1 := ((Prt.Sat.old w).below hb).allocAt (.cells #[.int .i64 0, .int .i64 0] 25) w1.heap.size
    have H1 := Lib.hid h1
    generalize hs : bs r = s at *
    have HS := Lib.hid hs
    clear ht hb h1 hs
    dsimp only [ftVal]
    go_wp2_with fail
    refine UnionOf_any _ _ l (HV.out.below H1.out.isBelow) HM.out (fun r2 w2 ht hb => ?_) (fun f w2 ht hb => absurd (HT.out.symm.trans ht) (by simp))
    obtain rfl := Except.ok.inj (HT.out.symm.trans ht)
    rw [HS.out]
    have h2 := (H1.out.below hb).allocAt (.cells #[.int .i64 0, .int .i64 0] 25) w2.heap.size
    have H2 := Lib.hid h2
    clear ht hb h2
    dsimp only [ftVal]
    go_wp2_with fail
    refine typesBegun_any _ (HW.out.below H2.out.isBelow) (fun w3 hb => ?_)
    have h3 := H2.out.below hb
    have x0 := h3.cell 1 rfl 0 rfl
    have x1 := h3.cell 1 rfl 1 rfl
    have y0 := h3.cell 2 rfl 0 rfl
    have y1 := h3.cell 2 rfl 1 rfl
    have H3 := Lib.hid h3
    clear hb h3
    go_wp2_with fail
    exact HR.out _ H3.out.isBelow
  · have HT := Lib.hid ht
    obtain ⟨fe, fp⟩ := f
    have h1 := ((Prt.Sat.old w).below hb).allocAt (.cells #[.int .i64 fe, .int .i64 fp] 25) w1.heap.size
    have H1 := Lib.hid h1
    clear ht hb h1
    dsimp only [ftVal]
    go_wp2_with fail
    refine UnionOf_any _ _ l (HV.out.below H1.out.isBelow) HM.out (fun r2 w2 ht hb => absurd (HT.out.symm.trans ht) (by simp)) (fun f w2 ht hb => ?_)
    obtain rfl := Except.error.inj (HT.out.symm.trans ht)
    have h2 := (H1.out.below hb).allocAt (.cells #[.int .i64 fe, .int .i64 fp] 25) w2.heap.size
    have H2 := Lib.hid h2
    clear ht hb h2
    dsimp only [ftVal]
    go_wp2_with fail
    refine typesBegun_any _ (HW.out.below H2.out.isBelow) (fun w3 hb => ?_)
    have h3 := H2.out.below hb
    have x0 := h3.cell 1 rfl 0 rfl
    have x1 := h3.cell 1 rfl 1 rfl
    have y0 := h3.cell 2 rfl 0 rfl
    have y1 := h3.cell 2 rfl 1 rfl
    have H3 := Lib.hid h3
    clear hb h3
    go_wp2_with fail
    exact HR.out _ H3.out.isBelow
end Go.Proofs.YtdlbhiaceheffaaGreatDoor

namespace Go.Proofs.YtdlbhiaceheffaaGreatDoor.typesUnion
open Go.ChangeShapes Go.WideShapes Go.ChangeAt Go.RowKit Go.Lib
open Go.ChangeMaps (open_string shut_string)

theorem laid_met (os : Os) (args : Array Value) : laidMet Tryz.prog Rows.typesUnionRow.laid ((laidWorld os).forCall (fun _ _ => 0) ⟨#[], args, []⟩).memory :=
  laidMet_of_run' 8 (by kernel_rfl) (by kernel_rfl)

theorem witness_row (os : Os) {H : Type} (enc : TypeId × Value → H) :
    (OpenSpec.ofChange Rows.typesUnionSpec).preRow enc Tryz.prog Tryz.f3 Rows.typesUnionRow.domain false Rows.typesUnionRow.laid ((laidWorld os).forCall (fun _ _ => 0) ⟨#[], #[.slice none 0 0], []⟩).memory #[.slice none 0 0] := by
  have hw : (DataW.whole enc Tryz.prog ((laidWorld os).forCall (fun _ _ => 0) ⟨#[], #[.slice none 0 0], []⟩).memory Tryz.f3.params.toList Rows.typesUnionSpec.vars false #[Value.slice none 0 0].toList 8).map (fun x => (x.1, x.2.1)) =
      some ([.nil], []) := by kernel_rfl
  obtain ⟨⟨x1, x2, x3⟩, hx, hx1⟩ := Option.map_eq_some_iff.1 hw
  simp only [Prod.mk.injEq] at hx1
  obtain ⟨rfl, rfl⟩ := hx1
  exact OpenSpec.preRow_of_cond 8 hx (by kernel_rfl) (fun k hk => by cases hk) (by kernel_rfl) (laid_met os _)

set_option maxRecDepth 100000 in
set_option maxHeartbeats 2000000 in
theorem lifted (os : Os) (started : os.Started) (H : Type) (enc : TypeId × Value → H) (F : Stop.Interp) :
    ReturnsInHanded {} Tryz.checked os 3 .any ((OpenSpec.ofChange Rows.typesUnionSpec).preRow enc Tryz.prog Tryz.f3 Rows.typesUnionRow.domain false Rows.typesUnionRow.laid) (((OpenSpec.ofChange Rows.typesUnionSpec).at F).post enc Tryz.prog Tryz.f3 false true false false) := by
  refine returnsInHanded_of_row (C := Tryz.checked) (s := OpenSpec.ofChange Rows.typesUnionSpec) ownKnob_none started (by kernel_rfl) Tryz.func3
    (witness_row_atRef (enc := enc) (C := Tryz.checked) false (laidWorld os) #[.slice none 0 0] rfl (by kernel_rfl) (by kernel_rfl) (by kernel_rfl) (witness_row os enc)) ?_
  intro W base args ds gs before hval0 hW _ _ _ hL _ _
  have hval : ∀ (j : Nat) t v, Tryz.f3.params[j]? = some t → args[j]? = some v → Value.okWide Tryz.prog W .any base t v := hval0
  have hW' := hW
  obtain ⟨p, q, hA0, hV0, rfl, _, _⟩ := hW
  have hA : DataW.TrodAll enc Tryz.prog W 0 (fun _ => true) true Tryz.f3.params.toList args.toList ds p := hA0
  rw [Tryz.params3] at hA hval
  obtain ⟨v0, d0, rfl, rfl, h0⟩ := trodAll_one hA
  obtain ⟨rfl, rfl⟩ := trodVars_none hV0
  obtain ⟨a0, len, cap, rfl⟩ := okWide_slice Tryz.underlying22 (hval 0 22 v0 rfl rfl)
  have h0k := h0
  obtain ⟨fuel, hf⟩ := h0
  clear hA0 hV0 hval0
  simp only [List.append_nil] at hW'
  have hlt : ∀ x ∈ p, x.block < W.heap.size := fun x hx => by simpa using hW'.lt x hx
  have hwords : Words W := words_of_laid (Lib.laidMet.reads hL (.head _))
  have hstr : ∃ l : List ByteArray, StrSl W (.slice a0 len cap) l ∧ ∀ s ∈ l, s.size ≤ maxLen := by
    rcases open_strings Tryz.underlying22 Tryz.underlying9 (by kernel_rfl) hf with ⟨hcs, _⟩ | ⟨a, len', cap', ss, hcs, _, hl, _, hz, _, hcell, hws⟩
    · simp [Value.cells] at hcs
      obtain ⟨rfl, rfl, rfl⟩ := hcs
      exact ⟨[], .inl ⟨none, 0, rfl, rfl⟩, fun s hs => by simp at hs⟩
    · simp [Value.cells] at hcs
      obtain ⟨rfl, rfl, rfl⟩ := hcs
      simp only [if_true] at hz
      by_cases hl0 : len = 0
      · subst hl0
        exact ⟨[], .inl ⟨_, _, rfl, rfl⟩, fun s hs => by simp at hs⟩
      · obtain ⟨b, off, spot⟩ := a
        have hspot : spot = none := by simpa [Addr.add] using World.cell?_spot (hcell 0 (by omega))
        subst hspot
        have htk : (ss.take len).length = len := by simp; omega
        refine ⟨ss.take len, .inr ⟨b, off, cap, by rw [htk], fun k hk => ?_⟩, fun s hs => hws s (List.mem_of_mem_take hs)⟩
        have h := hcell k (by omega)
        rw [add_plain] at h
        rw [h]
        rw [htk] at hk
        simp [List.getD, List.getElem?_eq_getElem (show k < ss.length by omega)]
  obtain ⟨l, hs, hm⟩ := hstr
  refine TypesUnion_walk _ l W hs hwords hm (fun W' bel => ?_)
  refine ⟨_, rfl, _, _, _, [], p, [], hW', ?_, ?_, ?_, bel.frame _, fun h => by cases h⟩
  · exact trodAll_mk1 (shut_bool Tryz.underlying4 _)
  · exact trodAll_mk1 (Below.trod (by kernel_rfl) (by kernel_rfl) (of_decide_eq_true (by kernel_rfl)) h0k bel hlt)
  · rfl

theorem said : Rows.TypesUnionSaid :=
  OpenClaim.holds_of_cond 3 Tryz.f3 rfl rfl rfl rfl rfl rfl rfl ⟨rfl, rfl, rfl, rfl, rfl⟩ rfl rfl rfl rfl rfl (by kernel_rfl) Tryz.func3 (by kernel_rfl)
    (of_decide_eq_true (by kernel_rfl)) (by unfold Func.isWrapper; first | (rw [if_pos (by decide +kernel)]; kernel_rfl) | (rw [if_neg (by decide +kernel)]; exact ⟨rfl, rfl⟩))
    (fun os started H enc _ F => by rw [OpenClaim.pre_eq_preRow]; exact lifted os started H enc F)

/-- No parameter wants a stand-in; the program's own looks are off: what the card asks. -/
theorem plain (f : FuncId) (fn : Func) (hf : Tryz.pinned.checked.prog.funcNamed "guardrail/guardraillaw.TypesUnion" = some f) (hfn : Tryz.pinned.checked.prog.funcs[f]? = some fn) :
    true = Tryz.pinned.checked.prog.looks [] ∧ ∀ (j : Nat) t, fn.params[j]? = some t → Tryz.pinned.checked.prog.wantsStandIn t = false := by
  obtain rfl : f = 3 := Option.some.inj ((show Tryz.prog.funcNamed "guardrail/guardraillaw.TypesUnion" = some 3 by kernel_rfl).symm.trans hf) |>.symm
  obtain rfl : fn = Tryz.f3 := (Option.some.inj (Tryz.func3.symm.trans hfn)).symm
  refine ⟨by kernel_rfl, fun j t ht => ?_⟩
  rw [Tryz.params3] at ht
  obtain rfl : t = 22 := by simpa using Array.mem_of_getElem? ht
  exact (show Tryz.prog.wantsStandIn 22 = false by kernel_rfl)

/-- The card. -/
theorem card : Rows.TypesUnionCardSaid :=
  Claim7.holds_tied_plain_at .later [] _ _ _ _ said (fun _ h => by cases h) (by kernel_rfl) (fun _ h => by cases h) typesUnion_row_tie rfl ⟨rfl, rfl⟩ (by kernel_rfl) rfl plain (by kernel_rfl)
end Go.Proofs.YtdlbhiaceheffaaGreatDoor.typesUnion
