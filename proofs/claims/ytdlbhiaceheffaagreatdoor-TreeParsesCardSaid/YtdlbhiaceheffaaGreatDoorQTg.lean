/- Walks of types.TagsOf. Walk of types.open. -/
import Derived.Test.YtdlbhiaceheffaaGreatDoorQTw
import Derived.Test.YtdlbhiaceheffaaGreatDoorQPlainB
namespace Go.Proofs.YtdlbhiaceheffaaGreatDoor
open Go Go.RowKit
open Prt (Sat As blk pur exs star stars)
open Ty (Tr)

/-- The cells of a node. -/
theorem rep_cells {w : World} {k : Nat} {names : List ByteArray} {parts list of : List Tr} {p : Value} (h : rep (Prt.hp w) (.mk k names parts list of) p) :
    ∃ (b : Nat) (pv lv ov : Value) (ps ls os : List Value), p = .pointer (some ⟨b, 0, none⟩) ∧ b < w.heap.size ∧ w.cell? ⟨b, 0, none⟩ = some (.int .i64 (k : Nat)) ∧ w.cell? ⟨b, 1, none⟩ = some pv ∧ w.cell? ⟨b, 2, none⟩ = some lv ∧ w.cell? ⟨b, 3, none⟩ = some ov ∧
      w.ownsRow 0 125 2 pv ps.length (paCells names ps) ∧ names.length = ps.length ∧ reps (Prt.hp w) parts ps ∧ w.ownsRow 0 47 1 lv ls.length ls ∧ reps (Prt.hp w) list ls ∧ reps (Prt.hp w) of os ∧ (os = [] ∧ ov = .pointer none ∨ os = [ov]) := by
  rw [rep] at h
  obtain ⟨b, pv, lv, ov, ps, ls, os, h1, h2, h3, h4, h5, h6, h7, h8, h9⟩ := h
  have hb : w.heap[b]? = some (.cells #[.int .i64 (k : Nat), pv, lv, ov] 101 (0, 0)) := h2
  exact ⟨b, pv, lv, ov, ps, ls, os, h1, (Array.getElem?_eq_some_iff.1 hb).1, by rw [cell_of_block hb]; rfl, by rw [cell_of_block hb]; rfl, by rw [cell_of_block hb]; rfl, by rw [cell_of_block hb]; rfl, row_owns h3, h4, h5, row_owns h6, h7, h8, h9⟩
theorem ptrs_at {w : World} {v : Value} {ls : List Value} (h : w.ownsRow 0 47 1 v ls.length ls) (k : Nat) (hk : k < ls.length) : ∃ g cap : Nat, v = .slice (some ⟨g, 0, none⟩) ls.length cap ∧ g < w.heap.size ∧ w.cell? ⟨g, k, none⟩ = some ls[k] := by
  obtain ⟨g, cap, rfl, _, hg⟩ := h.form (by omega)
  refine ⟨g, cap, rfl, hg, ?_⟩
  have := World.ownsRow.cells h (g := g) rfl k ls[k] (by simp [hk])
  rwa [Addr.add_lit, Nat.zero_add] at this
theorem or_fin : ∀ a b : Fin 128, bits BinOp.or IntKind.i64 ((a.1 : Nat) : Int) ((b.1 : Nat) : Int) = ((a.1 ||| b.1 : Nat) : Int) := by decide +kernel
theorem or_any (a b : Nat) (ha : a < 128) (hb : b < 128) : bits BinOp.or IntKind.i64 (a : Int) (b : Int) = ((a ||| b : Nat) : Int) := or_fin ⟨a, ha⟩ ⟨b, hb⟩
set_option maxRecDepth 100000 in
set_option maxHeartbeats 1000000 in
theorem TagsOf_any (w : World) : ∀ (N : Nat) (t : Tr), Ty.sz t < N → Ty.okT t → ∀ p, rep (Prt.hp w) t p → ∀ R : Ending → World → Prop, R (.returned (.int .i64 (Ty.tags t : Nat))) w → Calls Tryz.prog 58 #[p] w R := by
  intro N
  induction N with
  | zero => intro t h; omega
  | succ N ih =>
    intro t hN hok p hrep R hR
    obtain ⟨k, names, parts, list, of⟩ := t
    obtain ⟨b, pv, lv, ov, ps, ls, os, rfl, hb, c0, c1, c2, c3, _, _, _, hrow, hls, _⟩ := rep_cells hrep
    rw [Ty.okT] at hok
    obtain ⟨hk, _, _, _, _, _, hlen, _, hokl, _⟩ := hok
    rw [Ty.tags] at hR
    have hle := reps_len hls
    have HR := Lib.hid hR
    have HROW := Lib.hid hrow
    obtain ⟨la, lc, rfl⟩ := owns_slice hrow
    have HIH : Hid (∀ j (hj : j < list.length) (hj2 : j < ls.length), ∀ R : Ending → World → Prop, R (.returned (.int .i64 (Ty.tags list[j] : Nat))) w → Calls Tryz.prog 58 #[ls[j]] w R) := fun j hj hj2 R hR =>
      ih list[j] (by have := Ty.sz_list (List.getElem_mem hj) k names parts of; omega) (Ty.okL_mem hokl _ (List.getElem_mem hj)) ls[j] (reps_at hls j hj hj2) R hR
    have HOK := Lib.hid hokl
    have hll : ls.length ≤ 1000000 := by omega
    have HLE := Lib.hid hle
    clear hR hrow hN hrep ih hokl hls hle
    by_cases hk10 : k = 10
    · subst hk10
      rw [if_pos rfl] at HR
      go_enter Tryz.func58, Tryz.ntmps58
      go_wp2_with fail
      go_loop [3, 17] (fun v i => ∃ j : Nat, j ≤ ls.length ∧ i = .int .i64 j ∧ v = .int .i64 (Ty.tagsL (list.take j) : Nat)) (fun _ i => ls.length - (intOf i).toNat)
      case atStart => exact ⟨0, by omega, rfl, by simp [Ty.tagsL]⟩
      case round =>
        obtain ⟨j, hj, rfl, rfl⟩ := hrel
        by_cases hlt : j < ls.length
        · obtain ⟨gl, capl, e, hgl, d0⟩ := ptrs_at HROW.out j hlt
          cases e
          have hj2 : j < list.length := by have := HLE.out; omega
          have HI := Lib.hid (HIH.out j hj2 hlt)
          have HT := Lib.hid (List.take_succ_eq_append_getElem hj2)
          have hta := Ty.tagsL_le (list.take j) (Ty.okL_of fun t ht => Ty.okL_mem HOK.out t (List.mem_of_mem_take ht))
          have htb := Ty.tags_le list[j] (Ty.okL_mem HOK.out _ (List.getElem_mem hj2))
          have HS := Lib.hid (Ty.tagsL_snoc (list.take j) list[j])
          generalize Ty.tagsL (list.take j) = ta at *
          generalize list[j] = tj at *
          generalize ls[j] = pj at *
          generalize Ty.tags tj = tb at *
          clear hj2
          go_wp2_with fail
          refine HI.out _ ?_
          go_wp2_with fail
          go_round
          case rel => exact ⟨j + 1, by omega, by go_num, by rw [HT.out, HS.out, or_any ta tb hta htb]⟩
          case measure => simp [intOf]; omega
        · have hje : j = list.length := by have := HLE.out; omega
          have HT : Hid (Ty.tagsL (list.take j) = Ty.tagsL list) := by rw [hje, List.take_length]; rfl
          clear hje
          go_wp2_with fail
          exact ret_eq HR.out (by rw [HT.out])
    · rw [if_neg hk10] at HR
      have hk' : k = 1 ∨ k = 2 ∨ k = 3 ∨ k = 4 ∨ k = 5 ∨ k = 6 ∨ k = 7 ∨ k = 8 ∨ k = 9 := by omega
      clear hk10
      rcases hk' with rfl | rfl | rfl | rfl | rfl | rfl | rfl | rfl | rfl
      all_goals
        go_enter Tryz.func58, Tryz.ntmps58
        go_wp2_with fail
        exact ret_eq HR.out (congrArg (Value.int .i64) (by decide))
end Go.Proofs.YtdlbhiaceheffaaGreatDoor

namespace Go.Proofs.YtdlbhiaceheffaaGreatDoor
open Go Go.RowKit
open Prt (Sat As blk pur exs star stars)
open Ty (Tr)

/-- What opening texts of types comes to. -/
def openFrom : List ByteArray → List Tr → Except Ty.Ft (List Tr)
  | [], acc => .ok acc
  | s :: l, acc => match Ty.typeOf s with
    | .error f => .error f
    | .ok ts => openFrom l (acc ++ [Ty.den ts (ts.length - 1)])
theorem str_at {w : World} {v : Value} {l : List ByteArray} (h : w.ownsRow 0 9 1 v l.length (l.map Value.string)) (k : Nat) (hk : k < l.length) : ∃ g cap : Nat, v = .slice (some ⟨g, 0, none⟩) l.length cap ∧ g < w.heap.size ∧ w.cell? ⟨g, k, none⟩ = some (.string l[k]) := by
  obtain ⟨g, cap, rfl, _, hg⟩ := h.form (by omega)
  refine ⟨g, cap, rfl, hg, ?_⟩
  have := World.ownsRow.cells h (g := g) rfl k (.string l[k]) (by simp [hk])
  rwa [Addr.add_lit, Nat.zero_add] at this
/-- A slice of strings that is read: wherever it begins. -/
def StrSl (w : World) (v : Value) (l : List ByteArray) : Prop := (∃ a cap, v = .slice a 0 cap ∧ l = []) ∨ ∃ b o cap, v = .slice (some ⟨b, o, none⟩) l.length cap ∧ ∀ k (hk : k < l.length), w.cell? ⟨b, o + k, none⟩ = some (.string l[k])
theorem StrSl.slice {w : World} {v : Value} {l : List ByteArray} (h : StrSl w v l) : ∃ a cap, v = .slice a l.length cap := by
  rcases h with ⟨a, cap, rfl, rfl⟩ | ⟨b, o, cap, rfl, _⟩
  · exact ⟨a, cap, rfl⟩
  · exact ⟨_, cap, rfl⟩
theorem cell_lt {w : World} {b o : Nat} {x : Value} (h : w.cell? ⟨b, o, none⟩ = some x) : b < w.heap.size := by
  refine Nat.lt_of_not_le fun hb => ?_
  unfold World.cell? at h
  rw [show w.heap[(⟨b, o, none⟩ : Addr).block]? = none from Array.getElem?_eq_none hb] at h
  simp at h
theorem StrSl.at {w : World} {v : Value} {l : List ByteArray} (h : StrSl w v l) (k : Nat) (hk : k < l.length) : ∃ b o cap : Nat, v = .slice (some ⟨b, o, none⟩) l.length cap ∧ b < w.heap.size ∧ w.cell? ⟨b, o + k, none⟩ = some (.string l[k]) := by
  rcases h with ⟨a, cap, rfl, rfl⟩ | ⟨b, o, cap, rfl, h⟩
  · simp at hk
  · exact ⟨b, o, cap, rfl, cell_lt (h k hk), h k hk⟩
theorem StrSl.below {w w' : World} {v : Value} {l : List ByteArray} (h : StrSl w v l) (hb : Below w.heap.size w w') : StrSl w' v l := by
  rcases h with h | ⟨b, o, cap, rfl, h⟩
  · exact .inl h
  · exact .inr ⟨b, o, cap, rfl, fun k hk => (hb.cell (p := ⟨b, o + k, none⟩) (cell_lt (h k hk))).trans (h k hk)⟩
theorem StrSl.of_owns {w : World} {v : Value} {l : List ByteArray} (h : w.ownsRow 0 9 1 v l.length (l.map Value.string)) : StrSl w v l := by
  by_cases h0 : l = []
  · subst h0
    obtain ⟨a, cap, rfl⟩ := owns_slice h
    exact .inl ⟨a, cap, rfl, rfl⟩
  · obtain ⟨g, cap, rfl, _⟩ := str_at h 0 (List.length_pos_iff.2 h0)
    refine .inr ⟨g, 0, cap, rfl, fun k hk => ?_⟩
    obtain ⟨g2, cap2, e, _, hc⟩ := str_at h k hk
    cases e
    rw [Nat.zero_add]; exact hc
set_option maxRecDepth 100000 in
set_option maxHeartbeats 2000000 in
theorem topenS_any (w : World) (v : Value) (l : List ByteArray) (hv : StrSl w v l) (hl : l.length ≤ 1000) (hw : Words w) (hm : ∀ s ∈ l, s.size ≤ maxLen) {R : Ending → World → Prop}
    (hok : ∀ trs ps pv w', openFrom l [] = .ok trs → Sat w w' [Prt.oldA w, Prt.row 47 1 pv ps.length ps, treesA ps trs] → R (.returned (.tuple #[pv, ftVal (0, 0)])) w')
    (hbad : ∀ f w', openFrom l [] = .error f → Below w.heap.size w w' → R (.returned (.tuple #[.slice none 0 0, ftVal f])) w') :
    Calls Tryz.prog 23 #[v] w R := by
  have HOK := Lib.hid hok
  have HBAD := Lib.hid hbad
  have HV := Lib.hid hv
  have HW := Lib.hid hw
  have HMX := Lib.hid hm
  obtain ⟨j0, tj, uz0, uz1, uz2⟩ := info_parts infoTp
  obtain ⟨va, vc, rfl⟩ := hv.slice
  clear hok hbad hv hw hm
  go_enter Tryz.func23, Tryz.ntmps23
  go_wp2_with fail
  have h1 := (((Prt.Sat.old w).allocAt (.cells #[.int .i64 0, .int .i64 0] 25) w.heap.size).nil 47 1).triv (P := treesA [] []) (fun _ => by show reps _ [] []; rw [reps])
  have H1 := Lib.hid h1
  clear h1
  go_loopw [4, 11] (fun v i wr => ∃ (k : Nat) (ps : List Value) (trs : List Tr), i = .int .i64 k ∧ k ≤ l.length ∧ ps.length ≤ k ∧ Hid (Sat w wr [Prt.oldA w, blk w.heap.size (.cells #[.int .i64 0, .int .i64 0] 25 (0, 0)), Prt.row 47 1 v ps.length ps, treesA ps trs]) ∧ Hid (openFrom l [] = openFrom (l.drop k) trs))
    (fun _ i _ => l.length - (intOf i).toNat)
  case atStart => exact ⟨0, [], [], rfl, by omega, by simp, H1.out, rfl⟩
  case round =>
    obtain ⟨k, ps, trs, rfl, hk, hp1, hS, hE⟩ := hrel
    obtain ⟨pa, pc, rfl⟩ := owns_slice (hS.out.row 2 rfl)
    by_cases hlt : k < l.length
    · have hb := hS.out.isBelow
      obtain ⟨gs, os, caps, e, hgs, d0⟩ := (HV.out.below hb).at k hlt
      cases e
      have HE2 : Hid (openFrom l [] = openFrom (l[k] :: l.drop (k + 1)) trs) := by show _ = _; rw [hE.out, List.drop_eq_getElem_cons hlt]
      have hmx := HMX.out l[k] (List.getElem_mem hlt)
      generalize l[k] = s at *
      have HMS := Lib.hid hmx
      have hww := HW.out.below hb
      have HWW := Lib.hid hww
      have h2 : Sat w wr [stars [Prt.oldA w, blk w.heap.size (.cells #[.int .i64 0, .int .i64 0] 25 (0, 0)), Prt.row 47 1 (.slice pa ps.length pc) ps.length ps, treesA ps trs]] := Prt.Sat.pack (L := []) hS.out
      have H2 := Lib.hid h2
      clear hb hmx hww h2 hE
      go_wp2_with fail
      refine Type_any H2.out s HWW.out HMS.out (fun ts tv w1 ht h3 => ?_) (fun f w1 ht h3 => ?_)
      · have h4 := (h3.unpack (i := 0) rfl).pick [1, 2, 3, 4, 0]
        obtain ⟨rows, hrt, hrd⟩ := h4.tyRd 4 rfl
        obtain ⟨hwf, hpos, hl300⟩ := Ty.typeOf_wf ht
        have hrl : rows.length = ts.length := by rw [← hrt]; simp
        have hr0 : 0 < rows.length := by omega
        obtain ⟨gt, capt, rfl, hgt, hrc, hcm, _⟩ := hrd.at hr0
        have HOF := Lib.hid (fun w' hrd' R hR => Of_any (.slice (some ⟨gt, 0, none⟩) rows.length capt) rows ts hrt hwf hl300 (rows.length - 1 + 1) (rows.length - 1) (by omega) (by omega) w' hrd' R hR)
        have hrd2 := hrd.below ((Below.refl w1.heap.size w1).alloc (Nat.le_refl _) (.cells #[.int .i64 0, .int .i64 0] 25))
        have HRD := Lib.hid hrd2
        have h5 := (h4.pick [0, 1, 2, 3]).waste (.cells #[.int .i64 0, .int .i64 0] 25)
        have H5 := Lib.hid h5
        have HE3 : Hid (openFrom l [] = openFrom (l.drop (k + 1)) (trs ++ [Ty.den ts (rows.length - 1)])) := by
          show _ = _
          rw [HE2.out, openFrom, ht, hrl]
        have hr3 : rows.length ≤ 300 := by omega
        clear ht h3 h4 hrt hrd hwf hrl hrd2 h5 HE2 hpos
        dsimp only [ftVal]
        go_wp2_with fail
        have e : ((rows.length : Int) - 1) = ((rows.length - 1 : Nat) : Int) := by omega
        rw [e]
        clear e
        refine HOF.out _ HRD.out _ (fun p w2 h6 => ?_)
        obtain ⟨pb2, rfl, _⟩ := rep_ptr (h6.tree 1 rfl)
        have H7 := Lib.hid (H5.out.join h6)
        clear h6
        go_wp2_with (at_builtin; go_loud (refine wpList_append_lies _ rfl (.tmp 24) (.tmp 30) 43 rfl 0 47 j0 _ 1 8 Tryz.underlying43 tj uz0 uz1 uz2 rfl (by decide) _ _ ps (by rfl) ((H7.out.row 2 rfl).alloc _) ⟨w2.heap.size, 0, none⟩ 1 1 [.pointer (some ⟨pb2, 0, none⟩)] (by rfl) (by rfl) (World.news_of_block (cs := #[.pointer (some ⟨pb2, 0, none⟩)]) (t := 47) (fr := (0, 0)) (heap_alloc_at' _ _ _ (by simp))) (by simp [Value.oneCell']) (by omega) (by unfold maxLen; omega) (by omega) (by simp) (w2.heap.size + 1) (by simp) ?_))
        intro g4 cap4 w4 hown4 hgrow4 hat4 hlt4
        have h8 := Prt.Sat.grow (H7.out.waste _) 2 rfl hgrow4 hown4 (by simpa using hat4)
        have h9 := h8.ent (i := 2) rfl (Q := Prt.row 47 1 (.slice (some ⟨g4, 0, none⟩) (ps.length + 1) cap4) (ps ++ [Value.pointer (some ⟨pb2, 0, none⟩)]).length (ps ++ [Value.pointer (some ⟨pb2, 0, none⟩)])) (fun _ h => ptRow_snoc h)
        have h10 := Prt.Sat.pack (L := [_, _, _]) (M := [_, _]) h9
        have h11 := h10.ent (i := 3) rfl (Q := treesA (ps ++ [Value.pointer (some ⟨pb2, 0, none⟩)]) (trs ++ [Ty.den ts (rows.length - 1)])) (fun _ h => treesA_snoc h)
        have H11 := Lib.hid h11
        clear h8 h9 h10 h11 hown4 hgrow4
        go_wp2_with fail
        go_roundw
        case rel => exact ⟨k + 1, ps ++ [Value.pointer (some ⟨pb2, 0, none⟩)], trs ++ [Ty.den ts (rows.length - 1)], by go_num, by omega, by simp; omega, H11.out, HE3.out⟩
        case measure => simp [intOf]; omega
      · have h4 := h3.unpack (i := 0) rfl
        have hE : openFrom l [] = .error f := by rw [HE2.out, openFrom, ht]
        have hb := Ty.typeOf_bad ht
        obtain ⟨fe, fp⟩ := f
        dsimp only at hb
        have e2 : ((fe : Int) != 0) = true := by simp; omega
        have x0 := h4.cell 1 rfl 0 rfl
        have x1 := h4.cell 1 rfl 1 rfl
        have fx := h4.free 1 rfl
        have hx := h4.lt 1 rfl
        have hx2 : w.heap.size < w1.heap.size + 1 := by omega
        have H4 := Lib.hid h4
        have HE3 := Lib.hid hE
        clear h3 h4 hE hb ht
        dsimp only [ftVal]
        go_wp2_with fail
        go_region
        all_goals
          go_wp2_with fail
          refine bodyPost_ret ?_ rfl (HBAD.out (fe, fp) _ HE3.out ?_)
          · simp [results, Tryz.results23, go_sem, ftVal, hx, x0, x1]
          · exact Prt.Sat.isBelow ((((H4.out.store 1 rfl 0 (.int .i64 fe)).store 1 rfl 1 (.int .i64 fp)).waste _).drew)
    · have hE : openFrom l [] = .ok trs := by rw [hE.out, List.drop_eq_nil_of_le (by omega)]; rfl
      have HE3 := Lib.hid hE
      have x0 := hS.out.cell 1 rfl 0 rfl
      have x1 := hS.out.cell 1 rfl 1 rfl
      have fx := hS.out.free 1 rfl
      have hx := hS.out.lt 1 rfl
      clear hE
      go_wp2_with fail
      refine bodyPost_ret ?_ rfl (HOK.out trs ps (.slice pa ps.length pc) _ HE3.out ?_)
      · simp [results, Tryz.results23, go_sem, ftVal, x0, x1]
      · exact ((hS.out.store 1 rfl 0 (.int .i64 0)).store 1 rfl 1 (.int .i64 0)).pick [0, 2, 3]
theorem topen_any (w : World) (v : Value) (l : List ByteArray) (hv : w.ownsRow 0 9 1 v l.length (l.map Value.string)) (hl : l.length ≤ 1000) (hw : Words w) (hm : ∀ s ∈ l, s.size ≤ maxLen) {R : Ending → World → Prop}
    (hok : ∀ trs ps pv w', openFrom l [] = .ok trs → Sat w w' [Prt.oldA w, Prt.row 47 1 pv ps.length ps, treesA ps trs] → R (.returned (.tuple #[pv, ftVal (0, 0)])) w')
    (hbad : ∀ f w', openFrom l [] = .error f → Below w.heap.size w w' → R (.returned (.tuple #[.slice none 0 0, ftVal f])) w') :
    Calls Tryz.prog 23 #[v] w R := topenS_any w v l (.of_owns hv) hl hw hm hok hbad
end Go.Proofs.YtdlbhiaceheffaaGreatDoor
