/- The reference's Move: parts of memory that it works on; plain steps. Walk of the reference's Move. -/
import Derived.Test.YtdlbhiaceheffaaGreatDoorQRf
import Derived.Test.YtdlbhiaceheffaaGreatDoorQTrB
namespace Go.Proofs.YtdlbhiaceheffaaGreatDoor
open Go Go.RowKit
open Prt (Sat As blk pur exs star stars)
open Ty (Tr)

/-- A list of types that is read, with its rows. -/
def rowsA (v : Value) (rows : List TyRow) : As := stars [Prt.row 77 4 v rows.length (rows.flatMap tyCells), stars (rows.map tyBits)]
theorem Prt.Sat.rdRows {w0 w : World} {L : List As} (h : Sat w0 w L) (i : Nat) {v : Value} {rows : List TyRow} (hi : L[i]? = some (rowsA v rows)) : TyRd w v rows := by
  refine h.get hi fun a ha hl => ?_
  obtain ⟨z, u, _, hz, hu, h1, q, _, _, hq, _, hbits, _⟩ := ha
  refine ⟨row_owns (row_le h1 (Prt.le_trans hz hl)), fun r hrm => ?_⟩
  obtain ⟨b, hb, hp⟩ := stars_mem hbits _ (List.mem_map_of_mem hrm)
  obtain ⟨c, d, _, hc, hd, p1, p2⟩ := hp
  have hle2 : Prt.le q (Prt.hp w) := Prt.le_trans hq (Prt.le_trans hu hl)
  exact ⟨row_owns (row_le p1 (Prt.le_trans hc (Prt.le_trans hb hle2))), row_owns (row_le p2 (Prt.le_trans hd (Prt.le_trans hb hle2)))⟩
theorem tyA_open {v : Value} {ts : List Ty.Ty} {a : Prt.Hp} (h : tyA v ts a) : exs (fun rows : List TyRow => star (pur (rows.map TyRow.t = ts)) (rowsA v rows)) a := by
  obtain ⟨rows, x, y, h1, h2, h3, h4, h5⟩ := h
  refine ⟨rows, x, y, h1, h2, h3, h4, ?_⟩
  have e : ts.length = rows.length := by have := congrArg List.length (show rows.map TyRow.t = ts from h4); simpa using this.symm
  rw [e] at h5; exact h5
theorem tyA_of_rows {v : Value} {rows : List TyRow} {ts : List Ty.Ty} {a : Prt.Hp} (hr : rows.map TyRow.t = ts) (h : rowsA v rows a) : tyA v ts a := by
  refine ⟨rows, fun _ => none, a, fun _ => .inl rfl, fun _ _ e => (by cases e), Prt.le_refl _, hr, ?_⟩
  have e : ts.length = rows.length := by rw [← hr]; simp
  rw [e]; exact h
theorem Prt.Sat.rows {w0 w : World} {L : List As} (h : Sat w0 w L) (i : Nat) {v : Value} {ts : List Ty.Ty} (hi : L[i]? = some (tyA v ts)) : ∃ rows, rows.map TyRow.t = ts ∧ Sat w0 w (L.set i (rowsA v rows)) := by
  have h1 := h.ent hi (Q := exs (fun rows : List TyRow => star (pur (rows.map TyRow.t = ts)) (rowsA v rows))) (fun _ h => tyA_open h)
  have hi2 : (L.set i (exs fun rows : List TyRow => star (pur (rows.map TyRow.t = ts)) (rowsA v rows)))[i]? = some (exs fun rows : List TyRow => star (pur (rows.map TyRow.t = ts)) (rowsA v rows)) := by
    rw [List.getElem?_set_self (Prt.Sat.lt_of hi)]
  obtain ⟨rows, h2⟩ := h1.ex hi2
  rw [List.set_set] at h2
  have hi3 : (L.set i (star (pur (rows.map TyRow.t = ts)) (rowsA v rows)))[i]? = some (star (pur (rows.map TyRow.t = ts)) (rowsA v rows)) := by
    rw [List.getElem?_set_self (Prt.Sat.lt_of hi)]
  have hp : rows.map TyRow.t = ts := h2.get hi3 fun a ha _ => by
    obtain ⟨_, _, _, _, _, h, _⟩ := ha; exact h
  have h3 := h2.ent hi3 (Q := rowsA v rows) (fun a ha => by
    obtain ⟨x, y, _, _, hy, _, h⟩ := ha
    exact Prt.stars_mono h hy)
  rw [List.set_set] at h3
  exact ⟨rows, hp, h3⟩
/-- A type more. -/
theorem tyA_snoc {v fv lv : Value} {acc : List Ty.Ty} {t : Ty.Ty} {rows : List TyRow} {a : Prt.Hp} (hr : rows.map TyRow.t = acc)
    (h : stars [Prt.row 77 4 v (acc.length + 1) (rows.flatMap tyCells ++ tyCells ⟨t, fv, lv⟩), stars (rows.map tyBits), fdA fv t.fields, inA lv t.list] a) : tyA v (acc ++ [t]) a := by
  obtain ⟨a1, r1, d1, l1, m1, h1, a2, r2, d2, l2, m2, h2, a3, r3, d3, l3, m3, h3, a4, r4, _, l4, _, h4, _⟩ := h
  refine ⟨rows ++ [⟨t, fv, lv⟩], fun _ => none, a, fun _ => .inl rfl, fun _ _ e => (by cases e), Prt.le_refl _, ?_, a1, r1, d1, l1, m1, ?_, r1, fun _ => none, fun _ => .inr rfl, Prt.le_refl _, fun _ _ e => (by cases e), ?_, trivial⟩
  · show _ = _; rw [List.map_append, hr]; rfl
  · rw [List.flatMap_append, List.length_append]; exact h1
  · rw [List.map_append]
    refine Prt.stars_append h2 (b := r2) ?_ d2 l2 m2
    exact ⟨r2, fun _ => none, fun _ => .inr rfl, Prt.le_refl _, fun _ _ e => (by cases e), ⟨a3, r3, d3, l3, m3, h3, row_le h4 l4⟩, trivial⟩
theorem fdA_zip {v : Value} {ns : List ByteArray} {nums : List Nat} {n : ByteArray} {m : Nat} {a : Prt.Hp} (hl : ns.length = nums.length) (h : Prt.row 82 2 v ((ns.zip nums).length + 1) ((ns.zip nums).flatMap fdCells ++ [.string n, .int .i64 (m : Nat)]) a) : fdA v ((ns ++ [n]).zip (nums ++ [m])) a := by
  have e : (ns ++ [n]).zip (nums ++ [m]) = ns.zip nums ++ [(n, m)] := by rw [List.zip_append hl]; rfl
  rw [e]
  unfold fdA
  rw [List.length_append, List.flatMap_append]
  exact h
end Go.Proofs.YtdlbhiaceheffaaGreatDoor

namespace Go.Proofs.YtdlbhiaceheffaaGreatDoor
open Go Go.RowKit
open Prt (Sat As blk pur exs star stars)
open Ty (Tr)

def MvSpec (v : Value) (rows : List TyRow) (ts : List Ty.Ty) (n : Nat) : Prop := ∀ (w0 w : World) (Fr : As) (lv : Value) (acc : List Ty.Ty), Sat w0 w [Fr, rowsA v rows, tyA lv acc] → acc.length + Ty.cnt (Ty.den ts n) ≤ 1000000 → ∀ R : Ending → World → Prop,
  (∀ lv' w', Sat w0 w' [Fr, rowsA v rows, tyA lv' (Ty.put (Ty.den ts n) acc).1] → R (.returned (.tuple #[lv', .int .i64 ((Ty.put (Ty.den ts n) acc).2 : Nat)])) w') → Calls Tryz.prog 26 #[lv, v, .int .i64 (n : Nat)] w R
/-- The steps of a list that is laid. -/
structure Steps (P : Nat → List Ty.Ty × List Nat) (l : List Tr) (acc : List Ty.Ty) : Prop where
  zero : P 0 = (acc, [])
  succ : ∀ k (hk : k < l.length), P (k + 1) = ((Ty.put l[k] (P k).1).1, (P k).2 ++ [(Ty.put l[k] (P k).1).2])
  nums : ∀ k, k ≤ l.length → (P k).2.length = k
  len : ∀ k (hk : k < l.length), (P k).1.length + Ty.cnt l[k] ≤ acc.length + Ty.cntL l
  all : P l.length = Ty.putL l acc
theorem steps_of (l : List Tr) (acc : List Ty.Ty) : Steps (fun k => Ty.putL (l.take k) acc) l acc where
  zero := by simp [Ty.putL]
  succ := fun k hk => by rw [List.take_succ_eq_append_getElem hk, Ty.putL_snoc]
  nums := fun k hk => by rw [(Ty.putL_nums _ _).1, List.length_take]; omega
  len := fun k hk => by have := Ty.putL_len (l.take k) acc; have := cntL_take l k hk; omega
  all := by rw [List.take_length]
set_option maxRecDepth 100000 in
set_option maxHeartbeats 4000000 in
theorem Move_all (v : Value) (rows : List TyRow) (ts : List Ty.Ty) (hts : rows.map TyRow.t = ts) (hw : Ty.Wf ts) (hlen : ts.length ≤ 1000000) : ∀ N n, n < N → n < ts.length → MvSpec v rows ts n := by
  intro N
  induction N with
  | zero => intro n h; omega
  | succ N ih =>
    intro n hN hn w0 w Fr lv acc H hb R hR
    have hrl : rows.length = ts.length := by rw [← hts]; simp
    have hrd := H.rdRows 1 rfl
    obtain ⟨g, cap, rfl, hg, hcap, hcm, hcells⟩ := hrd.at (by omega)
    obtain ⟨q0, q1, q2, q3⟩ := hcells n (by omega)
    have hget : (rows.map TyRow.t)[n]? = some rows[n].t := by rw [List.getElem?_map, List.getElem?_eq_getElem (by omega)]; rfl
    rw [hts] at hget
    have HBITS : Hid (∀ w', TyRd w' (.slice (some ⟨g, 0, none⟩) rows.length cap) rows → w'.ownsRow 0 82 2 rows[n].fv rows[n].t.fields.length (rows[n].t.fields.flatMap fdCells) ∧ w'.ownsRow 0 3 1 rows[n].lv rows[n].t.list.length (rows[n].t.list.map inCell)) := fun w' h => h.bits rows[n] (List.getElem_mem _)
    have hbits := HBITS.out w hrd
    have hwf := hw n _ hget
    have hden := Ty.den_eq hw hget
    have HC : Hid (∀ j, j < n → MvSpec (.slice (some ⟨g, 0, none⟩) rows.length cap) rows ts j) := fun j hj => ih j (by omega) (by omega)
    generalize rows[n] = r at *
    obtain ⟨⟨kd, fds, lst, of⟩, rfv, rlv⟩ := r
    dsimp only at q0 q1 q2 q3 hbits hwf hden HBITS
    obtain ⟨hb1, hb2⟩ := hbits
    obtain ⟨fa, fc, rfl⟩ := owns_slice hb1
    obtain ⟨la, lc, rfl⟩ := owns_slice hb2
    have HWF := Lib.hid hwf
    have hfl := hwf.lens.1
    have hll := hwf.lens.2
    dsimp only at hfl hll
    rw [hden] at hb hR
    rw [Ty.cnt] at hb
    rw [Ty.put] at hR
    have hS1 := steps_of (fds.map fun f => Ty.den ts f.2) acc
    generalize hPP : (fun k => Ty.putL ((fds.map fun f => Ty.den ts f.2).take k) acc) = P at hS1
    have hS2 := steps_of (lst.map (Ty.den ts)) (P fds.length).1
    generalize hQQ : (fun k => Ty.putL ((lst.map (Ty.den ts)).take k) (P fds.length).1) = Q at hS2
    have hP := hS1.all
    have hQ := hS2.all
    rw [List.length_map] at hP hQ
    have hlP := Ty.putL_len (fds.map fun f => Ty.den ts f.2) acc
    have hlQ := Ty.putL_len (lst.map (Ty.den ts)) (P fds.length).1
    rw [← hP] at hlP hR
    rw [← hQ] at hlQ hR
    have HS1 := Lib.hid hS1
    have HS2 := Lib.hid hS2
    have HLP := Lib.hid hlP
    have HLQ := Lib.hid hlQ
    have HB := Lib.hid hb
    have HR := Lib.hid hR
    have hr3 : rows.length ≤ 1000000 := by omega
    have hn3 : n < rows.length := by omega
    obtain ⟨i0, ti, tz0, tz1, tz2⟩ := info_parts infoFd
    obtain ⟨j0, tj, uz0, uz1, uz2⟩ := info_parts infoInt
    obtain ⟨l0, tl, vz0, vz1, vz2⟩ := info_parts infoTy
    have h1 := (H.allocAt (.cells #[.int .i64 kd, .slice fa fds.length fc, .slice la lst.length lc, .int .i64 of] 77) w.heap.size).allocAt (.cells #[.int .i64 kd, .slice none 0 0, .slice none 0 0, .int .i64 0] 77) (w.heap.size + 1)
    have h2 := (h1.nil 82 2).pick [0, 1, 2, 3, 4, 5]
    have h3 := h2.ent (i := 2) rfl (Q := tyA lv (P 0).1) (fun _ h => by rw [hS1.zero]; exact h)
    have h4 := h3.ent (i := 5) rfl (Q := fdA (.slice none 0 0) (((fds.take 0).map Prod.fst).zip (P 0).2)) (fun _ h => by rw [hS1.zero]; exact h)
    have H4 := Lib.hid h4
    clear hPP hQQ ih hcells hget hwf hden hrd H hR hb1 hb2 hrl hts hw hS1 hS2 hP hQ hlP hlQ hb h1 h2 h3 h4
    go_enter Tryz.func26, Tryz.ntmps26
    go_wp2_with fail
    go_loopw [0, 11] (fun l i wr => ∃ (k : Nat) (xf lk : Value), lk = l ∧ i = .int .i64 k ∧ k ≤ fds.length ∧ Hid (Sat w0 wr [Fr, rowsA (.slice (some ⟨g, 0, none⟩) rows.length cap) rows, tyA lk (P k).1, blk w.heap.size (.cells #[.int .i64 kd, .slice fa fds.length fc, .slice la lst.length lc, .int .i64 of] 77 (0, 0)), blk (w.heap.size + 1) (.cells #[.int .i64 kd, xf, .slice none 0 0, .int .i64 0] 77 (0, 0)), fdA xf (((fds.take k).map Prod.fst).zip (P k).2)]))
      (fun _ i _ => fds.length - (intOf i).toNat)
    case atStart => exact ⟨0, .slice none 0 0, lv, rfl, rfl, by omega, H4.out⟩
    case round =>
      obtain ⟨k, xf, lk, rfl, rfl, hk, hS⟩ := hrel
      have x1 := hS.out.cell 3 rfl 1 rfl
      by_cases hlt : k < fds.length
      · obtain ⟨gf, capf, e, hgf, d0, d1⟩ := fds_at (HBITS.out _ (hS.out.rdRows 1 rfl)).1 k hlt
        cases e
        have hfj := HWF.out.fields fds[k] (List.getElem_mem _)
        have hlk : k < (fds.map fun f => Ty.den ts f.2).length := by simpa using hlt
        have hsu := HS1.out.succ k hlk
        have hle := HS1.out.len k hlk
        rw [List.getElem_map] at hsu hle
        have hnum := HS1.out.nums k (by simpa using hk)
        have HTK := Lib.hid (List.take_succ_eq_append_getElem hlt)
        have HIH := Lib.hid (HC.out fds[k].2 hfj w0 wr _ _ _ ((Prt.Sat.pack (L := [_, _]) (M := [_, _, _, _]) (hS.out.pick [1, 2, 0, 3, 4, 5])).pick [2, 0, 1]) (by have := HB.out; have := HLP.out; omega))
        have HSU := Lib.hid hsu
        have hzl : (((fds.take k).map Prod.fst).zip (P k).2).length = k := by rw [List.length_zip, hnum, List.length_map, List.length_take]; omega
        have HNL : Hid (((fds.take k).map Prod.fst).length = (P k).2.length) := by show _ = _; rw [hnum, List.length_map, List.length_take]; omega
        obtain ⟨⟨nm, ix⟩, hfd⟩ : ∃ x, fds[k] = x := ⟨_, rfl⟩
        rw [hfd] at d0 d1 hfj HTK HIH HSU
        dsimp only at d0 d1 hfj
        have HFD := Lib.hid hfd
        clear hfd
        have HZL := Lib.hid hzl
        clear hfj hlk hsu hle hnum hzl
        go_wp2_with fail
        refine HIH.out _ (fun lv2 w2 h2 => ?_)
        generalize Ty.put (Ty.den ts ix) (P k).1 = pt at *
        obtain ⟨pl, pn⟩ := pt
        dsimp only at h2 HSU ⊢
        have h3 := (h2.unpack (i := 0) rfl).pick [2, 0, 1, 3, 4, 5]
        obtain ⟨xa, xc, ex⟩ := owns_slice (h3.row 5 rfl)
        rw [HZL.out] at ex
        subst ex
        have x2 := h3.cell 3 rfl 1 rfl
        have y2 := h3.cell 4 rfl 1 rfl
        have fy := h3.free 4 rfl 1
        obtain ⟨gf2, capf2, e2, _, z0, _⟩ := fds_at (HBITS.out _ (h3.rdRows 1 rfl)).1 k hlt
        cases e2
        rw [HFD.out] at z0
        have hz3 := h3.lt 3 rfl
        have hz4 := h3.lt 4 rfl
        have hrow := h3.row 5 rfl
        rw [HZL.out] at hrow
        have HROW := Lib.hid hrow
        have H3 := Lib.hid h3
        clear h2 h3 hrow d0 d1 x1
        go_wp2_with fail
        go_region_law (first | (go_loud (refine step_append_lies _ (by rfl) _ _ _ (by rfl) 0 82 i0 _ 2 24 Tryz.underlying75 ti tz0 tz1 tz2 rfl (by omega) (.slice xa k xc) k ((((fds.take k).map Prod.fst).zip (P k).2).flatMap fdCells) (by rfl) ((HROW.out.alloc _).drew) ⟨w2.heap.size, 0, none⟩ 1 1 [.string nm, .int .i64 (pn : Nat)] (by rfl) (by rfl) (World.news_of_block (cs := #[.string nm, .int .i64 (pn : Nat)]) (t := 82) (fr := (0, 0)) (heap_drew_at (heap_alloc_at' _ _ _ (by simp)))) (by simp [Value.oneCell']) (by omega) (by unfold maxLen; omega) (by omega) (by simp) (w2.heap.size + 1) (by simp) ?_); intro g4 cap4 w4 hown4 hgrow4 hat4 hlt4; have h4 := Prt.Sat.grow (m := k + 1) ((H3.out.waste _).drew) 5 rfl hgrow4 hown4 (by simpa using hat4); have x5 := h4.cell 4 rfl 1 rfl; have f5 := h4.free 4 rfl 1; have H4 := Lib.hid h4; clear h4))
        all_goals
          clear hown4 hgrow4
          have h5 := H4.out.store 4 rfl 1 (.slice (some ⟨g4, 0, none⟩) (k + 1) cap4)
          have h6 := h5.ent (i := 5) rfl (Q := fdA (.slice (some ⟨g4, 0, none⟩) (k + 1) cap4) (((fds.take (k + 1)).map Prod.fst).zip (P (k + 1)).2)) (fun _ h => by rw [HSU.out, HTK.out, List.map_append]; exact fdA_zip HNL.out (by rw [HZL.out]; exact h))
          have h7 := h6.ent (i := 2) rfl (Q := tyA lv2 (P (k + 1)).1) (fun _ h => by rw [HSU.out]; exact h)
          have H7 := Lib.hid h7
          clear h5 h6 h7
          go_wp2_with fail
          go_roundw
          case rel => exact ⟨k + 1, .slice (some ⟨g4, 0, none⟩) (k + 1) cap4, lv2, rfl, by go_num, by omega, H7.out⟩
          case measure => simp [intOf]; omega
      · have hke : k = fds.length := by omega
        have h2 := hS.out
        rw [hke, List.take_length] at h2
        have h3 := ((h2.nil 3 1).ent (i := 2) rfl (Q := tyA lk (Q 0).1) (fun _ h => by rw [HS2.out.zero]; exact h)).ent (i := 6) rfl (Q := inA (.slice none 0 0) (Q 0).2) (fun _ h => by rw [HS2.out.zero]; exact h)
        have h4 := h3.ent (i := 5) rfl (Q := fdA xf ((fds.map Prod.fst).zip (P fds.length).2)) (fun _ h => h)
        have H4 := Lib.hid h4
        clear h2 h3 h4 hke hS
        go_wp2_with fail
        clear x1
        go_loopw [0, 12] (fun l i wr => ∃ (k : Nat) (xl lk : Value), lk = l ∧ i = .int .i64 k ∧ k ≤ lst.length ∧ Hid (Sat w0 wr [Fr, rowsA (.slice (some ⟨g, 0, none⟩) rows.length cap) rows, tyA lk (Q k).1, blk w.heap.size (.cells #[.int .i64 kd, .slice fa fds.length fc, .slice la lst.length lc, .int .i64 of] 77 (0, 0)), blk (w.heap.size + 1) (.cells #[.int .i64 kd, xf, xl, .int .i64 0] 77 (0, 0)), fdA xf ((fds.map Prod.fst).zip (P fds.length).2), inA xl (Q k).2]))
          (fun _ i _ => lst.length - (intOf i).toNat)
        case atStart => exact ⟨0, .slice none 0 0, lk, rfl, rfl, by omega, H4.out⟩
        case round =>
          obtain ⟨k, xl, lk, rfl, rfl, hk, hS⟩ := hrel
          have x1 := hS.out.cell 3 rfl 2 rfl
          by_cases hlt : k < lst.length
          · obtain ⟨gf, capf, e, hgf, d0⟩ := ints_at (HBITS.out _ (hS.out.rdRows 1 rfl)).2 k hlt
            cases e
            have hfj := HWF.out.list lst[k] (List.getElem_mem _)
            have hlk : k < (lst.map (Ty.den ts)).length := by simpa using hlt
            have hsu := HS2.out.succ k hlk
            have hle := HS2.out.len k hlk
            rw [List.getElem_map] at hsu hle
            have hnum := HS2.out.nums k (by simpa using hk)
            have HIH := Lib.hid (HC.out lst[k] hfj w0 wr _ _ _ ((Prt.Sat.pack (L := [_, _]) (M := [_, _, _, _, _]) (hS.out.pick [1, 2, 0, 3, 4, 5, 6])).pick [2, 0, 1]) (by have := HB.out; have := HLP.out; have := HLQ.out; omega))
            have HSU := Lib.hid hsu
            have HNL : Hid ((Q k).2.length = k) := hnum
            generalize lst[k] = ix at *
            clear hfj hlk hsu hle hnum
            go_wp2_with fail
            refine HIH.out _ (fun lv2 w2 h2 => ?_)
            generalize Ty.put (Ty.den ts ix) (Q k).1 = pt at *
            obtain ⟨pl, pn⟩ := pt
            dsimp only at h2 HSU ⊢
            have h3 := (h2.unpack (i := 0) rfl).pick [2, 0, 1, 3, 4, 5, 6]
            obtain ⟨xa, xc, ex⟩ := owns_slice (h3.row 6 rfl)
            rw [HNL.out] at ex
            subst ex
            have y2 := h3.cell 4 rfl 2 rfl
            have fy := h3.free 4 rfl 2
            have hz4 := h3.lt 4 rfl
            have hrow := h3.row 6 rfl
            rw [HNL.out] at hrow
            have HROW := Lib.hid hrow
            have H3 := Lib.hid h3
            clear h2 h3 hrow d0 x1
            go_wp2_with (at_builtin; go_loud (refine wpList_append_lies _ rfl (.tmp 71) (.tmp 73) 49 rfl 0 3 j0 _ 1 8 Tryz.underlying49 tj uz0 uz1 uz2 rfl (by decide) _ _ ((Q k).2.map inCell) (by rfl) (HROW.out.alloc _) ⟨w2.heap.size, 0, none⟩ 1 1 [.int .i64 (pn : Nat)] (by rfl) (by rfl) (World.news_of_block (cs := #[.int .i64 (pn : Nat)]) (t := 3) (fr := (0, 0)) (heap_alloc_at' _ _ _ (by simp))) (by simp [Value.oneCell']) (by omega) (by unfold maxLen; omega) (by omega) (by simp) (w2.heap.size + 1) (by simp) ?_))
            intro g4 cap4 w4 hown4 hgrow4 hat4 hlt4
            have h4 := Prt.Sat.grow (m := k + 1) (H3.out.waste _) 6 rfl hgrow4 hown4 (by simpa using hat4)
            have x5 := h4.cell 4 rfl 2 rfl
            have f5 := h4.free 4 rfl 2
            have h5 := h4.store 4 rfl 2 (.slice (some ⟨g4, 0, none⟩) (k + 1) cap4)
            have h6 := h5.ent (i := 6) rfl (Q := inA (.slice (some ⟨g4, 0, none⟩) (k + 1) cap4) (Q (k + 1)).2) (fun _ h => by rw [HSU.out]; exact inA_snoc (by rw [HNL.out]; exact h))
            have h7 := h6.ent (i := 2) rfl (Q := tyA lv2 (Q (k + 1)).1) (fun _ h => by rw [HSU.out]; exact h)
            have H7 := Lib.hid h7
            clear h4 h5 h6 h7 hown4 hgrow4
            go_wp2_with fail
            go_roundw
            case rel => exact ⟨k + 1, .slice (some ⟨g4, 0, none⟩) (k + 1) cap4, lv2, rfl, by go_num, by omega, H7.out⟩
            case measure => simp [intOf]; omega
          · have hke : k = lst.length := by omega
            have h0 := hS.out
            rw [hke] at h0
            generalize (fds.map Prod.fst).zip (P fds.length).2 = FL at h0 HR
            generalize (Q lst.length).2 = NL at h0 HR
            have HS0 := Lib.hid h0
            clear h0
            have x0 := hS.out.cell 3 rfl 0 rfl
            have x3 := hS.out.cell 3 rfl 3 rfl
            have hkc : ((kd : Int) == 8) = true ∨ ((kd : Int) == 8) = false ∧ ((kd : Int) == 9) = true ∨ (((kd : Int) == 8) = false ∧ ((kd : Int) == 9) = false) ∧ ¬ (kd = 8 ∨ kd = 9) := by
              by_cases e8 : kd = 8
              · left; simp [e8]
              · by_cases e9 : kd = 9
                · right; left; simp [e9]
                · right; right; simp; omega
            rcases hkc with k8 | ⟨k8, k9⟩ | ⟨⟨k8, k9⟩, hno⟩
            · have hkd : kd = 8 ∨ kd = 9 := (Or.inl (by have := beq_iff_eq.1 k8; omega))
              have HIH := Lib.hid (HC.out of (HWF.out.of hkd) w0 wr _ _ _ ((Prt.Sat.pack (L := [_, _]) (M := [_, _, _, _, _]) (HS0.out.pick [1, 2, 0, 3, 4, 5, 6])).pick [2, 0, 1]) (by have := HB.out; rw [if_pos hkd, Ty.cntL, Ty.cntL] at this; have := HLP.out; have := HLQ.out; omega))
              rw [if_pos hkd, Ty.putL, Ty.putL] at HR
              clear hkd
              go_wp2_with fail
              refine HIH.out _ (fun lv2 w2 h2 => ?_)
              dsimp only [List.headD] at HR
              have hpl := Ty.put_len (Ty.den ts of) (Q lst.length).1
              generalize Ty.put (Ty.den ts of) (Q lst.length).1 = pt at *
              obtain ⟨pl, pn⟩ := pt
              dsimp only at h2 HR hpl ⊢
              have h3 := (h2.unpack (i := 0) rfl).pick [2, 0, 1, 3, 4, 5, 6]
              have hplb : pl.length ≤ 1000000 := by have := HB.out; rw [if_pos (Or.inl (by have := beq_iff_eq.1 k8; omega)), Ty.cntL, Ty.cntL] at this; have := HLP.out; have := HLQ.out; omega
              have y3 := h3.cell 4 rfl 3 rfl
              have fy := h3.free 4 rfl 3
              have hz4 := h3.lt 4 rfl
              have H3 := Lib.hid h3
              clear h2 h3 hpl
              go_upto_region 16 with fail
              have h4 := H3.out.store 4 rfl 3 (.int .i64 (pn : Nat))
              obtain ⟨rows2, h5⟩ := h4.ex (i := 2) rfl
              have h5 := h5.unpack (i := 2) rfl
              have hr2 := h5.pure 6 rfl
              obtain ⟨a2, cap2, rfl⟩ := owns_slice (h5.row 7 rfl)
              obtain ⟨xa, xc, rfl⟩ := owns_slice (h5.row 4 rfl)
              obtain ⟨ya, yc, rfl⟩ := owns_slice (h5.row 5 rfl)
              have z0 := h5.cell 3 rfl 0 rfl
              have z1 := h5.cell 3 rfl 1 rfl
              have z2 := h5.cell 3 rfl 2 rfl
              have z3 := h5.cell 3 rfl 3 rfl
              have HROW := Lib.hid (h5.row 7 rfl)
              have H5 := Lib.hid h5
              have HR2 := Lib.hid hr2
              clear h5 hr2
              go_wp2_with (at_builtin; go_loud (refine wpList_append_lies _ rfl (.tmp 93) (.tmp 95) 31 rfl 0 77 l0 _ 4 64 Tryz.underlying31 tl vz0 vz1 vz2 rfl (by decide) _ _ (rows2.flatMap tyCells) (by rfl) (HROW.out.alloc _) ⟨w2.heap.size, 0, none⟩ 1 1 [.int .i64 kd, .slice xa FL.length xc, .slice ya NL.length yc, .int .i64 (pn : Nat)] (by rfl) (by rfl) (World.news_of_block (cs := #[.int .i64 kd, .slice xa FL.length xc, .slice ya NL.length yc, .int .i64 (pn : Nat)]) (t := 77) (fr := (0, 0)) (heap_alloc_at' _ _ _ (by simp))) (by simp [Value.oneCell']) (by omega) (by unfold maxLen; omega) (by omega) (by simp) (w2.heap.size + 1) (by simp) ?_))
              intro g6 cap6 w6 hown6 hgrow6 hat6 hlt6
              have h6 := (Prt.Sat.grow (m := pl.length + 1) (H5.out.waste _) 7 rfl hgrow6 hown6 (by simpa using hat6)).pick [0, 1, 7, 8, 4, 5]
              have h7 := (Prt.Sat.pack (L := [_, _]) (M := [_, _, _, _]) h6).ent (i := 2) rfl (Q := tyA (.slice (some ⟨g6, 0, none⟩) (pl.length + 1) cap6) (pl ++ [⟨kd, FL, NL, pn⟩])) (fun _ h => tyA_snoc (acc := pl) (t := ⟨kd, FL, NL, pn⟩) (rows := rows2) (fv := .slice xa FL.length xc) (lv := .slice ya NL.length yc) HR2.out h)
              have H7 := Lib.hid h7
              clear h6 h7 hown6 hgrow6
              go_wp2_with fail
              exact HR.out _ _ H7.out
            · have hkd : kd = 8 ∨ kd = 9 := (Or.inr (by have := beq_iff_eq.1 k9; omega))
              have HIH := Lib.hid (HC.out of (HWF.out.of hkd) w0 wr _ _ _ ((Prt.Sat.pack (L := [_, _]) (M := [_, _, _, _, _]) (HS0.out.pick [1, 2, 0, 3, 4, 5, 6])).pick [2, 0, 1]) (by have := HB.out; rw [if_pos hkd, Ty.cntL, Ty.cntL] at this; have := HLP.out; have := HLQ.out; omega))
              rw [if_pos hkd, Ty.putL, Ty.putL] at HR
              clear hkd
              go_wp2_with fail
              refine HIH.out _ (fun lv2 w2 h2 => ?_)
              dsimp only [List.headD] at HR
              have hpl := Ty.put_len (Ty.den ts of) (Q lst.length).1
              generalize Ty.put (Ty.den ts of) (Q lst.length).1 = pt at *
              obtain ⟨pl, pn⟩ := pt
              dsimp only at h2 HR hpl ⊢
              have h3 := (h2.unpack (i := 0) rfl).pick [2, 0, 1, 3, 4, 5, 6]
              have hplb : pl.length ≤ 1000000 := by have := HB.out; rw [if_pos (Or.inr (by have := beq_iff_eq.1 k9; omega)), Ty.cntL, Ty.cntL] at this; have := HLP.out; have := HLQ.out; omega
              have y3 := h3.cell 4 rfl 3 rfl
              have fy := h3.free 4 rfl 3
              have hz4 := h3.lt 4 rfl
              have H3 := Lib.hid h3
              clear h2 h3 hpl
              go_upto_region 16 with fail
              have h4 := H3.out.store 4 rfl 3 (.int .i64 (pn : Nat))
              obtain ⟨rows2, h5⟩ := h4.ex (i := 2) rfl
              have h5 := h5.unpack (i := 2) rfl
              have hr2 := h5.pure 6 rfl
              obtain ⟨a2, cap2, rfl⟩ := owns_slice (h5.row 7 rfl)
              obtain ⟨xa, xc, rfl⟩ := owns_slice (h5.row 4 rfl)
              obtain ⟨ya, yc, rfl⟩ := owns_slice (h5.row 5 rfl)
              have z0 := h5.cell 3 rfl 0 rfl
              have z1 := h5.cell 3 rfl 1 rfl
              have z2 := h5.cell 3 rfl 2 rfl
              have z3 := h5.cell 3 rfl 3 rfl
              have HROW := Lib.hid (h5.row 7 rfl)
              have H5 := Lib.hid h5
              have HR2 := Lib.hid hr2
              clear h5 hr2
              go_wp2_with (at_builtin; go_loud (refine wpList_append_lies _ rfl (.tmp 93) (.tmp 95) 31 rfl 0 77 l0 _ 4 64 Tryz.underlying31 tl vz0 vz1 vz2 rfl (by decide) _ _ (rows2.flatMap tyCells) (by rfl) (HROW.out.alloc _) ⟨w2.heap.size, 0, none⟩ 1 1 [.int .i64 kd, .slice xa FL.length xc, .slice ya NL.length yc, .int .i64 (pn : Nat)] (by rfl) (by rfl) (World.news_of_block (cs := #[.int .i64 kd, .slice xa FL.length xc, .slice ya NL.length yc, .int .i64 (pn : Nat)]) (t := 77) (fr := (0, 0)) (heap_alloc_at' _ _ _ (by simp))) (by simp [Value.oneCell']) (by omega) (by unfold maxLen; omega) (by omega) (by simp) (w2.heap.size + 1) (by simp) ?_))
              intro g6 cap6 w6 hown6 hgrow6 hat6 hlt6
              have h6 := (Prt.Sat.grow (m := pl.length + 1) (H5.out.waste _) 7 rfl hgrow6 hown6 (by simpa using hat6)).pick [0, 1, 7, 8, 4, 5]
              have h7 := (Prt.Sat.pack (L := [_, _]) (M := [_, _, _, _]) h6).ent (i := 2) rfl (Q := tyA (.slice (some ⟨g6, 0, none⟩) (pl.length + 1) cap6) (pl ++ [⟨kd, FL, NL, pn⟩])) (fun _ h => tyA_snoc (acc := pl) (t := ⟨kd, FL, NL, pn⟩) (rows := rows2) (fv := .slice xa FL.length xc) (lv := .slice ya NL.length yc) HR2.out h)
              have H7 := Lib.hid h7
              clear h6 h7 hown6 hgrow6
              go_wp2_with fail
              exact HR.out _ _ H7.out
            · have hplb : (Q lst.length).1.length ≤ 1000000 := by have := HB.out; have := HLP.out; have := HLQ.out; omega
              rw [if_neg hno, Ty.putL] at HR
              dsimp only [List.headD] at HR
              have h4 := HS0.out
              clear hno
              obtain ⟨rows2, h5⟩ := h4.ex (i := 2) rfl
              have h5 := h5.unpack (i := 2) rfl
              have hr2 := h5.pure 6 rfl
              obtain ⟨a2, cap2, rfl⟩ := owns_slice (h5.row 7 rfl)
              obtain ⟨xa, xc, rfl⟩ := owns_slice (h5.row 4 rfl)
              obtain ⟨ya, yc, rfl⟩ := owns_slice (h5.row 5 rfl)
              have z0 := h5.cell 3 rfl 0 rfl
              have z1 := h5.cell 3 rfl 1 rfl
              have z2 := h5.cell 3 rfl 2 rfl
              have z3 := h5.cell 3 rfl 3 rfl
              have HROW := Lib.hid (h5.row 7 rfl)
              have H5 := Lib.hid h5
              have HR2 := Lib.hid hr2
              clear h5 hr2
              go_wp2_with (at_builtin; go_loud (refine wpList_append_lies _ rfl (.tmp 93) (.tmp 95) 31 rfl 0 77 l0 _ 4 64 Tryz.underlying31 tl vz0 vz1 vz2 rfl (by decide) _ _ (rows2.flatMap tyCells) (by rfl) (HROW.out.alloc _) ⟨wr.heap.size, 0, none⟩ 1 1 [.int .i64 kd, .slice xa FL.length xc, .slice ya NL.length yc, .int .i64 0] (by rfl) (by rfl) (World.news_of_block (cs := #[.int .i64 kd, .slice xa FL.length xc, .slice ya NL.length yc, .int .i64 0]) (t := 77) (fr := (0, 0)) (heap_alloc_at' _ _ _ (by simp))) (by simp [Value.oneCell']) (by omega) (by unfold maxLen; omega) (by omega) (by simp) (wr.heap.size + 1) (by simp) ?_))
              intro g6 cap6 w6 hown6 hgrow6 hat6 hlt6
              have h6 := (Prt.Sat.grow (m := (Q lst.length).1.length + 1) (H5.out.waste _) 7 rfl hgrow6 hown6 (by simpa using hat6)).pick [0, 1, 7, 8, 4, 5]
              have h7 := (Prt.Sat.pack (L := [_, _]) (M := [_, _, _, _]) h6).ent (i := 2) rfl (Q := tyA (.slice (some ⟨g6, 0, none⟩) ((Q lst.length).1.length + 1) cap6) ((Q lst.length).1 ++ [⟨kd, FL, NL, 0⟩])) (fun _ h => tyA_snoc (acc := (Q lst.length).1) (t := ⟨kd, FL, NL, 0⟩) (rows := rows2) (fv := .slice xa FL.length xc) (lv := .slice ya NL.length yc) HR2.out h)
              have H7 := Lib.hid h7
              clear h6 h7 hown6 hgrow6
              go_wp2_with fail
              exact HR.out _ _ H7.out
end Go.Proofs.YtdlbhiaceheffaaGreatDoor
