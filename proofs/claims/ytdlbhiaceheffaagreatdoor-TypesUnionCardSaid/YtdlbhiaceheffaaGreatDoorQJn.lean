/- Walk of the reference's flatten. Walk of the reference's JoinOf. -/
import Derived.Test.YtdlbhiaceheffaaGreatDoorQMv
import Derived.Test.YtdlbhiaceheffaaGreatDoorQUn
import Derived.Test.YtdlbhiaceheffaaGreatDoorQWt
import Derived.Test.YtdlbhiaceheffaaGreatDoorQRf
import Derived.BigQuiet
namespace Go.Proofs.YtdlbhiaceheffaaGreatDoor
open Go Go.RowKit
open Prt (Sat As blk pur exs star stars)
open Ty (Tr)

/-- A call of flatten that comes to numbers of a type's own ones. -/
def RflC (v : Value) (w : World) (ts : List Ty.Ty) (n : Nat) : Prop := ∀ w1, Below w.heap.size w w1 → ∀ R : Ending → World → Prop, (∀ u nums w2, Sat w1 w2 [Prt.oldA w1, inA u nums] → nums.map (Ty.den ts) = Ty.flatT (Ty.den ts n) → (∀ j ∈ nums, j < ts.length) → R (.returned u) w2) → Calls Tryz.prog 54 #[v, .int .i64 (n : Nat)] w1 R
theorem inA_app {v : Value} {l m : List Nat} {n : Nat} {a : Prt.Hp} (hn : n = l.length + m.length) (h : Prt.row 3 1 v n (l.map inCell ++ m.map inCell) a) : inA v (l ++ m) a := by
  unfold inA
  rw [List.length_append, ← hn, List.map_append]; exact h
set_option maxRecDepth 100000 in
set_option maxHeartbeats 2000000 in
theorem flatten_all (w : World) (v : Value) (rows : List TyRow) (ts : List Ty.Ty) (hts : rows.map TyRow.t = ts) (hw : Ty.Wf ts) (hlen : ts.length ≤ 1000000) (hrd : TyRd w v rows) : ∀ (N n : Nat), n < N → n < ts.length → Ty.cnt (Ty.den ts n) ≤ 1000000 → RflC v w ts n := by
  intro N
  induction N with
  | zero => intro n h; omega
  | succ N ih =>
    intro n hN hn hcnt w1 hw1 R hR
    obtain ⟨g, cap, x, rfl, hg, hcap, hcm, hx, hA, hfx, hlx⟩ := (hrd.below hw1).look hts hn
    have wx := hw n _ hx
    have da := Ty.den_eq hw hx
    have hun := Ty.den_uni hw _ n (Nat.lt_succ_self _) hn
    obtain ⟨⟨kd, fds, lst, of⟩, fv, lv⟩ := x
    obtain ⟨q0, q1, q2, q3⟩ := hA
    dsimp only at hfx hlx wx da q0 q1 q2 q3
    obtain ⟨la, lc, rfl⟩ := owns_slice hlx
    have HR := Lib.hid hR
    rw [da] at hcnt HR hun
    clear hR q1 q3 hfx
    rw [Ty.flatT] at HR
    by_cases hk : kd = 10
    · rw [if_pos hk] at HR
      subst hk
      rw [Ty.cnt] at hcnt
      rw [Ty.uniT] at hun
      have HROW := Lib.hid hlx
      have HWF := Lib.hid wx.list
      have HC : Hid (∀ j, j < n → Ty.cnt (Ty.den ts j) ≤ 1000000 → RflC (.slice (some ⟨g, 0, none⟩) ts.length cap) w ts j) := fun j hj h => ih j (by omega) (by omega) h
      have HLC : Hid (∀ j (hj : j < lst.length), Ty.cnt (Ty.den ts lst[j]) + Ty.cntL ((lst.map (Ty.den ts)).take j) ≤ 1000000 ∧ 0 < (Ty.flatT (Ty.den ts lst[j])).length ∧ (lst.map (Ty.den ts)).take (j + 1) = (lst.map (Ty.den ts)).take j ++ [Ty.den ts lst[j]]) := fun j hj => by
        have h1 := cntL_take (lst.map (Ty.den ts)) j (by simpa using hj)
        have h2 := List.take_succ_eq_append_getElem (l := lst.map (Ty.den ts)) (i := j) (by simpa using hj)
        rw [List.getElem_map] at h1 h2
        exact ⟨by omega, Ty.flatT_pos _ (Ty.uniL_mem hun.2.2.1 _ (List.mem_map_of_mem (List.getElem_mem hj))), h2⟩
      have HW := Lib.hid hw1
      have hll := wx.lens.2
      dsimp only at hll
      obtain ⟨j0, tj, uz0, uz1, uz2⟩ := info_parts infoInt
      have h1 := (Prt.Sat.old w1).nil 3 1
      have H1 := Lib.hid h1
      have Q2 := Lib.hid q2
      clear ih hcnt hun hlx hw1 h1 wx da hx hw hts hrd hN q2
      go_enter Tryz.func54, Tryz.ntmps54
      go_wp2_with fail
      go_loopw [5, 6] (fun v i wr => ∃ (j : Nat) (nums : List Nat), i = .int .i64 j ∧ j ≤ lst.length ∧ Hid (Sat w1 wr [Prt.oldA w1, inA v nums]) ∧ Hid (nums.map (Ty.den ts) = Ty.flatL ((lst.map (Ty.den ts)).take j)) ∧ Hid (∀ k ∈ nums, k < ts.length)) (fun _ i _ => lst.length - (intOf i).toNat)
      case atStart => exact ⟨0, [], rfl, by omega, H1.out, by show _ = Ty.flatL []; rw [Ty.flatL]; rfl, by intro k hk; simp at hk⟩
      case round =>
        obtain ⟨j, nums, rfl, hj, hS, hQ, hlt9⟩ := hrel
        obtain ⟨qa, qc, rfl⟩ := owns_slice (hS.out.row 1 rfl)
        have q2 := keepCell hS.out.isBelow Q2.out
        by_cases hlt : j < lst.length
        · obtain ⟨gl, capl, e, hgl, d0⟩ := ints_at (owns_below HROW.out hS.out.isBelow) j hlt
          cases e
          obtain ⟨hc1, hpos, htk⟩ := HLC.out j hlt
          have hjn := HWF.out lst[j] (List.getElem_mem hlt)
          have HI := Lib.hid (HC.out lst[j] hjn (by omega) wr (HW.out.trans (hS.out.isBelow.mono HW.out.size)))
          have hcb : nums.length + (Ty.flatT (Ty.den ts lst[j])).length ≤ 1000000 := by
            have h1 := congrArg List.length hQ.out
            rw [List.length_map] at h1
            have h2 := Ty.flatL_len ((lst.map (Ty.den ts)).take j)
            have h3 := Ty.flatT_len (Ty.den ts lst[j])
            omega
          generalize lst[j] = ix at *
          have HCB := Lib.hid hcb
          have HPO := Lib.hid hpos
          have HTK := Lib.hid htk
          clear hpos hcb htk hc1 hjn
          go_wp2_with fail
          refine HI.out _ (fun v2 ns2 w2 h2 hr2 hl2 => ?_)
          have hle2 := congrArg List.length hr2
          rw [List.length_map] at hle2
          obtain ⟨g2, c2', rfl, _, hg2⟩ := (h2.row 1 rfl).form (by have := HPO.out; omega)
          have h3 := hS.out.join h2
          have HR2 := Lib.hid hr2
          have H3 := Lib.hid h3
          have HL2 := Lib.hid hl2
          have hb1 : nums.length + ns2.length ≤ 1000000 := by have := HCB.out; omega
          have hb2 : 0 < ns2.length := by have := HPO.out; omega
          clear h2 h3 hr2 hl2 hle2
          go_wp2_with (at_builtin; go_loud (refine wpList_append_lies _ rfl (.tmp 25) (.tmp 35) 49 rfl 0 3 j0 _ 1 8 Tryz.underlying49 tj uz0 uz1 uz2 rfl (by decide) _ _ (nums.map inCell) (by rfl) (H3.out.row 1 rfl) ⟨g2, 0, none⟩ ns2.length c2' (ns2.map inCell) (by rfl) (by simp) (World.ownsRow.cells (H3.out.row 2 rfl) rfl) (by simp [inCell, Value.oneCell']) (by omega) (by unfold maxLen; omega) (by omega) (by simp) w2.heap.size rfl ?_))
          intro g4 cap4 w4 hown4 hgrow4 hat4 hlt4
          have h8 := (Prt.Sat.grow H3.out 1 rfl hgrow4 hown4 hat4).pick [0, 1]
          have h9 := h8.ent (i := 1) rfl (Q := inA (.slice (some ⟨g4, 0, none⟩) (nums.length + ns2.length) cap4) (nums ++ ns2)) (fun _ h => inA_app rfl h)
          have H9 := Lib.hid h9
          have HQ2 : Hid ((nums ++ ns2).map (Ty.den ts) = Ty.flatL ((lst.map (Ty.den ts)).take (j + 1))) := by show _ = _; rw [HTK.out, Ty.flatL_snoc, List.map_append, hQ.out, HR2.out]
          have HL3 : Hid (∀ k ∈ nums ++ ns2, k < ts.length) := fun k hk => by
            rw [List.mem_append] at hk
            rcases hk with hk | hk
            · exact hlt9.out k hk
            · exact HL2.out k hk
          clear h8 h9 hown4 hgrow4
          go_wp2_with fail
          go_roundw
          case rel => exact ⟨j + 1, nums ++ ns2, by go_num, by omega, H9.out, HQ2.out, HL3.out⟩
          case measure => simp [intOf]; omega
        · have hje : j = lst.length := by omega
          have HQ2 : Hid (nums.map (Ty.den ts) = Ty.flatL (lst.map (Ty.den ts))) := by have := hQ.out; rw [hje, List.take_of_length_le (by simp)] at this; exact this
          clear hje
          go_wp2_with fail
          exact HR.out _ nums _ hS.out HQ2.out hlt9.out
    · rw [if_neg hk] at HR
      have k1 : ((kd : Int) != 10) = true := by simp; omega
      have HD := Lib.hid da
      clear ih hcnt hun hlx hw1 wx da hx hw hts hrd hN hk q2
      go_enter Tryz.func54, Tryz.ntmps54
      go_wp2_with fail
      refine HR.out _ [n] _ (((Prt.Sat.old w1).allocAt (.cells #[.int .i64 (n : Nat)] 3) w1.heap.size).ent (i := 1) rfl fun _ h => Prt.row_of_blk h (by unfold maxLen; simp) rfl rfl) ?_ ?_
      · simp [HD.out]
      · intro j hj; simp at hj; omega
end Go.Proofs.YtdlbhiaceheffaaGreatDoor

namespace Go.Proofs.YtdlbhiaceheffaaGreatDoor
open Go Go.RowKit
open Prt (Sat As blk pur exs star stars)
open Ty (Tr anyTo anyTo_iff anyTo_false)

theorem wfAt_any (i : Nat) : Ty.WfAt i ⟨5, [], [], 0⟩ := ⟨by simp, by simp, by simp, by simp, by simp, by simp, by simp, by simp, by simp⟩
theorem wfAt_union {i : Nat} {l : List Nat} (h : ∀ j ∈ l, j < i) (h2 : 2 ≤ l.length) (h3 : l.length ≤ 1000000) : Ty.WfAt i ⟨10, [], l, 0⟩ := ⟨by simp, h, by simp, by simp, by simp, by simp, by simp, by simp [h2], by simp [h3]⟩
theorem kind_den {ts : List Ty.Ty} (hw : Ty.Wf ts) {n : Nat} {t : Ty.Ty} (h : ts[n]? = some t) : Ty.kindOf (Ty.den ts n) = t.kind := by rw [Ty.den_eq hw h]; rfl
theorem inA_one {v : Value} {l : List Nat} {n : Nat} {a : Prt.Hp} (h : Prt.row 3 1 v (l.length + 1) (l.map inCell ++ [.int .i64 (n : Nat)]) a) : inA v (l ++ [n]) a := inA_snoc h
/-- A type more, behind rows that were read. -/
theorem Prt.Sat.pushTy {w0 w : World} {Fr : As} {v lv : Value} {acc : List Ty.Ty} {k : Nat} {l : List Nat} {rows : List TyRow} (hr : rows.map TyRow.t = acc)
    (h : Sat w0 w [Fr, Prt.row 77 4 v (acc.length + 1) (rows.flatMap tyCells ++ tyCells ⟨⟨k, [], l, 0⟩, .slice none 0 0, lv⟩), stars (rows.map tyBits), inA lv l]) : Sat w0 w [Fr, tyA v (acc ++ [⟨k, [], l, 0⟩])] := by
  have h2 := (h.nil 82 2).pick [0, 1, 2, 4, 3]
  have h3 := Prt.Sat.pack (L := [Fr]) (M := [_, _, _, _]) h2
  exact h3.ent (i := 1) rfl (fun _ h => tyA_snoc (t := ⟨k, [], l, 0⟩) hr h)
set_option maxRecDepth 100000 in
set_option maxHeartbeats 8000000 in
theorem JoinOf_any {w0 w : World} {Fr : As} (lv tv : Value) (ts : List Ty.Ty) (tys : List Nat) (H : Sat w0 w [Fr, tyA lv ts, inA tv tys]) (hw : Ty.Wf ts) (hlen : ts.length ≤ 900000) (hty : ∀ j ∈ tys, j < ts.length) (hc : Ty.cntL (tys.map (Ty.den ts)) ≤ 900000) {R : Ending → World → Prop}
    (hR : ∀ lv' ts' n w', Sat w0 w' [Fr, tyA lv' ts'] → Ty.Wf ts' → n < ts'.length → ts'.length ≤ 1000000 → Ty.den ts' n = Ty.joinT (tys.map (Ty.den ts)) → R (.returned (.tuple #[lv', .int .i64 (n : Nat)])) w') :
    Calls Tryz.prog 27 #[lv, tv] w R := by
  have HR := Lib.hid hR
  obtain ⟨rows, hts, h1⟩ := H.rows 1 rfl
  have hrl : rows.length = ts.length := by rw [← hts]; simp
  obtain ⟨la, lc, elv⟩ := owns_slice (h1.rdRows 1 rfl).row
  obtain ⟨ta, tc, rfl⟩ := owns_slice (h1.row 2 rfl)
  rw [hrl] at elv
  subst elv
  have HFL : Hid (∀ wr, TyRd wr (.slice la ts.length lc) rows → ∀ n, n < ts.length → Ty.cnt (Ty.den ts n) ≤ 1000000 → RflC (.slice la ts.length lc) wr ts n) := fun wr hrd n hn h => flatten_all wr _ rows ts hts hw (by omega) hrd _ n (Nat.lt_succ_self _) hn h
  have HAL : Hid (∀ wr, TyRd wr (.slice la ts.length lc) rows → ∀ a b, a < ts.length → b < ts.length → RalC (.slice la ts.length lc) wr a b (Ty.alike (Ty.den ts a) (Ty.den ts b))) := fun wr hrd a b ha hb => refAlike_all wr _ rows ts hts hw (by omega) hrd _ a b (Nat.lt_succ_self _) ha hb
  have HLK : Hid (∀ wr, TyRd wr (.slice la ts.length lc) rows → ∀ n, n < ts.length → ∃ g, la = some ⟨g, 0, none⟩ ∧ g < wr.heap.size ∧ wr.cell? ⟨g, n * 4, none⟩ = some (.int .i64 (Ty.kindOf (Ty.den ts n) : Nat))) := fun wr hrd n hn => by
    obtain ⟨g, cap, r, e, hg, _, _, hx, hA, _, _⟩ := hrd.look hts hn
    cases e
    exact ⟨g, rfl, hg, by rw [hA.q0, kind_den hw hx]⟩
  have HKM : Hid (∀ j, j < ts.length → Ty.kindOf (Ty.den ts j) ≤ 10) := fun j hj => by
    rw [kind_den hw (List.getElem?_eq_getElem hj)]; exact (hw j _ (List.getElem?_eq_getElem hj)).kind.2
  have HW := Lib.hid hw
  have HTS := Lib.hid hts
  have HTY : Hid (∀ j (hj : j < tys.length), tys[j] < ts.length ∧ Ty.cnt (Ty.den ts tys[j]) + Ty.cntL ((tys.map (Ty.den ts)).take j) ≤ 900000 ∧ (tys.map (Ty.den ts)).take (j + 1) = (tys.map (Ty.den ts)).take j ++ [Ty.den ts tys[j]]) := fun j hj => by
    have h1 := cntL_take (tys.map (Ty.den ts)) j (by simpa using hj)
    have h2 := List.take_succ_eq_append_getElem (l := tys.map (Ty.den ts)) (i := j) (by simpa using hj)
    rw [List.getElem_map] at h1 h2
    exact ⟨hty _ (List.getElem_mem hj), by omega, h2⟩
  have HC := Lib.hid hc
  have htl : tys.length ≤ 900000 := by
    have h1 := len_cntL (tys.map (Ty.den ts))
    rw [List.length_map] at h1; omega
  obtain ⟨j0, tj, uz0, uz1, uz2⟩ := info_parts infoInt
  obtain ⟨l0, tl, vz0, vz1, vz2⟩ := info_parts infoTy
  have h2 := h1.nil 3 1
  have H2 := Lib.hid h2
  clear hR H h1 h2 hts hw hty hc
  go_enter Tryz.func27, Tryz.ntmps27
  go_wp2_with fail
  go_loopw [6, 7, 8] (fun v b i wr => ∃ (j : Nat) (nums : List Nat) (wd : Bool), b = .bool wd ∧ i = .int .i64 j ∧ j ≤ tys.length ∧ Hid (Sat w0 wr [Fr, rowsA (.slice la ts.length lc) rows, inA (.slice ta tys.length tc) tys, inA v nums]) ∧ Hid (nums.map (Ty.den ts) = Ty.gather (Ty.flatL ((tys.map (Ty.den ts)).take j))) ∧ Hid (∀ k ∈ nums, k < ts.length) ∧ Hid (wd = true ↔ ∃ x ∈ Ty.flatL ((tys.map (Ty.den ts)).take j), Ty.kindOf x = 5)) (fun _ _ i _ => tys.length - (intOf i).toNat)
  case atStart => exact ⟨0, [], false, rfl, rfl, by omega, H2.out, by show _ = Ty.gather (Ty.flatL []); rw [Ty.flatL]; rfl, by intro k hk; simp at hk, by show _ ↔ ∃ x ∈ Ty.flatL [], _; rw [Ty.flatL]; simp⟩
  case round =>
    obtain ⟨j, nums, wd, rfl, rfl, hj, hS, hQ, hlt9, hwd⟩ := hrel
    obtain ⟨qa, qc, rfl⟩ := owns_slice (hS.out.row 3 rfl)
    by_cases hlt : j < tys.length
    · obtain ⟨gl, capl, e, hgl, d0⟩ := ints_at (hS.out.row 2 rfl) j hlt
      cases e
      obtain ⟨hix, hcn, htk⟩ := HTY.out j hlt
      have HI := Lib.hid (HFL.out wr (hS.out.rdRows 1 rfl) tys[j] hix (by omega))
      have hcb : (Ty.flatL ((tys.map (Ty.den ts)).take j)).length + (Ty.flatT (Ty.den ts tys[j])).length ≤ 1000000 := by
        have h2 := Ty.flatL_len ((tys.map (Ty.den ts)).take j)
        have h3 := Ty.flatT_len (Ty.den ts tys[j])
        omega
      generalize tys[j] = ix at *
      have HCB := Lib.hid hcb
      have HTK := Lib.hid htk
      have hfs := Ty.flatL_snoc ((tys.map (Ty.den ts)).take j) (Ty.den ts ix)
      rw [← htk] at hfs
      generalize Ty.flatL ((tys.map (Ty.den ts)).take j) = D at *
      have HFS := Lib.hid hfs
      clear hcb htk hcn hfs
      go_wp2_with fail
      refine HI.out _ (Below.refl _ _) _ (fun v2 ns2 w2 h2 hr2 hl2 => ?_)
      have h3 := hS.out.join h2
      have hle2 := congrArg List.length hr2
      rw [List.length_map] at hle2
      have hn2 : ns2.length ≤ 1000000 := by have := HCB.out; omega
      obtain ⟨a2, c2', rfl⟩ := owns_slice (h2.row 1 rfl)
      have HR2 := Lib.hid hr2
      have H3 := Lib.hid h3
      have HL2 := Lib.hid hl2
      have HLE2 := Lib.hid hle2
      have HQ0 : Hid (nums.map (Ty.den ts) = Ty.gather (D ++ (Ty.flatT (Ty.den ts ix)).take 0)) := by show _ = _; rw [List.take_zero, List.append_nil]; exact hQ.out
      have HW0 : Hid (wd = true ↔ ∃ x ∈ D ++ (Ty.flatT (Ty.den ts ix)).take 0, Ty.kindOf x = 5) := by show _ ↔ _; rw [List.take_zero, List.append_nil]; exact hwd.out
      generalize Ty.flatT (Ty.den ts ix) = FT at *
      clear h2 h3 hr2 hl2 hle2 hS hQ hwd
      go_wp2_with fail
      obtain ⟨wo, hwo⟩ : ∃ wo : World, wo = wr := ⟨_, rfl⟩
      clear hwo wo
      go_loopw [6, 7, 10] (fun v b i wx => ∃ (k : Nat) (nums : List Nat) (wd : Bool), b = .bool wd ∧ i = .int .i64 k ∧ k ≤ ns2.length ∧ Hid (Sat w0 wx [Fr, rowsA (.slice la ts.length lc) rows, inA (.slice (some ⟨gl, 0, none⟩) tys.length tc) tys, inA v nums, inA (.slice a2 ns2.length c2') ns2]) ∧ Hid (nums.map (Ty.den ts) = Ty.gather (D ++ FT.take k)) ∧ Hid (∀ q ∈ nums, q < ts.length) ∧ Hid (wd = true ↔ ∃ x ∈ D ++ FT.take k, Ty.kindOf x = 5)) (fun _ _ i _ => ns2.length - (intOf i).toNat)
      case atStart => exact ⟨0, nums, wd, rfl, rfl, by omega, H3.out, HQ0.out, hlt9.out, HW0.out⟩
      case round =>
        obtain ⟨k, nums, wd, rfl, rfl, hk, hS2, hQ2, hlt8, hwd2⟩ := hrel
        obtain ⟨qa2, qc2, rfl⟩ := owns_slice (hS2.out.row 3 rfl)
        by_cases hlt2 : k < ns2.length
        · obtain ⟨g5, cap5, e, hg5, d5⟩ := ints_at (hS2.out.row 4 rfl) k hlt2
          cases e
          have hk2 : k < FT.length := by have := HLE2.out; omega
          have hx : Ty.den ts ns2[k] = FT[k] := by
            have h := HR2.out
            have h2 : (ns2.map (Ty.den ts))[k]? = FT[k]? := by rw [h]
            rw [List.getElem?_map, List.getElem?_eq_getElem hlt2, List.getElem?_eq_getElem hk2] at h2
            exact Option.some.inj h2
          have hxl := HL2.out ns2[k] (List.getElem_mem hlt2)
          have HGT := Lib.hid (gather_take D FT k hk2)
          have HDK : Hid (D ++ FT.take (k + 1) = (D ++ FT.take k) ++ [Ty.den ts ns2[k]]) := by show _ = _; rw [List.take_succ_eq_append_getElem hk2, List.append_assoc, hx]
          rw [← hx] at HGT
          have hgl := Ty.gather_len (D ++ FT.take k)
          have hql := congrArg List.length hQ2.out
          rw [List.length_map] at hql
          have hqb : nums.length + 1 ≤ 1000000 := by rw [hql]; rw [List.length_append, List.length_take] at hgl; have := HCB.out; omega
          obtain ⟨x, hxk⟩ : ∃ x, ns2[k] = x := ⟨_, rfl⟩
          rw [hxk] at hx hxl HGT HDK
          have HXK := Lib.hid hxk
          clear hx hgl hql hk2 d5 hxk
          generalize D ++ FT.take k = DK at *
          have HX := Lib.hid hxl
          have hgx : Ty.kindOf (Ty.den ts x) ≤ 10 := HKM.out x hxl
          generalize hKX : Ty.kindOf (Ty.den ts x) = kx at *
          have HKX := Lib.hid hKX
          clear hKX
          go_wp2_with fail
          obtain ⟨wo, hwo⟩ : ∃ wo : World, wo = wr := ⟨_, rfl⟩
          clear hwo wo
          go_loopw [11, 12] (fun b i wy => ∃ (q : Nat), b = .bool (anyTo (fun p => Ty.alike (Ty.den ts x) (Ty.den ts (nums.getD p 0))) q) ∧ i = .int .i64 q ∧ q ≤ nums.length ∧ Hid (Sat w0 wy [Fr, rowsA (.slice la ts.length lc) rows, inA (.slice (some ⟨gl, 0, none⟩) tys.length tc) tys, inA (.slice qa2 nums.length qc2) nums, inA (.slice (some ⟨g5, 0, none⟩) ns2.length c2') ns2])) (fun _ i _ => nums.length - (intOf i).toNat)
          case atStart => exact ⟨0, rfl, rfl, by omega, hS2.out⟩
          case round =>
            obtain ⟨q, rfl, rfl, hq, hS3⟩ := hrel
            have d5 : wr.cell? ⟨g5, k, none⟩ = some (.int .i64 (x : Nat)) := by
              obtain ⟨g7, cap7, e7, _, d7⟩ := ints_at (hS3.out.row 4 rfl) k hlt2
              cases e7
              rw [d7, HXK.out]
            have hg5 : g5 < wr.heap.size := cell_lt d5
            by_cases hlt3 : q < nums.length
            · obtain ⟨g6, cap6, e, hg6, d6⟩ := ints_at (hS3.out.row 3 rfl) q hlt3
              cases e
              have hyl := hlt8.out nums[q] (List.getElem_mem hlt3)
              have HA2 := HAL.out wr (hS3.out.rdRows 1 rfl) x nums[q] HX.out hyl
              have HSU : Hid (anyTo (fun p => Ty.alike (Ty.den ts x) (Ty.den ts (nums.getD p 0))) (q + 1) = (anyTo (fun p => Ty.alike (Ty.den ts x) (Ty.den ts (nums.getD p 0))) q || Ty.alike (Ty.den ts x) (Ty.den ts nums[q]))) := by
                show _ = _; rw [anyTo, getD_eq hlt3]
              generalize nums[q] = y at *
              generalize anyTo (fun p => Ty.alike (Ty.den ts x) (Ty.den ts (nums.getD p 0))) q = bs0 at *
              generalize Ty.alike (Ty.den ts x) (Ty.den ts y) = bb at *
              have HAA := Lib.hid HA2
              clear HA2 hyl
              cases bs0
              · have HSU2 : Hid (anyTo (fun p => Ty.alike (Ty.den ts x) (Ty.den ts (nums.getD p 0))) (q + 1) = bb) := by show _ = _; rw [HSU.out]; rfl
                go_wp2_with fail
                go_region_held3 (fun w' => w'.cell? ⟨g5, k, none⟩ = some (.int .i64 (x : Nat)) ∧ w'.cell? ⟨g6, q, none⟩ = some (.int .i64 (y : Nat))) (go_keep)
                  (first | (go_at_call 55; refine HAA.out _ ((Below.refl _ _).drew) _ (fun w3 hb3 => ?_); have H4 := Lib.hid (hS3.out.drew.below hb3); have z0 := keepCell hb3 (show (World.cell? (World.drew _) _) = _ from d5); have z1 := keepCell hb3 (show (World.cell? (World.drew _) _) = _ from d6); clear hb3))
                all_goals
                  go_wp2_with fail
                  go_roundw
                  case rel => exact ⟨q + 1, congrArg Value.bool HSU2.out.symm, by go_num, by omega, H4.out⟩
                  case measure => simp [intOf]; omega
              · have HSU2 : Hid (anyTo (fun p => Ty.alike (Ty.den ts x) (Ty.den ts (nums.getD p 0))) (q + 1) = true) := by show _ = _; rw [HSU.out]; rfl
                go_wp2_with fail
                go_quiet (fail)
                go_wp2_with fail
                go_roundw
                case rel => exact ⟨q + 1, congrArg Value.bool HSU2.out.symm, by go_num, by omega, hS3.out.below (below_drewN (Below.refl _ _) _)⟩
                case measure => simp [intOf]; omega
            · have hqe : q = nums.length := by omega
              have HAN : Hid (anyTo (fun p => Ty.alike (Ty.den ts x) (Ty.den ts (nums.getD p 0))) q = anyTo (fun i => Ty.alike (Ty.den ts x) ((Ty.gather DK).getD i Ty.nilT)) (Ty.gather DK).length) := by
                show _ = _
                rw [← hQ2.out, List.length_map, hqe]
                exact Ty.anyTo_congr fun i hi => by rw [show nums.getD i 0 = nums[i] from getD_eq hi _, show (nums.map (Ty.den ts)).getD i Ty.nilT = (nums.map (Ty.den ts))[i]'(by simpa using hi) from getD_eq _ _, List.getElem_map]
              have HADD : Hid (Ty.gather (D ++ FT.take (k + 1)) = if anyTo (fun p => Ty.alike (Ty.den ts x) (Ty.den ts (nums.getD p 0))) q then nums.map (Ty.den ts) else nums.map (Ty.den ts) ++ [Ty.den ts x]) := by
                show _ = _; rw [HGT.out, Ty.addT, HAN.out, ← hQ2.out]
              have HWE : Hid ((∃ z ∈ D ++ FT.take (k + 1), Ty.kindOf z = 5) ↔ (wd = true ∨ kx = 5)) := by
                show _ ↔ _
                rw [hwd2.out, HDK.out, ← HKX.out]
                constructor
                · rintro ⟨z, hz, h⟩
                  rw [List.mem_append] at hz
                  rcases hz with hz | hz
                  · exact .inl ⟨z, hz, h⟩
                  · simp at hz; subst hz; exact .inr h
                · rintro (⟨z, hz, h⟩ | h)
                  · exact ⟨z, by simp [hz], h⟩
                  · exact ⟨_, by simp, h⟩
              obtain ⟨gk, hla, hgk, hkc⟩ := HLK.out wr (hS3.out.rdRows 1 rfl) x HX.out
              subst hla
              rw [HKX.out] at hkc
              have HHK := Lib.hid hkc
              generalize anyTo (fun p => Ty.alike (Ty.den ts x) (Ty.den ts (nums.getD p 0))) q = met at *
              have hxl := HX.out
              cases met
              · have h5 := hS3.out
                have HX2 : Hid ((nums ++ [x]).map (Ty.den ts) = Ty.gather (D ++ FT.take (k + 1))) := by show _ = _; rw [HADD.out, List.map_append]; rfl
                have HLT2 : Hid (∀ q ∈ nums ++ [x], q < ts.length) := fun q hq => by
                  rw [List.mem_append] at hq
                  rcases hq with hq | hq
                  · exact hlt8.out q hq
                  · simp at hq; subst hq; exact HX.out
                have H5 := Lib.hid h5
                clear h5 hkc
                go_wp2_with (at_builtin; go_loud (refine wpList_append_lies _ rfl (.tmp 52) (.tmp 57) 49 rfl 0 3 j0 _ 1 8 Tryz.underlying49 tj uz0 uz1 uz2 rfl (by decide) _ _ (nums.map inCell) (by rfl) ((H5.out.row 3 rfl).alloc _) ⟨wr.heap.size, 0, none⟩ 1 1 [.int .i64 (x : Nat)] (by rfl) (by rfl) (World.news_of_block (cs := #[.int .i64 (x : Nat)]) (t := 3) (fr := (0, 0)) (heap_alloc_at' _ _ _ (by simp))) (by simp [Value.oneCell']) (by omega) (by unfold maxLen; omega) (by omega) (by simp) (wr.heap.size + 1) (by simp) ?_))
                intro g8 cap8 w8 hown8 hgrow8 hat8 hlt8'
                have h8 := Prt.Sat.grow (H5.out.waste _) 3 rfl hgrow8 hown8 (by simpa using hat8)
                have h9 := h8.ent (i := 3) rfl (Q := inA (.slice (some ⟨g8, 0, none⟩) (nums.length + 1) cap8) (nums ++ [x])) (fun _ h => inA_snoc h)
                obtain ⟨gk2, e, hgk2, hkc⟩ := HLK.out w8 (h9.rdRows 1 rfl) x HX.out
                cases e
                rw [HKX.out] at hkc
                have d5 : w8.cell? ⟨g5, k, none⟩ = some (.int .i64 (x : Nat)) := by
                  obtain ⟨g7, cap7, e7, _, d7⟩ := ints_at (h9.row 4 rfl) k hlt2
                  cases e7
                  rw [d7, HXK.out]
                have hg5 : g5 < w8.heap.size := cell_lt d5
                have H9 := Lib.hid h9
                clear h8 h9 hown8 hgrow8
                cases wd
                · by_cases k5 : kx = 5
                  · have k1 : ((kx : Int) == 5) = true := by simp [k5]
                    have HW1 : Hid (true = true ↔ ∃ z ∈ D ++ FT.take (k + 1), Ty.kindOf z = 5) := by show _ ↔ _; rw [HWE.out]; simp [k5]
                    clear k5
                    go_wp2_with fail
                    go_roundw
                    case rel => exact ⟨k + 1, nums ++ [x], true, rfl, by go_num, by omega, H9.out, HX2.out, HLT2.out, HW1.out⟩
                    case measure => simp [intOf]; omega
                  · have k1 : ((kx : Int) == 5) = false := beq_eq_false_iff_ne.2 (by omega)
                    have HW1 : Hid (false = true ↔ ∃ z ∈ D ++ FT.take (k + 1), Ty.kindOf z = 5) := by show _ ↔ _; rw [HWE.out]; simp [k5]
                    clear k5
                    go_wp2_with fail
                    go_roundw
                    case rel => exact ⟨k + 1, nums ++ [x], false, rfl, by go_num, by omega, H9.out, HX2.out, HLT2.out, HW1.out⟩
                    case measure => simp [intOf]; omega
                · have HW1 : Hid (true = true ↔ ∃ z ∈ D ++ FT.take (k + 1), Ty.kindOf z = 5) := by show _ ↔ _; rw [HWE.out]; simp
                  go_wp2_with fail
                  go_roundw
                  case rel => exact ⟨k + 1, nums ++ [x], true, rfl, by go_num, by omega, H9.out, HX2.out, HLT2.out, HW1.out⟩
                  case measure => simp [intOf]; omega
              · have HX2 : Hid (nums.map (Ty.den ts) = Ty.gather (D ++ FT.take (k + 1))) := by show _ = _; rw [HADD.out]; rfl
                cases wd
                · by_cases k5 : kx = 5
                  · have k1 : ((kx : Int) == 5) = true := by simp [k5]
                    have HW1 : Hid (true = true ↔ ∃ z ∈ D ++ FT.take (k + 1), Ty.kindOf z = 5) := by show _ ↔ _; rw [HWE.out]; simp [k5]
                    clear k5
                    go_wp2_with fail
                    go_roundw
                    case rel => exact ⟨k + 1, nums, true, rfl, by go_num, by omega, hS3.out, HX2.out, hlt8.out, HW1.out⟩
                    case measure => simp [intOf]; omega
                  · have k1 : ((kx : Int) == 5) = false := beq_eq_false_iff_ne.2 (by omega)
                    have HW1 : Hid (false = true ↔ ∃ z ∈ D ++ FT.take (k + 1), Ty.kindOf z = 5) := by show _ ↔ _; rw [HWE.out]; simp [k5]
                    clear k5
                    go_wp2_with fail
                    go_roundw
                    case rel => exact ⟨k + 1, nums, false, rfl, by go_num, by omega, hS3.out, HX2.out, hlt8.out, HW1.out⟩
                    case measure => simp [intOf]; omega
                · have HW1 : Hid (true = true ↔ ∃ z ∈ D ++ FT.take (k + 1), Ty.kindOf z = 5) := by show _ ↔ _; rw [HWE.out]; simp
                  go_wp2_with fail
                  go_roundw
                  case rel => exact ⟨k + 1, nums, true, rfl, by go_num, by omega, hS3.out, HX2.out, hlt8.out, HW1.out⟩
                  case measure => simp [intOf]; omega
        · have hke : k = FT.length := by have := HLE2.out; omega
          have HQ3 : Hid (nums.map (Ty.den ts) = Ty.gather (Ty.flatL ((tys.map (Ty.den ts)).take (j + 1)))) := by
            have := hQ2.out
            rw [hke, List.take_length] at this
            show _ = _
            rw [HFS.out]; exact this
          have HW3 : Hid (wd = true ↔ ∃ x ∈ Ty.flatL ((tys.map (Ty.den ts)).take (j + 1)), Ty.kindOf x = 5) := by
            have := hwd2.out
            rw [hke, List.take_length] at this
            show _ ↔ _
            rw [HFS.out]; exact this
          have m0 : decide (((k : Nat) : Int) < (ns2.length : Nat)) = false := decide_eq_false (by omega)
          have m1 : decide (k < ns2.length) = false := decide_eq_false (by omega)
          clear hke
          go_wp2_with fail
          go_roundw
          case rel => exact ⟨j + 1, nums, wd, rfl, by go_num, by omega, hS2.out.pick [0, 1, 2, 3], HQ3.out, hlt8.out, HW3.out⟩
          case measure => simp [intOf]; omega
    · have hje : (tys.map (Ty.den ts)).take j = tys.map (Ty.den ts) := List.take_of_length_le (by simp; omega)
      rw [hje] at hQ hwd
      have hgl := Ty.gather_len (Ty.flatL (tys.map (Ty.den ts)))
      have hfl := Ty.flatL_len (tys.map (Ty.den ts))
      have hnl := congrArg List.length hQ.out
      rw [List.length_map] at hnl
      have hn6 : nums.length ≤ 900000 := by have := HC.out; omega
      have hj : Ty.joinT (tys.map (Ty.den ts)) = if nums.length = 0 ∨ wd = true then Ty.anyT else if nums.length = 1 then (nums.map (Ty.den ts)).getD 0 Ty.nilT else .mk 10 [] [] (nums.map (Ty.den ts)) [] := by
        have hw5 : anyTo (fun j => decide (Ty.kindOf ((Ty.gather (Ty.flatL (tys.map (Ty.den ts)))).getD j Ty.nilT) = 5)) nums.length = true ↔ wd = true := by rw [hwd.out, ← Ty.gather_any, ← hnl]
        unfold Ty.joinT
        rw [← hnl, hQ.out]
        by_cases a : nums.length = 0 ∨ wd = true
        · rw [if_pos a, if_pos (a.imp id hw5.2)]
        · rw [if_neg a, if_neg (fun h => a (h.imp id hw5.1))]
      rw [hj] at HR
      have h5 := ((hS.out.unpack (i := 1) rfl).pick [0, 3, 4, 2]).ent (i := 1) rfl (Q := Prt.row 77 4 (.slice la ts.length lc) ts.length (rows.flatMap tyCells)) (fun a h => (congrArg (fun n => Prt.row 77 4 (.slice la ts.length lc) n (rows.flatMap tyCells) a) hrl).mp h)
      have HROW := Lib.hid (h5.row 1 rfl)
      have H5 := Lib.hid h5
      clear hje hgl hfl hnl hj h5 hQ hwd
      by_cases h0 : nums.length = 0
      · rw [if_pos (.inl h0)] at HR
        have k0 : ((nums.length : Int) == 0) = true := by simp [h0]
        clear h0
        go_wp2_with (at_builtin; go_loud (refine wpList_append_lies _ rfl (.tmp 77) (.tmp 79) 31 rfl 0 77 l0 _ 4 64 Tryz.underlying31 tl vz0 vz1 vz2 rfl (by decide) _ _ (rows.flatMap tyCells) (by rfl) (HROW.out.alloc _) ⟨wr.heap.size, 0, none⟩ 1 1 [.int .i64 5, .slice none 0 0, .slice none 0 0, .int .i64 0] (by rfl) (by rfl) (World.news_of_block (cs := #[.int .i64 5, .slice none 0 0, .slice none 0 0, .int .i64 0]) (t := 77) (fr := (0, 0)) (heap_alloc_at' _ _ _ (by simp))) (by simp [Value.oneCell']) (by omega) (by unfold maxLen; omega) (by omega) (by simp) (wr.heap.size + 1) (by simp) ?_))
        intro g6 cap6 w6 hown6 hgrow6 hat6 hlt6
        have h6 := ((Prt.Sat.grow (m := ts.length + 1) (H5.out.waste _) 1 rfl hgrow6 hown6 (by simpa using hat6)).nil 3 1).pick [0, 1, 2, 4]
        have H7 := Lib.hid (Prt.Sat.pushTy (k := 5) (l := []) HTS.out h6)
        clear h6 hown6 hgrow6
        go_wp2_with fail
        exact HR.out _ _ _ _ H7.out (HW.out.snoc (wfAt_any _)) (by simp) (by simp; omega) (by rw [Ty.den_last _ _ (by simp) (by simp) (by simp)]; rfl)
      · have k0 : ((nums.length : Int) == 0) = false := beq_eq_false_iff_ne.2 (by omega)
        cases wd
        · rw [if_neg (by simp [h0])] at HR
          by_cases h1 : nums.length = 1
          · rw [if_pos h1] at HR
            have k1 : ((nums.length : Int) == 1) = true := by simp [h1]
            obtain ⟨n, rfl⟩ := List.length_eq_one_iff.1 h1
            obtain ⟨g6, cap6, e, hg6, d6⟩ := ints_at (hS.out.row 3 rfl) 0 (by simp)
            cases e
            have H6 := Lib.hid (((hS.out.ent (i := 1) rfl (Q := tyA (.slice la ts.length lc) ts) (fun _ h => tyA_of_rows HTS.out h))).pick [0, 1])
            have d6 : wr.cell? ⟨g6, 0, none⟩ = some (.int .i64 (n : Nat)) := d6
            have HN : Hid (n < ts.length) := hlt9.out n (by simp)
            clear h0 h1
            go_wp2_with fail
            go_quiet (fail)
            go_wp2_with fail
            exact HR.out _ _ n _ (H6.out.below (below_drewN (Below.refl _ _) _)) HW.out HN.out (by omega) rfl
          · rw [if_neg h1] at HR
            have k1 : ((nums.length : Int) == 1) = false := beq_eq_false_iff_ne.2 (by omega)
            have HN2 : Hid (2 ≤ nums.length) := by show _ ≤ _; omega
            clear h0 h1
            go_wp2_with (at_builtin; go_loud (refine wpList_append_lies _ rfl (.tmp 90) (.tmp 93) 31 rfl 0 77 l0 _ 4 64 Tryz.underlying31 tl vz0 vz1 vz2 rfl (by decide) _ _ (rows.flatMap tyCells) (by rfl) (HROW.out.alloc _) ⟨wr.heap.size, 0, none⟩ 1 1 [.int .i64 10, .slice none 0 0, .slice qa nums.length qc, .int .i64 0] (by rfl) (by rfl) (World.news_of_block (cs := #[.int .i64 10, .slice none 0 0, .slice qa nums.length qc, .int .i64 0]) (t := 77) (fr := (0, 0)) (heap_alloc_at' _ _ _ (by simp))) (by simp [Value.oneCell']) (by omega) (by unfold maxLen; omega) (by omega) (by simp) (wr.heap.size + 1) (by simp) ?_))
            intro g6 cap6 w6 hown6 hgrow6 hat6 hlt6
            have h6 := Prt.Sat.grow (m := ts.length + 1) (H5.out.waste _) 1 rfl hgrow6 hown6 (by simpa using hat6)
            have H7 := Lib.hid (Prt.Sat.pushTy (k := 10) (l := nums) HTS.out h6)
            clear h6 hown6 hgrow6
            go_wp2_with fail
            exact HR.out _ _ _ _ H7.out (HW.out.snoc (wfAt_union hlt9.out HN2.out (by omega))) (by simp) (by simp; omega) (by rw [Ty.den_last _ _ (by simp) hlt9.out (by simp)]; rfl)
        · rw [if_pos (.inr rfl)] at HR
          clear h0
          go_wp2_with (at_builtin; go_loud (refine wpList_append_lies _ rfl (.tmp 77) (.tmp 79) 31 rfl 0 77 l0 _ 4 64 Tryz.underlying31 tl vz0 vz1 vz2 rfl (by decide) _ _ (rows.flatMap tyCells) (by rfl) (HROW.out.alloc _) ⟨wr.heap.size, 0, none⟩ 1 1 [.int .i64 5, .slice none 0 0, .slice none 0 0, .int .i64 0] (by rfl) (by rfl) (World.news_of_block (cs := #[.int .i64 5, .slice none 0 0, .slice none 0 0, .int .i64 0]) (t := 77) (fr := (0, 0)) (heap_alloc_at' _ _ _ (by simp))) (by simp [Value.oneCell']) (by omega) (by unfold maxLen; omega) (by omega) (by simp) (wr.heap.size + 1) (by simp) ?_))
          intro g6 cap6 w6 hown6 hgrow6 hat6 hlt6
          have h6 := ((Prt.Sat.grow (m := ts.length + 1) (H5.out.waste _) 1 rfl hgrow6 hown6 (by simpa using hat6)).nil 3 1).pick [0, 1, 2, 4]
          have H7 := Lib.hid (Prt.Sat.pushTy (k := 5) (l := []) HTS.out h6)
          clear h6 hown6 hgrow6
          go_wp2_with fail
          exact HR.out _ _ _ _ H7.out (HW.out.snoc (wfAt_any _)) (by simp) (by simp; omega) (by rw [Ty.den_last _ _ (by simp) (by simp) (by simp)]; rfl)
end Go.Proofs.YtdlbhiaceheffaaGreatDoor
