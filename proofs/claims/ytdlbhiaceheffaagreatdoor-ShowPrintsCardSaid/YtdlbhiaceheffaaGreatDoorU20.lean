/- The reference's WriteType: a type of a list, as a text. Walks of show.writer's typed, list, expr. Walks of show.writer's expr, exprs: at what their parts come to. Walks of show.writer's exprs, object. -/
import Derived.Test.YtdlbhiaceheffaaGreatDoorU19
set_option linter.all false
set_option maxRecDepth 100000
set_option maxHeartbeats 2000000
namespace Go.Proofs.YtdlbhiaceheffaaGreatDoor
section
open Go Go.RowKit
open Prt (Sat As blk pur exs star stars)
open Ty (Tr)
theorem joinL_step (sep : List UInt8) (l : List (List UInt8)) (j : Nat) (hj : j < l.length) : Ty.joinL sep (l.take (j + 1)) = (if j = 0 then Ty.joinL sep (l.take j) else Ty.joinL sep (l.take j) ++ sep) ++ l[j] := by
 rw [List.take_succ_eq_append_getElem hj, Ty.joinL_snoc, List.length_take]
 by_cases h : j = 0
 · subst h; simp [Ty.joinL]
 · rw [if_neg (by omega), if_neg h]
theorem joinL_mono (sep : List UInt8) (l : List (List UInt8)) : ∀ d j, j + d = l.length → (Ty.joinL sep (l.take j)).length ≤ (Ty.joinL sep l).length := by
 intro d
 induction d with
 | zero => intro j h; rw [List.take_of_length_le (by omega)]; exact Nat.le_refl _
 | succ d ih =>
   intro j h
   have h1 := ih (j + 1) (by omega)
   rw [joinL_step sep l j (by omega), List.length_append] at h1
   split at h1
   · omega
   · rw [List.length_append] at h1; omega
theorem brks_getD (ks : List Nat) (ts : List (List UInt8)) (j : Nat) (hj : j < ts.length) : (Ty.brks ks ts)[j]'(by rw [(Ty.brks_sum ks ts).1]; exact hj) = Ty.brk ts.length j (ks.getD j 0) (ts.getD j []) := by
 unfold Ty.brks
 simp
theorem WriteType_all (w : World) (v : Value) (rows : List TyRow) (ts : List Ty.Ty) (hts : rows.map TyRow.t = ts) (hw : Ty.Wf ts) (hlen : ts.length ≤ 1000000) (hrd : TyRd w v rows) : ∀ (N n : Nat), n < N → n < ts.length → Ty.shortT (Ty.den ts n) → Ty.cnt (Ty.den ts n) ≤ 1000000 → WtC v w n (Ty.text (Ty.den ts n)) := by
 intro N
 induction N with
 | zero => intro n h; omega
 | succ N ih =>
   intro n hN hn hsh hcnt w1 hw1 R hR
   have hlook := fun (i : Nat) (hi : i < ts.length) => (hrd.below hw1).look hts hi
   obtain ⟨g, cap, x, rfl, hg, hcap, hcm, hx, hA, hfx, hlx⟩ := hlook n hn
   have wx := hw n _ hx
   have da := Ty.den_eq hw hx
   have hok := Ty.den_ok hw _ n (Nat.lt_succ_self _) hn
   have htl := Ty.text_len _ hok hsh
   obtain ⟨⟨kd, fds, lst, of⟩, fv, lv⟩ := x
   dsimp only at hfx hlx wx da
   rw [da] at hsh hcnt htl hR hok
   have lx := wx.lens
   have kx := wx.kind
   dsimp only at lx kx
   have key : ∀ i, i < n → Ty.shortT (Ty.den ts i) → Ty.cnt (Ty.den ts i) ≤ 1000000 → WtC (.slice (some ⟨g, 0, none⟩) ts.length cap) w1 i (Ty.text (Ty.den ts i)) := fun i hi h1 h2 => (ih i (by omega) (by omega) h1 h2).below hw1
   replace htl := Nat.le_trans htl (Nat.mul_le_mul_left 40 hcnt)
   rw [Ty.shortT] at hsh
   have hcnt1 := hcnt
   rw [Ty.cnt] at hcnt1
   rw [Ty.okT] at hok
   obtain ⟨_, _, _, _, _, _, _, okp, okl, oko⟩ := hok
   have HP : ∀ j (hj : j < fds.length), Ty.shortT (Ty.den ts fds[j].2) ∧ Ty.cnt (Ty.den ts fds[j].2) ≤ 1000000 := fun j hj => by
     have hm : Ty.den ts fds[j].2 ∈ fds.map fun f => Ty.den ts f.2 := List.mem_map.2 ⟨fds[j], List.getElem_mem _, rfl⟩
     exact ⟨Ty.shortL_mem hsh.2.1 _ hm, by have := Ty.cntL_in hm; omega⟩
   have HL : ∀ j (hj : j < lst.length), Ty.shortT (Ty.den ts lst[j]) ∧ Ty.cnt (Ty.den ts lst[j]) ≤ 1000000 := fun j hj => by
     have hm : Ty.den ts lst[j] ∈ lst.map (Ty.den ts) := List.mem_map.2 ⟨lst[j], List.getElem_mem _, rfl⟩
     exact ⟨Ty.shortL_mem hsh.2.2.1 _ hm, by have := Ty.cntL_in hm; omega⟩
   have HK : ∀ j (hj : j < lst.length), lst[j] < ts.length ∧ w1.cell? ⟨g, lst[j] * 4, none⟩ = some (.int .i64 (((lst.map fun i => Ty.kindOf (Ty.den ts i)).getD j 0 : Nat))) := fun j hj => by
     have hl : lst[j] < ts.length := by have := wx.list lst[j] (List.getElem_mem _); omega
     obtain ⟨g2, cap2, y, e, _, _, _, hy, hB, _, _⟩ := hlook _ hl
     cases e
     refine ⟨hl, ?_⟩
     rw [hB.q0, getD_lt (by simpa using hj), List.getElem_map, Ty.den_eq hw hy]; rfl
   have HT : ∀ j (hj : j < lst.length), WtC (.slice (some ⟨g, 0, none⟩) ts.length cap) w1 lst[j] ((Ty.texts (lst.map (Ty.den ts))).getD j []) := fun j hj => by
     have e : (Ty.texts (lst.map (Ty.den ts))).getD j [] = Ty.text (Ty.den ts lst[j]) := by
       rw [Ty.texts_map, getD_lt (by simpa using hj), List.getElem_map, List.getElem_map]
     rw [e]
     exact key _ (wx.list lst[j] (List.getElem_mem _)) (HL j hj).1 (HL j hj).2
   have hml : lst.length = (Ty.texts (lst.map (Ty.den ts))).length := by rw [Ty.texts_map]; simp
   have hk : kd = 1 ∨ kd = 2 ∨ kd = 3 ∨ kd = 4 ∨ kd = 5 ∨ kd = 6 ∨ kd = 7 ∨ kd = 8 ∨ kd = 9 ∨ kd = 10 := by omega
   rcases hk with rfl | rfl | rfl | rfl | rfl | rfl | rfl | rfl | rfl | rfl
   · rw [Ty.text] at hR
     exact wt_w1 w1 g cap ts.length n of hg hcap hlen hn fds lst fv lv hA hfx hlx (fun w' hb => hR w' hb)
   · rw [Ty.text] at hR
     exact wt_w2 w1 g cap ts.length n of hg hcap hlen hn fds lst fv lv hA hfx hlx (fun w' hb => hR w' hb)
   · rw [Ty.text] at hR
     exact wt_w3 w1 g cap ts.length n of hg hcap hlen hn fds lst fv lv hA hfx hlx (fun w' hb => hR w' hb)
   · rw [Ty.text] at hR
     exact wt_w4 w1 g cap ts.length n of hg hcap hlen hn fds lst fv lv hA hfx hlx (fun w' hb => hR w' hb)
   · rw [Ty.text] at hR
     exact wt_w5 w1 g cap ts.length n of hg hcap hlen hn fds lst fv lv hA hfx hlx (fun w' hb => hR w' hb)
   · rw [Ty.text] at hR
     exact wt_w6 w1 g cap ts.length n of hg hcap hlen hn fds lst fv lv hA hfx hlx (fun w' hb => hR w' hb)
   · have hpl : (Ty.texts (fds.map fun f => Ty.den ts f.2)).length = fds.length := by rw [Ty.texts_map]; simp
     have ha1 : ∀ j (hj : j < fds.length), Ty.fieldsW ((fds.map Prod.fst).take (j + 1)) ((Ty.texts (fds.map fun f => Ty.den ts f.2)).take (j + 1)) = Ty.fieldsW ((fds.map Prod.fst).take j) ((Ty.texts (fds.map fun f => Ty.den ts f.2)).take j) ++ Ty.fieldW fds[j].1 (Ty.text (Ty.den ts fds[j].2)) := fun j hj => by
       rw [List.take_succ_eq_append_getElem (by simpa using hj), List.take_succ_eq_append_getElem (by omega), Ty.fieldsW_snoc _ _ _ _ (by simp; omega)]
       congr 2
       · simp
       · simp [Ty.texts_map]
     have hal : ∀ d j, j + d = fds.length → (Ty.fieldsW ((fds.map Prod.fst).take j) ((Ty.texts (fds.map fun f => Ty.den ts f.2)).take j)).length ≤ (Ty.fieldsW ((fds.map Prod.fst).take fds.length) ((Ty.texts (fds.map fun f => Ty.den ts f.2)).take fds.length)).length := by
       intro d
       induction d with
       | zero => intro j h; rw [show j = fds.length by omega]; exact Nat.le_refl _
       | succ d ihd =>
         intro j h
         have h1 := ihd (j + 1) (by omega)
         rw [ha1 j (by omega), List.length_append] at h1
         omega
     have hfin : Ty.fieldsW ((fds.map Prod.fst).take fds.length) ((Ty.texts (fds.map fun f => Ty.den ts f.2)).take fds.length) = Ty.fieldsW (fds.map Prod.fst) (Ty.texts (fds.map fun f => Ty.den ts f.2)) := by
       rw [List.take_of_length_le (by simp), List.take_of_length_le (by omega)]
     have hsw := Ty.fieldsW_eq (fds.map Prod.fst) (Ty.texts (fds.map fun f => Ty.den ts f.2))
     have hsl := congrArg List.length hsw
     rw [List.length_append, List.length_cons, List.length_cons, List.length_nil] at hsl
     rw [Ty.text, if_pos rfl, List.length_map] at hR htl
     refine wt_7 w1 g cap ts.length n of hg hcap hlen hn fds lst fv lv hA hfx hlx lx.1 (fun j => if h : j < fds.length then Ty.text (Ty.den ts fds[j].2) else []) (fun j => Ty.fieldsW ((fds.map Prod.fst).take j) ((Ty.texts (fds.map fun f => Ty.den ts f.2)).take j)) (fun j hj => ?_) (by simp [Ty.fieldsW]) (fun j hj => ?_) (fun j hj => ?_) (fun w' hb => ?_)
     · rw [dif_pos hj]
       exact key _ (wx.fields fds[j] (List.getElem_mem _)) (HP j hj).1 (HP j hj).2
     · rw [dif_pos hj]; exact ha1 j hj
     · have h1 := hal (fds.length - j) j (by omega)
       rw [hfin] at h1
       simp only [List.length_append] at htl
       show (Ty.fieldsW _ _).length ≤ _
       omega
     · have h2 := hR w' hb
       have e : (if fds.length = 0 then ([123, 125] : List UInt8) else [123, 32] ++ Ty.fieldsW ((fds.map Prod.fst).take fds.length) ((Ty.texts (fds.map fun f => Ty.den ts f.2)).take fds.length) ++ [125]) = [123] ++ Ty.fieldsS (fds.map Prod.fst) (Ty.texts (fds.map fun f => Ty.den ts f.2)) ++ (if fds.length > 0 then [32] else []) ++ [125] := by
         by_cases h0 : fds.length = 0
         · obtain rfl := List.eq_nil_of_length_eq_zero h0
           simp [Ty.fieldsS]
         · rw [if_neg h0, if_pos (by omega), hfin]
           have : ([123] ++ Ty.fieldsS (fds.map Prod.fst) (Ty.texts (fds.map fun f => Ty.den ts f.2)) ++ [32] ++ [125] : List UInt8) = [123] ++ (Ty.fieldsS (fds.map Prod.fst) (Ty.texts (fds.map fun f => Ty.den ts f.2)) ++ [32]) ++ [125] := by simp
           rw [this, hsw]; simp
       rw [e]; exact h2
   · have hsz := Ty.cntL_in (l := [Ty.den ts of]) (List.mem_singleton.2 rfl)
     rw [if_pos (.inl rfl)] at hsh hcnt1 hR htl
     have ho : of < n := wx.of (.inl rfl)
     have hs1 : Ty.shortT (Ty.den ts of) := Ty.shortL_mem hsh.2.2.2 _ (List.mem_singleton.2 rfl)
     rw [Ty.text, if_neg (by decide), if_pos rfl] at hR htl
     simp only [Ty.texts, List.headD_cons] at hR htl
     refine wt_8 w1 g cap ts.length n of hg hcap hlen hn fds lst fv lv hA hfx hlx (Ty.text (Ty.den ts of)) (key of ho hs1 (by omega)) ?_ hR
     simp only [lzA, lzC, lzN] at htl
     omega
   · have hsz := Ty.cntL_in (l := [Ty.den ts of]) (List.mem_singleton.2 rfl)
     rw [if_pos (.inr rfl)] at hsh hcnt1 hR htl
     have ho : of < n := wx.of (.inr rfl)
     have hs1 : Ty.shortT (Ty.den ts of) := Ty.shortL_mem hsh.2.2.2 _ (List.mem_singleton.2 rfl)
     rw [Ty.text, if_neg (by decide), if_neg (by decide), if_pos rfl] at hR htl
     simp only [Ty.texts, List.headD_cons] at hR htl
     simp only [lzA, lzC, lzN] at htl
     have hjl : Ty.joinL [44, 32] ((Ty.texts (lst.map (Ty.den ts))).take lst.length) = Ty.joinL [44, 32] (Ty.texts (lst.map (Ty.den ts))) := by rw [List.take_of_length_le (by omega)]
     refine wt_9 w1 g cap ts.length n of hg hcap hlen hn fds lst fv lv hA hfx hlx lx.2 (fun j => (Ty.texts (lst.map (Ty.den ts))).getD j []) (Ty.text (Ty.den ts of)) (fun j => Ty.joinL [44, 32] ((Ty.texts (lst.map (Ty.den ts))).take j)) HT (by simp [Ty.joinL]) (fun j hj => ?_) (fun j hj => ?_) (key of ho hs1 (by omega)) (by omega) (fun w' hb => ?_)
     · rw [joinL_step _ _ _ (by omega), getD_lt (by omega)]
     · have := joinL_mono [44, 32] (Ty.texts (lst.map (Ty.den ts))) (lst.length - j) j (by omega)
       show (Ty.joinL _ _).length ≤ _
       omega
     · have h2 := hR w' hb
       rw [← hjl] at h2; exact h2
   · rw [Ty.text, if_neg (by decide), if_neg (by decide), if_neg (by decide), if_pos rfl] at hR htl
     have e : (lst.map (Ty.den ts)).map Ty.kindOf = (lst.map fun i => Ty.kindOf (Ty.den ts i)) := by simp
     rw [e] at hR htl
     have hbl := (Ty.brks_sum (lst.map fun i => Ty.kindOf (Ty.den ts i)) (Ty.texts (lst.map (Ty.den ts)))).1
     have hjl : Ty.joinL [32, 124, 32] ((Ty.brks (lst.map fun i => Ty.kindOf (Ty.den ts i)) (Ty.texts (lst.map (Ty.den ts)))).take lst.length) = Ty.joinL [32, 124, 32] (Ty.brks (lst.map fun i => Ty.kindOf (Ty.den ts i)) (Ty.texts (lst.map (Ty.den ts)))) := by rw [List.take_of_length_le (by omega)]
     refine wt_10 w1 g cap ts.length n of hg hcap hlen hn fds lst fv lv hA hfx hlx lx.2 (fun j => (lst.map fun i => Ty.kindOf (Ty.den ts i)).getD j 0) (fun j => (Ty.texts (lst.map (Ty.den ts))).getD j []) (fun j => Ty.joinL [32, 124, 32] ((Ty.brks (lst.map fun i => Ty.kindOf (Ty.den ts i)) (Ty.texts (lst.map (Ty.den ts)))).take j)) HT HK (by simp [Ty.joinL]) (fun j hj => ?_) (fun j hj => ?_) (fun w' hb => ?_)
     · rw [joinL_step _ _ _ (by omega), brks_getD _ _ _ (by omega), ← hml]
     · have := joinL_mono [32, 124, 32] (Ty.brks (lst.map fun i => Ty.kindOf (Ty.den ts i)) (Ty.texts (lst.map (Ty.den ts)))) (lst.length - j) j (by omega)
       show (Ty.joinL _ _).length ≤ _
       omega
     · have h2 := hR w' hb
       rw [← hjl] at h2; exact h2
end
section
open Go Go.RowKit
open Prt (Sat As blk pur exs star stars)
theorem PB.text {wB : World} {nv tv : Value} {pg : Ty.Pg} (h : PB wB nv tv pg) {n : Nat} (hn : Ty.TyIn n pg.ts) : TxtC tv wB n (Ty.text (Ty.den pg.ts n)) ∧ (Ty.text (Ty.den pg.ts n)).length ≤ 12000 := by
 obtain ⟨rows, hr, hrd⟩ := h.ty
 have h1 := Ty.tyIn_text h.ok.wf h.ok.nm hn
 have h2 := h.ok.tlen
 have h3 := hn.cnt
 exact ⟨TypeText_all wB tv rows pg.ts hr h.ok.wf (by omega) hrd (n + 1) n (by omega) hn.lt h1.2.1 (by omega), by omega⟩
theorem PB.tySlice {wB : World} {nv tv : Value} {pg : Ty.Pg} (h : PB wB nv tv pg) : ∃ a n c, tv = .slice a n c := by
 obtain ⟨rows, hr, hrd⟩ := h.ty
 obtain ⟨a, c, e⟩ := owns_slice hrd.row
 exact ⟨a, _, c, e⟩
section
variable {wB w : World} {Fr : As} {wb : Nat} {nv tv : Value} {pg : Ty.Pg} {main : Int} {ind : Nat} {out : List UInt8}
theorem typed_any (hP : PB wB nv tv pg) (hF : FrB wB Fr) (H : Sat wB w [Fr, wrA wb nv tv main ind out]) {ty : Int} (hty : Ty.TyZ ty pg.ts) (hlen : out.length + (Ty.colS pg.ts ty).length ≤ 1000000000) {R : Ending → World → Prop}
   (hR : ∀ w', Sat wB w' [Fr, wrA wb nv tv main ind (out ++ Ty.colS pg.ts ty)] → R (.returned (.tuple #[])) w') :
   Calls Tryz.prog 82 #[.pointer (some ⟨wb, 0, none⟩), .int .i64 ty] w R := by
 have HR := qh hR
 have HLN := qh hlen
 have HS := qh H
 have HF := qh hF
 obtain ⟨p, v, hw⟩ := H.openWr
 obtain ⟨ta, tn, tc, rfl⟩ := hP.tySlice
 have c3 := hw.cell 2 rfl 3 rfl
 have hwl := hw.lt 2 rfl
 dsimp only at c3
 unfold Ty.colS at HR HLN
 rcases hty with rfl | ⟨n, rfl, hn⟩
 · rw [if_pos (by omega)] at HR HLN
   clear hR hlen H hF hw
   go_enter Tryz.func82, Tryz.ntmps82
   go_wp2_with fail
   go_end0
   exact HR.out _ (by rw [List.append_nil]; exact HS.out)
 · rw [if_neg (by omega)] at HR HLN
   have htx := hP.text hn
   rw [show ((n : Int)).toNat = n by omega] at HR HLN
   have HT := qh htx.1
   generalize Ty.text (Ty.den pg.ts n) = tx at *
   have HB := qh (hF w _ 0 H rfl)
   clear hR hlen H hF hw hn htx hP
   go_enter Tryz.func82, Tryz.ntmps82
   go_wp2_with fail
   refine HT.out _ HB.out _ (fun w1 hb1 => ?_)
   have H1 := qh (HS.out.below hb1)
   clear hb1
   go_wp2_with fail
   refine put2 H1.out _ _ [58, 32] tx rfl rfl HLN.out _ (by simp) (fun w2 h2 => ?_)
   have H2 := qh h2
   clear h2
   go_wp2_with fail
   go_end0
   exact HR.out _ H2.out
theorem wlist_any (l : List Nat) (lv : Value) (hl : wB.ownsRow 0 3 1 lv l.length (l.map inCell)) (hln : l.length ≤ 1000000) (xs : List (List UInt8)) (hxs : xs.length = l.length) (hF : FrB wB Fr) (H : Sat wB w [Fr, wrA wb nv tv main ind out])
   (F : FuncId) (cv : Value) (hc : ∀ (args : Array Value) (w : World), (callFunc F args).run Tryz.prog w = .ok (.enter F args) w)
   (hdo : ∀ (k : Nat) (hk : k < l.length) (hk2 : k < xs.length) (o : List UInt8) (w1 : World), Sat wB w1 [Fr, wrA wb nv tv main ind o] → o.length + (xs[k]).length ≤ 900000000 → ∀ R : Ending → World → Prop,
     (∀ w2, Sat wB w2 [Fr, wrA wb nv tv main ind (o ++ xs[k])] → R (.returned (.tuple #[])) w2) → Calls Tryz.prog F #[.int .i64 (l[k] : Nat), cv] w1 R)
   (hlen : out.length + (Ty.joinL [44, 32] xs).length ≤ 900000000) {R : Ending → World → Prop}
   (hR : ∀ w', Sat wB w' [Fr, wrA wb nv tv main ind (out ++ Ty.joinL [44, 32] xs)] → R (.returned (.tuple #[])) w') :
   Calls Tryz.prog 149 #[.pointer (some ⟨wb, 0, none⟩), lv, .func (.func F) #[] #[cv]] w R := by
 have HR := qh hR
 have HS := qh H
 have HF := qh hF
 have HL := qh hl
 have HDO := qh hdo
 have HLN := qh hlen
 have HXS := qh hxs
 obtain ⟨a, cap, rfl⟩ := owns_slice hl
 clear hR H hF hl hdo hlen hxs
 go_enter Tryz.func149, Tryz.ntmps149
 go_wp2_with fail
 go_loopw [10] (fun i wr => ∃ k : Nat, k ≤ l.length ∧ i = .int .i64 k ∧ Hid (Sat wB wr [Fr, wrA wb nv tv main ind (out ++ Ty.joinL [44, 32] (xs.take k))])) (fun i _ => l.length - (intOf i).toNat)
 case atStart => exact ⟨0, by omega, rfl, by rw [List.take_zero]; show Sat _ _ [Fr, wrA wb nv tv main ind (out ++ [])]; rw [List.append_nil]; exact HS.out⟩
 case round =>
   obtain ⟨k, hk, rfl, hS⟩ := hrel
   by_cases hlt : k < l.length
   · have hb := HF.out wr _ 0 hS.out rfl
     obtain ⟨g, cap2, e, hg, d0⟩ := ints_at (owns_below HL.out hb) k hlt
     cases e
     have hkx : k < xs.length := by rw [HXS.out]; exact hlt
     have hst := joinL_step [44, 32] xs k hkx
     have hmo := joinL_mono [44, 32] xs (xs.length - (k + 1)) (k + 1) (by omega)
     have HD := qh (HDO.out k hlt hkx)
     rw [hst, List.length_append] at hmo
     have HST := qh hst
     have HMO := qh hmo
     generalize xs[k] = x at *
     generalize l[k] = n at *
     clear hst hmo hb hkx
     by_cases hk0 : k = 0
     · subst hk0
       rw [if_pos rfl] at HST HMO
       go_wp2_with fail
       refine HD.out _ _ hS.out (by have := HLN.out; have := HMO.out; rw [List.length_append]; omega) _ (fun w1 h1 => ?_)
       have h2 : Sat wB w1 [Fr, wrA wb nv tv main ind (out ++ Ty.joinL [44, 32] (xs.take (0 + 1)))] := by rw [HST.out, ← List.append_assoc]; exact h1
       have H2 := qh h2
       clear h1 h2
       go_wp2_with fail
       go_roundw
       case rel => exact ⟨0 + 1, by omega, by go_num, H2.out⟩
       case measure => simp [intOf]; omega
     · rw [if_neg hk0] at HST HMO
       have hk1 : 0 < k := by omega
       clear hk0
       go_wp2_with fail
       refine put1 hS.out _ [44, 32] rfl (by have := HLN.out; have := HMO.out; rw [List.length_append] at this ⊢; simp only [List.length_cons, List.length_nil] at this ⊢; omega) _ (by simp) (fun w1 h1 => ?_)
       rw [List.append_assoc] at h1
       have H1 := qh h1
       clear h1
       go_wp2_with fail
       refine HD.out _ _ H1.out (by have := HLN.out; have := HMO.out; rw [List.length_append]; omega) _ (fun w2 h2 => ?_)
       have h3 : Sat wB w2 [Fr, wrA wb nv tv main ind (out ++ Ty.joinL [44, 32] (xs.take (k + 1)))] := by rw [HST.out, ← List.append_assoc]; exact h2
       have H3 := qh h3
       clear h2 h3
       go_wp2_with fail
       go_roundw
       case rel => exact ⟨k + 1, by omega, by go_num, H3.out⟩
       case measure => simp [intOf]; omega
   · have e : k = l.length := by omega
     subst e
     have h1 := hS.out
     rw [← HXS.out, List.take_length] at h1
     have H1 := qh h1
     clear h1
     go_wp2_with fail
     go_end0
     exact HR.out _ H1.out
end
end
section
open Go Go.RowKit
open Prt (Sat As blk pur exs star stars)
def ExC (wB : World) (nv tv : Value) (pg : Ty.Pg) (wb : Nat) (main : Int) (e : Ty.Ex) : Prop :=
 ∀ (n : Nat), Ty.DenE pg.ns e n → ∀ (least ind : Nat) (out : List UInt8) (w : World) (Fr : As), FrB wB Fr → Sat wB w [Fr, wrA wb nv tv main ind out] → least ≤ 10 → ind + Ty.szE e ≤ 1300 →
   out.length + (Ty.wP pg.ts ind least e).length ≤ 900000000 → ∀ R : Ending → World → Prop, (∀ w', Sat wB w' [Fr, wrA wb nv tv main ind (out ++ Ty.wP pg.ts ind least e)] → R (.returned (.tuple #[])) w') →
   Calls Tryz.prog 83 #[.pointer (some ⟨wb, 0, none⟩), .int .i64 (n : Nat), .int .i64 (least : Nat)] w R
def BaC (F : FuncId) (wB : World) (nv tv : Value) (pg : Ty.Pg) (wb : Nat) (main : Int) (e : Ty.Ex) : Prop :=
 ∀ (n : Nat) (nd : Ty.Nd) (lv : Value), Ty.DenE pg.ns e n → pg.ns[n]? = some nd → wB.ownsRow 0 3 1 lv nd.list.length (nd.list.map inCell) →
   ∀ (ind : Nat) (out : List UInt8) (w : World) (Fr : As), FrB wB Fr → Sat wB w [Fr, wrA wb nv tv main ind out] → ind + Ty.szE e ≤ 1300 →
   out.length + (Ty.wE pg.ts ind e).length ≤ 900000000 → ∀ R : Ending → World → Prop, (∀ w', Sat wB w' [Fr, wrA wb nv tv main ind (out ++ Ty.wE pg.ts ind e)] → R (.returned (.tuple #[])) w') →
   Calls Tryz.prog F #[.pointer (some ⟨wb, 0, none⟩), ndVal nd lv] w R
theorem den_nd {ns : List Ty.Nd} {n : Nat} : ∀ {e : Ty.Ex}, Ty.DenE ns e n → ∃ nd, ns[n]? = some nd ∧ lvlN nd = Ty.lvl e
 | .num .., h => by rw [Ty.DenE] at h; exact ⟨_, h, rfl⟩
 | .text .., h => by rw [Ty.DenE] at h; exact ⟨_, h, rfl⟩
 | .bool .., h => by rw [Ty.DenE] at h; exact ⟨_, h, rfl⟩
 | .null .., h => by rw [Ty.DenE] at h; exact ⟨_, h, rfl⟩
 | .var .., h => by rw [Ty.DenE] at h; exact ⟨_, h, rfl⟩
 | .fn .., h => by rw [Ty.DenE] at h; obtain ⟨_, _, h, _⟩ := h; exact ⟨_, h, rfl⟩
 | .call .., h => by rw [Ty.DenE] at h; obtain ⟨_, _, h, _⟩ := h; exact ⟨_, h, rfl⟩
 | .get .., h => by rw [Ty.DenE] at h; obtain ⟨_, h, _⟩ := h; exact ⟨_, h, rfl⟩
 | .at .., h => by rw [Ty.DenE] at h; obtain ⟨_, _, h, _⟩ := h; exact ⟨_, h, rfl⟩
 | .obj .., h => by rw [Ty.DenE] at h; obtain ⟨_, h, _⟩ := h; exact ⟨_, h, rfl⟩
 | .arr .., h => by rw [Ty.DenE] at h; obtain ⟨_, h, _⟩ := h; exact ⟨_, h, rfl⟩
 | .two .., h => by rw [Ty.DenE] at h; obtain ⟨_, _, h, _⟩ := h; exact ⟨_, h, rfl⟩
 | .one .., h => by rw [Ty.DenE] at h; obtain ⟨_, h, _⟩ := h; exact ⟨_, h, rfl⟩
 | .as .., h => by rw [Ty.DenE] at h; obtain ⟨_, h, _⟩ := h; exact ⟨_, h, rfl⟩
def ndObj (nd : Ty.Nd) (lv : Value) : Obj := .cells #[.int .i64 nd.kind, .int .i64 nd.a, .int .i64 nd.b, .int .i64 nd.c, lv, .string nd.text, .int .i64 nd.n, .int .i64 nd.ty, .int .i64 nd.pos] 74
section
variable {wB : World} {nv tv : Value} {pg : Ty.Pg} {wb : Nat} {main : Int}
theorem expr_of_bare (hP : PB wB nv tv pg) {e : Ty.Ex} (hB : BaC 118 wB nv tv pg wb main e) : ExC wB nv tv pg wb main e := by
 intro n hd least ind out w Fr hF H hle hsz hlen R hR
 obtain ⟨nd, hn, hlv⟩ := den_nd hd
 have HR := qh hR
 have HLN := qh hlen
 have HS := qh H
 have HF := qh hF
 have HLV := qh hlv
 have HBA := qh (fun lv hl => hB n nd lv hd hn hl ind)
 have HSZ := qh hsz
 have HNO := qh (fun R => @wnode_any wB w Fr wb nv tv pg main ind out hP hF H n nd hn R)
 clear hB hR hlen H hF hlv hP hd hn hsz
 go_enter Tryz.func83, Tryz.ntmps83
 go_wp2_with fail
 refine HNO.out _ (fun w1 lv hl hb1 => ?_)
 obtain ⟨la, lc, rfl⟩ := owns_slice hl
 have h1 := (HS.out.below hb1).allocAt (ndObj nd (.slice la nd.list.length lc)) w1.heap.size
 have HB2 := qh (HBA.out _ hl)
 have H1 := qh h1
 clear hl hb1 h1
 dsimp only [ndVal]
 go_wp2_with fail
 refine binds_any _ nd (.slice la nd.list.length lc) ⟨_, _, _, rfl⟩ (fun w2 hb2 => ?_)
 have h2 := H1.out.below hb2
 rw [HLV.out]
 have x0 := h2.cell 2 rfl 0 rfl
 have x1 := h2.cell 2 rfl 1 rfl
 have x2 := h2.cell 2 rfl 2 rfl
 have x3 := h2.cell 2 rfl 3 rfl
 have x4 := h2.cell 2 rfl 4 rfl
 have x5 := h2.cell 2 rfl 5 rfl
 have x6 := h2.cell 2 rfl 6 rfl
 have x7 := h2.cell 2 rfl 7 rfl
 have x8 := h2.cell 2 rfl 8 rfl
 have H2 := qh h2.swap
 clear hb2 h2
 unfold Ty.wP Ty.par at HR HLN
 by_cases hc : Ty.lvl e < least
 · rw [decide_eq_true hc, if_pos rfl] at HR HLN
   have k1 : decide ((Ty.lvl e : Int) < (least : Nat)) = true := decide_eq_true (by omega)
   have k2 : decide (Ty.lvl e < least) = true := decide_eq_true hc
   have hln := HLN.out
   simp only [lzA, lzC, lzN] at hln
   have HLE := qh hln
   generalize Ty.lvl e = lvle at *
   clear hc hln HLN
   go_wp2_with fail
   refine put1 H2.out _ [40] rfl (by have := HLE.out; simp; omega) _ (by simp) (fun w3 h3 => ?_)
   have h4 := h3.unswap
   have y0 := h4.cell 2 rfl 0 rfl
   have y1 := h4.cell 2 rfl 1 rfl
   have y2 := h4.cell 2 rfl 2 rfl
   have y3 := h4.cell 2 rfl 3 rfl
   have y4 := h4.cell 2 rfl 4 rfl
   have y5 := h4.cell 2 rfl 5 rfl
   have y6 := h4.cell 2 rfl 6 rfl
   have y7 := h4.cell 2 rfl 7 rfl
   have y8 := h4.cell 2 rfl 8 rfl
   have H3 := qh h3
   clear h3 h4
   go_wp2_with fail
   refine HB2.out _ w3 _ (HF.out.stars (M := [_])) H3.out HSZ.out (by have := HLE.out; rw [List.length_append]; simp; omega) _ (fun w5 h5 => ?_)
   have H5 := qh h5
   clear h5
   go_wp2_with fail
   refine put1 H5.out _ [41] rfl (by have := HLE.out; rw [List.length_append, List.length_append]; simp; omega) _ (by simp) (fun w6 h6 => ?_)
   have H6 := qh (h6.unpack (i := 0) rfl)
   clear h6
   go_wp2_with fail
   go_end0
   refine HR.out _ ?_
   rw [show out ++ ([40] ++ Ty.wE pg.ts ind e ++ [41]) = out ++ [40] ++ Ty.wE pg.ts ind e ++ [41] by simp]
   exact H6.out.pick [1, 0]
 · rw [decide_eq_false hc] at HR HLN
   have k1 : decide ((Ty.lvl e : Int) < (least : Nat)) = false := decide_eq_false (by omega)
   have k2 : decide (Ty.lvl e < least) = false := decide_eq_false hc
   rw [if_neg (by decide)] at HR HLN
   generalize Ty.lvl e = lvle at *
   clear hc
   go_wp2_with fail
   refine HB2.out _ w2 _ (HF.out.stars (M := [_])) H2.out HSZ.out HLN.out _ (fun w5 h5 => ?_)
   have H6 := qh (h5.unpack (i := 0) rfl)
   clear h5
   go_wp2_with fail
   go_end0
   exact HR.out _ (H6.out.pick [1, 0])
end
end
section
open Go Go.RowKit
open Prt (Sat As blk pur exs star stars)
namespace Ty
theorem DenEs.len {ns : List Nd} : ∀ {l : List Ex} {nl : List Nat}, DenEs ns l nl → nl.length = l.length
 | [], _, h => by rw [DenEs] at h; rw [h]; rfl
 | e :: l, _, h => by rw [DenEs] at h; obtain ⟨n, t, rfl, _, h2⟩ := h; simp [h2.len]
theorem DenEs.get {ns : List Nd} : ∀ {l : List Ex} {nl : List Nat}, DenEs ns l nl → ∀ k (h1 : k < l.length) (h2 : k < nl.length), DenE ns l[k] nl[k]
 | [], _, _, k, h1, _ => by simp at h1
 | e :: l, _, h, k, h1, h2 => by
   rw [DenEs] at h
   obtain ⟨n, t, rfl, h3, h4⟩ := h
   cases k with
   | zero => exact h3
   | succ k => exact h4.get k (by simpa using h1) (by simpa using h2)
theorem wEs_map (ts : List Ty) (ind : Nat) : ∀ l : List Ex, wEs ts ind l = l.map (wE ts ind)
 | [] => by rw [wEs]; rfl
 | e :: l => by rw [wEs, wEs_map ts ind l]; rfl
theorem szEs_in : ∀ {l : List Ex} {e : Ex}, e ∈ l → szE e ≤ szEs l
 | [], _, h => by simp at h
 | a :: l, e, h => by
   rw [szEs]
   rcases List.mem_cons.1 h with rfl | h
   · omega
   · have := szEs_in h; omega
theorem szEs_len : ∀ l : List Ex, l.length ≤ szEs l
 | [] => by simp
 | e :: l => by
   have := szEs_len l
   have h1 : 1 ≤ szE e := by cases e <;> simp [szE] <;> omega
   rw [szEs]; simp; omega
structure DenO (ns : List Nd) (o : Nat × ByteArray × Ex) (n a : Nat) : Prop where
 nd : ns[n]? = some { ndOf 15 o.1 with text := o.2.1, a := a }
 den : DenE ns o.2.2 a
theorem DenOs.len {ns : List Nd} : ∀ {l : List (Nat × ByteArray × Ex)} {nl : List Nat}, DenOs ns l nl → nl.length = l.length
 | [], _, h => by rw [DenOs] at h; rw [h]; rfl
 | (p, x, e) :: l, _, h => by rw [DenOs] at h; obtain ⟨n, a, t, rfl, _, _, h2⟩ := h; simp [h2.len]
theorem DenOs.get {ns : List Nd} : ∀ {l : List (Nat × ByteArray × Ex)} {nl : List Nat}, DenOs ns l nl → ∀ k (h1 : k < l.length) (h2 : k < nl.length), ∃ a, DenO ns l[k] nl[k] a
 | [], _, _, k, h1, _ => by simp at h1
 | (p, x, e) :: l, _, h, k, h1, h2 => by
   rw [DenOs] at h
   obtain ⟨n, a, t, rfl, h3, h4, h5⟩ := h
   cases k with
   | zero => exact ⟨a, h3, h4⟩
   | succ k => exact h5.get k (by simpa using h1) (by simpa using h2)
theorem wOs_map (ts : List Ty) (ind : Nat) : ∀ l : List (Nat × ByteArray × Ex), wOs ts ind l = l.map fun o => o.2.1.data.toList ++ [58, 32] ++ wE ts ind o.2.2
 | [] => by rw [wOs]; rfl
 | (p, x, e) :: l => by rw [wOs, wOs_map ts ind l]; rfl
theorem szOs_in : ∀ {l : List (Nat × ByteArray × Ex)} {o : Nat × ByteArray × Ex}, o ∈ l → szE o.2.2 ≤ szOs l
 | [], _, h => by simp at h
 | (p, x, e) :: l, o, h => by
   rw [szOs]
   rcases List.mem_cons.1 h with rfl | h
   · dsimp only; omega
   · have := szOs_in h; omega
theorem szOs_len : ∀ l : List (Nat × ByteArray × Ex), l.length ≤ szOs l
 | [] => by simp
 | (p, x, e) :: l => by
   have := szOs_len l
   rw [szOs]; simp; omega
end Ty
section
variable {wB w : World} {Fr : As} {wb : Nat} {nv tv : Value} {pg : Ty.Pg} {main : Int} {ind : Nat} {out : List UInt8}
theorem exprs1_any {e : Ty.Ex} (hE : ExC wB nv tv pg wb main e) {n : Nat} (hd : Ty.DenE pg.ns e n) (hF : FrB wB Fr) {bw : Nat} (H : Sat wB w [stars [Fr, blk bw (.cells #[.pointer (some ⟨wb, 0, none⟩)] 83 (0, 0))], wrA wb nv tv main ind out])
   (hsz : ind + Ty.szE e ≤ 1300) (hlen : out.length + (Ty.wE pg.ts ind e).length ≤ 900000000) {R : Ending → World → Prop}
   (hR : ∀ w', Sat wB w' [stars [Fr, blk bw (.cells #[.pointer (some ⟨wb, 0, none⟩)] 83 (0, 0))], wrA wb nv tv main ind (out ++ Ty.wE pg.ts ind e)] → R (.returned (.tuple #[])) w') :
   Calls Tryz.prog 173 #[.int .i64 (n : Nat), .pointer (some ⟨bw, 0, none⟩)] w R := by
 have HR := qh hR
 have h1 := H.unswap
 have c0 := h1.cell 2 rfl 0 rfl
 have hx := hE n hd 0 ind out w _ (hF.stars (M := [blk bw (.cells #[.pointer (some ⟨wb, 0, none⟩)] 83 (0, 0))])) H (by omega) hsz (by rw [Ty.wP_zero]; exact hlen)
 rw [Ty.wP_zero] at hx
 have HX := qh hx
 clear hR H h1 hx hE hd hF hsz hlen
 go_enter Tryz.func173, Tryz.ntmps173
 go_wp2_with fail
 refine HX.out _ (fun w1 h1 => ?_)
 have H1 := qh h1
 clear h1
 go_wp2_with fail
 go_end0
 exact HR.out _ H1.out
theorem wexprs_any {l : List Ty.Ex} (hE : ∀ e ∈ l, ExC wB nv tv pg wb main e) {nl : List Nat} (hd : Ty.DenEs pg.ns l nl) (lv : Value) (hl : wB.ownsRow 0 3 1 lv nl.length (nl.map inCell)) (hF : FrB wB Fr) (H : Sat wB w [Fr, wrA wb nv tv main ind out])
   (hsz : ind + Ty.szEs l ≤ 1300) (hlen : out.length + (Ty.joinL [44, 32] (Ty.wEs pg.ts ind l)).length ≤ 900000000) {R : Ending → World → Prop}
   (hR : ∀ w', Sat wB w' [Fr, wrA wb nv tv main ind (out ++ Ty.joinL [44, 32] (Ty.wEs pg.ts ind l))] → R (.returned (.tuple #[])) w') :
   Calls Tryz.prog 151 #[.pointer (some ⟨wb, 0, none⟩), lv] w R := by
 have HR := qh hR
 have hll := hd.len
 have hsl := Ty.szEs_len l
 have h1 := (H.allocAt (.cells #[.pointer (some ⟨wb, 0, none⟩)] 83) w.heap.size).swap
 have hw := fun (R : Ending → World → Prop) => wlist_any (R := R) nl lv hl (by omega) (Ty.wEs pg.ts ind l) (by rw [Ty.wEs_map]; simp; omega) (hF.stars (M := [blk w.heap.size (.cells #[.pointer (some ⟨wb, 0, none⟩)] 83 (0, 0))])) h1 173 (.pointer (some ⟨w.heap.size, 0, none⟩)) Tryz.call173
   (fun k hk hk2 o w1 hs ho R hR => by
     have hkl : k < l.length := by omega
     have e : (Ty.wEs pg.ts ind l)[k] = Ty.wE pg.ts ind l[k] := by simp [Ty.wEs_map]
     rw [e] at ho hR
     have hm : l[k] ∈ l := List.getElem_mem _
     exact exprs1_any (hE _ hm) (hd.get k hkl hk) hF hs (by have := Ty.szEs_in hm; omega) ho hR) hlen
 obtain ⟨la, lc, rfl⟩ := owns_slice hl
 have HW := qh hw
 clear hR H hE hd hl hF hsz hlen hll hsl h1 hw
 go_enter Tryz.func151, Tryz.ntmps151
 go_wp2_with fail
 refine HW.out _ (fun w1 h1 => ?_)
 have H1 := qh (h1.unpack (i := 0) rfl)
 clear h1
 go_wp2_with fail
 go_end0
 exact HR.out _ (H1.out.pick [1, 0])
theorem field_nd1 (a b c d e f g h i : Value) (w : World) : (Instr.field 74 (.agg #[a, b, c, d, e, f, g, h, i]) 1).run Tryz.prog w = .ok b w := by kernel_rfl
theorem field_nd5 (a b c d e f g h i : Value) (w : World) : (Instr.field 74 (.agg #[a, b, c, d, e, f, g, h, i]) 5).run Tryz.prog w = .ok f w := by kernel_rfl
theorem field_nd7 (a b c d e f g h i : Value) (w : World) : (Instr.field 74 (.agg #[a, b, c, d, e, f, g, h, i]) 7).run Tryz.prog w = .ok h w := by kernel_rfl
theorem object1_any (hP : PB wB nv tv pg) {p : Nat} {x : ByteArray} {e : Ty.Ex} (hE : ExC wB nv tv pg wb main e) {n a : Nat} (hd : Ty.DenO pg.ns (p, x, e) n a) (hF : FrB wB Fr) {bw : Nat} (H : Sat wB w [stars [Fr, blk bw (.cells #[.pointer (some ⟨wb, 0, none⟩)] 83 (0, 0))], wrA wb nv tv main ind out])
   (hsz : ind + Ty.szE e ≤ 1300) (hlen : out.length + (x.data.toList ++ [58, 32] ++ Ty.wE pg.ts ind e).length ≤ 900000000) {R : Ending → World → Prop}
   (hR : ∀ w', Sat wB w' [stars [Fr, blk bw (.cells #[.pointer (some ⟨wb, 0, none⟩)] 83 (0, 0))], wrA wb nv tv main ind (out ++ (x.data.toList ++ [58, 32] ++ Ty.wE pg.ts ind e))] → R (.returned (.tuple #[])) w') :
   Calls Tryz.prog 174 #[.int .i64 (n : Nat), .pointer (some ⟨bw, 0, none⟩)] w R := by
 have HR := qh hR
 have hF2 := hF.stars (M := [blk bw (.cells #[.pointer (some ⟨wb, 0, none⟩)] 83 (0, 0))])
 have HC := qh (fun (w1 : World) (o : List UInt8) (h : Sat wB w1 [stars [Fr, blk bw (.cells #[.pointer (some ⟨wb, 0, none⟩)] 83 (0, 0))], wrA wb nv tv main ind o]) => h.unswap.cell 2 rfl 0 rfl)
 have c0 := HC.out _ _ H
 have HNO := qh (fun (w1 : World) (o : List UInt8) (h : Sat wB w1 [stars [Fr, blk bw (.cells #[.pointer (some ⟨wb, 0, none⟩)] 83 (0, 0))], wrA wb nv tv main ind o]) (R : Ending → World → Prop) => wnode_any (R := R) hP hF2 h hd.nd)
 have HX := qh (fun (w1 : World) (o : List UInt8) h ho => hE a hd.den 0 ind o w1 _ hF2 h (by omega) hsz ho)
 simp only [lzA, lzC, lzN] at hlen
 have HLN := qh hlen
 have HS := qh H
 have hf1 := field_nd1
 have hf5 := field_nd5
 rw [Ty.wP_zero] at HX
 clear hR H hd hF hF2 hsz hlen hE hP
 go_enter Tryz.func174, Tryz.ntmps174
 go_wp2_with fail
 go_region_held3 (fun w' => w'.cell? ⟨bw, 0, none⟩ = some (.pointer (some ⟨wb, 0, none⟩))) (go_keep)
   (first | (go_at_call 79; refine HNO.out _ _ HS.out.drew _ (fun w1 lv hl hb1 => ?_); obtain ⟨la, lc, rfl⟩ := owns_slice hl; have h1 := HS.out.drew.below hb1; have s0 := HC.out _ _ h1; have H1 := qh h1; clear hl hb1 h1; dsimp only [ndVal])
          | (go_at_call 80; refine put2 H1.out _ _ x.data.toList [58, 32] (bs_of x).symm rfl (by have := HLN.out; simp only [lzA, lzC, lzN]; omega) _ (by simp) (fun w2 h2 => ?_); have s0 := HC.out _ _ h2; have H2 := qh h2; clear h2))
 all_goals
   clear c0 H1
   go_wp2_with fail
   go_region_held3 (fun w' => w'.cell? ⟨bw, 0, none⟩ = some (.pointer (some ⟨wb, 0, none⟩))) (go_keep)
     (first | (go_at_call 79; refine HNO.out _ _ H2.out.drew _ (fun w3 lv hl hb1 => ?_); obtain ⟨la2, lc2, rfl⟩ := owns_slice hl; have h1 := H2.out.drew.below hb1; have s0 := HC.out _ _ h1; have H3 := qh h1; clear hl hb1 h1; dsimp only [ndVal])
            | (go_at_call 83; refine HX.out _ _ H3.out (by have := HLN.out; simp only [lzA, lzC, lzN]; omega) _ (fun w4 h4 => ?_); have s0 := HC.out _ _ h4; have H4 := qh h4; clear h4))
   all_goals
     go_wp2_with fail
     go_end0
     refine HR.out _ ?_
     rw [show out ++ (x.data.toList ++ [58, 32] ++ Ty.wE pg.ts ind e) = out ++ (x.data.toList ++ [58, 32]) ++ Ty.wE pg.ts ind e by simp]
     exact H4.out
end
end
end Go.Proofs.YtdlbhiaceheffaaGreatDoor
