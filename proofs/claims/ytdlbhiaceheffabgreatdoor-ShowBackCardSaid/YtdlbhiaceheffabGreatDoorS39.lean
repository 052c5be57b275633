/- Plain: what is printed is parsed as it was, but for places; and printed again it is the same. No program in sight. Walk of the reference's SameNodes: where both hold the same, but for places. Walk of the reference's SameProgram: where both hold the same. Walk of the law ShowBack. The row and the card of ShowBack, out of its walk: whatever text, the law answers true. -/
import Derived.Deep.RegionLaw
import Derived.Test.YtdlbhiaceheffabGreatDoorS38
set_option linter.all false
set_option maxRecDepth 100000
set_option maxHeartbeats 40000000
namespace Go.Proofs.YtdlbhiaceheffabGreatDoor
section
namespace Ty
open Tok (Tk)
theorem parL_k6 {b : Bool} {ls : List Lm} (h : ∃ l r, ls = l :: r ∧ l.1 ≠ 6) : ∃ l r, parL b ls = l :: r ∧ l.1 ≠ 6 := by
 unfold parL
 split
 · exact ⟨_, _, rfl, by simp⟩
 · exact h
theorem app_k6 {ls k : List Lm} (h : ∃ l r, ls = l :: r ∧ l.1 ≠ 6) : ∃ l r, ls ++ k = l :: r ∧ l.1 ≠ 6 := by
 obtain ⟨l, r, rfl, h⟩ := h
 exact ⟨l, _, rfl, h⟩
theorem lexE_k6 (ts : List Ty) : ∀ e : Ex, ∃ l r, lexE ts e = l :: r ∧ l.1 ≠ 6
 | .num _ _ => by rw [lexE]; exact ⟨_, _, rfl, by simp⟩
 | .text _ _ => by rw [lexE]; exact ⟨_, _, rfl, by simp⟩
 | .bool _ _ => by rw [lexE]; exact ⟨_, _, rfl, by simp⟩
 | .null _ => by rw [lexE]; exact ⟨_, _, rfl, by simp⟩
 | .var _ _ => by rw [lexE]; exact ⟨_, _, rfl, by simp⟩
 | .fn .. => by rw [lexE]; exact ⟨_, _, rfl, by simp⟩
 | .call _ a l => by rw [lexE]; exact app_k6 (parL_k6 (lexE_k6 ts a))
 | .get _ a x => by rw [lexE]; exact app_k6 (parL_k6 (lexE_k6 ts a))
 | .at _ a b => by rw [lexE]; exact app_k6 (parL_k6 (lexE_k6 ts a))
 | .obj .. => by rw [lexE]; exact ⟨_, _, rfl, by simp⟩
 | .arr .. => by rw [lexE]; exact ⟨_, _, rfl, by simp⟩
 | .two _ x a b => by rw [lexE]; exact app_k6 (parL_k6 (lexE_k6 ts a))
 | .one _ x a => by rw [lexE]; exact ⟨_, _, rfl, by dsimp only; split <;> simp⟩
 | .as _ a ty => by rw [lexE]; exact app_k6 (parL_k6 (lexE_k6 ts a))
theorem lexS_k6 (ts : List Ty) : ∀ e : Sm, ∃ l r, lexS ts e = l :: r ∧ l.1 ≠ 6
 | .let_ .. => by rw [lexS]; exact ⟨_, _, rfl, by simp⟩
 | .set .. => by rw [lexS]; exact ⟨_, _, rfl, by simp⟩
 | .put _ a x v => by rw [lexS]; exact app_k6 (parL_k6 (lexE_k6 ts a))
 | .lay _ a b v => by rw [lexS]; exact app_k6 (parL_k6 (lexE_k6 ts a))
 | .print .. => by rw [lexS]; exact ⟨_, _, rfl, by simp⟩
 | .ret .. => by rw [lexS]; exact ⟨_, _, rfl, by simp⟩
 | .do_ _ a => by rw [lexS]; exact app_k6 (lexE_k6 ts a)
 | .if_ _ _ _ _ none => by rw [lexS]; exact ⟨_, _, rfl, by simp⟩
 | .if_ _ _ _ _ (some (_, _)) => by rw [lexS]; exact ⟨_, _, rfl, by simp⟩
 | .while_ .. => by rw [lexS]; exact ⟨_, _, rfl, by simp⟩
section
variable {toks t2 : List Tk}
theorem prog_op (hz : Ends toks) {r : Nat} {S : M Nat} (H : SrM t2 r S) (hS : Lim toks S) : ∀ f (l : List Nat) s l' s', Inv s → s.pos < toks.length → progLoop toks S f l s = .ok (l', s') → Inv s' ∧ Ext s.ts s'.ts ∧ s'.pos < toks.length ∧ (cur toks s'.pos).kind = 6 ∧ ∃ es az LS, l' = l ++ az ∧ laySs es s.ns = (s'.ns, az) ∧
     (∀ tsF, Ext s'.ts tsF → lexSs tsF es = LS) ∧ (LS = [] ∨ HdOf shuts LS) ∧ s.pos + LS.length ≤ s'.pos ∧
     ∀ r2, r ≤ r2 → ∀ t f2, D t2 t.pos (LS ++ [(6, [])]) → Eqs s t → t2.length < t.pos + f2 → ∃ t', progLoop t2 (lv t2 r2).S f2 l t = .ok (l', t') ∧ Eqs s' t'
 | 0, _, _, _, _, _, _, h => by cases h
 | f + 1, l, s, l', s', hi, hp, h => by
   have h : (if (cur toks s.pos).kind = 6 then ret l else bnd S fun n => progLoop toks S f (l ++ [n]) : M (List Nat)) s = .ok (l', s') := h
   have hgo : ∀ r2 f2 l t, progLoop t2 (lv t2 r2).S (f2 + 1) l t = (if (cur t2 t.pos).kind = 6 then ret l else bnd (lv t2 r2).S fun n => progLoop t2 (lv t2 r2).S f2 (l ++ [n]) : M (List Nat)) t := fun _ _ _ _ => rfl
   by_cases hk : (cur toks s.pos).kind = 6
   · rw [if_pos hk] at h
     obtain ⟨rfl, rfl⟩ : l = l' ∧ s = s' := by cases h; exact ⟨rfl, rfl⟩
     refine ⟨hi, Ext.refl _, hp, hk, [], [], [], by simp, by rw [laySs], fun _ _ => by rw [lexSs], .inl rfl, by simp, fun r2 _ t f2 hd he hf2 => ?_⟩
     have hd : D t2 t.pos [(6, [])] := hd
     have := hd.lt
     obtain ⟨f2, rfl⟩ : ∃ g, f2 = g + 1 := ⟨f2 - 1, by omega⟩
     refine ⟨t, ?_, he⟩
     have hc : (cur t2 t.pos).kind = 6 := congrArg Prod.fst hd.cur
     rw [hgo, if_pos hc]; rfl
   · rw [if_neg hk] at h
     obtain ⟨n, s3, e3, h⟩ := bnd_inv h
     obtain ⟨i3, x3, e, ls, k1, k2, k3, k4, k5⟩ := H _ _ _ hi e3
     obtain ⟨i4, x4, p4, q4, es, az, LS, g1, g2, g3, gh, g4, g5⟩ := prog_op hz H hS f (l ++ [n]) s3 l' s' i3 (hS s hp _ _ e3) h
     refine ⟨i4, x3.trans x4, p4, q4, e :: es, n :: az, ls ++ LS, by rw [g1]; simp, ?_, fun tsF hxt => ?_, .inr (k3.app _), ?_, fun r2 hr t f2 hd he hf2 => ?_⟩
     · rw [laySs, k1]
       dsimp only
       rw [g2]
     · rw [lexSs, k2 tsF (x4.trans hxt), g3 tsF hxt]
     · simp only [List.length_append]
       omega
     · rw [List.append_assoc] at hd
       have hfo : FoS (LS ++ [(6, [])]) := by
         rcases gh with rfl | gh
         · rfl
         · exact gh.at _ (by decide)
       obtain ⟨t3, a1, a2, a3⟩ := k5 r2 hr t _ hd hfo he
       have := k3.len
       obtain ⟨u, v, hu, hu6⟩ := lexS_k6 s3.ts e
       rw [k2 s3.ts (Ext.refl _)] at hu
       have hd2 := hd
       rw [hu] at hd2
       have hlt : t.pos < t2.length := hd2.lt
       obtain ⟨f2, rfl⟩ : ∃ g, f2 = g + 1 := ⟨f2 - 1, by omega⟩
       obtain ⟨t', b1, b3⟩ := g5 r2 hr t3 f2 (hd.add.pos a2) a3 (by omega)
       refine ⟨t', ?_, b3⟩
       have hc : (cur t2 t.pos).kind = u.1 := congrArg Prod.fst hd2.cur
       rw [hgo, if_neg (by rw [hc]; exact hu6), bnd_ok a1]
       exact b1
end
theorem scan_ends {toks : List Tk} (h : ∀ t, toks.getLast? = some t → t.kind = 6) : Ends toks := fun p hp hk => by
 rcases Nat.lt_or_ge (p + 1) toks.length with h1 | h1
 · exact h1
 · refine absurd (h _ ?_) hk
   have hne : toks ≠ [] := by rintro rfl; simp at hp
   have e : p = toks.length - 1 := by omega
   unfold cur
   rw [List.getLast?_eq_getElem?, ← e, List.getElem?_eq_getElem hp]; rfl
theorem show_back {s : ByteArray} {pg : Pg} (h : parse s = .ok pg) {l : List Sm} (hl : layB 0 l [] = (pg.ns, pg.main)) (hz : (wSs pg.ts 0 l).length ≤ 4000) :
   ∃ pg2, parse ⟨(wSs pg.ts 0 l).toArray⟩ = .ok pg2 ∧ pg2.ts = pg.ts ∧ pg2.main = pg.main ∧ pg2.ns.map er = pg.ns.map er := by
 have hok := parse_pg h
 have hden := (layB_den 0 l []).2
 rw [hl] at hden
 rw [DenB] at hden
 obtain ⟨ids, hd1, hd2⟩ := hden
 have hly := wSs_ly (ts := pg.ts) ⟨hok.wf, hok.nm, hok.ns⟩ l ids 0 hd2
 unfold parse at h
 split at h
 · cases h
 · rename_i toks hsc
   split at h
   · cases h
   · rename_i n st hpm
     split at h
     · cases h
     · rename_i hlen
       obtain rfl := (Except.ok.inj h).symm
       dsimp only at hl hz hd1 hd2 hly ⊢
       have hpm0 := hpm
       have hL := (Tok.scan_ok _ _ hsc).2.1
       have hT := scan_tk hsc
       have hE : Ends toks := scan_ends (scan_last hsc)
       have hne := (Tok.scan_ok _ _ hsc).1
       have h0 : 0 < toks.length := List.length_pos_iff.2 hne
       obtain ⟨l1, s1, e1, y⟩ := bnd_inv hpm
       -- tokens of what is printed
       obtain ⟨_, _, p1, q1, es, az, LS, g1, g2, g3, _, g4, _⟩ := prog_op (t2 := toks) hE (lv_op hT hL 20).2.2 (lv_lim hE 20).2.2 _ _ _ _ _ ⟨Wf.nil, Nm.nil, fun x hx => by simp at hx⟩ h0 e1
       obtain ⟨w1, w2, w3, w4⟩ := add_inv y
       have hes : layB 0 es [] = (st.ns, n) := by
         rw [layB]
         have g2' : laySs es [] = (s1.ns, az) := g2
         rw [g2']
         dsimp only
         rw [w4, w3, g1]; rfl
       have hlx : lexSs st.ts l = LS := by
         have hu := layB_uni (rfl : st.ns.map er = st.ns.map er) hl hes
         rw [← g3 st.ts (by rw [w1]; exact Ext.refl _)]
         rw [← lexSs_eSs st.ts l, ← lexSs_eSs st.ts es, hu]
       rw [hlx] at hly
       obtain ⟨t2, hs2, hk2⟩ := scan_ly hly.weak (by dsimp only at g4; omega) hz
       obtain ⟨_, _, _, _, es', az', LS', g1', g2', g3', _, _, g5⟩ := prog_op (t2 := t2) hE (lv_op hT hL 20).2.2 (lv_lim hE 20).2.2 _ _ _ _ _ ⟨Wf.nil, Nm.nil, fun x hx => by simp at hx⟩ h0 e1
       have hLS : LS' = LS := by
         rw [← g3' s1.ts (Ext.refl _), ← g3 s1.ts (Ext.refl _)]
         have hes' : layB 0 es' [] = (st.ns, n) := by
           rw [layB]
           have g2'' : laySs es' [] = (s1.ns, az') := g2'
           rw [g2'']
           dsimp only
           rw [w4, w3, g1']; try rfl
         have hu := layB_uni (rfl : st.ns.map er = st.ns.map er) hes' hes
         rw [← lexSs_eSs s1.ts es', ← lexSs_eSs s1.ts es, hu]
       rw [hLS] at g5
       have hD : D t2 0 (LS ++ [(6, [])]) := by unfold D; rw [hk2]; rfl
       obtain ⟨t', a1, a2⟩ := g5 20 (Nat.le_refl _) ⟨0, [], []⟩ (t2.length + 1) hD (Eqs.refl _) (by simp)
       have ha : progM t2 ⟨0, [], []⟩ = .ok (t'.ns.length, { t' with ns := t'.ns ++ [{ ndOf 26 0 with list := l1 }] }) := by
         show bnd _ _ _ = _
         rw [bnd_ok a1]; rfl
       have hnl : t'.ns.length = s1.ns.length := by have := congrArg List.length a2.ns; simpa using this
       refine ⟨⟨t'.ns ++ [{ ndOf 26 0 with list := l1 }], t'.ts, t'.ns.length⟩, ?_, by rw [a2.ts, w1], by rw [hnl, w3], by rw [w4, List.map_append, List.map_append, a2.ns]⟩
       unfold parse
       rw [hs2]
       dsimp only
       rw [ha]
       dsimp only
       rw [if_neg (by
         rw [List.length_append, hnl, a2.ts]
         rw [w4, w1, List.length_append] at hlen
         simpa using hlen)]
theorem show_again {pg pg2 : Pg} (h1 : pg2.ts = pg.ts) (h2 : pg2.main = pg.main) (h3 : pg2.ns.map er = pg.ns.map er) {l l2 : List Sm} (hl : layB 0 l [] = (pg.ns, pg.main)) (hl2 : layB 0 l2 [] = (pg2.ns, pg2.main)) : wSs pg2.ts 0 l2 = wSs pg.ts 0 l := by
 rw [h2] at hl2
 have hu := layB_uni h3 hl hl2
 rw [h1, ← wSs_eSs pg.ts l2, ← wSs_eSs pg.ts l, hu]
end Ty
end
section
open Go Go.RowKit
open Prt (Sat As blk pur exs star stars)
theorem sameNodesF_any (w : World) (v1 v2 : Value) (rows1 rows2 : List NdRow) (hr : (rows2.map NdRow.t).map Ty.er = (rows1.map NdRow.t).map Ty.er) (hl : rows1.length ≤ 2000) (h1 : NRd w v1 rows1) (h2 : NRd w v2 rows2) {R : Ending → World → Prop}
   (hR : ∀ w', Below w.heap.size w w' → R (.returned (.bool true)) w') : Calls Tryz.prog 42 #[v1, v2, .bool false] w R := by
 have HR := qh hR
 have hlen : rows2.length = rows1.length := by have := congrArg List.length hr; simpa using this
 obtain ⟨a1, c1, rfl⟩ := owns_slice h1.row
 obtain ⟨a2, c2, e2⟩ := owns_slice h2.row
 rw [hlen] at e2
 subst e2
 have HB : Hid (∀ w', Below w.heap.size w w' → ∀ k (hk : k < rows1.length), ∃ (g1 g2 : Nat) (t : Ty.Nd) (ps2 : Nat) (lv1 lv2 : Value), a1 = some ⟨g1, 0, none⟩ ∧ a2 = some ⟨g2, 0, none⟩ ∧ g1 < w'.heap.size ∧ g2 < w'.heap.size ∧ rows1.length ≤ c1 ∧ c1 ≤ maxLen ∧ rows1.length ≤ c2 ∧ c2 ≤ maxLen ∧
     NdAt w' g1 k t lv1 ∧ NdAt w' g2 k { t with pos := ps2 } lv2 ∧ w'.ownsRow 0 3 1 lv1 t.list.length (t.list.map inCell) ∧ w'.ownsRow 0 3 1 lv2 t.list.length (t.list.map inCell)) := fun w' hb k hk => by
   have k1 := h1.below hb
   have k2 := h2.below hb
   have hl1 : (rows1.map NdRow.t).length = rows1.length := by simp
   obtain ⟨g1, cap1, lv1, e1, z1, m1, m2, q1, b1⟩ := k1.look rfl (n := k) (by simpa using hk)
   have hl2 : (rows2.map NdRow.t).length = rows1.length := by simp [hlen]
   obtain ⟨g2, cap2, lv2, e2, z2, m3, m4, q2, b2⟩ := k2.look rfl (n := k) (by simpa [hlen] using hk)
   rw [hl1] at e1 m1
   rw [hl2] at e2
   rw [hl2] at m3
   cases e1
   cases e2
   have hq := Ty.er_all hr (n := k) (List.getElem?_eq_getElem (by simpa using hk)) (List.getElem?_eq_getElem (by simpa [hlen] using hk))
   have hnd : (rows2.map NdRow.t)[k]'(by simpa [hlen] using hk) = { (rows1.map NdRow.t)[k]'(by simpa using hk) with pos := ((rows2.map NdRow.t)[k]'(by simpa [hlen] using hk)).pos } := by
     generalize (rows2.map NdRow.t)[k]'(by simpa [hlen] using hk) = y at hq ⊢
     generalize (rows1.map NdRow.t)[k]'(by simpa using hk) = x at hq ⊢
     obtain ⟨a1, a2, a3, a4, a5, a6, a7, a8, a9⟩ := x
     obtain ⟨b1, b2, b3, b4, b5, b6, b7, b8, b9⟩ := y
     obtain ⟨rfl, rfl, rfl, rfl, rfl, rfl, rfl, rfl⟩ := hq
     rfl
   rw [hnd] at q2 b2
   exact ⟨g1, g2, _, _, lv1, lv2, rfl, rfl, z1, z2, m1, m2, m3, m4, q1, q2, b1, b2⟩
 clear hR h1 h2 hr hlen
 generalize rows1.length = L at *
 go_enter Tryz.func42, Tryz.ntmps42
 go_wp2_with fail
 go_loopw [7] (fun i wr => ∃ k : Nat, k ≤ L ∧ i = .int .i64 k ∧ Hid (Below w.heap.size w wr)) (fun i _ => L - (intOf i).toNat)
 case atStart => exact ⟨0, by omega, rfl, Below.refl _ _⟩
 case round =>
   obtain ⟨k, hk, rfl, hb⟩ := hrel
   by_cases hlt : k < L
   · obtain ⟨g1, g2, ⟨kd, fa, fb, fc, fl, tx, fn, fty, ps⟩, ps2, lv1, lv2, rfl, rfl, hg1, hg2, m1, m2, m3, m4, ⟨q0, q1, q2, q3, q4, q5, q6, q7, q8⟩, ⟨e0, e1, e2, e3, e4, e5, e6, e7, e8⟩, hl1, hl2⟩ := HB.out wr hb.out k hlt
     dsimp only at q0 q1 q2 q3 q4 q5 q6 q7 q8 e0 e1 e2 e3 e4 e5 e6 e7 e8 hl1 hl2
     obtain ⟨la1, lc1, rfl⟩ := owns_slice hl1
     obtain ⟨la2, lc2, rfl⟩ := owns_slice hl2
     unfold maxLen at m2 m4
     have HL1 := qh hl1
     have HL2 := qh hl2
     clear hl1 hl2
     go_upto_region 6 with fail
     go_cut [8, 9] (fun s7 s8 wx => ∃ b7 b8 : Nat, s7 = .pointer (some ⟨b7, 0, none⟩) ∧ s8 = .pointer (some ⟨b8, 0, none⟩) ∧ Hid (Sat wr wx [Prt.oldA wr, blk b7 (.cells #[.int .i64 kd, .int .i64 fa, .int .i64 fb, .int .i64 fc, .slice la1 fl.length lc1, .string tx, .int .i64 fn, .int .i64 fty, .int .i64 ps] 66 (0, 0)), blk b8 (.cells #[.int .i64 kd, .int .i64 fa, .int .i64 fb, .int .i64 fc, .slice la2 fl.length lc2, .string tx, .int .i64 fn, .int .i64 fty, .int .i64 ps2] 66 (0, 0))]))
     case first =>
       go_region
       all_goals
         go_wp2_with fail
         go_meet
         first
           | exact ⟨_, _, rfl, rfl, (((Prt.Sat.old wr).allocAt _ wr.heap.size).allocAt _ (wr.heap.size + 1)).drew⟩
           | exact ⟨_, _, rfl, rfl, ((((Prt.Sat.old wr).allocAt _ wr.heap.size).allocAt _ (wr.heap.size + 1)).drew).pick [0, 2, 1]⟩
     case rest =>
       obtain ⟨b7, b8, rfl, rfl, hS⟩ := hcut
       have hbx := hS.out.isBelow
       have x0 := hS.out.cell 1 rfl 0 rfl
       have y0 := hS.out.cell 2 rfl 0 rfl
       have x1 := hS.out.cell 1 rfl 1 rfl
       have y1 := hS.out.cell 2 rfl 1 rfl
       have x2 := hS.out.cell 1 rfl 2 rfl
       have y2 := hS.out.cell 2 rfl 2 rfl
       have x3 := hS.out.cell 1 rfl 3 rfl
       have y3 := hS.out.cell 2 rfl 3 rfl
       have x4 := hS.out.cell 1 rfl 4 rfl
       have y4 := hS.out.cell 2 rfl 4 rfl
       have x5 := hS.out.cell 1 rfl 5 rfl
       have y5 := hS.out.cell 2 rfl 5 rfl
       have x6 := hS.out.cell 1 rfl 6 rfl
       have y6 := hS.out.cell 2 rfl 6 rfl
       have x7 := hS.out.cell 1 rfl 7 rfl
       have y7 := hS.out.cell 2 rfl 7 rfl
       have x8 := hS.out.cell 1 rfl 8 rfl
       have y8 := hS.out.cell 2 rfl 8 rfl
       have HI := qh (fun R hR => sameInts_any _ _ _ fl (owns_below HL1.out hbx) (owns_below HL2.out hbx) (R := R) hR)
       clear q0 q1 q2 q3 q4 q5 q6 q7 q8 e0 e1 e2 e3 e4 e5 e6 e7 e8 hbx
       go_wp2_with fail
       refine HI.out _ (fun w4 hb4 => ?_)
       have h4 := hS.out.below hb4
       have z5 := h4.cell 1 rfl 5 rfl
       have s5 := h4.cell 2 rfl 5 rfl
       have z6 := h4.cell 1 rfl 6 rfl
       have s6 := h4.cell 2 rfl 6 rfl
       have z7 := h4.cell 1 rfl 7 rfl
       have s7 := h4.cell 2 rfl 7 rfl
       have z8 := h4.cell 1 rfl 8 rfl
       have s8 := h4.cell 2 rfl 8 rfl
       have H4 := qh h4
       clear hb4 h4 x0 x1 x2 x3 x4 x5 x6 x7 x8 y0 y1 y2 y3 y4 y5 y6 y7 y8 hS
       go_wp2_with fail
       go_roundw
       case rel => exact ⟨k + 1, by omega, by go_num, hb.out.trans (H4.out.isBelow.mono hb.out.size)⟩
       case measure => simp [intOf]; omega
   · have e : k = L := by omega
     subst e
     go_wp2_with fail
     exact HR.out _ hb.out
end
section
open Go Go.RowKit
open Prt (Sat As blk pur exs star stars)
theorem sameProgramF_any (w : World) (n1 t1 n2 t2 : Value) (nr1 nr2 : List NdRow) (tr1 tr2 : List TyRow) (m : Int) (hn : (nr2.map NdRow.t).map Ty.er = (nr1.map NdRow.t).map Ty.er) (ht : tr1.map TyRow.t = tr2.map TyRow.t) (hln : nr1.length ≤ 2000) (hlt : tr1.length ≤ 2000)
   (hn1 : NRd w n1 nr1) (hn2 : NRd w n2 nr2) (ht1 : TyRd w t1 tr1) (ht2 : TyRd w t2 tr2) {R : Ending → World → Prop} (hR : ∀ w', Below w.heap.size w w' → R (.returned (.bool true)) w') :
   Calls Tryz.prog 16 #[.agg #[n1, t1, .int .i64 m], .agg #[n2, t2, .int .i64 m], .bool false] w R := by
 have HR := qh hR
 have hl2 : nr2.length = nr1.length := by have := congrArg List.length hn; simpa using this
 have hl3 : tr2.length = tr1.length := by have := congrArg List.length ht; simpa using this.symm
 obtain ⟨a1, c1, rfl⟩ := owns_slice hn1.row
 obtain ⟨a2, c2, rfl⟩ := owns_slice hn2.row
 obtain ⟨b1, d1, rfl⟩ := owns_slice ht1.row
 obtain ⟨b2, d2, rfl⟩ := owns_slice ht2.row
 have HT := qh (fun w2 (hb : Below w.heap.size w w2) R hR => sameTypes_any w2 _ _ tr1 tr2 ht hlt (ht1.below hb) (ht2.below hb) (R := R) hR)
 have HN := qh (fun w2 (hb : Below w.heap.size w w2) R hR => sameNodesF_any w2 _ _ nr1 nr2 hn hln (hn1.below hb) (hn2.below hb) (R := R) hR)
 clear hR hn ht hn1 hn2 ht1 ht2 hl2 hl3
 have h1 := ((Prt.Sat.old w).allocAt (.cells #[.slice a1 nr1.length c1, .slice b1 tr1.length d1, .int .i64 m] 31) w.heap.size).allocAt (.cells #[.slice a2 nr2.length c2, .slice b2 tr2.length d2, .int .i64 m] 31) (w.heap.size + 1)
 have H1 := qh h1
 clear h1
 go_enter Tryz.func16, Tryz.ntmps16
 go_wp2_with fail
 refine HT.out _ H1.out.isBelow _ (fun w2 hb2 => ?_)
 have h2 := H1.out.below hb2
 have x0 := h2.cell 1 rfl 0 rfl
 have y0 := h2.cell 2 rfl 0 rfl
 have H2 := qh h2
 clear hb2 h2
 go_wp2_with fail
 refine HN.out _ H2.out.isBelow _ (fun w3 hb3 => ?_)
 have H3 := qh (H2.out.below hb3)
 clear hb3
 go_wp2_with fail
 exact HR.out _ H3.out.isBelow
end
section
open Go Go.RowKit
open Prt (Sat As blk pur exs star stars)
theorem trees_of2 (s : ByteArray) : ∃ l : List Ty.Sm, ∀ pg, Ty.parse s = .ok pg → Ty.layB 0 l [] = (pg.ns, pg.main) := by
 cases h : Ty.parse s with
 | error e => exact ⟨[], fun pg hp => by cases hp⟩
 | ok pg =>
   obtain ⟨l, hl⟩ := Ty.parse_tree h
   exact ⟨l, fun pg2 hp => by cases hp; exact hl⟩
theorem ShowBack_walk (s : ByteArray) (w : World) (hw : Words w) (hpw : Pow w) (hm : s.size ≤ maxLen) {R : Ending → World → Prop} (hR : ∀ w', Below w.heap.size w w' → R (.returned (.bool true)) w') :
   Calls Tryz.prog 3 #[.string s] w R := by
 have HR := qh hR
 have HW := qh hw
 have HPW := qh hpw
 have HM := qh hm
 obtain ⟨l, hl⟩ := trees_of2 s
 have HL := qh hl
 clear hR hw hpw hm hl
 go_enter Tryz.func3, Tryz.ntmps3
 go_wp2_with fail
 refine showBegun_any _ HW.out HPW.out (fun w1 hb1 => ?_)
 have HB1 := qh hb1
 clear hb1
 go_wp2_with fail
 refine treeBegun_any _ (HW.out.below HB1.out) (fun w2 hb2 => ?_)
 have HB2 := qh (HB1.out.trans (hb2.mono HB1.out.size))
 clear hb2 HB1
 go_wp2_with fail
 refine Print_any (FrB.old w2) (Prt.Sat.old w2) s (HW.out.below HB2.out) (HPW.out.below HB2.out) HM.out l HL.out (fun pg w3 hp hl h1 => ?_) (fun pg w3 hp hl h1 => ?_) (fun f w3 hp h1 => ?_)
 · have HT := qh hp
   obtain ⟨pg2, hp2, t1, t2, t3⟩ := Ty.show_back hp (HL.out pg hp) hl
   have HSZ : Hid ((bs (Ty.wSs pg.ts 0 l)).size ≤ maxLen) := by show _ ≤ _; rw [bs_size]; unfold maxLen; omega
   obtain ⟨l2, hl2⟩ := trees_of2 (bs (Ty.wSs pg.ts 0 l))
   have HL2 := qh hl2
   have hp2 : Ty.parse (bs (Ty.wSs pg.ts 0 l)) = .ok pg2 := hp2
   have HT2 := qh hp2
   have HSA := qh (Ty.show_again t1 t2 t3 (HL.out pg hp) (hl2 pg2 hp2))
   have HTS := qh t1
   have HMN := qh t2
   have HNS := qh t3
   have HWF := qh (Ty.parse_pg hp)
   have HLN := qh hl
   generalize hs : bs (Ty.wSs pg.ts 0 l) = tx at *
   have HSE := qh hs
   have h2 := h1.allocAt (.cells #[.int .i64 0, .int .i64 0] 25) w3.heap.size
   have H2 := qh h2
   clear hp hl h1 h2 hs hp2 t1 t2 t3 hl2
   dsimp only [ftVal]
   go_wp2_with fail
   refine Parse_any (Prt.Sat.pack (L := []) H2.out) s (HW.out.below (HB2.out.trans (H2.out.isBelow.mono HB2.out.size))) HM.out (fun pg' n1 v1 w4 hp h3 => ?_) (fun f w4 hp h3 => ?_)
   rotate_left
   · exact absurd (HT.out.symm.trans hp) (by simp)
   obtain rfl := Except.ok.inj (HT.out.symm.trans hp)
   obtain ⟨nr1, hr1, hrd1⟩ := h3.rdNodes 1 rfl
   obtain ⟨tr1, hs1, hsd1⟩ := h3.tyRd 2 rfl
   obtain ⟨a1, c1, rfl⟩ := owns_slice hrd1.row
   obtain ⟨b1, d1, rfl⟩ := owns_slice hsd1.row
   have h4 := (((h3.unpack (i := 0) rfl).store 3 rfl 0 (.int .i64 0)).store 3 rfl 1 (.int .i64 0)).allocAt (.cells #[.slice a1 nr1.length c1, .slice b1 tr1.length d1, .int .i64 (pg.main : Nat)] 31) w4.heap.size
   have H4 := qh h4
   have f0 := h3.unpack (i := 0) rfl
   have x0 := f0.free 3 rfl 0
   have x1 := f0.free 3 rfl 1
   have x2 := f0.lt 3 rfl
   have x3 := f0.cell 3 rfl 0 rfl
   have x4 := f0.cell 3 rfl 1 rfl
   clear hp h3 h4 f0 hrd1 hr1 hs1 hsd1
   dsimp only [ftVal]
   go_wp2_with fail
   refine Parse_any (Prt.Sat.pack (L := []) H4.out) tx (HW.out.below (HB2.out.trans ((H4.out.pick [2, 0, 1, 3, 4]).isBelow.mono HB2.out.size))) HSZ.out (fun pg' n2 v2 w5 hp h5 => ?_) (fun f w5 hp h5 => ?_)
   rotate_left
   · exact absurd (HT2.out.symm.trans hp) (by simp)
   obtain rfl := Except.ok.inj (HT2.out.symm.trans hp)
   obtain ⟨nr2, hr2, hrd2⟩ := h5.rdNodes 1 rfl
   obtain ⟨tr2, hs2, hsd2⟩ := h5.tyRd 2 rfl
   obtain ⟨a2, c2, rfl⟩ := owns_slice hrd2.row
   obtain ⟨b2, d2, rfl⟩ := owns_slice hsd2.row
   have h6 := ((h5.unpack (i := 0) rfl).allocAt (.cells #[.slice a2 nr2.length c2, .slice b2 tr2.length d2, .int .i64 (pg2.main : Nat)] 31) w5.heap.size).allocAt (.cells #[.int .i64 0, .int .i64 0] 25) (w5.heap.size + 1)
   have h7 := (h6.pick [4, 0, 1, 2, 3, 5, 6, 7, 8])
   have H7 := qh (Prt.Sat.pack (L := []) h7)
   clear hp h5 h6 h7 hrd2 hr2 hs2 hsd2
   dsimp only [ftVal]
   go_wp2_with fail
   refine Print_any (FrB.stars (FrB.old w2)) H7.out tx (HW.out.below HB2.out) (HPW.out.below HB2.out) HSZ.out l2 HL2.out (fun pg' w6 hp hl h8 => ?_) (fun pg' w6 hp hl h8 => ?_) (fun f w6 hp h8 => ?_)
   · obtain rfl := Except.ok.inj (HT2.out.symm.trans hp)
     rw [HSA.out, HSE.out]
     have h9 := (h8.unpack (i := 0) rfl).allocAt (.cells #[.int .i64 0, .int .i64 0] 25) w6.heap.size
     have H9 := qh h9
     have x0 := h9.cell 5 rfl 0 rfl
     have y0 := h9.cell 8 rfl 0 rfl
     have z0 := h9.cell 9 rfl 0 rfl
     have u0 := h9.cell 6 rfl 0 rfl
     have v0 := h9.cell 7 rfl 0 rfl
     have u1 := h9.cell 6 rfl 1 rfl
     have v1 := h9.cell 7 rfl 1 rfl
     have u2 := h9.cell 6 rfl 2 rfl
     have v2 := h9.cell 7 rfl 2 rfl
     obtain ⟨q1, e1, r1⟩ := h9.rdNodes 3 rfl
     obtain ⟨p1, g1, k1⟩ := h9.tyRd 4 rfl
     obtain ⟨q2, e2, r2⟩ := h9.rdNodes 1 rfl
     obtain ⟨p2, g2, k2⟩ := h9.tyRd 2 rfl
     have hq : q1.length ≤ 2000 := by have := congrArg List.length e1; rw [List.length_map] at this; have := HWF.out.nlen; omega
     have hpl : p1.length ≤ 2000 := by have := congrArg List.length g1; rw [List.length_map] at this; have := HWF.out.tlen; omega
     have hqq : (q2.map NdRow.t).map Ty.er = (q1.map NdRow.t).map Ty.er := by rw [e1, e2]; exact HNS.out
     have hpp : p1.map TyRow.t = p2.map TyRow.t := by rw [g1, g2]; exact HTS.out.symm
     have HSM := qh (fun R hR => sameProgramF_any _ _ _ _ _ q1 q2 p1 p2 (pg.main : Nat) hqq hpp hq hpl r1 r2 k1 k2 (R := R) hR)
     have hst : (tx.toList == tx.toList) = true := by simp
     rw [HMN.out] at v2
     clear hp hl h8 h9 e1 e2 g1 g2 r1 r2 k1 k2 hq hpl hqq hpp
     dsimp only [ftVal]
     go_wp2_with fail
     refine HSM.out _ (fun w7 hb7 => ?_)
     have H10 := qh (H9.out.below hb7)
     clear hb7
     go_wp2_with fail
     exact HR.out _ (HB2.out.trans (H10.out.isBelow.mono HB2.out.size))
   · obtain rfl := Except.ok.inj (HT2.out.symm.trans hp)
     rw [HSA.out] at hl
     exact absurd HLN.out (by omega)
   · exact absurd (HT2.out.symm.trans hp) (by simp)
 · have h2 := h1.allocAt (.cells #[.int .i64 2, .int .i64 0] 25) w3.heap.size
   have H2 := qh h2
   clear hp hl h1 h2
   rw [show ftVal (2, 0) = .agg #[.int .i64 2, .int .i64 0] from rfl]
   go_wp2_with fail
   exact HR.out _ (HB2.out.trans (H2.out.isBelow.mono HB2.out.size))
 · have hbd := Ty.parse_bad hp
   obtain ⟨fe, fp⟩ := f
   dsimp only at hbd
   have ke : ((fe : Int) != 0) = true := by simp; omega
   have h2 := h1.allocAt (.cells #[.int .i64 fe, .int .i64 fp] 25) w3.heap.size
   have H2 := qh h2
   clear hp h1 h2 hbd
   dsimp only [ftVal]
   go_wp2_with fail
   exact HR.out _ (HB2.out.trans (H2.out.isBelow.mono HB2.out.size))
end
end Go.Proofs.YtdlbhiaceheffabGreatDoor
namespace Go.Proofs.YtdlbhiaceheffabGreatDoor.showBack
open Go.ChangeShapes Go.WideShapes Go.ChangeAt Go.RowKit Go.Lib
open Go.ChangeMaps (open_string shut_string)
theorem laid_met (os : Os) (args : Array Value) : laidMet Tryz.prog Rows.showBackRow.laid ((laidWorld6 os).forCall (fun _ _ => 0) ⟨#[], args, []⟩).memory :=
 laidMet_of_run' 8 (by kernel_rfl) (by kernel_rfl)
theorem witness_row (os : Os) {H : Type} (enc : TypeId × Value → H) :
   (OpenSpec.ofChange Rows.showBackSpec).preRow enc Tryz.prog Tryz.f3 Rows.showBackRow.domain false Rows.showBackRow.laid ((laidWorld6 os).forCall (fun _ _ => 0) ⟨#[], #[.string ⟨#[]⟩], []⟩).memory #[.string ⟨#[]⟩] := by
 have hw : (DataW.whole enc Tryz.prog ((laidWorld6 os).forCall (fun _ _ => 0) ⟨#[], #[.string ⟨#[]⟩], []⟩).memory Tryz.f3.params.toList Rows.showBackSpec.vars false #[Value.string ⟨#[]⟩].toList 8).map (fun x => (x.1, x.2.1)) =
     some ([.lit (.string [])], []) := by kernel_rfl
 obtain ⟨⟨x1, x2, x3⟩, hx, hx1⟩ := Option.map_eq_some_iff.1 hw
 simp only [Prod.mk.injEq] at hx1
 obtain ⟨rfl, rfl⟩ := hx1
 exact OpenSpec.preRow_of_cond 8 hx (by kernel_rfl) (fun k hk => by cases hk) (by kernel_rfl) (laid_met os _)
theorem lifted (os : Os) (started : os.Started) (H : Type) (enc : TypeId × Value → H) (F : Stop.Interp) :
   ReturnsInHanded {} Tryz.checked os 3 .any ((OpenSpec.ofChange Rows.showBackSpec).preRow enc Tryz.prog Tryz.f3 Rows.showBackRow.domain false Rows.showBackRow.laid) (((OpenSpec.ofChange Rows.showBackSpec).at F).post enc Tryz.prog Tryz.f3 false true false false) := by
 refine returnsInHanded_of_row (C := Tryz.checked) (s := OpenSpec.ofChange Rows.showBackSpec) ownKnob_none started (by kernel_rfl) Tryz.func3
   (witness_row_atRef (enc := enc) (C := Tryz.checked) false (laidWorld6 os) #[.string ⟨#[]⟩] rfl (by kernel_rfl) (by kernel_rfl) (by kernel_rfl) (witness_row os enc)) ?_
 intro W base args ds gs before hval0 hW _ _ _ hL _ _
 have hval : ∀ (j : Nat) t v, Tryz.f3.params[j]? = some t → args[j]? = some v → Value.okWide Tryz.prog W .any base t v := hval0
 have hW' := hW
 obtain ⟨p, q, hA0, hV0, rfl, _, _⟩ := hW
 have hA : DataW.TrodAll enc Tryz.prog W 0 (fun _ => true) true Tryz.f3.params.toList args.toList ds p := hA0
 rw [Tryz.params3] at hA hval
 obtain ⟨v0, d0, rfl, rfl, h0⟩ := trodAll_one hA
 obtain ⟨rfl, rfl⟩ := trodVars_none hV0
 obtain ⟨s, rfl, rfl, rfl, ws⟩ := open_string Tryz.underlying9 (hval 0 9 v0 rfl rfl) h0
 clear hA0 hV0 hval0
 have hwords : Words W := words_of_laid (Lib.laidMet.reads hL (.tail _ (.tail _ (.tail _ (.tail _ (.tail _ (.head _)))))))
 have hpow : Pow W := pow_of_laid (Lib.laidMet.reads hL (.tail _ (.tail _ (.head _))))
 refine ShowBack_walk s W hwords hpow ws (fun W' bel => ?_)
 refine ⟨_, rfl, _, _, _, [], [], [], hW', ?_, ?_, ?_, bel.frame _, fun h => by cases h⟩
 · exact trodAll_mk1 (shut_bool Tryz.underlying4 _)
 · exact trodAll_mk1 (shut_string Tryz.underlying9 ws)
 · rfl
theorem closed : joinedFacts Tryz.pinned.checked.prog 3 Tryz.f3 (OpenSpec.ofChange Rows.showBackSpec).bare Rows.showBackRow = true := by
 unfold joinedFacts
 simp only [Bool.and_eq_true]
 repeat' apply And.intro
 all_goals (as_aux_lemma => kernel_rfl)
theorem said : Rows.ShowBackSaid :=
 OpenClaim.holds_of_cond 3 Tryz.f3 rfl rfl rfl rfl rfl rfl rfl ⟨rfl, rfl, rfl, rfl, rfl⟩ rfl rfl rfl rfl rfl (by as_aux_lemma => kernel_rfl) Tryz.func3 closed
   (of_decide_eq_true (by as_aux_lemma => kernel_rfl)) (by unfold Func.isWrapper; first | (rw [if_pos (by decide +kernel)]; as_aux_lemma => kernel_rfl) | (rw [if_neg (by decide +kernel)]; exact ⟨rfl, rfl⟩))
   (fun os started H enc _ F => by rw [OpenClaim.pre_eq_preRow]; exact lifted os started H enc F)
theorem plain (f : FuncId) (fn : Func) (hf : Tryz.pinned.checked.prog.funcNamed "guardrail/guardraillaw.ShowBack" = some f) (hfn : Tryz.pinned.checked.prog.funcs[f]? = some fn) :
   true = Tryz.pinned.checked.prog.looks [] ∧ ∀ (j : Nat) t, fn.params[j]? = some t → Tryz.pinned.checked.prog.wantsStandIn t = false := by
 obtain rfl : f = 3 := Option.some.inj ((show Tryz.prog.funcNamed "guardrail/guardraillaw.ShowBack" = some 3 by kernel_rfl).symm.trans hf) |>.symm
 obtain rfl : fn = Tryz.f3 := (Option.some.inj (Tryz.func3.symm.trans hfn)).symm
 refine ⟨by kernel_rfl, fun j t ht => ?_⟩
 rw [Tryz.params3] at ht
 obtain rfl : t = 9 := by simpa using Array.mem_of_getElem? ht
 exact (show Tryz.prog.wantsStandIn 9 = false by kernel_rfl)
theorem card : Rows.ShowBackCardSaid :=
 Claim7.holds_tied_plain_at .later [] _ _ _ _ said (fun _ h => by cases h) (by as_aux_lemma => kernel_rfl) (fun _ h => by cases h) showBack_row_tie rfl ⟨rfl, rfl⟩ (by as_aux_lemma => kernel_rfl) rfl plain (by as_aux_lemma => kernel_rfl)
end Go.Proofs.YtdlbhiaceheffabGreatDoor.showBack
