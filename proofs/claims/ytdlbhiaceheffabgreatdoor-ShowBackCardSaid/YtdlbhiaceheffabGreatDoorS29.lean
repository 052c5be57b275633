/- Walks of the parser's many, of program, and of tree.Parse. Walk of tree.Parse. Walk of show.Print. Walk of show.Type. -/
import Derived.Test.YtdlbhiaceheffabGreatDoorS28
set_option linter.all false
set_option maxRecDepth 100000
set_option maxHeartbeats 4000000
namespace Go.Proofs.YtdlbhiaceheffabGreatDoor
section
open Go Go.RowKit
open Prt (Sat As blk pur exs star stars)
theorem many_b {w0 w : World} {Fr : As} {pb d : Nat} {toks : List Tok.Tk} {st : Ty.St} (H : Sat w0 w [Fr, parA pb d toks st]) {R : Ending → World → Prop}
   (hR : ∀ w', Below w.heap.size w w' → R (.returned (ftVal (if st.ts.length > 300 then (2, 0) else (0, 0)))) w') :
   Calls Tryz.prog 78 #[.pointer (some ⟨pb, 0, none⟩)] w R := by
 have HR := qh hR
 have hlk := H.look
 obtain ⟨⟨lv, nv, tv, main⟩, h⟩ := H.openPar
 have hn : st.ns.length ≤ 1002 := by have := hlk.fits; have := hlk.wf.1; omega
 have ht : st.ts.length ≤ 1002 := by have := hlk.fits; have := hlk.wf.1; omega
 obtain ⟨rows, h⟩ := h.ex (i := 4) rfl
 have h := h.unpack (i := 4) rfl
 obtain ⟨rows2, h⟩ := h.ex (i := 4) rfl
 have h := h.unpack (i := 4) rfl
 obtain ⟨a3, c3, e3⟩ := owns_slice (h.row 5 rfl)
 obtain ⟨a4, c4, e4⟩ := owns_slice (h.row 8 rfl)
 dsimp only at e3 e4
 subst e3 e4
 have k3 := h.cell 2 rfl 3 rfl
 have k4 := h.cell 2 rfl 4 rfl
 have hlt := h.lt 2 rfl
 have k1 : decide ((1200 : Int) < st.ns.length) = false := by simp; omega
 by_cases h3 : 300 < st.ts.length
 · have k2 : decide ((300 : Int) < st.ts.length) = true := by simp; omega
   rw [if_pos h3] at HR
   clear hR H h hlk h3
   go_enter Tryz.func78, Tryz.ntmps78
   go_wp2_with fail
   refine bodyPost_ret ?_ rfl (HR.out _ ?_)
   · simp [results, Tryz.results78, go_sem, ftVal]
   · exact (Below.refl _ _).alloc (Nat.le_refl _) _
 · have k2 : decide ((300 : Int) < st.ts.length) = false := by simp; omega
   rw [if_neg h3] at HR
   clear hR H h hlk h3
   go_enter Tryz.func78, Tryz.ntmps78
   go_wp2_with fail
   refine bodyPost_ret ?_ rfl (HR.out _ ?_)
   · simp [results, Tryz.results78, go_sem, ftVal]
   · exact (Below.refl _ _).alloc (Nat.le_refl _) _
theorem progP (p : Nat) (f : Ty.Ft) (x y : Value) (w : World) (hx : w.heap[p]? = some (.cells #[x, y] 25 (0, 0))) :
   CallsD Tryz.prog 73 #[.pointer (some ⟨p, 0, none⟩)] (.panicking (ftChain f)) w fun e u' w' =>
     e = .returned (.tuple #[]) ∧ u' = .panicking [{ v := .iface 25 (ftVal f), recovered := true }] ∧ w' = (w.setCell ⟨p, 0, none⟩ (.int .i64 f.1)).setCell ⟨p, 1, none⟩ (.int .i64 f.2) := by
 have c0 : w.cell? ⟨p, 0, none⟩ = some x := by rw [cell_of_block hx]; rfl
 have c1 : w.cell? ⟨p, 1, none⟩ = some y := by rw [cell_of_block hx]; rfl
 have hf : ∀ o, w.frozen? ⟨p, o, none⟩ = false := fun o => frozen_of_block hx o
 refine callsD_of_wpS Tryz.func73 rfl fun c₀ cs hu => ?_
 unfold ftChain at hu
 apply wpS_seq
 apply wpS_region
 simp [wpOpsS, go_sem, recoverD, hu, Tryz.ntmps73, Exit.thenS]
 apply wpS_seq
 apply wpS_region
 simp [wpOpsS, go_sem, Exit.thenS]
 refine wpS_cond (t := true) (by simp [Act.eval, Array.replicate]) ?_
 simp only [if_true]
 apply wpS_region
 simp [wpOpsS, go_sem, c0, c1, hf, bodyPostS, results, Tryz.results73, ftVal, assertFt]
theorem progR (p : Nat) (w : World) :
   CallsD Tryz.prog 73 #[.pointer (some ⟨p, 0, none⟩)] .returning w fun e u' w' => e = .returned (.tuple #[]) ∧ u' = .returning ∧ w' = w := by
 refine callsD_of_wpS Tryz.func73 rfl fun c₀ cs hu => ?_
 apply wpS_seq
 apply wpS_region
 simp [wpOpsS, go_sem, recoverD, hu, Tryz.ntmps73, Exit.thenS]
 apply wpS_seq
 apply wpS_region
 simp [wpOpsS, go_sem, Exit.thenS]
 refine wpS_cond (t := false) (by simp [Act.eval, Array.replicate]) ?_
 simp only [Bool.false_eq_true, if_false]
 refine wpS_of_wp (wp_skip ?_)
 cases c₀
 simp_all [bodyPostS, results, Tryz.results73]
namespace Ty
def pgT (toks : List Tok.Tk) (f : Nat) (l : List Nat) : M Nat := bnd (progLoop toks (lv toks 20).S f l) fun l => addNode { ndOf 26 0 with list := l }
theorem pgT_end {toks : List Tok.Tk} {f : Nat} {l : List Nat} {s : St} (h : (cur toks s.pos).kind = 6) : pgT toks (f + 1) l s = .ok (s.ns.length, { s with ns := s.ns ++ [{ ndOf 26 0 with list := l }] }) := by
 unfold pgT
 have e : progLoop toks (lv toks 20).S (f + 1) l s = .ok (l, s) := by
   show (if (cur toks s.pos).kind = 6 then ret l else _ : M (List Nat)) s = _
   rw [if_pos h]; rfl
 rw [bnd_ok e]; rfl
theorem pgT_bad {toks : List Tok.Tk} {f : Nat} {l : List Nat} {s : St} {e : Ft} (h : (cur toks s.pos).kind ≠ 6) (hs : (lv toks 20).S s = .error e) : pgT toks (f + 1) l s = .error e := by
 unfold pgT
 have e : progLoop toks (lv toks 20).S (f + 1) l s = .error e := by
   show (if (cur toks s.pos).kind = 6 then ret l else bnd (lv toks 20).S fun n => progLoop toks (lv toks 20).S f (l ++ [n]) : M (List Nat)) s = _
   rw [if_neg h, bnd_err hs]
 rw [bnd_err e]
theorem pgT_go {toks : List Tok.Tk} {f : Nat} {l : List Nat} {s s1 : St} {n : Nat} (h : (cur toks s.pos).kind ≠ 6) (hs : (lv toks 20).S s = .ok (n, s1)) : pgT toks (f + 1) l s = pgT toks f (l ++ [n]) s1 := by
 unfold pgT
 have e : progLoop toks (lv toks 20).S (f + 1) l s = progLoop toks (lv toks 20).S f (l ++ [n]) s1 := by
   show (if (cur toks s.pos).kind = 6 then ret l else bnd (lv toks 20).S fun n => progLoop toks (lv toks 20).S f (l ++ [n]) : M (List Nat)) s = _
   rw [if_neg h, bnd_ok hs]
 unfold bnd
 rw [e]
end Ty
def progN (toks : List Tok.Tk) (st : Ty.St) : Except Ty.Ft (Nat × Ty.St) :=
 match Ty.progM toks st with
 | .error f => .error f
 | .ok (n, s) => if s.ts.length > 300 then .error (2, 0) else .ok (n, s)
theorem progN_err {toks : List Tok.Tk} {st : Ty.St} {f : Ty.Ft} (h : Ty.progM toks st = .error f) : progN toks st = .error f := by unfold progN; rw [h]
theorem progN_ok {toks : List Tok.Tk} {st s : Ty.St} {n : Nat} (h : Ty.progM toks st = .ok (n, s)) : progN toks st = if s.ts.length > 300 then .error (2, 0) else .ok (n, s) := by unfold progN; rw [h]
theorem program_any {w0 w : World} {Fr : As} {pb : Nat} {toks : List Tok.Tk} {st : Ty.St} (hnum : Ty.Nums toks) (H : Sat w0 w [Fr, parA pb 0 toks st]) (hns : st.ns.length ≤ st.pos) {R : Ending → World → Prop}
   (hok : ∀ n s p w', progN toks st = .ok (n, s) → p.2.2.2 = (n : Int) → Sat w0 w' (Fr :: parIn pb 0 toks s p) → R (.returned (ftVal (0, 0))) w')
   (hbad : ∀ f w', progN toks st = .error f → Sat w0 w' [Fr] → R (.returned (ftVal f)) w') :
   Calls Tryz.prog 40 #[.pointer (some ⟨pb, 0, none⟩)] w R := by
 have HOK := qh hok
 have HBAD := qh hbad
 have HS := qh H
 have hlk := H.look
 have htl := hlk.wf.1
 have hpos := hlk.fits.1
 have hST : Hid (PSpec 76 toks 0 (Ty.lv toks 20).S) := (lev_any toks hnum 20 (by omega)).2.2
 have hAS := qh (Ty.lv_adv toks 20).2.2
 obtain ⟨i0, ti, tz0, tz1, tz2⟩ := info_parts infoInt
 have hmf : ∀ (fn : Fn) (first cap : Array Value) (w : World), (Instr.makeFunc fn first cap).run Tryz.prog w = .ok (.func fn first cap) w := fun _ _ _ _ => rfl
 have hf0 := field_tk0
 have HE0 : Hid (∀ r, Ty.pgT toks (toks.length + 1) [] st = r → Ty.progM toks st = r) := fun r h => h
 clear hok hbad H hlk hnum
 go_enter_defers Tryz.func40, Tryz.ntmps40
 go_wp2_with fail
 have h1 := HS.out.allocAt (.cells #[.int .i64 0, .int .i64 0] 25) w.heap.size
 refine of_any _ 26 0 (fun w2 hb2 => ?_)
 have h2 := ((h1.below hb2).allocAt (.cells #[.int .i64 26, .int .i64 0, .int .i64 0, .int .i64 0, .slice none 0 0, .string ⟨#[]⟩, .int .i64 0, .int .i64 (-1), .int .i64 0] 66) w2.heap.size).nil 3 1
 have h2 : Sat w0 _ [Fr, parA pb 0 toks st, blk w.heap.size (.cells #[.int .i64 0, .int .i64 0] 25 (0, 0)), blk w2.heap.size (nlC 26 0 0 (.slice none 0 0)), inA (.slice none 0 0) []] := h2
 have H2 := qh h2
 clear hb2 h1 h2
 go_wp2_with fail
 go_loopw [6] (fun _ wr => ∃ (f : Nat) (l : List Nat) (s : Ty.St) (v : Value), s.pos < toks.length ∧ toks.length < s.pos + f ∧ l.length ≤ s.pos ∧ s.ns.length ≤ s.pos ∧ Hid (Sat w0 wr [Fr, parA pb 0 toks s, blk w.heap.size (.cells #[.int .i64 0, .int .i64 0] 25 (0, 0)), blk w2.heap.size (nlC 26 0 0 v), inA v l]) ∧ Hid (∀ r, Ty.pgT toks f l s = r → Ty.progM toks st = r))
   (fun _ wr => toks.length - posOf pb wr)
 case atStart => exact ⟨toks.length + 1, [], st, .slice none 0 0, hpos, by omega, by simp, hns, H2.out, HE0.out⟩
 case round =>
   obtain ⟨f, l, s, v, hp, hf, hll, hnn, hS, hE⟩ := hrel
   obtain ⟨f, rfl⟩ : ∃ g, f = g + 1 := ⟨f - 1, by omega⟩
   obtain ⟨a, cap0, rfl⟩ := owns_slice (hS.out.row 4 rfl)
   have HPO := qh (posOf_eq (hS.out.pick [0, 1]).look)
   have HN := qh (fun R hR => @now_any wr pb 0 toks s (hS.out.pick [0, 1]).look R hR)
   by_cases hk : (Ty.cur toks s.pos).kind = 6
   · have HE1 : Hid (progN toks st = if s.ts.length > 300 then .error (2, 0) else .ok (s.ns.length, { s with ns := s.ns ++ [{ Ty.ndOf 26 0 with list := l }] })) := progN_ok (hE.out _ (Ty.pgT_end hk))
     generalize Ty.cur toks s.pos = t at *
     obtain ⟨kd, tx, tp⟩ := t
     obtain rfl : kd = 6 := hk
     clear hE HPO
     go_wp2_with fail
     refine HN.out _ (fun w4 hb4 => ?_)
     dsimp only [tkVal]
     have h4 := hS.out.below hb4
     have q0 := h4.cell 3 rfl 0 rfl
     have q1 := h4.cell 3 rfl 1 rfl
     have q2 := h4.cell 3 rfl 2 rfl
     have q3 := h4.cell 3 rfl 3 rfl
     have q4 := h4.cell 3 rfl 4 rfl
     have q5 := h4.cell 3 rfl 5 rfl
     have q6 := h4.cell 3 rfl 6 rfl
     have q7 := h4.cell 3 rfl 7 rfl
     have q8 := h4.cell 3 rfl 8 rfl
     have z4 := h4.lt 3 rfl
     have H4 := qh h4
     clear hb4 h4
     go_wp2_with fail
     refine node_any { Ty.ndOf 26 0 with list := l } (.slice a l.length cap0) ((Prt.Sat.pack (L := [_, _]) (M := [_, _, _]) (H4.out.pick [1, 4, 0, 2, 3])).pick [2, 0, 1]) hnn (fun w5 h5 => ?_)
     obtain ⟨s5, hs5⟩ : ∃ s' : Ty.St, s' = { s with ns := s.ns ++ [{ Ty.ndOf 26 0 with list := l }] } := ⟨_, rfl⟩
     have t5 : s5.ts = s.ts := by rw [hs5]
     rw [← hs5] at HE1 h5
     rw [← t5] at HE1
     obtain ⟨⟨lv, nv, tv, main⟩, h6⟩ := h5.openPar
     have y5 := h6.cell 2 rfl 5 rfl
     have f5 := h6.free 2 rfl
     have z5 := h6.lt 2 rfl
     have h7 := (h6.store 2 rfl 5 (.int .i64 (s.ns.length : Nat)))
     have h7 : Sat w0 _ (stars [Fr, blk w.heap.size (.cells #[.int .i64 0, .int .i64 0] 25 (0, 0)), blk w2.heap.size (nlC 26 0 0 (.slice a l.length cap0))] :: parIn pb 0 toks s5 (lv, nv, tv, (s.ns.length : Int))) := h7
     have H7 := qh h7
     clear h5 h6 h7 hs5 q0 q1 q2 q3 q4 q5 q6 q7 q8
     dsimp only at y5
     go_wp2_with fail
     clear y5 f5
     refine many_b (Prt.Sat.shutPar H7.out) (fun w8 hb8 => ?_)
     have h8 := ((H7.out.below hb8).unpack (i := 0) rfl).pick [5, 6, 0, 1, 2, 3, 4]
     have h8 : Sat w0 w8 (Fr :: blk w.heap.size (.cells #[.int .i64 0, .int .i64 0] 25 (0, 0)) :: parIn pb 0 toks s5 (lv, nv, tv, (s.ns.length : Int))) := h8
     have h9 := h8.heap 1 rfl
     have hz8 := h8.lt 1 rfl
     have c0 : w8.cell? ⟨w.heap.size, 0, none⟩ = some (.int .i64 0) := by rw [cell_of_block h9]; rfl
     have c1 : w8.cell? ⟨w.heap.size, 1, none⟩ = some (.int .i64 0) := by rw [cell_of_block h9]; rfl
     have f0 : ∀ o, w8.frozen? ⟨w.heap.size, o, none⟩ = false := fun o => frozen_of_block h9 o
     have H8 := qh h8
     clear h8 h9 hb8
     by_cases hts : s5.ts.length > 300
     · rw [if_pos hts] at HE1
       simp only [if_pos hts, ftVal]
       clear hts
       go_wp2_with fail
       refine leaves_cons (f := 73) (args := #[.pointer (some ⟨w.heap.size, 0, none⟩)]) (by simp) (by simp [go_sem]) ?_
       refine (progR w.heap.size _).mono ?_
       rintro e u' w'' ⟨rfl, rfl, rfl⟩
       have hp := (H8.out.store 1 rfl 0 (.int .i64 2)).store 1 rfl 1 (.int .i64 0)
       simp [Leaves, settle, results, Tryz.results40, go_sem, c0, c1]
       exact HBAD.out (2, 0) _ HE1.out (hp.pick [0])
     · rw [if_neg hts] at HE1
       simp only [if_neg hts, ftVal]
       clear hts
       go_wp2_with fail
       refine leaves_cons (f := 73) (args := #[.pointer (some ⟨w.heap.size, 0, none⟩)]) (by simp) (by simp [go_sem]) ?_
       refine (progR w.heap.size _).mono ?_
       rintro e u' w'' ⟨rfl, rfl, rfl⟩
       have hp := (H8.out.store 1 rfl 0 (.int .i64 0)).store 1 rfl 1 (.int .i64 0)
       simp [Leaves, settle, results, Tryz.results40, go_sem, c0, c1]
       exact HOK.out _ s5 (lv, nv, tv, (s.ns.length : Int)) _ HE1.out rfl (hp.pick [0, 2, 3, 4, 5, 6])
   · have HGO : Hid (∀ n s2, (Ty.lv toks 20).S s = .ok (n, s2) → ∀ r, Ty.pgT toks f (l ++ [n]) s2 = r → Ty.progM toks st = r) := fun n s2 hm r h => hE.out r ((Ty.pgT_go hk hm).trans h)
     have HNO : Hid (∀ e, (Ty.lv toks 20).S s = .error e → progN toks st = .error e) := fun e hm => progN_err (hE.out _ (Ty.pgT_bad hk hm))
     have hk1 : (((Ty.cur toks s.pos).kind : Int) != 6) = true := by simp; omega
     generalize Ty.cur toks s.pos = t at *
     obtain ⟨kd, tx, tp⟩ := t
     dsimp only at hk1
     clear hE hk
     go_wp2_with fail
     refine HN.out _ (fun w4 hb4 => ?_)
     dsimp only [tkVal]
     have h6 := hS.out.below hb4
     have c1 := h6.cell 3 rfl 4 rfl
     have HSS := qh (hST.out w0 w4.drew _ pb s (h6.drew.at 1 rfl))
     clear hb4 h6
     go_wp2_with fail
     first | go_region_law (first | (go_simp; go_at_call 76; refine HSS.out _ (fun n s2 w5 hm h2 => ?_) (fun e w5 hm h2 => ?_); rotate_left; (have hpz := (h2.unpack (i := 0) rfl).pick [0, 1]; have hp5 := hpz.heap 1 rfl; have HX := HNO.out _ hm; show Leaves _ _ _ R _ (.panicking (ftChain e)) w5; refine leaves_cons (f := 73) (args := #[.pointer (some ⟨w.heap.size, 0, none⟩)]) (by simp) (by simp [go_sem]) ?_; refine (progP w.heap.size e _ _ _ hp5).mono ?_; rintro e' u' w'' ⟨rfl, rfl, rfl⟩; have hp := (hpz.store 1 rfl 0 (.int .i64 e.1)).store 1 rfl 1 (.int .i64 e.2); have d0 := hp.cell 1 rfl 0 rfl; have d1 := hp.cell 1 rfl 1 rfl; simp [Leaves, settle, results, Tryz.results40, go_sem, d0, d1]; exact HBAD.out e _ HX (hp.pick [0])); have h3 : Sat w0 w5 [Fr, parA pb 0 toks s2, blk w.heap.size (.cells #[.int .i64 0, .int .i64 0] 25 (0, 0)), blk w2.heap.size (nlC 26 0 0 (.slice a l.length cap0)), inA (.slice a l.length cap0) l] := h2.un5; have d1 := h3.cell 3 rfl 4 rfl; have d2 := (h3.waste (.cells #[.int .i64 n] 3)).cell 3 rfl 4 rfl; have had := hAS.out _ _ _ hm; have H3 := qh h3; have HM := qh hm; clear h2 h3 hm) | (go_loud (refine step_append_lies _ (by rfl) _ _ _ (by rfl) 0 3 i0 _ 1 8 Tryz.underlying39 ti tz0 tz1 tz2 rfl (by omega) (.slice a l.length cap0) l.length (l.map inCell) (by rfl) ((H3.out.row 4 rfl).alloc _) ⟨w5.heap.size, 0, none⟩ 1 1 [.int .i64 n] (by rfl) (by rfl) (World.news_of_block (cs := #[.int .i64 n]) (t := 3) (fr := (0, 0)) (heap_alloc_at' _ _ _ (by simp))) (by simp [Value.oneCell']) (by omega) (by unfold maxLen; omega) (by omega) (by simp) (w5.heap.size + 1) (by simp) ?_); intro g cap w6 hown3 hgrow3 hat3 hlt3; have h4 := Prt.Sat.grow (H3.out.waste _) 4 rfl hgrow3 hown3 (by simpa using hat3); have d3 := h4.cell 3 rfl 4 rfl; have f3 := h4.free 3 rfl 4; have H4 := qh h4; clear h4)) | fail
     all_goals
       clear hown3 hgrow3
       have h7 := (H4.out.store 3 rfl 4 (.slice (some ⟨g, 0, none⟩) (l.length + 1) cap)).ent (i := 4) rfl (Q := inA (.slice (some ⟨g, 0, none⟩) (l.length + 1) cap) (l ++ [n])) (fun _ h => inA_snoc h)
       have h7 : Sat w0 _ [Fr, parA pb 0 toks s2, blk w.heap.size (.cells #[.int .i64 0, .int .i64 0] 25 (0, 0)), blk w2.heap.size (nlC 26 0 0 (.slice (some ⟨g, 0, none⟩) (l.length + 1) cap)), inA (.slice (some ⟨g, 0, none⟩) (l.length + 1) cap) (l ++ [n])] := h7
       have hp7 := (h7.pick [0, 1]).look.fits.1
       have HPO7 := qh (posOf_eq (h7.pick [0, 1]).look)
       have H7 := qh h7
       have HE3 := qh (HGO.out _ _ HM.out)
       clear h7
       go_wp2_with fail
       go_roundw
       case rel => exact ⟨f, l ++ [n], s2, _, hp7, by omega, by simp; omega, by omega, H7, HE3⟩
       case measure => rw [HPO.out, HPO7.out]; omega
end
section
open Go Go.RowKit
open Prt (Sat As blk pur exs star stars)
theorem parse_ok {s : ByteArray} {toks : List Tok.Tk} {st : Ty.St} {n : Nat} (h1 : Tok.scan s = .ok toks) (hn : st.ns.length ≤ 1002) (h2 : progN toks ⟨0, [], []⟩ = .ok (n, st)) : Ty.parse s = .ok ⟨st.ns, st.ts, n⟩ := by
 unfold Ty.parse; rw [h1]
 unfold progN at h2
 dsimp only
 cases h : Ty.progM toks ⟨0, [], []⟩ with
 | error f => rw [h] at h2; cases h2
 | ok p =>
   obtain ⟨m, s'⟩ := p
   rw [h] at h2
   dsimp only at h2 ⊢
   split at h2
   · cases h2
   · rename_i h3
     cases h2
     rw [if_neg (by omega)]
theorem parse_err {s : ByteArray} {toks : List Tok.Tk} {f : Ty.Ft} (h1 : Tok.scan s = .ok toks) (h2 : progN toks ⟨0, [], []⟩ = .error f) : Ty.parse s = .error f := by
 unfold Ty.parse; rw [h1]
 unfold progN at h2
 dsimp only
 cases h : Ty.progM toks ⟨0, [], []⟩ with
 | error g => rw [h] at h2; cases h2; rfl
 | ok p =>
   obtain ⟨m, s'⟩ := p
   rw [h] at h2
   dsimp only at h2 ⊢
   split at h2
   · rename_i h3; cases h2; rw [if_pos (.inr h3)]
   · cases h2
theorem Parse_any {w0 w : World} {Fr : As} (H : Sat w0 w [Fr]) (s : ByteArray) (hw : Words w) (hm : s.size ≤ maxLen) {R : Ending → World → Prop}
   (hok : ∀ (pg : Ty.Pg) nv tv w', Ty.parse s = .ok pg → Sat w0 w' [Fr, ndA nv pg.ns, tyA tv pg.ts] → R (.returned (.tuple #[.agg #[nv, tv, .int .i64 (pg.main : Nat)], ftVal (0, 0)])) w')
   (hbad : ∀ f w', Ty.parse s = .error f → Sat w0 w' [Fr] → R (.returned (.tuple #[.agg #[.slice none 0 0, .slice none 0 0, .int .i64 0], ftVal f])) w') :
   Calls Tryz.prog 15 #[.string s] w R := by
 have HOK := qh hok
 have HBAD := qh hbad
 have HS := qh H
 have HW := qh hw
 have HMX := qh hm
 clear hok hbad H hw hm
 go_enter Tryz.func15, Tryz.ntmps15
 go_wp2_with fail
 have h1 := (HS.out.allocAt (.cells #[.slice none 0 0, .slice none 0 0, .int .i64 0] 31) w.heap.size).allocAt (.cells #[.int .i64 0, .int .i64 0] 25) (w.heap.size + 1)
 have h1 : Sat w0 _ [stars [Fr, blk w.heap.size (.cells #[.slice none 0 0, .slice none 0 0, .int .i64 0] 31 (0, 0)), blk (w.heap.size + 1) (.cells #[.int .i64 0, .int .i64 0] 25 (0, 0))]] := Prt.Sat.pack (L := []) h1
 refine open_any h1 s (HW.out.below (((Below.refl _ _).alloc (Nat.le_refl _) _).alloc (by simp) _)) HMX.out (fun toks pb w1 hl h2 => ?_) (fun f pb w1 hl h2 => ?_)
 · have h3 := h2.un4.allocAt (.cells #[.int .i64 0, .int .i64 0] 25) w1.heap.size
   have H3 := qh h3
   have HL := qh hl
   have HNM := qh (Ty.scan_nums hl)
   clear h1 h2 h3 hl
   dsimp only [ftVal]
   go_wp2_with fail
   refine program_any HNM.out (H3.out.at 1 rfl) (by simp) (fun n st p w2 hs hpn h4 => ?_) (fun f w2 hs h4 => ?_)
   · obtain ⟨lv, nv, tv, main⟩ := p
     dsimp only at hpn
     subst hpn
     have h5 := (h4.unpack (i := 0) rfl).pick [5, 6, 7, 8, 0, 1, 2, 3, 4]
     have hpu := h5.pure 4 rfl
     have hn : st.ns.length ≤ 1002 := by have := hpu.1.1; omega
     obtain ⟨rows, h6⟩ := h5.ex (i := 7) rfl
     obtain ⟨na, nc, en⟩ := owns_slice ((h6.unpack (i := 7) rfl).row 9 rfl)
     obtain ⟨rows2, h7⟩ := h5.ex (i := 8) rfl
     obtain ⟨ta, tc, et⟩ := owns_slice ((h7.unpack (i := 8) rfl).row 9 rfl)
     clear h6 h7
     dsimp only at en et
     subst en et
     have x0 := h5.cell 3 rfl 0 rfl
     have y0 := h5.cell 2 rfl 0 rfl
     have x1 := h5.cell 3 rfl 1 rfl
     have y1 := h5.cell 2 rfl 1 rfl
     have v0 := h5.cell 1 rfl 0 rfl
     have v1 := h5.cell 1 rfl 1 rfl
     have v2 := h5.cell 1 rfl 2 rfl
     have z3 := h5.cell 5 rfl 3 rfl
     have z4 := h5.cell 5 rfl 4 rfl
     have z5 := h5.cell 5 rfl 5 rfl
     have fx := h5.free 3 rfl
     have fy := h5.free 2 rfl
     have fv := h5.free 1 rfl
     have hne12 := h5.ne 1 2 (by decide) rfl rfl
     have hne13 := h5.ne 1 3 (by decide) rfl rfl
     have hne15 := h5.ne 1 5 (by decide) rfl rfl
     have hne23 := h5.ne 2 3 (by decide) rfl rfl
     have hne25 := h5.ne 2 5 (by decide) rfl rfl
     have hne35 := h5.ne 3 5 (by decide) rfl rfl
     have hl1 := h5.lt 1 rfl
     have hl2 := h5.lt 2 rfl
     have hl3 := h5.lt 3 rfl
     have H5 := qh h5
     have HST := qh (parse_ok HL.out hn hs)
     clear h4 h5 hs hpu hn
     dsimp only [ftVal] at *
     go_wp2_with fail
     go_region
     all_goals
       go_wp2_with fail
       refine bodyPost_ret ?_ rfl (HOK.out ⟨st.ns, st.ts, n⟩ (.slice na st.ns.length nc) (.slice ta st.ts.length tc) _ HST.out ?_)
       · simp [results, Tryz.results15, go_sem, v0, v1, v2, y0, y1]
       · exact ((((((((H5.out.store 3 rfl 0 (.int .i64 0)).store 3 rfl 1 (.int .i64 0)).store 1 rfl 0 (.slice na st.ns.length nc)).store 1 rfl 1 (.slice ta st.ts.length tc)).store 1 rfl 2 (.int .i64 (n : Nat))).store 2 rfl 0 (.int .i64 0)).store 2 rfl 1 (.int .i64 0)).drew.pick [0, 7, 8])
   · have h5 := h4.unpack (i := 0) rfl
     have x0 := h5.cell 3 rfl 0 rfl
     have y0 := h5.cell 2 rfl 0 rfl
     have x1 := h5.cell 3 rfl 1 rfl
     have y1 := h5.cell 2 rfl 1 rfl
     have v0 := h5.cell 1 rfl 0 rfl
     have v1 := h5.cell 1 rfl 1 rfl
     have v2 := h5.cell 1 rfl 2 rfl
     have fx := h5.free 3 rfl
     have fy := h5.free 2 rfl
     have fv := h5.free 1 rfl
     have hne12 := h5.ne 1 2 (by decide) rfl rfl
     have hne13 := h5.ne 1 3 (by decide) rfl rfl
     have hne23 := h5.ne 2 3 (by decide) rfl rfl
     have hl1 := h5.lt 1 rfl
     have hl2 := h5.lt 2 rfl
     have hl3 := h5.lt 3 rfl
     have hE := parse_err HL.out hs
     have hb := Ty.parse_bad hE
     obtain ⟨fe, fp⟩ := f
     dsimp only at hb
     have e1 : ((fe : Int) == 0) = false := by simp; omega
     have e2 : ((fe : Int) != 0) = true := by simp; omega
     have H5 := qh h5
     have HE := qh hE
     clear h4 h5 hs hE hb
     dsimp only [ftVal] at *
     go_wp2_with fail
     go_region
     all_goals
       go_wp2_with fail
       refine bodyPost_ret ?_ rfl (HBAD.out (fe, fp) _ HE.out ?_)
       · simp [results, Tryz.results15, go_sem, v0, v1, v2, y0, y1]
       · exact ((((((((H5.out.store 3 rfl 0 (.int .i64 fe)).store 3 rfl 1 (.int .i64 fp)).store 1 rfl 0 (.slice none 0 0)).store 1 rfl 1 (.slice none 0 0)).store 1 rfl 2 (.int .i64 0)).store 2 rfl 0 (.int .i64 fe)).store 2 rfl 1 (.int .i64 fp)).drew.pick [0])
 · have hE : Ty.parse s = .error f := by unfold Ty.parse; rw [hl]
   have hb := Ty.parse_bad hE
   obtain ⟨fe, fp⟩ := f
   dsimp only at hb
   have h5 := h2.unpack (i := 0) rfl
   have a0 := h5.cell 2 rfl 0 rfl
   have a1 := h5.cell 2 rfl 1 rfl
   have b0 := h5.cell 1 rfl 0 rfl
   have b1 := h5.cell 1 rfl 1 rfl
   have b2 := h5.cell 1 rfl 2 rfl
   have fy := h5.free 2 rfl
   have fv := h5.free 1 rfl
   have hl1 := h5.lt 1 rfl
   have hl2 := h5.lt 2 rfl
   have hne12 := h5.ne 1 2 (by decide) rfl rfl
   have e1 : ((fe : Int) == 0) = false := by simp; omega
   have e2 : ((fe : Int) != 0) = true := by simp; omega
   have H6 := qh h5
   have HE := qh hE
   clear h1 h2 h5 hl hE hb
   dsimp only [ftVal] at *
   go_wp2_with fail
   go_region
   all_goals
     go_wp2_with fail
     refine bodyPost_ret ?_ rfl (HBAD.out (fe, fp) _ HE.out ?_)
     · simp [results, Tryz.results15, go_sem, hl1, hl2, a0, a1, b0, b1, b2]
     · exact (((((((H6.out.store 1 rfl 0 (.slice none 0 0)).store 1 rfl 1 (.slice none 0 0)).store 1 rfl 2 (.int .i64 0)).store 2 rfl 0 (.int .i64 fe)).store 2 rfl 1 (.int .i64 fp)).waste _).drew.pick [0])
end
section
open Go Go.RowKit
open Prt (Sat As blk pur exs star stars)
theorem newWr {wB : World} {nv tv : Value} {main : Int} (b : Nat) (hb : b = wB.heap.size) : Sat wB (wB.alloc (.cells #[.pointer none, .slice none 0 0, nv, tv, .int .i64 main, .int .i64 0] 76)) [Prt.oldA wB, wrA b nv tv main 0 []] := by
 have h := (((Prt.Sat.old wB).allocAt (.cells #[.pointer none, .slice none 0 0, nv, tv, .int .i64 main, .int .i64 0] 76) b hb).nil 5 1).triv (P := pur ((Value.pointer none) = .pointer none ∨ (Value.pointer none) = .pointer (some ⟨b, 0, none⟩))) (fun _ => .inl rfl)
 exact Prt.Sat.shutWr (q := (.pointer none, .slice none 0 0)) (h.pick [0, 3, 1, 2])
theorem Print_any {w0 w : World} {Fr : As} (hF : FrB w0 Fr) (H : Sat w0 w [Fr]) (s : ByteArray) (hw0 : Words w0) (hpw : Pow w0) (hm : s.size ≤ maxLen) (l : List Ty.Sm) (hl : ∀ pg, Ty.parse s = .ok pg → Ty.layB 0 l [] = (pg.ns, pg.main)) {R : Ending → World → Prop}
   (hok : ∀ (pg : Ty.Pg) w', Ty.parse s = .ok pg → (Ty.wSs pg.ts 0 l).length ≤ 4000 → Sat w0 w' [Fr] → R (.returned (.tuple #[.string (bs (Ty.wSs pg.ts 0 l)), ftVal (0, 0)])) w')
   (hmany : ∀ (pg : Ty.Pg) w', Ty.parse s = .ok pg → 4000 < (Ty.wSs pg.ts 0 l).length → Sat w0 w' [Fr] → R (.returned (.tuple #[.string ⟨#[]⟩, ftVal (2, 0)])) w')
   (hbad : ∀ f w', Ty.parse s = .error f → Sat w0 w' [Fr] → R (.returned (.tuple #[.string ⟨#[]⟩, ftVal f])) w') :
   Calls Tryz.prog 14 #[.string s] w R := by
 have HOK := qh hok
 have HMANY := qh hmany
 have HBAD := qh hbad
 have hw := hw0.below (hF w _ 0 H rfl)
 have HW := qh hw
 have HF := qh hF
 have HPW := qh hpw
 have HMX := qh hm
 have HLY := qh hl
 have h1 := H.allocAt (.cells #[.int .i64 0, .int .i64 0] 25) w.heap.size
 have hb1 : Below w.heap.size w (w.alloc (.cells #[.int .i64 0, .int .i64 0] 25)) := (Below.refl _ _).alloc (Nat.le_refl _) _
 have H1 := qh (Prt.Sat.pack (L := []) h1)
 have HPO := qh (Prt.Sat.old (w.alloc (.cells #[.int .i64 0, .int .i64 0] 25)))
 have HB1 := qh hb1
 clear hok hmany hbad hw hw0 hpw hm hl H h1 hb1 hF
 go_enter Tryz.func14, Tryz.ntmps14
 go_wp2_with fail
 refine Parse_any H1.out s (HW.out.below HB1.out) HMX.out (fun pg nv tv w1 ht h2 => ?_) (fun f w1 ht h2 => ?_)
 · have hly := HLY.out pg ht
   have hok := Ty.parse_pg ht
   have hdb : Ty.DenB pg.ns 0 l pg.main := by
     have := (Ty.layB_den 0 l []).2
     rw [hly] at this; exact this
   have hpl := Ty.prog_len hok hly hdb
   have hsz : Ty.szSs l + 1 ≤ 1300 := by
     have h1 := Ty.laySs_sz l []
     have h3 : (Ty.layB 0 l []).1.length = pg.ns.length := by rw [hly]
     rw [Ty.layB] at h3
     simp at h1 h3
     have := hok.nlen; omega
   rw [Ty.DenB] at hdb
   obtain ⟨nl, hmn, hds⟩ := hdb
   have hll := hds.len
   have hsl := Ty.szSs_len l
   obtain ⟨nr, hnr, hnrd⟩ := h2.rdNodes 1 rfl
   obtain ⟨tr, htr, htrd⟩ := h2.tyRd 2 rfl
   have h3 := (((h2.unpack (i := 0) rfl).pick [2, 3, 0, 1]).allocAt (.cells #[nv, tv, .int .i64 (pg.main : Nat)] 31) w1.heap.size).allocAt (.cells #[.int .i64 0, .int .i64 0] 25) (w1.heap.size + 1)
   have hbB : Below w1.heap.size w1 ((w1.alloc (.cells #[nv, tv, .int .i64 (pg.main : Nat)] 31)).alloc (.cells #[.int .i64 0, .int .i64 0] 25)) := ((Below.refl _ _).alloc (Nat.le_refl _) _).alloc (by simp) _
   have hP : PB ((w1.alloc (.cells #[nv, tv, .int .i64 (pg.main : Nat)] 31)).alloc (.cells #[.int .i64 0, .int .i64 0] 25)) nv tv pg := ⟨⟨nr, hnr, hnrd.below hbB⟩, ⟨tr, htr, htrd.below hbB⟩, hok⟩
   have hpwB : Pow ((w1.alloc (.cells #[nv, tv, .int .i64 (pg.main : Nat)] 31)).alloc (.cells #[.int .i64 0, .int .i64 0] 25)) := HPW.out.below (HF.out _ _ 0 h3 rfl)
   have hwr := newWr (wB := (w1.alloc (.cells #[nv, tv, .int .i64 (pg.main : Nat)] 31)).alloc (.cells #[.int .i64 0, .int .i64 0] 25)) (nv := nv) (tv := tv) (main := (pg.main : Nat)) (w1.heap.size + 2) (by simp)
   have HST := qh (fun (k : Nat) (hk : k < l.length) (hk2 : k < nl.length) (o : List UInt8) (w2 : World) (h : Sat ((w1.alloc (.cells #[nv, tv, .int .i64 (pg.main : Nat)] 31)).alloc (.cells #[.int .i64 0, .int .i64 0] 25)) w2 [Prt.oldA ((w1.alloc (.cells #[nv, tv, .int .i64 (pg.main : Nat)] 31)).alloc (.cells #[.int .i64 0, .int .i64 0] 25)), wrA (w1.heap.size + 2) nv tv (pg.main : Nat) 0 o]) (ho : o.length + (Ty.wS pg.ts 0 l[k]).length ≤ 900000000) => sm_all (wb := w1.heap.size + 2) (main := (pg.main : Nat)) hP hpwB l[k] nl[k] (hds.get k hk hk2) 0 o w2 _ (FrB.old _) h (by have := Ty.szSs_in (List.getElem_mem hk); omega) ho)
   have hmlt : pg.main < pg.ns.length := by
     rcases Nat.lt_or_ge pg.main pg.ns.length with h | h
     · exact h
     · rw [List.getElem?_eq_none h] at hmn; cases hmn
   obtain ⟨g, cap, lv, rfl, hg, hcap, hcm, hA, hlr⟩ := hnrd.look hnr hmlt
   have hnd : pg.ns[pg.main] = { Ty.ndOf 26 0 with list := nl } := by
     rw [List.getElem?_eq_getElem hmlt] at hmn
     exact Option.some.inj hmn
   rw [hnd] at hA hlr
   have q4 := hA.q4
   dsimp only at hlr
   obtain ⟨la, lc, rfl⟩ := owns_slice hlr
   obtain ⟨ta, tc, rfl⟩ := owns_slice htrd.row
   have HLR := qh (owns_below hlr hbB)
   have HLL := qh hll
   have HPL := qh hpl
   have HT := qh ht
   have H3 := qh h3
   have HWR := qh hwr
   have hnl : nl.length ≤ 1300 := by omega
   have hg1 : g < w1.heap.size + 1 := by omega
   have hg2 : g < w1.heap.size + 1 + 1 := by omega
   have hnN : pg.ns.length ≤ 1200 := hok.nlen
   unfold maxLen at hcm
   clear hly hok h2 hnr hnrd htr htrd h3 hbB hP hpwB hwr hA hlr hnd hmn hds hll hsl hsz ht hpl
   generalize hmain : pg.main = mn at *
   generalize hNN : pg.ns.length = N at *
   generalize tr.length = TL at *
   rw [show ftVal (0, 0) = .agg #[.int .i64 0, .int .i64 0] from rfl]
   go_wp2_with fail
   go_loopw [29] (fun i wr => ∃ k : Nat, k ≤ nl.length ∧ i = .int .i64 k ∧ Hid (Sat ((w1.alloc (.cells #[.slice (some ⟨g, 0, none⟩) N cap, .slice ta TL tc, .int .i64 (mn : Nat)] 31)).alloc (.cells #[.int .i64 0, .int .i64 0] 25)) wr [Prt.oldA ((w1.alloc (.cells #[.slice (some ⟨g, 0, none⟩) N cap, .slice ta TL tc, .int .i64 (mn : Nat)] 31)).alloc (.cells #[.int .i64 0, .int .i64 0] 25)), wrA (w1.heap.size + 2) (.slice (some ⟨g, 0, none⟩) N cap) (.slice ta TL tc) (mn : Nat) 0 (Ty.wSs pg.ts 0 (l.take k))])) (fun i _ => nl.length - (intOf i).toNat)
   case atStart => exact ⟨0, by omega, rfl, by rw [List.take_zero, Ty.wSs]; exact HWR.out⟩
   case round =>
     obtain ⟨k, hk, rfl, hSt⟩ := hrel
     by_cases hlt : k < nl.length
     · have hb := hSt.out.isBelow
       obtain ⟨g2, cap2, e, hg2, d0⟩ := ints_at (owns_below HLR.out hb) k hlt
       cases e
       have hkl : k < l.length := by have := HLL.out; omega
       have hst := Ty.wSs_step pg.ts 0 l k hkl
       have hpt := Ty.wSs_part pg.ts 0 l (k + 1)
       have HD := qh (HST.out k hkl hlt)
       rw [hst, List.length_append] at hpt
       have HPT := qh hpt
       have HSTP := qh hst
       generalize l[k] = st at *
       generalize nl[k] = m at *
       clear hst hpt hb hkl
       go_wp2_with fail
       refine HD.out _ _ hSt.out (by have := HPL.out; have := HPT.out; omega) _ (fun w4 h4 => ?_)
       rw [← HSTP.out] at h4
       have H5 := qh h4
       clear h4
       go_wp2_with fail
       go_roundw
       case rel => exact ⟨k + 1, by omega, by go_num, H5.out⟩
       case measure => simp [intOf]; omega
     · have e : k = nl.length := by omega
       subst e
       have h1 := hSt.out
       rw [HLL.out, List.take_length] at h1
       have h5 := H3.out.join h1
       have h6 := (Prt.Sat.pack (L := [_]) (M := [_, _, _, _, _, _]) (h5.pick [6, 0, 1, 2, 3, 4, 5])).pick [1, 0]
       have z0 := h5.cell 1 rfl 0 rfl
       have z1 := h5.cell 1 rfl 1 rfl
       have y0 := h5.cell 5 rfl 0 rfl
       have y1 := h5.cell 5 rfl 1 rfl
       have fz := h5.free 1 rfl
       have hz := h5.lt 1 rfl
       have H6 := qh h6
       clear h1 h5 h6 hSt
       go_wp2_with fail
       refine BLen_any H6.out ?_
       by_cases hc : 4000 < (Ty.wSs pg.ts 0 l).length
       · have k1 : decide ((4000 : Int) < ((Ty.wSs pg.ts 0 l).length : Nat)) = true := decide_eq_true (by omega)
         have k2 : decide (4000 < (Ty.wSs pg.ts 0 l).length) = true := decide_eq_true hc
         have HC := qh hc
         have HM2 := qh (HMANY.out pg)
         generalize (Ty.wSs pg.ts 0 l).length = ln at *
         clear hc
         go_wp2_with fail
         refine bodyPost_ret ?_ rfl (HM2.out _ HT.out HC.out ?_)
         · simp [results, Tryz.results14, go_sem, ftVal, z0, z1]
         · exact (((H6.out.unpack (i := 0) rfl).store 2 rfl 0 (.int .i64 2)).store 2 rfl 1 (.int .i64 0)).pick [1]
       · have k1 : decide ((4000 : Int) < ((Ty.wSs pg.ts 0 l).length : Nat)) = false := decide_eq_false (by omega)
         have k2 : decide (4000 < (Ty.wSs pg.ts 0 l).length) = false := decide_eq_false hc
         have HC := qh hc
         have HO2 := qh (HOK.out pg)
         have HBS := qh (fun (R : Ending → World → Prop) => BString_any (R := R) H6.out.drew)
         generalize hlg : (Ty.wSs pg.ts 0 l).length = ln at *
         generalize bs (Ty.wSs pg.ts 0 l) = tx at *
         clear hc
         go_wp2_with fail
         go_region_law (first | (go_simp; refine HBS.out _ (fun w6 h6 => ?_); have h7 := h6.unpack (i := 0) rfl; have y0 := h7.cell 5 rfl 0 rfl; have y1 := h7.cell 5 rfl 1 rfl; have z0 := h7.cell 1 rfl 0 rfl; have z1 := h7.cell 1 rfl 1 rfl; have fz := h7.free 1 rfl; have hz := h7.lt 1 rfl; have H7 := qh h7; clear h6 h7))
         all_goals
           go_wp2_with fail
           refine bodyPost_ret ?_ rfl (HO2.out _ HT.out (by have := HC.out; omega) ?_)
           · simp [results, Tryz.results14, go_sem, ftVal, z0, z1]
           · exact ((H7.out.store 1 rfl 0 (.int .i64 0)).store 1 rfl 1 (.int .i64 0)).pick [0]
 · have hbd := Ty.parse_bad ht
   obtain ⟨fe, fp⟩ := f
   dsimp only at hbd
   have e2 : ((fe : Int) != 0) = true := by simp; omega
   have h4 := h2.unpack (i := 0) rfl
   have x0 := h4.cell 1 rfl 0 rfl
   have x1 := h4.cell 1 rfl 1 rfl
   have fx := h4.free 1 rfl
   have hx := h4.lt 1 rfl
   have hx2 : w.heap.size < w1.heap.size + 1 := by omega
   have H4 := qh h4
   have HT := qh ht
   clear h2 h4 ht hbd
   dsimp only [ftVal]
   go_wp2_with fail
   go_region
   all_goals
     go_wp2_with fail
     refine bodyPost_ret ?_ rfl (HBAD.out (fe, fp) _ HT.out ?_)
     · simp [results, Tryz.results14, go_sem, ftVal, hx, hx2, x0, x1]
     · exact ((((H4.out.store 1 rfl 0 (.int .i64 fe)).store 1 rfl 1 (.int .i64 fp)).waste _).waste _).drew.pick [0]
end
section
open Go Go.RowKit
open Prt (Sat As blk pur exs star stars)
theorem typeOf_fine {s : ByteArray} {ts : List Ty.Ty} (h : Ty.typeOf s = .ok ts) : 0 < ts.length ∧ ts.length ≤ 300 ∧ Ty.Wf ts ∧ Ty.shortT (Ty.den ts (ts.length - 1)) ∧ Ty.okT (Ty.den ts (ts.length - 1)) ∧ Ty.cnt (Ty.den ts (ts.length - 1)) ≤ 300 := by
 obtain ⟨h1, h2, h3⟩ := Ty.typeOf_wf h
 have h4 := Ty.typeOf_cnt h
 have h5 := Ty.typeOf_nm h
 exact ⟨h2, h3, h1, Ty.nm_short _ (Ty.den_nm h1 h5 _ _ (Nat.lt_succ_self _) (by omega)), Ty.den_ok h1 _ _ (Nat.lt_succ_self _) (by omega), by omega⟩
theorem ShowType_any {w0 w : World} {Fr : As} (H : Sat w0 w [Fr]) (s : ByteArray) (hw : Words w) (hm : s.size ≤ maxLen) {R : Ending → World → Prop}
   (hok : ∀ ts w', Ty.typeOf s = .ok ts → Sat w0 w' [Fr] → R (.returned (.tuple #[.string (bs (Ty.text (Ty.den ts (ts.length - 1)))), ftVal (0, 0)])) w')
   (hbad : ∀ f w', Ty.typeOf s = .error f → Sat w0 w' [Fr] → R (.returned (.tuple #[.string ⟨#[]⟩, ftVal f])) w') :
   Calls Tryz.prog 34 #[.string s] w R := by
 have HOK := qh hok
 have HBAD := qh hbad
 have HW := qh hw
 have HMX := qh hm
 have h1 := H.allocAt (.cells #[.int .i64 0, .int .i64 0] 25) w.heap.size
 have hb1 : Below w.heap.size w (w.alloc (.cells #[.int .i64 0, .int .i64 0] 25)) := (Below.refl _ _).alloc (Nat.le_refl _) _
 have H1 := qh (Prt.Sat.pack (L := []) h1)
 have HB1 := qh hb1
 clear hok hbad hw hm H h1 hb1
 go_enter Tryz.func34, Tryz.ntmps34
 go_wp2_with fail
 refine Type_any H1.out s (HW.out.below HB1.out) HMX.out (fun ts v w1 ht h2 => ?_) (fun f w1 ht h2 => ?_)
 · obtain ⟨hl1, hl2, hwf, hsh, hok, hcn⟩ := typeOf_fine ht
   obtain ⟨rows, hr, hrd⟩ := h2.tyRd 1 rfl
   have hrl : rows.length = ts.length := by rw [← hr]; simp
   have hx := TypeText_all w1 v rows ts hr hwf (by omega) hrd ts.length (ts.length - 1) (by omega) (by omega) hsh (by omega)
   obtain ⟨a, c, rfl⟩ := owns_slice hrd.row
   rw [hrl] at hx h2
   unfold TxtC at hx
   rw [show ((ts.length - 1 : Nat) : Int) = (ts.length : Int) - 1 by omega] at hx
   rw [hrl]
   have h4 := (h2.unpack (i := 0) rfl).allocAt (.cells #[.int .i64 0, .int .i64 0] 25) w1.heap.size
   have HB2 : Hid (Below w1.heap.size w1 ((w1.alloc (.cells #[.int .i64 0, .int .i64 0] 25)).drew)) := ((Below.refl _ _).alloc (Nat.le_refl _) _).drew
   have H4 := qh h4
   have HX := qh hx
   have HT := qh ht
   have HO2 := qh (HOK.out ts)
   have x0 := (h2.unpack (i := 0) rfl).cell 2 rfl 0 rfl
   have x1 := (h2.unpack (i := 0) rfl).cell 2 rfl 1 rfl
   have fx := (h2.unpack (i := 0) rfl).free 2 rfl
   have hxl := (h2.unpack (i := 0) rfl).lt 2 rfl
   clear hx h2 h4 hsh hok hwf hcn hrd hr ht hrl
   generalize Ty.text (Ty.den ts (ts.length - 1)) = tx at *
   generalize ts.length = N at *
   have hs64 : IntKind.i64.wrap ((N : Int) - 1) = (N : Int) - 1 := IntWalk.i64_in _ (by omega)
   rw [show ftVal (0, 0) = .agg #[.int .i64 0, .int .i64 0] from rfl]
   go_wp2_with fail
   go_region_law (first | (go_simp; refine HX.out _ HB2.out _ (fun w4 hb4 => ?_); have h6 := H4.out.drew.below hb4; have y0 := h6.cell 3 rfl 0 rfl; have y1 := h6.cell 3 rfl 1 rfl; have z0 := h6.cell 2 rfl 0 rfl; have z1 := h6.cell 2 rfl 1 rfl; have fz := h6.free 2 rfl; have hz := h6.lt 2 rfl; have H6 := qh h6; clear hb4 h6))
   all_goals
     go_wp2_with fail
     refine bodyPost_ret ?_ rfl (HO2.out _ HT.out ?_)
     · simp [results, Tryz.results34, go_sem, ftVal, z0, z1]
     · exact ((H6.out.store 2 rfl 0 (.int .i64 0)).store 2 rfl 1 (.int .i64 0)).pick [1]
 · have hbd := Ty.typeOf_bad ht
   obtain ⟨fe, fp⟩ := f
   dsimp only at hbd
   have e2 : ((fe : Int) != 0) = true := by simp; omega
   have h4 := h2.unpack (i := 0) rfl
   have x0 := h4.cell 1 rfl 0 rfl
   have x1 := h4.cell 1 rfl 1 rfl
   have fx := h4.free 1 rfl
   have hx := h4.lt 1 rfl
   have H4 := qh h4
   have HT := qh ht
   clear h2 h4 ht hbd
   dsimp only [ftVal]
   go_wp2_with fail
   go_region
   all_goals
     go_wp2_with fail
     refine bodyPost_ret ?_ rfl (HBAD.out (fe, fp) _ HT.out ?_)
     · simp [results, Tryz.results34, go_sem, ftVal, hx, x0, x1]
     · exact (((H4.out.store 1 rfl 0 (.int .i64 fe)).store 1 rfl 1 (.int .i64 fp)).waste _).drew.pick [0]
end
end Go.Proofs.YtdlbhiaceheffabGreatDoor
