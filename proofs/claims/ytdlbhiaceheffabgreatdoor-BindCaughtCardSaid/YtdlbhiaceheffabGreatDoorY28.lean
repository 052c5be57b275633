/- The parser's last nodes are cut off; walk of the parser's plain. -/
import Derived.Test.YtdlbhiaceheffabGreatDoorY27
set_option linter.all false
set_option maxRecDepth 100000
set_option maxHeartbeats 8000000
namespace Go.Proofs.YtdlbhiaceheffabGreatDoor
section
open Go Go.RowKit
open Prt (Sat As blk pur exs star ah)
theorem rD {e : TypeId} {size g n cap m : Nat} {xs : List Value} {a : Prt.Hp} (hm : m ≤ n) (h : Prt.row e size (.slice (some ⟨g, 0, none⟩) n cap) n xs a) : Prt.row e size (.slice (some ⟨g, 0, none⟩) m cap) m (xs.take (m * size)) a := by
 obtain ⟨h1, h2⟩ := h
 have hms : m * size ≤ n * size := Nat.mul_le_mul_right _ hm
 refine ⟨by rw [List.length_take]; omega, ?_⟩
 rcases h2 with ⟨h2, _⟩ | ⟨g', cap', cur, e2, h3, h4, h5, h6, h7⟩
 · cases h2
 · cases e2
   exact .inr ⟨g, cap, cur, rfl, h3, by omega, h5, h6, by rw [← h7, List.take_take, Nat.min_eq_left hms]⟩
theorem jL {α : Type} (f : α → List Value) (m : Nat) (hf : ∀ x, (f x).length = m) : ∀ (l : List α) (n : Nat), (l.flatMap f).take (n * m) = (l.take n).flatMap f
 | [], n => by simp
 | a :: l, 0 => by simp
 | a :: l, n + 1 => by
   rw [List.flatMap_cons, List.take_succ_cons, List.flatMap_cons, List.take_append, hf, List.take_of_length_le (by rw [hf, Nat.succ_mul]; omega), show (n + 1) * m - m = n * m by rw [Nat.succ_mul]; omega, jL f m hf l n]
theorem lL {L : List As} {a : Prt.Hp} (m : Nat) (h : ah L a) : ah (L.take m) a := by
 rw [← List.take_append_drop m L] at h
 obtain ⟨x, y, _, hx, _, h1, _⟩ := Prt.iJ h
 exact Prt.fA h1 hx
theorem Prt.Sat.trunc {w0 w : World} {Fr : As} {pb d : Nat} {af : List Tok.Tk} {st : Ty.St} (h : Sat w0 w [Fr, aC pb d af st]) {n : Nat} (hn : n < st.ns.length) :
   ∃ g cap, w.cell? ⟨pb, 3, none⟩ = some (.slice (some ⟨g, 0, none⟩) st.ns.length cap) ∧ st.ns.length ≤ cap ∧ cap ≤ maxLen ∧ Sat w0 (w.setCell ⟨pb, 3, none⟩ (.slice (some ⟨g, 0, none⟩) n cap)) [Fr, aC pb d af { st with ns := st.ns.take n }] := by
 obtain ⟨g, cap, lv, c3, hg, h2, h3, _, _⟩ := h.nT hn
 obtain ⟨⟨lv0, nv, tv, main⟩, rows, hs⟩ := (h.fH (P := fun _ => True) (fun _ => trivial)).A8
 have hs : Sat w0 w (Fr :: (fun _ => True) :: wL pb d af st (lv0, nv, tv, main) st.ns.length (rows.flatMap aY) rows st.ns) := hs
 have hq := hs.pure 2 rfl
 have hr := hs.pure 6 rfl
 have hl : (st.ns.take n).length = n := by rw [List.length_take]; omega
 have e3 := hs.cell 3 rfl 3 rfl
 rw [c3] at e3
 dsimp only at e3
 obtain rfl := Option.some.inj e3
 refine ⟨g, cap, c3, h2, h3, ?_⟩
 have h := hs.store 3 rfl 3 (.slice (some ⟨g, 0, none⟩) n cap)
 have h := h.ent (i := 7) rfl (Q := Prt.row 66 9 (.slice (some ⟨g, 0, none⟩) n cap) (st.ns.take n).length ((rows.take n).flatMap aY)) (fun a ha => by rw [hl, ← jL aY 9 (fun _ => rfl)]; exact rD (by omega) ha)
 have h := h.ent (i := 6) rfl (Q := pur ((rows.take n).map NdRow.t = st.ns.take n)) (fun a _ => by show _ = _; rw [List.map_take, hr])
 have h := h.ent (i := 8) rfl (Q := ah ((rows.take n).map iP)) (fun a ha => by rw [List.map_take]; exact lL n ha)
 have h := h.ent (i := 2) rfl (Q := pur (gJ af ∧ st.pos < af.length ∧ d ≤ 20 ∧ st.ts.length ≤ st.pos ∧ (st.ns.take n).length ≤ st.pos + 1)) (fun a _ => ⟨hq.1, hq.2.1, hq.2.2.1, hq.2.2.2.1, by omega⟩)
 have h := Prt.Sat.pack (L := [Fr, _, _, _, _]) (M := [_, _, _]) (h.pick [0, 2, 3, 4, 5, 6, 7, 8])
 have h := h.ent (i := 5) rfl (Q := ndA (.slice (some ⟨g, 0, none⟩) n cap) (st.ns.take n)) (fun a ha => ⟨_, ha⟩)
 exact Prt.Sat.iw (st := { st with ns := st.ns.take n }) (p := (lv0, .slice (some ⟨g, 0, none⟩) n cap, tv, main)) (h.pick [0, 1, 2, 3, 5, 4])
namespace Ty
def plD (af : List Tok.Tk) (n : Nd) : M Nat := bnd (need af [59]) fun _ => addNode n
def plC (af : List Tok.Tk) (E : M Nat) (f : Nat → Nd) : M Nat := bnd E fun v => plD af (f v)
def nS (tx : ByteArray) (ps v : Nat) : Nd := { ndOf 18 ps with text := tx, a := v }
def oO (tx : ByteArray) (ps a v : Nat) : Nd := { ndOf 19 ps with text := tx, a := a, b := v }
def nX (ps a b v : Nat) : Nd := { ndOf 20 ps with a := a, b := b, c := (v : Int) }
def uh (ps a : Nat) : Nd := { ndOf 25 ps with a := a }
def plB (af : List Tok.Tk) (E : M Nat) (a kd fa fb : Nat) (tx : ByteArray) (ps : Nat) : M Nat := fun s =>
 if is af [61] s.pos then
   if kd = 5 then plC af E (nS tx ps) { s with ns := s.ns.take a, pos := s.pos + 1 }
   else if kd = 8 then plC af E (oO tx ps fa) { s with ns := s.ns.take a, pos := s.pos + 1 }
   else if kd = 9 then plC af E (nX ps fa fb) { s with ns := s.ns.take a, pos := s.pos + 1 }
   else .error (here af 1 s.pos)
 else plD af (uh ps a) s
theorem nJ {af : List Tok.Tk} {E : M Nat} {st s : St} {a : Nat} (h : E st = .ok (a, s)) : plainM af E st = plB af E a (ndAt s a).kind (ndAt s a).a (ndAt s a).b (ndAt s a).text (ndAt s a).pos s := by
 unfold plainM; rw [bnd_ok h]
 show (if is af [61] s.pos = true then _ else _ : M Nat) s = _
 unfold plB
 by_cases h1 : is af [61] s.pos = true
 · rw [if_pos h1, if_pos h1]
   by_cases h5 : (ndAt s a).kind = 5
   · rw [if_pos h5, if_pos h5]; rfl
   · rw [if_neg h5, if_neg h5]
     by_cases h8 : (ndAt s a).kind = 8
     · rw [if_pos h8, if_pos h8]; rfl
     · rw [if_neg h8, if_neg h8]
       by_cases h9 : (ndAt s a).kind = 9
       · rw [if_pos h9, if_pos h9]; rfl
       · rw [if_neg h9, if_neg h9]; rfl
 · rw [if_neg h1, if_neg h1]; rfl
end Ty
theorem yD {w0 w : World} {Fr : As} {pb d : Nat} {af : List Tok.Tk} {st : Ty.St} {T E O S : Ty.M Nat} (L : Lo af d T E O S) (H : Sat w0 w [Fr, aC pb d af st]) {R : Ending → World → Prop}
   (hok : ∀ n s2 w2, Ty.plainM af E st = .ok (n, s2) → Sat w0 w2 [Fr, aC pb d af s2] → R (.returned (.int .i64 (n : Nat))) w2)
   (hbad : ∀ f w2, Ty.plainM af E st = .error f → Sat w0 w2 [Fr] → R (.panicked (aI f)) w2) :
   Calls Tryz.prog 212 #[.pointer (some ⟨pb, 0, none⟩)] w R := by
 have HOK := qh hok
 have HBAD := qh hbad
 have HL := qh L
 have hlk := H.look
 have htl := hlk.wf.1
 have HS := qh H
 clear hok hbad H L hlk
 go_enter Tryz.func212, Tryz.ntmps212
 go_wp2_with fail
 refine HL.out.e _ _ _ pb _ HS.out _ (fun a s1 w1 hm h1 => ?_) (fun e w1 hm h1 => ?_)
 rotate_left
 · have HX : Hid (Ty.plainM af E st = .error e) := Ty.bnd_err hm
   have HZ := qh h1
   clear hm h1
   go_wp2_with fail
   exact ⟨rfl, HBAD.out _ _ HX.out HZ.out⟩
 have had := HL.out.ae _ _ _ hm
 obtain ⟨_, hnx, _⟩ := HL.out.ne _ _ _ hm
 have hlk := h1.look
 have hpos := hlk.fits.1
 have hfit := hlk.fits.2.2.2
 have hpb := hlk.lt
 have han : a < s1.ns.length := by omega
 obtain ⟨g, cap, lv, c3, hg, hc1, hc2, hA, hbits⟩ := h1.nT han
 obtain ⟨la, lc, rfl⟩ := ag hbits
 obtain ⟨q0, q1, q2, q3, q4, q5, q6, q7, q8⟩ := hA
 have HE := qh ((Ty.nJ hm : Ty.plainM af E st = _))
 generalize Ty.ndAt s1 a = t at *
 obtain ⟨kd, fa, fb, fc, fl, tx, fn, fty, ps⟩ := t
 clear hbits
 dsimp only at q0 q1 q2 q3 q4 q5 q6 q7 q8 HE
 have H1 := qh h1
 clear hm h1 hlk
 go_wp2_with fail
 clear c3 q0 q1 q2 q3 q4 q5 q6 q7 q8 hg
 refine gp _ 25 ps (fun w2 hb2 => ?_)
 have h2 := (((H1.out.aj (.cells #[.int .i64 kd, .int .i64 fa, .int .i64 fb, .int .i64 fc, .slice la fl.length lc, .string tx, .int .i64 fn, .int .i64 fty, .int .i64 ps] 66) w1.heap.size).below hb2).aj (.cells #[.int .i64 25, .int .i64 a, .int .i64 0, .int .i64 0, .slice none 0 0, .string ⟨#[]⟩, .int .i64 0, .int .i64 (-1), .int .i64 ps] 66) w2.heap.size)
 have HIS := qh (fun R hR => iF _ pb d af s1 (h2.pick [0, 1]).look ⟨#[61]⟩ (R := R) hR)
 have HILT : Hid (Ty.is af (⟨#[61]⟩ : ByteArray).data.toList s1.pos = true → s1.pos + 1 < af.length) := is_lt (h2.pick [0, 1]).look.fits.1 (h2.pick [0, 1]).look.wf
 have HE' : Hid (Ty.plainM af E st = if Ty.is af (⟨#[61]⟩ : ByteArray).data.toList s1.pos then
   if kd = 5 then Ty.plC af E (Ty.nS tx ps) { s1 with ns := s1.ns.take a, pos := s1.pos + 1 }
   else if kd = 8 then Ty.plC af E (Ty.oO tx ps fa) { s1 with ns := s1.ns.take a, pos := s1.pos + 1 }
   else if kd = 9 then Ty.plC af E (Ty.nX ps fa fb) { s1 with ns := s1.ns.take a, pos := s1.pos + 1 }
   else .error (Ty.here af 1 s1.pos)
 else Ty.plD af (Ty.uh ps a) s1) := HE.out
 have H2 := qh h2
 clear hb2 h2 HE
 go_wp2_with fail
 refine HIS.out _ (fun w3 hb3 => ?_)
 have H3 := qh (H2.out.below hb3)
 generalize Ty.is af (⟨#[61]⟩ : ByteArray).data.toList s1.pos = b at *
 clear hb3
 have hlb : (s1.ns.take a).length = a := by rw [List.length_take]; omega
 cases b
 · rw [if_neg (by simp)] at HE'
   go_wp2_with fail
   refine aZ (H3.out.at 1 rfl) ⟨#[59]⟩ (fun w4 hm h4 => ?_) (fun e w4 hm h4 => ?_)
   rotate_left
   · have HX : Hid (Ty.plainM af E st = .error e) := HE'.out.trans (Ty.bnd_err hm)
     have HZ := qh (h4.unpack (i := 0) rfl)
     clear hm h4
     go_wp2_with fail
     exact ⟨rfl, HBAD.out _ _ HX.out (HZ.out.pick [0])⟩
   have HX : Hid (Ty.plainM af E st = .ok (s1.ns.length, { s1 with pos := s1.pos + 1, ns := s1.ns ++ [Ty.uh ps a] })) := HE'.out.trans ((Ty.bnd_ok hm).trans rfl)
   have k4 := h4.un4
   have q0 := k4.cell 3 rfl 0 rfl
   have q1 := k4.cell 3 rfl 1 rfl
   have q2 := k4.cell 3 rfl 2 rfl
   have q3 := k4.cell 3 rfl 3 rfl
   have q4 := k4.cell 3 rfl 4 rfl
   have q5 := k4.cell 3 rfl 5 rfl
   have q6 := k4.cell 3 rfl 6 rfl
   have q7 := k4.cell 3 rfl 7 rfl
   have q8 := k4.cell 3 rfl 8 rfl
   have z4 := k4.lt 3 rfl
   have H4 := qh (k4.nil 3 1)
   clear hm h4 k4
   go_wp2_with fail
   refine aO (Ty.uh ps a) (.slice none 0 0) (H4.out.pick [0, 1, 4]) (by dsimp only; omega) (fun w12 h12 => ?_)
   have H12 := qh h12
   clear h12
   go_wp2_with fail
   exact HOK.out _ _ _ HX.out H12.out
 · rw [if_pos rfl] at HE'
   have hlt1 := HILT.out rfl
   by_cases hk5 : kd = 5
   · subst hk5
     rw [if_pos rfl] at HE'
     obtain ⟨g5, cap5, c3, hc5, hd5, h5⟩ := (H3.out.at 1 rfl).trunc han
     have H5 := qh (h5.un4)
     obtain ⟨_, _, f3⟩ := (H3.out.pick [0, 1]).look.cells
     have x0 := H3.out.cell 2 rfl 0 rfl
     have y0 := H3.out.cell 3 rfl 0 rfl
     have x1 := H3.out.cell 2 rfl 1 rfl
     have y1 := H3.out.cell 3 rfl 1 rfl
     have x2 := H3.out.cell 2 rfl 2 rfl
     have y2 := H3.out.cell 3 rfl 2 rfl
     have x5 := H3.out.cell 2 rfl 5 rfl
     have y5 := H3.out.cell 3 rfl 5 rfl
     have fz := H3.out.free 3 rfl
     have hz := H3.out.lt 3 rfl
     have hz2 := H3.out.lt 2 rfl
     clear h5
     go_wp2_with fail
     go_region
     have h6 := (((H5.out.store 3 rfl 0 (.int .i64 18)).store 3 rfl 5 (.string tx)).store 3 rfl 1 (.int .i64 0)).drew
     obtain ⟨c1, _, f0⟩ := (h6.pick [0, 1]).look.cells
     have h7 := ((h6.at 1 rfl).setPos (s1.pos + 1) hlt1 (Nat.le_succ _)).un4
     rw [show ((s1.pos + 1 : Nat) : Int) = (s1.pos : Int) + 1 from rfl] at h7
     obtain ⟨s7, hs7⟩ : ∃ s' : Ty.St, s' = { s1 with ns := s1.ns.take a, pos := s1.pos + 1 } := ⟨_, rfl⟩
     have p7 : s7.pos = s1.pos + 1 := by rw [hs7]
     have n7 : s7.ns.length = a := by rw [hs7]; exact hlb
     have e7 : ({ pos := s1.pos + 1, ts := s1.ts, ns := s1.ns.take a } : Ty.St) = s7 := hs7.symm
     have hE7 := HE'.out
     rw [e7] at hE7
     have h7 : Sat w0 _ [Fr, aC pb d af s7, _, _] := e7 ▸ h7
     have HE7 := qh hE7
     have H7 := qh h7
     clear h6 h7 e7 hs7 hE7 HE' c3 fz
     dsimp only at c1
     go_wp2_with fail
     clear c1 f0
     refine HL.out.e _ _ _ pb _ (H7.out.at 1 rfl) _ (fun v s8 w8 hm h8 => ?_) (fun e w8 hm h8 => ?_)
     rotate_left
     · have HX : Hid (Ty.plainM af E st = .error e) := HE7.out.trans (Ty.bnd_err hm)
       have HZ := qh (h8.unpack (i := 0) rfl)
       clear hm h8
       go_wp2_with fail
       exact ⟨rfl, HBAD.out _ _ HX.out (HZ.out.pick [0])⟩
     have had8 := HL.out.ae _ _ _ hm
     have HE8 : Hid (Ty.plainM af E st = Ty.plD af (Ty.nS tx ps v) s8) := HE7.out.trans (Ty.bnd_ok hm)
     have k8 := h8.un4
     have u0 := k8.cell 3 rfl 0 rfl
     have u1 := k8.cell 3 rfl 1 rfl
     have f8 := k8.free 3 rfl
     have z8 := k8.lt 3 rfl
     have m8 := k8.store 3 rfl 1 (.int .i64 (v : Nat))
     have H8 := qh m8
     clear hm h8 k8 m8
     go_wp2_with fail
     clear u0 u1 f8
     refine aZ (H8.out.at 1 rfl) ⟨#[59]⟩ (fun w9 hm h9 => ?_) (fun e w9 hm h9 => ?_)
     rotate_left
     · have HX : Hid (Ty.plainM af E st = .error e) := HE8.out.trans (Ty.bnd_err hm)
       have HZ := qh (h9.unpack (i := 0) rfl)
       clear hm h9
       go_wp2_with fail
       exact ⟨rfl, HBAD.out _ _ HX.out (HZ.out.pick [0])⟩
     have HX : Hid (Ty.plainM af E st = .ok (s8.ns.length, { s8 with pos := s8.pos + 1, ns := s8.ns ++ [Ty.nS tx ps v] })) := HE8.out.trans ((Ty.bnd_ok hm).trans rfl)
     have k9 := h9.un4
     have q0 := k9.cell 3 rfl 0 rfl
     have q1 := k9.cell 3 rfl 1 rfl
     have q2 := k9.cell 3 rfl 2 rfl
     have q3 := k9.cell 3 rfl 3 rfl
     have q4 := k9.cell 3 rfl 4 rfl
     have q5 := k9.cell 3 rfl 5 rfl
     have q6 := k9.cell 3 rfl 6 rfl
     have q7 := k9.cell 3 rfl 7 rfl
     have q8 := k9.cell 3 rfl 8 rfl
     have z9 := k9.lt 3 rfl
     have H9 := qh (k9.nil 3 1)
     clear hm h9 k9
     go_wp2_with fail
     refine aO (Ty.nS tx ps v) (.slice none 0 0) (H9.out.pick [0, 1, 4]) (by dsimp only; omega) (fun w12 h12 => ?_)
     have H12 := qh h12
     clear h12
     go_wp2_with fail
     exact HOK.out _ _ _ HX.out H12.out
   rw [if_neg hk5] at HE'
   have b5 : ((kd : Int) == 5) = false := beq_eq_false_iff_ne.2 (by omega)
   by_cases hk8 : kd = 8
   · subst hk8
     rw [if_pos rfl] at HE'
     obtain ⟨g5, cap5, c3, hc5, hd5, h5⟩ := (H3.out.at 1 rfl).trunc han
     have H5 := qh (h5.un4)
     obtain ⟨_, _, f3⟩ := (H3.out.pick [0, 1]).look.cells
     have x0 := H3.out.cell 2 rfl 0 rfl
     have y0 := H3.out.cell 3 rfl 0 rfl
     have x1 := H3.out.cell 2 rfl 1 rfl
     have y1 := H3.out.cell 3 rfl 1 rfl
     have x2 := H3.out.cell 2 rfl 2 rfl
     have y2 := H3.out.cell 3 rfl 2 rfl
     have x5 := H3.out.cell 2 rfl 5 rfl
     have y5 := H3.out.cell 3 rfl 5 rfl
     have fz := H3.out.free 3 rfl
     have hz := H3.out.lt 3 rfl
     have hz2 := H3.out.lt 2 rfl
     clear h5
     go_wp2_with fail
     go_region
     have h6 := (((H5.out.store 3 rfl 0 (.int .i64 19)).store 3 rfl 5 (.string tx)).store 3 rfl 1 (.int .i64 fa)).drew
     obtain ⟨c1, _, f0⟩ := (h6.pick [0, 1]).look.cells
     have h7 := ((h6.at 1 rfl).setPos (s1.pos + 1) hlt1 (Nat.le_succ _)).un4
     rw [show ((s1.pos + 1 : Nat) : Int) = (s1.pos : Int) + 1 from rfl] at h7
     obtain ⟨s7, hs7⟩ : ∃ s' : Ty.St, s' = { s1 with ns := s1.ns.take a, pos := s1.pos + 1 } := ⟨_, rfl⟩
     have p7 : s7.pos = s1.pos + 1 := by rw [hs7]
     have n7 : s7.ns.length = a := by rw [hs7]; exact hlb
     have e7 : ({ pos := s1.pos + 1, ts := s1.ts, ns := s1.ns.take a } : Ty.St) = s7 := hs7.symm
     have hE7 := HE'.out
     rw [e7] at hE7
     have h7 : Sat w0 _ [Fr, aC pb d af s7, _, _] := e7 ▸ h7
     have HE7 := qh hE7
     have H7 := qh h7
     clear h6 h7 e7 hs7 hE7 HE' c3 fz
     dsimp only at c1
     go_wp2_with fail
     clear c1 f0
     refine HL.out.e _ _ _ pb _ (H7.out.at 1 rfl) _ (fun v s8 w8 hm h8 => ?_) (fun e w8 hm h8 => ?_)
     rotate_left
     · have HX : Hid (Ty.plainM af E st = .error e) := HE7.out.trans (Ty.bnd_err hm)
       have HZ := qh (h8.unpack (i := 0) rfl)
       clear hm h8
       go_wp2_with fail
       exact ⟨rfl, HBAD.out _ _ HX.out (HZ.out.pick [0])⟩
     have had8 := HL.out.ae _ _ _ hm
     have HE8 : Hid (Ty.plainM af E st = Ty.plD af (Ty.oO tx ps fa v) s8) := HE7.out.trans (Ty.bnd_ok hm)
     have k8 := h8.un4
     have u0 := k8.cell 3 rfl 0 rfl
     have u1 := k8.cell 3 rfl 2 rfl
     have f8 := k8.free 3 rfl
     have z8 := k8.lt 3 rfl
     have m8 := k8.store 3 rfl 2 (.int .i64 (v : Nat))
     have H8 := qh m8
     clear hm h8 k8 m8
     go_wp2_with fail
     clear u0 u1 f8
     refine aZ (H8.out.at 1 rfl) ⟨#[59]⟩ (fun w9 hm h9 => ?_) (fun e w9 hm h9 => ?_)
     rotate_left
     · have HX : Hid (Ty.plainM af E st = .error e) := HE8.out.trans (Ty.bnd_err hm)
       have HZ := qh (h9.unpack (i := 0) rfl)
       clear hm h9
       go_wp2_with fail
       exact ⟨rfl, HBAD.out _ _ HX.out (HZ.out.pick [0])⟩
     have HX : Hid (Ty.plainM af E st = .ok (s8.ns.length, { s8 with pos := s8.pos + 1, ns := s8.ns ++ [Ty.oO tx ps fa v] })) := HE8.out.trans ((Ty.bnd_ok hm).trans rfl)
     have k9 := h9.un4
     have q0 := k9.cell 3 rfl 0 rfl
     have q1 := k9.cell 3 rfl 1 rfl
     have q2 := k9.cell 3 rfl 2 rfl
     have q3 := k9.cell 3 rfl 3 rfl
     have q4 := k9.cell 3 rfl 4 rfl
     have q5 := k9.cell 3 rfl 5 rfl
     have q6 := k9.cell 3 rfl 6 rfl
     have q7 := k9.cell 3 rfl 7 rfl
     have q8 := k9.cell 3 rfl 8 rfl
     have z9 := k9.lt 3 rfl
     have H9 := qh (k9.nil 3 1)
     clear hm h9 k9
     go_wp2_with fail
     refine aO (Ty.oO tx ps fa v) (.slice none 0 0) (H9.out.pick [0, 1, 4]) (by dsimp only; omega) (fun w12 h12 => ?_)
     have H12 := qh h12
     clear h12
     go_wp2_with fail
     exact HOK.out _ _ _ HX.out H12.out
   rw [if_neg hk8] at HE'
   have b8 : ((kd : Int) == 8) = false := beq_eq_false_iff_ne.2 (by omega)
   by_cases hk9 : kd = 9
   · subst hk9
     rw [if_pos rfl] at HE'
     obtain ⟨g5, cap5, c3, hc5, hd5, h5⟩ := (H3.out.at 1 rfl).trunc han
     have H5 := qh (h5.un4)
     obtain ⟨_, _, f3⟩ := (H3.out.pick [0, 1]).look.cells
     have x0 := H3.out.cell 2 rfl 0 rfl
     have y0 := H3.out.cell 3 rfl 0 rfl
     have x1 := H3.out.cell 2 rfl 1 rfl
     have y1 := H3.out.cell 3 rfl 1 rfl
     have x2 := H3.out.cell 2 rfl 2 rfl
     have y2 := H3.out.cell 3 rfl 2 rfl
     have x5 := H3.out.cell 2 rfl 5 rfl
     have y5 := H3.out.cell 3 rfl 5 rfl
     have fz := H3.out.free 3 rfl
     have hz := H3.out.lt 3 rfl
     have hz2 := H3.out.lt 2 rfl
     clear h5
     go_wp2_with fail
     go_region
     have h6 := (((H5.out.store 3 rfl 0 (.int .i64 20)).store 3 rfl 1 (.int .i64 fa)).store 3 rfl 2 (.int .i64 fb)).drew
     obtain ⟨c1, _, f0⟩ := (h6.pick [0, 1]).look.cells
     have h7 := ((h6.at 1 rfl).setPos (s1.pos + 1) hlt1 (Nat.le_succ _)).un4
     rw [show ((s1.pos + 1 : Nat) : Int) = (s1.pos : Int) + 1 from rfl] at h7
     obtain ⟨s7, hs7⟩ : ∃ s' : Ty.St, s' = { s1 with ns := s1.ns.take a, pos := s1.pos + 1 } := ⟨_, rfl⟩
     have p7 : s7.pos = s1.pos + 1 := by rw [hs7]
     have n7 : s7.ns.length = a := by rw [hs7]; exact hlb
     have e7 : ({ pos := s1.pos + 1, ts := s1.ts, ns := s1.ns.take a } : Ty.St) = s7 := hs7.symm
     have hE7 := HE'.out
     rw [e7] at hE7
     have h7 : Sat w0 _ [Fr, aC pb d af s7, _, _] := e7 ▸ h7
     have HE7 := qh hE7
     have H7 := qh h7
     clear h6 h7 e7 hs7 hE7 HE' c3 fz
     dsimp only at c1
     go_wp2_with fail
     clear c1 f0
     refine HL.out.e _ _ _ pb _ (H7.out.at 1 rfl) _ (fun v s8 w8 hm h8 => ?_) (fun e w8 hm h8 => ?_)
     rotate_left
     · have HX : Hid (Ty.plainM af E st = .error e) := HE7.out.trans (Ty.bnd_err hm)
       have HZ := qh (h8.unpack (i := 0) rfl)
       clear hm h8
       go_wp2_with fail
       exact ⟨rfl, HBAD.out _ _ HX.out (HZ.out.pick [0])⟩
     have had8 := HL.out.ae _ _ _ hm
     have HE8 : Hid (Ty.plainM af E st = Ty.plD af (Ty.nX ps fa fb v) s8) := HE7.out.trans (Ty.bnd_ok hm)
     have k8 := h8.un4
     have u0 := k8.cell 3 rfl 0 rfl
     have u1 := k8.cell 3 rfl 3 rfl
     have f8 := k8.free 3 rfl
     have z8 := k8.lt 3 rfl
     have m8 := k8.store 3 rfl 3 (.int .i64 (v : Nat))
     have H8 := qh m8
     clear hm h8 k8 m8
     go_wp2_with fail
     clear u0 u1 f8
     refine aZ (H8.out.at 1 rfl) ⟨#[59]⟩ (fun w9 hm h9 => ?_) (fun e w9 hm h9 => ?_)
     rotate_left
     · have HX : Hid (Ty.plainM af E st = .error e) := HE8.out.trans (Ty.bnd_err hm)
       have HZ := qh (h9.unpack (i := 0) rfl)
       clear hm h9
       go_wp2_with fail
       exact ⟨rfl, HBAD.out _ _ HX.out (HZ.out.pick [0])⟩
     have HX : Hid (Ty.plainM af E st = .ok (s8.ns.length, { s8 with pos := s8.pos + 1, ns := s8.ns ++ [Ty.nX ps fa fb v] })) := HE8.out.trans ((Ty.bnd_ok hm).trans rfl)
     have k9 := h9.un4
     have q0 := k9.cell 3 rfl 0 rfl
     have q1 := k9.cell 3 rfl 1 rfl
     have q2 := k9.cell 3 rfl 2 rfl
     have q3 := k9.cell 3 rfl 3 rfl
     have q4 := k9.cell 3 rfl 4 rfl
     have q5 := k9.cell 3 rfl 5 rfl
     have q6 := k9.cell 3 rfl 6 rfl
     have q7 := k9.cell 3 rfl 7 rfl
     have q8 := k9.cell 3 rfl 8 rfl
     have z9 := k9.lt 3 rfl
     have H9 := qh (k9.nil 3 1)
     clear hm h9 k9
     go_wp2_with fail
     refine aO (Ty.nX ps fa fb v) (.slice none 0 0) (H9.out.pick [0, 1, 4]) (by dsimp only; omega) (fun w12 h12 => ?_)
     have H12 := qh h12
     clear h12
     go_wp2_with fail
     exact HOK.out _ _ _ HX.out H12.out
   rw [if_neg hk9] at HE'
   have b9 : ((kd : Int) == 9) = false := beq_eq_false_iff_ne.2 (by omega)
   have x0 := H3.out.cell 2 rfl 0 rfl
   clear hk5 hk8 hk9
   go_wp2_with fail
   refine gK w3 pb d af s1 (H3.out.pick [0, 1]).look 1 (fun w4 hb4 => ?_)
   have H4 := qh (H3.out.below hb4)
   clear hb4
   go_wp2_with fail
   exact ⟨rfl, HBAD.out _ _ HE'.out (H4.out.pick [0])⟩
end
end Go.Proofs.YtdlbhiaceheffabGreatDoor
