/- Walk of the parser's bare. Walks of the parser's expr, statement, and of one within itself: at every depth. -/
import Derived.Test.YtdlbhiaceheffabGreatDoorS27
set_option linter.all false
set_option maxRecDepth 100000
set_option maxHeartbeats 8000000
namespace Go.Proofs.YtdlbhiaceheffabGreatDoor
section
open Go Go.RowKit
open Prt (Sat As blk pur exs star stars)
namespace Ty
def baD (toks : List Tok.Tk) (n : Nd) : M Nat := bnd (need toks [59]) fun _ => addNode n
def nd17 (ps : Nat) (x : ByteArray) (t : Int) (a : Nat) : Nd := { ndOf 17 ps with text := x, ty := t, a := a }
def nd21 (ps a : Nat) : Nd := { ndOf 21 ps with a := a }
def nd24 (ps a : Nat) : Nd := { ndOf 24 ps with a := a }
def ba4 (toks : List Tok.Tk) (E : M Nat) (ps : Nat) (x : ByteArray) (t : Int) : M Nat := bnd E fun a => baD toks (nd17 ps x t a)
def ba3 (toks : List Tok.Tk) (E : M Nat) (ps : Nat) (x : ByteArray) (t : Int) : M Nat := bnd (need toks [61]) fun _ => ba4 toks E ps x t
def ba2 (toks : List Tok.Tk) (T E : M Nat) (ps : Nat) (x : ByteArray) : M Nat := bnd (written toks T) fun t => ba3 toks E ps x t
def ba1 (toks : List Tok.Tk) (T E : M Nat) (ps : Nat) : M Nat := bnd (name toks []) fun x => ba2 toks T E ps x
def baP (toks : List Tok.Tk) (E : M Nat) (ps : Nat) : M Nat := bnd E fun a => baD toks (nd21 ps a)
def baR (toks : List Tok.Tk) (E : M Nat) (ps : Nat) : M Nat := bnd E fun a => baD toks (nd24 ps a)
def baC (toks : List Tok.Tk) (E S : M Nat) (ps : Nat) : M Nat := look fun s2 => if is toks [105, 102] s2.pos then branchM toks E S true ps else if is toks [119, 104, 105, 108, 101] s2.pos then branchM toks E S false ps else plainM toks E
section
variable {toks : List Tok.Tk} {T E S : M Nat} {s s1 : St}
theorem bareM_eq : bareM toks T E S s = (bnd (take toks [108, 101, 116]) fun b => if b then ba1 toks T E (cur toks s.pos).pos else bnd (take toks [112, 114, 105, 110, 116]) fun b => if b then baP toks E (cur toks s.pos).pos else bnd (take toks [114, 101, 116, 117, 114, 110]) fun b => if b then baR toks E (cur toks s.pos).pos else baC toks E S (cur toks s.pos).pos) s := rfl
end
end Ty
theorem bare_any {toks : List Tok.Tk} {d : Nat} {T E O S : Ty.M Nat} (L : Lo toks d T E O S) : PSpec 131 toks d (Ty.bareM toks T E S) := by
 intro w0 w Fr pb st H R hok hbad
 have HOK := qh hok
 have HBAD := qh hbad
 have HL := qh L
 have hlk := H.look
 have htl := hlk.wf.1
 have hpos := hlk.fits.1
 have hfit := hlk.fits.2.2.2
 have hwf := qh hlk.wf
 have HS := qh H
 have HN := qh (fun R hR => @now_any w pb d toks st hlk R hR)
 obtain ⟨ps, hps⟩ : ∃ ps, (Ty.cur toks st.pos).pos = ps := ⟨_, rfl⟩
 have HE0 : Hid (Ty.bareM toks T E S st = (Ty.bnd (Ty.take toks [108, 101, 116]) fun b => if b then Ty.ba1 toks T E ps else Ty.bnd (Ty.take toks [112, 114, 105, 110, 116]) fun b => if b then Ty.baP toks E ps else Ty.bnd (Ty.take toks [114, 101, 116, 117, 114, 110]) fun b => if b then Ty.baR toks E ps else Ty.baC toks E S ps) st) := by rw [← hps]; exact Ty.bareM_eq
 generalize Ty.cur toks st.pos = t at *
 obtain ⟨kd, tx, tp⟩ := t
 dsimp only at hps
 subst hps
 have hf2 := field_tk2
 clear hok hbad H L hlk
 go_enter Tryz.func131, Tryz.ntmps131
 go_wp2_with fail
 refine HN.out _ (fun w1 hb1 => ?_)
 dsimp only [tkVal]
 have H1 := qh (HS.out.below hb1)
 clear hb1
 go_wp2_with fail
 refine of_any w1 0 tp (fun w2 hb2 => ?_)
 have h2 := (H1.out.below hb2).allocAt (.cells #[.int .i64 0, .int .i64 0, .int .i64 0, .int .i64 0, .slice none 0 0, .string ⟨#[]⟩, .int .i64 0, .int .i64 (-1), .int .i64 tp] 66) w2.heap.size
 have H2 := qh h2
 clear hb2 h2
 go_wp2_with fail
 refine take_any (H2.out.at 1 rfl) ⟨#[108, 101, 116]⟩ (fun w3 hi h3 => ?_) (fun w3 hi h3 => ?_)
 · have hE : Ty.bareM toks T E S st = Ty.ba1 toks T E tp { st with pos := st.pos + 1 } := HE0.out.trans ((Ty.bnd_ok hi).trans rfl)
   obtain ⟨s3, es3⟩ : ∃ s' : Ty.St, s' = { st with pos := st.pos + 1 } := ⟨_, rfl⟩
   have ps3 : s3.pos = st.pos + 1 := by rw [es3]
   have ns3 : s3.ns.length = st.ns.length := by rw [es3]
   rw [← es3] at h3 hE
   have HE3 := qh hE
   have H3 := qh h3.un3
   clear hi h3 hE es3 HE0
   go_wp2_with fail
   refine pname_any (H3.out.at 1 rfl) _ [] (nilRow _) (by simp) (fun x w4 hm h4 => ?_) (fun e w4 hm h4 => ?_)
   rotate_left
   · have HX : Hid (Ty.bareM toks T E S st = .error e) := HE3.out.trans (Ty.bnd_err hm)
     have HZ := qh (h4.unpack (i := 0) rfl)
     clear hm h4
     go_wp2_with fail
     exact ⟨rfl, HBAD.out _ _ HX.out (HZ.out.pick [0])⟩
   have hE : Ty.bareM toks T E S st = Ty.ba2 toks T E tp x { s3 with pos := s3.pos + 1 } := HE3.out.trans (Ty.bnd_ok hm)
   obtain ⟨s4, es4⟩ : ∃ s' : Ty.St, s' = { s3 with pos := s3.pos + 1 } := ⟨_, rfl⟩
   have ps4 : s4.pos = s3.pos + 1 := by rw [es4]
   have ns4 : s4.ns.length = s3.ns.length := by rw [es4]
   rw [← es4] at h4 hE
   have HE4 := qh hE
   clear hE es4
   have k4 := h4.un3
   have y4_0 := k4.cell 2 rfl 0 rfl
   have y4_5 := k4.cell 2 rfl 5 rfl
   have f4 := k4.free 2 rfl
   have z4 := k4.lt 2 rfl
   have m4 := ((k4.store 2 rfl 0 (.int .i64 17)).store 2 rfl 5 (.string x))
   have H4 := qh m4
   clear hm h4 k4 m4
   go_wp2_with fail
   clear f4 y4_0 y4_5
   refine written_any HL.out (H4.out.at 1 rfl) (fun t s5 w5 hm h5 => ?_) (fun e w5 hm h5 => ?_)
   rotate_left
   · have HX : Hid (Ty.bareM toks T E S st = .error e) := HE4.out.trans (Ty.bnd_err hm)
     have HZ := qh (h5.unpack (i := 0) rfl)
     clear hm h5
     go_wp2_with fail
     exact ⟨rfl, HBAD.out _ _ HX.out (HZ.out.pick [0])⟩
   have had5 := Ty.written_adv HL.out.at' _ _ _ hm
   have HE5 : Hid (Ty.bareM toks T E S st = Ty.ba3 toks E tp x t s5) := HE4.out.trans (Ty.bnd_ok hm)
   have k5 := h5.un3
   have y5_7 := k5.cell 2 rfl 7 rfl
   have f5 := k5.free 2 rfl
   have z5 := k5.lt 2 rfl
   have m5 := (k5.store 2 rfl 7 (.int .i64 t))
   have H5 := qh m5
   clear hm h5 k5 m5
   go_wp2_with fail
   clear f5 y5_7
   refine need_any (H5.out.at 1 rfl) ⟨#[61]⟩ (fun w6 hm h6 => ?_) (fun e w6 hm h6 => ?_)
   rotate_left
   · have HX : Hid (Ty.bareM toks T E S st = .error e) := HE5.out.trans (Ty.bnd_err hm)
     have HZ := qh (h6.unpack (i := 0) rfl)
     clear hm h6
     go_wp2_with fail
     exact ⟨rfl, HBAD.out _ _ HX.out (HZ.out.pick [0])⟩
   have hE : Ty.bareM toks T E S st = Ty.ba4 toks E tp x t { s5 with pos := s5.pos + 1 } := HE5.out.trans (Ty.bnd_ok hm)
   obtain ⟨s6, es6⟩ : ∃ s' : Ty.St, s' = { s5 with pos := s5.pos + 1 } := ⟨_, rfl⟩
   have ps6 : s6.pos = s5.pos + 1 := by rw [es6]
   have ns6 : s6.ns.length = s5.ns.length := by rw [es6]
   rw [← es6] at h6 hE
   have HE6 := qh hE
   have H6 := qh h6.un3
   clear hm h6 hE es6
   go_wp2_with fail
   refine HL.out.e _ _ _ pb _ (H6.out.at 1 rfl) _ (fun a s7 w7 hm h7 => ?_) (fun e w7 hm h7 => ?_)
   rotate_left
   · have HX : Hid (Ty.bareM toks T E S st = .error e) := HE6.out.trans (Ty.bnd_err hm)
     have HZ := qh (h7.unpack (i := 0) rfl)
     clear hm h7
     go_wp2_with fail
     exact ⟨rfl, HBAD.out _ _ HX.out (HZ.out.pick [0])⟩
   have had7 := HL.out.ae _ _ _ hm
   have HE7 : Hid (Ty.bareM toks T E S st = Ty.baD toks (Ty.nd17 tp x t a) s7) := HE6.out.trans (Ty.bnd_ok hm)
   have k7 := h7.un3
   have y7_1 := k7.cell 2 rfl 1 rfl
   have f7 := k7.free 2 rfl
   have z7 := k7.lt 2 rfl
   have m7 := (k7.store 2 rfl 1 (.int .i64 (a : Nat)))
   have H7 := qh m7
   clear hm h7 k7 m7
   go_wp2_with fail
   clear f7 y7_1
   refine need_any (H7.out.at 1 rfl) ⟨#[59]⟩ (fun w8 hm h8 => ?_) (fun e w8 hm h8 => ?_)
   rotate_left
   · have HX : Hid (Ty.bareM toks T E S st = .error e) := HE7.out.trans (Ty.bnd_err hm)
     have HZ := qh (h8.unpack (i := 0) rfl)
     clear hm h8
     go_wp2_with fail
     exact ⟨rfl, HBAD.out _ _ HX.out (HZ.out.pick [0])⟩
   have HX : Hid (Ty.bareM toks T E S st = .ok (s7.ns.length, { s7 with pos := s7.pos + 1, ns := s7.ns ++ [Ty.nd17 tp x t a] })) := HE7.out.trans ((Ty.bnd_ok hm).trans rfl)
   have k8 := h8.un3
   have q0 := k8.cell 2 rfl 0 rfl
   have q1 := k8.cell 2 rfl 1 rfl
   have q2 := k8.cell 2 rfl 2 rfl
   have q3 := k8.cell 2 rfl 3 rfl
   have q4 := k8.cell 2 rfl 4 rfl
   have q5 := k8.cell 2 rfl 5 rfl
   have q6 := k8.cell 2 rfl 6 rfl
   have q7 := k8.cell 2 rfl 7 rfl
   have q8 := k8.cell 2 rfl 8 rfl
   have z8 := k8.lt 2 rfl
   have H8 := qh (k8.nil 3 1)
   clear hm h8 k8
   go_wp2_with fail
   refine node_any (Ty.nd17 tp x t a) (.slice none 0 0) (H8.out.pick [0, 1, 3]) (by dsimp only; omega) (fun w20 h20 => ?_)
   have H20 := qh h20
   clear h20
   go_wp2_with fail
   exact HOK.out _ _ _ HX.out H20.out
 have HF0 : Hid (Ty.bareM toks T E S st = (Ty.bnd (Ty.take toks [112, 114, 105, 110, 116]) fun b => if b then Ty.baP toks E tp else Ty.bnd (Ty.take toks [114, 101, 116, 117, 114, 110]) fun b => if b then Ty.baR toks E tp else Ty.baC toks E S tp) st) := HE0.out.trans ((Ty.bnd_ok hi).trans rfl)
 have H3 := qh h3.un3
 clear hi h3 HE0
 go_wp2_with fail
 refine take_any (H3.out.at 1 rfl) ⟨#[112, 114, 105, 110, 116]⟩ (fun w4 hi h4 => ?_) (fun w4 hi h4 => ?_)
 · have hE : Ty.bareM toks T E S st = Ty.baP toks E tp { st with pos := st.pos + 1 } := HF0.out.trans ((Ty.bnd_ok hi).trans rfl)
   obtain ⟨s4, es4⟩ : ∃ s' : Ty.St, s' = { st with pos := st.pos + 1 } := ⟨_, rfl⟩
   have ps4 : s4.pos = st.pos + 1 := by rw [es4]
   have ns4 : s4.ns.length = st.ns.length := by rw [es4]
   rw [← es4] at h4 hE
   have HE4 := qh hE
   have H4 := qh h4.un3
   clear hi h4 hE es4 HF0
   go_wp2_with fail
   refine HL.out.e _ _ _ pb _ (H4.out.at 1 rfl) _ (fun a s5 w5 hm h5 => ?_) (fun e w5 hm h5 => ?_)
   rotate_left
   · have HX : Hid (Ty.bareM toks T E S st = .error e) := HE4.out.trans (Ty.bnd_err hm)
     have HZ := qh (h5.unpack (i := 0) rfl)
     clear hm h5
     go_wp2_with fail
     exact ⟨rfl, HBAD.out _ _ HX.out (HZ.out.pick [0])⟩
   have had5 := HL.out.ae _ _ _ hm
   have HE5 : Hid (Ty.bareM toks T E S st = Ty.baD toks (Ty.nd21 tp a) s5) := HE4.out.trans (Ty.bnd_ok hm)
   have k5 := h5.un3
   have y5_0 := k5.cell 2 rfl 0 rfl
   have y5_1 := k5.cell 2 rfl 1 rfl
   have f5 := k5.free 2 rfl
   have z5 := k5.lt 2 rfl
   have m5 := ((k5.store 2 rfl 0 (.int .i64 21)).store 2 rfl 1 (.int .i64 (a : Nat)))
   have H5 := qh m5
   clear hm h5 k5 m5
   go_wp2_with fail
   clear f5 y5_0 y5_1
   refine need_any (H5.out.at 1 rfl) ⟨#[59]⟩ (fun w6 hm h6 => ?_) (fun e w6 hm h6 => ?_)
   rotate_left
   · have HX : Hid (Ty.bareM toks T E S st = .error e) := HE5.out.trans (Ty.bnd_err hm)
     have HZ := qh (h6.unpack (i := 0) rfl)
     clear hm h6
     go_wp2_with fail
     exact ⟨rfl, HBAD.out _ _ HX.out (HZ.out.pick [0])⟩
   have HX : Hid (Ty.bareM toks T E S st = .ok (s5.ns.length, { s5 with pos := s5.pos + 1, ns := s5.ns ++ [Ty.nd21 tp a] })) := HE5.out.trans ((Ty.bnd_ok hm).trans rfl)
   have k6 := h6.un3
   have q0 := k6.cell 2 rfl 0 rfl
   have q1 := k6.cell 2 rfl 1 rfl
   have q2 := k6.cell 2 rfl 2 rfl
   have q3 := k6.cell 2 rfl 3 rfl
   have q4 := k6.cell 2 rfl 4 rfl
   have q5 := k6.cell 2 rfl 5 rfl
   have q6 := k6.cell 2 rfl 6 rfl
   have q7 := k6.cell 2 rfl 7 rfl
   have q8 := k6.cell 2 rfl 8 rfl
   have z6 := k6.lt 2 rfl
   have H6 := qh (k6.nil 3 1)
   clear hm h6 k6
   go_wp2_with fail
   refine node_any (Ty.nd21 tp a) (.slice none 0 0) (H6.out.pick [0, 1, 3]) (by dsimp only; omega) (fun w20 h20 => ?_)
   have H20 := qh h20
   clear h20
   go_wp2_with fail
   exact HOK.out _ _ _ HX.out H20.out
 have HG0 : Hid (Ty.bareM toks T E S st = (Ty.bnd (Ty.take toks [114, 101, 116, 117, 114, 110]) fun b => if b then Ty.baR toks E tp else Ty.baC toks E S tp) st) := HF0.out.trans ((Ty.bnd_ok hi).trans rfl)
 have H4 := qh h4.un3
 clear hi h4 HF0
 go_wp2_with fail
 refine take_any (H4.out.at 1 rfl) ⟨#[114, 101, 116, 117, 114, 110]⟩ (fun w5 hi h5 => ?_) (fun w5 hi h5 => ?_)
 · have hE : Ty.bareM toks T E S st = Ty.baR toks E tp { st with pos := st.pos + 1 } := HG0.out.trans ((Ty.bnd_ok hi).trans rfl)
   obtain ⟨s5, es5⟩ : ∃ s' : Ty.St, s' = { st with pos := st.pos + 1 } := ⟨_, rfl⟩
   have ps5 : s5.pos = st.pos + 1 := by rw [es5]
   have ns5 : s5.ns.length = st.ns.length := by rw [es5]
   rw [← es5] at h5 hE
   have HE5 := qh hE
   have H5 := qh h5.un3
   clear hi h5 hE es5 HG0
   go_wp2_with fail
   refine HL.out.e _ _ _ pb _ (H5.out.at 1 rfl) _ (fun a s6 w6 hm h6 => ?_) (fun e w6 hm h6 => ?_)
   rotate_left
   · have HX : Hid (Ty.bareM toks T E S st = .error e) := HE5.out.trans (Ty.bnd_err hm)
     have HZ := qh (h6.unpack (i := 0) rfl)
     clear hm h6
     go_wp2_with fail
     exact ⟨rfl, HBAD.out _ _ HX.out (HZ.out.pick [0])⟩
   have had6 := HL.out.ae _ _ _ hm
   have HE6 : Hid (Ty.bareM toks T E S st = Ty.baD toks (Ty.nd24 tp a) s6) := HE5.out.trans (Ty.bnd_ok hm)
   have k6 := h6.un3
   have y6_0 := k6.cell 2 rfl 0 rfl
   have y6_1 := k6.cell 2 rfl 1 rfl
   have f6 := k6.free 2 rfl
   have z6 := k6.lt 2 rfl
   have m6 := ((k6.store 2 rfl 0 (.int .i64 24)).store 2 rfl 1 (.int .i64 (a : Nat)))
   have H6 := qh m6
   clear hm h6 k6 m6
   go_wp2_with fail
   clear f6 y6_0 y6_1
   refine need_any (H6.out.at 1 rfl) ⟨#[59]⟩ (fun w7 hm h7 => ?_) (fun e w7 hm h7 => ?_)
   rotate_left
   · have HX : Hid (Ty.bareM toks T E S st = .error e) := HE6.out.trans (Ty.bnd_err hm)
     have HZ := qh (h7.unpack (i := 0) rfl)
     clear hm h7
     go_wp2_with fail
     exact ⟨rfl, HBAD.out _ _ HX.out (HZ.out.pick [0])⟩
   have HX : Hid (Ty.bareM toks T E S st = .ok (s6.ns.length, { s6 with pos := s6.pos + 1, ns := s6.ns ++ [Ty.nd24 tp a] })) := HE6.out.trans ((Ty.bnd_ok hm).trans rfl)
   have k7 := h7.un3
   have q0 := k7.cell 2 rfl 0 rfl
   have q1 := k7.cell 2 rfl 1 rfl
   have q2 := k7.cell 2 rfl 2 rfl
   have q3 := k7.cell 2 rfl 3 rfl
   have q4 := k7.cell 2 rfl 4 rfl
   have q5 := k7.cell 2 rfl 5 rfl
   have q6 := k7.cell 2 rfl 6 rfl
   have q7 := k7.cell 2 rfl 7 rfl
   have q8 := k7.cell 2 rfl 8 rfl
   have z7 := k7.lt 2 rfl
   have H7 := qh (k7.nil 3 1)
   clear hm h7 k7
   go_wp2_with fail
   refine node_any (Ty.nd24 tp a) (.slice none 0 0) (H7.out.pick [0, 1, 3]) (by dsimp only; omega) (fun w20 h20 => ?_)
   have H20 := qh h20
   clear h20
   go_wp2_with fail
   exact HOK.out _ _ _ HX.out H20.out
 have hE : Ty.bareM toks T E S st = if Ty.is toks (⟨#[105, 102]⟩ : ByteArray).data.toList st.pos then Ty.branchM toks E S true tp st else if Ty.is toks (⟨#[119, 104, 105, 108, 101]⟩ : ByteArray).data.toList st.pos then Ty.branchM toks E S false tp st else Ty.plainM toks E st := by
   refine HG0.out.trans ((Ty.bnd_ok hi).trans ?_)
   show (if Ty.is toks [105, 102] st.pos = true then Ty.branchM toks E S true tp else if Ty.is toks [119, 104, 105, 108, 101] st.pos = true then Ty.branchM toks E S false tp else Ty.plainM toks E : Ty.M Nat) st = _
   show _ = if Ty.is toks [105, 102] st.pos = true then _ else if Ty.is toks [119, 104, 105, 108, 101] st.pos = true then _ else _
   by_cases h1 : Ty.is toks [105, 102] st.pos = true
   · rw [if_pos h1, if_pos h1]
   · rw [if_neg h1, if_neg h1]
     by_cases h2 : Ty.is toks [119, 104, 105, 108, 101] st.pos = true
     · rw [if_pos h2, if_pos h2]
     · rw [if_neg h2, if_neg h2]
 have k5 := h5.un3
 have hlt1 : Ty.is toks (⟨#[105, 102]⟩ : ByteArray).data.toList st.pos = true → st.pos + 1 < toks.length := is_lt hpos hwf.out
 have hlt2 : Ty.is toks (⟨#[119, 104, 105, 108, 101]⟩ : ByteArray).data.toList st.pos = true → st.pos + 1 < toks.length := is_lt hpos hwf.out
 have HI1 := qh (fun R hR => is_any w5 pb d toks st (k5.pick [0, 1]).look ⟨#[105, 102]⟩ (R := R) hR)
 have HI2 := qh (fun w6 (hb : Below w5.heap.size w5 w6) R hR => is_any w6 pb d toks st ((k5.pick [0, 1]).look.below hb) ⟨#[119, 104, 105, 108, 101]⟩ (R := R) hR)
 have HBT := qh (fun (hi : Ty.is toks (⟨#[105, 102]⟩ : ByteArray).data.toList st.pos = true) w6 (h : Sat w0 w6 [Fr, parA pb d toks st]) R hok hbad => branch_true HL.out h tp hi (hlt1 hi) (R := R) hok hbad)
 have HBF := qh (fun (hi : Ty.is toks (⟨#[105, 102]⟩ : ByteArray).data.toList st.pos = false) (hi2 : Ty.is toks (⟨#[119, 104, 105, 108, 101]⟩ : ByteArray).data.toList st.pos = true) w6 (h : Sat w0 w6 [Fr, parA pb d toks st]) R hok hbad => branch_false HL.out h tp hi (hlt2 hi2) (R := R) hok hbad)
 have HE5 := qh hE
 have H5 := qh k5
 clear hi h5 k5 HG0 hE hlt1 hlt2
 generalize Ty.is toks (⟨#[105, 102]⟩ : ByteArray).data.toList st.pos = b1 at *
 generalize Ty.is toks (⟨#[119, 104, 105, 108, 101]⟩ : ByteArray).data.toList st.pos = b2 at *
 go_wp2_with fail
 refine HI1.out _ (fun w6 hb6 => ?_)
 have H6 := qh (H5.out.below hb6)
 have HB6 := qh hb6
 clear hb6
 cases b1
 rotate_left
 · skip
   have x := H6.out
   have q0 := x.cell 2 rfl 0 rfl
   have q1 := x.cell 2 rfl 1 rfl
   have q2 := x.cell 2 rfl 2 rfl
   have q3 := x.cell 2 rfl 3 rfl
   have q4 := x.cell 2 rfl 4 rfl
   have q5 := x.cell 2 rfl 5 rfl
   have q6 := x.cell 2 rfl 6 rfl
   have q7 := x.cell 2 rfl 7 rfl
   have q8 := x.cell 2 rfl 8 rfl
   clear x
   go_wp2_with fail
   refine HBT.out (by first | trivial | rfl) _ (H6.out.pick [0, 1]) _ (fun n s9 w9 hm h9 => ?_) (fun e w9 hm h9 => ?_)
   · have HX : Hid (Ty.bareM toks T E S st = .ok (n, s9)) := by have h0 := HE5.out; simp only [if_true, if_false, Bool.false_eq_true] at h0; exact h0.trans hm
     have H9 := qh h9
     clear hm h9
     go_wp2_with fail
     exact HOK.out _ _ _ HX.out H9.out
   · have HX : Hid (Ty.bareM toks T E S st = .error e) := by have h0 := HE5.out; simp only [if_true, if_false, Bool.false_eq_true] at h0; exact h0.trans hm
     have H9 := qh h9
     clear hm h9
     go_wp2_with fail
     exact ⟨rfl, HBAD.out _ _ HX.out H9.out⟩
 go_wp2_with fail
 refine HI2.out _ HB6.out _ (fun w7 hb7 => ?_)
 have H7 := qh (H6.out.below hb7)
 clear hb7
 cases b2
 rotate_left
 · skip
   have x := H7.out
   have q0 := x.cell 2 rfl 0 rfl
   have q1 := x.cell 2 rfl 1 rfl
   have q2 := x.cell 2 rfl 2 rfl
   have q3 := x.cell 2 rfl 3 rfl
   have q4 := x.cell 2 rfl 4 rfl
   have q5 := x.cell 2 rfl 5 rfl
   have q6 := x.cell 2 rfl 6 rfl
   have q7 := x.cell 2 rfl 7 rfl
   have q8 := x.cell 2 rfl 8 rfl
   clear x
   go_wp2_with fail
   refine HBF.out (by first | trivial | rfl) (by first | trivial | rfl) _ (H7.out.pick [0, 1]) _ (fun n s9 w9 hm h9 => ?_) (fun e w9 hm h9 => ?_)
   · have HX : Hid (Ty.bareM toks T E S st = .ok (n, s9)) := by have h0 := HE5.out; simp only [if_true, if_false, Bool.false_eq_true] at h0; exact h0.trans hm
     have H9 := qh h9
     clear hm h9
     go_wp2_with fail
     exact HOK.out _ _ _ HX.out H9.out
   · have HX : Hid (Ty.bareM toks T E S st = .error e) := by have h0 := HE5.out; simp only [if_true, if_false, Bool.false_eq_true] at h0; exact h0.trans hm
     have H9 := qh h9
     clear hm h9
     go_wp2_with fail
     exact ⟨rfl, HBAD.out _ _ HX.out H9.out⟩
 go_wp2_with fail
 refine plain_any HL.out (H7.out.pick [0, 1]) (fun n s9 w9 hm h9 => ?_) (fun e w9 hm h9 => ?_)
 · have HX : Hid (Ty.bareM toks T E S st = .ok (n, s9)) := by have h0 := HE5.out; simp only [if_true, if_false, Bool.false_eq_true] at h0; exact h0.trans hm
   have H9 := qh h9
   clear hm h9
   go_wp2_with fail
   exact HOK.out _ _ _ HX.out H9.out
 · have HX : Hid (Ty.bareM toks T E S st = .error e) := by have h0 := HE5.out; simp only [if_true, if_false, Bool.false_eq_true] at h0; exact h0.trans hm
   have H9 := qh h9
   clear hm h9
   go_wp2_with fail
   exact ⟨rfl, HBAD.out _ _ HX.out H9.out⟩
end
section
open Go Go.RowKit
open Prt (Sat As blk pur exs star stars)
section
variable {toks : List Tok.Tk} {d : Nat}
theorem expr_up {O : Ty.M Nat} (hd : d < 20) (hone : PSpec 319 toks (d + 1) O) (hA : Ty.Adv 1 0 0 O) (hN : Ty.Nx O) : PSpec 209 toks d (Ty.exprM toks O) := by
 intro w0 w Fr pb st H R hok hbad
 have HSP := qh hone
 have HOK := qh hok
 have HBAD := qh hbad
 have HS := qh H
 clear hok hbad H hone
 go_enter Tryz.func209, Tryz.ntmps209
 go_wp2_with fail
 have h1 := (HS.out.allocAt (.cells #[.pointer (some ⟨pb, 0, none⟩)] 80) w.heap.size)
 refine in_any (h1.at 1 rfl) 280 _ Tryz.call280 (Ty.exprM toks O) (fun h w1 h2 R2 hok2 hbad2 => ?_) (fun n st2 w2 _ hm h2 => ?_) (fun f w2 he _ h2 => ?_)
 · exact expr1_any HSP.out hA hN w0 w1 _ pb w.heap.size st h2 (fun w' h' => (h'.unpack (i := 0) rfl).cell 1 rfl 0 rfl) hok2 hbad2
 · have HM := qh hm
   have H2 := qh (h2.un3.pick [0, 1])
   clear hm h2 h1
   go_wp2_with fail
   exact HOK.out _ _ _ HM.out H2.out
 · have hf := he hd
   have HF := qh hf
   have H2 := qh h2.out
   clear he hf h2 h1
   go_wp2_with fail
   exact ⟨rfl, HBAD.out _ _ HF.out H2.out⟩
theorem expr_top : PSpec 209 toks 20 (Ty.fail toks 8) := by
 intro w0 w Fr pb st H R hok hbad
 have HBAD := qh hbad
 have HS := qh H
 clear hok hbad H
 go_enter Tryz.func209, Tryz.ntmps209
 go_wp2_with fail
 refine in_any (HS.out.waste _) 280 _ Tryz.call280 (Ty.fail toks 8) (fun h => absurd h (by omega)) (fun n st2 w2 h => absurd h (by omega)) (fun f w2 _ he h2 => ?_)
 have hf := he rfl
 have HF := qh hf
 have H2 := qh h2
 clear he hf h2
 go_wp2_with fail
 exact ⟨rfl, HBAD.out _ _ (by rw [HF.out]; rfl) H2.out⟩
theorem stmt_up {S : Ty.M Nat} (hd : d < 20) (hs : PSpec 131 toks (d + 1) S) : PSpec 76 toks d S := by
 intro w0 w Fr pb st H R hok hbad
 have HSP := qh hs
 have HOK := qh hok
 have HBAD := qh hbad
 have HS := qh H
 clear hok hbad H hs
 go_enter Tryz.func76, Tryz.ntmps76
 go_wp2_with fail
 refine inb_any HS.out 131 _ Tryz.call131 S (fun h w1 h2 R2 hok2 hbad2 => HSP.out _ _ _ _ _ h2 _ hok2 hbad2) (fun n st2 w2 _ hm h2 => ?_) (fun f w2 he _ h2 => ?_)
 · have HM := qh hm
   have H2 := qh h2
   clear hm h2
   go_wp2_with fail
   exact HOK.out _ _ _ HM.out H2.out
 · have hf := he hd
   have HF := qh hf
   have H2 := qh h2
   clear he hf h2
   go_wp2_with fail
   exact ⟨rfl, HBAD.out _ _ HF.out H2.out⟩
theorem stmt_top : PSpec 76 toks 20 (Ty.fail toks 8) := by
 intro w0 w Fr pb st H R hok hbad
 have HBAD := qh hbad
 have HS := qh H
 clear hok hbad H
 go_enter Tryz.func76, Tryz.ntmps76
 go_wp2_with fail
 refine inb_any HS.out 131 _ Tryz.call131 (Ty.fail toks 8) (fun h => absurd h (by omega)) (fun n st2 w2 h => absurd h (by omega)) (fun f w2 _ he h2 => ?_)
 have hf := he rfl
 have HF := qh hf
 have H2 := qh h2
 clear he hf h2
 go_wp2_with fail
 exact ⟨rfl, HBAD.out _ _ (by rw [HF.out]; rfl) H2.out⟩
theorem in_up {O : Ty.M Nat} (hd : d < 20) (ho : PSpec 319 toks (d + 1) O) : PIn toks d O := by
 intro w0 w Fr pb st H R hok hbad
 exact inb_any H 319 _ Tryz.call319 O (fun h w1 h2 R2 hok2 hbad2 => ho _ _ _ _ _ h2 _ hok2 hbad2) (fun n st2 w2 _ hm h2 => hok n st2 w2 hm h2) (fun f w2 he _ h2 => hbad f w2 (he hd) h2)
theorem in_top : PIn toks 20 (Ty.fail toks 8) := by
 intro w0 w Fr pb st H R hok hbad
 exact inb_any H 319 _ Tryz.call319 (Ty.fail toks 8) (fun h => absurd h (by omega)) (fun n st2 w2 h => absurd h (by omega)) (fun f w2 _ he h2 => hbad f w2 (by rw [he rfl]; rfl) h2)
end
theorem lev_any (toks : List Tok.Tk) (hnum : Ty.Nums toks) : ∀ r, r ≤ 20 → PSpec 209 toks (20 - r) (Ty.lv toks r).E ∧ PIn toks (20 - r) (Ty.lv toks r).O ∧ PSpec 76 toks (20 - r) (Ty.lv toks r).S
 | 0, _ => ⟨expr_top, in_top, stmt_top⟩
 | r + 1, hr => by
   obtain ⟨he, ho, hs⟩ := lev_any toks hnum r (by omega)
   obtain ⟨ae, ao, as'⟩ := Ty.lv_adv toks r
   obtain ⟨ne, no, ns⟩ := Ty.lv_nx toks r
   have L : Lo toks (20 - r) (Ty.typ toks r) (Ty.lv toks r).E (Ty.lv toks r).O (Ty.lv toks r).S := ⟨typ_any toks r (by omega), he, ho, hs, Ty.typ_adv toks r, ae, ao, as', Ty.Pre.typ toks r, ne, no, ns⟩
   have hone := pone_any L hnum
   have hbare := bare_any L
   have e : 20 - r = 20 - (r + 1) + 1 := by omega
   rw [e] at hone hbare
   obtain ⟨_, ao', _⟩ := Ty.lv_adv toks (r + 1)
   obtain ⟨_, no', _⟩ := Ty.lv_nx toks (r + 1)
   exact ⟨expr_up (by omega) hone ao' no', in_up (by omega) hone, stmt_up (by omega) hbare⟩
end
end Go.Proofs.YtdlbhiaceheffabGreatDoor
