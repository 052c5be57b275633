/- Walk of the parser's bare. -/
import Derived.Test.YtdlbhiaceheffabGreatDoorY28
set_option linter.all false
set_option maxRecDepth 100000
set_option maxHeartbeats 8000000
namespace Go.Proofs.YtdlbhiaceheffabGreatDoor
section
open Go Go.RowKit
open Prt (Sat As blk pur exs star ah)
namespace Ty
def baD (af : List Tok.Tk) (n : Nd) : M Nat := bnd (need af [59]) fun _ => addNode n
def xY (ps : Nat) (x : ByteArray) (t : Int) (a : Nat) : Nd := { ndOf 17 ps with text := x, ty := t, a := a }
def vz (ps a : Nat) : Nd := { ndOf 21 ps with a := a }
def su (ps a : Nat) : Nd := { ndOf 24 ps with a := a }
def ba4 (af : List Tok.Tk) (E : M Nat) (ps : Nat) (x : ByteArray) (t : Int) : M Nat := bnd E fun a => baD af (xY ps x t a)
def ba3 (af : List Tok.Tk) (E : M Nat) (ps : Nat) (x : ByteArray) (t : Int) : M Nat := bnd (need af [61]) fun _ => ba4 af E ps x t
def ba2 (af : List Tok.Tk) (T E : M Nat) (ps : Nat) (x : ByteArray) : M Nat := bnd (written af T) fun t => ba3 af E ps x t
def ba1 (af : List Tok.Tk) (T E : M Nat) (ps : Nat) : M Nat := bnd (name af []) fun x => ba2 af T E ps x
def baP (af : List Tok.Tk) (E : M Nat) (ps : Nat) : M Nat := bnd E fun a => baD af (vz ps a)
def baR (af : List Tok.Tk) (E : M Nat) (ps : Nat) : M Nat := bnd E fun a => baD af (su ps a)
def baC (af : List Tok.Tk) (E S : M Nat) (ps : Nat) : M Nat := look fun s2 => if is af [105, 102] s2.pos then branchM af E S true ps else if is af [119, 104, 105, 108, 101] s2.pos then branchM af E S false ps else plainM af E
section
variable {af : List Tok.Tk} {T E S : M Nat} {s s1 : St}
theorem iO : bareM af T E S s = (bnd (take af [108, 101, 116]) fun b => if b then ba1 af T E (cur af s.pos).pos else bnd (take af [112, 114, 105, 110, 116]) fun b => if b then baP af E (cur af s.pos).pos else bnd (take af [114, 101, 116, 117, 114, 110]) fun b => if b then baR af E (cur af s.pos).pos else baC af E S (cur af s.pos).pos) s := rfl
end
end Ty
theorem Aj {af : List Tok.Tk} {d : Nat} {T E O S : Ty.M Nat} (L : Lo af d T E O S) : cO 131 af d (Ty.bareM af T E S) := by
 intro w0 w Fr pb st H R hok hbad
 have HOK := qh hok
 have HBAD := qh hbad
 have HL := qh L
 have hlk := H.look
 have htl := hlk.wf.1
 have hpos := hlk.fits.1
 have hfit := hlk.fits.2.2.2
 have hwf := qh hlk.wf
 have HS := qh H
 have HN := qh (fun R hR => @dU w pb d af st hlk R hR)
 obtain ⟨ps, hps⟩ : ∃ ps, (Ty.cur af st.pos).pos = ps := ⟨_, rfl⟩
 have HE0 : Hid (Ty.bareM af T E S st = (Ty.bnd (Ty.take af [108, 101, 116]) fun b => if b then Ty.ba1 af T E ps else Ty.bnd (Ty.take af [112, 114, 105, 110, 116]) fun b => if b then Ty.baP af E ps else Ty.bnd (Ty.take af [114, 101, 116, 117, 114, 110]) fun b => if b then Ty.baR af E ps else Ty.baC af E S ps) st) := by rw [← hps]; exact Ty.iO
 generalize Ty.cur af st.pos = t at *
 obtain ⟨kd, tx, tp⟩ := t
 dsimp only at hps
 subst hps
 have hf2 := fM
 clear hok hbad H L hlk
 go_enter Tryz.func131, Tryz.ntmps131
 go_wp2_with fail
 refine HN.out _ (fun w1 hb1 => ?_)
 dsimp only [aQ]
 have H1 := qh (HS.out.below hb1)
 clear hb1
 go_wp2_with fail
 refine gp w1 0 tp (fun w2 hb2 => ?_)
 have h2 := (H1.out.below hb2).aj (.cells #[.int .i64 0, .int .i64 0, .int .i64 0, .int .i64 0, .slice none 0 0, .string ⟨#[]⟩, .int .i64 0, .int .i64 (-1), .int .i64 tp] 66) w2.heap.size
 have H2 := qh h2
 clear hb2 h2
 go_wp2_with fail
 refine take_any (H2.out.at 1 rfl) ⟨#[108, 101, 116]⟩ (fun w3 hi h3 => ?_) (fun w3 hi h3 => ?_)
 · have hE : Ty.bareM af T E S st = Ty.ba1 af T E tp { st with pos := st.pos + 1 } := HE0.out.trans ((Ty.bnd_ok hi).trans rfl)
   obtain ⟨s3, es3⟩ : ∃ s' : Ty.St, s' = { st with pos := st.pos + 1 } := ⟨_, rfl⟩
   have ps3 : s3.pos = st.pos + 1 := by rw [es3]
   have ns3 : s3.ns.length = st.ns.length := by rw [es3]
   rw [← es3] at h3 hE
   have HE3 := qh hE
   have H3 := qh h3.un3
   clear hi h3 hE es3 HE0
   go_wp2_with fail
   refine gY (H3.out.at 1 rfl) _ [] (nilRow _) (by simp) (fun x w4 hm h4 => ?_) (fun e w4 hm h4 => ?_)
   rotate_left
   · have HX : Hid (Ty.bareM af T E S st = .error e) := HE3.out.trans (Ty.bnd_err hm)
     have HZ := qh (h4.unpack (i := 0) rfl)
     clear hm h4
     go_wp2_with fail
     exact ⟨rfl, HBAD.out _ _ HX.out (HZ.out.pick [0])⟩
   have hE : Ty.bareM af T E S st = Ty.ba2 af T E tp x { s3 with pos := s3.pos + 1 } := HE3.out.trans (Ty.bnd_ok hm)
   obtain ⟨s4, es4⟩ : ∃ s' : Ty.St, s' = { s3 with pos := s3.pos + 1 } := ⟨_, rfl⟩
   have ps4 : s4.pos = s3.pos + 1 := by rw [es4]
   have ns4 : s4.ns.length = s3.ns.length := by rw [es4]
   rw [← es4] at h4 hE
   have HE4 := qh hE
   clear hE es4
   have k4 := h4.un3
   have y4_0 := k4.cell 2 rfl 0 rfl
   have y4_5 := k4.cell 2 rfl 5 rfl
   have f4 := k4.free 2 rfl
   have z4 := k4.lt 2 rfl
   have m4 := ((k4.store 2 rfl 0 (.int .i64 17)).store 2 rfl 5 (.string x))
   have H4 := qh m4
   clear hm h4 k4 m4
   go_wp2_with fail
   clear f4 y4_0 y4_5
   refine iG HL.out (H4.out.at 1 rfl) (fun t s5 w5 hm h5 => ?_) (fun e w5 hm h5 => ?_)
   rotate_left
   · have HX : Hid (Ty.bareM af T E S st = .error e) := HE4.out.trans (Ty.bnd_err hm)
     have HZ := qh (h5.unpack (i := 0) rfl)
     clear hm h5
     go_wp2_with fail
     exact ⟨rfl, HBAD.out _ _ HX.out (HZ.out.pick [0])⟩
   have had5 := Ty.written_adv HL.out.at' _ _ _ hm
   have HE5 : Hid (Ty.bareM af T E S st = Ty.ba3 af E tp x t s5) := HE4.out.trans (Ty.bnd_ok hm)
   have k5 := h5.un3
   have y5_7 := k5.cell 2 rfl 7 rfl
   have f5 := k5.free 2 rfl
   have z5 := k5.lt 2 rfl
   have m5 := (k5.store 2 rfl 7 (.int .i64 t))
   have H5 := qh m5
   clear hm h5 k5 m5
   go_wp2_with fail
   clear f5 y5_7
   refine aZ (H5.out.at 1 rfl) ⟨#[61]⟩ (fun w6 hm h6 => ?_) (fun e w6 hm h6 => ?_)
   rotate_left
   · have HX : Hid (Ty.bareM af T E S st = .error e) := HE5.out.trans (Ty.bnd_err hm)
     have HZ := qh (h6.unpack (i := 0) rfl)
     clear hm h6
     go_wp2_with fail
     exact ⟨rfl, HBAD.out _ _ HX.out (HZ.out.pick [0])⟩
   have hE : Ty.bareM af T E S st = Ty.ba4 af E tp x t { s5 with pos := s5.pos + 1 } := HE5.out.trans (Ty.bnd_ok hm)
   obtain ⟨s6, es6⟩ : ∃ s' : Ty.St, s' = { s5 with pos := s5.pos + 1 } := ⟨_, rfl⟩
   have ps6 : s6.pos = s5.pos + 1 := by rw [es6]
   have ns6 : s6.ns.length = s5.ns.length := by rw [es6]
   rw [← es6] at h6 hE
   have HE6 := qh hE
   have H6 := qh h6.un3
   clear hm h6 hE es6
   go_wp2_with fail
   refine HL.out.e _ _ _ pb _ (H6.out.at 1 rfl) _ (fun a s7 w7 hm h7 => ?_) (fun e w7 hm h7 => ?_)
   rotate_left
   · have HX : Hid (Ty.bareM af T E S st = .error e) := HE6.out.trans (Ty.bnd_err hm)
     have HZ := qh (h7.unpack (i := 0) rfl)
     clear hm h7
     go_wp2_with fail
     exact ⟨rfl, HBAD.out _ _ HX.out (HZ.out.pick [0])⟩
   have had7 := HL.out.ae _ _ _ hm
   have HE7 : Hid (Ty.bareM af T E S st = Ty.baD af (Ty.xY tp x t a) s7) := HE6.out.trans (Ty.bnd_ok hm)
   have k7 := h7.un3
   have y7_1 := k7.cell 2 rfl 1 rfl
   have f7 := k7.free 2 rfl
   have z7 := k7.lt 2 rfl
   have m7 := (k7.store 2 rfl 1 (.int .i64 (a : Nat)))
   have H7 := qh m7
   clear hm h7 k7 m7
   go_wp2_with fail
   clear f7 y7_1
   refine aZ (H7.out.at 1 rfl) ⟨#[59]⟩ (fun w8 hm h8 => ?_) (fun e w8 hm h8 => ?_)
   rotate_left
   · have HX : Hid (Ty.bareM af T E S st = .error e) := HE7.out.trans (Ty.bnd_err hm)
     have HZ := qh (h8.unpack (i := 0) rfl)
     clear hm h8
     go_wp2_with fail
     exact ⟨rfl, HBAD.out _ _ HX.out (HZ.out.pick [0])⟩
   have HX : Hid (Ty.bareM af T E S st = .ok (s7.ns.length, { s7 with pos := s7.pos + 1, ns := s7.ns ++ [Ty.xY tp x t a] })) := HE7.out.trans ((Ty.bnd_ok hm).trans rfl)
   have k8 := h8.un3
   have q0 := k8.cell 2 rfl 0 rfl
   have q1 := k8.cell 2 rfl 1 rfl
   have q2 := k8.cell 2 rfl 2 rfl
   have q3 := k8.cell 2 rfl 3 rfl
   have q4 := k8.cell 2 rfl 4 rfl
   have q5 := k8.cell 2 rfl 5 rfl
   have q6 := k8.cell 2 rfl 6 rfl
   have q7 := k8.cell 2 rfl 7 rfl
   have q8 := k8.cell 2 rfl 8 rfl
   have z8 := k8.lt 2 rfl
   have H8 := qh (k8.nil 3 1)
   clear hm h8 k8
   go_wp2_with fail
   refine aO (Ty.xY tp x t a) (.slice none 0 0) (H8.out.pick [0, 1, 3]) (by dsimp only; omega) (fun w20 h20 => ?_)
   have H20 := qh h20
   clear h20
   go_wp2_with fail
   exact HOK.out _ _ _ HX.out H20.out
 have HF0 : Hid (Ty.bareM af T E S st = (Ty.bnd (Ty.take af [112, 114, 105, 110, 116]) fun b => if b then Ty.baP af E tp else Ty.bnd (Ty.take af [114, 101, 116, 117, 114, 110]) fun b => if b then Ty.baR af E tp else Ty.baC af E S tp) st) := HE0.out.trans ((Ty.bnd_ok hi).trans rfl)
 have H3 := qh h3.un3
 clear hi h3 HE0
 go_wp2_with fail
 refine take_any (H3.out.at 1 rfl) ⟨#[112, 114, 105, 110, 116]⟩ (fun w4 hi h4 => ?_) (fun w4 hi h4 => ?_)
 · have hE : Ty.bareM af T E S st = Ty.baP af E tp { st with pos := st.pos + 1 } := HF0.out.trans ((Ty.bnd_ok hi).trans rfl)
   obtain ⟨s4, es4⟩ : ∃ s' : Ty.St, s' = { st with pos := st.pos + 1 } := ⟨_, rfl⟩
   have ps4 : s4.pos = st.pos + 1 := by rw [es4]
   have ns4 : s4.ns.length = st.ns.length := by rw [es4]
   rw [← es4] at h4 hE
   have HE4 := qh hE
   have H4 := qh h4.un3
   clear hi h4 hE es4 HF0
   go_wp2_with fail
   refine HL.out.e _ _ _ pb _ (H4.out.at 1 rfl) _ (fun a s5 w5 hm h5 => ?_) (fun e w5 hm h5 => ?_)
   rotate_left
   · have HX : Hid (Ty.bareM af T E S st = .error e) := HE4.out.trans (Ty.bnd_err hm)
     have HZ := qh (h5.unpack (i := 0) rfl)
     clear hm h5
     go_wp2_with fail
     exact ⟨rfl, HBAD.out _ _ HX.out (HZ.out.pick [0])⟩
   have had5 := HL.out.ae _ _ _ hm
   have HE5 : Hid (Ty.bareM af T E S st = Ty.baD af (Ty.vz tp a) s5) := HE4.out.trans (Ty.bnd_ok hm)
   have k5 := h5.un3
   have y5_0 := k5.cell 2 rfl 0 rfl
   have y5_1 := k5.cell 2 rfl 1 rfl
   have f5 := k5.free 2 rfl
   have z5 := k5.lt 2 rfl
   have m5 := ((k5.store 2 rfl 0 (.int .i64 21)).store 2 rfl 1 (.int .i64 (a : Nat)))
   have H5 := qh m5
   clear hm h5 k5 m5
   go_wp2_with fail
   clear f5 y5_0 y5_1
   refine aZ (H5.out.at 1 rfl) ⟨#[59]⟩ (fun w6 hm h6 => ?_) (fun e w6 hm h6 => ?_)
   rotate_left
   · have HX : Hid (Ty.bareM af T E S st = .error e) := HE5.out.trans (Ty.bnd_err hm)
     have HZ := qh (h6.unpack (i := 0) rfl)
     clear hm h6
     go_wp2_with fail
     exact ⟨rfl, HBAD.out _ _ HX.out (HZ.out.pick [0])⟩
   have HX : Hid (Ty.bareM af T E S st = .ok (s5.ns.length, { s5 with pos := s5.pos + 1, ns := s5.ns ++ [Ty.vz tp a] })) := HE5.out.trans ((Ty.bnd_ok hm).trans rfl)
   have k6 := h6.un3
   have q0 := k6.cell 2 rfl 0 rfl
   have q1 := k6.cell 2 rfl 1 rfl
   have q2 := k6.cell 2 rfl 2 rfl
   have q3 := k6.cell 2 rfl 3 rfl
   have q4 := k6.cell 2 rfl 4 rfl
   have q5 := k6.cell 2 rfl 5 rfl
   have q6 := k6.cell 2 rfl 6 rfl
   have q7 := k6.cell 2 rfl 7 rfl
   have q8 := k6.cell 2 rfl 8 rfl
   have z6 := k6.lt 2 rfl
   have H6 := qh (k6.nil 3 1)
   clear hm h6 k6
   go_wp2_with fail
   refine aO (Ty.vz tp a) (.slice none 0 0) (H6.out.pick [0, 1, 3]) (by dsimp only; omega) (fun w20 h20 => ?_)
   have H20 := qh h20
   clear h20
   go_wp2_with fail
   exact HOK.out _ _ _ HX.out H20.out
 have HG0 : Hid (Ty.bareM af T E S st = (Ty.bnd (Ty.take af [114, 101, 116, 117, 114, 110]) fun b => if b then Ty.baR af E tp else Ty.baC af E S tp) st) := HF0.out.trans ((Ty.bnd_ok hi).trans rfl)
 have H4 := qh h4.un3
 clear hi h4 HF0
 go_wp2_with fail
 refine take_any (H4.out.at 1 rfl) ⟨#[114, 101, 116, 117, 114, 110]⟩ (fun w5 hi h5 => ?_) (fun w5 hi h5 => ?_)
 · have hE : Ty.bareM af T E S st = Ty.baR af E tp { st with pos := st.pos + 1 } := HG0.out.trans ((Ty.bnd_ok hi).trans rfl)
   obtain ⟨s5, es5⟩ : ∃ s' : Ty.St, s' = { st with pos := st.pos + 1 } := ⟨_, rfl⟩
   have ps5 : s5.pos = st.pos + 1 := by rw [es5]
   have ns5 : s5.ns.length = st.ns.length := by rw [es5]
   rw [← es5] at h5 hE
   have HE5 := qh hE
   have H5 := qh h5.un3
   clear hi h5 hE es5 HG0
   go_wp2_with fail
   refine HL.out.e _ _ _ pb _ (H5.out.at 1 rfl) _ (fun a s6 w6 hm h6 => ?_) (fun e w6 hm h6 => ?_)
   rotate_left
   · have HX : Hid (Ty.bareM af T E S st = .error e) := HE5.out.trans (Ty.bnd_err hm)
     have HZ := qh (h6.unpack (i := 0) rfl)
     clear hm h6
     go_wp2_with fail
     exact ⟨rfl, HBAD.out _ _ HX.out (HZ.out.pick [0])⟩
   have had6 := HL.out.ae _ _ _ hm
   have HE6 : Hid (Ty.bareM af T E S st = Ty.baD af (Ty.su tp a) s6) := HE5.out.trans (Ty.bnd_ok hm)
   have k6 := h6.un3
   have y6_0 := k6.cell 2 rfl 0 rfl
   have y6_1 := k6.cell 2 rfl 1 rfl
   have f6 := k6.free 2 rfl
   have z6 := k6.lt 2 rfl
   have m6 := ((k6.store 2 rfl 0 (.int .i64 24)).store 2 rfl 1 (.int .i64 (a : Nat)))
   have H6 := qh m6
   clear hm h6 k6 m6
   go_wp2_with fail
   clear f6 y6_0 y6_1
   refine aZ (H6.out.at 1 rfl) ⟨#[59]⟩ (fun w7 hm h7 => ?_) (fun e w7 hm h7 => ?_)
   rotate_left
   · have HX : Hid (Ty.bareM af T E S st = .error e) := HE6.out.trans (Ty.bnd_err hm)
     have HZ := qh (h7.unpack (i := 0) rfl)
     clear hm h7
     go_wp2_with fail
     exact ⟨rfl, HBAD.out _ _ HX.out (HZ.out.pick [0])⟩
   have HX : Hid (Ty.bareM af T E S st = .ok (s6.ns.length, { s6 with pos := s6.pos + 1, ns := s6.ns ++ [Ty.su tp a] })) := HE6.out.trans ((Ty.bnd_ok hm).trans rfl)
   have k7 := h7.un3
   have q0 := k7.cell 2 rfl 0 rfl
   have q1 := k7.cell 2 rfl 1 rfl
   have q2 := k7.cell 2 rfl 2 rfl
   have q3 := k7.cell 2 rfl 3 rfl
   have q4 := k7.cell 2 rfl 4 rfl
   have q5 := k7.cell 2 rfl 5 rfl
   have q6 := k7.cell 2 rfl 6 rfl
   have q7 := k7.cell 2 rfl 7 rfl
   have q8 := k7.cell 2 rfl 8 rfl
   have z7 := k7.lt 2 rfl
   have H7 := qh (k7.nil 3 1)
   clear hm h7 k7
   go_wp2_with fail
   refine aO (Ty.su tp a) (.slice none 0 0) (H7.out.pick [0, 1, 3]) (by dsimp only; omega) (fun w20 h20 => ?_)
   have H20 := qh h20
   clear h20
   go_wp2_with fail
   exact HOK.out _ _ _ HX.out H20.out
 have hE : Ty.bareM af T E S st = if Ty.is af (⟨#[105, 102]⟩ : ByteArray).data.toList st.pos then Ty.branchM af E S true tp st else if Ty.is af (⟨#[119, 104, 105, 108, 101]⟩ : ByteArray).data.toList st.pos then Ty.branchM af E S false tp st else Ty.plainM af E st := by
   refine HG0.out.trans ((Ty.bnd_ok hi).trans ?_)
   show (if Ty.is af [105, 102] st.pos = true then Ty.branchM af E S true tp else if Ty.is af [119, 104, 105, 108, 101] st.pos = true then Ty.branchM af E S false tp else Ty.plainM af E : Ty.M Nat) st = _
   show _ = if Ty.is af [105, 102] st.pos = true then _ else if Ty.is af [119, 104, 105, 108, 101] st.pos = true then _ else _
   by_cases h1 : Ty.is af [105, 102] st.pos = true
   · rw [if_pos h1, if_pos h1]
   · rw [if_neg h1, if_neg h1]
     by_cases h2 : Ty.is af [119, 104, 105, 108, 101] st.pos = true
     · rw [if_pos h2, if_pos h2]
     · rw [if_neg h2, if_neg h2]
 have k5 := h5.un3
 have hlt1 : Ty.is af (⟨#[105, 102]⟩ : ByteArray).data.toList st.pos = true → st.pos + 1 < af.length := is_lt hpos hwf.out
 have hlt2 : Ty.is af (⟨#[119, 104, 105, 108, 101]⟩ : ByteArray).data.toList st.pos = true → st.pos + 1 < af.length := is_lt hpos hwf.out
 have HI1 := qh (fun R hR => iF w5 pb d af st (k5.pick [0, 1]).look ⟨#[105, 102]⟩ (R := R) hR)
 have HI2 := qh (fun w6 (hb : Below w5.heap.size w5 w6) R hR => iF w6 pb d af st ((k5.pick [0, 1]).look.below hb) ⟨#[119, 104, 105, 108, 101]⟩ (R := R) hR)
 have HBT := qh (fun (hi : Ty.is af (⟨#[105, 102]⟩ : ByteArray).data.toList st.pos = true) w6 (h : Sat w0 w6 [Fr, aC pb d af st]) R hok hbad => qx HL.out h tp hi (hlt1 hi) (R := R) hok hbad)
 have HBF := qh (fun (hi : Ty.is af (⟨#[105, 102]⟩ : ByteArray).data.toList st.pos = false) (hi2 : Ty.is af (⟨#[119, 104, 105, 108, 101]⟩ : ByteArray).data.toList st.pos = true) w6 (h : Sat w0 w6 [Fr, aC pb d af st]) R hok hbad => nU HL.out h tp hi (hlt2 hi2) (R := R) hok hbad)
 have HE5 := qh hE
 have H5 := qh k5
 clear hi h5 k5 HG0 hE hlt1 hlt2
 generalize Ty.is af (⟨#[105, 102]⟩ : ByteArray).data.toList st.pos = b1 at *
 generalize Ty.is af (⟨#[119, 104, 105, 108, 101]⟩ : ByteArray).data.toList st.pos = b2 at *
 go_wp2_with fail
 refine HI1.out _ (fun w6 hb6 => ?_)
 have H6 := qh (H5.out.below hb6)
 have HB6 := qh hb6
 clear hb6
 cases b1
 rotate_left
 · skip
   have x := H6.out
   have q0 := x.cell 2 rfl 0 rfl
   have q1 := x.cell 2 rfl 1 rfl
   have q2 := x.cell 2 rfl 2 rfl
   have q3 := x.cell 2 rfl 3 rfl
   have q4 := x.cell 2 rfl 4 rfl
   have q5 := x.cell 2 rfl 5 rfl
   have q6 := x.cell 2 rfl 6 rfl
   have q7 := x.cell 2 rfl 7 rfl
   have q8 := x.cell 2 rfl 8 rfl
   clear x
   go_wp2_with fail
   refine HBT.out (by first | trivial | rfl) _ (H6.out.pick [0, 1]) _ (fun n s9 w9 hm h9 => ?_) (fun e w9 hm h9 => ?_)
   · have HX : Hid (Ty.bareM af T E S st = .ok (n, s9)) := by have h0 := HE5.out; simp only [if_true, if_false, Bool.false_eq_true] at h0; exact h0.trans hm
     have H9 := qh h9
     clear hm h9
     go_wp2_with fail
     exact HOK.out _ _ _ HX.out H9.out
   · have HX : Hid (Ty.bareM af T E S st = .error e) := by have h0 := HE5.out; simp only [if_true, if_false, Bool.false_eq_true] at h0; exact h0.trans hm
     have H9 := qh h9
     clear hm h9
     go_wp2_with fail
     exact ⟨rfl, HBAD.out _ _ HX.out H9.out⟩
 go_wp2_with fail
 refine HI2.out _ HB6.out _ (fun w7 hb7 => ?_)
 have H7 := qh (H6.out.below hb7)
 clear hb7
 cases b2
 rotate_left
 · skip
   have x := H7.out
   have q0 := x.cell 2 rfl 0 rfl
   have q1 := x.cell 2 rfl 1 rfl
   have q2 := x.cell 2 rfl 2 rfl
   have q3 := x.cell 2 rfl 3 rfl
   have q4 := x.cell 2 rfl 4 rfl
   have q5 := x.cell 2 rfl 5 rfl
   have q6 := x.cell 2 rfl 6 rfl
   have q7 := x.cell 2 rfl 7 rfl
   have q8 := x.cell 2 rfl 8 rfl
   clear x
   go_wp2_with fail
   refine HBF.out (by first | trivial | rfl) (by first | trivial | rfl) _ (H7.out.pick [0, 1]) _ (fun n s9 w9 hm h9 => ?_) (fun e w9 hm h9 => ?_)
   · have HX : Hid (Ty.bareM af T E S st = .ok (n, s9)) := by have h0 := HE5.out; simp only [if_true, if_false, Bool.false_eq_true] at h0; exact h0.trans hm
     have H9 := qh h9
     clear hm h9
     go_wp2_with fail
     exact HOK.out _ _ _ HX.out H9.out
   · have HX : Hid (Ty.bareM af T E S st = .error e) := by have h0 := HE5.out; simp only [if_true, if_false, Bool.false_eq_true] at h0; exact h0.trans hm
     have H9 := qh h9
     clear hm h9
     go_wp2_with fail
     exact ⟨rfl, HBAD.out _ _ HX.out H9.out⟩
 go_wp2_with fail
 refine yD HL.out (H7.out.pick [0, 1]) (fun n s9 w9 hm h9 => ?_) (fun e w9 hm h9 => ?_)
 · have HX : Hid (Ty.bareM af T E S st = .ok (n, s9)) := by have h0 := HE5.out; simp only [if_true, if_false, Bool.false_eq_true] at h0; exact h0.trans hm
   have H9 := qh h9
   clear hm h9
   go_wp2_with fail
   exact HOK.out _ _ _ HX.out H9.out
 · have HX : Hid (Ty.bareM af T E S st = .error e) := by have h0 := HE5.out; simp only [if_true, if_false, Bool.false_eq_true] at h0; exact h0.trans hm
   have H9 := qh h9
   clear hm h9
   go_wp2_with fail
   exact ⟨rfl, HBAD.out _ _ HX.out H9.out⟩
section
variable {af : List Tok.Tk} {d : Nat}
theorem Cj {O : Ty.M Nat} (hd : d < 20) (hone : cO 319 af (d + 1) O) (hA : Ty.Adv 1 0 0 O) (hN : Ty.Nx O) : cO 209 af d (Ty.exprM af O) := by
 intro w0 w Fr pb st H R hok hbad
 have HSP := qh hone
 have HOK := qh hok
 have HBAD := qh hbad
 have HS := qh H
 clear hok hbad H hone
 go_enter Tryz.func209, Tryz.ntmps209
 go_wp2_with fail
 have h1 := (HS.out.aj (.cells #[.pointer (some ⟨pb, 0, none⟩)] 80) w.heap.size)
 refine oh (h1.at 1 rfl) 280 _ Tryz.call280 (Ty.exprM af O) (fun h w1 h2 R2 hok2 hbad2 => ?_) (fun n st2 w2 _ hm h2 => ?_) (fun f w2 he _ h2 => ?_)
 · exact xB HSP.out hA hN w0 w1 _ pb w.heap.size st h2 (fun w' h' => (h'.unpack (i := 0) rfl).cell 1 rfl 0 rfl) hok2 hbad2
 · have HM := qh hm
   have H2 := qh (h2.un3.pick [0, 1])
   clear hm h2 h1
   go_wp2_with fail
   exact HOK.out _ _ _ HM.out H2.out
 · have hf := he hd
   have HF := qh hf
   have H2 := qh h2.out
   clear he hf h2 h1
   go_wp2_with fail
   exact ⟨rfl, HBAD.out _ _ HF.out H2.out⟩
theorem zB : cO 209 af 20 (Ty.fail af 8) := by
 intro w0 w Fr pb st H R hok hbad
 have HBAD := qh hbad
 have HS := qh H
 clear hok hbad H
 go_enter Tryz.func209, Tryz.ntmps209
 go_wp2_with fail
 refine oh (HS.out.ay _) 280 _ Tryz.call280 (Ty.fail af 8) (fun h => absurd h (by omega)) (fun n st2 w2 h => absurd h (by omega)) (fun f w2 _ he h2 => ?_)
 have hf := he rfl
 have HF := qh hf
 have H2 := qh h2
 clear he hf h2
 go_wp2_with fail
 exact ⟨rfl, HBAD.out _ _ (by rw [HF.out]; rfl) H2.out⟩
theorem Cc {S : Ty.M Nat} (hd : d < 20) (hs : cO 131 af (d + 1) S) : cO 76 af d S := by
 intro w0 w Fr pb st H R hok hbad
 have HSP := qh hs
 have HOK := qh hok
 have HBAD := qh hbad
 have HS := qh H
 clear hok hbad H hs
 go_enter Tryz.func76, Tryz.ntmps76
 go_wp2_with fail
 refine kN HS.out 131 _ Tryz.call131 S (fun h w1 h2 R2 hok2 hbad2 => HSP.out _ _ _ _ _ h2 _ hok2 hbad2) (fun n st2 w2 _ hm h2 => ?_) (fun f w2 he _ h2 => ?_)
 · have HM := qh hm
   have H2 := qh h2
   clear hm h2
   go_wp2_with fail
   exact HOK.out _ _ _ HM.out H2.out
 · have hf := he hd
   have HF := qh hf
   have H2 := qh h2
   clear he hf h2
   go_wp2_with fail
   exact ⟨rfl, HBAD.out _ _ HF.out H2.out⟩
theorem Ag : cO 76 af 20 (Ty.fail af 8) := by
 intro w0 w Fr pb st H R hok hbad
 have HBAD := qh hbad
 have HS := qh H
 clear hok hbad H
 go_enter Tryz.func76, Tryz.ntmps76
 go_wp2_with fail
 refine kN HS.out 131 _ Tryz.call131 (Ty.fail af 8) (fun h => absurd h (by omega)) (fun n st2 w2 h => absurd h (by omega)) (fun f w2 _ he h2 => ?_)
 have hf := he rfl
 have HF := qh hf
 have H2 := qh h2
 clear he hf h2
 go_wp2_with fail
 exact ⟨rfl, HBAD.out _ _ (by rw [HF.out]; rfl) H2.out⟩
theorem En {O : Ty.M Nat} (hd : d < 20) (ho : cO 319 af (d + 1) O) : PIn af d O := by
 intro w0 w Fr pb st H R hok hbad
 exact kN H 319 _ Tryz.call319 O (fun h w1 h2 R2 hok2 hbad2 => ho _ _ _ _ _ h2 _ hok2 hbad2) (fun n st2 w2 _ hm h2 => hok n st2 w2 hm h2) (fun f w2 he _ h2 => hbad f w2 (he hd) h2)
theorem Dp : PIn af 20 (Ty.fail af 8) := by
 intro w0 w Fr pb st H R hok hbad
 exact kN H 319 _ Tryz.call319 (Ty.fail af 8) (fun h => absurd h (by omega)) (fun n st2 w2 h => absurd h (by omega)) (fun f w2 _ he h2 => hbad f w2 (by rw [he rfl]; rfl) h2)
end
theorem vS (af : List Tok.Tk) (hnum : Ty.Nums af) : ∀ r, r ≤ 20 → cO 209 af (20 - r) (Ty.lv af r).E ∧ PIn af (20 - r) (Ty.lv af r).O ∧ cO 76 af (20 - r) (Ty.lv af r).S
 | 0, _ => ⟨zB, Dp, Ag⟩
 | r + 1, hr => by
   obtain ⟨he, ho, hs⟩ := vS af hnum r (by omega)
   obtain ⟨ae, ao, as'⟩ := Ty.lv_adv af r
   obtain ⟨ne, no, ns⟩ := Ty.lv_nx af r
   have L : Lo af (20 - r) (Ty.typ af r) (Ty.lv af r).E (Ty.lv af r).O (Ty.lv af r).S := ⟨CS af r (by omega), he, ho, hs, Ty.typ_adv af r, ae, ao, as', Ty.Pre.typ af r, ne, no, ns⟩
   have hone := AL L hnum
   have hbare := Aj L
   have e : 20 - r = 20 - (r + 1) + 1 := by omega
   rw [e] at hone hbare
   obtain ⟨_, ao', _⟩ := Ty.lv_adv af (r + 1)
   obtain ⟨_, no', _⟩ := Ty.lv_nx af (r + 1)
   exact ⟨Cj (by omega) hone ao' no', En (by omega) hone, Cc (by omega) hbare⟩
theorem Eh {w0 w : World} {Fr : As} {pb d : Nat} {af : List Tok.Tk} {st : Ty.St} (H : Sat w0 w [Fr, aC pb d af st]) {R : Ending → World → Prop}
   (hR : ∀ w', Below w.heap.size w w' → R (.returned (aP (if st.ts.length > 300 then (2, 0) else (0, 0)))) w') :
   Calls Tryz.prog 78 #[.pointer (some ⟨pb, 0, none⟩)] w R := by
 have HR := qh hR
 have hlk := H.look
 obtain ⟨⟨lv, nv, tv, main⟩, h⟩ := H.jd
 have hn : st.ns.length ≤ 1002 := by have := hlk.fits; have := hlk.wf.1; omega
 have ht : st.ts.length ≤ 1002 := by have := hlk.fits; have := hlk.wf.1; omega
 obtain ⟨rows, h⟩ := h.ex (i := 4) rfl
 have h := h.unpack (i := 4) rfl
 obtain ⟨rows2, h⟩ := h.ex (i := 4) rfl
 have h := h.unpack (i := 4) rfl
 obtain ⟨a3, c3, e3⟩ := ag (h.row 5 rfl)
 obtain ⟨a4, c4, e4⟩ := ag (h.row 8 rfl)
 dsimp only at e3 e4
 subst e3 e4
 have k3 := h.cell 2 rfl 3 rfl
 have k4 := h.cell 2 rfl 4 rfl
 have hlt := h.lt 2 rfl
 have k1 : decide ((1200 : Int) < st.ns.length) = false := by simp; omega
 by_cases h3 : 300 < st.ts.length
 · have k2 : decide ((300 : Int) < st.ts.length) = true := by simp; omega
   rw [if_pos h3] at HR
   clear hR H h hlk h3
   go_enter Tryz.func78, Tryz.ntmps78
   go_wp2_with fail
   refine bodyPost_ret ?_ rfl (HR.out _ ?_)
   · simp [results, Tryz.results78, go_sem, aP]
   · exact (Below.refl _ _).alloc (Nat.le_refl _) _
 · have k2 : decide ((300 : Int) < st.ts.length) = false := by simp; omega
   rw [if_neg h3] at HR
   clear hR H h hlk h3
   go_enter Tryz.func78, Tryz.ntmps78
   go_wp2_with fail
   refine bodyPost_ret ?_ rfl (HR.out _ ?_)
   · simp [results, Tryz.results78, go_sem, aP]
   · exact (Below.refl _ _).alloc (Nat.le_refl _) _
theorem EL (p : Nat) (f : Ty.Ft) (x y : Value) (w : World) (hx : w.heap[p]? = some (.cells #[x, y] 25 (0, 0))) :
   CallsD Tryz.prog 73 #[.pointer (some ⟨p, 0, none⟩)] (.panicking (aI f)) w fun e u' w' =>
     e = .returned (.tuple #[]) ∧ u' = .panicking [{ v := .iface 25 (aP f), recovered := true }] ∧ w' = (w.setCell ⟨p, 0, none⟩ (.int .i64 f.1)).setCell ⟨p, 1, none⟩ (.int .i64 f.2) := by
 have c0 : w.cell? ⟨p, 0, none⟩ = some x := by rw [cell_of_block hx]; rfl
 have c1 : w.cell? ⟨p, 1, none⟩ = some y := by rw [cell_of_block hx]; rfl
 have hf : ∀ o, w.frozen? ⟨p, o, none⟩ = false := fun o => aN hx o
 refine callsD_of_wpS Tryz.func73 rfl fun c₀ cs hu => ?_
 unfold aI at hu
 apply wpS_seq
 apply wpS_region
 simp [wpOpsS, go_sem, recoverD, hu, Tryz.ntmps73, Exit.thenS]
 apply wpS_seq
 apply wpS_region
 simp [wpOpsS, go_sem, Exit.thenS]
 refine wpS_cond (t := true) (by simp [Act.eval, Array.replicate]) ?_
 simp only [if_true]
 apply wpS_region
 simp [wpOpsS, go_sem, c0, c1, hf, bodyPostS, results, Tryz.results73, aP, rq]
theorem Dh (p : Nat) (w : World) :
   CallsD Tryz.prog 73 #[.pointer (some ⟨p, 0, none⟩)] .returning w fun e u' w' => e = .returned (.tuple #[]) ∧ u' = .returning ∧ w' = w := by
 refine callsD_of_wpS Tryz.func73 rfl fun c₀ cs hu => ?_
 apply wpS_seq
 apply wpS_region
 simp [wpOpsS, go_sem, recoverD, hu, Tryz.ntmps73, Exit.thenS]
 apply wpS_seq
 apply wpS_region
 simp [wpOpsS, go_sem, Exit.thenS]
 refine wpS_cond (t := false) (by simp [Act.eval, Array.replicate]) ?_
 simp only [Bool.false_eq_true, if_false]
 refine wpS_of_wp (wp_skip ?_)
 cases c₀
 simp_all [bodyPostS, results, Tryz.results73]
namespace Ty
def pgT (af : List Tok.Tk) (f : Nat) (l : List Nat) : M Nat := bnd (progLoop af (lv af 20).S f l) fun l => addNode { ndOf 26 0 with list := l }
theorem vK {af : List Tok.Tk} {f : Nat} {l : List Nat} {s : St} (h : (cur af s.pos).kind = 6) : pgT af (f + 1) l s = .ok (s.ns.length, { s with ns := s.ns ++ [{ ndOf 26 0 with list := l }] }) := by
 unfold pgT
 have e : progLoop af (lv af 20).S (f + 1) l s = .ok (l, s) := by
   show (if (cur af s.pos).kind = 6 then ret l else _ : M (List Nat)) s = _
   rw [if_pos h]; rfl
 rw [bnd_ok e]; rfl
theorem vP {af : List Tok.Tk} {f : Nat} {l : List Nat} {s : St} {e : Ft} (h : (cur af s.pos).kind ≠ 6) (hs : (lv af 20).S s = .error e) : pgT af (f + 1) l s = .error e := by
 unfold pgT
 have e : progLoop af (lv af 20).S (f + 1) l s = .error e := by
   show (if (cur af s.pos).kind = 6 then ret l else bnd (lv af 20).S fun n => progLoop af (lv af 20).S f (l ++ [n]) : M (List Nat)) s = _
   rw [if_neg h, bnd_err hs]
 rw [bnd_err e]
theorem Aa {af : List Tok.Tk} {f : Nat} {l : List Nat} {s s1 : St} {n : Nat} (h : (cur af s.pos).kind ≠ 6) (hs : (lv af 20).S s = .ok (n, s1)) : pgT af (f + 1) l s = pgT af f (l ++ [n]) s1 := by
 unfold pgT
 have e : progLoop af (lv af 20).S (f + 1) l s = progLoop af (lv af 20).S f (l ++ [n]) s1 := by
   show (if (cur af s.pos).kind = 6 then ret l else bnd (lv af 20).S fun n => progLoop af (lv af 20).S f (l ++ [n]) : M (List Nat)) s = _
   rw [if_neg h, bnd_ok hs]
 unfold bnd
 rw [e]
end Ty
def iy (af : List Tok.Tk) (st : Ty.St) : Except Ty.Ft (Nat × Ty.St) :=
 match Ty.progM af st with
 | .error f => .error f
 | .ok (n, s) => if s.ts.length > 300 then .error (2, 0) else .ok (n, s)
theorem xP {af : List Tok.Tk} {st : Ty.St} {f : Ty.Ft} (h : Ty.progM af st = .error f) : iy af st = .error f := by unfold iy; rw [h]
theorem zi {af : List Tok.Tk} {st s : Ty.St} {n : Nat} (h : Ty.progM af st = .ok (n, s)) : iy af st = if s.ts.length > 300 then .error (2, 0) else .ok (n, s) := by unfold iy; rw [h]
theorem ql {w0 w : World} {Fr : As} {pb : Nat} {af : List Tok.Tk} {st : Ty.St} (hnum : Ty.Nums af) (H : Sat w0 w [Fr, aC pb 0 af st]) (hns : st.ns.length ≤ st.pos) {R : Ending → World → Prop}
   (hok : ∀ n s p w', iy af st = .ok (n, s) → p.2.2.2 = (n : Int) → Sat w0 w' (Fr :: ni pb 0 af s p) → R (.returned (aP (0, 0))) w')
   (hbad : ∀ f w', iy af st = .error f → Sat w0 w' [Fr] → R (.returned (aP f)) w') :
   Calls Tryz.prog 40 #[.pointer (some ⟨pb, 0, none⟩)] w R := by
 have HOK := qh hok
 have HBAD := qh hbad
 have HS := qh H
 have hlk := H.look
 have htl := hlk.wf.1
 have hpos := hlk.fits.1
 have hST : Hid (cO 76 af 0 (Ty.lv af 20).S) := (vS af hnum 20 (by omega)).2.2
 have hAS := qh (Ty.lv_adv af 20).2.2
 obtain ⟨i0, ti, tz0, tz1, tz2⟩ := info_parts bY
 have hmf : ∀ (fn : Fn) (first cap : Array Value) (w : World), (Instr.makeFunc fn first cap).run Tryz.prog w = .ok (.func fn first cap) w := fun _ _ _ _ => rfl
 have hf0 := jP
 have HE0 : Hid (∀ r, Ty.pgT af (af.length + 1) [] st = r → Ty.progM af st = r) := fun r h => h
 clear hok hbad H hlk hnum
 go_enter_defers Tryz.func40, Tryz.ntmps40
 go_wp2_with fail
 have h1 := HS.out.aj (.cells #[.int .i64 0, .int .i64 0] 25) w.heap.size
 refine gp _ 26 0 (fun w2 hb2 => ?_)
 have h2 := ((h1.below hb2).aj (.cells #[.int .i64 26, .int .i64 0, .int .i64 0, .int .i64 0, .slice none 0 0, .string ⟨#[]⟩, .int .i64 0, .int .i64 (-1), .int .i64 0] 66) w2.heap.size).nil 3 1
 have h2 : Sat w0 _ [Fr, aC pb 0 af st, blk w.heap.size (.cells #[.int .i64 0, .int .i64 0] 25 (0, 0)), blk w2.heap.size (nlC 26 0 0 (.slice none 0 0)), inA (.slice none 0 0) []] := h2
 have H2 := qh h2
 clear hb2 h1 h2
 go_wp2_with fail
 go_loopw [6] (fun _ wr => ∃ (f : Nat) (l : List Nat) (s : Ty.St) (v : Value), s.pos < af.length ∧ af.length < s.pos + f ∧ l.length ≤ s.pos ∧ s.ns.length ≤ s.pos ∧ Hid (Sat w0 wr [Fr, aC pb 0 af s, blk w.heap.size (.cells #[.int .i64 0, .int .i64 0] 25 (0, 0)), blk w2.heap.size (nlC 26 0 0 v), inA v l]) ∧ Hid (∀ r, Ty.pgT af f l s = r → Ty.progM af st = r))
   (fun _ wr => af.length - posOf pb wr)
 case atStart => exact ⟨af.length + 1, [], st, .slice none 0 0, hpos, by omega, by simp, hns, H2.out, HE0.out⟩
 case round =>
   obtain ⟨f, l, s, v, hp, hf, hll, hnn, hS, hE⟩ := hrel
   obtain ⟨f, rfl⟩ : ∃ g, f = g + 1 := ⟨f - 1, by omega⟩
   obtain ⟨a, cap0, rfl⟩ := ag (hS.out.row 4 rfl)
   have HPO := qh (bD (hS.out.pick [0, 1]).look)
   have HN := qh (fun R hR => @dU wr pb 0 af s (hS.out.pick [0, 1]).look R hR)
   by_cases hk : (Ty.cur af s.pos).kind = 6
   · have HE1 : Hid (iy af st = if s.ts.length > 300 then .error (2, 0) else .ok (s.ns.length, { s with ns := s.ns ++ [{ Ty.ndOf 26 0 with list := l }] })) := zi (hE.out _ (Ty.vK hk))
     generalize Ty.cur af s.pos = t at *
     obtain ⟨kd, tx, tp⟩ := t
     obtain rfl : kd = 6 := hk
     clear hE HPO
     go_wp2_with fail
     refine HN.out _ (fun w4 hb4 => ?_)
     dsimp only [aQ]
     have h4 := hS.out.below hb4
     have q0 := h4.cell 3 rfl 0 rfl
     have q1 := h4.cell 3 rfl 1 rfl
     have q2 := h4.cell 3 rfl 2 rfl
     have q3 := h4.cell 3 rfl 3 rfl
     have q4 := h4.cell 3 rfl 4 rfl
     have q5 := h4.cell 3 rfl 5 rfl
     have q6 := h4.cell 3 rfl 6 rfl
     have q7 := h4.cell 3 rfl 7 rfl
     have q8 := h4.cell 3 rfl 8 rfl
     have z4 := h4.lt 3 rfl
     have H4 := qh h4
     clear hb4 h4
     go_wp2_with fail
     refine aO { Ty.ndOf 26 0 with list := l } (.slice a l.length cap0) ((Prt.Sat.pack (L := [_, _]) (M := [_, _, _]) (H4.out.pick [1, 4, 0, 2, 3])).pick [2, 0, 1]) hnn (fun w5 h5 => ?_)
     obtain ⟨s5, hs5⟩ : ∃ s' : Ty.St, s' = { s with ns := s.ns ++ [{ Ty.ndOf 26 0 with list := l }] } := ⟨_, rfl⟩
     have t5 : s5.ts = s.ts := by rw [hs5]
     rw [← hs5] at HE1 h5
     rw [← t5] at HE1
     obtain ⟨⟨lv, nv, tv, main⟩, h6⟩ := h5.jd
     have y5 := h6.cell 2 rfl 5 rfl
     have f5 := h6.free 2 rfl
     have z5 := h6.lt 2 rfl
     have h7 := (h6.store 2 rfl 5 (.int .i64 (s.ns.length : Nat)))
     have h7 : Sat w0 _ (ah [Fr, blk w.heap.size (.cells #[.int .i64 0, .int .i64 0] 25 (0, 0)), blk w2.heap.size (nlC 26 0 0 (.slice a l.length cap0))] :: ni pb 0 af s5 (lv, nv, tv, (s.ns.length : Int))) := h7
     have H7 := qh h7
     clear h5 h6 h7 hs5 q0 q1 q2 q3 q4 q5 q6 q7 q8
     dsimp only at y5
     go_wp2_with fail
     clear y5 f5
     refine Eh (Prt.Sat.iw H7.out) (fun w8 hb8 => ?_)
     have h8 := ((H7.out.below hb8).unpack (i := 0) rfl).pick [5, 6, 0, 1, 2, 3, 4]
     have h8 : Sat w0 w8 (Fr :: blk w.heap.size (.cells #[.int .i64 0, .int .i64 0] 25 (0, 0)) :: ni pb 0 af s5 (lv, nv, tv, (s.ns.length : Int))) := h8
     have h9 := h8.heap 1 rfl
     have hz8 := h8.lt 1 rfl
     have c0 : w8.cell? ⟨w.heap.size, 0, none⟩ = some (.int .i64 0) := by rw [cell_of_block h9]; rfl
     have c1 : w8.cell? ⟨w.heap.size, 1, none⟩ = some (.int .i64 0) := by rw [cell_of_block h9]; rfl
     have f0 : ∀ o, w8.frozen? ⟨w.heap.size, o, none⟩ = false := fun o => aN h9 o
     have H8 := qh h8
     clear h8 h9 hb8
     by_cases hts : s5.ts.length > 300
     · rw [if_pos hts] at HE1
       simp only [if_pos hts, aP]
       clear hts
       go_wp2_with fail
       refine leaves_cons (f := 73) (args := #[.pointer (some ⟨w.heap.size, 0, none⟩)]) (by simp) (by simp [go_sem]) ?_
       refine (Dh w.heap.size _).mono ?_
       rintro e u' w'' ⟨rfl, rfl, rfl⟩
       have hp := (H8.out.store 1 rfl 0 (.int .i64 2)).store 1 rfl 1 (.int .i64 0)
       simp [Leaves, settle, results, Tryz.results40, go_sem, c0, c1]
       exact HBAD.out (2, 0) _ HE1.out (hp.pick [0])
     · rw [if_neg hts] at HE1
       simp only [if_neg hts, aP]
       clear hts
       go_wp2_with fail
       refine leaves_cons (f := 73) (args := #[.pointer (some ⟨w.heap.size, 0, none⟩)]) (by simp) (by simp [go_sem]) ?_
       refine (Dh w.heap.size _).mono ?_
       rintro e u' w'' ⟨rfl, rfl, rfl⟩
       have hp := (H8.out.store 1 rfl 0 (.int .i64 0)).store 1 rfl 1 (.int .i64 0)
       simp [Leaves, settle, results, Tryz.results40, go_sem, c0, c1]
       exact HOK.out _ s5 (lv, nv, tv, (s.ns.length : Int)) _ HE1.out rfl (hp.pick [0, 2, 3, 4, 5, 6])
   · have HGO : Hid (∀ n s2, (Ty.lv af 20).S s = .ok (n, s2) → ∀ r, Ty.pgT af f (l ++ [n]) s2 = r → Ty.progM af st = r) := fun n s2 hm r h => hE.out r ((Ty.Aa hk hm).trans h)
     have HNO : Hid (∀ e, (Ty.lv af 20).S s = .error e → iy af st = .error e) := fun e hm => xP (hE.out _ (Ty.vP hk hm))
     have hk1 : (((Ty.cur af s.pos).kind : Int) != 6) = true := by simp; omega
     generalize Ty.cur af s.pos = t at *
     obtain ⟨kd, tx, tp⟩ := t
     dsimp only at hk1
     clear hE hk
     go_wp2_with fail
     refine HN.out _ (fun w4 hb4 => ?_)
     dsimp only [aQ]
     have h6 := hS.out.below hb4
     have c1 := h6.cell 3 rfl 4 rfl
     have HSS := qh (hST.out w0 w4.drew _ pb s (h6.drew.at 1 rfl))
     clear hb4 h6
     go_wp2_with fail
     first | go_region_law (first | (go_simp; go_at_call 76; refine HSS.out _ (fun n s2 w5 hm h2 => ?_) (fun e w5 hm h2 => ?_); rotate_left; (have hpz := (h2.unpack (i := 0) rfl).pick [0, 1]; have hp5 := hpz.heap 1 rfl; have HX := HNO.out _ hm; show Leaves _ _ _ R _ (.panicking (aI e)) w5; refine leaves_cons (f := 73) (args := #[.pointer (some ⟨w.heap.size, 0, none⟩)]) (by simp) (by simp [go_sem]) ?_; refine (EL w.heap.size e _ _ _ hp5).mono ?_; rintro e' u' w'' ⟨rfl, rfl, rfl⟩; have hp := (hpz.store 1 rfl 0 (.int .i64 e.1)).store 1 rfl 1 (.int .i64 e.2); have d0 := hp.cell 1 rfl 0 rfl; have d1 := hp.cell 1 rfl 1 rfl; simp [Leaves, settle, results, Tryz.results40, go_sem, d0, d1]; exact HBAD.out e _ HX (hp.pick [0])); have h3 : Sat w0 w5 [Fr, aC pb 0 af s2, blk w.heap.size (.cells #[.int .i64 0, .int .i64 0] 25 (0, 0)), blk w2.heap.size (nlC 26 0 0 (.slice a l.length cap0)), inA (.slice a l.length cap0) l] := h2.un5; have d1 := h3.cell 3 rfl 4 rfl; have d2 := (h3.ay (.cells #[.int .i64 n] 3)).cell 3 rfl 4 rfl; have had := hAS.out _ _ _ hm; have H3 := qh h3; have HM := qh hm; clear h2 h3 hm) | (go_loud (refine step_append_lies _ (by rfl) _ _ _ (by rfl) 0 3 i0 _ 1 8 Tryz.underlying39 ti tz0 tz1 tz2 rfl (by omega) (.slice a l.length cap0) l.length (l.map aA) (by rfl) ((H3.out.row 4 rfl).alloc _) ⟨w5.heap.size, 0, none⟩ 1 1 [.int .i64 n] (by rfl) (by rfl) (World.news_of_block (cs := #[.int .i64 n]) (t := 3) (fr := (0, 0)) (ak _ _ _ (by simp))) (by simp [Value.oneCell']) (by omega) (by unfold maxLen; omega) (by omega) (by simp) (w5.heap.size + 1) (by simp) ?_); intro g cap w6 hown3 hgrow3 hat3 hlt3; have h4 := Prt.Sat.grow (H3.out.ay _) 4 rfl hgrow3 hown3 (by simpa using hat3); have d3 := h4.cell 3 rfl 4 rfl; have f3 := h4.free 3 rfl 4; have H4 := qh h4; clear h4)) | fail
     all_goals
       clear hown3 hgrow3
       have h7 := (H4.out.store 3 rfl 4 (.slice (some ⟨g, 0, none⟩) (l.length + 1) cap)).ent (i := 4) rfl (Q := inA (.slice (some ⟨g, 0, none⟩) (l.length + 1) cap) (l ++ [n])) (fun _ h => bz h)
       have h7 : Sat w0 _ [Fr, aC pb 0 af s2, blk w.heap.size (.cells #[.int .i64 0, .int .i64 0] 25 (0, 0)), blk w2.heap.size (nlC 26 0 0 (.slice (some ⟨g, 0, none⟩) (l.length + 1) cap)), inA (.slice (some ⟨g, 0, none⟩) (l.length + 1) cap) (l ++ [n])] := h7
       have hp7 := (h7.pick [0, 1]).look.fits.1
       have HPO7 := qh (bD (h7.pick [0, 1]).look)
       have H7 := qh h7
       have HE3 := qh (HGO.out _ _ HM.out)
       clear h7
       go_wp2_with fail
       go_roundw
       case rel => exact ⟨f, l ++ [n], s2, _, hp7, by omega, by simp; omega, by omega, H7, HE3⟩
       case measure => rw [HPO.out, HPO7.out]; omega
theorem Ar {s : ByteArray} {af : List Tok.Tk} {st : Ty.St} {n : Nat} (h1 : Tok.scan s = .ok af) (hn : st.ns.length ≤ 1002) (h2 : iy af ⟨0, [], []⟩ = .ok (n, st)) : Ty.parse s = .ok ⟨st.ns, st.ts, n⟩ := by
 unfold Ty.parse; rw [h1]
 unfold iy at h2
 dsimp only
 cases h : Ty.progM af ⟨0, [], []⟩ with
 | error f => rw [h] at h2; cases h2
 | ok p =>
   obtain ⟨m, s'⟩ := p
   rw [h] at h2
   dsimp only at h2 ⊢
   split at h2
   · cases h2
   · rename_i h3
     cases h2
     rw [if_neg (by omega)]
theorem xR {s : ByteArray} {af : List Tok.Tk} {f : Ty.Ft} (h1 : Tok.scan s = .ok af) (h2 : iy af ⟨0, [], []⟩ = .error f) : Ty.parse s = .error f := by
 unfold Ty.parse; rw [h1]
 unfold iy at h2
 dsimp only
 cases h : Ty.progM af ⟨0, [], []⟩ with
 | error g => rw [h] at h2; cases h2; rfl
 | ok p =>
   obtain ⟨m, s'⟩ := p
   rw [h] at h2
   dsimp only at h2 ⊢
   split at h2
   · rename_i h3; cases h2; rw [if_pos (.inr h3)]
   · cases h2
theorem xW {w0 w : World} {Fr : As} (H : Sat w0 w [Fr]) (s : ByteArray) (hw : Words w) (hm : s.size ≤ maxLen) {R : Ending → World → Prop}
   (hok : ∀ (pg : Ty.Pg) nv tv w', Ty.parse s = .ok pg → Sat w0 w' [Fr, ndA nv pg.ns, tyA tv pg.ts] → R (.returned (.tuple #[.agg #[nv, tv, .int .i64 (pg.main : Nat)], aP (0, 0)])) w')
   (hbad : ∀ f w', Ty.parse s = .error f → Sat w0 w' [Fr] → R (.returned (.tuple #[.agg #[.slice none 0 0, .slice none 0 0, .int .i64 0], aP f])) w') :
   Calls Tryz.prog 15 #[.string s] w R := by
 have HOK := qh hok
 have HBAD := qh hbad
 have HS := qh H
 have HW := qh hw
 have HMX := qh hm
 clear hok hbad H hw hm
 go_enter Tryz.func15, Tryz.ntmps15
 go_wp2_with fail
 have h1 := (HS.out.aj (.cells #[.slice none 0 0, .slice none 0 0, .int .i64 0] 31) w.heap.size).aj (.cells #[.int .i64 0, .int .i64 0] 25) (w.heap.size + 1)
 have h1 : Sat w0 _ [ah [Fr, blk w.heap.size (.cells #[.slice none 0 0, .slice none 0 0, .int .i64 0] 31 (0, 0)), blk (w.heap.size + 1) (.cells #[.int .i64 0, .int .i64 0] 25 (0, 0))]] := Prt.Sat.pack (L := []) h1
 refine open_any h1 s (HW.out.below (((Below.refl _ _).alloc (Nat.le_refl _) _).alloc (by simp) _)) HMX.out (fun af pb w1 hl h2 => ?_) (fun f pb w1 hl h2 => ?_)
 · have h3 := h2.un4.aj (.cells #[.int .i64 0, .int .i64 0] 25) w1.heap.size
   have H3 := qh h3
   have HL := qh hl
   have HNM := qh (Ty.scan_nums hl)
   clear h1 h2 h3 hl
   dsimp only [aP]
   go_wp2_with fail
   refine ql HNM.out (H3.out.at 1 rfl) (by simp) (fun n st p w2 hs hpn h4 => ?_) (fun f w2 hs h4 => ?_)
   · obtain ⟨lv, nv, tv, main⟩ := p
     dsimp only at hpn
     subst hpn
     have h5 := (h4.unpack (i := 0) rfl).pick [5, 6, 7, 8, 0, 1, 2, 3, 4]
     have hpu := h5.pure 4 rfl
     have hn : st.ns.length ≤ 1002 := by have := hpu.1.1; omega
     obtain ⟨rows, h6⟩ := h5.ex (i := 7) rfl
     obtain ⟨na, nc, en⟩ := ag ((h6.unpack (i := 7) rfl).row 9 rfl)
     obtain ⟨rows2, h7⟩ := h5.ex (i := 8) rfl
     obtain ⟨ta, tc, et⟩ := ag ((h7.unpack (i := 8) rfl).row 9 rfl)
     clear h6 h7
     dsimp only at en et
     subst en et
     have x0 := h5.cell 3 rfl 0 rfl
     have y0 := h5.cell 2 rfl 0 rfl
     have x1 := h5.cell 3 rfl 1 rfl
     have y1 := h5.cell 2 rfl 1 rfl
     have v0 := h5.cell 1 rfl 0 rfl
     have v1 := h5.cell 1 rfl 1 rfl
     have v2 := h5.cell 1 rfl 2 rfl
     have z3 := h5.cell 5 rfl 3 rfl
     have z4 := h5.cell 5 rfl 4 rfl
     have z5 := h5.cell 5 rfl 5 rfl
     have fx := h5.free 3 rfl
     have fy := h5.free 2 rfl
     have fv := h5.free 1 rfl
     have hne12 := h5.ne 1 2 (by decide) rfl rfl
     have hne13 := h5.ne 1 3 (by decide) rfl rfl
     have hne15 := h5.ne 1 5 (by decide) rfl rfl
     have hne23 := h5.ne 2 3 (by decide) rfl rfl
     have hne25 := h5.ne 2 5 (by decide) rfl rfl
     have hne35 := h5.ne 3 5 (by decide) rfl rfl
     have hl1 := h5.lt 1 rfl
     have hl2 := h5.lt 2 rfl
     have hl3 := h5.lt 3 rfl
     have H5 := qh h5
     have HST := qh (Ar HL.out hn hs)
     clear h4 h5 hs hpu hn
     dsimp only [aP] at *
     go_wp2_with fail
     go_region
     all_goals
       go_wp2_with fail
       refine bodyPost_ret ?_ rfl (HOK.out ⟨st.ns, st.ts, n⟩ (.slice na st.ns.length nc) (.slice ta st.ts.length tc) _ HST.out ?_)
       · simp [results, Tryz.results15, go_sem, v0, v1, v2, y0, y1]
       · exact ((((((((H5.out.store 3 rfl 0 (.int .i64 0)).store 3 rfl 1 (.int .i64 0)).store 1 rfl 0 (.slice na st.ns.length nc)).store 1 rfl 1 (.slice ta st.ts.length tc)).store 1 rfl 2 (.int .i64 (n : Nat))).store 2 rfl 0 (.int .i64 0)).store 2 rfl 1 (.int .i64 0)).drew.pick [0, 7, 8])
   · have h5 := h4.unpack (i := 0) rfl
     have x0 := h5.cell 3 rfl 0 rfl
     have y0 := h5.cell 2 rfl 0 rfl
     have x1 := h5.cell 3 rfl 1 rfl
     have y1 := h5.cell 2 rfl 1 rfl
     have v0 := h5.cell 1 rfl 0 rfl
     have v1 := h5.cell 1 rfl 1 rfl
     have v2 := h5.cell 1 rfl 2 rfl
     have fx := h5.free 3 rfl
     have fy := h5.free 2 rfl
     have fv := h5.free 1 rfl
     have hne12 := h5.ne 1 2 (by decide) rfl rfl
     have hne13 := h5.ne 1 3 (by decide) rfl rfl
     have hne23 := h5.ne 2 3 (by decide) rfl rfl
     have hl1 := h5.lt 1 rfl
     have hl2 := h5.lt 2 rfl
     have hl3 := h5.lt 3 rfl
     have hE := xR HL.out hs
     have hb := Ty.parse_bad hE
     obtain ⟨fe, fp⟩ := f
     dsimp only at hb
     have e1 : ((fe : Int) == 0) = false := by simp; omega
     have e2 : ((fe : Int) != 0) = true := by simp; omega
     have H5 := qh h5
     have HE := qh hE
     clear h4 h5 hs hE hb
     dsimp only [aP] at *
     go_wp2_with fail
     go_region
     all_goals
       go_wp2_with fail
       refine bodyPost_ret ?_ rfl (HBAD.out (fe, fp) _ HE.out ?_)
       · simp [results, Tryz.results15, go_sem, v0, v1, v2, y0, y1]
       · exact ((((((((H5.out.store 3 rfl 0 (.int .i64 fe)).store 3 rfl 1 (.int .i64 fp)).store 1 rfl 0 (.slice none 0 0)).store 1 rfl 1 (.slice none 0 0)).store 1 rfl 2 (.int .i64 0)).store 2 rfl 0 (.int .i64 fe)).store 2 rfl 1 (.int .i64 fp)).drew.pick [0])
 · have hE : Ty.parse s = .error f := by unfold Ty.parse; rw [hl]
   have hb := Ty.parse_bad hE
   obtain ⟨fe, fp⟩ := f
   dsimp only at hb
   have h5 := h2.unpack (i := 0) rfl
   have a0 := h5.cell 2 rfl 0 rfl
   have a1 := h5.cell 2 rfl 1 rfl
   have b0 := h5.cell 1 rfl 0 rfl
   have b1 := h5.cell 1 rfl 1 rfl
   have b2 := h5.cell 1 rfl 2 rfl
   have fy := h5.free 2 rfl
   have fv := h5.free 1 rfl
   have hl1 := h5.lt 1 rfl
   have hl2 := h5.lt 2 rfl
   have hne12 := h5.ne 1 2 (by decide) rfl rfl
   have e1 : ((fe : Int) == 0) = false := by simp; omega
   have e2 : ((fe : Int) != 0) = true := by simp; omega
   have H6 := qh h5
   have HE := qh hE
   clear h1 h2 h5 hl hE hb
   dsimp only [aP] at *
   go_wp2_with fail
   go_region
   all_goals
     go_wp2_with fail
     refine bodyPost_ret ?_ rfl (HBAD.out (fe, fp) _ HE.out ?_)
     · simp [results, Tryz.results15, go_sem, hl1, hl2, a0, a1, b0, b1, b2]
     · exact (((((((H6.out.store 1 rfl 0 (.slice none 0 0)).store 1 rfl 1 (.slice none 0 0)).store 1 rfl 2 (.int .i64 0)).store 2 rfl 0 (.int .i64 fe)).store 2 rfl 1 (.int .i64 fp)).ay _).drew.pick [0])
end
end Go.Proofs.YtdlbhiaceheffabGreatDoor
