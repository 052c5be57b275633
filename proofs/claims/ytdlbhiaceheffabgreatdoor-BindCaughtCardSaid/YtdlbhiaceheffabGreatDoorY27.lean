/- Walk of the parser's branch. -/
import Derived.Test.YtdlbhiaceheffabGreatDoorY26
set_option linter.all false
set_option maxRecDepth 100000
set_option maxHeartbeats 4000000
namespace Go.Proofs.YtdlbhiaceheffabGreatDoor
section
open Go Go.RowKit
open Prt (Sat As blk pur exs star ah)
namespace Ty
def br5 (af : List Tok.Tk) (S : M Nat) (yes : Bool) (ps a b : Nat) : M Nat :=
 if yes then bnd (take af [101, 108, 115, 101]) fun e => if e then bnd (blockM af S) fun c => addNode { ndOf 22 ps with a := a, b := b, c := (c : Int) } else addNode { ndOf 22 ps with a := a, b := b, c := -1 }
 else addNode { ndOf 23 ps with a := a, b := b }
def br4 (af : List Tok.Tk) (S : M Nat) (yes : Bool) (ps a : Nat) : M Nat := bnd (blockM af S) fun b => br5 af S yes ps a b
def br3 (af : List Tok.Tk) (S : M Nat) (yes : Bool) (ps a : Nat) : M Nat := bnd (need af [41]) fun _ => br4 af S yes ps a
def br2 (af : List Tok.Tk) (E S : M Nat) (yes : Bool) (ps : Nat) : M Nat := bnd E fun a => br3 af S yes ps a
def br1 (af : List Tok.Tk) (E S : M Nat) (yes : Bool) (ps : Nat) : M Nat := bnd (need af [40]) fun _ => br2 af E S yes ps
theorem AX {af : List Tok.Tk} {S : M Nat} {ps a b : Nat} {s s1 : St} (h : take af [101, 108, 115, 101] s = .ok (true, s1)) : br5 af S true ps a b s = bnd (blockM af S) (fun c => addNode { ndOf 22 ps with a := a, b := b, c := (c : Int) }) s1 := by
 unfold br5; rw [if_pos rfl, bnd_ok h]; rfl
theorem BG {af : List Tok.Tk} {S : M Nat} {ps a b : Nat} {s s1 : St} (h : take af [101, 108, 115, 101] s = .ok (false, s1)) : br5 af S true ps a b s = addNode { ndOf 22 ps with a := a, b := b, c := -1 } s1 := by
 unfold br5; rw [if_pos rfl, bnd_ok h]; rfl
end Ty
theorem qx {w0 w : World} {Fr : As} {pb d : Nat} {af : List Tok.Tk} {st : Ty.St} {T E O S : Ty.M Nat} (L : Lo af d T E O S) (H : Sat w0 w [Fr, aC pb d af st]) (ps : Nat) (hi : Ty.is af [105, 102] st.pos = true) (hlt1 : st.pos + 1 < af.length) {R : Ending → World → Prop}
   (hok : ∀ n s2 w2, Ty.branchM af E S true ps st = .ok (n, s2) → Sat w0 w2 [Fr, aC pb d af s2] → R (.returned (.int .i64 (n : Nat))) w2)
   (hbad : ∀ f w2, Ty.branchM af E S true ps st = .error f → Sat w0 w2 [Fr] → R (.panicked (aI f)) w2) :
   Calls Tryz.prog 211 #[.pointer (some ⟨pb, 0, none⟩), .agg #[.int .i64 0, .int .i64 0, .int .i64 0, .int .i64 0, .slice none 0 0, .string ⟨#[]⟩, .int .i64 0, .int .i64 (-1), .int .i64 ps]] w R := by
 have HOK := qh hok
 have HBAD := qh hbad
 have HL := qh L
 have hlk := H.look
 have htl := hlk.wf.1
 have hfit := hlk.fits.2.2.2
 have HE0 : Hid (∀ r, Ty.br1 af E S true ps { st with pos := st.pos + 1 } = r → Ty.branchM af E S true ps st = r) := fun r h => h
 have hi' : Ty.is af (⟨#[105, 102]⟩ : ByteArray).data.toList st.pos = true := hi
 have h1 := H.aj (.cells #[.int .i64 23, .int .i64 0, .int .i64 0, .int .i64 0, .slice none 0 0, .string ⟨#[]⟩, .int .i64 0, .int .i64 (-1), .int .i64 ps] 66) w.heap.size
 have HIS := qh (fun R hR => iF _ pb d af st (h1.pick [0, 1]).look ⟨#[105, 102]⟩ (R := R) hR)
 rw [hi'] at HIS
 have H1 := qh h1
 clear hok hbad H L hlk h1 hi hi'
 go_enter Tryz.func211, Tryz.ntmps211
 go_wp2_with fail
 refine HIS.out _ (fun w2 hb2 => ?_)
 have h2 := H1.out.below hb2
 have y0 := h2.cell 2 rfl 0 rfl
 have y3 := h2.cell 2 rfl 3 rfl
 have fz := h2.free 2 rfl
 have hz := h2.lt 2 rfl
 have h3 := (h2.store 2 rfl 0 (.int .i64 22)).store 2 rfl 3 (.int .i64 (-1))
 obtain ⟨c1, _, f0⟩ := (h3.pick [0, 1]).look.cells
 have hpb := (h3.pick [0, 1]).look.lt
 have h4 := ((h3.at 1 rfl).setPos (st.pos + 1) hlt1 (by omega)).un3
 rw [show ((st.pos + 1 : Nat) : Int) = (st.pos : Int) + 1 from rfl] at h4
 obtain ⟨s4, hs4⟩ : ∃ s4 : Ty.St, s4 = { st with pos := st.pos + 1 } := ⟨_, rfl⟩
 have p4 : s4.pos = st.pos + 1 := by rw [hs4]
 have n4 : s4.ns.length = st.ns.length := by rw [hs4]
 rw [← hs4] at h4 HE0
 have H4 := qh h4
 clear hb2 h2 h3 h4 hs4
 go_wp2_with fail
 clear c1 f0 y0 y3 fz
 refine aZ (H4.out.at 1 rfl) ⟨#[40]⟩ (fun w5 hm h5 => ?_) (fun e w5 hm h5 => ?_)
 rotate_left
 · have HX : Hid (Ty.branchM af E S true ps st = .error e) := HE0.out _ (Ty.bnd_err hm)
   have HZ := qh (h5.unpack (i := 0) rfl)
   clear hm h5
   go_wp2_with fail
   exact ⟨rfl, HBAD.out _ _ HX.out (HZ.out.pick [0])⟩
 have HE5 : Hid (∀ r, Ty.br2 af E S true ps { s4 with pos := s4.pos + 1 } = r → Ty.branchM af E S true ps st = r) := fun r h => HE0.out r ((Ty.bnd_ok hm).trans h)
 have k5 := h5.un3
 obtain ⟨s5, hs5⟩ : ∃ s' : Ty.St, s' = { s4 with pos := s4.pos + 1 } := ⟨_, rfl⟩
 have p5 : s5.pos = s4.pos + 1 := by rw [hs5]
 have n5 : s5.ns.length = s4.ns.length := by rw [hs5]
 rw [← hs5] at k5 HE5
 have H5 := qh k5
 clear hm h5 k5 hs5
 go_wp2_with fail
 refine HL.out.e _ _ _ pb _ (H5.out.at 1 rfl) _ (fun a s6 w6 hm h6 => ?_) (fun e w6 hm h6 => ?_)
 rotate_left
 · have HX : Hid (Ty.branchM af E S true ps st = .error e) := HE5.out _ (Ty.bnd_err hm)
   have HZ := qh (h6.unpack (i := 0) rfl)
   clear hm h6
   go_wp2_with fail
   exact ⟨rfl, HBAD.out _ _ HX.out (HZ.out.pick [0])⟩
 have had6 := HL.out.ae _ _ _ hm
 have HE6 : Hid (∀ r, Ty.br3 af S true ps a s6 = r → Ty.branchM af E S true ps st = r) := fun r h => HE5.out r ((Ty.bnd_ok hm).trans h)
 have k6 := h6.un3
 have y6 := k6.cell 2 rfl 1 rfl
 have f6 := k6.free 2 rfl
 have z6 := k6.lt 2 rfl
 have m6 := k6.store 2 rfl 1 (.int .i64 (a : Nat))
 have H6 := qh m6
 clear hm h6 k6 m6
 go_wp2_with fail
 clear y6 f6
 refine aZ (H6.out.at 1 rfl) ⟨#[41]⟩ (fun w7 hm h7 => ?_) (fun e w7 hm h7 => ?_)
 rotate_left
 · have HX : Hid (Ty.branchM af E S true ps st = .error e) := HE6.out _ (Ty.bnd_err hm)
   have HZ := qh (h7.unpack (i := 0) rfl)
   clear hm h7
   go_wp2_with fail
   exact ⟨rfl, HBAD.out _ _ HX.out (HZ.out.pick [0])⟩
 have HE7 : Hid (∀ r, Ty.br4 af S true ps a { s6 with pos := s6.pos + 1 } = r → Ty.branchM af E S true ps st = r) := fun r h => HE6.out r ((Ty.bnd_ok hm).trans h)
 have k7 := h7.un3
 obtain ⟨s7, hs7⟩ : ∃ s' : Ty.St, s' = { s6 with pos := s6.pos + 1 } := ⟨_, rfl⟩
 have p7 : s7.pos = s6.pos + 1 := by rw [hs7]
 have n7 : s7.ns.length = s6.ns.length := by rw [hs7]
 rw [← hs7] at k7 HE7
 have H7 := qh k7
 clear hm h7 k7 hs7
 go_wp2_with fail
 -- the block
 refine iY HL.out _ _ _ pb _ (H7.out.at 1 rfl) _ (fun b s8 w8 hm h8 => ?_) (fun e w8 hm h8 => ?_)
 rotate_left
 · have HX : Hid (Ty.branchM af E S true ps st = .error e) := HE7.out _ (Ty.bnd_err hm)
   have HZ := qh (h8.unpack (i := 0) rfl)
   clear hm h8
   go_wp2_with fail
   exact ⟨rfl, HBAD.out _ _ HX.out (HZ.out.pick [0])⟩
 have had8 := Ty.blockM_adv HL.out.as' _ _ _ hm
 have HE8 : Hid (∀ r, Ty.br5 af S true ps a b s8 = r → Ty.branchM af E S true ps st = r) := fun r h => HE7.out r ((Ty.bnd_ok hm).trans h)
 have k8 := h8.un3
 have y8 := k8.cell 2 rfl 2 rfl
 have f8 := k8.free 2 rfl
 have z8 := k8.lt 2 rfl
 have m8 := k8.store 2 rfl 2 (.int .i64 (b : Nat))
 have HK := qh k8
 have H8 := qh m8
 have x0 := m8.cell 2 rfl 0 rfl
 clear hm h8 k8 m8
 go_wp2_with fail
 clear y8 f8 x0
 refine take_any (H8.out.at 1 rfl) ⟨#[101, 108, 115, 101]⟩ (fun w9 hi h9 => ?_) (fun w9 hi h9 => ?_)
 · have HE9 : Hid (∀ r, Ty.bnd (Ty.blockM af S) (fun c => Ty.addNode { Ty.ndOf 22 ps with a := a, b := b, c := (c : Int) }) { s8 with pos := s8.pos + 1 } = r → Ty.branchM af E S true ps st = r) := fun r h => HE8.out r ((Ty.AX hi).trans h)
   have k9 := h9.un3
   obtain ⟨s9, hs9⟩ : ∃ s' : Ty.St, s' = { s8 with pos := s8.pos + 1 } := ⟨_, rfl⟩
   have p9 : s9.pos = s8.pos + 1 := by rw [hs9]
   have n9 : s9.ns.length = s8.ns.length := by rw [hs9]
   rw [← hs9] at k9 HE9
   have H9 := qh k9
   clear hi h9 k9 hs9
   go_wp2_with fail
   refine iY HL.out _ _ _ pb _ (H9.out.at 1 rfl) _ (fun c s10 w10 hm h10 => ?_) (fun e w10 hm h10 => ?_)
   rotate_left
   · have HX : Hid (Ty.branchM af E S true ps st = .error e) := HE9.out _ (Ty.bnd_err hm)
     have HZ := qh (h10.unpack (i := 0) rfl)
     clear hm h10
     go_wp2_with fail
     exact ⟨rfl, HBAD.out _ _ HX.out (HZ.out.pick [0])⟩
   have had10 := Ty.blockM_adv HL.out.as' _ _ _ hm
   have HE10 : Hid (Ty.branchM af E S true ps st = .ok (s10.ns.length, { s10 with ns := s10.ns ++ [{ Ty.ndOf 22 ps with a := a, b := b, c := (c : Int) }] })) := HE9.out _ ((Ty.bnd_ok hm).trans rfl)
   have k10 := h10.un3
   have y3 := k10.cell 2 rfl 3 rfl
   have f10 := k10.free 2 rfl
   have z10 := k10.lt 2 rfl
   have q0 := k10.cell 2 rfl 0 rfl
   have q1 := k10.cell 2 rfl 1 rfl
   have q2 := k10.cell 2 rfl 2 rfl
   have q4 := k10.cell 2 rfl 4 rfl
   have q5 := k10.cell 2 rfl 5 rfl
   have q6 := k10.cell 2 rfl 6 rfl
   have q7 := k10.cell 2 rfl 7 rfl
   have q8 := k10.cell 2 rfl 8 rfl
   have m10 := k10.store 2 rfl 3 (.int .i64 (c : Nat))
   have H10 := qh (m10.nil 3 1)
   clear hm h10 k10 m10
   go_wp2_with fail
   refine aO { Ty.ndOf 22 ps with a := a, b := b, c := (c : Int) } (.slice none 0 0) (H10.out.pick [0, 1, 3]) (by omega) (fun w12 h12 => ?_)
   have H12 := qh h12
   clear h12
   go_wp2_with fail
   exact HOK.out _ _ _ HE10.out H12.out
 · have HE9 : Hid (Ty.branchM af E S true ps st = .ok (s8.ns.length, { s8 with ns := s8.ns ++ [{ Ty.ndOf 22 ps with a := a, b := b, c := -1 }] })) := HE8.out _ ((Ty.BG hi).trans rfl)
   have k9 := h9.un3
   have q0 := k9.cell 2 rfl 0 rfl
   have q1 := k9.cell 2 rfl 1 rfl
   have q2 := k9.cell 2 rfl 2 rfl
   have q3 := k9.cell 2 rfl 3 rfl
   have q4 := k9.cell 2 rfl 4 rfl
   have q5 := k9.cell 2 rfl 5 rfl
   have q6 := k9.cell 2 rfl 6 rfl
   have q7 := k9.cell 2 rfl 7 rfl
   have q8 := k9.cell 2 rfl 8 rfl
   have H9 := qh (k9.nil 3 1)
   clear hi h9 k9
   go_wp2_with fail
   refine aO { Ty.ndOf 22 ps with a := a, b := b, c := -1 } (.slice none 0 0) (H9.out.pick [0, 1, 3]) (by omega) (fun w12 h12 => ?_)
   have H12 := qh h12
   clear h12
   go_wp2_with fail
   exact HOK.out _ _ _ HE9.out H12.out
theorem nU {w0 w : World} {Fr : As} {pb d : Nat} {af : List Tok.Tk} {st : Ty.St} {T E O S : Ty.M Nat} (L : Lo af d T E O S) (H : Sat w0 w [Fr, aC pb d af st]) (ps : Nat) (hi : Ty.is af [105, 102] st.pos = false) (hlt1 : st.pos + 1 < af.length) {R : Ending → World → Prop}
   (hok : ∀ n s2 w2, Ty.branchM af E S false ps st = .ok (n, s2) → Sat w0 w2 [Fr, aC pb d af s2] → R (.returned (.int .i64 (n : Nat))) w2)
   (hbad : ∀ f w2, Ty.branchM af E S false ps st = .error f → Sat w0 w2 [Fr] → R (.panicked (aI f)) w2) :
   Calls Tryz.prog 211 #[.pointer (some ⟨pb, 0, none⟩), .agg #[.int .i64 0, .int .i64 0, .int .i64 0, .int .i64 0, .slice none 0 0, .string ⟨#[]⟩, .int .i64 0, .int .i64 (-1), .int .i64 ps]] w R := by
 have HOK := qh hok
 have HBAD := qh hbad
 have HL := qh L
 have hlk := H.look
 have htl := hlk.wf.1
 have hfit := hlk.fits.2.2.2
 have HE0 : Hid (∀ r, Ty.br1 af E S false ps { st with pos := st.pos + 1 } = r → Ty.branchM af E S false ps st = r) := fun r h => h
 have hi' : Ty.is af (⟨#[105, 102]⟩ : ByteArray).data.toList st.pos = false := hi
 have h1 := H.aj (.cells #[.int .i64 23, .int .i64 0, .int .i64 0, .int .i64 0, .slice none 0 0, .string ⟨#[]⟩, .int .i64 0, .int .i64 (-1), .int .i64 ps] 66) w.heap.size
 have HIS := qh (fun R hR => iF _ pb d af st (h1.pick [0, 1]).look ⟨#[105, 102]⟩ (R := R) hR)
 rw [hi'] at HIS
 have H1 := qh h1
 clear hok hbad H L hlk h1 hi hi'
 go_enter Tryz.func211, Tryz.ntmps211
 go_wp2_with fail
 refine HIS.out _ (fun w2 hb2 => ?_)
 have h2 := H1.out.below hb2
 have h3 := h2
 obtain ⟨c1, _, f0⟩ := (h3.pick [0, 1]).look.cells
 have hpb := (h3.pick [0, 1]).look.lt
 have h4 := ((h3.at 1 rfl).setPos (st.pos + 1) hlt1 (by omega)).un3
 rw [show ((st.pos + 1 : Nat) : Int) = (st.pos : Int) + 1 from rfl] at h4
 obtain ⟨s4, hs4⟩ : ∃ s4 : Ty.St, s4 = { st with pos := st.pos + 1 } := ⟨_, rfl⟩
 have p4 : s4.pos = st.pos + 1 := by rw [hs4]
 have n4 : s4.ns.length = st.ns.length := by rw [hs4]
 rw [← hs4] at h4 HE0
 have H4 := qh h4
 clear hb2 h2 h3 h4 hs4
 go_wp2_with fail
 clear c1 f0
 refine aZ (H4.out.at 1 rfl) ⟨#[40]⟩ (fun w5 hm h5 => ?_) (fun e w5 hm h5 => ?_)
 rotate_left
 · have HX : Hid (Ty.branchM af E S false ps st = .error e) := HE0.out _ (Ty.bnd_err hm)
   have HZ := qh (h5.unpack (i := 0) rfl)
   clear hm h5
   go_wp2_with fail
   exact ⟨rfl, HBAD.out _ _ HX.out (HZ.out.pick [0])⟩
 have HE5 : Hid (∀ r, Ty.br2 af E S false ps { s4 with pos := s4.pos + 1 } = r → Ty.branchM af E S false ps st = r) := fun r h => HE0.out r ((Ty.bnd_ok hm).trans h)
 have k5 := h5.un3
 obtain ⟨s5, hs5⟩ : ∃ s' : Ty.St, s' = { s4 with pos := s4.pos + 1 } := ⟨_, rfl⟩
 have p5 : s5.pos = s4.pos + 1 := by rw [hs5]
 have n5 : s5.ns.length = s4.ns.length := by rw [hs5]
 rw [← hs5] at k5 HE5
 have H5 := qh k5
 clear hm h5 k5 hs5
 go_wp2_with fail
 refine HL.out.e _ _ _ pb _ (H5.out.at 1 rfl) _ (fun a s6 w6 hm h6 => ?_) (fun e w6 hm h6 => ?_)
 rotate_left
 · have HX : Hid (Ty.branchM af E S false ps st = .error e) := HE5.out _ (Ty.bnd_err hm)
   have HZ := qh (h6.unpack (i := 0) rfl)
   clear hm h6
   go_wp2_with fail
   exact ⟨rfl, HBAD.out _ _ HX.out (HZ.out.pick [0])⟩
 have had6 := HL.out.ae _ _ _ hm
 have HE6 : Hid (∀ r, Ty.br3 af S false ps a s6 = r → Ty.branchM af E S false ps st = r) := fun r h => HE5.out r ((Ty.bnd_ok hm).trans h)
 have k6 := h6.un3
 have y6 := k6.cell 2 rfl 1 rfl
 have f6 := k6.free 2 rfl
 have z6 := k6.lt 2 rfl
 have m6 := k6.store 2 rfl 1 (.int .i64 (a : Nat))
 have H6 := qh m6
 clear hm h6 k6 m6
 go_wp2_with fail
 clear y6 f6
 refine aZ (H6.out.at 1 rfl) ⟨#[41]⟩ (fun w7 hm h7 => ?_) (fun e w7 hm h7 => ?_)
 rotate_left
 · have HX : Hid (Ty.branchM af E S false ps st = .error e) := HE6.out _ (Ty.bnd_err hm)
   have HZ := qh (h7.unpack (i := 0) rfl)
   clear hm h7
   go_wp2_with fail
   exact ⟨rfl, HBAD.out _ _ HX.out (HZ.out.pick [0])⟩
 have HE7 : Hid (∀ r, Ty.br4 af S false ps a { s6 with pos := s6.pos + 1 } = r → Ty.branchM af E S false ps st = r) := fun r h => HE6.out r ((Ty.bnd_ok hm).trans h)
 have k7 := h7.un3
 obtain ⟨s7, hs7⟩ : ∃ s' : Ty.St, s' = { s6 with pos := s6.pos + 1 } := ⟨_, rfl⟩
 have p7 : s7.pos = s6.pos + 1 := by rw [hs7]
 have n7 : s7.ns.length = s6.ns.length := by rw [hs7]
 rw [← hs7] at k7 HE7
 have H7 := qh k7
 clear hm h7 k7 hs7
 go_wp2_with fail
 -- the block
 refine iY HL.out _ _ _ pb _ (H7.out.at 1 rfl) _ (fun b s8 w8 hm h8 => ?_) (fun e w8 hm h8 => ?_)
 rotate_left
 · have HX : Hid (Ty.branchM af E S false ps st = .error e) := HE7.out _ (Ty.bnd_err hm)
   have HZ := qh (h8.unpack (i := 0) rfl)
   clear hm h8
   go_wp2_with fail
   exact ⟨rfl, HBAD.out _ _ HX.out (HZ.out.pick [0])⟩
 have had8 := Ty.blockM_adv HL.out.as' _ _ _ hm
 have HE8 : Hid (∀ r, Ty.br5 af S false ps a b s8 = r → Ty.branchM af E S false ps st = r) := fun r h => HE7.out r ((Ty.bnd_ok hm).trans h)
 have k8 := h8.un3
 have y8 := k8.cell 2 rfl 2 rfl
 have f8 := k8.free 2 rfl
 have z8 := k8.lt 2 rfl
 have m8 := k8.store 2 rfl 2 (.int .i64 (b : Nat))
 have HK := qh k8
 have H8 := qh m8
 have q0 := k8.cell 2 rfl 0 rfl
 have q1 := k8.cell 2 rfl 1 rfl
 have q3 := k8.cell 2 rfl 3 rfl
 have q4 := k8.cell 2 rfl 4 rfl
 have q5 := k8.cell 2 rfl 5 rfl
 have q6 := k8.cell 2 rfl 6 rfl
 have q7 := k8.cell 2 rfl 7 rfl
 have q8 := k8.cell 2 rfl 8 rfl
 have HE9 : Hid (Ty.branchM af E S false ps st = .ok (s8.ns.length, { s8 with ns := s8.ns ++ [{ Ty.ndOf 23 ps with a := a, b := b }] })) := HE8.out _ rfl
 have H9 := qh (m8.nil 3 1)
 clear hm h8 k8 m8
 go_wp2_with fail
 refine aO { Ty.ndOf 23 ps with a := a, b := b } (.slice none 0 0) (H9.out.pick [0, 1, 3]) (by omega) (fun w12 h12 => ?_)
 have H12 := qh h12
 clear h12
 go_wp2_with fail
 exact HOK.out _ _ _ HE9.out H12.out
end
end Go.Proofs.YtdlbhiaceheffabGreatDoor
