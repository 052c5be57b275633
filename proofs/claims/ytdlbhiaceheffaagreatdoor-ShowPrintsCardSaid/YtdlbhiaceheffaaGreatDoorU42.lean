/- The reference's reader of programs: signed. -/
import Derived.Test.YtdlbhiaceheffaaGreatDoorU41
set_option linter.all false
set_option maxRecDepth 100000
set_option maxHeartbeats 8000000
namespace Go.Proofs.YtdlbhiaceheffaaGreatDoor
section
open Go Go.RowKit
open Prt (Sat As blk pur exs star stars)
open Rd (At)
theorem below_trans {a b c : World} (h : Below a.heap.size a b) (k : Below b.heap.size b c) : Below a.heap.size a c := h.trans (k.mono h.size)
theorem RSp.mono {F : FuncId} {toks : List Tok.Tk} {d k k' b : Nat} {m : Ty.M Nat} (h : RSp F toks d k b m) (hk : k ≤ k') : RSp F toks d k' b m :=
 fun w0 w Fr pb s c j K whole hc hk2 hK hA H R hR => h w0 w Fr pb s c j K whole hc (by omega) hK hA H R hR
def RIn (toks : List Tok.Tk) (d k : Nat) (O : Ty.M Nat) : Prop := (d = 20 ∧ O = Ty.fail toks 8) ∨ (d < 20 ∧ RSp 180 toks (d + 1) k 0 O)
section
variable {toks : List Tok.Tk} {d k : Nat} {T E O S : Ty.M Nat}
theorem signed_any (hL : ∀ t, toks.getLast? = some t → t.kind = 6) (hT : RSp 38 toks d k 0 T) (hE : RSp 105 toks d k 0 E) (hO : RIn toks d k O) (hatom : RSp 187 toks d (k + 4) 0 (Ty.simpleM toks T E S)) (hAT : Ty.Adv 1 0 0 T) (hA : Ty.Adv 1 0 0 E) (hN : Ty.Nx E) (hNS : Ty.Nx (Ty.simpleM toks T E S)) : RSp 180 toks d (k + 5) 0 (Ty.oneM toks T E O S) := by
 intro w0 w Fr pb s c j K whole hc hk hK h H R hR
 have HR := qh hR
 have HS := qh H
 have HEX := qh hE
 have HTX := qh hT
 have HO := qh hO
 have HAT := qh hatom
 have HL := qh hL
 have htl := H.lookR.wf.1
 have hlk := H.lookR
 obtain ⟨f0, c1, _, _, _, g0, cap, c0, hg, t0, t1, t2⟩ := hlk.cells
 have hpb := hlk.lt
 have hpos := hlk.fits.1
 have HPRE : Hid (∀ x : ByteArray, x.data.toList ∈ Ty.prefixes → Rd.peek toks x.data.toList s = true → s.f = none ∧ s.st.pos + 1 < toks.length ∧ At toks 0 (j + 1) whole (Ty.bnd O fun a => Ty.addNode { Ty.ndOf 13 (Ty.cur toks s.st.pos).pos with text := (Ty.cur toks s.st.pos).text, a := a }) (Rd.next s)) := fun x hx hp => by
   obtain ⟨hf, hi⟩ := Rd.peek_none hp
   refine ⟨hf, Rd.is_lt hL hpos hi, h.go' hL hp ?_⟩
   show (if Ty.prefixes.any (fun x => Ty.is toks x s.st.pos) = true then _ else _ : Ty.M Nat) s.st = _
   rw [if_pos (List.any_eq_true.2 ⟨_, hx, hi⟩)]
   rfl
 have HREST : Hid (Rd.peek toks (⟨#[33]⟩ : ByteArray).data.toList s = false → Rd.peek toks (⟨#[45]⟩ : ByteArray).data.toList s = false → Rd.peek toks (⟨#[116, 121, 112, 101, 111, 102]⟩ : ByteArray).data.toList s = false → At toks c j whole (Ty.bnd (Ty.simpleM toks T E S) fun a => Ty.behind toks T E (toks.length + 1) a) s) := fun h1 h2 h3 => h.congr (fun e => by
   show (if Ty.prefixes.any (fun x => Ty.is toks x s.st.pos) = true then _ else _ : Ty.M Nat) s.st = _
   rw [if_neg]
   intro hh
   obtain ⟨x, hx, hi⟩ := List.any_eq_true.1 hh
   have hall : ∀ x, x ∈ Ty.prefixes → Rd.peek toks x s = false := fun x hx => by
     simp [Ty.prefixes] at hx
     rcases hx with rfl | rfl | rfl
     · exact h1
     · exact h2
     · exact h3
   have := hall x hx
   unfold Rd.peek at this
   rw [e, hi] at this
   cases this)
 have hns := h.ns
 have HP0 := qh (fun w1 (hb : Below w.heap.size w w1) (x : ByteArray) R hR => peek_any w1 pb d toks s (hlk.below hb) x (R := R) hR)
 clear hR H hE hT hO hatom hL h hlk
 generalize Ty.cur toks s.st.pos = t at *
 obtain ⟨kd, tx, tp⟩ := t
 dsimp only at t0 t1 t2
 have HPRE2 : Hid (∀ x : ByteArray, x.data.toList ∈ Ty.prefixes → Rd.peek toks x.data.toList s = true → s.f = none ∧ s.st.pos + 1 < toks.length ∧ At toks 0 (j + 1) whole (Ty.bnd O fun a => Ty.addNode { Ty.ndOf 13 tp with text := tx, a := a }) (Rd.next s)) := HPRE.out
 have HP1 := qh (fun w1 hb R hR => HP0.out w1 hb ⟨#[33]⟩ R hR)
 have HP2 := qh (fun w1 hb R hR => HP0.out w1 hb ⟨#[45]⟩ R hR)
 have HP3 := qh (fun w1 hb R hR => HP0.out w1 hb ⟨#[116, 121, 112, 101, 111, 102]⟩ R hR)
 have HG1 := qh (HPRE2.out ⟨#[33]⟩ (by decide))
 have HG2 := qh (HPRE2.out ⟨#[45]⟩ (by decide))
 have HG3 := qh (HPRE2.out ⟨#[116, 121, 112, 101, 111, 102]⟩ (by decide))
 clear HPRE HPRE2 HP0
 generalize Rd.peek toks (⟨#[33]⟩ : ByteArray).data.toList s = b1 at *
 generalize Rd.peek toks (⟨#[45]⟩ : ByteArray).data.toList s = b2 at *
 generalize Rd.peek toks (⟨#[116, 121, 112, 101, 111, 102]⟩ : ByteArray).data.toList s = b3 at *
 go_enter Tryz.func180, Tryz.ntmps180
 go_wp2_with fail
 go_quiet (fail)
 generalize nq = n1 at *
 go_wp2_with fail
 go_quiet (fail)
 go_wp2_with fail
 generalize n1 + nq = nn at *
 have hbq : Below w.heap.size w (w.drewN nn) := Go.below_drewN (Below.refl _ _) _
 have H1 := qh (HS.out.below hbq)
 have HP1' := qh (HP1.out _ hbq)
 have HP2' := qh (fun w2 (hb : Below (w.drewN nn).heap.size (w.drewN nn) w2) R hR => HP2.out w2 (below_trans hbq hb) R hR)
 have HP3' := qh (fun w2 (hb : Below (w.drewN nn).heap.size (w.drewN nn) w2) R hR => HP3.out w2 (below_trans hbq hb) R hR)
 clear HP1 HP2 HP3 c0 c1 t0 t1 t2 f0
 generalize w.drewN nn = w1 at *
 clear hbq
 refine HP1'.out _ (fun w2 hb2 => ?_)
 have H2 := qh (H1.out.below hb2)
 have HB2 := qh hb2
 clear hb2
 cases b1
 rotate_left
 · skip
   obtain ⟨hf, hlt1, hA1⟩ := HG1.out (by first | trivial | rfl)
   obtain ⟨f0, c1, _⟩ := H2.out.lookR.cells
   have hpb2 := H2.out.lookR.lt
   have hpos2 := H2.out.lookR.fits.1
   have h5 := H2.out.nextR hlt1
   have HF : Hid ((Rd.next s).f = none) := hf
   have HA1 := qh hA1
   have H5 := qh h5
   have hnl : (Rd.next s).st.ns.length ≤ toks.length + 1 + c := hns
   generalize Rd.next s = q at *
   clear hf hA1 h5 HG1 HG2 HG3 HREST HP1' HP2' HP3'
   go_wp2_with fail
   clear c1 f0
   rcases HO.out with ⟨hd, hO⟩ | ⟨hd, hO⟩
   · refine enter_any H5.out (by omega) (fun w7 h7 => ?_)
     rw [if_pos hd] at h7 ⊢
     have hw : (Rd.wrong toks 8 q).f.isNone = false := by unfold Rd.wrong; rw [HF.out]; rfl
     rw [hw]
     have hA2 : At toks 0 (j + 1) whole (Ty.addNode { Ty.ndOf 13 tp with text := tx }) (Rd.wrong toks 8 q) := At.fail (e := 8) (k := fun a => Ty.addNode { Ty.ndOf 13 tp with text := tx, a := a }) (by rw [← hO]; exact HA1.out) _ _
     have HA2 := qh (hA2.addN'.mono (by omega : 0 + 1 ≤ K) (Nat.le_refl j))
     have hn2 := hA2.ns
     have H7 := qh h7
     clear h7 hA2 hw hd hO
     go_wp2_with fail
     refine leave_any H7.out (fun w8 h8 => ?_)
     have H8 := qh h8
     clear h8
     go_wp2_with fail
     refine add_any { Ty.ndOf 13 tp with text := tx } (.slice none 0 0) (H8.out.nil 3 1) (by omega) (fun w9 h9 => ?_)
     have H9 := qh h9
     clear h9
     go_wp2_with fail
     exact HR.out _ _ _ HA2.out H9.out
   · refine enter_any H5.out (by omega) (fun w7 h7 => ?_)
     rw [if_neg (by omega)] at h7 ⊢
     have hw : q.f.isNone = true := by rw [HF.out]; rfl
     rw [hw]
     obtain ⟨w3', hx, hback⟩ := HA1.out.use
     have HX := qh hx
     have HBK := qh hback
     have H7 := qh h7
     have HOX := qh hO
     clear h7 hx hback hw hO
     go_wp2_with fail
     refine HOX.out _ _ _ pb _ 0 (j + 1) (K - 1) w3' (by omega) (by omega) (by omega) HX.out H7.out _ (fun a s8 w8 h8 h9 => ?_)
     obtain ⟨h10, _⟩ := HBK.out _ _ _ h8
     have h11 := h10.addN'
     have e1 : K - 1 + 1 = K := by omega
     rw [e1] at h11
     have hn3 := h10.ns
     have HA2 := qh h11
     have H9 := qh h9
     clear h8 h9 h10 h11 HX HBK e1
     go_wp2_with fail
     refine leave_any H9.out (fun w10 h12 => ?_)
     have H12 := qh h12
     clear h12
     go_wp2_with fail
     refine add_any { Ty.ndOf 13 tp with text := tx, a := a } (.slice none 0 0) (H12.out.nil 3 1) (by omega) (fun w9 h9 => ?_)
     have H13 := qh h9
     clear h9
     go_wp2_with fail
     exact HR.out _ _ _ HA2.out H13.out
 go_wp2_with fail
 refine HP2'.out _ HB2.out _ (fun w3 hb3 => ?_)
 have H3 := qh (H2.out.below hb3)
 have HB3 := qh (below_trans HB2.out hb3)
 clear hb3
 cases b2
 rotate_left
 · skip
   obtain ⟨hf, hlt1, hA1⟩ := HG2.out (by first | trivial | rfl)
   obtain ⟨f0, c1, _⟩ := H3.out.lookR.cells
   have hpb2 := H3.out.lookR.lt
   have hpos2 := H3.out.lookR.fits.1
   have h5 := H3.out.nextR hlt1
   have HF : Hid ((Rd.next s).f = none) := hf
   have HA1 := qh hA1
   have H5 := qh h5
   have hnl : (Rd.next s).st.ns.length ≤ toks.length + 1 + c := hns
   generalize Rd.next s = q at *
   clear hf hA1 h5 HG1 HG2 HG3 HREST HP1' HP2' HP3'
   go_wp2_with fail
   clear c1 f0
   rcases HO.out with ⟨hd, hO⟩ | ⟨hd, hO⟩
   · refine enter_any H5.out (by omega) (fun w7 h7 => ?_)
     rw [if_pos hd] at h7 ⊢
     have hw : (Rd.wrong toks 8 q).f.isNone = false := by unfold Rd.wrong; rw [HF.out]; rfl
     rw [hw]
     have hA2 : At toks 0 (j + 1) whole (Ty.addNode { Ty.ndOf 13 tp with text := tx }) (Rd.wrong toks 8 q) := At.fail (e := 8) (k := fun a => Ty.addNode { Ty.ndOf 13 tp with text := tx, a := a }) (by rw [← hO]; exact HA1.out) _ _
     have HA2 := qh (hA2.addN'.mono (by omega : 0 + 1 ≤ K) (Nat.le_refl j))
     have hn2 := hA2.ns
     have H7 := qh h7
     clear h7 hA2 hw hd hO
     go_wp2_with fail
     refine leave_any H7.out (fun w8 h8 => ?_)
     have H8 := qh h8
     clear h8
     go_wp2_with fail
     refine add_any { Ty.ndOf 13 tp with text := tx } (.slice none 0 0) (H8.out.nil 3 1) (by omega) (fun w9 h9 => ?_)
     have H9 := qh h9
     clear h9
     go_wp2_with fail
     exact HR.out _ _ _ HA2.out H9.out
   · refine enter_any H5.out (by omega) (fun w7 h7 => ?_)
     rw [if_neg (by omega)] at h7 ⊢
     have hw : q.f.isNone = true := by rw [HF.out]; rfl
     rw [hw]
     obtain ⟨w3', hx, hback⟩ := HA1.out.use
     have HX := qh hx
     have HBK := qh hback
     have H7 := qh h7
     have HOX := qh hO
     clear h7 hx hback hw hO
     go_wp2_with fail
     refine HOX.out _ _ _ pb _ 0 (j + 1) (K - 1) w3' (by omega) (by omega) (by omega) HX.out H7.out _ (fun a s8 w8 h8 h9 => ?_)
     obtain ⟨h10, _⟩ := HBK.out _ _ _ h8
     have h11 := h10.addN'
     have e1 : K - 1 + 1 = K := by omega
     rw [e1] at h11
     have hn3 := h10.ns
     have HA2 := qh h11
     have H9 := qh h9
     clear h8 h9 h10 h11 HX HBK e1
     go_wp2_with fail
     refine leave_any H9.out (fun w10 h12 => ?_)
     have H12 := qh h12
     clear h12
     go_wp2_with fail
     refine add_any { Ty.ndOf 13 tp with text := tx, a := a } (.slice none 0 0) (H12.out.nil 3 1) (by omega) (fun w9 h9 => ?_)
     have H13 := qh h9
     clear h9
     go_wp2_with fail
     exact HR.out _ _ _ HA2.out H13.out
 go_wp2_with fail
 refine HP3'.out _ HB3.out _ (fun w4 hb4 => ?_)
 have H4 := qh (H3.out.below hb4)
 clear hb4
 cases b3
 rotate_left
 · skip
   obtain ⟨hf, hlt1, hA1⟩ := HG3.out (by first | trivial | rfl)
   obtain ⟨f0, c1, _⟩ := H4.out.lookR.cells
   have hpb2 := H4.out.lookR.lt
   have hpos2 := H4.out.lookR.fits.1
   have h5 := H4.out.nextR hlt1
   have HF : Hid ((Rd.next s).f = none) := hf
   have HA1 := qh hA1
   have H5 := qh h5
   have hnl : (Rd.next s).st.ns.length ≤ toks.length + 1 + c := hns
   generalize Rd.next s = q at *
   clear hf hA1 h5 HG1 HG2 HG3 HREST HP1' HP2' HP3'
   go_wp2_with fail
   clear c1 f0
   rcases HO.out with ⟨hd, hO⟩ | ⟨hd, hO⟩
   · refine enter_any H5.out (by omega) (fun w7 h7 => ?_)
     rw [if_pos hd] at h7 ⊢
     have hw : (Rd.wrong toks 8 q).f.isNone = false := by unfold Rd.wrong; rw [HF.out]; rfl
     rw [hw]
     have hA2 : At toks 0 (j + 1) whole (Ty.addNode { Ty.ndOf 13 tp with text := tx }) (Rd.wrong toks 8 q) := At.fail (e := 8) (k := fun a => Ty.addNode { Ty.ndOf 13 tp with text := tx, a := a }) (by rw [← hO]; exact HA1.out) _ _
     have HA2 := qh (hA2.addN'.mono (by omega : 0 + 1 ≤ K) (Nat.le_refl j))
     have hn2 := hA2.ns
     have H7 := qh h7
     clear h7 hA2 hw hd hO
     go_wp2_with fail
     refine leave_any H7.out (fun w8 h8 => ?_)
     have H8 := qh h8
     clear h8
     go_wp2_with fail
     refine add_any { Ty.ndOf 13 tp with text := tx } (.slice none 0 0) (H8.out.nil 3 1) (by omega) (fun w9 h9 => ?_)
     have H9 := qh h9
     clear h9
     go_wp2_with fail
     exact HR.out _ _ _ HA2.out H9.out
   · refine enter_any H5.out (by omega) (fun w7 h7 => ?_)
     rw [if_neg (by omega)] at h7 ⊢
     have hw : q.f.isNone = true := by rw [HF.out]; rfl
     rw [hw]
     obtain ⟨w3', hx, hback⟩ := HA1.out.use
     have HX := qh hx
     have HBK := qh hback
     have H7 := qh h7
     have HOX := qh hO
     clear h7 hx hback hw hO
     go_wp2_with fail
     refine HOX.out _ _ _ pb _ 0 (j + 1) (K - 1) w3' (by omega) (by omega) (by omega) HX.out H7.out _ (fun a s8 w8 h8 h9 => ?_)
     obtain ⟨h10, _⟩ := HBK.out _ _ _ h8
     have h11 := h10.addN'
     have e1 : K - 1 + 1 = K := by omega
     rw [e1] at h11
     have hn3 := h10.ns
     have HA2 := qh h11
     have H9 := qh h9
     clear h8 h9 h10 h11 HX HBK e1
     go_wp2_with fail
     refine leave_any H9.out (fun w10 h12 => ?_)
     have H12 := qh h12
     clear h12
     go_wp2_with fail
     refine add_any { Ty.ndOf 13 tp with text := tx, a := a } (.slice none 0 0) (H12.out.nil 3 1) (by omega) (fun w9 h9 => ?_)
     have H13 := qh h9
     clear h9
     go_wp2_with fail
     exact HR.out _ _ _ HA2.out H13.out
 obtain ⟨w2', hx, hback⟩ := (HREST.out (by first | trivial | rfl) (by first | trivial | rfl) (by first | trivial | rfl)).use
 have HX := qh hx
 have HBK := qh hback
 clear hx hback HREST HG1 HG2 HG3 HP1' HP2' HP3'
 go_wp2_with fail
 refine HAT.out _ _ _ pb _ c j K w2' (by omega) (by omega) hK HX.out H4.out _ (fun n s5 w5 h5 h6 => ?_)
 obtain ⟨h7, h8⟩ := HBK.out _ _ _ h5
 have hh := (has_ret hNS h8).1
 have HA5 := qh h7
 have HH := qh hh
 have H5 := qh h6
 clear h5 h6 h7 h8 hh HX HBK
 go_wp2_with fail
 refine tails_any HL.out HTX.out HEX.out hAT hA hN n (Nat.le_refl K) (by omega) hK HA5.out HH.out H5.out (fun m s6 w6 h7 h8 => ?_)
 have HA6 := qh h7
 have H6 := qh h8
 clear h7 h8
 go_wp2_with fail
 exact HR.out _ _ _ HA6.out H6.out
end
end
end Go.Proofs.YtdlbhiaceheffaaGreatDoor
