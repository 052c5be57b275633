/- The reference's reader of programs: inner. -/
import Derived.Test.YtdlbhiaceheffabGreatDoorY35
import Derived.Test.YtdlbhiaceheffabGreatDoorY29
set_option linter.all false
set_option maxRecDepth 100000
set_option maxHeartbeats 16000000
namespace Go.Proofs.YtdlbhiaceheffabGreatDoor
section
open Go Go.RowKit
open Prt (Sat As blk pur exs star ah)
open Rd (At)
theorem Prt.Sat.DD {w0 w : World} {Fr : As} {pb d : Nat} {af : List Tok.Tk} {s : Rd.RS} (h : Sat w0 w [Fr, rdA pb d af s]) {n : Nat} (hn : n < s.st.ns.length) :
   ∃ g cap, w.cell? ⟨pb, 3, none⟩ = some (.slice (some ⟨g, 0, none⟩) s.st.ns.length cap) ∧ s.st.ns.length ≤ cap ∧ cap ≤ maxLen ∧ Sat w0 (w.setCell ⟨pb, 3, none⟩ (.slice (some ⟨g, 0, none⟩) n cap)) [Fr, rdA pb d af ⟨{ s.st with ns := s.st.ns.take n }, s.f⟩] := by
 obtain ⟨g, cap, lv, c3, hg, h2, h3, _, _⟩ := h.sO hn
 obtain ⟨⟨lv0, nv, tv, main⟩, rows, hs⟩ := (h.fH (P := fun _ => True) (fun _ => trivial)).vX
 have hs : Sat w0 w (Fr :: (fun _ => True) :: CV pb d af s (lv0, nv, tv, main) s.st.ns.length (rows.flatMap aY) rows s.st.ns) := hs
 have hq := hs.pure 2 rfl
 have hr := hs.pure 6 rfl
 have hl : (s.st.ns.take n).length = n := by rw [List.length_take]; omega
 have e3 := hs.cell 3 rfl 3 rfl
 rw [c3] at e3
 dsimp only at e3
 obtain rfl := Option.some.inj e3
 refine ⟨g, cap, c3, h2, h3, ?_⟩
 have h := hs.store 3 rfl 3 (.slice (some ⟨g, 0, none⟩) n cap)
 have h := h.ent (i := 7) rfl (Q := Prt.row 66 9 (.slice (some ⟨g, 0, none⟩) n cap) (s.st.ns.take n).length ((rows.take n).flatMap aY)) (fun a ha => by rw [hl, ← jL aY 9 (fun _ => rfl)]; exact rD (by omega) ha)
 have h := h.ent (i := 6) rfl (Q := pur ((rows.take n).map NdRow.t = s.st.ns.take n)) (fun a _ => by show _ = _; rw [List.map_take, hr])
 have h := h.ent (i := 8) rfl (Q := ah ((rows.take n).map iP)) (fun a ha => by rw [List.map_take]; exact lL n ha)
 have h := Prt.Sat.pack (L := [Fr, _, _, _, _]) (M := [_, _, _]) (h.pick [0, 2, 3, 4, 5, 6, 7, 8])
 have h := h.ent (i := 5) rfl (Q := ndA (.slice (some ⟨g, 0, none⟩) n cap) (s.st.ns.take n)) (fun a ha => ⟨_, ha⟩)
 exact Prt.Sat.shutRd (s := ⟨{ s.st with ns := s.st.ns.take n }, s.f⟩) (p := (lv0, .slice (some ⟨g, 0, none⟩) n cap, tv, main)) (h.pick [0, 1, 2, 3, 5, 4])
namespace Rd
def mg (a : Nat) (s : RS) : RS := ⟨{ s.st with ns := s.st.ns.take a, pos := s.st.pos + 1 }, s.f⟩
theorem At.cut {γ : Type} {af : List Tok.Tk} {c j : Nat} {whole : Except Ty.Ft (γ × Ty.St)} {s : RS} {m m' : Ty.M γ} {a : Nat} (h : At af c j whole m s) (hf : s.f = none) (hlt : s.st.pos + 1 < af.length) (e : m s.st = m' { s.st with ns := s.st.ns.take a, pos := s.st.pos + 1 }) : At af 0 (j + 1) whole m' (mg a s) := by
 rcases h with ⟨h1, ⟨h2, h3, h4⟩, h5⟩ | ⟨f, h1, _⟩
 · refine .inl ⟨h1, ⟨hlt, ?_, ?_⟩, h5.trans e⟩
   · show s.st.ts.length + (j + 1) ≤ s.st.pos + 1; omega
   · show (s.st.ns.take a).length + (j + 1) ≤ s.st.pos + 1 + 1
     rw [List.length_take]; omega
 · rw [hf] at h1; cases h1
end Rd
theorem Prt.Sat.Eb {w0 w : World} {Fr : As} {pb d : Nat} {af : List Tok.Tk} {s : Rd.RS} (h : Sat w0 w [Fr, rdA pb d af s]) {n : Nat} (hn : n < s.st.ns.length) (hlt : s.st.pos + 1 < af.length) :
   ∃ g cap, w.cell? ⟨pb, 3, none⟩ = some (.slice (some ⟨g, 0, none⟩) s.st.ns.length cap) ∧ s.st.ns.length ≤ cap ∧ cap ≤ maxLen ∧ Sat w0 ((w.setCell ⟨pb, 1, none⟩ (.int .i64 ((s.st.pos : Int) + 1))).setCell ⟨pb, 3, none⟩ (.slice (some ⟨g, 0, none⟩) n cap)) [Fr, rdA pb d af (Rd.mg n s)] := by
 obtain ⟨g, cap, c3, h2, h3, h4⟩ := (h.iL hlt).DD (n := n) hn
 obtain ⟨p, hs⟩ := h.jm
 have e1 := hs.cell 2 rfl 3 rfl
 have e2 := (hs.store 2 rfl 1 (.int .i64 ((s.st.pos : Int) + 1))).cell 2 rfl 3 rfl
 rw [c3] at e2
 exact ⟨g, cap, e1.trans e2.symm, h2, h3, h4⟩
namespace Ty
section
variable {af : List Tok.Tk} {T E S : M Nat} {s s1 : St}
theorem ET (h : take af [108, 101, 116] s = .ok (true, s1)) : bareM af T E S s = ba1 af T E (cur af s.pos).pos s1 := by rw [iO, bnd_ok h]; rfl
theorem EX (h0 : take af [108, 101, 116] s = .ok (false, s)) (h : take af [112, 114, 105, 110, 116] s = .ok (true, s1)) : bareM af T E S s = baP af E (cur af s.pos).pos s1 := by rw [iO, bnd_ok h0]; show bnd _ _ s = _; rw [bnd_ok h]; rfl
theorem E5 (h0 : take af [108, 101, 116] s = .ok (false, s)) (h1 : take af [112, 114, 105, 110, 116] s = .ok (false, s)) (h : take af [114, 101, 116, 117, 114, 110] s = .ok (true, s1)) : bareM af T E S s = baR af E (cur af s.pos).pos s1 := by rw [iO, bnd_ok h0]; show bnd _ _ s = _; rw [bnd_ok h1]; show bnd _ _ s = _; rw [bnd_ok h]; rfl
theorem EU (h0 : take af [108, 101, 116] s = .ok (false, s)) (h1 : take af [112, 114, 105, 110, 116] s = .ok (false, s)) (h2 : take af [114, 101, 116, 117, 114, 110] s = .ok (false, s)) : bareM af T E S s = baC af E S (cur af s.pos).pos s := by rw [iO, bnd_ok h0]; show bnd _ _ s = _; rw [bnd_ok h1]; show bnd _ _ s = _; rw [bnd_ok h2]; rfl
theorem Du {ps : Nat} (h : is af [105, 102] s.pos = true) : baC af E S ps s = br1 af E S true ps { s with pos := s.pos + 1 } := by
 show (if is af [105, 102] s.pos = true then _ else _ : M Nat) s = _; rw [if_pos h]; rfl
theorem DK {ps : Nat} (h0 : ¬ is af [105, 102] s.pos = true) (h : is af [119, 104, 105, 108, 101] s.pos = true) : baC af E S ps s = br1 af E S false ps { s with pos := s.pos + 1 } := by
 show (if is af [105, 102] s.pos = true then _ else _ : M Nat) s = _; rw [if_neg h0, if_pos h]; rfl
theorem Dx {ps : Nat} (h0 : ¬ is af [105, 102] s.pos = true) (h : ¬ is af [119, 104, 105, 108, 101] s.pos = true) : baC af E S ps s = plainM af E s := by
 show (if is af [105, 102] s.pos = true then _ else _ : M Nat) s = _; rw [if_neg h0, if_neg h]
def plK (af : List Tok.Tk) (E : M Nat) (a : Nat) : M Nat := fun s => plB af E a (ndAt s a).kind (ndAt s a).a (ndAt s a).b (ndAt s a).text (ndAt s a).pos s
theorem Ba : plainM af E s = bnd E (fun a => plK af E a) s := by
 cases h : E s with
 | error f => unfold plainM; rw [bnd_err h, bnd_err h]
 | ok p => obtain ⟨a, s1⟩ := p; rw [nJ h, bnd_ok h]; rfl
theorem Eg {a kd fa fb ps : Nat} {tx : ByteArray} (h : ¬ is af [61] s.pos = true) : plB af E a kd fa fb tx ps s = plD af (uh ps a) s := by unfold plB; rw [if_neg h]
theorem Dw {a kd fa fb ps : Nat} {tx : ByteArray} (h : is af [61] s.pos = true) (hk : kd = 5) : plB af E a kd fa fb tx ps s = plC af E (nS tx ps) { s with ns := s.ns.take a, pos := s.pos + 1 } := by unfold plB; rw [if_pos h, if_pos hk]
theorem Dy {a kd fa fb ps : Nat} {tx : ByteArray} (h : is af [61] s.pos = true) (hk : kd = 8) : plB af E a kd fa fb tx ps s = plC af E (oO tx ps fa) { s with ns := s.ns.take a, pos := s.pos + 1 } := by unfold plB; rw [if_pos h, if_neg (by omega), if_pos hk]
theorem DC {a kd fa fb ps : Nat} {tx : ByteArray} (h : is af [61] s.pos = true) (hk : kd = 9) : plB af E a kd fa fb tx ps s = plC af E (nX ps fa fb) { s with ns := s.ns.take a, pos := s.pos + 1 } := by unfold plB; rw [if_pos h, if_neg (by omega), if_neg (by omega), if_pos hk]
theorem Bj {a kd fa fb ps : Nat} {tx : ByteArray} (h : is af [61] s.pos = true) (h5 : kd ≠ 5) (h8 : kd ≠ 8) (h9 : kd ≠ 9) : plB af E a kd fa fb tx ps s = bnd (fail af 1) ret s := by unfold plB; rw [if_pos h, if_neg h5, if_neg h8, if_neg h9]; rfl
end
end Ty
section
variable {af : List Tok.Tk} {d k : Nat} {T E S : Ty.M Nat}
theorem yl (hL : ∀ t, af.getLast? = some t → t.kind = 6) (hT : RSp 291 af d k 0 T) (hE : RSp 232 af d k 0 E) (hS : RSp 87 af d k 0 S) (hA : Ty.Adv 1 0 0 E) (hAS : Ty.Adv 1 0 0 S) (hN : Ty.Nx E)
   {w0 w : World} {Fr : As} {pb : Nat} {s : Rd.RS} {j K : Nat} {whole : Except Ty.Ft (Nat × Ty.St)} (hk : k + 4 ≤ K) (hK : K ≤ 380) (hf : s.f = none) (h : At af 0 j whole (Ty.bareM af T E S) s) (H : Sat w0 w [Fr, rdA pb d af s]) {R : Ending → World → Prop}
   (hR : ∀ n s' w', At af K j whole (Ty.ret n) s' → Sat w0 w' [Fr, rdA pb d af s'] → R (.returned (.int .i64 (n : Nat))) w') : Calls Tryz.prog 139 #[.pointer (some ⟨pb, 0, none⟩)] w R := by
 have HR := qh hR
 have HS := qh H
 have HEX := qh hE
 have HTX := qh hT
 have HBR := qh (lD hL hS hAS)
 have HL := qh hL
 have HF := qh hf
 have htl := H.az.wf.1
 have hlk := H.az
 obtain ⟨f0, c1, _, _, _, g0, cap, c0, hg, t0, t1, t2⟩ := hlk.cells
 have hpb := hlk.lt
 have hpos := hlk.fits.1
 have hns := h.ns
 have HPK : Hid (∀ (x : ByteArray) (m' : Ty.M Nat), Rd.peek af x.data.toList s = true → Ty.bareM af T E S s.st = m' { s.st with pos := s.st.pos + 1 } → At af 0 (j + 1) whole m' (Rd.next s)) := fun x m' hp e => h.go' hL hp e
 have HCG : Hid (∀ m' : Ty.M Nat, Ty.bareM af T E S s.st = m' s.st → At af 0 j whole m' s) := fun m' e => h.congr (fun _ => e)
 have HQ0 := qh (@Ty.ET af T E S s.st { s.st with pos := s.st.pos + 1 })
 have HQ1 := qh (@Ty.EX af T E S s.st { s.st with pos := s.st.pos + 1 })
 have HQ2 := qh (@Ty.E5 af T E S s.st { s.st with pos := s.st.pos + 1 })
 have HQ3 := qh (@Ty.EU af T E S s.st)
 clear hR H hE hT hS hL h hlk hf
 generalize Ty.cur af s.st.pos = t at *
 obtain ⟨kd, tx, tp⟩ := t
 dsimp only at t0 t1 t2
 go_enter Tryz.func139, Tryz.ntmps139
 go_wp2_with fail
 go_region
 have h4 := ((HS.out.aj (.cells #[.int .i64 0, .int .i64 0, .int .i64 0, .int .i64 0, .slice none 0 0, .string ⟨#[]⟩, .int .i64 0, .int .i64 (-1), .int .i64 tp] 66) w.heap.size)).drew
 have h4 : Sat w0 _ [Fr, rdA pb d af s, blk w.heap.size (.cells #[.int .i64 0, .int .i64 0, .int .i64 0, .int .i64 0, .slice none 0 0, .string ⟨#[]⟩, .int .i64 0, .int .i64 (-1), .int .i64 tp] 66 (0, 0))] := h4
 have H4 := qh h4
 clear h4
 go_wp2_with fail
 refine aW (H4.out.at 1 rfl) ⟨#[108, 101, 116]⟩ (fun w5 ha h5 => ?_) (fun w5 ha h5 => ?_)
 · have hA := HPK.out ⟨#[108, 101, 116]⟩ _ ha (HQ0.out (Rd.cZ ha))
   have HA5 := qh (At.ident HL.out (show At af 0 (j + 1) whole (Ty.bnd (Ty.name af []) fun x => Ty.ba2 af T E tp x) (Rd.next s) from hA))
   have k5 := h5.un3
   have y5_0 := k5.cell 2 rfl 0 rfl
   have f5 := k5.free 2 rfl
   have z5 := k5.lt 2 rfl
   have m5 := (k5.store 2 rfl 0 (.int .i64 17))
   have H5 := qh m5
   clear k5 m5 ha h5 hA HPK HCG HQ0 HQ1 HQ2 HQ3
   go_wp2_with fail
   clear f5 y5_0
   refine fB (H5.out.at 1 rfl) _ [] (nilRow _) (by simp) (fun w6 h6 => ?_)
   have h6' := h6.un3
   generalize Rd.ident af [] (Rd.next s) = xq at *
   obtain ⟨x, q6⟩ := xq
   dsimp only at h6' HA5 ⊢
   obtain ⟨w1', hx, hback⟩ := HA5.out.use
   have HX := qh hx
   have HBK := qh hback
   have k6 := h6'
   have y6_5 := k6.cell 2 rfl 5 rfl
   have f6 := k6.free 2 rfl
   have z6 := k6.lt 2 rfl
   have m6 := (k6.store 2 rfl 5 (.string x))
   have H6 := qh m6
   clear k6 m6 h6 h6' hx hback HA5
   go_wp2_with fail
   clear f6 y6_5
   refine dW HL.out HTX.out (K := K - 1) (Nat.zero_le _) (by omega) (by omega) HX.out (H6.out.at 1 rfl) (fun tn q7 w7 h7 h8 => ?_)
   obtain ⟨h9, _⟩ := HBK.out _ _ _ h7
   have HA7 := qh (At.must HL.out (show At af (K - 1) (j + 1 + 1) whole (Ty.bnd (Ty.need af [61]) fun _ => Ty.ba4 af E tp x tn) q7 from h9))
   have k7 := h8.un3
   have y7_7 := k7.cell 2 rfl 7 rfl
   have f7 := k7.free 2 rfl
   have z7 := k7.lt 2 rfl
   have m7 := (k7.store 2 rfl 7 (.int .i64 tn))
   have H7 := qh m7
   clear k7 m7 h7 h8 h9 HX HBK
   go_wp2_with fail
   clear f7 y7_7
   refine aS (H7.out.at 1 rfl) ⟨#[61]⟩ (fun w8 h8 => ?_)
   obtain ⟨w2', hx, hback⟩ := HA7.out.use
   have h8' : Sat w0 w8 [Fr, rdA pb d af (Rd.must af [61] q7), _] := h8.un3
   have HX := qh hx
   have HBK := qh hback
   have H8 := qh h8'
   clear h8 h8' hx hback HA7
   generalize Rd.must af [61] q7 = q8 at *
   go_wp2_with fail
   refine HEX.out _ _ _ pb _ (K - 1) (j + 1 + 1 + 1) (K - 1) w2' (by omega) (by omega) (by omega) HX.out (H8.out.at 1 rfl) _ (fun a q9 w9 h9 h10 => ?_)
   obtain ⟨h11, _⟩ := HBK.out _ _ _ h9
   have HA9 := qh (h11.mono (Nat.le_refl _) (by omega : j ≤ j + 1 + 1 + 1))
   have k9 := h10.un3
   have y9_1 := k9.cell 2 rfl 1 rfl
   have f9 := k9.free 2 rfl
   have z9 := k9.lt 2 rfl
   have m9 := (k9.store 2 rfl 1 (.int .i64 (a : Nat)))
   have H9 := qh m9
   clear k9 m9 h9 h10 h11 HX HBK
   go_wp2_with fail
   clear f9 y9_1
   refine aS (H9.out.at 1 rfl) ⟨#[59]⟩ (fun w10 h10 => ?_)
   have a10 := At.must HL.out (show At af (K - 1) j whole (Ty.bnd (Ty.need af [59]) fun _ => Ty.addNode (Ty.xY tp x tn a)) q9 from HA9.out)
   have b10 := a10.di
   have e1 : K - 1 + 1 = K := by omega
   rw [e1] at b10
   have ns10 := a10.ns
   have HB10 := qh b10
   have k10 := h10.un3
   have q0 := k10.cell 2 rfl 0 rfl
   have q1 := k10.cell 2 rfl 1 rfl
   have q2 := k10.cell 2 rfl 2 rfl
   have q3 := k10.cell 2 rfl 3 rfl
   have q4 := k10.cell 2 rfl 4 rfl
   have q5 := k10.cell 2 rfl 5 rfl
   have q6 := k10.cell 2 rfl 6 rfl
   have q7 := k10.cell 2 rfl 7 rfl
   have q8 := k10.cell 2 rfl 8 rfl
   have z10 := k10.lt 2 rfl
   have H10 := qh k10
   generalize Rd.must af [59] q9 = sz at *
   clear h10 a10 b10 k10 e1
   go_wp2_with fail
   refine add_any (Ty.xY tp x tn a) (.slice none 0 0) (((H10.out.nil 3 1)).pick [0, 1, 3]) (by omega) (fun w11 h11 => ?_)
   have H11 := qh h11
   clear h11
   go_wp2_with fail
   exact HR.out _ _ _ HB10.out H11.out
 have HZ11 := qh ha
 have H11 := qh h5.un3
 clear ha h5
 go_wp2_with fail
 refine aW (H11.out.at 1 rfl) ⟨#[112, 114, 105, 110, 116]⟩ (fun w12 ha h12 => ?_) (fun w12 ha h12 => ?_)
 · have hA := HPK.out ⟨#[112, 114, 105, 110, 116]⟩ _ ha (HQ1.out (Rd.aF HF.out HZ11.out) (Rd.cZ ha))
   obtain ⟨w1', hx, hback⟩ := (show At af 0 (j + 1) whole (Ty.bnd E fun a => Ty.baD af (Ty.vz tp a)) (Rd.next s) from hA).use
   have HX := qh hx
   have HBK := qh hback
   have k12 := h12.un3
   have y12_0 := k12.cell 2 rfl 0 rfl
   have f12 := k12.free 2 rfl
   have z12 := k12.lt 2 rfl
   have m12 := (k12.store 2 rfl 0 (.int .i64 21))
   have H12 := qh m12
   clear k12 m12 ha h12 hA hx hback HPK HCG HQ0 HQ1 HQ2 HQ3
   go_wp2_with fail
   clear f12 y12_0
   refine HEX.out _ _ _ pb _ 0 (j + 1) (K - 1) w1' (by omega) (by omega) (by omega) HX.out (H12.out.at 1 rfl) _ (fun a q9 w9 h9 h10 => ?_)
   obtain ⟨h11, _⟩ := HBK.out _ _ _ h9
   have HA9 := qh (h11.mono (Nat.le_refl _) (by omega : j ≤ j + 1))
   have k9 := h10.un3
   have y9_1 := k9.cell 2 rfl 1 rfl
   have f9 := k9.free 2 rfl
   have z9 := k9.lt 2 rfl
   have m9 := (k9.store 2 rfl 1 (.int .i64 (a : Nat)))
   have H9 := qh m9
   clear k9 m9 h9 h10 h11 HX HBK
   go_wp2_with fail
   clear f9 y9_1
   refine aS (H9.out.at 1 rfl) ⟨#[59]⟩ (fun w40 h40 => ?_)
   have a40 := At.must HL.out (show At af (K - 1) j whole (Ty.bnd (Ty.need af [59]) fun _ => Ty.addNode (Ty.vz tp a)) q9 from HA9.out)
   have b40 := a40.di
   have e1 : K - 1 + 1 = K := by omega
   rw [e1] at b40
   have ns40 := a40.ns
   have HB40 := qh b40
   have k40 := h40.un3
   have q0 := k40.cell 2 rfl 0 rfl
   have q1 := k40.cell 2 rfl 1 rfl
   have q2 := k40.cell 2 rfl 2 rfl
   have q3 := k40.cell 2 rfl 3 rfl
   have q4 := k40.cell 2 rfl 4 rfl
   have q5 := k40.cell 2 rfl 5 rfl
   have q6 := k40.cell 2 rfl 6 rfl
   have q7 := k40.cell 2 rfl 7 rfl
   have q8 := k40.cell 2 rfl 8 rfl
   have z40 := k40.lt 2 rfl
   have H40 := qh k40
   generalize Rd.must af [59] q9 = sz at *
   clear h40 a40 b40 k40 e1
   go_wp2_with fail
   refine add_any (Ty.vz tp a) (.slice none 0 0) (((H40.out.nil 3 1)).pick [0, 1, 3]) (by omega) (fun w41 h41 => ?_)
   have H41 := qh h41
   clear h41
   go_wp2_with fail
   exact HR.out _ _ _ HB40.out H41.out
 have HZ13 := qh ha
 have H13 := qh h12.un3
 clear ha h12
 go_wp2_with fail
 refine aW (H13.out.at 1 rfl) ⟨#[114, 101, 116, 117, 114, 110]⟩ (fun w14 ha h14 => ?_) (fun w14 ha h14 => ?_)
 · have hA := HPK.out ⟨#[114, 101, 116, 117, 114, 110]⟩ _ ha (HQ2.out (Rd.aF HF.out HZ11.out) (Rd.aF HF.out HZ13.out) (Rd.cZ ha))
   obtain ⟨w1', hx, hback⟩ := (show At af 0 (j + 1) whole (Ty.bnd E fun a => Ty.baD af (Ty.su tp a)) (Rd.next s) from hA).use
   have HX := qh hx
   have HBK := qh hback
   have k14 := h14.un3
   have y14_0 := k14.cell 2 rfl 0 rfl
   have f14 := k14.free 2 rfl
   have z14 := k14.lt 2 rfl
   have m14 := (k14.store 2 rfl 0 (.int .i64 24))
   have H14 := qh m14
   clear k14 m14 ha h14 hA hx hback HPK HCG HQ0 HQ1 HQ2 HQ3
   go_wp2_with fail
   clear f14 y14_0
   refine HEX.out _ _ _ pb _ 0 (j + 1) (K - 1) w1' (by omega) (by omega) (by omega) HX.out (H14.out.at 1 rfl) _ (fun a q9 w9 h9 h10 => ?_)
   obtain ⟨h11, _⟩ := HBK.out _ _ _ h9
   have HA9 := qh (h11.mono (Nat.le_refl _) (by omega : j ≤ j + 1))
   have k9 := h10.un3
   have y9_1 := k9.cell 2 rfl 1 rfl
   have f9 := k9.free 2 rfl
   have z9 := k9.lt 2 rfl
   have m9 := (k9.store 2 rfl 1 (.int .i64 (a : Nat)))
   have H9 := qh m9
   clear k9 m9 h9 h10 h11 HX HBK
   go_wp2_with fail
   clear f9 y9_1
   refine aS (H9.out.at 1 rfl) ⟨#[59]⟩ (fun w40 h40 => ?_)
   have a40 := At.must HL.out (show At af (K - 1) j whole (Ty.bnd (Ty.need af [59]) fun _ => Ty.addNode (Ty.su tp a)) q9 from HA9.out)
   have b40 := a40.di
   have e1 : K - 1 + 1 = K := by omega
   rw [e1] at b40
   have ns40 := a40.ns
   have HB40 := qh b40
   have k40 := h40.un3
   have q0 := k40.cell 2 rfl 0 rfl
   have q1 := k40.cell 2 rfl 1 rfl
   have q2 := k40.cell 2 rfl 2 rfl
   have q3 := k40.cell 2 rfl 3 rfl
   have q4 := k40.cell 2 rfl 4 rfl
   have q5 := k40.cell 2 rfl 5 rfl
   have q6 := k40.cell 2 rfl 6 rfl
   have q7 := k40.cell 2 rfl 7 rfl
   have q8 := k40.cell 2 rfl 8 rfl
   have z40 := k40.lt 2 rfl
   have H40 := qh k40
   generalize Rd.must af [59] q9 = sz at *
   clear h40 a40 b40 k40 e1
   go_wp2_with fail
   refine add_any (Ty.su tp a) (.slice none 0 0) (((H40.out.nil 3 1)).pick [0, 1, 3]) (by omega) (fun w41 h41 => ?_)
   have H41 := qh h41
   clear h41
   go_wp2_with fail
   exact HR.out _ _ _ HB40.out H41.out
 have HZ15 := qh ha
 have H15 := qh h14.un3
 clear ha h14
 have HCC : Hid (Ty.bareM af T E S s.st = Ty.baC af E S tp s.st) := HQ3.out (Rd.aF HF.out HZ11.out) (Rd.aF HF.out HZ13.out) (Rd.aF HF.out HZ15.out)
 clear HQ0 HQ1 HQ2 HQ3
 go_wp2_with fail
 refine aW (H15.out.at 1 rfl) ⟨#[105, 102]⟩ (fun w16 ha h16 => ?_) (fun w16 ha h16 => ?_)
 · have hA := HPK.out ⟨#[105, 102]⟩ _ ha (HCC.out.trans (Ty.Du (Rd.bu ha).2))
   have HA5 := qh (At.must HL.out (show At af 0 (j + 1) whole (Ty.bnd (Ty.need af [40]) fun _ => Ty.br2 af E S true tp) (Rd.next s) from hA))
   have k16 := h16.un3
   have y16_0 := k16.cell 2 rfl 0 rfl
   have y16_3 := k16.cell 2 rfl 3 rfl
   have f16 := k16.free 2 rfl
   have z16 := k16.lt 2 rfl
   have m16 := ((k16.store 2 rfl 0 (.int .i64 22)).store 2 rfl 3 (.int .i64 (-1)))
   have H16 := qh m16
   clear k16 m16 ha h16 hA HPK HCG HCC
   go_wp2_with fail
   clear f16 y16_0 y16_3
   refine aS (H16.out.at 1 rfl) ⟨#[40]⟩ (fun w31 h31 => ?_)
   obtain ⟨w1', hx, hback⟩ := HA5.out.use
   have h31' : Sat w0 w31 [Fr, rdA pb d af (Rd.must af [40] (Rd.next s)), _] := h31.un3
   have HX := qh hx
   have HBK := qh hback
   have H31 := qh h31'
   clear h31 h31' hx hback HA5
   generalize Rd.must af [40] (Rd.next s) = q31 at *
   go_wp2_with fail
   refine HEX.out _ _ _ pb _ 0 (j + 1 + 1) (K - 3) w1' (by omega) (by omega) (by omega) HX.out (H31.out.at 1 rfl) _ (fun a q32 w32 h32 h33 => ?_)
   obtain ⟨h34, _⟩ := HBK.out _ _ _ h32
   have HA32 := qh (At.must HL.out (show At af (K - 3) (j + 1 + 1) whole (Ty.bnd (Ty.need af [41]) fun _ => Ty.br4 af S true tp a) q32 from h34))
   have k32 := h33.un3
   have y32_1 := k32.cell 2 rfl 1 rfl
   have f32 := k32.free 2 rfl
   have z32 := k32.lt 2 rfl
   have m32 := (k32.store 2 rfl 1 (.int .i64 (a : Nat)))
   have H32 := qh m32
   clear k32 m32 h32 h33 h34 HX HBK
   go_wp2_with fail
   clear f32 y32_1
   refine aS (H32.out.at 1 rfl) ⟨#[41]⟩ (fun w33 h33 => ?_)
   obtain ⟨w2', hx, hback⟩ := HA32.out.use
   have h33' : Sat w0 w33 [Fr, rdA pb d af (Rd.must af [41] q32), _] := h33.un3
   have HX := qh hx
   have HBK := qh hback
   have H33 := qh h33'
   clear h33 h33' hx hback HA32
   generalize Rd.must af [41] q32 = q33 at *
   go_wp2_with fail
   refine HBR.out _ _ _ pb _ (K - 3) (j + 1 + 1 + 1) (K - 2) w2' (by omega) (by omega) (by omega) HX.out (H33.out.at 1 rfl) _ (fun b q34 w34 h34 h35 => ?_)
   obtain ⟨h36, _⟩ := HBK.out _ _ _ h34
   have HA34 : Hid (At af (K - 2) (j + 1 + 1 + 1) whole (Ty.br5 af S true tp a b) q34) := h36
   have k34 := h35.un3
   have y34_2 := k34.cell 2 rfl 2 rfl
   have f34 := k34.free 2 rfl
   have z34 := k34.lt 2 rfl
   have m34 := (k34.store 2 rfl 2 (.int .i64 (b : Nat)))
   have H34 := qh m34
   clear k34 m34 h34 h35 h36 HX HBK
   go_wp2_with fail
   clear f34 y34_2
   have HA35 : Hid (At af (K - 2) (j + 1 + 1 + 1) whole (Ty.bnd (Ty.take af [101, 108, 115, 101]) fun e => if e then Ty.bnd (Ty.blockM af S) fun c => Ty.addNode { Ty.ndOf 22 tp with a := a, b := b, c := (c : Int) } else Ty.addNode { Ty.ndOf 22 tp with a := a, b := b, c := -1 }) q34) := HA34.out
   clear HA34
   refine aW (H34.out.at 1 rfl) ⟨#[101, 108, 115, 101]⟩ (fun w36 ha h36 => ?_) (fun w36 ha h36 => ?_)
   · have hA := At.yes HL.out HA35.out ha
     obtain ⟨w3', hx, hback⟩ := (show At af (K - 2) (j + 1 + 1 + 1 + 1) whole (Ty.bnd (Ty.blockM af S) fun c => Ty.addNode { Ty.ndOf 22 tp with a := a, b := b, c := (c : Int) }) (Rd.next q34) from hA).use
     have HX := qh hx
     have HBK := qh hback
     have H36 := qh h36.un3
     clear ha h36 hA hx hback HA35
     go_wp2_with fail
     refine HBR.out _ _ _ pb _ (K - 2) (j + 1 + 1 + 1 + 1) (K - 1) w3' (by omega) (by omega) (by omega) HX.out (H36.out.at 1 rfl) _ (fun c q37 w37 h37 h38 => ?_)
     obtain ⟨h39, _⟩ := HBK.out _ _ _ h37
     have b39 := (h39.mono (Nat.le_refl _) (by omega : j + 1 ≤ j + 1 + 1 + 1 + 1)).di
     have e1 : K - 1 + 1 = K := by omega
     rw [e1] at b39
     have ns39 := h39.ns
     have HB39 := qh b39
     have k39 := h38.un3
     have y3 := k39.cell 2 rfl 3 rfl
     have f39 := k39.free 2 rfl
     have z39 := k39.lt 2 rfl
     have q0 := k39.cell 2 rfl 0 rfl
     have q1 := k39.cell 2 rfl 1 rfl
     have q2 := k39.cell 2 rfl 2 rfl
     have q4 := k39.cell 2 rfl 4 rfl
     have q5 := k39.cell 2 rfl 5 rfl
     have q6 := k39.cell 2 rfl 6 rfl
     have q7 := k39.cell 2 rfl 7 rfl
     have q8 := k39.cell 2 rfl 8 rfl
     have m39 := k39.store 2 rfl 3 (.int .i64 (c : Nat))
     have H39 := qh m39
     clear h37 h38 h39 b39 k39 m39 HX HBK e1
     go_wp2_with fail
     refine add_any ({ Ty.ndOf 22 tp with a := a, b := b, c := (c : Int) }) (.slice none 0 0) (((H39.out.nil 3 1)).pick [0, 1, 3]) (by omega) (fun w50 h50 => ?_)
     have H50 := qh h50
     clear h50
     go_wp2_with fail
     exact HR.out _ _ _ HB39.out H50.out
   · have hA := (show At af (K - 2) (j + 1 + 1 + 1) whole (Ty.addNode { Ty.ndOf 22 tp with a := a, b := b, c := -1 }) q34 from At.no HA35.out ha)
     have b39 := (hA.mono (Nat.le_refl _) (by omega : j + 1 ≤ j + 1 + 1 + 1)).di.mono (by omega : K - 2 + 1 ≤ K) (Nat.le_refl j)
     have ns39 := hA.ns
     have HB39 := qh b39
     have k39 := h36.un3
     have q0 := k39.cell 2 rfl 0 rfl
     have q1 := k39.cell 2 rfl 1 rfl
     have q2 := k39.cell 2 rfl 2 rfl
     have q3 := k39.cell 2 rfl 3 rfl
     have q4 := k39.cell 2 rfl 4 rfl
     have q5 := k39.cell 2 rfl 5 rfl
     have q6 := k39.cell 2 rfl 6 rfl
     have q7 := k39.cell 2 rfl 7 rfl
     have q8 := k39.cell 2 rfl 8 rfl
     have z39 := k39.lt 2 rfl
     have H39 := qh k39
     clear ha h36 hA b39 k39 HA35
     go_wp2_with fail
     refine add_any ({ Ty.ndOf 22 tp with a := a, b := b, c := -1 }) (.slice none 0 0) (((H39.out.nil 3 1)).pick [0, 1, 3]) (by omega) (fun w50 h50 => ?_)
     have H50 := qh h50
     clear h50
     go_wp2_with fail
     exact HR.out _ _ _ HB39.out H50.out
 have HZ16 : Hid (¬ Ty.is af [105, 102] s.st.pos = true) := fun e => by have ha' := ha; unfold Rd.peek at ha'; rw [HF.out] at ha'; rw [show Ty.is af (⟨#[105, 102]⟩ : ByteArray).data.toList s.st.pos = true from e] at ha'; cases ha'
 have H16 := qh h16.un3
 clear ha h16
 go_wp2_with fail
 refine aW (H16.out.at 1 rfl) ⟨#[119, 104, 105, 108, 101]⟩ (fun w17 ha h17 => ?_) (fun w17 ha h17 => ?_)
 · have hA := HPK.out ⟨#[119, 104, 105, 108, 101]⟩ _ ha (HCC.out.trans (Ty.DK HZ16.out (Rd.bu ha).2))
   have HA5 := qh (At.must HL.out (show At af 0 (j + 1) whole (Ty.bnd (Ty.need af [40]) fun _ => Ty.br2 af E S false tp) (Rd.next s) from hA))
   have k17 := h17.un3
   have y17_0 := k17.cell 2 rfl 0 rfl
   have f17 := k17.free 2 rfl
   have z17 := k17.lt 2 rfl
   have m17 := (k17.store 2 rfl 0 (.int .i64 23))
   have H17 := qh m17
   clear k17 m17 ha h17 hA HPK HCG HCC
   go_wp2_with fail
   clear f17 y17_0
   refine aS (H17.out.at 1 rfl) ⟨#[40]⟩ (fun w31 h31 => ?_)
   obtain ⟨w1', hx, hback⟩ := HA5.out.use
   have h31' : Sat w0 w31 [Fr, rdA pb d af (Rd.must af [40] (Rd.next s)), _] := h31.un3
   have HX := qh hx
   have HBK := qh hback
   have H31 := qh h31'
   clear h31 h31' hx hback HA5
   generalize Rd.must af [40] (Rd.next s) = q31 at *
   go_wp2_with fail
   refine HEX.out _ _ _ pb _ 0 (j + 1 + 1) (K - 3) w1' (by omega) (by omega) (by omega) HX.out (H31.out.at 1 rfl) _ (fun a q32 w32 h32 h33 => ?_)
   obtain ⟨h34, _⟩ := HBK.out _ _ _ h32
   have HA32 := qh (At.must HL.out (show At af (K - 3) (j + 1 + 1) whole (Ty.bnd (Ty.need af [41]) fun _ => Ty.br4 af S false tp a) q32 from h34))
   have k32 := h33.un3
   have y32_1 := k32.cell 2 rfl 1 rfl
   have f32 := k32.free 2 rfl
   have z32 := k32.lt 2 rfl
   have m32 := (k32.store 2 rfl 1 (.int .i64 (a : Nat)))
   have H32 := qh m32
   clear k32 m32 h32 h33 h34 HX HBK
   go_wp2_with fail
   clear f32 y32_1
   refine aS (H32.out.at 1 rfl) ⟨#[41]⟩ (fun w33 h33 => ?_)
   obtain ⟨w2', hx, hback⟩ := HA32.out.use
   have h33' : Sat w0 w33 [Fr, rdA pb d af (Rd.must af [41] q32), _] := h33.un3
   have HX := qh hx
   have HBK := qh hback
   have H33 := qh h33'
   clear h33 h33' hx hback HA32
   generalize Rd.must af [41] q32 = q33 at *
   go_wp2_with fail
   refine HBR.out _ _ _ pb _ (K - 3) (j + 1 + 1 + 1) (K - 2) w2' (by omega) (by omega) (by omega) HX.out (H33.out.at 1 rfl) _ (fun b q34 w34 h34 h35 => ?_)
   obtain ⟨h36, _⟩ := HBK.out _ _ _ h34
   have HA34 : Hid (At af (K - 2) (j + 1 + 1 + 1) whole (Ty.br5 af S false tp a b) q34) := h36
   have b39 := (show At af (K - 2) (j + 1) whole (Ty.addNode { Ty.ndOf 23 tp with a := a, b := b }) q34 from (HA34.out.mono (Nat.le_refl _) (by omega : j + 1 ≤ j + 1 + 1 + 1))).di.mono (by omega : K - 2 + 1 ≤ K) (Nat.le_refl j)
   have ns39 := HA34.out.ns
   have HB39 := qh b39
   have k39 := h35.un3
   have y2 := k39.cell 2 rfl 2 rfl
   have f39 := k39.free 2 rfl
   have z39 := k39.lt 2 rfl
   have q0 := k39.cell 2 rfl 0 rfl
   have q1 := k39.cell 2 rfl 1 rfl
   have q3 := k39.cell 2 rfl 3 rfl
   have q4 := k39.cell 2 rfl 4 rfl
   have q5 := k39.cell 2 rfl 5 rfl
   have q6 := k39.cell 2 rfl 6 rfl
   have q7 := k39.cell 2 rfl 7 rfl
   have q8 := k39.cell 2 rfl 8 rfl
   have m39 := k39.store 2 rfl 2 (.int .i64 (b : Nat))
   have H39 := qh m39
   clear h34 h35 h36 b39 k39 m39 HX HBK HA34
   go_wp2_with fail
   refine add_any ({ Ty.ndOf 23 tp with a := a, b := b }) (.slice none 0 0) (((H39.out.nil 3 1)).pick [0, 1, 3]) (by omega) (fun w50 h50 => ?_)
   have H50 := qh h50
   clear h50
   go_wp2_with fail
   exact HR.out _ _ _ HB39.out H50.out
 have HZ17 : Hid (¬ Ty.is af [119, 104, 105, 108, 101] s.st.pos = true) := fun e => by have ha' := ha; unfold Rd.peek at ha'; rw [HF.out] at ha'; rw [show Ty.is af (⟨#[119, 104, 105, 108, 101]⟩ : ByteArray).data.toList s.st.pos = true from e] at ha'; cases ha'
 have H17 := qh h17.un3
 have hA := HCG.out (Ty.bnd E fun a => Ty.plK af E a) (HCC.out.trans ((Ty.Dx HZ16.out HZ17.out).trans Ty.Ba))
 obtain ⟨w1', hx, hback⟩ := hA.use
 have HX := qh hx
 have HBK := qh hback
 clear ha h17 hA hx hback HPK HCG HCC
 go_wp2_with fail
 refine HEX.out _ _ _ pb _ 0 j (K - 2) w1' (by omega) (by omega) (by omega) HX.out (H17.out.at 1 rfl) _ (fun a q w18 h18 h19 => ?_)
 obtain ⟨h20, h21⟩ := HBK.out _ _ _ h18
 have hh := (fC hN h21).1
 have HBD := qh (fun R hR => @bC w18 pb d af q (h19.un3.pick [0, 1]).az R hR)
 have H18 := qh h19.un3
 cases hqf : q.f with
 | some y =>
   have HA2 := qh ((h20.bad hqf (Ty.ret 0) j).mono (by omega : K - 2 ≤ K) (Nat.le_refl j))
   have HQ : Hid (q.f.isSome = true) := by show _ = _; rw [hqf]; rfl
   rw [HQ.out] at HBD
   clear h18 h19 h20 h21 hh hqf HX HBK
   go_wp2_with fail
   refine HBD.out _ ?_
   go_wp2_with fail
   exact HR.out 0 _ _ HA2.out (H18.out.pick [0, 1])
 | none =>
   have HQ : Hid (q.f.isSome = false) := by show _ = _; rw [hqf]; rfl
   rw [HQ.out] at HBD
   have han := hh hqf
   have hp2 := (H18.out.pick [0, 1])
   have hnq := h20.ns
   obtain ⟨g, cap, lv, c3, hg2, hc1, hc2, hAt, hbits⟩ := hp2.sO han
   obtain ⟨la, lc, rfl⟩ := ag hbits
   obtain ⟨r0, r1, r2, r3, r4, r5, r6, r7, r8⟩ := hAt
   have hpb3 := hp2.az.lt
   have HK2 : Hid (∀ m', Ty.plB af E a (Ty.ndAt q.st a).kind (Ty.ndAt q.st a).a (Ty.ndAt q.st a).b (Ty.ndAt q.st a).text (Ty.ndAt q.st a).pos q.st = m' q.st → At af 0 j whole m' q) := fun m' e => (h20.good hqf 0).congr (fun _ => e)
   have HCUT : Hid (∀ m', q.st.pos + 1 < af.length → Ty.plB af E a (Ty.ndAt q.st a).kind (Ty.ndAt q.st a).a (Ty.ndAt q.st a).b (Ty.ndAt q.st a).text (Ty.ndAt q.st a).pos q.st = m' { q.st with ns := q.st.ns.take a, pos := q.st.pos + 1 } → At af 0 (j + 1) whole m' (Rd.mg a q)) := fun m' hlt e => (h20.good hqf 0).cut hqf hlt e
   have hp3 := h20.pos
   generalize Ty.ndAt q.st a = tt at *
   obtain ⟨nkd, fa, fb, fc, fl, ntx, fn, fty, nps⟩ := tt
   have HK3 : Hid (∀ m' : Ty.M Nat, Ty.plB af E a nkd fa fb ntx nps q.st = m' q.st → At af 0 j whole m' q) := HK2.out
   have HCUT3 : Hid (∀ m' : Ty.M Nat, q.st.pos + 1 < af.length → Ty.plB af E a nkd fa fb ntx nps q.st = m' { q.st with ns := q.st.ns.take a, pos := q.st.pos + 1 } → At af 0 (j + 1) whole m' (Rd.mg a q)) := HCUT.out
   dsimp only at r0 r1 r2 r3 r4 r5 r6 r7 r8
   have x0 := H18.out.cell 2 rfl 0 rfl
   have x1 := H18.out.cell 2 rfl 1 rfl
   have x8 := H18.out.cell 2 rfl 8 rfl
   have fx := H18.out.free 2 rfl
   have hzx := H18.out.lt 2 rfl
   have HQF := qh hqf
   clear h18 h19 h20 h21 hh hqf HX HBK hbits hp2 HK2 HCUT
   go_wp2_with fail
   refine HBD.out _ ?_
   go_wp2_with fail
   go_region
   have h22 := ((((H18.out.store 2 rfl 0 (.int .i64 25)).store 2 rfl 1 (.int .i64 (a : Nat))).store 2 rfl 8 (.int .i64 nps)).aj (.cells #[.int .i64 nkd, .int .i64 fa, .int .i64 fb, .int .i64 fc, .slice la fl.length lc, .string ntx, .int .i64 fn, .int .i64 fty, .int .i64 nps] 66) w18.heap.size).drew
   have h22 : Sat w0 _ [Fr, rdA pb d af q, blk w.heap.size (.cells #[.int .i64 25, .int .i64 (a : Nat), .int .i64 0, .int .i64 0, .slice none 0 0, .string ⟨#[]⟩, .int .i64 0, .int .i64 (-1), .int .i64 nps] 66 (0, 0)), blk w18.heap.size (.cells #[.int .i64 nkd, .int .i64 fa, .int .i64 fb, .int .i64 fc, .slice la fl.length lc, .string ntx, .int .i64 fn, .int .i64 fty, .int .i64 nps] 66 (0, 0))] := h22
   have HPP := qh (fun R hR => fE _ pb d af q (h22.pick [0, 1]).az ⟨#[61]⟩ (R := R) hR)
   have H22 := qh h22
   clear h22 r0 r1 r2 r3 r4 r5 r6 r7 r8 x0 x1 x8 fx c3
   go_wp2_with fail
   refine HPP.out _ (fun w23 hb23 => ?_)
   have H23 := qh (H22.out.below hb23)
   clear hb23 HPP H22
   cases hpk : Rd.peek af (⟨#[61]⟩ : ByteArray).data.toList q with
   | false =>
     have hni : ¬ Ty.is af [61] q.st.pos = true := fun e => by unfold Rd.peek at hpk; rw [HQF.out] at hpk; rw [show Ty.is af (⟨#[61]⟩ : ByteArray).data.toList q.st.pos = true from e] at hpk; cases hpk
     have HA24 := qh ((HK3.out _ (Ty.Eg hni)).mono (by omega : 0 ≤ K - 1) (Nat.le_refl j))
     have H24 := qh (H23.out.pick [0, 1, 2])
     clear hpk hni HK3 HCUT3
     go_wp2_with fail
     refine aS (H24.out.at 1 rfl) ⟨#[59]⟩ (fun w25 h25 => ?_)
     have a25 := At.must HL.out (show At af (K - 1) j whole (Ty.bnd (Ty.need af [59]) fun _ => Ty.addNode (Ty.uh nps a)) q from HA24.out)
     have b25 := a25.di
     have e1 : K - 1 + 1 = K := by omega
     rw [e1] at b25
     have ns25 := a25.ns
     have HB25 := qh b25
     have k25 := h25.un3
     have q0 := k25.cell 2 rfl 0 rfl
     have q1 := k25.cell 2 rfl 1 rfl
     have q2 := k25.cell 2 rfl 2 rfl
     have q3 := k25.cell 2 rfl 3 rfl
     have q4 := k25.cell 2 rfl 4 rfl
     have q5 := k25.cell 2 rfl 5 rfl
     have q6 := k25.cell 2 rfl 6 rfl
     have q7 := k25.cell 2 rfl 7 rfl
     have q8 := k25.cell 2 rfl 8 rfl
     have z25 := k25.lt 2 rfl
     have H25 := qh k25
     generalize Rd.must af [59] q = sz at *
     clear h25 a25 b25 k25 e1
     go_wp2_with fail
     refine add_any (Ty.uh nps a) (.slice none 0 0) (((H25.out.nil 3 1)).pick [0, 1, 3]) (by omega) (fun w26 h26 => ?_)
     have H26 := qh h26
     clear h26
     go_wp2_with fail
     exact HR.out _ _ _ HB25.out H26.out
   | true =>
     obtain ⟨_, hi⟩ := Rd.bu hpk
     have hlt1 := Rd.is_lt HL.out hp3 hi
     have HCG4 : Hid (Ty.is af (⟨#[61]⟩ : ByteArray).data.toList q.st.pos = true → nkd ≠ 5 → nkd ≠ 8 → nkd ≠ 9 → At af 0 j whole (Ty.bnd (Ty.fail af 1) Ty.ret) q) := fun h0 h5 h8 h9 => HK3.out _ (Ty.Bj h0 h5 h8 h9)
     clear hpk HK3
     by_cases hk5 : nkd = 5
     · subst hk5
       have hA := HCUT3.out _ hlt1 (Ty.Dw hi rfl)
       obtain ⟨w2', hx, hback⟩ := (show At af 0 (j + 1) whole (Ty.bnd E fun v => Ty.plD af (Ty.nS ntx nps v)) (Rd.mg a q) from hA).use
       have HX := qh hx
       have HBK := qh hback
       obtain ⟨g5, cap5, c3, hc5, hd5, h25⟩ := (H23.out.at 1 rfl).Eb (n := a) han hlt1
       obtain ⟨f0, c1, _⟩ := (H23.out.pick [0, 1]).az.cells
       have hpb4 := (H23.out.pick [0, 1]).az.lt
       have e0 := H23.out.cell 3 rfl 0 rfl
       have h26 := h25.un4
       have h26 : Sat w0 _ [Fr, rdA pb d af (Rd.mg a q), _, _] := h26
       have H26 := qh h26
       clear hA hx hback h25 h26 HCUT3
       go_wp2_with fail
       clear c3 c1 f0 e0
       refine HEX.out _ _ _ pb _ 0 (j + 1) (K - 1) w2' (by omega) (by omega) (by omega) HX.out (H26.out.at 1 rfl) _ (fun v q27 w27 h27 h28 => ?_)
       obtain ⟨h29, _⟩ := HBK.out _ _ _ h27
       have HA29 := qh (h29.mono (Nat.le_refl _) (by omega : j ≤ j + 1))
       have k28 := h28.un4
       have x0 := k28.cell 2 rfl 0 rfl
       have y0 := k28.cell 3 rfl 0 rfl
       have x1 := k28.cell 2 rfl 1 rfl
       have y1 := k28.cell 3 rfl 1 rfl
       have x2 := k28.cell 2 rfl 2 rfl
       have y2 := k28.cell 3 rfl 2 rfl
       have x3 := k28.cell 2 rfl 3 rfl
       have y3 := k28.cell 3 rfl 3 rfl
       have x5 := k28.cell 2 rfl 5 rfl
       have y5 := k28.cell 3 rfl 5 rfl
       have fx := k28.free 2 rfl
       have hzx := k28.lt 2 rfl
       have hzy := k28.lt 3 rfl
       have hne := k28.ne 2 3 (by decide) rfl rfl
       have H28 := qh k28
       clear h27 h28 h29 k28 HX HBK
       go_wp2_with fail
       go_region
       have H29 := qh ((((H28.out.store 2 rfl 1 (.int .i64 (v : Nat))).store 2 rfl 0 (.int .i64 18)).store 2 rfl 5 (.string ntx)).drew.pick [0, 1, 2])
       have j0 := ((((H28.out.store 2 rfl 1 (.int .i64 (v : Nat))).store 2 rfl 0 (.int .i64 18)).store 2 rfl 5 (.string ntx)).drew).cell 3 rfl 0 rfl
       clear x0 x1 x2 x3 x5 y0 y1 y2 y3 y5 fx
       go_wp2_with fail
       clear j0
       refine aS (H29.out.at 1 rfl) ⟨#[59]⟩ (fun w30 h30 => ?_)
       have a30 := At.must HL.out (show At af (K - 1) j whole (Ty.bnd (Ty.need af [59]) fun _ => Ty.addNode (Ty.nS ntx nps v)) q27 from HA29.out)
       have b30 := a30.di
       have e1 : K - 1 + 1 = K := by omega
       rw [e1] at b30
       have ns30 := a30.ns
       have HB30 := qh b30
       have k30 := h30.un3
       have q0 := k30.cell 2 rfl 0 rfl
       have q1 := k30.cell 2 rfl 1 rfl
       have q2 := k30.cell 2 rfl 2 rfl
       have q3 := k30.cell 2 rfl 3 rfl
       have q4 := k30.cell 2 rfl 4 rfl
       have q5 := k30.cell 2 rfl 5 rfl
       have q6 := k30.cell 2 rfl 6 rfl
       have q7 := k30.cell 2 rfl 7 rfl
       have q8 := k30.cell 2 rfl 8 rfl
       have z30 := k30.lt 2 rfl
       have H30 := qh k30
       generalize Rd.must af [59] q27 = sz at *
       clear h30 a30 b30 k30 e1
       go_wp2_with fail
       refine add_any (Ty.nS ntx nps v) (.slice none 0 0) (((H30.out.nil 3 1)).pick [0, 1, 3]) (by omega) (fun w31 h31 => ?_)
       have H31 := qh h31
       clear h31
       go_wp2_with fail
       exact HR.out _ _ _ HB30.out H31.out
     by_cases hk8 : nkd = 8
     · subst hk8
       have hA := HCUT3.out _ hlt1 (Ty.Dy hi rfl)
       obtain ⟨w2', hx, hback⟩ := (show At af 0 (j + 1) whole (Ty.bnd E fun v => Ty.plD af (Ty.oO ntx nps fa v)) (Rd.mg a q) from hA).use
       have HX := qh hx
       have HBK := qh hback
       obtain ⟨g5, cap5, c3, hc5, hd5, h25⟩ := (H23.out.at 1 rfl).Eb (n := a) han hlt1
       obtain ⟨f0, c1, _⟩ := (H23.out.pick [0, 1]).az.cells
       have hpb4 := (H23.out.pick [0, 1]).az.lt
       have e0 := H23.out.cell 3 rfl 0 rfl
       have h26 := h25.un4
       have h26 : Sat w0 _ [Fr, rdA pb d af (Rd.mg a q), _, _] := h26
       have H26 := qh h26
       clear hA hx hback h25 h26 HCUT3
       go_wp2_with fail
       clear c3 c1 f0 e0
       refine HEX.out _ _ _ pb _ 0 (j + 1) (K - 1) w2' (by omega) (by omega) (by omega) HX.out (H26.out.at 1 rfl) _ (fun v q27 w27 h27 h28 => ?_)
       obtain ⟨h29, _⟩ := HBK.out _ _ _ h27
       have HA29 := qh (h29.mono (Nat.le_refl _) (by omega : j ≤ j + 1))
       have k28 := h28.un4
       have x0 := k28.cell 2 rfl 0 rfl
       have y0 := k28.cell 3 rfl 0 rfl
       have x1 := k28.cell 2 rfl 1 rfl
       have y1 := k28.cell 3 rfl 1 rfl
       have x2 := k28.cell 2 rfl 2 rfl
       have y2 := k28.cell 3 rfl 2 rfl
       have x3 := k28.cell 2 rfl 3 rfl
       have y3 := k28.cell 3 rfl 3 rfl
       have x5 := k28.cell 2 rfl 5 rfl
       have y5 := k28.cell 3 rfl 5 rfl
       have fx := k28.free 2 rfl
       have hzx := k28.lt 2 rfl
       have hzy := k28.lt 3 rfl
       have hne := k28.ne 2 3 (by decide) rfl rfl
       have H28 := qh k28
       clear h27 h28 h29 k28 HX HBK
       go_wp2_with fail
       go_region
       have H29 := qh ((((((H28.out.store 2 rfl 1 (.int .i64 (v : Nat))).store 2 rfl 0 (.int .i64 19)).store 2 rfl 1 (.int .i64 fa)).store 2 rfl 5 (.string ntx)).store 2 rfl 2 (.int .i64 (v : Nat))).drew.pick [0, 1, 2])
       have j0 := ((((((H28.out.store 2 rfl 1 (.int .i64 (v : Nat))).store 2 rfl 0 (.int .i64 19)).store 2 rfl 1 (.int .i64 fa)).store 2 rfl 5 (.string ntx)).store 2 rfl 2 (.int .i64 (v : Nat))).drew).cell 3 rfl 0 rfl
       clear x0 x1 x2 x3 x5 y0 y1 y2 y3 y5 fx
       go_wp2_with fail
       clear j0
       refine aS (H29.out.at 1 rfl) ⟨#[59]⟩ (fun w30 h30 => ?_)
       have a30 := At.must HL.out (show At af (K - 1) j whole (Ty.bnd (Ty.need af [59]) fun _ => Ty.addNode (Ty.oO ntx nps fa v)) q27 from HA29.out)
       have b30 := a30.di
       have e1 : K - 1 + 1 = K := by omega
       rw [e1] at b30
       have ns30 := a30.ns
       have HB30 := qh b30
       have k30 := h30.un3
       have q0 := k30.cell 2 rfl 0 rfl
       have q1 := k30.cell 2 rfl 1 rfl
       have q2 := k30.cell 2 rfl 2 rfl
       have q3 := k30.cell 2 rfl 3 rfl
       have q4 := k30.cell 2 rfl 4 rfl
       have q5 := k30.cell 2 rfl 5 rfl
       have q6 := k30.cell 2 rfl 6 rfl
       have q7 := k30.cell 2 rfl 7 rfl
       have q8 := k30.cell 2 rfl 8 rfl
       have z30 := k30.lt 2 rfl
       have H30 := qh k30
       generalize Rd.must af [59] q27 = sz at *
       clear h30 a30 b30 k30 e1
       go_wp2_with fail
       refine add_any (Ty.oO ntx nps fa v) (.slice none 0 0) (((H30.out.nil 3 1)).pick [0, 1, 3]) (by omega) (fun w31 h31 => ?_)
       have H31 := qh h31
       clear h31
       go_wp2_with fail
       exact HR.out _ _ _ HB30.out H31.out
     by_cases hk9 : nkd = 9
     · subst hk9
       have hA := HCUT3.out _ hlt1 (Ty.DC hi rfl)
       obtain ⟨w2', hx, hback⟩ := (show At af 0 (j + 1) whole (Ty.bnd E fun v => Ty.plD af (Ty.nX nps fa fb v)) (Rd.mg a q) from hA).use
       have HX := qh hx
       have HBK := qh hback
       obtain ⟨g5, cap5, c3, hc5, hd5, h25⟩ := (H23.out.at 1 rfl).Eb (n := a) han hlt1
       obtain ⟨f0, c1, _⟩ := (H23.out.pick [0, 1]).az.cells
       have hpb4 := (H23.out.pick [0, 1]).az.lt
       have e0 := H23.out.cell 3 rfl 0 rfl
       have h26 := h25.un4
       have h26 : Sat w0 _ [Fr, rdA pb d af (Rd.mg a q), _, _] := h26
       have H26 := qh h26
       clear hA hx hback h25 h26 HCUT3
       go_wp2_with fail
       clear c3 c1 f0 e0
       refine HEX.out _ _ _ pb _ 0 (j + 1) (K - 1) w2' (by omega) (by omega) (by omega) HX.out (H26.out.at 1 rfl) _ (fun v q27 w27 h27 h28 => ?_)
       obtain ⟨h29, _⟩ := HBK.out _ _ _ h27
       have HA29 := qh (h29.mono (Nat.le_refl _) (by omega : j ≤ j + 1))
       have k28 := h28.un4
       have x0 := k28.cell 2 rfl 0 rfl
       have y0 := k28.cell 3 rfl 0 rfl
       have x1 := k28.cell 2 rfl 1 rfl
       have y1 := k28.cell 3 rfl 1 rfl
       have x2 := k28.cell 2 rfl 2 rfl
       have y2 := k28.cell 3 rfl 2 rfl
       have x3 := k28.cell 2 rfl 3 rfl
       have y3 := k28.cell 3 rfl 3 rfl
       have x5 := k28.cell 2 rfl 5 rfl
       have y5 := k28.cell 3 rfl 5 rfl
       have fx := k28.free 2 rfl
       have hzx := k28.lt 2 rfl
       have hzy := k28.lt 3 rfl
       have hne := k28.ne 2 3 (by decide) rfl rfl
       have H28 := qh k28
       clear h27 h28 h29 k28 HX HBK
       go_wp2_with fail
       go_region
       have H29 := qh ((((((H28.out.store 2 rfl 1 (.int .i64 (v : Nat))).store 2 rfl 0 (.int .i64 20)).store 2 rfl 1 (.int .i64 fa)).store 2 rfl 2 (.int .i64 fb)).store 2 rfl 3 (.int .i64 (v : Nat))).drew.pick [0, 1, 2])
       have j0 := ((((((H28.out.store 2 rfl 1 (.int .i64 (v : Nat))).store 2 rfl 0 (.int .i64 20)).store 2 rfl 1 (.int .i64 fa)).store 2 rfl 2 (.int .i64 fb)).store 2 rfl 3 (.int .i64 (v : Nat))).drew).cell 3 rfl 0 rfl
       clear x0 x1 x2 x3 x5 y0 y1 y2 y3 y5 fx
       go_wp2_with fail
       clear j0
       refine aS (H29.out.at 1 rfl) ⟨#[59]⟩ (fun w30 h30 => ?_)
       have a30 := At.must HL.out (show At af (K - 1) j whole (Ty.bnd (Ty.need af [59]) fun _ => Ty.addNode (Ty.nX nps fa fb v)) q27 from HA29.out)
       have b30 := a30.di
       have e1 : K - 1 + 1 = K := by omega
       rw [e1] at b30
       have ns30 := a30.ns
       have HB30 := qh b30
       have k30 := h30.un3
       have q0 := k30.cell 2 rfl 0 rfl
       have q1 := k30.cell 2 rfl 1 rfl
       have q2 := k30.cell 2 rfl 2 rfl
       have q3 := k30.cell 2 rfl 3 rfl
       have q4 := k30.cell 2 rfl 4 rfl
       have q5 := k30.cell 2 rfl 5 rfl
       have q6 := k30.cell 2 rfl 6 rfl
       have q7 := k30.cell 2 rfl 7 rfl
       have q8 := k30.cell 2 rfl 8 rfl
       have z30 := k30.lt 2 rfl
       have H30 := qh k30
       generalize Rd.must af [59] q27 = sz at *
       clear h30 a30 b30 k30 e1
       go_wp2_with fail
       refine add_any (Ty.nX nps fa fb v) (.slice none 0 0) (((H30.out.nil 3 1)).pick [0, 1, 3]) (by omega) (fun w31 h31 => ?_)
       have H31 := qh h31
       clear h31
       go_wp2_with fail
       exact HR.out _ _ _ HB30.out H31.out
     have b5 : ((nkd : Int) != 5) = true := bne_iff_ne.2 (by omega)
     have b8 : ((nkd : Int) != 8) = true := bne_iff_ne.2 (by omega)
     have b9 : ((nkd : Int) != 9) = true := bne_iff_ne.2 (by omega)
     have hA := HCG4.out hi hk5 hk8 hk9
     have HA2 := qh ((At.fail hA (Ty.ret 0) j).mono (by omega : 0 ≤ K) (Nat.le_refl j))
     have e0 := H23.out.cell 3 rfl 0 rfl
     clear hA HCUT3 hk5 hk8 hk9
     go_wp2_with fail
     refine eY (H23.out.at 1 rfl) 1 (by decide) (fun w24 h24 => ?_)
     have H24 := qh (h24.un4.pick [0, 1])
     clear h24
     go_wp2_with fail
     exact HR.out 0 _ _ HA2.out H24.out
end
end
end Go.Proofs.YtdlbhiaceheffabGreatDoor
