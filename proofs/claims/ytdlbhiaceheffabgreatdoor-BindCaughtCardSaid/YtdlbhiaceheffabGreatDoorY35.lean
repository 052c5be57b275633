/- The reference's reader of programs: atom. -/
import Derived.Test.YtdlbhiaceheffabGreatDoorY34
set_option linter.all false
set_option maxRecDepth 100000
set_option maxHeartbeats 16000000
namespace Go.Proofs.YtdlbhiaceheffabGreatDoor
section
open Go Go.RowKit
open Prt (Sat As blk pur exs star ah)
open Rd (At)
section
variable {af : List Tok.Tk} {d k : Nat} {T E S : Ty.M Nat}
theorem Ai (hL : ∀ t, af.getLast? = some t → t.kind = 6) (hnum : Ty.Nums af) (hT : RSp 291 af d k 0 T) (hE : RSp 232 af d k 0 E) (hS : RSp 87 af d k 0 S) (hAT : Ty.Adv 1 0 0 T) (hA : Ty.Adv 1 0 0 E) (hAS : Ty.Adv 1 0 0 S) (hN : Ty.Nx E) : RSp 351 af d (k + 4) 0 (Ty.simpleM af T E S) := by
 intro w0 w Fr pb s c j K whole hc hk hK h H R hR
 have HR := qh hR
 have HS := qh H
 have HEX := qh hE
 have HTX := qh hT
 have HBR := qh (lD hL hS hAS)
 have HL := qh hL
 have htl := H.az.wf.1
 have hlk := H.az
 obtain ⟨f0, c1, _, _, _, g0, cap, c0, hg, t0, t1, t2⟩ := hlk.cells
 have hpb := hlk.lt
 have hpos := hlk.fits.1
 have hlt := fun h1 : (Ty.cur af s.st.pos).kind ≠ 6 => dI hlk.fits.1 hlk.wf h1
 have hnm := hnum (Ty.cur af s.st.pos) (by rw [lq af _ hpos]; exact List.getElem_mem _)
 have hns := h.ns
 have HA0 := qh h
 have HSM : Hid (∀ st, st.pos = s.st.pos → Ty.simpleM af T E S st = Ty.smM af T E S (Ty.cur af s.st.pos).kind (Ty.cur af s.st.pos).text (Ty.cur af s.st.pos).pos st) := fun st e => by rw [← e]; exact Ty.kX af T E S st
 have HPK : Hid (∀ (x : ByteArray) (m' : Ty.M Nat), Rd.peek af x.data.toList s = true → Ty.simpleM af T E S s.st = m' { s.st with pos := s.st.pos + 1 } → At af 0 (j + 1) whole m' (Rd.next s)) := fun x m' hp e => h.go' hL hp e
 have HSTEP : Hid (s.f = none → (Ty.cur af s.st.pos).kind ≠ 6 → ∀ m', Ty.simpleM af T E S s.st = m' { s.st with pos := s.st.pos + 1 } → At af 0 (j + 1) whole m' (Rd.next s)) := fun hf hk m' e => h.go hL hf hk e
 obtain ⟨kk, hkk⟩ : ∃ kk, (Ty.cur af s.st.pos).kind = kk := ⟨_, rfl⟩
 have HB0 := qh (fun w1 (hb : Below w.heap.size w w1) R hR => bC w1 pb d af s (hlk.below hb) (R := R) hR)
 obtain ⟨k0, tk, vz0, vz1, vz2⟩ := info_parts bY
 obtain ⟨i0, ti, tz0, tz1, tz2⟩ := info_parts jw
 clear hR H hE hT hS hL h hlk hnum hkk kk
 generalize Ty.cur af s.st.pos = t at *
 obtain ⟨kd, tx, tp⟩ := t
 dsimp only at t0 t1 t2 hlt hnm
 have HSM2 : Hid (∀ st, st.pos = s.st.pos → Ty.simpleM af T E S st = Ty.smM af T E S kd tx tp st) := HSM.out
 have HSTEP2 : Hid (s.f = none → kd ≠ 6 → ∀ m', Ty.simpleM af T E S s.st = m' { s.st with pos := s.st.pos + 1 } → At af 0 (j + 1) whole m' (Rd.next s)) := HSTEP.out
 clear HSM HSTEP
 go_enter Tryz.func351, Tryz.ntmps351
 go_wp2_with fail
 go_region
 go_wp2_with fail
 cases hqf : s.f with
 | some y =>
   have HA2 := qh ((HA0.out.bad hqf (Ty.ret 0) j).mono (by omega : c ≤ K) (Nat.le_refl j))
   have HQ : Hid (s.f.isSome = true) := by show _ = _; rw [hqf]; rfl
   rw [HQ.out] at HB0
   clear hqf
   refine HB0.out _ (by repeat' (first | exact Below.refl _ _ | apply Below.drew | apply Below.setCell | apply Below.alloc | (simp; done) | (simp; omega) | omega)) _ ?_
   go_wp2_with fail
   exact HR.out 0 _ _ HA2.out (((HS.out.ay (.cells #[.int .i64 kd, .string tx, .int .i64 tp] 138)).ay (.cells #[.int .i64 0, .int .i64 0, .int .i64 0, .int .i64 0, .slice none 0 0, .string ⟨#[]⟩, .int .i64 0, .int .i64 (-1), .int .i64 tp] 66)).drew)
 | none =>
   have HQ : Hid (s.f.isSome = false) := by show _ = _; rw [hqf]; rfl
   rw [HQ.out] at HB0
   have HST := qh (HSTEP2.out hqf)
   have HQF := qh hqf
   have HA1 := qh (HA0.out.good hqf 0)
   clear hqf HSTEP2 HA0
   refine HB0.out _ (by repeat' (first | exact Below.refl _ _ | apply Below.drew | apply Below.setCell | apply Below.alloc | (simp; done) | (simp; omega) | omega)) _ ?_
   clear HB0
   have e6 : True := trivial
   by_cases hk3 : kd = 3
   · subst hk3
     have hlt1 := hlt (by decide)
     have h2 := HST.out (by decide) (Ty.addNode { Ty.ndOf 1 tp with n := Ty.value tx }) (by rw [HSM2.out _ rfl]; rfl)
     have h3 := (h2.di).mono (by omega : 0 + 1 ≤ K) (Nat.le_refl j)
     have HA2 := qh h3
     have hn := hnm rfl
     have HV := qh (fun w R hR => @yh tx hn w R hR)
     clear hlt hnm h2 h3 HST HSM2 HPK
     go_wp2_with fail
     refine HV.out _ _ ?_
     generalize Ty.value tx = vl at *
     have h4 := (((HS.out.iL hlt1).ay (.cells #[.int .i64 3, .string tx, .int .i64 tp] 138)).aj (.cells #[.int .i64 1, .int .i64 0, .int .i64 0, .int .i64 0, .slice none 0 0, .string ⟨#[]⟩, .int .i64 (vl : Nat), .int .i64 (-1), .int .i64 tp] 66) (w.heap.size + 1)).drew
     have H4 := qh (h4.nil 3 1)
     clear h4
     go_wp2_with fail
     refine add_any { Ty.ndOf 1 tp with n := vl } (.slice none 0 0) (H4.out.pick [0, 1, 3]) (by show s.st.ns.length ≤ 3000; omega) (fun w9 h10 => ?_)
     have H10 := qh h10
     clear h10
     go_wp2_with fail
     exact HR.out _ _ _ HA2.out H10.out
   by_cases hk4 : kd = 4
   · subst hk4
     have hlt1 := hlt (by decide)
     have h2 := HST.out (by decide) (Ty.addNode { Ty.ndOf 2 tp with text := tx }) (by rw [HSM2.out _ rfl]; rfl)
     have h3 := (h2.di).mono (by omega : 0 + 1 ≤ K) (Nat.le_refl j)
     have HA2 := qh h3
     clear hlt hnm h2 h3 HST HSM2 HPK
     go_wp2_with fail
     go_region
     all_goals
       have h4 := (((HS.out.iL hlt1).ay (.cells #[.int .i64 4, .string tx, .int .i64 tp] 138)).aj (.cells #[.int .i64 2, .int .i64 0, .int .i64 0, .int .i64 0, .slice none 0 0, .string tx, .int .i64 0, .int .i64 (-1), .int .i64 tp] 66) (w.heap.size + 1)).drew.drew
       have H4 := qh (h4.nil 3 1)
       clear h4
       go_wp2_with fail
       refine add_any { Ty.ndOf 2 tp with text := tx } (.slice none 0 0) (H4.out.pick [0, 1, 3]) (by show s.st.ns.length ≤ 3000; omega) (fun w9 h10 => ?_)
       have H10 := qh h10
       clear h10
       go_wp2_with fail
       exact HR.out _ _ _ HA2.out H10.out
   by_cases hk1 : kd = 1
   · subst hk1
     have hlt1 := hlt (by decide)
     have h2 := HST.out (by decide) (Ty.addNode { Ty.ndOf 5 tp with text := tx }) (by rw [HSM2.out _ rfl]; rfl)
     have h3 := (h2.di).mono (by omega : 0 + 1 ≤ K) (Nat.le_refl j)
     have HA2 := qh h3
     clear hlt hnm h2 h3 HST HSM2 HPK
     go_wp2_with fail
     go_region
     all_goals
       have h4 := (((HS.out.iL hlt1).ay (.cells #[.int .i64 1, .string tx, .int .i64 tp] 138)).aj (.cells #[.int .i64 5, .int .i64 0, .int .i64 0, .int .i64 0, .slice none 0 0, .string tx, .int .i64 0, .int .i64 (-1), .int .i64 tp] 66) (w.heap.size + 1)).drew.drew
       have H4 := qh (h4.nil 3 1)
       clear h4
       go_wp2_with fail
       refine add_any { Ty.ndOf 5 tp with text := tx } (.slice none 0 0) (H4.out.pick [0, 1, 3]) (by show s.st.ns.length ≤ 3000; omega) (fun w9 h10 => ?_)
       have H10 := qh h10
       clear h10
       go_wp2_with fail
       exact HR.out _ _ _ HA2.out H10.out
   have k3 : ((kd : Int) == 3) = false := beq_eq_false_iff_ne.2 (by omega)
   have k4 : ((kd : Int) == 4) = false := beq_eq_false_iff_ne.2 (by omega)
   have k1 : ((kd : Int) == 1) = false := beq_eq_false_iff_ne.2 (by omega)
   have HSM3 : Hid (∀ m' : Ty.M Nat, Ty.smT af T E S tp s.st = m' { s.st with pos := s.st.pos + 1 } → Ty.simpleM af T E S s.st = m' { s.st with pos := s.st.pos + 1 }) := fun m' e => by rw [HSM2.out _ rfl, jS hk3 hk4 hk1]; exact e
   have HSM4 : Hid (Ty.simpleM af T E S s.st = Ty.smT af T E S tp s.st) := by show _ = _; rw [HSM2.out _ rfl, jS hk3 hk4 hk1]
   clear hnm hlt hk3 hk4 hk1 HST HSM2
   have h4 := ((HS.out.ay (.cells #[.int .i64 kd, .string tx, .int .i64 tp] 138)).aj (.cells #[.int .i64 0, .int .i64 0, .int .i64 0, .int .i64 0, .slice none 0 0, .string ⟨#[]⟩, .int .i64 0, .int .i64 (-1), .int .i64 tp] 66) (w.heap.size + 1)).drew
   have h4 : Sat w0 _ [Fr, rdA pb d af s, blk (w.heap.size + 1) (.cells #[.int .i64 0, .int .i64 0, .int .i64 0, .int .i64 0, .slice none 0 0, .string ⟨#[]⟩, .int .i64 0, .int .i64 (-1), .int .i64 tp] 66 (0, 0))] := h4
   have H4 := qh h4
   clear h4
   go_wp2_with fail
   refine aW (H4.out.at 1 rfl) ⟨#[116, 114, 117, 101]⟩ (fun w11 ha h11 => ?_) (fun w11 ha h11 => ?_)
   · have h2 := HPK.out ⟨#[116, 114, 117, 101]⟩ (Ty.addNode { Ty.ndOf 3 tp with n := 1 }) ha (HSM3.out _ (Ty.EN  (Rd.cZ ha)))
     have HA2 := qh ((h2.di).mono (by omega : 0 + 1 ≤ K) (Nat.le_refl j))
     have g1 := h11.un3
     have y0 := g1.cell 2 rfl 0 rfl
     have y6 := g1.cell 2 rfl 6 rfl
     have fz := g1.free 2 rfl
     have hz := g1.lt 2 rfl
     have g2 := ((g1.store 2 rfl 0 (.int .i64 3)).store 2 rfl 6 (.int .i64 1))
     have q0 := g2.cell 2 rfl 0 rfl
     have q1 := g2.cell 2 rfl 1 rfl
     have q2 := g2.cell 2 rfl 2 rfl
     have q3 := g2.cell 2 rfl 3 rfl
     have q4 := g2.cell 2 rfl 4 rfl
     have q5 := g2.cell 2 rfl 5 rfl
     have q6 := g2.cell 2 rfl 6 rfl
     have q7 := g2.cell 2 rfl 7 rfl
     have q8 := g2.cell 2 rfl 8 rfl
     have G2 := qh (g2.nil 3 1)
     clear ha h11 h2 g1 g2 HPK HSM3 HSM4 HA1
     go_wp2_with fail
     refine add_any { Ty.ndOf 3 tp with n := 1 } (.slice none 0 0) (G2.out.pick [0, 1, 3]) (by show s.st.ns.length ≤ 3000; omega) (fun w9 h10 => ?_)
     have H10 := qh h10
     clear h10
     go_wp2_with fail
     exact HR.out _ _ _ HA2.out H10.out
   have HZ11 := qh ha
   have H11 := qh h11.un3
   clear ha h11
   go_wp2_with fail
   refine aW (H11.out.at 1 rfl) ⟨#[102, 97, 108, 115, 101]⟩ (fun w12 ha h12 => ?_) (fun w12 ha h12 => ?_)
   · have h2 := HPK.out ⟨#[102, 97, 108, 115, 101]⟩ (Ty.addNode (Ty.ndOf 3 tp)) ha (HSM3.out _ (Ty.Ey (Rd.aF HQF.out HZ11.out) (Rd.cZ ha)))
     have HA2 := qh ((h2.di).mono (by omega : 0 + 1 ≤ K) (Nat.le_refl j))
     have g1 := h12.un3
     have y0 := g1.cell 2 rfl 0 rfl
     have fz := g1.free 2 rfl
     have hz := g1.lt 2 rfl
     have g2 := (g1.store 2 rfl 0 (.int .i64 3))
     have q0 := g2.cell 2 rfl 0 rfl
     have q1 := g2.cell 2 rfl 1 rfl
     have q2 := g2.cell 2 rfl 2 rfl
     have q3 := g2.cell 2 rfl 3 rfl
     have q4 := g2.cell 2 rfl 4 rfl
     have q5 := g2.cell 2 rfl 5 rfl
     have q6 := g2.cell 2 rfl 6 rfl
     have q7 := g2.cell 2 rfl 7 rfl
     have q8 := g2.cell 2 rfl 8 rfl
     have G2 := qh (g2.nil 3 1)
     clear ha h12 h2 g1 g2 HPK HSM3 HSM4 HA1
     go_wp2_with fail
     refine add_any (Ty.ndOf 3 tp) (.slice none 0 0) (G2.out.pick [0, 1, 3]) (by show s.st.ns.length ≤ 3000; omega) (fun w9 h10 => ?_)
     have H10 := qh h10
     clear h10
     go_wp2_with fail
     exact HR.out _ _ _ HA2.out H10.out
   have HZ12 := qh ha
   have H12 := qh h12.un3
   clear ha h12
   go_wp2_with fail
   refine aW (H12.out.at 1 rfl) ⟨#[110, 117, 108, 108]⟩ (fun w13 ha h13 => ?_) (fun w13 ha h13 => ?_)
   · have h2 := HPK.out ⟨#[110, 117, 108, 108]⟩ (Ty.addNode (Ty.ndOf 4 tp)) ha (HSM3.out _ (Ty.EO (Rd.aF HQF.out HZ11.out) (Rd.aF HQF.out HZ12.out) (Rd.cZ ha)))
     have HA2 := qh ((h2.di).mono (by omega : 0 + 1 ≤ K) (Nat.le_refl j))
     have g1 := h13.un3
     have y0 := g1.cell 2 rfl 0 rfl
     have fz := g1.free 2 rfl
     have hz := g1.lt 2 rfl
     have g2 := (g1.store 2 rfl 0 (.int .i64 4))
     have q0 := g2.cell 2 rfl 0 rfl
     have q1 := g2.cell 2 rfl 1 rfl
     have q2 := g2.cell 2 rfl 2 rfl
     have q3 := g2.cell 2 rfl 3 rfl
     have q4 := g2.cell 2 rfl 4 rfl
     have q5 := g2.cell 2 rfl 5 rfl
     have q6 := g2.cell 2 rfl 6 rfl
     have q7 := g2.cell 2 rfl 7 rfl
     have q8 := g2.cell 2 rfl 8 rfl
     have G2 := qh (g2.nil 3 1)
     clear ha h13 h2 g1 g2 HPK HSM3 HSM4 HA1
     go_wp2_with fail
     refine add_any (Ty.ndOf 4 tp) (.slice none 0 0) (G2.out.pick [0, 1, 3]) (by show s.st.ns.length ≤ 3000; omega) (fun w9 h10 => ?_)
     have H10 := qh h10
     clear h10
     go_wp2_with fail
     exact HR.out _ _ _ HA2.out H10.out
   have HZ13 := qh ha
   have H13 := qh h13.un3
   clear ha h13
   go_wp2_with fail
   refine aW (H13.out.at 1 rfl) ⟨#[91]⟩ (fun w14 ha h14 => ?_) (fun w14 ha h14 => ?_)
   · have h2 := HPK.out ⟨#[91]⟩ (Ty.smG af E tp) ha (HSM3.out _ (Ty.EI (Rd.aF HQF.out HZ11.out) (Rd.aF HQF.out HZ12.out) (Rd.aF HQF.out HZ13.out) (Rd.aF HQF.out (lH (y := ⟨#[102, 110]⟩) ha (by decide))) (Rd.cZ ha)))
     obtain ⟨w2', hx, hback⟩ := h2.use
     have HX := qh hx
     have HB2 := qh hback
     have g1 := h14.un3
     have y0 := g1.cell 2 rfl 0 rfl
     have fz := g1.free 2 rfl
     have hz := g1.lt 2 rfl
     have g2 := g1.store 2 rfl 0 (.int .i64 11)
     have G2 := qh g2
     clear ha h14 h2 g1 g2 hx hback HPK HSM3 HSM4 HA1
     go_wp2_with fail
     clear y0 fz
     refine mX HL.out HEX.out hA hN (K := K - 1) ⟨#[93]⟩ (Nat.zero_le _) (by omega) (by omega) HX.out (G2.out.at 1 rfl) (fun v l s3 w3 h5 hll hh h6 => ?_)
     obtain ⟨h7, h8⟩ := HB2.out _ _ _ h5
     have hns3 := h7.ns
     have h9 := h7.di
     have e1 : K - 1 + 1 = K := by omega
     rw [e1] at h9
     obtain ⟨va, vc, rfl⟩ := ag (h6.row 2 rfl)
     have g3 := (h6.unpack (i := 0) rfl).pick [2, 0, 3, 1]
     have y4 := g3.cell 2 rfl 4 rfl
     have fz := g3.free 2 rfl
     have hz3 := g3.lt 2 rfl
     have g4 := g3.store 2 rfl 4 (.slice va l.length vc)
     have q0 := g3.cell 2 rfl 0 rfl
     have q1 := g3.cell 2 rfl 1 rfl
     have q2 := g3.cell 2 rfl 2 rfl
     have q3 := g3.cell 2 rfl 3 rfl
     have q5 := g3.cell 2 rfl 5 rfl
     have q6 := g3.cell 2 rfl 6 rfl
     have q7 := g3.cell 2 rfl 7 rfl
     have q8 := g3.cell 2 rfl 8 rfl
     have G4 := qh g4
     have HA6 := qh h9
     clear h5 h6 h7 h8 h9 g3 g4 HB2 HX e1 hh
     go_wp2_with fail
     refine add_any { Ty.ndOf 11 tp with list := l } (.slice va l.length vc) (G4.out.pick [0, 1, 3]) (by omega) (fun w9 h10 => ?_)
     have H10 := qh h10
     clear h10
     go_wp2_with fail
     exact HR.out _ _ _ HA6.out H10.out
   have HZ14 := qh ha
   have H14 := qh h14.un3
   clear ha h14
   go_wp2_with fail
   refine aW (H14.out.at 1 rfl) ⟨#[123]⟩ (fun w15 ha h15 => ?_) (fun w15 ha h15 => ?_)
   · have h2 := HPK.out ⟨#[123]⟩ (Ty.smH af E tp) ha (HSM3.out _ (Ty.Ew (Rd.aF HQF.out HZ11.out) (Rd.aF HQF.out HZ12.out) (Rd.aF HQF.out HZ13.out) (Rd.aF HQF.out (lH (y := ⟨#[102, 110]⟩) ha (by decide))) (Rd.aF HQF.out HZ14.out) (Rd.cZ ha)))
     obtain ⟨w2', hx, hback⟩ := h2.use
     have HB := qh hback
     have g1 := h15.un3
     have y0 := g1.cell 2 rfl 0 rfl
     have fz := g1.free 2 rfl
     have hz := g1.lt 2 rfl
     have h2x := g1.store 2 rfl 0 (.int .i64 10)
     have hwz : w.heap.size + 1 < w15.heap.size := hz
     obtain ⟨s2, hs2⟩ : ∃ s2, s2 = Rd.next s := ⟨_, rfl⟩
     rw [← hs2] at hx h2x
     clear ha h15 h2 g1 hback HPK HSM3 HSM4 HA1 hs2
     have H2 := qh ((h2x.nil 9 1).nil 3 1)
     have HX := qh (hx.mono (by omega : 0 ≤ (K - 1)) (Nat.le_refl _))
     clear h2x hx
     go_wp2_with fail
     go_loopw [5] (fun mv wr => ∃ (f : Nat) (l : List (ByteArray × Nat)) (ms : List ByteArray) (ls : List Nat) (q : Rd.RS) (lv : Value), l.length ≤ af.length + 1 ∧ Hid (l.map Prod.fst = ms ∧ l.map Prod.snd = ls) ∧ Hid (q.f = none → af.length < q.st.pos + f ∧ l.length ≤ q.st.pos) ∧ Hid (At af (K - 1) (j + 1) w2' (Ty.list af [125] (fun l => Ty.partM af E (l.map Prod.fst)) f l) q) ∧ Hid (Sat w0 wr [Fr, rdA pb d af q, blk (w.heap.size + 1) (.cells #[.int .i64 10, .int .i64 0, .int .i64 0, .int .i64 0, lv, .string ⟨#[]⟩, .int .i64 0, .int .i64 (-1), .int .i64 tp] 66 (0, 0)), dC mv ms, inA lv ls]))
       (fun _ wr => msR af.length pb wr)
     case atStart => exact ⟨af.length + 1, [], [], [], s2, .slice none 0 0, by simp, ⟨rfl, rfl⟩, fun _ => ⟨by omega, by simp⟩, HX.out, H2.out⟩
     case round =>
       obtain ⟨f, l, ms, ls, q, lv, hll, hml, hfu, hAt, hSS⟩ := hrel
       obtain ⟨a, cap0, rfl⟩ := ag (hSS.out.row 4 rfl)
       obtain ⟨ma, mcap, rfl⟩ := ag (hSS.out.row 3 rfl)
       have hmsl : ms.length ≤ af.length + 1 := by rw [← hml.out.1, List.length_map]; exact hll
       have hlsl : ls.length ≤ af.length + 1 := by rw [← hml.out.2, List.length_map]; exact hll
       have HMS := qh (bF (hSS.out.pick [0, 1]).az af.length)
       go_wp2_with fail
       refine aW (hSS.out.at 1 rfl) ⟨#[125]⟩ (fun w21 hp h21 => ?_) (fun w21 hp h21 => ?_)
       · obtain ⟨hqf, _⟩ := Rd.bu hp
         have hfp := (hfu.out hqf).1
         have hpos := hAt.out.pos
         obtain ⟨f, rfl⟩ : ∃ g, f = g + 1 := ⟨f - 1, by omega⟩
         obtain ⟨h7, _⟩ := HB.out _ _ _ (At.oL HL.out hAt.out hp)
         have h9 := At.di (n := { Ty.ndOf 10 tp with list := ls }) (by rw [hml.out.2] at h7; exact h7)
         have e1 : K - 1 + 1 = K := by omega
         rw [e1] at h9
         have hns9 := h7.ns
         have HA2 := qh h9
         have g3 := h21.un5
         have q0 := g3.cell 2 rfl 0 rfl
         have q1 := g3.cell 2 rfl 1 rfl
         have q2 := g3.cell 2 rfl 2 rfl
         have q3 := g3.cell 2 rfl 3 rfl
         have q4 := g3.cell 2 rfl 4 rfl
         have q5 := g3.cell 2 rfl 5 rfl
         have q6 := g3.cell 2 rfl 6 rfl
         have q7 := g3.cell 2 rfl 7 rfl
         have q8 := g3.cell 2 rfl 8 rfl
         have z3 := g3.lt 2 rfl
         have G3 := qh g3
         clear hp h21 hAt hfu HMS h7 h9 g3
         go_wp2_with fail
         refine add_any { Ty.ndOf 10 tp with list := ls } (.slice a ls.length cap0) (G3.out.pick [0, 1, 4]) (by omega) (fun w9 h10 => ?_)
         have H10 := qh h10
         clear h10
         go_wp2_with fail
         exact HR.out _ _ _ HA2.out H10.out
       · have HBD := qh (fun R hR => @bC w21 pb d af q (h21.un5.pick [0, 1]).az R hR)
         cases hqf : q.f with
         | some y =>
           obtain ⟨h7, _⟩ := HB.out _ _ _ (hAt.out.bad hqf (Ty.ret l) (j + 1))
           have h9 := At.di (n := { Ty.ndOf 10 tp with list := ls }) (by rw [hml.out.2] at h7; exact h7)
           have e1 : K - 1 + 1 = K := by omega
           rw [e1] at h9
           have hns9 := h7.ns
           have HA2 := qh h9
           have g3 := h21.un5
           have q0 := g3.cell 2 rfl 0 rfl
           have q1 := g3.cell 2 rfl 1 rfl
           have q2 := g3.cell 2 rfl 2 rfl
           have q3 := g3.cell 2 rfl 3 rfl
           have q4 := g3.cell 2 rfl 4 rfl
           have q5 := g3.cell 2 rfl 5 rfl
           have q6 := g3.cell 2 rfl 6 rfl
           have q7 := g3.cell 2 rfl 7 rfl
           have q8 := g3.cell 2 rfl 8 rfl
           have z3 := g3.lt 2 rfl
           have G3 := qh g3
           have HQ : Hid (q.f.isSome = true) := by show _ = _; rw [hqf]; rfl
           rw [HQ.out] at HBD
           clear hp h21 hAt hfu HMS h7 hqf h9 g3
           go_wp2_with fail
           refine HBD.out _ ?_
           go_wp2_with fail
           refine add_any { Ty.ndOf 10 tp with list := ls } (.slice a ls.length cap0) (G3.out.pick [0, 1, 4]) (by omega) (fun w9 h10 => ?_)
           have H10 := qh h10
           clear h10
           go_wp2_with fail
           exact HR.out _ _ _ HA2.out H10.out
         | none =>
           have hfp := hfu.out hqf
           have hpos := hAt.out.pos
           obtain ⟨f, rfl⟩ : ∃ g, f = g + 1 := ⟨f - 1, by omega⟩
           have hA2 := At.tY HL.out (hAt.out.good hqf 0) hp
           rw [hml.out.1] at hA2
           have HQ : Hid (q.f.isSome = false) := by show _ = _; rw [hqf]; rfl
           have hmq : msR af.length pb wr = af.length - q.st.pos + 1 := by rw [HMS.out, hqf]; rfl
           have HMQ := qh hmq
           have H21 := qh h21.un5
           have hlml : l.length = ms.length := by rw [← hml.out.1, List.length_map]
           rw [HQ.out] at HBD
           by_cases hl0 : l.length = 0
           · have k1 : decide ((0 : Int) < ms.length) = false := decide_eq_false (by omega)
             have k2 : decide (0 < ms.length) = false := decide_eq_false (by omega)
             rw [if_pos hl0] at hA2
             have HA2 := qh hA2
             have HQP : Hid (q.f = none → q.st.pos ≤ q.st.pos) := fun _ => Nat.le_refl _
             clear hp h21 hAt hfu HMS hqf hA2 hmq hl0 hlml
             go_wp2_with fail
             refine HBD.out _ ?_
             go_wp2_with fail
             have H22 := H21
             have hlk2 := (H22.out.pick [0, 1]).az
             obtain ⟨f0', c1', _, _, _, g0', cap', c0', hg', t0', t1', t2'⟩ := hlk2.cells
             have hpb' := hlk2.lt
             have hpos' := hlk2.fits.1
             obtain ⟨w5', hx5, hback5⟩ := HA2.out.use
             have h50 : At af 0 (j + 1) w5' (Ty.bnd (Ty.name af ms) fun x => Ty.bnd (Ty.need af [58]) fun _ => Ty.bnd E fun a => Ty.bnd (Ty.addNode { Ty.ndOf 15 (Ty.cur af q.st.pos).pos with text := x, a := a }) fun n => Ty.ret (x, n)) q := hx5
             generalize Ty.cur af q.st.pos = tt at *
             obtain ⟨kd2, tx2, tp2⟩ := tt
             dsimp only at t0' t1' t2' h50
             have h51 := At.ident HL.out h50
             have HB5 := qh hback5
             have HI5 : Hid ((Rd.ident af ms q).2.f = none → q.f = none ∧ q.st.pos + 1 = (Rd.ident af ms q).2.st.pos) := fun e => ⟨(Rd.dA e).1, (Rd.dA e).2.symm⟩
             have H51 := qh h51
             clear hlk2 hx5 hback5 h50 h51
             go_quiet (fail)
             have h52 := H22.out.below (Go.below_drewN (Below.refl _ _) nq)
             have H52 := qh h52
             clear h52
             go_wp2_with fail
             clear c0' c1' t0' t1' t2' f0'
             refine fB (H52.out.at 1 rfl) _ ms (H52.out.row 3 rfl) (by omega) (fun w53 h53 => ?_)
             have h54 := h53.un5
             have H54 : Hid (Sat w0 w53 [Fr, rdA pb d af (Rd.ident af ms q).2, blk (w.heap.size + 1) (.cells #[.int .i64 10, .int .i64 0, .int .i64 0, .int .i64 0, (.slice a ls.length cap0), .string ⟨#[]⟩, .int .i64 0, .int .i64 (-1), .int .i64 tp] 66 (0, 0)), dC (.slice ma ms.length mcap) ms, inA (.slice a ls.length cap0) ls]) := h54
             clear h53 h54
             generalize Rd.ident af ms q = xq at *
             obtain ⟨x, q3⟩ := xq
             dsimp only at H51 HI5 H54 ⊢
             go_wp2_with (at_builtin; go_loud (refine wpList_append_lies _ rfl (.tmp 133) (.tmp 135) 161 rfl 0 9 i0 _ 1 16 Tryz.underlying161 ti tz0 tz1 tz2 rfl (by decide) _ _ (ms.map Value.string) (by rfl) ((H54.out.row 3 rfl).alloc _) ⟨w53.heap.size, 0, none⟩ 1 1 [.string x] (by rfl) (by rfl) (World.news_of_block (cs := #[.string x]) (t := 9) (fr := (0, 0)) (ak _ _ _ (by simp))) (by simp [Value.oneCell']) (by omega) (by unfold maxLen; omega) (by omega) (by simp) (w53.heap.size + 1) (by simp) ?_))
             intro g7 cap7 w7 hown7 hgrow7 hat7 hlt7
             have h7 := Prt.Sat.grow (H54.out.ay _) 3 rfl hgrow7 hown7 (by simpa using hat7)
             have h7 := h7.ent (i := 3) rfl (Q := dC _ (ms ++ [x])) (fun _ h => ed h)
             have h7 : Sat w0 w7 [Fr, rdA pb d af q3, blk (w.heap.size + 1) (.cells #[.int .i64 10, .int .i64 0, .int .i64 0, .int .i64 0, (.slice a ls.length cap0), .string ⟨#[]⟩, .int .i64 0, .int .i64 (-1), .int .i64 tp] 66 (0, 0)), dC (.slice (some ⟨g7, 0, none⟩) (ms.length + 1) cap7) (ms ++ [x]), inA (.slice a ls.length cap0) ls] := h7
             have H7 := qh h7
             clear h7 hown7 hgrow7 H54 H52
             go_wp2_with fail
             refine aS (H7.out.at 1 rfl) ⟨#[58]⟩ (fun w54 h55 => ?_)
             have h56 := H51.out.must HL.out
             have HM5 : Hid ((Rd.must af [58] q3).f = none → q.f = none ∧ q.st.pos + 1 ≤ (Rd.must af [58] q3).st.pos) := fun e => by
               have h1 := Rd.dH e
               have h2 := HI5.out h1.1
               exact ⟨h2.1, by omega⟩
             have h57 : Sat w0 w54 [Fr, rdA pb d af (Rd.must af [58] q3), blk (w.heap.size + 1) (.cells #[.int .i64 10, .int .i64 0, .int .i64 0, .int .i64 0, (.slice a ls.length cap0), .string ⟨#[]⟩, .int .i64 0, .int .i64 (-1), .int .i64 tp] 66 (0, 0)), dC (.slice (some ⟨g7, 0, none⟩) (ms.length + 1) cap7) (ms ++ [x]), inA (.slice a ls.length cap0) ls] := h55.un5
             generalize Rd.must af [58] q3 = q4 at *
             obtain ⟨w6', hx6, hback6⟩ := h56.use
             have HX6 := qh hx6
             have HB6 := qh hback6
             have H57 := qh h57
             clear hx6 hback6 H51 h55 h56 h57 H7
             go_wp2_with fail
             refine HEX.out _ _ _ pb _ 0 (j + 1 + 1 + 1) (K - 2) w6' (by omega) (by omega) (by omega) HX6.out (H57.out.at 1 rfl) _ (fun b q5 w8 h60 h61 => ?_)
             obtain ⟨h62, h63⟩ := HB6.out _ _ _ h60
             have hp5 : q5.f = none → q.f = none ∧ q.st.pos + 1 ≤ q5.st.pos := fun e => by
               obtain ⟨e1, e2⟩ := h63 e
               have := (hA _ _ _ e2).1
               have := HM5.out e1
               exact ⟨this.1, by omega⟩
             have h64 := (h62.mono (Nat.le_refl _) (by omega : (j + 1) + 1 ≤ (j + 1 + 1 + 1))).addN
             obtain ⟨h65, _⟩ := HB5.out _ _ _ h64
             have e1 : (K - 2) + 1 = (K - 1) := by omega
             rw [e1] at h65
             have hns5 := h62.ns
             have H65 := qh h65
             have HP5 := qh hp5
             have h66 : Sat w0 w8 [Fr, rdA pb d af q5, blk (w.heap.size + 1) (.cells #[.int .i64 10, .int .i64 0, .int .i64 0, .int .i64 0, (.slice a ls.length cap0), .string ⟨#[]⟩, .int .i64 0, .int .i64 (-1), .int .i64 tp] 66 (0, 0)), dC (.slice (some ⟨g7, 0, none⟩) (ms.length + 1) cap7) (ms ++ [x]), inA (.slice a ls.length cap0) ls] := h61.un5
             have c1'' := h66.cell 2 rfl 4 rfl
             have H66 := qh h66
             clear h60 h61 h62 h63 h64 h65 h66 hp5 HX6 HB6 HB5 e1
             go_wp2_with fail
             go_region_law (first | (go_simp; go_at_call 88; refine add_any { Ty.ndOf 15 tp2 with text := x, a := b } (.slice none 0 0) ((((H66.out.drew.at 1 rfl).nil 3 1))) (by omega) (fun w10 h70 => ?_); have h71 : Sat w0 w10 [Fr, rdA pb d af (Rd.addN { Ty.ndOf 15 tp2 with text := x, a := b } q5), blk (w.heap.size + 1) (.cells #[.int .i64 10, .int .i64 0, .int .i64 0, .int .i64 0, (.slice a ls.length cap0), .string ⟨#[]⟩, .int .i64 0, .int .i64 (-1), .int .i64 tp] 66 (0, 0)), dC (.slice (some ⟨g7, 0, none⟩) (ms.length + 1) cap7) (ms ++ [x]), inA (.slice a ls.length cap0) ls] := h70.un5; have d1 := h71.cell 2 rfl 4 rfl; have d2 := (h71.ay (.cells #[.int .i64 (q5.st.ns.length : Nat)] 3)).cell 2 rfl 4 rfl; have H71 := qh h71; clear h70 h71) | (go_loud (refine step_append_lies _ (by rfl) _ _ _ (by rfl) 0 3 k0 _ 1 8 Tryz.underlying39 tk vz0 vz1 vz2 rfl (by omega) (.slice a ls.length cap0) ls.length (ls.map aA) (by rfl) ((H71.out.row 4 rfl).alloc _) ⟨w10.heap.size, 0, none⟩ 1 1 [.int .i64 (q5.st.ns.length : Nat)] (by rfl) (by rfl) (World.news_of_block (cs := #[.int .i64 (q5.st.ns.length : Nat)]) (t := 3) (fr := (0, 0)) (ak _ _ _ (by simp))) (by simp [Value.oneCell']) (by omega) (by unfold maxLen; omega) (by omega) (by simp) (w10.heap.size + 1) (by simp) ?_); intro g8 cap8 w11 hown8 hgrow8 hat8 hlt8; have h72 := Prt.Sat.grow (H71.out.ay _) 4 rfl hgrow8 hown8 (by simpa using hat8); have d3 := h72.cell 2 rfl 4 rfl; have f3 := h72.free 2 rfl 4; have H72 := qh h72; clear h72))
             all_goals
               clear hown8 hgrow8
               have h73 := (H72.out.store 2 rfl 4 (.slice (some ⟨g8, 0, none⟩) (ls.length + 1) cap8)).ent (i := 4) rfl (Q := inA (.slice (some ⟨g8, 0, none⟩) (ls.length + 1) cap8) (ls ++ [q5.st.ns.length])) (fun _ h => bz h)
               have h73 : Sat w0 _ [Fr, rdA pb d af (Rd.addN { Ty.ndOf 15 tp2 with text := x, a := b } q5), blk (w.heap.size + 1) (.cells #[.int .i64 10, .int .i64 0, .int .i64 0, .int .i64 0, (.slice (some ⟨g8, 0, none⟩) (ls.length + 1) cap8), .string ⟨#[]⟩, .int .i64 0, .int .i64 (-1), .int .i64 tp] 66 (0, 0)), dC (.slice (some ⟨g7, 0, none⟩) (ms.length + 1) cap7) (ms ++ [x]), inA (.slice (some ⟨g8, 0, none⟩) (ls.length + 1) cap8) (ls ++ [q5.st.ns.length])] := h73
               have HMS2 := qh (bF (h73.pick [0, 1]).az af.length)
               have hp73 : q5.st.pos < af.length := (h73.pick [0, 1]).az.fits.1
               have H73 := qh h73
               clear h73
               go_wp2_with fail
               go_roundw
               case rel => exact ⟨f, l ++ [(x, q5.st.ns.length)], ms ++ [x], ls ++ [q5.st.ns.length], Rd.addN { Ty.ndOf 15 tp2 with text := x, a := b } q5, .slice (some ⟨g8, 0, none⟩) (ls.length + 1) cap8, by simp; omega, ⟨by rw [List.map_append, hml.out.1]; rfl, by rw [List.map_append, hml.out.2]; rfl⟩, fun h => ⟨(by have h1 := HP5.out h; have h2 := HQP.out h1.1; show af.length < q5.st.pos + f; omega), (by have h1 := HP5.out h; have h2 := HQP.out h1.1; rw [List.length_append]; show l.length + 1 ≤ q5.st.pos; omega)⟩, H65.out, H73.out⟩
               case measure =>
                 rw [HMQ.out, HMS2.out]
                 show (if q5.f.isSome = true then 0 else af.length - q5.st.pos + 1) < _
                 cases hq4 : q5.f with
                 | none => have h1 := HP5.out hq4; have h2 := HQP.out h1.1; simp; omega
                 | some y => simp
           · have k1 : decide ((0 : Int) < ms.length) = true := decide_eq_true (by omega)
             have k2 : decide (0 < ms.length) = true := decide_eq_true (by omega)
             rw [if_neg hl0] at hA2
             have HA2 := qh hA2
             have HQP : Hid ((Rd.must af [44] q).f = none → q.st.pos ≤ (Rd.must af [44] q).st.pos) := fun e => by have := (Rd.dH e).2; omega
             clear hp h21 hAt hfu HMS hqf hA2 hmq hl0 hlml
             go_wp2_with fail
             refine HBD.out _ ?_
             go_wp2_with fail
             refine aS (H21.out.at 1 rfl) ⟨#[44]⟩ (fun w22 h22 => ?_)
             have h23 : Sat w0 w22 [Fr, rdA pb d af (Rd.must af [44] q), blk (w.heap.size + 1) (.cells #[.int .i64 10, .int .i64 0, .int .i64 0, .int .i64 0, (.slice a ls.length cap0), .string ⟨#[]⟩, .int .i64 0, .int .i64 (-1), .int .i64 tp] 66 (0, 0)), dC (.slice ma ms.length mcap) ms, inA (.slice a ls.length cap0) ls] := h22.un5
             have H22 := qh h23
             clear h22 h23
             generalize Rd.must af [44] q = q2 at *
             go_wp2_with fail
             have hlk2 := (H22.out.pick [0, 1]).az
             obtain ⟨f0', c1', _, _, _, g0', cap', c0', hg', t0', t1', t2'⟩ := hlk2.cells
             have hpb' := hlk2.lt
             have hpos' := hlk2.fits.1
             obtain ⟨w5', hx5, hback5⟩ := HA2.out.use
             have h50 : At af 0 (j + 1) w5' (Ty.bnd (Ty.name af ms) fun x => Ty.bnd (Ty.need af [58]) fun _ => Ty.bnd E fun a => Ty.bnd (Ty.addNode { Ty.ndOf 15 (Ty.cur af q2.st.pos).pos with text := x, a := a }) fun n => Ty.ret (x, n)) q2 := hx5
             generalize Ty.cur af q2.st.pos = tt at *
             obtain ⟨kd2, tx2, tp2⟩ := tt
             dsimp only at t0' t1' t2' h50
             have h51 := At.ident HL.out h50
             have HB5 := qh hback5
             have HI5 : Hid ((Rd.ident af ms q2).2.f = none → q2.f = none ∧ q2.st.pos + 1 = (Rd.ident af ms q2).2.st.pos) := fun e => ⟨(Rd.dA e).1, (Rd.dA e).2.symm⟩
             have H51 := qh h51
             clear hlk2 hx5 hback5 h50 h51
             go_quiet (fail)
             have h52 := H22.out.below (Go.below_drewN (Below.refl _ _) nq)
             have H52 := qh h52
             clear h52
             go_wp2_with fail
             clear c0' c1' t0' t1' t2' f0'
             refine fB (H52.out.at 1 rfl) _ ms (H52.out.row 3 rfl) (by omega) (fun w53 h53 => ?_)
             have h54 := h53.un5
             have H54 : Hid (Sat w0 w53 [Fr, rdA pb d af (Rd.ident af ms q2).2, blk (w.heap.size + 1) (.cells #[.int .i64 10, .int .i64 0, .int .i64 0, .int .i64 0, (.slice a ls.length cap0), .string ⟨#[]⟩, .int .i64 0, .int .i64 (-1), .int .i64 tp] 66 (0, 0)), dC (.slice ma ms.length mcap) ms, inA (.slice a ls.length cap0) ls]) := h54
             clear h53 h54
             generalize Rd.ident af ms q2 = xq at *
             obtain ⟨x, q3⟩ := xq
             dsimp only at H51 HI5 H54 ⊢
             go_wp2_with (at_builtin; go_loud (refine wpList_append_lies _ rfl (.tmp 133) (.tmp 135) 161 rfl 0 9 i0 _ 1 16 Tryz.underlying161 ti tz0 tz1 tz2 rfl (by decide) _ _ (ms.map Value.string) (by rfl) ((H54.out.row 3 rfl).alloc _) ⟨w53.heap.size, 0, none⟩ 1 1 [.string x] (by rfl) (by rfl) (World.news_of_block (cs := #[.string x]) (t := 9) (fr := (0, 0)) (ak _ _ _ (by simp))) (by simp [Value.oneCell']) (by omega) (by unfold maxLen; omega) (by omega) (by simp) (w53.heap.size + 1) (by simp) ?_))
             intro g7 cap7 w7 hown7 hgrow7 hat7 hlt7
             have h7 := Prt.Sat.grow (H54.out.ay _) 3 rfl hgrow7 hown7 (by simpa using hat7)
             have h7 := h7.ent (i := 3) rfl (Q := dC _ (ms ++ [x])) (fun _ h => ed h)
             have h7 : Sat w0 w7 [Fr, rdA pb d af q3, blk (w.heap.size + 1) (.cells #[.int .i64 10, .int .i64 0, .int .i64 0, .int .i64 0, (.slice a ls.length cap0), .string ⟨#[]⟩, .int .i64 0, .int .i64 (-1), .int .i64 tp] 66 (0, 0)), dC (.slice (some ⟨g7, 0, none⟩) (ms.length + 1) cap7) (ms ++ [x]), inA (.slice a ls.length cap0) ls] := h7
             have H7 := qh h7
             clear h7 hown7 hgrow7 H54 H52
             go_wp2_with fail
             refine aS (H7.out.at 1 rfl) ⟨#[58]⟩ (fun w54 h55 => ?_)
             have h56 := H51.out.must HL.out
             have HM5 : Hid ((Rd.must af [58] q3).f = none → q2.f = none ∧ q2.st.pos + 1 ≤ (Rd.must af [58] q3).st.pos) := fun e => by
               have h1 := Rd.dH e
               have h2 := HI5.out h1.1
               exact ⟨h2.1, by omega⟩
             have h57 : Sat w0 w54 [Fr, rdA pb d af (Rd.must af [58] q3), blk (w.heap.size + 1) (.cells #[.int .i64 10, .int .i64 0, .int .i64 0, .int .i64 0, (.slice a ls.length cap0), .string ⟨#[]⟩, .int .i64 0, .int .i64 (-1), .int .i64 tp] 66 (0, 0)), dC (.slice (some ⟨g7, 0, none⟩) (ms.length + 1) cap7) (ms ++ [x]), inA (.slice a ls.length cap0) ls] := h55.un5
             generalize Rd.must af [58] q3 = q4 at *
             obtain ⟨w6', hx6, hback6⟩ := h56.use
             have HX6 := qh hx6
             have HB6 := qh hback6
             have H57 := qh h57
             clear hx6 hback6 H51 h55 h56 h57 H7
             go_wp2_with fail
             refine HEX.out _ _ _ pb _ 0 (j + 1 + 1 + 1) (K - 2) w6' (by omega) (by omega) (by omega) HX6.out (H57.out.at 1 rfl) _ (fun b q5 w8 h60 h61 => ?_)
             obtain ⟨h62, h63⟩ := HB6.out _ _ _ h60
             have hp5 : q5.f = none → q2.f = none ∧ q2.st.pos + 1 ≤ q5.st.pos := fun e => by
               obtain ⟨e1, e2⟩ := h63 e
               have := (hA _ _ _ e2).1
               have := HM5.out e1
               exact ⟨this.1, by omega⟩
             have h64 := (h62.mono (Nat.le_refl _) (by omega : (j + 1) + 1 ≤ (j + 1 + 1 + 1))).addN
             obtain ⟨h65, _⟩ := HB5.out _ _ _ h64
             have e1 : (K - 2) + 1 = (K - 1) := by omega
             rw [e1] at h65
             have hns5 := h62.ns
             have H65 := qh h65
             have HP5 := qh hp5
             have h66 : Sat w0 w8 [Fr, rdA pb d af q5, blk (w.heap.size + 1) (.cells #[.int .i64 10, .int .i64 0, .int .i64 0, .int .i64 0, (.slice a ls.length cap0), .string ⟨#[]⟩, .int .i64 0, .int .i64 (-1), .int .i64 tp] 66 (0, 0)), dC (.slice (some ⟨g7, 0, none⟩) (ms.length + 1) cap7) (ms ++ [x]), inA (.slice a ls.length cap0) ls] := h61.un5
             have c1'' := h66.cell 2 rfl 4 rfl
             have H66 := qh h66
             clear h60 h61 h62 h63 h64 h65 h66 hp5 HX6 HB6 HB5 e1
             go_wp2_with fail
             go_region_law (first | (go_simp; go_at_call 88; refine add_any { Ty.ndOf 15 tp2 with text := x, a := b } (.slice none 0 0) ((((H66.out.drew.at 1 rfl).nil 3 1))) (by omega) (fun w10 h70 => ?_); have h71 : Sat w0 w10 [Fr, rdA pb d af (Rd.addN { Ty.ndOf 15 tp2 with text := x, a := b } q5), blk (w.heap.size + 1) (.cells #[.int .i64 10, .int .i64 0, .int .i64 0, .int .i64 0, (.slice a ls.length cap0), .string ⟨#[]⟩, .int .i64 0, .int .i64 (-1), .int .i64 tp] 66 (0, 0)), dC (.slice (some ⟨g7, 0, none⟩) (ms.length + 1) cap7) (ms ++ [x]), inA (.slice a ls.length cap0) ls] := h70.un5; have d1 := h71.cell 2 rfl 4 rfl; have d2 := (h71.ay (.cells #[.int .i64 (q5.st.ns.length : Nat)] 3)).cell 2 rfl 4 rfl; have H71 := qh h71; clear h70 h71) | (go_loud (refine step_append_lies _ (by rfl) _ _ _ (by rfl) 0 3 k0 _ 1 8 Tryz.underlying39 tk vz0 vz1 vz2 rfl (by omega) (.slice a ls.length cap0) ls.length (ls.map aA) (by rfl) ((H71.out.row 4 rfl).alloc _) ⟨w10.heap.size, 0, none⟩ 1 1 [.int .i64 (q5.st.ns.length : Nat)] (by rfl) (by rfl) (World.news_of_block (cs := #[.int .i64 (q5.st.ns.length : Nat)]) (t := 3) (fr := (0, 0)) (ak _ _ _ (by simp))) (by simp [Value.oneCell']) (by omega) (by unfold maxLen; omega) (by omega) (by simp) (w10.heap.size + 1) (by simp) ?_); intro g8 cap8 w11 hown8 hgrow8 hat8 hlt8; have h72 := Prt.Sat.grow (H71.out.ay _) 4 rfl hgrow8 hown8 (by simpa using hat8); have d3 := h72.cell 2 rfl 4 rfl; have f3 := h72.free 2 rfl 4; have H72 := qh h72; clear h72))
             all_goals
               clear hown8 hgrow8
               have h73 := (H72.out.store 2 rfl 4 (.slice (some ⟨g8, 0, none⟩) (ls.length + 1) cap8)).ent (i := 4) rfl (Q := inA (.slice (some ⟨g8, 0, none⟩) (ls.length + 1) cap8) (ls ++ [q5.st.ns.length])) (fun _ h => bz h)
               have h73 : Sat w0 _ [Fr, rdA pb d af (Rd.addN { Ty.ndOf 15 tp2 with text := x, a := b } q5), blk (w.heap.size + 1) (.cells #[.int .i64 10, .int .i64 0, .int .i64 0, .int .i64 0, (.slice (some ⟨g8, 0, none⟩) (ls.length + 1) cap8), .string ⟨#[]⟩, .int .i64 0, .int .i64 (-1), .int .i64 tp] 66 (0, 0)), dC (.slice (some ⟨g7, 0, none⟩) (ms.length + 1) cap7) (ms ++ [x]), inA (.slice (some ⟨g8, 0, none⟩) (ls.length + 1) cap8) (ls ++ [q5.st.ns.length])] := h73
               have HMS2 := qh (bF (h73.pick [0, 1]).az af.length)
               have hp73 : q5.st.pos < af.length := (h73.pick [0, 1]).az.fits.1
               have H73 := qh h73
               clear h73
               go_wp2_with fail
               go_roundw
               case rel => exact ⟨f, l ++ [(x, q5.st.ns.length)], ms ++ [x], ls ++ [q5.st.ns.length], Rd.addN { Ty.ndOf 15 tp2 with text := x, a := b } q5, .slice (some ⟨g8, 0, none⟩) (ls.length + 1) cap8, by simp; omega, ⟨by rw [List.map_append, hml.out.1]; rfl, by rw [List.map_append, hml.out.2]; rfl⟩, fun h => ⟨(by have h1 := HP5.out h; have h2 := HQP.out h1.1; show af.length < q5.st.pos + f; omega), (by have h1 := HP5.out h; have h2 := HQP.out h1.1; rw [List.length_append]; show l.length + 1 ≤ q5.st.pos; omega)⟩, H65.out, H73.out⟩
               case measure =>
                 rw [HMQ.out, HMS2.out]
                 show (if q5.f.isSome = true then 0 else af.length - q5.st.pos + 1) < _
                 cases hq4 : q5.f with
                 | none => have h1 := HP5.out hq4; have h2 := HQP.out h1.1; simp; omega
                 | some y => simp
   have HZ15 := qh ha
   have H15 := qh h15.un3
   clear ha h15
   go_wp2_with fail
   refine aW (H15.out.at 1 rfl) ⟨#[102, 110]⟩ (fun w16 ha h16 => ?_) (fun w16 ha h16 => ?_)
   · have h2 := HPK.out ⟨#[102, 110]⟩ (Ty.functionM af T S tp) ha (HSM3.out _ (Ty.Ep (Rd.aF HQF.out HZ11.out) (Rd.aF HQF.out HZ12.out) (Rd.aF HQF.out HZ13.out) (Rd.cZ ha)))
     have h3 : At af 0 (j + 1) whole (Ty.bnd (Ty.need af [40]) fun _ => Ty.bnd (Ty.list af [41] (fun l => Ty.paramM af T (l.map Prod.fst)) (af.length + 1) []) fun l => Ty.bnd (Ty.written af T) fun t => Ty.bnd (Ty.blockM af S) fun a => Ty.addNode { Ty.ndOf 6 tp with list := l.map Prod.snd, ty := t, a := a }) (Rd.next s) := h2
     have g1 := h16.un3
     have y0 := g1.cell 2 rfl 0 rfl
     have fz := g1.free 2 rfl
     have hz := g1.lt 2 rfl
     have g2 := g1.store 2 rfl 0 (.int .i64 6)
     have G2 := qh g2
     have H3 := qh ((h3.must HL.out).mono (Nat.le_refl 0) (by omega : j + 1 ≤ j + 1 + 1))
     clear ha h16 h2 h3 g1 g2 HPK HSM3 HSM4 HA1
     go_wp2_with fail
     clear y0 fz
     refine aS (G2.out.at 1 rfl) ⟨#[40]⟩ (fun w17 h17 => ?_)
     obtain ⟨w2', hx, hback⟩ := H3.out.use
     have HB := qh hback
     have h2x : Sat w0 w17 [Fr, rdA pb d af (Rd.must af [40] (Rd.next s)), _] := h17.un3
     generalize Rd.must af [40] (Rd.next s) = s2 at *
     clear H3 hback h17
     have H2 := qh ((h2x.nil 9 1).nil 3 1)
     have HX := qh (hx.mono (by omega : 0 ≤ (K - 2)) (Nat.le_refl _))
     clear h2x hx
     go_wp2_with fail
     go_loopw [9] (fun mv wr => ∃ (f : Nat) (l : List (ByteArray × Nat)) (ms : List ByteArray) (ls : List Nat) (q : Rd.RS) (lv : Value), l.length ≤ af.length + 1 ∧ Hid (l.map Prod.fst = ms ∧ l.map Prod.snd = ls) ∧ Hid (q.f = none → af.length < q.st.pos + f ∧ l.length ≤ q.st.pos) ∧ Hid (At af (K - 2) (j + 1) w2' (Ty.list af [41] (fun l => Ty.paramM af T (l.map Prod.fst)) f l) q) ∧ Hid (Sat w0 wr [Fr, rdA pb d af q, blk (w.heap.size + 1) (.cells #[.int .i64 6, .int .i64 0, .int .i64 0, .int .i64 0, lv, .string ⟨#[]⟩, .int .i64 0, .int .i64 (-1), .int .i64 tp] 66 (0, 0)), dC mv ms, inA lv ls]))
       (fun _ wr => msR af.length pb wr)
     case atStart => exact ⟨af.length + 1, [], [], [], s2, .slice none 0 0, by simp, ⟨rfl, rfl⟩, fun _ => ⟨by omega, by simp⟩, HX.out, H2.out⟩
     case round =>
       obtain ⟨f, l, ms, ls, q, lv, hll, hml, hfu, hAt, hSS⟩ := hrel
       obtain ⟨a, cap0, rfl⟩ := ag (hSS.out.row 4 rfl)
       obtain ⟨ma, mcap, rfl⟩ := ag (hSS.out.row 3 rfl)
       have hmsl : ms.length ≤ af.length + 1 := by rw [← hml.out.1, List.length_map]; exact hll
       have hlsl : ls.length ≤ af.length + 1 := by rw [← hml.out.2, List.length_map]; exact hll
       have HMS := qh (bF (hSS.out.pick [0, 1]).az af.length)
       go_wp2_with fail
       refine aW (hSS.out.at 1 rfl) ⟨#[41]⟩ (fun w21 hp h21 => ?_) (fun w21 hp h21 => ?_)
       · obtain ⟨hqf, _⟩ := Rd.bu hp
         have hfp := (hfu.out hqf).1
         have hpos := hAt.out.pos
         obtain ⟨f, rfl⟩ : ∃ g, f = g + 1 := ⟨f - 1, by omega⟩
         obtain ⟨h7, _⟩ := HB.out _ _ _ (At.oL HL.out hAt.out hp)
         rw [hml.out.2] at h7
         obtain ⟨w3', hx3, hback3⟩ := h7.use
         have HX3 := qh hx3
         have HB3 := qh hback3
         have G3 := qh h21.un5
         clear hp h21 hAt hfu HMS h7 hx3 hback3
         go_wp2_with fail
         refine dW HL.out HTX.out (K := K - 2) (Nat.le_refl _) (by omega) (by omega) HX3.out (G3.out.at 1 rfl) (fun tn s30 w30 h30 h31 => ?_)
         obtain ⟨h32, _⟩ := HB3.out _ _ _ h30
         obtain ⟨w4', hx4, hback4⟩ := h32.use
         have HX4 := qh hx4
         have HB4 := qh hback4
         have g4 := h31.un5
         have y7 := g4.cell 2 rfl 7 rfl
         have f7 := g4.free 2 rfl
         have z7 := g4.lt 2 rfl
         have g5 := g4.store 2 rfl 7 (.int .i64 tn)
         have G5 := qh g5
         clear h30 h31 h32 hx4 hback4 g4 g5 HX3 HB3
         go_wp2_with fail
         clear y7 f7
         refine HBR.out _ _ _ pb _ (K - 2) (j + 1) (K - 1) w4' (by omega) (by omega) (by omega) HX4.out (G5.out.at 1 rfl) _ (fun an s33 w33 h33 h34 => ?_)
         obtain ⟨h35, _⟩ := HB4.out _ _ _ h33
         have h36 := h35.di
         have e1 : K - 1 + 1 = K := by omega
         rw [e1] at h36
         have hns9 := h35.ns
         have HA2 := qh h36
         have g6 := h34.un5
         have y1 := g6.cell 2 rfl 1 rfl
         have f1 := g6.free 2 rfl
         have z1 := g6.lt 2 rfl
         have q0 := g6.cell 2 rfl 0 rfl
         have q2 := g6.cell 2 rfl 2 rfl
         have q3 := g6.cell 2 rfl 3 rfl
         have q4 := g6.cell 2 rfl 4 rfl
         have q5 := g6.cell 2 rfl 5 rfl
         have q6 := g6.cell 2 rfl 6 rfl
         have q7 := g6.cell 2 rfl 7 rfl
         have q8 := g6.cell 2 rfl 8 rfl
         have g7 := g6.store 2 rfl 1 (.int .i64 (an : Nat))
         have G7 := qh g7
         clear h33 h34 h35 h36 g6 g7 HX4 HB4 e1
         go_wp2_with fail
         refine add_any { Ty.ndOf 6 tp with list := ls, ty := tn, a := an } (.slice a ls.length cap0) (G7.out.pick [0, 1, 4]) (by omega) (fun w9 h10 => ?_)
         have H10 := qh h10
         clear h10
         go_wp2_with fail
         exact HR.out _ _ _ HA2.out H10.out
       · have HBD := qh (fun R hR => @bC w21 pb d af q (h21.un5.pick [0, 1]).az R hR)
         cases hqf : q.f with
         | some y =>
           obtain ⟨h7, _⟩ := HB.out _ _ _ (hAt.out.bad hqf (Ty.ret l) (j + 1))
           rw [hml.out.2] at h7
           obtain ⟨w3', hx3, hback3⟩ := h7.use
           have HX3 := qh hx3
           have HB3 := qh hback3
           have G3 := qh h21.un5
           have HQ : Hid (q.f.isSome = true) := by show _ = _; rw [hqf]; rfl
           rw [HQ.out] at HBD
           clear hp h21 hAt hfu HMS h7 hqf hx3 hback3
           go_wp2_with fail
           refine HBD.out _ ?_
           go_wp2_with fail
           refine dW HL.out HTX.out (K := K - 2) (Nat.le_refl _) (by omega) (by omega) HX3.out (G3.out.at 1 rfl) (fun tn s30 w30 h30 h31 => ?_)
           obtain ⟨h32, _⟩ := HB3.out _ _ _ h30
           obtain ⟨w4', hx4, hback4⟩ := h32.use
           have HX4 := qh hx4
           have HB4 := qh hback4
           have g4 := h31.un5
           have y7 := g4.cell 2 rfl 7 rfl
           have f7 := g4.free 2 rfl
           have z7 := g4.lt 2 rfl
           have g5 := g4.store 2 rfl 7 (.int .i64 tn)
           have G5 := qh g5
           clear h30 h31 h32 hx4 hback4 g4 g5 HX3 HB3
           go_wp2_with fail
           clear y7 f7
           refine HBR.out _ _ _ pb _ (K - 2) (j + 1) (K - 1) w4' (by omega) (by omega) (by omega) HX4.out (G5.out.at 1 rfl) _ (fun an s33 w33 h33 h34 => ?_)
           obtain ⟨h35, _⟩ := HB4.out _ _ _ h33
           have h36 := h35.di
           have e1 : K - 1 + 1 = K := by omega
           rw [e1] at h36
           have hns9 := h35.ns
           have HA2 := qh h36
           have g6 := h34.un5
           have y1 := g6.cell 2 rfl 1 rfl
           have f1 := g6.free 2 rfl
           have z1 := g6.lt 2 rfl
           have q0 := g6.cell 2 rfl 0 rfl
           have q2 := g6.cell 2 rfl 2 rfl
           have q3 := g6.cell 2 rfl 3 rfl
           have q4 := g6.cell 2 rfl 4 rfl
           have q5 := g6.cell 2 rfl 5 rfl
           have q6 := g6.cell 2 rfl 6 rfl
           have q7 := g6.cell 2 rfl 7 rfl
           have q8 := g6.cell 2 rfl 8 rfl
           have g7 := g6.store 2 rfl 1 (.int .i64 (an : Nat))
           have G7 := qh g7
           clear h33 h34 h35 h36 g6 g7 HX4 HB4 e1
           go_wp2_with fail
           refine add_any { Ty.ndOf 6 tp with list := ls, ty := tn, a := an } (.slice a ls.length cap0) (G7.out.pick [0, 1, 4]) (by omega) (fun w9 h10 => ?_)
           have H10 := qh h10
           clear h10
           go_wp2_with fail
           exact HR.out _ _ _ HA2.out H10.out
         | none =>
           have hfp := hfu.out hqf
           have hpos := hAt.out.pos
           obtain ⟨f, rfl⟩ : ∃ g, f = g + 1 := ⟨f - 1, by omega⟩
           have hA2 := At.tY HL.out (hAt.out.good hqf 0) hp
           rw [hml.out.1] at hA2
           have HQ : Hid (q.f.isSome = false) := by show _ = _; rw [hqf]; rfl
           have hmq : msR af.length pb wr = af.length - q.st.pos + 1 := by rw [HMS.out, hqf]; rfl
           have HMQ := qh hmq
           have H21 := qh h21.un5
           have hlml : l.length = ms.length := by rw [← hml.out.1, List.length_map]
           rw [HQ.out] at HBD
           by_cases hl0 : l.length = 0
           · have k1 : decide ((0 : Int) < ms.length) = false := decide_eq_false (by omega)
             have k2 : decide (0 < ms.length) = false := decide_eq_false (by omega)
             rw [if_pos hl0] at hA2
             have HA2 := qh hA2
             have HQP : Hid (q.f = none → q.st.pos ≤ q.st.pos) := fun _ => Nat.le_refl _
             clear hp h21 hAt hfu HMS hqf hA2 hmq hl0 hlml
             go_wp2_with fail
             refine HBD.out _ ?_
             go_wp2_with fail
             have H22 := H21
             have hlk2 := (H22.out.pick [0, 1]).az
             obtain ⟨f0', c1', _, _, _, g0', cap', c0', hg', t0', t1', t2'⟩ := hlk2.cells
             have hpb' := hlk2.lt
             have hpos' := hlk2.fits.1
             obtain ⟨w5', hx5, hback5⟩ := HA2.out.use
             have h50 : At af 0 (j + 1) w5' (Ty.bnd (Ty.name af ms) fun x => Ty.bnd (Ty.written af T) fun t => Ty.bnd (Ty.addNode { Ty.ndOf 16 (Ty.cur af q.st.pos).pos with text := x, ty := t }) fun n => Ty.ret (x, n)) q := hx5
             generalize Ty.cur af q.st.pos = tt at *
             obtain ⟨kd2, tx2, tp2⟩ := tt
             dsimp only at t0' t1' t2' h50
             have h51 := At.ident HL.out h50
             have HB5 := qh hback5
             have HI5 : Hid ((Rd.ident af ms q).2.f = none → q.f = none ∧ q.st.pos + 1 = (Rd.ident af ms q).2.st.pos) := fun e => ⟨(Rd.dA e).1, (Rd.dA e).2.symm⟩
             have H51 := qh h51
             clear hlk2 hx5 hback5 h50 h51
             go_quiet (fail)
             have h52 := H22.out.below (Go.below_drewN (Below.refl _ _) nq)
             have H52 := qh h52
             clear h52
             go_wp2_with fail
             clear c0' c1' t0' t1' t2' f0'
             refine fB (H52.out.at 1 rfl) _ ms (H52.out.row 3 rfl) (by omega) (fun w53 h53 => ?_)
             have h54 := h53.un5
             have H54 : Hid (Sat w0 w53 [Fr, rdA pb d af (Rd.ident af ms q).2, blk (w.heap.size + 1) (.cells #[.int .i64 6, .int .i64 0, .int .i64 0, .int .i64 0, (.slice a ls.length cap0), .string ⟨#[]⟩, .int .i64 0, .int .i64 (-1), .int .i64 tp] 66 (0, 0)), dC (.slice ma ms.length mcap) ms, inA (.slice a ls.length cap0) ls]) := h54
             clear h53 h54
             generalize Rd.ident af ms q = xq at *
             obtain ⟨x, q3⟩ := xq
             dsimp only at H51 HI5 H54 ⊢
             go_wp2_with (at_builtin; go_loud (refine wpList_append_lies _ rfl (.tmp 185) (.tmp 187) 161 rfl 0 9 i0 _ 1 16 Tryz.underlying161 ti tz0 tz1 tz2 rfl (by decide) _ _ (ms.map Value.string) (by rfl) ((H54.out.row 3 rfl).alloc _) ⟨w53.heap.size, 0, none⟩ 1 1 [.string x] (by rfl) (by rfl) (World.news_of_block (cs := #[.string x]) (t := 9) (fr := (0, 0)) (ak _ _ _ (by simp))) (by simp [Value.oneCell']) (by omega) (by unfold maxLen; omega) (by omega) (by simp) (w53.heap.size + 1) (by simp) ?_))
             intro g7 cap7 w7 hown7 hgrow7 hat7 hlt7
             have h7 := Prt.Sat.grow (H54.out.ay _) 3 rfl hgrow7 hown7 (by simpa using hat7)
             have h7 := h7.ent (i := 3) rfl (Q := dC _ (ms ++ [x])) (fun _ h => ed h)
             have h7 : Sat w0 w7 [Fr, rdA pb d af q3, blk (w.heap.size + 1) (.cells #[.int .i64 6, .int .i64 0, .int .i64 0, .int .i64 0, (.slice a ls.length cap0), .string ⟨#[]⟩, .int .i64 0, .int .i64 (-1), .int .i64 tp] 66 (0, 0)), dC (.slice (some ⟨g7, 0, none⟩) (ms.length + 1) cap7) (ms ++ [x]), inA (.slice a ls.length cap0) ls] := h7
             have H7 := qh h7
             clear h7 hown7 hgrow7 H54 H52
             obtain ⟨w6', hx6, hback6⟩ := H51.out.use
             have HX6 := qh hx6
             have HB6 := qh hback6
             clear hx6 hback6 H51
             go_wp2_with fail
             refine dW HL.out HTX.out (K := (K - 3)) (Nat.zero_le _) (by omega) (by omega) HX6.out (H7.out.at 1 rfl) (fun tn q5 w8 h60 h61 => ?_)
             obtain ⟨h62, h63⟩ := HB6.out _ _ _ h60
             have hp5 : q5.f = none → q.f = none ∧ q.st.pos + 1 ≤ q5.st.pos := fun e => by
               obtain ⟨e1, e2⟩ := h63 e
               have := (Ty.written_adv hAT _ _ _ e2).1
               have := HI5.out e1
               exact ⟨this.1, by omega⟩
             have h64 := (h62.mono (Nat.le_refl _) (by omega : (j + 1) + 1 ≤ (j + 1 + 1))).addN
             obtain ⟨h65, _⟩ := HB5.out _ _ _ h64
             have e1 : (K - 3) + 1 = (K - 2) := by omega
             rw [e1] at h65
             have hns5 := h62.ns
             have H65 := qh h65
             have HP5 := qh hp5
             have h66 : Sat w0 w8 [Fr, rdA pb d af q5, blk (w.heap.size + 1) (.cells #[.int .i64 6, .int .i64 0, .int .i64 0, .int .i64 0, (.slice a ls.length cap0), .string ⟨#[]⟩, .int .i64 0, .int .i64 (-1), .int .i64 tp] 66 (0, 0)), dC (.slice (some ⟨g7, 0, none⟩) (ms.length + 1) cap7) (ms ++ [x]), inA (.slice a ls.length cap0) ls] := h61.un5
             have c1'' := h66.cell 2 rfl 4 rfl
             have H66 := qh h66
             clear h60 h61 h62 h63 h64 h65 h66 hp5 HX6 HB6 HB5 e1
             go_wp2_with fail
             go_region_law (first | (go_simp; go_at_call 88; refine add_any { Ty.ndOf 16 tp2 with text := x, ty := tn } (.slice none 0 0) ((((H66.out.drew.at 1 rfl).nil 3 1))) (by omega) (fun w10 h70 => ?_); have h71 : Sat w0 w10 [Fr, rdA pb d af (Rd.addN { Ty.ndOf 16 tp2 with text := x, ty := tn } q5), blk (w.heap.size + 1) (.cells #[.int .i64 6, .int .i64 0, .int .i64 0, .int .i64 0, (.slice a ls.length cap0), .string ⟨#[]⟩, .int .i64 0, .int .i64 (-1), .int .i64 tp] 66 (0, 0)), dC (.slice (some ⟨g7, 0, none⟩) (ms.length + 1) cap7) (ms ++ [x]), inA (.slice a ls.length cap0) ls] := h70.un5; have d1 := h71.cell 2 rfl 4 rfl; have d2 := (h71.ay (.cells #[.int .i64 (q5.st.ns.length : Nat)] 3)).cell 2 rfl 4 rfl; have H71 := qh h71; clear h70 h71) | (go_loud (refine step_append_lies _ (by rfl) _ _ _ (by rfl) 0 3 k0 _ 1 8 Tryz.underlying39 tk vz0 vz1 vz2 rfl (by omega) (.slice a ls.length cap0) ls.length (ls.map aA) (by rfl) ((H71.out.row 4 rfl).alloc _) ⟨w10.heap.size, 0, none⟩ 1 1 [.int .i64 (q5.st.ns.length : Nat)] (by rfl) (by rfl) (World.news_of_block (cs := #[.int .i64 (q5.st.ns.length : Nat)]) (t := 3) (fr := (0, 0)) (ak _ _ _ (by simp))) (by simp [Value.oneCell']) (by omega) (by unfold maxLen; omega) (by omega) (by simp) (w10.heap.size + 1) (by simp) ?_); intro g8 cap8 w11 hown8 hgrow8 hat8 hlt8; have h72 := Prt.Sat.grow (H71.out.ay _) 4 rfl hgrow8 hown8 (by simpa using hat8); have d3 := h72.cell 2 rfl 4 rfl; have f3 := h72.free 2 rfl 4; have H72 := qh h72; clear h72))
             all_goals
               clear hown8 hgrow8
               have h73 := (H72.out.store 2 rfl 4 (.slice (some ⟨g8, 0, none⟩) (ls.length + 1) cap8)).ent (i := 4) rfl (Q := inA (.slice (some ⟨g8, 0, none⟩) (ls.length + 1) cap8) (ls ++ [q5.st.ns.length])) (fun _ h => bz h)
               have h73 : Sat w0 _ [Fr, rdA pb d af (Rd.addN { Ty.ndOf 16 tp2 with text := x, ty := tn } q5), blk (w.heap.size + 1) (.cells #[.int .i64 6, .int .i64 0, .int .i64 0, .int .i64 0, (.slice (some ⟨g8, 0, none⟩) (ls.length + 1) cap8), .string ⟨#[]⟩, .int .i64 0, .int .i64 (-1), .int .i64 tp] 66 (0, 0)), dC (.slice (some ⟨g7, 0, none⟩) (ms.length + 1) cap7) (ms ++ [x]), inA (.slice (some ⟨g8, 0, none⟩) (ls.length + 1) cap8) (ls ++ [q5.st.ns.length])] := h73
               have HMS2 := qh (bF (h73.pick [0, 1]).az af.length)
               have hp73 : q5.st.pos < af.length := (h73.pick [0, 1]).az.fits.1
               have H73 := qh h73
               clear h73
               go_wp2_with fail
               go_roundw
               case rel => exact ⟨f, l ++ [(x, q5.st.ns.length)], ms ++ [x], ls ++ [q5.st.ns.length], Rd.addN { Ty.ndOf 16 tp2 with text := x, ty := tn } q5, .slice (some ⟨g8, 0, none⟩) (ls.length + 1) cap8, by simp; omega, ⟨by rw [List.map_append, hml.out.1]; rfl, by rw [List.map_append, hml.out.2]; rfl⟩, fun h => ⟨(by have h1 := HP5.out h; have h2 := HQP.out h1.1; show af.length < q5.st.pos + f; omega), (by have h1 := HP5.out h; have h2 := HQP.out h1.1; rw [List.length_append]; show l.length + 1 ≤ q5.st.pos; omega)⟩, H65.out, H73.out⟩
               case measure =>
                 rw [HMQ.out, HMS2.out]
                 show (if q5.f.isSome = true then 0 else af.length - q5.st.pos + 1) < _
                 cases hq4 : q5.f with
                 | none => have h1 := HP5.out hq4; have h2 := HQP.out h1.1; simp; omega
                 | some y => simp
           · have k1 : decide ((0 : Int) < ms.length) = true := decide_eq_true (by omega)
             have k2 : decide (0 < ms.length) = true := decide_eq_true (by omega)
             rw [if_neg hl0] at hA2
             have HA2 := qh hA2
             have HQP : Hid ((Rd.must af [44] q).f = none → q.st.pos ≤ (Rd.must af [44] q).st.pos) := fun e => by have := (Rd.dH e).2; omega
             clear hp h21 hAt hfu HMS hqf hA2 hmq hl0 hlml
             go_wp2_with fail
             refine HBD.out _ ?_
             go_wp2_with fail
             refine aS (H21.out.at 1 rfl) ⟨#[44]⟩ (fun w22 h22 => ?_)
             have h23 : Sat w0 w22 [Fr, rdA pb d af (Rd.must af [44] q), blk (w.heap.size + 1) (.cells #[.int .i64 6, .int .i64 0, .int .i64 0, .int .i64 0, (.slice a ls.length cap0), .string ⟨#[]⟩, .int .i64 0, .int .i64 (-1), .int .i64 tp] 66 (0, 0)), dC (.slice ma ms.length mcap) ms, inA (.slice a ls.length cap0) ls] := h22.un5
             have H22 := qh h23
             clear h22 h23
             generalize Rd.must af [44] q = q2 at *
             go_wp2_with fail
             have hlk2 := (H22.out.pick [0, 1]).az
             obtain ⟨f0', c1', _, _, _, g0', cap', c0', hg', t0', t1', t2'⟩ := hlk2.cells
             have hpb' := hlk2.lt
             have hpos' := hlk2.fits.1
             obtain ⟨w5', hx5, hback5⟩ := HA2.out.use
             have h50 : At af 0 (j + 1) w5' (Ty.bnd (Ty.name af ms) fun x => Ty.bnd (Ty.written af T) fun t => Ty.bnd (Ty.addNode { Ty.ndOf 16 (Ty.cur af q2.st.pos).pos with text := x, ty := t }) fun n => Ty.ret (x, n)) q2 := hx5
             generalize Ty.cur af q2.st.pos = tt at *
             obtain ⟨kd2, tx2, tp2⟩ := tt
             dsimp only at t0' t1' t2' h50
             have h51 := At.ident HL.out h50
             have HB5 := qh hback5
             have HI5 : Hid ((Rd.ident af ms q2).2.f = none → q2.f = none ∧ q2.st.pos + 1 = (Rd.ident af ms q2).2.st.pos) := fun e => ⟨(Rd.dA e).1, (Rd.dA e).2.symm⟩
             have H51 := qh h51
             clear hlk2 hx5 hback5 h50 h51
             go_quiet (fail)
             have h52 := H22.out.below (Go.below_drewN (Below.refl _ _) nq)
             have H52 := qh h52
             clear h52
             go_wp2_with fail
             clear c0' c1' t0' t1' t2' f0'
             refine fB (H52.out.at 1 rfl) _ ms (H52.out.row 3 rfl) (by omega) (fun w53 h53 => ?_)
             have h54 := h53.un5
             have H54 : Hid (Sat w0 w53 [Fr, rdA pb d af (Rd.ident af ms q2).2, blk (w.heap.size + 1) (.cells #[.int .i64 6, .int .i64 0, .int .i64 0, .int .i64 0, (.slice a ls.length cap0), .string ⟨#[]⟩, .int .i64 0, .int .i64 (-1), .int .i64 tp] 66 (0, 0)), dC (.slice ma ms.length mcap) ms, inA (.slice a ls.length cap0) ls]) := h54
             clear h53 h54
             generalize Rd.ident af ms q2 = xq at *
             obtain ⟨x, q3⟩ := xq
             dsimp only at H51 HI5 H54 ⊢
             go_wp2_with (at_builtin; go_loud (refine wpList_append_lies _ rfl (.tmp 185) (.tmp 187) 161 rfl 0 9 i0 _ 1 16 Tryz.underlying161 ti tz0 tz1 tz2 rfl (by decide) _ _ (ms.map Value.string) (by rfl) ((H54.out.row 3 rfl).alloc _) ⟨w53.heap.size, 0, none⟩ 1 1 [.string x] (by rfl) (by rfl) (World.news_of_block (cs := #[.string x]) (t := 9) (fr := (0, 0)) (ak _ _ _ (by simp))) (by simp [Value.oneCell']) (by omega) (by unfold maxLen; omega) (by omega) (by simp) (w53.heap.size + 1) (by simp) ?_))
             intro g7 cap7 w7 hown7 hgrow7 hat7 hlt7
             have h7 := Prt.Sat.grow (H54.out.ay _) 3 rfl hgrow7 hown7 (by simpa using hat7)
             have h7 := h7.ent (i := 3) rfl (Q := dC _ (ms ++ [x])) (fun _ h => ed h)
             have h7 : Sat w0 w7 [Fr, rdA pb d af q3, blk (w.heap.size + 1) (.cells #[.int .i64 6, .int .i64 0, .int .i64 0, .int .i64 0, (.slice a ls.length cap0), .string ⟨#[]⟩, .int .i64 0, .int .i64 (-1), .int .i64 tp] 66 (0, 0)), dC (.slice (some ⟨g7, 0, none⟩) (ms.length + 1) cap7) (ms ++ [x]), inA (.slice a ls.length cap0) ls] := h7
             have H7 := qh h7
             clear h7 hown7 hgrow7 H54 H52
             obtain ⟨w6', hx6, hback6⟩ := H51.out.use
             have HX6 := qh hx6
             have HB6 := qh hback6
             clear hx6 hback6 H51
             go_wp2_with fail
             refine dW HL.out HTX.out (K := (K - 3)) (Nat.zero_le _) (by omega) (by omega) HX6.out (H7.out.at 1 rfl) (fun tn q5 w8 h60 h61 => ?_)
             obtain ⟨h62, h63⟩ := HB6.out _ _ _ h60
             have hp5 : q5.f = none → q2.f = none ∧ q2.st.pos + 1 ≤ q5.st.pos := fun e => by
               obtain ⟨e1, e2⟩ := h63 e
               have := (Ty.written_adv hAT _ _ _ e2).1
               have := HI5.out e1
               exact ⟨this.1, by omega⟩
             have h64 := (h62.mono (Nat.le_refl _) (by omega : (j + 1) + 1 ≤ (j + 1 + 1))).addN
             obtain ⟨h65, _⟩ := HB5.out _ _ _ h64
             have e1 : (K - 3) + 1 = (K - 2) := by omega
             rw [e1] at h65
             have hns5 := h62.ns
             have H65 := qh h65
             have HP5 := qh hp5
             have h66 : Sat w0 w8 [Fr, rdA pb d af q5, blk (w.heap.size + 1) (.cells #[.int .i64 6, .int .i64 0, .int .i64 0, .int .i64 0, (.slice a ls.length cap0), .string ⟨#[]⟩, .int .i64 0, .int .i64 (-1), .int .i64 tp] 66 (0, 0)), dC (.slice (some ⟨g7, 0, none⟩) (ms.length + 1) cap7) (ms ++ [x]), inA (.slice a ls.length cap0) ls] := h61.un5
             have c1'' := h66.cell 2 rfl 4 rfl
             have H66 := qh h66
             clear h60 h61 h62 h63 h64 h65 h66 hp5 HX6 HB6 HB5 e1
             go_wp2_with fail
             go_region_law (first | (go_simp; go_at_call 88; refine add_any { Ty.ndOf 16 tp2 with text := x, ty := tn } (.slice none 0 0) ((((H66.out.drew.at 1 rfl).nil 3 1))) (by omega) (fun w10 h70 => ?_); have h71 : Sat w0 w10 [Fr, rdA pb d af (Rd.addN { Ty.ndOf 16 tp2 with text := x, ty := tn } q5), blk (w.heap.size + 1) (.cells #[.int .i64 6, .int .i64 0, .int .i64 0, .int .i64 0, (.slice a ls.length cap0), .string ⟨#[]⟩, .int .i64 0, .int .i64 (-1), .int .i64 tp] 66 (0, 0)), dC (.slice (some ⟨g7, 0, none⟩) (ms.length + 1) cap7) (ms ++ [x]), inA (.slice a ls.length cap0) ls] := h70.un5; have d1 := h71.cell 2 rfl 4 rfl; have d2 := (h71.ay (.cells #[.int .i64 (q5.st.ns.length : Nat)] 3)).cell 2 rfl 4 rfl; have H71 := qh h71; clear h70 h71) | (go_loud (refine step_append_lies _ (by rfl) _ _ _ (by rfl) 0 3 k0 _ 1 8 Tryz.underlying39 tk vz0 vz1 vz2 rfl (by omega) (.slice a ls.length cap0) ls.length (ls.map aA) (by rfl) ((H71.out.row 4 rfl).alloc _) ⟨w10.heap.size, 0, none⟩ 1 1 [.int .i64 (q5.st.ns.length : Nat)] (by rfl) (by rfl) (World.news_of_block (cs := #[.int .i64 (q5.st.ns.length : Nat)]) (t := 3) (fr := (0, 0)) (ak _ _ _ (by simp))) (by simp [Value.oneCell']) (by omega) (by unfold maxLen; omega) (by omega) (by simp) (w10.heap.size + 1) (by simp) ?_); intro g8 cap8 w11 hown8 hgrow8 hat8 hlt8; have h72 := Prt.Sat.grow (H71.out.ay _) 4 rfl hgrow8 hown8 (by simpa using hat8); have d3 := h72.cell 2 rfl 4 rfl; have f3 := h72.free 2 rfl 4; have H72 := qh h72; clear h72))
             all_goals
               clear hown8 hgrow8
               have h73 := (H72.out.store 2 rfl 4 (.slice (some ⟨g8, 0, none⟩) (ls.length + 1) cap8)).ent (i := 4) rfl (Q := inA (.slice (some ⟨g8, 0, none⟩) (ls.length + 1) cap8) (ls ++ [q5.st.ns.length])) (fun _ h => bz h)
               have h73 : Sat w0 _ [Fr, rdA pb d af (Rd.addN { Ty.ndOf 16 tp2 with text := x, ty := tn } q5), blk (w.heap.size + 1) (.cells #[.int .i64 6, .int .i64 0, .int .i64 0, .int .i64 0, (.slice (some ⟨g8, 0, none⟩) (ls.length + 1) cap8), .string ⟨#[]⟩, .int .i64 0, .int .i64 (-1), .int .i64 tp] 66 (0, 0)), dC (.slice (some ⟨g7, 0, none⟩) (ms.length + 1) cap7) (ms ++ [x]), inA (.slice (some ⟨g8, 0, none⟩) (ls.length + 1) cap8) (ls ++ [q5.st.ns.length])] := h73
               have HMS2 := qh (bF (h73.pick [0, 1]).az af.length)
               have hp73 : q5.st.pos < af.length := (h73.pick [0, 1]).az.fits.1
               have H73 := qh h73
               clear h73
               go_wp2_with fail
               go_roundw
               case rel => exact ⟨f, l ++ [(x, q5.st.ns.length)], ms ++ [x], ls ++ [q5.st.ns.length], Rd.addN { Ty.ndOf 16 tp2 with text := x, ty := tn } q5, .slice (some ⟨g8, 0, none⟩) (ls.length + 1) cap8, by simp; omega, ⟨by rw [List.map_append, hml.out.1]; rfl, by rw [List.map_append, hml.out.2]; rfl⟩, fun h => ⟨(by have h1 := HP5.out h; have h2 := HQP.out h1.1; show af.length < q5.st.pos + f; omega), (by have h1 := HP5.out h; have h2 := HQP.out h1.1; rw [List.length_append]; show l.length + 1 ≤ q5.st.pos; omega)⟩, H65.out, H73.out⟩
               case measure =>
                 rw [HMQ.out, HMS2.out]
                 show (if q5.f.isSome = true then 0 else af.length - q5.st.pos + 1) < _
                 cases hq4 : q5.f with
                 | none => have h1 := HP5.out hq4; have h2 := HQP.out h1.1; simp; omega
                 | some y => simp
   have h2 : At af 0 j whole (Ty.bnd (Ty.need af [40]) fun _ => Ty.bnd E fun a => Ty.bnd (Ty.need af [41]) fun _ => Ty.ret a) s := HA1.out.congr (fun _ => by
     refine HSM4.out.trans ?_
     exact Ty.ED (Rd.aF HQF.out HZ11.out) (Rd.aF HQF.out HZ12.out) (Rd.aF HQF.out HZ13.out) (Rd.aF HQF.out ha) (Rd.aF HQF.out HZ14.out) (Rd.aF HQF.out HZ15.out))
   have H16 := qh (h16.un3.pick [0, 1])
   have H3 := qh (h2.must HL.out)
   clear ha h16 h2 HPK HSM3 HSM4 HA1
   go_wp2_with fail
   refine aS H16.out ⟨#[40]⟩ (fun w17 h17 => ?_)
   obtain ⟨w2', hx, hback⟩ := H3.out.use
   have H17 := qh h17
   have HX := qh hx
   have HB := qh hback
   clear H3 hx hback h17
   go_wp2_with fail
   refine HEX.out _ _ _ pb _ 0 (j + 1) K w2' (by omega) (by omega) hK HX.out H17.out _ (fun b s18 w18 h5 h6 => ?_)
   obtain ⟨h7, _⟩ := HB.out _ _ _ h5
   have H18 := qh h6
   have HA3 := qh ((h7.must HL.out).mono (Nat.le_refl K) (by omega : j ≤ j + 1 + 1))
   clear h5 h6 h7 HX HB
   go_wp2_with fail
   refine aS H18.out ⟨#[41]⟩ (fun w19 h19 => ?_)
   have H19 := qh h19
   clear h19
   go_wp2_with fail
   exact HR.out _ _ _ HA3.out H19.out
end
end
end Go.Proofs.YtdlbhiaceheffabGreatDoor
