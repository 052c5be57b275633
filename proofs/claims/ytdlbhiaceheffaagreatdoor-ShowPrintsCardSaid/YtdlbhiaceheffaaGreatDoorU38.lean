/- Walk of the reference's readType. -/
import Derived.Test.YtdlbhiaceheffaaGreatDoorU37
set_option linter.all false
set_option maxRecDepth 100000
set_option maxHeartbeats 3000000
namespace Go.Proofs.YtdlbhiaceheffaaGreatDoor
section
open Go Go.RowKit
open Prt (Sat As blk pur exs star stars)
theorem oneType_any {toks : List Tok.Tk} {d c : Nat} {T : Ty.M Nat} {g : Rd.RS → Nat × Rd.RS} (hc : c ≤ 100) (hspec : RSpec 38 toks d g) (hT : Rd.Sim toks c T g) (hA : Ty.Adv 1 0 0 T) (hI : Rd.Idle g)
   (w0 w : World) (Fr : As) (pb : Nat) (s : Rd.RS) (k : Nat) (hk : k ≤ 400) (hin : Rd.In toks k 0 s) (hf : s.f = none) (H : Sat w0 w [Fr, rdA pb d toks s]) {R : Ending → World → Prop}
   (hR : ∀ w', Sat w0 w' [Fr, rdA pb d toks (Rd.one toks g s).2] → R (.returned (.int .i64 ((Rd.one toks g s).1 : Nat))) w') : Calls Tryz.prog 76 #[.pointer (some ⟨pb, 0, none⟩)] w R := by
 by_cases hw : (Ty.cur toks s.st.pos).kind = 2 ∧ Ty.plainKind (Ty.cur toks s.st.pos).text > 0 ∧ s.f = none
 · exact one_word g w0 w Fr pb s k (by omega) hin H hw hR
 · exact one_other hc hspec hT hA hI w0 w Fr pb s k hk hin hf H hw hR
theorem bars_go {toks : List Tok.Tk} {S : Rd.RS → Nat × Rd.RS} {n : Nat} {l : List Nat} {s : Rd.RS} (h : Rd.peek toks [124] s = true) :
   Rd.bars toks S (n + 1) l s = Rd.bars toks S n (l ++ [(S (Rd.next s)).1]) (S (Rd.next s)).2 := by
 rw [Rd.bars, if_pos h]
theorem bars_stop {toks : List Tok.Tk} {S : Rd.RS → Nat × Rd.RS} {n : Nat} {l : List Nat} {s : Rd.RS} (h : Rd.peek toks [124] s = false) : Rd.bars toks S n l s = (l, s) := by
 cases n with
 | zero => rfl
 | succ n => rw [Rd.bars, if_neg (by rw [h]; simp)]
theorem one_good {toks : List Tok.Tk} {k c : Nat} {s : Rd.RS} (h : Rd.In toks k 0 s) (hs : s.f = none) {T : Ty.M Nat} {g : Rd.RS → Nat × Rd.RS} (hT : Rd.Sim toks c T g) (hA : Ty.Adv 1 0 0 T) (hg : (g s).2.f = none) : s.st.pos < (g s).2.st.pos := by
 obtain ⟨st, f⟩ := s
 cases hs
 have h1 := hT st h.ok
 cases e : T st with
 | error f =>
   rw [e] at h1
   obtain ⟨a, s1, g1, o1⟩ := h1
   rw [g1] at hg; cases hg
 | ok p =>
   obtain ⟨a, s1⟩ := p
   rw [e] at h1
   rw [h1.1]
   have := hA _ _ _ e
   show st.pos < s1.pos
   omega
theorem readType_any (toks : List Tok.Tk) (hL : ∀ t, toks.getLast? = some t → t.kind = 6) : ∀ r, r ≤ 20 → RSpec 38 toks (20 - r) (Rd.read toks r) := by
 intro r
 induction r with
 | zero =>
   intro _ w0 w Fr pb s k hk hin H R hR
   have HR := qh hR
   have HS := qh H
   have hsome : (Rd.wrong toks 8 s).f.isNone = false := by unfold Rd.wrong; cases h : s.f with | none => rfl | some y => simp [h]
   have HN := qh hsome
   clear hR H hin hsome
   rw [Rd.read] at HR
   go_enter Tryz.func38, Tryz.ntmps38
   go_wp2_with fail
   refine enter_any HS.out (by omega) (fun w1 h1 => ?_)
   rw [if_pos (show 20 - 0 = 20 from rfl)] at h1 ⊢
   rw [HN.out]
   have H1 := qh h1
   clear h1
   go_wp2_with fail
   refine leave_any H1.out (fun w2 h2 => ?_)
   have H2 := qh h2
   clear h2
   go_wp2_with fail
   exact HR.out _ H2.out
 | succ r ih =>
   intro hr w0 w Fr pb s k hk hin H R hR
   have e20 : 20 - (r + 1) + 1 = 20 - r := by omega
   have hsp := ih (by omega)
   have hd : 20 - (r + 1) ≤ 19 := by omega
   rw [← e20] at hsp
   generalize 20 - (r + 1) = d at *
   have hlk := H.lookR
   have hlen := hlk.wf.1
   have HONE := qh (fun w Fr (s : Rd.RS) k hk hin hf H R hR => @oneType_any toks (d + 1) r (Ty.typ toks r) (Rd.read toks r) (by omega) hsp (Rd.read_sim hL r) (Ty.typ_adv toks r) (Rd.read_idle toks r) w0 w Fr pb s k hk hin hf H R hR)
   have hsim := Rd.one_sim hL (Rd.read_sim hL r) (Ty.typ_adv toks r) (Rd.read_idle toks r)
   have hadv := Ty.single_adv (toks := toks) (Ty.typ_adv toks r)
   have HSIM := qh hsim
   have HADV := qh hadv
   have HR := qh hR
   have HS := qh H
   have HIN := qh hin
   obtain ⟨k0, tk, vz0, vz1, vz2⟩ := info_parts infoInt
   clear ih e20 hsp hlk hsim hadv hR H hin
   rw [Rd.read] at HR
   generalize Rd.one toks (Rd.read toks r) = S at *
   cases hf : s.f with
   | some y =>
     rw [if_pos (by rw [hf]; rfl)] at HR
     have HN : Hid (s.f.isNone = false) := by rw [hf]; rfl
     clear hf
     go_enter Tryz.func38, Tryz.ntmps38
     go_wp2_with fail
     refine enter_any HS.out (by omega) (fun w1 h1 => ?_)
     rw [if_neg (by omega)] at h1 ⊢
     rw [HN.out]
     have H1 := qh h1
     clear h1
     go_wp2_with fail
     refine leave_any H1.out (fun w2 h2 => ?_)
     have H2 := qh h2
     clear h2
     go_wp2_with fail
     exact HR.out _ H2.out
   | none =>
     rw [if_neg (by rw [hf]; simp)] at HR
     have HN : Hid (s.f.isNone = true) := by rw [hf]; rfl
     have HF := qh hf
     clear hf
     obtain ⟨K, hK1, hK2, hK3⟩ : ∃ K, k ≤ K ∧ r + 1 ≤ K ∧ K ≤ 400 := ⟨max k (r + 1), by omega, by omega, by omega⟩
     go_enter Tryz.func38, Tryz.ntmps38
     go_wp2_with fail
     refine enter_any HS.out (by omega) (fun w1 h1 => ?_)
     rw [if_neg (by omega)] at h1 ⊢
     rw [HN.out]
     have H1 := qh h1
     clear h1
     go_wp2_with fail
     refine HONE.out w1 Fr s K (by omega) (HIN.out.mono) HF.out H1.out _ (fun w2 h2 => ?_)
     have i2 := (HIN.out.sim HF.out HSIM.out (HADV.out.mono (d' := 0) (c' := 0) (e' := 0))).mono (k' := K) (j' := 0)
     generalize hx : S s = xq at *
     obtain ⟨n, s1⟩ := xq
     dsimp only at *
     have h3 := h2.allocAt (.cells #[.int .i64 (n : Nat)] 3) w2.heap.size
     have h3 := h3.ent (i := 2) rfl (Q := inA (.slice (some ⟨w2.heap.size, 0, none⟩) 1 1) [n]) (fun _ h => Prt.row_of_blk h (by decide) rfl rfl)
     have H3 := qh h3
     have I2 := qh i2
     clear h2 h3 hx i2
     go_wp2_with fail
     go_loopw [4] (fun v wr => ∃ (f : Nat) (l : List Nat) (q : Rd.RS), l.length + f ≤ toks.length + 2 ∧ 1 ≤ l.length ∧ Hid (q.f = none → toks.length < q.st.pos + f) ∧ Hid (Rd.In toks K 0 q) ∧ Hid (Sat w0 wr [Fr, rdA pb (d + 1) toks q, inA v l]) ∧ Hid (Rd.bars toks S (toks.length + 1) [n] s1 = Rd.bars toks S f l q))
       (fun _ wr => msR toks.length pb wr)
     case atStart => exact ⟨toks.length + 1, [n], s1, by simp; omega, by simp, fun _ => by omega, I2.out, H3.out, rfl⟩
     case round =>
       obtain ⟨f, l, q, hlf, hl1, hfu, hIn, hS, hE⟩ := hrel
       obtain ⟨g9, c9, rfl, _, _⟩ := (hS.out.row 2 rfl).form (by omega)
       have HMS := qh (msR_eq (hS.out.pick [0, 1]).lookR toks.length)
       go_wp2_with fail
       refine eat_any (hS.out.at 1 rfl) ⟨#[124]⟩ (fun w4 hi h5 => ?_) (fun w4 hi h5 => ?_)
       · have hqf : q.f = none := by unfold Rd.peek at hi; cases hq : q.f with | none => rfl | some y => rw [hq] at hi; simp at hi
         have hfp := hfu.out hqf
         have hip := hIn.out.pos
         obtain ⟨f, rfl⟩ : ∃ f', f = f' + 1 := ⟨f - 1, by omega⟩
         have he := hE.out.trans (bars_go hi)
         have hlk := h5.lookR
         have i3 := (hIn.out.next hlk.fits.1).mono (k' := K) (j' := 0)
         have hnf : (Rd.next q).f = none := hqf
         have i4 := (i3.sim hnf HSIM.out (HADV.out.mono (d' := 0) (c' := 0) (e' := 0))).mono (k' := K) (j' := 0)
         have hgo : Hid ((S (Rd.next q)).2.f = none → q.st.pos + 1 < (S (Rd.next q)).2.st.pos) := fun h => one_good i3 hnf HSIM.out HADV.out h
         have H5 := qh h5.un3
         have I3 := qh i3
         have I4 := qh i4
         have HEQ := qh he
         have HNF := qh hnf
         have HQF := qh hqf
         clear hi h5 hE he hlk i3 i4 hnf hqf hfu
         go_wp2_with fail
         refine HONE.out w4 _ (Rd.next q) K (by omega) I3.out HNF.out (H5.out.at 1 rfl) _ (fun w6 h6 => ?_)
         have H6 := qh h6.un3
         generalize hx3 : S (Rd.next q) = xq3 at *
         obtain ⟨n', q3⟩ := xq3
         clear h6 hx3 H5
         dsimp only at *
         go_wp2_with (at_builtin; go_loud (refine wpList_append_lies _ rfl (.tmp 12) (.tmp 15) 49 rfl 0 3 k0 _ 1 8 Tryz.underlying49 tk vz0 vz1 vz2 rfl (by decide) _ _ (l.map inCell) (by rfl) ((H6.out.row 2 rfl).alloc _) ⟨w6.heap.size, 0, none⟩ 1 1 [.int .i64 (n' : Nat)] (by rfl) (by rfl) (World.news_of_block (cs := #[.int .i64 (n' : Nat)]) (t := 3) (fr := (0, 0)) (heap_alloc_at' _ _ _ (by simp))) (by simp [Value.oneCell']) (by omega) (by unfold maxLen; omega) (by omega) (by simp) (w6.heap.size + 1) (by simp) ?_))
         intro g7 cap7 w7 hown7 hgrow7 hat7 hlt7
         have h7 := Prt.Sat.grow (H6.out.waste _) 2 rfl hgrow7 hown7 (by simpa using hat7)
         have h7 := h7.ent (i := 2) rfl (Q := inA _ (l ++ [n'])) (fun _ h => inA_snoc h)
         have h7 : Sat w0 w7 [Fr, rdA pb (d + 1) toks q3, inA (.slice (some ⟨g7, 0, none⟩) (l.length + 1) cap7) (l ++ [n'])] := h7
         have HMS2 := qh (msR_eq (h7.pick [0, 1]).lookR toks.length)
         have H7 := qh h7
         clear h7 hown7 hgrow7 H6
         go_wp2_with fail
         go_roundw
         case rel => exact ⟨f, l ++ [n'], q3, by simp; omega, by simp, fun h => by have := hgo.out h; omega, I4.out, H7.out, HEQ.out⟩
         case measure =>
           rw [HMS.out, HMS2.out, HQF.out]
           cases hq4 : q3.f with
           | none => have := hgo.out hq4; simp; omega
           | some y => simp
       · have he := hE.out.trans (bars_stop hi)
         have H5 := qh h5.un3
         rw [he] at HR
         dsimp only at HR
         unfold Rd.unite at HR
         have hn := H5.out.row 2 rfl
         have z2 : w4.cell? ⟨g9, 0, none⟩ = some (.int .i64 (l.headD 0 : Nat)) := by
           have := World.ownsRow.cells hn (g := g9) rfl 0 (inCell (l.headD 0)) (by cases l with | nil => simp at hl1 | cons a l => rfl)
           rwa [Addr.add_lit] at this
         have hts := hIn.out.ts
         generalize l.headD 0 = hd0 at *
         clear hi h5 hE he hfu hS hn
         by_cases hl2 : 1 < l.length
         · have k1 : decide (1 < l.length) = true := decide_eq_true hl2
           have k2 : decide ((1 : Int) < l.length) = true := decide_eq_true (by omega)
           go_wp2_with fail
           refine bad_any _ pb (d + 1) toks q (H5.out.pick [0, 1]).lookR ?_
           cases hqf : q.f with
           | none =>
             rw [if_pos ⟨hl2, hqf⟩] at HR
             clear hqf
             dsimp only [Option.isSome]
             go_wp2_with fail
             refine addType_any ⟨10, [], l, 0⟩ (.slice none 0 0) _ ((H5.out.nil 82 2).pick [0, 1, 3, 2]) (by omega) (fun w6 h6 => ?_)
             have H6 := qh h6
             clear h6
             go_wp2_with fail
             refine leave_any H6.out (fun w7 h7 => ?_)
             have H7 := qh h7
             clear h7
             go_wp2_with fail
             exact HR.out _ H7.out
           | some y =>
             rw [if_neg (by rw [hqf]; simp)] at HR
             clear hqf
             dsimp only [Option.isSome]
             go_wp2_with fail
             refine leave_any (H5.out.pick [0, 1]) (fun w7 h7 => ?_)
             have H7 := qh h7
             clear h7
             go_wp2_with fail
             exact HR.out _ H7.out
         · have k1 : decide (1 < l.length) = false := decide_eq_false hl2
           have k2 : decide ((1 : Int) < l.length) = false := decide_eq_false (by omega)
           rw [if_neg (fun h => hl2 h.1)] at HR
           go_wp2_with fail
           refine leave_any (H5.out.pick [0, 1]) (fun w7 h7 => ?_)
           have H7 := qh h7
           clear h7
           go_wp2_with fail
           exact HR.out _ H7.out
end
end Go.Proofs.YtdlbhiaceheffaaGreatDoor
