/- Walks of the parser's typ. Walks of the parser's many and alone. token.Scan at whatever text. Walks of tree.open and tree.Type. Walk of tree.Type. -/
import Derived.Defers
import Derived.Recover
import Derived.Test.YtdlbhiaceheffabGreatDoorS07
set_option linter.all false
set_option maxRecDepth 100000
set_option maxHeartbeats 2000000
namespace Go.Proofs.YtdlbhiaceheffabGreatDoor
section
open Go Go.RowKit
open Prt (Sat As blk pur exs star stars)
theorem typ1_any {toks : List Tok.Tk} {d : Nat} {S : Ty.M Nat} (hspec : PSpec 185 toks d S) (hS : Ty.Adv 1 0 0 S) (w0 w : World) (Fr : As) (pb xb : Nat) (st : Ty.St) (H : Sat w0 w [Fr, parA pb d toks st]) (hx : ∀ w', Sat w0 w' [Fr] → w'.cell? ⟨xb, 0, none⟩ = some (.pointer (some ⟨pb, 0, none⟩))) {R : Ending → World → Prop}
   (hok : ∀ n st2 w2, Ty.union toks S st = .ok (n, st2) → Sat w0 w2 [Fr, parA pb d toks st2] → R (.returned (.int .i64 (n : Nat))) w2)
   (hbad : ∀ f w2, Ty.union toks S st = .error f → Sat w0 w2 [Fr] → R (.panicked (ftChain f)) w2) : Calls Tryz.prog 184 #[.pointer (some ⟨xb, 0, none⟩)] w R := by
 have HOK := qh hok
 have HBAD := qh hbad
 have HSP := qh hspec
 have HA := qh hS
 have hlk := H.look
 have hpos := hlk.fits.1
 have hfit := hlk.fits.2.2.1
 have htl := hlk.wf.1
 have x0 := hx w (H.pick [0])
 have HX := qh hx
 have HS := qh H
 obtain ⟨i0, ti, tz0, tz1, tz2⟩ := info_parts infoInt
 clear hok hbad hspec hS H hlk hx
 go_enter Tryz.func184, Tryz.ntmps184
 go_wp2_with fail
 refine HSP.out _ _ _ pb _ HS.out _ (fun n s1 w1 hm h1 => ?_) (fun e w1 hm h1 => ?_)
 · have had := HA.out _ _ _ hm
   have hlt1 := h1.look.fits.1
   have h2 := h1.allocAt (.cells #[.int .i64 (n : Nat)] 3) w1.heap.size
   have h3 := h2.ent (i := 2) rfl (Q := inA (.slice (some ⟨w1.heap.size, 0, none⟩) 1 1) [n]) (fun _ h => Prt.row_of_blk h (by decide) rfl rfl)
   have H3 := qh h3
   have HEQ : Hid (Ty.union toks S st = Ty.bnd (Ty.bars toks S (toks.length + 1) [n]) (fun l => if l.length = 1 then Ty.ret (l.headD 0) else Ty.newType ⟨10, [], l, 0⟩) s1) := by
     rw [Ty.union, Ty.bnd_ok hm]; rfl
   clear hm h1 h2 h3 x0
   go_wp2_with fail
   go_loopw [2] (fun v wr => ∃ (f : Nat) (l : List Nat) (s : Ty.St), s.pos < toks.length ∧ toks.length < s.pos + f ∧ s.ts.length + l.length ≤ s.pos + 1 ∧ 1 ≤ l.length ∧ Hid (Sat w0 wr [Fr, parA pb d toks s, inA v l]) ∧ Hid (Ty.union toks S st = Ty.bnd (Ty.bars toks S f l) (fun l => if l.length = 1 then Ty.ret (l.headD 0) else Ty.newType ⟨10, [], l, 0⟩) s))
     (fun _ wr => toks.length - posOf pb wr)
   case atStart => exact ⟨toks.length + 1, [n], s1, hlt1, by omega, by simp; omega, by simp, H3.out, HEQ.out⟩
   case round =>
     obtain ⟨f, l, s, hp1, hf1, hll, hl1, hS, hE⟩ := hrel
     obtain ⟨f, rfl⟩ : ∃ g, f = g + 1 := ⟨f - 1, by omega⟩
     obtain ⟨a, cap0, rfl⟩ := owns_slice (hS.out.row 2 rfl)
     have hPO := posOf_eq (hS.out.pick [0, 1]).look
     have HPO := qh hPO
     have x1 := HX.out _ (hS.out.pick [0])
     clear hPO
     go_wp2_with fail
     refine take_any (hS.out.at 1 rfl) ⟨#[124]⟩ (fun w2 hi h2 => ?_) (fun w2 hi h2 => ?_)
     · have H2 := qh h2.un3
       have HEQ2 : Hid (Ty.union toks S st = Ty.bnd (Ty.bnd S fun n => Ty.bars toks S f (l ++ [n])) (fun l => if l.length = 1 then Ty.ret (l.headD 0) else Ty.newType ⟨10, [], l, 0⟩) { s with pos := s.pos + 1 }) := by
         rw [hE.out, Ty.bars]; unfold Ty.bnd; rw [hi]; rfl
       have x2 := HX.out _ (H2.out.pick [0])
       clear hi h2 hE hS x1 HEQ
       go_wp2_with fail
       refine HSP.out _ _ _ pb _ (H2.out.at 1 rfl) _ (fun n s3 w3 hm h3 => ?_) (fun e w3 hm h3 => ?_)
       · have had3 := HA.out _ _ _ hm
         have hlt3 := h3.look.fits.1
         have H3 := qh h3.un3
         have HEQ3 : Hid (Ty.union toks S st = Ty.bnd (Ty.bars toks S f (l ++ [n])) (fun l => if l.length = 1 then Ty.ret (l.headD 0) else Ty.newType ⟨10, [], l, 0⟩) s3) := by
           rw [HEQ2.out]; unfold Ty.bnd; rw [hm]; rfl
         clear hm h3 x2 H2
         dsimp only at had3
         go_wp2_with (at_builtin; go_loud (refine wpList_append_lies _ rfl (.tmp 8) (.tmp 11) 39 rfl 0 3 i0 _ 1 8 Tryz.underlying39 ti tz0 tz1 tz2 rfl (by decide) _ _ (l.map inCell) (by rfl) ((H3.out.row 2 rfl).alloc _) ⟨w3.heap.size, 0, none⟩ 1 1 [.int .i64 (n : Nat)] (by rfl) (by rfl) (World.news_of_block (cs := #[.int .i64 (n : Nat)]) (t := 3) (fr := (0, 0)) (heap_alloc_at' _ _ _ (by simp))) (by simp [Value.oneCell']) (by omega) (by unfold maxLen; omega) (by omega) (by simp) (w3.heap.size + 1) (by simp) ?_))
         intro g cap w4 hown4 hgrow4 hat4 hlt4
         have h4 := Prt.Sat.grow (H3.out.waste _) 2 rfl hgrow4 hown4 (by simpa using hat4)
         have h4 := h4.ent (i := 2) rfl (Q := inA _ (l ++ [n])) (fun _ h => inA_snoc h)
         have h4 : Sat w0 w4 [Fr, parA pb d toks s3, inA (.slice (some ⟨g, 0, none⟩) (l.length + 1) cap) (l ++ [n])] := h4
         have hPO2 := posOf_eq (h4.pick [0, 1]).look
         have HPO2 := qh hPO2
         have H4 := qh h4
         clear h4 hown4 hgrow4 hPO2 H3
         go_wp2_with fail
         go_roundw
         case rel => exact ⟨f, l ++ [n], s3, hlt3, by omega, by simp; omega, by simp, H4.out, HEQ3.out⟩
         case measure => rw [HPO.out, HPO2.out]; omega
       · have HEQ3 : Hid (Ty.union toks S st = .error e) := by
           rw [HEQ2.out]; unfold Ty.bnd; rw [hm]; rfl
         have H3 := qh h3.out
         clear hm h3
         go_wp2_with fail
         exact ⟨rfl, HBAD.out _ _ HEQ3.out H3.out⟩
     · have H2 := qh h2.un3
       have HEQ2 : Hid (Ty.union toks S st = (if l.length = 1 then Ty.ret (l.headD 0) else Ty.newType ⟨10, [], l, 0⟩ : Ty.M Nat) s) := by
         rw [hE.out, Ty.bars]; unfold Ty.bnd; rw [hi]; rfl
       have x2 := HX.out _ (H2.out.pick [0])
       clear hi h2 hE hS x1 HEQ
       by_cases hl : l.length = 1
       · obtain ⟨n, rfl⟩ := List.length_eq_one_iff.1 hl
         have hn := H2.out.row 2 rfl
         obtain ⟨g, cap, e, _, _⟩ := hn.form (by simp)
         cases e
         have z2 : w2.cell? ⟨g, 0, none⟩ = some (.int .i64 n) := by have := World.ownsRow.cells hn (g := g) rfl 0 _ rfl; rwa [Addr.add_lit] at this
         clear hn hl
         go_wp2_with fail
         exact HOK.out _ _ _ (by rw [HEQ2.out]; rfl) (H2.out.pick [0, 1])
       · have hl2 : ((l.length : Int) == 1) = false := by simp; omega
         have HL := qh hl
         have hl3 : 2 ≤ l.length := by omega
         clear hl
         go_wp2_with fail
         refine newType_any ⟨10, [], l, 0⟩ (.slice none 0 0) _ ((H2.out.nil 141 2).pick [0, 1, 3, 2]) (by omega) (fun w3 h3 => ?_)
         have H3 := qh h3
         clear h3
         go_wp2_with fail
         exact HOK.out _ _ _ (by rw [HEQ2.out, if_neg HL.out]; rfl) H3.out
 · have HM := qh hm
   have H1 := qh h1
   clear hm h1
   go_wp2_with fail
   exact ⟨rfl, HBAD.out _ _ (by rw [Ty.union, Ty.bnd_err HM.out]) H1.out⟩
theorem typ_any (toks : List Tok.Tk) : ∀ r, r ≤ 20 → PSpec 120 toks (20 - r) (Ty.typ toks r) := by
 intro r
 induction r with
 | zero =>
   intro _ w0 w Fr pb st H R hok hbad
   have HOK := qh hok
   have HBAD := qh hbad
   have HS := qh H
   clear hok hbad H
   go_enter Tryz.func120, Tryz.ntmps120
   go_wp2_with fail
   refine in_any (HS.out.waste _) 184 _ Tryz.call184 (Ty.fail toks 8) (fun h => absurd h (by omega)) (fun n st2 w2 h => absurd h (by omega)) (fun f w2 _ he h2 => ?_)
   have hf := he rfl
   have HF := qh hf
   have H2 := qh h2
   clear he hf h2
   go_wp2_with fail
   exact ⟨rfl, HBAD.out _ _ (by rw [HF.out]; rfl) H2.out⟩
 | succ r ih =>
   intro hr w0 w Fr pb st H R hok hbad
   have e20 : 20 - (r + 1) + 1 = 20 - r := by omega
   have hsp := single_any (ih (by omega)) (Ty.typ_adv toks r)
   rw [← e20] at hsp
   have HSP := qh hsp
   have HOK := qh hok
   have HBAD := qh hbad
   have HS := qh H
   have hd : 20 - (r + 1) < 20 := by omega
   generalize 20 - (r + 1) = d at *
   clear hok hbad H ih e20 hsp
   go_enter Tryz.func120, Tryz.ntmps120
   go_wp2_with fail
   have h1 := (HS.out.allocAt (.cells #[.pointer (some ⟨pb, 0, none⟩)] 80) w.heap.size)
   refine in_any (h1.at 1 rfl) 184 _ Tryz.call184 (Ty.typ toks (r + 1)) (fun h w1 h2 R2 hok2 hbad2 => ?_) (fun n st2 w2 _ hm h2 => ?_) (fun f w2 he _ h2 => ?_)
   · exact typ1_any HSP.out (Ty.single_adv (Ty.typ_adv toks r)) w0 w1 _ pb w.heap.size st h2 (fun w' h' => (h'.unpack (i := 0) rfl).cell 1 rfl 0 rfl) hok2 hbad2
   · have HM := qh hm
     have H2 := qh (h2.un3.pick [0, 1])
     clear hm h2 h1
     go_wp2_with fail
     exact HOK.out _ _ _ HM.out H2.out
   · have hf := he hd
     have HF := qh hf
     have H2 := qh h2.out
     clear he hf h2 h1
     go_wp2_with fail
     exact ⟨rfl, HBAD.out _ _ HF.out H2.out⟩
end
section
open Go Go.RowKit
open Prt (Sat As blk pur exs star stars)
def ftVal (f : Ty.Ft) : Value := .agg #[.int .i64 f.1, .int .i64 f.2]
theorem many_any {w0 w : World} {Fr : As} {pb d : Nat} {toks : List Tok.Tk} {st : Ty.St} (H : Sat w0 w [Fr, parA pb d toks st]) {R : Ending → World → Prop}
   (hR : ∀ w', Sat w0 w' [Fr, parA pb d toks st] → R (.returned (ftVal (if st.ts.length > 300 then (2, 0) else (0, 0)))) w') :
   Calls Tryz.prog 78 #[.pointer (some ⟨pb, 0, none⟩)] w R := by
 have HR := qh hR
 have hlk := H.look
 obtain ⟨⟨lv, nv, tv, main⟩, h⟩ := H.openPar
 have hn : st.ns.length ≤ 1002 := by have := hlk.fits; have := hlk.wf.1; omega
 have ht : st.ts.length ≤ 1002 := by have := hlk.fits; have := hlk.wf.1; omega
 obtain ⟨rows, h⟩ := h.ex (i := 4) rfl
 have h := h.unpack (i := 4) rfl
 obtain ⟨rows2, h⟩ := h.ex (i := 4) rfl
 have h := h.unpack (i := 4) rfl
 obtain ⟨a3, c3, e3⟩ := owns_slice (h.row 5 rfl)
 obtain ⟨a4, c4, e4⟩ := owns_slice (h.row 8 rfl)
 dsimp only at e3 e4
 subst e3 e4
 have k3 := h.cell 2 rfl 3 rfl
 have k4 := h.cell 2 rfl 4 rfl
 have hlt := h.lt 2 rfl
 have HS := qh H
 have k1 : decide ((1200 : Int) < st.ns.length) = false := by simp; omega
 by_cases h3 : 300 < st.ts.length
 · have k2 : decide ((300 : Int) < st.ts.length) = true := by simp; omega
   rw [if_pos h3] at HR
   clear hR H h hlk h3
   go_enter Tryz.func78, Tryz.ntmps78
   go_wp2_with fail
   refine bodyPost_ret ?_ rfl (HR.out _ ?_)
   · simp [results, Tryz.results78, go_sem, ftVal]
   · exact HS.out.waste _
 · have k2 : decide ((300 : Int) < st.ts.length) = false := by simp; omega
   rw [if_neg h3] at HR
   clear hR H h hlk h3
   go_enter Tryz.func78, Tryz.ntmps78
   go_wp2_with fail
   refine bodyPost_ret ?_ rfl (HR.out _ ?_)
   · simp [results, Tryz.results78, go_sem, ftVal]
   · exact HS.out.waste _
theorem assertFt (a b : Int) (w : World) : (Instr.typeAssert (.iface 25 (.agg #[.int .i64 a, .int .i64 b])) 20 25 false).run Tryz.prog w = .ok (.agg #[.int .i64 a, .int .i64 b]) w := by kernel_rfl
theorem aloneP (p : Nat) (f : Ty.Ft) (x y : Value) (w : World) (hx : w.heap[p]? = some (.cells #[x, y] 25 (0, 0))) :
   CallsD Tryz.prog 119 #[.pointer (some ⟨p, 0, none⟩)] (.panicking (ftChain f)) w fun e u' w' =>
     e = .returned (.tuple #[]) ∧ u' = .panicking [{ v := .iface 25 (ftVal f), recovered := true }] ∧ w' = (w.setCell ⟨p, 0, none⟩ (.int .i64 f.1)).setCell ⟨p, 1, none⟩ (.int .i64 f.2) := by
 have c0 : w.cell? ⟨p, 0, none⟩ = some x := by rw [cell_of_block hx]; rfl
 have c1 : w.cell? ⟨p, 1, none⟩ = some y := by rw [cell_of_block hx]; rfl
 have hf : ∀ o, w.frozen? ⟨p, o, none⟩ = false := fun o => frozen_of_block hx o
 refine callsD_of_wpS Tryz.func119 rfl fun c₀ cs hu => ?_
 unfold ftChain at hu
 apply wpS_seq
 apply wpS_region
 simp [wpOpsS, go_sem, recoverD, hu, Tryz.ntmps119, Exit.thenS]
 apply wpS_seq
 apply wpS_region
 simp [wpOpsS, go_sem, Exit.thenS]
 refine wpS_cond (t := true) (by simp [Act.eval, Array.replicate]) ?_
 simp only [if_true]
 apply wpS_region
 simp [wpOpsS, go_sem, c0, c1, hf, bodyPostS, results, Tryz.results119, ftVal, assertFt]
theorem aloneR (p : Nat) (w : World) :
   CallsD Tryz.prog 119 #[.pointer (some ⟨p, 0, none⟩)] .returning w fun e u' w' => e = .returned (.tuple #[]) ∧ u' = .returning ∧ w' = w := by
 refine callsD_of_wpS Tryz.func119 rfl fun c₀ cs hu => ?_
 apply wpS_seq
 apply wpS_region
 simp [wpOpsS, go_sem, recoverD, hu, Tryz.ntmps119, Exit.thenS]
 apply wpS_seq
 apply wpS_region
 simp [wpOpsS, go_sem, Exit.thenS]
 refine wpS_cond (t := false) (by simp [Act.eval, Array.replicate]) ?_
 simp only [Bool.false_eq_true, if_false]
 refine wpS_of_wp (wp_skip ?_)
 cases c₀
 simp_all [bodyPostS, results, Tryz.results119]
def aloneM (toks : List Tok.Tk) (st : Ty.St) : Except Ty.Ft Ty.St :=
 match Ty.typ toks 20 st with
 | .error f => .error f
 | .ok (_, s) => if (Ty.cur toks s.pos).kind ≠ 6 then .error (Ty.here toks 1 s.pos) else if s.ts.length > 300 then .error (2, 0) else .ok s
theorem alone_any {w0 w : World} {Fr : As} {pb : Nat} {toks : List Tok.Tk} {st : Ty.St} (H : Sat w0 w [Fr, parA pb 0 toks st]) {R : Ending → World → Prop}
   (hok : ∀ s w', aloneM toks st = .ok s → Sat w0 w' [Fr, parA pb 0 toks s] → R (.returned (ftVal (0, 0))) w')
   (hbad : ∀ f w', aloneM toks st = .error f → Sat w0 w' [Fr] → R (.returned (ftVal f)) w') :
   Calls Tryz.prog 65 #[.pointer (some ⟨pb, 0, none⟩)] w R := by
 have HOK := qh hok
 have HBAD := qh hbad
 have HS := qh H
 have hmf : ∀ (fn : Fn) (first cap : Array Value) (w : World), (Instr.makeFunc fn first cap).run Tryz.prog w = .ok (.func fn first cap) w := fun _ _ _ _ => rfl
 have hf0 := field_tk0
 clear hok hbad H
 go_enter_defers Tryz.func65, Tryz.ntmps65
 go_wp2_with fail
 have h1 := HS.out.allocAt (.cells #[.int .i64 0, .int .i64 0] 25) w.heap.size
 refine typ_any toks 20 (by omega) _ _ _ pb _ (h1.at 1 rfl) _ (fun n s2 w2 hm h2 => ?_) (fun f w2 hm h2 => ?_)
 · have H2 := qh h2.un3
   have HM := qh hm
   clear hm h2 h1
   go_wp2_with fail
   refine now_any _ pb _ toks s2 (H2.out.pick [0, 1]).look (fun w3 hb3 => ?_)
   have H3 := qh (H2.out.below hb3)
   clear hb3
   have hlk := H3.out.pick [0, 1] |>.look
   have HLK := qh hlk
   have hz := H3.out.lt 2 rfl
   by_cases hk : (Ty.cur toks s2.pos).kind = 6
   · have HE : Hid (aloneM toks st = if s2.ts.length > 300 then .error (2, 0) else .ok s2) := by
       unfold aloneM; rw [HM.out]; show (if _ then _ else _) = _; rw [if_neg (by rw [hk]; simp)]
     generalize Ty.cur toks s2.pos = t at *
     obtain ⟨kd, tx, ps⟩ := t
     obtain rfl : kd = 6 := hk
     dsimp only [tkVal]
     clear hlk
     go_wp2_with fail
     refine many_any (H3.out.at 1 rfl) (fun w4 h4 => ?_)
     have h5 := h4.un3
     have h6 := h5.heap 2 rfl
     have hz4 := h5.lt 2 rfl
     have c0 : w4.cell? ⟨w.heap.size, 0, none⟩ = some (.int .i64 0) := by rw [cell_of_block h6]; rfl
     have c1 : w4.cell? ⟨w.heap.size, 1, none⟩ = some (.int .i64 0) := by rw [cell_of_block h6]; rfl
     have f0 : ∀ o, w4.frozen? ⟨w.heap.size, o, none⟩ = false := fun o => frozen_of_block h6 o
     have H5 := qh h5
     clear h4 h5 h6
     by_cases hts : s2.ts.length > 300
     · rw [if_pos hts] at HE
       simp only [if_pos hts, ftVal]
       clear hts
       go_wp2_with fail
       refine leaves_cons (f := 119) (args := #[.pointer (some ⟨w.heap.size, 0, none⟩)]) (by simp) (by simp [go_sem]) ?_
       refine (aloneR w.heap.size _).mono ?_
       rintro e u' w'' ⟨rfl, rfl, rfl⟩
       have hp := (H5.out.store 2 rfl 0 (.int .i64 2)).store 2 rfl 1 (.int .i64 0)
       simp [Leaves, settle, results, Tryz.results65, go_sem, c0, c1]
       exact HBAD.out (2, 0) _ HE.out (hp.pick [0])
     · rw [if_neg hts] at HE
       simp only [if_neg hts, ftVal]
       clear hts
       go_wp2_with fail
       refine leaves_cons (f := 119) (args := #[.pointer (some ⟨w.heap.size, 0, none⟩)]) (by simp) (by simp [go_sem]) ?_
       refine (aloneR w.heap.size _).mono ?_
       rintro e u' w'' ⟨rfl, rfl, rfl⟩
       have hp := (H5.out.store 2 rfl 0 (.int .i64 0)).store 2 rfl 1 (.int .i64 0)
       simp [Leaves, settle, results, Tryz.results65, go_sem, c0, c1]
       exact HOK.out s2 _ HE.out (hp.pick [0, 1])
   · have HE : Hid (aloneM toks st = .error (Ty.here toks 1 s2.pos)) := by
       unfold aloneM; rw [HM.out]; show (if _ then _ else _) = _; rw [if_pos hk]
     have HF := qh (fun w1 h R => @fail_any w1 pb 0 toks s2 h 1 R)
     have hk1 : (((Ty.cur toks s2.pos).kind : Int) != 6) = true := by simp; omega
     generalize Ty.here toks 1 s2.pos = ft at *
     generalize Ty.cur toks s2.pos = t at *
     obtain ⟨kd, tx, ps⟩ := t
     dsimp only [tkVal]
     dsimp only at hk1
     clear hlk hk
     go_wp2_with fail
     refine HF.out _ HLK.out _ (fun w4 hb4 => ?_)
     have h4 := H3.out.below hb4
     have h5 := h4.heap 2 rfl
     have hz4 := h4.lt 2 rfl
     have H4 := qh h4
     clear h4 hb4
     go_wp2_with fail
     refine leaves_cons (f := 119) (args := #[.pointer (some ⟨w.heap.size, 0, none⟩)]) (by simp) (by simp [go_sem]) ?_
     refine (aloneP w.heap.size ft _ _ _ h5).mono ?_
     rintro e u' w'' ⟨rfl, rfl, rfl⟩
     have hp := (H4.out.store 2 rfl 0 (.int .i64 ft.1)).store 2 rfl 1 (.int .i64 ft.2)
     have g5 := hp.heap 2 rfl
     have d0 := hp.cell 2 rfl 0 rfl
     have d1 := hp.cell 2 rfl 1 rfl
     simp [Leaves, settle, results, Tryz.results65, go_sem, d0, d1]
     exact HBAD.out ft _ HE.out (hp.pick [0])
 · have HM := qh hm
   have H2 := qh (h2.unpack (i := 0) rfl)
   clear hm h2 h1
   go_wp2_with fail
   have h3 := H2.out.heap 1 rfl
   have hz := H2.out.lt 1 rfl
   refine leaves_cons (f := 119) (args := #[.pointer (some ⟨w.heap.size, 0, none⟩)]) (by simp) (by simp [go_sem]) ?_
   refine (aloneP w.heap.size f _ _ _ h3).mono ?_
   rintro e u' w'' ⟨rfl, rfl, rfl⟩
   have hp := (H2.out.store 1 rfl 0 (.int .i64 f.1)).store 1 rfl 1 (.int .i64 f.2)
   have d0 := hp.cell 1 rfl 0 rfl
   have d1 := hp.cell 1 rfl 1 rfl
   simp [Leaves, settle, results, Tryz.results65, go_sem, d0, d1]
   exact HBAD.out f _ (by unfold aloneM; rw [HM.out]) (hp.pick [0])
end
section
open Go Go.RowKit
theorem scan_long (s : ByteArray) (h : 4000 < s.size) : Tok.scan s = .error (2, 0) := by unfold Tok.scan; rw [if_pos h]
theorem Scan_any (s : ByteArray) (w : World) (hw : Words w) (hm : s.size ≤ maxLen) {R : Ending → World → Prop}
   (hok : ∀ l v w', Tok.scan s = .ok l → Below w.heap.size w w' → OwnsTk w' (w.heap.size + 1) v l → R (.returned (.tuple #[v, .agg #[.int .i64 0, .int .i64 0]])) w')
   (hbad : ∀ (e p : Nat) w', Tok.scan s = .error (e, p) → Below w.heap.size w w' → R (.returned (.tuple #[.slice none 0 0, .agg #[.int .i64 e, .int .i64 p]])) w') :
   Calls Tryz.prog 72 #[.string s] w R := by
 by_cases hs : s.size ≤ 4000
 · exact Scan_short s w hw hs hok hbad
 · exact Scan_long s w hm (by omega) (fun w' hb => hbad 2 0 w' (scan_long s (by omega)) hb)
theorem Below.at {w w' : World} {B k : Nat} {o : Obj} (h : Below B w w') (hk : k < B) (e : w.heap[k]? = some o) : w'.heap[k]? = some o := (h.block k hk).trans e
end
section
open Go Go.RowKit
open Prt (Sat As blk pur exs star stars)
theorem open_any {w0 w : World} {Fr : As} (H : Sat w0 w [Fr]) (s : ByteArray) (hw : Words w) (hm : s.size ≤ maxLen) {R : Ending → World → Prop}
   (hok : ∀ toks pb w', Tok.scan s = .ok toks → Sat w0 w' [Fr, parA pb 0 toks ⟨0, [], []⟩] → R (.returned (.tuple #[.pointer (some ⟨pb, 0, none⟩), ftVal (0, 0)])) w')
   (hbad : ∀ f pb w', Tok.scan s = .error f → Sat w0 w' [Fr] → R (.returned (.tuple #[.pointer (some ⟨pb, 0, none⟩), ftVal f])) w') :
   Calls Tryz.prog 39 #[.string s] w R := by
 have HOK := qh hok
 have HBAD := qh hbad
 have HS := qh H
 have HW := qh hw
 have HMX := qh hm
 clear hok hbad H hw hm
 go_enter Tryz.func39, Tryz.ntmps39
 go_wp2_with fail
 have h1 := HS.out.allocAt (.cells #[.int .i64 0, .int .i64 0] 25) w.heap.size
 refine Scan_any s _ (HW.out.below ((Below.refl _ _).alloc (Nat.le_refl _) _)) HMX.out (fun l v w1 hl hb ho => ?_) (fun e p w1 hl hb => ?_)
 · have h2 := (h1.newRow hb ho (by omega)).allocAt (.cells #[.int .i64 0, .int .i64 0] 25) w1.heap.size
   have hl0 := Tok.scan_ok s l hl
   have hll := Ty.scan_last hl
   have k0 := h2.cell 1 rfl 0 rfl
   have k1 := h2.cell 1 rfl 1 rfl
   have kf := h2.free 1 rfl
   have kz := h2.lt 1 rfl
   have hz := hb.size
   simp at kz hz
   have hz1 : w.heap.size < w1.heap.size := by omega
   have hz2 : w.heap.size < w1.heap.size + 1 := by omega
   have c0 : w1.cell? ⟨w.heap.size, 0, none⟩ = some (.int .i64 0) := (h1.newRow hb ho (by omega)).cell 1 rfl 0 rfl
   have c1 : w1.cell? ⟨w.heap.size, 1, none⟩ = some (.int .i64 0) := (h1.newRow hb ho (by omega)).cell 1 rfl 1 rfl
   have f0 : ∀ o, w1.frozen? ⟨w.heap.size, o, none⟩ = false := (h1.newRow hb ho (by omega)).free 1 rfl
   obtain ⟨a, cap, rfl⟩ := owns_slice ho
   have H1 := qh (h1.newRow hb ho (by omega))
   have HL := qh hl
   have HT : Hid (Toks l ∧ 0 < l.length) := ⟨⟨hl0.2.1, hll⟩, List.length_pos_iff.2 hl0.1⟩
   clear hl hb ho h1 h2 hl0 hll k0 k1 kf kz
   go_wp2_with fail
   go_region
   all_goals
     go_wp2_with fail
     refine bodyPost_ret ?_ rfl (HOK.out l (w1.heap.size + 1) _ HL.out ?_)
     · simp [results, Tryz.results39, go_sem, ftVal, hz1, hz2, c0, c1]
     · have h := (((H1.out.store 1 rfl 0 (.int .i64 0)).store 1 rfl 1 (.int .i64 0)).waste (.cells #[.int .i64 0, .int .i64 0] 25)).allocAt (.cells #[.slice a l.length cap, .int .i64 0, .int .i64 0, .slice none 0 0, .slice none 0 0, .int .i64 0] 86) (w1.heap.size + 1)
       exact Prt.Sat.newPar HT.out (h.drew.pick [0, 2, 3])
 · have hz := hb.size
   have h2 := h1.below hb
   have c0 := h2.cell 1 rfl 0 rfl
   have c1 := h2.cell 1 rfl 1 rfl
   have f0 := h2.free 1 rfl
   simp at hz
   have hz1 : w.heap.size < w1.heap.size := by omega
   have hz2 : w.heap.size < w1.heap.size + 1 := by omega
   have H1 := qh h2
   have HL := qh hl
   clear hl hb h1 h2
   go_wp2_with fail
   go_region
   all_goals
     go_wp2_with fail
     refine bodyPost_ret ?_ rfl (HBAD.out (e, p) (w1.heap.size + 1) _ HL.out ?_)
     · simp [results, Tryz.results39, go_sem, ftVal, hz1, hz2, c0, c1]
     · have h := (((H1.out.store 1 rfl 0 (.int .i64 e)).store 1 rfl 1 (.int .i64 p)).waste (.cells #[.int .i64 e, .int .i64 p] 25)).waste (.cells #[.slice none 0 0, .int .i64 0, .int .i64 0, .slice none 0 0, .slice none 0 0, .int .i64 0] 86)
       exact h.drew.pick [0]
end
section
open Go Go.RowKit
open Prt (Sat As blk pur exs star stars)
theorem typeOf_ok {s : ByteArray} {toks : List Tok.Tk} {st : Ty.St} (h1 : Tok.scan s = .ok toks) (h2 : aloneM toks ⟨0, [], []⟩ = .ok st) : Ty.typeOf s = .ok st.ts := by
 unfold Ty.typeOf; rw [h1]
 unfold aloneM at h2
 dsimp only
 cases h : Ty.typ toks 20 ⟨0, [], []⟩ with
 | error f => rw [h] at h2; cases h2
 | ok p =>
   obtain ⟨n, s'⟩ := p
   rw [h] at h2
   dsimp only at h2 ⊢
   split at h2
   · cases h2
   · rename_i h3
     rw [if_neg h3]
     split at h2
     · cases h2
     · rename_i h4; rw [if_neg h4]; cases h2; rfl
theorem typeOf_err {s : ByteArray} {toks : List Tok.Tk} {f : Ty.Ft} (h1 : Tok.scan s = .ok toks) (h2 : aloneM toks ⟨0, [], []⟩ = .error f) : Ty.typeOf s = .error f := by
 unfold Ty.typeOf; rw [h1]
 unfold aloneM at h2
 dsimp only
 cases h : Ty.typ toks 20 ⟨0, [], []⟩ with
 | error g => rw [h] at h2; cases h2; rfl
 | ok p =>
   obtain ⟨n, s'⟩ := p
   rw [h] at h2
   dsimp only at h2 ⊢
   split at h2
   · rename_i h3; rw [if_pos h3]; cases h2; rfl
   · rename_i h3
     rw [if_neg h3]
     split at h2
     · rename_i h4; rw [if_pos h4]; cases h2; rfl
     · cases h2
theorem Type_any {w0 w : World} {Fr : As} (H : Sat w0 w [Fr]) (s : ByteArray) (hw : Words w) (hm : s.size ≤ maxLen) {R : Ending → World → Prop}
   (hok : ∀ ts v w', Ty.typeOf s = .ok ts → Sat w0 w' [Fr, tyA v ts] → R (.returned (.tuple #[v, ftVal (0, 0)])) w')
   (hbad : ∀ f w', Ty.typeOf s = .error f → Sat w0 w' [Fr] → R (.returned (.tuple #[.slice none 0 0, ftVal f])) w') :
   Calls Tryz.prog 35 #[.string s] w R := by
 have HOK := qh hok
 have HBAD := qh hbad
 have HS := qh H
 have HW := qh hw
 have HMX := qh hm
 clear hok hbad H hw hm
 go_enter Tryz.func35, Tryz.ntmps35
 go_wp2_with fail
 have h1 := HS.out.allocAt (.cells #[.int .i64 0, .int .i64 0] 25) w.heap.size
 have h1 : Sat w0 _ [stars [Fr, blk w.heap.size (.cells #[.int .i64 0, .int .i64 0] 25)]] := Prt.Sat.pack (L := []) h1
 refine open_any h1 s (HW.out.below ((Below.refl _ _).alloc (Nat.le_refl _) _)) HMX.out (fun toks pb w1 hl h2 => ?_) (fun f pb w1 hl h2 => ?_)
 · have h3 := h2.un3.allocAt (.cells #[.int .i64 0, .int .i64 0] 25) w1.heap.size
   have H3 := qh h3
   have HL := qh hl
   clear h1 h2 h3 hl
   dsimp only [ftVal]
   go_wp2_with fail
   refine alone_any (H3.out.at 1 rfl) (fun st w2 hs h4 => ?_) (fun f w2 hs h4 => ?_)
   · have h5 := h4.un4
     obtain ⟨⟨lv, nv, tv, main⟩, h6⟩ := h5.ex (i := 1) rfl
     have h7 := h6.unpack (i := 1) rfl
     have x0 := h7.cell 1 rfl 0 rfl
     have x1 := h7.cell 1 rfl 1 rfl
     have fx := h7.free 1 rfl
     have y0 := h7.cell 2 rfl 0 rfl
     have y1 := h7.cell 2 rfl 1 rfl
     have fy := h7.free 2 rfl
     have z4 := h7.cell 4 rfl 4 rfl
     have hne1 := h7.ne 1 2 (by decide) rfl rfl
     have hne2 := h7.ne 1 4 (by decide) rfl rfl
     have hne3 := h7.ne 2 4 (by decide) rfl rfl
     have hx := h7.lt 1 rfl
     have H7 := qh h7
     have HST := qh hs
     clear h4 h5 h6 h7 hs
     dsimp only [ftVal] at *
     go_wp2_with fail
     go_region
     all_goals
       go_wp2_with fail
       refine bodyPost_ret ?_ rfl (HOK.out st.ts tv _ (typeOf_ok HL.out HST.out) ?_)
       · simp [results, Tryz.results35, go_sem, x0, x1]
       · exact ((((H7.out.store 2 rfl 0 (.int .i64 0)).store 2 rfl 1 (.int .i64 0)).store 1 rfl 0 (.int .i64 0)).store 1 rfl 1 (.int .i64 0)).drew.pick [0, 7]
   · have h5 := h4.unpack (i := 0) rfl
     have x0 := h5.cell 1 rfl 0 rfl
     have x1 := h5.cell 1 rfl 1 rfl
     have fx := h5.free 1 rfl
     have y0 := h5.cell 2 rfl 0 rfl
     have y1 := h5.cell 2 rfl 1 rfl
     have fy := h5.free 2 rfl
     have hne1 := h5.ne 1 2 (by decide) rfl rfl
     have hx := h5.lt 1 rfl
     have hE := typeOf_err HL.out hs
     have hb := Ty.typeOf_bad hE
     obtain ⟨fe, fp⟩ := f
     dsimp only at hb
     have e1 : ((fe : Int) == 0) = false := by simp; omega
     have e2 : ((fe : Int) != 0) = true := by simp; omega
     have H5 := qh h5
     have HE := qh hE
     clear h4 h5 hs hE hb
     dsimp only [ftVal] at *
     go_wp2_with fail
     go_region
     all_goals
       go_wp2_with fail
       refine bodyPost_ret ?_ rfl (HBAD.out (fe, fp) _ HE.out ?_)
       · simp [results, Tryz.results35, go_sem, x0, x1]
       · exact ((((H5.out.store 2 rfl 0 (.int .i64 fe)).store 2 rfl 1 (.int .i64 fp)).store 1 rfl 0 (.int .i64 fe)).store 1 rfl 1 (.int .i64 fp)).drew.pick [0]
 · have h6 := h2.unpack (i := 0) rfl
   have x0 := h6.cell 1 rfl 0 rfl
   have x1 := h6.cell 1 rfl 1 rfl
   have fx := h6.free 1 rfl
   have hx := h6.lt 1 rfl
   have hE : Ty.typeOf s = .error f := by unfold Ty.typeOf; rw [hl]
   have hb := Ty.typeOf_bad hE
   obtain ⟨fe, fp⟩ := f
   dsimp only at hb
   have e1 : ((fe : Int) == 0) = false := by simp; omega
   have e2 : ((fe : Int) != 0) = true := by simp; omega
   have H6 := qh h6
   have HE := qh hE
   have hne1 : w.heap.size ≠ w1.heap.size := by omega
   clear h1 h2 h6 hl hE hb
   dsimp only [ftVal] at *
   go_wp2_with fail
   go_region
   all_goals
     go_wp2_with fail
     refine bodyPost_ret ?_ rfl (HBAD.out (fe, fp) _ HE.out ?_)
     · simp [results, Tryz.results35, go_sem, hx, x0, x1]
     · exact ((((H6.out.store 1 rfl 0 (.int .i64 fe)).store 1 rfl 1 (.int .i64 fp))).waste _).drew.pick [0]
end
end Go.Proofs.YtdlbhiaceheffabGreatDoor
