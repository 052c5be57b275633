/- Walks of the parser's part and param, and of what gathers them. -/
import Derived.Test.YtdlbhiaceheffabGreatDoorY14
set_option linter.all false
set_option maxRecDepth 100000
set_option maxHeartbeats 4000000
namespace Go.Proofs.YtdlbhiaceheffabGreatDoor
section
open Go Go.RowKit
open Prt (Sat As blk pur exs star ah)
def mbA (mb : Nat) (names : List ByteArray) : As := exs fun mv : Value => ah [blk mb (.cells #[mv] 161 (0, 0)), dC mv names]
theorem Prt.Sat.yS {w0 w : World} {A B : As} {mb : Nat} {l : List ByteArray} (H : Sat w0 w [A, B, mbA mb l]) : ∃ mv, Sat w0 w [A, B, blk mb (.cells #[mv] 161 (0, 0)), dC mv l] := by
 obtain ⟨v, hs⟩ := H.ex (i := 2) rfl
 exact ⟨v, hs.unpack (i := 2) rfl⟩
theorem Prt.Sat.uG {w0 w : World} {A B : As} {mb : Nat} {l : List ByteArray} {mv : Value} (H : Sat w0 w [A, B, blk mb (.cells #[mv] 161 (0, 0)), dC mv l]) : Sat w0 w [A, B, mbA mb l] :=
 (Prt.Sat.pack (L := [_, _]) H).ent (i := 2) rfl (fun _ h => ⟨_, h⟩)
def wQ (F : FuncId) (af : List Tok.Tk) (d : Nat) (M : List ByteArray → Ty.M (ByteArray × Nat)) : Prop :=
 ∀ (w0 w : World) (Fr : As) (pb mb : Nat) (st : Ty.St) (names : List ByteArray), Sat w0 w [Fr, aC pb d af st, mbA mb names] → names.length ≤ st.pos → ∀ R : Ending → World → Prop,
   (∀ x n s2 w2, M names st = .ok ((x, n), s2) → Sat w0 w2 [Fr, aC pb d af s2, mbA mb (names ++ [x])] → R (.returned (.int .i64 (n : Nat))) w2) →
   (∀ f w2, M names st = .error f → Sat w0 w2 [Fr] → R (.panicked (aI f)) w2) → Calls Tryz.prog F #[.pointer (some ⟨pb, 0, none⟩), .pointer (some ⟨mb, 0, none⟩)] w R
theorem Prt.Sat.gz {w0 w : World} {Fr P M B N A : As} (h : Sat w0 w [Fr, P, M, B, N, A]) : Sat w0 w [ah [Fr, M, N, B], P, A] := (Prt.Sat.pack (L := [_, _]) (M := [_, _, _, _]) (h.pick [1, 5, 0, 2, 4, 3])).pick [2, 0, 1]
theorem Prt.Sat.wC {w0 w : World} {Fr P M N B : As} (h : Sat w0 w [ah [Fr, M, N, B], P]) : Sat w0 w [Fr, P, M, N] := (h.unpack (i := 0) rfl).pick [1, 0, 2, 3]
theorem zO {af : List Tok.Tk} {d : Nat} {T E O S : Ty.M Nat} (L : Lo af d T E O S) : wQ 349 af d (Ty.partM af E) := by
 intro w0 w Fr pb mb st names H hnl R hok hbad
 have HOK := qh hok
 have HBAD := qh hbad
 have HL := qh L
 have hlk := (H.pick [0, 1]).look
 have htl := hlk.wf.1
 have hpos := hlk.fits.1
 have hfit := hlk.fits.2.2.2
 obtain ⟨mv, h0⟩ := H.yS
 obtain ⟨ma, mc, rfl⟩ := ag (h0.row 3 rfl)
 have HS := qh h0
 have HN := qh (fun R hR => @dU w pb d af st hlk R hR)
 obtain ⟨i0, ti, tz0, tz1, tz2⟩ := info_parts jw
 obtain ⟨ps, hps⟩ : ∃ ps, (Ty.cur af st.pos).pos = ps := ⟨_, rfl⟩
 have HE0 : Hid (∀ r, (Ty.bnd (Ty.name af names) fun x => Ty.bnd (Ty.need af [58]) fun _ => Ty.bnd E fun a => Ty.bnd (Ty.addNode { Ty.ndOf 15 ps with text := x, a := a }) fun n => Ty.ret (x, n)) st = r → Ty.partM af E names st = r) := fun r h => by rw [← h, ← hps]; rfl
 generalize Ty.cur af st.pos = t at *
 obtain ⟨kd, tx, tp⟩ := t
 dsimp only at hps
 subst hps
 have hf2 := fM
 clear hok hbad H L hlk h0
 go_enter Tryz.func349, Tryz.ntmps349
 go_wp2_with fail
 refine HN.out _ (fun w1 hb1 => ?_)
 dsimp only [aQ]
 have H1 := qh (HS.out.below hb1)
 clear hb1
 go_wp2_with fail
 refine gp w1 15 tp (fun w2 hb2 => ?_)
 have h2 := (H1.out.below hb2).aj (.cells #[.int .i64 15, .int .i64 0, .int .i64 0, .int .i64 0, .slice none 0 0, .string ⟨#[]⟩, .int .i64 0, .int .i64 (-1), .int .i64 tp] 66) w2.heap.size
 have x2 := h2.cell 2 rfl 0 rfl
 have hne := h2.ne 2 4 (by decide) rfl rfl
 have hm2 := h2.lt 2 rfl
 have H2 := qh h2
 clear hb2 h2
 go_wp2_with fail
 refine gY (H2.out.at 1 rfl) _ names (H2.out.row 3 rfl) (by omega) (fun x w3 hm h3 => ?_) (fun e w3 hm h3 => ?_)
 rotate_left
 · have HE1 : Hid (Ty.partM af E names st = .error e) := HE0.out _ (by rw [Ty.bnd_err hm])
   have H3 := qh (h3.unpack (i := 0) rfl)
   clear hm h3
   go_wp2_with fail
   exact ⟨rfl, HBAD.out _ _ HE1.out (H3.out.pick [0])⟩
 have HE1 : Hid (∀ r, (Ty.bnd (Ty.need af [58]) fun _ => Ty.bnd E fun a => Ty.bnd (Ty.addNode { Ty.ndOf 15 tp with text := x, a := a }) fun n => Ty.ret (x, n)) { st with pos := st.pos + 1 } = r → Ty.partM af E names st = r) := fun r h => HE0.out r (by rw [Ty.bnd_ok hm]; exact h)
 have h4 := h3.un5
 have y5 := h4.cell 4 rfl 5 rfl
 have f5 := h4.free 4 rfl
 have hz := h4.lt 4 rfl
 have hm4 := h4.lt 2 rfl
 have x3 := h4.cell 2 rfl 0 rfl
 have fm := h4.free 2 rfl 0
 have h5 := h4.store 4 rfl 5 (.string x)
 have x4 := h5.cell 2 rfl 0 rfl
 have y4 := h5.cell 4 rfl 5 rfl
 have HROW := qh (h5.row 3 rfl)
 have H5 := qh h5
 clear hm h3 h4 h5 x2
 go_wp2_with fail
 go_region_law (first | (go_loud (refine step_append_lies _ (by rfl) _ _ _ (by rfl) 0 9 i0 _ 1 16 Tryz.underlying161 ti tz0 tz1 tz2 rfl (by omega) (.slice ma names.length mc) names.length (names.map Value.string) (by rfl) ((HROW.out.alloc _).drew) ⟨w3.heap.size, 0, none⟩ 1 1 [.string x] (by rfl) (by rfl) (World.news_of_block (cs := #[.string x]) (t := 9) (fr := (0, 0)) (aV (ak _ _ _ (by simp)))) (by simp [Value.oneCell']) (by omega) (by unfold maxLen; omega) (by omega) (by simp) (w3.heap.size + 1) (by simp) ?_); intro g cap w4 hown4 hgrow4 hat4 hlt4; have h6 := Prt.Sat.grow (m := names.length + 1) ((H5.out.ay _).drew) 3 rfl hgrow4 hown4 (by simpa using hat4); have x5 := h6.cell 2 rfl 0 rfl; have f6 := h6.free 2 rfl 0; have hm6 := h6.lt 2 rfl; have H6 := qh h6; clear h6))
 all_goals
   clear hown4 hgrow4
   have h7 := (H6.out.store 2 rfl 0 (.slice (some ⟨g, 0, none⟩) (names.length + 1) cap)).ent (i := 3) rfl (Q := dC (.slice (some ⟨g, 0, none⟩) (names.length + 1) cap) (names ++ [x])) (fun _ h => ed h)
   have H7 := qh h7
   clear h7
   go_wp2_with fail
   refine aZ (H7.out.at 1 rfl) ⟨#[58]⟩ (fun w5 hm h8 => ?_) (fun e w5 hm h8 => ?_)
   rotate_left
   · have HE2 : Hid (Ty.partM af E names st = .error e) := HE1.out _ (by rw [Ty.bnd_err hm])
     have H8 := qh (h8.unpack (i := 0) rfl)
     clear hm h8
     go_wp2_with fail
     exact ⟨rfl, HBAD.out _ _ HE2.out (H8.out.pick [0])⟩
   have HE2 : Hid (∀ r, (Ty.bnd E fun a => Ty.bnd (Ty.addNode { Ty.ndOf 15 tp with text := x, a := a }) fun n => Ty.ret (x, n)) { st with pos := st.pos + 1 + 1 } = r → Ty.partM af E names st = r) := fun r h => HE1.out r (by rw [Ty.bnd_ok hm]; exact h)
   have H8 := qh h8.un5
   clear hm h8
   go_wp2_with fail
   refine HL.out.e _ _ _ pb _ (H8.out.at 1 rfl) _ (fun n s6 w6 hm h9 => ?_) (fun e w6 hm h9 => ?_)
   rotate_left
   · have HE3 : Hid (Ty.partM af E names st = .error e) := HE2.out _ (by rw [Ty.bnd_err hm])
     have H9 := qh (h9.unpack (i := 0) rfl)
     clear hm h9
     go_wp2_with fail
     exact ⟨rfl, HBAD.out _ _ HE3.out (H9.out.pick [0])⟩
   have had := HL.out.ae _ _ _ hm
   dsimp only at had
   have HE3 : Hid (Ty.partM af E names st = .ok ((x, s6.ns.length), { s6 with ns := s6.ns ++ [{ Ty.ndOf 15 tp with text := x, a := n }] })) := HE2.out _ (by rw [Ty.bnd_ok hm]; rfl)
   have h10 := h9.un5
   have y1 := h10.cell 4 rfl 1 rfl
   have f1 := h10.free 4 rfl
   have hz10 := h10.lt 4 rfl
   have h11 := h10.store 4 rfl 1 (.int .i64 (n : Nat))
   have q0 := h10.cell 4 rfl 0 rfl
   have q2 := h10.cell 4 rfl 2 rfl
   have q3 := h10.cell 4 rfl 3 rfl
   have q4 := h10.cell 4 rfl 4 rfl
   have q5 := h10.cell 4 rfl 5 rfl
   have q6 := h10.cell 4 rfl 6 rfl
   have q7 := h10.cell 4 rfl 7 rfl
   have q8 := h10.cell 4 rfl 8 rfl
   have H11 := qh (h11.nil 3 1)
   clear hm h9 h10 h11
   go_wp2_with fail
   refine aO { Ty.ndOf 15 tp with text := x, a := n } (.slice none 0 0) ((H11.out.pick [0, 1, 2, 4, 3, 5]).gz) (by omega) (fun w7 h12 => ?_)
   have H12 := qh h12.wC
   clear h12
   go_wp2_with fail
   exact HOK.out _ _ _ _ HE3.out H12.out.uG
theorem xI {af : List Tok.Tk} {d : Nat} {T E O S : Ty.M Nat} (L : Lo af d T E O S) : wQ 357 af d (Ty.paramM af T) := by
 intro w0 w Fr pb mb st names H hnl R hok hbad
 have HOK := qh hok
 have HBAD := qh hbad
 have HL := qh L
 have hlk := (H.pick [0, 1]).look
 have htl := hlk.wf.1
 have hpos := hlk.fits.1
 have hfit := hlk.fits.2.2.2
 obtain ⟨mv, h0⟩ := H.yS
 obtain ⟨ma, mc, rfl⟩ := ag (h0.row 3 rfl)
 have HS := qh h0
 have HN := qh (fun R hR => @dU w pb d af st hlk R hR)
 obtain ⟨i0, ti, tz0, tz1, tz2⟩ := info_parts jw
 obtain ⟨ps, hps⟩ : ∃ ps, (Ty.cur af st.pos).pos = ps := ⟨_, rfl⟩
 have HE0 : Hid (∀ r, (Ty.bnd (Ty.name af names) fun x => Ty.bnd (Ty.written af T) fun t => Ty.bnd (Ty.addNode { Ty.ndOf 16 ps with text := x, ty := t }) fun n => Ty.ret (x, n)) st = r → Ty.paramM af T names st = r) := fun r h => by rw [← h, ← hps]; rfl
 generalize Ty.cur af st.pos = t at *
 obtain ⟨kd, tx, tp⟩ := t
 dsimp only at hps
 subst hps
 have hf2 := fM
 clear hok hbad H L hlk h0
 go_enter Tryz.func357, Tryz.ntmps357
 go_wp2_with fail
 refine HN.out _ (fun w1 hb1 => ?_)
 dsimp only [aQ]
 have H1 := qh (HS.out.below hb1)
 clear hb1
 go_wp2_with fail
 refine gp w1 16 tp (fun w2 hb2 => ?_)
 have h2 := (H1.out.below hb2).aj (.cells #[.int .i64 16, .int .i64 0, .int .i64 0, .int .i64 0, .slice none 0 0, .string ⟨#[]⟩, .int .i64 0, .int .i64 (-1), .int .i64 tp] 66) w2.heap.size
 have x2 := h2.cell 2 rfl 0 rfl
 have hne := h2.ne 2 4 (by decide) rfl rfl
 have hm2 := h2.lt 2 rfl
 have H2 := qh h2
 clear hb2 h2
 go_wp2_with fail
 refine gY (H2.out.at 1 rfl) _ names (H2.out.row 3 rfl) (by omega) (fun x w3 hm h3 => ?_) (fun e w3 hm h3 => ?_)
 rotate_left
 · have HE1 : Hid (Ty.paramM af T names st = .error e) := HE0.out _ (by rw [Ty.bnd_err hm])
   have H3 := qh (h3.unpack (i := 0) rfl)
   clear hm h3
   go_wp2_with fail
   exact ⟨rfl, HBAD.out _ _ HE1.out (H3.out.pick [0])⟩
 have HE1 : Hid (∀ r, (Ty.bnd (Ty.written af T) fun t => Ty.bnd (Ty.addNode { Ty.ndOf 16 tp with text := x, ty := t }) fun n => Ty.ret (x, n)) { st with pos := st.pos + 1 } = r → Ty.paramM af T names st = r) := fun r h => HE0.out r (by rw [Ty.bnd_ok hm]; exact h)
 have h4 := h3.un5
 have y5 := h4.cell 4 rfl 5 rfl
 have f5 := h4.free 4 rfl
 have hz := h4.lt 4 rfl
 have hm4 := h4.lt 2 rfl
 have x3 := h4.cell 2 rfl 0 rfl
 have fm := h4.free 2 rfl 0
 have h5 := h4.store 4 rfl 5 (.string x)
 have x4 := h5.cell 2 rfl 0 rfl
 have y4 := h5.cell 4 rfl 5 rfl
 have HROW := qh (h5.row 3 rfl)
 have H5 := qh h5
 clear hm h3 h4 h5 x2
 go_wp2_with fail
 go_region_law (first | (go_loud (refine step_append_lies _ (by rfl) _ _ _ (by rfl) 0 9 i0 _ 1 16 Tryz.underlying161 ti tz0 tz1 tz2 rfl (by omega) (.slice ma names.length mc) names.length (names.map Value.string) (by rfl) ((HROW.out.alloc _).drew) ⟨w3.heap.size, 0, none⟩ 1 1 [.string x] (by rfl) (by rfl) (World.news_of_block (cs := #[.string x]) (t := 9) (fr := (0, 0)) (aV (ak _ _ _ (by simp)))) (by simp [Value.oneCell']) (by omega) (by unfold maxLen; omega) (by omega) (by simp) (w3.heap.size + 1) (by simp) ?_); intro g cap w4 hown4 hgrow4 hat4 hlt4; have h6 := Prt.Sat.grow (m := names.length + 1) ((H5.out.ay _).drew) 3 rfl hgrow4 hown4 (by simpa using hat4); have x5 := h6.cell 2 rfl 0 rfl; have f6 := h6.free 2 rfl 0; have hm6 := h6.lt 2 rfl; have H6 := qh h6; clear h6))
 all_goals
   clear hown4 hgrow4
   have h7 := (H6.out.store 2 rfl 0 (.slice (some ⟨g, 0, none⟩) (names.length + 1) cap)).ent (i := 3) rfl (Q := dC (.slice (some ⟨g, 0, none⟩) (names.length + 1) cap) (names ++ [x])) (fun _ h => ed h)
   have H7 := qh h7
   clear h7
   go_wp2_with fail
   refine iG HL.out (H7.out.at 1 rfl) (fun n s6 w6 hm h9 => ?_) (fun e w6 hm h9 => ?_)
   rotate_left
   · have HE3 : Hid (Ty.paramM af T names st = .error e) := HE1.out _ (by rw [Ty.bnd_err hm])
     have H9 := qh (h9.unpack (i := 0) rfl)
     clear hm h9
     go_wp2_with fail
     exact ⟨rfl, HBAD.out _ _ HE3.out (H9.out.pick [0])⟩
   have had := Ty.written_adv HL.out.at' _ _ _ hm
   dsimp only at had
   have HE3 : Hid (Ty.paramM af T names st = .ok ((x, s6.ns.length), { s6 with ns := s6.ns ++ [{ Ty.ndOf 16 tp with text := x, ty := n }] })) := HE1.out _ (by rw [Ty.bnd_ok hm]; rfl)
   have h10 := h9.un5
   have y1 := h10.cell 4 rfl 7 rfl
   have f1 := h10.free 4 rfl
   have hz10 := h10.lt 4 rfl
   have h11 := h10.store 4 rfl 7 (.int .i64 n)
   have q0 := h10.cell 4 rfl 0 rfl
   have q1 := h10.cell 4 rfl 1 rfl
   have q2 := h10.cell 4 rfl 2 rfl
   have q3 := h10.cell 4 rfl 3 rfl
   have q4 := h10.cell 4 rfl 4 rfl
   have q5 := h10.cell 4 rfl 5 rfl
   have q6 := h10.cell 4 rfl 6 rfl
   have q8 := h10.cell 4 rfl 8 rfl
   have H11 := qh (h11.nil 3 1)
   clear hm h9 h10 h11
   go_wp2_with fail
   refine aO { Ty.ndOf 16 tp with text := x, ty := n } (.slice none 0 0) ((H11.out.pick [0, 1, 2, 4, 3, 5]).gz) (by omega) (fun w7 h12 => ?_)
   have H12 := qh h12.wC
   clear h12
   go_wp2_with fail
   exact HOK.out _ _ _ _ HE3.out H12.out.uG
def plA (pb nb xb mb : Nat) (k a p : Int) (l : List (ByteArray × Nat)) : As := exs fun v : Value => ah [blk nb (nlC k a p v), inA v (l.map Prod.snd), xbA pb xb, mbA mb (l.map Prod.fst)]
theorem Prt.Sat.oq {w0 w : World} {A B : As} {pb nb xb mb : Nat} {k a p : Int} {l : List (ByteArray × Nat)} (H : Sat w0 w [A, B, plA pb nb xb mb k a p l]) : ∃ v, Sat w0 w [A, B, blk nb (nlC k a p v), inA v (l.map Prod.snd), xbA pb xb, mbA mb (l.map Prod.fst)] := by
 obtain ⟨v, hs⟩ := H.ex (i := 2) rfl
 exact ⟨v, hs.unpack (i := 2) rfl⟩
theorem Prt.Sat.oP {w0 w : World} {A B : As} {pb nb xb mb : Nat} {k a p : Int} {v : Value} {l : List (ByteArray × Nat)} {ns : List Nat} {ms : List ByteArray} (h1 : l.map Prod.snd = ns) (h2 : l.map Prod.fst = ms) (H : Sat w0 w [A, B, blk nb (nlC k a p v), inA v ns, xbA pb xb, mbA mb ms]) : Sat w0 w [A, B, plA pb nb xb mb k a p l] := by
 subst h1 h2
 exact (Prt.Sat.pack (L := [_, _]) H).ent (i := 2) rfl (fun _ h => ⟨_, h⟩)
theorem zK (w0 w : World) (Fr : As) (pb nb xb mb d : Nat) (af : List Tok.Tk) (M : List ByteArray → Ty.M (ByteArray × Nat)) (hspec : wQ 349 af d M) (k0 a0 p0 : Int)
   (l : List (ByteArray × Nat)) (s : Ty.St) (H : Sat w0 w [Fr, aC pb d af s, plA pb nb xb mb k0 a0 p0 l]) (hl : l.length ≤ s.pos) {R : Ending → World → Prop}
   (hok : ∀ n s2 w2, M (l.map Prod.fst) s = .ok (n, s2) → Sat w0 w2 [Fr, aC pb d af s2, plA pb nb xb mb k0 a0 p0 (l ++ [n])] → R (.returned (.tuple #[])) w2)
   (hbad : ∀ f w2, M (l.map Prod.fst) s = .error f → Sat w0 w2 [Fr] → R (.panicked (aI f)) w2) :
   Calls Tryz.prog 348 #[.pointer (some ⟨nb, 0, none⟩), .pointer (some ⟨xb, 0, none⟩), .pointer (some ⟨mb, 0, none⟩)] w R := by
 have HOK := qh hok
 have HBAD := qh hbad
 have hlk := (H.pick [0, 1]).look
 have hpos := hlk.fits.1
 have htl := hlk.wf.1
 obtain ⟨v, hs⟩ := H.oq
 obtain ⟨ns, hns⟩ : ∃ ns, l.map Prod.snd = ns := ⟨_, rfl⟩
 obtain ⟨ms, hms⟩ : ∃ ms, l.map Prod.fst = ms := ⟨_, rfl⟩
 have hnl : ns.length ≤ s.pos := by rw [← hns, List.length_map]; exact hl
 have hml : ms.length ≤ s.pos := by rw [← hms, List.length_map]; exact hl
 have HNS : Hid (∀ n : ByteArray × Nat, (l ++ [n]).map Prod.snd = ns ++ [n.2]) := fun n => by rw [List.map_append, hns]; rfl
 have HMS : Hid (∀ n : ByteArray × Nat, (l ++ [n]).map Prod.fst = ms ++ [n.1]) := fun n => by rw [List.map_append, hms]; rfl
 rw [hns, hms] at hs
 rw [hms] at HOK HBAD
 obtain ⟨a, cap0, rfl⟩ := ag (hs.row 3 rfl)
 have c1 := hs.cell 2 rfl 4 rfl
 have c2 := hs.cell 4 rfl 0 rfl
 have HS := qh (hspec w0 w.drew _ pb mb s ms ((Prt.Sat.pack (L := [_, _]) (M := [_, _, _, _]) (hs.drew.pick [1, 5, 0, 2, 3, 4])).pick [2, 0, 1]) hml)
 obtain ⟨i0, ti, tz0, tz1, tz2⟩ := info_parts bY
 clear hok hbad hspec H hlk hs hns hms
 go_enter Tryz.func348, Tryz.ntmps348
 go_wp2_with fail
 go_region_law (first | (go_simp; go_at_call 349; refine HS.out _ (fun x n s2 w2 hm h2 => ?_) (fun f w2 hm h2 => ⟨rfl, HBAD.out _ _ hm ((h2.unpack (i := 0) rfl).pick [0])⟩); have h3 : Sat w0 w2 [Fr, aC pb d af s2, blk nb (nlC k0 a0 p0 (.slice a ns.length cap0)), inA (.slice a ns.length cap0) ns, xbA pb xb, mbA mb (ms ++ [x])] := (h2.unpack (i := 0) rfl).pick [2, 0, 3, 4, 5, 1]; have d1 := h3.cell 2 rfl 4 rfl; have d2 := (h3.ay (.cells #[.int .i64 n] 3)).cell 2 rfl 4 rfl; have H3 := qh h3; clear h2 h3) | (go_loud (refine step_append_lies _ (by rfl) _ _ _ (by rfl) 0 3 i0 _ 1 8 Tryz.underlying39 ti tz0 tz1 tz2 rfl (by omega) (.slice a ns.length cap0) ns.length (ns.map aA) (by rfl) ((H3.out.row 3 rfl).alloc _) ⟨w2.heap.size, 0, none⟩ 1 1 [.int .i64 n] (by rfl) (by rfl) (World.news_of_block (cs := #[.int .i64 n]) (t := 3) (fr := (0, 0)) (ak _ _ _ (by simp))) (by simp [Value.oneCell']) (by omega) (by unfold maxLen; omega) (by omega) (by simp) (w2.heap.size + 1) (by simp) ?_); intro g cap w3 hown3 hgrow3 hat3 hlt3; have h4 := Prt.Sat.grow (H3.out.ay _) 3 rfl hgrow3 hown3 (by simpa using hat3); have d3 := h4.cell 2 rfl 4 rfl; have f3 := h4.free 2 rfl 4; have H4 := qh h4; clear h4))
 all_goals
   clear hown3 hgrow3
   go_wp2_with fail
   go_end0
   exact HOK.out (x, n) s2 _ hm (Prt.Sat.oP (HNS.out (x, n)) (HMS.out (x, n)) ((H4.out.store 2 rfl 4 _).ent (i := 3) rfl (Q := inA (.slice (some ⟨g, 0, none⟩) (ns.length + 1) cap) (ns ++ [n])) (fun _ h => bz h)))
theorem yg (w0 w : World) (Fr : As) (pb nb xb mb d : Nat) (af : List Tok.Tk) (M : List ByteArray → Ty.M (ByteArray × Nat)) (hspec : wQ 357 af d M) (k0 a0 p0 : Int)
   (l : List (ByteArray × Nat)) (s : Ty.St) (H : Sat w0 w [Fr, aC pb d af s, plA pb nb xb mb k0 a0 p0 l]) (hl : l.length ≤ s.pos) {R : Ending → World → Prop}
   (hok : ∀ n s2 w2, M (l.map Prod.fst) s = .ok (n, s2) → Sat w0 w2 [Fr, aC pb d af s2, plA pb nb xb mb k0 a0 p0 (l ++ [n])] → R (.returned (.tuple #[])) w2)
   (hbad : ∀ f w2, M (l.map Prod.fst) s = .error f → Sat w0 w2 [Fr] → R (.panicked (aI f)) w2) :
   Calls Tryz.prog 356 #[.pointer (some ⟨nb, 0, none⟩), .pointer (some ⟨xb, 0, none⟩), .pointer (some ⟨mb, 0, none⟩)] w R := by
 have HOK := qh hok
 have HBAD := qh hbad
 have hlk := (H.pick [0, 1]).look
 have hpos := hlk.fits.1
 have htl := hlk.wf.1
 obtain ⟨v, hs⟩ := H.oq
 obtain ⟨ns, hns⟩ : ∃ ns, l.map Prod.snd = ns := ⟨_, rfl⟩
 obtain ⟨ms, hms⟩ : ∃ ms, l.map Prod.fst = ms := ⟨_, rfl⟩
 have hnl : ns.length ≤ s.pos := by rw [← hns, List.length_map]; exact hl
 have hml : ms.length ≤ s.pos := by rw [← hms, List.length_map]; exact hl
 have HNS : Hid (∀ n : ByteArray × Nat, (l ++ [n]).map Prod.snd = ns ++ [n.2]) := fun n => by rw [List.map_append, hns]; rfl
 have HMS : Hid (∀ n : ByteArray × Nat, (l ++ [n]).map Prod.fst = ms ++ [n.1]) := fun n => by rw [List.map_append, hms]; rfl
 rw [hns, hms] at hs
 rw [hms] at HOK HBAD
 obtain ⟨a, cap0, rfl⟩ := ag (hs.row 3 rfl)
 have c1 := hs.cell 2 rfl 4 rfl
 have c2 := hs.cell 4 rfl 0 rfl
 have HS := qh (hspec w0 w.drew _ pb mb s ms ((Prt.Sat.pack (L := [_, _]) (M := [_, _, _, _]) (hs.drew.pick [1, 5, 0, 2, 3, 4])).pick [2, 0, 1]) hml)
 obtain ⟨i0, ti, tz0, tz1, tz2⟩ := info_parts bY
 clear hok hbad hspec H hlk hs hns hms
 go_enter Tryz.func356, Tryz.ntmps356
 go_wp2_with fail
 go_region_law (first | (go_simp; go_at_call 357; refine HS.out _ (fun x n s2 w2 hm h2 => ?_) (fun f w2 hm h2 => ⟨rfl, HBAD.out _ _ hm ((h2.unpack (i := 0) rfl).pick [0])⟩); have h3 : Sat w0 w2 [Fr, aC pb d af s2, blk nb (nlC k0 a0 p0 (.slice a ns.length cap0)), inA (.slice a ns.length cap0) ns, xbA pb xb, mbA mb (ms ++ [x])] := (h2.unpack (i := 0) rfl).pick [2, 0, 3, 4, 5, 1]; have d1 := h3.cell 2 rfl 4 rfl; have d2 := (h3.ay (.cells #[.int .i64 n] 3)).cell 2 rfl 4 rfl; have H3 := qh h3; clear h2 h3) | (go_loud (refine step_append_lies _ (by rfl) _ _ _ (by rfl) 0 3 i0 _ 1 8 Tryz.underlying39 ti tz0 tz1 tz2 rfl (by omega) (.slice a ns.length cap0) ns.length (ns.map aA) (by rfl) ((H3.out.row 3 rfl).alloc _) ⟨w2.heap.size, 0, none⟩ 1 1 [.int .i64 n] (by rfl) (by rfl) (World.news_of_block (cs := #[.int .i64 n]) (t := 3) (fr := (0, 0)) (ak _ _ _ (by simp))) (by simp [Value.oneCell']) (by omega) (by unfold maxLen; omega) (by omega) (by simp) (w2.heap.size + 1) (by simp) ?_); intro g cap w3 hown3 hgrow3 hat3 hlt3; have h4 := Prt.Sat.grow (H3.out.ay _) 3 rfl hgrow3 hown3 (by simpa using hat3); have d3 := h4.cell 2 rfl 4 rfl; have f3 := h4.free 2 rfl 4; have H4 := qh h4; clear h4))
 all_goals
   clear hown3 hgrow3
   go_wp2_with fail
   go_end0
   exact HOK.out (x, n) s2 _ hm (Prt.Sat.oP (HNS.out (x, n)) (HMS.out (x, n)) ((H4.out.store 2 rfl 4 _).ent (i := 3) rfl (Q := inA (.slice (some ⟨g, 0, none⟩) (ns.length + 1) cap) (ns ++ [n])) (fun _ h => bz h)))
namespace Ty
theorem sF {af : List Tok.Tk} {S : M Nat} {f : Nat} {l : List Nat} {s s1 : St} (h : take af [125] s = .ok (true, s1)) : stmts af S (f + 1) l s = .ok (l, s1) := by
 rw [stmts]; rw [bnd_ok h]; rfl
theorem zL {af : List Tok.Tk} {S : M Nat} {f : Nat} {l : List Nat} {s s1 : St} (h : take af [125] s = .ok (false, s1)) : stmts af S (f + 1) l s = bnd S (fun n => stmts af S f (l ++ [n])) s1 := by
 rw [stmts]; rw [bnd_ok h]; rfl
end Ty
theorem iY {af : List Tok.Tk} {d : Nat} {T E O S : Ty.M Nat} (L : Lo af d T E O S) : cO 283 af d (Ty.blockM af S) := by
 intro w0 w Fr pb st H R hok hbad
 have HOK := qh hok
 have HBAD := qh hbad
 have HL := qh L
 have hlk := H.look
 have htl := hlk.wf.1
 have hpos := hlk.fits.1
 have hfit := hlk.fits.2.2.2
 have HS := qh H
 have HN := qh (fun R hR => @dU w pb d af st hlk R hR)
 obtain ⟨i0, ti, tz0, tz1, tz2⟩ := info_parts bY
 obtain ⟨ps, hps⟩ : ∃ ps, (Ty.cur af st.pos).pos = ps := ⟨_, rfl⟩
 have HE0 : Hid (∀ r, (Ty.bnd (Ty.need af [123]) fun _ => Ty.bnd (Ty.stmts af S (af.length + 1) []) fun l => Ty.addNode { Ty.ndOf 26 ps with list := l }) st = r → Ty.blockM af S st = r) := fun r h => by rw [← h, ← hps]; rfl
 generalize Ty.cur af st.pos = t at *
 obtain ⟨kd, tx, tp⟩ := t
 dsimp only at hps
 subst hps
 have hf2 := fM
 clear hok hbad H L hlk
 go_enter Tryz.func283, Tryz.ntmps283
 go_wp2_with fail
 refine HN.out _ (fun w1 hb1 => ?_)
 dsimp only [aQ]
 have H1 := qh (HS.out.below hb1)
 clear hb1
 go_wp2_with fail
 refine gp w1 26 tp (fun w2 hb2 => ?_)
 have h2 := (H1.out.below hb2).aj (.cells #[.int .i64 26, .int .i64 0, .int .i64 0, .int .i64 0, .slice none 0 0, .string ⟨#[]⟩, .int .i64 0, .int .i64 (-1), .int .i64 tp] 66) w2.heap.size
 have H2 := qh h2
 clear hb2 h2
 go_wp2_with fail
 refine aZ (H2.out.at 1 rfl) ⟨#[123]⟩ (fun w3 hm h3 => ?_) (fun e w3 hm h3 => ?_)
 rotate_left
 · have HE1 : Hid (Ty.blockM af S st = .error e) := HE0.out _ (by rw [Ty.bnd_err hm])
   have H3 := qh (h3.unpack (i := 0) rfl)
   clear hm h3
   go_wp2_with fail
   exact ⟨rfl, HBAD.out _ _ HE1.out (H3.out.pick [0])⟩
 have HE1 : Hid (∀ r, (Ty.bnd (Ty.stmts af S (af.length + 1) []) fun l => Ty.addNode { Ty.ndOf 26 tp with list := l }) { st with pos := st.pos + 1 } = r → Ty.blockM af S st = r) := fun r h => HE0.out r (by rw [Ty.bnd_ok hm]; exact h)
 have h4 : Sat w0 w3 [Fr, aC pb d af { st with pos := st.pos + 1 }, blk w2.heap.size (nlC 26 0 tp (.slice none 0 0)), inA (.slice none 0 0) []] := h3.un3.nil 3 1
 have hp4 := (h4.pick [0, 1]).look.fits.1
 have H4 := qh h4
 clear hm h3 h4
 dsimp only at hp4
 go_wp2_with fail
 go_loopw [10] (fun _ wr => ∃ (f : Nat) (l : List Nat) (s : Ty.St) (v : Value), s.pos < af.length ∧ af.length < s.pos + f ∧ l.length ≤ s.pos ∧ s.ns.length ≤ s.pos ∧ Hid (Sat w0 wr [Fr, aC pb d af s, blk w2.heap.size (nlC 26 0 tp v), inA v l]) ∧ Hid (∀ r, (Ty.bnd (Ty.stmts af S f l) fun l => Ty.addNode { Ty.ndOf 26 tp with list := l }) s = r → Ty.blockM af S st = r))
   (fun _ wr => af.length - posOf pb wr)
 case atStart => exact ⟨af.length + 1, [], { st with pos := st.pos + 1 }, .slice none 0 0, hp4, by dsimp only; omega, by simp, by dsimp only; omega, H4.out, HE1.out⟩
 case round =>
   obtain ⟨f, l, s, v, hp, hf, hll, hnn, hS, hE⟩ := hrel
   obtain ⟨f, rfl⟩ : ∃ g, f = g + 1 := ⟨f - 1, by omega⟩
   obtain ⟨a, cap0, rfl⟩ := ag (hS.out.row 3 rfl)
   have HPO := qh (bD (hS.out.pick [0, 1]).look)
   go_wp2_with fail
   refine take_any (hS.out.at 1 rfl) ⟨#[125]⟩ (fun w4 hi h5 => ?_) (fun w4 hi h5 => ?_)
   · have HE2 : Hid (Ty.blockM af S st = .ok (s.ns.length, { s with pos := s.pos + 1, ns := s.ns ++ [{ Ty.ndOf 26 tp with list := l }] })) := hE.out _ (by rw [Ty.bnd_ok (Ty.sF hi)]; rfl)
     have h6 : Sat w0 w4 [Fr, aC pb d af { s with pos := s.pos + 1 }, blk w2.heap.size (nlC 26 0 tp (.slice a l.length cap0)), inA (.slice a l.length cap0) l] := h5.un4
     have q0 := h6.cell 2 rfl 0 rfl
     have q1 := h6.cell 2 rfl 1 rfl
     have q2 := h6.cell 2 rfl 2 rfl
     have q3 := h6.cell 2 rfl 3 rfl
     have q4 := h6.cell 2 rfl 4 rfl
     have q5 := h6.cell 2 rfl 5 rfl
     have q6 := h6.cell 2 rfl 6 rfl
     have q7 := h6.cell 2 rfl 7 rfl
     have q8 := h6.cell 2 rfl 8 rfl
     have H6 := qh h6
     clear hi h5 h6 hE
     go_wp2_with fail
     refine aO { Ty.ndOf 26 tp with list := l } (.slice a l.length cap0) ((Prt.Sat.pack (L := [_, _]) (M := [_, _]) (H6.out.pick [1, 3, 0, 2])).pick [2, 0, 1]) (by dsimp only; omega) (fun w5 h8 => ?_)
     have H8 := qh (h8.unpack (i := 0) rfl)
     clear h8
     go_wp2_with fail
     exact HOK.out _ _ _ HE2.out (H8.out.pick [1, 0])
   · have HE2 : Hid (∀ r, (Ty.bnd S fun n => Ty.bnd (Ty.stmts af S f (l ++ [n])) fun l => Ty.addNode { Ty.ndOf 26 tp with list := l }) s = r → Ty.blockM af S st = r) := fun r h => hE.out r (by
       have e : (Ty.bnd (Ty.stmts af S (f + 1) l) fun l => Ty.addNode { Ty.ndOf 26 tp with list := l }) s = (Ty.bnd (Ty.bnd S fun n => Ty.stmts af S f (l ++ [n])) fun l => Ty.addNode { Ty.ndOf 26 tp with list := l }) s := by
         unfold Ty.bnd; rw [Ty.zL hi]; rfl
       rw [e, ← h]
       unfold Ty.bnd
       cases S s with
       | error x => rfl
       | ok x => rfl)
     have h6 : Sat w0 w4 [Fr, aC pb d af s, blk w2.heap.size (nlC 26 0 tp (.slice a l.length cap0)), inA (.slice a l.length cap0) l] := h5.un4
     have c1 := h6.cell 2 rfl 4 rfl
     have HSS := qh (HL.out.s w0 w4.drew _ pb s (h6.drew.at 1 rfl))
     clear hi h5 hE h6
     go_wp2_with fail
     go_region_law (first | (go_simp; go_at_call 76; refine HSS.out _ (fun n s2 w5 hm h2 => ?_) (fun e w5 hm h2 => ?_); rotate_left; (exact ⟨rfl, HBAD.out _ _ (HE2.out _ (by rw [Ty.bnd_err hm])) ((h2.unpack (i := 0) rfl).pick [0])⟩); have h3 : Sat w0 w5 [Fr, aC pb d af s2, blk w2.heap.size (nlC 26 0 tp (.slice a l.length cap0)), inA (.slice a l.length cap0) l] := (Prt.Sat.lI (L := [Fr, aC pb d af s, blk w2.heap.size (nlC 26 0 tp (.slice a l.length cap0)), inA (.slice a l.length cap0) l]) (i := 1) (by simp) h2); have d1 := h3.cell 2 rfl 4 rfl; have d2 := (h3.ay (.cells #[.int .i64 n] 3)).cell 2 rfl 4 rfl; have had := HL.out.as' _ _ _ hm; have H3 := qh h3; have HM := qh hm; clear h2 h3 hm) | (go_loud (refine step_append_lies _ (by rfl) _ _ _ (by rfl) 0 3 i0 _ 1 8 Tryz.underlying39 ti tz0 tz1 tz2 rfl (by omega) (.slice a l.length cap0) l.length (l.map aA) (by rfl) ((H3.out.row 3 rfl).alloc _) ⟨w5.heap.size, 0, none⟩ 1 1 [.int .i64 n] (by rfl) (by rfl) (World.news_of_block (cs := #[.int .i64 n]) (t := 3) (fr := (0, 0)) (ak _ _ _ (by simp))) (by simp [Value.oneCell']) (by omega) (by unfold maxLen; omega) (by omega) (by simp) (w5.heap.size + 1) (by simp) ?_); intro g cap w6 hown3 hgrow3 hat3 hlt3; have h4 := Prt.Sat.grow (H3.out.ay _) 3 rfl hgrow3 hown3 (by simpa using hat3); have d3 := h4.cell 2 rfl 4 rfl; have f3 := h4.free 2 rfl 4; have H4 := qh h4; clear h4))
     all_goals
       clear hown3 hgrow3
       have h7 := (H4.out.store 2 rfl 4 (.slice (some ⟨g, 0, none⟩) (l.length + 1) cap)).ent (i := 3) rfl (Q := inA (.slice (some ⟨g, 0, none⟩) (l.length + 1) cap) (l ++ [n])) (fun _ h => bz h)
       have h7 : Sat w0 _ [Fr, aC pb d af s2, blk w2.heap.size (nlC 26 0 tp (.slice (some ⟨g, 0, none⟩) (l.length + 1) cap)), inA (.slice (some ⟨g, 0, none⟩) (l.length + 1) cap) (l ++ [n])] := h7
       have hp7 := (h7.pick [0, 1]).look.fits.1
       have HPO7 := qh (bD (h7.pick [0, 1]).look)
       have H7 := qh h7
       have HE3 : Hid (∀ r, (Ty.bnd (Ty.stmts af S f (l ++ [n])) fun l => Ty.addNode { Ty.ndOf 26 tp with list := l }) s2 = r → Ty.blockM af S st = r) := fun r h => HE2.out r (by rw [Ty.bnd_ok HM.out]; exact h)
       clear h7
       go_wp2_with fail
       go_roundw
       case rel => exact ⟨f, l ++ [n], s2, _, hp7, by omega, by simp; omega, by omega, H7, HE3⟩
       case measure => rw [HPO.out, HPO7.out]; omega
theorem Prt.Sat.vO {w0 w : World} {Fr P B A X M : As} (h : Sat w0 w [Fr, P, B, A, X, M]) : Sat w0 w [ah [Fr, B, X, M], P, A] := (Prt.Sat.pack (L := [_, _]) (M := [_, _, _, _]) (h.pick [1, 3, 0, 2, 4, 5])).pick [2, 0, 1]
theorem vZ {w0 w : World} {A B : As} {mb : Nat} (h : Sat w0 w [A, B, blk mb (.cells #[.slice none 0 0] 161 (0, 0))]) : Sat w0 w [A, B, mbA mb []] :=
 Prt.Sat.uG (mv := .slice none 0 0) (h.nil 9 1)
theorem nV {w0 w : World} {Fr : As} {pb d : Nat} {af : List Tok.Tk} {st : Ty.St} {T E O S : Ty.M Nat} (L : Lo af d T E O S) (H : Sat w0 w [Fr, aC pb d af st]) (ps : Nat) (hns : st.ns.length ≤ st.pos) {R : Ending → World → Prop}
   (hok : ∀ n s2 w2, Ty.functionM af T S ps st = .ok (n, s2) → Sat w0 w2 [Fr, aC pb d af s2] → R (.returned (.int .i64 (n : Nat))) w2)
   (hbad : ∀ f w2, Ty.functionM af T S ps st = .error f → Sat w0 w2 [Fr] → R (.panicked (aI f)) w2) :
   Calls Tryz.prog 346 #[.pointer (some ⟨pb, 0, none⟩), .int .i64 (ps : Nat)] w R := by
 have HOK := qh hok
 have HBAD := qh hbad
 have HL := qh L
 have hlk := H.look
 have htl := hlk.wf.1
 have hpos := hlk.fits.1
 have h1 : Sat w0 _ [Fr, aC pb d af st, xbA pb w.heap.size] := H.aj (.cells #[.pointer (some ⟨pb, 0, none⟩)] 80) w.heap.size
 have H1 := qh h1
 clear hok hbad H L hlk h1
 go_enter Tryz.func346, Tryz.ntmps346
 go_wp2_with fail
 refine gp _ 6 ps (fun w1 hb1 => ?_)
 have h2 := (((H1.out.below hb1).aj (.cells #[.int .i64 6, .int .i64 0, .int .i64 0, .int .i64 0, .slice none 0 0, .string ⟨#[]⟩, .int .i64 0, .int .i64 (-1), .int .i64 ps] 66) w1.heap.size).aj (.cells #[.slice none 0 0] 161) (w1.heap.size + 1))
 have x2 := h2.cell 2 rfl 0 rfl
 have H2 := qh h2
 clear hb1 h2
 go_wp2_with fail
 refine aZ (H2.out.at 1 rfl) ⟨#[40]⟩ (fun w3 hm h3 => ?_) (fun e w3 hm h3 => ?_)
 rotate_left
 · have HE1 : Hid (Ty.functionM af T S ps st = .error e) := by show _ = _; rw [Ty.functionM, Ty.bnd_err hm]
   have H3 := qh (h3.unpack (i := 0) rfl)
   clear hm h3
   go_wp2_with fail
   exact ⟨rfl, HBAD.out _ _ HE1.out (H3.out.pick [0])⟩
 have HE1 : Hid (∀ r, (Ty.bnd (Ty.list af [41] (fun l => Ty.paramM af T (l.map Prod.fst)) (af.length + 1) []) fun l => Ty.bnd (Ty.written af T) fun t => Ty.bnd (Ty.blockM af S) fun a => Ty.addNode { Ty.ndOf 6 ps with list := l.map Prod.snd, ty := t, a := a }) { st with pos := st.pos + 1 } = r → Ty.functionM af T S ps st = r) := fun r h => by rw [Ty.functionM, Ty.bnd_ok hm]; exact h
 have h4 := (h3.un5).nil 3 1
 have x3 := h4.cell 2 rfl 0 rfl
 have h5 : Sat w0 w3 [ah [Fr, aC pb d af { st with pos := st.pos + 1 }, blk w1.heap.size (nlC 6 0 ps (.slice none 0 0)), inA (.slice none 0 0) [], xbA pb w.heap.size], blk (w1.heap.size + 1) (.cells #[.slice none 0 0] 161 (0, 0))] := (Prt.Sat.pack (L := [_]) (M := [_, _, _, _, _]) (h4.pick [4, 0, 1, 3, 5, 2])).pick [1, 0]
 have h6 : Sat w0 w3 [Fr, aC pb d af { st with pos := st.pos + 1 }, blk w1.heap.size (nlC 6 0 ps (.slice none 0 0)), inA (.slice none 0 0) [], xbA pb w.heap.size, mbA (w1.heap.size + 1) []] := ((vZ (A := ah [Fr, aC pb d af { st with pos := st.pos + 1 }, blk w1.heap.size (nlC 6 0 ps (.slice none 0 0)), inA (.slice none 0 0) [], xbA pb w.heap.size]) (B := fun _ => True) ((h5.fH (P := fun _ => True) (fun _ => trivial)).pick [0, 2, 1])).unpack (i := 0) rfl).pick [2, 3, 4, 5, 6, 1]
 have H6 := qh h6
 clear hm h3 h4 h5 h6 x2
 go_wp2_with fail
 refine iM w0 _ Fr pb d af _ (plA pb w1.heap.size w.heap.size (w1.heap.size + 1) 6 0 ps) (Prt.Sat.oP (l := []) rfl rfl H6.out) ⟨#[41]⟩ 356 _ Tryz.call356 (fun l => Ty.paramM af T (l.map Prod.fst)) (fun _ => Ty.paramM_adv HL.out.at' _) (fun l s w1 h hl R hok hbad => yg w0 w1 Fr pb _ _ _ d af (Ty.paramM af T) (xI HL.out) 6 0 ps l s h hl hok hbad) (fun l s4 w4 hm hl4 h7 => ?_) (fun e w4 hm h7 => ?_)
 rotate_left
 · have HE2 : Hid (Ty.functionM af T S ps st = .error e) := HE1.out _ (by rw [Ty.bnd_err hm])
   have H7 := qh h7
   clear hm h7
   go_wp2_with fail
   exact ⟨rfl, HBAD.out _ _ HE2.out H7.out⟩
 have had := Ty.list_adv (fun l => Ty.paramM_adv HL.out.at' (l.map Prod.fst)) _ _ _ _ _ hm
 dsimp only at had
 have HE2 : Hid (∀ r, (Ty.bnd (Ty.written af T) fun t => Ty.bnd (Ty.blockM af S) fun a => Ty.addNode { Ty.ndOf 6 ps with list := l.map Prod.snd, ty := t, a := a }) s4 = r → Ty.functionM af T S ps st = r) := fun r h => HE1.out r (by rw [Ty.bnd_ok hm]; exact h)
 obtain ⟨v, h8⟩ := h7.oq
 have hlm : (l.map Prod.snd).length ≤ 1001 := by have := (h8.pick [0, 1]).look.fits.1; rw [List.length_map]; omega
 generalize l.map Prod.snd = ns at *
 obtain ⟨va, vc, rfl⟩ := ag (h8.row 3 rfl)
 have x8 := h8.cell 4 rfl 0 rfl
 have H8 := qh h8
 clear hm h7 h8 x3
 go_wp2_with fail
 refine iG HL.out (H8.out.at 1 rfl) (fun t s5 w5 hm h9 => ?_) (fun e w5 hm h9 => ?_)
 rotate_left
 · have HE3 : Hid (Ty.functionM af T S ps st = .error e) := HE2.out _ (by rw [Ty.bnd_err hm])
   have H9 := qh (h9.unpack (i := 0) rfl)
   clear hm h9
   go_wp2_with fail
   exact ⟨rfl, HBAD.out _ _ HE3.out (H9.out.pick [0])⟩
 have had2 := Ty.written_adv HL.out.at' _ _ _ hm
 have HE3 : Hid (∀ r, (Ty.bnd (Ty.blockM af S) fun a => Ty.addNode { Ty.ndOf 6 ps with list := ns, ty := t, a := a }) s5 = r → Ty.functionM af T S ps st = r) := fun r h => HE2.out r (by rw [Ty.bnd_ok hm]; exact h)
 have h10 := h9.un6
 have y7 := h10.cell 2 rfl 7 rfl
 have f7 := h10.free 2 rfl
 have hz7 := h10.lt 2 rfl
 have h11 := h10.store 2 rfl 7 (.int .i64 t)
 have x11 := h11.cell 4 rfl 0 rfl
 have H11 := qh h11
 clear hm h9 h10 h11 x8
 go_wp2_with fail
 refine iY HL.out _ _ _ pb _ (H11.out.at 1 rfl) _ (fun a s6 w6 hm h12 => ?_) (fun e w6 hm h12 => ?_)
 rotate_left
 · have HE4 : Hid (Ty.functionM af T S ps st = .error e) := HE3.out _ (by rw [Ty.bnd_err hm])
   have H12 := qh (h12.unpack (i := 0) rfl)
   clear hm h12
   go_wp2_with fail
   exact ⟨rfl, HBAD.out _ _ HE4.out (H12.out.pick [0])⟩
 have had3 := Ty.blockM_adv HL.out.as' _ _ _ hm
 have HE4 : Hid (Ty.functionM af T S ps st = .ok (s6.ns.length, { s6 with ns := s6.ns ++ [{ Ty.ndOf 6 ps with list := ns, ty := t, a := a }] })) := HE3.out _ (by rw [Ty.bnd_ok hm]; rfl)
 have h13 := h12.un6
 have y1 := h13.cell 2 rfl 1 rfl
 have f1 := h13.free 2 rfl
 have hz1 := h13.lt 2 rfl
 have q0 := h13.cell 2 rfl 0 rfl
 have q2 := h13.cell 2 rfl 2 rfl
 have q3 := h13.cell 2 rfl 3 rfl
 have q4 := h13.cell 2 rfl 4 rfl
 have q5 := h13.cell 2 rfl 5 rfl
 have q6 := h13.cell 2 rfl 6 rfl
 have q7 := h13.cell 2 rfl 7 rfl
 have q8 := h13.cell 2 rfl 8 rfl
 have h14 := h13.store 2 rfl 1 (.int .i64 (a : Nat))
 have x14 := h14.cell 4 rfl 0 rfl
 have H14 := qh h14
 clear hm h12 h13 h14 x11 y7 f7 hz7
 go_wp2_with fail
 refine aO { Ty.ndOf 6 ps with list := ns, ty := t, a := a } (.slice va ns.length vc) (H14.out.vO) (by omega) (fun w7 h15 => ?_)
 have H15 := qh ((h15.unpack (i := 0) rfl).pick [1, 0])
 clear h15
 go_wp2_with fail
 exact HOK.out _ _ _ HE4.out H15.out
end
end Go.Proofs.YtdlbhiaceheffabGreatDoor
