/- Walks of the parser's written, and of what gathers expressions. Walk of the parser's behind. -/
import Derived.Test.YtdlbhiaceheffabGreatDoorS22
set_option linter.all false
set_option maxRecDepth 100000
set_option maxHeartbeats 4000000
namespace Go.Proofs.YtdlbhiaceheffabGreatDoor
section
open Go Go.RowKit
open Prt (Sat As blk pur exs star stars)
def PIn (toks : List Tok.Tk) (d : Nat) (O : Ty.M Nat) : Prop :=
 ∀ (w0 w : World) (Fr : As) (pb : Nat) (st : Ty.St), Sat w0 w [Fr, parA pb d toks st] → ∀ R : Ending → World → Prop,
   (∀ n st2 w2, O st = .ok (n, st2) → Sat w0 w2 [Fr, parA pb d toks st2] → R (.returned (.int .i64 (n : Nat))) w2) →
   (∀ f w2, O st = .error f → Sat w0 w2 [Fr] → R (.panicked (ftChain f)) w2) → Calls Tryz.prog 130 #[.pointer (some ⟨pb, 0, none⟩), .func (.func 319) #[.pointer (some ⟨pb, 0, none⟩)] #[]] w R
structure Lo (toks : List Tok.Tk) (d : Nat) (T E O S : Ty.M Nat) : Prop where
 t : PSpec 120 toks d T
 e : PSpec 209 toks d E
 o : PIn toks d O
 s : PSpec 76 toks d S
 at' : Ty.Adv 1 0 0 T
 ae : Ty.Adv 1 0 0 E
 ao : Ty.Adv 1 0 0 O
 as' : Ty.Adv 1 0 0 S
 pt : Ty.Pre T
 ne : Ty.Nx E
 no : Ty.Nx O
 ns : Ty.Nx S
section
variable {w0 w : World} {Fr : As} {pb d : Nat} {toks : List Tok.Tk} {st : Ty.St} {T E O S : Ty.M Nat}
theorem written_any (L : Lo toks d T E O S) (H : Sat w0 w [Fr, parA pb d toks st]) {R : Ending → World → Prop}
   (hok : ∀ (n : Int) s2 w2, Ty.written toks T st = .ok (n, s2) → Sat w0 w2 [Fr, parA pb d toks s2] → R (.returned (.int .i64 n)) w2)
   (hbad : ∀ f w2, Ty.written toks T st = .error f → Sat w0 w2 [Fr] → R (.panicked (ftChain f)) w2) :
   Calls Tryz.prog 207 #[.pointer (some ⟨pb, 0, none⟩)] w R := by
 have HOK := qh hok
 have HBAD := qh hbad
 have HS := qh H
 have HT := qh L.t
 clear hok hbad H L
 go_enter Tryz.func207, Tryz.ntmps207
 go_wp2_with fail
 refine take_any HS.out ⟨#[58]⟩ (fun w1 hi h1 => ?_) (fun w1 hi h1 => ?_)
 · have HI := qh hi
   have H1 := qh h1
   clear hi h1
   go_wp2_with fail
   refine HT.out _ _ _ pb _ H1.out _ (fun n s2 w2 hm h2 => ?_) (fun e w2 hm h2 => ?_)
   · have HM := qh hm
     have H2 := qh h2
     clear hm h2
     go_wp2_with fail
     exact HOK.out _ _ _ (by rw [Ty.written, Ty.bnd_ok HI.out, if_pos rfl, Ty.bnd_ok HM.out]; rfl) H2.out
   · have HM := qh hm
     have H2 := qh h2
     clear hm h2
     go_wp2_with fail
     exact ⟨rfl, HBAD.out _ _ (by rw [Ty.written, Ty.bnd_ok HI.out, if_pos rfl, Ty.bnd_err HM.out]) H2.out⟩
 · have HI := qh hi
   have H1 := qh h1
   clear hi h1
   go_wp2_with fail
   exact HOK.out (-1) _ _ (by rw [Ty.written, Ty.bnd_ok HI.out, if_neg (by simp)]; rfl) H1.out
end
def nlC (k a p : Int) (lv : Value) : Obj := .cells #[.int .i64 k, .int .i64 a, .int .i64 0, .int .i64 0, lv, .string ⟨#[]⟩, .int .i64 0, .int .i64 (-1), .int .i64 p] 66 (0, 0)
def nlA (pb nb xb : Nat) (k a p : Int) (l : List Nat) : As := exs fun v : Value => stars [blk nb (nlC k a p v), inA v l, xbA pb xb]
theorem Prt.Sat.openNl {w0 w : World} {A B : As} {pb nb xb : Nat} {k a p : Int} {l : List Nat} (H : Sat w0 w [A, B, nlA pb nb xb k a p l]) : ∃ v, Sat w0 w [A, B, blk nb (nlC k a p v), inA v l, xbA pb xb] := by
 obtain ⟨v, hs⟩ := H.ex (i := 2) rfl
 exact ⟨v, hs.unpack (i := 2) rfl⟩
theorem behind1_any (w0 w : World) (Fr : As) (pb nb xb d : Nat) (toks : List Tok.Tk) (E : Ty.M Nat) (hspec : PSpec 209 toks d E) (k0 a0 p0 : Int)
   (l : List Nat) (s : Ty.St) (H : Sat w0 w [Fr, parA pb d toks s, nlA pb nb xb k0 a0 p0 l]) (hl : l.length ≤ s.pos) {R : Ending → World → Prop}
   (hok : ∀ n s2 w2, E s = .ok (n, s2) → Sat w0 w2 [Fr, parA pb d toks s2, nlA pb nb xb k0 a0 p0 (l ++ [n])] → R (.returned (.tuple #[])) w2)
   (hbad : ∀ f w2, E s = .error f → Sat w0 w2 [Fr] → R (.panicked (ftChain f)) w2) :
   Calls Tryz.prog 344 #[.pointer (some ⟨nb, 0, none⟩), .pointer (some ⟨xb, 0, none⟩)] w R := by
 have HOK := qh hok
 have HBAD := qh hbad
 have hlk := H.look3
 have hpos := hlk.fits.1
 have htl := hlk.wf.1
 obtain ⟨v, hs⟩ := H.openNl
 obtain ⟨a, cap0, rfl⟩ := owns_slice (hs.row 3 rfl)
 have c1 := hs.cell 2 rfl 4 rfl
 have c2 := hs.cell 4 rfl 0 rfl
 have HS := qh (hspec w0 w.drew _ pb s (hs.drew.at 1 rfl))
 obtain ⟨i0, ti, tz0, tz1, tz2⟩ := info_parts infoInt
 clear hok hbad hspec H hlk hs
 go_enter Tryz.func344, Tryz.ntmps344
 go_wp2_with fail
 go_region_law (first | (go_simp; go_at_call 209; refine HS.out _ (fun n s2 w2 hm h2 => ?_) (fun f w2 hm h2 => ⟨rfl, HBAD.out _ _ hm ((h2.unpack (i := 0) rfl).pick [0])⟩); have h3 : Sat w0 w2 [Fr, parA pb d toks s2, blk nb (nlC k0 a0 p0 (.slice a l.length cap0)), inA (.slice a l.length cap0) l, xbA pb xb] := (Prt.Sat.back1 (L := [Fr, parA pb d toks s, blk nb (nlC k0 a0 p0 (.slice a l.length cap0)), inA (.slice a l.length cap0) l, xbA pb xb]) (i := 1) (by simp) h2); have d1 := h3.cell 2 rfl 4 rfl; have d2 := (h3.waste (.cells #[.int .i64 n] 3)).cell 2 rfl 4 rfl; have H3 := qh h3; clear h2 h3) | (go_loud (refine step_append_lies _ (by rfl) _ _ _ (by rfl) 0 3 i0 _ 1 8 Tryz.underlying39 ti tz0 tz1 tz2 rfl (by omega) (.slice a l.length cap0) l.length (l.map inCell) (by rfl) ((H3.out.row 3 rfl).alloc _) ⟨w2.heap.size, 0, none⟩ 1 1 [.int .i64 n] (by rfl) (by rfl) (World.news_of_block (cs := #[.int .i64 n]) (t := 3) (fr := (0, 0)) (heap_alloc_at' _ _ _ (by simp))) (by simp [Value.oneCell']) (by omega) (by unfold maxLen; omega) (by omega) (by simp) (w2.heap.size + 1) (by simp) ?_); intro g cap w3 hown3 hgrow3 hat3 hlt3; have h4 := Prt.Sat.grow (H3.out.waste _) 3 rfl hgrow3 hown3 (by simpa using hat3); have d3 := h4.cell 2 rfl 4 rfl; have f3 := h4.free 2 rfl 4; have H4 := qh h4; clear h4))
 all_goals
   clear hown3 hgrow3
   go_wp2_with fail
   go_end0
   exact HOK.out n s2 _ hm (((H4.out.store 2 rfl 4 _).ent (i := 3) rfl (Q := inA (.slice (some ⟨g, 0, none⟩) (l.length + 1) cap) (l ++ [n])) (fun _ h => inA_snoc h) |> Prt.Sat.pack (L := [Fr, parA pb d toks s2])).ent (i := 2) rfl (fun _ h => ⟨_, h⟩))
theorem simple1_any (w0 w : World) (Fr : As) (pb nb xb d : Nat) (toks : List Tok.Tk) (E : Ty.M Nat) (hspec : PSpec 209 toks d E) (k0 a0 p0 : Int)
   (l : List Nat) (s : Ty.St) (H : Sat w0 w [Fr, parA pb d toks s, nlA pb nb xb k0 a0 p0 l]) (hl : l.length ≤ s.pos) {R : Ending → World → Prop}
   (hok : ∀ n s2 w2, E s = .ok (n, s2) → Sat w0 w2 [Fr, parA pb d toks s2, nlA pb nb xb k0 a0 p0 (l ++ [n])] → R (.returned (.tuple #[])) w2)
   (hbad : ∀ f w2, E s = .error f → Sat w0 w2 [Fr] → R (.panicked (ftChain f)) w2) :
   Calls Tryz.prog 347 #[.pointer (some ⟨nb, 0, none⟩), .pointer (some ⟨xb, 0, none⟩)] w R := by
 have HOK := qh hok
 have HBAD := qh hbad
 have hlk := H.look3
 have hpos := hlk.fits.1
 have htl := hlk.wf.1
 obtain ⟨v, hs⟩ := H.openNl
 obtain ⟨a, cap0, rfl⟩ := owns_slice (hs.row 3 rfl)
 have c1 := hs.cell 2 rfl 4 rfl
 have c2 := hs.cell 4 rfl 0 rfl
 have HS := qh (hspec w0 w.drew _ pb s (hs.drew.at 1 rfl))
 obtain ⟨i0, ti, tz0, tz1, tz2⟩ := info_parts infoInt
 clear hok hbad hspec H hlk hs
 go_enter Tryz.func347, Tryz.ntmps347
 go_wp2_with fail
 go_region_law (first | (go_simp; go_at_call 209; refine HS.out _ (fun n s2 w2 hm h2 => ?_) (fun f w2 hm h2 => ⟨rfl, HBAD.out _ _ hm ((h2.unpack (i := 0) rfl).pick [0])⟩); have h3 : Sat w0 w2 [Fr, parA pb d toks s2, blk nb (nlC k0 a0 p0 (.slice a l.length cap0)), inA (.slice a l.length cap0) l, xbA pb xb] := (Prt.Sat.back1 (L := [Fr, parA pb d toks s, blk nb (nlC k0 a0 p0 (.slice a l.length cap0)), inA (.slice a l.length cap0) l, xbA pb xb]) (i := 1) (by simp) h2); have d1 := h3.cell 2 rfl 4 rfl; have d2 := (h3.waste (.cells #[.int .i64 n] 3)).cell 2 rfl 4 rfl; have H3 := qh h3; clear h2 h3) | (go_loud (refine step_append_lies _ (by rfl) _ _ _ (by rfl) 0 3 i0 _ 1 8 Tryz.underlying39 ti tz0 tz1 tz2 rfl (by omega) (.slice a l.length cap0) l.length (l.map inCell) (by rfl) ((H3.out.row 3 rfl).alloc _) ⟨w2.heap.size, 0, none⟩ 1 1 [.int .i64 n] (by rfl) (by rfl) (World.news_of_block (cs := #[.int .i64 n]) (t := 3) (fr := (0, 0)) (heap_alloc_at' _ _ _ (by simp))) (by simp [Value.oneCell']) (by omega) (by unfold maxLen; omega) (by omega) (by simp) (w2.heap.size + 1) (by simp) ?_); intro g cap w3 hown3 hgrow3 hat3 hlt3; have h4 := Prt.Sat.grow (H3.out.waste _) 3 rfl hgrow3 hown3 (by simpa using hat3); have d3 := h4.cell 2 rfl 4 rfl; have f3 := h4.free 2 rfl 4; have H4 := qh h4; clear h4))
 all_goals
   clear hown3 hgrow3
   go_wp2_with fail
   go_end0
   exact HOK.out n s2 _ hm (((H4.out.store 2 rfl 4 _).ent (i := 3) rfl (Q := inA (.slice (some ⟨g, 0, none⟩) (l.length + 1) cap) (l ++ [n])) (fun _ h => inA_snoc h) |> Prt.Sat.pack (L := [Fr, parA pb d toks s2])).ent (i := 2) rfl (fun _ h => ⟨_, h⟩))
end
section
open Go Go.RowKit
open Prt (Sat As blk pur exs star stars)
namespace Ty
def bhA (toks : List Tok.Tk) (T E : M Nat) (f a p : Nat) : M Nat := bnd (list toks [41] (fun _ => E) (toks.length + 1) []) fun l => bnd (addNode { ndOf 7 p with a := a, list := l }) fun m => behind toks T E f m
def bhB (toks : List Tok.Tk) (T E : M Nat) (f a p : Nat) : M Nat := bnd (name toks []) fun x => bnd (addNode { ndOf 8 p with a := a, text := x }) fun m => behind toks T E f m
def bhC (toks : List Tok.Tk) (T E : M Nat) (f a p : Nat) : M Nat := bnd E fun c => bnd (need toks [93]) fun _ => bnd (addNode { ndOf 9 p with a := a, b := c }) fun m => behind toks T E f m
def bhD (toks : List Tok.Tk) (T E : M Nat) (f a p : Nat) : M Nat := bnd T fun t => bnd (addNode { ndOf 14 p with a := a, ty := (t : Int) }) fun m => behind toks T E f m
section
variable {toks : List Tok.Tk} {T E : M Nat} {f a : Nat} {s s1 : St}
theorem bh_a (h : take toks [40] s = .ok (true, s1)) : behind toks T E (f + 1) a s = bhA toks T E f a (ndAt s a).pos s1 := by
 rw [behind]; show bnd _ _ s = _; rw [bnd_ok h]; rfl
theorem bh_b (h0 : take toks [40] s = .ok (false, s)) (h : take toks [46] s = .ok (true, s1)) : behind toks T E (f + 1) a s = bhB toks T E f a (ndAt s a).pos s1 := by
 rw [behind]; show bnd _ _ s = _; rw [bnd_ok h0]; show bnd _ _ s = _; rw [bnd_ok h]; rfl
theorem bh_c (h0 : take toks [40] s = .ok (false, s)) (h1 : take toks [46] s = .ok (false, s)) (h : take toks [91] s = .ok (true, s1)) : behind toks T E (f + 1) a s = bhC toks T E f a (ndAt s a).pos s1 := by
 rw [behind]; show bnd _ _ s = _; rw [bnd_ok h0]; show bnd _ _ s = _; rw [bnd_ok h1]; show bnd _ _ s = _; rw [bnd_ok h]; rfl
theorem bh_d (h0 : take toks [40] s = .ok (false, s)) (h1 : take toks [46] s = .ok (false, s)) (h2 : take toks [91] s = .ok (false, s)) (h : take toks [97, 115] s = .ok (true, s1)) : behind toks T E (f + 1) a s = bhD toks T E f a (ndAt s a).pos s1 := by
 rw [behind]; show bnd _ _ s = _; rw [bnd_ok h0]; show bnd _ _ s = _; rw [bnd_ok h1]; show bnd _ _ s = _; rw [bnd_ok h2]; show bnd _ _ s = _; rw [bnd_ok h]; rfl
theorem bh_e (h0 : take toks [40] s = .ok (false, s)) (h1 : take toks [46] s = .ok (false, s)) (h2 : take toks [91] s = .ok (false, s)) (h3 : take toks [97, 115] s = .ok (false, s)) : behind toks T E (f + 1) a s = .ok (a, s) := by
 rw [behind]; show bnd _ _ s = _; rw [bnd_ok h0]; show bnd _ _ s = _; rw [bnd_ok h1]; show bnd _ _ s = _; rw [bnd_ok h2]; show bnd _ _ s = _; rw [bnd_ok h3]; rfl
end
end Ty
theorem nilRow (w : World) : w.ownsRow 0 9 1 (.slice none 0 0) ([] : List ByteArray).length (([] : List ByteArray).map Value.string) := ⟨rfl, .inl ⟨rfl, rfl⟩⟩
theorem Prt.Sat.nodeOf {w0 w : World} {Fr P X B A : As} (h : Sat w0 w [Fr, P, X, B, A]) : Sat w0 w [stars [Fr, X, B], P, A] := (Prt.Sat.pack (L := [_, _]) (M := [_, _, _]) (h.pick [1, 4, 0, 2, 3])).pick [2, 0, 1]
theorem Prt.Sat.nodeIn {w0 w : World} {Fr P X B : As} (h : Sat w0 w [stars [Fr, X, B], P]) : Sat w0 w [Fr, P, X] := (h.unpack (i := 0) rfl).pick [1, 0, 2]
theorem behind_any {w0 w : World} {Fr : As} {pb d : Nat} {toks : List Tok.Tk} {st : Ty.St} {T E O S : Ty.M Nat} (L : Lo toks d T E O S) (H : Sat w0 w [Fr, parA pb d toks st]) {a0 : Nat} (ha : a0 + 1 = st.ns.length) {R : Ending → World → Prop}
   (hok : ∀ n s2 w2, Ty.behind toks T E (toks.length + 1) a0 st = .ok (n, s2) → Sat w0 w2 [Fr, parA pb d toks s2] → R (.returned (.int .i64 (n : Nat))) w2)
   (hbad : ∀ f w2, Ty.behind toks T E (toks.length + 1) a0 st = .error f → Sat w0 w2 [Fr] → R (.panicked (ftChain f)) w2) :
   Calls Tryz.prog 335 #[.pointer (some ⟨pb, 0, none⟩), .int .i64 (a0 : Nat)] w R := by
 have HOK := qh hok
 have HBAD := qh hbad
 have HL := qh L
 have hlk := H.look
 have htl := hlk.wf.1
 have hpos := hlk.fits.1
 have h1 : Sat w0 _ [Fr, parA pb d toks st, xbA pb w.heap.size] := H.allocAt (.cells #[.pointer (some ⟨pb, 0, none⟩)] 80) w.heap.size
 have H1 := qh h1
 clear hok hbad H L hlk h1
 go_enter Tryz.func335, Tryz.ntmps335
 go_wp2_with fail
 go_loopw [1] (fun v wr => ∃ (f a : Nat) (s : Ty.St), v = .int .i64 a ∧ s.pos < toks.length ∧ toks.length < s.pos + f ∧ a + 1 = s.ns.length ∧ Hid (Sat w0 wr [Fr, parA pb d toks s, xbA pb w.heap.size]) ∧ Hid (∀ r, Ty.behind toks T E f a s = r → Ty.behind toks T E (toks.length + 1) a0 st = r))
   (fun _ wr => toks.length - posOf pb wr)
 case atStart => exact ⟨toks.length + 1, a0, st, rfl, hpos, by omega, ha, H1.out, fun r h => h⟩
 case round =>
   obtain ⟨f, a, s, rfl, hp, hf, hn, hS, hE⟩ := hrel
   obtain ⟨f, rfl⟩ : ∃ g, f = g + 1 := ⟨f - 1, by omega⟩
   have HPO := qh (posOf_eq (hS.out.pick [0, 1]).look)
   have hfit := (hS.out.pick [0, 1]).look.fits.2.2
   have x0 := hS.out.cell 2 rfl 0 rfl
   go_wp2_with fail
   refine start_any (hS.out.at 1 rfl) (by omega) ?_
   have HB := qh hE.out
   obtain ⟨ps, hps⟩ : ∃ ps, (Ty.ndAt s a).pos = ps := ⟨_, rfl⟩
   rw [hps]
   have HPS := qh hps
   clear hps hE
   go_wp2_with fail
   refine of_any wr 0 ps (fun w1 hb1 => ?_)
   have h1 := (hS.out.below hb1).allocAt (.cells #[.int .i64 0, .int .i64 a, .int .i64 0, .int .i64 0, .slice none 0 0, .string ⟨#[]⟩, .int .i64 0, .int .i64 (-1), .int .i64 ps] 66) w1.heap.size
   have x1 := (hS.out.below hb1).cell 2 rfl 0 rfl
   have z1 := h1.cell 2 rfl 0 rfl
   have hne := h1.ne 2 3 (by decide) rfl rfl
   have H1 := qh h1
   clear hb1 x0 h1
   go_wp2_with fail
   refine take_any (H1.out.at 1 rfl) ⟨#[40]⟩ (fun w2 hi h2 => ?_) (fun w2 hi h2 => ?_)
   · have h3 := h2.un4
     have y0 := h3.cell 3 rfl 0 rfl
     have fz := h3.free 3 rfl
     have hz := h3.lt 3 rfl
     have z2 := h3.cell 2 rfl 0 rfl
     have HE2 : Hid (Ty.behind toks T E (toks.length + 1) a0 st = Ty.bhA toks T E f a ps { s with pos := s.pos + 1 }) := HB.out _ (by rw [Ty.bh_a hi, HPS.out])
     have H3 := qh h3
     clear hi h2 h3 z1
     go_wp2_with fail
     have h4 := H3.out.store 3 rfl 0 (.int .i64 7)
     have h5 : Sat w0 _ [Fr, parA pb d toks { s with pos := s.pos + 1 }, nlA pb w1.heap.size w.heap.size 7 a ps []] := (Prt.Sat.pack (L := [_, _]) (M := [_, _, _]) ((h4.nil 3 1).pick [0, 1, 3, 4, 2])).ent (i := 2) rfl (fun _ h => ⟨_, h⟩)
     refine list_any w0 _ Fr pb d toks _ (nlA pb w1.heap.size w.heap.size 7 a ps) h5 ⟨#[41]⟩ 344 _ Tryz.call344 (fun _ => E) (fun _ => HL.out.ae) (fun l s w1 h hl R hok hbad => behind1_any w0 w1 Fr pb _ _ d toks E HL.out.e 7 a ps l s h hl hok hbad) (fun l s4 w4 hm hl4 h6 => ?_) (fun e w4 hm h6 => ?_)
     · have had := Ty.list_adv (fun _ => HL.out.ae) _ _ _ _ _ hm
       dsimp only at had
       obtain ⟨v, h7⟩ := h6.openNl
       obtain ⟨va, vc, rfl⟩ := owns_slice (h7.row 3 rfl)
       have q0 := h7.cell 2 rfl 0 rfl
       have q1 := h7.cell 2 rfl 1 rfl
       have q2 := h7.cell 2 rfl 2 rfl
       have q3 := h7.cell 2 rfl 3 rfl
       have q4 := h7.cell 2 rfl 4 rfl
       have q5 := h7.cell 2 rfl 5 rfl
       have q6 := h7.cell 2 rfl 6 rfl
       have q7 := h7.cell 2 rfl 7 rfl
       have q8 := h7.cell 2 rfl 8 rfl
       have zx := h7.cell 4 rfl 0 rfl
       have HE3 : Hid (Ty.behind toks T E (toks.length + 1) a0 st = Ty.bnd (Ty.addNode { Ty.ndOf 7 ps with a := a, list := l }) (fun m => Ty.behind toks T E f m) s4) := HE2.out.trans (by rw [Ty.bhA, Ty.bnd_ok hm])
       have H7 := qh h7
       clear hm h6 h7 h4 h5 z2 y0 fz hz
       go_wp2_with fail
       refine node_any { Ty.ndOf 7 ps with a := a, list := l } (.slice va l.length vc) ((H7.out.pick [0, 1, 4, 2, 3]).nodeOf) (by omega) (fun w5 h8 => ?_)
       have h6 := h8.nodeIn
       have hp6 := (h6.pick [0, 1]).look.fits.1
       have HPO6 := qh (posOf_eq (h6.pick [0, 1]).look)
       have H6 := qh h6
       have HE6 : Hid (∀ r, Ty.behind toks T E f s4.ns.length { s4 with ns := s4.ns ++ [{ Ty.ndOf 7 ps with a := a, list := l }] } = r → Ty.behind toks T E (toks.length + 1) a0 st = r) := fun r h => HE3.out.trans h
       clear h8 h6
       go_wp2_with fail
       go_roundw
       case rel => exact ⟨f, s4.ns.length, { s4 with ns := s4.ns ++ [{ Ty.ndOf 7 ps with a := a, list := l }] }, rfl, hp6, by first | omega | (dsimp only; omega), by simp, H6, HE6⟩
       case measure => rw [HPO.out, HPO6.out]; first | omega | (dsimp only; omega) | (dsimp only at *; omega)
     · have HE3 : Hid (Ty.behind toks T E (toks.length + 1) a0 st = .error e) := HE2.out.trans (by rw [Ty.bhA, Ty.bnd_err hm])
       have H6 := qh h6
       clear hm h6 h4 h5
       go_wp2_with fail
       exact ⟨rfl, HBAD.out _ _ HE3.out H6.out⟩
   · have h3 := h2.un4
     have z2 := h3.cell 2 rfl 0 rfl
     have HA := qh hi
     have H3 := qh h3
     clear hi h2 h3 z1
     go_wp2_with fail
     refine take_any (H3.out.at 1 rfl) ⟨#[46]⟩ (fun w3 hi h2 => ?_) (fun w3 hi h2 => ?_)
     · have h3 := h2.un4
       have z3 := h3.cell 2 rfl 0 rfl
       have HE2 : Hid (Ty.behind toks T E (toks.length + 1) a0 st = Ty.bhB toks T E f a ps { s with pos := s.pos + 1 }) := HB.out _ (by rw [Ty.bh_b HA.out hi, HPS.out])
       have H4 := qh h3
       clear hi h2 h3 z2
       go_wp2_with fail
       refine pname_any (H4.out.at 1 rfl) _ [] (nilRow _) (by simp) (fun x w4 hm h5 => ?_) (fun e w4 hm h5 => ?_)
       · have h7 := h5.un4
         have y0 := h7.cell 3 rfl 0 rfl
         have y5 := h7.cell 3 rfl 5 rfl
         have fz := h7.free 3 rfl
         have hz := h7.lt 3 rfl
         have q1 := h7.cell 3 rfl 1 rfl
         have q2 := h7.cell 3 rfl 2 rfl
         have q3 := h7.cell 3 rfl 3 rfl
         have q4 := h7.cell 3 rfl 4 rfl
         have q6 := h7.cell 3 rfl 6 rfl
         have q7 := h7.cell 3 rfl 7 rfl
         have q8 := h7.cell 3 rfl 8 rfl
         have zx := h7.cell 2 rfl 0 rfl
         have HE3 : Hid (Ty.behind toks T E (toks.length + 1) a0 st = Ty.bnd (Ty.addNode { Ty.ndOf 8 ps with a := a, text := x }) (fun m => Ty.behind toks T E f m) { s with pos := s.pos + 1 + 1 }) := HE2.out.trans (by rw [Ty.bhB, Ty.bnd_ok hm])
         have H7 := qh (((h7.store 3 rfl 0 (.int .i64 8)).store 3 rfl 5 (.string x)).nil 3 1)
         clear hm h5 h7 z3
         go_wp2_with fail
         refine node_any { Ty.ndOf 8 ps with a := a, text := x } (.slice none 0 0) (H7.out.nodeOf) (by first | omega | (dsimp only; omega)) (fun w5 h8 => ?_)
         have h6 := h8.nodeIn
         have hp6 := (h6.pick [0, 1]).look.fits.1
         have HPO6 := qh (posOf_eq (h6.pick [0, 1]).look)
         have H6 := qh h6
         have HE6 : Hid (∀ r, Ty.behind toks T E f s.ns.length { s with pos := s.pos + 1 + 1, ns := s.ns ++ [{ Ty.ndOf 8 ps with a := a, text := x }] } = r → Ty.behind toks T E (toks.length + 1) a0 st = r) := fun r h => HE3.out.trans h
         clear h8 h6
         go_wp2_with fail
         go_roundw
         case rel => exact ⟨f, s.ns.length, { s with pos := s.pos + 1 + 1, ns := s.ns ++ [{ Ty.ndOf 8 ps with a := a, text := x }] }, rfl, hp6, by first | omega | (dsimp only; omega), by simp, H6, HE6⟩
         case measure => rw [HPO.out, HPO6.out]; first | omega | (dsimp only; omega) | (dsimp only at *; omega)
       · have HE3 : Hid (Ty.behind toks T E (toks.length + 1) a0 st = .error e) := HE2.out.trans (by rw [Ty.bhB, Ty.bnd_err hm])
         have H6 := qh (h5.unpack (i := 0) rfl)
         clear hm h5
         go_wp2_with fail
         exact ⟨rfl, HBAD.out _ _ HE3.out (H6.out.pick [0])⟩
     · have h3 := h2.un4
       have z3 := h3.cell 2 rfl 0 rfl
       have HA2 := qh hi
       have H4 := qh h3
       clear hi h2 h3 z2
       go_wp2_with fail
       refine take_any (H4.out.at 1 rfl) ⟨#[91]⟩ (fun w4 hi h2 => ?_) (fun w4 hi h2 => ?_)
       · have h3 := h2.un4
         have z4 := h3.cell 2 rfl 0 rfl
         have HE2 : Hid (Ty.behind toks T E (toks.length + 1) a0 st = Ty.bhC toks T E f a ps { s with pos := s.pos + 1 }) := HB.out _ (by rw [Ty.bh_c HA.out HA2.out hi, HPS.out])
         have H5 := qh h3
         clear hi h2 h3 z3
         go_wp2_with fail
         refine HL.out.e _ _ _ pb _ (H5.out.at 1 rfl) _ (fun c s5 w5 hm h5 => ?_) (fun e w5 hm h5 => ?_)
         · have had := HL.out.ae _ _ _ hm
           dsimp only at had
           have h7 := h5.un4
           have y0 := h7.cell 3 rfl 0 rfl
           have y2 := h7.cell 3 rfl 2 rfl
           have fz := h7.free 3 rfl
           have hz := h7.lt 3 rfl
           have zx := h7.cell 2 rfl 0 rfl
           have HE3 : Hid (Ty.behind toks T E (toks.length + 1) a0 st = Ty.bnd (Ty.need toks [93]) (fun _ => Ty.bnd (Ty.addNode { Ty.ndOf 9 ps with a := a, b := c }) fun m => Ty.behind toks T E f m) s5) := HE2.out.trans (by rw [Ty.bhC, Ty.bnd_ok hm])
           have H7 := qh ((h7.store 3 rfl 0 (.int .i64 9)).store 3 rfl 2 (.int .i64 (c : Nat)))
           clear hm h5 h7 z4
           go_wp2_with fail
           refine need_any (H7.out.at 1 rfl) ⟨#[93]⟩ (fun w6 hi h2 => ?_) (fun e w6 hi h2 => ?_)
           · have h7 := (h2.un4).nil 3 1
             have q0 := h7.cell 3 rfl 0 rfl
             have q1 := h7.cell 3 rfl 1 rfl
             have q2 := h7.cell 3 rfl 2 rfl
             have q3 := h7.cell 3 rfl 3 rfl
             have q4 := h7.cell 3 rfl 4 rfl
             have q5 := h7.cell 3 rfl 5 rfl
             have q6 := h7.cell 3 rfl 6 rfl
             have q7 := h7.cell 3 rfl 7 rfl
             have q8 := h7.cell 3 rfl 8 rfl
             have zx := h7.cell 2 rfl 0 rfl
             have HE4 : Hid (Ty.behind toks T E (toks.length + 1) a0 st = Ty.bnd (Ty.addNode { Ty.ndOf 9 ps with a := a, b := c }) (fun m => Ty.behind toks T E f m) { s5 with pos := s5.pos + 1 }) := HE3.out.trans (by rw [Ty.bnd_ok hi])
             have H8 := qh h7
             clear hi h2 h7 y0 y2 fz hz
             go_wp2_with fail
             refine node_any { Ty.ndOf 9 ps with a := a, b := c } (.slice none 0 0) (H8.out.nodeOf) (by first | omega | (dsimp only; omega)) (fun w5 h8 => ?_)
             have h6 := h8.nodeIn
             have hp6 := (h6.pick [0, 1]).look.fits.1
             have HPO6 := qh (posOf_eq (h6.pick [0, 1]).look)
             have H6 := qh h6
             have HE6 : Hid (∀ r, Ty.behind toks T E f s5.ns.length { s5 with pos := s5.pos + 1, ns := s5.ns ++ [{ Ty.ndOf 9 ps with a := a, b := c }] } = r → Ty.behind toks T E (toks.length + 1) a0 st = r) := fun r h => HE4.out.trans h
             clear h8 h6
             go_wp2_with fail
             go_roundw
             case rel => exact ⟨f, s5.ns.length, { s5 with pos := s5.pos + 1, ns := s5.ns ++ [{ Ty.ndOf 9 ps with a := a, b := c }] }, rfl, hp6, by first | omega | (dsimp only; omega), by simp, H6, HE6⟩
             case measure => rw [HPO.out, HPO6.out]; first | omega | (dsimp only; omega) | (dsimp only at *; omega)
           · have HE4 : Hid (Ty.behind toks T E (toks.length + 1) a0 st = .error e) := HE3.out.trans (by rw [Ty.bnd_err hi])
             have H6 := qh (h2.unpack (i := 0) rfl)
             clear hi h2
             go_wp2_with fail
             exact ⟨rfl, HBAD.out _ _ HE4.out (H6.out.pick [0])⟩
         · have HE3 : Hid (Ty.behind toks T E (toks.length + 1) a0 st = .error e) := HE2.out.trans (by rw [Ty.bhC, Ty.bnd_err hm])
           have H6 := qh (h5.unpack (i := 0) rfl)
           clear hm h5
           go_wp2_with fail
           exact ⟨rfl, HBAD.out _ _ HE3.out (H6.out.pick [0])⟩
       · have h3 := h2.un4
         have z4 := h3.cell 2 rfl 0 rfl
         have HA3 := qh hi
         have H5 := qh h3
         clear hi h2 h3 z3
         go_wp2_with fail
         refine take_any (H5.out.at 1 rfl) ⟨#[97, 115]⟩ (fun w5 hi h2 => ?_) (fun w5 hi h2 => ?_)
         · have h3 := h2.un4
           have z5 := h3.cell 2 rfl 0 rfl
           have HE2 : Hid (Ty.behind toks T E (toks.length + 1) a0 st = Ty.bhD toks T E f a ps { s with pos := s.pos + 1 }) := HB.out _ (by rw [Ty.bh_d HA.out HA2.out HA3.out hi, HPS.out])
           have H6 := qh h3
           clear hi h2 h3 z4
           go_wp2_with fail
           refine HL.out.t _ _ _ pb _ (H6.out.at 1 rfl) _ (fun c s6 w6 hm h5 => ?_) (fun e w6 hm h5 => ?_)
           · have had := HL.out.at' _ _ _ hm
             dsimp only at had
             have h7 := h5.un4
             have y0 := h7.cell 3 rfl 0 rfl
             have y7 := h7.cell 3 rfl 7 rfl
             have fz := h7.free 3 rfl
             have hz := h7.lt 3 rfl
             have q1 := h7.cell 3 rfl 1 rfl
             have q2 := h7.cell 3 rfl 2 rfl
             have q3 := h7.cell 3 rfl 3 rfl
             have q4 := h7.cell 3 rfl 4 rfl
             have q5 := h7.cell 3 rfl 5 rfl
             have q6 := h7.cell 3 rfl 6 rfl
             have q8 := h7.cell 3 rfl 8 rfl
             have zx := h7.cell 2 rfl 0 rfl
             have HE3 : Hid (Ty.behind toks T E (toks.length + 1) a0 st = Ty.bnd (Ty.addNode { Ty.ndOf 14 ps with a := a, ty := (c : Int) }) (fun m => Ty.behind toks T E f m) s6) := HE2.out.trans (by rw [Ty.bhD, Ty.bnd_ok hm])
             have H7 := qh (((h7.store 3 rfl 0 (.int .i64 14)).store 3 rfl 7 (.int .i64 (c : Nat))).nil 3 1)
             clear hm h5 h7 z5
             go_wp2_with fail
             refine node_any { Ty.ndOf 14 ps with a := a, ty := (c : Int) } (.slice none 0 0) (H7.out.nodeOf) (by first | omega | (dsimp only; omega)) (fun w5 h8 => ?_)
             have h6 := h8.nodeIn
             have hp6 := (h6.pick [0, 1]).look.fits.1
             have HPO6 := qh (posOf_eq (h6.pick [0, 1]).look)
             have H6 := qh h6
             have HE6 : Hid (∀ r, Ty.behind toks T E f s6.ns.length { s6 with ns := s6.ns ++ [{ Ty.ndOf 14 ps with a := a, ty := (c : Int) }] } = r → Ty.behind toks T E (toks.length + 1) a0 st = r) := fun r h => HE3.out.trans h
             clear h8 h6
             go_wp2_with fail
             go_roundw
             case rel => exact ⟨f, s6.ns.length, { s6 with ns := s6.ns ++ [{ Ty.ndOf 14 ps with a := a, ty := (c : Int) }] }, rfl, hp6, by first | omega | (dsimp only; omega), by simp, H6, HE6⟩
             case measure => rw [HPO.out, HPO6.out]; first | omega | (dsimp only; omega) | (dsimp only at *; omega)
           · have HE3 : Hid (Ty.behind toks T E (toks.length + 1) a0 st = .error e) := HE2.out.trans (by rw [Ty.bhD, Ty.bnd_err hm])
             have H6 := qh (h5.unpack (i := 0) rfl)
             clear hm h5
             go_wp2_with fail
             exact ⟨rfl, HBAD.out _ _ HE3.out (H6.out.pick [0])⟩
         · have HE2 : Hid (Ty.behind toks T E (toks.length + 1) a0 st = .ok (a, s)) := HB.out _ (Ty.bh_e HA.out HA2.out HA3.out hi)
           have H6 := qh h2.un4
           clear hi h2
           go_wp2_with fail
           exact HOK.out _ _ _ HE2.out (H6.out.pick [0, 1])
end
end Go.Proofs.YtdlbhiaceheffabGreatDoor
