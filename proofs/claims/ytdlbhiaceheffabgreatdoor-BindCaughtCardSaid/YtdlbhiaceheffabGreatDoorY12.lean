/- Walks of the parser's round and what it gathers. -/
import Derived.Outline
import Derived.Defers
import Derived.Recover
import Derived.Test.YtdlbhiaceheffabGreatDoorY08
set_option linter.all false
set_option maxRecDepth 100000
set_option maxHeartbeats 2000000
namespace Go.Proofs.YtdlbhiaceheffabGreatDoor
section
open Go Go.RowKit
open Prt (Sat As blk pur exs star ah)
def cO (F : FuncId) (af : List Tok.Tk) (d : Nat) (m : Ty.M Nat) : Prop :=
 ∀ (w0 w : World) (Fr : As) (pb : Nat) (st : Ty.St), Sat w0 w [Fr, aC pb d af st] → ∀ R : Ending → World → Prop,
   (∀ n st2 w2, m st = .ok (n, st2) → Sat w0 w2 [Fr, aC pb d af st2] → R (.returned (.int .i64 (n : Nat))) w2) →
   (∀ f w2, m st = .error f → Sat w0 w2 [Fr] → R (.panicked (aI f)) w2) → Calls Tryz.prog F #[.pointer (some ⟨pb, 0, none⟩)] w R
theorem bY : (Tryz.prog.info? 3).map (fun i => (i.zero, i.size, i.bytes)) = some (some (.int .i64 0), 1, 8) := by kernel_rfl
def xbA (pb xb : Nat) : As := blk xb (.cells #[.pointer (some ⟨pb, 0, none⟩)] 80 (0, 0))
def lbA (lb : Nat) (v : Value) : As := blk lb (.cells #[v] 39 (0, 0))
def yR (pb lb xb : Nat) (l : List Nat) : As := exs fun v : Value => ah [lbA lb v, inA v l, xbA pb xb]
theorem bz {v : Value} {l : List Nat} {n : Nat} {a : Prt.Hp} (h : Prt.row 3 1 v (l.length + 1) (l.map aA ++ [.int .i64 (n : Nat)]) a) : inA v (l ++ [n]) a := by
 unfold inA
 rw [List.length_append, List.map_append]; exact h
theorem uz (w0 w : World) (Fr : As) (pb lb xb d : Nat) (af : List Tok.Tk) (T : Ty.M Nat) (hspec : cO 120 af d T) (_ : Ty.Adv 1 0 0 T)
   (l : List Nat) (s : Ty.St) (H : Sat w0 w [Fr, aC pb d af s, yR pb lb xb l]) (hl : l.length ≤ s.pos) {R : Ending → World → Prop}
   (hok : ∀ n s2 w2, T s = .ok (n, s2) → Sat w0 w2 [Fr, aC pb d af s2, yR pb lb xb (l ++ [n])] → R (.returned (.tuple #[])) w2)
   (hbad : ∀ f w2, T s = .error f → Sat w0 w2 [Fr] → R (.panicked (aI f)) w2) :
   Calls Tryz.prog 314 #[.pointer (some ⟨lb, 0, none⟩), .pointer (some ⟨xb, 0, none⟩)] w R := by
 have HOK := qh hok
 have HBAD := qh hbad
 have hlk := H.jH
 have hpos := hlk.fits.1
 have htl := hlk.wf.1
 obtain ⟨v, hs⟩ := H.ex (i := 2) rfl
 have hs : Sat w0 w [Fr, aC pb d af s, lbA lb v, inA v l, xbA pb xb] := hs.unpack (i := 2) rfl
 obtain ⟨a, cap0, rfl⟩ := ag (hs.row 3 rfl)
 have c1 := hs.cell 2 rfl 0 rfl
 have c2 := hs.cell 4 rfl 0 rfl
 have HS := qh (hspec w0 w.drew _ pb s (hs.drew.at 1 rfl))
 obtain ⟨i0, ti, tz0, tz1, tz2⟩ := info_parts bY
 clear hok hbad hspec H hlk hs
 go_enter Tryz.func314, Tryz.ntmps314
 go_wp2_with fail
 go_region_law (first | (go_simp; go_at_call 120; refine HS.out _ (fun n s2 w2 hm h2 => ?_) (fun f w2 hm h2 => ⟨rfl, HBAD.out _ _ hm ((h2.unpack (i := 0) rfl).pick [0])⟩); have h3 : Sat w0 w2 [Fr, aC pb d af s2, lbA lb (.slice a l.length cap0), inA (.slice a l.length cap0) l, xbA pb xb] := (Prt.Sat.lI (L := [Fr, aC pb d af s, lbA lb (.slice a l.length cap0), inA (.slice a l.length cap0) l, xbA pb xb]) (i := 1) (by simp) h2); have d1 := h3.cell 2 rfl 0 rfl; have d2 := (h3.ay (.cells #[.int .i64 n] 3)).cell 2 rfl 0 rfl; have H3 := qh h3; clear h2 h3) | (go_loud (refine step_append_lies _ (by rfl) _ _ _ (by rfl) 0 3 i0 _ 1 8 Tryz.underlying39 ti tz0 tz1 tz2 rfl (by omega) (.slice a l.length cap0) l.length (l.map aA) (by rfl) ((H3.out.row 3 rfl).alloc _) ⟨w2.heap.size, 0, none⟩ 1 1 [.int .i64 n] (by rfl) (by rfl) (World.news_of_block (cs := #[.int .i64 n]) (t := 3) (fr := (0, 0)) (ak _ _ _ (by simp))) (by simp [Value.oneCell']) (by omega) (by unfold maxLen; omega) (by omega) (by simp) (w2.heap.size + 1) (by simp) ?_); intro g cap w3 hown3 hgrow3 hat3 hlt3; have h4 := Prt.Sat.grow (H3.out.ay _) 3 rfl hgrow3 hown3 (by simpa using hat3); have d3 := h4.cell 2 rfl 0 rfl; have f3 := h4.free 2 rfl 0; have H4 := qh h4; clear h4))
 all_goals
   clear hown3 hgrow3
   go_wp2_with fail
   go_end0
   exact HOK.out n s2 _ hm (((H4.out.store 2 rfl 0 _).ent (i := 3) rfl (Q := inA (.slice (some ⟨g, 0, none⟩) (l.length + 1) cap) (l ++ [n])) (fun _ h => bz h) |> Prt.Sat.pack (L := [Fr, aC pb d af s2])).ent (i := 2) rfl (fun _ h => ⟨_, h⟩))
theorem Prt.Sat.Ae {w0 w : World} {A B : As} {pb lb xb : Nat} {l : List Nat} (H : Sat w0 w [A, B, yR pb lb xb l]) : ∃ v, Sat w0 w [A, B, lbA lb v, inA v l, xbA pb xb] := by
 obtain ⟨v, hs⟩ := H.ex (i := 2) rfl
 exact ⟨v, hs.unpack (i := 2) rfl⟩
theorem xC {af : List Tok.Tk} {d : Nat} {T : Ty.M Nat} (hspec : cO 120 af d T) (hT : Ty.Adv 1 0 0 T) : cO 267 af d (Ty.round af T) := by
 intro w0 w Fr pb st H R hok hbad
 have HOK := qh hok
 have HBAD := qh hbad
 have HSP := qh hspec
 have HT := qh hT
 have hlk := H.look
 have hpos := hlk.fits.1
 have hfit := hlk.fits.2.2.1
 have htl := hlk.wf.1
 have HS := qh H
 clear hok hbad hspec hT H hlk
 go_enter Tryz.func267, Tryz.ntmps267
 go_wp2_with fail
 have h1 := ((HS.out.aj (.cells #[.pointer (some ⟨pb, 0, none⟩)] 80) w.heap.size).aj (.cells #[.slice none 0 0] 39) (w.heap.size + 1)).nil 3 1
 have h2 : Sat w0 _ [Fr, aC pb d af st, yR pb (w.heap.size + 1) w.heap.size []] := (Prt.Sat.pack (L := [Fr, aC pb d af st]) (h1.pick [0, 1, 3, 4, 2])).ent (i := 2) rfl (fun _ h => ⟨_, h⟩)
 refine iM w0 _ Fr pb d af st (yR pb (w.heap.size + 1) w.heap.size) h2 ⟨#[41]⟩ 314 _ Tryz.call314 (fun _ => T) (fun _ => HT.out)
   (fun l s w1 h hl R hok hbad => uz w0 w1 Fr pb _ _ d af T HSP.out HT.out l s h hl hok hbad) (fun l s1 w1 hm1 hl1 h3 => ?_) (fun f w1 hm1 h3 => ?_)
 · clear h1 h2
   have had := Ty.list_adv (fun _ => HT.out) _ _ _ _ _ hm1
   obtain ⟨v, h3⟩ := h3.Ae
   obtain ⟨a, cap0, rfl⟩ := ag (h3.row 3 rfl)
   have hlk := h3.pick [0, 1] |>.look
   have hp1 := hlk.fits.1
   have x1 := h3.cell 4 rfl 0 rfl
   have HM1 := qh hm1
   have H3 := qh h3
   have HAD := qh had
   clear hm1 h3 hlk had
   go_wp2_with fail
   refine take_any (H3.out.at 1 rfl) ⟨#[61, 62]⟩ (fun w2 hm2 h4 => ?_) (fun w2 hm2 h4 => ?_)
   · have h5 : Sat w0 w2 [Fr, aC pb d af { s1 with pos := s1.pos + 1 }, lbA (w.heap.size + 1) (.slice a l.length cap0), inA (.slice a l.length cap0) l, xbA pb w.heap.size] := Prt.Sat.lI (L := [Fr, aC pb d af s1, lbA (w.heap.size + 1) (.slice a l.length cap0), inA (.slice a l.length cap0) l, xbA pb w.heap.size]) (i := 1) (by simp) h4
     have x2 := h5.cell 4 rfl 0 rfl
     have y2 := h5.cell 2 rfl 0 rfl
     have H5 := qh (HSP.out w0 w2.drew _ pb _ (h5.drew.at 1 rfl))
     have HM2 := qh hm2
     clear h4 h5 hm2
     go_wp2_with fail
     go_region_law (first | (go_simp; go_at_call 120; refine H5.out _ (fun n s3 w3 hm3 h6 => ?_) (fun f w3 hm3 h6 => ?_); rotate_left; (exact ⟨rfl, HBAD.out _ _ (by rw [Ty.round, Ty.bnd_ok HM1.out, Ty.bnd_ok HM2.out, if_pos rfl, Ty.bnd_err hm3]) ((h6.unpack (i := 0) rfl).pick [0])⟩); have h7 : Sat w0 w3 [Fr, aC pb d af s3, lbA (w.heap.size + 1) (.slice a l.length cap0), inA (.slice a l.length cap0) l, xbA pb w.heap.size] := Prt.Sat.lI (L := [Fr, aC pb d af s1, lbA (w.heap.size + 1) (.slice a l.length cap0), inA (.slice a l.length cap0) l, xbA pb w.heap.size]) (i := 1) (by simp) h6; have x3 := h7.cell 4 rfl 0 rfl; have y3 := h7.cell 2 rfl 0 rfl; have H7 := qh h7; have HM3 := qh hm3; clear h6 h7 hm3) | (go_simp; go_at_call 187; refine fG ⟨9, [], l, n⟩ (.slice none 0 0) (.slice a l.length cap0) ((H7.out.nil 141 2).pick [0, 1, 5, 3]) (by have := HAD.out; have := HT.out _ _ _ HM3.out; dsimp only at *; omega) (fun w4 h8 => ?_)))
     all_goals
       go_wp2_with fail
       exact HOK.out _ _ _ (by rw [Ty.round, Ty.bnd_ok HM1.out, Ty.bnd_ok HM2.out, if_pos rfl, Ty.bnd_ok HM3.out]; rfl) h8
   · have h5 : Sat w0 w2 [Fr, aC pb d af s1, lbA (w.heap.size + 1) (.slice a l.length cap0), inA (.slice a l.length cap0) l, xbA pb w.heap.size] := Prt.Sat.lI (L := [Fr, aC pb d af s1, lbA (w.heap.size + 1) (.slice a l.length cap0), inA (.slice a l.length cap0) l, xbA pb w.heap.size]) (i := 1) (by simp) h4
     have x2 := h5.cell 4 rfl 0 rfl
     have y2 := h5.cell 2 rfl 0 rfl
     have H5 := qh h5
     have HM2 := qh hm2
     clear h4 h5 hm2
     by_cases hl : l.length = 1
     · obtain ⟨n, rfl⟩ := List.length_eq_one_iff.1 hl
       have hn := H5.out.row 3 rfl
       obtain ⟨g, cap, e, _, _⟩ := hn.form (by simp)
       cases e
       have z2 : w2.cell? ⟨g, 0, none⟩ = some (.int .i64 n) := by have := World.ownsRow.cells hn (g := g) rfl 0 _ rfl; rwa [Addr.add_lit] at this
       clear hn hl
       go_wp2_with fail
       exact HOK.out _ _ _ (by rw [Ty.round, Ty.bnd_ok HM1.out, Ty.bnd_ok HM2.out]; rfl) (H5.out.pick [0, 1])
     · have hl2 : ((l.length : Int) != 1) = true := by simp; omega
       have HL := qh hl
       clear hl
       go_wp2_with fail
       refine gK w2 pb d af s1 (H5.out.pick [0, 1]).look 1 (fun w3 hb => ?_)
       have HB := qh (H5.out.below hb)
       clear hb
       go_wp2_with fail
       exact ⟨rfl, HBAD.out _ _ (by rw [Ty.round, Ty.bnd_ok HM1.out, Ty.bnd_ok HM2.out, if_neg (by simp), if_neg HL.out]; rfl) (HB.out.pick [0])⟩
 · clear h1 h2
   have HM1 := qh hm1
   have H3 := qh h3
   clear hm1 h3
   go_wp2_with fail
   exact ⟨rfl, HBAD.out _ _ (by rw [Ty.round, Ty.bnd_err HM1.out]) H3.out⟩
theorem jw : (Tryz.prog.info? 9).map (fun i => (i.zero, i.size, i.bytes)) = some (some (.string ⟨#[]⟩), 1, 16) := by kernel_rfl
theorem zY : (Tryz.prog.info? 141).map (fun i => (i.zero, i.size, i.bytes)) = some (some (.agg #[.string ⟨#[]⟩, .int .i64 0]), 2, 24) := by kernel_rfl
theorem ed {v : Value} {l : List ByteArray} {x : ByteArray} {a : Prt.Hp} (h : Prt.row 9 1 v (l.length + 1) (l.map Value.string ++ [.string x]) a) : dC v (l ++ [x]) a := by
 unfold dC
 rw [List.length_append, List.map_append]; exact h
theorem qP {v : Value} {l : List (ByteArray × Nat)} {x : ByteArray} {n : Nat} {a : Prt.Hp} (h : Prt.row 141 2 v (l.length + 1) (l.flatMap jb ++ [.string x, .int .i64 (n : Nat)]) a) : fdA v (l ++ [(x, n)]) a := by
 unfold fdA
 rw [List.length_append, List.flatMap_append]; exact h
theorem tX {af : List Tok.Tk} {d : Nat} {T : Ty.M Nat} (hspec : cO 120 af d T) (hT : Ty.Adv 1 0 0 T) : cO 266 af d (Ty.object af T) := by
 intro w0 w Fr pb st H R hok hbad
 have HOK := qh hok
 have HBAD := qh hbad
 have HSP := qh hspec
 have HT := qh hT
 have hlk := H.look
 have hpos := hlk.fits.1
 have hfit := hlk.fits.2.2.1
 have htl := hlk.wf.1
 have HS := qh H
 obtain ⟨i0, ti, tz0, tz1, tz2⟩ := info_parts jw
 obtain ⟨j0, tj, uz0, uz1, uz2⟩ := info_parts zY
 clear hok hbad hspec hT H hlk
 go_enter Tryz.func266, Tryz.ntmps266
 go_wp2_with fail
 go_loopw [3, 4] (fun v u wr => ∃ (f : Nat) (l : List (ByteArray × Nat)) (ns : List ByteArray) (s : Ty.St), s.pos < af.length ∧ af.length < s.pos + f ∧ l.length ≤ s.pos ∧ ns.length ≤ s.pos ∧ Hid (ns = l.map Prod.fst) ∧ Hid (Sat w0 wr [Fr, aC pb d af s, fdA v l, dC u ns]) ∧ Hid (Ty.object af T st = Ty.bnd (Ty.fields af T f l) (fun l => Ty.newType ⟨7, l, [], 0⟩) s))
   (fun _ _ wr => af.length - posOf pb wr)
 case atStart => exact ⟨af.length + 1, [], [], st, hpos, by omega, by simp, by simp, rfl, (HS.out.nil _ _).nil _ _, rfl⟩
 case round =>
   obtain ⟨f, l, ns, s, hp1, hf1, hll, hnn, hns, hS, hE⟩ := hrel
   obtain ⟨f, rfl⟩ : ∃ g, f = g + 1 := ⟨f - 1, by omega⟩
   obtain ⟨a3, c3, rfl⟩ := ag (hS.out.row 2 rfl)
   obtain ⟨a4, c4, rfl⟩ := ag (hS.out.row 3 rfl)
   have hPO := bD (hS.out.pick [0, 1]).look
   have HPO := qh hPO
   clear hPO
   go_wp2_with fail
   refine take_any (hS.out.at 1 rfl) ⟨#[125]⟩ (fun w1 hi h1 => ?_) (fun w1 hi h1 => ?_)
   · have H1 := qh h1.un4
     have HEQ : Hid (Ty.object af T st = Ty.newType ⟨7, l, [], 0⟩ { s with pos := s.pos + 1 }) := by
       rw [hE.out, Ty.fields]; unfold Ty.bnd; rw [hi]; rfl
     have hge : s.ts.length ≤ s.pos := (hS.out.pick [0, 1]).look.fits.2.2.1
     clear hi h1 hE hS
     go_wp2_with fail
     refine fG ⟨7, l, [], 0⟩ _ (.slice none 0 0) ((H1.out.nil 3 1).pick [0, 1, 2, 4]) (by show s.ts.length + 1 ≤ s.pos + 1; omega) (fun w2 h2 => ?_)
     have H2 := qh h2
     clear h2
     go_wp2_with fail
     exact HOK.out _ _ _ HEQ.out H2.out
   · have H1 := qh h1.un4
     have HEQ : Hid (Ty.object af T st = Ty.bnd (Ty.bnd (Ty.name af ns) fun x => Ty.bnd (Ty.need af [58]) fun _ => Ty.bnd T fun n => Ty.bnd (Ty.need af [59]) fun _ => Ty.fields af T f (l ++ [(x, n)])) (fun l => Ty.newType ⟨7, l, [], 0⟩) s) := by
       rw [hE.out, Ty.fields, hns.out]; unfold Ty.bnd; rw [hi]; rfl
     clear hi h1 hE hS
     go_wp2_with fail
     refine gY (H1.out.at 1 rfl) _ ns (H1.out.row 3 rfl) (by omega) (fun x w2 hn h2 => ?_) (fun x w2 hn h2 => ?_)
     · have hlt2 := h2.look.fits.1
       have H2 := qh h2.un4
       have HEQ2 : Hid (Ty.object af T st = Ty.bnd (Ty.bnd (Ty.need af [58]) fun _ => Ty.bnd T fun n => Ty.bnd (Ty.need af [59]) fun _ => Ty.fields af T f (l ++ [(x, n)])) (fun l => Ty.newType ⟨7, l, [], 0⟩) { s with pos := s.pos + 1 }) := by
         rw [HEQ.out]; unfold Ty.bnd; rw [hn]; rfl
       clear hn h2 HEQ
       dsimp only at hlt2
       go_wp2_with (at_builtin; go_loud (refine wpList_append_lies _ rfl (.tmp 13) (.tmp 15) 161 rfl 0 9 i0 _ 1 16 Tryz.underlying161 ti tz0 tz1 tz2 rfl (by decide) _ _ (ns.map Value.string) (by rfl) ((H2.out.row 3 rfl).alloc _) ⟨w2.heap.size, 0, none⟩ 1 1 [.string x] (by rfl) (by rfl) (World.news_of_block (cs := #[.string x]) (t := 9) (fr := (0, 0)) (ak _ _ _ (by simp))) (by simp [Value.oneCell']) (by omega) (by unfold maxLen; omega) (by omega) (by simp) (w2.heap.size + 1) (by simp) ?_))
       intro g cap w3 hown3 hgrow3 hat3 hlt3
       have h3 := Prt.Sat.grow (H2.out.ay _) 3 rfl hgrow3 hown3 (by simpa using hat3)
       have h3 := h3.ent (i := 3) rfl (Q := dC _ (ns ++ [x])) (fun _ h => ed h)
       have H3 := qh h3
       clear h3 hown3 hgrow3
       go_wp2_with fail
       refine aZ (H3.out.at 1 rfl) ⟨#[58]⟩ (fun w4 hn h4 => ?_) (fun e w4 hn h4 => ?_)
       · have H4 := qh h4.un4
         have HEQ3 : Hid (Ty.object af T st = Ty.bnd (Ty.bnd T fun n => Ty.bnd (Ty.need af [59]) fun _ => Ty.fields af T f (l ++ [(x, n)])) (fun l => Ty.newType ⟨7, l, [], 0⟩) { s with pos := s.pos + 2 }) := by
           rw [HEQ2.out]; unfold Ty.bnd; rw [hn]; rfl
         clear hn h4 HEQ2
         go_wp2_with fail
         refine HSP.out _ _ _ pb _ (H4.out.at 1 rfl) _ (fun n s5 w5 hm h5 => ?_) (fun e w5 hm h5 => ?_)
         · have hadv : s.pos + 2 < s5.pos := by have := HT.out _ _ _ hm; dsimp only at this; omega
           have H5 := qh h5.un4
           have HEQ4 : Hid (Ty.object af T st = Ty.bnd (Ty.bnd (Ty.need af [59]) fun _ => Ty.fields af T f (l ++ [(x, n)])) (fun l => Ty.newType ⟨7, l, [], 0⟩) s5) := by
             rw [HEQ3.out]; unfold Ty.bnd; rw [show T { s with pos := s.pos + 2 } = _ from hm]; rfl
           clear hm h5 HEQ3 H4 H3
           go_wp2_with fail
           refine aZ (H5.out.at 1 rfl) ⟨#[59]⟩ (fun w6 hn h6 => ?_) (fun e w6 hn h6 => ?_)
           · have hlt6 := h6.look.fits.1
             have H6 := qh h6.un4
             have HEQ5 : Hid (Ty.object af T st = Ty.bnd (Ty.fields af T f (l ++ [(x, n)])) (fun l => Ty.newType ⟨7, l, [], 0⟩) { s5 with pos := s5.pos + 1 }) := by
               rw [HEQ4.out]; unfold Ty.bnd; rw [show Ty.need af [59] s5 = _ from hn]; rfl
             clear hn h6 HEQ4 H5
             dsimp only at hlt6
             go_wp2_with (at_builtin; go_loud (refine wpList_append_lies _ rfl (.tmp 23) (.tmp 27) 67 rfl 0 141 j0 _ 2 24 Tryz.underlying67 tj uz0 uz1 uz2 rfl (by decide) _ _ (l.flatMap jb) (by rfl) ((H6.out.row 2 rfl).alloc _) ⟨w6.heap.size, 0, none⟩ 1 1 [.string x, .int .i64 (n : Nat)] (by rfl) (by rfl) (World.news_of_block (cs := #[.string x, .int .i64 (n : Nat)]) (t := 141) (fr := (0, 0)) (ak _ _ _ (by simp))) (by simp [Value.oneCell']) (by omega) (by unfold maxLen; omega) (by omega) (by simp) (w6.heap.size + 1) (by simp) ?_))
             intro g7 cap7 w7 hown7 hgrow7 hat7 hlt7
             have h7 := Prt.Sat.grow (H6.out.ay _) 2 rfl hgrow7 hown7 (by simpa using hat7)
             have h7 := h7.ent (i := 2) rfl (Q := fdA _ (l ++ [(x, n)])) (fun _ h => qP h)
             have h7 : Sat w0 w7 [Fr, aC pb d af { s5 with pos := s5.pos + 1 }, fdA (.slice (some ⟨g7, 0, none⟩) (l.length + 1) cap7) (l ++ [(x, n)]), dC (.slice (some ⟨g, 0, none⟩) (ns.length + 1) cap) (ns ++ [x])] := h7
             have hPO2 := bD (h7.pick [0, 1]).look
             have HPO2 := qh hPO2
             have H7 := qh h7
             clear h7 hown7 hgrow7 hPO2 H6
             go_wp2_with fail
             go_roundw
             case rel => exact ⟨f, l ++ [(x, n)], ns ++ [x], { s5 with pos := s5.pos + 1 }, hlt6, by dsimp only; omega, by simp; omega, by simp; omega, by rw [hns.out, List.map_append]; rfl, H7.out, HEQ5.out⟩
             case measure => rw [HPO.out, HPO2.out]; dsimp only; omega
           · have HEQ5 : Hid (Ty.object af T st = .error e) := by
               rw [HEQ4.out]; unfold Ty.bnd; rw [show Ty.need af [59] s5 = _ from hn]; rfl
             have H6 := qh h6.out
             clear hn h6
             go_wp2_with fail
             exact ⟨rfl, HBAD.out _ _ HEQ5.out H6.out⟩
         · have HEQ5 : Hid (Ty.object af T st = .error e) := by
             rw [HEQ3.out]; unfold Ty.bnd; rw [show T { s with pos := s.pos + 2 } = _ from hm]; rfl
           have H5 := qh h5.out
           clear hm h5
           go_wp2_with fail
           exact ⟨rfl, HBAD.out _ _ HEQ5.out H5.out⟩
       · have HEQ5 : Hid (Ty.object af T st = .error e) := by
           rw [HEQ2.out]; unfold Ty.bnd; rw [hn]; rfl
         have H5 := qh h4.out
         clear hn h4
         go_wp2_with fail
         exact ⟨rfl, HBAD.out _ _ HEQ5.out H5.out⟩
     · have HEQ5 : Hid (Ty.object af T st = .error x) := by
         rw [HEQ.out]; unfold Ty.bnd; rw [hn]; rfl
       have H5 := qh h2.out
       clear hn h2
       go_wp2_with fail
       exact ⟨rfl, HBAD.out _ _ HEQ5.out H5.out⟩
def dF : List ByteArray := [⟨#[]⟩, ⟨#[110, 117, 109]⟩, ⟨#[98, 111, 111, 108]⟩, ⟨#[116, 101, 120, 116]⟩, ⟨#[110, 117, 108, 108]⟩, ⟨#[97, 110, 121]⟩, ⟨#[117, 110, 107, 110, 111, 119, 110]⟩]
theorem zC (x : ByteArray) : (0 < Ty.plainKind x → Lib.idxOfS dF x = Ty.plainKind x ∧ Ty.plainKind x ≤ 6) ∧ (Ty.plainKind x = 0 → Lib.idxOfS dF x ≤ 0 ∧ -1 ≤ Lib.idxOfS dF x) := by
 obtain ⟨⟨l⟩⟩ := x
 by_cases h1 : l = [110, 117, 109]
 · subst h1; decide
 by_cases h2 : l = [98, 111, 111, 108]
 · subst h2; decide
 by_cases h3 : l = [116, 101, 120, 116]
 · subst h3; decide
 by_cases h4 : l = [110, 117, 108, 108]
 · subst h4; decide
 by_cases h5 : l = [97, 110, 121]
 · subst h5; decide
 by_cases h6 : l = [117, 110, 107, 110, 111, 119, 110]
 · subst h6; decide
 have e1 : Ty.plainKind ⟨⟨l⟩⟩ = 0 := by
   simp [Ty.plainKind, Ty.plains, List.idxOf?_cons, Ne.symm h1, Ne.symm h2, Ne.symm h3, Ne.symm h4, Ne.symm h5, Ne.symm h6]
 have e2 : Lib.idxOfS dF ⟨⟨l⟩⟩ = -1 ∨ Lib.idxOfS dF ⟨⟨l⟩⟩ = 0 := by
   by_cases h0 : l = []
   · subst h0; decide
   · left
     simp [Lib.idxOfS, Lib.idxFromS, dF, Ne.symm h0, Ne.symm h1, Ne.symm h2, Ne.symm h3, Ne.symm h4, Ne.symm h5, Ne.symm h6]
 exact ⟨fun h => absurd h (by omega), fun _ => by omega⟩
theorem jP (a b c : Value) (w : World) : (Instr.field 138 (.agg #[a, b, c]) 0).run Tryz.prog w = .ok a w := by kernel_rfl
theorem iV (a b c : Value) (w : World) : (Instr.field 138 (.agg #[a, b, c]) 1).run Tryz.prog w = .ok b w := by kernel_rfl
def lN : Array Value := #[.string ⟨#[]⟩, .string ⟨#[110, 117, 109]⟩, .string ⟨#[98, 111, 111, 108]⟩, .string ⟨#[116, 101, 120, 116]⟩, .string ⟨#[110, 117, 108, 108]⟩, .string ⟨#[97, 110, 121]⟩, .string ⟨#[117, 110, 107, 110, 111, 119, 110]⟩]
theorem wK (w : World) (b : Nat) (hb : w.heap[b]? = some (.cells lN 9 (0, 0))) (x : ByteArray) {R : Ending → World → Prop} (hR : R (.returned (.int .i64 (Lib.idxOfS dF x))) w) :
   Calls Tryz.prog 265 #[.slice (some ⟨b, 0, none⟩) 7 7, .string x] w R := by
 refine (Tryz.slices_Index_string b 0 7 7 dF x w (by decide) (by omega) (fun j hj => ?_)).mono ?_
 · rw [cell_of_block hb]
   match j, hj with
   | 0, _ => rfl
   | 1, _ => rfl
   | 2, _ => rfl
   | 3, _ => rfl
   | 4, _ => rfl
   | 5, _ => rfl
   | 6, _ => rfl
 · rintro e w' ⟨rfl, rfl⟩
   exact hR
theorem vF {af : List Tok.Tk} {d : Nat} {T : Ty.M Nat} (hspec : cO 120 af d T) (hT : Ty.Adv 1 0 0 T) : cO 185 af d (Ty.single af T) := by
 intro w0 w Fr pb st H R hok hbad
 have HOK := qh hok
 have HBAD := qh hbad
 have HSP := qh hspec
 have HT := qh hT
 have hlk := H.look
 have hpos := hlk.fits.1
 have hfit := hlk.fits.2.2.1
 have htl := hlk.wf.1
 have HS := qh H
 have hlt := fun h1 : (Ty.cur af st.pos).kind = 2 => dI hlk.fits.1 hlk.wf (by omega)
 have HN := qh (fun w1 (hb : PRd w1 pb d af st) R => @dU w1 pb d af st hb R)
 have HRD := qh (xC hspec hT)
 have HOB := qh (tX hspec hT)
 unfold Ty.single at HOK HBAD
 generalize Ty.cur af st.pos = t at *
 obtain ⟨kd, tx, ps⟩ := t
 have hk := zC tx
 dsimp only at HOK HBAD hlt
 clear hok hbad hspec hT H hlk
 have hcase : (kd = 2 ∧ 0 < Ty.plainKind tx) ∨ (kd = 2 ∧ Ty.plainKind tx = 0) ∨ kd ≠ 2 := by omega
 rcases hcase with ⟨hkd, hpk⟩ | hrest
 · obtain ⟨hk1, hk2⟩ := hk.1 hpk
   have hl2 := hlt hkd
   have k1 : ((kd : Int) == 2) = true := by simp [hkd]
   have HK1 := qh hk1
   have HKD := qh hkd
   clear hk hlt hkd hk1
   have hf0 := jP
   have hf1 := iV
   go_enter Tryz.func185, Tryz.ntmps185
   go_wp2_with fail
   refine HN.out _ (HS.out.ay _).look _ (fun w1 hb1 => ?_)
   dsimp only [aQ]
   have hv : w1.heap[w.heap.size]? = some (.cells lN 9 (0, 0)) := (hb1.block _ (by simp)).trans (heap_alloc_new w _)
   have HV := qh hv
   have H1 := qh ((HS.out.ay _).below hb1)
   clear hv hb1
   go_wp2_with fail
   refine wK w1 _ HV.out tx ?_
   rw [HK1.out]
   go_wp2_with fail
   refine HN.out _ H1.out.look _ (fun w2 hb2 => ?_)
   dsimp only [aQ]
   have h2 := H1.out.below hb2
   obtain ⟨c1, _, f0⟩ := h2.look.cells
   have H2 := qh h2
   clear hb2 h2
   go_wp2_with fail
   have h3 := H2.out.setPos (st.pos + 1) hl2 (by omega)
   refine fG ⟨Ty.plainKind tx, [], [], 0⟩ (.slice none 0 0) (.slice none 0 0) ((h3.nil 141 2).nil 3 1) (by dsimp only; omega) (fun w3 h4 => ?_)
   have H4 := qh h4
   clear h3 h4
   go_wp2_with fail
   exact HOK.out _ _ _ (by rw [if_pos ⟨HKD.out, hpk⟩]; rfl) H4.out
 · have HK : Hid (Lib.idxOfS dF tx = Lib.idxOfS dF tx) := rfl
   generalize hkk : Lib.idxOfS dF tx = k at *
   have hkr := hk.2
   have HNOT : Hid (¬ (kd = 2 ∧ Ty.plainKind tx > 0)) := by show ¬ _; omega
   have hcase : (((kd : Int) == 2) = true ∧ decide (0 < k) = false) ∨ ((kd : Int) == 2) = false := by
     rcases hrest with ⟨h1, h2⟩ | h1
     · exact .inl ⟨by simp [h1], by have := hkr h2; simp; omega⟩
     · right; simp; omega
   have HKK := qh hkk
   clear hk hkr hrest hlt HK hkk
   have hf0 := jP
   have hf1 := iV
   go_enter Tryz.func185, Tryz.ntmps185
   go_wp2_with fail
   refine HN.out _ (HS.out.ay _).look _ (fun w1 hb1 => ?_)
   dsimp only [aQ]
   have hv : w1.heap[w.heap.size]? = some (.cells lN 9 (0, 0)) := (hb1.block _ (by simp)).trans (heap_alloc_new w _)
   have HV := qh hv
   have H1 := qh ((HS.out.ay _).below hb1)
   clear hv hb1
   go_wp2_with fail
   refine wK w1 _ HV.out tx ?_
   rw [HKK.out]
   go_wp2_with fail
   refine HN.out _ H1.out.look _ (fun w2 hb2 => ?_)
   dsimp only [aQ]
   have H2 := qh (H1.out.below hb2)
   clear hb2
   rcases hcase with ⟨k1, k2⟩ | k1
   all_goals
     go_wp2_with fail
     refine take_any H2.out ⟨#[123]⟩ (fun w3 hi h3 => ?_) (fun w3 hi h3 => ?_)
     · have H3 := qh h3
       have HI := qh hi
       clear hi h3
       go_wp2_with fail
       refine HOB.out _ _ _ pb _ H3.out _ (fun n s4 w4 hm h4 => ?_) (fun e w4 hm h4 => ?_)
       · have H4 := qh h4
         have HM := qh hm
         clear hm h4
         go_wp2_with fail
         exact HOK.out _ _ _ (by rw [if_neg HNOT.out, Ty.bnd_ok HI.out, if_pos rfl]; exact HM.out) H4.out
       · have H4 := qh h4
         have HM := qh hm
         clear hm h4
         go_wp2_with fail
         exact ⟨rfl, HBAD.out _ _ (by rw [if_neg HNOT.out, Ty.bnd_ok HI.out, if_pos rfl]; exact HM.out) H4.out⟩
     · have H3 := qh h3
       have HI := qh hi
       clear hi h3
       go_wp2_with fail
       refine take_any H3.out ⟨#[91]⟩ (fun w4 hj h4 => ?_) (fun w4 hj h4 => ?_)
       · have H4 := qh h4
         have HJ := qh hj
         clear hj h4
         go_wp2_with fail
         refine HSP.out _ _ _ pb _ H4.out _ (fun n s5 w5 hm h5 => ?_) (fun e w5 hm h5 => ?_)
         · have had := HT.out _ _ _ hm
           have H5 := qh h5
           have HM := qh hm
           clear hm h5
           go_wp2_with fail
           refine aZ H5.out ⟨#[93]⟩ (fun w6 hn h6 => ?_) (fun e w6 hn h6 => ?_)
           · have H6 := qh h6
             have HNE := qh hn
             clear hn h6
             go_wp2_with fail
             refine fG ⟨8, [], [], n⟩ (.slice none 0 0) (.slice none 0 0) ((H6.out.nil 141 2).nil 3 1) (by dsimp only at *; omega) (fun w7 h7 => ?_)
             have H7 := qh h7
             clear h7
             go_wp2_with fail
             exact HOK.out _ _ _ (by rw [if_neg HNOT.out, Ty.bnd_ok HI.out, if_neg (by simp), Ty.bnd_ok HJ.out, if_pos rfl, Ty.bnd_ok HM.out, Ty.bnd_ok HNE.out]; rfl) H7.out
           · have H6 := qh h6
             have HNE := qh hn
             clear hn h6
             go_wp2_with fail
             exact ⟨rfl, HBAD.out _ _ (by rw [if_neg HNOT.out, Ty.bnd_ok HI.out, if_neg (by simp), Ty.bnd_ok HJ.out, if_pos rfl, Ty.bnd_ok HM.out, Ty.bnd_err HNE.out]) H6.out⟩
         · have H5 := qh h5
           have HM := qh hm
           clear hm h5
           go_wp2_with fail
           exact ⟨rfl, HBAD.out _ _ (by rw [if_neg HNOT.out, Ty.bnd_ok HI.out, if_neg (by simp), Ty.bnd_ok HJ.out, if_pos rfl, Ty.bnd_err HM.out]) H5.out⟩
       · have H4 := qh h4
         have HJ := qh hj
         clear hj h4
         go_wp2_with fail
         refine aZ H4.out ⟨#[40]⟩ (fun w5 hn h5 => ?_) (fun e w5 hn h5 => ?_)
         · have H5 := qh h5
           have HNE := qh hn
           clear hn h5
           go_wp2_with fail
           refine HRD.out _ _ _ pb _ H5.out _ (fun n s6 w6 hm h6 => ?_) (fun e w6 hm h6 => ?_)
           · have H6 := qh h6
             have HM := qh hm
             clear hm h6
             go_wp2_with fail
             exact HOK.out _ _ _ (by rw [if_neg HNOT.out, Ty.bnd_ok HI.out, if_neg (by simp), Ty.bnd_ok HJ.out, if_neg (by simp), Ty.bnd_ok HNE.out]; exact HM.out) H6.out
           · have H6 := qh h6
             have HM := qh hm
             clear hm h6
             go_wp2_with fail
             exact ⟨rfl, HBAD.out _ _ (by rw [if_neg HNOT.out, Ty.bnd_ok HI.out, if_neg (by simp), Ty.bnd_ok HJ.out, if_neg (by simp), Ty.bnd_ok HNE.out]; exact HM.out) H6.out⟩
         · have H5 := qh h5
           have HNE := qh hn
           clear hn h5
           go_wp2_with fail
           exact ⟨rfl, HBAD.out _ _ (by rw [if_neg HNOT.out, Ty.bnd_ok HI.out, if_neg (by simp), Ty.bnd_ok HJ.out, if_neg (by simp), Ty.bnd_err HNE.out]) H5.out⟩
theorem AB {af : List Tok.Tk} {d : Nat} {S : Ty.M Nat} (hspec : cO 185 af d S) (hS : Ty.Adv 1 0 0 S) (w0 w : World) (Fr : As) (pb xb : Nat) (st : Ty.St) (H : Sat w0 w [Fr, aC pb d af st]) (hx : ∀ w', Sat w0 w' [Fr] → w'.cell? ⟨xb, 0, none⟩ = some (.pointer (some ⟨pb, 0, none⟩))) {R : Ending → World → Prop}
   (hok : ∀ n st2 w2, Ty.union af S st = .ok (n, st2) → Sat w0 w2 [Fr, aC pb d af st2] → R (.returned (.int .i64 (n : Nat))) w2)
   (hbad : ∀ f w2, Ty.union af S st = .error f → Sat w0 w2 [Fr] → R (.panicked (aI f)) w2) : Calls Tryz.prog 184 #[.pointer (some ⟨xb, 0, none⟩)] w R := by
 have HOK := qh hok
 have HBAD := qh hbad
 have HSP := qh hspec
 have HA := qh hS
 have hlk := H.look
 have hpos := hlk.fits.1
 have hfit := hlk.fits.2.2.1
 have htl := hlk.wf.1
 have x0 := hx w (H.pick [0])
 have HX := qh hx
 have HS := qh H
 obtain ⟨i0, ti, tz0, tz1, tz2⟩ := info_parts bY
 clear hok hbad hspec hS H hlk hx
 go_enter Tryz.func184, Tryz.ntmps184
 go_wp2_with fail
 refine HSP.out _ _ _ pb _ HS.out _ (fun n s1 w1 hm h1 => ?_) (fun e w1 hm h1 => ?_)
 · have had := HA.out _ _ _ hm
   have hlt1 := h1.look.fits.1
   have h2 := h1.aj (.cells #[.int .i64 (n : Nat)] 3) w1.heap.size
   have h3 := h2.ent (i := 2) rfl (Q := inA (.slice (some ⟨w1.heap.size, 0, none⟩) 1 1) [n]) (fun _ h => Prt.ji h (by decide) rfl rfl)
   have H3 := qh h3
   have HEQ : Hid (Ty.union af S st = Ty.bnd (Ty.bars af S (af.length + 1) [n]) (fun l => if l.length = 1 then Ty.ret (l.headD 0) else Ty.newType ⟨10, [], l, 0⟩) s1) := by
     rw [Ty.union, Ty.bnd_ok hm]; rfl
   clear hm h1 h2 h3 x0
   go_wp2_with fail
   go_loopw [2] (fun v wr => ∃ (f : Nat) (l : List Nat) (s : Ty.St), s.pos < af.length ∧ af.length < s.pos + f ∧ s.ts.length + l.length ≤ s.pos + 1 ∧ 1 ≤ l.length ∧ Hid (Sat w0 wr [Fr, aC pb d af s, inA v l]) ∧ Hid (Ty.union af S st = Ty.bnd (Ty.bars af S f l) (fun l => if l.length = 1 then Ty.ret (l.headD 0) else Ty.newType ⟨10, [], l, 0⟩) s))
     (fun _ wr => af.length - posOf pb wr)
   case atStart => exact ⟨af.length + 1, [n], s1, hlt1, by omega, by simp; omega, by simp, H3.out, HEQ.out⟩
   case round =>
     obtain ⟨f, l, s, hp1, hf1, hll, hl1, hS, hE⟩ := hrel
     obtain ⟨f, rfl⟩ : ∃ g, f = g + 1 := ⟨f - 1, by omega⟩
     obtain ⟨a, cap0, rfl⟩ := ag (hS.out.row 2 rfl)
     have hPO := bD (hS.out.pick [0, 1]).look
     have HPO := qh hPO
     have x1 := HX.out _ (hS.out.pick [0])
     clear hPO
     go_wp2_with fail
     refine take_any (hS.out.at 1 rfl) ⟨#[124]⟩ (fun w2 hi h2 => ?_) (fun w2 hi h2 => ?_)
     · have H2 := qh h2.un3
       have HEQ2 : Hid (Ty.union af S st = Ty.bnd (Ty.bnd S fun n => Ty.bars af S f (l ++ [n])) (fun l => if l.length = 1 then Ty.ret (l.headD 0) else Ty.newType ⟨10, [], l, 0⟩) { s with pos := s.pos + 1 }) := by
         rw [hE.out, Ty.bars]; unfold Ty.bnd; rw [hi]; rfl
       have x2 := HX.out _ (H2.out.pick [0])
       clear hi h2 hE hS x1 HEQ
       go_wp2_with fail
       refine HSP.out _ _ _ pb _ (H2.out.at 1 rfl) _ (fun n s3 w3 hm h3 => ?_) (fun e w3 hm h3 => ?_)
       · have had3 := HA.out _ _ _ hm
         have hlt3 := h3.look.fits.1
         have H3 := qh h3.un3
         have HEQ3 : Hid (Ty.union af S st = Ty.bnd (Ty.bars af S f (l ++ [n])) (fun l => if l.length = 1 then Ty.ret (l.headD 0) else Ty.newType ⟨10, [], l, 0⟩) s3) := by
           rw [HEQ2.out]; unfold Ty.bnd; rw [hm]; rfl
         clear hm h3 x2 H2
         dsimp only at had3
         go_wp2_with (at_builtin; go_loud (refine wpList_append_lies _ rfl (.tmp 8) (.tmp 11) 39 rfl 0 3 i0 _ 1 8 Tryz.underlying39 ti tz0 tz1 tz2 rfl (by decide) _ _ (l.map aA) (by rfl) ((H3.out.row 2 rfl).alloc _) ⟨w3.heap.size, 0, none⟩ 1 1 [.int .i64 (n : Nat)] (by rfl) (by rfl) (World.news_of_block (cs := #[.int .i64 (n : Nat)]) (t := 3) (fr := (0, 0)) (ak _ _ _ (by simp))) (by simp [Value.oneCell']) (by omega) (by unfold maxLen; omega) (by omega) (by simp) (w3.heap.size + 1) (by simp) ?_))
         intro g cap w4 hown4 hgrow4 hat4 hlt4
         have h4 := Prt.Sat.grow (H3.out.ay _) 2 rfl hgrow4 hown4 (by simpa using hat4)
         have h4 := h4.ent (i := 2) rfl (Q := inA _ (l ++ [n])) (fun _ h => bz h)
         have h4 : Sat w0 w4 [Fr, aC pb d af s3, inA (.slice (some ⟨g, 0, none⟩) (l.length + 1) cap) (l ++ [n])] := h4
         have hPO2 := bD (h4.pick [0, 1]).look
         have HPO2 := qh hPO2
         have H4 := qh h4
         clear h4 hown4 hgrow4 hPO2 H3
         go_wp2_with fail
         go_roundw
         case rel => exact ⟨f, l ++ [n], s3, hlt3, by omega, by simp; omega, by simp, H4.out, HEQ3.out⟩
         case measure => rw [HPO.out, HPO2.out]; omega
       · have HEQ3 : Hid (Ty.union af S st = .error e) := by
           rw [HEQ2.out]; unfold Ty.bnd; rw [hm]; rfl
         have H3 := qh h3.out
         clear hm h3
         go_wp2_with fail
         exact ⟨rfl, HBAD.out _ _ HEQ3.out H3.out⟩
     · have H2 := qh h2.un3
       have HEQ2 : Hid (Ty.union af S st = (if l.length = 1 then Ty.ret (l.headD 0) else Ty.newType ⟨10, [], l, 0⟩ : Ty.M Nat) s) := by
         rw [hE.out, Ty.bars]; unfold Ty.bnd; rw [hi]; rfl
       have x2 := HX.out _ (H2.out.pick [0])
       clear hi h2 hE hS x1 HEQ
       by_cases hl : l.length = 1
       · obtain ⟨n, rfl⟩ := List.length_eq_one_iff.1 hl
         have hn := H2.out.row 2 rfl
         obtain ⟨g, cap, e, _, _⟩ := hn.form (by simp)
         cases e
         have z2 : w2.cell? ⟨g, 0, none⟩ = some (.int .i64 n) := by have := World.ownsRow.cells hn (g := g) rfl 0 _ rfl; rwa [Addr.add_lit] at this
         clear hn hl
         go_wp2_with fail
         exact HOK.out _ _ _ (by rw [HEQ2.out]; rfl) (H2.out.pick [0, 1])
       · have hl2 : ((l.length : Int) == 1) = false := by simp; omega
         have HL := qh hl
         have hl3 : 2 ≤ l.length := by omega
         clear hl
         go_wp2_with fail
         refine fG ⟨10, [], l, 0⟩ (.slice none 0 0) _ ((H2.out.nil 141 2).pick [0, 1, 3, 2]) (by omega) (fun w3 h3 => ?_)
         have H3 := qh h3
         clear h3
         go_wp2_with fail
         exact HOK.out _ _ _ (by rw [HEQ2.out, if_neg HL.out]; rfl) H3.out
 · have HM := qh hm
   have H1 := qh h1
   clear hm h1
   go_wp2_with fail
   exact ⟨rfl, HBAD.out _ _ (by rw [Ty.union, Ty.bnd_err HM.out]) H1.out⟩
theorem CS (af : List Tok.Tk) : ∀ r, r ≤ 20 → cO 120 af (20 - r) (Ty.typ af r) := by
 intro r
 induction r with
 | zero =>
   intro _ w0 w Fr pb st H R hok hbad
   have HOK := qh hok
   have HBAD := qh hbad
   have HS := qh H
   clear hok hbad H
   go_enter Tryz.func120, Tryz.ntmps120
   go_wp2_with fail
   refine oh (HS.out.ay _) 184 _ Tryz.call184 (Ty.fail af 8) (fun h => absurd h (by omega)) (fun n st2 w2 h => absurd h (by omega)) (fun f w2 _ he h2 => ?_)
   have hf := he rfl
   have HF := qh hf
   have H2 := qh h2
   clear he hf h2
   go_wp2_with fail
   exact ⟨rfl, HBAD.out _ _ (by rw [HF.out]; rfl) H2.out⟩
 | succ r ih =>
   intro hr w0 w Fr pb st H R hok hbad
   have e20 : 20 - (r + 1) + 1 = 20 - r := by omega
   have hsp := vF (ih (by omega)) (Ty.typ_adv af r)
   rw [← e20] at hsp
   have HSP := qh hsp
   have HOK := qh hok
   have HBAD := qh hbad
   have HS := qh H
   have hd : 20 - (r + 1) < 20 := by omega
   generalize 20 - (r + 1) = d at *
   clear hok hbad H ih e20 hsp
   go_enter Tryz.func120, Tryz.ntmps120
   go_wp2_with fail
   have h1 := (HS.out.aj (.cells #[.pointer (some ⟨pb, 0, none⟩)] 80) w.heap.size)
   refine oh (h1.at 1 rfl) 184 _ Tryz.call184 (Ty.typ af (r + 1)) (fun h w1 h2 R2 hok2 hbad2 => ?_) (fun n st2 w2 _ hm h2 => ?_) (fun f w2 he _ h2 => ?_)
   · exact AB HSP.out (Ty.single_adv (Ty.typ_adv af r)) w0 w1 _ pb w.heap.size st h2 (fun w' h' => (h'.unpack (i := 0) rfl).cell 1 rfl 0 rfl) hok2 hbad2
   · have HM := qh hm
     have H2 := qh (h2.un3.pick [0, 1])
     clear hm h2 h1
     go_wp2_with fail
     exact HOK.out _ _ _ HM.out H2.out
   · have hf := he hd
     have HF := qh hf
     have H2 := qh h2.out
     clear he hf h2 h1
     go_wp2_with fail
     exact ⟨rfl, HBAD.out _ _ HF.out H2.out⟩
def aP (f : Ty.Ft) : Value := .agg #[.int .i64 f.1, .int .i64 f.2]
theorem rq (a b : Int) (w : World) : (Instr.typeAssert (.iface 25 (.agg #[.int .i64 a, .int .i64 b])) 20 25 false).run Tryz.prog w = .ok (.agg #[.int .i64 a, .int .i64 b]) w := by kernel_rfl
theorem open_any {w0 w : World} {Fr : As} (H : Sat w0 w [Fr]) (s : ByteArray) (hw : Words w) (hm : s.size ≤ maxLen) {R : Ending → World → Prop}
   (hok : ∀ af pb w', Tok.scan s = .ok af → Sat w0 w' [Fr, aC pb 0 af ⟨0, [], []⟩] → R (.returned (.tuple #[.pointer (some ⟨pb, 0, none⟩), aP (0, 0)])) w')
   (hbad : ∀ f pb w', Tok.scan s = .error f → Sat w0 w' [Fr] → R (.returned (.tuple #[.pointer (some ⟨pb, 0, none⟩), aP f])) w') :
   Calls Tryz.prog 39 #[.string s] w R := by
 have HOK := qh hok
 have HBAD := qh hbad
 have HS := qh H
 have HW := qh hw
 have HMX := qh hm
 clear hok hbad H hw hm
 go_enter Tryz.func39, Tryz.ntmps39
 go_wp2_with fail
 have h1 := HS.out.aj (.cells #[.int .i64 0, .int .i64 0] 25) w.heap.size
 refine zG s _ (HW.out.below ((Below.refl _ _).alloc (Nat.le_refl _) _)) HMX.out (fun l v w1 hl hb ho => ?_) (fun e p w1 hl hb => ?_)
 · have h2 := (h1.newRow hb ho (by omega)).aj (.cells #[.int .i64 0, .int .i64 0] 25) w1.heap.size
   have hl0 := Tok.scan_ok s l hl
   have hll := Ty.scan_last hl
   have k0 := h2.cell 1 rfl 0 rfl
   have k1 := h2.cell 1 rfl 1 rfl
   have kf := h2.free 1 rfl
   have kz := h2.lt 1 rfl
   have hz := hb.size
   simp at kz hz
   have hz1 : w.heap.size < w1.heap.size := by omega
   have hz2 : w.heap.size < w1.heap.size + 1 := by omega
   have c0 : w1.cell? ⟨w.heap.size, 0, none⟩ = some (.int .i64 0) := (h1.newRow hb ho (by omega)).cell 1 rfl 0 rfl
   have c1 : w1.cell? ⟨w.heap.size, 1, none⟩ = some (.int .i64 0) := (h1.newRow hb ho (by omega)).cell 1 rfl 1 rfl
   have f0 : ∀ o, w1.frozen? ⟨w.heap.size, o, none⟩ = false := (h1.newRow hb ho (by omega)).free 1 rfl
   obtain ⟨a, cap, rfl⟩ := ag ho
   have H1 := qh (h1.newRow hb ho (by omega))
   have HL := qh hl
   have HT : Hid (gJ l ∧ 0 < l.length) := ⟨⟨hl0.2.1, hll⟩, List.length_pos_iff.2 hl0.1⟩
   clear hl hb ho h1 h2 hl0 hll k0 k1 kf kz
   go_wp2_with fail
   go_region
   all_goals
     go_wp2_with fail
     refine bodyPost_ret ?_ rfl (HOK.out l (w1.heap.size + 1) _ HL.out ?_)
     · simp [results, Tryz.results39, go_sem, aP, hz1, hz2, c0, c1]
     · have h := (((H1.out.store 1 rfl 0 (.int .i64 0)).store 1 rfl 1 (.int .i64 0)).ay (.cells #[.int .i64 0, .int .i64 0] 25)).aj (.cells #[.slice a l.length cap, .int .i64 0, .int .i64 0, .slice none 0 0, .slice none 0 0, .int .i64 0] 86) (w1.heap.size + 1)
       exact Prt.Sat.Dz HT.out (h.drew.pick [0, 2, 3])
 · have hz := hb.size
   have h2 := h1.below hb
   have c0 := h2.cell 1 rfl 0 rfl
   have c1 := h2.cell 1 rfl 1 rfl
   have f0 := h2.free 1 rfl
   simp at hz
   have hz1 : w.heap.size < w1.heap.size := by omega
   have hz2 : w.heap.size < w1.heap.size + 1 := by omega
   have H1 := qh h2
   have HL := qh hl
   clear hl hb h1 h2
   go_wp2_with fail
   go_region
   all_goals
     go_wp2_with fail
     refine bodyPost_ret ?_ rfl (HBAD.out (e, p) (w1.heap.size + 1) _ HL.out ?_)
     · simp [results, Tryz.results39, go_sem, aP, hz1, hz2, c0, c1]
     · have h := (((H1.out.store 1 rfl 0 (.int .i64 e)).store 1 rfl 1 (.int .i64 p)).ay (.cells #[.int .i64 e, .int .i64 p] 25)).ay (.cells #[.slice none 0 0, .int .i64 0, .int .i64 0, .slice none 0 0, .slice none 0 0, .int .i64 0] 86)
       exact h.drew.pick [0]
end
end Go.Proofs.YtdlbhiaceheffabGreatDoor
