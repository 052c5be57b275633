/- Walk of the reference's oneType: plain types and arrays. -/
import Derived.Test.YtdlbhiaceheffabGreatDoorY09
import Derived.Test.YtdlbhiaceheffabGreatDoorY12
import Derived.Test.YtdlbhiaceheffabGreatDoorY31
set_option linter.all false
set_option maxRecDepth 100000
set_option maxHeartbeats 3000000
namespace Go.Proofs.YtdlbhiaceheffabGreatDoor
section
open Go Go.RowKit
open Prt (Sat As blk pur exs star ah)
def Ah (F : FuncId) (af : List Tok.Tk) (d : Nat) (g : Rd.RS → Nat × Rd.RS) : Prop :=
 ∀ (w0 w : World) (Fr : As) (pb : Nat) (s : Rd.RS) (k : Nat), k ≤ 400 → Rd.In af k 0 s → Sat w0 w [Fr, rdA pb d af s] → ∀ R : Ending → World → Prop,
   (∀ w', Sat w0 w' [Fr, rdA pb d af (g s).2] → R (.returned (.int .i64 ((g s).1 : Nat))) w') → Calls Tryz.prog F #[.pointer (some ⟨pb, 0, none⟩)] w R
def msR (n pb : Nat) (w : World) : Nat := if intOf ((w.cell? ⟨pb, 6, none⟩).getD (.int .i64 0)) = 0 then n - posOf' pb w + 1 else 0
where posOf' (pb : Nat) (w : World) : Nat := (intOf ((w.cell? ⟨pb, 1, none⟩).getD (.int .i64 0))).toNat
theorem bF {w : World} {pb d : Nat} {af : List Tok.Tk} {s : Rd.RS} (h : RRd w pb d af s) (n : Nat) : msR n pb w = if s.f.isSome then 0 else n - s.st.pos + 1 := by
 obtain ⟨_, c1, _, c6, _⟩ := h.cells
 have hf := h.fits.2.2
 unfold msR msR.posOf'
 rw [c1, c6]
 cases e : s.f with
 | none => simp [jq, intOf]
 | some x => have := hf x e; simp [jq, intOf]; omega
theorem Bf {af : List Tok.Tk} {d : Nat} (g : Rd.RS → Nat × Rd.RS) (w0 w : World) (Fr : As) (pb : Nat) (s : Rd.RS) (k : Nat) (hk : k ≤ 500) (hin : Rd.In af k 0 s) (H : Sat w0 w [Fr, rdA pb d af s])
   (hw : (Ty.cur af s.st.pos).kind = 2 ∧ Ty.plainKind (Ty.cur af s.st.pos).text > 0 ∧ s.f = none) {R : Ending → World → Prop}
   (hR : ∀ w', Sat w0 w' [Fr, rdA pb d af (Rd.one af g s).2] → R (.returned (.int .i64 ((Rd.one af g s).1 : Nat))) w') : Calls Tryz.prog 323 #[.pointer (some ⟨pb, 0, none⟩)] w R := by
 have hlk := H.az
 have hpos := hlk.fits.1
 have hlen := hlk.wf.1
 have hlt1 := dI hpos hlk.wf (by omega : (Ty.cur af s.st.pos).kind ≠ 6)
 obtain ⟨f0, c1, _, c6, c7, gb, cap, c0, hg, t0, t1, t2⟩ := hlk.cells
 have hpb := hlk.lt
 have hts := hin.ts
 have HR : Hid (∀ w', Sat w0 w' [Fr, rdA pb d af (Rd.addT ⟨Ty.plainKind (Ty.cur af s.st.pos).text, [], [], 0⟩ (Rd.next s)).2] → R (.returned (.int .i64 ((Rd.addT ⟨Ty.plainKind (Ty.cur af s.st.pos).text, [], [], 0⟩ (Rd.next s)).1 : Nat))) w') := by
   unfold Rd.one at hR
   rw [if_pos hw] at hR
   exact hR
 obtain ⟨hkd, hpk, hf⟩ := hw
 have HS := qh H
 generalize Ty.cur af s.st.pos = t at *
 obtain ⟨kd, tx, ps⟩ := t
 dsimp only at hkd hpk t0 t1 t2 HR
 have h2 := (HS.out.ay (.cells #[.int .i64 kd, .string tx, .int .i64 ps] 138)).drew
 have HS2 := qh h2
 have k1 : ((kd : Int) == 2) = true := by simp [hkd]
 have k2 : decide ((0 : Int) < (Ty.plainKind tx : Nat)) = true := by simp; omega
 have HIN := qh hin
 have HLK := qh hlk
 clear hR H hlk h2 hkd hin
 obtain ⟨st, f⟩ := s
 cases hf
 dsimp only at *
 generalize hpkk : Ty.plainKind tx = pk at *
 have HPK := qh hpkk
 clear hpkk
 go_enter Tryz.func323, Tryz.ntmps323
 go_wp2_with fail
 go_region
 go_wp2_with fail
 refine gB _ tx (fun w1 hb1 => ?_)
 rw [HPK.out]
 have h3 := HS2.out.below hb1
 have e1 : ∀ o, w1.cell? ⟨w.heap.size, o, none⟩ = #[.int .i64 kd, .string tx, .int .i64 ps][o]? := fun o => by
   rw [hb1.cell (p := ⟨w.heap.size, o, none⟩) (by simp)]
   exact cell_of_block (heap_alloc_new w _) o
 have hz1 := hb1.size
 simp at hz1
 have q1 : w1.cell? ⟨w.heap.size, 1, none⟩ = some (.string tx) := e1 1
 have H3 := qh h3
 have hx := (Array.getElem?_eq_some_iff.1 (show w1.heap[w.heap.size]? = some _ from (hb1.block _ (by simp)).trans (heap_alloc_new w _))).1
 have hne : pb ≠ w.heap.size := by omega
 clear e1 hb1 h3
 go_wp2_with fail
 refine bC _ pb d af ⟨st, none⟩ H3.out.az ?_
 dsimp only [Option.isSome]
 obtain ⟨f3, c13, _⟩ := H3.out.az.cells
 dsimp only at c13
 go_wp2_with fail
 have h4 := H3.out.kL hlt1
 refine gB _ tx (fun w2 hb2 => ?_)
 rw [HPK.out]
 have H4 := qh (h4.below hb2)
 clear h4 hb2
 go_wp2_with fail
 refine dO ⟨pk, [], [], 0⟩ (.slice none 0 0) (.slice none 0 0) ((H4.out.nil 141 2).nil 3 1) (by show st.ts.length ≤ 3000; omega) (fun w3 h5 => ?_)
 have H5 := qh h5
 clear h5
 go_wp2_with fail
 exact HR.out _ H5.out
theorem DV {af : List Tok.Tk} {g : Rd.RS → Nat × Rd.RS} {s : Rd.RS} (hno : ¬ ((Ty.cur af s.st.pos).kind = 2 ∧ Ty.plainKind (Ty.cur af s.st.pos).text > 0 ∧ s.f = none)) (h : Rd.peek af [91] s = true) :
   Rd.one af g s = Rd.addT ⟨8, [], [], (g (Rd.next s)).1⟩ (Rd.must af [93] (g (Rd.next s)).2) := by
 unfold Rd.one; rw [if_neg hno, if_pos h]
theorem DI {af : List Tok.Tk} {g : Rd.RS → Nat × Rd.RS} {s : Rd.RS} (hno : ¬ ((Ty.cur af s.st.pos).kind = 2 ∧ Ty.plainKind (Ty.cur af s.st.pos).text > 0 ∧ s.f = none)) (h : Rd.peek af [91] s = false) (h2 : Rd.peek af [123] s = true) :
   Rd.one af g s = Rd.addT ⟨7, (Rd.fields af g (af.length + 1) [] (Rd.next s)).1, [], 0⟩ (Rd.fields af g (af.length + 1) [] (Rd.next s)).2 := by
 unfold Rd.one; rw [if_neg hno, if_neg (by rw [h]; simp), if_pos h2]
theorem Ei {af : List Tok.Tk} {g : Rd.RS → Nat × Rd.RS} {s : Rd.RS} (hno : ¬ ((Ty.cur af s.st.pos).kind = 2 ∧ Ty.plainKind (Ty.cur af s.st.pos).text > 0 ∧ s.f = none)) (h : Rd.peek af [91] s = false) (h2 : Rd.peek af [123] s = false) :
   Rd.one af g s = Rd.round af g (Rd.args af g (af.length + 1) [] (Rd.must af [40] s)).1 (Rd.args af g (af.length + 1) [] (Rd.must af [40] s)).2 := by
 unfold Rd.one; rw [if_neg hno, if_neg (by rw [h]; simp), if_neg (by rw [h2]; simp)]
theorem pJ {af : List Tok.Tk} {g : Rd.RS → Nat × Rd.RS} {n : Nat} {l : List (ByteArray × Nat)} {s : Rd.RS} (hn : n ≠ 0) (h : Rd.peek af [125] s = true) : Rd.fields af g n l s = (l, Rd.next s) := by
 cases n with
 | zero => exact absurd rfl hn
 | succ n => rw [Rd.fields, if_pos h]
theorem yz {af : List Tok.Tk} {g : Rd.RS → Nat × Rd.RS} {n : Nat} {l : List (ByteArray × Nat)} {s : Rd.RS} (h : Rd.peek af [125] s = false) (hf : s.f = none) :
   Rd.fields af g (n + 1) l s = Rd.fields af g n (l ++ [((Rd.ident af (l.map Prod.fst) s).1, (g (Rd.must af [58] (Rd.ident af (l.map Prod.fst) s).2)).1)]) (Rd.must af [59] (g (Rd.must af [58] (Rd.ident af (l.map Prod.fst) s).2)).2) := by
 rw [Rd.fields, if_neg (by rw [h]; simp), if_neg (by rw [hf]; simp)]
theorem Bo {af : List Tok.Tk} {g : Rd.RS → Nat × Rd.RS} {n : Nat} {l : List Nat} {s : Rd.RS} (h : Rd.peek af [41] s = false) (hf : s.f = none) :
   Rd.args af g (n + 1) l s = Rd.args af g n (l ++ [(g (if l.length > 0 then Rd.must af [44] s else s)).1]) (g (if l.length > 0 then Rd.must af [44] s else s)).2 := by
 rw [Rd.args, if_neg (by rw [h]; simp), if_neg (by rw [hf]; simp)]
theorem xQ {af : List Tok.Tk} {g : Rd.RS → Nat × Rd.RS} {n : Nat} {l : List Nat} {s : Rd.RS} (hn : n ≠ 0) (h : Rd.peek af [41] s = true) : Rd.args af g n l s = (l, Rd.next s) := by
 cases n with
 | zero => exact absurd rfl hn
 | succ n => rw [Rd.args, if_pos h]
theorem xK {af : List Tok.Tk} {d c : Nat} {T : Ty.M Nat} {g : Rd.RS → Nat × Rd.RS} (hc : c ≤ 100) (hspec : Ah 291 af d g) (hT : Rd.Sim af c T g) (hA : Ty.Adv 1 0 0 T) (hI : Rd.Idle g)
   (w0 w : World) (Fr : As) (pb : Nat) (s : Rd.RS) (k : Nat) (hk : k ≤ 400) (hin : Rd.In af k 0 s) (hf : s.f = none) (H : Sat w0 w [Fr, rdA pb d af s])
   (hno : ¬ ((Ty.cur af s.st.pos).kind = 2 ∧ Ty.plainKind (Ty.cur af s.st.pos).text > 0 ∧ s.f = none)) {R : Ending → World → Prop}
   (hR : ∀ w', Sat w0 w' [Fr, rdA pb d af (Rd.one af g s).2] → R (.returned (.int .i64 ((Rd.one af g s).1 : Nat))) w') : Calls Tryz.prog 323 #[.pointer (some ⟨pb, 0, none⟩)] w R := by
 have hlk := H.az
 have hlen := hlk.wf.1
 have HWF := qh hlk.wf
 have hpos := hlk.fits.1
 obtain ⟨f0, c1, _, c6, c7, gb, cap, c0, hg, t0, t1, t2⟩ := hlk.cells
 have hpb := hlk.lt
 have HR := qh hR
 have HNO := qh hno
 have HSP := qh hspec
 have HT := qh hT
 have HA := qh hA
 have HI := qh hI
 have HIN := qh hin
 have HS := qh H
 have HF := qh hf
 obtain ⟨i0, ti, tz0, tz1, tz2⟩ := info_parts jw
 obtain ⟨j0, tj, uz0, uz1, uz2⟩ := info_parts zY
 obtain ⟨k0, tk, vz0, vz1, vz2⟩ := info_parts bY
 generalize Ty.cur af s.st.pos = t at hno t0 t1 t2
 obtain ⟨kd, tx, ps⟩ := t
 dsimp only at hno t0 t1 t2
 have HS2 := qh ((HS.out.ay (.cells #[.int .i64 kd, .string tx, .int .i64 ps] 138)).drew)
 generalize hpk : Ty.plainKind tx = pk at hno
 have HPK := qh hpk
 have hcase : (((kd : Int) == 2) = true ∧ pk = 0) ∨ ((kd : Int) == 2) = false := by
   by_cases h2 : kd = 2
   · left
     exact ⟨by simp [h2], Nat.eq_zero_of_not_pos fun h => hno ⟨h2, h, hf⟩⟩
   · right; simp; omega
 clear hR H hlk hspec hT hA hI hin hf hno hpk
 go_enter Tryz.func323, Tryz.ntmps323
 go_wp2_with fail
 go_region
 have HHEAD : Hid (∀ w', Below (w.heap.size + 1) (w.alloc (.cells #[.int .i64 kd, .string tx, .int .i64 ps] 138)).drew w' → Sat w0 w' [Fr, rdA pb d af s]) := fun w' hb => HS2.out.below (hb.mono (by simp))
 obtain ⟨K, hK1, hK2, hK3⟩ : ∃ K, k ≤ K ∧ c ≤ K ∧ K ≤ 400 := ⟨max k c, by omega, by omega, by omega⟩
 rcases hcase with ⟨k1, rfl⟩ | k1
 all_goals go_wp2_with fail
 refine gB _ tx (fun w1 hb1 => ?_)
 rw [HPK.out]
 have H1 := qh (HS2.out.below hb1)
 clear hb1
 go_wp2_with fail
 rotate_left
 have H1 := HS2
 rotate_left
 all_goals
   clear c0 c1 c6 c7 t0 t1 t2 f0 hg HHEAD HS2 HS
   refine aW H1.out ⟨#[91]⟩ (fun w2 hi h2 => ?_) (fun w2 hi h2 => ?_)
   · have hone := DV (g := g) HNO.out hi
     have hp2 : s.st.pos + 1 < af.length := h2.az.fits.1
     have hin2 := HIN.out.next hp2
     have HIN2 := qh hin2
     have hin3 := (hin2.mono (j' := 0)).read HT.out HA.out HI.out
     have H2 := qh h2
     have HONE := qh hone
     clear hi h2 hone hin2
     go_wp2_with fail
     refine HSP.out _ _ _ pb _ k (by omega) (HIN2.out.mono) H2.out _ (fun w3 h3 => ?_)
     have H3 := qh h3
     have hin3 := (HIN2.out.read HT.out HA.out HI.out).must HWF.out.2 [93]
     have hts := hin3.ts
     rw [HONE.out] at HR
     generalize hq : g (Rd.next s) = q at *
     obtain ⟨n, s3⟩ := q
     clear h3 hin3 HONE
     dsimp only at *
     go_wp2_with fail
     refine aS H3.out ⟨#[93]⟩ (fun w4 h4 => ?_)
     have H4 := qh h4
     clear h4
     go_wp2_with fail
     refine dO ⟨8, [], [], n⟩ (.slice none 0 0) (.slice none 0 0) ((H4.out.nil 141 2).nil 3 1) (by show (Rd.must af [93] s3).st.ts.length ≤ 3000; omega) (fun w5 h5 => ?_)
     have H5 := qh h5
     clear h5
     go_wp2_with fail
     exact HR.out _ H5.out
   · have H2 := qh h2
     have HI2 := qh hi
     clear hi h2
     go_wp2_with fail
     refine aW H2.out ⟨#[123]⟩ (fun w3 hi h3 => ?_) (fun w3 hi h3 => ?_)
     · have hone := DI (g := g) HNO.out HI2.out hi
       rw [hone] at HR
       have hin3 := (HIN.out.next h3.az.fits.1).mono (k' := K) (j' := 1)
       have HIN3 := qh hin3
       have h4 := (h3.nil 141 2).nil 9 1
       have H4 := qh h4
       clear hi h3 h4 hone hin3
       go_wp2_with fail
       go_loopw [5, 6] (fun v u wr => ∃ (f : Nat) (l : List (ByteArray × Nat)) (ns : List ByteArray) (q : Rd.RS), l.length + f ≤ af.length + 1 ∧ ns.length + f ≤ af.length + 1 ∧ Hid (q.f = none → af.length < q.st.pos + f) ∧ Hid (ns = l.map Prod.fst) ∧ Hid (Rd.In af K 1 q) ∧ Hid (Sat w0 wr [Fr, rdA pb d af q, fdA v l, dC u ns]) ∧ Hid (Rd.fields af g (af.length + 1) [] (Rd.next s) = Rd.fields af g f l q))
         (fun _ _ wr => msR af.length pb wr)
       case atStart => exact ⟨af.length + 1, [], [], Rd.next s, by simp, by simp, fun _ => by omega, rfl, HIN3.out, H4.out, rfl⟩
       case round =>
         obtain ⟨f, l, ns, q, hlf, hnl, hfu, hns, hIn, hS, hE⟩ := hrel
         obtain ⟨a5, c5, rfl⟩ := ag (hS.out.row 2 rfl)
         obtain ⟨a6, c6, rfl⟩ := ag (hS.out.row 3 rfl)
         have HMS := qh (bF (hS.out.pick [0, 1]).az af.length)
         go_wp2_with fail
         refine aW (hS.out.at 1 rfl) ⟨#[125]⟩ (fun w4 hi h5 => ?_) (fun w4 hi h5 => ?_)
         · have hqf : q.f = none := by unfold Rd.peek at hi; cases hq : q.f with | none => rfl | some y => rw [hq] at hi; simp at hi
           have hf0 : f ≠ 0 := by have := hfu.out hqf; have := hIn.out.pos; omega
           have he := hE.out.trans (pJ hf0 hi)
           rw [he] at HR
           have h6 := h5.un4
           have hts := hIn.out.ts
           have H6 := qh h6
           clear hi h5 h6 he hfu hqf hE
           go_wp2_with fail
           refine dO ⟨7, l, [], 0⟩ _ (.slice none 0 0) ((H6.out.nil 3 1).pick [0, 1, 2, 4]) (by show q.st.ts.length ≤ 3000; omega) (fun w5 h7 => ?_)
           have H7 := qh h7
           clear h7
           go_wp2_with fail
           exact HR.out _ H7.out
         · have h6 := h5.un4
           have H6 := qh h6
           have HP := qh hi
           clear hi h5 h6
           go_wp2_with fail
           refine bC _ pb d af q (H6.out.pick [0, 1]).az ?_
           cases hqf : q.f with
           | some y =>
             have he : Rd.fields af g (af.length + 1) [] (Rd.next s) = (l, q) := by
               rw [hE.out]
               obtain ⟨st, qf⟩ := q
               cases hqf
               exact Rd.fO _ _ _ _ _ _
             rw [he] at HR
             have hts := hIn.out.ts
             clear he hqf hfu hE
             dsimp only [Option.isSome]
             go_wp2_with fail
             refine dO ⟨7, l, [], 0⟩ _ (.slice none 0 0) ((H6.out.nil 3 1).pick [0, 1, 2, 4]) (by show q.st.ts.length ≤ 3000; omega) (fun w5 h7 => ?_)
             have H7 := qh h7
             clear h7
             go_wp2_with fail
             exact HR.out _ H7.out
           | none =>
             have hfp := hfu.out hqf
             have hip := hIn.out.pos
             obtain ⟨f, rfl⟩ : ∃ f', f = f' + 1 := ⟨f - 1, by omega⟩
             have he := hE.out.trans (yz HP.out hqf)
             rw [← hns.out] at he
             have i1 := (hIn.out.ident HWF.out.2 ns).mono (k' := K) (j' := 1)
             have i2 := (i1.must HWF.out.2 [58]).mono (k' := K) (j' := 1)
             have i3 := (i2.read HT.out HA.out HI.out).mono (k' := K) (j' := 1)
             have i4 := (i3.must HWF.out.2 [59]).mono (k' := K) (j' := 1)
             have hgo : Hid ((Rd.must af [59] (g (Rd.must af [58] (Rd.ident af ns q).2)).2).f = none → q.st.pos < (Rd.must af [59] (g (Rd.must af [58] (Rd.ident af ns q).2)).2).st.pos) := fun h => by
               have a1 := Rd.dH h
               have a2 := Rd.jU i2 HT.out HA.out HI.out a1.1
               have a3 := Rd.dH a2.1
               have a4 := Rd.dA a3.1
               omega
             have HQF := qh hqf
             have HEQ := qh he
             have I2 := qh i2
             have I4 := qh i4
             clear hE he i1 i2 i3 i4 hqf hfu
             dsimp only [Option.isSome]
             go_wp2_with fail
             refine fB (H6.out.at 1 rfl) _ ns (H6.out.row 3 rfl) (by omega) (fun w5 h7 => ?_)
             have H7 := qh h7.un4
             generalize hx : Rd.ident af ns q = xq at *
             obtain ⟨x, q1⟩ := xq
             have HX := qh hx
             clear h7 hx
             dsimp only at *
             go_wp2_with (at_builtin; go_loud (refine wpList_append_lies _ rfl (.tmp 71) (.tmp 73) 161 rfl 0 9 i0 _ 1 16 Tryz.underlying161 ti tz0 tz1 tz2 rfl (by decide) _ _ (ns.map Value.string) (by rfl) ((H7.out.row 3 rfl).alloc _) ⟨w5.heap.size, 0, none⟩ 1 1 [.string x] (by rfl) (by rfl) (World.news_of_block (cs := #[.string x]) (t := 9) (fr := (0, 0)) (ak _ _ _ (by simp))) (by simp [Value.oneCell']) (by omega) (by unfold maxLen; omega) (by omega) (by simp) (w5.heap.size + 1) (by simp) ?_))
             intro g8 cap8 w8 hown8 hgrow8 hat8 hlt8
             have h8 := Prt.Sat.grow (H7.out.ay _) 3 rfl hgrow8 hown8 (by simpa using hat8)
             have h8 := h8.ent (i := 3) rfl (Q := dC _ (ns ++ [x])) (fun _ h => ed h)
             have H8 := qh h8
             clear h8 hown8 hgrow8 H7
             go_wp2_with fail
             refine aS (H8.out.at 1 rfl) ⟨#[58]⟩ (fun w9 h9 => ?_)
             have H9 := qh h9.un4
             generalize hq2 : Rd.must af [58] q1 = q2 at *
             clear h9 H8 hq2
             go_wp2_with fail
             refine HSP.out _ _ _ pb _ K (by omega) (I2.out.mono) (H9.out.at 1 rfl) _ (fun w10 h10 => ?_)
             have H10 := qh h10.un4
             generalize hx3 : g q2 = xq3 at *
             obtain ⟨n, q3⟩ := xq3
             clear h10 hx3 H9
             dsimp only at *
             go_wp2_with fail
             refine aS (H10.out.at 1 rfl) ⟨#[59]⟩ (fun w11 h11 => ?_)
             have H11 := qh h11.un4
             generalize hq4 : Rd.must af [59] q3 = q4 at *
             clear h11 H10 hq4
             go_wp2_with (at_builtin; go_loud (refine wpList_append_lies _ rfl (.tmp 81) (.tmp 85) 67 rfl 0 141 j0 _ 2 24 Tryz.underlying67 tj uz0 uz1 uz2 rfl (by decide) _ _ (l.flatMap jb) (by rfl) ((H11.out.row 2 rfl).alloc _) ⟨w11.heap.size, 0, none⟩ 1 1 [.string x, .int .i64 (n : Nat)] (by rfl) (by rfl) (World.news_of_block (cs := #[.string x, .int .i64 (n : Nat)]) (t := 141) (fr := (0, 0)) (ak _ _ _ (by simp))) (by simp [Value.oneCell']) (by omega) (by unfold maxLen; omega) (by omega) (by simp) (w11.heap.size + 1) (by simp) ?_))
             intro g12 cap12 w12 hown12 hgrow12 hat12 hlt12
             have h12 := Prt.Sat.grow (H11.out.ay _) 2 rfl hgrow12 hown12 (by simpa using hat12)
             have h12 := h12.ent (i := 2) rfl (Q := fdA _ (l ++ [(x, n)])) (fun _ h => qP h)
             have h12 : Sat w0 w12 [Fr, rdA pb d af q4, fdA (.slice (some ⟨g12, 0, none⟩) (l.length + 1) cap12) (l ++ [(x, n)]), dC (.slice (some ⟨g8, 0, none⟩) (ns.length + 1) cap8) (ns ++ [x])] := h12
             have HMS2 := qh (bF (h12.pick [0, 1]).az af.length)
             have H12 := qh h12
             clear h12 hown12 hgrow12 H11
             go_wp2_with fail
             go_roundw
             case rel => exact ⟨f, l ++ [(x, n)], ns ++ [x], q4, by simp; omega, by simp; omega, fun h => by have := hgo.out h; omega, by rw [hns.out, List.map_append]; rfl, I4.out, H12.out, HEQ.out⟩
             case measure =>
               rw [HMS.out, HMS2.out, HQF.out]
               cases hq4 : q4.f with
               | none => have := hgo.out hq4; simp; omega
               | some y => simp
     · have hone := Ei (g := g) HNO.out HI2.out hi
       rw [hone] at HR
       have H3 := qh h3
       clear hi h3 hone
       go_wp2_with fail
       refine aS H3.out ⟨#[40]⟩ (fun w4 h4 => ?_)
       have h5 := h4.nil 3 1
       have H5 := qh h5
       have hin4 := (HIN.out.must HWF.out.2 [40]).mono (k' := K) (j' := 0)
       have HIN4 := qh hin4
       generalize hq0 : Rd.must af [40] s = q0 at *
       clear h4 h5 hin4 hq0
       go_wp2_with fail
       go_loopw [9] (fun v wr => ∃ (f : Nat) (l : List Nat) (q : Rd.RS), l.length + f ≤ af.length + 1 ∧ Hid (q.f = none → af.length < q.st.pos + f) ∧ Hid (Rd.In af K 0 q) ∧ Hid (Sat w0 wr [Fr, rdA pb d af q, inA v l]) ∧ Hid (Rd.args af g (af.length + 1) [] q0 = Rd.args af g f l q))
         (fun _ wr => msR af.length pb wr)
       case atStart => exact ⟨af.length + 1, [], q0, by simp, fun _ => by omega, HIN4.out, H5.out, rfl⟩
       case round =>
         obtain ⟨f, l, q, hlf, hfu, hIn, hS, hE⟩ := hrel
         obtain ⟨a9, c9, rfl⟩ := ag (hS.out.row 2 rfl)
         have HMS := qh (bF (hS.out.pick [0, 1]).az af.length)
         go_wp2_with fail
         refine aW (hS.out.at 1 rfl) ⟨#[41]⟩ (fun w5 hi h6 => ?_) (fun w5 hi h6 => ?_)
         · have hqf : q.f = none := by unfold Rd.peek at hi; cases hq : q.f with | none => rfl | some y => rw [hq] at hi; simp at hi
           have hf0 : f ≠ 0 := by have := hfu.out hqf; have := hIn.out.pos; omega
           have he := hE.out.trans (xQ hf0 hi)
           rw [he] at HR
           have hiq := (hIn.out.next (h6.az.fits.1)).mono (k' := K) (j' := 0)
           have HIQ := qh hiq
           have HQ := qh h6.un3
           clear hi h6 he hfu hqf hE hiq hS
           dsimp only at HR
           go_wp2_with fail
           refine aW (HQ.out.at 1 rfl) ⟨#[61, 62]⟩ (fun wa hi ha => ?_) (fun wa hi ha => ?_)
           · have hr : Rd.round af g l (Rd.next q) = Rd.addT ⟨9, [], l, (g (Rd.next (Rd.next q))).1⟩ (g (Rd.next (Rd.next q))).2 := by unfold Rd.round; rw [if_pos hi]
             rw [hr] at HR
             have i1 := (HIQ.out.next ha.az.fits.1).mono (k' := K) (j' := 0)
             have i2 := (i1.read HT.out HA.out HI.out).ts
             have I1 := qh i1
             have HWA := qh ha.un3
             clear hi ha hr i1
             go_wp2_with fail
             refine HSP.out _ _ _ pb _ K (by omega) I1.out (HWA.out.at 1 rfl) _ (fun wb hb => ?_)
             have HWB := qh hb.un3
             generalize hx3 : g (Rd.next (Rd.next q)) = xq3 at *
             obtain ⟨n, q3⟩ := xq3
             clear hb hx3 HWA
             dsimp only at *
             go_wp2_with fail
             refine dO ⟨9, [], l, n⟩ (.slice none 0 0) _ ((HWB.out.nil 141 2).pick [0, 1, 3, 2]) (by show q3.st.ts.length ≤ 3000; omega) (fun wc hc => ?_)
             have HWC := qh hc
             clear hc
             go_wp2_with fail
             exact HR.out _ HWC.out
           · have hr : Rd.round af g l (Rd.next q) = if l.length ≠ 1 then (0, Rd.wrong af 1 (Rd.next q)) else (l.headD 0, (Rd.next q)) := by unfold Rd.round; rw [if_neg (by rw [show Rd.peek af [61, 62] (Rd.next q) = false from hi]; simp)]
             rw [hr] at HR
             have HWA := qh ha.un3
             clear hi ha hr
             by_cases hl : l.length = 1
             · rw [if_neg (by omega)] at HR
               obtain ⟨n, rfl⟩ := List.length_eq_one_iff.1 hl
               have hn := HWA.out.row 2 rfl
               obtain ⟨gg, capg, e, _, _⟩ := hn.form (by simp)
               cases e
               have z2 : wa.cell? ⟨gg, 0, none⟩ = some (.int .i64 n) := by have := World.ownsRow.cells hn (g := gg) rfl 0 _ rfl; rwa [Addr.add_lit] at this
               clear hn hl
               go_wp2_with fail
               exact HR.out _ (HWA.out.pick [0, 1])
             · have hl2 : ((l.length : Int) != 1) = true := by simp; omega
               rw [if_pos hl] at HR
               clear hl
               go_wp2_with fail
               refine eY (HWA.out.pick [0, 1]) 1 (by omega) (fun wb hb => ?_)
               have HWB := qh hb
               clear hb
               go_wp2_with fail
               exact HR.out _ HWB.out
         · have H6 := qh h6.un3
           have HP := qh hi
           clear hi h6
           go_wp2_with fail
           refine bC _ pb d af q (H6.out.pick [0, 1]).az ?_
           cases hqf : q.f with
           | some y =>
             have he : Rd.args af g (af.length + 1) [] q0 = (l, q) := by
               rw [hE.out]
               obtain ⟨st, qf⟩ := q
               cases hqf
               exact Rd.jF _ _ _ _ _ _
             rw [he] at HR
             have HIQ := hIn
             have HQ := H6
             clear he hqf hfu hE hS H6
             dsimp only [Option.isSome] at *
             go_wp2_with fail
             refine aW (HQ.out.at 1 rfl) ⟨#[61, 62]⟩ (fun wa hi ha => ?_) (fun wa hi ha => ?_)
             · have hr : Rd.round af g l q = Rd.addT ⟨9, [], l, (g (Rd.next q)).1⟩ (g (Rd.next q)).2 := by unfold Rd.round; rw [if_pos hi]
               rw [hr] at HR
               have i1 := (HIQ.out.next ha.az.fits.1).mono (k' := K) (j' := 0)
               have i2 := (i1.read HT.out HA.out HI.out).ts
               have I1 := qh i1
               have HWA := qh ha.un3
               clear hi ha hr i1
               go_wp2_with fail
               refine HSP.out _ _ _ pb _ K (by omega) I1.out (HWA.out.at 1 rfl) _ (fun wb hb => ?_)
               have HWB := qh hb.un3
               generalize hx3 : g (Rd.next q) = xq3 at *
               obtain ⟨n, q3⟩ := xq3
               clear hb hx3 HWA
               dsimp only at *
               go_wp2_with fail
               refine dO ⟨9, [], l, n⟩ (.slice none 0 0) _ ((HWB.out.nil 141 2).pick [0, 1, 3, 2]) (by show q3.st.ts.length ≤ 3000; omega) (fun wc hc => ?_)
               have HWC := qh hc
               clear hc
               go_wp2_with fail
               exact HR.out _ HWC.out
             · have hr : Rd.round af g l q = if l.length ≠ 1 then (0, Rd.wrong af 1 q) else (l.headD 0, q) := by unfold Rd.round; rw [if_neg (by rw [show Rd.peek af [61, 62] q = false from hi]; simp)]
               rw [hr] at HR
               have HWA := qh ha.un3
               clear hi ha hr
               by_cases hl : l.length = 1
               · rw [if_neg (by omega)] at HR
                 obtain ⟨n, rfl⟩ := List.length_eq_one_iff.1 hl
                 have hn := HWA.out.row 2 rfl
                 obtain ⟨gg, capg, e, _, _⟩ := hn.form (by simp)
                 cases e
                 have z2 : wa.cell? ⟨gg, 0, none⟩ = some (.int .i64 n) := by have := World.ownsRow.cells hn (g := gg) rfl 0 _ rfl; rwa [Addr.add_lit] at this
                 clear hn hl
                 go_wp2_with fail
                 exact HR.out _ (HWA.out.pick [0, 1])
               · have hl2 : ((l.length : Int) != 1) = true := by simp; omega
                 rw [if_pos hl] at HR
                 clear hl
                 go_wp2_with fail
                 refine eY (HWA.out.pick [0, 1]) 1 (by omega) (fun wb hb => ?_)
                 have HWB := qh hb
                 clear hb
                 go_wp2_with fail
                 exact HR.out _ HWB.out
           | none =>
             have hfp := hfu.out hqf
             have hip := hIn.out.pos
             obtain ⟨f, rfl⟩ : ∃ f', f = f' + 1 := ⟨f - 1, by omega⟩
             have he := hE.out.trans (Bo HP.out hqf)
             have HQF := qh hqf
             have HS6 := H6
             clear hE hqf hfu hS
             dsimp only [Option.isSome]
             by_cases hl0 : l.length = 0
             · rw [if_neg (by omega)] at he
               have k9 : decide (0 < l.length) = false := decide_eq_false (by omega)
               have k8 : decide ((0 : Int) < l.length) = false := decide_eq_false (by omega)
               have i3 := (hIn.out.read HT.out HA.out HI.out).mono (k' := K) (j' := 0)
               have hgo : Hid ((g q).2.f = none → q.st.pos < (g q).2.st.pos) := fun h => (Rd.jU hIn.out HT.out HA.out HI.out h).2
               have HEQ := qh he
               have I3 := qh i3
               clear he i3 hl0
               go_wp2_with fail
               refine HSP.out _ _ _ pb _ K (by omega) hIn.out (H6.out.at 1 rfl) _ (fun w7 h7 => ?_)
               have H7 := qh h7.un3
               generalize hx3 : g q = xq3 at *
               obtain ⟨n, q3⟩ := xq3
               clear h7 hx3
               dsimp only at *
               go_wp2_with (at_builtin; go_loud (refine wpList_append_lies _ rfl (.tmp 106) (.tmp 109) 39 rfl 0 3 k0 _ 1 8 Tryz.underlying39 tk vz0 vz1 vz2 rfl (by decide) _ _ (l.map aA) (by rfl) ((H7.out.row 2 rfl).alloc _) ⟨w7.heap.size, 0, none⟩ 1 1 [.int .i64 (n : Nat)] (by rfl) (by rfl) (World.news_of_block (cs := #[.int .i64 (n : Nat)]) (t := 3) (fr := (0, 0)) (ak _ _ _ (by simp))) (by simp [Value.oneCell']) (by omega) (by unfold maxLen; omega) (by omega) (by simp) (w7.heap.size + 1) (by simp) ?_))
               intro g9 cap9 w9 hown9 hgrow9 hat9 hlt9
               have h9 := Prt.Sat.grow (H7.out.ay _) 2 rfl hgrow9 hown9 (by simpa using hat9)
               have h9 := h9.ent (i := 2) rfl (Q := inA _ (l ++ [n])) (fun _ h => bz h)
               have h9 : Sat w0 w9 [Fr, rdA pb d af q3, inA (.slice (some ⟨g9, 0, none⟩) (l.length + 1) cap9) (l ++ [n])] := h9
               have HMS2 := qh (bF (h9.pick [0, 1]).az af.length)
               have H9 := qh h9
               clear h9 hown9 hgrow9 H7
               go_wp2_with fail
               go_roundw
               case rel => exact ⟨f, l ++ [n], q3, by simp; omega, fun h => by have := hgo.out h; omega, I3.out, H9.out, HEQ.out⟩
               case measure =>
                 rw [HMS.out, HMS2.out, HQF.out]
                 cases hq4 : q3.f with
                 | none => have := hgo.out hq4; simp; omega
                 | some y => simp
             · have hl1 : 0 < l.length := by omega
               rw [if_pos hl1] at he
               have i2 := (hIn.out.must HWF.out.2 [44]).mono (k' := K) (j' := 0)
               have i3 := (i2.read HT.out HA.out HI.out).mono (k' := K) (j' := 0)
               have hgo : Hid ((g (Rd.must af [44] q)).2.f = none → q.st.pos < (g (Rd.must af [44] q)).2.st.pos) := fun h => by
                 have a2 := Rd.jU i2 HT.out HA.out HI.out h
                 have a3 := Rd.dH a2.1
                 omega
               have HEQ := qh he
               have I2 := qh i2
               have I3 := qh i3
               clear he i2 i3 hl0
               go_wp2_with fail
               refine aS (H6.out.at 1 rfl) ⟨#[44]⟩ (fun w6 h8 => ?_)
               have H8 := qh h8.un3
               generalize hq2 : Rd.must af [44] q = q2 at *
               clear h8 hq2
               go_wp2_with fail
               refine HSP.out _ _ _ pb _ K (by omega) I2.out (H8.out.at 1 rfl) _ (fun w7 h7 => ?_)
               have H7 := qh h7.un3
               generalize hx3 : g q2 = xq3 at *
               obtain ⟨n, q3⟩ := xq3
               clear h7 hx3 H8
               dsimp only at *
               go_wp2_with (at_builtin; go_loud (refine wpList_append_lies _ rfl (.tmp 106) (.tmp 109) 39 rfl 0 3 k0 _ 1 8 Tryz.underlying39 tk vz0 vz1 vz2 rfl (by decide) _ _ (l.map aA) (by rfl) ((H7.out.row 2 rfl).alloc _) ⟨w7.heap.size, 0, none⟩ 1 1 [.int .i64 (n : Nat)] (by rfl) (by rfl) (World.news_of_block (cs := #[.int .i64 (n : Nat)]) (t := 3) (fr := (0, 0)) (ak _ _ _ (by simp))) (by simp [Value.oneCell']) (by omega) (by unfold maxLen; omega) (by omega) (by simp) (w7.heap.size + 1) (by simp) ?_))
               intro g9 cap9 w9 hown9 hgrow9 hat9 hlt9
               have h9 := Prt.Sat.grow (H7.out.ay _) 2 rfl hgrow9 hown9 (by simpa using hat9)
               have h9 := h9.ent (i := 2) rfl (Q := inA _ (l ++ [n])) (fun _ h => bz h)
               have h9 : Sat w0 w9 [Fr, rdA pb d af q3, inA (.slice (some ⟨g9, 0, none⟩) (l.length + 1) cap9) (l ++ [n])] := h9
               have HMS2 := qh (bF (h9.pick [0, 1]).az af.length)
               have H9 := qh h9
               clear h9 hown9 hgrow9 H7
               go_wp2_with fail
               go_roundw
               case rel => exact ⟨f, l ++ [n], q3, by simp; omega, fun h => by have := hgo.out h; omega, I3.out, H9.out, HEQ.out⟩
               case measure =>
                 rw [HMS.out, HMS2.out, HQF.out]
                 cases hq4 : q3.f with
                 | none => have := hgo.out hq4; simp; omega
                 | some y => simp
theorem pY {af : List Tok.Tk} {d c : Nat} {T : Ty.M Nat} {g : Rd.RS → Nat × Rd.RS} (hc : c ≤ 100) (hspec : Ah 291 af d g) (hT : Rd.Sim af c T g) (hA : Ty.Adv 1 0 0 T) (hI : Rd.Idle g)
   (w0 w : World) (Fr : As) (pb : Nat) (s : Rd.RS) (k : Nat) (hk : k ≤ 400) (hin : Rd.In af k 0 s) (hf : s.f = none) (H : Sat w0 w [Fr, rdA pb d af s]) {R : Ending → World → Prop}
   (hR : ∀ w', Sat w0 w' [Fr, rdA pb d af (Rd.one af g s).2] → R (.returned (.int .i64 ((Rd.one af g s).1 : Nat))) w') : Calls Tryz.prog 323 #[.pointer (some ⟨pb, 0, none⟩)] w R := by
 by_cases hw : (Ty.cur af s.st.pos).kind = 2 ∧ Ty.plainKind (Ty.cur af s.st.pos).text > 0 ∧ s.f = none
 · exact Bf g w0 w Fr pb s k (by omega) hin H hw hR
 · exact xK hc hspec hT hA hI w0 w Fr pb s k hk hin hf H hw hR
theorem CO {af : List Tok.Tk} {S : Rd.RS → Nat × Rd.RS} {n : Nat} {l : List Nat} {s : Rd.RS} (h : Rd.peek af [124] s = true) :
   Rd.bars af S (n + 1) l s = Rd.bars af S n (l ++ [(S (Rd.next s)).1]) (S (Rd.next s)).2 := by
 rw [Rd.bars, if_pos h]
theorem yB {af : List Tok.Tk} {S : Rd.RS → Nat × Rd.RS} {n : Nat} {l : List Nat} {s : Rd.RS} (h : Rd.peek af [124] s = false) : Rd.bars af S n l s = (l, s) := by
 cases n with
 | zero => rfl
 | succ n => rw [Rd.bars, if_neg (by rw [h]; simp)]
theorem zX {af : List Tok.Tk} {k c : Nat} {s : Rd.RS} (h : Rd.In af k 0 s) (hs : s.f = none) {T : Ty.M Nat} {g : Rd.RS → Nat × Rd.RS} (hT : Rd.Sim af c T g) (hA : Ty.Adv 1 0 0 T) (hg : (g s).2.f = none) : s.st.pos < (g s).2.st.pos := by
 obtain ⟨st, f⟩ := s
 cases hs
 have h1 := hT st h.ok
 cases e : T st with
 | error f =>
   rw [e] at h1
   obtain ⟨a, s1, g1, o1⟩ := h1
   rw [g1] at hg; cases hg
 | ok p =>
   obtain ⟨a, s1⟩ := p
   rw [e] at h1
   rw [h1.1]
   have := hA _ _ _ e
   show st.pos < s1.pos
   omega
theorem nR (af : List Tok.Tk) (hL : ∀ t, af.getLast? = some t → t.kind = 6) : ∀ r, r ≤ 20 → Ah 291 af (20 - r) (Rd.read af r) := by
 intro r
 induction r with
 | zero =>
   intro _ w0 w Fr pb s k hk hin H R hR
   have HR := qh hR
   have HS := qh H
   have hsome : (Rd.wrong af 8 s).f.isNone = false := by unfold Rd.wrong; cases h : s.f with | none => rfl | some y => simp [h]
   have HN := qh hsome
   clear hR H hin hsome
   rw [Rd.read] at HR
   go_enter Tryz.func291, Tryz.ntmps291
   go_wp2_with fail
   refine bU HS.out (by omega) (fun w1 h1 => ?_)
   rw [if_pos (show 20 - 0 = 20 from rfl)] at h1 ⊢
   rw [HN.out]
   have H1 := qh h1
   clear h1
   go_wp2_with fail
   refine bg H1.out (fun w2 h2 => ?_)
   have H2 := qh h2
   clear h2
   go_wp2_with fail
   exact HR.out _ H2.out
 | succ r ih =>
   intro hr w0 w Fr pb s k hk hin H R hR
   have e20 : 20 - (r + 1) + 1 = 20 - r := by omega
   have hsp := ih (by omega)
   have hd : 20 - (r + 1) ≤ 19 := by omega
   rw [← e20] at hsp
   generalize 20 - (r + 1) = d at *
   have hlk := H.az
   have hlen := hlk.wf.1
   have HONE := qh (fun w Fr (s : Rd.RS) k hk hin hf H R hR => @pY af (d + 1) r (Ty.typ af r) (Rd.read af r) (by omega) hsp (Rd.mf hL r) (Ty.typ_adv af r) (Rd.jc af r) w0 w Fr pb s k hk hin hf H R hR)
   have hsim := Rd.wI hL (Rd.mf hL r) (Ty.typ_adv af r) (Rd.jc af r)
   have hadv := Ty.single_adv (af := af) (Ty.typ_adv af r)
   have HSIM := qh hsim
   have HADV := qh hadv
   have HR := qh hR
   have HS := qh H
   have HIN := qh hin
   obtain ⟨k0, tk, vz0, vz1, vz2⟩ := info_parts bY
   clear ih e20 hsp hlk hsim hadv hR H hin
   rw [Rd.read] at HR
   generalize Rd.one af (Rd.read af r) = S at *
   cases hf : s.f with
   | some y =>
     rw [if_pos (by rw [hf]; rfl)] at HR
     have HN : Hid (s.f.isNone = false) := by rw [hf]; rfl
     clear hf
     go_enter Tryz.func291, Tryz.ntmps291
     go_wp2_with fail
     refine bU HS.out (by omega) (fun w1 h1 => ?_)
     rw [if_neg (by omega)] at h1 ⊢
     rw [HN.out]
     have H1 := qh h1
     clear h1
     go_wp2_with fail
     refine bg H1.out (fun w2 h2 => ?_)
     have H2 := qh h2
     clear h2
     go_wp2_with fail
     exact HR.out _ H2.out
   | none =>
     rw [if_neg (by rw [hf]; simp)] at HR
     have HN : Hid (s.f.isNone = true) := by rw [hf]; rfl
     have HF := qh hf
     clear hf
     obtain ⟨K, hK1, hK2, hK3⟩ : ∃ K, k ≤ K ∧ r + 1 ≤ K ∧ K ≤ 400 := ⟨max k (r + 1), by omega, by omega, by omega⟩
     go_enter Tryz.func291, Tryz.ntmps291
     go_wp2_with fail
     refine bU HS.out (by omega) (fun w1 h1 => ?_)
     rw [if_neg (by omega)] at h1 ⊢
     rw [HN.out]
     have H1 := qh h1
     clear h1
     go_wp2_with fail
     refine HONE.out w1 Fr s K (by omega) (HIN.out.mono) HF.out H1.out _ (fun w2 h2 => ?_)
     have i2 := (HIN.out.sim HF.out HSIM.out (HADV.out.mono (d' := 0) (c' := 0) (e' := 0))).mono (k' := K) (j' := 0)
     generalize hx : S s = xq at *
     obtain ⟨n, s1⟩ := xq
     dsimp only at *
     have h3 := h2.aj (.cells #[.int .i64 (n : Nat)] 3) w2.heap.size
     have h3 := h3.ent (i := 2) rfl (Q := inA (.slice (some ⟨w2.heap.size, 0, none⟩) 1 1) [n]) (fun _ h => Prt.ji h (by decide) rfl rfl)
     have H3 := qh h3
     have I2 := qh i2
     clear h2 h3 hx i2
     go_wp2_with fail
     go_loopw [4] (fun v wr => ∃ (f : Nat) (l : List Nat) (q : Rd.RS), l.length + f ≤ af.length + 2 ∧ 1 ≤ l.length ∧ Hid (q.f = none → af.length < q.st.pos + f) ∧ Hid (Rd.In af K 0 q) ∧ Hid (Sat w0 wr [Fr, rdA pb (d + 1) af q, inA v l]) ∧ Hid (Rd.bars af S (af.length + 1) [n] s1 = Rd.bars af S f l q))
       (fun _ wr => msR af.length pb wr)
     case atStart => exact ⟨af.length + 1, [n], s1, by simp; omega, by simp, fun _ => by omega, I2.out, H3.out, rfl⟩
     case round =>
       obtain ⟨f, l, q, hlf, hl1, hfu, hIn, hS, hE⟩ := hrel
       obtain ⟨g9, c9, rfl, _, _⟩ := (hS.out.row 2 rfl).form (by omega)
       have HMS := qh (bF (hS.out.pick [0, 1]).az af.length)
       go_wp2_with fail
       refine aW (hS.out.at 1 rfl) ⟨#[124]⟩ (fun w4 hi h5 => ?_) (fun w4 hi h5 => ?_)
       · have hqf : q.f = none := by unfold Rd.peek at hi; cases hq : q.f with | none => rfl | some y => rw [hq] at hi; simp at hi
         have hfp := hfu.out hqf
         have hip := hIn.out.pos
         obtain ⟨f, rfl⟩ : ∃ f', f = f' + 1 := ⟨f - 1, by omega⟩
         have he := hE.out.trans (CO hi)
         have hlk := h5.az
         have i3 := (hIn.out.next hlk.fits.1).mono (k' := K) (j' := 0)
         have hnf : (Rd.next q).f = none := hqf
         have i4 := (i3.sim hnf HSIM.out (HADV.out.mono (d' := 0) (c' := 0) (e' := 0))).mono (k' := K) (j' := 0)
         have hgo : Hid ((S (Rd.next q)).2.f = none → q.st.pos + 1 < (S (Rd.next q)).2.st.pos) := fun h => zX i3 hnf HSIM.out HADV.out h
         have H5 := qh h5.un3
         have I3 := qh i3
         have I4 := qh i4
         have HEQ := qh he
         have HNF := qh hnf
         have HQF := qh hqf
         clear hi h5 hE he hlk i3 i4 hnf hqf hfu
         go_wp2_with fail
         refine HONE.out w4 _ (Rd.next q) K (by omega) I3.out HNF.out (H5.out.at 1 rfl) _ (fun w6 h6 => ?_)
         have H6 := qh h6.un3
         generalize hx3 : S (Rd.next q) = xq3 at *
         obtain ⟨n', q3⟩ := xq3
         clear h6 hx3 H5
         dsimp only at *
         go_wp2_with (at_builtin; go_loud (refine wpList_append_lies _ rfl (.tmp 12) (.tmp 15) 39 rfl 0 3 k0 _ 1 8 Tryz.underlying39 tk vz0 vz1 vz2 rfl (by decide) _ _ (l.map aA) (by rfl) ((H6.out.row 2 rfl).alloc _) ⟨w6.heap.size, 0, none⟩ 1 1 [.int .i64 (n' : Nat)] (by rfl) (by rfl) (World.news_of_block (cs := #[.int .i64 (n' : Nat)]) (t := 3) (fr := (0, 0)) (ak _ _ _ (by simp))) (by simp [Value.oneCell']) (by omega) (by unfold maxLen; omega) (by omega) (by simp) (w6.heap.size + 1) (by simp) ?_))
         intro g7 cap7 w7 hown7 hgrow7 hat7 hlt7
         have h7 := Prt.Sat.grow (H6.out.ay _) 2 rfl hgrow7 hown7 (by simpa using hat7)
         have h7 := h7.ent (i := 2) rfl (Q := inA _ (l ++ [n'])) (fun _ h => bz h)
         have h7 : Sat w0 w7 [Fr, rdA pb (d + 1) af q3, inA (.slice (some ⟨g7, 0, none⟩) (l.length + 1) cap7) (l ++ [n'])] := h7
         have HMS2 := qh (bF (h7.pick [0, 1]).az af.length)
         have H7 := qh h7
         clear h7 hown7 hgrow7 H6
         go_wp2_with fail
         go_roundw
         case rel => exact ⟨f, l ++ [n'], q3, by simp; omega, by simp, fun h => by have := hgo.out h; omega, I4.out, H7.out, HEQ.out⟩
         case measure =>
           rw [HMS.out, HMS2.out, HQF.out]
           cases hq4 : q3.f with
           | none => have := hgo.out hq4; simp; omega
           | some y => simp
       · have he := hE.out.trans (yB hi)
         have H5 := qh h5.un3
         rw [he] at HR
         dsimp only at HR
         unfold Rd.rU at HR
         have hn := H5.out.row 2 rfl
         have z2 : w4.cell? ⟨g9, 0, none⟩ = some (.int .i64 (l.headD 0 : Nat)) := by
           have := World.ownsRow.cells hn (g := g9) rfl 0 (aA (l.headD 0)) (by cases l with | nil => simp at hl1 | cons a l => rfl)
           rwa [Addr.add_lit] at this
         have hts := hIn.out.ts
         generalize l.headD 0 = hd0 at *
         clear hi h5 hE he hfu hS hn
         by_cases hl2 : 1 < l.length
         · have k1 : decide (1 < l.length) = true := decide_eq_true hl2
           have k2 : decide ((1 : Int) < l.length) = true := decide_eq_true (by omega)
           go_wp2_with fail
           refine bC _ pb (d + 1) af q (H5.out.pick [0, 1]).az ?_
           cases hqf : q.f with
           | none =>
             rw [if_pos ⟨hl2, hqf⟩] at HR
             clear hqf
             dsimp only [Option.isSome]
             go_wp2_with fail
             refine dO ⟨10, [], l, 0⟩ (.slice none 0 0) _ ((H5.out.nil 141 2).pick [0, 1, 3, 2]) (by omega) (fun w6 h6 => ?_)
             have H6 := qh h6
             clear h6
             go_wp2_with fail
             refine bg H6.out (fun w7 h7 => ?_)
             have H7 := qh h7
             clear h7
             go_wp2_with fail
             exact HR.out _ H7.out
           | some y =>
             rw [if_neg (by rw [hqf]; simp)] at HR
             clear hqf
             dsimp only [Option.isSome]
             go_wp2_with fail
             refine bg (H5.out.pick [0, 1]) (fun w7 h7 => ?_)
             have H7 := qh h7
             clear h7
             go_wp2_with fail
             exact HR.out _ H7.out
         · have k1 : decide (1 < l.length) = false := decide_eq_false hl2
           have k2 : decide ((1 : Int) < l.length) = false := decide_eq_false (by omega)
           rw [if_neg (fun h => hl2 h.1)] at HR
           go_wp2_with fail
           refine bg (H5.out.pick [0, 1]) (fun w7 h7 => ?_)
           have H7 := qh h7
           clear h7
           go_wp2_with fail
           exact HR.out _ H7.out
theorem Prt.Sat.EM {w0 w : World} {Fr : As} {pb : Nat} {af : List Tok.Tk} {lv : Value} (hT : gJ af ∧ 0 < af.length) (h : Sat w0 w [Fr, tkA lv af, blk pb (.cells #[lv, .int .i64 0, .int .i64 0, .slice none 0 0, .slice none 0 0, .int .i64 0, .int .i64 0, .int .i64 0] 152 (0, 0))]) : Sat w0 w [Fr, rdA pb 0 af ⟨⟨0, [], []⟩, none⟩] := by
 have h := ((h.fH vY).fH wJ).fH (P := pur (gJ af ∧ 0 < af.length ∧ (0 : Nat) ≤ 21 ∧ ∀ x, (none : Option Ty.Ft) = some x → x.1 ≠ 0)) (fun _ => ⟨hT.1, hT.2, by omega, fun _ h => by cases h⟩)
 exact Prt.Sat.shutRd (s := ⟨⟨0, [], []⟩, none⟩) (p := (lv, .slice none 0 0, .slice none 0 0, 0)) (h.pick [0, 5, 2, 1, 3, 4])
end
end Go.Proofs.YtdlbhiaceheffabGreatDoor
