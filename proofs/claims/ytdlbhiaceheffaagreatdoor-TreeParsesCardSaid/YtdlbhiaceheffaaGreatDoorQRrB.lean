/- Walk of the reference's oneType: the rest. Walk of the reference's readType. Walk of the reference's TypeOf. -/
import Derived.Test.YtdlbhiaceheffaaGreatDoorQRrA
import Derived.Test.YtdlbhiaceheffaaGreatDoorQPsC
import Derived.Test.YtdlbhiaceheffaaGreatDoorQRefTok
namespace Go.Proofs.YtdlbhiaceheffaaGreatDoor
open Go Go.RowKit
open Prt (Sat As blk pur exs star stars)

theorem one_br {toks : List Tok.Tk} {g : Rd.RS → Nat × Rd.RS} {s : Rd.RS} (hno : ¬ ((Ty.cur toks s.st.pos).kind = 2 ∧ Ty.plainKind (Ty.cur toks s.st.pos).text > 0 ∧ s.f = none)) (h : Rd.peek toks [91] s = true) :
    Rd.one toks g s = Rd.addT ⟨8, [], [], (g (Rd.next s)).1⟩ (Rd.must toks [93] (g (Rd.next s)).2) := by
  unfold Rd.one; rw [if_neg hno, if_pos h]
theorem one_ob {toks : List Tok.Tk} {g : Rd.RS → Nat × Rd.RS} {s : Rd.RS} (hno : ¬ ((Ty.cur toks s.st.pos).kind = 2 ∧ Ty.plainKind (Ty.cur toks s.st.pos).text > 0 ∧ s.f = none)) (h : Rd.peek toks [91] s = false) (h2 : Rd.peek toks [123] s = true) :
    Rd.one toks g s = Rd.addT ⟨7, (Rd.fields toks g (toks.length + 1) [] (Rd.next s)).1, [], 0⟩ (Rd.fields toks g (toks.length + 1) [] (Rd.next s)).2 := by
  unfold Rd.one; rw [if_neg hno, if_neg (by rw [h]; simp), if_pos h2]
theorem one_rd {toks : List Tok.Tk} {g : Rd.RS → Nat × Rd.RS} {s : Rd.RS} (hno : ¬ ((Ty.cur toks s.st.pos).kind = 2 ∧ Ty.plainKind (Ty.cur toks s.st.pos).text > 0 ∧ s.f = none)) (h : Rd.peek toks [91] s = false) (h2 : Rd.peek toks [123] s = false) :
    Rd.one toks g s = Rd.round toks g (Rd.args toks g (toks.length + 1) [] (Rd.must toks [40] s)).1 (Rd.args toks g (toks.length + 1) [] (Rd.must toks [40] s)).2 := by
  unfold Rd.one; rw [if_neg hno, if_neg (by rw [h]; simp), if_neg (by rw [h2]; simp)]
theorem fields_stop {toks : List Tok.Tk} {g : Rd.RS → Nat × Rd.RS} {n : Nat} {l : List (ByteArray × Nat)} {s : Rd.RS} (hn : n ≠ 0) (h : Rd.peek toks [125] s = true) : Rd.fields toks g n l s = (l, Rd.next s) := by
  cases n with
  | zero => exact absurd rfl hn
  | succ n => rw [Rd.fields, if_pos h]
theorem fields_go {toks : List Tok.Tk} {g : Rd.RS → Nat × Rd.RS} {n : Nat} {l : List (ByteArray × Nat)} {s : Rd.RS} (h : Rd.peek toks [125] s = false) (hf : s.f = none) :
    Rd.fields toks g (n + 1) l s = Rd.fields toks g n (l ++ [((Rd.ident toks (l.map Prod.fst) s).1, (g (Rd.must toks [58] (Rd.ident toks (l.map Prod.fst) s).2)).1)]) (Rd.must toks [59] (g (Rd.must toks [58] (Rd.ident toks (l.map Prod.fst) s).2)).2) := by
  rw [Rd.fields, if_neg (by rw [h]; simp), if_neg (by rw [hf]; simp)]
theorem args_go {toks : List Tok.Tk} {g : Rd.RS → Nat × Rd.RS} {n : Nat} {l : List Nat} {s : Rd.RS} (h : Rd.peek toks [41] s = false) (hf : s.f = none) :
    Rd.args toks g (n + 1) l s = Rd.args toks g n (l ++ [(g (if l.length > 0 then Rd.must toks [44] s else s)).1]) (g (if l.length > 0 then Rd.must toks [44] s else s)).2 := by
  rw [Rd.args, if_neg (by rw [h]; simp), if_neg (by rw [hf]; simp)]
theorem args_stop {toks : List Tok.Tk} {g : Rd.RS → Nat × Rd.RS} {n : Nat} {l : List Nat} {s : Rd.RS} (hn : n ≠ 0) (h : Rd.peek toks [41] s = true) : Rd.args toks g n l s = (l, Rd.next s) := by
  cases n with
  | zero => exact absurd rfl hn
  | succ n => rw [Rd.args, if_pos h]

set_option maxRecDepth 100000 in
set_option maxHeartbeats 3000000 in
theorem one_other {toks : List Tok.Tk} {d c : Nat} {T : Ty.M Nat} {g : Rd.RS → Nat × Rd.RS} (hc : c ≤ 100) (hspec : RSpec 38 toks d g) (hT : Rd.Sim toks c T g) (hA : Ty.Adv 1 0 0 T) (hI : Rd.Idle g)
    (w0 w : World) (Fr : As) (pb : Nat) (s : Rd.RS) (k : Nat) (hk : k ≤ 400) (hin : Rd.In toks k 0 s) (hf : s.f = none) (H : Sat w0 w [Fr, rdA pb d toks s])
    (hno : ¬ ((Ty.cur toks s.st.pos).kind = 2 ∧ Ty.plainKind (Ty.cur toks s.st.pos).text > 0 ∧ s.f = none)) {R : Ending → World → Prop}
    (hR : ∀ w', Sat w0 w' [Fr, rdA pb d toks (Rd.one toks g s).2] → R (.returned (.int .i64 ((Rd.one toks g s).1 : Nat))) w') : Calls Tryz.prog 76 #[.pointer (some ⟨pb, 0, none⟩)] w R := by
  have hlk := H.lookR
  have hlen := hlk.wf.1
  have HWF := Lib.hid hlk.wf
  have hpos := hlk.fits.1
  obtain ⟨f0, c1, _, c6, c7, gb, cap, c0, hg, t0, t1, t2⟩ := hlk.cells
  have hpb := hlk.lt
  have HR := Lib.hid hR
  have HNO := Lib.hid hno
  have HSP := Lib.hid hspec
  have HT := Lib.hid hT
  have HA := Lib.hid hA
  have HI := Lib.hid hI
  have HIN := Lib.hid hin
  have HS := Lib.hid H
  have HF := Lib.hid hf
  obtain ⟨i0, ti, tz0, tz1, tz2⟩ := info_parts infoStr
  obtain ⟨j0, tj, uz0, uz1, uz2⟩ := info_parts infoFd
  obtain ⟨k0, tk, vz0, vz1, vz2⟩ := info_parts infoInt
  generalize Ty.cur toks s.st.pos = t at hno t0 t1 t2
  obtain ⟨kd, tx, ps⟩ := t
  dsimp only at hno t0 t1 t2
  have HS2 := Lib.hid ((HS.out.waste (.cells #[.int .i64 kd, .string tx, .int .i64 ps] 70)).drew)
  generalize hpk : Ty.plainKind tx = pk at hno
  have HPK := Lib.hid hpk
  have hcase : (((kd : Int) == 2) = true ∧ pk = 0) ∨ ((kd : Int) == 2) = false := by
    by_cases h2 : kd = 2
    · left
      exact ⟨by simp [h2], Nat.eq_zero_of_not_pos fun h => hno ⟨h2, h, hf⟩⟩
    · right; simp; omega
  clear hR H hlk hspec hT hA hI hin hf hno hpk
  go_enter Tryz.func76, Tryz.ntmps76
  go_wp2_with fail
  go_region
  have HHEAD : Hid (∀ w', Below (w.heap.size + 1) (w.alloc (.cells #[.int .i64 kd, .string tx, .int .i64 ps] 70)).drew w' → Sat w0 w' [Fr, rdA pb d toks s]) := fun w' hb => HS2.out.below (hb.mono (by simp))
  obtain ⟨K, hK1, hK2, hK3⟩ : ∃ K, k ≤ K ∧ c ≤ K ∧ K ≤ 400 := ⟨max k c, by omega, by omega, by omega⟩
  rcases hcase with ⟨k1, rfl⟩ | k1
  all_goals go_wp2_with fail
  refine plainKind_any _ tx (fun w1 hb1 => ?_)
  rw [HPK.out]
  have H1 := Lib.hid (HS2.out.below hb1)
  clear hb1
  go_wp2_with fail
  rotate_left
  have H1 := HS2
  rotate_left
  all_goals
    clear c0 c1 c6 c7 t0 t1 t2 f0 hg HHEAD HS2 HS
    refine eat_any H1.out ⟨#[91]⟩ (fun w2 hi h2 => ?_) (fun w2 hi h2 => ?_)
    · have hone := one_br (g := g) HNO.out hi
      have hp2 : s.st.pos + 1 < toks.length := h2.lookR.fits.1
      have hin2 := HIN.out.next hp2
      have HIN2 := Lib.hid hin2
      have hin3 := (hin2.mono (j' := 0)).read HT.out HA.out HI.out
      have H2 := Lib.hid h2
      have HONE := Lib.hid hone
      clear hi h2 hone hin2
      go_wp2_with fail
      refine HSP.out _ _ _ pb _ k (by omega) (HIN2.out.mono) H2.out _ (fun w3 h3 => ?_)
      have H3 := Lib.hid h3
      have hin3 := (HIN2.out.read HT.out HA.out HI.out).must HWF.out.2 [93]
      have hts := hin3.ts
      rw [HONE.out] at HR
      generalize hq : g (Rd.next s) = q at *
      obtain ⟨n, s3⟩ := q
      clear h3 hin3 HONE
      dsimp only at *
      go_wp2_with fail
      refine must_any H3.out ⟨#[93]⟩ (fun w4 h4 => ?_)
      have H4 := Lib.hid h4
      clear h4
      go_wp2_with fail
      refine addType_any ⟨8, [], [], n⟩ (.slice none 0 0) (.slice none 0 0) ((H4.out.nil 82 2).nil 3 1) (by show (Rd.must toks [93] s3).st.ts.length ≤ 3000; omega) (fun w5 h5 => ?_)
      have H5 := Lib.hid h5
      clear h5
      go_wp2_with fail
      exact HR.out _ H5.out
    · have H2 := Lib.hid h2
      have HI2 := Lib.hid hi
      clear hi h2
      go_wp2_with fail
      refine eat_any H2.out ⟨#[123]⟩ (fun w3 hi h3 => ?_) (fun w3 hi h3 => ?_)
      · have hone := one_ob (g := g) HNO.out HI2.out hi
        rw [hone] at HR
        have hin3 := (HIN.out.next h3.lookR.fits.1).mono (k' := K) (j' := 1)
        have HIN3 := Lib.hid hin3
        have h4 := (h3.nil 82 2).nil 9 1
        have H4 := Lib.hid h4
        clear hi h3 h4 hone hin3
        go_wp2_with fail
        go_loopw [5, 6] (fun v u wr => ∃ (f : Nat) (l : List (ByteArray × Nat)) (ns : List ByteArray) (q : Rd.RS), l.length + f ≤ toks.length + 1 ∧ ns.length + f ≤ toks.length + 1 ∧ Hid (q.f = none → toks.length < q.st.pos + f) ∧ Hid (ns = l.map Prod.fst) ∧ Hid (Rd.In toks K 1 q) ∧ Hid (Sat w0 wr [Fr, rdA pb d toks q, fdA v l, strA u ns]) ∧ Hid (Rd.fields toks g (toks.length + 1) [] (Rd.next s) = Rd.fields toks g f l q))
          (fun _ _ wr => msR toks.length pb wr)
        case atStart => exact ⟨toks.length + 1, [], [], Rd.next s, by simp, by simp, fun _ => by omega, rfl, HIN3.out, H4.out, rfl⟩
        case round =>
          obtain ⟨f, l, ns, q, hlf, hnl, hfu, hns, hIn, hS, hE⟩ := hrel
          obtain ⟨a5, c5, rfl⟩ := owns_slice (hS.out.row 2 rfl)
          obtain ⟨a6, c6, rfl⟩ := owns_slice (hS.out.row 3 rfl)
          have HMS := Lib.hid (msR_eq (hS.out.pick [0, 1]).lookR toks.length)
          go_wp2_with fail
          refine eat_any (hS.out.at 1 rfl) ⟨#[125]⟩ (fun w4 hi h5 => ?_) (fun w4 hi h5 => ?_)
          · have hqf : q.f = none := by unfold Rd.peek at hi; cases hq : q.f with | none => rfl | some y => rw [hq] at hi; simp at hi
            have hf0 : f ≠ 0 := by have := hfu.out hqf; have := hIn.out.pos; omega
            have he := hE.out.trans (fields_stop hf0 hi)
            rw [he] at HR
            have h6 := h5.un4
            have hts := hIn.out.ts
            have H6 := Lib.hid h6
            clear hi h5 h6 he hfu hqf hE
            go_wp2_with fail
            refine addType_any ⟨7, l, [], 0⟩ _ (.slice none 0 0) ((H6.out.nil 3 1).pick [0, 1, 2, 4]) (by show q.st.ts.length ≤ 3000; omega) (fun w5 h7 => ?_)
            have H7 := Lib.hid h7
            clear h7
            go_wp2_with fail
            exact HR.out _ H7.out
          · have h6 := h5.un4
            have H6 := Lib.hid h6
            have HP := Lib.hid hi
            clear hi h5 h6
            go_wp2_with fail
            refine bad_any _ pb d toks q (H6.out.pick [0, 1]).lookR ?_
            cases hqf : q.f with
            | some y =>
              have he : Rd.fields toks g (toks.length + 1) [] (Rd.next s) = (l, q) := by
                rw [hE.out]
                obtain ⟨st, qf⟩ := q
                cases hqf
                exact Rd.fields_off _ _ _ _ _ _
              rw [he] at HR
              have hts := hIn.out.ts
              clear he hqf hfu hE
              dsimp only [Option.isSome]
              go_wp2_with fail
              refine addType_any ⟨7, l, [], 0⟩ _ (.slice none 0 0) ((H6.out.nil 3 1).pick [0, 1, 2, 4]) (by show q.st.ts.length ≤ 3000; omega) (fun w5 h7 => ?_)
              have H7 := Lib.hid h7
              clear h7
              go_wp2_with fail
              exact HR.out _ H7.out
            | none =>
              have hfp := hfu.out hqf
              have hip := hIn.out.pos
              obtain ⟨f, rfl⟩ : ∃ f', f = f' + 1 := ⟨f - 1, by omega⟩
              have he := hE.out.trans (fields_go HP.out hqf)
              rw [← hns.out] at he
              have i1 := (hIn.out.ident HWF.out.2 ns).mono (k' := K) (j' := 1)
              have i2 := (i1.must HWF.out.2 [58]).mono (k' := K) (j' := 1)
              have i3 := (i2.read HT.out HA.out HI.out).mono (k' := K) (j' := 1)
              have i4 := (i3.must HWF.out.2 [59]).mono (k' := K) (j' := 1)
              have hgo : Hid ((Rd.must toks [59] (g (Rd.must toks [58] (Rd.ident toks ns q).2)).2).f = none → q.st.pos < (Rd.must toks [59] (g (Rd.must toks [58] (Rd.ident toks ns q).2)).2).st.pos) := fun h => by
                have a1 := Rd.must_good h
                have a2 := Rd.read_good i2 HT.out HA.out HI.out a1.1
                have a3 := Rd.must_good a2.1
                have a4 := Rd.ident_good a3.1
                omega
              have HQF := Lib.hid hqf
              have HEQ := Lib.hid he
              have I2 := Lib.hid i2
              have I4 := Lib.hid i4
              clear hE he i1 i2 i3 i4 hqf hfu
              dsimp only [Option.isSome]
              go_wp2_with fail
              refine ident_any (H6.out.at 1 rfl) _ ns (H6.out.row 3 rfl) (by omega) (fun w5 h7 => ?_)
              have H7 := Lib.hid h7.un4
              generalize hx : Rd.ident toks ns q = xq at *
              obtain ⟨x, q1⟩ := xq
              have HX := Lib.hid hx
              clear h7 hx
              dsimp only at *
              go_wp2_with (at_builtin; go_loud (refine wpList_append_lies _ rfl (.tmp 71) (.tmp 73) 22 rfl 0 9 i0 _ 1 16 Tryz.underlying22 ti tz0 tz1 tz2 rfl (by decide) _ _ (ns.map Value.string) (by rfl) ((H7.out.row 3 rfl).alloc _) ⟨w5.heap.size, 0, none⟩ 1 1 [.string x] (by rfl) (by rfl) (World.news_of_block (cs := #[.string x]) (t := 9) (fr := (0, 0)) (heap_alloc_at' _ _ _ (by simp))) (by simp [Value.oneCell']) (by omega) (by unfold maxLen; omega) (by omega) (by simp) (w5.heap.size + 1) (by simp) ?_))
              intro g8 cap8 w8 hown8 hgrow8 hat8 hlt8
              have h8 := Prt.Sat.grow (H7.out.waste _) 3 rfl hgrow8 hown8 (by simpa using hat8)
              have h8 := h8.ent (i := 3) rfl (Q := strA _ (ns ++ [x])) (fun _ h => strA_snoc h)
              have H8 := Lib.hid h8
              clear h8 hown8 hgrow8 H7
              go_wp2_with fail
              refine must_any (H8.out.at 1 rfl) ⟨#[58]⟩ (fun w9 h9 => ?_)
              have H9 := Lib.hid h9.un4
              generalize hq2 : Rd.must toks [58] q1 = q2 at *
              clear h9 H8 hq2
              go_wp2_with fail
              refine HSP.out _ _ _ pb _ K (by omega) (I2.out.mono) (H9.out.at 1 rfl) _ (fun w10 h10 => ?_)
              have H10 := Lib.hid h10.un4
              generalize hx3 : g q2 = xq3 at *
              obtain ⟨n, q3⟩ := xq3
              clear h10 hx3 H9
              dsimp only at *
              go_wp2_with fail
              refine must_any (H10.out.at 1 rfl) ⟨#[59]⟩ (fun w11 h11 => ?_)
              have H11 := Lib.hid h11.un4
              generalize hq4 : Rd.must toks [59] q3 = q4 at *
              clear h11 H10 hq4
              go_wp2_with (at_builtin; go_loud (refine wpList_append_lies _ rfl (.tmp 81) (.tmp 85) 75 rfl 0 82 j0 _ 2 24 Tryz.underlying75 tj uz0 uz1 uz2 rfl (by decide) _ _ (l.flatMap fdCells) (by rfl) ((H11.out.row 2 rfl).alloc _) ⟨w11.heap.size, 0, none⟩ 1 1 [.string x, .int .i64 (n : Nat)] (by rfl) (by rfl) (World.news_of_block (cs := #[.string x, .int .i64 (n : Nat)]) (t := 82) (fr := (0, 0)) (heap_alloc_at' _ _ _ (by simp))) (by simp [Value.oneCell']) (by omega) (by unfold maxLen; omega) (by omega) (by simp) (w11.heap.size + 1) (by simp) ?_))
              intro g12 cap12 w12 hown12 hgrow12 hat12 hlt12
              have h12 := Prt.Sat.grow (H11.out.waste _) 2 rfl hgrow12 hown12 (by simpa using hat12)
              have h12 := h12.ent (i := 2) rfl (Q := fdA _ (l ++ [(x, n)])) (fun _ h => fdA_snoc h)
              have h12 : Sat w0 w12 [Fr, rdA pb d toks q4, fdA (.slice (some ⟨g12, 0, none⟩) (l.length + 1) cap12) (l ++ [(x, n)]), strA (.slice (some ⟨g8, 0, none⟩) (ns.length + 1) cap8) (ns ++ [x])] := h12
              have HMS2 := Lib.hid (msR_eq (h12.pick [0, 1]).lookR toks.length)
              have H12 := Lib.hid h12
              clear h12 hown12 hgrow12 H11
              go_wp2_with fail
              go_roundw
              case rel => exact ⟨f, l ++ [(x, n)], ns ++ [x], q4, by simp; omega, by simp; omega, fun h => by have := hgo.out h; omega, by rw [hns.out, List.map_append]; rfl, I4.out, H12.out, HEQ.out⟩
              case measure =>
                rw [HMS.out, HMS2.out, HQF.out]
                cases hq4 : q4.f with
                | none => have := hgo.out hq4; simp; omega
                | some y => simp
      · have hone := one_rd (g := g) HNO.out HI2.out hi
        rw [hone] at HR
        have H3 := Lib.hid h3
        clear hi h3 hone
        go_wp2_with fail
        refine must_any H3.out ⟨#[40]⟩ (fun w4 h4 => ?_)
        have h5 := h4.nil 3 1
        have H5 := Lib.hid h5
        have hin4 := (HIN.out.must HWF.out.2 [40]).mono (k' := K) (j' := 0)
        have HIN4 := Lib.hid hin4
        generalize hq0 : Rd.must toks [40] s = q0 at *
        clear h4 h5 hin4 hq0
        go_wp2_with fail
        go_loopw [9] (fun v wr => ∃ (f : Nat) (l : List Nat) (q : Rd.RS), l.length + f ≤ toks.length + 1 ∧ Hid (q.f = none → toks.length < q.st.pos + f) ∧ Hid (Rd.In toks K 0 q) ∧ Hid (Sat w0 wr [Fr, rdA pb d toks q, inA v l]) ∧ Hid (Rd.args toks g (toks.length + 1) [] q0 = Rd.args toks g f l q))
          (fun _ wr => msR toks.length pb wr)
        case atStart => exact ⟨toks.length + 1, [], q0, by simp, fun _ => by omega, HIN4.out, H5.out, rfl⟩
        case round =>
          obtain ⟨f, l, q, hlf, hfu, hIn, hS, hE⟩ := hrel
          obtain ⟨a9, c9, rfl⟩ := owns_slice (hS.out.row 2 rfl)
          have HMS := Lib.hid (msR_eq (hS.out.pick [0, 1]).lookR toks.length)
          go_wp2_with fail
          refine eat_any (hS.out.at 1 rfl) ⟨#[41]⟩ (fun w5 hi h6 => ?_) (fun w5 hi h6 => ?_)
          · have hqf : q.f = none := by unfold Rd.peek at hi; cases hq : q.f with | none => rfl | some y => rw [hq] at hi; simp at hi
            have hf0 : f ≠ 0 := by have := hfu.out hqf; have := hIn.out.pos; omega
            have he := hE.out.trans (args_stop hf0 hi)
            rw [he] at HR
            have hiq := (hIn.out.next (h6.lookR.fits.1)).mono (k' := K) (j' := 0)
            have HIQ := Lib.hid hiq
            have HQ := Lib.hid h6.un3
            clear hi h6 he hfu hqf hE hiq hS
            dsimp only at HR
            go_wp2_with fail
            refine eat_any (HQ.out.at 1 rfl) ⟨#[61, 62]⟩ (fun wa hi ha => ?_) (fun wa hi ha => ?_)
            · have hr : Rd.round toks g l (Rd.next q) = Rd.addT ⟨9, [], l, (g (Rd.next (Rd.next q))).1⟩ (g (Rd.next (Rd.next q))).2 := by unfold Rd.round; rw [if_pos hi]
              rw [hr] at HR
              have i1 := (HIQ.out.next ha.lookR.fits.1).mono (k' := K) (j' := 0)
              have i2 := (i1.read HT.out HA.out HI.out).ts
              have I1 := Lib.hid i1
              have HWA := Lib.hid ha.un3
              clear hi ha hr i1
              go_wp2_with fail
              refine HSP.out _ _ _ pb _ K (by omega) I1.out (HWA.out.at 1 rfl) _ (fun wb hb => ?_)
              have HWB := Lib.hid hb.un3
              generalize hx3 : g (Rd.next (Rd.next q)) = xq3 at *
              obtain ⟨n, q3⟩ := xq3
              clear hb hx3 HWA
              dsimp only at *
              go_wp2_with fail
              refine addType_any ⟨9, [], l, n⟩ (.slice none 0 0) _ ((HWB.out.nil 82 2).pick [0, 1, 3, 2]) (by show q3.st.ts.length ≤ 3000; omega) (fun wc hc => ?_)
              have HWC := Lib.hid hc
              clear hc
              go_wp2_with fail
              exact HR.out _ HWC.out
            · have hr : Rd.round toks g l (Rd.next q) = if l.length ≠ 1 then (0, Rd.wrong toks 1 (Rd.next q)) else (l.headD 0, (Rd.next q)) := by unfold Rd.round; rw [if_neg (by rw [show Rd.peek toks [61, 62] (Rd.next q) = false from hi]; simp)]
              rw [hr] at HR
              have HWA := Lib.hid ha.un3
              clear hi ha hr
              by_cases hl : l.length = 1
              · rw [if_neg (by omega)] at HR
                obtain ⟨n, rfl⟩ := List.length_eq_one_iff.1 hl
                have hn := HWA.out.row 2 rfl
                obtain ⟨gg, capg, e, _, _⟩ := hn.form (by simp)
                cases e
                have z2 : wa.cell? ⟨gg, 0, none⟩ = some (.int .i64 n) := by have := World.ownsRow.cells hn (g := gg) rfl 0 _ rfl; rwa [Addr.add_lit] at this
                clear hn hl
                go_wp2_with fail
                exact HR.out _ (HWA.out.pick [0, 1])
              · have hl2 : ((l.length : Int) != 1) = true := by simp; omega
                rw [if_pos hl] at HR
                clear hl
                go_wp2_with fail
                refine wrong_any (HWA.out.pick [0, 1]) 1 (by omega) (fun wb hb => ?_)
                have HWB := Lib.hid hb
                clear hb
                go_wp2_with fail
                exact HR.out _ HWB.out
          · have H6 := Lib.hid h6.un3
            have HP := Lib.hid hi
            clear hi h6
            go_wp2_with fail
            refine bad_any _ pb d toks q (H6.out.pick [0, 1]).lookR ?_
            cases hqf : q.f with
            | some y =>
              have he : Rd.args toks g (toks.length + 1) [] q0 = (l, q) := by
                rw [hE.out]
                obtain ⟨st, qf⟩ := q
                cases hqf
                exact Rd.args_off _ _ _ _ _ _
              rw [he] at HR
              have HIQ := hIn
              have HQ := H6
              clear he hqf hfu hE hS H6
              dsimp only [Option.isSome] at *
              go_wp2_with fail
              refine eat_any (HQ.out.at 1 rfl) ⟨#[61, 62]⟩ (fun wa hi ha => ?_) (fun wa hi ha => ?_)
              · have hr : Rd.round toks g l q = Rd.addT ⟨9, [], l, (g (Rd.next q)).1⟩ (g (Rd.next q)).2 := by unfold Rd.round; rw [if_pos hi]
                rw [hr] at HR
                have i1 := (HIQ.out.next ha.lookR.fits.1).mono (k' := K) (j' := 0)
                have i2 := (i1.read HT.out HA.out HI.out).ts
                have I1 := Lib.hid i1
                have HWA := Lib.hid ha.un3
                clear hi ha hr i1
                go_wp2_with fail
                refine HSP.out _ _ _ pb _ K (by omega) I1.out (HWA.out.at 1 rfl) _ (fun wb hb => ?_)
                have HWB := Lib.hid hb.un3
                generalize hx3 : g (Rd.next q) = xq3 at *
                obtain ⟨n, q3⟩ := xq3
                clear hb hx3 HWA
                dsimp only at *
                go_wp2_with fail
                refine addType_any ⟨9, [], l, n⟩ (.slice none 0 0) _ ((HWB.out.nil 82 2).pick [0, 1, 3, 2]) (by show q3.st.ts.length ≤ 3000; omega) (fun wc hc => ?_)
                have HWC := Lib.hid hc
                clear hc
                go_wp2_with fail
                exact HR.out _ HWC.out
              · have hr : Rd.round toks g l q = if l.length ≠ 1 then (0, Rd.wrong toks 1 q) else (l.headD 0, q) := by unfold Rd.round; rw [if_neg (by rw [show Rd.peek toks [61, 62] q = false from hi]; simp)]
                rw [hr] at HR
                have HWA := Lib.hid ha.un3
                clear hi ha hr
                by_cases hl : l.length = 1
                · rw [if_neg (by omega)] at HR
                  obtain ⟨n, rfl⟩ := List.length_eq_one_iff.1 hl
                  have hn := HWA.out.row 2 rfl
                  obtain ⟨gg, capg, e, _, _⟩ := hn.form (by simp)
                  cases e
                  have z2 : wa.cell? ⟨gg, 0, none⟩ = some (.int .i64 n) := by have := World.ownsRow.cells hn (g := gg) rfl 0 _ rfl; rwa [Addr.add_lit] at this
                  clear hn hl
                  go_wp2_with fail
                  exact HR.out _ (HWA.out.pick [0, 1])
                · have hl2 : ((l.length : Int) != 1) = true := by simp; omega
                  rw [if_pos hl] at HR
                  clear hl
                  go_wp2_with fail
                  refine wrong_any (HWA.out.pick [0, 1]) 1 (by omega) (fun wb hb => ?_)
                  have HWB := Lib.hid hb
                  clear hb
                  go_wp2_with fail
                  exact HR.out _ HWB.out
            | none =>
              have hfp := hfu.out hqf
              have hip := hIn.out.pos
              obtain ⟨f, rfl⟩ : ∃ f', f = f' + 1 := ⟨f - 1, by omega⟩
              have he := hE.out.trans (args_go HP.out hqf)
              have HQF := Lib.hid hqf
              have HS6 := H6
              clear hE hqf hfu hS
              dsimp only [Option.isSome]
              by_cases hl0 : l.length = 0
              · rw [if_neg (by omega)] at he
                have k9 : decide (0 < l.length) = false := decide_eq_false (by omega)
                have k8 : decide ((0 : Int) < l.length) = false := decide_eq_false (by omega)
                have i3 := (hIn.out.read HT.out HA.out HI.out).mono (k' := K) (j' := 0)
                have hgo : Hid ((g q).2.f = none → q.st.pos < (g q).2.st.pos) := fun h => (Rd.read_good hIn.out HT.out HA.out HI.out h).2
                have HEQ := Lib.hid he
                have I3 := Lib.hid i3
                clear he i3 hl0
                go_wp2_with fail
                refine HSP.out _ _ _ pb _ K (by omega) hIn.out (H6.out.at 1 rfl) _ (fun w7 h7 => ?_)
                have H7 := Lib.hid h7.un3
                generalize hx3 : g q = xq3 at *
                obtain ⟨n, q3⟩ := xq3
                clear h7 hx3
                dsimp only at *
                go_wp2_with (at_builtin; go_loud (refine wpList_append_lies _ rfl (.tmp 106) (.tmp 109) 49 rfl 0 3 k0 _ 1 8 Tryz.underlying49 tk vz0 vz1 vz2 rfl (by decide) _ _ (l.map inCell) (by rfl) ((H7.out.row 2 rfl).alloc _) ⟨w7.heap.size, 0, none⟩ 1 1 [.int .i64 (n : Nat)] (by rfl) (by rfl) (World.news_of_block (cs := #[.int .i64 (n : Nat)]) (t := 3) (fr := (0, 0)) (heap_alloc_at' _ _ _ (by simp))) (by simp [Value.oneCell']) (by omega) (by unfold maxLen; omega) (by omega) (by simp) (w7.heap.size + 1) (by simp) ?_))
                intro g9 cap9 w9 hown9 hgrow9 hat9 hlt9
                have h9 := Prt.Sat.grow (H7.out.waste _) 2 rfl hgrow9 hown9 (by simpa using hat9)
                have h9 := h9.ent (i := 2) rfl (Q := inA _ (l ++ [n])) (fun _ h => inA_snoc h)
                have h9 : Sat w0 w9 [Fr, rdA pb d toks q3, inA (.slice (some ⟨g9, 0, none⟩) (l.length + 1) cap9) (l ++ [n])] := h9
                have HMS2 := Lib.hid (msR_eq (h9.pick [0, 1]).lookR toks.length)
                have H9 := Lib.hid h9
                clear h9 hown9 hgrow9 H7
                go_wp2_with fail
                go_roundw
                case rel => exact ⟨f, l ++ [n], q3, by simp; omega, fun h => by have := hgo.out h; omega, I3.out, H9.out, HEQ.out⟩
                case measure =>
                  rw [HMS.out, HMS2.out, HQF.out]
                  cases hq4 : q3.f with
                  | none => have := hgo.out hq4; simp; omega
                  | some y => simp
              · have hl1 : 0 < l.length := by omega
                rw [if_pos hl1] at he
                have i2 := (hIn.out.must HWF.out.2 [44]).mono (k' := K) (j' := 0)
                have i3 := (i2.read HT.out HA.out HI.out).mono (k' := K) (j' := 0)
                have hgo : Hid ((g (Rd.must toks [44] q)).2.f = none → q.st.pos < (g (Rd.must toks [44] q)).2.st.pos) := fun h => by
                  have a2 := Rd.read_good i2 HT.out HA.out HI.out h
                  have a3 := Rd.must_good a2.1
                  omega
                have HEQ := Lib.hid he
                have I2 := Lib.hid i2
                have I3 := Lib.hid i3
                clear he i2 i3 hl0
                go_wp2_with fail
                refine must_any (H6.out.at 1 rfl) ⟨#[44]⟩ (fun w6 h8 => ?_)
                have H8 := Lib.hid h8.un3
                generalize hq2 : Rd.must toks [44] q = q2 at *
                clear h8 hq2
                go_wp2_with fail
                refine HSP.out _ _ _ pb _ K (by omega) I2.out (H8.out.at 1 rfl) _ (fun w7 h7 => ?_)
                have H7 := Lib.hid h7.un3
                generalize hx3 : g q2 = xq3 at *
                obtain ⟨n, q3⟩ := xq3
                clear h7 hx3 H8
                dsimp only at *
                go_wp2_with (at_builtin; go_loud (refine wpList_append_lies _ rfl (.tmp 106) (.tmp 109) 49 rfl 0 3 k0 _ 1 8 Tryz.underlying49 tk vz0 vz1 vz2 rfl (by decide) _ _ (l.map inCell) (by rfl) ((H7.out.row 2 rfl).alloc _) ⟨w7.heap.size, 0, none⟩ 1 1 [.int .i64 (n : Nat)] (by rfl) (by rfl) (World.news_of_block (cs := #[.int .i64 (n : Nat)]) (t := 3) (fr := (0, 0)) (heap_alloc_at' _ _ _ (by simp))) (by simp [Value.oneCell']) (by omega) (by unfold maxLen; omega) (by omega) (by simp) (w7.heap.size + 1) (by simp) ?_))
                intro g9 cap9 w9 hown9 hgrow9 hat9 hlt9
                have h9 := Prt.Sat.grow (H7.out.waste _) 2 rfl hgrow9 hown9 (by simpa using hat9)
                have h9 := h9.ent (i := 2) rfl (Q := inA _ (l ++ [n])) (fun _ h => inA_snoc h)
                have h9 : Sat w0 w9 [Fr, rdA pb d toks q3, inA (.slice (some ⟨g9, 0, none⟩) (l.length + 1) cap9) (l ++ [n])] := h9
                have HMS2 := Lib.hid (msR_eq (h9.pick [0, 1]).lookR toks.length)
                have H9 := Lib.hid h9
                clear h9 hown9 hgrow9 H7
                go_wp2_with fail
                go_roundw
                case rel => exact ⟨f, l ++ [n], q3, by simp; omega, fun h => by have := hgo.out h; omega, I3.out, H9.out, HEQ.out⟩
                case measure =>
                  rw [HMS.out, HMS2.out, HQF.out]
                  cases hq4 : q3.f with
                  | none => have := hgo.out hq4; simp; omega
                  | some y => simp
end Go.Proofs.YtdlbhiaceheffaaGreatDoor

namespace Go.Proofs.YtdlbhiaceheffaaGreatDoor
open Go Go.RowKit
open Prt (Sat As blk pur exs star stars)

theorem oneType_any {toks : List Tok.Tk} {d c : Nat} {T : Ty.M Nat} {g : Rd.RS → Nat × Rd.RS} (hc : c ≤ 100) (hspec : RSpec 38 toks d g) (hT : Rd.Sim toks c T g) (hA : Ty.Adv 1 0 0 T) (hI : Rd.Idle g)
    (w0 w : World) (Fr : As) (pb : Nat) (s : Rd.RS) (k : Nat) (hk : k ≤ 400) (hin : Rd.In toks k 0 s) (hf : s.f = none) (H : Sat w0 w [Fr, rdA pb d toks s]) {R : Ending → World → Prop}
    (hR : ∀ w', Sat w0 w' [Fr, rdA pb d toks (Rd.one toks g s).2] → R (.returned (.int .i64 ((Rd.one toks g s).1 : Nat))) w') : Calls Tryz.prog 76 #[.pointer (some ⟨pb, 0, none⟩)] w R := by
  by_cases hw : (Ty.cur toks s.st.pos).kind = 2 ∧ Ty.plainKind (Ty.cur toks s.st.pos).text > 0 ∧ s.f = none
  · exact one_word g w0 w Fr pb s k (by omega) hin H hw hR
  · exact one_other hc hspec hT hA hI w0 w Fr pb s k hk hin hf H hw hR
theorem bars_go {toks : List Tok.Tk} {S : Rd.RS → Nat × Rd.RS} {n : Nat} {l : List Nat} {s : Rd.RS} (h : Rd.peek toks [124] s = true) :
    Rd.bars toks S (n + 1) l s = Rd.bars toks S n (l ++ [(S (Rd.next s)).1]) (S (Rd.next s)).2 := by
  rw [Rd.bars, if_pos h]
theorem bars_stop {toks : List Tok.Tk} {S : Rd.RS → Nat × Rd.RS} {n : Nat} {l : List Nat} {s : Rd.RS} (h : Rd.peek toks [124] s = false) : Rd.bars toks S n l s = (l, s) := by
  cases n with
  | zero => rfl
  | succ n => rw [Rd.bars, if_neg (by rw [h]; simp)]

theorem one_good {toks : List Tok.Tk} {k c : Nat} {s : Rd.RS} (h : Rd.In toks k 0 s) (hs : s.f = none) {T : Ty.M Nat} {g : Rd.RS → Nat × Rd.RS} (hT : Rd.Sim toks c T g) (hA : Ty.Adv 1 0 0 T) (hg : (g s).2.f = none) : s.st.pos < (g s).2.st.pos := by
  obtain ⟨st, f⟩ := s
  cases hs
  have h1 := hT st h.ok
  cases e : T st with
  | error f =>
    rw [e] at h1
    obtain ⟨a, s1, g1, o1⟩ := h1
    rw [g1] at hg; cases hg
  | ok p =>
    obtain ⟨a, s1⟩ := p
    rw [e] at h1
    rw [h1.1]
    have := hA _ _ _ e
    show st.pos < s1.pos
    omega

set_option maxRecDepth 100000 in
set_option maxHeartbeats 3000000 in
theorem readType_any (toks : List Tok.Tk) (hL : ∀ t, toks.getLast? = some t → t.kind = 6) : ∀ r, r ≤ 20 → RSpec 38 toks (20 - r) (Rd.read toks r) := by
  intro r
  induction r with
  | zero =>
    intro _ w0 w Fr pb s k hk hin H R hR
    have HR := Lib.hid hR
    have HS := Lib.hid H
    have hsome : (Rd.wrong toks 8 s).f.isNone = false := by unfold Rd.wrong; cases h : s.f with | none => rfl | some y => simp [h]
    have HN := Lib.hid hsome
    clear hR H hin hsome
    rw [Rd.read] at HR
    go_enter Tryz.func38, Tryz.ntmps38
    go_wp2_with fail
    refine enter_any HS.out (by omega) (fun w1 h1 => ?_)
    rw [if_pos (show 20 - 0 = 20 from rfl)] at h1 ⊢
    rw [HN.out]
    have H1 := Lib.hid h1
    clear h1
    go_wp2_with fail
    refine leave_any H1.out (fun w2 h2 => ?_)
    have H2 := Lib.hid h2
    clear h2
    go_wp2_with fail
    exact HR.out _ H2.out
  | succ r ih =>
    intro hr w0 w Fr pb s k hk hin H R hR
    have e20 : 20 - (r + 1) + 1 = 20 - r := by omega
    have hsp := ih (by omega)
    have hd : 20 - (r + 1) ≤ 19 := by omega
    rw [← e20] at hsp
    generalize 20 - (r + 1) = d at *
    have hlk := H.lookR
    have hlen := hlk.wf.1
    have HONE := Lib.hid (fun w Fr (s : Rd.RS) k hk hin hf H R hR => @oneType_any toks (d + 1) r (Ty.typ toks r) (Rd.read toks r) (by omega) hsp (Rd.read_sim hL r) (Ty.typ_adv toks r) (Rd.read_idle toks r) w0 w Fr pb s k hk hin hf H R hR)
    have hsim := Rd.one_sim hL (Rd.read_sim hL r) (Ty.typ_adv toks r) (Rd.read_idle toks r)
    have hadv := Ty.single_adv (toks := toks) (Ty.typ_adv toks r)
    have HSIM := Lib.hid hsim
    have HADV := Lib.hid hadv
    have HR := Lib.hid hR
    have HS := Lib.hid H
    have HIN := Lib.hid hin
    obtain ⟨k0, tk, vz0, vz1, vz2⟩ := info_parts infoInt
    clear ih e20 hsp hlk hsim hadv hR H hin
    rw [Rd.read] at HR
    generalize Rd.one toks (Rd.read toks r) = S at *
    cases hf : s.f with
    | some y =>
      rw [if_pos (by rw [hf]; rfl)] at HR
      have HN : Hid (s.f.isNone = false) := by rw [hf]; rfl
      clear hf
      go_enter Tryz.func38, Tryz.ntmps38
      go_wp2_with fail
      refine enter_any HS.out (by omega) (fun w1 h1 => ?_)
      rw [if_neg (by omega)] at h1 ⊢
      rw [HN.out]
      have H1 := Lib.hid h1
      clear h1
      go_wp2_with fail
      refine leave_any H1.out (fun w2 h2 => ?_)
      have H2 := Lib.hid h2
      clear h2
      go_wp2_with fail
      exact HR.out _ H2.out
    | none =>
      rw [if_neg (by rw [hf]; simp)] at HR
      have HN : Hid (s.f.isNone = true) := by rw [hf]; rfl
      have HF := Lib.hid hf
      clear hf
      obtain ⟨K, hK1, hK2, hK3⟩ : ∃ K, k ≤ K ∧ r + 1 ≤ K ∧ K ≤ 400 := ⟨max k (r + 1), by omega, by omega, by omega⟩
      go_enter Tryz.func38, Tryz.ntmps38
      go_wp2_with fail
      refine enter_any HS.out (by omega) (fun w1 h1 => ?_)
      rw [if_neg (by omega)] at h1 ⊢
      rw [HN.out]
      have H1 := Lib.hid h1
      clear h1
      go_wp2_with fail
      refine HONE.out w1 Fr s K (by omega) (HIN.out.mono) HF.out H1.out _ (fun w2 h2 => ?_)
      have i2 := (HIN.out.sim HF.out HSIM.out (HADV.out.mono (d' := 0) (c' := 0) (e' := 0))).mono (k' := K) (j' := 0)
      generalize hx : S s = xq at *
      obtain ⟨n, s1⟩ := xq
      dsimp only at *
      have h3 := h2.allocAt (.cells #[.int .i64 (n : Nat)] 3) w2.heap.size
      have h3 := h3.ent (i := 2) rfl (Q := inA (.slice (some ⟨w2.heap.size, 0, none⟩) 1 1) [n]) (fun _ h => Prt.row_of_blk h (by decide) rfl rfl)
      have H3 := Lib.hid h3
      have I2 := Lib.hid i2
      clear h2 h3 hx i2
      go_wp2_with fail
      go_loopw [4] (fun v wr => ∃ (f : Nat) (l : List Nat) (q : Rd.RS), l.length + f ≤ toks.length + 2 ∧ 1 ≤ l.length ∧ Hid (q.f = none → toks.length < q.st.pos + f) ∧ Hid (Rd.In toks K 0 q) ∧ Hid (Sat w0 wr [Fr, rdA pb (d + 1) toks q, inA v l]) ∧ Hid (Rd.bars toks S (toks.length + 1) [n] s1 = Rd.bars toks S f l q))
        (fun _ wr => msR toks.length pb wr)
      case atStart => exact ⟨toks.length + 1, [n], s1, by simp; omega, by simp, fun _ => by omega, I2.out, H3.out, rfl⟩
      case round =>
        obtain ⟨f, l, q, hlf, hl1, hfu, hIn, hS, hE⟩ := hrel
        obtain ⟨g9, c9, rfl, _, _⟩ := (hS.out.row 2 rfl).form (by omega)
        have HMS := Lib.hid (msR_eq (hS.out.pick [0, 1]).lookR toks.length)
        go_wp2_with fail
        refine eat_any (hS.out.at 1 rfl) ⟨#[124]⟩ (fun w4 hi h5 => ?_) (fun w4 hi h5 => ?_)
        · have hqf : q.f = none := by unfold Rd.peek at hi; cases hq : q.f with | none => rfl | some y => rw [hq] at hi; simp at hi
          have hfp := hfu.out hqf
          have hip := hIn.out.pos
          obtain ⟨f, rfl⟩ : ∃ f', f = f' + 1 := ⟨f - 1, by omega⟩
          have he := hE.out.trans (bars_go hi)
          have hlk := h5.lookR
          have i3 := (hIn.out.next hlk.fits.1).mono (k' := K) (j' := 0)
          have hnf : (Rd.next q).f = none := hqf
          have i4 := (i3.sim hnf HSIM.out (HADV.out.mono (d' := 0) (c' := 0) (e' := 0))).mono (k' := K) (j' := 0)
          have hgo : Hid ((S (Rd.next q)).2.f = none → q.st.pos + 1 < (S (Rd.next q)).2.st.pos) := fun h => one_good i3 hnf HSIM.out HADV.out h
          have H5 := Lib.hid h5.un3
          have I3 := Lib.hid i3
          have I4 := Lib.hid i4
          have HEQ := Lib.hid he
          have HNF := Lib.hid hnf
          have HQF := Lib.hid hqf
          clear hi h5 hE he hlk i3 i4 hnf hqf hfu
          go_wp2_with fail
          refine HONE.out w4 _ (Rd.next q) K (by omega) I3.out HNF.out (H5.out.at 1 rfl) _ (fun w6 h6 => ?_)
          have H6 := Lib.hid h6.un3
          generalize hx3 : S (Rd.next q) = xq3 at *
          obtain ⟨n', q3⟩ := xq3
          clear h6 hx3 H5
          dsimp only at *
          go_wp2_with (at_builtin; go_loud (refine wpList_append_lies _ rfl (.tmp 12) (.tmp 15) 49 rfl 0 3 k0 _ 1 8 Tryz.underlying49 tk vz0 vz1 vz2 rfl (by decide) _ _ (l.map inCell) (by rfl) ((H6.out.row 2 rfl).alloc _) ⟨w6.heap.size, 0, none⟩ 1 1 [.int .i64 (n' : Nat)] (by rfl) (by rfl) (World.news_of_block (cs := #[.int .i64 (n' : Nat)]) (t := 3) (fr := (0, 0)) (heap_alloc_at' _ _ _ (by simp))) (by simp [Value.oneCell']) (by omega) (by unfold maxLen; omega) (by omega) (by simp) (w6.heap.size + 1) (by simp) ?_))
          intro g7 cap7 w7 hown7 hgrow7 hat7 hlt7
          have h7 := Prt.Sat.grow (H6.out.waste _) 2 rfl hgrow7 hown7 (by simpa using hat7)
          have h7 := h7.ent (i := 2) rfl (Q := inA _ (l ++ [n'])) (fun _ h => inA_snoc h)
          have h7 : Sat w0 w7 [Fr, rdA pb (d + 1) toks q3, inA (.slice (some ⟨g7, 0, none⟩) (l.length + 1) cap7) (l ++ [n'])] := h7
          have HMS2 := Lib.hid (msR_eq (h7.pick [0, 1]).lookR toks.length)
          have H7 := Lib.hid h7
          clear h7 hown7 hgrow7 H6
          go_wp2_with fail
          go_roundw
          case rel => exact ⟨f, l ++ [n'], q3, by simp; omega, by simp, fun h => by have := hgo.out h; omega, I4.out, H7.out, HEQ.out⟩
          case measure =>
            rw [HMS.out, HMS2.out, HQF.out]
            cases hq4 : q3.f with
            | none => have := hgo.out hq4; simp; omega
            | some y => simp
        · have he := hE.out.trans (bars_stop hi)
          have H5 := Lib.hid h5.un3
          rw [he] at HR
          dsimp only at HR
          unfold Rd.unite at HR
          have hn := H5.out.row 2 rfl
          have z2 : w4.cell? ⟨g9, 0, none⟩ = some (.int .i64 (l.headD 0 : Nat)) := by
            have := World.ownsRow.cells hn (g := g9) rfl 0 (inCell (l.headD 0)) (by cases l with | nil => simp at hl1 | cons a l => rfl)
            rwa [Addr.add_lit] at this
          have hts := hIn.out.ts
          generalize l.headD 0 = hd0 at *
          clear hi h5 hE he hfu hS hn
          by_cases hl2 : 1 < l.length
          · have k1 : decide (1 < l.length) = true := decide_eq_true hl2
            have k2 : decide ((1 : Int) < l.length) = true := decide_eq_true (by omega)
            go_wp2_with fail
            refine bad_any _ pb (d + 1) toks q (H5.out.pick [0, 1]).lookR ?_
            cases hqf : q.f with
            | none =>
              rw [if_pos ⟨hl2, hqf⟩] at HR
              clear hqf
              dsimp only [Option.isSome]
              go_wp2_with fail
              refine addType_any ⟨10, [], l, 0⟩ (.slice none 0 0) _ ((H5.out.nil 82 2).pick [0, 1, 3, 2]) (by omega) (fun w6 h6 => ?_)
              have H6 := Lib.hid h6
              clear h6
              go_wp2_with fail
              refine leave_any H6.out (fun w7 h7 => ?_)
              have H7 := Lib.hid h7
              clear h7
              go_wp2_with fail
              exact HR.out _ H7.out
            | some y =>
              rw [if_neg (by rw [hqf]; simp)] at HR
              clear hqf
              dsimp only [Option.isSome]
              go_wp2_with fail
              refine leave_any (H5.out.pick [0, 1]) (fun w7 h7 => ?_)
              have H7 := Lib.hid h7
              clear h7
              go_wp2_with fail
              exact HR.out _ H7.out
          · have k1 : decide (1 < l.length) = false := decide_eq_false hl2
            have k2 : decide ((1 : Int) < l.length) = false := decide_eq_false (by omega)
            rw [if_neg (fun h => hl2 h.1)] at HR
            go_wp2_with fail
            refine leave_any (H5.out.pick [0, 1]) (fun w7 h7 => ?_)
            have H7 := Lib.hid h7
            clear h7
            go_wp2_with fail
            exact HR.out _ H7.out
end Go.Proofs.YtdlbhiaceheffaaGreatDoor

namespace Go.Proofs.YtdlbhiaceheffaaGreatDoor
open Go Go.RowKit
open Prt (Sat As blk pur exs star stars)

theorem Prt.Sat.newRd {w0 w : World} {Fr : As} {pb : Nat} {toks : List Tok.Tk} {lv : Value} (hT : Toks toks ∧ 0 < toks.length) (h : Sat w0 w [Fr, tkA lv toks, blk pb (.cells #[lv, .int .i64 0, .int .i64 0, .slice none 0 0, .slice none 0 0, .int .i64 0, .int .i64 0, .int .i64 0] 68 (0, 0))]) : Sat w0 w [Fr, rdA pb 0 toks ⟨⟨0, [], []⟩, none⟩] := by
  have h := ((h.triv ndA_nil).triv tyA_nil).triv (P := pur (Toks toks ∧ 0 < toks.length ∧ (0 : Nat) ≤ 21 ∧ ∀ x, (none : Option Ty.Ft) = some x → x.1 ≠ 0)) (fun _ => ⟨hT.1, hT.2, by omega, fun _ h => by cases h⟩)
  exact Prt.Sat.shutRd (s := ⟨⟨0, [], []⟩, none⟩) (p := (lv, .slice none 0 0, .slice none 0 0, 0)) (h.pick [0, 5, 2, 1, 3, 4])

/-- What the reference's reader comes to, behind the type. -/
def topM (toks : List Tok.Tk) : Except Ty.Ft (List Ty.Ty) := match Ty.typ toks 20 ⟨0, [], []⟩ with
  | .error e => .error e
  | .ok (_, st) => if (Ty.cur toks st.pos).kind ≠ 6 then .error (Ty.here toks 1 st.pos) else if st.ts.length > 300 then .error (2, 0) else .ok st.ts
theorem typeOf_top {s : ByteArray} {toks : List Tok.Tk} (h : Tok.scan s = .ok toks) : Ty.typeOf s = topM toks := by
  unfold Ty.typeOf topM; rw [h]; rfl

set_option maxRecDepth 100000 in
set_option maxHeartbeats 1000000 in
theorem refTypeOf_any {w0 w : World} {Fr : As} (H : Sat w0 w [Fr]) (s : ByteArray) (hm : s.size ≤ maxLen) {R : Ending → World → Prop}
    (hok : ∀ ts v w', Ty.typeOf s = .ok ts → Sat w0 w' [Fr, tyA v ts] → R (.returned (.tuple #[v, ftVal (0, 0)])) w')
    (hbad : ∀ f w', Ty.typeOf s = .error f → Sat w0 w' [Fr] → R (.returned (.tuple #[.slice none 0 0, ftVal f])) w') :
    Calls Tryz.prog 16 #[.string s] w R := by
  have HOK := Lib.hid hok
  have HBAD := Lib.hid hbad
  have HS := Lib.hid H
  have HMX := Lib.hid hm
  clear hok hbad H hm
  go_enter Tryz.func16, Tryz.ntmps16
  go_wp2_with fail
  have h1 := HS.out.allocAt (.cells #[.int .i64 0, .int .i64 0] 25) w.heap.size
  refine Tokens_any s _ HMX.out (fun l v w1 hl hb ho => ?_) (fun e p w1 hl hb => ?_)
  · have h2 := h1.newRow hb ho (by omega)
    have hl0 := Tok.scan_ok s l hl
    have HT : Hid (Toks l ∧ 0 < l.length) := ⟨⟨hl0.2.1, Ty.scan_last hl⟩, List.length_pos_iff.2 hl0.1⟩
    have htop := typeOf_top hl
    obtain ⟨a, cap, rfl⟩ := owns_slice ho
    have c0 := h2.cell 1 rfl 0 rfl
    have c1 := h2.cell 1 rfl 1 rfl
    have f0 := h2.free 1 rfl
    have hz := h2.lt 1 rfl
    have H2 := Lib.hid h2
    have HTOP := Lib.hid htop
    have hll := hl0.2.1
    clear hl hb ho h1 h2 hl0 htop
    go_wp2_with fail
    have h3 := (H2.out.allocAt (.cells #[.int .i64 0, .int .i64 0] 25) w1.heap.size).allocAt (.cells #[.slice a l.length cap, .int .i64 0, .int .i64 0, .slice none 0 0, .slice none 0 0, .int .i64 0, .int .i64 0, .int .i64 0] 68) (w1.heap.size + 1)
    have h4 : Sat w0 _ [stars [Fr, blk w.heap.size (.cells #[.int .i64 0, .int .i64 0] 25 (0, 0))], tkA (.slice a l.length cap) l, blk (w1.heap.size + 1) (.cells #[.slice a l.length cap, .int .i64 0, .int .i64 0, .slice none 0 0, .slice none 0 0, .int .i64 0, .int .i64 0, .int .i64 0] 68 (0, 0))] :=
      ((Prt.Sat.pack (L := [_, _]) (M := [Fr, blk w.heap.size (.cells #[.int .i64 0, .int .i64 0] 25 (0, 0))]) (h3.pick [2, 4, 0, 1])).pick [2, 0, 1])
    have h5 := Prt.Sat.newRd HT.out h4
    have hsim := Rd.read_sim HT.out.1.2 20 ⟨0, [], []⟩ ⟨HT.out.2, by simp, by simp⟩
    refine readType_any l HT.out.1.2 20 (by omega) w0 _ _ _ _ 0 (by omega) ⟨HT.out.2, fun _ => by simp, by simp, by simp⟩ h5 _ (fun w2 h6 => ?_)
    unfold topM at HTOP
    cases he : Ty.typ l 20 ⟨0, [], []⟩ with
    | error f =>
      rw [he] at hsim HTOP
      obtain ⟨n, st, g1, o1⟩ := hsim
      rw [g1] at h6 ⊢
      have hbd := Ty.typ_bad _ _ _ _ he
      have h7 := h6.un3
      have h8 : Sat w0 w2 [Fr, rdA (w1.heap.size + 1) (20 - 20) l ⟨st, some f⟩, blk w.heap.size (.cells #[.int .i64 0, .int .i64 0] 25 (0, 0))] := h7
      have HLK := Lib.hid (h8.pick [0, 1]).lookR
      have HLD := Lib.hid (h8.pick [0, 1]).drew.lookR
      obtain ⟨_, _, _, k6, k7, _⟩ := HLK.out.cells
      have y0 := h8.cell 2 rfl 0 rfl
      have y1 := h8.cell 2 rfl 1 rfl
      have fy := h8.free 2 rfl
      have hy := h8.lt 2 rfl
      obtain ⟨fe, fp⟩ := f
      dsimp only at hbd
      have hfe : fe ≠ 0 := hbd.1
      have H8 := Lib.hid h8
      have HT2 := Lib.hid HTOP
      clear HTOP h3 h4 h5 h6 h7 h8 g1 he hbd
      dsimp only [ftOf, Option.getD] at k6 k7
      go_wp2_with fail
      have HLN := Lib.hid (fun n => HLK.out.below (below_drewN (Below.refl w2.heap.size w2) n))
      go_quiet ((go_at_call 33; exact Calls.quiet_of_same (bad_any _ (w1.heap.size + 1) (20 - 20) l ⟨st, some (fe, fp)⟩ (HLN.out _) ⟨rfl, rfl⟩)))
      go_wp2_with fail
      refine bad_any _ _ _ l _ (HLN.out nq) ?_
      dsimp only [Option.isSome]
      go_wp2_with fail
      go_region
      all_goals
        go_wp2_with fail
        refine bodyPost_ret ?_ rfl (HBAD.out (fe, fp) _ HT2.out.out ?_)
        · simp [results, Tryz.results16, go_sem, ftVal, y0, y1]
        · exact ((((H8.out.below (below_drewN (Below.refl w2.heap.size w2) nq)).store 2 rfl 0 (.int .i64 fe)).store 2 rfl 1 (.int .i64 fp)).drew.pick [0])
    | ok q =>
      obtain ⟨n, st⟩ := q
      rw [he] at hsim HTOP
      obtain ⟨g1, o1⟩ := hsim
      rw [g1] at h6 ⊢
      have h7 := h6.un3
      have h8 : Sat w0 w2 [Fr, rdA (w1.heap.size + 1) (20 - 20) l ⟨st, none⟩, blk w.heap.size (.cells #[.int .i64 0, .int .i64 0] 25 (0, 0))] := h7
      have hlk := (h8.pick [0, 1]).lookR
      have HLK := Lib.hid hlk
      have hpos := hlk.fits.1
      obtain ⟨k8, k1, _, k6, k7, gb, cap2, k0, hg, t0, t1, t2⟩ := HLK.out.cells
      have y0 := h8.cell 2 rfl 0 rfl
      have y1 := h8.cell 2 rfl 1 rfl
      have fy := h8.free 2 rfl
      have hy := h8.lt 2 rfl
      have hpbl := hlk.lt
      have H8 := Lib.hid h8
      dsimp only [ftOf, Option.getD] at k6 k7 k1 t0 t1 t2 hpos
      dsimp only at HTOP
      have HLN := Lib.hid (fun n => HLK.out.below (below_drewN (Below.refl w2.heap.size w2) n))
      clear h3 h4 h5 h6 h7 h8 g1 he hlk
      by_cases hk : (Ty.cur l st.pos).kind = 6
      · rw [if_neg (by rw [hk]; simp)] at HTOP
        have HTOP2 := Lib.hid HTOP
        rw [hk] at t0
        clear HTOP hk
        obtain ⟨⟨lv, nv, tv, main⟩, hu⟩ := H8.out.ex (i := 1) rfl
        have hu := hu.unpack (i := 1) rfl
        obtain ⟨rows, hu2⟩ := hu.ex (i := 6) rfl
        have hu3 := (hu2.unpack (i := 6) rfl).row 7 rfl
        obtain ⟨a4, c4, e4⟩ := owns_slice hu3
        dsimp only at e4
        subst e4
        have k4 := hu.cell 3 rfl 4 rfl
        have hne := hu.ne 1 3 (by decide) rfl rfl
        have HU : Hid (Sat w0 w2 [Fr, blk w.heap.size (.cells #[.int .i64 0, .int .i64 0] 25 (0, 0)), tyA (.slice a4 st.ts.length c4) st.ts]) := hu.pick [0, 1, 6]
        have hcap : st.ts.length ≤ 1100 := by have := o1.2.1; have := o1.1; omega
        clear hu hu2 hu3
        go_wp2_with fail
        go_quiet ((go_at_call 33; exact Calls.quiet_of_same (bad_any _ (w1.heap.size + 1) (20 - 20) l ⟨st, none⟩ (HLN.out _) ⟨rfl, rfl⟩)))
        go_wp2_with fail
        refine bad_any _ _ _ l _ (HLN.out nq) ?_
        dsimp only [Option.isSome]
        by_cases h3 : 300 < st.ts.length
        · have hr : Hid (Ty.typeOf s = .error (2, 0)) := by have := HTOP2.out.out; rwa [if_pos h3] at this
          have q1 : decide (300 < st.ts.length) = true := decide_eq_true h3
          have q2 : decide ((300 : Int) < st.ts.length) = true := decide_eq_true (by omega)
          clear h3
          go_wp2_with fail
          refine bodyPost_ret ?_ rfl (HBAD.out (2, 0) _ hr.out ?_)
          · simp [results, Tryz.results16, go_sem, ftVal, y0, y1]
          · exact (((HU.out.below (below_drewN (Below.refl w2.heap.size w2) nq)).store 1 rfl 0 (.int .i64 2)).store 1 rfl 1 (.int .i64 0)).pick [0]
        · have hr : Hid (Ty.typeOf s = .ok st.ts) := by have := HTOP2.out.out; rwa [if_neg h3] at this
          have q1 : decide (300 < st.ts.length) = false := decide_eq_false h3
          have q2 : decide ((300 : Int) < st.ts.length) = false := decide_eq_false (by omega)
          clear h3
          go_wp2_with fail
          refine bodyPost_ret ?_ rfl (HOK.out st.ts (.slice a4 st.ts.length c4) _ hr.out ?_)
          · simp [results, Tryz.results16, go_sem, ftVal, y0, y1]
          · exact (((HU.out.below (below_drewN (Below.refl w2.heap.size w2) nq)).store 1 rfl 0 (.int .i64 0)).store 1 rfl 1 (.int .i64 0)).pick [0, 2]
      · rw [if_pos hk] at HTOP
        have HTOP2 := Lib.hid HTOP
        have kk : (((Ty.cur l st.pos).kind : Int) != 6) = true := by simp; omega
        have HW : Hid (Rd.wrong l 1 ⟨st, none⟩ = ⟨st, some (1, (Ty.cur l st.pos).pos)⟩) := rfl
        unfold Ty.here at HTOP2
        generalize Ty.cur l st.pos = t at *
        obtain ⟨kd, tx, ps⟩ := t
        dsimp only at kk t0 t1 t2 HW HTOP2
        clear HTOP hk
        go_wp2_with fail
        go_quiet ((go_at_call 33; exact Calls.quiet_of_same (bad_any _ (w1.heap.size + 1) (20 - 20) l ⟨st, none⟩ (HLN.out _) ⟨rfl, rfl⟩)))
        go_wp2_with fail
        have h9 := H8.out.below (below_drewN (Below.refl w2.heap.size w2) nq)
        refine wrong_any (h9.at 1 rfl) 1 (by omega) (fun w3 h10 => ?_)
        rw [HW.out] at h10
        have h11 := h10.un3
        have hlk3 := (h11.pick [0, 1]).lookR
        obtain ⟨_, _, _, m6, m7, _⟩ := hlk3.cells
        have y0' := h11.cell 2 rfl 0 rfl
        have y1' := h11.cell 2 rfl 1 rfl
        have fy' := h11.free 2 rfl
        have hy' := h11.lt 2 rfl
        have HLK3 := Lib.hid hlk3
        have H11 := Lib.hid h11
        clear h9 h10 h11 hlk3
        dsimp only [ftOf, Option.getD] at m6 m7
        go_wp2_with fail
        refine bad_any _ _ _ l _ HLK3.out ?_
        dsimp only [Option.isSome]
        go_wp2_with fail
        go_region
        all_goals
          go_wp2_with fail
          refine bodyPost_ret ?_ rfl (HBAD.out (1, ps) _ HTOP2.out.out ?_)
          · simp [results, Tryz.results16, go_sem, ftVal, y0', y1']
          · exact (((H11.out.store 2 rfl 0 (.int .i64 1)).store 2 rfl 1 (.int .i64 ps)).drew.pick [0])
  · have h2 := h1.below hb
    have c0 := h2.cell 1 rfl 0 rfl
    have c1 := h2.cell 1 rfl 1 rfl
    have f0 := h2.free 1 rfl
    have hz := h2.lt 1 rfl
    have hE : Ty.typeOf s = .error (e, p) := by unfold Ty.typeOf; rw [hl]
    have hbd := Ty.typeOf_bad hE
    dsimp only at hbd
    have e2 : ((e : Int) != 0) = true := by simp; omega
    have H2 := Lib.hid h2
    have HE := Lib.hid hE
    clear hl hb h1 h2 hE hbd
    go_wp2_with fail
    go_region
    all_goals
      go_wp2_with fail
      refine bodyPost_ret ?_ rfl (HBAD.out (e, p) _ HE.out ?_)
      · simp [results, Tryz.results16, go_sem, ftVal, hz, c0, c1]
      · exact ((((H2.out.store 1 rfl 0 (.int .i64 e)).store 1 rfl 1 (.int .i64 p))).waste _).drew.pick [0]
end Go.Proofs.YtdlbhiaceheffaaGreatDoor
