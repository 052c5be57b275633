/- Walk of the reference's writeLines; all expressions, statements, blocks. -/
import Derived.Test.YtdlbhiaceheffaaGreatDoorU35
set_option linter.all false
set_option maxRecDepth 100000
set_option maxHeartbeats 20000000
namespace Go.Proofs.YtdlbhiaceheffaaGreatDoor
section
open Go Go.RowKit
open Prt (Sat As blk pur exs star stars)
def SubR (wB : World) (nv tv : Value) (pg : Ty.Pg) (main : Int) : Ty.Sm → Prop
 | .let_ _ _ _ a => RxC wB nv tv pg main a
 | .set _ _ a => RxC wB nv tv pg main a
 | .put _ a _ v => RxC wB nv tv pg main a ∧ RxC wB nv tv pg main v
 | .lay _ a b v => RxC wB nv tv pg main a ∧ RxC wB nv tv pg main b ∧ RxC wB nv tv pg main v
 | .print _ a => RxC wB nv tv pg main a
 | .ret _ a => RxC wB nv tv pg main a
 | .do_ _ a => RxC wB nv tv pg main a
 | .if_ _ a _ b none => RxC wB nv tv pg main a ∧ BlR wB nv tv pg main b
 | .if_ _ a _ b (some (_, c)) => RxC wB nv tv pg main a ∧ BlR wB nv tv pg main b ∧ BlR wB nv tv pg main c
 | .while_ _ a _ b => RxC wB nv tv pg main a ∧ BlR wB nv tv pg main b
theorem denS_nd {ns : List Ty.Nd} {n : Nat} : ∀ {e : Ty.Sm}, Ty.DenS ns e n → ∃ nd, ns[n]? = some nd
 | .let_ .., h => by rw [Ty.DenS] at h; obtain ⟨_, h, _⟩ := h; exact ⟨_, h⟩
 | .set .., h => by rw [Ty.DenS] at h; obtain ⟨_, h, _⟩ := h; exact ⟨_, h⟩
 | .put .., h => by rw [Ty.DenS] at h; obtain ⟨_, _, h, _⟩ := h; exact ⟨_, h⟩
 | .lay .., h => by rw [Ty.DenS] at h; obtain ⟨_, _, _, h, _⟩ := h; exact ⟨_, h⟩
 | .print .., h => by rw [Ty.DenS] at h; obtain ⟨_, h, _⟩ := h; exact ⟨_, h⟩
 | .ret .., h => by rw [Ty.DenS] at h; obtain ⟨_, h, _⟩ := h; exact ⟨_, h⟩
 | .do_ .., h => by rw [Ty.DenS] at h; obtain ⟨_, h, _⟩ := h; exact ⟨_, h⟩
 | .if_ _ _ _ _ none, h => by rw [Ty.DenS] at h; obtain ⟨_, _, h, _⟩ := h; exact ⟨_, h⟩
 | .if_ _ _ _ _ (some (_, _)), h => by rw [Ty.DenS] at h; obtain ⟨_, _, _, h, _⟩ := h; exact ⟨_, h⟩
 | .while_ .., h => by rw [Ty.DenS] at h; obtain ⟨_, _, h, _⟩ := h; exact ⟨_, h⟩
section
variable {wB : World} {nv tv : Value} {pg : Ty.Pg} {main : Int}
theorem rlines_any (hP : PB wB nv tv pg) {l : List Ty.Sm} (hS : ∀ s ∈ l, SubR wB nv tv pg main s) : SlR wB nv tv pg main l := by
 intro nl lv hd hl ind w hb hsz hlen R hR
 have hll := hd.len
 have hsl := Ty.szSs_len l
 obtain ⟨na0, nn0, nc0, rfl⟩ := hP.ndSlice
 obtain ⟨ta, tn, tc, rfl⟩ := hP.tySlice
 have HR := qh hR
 have HP := qh hP
 have HLL := qh hll
 have HL := qh (owns_below hl hb)
 have HB := qh hb
 have HLN := qh hlen
 have HDS := qh (fun (k : Nat) (hk : k < l.length) (hk2 : k < nl.length) => (⟨hd.get k hk hk2, hS l[k] (List.getElem_mem hk), Nat.le_trans (Nat.add_le_add_left (Ty.szSs_in (List.getElem_mem hk)) ind) hsz⟩ : Ty.DenS pg.ns l[k] nl[k] ∧ SubR wB (.slice na0 nn0 nc0) (.slice ta tn tc) pg main l[k] ∧ ind + Ty.szS l[k] ≤ 1300))
 have hnl : nl.length ≤ 1300 := by omega
 have hin : ind ≤ 1300 := by omega
 obtain ⟨la, lc, rfl⟩ := owns_slice hl
 have h1 : Sat w (w.alloc (.cells #[.slice na0 nn0 nc0, .slice ta tn tc, .int .i64 main] 33)) [Prt.oldA w, blk w.heap.size (pgObj (.slice na0 nn0 nc0) (.slice ta tn tc) main)] := (Prt.Sat.old w).allocAt _ w.heap.size
 have H1 := qh h1
 clear hR hS hd hl hlen hb hsz hll hsl hP h1
 dsimp only [pgVal] at *
 go_enter Tryz.func44, Tryz.ntmps44
 go_wp2_with fail
 go_loopw [7, 8] (fun s i wr => ∃ k : Nat, s = .string (bs (Ty.wSs pg.ts ind (l.take k))) ∧ i = .int .i64 k ∧ k ≤ nl.length ∧ Hid (Sat w wr [Prt.oldA w, blk w.heap.size (pgObj (.slice na0 nn0 nc0) (.slice ta tn tc) main)])) (fun _ i _ => nl.length - (intOf i).toNat)
 case atStart => exact ⟨0, by rw [List.take_zero, Ty.wSs]; rfl, rfl, by omega, H1.out⟩
 case round =>
   obtain ⟨k, rfl, rfl, hk, hS⟩ := hrel
   have p0 := hS.out.cell 1 rfl 0 rfl
   have p1 := hS.out.cell 1 rfl 1 rfl
   have p2 := hS.out.cell 1 rfl 2 rfl
   by_cases hlt : k < nl.length
   · obtain ⟨gl, capl, e, hgl, d0⟩ := ints_at (owns_below HL.out hS.out.isBelow) k hlt
     cases e
     have hkl : k < l.length := by have := HLL.out; omega
     have hst := Ty.wSs_step pg.ts ind l k hkl
     have hpt := Ty.wSs_part pg.ts ind l (k + 1)
     have hln := HLN.out
     rw [hst, List.length_append] at hpt
     have HST := qh hst
     obtain ⟨hds, hsub, hszs⟩ := HDS.out k hkl hlt
     generalize l[k] = st at *
     generalize nl[k] = m at *
     obtain ⟨bJ, hbJ⟩ : ∃ bJ, Ty.wSs pg.ts ind (l.take k) = bJ := ⟨_, rfl⟩
     rw [hbJ] at HST hpt ⊢
     have hbl : bJ.length + (Ty.wS pg.ts ind st).length ≤ 900000000 := by omega
     clear hst hpt hln hbJ hkl
     obtain ⟨nd, hnd⟩ := denS_nd hds
     obtain ⟨g, cap, lv, ev, hmN, hg, hcap, hcm, hA, hlo, hok, hN⟩ := HP.out.look hnd
     cases ev
     obtain ⟨q0, q1, q2, q3, q4, q5, q6, q7, q8⟩ := (hA.below HB.out).below hS.out.isBelow
     obtain ⟨va, vc, rfl⟩ := owns_slice hlo
     have hgr : g < wr.heap.size := Nat.lt_of_lt_of_le (Nat.lt_of_lt_of_le hg HB.out.size) hS.out.isBelow.size
     unfold maxLen at hcm
     have HND := qh hnd
     have HOK := qh hok
     have HDEN := qh hds
     have HSUB := qh hsub
     clear hA hlo hok hnd hds hsub HDS
     have hws : w.heap.size < wr.heap.size := hS.out.lt 1 rfl
     go_upto_region 6 with fail
     go_cut [9] (fun s9 wx => ∃ bn : Nat, s9 = .pointer (some ⟨bn, 0, none⟩) ∧ Hid (Sat w wx [Prt.oldA w, blk w.heap.size (pgObj (.slice (some ⟨g, 0, none⟩) pg.ns.length nc0) (.slice ta tn tc) main), blk bn (ndObj nd (.slice va nd.list.length vc))]))
     case first =>
       go_region
       all_goals
         go_wp2_with fail
         go_meet
         exact ⟨_, rfl, (hS.out.allocAt (ndObj nd (.slice va nd.list.length vc)) wr.heap.size).drew⟩
     case rest =>
     obtain ⟨bn, rfl, hX⟩ := hcut
     clear q0 q1 q2 q3 q4 q5 q6 q7 q8 p0 p1 p2 hS d0
     cases st with
     | let_ p x ty a =>
       as_aux_lemma =>
         have hds := HDEN.out
         have hsub := HSUB.out
         rw [Ty.DenS] at hds
         obtain ⟨na, h1, hda⟩ := hds
         rw [Ty.szS] at hszs
         have end_ := Option.some.inj (HND.out.symm.trans h1)
         subst end_
         have hok := HOK.out
         have e0 : Ty.wS pg.ts ind (.let_ p x ty a) = Ty.blanks ind ++ [108, 101, 116, 32] ++ x.data.toList ++ Ty.colS pg.ts ty ++ [32, 61, 32] ++ Ty.wE pg.ts ind a ++ [59, 10] := by rw [Ty.wS] <;> (first | rfl | (unfold Ty.wB; simp))
         rw [e0] at HST hbl
         have eza := Ty.wP_zero pg.ts ind a
         rw [← eza] at HST hbl
         have hty := hok.ty
         have HT := qh (fun (w1 : World) (h : Below w.heap.size w w1) (R : Ending → World → Prop) => writeColon_any (R := R) (main := main) HP.out (HB.out.trans (h.mono HB.out.size)) hty)
         dsimp only [pgVal] at HT
         have HAx := fun (w1 : World) (h : Below w.heap.size w w1) hx => hsub na hda 0 ind w1 (HB.out.trans (h.mono HB.out.size)) (by omega) (by omega) hx
         simp only [show ((0 : Nat) : Int) = 0 from rfl] at HAx
         dsimp only [pgVal] at HAx
         have HA := qh HAx
         clear HAx
         generalize Ty.colS pg.ts ty = pc at *
         generalize Ty.wP pg.ts ind 0 a = pa at *
         have hbk := Ty.blanks_len ind
         simp only [lzA, lzC, lzN] at hbl
         have HLpa : Hid (pa.length ≤ 900000000) := by show _ ≤ _; omega
         have HK := qh (fun w2 (h : Sat w w2 [Prt.oldA w, blk w.heap.size (pgObj (.slice (some ⟨g, 0, none⟩) pg.ns.length nc0) (.slice ta tn tc) main), blk bn (ndObj { Ty.ndOf 17 p with text := x, ty := ty, a := na } (.slice va ({ Ty.ndOf 17 p with text := x, ty := ty, a := na }).list.length vc))]) => (⟨⟨h.cell 1 rfl 0 rfl, h.cell 1 rfl 1 rfl, h.cell 1 rfl 2 rfl⟩, h.cell 2 rfl 0 rfl, h.cell 2 rfl 1 rfl, h.cell 2 rfl 2 rfl, h.cell 2 rfl 3 rfl, h.cell 2 rfl 4 rfl, h.cell 2 rfl 5 rfl, h.cell 2 rfl 6 rfl, h.cell 2 rfl 7 rfl, h.cell 2 rfl 8 rfl⟩ : (w2.cell? ⟨w.heap.size, 0, none⟩ = some (.slice (some ⟨g, 0, none⟩) pg.ns.length nc0) ∧ w2.cell? ⟨w.heap.size, 1, none⟩ = some (.slice ta tn tc) ∧ w2.cell? ⟨w.heap.size, 2, none⟩ = some (.int .i64 main)) ∧ NdRd w2 bn { Ty.ndOf 17 p with text := x, ty := ty, a := na } (.slice va ({ Ty.ndOf 17 p with text := x, ty := ty, a := na }).list.length vc)))
         have HK2 := qh (HK.out _ hX.out)
         have H2 := qh hX.out
         obtain ⟨s1, e1, c1⟩ := cat_ex (a := bs bJ) (b := bs (Ty.blanks ind)) (x := bJ) (y := (Ty.blanks ind)) (z := bJ ++ (Ty.blanks ind)) rfl rfl rfl (by simp only [lzA, lzC, lzN]; omega)
         obtain ⟨s2, e2, c2⟩ := cat_ex (a := ⟨#[108, 101, 116, 32]⟩) (b := x) (x := [108, 101, 116, 32]) (y := x.data.toList) (z := [108, 101, 116, 32] ++ x.data.toList) rfl (bs_of x).symm rfl (by simp only [lzA, lzC, lzN]; omega)
         obtain ⟨s3, e3, c3⟩ := cat_ex (a := s2) (b := bs pc) (x := [108, 101, 116, 32] ++ x.data.toList) (y := pc) (z := [108, 101, 116, 32] ++ x.data.toList ++ pc) e2 rfl rfl (by simp only [lzA, lzC, lzN]; omega)
         obtain ⟨s4, e4, c4⟩ := cat_ex (a := s3) (b := ⟨#[32, 61, 32]⟩) (x := [108, 101, 116, 32] ++ x.data.toList ++ pc) (y := [32, 61, 32]) (z := [108, 101, 116, 32] ++ x.data.toList ++ pc ++ [32, 61, 32]) e3 rfl rfl (by simp only [lzA, lzC, lzN]; omega)
         obtain ⟨s5, e5, c5⟩ := cat_ex (a := s4) (b := bs pa) (x := [108, 101, 116, 32] ++ x.data.toList ++ pc ++ [32, 61, 32]) (y := pa) (z := [108, 101, 116, 32] ++ x.data.toList ++ pc ++ [32, 61, 32] ++ pa) e4 rfl rfl (by simp only [lzA, lzC, lzN]; omega)
         obtain ⟨s6, e6, c6⟩ := cat_ex (a := s1) (b := s5) (x := bJ ++ (Ty.blanks ind)) (y := [108, 101, 116, 32] ++ x.data.toList ++ pc ++ [32, 61, 32] ++ pa) (z := bJ ++ (Ty.blanks ind) ++ ([108, 101, 116, 32] ++ x.data.toList ++ pc ++ [32, 61, 32] ++ pa)) e1 e5 rfl (by simp only [lzA, lzC, lzN]; omega)
         obtain ⟨s7, e7, c7⟩ := cat_ex (a := s6) (b := ⟨#[59, 10]⟩) (x := bJ ++ (Ty.blanks ind) ++ ([108, 101, 116, 32] ++ x.data.toList ++ pc ++ [32, 61, 32] ++ pa)) (y := [59, 10]) (z := bJ ++ (Ty.blanks ind) ++ ([108, 101, 116, 32] ++ x.data.toList ++ pc ++ [32, 61, 32] ++ pa) ++ [59, 10]) e6 rfl rfl (by simp only [lzA, lzC, lzN]; omega)
         have eF : s7 = bs (Ty.wSs pg.ts ind (l.take (k + 1))) := by rw [HST.out, e7]; congr 1; simp
         have EF := qh eF
         clear eF HST hbl hbk e0 hok h1 HND HOK HDEN HSUB hX e1 e2 e3 e4 e5 e6 e7 hda hty eza hsub
         dsimp only [Ty.ndOf, ndObj, List.length_nil] at *
         obtain ⟨⟨a0, a1, a2⟩, ⟨u0, u1, u2, u3, u4, u5, u6, u7, u8⟩⟩ := HK2.out
         go_wp2_with fail
         refine rblanks_any _ ind (by omega) ?_
         go_wp2_with fail
         go_region_held3 (fun w' => w'.cell? ⟨w.heap.size, 0, none⟩ = some (.slice (some ⟨g, 0, none⟩) pg.ns.length nc0) ∧ w'.cell? ⟨w.heap.size, 1, none⟩ = some (.slice ta tn tc) ∧ w'.cell? ⟨w.heap.size, 2, none⟩ = some (.int .i64 main) ∧ w'.cell? ⟨bn, 5, none⟩ = some (.string x) ∧ w'.cell? ⟨bn, 7, none⟩ = some (.int .i64 ty) ∧ w'.cell? ⟨bn, 1, none⟩ = some (.int .i64 (na : Nat))) (go_keep)
           (first | (go_at_call 86; with_reducible refine HT.out _ H2.out.drew.isBelow _ (fun w3 hb3 => ?_); have h3 := H2.out.drew.below hb3; obtain ⟨⟨a0, a1, a2⟩, ⟨u0, u1, u2, u3, u4, u5, u6, u7, u8⟩⟩ := HK.out _ h3; have H3 := qh h3; clear hb3 h3)
                  | (go_at_call 87; with_reducible refine HA.out _ H3.out.isBelow HLpa.out _ (fun w4 hb4 => ?_); have h4 := H3.out.below hb4; obtain ⟨⟨a0, a1, a2⟩, ⟨u0, u1, u2, u3, u4, u5, u6, u7, u8⟩⟩ := HK.out _ h4; have H4 := qh h4; clear hb4 h4))
         all_goals
         go_wp2_with fail
         go_roundw
         case rel => exact ⟨k + 1, congrArg Value.string EF.out, by go_num, by omega, (H4.out.pick [0, 1])⟩
         case measure => simp [intOf]; omega
     | set p x a =>
       as_aux_lemma =>
         have hds := HDEN.out
         have hsub := HSUB.out
         rw [Ty.DenS] at hds
         obtain ⟨na, h1, hda⟩ := hds
         rw [Ty.szS] at hszs
         have end_ := Option.some.inj (HND.out.symm.trans h1)
         subst end_
         have hok := HOK.out
         have e0 : Ty.wS pg.ts ind (.set p x a) = Ty.blanks ind ++ x.data.toList ++ [32, 61, 32] ++ Ty.wE pg.ts ind a ++ [59, 10] := by rw [Ty.wS] <;> (first | rfl | (unfold Ty.wB; simp))
         rw [e0] at HST hbl
         have eza := Ty.wP_zero pg.ts ind a
         rw [← eza] at HST hbl
         have HAx := fun (w1 : World) (h : Below w.heap.size w w1) hx => hsub na hda 0 ind w1 (HB.out.trans (h.mono HB.out.size)) (by omega) (by omega) hx
         simp only [show ((0 : Nat) : Int) = 0 from rfl] at HAx
         dsimp only [pgVal] at HAx
         have HA := qh HAx
         clear HAx
         generalize Ty.wP pg.ts ind 0 a = pa at *
         have hbk := Ty.blanks_len ind
         simp only [lzA, lzC, lzN] at hbl
         have HLpa : Hid (pa.length ≤ 900000000) := by show _ ≤ _; omega
         have HK := qh (fun w2 (h : Sat w w2 [Prt.oldA w, blk w.heap.size (pgObj (.slice (some ⟨g, 0, none⟩) pg.ns.length nc0) (.slice ta tn tc) main), blk bn (ndObj { Ty.ndOf 18 p with text := x, a := na } (.slice va ({ Ty.ndOf 18 p with text := x, a := na }).list.length vc))]) => (⟨⟨h.cell 1 rfl 0 rfl, h.cell 1 rfl 1 rfl, h.cell 1 rfl 2 rfl⟩, h.cell 2 rfl 0 rfl, h.cell 2 rfl 1 rfl, h.cell 2 rfl 2 rfl, h.cell 2 rfl 3 rfl, h.cell 2 rfl 4 rfl, h.cell 2 rfl 5 rfl, h.cell 2 rfl 6 rfl, h.cell 2 rfl 7 rfl, h.cell 2 rfl 8 rfl⟩ : (w2.cell? ⟨w.heap.size, 0, none⟩ = some (.slice (some ⟨g, 0, none⟩) pg.ns.length nc0) ∧ w2.cell? ⟨w.heap.size, 1, none⟩ = some (.slice ta tn tc) ∧ w2.cell? ⟨w.heap.size, 2, none⟩ = some (.int .i64 main)) ∧ NdRd w2 bn { Ty.ndOf 18 p with text := x, a := na } (.slice va ({ Ty.ndOf 18 p with text := x, a := na }).list.length vc)))
         have HK2 := qh (HK.out _ hX.out)
         have H2 := qh hX.out
         obtain ⟨s1, e1, c1⟩ := cat_ex (a := bs bJ) (b := bs (Ty.blanks ind)) (x := bJ) (y := (Ty.blanks ind)) (z := bJ ++ (Ty.blanks ind)) rfl rfl rfl (by simp only [lzA, lzC, lzN]; omega)
         obtain ⟨s2, e2, c2⟩ := cat_ex (a := x) (b := ⟨#[32, 61, 32]⟩) (x := x.data.toList) (y := [32, 61, 32]) (z := x.data.toList ++ [32, 61, 32]) (bs_of x).symm rfl rfl (by simp only [lzA, lzC, lzN]; omega)
         obtain ⟨s3, e3, c3⟩ := cat_ex (a := s2) (b := bs pa) (x := x.data.toList ++ [32, 61, 32]) (y := pa) (z := x.data.toList ++ [32, 61, 32] ++ pa) e2 rfl rfl (by simp only [lzA, lzC, lzN]; omega)
         obtain ⟨s4, e4, c4⟩ := cat_ex (a := s1) (b := s3) (x := bJ ++ (Ty.blanks ind)) (y := x.data.toList ++ [32, 61, 32] ++ pa) (z := bJ ++ (Ty.blanks ind) ++ (x.data.toList ++ [32, 61, 32] ++ pa)) e1 e3 rfl (by simp only [lzA, lzC, lzN]; omega)
         obtain ⟨s5, e5, c5⟩ := cat_ex (a := s4) (b := ⟨#[59, 10]⟩) (x := bJ ++ (Ty.blanks ind) ++ (x.data.toList ++ [32, 61, 32] ++ pa)) (y := [59, 10]) (z := bJ ++ (Ty.blanks ind) ++ (x.data.toList ++ [32, 61, 32] ++ pa) ++ [59, 10]) e4 rfl rfl (by simp only [lzA, lzC, lzN]; omega)
         have eF : s5 = bs (Ty.wSs pg.ts ind (l.take (k + 1))) := by rw [HST.out, e5]; congr 1; simp
         have EF := qh eF
         clear eF HST hbl hbk e0 hok h1 HND HOK HDEN HSUB hX e1 e2 e3 e4 e5 hda eza hsub
         dsimp only [Ty.ndOf, ndObj, List.length_nil] at *
         obtain ⟨⟨a0, a1, a2⟩, ⟨u0, u1, u2, u3, u4, u5, u6, u7, u8⟩⟩ := HK2.out
         go_wp2_with fail
         refine rblanks_any _ ind (by omega) ?_
         go_wp2_with fail
         go_region_held3 (fun w' => w'.cell? ⟨w.heap.size, 0, none⟩ = some (.slice (some ⟨g, 0, none⟩) pg.ns.length nc0) ∧ w'.cell? ⟨w.heap.size, 1, none⟩ = some (.slice ta tn tc) ∧ w'.cell? ⟨w.heap.size, 2, none⟩ = some (.int .i64 main) ∧ w'.cell? ⟨bn, 5, none⟩ = some (.string x) ∧ w'.cell? ⟨bn, 1, none⟩ = some (.int .i64 (na : Nat))) (go_keep)
           (first | (go_at_call 87; with_reducible refine HA.out _ H2.out.drew.isBelow HLpa.out _ (fun w3 hb3 => ?_); have h3 := H2.out.drew.below hb3; obtain ⟨⟨a0, a1, a2⟩, ⟨u0, u1, u2, u3, u4, u5, u6, u7, u8⟩⟩ := HK.out _ h3; have H3 := qh h3; clear hb3 h3))
         all_goals
         go_wp2_with fail
         go_roundw
         case rel => exact ⟨k + 1, congrArg Value.string EF.out, by go_num, by omega, (H3.out.pick [0, 1])⟩
         case measure => simp [intOf]; omega
     | put p a x v =>
       as_aux_lemma =>
         have hds := HDEN.out
         have hsub := HSUB.out
         rw [Ty.DenS] at hds
         obtain ⟨na, nb, h1, hda, hdv⟩ := hds
         rw [Ty.szS] at hszs
         have end_ := Option.some.inj (HND.out.symm.trans h1)
         subst end_
         have hok := HOK.out
         have e0 : Ty.wS pg.ts ind (.put p a x v) = Ty.blanks ind ++ Ty.wP pg.ts ind 4 a ++ [46] ++ x.data.toList ++ [32, 61, 32] ++ Ty.wE pg.ts ind v ++ [59, 10] := by rw [Ty.wS] <;> (first | rfl | (unfold Ty.wB; simp))
         rw [e0] at HST hbl
         have ezv := Ty.wP_zero pg.ts ind v
         rw [← ezv] at HST hbl
         obtain ⟨hsa, hsv⟩ := hsub
         have HAx := fun (w1 : World) (h : Below w.heap.size w w1) hx => hsa na hda 4 ind w1 (HB.out.trans (h.mono HB.out.size)) (by omega) (by omega) hx
         simp only [show ((4 : Nat) : Int) = 4 from rfl] at HAx
         dsimp only [pgVal] at HAx
         have HA := qh HAx
         clear HAx
         have HVx := fun (w1 : World) (h : Below w.heap.size w w1) hx => hsv nb hdv 0 ind w1 (HB.out.trans (h.mono HB.out.size)) (by omega) (by omega) hx
         simp only [show ((0 : Nat) : Int) = 0 from rfl] at HVx
         dsimp only [pgVal] at HVx
         have HV := qh HVx
         clear HVx
         generalize Ty.wP pg.ts ind 4 a = pa at *
         generalize Ty.wP pg.ts ind 0 v = pv at *
         have hbk := Ty.blanks_len ind
         simp only [lzA, lzC, lzN] at hbl
         have HLpa : Hid (pa.length ≤ 900000000) := by show _ ≤ _; omega
         have HLpv : Hid (pv.length ≤ 900000000) := by show _ ≤ _; omega
         have HK := qh (fun w2 (h : Sat w w2 [Prt.oldA w, blk w.heap.size (pgObj (.slice (some ⟨g, 0, none⟩) pg.ns.length nc0) (.slice ta tn tc) main), blk bn (ndObj { Ty.ndOf 19 p with text := x, a := na, b := nb } (.slice va ({ Ty.ndOf 19 p with text := x, a := na, b := nb }).list.length vc))]) => (⟨⟨h.cell 1 rfl 0 rfl, h.cell 1 rfl 1 rfl, h.cell 1 rfl 2 rfl⟩, h.cell 2 rfl 0 rfl, h.cell 2 rfl 1 rfl, h.cell 2 rfl 2 rfl, h.cell 2 rfl 3 rfl, h.cell 2 rfl 4 rfl, h.cell 2 rfl 5 rfl, h.cell 2 rfl 6 rfl, h.cell 2 rfl 7 rfl, h.cell 2 rfl 8 rfl⟩ : (w2.cell? ⟨w.heap.size, 0, none⟩ = some (.slice (some ⟨g, 0, none⟩) pg.ns.length nc0) ∧ w2.cell? ⟨w.heap.size, 1, none⟩ = some (.slice ta tn tc) ∧ w2.cell? ⟨w.heap.size, 2, none⟩ = some (.int .i64 main)) ∧ NdRd w2 bn { Ty.ndOf 19 p with text := x, a := na, b := nb } (.slice va ({ Ty.ndOf 19 p with text := x, a := na, b := nb }).list.length vc)))
         have HK2 := qh (HK.out _ hX.out)
         have H2 := qh hX.out
         obtain ⟨s1, e1, c1⟩ := cat_ex (a := bs bJ) (b := bs (Ty.blanks ind)) (x := bJ) (y := (Ty.blanks ind)) (z := bJ ++ (Ty.blanks ind)) rfl rfl rfl (by simp only [lzA, lzC, lzN]; omega)
         obtain ⟨s2, e2, c2⟩ := cat_ex (a := bs pa) (b := ⟨#[46]⟩) (x := pa) (y := [46]) (z := pa ++ [46]) rfl rfl rfl (by simp only [lzA, lzC, lzN]; omega)
         obtain ⟨s3, e3, c3⟩ := cat_ex (a := s2) (b := x) (x := pa ++ [46]) (y := x.data.toList) (z := pa ++ [46] ++ x.data.toList) e2 (bs_of x).symm rfl (by simp only [lzA, lzC, lzN]; omega)
         obtain ⟨s4, e4, c4⟩ := cat_ex (a := s3) (b := ⟨#[32, 61, 32]⟩) (x := pa ++ [46] ++ x.data.toList) (y := [32, 61, 32]) (z := pa ++ [46] ++ x.data.toList ++ [32, 61, 32]) e3 rfl rfl (by simp only [lzA, lzC, lzN]; omega)
         obtain ⟨s5, e5, c5⟩ := cat_ex (a := s4) (b := bs pv) (x := pa ++ [46] ++ x.data.toList ++ [32, 61, 32]) (y := pv) (z := pa ++ [46] ++ x.data.toList ++ [32, 61, 32] ++ pv) e4 rfl rfl (by simp only [lzA, lzC, lzN]; omega)
         obtain ⟨s6, e6, c6⟩ := cat_ex (a := s1) (b := s5) (x := bJ ++ (Ty.blanks ind)) (y := pa ++ [46] ++ x.data.toList ++ [32, 61, 32] ++ pv) (z := bJ ++ (Ty.blanks ind) ++ (pa ++ [46] ++ x.data.toList ++ [32, 61, 32] ++ pv)) e1 e5 rfl (by simp only [lzA, lzC, lzN]; omega)
         obtain ⟨s7, e7, c7⟩ := cat_ex (a := s6) (b := ⟨#[59, 10]⟩) (x := bJ ++ (Ty.blanks ind) ++ (pa ++ [46] ++ x.data.toList ++ [32, 61, 32] ++ pv)) (y := [59, 10]) (z := bJ ++ (Ty.blanks ind) ++ (pa ++ [46] ++ x.data.toList ++ [32, 61, 32] ++ pv) ++ [59, 10]) e6 rfl rfl (by simp only [lzA, lzC, lzN]; omega)
         have eF : s7 = bs (Ty.wSs pg.ts ind (l.take (k + 1))) := by rw [HST.out, e7]; congr 1; simp
         have EF := qh eF
         clear eF HST hbl hbk e0 hok h1 HND HOK HDEN HSUB hX e1 e2 e3 e4 e5 e6 e7 hda hdv ezv hsa hsv
         dsimp only [Ty.ndOf, ndObj, List.length_nil] at *
         obtain ⟨⟨a0, a1, a2⟩, ⟨u0, u1, u2, u3, u4, u5, u6, u7, u8⟩⟩ := HK2.out
         go_wp2_with fail
         refine rblanks_any _ ind (by omega) ?_
         go_wp2_with fail
         go_region_held3 (fun w' => w'.cell? ⟨w.heap.size, 0, none⟩ = some (.slice (some ⟨g, 0, none⟩) pg.ns.length nc0) ∧ w'.cell? ⟨w.heap.size, 1, none⟩ = some (.slice ta tn tc) ∧ w'.cell? ⟨w.heap.size, 2, none⟩ = some (.int .i64 main) ∧ w'.cell? ⟨bn, 1, none⟩ = some (.int .i64 (na : Nat)) ∧ w'.cell? ⟨bn, 5, none⟩ = some (.string x) ∧ w'.cell? ⟨bn, 2, none⟩ = some (.int .i64 (nb : Nat))) (go_keep)
           (first | (go_at_call 87; with_reducible refine HA.out _ H2.out.drew.isBelow HLpa.out _ (fun w3 hb3 => ?_); have h3 := H2.out.drew.below hb3; obtain ⟨⟨a0, a1, a2⟩, ⟨u0, u1, u2, u3, u4, u5, u6, u7, u8⟩⟩ := HK.out _ h3; have H3 := qh h3; clear hb3 h3)
                  | (go_at_call 87; with_reducible refine HV.out _ H3.out.isBelow HLpv.out _ (fun w4 hb4 => ?_); have h4 := H3.out.below hb4; obtain ⟨⟨a0, a1, a2⟩, ⟨u0, u1, u2, u3, u4, u5, u6, u7, u8⟩⟩ := HK.out _ h4; have H4 := qh h4; clear hb4 h4))
         all_goals
         go_wp2_with fail
         go_roundw
         case rel => exact ⟨k + 1, congrArg Value.string EF.out, by go_num, by omega, (H4.out.pick [0, 1])⟩
         case measure => simp [intOf]; omega
     | lay p a b v =>
       as_aux_lemma =>
         have hds := HDEN.out
         have hsub := HSUB.out
         rw [Ty.DenS] at hds
         obtain ⟨na, nb, nc, h1, hda, hdb, hdv⟩ := hds
         rw [Ty.szS] at hszs
         have end_ := Option.some.inj (HND.out.symm.trans h1)
         subst end_
         have hok := HOK.out
         have e0 : Ty.wS pg.ts ind (.lay p a b v) = Ty.blanks ind ++ Ty.wP pg.ts ind 4 a ++ [91] ++ Ty.wE pg.ts ind b ++ [93, 32, 61, 32] ++ Ty.wE pg.ts ind v ++ [59, 10] := by rw [Ty.wS] <;> (first | rfl | (unfold Ty.wB; simp))
         rw [e0] at HST hbl
         have ezb := Ty.wP_zero pg.ts ind b
         have ezv := Ty.wP_zero pg.ts ind v
         simp only [← ezb, ← ezv] at HST hbl
         obtain ⟨hsa, hsb, hsv⟩ := hsub
         have HAx := fun (w1 : World) (h : Below w.heap.size w w1) hx => hsa na hda 4 ind w1 (HB.out.trans (h.mono HB.out.size)) (by omega) (by omega) hx
         simp only [show ((4 : Nat) : Int) = 4 from rfl] at HAx
         dsimp only [pgVal] at HAx
         have HA := qh HAx
         clear HAx
         have HBxx := fun (w1 : World) (h : Below w.heap.size w w1) hx => hsb nb hdb 0 ind w1 (HB.out.trans (h.mono HB.out.size)) (by omega) (by omega) hx
         simp only [show ((0 : Nat) : Int) = 0 from rfl] at HBxx
         dsimp only [pgVal] at HBxx
         have HBx := qh HBxx
         clear HBxx
         have HVx := fun (w1 : World) (h : Below w.heap.size w w1) hx => hsv nc hdv 0 ind w1 (HB.out.trans (h.mono HB.out.size)) (by omega) (by omega) hx
         simp only [show ((0 : Nat) : Int) = 0 from rfl] at HVx
         dsimp only [pgVal] at HVx
         have HV := qh HVx
         clear HVx
         generalize Ty.wP pg.ts ind 4 a = pa at *
         generalize Ty.wP pg.ts ind 0 b = pb at *
         generalize Ty.wP pg.ts ind 0 v = pv at *
         have hbk := Ty.blanks_len ind
         simp only [lzA, lzC, lzN] at hbl
         have HLpa : Hid (pa.length ≤ 900000000) := by show _ ≤ _; omega
         have HLpb : Hid (pb.length ≤ 900000000) := by show _ ≤ _; omega
         have HLpv : Hid (pv.length ≤ 900000000) := by show _ ≤ _; omega
         have HK := qh (fun w2 (h : Sat w w2 [Prt.oldA w, blk w.heap.size (pgObj (.slice (some ⟨g, 0, none⟩) pg.ns.length nc0) (.slice ta tn tc) main), blk bn (ndObj { Ty.ndOf 20 p with a := na, b := nb, c := ((nc : Nat) : Int) } (.slice va ({ Ty.ndOf 20 p with a := na, b := nb, c := ((nc : Nat) : Int) }).list.length vc))]) => (⟨⟨h.cell 1 rfl 0 rfl, h.cell 1 rfl 1 rfl, h.cell 1 rfl 2 rfl⟩, h.cell 2 rfl 0 rfl, h.cell 2 rfl 1 rfl, h.cell 2 rfl 2 rfl, h.cell 2 rfl 3 rfl, h.cell 2 rfl 4 rfl, h.cell 2 rfl 5 rfl, h.cell 2 rfl 6 rfl, h.cell 2 rfl 7 rfl, h.cell 2 rfl 8 rfl⟩ : (w2.cell? ⟨w.heap.size, 0, none⟩ = some (.slice (some ⟨g, 0, none⟩) pg.ns.length nc0) ∧ w2.cell? ⟨w.heap.size, 1, none⟩ = some (.slice ta tn tc) ∧ w2.cell? ⟨w.heap.size, 2, none⟩ = some (.int .i64 main)) ∧ NdRd w2 bn { Ty.ndOf 20 p with a := na, b := nb, c := ((nc : Nat) : Int) } (.slice va ({ Ty.ndOf 20 p with a := na, b := nb, c := ((nc : Nat) : Int) }).list.length vc)))
         have HK2 := qh (HK.out _ hX.out)
         have H2 := qh hX.out
         obtain ⟨s1, e1, c1⟩ := cat_ex (a := bs bJ) (b := bs (Ty.blanks ind)) (x := bJ) (y := (Ty.blanks ind)) (z := bJ ++ (Ty.blanks ind)) rfl rfl rfl (by simp only [lzA, lzC, lzN]; omega)
         obtain ⟨s2, e2, c2⟩ := cat_ex (a := bs pa) (b := ⟨#[91]⟩) (x := pa) (y := [91]) (z := pa ++ [91]) rfl rfl rfl (by simp only [lzA, lzC, lzN]; omega)
         obtain ⟨s3, e3, c3⟩ := cat_ex (a := s2) (b := bs pb) (x := pa ++ [91]) (y := pb) (z := pa ++ [91] ++ pb) e2 rfl rfl (by simp only [lzA, lzC, lzN]; omega)
         obtain ⟨s4, e4, c4⟩ := cat_ex (a := s3) (b := ⟨#[93, 32, 61, 32]⟩) (x := pa ++ [91] ++ pb) (y := [93, 32, 61, 32]) (z := pa ++ [91] ++ pb ++ [93, 32, 61, 32]) e3 rfl rfl (by simp only [lzA, lzC, lzN]; omega)
         obtain ⟨s5, e5, c5⟩ := cat_ex (a := s4) (b := bs pv) (x := pa ++ [91] ++ pb ++ [93, 32, 61, 32]) (y := pv) (z := pa ++ [91] ++ pb ++ [93, 32, 61, 32] ++ pv) e4 rfl rfl (by simp only [lzA, lzC, lzN]; omega)
         obtain ⟨s6, e6, c6⟩ := cat_ex (a := s1) (b := s5) (x := bJ ++ (Ty.blanks ind)) (y := pa ++ [91] ++ pb ++ [93, 32, 61, 32] ++ pv) (z := bJ ++ (Ty.blanks ind) ++ (pa ++ [91] ++ pb ++ [93, 32, 61, 32] ++ pv)) e1 e5 rfl (by simp only [lzA, lzC, lzN]; omega)
         obtain ⟨s7, e7, c7⟩ := cat_ex (a := s6) (b := ⟨#[59, 10]⟩) (x := bJ ++ (Ty.blanks ind) ++ (pa ++ [91] ++ pb ++ [93, 32, 61, 32] ++ pv)) (y := [59, 10]) (z := bJ ++ (Ty.blanks ind) ++ (pa ++ [91] ++ pb ++ [93, 32, 61, 32] ++ pv) ++ [59, 10]) e6 rfl rfl (by simp only [lzA, lzC, lzN]; omega)
         have eF : s7 = bs (Ty.wSs pg.ts ind (l.take (k + 1))) := by rw [HST.out, e7]; congr 1; simp
         have EF := qh eF
         clear eF HST hbl hbk e0 hok h1 HND HOK HDEN HSUB hX e1 e2 e3 e4 e5 e6 e7 hda hdb hdv ezb ezv hsa hsb hsv
         dsimp only [Ty.ndOf, ndObj, List.length_nil] at *
         obtain ⟨⟨a0, a1, a2⟩, ⟨u0, u1, u2, u3, u4, u5, u6, u7, u8⟩⟩ := HK2.out
         go_wp2_with fail
         refine rblanks_any _ ind (by omega) ?_
         go_wp2_with fail
         go_region_held3 (fun w' => w'.cell? ⟨w.heap.size, 0, none⟩ = some (.slice (some ⟨g, 0, none⟩) pg.ns.length nc0) ∧ w'.cell? ⟨w.heap.size, 1, none⟩ = some (.slice ta tn tc) ∧ w'.cell? ⟨w.heap.size, 2, none⟩ = some (.int .i64 main) ∧ w'.cell? ⟨bn, 1, none⟩ = some (.int .i64 (na : Nat)) ∧ w'.cell? ⟨bn, 2, none⟩ = some (.int .i64 (nb : Nat)) ∧ w'.cell? ⟨bn, 3, none⟩ = some (.int .i64 (nc : Nat))) (go_keep)
           (first | (go_at_call 87; with_reducible refine HA.out _ H2.out.drew.isBelow HLpa.out _ (fun w3 hb3 => ?_); have h3 := H2.out.drew.below hb3; obtain ⟨⟨a0, a1, a2⟩, ⟨u0, u1, u2, u3, u4, u5, u6, u7, u8⟩⟩ := HK.out _ h3; have H3 := qh h3; clear hb3 h3)
                  | (go_at_call 87; with_reducible refine HBx.out _ H3.out.isBelow HLpb.out _ (fun w4 hb4 => ?_); have h4 := H3.out.below hb4; obtain ⟨⟨a0, a1, a2⟩, ⟨u0, u1, u2, u3, u4, u5, u6, u7, u8⟩⟩ := HK.out _ h4; have H4 := qh h4; clear hb4 h4)
                  | (go_at_call 87; with_reducible refine HV.out _ H4.out.isBelow HLpv.out _ (fun w5 hb5 => ?_); have h5 := H4.out.below hb5; obtain ⟨⟨a0, a1, a2⟩, ⟨u0, u1, u2, u3, u4, u5, u6, u7, u8⟩⟩ := HK.out _ h5; have H5 := qh h5; clear hb5 h5))
         all_goals
         go_wp2_with fail
         go_roundw
         case rel => exact ⟨k + 1, congrArg Value.string EF.out, by go_num, by omega, (H5.out.pick [0, 1])⟩
         case measure => simp [intOf]; omega
     | print p a =>
       as_aux_lemma =>
         have hds := HDEN.out
         have hsub := HSUB.out
         rw [Ty.DenS] at hds
         obtain ⟨na, h1, hda⟩ := hds
         rw [Ty.szS] at hszs
         have end_ := Option.some.inj (HND.out.symm.trans h1)
         subst end_
         have hok := HOK.out
         have e0 : Ty.wS pg.ts ind (.print p a) = Ty.blanks ind ++ [112, 114, 105, 110, 116, 32] ++ Ty.wE pg.ts ind a ++ [59, 10] := by rw [Ty.wS] <;> (first | rfl | (unfold Ty.wB; simp))
         rw [e0] at HST hbl
         have eza := Ty.wP_zero pg.ts ind a
         rw [← eza] at HST hbl
         have HAx := fun (w1 : World) (h : Below w.heap.size w w1) hx => hsub na hda 0 ind w1 (HB.out.trans (h.mono HB.out.size)) (by omega) (by omega) hx
         simp only [show ((0 : Nat) : Int) = 0 from rfl] at HAx
         dsimp only [pgVal] at HAx
         have HA := qh HAx
         clear HAx
         generalize Ty.wP pg.ts ind 0 a = pa at *
         have hbk := Ty.blanks_len ind
         simp only [lzA, lzC, lzN] at hbl
         have HLpa : Hid (pa.length ≤ 900000000) := by show _ ≤ _; omega
         have HK := qh (fun w2 (h : Sat w w2 [Prt.oldA w, blk w.heap.size (pgObj (.slice (some ⟨g, 0, none⟩) pg.ns.length nc0) (.slice ta tn tc) main), blk bn (ndObj { Ty.ndOf 21 p with a := na } (.slice va ({ Ty.ndOf 21 p with a := na }).list.length vc))]) => (⟨⟨h.cell 1 rfl 0 rfl, h.cell 1 rfl 1 rfl, h.cell 1 rfl 2 rfl⟩, h.cell 2 rfl 0 rfl, h.cell 2 rfl 1 rfl, h.cell 2 rfl 2 rfl, h.cell 2 rfl 3 rfl, h.cell 2 rfl 4 rfl, h.cell 2 rfl 5 rfl, h.cell 2 rfl 6 rfl, h.cell 2 rfl 7 rfl, h.cell 2 rfl 8 rfl⟩ : (w2.cell? ⟨w.heap.size, 0, none⟩ = some (.slice (some ⟨g, 0, none⟩) pg.ns.length nc0) ∧ w2.cell? ⟨w.heap.size, 1, none⟩ = some (.slice ta tn tc) ∧ w2.cell? ⟨w.heap.size, 2, none⟩ = some (.int .i64 main)) ∧ NdRd w2 bn { Ty.ndOf 21 p with a := na } (.slice va ({ Ty.ndOf 21 p with a := na }).list.length vc)))
         have HK2 := qh (HK.out _ hX.out)
         have H2 := qh hX.out
         obtain ⟨s1, e1, c1⟩ := cat_ex (a := bs bJ) (b := bs (Ty.blanks ind)) (x := bJ) (y := (Ty.blanks ind)) (z := bJ ++ (Ty.blanks ind)) rfl rfl rfl (by simp only [lzA, lzC, lzN]; omega)
         obtain ⟨s2, e2, c2⟩ := cat_ex (a := ⟨#[112, 114, 105, 110, 116, 32]⟩) (b := bs pa) (x := [112, 114, 105, 110, 116, 32]) (y := pa) (z := [112, 114, 105, 110, 116, 32] ++ pa) rfl rfl rfl (by simp only [lzA, lzC, lzN]; omega)
         obtain ⟨s3, e3, c3⟩ := cat_ex (a := s1) (b := s2) (x := bJ ++ (Ty.blanks ind)) (y := [112, 114, 105, 110, 116, 32] ++ pa) (z := bJ ++ (Ty.blanks ind) ++ ([112, 114, 105, 110, 116, 32] ++ pa)) e1 e2 rfl (by simp only [lzA, lzC, lzN]; omega)
         obtain ⟨s4, e4, c4⟩ := cat_ex (a := s3) (b := ⟨#[59, 10]⟩) (x := bJ ++ (Ty.blanks ind) ++ ([112, 114, 105, 110, 116, 32] ++ pa)) (y := [59, 10]) (z := bJ ++ (Ty.blanks ind) ++ ([112, 114, 105, 110, 116, 32] ++ pa) ++ [59, 10]) e3 rfl rfl (by simp only [lzA, lzC, lzN]; omega)
         have eF : s4 = bs (Ty.wSs pg.ts ind (l.take (k + 1))) := by rw [HST.out, e4]; congr 1; simp
         have EF := qh eF
         clear eF HST hbl hbk e0 hok h1 HND HOK HDEN HSUB hX e1 e2 e3 e4 hda eza hsub
         dsimp only [Ty.ndOf, ndObj, List.length_nil] at *
         obtain ⟨⟨a0, a1, a2⟩, ⟨u0, u1, u2, u3, u4, u5, u6, u7, u8⟩⟩ := HK2.out
         go_wp2_with fail
         refine rblanks_any _ ind (by omega) ?_
         go_wp2_with fail
         refine HA.out _ H2.out.isBelow HLpa.out _ (fun w3 hb3 => ?_)
         have h3 := H2.out.below hb3
         obtain ⟨⟨a0, a1, a2⟩, ⟨u0, u1, u2, u3, u4, u5, u6, u7, u8⟩⟩ := HK.out _ h3
         have H3 := qh h3
         clear hb3 h3
         go_wp2_with fail
         go_roundw
         case rel => exact ⟨k + 1, congrArg Value.string EF.out, by go_num, by omega, (H3.out.pick [0, 1])⟩
         case measure => simp [intOf]; omega
     | ret p a =>
       as_aux_lemma =>
         have hds := HDEN.out
         have hsub := HSUB.out
         rw [Ty.DenS] at hds
         obtain ⟨na, h1, hda⟩ := hds
         rw [Ty.szS] at hszs
         have end_ := Option.some.inj (HND.out.symm.trans h1)
         subst end_
         have hok := HOK.out
         have e0 : Ty.wS pg.ts ind (.ret p a) = Ty.blanks ind ++ [114, 101, 116, 117, 114, 110, 32] ++ Ty.wE pg.ts ind a ++ [59, 10] := by rw [Ty.wS] <;> (first | rfl | (unfold Ty.wB; simp))
         rw [e0] at HST hbl
         have eza := Ty.wP_zero pg.ts ind a
         rw [← eza] at HST hbl
         have HAx := fun (w1 : World) (h : Below w.heap.size w w1) hx => hsub na hda 0 ind w1 (HB.out.trans (h.mono HB.out.size)) (by omega) (by omega) hx
         simp only [show ((0 : Nat) : Int) = 0 from rfl] at HAx
         dsimp only [pgVal] at HAx
         have HA := qh HAx
         clear HAx
         generalize Ty.wP pg.ts ind 0 a = pa at *
         have hbk := Ty.blanks_len ind
         simp only [lzA, lzC, lzN] at hbl
         have HLpa : Hid (pa.length ≤ 900000000) := by show _ ≤ _; omega
         have HK := qh (fun w2 (h : Sat w w2 [Prt.oldA w, blk w.heap.size (pgObj (.slice (some ⟨g, 0, none⟩) pg.ns.length nc0) (.slice ta tn tc) main), blk bn (ndObj { Ty.ndOf 24 p with a := na } (.slice va ({ Ty.ndOf 24 p with a := na }).list.length vc))]) => (⟨⟨h.cell 1 rfl 0 rfl, h.cell 1 rfl 1 rfl, h.cell 1 rfl 2 rfl⟩, h.cell 2 rfl 0 rfl, h.cell 2 rfl 1 rfl, h.cell 2 rfl 2 rfl, h.cell 2 rfl 3 rfl, h.cell 2 rfl 4 rfl, h.cell 2 rfl 5 rfl, h.cell 2 rfl 6 rfl, h.cell 2 rfl 7 rfl, h.cell 2 rfl 8 rfl⟩ : (w2.cell? ⟨w.heap.size, 0, none⟩ = some (.slice (some ⟨g, 0, none⟩) pg.ns.length nc0) ∧ w2.cell? ⟨w.heap.size, 1, none⟩ = some (.slice ta tn tc) ∧ w2.cell? ⟨w.heap.size, 2, none⟩ = some (.int .i64 main)) ∧ NdRd w2 bn { Ty.ndOf 24 p with a := na } (.slice va ({ Ty.ndOf 24 p with a := na }).list.length vc)))
         have HK2 := qh (HK.out _ hX.out)
         have H2 := qh hX.out
         obtain ⟨s1, e1, c1⟩ := cat_ex (a := bs bJ) (b := bs (Ty.blanks ind)) (x := bJ) (y := (Ty.blanks ind)) (z := bJ ++ (Ty.blanks ind)) rfl rfl rfl (by simp only [lzA, lzC, lzN]; omega)
         obtain ⟨s2, e2, c2⟩ := cat_ex (a := ⟨#[114, 101, 116, 117, 114, 110, 32]⟩) (b := bs pa) (x := [114, 101, 116, 117, 114, 110, 32]) (y := pa) (z := [114, 101, 116, 117, 114, 110, 32] ++ pa) rfl rfl rfl (by simp only [lzA, lzC, lzN]; omega)
         obtain ⟨s3, e3, c3⟩ := cat_ex (a := s1) (b := s2) (x := bJ ++ (Ty.blanks ind)) (y := [114, 101, 116, 117, 114, 110, 32] ++ pa) (z := bJ ++ (Ty.blanks ind) ++ ([114, 101, 116, 117, 114, 110, 32] ++ pa)) e1 e2 rfl (by simp only [lzA, lzC, lzN]; omega)
         obtain ⟨s4, e4, c4⟩ := cat_ex (a := s3) (b := ⟨#[59, 10]⟩) (x := bJ ++ (Ty.blanks ind) ++ ([114, 101, 116, 117, 114, 110, 32] ++ pa)) (y := [59, 10]) (z := bJ ++ (Ty.blanks ind) ++ ([114, 101, 116, 117, 114, 110, 32] ++ pa) ++ [59, 10]) e3 rfl rfl (by simp only [lzA, lzC, lzN]; omega)
         have eF : s4 = bs (Ty.wSs pg.ts ind (l.take (k + 1))) := by rw [HST.out, e4]; congr 1; simp
         have EF := qh eF
         clear eF HST hbl hbk e0 hok h1 HND HOK HDEN HSUB hX e1 e2 e3 e4 hda eza hsub
         dsimp only [Ty.ndOf, ndObj, List.length_nil] at *
         obtain ⟨⟨a0, a1, a2⟩, ⟨u0, u1, u2, u3, u4, u5, u6, u7, u8⟩⟩ := HK2.out
         go_wp2_with fail
         refine rblanks_any _ ind (by omega) ?_
         go_wp2_with fail
         refine HA.out _ H2.out.isBelow HLpa.out _ (fun w3 hb3 => ?_)
         have h3 := H2.out.below hb3
         obtain ⟨⟨a0, a1, a2⟩, ⟨u0, u1, u2, u3, u4, u5, u6, u7, u8⟩⟩ := HK.out _ h3
         have H3 := qh h3
         clear hb3 h3
         go_wp2_with fail
         go_roundw
         case rel => exact ⟨k + 1, congrArg Value.string EF.out, by go_num, by omega, (H3.out.pick [0, 1])⟩
         case measure => simp [intOf]; omega
     | do_ p a =>
       as_aux_lemma =>
         have hds := HDEN.out
         have hsub := HSUB.out
         rw [Ty.DenS] at hds
         obtain ⟨na, h1, hda⟩ := hds
         rw [Ty.szS] at hszs
         have end_ := Option.some.inj (HND.out.symm.trans h1)
         subst end_
         have hok := HOK.out
         have e0 : Ty.wS pg.ts ind (.do_ p a) = Ty.blanks ind ++ Ty.wE pg.ts ind a ++ [59, 10] := by rw [Ty.wS] <;> (first | rfl | (unfold Ty.wB; simp))
         rw [e0] at HST hbl
         have eza := Ty.wP_zero pg.ts ind a
         rw [← eza] at HST hbl
         have HAx := fun (w1 : World) (h : Below w.heap.size w w1) hx => hsub na hda 0 ind w1 (HB.out.trans (h.mono HB.out.size)) (by omega) (by omega) hx
         simp only [show ((0 : Nat) : Int) = 0 from rfl] at HAx
         dsimp only [pgVal] at HAx
         have HA := qh HAx
         clear HAx
         generalize Ty.wP pg.ts ind 0 a = pa at *
         have hbk := Ty.blanks_len ind
         simp only [lzA, lzC, lzN] at hbl
         have HLpa : Hid (pa.length ≤ 900000000) := by show _ ≤ _; omega
         have HK := qh (fun w2 (h : Sat w w2 [Prt.oldA w, blk w.heap.size (pgObj (.slice (some ⟨g, 0, none⟩) pg.ns.length nc0) (.slice ta tn tc) main), blk bn (ndObj { Ty.ndOf 25 p with a := na } (.slice va ({ Ty.ndOf 25 p with a := na }).list.length vc))]) => (⟨⟨h.cell 1 rfl 0 rfl, h.cell 1 rfl 1 rfl, h.cell 1 rfl 2 rfl⟩, h.cell 2 rfl 0 rfl, h.cell 2 rfl 1 rfl, h.cell 2 rfl 2 rfl, h.cell 2 rfl 3 rfl, h.cell 2 rfl 4 rfl, h.cell 2 rfl 5 rfl, h.cell 2 rfl 6 rfl, h.cell 2 rfl 7 rfl, h.cell 2 rfl 8 rfl⟩ : (w2.cell? ⟨w.heap.size, 0, none⟩ = some (.slice (some ⟨g, 0, none⟩) pg.ns.length nc0) ∧ w2.cell? ⟨w.heap.size, 1, none⟩ = some (.slice ta tn tc) ∧ w2.cell? ⟨w.heap.size, 2, none⟩ = some (.int .i64 main)) ∧ NdRd w2 bn { Ty.ndOf 25 p with a := na } (.slice va ({ Ty.ndOf 25 p with a := na }).list.length vc)))
         have HK2 := qh (HK.out _ hX.out)
         have H2 := qh hX.out
         obtain ⟨s1, e1, c1⟩ := cat_ex (a := bs bJ) (b := bs (Ty.blanks ind)) (x := bJ) (y := (Ty.blanks ind)) (z := bJ ++ (Ty.blanks ind)) rfl rfl rfl (by simp only [lzA, lzC, lzN]; omega)
         obtain ⟨s2, e2, c2⟩ := cat_ex (a := s1) (b := bs pa) (x := bJ ++ (Ty.blanks ind)) (y := pa) (z := bJ ++ (Ty.blanks ind) ++ pa) e1 rfl rfl (by simp only [lzA, lzC, lzN]; omega)
         obtain ⟨s3, e3, c3⟩ := cat_ex (a := s2) (b := ⟨#[59, 10]⟩) (x := bJ ++ (Ty.blanks ind) ++ pa) (y := [59, 10]) (z := bJ ++ (Ty.blanks ind) ++ pa ++ [59, 10]) e2 rfl rfl (by simp only [lzA, lzC, lzN]; omega)
         have eF : s3 = bs (Ty.wSs pg.ts ind (l.take (k + 1))) := by rw [HST.out, e3]; congr 1; simp
         have EF := qh eF
         clear eF HST hbl hbk e0 hok h1 HND HOK HDEN HSUB hX e1 e2 e3 hda eza hsub
         dsimp only [Ty.ndOf, ndObj, List.length_nil] at *
         obtain ⟨⟨a0, a1, a2⟩, ⟨u0, u1, u2, u3, u4, u5, u6, u7, u8⟩⟩ := HK2.out
         go_wp2_with fail
         refine rblanks_any _ ind (by omega) ?_
         go_wp2_with fail
         refine HA.out _ H2.out.isBelow HLpa.out _ (fun w3 hb3 => ?_)
         have h3 := H2.out.below hb3
         obtain ⟨⟨a0, a1, a2⟩, ⟨u0, u1, u2, u3, u4, u5, u6, u7, u8⟩⟩ := HK.out _ h3
         have H3 := qh h3
         clear hb3 h3
         go_wp2_with fail
         go_roundw
         case rel => exact ⟨k + 1, congrArg Value.string EF.out, by go_num, by omega, (H3.out.pick [0, 1])⟩
         case measure => simp [intOf]; omega
     | if_ p a bp b c =>
       cases c with
       | none =>
         as_aux_lemma =>
           have hds := HDEN.out
           have hsub := HSUB.out
           rw [Ty.DenS] at hds
           obtain ⟨na, nb, h1, hda, hdb⟩ := hds
           rw [Ty.szS] at hszs
           have end_ := Option.some.inj (HND.out.symm.trans h1)
           subst end_
           have hok := HOK.out
           have e0 : Ty.wS pg.ts ind (.if_ p a bp b none) = Ty.blanks ind ++ [105, 102, 32, 40] ++ Ty.wE pg.ts ind a ++ [41, 32] ++ Ty.wB pg.ts ind b ++ [10] := by rw [Ty.wS] <;> (first | rfl | (unfold Ty.wB; simp))
           rw [e0] at HST hbl
           have eza := Ty.wP_zero pg.ts ind a
           rw [← eza] at HST hbl
           obtain ⟨hsa, hsb⟩ := hsub
           have HAx := fun (w1 : World) (h : Below w.heap.size w w1) hx => hsa na hda 0 ind w1 (HB.out.trans (h.mono HB.out.size)) (by omega) (by omega) hx
           simp only [show ((0 : Nat) : Int) = 0 from rfl] at HAx
           dsimp only [pgVal] at HAx
           have HA := qh HAx
           clear HAx
           have HBkx := fun (w1 : World) (h : Below w.heap.size w w1) hx => hsb bp nb hdb ind w1 (HB.out.trans (h.mono HB.out.size)) (by omega) hx
           dsimp only [pgVal] at HBkx
           have HBk := qh HBkx
           clear HBkx
           generalize Ty.wP pg.ts ind 0 a = pa at *
           generalize Ty.wB pg.ts ind b = pb at *
           have hbk := Ty.blanks_len ind
           simp only [lzA, lzC, lzN] at hbl
           have HLpa : Hid (pa.length ≤ 900000000) := by show _ ≤ _; omega
           have HLpb : Hid (pb.length ≤ 900000000) := by show _ ≤ _; omega
           have HK := qh (fun w2 (h : Sat w w2 [Prt.oldA w, blk w.heap.size (pgObj (.slice (some ⟨g, 0, none⟩) pg.ns.length nc0) (.slice ta tn tc) main), blk bn (ndObj { Ty.ndOf 22 p with a := na, b := nb, c := -1 } (.slice va ({ Ty.ndOf 22 p with a := na, b := nb, c := -1 }).list.length vc))]) => (⟨⟨h.cell 1 rfl 0 rfl, h.cell 1 rfl 1 rfl, h.cell 1 rfl 2 rfl⟩, h.cell 2 rfl 0 rfl, h.cell 2 rfl 1 rfl, h.cell 2 rfl 2 rfl, h.cell 2 rfl 3 rfl, h.cell 2 rfl 4 rfl, h.cell 2 rfl 5 rfl, h.cell 2 rfl 6 rfl, h.cell 2 rfl 7 rfl, h.cell 2 rfl 8 rfl⟩ : (w2.cell? ⟨w.heap.size, 0, none⟩ = some (.slice (some ⟨g, 0, none⟩) pg.ns.length nc0) ∧ w2.cell? ⟨w.heap.size, 1, none⟩ = some (.slice ta tn tc) ∧ w2.cell? ⟨w.heap.size, 2, none⟩ = some (.int .i64 main)) ∧ NdRd w2 bn { Ty.ndOf 22 p with a := na, b := nb, c := -1 } (.slice va ({ Ty.ndOf 22 p with a := na, b := nb, c := -1 }).list.length vc)))
           have HK2 := qh (HK.out _ hX.out)
           have H2 := qh hX.out
           obtain ⟨s1, e1, c1⟩ := cat_ex (a := bs bJ) (b := bs (Ty.blanks ind)) (x := bJ) (y := (Ty.blanks ind)) (z := bJ ++ (Ty.blanks ind)) rfl rfl rfl (by simp only [lzA, lzC, lzN]; omega)
           obtain ⟨s2, e2, c2⟩ := cat_ex (a := ⟨#[105, 102, 32, 40]⟩) (b := bs pa) (x := [105, 102, 32, 40]) (y := pa) (z := [105, 102, 32, 40] ++ pa) rfl rfl rfl (by simp only [lzA, lzC, lzN]; omega)
           obtain ⟨s3, e3, c3⟩ := cat_ex (a := s2) (b := ⟨#[41, 32]⟩) (x := [105, 102, 32, 40] ++ pa) (y := [41, 32]) (z := [105, 102, 32, 40] ++ pa ++ [41, 32]) e2 rfl rfl (by simp only [lzA, lzC, lzN]; omega)
           obtain ⟨s4, e4, c4⟩ := cat_ex (a := s3) (b := bs pb) (x := [105, 102, 32, 40] ++ pa ++ [41, 32]) (y := pb) (z := [105, 102, 32, 40] ++ pa ++ [41, 32] ++ pb) e3 rfl rfl (by simp only [lzA, lzC, lzN]; omega)
           obtain ⟨s5, e5, c5⟩ := cat_ex (a := s1) (b := s4) (x := bJ ++ (Ty.blanks ind)) (y := [105, 102, 32, 40] ++ pa ++ [41, 32] ++ pb) (z := bJ ++ (Ty.blanks ind) ++ ([105, 102, 32, 40] ++ pa ++ [41, 32] ++ pb)) e1 e4 rfl (by simp only [lzA, lzC, lzN]; omega)
           obtain ⟨s6, e6, c6⟩ := cat_ex (a := s5) (b := ⟨#[10]⟩) (x := bJ ++ (Ty.blanks ind) ++ ([105, 102, 32, 40] ++ pa ++ [41, 32] ++ pb)) (y := [10]) (z := bJ ++ (Ty.blanks ind) ++ ([105, 102, 32, 40] ++ pa ++ [41, 32] ++ pb) ++ [10]) e5 rfl rfl (by simp only [lzA, lzC, lzN]; omega)
           have eF : s6 = bs (Ty.wSs pg.ts ind (l.take (k + 1))) := by rw [HST.out, e6]; congr 1; simp
           have EF := qh eF
           clear eF HST hbl hbk e0 hok h1 HND HOK HDEN HSUB hX e1 e2 e3 e4 e5 e6 hda hdb eza hsa hsb
           dsimp only [Ty.ndOf, ndObj, List.length_nil] at *
           obtain ⟨⟨a0, a1, a2⟩, ⟨u0, u1, u2, u3, u4, u5, u6, u7, u8⟩⟩ := HK2.out
           go_wp2_with fail
           refine rblanks_any _ ind (by omega) ?_
           go_wp2_with fail
           go_region_held3 (fun w' => w'.cell? ⟨w.heap.size, 0, none⟩ = some (.slice (some ⟨g, 0, none⟩) pg.ns.length nc0) ∧ w'.cell? ⟨w.heap.size, 1, none⟩ = some (.slice ta tn tc) ∧ w'.cell? ⟨w.heap.size, 2, none⟩ = some (.int .i64 main) ∧ w'.cell? ⟨bn, 1, none⟩ = some (.int .i64 (na : Nat)) ∧ w'.cell? ⟨bn, 2, none⟩ = some (.int .i64 (nb : Nat))) (go_keep)
             (first | (go_at_call 87; with_reducible refine HA.out _ H2.out.drew.isBelow HLpa.out _ (fun w3 hb3 => ?_); have h3 := H2.out.drew.below hb3; obtain ⟨⟨a0, a1, a2⟩, ⟨u0, u1, u2, u3, u4, u5, u6, u7, u8⟩⟩ := HK.out _ h3; have H3 := qh h3; clear hb3 h3)
                    | (go_at_call 88; with_reducible refine HBk.out _ H3.out.isBelow HLpb.out _ (fun w4 hb4 => ?_); have h4 := H3.out.below hb4; obtain ⟨⟨a0, a1, a2⟩, ⟨u0, u1, u2, u3, u4, u5, u6, u7, u8⟩⟩ := HK.out _ h4; have H4 := qh h4; clear hb4 h4))
           all_goals
           go_wp2_with fail
           go_roundw
           case rel => exact ⟨k + 1, congrArg Value.string EF.out, by go_num, by omega, (H4.out.pick [0, 1])⟩
           case measure => simp [intOf]; omega
       | some cc =>
         obtain ⟨cp, c⟩ := cc
         as_aux_lemma =>
           have hds := HDEN.out
           have hsub := HSUB.out
           rw [Ty.DenS] at hds
           obtain ⟨na, nb, nc, h1, hda, hdb, hdc⟩ := hds
           rw [Ty.szS] at hszs
           have end_ := Option.some.inj (HND.out.symm.trans h1)
           subst end_
           have hok := HOK.out
           have e0 : Ty.wS pg.ts ind (.if_ p a bp b (some (cp, c))) = Ty.blanks ind ++ [105, 102, 32, 40] ++ Ty.wE pg.ts ind a ++ [41, 32] ++ Ty.wB pg.ts ind b ++ [32, 101, 108, 115, 101, 32] ++ Ty.wB pg.ts ind c ++ [10] := by rw [Ty.wS] <;> (first | rfl | (unfold Ty.wB; simp))
           rw [e0] at HST hbl
           have eza := Ty.wP_zero pg.ts ind a
           rw [← eza] at HST hbl
           obtain ⟨hsa, hsb, hsc⟩ := hsub
           have HAx := fun (w1 : World) (h : Below w.heap.size w w1) hx => hsa na hda 0 ind w1 (HB.out.trans (h.mono HB.out.size)) (by omega) (by omega) hx
           simp only [show ((0 : Nat) : Int) = 0 from rfl] at HAx
           dsimp only [pgVal] at HAx
           have HA := qh HAx
           clear HAx
           have HBkx := fun (w1 : World) (h : Below w.heap.size w w1) hx => hsb bp nb hdb ind w1 (HB.out.trans (h.mono HB.out.size)) (by omega) hx
           dsimp only [pgVal] at HBkx
           have HBk := qh HBkx
           clear HBkx
           have HCkx := fun (w1 : World) (h : Below w.heap.size w w1) hx => hsc cp nc hdc ind w1 (HB.out.trans (h.mono HB.out.size)) (by omega) hx
           dsimp only [pgVal] at HCkx
           have HCk := qh HCkx
           clear HCkx
           generalize Ty.wP pg.ts ind 0 a = pa at *
           generalize Ty.wB pg.ts ind b = pb at *
           generalize Ty.wB pg.ts ind c = pc at *
           have hbk := Ty.blanks_len ind
           simp only [lzA, lzC, lzN] at hbl
           have HLpa : Hid (pa.length ≤ 900000000) := by show _ ≤ _; omega
           have HLpb : Hid (pb.length ≤ 900000000) := by show _ ≤ _; omega
           have HLpc : Hid (pc.length ≤ 900000000) := by show _ ≤ _; omega
           have HK := qh (fun w2 (h : Sat w w2 [Prt.oldA w, blk w.heap.size (pgObj (.slice (some ⟨g, 0, none⟩) pg.ns.length nc0) (.slice ta tn tc) main), blk bn (ndObj { Ty.ndOf 22 p with a := na, b := nb, c := ((nc : Nat) : Int) } (.slice va ({ Ty.ndOf 22 p with a := na, b := nb, c := ((nc : Nat) : Int) }).list.length vc))]) => (⟨⟨h.cell 1 rfl 0 rfl, h.cell 1 rfl 1 rfl, h.cell 1 rfl 2 rfl⟩, h.cell 2 rfl 0 rfl, h.cell 2 rfl 1 rfl, h.cell 2 rfl 2 rfl, h.cell 2 rfl 3 rfl, h.cell 2 rfl 4 rfl, h.cell 2 rfl 5 rfl, h.cell 2 rfl 6 rfl, h.cell 2 rfl 7 rfl, h.cell 2 rfl 8 rfl⟩ : (w2.cell? ⟨w.heap.size, 0, none⟩ = some (.slice (some ⟨g, 0, none⟩) pg.ns.length nc0) ∧ w2.cell? ⟨w.heap.size, 1, none⟩ = some (.slice ta tn tc) ∧ w2.cell? ⟨w.heap.size, 2, none⟩ = some (.int .i64 main)) ∧ NdRd w2 bn { Ty.ndOf 22 p with a := na, b := nb, c := ((nc : Nat) : Int) } (.slice va ({ Ty.ndOf 22 p with a := na, b := nb, c := ((nc : Nat) : Int) }).list.length vc)))
           have HK2 := qh (HK.out _ hX.out)
           have H2 := qh hX.out
           obtain ⟨s1, e1, c1⟩ := cat_ex (a := bs bJ) (b := bs (Ty.blanks ind)) (x := bJ) (y := (Ty.blanks ind)) (z := bJ ++ (Ty.blanks ind)) rfl rfl rfl (by simp only [lzA, lzC, lzN]; omega)
           obtain ⟨s2, e2, c2⟩ := cat_ex (a := ⟨#[105, 102, 32, 40]⟩) (b := bs pa) (x := [105, 102, 32, 40]) (y := pa) (z := [105, 102, 32, 40] ++ pa) rfl rfl rfl (by simp only [lzA, lzC, lzN]; omega)
           obtain ⟨s3, e3, c3⟩ := cat_ex (a := s2) (b := ⟨#[41, 32]⟩) (x := [105, 102, 32, 40] ++ pa) (y := [41, 32]) (z := [105, 102, 32, 40] ++ pa ++ [41, 32]) e2 rfl rfl (by simp only [lzA, lzC, lzN]; omega)
           obtain ⟨s4, e4, c4⟩ := cat_ex (a := s3) (b := bs pb) (x := [105, 102, 32, 40] ++ pa ++ [41, 32]) (y := pb) (z := [105, 102, 32, 40] ++ pa ++ [41, 32] ++ pb) e3 rfl rfl (by simp only [lzA, lzC, lzN]; omega)
           obtain ⟨s5, e5, c5⟩ := cat_ex (a := s1) (b := s4) (x := bJ ++ (Ty.blanks ind)) (y := [105, 102, 32, 40] ++ pa ++ [41, 32] ++ pb) (z := bJ ++ (Ty.blanks ind) ++ ([105, 102, 32, 40] ++ pa ++ [41, 32] ++ pb)) e1 e4 rfl (by simp only [lzA, lzC, lzN]; omega)
           obtain ⟨s6, e6, c6⟩ := cat_ex (a := ⟨#[32, 101, 108, 115, 101, 32]⟩) (b := bs pc) (x := [32, 101, 108, 115, 101, 32]) (y := pc) (z := [32, 101, 108, 115, 101, 32] ++ pc) rfl rfl rfl (by simp only [lzA, lzC, lzN]; omega)
           obtain ⟨s7, e7, c7⟩ := cat_ex (a := s5) (b := s6) (x := bJ ++ (Ty.blanks ind) ++ ([105, 102, 32, 40] ++ pa ++ [41, 32] ++ pb)) (y := [32, 101, 108, 115, 101, 32] ++ pc) (z := bJ ++ (Ty.blanks ind) ++ ([105, 102, 32, 40] ++ pa ++ [41, 32] ++ pb) ++ ([32, 101, 108, 115, 101, 32] ++ pc)) e5 e6 rfl (by simp only [lzA, lzC, lzN]; omega)
           obtain ⟨s8, e8, c8⟩ := cat_ex (a := s7) (b := ⟨#[10]⟩) (x := bJ ++ (Ty.blanks ind) ++ ([105, 102, 32, 40] ++ pa ++ [41, 32] ++ pb) ++ ([32, 101, 108, 115, 101, 32] ++ pc)) (y := [10]) (z := bJ ++ (Ty.blanks ind) ++ ([105, 102, 32, 40] ++ pa ++ [41, 32] ++ pb) ++ ([32, 101, 108, 115, 101, 32] ++ pc) ++ [10]) e7 rfl rfl (by simp only [lzA, lzC, lzN]; omega)
           have eF : s8 = bs (Ty.wSs pg.ts ind (l.take (k + 1))) := by rw [HST.out, e8]; congr 1; simp
           have EF := qh eF
           clear eF HST hbl hbk e0 hok h1 HND HOK HDEN HSUB hX e1 e2 e3 e4 e5 e6 e7 e8 hda hdb hdc eza hsa hsb hsc
           dsimp only [Ty.ndOf, ndObj, List.length_nil] at *
           obtain ⟨⟨a0, a1, a2⟩, ⟨u0, u1, u2, u3, u4, u5, u6, u7, u8⟩⟩ := HK2.out
           go_wp2_with fail
           refine rblanks_any _ ind (by omega) ?_
           go_wp2_with fail
           go_region_held3 (fun w' => w'.cell? ⟨w.heap.size, 0, none⟩ = some (.slice (some ⟨g, 0, none⟩) pg.ns.length nc0) ∧ w'.cell? ⟨w.heap.size, 1, none⟩ = some (.slice ta tn tc) ∧ w'.cell? ⟨w.heap.size, 2, none⟩ = some (.int .i64 main) ∧ w'.cell? ⟨bn, 1, none⟩ = some (.int .i64 (na : Nat)) ∧ w'.cell? ⟨bn, 2, none⟩ = some (.int .i64 (nb : Nat))) (go_keep)
             (first | (go_at_call 87; with_reducible refine HA.out _ H2.out.drew.isBelow HLpa.out _ (fun w3 hb3 => ?_); have h3 := H2.out.drew.below hb3; obtain ⟨⟨a0, a1, a2⟩, ⟨u0, u1, u2, u3, u4, u5, u6, u7, u8⟩⟩ := HK.out _ h3; have H3 := qh h3; clear hb3 h3)
                    | (go_at_call 88; with_reducible refine HBk.out _ H3.out.isBelow HLpb.out _ (fun w4 hb4 => ?_); have h4 := H3.out.below hb4; obtain ⟨⟨a0, a1, a2⟩, ⟨u0, u1, u2, u3, u4, u5, u6, u7, u8⟩⟩ := HK.out _ h4; have H4 := qh h4; clear hb4 h4))
           all_goals
           go_wp2_with fail
           refine HCk.out _ H4.out.isBelow HLpc.out _ (fun w5 hb5 => ?_)
           have h5 := H4.out.below hb5
           obtain ⟨⟨a0, a1, a2⟩, ⟨u0, u1, u2, u3, u4, u5, u6, u7, u8⟩⟩ := HK.out _ h5
           have H5 := qh h5
           clear hb5 h5
           go_wp2_with fail
           go_roundw
           case rel => exact ⟨k + 1, congrArg Value.string EF.out, by go_num, by omega, (H5.out.pick [0, 1])⟩
           case measure => simp [intOf]; omega
     | while_ p a bp b =>
       as_aux_lemma =>
         have hds := HDEN.out
         have hsub := HSUB.out
         rw [Ty.DenS] at hds
         obtain ⟨na, nb, h1, hda, hdb⟩ := hds
         rw [Ty.szS] at hszs
         have end_ := Option.some.inj (HND.out.symm.trans h1)
         subst end_
         have hok := HOK.out
         have e0 : Ty.wS pg.ts ind (.while_ p a bp b) = Ty.blanks ind ++ [119, 104, 105, 108, 101, 32, 40] ++ Ty.wE pg.ts ind a ++ [41, 32] ++ Ty.wB pg.ts ind b ++ [10] := by rw [Ty.wS] <;> (first | rfl | (unfold Ty.wB; simp))
         rw [e0] at HST hbl
         have eza := Ty.wP_zero pg.ts ind a
         rw [← eza] at HST hbl
         obtain ⟨hsa, hsb⟩ := hsub
         have HAx := fun (w1 : World) (h : Below w.heap.size w w1) hx => hsa na hda 0 ind w1 (HB.out.trans (h.mono HB.out.size)) (by omega) (by omega) hx
         simp only [show ((0 : Nat) : Int) = 0 from rfl] at HAx
         dsimp only [pgVal] at HAx
         have HA := qh HAx
         clear HAx
         have HBkx := fun (w1 : World) (h : Below w.heap.size w w1) hx => hsb bp nb hdb ind w1 (HB.out.trans (h.mono HB.out.size)) (by omega) hx
         dsimp only [pgVal] at HBkx
         have HBk := qh HBkx
         clear HBkx
         generalize Ty.wP pg.ts ind 0 a = pa at *
         generalize Ty.wB pg.ts ind b = pb at *
         have hbk := Ty.blanks_len ind
         simp only [lzA, lzC, lzN] at hbl
         have HLpa : Hid (pa.length ≤ 900000000) := by show _ ≤ _; omega
         have HLpb : Hid (pb.length ≤ 900000000) := by show _ ≤ _; omega
         have HK := qh (fun w2 (h : Sat w w2 [Prt.oldA w, blk w.heap.size (pgObj (.slice (some ⟨g, 0, none⟩) pg.ns.length nc0) (.slice ta tn tc) main), blk bn (ndObj { Ty.ndOf 23 p with a := na, b := nb } (.slice va ({ Ty.ndOf 23 p with a := na, b := nb }).list.length vc))]) => (⟨⟨h.cell 1 rfl 0 rfl, h.cell 1 rfl 1 rfl, h.cell 1 rfl 2 rfl⟩, h.cell 2 rfl 0 rfl, h.cell 2 rfl 1 rfl, h.cell 2 rfl 2 rfl, h.cell 2 rfl 3 rfl, h.cell 2 rfl 4 rfl, h.cell 2 rfl 5 rfl, h.cell 2 rfl 6 rfl, h.cell 2 rfl 7 rfl, h.cell 2 rfl 8 rfl⟩ : (w2.cell? ⟨w.heap.size, 0, none⟩ = some (.slice (some ⟨g, 0, none⟩) pg.ns.length nc0) ∧ w2.cell? ⟨w.heap.size, 1, none⟩ = some (.slice ta tn tc) ∧ w2.cell? ⟨w.heap.size, 2, none⟩ = some (.int .i64 main)) ∧ NdRd w2 bn { Ty.ndOf 23 p with a := na, b := nb } (.slice va ({ Ty.ndOf 23 p with a := na, b := nb }).list.length vc)))
         have HK2 := qh (HK.out _ hX.out)
         have H2 := qh hX.out
         obtain ⟨s1, e1, c1⟩ := cat_ex (a := bs bJ) (b := bs (Ty.blanks ind)) (x := bJ) (y := (Ty.blanks ind)) (z := bJ ++ (Ty.blanks ind)) rfl rfl rfl (by simp only [lzA, lzC, lzN]; omega)
         obtain ⟨s2, e2, c2⟩ := cat_ex (a := ⟨#[119, 104, 105, 108, 101, 32, 40]⟩) (b := bs pa) (x := [119, 104, 105, 108, 101, 32, 40]) (y := pa) (z := [119, 104, 105, 108, 101, 32, 40] ++ pa) rfl rfl rfl (by simp only [lzA, lzC, lzN]; omega)
         obtain ⟨s3, e3, c3⟩ := cat_ex (a := s2) (b := ⟨#[41, 32]⟩) (x := [119, 104, 105, 108, 101, 32, 40] ++ pa) (y := [41, 32]) (z := [119, 104, 105, 108, 101, 32, 40] ++ pa ++ [41, 32]) e2 rfl rfl (by simp only [lzA, lzC, lzN]; omega)
         obtain ⟨s4, e4, c4⟩ := cat_ex (a := s3) (b := bs pb) (x := [119, 104, 105, 108, 101, 32, 40] ++ pa ++ [41, 32]) (y := pb) (z := [119, 104, 105, 108, 101, 32, 40] ++ pa ++ [41, 32] ++ pb) e3 rfl rfl (by simp only [lzA, lzC, lzN]; omega)
         obtain ⟨s5, e5, c5⟩ := cat_ex (a := s4) (b := ⟨#[10]⟩) (x := [119, 104, 105, 108, 101, 32, 40] ++ pa ++ [41, 32] ++ pb) (y := [10]) (z := [119, 104, 105, 108, 101, 32, 40] ++ pa ++ [41, 32] ++ pb ++ [10]) e4 rfl rfl (by simp only [lzA, lzC, lzN]; omega)
         obtain ⟨s6, e6, c6⟩ := cat_ex (a := s1) (b := s5) (x := bJ ++ (Ty.blanks ind)) (y := [119, 104, 105, 108, 101, 32, 40] ++ pa ++ [41, 32] ++ pb ++ [10]) (z := bJ ++ (Ty.blanks ind) ++ ([119, 104, 105, 108, 101, 32, 40] ++ pa ++ [41, 32] ++ pb ++ [10])) e1 e5 rfl (by simp only [lzA, lzC, lzN]; omega)
         have eF : s6 = bs (Ty.wSs pg.ts ind (l.take (k + 1))) := by rw [HST.out, e6]; congr 1; simp
         have EF := qh eF
         clear eF HST hbl hbk e0 hok h1 HND HOK HDEN HSUB hX e1 e2 e3 e4 e5 e6 hda hdb eza hsa hsb
         dsimp only [Ty.ndOf, ndObj, List.length_nil] at *
         obtain ⟨⟨a0, a1, a2⟩, ⟨u0, u1, u2, u3, u4, u5, u6, u7, u8⟩⟩ := HK2.out
         go_wp2_with fail
         refine rblanks_any _ ind (by omega) ?_
         go_wp2_with fail
         go_region_held3 (fun w' => w'.cell? ⟨w.heap.size, 0, none⟩ = some (.slice (some ⟨g, 0, none⟩) pg.ns.length nc0) ∧ w'.cell? ⟨w.heap.size, 1, none⟩ = some (.slice ta tn tc) ∧ w'.cell? ⟨w.heap.size, 2, none⟩ = some (.int .i64 main) ∧ w'.cell? ⟨bn, 1, none⟩ = some (.int .i64 (na : Nat)) ∧ w'.cell? ⟨bn, 2, none⟩ = some (.int .i64 (nb : Nat))) (go_keep)
           (first | (go_at_call 87; with_reducible refine HA.out _ H2.out.drew.isBelow HLpa.out _ (fun w3 hb3 => ?_); have h3 := H2.out.drew.below hb3; obtain ⟨⟨a0, a1, a2⟩, ⟨u0, u1, u2, u3, u4, u5, u6, u7, u8⟩⟩ := HK.out _ h3; have H3 := qh h3; clear hb3 h3)
                  | (go_at_call 88; with_reducible refine HBk.out _ H3.out.isBelow HLpb.out _ (fun w4 hb4 => ?_); have h4 := H3.out.below hb4; obtain ⟨⟨a0, a1, a2⟩, ⟨u0, u1, u2, u3, u4, u5, u6, u7, u8⟩⟩ := HK.out _ h4; have H4 := qh h4; clear hb4 h4))
         all_goals
         go_wp2_with fail
         go_roundw
         case rel => exact ⟨k + 1, congrArg Value.string EF.out, by go_num, by omega, (H4.out.pick [0, 1])⟩
         case measure => simp [intOf]; omega
   · have hke : k = nl.length := by omega
     subst hke
     have htk : l.take nl.length = l := by rw [HLL.out, List.take_length]
     rw [htk]
     clear htk
     go_wp2_with fail
     exact HR.out _ hS.out.isBelow
end
end
end Go.Proofs.YtdlbhiaceheffaaGreatDoor
