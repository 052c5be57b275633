/- Walk of the reference's Tokens. -/
import Derived.Deep.DeepCutAuto
import Derived.Deep.LoopGhost
import Derived.Deep.CutBlock
import Derived.Test.YtdlbhiaceheffabGreatDoorY07
set_option linter.all false
set_option maxRecDepth 100000
set_option maxHeartbeats 4000000
namespace Go.Proofs.YtdlbhiaceheffabGreatDoor
section
open Go Go.RowKit
theorem qI (s : ByteArray) (w : World) (hm : s.size ≤ maxLen) (hs : 4000 < s.size) {R : Ending → World → Prop}
   (hR : ∀ w', Below w.heap.size w w' → R (.returned (.tuple #[.slice none 0 0, .agg #[.int .i64 2, .int .i64 0]])) w') :
   Calls Tryz.prog 85 #[.string s] w R := by
 have HR := qh hR
 clear hR
 unfold maxLen at hm
 go_enter Tryz.func85, Tryz.ntmps85
 go_wp2_with fail
 refine bodyPost_ret ?_ rfl (HR.out _ ?_)
 · simp [results, Tryz.results85, go_sem]
 · exact bM _ _
theorem oC (s : ByteArray) (w : World) (hs : s.size ≤ 4000) {R : Ending → World → Prop}
   (hok : ∀ l v w', Tok.scan s = .ok l → Below w.heap.size w w' → dG w' (w.heap.size + 1) v l → R (.returned (.tuple #[v, .agg #[.int .i64 0, .int .i64 0]])) w')
   (hbad : ∀ (e p : Nat) w', Tok.scan s = .error (e, p) → Below w.heap.size w w' → R (.returned (.tuple #[.slice none 0 0, .agg #[.int .i64 e, .int .i64 p]])) w') :
   Calls Tryz.prog 85 #[.string s] w R := by
 have HOK := qh hok
 have HBAD := qh hbad
 clear hok hbad
 obtain ⟨i0, ti, tz0, tz1, tz2⟩ := info_parts Bc
 have hE : Tok.scanFrom s (s.size + 1) 0 [] = Tok.scan s := by unfold Tok.scan; rw [if_neg (by omega)]
 have HE := qh hE
 clear hE
 go_enter Tryz.func85, Tryz.ntmps85
 go_wp2_with fail
 go_loopw [4, 5] (fun v i wr => ∃ (k f : Nat) (l : List Tok.Tk), i = .int .i64 k ∧ k ≤ s.size ∧ s.size < k + f ∧ Hid (Tok.scanFrom s f k l = Tok.scan s) ∧ l.length ≤ 1000 ∧ dG wr (w.heap.size + 1) v l ∧ Hid (Below w.heap.size w wr) ∧ w.heap.size < wr.heap.size ∧ Hid (wr.heap[w.heap.size]? = some (.cells #[.int .i64 0, .int .i64 0] 25 (0, 0))))
   (fun _ i _ => s.size - (intOf i).toNat)
 case atStart =>
   exact ⟨0, s.size + 1, [], rfl, by omega, by omega, HE.out, by simp, World.ownsRow_nil _ _ _ _, bM _ _, by simp, heap_alloc_new w _⟩
 case round =>
   obtain ⟨k, f, l, rfl, hk, hf, hE, hl, hown, hbel, hz, hflt⟩ := hrel
   clear HE
   by_cases hlt : k < s.size
   · by_cases hb : Tok.byte s k = 32 ∨ Tok.byte s k = 10
     ·
       as_aux_lemma =>
         have hB := hb
         rw [ja s k hlt] at hb
         have hstep : Hid (Tok.scanFrom s (f - 1) (k + 1) l = Tok.scan s) := by
           rw [← hE.out]
           obtain ⟨g, rfl⟩ : ∃ g, f = g + 1 := ⟨f - 1, by omega⟩
           simp only [Nat.add_sub_cancel]
           rw [Tok.scanFrom, if_pos hlt, if_pos hB]; rfl
         clear hB hE
         rcases hb with hb | hb
         · have hb1 : ((s[k].toNat : Int) == 32) = true := by simp [hb]
           clear hb
           go_wp2_with fail
           go_roundw
           case rel => exact ⟨k + 1, f - 1, l, by go_num, by omega, by omega, hstep, hl, hown, hbel, hz, hflt⟩
           case measure => simp [intOf]; omega
         · have hb0 : ((s[k].toNat : Int) == 32) = false := by simp [hb]
           have hb1 : ((s[k].toNat : Int) == 10) = true := by simp [hb]
           clear hb
           go_wp2_with fail
           go_roundw
           case rel => exact ⟨k + 1, f - 1, l, by go_num, by omega, by omega, hstep, hl, hown, hbel, hz, hflt⟩
           case measure => simp [intOf]; omega
     · have hB := hb
       rw [ja s k hlt] at hb
       have hb0 : ((s[k].toNat : Int) == 32) = false := by simp; omega
       have hb1 : ((s[k].toNat : Int) == 10) = false := by simp; omega
       clear hb
       obtain ⟨t, n, ok, hnx⟩ : ∃ t n ok, Tok.next s k = (t, n, ok) := ⟨_, _, _, rfl⟩
       obtain ⟨kd, tx, ps⟩ := t
       have hstep : Hid (Tok.scan s = if ok = false then .error (1, k) else if l.length = 1000 then .error (2, k) else Tok.scanFrom s (f - 1) (k + n) (l ++ [⟨kd, tx, ps⟩])) := by
         rw [← hE.out]
         obtain ⟨g, rfl⟩ : ∃ g, f = g + 1 := ⟨f - 1, by omega⟩
         rw [Tok.scanFrom, if_pos hlt, if_neg hB, hnx]; rfl
       have HNX := qh hnx
       clear hB hE hnx
       obtain ⟨a, cap, rfl⟩ := ag hown
       have HOWN := qh hown
       clear hown
       go_upto_block 2 with fail
       go_cut [7, 9] (fun e9 okv wx => e9 = .int .i64 ((k + n : Nat) : Int) ∧ okv = .bool ok ∧ Hid (Below wr.heap.size wr wx) ∧ Hid (wx.heap[wr.heap.size]? = some (.cells #[.int .i64 kd, .string tx, .int .i64 ps] 138 (0, 0))))
       case first =>
         cases hl0 : Tok.isLetter (Tok.byte s k)
         · cases hd0 : Tok.isDigit (Tok.byte s k)
           · cases hq0 : decide (Tok.byte s k = 34)
             · as_aux_lemma =>
                 have h34 : ¬ Tok.byte s k = 34 := of_decide_eq_false hq0
                 have hq1 := q34 _ _ hq0
                 have hl1 := hl0
                 have hd1 := hd0
                 have hnx := HNX.out
                 unfold Tok.next at hnx
                 simp only [hl0, hd0, h34, Bool.false_eq_true, if_false] at hnx
                 clear HNX
                 rw [Tok.byte_eq s k hlt] at hl1 hd1 hq1
                 have HL := qh hl1
                 have HD := qh hd1
                 clear hl1 hd1 hl0 hd0 hq0 h34
                 cases htw : Tok.two s k
                 · rw [if_neg (by rw [htw]; simp)] at hnx
                   simp only [Prod.mk.injEq, Tok.Tk.mk.injEq] at hnx
                   obtain ⟨⟨rfl, rfl, rfl⟩, rfl, rfl⟩ := hnx
                   by_cases h2 : k + 1 < s.size
                   · rw [Tok.two_bytes s k h2, ← ByteArray.toList_eq, Bool.or_eq_false_iff] at htw
                     obtain ⟨hp1, hp2⟩ := htw
                     go_wp2_with fail
                     refine cu _ _ ?_
                     rw [HL.out]
                     go_wp2_with fail
                     refine dm _ _ ?_
                     rw [HD.out]
                     go_upto_block 3 with fail
                     go_cut [9] (fun v wx => v = .bool (Tok.isSign s[k]) ∧ wx = wr.alloc (.cells #[.int .i64 5, .string ⟨#[]⟩, .int .i64 k] 138))
                     case first =>
                       go_wp2_with fail
                       go_loop [9, 11] (fun b i => ∃ (j : Nat) (c : Bool), j ≤ 17 ∧ i = .int .i64 j ∧ b = .bool c ∧ Hid (Tok.signTo s[k] j = c)) (fun _ i => 17 - (intOf i).toNat)
                       case atStart => exact ⟨0, false, by omega, rfl, rfl, rfl⟩
                       case round =>
                         obtain ⟨j, c, hj, rfl, rfl, hc⟩ := hrel
                         by_cases hj17 : j < 17
                         · have hst := Tok.signTo_step s[k] j hj17
                           rw [hc.out, ← Tok.signs_at ⟨j, hj17⟩] at hst
                           have HST := qh hst
                           clear hst
                           cases c
                           · go_wp2_with fail
                             go_round
                             case rel => exact ⟨j + 1, _, by omega, by go_num, rfl, by rw [HST.out]; exact zF _ _⟩
                             case measure => simp [intOf]; omega
                           · go_wp2_with fail
                             go_round
                             case rel => exact ⟨j + 1, true, by omega, by go_num, rfl, by rw [HST.out]; rfl⟩
                             case measure => simp [intOf]; omega
                         · have h17 : j = 17 := by omega
                           subst h17
                           go_wp2_with fail
                           go_meet
                           exact ⟨by rw [← Tok.signTo_all, hc.out], rfl⟩
                     case rest =>
                       obtain ⟨rfl, rfl⟩ := hcut
                       go_wp2_with fail
                       go_meet
                       refine ⟨by go_num, by rw [Tok.byte_eq s k hlt], ?_, ?_⟩
                       · show Below _ _ _
                         repeat' (first | exact Below.refl _ _ | apply Below.drew | apply Below.setCell | apply Below.alloc | (simp; done) | (simp; omega))
                       · exact heap_alloc_new _ _
                   · clear htw
                     go_wp2_with fail
                     refine cu _ _ ?_
                     rw [HL.out]
                     go_wp2_with fail
                     refine dm _ _ ?_
                     rw [HD.out]
                     go_upto_block 3 with fail
                     go_cut [9] (fun v wx => v = .bool (Tok.isSign s[k]) ∧ wx = wr.alloc (.cells #[.int .i64 5, .string ⟨#[]⟩, .int .i64 k] 138))
                     case first =>
                       go_wp2_with fail
                       go_loop [9, 11] (fun b i => ∃ (j : Nat) (c : Bool), j ≤ 17 ∧ i = .int .i64 j ∧ b = .bool c ∧ Hid (Tok.signTo s[k] j = c)) (fun _ i => 17 - (intOf i).toNat)
                       case atStart => exact ⟨0, false, by omega, rfl, rfl, rfl⟩
                       case round =>
                         obtain ⟨j, c, hj, rfl, rfl, hc⟩ := hrel
                         by_cases hj17 : j < 17
                         · have hst := Tok.signTo_step s[k] j hj17
                           rw [hc.out, ← Tok.signs_at ⟨j, hj17⟩] at hst
                           have HST := qh hst
                           clear hst
                           cases c
                           · go_wp2_with fail
                             go_round
                             case rel => exact ⟨j + 1, _, by omega, by go_num, rfl, by rw [HST.out]; exact zF _ _⟩
                             case measure => simp [intOf]; omega
                           · go_wp2_with fail
                             go_round
                             case rel => exact ⟨j + 1, true, by omega, by go_num, rfl, by rw [HST.out]; rfl⟩
                             case measure => simp [intOf]; omega
                         · have h17 : j = 17 := by omega
                           subst h17
                           go_wp2_with fail
                           go_meet
                           exact ⟨by rw [← Tok.signTo_all, hc.out], rfl⟩
                     case rest =>
                       obtain ⟨rfl, rfl⟩ := hcut
                       go_wp2_with fail
                       go_meet
                       refine ⟨by go_num, by rw [Tok.byte_eq s k hlt], ?_, ?_⟩
                       · show Below _ _ _
                         repeat' (first | exact Below.refl _ _ | apply Below.drew | apply Below.setCell | apply Below.alloc | (simp; done) | (simp; omega))
                       · exact heap_alloc_new _ _
                 · have h2 := Tok.two_size s k htw
                   rw [if_pos htw] at hnx
                   simp only [Prod.mk.injEq, Tok.Tk.mk.injEq] at hnx
                   obtain ⟨⟨rfl, rfl, rfl⟩, rfl, rfl⟩ := hnx
                   rw [Tok.two_bytes s k h2, ← ByteArray.toList_eq] at htw
                   cases hp1 : ((s.extract k (k + 2)).toList == [61, 61])
                   · rw [hp1, Bool.false_or] at htw
                     go_wp2_with fail
                     refine cu _ _ ?_
                     rw [HL.out]
                     go_wp2_with fail
                     refine dm _ _ ?_
                     rw [HD.out]
                     go_wp2_with fail
                     go_meet
                     refine ⟨by go_num, rfl, ?_, ?_⟩
                     · show Below _ _ _
                       repeat' (first | exact Below.refl _ _ | apply Below.drew | apply Below.setCell | apply Below.alloc | (simp; done) | (simp; omega))
                     · exact heap_alloc_new _ _
                   · clear htw
                     go_wp2_with fail
                     refine cu _ _ ?_
                     rw [HL.out]
                     go_wp2_with fail
                     refine dm _ _ ?_
                     rw [HD.out]
                     go_wp2_with fail
                     go_meet
                     refine ⟨by go_num, rfl, ?_, ?_⟩
                     · show Below _ _ _
                       repeat' (first | exact Below.refl _ _ | apply Below.drew | apply Below.setCell | apply Below.alloc | (simp; done) | (simp; omega))
                     · exact heap_alloc_new _ _
             · as_aux_lemma =>
                 have hnx := HNX.out
                 have h34 : Tok.byte s k = 34 := of_decide_eq_true hq0
                 unfold Tok.next at hnx
                 simp only [hl0, hd0, Bool.false_eq_true, if_false] at hnx
                 rw [if_pos h34] at hnx
                 simp only [Prod.mk.injEq, Tok.Tk.mk.injEq] at hnx
                 obtain ⟨⟨rfl, rfl, rfl⟩, rfl, rfl⟩ := hnx
                 clear HNX h34
                 have hq1 := q34 _ _ hq0
                 rw [Tok.byte_eq s k hlt] at hl0 hd0 hq1
                 have HL := qh hl0
                 have HD := qh hd0
                 clear hl0 hd0 hq0
                 go_wp2_with fail
                 refine cu _ _ ?_
                 rw [HL.out]
                 go_wp2_with fail
                 refine dm _ _ ?_
                 rw [HD.out]
                 go_upto_block 9 with fail
                 have hle := Tok.stop_le Tok.isPlain s (k + 1) (by omega)
                 have hge := Tok.stop_ge Tok.isPlain s (k + 1)
                 obtain ⟨e, hee⟩ : ∃ e, Tok.stop Tok.isPlain s (k + 1) = e := ⟨_, rfl⟩
                 have HEE := qh hee
                 rw [hee] at hle hge
                 clear hee
                 go_cut [7] (fun v wx => v = .int .i64 (e : Int) ∧ wx = wr.alloc (.cells #[.int .i64 0, .string ⟨#[]⟩, .int .i64 k] 138))
                 case first =>
                   go_wp2_with fail
                   go_loop [7] (fun i => ∃ j : Nat, k + 1 ≤ j ∧ j ≤ e ∧ i = .int .i64 j ∧ Hid (Tok.stop Tok.isPlain s j = e)) (fun i => s.size - (intOf i).toNat)
                   case atStart => exact ⟨k + 1, by omega, by omega, by go_num, by rw [HEE.out]; rfl⟩
                   case round =>
                     obtain ⟨j, hj1, hj2, rfl, hj3⟩ := hrel
                     by_cases hjl : j < s.size
                     · have hpl : Tok.isPlain s[j] = (decide (32 ≤ (s[j].toNat : Int)) && decide ((s[j].toNat : Int) ≤ 126) && ((s[j].toNat : Int) != 34)) := by
                         rw [Bool.eq_iff_iff]; simp [Tok.isPlain]; omega
                       cases c1 : decide (32 ≤ (s[j].toNat : Int))
                       · rw [c1] at hpl
                         have hs1 := Tok.stop_here hjl hpl
                         rw [hj3.out] at hs1
                         clear hpl
                         go_wp2_with fail
                         subst hs1
                         go_meet
                         exact ⟨rfl, rfl⟩
                       · cases c2 : decide ((s[j].toNat : Int) ≤ 126)
                         · rw [c1, c2] at hpl
                           have hs1 := Tok.stop_here hjl hpl
                           rw [hj3.out] at hs1
                           clear hpl
                           go_wp2_with fail
                           subst hs1
                           go_meet
                           exact ⟨rfl, rfl⟩
                         · cases c3 : ((s[j].toNat : Int) != 34)
                           · rw [c1, c2, c3] at hpl
                             have hs1 := Tok.stop_here hjl hpl
                             rw [hj3.out] at hs1
                             clear hpl
                             go_wp2_with fail
                             subst hs1
                             go_meet
                             exact ⟨rfl, rfl⟩
                           · rw [c1, c2, c3] at hpl
                             have hs1 := Tok.stop_step hjl hpl
                             have hs2 := Tok.stop_ge Tok.isPlain s (j + 1)
                             rw [hs1, hj3.out] at hs2
                             have HS1 := qh hs1
                             clear hpl hs1
                             go_wp2_with fail
                             go_round
                             case rel => exact ⟨j + 1, by omega, by omega, by go_num, by rw [HS1.out, hj3.out]; rfl⟩
                             case measure => simp [intOf]; omega
                     · have hs1 := Tok.stop_end (p := Tok.isPlain) (s := s) (k := j) (by omega)
                       rw [hj3.out] at hs1
                       go_wp2_with fail
                       subst hs1
                       go_meet
                       exact ⟨rfl, rfl⟩
                 case rest =>
                   obtain ⟨rfl, rfl⟩ := hcut
                   have w3 : IntKind.i64.wrap ((k : Int) + 1) = (k : Int) + 1 := IntWalk.i64_in _ (by omega)
                   have w4 : 0 ≤ (k : Int) + 1 := by omega
                   have w5 : ((k : Int) + 1).toNat = k + 1 := by omega
                   have hsl : ∀ W : World, (Instr.slice 9 (.string s) (some (.int .i64 ((k : Int) + 1))) (some (.int .i64 (e : Int))) none).run Tryz.prog W = .ok (.string (s.extract (k + 1) e)) W := by
                     intro W
                     have w6 : (k : Int) + 1 ≤ (e : Int) := by omega
                     simp [Instr.slice, Instr.sliceBounds, Instr.sliceBound, asIntOf, w4, w5, w6, hle, go_sem]
                   have hx : ∃ okv : Bool, (decide (e - (k + 1) ≤ 30) && (decide (e < s.size) && decide (Tok.byte s e = 34))) = okv := ⟨_, rfl⟩
                   obtain ⟨okv, hokv⟩ := hx
                   have HOKV := qh hokv
                   have hend : ∀ (okw : Bool) (wx : World), okw = okv → Below wr.heap.size wr wx → wx.heap[wr.heap.size]? = some (.cells #[.int .i64 4, .string (s.extract (k + 1) e), .int .i64 k] 138 (0, 0)) →
                     (Value.int .i64 ((e : Int) + 1) = .int .i64 ((k + (Tok.stop Tok.isPlain s (k + 1) - k + 1) : Nat) : Int) ∧ Value.bool okw = .bool (decide (Tok.stop Tok.isPlain s (k + 1) - (k + 1) ≤ 30) && (decide (Tok.stop Tok.isPlain s (k + 1) < s.size) && decide (Tok.byte s (Tok.stop Tok.isPlain s (k + 1)) = 34))) ∧ Hid (Below wr.heap.size wr wx) ∧ Hid (wx.heap[wr.heap.size]? = some (.cells #[.int .i64 (4 : Nat), .string (s.extract (k + 1) (Tok.stop Tok.isPlain s (k + 1))), .int .i64 k] 138 (0, 0)))) := by
                     intro okw wx h1 h2 h3
                     rw [HEE.out, hokv, h1]
                     exact ⟨by rw [show ((k + (e - k + 1) : Nat) : Int) = (e : Int) + 1 by omega], rfl, h2, h3⟩
                   have HEND := qh hend
                   clear hend hokv
                   by_cases he1 : e < s.size
                   · cases hb34 : ((s[e].toNat : Int) == 34)
                     · have hf : okv = false := by
                         rw [← HOKV.out, Tok.byte_eq s e he1]
                         have : ¬ s[e] = 34 := by rw [Tok.is34]; simpa using hb34
                         simp [this]
                       clear HOKV
                       go_wp2_with fail
                       go_region
                       go_wp2_with fail
                       go_meet
                       refine HEND.out _ _ hf.symm ?_ ?_
                       · repeat' (first | exact Below.refl _ _ | apply Below.drew | apply Below.setCell | apply Below.alloc | (simp; done) | (simp; omega))
                       · exact heap_alloc_new _ _
                     · have hf : okv = decide ((e : Int) - (k : Int) - 1 ≤ 30) := by
                         rw [← HOKV.out, Tok.byte_eq s e he1]
                         have : s[e] = 34 := by rw [Tok.is34]; simpa using hb34
                         rw [Bool.eq_iff_iff]; simp [this, he1]; omega
                       have HF := qh hf
                       clear HOKV hf
                       go_wp2_with fail
                       go_region
                       go_wp2_with fail
                       go_meet
                       refine HEND.out _ _ HF.out.symm ?_ ?_
                       · repeat' (first | exact Below.refl _ _ | apply Below.drew | apply Below.setCell | apply Below.alloc | (simp; done) | (simp; omega))
                       · exact heap_alloc_new _ _
                   · have hf : okv = false := by rw [← HOKV.out]; simp [he1]
                     clear HOKV
                     go_wp2_with fail
                     go_region
                     go_wp2_with fail
                     go_meet
                     refine HEND.out _ _ hf.symm ?_ ?_
                     · repeat' (first | exact Below.refl _ _ | apply Below.drew | apply Below.setCell | apply Below.alloc | (simp; done) | (simp; omega))
                     · exact heap_alloc_new _ _
           · as_aux_lemma =>
               have hnx := HNX.out
               unfold Tok.next at hnx
               simp only [hl0, hd0, if_true, if_false, Bool.false_eq_true, Prod.mk.injEq, Tok.Tk.mk.injEq] at hnx
               obtain ⟨⟨rfl, rfl, rfl⟩, rfl, rfl⟩ := hnx
               clear HNX
               have h48 : ((s[k].toNat : Int) != 48) = !decide (Tok.byte s k = 48) := by rw [Tok.byte_eq s k hlt, Bool.eq_iff_iff]; simp [Tok.is48]
               have H48 := qh h48
               clear h48
               rw [Tok.byte_eq s k hlt] at hl0 hd0
               have HL := qh hl0
               have HD := qh hd0
               clear hl0 hd0
               go_wp2_with fail
               refine cu _ _ ?_
               rw [HL.out]
               go_wp2_with fail
               refine dm _ _ ?_
               rw [HD.out]
               go_upto_block 7 with fail
               have hle := Tok.stop_le Tok.isDigit s k (by omega)
               have hge := Tok.stop_ge Tok.isDigit s (k + 1)
               have he1 : Tok.stop Tok.isDigit s (k + 1) = Tok.stop Tok.isDigit s k := Tok.stop_step hlt HD.out
               rw [he1] at hge
               have HE1 := qh he1
               clear he1
               obtain ⟨e, hee⟩ : ∃ e, Tok.stop Tok.isDigit s k = e := ⟨_, rfl⟩
               have HEE := qh hee
               rw [hee] at hle hge
               clear hee
               go_cut [7] (fun v wx => v = .int .i64 (e : Int) ∧ wx = wr.alloc (.cells #[.int .i64 0, .string ⟨#[]⟩, .int .i64 k] 138))
               case first =>
                 go_wp2_with fail
                 go_loop [7] (fun i => ∃ j : Nat, k + 1 ≤ j ∧ j ≤ e ∧ i = .int .i64 j ∧ Hid (Tok.stop Tok.isDigit s j = e)) (fun i => s.size - (intOf i).toNat)
                 case atStart => exact ⟨k + 1, by omega, by omega, by go_num, by rw [HE1.out, HEE.out]; rfl⟩
                 case round =>
                   obtain ⟨j, hj1, hj2, rfl, hj3⟩ := hrel
                   by_cases hjl : j < s.size
                   · go_wp2_with (go_at_call 135; refine dm _ _ ?_)
                     · have hp : Tok.isDigit s[j] = true := by assumption
                       have hs1 := Tok.stop_step hjl hp
                       have hs2 := Tok.stop_ge Tok.isDigit s (j + 1)
                       rw [hs1, hj3.out] at hs2
                       go_round
                       case rel => exact ⟨j + 1, by omega, by omega, by go_num, by rw [hs1, hj3.out]; rfl⟩
                       case measure => simp [intOf]; omega
                     · have hp : Tok.isDigit s[j] = false := by assumption
                       have hs1 := Tok.stop_here hjl hp
                       rw [hj3.out] at hs1
                       subst hs1
                       go_meet
                       exact ⟨rfl, rfl⟩
                   · have hs1 := Tok.stop_end (p := Tok.isDigit) (s := s) (k := j) (by omega)
                     rw [hj3.out] at hs1
                     go_wp2_with fail
                     subst hs1
                     go_meet
                     exact ⟨rfl, rfl⟩
               case rest =>
                 obtain ⟨rfl, rfl⟩ := hcut
                 go_wp2_with fail
                 go_region
                 have w3 : IntKind.i64.wrap ((e : Int) - (k : Int)) = (e : Int) - (k : Int) := IntWalk.i64_in _ (by omega)
                 by_cases h9 : (e : Int) - (k : Int) ≤ 9
                 · have h9b : decide ((e : Int) - (k : Int) ≤ 9) = true := by simp; omega
                   cases hq : decide (Tok.byte s k = 48)
                   · have hq1 := H48.out
                     rw [hq] at hq1
                     have HQ := qh hq
                     clear hq
                     go_wp2_with fail
                     go_meet
                     refine ⟨?_, ?_, ?_, ?_⟩
                     · rw [HEE.out, show ((k + (e - k) : Nat) : Int) = (e : Int) by omega]
                     · rw [HEE.out, HQ.out]; congr 1; simp; omega
                     · show Below _ _ _
                       repeat' (first | exact Below.refl _ _ | apply Below.drew | apply Below.setCell | apply Below.alloc | (simp; done) | (simp; omega))
                     · rw [HEE.out]; exact heap_alloc_new _ _
                   · have hq1 := H48.out
                     rw [hq] at hq1
                     have HQ := qh hq
                     clear hq
                     go_wp2_with fail
                     all_goals
                       go_meet
                       refine ⟨?_, ?_, ?_, ?_⟩
                       · rw [HEE.out, show ((k + (e - k) : Nat) : Int) = (e : Int) by omega]
                       · rw [HEE.out, HQ.out]; congr 1; rw [Bool.eq_iff_iff]; simp; omega
                       · show Below _ _ _
                         repeat' (first | exact Below.refl _ _ | apply Below.drew | apply Below.setCell | apply Below.alloc | (simp; done) | (simp; omega))
                       · rw [HEE.out]; exact heap_alloc_new _ _
                 · have h9b : decide ((e : Int) - (k : Int) ≤ 9) = false := by simp; omega
                   go_wp2_with fail
                   go_meet
                   refine ⟨?_, ?_, ?_, ?_⟩
                   · rw [HEE.out, show ((k + (e - k) : Nat) : Int) = (e : Int) by omega]
                   · rw [HEE.out]; congr 1; simp; omega
                   · show Below _ _ _
                     repeat' (first | exact Below.refl _ _ | apply Below.drew | apply Below.setCell | apply Below.alloc | (simp; done) | (simp; omega))
                   · rw [HEE.out]; exact heap_alloc_new _ _
         · as_aux_lemma =>
             have hnx := HNX.out
             unfold Tok.next at hnx
             simp only [hl0, if_true, Prod.mk.injEq, Tok.Tk.mk.injEq] at hnx
             obtain ⟨⟨rfl, rfl, rfl⟩, rfl, rfl⟩ := hnx
             clear HNX
             rw [Tok.byte_eq s k hlt] at hl0
             have HL := qh hl0
             clear hl0
             go_wp2_with fail
             refine cu _ _ ?_
             rw [HL.out]
             go_upto_block 5 with fail
             have hle := Tok.stop_le Tok.isPart s k (by omega)
             have hge := Tok.stop_ge Tok.isPart s (k + 1)
             have he1 : Tok.stop Tok.isPart s (k + 1) = Tok.stop Tok.isPart s k := Tok.stop_step hlt (by unfold Tok.isPart; rw [HL.out]; rfl)
             rw [he1] at hge
             have HE1 := qh he1
             clear he1
             obtain ⟨e, hee⟩ : ∃ e, Tok.stop Tok.isPart s k = e := ⟨_, rfl⟩
             have HEE := qh hee
             rw [hee] at hle hge
             clear hee
             go_cut [7] (fun v wx => v = .int .i64 (e : Int) ∧ wx = wr.alloc (.cells #[.int .i64 0, .string ⟨#[]⟩, .int .i64 k] 138))
             case first =>
               go_wp2_with fail
               go_loop [7] (fun i => ∃ j : Nat, k + 1 ≤ j ∧ j ≤ e ∧ i = .int .i64 j ∧ Hid (Tok.stop Tok.isPart s j = e)) (fun i => s.size - (intOf i).toNat)
               case atStart => exact ⟨k + 1, by omega, by omega, by go_num, by rw [HE1.out, HEE.out]; rfl⟩
               case round =>
                 obtain ⟨j, hj1, hj2, rfl, hj3⟩ := hrel
                 by_cases hjl : j < s.size
                 · go_wp2_with (first | (go_at_call 134; refine cu _ _ ?_) | (go_at_call 135; refine dm _ _ ?_))
                   · have hp : Tok.isPart s[j] = true := by unfold Tok.isPart; rw [show Tok.isLetter s[j] = true by assumption]; rfl
                     have hs1 := Tok.stop_step hjl hp
                     have hs2 := Tok.stop_ge Tok.isPart s (j + 1)
                     rw [hs1, hj3.out] at hs2
                     go_round
                     case rel => exact ⟨j + 1, by omega, by omega, by go_num, by rw [hs1, hj3.out]; rfl⟩
                     case measure => simp [intOf]; omega
                   · have hp : Tok.isPart s[j] = true := by unfold Tok.isPart; rw [show Tok.isDigit s[j] = true by assumption]; simp
                     have hs1 := Tok.stop_step hjl hp
                     have hs2 := Tok.stop_ge Tok.isPart s (j + 1)
                     rw [hs1, hj3.out] at hs2
                     go_round
                     case rel => exact ⟨j + 1, by omega, by omega, by go_num, by rw [hs1, hj3.out]; rfl⟩
                     case measure => simp [intOf]; omega
                   · have hp : Tok.isPart s[j] = false := by unfold Tok.isPart; rw [show Tok.isDigit s[j] = false by assumption, (Bool.not_eq_true _).mp (show ¬ Tok.isLetter s[j] = true by assumption)]; rfl
                     have hs1 := Tok.stop_here hjl hp
                     rw [hj3.out] at hs1
                     subst hs1
                     go_meet
                     exact ⟨rfl, rfl⟩
                 · have hs1 := Tok.stop_end (p := Tok.isPart) (s := s) (k := j) (by omega)
                   rw [hj3.out] at hs1
                   go_wp2_with fail
                   subst hs1
                   go_meet
                   exact ⟨rfl, rfl⟩
             case rest =>
               obtain ⟨rfl, rfl⟩ := hcut
               have w3 : IntKind.i64.wrap ((e : Int) - (k : Int)) = (e : Int) - (k : Int) := IntWalk.i64_in _ (by omega)
               go_wp2_with fail
               go_region
               go_wp2_with fail
               go_region_with (first | (go_at_call 137; refine o9 _ ?_) | (go_at_call 136; refine kE _ 0 _ 17 Tok.words _ _ (by decide) rfl (mD _ _ (by first | exact ak _ _ _ (by simp) | exact aV (ak _ _ _ (by simp)) | exact aV (aV (ak _ _ _ (by simp))))) (fun r hr => ?_)))
               all_goals
                 have hw : Tok.isWord (s.extract k e) = r := by rw [Bool.eq_iff_iff, Tok.isWord_iff, hr]
                 have HWD := qh hw
                 clear hr hw
                 cases r
                 all_goals
                   go_wp2_with fail
                   go_meet
                   refine ⟨?_, ?_, ?_, ?_⟩
                   · rw [HEE.out, show ((k + (e - k) : Nat) : Int) = (e : Int) by omega]
                   · rw [HEE.out, show decide (e - k ≤ 20) = decide ((e : Int) - (k : Int) ≤ 20) by rw [Bool.eq_iff_iff]; simp; omega]
                   · show Below _ _ _
                     repeat' (first | exact Below.refl _ _ | apply Below.drew | apply Below.setCell | apply Below.alloc | (simp; done) | (simp; omega))
                   · rw [HEE.out, HWD.out]
                     show (World.alloc (World.alloc _ _) _).heap[_]? = _
                     rw [heap_alloc_old _ _ (by simp)]
                     exact heap_alloc_new _ _
       case rest =>
         as_aux_lemma =>
           obtain ⟨rfl, rfl, hbc, hcc⟩ := hcut
           have hbound : ok = true → 1 ≤ n ∧ k + n ≤ s.size := fun h => by
             have := Tok.next_bound s k hlt (by rw [HNX.out]; exact h)
             rw [HNX.out] at this; exact this
           have HBEL := qh (hbel.out.trans (hbc.out.mono (by omega)))
           have hz0 : wr.heap.size < wc.heap.size := (Array.getElem?_eq_some_iff.1 hcc.out).1
           have hc : wc.heap[w.heap.size]? = some (.cells #[.int .i64 0, .int .i64 0] 25 (0, 0)) := by
             rw [hbc.out.block _ (by omega)]; exact hflt.out
           have c0 : wc.cell? ⟨w.heap.size, 0, none⟩ = some (.int .i64 0) := by rw [cell_of_block hc]; rfl
           have c1 : wc.cell? ⟨w.heap.size, 1, none⟩ = some (.int .i64 0) := by rw [cell_of_block hc]; rfl
           have f0 : ∀ o, wc.frozen? ⟨w.heap.size, o, none⟩ = false := fun o => aN hc o
           have t0 : wc.cell? ⟨wr.heap.size, 0, none⟩ = some (.int .i64 kd) := by rw [cell_of_block hcc.out]; rfl
           have t1 : wc.cell? ⟨wr.heap.size, 1, none⟩ = some (.string tx) := by rw [cell_of_block hcc.out]; rfl
           have t2 : wc.cell? ⟨wr.heap.size, 2, none⟩ = some (.int .i64 ps) := by rw [cell_of_block hcc.out]; rfl
           have HC := qh hc
           have HOWN1 : Hid (dG wc (w.heap.size + 1) (.slice a l.length cap) l) := aH HOWN.out hbc.out
           clear hc hflt hbel HOWN hbc hcc HNX
           cases ok
           · go_wp2_with fail
             refine bodyPost_ret ?_ rfl (HBAD.out 1 k _ ?_ ?_)
             · simp [results, Tryz.results85, go_sem, c0, c1]
             · rw [hstep.out]; rfl
             · repeat' (first | exact HBEL.out | apply Below.drew | apply Below.setCell | apply Below.alloc | (simp; done) | (simp; omega))
           · obtain ⟨hn1, hn2⟩ := hbound rfl
             clear hbound
             by_cases hl2 : l.length = 1000
             · have hl3 : ((l.length : Int) == 1000) = true := by simp [hl2]
               have HL := qh hl2
               clear hl2
               go_wp2_with fail
               refine bodyPost_ret ?_ rfl (HBAD.out 2 k _ ?_ ?_)
               · simp [results, Tryz.results85, go_sem, c0, c1]
               · rw [hstep.out, if_neg (by simp), if_pos HL.out]
               · repeat' (first | exact HBEL.out | apply Below.drew | apply Below.setCell | apply Below.alloc | (simp; done) | (simp; omega))
             · have hl3 : ((l.length : Int) == 1000) = false := by simp; omega
               have hl4 : l.length < 1000 := by omega
               clear hl2
               go_wp2_with (at_builtin; go_loud (refine wpList_append_own _ rfl (.tmp 211) (.tmp 213) 84 rfl (w.heap.size + 1) 138 i0 _ 3 32 Tryz.underlying84 ti tz0 tz1 tz2 rfl (by decide) _ _ _ rfl (HOWN1.out.alloc _) ⟨wc.heap.size, 0, none⟩ 1 1 [.int .i64 kd, .string tx, .int .i64 ps] rfl rfl ?c1 ?c2 ?c3 ?c4 ?c5 ?_))
               case c1 =>
                 intro j u hj
                 match j, hj with
                 | 0, hj => simp at hj; subst hj; simp [Addr.add]
                 | 1, hj => simp at hj; subst hj; simp [Addr.add]
                 | 2, hj => simp at hj; subst hj; simp [Addr.add]
               case c2 => intro u hu; simp at hu; rcases hu with rfl | rfl | rfl <;> rfl
               case c3 => unfold maxLen; omega
               case c4 => omega
               case c5 => simp; omega
               intro v' w2 hown2 hgrow _
               have hown3 : dG w2 (w.heap.size + 1) v' (l ++ [⟨kd, tx, ps⟩]) := by
                 have e : (l ++ [(⟨kd, tx, ps⟩ : Tok.Tk)]).flatMap bf = l.flatMap bf ++ [.int .i64 kd, .string tx, .int .i64 ps] := by simp [bf]
                 unfold dG
                 rw [e, List.length_append]
                 exact hown2
               have hlt2 := World.ownsRow.lt HOWN1.out
               have hb2 : Below w.heap.size w w2 := (((HBEL.out).alloc (by omega) _).grown hgrow (by simp; omega) (fun j hj => by have := (hlt2 j hj).1; omega))
               have hz2 : w.heap.size < w2.heap.size := by have := hgrow.size; simp at this; omega
               have hc2 : w2.heap[w.heap.size]? = some (.cells #[.int .i64 0, .int .i64 0] 25 (0, 0)) := by
                 rw [hgrow.block _ (by simp; omega) (fun e => by have := (hlt2 _ e.symm).1; omega), heap_alloc_old _ _ (by omega)]
                 exact HC.out
               have hst : Hid (Tok.scanFrom s (f - 1) (k + n) (l ++ [⟨kd, tx, ps⟩]) = Tok.scan s) := by
                 rw [hstep.out, if_neg (by simp), if_neg (by omega)]; rfl
               have HB2 := qh hb2
               have HC2 := qh hc2
               have HO3 := qh hown3
               clear hown2 hgrow hlt2 hb2 hc2 hown3 HOWN1 HC HBEL c0 c1 f0 hstep t0 t1 t2
               go_wp2_with fail
               go_roundw
               case rel => exact ⟨k + n, f - 1, l ++ [⟨kd, tx, ps⟩], by go_num, by omega, by omega, hst, by simp; omega, HO3.out, HB2, hz2, HC2⟩
               case measure => simp [intOf]; omega
   ·
     as_aux_lemma =>
       have hfin : Tok.scan s = .ok (l ++ [⟨6, ⟨#[]⟩, s.size⟩]) := by
         rw [← hE.out]
         obtain ⟨g, rfl⟩ : ∃ g, f = g + 1 := ⟨f - 1, by omega⟩
         rw [Tok.scanFrom, if_neg hlt]
       have HF := qh hfin
       obtain ⟨a, cap, rfl⟩ := ag hown
       have HOWN := qh hown
       clear hfin hE hown
       go_wp2_with (at_builtin; go_loud (refine wpList_append_own _ rfl (.tmp 216) (.tmp 220) 84 rfl (w.heap.size + 1) 138 i0 _ 3 32 Tryz.underlying84 ti tz0 tz1 tz2 rfl (by decide) _ _ _ rfl (HOWN.out.alloc _) ⟨wr.heap.size, 0, none⟩ 1 1 [.int .i64 6, .string ⟨#[]⟩, .int .i64 s.size] rfl rfl ?d1 ?d2 ?d3 ?d4 ?d5 ?_))
       case d1 =>
         intro j u hj
         match j, hj with
         | 0, hj => simp at hj; subst hj; simp [Addr.add]
         | 1, hj => simp at hj; subst hj; simp [Addr.add]
         | 2, hj => simp at hj; subst hj; simp [Addr.add]
       case d2 => intro u hu; simp at hu; rcases hu with rfl | rfl | rfl <;> rfl
       case d3 => unfold maxLen; omega
       case d4 => omega
       case d5 => simp; omega
       intro v' w2 hown2 hgrow _
       have hown3 : dG w2 (w.heap.size + 1) v' (l ++ [⟨6, ⟨#[]⟩, s.size⟩]) := by
         have e : (l ++ [(⟨6, ⟨#[]⟩, s.size⟩ : Tok.Tk)]).flatMap bf = l.flatMap bf ++ [.int .i64 6, .string ⟨#[]⟩, .int .i64 s.size] := by simp [bf]
         unfold dG
         rw [e, List.length_append]
         exact hown2
       have hlt2 := World.ownsRow.lt HOWN.out
       have hb2 : Below w.heap.size w w2 := (((hbel.out).alloc (by omega) _).grown hgrow (by simp; omega) (fun j hj => by have := (hlt2 j hj).1; omega))
       have hz2 : w.heap.size < w2.heap.size := by have := hgrow.size; simp at this; omega
       have hc : w2.heap[w.heap.size]? = some (.cells #[.int .i64 0, .int .i64 0] 25 (0, 0)) := by
         rw [hgrow.block _ (by simp; omega) (fun e => by have := (hlt2 _ e.symm).1; omega), heap_alloc_old _ _ (by omega)]
         exact hflt.out
       have c0 : w2.cell? ⟨w.heap.size, 0, none⟩ = some (.int .i64 0) := by rw [cell_of_block hc]; rfl
       have c1 : w2.cell? ⟨w.heap.size, 1, none⟩ = some (.int .i64 0) := by rw [cell_of_block hc]; rfl
       have f0 : ∀ o, w2.frozen? ⟨w.heap.size, o, none⟩ = false := fun o => aN hc o
       have HB2 := qh hb2
       have HO3 := qh hown3
       clear hown2 hgrow hlt2 hb2 hc hown3 HOWN hbel hflt
       go_wp2_with fail
       refine bodyPost_ret ?_ rfl (HOK.out _ v' _ HF.out ?_ ?_)
       · simp [results, Tryz.results85, go_sem, c0, c1]
       · repeat' (first | exact HB2.out | apply Below.drew | apply Below.setCell | apply Below.alloc | (simp; done) | (simp; omega))
       · repeat' (first | exact HO3.out | apply ownsRow_setCell_below | (simp; done))
end
end Go.Proofs.YtdlbhiaceheffabGreatDoor
