/- Walks of the reference's peek, eat, must, ident, enter, leave. Walks of the reference's plainKind, ident, addType. Walk of the reference's addType. Plain: what reading tokens comes to: expressions, statements, programs. No program in sight. -/
import Derived.Test.YtdlbhiaceheffaaGreatDoorU06
set_option linter.all false
set_option maxRecDepth 100000
set_option maxHeartbeats 1000000
namespace Go.Proofs.YtdlbhiaceheffaaGreatDoor
section
open Go Go.RowKit
open Prt (Sat As blk pur exs star stars)
theorem peek_any (w : World) (pb d : Nat) (toks : List Tok.Tk) (s : Rd.RS) (h : RRd w pb d toks s) (x : ByteArray) {R : Ending → World → Prop} (hR : ∀ w', Below w.heap.size w w' → R (.returned (.bool (Rd.peek toks x.data.toList s))) w') :
   Calls Tryz.prog 107 #[.pointer (some ⟨pb, 0, none⟩), .string x] w R := by
 have HR := qh hR
 have hpos := h.fits.1
 have hlen := h.wf.1
 obtain ⟨f0, c1, _, c6, c7, g, cap, c0, hg, t0, t1, t2⟩ := h.cells
 have hlt := h.lt
 have HLK := qh h
 obtain ⟨st, f⟩ := s
 dsimp only at c1 t0 t1 t2 hpos
 unfold Rd.peek Ty.is at HR
 dsimp only at HR
 generalize Ty.cur toks st.pos = t at *
 obtain ⟨kd, tx, ps⟩ := t
 dsimp only at t0 t1 t2 HR
 have HE := qh (show (tx.toList == x.toList) = decide (tx.data.toList = x.data.toList) by rw [ByteArray.toList_eq, ByteArray.toList_eq, Bool.eq_iff_iff]; simp)
 have hk : kd = 5 ∨ kd ≠ 5 ∧ kd = 2 ∨ kd ≠ 5 ∧ kd ≠ 2 := by omega
 clear hR h
 cases f with
 | some y =>
   clear hk
   go_enter Tryz.func107, Tryz.ntmps107
   go_wp2_with fail
   go_region
   go_wp2_with fail
   refine bad_any _ pb d toks ⟨st, some y⟩ (HLK.out.below ((((Below.refl _ _).alloc (Nat.le_refl _) _)).drew)) ?_
   dsimp only [Option.isSome]
   go_wp2_with fail
   exact HR.out _ (((Below.refl _ _).alloc (Nat.le_refl _) _).drew)
 | none =>
   rcases hk with hk | ⟨hk, hk2⟩ | ⟨hk, hk2⟩
   · subst hk
     go_enter Tryz.func107, Tryz.ntmps107
     go_wp2_with fail
     go_region
     go_wp2_with fail
     refine bad_any _ pb d toks ⟨st, none⟩ (HLK.out.below ((((Below.refl _ _).alloc (Nat.le_refl _) _)).drew)) ?_
     dsimp only [Option.isSome]
     go_wp2_with fail
     refine ret_eq (HR.out _ (((Below.refl _ _).alloc (Nat.le_refl _) _).drew)) (congrArg Value.bool ?_)
     rw [HE.out]; simp
   · subst hk2
     clear hk
     go_enter Tryz.func107, Tryz.ntmps107
     go_wp2_with fail
     go_region
     go_wp2_with fail
     refine bad_any _ pb d toks ⟨st, none⟩ (HLK.out.below ((((Below.refl _ _).alloc (Nat.le_refl _) _)).drew)) ?_
     dsimp only [Option.isSome]
     go_wp2_with fail
     refine ret_eq (HR.out _ (((Below.refl _ _).alloc (Nat.le_refl _) _).drew)) (congrArg Value.bool ?_)
     rw [HE.out]; simp
   · have k1 : ((kd : Int) == 5) = false := by simp; omega
     have k2 : ((kd : Int) == 2) = false := by simp; omega
     have HK := qh (And.intro hk hk2)
     clear hk hk2
     go_enter Tryz.func107, Tryz.ntmps107
     go_wp2_with fail
     go_region
     go_wp2_with fail
     refine bad_any _ pb d toks ⟨st, none⟩ (HLK.out.below ((((Below.refl _ _).alloc (Nat.le_refl _) _)).drew)) ?_
     dsimp only [Option.isSome]
     go_wp2_with fail
     refine ret_eq (HR.out _ (((Below.refl _ _).alloc (Nat.le_refl _) _).drew)) (congrArg Value.bool ?_)
     simp [HK.out.1, HK.out.2]
section
variable {w0 w : World} {Fr : As} {pb d : Nat} {toks : List Tok.Tk} {s : Rd.RS}
theorem eat_any (H : Sat w0 w [Fr, rdA pb d toks s]) (x : ByteArray) {R : Ending → World → Prop}
   (hyes : ∀ w', Rd.peek toks x.data.toList s = true → Sat w0 w' [Fr, rdA pb d toks (Rd.next s)] → R (.returned (.bool true)) w')
   (hno : ∀ w', Rd.peek toks x.data.toList s = false → Sat w0 w' [Fr, rdA pb d toks s] → R (.returned (.bool false)) w') :
   Calls Tryz.prog 77 #[.pointer (some ⟨pb, 0, none⟩), .string x] w R := by
 have HY := qh hyes
 have HNO := qh hno
 have HS := qh H
 have hl := H.lookR
 have HL := qh hl
 clear hyes hno H
 cases hi : Rd.peek toks x.data.toList s
 · have HI := qh hi
   clear hi hl
   go_enter Tryz.func77, Tryz.ntmps77
   go_wp2_with fail
   refine peek_any w pb d toks s HL.out x (fun w1 hb1 => ?_)
   rw [HI.out]
   have HB := qh hb1
   clear hb1
   go_wp2_with fail
   exact HNO.out _ HI.out (HS.out.below HB.out)
 · have hlt := Rd.is_lt hl.wf.2 hl.fits.1 (show Ty.is toks x.data.toList s.st.pos = true by unfold Rd.peek at hi; simp at hi; exact hi.2)
   have h5 := hl.wf.1
   have HI := qh hi
   clear hi hl
   go_enter Tryz.func77, Tryz.ntmps77
   go_wp2_with fail
   refine peek_any w pb d toks s HL.out x (fun w1 hb1 => ?_)
   rw [HI.out]
   obtain ⟨f0, c1, _⟩ := (HL.out.below hb1).cells
   have HB := qh hb1
   clear hb1
   go_wp2_with fail
   exact HY.out _ HI.out ((HS.out.below HB.out).setPosR hlt)
theorem must_any (H : Sat w0 w [Fr, rdA pb d toks s]) (x : ByteArray) {R : Ending → World → Prop}
   (hR : ∀ w', Sat w0 w' [Fr, rdA pb d toks (Rd.must toks x.data.toList s)] → R (.returned (.tuple #[])) w') :
   Calls Tryz.prog 104 #[.pointer (some ⟨pb, 0, none⟩), .string x] w R := by
 have HR := qh hR
 have HS := qh H
 clear hR H
 unfold Rd.must at HR
 go_enter Tryz.func104, Tryz.ntmps104
 go_wp2_with fail
 refine eat_any HS.out x (fun w1 hi h1 => ?_) (fun w1 hi h1 => ?_)
 · rw [if_pos hi] at HR
   have H1 := qh h1
   clear hi h1
   go_wp2_with fail
   go_end0
   exact HR.out _ H1.out
 · rw [if_neg (by rw [hi]; simp)] at HR
   have H1 := qh h1
   clear hi h1
   go_wp2_with fail
   refine wrong_any H1.out 1 (by omega) (fun w2 h2 => ?_)
   have H2 := qh h2
   clear h2
   go_wp2_with fail
   go_end0
   exact HR.out _ H2.out
theorem enter_any (H : Sat w0 w [Fr, rdA pb d toks s]) (hd : d ≤ 20) {R : Ending → World → Prop}
   (hR : ∀ w', Sat w0 w' [Fr, rdA pb (d + 1) toks (if d = 20 then Rd.wrong toks 8 s else s)] → R (.returned (.bool (if d = 20 then Rd.wrong toks 8 s else s).f.isNone)) w') :
   Calls Tryz.prog 70 #[.pointer (some ⟨pb, 0, none⟩)] w R := by
 have HR := qh hR
 have HS := qh H
 obtain ⟨f0, _, c2, _⟩ := H.lookR.cells
 clear hR H
 by_cases h20 : d = 20
 · rw [if_pos h20] at HR
   have k1 : ((d : Int) == 20) = true := by simp [h20]
   have H20 := qh h20
   clear h20
   go_enter Tryz.func70, Tryz.ntmps70
   go_wp2_with fail
   refine wrong_any HS.out 8 (by omega) (fun w1 h1 => ?_)
   obtain ⟨f1, _, c21, _⟩ := h1.lookR.cells
   have H1 := qh h1
   clear h1
   go_wp2_with fail
   have h2 := H1.out.setDeepR (d + 1) (by omega)
   refine bad_any _ pb (d + 1) toks _ h2.lookR ?_
   have H2 := qh h2
   clear h2
   go_wp2_with fail
   refine ret_eq (HR.out _ H2.out) (congrArg Value.bool ?_)
   cases (Rd.wrong toks 8 s).f <;> rfl
 · rw [if_neg h20] at HR
   have k1 : ((d : Int) == 20) = false := by simp; omega
   clear h20
   go_enter Tryz.func70, Tryz.ntmps70
   go_wp2_with fail
   have h2 := HS.out.setDeepR (d + 1) (by omega)
   refine bad_any _ pb (d + 1) toks _ h2.lookR ?_
   have H2 := qh h2
   clear h2
   go_wp2_with fail
   refine ret_eq (HR.out _ H2.out) (congrArg Value.bool ?_)
   cases s.f <;> rfl
theorem leave_any (H : Sat w0 w [Fr, rdA pb (d + 1) toks s]) {R : Ending → World → Prop} (hR : ∀ w', Sat w0 w' [Fr, rdA pb d toks s] → R (.returned (.tuple #[])) w') :
   Calls Tryz.prog 72 #[.pointer (some ⟨pb, 0, none⟩)] w R := by
 have HR := qh hR
 have HS := qh H
 have hd := H.lookR.fits.2.1
 obtain ⟨f0, _, c2, _⟩ := H.lookR.cells
 have e : ((d + 1 : Nat) : Int) = (d : Int) + 1 := by omega
 rw [e] at c2
 clear hR H e
 go_enter Tryz.func72, Tryz.ntmps72
 go_wp2_with fail
 go_end0
 exact HR.out _ (HS.out.setDeepR d (by omega))
end
end
section
open Go Go.RowKit
open Prt (Sat As blk pur exs star stars)
def plainNames : List ByteArray := [⟨#[110, 117, 109]⟩, ⟨#[98, 111, 111, 108]⟩, ⟨#[116, 101, 120, 116]⟩, ⟨#[110, 117, 108, 108]⟩, ⟨#[97, 110, 121]⟩, ⟨#[117, 110, 107, 110, 111, 119, 110]⟩]
def plainVals : Array Value := #[.string ⟨#[110, 117, 109]⟩, .string ⟨#[98, 111, 111, 108]⟩, .string ⟨#[116, 101, 120, 116]⟩, .string ⟨#[110, 117, 108, 108]⟩, .string ⟨#[97, 110, 121]⟩, .string ⟨#[117, 110, 107, 110, 111, 119, 110]⟩]
theorem plain_hit (k : Nat) (hk : k < 6) (x : ByteArray) (h : plainNames[k]'(by simpa [plainNames] using hk) = x) : Ty.plainKind x = k + 1 := by
 have h2 := (show ∀ k : Fin 6, Ty.plainKind (plainNames.getD k.1 ⟨#[]⟩) = k.1 + 1 by decide) ⟨k, hk⟩
 have h3 : k < plainNames.length := by simpa [plainNames] using hk
 rw [← h, ← h2]
 simp [List.getD, List.getElem?_eq_getElem h3]
theorem plain_miss (x : ByteArray) (h : ∀ y ∈ plainNames, y ≠ x) : Ty.plainKind x = 0 := by
 have hh : ∀ l : List UInt8, (⟨⟨l⟩⟩ : ByteArray) ∈ plainNames → l ≠ x.data.toList := fun l hl e => h _ hl (by subst e; rfl)
 unfold Ty.plainKind Ty.plains
 simp only [List.idxOf?_cons, List.idxOf?_nil, beq_iff_eq]
 rw [if_neg (hh _ (by simp [plainNames])), if_neg (hh _ (by simp [plainNames])), if_neg (hh _ (by simp [plainNames])), if_neg (hh _ (by simp [plainNames])), if_neg (hh _ (by simp [plainNames])), if_neg (hh _ (by simp [plainNames]))]
 rfl
theorem plainKind_any (w : World) (x : ByteArray) {R : Ending → World → Prop} (hR : ∀ w', Below w.heap.size w w' → R (.returned (.int .i64 (Ty.plainKind x : Nat))) w') :
   Calls Tryz.prog 112 #[.string x] w R := by
 have HR := qh hR
 clear hR
 go_enter Tryz.func112, Tryz.ntmps112
 go_wp2_with fail
 have hc : ∀ j (hj : j < 6), (w.alloc (.cells plainVals 9)).cell? ⟨w.heap.size, j, none⟩ = some (.string (plainNames[j]'(by simpa [plainNames] using hj))) := fun j hj => by
   rw [cell_of_block (heap_alloc_new w _)]
   match j, hj with
   | 0, _ => rfl
   | 1, _ => rfl
   | 2, _ => rfl
   | 3, _ => rfl
   | 4, _ => rfl
   | 5, _ => rfl
 have HC := qh hc
 clear hc
 go_loop [4] (fun i => ∃ k : Nat, k ≤ 6 ∧ i = .int .i64 k ∧ Hid (∀ y ∈ plainNames.take k, y ≠ x)) (fun i => 6 - (intOf i).toNat)
 case atStart => exact ⟨0, Nat.zero_le _, rfl, by simp [Hid]⟩
 case round =>
   obtain ⟨k, hk, rfl, he⟩ := hrel
   by_cases hlt : k < 6
   · have hck := HC.out k hlt
     have HH := qh (plain_hit k hlt x)
     have hgl : k < plainNames.length := by simpa [plainNames] using hlt
     have HG := qh (List.take_succ_eq_append_getElem hgl)
     obtain ⟨y, hy⟩ : ∃ y, plainNames[k]'hgl = y := ⟨_, rfl⟩
     rw [hy] at hck HH HG
     unfold plainVals at hck
     clear hy
     go_wp2_with fail
     · have h : (y.toList == x.toList) = true := by assumption
       refine ret_eq (HR.out _ ((Below.refl _ _).alloc (Nat.le_refl _) _)) (congrArg (Value.int .i64) ?_)
       rw [HH.out ((bytes_iff _ _).1 h)]; simp
     · have h : (y.toList == x.toList) = false := by assumption
       go_round
       case rel =>
         refine ⟨k + 1, by omega, by go_num, fun z hz => ?_⟩
         rw [HG.out, List.mem_append] at hz
         rcases hz with hz | hz
         · exact he.out z hz
         · simp at hz; subst hz; exact bytes_ne _ _ h
       case measure => simp [intOf]; omega
   · have h6 : k = 6 := by omega
     have HM : Hid (Ty.plainKind x = 0) := plain_miss x (by have := he.out; rw [h6] at this; simpa [plainNames] using this)
     clear h6
     go_wp2_with fail
     refine ret_eq (HR.out _ ((Below.refl _ _).alloc (Nat.le_refl _) _)) (congrArg (Value.int .i64) ?_)
     rw [HM.out]; rfl
theorem HasText_nil (x : ByteArray) (a : Option Addr) (cap : Nat) (w : World) {R : Ending → World → Prop} (hR : R (.returned (.bool false)) w) :
   Calls Tryz.prog 68 #[.slice a 0 cap, .string x] w R := by
 have HR := qh hR
 clear hR
 go_enter Tryz.func68, Tryz.ntmps68
 go_wp2_with fail
 refine wp_loop_rounds 1 ?_
 rw [rounds_succ]
 go_wp2_with fail
 exact HR.out
theorem hasText_any (w : World) (v : Value) (l : List ByteArray) (h : w.ownsRow 0 9 1 v l.length (l.map Value.string)) (hl : l.length ≤ 100000) (x : ByteArray) {R : Ending → World → Prop} (hR : ∀ r : Bool, (r = true ↔ x ∈ l) → R (.returned (.bool r)) w) :
   Calls Tryz.prog 68 #[v, .string x] w R := by
 obtain ⟨a, cap, rfl⟩ := owns_slice h
 by_cases h0 : l = []
 · subst h0
   exact HasText_nil x a cap w (hR false (by simp))
 · obtain ⟨g, cap', hv, _, _⟩ := h.form (List.length_pos_iff.2 h0)
   have hc := World.ownsRow.cells (g := g) h (by rw [hv]; rfl)
   cases hv
   refine HasText_any g 0 cap l.length l x w hl rfl (fun j hj => ?_) hR
   have := hc j (.string (l.getD j ByteArray.empty)) (by simp [hj])
   rwa [Addr.add_lit] at this
section
variable {w0 w : World} {Fr : As} {pb d : Nat} {toks : List Tok.Tk} {s : Rd.RS}
theorem ident_any (H : Sat w0 w [Fr, rdA pb d toks s]) (v : Value) (l : List ByteArray) (hv : w.ownsRow 0 9 1 v l.length (l.map Value.string)) (hl : l.length ≤ 2000) {R : Ending → World → Prop}
   (hR : ∀ w', Sat w0 w' [Fr, rdA pb d toks (Rd.ident toks l s).2] → R (.returned (.string (Rd.ident toks l s).1)) w') :
   Calls Tryz.prog 102 #[.pointer (some ⟨pb, 0, none⟩), v] w R := by
 have HR := qh hR
 have HS := qh H
 have HV := qh hv
 have hlk := H.lookR
 have hpos := hlk.fits.1
 have hlen := hlk.wf.1
 have hlt := fun h1 : (Ty.cur toks s.st.pos).kind = 1 => kind_lt hlk.fits.1 hlk.wf (by omega)
 obtain ⟨f0, c1, _, _, _, g, cap, c0, hg, t0, t1, t2⟩ := hlk.cells
 have hpb := hlk.lt
 unfold Rd.ident at HR
 generalize Ty.cur toks s.st.pos = t at *
 obtain ⟨kd, tx, ps⟩ := t
 dsimp only at t0 t1 t2 hlt HR
 have h2 := (HS.out.waste (.cells #[.int .i64 kd, .string tx, .int .i64 ps] 70)).drew
 have HS2 := qh h2
 clear hR H hlk hv h2
 by_cases hkd : kd = 1
 · have hlt1 := hlt hkd
   have k1 : ((kd : Int) != 1) = false := by simp [hkd]
   have HKD := qh hkd
   clear hlt hkd
   go_enter Tryz.func102, Tryz.ntmps102
   go_wp2_with fail
   go_region
   go_wp2_with fail
   refine hasText_any _ v l (owns_below HV.out (((Below.refl _ _).alloc (Nat.le_refl _) _).drew)) (by omega) tx (fun r hr => ?_)
   have HRR := qh hr
   clear hr
   cases r
   · have hmem : ¬ (tx.data.toList ∈ l.map (fun t => t.data.toList)) := by rw [text_mem]; intro hm; have := HRR.out.2 hm; simp at this
     rw [if_neg (by rw [HKD.out]; simp), if_neg hmem] at HR
     clear hmem
     go_wp2_with fail
     exact HR.out _ ((HS.out.setPosR hlt1).waste _).drew
   · have hmem : tx.data.toList ∈ l.map (fun t => t.data.toList) := text_mem.2 (HRR.out.1 (by trivial))
     rw [if_neg (by rw [HKD.out]; simp), if_pos hmem] at HR
     clear hmem
     go_wp2_with fail
     refine wrong_any HS2.out 6 (by omega) (fun w3 h3 => ?_)
     have H3 := qh h3
     clear h3
     go_wp2_with fail
     exact HR.out _ H3.out
 · have k1 : ((kd : Int) != 1) = true := by simp; omega
   rw [if_pos hkd] at HR
   clear hlt hkd
   go_enter Tryz.func102, Tryz.ntmps102
   go_wp2_with fail
   go_region
   go_wp2_with fail
   refine wrong_any HS2.out 1 (by omega) (fun w3 h3 => ?_)
   have H3 := qh h3
   clear h3
   go_wp2_with fail
   exact HR.out _ H3.out
end
end
section
open Go Go.RowKit
open Prt (Sat As blk pur exs star stars)
section
variable {w0 w : World} {Fr : As} {pb d : Nat} {toks : List Tok.Tk} {s : Rd.RS}
def rdTy (pb d : Nat) (toks : List Tok.Tk) (s : Rd.RS) (p : Value × Value × Value × Int) (n : Nat) (cells : List Value) (rows : List TyRow) (ts : List Ty.Ty) : List As :=
 [pur (Toks toks ∧ s.st.pos < toks.length ∧ d ≤ 21 ∧ ∀ x, s.f = some x → x.1 ≠ 0),
  blk pb (.cells #[p.1, .int .i64 s.st.pos, .int .i64 d, p.2.1, p.2.2.1, .int .i64 p.2.2.2, .int .i64 (ftOf s.f).1, .int .i64 (ftOf s.f).2] 68 (0, 0)), tkA p.1 toks, ndA p.2.1 s.st.ns,
  pur (rows.map TyRow.t = ts), Prt.row 77 4 p.2.2.1 n cells, stars (rows.map tyBits)]
theorem Prt.Sat.openTyR {A B : As} (h : Sat w0 w [Fr, rdA pb d toks s, A, B]) : ∃ p rows, Sat w0 w (Fr :: A :: B :: rdTy pb d toks s p s.st.ts.length (rows.flatMap tyCells) rows s.st.ts) := by
 obtain ⟨p, h⟩ := h.ex (i := 1) rfl
 obtain ⟨rows, h⟩ := (h.unpack (i := 1) rfl).ex (i := 7) rfl
 exact ⟨p, rows, h.unpack (i := 7) rfl⟩
theorem Prt.Sat.moreTy {A B C D : As} {rows : List TyRow} {ts : List Ty.Ty} {t : Ty.Ty} {v fv lv : Value} (h : Sat w0 w [Fr, A, B, C, D, pur (rows.map TyRow.t = ts), Prt.row 77 4 v (ts.length + 1) (rows.flatMap tyCells ++ tyCells ⟨t, fv, lv⟩), stars (rows.map tyBits), fdA fv t.fields, inA lv t.list]) :
   Sat w0 w [Fr, A, B, C, D, tyA v (ts ++ [t])] := by
 have hr := h.pure 5 rfl
 have h := Prt.Sat.pack (L := [Fr, _, _, _, _, _, _, stars (rows.map tyBits)]) (M := [fdA fv t.fields, inA lv t.list]) h
 have h := h.ent (i := 8) rfl (Q := tyBits (TyRow.mk t fv lv)) (fun a ha => by
   obtain ⟨x, y, h1, h2, h3, h4, u, v, _, h6, _, h8, _⟩ := ha
   exact ⟨x, y, h1, h2, h3, h4, (by
     obtain ⟨k1, k2⟩ := h8
     refine ⟨k1, ?_⟩
     rcases k2 with k2 | ⟨g, cap, cur, e1, e2, e3⟩
     · exact .inl k2
     · exact .inr ⟨g, cap, cur, e1, h6 _ _ e2, e3⟩)⟩)
 have h := Prt.Sat.pack (L := [Fr, _, _, _, _, _, _]) (M := [stars (rows.map tyBits), tyBits (TyRow.mk t fv lv)]) h
 have h := h.ent (i := 7) rfl (Q := stars ((rows ++ [TyRow.mk t fv lv]).map tyBits)) (fun a ha => by rw [List.map_append]; exact Prt.stars_snoc ha)
 have h := h.ent (i := 5) rfl (Q := pur ((rows ++ [TyRow.mk t fv lv]).map TyRow.t = ts ++ [t])) (fun a _ => by show _ = _; rw [List.map_append, hr]; rfl)
 have h := h.ent (i := 6) rfl (Q := Prt.row 77 4 v (ts ++ [t]).length ((rows ++ [TyRow.mk t fv lv]).flatMap tyCells)) (fun a ha => by rw [List.flatMap_append, List.length_append]; exact ha)
 have h := Prt.Sat.pack (L := [Fr, _, _, _, _]) (M := [_, _, _]) h
 exact h.ent (i := 5) rfl (Q := tyA v (ts ++ [t])) (fun a ha => ⟨_, ha⟩)
theorem Prt.Sat.shutTyR {p : Value × Value × Value × Int} {rows : List TyRow} {t : Ty.Ty} {fv lv : Value} (h : Sat w0 w (Fr :: fdA fv t.fields :: inA lv t.list :: rdTy pb d toks s p (s.st.ts.length + 1) (rows.flatMap tyCells ++ tyCells ⟨t, fv, lv⟩) rows s.st.ts)) :
   Sat w0 w [Fr, rdA pb d toks (Rd.addT t s).2] :=
 Prt.Sat.shutRd (s := (Rd.addT t s).2) (p := p) (Prt.Sat.moreTy (h.pick [0, 3, 4, 5, 6, 7, 8, 9, 1, 2]))
theorem addType_any (t : Ty.Ty) (fv lv : Value) (H : Sat w0 w [Fr, rdA pb d toks s, fdA fv t.fields, inA lv t.list]) (hb : s.st.ts.length ≤ 3000)
   {R : Ending → World → Prop} (hR : ∀ w', Sat w0 w' [Fr, rdA pb d toks (Rd.addT t s).2] → R (.returned (.int .i64 (Rd.addT t s).1)) w') :
   Calls Tryz.prog 78 #[.pointer (some ⟨pb, 0, none⟩), .agg #[.int .i64 t.kind, fv, lv, .int .i64 t.of]] w R := by
 have HR := qh hR
 obtain ⟨i0, ti, tz0, tz1, tz2⟩ := info_parts infoTy
 obtain ⟨⟨lv0, nv, tv, main⟩, rows, hs⟩ := H.openTyR
 have hs : Sat w0 w (Fr :: fdA fv t.fields :: inA lv t.list :: rdTy pb d toks s (lv0, nv, tv, main) s.st.ts.length (rows.flatMap tyCells) rows s.st.ts) := hs
 have c4 := hs.cell 4 rfl 4 rfl
 have f4 := hs.free 4 rfl 4
 have hlt := hs.lt 4 rfl
 have hr := hs.row 8 rfl
 obtain ⟨a, cap0, rfl⟩ := owns_slice hr
 obtain ⟨fa, fc, rfl⟩ := owns_slice (hs.row 1 rfl)
 obtain ⟨la, lc, rfl⟩ := owns_slice (hs.row 2 rfl)
 have HROW := qh hr
 have HS := qh hs
 clear hR H hs hr
 dsimp only at c4
 go_enter Tryz.func78, Tryz.ntmps78
 go_wp2_with fail
 go_region_law (first
   | (go_loud (refine step_append_lies _ (by rfl) _ _ _ (by rfl) 0 77 i0 _ 4 64 Tryz.underlying31 ti tz0 tz1 tz2 rfl (by omega) (.slice a s.st.ts.length cap0) s.st.ts.length (rows.flatMap tyCells) (by rfl) (((HROW.out.alloc _).alloc _).drew) ⟨w.heap.size + 1, 0, none⟩ 1 1 [.int .i64 t.kind, .slice fa t.fields.length fc, .slice la t.list.length lc, .int .i64 t.of] (by rfl) (by rfl) (World.news_of_block (cs := #[.int .i64 t.kind, .slice fa t.fields.length fc, .slice la t.list.length lc, .int .i64 t.of]) (t := 77) (fr := (0, 0)) (heap_drew_at (heap_alloc_at' _ _ _ (by simp)))) (by simp [Value.oneCell']) (by omega) (by unfold maxLen; omega) (by omega) (by simp) (w.heap.size + 2) (by simp) ?_); intro g cap w1 hown1 hgrow hat hlt1; have h1 := Prt.Sat.grow ((HS.out.waste _).waste _).drew 8 rfl hgrow hown1 (by simpa using hat); have d4 := h1.cell 4 rfl 4 rfl; have e4 := h1.free 4 rfl 4; have H1 := qh h1; clear h1))
 all_goals
   clear hown1 hgrow
   go_wp2_with fail
   exact HR.out _ (Prt.Sat.shutTyR (p := (lv0, nv, .slice (some ⟨g, 0, none⟩) (s.st.ts.length + 1) cap, main)) (rows := rows) (H1.out.store 4 rfl 4 _))
end
end
section
namespace Ty
open Tok (Tk)
def ndOf (kind pos : Nat) : Nd := ⟨kind, 0, 0, 0, [], ⟨#[]⟩, 0, -1, pos⟩
def addNode (n : Nd) : M Nat := fun s => .ok (s.ns.length, { s with ns := s.ns ++ [n] })
def ndAt (s : St) (a : Nat) : Nd := (s.ns[a]?).getD (ndOf 0 0)
def look {α : Type} (k : St → M α) : M α := fun s => k s s
def two (x : ByteArray) (a b : Nat) : M Nat := look fun s => addNode { ndOf 12 (ndAt s a).pos with text := x, a := a, b := b }
def leftLoop (toks : List Tk) (one : M Nat) (signs : List (List UInt8)) : Nat → Nat → M Nat
 | 0, _ => fail toks 1
 | f + 1, n => look fun s => if signs.any (fun x => is toks x s.pos) then bnd step fun _ => bnd one fun b => bnd (two (cur toks s.pos).text n b) fun m => leftLoop toks one signs f m else ret n
def left (toks : List Tk) (one : M Nat) (signs : List (List UInt8)) : M Nat := bnd one fun n => leftLoop toks one signs (toks.length + 1) n
def products (toks : List Tk) (one : M Nat) : M Nat := left toks one [[42]]
def sums (toks : List Tk) (one : M Nat) : M Nat := left toks (products toks one) [[43], [45]]
def exprM (toks : List Tk) (one : M Nat) : M Nat :=
 bnd (sums toks one) fun n => bnd (take toks [61, 61]) fun b => if b then bnd (sums toks one) fun m => two ⟨#[61, 61]⟩ n m else
   bnd (take toks [60]) fun b => if b then bnd (sums toks one) fun m => two ⟨#[60]⟩ n m else ret n
def behind (toks : List Tk) (T E : M Nat) : Nat → Nat → M Nat
 | 0, _ => fail toks 1
 | f + 1, a => look fun s => bnd (take toks [40]) fun b => if b then bnd (list toks [41] (fun _ => E) (toks.length + 1) []) fun l => bnd (addNode { ndOf 7 (ndAt s a).pos with a := a, list := l }) fun m => behind toks T E f m else
     bnd (take toks [46]) fun b => if b then bnd (name toks []) fun x => bnd (addNode { ndOf 8 (ndAt s a).pos with a := a, text := x }) fun m => behind toks T E f m else
     bnd (take toks [91]) fun b => if b then bnd E fun c => bnd (need toks [93]) fun _ => bnd (addNode { ndOf 9 (ndAt s a).pos with a := a, b := c }) fun m => behind toks T E f m else
     bnd (take toks [97, 115]) fun b => if b then bnd T fun t => bnd (addNode { ndOf 14 (ndAt s a).pos with a := a, ty := (t : Int) }) fun m => behind toks T E f m else ret a
def written (toks : List Tk) (T : M Nat) : M Int := bnd (take toks [58]) fun b => if b then bnd T fun n => ret (n : Int) else ret (-1)
def partM (toks : List Tk) (E : M Nat) (met : List ByteArray) : M (ByteArray × Nat) :=
 look fun s => bnd (name toks met) fun x => bnd (need toks [58]) fun _ => bnd E fun a => bnd (addNode { ndOf 15 (cur toks s.pos).pos with text := x, a := a }) fun n => ret (x, n)
def paramM (toks : List Tk) (T : M Nat) (met : List ByteArray) : M (ByteArray × Nat) :=
 look fun s => bnd (name toks met) fun x => bnd (written toks T) fun t => bnd (addNode { ndOf 16 (cur toks s.pos).pos with text := x, ty := t }) fun n => ret (x, n)
def stmts (toks : List Tk) (S : M Nat) : Nat → List Nat → M (List Nat)
 | 0, _ => fail toks 1
 | f + 1, l => bnd (take toks [125]) fun b => if b then ret l else bnd S fun n => stmts toks S f (l ++ [n])
def blockM (toks : List Tk) (S : M Nat) : M Nat := look fun s => bnd (need toks [123]) fun _ => bnd (stmts toks S (toks.length + 1) []) fun l => addNode { ndOf 26 (cur toks s.pos).pos with list := l }
def functionM (toks : List Tk) (T S : M Nat) (pos : Nat) : M Nat :=
 bnd (need toks [40]) fun _ => bnd (list toks [41] (fun l => paramM toks T (l.map Prod.fst)) (toks.length + 1) []) fun l => bnd (written toks T) fun t => bnd (blockM toks S) fun a =>
   addNode { ndOf 6 pos with list := l.map Prod.snd, ty := t, a := a }
def value (x : ByteArray) : Nat := x.data.toList.foldl (fun n c => 10 * n + (c.toNat - 48)) 0
def simpleM (toks : List Tk) (T E S : M Nat) : M Nat := look fun s =>
 if (cur toks s.pos).kind = 3 then bnd step fun _ => addNode { ndOf 1 (cur toks s.pos).pos with n := value (cur toks s.pos).text } else
 if (cur toks s.pos).kind = 4 then bnd step fun _ => addNode { ndOf 2 (cur toks s.pos).pos with text := (cur toks s.pos).text } else
 if (cur toks s.pos).kind = 1 then bnd step fun _ => addNode { ndOf 5 (cur toks s.pos).pos with text := (cur toks s.pos).text } else
 bnd (take toks [116, 114, 117, 101]) fun b => if b then addNode { ndOf 3 (cur toks s.pos).pos with n := 1 } else
 bnd (take toks [102, 97, 108, 115, 101]) fun b => if b then addNode (ndOf 3 (cur toks s.pos).pos) else
 bnd (take toks [110, 117, 108, 108]) fun b => if b then addNode (ndOf 4 (cur toks s.pos).pos) else
 bnd (take toks [102, 110]) fun b => if b then functionM toks T S (cur toks s.pos).pos else
 bnd (take toks [91]) fun b => if b then bnd (list toks [93] (fun _ => E) (toks.length + 1) []) fun l => addNode { ndOf 11 (cur toks s.pos).pos with list := l } else
 bnd (take toks [123]) fun b => if b then bnd (list toks [125] (fun l => partM toks E (l.map Prod.fst)) (toks.length + 1) []) fun l => addNode { ndOf 10 (cur toks s.pos).pos with list := l.map Prod.snd } else
 bnd (need toks [40]) fun _ => bnd E fun a => bnd (need toks [41]) fun _ => ret a
def prefixes : List (List UInt8) := [[33], [45], [116, 121, 112, 101, 111, 102]]
def oneM (toks : List Tk) (T E O S : M Nat) : M Nat := look fun s =>
 if prefixes.any (fun x => is toks x s.pos) then bnd step fun _ => bnd O fun a => addNode { ndOf 13 (cur toks s.pos).pos with text := (cur toks s.pos).text, a := a }
 else bnd (simpleM toks T E S) fun a => behind toks T E (toks.length + 1) a
def trunc (a : Nat) : M Unit := fun s => .ok ((), { s with ns := s.ns.take a })
def plainM (toks : List Tk) (E : M Nat) : M Nat := bnd E fun a => look fun s =>
 if is toks [61] s.pos then
   if (ndAt s a).kind = 5 then bnd (trunc a) fun _ => bnd step fun _ => bnd E fun v => bnd (need toks [59]) fun _ => addNode { ndOf 18 (ndAt s a).pos with text := (ndAt s a).text, a := v }
   else if (ndAt s a).kind = 8 then bnd (trunc a) fun _ => bnd step fun _ => bnd E fun v => bnd (need toks [59]) fun _ => addNode { ndOf 19 (ndAt s a).pos with text := (ndAt s a).text, a := (ndAt s a).a, b := v }
   else if (ndAt s a).kind = 9 then bnd (trunc a) fun _ => bnd step fun _ => bnd E fun v => bnd (need toks [59]) fun _ => addNode { ndOf 20 (ndAt s a).pos with a := (ndAt s a).a, b := (ndAt s a).b, c := (v : Int) }
   else fail toks 1
 else bnd (need toks [59]) fun _ => addNode { ndOf 25 (ndAt s a).pos with a := a }
def branchM (toks : List Tk) (E S : M Nat) (yes : Bool) (pos : Nat) : M Nat :=
 bnd step fun _ => bnd (need toks [40]) fun _ => bnd E fun a => bnd (need toks [41]) fun _ => bnd (blockM toks S) fun b =>
   if yes then bnd (take toks [101, 108, 115, 101]) fun e => if e then bnd (blockM toks S) fun c => addNode { ndOf 22 pos with a := a, b := b, c := (c : Int) } else addNode { ndOf 22 pos with a := a, b := b, c := -1 }
   else addNode { ndOf 23 pos with a := a, b := b }
def bareM (toks : List Tk) (T E S : M Nat) : M Nat := look fun s =>
 bnd (take toks [108, 101, 116]) fun b => if b then bnd (name toks []) fun x => bnd (written toks T) fun t => bnd (need toks [61]) fun _ => bnd E fun a => bnd (need toks [59]) fun _ => addNode { ndOf 17 (cur toks s.pos).pos with text := x, ty := t, a := a } else
 bnd (take toks [112, 114, 105, 110, 116]) fun b => if b then bnd E fun a => bnd (need toks [59]) fun _ => addNode { ndOf 21 (cur toks s.pos).pos with a := a } else
 bnd (take toks [114, 101, 116, 117, 114, 110]) fun b => if b then bnd E fun a => bnd (need toks [59]) fun _ => addNode { ndOf 24 (cur toks s.pos).pos with a := a } else
 look fun s2 => if is toks [105, 102] s2.pos then branchM toks E S true (cur toks s.pos).pos else if is toks [119, 104, 105, 108, 101] s2.pos then branchM toks E S false (cur toks s.pos).pos else plainM toks E
structure Lv where
 E : M Nat
 O : M Nat
 S : M Nat
def lv (toks : List Tk) : Nat → Lv
 | 0 => ⟨fail toks 8, fail toks 8, fail toks 8⟩
 | r + 1 => ⟨exprM toks (oneM toks (typ toks r) (lv toks r).E (lv toks r).O (lv toks r).S), oneM toks (typ toks r) (lv toks r).E (lv toks r).O (lv toks r).S, bareM toks (typ toks r) (lv toks r).E (lv toks r).S⟩
def progLoop (toks : List Tk) (S : M Nat) : Nat → List Nat → M (List Nat)
 | 0, _ => fail toks 1
 | f + 1, l => look fun s => if (cur toks s.pos).kind = 6 then ret l else bnd S fun n => progLoop toks S f (l ++ [n])
def progM (toks : List Tk) : M Nat := bnd (progLoop toks (lv toks 20).S (toks.length + 1) []) fun l => addNode { ndOf 26 0 with list := l }
structure Pg where
 ns : List Nd
 ts : List Ty
 main : Nat
def parse (s : ByteArray) : Except Ft Pg :=
 match Tok.scan s with
 | .error e => .error e
 | .ok toks => match progM toks ⟨0, [], []⟩ with
   | .error e => .error e
   | .ok (n, st) => if st.ns.length > 1200 ∨ st.ts.length > 300 then .error (2, 0) else .ok ⟨st.ns, st.ts, n⟩
end Ty
end
end Go.Proofs.YtdlbhiaceheffaaGreatDoor
