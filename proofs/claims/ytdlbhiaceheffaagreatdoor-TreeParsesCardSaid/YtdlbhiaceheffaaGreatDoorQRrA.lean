/- The reference's reader in memory; walks of bad, wrong, peek, eat, must. Walks of the reference's peek, eat, must, ident, enter, leave. Walks of the reference's plainKind, ident, addType. Walk of the reference's addType. Walk of the reference's oneType: plain types and arrays. -/
import Derived.Test.YtdlbhiaceheffaaGreatDoorQPsA
import Derived.Test.YtdlbhiaceheffaaGreatDoorQPlainA
import Derived.BigQuiet
import Derived.Deep.QuietTactic
import Derived.Test.YtdlbhiaceheffaaGreatDoorQPsB
namespace Go.Proofs.YtdlbhiaceheffaaGreatDoor
open Go Go.RowKit
open Prt (Sat As blk pur exs star stars)

def ftOf (f : Option Ty.Ft) : Ty.Ft := f.getD (0, 0)
/-- The reader at a block: at a depth. -/
def rdIn (pb d : Nat) (toks : List Tok.Tk) (s : Rd.RS) (p : Value × Value × Value × Int) : List As :=
  [pur (Toks toks ∧ s.st.pos < toks.length ∧ d ≤ 21 ∧ ∀ x, s.f = some x → x.1 ≠ 0),
   blk pb (.cells #[p.1, .int .i64 s.st.pos, .int .i64 d, p.2.1, p.2.2.1, .int .i64 p.2.2.2, .int .i64 (ftOf s.f).1, .int .i64 (ftOf s.f).2] 68 (0, 0)), tkA p.1 toks, ndA p.2.1 s.st.ns, tyA p.2.2.1 s.st.ts]
def rdA (pb d : Nat) (toks : List Tok.Tk) (s : Rd.RS) : As := exs fun p : Value × Value × Value × Int => stars (rdIn pb d toks s p)
structure RRd (w : World) (pb d : Nat) (toks : List Tok.Tk) (s : Rd.RS) : Prop where
  holds : ∃ (lv nv tv : Value) (main : Int), w.heap[pb]? = some (.cells #[lv, .int .i64 s.st.pos, .int .i64 d, nv, tv, .int .i64 main, .int .i64 (ftOf s.f).1, .int .i64 (ftOf s.f).2] 68 (0, 0)) ∧ OwnsTk w 0 lv toks
  wf : Toks toks
  fits : s.st.pos < toks.length ∧ d ≤ 21 ∧ ∀ x, s.f = some x → x.1 ≠ 0
section
variable {w0 w : World} {L : List As} {Fr : As} {pb d : Nat} {toks : List Tok.Tk} {s : Rd.RS}
theorem Prt.Sat.openRd (h : Sat w0 w [Fr, rdA pb d toks s]) : ∃ p, Sat w0 w (Fr :: rdIn pb d toks s p) := by
  obtain ⟨p, h⟩ := h.ex (i := 1) rfl
  exact ⟨p, h.unpack (i := 1) rfl⟩
theorem Prt.Sat.shutRd {p : Value × Value × Value × Int} (h : Sat w0 w (Fr :: rdIn pb d toks s p)) : Sat w0 w [Fr, rdA pb d toks s] :=
  (Prt.Sat.pack (L := [Fr]) h).ent (i := 1) rfl fun _ h => ⟨p, h⟩
theorem Prt.Sat.lookR (h : Sat w0 w [Fr, rdA pb d toks s]) : RRd w pb d toks s := by
  obtain ⟨⟨lv, nv, tv, main⟩, h⟩ := h.openRd
  have hp := h.pure 1 rfl
  exact ⟨⟨lv, nv, tv, main, h.heap 2 rfl, h.row 3 rfl⟩, hp.1, hp.2⟩
theorem Prt.Sat.setPosR (h : Sat w0 w [Fr, rdA pb d toks s]) (hp : s.st.pos + 1 < toks.length) : Sat w0 (w.setCell ⟨pb, 1, none⟩ (.int .i64 (s.st.pos + 1 : Nat))) [Fr, rdA pb d toks (Rd.next s)] := by
  obtain ⟨x, h⟩ := h.openRd
  have hq := h.pure 1 rfl
  exact Prt.Sat.shutRd (p := x) (((h.store 2 rfl 1 (.int .i64 (s.st.pos + 1 : Nat))).ent (i := 1) rfl (Q := pur _) fun _ _ => ⟨hq.1, hp, hq.2.2.1, hq.2.2.2⟩))
theorem Prt.Sat.setDeepR (h : Sat w0 w [Fr, rdA pb d toks s]) (d' : Nat) (hd : d' ≤ 21) : Sat w0 (w.setCell ⟨pb, 2, none⟩ (.int .i64 d')) [Fr, rdA pb d' toks s] := by
  obtain ⟨x, h⟩ := h.openRd
  have hq := h.pure 1 rfl
  exact Prt.Sat.shutRd (p := x) (((h.store 2 rfl 2 (.int .i64 d')).ent (i := 1) rfl (Q := pur _) fun _ _ => ⟨hq.1, hq.2.1, hd, hq.2.2.2⟩))
theorem Prt.Sat.setWrongR {st : Ty.St} (h : Sat w0 w [Fr, rdA pb d toks ⟨st, none⟩]) (f : Ty.Ft) (hf : f.1 ≠ 0) : Sat w0 ((w.setCell ⟨pb, 6, none⟩ (.int .i64 f.1)).setCell ⟨pb, 7, none⟩ (.int .i64 f.2)) [Fr, rdA pb d toks ⟨st, some f⟩] := by
  obtain ⟨x, h⟩ := h.openRd
  have hq := h.pure 1 rfl
  exact Prt.Sat.shutRd (p := x) ((((h.store 2 rfl 6 (.int .i64 f.1)).store 2 rfl 7 (.int .i64 f.2)).ent (i := 1) rfl (Q := pur _) fun _ _ => ⟨hq.1, hq.2.1, hq.2.2.1, fun y hy => by cases hy; exact hf⟩))
end
theorem RRd.below {w w' : World} {pb d : Nat} {toks : List Tok.Tk} {s : Rd.RS} (h : RRd w pb d toks s) (hb : Below w.heap.size w w') : RRd w' pb d toks s := by
  obtain ⟨⟨lv, nv, tv, main, h1, h2⟩, h3, h4⟩ := h
  exact ⟨⟨lv, nv, tv, main, by rw [hb.block _ (Array.getElem?_eq_some_iff.1 h1).1]; exact h1, owns_below h2 hb⟩, h3, h4⟩
theorem RRd.lt {w : World} {pb d : Nat} {toks : List Tok.Tk} {s : Rd.RS} (h : RRd w pb d toks s) : pb < w.heap.size := by
  obtain ⟨⟨lv, nv, tv, main, h1, _⟩, _⟩ := h
  exact (Array.getElem?_eq_some_iff.1 h1).1
/-- Its cells, and the token that stands there. -/
theorem RRd.cells {w : World} {pb d : Nat} {toks : List Tok.Tk} {s : Rd.RS} (h : RRd w pb d toks s) :
    (∀ o, w.frozen? ⟨pb, o, none⟩ = false) ∧ w.cell? ⟨pb, 1, none⟩ = some (.int .i64 s.st.pos) ∧ w.cell? ⟨pb, 2, none⟩ = some (.int .i64 d) ∧ w.cell? ⟨pb, 6, none⟩ = some (.int .i64 (ftOf s.f).1) ∧ w.cell? ⟨pb, 7, none⟩ = some (.int .i64 (ftOf s.f).2) ∧
    ∃ g cap : Nat, w.cell? ⟨pb, 0, none⟩ = some (.slice (some ⟨g, 0, none⟩) toks.length cap) ∧ g < w.heap.size ∧ w.cell? ⟨g, s.st.pos * 3, none⟩ = some (.int .i64 (Ty.cur toks s.st.pos).kind) ∧ w.cell? ⟨g, s.st.pos * 3 + 1, none⟩ = some (.string (Ty.cur toks s.st.pos).text) ∧ w.cell? ⟨g, s.st.pos * 3 + 2, none⟩ = some (.int .i64 (Ty.cur toks s.st.pos).pos) := by
  obtain ⟨⟨lv, nv, tv, main, h1, h2⟩, h3, h4⟩ := h
  have hne : toks ≠ [] := by rintro rfl; have := h4.1; simp at this
  obtain ⟨g, cap, rfl, _, hg, _, _, hc⟩ := h2.at hne
  obtain ⟨t0, t1, t2⟩ := hc s.st.pos h4.1
  rw [cur_eq toks _ h4.1]
  refine ⟨fun o => frozen_of_block h1 o, by rw [cell_of_block h1]; rfl, by rw [cell_of_block h1]; rfl, by rw [cell_of_block h1]; rfl, by rw [cell_of_block h1]; rfl, g, cap, by rw [cell_of_block h1]; rfl, hg, t0, t1, t2⟩

theorem isSome_iff {s : Rd.RS} (h : ∀ x, s.f = some x → x.1 ≠ 0) : (((ftOf s.f).1 : Int) != 0) = s.f.isSome := by
  cases e : s.f with
  | none => rfl
  | some x => have := h x e; simp [ftOf]; omega
theorem bad_any (w : World) (pb d : Nat) (toks : List Tok.Tk) (s : Rd.RS) (h : RRd w pb d toks s) {R : Ending → World → Prop} (hR : R (.returned (.bool s.f.isSome)) w) :
    Calls Tryz.prog 33 #[.pointer (some ⟨pb, 0, none⟩)] w R := by
  have HR := Lib.hid hR
  have hb := isSome_iff h.fits.2.2
  obtain ⟨_, _, _, c6, _⟩ := h.cells
  have HB := Lib.hid hb
  clear hR hb h
  go_enter Tryz.func33, Tryz.ntmps33
  go_wp2_with fail
  exact ret_eq HR.out (congrArg Value.bool HB.out)
set_option maxRecDepth 100000 in
theorem wrong_any {w0 w : World} {Fr : As} {pb d : Nat} {toks : List Tok.Tk} {s : Rd.RS} (H : Sat w0 w [Fr, rdA pb d toks s]) (e : Nat) (he : e ≠ 0) {R : Ending → World → Prop}
    (hR : ∀ w', Sat w0 w' [Fr, rdA pb d toks (Rd.wrong toks e s)] → R (.returned (.tuple #[])) w') :
    Calls Tryz.prog 39 #[.pointer (some ⟨pb, 0, none⟩), .int .i64 e] w R := by
  have HR := Lib.hid hR
  have HS := Lib.hid H
  have hlk := H.lookR
  have hpos := hlk.fits.1
  have hlen := hlk.wf.1
  obtain ⟨f0, c1, _, c6, c7, g, cap, c0, hg, t0, t1, t2⟩ := hlk.cells
  have HLK := Lib.hid hlk
  have HE := Lib.hid he
  obtain ⟨st, f⟩ := s
  cases f with
  | none =>
    have hw : Hid (Rd.wrong toks e ⟨st, none⟩ = ⟨st, some (e, (Ty.cur toks st.pos).pos)⟩) := rfl
    dsimp only at c1 t0 t1 t2 hpos
    generalize Ty.cur toks st.pos = t at *
    clear hR H hlk he
    go_enter Tryz.func39, Tryz.ntmps39
    go_wp2_with fail
    refine bad_any _ pb d toks ⟨st, none⟩ HLK.out ?_
    dsimp only [Option.isSome]
    go_wp2_with fail
    go_region
    all_goals
      go_wp2_with fail
      go_end0
      refine HR.out _ ?_
      rw [hw.out]
      exact (HS.out.setWrongR (e, t.pos) HE.out).drew
  | some x =>
    clear hR H hlk he c0 c1 c6 c7 t0 t1 t2
    go_enter Tryz.func39, Tryz.ntmps39
    go_wp2_with fail
    refine bad_any _ pb d toks ⟨st, some x⟩ HLK.out ?_
    dsimp only [Option.isSome]
    go_wp2_with fail
    go_end0
    exact HR.out _ HS.out
end Go.Proofs.YtdlbhiaceheffaaGreatDoor

namespace Go.Proofs.YtdlbhiaceheffaaGreatDoor
open Go Go.RowKit
open Prt (Sat As blk pur exs star stars)

set_option maxRecDepth 100000 in
set_option maxHeartbeats 1000000 in
theorem peek_any (w : World) (pb d : Nat) (toks : List Tok.Tk) (s : Rd.RS) (h : RRd w pb d toks s) (x : ByteArray) {R : Ending → World → Prop} (hR : ∀ w', Below w.heap.size w w' → R (.returned (.bool (Rd.peek toks x.data.toList s))) w') :
    Calls Tryz.prog 107 #[.pointer (some ⟨pb, 0, none⟩), .string x] w R := by
  have HR := Lib.hid hR
  have hpos := h.fits.1
  have hlen := h.wf.1
  obtain ⟨f0, c1, _, c6, c7, g, cap, c0, hg, t0, t1, t2⟩ := h.cells
  have hlt := h.lt
  have HLK := Lib.hid h
  obtain ⟨st, f⟩ := s
  dsimp only at c1 t0 t1 t2 hpos
  unfold Rd.peek Ty.is at HR
  dsimp only at HR
  generalize Ty.cur toks st.pos = t at *
  obtain ⟨kd, tx, ps⟩ := t
  dsimp only at t0 t1 t2 HR
  have HE := Lib.hid (show (tx.toList == x.toList) = decide (tx.data.toList = x.data.toList) by rw [ByteArray.toList_eq, ByteArray.toList_eq, Bool.eq_iff_iff]; simp)
  have hk : kd = 5 ∨ kd ≠ 5 ∧ kd = 2 ∨ kd ≠ 5 ∧ kd ≠ 2 := by omega
  clear hR h
  cases f with
  | some y =>
    clear hk
    go_enter Tryz.func107, Tryz.ntmps107
    go_wp2_with fail
    go_region
    go_wp2_with fail
    refine bad_any _ pb d toks ⟨st, some y⟩ (HLK.out.below ((((Below.refl _ _).alloc (Nat.le_refl _) _)).drew)) ?_
    dsimp only [Option.isSome]
    go_wp2_with fail
    exact HR.out _ (((Below.refl _ _).alloc (Nat.le_refl _) _).drew)
  | none =>
    rcases hk with hk | ⟨hk, hk2⟩ | ⟨hk, hk2⟩
    · subst hk
      go_enter Tryz.func107, Tryz.ntmps107
      go_wp2_with fail
      go_region
      go_wp2_with fail
      refine bad_any _ pb d toks ⟨st, none⟩ (HLK.out.below ((((Below.refl _ _).alloc (Nat.le_refl _) _)).drew)) ?_
      dsimp only [Option.isSome]
      go_wp2_with fail
      refine ret_eq (HR.out _ (((Below.refl _ _).alloc (Nat.le_refl _) _).drew)) (congrArg Value.bool ?_)
      rw [HE.out]; simp
    · subst hk2
      clear hk
      go_enter Tryz.func107, Tryz.ntmps107
      go_wp2_with fail
      go_region
      go_wp2_with fail
      refine bad_any _ pb d toks ⟨st, none⟩ (HLK.out.below ((((Below.refl _ _).alloc (Nat.le_refl _) _)).drew)) ?_
      dsimp only [Option.isSome]
      go_wp2_with fail
      refine ret_eq (HR.out _ (((Below.refl _ _).alloc (Nat.le_refl _) _).drew)) (congrArg Value.bool ?_)
      rw [HE.out]; simp
    · have k1 : ((kd : Int) == 5) = false := by simp; omega
      have k2 : ((kd : Int) == 2) = false := by simp; omega
      have HK := Lib.hid (And.intro hk hk2)
      clear hk hk2
      go_enter Tryz.func107, Tryz.ntmps107
      go_wp2_with fail
      go_region
      go_wp2_with fail
      refine bad_any _ pb d toks ⟨st, none⟩ (HLK.out.below ((((Below.refl _ _).alloc (Nat.le_refl _) _)).drew)) ?_
      dsimp only [Option.isSome]
      go_wp2_with fail
      refine ret_eq (HR.out _ (((Below.refl _ _).alloc (Nat.le_refl _) _).drew)) (congrArg Value.bool ?_)
      simp [HK.out.1, HK.out.2]

section
variable {w0 w : World} {Fr : As} {pb d : Nat} {toks : List Tok.Tk} {s : Rd.RS}
theorem eat_any (H : Sat w0 w [Fr, rdA pb d toks s]) (x : ByteArray) {R : Ending → World → Prop}
    (hyes : ∀ w', Rd.peek toks x.data.toList s = true → Sat w0 w' [Fr, rdA pb d toks (Rd.next s)] → R (.returned (.bool true)) w')
    (hno : ∀ w', Rd.peek toks x.data.toList s = false → Sat w0 w' [Fr, rdA pb d toks s] → R (.returned (.bool false)) w') :
    Calls Tryz.prog 77 #[.pointer (some ⟨pb, 0, none⟩), .string x] w R := by
  have HY := Lib.hid hyes
  have HNO := Lib.hid hno
  have HS := Lib.hid H
  have hl := H.lookR
  have HL := Lib.hid hl
  clear hyes hno H
  cases hi : Rd.peek toks x.data.toList s
  · have HI := Lib.hid hi
    clear hi hl
    go_enter Tryz.func77, Tryz.ntmps77
    go_wp2_with fail
    refine peek_any w pb d toks s HL.out x (fun w1 hb1 => ?_)
    rw [HI.out]
    have HB := Lib.hid hb1
    clear hb1
    go_wp2_with fail
    exact HNO.out _ HI.out (HS.out.below HB.out)
  · have hlt := Rd.is_lt hl.wf.2 hl.fits.1 (show Ty.is toks x.data.toList s.st.pos = true by unfold Rd.peek at hi; simp at hi; exact hi.2)
    have h5 := hl.wf.1
    have HI := Lib.hid hi
    clear hi hl
    go_enter Tryz.func77, Tryz.ntmps77
    go_wp2_with fail
    refine peek_any w pb d toks s HL.out x (fun w1 hb1 => ?_)
    rw [HI.out]
    obtain ⟨f0, c1, _⟩ := (HL.out.below hb1).cells
    have HB := Lib.hid hb1
    clear hb1
    go_wp2_with fail
    exact HY.out _ HI.out ((HS.out.below HB.out).setPosR hlt)
theorem must_any (H : Sat w0 w [Fr, rdA pb d toks s]) (x : ByteArray) {R : Ending → World → Prop}
    (hR : ∀ w', Sat w0 w' [Fr, rdA pb d toks (Rd.must toks x.data.toList s)] → R (.returned (.tuple #[])) w') :
    Calls Tryz.prog 104 #[.pointer (some ⟨pb, 0, none⟩), .string x] w R := by
  have HR := Lib.hid hR
  have HS := Lib.hid H
  clear hR H
  unfold Rd.must at HR
  go_enter Tryz.func104, Tryz.ntmps104
  go_wp2_with fail
  refine eat_any HS.out x (fun w1 hi h1 => ?_) (fun w1 hi h1 => ?_)
  · rw [if_pos hi] at HR
    have H1 := Lib.hid h1
    clear hi h1
    go_wp2_with fail
    go_end0
    exact HR.out _ H1.out
  · rw [if_neg (by rw [hi]; simp)] at HR
    have H1 := Lib.hid h1
    clear hi h1
    go_wp2_with fail
    refine wrong_any H1.out 1 (by omega) (fun w2 h2 => ?_)
    have H2 := Lib.hid h2
    clear h2
    go_wp2_with fail
    go_end0
    exact HR.out _ H2.out
theorem enter_any (H : Sat w0 w [Fr, rdA pb d toks s]) (hd : d ≤ 20) {R : Ending → World → Prop}
    (hR : ∀ w', Sat w0 w' [Fr, rdA pb (d + 1) toks (if d = 20 then Rd.wrong toks 8 s else s)] → R (.returned (.bool (if d = 20 then Rd.wrong toks 8 s else s).f.isNone)) w') :
    Calls Tryz.prog 70 #[.pointer (some ⟨pb, 0, none⟩)] w R := by
  have HR := Lib.hid hR
  have HS := Lib.hid H
  obtain ⟨f0, _, c2, _⟩ := H.lookR.cells
  clear hR H
  by_cases h20 : d = 20
  · rw [if_pos h20] at HR
    have k1 : ((d : Int) == 20) = true := by simp [h20]
    have H20 := Lib.hid h20
    clear h20
    go_enter Tryz.func70, Tryz.ntmps70
    go_wp2_with fail
    refine wrong_any HS.out 8 (by omega) (fun w1 h1 => ?_)
    obtain ⟨f1, _, c21, _⟩ := h1.lookR.cells
    have H1 := Lib.hid h1
    clear h1
    go_wp2_with fail
    have h2 := H1.out.setDeepR (d + 1) (by omega)
    refine bad_any _ pb (d + 1) toks _ h2.lookR ?_
    have H2 := Lib.hid h2
    clear h2
    go_wp2_with fail
    refine ret_eq (HR.out _ H2.out) (congrArg Value.bool ?_)
    cases (Rd.wrong toks 8 s).f <;> rfl
  · rw [if_neg h20] at HR
    have k1 : ((d : Int) == 20) = false := by simp; omega
    clear h20
    go_enter Tryz.func70, Tryz.ntmps70
    go_wp2_with fail
    have h2 := HS.out.setDeepR (d + 1) (by omega)
    refine bad_any _ pb (d + 1) toks _ h2.lookR ?_
    have H2 := Lib.hid h2
    clear h2
    go_wp2_with fail
    refine ret_eq (HR.out _ H2.out) (congrArg Value.bool ?_)
    cases s.f <;> rfl
theorem leave_any (H : Sat w0 w [Fr, rdA pb (d + 1) toks s]) {R : Ending → World → Prop} (hR : ∀ w', Sat w0 w' [Fr, rdA pb d toks s] → R (.returned (.tuple #[])) w') :
    Calls Tryz.prog 72 #[.pointer (some ⟨pb, 0, none⟩)] w R := by
  have HR := Lib.hid hR
  have HS := Lib.hid H
  have hd := H.lookR.fits.2.1
  obtain ⟨f0, _, c2, _⟩ := H.lookR.cells
  have e : ((d + 1 : Nat) : Int) = (d : Int) + 1 := by omega
  rw [e] at c2
  clear hR H e
  go_enter Tryz.func72, Tryz.ntmps72
  go_wp2_with fail
  go_end0
  exact HR.out _ (HS.out.setDeepR d (by omega))
end
end Go.Proofs.YtdlbhiaceheffaaGreatDoor

namespace Go.Proofs.YtdlbhiaceheffaaGreatDoor
open Go Go.RowKit
open Prt (Sat As blk pur exs star stars)

def plainNames : List ByteArray := [⟨#[110, 117, 109]⟩, ⟨#[98, 111, 111, 108]⟩, ⟨#[116, 101, 120, 116]⟩, ⟨#[110, 117, 108, 108]⟩, ⟨#[97, 110, 121]⟩, ⟨#[117, 110, 107, 110, 111, 119, 110]⟩]
def plainVals : Array Value := #[.string ⟨#[110, 117, 109]⟩, .string ⟨#[98, 111, 111, 108]⟩, .string ⟨#[116, 101, 120, 116]⟩, .string ⟨#[110, 117, 108, 108]⟩, .string ⟨#[97, 110, 121]⟩, .string ⟨#[117, 110, 107, 110, 111, 119, 110]⟩]
theorem plain_hit (k : Nat) (hk : k < 6) (x : ByteArray) (h : plainNames[k]'(by simpa [plainNames] using hk) = x) : Ty.plainKind x = k + 1 := by
  have h2 := (show ∀ k : Fin 6, Ty.plainKind (plainNames.getD k.1 ⟨#[]⟩) = k.1 + 1 by decide) ⟨k, hk⟩
  have h3 : k < plainNames.length := by simpa [plainNames] using hk
  rw [← h, ← h2]
  simp [List.getD, List.getElem?_eq_getElem h3]
theorem plain_miss (x : ByteArray) (h : ∀ y ∈ plainNames, y ≠ x) : Ty.plainKind x = 0 := by
  have hh : ∀ l : List UInt8, (⟨⟨l⟩⟩ : ByteArray) ∈ plainNames → l ≠ x.data.toList := fun l hl e => h _ hl (by subst e; rfl)
  unfold Ty.plainKind Ty.plains
  simp only [List.idxOf?_cons, List.idxOf?_nil, beq_iff_eq]
  rw [if_neg (hh _ (by simp [plainNames])), if_neg (hh _ (by simp [plainNames])), if_neg (hh _ (by simp [plainNames])), if_neg (hh _ (by simp [plainNames])), if_neg (hh _ (by simp [plainNames])), if_neg (hh _ (by simp [plainNames]))]
  rfl
set_option maxRecDepth 100000 in
theorem plainKind_any (w : World) (x : ByteArray) {R : Ending → World → Prop} (hR : ∀ w', Below w.heap.size w w' → R (.returned (.int .i64 (Ty.plainKind x : Nat))) w') :
    Calls Tryz.prog 112 #[.string x] w R := by
  have HR := Lib.hid hR
  clear hR
  go_enter Tryz.func112, Tryz.ntmps112
  go_wp2_with fail
  have hc : ∀ j (hj : j < 6), (w.alloc (.cells plainVals 9)).cell? ⟨w.heap.size, j, none⟩ = some (.string (plainNames[j]'(by simpa [plainNames] using hj))) := fun j hj => by
    rw [cell_of_block (heap_alloc_new w _)]
    match j, hj with
    | 0, _ => rfl
    | 1, _ => rfl
    | 2, _ => rfl
    | 3, _ => rfl
    | 4, _ => rfl
    | 5, _ => rfl
  have HC := Lib.hid hc
  clear hc
  go_loop [4] (fun i => ∃ k : Nat, k ≤ 6 ∧ i = .int .i64 k ∧ Hid (∀ y ∈ plainNames.take k, y ≠ x)) (fun i => 6 - (intOf i).toNat)
  case atStart => exact ⟨0, Nat.zero_le _, rfl, by simp [Hid]⟩
  case round =>
    obtain ⟨k, hk, rfl, he⟩ := hrel
    by_cases hlt : k < 6
    · have hck := HC.out k hlt
      have HH := Lib.hid (plain_hit k hlt x)
      have hgl : k < plainNames.length := by simpa [plainNames] using hlt
      have HG := Lib.hid (List.take_succ_eq_append_getElem hgl)
      obtain ⟨y, hy⟩ : ∃ y, plainNames[k]'hgl = y := ⟨_, rfl⟩
      rw [hy] at hck HH HG
      unfold plainVals at hck
      clear hy
      go_wp2_with fail
      · have h : (y.toList == x.toList) = true := by assumption
        refine ret_eq (HR.out _ ((Below.refl _ _).alloc (Nat.le_refl _) _)) (congrArg (Value.int .i64) ?_)
        rw [HH.out ((bytes_iff _ _).1 h)]; simp
      · have h : (y.toList == x.toList) = false := by assumption
        go_round
        case rel =>
          refine ⟨k + 1, by omega, by go_num, fun z hz => ?_⟩
          rw [HG.out, List.mem_append] at hz
          rcases hz with hz | hz
          · exact he.out z hz
          · simp at hz; subst hz; exact bytes_ne _ _ h
        case measure => simp [intOf]; omega
    · have h6 : k = 6 := by omega
      have HM : Hid (Ty.plainKind x = 0) := plain_miss x (by have := he.out; rw [h6] at this; simpa [plainNames] using this)
      clear h6
      go_wp2_with fail
      refine ret_eq (HR.out _ ((Below.refl _ _).alloc (Nat.le_refl _) _)) (congrArg (Value.int .i64) ?_)
      rw [HM.out]; rfl
theorem HasText_nil (x : ByteArray) (a : Option Addr) (cap : Nat) (w : World) {R : Ending → World → Prop} (hR : R (.returned (.bool false)) w) :
    Calls Tryz.prog 68 #[.slice a 0 cap, .string x] w R := by
  have HR := Lib.hid hR
  clear hR
  go_enter Tryz.func68, Tryz.ntmps68
  go_wp2_with fail
  refine wp_loop_rounds 1 ?_
  rw [rounds_succ]
  go_wp2_with fail
  exact HR.out
theorem hasText_any (w : World) (v : Value) (l : List ByteArray) (h : w.ownsRow 0 9 1 v l.length (l.map Value.string)) (hl : l.length ≤ 100000) (x : ByteArray) {R : Ending → World → Prop} (hR : ∀ r : Bool, (r = true ↔ x ∈ l) → R (.returned (.bool r)) w) :
    Calls Tryz.prog 68 #[v, .string x] w R := by
  obtain ⟨a, cap, rfl⟩ := owns_slice h
  by_cases h0 : l = []
  · subst h0
    exact HasText_nil x a cap w (hR false (by simp))
  · obtain ⟨g, cap', hv, _, _⟩ := h.form (List.length_pos_iff.2 h0)
    have hc := World.ownsRow.cells (g := g) h (by rw [hv]; rfl)
    cases hv
    refine HasText_any g 0 cap l.length l x w hl rfl (fun j hj => ?_) hR
    have := hc j (.string (l.getD j ByteArray.empty)) (by simp [hj])
    rwa [Addr.add_lit] at this

section
variable {w0 w : World} {Fr : As} {pb d : Nat} {toks : List Tok.Tk} {s : Rd.RS}
set_option maxRecDepth 100000 in
set_option maxHeartbeats 1000000 in
theorem ident_any (H : Sat w0 w [Fr, rdA pb d toks s]) (v : Value) (l : List ByteArray) (hv : w.ownsRow 0 9 1 v l.length (l.map Value.string)) (hl : l.length ≤ 2000) {R : Ending → World → Prop}
    (hR : ∀ w', Sat w0 w' [Fr, rdA pb d toks (Rd.ident toks l s).2] → R (.returned (.string (Rd.ident toks l s).1)) w') :
    Calls Tryz.prog 102 #[.pointer (some ⟨pb, 0, none⟩), v] w R := by
  have HR := Lib.hid hR
  have HS := Lib.hid H
  have HV := Lib.hid hv
  have hlk := H.lookR
  have hpos := hlk.fits.1
  have hlen := hlk.wf.1
  have hlt := fun h1 : (Ty.cur toks s.st.pos).kind = 1 => kind_lt hlk.fits.1 hlk.wf (by omega)
  obtain ⟨f0, c1, _, _, _, g, cap, c0, hg, t0, t1, t2⟩ := hlk.cells
  have hpb := hlk.lt
  unfold Rd.ident at HR
  generalize Ty.cur toks s.st.pos = t at *
  obtain ⟨kd, tx, ps⟩ := t
  dsimp only at t0 t1 t2 hlt HR
  have h2 := (HS.out.waste (.cells #[.int .i64 kd, .string tx, .int .i64 ps] 70)).drew
  have HS2 := Lib.hid h2
  clear hR H hlk hv h2
  by_cases hkd : kd = 1
  · have hlt1 := hlt hkd
    have k1 : ((kd : Int) != 1) = false := by simp [hkd]
    have HKD := Lib.hid hkd
    clear hlt hkd
    go_enter Tryz.func102, Tryz.ntmps102
    go_wp2_with fail
    go_region
    go_wp2_with fail
    refine hasText_any _ v l (owns_below HV.out (((Below.refl _ _).alloc (Nat.le_refl _) _).drew)) (by omega) tx (fun r hr => ?_)
    have HRR := Lib.hid hr
    clear hr
    cases r
    · have hmem : ¬ (tx.data.toList ∈ l.map (fun t => t.data.toList)) := by rw [text_mem]; intro hm; have := HRR.out.2 hm; simp at this
      rw [if_neg (by rw [HKD.out]; simp), if_neg hmem] at HR
      clear hmem
      go_wp2_with fail
      exact HR.out _ ((HS.out.setPosR hlt1).waste _).drew
    · have hmem : tx.data.toList ∈ l.map (fun t => t.data.toList) := text_mem.2 (HRR.out.1 (by trivial))
      rw [if_neg (by rw [HKD.out]; simp), if_pos hmem] at HR
      clear hmem
      go_wp2_with fail
      refine wrong_any HS2.out 6 (by omega) (fun w3 h3 => ?_)
      have H3 := Lib.hid h3
      clear h3
      go_wp2_with fail
      exact HR.out _ H3.out
  · have k1 : ((kd : Int) != 1) = true := by simp; omega
    rw [if_pos hkd] at HR
    clear hlt hkd
    go_enter Tryz.func102, Tryz.ntmps102
    go_wp2_with fail
    go_region
    go_wp2_with fail
    refine wrong_any HS2.out 1 (by omega) (fun w3 h3 => ?_)
    have H3 := Lib.hid h3
    clear h3
    go_wp2_with fail
    exact HR.out _ H3.out
end
end Go.Proofs.YtdlbhiaceheffaaGreatDoor

namespace Go.Proofs.YtdlbhiaceheffaaGreatDoor
open Go Go.RowKit
open Prt (Sat As blk pur exs star stars)

section
variable {w0 w : World} {Fr : As} {pb d : Nat} {toks : List Tok.Tk} {s : Rd.RS}
/-- The reader laid open, as far as its types. -/
def rdTy (pb d : Nat) (toks : List Tok.Tk) (s : Rd.RS) (p : Value × Value × Value × Int) (n : Nat) (cells : List Value) (rows : List TyRow) (ts : List Ty.Ty) : List As :=
  [pur (Toks toks ∧ s.st.pos < toks.length ∧ d ≤ 21 ∧ ∀ x, s.f = some x → x.1 ≠ 0),
   blk pb (.cells #[p.1, .int .i64 s.st.pos, .int .i64 d, p.2.1, p.2.2.1, .int .i64 p.2.2.2, .int .i64 (ftOf s.f).1, .int .i64 (ftOf s.f).2] 68 (0, 0)), tkA p.1 toks, ndA p.2.1 s.st.ns,
   pur (rows.map TyRow.t = ts), Prt.row 77 4 p.2.2.1 n cells, stars (rows.map tyBits)]
theorem Prt.Sat.openTyR {A B : As} (h : Sat w0 w [Fr, rdA pb d toks s, A, B]) : ∃ p rows, Sat w0 w (Fr :: A :: B :: rdTy pb d toks s p s.st.ts.length (rows.flatMap tyCells) rows s.st.ts) := by
  obtain ⟨p, h⟩ := h.ex (i := 1) rfl
  obtain ⟨rows, h⟩ := (h.unpack (i := 1) rfl).ex (i := 7) rfl
  exact ⟨p, rows, h.unpack (i := 7) rfl⟩
/-- Parts of one type more are parts of the list. -/
theorem Prt.Sat.moreTy {A B C D : As} {rows : List TyRow} {ts : List Ty.Ty} {t : Ty.Ty} {v fv lv : Value} (h : Sat w0 w [Fr, A, B, C, D, pur (rows.map TyRow.t = ts), Prt.row 77 4 v (ts.length + 1) (rows.flatMap tyCells ++ tyCells ⟨t, fv, lv⟩), stars (rows.map tyBits), fdA fv t.fields, inA lv t.list]) :
    Sat w0 w [Fr, A, B, C, D, tyA v (ts ++ [t])] := by
  have hr := h.pure 5 rfl
  have h := Prt.Sat.pack (L := [Fr, _, _, _, _, _, _, stars (rows.map tyBits)]) (M := [fdA fv t.fields, inA lv t.list]) h
  have h := h.ent (i := 8) rfl (Q := tyBits (TyRow.mk t fv lv)) (fun a ha => by
    obtain ⟨x, y, h1, h2, h3, h4, u, v, _, h6, _, h8, _⟩ := ha
    exact ⟨x, y, h1, h2, h3, h4, (by
      obtain ⟨k1, k2⟩ := h8
      refine ⟨k1, ?_⟩
      rcases k2 with k2 | ⟨g, cap, cur, e1, e2, e3⟩
      · exact .inl k2
      · exact .inr ⟨g, cap, cur, e1, h6 _ _ e2, e3⟩)⟩)
  have h := Prt.Sat.pack (L := [Fr, _, _, _, _, _, _]) (M := [stars (rows.map tyBits), tyBits (TyRow.mk t fv lv)]) h
  have h := h.ent (i := 7) rfl (Q := stars ((rows ++ [TyRow.mk t fv lv]).map tyBits)) (fun a ha => by rw [List.map_append]; exact Prt.stars_snoc ha)
  have h := h.ent (i := 5) rfl (Q := pur ((rows ++ [TyRow.mk t fv lv]).map TyRow.t = ts ++ [t])) (fun a _ => by show _ = _; rw [List.map_append, hr]; rfl)
  have h := h.ent (i := 6) rfl (Q := Prt.row 77 4 v (ts ++ [t]).length ((rows ++ [TyRow.mk t fv lv]).flatMap tyCells)) (fun a ha => by rw [List.flatMap_append, List.length_append]; exact ha)
  have h := Prt.Sat.pack (L := [Fr, _, _, _, _]) (M := [_, _, _]) h
  exact h.ent (i := 5) rfl (Q := tyA v (ts ++ [t])) (fun a ha => ⟨_, ha⟩)
theorem Prt.Sat.shutTyR {p : Value × Value × Value × Int} {rows : List TyRow} {t : Ty.Ty} {fv lv : Value} (h : Sat w0 w (Fr :: fdA fv t.fields :: inA lv t.list :: rdTy pb d toks s p (s.st.ts.length + 1) (rows.flatMap tyCells ++ tyCells ⟨t, fv, lv⟩) rows s.st.ts)) :
    Sat w0 w [Fr, rdA pb d toks (Rd.addT t s).2] :=
  Prt.Sat.shutRd (s := (Rd.addT t s).2) (p := p) (Prt.Sat.moreTy (h.pick [0, 3, 4, 5, 6, 7, 8, 9, 1, 2]))

set_option maxRecDepth 100000 in
set_option maxHeartbeats 1000000 in
theorem addType_any (t : Ty.Ty) (fv lv : Value) (H : Sat w0 w [Fr, rdA pb d toks s, fdA fv t.fields, inA lv t.list]) (hb : s.st.ts.length ≤ 3000)
    {R : Ending → World → Prop} (hR : ∀ w', Sat w0 w' [Fr, rdA pb d toks (Rd.addT t s).2] → R (.returned (.int .i64 (Rd.addT t s).1)) w') :
    Calls Tryz.prog 78 #[.pointer (some ⟨pb, 0, none⟩), .agg #[.int .i64 t.kind, fv, lv, .int .i64 t.of]] w R := by
  have HR := Lib.hid hR
  obtain ⟨i0, ti, tz0, tz1, tz2⟩ := info_parts infoTy
  obtain ⟨⟨lv0, nv, tv, main⟩, rows, hs⟩ := H.openTyR
  have hs : Sat w0 w (Fr :: fdA fv t.fields :: inA lv t.list :: rdTy pb d toks s (lv0, nv, tv, main) s.st.ts.length (rows.flatMap tyCells) rows s.st.ts) := hs
  have c4 := hs.cell 4 rfl 4 rfl
  have f4 := hs.free 4 rfl 4
  have hlt := hs.lt 4 rfl
  have hr := hs.row 8 rfl
  obtain ⟨a, cap0, rfl⟩ := owns_slice hr
  obtain ⟨fa, fc, rfl⟩ := owns_slice (hs.row 1 rfl)
  obtain ⟨la, lc, rfl⟩ := owns_slice (hs.row 2 rfl)
  have HROW := Lib.hid hr
  have HS := Lib.hid hs
  clear hR H hs hr
  dsimp only at c4
  go_enter Tryz.func78, Tryz.ntmps78
  go_wp2_with fail
  go_region_law (first
    | (go_loud (refine step_append_lies _ (by rfl) _ _ _ (by rfl) 0 77 i0 _ 4 64 Tryz.underlying31 ti tz0 tz1 tz2 rfl (by omega) (.slice a s.st.ts.length cap0) s.st.ts.length (rows.flatMap tyCells) (by rfl) (((HROW.out.alloc _).alloc _).drew) ⟨w.heap.size + 1, 0, none⟩ 1 1 [.int .i64 t.kind, .slice fa t.fields.length fc, .slice la t.list.length lc, .int .i64 t.of] (by rfl) (by rfl) (World.news_of_block (cs := #[.int .i64 t.kind, .slice fa t.fields.length fc, .slice la t.list.length lc, .int .i64 t.of]) (t := 77) (fr := (0, 0)) (heap_drew_at (heap_alloc_at' _ _ _ (by simp)))) (by simp [Value.oneCell']) (by omega) (by unfold maxLen; omega) (by omega) (by simp) (w.heap.size + 2) (by simp) ?_); intro g cap w1 hown1 hgrow hat hlt1; have h1 := Prt.Sat.grow ((HS.out.waste _).waste _).drew 8 rfl hgrow hown1 (by simpa using hat); have d4 := h1.cell 4 rfl 4 rfl; have e4 := h1.free 4 rfl 4; have H1 := Lib.hid h1; clear h1))
  all_goals
    clear hown1 hgrow
    go_wp2_with fail
    exact HR.out _ (Prt.Sat.shutTyR (p := (lv0, nv, .slice (some ⟨g, 0, none⟩) (s.st.ts.length + 1) cap, main)) (rows := rows) (H1.out.store 4 rfl 4 _))
end
end Go.Proofs.YtdlbhiaceheffaaGreatDoor

namespace Go.Proofs.YtdlbhiaceheffaaGreatDoor
open Go Go.RowKit
open Prt (Sat As blk pur exs star stars)

/-- A function of the reference's reader: as a model, at a depth. -/
def RSpec (F : FuncId) (toks : List Tok.Tk) (d : Nat) (g : Rd.RS → Nat × Rd.RS) : Prop :=
  ∀ (w0 w : World) (Fr : As) (pb : Nat) (s : Rd.RS) (k : Nat), k ≤ 400 → Rd.In toks k 0 s → Sat w0 w [Fr, rdA pb d toks s] → ∀ R : Ending → World → Prop,
    (∀ w', Sat w0 w' [Fr, rdA pb d toks (g s).2] → R (.returned (.int .i64 ((g s).1 : Nat))) w') → Calls Tryz.prog F #[.pointer (some ⟨pb, 0, none⟩)] w R
def msR (n pb : Nat) (w : World) : Nat := if intOf ((w.cell? ⟨pb, 6, none⟩).getD (.int .i64 0)) = 0 then n - posOf' pb w + 1 else 0
where posOf' (pb : Nat) (w : World) : Nat := (intOf ((w.cell? ⟨pb, 1, none⟩).getD (.int .i64 0))).toNat
theorem msR_eq {w : World} {pb d : Nat} {toks : List Tok.Tk} {s : Rd.RS} (h : RRd w pb d toks s) (n : Nat) : msR n pb w = if s.f.isSome then 0 else n - s.st.pos + 1 := by
  obtain ⟨_, c1, _, c6, _⟩ := h.cells
  have hf := h.fits.2.2
  unfold msR msR.posOf'
  rw [c1, c6]
  cases e : s.f with
  | none => simp [ftOf, intOf]
  | some x => have := hf x e; simp [ftOf, intOf]; omega
/-- What comes ahead of a type: the token, and that it is no word that is a type alone. -/
structure NotWord (toks : List Tok.Tk) (s : Rd.RS) : Prop where
  no : ¬ ((Ty.cur toks s.st.pos).kind = 2 ∧ Ty.plainKind (Ty.cur toks s.st.pos).text > 0 ∧ s.f = none)

set_option maxRecDepth 100000 in
set_option maxHeartbeats 2000000 in
theorem one_word {toks : List Tok.Tk} {d : Nat} (g : Rd.RS → Nat × Rd.RS) (w0 w : World) (Fr : As) (pb : Nat) (s : Rd.RS) (k : Nat) (hk : k ≤ 500) (hin : Rd.In toks k 0 s) (H : Sat w0 w [Fr, rdA pb d toks s])
    (hw : (Ty.cur toks s.st.pos).kind = 2 ∧ Ty.plainKind (Ty.cur toks s.st.pos).text > 0 ∧ s.f = none) {R : Ending → World → Prop}
    (hR : ∀ w', Sat w0 w' [Fr, rdA pb d toks (Rd.one toks g s).2] → R (.returned (.int .i64 ((Rd.one toks g s).1 : Nat))) w') : Calls Tryz.prog 76 #[.pointer (some ⟨pb, 0, none⟩)] w R := by
  have hlk := H.lookR
  have hpos := hlk.fits.1
  have hlen := hlk.wf.1
  have hlt1 := kind_lt hpos hlk.wf (by omega : (Ty.cur toks s.st.pos).kind ≠ 6)
  obtain ⟨f0, c1, _, c6, c7, gb, cap, c0, hg, t0, t1, t2⟩ := hlk.cells
  have hpb := hlk.lt
  have hts := hin.ts
  have HR : Hid (∀ w', Sat w0 w' [Fr, rdA pb d toks (Rd.addT ⟨Ty.plainKind (Ty.cur toks s.st.pos).text, [], [], 0⟩ (Rd.next s)).2] → R (.returned (.int .i64 ((Rd.addT ⟨Ty.plainKind (Ty.cur toks s.st.pos).text, [], [], 0⟩ (Rd.next s)).1 : Nat))) w') := by
    unfold Rd.one at hR
    rw [if_pos hw] at hR
    exact hR
  obtain ⟨hkd, hpk, hf⟩ := hw
  have HS := Lib.hid H
  generalize Ty.cur toks s.st.pos = t at *
  obtain ⟨kd, tx, ps⟩ := t
  dsimp only at hkd hpk t0 t1 t2 HR
  have h2 := (HS.out.waste (.cells #[.int .i64 kd, .string tx, .int .i64 ps] 70)).drew
  have HS2 := Lib.hid h2
  have k1 : ((kd : Int) == 2) = true := by simp [hkd]
  have k2 : decide ((0 : Int) < (Ty.plainKind tx : Nat)) = true := by simp; omega
  have HIN := Lib.hid hin
  have HLK := Lib.hid hlk
  clear hR H hlk h2 hkd hin
  obtain ⟨st, f⟩ := s
  cases hf
  dsimp only at *
  generalize hpkk : Ty.plainKind tx = pk at *
  have HPK := Lib.hid hpkk
  clear hpkk
  go_enter Tryz.func76, Tryz.ntmps76
  go_wp2_with fail
  go_region
  go_wp2_with fail
  refine plainKind_any _ tx (fun w1 hb1 => ?_)
  rw [HPK.out]
  have h3 := HS2.out.below hb1
  have e1 : ∀ o, w1.cell? ⟨w.heap.size, o, none⟩ = #[.int .i64 kd, .string tx, .int .i64 ps][o]? := fun o => by
    rw [hb1.cell (p := ⟨w.heap.size, o, none⟩) (by simp)]
    exact cell_of_block (heap_alloc_new w _) o
  have hz1 := hb1.size
  simp at hz1
  have q1 : w1.cell? ⟨w.heap.size, 1, none⟩ = some (.string tx) := e1 1
  have H3 := Lib.hid h3
  have hx := (Array.getElem?_eq_some_iff.1 (show w1.heap[w.heap.size]? = some _ from (hb1.block _ (by simp)).trans (heap_alloc_new w _))).1
  have hne : pb ≠ w.heap.size := by omega
  clear e1 hb1 h3
  go_wp2_with fail
  refine bad_any _ pb d toks ⟨st, none⟩ H3.out.lookR ?_
  dsimp only [Option.isSome]
  obtain ⟨f3, c13, _⟩ := H3.out.lookR.cells
  dsimp only at c13
  go_wp2_with fail
  have h4 := H3.out.setPosR hlt1
  refine plainKind_any _ tx (fun w2 hb2 => ?_)
  rw [HPK.out]
  have H4 := Lib.hid (h4.below hb2)
  clear h4 hb2
  go_wp2_with fail
  refine addType_any ⟨pk, [], [], 0⟩ (.slice none 0 0) (.slice none 0 0) ((H4.out.nil 82 2).nil 3 1) (by show st.ts.length ≤ 3000; omega) (fun w3 h5 => ?_)
  have H5 := Lib.hid h5
  clear h5
  go_wp2_with fail
  exact HR.out _ H5.out
end Go.Proofs.YtdlbhiaceheffaaGreatDoor
