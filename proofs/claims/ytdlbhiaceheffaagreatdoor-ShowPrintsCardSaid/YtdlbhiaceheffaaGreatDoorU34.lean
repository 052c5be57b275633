/- Walks of the reference's writeBare: all but functions and objects. -/
import Derived.Lib.ItoaMem
import Derived.Test.YtdlbhiaceheffaaGreatDoorU33
set_option linter.all false
set_option maxRecDepth 100000
set_option maxHeartbeats 4000000
namespace Go.Proofs.YtdlbhiaceheffaaGreatDoor
section
open Go Go.RowKit
open Prt (Sat As blk pur exs star stars)
abbrev obO (nd : Ty.Nd) (lv : Value) : Obj := .cells #[.int .i64 nd.kind, .int .i64 nd.a, .int .i64 nd.b, .int .i64 nd.c, lv, .string nd.text, .int .i64 nd.n, .int .i64 nd.ty, .int .i64 nd.pos] 74 (0, 0)
def RfL (w : World) (nv tv : Value) (main : Int) (nd : Ty.Nd) (lv : Value) : List As := [Prt.oldA w, blk w.heap.size (pgObj nv tv main), blk (w.heap.size + 1) (obO nd lv)]
structure RfRd (w : World) (b : Nat) (nv tv : Value) (main : Int) (nd : Ty.Nd) (lv : Value) : Prop where
 p0 : w.cell? ⟨b, 0, none⟩ = some nv
 p1 : w.cell? ⟨b, 1, none⟩ = some tv
 p2 : w.cell? ⟨b, 2, none⟩ = some (.int .i64 main)
 x0 : w.cell? ⟨b + 1, 0, none⟩ = some (.int .i64 nd.kind)
 x1 : w.cell? ⟨b + 1, 1, none⟩ = some (.int .i64 nd.a)
 x2 : w.cell? ⟨b + 1, 2, none⟩ = some (.int .i64 nd.b)
 x3 : w.cell? ⟨b + 1, 3, none⟩ = some (.int .i64 nd.c)
 x4 : w.cell? ⟨b + 1, 4, none⟩ = some lv
 x5 : w.cell? ⟨b + 1, 5, none⟩ = some (.string nd.text)
 x6 : w.cell? ⟨b + 1, 6, none⟩ = some (.int .i64 nd.n)
 x7 : w.cell? ⟨b + 1, 7, none⟩ = some (.int .i64 nd.ty)
 x8 : w.cell? ⟨b + 1, 8, none⟩ = some (.int .i64 nd.pos)
theorem rfRd {w w1 : World} {nv tv : Value} {main : Int} {nd : Ty.Nd} {lv : Value} (h : Sat w w1 (RfL w nv tv main nd lv)) : RfRd w1 w.heap.size nv tv main nd lv :=
 ⟨h.cell 1 rfl 0 rfl, h.cell 1 rfl 1 rfl, h.cell 1 rfl 2 rfl, h.cell 2 rfl 0 rfl, h.cell 2 rfl 1 rfl, h.cell 2 rfl 2 rfl, h.cell 2 rfl 3 rfl, h.cell 2 rfl 4 rfl, h.cell 2 rfl 5 rfl, h.cell 2 rfl 6 rfl, h.cell 2 rfl 7 rfl, h.cell 2 rfl 8 rfl⟩
theorem rfIn (w : World) (nv tv : Value) (main : Int) (nd : Ty.Nd) (lv : Value) : Sat w ((w.alloc (pgObj nv tv main)).alloc (obO nd lv)) (RfL w nv tv main nd lv) :=
 ((Prt.Sat.old w).allocAt (pgObj nv tv main) w.heap.size).allocAt (obO nd lv) (w.heap.size + 1)
section
variable {wB : World} {nv tv : Value} {pg : Ty.Pg} {main : Int}
theorem rb_num (hP : PB wB nv tv pg) {p k : Nat}  : RbC wB nv tv pg main (.num p k) := by
 intro n nd lv hd hn hl ind w hb hsz hlen R hR
 rw [Ty.DenE] at hd
 rw [hn] at hd
 cases hd
 rw [Ty.szE] at hsz
 have e : Ty.wE pg.ts ind (.num p k) = Lib.itoa (k : Int) := by rw [Ty.wE] <;> rfl
 rw [e] at hlen hR
 have HK := qh (hP.ok.ns _ (List.mem_of_getElem? hn)).n_le
 have HR := qh hR
 obtain ⟨la, lc, rfl⟩ := owns_slice hl
 obtain ⟨na0, nn0, nc0, rfl⟩ := hP.ndSlice
 obtain ⟨ta, tn, tc, rfl⟩ := hP.tySlice
 have h1 := rfIn w (.slice na0 nn0 nc0) (.slice ta tn tc) main { Ty.ndOf 1 p with n := k } (.slice la 0 lc)
 have HRD := qh (fun (w1 : World) (h : Sat w w1 (RfL w (.slice na0 nn0 nc0) (.slice ta tn tc) main { Ty.ndOf 1 p with n := k } (.slice la 0 lc))) => rfRd h)
 have H1 := qh h1
 clear hR hlen hn hl hb hsz e h1 hP 
 dsimp only [pgVal, ndVal, Ty.ndOf] at *
 go_enter Tryz.func120, Tryz.ntmps120
 go_wp2_with fail
 refine Digits_any (k + 1) k (by omega) HK.out _ _ (fun w2 hb2 => ?_)
 have H2 := qh (H1.out.below hb2)
 clear hb2
 go_wp2_with fail
 have h3 := HR.out _ H2.out.isBelow
 rw [Lib.itoa_nonneg] at h3
 exact h3
theorem rb_text (hP : PB wB nv tv pg) {p : Nat} {x : ByteArray}  : RbC wB nv tv pg main (.text p x) := by
 intro n nd lv hd hn hl ind w hb hsz hlen R hR
 rw [Ty.DenE] at hd
 rw [hn] at hd
 cases hd
 rw [Ty.szE] at hsz
 have e : Ty.wE pg.ts ind (.text p x) = [34] ++ x.data.toList ++ [34] := by rw [Ty.wE] <;> rfl
 rw [e] at hlen hR
 have HR := qh hR
 obtain ⟨la, lc, rfl⟩ := owns_slice hl
 obtain ⟨na0, nn0, nc0, rfl⟩ := hP.ndSlice
 obtain ⟨ta, tn, tc, rfl⟩ := hP.tySlice
 simp only [lzA, lzC, lzN] at hlen
 obtain ⟨s1, e1, c1⟩ := cat_ex (a := ⟨#[34]⟩) (b := x) (x := [34]) (y := x.data.toList) (z := [34] ++ x.data.toList) rfl (bs_of x).symm rfl (by simp only [lzA, lzC, lzN]; omega)
 obtain ⟨s2, e2, c2⟩ := cat_ex (a := s1) (b := ⟨#[34]⟩) (x := [34] ++ x.data.toList) (y := [34]) (z := [34] ++ x.data.toList ++ [34]) e1 rfl rfl (by simp only [lzA, lzC, lzN]; omega)
 rw [← e2] at HR
 clear e1 e2
 have h1 := rfIn w (.slice na0 nn0 nc0) (.slice ta tn tc) main { Ty.ndOf 2 p with text := x } (.slice la 0 lc)
 have HRD := qh (fun (w1 : World) (h : Sat w w1 (RfL w (.slice na0 nn0 nc0) (.slice ta tn tc) main { Ty.ndOf 2 p with text := x } (.slice la 0 lc))) => rfRd h)
 have H1 := qh h1
 clear hR hlen hn hl hb hsz e h1 hP 
 dsimp only [pgVal, ndVal, Ty.ndOf] at *
 go_enter Tryz.func120, Tryz.ntmps120
 go_wp2_with fail
 exact HR.out _ H1.out.isBelow
theorem rb_bool (hP : PB wB nv tv pg) {p k : Nat} : RbC wB nv tv pg main (.bool p k) := by
 intro n nd lv hd hn hl ind w hb hsz hlen R hR
 rw [Ty.DenE, hn] at hd
 cases hd
 rw [Ty.wE] at hR
 have hk := (hP.ok.ns _ (List.mem_of_getElem? hn)).small (by simp [Ty.ndOf])
 dsimp only at hk
 obtain ⟨la, lc, rfl⟩ := owns_slice hl
 obtain ⟨na0, nn0, nc0, rfl⟩ := hP.ndSlice
 obtain ⟨ta, tn, tc, rfl⟩ := hP.tySlice
 have h1 := rfIn w (.slice na0 nn0 nc0) (.slice ta tn tc) main { Ty.ndOf 3 p with n := k } (.slice la 0 lc)
 have H1 := qh h1
 have HR := qh hR
 clear hR hlen hn hl hb hsz h1 hP
 dsimp only [pgVal, ndVal, Ty.ndOf] at *
 have hk : k = 0 ∨ k = 1 := by omega
 rcases hk with rfl | rfl
 · go_enter Tryz.func120, Tryz.ntmps120
   go_wp2_with fail
   exact HR.out _ H1.out.isBelow
 · go_enter Tryz.func120, Tryz.ntmps120
   go_wp2_with fail
   exact HR.out _ H1.out.isBelow
theorem rb_null (hP : PB wB nv tv pg) {p : Nat}  : RbC wB nv tv pg main (.null p) := by
 intro n nd lv hd hn hl ind w hb hsz hlen R hR
 rw [Ty.DenE] at hd
 rw [hn] at hd
 cases hd
 rw [Ty.szE] at hsz
 have e : Ty.wE pg.ts ind (.null p) = [110, 117, 108, 108] := by rw [Ty.wE] <;> rfl
 rw [e] at hlen hR
 have HR := qh hR
 obtain ⟨la, lc, rfl⟩ := owns_slice hl
 obtain ⟨na0, nn0, nc0, rfl⟩ := hP.ndSlice
 obtain ⟨ta, tn, tc, rfl⟩ := hP.tySlice
 have h1 := rfIn w (.slice na0 nn0 nc0) (.slice ta tn tc) main { Ty.ndOf 4 p with a := 0 } (.slice la 0 lc)
 have HRD := qh (fun (w1 : World) (h : Sat w w1 (RfL w (.slice na0 nn0 nc0) (.slice ta tn tc) main { Ty.ndOf 4 p with a := 0 } (.slice la 0 lc))) => rfRd h)
 have H1 := qh h1
 clear hR hlen hn hl hb hsz e h1 hP 
 dsimp only [pgVal, ndVal, Ty.ndOf] at *
 go_enter Tryz.func120, Tryz.ntmps120
 go_wp2_with fail
 exact HR.out _ H1.out.isBelow
theorem rb_var (hP : PB wB nv tv pg) {p : Nat} {x : ByteArray}  : RbC wB nv tv pg main (.var p x) := by
 intro n nd lv hd hn hl ind w hb hsz hlen R hR
 rw [Ty.DenE] at hd
 rw [hn] at hd
 cases hd
 rw [Ty.szE] at hsz
 have e : Ty.wE pg.ts ind (.var p x) = x.data.toList := by rw [Ty.wE] <;> rfl
 rw [e] at hlen hR
 have HR := qh hR
 obtain ⟨la, lc, rfl⟩ := owns_slice hl
 obtain ⟨na0, nn0, nc0, rfl⟩ := hP.ndSlice
 obtain ⟨ta, tn, tc, rfl⟩ := hP.tySlice
 have h1 := rfIn w (.slice na0 nn0 nc0) (.slice ta tn tc) main { Ty.ndOf 5 p with text := x } (.slice la 0 lc)
 have HRD := qh (fun (w1 : World) (h : Sat w w1 (RfL w (.slice na0 nn0 nc0) (.slice ta tn tc) main { Ty.ndOf 5 p with text := x } (.slice la 0 lc))) => rfRd h)
 have H1 := qh h1
 clear hR hlen hn hl hb hsz e h1 hP 
 dsimp only [pgVal, ndVal, Ty.ndOf] at *
 go_enter Tryz.func120, Tryz.ntmps120
 go_wp2_with fail
 have h3 := HR.out _ H1.out.isBelow
 rw [bs_of] at h3
 exact h3
theorem rb_call (hP : PB wB nv tv pg) {p : Nat} {a : Ty.Ex} {l : List Ty.Ex} (ha : RxC wB nv tv pg main a) (hE : ∀ e ∈ l, RxC wB nv tv pg main e) : RbC wB nv tv pg main (.call p a l) := by
 intro n nd lv hd hn hl ind w hb hsz hlen R hR
 rw [Ty.DenE] at hd
 obtain ⟨na, nl, h1, hda, hdl⟩ := hd
 rw [hn] at h1
 cases h1
 rw [Ty.szE] at hsz
 have e : Ty.wE pg.ts ind (.call p a l) = Ty.wP pg.ts ind 4 a ++ [40] ++ Ty.joinL [44, 32] (Ty.wEs pg.ts ind l) ++ [41] := by rw [Ty.wE] <;> rfl
 rw [e] at hlen hR
 have HAx := fun (w1 : World) (h : Below w.heap.size w w1) hx => ha na hda 4 ind w1 (hb.trans (h.mono hb.size)) (by omega) (by omega) hx
 simp only [show ((4 : Nat) : Int) = 4 from rfl] at HAx
 have HA := qh HAx
 clear HAx
 have HL := qh (fun (w1 : World) (h : Below w.heap.size w w1) (hx : (Ty.joinL [44, 32] (Ty.wEs pg.ts ind l)).length ≤ 900000000) (R : Ending → World → Prop) => rlist_any (R := R) (ind := ind) hP hE hdl lv hl (hb.trans (h.mono hb.size)) (by omega) hx)
 have HR := qh hR
 obtain ⟨la, lc, rfl⟩ := owns_slice hl
 obtain ⟨na0, nn0, nc0, rfl⟩ := hP.ndSlice
 obtain ⟨ta, tn, tc, rfl⟩ := hP.tySlice
 generalize Ty.wP pg.ts ind 4 a = pa at *
 generalize Ty.joinL [44, 32] (Ty.wEs pg.ts ind l) = pl at *
 simp only [lzA, lzC, lzN] at hlen
 have HLpa : Hid (pa.length ≤ 900000000) := by show _ ≤ _; omega
 have HLpl : Hid (pl.length ≤ 900000000) := by show _ ≤ _; omega
 obtain ⟨s1, e1, c1⟩ := cat_ex (a := bs pa) (b := ⟨#[40]⟩) (x := pa) (y := [40]) (z := pa ++ [40]) rfl rfl rfl (by simp only [lzA, lzC, lzN]; omega)
 obtain ⟨s2, e2, c2⟩ := cat_ex (a := s1) (b := bs pl) (x := pa ++ [40]) (y := pl) (z := pa ++ [40] ++ pl) e1 rfl rfl (by simp only [lzA, lzC, lzN]; omega)
 obtain ⟨s3, e3, c3⟩ := cat_ex (a := s2) (b := ⟨#[41]⟩) (x := pa ++ [40] ++ pl) (y := [41]) (z := pa ++ [40] ++ pl ++ [41]) e2 rfl rfl (by simp only [lzA, lzC, lzN]; omega)
 rw [← e3] at HR
 clear e1 e2 e3
 have h1 := rfIn w (.slice na0 nn0 nc0) (.slice ta tn tc) main { Ty.ndOf 7 p with a := na, list := nl } (.slice la nl.length lc)
 have HRD := qh (fun (w1 : World) (h : Sat w w1 (RfL w (.slice na0 nn0 nc0) (.slice ta tn tc) main { Ty.ndOf 7 p with a := na, list := nl } (.slice la nl.length lc))) => rfRd h)
 have H1 := qh h1
 clear hR hlen hn hl hb hsz e h1 hP ha hE hda hdl
 dsimp only [pgVal, ndVal, Ty.ndOf] at *
 go_enter Tryz.func120, Tryz.ntmps120
 go_wp2_with fail
 go_region_held3 (fun w' => w'.cell? ⟨w.heap.size, 0, none⟩ = some (.slice na0 nn0 nc0) ∧ w'.cell? ⟨w.heap.size, 1, none⟩ = some (.slice ta tn tc) ∧ w'.cell? ⟨w.heap.size, 2, none⟩ = some (.int .i64 main) ∧ w'.cell? ⟨w.heap.size + 1, 1, none⟩ = some (.int .i64 (na : Nat)) ∧ w'.cell? ⟨w.heap.size + 1, 4, none⟩ = some (.slice la nl.length lc)) (go_keep)
   (first | (go_at_call 87; with_reducible refine HA.out _ H1.out.drew.isBelow HLpa.out _ (fun w2 hb2 => ?_); have h2 := H1.out.drew.below hb2; have q := HRD.out _ h2; have s0 := q.p0; have s1 := q.p1; have s2 := q.p2; have t1 := q.x1; have t4 := q.x4; clear q; have H2 := qh h2; clear hb2 h2)
          | (go_at_call 155; with_reducible refine HL.out _ H2.out.isBelow HLpl.out _ (fun w3 hb3 => ?_); have h3 := H2.out.below hb3; have q := HRD.out _ h3; have s0 := q.p0; have s1 := q.p1; have s2 := q.p2; have t1 := q.x1; have t4 := q.x4; clear q; have H3 := qh h3; clear hb3 h3))
 all_goals
   go_wp2_with fail
   exact HR.out _ H3.out.isBelow
theorem rb_get (hP : PB wB nv tv pg) {p : Nat} {a : Ty.Ex} {x : ByteArray} (ha : RxC wB nv tv pg main a) : RbC wB nv tv pg main (.get p a x) := by
 intro n nd lv hd hn hl ind w hb hsz hlen R hR
 rw [Ty.DenE] at hd
 obtain ⟨na, h1, hda⟩ := hd
 rw [hn] at h1
 cases h1
 rw [Ty.szE] at hsz
 have e : Ty.wE pg.ts ind (.get p a x) = Ty.wP pg.ts ind 4 a ++ [46] ++ x.data.toList := by rw [Ty.wE] <;> rfl
 rw [e] at hlen hR
 have HAx := fun (w1 : World) (h : Below w.heap.size w w1) hx => ha na hda 4 ind w1 (hb.trans (h.mono hb.size)) (by omega) (by omega) hx
 simp only [show ((4 : Nat) : Int) = 4 from rfl] at HAx
 have HA := qh HAx
 clear HAx
 have HR := qh hR
 obtain ⟨la, lc, rfl⟩ := owns_slice hl
 obtain ⟨na0, nn0, nc0, rfl⟩ := hP.ndSlice
 obtain ⟨ta, tn, tc, rfl⟩ := hP.tySlice
 generalize Ty.wP pg.ts ind 4 a = pa at *
 simp only [lzA, lzC, lzN] at hlen
 have HLpa : Hid (pa.length ≤ 900000000) := by show _ ≤ _; omega
 obtain ⟨s1, e1, c1⟩ := cat_ex (a := bs pa) (b := ⟨#[46]⟩) (x := pa) (y := [46]) (z := pa ++ [46]) rfl rfl rfl (by simp only [lzA, lzC, lzN]; omega)
 obtain ⟨s2, e2, c2⟩ := cat_ex (a := s1) (b := x) (x := pa ++ [46]) (y := x.data.toList) (z := pa ++ [46] ++ x.data.toList) e1 (bs_of x).symm rfl (by simp only [lzA, lzC, lzN]; omega)
 rw [← e2] at HR
 clear e1 e2
 have h1 := rfIn w (.slice na0 nn0 nc0) (.slice ta tn tc) main { Ty.ndOf 8 p with a := na, text := x } (.slice la 0 lc)
 have HRD := qh (fun (w1 : World) (h : Sat w w1 (RfL w (.slice na0 nn0 nc0) (.slice ta tn tc) main { Ty.ndOf 8 p with a := na, text := x } (.slice la 0 lc))) => rfRd h)
 have H1 := qh h1
 clear hR hlen hn hl hb hsz e h1 hP ha hda
 dsimp only [pgVal, ndVal, Ty.ndOf] at *
 go_enter Tryz.func120, Tryz.ntmps120
 go_wp2_with fail
 go_region_held3 (fun w' => w'.cell? ⟨w.heap.size, 0, none⟩ = some (.slice na0 nn0 nc0) ∧ w'.cell? ⟨w.heap.size, 1, none⟩ = some (.slice ta tn tc) ∧ w'.cell? ⟨w.heap.size, 2, none⟩ = some (.int .i64 main) ∧ w'.cell? ⟨w.heap.size + 1, 1, none⟩ = some (.int .i64 (na : Nat)) ∧ w'.cell? ⟨w.heap.size + 1, 5, none⟩ = some (.string x)) (go_keep)
   (first | (go_at_call 87; with_reducible refine HA.out _ H1.out.drew.isBelow HLpa.out _ (fun w2 hb2 => ?_); have h2 := H1.out.drew.below hb2; have q := HRD.out _ h2; have s0 := q.p0; have s1 := q.p1; have s2 := q.p2; have t1 := q.x1; have t5 := q.x5; clear q; have H2 := qh h2; clear hb2 h2))
 all_goals
   go_wp2_with fail
   exact HR.out _ H2.out.isBelow
theorem rb_at (hP : PB wB nv tv pg) {p : Nat} {a b : Ty.Ex} (ha : RxC wB nv tv pg main a) (hbx : RxC wB nv tv pg main b) : RbC wB nv tv pg main (.at p a b) := by
 intro n nd lv hd hn hl ind w hb hsz hlen R hR
 rw [Ty.DenE] at hd
 obtain ⟨na, nb, h1, hda, hdb⟩ := hd
 rw [hn] at h1
 cases h1
 rw [Ty.szE] at hsz
 have e : Ty.wE pg.ts ind (.at p a b) = Ty.wP pg.ts ind 4 a ++ [91] ++ Ty.wE pg.ts ind b ++ [93] := by rw [Ty.wE] <;> rfl
 rw [e] at hlen hR
 have eb := Ty.wP_zero pg.ts ind b
 rw [← eb] at hlen hR
 have HAx := fun (w1 : World) (h : Below w.heap.size w w1) hx => ha na hda 4 ind w1 (hb.trans (h.mono hb.size)) (by omega) (by omega) hx
 simp only [show ((4 : Nat) : Int) = 4 from rfl] at HAx
 have HA := qh HAx
 clear HAx
 have HBx := fun (w1 : World) (h : Below w.heap.size w w1) hx => hbx nb hdb 0 ind w1 (hb.trans (h.mono hb.size)) (by omega) (by omega) hx
 simp only [show ((0 : Nat) : Int) = 0 from rfl] at HBx
 have HB := qh HBx
 clear HBx
 have HR := qh hR
 obtain ⟨la, lc, rfl⟩ := owns_slice hl
 obtain ⟨na0, nn0, nc0, rfl⟩ := hP.ndSlice
 obtain ⟨ta, tn, tc, rfl⟩ := hP.tySlice
 generalize Ty.wP pg.ts ind 4 a = pa at *
 generalize Ty.wP pg.ts ind 0 b = pb at *
 simp only [lzA, lzC, lzN] at hlen
 have HLpa : Hid (pa.length ≤ 900000000) := by show _ ≤ _; omega
 have HLpb : Hid (pb.length ≤ 900000000) := by show _ ≤ _; omega
 obtain ⟨s1, e1, c1⟩ := cat_ex (a := bs pa) (b := ⟨#[91]⟩) (x := pa) (y := [91]) (z := pa ++ [91]) rfl rfl rfl (by simp only [lzA, lzC, lzN]; omega)
 obtain ⟨s2, e2, c2⟩ := cat_ex (a := s1) (b := bs pb) (x := pa ++ [91]) (y := pb) (z := pa ++ [91] ++ pb) e1 rfl rfl (by simp only [lzA, lzC, lzN]; omega)
 obtain ⟨s3, e3, c3⟩ := cat_ex (a := s2) (b := ⟨#[93]⟩) (x := pa ++ [91] ++ pb) (y := [93]) (z := pa ++ [91] ++ pb ++ [93]) e2 rfl rfl (by simp only [lzA, lzC, lzN]; omega)
 rw [← e3] at HR
 clear e1 e2 e3
 have h1 := rfIn w (.slice na0 nn0 nc0) (.slice ta tn tc) main { Ty.ndOf 9 p with a := na, b := nb } (.slice la 0 lc)
 have HRD := qh (fun (w1 : World) (h : Sat w w1 (RfL w (.slice na0 nn0 nc0) (.slice ta tn tc) main { Ty.ndOf 9 p with a := na, b := nb } (.slice la 0 lc))) => rfRd h)
 have H1 := qh h1
 clear hR hlen hn hl hb hsz e h1 hP ha hbx hda hdb eb
 dsimp only [pgVal, ndVal, Ty.ndOf] at *
 go_enter Tryz.func120, Tryz.ntmps120
 go_wp2_with fail
 go_region_held3 (fun w' => w'.cell? ⟨w.heap.size, 0, none⟩ = some (.slice na0 nn0 nc0) ∧ w'.cell? ⟨w.heap.size, 1, none⟩ = some (.slice ta tn tc) ∧ w'.cell? ⟨w.heap.size, 2, none⟩ = some (.int .i64 main) ∧ w'.cell? ⟨w.heap.size + 1, 1, none⟩ = some (.int .i64 (na : Nat)) ∧ w'.cell? ⟨w.heap.size + 1, 2, none⟩ = some (.int .i64 (nb : Nat))) (go_keep)
   (first | (go_at_call 87; with_reducible refine HA.out _ H1.out.drew.isBelow HLpa.out _ (fun w2 hb2 => ?_); have h2 := H1.out.drew.below hb2; have q := HRD.out _ h2; have s0 := q.p0; have s1 := q.p1; have s2 := q.p2; have t1 := q.x1; have t2 := q.x2; clear q; have H2 := qh h2; clear hb2 h2)
          | (go_at_call 87; with_reducible refine HB.out _ H2.out.isBelow HLpb.out _ (fun w3 hb3 => ?_); have h3 := H2.out.below hb3; have q := HRD.out _ h3; have s0 := q.p0; have s1 := q.p1; have s2 := q.p2; have t1 := q.x1; have t2 := q.x2; clear q; have H3 := qh h3; clear hb3 h3))
 all_goals
   go_wp2_with fail
   exact HR.out _ H3.out.isBelow
theorem rb_arr (hP : PB wB nv tv pg) {p : Nat} {l : List Ty.Ex} (hE : ∀ e ∈ l, RxC wB nv tv pg main e) : RbC wB nv tv pg main (.arr p l) := by
 intro n nd lv hd hn hl ind w hb hsz hlen R hR
 rw [Ty.DenE] at hd
 obtain ⟨nl, h1, hdl⟩ := hd
 rw [hn] at h1
 cases h1
 rw [Ty.szE] at hsz
 have e : Ty.wE pg.ts ind (.arr p l) = [91] ++ Ty.joinL [44, 32] (Ty.wEs pg.ts ind l) ++ [93] := by rw [Ty.wE] <;> rfl
 rw [e] at hlen hR
 have HL := qh (fun (w1 : World) (h : Below w.heap.size w w1) (hx : (Ty.joinL [44, 32] (Ty.wEs pg.ts ind l)).length ≤ 900000000) (R : Ending → World → Prop) => rlist_any (R := R) (ind := ind) hP hE hdl lv hl (hb.trans (h.mono hb.size)) (by omega) hx)
 have HR := qh hR
 obtain ⟨la, lc, rfl⟩ := owns_slice hl
 obtain ⟨na0, nn0, nc0, rfl⟩ := hP.ndSlice
 obtain ⟨ta, tn, tc, rfl⟩ := hP.tySlice
 generalize Ty.joinL [44, 32] (Ty.wEs pg.ts ind l) = pl at *
 simp only [lzA, lzC, lzN] at hlen
 have HLpl : Hid (pl.length ≤ 900000000) := by show _ ≤ _; omega
 obtain ⟨s1, e1, c1⟩ := cat_ex (a := ⟨#[91]⟩) (b := bs pl) (x := [91]) (y := pl) (z := [91] ++ pl) rfl rfl rfl (by simp only [lzA, lzC, lzN]; omega)
 obtain ⟨s2, e2, c2⟩ := cat_ex (a := s1) (b := ⟨#[93]⟩) (x := [91] ++ pl) (y := [93]) (z := [91] ++ pl ++ [93]) e1 rfl rfl (by simp only [lzA, lzC, lzN]; omega)
 rw [← e2] at HR
 clear e1 e2
 have h1 := rfIn w (.slice na0 nn0 nc0) (.slice ta tn tc) main { Ty.ndOf 11 p with list := nl } (.slice la nl.length lc)
 have HRD := qh (fun (w1 : World) (h : Sat w w1 (RfL w (.slice na0 nn0 nc0) (.slice ta tn tc) main { Ty.ndOf 11 p with list := nl } (.slice la nl.length lc))) => rfRd h)
 have H1 := qh h1
 clear hR hlen hn hl hb hsz e h1 hP hE hdl
 dsimp only [pgVal, ndVal, Ty.ndOf] at *
 go_enter Tryz.func120, Tryz.ntmps120
 go_wp2_with fail
 refine HL.out _ H1.out.isBelow HLpl.out _ (fun w2 hb2 => ?_)
 have H2 := qh (H1.out.below hb2)
 clear hb2
 go_wp2_with fail
 exact HR.out _ H2.out.isBelow
theorem rb_two (hP : PB wB nv tv pg) {p : Nat} {x : ByteArray} {a b : Ty.Ex} (ha : RxC wB nv tv pg main a) (hbx : RxC wB nv tv pg main b) : RbC wB nv tv pg main (.two p x a b) := by
 intro n nd lv hd hn hl ind w hb hsz hlen R hR
 rw [Ty.DenE] at hd
 obtain ⟨na, nb, h1, hda, hdb⟩ := hd
 rw [hn] at h1
 cases h1
 rw [Ty.szE] at hsz
 have e : Ty.wE pg.ts ind (.two p x a b) = Ty.wP pg.ts ind (max (Ty.signLv x) 1) a ++ [32] ++ x.data.toList ++ [32] ++ Ty.wP pg.ts ind (Ty.signLv x + 1) b := by rw [Ty.wE] <;> rfl
 rw [e] at hlen hR
 have hsg := signLv_cases x
 have HA := qh (fun (w1 : World) (h : Below w.heap.size w w1) hx => ha na hda (max (Ty.signLv x) 1) ind w1 (hb.trans (h.mono hb.size)) (by omega) (by omega) hx)
 have HB := qh (fun (w1 : World) (h : Below w.heap.size w w1) hx => hbx nb hdb (Ty.signLv x + 1) ind w1 (hb.trans (h.mono hb.size)) (by omega) (by omega) hx)
 have HR := qh hR
 obtain ⟨la, lc, rfl⟩ := owns_slice hl
 obtain ⟨na0, nn0, nc0, rfl⟩ := hP.ndSlice
 obtain ⟨ta, tn, tc, rfl⟩ := hP.tySlice
 generalize Ty.wP pg.ts ind (max (Ty.signLv x) 1) a = pa at *
 generalize Ty.wP pg.ts ind (Ty.signLv x + 1) b = pb at *
 simp only [lzA, lzC, lzN] at hlen
 have HLpa : Hid (pa.length ≤ 900000000) := by show _ ≤ _; omega
 have HLpb : Hid (pb.length ≤ 900000000) := by show _ ≤ _; omega
 obtain ⟨s1, e1, c1⟩ := cat_ex (a := bs pa) (b := ⟨#[32]⟩) (x := pa) (y := [32]) (z := pa ++ [32]) rfl rfl rfl (by simp only [lzA, lzC, lzN]; omega)
 obtain ⟨s2, e2, c2⟩ := cat_ex (a := s1) (b := x) (x := pa ++ [32]) (y := x.data.toList) (z := pa ++ [32] ++ x.data.toList) e1 (bs_of x).symm rfl (by simp only [lzA, lzC, lzN]; omega)
 obtain ⟨s3, e3, c3⟩ := cat_ex (a := s2) (b := ⟨#[32]⟩) (x := pa ++ [32] ++ x.data.toList) (y := [32]) (z := pa ++ [32] ++ x.data.toList ++ [32]) e2 rfl rfl (by simp only [lzA, lzC, lzN]; omega)
 obtain ⟨s4, e4, c4⟩ := cat_ex (a := s3) (b := bs pb) (x := pa ++ [32] ++ x.data.toList ++ [32]) (y := pb) (z := pa ++ [32] ++ x.data.toList ++ [32] ++ pb) e3 rfl rfl (by simp only [lzA, lzC, lzN]; omega)
 rw [← e4] at HR
 clear e1 e2 e3 e4
 have h1 := rfIn w (.slice na0 nn0 nc0) (.slice ta tn tc) main { Ty.ndOf 12 p with text := x, a := na, b := nb } (.slice la 0 lc)
 have HRD := qh (fun (w1 : World) (h : Sat w w1 (RfL w (.slice na0 nn0 nc0) (.slice ta tn tc) main { Ty.ndOf 12 p with text := x, a := na, b := nb } (.slice la 0 lc))) => rfRd h)
 have H1 := qh h1
 clear hR hlen hn hl hb hsz e h1 hP ha hbx hda hdb
 dsimp only [pgVal, ndVal, Ty.ndOf] at *
 go_enter Tryz.func120, Tryz.ntmps120
 go_wp2_with fail
 refine level_is _ { Ty.ndOf 12 p with text := x, a := na, b := nb } (.slice la 0 lc) ⟨_, _, _, rfl⟩ (Ty.signLv x) rfl (fun w9 hb9 => ?_)
 have h9 := H1.out.below hb9
 have q := HRD.out _ h9
 have r0 := q.p0
 have r1 := q.p1
 have r2 := q.p2
 have u1 := q.x1
 have u2 := q.x2
 have u5 := q.x5
 have H9 := qh h9
 clear hb9 h9 q
 generalize Ty.signLv x = sg at *
 rcases hsg with rfl | rfl | rfl
 · have HAx := HA.out
   have HBx := HB.out
   simp only [show ((max 0 1 : Nat) : Int) = 1 from rfl] at HAx
   simp only [show ((0 + 1 : Nat) : Int) = 1 from rfl] at HBx
   have HA2 := qh HAx
   have HB2 := qh HBx
   clear HAx HBx HA HB
   have hwr : IntKind.i64.wrap (1 : Int) = 1 := by decide
   go_wp2_with fail
   go_region_held3 (fun w' => w'.cell? ⟨w.heap.size, 0, none⟩ = some (.slice na0 nn0 nc0) ∧ w'.cell? ⟨w.heap.size, 1, none⟩ = some (.slice ta tn tc) ∧ w'.cell? ⟨w.heap.size, 2, none⟩ = some (.int .i64 main) ∧ w'.cell? ⟨w.heap.size + 1, 1, none⟩ = some (.int .i64 (na : Nat)) ∧ w'.cell? ⟨w.heap.size + 1, 2, none⟩ = some (.int .i64 (nb : Nat)) ∧ w'.cell? ⟨w.heap.size + 1, 5, none⟩ = some (.string x)) (go_keep)
     (first | (go_at_call 87; with_reducible refine HA2.out _ H9.out.drew.isBelow HLpa.out _ (fun w2 hb2 => ?_); have h2 := H9.out.drew.below hb2; have q := HRD.out _ h2; have s0 := q.p0; have s1 := q.p1; have s2 := q.p2; have t1 := q.x1; have t2 := q.x2; have t5 := q.x5; clear q; have H2 := qh h2; clear hb2 h2)
            | (go_at_call 87; with_reducible refine HB2.out _ H2.out.isBelow HLpb.out _ (fun w3 hb3 => ?_); have h3 := H2.out.below hb3; have q := HRD.out _ h3; have s0 := q.p0; have s1 := q.p1; have s2 := q.p2; have t1 := q.x1; have t2 := q.x2; have t5 := q.x5; clear q; have H3 := qh h3; clear hb3 h3))
   all_goals
     go_wp2_with fail
     exact HR.out _ H3.out.isBelow
 · have HAx := HA.out
   have HBx := HB.out
   simp only [show ((max 1 1 : Nat) : Int) = 1 from rfl] at HAx
   simp only [show ((1 + 1 : Nat) : Int) = 2 from rfl] at HBx
   have HA2 := qh HAx
   have HB2 := qh HBx
   clear HAx HBx HA HB
   have hwr : IntKind.i64.wrap (2 : Int) = 2 := by decide
   go_wp2_with fail
   go_region_held3 (fun w' => w'.cell? ⟨w.heap.size, 0, none⟩ = some (.slice na0 nn0 nc0) ∧ w'.cell? ⟨w.heap.size, 1, none⟩ = some (.slice ta tn tc) ∧ w'.cell? ⟨w.heap.size, 2, none⟩ = some (.int .i64 main) ∧ w'.cell? ⟨w.heap.size + 1, 1, none⟩ = some (.int .i64 (na : Nat)) ∧ w'.cell? ⟨w.heap.size + 1, 2, none⟩ = some (.int .i64 (nb : Nat)) ∧ w'.cell? ⟨w.heap.size + 1, 5, none⟩ = some (.string x)) (go_keep)
     (first | (go_at_call 87; with_reducible refine HA2.out _ H9.out.drew.isBelow HLpa.out _ (fun w2 hb2 => ?_); have h2 := H9.out.drew.below hb2; have q := HRD.out _ h2; have s0 := q.p0; have s1 := q.p1; have s2 := q.p2; have t1 := q.x1; have t2 := q.x2; have t5 := q.x5; clear q; have H2 := qh h2; clear hb2 h2)
            | (go_at_call 87; with_reducible refine HB2.out _ H2.out.isBelow HLpb.out _ (fun w3 hb3 => ?_); have h3 := H2.out.below hb3; have q := HRD.out _ h3; have s0 := q.p0; have s1 := q.p1; have s2 := q.p2; have t1 := q.x1; have t2 := q.x2; have t5 := q.x5; clear q; have H3 := qh h3; clear hb3 h3))
   all_goals
     go_wp2_with fail
     exact HR.out _ H3.out.isBelow
 · have HAx := HA.out
   have HBx := HB.out
   simp only [show ((max 2 1 : Nat) : Int) = 2 from rfl] at HAx
   simp only [show ((2 + 1 : Nat) : Int) = 3 from rfl] at HBx
   have HA2 := qh HAx
   have HB2 := qh HBx
   clear HAx HBx HA HB
   have hwr : IntKind.i64.wrap (3 : Int) = 3 := by decide
   go_wp2_with fail
   go_region_held3 (fun w' => w'.cell? ⟨w.heap.size, 0, none⟩ = some (.slice na0 nn0 nc0) ∧ w'.cell? ⟨w.heap.size, 1, none⟩ = some (.slice ta tn tc) ∧ w'.cell? ⟨w.heap.size, 2, none⟩ = some (.int .i64 main) ∧ w'.cell? ⟨w.heap.size + 1, 1, none⟩ = some (.int .i64 (na : Nat)) ∧ w'.cell? ⟨w.heap.size + 1, 2, none⟩ = some (.int .i64 (nb : Nat)) ∧ w'.cell? ⟨w.heap.size + 1, 5, none⟩ = some (.string x)) (go_keep)
     (first | (go_at_call 87; with_reducible refine HA2.out _ H9.out.drew.isBelow HLpa.out _ (fun w2 hb2 => ?_); have h2 := H9.out.drew.below hb2; have q := HRD.out _ h2; have s0 := q.p0; have s1 := q.p1; have s2 := q.p2; have t1 := q.x1; have t2 := q.x2; have t5 := q.x5; clear q; have H2 := qh h2; clear hb2 h2)
            | (go_at_call 87; with_reducible refine HB2.out _ H2.out.isBelow HLpb.out _ (fun w3 hb3 => ?_); have h3 := H2.out.below hb3; have q := HRD.out _ h3; have s0 := q.p0; have s1 := q.p1; have s2 := q.p2; have t1 := q.x1; have t2 := q.x2; have t5 := q.x5; clear q; have H3 := qh h3; clear hb3 h3))
   all_goals
     go_wp2_with fail
     exact HR.out _ H3.out.isBelow
theorem rb_one (hP : PB wB nv tv pg) {p : Nat} {x : ByteArray} {a : Ty.Ex} (ha : RxC wB nv tv pg main a) : RbC wB nv tv pg main (.one p x a) := by
 intro n nd lv hd hn hl ind w hb hsz hlen R hR
 rw [Ty.DenE] at hd
 obtain ⟨na, h1, hda⟩ := hd
 rw [hn] at h1
 cases h1
 rw [Ty.szE] at hsz
 have e : Ty.wE pg.ts ind (.one p x a) = x.data.toList ++ (if x.data.toList = Ty.typeofS then [32] else []) ++ Ty.wP pg.ts ind 3 a := by rw [Ty.wE] <;> rfl
 rw [e] at hlen hR
 have HAx := fun (w1 : World) (h : Below w.heap.size w w1) hx => ha na hda 3 ind w1 (hb.trans (h.mono hb.size)) (by omega) (by omega) hx
 simp only [show ((3 : Nat) : Int) = 3 from rfl] at HAx
 have HA := qh HAx
 clear HAx
 have hc : (x.toList == [116, 121, 112, 101, 111, 102]) = true ∧ x.data.toList = Ty.typeofS ∨ (x.toList == [116, 121, 112, 101, 111, 102]) = false ∧ ¬ x.data.toList = Ty.typeofS := by
   rw [Lib.toList_data]
   by_cases h : x.data.toList = Ty.typeofS
   · left; exact ⟨by rw [h]; rfl, h⟩
   · right; exact ⟨beq_eq_false_iff_ne.2 h, h⟩
 have HR := qh hR
 have hxs : x.size ≤ 30 := (hP.ok.ns _ (List.mem_of_getElem? hn)).size
 obtain ⟨la, lc, rfl⟩ := owns_slice hl
 obtain ⟨na0, nn0, nc0, rfl⟩ := hP.ndSlice
 obtain ⟨ta, tn, tc, rfl⟩ := hP.tySlice
 generalize Ty.wP pg.ts ind 3 a = pa at *
 simp only [List.length_append] at hlen
 have HLpa : Hid (pa.length ≤ 900000000) := by show _ ≤ _; omega
 have HLx : Hid (x.data.toList.length ≤ 100) := by show _ ≤ _; simp; omega
 have h1 := rfIn w (.slice na0 nn0 nc0) (.slice ta tn tc) main { Ty.ndOf 13 p with text := x, a := na } (.slice la 0 lc)
 have HRD := qh (fun (w1 : World) (h : Sat w w1 (RfL w (.slice na0 nn0 nc0) (.slice ta tn tc) main { Ty.ndOf 13 p with text := x, a := na } (.slice la 0 lc))) => rfRd h)
 have H1 := qh h1
 clear hR hlen hn hl hb hsz e h1 hP ha hda
 dsimp only [pgVal, ndVal, Ty.ndOf] at *
 rcases hc with ⟨k1, hk⟩ | ⟨k1, hk⟩
 · rw [if_pos hk, hk] at HR
   rw [show Ty.typeofS ++ [32] ++ pa = [116, 121, 112, 101, 111, 102, 32] ++ pa from rfl] at HR
   have hp := HLpa.out
   obtain ⟨s1, e1, c1⟩ := cat_ex (a := ⟨#[116, 121, 112, 101, 111, 102, 32]⟩) (b := bs pa) (x := [116, 121, 112, 101, 111, 102, 32]) (z := [116, 121, 112, 101, 111, 102, 32] ++ pa) rfl rfl rfl (by simp only [lzA, lzC, lzN]; omega)
   rw [← e1] at HR
   clear e1 hk hp
   go_enter Tryz.func120, Tryz.ntmps120
   go_wp2_with fail
   refine HA.out _ H1.out.isBelow HLpa.out _ (fun w2 hb2 => ?_)
   have H2 := qh (H1.out.below hb2)
   clear hb2
   go_wp2_with fail
   exact HR.out _ H2.out.isBelow
 · rw [if_neg hk, List.append_nil] at HR
   have hp := HLpa.out
   have hx := HLx.out
   obtain ⟨s1, e1, c1⟩ := cat_ex (a := x) (b := bs pa) (x := x.data.toList) (z := x.data.toList ++ pa) (bs_of x).symm rfl rfl (by simp only [List.length_append]; omega)
   rw [← e1] at HR
   clear e1 hk hp hx
   go_enter Tryz.func120, Tryz.ntmps120
   go_wp2_with fail
   go_region_held3 (fun w' => w'.cell? ⟨w.heap.size, 0, none⟩ = some (.slice na0 nn0 nc0) ∧ w'.cell? ⟨w.heap.size, 1, none⟩ = some (.slice ta tn tc) ∧ w'.cell? ⟨w.heap.size, 2, none⟩ = some (.int .i64 main) ∧ w'.cell? ⟨w.heap.size + 1, 1, none⟩ = some (.int .i64 (na : Nat)) ∧ w'.cell? ⟨w.heap.size + 1, 5, none⟩ = some (.string x)) (go_keep)
     (first | (go_at_call 87; with_reducible refine HA.out _ H1.out.drew.isBelow HLpa.out _ (fun w2 hb2 => ?_); have h2 := H1.out.drew.below hb2; have q := HRD.out _ h2; have s0 := q.p0; have s1 := q.p1; have s2 := q.p2; have t1 := q.x1; have t5 := q.x5; clear q; have H2 := qh h2; clear hb2 h2))
   all_goals
     go_wp2_with fail
     exact HR.out _ H2.out.isBelow
theorem rb_as (hP : PB wB nv tv pg) {p : Nat} {a : Ty.Ex} {ty : Int} (ha : RxC wB nv tv pg main a) : RbC wB nv tv pg main (.as p a ty) := by
 intro n nd lv hd hn hl ind w hb hsz hlen R hR
 rw [Ty.DenE] at hd
 obtain ⟨na, h1, hda⟩ := hd
 rw [hn] at h1
 cases h1
 obtain ⟨m, rfl, hm⟩ : ∃ m : Nat, ty = (m : Int) ∧ Ty.TyIn m pg.ts := by
   have hok := hP.ok.ns _ (List.mem_of_getElem? hn)
   rcases hok.ty with h | h
   · have := hok.asTy rfl; omega
   · exact h
 rw [Ty.szE] at hsz
 have e : Ty.wE pg.ts ind (.as p a (m : Int)) = Ty.wP pg.ts ind 4 a ++ [32, 97, 115, 32] ++ Ty.text (Ty.den pg.ts ((m : Int)).toNat) := by rw [Ty.wE] <;> rfl
 rw [e] at hlen hR
 rw [show ((m : Int)).toNat = m by omega] at hlen hR
 have HAx := fun (w1 : World) (h : Below w.heap.size w w1) hx => ha na hda 4 ind w1 (hb.trans (h.mono hb.size)) (by omega) (by omega) hx
 simp only [show ((4 : Nat) : Int) = 4 from rfl] at HAx
 have HA := qh HAx
 clear HAx
 have HT := qh (fun (w1 : World) (h : Below w.heap.size w w1) => (hP.wtext hm).1 w1 (hb.trans (h.mono hb.size)))
 have HR := qh hR
 obtain ⟨la, lc, rfl⟩ := owns_slice hl
 obtain ⟨na0, nn0, nc0, rfl⟩ := hP.ndSlice
 obtain ⟨ta, tn, tc, rfl⟩ := hP.tySlice
 generalize Ty.wP pg.ts ind 4 a = pa at *
 generalize Ty.text (Ty.den pg.ts m) = pt at *
 simp only [lzA, lzC, lzN] at hlen
 have HLpa : Hid (pa.length ≤ 900000000) := by show _ ≤ _; omega
 obtain ⟨s1, e1, c1⟩ := cat_ex (a := bs pa) (b := ⟨#[32, 97, 115, 32]⟩) (x := pa) (y := [32, 97, 115, 32]) (z := pa ++ [32, 97, 115, 32]) rfl rfl rfl (by simp only [lzA, lzC, lzN]; omega)
 obtain ⟨s2, e2, c2⟩ := cat_ex (a := s1) (b := bs pt) (x := pa ++ [32, 97, 115, 32]) (y := pt) (z := pa ++ [32, 97, 115, 32] ++ pt) e1 rfl rfl (by simp only [lzA, lzC, lzN]; omega)
 rw [← e2] at HR
 clear e1 e2
 have h1 := rfIn w (.slice na0 nn0 nc0) (.slice ta tn tc) main { Ty.ndOf 14 p with a := na, ty := (m : Int) } (.slice la 0 lc)
 have HRD := qh (fun (w1 : World) (h : Sat w w1 (RfL w (.slice na0 nn0 nc0) (.slice ta tn tc) main { Ty.ndOf 14 p with a := na, ty := (m : Int) } (.slice la 0 lc))) => rfRd h)
 have H1 := qh h1
 clear hR hlen hn hl hb hsz e h1 hP ha hda hm
 dsimp only [pgVal, ndVal, Ty.ndOf] at *
 go_enter Tryz.func120, Tryz.ntmps120
 go_wp2_with fail
 go_region_held3 (fun w' => w'.cell? ⟨w.heap.size, 0, none⟩ = some (.slice na0 nn0 nc0) ∧ w'.cell? ⟨w.heap.size, 1, none⟩ = some (.slice ta tn tc) ∧ w'.cell? ⟨w.heap.size, 2, none⟩ = some (.int .i64 main) ∧ w'.cell? ⟨w.heap.size + 1, 1, none⟩ = some (.int .i64 (na : Nat)) ∧ w'.cell? ⟨w.heap.size + 1, 7, none⟩ = some (.int .i64 (m : Nat))) (go_keep)
   (first | (go_at_call 87; with_reducible refine HA.out _ H1.out.drew.isBelow HLpa.out _ (fun w2 hb2 => ?_); have h2 := H1.out.drew.below hb2; have q := HRD.out _ h2; have s0 := q.p0; have s1 := q.p1; have s2 := q.p2; have t1 := q.x1; have t7 := q.x7; clear q; have H2 := qh h2; clear hb2 h2)
          | (go_at_call 22; with_reducible refine HT.out _ H2.out.isBelow _ (fun w3 hb3 => ?_); have h3 := H2.out.below hb3; have q := HRD.out _ h3; have s0 := q.p0; have s1 := q.p1; have s2 := q.p2; have t1 := q.x1; have t7 := q.x7; clear q; have H3 := qh h3; clear hb3 h3))
 all_goals
   go_wp2_with fail
   exact HR.out _ H3.out.isBelow
end
end
end Go.Proofs.YtdlbhiaceheffaaGreatDoor
