/- Walk of the parser's simple. -/
import Derived.Lib.SmallJoins
import Derived.Test.YtdlbhiaceheffabGreatDoorY25
import Derived.Test.YtdlbhiaceheffabGreatDoorY05
set_option linter.all false
set_option maxRecDepth 100000
set_option maxHeartbeats 8000000
namespace Go.Proofs.YtdlbhiaceheffabGreatDoor
section
open Go Go.RowKit
open Prt (Sat As blk pur exs star ah)
namespace Ty
def smI (af : List Tok.Tk) (E : M Nat) : M Nat := bnd (need af [40]) fun _ => bnd E fun a => bnd (need af [41]) fun _ => ret a
def smH (af : List Tok.Tk) (E : M Nat) (tp : Nat) : M Nat := bnd (list af [125] (fun l => partM af E (l.map Prod.fst)) (af.length + 1) []) fun l => addNode { ndOf 10 tp with list := l.map Prod.snd }
def smG (af : List Tok.Tk) (E : M Nat) (tp : Nat) : M Nat := bnd (list af [93] (fun _ => E) (af.length + 1) []) fun l => addNode { ndOf 11 tp with list := l }
def smT (af : List Tok.Tk) (T E S : M Nat) (tp : Nat) : M Nat :=
 bnd (take af [116, 114, 117, 101]) fun b => if b then addNode { ndOf 3 tp with n := 1 } else
 bnd (take af [102, 97, 108, 115, 101]) fun b => if b then addNode (ndOf 3 tp) else
 bnd (take af [110, 117, 108, 108]) fun b => if b then addNode (ndOf 4 tp) else
 bnd (take af [102, 110]) fun b => if b then functionM af T S tp else
 bnd (take af [91]) fun b => if b then smG af E tp else
 bnd (take af [123]) fun b => if b then smH af E tp else smI af E
def smM (af : List Tok.Tk) (T E S : M Nat) (kd : Nat) (tx : ByteArray) (tp : Nat) : M Nat :=
 if kd = 3 then bnd step fun _ => addNode { ndOf 1 tp with n := value tx } else
 if kd = 4 then bnd step fun _ => addNode { ndOf 2 tp with text := tx } else
 if kd = 1 then bnd step fun _ => addNode { ndOf 5 tp with text := tx } else smT af T E S tp
theorem kX (af : List Tok.Tk) (T E S : M Nat) (st : St) : simpleM af T E S st = smM af T E S (cur af st.pos).kind (cur af st.pos).text (cur af st.pos).pos st := rfl
section
variable {af : List Tok.Tk} {T E S : M Nat} {tp : Nat} {s s1 : St}
theorem EN  (h : take af [116, 114, 117, 101] s = .ok (true, s1)) : smT af T E S tp s = addNode { ndOf 3 tp with n := 1 } s1 := by
 unfold smT; show bnd _ _ s = _; rw [bnd_ok h]; rfl
theorem Ey (h0 : take af [116, 114, 117, 101] s = .ok (false, s)) (h : take af [102, 97, 108, 115, 101] s = .ok (true, s1)) : smT af T E S tp s = addNode (ndOf 3 tp) s1 := by
 unfold smT; show bnd _ _ s = _; rw [bnd_ok h0]; show bnd _ _ s = _; rw [bnd_ok h]; rfl
theorem EO (h0 : take af [116, 114, 117, 101] s = .ok (false, s)) (h1 : take af [102, 97, 108, 115, 101] s = .ok (false, s)) (h : take af [110, 117, 108, 108] s = .ok (true, s1)) : smT af T E S tp s = addNode (ndOf 4 tp) s1 := by
 unfold smT; show bnd _ _ s = _; rw [bnd_ok h0]; show bnd _ _ s = _; rw [bnd_ok h1]; show bnd _ _ s = _; rw [bnd_ok h]; rfl
theorem Ep (h0 : take af [116, 114, 117, 101] s = .ok (false, s)) (h1 : take af [102, 97, 108, 115, 101] s = .ok (false, s)) (h2 : take af [110, 117, 108, 108] s = .ok (false, s)) (h : take af [102, 110] s = .ok (true, s1)) : smT af T E S tp s = functionM af T S tp s1 := by
 unfold smT; show bnd _ _ s = _; rw [bnd_ok h0]; show bnd _ _ s = _; rw [bnd_ok h1]; show bnd _ _ s = _; rw [bnd_ok h2]; show bnd _ _ s = _; rw [bnd_ok h]; rfl
theorem EI (h0 : take af [116, 114, 117, 101] s = .ok (false, s)) (h1 : take af [102, 97, 108, 115, 101] s = .ok (false, s)) (h2 : take af [110, 117, 108, 108] s = .ok (false, s)) (h3 : take af [102, 110] s = .ok (false, s)) (h : take af [91] s = .ok (true, s1)) : smT af T E S tp s = smG af E tp s1 := by
 unfold smT; show bnd _ _ s = _; rw [bnd_ok h0]; show bnd _ _ s = _; rw [bnd_ok h1]; show bnd _ _ s = _; rw [bnd_ok h2]; show bnd _ _ s = _; rw [bnd_ok h3]; show bnd _ _ s = _; rw [bnd_ok h]; rfl
theorem Ew (h0 : take af [116, 114, 117, 101] s = .ok (false, s)) (h1 : take af [102, 97, 108, 115, 101] s = .ok (false, s)) (h2 : take af [110, 117, 108, 108] s = .ok (false, s)) (h3 : take af [102, 110] s = .ok (false, s)) (h4 : take af [91] s = .ok (false, s)) (h : take af [123] s = .ok (true, s1)) : smT af T E S tp s = smH af E tp s1 := by
 unfold smT; show bnd _ _ s = _; rw [bnd_ok h0]; show bnd _ _ s = _; rw [bnd_ok h1]; show bnd _ _ s = _; rw [bnd_ok h2]; show bnd _ _ s = _; rw [bnd_ok h3]; show bnd _ _ s = _; rw [bnd_ok h4]; show bnd _ _ s = _; rw [bnd_ok h]; rfl
theorem ED (h0 : take af [116, 114, 117, 101] s = .ok (false, s)) (h1 : take af [102, 97, 108, 115, 101] s = .ok (false, s)) (h2 : take af [110, 117, 108, 108] s = .ok (false, s)) (h3 : take af [102, 110] s = .ok (false, s)) (h4 : take af [91] s = .ok (false, s)) (h5 : take af [123] s = .ok (false, s)) : smT af T E S tp s = smI af E s := by
 unfold smT; show bnd _ _ s = _; rw [bnd_ok h0]; show bnd _ _ s = _; rw [bnd_ok h1]; show bnd _ _ s = _; rw [bnd_ok h2]; show bnd _ _ s = _; rw [bnd_ok h3]; show bnd _ _ s = _; rw [bnd_ok h4]; show bnd _ _ s = _; rw [bnd_ok h5]; rfl
end
end Ty
theorem jS {kd : Nat} (h3 : kd ≠ 3) (h4 : kd ≠ 4) (h1 : kd ≠ 1) (af : List Tok.Tk) (T E S : Ty.M Nat) (tx : ByteArray) (tp : Nat) : Ty.smM af T E S kd tx tp = Ty.smT af T E S tp := by
 unfold Ty.smM; rw [if_neg h3, if_neg h4, if_neg h1]
theorem uB {af : List Tok.Tk} {d : Nat} {T E O S : Ty.M Nat} (L : Lo af d T E O S) (hnum : Ty.Nums af) : cO 336 af d (Ty.simpleM af T E S) := by
 intro w0 w Fr pb st H R hok hbad
 have HOK := qh hok
 have HBAD := qh hbad
 have HL := qh L
 have hlk := H.look
 have htl := hlk.wf.1
 have hpos := hlk.fits.1
 have hfit := hlk.fits.2.2.2
 have hlt := fun h1 : (Ty.cur af st.pos).kind ≠ 6 => dI hlk.fits.1 hlk.wf h1
 have hnm := hnum (Ty.cur af st.pos) (by rw [lq af _ hpos]; exact List.getElem_mem _)
 have h1 : Sat w0 _ [Fr, aC pb d af st, xbA pb w.heap.size] := H.aj (.cells #[.pointer (some ⟨pb, 0, none⟩)] 80) w.heap.size
 have H1 := qh h1
 have HN := qh (fun R hR => @dU _ pb d af st (h1.pick [0, 1]).look R hR)
 have HSM := qh (Ty.kX af T E S st)
 generalize Ty.cur af st.pos = t at *
 obtain ⟨kd, tx, tp⟩ := t
 dsimp only at hlt hnm HSM
 clear hok hbad H L hlk h1 hnum
 go_enter Tryz.func336, Tryz.ntmps336
 go_wp2_with fail
 refine HN.out _ (fun w1 hb1 => ?_)
 dsimp only [aQ]
 have h2 := (H1.out.below hb1).aj (.cells #[.int .i64 kd, .string tx, .int .i64 tp] 138) w1.heap.size
 have x2 := h2.cell 3 rfl 2 rfl
 have H2 := qh h2
 clear hb1 h2
 go_wp2_with fail
 refine gp _ 0 tp (fun w2 hb2 => ?_)
 have h2b := H2.out.below hb2
 have xw := h2b.cell 2 rfl 0 rfl
 have tw1 := h2b.cell 3 rfl 1 rfl
 have htb := h2b.lt 3 rfl
 have hxb := h2b.lt 2 rfl
 have HW := qh h2b
 have h3 := h2b.aj (.cells #[.int .i64 0, .int .i64 0, .int .i64 0, .int .i64 0, .slice none 0 0, .string ⟨#[]⟩, .int .i64 0, .int .i64 (-1), .int .i64 tp] 66) w2.heap.size
 have t0 := h3.cell 3 rfl 0 rfl
 have t1 := h3.cell 3 rfl 1 rfl
 have xx := h3.cell 2 rfl 0 rfl
 have fz := h3.free 4 rfl
 have hz := h3.lt 4 rfl
 have hxt := h3.ne 2 3 (by decide) rfl rfl
 have hxn := h3.ne 2 4 (by decide) rfl rfl
 have htn := h3.ne 3 4 (by decide) rfl rfl
 have H3 := qh h3
 clear hb2 h2b h3 x2
 by_cases hk3 : kd = 3
 · subst hk3
   have hlt1 := hlt (by decide)
   have hn := hnm rfl
   have hsz : tx.size ≤ 18 := by have := hn.size; omega
   have HAT := qh (fun w => Tryz.strconv_Atoi tx (Ty.value tx : Nat) hsz (Ty.atoi_value hn) w)
   have HE : Hid (Ty.simpleM af T E S st = .ok (st.ns.length, { st with pos := st.pos + 1, ns := st.ns ++ [{ Ty.ndOf 1 tp with n := Ty.value tx }] })) := HSM.out
   have h4 := HW.out.aj (.cells #[.int .i64 1, .int .i64 0, .int .i64 0, .int .i64 0, .slice none 0 0, .string ⟨#[]⟩, .int .i64 0, .int .i64 (-1), .int .i64 tp] 66) w2.heap.size
   have t1' := h4.cell 3 rfl 1 rfl
   generalize Ty.value tx = vl at *
   have H4 := qh h4
   clear hlt hnm hn h4 hsz
   go_wp2_with fail
   refine (HAT.out _).mono ?_
   rintro e w3 ⟨rfl, tt, hw3⟩
   have h5 := H4.out.below (w' := w3) (by rw [hw3]; exact Joins.below_bytesWorld _ _ _ _ (Nat.le_refl _))
   clear hw3
   have y6 := h5.cell 4 rfl 6 rfl
   have fz5 := h5.free 4 rfl
   have hz5 := h5.lt 4 rfl
   have h6 := h5.store 4 rfl 6 (.int .i64 (vl : Nat))
   have xx6 := h6.cell 2 rfl 0 rfl
   obtain ⟨c1, _, f0⟩ := (h6.pick [0, 1]).look.cells
   have hpb := (h6.pick [0, 1]).look.lt
   have h7 := ((h6.at 1 rfl).setPos (st.pos + 1) hlt1 (by omega)).un5
   rw [show ((st.pos + 1 : Nat) : Int) = (st.pos : Int) + 1 from rfl] at h7
   have xx7 := h7.cell 2 rfl 0 rfl
   have q0 := h7.cell 4 rfl 0 rfl
   have q1 := h7.cell 4 rfl 1 rfl
   have q2 := h7.cell 4 rfl 2 rfl
   have q3 := h7.cell 4 rfl 3 rfl
   have q4 := h7.cell 4 rfl 4 rfl
   have q5 := h7.cell 4 rfl 5 rfl
   have q6 := h7.cell 4 rfl 6 rfl
   have q7 := h7.cell 4 rfl 7 rfl
   have q8 := h7.cell 4 rfl 8 rfl
   have H7 := qh (h7.nil 3 1)
   clear h5 h6 h7 t0 t1 t1' xx fz hz
   go_wp2_with fail
   refine aO { Ty.ndOf 1 tp with n := vl } (.slice none 0 0) H7.out.gz (by dsimp only; omega) (fun w7 h8 => ?_)
   have H8 := qh ((h8.unpack (i := 0) rfl).pick [1, 0])
   clear h8
   go_wp2_with fail
   exact HOK.out _ _ _ HE.out H8.out
 by_cases hk4 : kd = 4
 · subst hk4
   have hlt1 := hlt (by decide)
   have HE : Hid (Ty.simpleM af T E S st = .ok (st.ns.length, { st with pos := st.pos + 1, ns := st.ns ++ [{ Ty.ndOf 2 tp with text := tx }] })) := HSM.out
   clear hlt hnm
   go_wp2_with fail
   go_region
   all_goals
     have h5 := HW.out.aj (.cells #[.int .i64 2, .int .i64 0, .int .i64 0, .int .i64 0, .slice none 0 0, .string tx, .int .i64 0, .int .i64 (-1), .int .i64 tp] 66) w2.heap.size
     have h6 := h5
     have xx6 := h6.cell 2 rfl 0 rfl
     obtain ⟨c1, _, f0⟩ := (h6.pick [0, 1]).look.cells
     have hpb := (h6.pick [0, 1]).look.lt
     have h7 := ((h6.at 1 rfl).setPos (st.pos + 1) hlt1 (by omega)).un5
     rw [show ((st.pos + 1 : Nat) : Int) = (st.pos : Int) + 1 from rfl] at h7
     have xx7 := h7.cell 2 rfl 0 rfl
     have q0 := h7.cell 4 rfl 0 rfl
     have q1 := h7.cell 4 rfl 1 rfl
     have q2 := h7.cell 4 rfl 2 rfl
     have q3 := h7.cell 4 rfl 3 rfl
     have q4 := h7.cell 4 rfl 4 rfl
     have q5 := h7.cell 4 rfl 5 rfl
     have q6 := h7.cell 4 rfl 6 rfl
     have q7 := h7.cell 4 rfl 7 rfl
     have q8 := h7.cell 4 rfl 8 rfl
     have H7 := qh (h7.drew.nil 3 1)
     clear h5 h6 h7 t0 t1 xx fz hz
     go_wp2_with fail
     refine aO { Ty.ndOf 2 tp with text := tx } (.slice none 0 0) H7.out.gz (by dsimp only; omega) (fun w7 h8 => ?_)
     have H8 := qh ((h8.unpack (i := 0) rfl).pick [1, 0])
     clear h8
     go_wp2_with fail
     exact HOK.out _ _ _ HE.out H8.out
 by_cases hk1 : kd = 1
 · subst hk1
   have hlt1 := hlt (by decide)
   have HE : Hid (Ty.simpleM af T E S st = .ok (st.ns.length, { st with pos := st.pos + 1, ns := st.ns ++ [{ Ty.ndOf 5 tp with text := tx }] })) := HSM.out
   clear hlt hnm
   go_wp2_with fail
   go_region
   all_goals
     have h5 := HW.out.aj (.cells #[.int .i64 5, .int .i64 0, .int .i64 0, .int .i64 0, .slice none 0 0, .string tx, .int .i64 0, .int .i64 (-1), .int .i64 tp] 66) w2.heap.size
     have h6 := h5
     have xx6 := h6.cell 2 rfl 0 rfl
     obtain ⟨c1, _, f0⟩ := (h6.pick [0, 1]).look.cells
     have hpb := (h6.pick [0, 1]).look.lt
     have h7 := ((h6.at 1 rfl).setPos (st.pos + 1) hlt1 (by omega)).un5
     rw [show ((st.pos + 1 : Nat) : Int) = (st.pos : Int) + 1 from rfl] at h7
     have xx7 := h7.cell 2 rfl 0 rfl
     have q0 := h7.cell 4 rfl 0 rfl
     have q1 := h7.cell 4 rfl 1 rfl
     have q2 := h7.cell 4 rfl 2 rfl
     have q3 := h7.cell 4 rfl 3 rfl
     have q4 := h7.cell 4 rfl 4 rfl
     have q5 := h7.cell 4 rfl 5 rfl
     have q6 := h7.cell 4 rfl 6 rfl
     have q7 := h7.cell 4 rfl 7 rfl
     have q8 := h7.cell 4 rfl 8 rfl
     have H7 := qh (h7.drew.nil 3 1)
     clear h5 h6 h7 t0 t1 xx fz hz
     go_wp2_with fail
     refine aO { Ty.ndOf 5 tp with text := tx } (.slice none 0 0) H7.out.gz (by dsimp only; omega) (fun w7 h8 => ?_)
     have H8 := qh ((h8.unpack (i := 0) rfl).pick [1, 0])
     clear h8
     go_wp2_with fail
     exact HOK.out _ _ _ HE.out H8.out
 have k3 : ((kd : Int) == 3) = false := beq_eq_false_iff_ne.2 (by omega)
 have k4 : ((kd : Int) == 4) = false := beq_eq_false_iff_ne.2 (by omega)
 have k1 : ((kd : Int) == 1) = false := beq_eq_false_iff_ne.2 (by omega)
 rw [jS hk3 hk4 hk1] at HSM
 clear hnm hlt hk3 hk4 hk1
 go_wp2_with fail
 refine take_any (H3.out.at 1 rfl) ⟨#[116, 114, 117, 101]⟩ (fun wa hi ha => ?_) (fun w10 hi ha => ?_)
 · have h4 := ha.un5
   have fz4 := h4.free 4 rfl
   have hz4 := h4.lt 4 rfl
   have xx4 := h4.cell 2 rfl 0 rfl
   have y0 := h4.cell 4 rfl 0 rfl
   have y6 := h4.cell 4 rfl 6 rfl
   have h5 := ((h4.store 4 rfl 0 (.int .i64 3)).store 4 rfl 6 (.int .i64 1))
   have xx5 := h5.cell 2 rfl 0 rfl
   have q0 := h5.cell 4 rfl 0 rfl
   have q1 := h5.cell 4 rfl 1 rfl
   have q2 := h5.cell 4 rfl 2 rfl
   have q3 := h5.cell 4 rfl 3 rfl
   have q4 := h5.cell 4 rfl 4 rfl
   have q5 := h5.cell 4 rfl 5 rfl
   have q6 := h5.cell 4 rfl 6 rfl
   have q7 := h5.cell 4 rfl 7 rfl
   have q8 := h5.cell 4 rfl 8 rfl
   have HE : Hid (Ty.simpleM af T E S st = .ok (st.ns.length, { st with pos := st.pos + 1, ns := st.ns ++ [{ Ty.ndOf 3 tp with n := 1 }] })) := HSM.out.trans (Ty.EN  hi)
   have H5 := qh (h5.nil 3 1)
   clear hi ha h4 h5 xx t0 t1 fz hz
   go_wp2_with fail
   refine aO { Ty.ndOf 3 tp with n := 1 } (.slice none 0 0) H5.out.gz (by dsimp only; omega) (fun w7 h8 => ?_)
   have H8 := qh ((h8.unpack (i := 0) rfl).pick [1, 0])
   clear h8
   go_wp2_with fail
   exact HOK.out _ _ _ HE.out H8.out
 have HA0 := qh hi
 have h4 := ha.un5
 have xx := h4.cell 2 rfl 0 rfl
 have fz := h4.free 4 rfl
 have hz := h4.lt 4 rfl
 have H20 := qh h4
 clear hi ha h4
 go_wp2_with fail
 refine take_any (H20.out.at 1 rfl) ⟨#[102, 97, 108, 115, 101]⟩ (fun wa hi ha => ?_) (fun w11 hi ha => ?_)
 · have h4 := ha.un5
   have fz4 := h4.free 4 rfl
   have hz4 := h4.lt 4 rfl
   have xx4 := h4.cell 2 rfl 0 rfl
   have y0 := h4.cell 4 rfl 0 rfl
   have h5 := (h4.store 4 rfl 0 (.int .i64 3))
   have xx5 := h5.cell 2 rfl 0 rfl
   have q0 := h5.cell 4 rfl 0 rfl
   have q1 := h5.cell 4 rfl 1 rfl
   have q2 := h5.cell 4 rfl 2 rfl
   have q3 := h5.cell 4 rfl 3 rfl
   have q4 := h5.cell 4 rfl 4 rfl
   have q5 := h5.cell 4 rfl 5 rfl
   have q6 := h5.cell 4 rfl 6 rfl
   have q7 := h5.cell 4 rfl 7 rfl
   have q8 := h5.cell 4 rfl 8 rfl
   have HE : Hid (Ty.simpleM af T E S st = .ok (st.ns.length, { st with pos := st.pos + 1, ns := st.ns ++ [Ty.ndOf 3 tp] })) := HSM.out.trans (Ty.Ey HA0.out hi)
   have H5 := qh (h5.nil 3 1)
   clear hi ha h4 h5 xx t0 t1 fz hz
   go_wp2_with fail
   refine aO (Ty.ndOf 3 tp) (.slice none 0 0) H5.out.gz (by dsimp only; omega) (fun w7 h8 => ?_)
   have H8 := qh ((h8.unpack (i := 0) rfl).pick [1, 0])
   clear h8
   go_wp2_with fail
   exact HOK.out _ _ _ HE.out H8.out
 have HA1 := qh hi
 have h4 := ha.un5
 have xx := h4.cell 2 rfl 0 rfl
 have fz := h4.free 4 rfl
 have hz := h4.lt 4 rfl
 have H21 := qh h4
 clear hi ha h4
 go_wp2_with fail
 refine take_any (H21.out.at 1 rfl) ⟨#[110, 117, 108, 108]⟩ (fun wa hi ha => ?_) (fun w12 hi ha => ?_)
 · have h4 := ha.un5
   have fz4 := h4.free 4 rfl
   have hz4 := h4.lt 4 rfl
   have xx4 := h4.cell 2 rfl 0 rfl
   have y0 := h4.cell 4 rfl 0 rfl
   have h5 := (h4.store 4 rfl 0 (.int .i64 4))
   have xx5 := h5.cell 2 rfl 0 rfl
   have q0 := h5.cell 4 rfl 0 rfl
   have q1 := h5.cell 4 rfl 1 rfl
   have q2 := h5.cell 4 rfl 2 rfl
   have q3 := h5.cell 4 rfl 3 rfl
   have q4 := h5.cell 4 rfl 4 rfl
   have q5 := h5.cell 4 rfl 5 rfl
   have q6 := h5.cell 4 rfl 6 rfl
   have q7 := h5.cell 4 rfl 7 rfl
   have q8 := h5.cell 4 rfl 8 rfl
   have HE : Hid (Ty.simpleM af T E S st = .ok (st.ns.length, { st with pos := st.pos + 1, ns := st.ns ++ [Ty.ndOf 4 tp] })) := HSM.out.trans (Ty.EO HA0.out HA1.out hi)
   have H5 := qh (h5.nil 3 1)
   clear hi ha h4 h5 xx t0 t1 fz hz
   go_wp2_with fail
   refine aO (Ty.ndOf 4 tp) (.slice none 0 0) H5.out.gz (by dsimp only; omega) (fun w7 h8 => ?_)
   have H8 := qh ((h8.unpack (i := 0) rfl).pick [1, 0])
   clear h8
   go_wp2_with fail
   exact HOK.out _ _ _ HE.out H8.out
 have HA2 := qh hi
 have h4 := ha.un5
 have xx := h4.cell 2 rfl 0 rfl
 have fz := h4.free 4 rfl
 have hz := h4.lt 4 rfl
 have H22 := qh h4
 clear hi ha h4
 go_wp2_with fail
 refine take_any (H22.out.at 1 rfl) ⟨#[102, 110]⟩ (fun wa hi ha => ?_) (fun w13 hi ha => ?_)
 · have h4 := ha.un5
   have fz4 := h4.free 4 rfl
   have hz4 := h4.lt 4 rfl
   have xx4 := h4.cell 2 rfl 0 rfl
   have t2 := h4.cell 3 rfl 2 rfl
   have HE := qh (HSM.out.trans (Ty.Ep HA0.out HA1.out HA2.out hi))
   have H4 := qh h4
   clear hi ha h4 xx t0 t1 fz hz
   go_wp2_with fail
   refine nV HL.out (H4.out.at 1 rfl) tp (by dsimp only; omega) (fun n s5 w5 hm h5 => ?_) (fun e w5 hm h5 => ?_)
   · have HM := qh hm
     have H5 := qh h5.un5
     clear hm h5
     go_wp2_with fail
     exact HOK.out _ _ _ (HE.out.trans HM.out) (H5.out.pick [0, 1])
   · have HM := qh hm
     have H5 := qh (h5.unpack (i := 0) rfl)
     clear hm h5
     go_wp2_with fail
     exact ⟨rfl, HBAD.out _ _ (HE.out.trans HM.out) (H5.out.pick [0])⟩
 have HA3 := qh hi
 have h4 := ha.un5
 have xx := h4.cell 2 rfl 0 rfl
 have fz := h4.free 4 rfl
 have hz := h4.lt 4 rfl
 have H23 := qh h4
 clear hi ha h4
 go_wp2_with fail
 refine take_any (H23.out.at 1 rfl) ⟨#[91]⟩ (fun wa hi ha => ?_) (fun w14 hi ha => ?_)
 · have h4 := ha.un5
   have fz4 := h4.free 4 rfl
   have hz4 := h4.lt 4 rfl
   have xx4 := h4.cell 2 rfl 0 rfl
   have y0 := h4.cell 4 rfl 0 rfl
   have h5 := h4.store 4 rfl 0 (.int .i64 11)
   have xx5 := h5.cell 2 rfl 0 rfl
   have HE : Hid (Ty.simpleM af T E S st = Ty.smG af E tp { st with pos := st.pos + 1 }) := HSM.out.trans (Ty.EI HA0.out HA1.out HA2.out HA3.out hi)
   have h6 : Sat w0 _ [Fr, blk w1.heap.size (.cells #[.int .i64 kd, .string tx, .int .i64 tp] 138 (0, 0)), aC pb d af { st with pos := st.pos + 1 }, nlA pb w2.heap.size w.heap.size 11 0 tp []] := (Prt.Sat.pack (L := [_, _, _]) (M := [_, _, _]) ((h5.nil 3 1).pick [0, 3, 1, 4, 5, 2])).ent (i := 3) rfl (fun _ h => ⟨_, h⟩)
   have h7 : Sat w0 _ [ah [Fr, blk w1.heap.size (.cells #[.int .i64 kd, .string tx, .int .i64 tp] 138 (0, 0))], aC pb d af { st with pos := st.pos + 1 }, nlA pb w2.heap.size w.heap.size 11 0 tp []] := (Prt.Sat.pack (L := [_, _]) (M := [_, _]) (h6.pick [2, 3, 0, 1])).pick [2, 0, 1]
   have H7 := qh h7
   clear hi ha h4 h5 h6 h7 xx t0 t1 fz hz
   go_wp2_with fail
   refine iM w0 _ _ pb d af _ (nlA pb w2.heap.size w.heap.size 11 0 tp) H7.out ⟨#[93]⟩ 347 _ Tryz.call347 (fun _ => E) (fun _ => HL.out.ae) (fun l s w1 h hl R hok hbad => ru w0 w1 _ pb _ _ d af E HL.out.e 11 0 tp l s h hl hok hbad) (fun l s4 w4 hm hl4 h8 => ?_) (fun e w4 hm h8 => ?_)
   · have had := Ty.list_adv (fun _ => HL.out.ae) _ _ _ _ _ hm
     dsimp only at had
     obtain ⟨v, h9⟩ := h8.pz
     obtain ⟨va, vc, rfl⟩ := ag (h9.row 3 rfl)
     have q0 := h9.cell 2 rfl 0 rfl
     have q1 := h9.cell 2 rfl 1 rfl
     have q2 := h9.cell 2 rfl 2 rfl
     have q3 := h9.cell 2 rfl 3 rfl
     have q4 := h9.cell 2 rfl 4 rfl
     have q5 := h9.cell 2 rfl 5 rfl
     have q6 := h9.cell 2 rfl 6 rfl
     have q7 := h9.cell 2 rfl 7 rfl
     have q8 := h9.cell 2 rfl 8 rfl
     have xx9 := h9.cell 4 rfl 0 rfl
     have HE2 : Hid (Ty.simpleM af T E S st = .ok (s4.ns.length, { s4 with ns := s4.ns ++ [{ Ty.ndOf 11 tp with list := l }] })) := HE.out.trans (by rw [Ty.smG, Ty.bnd_ok hm]; rfl)
     have H9 := qh h9
     clear hm h8 h9
     go_wp2_with fail
     refine aO { Ty.ndOf 11 tp with list := l } (.slice va l.length vc) ((H9.out.pick [0, 1, 4, 2, 3]).jQ) (by omega) (fun w5 h10 => ?_)
     have H10 := qh ((((h10.lS).unpack (i := 0) rfl)).pick [2, 0])
     clear h10
     go_wp2_with fail
     exact HOK.out _ _ _ HE2.out H10.out
   · have HE2 : Hid (Ty.simpleM af T E S st = .error e) := HE.out.trans (by rw [Ty.smG, Ty.bnd_err hm])
     have H8 := qh (h8.unpack (i := 0) rfl)
     clear hm h8
     go_wp2_with fail
     exact ⟨rfl, HBAD.out _ _ HE2.out (H8.out.pick [0])⟩
 have HA4 := qh hi
 have h4 := ha.un5
 have xx := h4.cell 2 rfl 0 rfl
 have fz := h4.free 4 rfl
 have hz := h4.lt 4 rfl
 have H24 := qh h4
 clear hi ha h4
 go_wp2_with fail
 refine take_any (H24.out.at 1 rfl) ⟨#[123]⟩ (fun wa hi ha => ?_) (fun w15 hi ha => ?_)
 · have h4 := ha.un5
   have fz4 := h4.free 4 rfl
   have hz4 := h4.lt 4 rfl
   have xx4 := h4.cell 2 rfl 0 rfl
   have y0 := h4.cell 4 rfl 0 rfl
   have h5 := (h4.store 4 rfl 0 (.int .i64 10)).aj (.cells #[.slice none 0 0] 161) wa.heap.size
   have xx5 := h5.cell 2 rfl 0 rfl
   have HE : Hid (Ty.simpleM af T E S st = Ty.smH af E tp { st with pos := st.pos + 1 }) := HSM.out.trans (Ty.Ew HA0.out HA1.out HA2.out HA3.out HA4.out hi)
   have h6 := (Prt.Sat.pack (L := [_]) (M := [_, _, _, _, _, _]) ((h5.nil 3 1).pick [5, 0, 1, 4, 6, 2, 3])).pick [1, 0]
   have h7 : Sat w0 _ [Fr, aC pb d af { st with pos := st.pos + 1 }, blk w2.heap.size (nlC 10 0 tp (.slice none 0 0)), inA (.slice none 0 0) [], xbA pb w.heap.size, blk w1.heap.size (.cells #[.int .i64 kd, .string tx, .int .i64 tp] 138 (0, 0)), mbA wa.heap.size []] := ((vZ (B := fun _ => True) ((h6.fH (P := fun _ => True) (fun _ => trivial)).pick [0, 2, 1])).unpack (i := 0) rfl).pick [2, 3, 4, 5, 6, 7, 1]
   have h8 : Sat w0 _ [ah [Fr, blk w1.heap.size (.cells #[.int .i64 kd, .string tx, .int .i64 tp] 138 (0, 0))], aC pb d af { st with pos := st.pos + 1 }, plA pb w2.heap.size w.heap.size wa.heap.size 10 0 tp []] := Prt.Sat.oP (l := []) rfl rfl ((Prt.Sat.pack (L := [_, _, _, _, _]) (M := [_, _]) (h7.pick [1, 2, 3, 4, 6, 0, 5])).pick [5, 0, 1, 2, 3, 4])
   have H8 := qh h8
   clear hi ha h4 h5 h6 h7 h8 xx t0 t1 fz hz
   go_wp2_with fail
   refine iM w0 _ _ pb d af _ (plA pb w2.heap.size w.heap.size wa.heap.size 10 0 tp) H8.out ⟨#[125]⟩ 348 _ Tryz.call348 (fun l => Ty.partM af E (l.map Prod.fst)) (fun _ => Ty.partM_adv HL.out.ae _) (fun l s w1 h hl R hok hbad => zK w0 w1 _ pb _ _ _ d af (Ty.partM af E) (zO HL.out) 10 0 tp l s h hl hok hbad) (fun l s4 w4 hm hl4 h9 => ?_) (fun e w4 hm h9 => ?_)
   · have had := Ty.list_adv (fun l => Ty.partM_adv HL.out.ae (l.map Prod.fst)) _ _ _ _ _ hm
     dsimp only at had
     obtain ⟨v, h10⟩ := h9.oq
     have HE2 : Hid (Ty.simpleM af T E S st = .ok (s4.ns.length, { s4 with ns := s4.ns ++ [{ Ty.ndOf 10 tp with list := l.map Prod.snd }] })) := HE.out.trans (by rw [Ty.smH, Ty.bnd_ok hm]; rfl)
     have hlm : (l.map Prod.snd).length ≤ 1001 := by have := (h10.pick [0, 1]).look.fits.1; rw [List.length_map]; omega
     generalize l.map Prod.snd = ns at *
     obtain ⟨va, vc, rfl⟩ := ag (h10.row 3 rfl)
     have q0 := h10.cell 2 rfl 0 rfl
     have q1 := h10.cell 2 rfl 1 rfl
     have q2 := h10.cell 2 rfl 2 rfl
     have q3 := h10.cell 2 rfl 3 rfl
     have q4 := h10.cell 2 rfl 4 rfl
     have q5 := h10.cell 2 rfl 5 rfl
     have q6 := h10.cell 2 rfl 6 rfl
     have q7 := h10.cell 2 rfl 7 rfl
     have q8 := h10.cell 2 rfl 8 rfl
     have xx9 := h10.cell 4 rfl 0 rfl
     have H10 := qh h10
     clear hm h9 h10
     go_wp2_with fail
     refine aO { Ty.ndOf 10 tp with list := ns } (.slice va ns.length vc) (H10.out.vO) (by omega) (fun w5 h11 => ?_)
     have H11 := qh (((((h11.unpack (i := 0) rfl).pick [1, 0])).unpack (i := 0) rfl).pick [1, 0])
     clear h11
     go_wp2_with fail
     exact HOK.out _ _ _ HE2.out H11.out
   · have HE2 : Hid (Ty.simpleM af T E S st = .error e) := HE.out.trans (by rw [Ty.smH, Ty.bnd_err hm])
     have H9 := qh (h9.unpack (i := 0) rfl)
     clear hm h9
     go_wp2_with fail
     exact ⟨rfl, HBAD.out _ _ HE2.out (H9.out.pick [0])⟩
 have HA5 := qh hi
 have h4 := ha.un5
 have xx := h4.cell 2 rfl 0 rfl
 have fz := h4.free 4 rfl
 have hz := h4.lt 4 rfl
 have H25 := qh h4
 clear hi ha h4
 go_wp2_with fail
 have HE : Hid (Ty.simpleM af T E S st = Ty.smI af E st) := HSM.out.trans (Ty.ED HA0.out HA1.out HA2.out HA3.out HA4.out HA5.out)
 refine aZ (H25.out.at 1 rfl) ⟨#[40]⟩ (fun w3 hm h4 => ?_) (fun e w3 hm h4 => ?_)
 rotate_left
 · have HE2 : Hid (Ty.simpleM af T E S st = .error e) := HE.out.trans (by rw [Ty.smI, Ty.bnd_err hm])
   have H4 := qh (h4.unpack (i := 0) rfl)
   clear hm h4
   go_wp2_with fail
   exact ⟨rfl, HBAD.out _ _ HE2.out (H4.out.pick [0])⟩
 have HE2 : Hid (Ty.simpleM af T E S st = (Ty.bnd E fun a => Ty.bnd (Ty.need af [41]) fun _ => Ty.ret a) { st with pos := st.pos + 1 }) := HE.out.trans (by rw [Ty.smI, Ty.bnd_ok hm])
 have h5 := h4.un5
 have xx4 := h5.cell 2 rfl 0 rfl
 have H4 := qh h5
 clear hm h4 h5 xx
 go_wp2_with fail
 refine HL.out.e _ _ _ pb _ (H4.out.at 1 rfl) _ (fun n s5 w5 hm h5 => ?_) (fun e w5 hm h5 => ?_)
 rotate_left
 · have HE3 : Hid (Ty.simpleM af T E S st = .error e) := HE2.out.trans (by rw [Ty.bnd_err hm])
   have H5 := qh (h5.unpack (i := 0) rfl)
   clear hm h5
   go_wp2_with fail
   exact ⟨rfl, HBAD.out _ _ HE3.out (H5.out.pick [0])⟩
 have HE3 : Hid (Ty.simpleM af T E S st = (Ty.bnd (Ty.need af [41]) fun _ => Ty.ret n) s5) := HE2.out.trans (by rw [Ty.bnd_ok hm])
 have h6 := h5.un5
 have xx5 := h6.cell 2 rfl 0 rfl
 have H5 := qh h6
 clear hm h5 h6 xx4
 go_wp2_with fail
 refine aZ (H5.out.at 1 rfl) ⟨#[41]⟩ (fun w6 hm h6 => ?_) (fun e w6 hm h6 => ?_)
 · have HE4 : Hid (Ty.simpleM af T E S st = .ok (n, { s5 with pos := s5.pos + 1 })) := HE3.out.trans (by rw [Ty.bnd_ok hm]; rfl)
   have H6 := qh h6.un5
   clear hm h6
   go_wp2_with fail
   exact HOK.out _ _ _ HE4.out (H6.out.pick [0, 1])
 · have HE4 : Hid (Ty.simpleM af T E S st = .error e) := HE3.out.trans (by rw [Ty.bnd_err hm])
   have H6 := qh (h6.unpack (i := 0) rfl)
   clear hm h6
   go_wp2_with fail
   exact ⟨rfl, HBAD.out _ _ HE4.out (H6.out.pick [0])⟩
section
variable {w0 w : World} {Fr : As} {pb d : Nat} {af : List Tok.Tk} {st : Ty.St}
theorem kN (H : Sat w0 w [Fr, aC pb d af st]) (F : FuncId) (c : Value) (hc : ∀ (args : Array Value) (w : World), (callFunc F args).run Tryz.prog w = .ok (.enter F args) w)
   (m : Ty.M Nat)
   (hdo : d < 20 → ∀ w1, Sat w0 w1 [Fr, aC pb (d + 1) af st] → ∀ R : Ending → World → Prop,
     (∀ n st2 w2, m st = .ok (n, st2) → Sat w0 w2 [Fr, aC pb (d + 1) af st2] → R (.returned (.int .i64 (n : Nat))) w2) →
     (∀ f w2, m st = .error f → Sat w0 w2 [Fr] → R (.panicked (aI f)) w2) → Calls Tryz.prog F #[c] w1 R)
   {R : Ending → World → Prop}
   (hok : ∀ n st2 w2, d < 20 → m st = .ok (n, st2) → Sat w0 w2 [Fr, aC pb d af st2] → R (.returned (.int .i64 (n : Nat))) w2)
   (hbad : ∀ f w2, (d < 20 → m st = .error f) → (d = 20 → f = Ty.here af 8 st.pos) → Sat w0 w2 [Fr] → R (.panicked (aI f)) w2) :
   Calls Tryz.prog 130 #[.pointer (some ⟨pb, 0, none⟩), .func (.func F) #[c] #[]] w R := by
 have HOK := qh hok
 have HBAD := qh hbad
 have HDO := qh hdo
 have HS := qh H
 have hlk := H.look
 have hd := hlk.fits.2.1
 obtain ⟨_, c2, f0⟩ := hlk.cells
 have HL := qh hlk
 clear hok hbad hdo H hlk
 by_cases hd2 : d = 20
 · have d1 : ((d : Int) == 20) = true := by simp [hd2]
   have HD := qh hd2
   clear hd2 hd
   go_enter Tryz.func130, Tryz.ntmps130
   go_wp2_with fail
   refine gK w pb d af st HL.out 8 (fun w1 hb1 => ?_)
   have HB := qh hb1
   clear hb1
   go_wp2_with fail
   exact ⟨rfl, HBAD.out _ _ (fun h => by have := HD.out; omega) (fun _ => rfl) ((HS.out.below HB.out).pick [0])⟩
 · have d1 : ((d : Int) == 20) = false := by simp; omega
   have hlt : d < 20 := by omega
   clear hd2
   go_enter Tryz.func130, Tryz.ntmps130
   go_wp2_with fail
   refine HDO.out hlt _ (HS.out.kM (d + 1) (by omega)) _ (fun n st2 w2 hm h2 => ?_) (fun f w2 hm h2 => ?_)
   · obtain ⟨_, c2', f0'⟩ := h2.look.cells
     have H2 := qh h2
     have HM := qh hm
     clear h2 hm
     go_wp2_with fail
     exact HOK.out n st2 _ hlt HM.out (H2.out.kM _ (by omega))
   · have H2 := qh h2
     have HM := qh hm
     clear h2 hm
     go_wp2_with fail
     exact ⟨rfl, HBAD.out f w2 (fun _ => HM.out) (fun h => absurd h (by omega)) H2.out⟩
end
def preB : List ByteArray := [⟨#[33]⟩, ⟨#[45]⟩, ⟨#[116, 121, 112, 101, 111, 102]⟩]
def vI : Array Value := #[.string ⟨#[33]⟩, .string ⟨#[45]⟩, .string ⟨#[116, 121, 112, 101, 111, 102]⟩]
theorem BQ {af : List Tok.Tk} {x : List UInt8} {s s' : Ty.St} (h : Ty.take af x s = .ok (true, s')) : Ty.is af x s.pos = true := by
 unfold Ty.take at h
 split at h
 · assumption
 · cases h
theorem yK {af : List Tok.Tk} {x : List UInt8} {s s' : Ty.St} (h : Ty.take af x s = .ok (false, s')) : Ty.is af x s.pos = false := by
 unfold Ty.take at h
 split at h
 · cases h
 · simpa using ‹¬ Ty.is af x s.pos = true›
theorem is_text {af : List Tok.Tk} {x : ByteArray} {p : Nat} (h : Ty.is af x.data.toList p = true) : (Ty.cur af p).text = x := by
 unfold Ty.is at h
 simp at h
 apply ByteArray.ext; exact h.2
theorem AL {af : List Tok.Tk} {d : Nat} {T E O S : Ty.M Nat} (L : Lo af d T E O S) (hnum : Ty.Nums af) : cO 319 af d (Ty.oneM af T E O S) := by
 intro w0 w Fr pb st H R hok hbad
 have HOK := qh hok
 have HBAD := qh hbad
 have HL := qh L
 have hlk := H.look
 have htl := hlk.wf.1
 have hpos := hlk.fits.1
 have hfit := hlk.fits.2.2.2
 have HN := qh (fun R hR => @dU _ pb d af st hlk R hR)
 have HSI := qh (uB L hnum)
 have HSN := qh (Ty.simpleM_nx L.pt L.ne L.ns.pre (af := af))
 have HYES : Hid (∀ x ∈ preB, Ty.is af x.data.toList st.pos = true → Ty.oneM af T E O S st = Ty.bnd O (fun a => Ty.addNode { Ty.ndOf 13 (Ty.cur af st.pos).pos with text := x, a := a }) { st with pos := st.pos + 1 }) := fun x hx hi => by
   show Ty.oneM af T E O S st = _
   rw [← is_text hi]
   show (if Ty.prefixes.any (fun x => Ty.is af x st.pos) = true then _ else _ : Ty.M Nat) st = _
   rw [if_pos (List.any_eq_true.2 ⟨x.data.toList, by simp [preB] at hx; rcases hx with rfl | rfl | rfl <;> simp [Ty.prefixes], hi⟩)]
   rfl
 have HNO : Hid ((∀ j (hj : j < preB.length), Ty.is af preB[j].data.toList st.pos = false) → Ty.oneM af T E O S st = Ty.bnd (Ty.simpleM af T E S) (fun a => Ty.behind af T E (af.length + 1) a) st) := fun h => by
   show (if Ty.prefixes.any (fun x => Ty.is af x st.pos) = true then _ else _ : Ty.M Nat) st = _
   have h0 := h 0 (by decide)
   have h1 := h 1 (by decide)
   have h2 := h 2 (by decide)
   have e : ¬ Ty.prefixes.any (fun x => Ty.is af x st.pos) = true := by
     simp only [Ty.prefixes, List.any_cons, List.any_nil]
     intro e
     simp only [preB, List.getElem_cons_zero, List.getElem_cons_succ] at h0 h1 h2
     rw [h0, h1, h2] at e; simp at e
   rw [if_neg e]
 obtain ⟨ps, hps⟩ : ∃ ps, (Ty.cur af st.pos).pos = ps := ⟨_, rfl⟩
 rw [hps] at HYES
 generalize Ty.cur af st.pos = t at *
 obtain ⟨kd, tx, tp⟩ := t
 dsimp only at hps
 subst hps
 have HS := qh H
 have hf2 := fM
 clear hok hbad H L hlk hnum
 go_enter Tryz.func319, Tryz.ntmps319
 go_wp2_with fail
 refine HN.out _ (fun w1 hb1 => ?_)
 dsimp only [aQ]
 have h2 := (HS.out.below hb1).aj (.cells vI 9) w1.heap.size
 have H2 := qh h2
 clear hb1 h2
 go_wp2_with fail
 go_loopw [12] (fun i wr => ∃ k : Nat, k ≤ 3 ∧ i = .int .i64 k ∧ Hid (Sat w0 wr [Fr, aC pb d af st, blk w1.heap.size (.cells vI 9 (0, 0))]) ∧ Hid (∀ j (hj : j < preB.length), j < k → Ty.is af preB[j].data.toList st.pos = false)) (fun i _ => 3 - (intOf i).toNat)
 case atStart => exact ⟨0, by omega, rfl, H2.out, fun j hj h => by omega⟩
 case round =>
   obtain ⟨k, hk, rfl, hS, hnot⟩ := hrel
   by_cases hlt : k < 3
   · have hkl : k < preB.length := hlt
     have d0 : wr.cell? ⟨w1.heap.size, k, none⟩ = some (.string preB[k]) := hS.out.cell 2 rfl k (by
       match k, hlt with
       | 0, _ => rfl
       | 1, _ => rfl
       | 2, _ => rfl)
     have hmem := List.getElem_mem hkl
     have HX : Hid (Ty.is af preB[k].data.toList st.pos = false → ∀ j (hj : j < preB.length), j < k + 1 → Ty.is af preB[j].data.toList st.pos = false) := fun h j hj hjk => by
       by_cases e : j = k
       · subst e; exact h
       · exact hnot.out j hj (by omega)
     have hzb := hS.out.lt 2 rfl
     generalize preB[k] = x at *
     have HMEM := qh hmem
     clear hmem hkl
     go_wp2_with fail
     refine take_any (hS.out.at 1 rfl) x (fun w2 hi h3 => ?_) (fun w2 hi h3 => ?_)
     · have HE := qh (HYES.out x HMEM.out (BQ hi))
       have H3 := qh h3.un3
       clear hi h3
       go_wp2_with fail
       refine gp _ 13 tp (fun w3 hb3 => ?_)
       have h4 := (H3.out.below hb3).aj (.cells #[.int .i64 13, .int .i64 0, .int .i64 0, .int .i64 0, .slice none 0 0, .string x, .int .i64 0, .int .i64 (-1), .int .i64 tp] 66) w3.heap.size
       have H4 := qh h4
       clear hb3 h4
       go_wp2_with fail
       refine HL.out.o _ _ _ pb _ (H4.out.at 1 rfl) _ (fun n s5 w5 hm h5 => ?_) (fun e w5 hm h5 => ?_)
       · have had := HL.out.ao _ _ _ hm
         dsimp only at had
         have HE2 : Hid (Ty.oneM af T E O S st = .ok (s5.ns.length, { s5 with ns := s5.ns ++ [{ Ty.ndOf 13 tp with text := x, a := n }] })) := HE.out.trans (by rw [Ty.bnd_ok hm]; rfl)
         have h6 := h5.un4
         have y1 := h6.cell 3 rfl 1 rfl
         have f6 := h6.free 3 rfl
         have hz6 := h6.lt 3 rfl
         have h7 := h6.store 3 rfl 1 (.int .i64 (n : Nat))
         have q0 := h6.cell 3 rfl 0 rfl
         have q2 := h6.cell 3 rfl 2 rfl
         have q3 := h6.cell 3 rfl 3 rfl
         have q4 := h6.cell 3 rfl 4 rfl
         have q5 := h6.cell 3 rfl 5 rfl
         have q6 := h6.cell 3 rfl 6 rfl
         have q7 := h6.cell 3 rfl 7 rfl
         have q8 := h6.cell 3 rfl 8 rfl
         have H7 := qh (h7.nil 3 1)
         clear hm h5 h6 h7
         go_wp2_with fail
         refine aO { Ty.ndOf 13 tp with text := x, a := n } (.slice none 0 0) H7.out.jQ (by omega) (fun w7 h8 => ?_)
         have H8 := qh ((h8.unpack (i := 0) rfl).pick [1, 0])
         clear h8
         go_wp2_with fail
         exact HOK.out _ _ _ HE2.out H8.out
       · have HE2 : Hid (Ty.oneM af T E O S st = .error e) := HE.out.trans (by rw [Ty.bnd_err hm])
         have H5 := qh (h5.unpack (i := 0) rfl)
         clear hm h5
         go_wp2_with fail
         exact ⟨rfl, HBAD.out _ _ HE2.out (H5.out.pick [0])⟩
     · have HX2 := qh (HX.out (yK hi))
       have H3 := qh h3.un3
       clear hi h3 HX
       go_wp2_with fail
       go_roundw
       case rel => exact ⟨k + 1, by omega, by go_num, H3, HX2⟩
       case measure => simp [intOf]; omega
   · have hke : k = 3 := by omega
     subst hke
     have HE := qh (HNO.out (fun j hj => hnot.out j hj hj))
     clear hnot
     go_wp2_with fail
     refine HSI.out _ _ _ pb _ (hS.out.at 1 rfl) _ (fun n s5 w5 hm h5 => ?_) (fun e w5 hm h5 => ?_)
     · have hnx := (HSN.out _ _ _ hm).2.1
       have HE2 : Hid (Ty.oneM af T E O S st = Ty.behind af T E (af.length + 1) n s5) := HE.out.trans (by rw [Ty.bnd_ok hm])
       have H5 := qh h5.un3
       clear hm h5
       go_wp2_with fail
       refine uq HL.out (H5.out.at 1 rfl) hnx (fun m s6 w6 hm h6 => ?_) (fun e w6 hm h6 => ?_)
       · have HM := qh (HE2.out.trans hm)
         have H6 := qh h6.un3
         clear hm h6
         go_wp2_with fail
         exact HOK.out _ _ _ HM.out (H6.out.pick [0, 1])
       · have HM := qh (HE2.out.trans hm)
         have H6 := qh (h6.unpack (i := 0) rfl)
         clear hm h6
         go_wp2_with fail
         exact ⟨rfl, HBAD.out _ _ HM.out (H6.out.pick [0])⟩
     · have HE2 : Hid (Ty.oneM af T E O S st = .error e) := HE.out.trans (by rw [Ty.bnd_err hm])
       have H5 := qh (h5.unpack (i := 0) rfl)
       clear hm h5
       go_wp2_with fail
       exact ⟨rfl, HBAD.out _ _ HE2.out (H5.out.pick [0])⟩
section
variable {af : List Tok.Tk} {d : Nat} {ONE : Ty.M Nat}
theorem zU (hone : cO 319 af d ONE) (hA : Ty.Adv 1 0 0 ONE) (hN : Ty.Nx ONE) (w0 w : World) (Fr : As) (pb xb : Nat) (st : Ty.St) (H : Sat w0 w [Fr, aC pb d af st]) (hx : ∀ w1, Sat w0 w1 [Fr] → w1.cell? ⟨xb, 0, none⟩ = some (.pointer (some ⟨pb, 0, none⟩))) {R : Ending → World → Prop}
   (hok : ∀ n s2 w2, Ty.products af ONE st = .ok (n, s2) → Sat w0 w2 [Fr, aC pb d af s2] → R (.returned (.int .i64 (n : Nat))) w2)
   (hbad : ∀ f w2, Ty.products af ONE st = .error f → Sat w0 w2 [Fr] → R (.panicked (aI f)) w2) :
   Calls Tryz.prog 318 #[.pointer (some ⟨xb, 0, none⟩)] w R := by
 have HOK := qh hok
 have HBAD := qh hbad
 have HONE := qh hone
 have HA := qh hA
 have HN := qh hN
 have x0 := hx w (H.pick [0])
 have h1 := H.aj (.cells #[.string ⟨#[42]⟩] 9) w.heap.size
 have H1 := qh h1
 clear hok hbad hone hA hN H hx h1
 go_enter Tryz.func318, Tryz.ntmps318
 go_wp2_with fail
 refine DF w0 _ _ pb d w.heap.size af st ONE HA.out HN.out [⟨#[42]⟩] (by decide) 319 _ Tryz.call319 (fun w1 h => ⟨(h.unpack (i := 0) rfl).lt 1 rfl, fun j hj => (h.unpack (i := 0) rfl).cell 1 rfl j (by
     match j, hj with
     | 0, _ => rfl)⟩) (fun s w1 h R hok hbad => HONE.out w0 w1 _ pb s h R hok hbad) (H1.out.at 1 rfl) (fun n s2 w2 hm h2 => ?_) (fun f w2 hm h2 => ?_)
 · have HM : Hid (Ty.products af ONE st = .ok (n, s2)) := hm
   have H2 := qh h2.un3
   clear hm h2
   go_wp2_with fail
   exact HOK.out _ _ _ HM.out (H2.out.pick [0, 1])
 · have HM : Hid (Ty.products af ONE st = .error f) := hm
   have H2 := qh (h2.unpack (i := 0) rfl)
   clear hm h2
   go_wp2_with fail
   exact ⟨rfl, HBAD.out _ _ HM.out (H2.out.pick [0])⟩
theorem sum_any (hone : cO 319 af d ONE) (hA : Ty.Adv 1 0 0 ONE) (hN : Ty.Nx ONE) : cO 281 af d (Ty.sums af ONE) := by
 intro w0 w Fr pb st H R hok hbad
 have HOK := qh hok
 have HBAD := qh hbad
 have HONE := qh hone
 have HA := qh hA
 have HN := qh hN
 have h1 := (H.aj (.cells #[.pointer (some ⟨pb, 0, none⟩)] 80) w.heap.size).aj (.cells #[.string ⟨#[43]⟩, .string ⟨#[45]⟩] 9) (w.heap.size + 1)
 have H1 := qh h1
 clear hok hbad hone hA hN H h1
 go_enter Tryz.func281, Tryz.ntmps281
 go_wp2_with fail
 refine DU w0 _ _ pb d (w.heap.size + 1) af st (Ty.products af ONE) (Ty.left_adv HA.out) (Ty.left_nx HN.out) [⟨#[43]⟩, ⟨#[45]⟩] (by decide) 318 _ Tryz.call318 (fun w1 h => ⟨(h.unpack (i := 0) rfl).lt 2 rfl, fun j hj => (h.unpack (i := 0) rfl).cell 2 rfl j (by
     match j, hj with
     | 0, _ => rfl
     | 1, _ => rfl)⟩) (fun s w1 h R hok hbad => zU HONE.out HA.out HN.out w0 w1 _ pb w.heap.size s h (fun w' h' => (h'.unpack (i := 0) rfl).cell 1 rfl 0 rfl) hok hbad) (H1.out.at 1 rfl) (fun n s2 w2 hm h2 => ?_) (fun f w2 hm h2 => ?_)
 · have HM : Hid (Ty.sums af ONE st = .ok (n, s2)) := hm
   have H2 := qh h2.un4
   clear hm h2
   go_wp2_with fail
   exact HOK.out _ _ _ HM.out (H2.out.pick [0, 1])
 · have HM : Hid (Ty.sums af ONE st = .error f) := hm
   have H2 := qh (h2.unpack (i := 0) rfl)
   clear hm h2
   go_wp2_with fail
   exact ⟨rfl, HBAD.out _ _ HM.out (H2.out.pick [0])⟩
def exB : List ByteArray := [⟨#[61, 61]⟩, ⟨#[60]⟩]
def zq : Array Value := #[.string ⟨#[61, 61]⟩, .string ⟨#[60]⟩]
theorem xB (hone : cO 319 af d ONE) (hA : Ty.Adv 1 0 0 ONE) (hN : Ty.Nx ONE) (w0 w : World) (Fr : As) (pb xb : Nat) (st : Ty.St) (H : Sat w0 w [Fr, aC pb d af st]) (hx : ∀ w1, Sat w0 w1 [Fr] → w1.cell? ⟨xb, 0, none⟩ = some (.pointer (some ⟨pb, 0, none⟩))) {R : Ending → World → Prop}
   (hok : ∀ n s2 w2, Ty.exprM af ONE st = .ok (n, s2) → Sat w0 w2 [Fr, aC pb d af s2] → R (.returned (.int .i64 (n : Nat))) w2)
   (hbad : ∀ f w2, Ty.exprM af ONE st = .error f → Sat w0 w2 [Fr] → R (.panicked (aI f)) w2) :
   Calls Tryz.prog 280 #[.pointer (some ⟨xb, 0, none⟩)] w R := by
 have HOK := qh hok
 have HBAD := qh hbad
 have HSUM := qh (sum_any hone hA hN)
 have HA := qh (Ty.sums_adv (af := af) hA)
 have HN := qh (Ty.sums_nx (af := af) hN)
 have HX := qh hx
 have x0 := hx w (H.pick [0])
 have HS := qh H
 have htl := H.look.wf.1
 clear hok hbad hone hA hN H hx
 go_enter Tryz.func280, Tryz.ntmps280
 go_wp2_with fail
 refine HSUM.out _ _ _ pb _ HS.out _ (fun n s1 w1 hm h1 => ?_) (fun e w1 hm h1 => ?_)
 rotate_left
 · have HE : Hid (Ty.exprM af ONE st = .error e) := by show _ = _; rw [Ty.exprM, Ty.bnd_err hm]
   have H1 := qh h1
   clear hm h1 x0
   go_wp2_with fail
   exact ⟨rfl, HBAD.out _ _ HE.out H1.out⟩
 have hnl := (HN.out _ _ _ hm).2.1
 have HYES : Hid (∀ k (hk : k < exB.length) s', (∀ j (hj : j < exB.length), j < k → Ty.take af exB[j].data.toList s1 = .ok (false, s1)) → Ty.take af exB[k].data.toList s1 = .ok (true, s') → Ty.exprM af ONE st = Ty.bnd (Ty.sums af ONE) (fun m => Ty.two exB[k] n m) s') := fun k hk s' h0 h1 => by
   rw [Ty.exprM, Ty.bnd_ok hm]
   match k, hk with
   | 0, _ => rw [Ty.bnd_ok (show Ty.take af [61, 61] s1 = _ from h1)]; rfl
   | 1, _ => rw [Ty.bnd_ok (show Ty.take af [61, 61] s1 = _ from h0 0 (by decide) (by decide))]; show Ty.bnd _ _ s1 = _; rw [Ty.bnd_ok (show Ty.take af [60] s1 = _ from h1)]; rfl
 have HNO : Hid ((∀ j (hj : j < exB.length), Ty.take af exB[j].data.toList s1 = .ok (false, s1)) → Ty.exprM af ONE st = .ok (n, s1)) := fun h0 => by
   rw [Ty.exprM, Ty.bnd_ok hm, Ty.bnd_ok (show Ty.take af [61, 61] s1 = _ from h0 0 (by decide))]; show Ty.bnd _ _ s1 = _; rw [Ty.bnd_ok (show Ty.take af [60] s1 = _ from h0 1 (by decide))]; rfl
 have h2 := h1.aj (.cells zq 9) w1.heap.size
 have hfit := h1.look.fits.2.2.2
 have H2 := qh h2
 clear hm h1 h2 x0
 go_wp2_with fail
 go_loopw [9] (fun i wr => ∃ k : Nat, k ≤ 2 ∧ i = .int .i64 k ∧ Hid (Sat w0 wr [Fr, aC pb d af s1, blk w1.heap.size (.cells zq 9 (0, 0))]) ∧ Hid (∀ j (hj : j < exB.length), j < k → Ty.take af exB[j].data.toList s1 = .ok (false, s1))) (fun i _ => 2 - (intOf i).toNat)
 case atStart => exact ⟨0, by omega, rfl, H2.out, fun j hj h => by omega⟩
 case round =>
   obtain ⟨k, hk, rfl, hS, hnot⟩ := hrel
   have x1 := HX.out wr (hS.out.pick [0])
   by_cases hlt : k < 2
   · have hkl : k < exB.length := hlt
     have d0 : wr.cell? ⟨w1.heap.size, k, none⟩ = some (.string exB[k]) := hS.out.cell 2 rfl k (by
       match k, hlt with
       | 0, _ => rfl
       | 1, _ => rfl)
     have HY := qh (fun s' => HYES.out k hkl s' hnot.out)
     have HX2 : Hid (Ty.take af exB[k].data.toList s1 = .ok (false, s1) → ∀ j (hj : j < exB.length), j < k + 1 → Ty.take af exB[j].data.toList s1 = .ok (false, s1)) := fun h j hj hjk => by
       by_cases e : j = k
       · subst e; exact h
       · exact hnot.out j hj (by omega)
     have hzb := hS.out.lt 2 rfl
     generalize exB[k] = x at *
     clear hkl
     go_wp2_with fail
     refine take_any (hS.out.at 1 rfl) x (fun w2 hi h3 => ?_) (fun w2 hi h3 => ?_)
     · have HE := qh (HY.out _ hi)
       have h4 := h3.un3
       have x2 := HX.out w2 (h4.pick [0])
       have H5 := qh (HSUM.out w0 w2.drew _ pb _ (h4.drew.at 1 rfl))
       clear hi h3 h4 x1 d0
       go_wp2_with fail
       go_region_law (first | (go_simp; go_at_call 281; refine H5.out _ (fun m s3 w3 hm3 h6 => ?_) (fun f w3 hm3 h6 => ?_); rotate_left; (exact ⟨rfl, HBAD.out _ _ (HE.out.trans (by rw [Ty.bnd_err hm3])) ((h6.unpack (i := 0) rfl).pick [0])⟩); have had := HA.out _ _ _ hm3; have hpl := (HN.out _ _ _ hm3).1.length_le; dsimp only at had hpl; have H7 := qh h6.un3; have x3 := HX.out w3 (H7.out.pick [0]); have HM3 := qh hm3; clear h6 hm3) | (go_simp; go_at_call 282; refine two_any (H7.out.at 1 rfl) x (by omega) (by omega) (fun q s4 w4 hm4 h8 => ?_)))
       all_goals
         have HM4 := qh hm4
         have H8 := qh h8.un3
         clear hm4 h8
         go_simp
         go_wp2_with fail
         exact HOK.out _ _ _ (HE.out.trans (by rw [Ty.bnd_ok HM3.out]; exact HM4.out)) (H8.out.pick [0, 1])
     · have HX3 := qh (HX2.out hi)
       have H3 := qh h3.un3
       clear hi h3 HX2
       go_wp2_with fail
       go_roundw
       case rel => exact ⟨k + 1, by omega, by go_num, H3, HX3⟩
       case measure => simp [intOf]; omega
   · have hke : k = 2 := by omega
     subst hke
     have HE := qh (HNO.out (fun j hj => hnot.out j hj hj))
     clear hnot
     go_wp2_with fail
     exact HOK.out _ _ _ HE.out (hS.out.pick [0, 1])
end
end
end Go.Proofs.YtdlbhiaceheffabGreatDoor
