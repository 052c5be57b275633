/- Nodes that are read; walks of the parser's of, start, two. -/
import Derived.Test.YtdlbhiaceheffabGreatDoorY11
import Derived.Test.YtdlbhiaceheffabGreatDoorY13
set_option linter.all false
set_option maxRecDepth 100000
set_option maxHeartbeats 4000000
namespace Go.Proofs.YtdlbhiaceheffabGreatDoor
section
open Go Go.RowKit
open Prt (Sat As blk pur exs star ah)
theorem flat_get {α : Type} (f : α → List Value) (m : Nat) (hf : ∀ x, (f x).length = m) : ∀ (l : List α) (n : Nat) (hn : n < l.length) (i : Nat), i < m → (l.flatMap f)[n * m + i]? = (f l[n])[i]?
 | [], n, hn, _, _ => by simp at hn
 | a :: l, 0, _, i, hi => by
   rw [List.flatMap_cons, List.getElem?_append_left (by rw [hf]; omega)]
   simp
 | a :: l, n + 1, hn, i, hi => by
   have e : (n + 1) * m + i - m = n * m + i := by rw [Nat.succ_mul]; omega
   rw [List.flatMap_cons, List.getElem?_append_right (by rw [hf, Nat.succ_mul]; omega), hf, e]
   exact flat_get f m hf l n (by simpa using hn) i hi
structure NRd (w : World) (v : Value) (rows : List NdRow) : Prop where
 row : w.ownsRow 0 66 9 v rows.length (rows.flatMap aY)
 bits : ∀ r ∈ rows, w.ownsRow 0 3 1 r.lv r.t.list.length (r.t.list.map aA)
theorem NRd.below {w w' : World} {v : Value} {rows : List NdRow} (h : NRd w v rows) (hb : Below w.heap.size w w') : NRd w' v rows :=
 ⟨aH h.row hb, fun r hr => aH (h.bits r hr) hb⟩
structure NdAt (w : World) (g n : Nat) (t : Ty.Nd) (lv : Value) : Prop where
 q0 : w.cell? ⟨g, n * 9, none⟩ = some (.int .i64 t.kind)
 q1 : w.cell? ⟨g, n * 9 + 1, none⟩ = some (.int .i64 t.a)
 q2 : w.cell? ⟨g, n * 9 + 2, none⟩ = some (.int .i64 t.b)
 q3 : w.cell? ⟨g, n * 9 + 3, none⟩ = some (.int .i64 t.c)
 q4 : w.cell? ⟨g, n * 9 + 4, none⟩ = some lv
 q5 : w.cell? ⟨g, n * 9 + 5, none⟩ = some (.string t.text)
 q6 : w.cell? ⟨g, n * 9 + 6, none⟩ = some (.int .i64 t.n)
 q7 : w.cell? ⟨g, n * 9 + 7, none⟩ = some (.int .i64 t.ty)
 q8 : w.cell? ⟨g, n * 9 + 8, none⟩ = some (.int .i64 t.pos)
theorem NRd.look {w : World} {v : Value} {rows : List NdRow} {ns : List Ty.Nd} (h : NRd w v rows) (hns : rows.map NdRow.t = ns) {n : Nat} (hn : n < ns.length) :
   ∃ (g cap : Nat) (lv : Value), v = .slice (some ⟨g, 0, none⟩) ns.length cap ∧ g < w.heap.size ∧ ns.length ≤ cap ∧ cap ≤ maxLen ∧ NdAt w g n ns[n] lv ∧ w.ownsRow 0 3 1 lv ns[n].list.length (ns[n].list.map aA) := by
 have hl : rows.length = ns.length := by rw [← hns]; simp
 have hn2 : n < rows.length := by omega
 obtain ⟨g, cap, hv, _, hg⟩ := h.row.form (by omega)
 have hc := World.ownsRow.cells h.row (g := g) (by rw [hv]; rfl)
 have hcap : rows.length ≤ cap ∧ cap ≤ maxLen := by
   rcases h.row.2 with ⟨_, h0⟩ | ⟨g', cap', cur, e4, _, _, h5, h6, _⟩
   · omega
   · rw [hv] at e4; cases e4; exact ⟨h5, h6⟩
 have ht : rows[n].t = ns[n] := by subst hns; simp
 have key : ∀ i, i < 9 → ∀ x, (aY rows[n])[i]? = some x → w.cell? ⟨g, n * 9 + i, none⟩ = some x := fun i hi x hx => by
   have := hc (n * 9 + i) x (by rw [flat_get aY 9 (fun _ => rfl) rows n hn2 i hi]; exact hx)
   rwa [Addr.add_lit, Nat.zero_add] at this
 refine ⟨g, cap, rows[n].lv, by rw [hv, hl], hg, by omega, hcap.2, ⟨?_, ?_, ?_, ?_, ?_, ?_, ?_, ?_, ?_⟩, ?_⟩
 · exact key 0 (by omega) _ (by rw [← ht]; rfl)
 · exact key 1 (by omega) _ (by rw [← ht]; rfl)
 · exact key 2 (by omega) _ (by rw [← ht]; rfl)
 · exact key 3 (by omega) _ (by rw [← ht]; rfl)
 · exact key 4 (by omega) _ rfl
 · exact key 5 (by omega) _ (by rw [← ht]; rfl)
 · exact key 6 (by omega) _ (by rw [← ht]; rfl)
 · exact key 7 (by omega) _ (by rw [← ht]; rfl)
 · exact key 8 (by omega) _ (by rw [← ht]; rfl)
 · rw [← ht]; exact h.bits _ (List.getElem_mem _)
theorem Prt.Sat.gZ {w0 w : World} {L : List As} (h : Sat w0 w L) (i : Nat) {v : Value} {ns : List Ty.Nd} (hi : L[i]? = some (ndA v ns)) : ∃ rows, rows.map NdRow.t = ns ∧ NRd w v rows := by
 refine h.get hi fun a ha hl => ?_
 obtain ⟨rows, x, y, _, _, hy, hp, z, u, _, hz, hu, h1, q, _, _, hq, _, hbits, _⟩ := ha
 have e : ns.length = rows.length := by have := congrArg List.length (show rows.map NdRow.t = ns from hp); simpa using this.symm
 have hyw : Prt.le y (Prt.hp w) := Prt.le_trans hy hl
 refine ⟨rows, hp, ⟨?_, fun r hr => ?_⟩⟩
 · rw [← e]; exact iD (kR h1 (Prt.le_trans hz hyw))
 · obtain ⟨b, hb, hp2⟩ := mW hbits _ (List.mem_map_of_mem (f := fun r : NdRow => inA r.lv r.t.list) hr)
   exact iD (kR hp2 (Prt.le_trans hb (Prt.le_trans hq (Prt.le_trans hu hyw))))
theorem wM {st : Ty.St} {n : Nat} (hn : n < st.ns.length) : Ty.ndAt st n = st.ns[n] := by unfold Ty.ndAt; rw [List.getElem?_eq_getElem hn]; rfl
section
variable {w0 w : World} {Fr : As} {pb d : Nat} {af : List Tok.Tk} {st : Ty.St}
theorem Prt.Sat.nT (h : Sat w0 w [Fr, aC pb d af st]) {n : Nat} (hn : n < st.ns.length) : ∃ (g cap : Nat) (lv : Value), w.cell? ⟨pb, 3, none⟩ = some (.slice (some ⟨g, 0, none⟩) st.ns.length cap) ∧ g < w.heap.size ∧ st.ns.length ≤ cap ∧ cap ≤ maxLen ∧ NdAt w g n (Ty.ndAt st n) lv ∧ w.ownsRow 0 3 1 lv (Ty.ndAt st n).list.length ((Ty.ndAt st n).list.map aA) := by
 obtain ⟨⟨lv0, nv, tv, main⟩, h⟩ := h.jd
 obtain ⟨rows, hr, hrd⟩ := h.gZ 4 rfl
 obtain ⟨g, cap, lv, e, h1, h2, h3, h4, h5⟩ := hrd.look hr hn
 have c3 := h.cell 2 rfl 3 rfl
 dsimp only at e c3
 subst e
 rw [wM hn]
 exact ⟨g, cap, lv, c3, h1, h2, h3, h4, h5⟩
theorem gp (w : World) (kind pos : Nat) {R : Ending → World → Prop} (hR : ∀ w', Below w.heap.size w w' → R (.returned (.agg #[.int .i64 kind, .int .i64 0, .int .i64 0, .int .i64 0, .slice none 0 0, .string ⟨#[]⟩, .int .i64 0, .int .i64 (-1), .int .i64 pos])) w') :
   Calls Tryz.prog 74 #[.int .i64 kind, .int .i64 pos] w R := by
 have HR := qh hR
 clear hR
 go_enter Tryz.func74, Tryz.ntmps74
 go_wp2_with fail
 refine bodyPost_ret ?_ rfl (HR.out _ ?_)
 · simp [results, Tryz.results74, go_sem]
 · first | exact (Below.refl _ _).alloc (Nat.le_refl _) _ | (repeat' (first | exact Below.refl _ _ | apply Below.drew | apply Below.setCell | apply Below.alloc | (simp; done) | (simp; omega) | omega))
theorem mY (H : Sat w0 w [Fr, aC pb d af st]) {n : Nat} (hn : n < st.ns.length) {R : Ending → World → Prop} (hR : R (.returned (.int .i64 (Ty.ndAt st n).pos)) w) :
   Calls Tryz.prog 320 #[.pointer (some ⟨pb, 0, none⟩), .int .i64 (n : Nat)] w R := by
 have HR := qh hR
 have hlk := H.look
 have hlt := hlk.lt
 have hns : st.ns.length ≤ 1002 := by have := hlk.fits; have := hlk.wf.1; omega
 obtain ⟨g, cap, lv, c3, hg, h2, h3, hA, _⟩ := H.nT hn
 obtain ⟨_, _, _, _, _, _, _, _, q8⟩ := hA
 generalize Ty.ndAt st n = t at *
 clear hR H hlk
 go_enter Tryz.func320, Tryz.ntmps320
 go_wp2_with fail
 exact HR.out
theorem two_any (H : Sat w0 w [Fr, aC pb d af st]) (x : ByteArray) {a b : Nat} (ha : a < st.ns.length) (hb : st.ns.length ≤ st.pos) {R : Ending → World → Prop}
   (hR : ∀ n s2 w', Ty.two x a b st = .ok (n, s2) → Sat w0 w' [Fr, aC pb d af s2] → R (.returned (.int .i64 (n : Nat))) w') :
   Calls Tryz.prog 282 #[.pointer (some ⟨pb, 0, none⟩), .string x, .int .i64 (a : Nat), .int .i64 (b : Nat)] w R := by
 have HR := qh hR
 have HS := qh H
 have HA := qh ha
 have HB := qh hb
 clear hR H ha hb
 go_enter Tryz.func282, Tryz.ntmps282
 go_wp2_with fail
 refine mY HS.out HA.out ?_
 have HE : Hid (Ty.two x a b st = .ok (st.ns.length, { st with ns := st.ns ++ [{ Ty.ndOf 12 (Ty.ndAt st a).pos with text := x, a := a, b := b }] })) := rfl
 generalize (Ty.ndAt st a).pos = ps at *
 go_wp2_with fail
 refine gp w 12 ps (fun w1 hb1 => ?_)
 have H1 := qh (HS.out.below hb1)
 clear hb1
 go_wp2_with fail
 refine aO { Ty.ndOf 12 ps with text := x, a := a, b := b } (.slice none 0 0) ((H1.out.ay _).nil 3 1) HB.out (fun w2 h2 => ?_)
 have H2 := qh h2
 clear h2
 go_wp2_with fail
 exact HR.out _ _ _ HE.out H2.out
end
def gW (af : List Tok.Tk) (l : List ByteArray) (pos : Nat) : Bool := l.any fun x => Ty.is af x.data.toList pos
theorem xO (w : World) (pb d : Nat) (af : List Tok.Tk) (st : Ty.St) (h : PRd w pb d af st) (g : Nat) (l : List ByteArray) (hl : l.length ≤ 10) (hg : g < w.heap.size) (hcell : ∀ j (hj : j < l.length), w.cell? ⟨g, j, none⟩ = some (.string l[j])) {R : Ending → World → Prop}
   (hyes : ∀ (r : Nat) w', Below w.heap.size w w' → gW af l st.pos = true → r ≤ 10 → R (.returned (.int .i64 r)) w') (hno : ∀ w', Below w.heap.size w w' → gW af l st.pos = false → R (.returned (.int .i64 (-1))) w') :
   Calls Tryz.prog 343 #[.slice (some ⟨g, 0, none⟩) l.length l.length, .func (.func 210) #[.pointer (some ⟨pb, 0, none⟩)] #[]] w R := by
 have HY := qh hyes
 have HNO := qh hno
 have HC := qh hcell
 have HP := qh h
 have hc := Tryz.call210
 clear hyes hno hcell h
 go_enter Tryz.func343, Tryz.ntmps343
 go_wp2_with fail
 go_loopw [8] (fun i wr => ∃ k : Nat, k ≤ l.length ∧ i = .int .i64 k ∧ Hid (Below w.heap.size w wr) ∧ Hid (∀ j (hj : j < l.length), j < k → Ty.is af l[j].data.toList st.pos = false)) (fun i _ => l.length - (intOf i).toNat)
 case atStart => exact ⟨0, by omega, rfl, Below.refl _ _, fun j hj h => by omega⟩
 case round =>
   obtain ⟨k, hk, rfl, hb, hf⟩ := hrel
   have hgr : g < wr.heap.size := Nat.lt_of_lt_of_le hg hb.out.size
   by_cases hlt : k < l.length
   · have d0 := (hb.out.cell (p := ⟨g, k, none⟩) hg).trans (HC.out k hlt)
     have HT : Hid (Ty.is af l[k].data.toList st.pos = true → gW af l st.pos = true) := fun h => List.any_eq_true.2 ⟨l[k], List.getElem_mem hlt, h⟩
     have HN : Hid (Ty.is af l[k].data.toList st.pos = false → ∀ j (hj : j < l.length), j < k + 1 → Ty.is af l[j].data.toList st.pos = false) := fun h j hj hjk => by
       by_cases e : j = k
       · subst e; exact h
       · exact hf.out j hj (by omega)
     generalize l[k] = x at *
     go_wp2_with fail
     refine iF wr pb d af st (HP.out.below hb.out) x (fun w2 hb2 => ?_)
     have HB2 := qh (hb.out.trans (hb2.mono hb.out.size))
     clear hb2
     generalize Ty.is af x.data.toList st.pos = fk at *
     cases fk
     · have HN2 := qh (HN.out rfl)
       go_wp2_with fail
       go_roundw
       case rel => exact ⟨k + 1, by omega, by go_num, HB2, HN2⟩
       case measure => simp [intOf]; omega
     · have HT2 := qh (HT.out rfl)
       go_wp2_with fail
       exact HY.out k _ HB2.out HT2.out (by omega)
   · have hke : k = l.length := by omega
     have HN : Hid (gW af l st.pos = false) := by
       show _ = _
       unfold gW
       rw [List.any_eq_false]
       intro x hx
       obtain ⟨j, hj, rfl⟩ := List.mem_iff_getElem.1 hx
       rw [hf.out j hj (by omega)]; simp
     clear hke
     go_wp2_with fail
     exact HNO.out _ hb.out HN.out
theorem mV (w : World) (pb d : Nat) (af : List Tok.Tk) (st : Ty.St) (h : PRd w pb d af st) (g : Nat) (l : List ByteArray) (hl : l.length ≤ 10) (hg : g < w.heap.size) (hcell : ∀ j (hj : j < l.length), w.cell? ⟨g, j, none⟩ = some (.string l[j])) {R : Ending → World → Prop}
   (hR : ∀ w', Below w.heap.size w w' → R (.returned (.bool (gW af l st.pos))) w') :
   Calls Tryz.prog 334 #[.slice (some ⟨g, 0, none⟩) l.length l.length, .func (.func 210) #[.pointer (some ⟨pb, 0, none⟩)] #[]] w R := by
 have HR := qh hR
 clear hR
 have HX := qh (fun R h1 h2 => @xO w pb d af st h g l hl hg hcell R h1 h2)
 clear hcell h hg
 go_enter Tryz.func334, Tryz.ntmps334
 go_wp2_with fail
 refine HX.out _ (fun r w1 hb ha hr => ?_) (fun w1 hb ha => ?_)
 · rw [ha] at HR
   have HB := qh hb
   clear ha hb
   go_wp2_with fail
   exact HR.out _ HB.out
 · rw [ha] at HR
   have HB := qh hb
   clear ha hb
   go_wp2_with fail
   exact HR.out _ HB.out
theorem pU {af : List Tok.Tk} {l : List ByteArray} {pos : Nat} (hp : pos < af.length) (hl : gJ af) (h : gW af l pos = true) : pos + 1 < af.length := by
 obtain ⟨x, _, hx⟩ := List.any_eq_true.1 h
 exact is_lt hp hl hx
theorem mQ (af : List Tok.Tk) (l : List ByteArray) (pos : Nat) : (l.map fun x => x.data.toList).any (fun x => Ty.is af x pos) = gW af l pos := by
 unfold gW; rw [List.any_map]; rfl
theorem DU (w0 w : World) (Fr : As) (pb d sb : Nat) (af : List Tok.Tk) (st : Ty.St) (one : Ty.M Nat) (hA : Ty.Adv 1 0 0 one) (hN : Ty.Nx one) (signs : List ByteArray) (hsl : signs.length ≤ 10) (F : FuncId) (c : Value)
   (hc : ∀ (args : Array Value) (w : World), (callFunc F args).run Tryz.prog w = .ok (.enter F args) w)
   (hsg : ∀ w1, Sat w0 w1 [Fr] → sb < w1.heap.size ∧ ∀ j (hj : j < signs.length), w1.cell? ⟨sb, j, none⟩ = some (.string signs[j]))
   (hdo : ∀ s w1, Sat w0 w1 [Fr, aC pb d af s] → ∀ R : Ending → World → Prop,
     (∀ n s2 w2, one s = .ok (n, s2) → Sat w0 w2 [Fr, aC pb d af s2] → R (.returned (.int .i64 (n : Nat))) w2) →
     (∀ f w2, one s = .error f → Sat w0 w2 [Fr] → R (.panicked (aI f)) w2) → Calls Tryz.prog F #[c] w1 R)
   (H : Sat w0 w [Fr, aC pb d af st]) {R : Ending → World → Prop}
   (hok : ∀ n s2 w2, Ty.left af one (signs.map fun x => x.data.toList) st = .ok (n, s2) → Sat w0 w2 [Fr, aC pb d af s2] → R (.returned (.int .i64 (n : Nat))) w2)
   (hbad : ∀ f w2, Ty.left af one (signs.map fun x => x.data.toList) st = .error f → Sat w0 w2 [Fr] → R (.panicked (aI f)) w2) :
   Calls Tryz.prog 317 #[.pointer (some ⟨pb, 0, none⟩), .func (.func F) #[] #[c], .slice (some ⟨sb, 0, none⟩) signs.length signs.length] w R := by
 have HOK := qh hok
 have HBAD := qh hbad
 have HDO := qh hdo
 have HSG := qh hsg
 have HA := qh hA
 have HNX := qh hN
 have hlk := H.look
 have htl := hlk.wf.1
 have HWF := qh hlk.wf
 have HS := qh H
 clear hok hbad hdo hsg hA hN H hlk
 go_enter Tryz.func317, Tryz.ntmps317
 go_wp2_with fail
 refine HDO.out _ _ HS.out _ (fun n s1 w1 hm h1 => ?_) (fun e w1 hm h1 => ?_)
 rotate_left
 · have HM := qh hm
   have H1 := qh h1
   clear hm h1
   go_wp2_with fail
   exact ⟨rfl, HBAD.out _ _ (by rw [Ty.left, Ty.bnd_err HM.out]) H1.out⟩
 have hnl := (HNX.out _ _ _ hm).2.1
 have hl1 := h1.look.fits.1
 have HEQ : Hid (Ty.left af one (signs.map fun x => x.data.toList) st = Ty.leftLoop af one (signs.map fun x => x.data.toList) (af.length + 1) n s1) := by show _ = _; rw [Ty.left, Ty.bnd_ok hm]
 have H1 := qh h1
 clear hm h1
 go_wp2_with fail
 go_loopw [7] (fun v wr => ∃ (f n : Nat) (s : Ty.St), v = .int .i64 n ∧ s.pos < af.length ∧ af.length < s.pos + f ∧ n + 1 = s.ns.length ∧ Hid (Sat w0 wr [Fr, aC pb d af s]) ∧ Hid (Ty.left af one (signs.map fun x => x.data.toList) st = Ty.leftLoop af one (signs.map fun x => x.data.toList) f n s))
   (fun _ wr => af.length - posOf pb wr)
 case atStart => exact ⟨af.length + 1, n, s1, rfl, hl1, by omega, hnl, H1.out, HEQ.out⟩
 case round =>
   obtain ⟨f, n, s, rfl, hp, hf, hn, hS, hE⟩ := hrel
   obtain ⟨f, rfl⟩ : ∃ g, f = g + 1 := ⟨f - 1, by omega⟩
   have HPO := qh (bD hS.out.look)
   have hfit := hS.out.look.fits.2.2.2
   obtain ⟨hsb, hsc⟩ := HSG.out wr (hS.out.pick [0])
   have HL := qh hS.out.look
   have hE2 : Ty.left af one (signs.map fun x => x.data.toList) st = if gW af signs s.pos = true then (Ty.bnd one fun b => Ty.bnd (Ty.two (Ty.cur af s.pos).text n b) fun m => Ty.leftLoop af one (signs.map fun x => x.data.toList) f m) { s with pos := s.pos + 1 } else .ok (n, s) := by
     rw [hE.out, Ty.leftLoop, Ty.look, mQ]
     split <;> rfl
   have HAI := qh (fun w1 (hb : Below wr.heap.size wr w1) R hR => @mV w1 pb d af s (HL.out.below hb) sb signs hsl (Nat.lt_of_lt_of_le hsb hb.size) (fun j hj => (hb.cell (p := ⟨sb, j, none⟩) hsb).trans (hsc j hj)) R hR)
   have hlt := fun h => pU (l := signs) hp HWF.out h
   have HN := qh (fun R hR => @dU wr pb d af s HL.out R hR)
   generalize gW af signs s.pos = ai at *
   generalize Ty.cur af s.pos = t at *
   obtain ⟨kd, tx, ps⟩ := t
   dsimp only at hE2
   have HE2 := qh hE2
   have hf1 := iV
   clear hE2 hE hsc
   go_wp2_with fail
   refine HN.out _ (fun w2 hb2 => ?_)
   dsimp only [aQ]
   have HB2 := qh hb2
   clear hb2
   go_wp2_with fail
   refine HAI.out w2 HB2.out _ (fun w3 hb3 => ?_)
   have HB3 := qh (HB2.out.trans (hb3.mono HB2.out.size))
   clear hb3
   cases ai
   · have HE3 : Hid (Ty.left af one (signs.map fun x => x.data.toList) st = .ok (n, s)) := by show _ = _; rw [HE2.out]; rfl
     go_wp2_with fail
     exact HOK.out _ _ _ HE3.out (hS.out.below HB3.out)
   · have hlt1 := hlt rfl
     have HE3 : Hid (Ty.left af one (signs.map fun x => x.data.toList) st = (Ty.bnd one fun b => Ty.bnd (Ty.two tx n b) fun m => Ty.leftLoop af one (signs.map fun x => x.data.toList) f m) { s with pos := s.pos + 1 }) := by show _ = _; rw [HE2.out]; rfl
     have h3 := hS.out.below HB3.out
     obtain ⟨c1, _, f0⟩ := h3.look.cells
     have hz3 := h3.look.lt
     have H3 := qh (h3.setPos (s.pos + 1) hlt1 (by omega))
     clear hlt h3
     go_wp2_with fail
     refine HDO.out _ _ H3.out _ (fun b s4 w4 hm h4 => ?_) (fun e w4 hm h4 => ?_)
     · have had := HA.out _ _ _ hm
       have hnx := HNX.out _ _ _ hm
       have hpl := hnx.1.length_le
       have HE4 : Hid (Ty.left af one (signs.map fun x => x.data.toList) st = (Ty.bnd (Ty.two tx n b) fun m => Ty.leftLoop af one (signs.map fun x => x.data.toList) f m) s4) := by show _ = _; rw [HE3.out, Ty.bnd_ok hm]
       have H4 := qh h4
       dsimp only at had hpl
       clear hm h4 hnx
       go_wp2_with fail
       refine two_any H4.out tx (by omega) (by omega) (fun m s5 w5 hm h5 => ?_)
       have HE5 : Hid (Ty.left af one (signs.map fun x => x.data.toList) st = Ty.leftLoop af one (signs.map fun x => x.data.toList) f m s5) := by show _ = _; rw [HE4.out, Ty.bnd_ok hm]
       have hm2 := (Ty.Nx.two tx n b _ _ _ hm).2.1
       have had2 := Ty.Adv.two tx n b _ _ _ hm
       have hp5 := h5.look.fits.1
       have HPO5 := qh (bD h5.look)
       have H5 := qh h5
       clear hm h5
       go_wp2_with fail
       go_roundw
       case rel => exact ⟨f, m, s5, rfl, hp5, by omega, hm2, H5.out, HE5.out⟩
       case measure => rw [HPO.out, HPO5.out]; omega
     · have HE4 : Hid (Ty.left af one (signs.map fun x => x.data.toList) st = .error e) := by show _ = _; rw [HE3.out, Ty.bnd_err hm]
       have H4 := qh h4
       clear hm h4
       go_wp2_with fail
       exact ⟨rfl, HBAD.out _ _ HE4.out H4.out⟩
theorem DF (w0 w : World) (Fr : As) (pb d sb : Nat) (af : List Tok.Tk) (st : Ty.St) (one : Ty.M Nat) (hA : Ty.Adv 1 0 0 one) (hN : Ty.Nx one) (signs : List ByteArray) (hsl : signs.length ≤ 10) (F : FuncId) (c : Value)
   (hc : ∀ (args : Array Value) (w : World), (callFunc F args).run Tryz.prog w = .ok (.enter F args) w)
   (hsg : ∀ w1, Sat w0 w1 [Fr] → sb < w1.heap.size ∧ ∀ j (hj : j < signs.length), w1.cell? ⟨sb, j, none⟩ = some (.string signs[j]))
   (hdo : ∀ s w1, Sat w0 w1 [Fr, aC pb d af s] → ∀ R : Ending → World → Prop,
     (∀ n s2 w2, one s = .ok (n, s2) → Sat w0 w2 [Fr, aC pb d af s2] → R (.returned (.int .i64 (n : Nat))) w2) →
     (∀ f w2, one s = .error f → Sat w0 w2 [Fr] → R (.panicked (aI f)) w2) → Calls Tryz.prog F #[c] w1 R)
   (H : Sat w0 w [Fr, aC pb d af st]) {R : Ending → World → Prop}
   (hok : ∀ n s2 w2, Ty.left af one (signs.map fun x => x.data.toList) st = .ok (n, s2) → Sat w0 w2 [Fr, aC pb d af s2] → R (.returned (.int .i64 (n : Nat))) w2)
   (hbad : ∀ f w2, Ty.left af one (signs.map fun x => x.data.toList) st = .error f → Sat w0 w2 [Fr] → R (.panicked (aI f)) w2) :
   Calls Tryz.prog 317 #[.pointer (some ⟨pb, 0, none⟩), .func (.func F) #[c] #[], .slice (some ⟨sb, 0, none⟩) signs.length signs.length] w R := by
 have HOK := qh hok
 have HBAD := qh hbad
 have HDO := qh hdo
 have HSG := qh hsg
 have HA := qh hA
 have HNX := qh hN
 have hlk := H.look
 have htl := hlk.wf.1
 have HWF := qh hlk.wf
 have HS := qh H
 clear hok hbad hdo hsg hA hN H hlk
 go_enter Tryz.func317, Tryz.ntmps317
 go_wp2_with fail
 refine HDO.out _ _ HS.out _ (fun n s1 w1 hm h1 => ?_) (fun e w1 hm h1 => ?_)
 rotate_left
 · have HM := qh hm
   have H1 := qh h1
   clear hm h1
   go_wp2_with fail
   exact ⟨rfl, HBAD.out _ _ (by rw [Ty.left, Ty.bnd_err HM.out]) H1.out⟩
 have hnl := (HNX.out _ _ _ hm).2.1
 have hl1 := h1.look.fits.1
 have HEQ : Hid (Ty.left af one (signs.map fun x => x.data.toList) st = Ty.leftLoop af one (signs.map fun x => x.data.toList) (af.length + 1) n s1) := by show _ = _; rw [Ty.left, Ty.bnd_ok hm]
 have H1 := qh h1
 clear hm h1
 go_wp2_with fail
 go_loopw [7] (fun v wr => ∃ (f n : Nat) (s : Ty.St), v = .int .i64 n ∧ s.pos < af.length ∧ af.length < s.pos + f ∧ n + 1 = s.ns.length ∧ Hid (Sat w0 wr [Fr, aC pb d af s]) ∧ Hid (Ty.left af one (signs.map fun x => x.data.toList) st = Ty.leftLoop af one (signs.map fun x => x.data.toList) f n s))
   (fun _ wr => af.length - posOf pb wr)
 case atStart => exact ⟨af.length + 1, n, s1, rfl, hl1, by omega, hnl, H1.out, HEQ.out⟩
 case round =>
   obtain ⟨f, n, s, rfl, hp, hf, hn, hS, hE⟩ := hrel
   obtain ⟨f, rfl⟩ : ∃ g, f = g + 1 := ⟨f - 1, by omega⟩
   have HPO := qh (bD hS.out.look)
   have hfit := hS.out.look.fits.2.2.2
   obtain ⟨hsb, hsc⟩ := HSG.out wr (hS.out.pick [0])
   have HL := qh hS.out.look
   have hE2 : Ty.left af one (signs.map fun x => x.data.toList) st = if gW af signs s.pos = true then (Ty.bnd one fun b => Ty.bnd (Ty.two (Ty.cur af s.pos).text n b) fun m => Ty.leftLoop af one (signs.map fun x => x.data.toList) f m) { s with pos := s.pos + 1 } else .ok (n, s) := by
     rw [hE.out, Ty.leftLoop, Ty.look, mQ]
     split <;> rfl
   have HAI := qh (fun w1 (hb : Below wr.heap.size wr w1) R hR => @mV w1 pb d af s (HL.out.below hb) sb signs hsl (Nat.lt_of_lt_of_le hsb hb.size) (fun j hj => (hb.cell (p := ⟨sb, j, none⟩) hsb).trans (hsc j hj)) R hR)
   have hlt := fun h => pU (l := signs) hp HWF.out h
   have HN := qh (fun R hR => @dU wr pb d af s HL.out R hR)
   generalize gW af signs s.pos = ai at *
   generalize Ty.cur af s.pos = t at *
   obtain ⟨kd, tx, ps⟩ := t
   dsimp only at hE2
   have HE2 := qh hE2
   have hf1 := iV
   clear hE2 hE hsc
   go_wp2_with fail
   refine HN.out _ (fun w2 hb2 => ?_)
   dsimp only [aQ]
   have HB2 := qh hb2
   clear hb2
   go_wp2_with fail
   refine HAI.out w2 HB2.out _ (fun w3 hb3 => ?_)
   have HB3 := qh (HB2.out.trans (hb3.mono HB2.out.size))
   clear hb3
   cases ai
   · have HE3 : Hid (Ty.left af one (signs.map fun x => x.data.toList) st = .ok (n, s)) := by show _ = _; rw [HE2.out]; rfl
     go_wp2_with fail
     exact HOK.out _ _ _ HE3.out (hS.out.below HB3.out)
   · have hlt1 := hlt rfl
     have HE3 : Hid (Ty.left af one (signs.map fun x => x.data.toList) st = (Ty.bnd one fun b => Ty.bnd (Ty.two tx n b) fun m => Ty.leftLoop af one (signs.map fun x => x.data.toList) f m) { s with pos := s.pos + 1 }) := by show _ = _; rw [HE2.out]; rfl
     have h3 := hS.out.below HB3.out
     obtain ⟨c1, _, f0⟩ := h3.look.cells
     have hz3 := h3.look.lt
     have H3 := qh (h3.setPos (s.pos + 1) hlt1 (by omega))
     clear hlt h3
     go_wp2_with fail
     refine HDO.out _ _ H3.out _ (fun b s4 w4 hm h4 => ?_) (fun e w4 hm h4 => ?_)
     · have had := HA.out _ _ _ hm
       have hnx := HNX.out _ _ _ hm
       have hpl := hnx.1.length_le
       have HE4 : Hid (Ty.left af one (signs.map fun x => x.data.toList) st = (Ty.bnd (Ty.two tx n b) fun m => Ty.leftLoop af one (signs.map fun x => x.data.toList) f m) s4) := by show _ = _; rw [HE3.out, Ty.bnd_ok hm]
       have H4 := qh h4
       dsimp only at had hpl
       clear hm h4 hnx
       go_wp2_with fail
       refine two_any H4.out tx (by omega) (by omega) (fun m s5 w5 hm h5 => ?_)
       have HE5 : Hid (Ty.left af one (signs.map fun x => x.data.toList) st = Ty.leftLoop af one (signs.map fun x => x.data.toList) f m s5) := by show _ = _; rw [HE4.out, Ty.bnd_ok hm]
       have hm2 := (Ty.Nx.two tx n b _ _ _ hm).2.1
       have had2 := Ty.Adv.two tx n b _ _ _ hm
       have hp5 := h5.look.fits.1
       have HPO5 := qh (bD h5.look)
       have H5 := qh h5
       clear hm h5
       go_wp2_with fail
       go_roundw
       case rel => exact ⟨f, m, s5, rfl, hp5, by omega, hm2, H5.out, HE5.out⟩
       case measure => rw [HPO.out, HPO5.out]; omega
     · have HE4 : Hid (Ty.left af one (signs.map fun x => x.data.toList) st = .error e) := by show _ = _; rw [HE3.out, Ty.bnd_err hm]
       have H4 := qh h4
       clear hm h4
       go_wp2_with fail
       exact ⟨rfl, HBAD.out _ _ HE4.out H4.out⟩
def PIn (af : List Tok.Tk) (d : Nat) (O : Ty.M Nat) : Prop :=
 ∀ (w0 w : World) (Fr : As) (pb : Nat) (st : Ty.St), Sat w0 w [Fr, aC pb d af st] → ∀ R : Ending → World → Prop,
   (∀ n st2 w2, O st = .ok (n, st2) → Sat w0 w2 [Fr, aC pb d af st2] → R (.returned (.int .i64 (n : Nat))) w2) →
   (∀ f w2, O st = .error f → Sat w0 w2 [Fr] → R (.panicked (aI f)) w2) → Calls Tryz.prog 130 #[.pointer (some ⟨pb, 0, none⟩), .func (.func 319) #[.pointer (some ⟨pb, 0, none⟩)] #[]] w R
structure Lo (af : List Tok.Tk) (d : Nat) (T E O S : Ty.M Nat) : Prop where
 t : cO 120 af d T
 e : cO 209 af d E
 o : PIn af d O
 s : cO 76 af d S
 at' : Ty.Adv 1 0 0 T
 ae : Ty.Adv 1 0 0 E
 ao : Ty.Adv 1 0 0 O
 as' : Ty.Adv 1 0 0 S
 pt : Ty.Pre T
 ne : Ty.Nx E
 no : Ty.Nx O
 ns : Ty.Nx S
section
variable {w0 w : World} {Fr : As} {pb d : Nat} {af : List Tok.Tk} {st : Ty.St} {T E O S : Ty.M Nat}
theorem iG (L : Lo af d T E O S) (H : Sat w0 w [Fr, aC pb d af st]) {R : Ending → World → Prop}
   (hok : ∀ (n : Int) s2 w2, Ty.written af T st = .ok (n, s2) → Sat w0 w2 [Fr, aC pb d af s2] → R (.returned (.int .i64 n)) w2)
   (hbad : ∀ f w2, Ty.written af T st = .error f → Sat w0 w2 [Fr] → R (.panicked (aI f)) w2) :
   Calls Tryz.prog 207 #[.pointer (some ⟨pb, 0, none⟩)] w R := by
 have HOK := qh hok
 have HBAD := qh hbad
 have HS := qh H
 have HT := qh L.t
 clear hok hbad H L
 go_enter Tryz.func207, Tryz.ntmps207
 go_wp2_with fail
 refine take_any HS.out ⟨#[58]⟩ (fun w1 hi h1 => ?_) (fun w1 hi h1 => ?_)
 · have HI := qh hi
   have H1 := qh h1
   clear hi h1
   go_wp2_with fail
   refine HT.out _ _ _ pb _ H1.out _ (fun n s2 w2 hm h2 => ?_) (fun e w2 hm h2 => ?_)
   · have HM := qh hm
     have H2 := qh h2
     clear hm h2
     go_wp2_with fail
     exact HOK.out _ _ _ (by rw [Ty.written, Ty.bnd_ok HI.out, if_pos rfl, Ty.bnd_ok HM.out]; rfl) H2.out
   · have HM := qh hm
     have H2 := qh h2
     clear hm h2
     go_wp2_with fail
     exact ⟨rfl, HBAD.out _ _ (by rw [Ty.written, Ty.bnd_ok HI.out, if_pos rfl, Ty.bnd_err HM.out]) H2.out⟩
 · have HI := qh hi
   have H1 := qh h1
   clear hi h1
   go_wp2_with fail
   exact HOK.out (-1) _ _ (by rw [Ty.written, Ty.bnd_ok HI.out, if_neg (by simp)]; rfl) H1.out
end
def nlC (k a p : Int) (lv : Value) : Obj := .cells #[.int .i64 k, .int .i64 a, .int .i64 0, .int .i64 0, lv, .string ⟨#[]⟩, .int .i64 0, .int .i64 (-1), .int .i64 p] 66 (0, 0)
def nlA (pb nb xb : Nat) (k a p : Int) (l : List Nat) : As := exs fun v : Value => ah [blk nb (nlC k a p v), inA v l, xbA pb xb]
theorem Prt.Sat.pz {w0 w : World} {A B : As} {pb nb xb : Nat} {k a p : Int} {l : List Nat} (H : Sat w0 w [A, B, nlA pb nb xb k a p l]) : ∃ v, Sat w0 w [A, B, blk nb (nlC k a p v), inA v l, xbA pb xb] := by
 obtain ⟨v, hs⟩ := H.ex (i := 2) rfl
 exact ⟨v, hs.unpack (i := 2) rfl⟩
theorem qO (w0 w : World) (Fr : As) (pb nb xb d : Nat) (af : List Tok.Tk) (E : Ty.M Nat) (hspec : cO 209 af d E) (k0 a0 p0 : Int)
   (l : List Nat) (s : Ty.St) (H : Sat w0 w [Fr, aC pb d af s, nlA pb nb xb k0 a0 p0 l]) (hl : l.length ≤ s.pos) {R : Ending → World → Prop}
   (hok : ∀ n s2 w2, E s = .ok (n, s2) → Sat w0 w2 [Fr, aC pb d af s2, nlA pb nb xb k0 a0 p0 (l ++ [n])] → R (.returned (.tuple #[])) w2)
   (hbad : ∀ f w2, E s = .error f → Sat w0 w2 [Fr] → R (.panicked (aI f)) w2) :
   Calls Tryz.prog 344 #[.pointer (some ⟨nb, 0, none⟩), .pointer (some ⟨xb, 0, none⟩)] w R := by
 have HOK := qh hok
 have HBAD := qh hbad
 have hlk := H.jH
 have hpos := hlk.fits.1
 have htl := hlk.wf.1
 obtain ⟨v, hs⟩ := H.pz
 obtain ⟨a, cap0, rfl⟩ := ag (hs.row 3 rfl)
 have c1 := hs.cell 2 rfl 4 rfl
 have c2 := hs.cell 4 rfl 0 rfl
 have HS := qh (hspec w0 w.drew _ pb s (hs.drew.at 1 rfl))
 obtain ⟨i0, ti, tz0, tz1, tz2⟩ := info_parts bY
 clear hok hbad hspec H hlk hs
 go_enter Tryz.func344, Tryz.ntmps344
 go_wp2_with fail
 go_region_law (first | (go_simp; go_at_call 209; refine HS.out _ (fun n s2 w2 hm h2 => ?_) (fun f w2 hm h2 => ⟨rfl, HBAD.out _ _ hm ((h2.unpack (i := 0) rfl).pick [0])⟩); have h3 : Sat w0 w2 [Fr, aC pb d af s2, blk nb (nlC k0 a0 p0 (.slice a l.length cap0)), inA (.slice a l.length cap0) l, xbA pb xb] := (Prt.Sat.lI (L := [Fr, aC pb d af s, blk nb (nlC k0 a0 p0 (.slice a l.length cap0)), inA (.slice a l.length cap0) l, xbA pb xb]) (i := 1) (by simp) h2); have d1 := h3.cell 2 rfl 4 rfl; have d2 := (h3.ay (.cells #[.int .i64 n] 3)).cell 2 rfl 4 rfl; have H3 := qh h3; clear h2 h3) | (go_loud (refine step_append_lies _ (by rfl) _ _ _ (by rfl) 0 3 i0 _ 1 8 Tryz.underlying39 ti tz0 tz1 tz2 rfl (by omega) (.slice a l.length cap0) l.length (l.map aA) (by rfl) ((H3.out.row 3 rfl).alloc _) ⟨w2.heap.size, 0, none⟩ 1 1 [.int .i64 n] (by rfl) (by rfl) (World.news_of_block (cs := #[.int .i64 n]) (t := 3) (fr := (0, 0)) (ak _ _ _ (by simp))) (by simp [Value.oneCell']) (by omega) (by unfold maxLen; omega) (by omega) (by simp) (w2.heap.size + 1) (by simp) ?_); intro g cap w3 hown3 hgrow3 hat3 hlt3; have h4 := Prt.Sat.grow (H3.out.ay _) 3 rfl hgrow3 hown3 (by simpa using hat3); have d3 := h4.cell 2 rfl 4 rfl; have f3 := h4.free 2 rfl 4; have H4 := qh h4; clear h4))
 all_goals
   clear hown3 hgrow3
   go_wp2_with fail
   go_end0
   exact HOK.out n s2 _ hm (((H4.out.store 2 rfl 4 _).ent (i := 3) rfl (Q := inA (.slice (some ⟨g, 0, none⟩) (l.length + 1) cap) (l ++ [n])) (fun _ h => bz h) |> Prt.Sat.pack (L := [Fr, aC pb d af s2])).ent (i := 2) rfl (fun _ h => ⟨_, h⟩))
theorem ru (w0 w : World) (Fr : As) (pb nb xb d : Nat) (af : List Tok.Tk) (E : Ty.M Nat) (hspec : cO 209 af d E) (k0 a0 p0 : Int)
   (l : List Nat) (s : Ty.St) (H : Sat w0 w [Fr, aC pb d af s, nlA pb nb xb k0 a0 p0 l]) (hl : l.length ≤ s.pos) {R : Ending → World → Prop}
   (hok : ∀ n s2 w2, E s = .ok (n, s2) → Sat w0 w2 [Fr, aC pb d af s2, nlA pb nb xb k0 a0 p0 (l ++ [n])] → R (.returned (.tuple #[])) w2)
   (hbad : ∀ f w2, E s = .error f → Sat w0 w2 [Fr] → R (.panicked (aI f)) w2) :
   Calls Tryz.prog 347 #[.pointer (some ⟨nb, 0, none⟩), .pointer (some ⟨xb, 0, none⟩)] w R := by
 have HOK := qh hok
 have HBAD := qh hbad
 have hlk := H.jH
 have hpos := hlk.fits.1
 have htl := hlk.wf.1
 obtain ⟨v, hs⟩ := H.pz
 obtain ⟨a, cap0, rfl⟩ := ag (hs.row 3 rfl)
 have c1 := hs.cell 2 rfl 4 rfl
 have c2 := hs.cell 4 rfl 0 rfl
 have HS := qh (hspec w0 w.drew _ pb s (hs.drew.at 1 rfl))
 obtain ⟨i0, ti, tz0, tz1, tz2⟩ := info_parts bY
 clear hok hbad hspec H hlk hs
 go_enter Tryz.func347, Tryz.ntmps347
 go_wp2_with fail
 go_region_law (first | (go_simp; go_at_call 209; refine HS.out _ (fun n s2 w2 hm h2 => ?_) (fun f w2 hm h2 => ⟨rfl, HBAD.out _ _ hm ((h2.unpack (i := 0) rfl).pick [0])⟩); have h3 : Sat w0 w2 [Fr, aC pb d af s2, blk nb (nlC k0 a0 p0 (.slice a l.length cap0)), inA (.slice a l.length cap0) l, xbA pb xb] := (Prt.Sat.lI (L := [Fr, aC pb d af s, blk nb (nlC k0 a0 p0 (.slice a l.length cap0)), inA (.slice a l.length cap0) l, xbA pb xb]) (i := 1) (by simp) h2); have d1 := h3.cell 2 rfl 4 rfl; have d2 := (h3.ay (.cells #[.int .i64 n] 3)).cell 2 rfl 4 rfl; have H3 := qh h3; clear h2 h3) | (go_loud (refine step_append_lies _ (by rfl) _ _ _ (by rfl) 0 3 i0 _ 1 8 Tryz.underlying39 ti tz0 tz1 tz2 rfl (by omega) (.slice a l.length cap0) l.length (l.map aA) (by rfl) ((H3.out.row 3 rfl).alloc _) ⟨w2.heap.size, 0, none⟩ 1 1 [.int .i64 n] (by rfl) (by rfl) (World.news_of_block (cs := #[.int .i64 n]) (t := 3) (fr := (0, 0)) (ak _ _ _ (by simp))) (by simp [Value.oneCell']) (by omega) (by unfold maxLen; omega) (by omega) (by simp) (w2.heap.size + 1) (by simp) ?_); intro g cap w3 hown3 hgrow3 hat3 hlt3; have h4 := Prt.Sat.grow (H3.out.ay _) 3 rfl hgrow3 hown3 (by simpa using hat3); have d3 := h4.cell 2 rfl 4 rfl; have f3 := h4.free 2 rfl 4; have H4 := qh h4; clear h4))
 all_goals
   clear hown3 hgrow3
   go_wp2_with fail
   go_end0
   exact HOK.out n s2 _ hm (((H4.out.store 2 rfl 4 _).ent (i := 3) rfl (Q := inA (.slice (some ⟨g, 0, none⟩) (l.length + 1) cap) (l ++ [n])) (fun _ h => bz h) |> Prt.Sat.pack (L := [Fr, aC pb d af s2])).ent (i := 2) rfl (fun _ h => ⟨_, h⟩))
namespace Ty
def bhA (af : List Tok.Tk) (T E : M Nat) (f a p : Nat) : M Nat := bnd (list af [41] (fun _ => E) (af.length + 1) []) fun l => bnd (addNode { ndOf 7 p with a := a, list := l }) fun m => behind af T E f m
def bhB (af : List Tok.Tk) (T E : M Nat) (f a p : Nat) : M Nat := bnd (name af []) fun x => bnd (addNode { ndOf 8 p with a := a, text := x }) fun m => behind af T E f m
def bhC (af : List Tok.Tk) (T E : M Nat) (f a p : Nat) : M Nat := bnd E fun c => bnd (need af [93]) fun _ => bnd (addNode { ndOf 9 p with a := a, b := c }) fun m => behind af T E f m
def bhD (af : List Tok.Tk) (T E : M Nat) (f a p : Nat) : M Nat := bnd T fun t => bnd (addNode { ndOf 14 p with a := a, ty := (t : Int) }) fun m => behind af T E f m
section
variable {af : List Tok.Tk} {T E : M Nat} {f a : Nat} {s s1 : St}
theorem Es (h : take af [40] s = .ok (true, s1)) : behind af T E (f + 1) a s = bhA af T E f a (ndAt s a).pos s1 := by
 rw [behind]; show bnd _ _ s = _; rw [bnd_ok h]; rfl
theorem Ez (h0 : take af [40] s = .ok (false, s)) (h : take af [46] s = .ok (true, s1)) : behind af T E (f + 1) a s = bhB af T E f a (ndAt s a).pos s1 := by
 rw [behind]; show bnd _ _ s = _; rw [bnd_ok h0]; show bnd _ _ s = _; rw [bnd_ok h]; rfl
theorem EP (h0 : take af [40] s = .ok (false, s)) (h1 : take af [46] s = .ok (false, s)) (h : take af [91] s = .ok (true, s1)) : behind af T E (f + 1) a s = bhC af T E f a (ndAt s a).pos s1 := by
 rw [behind]; show bnd _ _ s = _; rw [bnd_ok h0]; show bnd _ _ s = _; rw [bnd_ok h1]; show bnd _ _ s = _; rw [bnd_ok h]; rfl
theorem EG (h0 : take af [40] s = .ok (false, s)) (h1 : take af [46] s = .ok (false, s)) (h2 : take af [91] s = .ok (false, s)) (h : take af [97, 115] s = .ok (true, s1)) : behind af T E (f + 1) a s = bhD af T E f a (ndAt s a).pos s1 := by
 rw [behind]; show bnd _ _ s = _; rw [bnd_ok h0]; show bnd _ _ s = _; rw [bnd_ok h1]; show bnd _ _ s = _; rw [bnd_ok h2]; show bnd _ _ s = _; rw [bnd_ok h]; rfl
theorem Et (h0 : take af [40] s = .ok (false, s)) (h1 : take af [46] s = .ok (false, s)) (h2 : take af [91] s = .ok (false, s)) (h3 : take af [97, 115] s = .ok (false, s)) : behind af T E (f + 1) a s = .ok (a, s) := by
 rw [behind]; show bnd _ _ s = _; rw [bnd_ok h0]; show bnd _ _ s = _; rw [bnd_ok h1]; show bnd _ _ s = _; rw [bnd_ok h2]; show bnd _ _ s = _; rw [bnd_ok h3]; rfl
end
end Ty
theorem nilRow (w : World) : w.ownsRow 0 9 1 (.slice none 0 0) ([] : List ByteArray).length (([] : List ByteArray).map Value.string) := ⟨rfl, .inl ⟨rfl, rfl⟩⟩
theorem Prt.Sat.jQ {w0 w : World} {Fr P X B A : As} (h : Sat w0 w [Fr, P, X, B, A]) : Sat w0 w [ah [Fr, X, B], P, A] := (Prt.Sat.pack (L := [_, _]) (M := [_, _, _]) (h.pick [1, 4, 0, 2, 3])).pick [2, 0, 1]
theorem Prt.Sat.lS {w0 w : World} {Fr P X B : As} (h : Sat w0 w [ah [Fr, X, B], P]) : Sat w0 w [Fr, P, X] := (h.unpack (i := 0) rfl).pick [1, 0, 2]
theorem uq {w0 w : World} {Fr : As} {pb d : Nat} {af : List Tok.Tk} {st : Ty.St} {T E O S : Ty.M Nat} (L : Lo af d T E O S) (H : Sat w0 w [Fr, aC pb d af st]) {a0 : Nat} (ha : a0 + 1 = st.ns.length) {R : Ending → World → Prop}
   (hok : ∀ n s2 w2, Ty.behind af T E (af.length + 1) a0 st = .ok (n, s2) → Sat w0 w2 [Fr, aC pb d af s2] → R (.returned (.int .i64 (n : Nat))) w2)
   (hbad : ∀ f w2, Ty.behind af T E (af.length + 1) a0 st = .error f → Sat w0 w2 [Fr] → R (.panicked (aI f)) w2) :
   Calls Tryz.prog 335 #[.pointer (some ⟨pb, 0, none⟩), .int .i64 (a0 : Nat)] w R := by
 have HOK := qh hok
 have HBAD := qh hbad
 have HL := qh L
 have hlk := H.look
 have htl := hlk.wf.1
 have hpos := hlk.fits.1
 have h1 : Sat w0 _ [Fr, aC pb d af st, xbA pb w.heap.size] := H.aj (.cells #[.pointer (some ⟨pb, 0, none⟩)] 80) w.heap.size
 have H1 := qh h1
 clear hok hbad H L hlk h1
 go_enter Tryz.func335, Tryz.ntmps335
 go_wp2_with fail
 go_loopw [1] (fun v wr => ∃ (f a : Nat) (s : Ty.St), v = .int .i64 a ∧ s.pos < af.length ∧ af.length < s.pos + f ∧ a + 1 = s.ns.length ∧ Hid (Sat w0 wr [Fr, aC pb d af s, xbA pb w.heap.size]) ∧ Hid (∀ r, Ty.behind af T E f a s = r → Ty.behind af T E (af.length + 1) a0 st = r))
   (fun _ wr => af.length - posOf pb wr)
 case atStart => exact ⟨af.length + 1, a0, st, rfl, hpos, by omega, ha, H1.out, fun r h => h⟩
 case round =>
   obtain ⟨f, a, s, rfl, hp, hf, hn, hS, hE⟩ := hrel
   obtain ⟨f, rfl⟩ : ∃ g, f = g + 1 := ⟨f - 1, by omega⟩
   have HPO := qh (bD (hS.out.pick [0, 1]).look)
   have hfit := (hS.out.pick [0, 1]).look.fits.2.2
   have x0 := hS.out.cell 2 rfl 0 rfl
   go_wp2_with fail
   refine mY (hS.out.at 1 rfl) (by omega) ?_
   have HB := qh hE.out
   obtain ⟨ps, hps⟩ : ∃ ps, (Ty.ndAt s a).pos = ps := ⟨_, rfl⟩
   rw [hps]
   have HPS := qh hps
   clear hps hE
   go_wp2_with fail
   refine gp wr 0 ps (fun w1 hb1 => ?_)
   have h1 := (hS.out.below hb1).aj (.cells #[.int .i64 0, .int .i64 a, .int .i64 0, .int .i64 0, .slice none 0 0, .string ⟨#[]⟩, .int .i64 0, .int .i64 (-1), .int .i64 ps] 66) w1.heap.size
   have x1 := (hS.out.below hb1).cell 2 rfl 0 rfl
   have z1 := h1.cell 2 rfl 0 rfl
   have hne := h1.ne 2 3 (by decide) rfl rfl
   have H1 := qh h1
   clear hb1 x0 h1
   go_wp2_with fail
   refine take_any (H1.out.at 1 rfl) ⟨#[40]⟩ (fun w2 hi h2 => ?_) (fun w2 hi h2 => ?_)
   · have h3 := h2.un4
     have y0 := h3.cell 3 rfl 0 rfl
     have fz := h3.free 3 rfl
     have hz := h3.lt 3 rfl
     have z2 := h3.cell 2 rfl 0 rfl
     have HE2 : Hid (Ty.behind af T E (af.length + 1) a0 st = Ty.bhA af T E f a ps { s with pos := s.pos + 1 }) := HB.out _ (by rw [Ty.Es hi, HPS.out])
     have H3 := qh h3
     clear hi h2 h3 z1
     go_wp2_with fail
     have h4 := H3.out.store 3 rfl 0 (.int .i64 7)
     have h5 : Sat w0 _ [Fr, aC pb d af { s with pos := s.pos + 1 }, nlA pb w1.heap.size w.heap.size 7 a ps []] := (Prt.Sat.pack (L := [_, _]) (M := [_, _, _]) ((h4.nil 3 1).pick [0, 1, 3, 4, 2])).ent (i := 2) rfl (fun _ h => ⟨_, h⟩)
     refine iM w0 _ Fr pb d af _ (nlA pb w1.heap.size w.heap.size 7 a ps) h5 ⟨#[41]⟩ 344 _ Tryz.call344 (fun _ => E) (fun _ => HL.out.ae) (fun l s w1 h hl R hok hbad => qO w0 w1 Fr pb _ _ d af E HL.out.e 7 a ps l s h hl hok hbad) (fun l s4 w4 hm hl4 h6 => ?_) (fun e w4 hm h6 => ?_)
     · have had := Ty.list_adv (fun _ => HL.out.ae) _ _ _ _ _ hm
       dsimp only at had
       obtain ⟨v, h7⟩ := h6.pz
       obtain ⟨va, vc, rfl⟩ := ag (h7.row 3 rfl)
       have q0 := h7.cell 2 rfl 0 rfl
       have q1 := h7.cell 2 rfl 1 rfl
       have q2 := h7.cell 2 rfl 2 rfl
       have q3 := h7.cell 2 rfl 3 rfl
       have q4 := h7.cell 2 rfl 4 rfl
       have q5 := h7.cell 2 rfl 5 rfl
       have q6 := h7.cell 2 rfl 6 rfl
       have q7 := h7.cell 2 rfl 7 rfl
       have q8 := h7.cell 2 rfl 8 rfl
       have zx := h7.cell 4 rfl 0 rfl
       have HE3 : Hid (Ty.behind af T E (af.length + 1) a0 st = Ty.bnd (Ty.addNode { Ty.ndOf 7 ps with a := a, list := l }) (fun m => Ty.behind af T E f m) s4) := HE2.out.trans (by rw [Ty.bhA, Ty.bnd_ok hm])
       have H7 := qh h7
       clear hm h6 h7 h4 h5 z2 y0 fz hz
       go_wp2_with fail
       refine aO { Ty.ndOf 7 ps with a := a, list := l } (.slice va l.length vc) ((H7.out.pick [0, 1, 4, 2, 3]).jQ) (by omega) (fun w5 h8 => ?_)
       have h6 := h8.lS
       have hp6 := (h6.pick [0, 1]).look.fits.1
       have HPO6 := qh (bD (h6.pick [0, 1]).look)
       have H6 := qh h6
       have HE6 : Hid (∀ r, Ty.behind af T E f s4.ns.length { s4 with ns := s4.ns ++ [{ Ty.ndOf 7 ps with a := a, list := l }] } = r → Ty.behind af T E (af.length + 1) a0 st = r) := fun r h => HE3.out.trans h
       clear h8 h6
       go_wp2_with fail
       go_roundw
       case rel => exact ⟨f, s4.ns.length, { s4 with ns := s4.ns ++ [{ Ty.ndOf 7 ps with a := a, list := l }] }, rfl, hp6, by first | omega | (dsimp only; omega), by simp, H6, HE6⟩
       case measure => rw [HPO.out, HPO6.out]; first | omega | (dsimp only; omega) | (dsimp only at *; omega)
     · have HE3 : Hid (Ty.behind af T E (af.length + 1) a0 st = .error e) := HE2.out.trans (by rw [Ty.bhA, Ty.bnd_err hm])
       have H6 := qh h6
       clear hm h6 h4 h5
       go_wp2_with fail
       exact ⟨rfl, HBAD.out _ _ HE3.out H6.out⟩
   · have h3 := h2.un4
     have z2 := h3.cell 2 rfl 0 rfl
     have HA := qh hi
     have H3 := qh h3
     clear hi h2 h3 z1
     go_wp2_with fail
     refine take_any (H3.out.at 1 rfl) ⟨#[46]⟩ (fun w3 hi h2 => ?_) (fun w3 hi h2 => ?_)
     · have h3 := h2.un4
       have z3 := h3.cell 2 rfl 0 rfl
       have HE2 : Hid (Ty.behind af T E (af.length + 1) a0 st = Ty.bhB af T E f a ps { s with pos := s.pos + 1 }) := HB.out _ (by rw [Ty.Ez HA.out hi, HPS.out])
       have H4 := qh h3
       clear hi h2 h3 z2
       go_wp2_with fail
       refine gY (H4.out.at 1 rfl) _ [] (nilRow _) (by simp) (fun x w4 hm h5 => ?_) (fun e w4 hm h5 => ?_)
       · have h7 := h5.un4
         have y0 := h7.cell 3 rfl 0 rfl
         have y5 := h7.cell 3 rfl 5 rfl
         have fz := h7.free 3 rfl
         have hz := h7.lt 3 rfl
         have q1 := h7.cell 3 rfl 1 rfl
         have q2 := h7.cell 3 rfl 2 rfl
         have q3 := h7.cell 3 rfl 3 rfl
         have q4 := h7.cell 3 rfl 4 rfl
         have q6 := h7.cell 3 rfl 6 rfl
         have q7 := h7.cell 3 rfl 7 rfl
         have q8 := h7.cell 3 rfl 8 rfl
         have zx := h7.cell 2 rfl 0 rfl
         have HE3 : Hid (Ty.behind af T E (af.length + 1) a0 st = Ty.bnd (Ty.addNode { Ty.ndOf 8 ps with a := a, text := x }) (fun m => Ty.behind af T E f m) { s with pos := s.pos + 1 + 1 }) := HE2.out.trans (by rw [Ty.bhB, Ty.bnd_ok hm])
         have H7 := qh (((h7.store 3 rfl 0 (.int .i64 8)).store 3 rfl 5 (.string x)).nil 3 1)
         clear hm h5 h7 z3
         go_wp2_with fail
         refine aO { Ty.ndOf 8 ps with a := a, text := x } (.slice none 0 0) (H7.out.jQ) (by first | omega | (dsimp only; omega)) (fun w5 h8 => ?_)
         have h6 := h8.lS
         have hp6 := (h6.pick [0, 1]).look.fits.1
         have HPO6 := qh (bD (h6.pick [0, 1]).look)
         have H6 := qh h6
         have HE6 : Hid (∀ r, Ty.behind af T E f s.ns.length { s with pos := s.pos + 1 + 1, ns := s.ns ++ [{ Ty.ndOf 8 ps with a := a, text := x }] } = r → Ty.behind af T E (af.length + 1) a0 st = r) := fun r h => HE3.out.trans h
         clear h8 h6
         go_wp2_with fail
         go_roundw
         case rel => exact ⟨f, s.ns.length, { s with pos := s.pos + 1 + 1, ns := s.ns ++ [{ Ty.ndOf 8 ps with a := a, text := x }] }, rfl, hp6, by first | omega | (dsimp only; omega), by simp, H6, HE6⟩
         case measure => rw [HPO.out, HPO6.out]; first | omega | (dsimp only; omega) | (dsimp only at *; omega)
       · have HE3 : Hid (Ty.behind af T E (af.length + 1) a0 st = .error e) := HE2.out.trans (by rw [Ty.bhB, Ty.bnd_err hm])
         have H6 := qh (h5.unpack (i := 0) rfl)
         clear hm h5
         go_wp2_with fail
         exact ⟨rfl, HBAD.out _ _ HE3.out (H6.out.pick [0])⟩
     · have h3 := h2.un4
       have z3 := h3.cell 2 rfl 0 rfl
       have HA2 := qh hi
       have H4 := qh h3
       clear hi h2 h3 z2
       go_wp2_with fail
       refine take_any (H4.out.at 1 rfl) ⟨#[91]⟩ (fun w4 hi h2 => ?_) (fun w4 hi h2 => ?_)
       · have h3 := h2.un4
         have z4 := h3.cell 2 rfl 0 rfl
         have HE2 : Hid (Ty.behind af T E (af.length + 1) a0 st = Ty.bhC af T E f a ps { s with pos := s.pos + 1 }) := HB.out _ (by rw [Ty.EP HA.out HA2.out hi, HPS.out])
         have H5 := qh h3
         clear hi h2 h3 z3
         go_wp2_with fail
         refine HL.out.e _ _ _ pb _ (H5.out.at 1 rfl) _ (fun c s5 w5 hm h5 => ?_) (fun e w5 hm h5 => ?_)
         · have had := HL.out.ae _ _ _ hm
           dsimp only at had
           have h7 := h5.un4
           have y0 := h7.cell 3 rfl 0 rfl
           have y2 := h7.cell 3 rfl 2 rfl
           have fz := h7.free 3 rfl
           have hz := h7.lt 3 rfl
           have zx := h7.cell 2 rfl 0 rfl
           have HE3 : Hid (Ty.behind af T E (af.length + 1) a0 st = Ty.bnd (Ty.need af [93]) (fun _ => Ty.bnd (Ty.addNode { Ty.ndOf 9 ps with a := a, b := c }) fun m => Ty.behind af T E f m) s5) := HE2.out.trans (by rw [Ty.bhC, Ty.bnd_ok hm])
           have H7 := qh ((h7.store 3 rfl 0 (.int .i64 9)).store 3 rfl 2 (.int .i64 (c : Nat)))
           clear hm h5 h7 z4
           go_wp2_with fail
           refine aZ (H7.out.at 1 rfl) ⟨#[93]⟩ (fun w6 hi h2 => ?_) (fun e w6 hi h2 => ?_)
           · have h7 := (h2.un4).nil 3 1
             have q0 := h7.cell 3 rfl 0 rfl
             have q1 := h7.cell 3 rfl 1 rfl
             have q2 := h7.cell 3 rfl 2 rfl
             have q3 := h7.cell 3 rfl 3 rfl
             have q4 := h7.cell 3 rfl 4 rfl
             have q5 := h7.cell 3 rfl 5 rfl
             have q6 := h7.cell 3 rfl 6 rfl
             have q7 := h7.cell 3 rfl 7 rfl
             have q8 := h7.cell 3 rfl 8 rfl
             have zx := h7.cell 2 rfl 0 rfl
             have HE4 : Hid (Ty.behind af T E (af.length + 1) a0 st = Ty.bnd (Ty.addNode { Ty.ndOf 9 ps with a := a, b := c }) (fun m => Ty.behind af T E f m) { s5 with pos := s5.pos + 1 }) := HE3.out.trans (by rw [Ty.bnd_ok hi])
             have H8 := qh h7
             clear hi h2 h7 y0 y2 fz hz
             go_wp2_with fail
             refine aO { Ty.ndOf 9 ps with a := a, b := c } (.slice none 0 0) (H8.out.jQ) (by first | omega | (dsimp only; omega)) (fun w5 h8 => ?_)
             have h6 := h8.lS
             have hp6 := (h6.pick [0, 1]).look.fits.1
             have HPO6 := qh (bD (h6.pick [0, 1]).look)
             have H6 := qh h6
             have HE6 : Hid (∀ r, Ty.behind af T E f s5.ns.length { s5 with pos := s5.pos + 1, ns := s5.ns ++ [{ Ty.ndOf 9 ps with a := a, b := c }] } = r → Ty.behind af T E (af.length + 1) a0 st = r) := fun r h => HE4.out.trans h
             clear h8 h6
             go_wp2_with fail
             go_roundw
             case rel => exact ⟨f, s5.ns.length, { s5 with pos := s5.pos + 1, ns := s5.ns ++ [{ Ty.ndOf 9 ps with a := a, b := c }] }, rfl, hp6, by first | omega | (dsimp only; omega), by simp, H6, HE6⟩
             case measure => rw [HPO.out, HPO6.out]; first | omega | (dsimp only; omega) | (dsimp only at *; omega)
           · have HE4 : Hid (Ty.behind af T E (af.length + 1) a0 st = .error e) := HE3.out.trans (by rw [Ty.bnd_err hi])
             have H6 := qh (h2.unpack (i := 0) rfl)
             clear hi h2
             go_wp2_with fail
             exact ⟨rfl, HBAD.out _ _ HE4.out (H6.out.pick [0])⟩
         · have HE3 : Hid (Ty.behind af T E (af.length + 1) a0 st = .error e) := HE2.out.trans (by rw [Ty.bhC, Ty.bnd_err hm])
           have H6 := qh (h5.unpack (i := 0) rfl)
           clear hm h5
           go_wp2_with fail
           exact ⟨rfl, HBAD.out _ _ HE3.out (H6.out.pick [0])⟩
       · have h3 := h2.un4
         have z4 := h3.cell 2 rfl 0 rfl
         have HA3 := qh hi
         have H5 := qh h3
         clear hi h2 h3 z3
         go_wp2_with fail
         refine take_any (H5.out.at 1 rfl) ⟨#[97, 115]⟩ (fun w5 hi h2 => ?_) (fun w5 hi h2 => ?_)
         · have h3 := h2.un4
           have z5 := h3.cell 2 rfl 0 rfl
           have HE2 : Hid (Ty.behind af T E (af.length + 1) a0 st = Ty.bhD af T E f a ps { s with pos := s.pos + 1 }) := HB.out _ (by rw [Ty.EG HA.out HA2.out HA3.out hi, HPS.out])
           have H6 := qh h3
           clear hi h2 h3 z4
           go_wp2_with fail
           refine HL.out.t _ _ _ pb _ (H6.out.at 1 rfl) _ (fun c s6 w6 hm h5 => ?_) (fun e w6 hm h5 => ?_)
           · have had := HL.out.at' _ _ _ hm
             dsimp only at had
             have h7 := h5.un4
             have y0 := h7.cell 3 rfl 0 rfl
             have y7 := h7.cell 3 rfl 7 rfl
             have fz := h7.free 3 rfl
             have hz := h7.lt 3 rfl
             have q1 := h7.cell 3 rfl 1 rfl
             have q2 := h7.cell 3 rfl 2 rfl
             have q3 := h7.cell 3 rfl 3 rfl
             have q4 := h7.cell 3 rfl 4 rfl
             have q5 := h7.cell 3 rfl 5 rfl
             have q6 := h7.cell 3 rfl 6 rfl
             have q8 := h7.cell 3 rfl 8 rfl
             have zx := h7.cell 2 rfl 0 rfl
             have HE3 : Hid (Ty.behind af T E (af.length + 1) a0 st = Ty.bnd (Ty.addNode { Ty.ndOf 14 ps with a := a, ty := (c : Int) }) (fun m => Ty.behind af T E f m) s6) := HE2.out.trans (by rw [Ty.bhD, Ty.bnd_ok hm])
             have H7 := qh (((h7.store 3 rfl 0 (.int .i64 14)).store 3 rfl 7 (.int .i64 (c : Nat))).nil 3 1)
             clear hm h5 h7 z5
             go_wp2_with fail
             refine aO { Ty.ndOf 14 ps with a := a, ty := (c : Int) } (.slice none 0 0) (H7.out.jQ) (by first | omega | (dsimp only; omega)) (fun w5 h8 => ?_)
             have h6 := h8.lS
             have hp6 := (h6.pick [0, 1]).look.fits.1
             have HPO6 := qh (bD (h6.pick [0, 1]).look)
             have H6 := qh h6
             have HE6 : Hid (∀ r, Ty.behind af T E f s6.ns.length { s6 with ns := s6.ns ++ [{ Ty.ndOf 14 ps with a := a, ty := (c : Int) }] } = r → Ty.behind af T E (af.length + 1) a0 st = r) := fun r h => HE3.out.trans h
             clear h8 h6
             go_wp2_with fail
             go_roundw
             case rel => exact ⟨f, s6.ns.length, { s6 with ns := s6.ns ++ [{ Ty.ndOf 14 ps with a := a, ty := (c : Int) }] }, rfl, hp6, by first | omega | (dsimp only; omega), by simp, H6, HE6⟩
             case measure => rw [HPO.out, HPO6.out]; first | omega | (dsimp only; omega) | (dsimp only at *; omega)
           · have HE3 : Hid (Ty.behind af T E (af.length + 1) a0 st = .error e) := HE2.out.trans (by rw [Ty.bhD, Ty.bnd_err hm])
             have H6 := qh (h5.unpack (i := 0) rfl)
             clear hm h5
             go_wp2_with fail
             exact ⟨rfl, HBAD.out _ _ HE3.out (H6.out.pick [0])⟩
         · have HE2 : Hid (Ty.behind af T E (af.length + 1) a0 st = .ok (a, s)) := HB.out _ (Ty.Et HA.out HA2.out HA3.out hi)
           have H6 := qh h2.un4
           clear hi h2
           go_wp2_with fail
           exact HOK.out _ _ _ HE2.out (H6.out.pick [0, 1])
end
end Go.Proofs.YtdlbhiaceheffabGreatDoor
