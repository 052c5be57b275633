/- Walks of the parser's newType, name, in. Walks of the parser's name, in, list. Plain facts: the tokens of a scan stand apart. Plain: a fault has an error; a scan ends with its end. -/
import Derived.Deep.RegionHeldLaw
import Derived.Test.YtdlbhiaceheffaaGreatDoorU04
set_option linter.all false
set_option maxRecDepth 100000
namespace Go.Proofs.YtdlbhiaceheffaaGreatDoor
section
open Go Go.RowKit
open Prt (Sat As blk pur exs star stars)
theorem infoTy : (Tryz.prog.info? 77).map (fun i => (i.zero, i.size, i.bytes)) = some (some (.agg #[.int .i64 0, .slice none 0 0, .slice none 0 0, .int .i64 0]), 4, 64) := by kernel_rfl
theorem Prt.stars_snoc {L : List As} {P : As} {h : Prt.Hp} (hs : stars [stars L, P] h) : stars (L ++ [P]) h := by
 obtain ⟨a, b, h1, h2, h3, h4, h5⟩ := hs
 exact Prt.stars_append h4 h5 h1 h2 h3
section
variable {w0 w : World} {Fr : As} {pb d : Nat} {toks : List Tok.Tk} {st : Ty.St}
def parTy (pb d : Nat) (toks : List Tok.Tk) (st : Ty.St) (p : Value × Value × Value × Int) (n : Nat) (cells : List Value) (rows : List TyRow) (ts : List Ty.Ty) : List As :=
 [pur (Toks toks ∧ st.pos < toks.length ∧ d ≤ 20 ∧ st.ts.length ≤ st.pos ∧ st.ns.length ≤ st.pos + 1),
  blk pb (.cells #[p.1, .int .i64 st.pos, .int .i64 d, p.2.1, p.2.2.1, .int .i64 p.2.2.2] 63 (0, 0)), tkA p.1 toks, ndA p.2.1 st.ns,
  pur (rows.map TyRow.t = ts), Prt.row 77 4 p.2.2.1 n cells, stars (rows.map tyBits)]
theorem Prt.Sat.openTy {A B : As} (h : Sat w0 w [Fr, parA pb d toks st, A, B]) : ∃ p rows, Sat w0 w (Fr :: A :: B :: parTy pb d toks st p st.ts.length (rows.flatMap tyCells) rows st.ts) := by
 obtain ⟨p, h⟩ := h.ex (i := 1) rfl
 obtain ⟨rows, h⟩ := (h.unpack (i := 1) rfl).ex (i := 7) rfl
 exact ⟨p, rows, h.unpack (i := 7) rfl⟩
theorem Prt.Sat.shutTy {p : Value × Value × Value × Int} {rows : List TyRow} {t : Ty.Ty} {fv lv : Value} (h : Sat w0 w (Fr :: fdA fv t.fields :: inA lv t.list :: parTy pb d toks st p (st.ts.length + 1) (rows.flatMap tyCells ++ tyCells ⟨t, fv, lv⟩) rows st.ts)) (hb : st.ts.length + 1 ≤ st.pos) :
   Sat w0 w [Fr, parA pb d toks { st with ts := st.ts ++ [t] }] := by
 have h := h.pick [0, 3, 4, 5, 6, 7, 8, 9, 1, 2]
 have hq := h.pure 1 rfl
 have hr := h.pure 5 rfl
 have h := Prt.Sat.pack (L := [Fr, _, _, _, _, _, _, stars (rows.map tyBits)]) (M := [fdA fv t.fields, inA lv t.list]) h
 have h := h.ent (i := 8) rfl (Q := tyBits (TyRow.mk t fv lv)) (fun a ha => by
   obtain ⟨x, y, h1, h2, h3, h4, u, v, _, h6, _, h8, _⟩ := ha
   exact ⟨x, y, h1, h2, h3, h4, (by
     obtain ⟨k1, k2⟩ := h8
     refine ⟨k1, ?_⟩
     rcases k2 with k2 | ⟨g, cap, cur, e1, e2, e3⟩
     · exact .inl k2
     · exact .inr ⟨g, cap, cur, e1, h6 _ _ e2, e3⟩)⟩)
 have h := Prt.Sat.pack (L := [Fr, _, _, _, _, _, _]) (M := [stars (rows.map tyBits), tyBits (TyRow.mk t fv lv)]) h
 have h := h.ent (i := 7) rfl (Q := stars ((rows ++ [TyRow.mk t fv lv]).map tyBits)) (fun a ha => by rw [List.map_append]; exact Prt.stars_snoc ha)
 have h := h.ent (i := 5) rfl (Q := pur ((rows ++ [TyRow.mk t fv lv]).map TyRow.t = st.ts ++ [t])) (fun a _ => by show _ = _; rw [List.map_append, hr]; rfl)
 have h := h.ent (i := 6) rfl (Q := Prt.row 77 4 p.2.2.1 (st.ts ++ [t]).length ((rows ++ [TyRow.mk t fv lv]).flatMap tyCells)) (fun a ha => by rw [List.flatMap_append, List.length_append]; exact ha)
 have h := Prt.Sat.pack (L := [Fr, _, _, _, _]) (M := [_, _, _]) h
 have h := h.ent (i := 5) rfl (Q := tyA p.2.2.1 (st.ts ++ [t])) (fun a ha => ⟨_, ha⟩)
 have h := h.ent (i := 1) rfl (Q := pur (Toks toks ∧ st.pos < toks.length ∧ d ≤ 20 ∧ (st.ts ++ [t]).length ≤ st.pos ∧ st.ns.length ≤ st.pos + 1)) (fun a _ => ⟨hq.1, hq.2.1, hq.2.2.1, by simpa using hb, hq.2.2.2.2⟩)
 exact Prt.Sat.shutPar (p := p) h
theorem newType_any (t : Ty.Ty) (fv lv : Value) (H : Sat w0 w [Fr, parA pb d toks st, fdA fv t.fields, inA lv t.list]) (hb : st.ts.length + 1 ≤ st.pos)
   {R : Ending → World → Prop} (hR : ∀ w', Sat w0 w' [Fr, parA pb d toks { st with ts := st.ts ++ [t] }] → R (.returned (.int .i64 st.ts.length)) w') :
   Calls Tryz.prog 111 #[.pointer (some ⟨pb, 0, none⟩), .agg #[.int .i64 t.kind, fv, lv, .int .i64 t.of]] w R := by
 have HR := qh hR
 obtain ⟨i0, ti, tz0, tz1, tz2⟩ := info_parts infoTy
 obtain ⟨⟨lv0, nv, tv, main⟩, rows, hs⟩ := H.openTy
 have hs : Sat w0 w (Fr :: fdA fv t.fields :: inA lv t.list :: parTy pb d toks st (lv0, nv, tv, main) st.ts.length (rows.flatMap tyCells) rows st.ts) := hs
 have hq := hs.pure 3 rfl
 have hlen := hq.1.1
 have hpos := hq.2.1
 have hts : st.ts.length ≤ 1000 := by omega
 have c4 := hs.cell 4 rfl 4 rfl
 have f4 := hs.free 4 rfl 4
 have hlt := hs.lt 4 rfl
 have hr := hs.row 8 rfl
 obtain ⟨a, cap0, rfl⟩ := owns_slice hr
 obtain ⟨fa, fc, rfl⟩ := owns_slice (hs.row 1 rfl)
 obtain ⟨la, lc, rfl⟩ := owns_slice (hs.row 2 rfl)
 have HROW := qh hr
 have HS := qh hs
 have HB := qh hb
 clear hR H hs hq hr hb
 go_enter Tryz.func111, Tryz.ntmps111
 go_wp2_with fail
 go_region_law (first
   | (go_loud (refine step_append_lies _ (by rfl) _ _ _ (by rfl) 0 77 i0 _ 4 64 Tryz.underlying31 ti tz0 tz1 tz2 rfl (by omega) (.slice a st.ts.length cap0) st.ts.length (rows.flatMap tyCells) (by rfl) (((HROW.out.alloc _).alloc _).drew) ⟨w.heap.size + 1, 0, none⟩ 1 1 [.int .i64 t.kind, .slice fa t.fields.length fc, .slice la t.list.length lc, .int .i64 t.of] (by rfl) (by rfl) (World.news_of_block (cs := #[.int .i64 t.kind, .slice fa t.fields.length fc, .slice la t.list.length lc, .int .i64 t.of]) (t := 77) (fr := (0, 0)) (heap_drew_at (heap_alloc_at' _ _ _ (by simp)))) (by simp [Value.oneCell']) (by omega) (by have := HB.out; unfold maxLen; omega) (by have := HB.out; omega) (by simp) (w.heap.size + 2) (by simp) ?_); intro g cap w1 hown1 hgrow hat hlt1; have h1 := Prt.Sat.grow ((HS.out.waste _).waste _).drew 8 rfl hgrow hown1 (by simpa using hat); have d4 := h1.cell 4 rfl 4 rfl; have e4 := h1.free 4 rfl 4; have H1 := qh h1; clear h1))
 all_goals
   clear hown1 hgrow
   go_wp2_with fail
   exact HR.out _ (Prt.Sat.shutTy (p := (lv0, nv, .slice (some ⟨g, 0, none⟩) (st.ts.length + 1) cap, main)) (rows := rows) (H1.out.store 4 rfl 4 _) HB.out)
end
end
section
open Go Go.RowKit
open Prt (Sat As blk pur exs star stars)
theorem contains_any (w : World) (B : Nat) (v : Value) (l : List ByteArray) (h : w.ownsRow B 9 1 v l.length (l.map Value.string)) (hl : l.length ≤ 100000) (x : ByteArray) {R : Ending → World → Prop} (hR : ∀ r : Bool, (r = true ↔ x ∈ l) → R (.returned (.bool r)) w) :
   Calls Tryz.prog 161 #[v, .string x] w R := by
 obtain ⟨a, cap, rfl⟩ := owns_slice h
 by_cases h0 : l = []
 · subst h0
   refine (Tryz.slices_Contains_string_empty a cap x w).mono ?_
   rintro e w' ⟨rfl, rfl⟩
   exact hR false (by simp)
 · rcases h.2 with ⟨_, hn⟩ | ⟨g, cap', cur, hv, _⟩
   · exact absurd (List.eq_nil_of_length_eq_zero hn) h0
   · have hc := World.ownsRow.cells (g := g) h (by rw [hv]; rfl)
     cases hv
     refine (Tryz.slices_Contains_string g 0 l.length cap l x w (Nat.le_refl _) (by omega) (fun j hj => ?_)).mono ?_
     · have := hc j (.string (l.getD j ByteArray.empty)) (by simp [hj])
       rwa [Addr.add_lit] at this
     · rintro e w' ⟨rfl, rfl⟩
       refine hR _ ?_
       rw [Lib.containsS_iff, List.take_of_length_le (Nat.le_refl _)]
theorem text_mem {x : ByteArray} {l : List ByteArray} : x.data.toList ∈ l.map (fun t => t.data.toList) ↔ x ∈ l := by
 constructor
 · intro h
   obtain ⟨y, hy, e⟩ := List.mem_map.1 h
   have : y = x := by cases x; cases y; simp only at e; congr; exact Array.toList_inj.1 e
   exact this ▸ hy
 · exact fun h => List.mem_map.2 ⟨x, h, rfl⟩
section
variable {w0 w : World} {Fr : As} {pb d : Nat} {toks : List Tok.Tk} {st : Ty.St}
theorem pname_any (H : Sat w0 w [Fr, parA pb d toks st]) (v : Value) (l : List ByteArray) (hv : w.ownsRow 0 9 1 v l.length (l.map Value.string)) (hl : l.length ≤ 2000)
   {R : Ending → World → Prop}
   (hok : ∀ x w', Ty.name toks l st = .ok (x, { st with pos := st.pos + 1 }) → Sat w0 w' [Fr, parA pb d toks { st with pos := st.pos + 1 }] → R (.returned (.string x)) w')
   (hbad : ∀ f w', Ty.name toks l st = .error f → Sat w0 w' [Fr] → R (.panicked (ftChain f)) w') :
   Calls Tryz.prog 130 #[.pointer (some ⟨pb, 0, none⟩), v] w R := by
 have HOK := qh hok
 have HBAD := qh hbad
 have HS := qh H
 have HV := qh hv
 have hlk := H.look
 have HL := qh hlk
 have hlt := fun h1 : (Ty.cur toks st.pos).kind = 1 => kind_lt hlk.fits.1 hlk.wf (by omega)
 have h5 := hlk.wf.1
 unfold Ty.name at HOK HBAD
 have HN := qh (fun R => @now_any w pb d toks st hlk R)
 unfold Ty.here at HBAD
 have HF := qh (fun w1 (h : PRd w1 pb d toks st) e R => @fail_any w1 pb d toks st h e R)
 unfold Ty.here at HF
 generalize Ty.cur toks st.pos = t at *
 clear hok hbad H hv hlk
 obtain ⟨kd, tx, ps⟩ := t
 dsimp only at HOK HBAD hlt HF
 by_cases hkd : kd = 1
 · have hlt1 := hlt hkd
   have k1 : ((kd : Int) != 1) = false := by simp [hkd]
   have HKD := qh hkd
   clear hlt hkd
   go_enter Tryz.func130, Tryz.ntmps130
   go_wp2_with fail
   refine HN.out _ (fun w1 hb1 => ?_)
   dsimp only [tkVal]
   have hv1 := owns_below HV.out hb1
   have HS1 := qh ((HS.out.below hb1).waste (.cells #[.int .i64 kd, .string tx, .int .i64 ps] 70))
   have HV1 := qh hv1
   have HSB := qh (HS.out.below hb1)
   obtain ⟨c1, _, f0⟩ := HS1.out.look.cells
   have hpl : pb < w1.heap.size := (HL.out.below hb1).lt
   clear hb1 hv1
   go_wp2_with fail
   refine contains_any _ 0 v l (HV1.out.alloc _) (by omega) tx (fun r hr => ?_)
   have HR := qh hr
   clear hr
   cases r
   · go_wp2_with fail
     refine HOK.out tx _ (by rw [if_neg (by rw [HKD.out]; simp), if_neg]; rw [text_mem]; intro hm; have := HR.out.2 hm; simp at this) ?_
     exact (HSB.out.setPos _ hlt1 (by omega)).waste _
   · go_wp2_with fail
     refine HF.out _ HS1.out.look 6 _ (fun w2 hb2 => ?_)
     have HB2 := qh hb2
     clear hb2
     go_wp2_with fail
     exact ⟨rfl, HBAD.out _ _ (by rw [if_neg (by rw [HKD.out]; simp), if_pos (text_mem.2 (HR.out.1 (by trivial)))]) ((HS1.out.below HB2.out).pick [0])⟩
 · have k1 : ((kd : Int) != 1) = true := by simp; omega
   have HKD := qh hkd
   clear hlt hkd
   go_enter Tryz.func130, Tryz.ntmps130
   go_wp2_with fail
   refine HN.out _ (fun w1 hb1 => ?_)
   dsimp only [tkVal]
   have HS1 := qh ((HS.out.below hb1).waste (.cells #[.int .i64 kd, .string tx, .int .i64 ps] 70))
   have hz := hb1.size
   clear hb1
   go_wp2_with fail
   refine HF.out _ HS1.out.look 1 _ (fun w2 hb2 => ?_)
   have HB2 := qh hb2
   clear hb2
   go_wp2_with fail
   exact ⟨rfl, HBAD.out _ _ (by rw [if_pos HKD.out]) ((HS1.out.below HB2.out).pick [0])⟩
theorem in_any (H : Sat w0 w [Fr, parA pb d toks st]) (F : FuncId) (c : Value) (hc : ∀ (args : Array Value) (w : World), (callFunc F args).run Tryz.prog w = .ok (.enter F args) w)
   (m : Ty.M Nat)
   (hdo : d < 20 → ∀ w1, Sat w0 w1 [Fr, parA pb (d + 1) toks st] → ∀ R : Ending → World → Prop,
     (∀ n st2 w2, m st = .ok (n, st2) → Sat w0 w2 [Fr, parA pb (d + 1) toks st2] → R (.returned (.int .i64 (n : Nat))) w2) →
     (∀ f w2, m st = .error f → Sat w0 w2 [Fr] → R (.panicked (ftChain f)) w2) → Calls Tryz.prog F #[c] w1 R)
   {R : Ending → World → Prop}
   (hok : ∀ n st2 w2, d < 20 → m st = .ok (n, st2) → Sat w0 w2 [Fr, parA pb d toks st2] → R (.returned (.int .i64 (n : Nat))) w2)
   (hbad : ∀ f w2, (d < 20 → m st = .error f) → (d = 20 → f = Ty.here toks 8 st.pos) → Sat w0 w2 [Fr] → R (.panicked (ftChain f)) w2) :
   Calls Tryz.prog 100 #[.pointer (some ⟨pb, 0, none⟩), .func (.func F) #[] #[c]] w R := by
 have HOK := qh hok
 have HBAD := qh hbad
 have HDO := qh hdo
 have HS := qh H
 have hlk := H.look
 have hd := hlk.fits.2.1
 obtain ⟨_, c2, f0⟩ := hlk.cells
 have HL := qh hlk
 clear hok hbad hdo H hlk
 by_cases hd2 : d = 20
 · have d1 : ((d : Int) == 20) = true := by simp [hd2]
   have HD := qh hd2
   clear hd2 hd
   go_enter Tryz.func100, Tryz.ntmps100
   go_wp2_with fail
   refine fail_any w pb d toks st HL.out 8 (fun w1 hb1 => ?_)
   have HB := qh hb1
   clear hb1
   go_wp2_with fail
   exact ⟨rfl, HBAD.out _ _ (fun h => by have := HD.out; omega) (fun _ => rfl) ((HS.out.below HB.out).pick [0])⟩
 · have d1 : ((d : Int) == 20) = false := by simp; omega
   have hlt : d < 20 := by omega
   clear hd2
   go_enter Tryz.func100, Tryz.ntmps100
   go_wp2_with fail
   refine HDO.out hlt _ (HS.out.setDeep (d + 1) (by omega)) _ (fun n st2 w2 hm h2 => ?_) (fun f w2 hm h2 => ?_)
   · obtain ⟨_, c2', f0'⟩ := h2.look.cells
     have H2 := qh h2
     have HM := qh hm
     clear h2 hm
     go_wp2_with fail
     exact HOK.out n st2 _ hlt HM.out (H2.out.setDeep _ (by omega))
   · have H2 := qh h2
     have HM := qh hm
     clear h2 hm
     go_wp2_with fail
     exact ⟨rfl, HBAD.out f w2 (fun _ => HM.out) (fun h => absurd h (by omega)) H2.out⟩
end
end
section
namespace Tok
def plainKind (k : Nat) : Bool := decide (k = 1) || decide (k = 2) || decide (k = 3)
theorem scanFrom_err (s : ByteArray) : ∀ (f k : Nat) (o : List Tk) (e p : Nat), scanFrom s f k o = .error (e, p) → e = 1 ∨ e = 2 := by
 intro f
 induction f with
 | zero => intro k o e p h; cases h
 | succ f ih =>
   intro k o e p h
   rw [scanFrom] at h
   by_cases hlt : k < s.size
   · rw [if_pos hlt] at h
     by_cases hb : byte s k = 32 ∨ byte s k = 10
     · rw [if_pos hb] at h; exact ih _ _ _ _ h
     · rw [if_neg hb] at h
       by_cases hok : (next s k).2.2 = false
       · rw [if_pos hok] at h
         have := Except.error.inj h
         simp only [Prod.mk.injEq] at this; omega
       · rw [if_neg hok] at h
         by_cases hl : o.length = 1000
         · rw [if_pos hl] at h
           have := Except.error.inj h
           simp only [Prod.mk.injEq] at this; omega
         · rw [if_neg hl] at h; exact ih _ _ _ _ h
   · rw [if_neg hlt] at h; cases h
theorem scan_err (s : ByteArray) (e p : Nat) (h : scan s = .error (e, p)) : e = 1 ∨ e = 2 := by
 unfold scan at h
 by_cases hs : 4000 < s.size
 · rw [if_pos hs] at h
   have := Except.error.inj h
   simp only [Prod.mk.injEq] at this; omega
 · rw [if_neg hs] at h; exact scanFrom_err s _ _ _ e p h
end Tok
end
section
namespace Ty
open Tok (Tk)
def Bad {α : Type} (m : M α) : Prop := ∀ s f, m s = .error f → f.1 ≠ 0 ∧ f.1 ≤ 9
theorem Bad.ret {α : Type} (a : α) : Bad (ret a) := fun s f h => by cases h
theorem Bad.fail {α : Type} (toks : List Tk) (n : Nat) (hn : n ≠ 0 ∧ n ≤ 9 := by omega) : Bad (fail (α := α) toks n) := fun s f h => by cases h; exact hn
theorem Bad.step : Bad step := fun s f h => by cases h
theorem Bad.take (toks : List Tk) (x : List UInt8) : Bad (take toks x) := fun s f h => by unfold Ty.take at h; split at h <;> cases h
theorem Bad.need (toks : List Tk) (x : List UInt8) : Bad (need toks x) := fun s f h => by unfold Ty.need at h; split at h <;> cases h; simp [here]
theorem Bad.name (toks : List Tk) (met : List ByteArray) : Bad (name toks met) := fun s f h => by
 unfold Ty.name at h
 split at h
 · cases h; simp [here]
 · split at h
   · cases h; simp [here]
   · cases h
theorem Bad.newType (t : Ty) : Bad (newType t) := fun s f h => by cases h
theorem Bad.bnd {α β : Type} {m : M α} {k : α → M β} (h : Bad m) (g : ∀ a, Bad (k a)) : Bad (Ty.bnd m k) := fun s f e => by
 unfold Ty.bnd at e
 split at e
 · rename_i e1; cases e; exact h _ _ e1
 · exact g _ _ _ e
theorem Bad.ite {α : Type} {p : Prop} [Decidable p] {m n : M α} (h : Bad m) (g : Bad n) : Bad (if p then m else n) := by
 split
 · exact h
 · exact g
theorem list_bad {α : Type} {toks : List Tk} {x : List UInt8} {m : List α → M α} (hm : ∀ l, Bad (m l)) : ∀ f l, Bad (list toks x m f l)
 | 0, _ => Bad.fail _ _
 | f + 1, l => (Bad.take _ _).bnd fun b => Bad.ite (Bad.ret l) ((Bad.ite (Bad.ret ()) (Bad.need _ _)).bnd fun _ => (hm l).bnd fun n => list_bad hm f (l ++ [n]))
theorem fields_bad {toks : List Tk} {T : M Nat} (hT : Bad T) : ∀ f l, Bad (fields toks T f l)
 | 0, _ => Bad.fail _ _
 | f + 1, l => (Bad.take _ _).bnd fun b => Bad.ite (Bad.ret l) ((Bad.name _ _).bnd fun s => (Bad.need _ _).bnd fun _ => hT.bnd fun n => (Bad.need _ _).bnd fun _ => fields_bad hT f (l ++ [(s, n)]))
theorem object_bad {toks : List Tk} {T : M Nat} (hT : Bad T) : Bad (object toks T) := (fields_bad hT _ _).bnd fun _ => Bad.newType _
theorem round_bad {toks : List Tk} {T : M Nat} (hT : Bad T) : Bad (round toks T) :=
 (list_bad (fun _ => hT) _ _).bnd fun l => (Bad.take _ _).bnd fun b => Bad.ite (hT.bnd fun n => Bad.newType _) (Bad.ite (Bad.ret _) (Bad.fail _ _))
theorem single_bad {toks : List Tk} {T : M Nat} (hT : Bad T) : Bad (single toks T) := fun s f h => by
 unfold single at h
 split at h
 · exact (Bad.step.bnd fun _ => Bad.newType _) s f h
 · exact ((Bad.take _ _).bnd fun b => Bad.ite (object_bad hT) ((Bad.take _ _).bnd fun b => Bad.ite (hT.bnd fun n => (Bad.need _ _).bnd fun _ => Bad.newType _) ((Bad.need _ _).bnd fun _ => round_bad hT))) s f h
theorem bars_bad {toks : List Tk} {S : M Nat} (hS : Bad S) : ∀ f l, Bad (bars toks S f l)
 | 0, _ => Bad.fail _ _
 | f + 1, l => (Bad.take _ _).bnd fun b => Bad.ite (hS.bnd fun n => bars_bad hS f (l ++ [n])) (Bad.ret l)
theorem union_bad {toks : List Tk} {S : M Nat} (hS : Bad S) : Bad (union toks S) := hS.bnd fun _ => (bars_bad hS _ _).bnd fun _ => Bad.ite (Bad.ret _) (Bad.newType _)
theorem typ_bad (toks : List Tk) : ∀ r, Bad (typ toks r)
 | 0 => Bad.fail _ _
 | r + 1 => union_bad (single_bad (typ_bad toks r))
theorem typeOf_bad {s : ByteArray} {f : Ft} (h : typeOf s = .error f) : f.1 ≠ 0 := by
 unfold typeOf at h
 split at h
 · rename_i e he
   cases h
   have := Tok.scan_err s f.1 f.2 he
   omega
 · split at h
   · rename_i e he; cases h; exact (typ_bad _ _ _ _ he).1
   · split at h
     · cases h; simp [here]
     · split at h
       · cases h; simp
       · cases h
theorem scanFrom_last (s : ByteArray) : ∀ (f k : Nat) (o l : List Tk), Tok.scanFrom s f k o = .ok l → s.size < k + f → k ≤ s.size → ∀ t, l.getLast? = some t → t.kind = 6 := by
 intro f
 induction f with
 | zero => intro k o l _ h1 h2; omega
 | succ f ih =>
   intro k o l h h1 h2 t ht
   rw [Tok.scanFrom] at h
   by_cases hlt : k < s.size
   · rw [if_pos hlt] at h
     by_cases hb : Tok.byte s k = 32 ∨ Tok.byte s k = 10
     · rw [if_pos hb] at h
       exact ih _ _ _ h (by omega) (by omega) t ht
     · rw [if_neg hb] at h
       by_cases hok : (Tok.next s k).2.2 = false
       · rw [if_pos hok] at h; cases h
       · rw [if_neg hok] at h
         by_cases hl : o.length = 1000
         · rw [if_pos hl] at h; cases h
         · rw [if_neg hl] at h
           have hbd := Tok.next_bound s k hlt (by simpa using hok)
           exact ih _ _ _ h (by omega) (by omega) t ht
   · rw [if_neg hlt] at h
     cases h
     simp at ht
     subst ht; rfl
theorem scan_last {s : ByteArray} {l : List Tk} (h : Tok.scan s = .ok l) : ∀ t, l.getLast? = some t → t.kind = 6 := by
 unfold Tok.scan at h
 split at h
 · cases h
 · exact scanFrom_last s _ _ _ _ h (by omega) (by omega)
end Ty
end
end Go.Proofs.YtdlbhiaceheffaaGreatDoor
