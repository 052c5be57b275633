/- Walks of the parser's name, in, list. Plain facts: the tokens of a scan stand apart. Plain: a fault has an error; a scan ends with its end. Plain: the reference's reader of types: what it comes to in each state; and that it is the parser's. No program in sight. Plain: how far the reference's reader may go, in each state. The reference's reader in memory; walks of bad, wrong, peek, eat, must. Plain: what reading tokens comes to: expressions, statements, programs. No program in sight. -/
import Derived.BigQuiet
import Derived.Deep.QuietTactic
import Derived.Test.YtdlbhiaceheffabGreatDoorS04
set_option linter.all false
namespace Go.Proofs.YtdlbhiaceheffabGreatDoor
section
open Go Go.RowKit
open Prt (Sat As blk pur exs star stars)
theorem contains_any (w : World) (B : Nat) (v : Value) (l : List ByteArray) (h : w.ownsRow B 9 1 v l.length (l.map Value.string)) (hl : l.length ≤ 100000) (x : ByteArray) {R : Ending → World → Prop} (hR : ∀ r : Bool, (r = true ↔ x ∈ l) → R (.returned (.bool r)) w) :
   Calls Tryz.prog 279 #[v, .string x] w R := by
 obtain ⟨a, cap, rfl⟩ := owns_slice h
 by_cases h0 : l = []
 · subst h0
   refine (Tryz.slices_Contains_string_empty a cap x w).mono ?_
   rintro e w' ⟨rfl, rfl⟩
   exact hR false (by simp)
 · rcases h.2 with ⟨_, hn⟩ | ⟨g, cap', cur, hv, _⟩
   · exact absurd (List.eq_nil_of_length_eq_zero hn) h0
   · have hc := World.ownsRow.cells (g := g) h (by rw [hv]; rfl)
     cases hv
     refine (Tryz.slices_Contains_string g 0 l.length cap l x w (Nat.le_refl _) (by omega) (fun j hj => ?_)).mono ?_
     · have := hc j (.string (l.getD j ByteArray.empty)) (by simp [hj])
       rwa [Addr.add_lit] at this
     · rintro e w' ⟨rfl, rfl⟩
       refine hR _ ?_
       rw [Lib.containsS_iff, List.take_of_length_le (Nat.le_refl _)]
theorem text_mem {x : ByteArray} {l : List ByteArray} : x.data.toList ∈ l.map (fun t => t.data.toList) ↔ x ∈ l := by
 constructor
 · intro h
   obtain ⟨y, hy, e⟩ := List.mem_map.1 h
   have : y = x := by cases x; cases y; simp only at e; congr; exact Array.toList_inj.1 e
   exact this ▸ hy
 · exact fun h => List.mem_map.2 ⟨x, h, rfl⟩
section
variable {w0 w : World} {Fr : As} {pb d : Nat} {toks : List Tok.Tk} {st : Ty.St}
theorem pname_any (H : Sat w0 w [Fr, parA pb d toks st]) (v : Value) (l : List ByteArray) (hv : w.ownsRow 0 9 1 v l.length (l.map Value.string)) (hl : l.length ≤ 2000)
   {R : Ending → World → Prop}
   (hok : ∀ x w', Ty.name toks l st = .ok (x, { st with pos := st.pos + 1 }) → Sat w0 w' [Fr, parA pb d toks { st with pos := st.pos + 1 }] → R (.returned (.string x)) w')
   (hbad : ∀ f w', Ty.name toks l st = .error f → Sat w0 w' [Fr] → R (.panicked (ftChain f)) w') :
   Calls Tryz.prog 206 #[.pointer (some ⟨pb, 0, none⟩), v] w R := by
 have HOK := qh hok
 have HBAD := qh hbad
 have HS := qh H
 have HV := qh hv
 have hlk := H.look
 have HL := qh hlk
 have hlt := fun h1 : (Ty.cur toks st.pos).kind = 1 => kind_lt hlk.fits.1 hlk.wf (by omega)
 have h5 := hlk.wf.1
 unfold Ty.name at HOK HBAD
 have HN := qh (fun R => @now_any w pb d toks st hlk R)
 unfold Ty.here at HBAD
 have HF := qh (fun w1 (h : PRd w1 pb d toks st) e R => @fail_any w1 pb d toks st h e R)
 unfold Ty.here at HF
 generalize Ty.cur toks st.pos = t at *
 clear hok hbad H hv hlk
 obtain ⟨kd, tx, ps⟩ := t
 dsimp only at HOK HBAD hlt HF
 by_cases hkd : kd = 1
 · have hlt1 := hlt hkd
   have k1 : ((kd : Int) != 1) = false := by simp [hkd]
   have HKD := qh hkd
   clear hlt hkd
   go_enter Tryz.func206, Tryz.ntmps206
   go_wp2_with fail
   refine HN.out _ (fun w1 hb1 => ?_)
   dsimp only [tkVal]
   have hv1 := owns_below HV.out hb1
   have HS1 := qh ((HS.out.below hb1).waste (.cells #[.int .i64 kd, .string tx, .int .i64 ps] 138))
   have HV1 := qh hv1
   have HSB := qh (HS.out.below hb1)
   obtain ⟨c1, _, f0⟩ := HS1.out.look.cells
   have hpl : pb < w1.heap.size := (HL.out.below hb1).lt
   clear hb1 hv1
   go_wp2_with fail
   refine contains_any _ 0 v l (HV1.out.alloc _) (by omega) tx (fun r hr => ?_)
   have HR := qh hr
   clear hr
   cases r
   · go_wp2_with fail
     refine HOK.out tx _ (by rw [if_neg (by rw [HKD.out]; simp), if_neg]; rw [text_mem]; intro hm; have := HR.out.2 hm; simp at this) ?_
     exact (HSB.out.setPos _ hlt1 (by omega)).waste _
   · go_wp2_with fail
     refine HF.out _ HS1.out.look 6 _ (fun w2 hb2 => ?_)
     have HB2 := qh hb2
     clear hb2
     go_wp2_with fail
     exact ⟨rfl, HBAD.out _ _ (by rw [if_neg (by rw [HKD.out]; simp), if_pos (text_mem.2 (HR.out.1 (by trivial)))]) ((HS1.out.below HB2.out).pick [0])⟩
 · have k1 : ((kd : Int) != 1) = true := by simp; omega
   have HKD := qh hkd
   clear hlt hkd
   go_enter Tryz.func206, Tryz.ntmps206
   go_wp2_with fail
   refine HN.out _ (fun w1 hb1 => ?_)
   dsimp only [tkVal]
   have HS1 := qh ((HS.out.below hb1).waste (.cells #[.int .i64 kd, .string tx, .int .i64 ps] 138))
   have hz := hb1.size
   clear hb1
   go_wp2_with fail
   refine HF.out _ HS1.out.look 1 _ (fun w2 hb2 => ?_)
   have HB2 := qh hb2
   clear hb2
   go_wp2_with fail
   exact ⟨rfl, HBAD.out _ _ (by rw [if_pos HKD.out]) ((HS1.out.below HB2.out).pick [0])⟩
theorem in_any (H : Sat w0 w [Fr, parA pb d toks st]) (F : FuncId) (c : Value) (hc : ∀ (args : Array Value) (w : World), (callFunc F args).run Tryz.prog w = .ok (.enter F args) w)
   (m : Ty.M Nat)
   (hdo : d < 20 → ∀ w1, Sat w0 w1 [Fr, parA pb (d + 1) toks st] → ∀ R : Ending → World → Prop,
     (∀ n st2 w2, m st = .ok (n, st2) → Sat w0 w2 [Fr, parA pb (d + 1) toks st2] → R (.returned (.int .i64 (n : Nat))) w2) →
     (∀ f w2, m st = .error f → Sat w0 w2 [Fr] → R (.panicked (ftChain f)) w2) → Calls Tryz.prog F #[c] w1 R)
   {R : Ending → World → Prop}
   (hok : ∀ n st2 w2, d < 20 → m st = .ok (n, st2) → Sat w0 w2 [Fr, parA pb d toks st2] → R (.returned (.int .i64 (n : Nat))) w2)
   (hbad : ∀ f w2, (d < 20 → m st = .error f) → (d = 20 → f = Ty.here toks 8 st.pos) → Sat w0 w2 [Fr] → R (.panicked (ftChain f)) w2) :
   Calls Tryz.prog 130 #[.pointer (some ⟨pb, 0, none⟩), .func (.func F) #[] #[c]] w R := by
 have HOK := qh hok
 have HBAD := qh hbad
 have HDO := qh hdo
 have HS := qh H
 have hlk := H.look
 have hd := hlk.fits.2.1
 obtain ⟨_, c2, f0⟩ := hlk.cells
 have HL := qh hlk
 clear hok hbad hdo H hlk
 by_cases hd2 : d = 20
 · have d1 : ((d : Int) == 20) = true := by simp [hd2]
   have HD := qh hd2
   clear hd2 hd
   go_enter Tryz.func130, Tryz.ntmps130
   go_wp2_with fail
   refine fail_any w pb d toks st HL.out 8 (fun w1 hb1 => ?_)
   have HB := qh hb1
   clear hb1
   go_wp2_with fail
   exact ⟨rfl, HBAD.out _ _ (fun h => by have := HD.out; omega) (fun _ => rfl) ((HS.out.below HB.out).pick [0])⟩
 · have d1 : ((d : Int) == 20) = false := by simp; omega
   have hlt : d < 20 := by omega
   clear hd2
   go_enter Tryz.func130, Tryz.ntmps130
   go_wp2_with fail
   refine HDO.out hlt _ (HS.out.setDeep (d + 1) (by omega)) _ (fun n st2 w2 hm h2 => ?_) (fun f w2 hm h2 => ?_)
   · obtain ⟨_, c2', f0'⟩ := h2.look.cells
     have H2 := qh h2
     have HM := qh hm
     clear h2 hm
     go_wp2_with fail
     exact HOK.out n st2 _ hlt HM.out (H2.out.setDeep _ (by omega))
   · have H2 := qh h2
     have HM := qh hm
     clear h2 hm
     go_wp2_with fail
     exact ⟨rfl, HBAD.out f w2 (fun _ => HM.out) (fun h => absurd h (by omega)) H2.out⟩
end
end
section
namespace Tok
def plainKind (k : Nat) : Bool := decide (k = 1) || decide (k = 2) || decide (k = 3)
theorem scanFrom_err (s : ByteArray) : ∀ (f k : Nat) (o : List Tk) (e p : Nat), scanFrom s f k o = .error (e, p) → e = 1 ∨ e = 2 := by
 intro f
 induction f with
 | zero => intro k o e p h; cases h
 | succ f ih =>
   intro k o e p h
   rw [scanFrom] at h
   by_cases hlt : k < s.size
   · rw [if_pos hlt] at h
     by_cases hb : byte s k = 32 ∨ byte s k = 10
     · rw [if_pos hb] at h; exact ih _ _ _ _ h
     · rw [if_neg hb] at h
       by_cases hok : (next s k).2.2 = false
       · rw [if_pos hok] at h
         have := Except.error.inj h
         simp only [Prod.mk.injEq] at this; omega
       · rw [if_neg hok] at h
         by_cases hl : o.length = 1000
         · rw [if_pos hl] at h
           have := Except.error.inj h
           simp only [Prod.mk.injEq] at this; omega
         · rw [if_neg hl] at h; exact ih _ _ _ _ h
   · rw [if_neg hlt] at h; cases h
theorem scan_err (s : ByteArray) (e p : Nat) (h : scan s = .error (e, p)) : e = 1 ∨ e = 2 := by
 unfold scan at h
 by_cases hs : 4000 < s.size
 · rw [if_pos hs] at h
   have := Except.error.inj h
   simp only [Prod.mk.injEq] at this; omega
 · rw [if_neg hs] at h; exact scanFrom_err s _ _ _ e p h
end Tok
end
section
namespace Ty
open Tok (Tk)
def Bad {α : Type} (m : M α) : Prop := ∀ s f, m s = .error f → f.1 ≠ 0 ∧ f.1 ≤ 9
theorem Bad.ret {α : Type} (a : α) : Bad (ret a) := fun s f h => by cases h
theorem Bad.fail {α : Type} (toks : List Tk) (n : Nat) (hn : n ≠ 0 ∧ n ≤ 9 := by omega) : Bad (fail (α := α) toks n) := fun s f h => by cases h; exact hn
theorem Bad.step : Bad step := fun s f h => by cases h
theorem Bad.take (toks : List Tk) (x : List UInt8) : Bad (take toks x) := fun s f h => by unfold Ty.take at h; split at h <;> cases h
theorem Bad.need (toks : List Tk) (x : List UInt8) : Bad (need toks x) := fun s f h => by unfold Ty.need at h; split at h <;> cases h; simp [here]
theorem Bad.name (toks : List Tk) (met : List ByteArray) : Bad (name toks met) := fun s f h => by
 unfold Ty.name at h
 split at h
 · cases h; simp [here]
 · split at h
   · cases h; simp [here]
   · cases h
theorem Bad.newType (t : Ty) : Bad (newType t) := fun s f h => by cases h
theorem Bad.bnd {α β : Type} {m : M α} {k : α → M β} (h : Bad m) (g : ∀ a, Bad (k a)) : Bad (Ty.bnd m k) := fun s f e => by
 unfold Ty.bnd at e
 split at e
 · rename_i e1; cases e; exact h _ _ e1
 · exact g _ _ _ e
theorem Bad.ite {α : Type} {p : Prop} [Decidable p] {m n : M α} (h : Bad m) (g : Bad n) : Bad (if p then m else n) := by
 split
 · exact h
 · exact g
theorem list_bad {α : Type} {toks : List Tk} {x : List UInt8} {m : List α → M α} (hm : ∀ l, Bad (m l)) : ∀ f l, Bad (list toks x m f l)
 | 0, _ => Bad.fail _ _
 | f + 1, l => (Bad.take _ _).bnd fun b => Bad.ite (Bad.ret l) ((Bad.ite (Bad.ret ()) (Bad.need _ _)).bnd fun _ => (hm l).bnd fun n => list_bad hm f (l ++ [n]))
theorem fields_bad {toks : List Tk} {T : M Nat} (hT : Bad T) : ∀ f l, Bad (fields toks T f l)
 | 0, _ => Bad.fail _ _
 | f + 1, l => (Bad.take _ _).bnd fun b => Bad.ite (Bad.ret l) ((Bad.name _ _).bnd fun s => (Bad.need _ _).bnd fun _ => hT.bnd fun n => (Bad.need _ _).bnd fun _ => fields_bad hT f (l ++ [(s, n)]))
theorem object_bad {toks : List Tk} {T : M Nat} (hT : Bad T) : Bad (object toks T) := (fields_bad hT _ _).bnd fun _ => Bad.newType _
theorem round_bad {toks : List Tk} {T : M Nat} (hT : Bad T) : Bad (round toks T) :=
 (list_bad (fun _ => hT) _ _).bnd fun l => (Bad.take _ _).bnd fun b => Bad.ite (hT.bnd fun n => Bad.newType _) (Bad.ite (Bad.ret _) (Bad.fail _ _))
theorem single_bad {toks : List Tk} {T : M Nat} (hT : Bad T) : Bad (single toks T) := fun s f h => by
 unfold single at h
 split at h
 · exact (Bad.step.bnd fun _ => Bad.newType _) s f h
 · exact ((Bad.take _ _).bnd fun b => Bad.ite (object_bad hT) ((Bad.take _ _).bnd fun b => Bad.ite (hT.bnd fun n => (Bad.need _ _).bnd fun _ => Bad.newType _) ((Bad.need _ _).bnd fun _ => round_bad hT))) s f h
theorem bars_bad {toks : List Tk} {S : M Nat} (hS : Bad S) : ∀ f l, Bad (bars toks S f l)
 | 0, _ => Bad.fail _ _
 | f + 1, l => (Bad.take _ _).bnd fun b => Bad.ite (hS.bnd fun n => bars_bad hS f (l ++ [n])) (Bad.ret l)
theorem union_bad {toks : List Tk} {S : M Nat} (hS : Bad S) : Bad (union toks S) := hS.bnd fun _ => (bars_bad hS _ _).bnd fun _ => Bad.ite (Bad.ret _) (Bad.newType _)
theorem typ_bad (toks : List Tk) : ∀ r, Bad (typ toks r)
 | 0 => Bad.fail _ _
 | r + 1 => union_bad (single_bad (typ_bad toks r))
theorem typeOf_bad {s : ByteArray} {f : Ft} (h : typeOf s = .error f) : f.1 ≠ 0 := by
 unfold typeOf at h
 split at h
 · rename_i e he
   cases h
   have := Tok.scan_err s f.1 f.2 he
   omega
 · split at h
   · rename_i e he; cases h; exact (typ_bad _ _ _ _ he).1
   · split at h
     · cases h; simp [here]
     · split at h
       · cases h; simp
       · cases h
theorem scanFrom_last (s : ByteArray) : ∀ (f k : Nat) (o l : List Tk), Tok.scanFrom s f k o = .ok l → s.size < k + f → k ≤ s.size → ∀ t, l.getLast? = some t → t.kind = 6 := by
 intro f
 induction f with
 | zero => intro k o l _ h1 h2; omega
 | succ f ih =>
   intro k o l h h1 h2 t ht
   rw [Tok.scanFrom] at h
   by_cases hlt : k < s.size
   · rw [if_pos hlt] at h
     by_cases hb : Tok.byte s k = 32 ∨ Tok.byte s k = 10
     · rw [if_pos hb] at h
       exact ih _ _ _ h (by omega) (by omega) t ht
     · rw [if_neg hb] at h
       by_cases hok : (Tok.next s k).2.2 = false
       · rw [if_pos hok] at h; cases h
       · rw [if_neg hok] at h
         by_cases hl : o.length = 1000
         · rw [if_pos hl] at h; cases h
         · rw [if_neg hl] at h
           have hbd := Tok.next_bound s k hlt (by simpa using hok)
           exact ih _ _ _ h (by omega) (by omega) t ht
   · rw [if_neg hlt] at h
     cases h
     simp at ht
     subst ht; rfl
theorem scan_last {s : ByteArray} {l : List Tk} (h : Tok.scan s = .ok l) : ∀ t, l.getLast? = some t → t.kind = 6 := by
 unfold Tok.scan at h
 split at h
 · cases h
 · exact scanFrom_last s _ _ _ _ h (by omega) (by omega)
end Ty
end
section
namespace Rd
open Tok (Tk)
open Ty (Ft St Nd cur here is plainKind M)
structure RS where
 st : St
 f : Option Ft
def wrong (toks : List Tk) (e : Nat) (s : RS) : RS := match s.f with | none => ⟨s.st, some (here toks e s.st.pos)⟩ | some _ => s
def peek (toks : List Tk) (x : List UInt8) (s : RS) : Bool := s.f.isNone && is toks x s.st.pos
def next (s : RS) : RS := ⟨{ s.st with pos := s.st.pos + 1 }, s.f⟩
def must (toks : List Tk) (x : List UInt8) (s : RS) : RS := if peek toks x s then next s else wrong toks 1 s
def ident (toks : List Tk) (met : List ByteArray) (s : RS) : ByteArray × RS :=
 if (cur toks s.st.pos).kind ≠ 1 then (⟨#[]⟩, wrong toks 1 s)
 else if (cur toks s.st.pos).text.data.toList ∈ met.map (fun t => t.data.toList) then (⟨#[]⟩, wrong toks 6 s)
 else ((cur toks s.st.pos).text, next s)
def addT (t : Ty.Ty) (s : RS) : Nat × RS := (s.st.ts.length, ⟨{ s.st with ts := s.st.ts ++ [t] }, s.f⟩)
def fields (toks : List Tk) (T : RS → Nat × RS) : Nat → List (ByteArray × Nat) → RS → List (ByteArray × Nat) × RS
 | 0, l, s => (l, s)
 | n + 1, l, s => if peek toks [125] s then (l, next s) else if s.f.isSome then (l, s) else
     fields toks T n (l ++ [((ident toks (l.map Prod.fst) s).1, (T (must toks [58] (ident toks (l.map Prod.fst) s).2)).1)]) (must toks [59] (T (must toks [58] (ident toks (l.map Prod.fst) s).2)).2)
def args (toks : List Tk) (T : RS → Nat × RS) : Nat → List Nat → RS → List Nat × RS
 | 0, l, s => (l, s)
 | n + 1, l, s => if peek toks [41] s then (l, next s) else if s.f.isSome then (l, s) else
     args toks T n (l ++ [(T (if l.length > 0 then must toks [44] s else s)).1]) (T (if l.length > 0 then must toks [44] s else s)).2
def round (toks : List Tk) (T : RS → Nat × RS) (l : List Nat) (s : RS) : Nat × RS :=
 if peek toks [61, 62] s then addT ⟨9, [], l, (T (next s)).1⟩ (T (next s)).2
 else if l.length ≠ 1 then (0, wrong toks 1 s) else (l.headD 0, s)
def one (toks : List Tk) (T : RS → Nat × RS) (s : RS) : Nat × RS :=
 if (cur toks s.st.pos).kind = 2 ∧ plainKind (cur toks s.st.pos).text > 0 ∧ s.f = none then addT ⟨plainKind (cur toks s.st.pos).text, [], [], 0⟩ (next s)
 else if peek toks [91] s then addT ⟨8, [], [], (T (next s)).1⟩ (must toks [93] (T (next s)).2)
 else if peek toks [123] s then addT ⟨7, (fields toks T (toks.length + 1) [] (next s)).1, [], 0⟩ (fields toks T (toks.length + 1) [] (next s)).2
 else round toks T (args toks T (toks.length + 1) [] (must toks [40] s)).1 (args toks T (toks.length + 1) [] (must toks [40] s)).2
def bars (toks : List Tk) (S : RS → Nat × RS) : Nat → List Nat → RS → List Nat × RS
 | 0, l, s => (l, s)
 | n + 1, l, s => if peek toks [124] s then bars toks S n (l ++ [(S (next s)).1]) (S (next s)).2 else (l, s)
def Ok (toks : List Tk) (st : St) : Prop := st.pos < toks.length ∧ st.ts.length ≤ st.pos ∧ st.ns.length ≤ st.pos + 1
def Off (toks : List Tk) (c : Nat) (st : St) : Prop := st.pos < toks.length ∧ st.ts.length ≤ toks.length + c ∧ st.ns.length ≤ toks.length + 1 + c
theorem Off.mono {toks : List Tk} {c d : Nat} {st : St} (h : Off toks c st) (hd : c ≤ d) : Off toks d st := ⟨h.1, by have := h.2; omega, by have := h.2; omega⟩
def Sim {α : Type} (toks : List Tk) (c : Nat) (m : M α) (g : RS → α × RS) : Prop :=
 ∀ st, Ok toks st → match m st with
   | .ok (a, st') => g ⟨st, none⟩ = (a, ⟨st', none⟩) ∧ Ok toks st'
   | .error f => ∃ a st', g ⟨st, none⟩ = (a, ⟨st', some f⟩) ∧ Off toks c st'
def Idle (g : RS → Nat × RS) : Prop := ∀ st x, g ⟨st, some x⟩ = (0, ⟨st, some x⟩)
section
variable {toks : List Tk} (hL : ∀ t, toks.getLast? = some t → t.kind = 6)
include hL
theorem kind_lt {pos : Nat} (hp : pos < toks.length) (h : (cur toks pos).kind ≠ 6) : pos + 1 < toks.length := by
 refine Nat.lt_of_le_of_ne hp fun e => h ?_
 unfold cur
 rw [List.getElem?_eq_getElem hp]
 exact hL _ (by rw [List.getLast?_eq_getElem?, List.getElem?_eq_getElem (by omega)]; congr 1; simp [← e])
theorem is_lt {s : List UInt8} {pos : Nat} (hp : pos < toks.length) (h : is toks s pos = true) : pos + 1 < toks.length := by
 refine kind_lt hL hp fun e => ?_
 unfold is at h
 rw [e] at h
 simp at h
theorem Ok.next {x : List UInt8} {st : St} (h : Ok toks st) (hi : is toks x st.pos = true) : Ok toks { st with pos := st.pos + 1 } := by
 have := is_lt hL h.1 hi
 unfold Ok at *; dsimp only; omega
variable {c : Nat} {T : M Nat} {g : RS → Nat × RS} (hT : Sim toks c T g) (hA : Ty.Adv 1 0 0 T) (hI : Idle g)
include hT hA hI
end
end Rd
end
section
namespace Rd
open Tok (Tk)
open Ty (Ft St Nd cur here is plainKind M)
structure In (toks : List Tk) (k j : Nat) (s : RS) : Prop where
 pos : s.st.pos < toks.length
 good : s.f = none → s.st.ts.length + j ≤ s.st.pos ∧ s.st.ns.length + j ≤ s.st.pos + 1
 ts : s.st.ts.length ≤ toks.length + k
 ns : s.st.ns.length ≤ toks.length + 1 + k
theorem In.mono {toks : List Tk} {k j k' j' : Nat} {s : RS} (h : In toks k j s) (hk : k ≤ k' := by omega) (hj : j' ≤ j := by omega) : In toks k' j' s :=
 ⟨h.pos, fun e => by have := h.good e; omega, by have := h.ts; omega, by have := h.ns; omega⟩
theorem In.next {toks : List Tk} {k j : Nat} {s : RS} (h : In toks k j s) (hp : s.st.pos + 1 < toks.length) : In toks k (j + 1) (next s) :=
 ⟨hp, fun e => by have := h.good e; simp only [Rd.next]; omega, h.ts, h.ns⟩
theorem In.ok {toks : List Tk} {k j : Nat} {st : St} (h : In toks k j ⟨st, none⟩) : Ok toks st := ⟨h.pos, by have := h.good rfl; dsimp only at this; omega, by have := h.good rfl; dsimp only at this; omega⟩
end Rd
end
section
open Go Go.RowKit
open Prt (Sat As blk pur exs star stars)
def ftOf (f : Option Ty.Ft) : Ty.Ft := f.getD (0, 0)
structure RRd (w : World) (pb d : Nat) (toks : List Tok.Tk) (s : Rd.RS) : Prop where
 holds : ∃ (lv nv tv : Value) (main : Int), w.heap[pb]? = some (.cells #[lv, .int .i64 s.st.pos, .int .i64 d, nv, tv, .int .i64 main, .int .i64 (ftOf s.f).1, .int .i64 (ftOf s.f).2] 152 (0, 0)) ∧ OwnsTk w 0 lv toks
 wf : Toks toks
 fits : s.st.pos < toks.length ∧ d ≤ 21 ∧ ∀ x, s.f = some x → x.1 ≠ 0
section
variable {w0 w : World} {L : List As} {Fr : As} {pb d : Nat} {toks : List Tok.Tk} {s : Rd.RS}
end
theorem RRd.below {w w' : World} {pb d : Nat} {toks : List Tok.Tk} {s : Rd.RS} (h : RRd w pb d toks s) (hb : Below w.heap.size w w') : RRd w' pb d toks s := by
 obtain ⟨⟨lv, nv, tv, main, h1, h2⟩, h3, h4⟩ := h
 exact ⟨⟨lv, nv, tv, main, by rw [hb.block _ (Array.getElem?_eq_some_iff.1 h1).1]; exact h1, owns_below h2 hb⟩, h3, h4⟩
theorem RRd.lt {w : World} {pb d : Nat} {toks : List Tok.Tk} {s : Rd.RS} (h : RRd w pb d toks s) : pb < w.heap.size := by
 obtain ⟨⟨lv, nv, tv, main, h1, _⟩, _⟩ := h
 exact (Array.getElem?_eq_some_iff.1 h1).1
theorem RRd.cells {w : World} {pb d : Nat} {toks : List Tok.Tk} {s : Rd.RS} (h : RRd w pb d toks s) :
   (∀ o, w.frozen? ⟨pb, o, none⟩ = false) ∧ w.cell? ⟨pb, 1, none⟩ = some (.int .i64 s.st.pos) ∧ w.cell? ⟨pb, 2, none⟩ = some (.int .i64 d) ∧ w.cell? ⟨pb, 6, none⟩ = some (.int .i64 (ftOf s.f).1) ∧ w.cell? ⟨pb, 7, none⟩ = some (.int .i64 (ftOf s.f).2) ∧
   ∃ g cap : Nat, w.cell? ⟨pb, 0, none⟩ = some (.slice (some ⟨g, 0, none⟩) toks.length cap) ∧ g < w.heap.size ∧ w.cell? ⟨g, s.st.pos * 3, none⟩ = some (.int .i64 (Ty.cur toks s.st.pos).kind) ∧ w.cell? ⟨g, s.st.pos * 3 + 1, none⟩ = some (.string (Ty.cur toks s.st.pos).text) ∧ w.cell? ⟨g, s.st.pos * 3 + 2, none⟩ = some (.int .i64 (Ty.cur toks s.st.pos).pos) := by
 obtain ⟨⟨lv, nv, tv, main, h1, h2⟩, h3, h4⟩ := h
 have hne : toks ≠ [] := by rintro rfl; have := h4.1; simp at this
 obtain ⟨g, cap, rfl, _, hg, _, _, hc⟩ := h2.at hne
 obtain ⟨t0, t1, t2⟩ := hc s.st.pos h4.1
 rw [cur_eq toks _ h4.1]
 refine ⟨fun o => frozen_of_block h1 o, by rw [cell_of_block h1]; rfl, by rw [cell_of_block h1]; rfl, by rw [cell_of_block h1]; rfl, by rw [cell_of_block h1]; rfl, g, cap, by rw [cell_of_block h1]; rfl, hg, t0, t1, t2⟩
end
section
namespace Ty
open Tok (Tk)
def ndOf (kind pos : Nat) : Nd := ⟨kind, 0, 0, 0, [], ⟨#[]⟩, 0, -1, pos⟩
def addNode (n : Nd) : M Nat := fun s => .ok (s.ns.length, { s with ns := s.ns ++ [n] })
def ndAt (s : St) (a : Nat) : Nd := (s.ns[a]?).getD (ndOf 0 0)
def look {α : Type} (k : St → M α) : M α := fun s => k s s
def two (x : ByteArray) (a b : Nat) : M Nat := look fun s => addNode { ndOf 12 (ndAt s a).pos with text := x, a := a, b := b }
def leftLoop (toks : List Tk) (one : M Nat) (signs : List (List UInt8)) : Nat → Nat → M Nat
 | 0, _ => fail toks 1
 | f + 1, n => look fun s => if signs.any (fun x => is toks x s.pos) then bnd step fun _ => bnd one fun b => bnd (two (cur toks s.pos).text n b) fun m => leftLoop toks one signs f m else ret n
def left (toks : List Tk) (one : M Nat) (signs : List (List UInt8)) : M Nat := bnd one fun n => leftLoop toks one signs (toks.length + 1) n
def products (toks : List Tk) (one : M Nat) : M Nat := left toks one [[42]]
def sums (toks : List Tk) (one : M Nat) : M Nat := left toks (products toks one) [[43], [45]]
def exprM (toks : List Tk) (one : M Nat) : M Nat :=
 bnd (sums toks one) fun n => bnd (take toks [61, 61]) fun b => if b then bnd (sums toks one) fun m => two ⟨#[61, 61]⟩ n m else
   bnd (take toks [60]) fun b => if b then bnd (sums toks one) fun m => two ⟨#[60]⟩ n m else ret n
def behind (toks : List Tk) (T E : M Nat) : Nat → Nat → M Nat
 | 0, _ => fail toks 1
 | f + 1, a => look fun s => bnd (take toks [40]) fun b => if b then bnd (list toks [41] (fun _ => E) (toks.length + 1) []) fun l => bnd (addNode { ndOf 7 (ndAt s a).pos with a := a, list := l }) fun m => behind toks T E f m else
     bnd (take toks [46]) fun b => if b then bnd (name toks []) fun x => bnd (addNode { ndOf 8 (ndAt s a).pos with a := a, text := x }) fun m => behind toks T E f m else
     bnd (take toks [91]) fun b => if b then bnd E fun c => bnd (need toks [93]) fun _ => bnd (addNode { ndOf 9 (ndAt s a).pos with a := a, b := c }) fun m => behind toks T E f m else
     bnd (take toks [97, 115]) fun b => if b then bnd T fun t => bnd (addNode { ndOf 14 (ndAt s a).pos with a := a, ty := (t : Int) }) fun m => behind toks T E f m else ret a
def written (toks : List Tk) (T : M Nat) : M Int := bnd (take toks [58]) fun b => if b then bnd T fun n => ret (n : Int) else ret (-1)
def partM (toks : List Tk) (E : M Nat) (met : List ByteArray) : M (ByteArray × Nat) :=
 look fun s => bnd (name toks met) fun x => bnd (need toks [58]) fun _ => bnd E fun a => bnd (addNode { ndOf 15 (cur toks s.pos).pos with text := x, a := a }) fun n => ret (x, n)
def paramM (toks : List Tk) (T : M Nat) (met : List ByteArray) : M (ByteArray × Nat) :=
 look fun s => bnd (name toks met) fun x => bnd (written toks T) fun t => bnd (addNode { ndOf 16 (cur toks s.pos).pos with text := x, ty := t }) fun n => ret (x, n)
def stmts (toks : List Tk) (S : M Nat) : Nat → List Nat → M (List Nat)
 | 0, _ => fail toks 1
 | f + 1, l => bnd (take toks [125]) fun b => if b then ret l else bnd S fun n => stmts toks S f (l ++ [n])
def blockM (toks : List Tk) (S : M Nat) : M Nat := look fun s => bnd (need toks [123]) fun _ => bnd (stmts toks S (toks.length + 1) []) fun l => addNode { ndOf 26 (cur toks s.pos).pos with list := l }
def functionM (toks : List Tk) (T S : M Nat) (pos : Nat) : M Nat :=
 bnd (need toks [40]) fun _ => bnd (list toks [41] (fun l => paramM toks T (l.map Prod.fst)) (toks.length + 1) []) fun l => bnd (written toks T) fun t => bnd (blockM toks S) fun a =>
   addNode { ndOf 6 pos with list := l.map Prod.snd, ty := t, a := a }
def value (x : ByteArray) : Nat := x.data.toList.foldl (fun n c => 10 * n + (c.toNat - 48)) 0
def simpleM (toks : List Tk) (T E S : M Nat) : M Nat := look fun s =>
 if (cur toks s.pos).kind = 3 then bnd step fun _ => addNode { ndOf 1 (cur toks s.pos).pos with n := value (cur toks s.pos).text } else
 if (cur toks s.pos).kind = 4 then bnd step fun _ => addNode { ndOf 2 (cur toks s.pos).pos with text := (cur toks s.pos).text } else
 if (cur toks s.pos).kind = 1 then bnd step fun _ => addNode { ndOf 5 (cur toks s.pos).pos with text := (cur toks s.pos).text } else
 bnd (take toks [116, 114, 117, 101]) fun b => if b then addNode { ndOf 3 (cur toks s.pos).pos with n := 1 } else
 bnd (take toks [102, 97, 108, 115, 101]) fun b => if b then addNode (ndOf 3 (cur toks s.pos).pos) else
 bnd (take toks [110, 117, 108, 108]) fun b => if b then addNode (ndOf 4 (cur toks s.pos).pos) else
 bnd (take toks [102, 110]) fun b => if b then functionM toks T S (cur toks s.pos).pos else
 bnd (take toks [91]) fun b => if b then bnd (list toks [93] (fun _ => E) (toks.length + 1) []) fun l => addNode { ndOf 11 (cur toks s.pos).pos with list := l } else
 bnd (take toks [123]) fun b => if b then bnd (list toks [125] (fun l => partM toks E (l.map Prod.fst)) (toks.length + 1) []) fun l => addNode { ndOf 10 (cur toks s.pos).pos with list := l.map Prod.snd } else
 bnd (need toks [40]) fun _ => bnd E fun a => bnd (need toks [41]) fun _ => ret a
def prefixes : List (List UInt8) := [[33], [45], [116, 121, 112, 101, 111, 102]]
def oneM (toks : List Tk) (T E O S : M Nat) : M Nat := look fun s =>
 if prefixes.any (fun x => is toks x s.pos) then bnd step fun _ => bnd O fun a => addNode { ndOf 13 (cur toks s.pos).pos with text := (cur toks s.pos).text, a := a }
 else bnd (simpleM toks T E S) fun a => behind toks T E (toks.length + 1) a
def trunc (a : Nat) : M Unit := fun s => .ok ((), { s with ns := s.ns.take a })
def plainM (toks : List Tk) (E : M Nat) : M Nat := bnd E fun a => look fun s =>
 if is toks [61] s.pos then
   if (ndAt s a).kind = 5 then bnd (trunc a) fun _ => bnd step fun _ => bnd E fun v => bnd (need toks [59]) fun _ => addNode { ndOf 18 (ndAt s a).pos with text := (ndAt s a).text, a := v }
   else if (ndAt s a).kind = 8 then bnd (trunc a) fun _ => bnd step fun _ => bnd E fun v => bnd (need toks [59]) fun _ => addNode { ndOf 19 (ndAt s a).pos with text := (ndAt s a).text, a := (ndAt s a).a, b := v }
   else if (ndAt s a).kind = 9 then bnd (trunc a) fun _ => bnd step fun _ => bnd E fun v => bnd (need toks [59]) fun _ => addNode { ndOf 20 (ndAt s a).pos with a := (ndAt s a).a, b := (ndAt s a).b, c := (v : Int) }
   else fail toks 1
 else bnd (need toks [59]) fun _ => addNode { ndOf 25 (ndAt s a).pos with a := a }
def branchM (toks : List Tk) (E S : M Nat) (yes : Bool) (pos : Nat) : M Nat :=
 bnd step fun _ => bnd (need toks [40]) fun _ => bnd E fun a => bnd (need toks [41]) fun _ => bnd (blockM toks S) fun b =>
   if yes then bnd (take toks [101, 108, 115, 101]) fun e => if e then bnd (blockM toks S) fun c => addNode { ndOf 22 pos with a := a, b := b, c := (c : Int) } else addNode { ndOf 22 pos with a := a, b := b, c := -1 }
   else addNode { ndOf 23 pos with a := a, b := b }
def bareM (toks : List Tk) (T E S : M Nat) : M Nat := look fun s =>
 bnd (take toks [108, 101, 116]) fun b => if b then bnd (name toks []) fun x => bnd (written toks T) fun t => bnd (need toks [61]) fun _ => bnd E fun a => bnd (need toks [59]) fun _ => addNode { ndOf 17 (cur toks s.pos).pos with text := x, ty := t, a := a } else
 bnd (take toks [112, 114, 105, 110, 116]) fun b => if b then bnd E fun a => bnd (need toks [59]) fun _ => addNode { ndOf 21 (cur toks s.pos).pos with a := a } else
 bnd (take toks [114, 101, 116, 117, 114, 110]) fun b => if b then bnd E fun a => bnd (need toks [59]) fun _ => addNode { ndOf 24 (cur toks s.pos).pos with a := a } else
 look fun s2 => if is toks [105, 102] s2.pos then branchM toks E S true (cur toks s.pos).pos else if is toks [119, 104, 105, 108, 101] s2.pos then branchM toks E S false (cur toks s.pos).pos else plainM toks E
structure Lv where
 E : M Nat
 O : M Nat
 S : M Nat
def lv (toks : List Tk) : Nat → Lv
 | 0 => ⟨fail toks 8, fail toks 8, fail toks 8⟩
 | r + 1 => ⟨exprM toks (oneM toks (typ toks r) (lv toks r).E (lv toks r).O (lv toks r).S), oneM toks (typ toks r) (lv toks r).E (lv toks r).O (lv toks r).S, bareM toks (typ toks r) (lv toks r).E (lv toks r).S⟩
def progLoop (toks : List Tk) (S : M Nat) : Nat → List Nat → M (List Nat)
 | 0, _ => fail toks 1
 | f + 1, l => look fun s => if (cur toks s.pos).kind = 6 then ret l else bnd S fun n => progLoop toks S f (l ++ [n])
def progM (toks : List Tk) : M Nat := bnd (progLoop toks (lv toks 20).S (toks.length + 1) []) fun l => addNode { ndOf 26 0 with list := l }
structure Pg where
 ns : List Nd
 ts : List Ty
 main : Nat
def parse (s : ByteArray) : Except Ft Pg :=
 match Tok.scan s with
 | .error e => .error e
 | .ok toks => match progM toks ⟨0, [], []⟩ with
   | .error e => .error e
   | .ok (n, st) => if st.ns.length > 1200 ∨ st.ts.length > 300 then .error (2, 0) else .ok ⟨st.ns, st.ts, n⟩
end Ty
end
end Go.Proofs.YtdlbhiaceheffabGreatDoor
