/- The reference's reader of programs: what its functions are asked; a type; a node's place. -/
import Derived.BigQuiet
import Derived.Test.YtdlbhiaceheffabGreatDoorY32
import Derived.Test.YtdlbhiaceheffabGreatDoorY26
set_option linter.all false
set_option maxRecDepth 100000
set_option maxHeartbeats 8000000
namespace Go.Proofs.YtdlbhiaceheffabGreatDoor
section
open Go Go.RowKit
open Prt (Sat As blk pur exs star ah)
namespace Rd
open Tok (Tk)
open Ty (M St Ft)
theorem At.sim {af : List Tk} {c j k K : Nat} {whole : Except Ft (Nat × St)} {T : M Nat} {g : RS → Nat × RS} {s : RS} (h : At af c j whole T s) (hT : Sim af k T g) (hA : Ty.Adv 1 0 0 T) (hI : Idle g) (hc : c ≤ K) (hk : k ≤ K) : At af K j whole (Ty.ret (g s).1) (g s).2 := by
 obtain ⟨st, f⟩ := s
 rcases h with ⟨h1, ⟨h2, h3, h4⟩, h5⟩ | ⟨f', h1, h2, h3⟩
 · cases h1
   dsimp only at h2 h3 h4 h5
   have hs := hT st ⟨h2, by omega, by omega⟩
   cases e : T st with
   | error f =>
     rw [e] at hs
     obtain ⟨a, st', g1, o1⟩ := hs
     rw [g1]
     exact .inr ⟨f, rfl, o1.mono hk, h5.trans e⟩
   | ok p =>
     obtain ⟨a, st'⟩ := p
     rw [e] at hs
     obtain ⟨g1, o1⟩ := hs
     have ha := hA _ _ _ e
     rw [g1]
     exact .inl ⟨rfl, ⟨o1.1, by dsimp only; omega, by dsimp only; omega⟩, h5.trans e⟩
 · cases h1
   rw [hI]
   exact .inr ⟨f', rfl, h2.mono hc, h3⟩
end Rd
open Rd (At)
def RSp (F : FuncId) (af : List Tok.Tk) (d k b : Nat) (m : Ty.M Nat) : Prop :=
 ∀ (w0 w : World) (Fr : As) (pb : Nat) (s : Rd.RS) (c j K : Nat) (whole : Except Ty.Ft (Nat × Ty.St)), c + b ≤ K → k ≤ K → K ≤ 380 → At af c j whole m s → Sat w0 w [Fr, rdA pb d af s] → ∀ R : Ending → World → Prop,
   (∀ n s' w', At af K j whole (Ty.ret n) s' → Sat w0 w' [Fr, rdA pb d af s'] → R (.returned (.int .i64 (n : Nat))) w') → Calls Tryz.prog F #[.pointer (some ⟨pb, 0, none⟩)] w R
theorem o8 (af : List Tok.Tk) (hL : ∀ t, af.getLast? = some t → t.kind = 6) (r : Nat) (hr : r ≤ 20) : RSp 291 af (20 - r) r 0 (Ty.typ af r) := by
 intro w0 w Fr pb s c j K whole hc hk hK h H R hR
 exact nR af hL r hr w0 w Fr pb s K (by omega) (Rd.In.mono (h.EZ) (by omega) (by omega)) H R (fun w' h' => hR _ _ w' (h.sim (Rd.mf hL r) (Ty.typ_adv af r) (Rd.jc af r) (by omega) hk) h')
section
variable {w0 w : World} {Fr : As} {pb d : Nat} {af : List Tok.Tk} {s : Rd.RS}
theorem Prt.Sat.sO (h : Sat w0 w [Fr, rdA pb d af s]) {n : Nat} (hn : n < s.st.ns.length) : ∃ (g cap : Nat) (lv : Value), w.cell? ⟨pb, 3, none⟩ = some (.slice (some ⟨g, 0, none⟩) s.st.ns.length cap) ∧ g < w.heap.size ∧ s.st.ns.length ≤ cap ∧ cap ≤ maxLen ∧ NdAt w g n (Ty.ndAt s.st n) lv ∧ w.ownsRow 0 3 1 lv (Ty.ndAt s.st n).list.length ((Ty.ndAt s.st n).list.map aA) := by
 obtain ⟨⟨lv0, nv, tv, main⟩, h⟩ := h.jm
 obtain ⟨rows, hr, hrd⟩ := h.gZ 4 rfl
 obtain ⟨g, cap, lv, e, h1, h2, h3, h4, h5⟩ := hrd.look hr hn
 have c3 := h.cell 2 rfl 3 rfl
 dsimp only at e c3
 subst e
 rw [wM hn]
 exact ⟨g, cap, lv, c3, h1, h2, h3, h4, h5⟩
def iq (s : Rd.RS) (n : Nat) : Nat := if s.f.isSome then 0 else (Ty.ndAt s.st n).pos
theorem jM (H : Sat w0 w [Fr, rdA pb d af s]) (n : Nat) (hn : s.f = none → n < s.st.ns.length) (hl : s.st.ns.length ≤ 3000) {R : Ending → World → Prop} (hR : R (.returned (.int .i64 (iq s n : Nat))) w) :
   Calls Tryz.prog 293 #[.pointer (some ⟨pb, 0, none⟩), .int .i64 (n : Nat)] w R := by
 have HR := qh hR
 have hlk := H.az
 have HB := qh (fun R hR => @bC w pb d af s hlk R hR)
 have hlt := hlk.lt
 unfold iq at HR
 obtain ⟨st, f⟩ := s
 dsimp only at hl
 cases f with
 | some f =>
   clear hR H hlk hn
   go_enter Tryz.func293, Tryz.ntmps293
   go_wp2_with fail
   refine HB.out _ ?_
   dsimp only [Option.isSome]
   go_wp2_with fail
   exact HR.out
 | none =>
   obtain ⟨g, cap, lv, c3, hg, h2, h3, hA, _⟩ := H.sO (hn rfl)
   obtain ⟨_, _, _, _, _, _, _, _, q8⟩ := hA
   have hn' : n < st.ns.length := hn rfl
   dsimp only at c3 h2 q8
   simp only [Option.isSome, Bool.false_eq_true, if_false] at HR
   generalize Ty.ndAt st n = t at *
   clear hR H hlk hn
   go_enter Tryz.func293, Tryz.ntmps293
   go_wp2_with fail
   refine HB.out _ ?_
   dsimp only [Option.isSome]
   go_wp2_with fail
   exact HR.out
theorem dW {k : Nat} {T : Ty.M Nat} (hL : ∀ t, af.getLast? = some t → t.kind = 6) (hT : RSp 291 af d k 0 T) {c j K : Nat} {whole : Except Ty.Ft (Int × Ty.St)} (hc : c ≤ K) (hk : k ≤ K) (hK : K ≤ 380) (h : At af c j whole (Ty.written af T) s) (H : Sat w0 w [Fr, rdA pb d af s])
   {R : Ending → World → Prop} (hR : ∀ (n : Int) s' w', At af K j whole (Ty.ret n) s' → Sat w0 w' [Fr, rdA pb d af s'] → R (.returned (.int .i64 n)) w') :
   Calls Tryz.prog 230 #[.pointer (some ⟨pb, 0, none⟩)] w R := by
 have HR := qh hR
 have HS := qh H
 have HA := qh h
 have HT := qh hT
 have HL := qh hL
 clear hR H h hT hL
 go_enter Tryz.func230, Tryz.ntmps230
 go_wp2_with fail
 refine aW HS.out ⟨#[58]⟩ (fun w1 hp h1 => ?_) (fun w1 hp h1 => ?_)
 · obtain ⟨w1', ha, hback⟩ := (At.yes HL.out HA.out hp).use
   have H1 := qh h1
   have HA1 := qh ha
   have HB := qh hback
   clear hp h1 ha hback
   go_wp2_with fail
   refine HT.out _ _ _ pb _ c (j + 1) K w1' (by omega) hk hK HA1.out H1.out _ (fun n s2 w2 hA2 h2 => ?_)
   have HA2 := qh ((HB.out _ _ _ hA2).1.mono (Nat.le_refl _) (j' := j))
   have H2 := qh h2
   clear hA2 h2 HB
   go_wp2_with fail
   exact HR.out n _ _ HA2.out H2.out
 · have HA2 : Hid (At af c j whole (Ty.ret (-1 : Int)) s) := At.no HA.out hp
   have H1 := qh h1
   clear hp h1
   go_wp2_with fail
   exact HR.out (-1) _ _ (HA2.out.mono hc) H1.out
end
end
section
open Go Go.RowKit
open Prt (Sat As blk pur exs star ah)
open Rd (At)
namespace Rd
open Tok (Tk)
open Ty (M St Ft ndAt)
section
variable {γ : Type} {af : List Tk} {c j : Nat} {whole : Except Ft (γ × St)} {s : RS}
theorem At.two {x : ByteArray} {n b : Nat} {k : Nat → M γ} (h : At af c (j + 1) whole (Ty.bnd (Ty.two x n b) k) s) {p : Nat} (hp : s.f = none → p = (ndAt s.st n).pos) : At af (c + 1) j whole (k s.st.ns.length) (Rd.addN { Ty.ndOf 12 p with text := x, a := n, b := b } s) :=
 At.addN (h.congr (m' := Ty.bnd (Ty.addNode { Ty.ndOf 12 p with text := x, a := n, b := b }) k) (fun e => by rw [hp e]; rfl))
theorem bu {x : List UInt8} {s : RS} (h : peek af x s = true) : s.f = none ∧ Ty.is af x s.st.pos = true := by
 unfold peek at h
 simp at h
 exact h
theorem At.zk {ONE : M Nat} {signs : List (List UInt8)} {f n : Nat} {whole : Except Ft (Nat × St)} (hL : ∀ t, af.getLast? = some t → t.kind = 6) (h : At af c j whole (Ty.leftLoop af ONE signs (f + 1) n) s) (x : ByteArray) (hx : x.data.toList ∈ signs) (hp : peek af x.data.toList s = true) :
   At af 0 (j + 1) whole (Ty.bnd ONE fun b => Ty.bnd (Ty.two x n b) fun m => Ty.leftLoop af ONE signs f m) (next s) := by
 obtain ⟨hf, hi⟩ := bu hp
 have h2 : At af 0 j whole (Ty.bnd Ty.step fun _ => Ty.bnd ONE fun b => Ty.bnd (Ty.two x n b) fun m => Ty.leftLoop af ONE signs f m) s := (h.good hf 0).congr (fun _ => by
   show (if signs.any (fun x => Ty.is af x s.st.pos) = true then _ else _ : M Nat) s.st = _
   rw [if_pos (List.any_eq_true.2 ⟨_, hx, hi⟩), is_text hi])
 exact h2.step hL hf (fun e => by unfold Ty.is at hi; rw [e] at hi; simp at hi)
theorem At.pG {ONE : M Nat} {signs : List (List UInt8)} {f n : Nat} {whole : Except Ft (Nat × St)} (h : At af c j whole (Ty.leftLoop af ONE signs f n) s) (hf : s.f = none → 0 < f) (hp : ∀ x ∈ signs, peek af x s = false) : At af c j whole (Ty.ret n) s := by
 refine h.congr (fun e => ?_)
 obtain ⟨f, rfl⟩ : ∃ g, f = g + 1 := ⟨f - 1, by have := hf e; omega⟩
 show (if signs.any (fun x => Ty.is af x s.st.pos) = true then _ else _ : M Nat) s.st = _
 rw [if_neg]
 intro h
 obtain ⟨x, hx, hi⟩ := List.any_eq_true.1 h
 have := hp x hx
 unfold peek at this
 rw [e, hi] at this
 cases this
end
end Rd
theorem fJ {s : Rd.RS} {n : Nat} (h : s.f = none) : iq s n = (Ty.ndAt s.st n).pos := by unfold iq; rw [h]; rfl
def Has (s : Rd.RS) (n : Nat) : Prop := s.f = none → n < s.st.ns.length
section
variable {af : List Tok.Tk} {d k : Nat} {ONE : Ty.M Nat}
theorem fC {m : Ty.M Nat} (hN : Ty.Nx m) {s s' : Rd.RS} {b : Nat} (h : s'.f = none → s.f = none ∧ m s.st = .ok (b, s'.st)) : Has s' b ∧ ∀ n, Has s n → Has s' n :=
 ⟨fun e => by have := (hN _ _ _ (h e).2).2.1; omega, fun n hn e => by have h1 := hn (h e).1; have := (hN _ _ _ (h e).2).1.length_le; omega⟩
theorem has_add (s : Rd.RS) (n : Ty.Nd) : Has (Rd.addN n s) s.st.ns.length := fun _ => by show _ < (s.st.ns ++ [n]).length; simp
theorem oQ (hL : ∀ t, af.getLast? = some t → t.kind = 6) (hone : RSp 338 af d k 0 ONE) (hA : Ty.Adv 1 0 0 ONE) (hN : Ty.Nx ONE) : RSp 325 af d (k + 1) 0 (Ty.products af ONE) := by
 intro w0 w Fr pb s c j K whole hc hk hK h H R hR
 have HR := qh hR
 have HS := qh H
 have HONE := qh hone
 have HL := qh hL
 have htl := H.az.wf.1
 obtain ⟨w1', ha, hback⟩ := (show At af c j whole (Ty.bnd ONE fun n => Ty.leftLoop af ONE [[42]] (af.length + 1) n) s from h).use
 have HA := qh ha
 have HB := qh hback
 clear hR H hone hL h ha hback
 go_enter Tryz.func325, Tryz.ntmps325
 go_wp2_with fail
 refine HONE.out _ _ _ pb _ c j K w1' (by omega) (by omega) hK HA.out HS.out _ (fun n s1 w1 h1 h2 => ?_)
 obtain ⟨h3, h4⟩ := HB.out _ _ _ h1
 have hn1 := (fC hN h4).1
 have H1 := qh h2
 have HA1 := qh h3
 have HN1 := qh hn1
 clear h1 h2 h3 h4 hn1 HB HA
 go_wp2_with fail
 go_loopw [3] (fun v wr => ∃ (f n : Nat) (q : Rd.RS), v = .int .i64 (n : Nat) ∧ Hid (q.f = none → af.length < q.st.pos + f) ∧ Hid (Has q n) ∧ Hid (At af K j whole (Ty.leftLoop af ONE [[42]] f n) q) ∧ Hid (Sat w0 wr [Fr, rdA pb d af q]))
   (fun _ wr => msR af.length pb wr)
 case atStart => exact ⟨af.length + 1, n, s1, rfl, fun _ => by omega, HN1.out, HA1.out, H1.out⟩
 case round =>
   obtain ⟨f, n, q, rfl, hfu, hhas, hAt, hS⟩ := hrel
   have HMS := qh (bF hS.out.az af.length)
   go_wp2_with fail
   refine aW hS.out ⟨#[42]⟩ (fun w2 hp h2 => ?_) (fun w2 hp h2 => ?_)
   · obtain ⟨hqf, _⟩ := Rd.bu hp
     have hfp := hfu.out hqf
     have hpos := hAt.out.pos
     obtain ⟨f, rfl⟩ : ∃ g, f = g + 1 := ⟨f - 1, by omega⟩
     obtain ⟨w2', ha, hback⟩ := (hAt.out.zk HL.out ⟨#[42]⟩ (by simp) hp).use
     have hmq : msR af.length pb wr = af.length - q.st.pos + 1 := by rw [HMS.out, hqf]; rfl
     have hhn : Has (Rd.next q) n := fun e => hhas.out hqf
     have H2 := qh h2
     have HA2 := qh ha
     have HB2 := qh hback
     have HH := qh hhn
     have HMQ := qh hmq
     clear hp h2 ha hback hhn hmq hfu hhas hAt HMS
     go_wp2_with fail
     refine HONE.out _ _ _ pb _ 0 (j + 1) (K - 1) w2' (by omega) (by omega) (by omega) HA2.out H2.out _ (fun b s3 w3 h5 h6 => ?_)
     obtain ⟨h7, h8⟩ := HB2.out _ _ _ h5
     have hh := (fC hN h8).2 n HH.out
     have hns := h7.ns
     have hp3 : s3.f = none → q.st.pos + 1 < s3.st.pos := fun e => by
       obtain ⟨_, e2⟩ := h8 e
       have := (hA _ _ _ e2).1
       have : (Rd.next q).st.pos = q.st.pos + 1 := rfl
       omega
     have h9 := h7.two (p := iq s3 n) (fun e => fJ e)
     have e1 : K - 1 + 1 = K := by omega
     rw [e1] at h9
     have H6 := qh h6
     have HH6 := qh hh
     have HA6 := qh h9
     have HP3 := qh hp3
     clear h5 h6 h7 h8 h9 hh hp3 HB2 HA2 e1
     go_wp2_with fail
     refine jM H6.out n HH6.out (by omega) ?_
     generalize iq s3 n = p at *
     go_wp2_with fail
     refine add_any { Ty.ndOf 12 p with text := ⟨#[42]⟩, a := n, b := b } (.slice none 0 0) (H6.out.nil 3 1) (by omega) (fun w4 h10 => ?_)
     have HMS4 := qh (bF h10.az af.length)
     have H10 := qh h10
     clear h10
     go_wp2_with fail
     go_roundw
     case rel => exact ⟨f, s3.st.ns.length, Rd.addN { Ty.ndOf 12 p with text := ⟨#[42]⟩, a := n, b := b } s3, rfl, fun e => (by have := HP3.out e; show af.length < s3.st.pos + f; omega), has_add _ _, HA6.out, H10.out⟩
     case measure =>
       rw [HMQ.out, HMS4.out]
       show (if s3.f.isSome = true then 0 else af.length - s3.st.pos + 1) < _
       cases e : s3.f with
       | some y => simp
       | none => have := HP3.out e; simp; omega
   · have hA3 := hAt.out.pG (fun e => by have := hfu.out e; have := hAt.out.pos; omega) (fun x hx => by simp at hx; subst hx; exact hp)
     have H2 := qh h2
     have HA3 := qh hA3
     clear hp h2 hA3 HMS
     go_wp2_with fail
     exact HR.out _ _ _ HA3.out H2.out
end
theorem Prt.Sat.iL {w0 w : World} {Fr : As} {pb d : Nat} {af : List Tok.Tk} {s : Rd.RS} (h : Sat w0 w [Fr, rdA pb d af s]) (hp : s.st.pos + 1 < af.length) : Sat w0 (w.setCell ⟨pb, 1, none⟩ (.int .i64 ((s.st.pos : Int) + 1))) [Fr, rdA pb d af (Rd.next s)] := by
 have h2 := h.kL hp
 rw [show ((s.st.pos + 1 : Nat) : Int) = (s.st.pos : Int) + 1 from rfl] at h2
 exact h2
section
variable {af : List Tok.Tk} {d k : Nat} {ONE : Ty.M Nat}
theorem Ap (hL : ∀ t, af.getLast? = some t → t.kind = 6) (hone : RSp 325 af d k 0 ONE) (hA : Ty.Adv 1 0 0 ONE) (hN : Ty.Nx ONE) : RSp 292 af d (k + 1) 0 (Ty.left af ONE [[43], [45]]) := by
 intro w0 w Fr pb s c j K whole hc hk hK h H R hR
 have HR := qh hR
 have HS := qh H
 have HONE := qh hone
 have HL := qh hL
 have htl := H.az.wf.1
 obtain ⟨w1', ha, hback⟩ := (show At af c j whole (Ty.bnd ONE fun n => Ty.leftLoop af ONE [[43], [45]] (af.length + 1) n) s from h).use
 have HA := qh ha
 have HB := qh hback
 clear hR H hone hL h ha hback
 go_enter Tryz.func292, Tryz.ntmps292
 go_wp2_with fail
 refine HONE.out _ _ _ pb _ c j K w1' (by omega) (by omega) hK HA.out HS.out _ (fun n s1 w1 h1 h2 => ?_)
 obtain ⟨h3, h4⟩ := HB.out _ _ _ h1
 have hn1 := (fC hN h4).1
 have H1 := qh h2
 have HA1 := qh h3
 have HN1 := qh hn1
 clear h1 h2 h3 h4 hn1 HB HA
 go_wp2_with fail
 go_loopw [3] (fun v wr => ∃ (f n : Nat) (q : Rd.RS), v = .int .i64 (n : Nat) ∧ Hid (q.f = none → af.length < q.st.pos + f) ∧ Hid (Has q n) ∧ Hid (At af K j whole (Ty.leftLoop af ONE [[43], [45]] f n) q) ∧ Hid (Sat w0 wr [Fr, rdA pb d af q]))
   (fun _ wr => msR af.length pb wr)
 case atStart => exact ⟨af.length + 1, n, s1, rfl, fun _ => by omega, HN1.out, HA1.out, H1.out⟩
 case round =>
   obtain ⟨f, n, q, rfl, hfu, hhas, hAt, hS⟩ := hrel
   have HMS := qh (bF hS.out.az af.length)
   have hlk := hS.out.az
   have HP1 := qh (fun R hR => fE wr pb d af q hlk ⟨#[43]⟩ (R := R) hR)
   have HP2 := qh (fun w2 (hb : Below wr.heap.size wr w2) R hR => fE w2 pb d af q (hlk.below hb) ⟨#[45]⟩ (R := R) hR)
   have HGO : Hid (∀ x : ByteArray, x = ⟨#[43]⟩ ∨ x = ⟨#[45]⟩ → Rd.peek af x.data.toList q = true → ∀ w2, Sat w0 w2 [Fr, rdA pb d af q] → ∃ g, f = g + 1 ∧ q.f = none ∧ q.st.pos + 1 < af.length ∧ (Ty.cur af q.st.pos).text = x ∧ At af 0 (j + 1) whole (Ty.bnd ONE fun b => Ty.bnd (Ty.two x n b) fun m => Ty.leftLoop af ONE [[43], [45]] g m) (Rd.next q)) := fun x hx hp w2 h2 => by
     obtain ⟨hqf, hi⟩ := Rd.bu hp
     have hfp := hfu.out hqf
     have hpos := hAt.out.pos
     obtain ⟨f, rfl⟩ : ∃ g, f = g + 1 := ⟨f - 1, by omega⟩
     exact ⟨f, rfl, hqf, Rd.is_lt HL.out hpos hi, is_text hi, hAt.out.zk HL.out x (by rcases hx with rfl | rfl <;> simp) hp⟩
   have HSTOP : Hid (Rd.peek af (⟨#[43]⟩ : ByteArray).data.toList q = false → Rd.peek af (⟨#[45]⟩ : ByteArray).data.toList q = false → At af K j whole (Ty.ret n) q) := fun h1 h2 =>
     hAt.out.pG (fun e => by have := hfu.out e; have := hAt.out.pos; omega) (fun x hx => by simp at hx; rcases hx with rfl | rfl; exact h1; exact h2)
   have HEX : Hid (∀ w2, Sat w0 w2 [Fr, rdA pb d af q] → (Rd.peek af (⟨#[43]⟩ : ByteArray).data.toList q = true ∨ Rd.peek af (⟨#[45]⟩ : ByteArray).data.toList q = true) → ∃ x g, f = g + 1 ∧ q.f = none ∧ q.st.pos + 1 < af.length ∧ (Ty.cur af q.st.pos).text = x ∧ At af 0 (j + 1) whole (Ty.bnd ONE fun b => Ty.bnd (Ty.two x n b) fun m => Ty.leftLoop af ONE [[43], [45]] g m) (Rd.next q)) := fun w2 h2 hp => by
     rcases hp with hp | hp
     · exact ⟨_, HGO.out _ (.inl rfl) hp w2 h2⟩
     · exact ⟨_, HGO.out _ (.inr rfl) hp w2 h2⟩
   clear hlk HGO
   generalize hb1 : Rd.peek af (⟨#[43]⟩ : ByteArray).data.toList q = b1 at *
   generalize hb2 : Rd.peek af (⟨#[45]⟩ : ByteArray).data.toList q = b2 at *
   clear hb1 hb2
   go_wp2_with fail
   refine HP1.out _ (fun w2 hbw2 => ?_)
   have H2 := qh (hS.out.below hbw2)
   have HBW := qh hbw2
   have HFU := qh hfu.out
   clear hbw2
   cases b1
   · go_wp2_with fail
     refine HP2.out _ HBW.out _ (fun w3 hbw3 => ?_)
     have H3 := qh (H2.out.below hbw3)
     clear hbw3
     cases b2
     · have HA3 := qh (HSTOP.out (by first | trivial | rfl) (by first | trivial | rfl))
       clear HEX HSTOP HP1 HP2 HMS
       go_wp2_with fail
       exact HR.out _ _ _ HA3.out H3.out
     · have HOR : Hid (false = true ∨ true = true) := .inr rfl
       obtain ⟨x, f, rfl, hqf, hlt1, htx, hA2⟩ := HEX.out _ H3.out HOR
       obtain ⟨f0, c1, _, _, _, g0, cap, c0, hg, t0, t1, t2⟩ := H3.out.az.cells
       have hpb := H3.out.az.lt
       have hpos := H3.out.az.fits.1
       rw [htx] at t1
       obtain ⟨w2', ha, hback⟩ := hA2.use
       have hmq : msR af.length pb wr = af.length - q.st.pos + 1 := by rw [HMS.out, hqf]; rfl
       have hhn : Has (Rd.next q) n := fun e => hhas.out hqf
       have hQF := qh hqf
       have HA2 := qh ha
       have HB2 := qh hback
       have HH := qh hhn
       have HMQ := qh hmq
       clear ha hback hhn hmq hfu hhas hAt HMS hA2 hqf htx HEX HSTOP HP1 HP2 HOR
       go_wp2_with fail
       go_quiet (fail)
       have h4 := (H3.out.below (Go.below_drewN (Below.refl _ _) nq)).iL hlt1
       have H4 := qh h4
       clear h4
       go_wp2_with fail
       clear c0 c1 t0 t1 t2 f0
       refine HONE.out _ _ _ pb _ 0 (j + 1) (K - 1) w2' (by omega) (by omega) (by omega) HA2.out H4.out _ (fun b s3 w3 h5 h6 => ?_)
       obtain ⟨h7, h8⟩ := HB2.out _ _ _ h5
       have hh := (fC hN h8).2 n HH.out
       have hns := h7.ns
       have hp3 : s3.f = none → q.st.pos + 1 < s3.st.pos := fun e => by
         obtain ⟨_, e2⟩ := h8 e
         have := (hA _ _ _ e2).1
         have : (Rd.next q).st.pos = q.st.pos + 1 := rfl
         omega
       have h9 := h7.two (p := iq s3 n) (fun e => fJ e)
       have e1 : K - 1 + 1 = K := by omega
       rw [e1] at h9
       have H6 := qh h6
       have HH6 := qh hh
       have HA6 := qh h9
       have HP3 := qh hp3
       clear h5 h6 h7 h8 h9 hh hp3 HB2 HA2 e1
       go_wp2_with fail
       refine jM H6.out n HH6.out (by omega) ?_
       generalize iq s3 n = p at *
       go_wp2_with fail
       refine add_any { Ty.ndOf 12 p with text := x, a := n, b := b } (.slice none 0 0) (H6.out.nil 3 1) (by omega) (fun w4 h10 => ?_)
       have HMS4 := qh (bF h10.az af.length)
       have H10 := qh h10
       clear h10
       go_wp2_with fail
       go_roundw
       case rel => exact ⟨f, s3.st.ns.length, Rd.addN { Ty.ndOf 12 p with text := x, a := n, b := b } s3, rfl, fun e => (by have := HP3.out e; have := HFU.out hQF.out; show af.length < s3.st.pos + f; omega), has_add _ _, HA6.out, H10.out⟩
       case measure =>
         rw [HMQ.out, HMS4.out]
         show (if s3.f.isSome = true then 0 else af.length - s3.st.pos + 1) < _
         cases e : s3.f with
         | some y => simp
         | none => have := HP3.out e; simp; omega
   · have H3 := H2
     have HOR : Hid (true = true ∨ b2 = true) := .inl rfl
     obtain ⟨x, f, rfl, hqf, hlt1, htx, hA2⟩ := HEX.out _ H3.out HOR
     obtain ⟨f0, c1, _, _, _, g0, cap, c0, hg, t0, t1, t2⟩ := H3.out.az.cells
     have hpb := H3.out.az.lt
     have hpos := H3.out.az.fits.1
     rw [htx] at t1
     obtain ⟨w2', ha, hback⟩ := hA2.use
     have hmq : msR af.length pb wr = af.length - q.st.pos + 1 := by rw [HMS.out, hqf]; rfl
     have hhn : Has (Rd.next q) n := fun e => hhas.out hqf
     have hQF := qh hqf
     have HA2 := qh ha
     have HB2 := qh hback
     have HH := qh hhn
     have HMQ := qh hmq
     clear ha hback hhn hmq hfu hhas hAt HMS hA2 hqf htx HEX HSTOP HP1 HP2 HOR
     go_wp2_with fail
     go_quiet (fail)
     have h4 := (H3.out.below (Go.below_drewN (Below.refl _ _) nq)).iL hlt1
     have H4 := qh h4
     clear h4
     go_wp2_with fail
     clear c0 c1 t0 t1 t2 f0
     refine HONE.out _ _ _ pb _ 0 (j + 1) (K - 1) w2' (by omega) (by omega) (by omega) HA2.out H4.out _ (fun b s3 w3 h5 h6 => ?_)
     obtain ⟨h7, h8⟩ := HB2.out _ _ _ h5
     have hh := (fC hN h8).2 n HH.out
     have hns := h7.ns
     have hp3 : s3.f = none → q.st.pos + 1 < s3.st.pos := fun e => by
       obtain ⟨_, e2⟩ := h8 e
       have := (hA _ _ _ e2).1
       have : (Rd.next q).st.pos = q.st.pos + 1 := rfl
       omega
     have h9 := h7.two (p := iq s3 n) (fun e => fJ e)
     have e1 : K - 1 + 1 = K := by omega
     rw [e1] at h9
     have H6 := qh h6
     have HH6 := qh hh
     have HA6 := qh h9
     have HP3 := qh hp3
     clear h5 h6 h7 h8 h9 hh hp3 HB2 HA2 e1
     go_wp2_with fail
     refine jM H6.out n HH6.out (by omega) ?_
     generalize iq s3 n = p at *
     go_wp2_with fail
     refine add_any { Ty.ndOf 12 p with text := x, a := n, b := b } (.slice none 0 0) (H6.out.nil 3 1) (by omega) (fun w4 h10 => ?_)
     have HMS4 := qh (bF h10.az af.length)
     have H10 := qh h10
     clear h10
     go_wp2_with fail
     go_roundw
     case rel => exact ⟨f, s3.st.ns.length, Rd.addN { Ty.ndOf 12 p with text := x, a := n, b := b } s3, rfl, fun e => (by have := HP3.out e; have := HFU.out hQF.out; show af.length < s3.st.pos + f; omega), has_add _ _, HA6.out, H10.out⟩
     case measure =>
       rw [HMQ.out, HMS4.out]
       show (if s3.f.isSome = true then 0 else af.length - s3.st.pos + 1) < _
       cases e : s3.f with
       | some y => simp
       | none => have := HP3.out e; simp; omega
end
theorem lH {af : List Tok.Tk} {s : Rd.RS} {x y : ByteArray} (hx : Rd.peek af x.data.toList s = true) (hxy : x ≠ y) : Rd.peek af y.data.toList s = false := by
 cases h : Rd.peek af y.data.toList s with
 | false => rfl
 | true => exact absurd ((is_text (Rd.bu hx).2).symm.trans (is_text (Rd.bu h).2)) hxy
section
variable {af : List Tok.Tk} {d k : Nat} {ONE : Ty.M Nat}
theorem Ak : RSp 232 af 20 0 0 (Ty.fail af 8) := by
 intro w0 w Fr pb s c j K whole hc hk hK h H R hR
 have HR := qh hR
 have HS := qh H
 have hA : At af c j whole (Ty.ret 0) (Rd.wrong af 8 s) := At.fail (k := Ty.ret) (h.congr (m' := Ty.bnd (Ty.fail af 8) Ty.ret) (fun _ => rfl)) _ _
 have HA := qh (hA.mono (by omega : c ≤ K) (Nat.le_refl j))
 have HN : Hid ((Rd.wrong af 8 s).f.isNone = false) := by unfold Rd.wrong; cases h : s.f with | none => rfl | some y => simp [Hid, h]
 clear hR H h hA
 go_enter Tryz.func232, Tryz.ntmps232
 go_wp2_with fail
 refine bU HS.out (by omega) (fun w1 h1 => ?_)
 rw [if_pos rfl] at h1 ⊢
 rw [HN.out]
 have H1 := qh h1
 clear h1
 go_wp2_with fail
 refine bg H1.out (fun w2 h2 => ?_)
 have H2 := qh h2
 clear h2
 go_wp2_with fail
 exact HR.out _ _ _ HA.out H2.out
theorem CJ (hL : ∀ t, af.getLast? = some t → t.kind = 6) (hd : d < 20) (hsums : RSp 292 af (d + 1) k 0 (Ty.sums af ONE)) (hA : Ty.Adv 1 0 0 ONE) (hN : Ty.Nx ONE) : RSp 232 af d (k + 1) 0 (Ty.exprM af ONE) := by
 intro w0 w Fr pb s c j K whole hc hk hK h H R hR
 have HR := qh hR
 have HS := qh H
 have HSUM := qh hsums
 have HL := qh hL
 have htl := H.az.wf.1
 have HA0 := qh h
 have hNS : Ty.Nx (Ty.sums af ONE) := Ty.sums_nx hN
 clear hR H hsums hL h
 cases hf : s.f with
 | some y =>
   have HN : Hid (s.f.isNone = false) := by show _ = _; rw [hf]; rfl
   have HA := qh ((HA0.out.bad hf (Ty.ret 0) j).mono (by omega : c ≤ K) (Nat.le_refl j))
   clear hf
   go_enter Tryz.func232, Tryz.ntmps232
   go_wp2_with fail
   refine bU HS.out (by omega) (fun w1 h1 => ?_)
   rw [if_neg (by omega)] at h1 ⊢
   rw [HN.out]
   have H1 := qh h1
   clear h1
   go_wp2_with fail
   refine bg H1.out (fun w2 h2 => ?_)
   have H2 := qh h2
   clear h2
   go_wp2_with fail
   exact HR.out _ _ _ HA.out H2.out
 | none =>
   have HN : Hid (s.f.isNone = true) := by show _ = _; rw [hf]; rfl
   have hA1 : At af 0 j whole (Ty.exprM af ONE) s := HA0.out.good hf 0
   unfold Ty.exprM at hA1
   obtain ⟨w1', ha, hback⟩ := hA1.use
   have HA1 := qh ha
   have HB := qh hback
   clear hf hA1 ha hback HA0
   go_enter Tryz.func232, Tryz.ntmps232
   go_wp2_with fail
   refine bU HS.out (by omega) (fun w1 h1 => ?_)
   rw [if_neg (by omega)] at h1 ⊢
   rw [HN.out]
   have H1 := qh h1
   clear h1
   go_wp2_with fail
   refine HSUM.out _ _ _ pb _ 0 j K w1' (by omega) (by omega) hK HA1.out H1.out _ (fun n s2 w2 h1 h2 => ?_)
   obtain ⟨h3, h4⟩ := HB.out _ _ _ h1
   have hn2 := (fC hNS h4).1
   have hpos := h3.pos
   have H2 := qh h2
   have HA2 := qh h3
   have HN2 := qh hn2
   have HP1 := qh (fun R hR => fE w2 pb (d + 1) af s2 h2.az ⟨#[61, 61]⟩ (R := R) hR)
   have HP2 := qh (fun w3 (hb : Below w2.heap.size w2 w3) R hR => fE w3 pb (d + 1) af s2 (h2.az.below hb) ⟨#[60]⟩ (R := R) hR)
   have HEX : Hid (∀ x : ByteArray, (x = ⟨#[61, 61]⟩ ∧ Rd.peek af (⟨#[61, 61]⟩ : ByteArray).data.toList s2 = true ∨ x = ⟨#[60]⟩ ∧ Rd.peek af (⟨#[61, 61]⟩ : ByteArray).data.toList s2 = false ∧ Rd.peek af (⟨#[60]⟩ : ByteArray).data.toList s2 = true) → s2.f = none ∧ s2.st.pos + 1 < af.length ∧ At af 0 (j + 1) whole (Ty.bnd (Ty.sums af ONE) fun m => Ty.two x n m) (Rd.next s2)) := fun x hx => by
     rcases hx with ⟨rfl, hp⟩ | ⟨rfl, h0, hp⟩
     · obtain ⟨hq, hi⟩ := Rd.bu hp
       exact ⟨hq, Rd.is_lt HL.out hpos hi, ((HA2.out.good hq 0).yes HL.out hp).congr (fun _ => rfl)⟩
     · obtain ⟨hq, hi⟩ := Rd.bu hp
       exact ⟨hq, Rd.is_lt HL.out hpos hi, (((((HA2.out.good hq 0).no h0).congr (m' := Ty.bnd (Ty.take af [60]) fun b => if b then Ty.bnd (Ty.sums af ONE) fun m => Ty.two ⟨#[60]⟩ n m else Ty.ret n) (fun _ => rfl))).yes HL.out hp).congr (fun _ => rfl)⟩
   have HSTOP : Hid (Rd.peek af (⟨#[61, 61]⟩ : ByteArray).data.toList s2 = false → Rd.peek af (⟨#[60]⟩ : ByteArray).data.toList s2 = false → At af K j whole (Ty.ret n) s2) := fun h0 hp =>
     ((((HA2.out.no h0).congr (m' := Ty.bnd (Ty.take af [60]) fun b => if b then Ty.bnd (Ty.sums af ONE) fun m => Ty.two ⟨#[60]⟩ n m else Ty.ret n) (fun _ => rfl))).no hp).congr (fun _ => rfl)
   have HXX : Hid (Rd.peek af (⟨#[61, 61]⟩ : ByteArray).data.toList s2 = true → Rd.peek af (⟨#[60]⟩ : ByteArray).data.toList s2 = false) := fun h => lH h (by decide)
   clear h1 h2 h3 h4 hn2 HB HA1 HA2
   generalize hb1 : Rd.peek af (⟨#[61, 61]⟩ : ByteArray).data.toList s2 = b1 at *
   generalize hb2 : Rd.peek af (⟨#[60]⟩ : ByteArray).data.toList s2 = b2 at *
   clear hb1 hb2
   go_wp2_with fail
   refine HP1.out _ (fun w3 hb3 => ?_)
   have H3 := qh (H2.out.below hb3)
   have HB3 := qh hb3
   clear hb3
   cases b1
   · go_wp2_with fail
     refine HP2.out _ HB3.out _ (fun w4 hb4 => ?_)
     have H4 := qh (H3.out.below hb4)
     clear hb4
     cases b2
     · have HA3 := qh (HSTOP.out (by first | trivial | rfl) (by first | trivial | rfl))
       clear HEX HSTOP HXX HP1 HP2
       go_wp2_with fail
       refine bg H4.out (fun w8 h11 => ?_)
       have H11 := qh h11
       clear h11
       go_wp2_with fail
       exact HR.out _ _ _ HA3.out H11.out
     · skip
       obtain ⟨hqf, hlt1, hA3⟩ := HEX.out ⟨#[60]⟩ (.inr ⟨rfl, by first | trivial | rfl, by first | trivial | rfl⟩)
       obtain ⟨w3', ha, hback⟩ := hA3.use
       obtain ⟨f0, c1, _⟩ := H4.out.az.cells
       have hpb := H4.out.az.lt
       have hpos2 := H4.out.az.fits.1
       have h5 := H4.out.iL hlt1
       have hhn : Has (Rd.next s2) n := fun e => HN2.out hqf
       have HA3 := qh ha
       have HB2 := qh hback
       have HH := qh hhn
       have H5 := qh h5
       clear hqf hA3 ha hback h5 hhn HEX HSTOP HXX HP1 HP2
       go_wp2_with fail
       clear c1 f0
       refine HSUM.out _ _ _ pb _ 0 (j + 1) (K - 1) w3' (by omega) (by omega) (by omega) HA3.out H5.out _ (fun b s6 w6 h5 h6 => ?_)
       obtain ⟨h7, h8⟩ := HB2.out _ _ _ h5
       have hh := (fC hNS h8).2 n HH.out
       have hns := h7.ns
       have h9 := At.two (k := Ty.ret) (h7.congr (m' := Ty.bnd (Ty.two ⟨#[60]⟩ n b) Ty.ret) (fun _ => rfl)) (p := iq s6 n) (fun e => fJ e)
       have e1 : K - 1 + 1 = K := by omega
       rw [e1] at h9
       have H6 := qh h6
       have HH6 := qh hh
       have HA6 := qh h9
       clear h5 h6 h7 h8 h9 hh HB2 HA3 e1
       go_wp2_with fail
       refine jM H6.out n HH6.out (by omega) ?_
       generalize iq s6 n = p at *
       go_wp2_with fail
       refine add_any { Ty.ndOf 12 p with text := ⟨#[60]⟩, a := n, b := b } (.slice none 0 0) (H6.out.nil 3 1) (by omega) (fun w7 h10 => ?_)
       have H10 := qh h10
       clear h10
       go_wp2_with fail
       refine bg H10.out (fun w8 h11 => ?_)
       have H11 := qh h11
       clear h11
       go_wp2_with fail
       exact HR.out _ _ _ HA6.out H11.out
   · have hb2 : b2 = false := HXX.out (by first | trivial | rfl)
     subst hb2
     go_wp2_with fail
     refine HP2.out _ HB3.out _ (fun w4 hb4 => ?_)
     have H4 := qh (H3.out.below hb4)
     clear hb4
     obtain ⟨hqf, hlt1, hA3⟩ := HEX.out ⟨#[61, 61]⟩ (.inl ⟨rfl, by first | trivial | rfl⟩)
     obtain ⟨w3', ha, hback⟩ := hA3.use
     obtain ⟨f0, c1, _⟩ := H4.out.az.cells
     have hpb := H4.out.az.lt
     have hpos2 := H4.out.az.fits.1
     have h5 := H4.out.iL hlt1
     have hhn : Has (Rd.next s2) n := fun e => HN2.out hqf
     have HA3 := qh ha
     have HB2 := qh hback
     have HH := qh hhn
     have H5 := qh h5
     clear hqf hA3 ha hback h5 hhn HEX HSTOP HXX HP1 HP2
     go_wp2_with fail
     clear c1 f0
     refine HSUM.out _ _ _ pb _ 0 (j + 1) (K - 1) w3' (by omega) (by omega) (by omega) HA3.out H5.out _ (fun b s6 w6 h5 h6 => ?_)
     obtain ⟨h7, h8⟩ := HB2.out _ _ _ h5
     have hh := (fC hNS h8).2 n HH.out
     have hns := h7.ns
     have h9 := At.two (k := Ty.ret) (h7.congr (m' := Ty.bnd (Ty.two ⟨#[61, 61]⟩ n b) Ty.ret) (fun _ => rfl)) (p := iq s6 n) (fun e => fJ e)
     have e1 : K - 1 + 1 = K := by omega
     rw [e1] at h9
     have H6 := qh h6
     have HH6 := qh hh
     have HA6 := qh h9
     clear h5 h6 h7 h8 h9 hh HB2 HA3 e1
     go_wp2_with fail
     refine jM H6.out n HH6.out (by omega) ?_
     generalize iq s6 n = p at *
     go_wp2_with fail
     refine add_any { Ty.ndOf 12 p with text := ⟨#[61, 61]⟩, a := n, b := b } (.slice none 0 0) (H6.out.nil 3 1) (by omega) (fun w7 h10 => ?_)
     have H10 := qh h10
     clear h10
     go_wp2_with fail
     refine bg H10.out (fun w8 h11 => ?_)
     have H11 := qh h11
     clear h11
     go_wp2_with fail
     exact HR.out _ _ _ HA6.out H11.out
end
theorem Bh {af : List Tok.Tk} {x : List UInt8} {s : Rd.RS} {n : Nat} (h : Has s n) : Has (Rd.must af x s) n := fun e => by
 have h1 := h (Rd.dH e).1
 unfold Rd.must
 split
 · exact h1
 · unfold Rd.wrong; split <;> exact h1
theorem At.oL {af : List Tok.Tk} {c j : Nat} {α : Type} {whole : Except Ty.Ft (List α × Ty.St)} {x : List UInt8} {m : List α → Ty.M α} {f : Nat} {l : List α} {s : Rd.RS} (hL : ∀ t, af.getLast? = some t → t.kind = 6) (h : At af c j whole (Ty.list af x m (f + 1) l) s) (hp : Rd.peek af x s = true) : At af c j whole (Ty.ret l) (Rd.next s) :=
 (((show At af c j whole (Ty.bnd (Ty.take af x) fun b => if b then Ty.ret l else Ty.bnd (if l.length = 0 then Ty.ret () else Ty.need af [44]) fun _ => Ty.bnd (m l) fun n => Ty.list af x m f (l ++ [n])) s from h).yes hL hp).congr (fun _ => rfl)).mono (Nat.le_refl _) (by omega)
theorem At.tY {af : List Tok.Tk} {c j : Nat} {α : Type} {whole : Except Ty.Ft (List α × Ty.St)} {x : List UInt8} {m : List α → Ty.M α} {f : Nat} {l : List α} {s : Rd.RS} (hL : ∀ t, af.getLast? = some t → t.kind = 6) (h : At af c j whole (Ty.list af x m (f + 1) l) s) (hp : Rd.peek af x s = false) :
   At af c j whole (Ty.bnd (m l) fun n => Ty.list af x m f (l ++ [n])) (if l.length = 0 then s else Rd.must af [44] s) := by
 have h2 := ((show At af c j whole (Ty.bnd (Ty.take af x) fun b => if b then Ty.ret l else Ty.bnd (if l.length = 0 then Ty.ret () else Ty.need af [44]) fun _ => Ty.bnd (m l) fun n => Ty.list af x m f (l ++ [n])) s from h).no hp).congr (m' := Ty.bnd (if l.length = 0 then Ty.ret () else Ty.need af [44]) fun _ => Ty.bnd (m l) fun n => Ty.list af x m f (l ++ [n])) (fun _ => rfl)
 by_cases e : l.length = 0
 · rw [if_pos e]; rw [if_pos e] at h2; exact h2.congr (fun _ => rfl)
 · rw [if_neg e]; rw [if_neg e] at h2; exact (h2.must hL).mono (Nat.le_refl _) (by omega)
section
variable {af : List Tok.Tk} {d k : Nat} {E : Ty.M Nat}
theorem mX (hL : ∀ t, af.getLast? = some t → t.kind = 6) (hE : RSp 232 af d k 0 E) (hA : Ty.Adv 1 0 0 E) (hN : Ty.Nx E) {w0 w : World} {Fr : As} {pb : Nat} {s : Rd.RS} {c j K : Nat} {whole : Except Ty.Ft (List Nat × Ty.St)} (x : ByteArray) (hc : c ≤ K) (hk : k ≤ K) (hK : K ≤ 380)
   (h : At af c j whole (Ty.list af x.data.toList (fun _ => E) (af.length + 1) []) s) (H : Sat w0 w [Fr, rdA pb d af s]) {R : Ending → World → Prop}
   (hR : ∀ v l s' w', At af K j whole (Ty.ret l) s' → l.length ≤ af.length + 1 → (∀ n, Has s n → Has s' n) → Sat w0 w' [Fr, rdA pb d af s', inA v l] → R (.returned v) w') :
   Calls Tryz.prog 358 #[.pointer (some ⟨pb, 0, none⟩), .string x] w R := by
 have HR := qh hR
 have HS := qh H
 have HEX := qh hE
 have HL := qh hL
 have htl := H.az.wf.1
 have HA0 := qh (h.mono (by omega : c ≤ K) (Nat.le_refl j))
 have H0 := qh (H.nil 3 1)
 obtain ⟨k0, tk, vz0, vz1, vz2⟩ := info_parts bY
 have HNX : Hid (∀ {q q' : Rd.RS} {b : Nat}, q.f = none → E q.st = .ok (b, q'.st) → ∀ n, Has q n → Has q' n) := fun e1 e2 n hn _ => by have := hn e1; have := (hN _ _ _ e2).1.length_le; omega
 clear hR H hE hL h
 go_enter Tryz.func358, Tryz.ntmps358
 go_wp2_with fail
 go_loopw [5] (fun v wr => ∃ (f : Nat) (l : List Nat) (q : Rd.RS), l.length ≤ af.length + 1 ∧ Hid (q.f = none → af.length < q.st.pos + f ∧ l.length ≤ q.st.pos) ∧ Hid (∀ n, Has s n → Has q n) ∧ Hid (At af K j whole (Ty.list af x.data.toList (fun _ => E) f l) q) ∧ Hid (Sat w0 wr [Fr, rdA pb d af q, inA v l]))
   (fun _ wr => msR af.length pb wr)
 case atStart => exact ⟨af.length + 1, [], s, by simp, fun _ => ⟨by omega, by simp⟩, fun _ h => h, HA0.out, H0.out⟩
 case round =>
   obtain ⟨f, l, q, hll, hfu, hhas, hAt, hS⟩ := hrel
   obtain ⟨a, cap0, rfl⟩ := ag (hS.out.row 2 rfl)
   have HMS := qh (bF (hS.out.pick [0, 1]).az af.length)
   go_wp2_with fail
   refine aW (hS.out.at 1 rfl) x (fun w2 hp h2 => ?_) (fun w2 hp h2 => ?_)
   · obtain ⟨hqf, _⟩ := Rd.bu hp
     have hfp := (hfu.out hqf).1
     have hpos := hAt.out.pos
     obtain ⟨f, rfl⟩ : ∃ g, f = g + 1 := ⟨f - 1, by omega⟩
     have HA2 := qh (At.oL HL.out hAt.out hp)
     have H2 := qh h2.un3
     have HH : Hid (∀ n, Has s n → Has (Rd.next q) n) := fun n h _ => hhas.out n h hqf
     clear hp h2 hAt hfu hhas HMS
     go_wp2_with fail
     exact HR.out _ l _ _ HA2.out hll HH.out H2.out
   · have h3 := h2.un3
     have HBD := qh (fun R hR => @bC w2 pb d af q (h3.pick [0, 1]).az R hR)
     have H2 := qh h3
     cases hqf : q.f with
     | some y =>
       have HA2 := qh (hAt.out.bad hqf (Ty.ret l) j)
       have HQ : Hid (q.f.isSome = true) := by show _ = _; rw [hqf]; rfl
       rw [HQ.out] at HBD
       clear hp h2 h3 hAt hfu HMS hqf
       go_wp2_with fail
       refine HBD.out _ ?_
       go_wp2_with fail
       exact HR.out _ l _ _ HA2.out hll hhas.out H2.out
     | none =>
       have hfp := hfu.out hqf
       have hpos := hAt.out.pos
       obtain ⟨f, rfl⟩ : ∃ g, f = g + 1 := ⟨f - 1, by omega⟩
       have hA2 := At.tY HL.out (hAt.out.good hqf 0) hp
       have HQ : Hid (q.f.isSome = false) := by show _ = _; rw [hqf]; rfl
       have hmq : msR af.length pb wr = af.length - q.st.pos + 1 := by rw [HMS.out, hqf]; rfl
       have HMQ := qh hmq
       have hhn : ∀ n, Has s n → Has q n := hhas.out
       rw [HQ.out] at HBD
       by_cases hl0 : l.length = 0
       · have k1 : decide ((0 : Int) < l.length) = false := by simp [hl0]
         have k2 : decide (0 < l.length) = false := by simp [hl0]
         rw [if_pos hl0] at hA2
         obtain ⟨w2', ha, hback⟩ := hA2.use
         have HPS : Hid (q.f = none → q.st.pos ≤ q.st.pos ∧ ∀ n, Has s n → Has q n) := fun _ => ⟨Nat.le_refl _, hhn⟩
         have HA2 := qh ha
         have HB2 := qh hback
         clear hp h2 h3 hAt hfu hhas HMS hqf hA2 ha hback hmq hhn hl0
         go_wp2_with fail
         refine HBD.out _ ?_
         go_wp2_with fail
         have H5 := H2
         refine HEX.out _ _ _ pb _ 0 j K w2' (by omega) (by omega) hK HA2.out (H5.out.at 1 rfl) _ (fun b s3 w3 h5 h6 => ?_)
         obtain ⟨h7, h8⟩ := HB2.out _ _ _ h5
         have hp3 : s3.f = none → q.st.pos < s3.st.pos ∧ ∀ n, Has s n → Has s3 n := fun e => by
           obtain ⟨e1, e2⟩ := h8 e
           have h9 := HPS.out e1
           have := (hA _ _ _ e2).1
           exact ⟨by omega, fun n hn => HNX.out e1 e2 n (h9.2 n hn)⟩
         have H6 := qh h6.un3
         have HA6 := qh h7
         have HP3 := qh hp3
         have HH3 : Hid (∀ n, Has s n → Has s3 n) := fun n hn e => (hp3 e).2 n hn e
         clear h5 h6 h7 h8 hp3 HB2 HA2 HPS H5
         go_wp2_with (at_builtin; go_loud (refine wpList_append_lies _ rfl (.tmp 20) (.tmp 23) 39 rfl 0 3 k0 _ 1 8 Tryz.underlying39 tk vz0 vz1 vz2 rfl (by decide) _ _ (l.map aA) (by rfl) ((H6.out.row 2 rfl).alloc _) ⟨w3.heap.size, 0, none⟩ 1 1 [.int .i64 (b : Nat)] (by rfl) (by rfl) (World.news_of_block (cs := #[.int .i64 (b : Nat)]) (t := 3) (fr := (0, 0)) (ak _ _ _ (by simp))) (by simp [Value.oneCell']) (by omega) (by unfold maxLen; omega) (by omega) (by simp) (w3.heap.size + 1) (by simp) ?_))
         intro g7 cap7 w7 hown7 hgrow7 hat7 hlt7
         have h7 := Prt.Sat.grow (H6.out.ay _) 2 rfl hgrow7 hown7 (by simpa using hat7)
         have h7 := h7.ent (i := 2) rfl (Q := inA _ (l ++ [b])) (fun _ h => bz h)
         have h7 : Sat w0 w7 [Fr, rdA pb d af s3, inA (.slice (some ⟨g7, 0, none⟩) (l.length + 1) cap7) (l ++ [b])] := h7
         have HMS2 := qh (bF (h7.pick [0, 1]).az af.length)
         have hp7 := (h7.pick [0, 1]).az.fits.1
         have H7 := qh h7
         clear h7 hown7 hgrow7 H6
         go_wp2_with fail
         go_roundw
         case rel => exact ⟨f, l ++ [b], s3, by simp; omega, fun h => by have := (HP3.out h).1; exact ⟨by omega, by simp; omega⟩, HH3.out, HA6.out, H7.out⟩
         case measure =>
           rw [HMQ.out, HMS2.out]
           cases hq4 : s3.f with
           | none => have := (HP3.out hq4).1; simp; omega
           | some y => simp
       · have k1 : decide ((0 : Int) < l.length) = true := by simp; omega
         have k2 : decide (0 < l.length) = true := by simp; omega
         rw [if_neg hl0] at hA2
         obtain ⟨w2', ha, hback⟩ := hA2.use
         have HPS : Hid ((Rd.must af [44] q).f = none → q.st.pos ≤ (Rd.must af [44] q).st.pos ∧ ∀ n, Has s n → Has (Rd.must af [44] q) n) := fun e => ⟨by have := (Rd.dH e).2; omega, fun n hn => Bh (hhn n hn)⟩
         have HA2 := qh ha
         have HB2 := qh hback
         clear hp h2 h3 hAt hfu hhas HMS hqf hA2 ha hback hmq hhn
         go_wp2_with fail
         refine HBD.out _ ?_
         go_wp2_with fail
         refine aS (H2.out.at 1 rfl) ⟨#[44]⟩ (fun w5 h5 => ?_)
         have h5' : Sat w0 w5 [Fr, rdA pb d af (Rd.must af [44] q), inA (.slice a l.length cap0) l] := h5.un3
         have H5 := qh h5'
         clear h5 h5'
         generalize Rd.must af [44] q = q2 at *
         go_wp2_with fail
         refine HEX.out _ _ _ pb _ 0 j K w2' (by omega) (by omega) hK HA2.out (H5.out.at 1 rfl) _ (fun b s3 w3 h5 h6 => ?_)
         obtain ⟨h7, h8⟩ := HB2.out _ _ _ h5
         have hp3 : s3.f = none → q.st.pos < s3.st.pos ∧ ∀ n, Has s n → Has s3 n := fun e => by
           obtain ⟨e1, e2⟩ := h8 e
           have h9 := HPS.out e1
           have := (hA _ _ _ e2).1
           exact ⟨by omega, fun n hn => HNX.out e1 e2 n (h9.2 n hn)⟩
         have H6 := qh h6.un3
         have HA6 := qh h7
         have HP3 := qh hp3
         have HH3 : Hid (∀ n, Has s n → Has s3 n) := fun n hn e => (hp3 e).2 n hn e
         clear h5 h6 h7 h8 hp3 HB2 HA2 HPS H5
         go_wp2_with (at_builtin; go_loud (refine wpList_append_lies _ rfl (.tmp 20) (.tmp 23) 39 rfl 0 3 k0 _ 1 8 Tryz.underlying39 tk vz0 vz1 vz2 rfl (by decide) _ _ (l.map aA) (by rfl) ((H6.out.row 2 rfl).alloc _) ⟨w3.heap.size, 0, none⟩ 1 1 [.int .i64 (b : Nat)] (by rfl) (by rfl) (World.news_of_block (cs := #[.int .i64 (b : Nat)]) (t := 3) (fr := (0, 0)) (ak _ _ _ (by simp))) (by simp [Value.oneCell']) (by omega) (by unfold maxLen; omega) (by omega) (by simp) (w3.heap.size + 1) (by simp) ?_))
         intro g7 cap7 w7 hown7 hgrow7 hat7 hlt7
         have h7 := Prt.Sat.grow (H6.out.ay _) 2 rfl hgrow7 hown7 (by simpa using hat7)
         have h7 := h7.ent (i := 2) rfl (Q := inA _ (l ++ [b])) (fun _ h => bz h)
         have h7 : Sat w0 w7 [Fr, rdA pb d af s3, inA (.slice (some ⟨g7, 0, none⟩) (l.length + 1) cap7) (l ++ [b])] := h7
         have HMS2 := qh (bF (h7.pick [0, 1]).az af.length)
         have hp7 := (h7.pick [0, 1]).az.fits.1
         have H7 := qh h7
         clear h7 hown7 hgrow7 H6
         go_wp2_with fail
         go_roundw
         case rel => exact ⟨f, l ++ [b], s3, by simp; omega, fun h => by have := (HP3.out h).1; exact ⟨by omega, by simp; omega⟩, HH3.out, HA6.out, H7.out⟩
         case measure =>
           rw [HMQ.out, HMS2.out]
           cases hq4 : s3.f with
           | none => have := (HP3.out hq4).1; simp; omega
           | some y => simp
end
namespace Rd
section
variable {γ : Type} {af : List Tok.Tk} {c j : Nat} {whole : Except Ty.Ft (γ × Ty.St)} {s : RS} {m m' : Ty.M γ}
theorem cZ {x : List UInt8} (hp : peek af x s = true) : Ty.take af x s.st = .ok (true, { s.st with pos := s.st.pos + 1 }) := by unfold Ty.take; rw [if_pos (bu hp).2]
theorem aF {x : List UInt8} (hf : s.f = none) (hp : peek af x s = false) : Ty.take af x s.st = .ok (false, s.st) := by
 unfold Ty.take
 rw [if_neg]
 intro h
 unfold peek at hp
 rw [hf, h] at hp
 cases hp
theorem At.go (hL : ∀ t, af.getLast? = some t → t.kind = 6) (h : At af c j whole m s) (hf : s.f = none) (hk : (Ty.cur af s.st.pos).kind ≠ 6) (e : m s.st = m' { s.st with pos := s.st.pos + 1 }) : At af 0 (j + 1) whole m' (next s) :=
 At.step hL (k := fun _ => m') ((h.good hf 0).congr (fun _ => e)) hf hk
theorem At.go' (hL : ∀ t, af.getLast? = some t → t.kind = 6) {x : List UInt8} (h : At af c j whole m s) (hp : peek af x s = true) (e : m s.st = m' { s.st with pos := s.st.pos + 1 }) : At af 0 (j + 1) whole m' (next s) :=
 h.go hL (bu hp).1 (fun e => by have := (bu hp).2; unfold Ty.is at this; rw [e] at this; simp at this) e
end
end Rd
section
variable {af : List Tok.Tk} {d k : Nat} {T E : Ty.M Nat}
theorem yG (hL : ∀ t, af.getLast? = some t → t.kind = 6) (hT : RSp 291 af d k 0 T) (hE : RSp 232 af d k 0 E) (hAT : Ty.Adv 1 0 0 T) (hA : Ty.Adv 1 0 0 E) (hN : Ty.Nx E) {w0 w : World} {Fr : As} {pb : Nat} {s : Rd.RS} {c j K : Nat} {whole : Except Ty.Ft (Nat × Ty.St)} (n : Nat) (hc : c ≤ K) (hk : k + 1 ≤ K) (hK : K ≤ 380)
   (h : At af c j whole (Ty.behind af T E (af.length + 1) n) s) (hn : Has s n) (H : Sat w0 w [Fr, rdA pb d af s]) {R : Ending → World → Prop}
   (hR : ∀ n s' w', At af K j whole (Ty.ret n) s' → Sat w0 w' [Fr, rdA pb d af s'] → R (.returned (.int .i64 (n : Nat))) w') :
   Calls Tryz.prog 350 #[.pointer (some ⟨pb, 0, none⟩), .int .i64 (n : Nat)] w R := by
 have HR := qh hR
 have HS := qh H
 have HEX := qh hE
 have HTX := qh hT
 have HL := qh hL
 have htl := H.az.wf.1
 have HA0 := qh (h.mono (by omega : c ≤ K) (Nat.le_refl j))
 have HN0 := qh hn
 clear hR H hE hT hL h hn
 go_enter Tryz.func350, Tryz.ntmps350
 go_wp2_with fail
 go_loopw [1] (fun v wr => ∃ (f n : Nat) (q : Rd.RS), v = .int .i64 (n : Nat) ∧ Hid (q.f = none → af.length < q.st.pos + f) ∧ Hid (Has q n) ∧ Hid (At af K j whole (Ty.behind af T E f n) q) ∧ Hid (Sat w0 wr [Fr, rdA pb d af q]))
   (fun _ wr => msR af.length pb wr)
 case atStart => exact ⟨af.length + 1, n, s, rfl, fun _ => by omega, HN0.out, HA0.out, HS.out⟩
 case round =>
   obtain ⟨f, n, q, rfl, hfu, hhas, hAt, hS⟩ := hrel
   have HMS := qh (bF hS.out.az af.length)
   have HBD := qh (fun R hR => @bC wr pb d af q hS.out.az R hR)
   cases hqf : q.f with
   | some y =>
     have HA2 := qh (hAt.out.bad hqf (Ty.ret n) j)
     have HQ : Hid (q.f.isSome = true) := by show _ = _; rw [hqf]; rfl
     rw [HQ.out] at HBD
     clear hAt hfu HMS hqf
     go_wp2_with fail
     refine HBD.out _ ?_
     go_wp2_with fail
     exact HR.out _ _ _ HA2.out hS.out
   | none =>
     have hfp := hfu.out hqf
     have hpos := hAt.out.pos
     have hns := hAt.out.ns
     obtain ⟨f, rfl⟩ : ∃ g, f = g + 1 := ⟨f - 1, by omega⟩
     have HQ : Hid (q.f.isSome = false) := by show _ = _; rw [hqf]; rfl
     have hmq : msR af.length pb wr = af.length - q.st.pos + 1 := by rw [HMS.out, hqf]; rfl
     have HMQ := qh hmq
     rw [HQ.out] at HBD
     have HGA : Hid (Rd.peek af (⟨#[40]⟩ : ByteArray).data.toList q = true → At af 0 (j + 1) whole (Ty.bhA af T E f n (iq q n)) (Rd.next q)) := fun h0 => hAt.out.go' HL.out h0 (by rw [fJ hqf]; exact Ty.Es (Rd.cZ h0))
     have HGB : Hid (Rd.peek af (⟨#[40]⟩ : ByteArray).data.toList q = false → Rd.peek af (⟨#[46]⟩ : ByteArray).data.toList q = true → At af 0 (j + 1) whole (Ty.bhB af T E f n (iq q n)) (Rd.next q)) := fun h0 h1 => hAt.out.go' HL.out h1 (by rw [fJ hqf]; exact Ty.Ez (Rd.aF hqf h0) (Rd.cZ h1))
     have HGC : Hid (Rd.peek af (⟨#[40]⟩ : ByteArray).data.toList q = false → Rd.peek af (⟨#[46]⟩ : ByteArray).data.toList q = false → Rd.peek af (⟨#[91]⟩ : ByteArray).data.toList q = true → At af 0 (j + 1) whole (Ty.bhC af T E f n (iq q n)) (Rd.next q)) := fun h0 h1 h2 => hAt.out.go' HL.out h2 (by rw [fJ hqf]; exact Ty.EP (Rd.aF hqf h0) (Rd.aF hqf h1) (Rd.cZ h2))
     have HGD : Hid (Rd.peek af (⟨#[40]⟩ : ByteArray).data.toList q = false → Rd.peek af (⟨#[46]⟩ : ByteArray).data.toList q = false → Rd.peek af (⟨#[91]⟩ : ByteArray).data.toList q = false → Rd.peek af (⟨#[97, 115]⟩ : ByteArray).data.toList q = true → At af 0 (j + 1) whole (Ty.bhD af T E f n (iq q n)) (Rd.next q)) := fun h0 h1 h2 h3 => hAt.out.go' HL.out h3 (by rw [fJ hqf]; exact Ty.EG (Rd.aF hqf h0) (Rd.aF hqf h1) (Rd.aF hqf h2) (Rd.cZ h3))
     have HGE : Hid (Rd.peek af (⟨#[40]⟩ : ByteArray).data.toList q = false → Rd.peek af (⟨#[46]⟩ : ByteArray).data.toList q = false → Rd.peek af (⟨#[91]⟩ : ByteArray).data.toList q = false → Rd.peek af (⟨#[97, 115]⟩ : ByteArray).data.toList q = false → At af K j whole (Ty.ret n) q) := fun h0 h1 h2 h3 => hAt.out.congr (fun _ => Ty.Et (Rd.aF hqf h0) (Rd.aF hqf h1) (Rd.aF hqf h2) (Rd.aF hqf h3))
     have HQF := qh hqf
     clear hAt hfu HMS hqf hmq
     go_wp2_with fail
     refine HBD.out _ ?_
     go_wp2_with fail
     refine jM hS.out n hhas.out (by omega) ?_
     generalize iq q n = pl at *
     go_wp2_with fail
     refine aW hS.out ⟨#[40]⟩ (fun w1 ha h1 => ?_) (fun w1 ha h1 => ?_)
     · obtain ⟨w2', hx, hback⟩ := (HGA.out ha).use
       have HX := qh hx
       have HB2 := qh hback
       have H1 := qh h1
       clear ha h1 hx hback HGA HGB HGC HGD HGE
       go_wp2_with fail
       refine mX HL.out HEX.out hA hN (K := K - 1) ⟨#[41]⟩ (Nat.zero_le _) (by omega) (by omega) HX.out H1.out (fun v l s3 w3 h5 hll hh h6 => ?_)
       obtain ⟨h7, h8⟩ := HB2.out _ _ _ h5
       have hns3 := h7.ns
       have hp3 : s3.f = none → q.st.pos + 1 ≤ s3.st.pos := fun e => by
         obtain ⟨_, e2⟩ := h8 e
         have := (Ty.list_adv (fun _ => hA) _ _ _ _ _ e2).1
         have : (Rd.next q).st.pos = q.st.pos + 1 := rfl
         omega
       have h9 := h7.addN
       have e1 : K - 1 + 1 = K := by omega
       rw [e1] at h9
       obtain ⟨va, vc, rfl⟩ := ag (h6.row 2 rfl)
       have H6 := qh h6
       have HA6 := qh h9
       have HP3 := qh hp3
       clear h5 h6 h7 h8 h9 hp3 HB2 HX e1 hh
       go_wp2_with fail
       refine add_any { Ty.ndOf 7 pl with a := n, list := l } (.slice va l.length vc) (H6.out) (by omega) (fun w9 h10 => ?_)
       have HMS4 := qh (bF h10.az af.length)
       have H10 := qh h10
       clear h10
       go_wp2_with fail
       go_roundw
       case rel => exact ⟨f, s3.st.ns.length, Rd.addN { Ty.ndOf 7 pl with a := n, list := l } s3, rfl, fun e => (by have := HP3.out e; show af.length < s3.st.pos + f; omega), has_add _ _, HA6.out, H10.out⟩
       case measure =>
         rw [HMQ.out, HMS4.out]
         show (if s3.f.isSome = true then 0 else af.length - s3.st.pos + 1) < _
         cases e : s3.f with
         | some y => simp
         | none => have := HP3.out e; simp; omega
     have H1 := qh h1
     have HZ1 := qh ha
     clear h1 ha HGA
     go_wp2_with fail
     refine aW H1.out ⟨#[46]⟩ (fun w2 ha h2 => ?_) (fun w2 ha h2 => ?_)
     · have HX := qh (HGB.out HZ1.out ha)
       have H2 := qh h2
       clear ha h2 HGB HGC HGD HGE HZ1
       go_wp2_with fail
       refine fB H2.out _ [] (nilRow _) (by simp) (fun w3 h3 => ?_)
       have h7 := At.ident HL.out (show At af 0 (j + 1) whole (Ty.bnd (Ty.name af []) fun x => Ty.bnd (Ty.addNode { Ty.ndOf 8 pl with a := n, text := x }) fun m => Ty.behind af T E f m) (Rd.next q) from HX.out)
       have hp3 : (Rd.ident af [] (Rd.next q)).2.f = none → q.st.pos + 1 ≤ (Rd.ident af [] (Rd.next q)).2.st.pos := fun e => by
         have := (Rd.dA e).2
         have : (Rd.next q).st.pos = q.st.pos + 1 := rfl
         omega
       generalize Rd.ident af [] (Rd.next q) = xq at *
       obtain ⟨x, s3⟩ := xq
       dsimp only at h3 h7 hp3 ⊢
       have h9 := (h7.mono (Nat.le_refl _) (by omega : j + 1 ≤ j + 1 + 1)).addN.mono (by omega : 0 + 1 ≤ K) (Nat.le_refl j)
       have hns3 := h7.ns
       have H6 := qh (h3.nil 3 1)
       have HA6 := qh h9
       have HP3 := qh hp3
       clear h3 h7 h9 hp3 HX
       go_wp2_with fail
       refine add_any { Ty.ndOf 8 pl with a := n, text := x } (.slice none 0 0) (H6.out) (by omega) (fun w9 h10 => ?_)
       have HMS4 := qh (bF h10.az af.length)
       have H10 := qh h10
       clear h10
       go_wp2_with fail
       go_roundw
       case rel => exact ⟨f, s3.st.ns.length, Rd.addN { Ty.ndOf 8 pl with a := n, text := x } s3, rfl, fun e => (by have := HP3.out e; show af.length < s3.st.pos + f; omega), has_add _ _, HA6.out, H10.out⟩
       case measure =>
         rw [HMQ.out, HMS4.out]
         show (if s3.f.isSome = true then 0 else af.length - s3.st.pos + 1) < _
         cases e : s3.f with
         | some y => simp
         | none => have := HP3.out e; simp; omega
     have H2 := qh h2
     have HZ2 := qh ha
     clear h2 ha HGB
     go_wp2_with fail
     refine aW H2.out ⟨#[91]⟩ (fun w3 ha h3 => ?_) (fun w3 ha h3 => ?_)
     · obtain ⟨w2', hx, hback⟩ := (HGC.out HZ1.out HZ2.out ha).use
       have HX := qh hx
       have HB2 := qh hback
       have H3 := qh h3
       clear ha h3 hx hback HGC HGD HGE HZ1 HZ2
       go_wp2_with fail
       refine HEX.out _ _ _ pb _ 0 (j + 1) (K - 1) w2' (by omega) (by omega) (by omega) HX.out H3.out _ (fun b s3 w4 h5 h6 => ?_)
       obtain ⟨h7, h8⟩ := HB2.out _ _ _ h5
       have hp3 : s3.f = none → q.st.pos + 1 ≤ s3.st.pos := fun e => by
         obtain ⟨_, e2⟩ := h8 e
         have := (hA _ _ _ e2).1
         have : (Rd.next q).st.pos = q.st.pos + 1 := rfl
         omega
       have H6 := qh h6
       have HA6 := qh h7
       have HP3 := qh hp3
       clear h5 h6 h7 h8 hp3 HB2 HX
       go_wp2_with fail
       refine aS H6.out ⟨#[93]⟩ (fun w5 h5 => ?_)
       have h7 := HA6.out.must HL.out
       have hp4 : (Rd.must af [93] s3).f = none → q.st.pos + 1 ≤ (Rd.must af [93] s3).st.pos := fun e => by
         have := HP3.out (Rd.dH e).1
         have := (Rd.dH e).2
         omega
       have h5' : Sat w0 w5 [Fr, rdA pb d af (Rd.must af [93] s3)] := h5
       generalize Rd.must af [93] s3 = s4 at *
       have h9 := (h7.mono (Nat.le_refl _) (by omega : j + 1 ≤ j + 1 + 1)).addN
       have e1 : K - 1 + 1 = K := by omega
       rw [e1] at h9
       have hns3 := h7.ns
       have H7 := qh (h5'.nil 3 1)
       have HA7 := qh h9
       have HP4 := qh hp4
       clear h5 h5' h7 h9 hp4 HA6 HP3 e1
       go_wp2_with fail
       refine add_any { Ty.ndOf 9 pl with a := n, b := b } (.slice none 0 0) (H7.out) (by omega) (fun w9 h10 => ?_)
       have HMS4 := qh (bF h10.az af.length)
       have H10 := qh h10
       clear h10
       go_wp2_with fail
       go_roundw
       case rel => exact ⟨f, s4.st.ns.length, Rd.addN { Ty.ndOf 9 pl with a := n, b := b } s4, rfl, fun e => (by have := HP4.out e; show af.length < s4.st.pos + f; omega), has_add _ _, HA7.out, H10.out⟩
       case measure =>
         rw [HMQ.out, HMS4.out]
         show (if s4.f.isSome = true then 0 else af.length - s4.st.pos + 1) < _
         cases e : s4.f with
         | some y => simp
         | none => have := HP4.out e; simp; omega
     have H3 := qh h3
     have HZ3 := qh ha
     clear h3 ha HGC
     go_wp2_with fail
     refine aW H3.out ⟨#[97, 115]⟩ (fun w4 ha h4 => ?_) (fun w4 ha h4 => ?_)
     · obtain ⟨w2', hx, hback⟩ := (HGD.out HZ1.out HZ2.out HZ3.out ha).use
       have HX := qh hx
       have HB2 := qh hback
       have H4 := qh h4
       clear ha h4 hx hback HGD HGE HZ1 HZ2 HZ3
       go_wp2_with fail
       refine HTX.out _ _ _ pb _ 0 (j + 1) (K - 1) w2' (by omega) (by omega) (by omega) HX.out H4.out _ (fun b s3 w5 h5 h6 => ?_)
       obtain ⟨h7, h8⟩ := HB2.out _ _ _ h5
       have hns3 := h7.ns
       have hp3 : s3.f = none → q.st.pos + 1 ≤ s3.st.pos := fun e => by
         obtain ⟨_, e2⟩ := h8 e
         have := (hAT _ _ _ e2).1
         have : (Rd.next q).st.pos = q.st.pos + 1 := rfl
         omega
       have h9 := h7.addN
       have e1 : K - 1 + 1 = K := by omega
       rw [e1] at h9
       have H6 := qh (h6.nil 3 1)
       have HA6 := qh h9
       have HP3 := qh hp3
       clear h5 h6 h7 h8 h9 hp3 HB2 HX e1
       go_wp2_with fail
       refine add_any { Ty.ndOf 14 pl with a := n, ty := (b : Int) } (.slice none 0 0) (H6.out) (by omega) (fun w9 h10 => ?_)
       have HMS4 := qh (bF h10.az af.length)
       have H10 := qh h10
       clear h10
       go_wp2_with fail
       go_roundw
       case rel => exact ⟨f, s3.st.ns.length, Rd.addN { Ty.ndOf 14 pl with a := n, ty := (b : Int) } s3, rfl, fun e => (by have := HP3.out e; show af.length < s3.st.pos + f; omega), has_add _ _, HA6.out, H10.out⟩
       case measure =>
         rw [HMQ.out, HMS4.out]
         show (if s3.f.isSome = true then 0 else af.length - s3.st.pos + 1) < _
         cases e : s3.f with
         | some y => simp
         | none => have := HP3.out e; simp; omega
     have HA2 := qh (HGE.out HZ1.out HZ2.out HZ3.out ha)
     have H4 := qh h4
     clear h4 ha HGD HGE HZ1 HZ2 HZ3
     go_wp2_with fail
     exact HR.out _ _ _ HA2.out H4.out
end
end
end Go.Proofs.YtdlbhiaceheffabGreatDoor
