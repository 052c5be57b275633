/- The reference's reader of programs: Value. -/
import Derived.Test.YtdlbhiaceheffabGreatDoorY33
set_option linter.all false
set_option maxRecDepth 100000
set_option maxHeartbeats 8000000
namespace Go.Proofs.YtdlbhiaceheffabGreatDoor
section
open Go Go.RowKit
open Prt (Sat As blk pur exs star ah)
def jK (x : ByteArray) (k : Nat) : Nat := (x.data.toList.take k).foldl (fun n c => 10 * n + (c.toNat - 48)) 0
theorem xm (x : ByteArray) : jK x x.size = Ty.value x := by
 unfold jK Ty.value
 rw [List.take_of_length_le (by show x.data.toList.length ≤ x.data.size; simp)]
theorem kZ (x : ByteArray) (k : Nat) (hk : k < x.size) : jK x (k + 1) = 10 * jK x k + (x[k].toNat - 48) := by
 unfold jK
 have hk2 : k < x.data.toList.length := by show k < x.data.toList.length; rw [Array.length_toList]; exact hk
 rw [List.take_add_one, List.getElem?_eq_getElem hk2, Option.toList_some, List.foldl_append]
 rfl
theorem qw {x : ByteArray} (h : Ty.NumOk x) : ∀ k, k ≤ x.size → jK x k < 10 ^ k
 | 0, _ => by simp [jK]
 | k + 1, hk => by
   have ih := qw h k (by omega)
   have hd := h.dig x[k] (by show x.data[k] ∈ x.data.toList; simp)
   rw [kZ x k hk]
   unfold Tok.isDigit at hd
   simp at hd
   rw [Nat.pow_succ]
   omega
theorem yh (x : ByteArray) (hx : Ty.NumOk x) (w : World) {R : Ending → World → Prop} (hR : R (.returned (.int .i64 (Ty.value x : Nat))) w) :
   Calls Tryz.prog 359 #[.string x] w R := by
 have HR := qh hR
 have hsz := hx.size
 have HX := qh hx
 clear hR hx
 go_enter Tryz.func359, Tryz.ntmps359
 go_wp2_with fail
 go_loop [3, 4] (fun v i => ∃ k : Nat, k ≤ x.size ∧ i = .int .i64 k ∧ v = .int .i64 (jK x k : Nat)) (fun _ i => x.size - (intOf i).toNat)
 case atStart => exact ⟨0, by omega, rfl, rfl⟩
 case round =>
   obtain ⟨k, hk, rfl, rfl⟩ := hrel
   have hv := qw HX.out k hk
   have hp : 10 ^ k ≤ 10 ^ 9 := Nat.pow_le_pow_right (by omega) (by omega)
   by_cases hlt : k < x.size
   · have hd := HX.out.dig x[k] (by show x.data[k] ∈ x.data.toList; simp)
     have hs := kZ x k hlt
     unfold Tok.isDigit at hd
     simp at hd
     generalize jK x k = n at *
     have HSS := qh hs
     clear hs
     have hb : x[k].toNat < 256 := x[k].toNat_lt
     go_wp2_with fail
     go_round
     case rel => exact ⟨k + 1, hlt, rfl, by rw [HSS.out]; congr 1; omega⟩
     case measure => simp [intOf]; omega
   · have hke : k = x.size := by omega
     subst hke
     rw [← xm] at HR
     go_wp2_with fail
     exact HR.out
end
section
open Go Go.RowKit
open Prt (Sat As blk pur exs star ah)
open Rd (At)
theorem At.zA {af : List Tok.Tk} {c j : Nat} {whole : Except Ty.Ft (List Nat × Ty.St)} {S : Ty.M Nat} {f : Nat} {l : List Nat} {s : Rd.RS} (hL : ∀ t, af.getLast? = some t → t.kind = 6) (h : At af c j whole (Ty.stmts af S (f + 1) l) s) (hp : Rd.peek af [125] s = true) : At af c j whole (Ty.ret l) (Rd.next s) :=
 (((show At af c j whole (Ty.bnd (Ty.take af [125]) fun b => if b then Ty.ret l else Ty.bnd S fun n => Ty.stmts af S f (l ++ [n])) s from h).yes hL hp).congr (fun _ => rfl)).mono (Nat.le_refl _) (by omega)
theorem At.BC {af : List Tok.Tk} {c j : Nat} {whole : Except Ty.Ft (List Nat × Ty.St)} {S : Ty.M Nat} {f : Nat} {l : List Nat} {s : Rd.RS} (h : At af c j whole (Ty.stmts af S (f + 1) l) s) (hp : Rd.peek af [125] s = false) :
   At af c j whole (Ty.bnd S fun n => Ty.stmts af S f (l ++ [n])) s :=
 ((show At af c j whole (Ty.bnd (Ty.take af [125]) fun b => if b then Ty.ret l else Ty.bnd S fun n => Ty.stmts af S f (l ++ [n])) s from h).no hp).congr (fun _ => rfl)
section
variable {af : List Tok.Tk} {d k : Nat} {S : Ty.M Nat}
theorem lD (hL : ∀ t, af.getLast? = some t → t.kind = 6) (hE : RSp 87 af d k 0 S) (hA : Ty.Adv 1 0 0 S) : RSp 233 af d (k + 1) 1 (Ty.blockM af S) := by
 intro w0 w Fr pb s c j K whole hc hk hK h H R hR
 have HR := qh hR
 have HS := qh H
 have HEX := qh hE
 have HL := qh hL
 have htl := H.az.wf.1
 have hlk := H.az
 obtain ⟨f0, c1, _, _, _, g0, cap, c0, hg, t0, t1, t2⟩ := hlk.cells
 have hpb := hlk.lt
 have hpos := hlk.fits.1
 have h0 : At af c j whole (Ty.bnd (Ty.need af [123]) fun _ => Ty.bnd (Ty.stmts af S (af.length + 1) []) fun l => Ty.addNode { Ty.ndOf 26 (Ty.cur af s.st.pos).pos with list := l }) s := h
 generalize Ty.cur af s.st.pos = t at *
 obtain ⟨kd, tx, ps⟩ := t
 dsimp only at t0 t1 t2 h0
 obtain ⟨w1', ha, hback⟩ := (h0.must HL.out).use
 have HA0 := qh (ha.mono (by omega : c ≤ K - 1) (Nat.le_refl (j + 1)))
 have HB := qh hback
 obtain ⟨k0, tk, vz0, vz1, vz2⟩ := info_parts bY
 clear hR H hE hL h hlk h0 ha hback
 go_enter Tryz.func233, Tryz.ntmps233
 go_wp2_with fail
 go_quiet (fail)
 have h1 := HS.out.below (Go.below_drewN (Below.refl _ _) nq)
 have H1 := qh h1
 clear h1
 go_wp2_with fail
 clear c0 c1 t0 t1 t2 f0
 refine aS H1.out ⟨#[123]⟩ (fun w2 h2 => ?_)
 have h2' : Sat w0 w2 [Fr, rdA pb d af (Rd.must af [123] s), _] := h2.nil 3 1
 have H2 := qh h2'
 generalize Rd.must af [123] s = s2 at *
 clear h2 h2'
 go_wp2_with fail
 go_loopw [4] (fun v wr => ∃ (f : Nat) (l : List Nat) (q : Rd.RS), l.length ≤ af.length + 1 ∧ Hid (q.f = none → af.length < q.st.pos + f ∧ l.length ≤ q.st.pos) ∧ Hid (At af (K - 1) (j + 1) w1' (Ty.stmts af S f l) q) ∧ Hid (Sat w0 wr [Fr, rdA pb d af q, inA v l]))
   (fun _ wr => msR af.length pb wr)
 case atStart => exact ⟨af.length + 1, [], s2, by simp, fun _ => ⟨by omega, by simp⟩, HA0.out, H2.out⟩
 case round =>
   obtain ⟨f, l, q, hll, hfu, hAt, hS⟩ := hrel
   obtain ⟨a, cap0, rfl⟩ := ag (hS.out.row 2 rfl)
   have HMS := qh (bF (hS.out.pick [0, 1]).az af.length)
   go_wp2_with fail
   refine aW (hS.out.at 1 rfl) ⟨#[125]⟩ (fun w2 hp h2 => ?_) (fun w2 hp h2 => ?_)
   · obtain ⟨hqf, _⟩ := Rd.bu hp
     have hfp := (hfu.out hqf).1
     have hpos := hAt.out.pos
     obtain ⟨f, rfl⟩ : ∃ g, f = g + 1 := ⟨f - 1, by omega⟩
     obtain ⟨h7, _⟩ := HB.out _ _ _ (At.zA HL.out hAt.out hp)
     have h9 := h7.di
     have e1 : K - 1 + 1 = K := by omega
     rw [e1] at h9
     have hns := h7.ns
     have HA2 := qh h9
     have H2 := qh h2.un3
     clear hp h2 hAt hfu HMS h7 h9
     go_wp2_with fail
     refine add_any { Ty.ndOf 26 ps with list := l } (.slice a l.length cap0) H2.out (by omega) (fun w9 h10 => ?_)
     have H10 := qh h10
     clear h10
     go_wp2_with fail
     exact HR.out _ _ _ HA2.out H10.out
   · have h3 := h2.un3
     have HBD := qh (fun R hR => @bC w2 pb d af q (h3.pick [0, 1]).az R hR)
     have H2 := qh h3
     cases hqf : q.f with
     | some y =>
       obtain ⟨h7, _⟩ := HB.out _ _ _ (hAt.out.bad hqf (Ty.ret l) (j + 1))
       have h9 := h7.di
       have e1 : K - 1 + 1 = K := by omega
       rw [e1] at h9
       have hns := h7.ns
       have HA2 := qh h9
       have HQ : Hid (q.f.isSome = true) := by show _ = _; rw [hqf]; rfl
       rw [HQ.out] at HBD
       clear hp h2 h3 hAt hfu HMS hqf h7 h9
       go_wp2_with fail
       refine HBD.out _ ?_
       go_wp2_with fail
       refine add_any { Ty.ndOf 26 ps with list := l } (.slice a l.length cap0) H2.out (by omega) (fun w9 h10 => ?_)
       have H10 := qh h10
       clear h10
       go_wp2_with fail
       exact HR.out _ _ _ HA2.out H10.out
     | none =>
       have hfp := hfu.out hqf
       have hpos := hAt.out.pos
       obtain ⟨f, rfl⟩ : ∃ g, f = g + 1 := ⟨f - 1, by omega⟩
       have hA2 := At.BC (hAt.out.good hqf 0) hp
       have HQ : Hid (q.f.isSome = false) := by show _ = _; rw [hqf]; rfl
       have hmq : msR af.length pb wr = af.length - q.st.pos + 1 := by rw [HMS.out, hqf]; rfl
       have HMQ := qh hmq
       rw [HQ.out] at HBD
       obtain ⟨w2', ha, hback⟩ := hA2.use
       have HA2 := qh ha
       have HB2 := qh hback
       clear hp h2 h3 hAt hfu HMS hqf hA2 ha hback hmq
       go_wp2_with fail
       refine HBD.out _ ?_
       go_wp2_with fail
       refine HEX.out _ _ _ pb _ 0 (j + 1) (K - 1) w2' (by omega) (by omega) (by omega) HA2.out (H2.out.at 1 rfl) _ (fun b s3 w3 h5 h6 => ?_)
       obtain ⟨h7, h8⟩ := HB2.out _ _ _ h5
       have hp3 : s3.f = none → q.st.pos < s3.st.pos := fun e => by
         obtain ⟨e1, e2⟩ := h8 e
         have := (hA _ _ _ e2).1
         omega
       have H6 := qh h6.un3
       have HA6 := qh h7
       have HP3 := qh hp3
       clear h5 h6 h7 h8 hp3 HB2 HA2
       go_wp2_with (at_builtin; go_loud (refine wpList_append_lies _ rfl (.tmp 26) (.tmp 29) 39 rfl 0 3 k0 _ 1 8 Tryz.underlying39 tk vz0 vz1 vz2 rfl (by decide) _ _ (l.map aA) (by rfl) ((H6.out.row 2 rfl).alloc _) ⟨w3.heap.size, 0, none⟩ 1 1 [.int .i64 (b : Nat)] (by rfl) (by rfl) (World.news_of_block (cs := #[.int .i64 (b : Nat)]) (t := 3) (fr := (0, 0)) (ak _ _ _ (by simp))) (by simp [Value.oneCell']) (by omega) (by unfold maxLen; omega) (by omega) (by simp) (w3.heap.size + 1) (by simp) ?_))
       intro g7 cap7 w7 hown7 hgrow7 hat7 hlt7
       have h7 := Prt.Sat.grow (H6.out.ay _) 2 rfl hgrow7 hown7 (by simpa using hat7)
       have h7 := h7.ent (i := 2) rfl (Q := inA _ (l ++ [b])) (fun _ h => bz h)
       have h7 : Sat w0 w7 [Fr, rdA pb d af s3, inA (.slice (some ⟨g7, 0, none⟩) (l.length + 1) cap7) (l ++ [b])] := h7
       have HMS2 := qh (bF (h7.pick [0, 1]).az af.length)
       have hp7 := (h7.pick [0, 1]).az.fits.1
       have H7 := qh h7
       clear h7 hown7 hgrow7 H6
       go_wp2_with fail
       go_roundw
       case rel => exact ⟨f, l ++ [b], s3, by simp; omega, fun h => by have := HP3.out h; exact ⟨by omega, by simp; omega⟩, HA6.out, H7.out⟩
       case measure =>
         rw [HMQ.out, HMS2.out]
         cases hq4 : s3.f with
         | none => have := HP3.out hq4; simp; omega
         | some y => simp
end
theorem iI {a b c : World} (h : Below a.heap.size a b) (k : Below b.heap.size b c) : Below a.heap.size a c := h.trans (k.mono h.size)
theorem RSp.mono {F : FuncId} {af : List Tok.Tk} {d k k' b : Nat} {m : Ty.M Nat} (h : RSp F af d k b m) (hk : k ≤ k') : RSp F af d k' b m :=
 fun w0 w Fr pb s c j K whole hc hk2 hK hA H R hR => h w0 w Fr pb s c j K whole hc (by omega) hK hA H R hR
def RIn (af : List Tok.Tk) (d k : Nat) (O : Ty.M Nat) : Prop := (d = 20 ∧ O = Ty.fail af 8) ∨ (d < 20 ∧ RSp 338 af (d + 1) k 0 O)
section
variable {af : List Tok.Tk} {d k : Nat} {T E O S : Ty.M Nat}
theorem uA (hL : ∀ t, af.getLast? = some t → t.kind = 6) (hT : RSp 291 af d k 0 T) (hE : RSp 232 af d k 0 E) (hO : RIn af d k O) (hatom : RSp 351 af d (k + 4) 0 (Ty.simpleM af T E S)) (hAT : Ty.Adv 1 0 0 T) (hA : Ty.Adv 1 0 0 E) (hN : Ty.Nx E) (hNS : Ty.Nx (Ty.simpleM af T E S)) : RSp 338 af d (k + 5) 0 (Ty.oneM af T E O S) := by
 intro w0 w Fr pb s c j K whole hc hk hK h H R hR
 have HR := qh hR
 have HS := qh H
 have HEX := qh hE
 have HTX := qh hT
 have HO := qh hO
 have HAT := qh hatom
 have HL := qh hL
 have htl := H.az.wf.1
 have hlk := H.az
 obtain ⟨f0, c1, _, _, _, g0, cap, c0, hg, t0, t1, t2⟩ := hlk.cells
 have hpb := hlk.lt
 have hpos := hlk.fits.1
 have HPRE : Hid (∀ x : ByteArray, x.data.toList ∈ Ty.prefixes → Rd.peek af x.data.toList s = true → s.f = none ∧ s.st.pos + 1 < af.length ∧ At af 0 (j + 1) whole (Ty.bnd O fun a => Ty.addNode { Ty.ndOf 13 (Ty.cur af s.st.pos).pos with text := (Ty.cur af s.st.pos).text, a := a }) (Rd.next s)) := fun x hx hp => by
   obtain ⟨hf, hi⟩ := Rd.bu hp
   refine ⟨hf, Rd.is_lt hL hpos hi, h.go' hL hp ?_⟩
   show (if Ty.prefixes.any (fun x => Ty.is af x s.st.pos) = true then _ else _ : Ty.M Nat) s.st = _
   rw [if_pos (List.any_eq_true.2 ⟨_, hx, hi⟩)]
   rfl
 have HREST : Hid (Rd.peek af (⟨#[33]⟩ : ByteArray).data.toList s = false → Rd.peek af (⟨#[45]⟩ : ByteArray).data.toList s = false → Rd.peek af (⟨#[116, 121, 112, 101, 111, 102]⟩ : ByteArray).data.toList s = false → At af c j whole (Ty.bnd (Ty.simpleM af T E S) fun a => Ty.behind af T E (af.length + 1) a) s) := fun h1 h2 h3 => h.congr (fun e => by
   show (if Ty.prefixes.any (fun x => Ty.is af x s.st.pos) = true then _ else _ : Ty.M Nat) s.st = _
   rw [if_neg]
   intro hh
   obtain ⟨x, hx, hi⟩ := List.any_eq_true.1 hh
   have hall : ∀ x, x ∈ Ty.prefixes → Rd.peek af x s = false := fun x hx => by
     simp [Ty.prefixes] at hx
     rcases hx with rfl | rfl | rfl
     · exact h1
     · exact h2
     · exact h3
   have := hall x hx
   unfold Rd.peek at this
   rw [e, hi] at this
   cases this)
 have hns := h.ns
 have HP0 := qh (fun w1 (hb : Below w.heap.size w w1) (x : ByteArray) R hR => fE w1 pb d af s (hlk.below hb) x (R := R) hR)
 clear hR H hE hT hO hatom hL h hlk
 generalize Ty.cur af s.st.pos = t at *
 obtain ⟨kd, tx, tp⟩ := t
 dsimp only at t0 t1 t2
 have HPRE2 : Hid (∀ x : ByteArray, x.data.toList ∈ Ty.prefixes → Rd.peek af x.data.toList s = true → s.f = none ∧ s.st.pos + 1 < af.length ∧ At af 0 (j + 1) whole (Ty.bnd O fun a => Ty.addNode { Ty.ndOf 13 tp with text := tx, a := a }) (Rd.next s)) := HPRE.out
 have HP1 := qh (fun w1 hb R hR => HP0.out w1 hb ⟨#[33]⟩ R hR)
 have HP2 := qh (fun w1 hb R hR => HP0.out w1 hb ⟨#[45]⟩ R hR)
 have HP3 := qh (fun w1 hb R hR => HP0.out w1 hb ⟨#[116, 121, 112, 101, 111, 102]⟩ R hR)
 have HG1 := qh (HPRE2.out ⟨#[33]⟩ (by decide))
 have HG2 := qh (HPRE2.out ⟨#[45]⟩ (by decide))
 have HG3 := qh (HPRE2.out ⟨#[116, 121, 112, 101, 111, 102]⟩ (by decide))
 clear HPRE HPRE2 HP0
 generalize Rd.peek af (⟨#[33]⟩ : ByteArray).data.toList s = b1 at *
 generalize Rd.peek af (⟨#[45]⟩ : ByteArray).data.toList s = b2 at *
 generalize Rd.peek af (⟨#[116, 121, 112, 101, 111, 102]⟩ : ByteArray).data.toList s = b3 at *
 go_enter Tryz.func338, Tryz.ntmps338
 go_wp2_with fail
 go_quiet (fail)
 generalize nq = n1 at *
 go_wp2_with fail
 go_quiet (fail)
 go_wp2_with fail
 generalize n1 + nq = nn at *
 have hbq : Below w.heap.size w (w.drewN nn) := Go.below_drewN (Below.refl _ _) _
 have H1 := qh (HS.out.below hbq)
 have HP1' := qh (HP1.out _ hbq)
 have HP2' := qh (fun w2 (hb : Below (w.drewN nn).heap.size (w.drewN nn) w2) R hR => HP2.out w2 (iI hbq hb) R hR)
 have HP3' := qh (fun w2 (hb : Below (w.drewN nn).heap.size (w.drewN nn) w2) R hR => HP3.out w2 (iI hbq hb) R hR)
 clear HP1 HP2 HP3 c0 c1 t0 t1 t2 f0
 generalize w.drewN nn = w1 at *
 clear hbq
 refine HP1'.out _ (fun w2 hb2 => ?_)
 have H2 := qh (H1.out.below hb2)
 have HB2 := qh hb2
 clear hb2
 cases b1
 rotate_left
 · skip
   obtain ⟨hf, hlt1, hA1⟩ := HG1.out (by first | trivial | rfl)
   obtain ⟨f0, c1, _⟩ := H2.out.az.cells
   have hpb2 := H2.out.az.lt
   have hpos2 := H2.out.az.fits.1
   have h5 := H2.out.iL hlt1
   have HF : Hid ((Rd.next s).f = none) := hf
   have HA1 := qh hA1
   have H5 := qh h5
   have hnl : (Rd.next s).st.ns.length ≤ af.length + 1 + c := hns
   generalize Rd.next s = q at *
   clear hf hA1 h5 HG1 HG2 HG3 HREST HP1' HP2' HP3'
   go_wp2_with fail
   clear c1 f0
   rcases HO.out with ⟨hd, hO⟩ | ⟨hd, hO⟩
   · refine bU H5.out (by omega) (fun w7 h7 => ?_)
     rw [if_pos hd] at h7 ⊢
     have hw : (Rd.wrong af 8 q).f.isNone = false := by unfold Rd.wrong; rw [HF.out]; rfl
     rw [hw]
     have hA2 : At af 0 (j + 1) whole (Ty.addNode { Ty.ndOf 13 tp with text := tx }) (Rd.wrong af 8 q) := At.fail (e := 8) (k := fun a => Ty.addNode { Ty.ndOf 13 tp with text := tx, a := a }) (by rw [← hO]; exact HA1.out) _ _
     have HA2 := qh (hA2.di.mono (by omega : 0 + 1 ≤ K) (Nat.le_refl j))
     have hn2 := hA2.ns
     have H7 := qh h7
     clear h7 hA2 hw hd hO
     go_wp2_with fail
     refine bg H7.out (fun w8 h8 => ?_)
     have H8 := qh h8
     clear h8
     go_wp2_with fail
     refine add_any { Ty.ndOf 13 tp with text := tx } (.slice none 0 0) (H8.out.nil 3 1) (by omega) (fun w9 h9 => ?_)
     have H9 := qh h9
     clear h9
     go_wp2_with fail
     exact HR.out _ _ _ HA2.out H9.out
   · refine bU H5.out (by omega) (fun w7 h7 => ?_)
     rw [if_neg (by omega)] at h7 ⊢
     have hw : q.f.isNone = true := by rw [HF.out]; rfl
     rw [hw]
     obtain ⟨w3', hx, hback⟩ := HA1.out.use
     have HX := qh hx
     have HBK := qh hback
     have H7 := qh h7
     have HOX := qh hO
     clear h7 hx hback hw hO
     go_wp2_with fail
     refine HOX.out _ _ _ pb _ 0 (j + 1) (K - 1) w3' (by omega) (by omega) (by omega) HX.out H7.out _ (fun a s8 w8 h8 h9 => ?_)
     obtain ⟨h10, _⟩ := HBK.out _ _ _ h8
     have h11 := h10.di
     have e1 : K - 1 + 1 = K := by omega
     rw [e1] at h11
     have hn3 := h10.ns
     have HA2 := qh h11
     have H9 := qh h9
     clear h8 h9 h10 h11 HX HBK e1
     go_wp2_with fail
     refine bg H9.out (fun w10 h12 => ?_)
     have H12 := qh h12
     clear h12
     go_wp2_with fail
     refine add_any { Ty.ndOf 13 tp with text := tx, a := a } (.slice none 0 0) (H12.out.nil 3 1) (by omega) (fun w9 h9 => ?_)
     have H13 := qh h9
     clear h9
     go_wp2_with fail
     exact HR.out _ _ _ HA2.out H13.out
 go_wp2_with fail
 refine HP2'.out _ HB2.out _ (fun w3 hb3 => ?_)
 have H3 := qh (H2.out.below hb3)
 have HB3 := qh (iI HB2.out hb3)
 clear hb3
 cases b2
 rotate_left
 · skip
   obtain ⟨hf, hlt1, hA1⟩ := HG2.out (by first | trivial | rfl)
   obtain ⟨f0, c1, _⟩ := H3.out.az.cells
   have hpb2 := H3.out.az.lt
   have hpos2 := H3.out.az.fits.1
   have h5 := H3.out.iL hlt1
   have HF : Hid ((Rd.next s).f = none) := hf
   have HA1 := qh hA1
   have H5 := qh h5
   have hnl : (Rd.next s).st.ns.length ≤ af.length + 1 + c := hns
   generalize Rd.next s = q at *
   clear hf hA1 h5 HG1 HG2 HG3 HREST HP1' HP2' HP3'
   go_wp2_with fail
   clear c1 f0
   rcases HO.out with ⟨hd, hO⟩ | ⟨hd, hO⟩
   · refine bU H5.out (by omega) (fun w7 h7 => ?_)
     rw [if_pos hd] at h7 ⊢
     have hw : (Rd.wrong af 8 q).f.isNone = false := by unfold Rd.wrong; rw [HF.out]; rfl
     rw [hw]
     have hA2 : At af 0 (j + 1) whole (Ty.addNode { Ty.ndOf 13 tp with text := tx }) (Rd.wrong af 8 q) := At.fail (e := 8) (k := fun a => Ty.addNode { Ty.ndOf 13 tp with text := tx, a := a }) (by rw [← hO]; exact HA1.out) _ _
     have HA2 := qh (hA2.di.mono (by omega : 0 + 1 ≤ K) (Nat.le_refl j))
     have hn2 := hA2.ns
     have H7 := qh h7
     clear h7 hA2 hw hd hO
     go_wp2_with fail
     refine bg H7.out (fun w8 h8 => ?_)
     have H8 := qh h8
     clear h8
     go_wp2_with fail
     refine add_any { Ty.ndOf 13 tp with text := tx } (.slice none 0 0) (H8.out.nil 3 1) (by omega) (fun w9 h9 => ?_)
     have H9 := qh h9
     clear h9
     go_wp2_with fail
     exact HR.out _ _ _ HA2.out H9.out
   · refine bU H5.out (by omega) (fun w7 h7 => ?_)
     rw [if_neg (by omega)] at h7 ⊢
     have hw : q.f.isNone = true := by rw [HF.out]; rfl
     rw [hw]
     obtain ⟨w3', hx, hback⟩ := HA1.out.use
     have HX := qh hx
     have HBK := qh hback
     have H7 := qh h7
     have HOX := qh hO
     clear h7 hx hback hw hO
     go_wp2_with fail
     refine HOX.out _ _ _ pb _ 0 (j + 1) (K - 1) w3' (by omega) (by omega) (by omega) HX.out H7.out _ (fun a s8 w8 h8 h9 => ?_)
     obtain ⟨h10, _⟩ := HBK.out _ _ _ h8
     have h11 := h10.di
     have e1 : K - 1 + 1 = K := by omega
     rw [e1] at h11
     have hn3 := h10.ns
     have HA2 := qh h11
     have H9 := qh h9
     clear h8 h9 h10 h11 HX HBK e1
     go_wp2_with fail
     refine bg H9.out (fun w10 h12 => ?_)
     have H12 := qh h12
     clear h12
     go_wp2_with fail
     refine add_any { Ty.ndOf 13 tp with text := tx, a := a } (.slice none 0 0) (H12.out.nil 3 1) (by omega) (fun w9 h9 => ?_)
     have H13 := qh h9
     clear h9
     go_wp2_with fail
     exact HR.out _ _ _ HA2.out H13.out
 go_wp2_with fail
 refine HP3'.out _ HB3.out _ (fun w4 hb4 => ?_)
 have H4 := qh (H3.out.below hb4)
 clear hb4
 cases b3
 rotate_left
 · skip
   obtain ⟨hf, hlt1, hA1⟩ := HG3.out (by first | trivial | rfl)
   obtain ⟨f0, c1, _⟩ := H4.out.az.cells
   have hpb2 := H4.out.az.lt
   have hpos2 := H4.out.az.fits.1
   have h5 := H4.out.iL hlt1
   have HF : Hid ((Rd.next s).f = none) := hf
   have HA1 := qh hA1
   have H5 := qh h5
   have hnl : (Rd.next s).st.ns.length ≤ af.length + 1 + c := hns
   generalize Rd.next s = q at *
   clear hf hA1 h5 HG1 HG2 HG3 HREST HP1' HP2' HP3'
   go_wp2_with fail
   clear c1 f0
   rcases HO.out with ⟨hd, hO⟩ | ⟨hd, hO⟩
   · refine bU H5.out (by omega) (fun w7 h7 => ?_)
     rw [if_pos hd] at h7 ⊢
     have hw : (Rd.wrong af 8 q).f.isNone = false := by unfold Rd.wrong; rw [HF.out]; rfl
     rw [hw]
     have hA2 : At af 0 (j + 1) whole (Ty.addNode { Ty.ndOf 13 tp with text := tx }) (Rd.wrong af 8 q) := At.fail (e := 8) (k := fun a => Ty.addNode { Ty.ndOf 13 tp with text := tx, a := a }) (by rw [← hO]; exact HA1.out) _ _
     have HA2 := qh (hA2.di.mono (by omega : 0 + 1 ≤ K) (Nat.le_refl j))
     have hn2 := hA2.ns
     have H7 := qh h7
     clear h7 hA2 hw hd hO
     go_wp2_with fail
     refine bg H7.out (fun w8 h8 => ?_)
     have H8 := qh h8
     clear h8
     go_wp2_with fail
     refine add_any { Ty.ndOf 13 tp with text := tx } (.slice none 0 0) (H8.out.nil 3 1) (by omega) (fun w9 h9 => ?_)
     have H9 := qh h9
     clear h9
     go_wp2_with fail
     exact HR.out _ _ _ HA2.out H9.out
   · refine bU H5.out (by omega) (fun w7 h7 => ?_)
     rw [if_neg (by omega)] at h7 ⊢
     have hw : q.f.isNone = true := by rw [HF.out]; rfl
     rw [hw]
     obtain ⟨w3', hx, hback⟩ := HA1.out.use
     have HX := qh hx
     have HBK := qh hback
     have H7 := qh h7
     have HOX := qh hO
     clear h7 hx hback hw hO
     go_wp2_with fail
     refine HOX.out _ _ _ pb _ 0 (j + 1) (K - 1) w3' (by omega) (by omega) (by omega) HX.out H7.out _ (fun a s8 w8 h8 h9 => ?_)
     obtain ⟨h10, _⟩ := HBK.out _ _ _ h8
     have h11 := h10.di
     have e1 : K - 1 + 1 = K := by omega
     rw [e1] at h11
     have hn3 := h10.ns
     have HA2 := qh h11
     have H9 := qh h9
     clear h8 h9 h10 h11 HX HBK e1
     go_wp2_with fail
     refine bg H9.out (fun w10 h12 => ?_)
     have H12 := qh h12
     clear h12
     go_wp2_with fail
     refine add_any { Ty.ndOf 13 tp with text := tx, a := a } (.slice none 0 0) (H12.out.nil 3 1) (by omega) (fun w9 h9 => ?_)
     have H13 := qh h9
     clear h9
     go_wp2_with fail
     exact HR.out _ _ _ HA2.out H13.out
 obtain ⟨w2', hx, hback⟩ := (HREST.out (by first | trivial | rfl) (by first | trivial | rfl) (by first | trivial | rfl)).use
 have HX := qh hx
 have HBK := qh hback
 clear hx hback HREST HG1 HG2 HG3 HP1' HP2' HP3'
 go_wp2_with fail
 refine HAT.out _ _ _ pb _ c j K w2' (by omega) (by omega) hK HX.out H4.out _ (fun n s5 w5 h5 h6 => ?_)
 obtain ⟨h7, h8⟩ := HBK.out _ _ _ h5
 have hh := (fC hNS h8).1
 have HA5 := qh h7
 have HH := qh hh
 have H5 := qh h6
 clear h5 h6 h7 h8 hh HX HBK
 go_wp2_with fail
 refine yG HL.out HTX.out HEX.out hAT hA hN n (Nat.le_refl K) (by omega) hK HA5.out HH.out H5.out (fun m s6 w6 h7 h8 => ?_)
 have HA6 := qh h7
 have H6 := qh h8
 clear h7 h8
 go_wp2_with fail
 exact HR.out _ _ _ HA6.out H6.out
end
end
end Go.Proofs.YtdlbhiaceheffabGreatDoor
