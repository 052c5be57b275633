/- Walk of bind: visit, at each kind of node. (Printed by gen_nd1.py.) -/
import Derived.Test.YtdlbhiaceheffabGreatDoorY19
set_option linter.all false
set_option maxRecDepth 100000
set_option maxHeartbeats 4000000
namespace Go.Proofs.YtdlbhiaceheffabGreatDoor
section
open Go Go.RowKit
open Prt (Sat As blk pur exs star ah)
open Ty (Frm Vg andX useV)
def Be (p : Nat) (x : ByteArray) (id : Nat) (G : df) : df := fun frs v => andX (useV p x id true frs v) fun v => G frs v
theorem Ty.aU (p : Nat × df) (l : List (Nat × df)) : bG (p :: l) = p.1 + bG l := rfl
theorem Ty.eG (F : df) (frs : List Frm) (v : Vg) : bT [F] frs v = F frs v := by
 show andX (F frs v) (fun r => .ok (r.1, r.2)) = F frs v
 cases F frs v <;> rfl
section
variable {wB : World} {nv tv : Value} {pg : Ty.Pg} {bb : Nat} {main : Int}
theorem BH (hP : PB wB nv tv pg) {id p : Nat} {x : ByteArray} (hn : pg.ns[id]? = some { Ty.ndOf 5 p with text := x }) : eU wB nv tv bb main id (1) (fun frs v => andX (useV p x id false frs v) fun v => .ok (frs, v)) := by
 intro frs v c w Fr hF H hc R hok hbad
 have HOK := qh hok
 have HBAD := qh hbad
 have HF := qh hF
 have h1 := H.aj (.cells #[.pointer (some ⟨bb, 0, none⟩)] 142) w.heap.size
 obtain ⟨nw, nc, hnw, hnc, hOk, h2⟩ := (h1.at 1 rfl).eQ
 obtain ⟨sv, ov, wb, cb, ms, hms, h3⟩ := h2.dV
 have k0 := h3.cell 1 rfl 0 rfl
 have hbb := h3.lt 1 rfl
 (try dsimp only at k0)
 have H1 := qh h1
 clear hok hbad hF H h1 h2 h3 hms hnw hnc hOk
 go_enter Tryz.func132, Tryz.ntmps132
 go_wp2_with fail
 refine bH hP (HF.out _ _ 0 H1.out rfl) hn k0 hbb (fun lv w2 hb2 hl2 => ?_)
 obtain ⟨la, lc, rfl⟩ := ag hl2
 unfold aB
 (try dsimp only [Ty.ndOf])
 (try dsimp only [Ty.ndOf] at hl2)
 have h3 := (H1.out.below hb2).aj (nbO ⟨5, 0, 0, 0, [], x, 0, -1, p⟩ (.slice la 0 lc)) w2.heap.size
 have y0 := (H1.out.below hb2).cell 2 rfl 0 rfl
 have hy := (H1.out.below hb2).lt 2 rfl
 have x0 := h3.cell 3 rfl 0 rfl
 have H4 := qh ((Prt.Sat.pack (L := [_]) (M := [Fr, blk w2.heap.size (nbO ⟨5, 0, 0, 0, [], x, 0, -1, p⟩ (.slice la 0 lc)), blk w.heap.size (.cells #[.pointer (some ⟨bb, 0, none⟩)] 142 (0, 0))]) (h3.pick [1, 0, 3, 2])).pick [1, 0])
 have HF2 := qh (HF.out.ah (M := [blk w2.heap.size (nbO ⟨5, 0, 0, 0, [], x, 0, -1, p⟩ (.slice la 0 lc)), blk w.heap.size (.cells #[.pointer (some ⟨bb, 0, none⟩)] 142 (0, 0))]))
 have HL2 := qh hl2
 clear h3 hb2 hl2 H1 k0 hbb
 go_wp2_with fail
 refine use_any hP hn false HF2.out H4.out hc (fun v' w' hq h5 => ?_) (fun f w' hq h5 => ?_)
 · have HG := qh (HOK.out frs v' w' (by show andX _ _ = _; rw [show useV p x id false frs v = _ from hq]; rfl) ((h5.unpack (i := 0) rfl).pick [1, 0]))
   clear hq h5
   go_wp2_with fail
   go_end0
   exact HG.out
 · exact ⟨rfl, HBAD.out f w' (by show andX _ _ = _; rw [show useV p x id false frs v = _ from hq]; rfl) ((h5.unpack (i := 0) rfl).pick [0])⟩
theorem BU (hP : PB wB nv tv pg) {id p b : Nat} {x : ByteArray} (hn : pg.ns[id]? = some { Ty.ndOf 18 p with text := x, a := b }) {k : Nat} {G : df} (C : eU wB nv tv bb main b k G) : eU wB nv tv bb main id (k + 1) (Be p x id G) := by
 intro frs v c w Fr hF H hc R hok hbad
 have HOK := qh hok
 have HBAD := qh hbad
 have HF := qh hF
 have h1 := H.aj (.cells #[.pointer (some ⟨bb, 0, none⟩)] 142) w.heap.size
 obtain ⟨nw, nc, hnw, hnc, hOk, h2⟩ := (h1.at 1 rfl).eQ
 obtain ⟨sv, ov, wb, cb, ms, hms, h3⟩ := h2.dV
 have k0 := h3.cell 1 rfl 0 rfl
 have hbb := h3.lt 1 rfl
 (try dsimp only at k0)
 have H1 := qh h1
 clear hok hbad hF H h1 h2 h3 hms hnw hnc hOk
 go_enter Tryz.func132, Tryz.ntmps132
 go_wp2_with fail
 refine bH hP (HF.out _ _ 0 H1.out rfl) hn k0 hbb (fun lv w2 hb2 hl2 => ?_)
 obtain ⟨la, lc, rfl⟩ := ag hl2
 unfold aB
 (try dsimp only [Ty.ndOf])
 (try dsimp only [Ty.ndOf] at hl2)
 have h3 := (H1.out.below hb2).aj (nbO ⟨18, b, 0, 0, [], x, 0, -1, p⟩ (.slice la 0 lc)) w2.heap.size
 have y0 := (H1.out.below hb2).cell 2 rfl 0 rfl
 have hy := (H1.out.below hb2).lt 2 rfl
 have x0 := h3.cell 3 rfl 0 rfl
 have H4 := qh ((Prt.Sat.pack (L := [_]) (M := [Fr, blk w2.heap.size (nbO ⟨18, b, 0, 0, [], x, 0, -1, p⟩ (.slice la 0 lc)), blk w.heap.size (.cells #[.pointer (some ⟨bb, 0, none⟩)] 142 (0, 0))]) (h3.pick [1, 0, 3, 2])).pick [1, 0])
 have HF2 := qh (HF.out.ah (M := [blk w2.heap.size (nbO ⟨18, b, 0, 0, [], x, 0, -1, p⟩ (.slice la 0 lc)), blk w.heap.size (.cells #[.pointer (some ⟨bb, 0, none⟩)] 142 (0, 0))]))
 have HL2 := qh hl2
 clear h3 hb2 hl2 H1 k0 hbb
 go_wp2_with fail
 refine use_any hP hn true HF2.out H4.out (by omega) (fun v' w' hq h5 => ?_) (fun f w' hq h5 => ?_)
 · have hu := h5.unpack (i := 0) rfl
   have y0 := hu.cell 3 rfl 0 rfl
   have x1 := hu.cell 2 rfl 1 rfl
   dsimp only at y0 x1
   have HQ := qh (show useV p x id true frs v = _ from hq)
   have H5 := qh h5
   clear hq h5 hu H4
   go_wp2_with fail
   refine C _ _ _ w' _ HF2.out H5.out (by omega) _ (fun frs' v2 w8 hq8 h9 => ?_) (fun f w8 hq8 h9 => ?_)
   · have HG := qh (HOK.out frs' v2 w8 (by unfold Be; rw [HQ.out]; exact hq8) (by rw [show c + (k + 1) = c + 1 + k by omega]; exact (h9.unpack (i := 0) rfl).pick [1, 0]))
     clear hq8 h9
     go_wp2_with fail
     go_end0
     exact HG.out
   · exact ⟨rfl, HBAD.out f w8 (by unfold Be; rw [HQ.out]; exact hq8) ((h9.unpack (i := 0) rfl).pick [0])⟩
 · exact ⟨rfl, HBAD.out f w' (by unfold Be; rw [show useV p x id true frs v = _ from hq]; rfl) ((h5.unpack (i := 0) rfl).pick [0])⟩
theorem Bz (hP : PB wB nv tv pg) {id p b : Nat} {x : ByteArray} {ty : Int} (hn : pg.ns[id]? = some { Ty.ndOf 17 p with text := x, ty := ty, a := b }) {nb : Ty.Nd} (hbn : pg.ns[b]? = some nb) {fn : Bool} (hfn : (((nb.kind : Nat) : Int) == 6) = fn) {k : Nat} {G : df} (C : eU wB nv tv bb main b k G) : eU wB nv tv bb main id (k + 1) (oM p x id fn G) := by
 intro frs v c w Fr hF H hc R hok hbad
 obtain ⟨_, _, _, _, hil, _, _, _, _, _, hnk, hN⟩ := hP.look hn
 have hx : x.size ≤ maxLen := by have := hnk.size; simp only [Ty.ndOf] at this; unfold maxLen; omega
 have HOK := qh hok
 have HBAD := qh hbad
 have HF := qh hF
 have h1 := H.aj (.cells #[.pointer (some ⟨bb, 0, none⟩)] 142) w.heap.size
 obtain ⟨nw, nc, hnw, hnc, hOk, h2⟩ := (h1.at 1 rfl).eQ
 obtain ⟨sv, ov, wb, cb, ms, hms, h3⟩ := h2.dV
 have k0 := h3.cell 1 rfl 0 rfl
 have hbb := h3.lt 1 rfl
 (try dsimp only at k0)
 have H1 := qh h1
 clear hok hbad hF H h1 h2 h3 hms hnw hnc hOk hnk
 go_enter Tryz.func132, Tryz.ntmps132
 go_wp2_with fail
 refine bH hP (HF.out _ _ 0 H1.out rfl) hn k0 hbb (fun lv w2 hb2 hl2 => ?_)
 obtain ⟨la, lc, rfl⟩ := ag hl2
 unfold aB
 (try dsimp only [Ty.ndOf])
 (try dsimp only [Ty.ndOf] at hl2)
 have h3 := (H1.out.below hb2).aj (nbO ⟨17, b, 0, 0, [], x, 0, ty, p⟩ (.slice la 0 lc)) w2.heap.size
 have y0 := (H1.out.below hb2).cell 2 rfl 0 rfl
 have hy := (H1.out.below hb2).lt 2 rfl
 have x0 := h3.cell 3 rfl 0 rfl
 have H4 := qh ((Prt.Sat.pack (L := [_]) (M := [Fr, blk w2.heap.size (nbO ⟨17, b, 0, 0, [], x, 0, ty, p⟩ (.slice la 0 lc)), blk w.heap.size (.cells #[.pointer (some ⟨bb, 0, none⟩)] 142 (0, 0))]) (h3.pick [1, 0, 3, 2])).pick [1, 0])
 have HF2 := qh (HF.out.ah (M := [blk w2.heap.size (nbO ⟨17, b, 0, 0, [], x, 0, ty, p⟩ (.slice la 0 lc)), blk w.heap.size (.cells #[.pointer (some ⟨bb, 0, none⟩)] 142 (0, 0))]))
 have HL2 := qh hl2
 clear h3 hb2 hl2 H1 k0 hbb
 go_wp2_with fail
 refine CB hP hn hx hbn hfn C HF2.out H4.out hc (fun frs' v' w' hq h5 => ?_) (fun f w' hq h5 => ?_)
 · have HG := qh (HOK.out frs' v' w' hq ((h5.unpack (i := 0) rfl).pick [1, 0]))
   clear hq h5
   go_wp2_with fail
   go_end0
   exact HG.out
 · exact ⟨rfl, HBAD.out f w' hq ((h5.unpack (i := 0) rfl).pick [0])⟩
theorem DT (hP : PB wB nv tv pg) {id p b bp : Nat} {ty : Int} {pids ids : List Nat} (hn : pg.ns[id]? = some { Ty.ndOf 6 p with list := pids, ty := ty, a := b }) (hbn : pg.ns[b]? = some { Ty.ndOf 26 bp with list := ids }) {ps : List (ByteArray × Nat)} (hps : pids.length = ps.length ∧ ∀ i (h1 : i < pids.length) (h2 : i < ps.length), ∃ q ty, pg.ns[pids[i]]? = some { Ty.ndOf 16 q with text := ps[i].1, ty := ty } ∧ ps[i].2 = pids[i] ∧ ps[i].1.size ≤ maxLen) {cs : List (Nat × df)} (hC : dS wB nv tv bb main ids cs) (htl : TlV cs) (hn2 : ids.length ≤ 1000000) (hn3 : pids.length ≤ 1000000) : eU wB nv tv bb main id (1 + ps.length + bG cs) (yN cs ps id) := by
 intro frs v c w Fr hF H hc R hok hbad
 have HPS := qh hps
 clear hps
 have HOK := qh hok
 have HBAD := qh hbad
 have HF := qh hF
 have h1 := H.aj (.cells #[.pointer (some ⟨bb, 0, none⟩)] 142) w.heap.size
 obtain ⟨nw, nc, hnw, hnc, hOk, h2⟩ := (h1.at 1 rfl).eQ
 obtain ⟨sv, ov, wb, cb, ms, hms, h3⟩ := h2.dV
 have k0 := h3.cell 1 rfl 0 rfl
 have hbb := h3.lt 1 rfl
 (try dsimp only at k0)
 have H1 := qh h1
 clear hok hbad hF H h1 h2 h3 hms hnw hnc hOk
 go_enter Tryz.func132, Tryz.ntmps132
 go_wp2_with fail
 refine bH hP (HF.out _ _ 0 H1.out rfl) hn k0 hbb (fun lv w2 hb2 hl2 => ?_)
 obtain ⟨la, lc, rfl⟩ := ag hl2
 unfold aB
 (try dsimp only [Ty.ndOf])
 (try dsimp only [Ty.ndOf] at hl2)
 have h3 := (H1.out.below hb2).aj (nbO ⟨6, b, 0, 0, pids, ⟨#[]⟩, 0, ty, p⟩ (.slice la pids.length lc)) w2.heap.size
 have y0 := (H1.out.below hb2).cell 2 rfl 0 rfl
 have hy := (H1.out.below hb2).lt 2 rfl
 have x0 := h3.cell 3 rfl 0 rfl
 have H4 := qh ((Prt.Sat.pack (L := [_]) (M := [Fr, blk w2.heap.size (nbO ⟨6, b, 0, 0, pids, ⟨#[]⟩, 0, ty, p⟩ (.slice la pids.length lc)), blk w.heap.size (.cells #[.pointer (some ⟨bb, 0, none⟩)] 142 (0, 0))]) (h3.pick [1, 0, 3, 2])).pick [1, 0])
 have HF2 := qh (HF.out.ah (M := [blk w2.heap.size (nbO ⟨6, b, 0, 0, pids, ⟨#[]⟩, 0, ty, p⟩ (.slice la pids.length lc)), blk w.heap.size (.cells #[.pointer (some ⟨bb, 0, none⟩)] 142 (0, 0))]))
 have HL2 := qh hl2
 clear h3 hb2 hl2 H1 k0 hbb
 go_wp2_with fail
 refine lZ hP hn hbn HPS.out hC htl hn2 hn3 HF2.out H4.out hc (fun frs' v' w' hq h5 => ?_) (fun f w' hq h5 => ?_)
 · have HG := qh (HOK.out frs' v' w' hq ((h5.unpack (i := 0) rfl).pick [1, 0]))
   clear hq h5
   go_wp2_with fail
   go_end0
   exact HG.out
 · exact ⟨rfl, HBAD.out f w' hq ((h5.unpack (i := 0) rfl).pick [0])⟩
theorem tC {p : Nat} {ids : List Nat} {cs : List (Nat × df)} (hC : dS wB nv tv bb main ids cs) (hn2 : ids.length ≤ 1000000)
   {frs : List Frm} {v : Vg} {c : Nat} {w : World} {Fr : As} (hF : FrB wB Fr) {xb yb : Nat} {la : Option Addr} {lc : Nat} (hrow : wB.ownsRow 0 3 1 (.slice la ids.length lc) ids.length (ids.map aA))
   (H : Sat wB w [ah [Fr, blk xb (nbO ⟨26, 0, 0, 0, ids, ⟨#[]⟩, 0, -1, p⟩ (.slice la ids.length lc)), blk yb (.cells #[.pointer (some ⟨bb, 0, none⟩)] 142 (0, 0))], biB bb nv tv main c frs v]) (hc : c + bG cs ≤ 100000) {R : Ending → World → Prop}
   (hok : ∀ frs' v' w', bT (cs.map Prod.snd) frs v = .ok (frs', v') → Sat wB w' [ah [Fr, blk xb (nbO ⟨26, 0, 0, 0, ids, ⟨#[]⟩, 0, -1, p⟩ (.slice la ids.length lc)), blk yb (.cells #[.pointer (some ⟨bb, 0, none⟩)] 142 (0, 0))], biB bb nv tv main (c + bG cs) frs' v'] → R (.returned (.tuple #[])) w')
   (hbad : ∀ f w', bT (cs.map Prod.snd) frs v = .error f → Sat wB w' [ah [Fr, blk xb (nbO ⟨26, 0, 0, 0, ids, ⟨#[]⟩, 0, -1, p⟩ (.slice la ids.length lc)), blk yb (.cells #[.pointer (some ⟨bb, 0, none⟩)] 142 (0, 0))]] → R (.panicked (aI f)) w') :
   Calls Tryz.prog 218 #[.pointer (some ⟨yb, 0, none⟩), .pointer (some ⟨xb, 0, none⟩)] w R := by
 have hu := H.unpack (i := 0) rfl
 have y0 := hu.cell 3 rfl 0 rfl
 have x4 := hu.cell 2 rfl 4 rfl
 dsimp only at y0 x4
 have HOK := qh hok
 have HBAD := qh hbad
 have H1 := qh H
 have HROW := qh hrow
 have HF2 := qh (hF.ah (M := [blk xb (nbO ⟨26, 0, 0, 0, ids, ⟨#[]⟩, 0, -1, p⟩ (.slice la ids.length lc)), blk yb (.cells #[.pointer (some ⟨bb, 0, none⟩)] 142 (0, 0))]))
 clear hok hbad H hrow hu hF
 go_enter Tryz.func218, Tryz.ntmps218
 go_wp2_with fail
 refine je HF2.out hC.1 hC.2 (fun w1 L i hs hi => aH HROW.out (HF2.out w1 L i hs hi)) hn2 H1.out hc (fun frs2 v2 w8 hq8 h9 => ?_) (fun f w8 hq8 h9 => ⟨rfl, HBAD.out f w8 hq8 h9⟩)
 have HG := qh (HOK.out frs2 v2 w8 hq8 h9)
 clear hq8 h9
 go_wp2_with fail
 go_end0
 exact HG.out
theorem x9 (hP : PB wB nv tv pg) {id p : Nat} {ids : List Nat} (hn : pg.ns[id]? = some { Ty.ndOf 26 p with list := ids }) {cs : List (Nat × df)} (hC : dS wB nv tv bb main ids cs) (htl : TlV cs) (hn2 : ids.length ≤ 1000000) (owner : Nat) : eU wB nv tv bb main id (bG cs + 1) (sN cs owner) := by
 intro frs v c w Fr hF H hc R hok hbad
 have HOK := qh hok
 have HBAD := qh hbad
 have HF := qh hF
 have h1 := H.aj (.cells #[.pointer (some ⟨bb, 0, none⟩)] 142) w.heap.size
 obtain ⟨nw, nc, hnw, hnc, hOk, h2⟩ := (h1.at 1 rfl).eQ
 obtain ⟨sv, ov, wb, cb, ms, hms, h3⟩ := h2.dV
 have k0 := h3.cell 1 rfl 0 rfl
 have hbb := h3.lt 1 rfl
 (try dsimp only at k0)
 have H1 := qh h1
 clear hok hbad hF H h1 h2 h3 hms hnw hnc 
 go_enter Tryz.func132, Tryz.ntmps132
 go_wp2_with fail
 refine bH hP (HF.out _ _ 0 H1.out rfl) hn k0 hbb (fun lv w2 hb2 hl2 => ?_)
 obtain ⟨la, lc, rfl⟩ := ag hl2
 unfold aB
 (try dsimp only [Ty.ndOf])
 (try dsimp only [Ty.ndOf] at hl2)
 have h3 := (H1.out.below hb2).aj (nbO ⟨26, 0, 0, 0, ids, ⟨#[]⟩, 0, -1, p⟩ (.slice la ids.length lc)) w2.heap.size
 have y0 := (H1.out.below hb2).cell 2 rfl 0 rfl
 have hy := (H1.out.below hb2).lt 2 rfl
 have x0 := h3.cell 3 rfl 0 rfl
 have H4 := qh ((Prt.Sat.pack (L := [_]) (M := [Fr, blk w2.heap.size (nbO ⟨26, 0, 0, 0, ids, ⟨#[]⟩, 0, -1, p⟩ (.slice la ids.length lc)), blk w.heap.size (.cells #[.pointer (some ⟨bb, 0, none⟩)] 142 (0, 0))]) (h3.pick [1, 0, 3, 2])).pick [1, 0])
 have HF2 := qh (HF.out.ah (M := [blk w2.heap.size (nbO ⟨26, 0, 0, 0, ids, ⟨#[]⟩, 0, -1, p⟩ (.slice la ids.length lc)), blk w.heap.size (.cells #[.pointer (some ⟨bb, 0, none⟩)] 142 (0, 0))]))
 have HL2 := qh hl2
 clear h3 hb2 hl2 H1 k0 hbb
 go_wp2_with fail
 obtain ⟨fr, l, rfl⟩ : ∃ fr l, frs = fr :: l := by
   cases frs with
   | nil => exact absurd rfl hOk.ne
   | cons fr l => exact ⟨fr, l, rfl⟩
 obtain ⟨nw2, nc2, _, _, hOk2, h5⟩ := H4.out.eQ
 obtain ⟨sv2, ov2, wb2, cb2, mb2, ms2, hms2, h6⟩ := h5.oV
 have hml : ms2.length ≤ 1000000 := by have := hOk2.len; have := congrArg List.length hms2; simp at *; omega
 obtain ⟨g, cap, rfl, hg, d0, d1⟩ := lg (h6.drew.row 2 rfl)
 have c3 := h6.drew.cell 1 rfl 3 rfl
 have hbb := h6.drew.lt 1 rfl
 have f1 := lG mb2 fr.of
 have hmf : ∀ (fn : Fn) (first cap : Array Value) (w : World), (Instr.makeFunc fn first cap).run Tryz.prog w = .ok (.func fn first cap) w := fun _ _ _ _ => rfl
 have HOF := qh (hOk2.ofs fr (by simp))
 clear h5 h6 hms2 hOk hOk2
 go_region_held (fun w' => w'.cell? ⟨w.heap.size, 0, none⟩ = some (.pointer (some ⟨bb, 0, none⟩))) (first | go_keep | exact s1 | exact s2)
   (first
     | (go_at_call 217; refine jC c3 d0 d1 hbb hg hml (fun w5 hb5 => ?_); have h8 := H4.out.drew.below hb5; have s1 := (h8.unpack (i := 0) rfl).cell 3 rfl 0 rfl; (try dsimp only at s1); have H8 := qh h8; clear hb5 h8)
     | (go_at_call 80; refine wF 218 _ Tryz.call218 owner (bG cs) HOF.out H8.out (by omega) (m := bT (cs.map Prod.snd) (⟨[], owner, fr.of⟩ :: fr :: l) v) (fun frs' v' hm => htl _ _ _ _ _ hm) (fun w5 h5 R' hok' hbad' => tC hC hn2 HF.out HL2.out h5 (by omega) hok' hbad') (fun frs' v' w6 hm h5 => ?_) (fun f w6 hm h5 => ⟨rfl, HBAD.out f w6 (by unfold sN; rw [show bT (cs.map Prod.snd) (⟨[], owner, Ty.topOf (fr :: l)⟩ :: fr :: l) v = _ from hm]; rfl) ((h5.unpack (i := 0) rfl).pick [0])⟩); have hu9 := h5.unpack (i := 0) rfl; have s2 := hu9.cell 3 rfl 0 rfl; (try dsimp only at s2); have HG := qh (HOK.out (fr :: l) v' w6 (by unfold sN; rw [show bT (cs.map Prod.snd) (⟨[], owner, Ty.topOf (fr :: l)⟩ :: fr :: l) v = _ from hm]; rfl) (by rw [show c + (bG cs + 1) = c + 1 + bG cs by omega]; exact hu9.pick [1, 0])); clear hm h5 hu9))
 all_goals
   go_wp2_with fail
   go_end0
   exact HG.out
theorem BJ (hP : PB wB nv tv pg) {id p a b : Nat} (hn : pg.ns[id]? = some { Ty.ndOf 22 p with a := a, b := b, c := -1 }) {ka kb : Nat} {Fa Fb : df} (Ca : eU wB nv tv bb main a ka Fa) (Cb : eU wB nv tv bb main b kb Fb) : eU wB nv tv bb main id (ka + kb) (bT [Fa, Fb]) := by
 intro frs v c w Fr hF H hc R hok hbad
 have HOK := qh hok
 have HBAD := qh hbad
 have HF := qh hF
 have h1 := H.aj (.cells #[.pointer (some ⟨bb, 0, none⟩)] 142) w.heap.size
 obtain ⟨nw, nc, hnw, hnc, hOk, h2⟩ := (h1.at 1 rfl).eQ
 obtain ⟨sv, ov, wb, cb, ms, hms, h3⟩ := h2.dV
 have k0 := h3.cell 1 rfl 0 rfl
 have hbb := h3.lt 1 rfl
 (try dsimp only at k0)
 have H1 := qh h1
 clear hok hbad hF H h1 h2 h3 hms hnw hnc hOk
 go_enter Tryz.func132, Tryz.ntmps132
 go_wp2_with fail
 refine bH hP (HF.out _ _ 0 H1.out rfl) hn k0 hbb (fun lv w2 hb2 hl2 => ?_)
 obtain ⟨la, lc, rfl⟩ := ag hl2
 unfold aB
 (try dsimp only [Ty.ndOf])
 (try dsimp only [Ty.ndOf] at hl2)
 have h3 := (H1.out.below hb2).aj (nbO ⟨22, a, b, -1, [], ⟨#[]⟩, 0, -1, p⟩ (.slice la 0 lc)) w2.heap.size
 have y0 := (H1.out.below hb2).cell 2 rfl 0 rfl
 have hy := (H1.out.below hb2).lt 2 rfl
 have x0 := h3.cell 3 rfl 0 rfl
 have x1 := h3.cell 3 rfl 1 rfl
 have x2 := h3.cell 3 rfl 2 rfl
 have H4 := qh ((Prt.Sat.pack (L := [_]) (M := [Fr, blk w2.heap.size (nbO ⟨22, a, b, -1, [], ⟨#[]⟩, 0, -1, p⟩ (.slice la 0 lc)), blk w.heap.size (.cells #[.pointer (some ⟨bb, 0, none⟩)] 142 (0, 0))]) (h3.pick [1, 0, 3, 2])).pick [1, 0])
 have HF2 := qh (HF.out.ah (M := [blk w2.heap.size (nbO ⟨22, a, b, -1, [], ⟨#[]⟩, 0, -1, p⟩ (.slice la 0 lc)), blk w.heap.size (.cells #[.pointer (some ⟨bb, 0, none⟩)] 142 (0, 0))]))
 have HL2 := qh hl2
 clear h3 hb2 hl2 H1 k0 hbb
 go_wp2_with fail
 have h5 := (H4.out.unpack (i := 0) rfl).aj (.cells #[.int .i64 (a : Nat), .int .i64 (b : Nat)] 3) (w2.heap.size + 1) (by simp)
 have h6 := h5.ent (i := 4) rfl (Q := inA (.slice (some ⟨w2.heap.size + 1, 0, none⟩) 2 2) [a, b]) (fun _ h => aG h rfl (by simp [maxLen]) (by simp [aA]))
 have HF3 := qh (HF.out.ah (M := [blk w2.heap.size (nbO ⟨22, a, b, -1, [], ⟨#[]⟩, 0, -1, p⟩ (.slice la 0 lc)), blk w.heap.size (.cells #[.pointer (some ⟨bb, 0, none⟩)] 142 (0, 0)), inA (.slice (some ⟨w2.heap.size + 1, 0, none⟩) 2 2) [a, b]]))
 have H6 := qh ((Prt.Sat.pack (L := [_]) (M := [Fr, blk w2.heap.size (nbO ⟨22, a, b, -1, [], ⟨#[]⟩, 0, -1, p⟩ (.slice la 0 lc)), blk w.heap.size (.cells #[.pointer (some ⟨bb, 0, none⟩)] 142 (0, 0)), inA (.slice (some ⟨w2.heap.size + 1, 0, none⟩) 2 2) [a, b]]) h6).pick [1, 0])
 clear h5 h6 H4
 refine je (ids := [a, b]) (cs := [(ka, Fa), (kb, Fb)]) HF3.out rfl (fun j h1 h2 => ?_) (fun w1 L i hs hi => ?_) (by simp) H6.out (by simp only [bG, List.map_cons, List.map_nil, List.foldr_cons, List.foldr_nil]; omega) (fun frs2 v2 w8 hq8 h9 => ?_) (fun f w8 hq8 h9 => ?_)
 · match j with
   | 0 => exact Ca
   | 1 => exact Cb
   | j + 2 => exact absurd h1 (by simp only [List.length_cons, List.length_nil]; omega)
 · have h1 := hs.unpack hi
   exact h1.row ((L.eraseIdx i).length + 3) (by rw [List.getElem?_append_right (by omega), show (L.eraseIdx i).length + 3 - (L.eraseIdx i).length = 3 by omega]; rfl)
 · have hu9 := h9.unpack (i := 0) rfl
   have y0 := hu9.cell 3 rfl 0 rfl
   have x3 := hu9.cell 2 rfl 3 rfl
   dsimp only at y0 x3
   have HQ := qh hq8
   have HG := qh (HOK.out frs2 v2 w8 HQ.out (by have h13 := hu9.pick [1, 0]; simp only [bG, List.map_cons, List.map_nil, List.foldr_cons, List.foldr_nil] at h13; exact h13))
   clear hq8 h9 hu9
   go_wp2_with fail
   go_end0
   exact HG.out
 · exact ⟨rfl, HBAD.out f w8 hq8 ((h9.unpack (i := 0) rfl).pick [0])⟩
theorem CQ (hP : PB wB nv tv pg) {id p a b d : Nat} (hn : pg.ns[id]? = some { Ty.ndOf 22 p with a := a, b := b, c := ((d : Nat) : Int) }) {ka kb : Nat} {Fa Fb : df} (Ca : eU wB nv tv bb main a ka Fa) (Cb : eU wB nv tv bb main b kb Fb) {kd : Nat} {Fd : df} (Cd : eU wB nv tv bb main d kd Fd) : eU wB nv tv bb main id (ka + kb + kd) (bT [Fa, Fb, Fd]) := by
 intro frs v c w Fr hF H hc R hok hbad
 have HOK := qh hok
 have HBAD := qh hbad
 have HF := qh hF
 have h1 := H.aj (.cells #[.pointer (some ⟨bb, 0, none⟩)] 142) w.heap.size
 obtain ⟨nw, nc, hnw, hnc, hOk, h2⟩ := (h1.at 1 rfl).eQ
 obtain ⟨sv, ov, wb, cb, ms, hms, h3⟩ := h2.dV
 have k0 := h3.cell 1 rfl 0 rfl
 have hbb := h3.lt 1 rfl
 (try dsimp only at k0)
 have H1 := qh h1
 clear hok hbad hF H h1 h2 h3 hms hnw hnc hOk
 go_enter Tryz.func132, Tryz.ntmps132
 go_wp2_with fail
 refine bH hP (HF.out _ _ 0 H1.out rfl) hn k0 hbb (fun lv w2 hb2 hl2 => ?_)
 obtain ⟨la, lc, rfl⟩ := ag hl2
 unfold aB
 (try dsimp only [Ty.ndOf])
 (try dsimp only [Ty.ndOf] at hl2)
 have h3 := (H1.out.below hb2).aj (nbO ⟨22, a, b, ((d : Nat) : Int), [], ⟨#[]⟩, 0, -1, p⟩ (.slice la 0 lc)) w2.heap.size
 have y0 := (H1.out.below hb2).cell 2 rfl 0 rfl
 have hy := (H1.out.below hb2).lt 2 rfl
 have x0 := h3.cell 3 rfl 0 rfl
 have x1 := h3.cell 3 rfl 1 rfl
 have x2 := h3.cell 3 rfl 2 rfl
 have H4 := qh ((Prt.Sat.pack (L := [_]) (M := [Fr, blk w2.heap.size (nbO ⟨22, a, b, ((d : Nat) : Int), [], ⟨#[]⟩, 0, -1, p⟩ (.slice la 0 lc)), blk w.heap.size (.cells #[.pointer (some ⟨bb, 0, none⟩)] 142 (0, 0))]) (h3.pick [1, 0, 3, 2])).pick [1, 0])
 have HF2 := qh (HF.out.ah (M := [blk w2.heap.size (nbO ⟨22, a, b, ((d : Nat) : Int), [], ⟨#[]⟩, 0, -1, p⟩ (.slice la 0 lc)), blk w.heap.size (.cells #[.pointer (some ⟨bb, 0, none⟩)] 142 (0, 0))]))
 have HL2 := qh hl2
 clear h3 hb2 hl2 H1 k0 hbb
 go_wp2_with fail
 have h5 := (H4.out.unpack (i := 0) rfl).aj (.cells #[.int .i64 (a : Nat), .int .i64 (b : Nat)] 3) (w2.heap.size + 1) (by simp)
 have h6 := h5.ent (i := 4) rfl (Q := inA (.slice (some ⟨w2.heap.size + 1, 0, none⟩) 2 2) [a, b]) (fun _ h => aG h rfl (by simp [maxLen]) (by simp [aA]))
 have HF3 := qh (HF.out.ah (M := [blk w2.heap.size (nbO ⟨22, a, b, ((d : Nat) : Int), [], ⟨#[]⟩, 0, -1, p⟩ (.slice la 0 lc)), blk w.heap.size (.cells #[.pointer (some ⟨bb, 0, none⟩)] 142 (0, 0)), inA (.slice (some ⟨w2.heap.size + 1, 0, none⟩) 2 2) [a, b]]))
 have H6 := qh ((Prt.Sat.pack (L := [_]) (M := [Fr, blk w2.heap.size (nbO ⟨22, a, b, ((d : Nat) : Int), [], ⟨#[]⟩, 0, -1, p⟩ (.slice la 0 lc)), blk w.heap.size (.cells #[.pointer (some ⟨bb, 0, none⟩)] 142 (0, 0)), inA (.slice (some ⟨w2.heap.size + 1, 0, none⟩) 2 2) [a, b]]) h6).pick [1, 0])
 clear h5 h6 H4
 refine je (ids := [a, b]) (cs := [(ka, Fa), (kb, Fb)]) HF3.out rfl (fun j h1 h2 => ?_) (fun w1 L i hs hi => ?_) (by simp) H6.out (by simp only [bG, List.map_cons, List.map_nil, List.foldr_cons, List.foldr_nil]; omega) (fun frs2 v2 w8 hq8 h9 => ?_) (fun f w8 hq8 h9 => ?_)
 · match j with
   | 0 => exact Ca
   | 1 => exact Cb
   | j + 2 => exact absurd h1 (by simp only [List.length_cons, List.length_nil]; omega)
 · have h1 := hs.unpack hi
   exact h1.row ((L.eraseIdx i).length + 3) (by rw [List.getElem?_append_right (by omega), show (L.eraseIdx i).length + 3 - (L.eraseIdx i).length = 3 by omega]; rfl)
 · have hu9 := h9.unpack (i := 0) rfl
   have y0 := hu9.cell 3 rfl 0 rfl
   have x3 := hu9.cell 2 rfl 3 rfl
   dsimp only at y0 x3
   have HQ := qh hq8
   have h10 := (Prt.Sat.pack (L := [_]) (M := [Fr, blk w2.heap.size (nbO ⟨22, a, b, ((d : Nat) : Int), [], ⟨#[]⟩, 0, -1, p⟩ (.slice la 0 lc)), blk w.heap.size (.cells #[.pointer (some ⟨bb, 0, none⟩)] 142 (0, 0))]) (hu9.pick [0, 1, 2, 3])).pick [1, 0]
   have H10 := qh h10
   clear hq8 h9 hu9 h10
   go_wp2_with fail
   refine Cd _ _ _ w8 _ HF2.out H10.out (by simp only [bG, List.map_cons, List.map_nil, List.foldr_cons, List.foldr_nil]; omega) _ (fun frs' v3 w9 hq9 h11 => ?_) (fun f w9 hq9 h11 => ?_)
   · have HG := qh (HOK.out frs' v3 w9 (by have h12 := HQ.out; rw [show [Fa, Fb, Fd] = [Fa, Fb] ++ [Fd] from rfl, gQ]; rw [show bT [Fa, Fb] frs v = _ from h12]; exact hq9) (by have h13 := (h11.unpack (i := 0) rfl).pick [1, 0]; simp only [bG, List.map_cons, List.map_nil, List.foldr_cons, List.foldr_nil] at h13; rw [show c + (ka + kb + kd) = c + (ka + (kb + 0)) + kd by omega]; exact h13))
     clear hq9 h11
     go_wp2_with fail
     go_end0
     exact HG.out
   · exact ⟨rfl, HBAD.out f w9 (by have h12 := HQ.out; rw [show [Fa, Fb, Fd] = [Fa, Fb] ++ [Fd] from rfl, gQ]; rw [show bT [Fa, Fb] frs v = _ from h12]; exact hq9) ((h11.unpack (i := 0) rfl).pick [0])⟩
 · exact ⟨rfl, HBAD.out f w8 (by rw [show [Fa, Fb, Fd] = [Fa, Fb] ++ [Fd] from rfl, gQ]; rw [show bT [Fa, Fb] frs v = _ from hq8]; rfl) ((h9.unpack (i := 0) rfl).pick [0])⟩
theorem xk (hP : PB wB nv tv pg) {id : Nat} {nd : Ty.Nd} (hn : pg.ns[id]? = some nd) {cs : List (Nat × df)} (hC : dS wB nv tv bb main (Ty.ax nd) cs) (hk : nd.kind ≠ 5 ∧ nd.kind ≠ 6 ∧ nd.kind ≠ 16 ∧ nd.kind ≠ 17 ∧ nd.kind ≠ 18 ∧ nd.kind ≠ 22 ∧ nd.kind ≠ 26) (hk2 : 1 ≤ nd.kind ∧ nd.kind ≤ 26) (hcc : nd.kind = 20 → 0 ≤ nd.c) (hln : nd.list.length ≤ 900000) : eU wB nv tv bb main id (bG cs) (bT (cs.map Prod.snd)) := by
 intro frs v c w Fr hF H hc R hok hbad
 have hil : (Ty.ax nd).length ≤ 900003 := by have := jY nd; omega
 have HOK := qh hok
 have HBAD := qh hbad
 have HF := qh hF
 have h1 := H.aj (.cells #[.pointer (some ⟨bb, 0, none⟩)] 142) w.heap.size
 obtain ⟨nw, nc, hnw, hnc, hOk, h2⟩ := (h1.at 1 rfl).eQ
 obtain ⟨sv, ov, wb, cb, ms, hms, h3⟩ := h2.dV
 have k0 := h3.cell 1 rfl 0 rfl
 have hbb := h3.lt 1 rfl
 (try dsimp only at k0)
 have H1 := qh h1
 clear hok hbad hF H h1 h2 h3 hms hnw hnc hOk
 have k5 : ((nd.kind : Int) == 5) = false := beq_eq_false_iff_ne.2 (by omega)
 have k6 : ((nd.kind : Int) == 6) = false := beq_eq_false_iff_ne.2 (by omega)
 have k17 : ((nd.kind : Int) == 17) = false := beq_eq_false_iff_ne.2 (by omega)
 have k18 : ((nd.kind : Int) == 18) = false := beq_eq_false_iff_ne.2 (by omega)
 have k22 : ((nd.kind : Int) == 22) = false := beq_eq_false_iff_ne.2 (by omega)
 have k26 : ((nd.kind : Int) == 26) = false := beq_eq_false_iff_ne.2 (by omega)
 go_enter Tryz.func132, Tryz.ntmps132
 go_wp2_with fail
 refine bH hP (HF.out _ _ 0 H1.out rfl) hn k0 hbb (fun lv w2 hb2 hl2 => ?_)
 obtain ⟨la, lc, rfl⟩ := ag hl2
 unfold aB
 (try dsimp only [Ty.ndOf])
 (try dsimp only [Ty.ndOf] at hl2)
 have h3 := (H1.out.below hb2).aj (nbO nd (.slice la nd.list.length lc)) w2.heap.size
 have y0 := (H1.out.below hb2).cell 2 rfl 0 rfl
 have hy := (H1.out.below hb2).lt 2 rfl
 have x0 := h3.cell 3 rfl 0 rfl
 have H4 := qh ((Prt.Sat.pack (L := [_]) (M := [Fr, blk w2.heap.size (nbO nd (.slice la nd.list.length lc)), blk w.heap.size (.cells #[.pointer (some ⟨bb, 0, none⟩)] 142 (0, 0))]) (h3.pick [1, 0, 3, 2])).pick [1, 0])
 have HF2 := qh (HF.out.ah (M := [blk w2.heap.size (nbO nd (.slice la nd.list.length lc)), blk w.heap.size (.cells #[.pointer (some ⟨bb, 0, none⟩)] 142 (0, 0))]))
 have HL2 := qh hl2
 clear h3 hb2 hl2 H1 k0 hbb
 go_wp2_with fail
 have HPO := qh (fun (w3 : World) (hb3 : Below wB.heap.size wB w3) R hR => qN (w := w3) (nd := nd) (lv := .slice la nd.list.length lc) (R := R) hk hk2 hcc (aH HL2.out hb3) (by omega) hR)
 go_region_with (first
   | (go_at_call 157; refine HPO.out _ (HF2.out _ _ 0 H4.out.drew rfl) _ (fun v3 w3 h3 => ?_); have h5 := H4.out.drew.join h3; have hrow := ig h5 2 rfl (aH HL2.out (HF2.out w3 _ 0 h5 rfl)); obtain ⟨va, vc, rfl⟩ := ag hrow; have y0 := (h5.unpack (i := 0) rfl).cell 4 rfl 0 rfl; (try dsimp only at y0); have H5 := qh ((Prt.Sat.pack (L := [_]) (M := [ah [Fr, blk w2.heap.size (nbO nd (.slice la nd.list.length lc)), blk w.heap.size (.cells #[.pointer (some ⟨bb, 0, none⟩)] 142 (0, 0))], poA nd (.slice la nd.list.length lc) (.slice va (Ty.ax nd).length vc) (Ty.ax nd)]) (h5.pick [1, 0, 2])).pick [1, 0]); clear h3 h5 hrow)
   | (go_at_call 82; (refine je HF2.out.ah hC.1 hC.2 (fun w1 L i hs hi => ?_) (by omega) H5.out hc (fun frs2 v2 w8 hq8 h9 => ?_) (fun f w8 hq8 h9 => ⟨rfl, HBAD.out f w8 hq8 (((h9.unpack (i := 0) rfl).pick [0]).unpack (i := 0) rfl |>.pick [0])⟩)); (have h1 := hs.unpack hi; exact ig h1 ((L.eraseIdx i).length + 1) (by rw [List.getElem?_append_right (by omega), show (L.eraseIdx i).length + 1 - (L.eraseIdx i).length = 1 by omega]; rfl) (aH HL2.out (HF2.out w1 _ (L.eraseIdx i).length h1 (by rw [List.getElem?_append_right (by omega), Nat.sub_self]; rfl)))); have HG := qh (HOK.out frs2 v2 w8 hq8 (((h9.unpack (i := 0) rfl).pick [1, 0]).unpack (i := 0) rfl |>.pick [1, 0])); clear hq8 h9))
 all_goals
   go_wp2_with fail
   go_end0
   exact HG.out
end
end
end Go.Proofs.YtdlbhiaceheffabGreatDoor
