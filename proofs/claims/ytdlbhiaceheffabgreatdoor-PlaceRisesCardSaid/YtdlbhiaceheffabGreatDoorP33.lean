/- Walk of bind: in a new scope. -/
import Derived.RangeFuncNested
import Derived.RangeFuncBound
import Derived.RangeFuncCalls
import Derived.RangeFuncLeaves
import Derived.Shelf.Abstract
import Derived.Shelf.RegionOpen
import Derived.WalkKit
import Derived.OwnWalkIn
import Derived.TacticsInMore
import Derived.LoopNIn
import Derived.LoopIn
import Derived.IntWalk
import Derived.Test.YtdlbhiaceheffabGreatDoorP19
set_option linter.all false
set_option maxRecDepth 100000
set_option maxHeartbeats 4000000
namespace Go.Proofs.YtdlbhiaceheffabGreatDoor
open Go Go.RowKit Ty Tok ak Tryz Proofs.Tryz
section
open Ty (Frm Vg aO)
theorem OX: (prog.info? 195).map (λi=>(i.zero,i.size,i.bytes))=some (some (.agg #[.map none,.int .i64 0]),2,16):=by kernel_rfl
theorem Ki{v:Value}{l:List (Frm×Nat)}{p:Frm×Nat}{a:ak.Hp}(h:ak.row 195 2 v (l.length+1) (l.reverse.flatMap iK++iK p) a):wO v (p::l) a:=by
 unfold wO;rw[List.reverse_cons,List.flatMap_append,List.length_cons]
 simpa using h
theorem AE(l:List (Frm×Nat)): (l.flatMap iK).length=l.length*2:=by
 induction l with
 |nil=>rfl
 |cons a l ih=>rw[List.flatMap_cons,List.length_append,ih,List.length_cons];simp[iK];omega
theorem KK(a:Option Addr)(n cap k:Nat)(hk:k≤cap)(W:World): (Instr.slice 143 (.slice a n cap) none (some (.int .i64 (k:Nat))) none).run prog W=.ok (.slice a k cap) W:=by
 have h1: (k:Int)≤cap:=by omega
 have h2: (0:Int)≤k:=by omega
 simp[Instr.slice,Instr.sliceBounds,Instr.sliceBound,asIntOf,h1,go_sem];exact λh=>absurd h (by omega)
theorem Qy{a:Option Addr}{cap:Nat}{p:Frm×Nat}{l:List (Frm×Nat)}{h:ak.Hp}(hr:wO (.slice a (l.length+1) cap) (p::l) h):wO (.slice a l.length cap) l h:=by
 unfold wO at hr⊢;rw[List.reverse_cons,List.flatMap_append,List.length_cons]at hr
 have cI: (l.reverse.flatMap iK).length=l.length*2:=by rw[AE,List.length_reverse]
 refine⟨cI,?_⟩;rcases hr.2 with⟨h1,h2⟩|⟨g,qf,cur,h1,h2,h3,h4,h5,h6⟩
 ·exact absurd h2 (by omega)
 ·simp only[Value.slice.injEq]at h1;obtain⟨rfl,_,rfl⟩:=h1;refine .inr ⟨g,cap,cur,rfl,h2,by omega,h4,h5,?_⟩;have:=congrArg (List.take (l.length*2)) h6;rw[List.take_take,List.take_left' cI,Nat.min_eq_left (by omega)]at this
  exact this
section
variable {wB w:World} {Fr:As} {bb:Nat} {nv tv:Value} {main:Int} {frs:List Frm} {v:Vg} {nw nc:Nat}
theorem ak.Sat.gO(h:Sat wB w [Fr,CU bb nv tv main frs v nw nc]):∃sv ov wb cb ms,ms.map Prod.fst=frs∧
  Sat wB w [Fr,ay bb (Ez nv tv main sv ov wb cb),wO sv ms,sY ov v.out,mapA 3 3 wb nw (cH v.wi),mapA 3 4 cb nc (cZ v.ca),kC ms]:=by
 obtain⟨⟨sv,ov,wb,cb,ms⟩,h⟩:=h.ex (i:=1) rfl;have h:=h.unpack (i:=1) rfl;have gT:ms.map Prod.fst=frs:=h.get (i:=1) rfl λ_ ha _=>ha
 exact⟨sv,ov,wb,cb,ms,gT,h.pick [0,2,3,5,6,7,4]⟩
theorem ak.Sat.yt{sv ov:Value}{wb cb:Nat}{ms:List (Frm×Nat)}(gT:ms.map Prod.fst=frs)
  (h:Sat wB w [Fr,ay bb (Ez nv tv main sv ov wb cb),wO sv ms,sY ov v.out,mapA 3 3 wb nw (cH v.wi),mapA 3 4 cb nc (cZ v.ca),kC ms]):
  Sat wB w [Fr,CU bb nv tv main frs v nw nc]:=by
 have h3:=(h.hZ (P:=cn (ms.map Prod.fst=frs)) (λ_=>gT)).pick [0,7,1,2,6,3,4,5];exact(Sat.pack (L:=[Fr]) h3).cG (i:=1) rfl λ_ h=>⟨⟨sv,ov,wb,cb,ms⟩,h⟩
theorem AI(F:FuncId)(Gi:Array Value)(hc:∀(args:Array Value)(w:World),(callFunc F args).run prog w=.ok (.enter F args) w){owner:Nat}{of:Int}
  (H:Sat wB w [Fr,CU bb nv tv main frs v nw nc]) (Rp:frs.length≤100000) {m:Except Ty.Ft (List Frm×Vg)} {K:Frm→List Frm→Vg→Nat→Nat→Prop}
  (yq:∀w1,Sat wB w1 [Fr,CU bb nv tv main (⟨[],owner,of⟩::frs) v nw nc]→∀R:EW,
   (∀vB iM v2 zb mV w2,K vB iM v2 zb mV→iM.length≤100000→m=.ok (vB::iM,v2)→Sat wB w2 [Fr,CU bb nv tv main (vB::iM) v2 zb mV]→R (.returned (.tuple #[])) w2)→
   (∀f w2,m=.error f→Sat wB w2 [Fr]→R (.panicked (aJ f)) w2)→Calls prog F Gi w1 R)
  {R:EW}
  (aF:∀vB iM v2 zb mV w2,K vB iM v2 zb mV→m=.ok (vB::iM,v2)→Sat wB w2 [Fr,CU bb nv tv main iM v2 zb mV]→R (.returned (.tuple #[])) w2)
  (av:∀f w2,m=.error f→Sat wB w2 [Fr]→R (.panicked (aJ f)) w2):
  Calls prog 80 #[.pointer (some ⟨bb,0,none⟩),.int .i64 of,.func (.func F) #[] Gi] w R:=by
 have aY:=qh aF;have aB:=qh av;have Eb:=qh yq;obtain⟨i0,ti,mx,mu,mw⟩:=info_parts OX;obtain⟨sv,ov,wb,cb,ms,gT,h1⟩:=H.gO;obtain⟨sa,sc,rfl⟩:=ag (h1.row 2 rfl);have xZ:ms.length≤100000:=by rw[←gT,List.length_map]at Rp;exact Rp
 have c3:=h1.cell 1 rfl 3 rfl;have gB:=h1.lt 1 rfl;have Ll:=@run_makeMap prog;have h2:=h1.yM 9 3 w.heap.size rfl (Φ:=kI []) DB;have H2:=qh h2;have Ls:=qh gT;clear aF av yq H h1 h2 gT Rp;go_in;go_wp2_with(at_builtin;go_loud(refine wpList_append_lies _ rfl (.tmp 10) (.tmp 14) 143 rfl 0 195 i0 _ 2 16 underlying143 ti mx mu mw rfl (by decide) _ _ (ms.reverse.flatMap iK) (by rfl) ((H2.o.row 2 rfl).alloc _) ⟨w.heap.size+1,0,none⟩ 1 1 [.map (some w.heap.size),.int .i64 of] (by rfl) (by rfl) (World.news_of_block (cs:=#[.map (some w.heap.size),.int .i64 of]) (t:=195) (fr:=(0,0)) (aH _ _ _ (by simp))) (by simp[Value.oneCell']) (by omega) (by unfold maxLen;omega) (by omega) (by simp) (w.heap.size+2) (by simp) ?_));intro g8 mX w8 kT hV yW L3;have h3:=Sat.grow (H2.o.aU _) 2 rfl hV kT (by simpa using yW);have h4:=h3.cG (i:=2) rfl (Q:=wO (.slice (some ⟨g8,0,none⟩) (ms.length+1) mX) ((⟨[],owner,of⟩,w.heap.size)::ms)) (λ_ h=>Ki h);have c3:=h4.cell 1 rfl 3 rfl;have f3:=h4.free 1 rfl 3;have abn:=h4.lt 1 rfl;have H4:=qh h4;clear h3 h4 kT hV;go_wp2_with fail;have h5:=H4.o.store 1 rfl 3 (.slice (some ⟨g8,0,none⟩) (ms.length+1) mX);have h6:=Sat.BS (fr:=⟨[],owner,of⟩) (mb:=w.heap.size) Ls.o (h5.pick [0,1,2,3,4,5,7,6]);refine Eb.o _ h6 _ (λvB iM v2 zb mV w2 hK Qw hm h7=>?_) (λf w2 hm h7=>⟨rfl,aB.o f w2 hm h7⟩);obtain⟨aaA,qR,acF,Y3,Zd,Ed,FK,h8⟩:=h7.y_;obtain⟨g2,qf,rfl,DX,_,_⟩:=ud (h8.row 2 rfl);have hcap:Ed.length≤qf:=by
  rcases(h8.row 2 rfl).2 with⟨h1,h2⟩|⟨g,cap,cur,h1,_,_,h3,_⟩
  ·simp only[Value.slice.injEq]at h1;omega
  ·simp only[Value.slice.injEq]at h1;omega
 have aad:Ed.length≤100000:=by rw[←FK,List.length_map]at Qw;exact Qw
 have c3:=h8.cell 1 rfl 3 rfl;have f3:=h8.free 1 rfl 3;have QO:=h8.lt 1 rfl;have hw:=IntWalk.i64_in (n:=(Ed.length:Int)) (by omega);have hs:IntKind.i64.wrap (((Ed.length+1:Nat):Int)-1)=(Ed.length:Int):=by rw[show((Ed.length+1:Nat):Int)-1=(Ed.length:Int)by omega];exact hw
 have H':=KK (some ⟨g2,0,none⟩) (Ed.length+1) qf Ed.length hcap;have H8:=qh h8;have HM:=qh hm;have HK:=qh hK;have W4:=qh FK;clear h5 h6 h7 h8 hm hK FK H4 H2 hcap Qw;go_wp2_with fail
 go_region
 all_goals
  go_wp2_with fail;go_end0;refine aY.o vB iM v2 zb mV _ HK.o HM.o ?_;have h9:=(H8.o.store 1 rfl 3 (.slice (some ⟨g2,0,none⟩) Ed.length qf)).drew;have dS:=h9.cG (i:=2) rfl (Q:=wO (.slice (some ⟨g2,0,none⟩) Ed.length qf) Ed) (λ_ ha=>Qy ha);exact Sat.yt W4.o (dS.pick [0,1,2,3,4,5,7])
end
def fu:List (BA×Nat)→List Frm→Vg→List Frm×Vg
 |[],frs,v=>(frs,v)
 |p::l,frs,v=>fu l (lH p.1 p.2 frs v).1 (lH p.1 p.2 frs v).2
theorem sk(p:BA×Nat):∀(l:List (BA×Nat))(frs:List Frm)(v:Vg),fu (l++[p]) frs v=lH p.1 p.2 (fu l frs v).1 (fu l frs v).2
 |[],_,_=>rfl
 |q::l,frs,v=>sk p l _ _
section
variable {wB:World} {nv tv:Value} {pg:Ty.Pg} {bb:Nat} {main:Int}
theorem DP(hP:PB wB nv tv pg){id p b bp:Nat}{ty:Int}{bF ids:List Nat}(hn:pg.ns[id]?=some {Ty.af 6 p with list:=bF,ty:=ty,a:=b})(sP:pg.ns[b]?=some {Ty.af 26 bp with list:=ids})
  {ps:List (BA×Nat)} (jQ:bF.length=ps.length∧∀i(h1:i<bF.length)(h2:i<ps.length),∃q ty,pg.ns[bF[i]]?=some {Ty.af 16 q with text:=ps[i].1,ty:=ty}∧ps[i].2=bF[i]∧ps[i].1.size≤maxLen)
  {cs:List (Nat×eN)} (hlen:ids.length=cs.length) (hC:∀j(h1:j<ids.length)(h2:j<cs.length),iO wB nv tv bb main ids[j] cs[j].1 cs[j].2) (A':ids.length≤1000000) (SM:bF.length≤1000000)
  {frs:List Frm} {v:Vg} {c:Nat} {w:World} {Fr:As} (hF:jH wB Fr) {xb cb:Nat} {la:Option Addr} {lc:Nat} (bJ:wB.ownsRow 0 3 1 (.slice la bF.length lc) bF.length (bF.map aS))
  (H:Sat wB w [ah [Fr,ay xb (aD ⟨6,b,0,0,bF,⟨#[]⟩,0,ty,p⟩ (.slice la bF.length lc)),ay cb (.cells #[.pointer (some ⟨bb,0,none⟩)] 142 (0,0))],pJ bb nv tv main c frs v]) (hc:c+ps.length+du cs≤100000) {R:EW}
  (aF:∀dJ v' w',dQ (cs.map Prod.snd) (fu ps frs v).1 (fu ps frs v).2=.ok (dJ,v')→Sat wB w' [ah [Fr,ay xb (aD ⟨6,b,0,0,bF,⟨#[]⟩,0,ty,p⟩ (.slice la bF.length lc)),ay cb (.cells #[.pointer (some ⟨bb,0,none⟩)] 142 (0,0))],pJ bb nv tv main (c+ps.length+du cs) dJ v']→R (.returned (.tuple #[])) w')
  (av:∀f w',dQ (cs.map Prod.snd) (fu ps frs v).1 (fu ps frs v).2=.error f→Sat wB w' [ah [Fr,ay xb (aD ⟨6,b,0,0,bF,⟨#[]⟩,0,ty,p⟩ (.slice la bF.length lc)),ay cb (.cells #[.pointer (some ⟨bb,0,none⟩)] 142 (0,0))]]→R (.panicked (aJ f)) w'):
  Calls prog 287 #[.pointer (some ⟨xb,0,none⟩),.pointer (some ⟨cb,0,none⟩)] w R:=by
 have aY:=qh aF;have aB:=qh av;have HF:=qh hF;have dq:=qh (hF.ah (M:=[ay xb (aD ⟨6,b,0,0,bF,⟨#[]⟩,0,ty,p⟩ (.slice la bF.length lc)),ay cb (.cells #[.pointer (some ⟨bb,0,none⟩)] 142 (0,0))]));have hu:=H.unpack (i:=0) rfl;have x4:=hu.cell 2 rfl 4 rfl;dsimp only at x4;have F8:=qh jQ;have dG:=qh bJ;have H1:=qh H;clear aF av hF hu H jQ bJ;go_in;go_wp2_with fail;go_loopw [7] (λi wr=>∃j:Nat,i=.int .i64 j∧j≤bF.length∧Hq (Sat wB wr [ah [Fr,ay xb (aD ⟨6,b,0,0,bF,⟨#[]⟩,0,ty,p⟩ (.slice la bF.length lc)),ay cb (.cells #[.pointer (some ⟨bb,0,none⟩)] 142 (0,0))],pJ bb nv tv main (c+j) (fu (ps.take j) frs v).1 (fu (ps.take j) frs v).2])) (λi _=>bF.length-(intOf i).toNat)
 case atStart=>exact⟨0,rfl,Nat.zero_le _,H1.o⟩
 case round=>
  obtain⟨j,rfl,hj,hS⟩:=hrel;have hu:=hS.out.unpack (i:=0) rfl;have y0:=hu.cell 3 rfl 0 rfl;have Sn:=HF.o wr _ 1 hu rfl;by_cases bm:j<bF.length
  ·obtain⟨gl,j9,e,mW,d0⟩:=ints_at (az dG.o Sn) j bm;cases e;have eh:j<ps.length:=by rw[←F8.o.1];exact bm
   obtain⟨q,acP,hq,he,hx⟩:=F8.o.2 j bm eh;have zm:Hq (ps.take (j+1)=ps.take j++[ps[j]]):=by show _= _;rw[List.take_succ_eq_append_getElem eh]
   have HD:=qh (λ(R:EW) hR=>rH (R:=R) hP dq.o hq hx hS.out (by omega) hR);clear hu Sn;generalize bF[j]=pid at*
   go_wp2_with fail;refine HD.o _ (λw4 h4=>?_);have h5:Sat wB w4 [ah [Fr,ay xb (aD ⟨6,b,0,0,bF,⟨#[]⟩,0,ty,p⟩ (.slice (some ⟨gl,0,none⟩) bF.length lc)),ay cb (.cells #[.pointer (some ⟨bb,0,none⟩)] 142 (0,0))],pJ bb nv tv main (c+(j+1)) (fu (ps.take (j+1)) frs v).1 (fu (ps.take (j+1)) frs v).2]:=by
    rw[zm.o,sk,he,←Nat.add_assoc];exact h4
   have H5:=qh h5;clear h4 h5 hq he HD;go_wp2_with fail;go_roundw
   case rel=>exact⟨j+1,by go_num,by omega,H5.o⟩
   case measure=>simp[intOf];omega
  ·have ju:j=ps.length:=by have:=F8.o.1;omega
   subst ju;have h5:=hS.out;rw[List.take_of_length_le (Nat.le_refl _)]at h5
   have x1:=hu.cell 2 rfl 1 rfl;obtain⟨nw,nc,e1,e2,e3,h6⟩:=h5.iL;obtain⟨sv,ov,wb,Y3,ms,gT,h7⟩:=h6.gO;have k0:=h7.drew.cell 1 rfl 0 rfl;have gB:=h7.drew.lt 1 rfl;dsimp only at x1 k0;have aag:∀(lv:Value)(W:World),(Instr.field 66 (.agg #[.int .i64 26,.int .i64 0,.int .i64 0,.int .i64 0,lv,.string ⟨#[]⟩,.int .i64 0,.int .i64 (-1),.int .i64 (bp:Nat)]) 4).run prog W=.ok lv W:=λlv W=>JD {Ty.af 26 bp with list:=ids} lv W
   have H5:=qh h5;have HC:=qh hC;have vy:=qh hlen;clear h5 h6 h7 gT e1 e2 e3 hC hlen F8 dG H1 hS;go_wp2_with fail
   go_region_held (λw'=>w'.cell? ⟨cb,0,none⟩=some (.pointer (some ⟨bb,0,none⟩))∧w'.cell? ⟨xb,1,none⟩=some (.int .i64 (b:Nat))) (first|go_keep|exact⟨s1,s2⟩|exact⟨s3,s4⟩)
    (first
     |(go_at_call 213;refine dC (w:=wr.drew) hP (dq.o _ _ 0 H5.o.drew rfl) sP k0 gB (λlv w5 dW Pq=>?_);have h8:=H5.o.drew.below dW;have Vi:=h8.unpack (i:=0) rfl;have s1:=Vi.cell 3 rfl 0 rfl;have s2:=Vi.cell 2 rfl 1 rfl;dsimp only at s1 s2;have H8:=qh h8;have Wm:=qh Pq;clear dW Pq h8 Vi;unfold aK;dsimp only[Ty.af])
     |(go_at_call 82;refine ox dq.o vy.o HC.o (λw1 L i hs hi=>az Wm.o (dq.o w1 L i hs hi)) A' H8.o hc (λiM v2 w8 kU h9=>?_) (λf w8 kU h9=>⟨rfl,aB.o f w8 kU h9⟩);have Aw:=h9.unpack (i:=0) rfl;have s3:=Aw.cell 3 rfl 0 rfl;have s4:=Aw.cell 2 rfl 1 rfl;dsimp only at s3 s4;have HQ:=qh kU;have H9:=qh h9;clear kU h9 Aw))
   all_goals
    go_wp2_with fail;go_end0;exact aY.o _ _ _ HQ.o H9.o
end
def gJ(wB:World)(nv tv:Value)(bb:Nat)(main:Int)(ids:List Nat)(cs:List (Nat×eN)):Prop:=ids.length=cs.length∧∀j(h1:j<ids.length)(h2:j<cs.length),iO wB nv tv bb main ids[j] cs[j].1 cs[j].2
theorem OkS.push{c:Nat}{frs:List Frm}{v:Vg}(h:OkS c frs v)(o:Nat){f:Int}(hf: -1≤f∧f≤1000000):OkS (c+1) (⟨[],o,f⟩::frs) v:=by
 refine⟨by simp,by have:=h.len;simp;omega,λfr hm=>?_,λfr hm=>?_,nT h.out (by omega)⟩
 ·rcases List.mem_cons.1 hm with rfl|hm
  ·simp
  ·have:=h.names fr hm;omega
 ·rcases List.mem_cons.1 hm with rfl|hm
  ·exact hf
  ·exact h.OI fr hm
theorem OkS.pop{c:Nat}{fr:Frm}{frs:List Frm}{v:Vg}(h:OkS c (fr::frs) v)(bZ:frs≠[]):OkS c frs v:=
 ⟨bZ,by have:=h.len;simp at this;omega,λf hf=>h.names f (by simp[hf]),λf hf=>h.OI f (by simp[hf]),h.out⟩
section
variable {wB w:World} {Fr:As} {bb:Nat} {nv tv:Value} {pg:Ty.Pg} {main:Int} {frs:List Frm} {v:Vg} {c:Nat}
theorem E1(F:FuncId)(Gi:Array Value)(UM:∀(args:Array Value)(w:World),(callFunc F args).run prog w=.ok (.enter F args) w){of:Int}(owner k:Nat)(ho: -1≤of∧of≤1000000)
  (H:Sat wB w [Fr,pJ bb nv tv main c frs v]) (hc:c+1+k≤100000) {m:Except Ty.Ft (List Frm×Vg)} (jK:∀dJ v',m=.ok (dJ,v')→∃vB,dJ=vB::frs)
  (yq:∀w1,Sat wB w1 [Fr,pJ bb nv tv main (c+1) (⟨[],owner,of⟩::frs) v]→∀R:EW,
   (∀dJ v' w',m=.ok (dJ,v')→Sat wB w' [Fr,pJ bb nv tv main (c+1+k) dJ v']→R (.returned (.tuple #[])) w')→
   (∀f w2,m=.error f→Sat wB w2 [Fr]→R (.panicked (aJ f)) w2)→Calls prog F Gi w1 R)
  {R:EW}
  (aF:∀dJ v' w',m=.ok (dJ,v')→Sat wB w' [Fr,pJ bb nv tv main (c+1+k) frs v']→R (.returned (.tuple #[])) w')
  (av:∀f w2,m=.error f→Sat wB w2 [Fr]→R (.panicked (aJ f)) w2):
  Calls prog 80 #[.pointer (some ⟨bb,0,none⟩),.int .i64 of,.func (.func F) #[] Gi] w R:=by
 obtain⟨nw,nc,h1,h2,h3,h4⟩:=H.iL;have hl:=h3.len;refine AI F Gi UM (owner:=owner) h4 (by omega) (m:=m) (K:=λvB iM v2 zb mV=>zb≤c+1+k∧mV≤c+1+k∧OkS (c+1+k) (vB::iM) v2) (λw1 h5 R' C7 uT=>?_) (λvB iM v2 zb mV w2 hK hm h5=>?_) av
 ·refine yq w1 (h5.vd (by omega) (by omega) (h3.push owner ho)) R' (λdJ v' w' hm h6=>?_) uT;obtain⟨zb,mV,g1,g2,g3,g4⟩:=h6.iL;obtain⟨vB,rfl⟩:=jK _ _ hm;exact C7 vB frs v' zb mV w' ⟨g1,g2,g3⟩ (by omega) hm g4
 ·obtain⟨acf,he⟩:=jK _ _ hm;injection he with e1 e2;subst e2;exact aF _ _ w2 hm (h5.vd hK.1 hK.2.1 (hK.2.2.pop h3.ne))
end
def Iy(cs:List (Nat×eN))(ps:List (BA×Nat))(id:Nat):eN:=λfrs v=>aO (dQ (cs.map Prod.snd) (fu ps (⟨[],id,(id:Nat)⟩::frs) v).1 (fu ps (⟨[],id,(id:Nat)⟩::frs) v).2) λr=>.ok (frs,r.2)
def C2(cs:List (Nat×eN))(owner:Nat):eN:=λfrs v=>aO (dQ (cs.map Prod.snd) (⟨[],owner,o7 frs⟩::frs) v) λr=>.ok (frs,r.2)
def T7(cs:List (Nat×eN)):Prop:=∀fr l v dJ v',dQ (cs.map Prod.snd) (fr::l) v=.ok (dJ,v')→∃BG,dJ=BG::l
theorem tN:∀(ps:List (BA×Nat))(fr:Frm)(l:List Frm)(v:Vg),∃BG,(fu ps (fr::l) v).1=BG::l
 |[],fr,_,_=>⟨fr,rfl⟩
 |p::ps,fr,l,v=>tN ps _ l _
section
variable {wB:World} {nv tv:Value} {pg:Ty.Pg} {bb:Nat} {main:Int}
theorem ub(hP:PB wB nv tv pg){id p b bp:Nat}{ty:Int}{bF ids:List Nat}(hn:pg.ns[id]?=some {Ty.af 6 p with list:=bF,ty:=ty,a:=b})(sP:pg.ns[b]?=some {Ty.af 26 bp with list:=ids})
  {ps:List (BA×Nat)} (jQ:bF.length=ps.length∧∀i(h1:i<bF.length)(h2:i<ps.length),∃q ty,pg.ns[bF[i]]?=some {Ty.af 16 q with text:=ps[i].1,ty:=ty}∧ps[i].2=bF[i]∧ps[i].1.size≤maxLen)
  {cs:List (Nat×eN)} (hC:gJ wB nv tv bb main ids cs) (jK:T7 cs) (A':ids.length≤1000000) (SM:bF.length≤1000000)
  {frs:List Frm} {v:Vg} {c:Nat} {w:World} {Fr:As} (hF:jH wB Fr) (H:Sat wB w [Fr,pJ bb nv tv main c frs v]) (hc:c+(1+ps.length+du cs)≤100000) {R:EW}
  (aF:∀dJ v' w',Iy cs ps id frs v=.ok (dJ,v')→Sat wB w' [Fr,pJ bb nv tv main (c+(1+ps.length+du cs)) dJ v']→R (.returned (.tuple #[])) w')
  (av:∀f w',Iy cs ps id frs v=.error f→Sat wB w' [Fr]→R (.panicked (aJ f)) w'):
  Calls prog 216 #[.pointer (some ⟨bb,0,none⟩),.int .i64 (id:Nat)] w R:=by
 obtain⟨_,_,_,_,Rg,_,_,_,_,_,_,hN⟩:=hP.look hn;have aY:=qh aF;have aB:=qh av;have HF:=qh hF;have h1:=H.aj (.cells #[.pointer (some ⟨bb,0,none⟩)] 142) w.heap.size;obtain⟨nw,nc,vL,vP,o9,h2⟩:=(h1.at 1 rfl).iL;obtain⟨sv,ov,wb,cb,ms,gT,h3⟩:=h2.gO;have k0:=h3.cell 1 rfl 0 rfl;have gB:=h3.lt 1 rfl
 (try dsimp only at k0)
 have H1:=qh h1;have F8:=qh jQ;clear aF av hF H h1 h2 h3 gT o9 vL vP jQ;go_in;go_wp2_with fail;refine dC hP (HF.o _ _ 0 H1.o rfl) hn k0 gB (λlv w2 aI cI=>?_);obtain⟨la,lc,rfl⟩:=ag cI;unfold aK;dsimp only[Ty.af]
 (try dsimp only[Ty.af]at cI)
 have h3:=(H1.o.below aI).aj (aD ⟨6,b,0,0,bF,⟨#[]⟩,0,ty,p⟩ (.slice la bF.length lc)) w2.heap.size;have y0:=(H1.o.below aI).cell 2 rfl 0 rfl;have hy:=(H1.o.below aI).lt 2 rfl;have H4:=qh ((Sat.pack (L:=[_]) (M:=[Fr,ay w2.heap.size (aD ⟨6,b,0,0,bF,⟨#[]⟩,0,ty,p⟩ (.slice la bF.length lc)),ay w.heap.size (.cells #[.pointer (some ⟨bb,0,none⟩)] 142 (0,0))]) (h3.pick [1,0,3,2])).pick [1,0]);have j4:=qh cI;clear h3 aI cI H1 k0 gB;go_wp2_with fail;refine E1 (of:=(id:Nat)) 287 _ Tryz.call287 id (ps.length+du cs) ⟨by omega,by omega⟩ H4.o (by omega) (m:=dQ (cs.map Prod.snd) (fu ps (⟨[],id,(id:Nat)⟩::frs) v).1 (fu ps (⟨[],id,(id:Nat)⟩::frs) v).2) (λdJ v' hm=>?_) (λw5 h5 R' C7 uT=>?_) (λdJ v' w5 hm h5=>?_) (λf w5 hm h5=>?_)
 ·obtain⟨BG,he⟩:=tN ps ⟨[],id,(id:Nat)⟩ frs v;rw[he]at hm
  exact jK _ _ _ _ _ hm
 ·exact DP hP hn sP F8.o hC.1 hC.2 A' SM HF.o j4.o h5 (by omega) (λdJ v' w' hq h6=>C7 dJ v' w' hq (by rw[←Nat.add_assoc];exact h6)) uT
 ·have HG:=qh (aY.o frs v' w5 (by unfold Iy;rw[hm];rfl) (by rw[show c+(1+ps.length+du cs)=c+1+(ps.length+du cs)by omega];exact(h5.unpack (i:=0) rfl).pick [1,0]));clear hm h5;go_wp2_with fail;go_end0;exact HG.o
 ·exact⟨rfl,aB.o f w5 (by unfold Iy;rw[hm];rfl) ((h5.unpack (i:=0) rfl).pick [0])⟩
end
end
section
open ak (Sat As ay cn cA star ah Hp le qL tJ hp)
namespace ak
def Bw(B:Nat)(P:As):Prop:=∀h,P h→∃h',le h' h∧P h'∧∀k o,h' k=some o→k<B∨o.isCells=true
def low(B:Nat)(P:As):As:=λh=>P h∧∀k o,h k=some o→k<B
theorem qK(B:Nat)(P:As):Bw B (low B P):=λh hp=>⟨h,le_refl _,hp,λk o e=>.inl (hp.2 k o e)⟩
theorem one_le{h:Hp}{b:Nat}:le (λk=>if k=b then h b else none) h:=λk o e=>by
 dsimp only at e;split at e
 ·rename_i hk;subst hk;exact e
 ·cases e
theorem Jo(B b:Nat)(cs:Array Value)(t:TypeId)(fr:Nat×Nat):Bw B (ay b (.cells cs t fr)):=λh hp=>by
 refine⟨λk=>if k=b then h b else none,one_le,by show(if b=b then h b else none)= _;rw[if_pos rfl];exact hp,λk o e=>?_⟩;dsimp only at e;split at e
 ·rw[show h b= _ from hp]at e;cases e;exact .inr rfl
 ·cases e
theorem J2(B:Nat)(e:TypeId)(size:Nat)(v:Value)(n:Nat)(xs:List Value):Bw B (ak.row e size v n xs):=λh hp=>by
 obtain⟨h1,h2|⟨g,cap,cur,h2,h3,h4⟩⟩:=hp
 ·exact⟨λ_=>none,λ_ _ e=>(by cases e),⟨h1,.inl h2⟩,λ_ _ e=>(by cases e)⟩
 ·refine⟨λk=>if k=g then h g else none,one_le,⟨h1,.inr ⟨g,cap,cur,h2,by show(if g=g then h g else none)= _;rw[if_pos rfl];exact h3,h4⟩⟩,λk o e=>?_⟩;dsimp only at e;split at e
  ·rw[h3]at e;cases e;exact .inr rfl
  ·cases e
theorem uY{B:Nat}:∀{L:List As},(∀(i:Nat)(P:As),L[i]?=some P→Bw B P)→Bw B (ah L)
 |[],_=>λh _=>⟨λ_=>none,λ_ _ e=>(by cases e),trivial,λ_ _ e=>(by cases e)⟩
 |P::L,hL=>λh hs=>by
  obtain⟨x,y,h1,h2,h3,h4,h5⟩:=hs;obtain⟨x',a1,a2,a3⟩:=hL 0 P rfl x h4;obtain⟨y',b1,b2,b3⟩:=uY (L:=L) (λi Q hi=>hL (i+1) Q hi) y h5;have hd:qL x' y':=iN (dO (iN (dO h1) a1)) b1;refine⟨tJ x' y',qZ (le_trans a1 h2) (le_trans b1 h3),⟨x',y',hd,oN _ _,oL hd,a2,b2⟩,λk o e=>?_⟩;unfold tJ at e;split at e
  ·rename_i u hu;cases e;exact a3 k _ hu
  ·exact b3 k o e
structure SatF(B:Nat)(w0 w:World)(L:List As):Prop where
 os:w.os=w0.os
 tape:w.tape=w0.tape
 output:w.output=w0.output
 mem:∃h,le h (hp w)∧ah L h∧∀k o,h k=some o→k<B∨o.isCells=true
theorem Sat.abR{B:Nat}{w0 w:World}{L:List As}(H:Sat w0 w L)(hL:∀(i:Nat)(P:As),L[i]?=some P→Bw B P):SatF B w0 w L:=by
 obtain⟨h,h1,h2,h3⟩:=uY hL _ H.mem;exact⟨H.os,H.tape,H.output,h,h1,h2,h3⟩
theorem SatF.sat{B:Nat}{w0 w:World}{L:List As}(H:SatF B w0 w L):Sat w0 w L:=by
 obtain⟨h,h1,h2,_⟩:=H.mem;exact⟨H.os,H.tape,H.output,iX h2 h1⟩
theorem SatF.O'{B:Nat}{w0 w w':World}{L:List As}{row:Option Nat}(H:SatF B w0 w L)(hg:w.grownBy w' row)(hr:∀r,row=some r→B≤r∧∃o:Obj,w.heap[r]?=some o∧o.isCells=false):SatF B w0 w' L:=by
 obtain⟨h,h1,h2,h3⟩:=H.mem;refine⟨hg.os.trans H.os,hg.tape.trans H.tape,hg.output.trans H.output,h,λk o e=>?_,h2,h3⟩;have hk:=h1 k o e;have bm:=(Array.getElem?_eq_some_iff.1 hk).1;show w'.heap[k]?=some o;rw[hg.block k bm (λer=>by
  obtain⟨h4,o2,h5,h6⟩:=hr k er.symm;have wG:w.heap[k]?=some o:=hk;rw[wG]at h5
  cases h5;rcases h3 k o e with h7|h7
  ·omega
  ·rw[h6]at h7;cases h7)]
 exact hk
theorem SatF.own{β:Type}{B:Nat}{w0:World}(L:List As):OwnFrom B (λ(_:β) W=>SatF B w0 W L):=λ_ _ _ _ hs hg hr=>hs.O' hg hr
theorem Bd{B:Nat}:∀{L:List As}{h:Hp},ah L h→(∀k o,h k=some o→k<B)→ah (L.map (low B)) h
 |[],_,_,_=>trivial
 |P::L,h,hs,hb=>by
  obtain⟨x,y,h1,h2,h3,h4,h5⟩:=hs;exact⟨x,y,h1,h2,h3,⟨h4,λk o e=>hb k o (h2 k o e)⟩,Bd h5 (λk o e=>hb k o (h3 k o e))⟩
theorem Sat.CW{w0 w:World}{L:List As}(H:Sat w0 w L){B:Nat}(hB:w.heap.size≤B):Sat w0 w (L.map (low B)):=
 ⟨H.os,H.tape,H.output,Bd H.mem (λk o e=>by have:w.heap[k]?=some o:=e;have:=(Array.getElem?_eq_some_iff.1 this).1;omega)⟩
end ak
theorem Fp{B:Nat}{k e b n:Nat}{Φ:Dm→Prop}(hb:b<B):Bw B (mapA k e b n Φ):=λh hp=>by
 obtain⟨es,clock,h1,h2⟩:=hp;refine⟨λj=>if j=b then h b else none,ak.one_le,⟨es,clock,by show(if b=b then h b else none)= _;rw[if_pos rfl];exact h1,h2⟩,λj o ej=>?_⟩;dsimp only at ej;split at ej
 ·rename_i hj;subst hj;exact .inl hb
 ·cases ej
end
section
open Ty (Frm Vg)
attribute [local go_sem] Oper.semAt_some
def FT(n k:Nat):List (Fin n):=(List.finRange n).take k
theorem uG{n k:Nat}(h:k<n):FT n (k+1)=FT n k++[⟨k,h⟩]:=by
 unfold FT;rw[List.take_succ_eq_append_getElem (by simpa using h)];simp
theorem DM{n k:Nat}(h:k≤n): (FT n k).length=k:=by simp[FT,h]
def M3(ms:List (Frm×Nat))(x:Fin ms.length):Array Value:=#[.int .i64 ((ms.length:Int)-1-(x.1:Int)),.agg #[.map (some ms[x.1].2),.int .i64 ms[x.1].1.of]]
def GY(W:World)(g:Nat)(ms:List (Frm×Nat)):Prop:=∀k(h:k<ms.length),W.cell? ⟨g,(ms.length-1-k)*2,none⟩=some (.map (some ms[k].2))∧W.cell? ⟨g,(ms.length-1-k)*2+1,none⟩=some (.int .i64 ms[k].1.of)
theorem GY.below{n0:Nat}{A B:World}{g:Nat}{ms:List (Frm×Nat)}(hg:g<n0)(h:Below n0 A B)(r:GY A g ms):GY B g ms:=λk hk=>⟨(h.cell (p:=⟨g,_,none⟩) hg).trans (r k hk).1,(h.cell (p:=⟨g,_,none⟩) hg).trans (r k hk).2⟩
theorem Jq(F:Fence)(n:Nat)(hf:F.fn 321)(Lj:F.round=none)(hn:1≤n)(l Bs n0 g cap:Nat)(ms:List (Frm×Nat))(hlen:ms.length≤1000000)(hg:g<n0)(aaB:Bs<n0)(J Jx:List (Fin ms.length)→World→Prop)
  (hY:∀pre x W,J pre W→pre.length<ms.length→YieldAt F (n-1) prog l (M3 ms x) W λe W'=>
   (e=.returned (.bool true)∧J (pre++[x]) W'∧Below n0 W W')∨(e=.returned (.bool false)∧Jx (pre++[x]) W'))
  (W:World) (T6:W.cell? ⟨Bs,0,none⟩=some (.slice (some ⟨g,0,none⟩) ms.length cap)) (hc:GY W g ms) (h0:J [] W):
  CallsIn F n prog 321 #[.func (.yield l) #[] #[],.pointer (some ⟨Bs,0,none⟩)] W λe W'=>(∃v,e=.returned v)∧
   ((∃ys,ys=FT ms.length ms.length∧J ys W')∨(∃pre,(∃k,k≤ms.length∧pre=FT ms.length k)∧Jx pre W')):=by
 refine callsIn_of_wp func321 rfl hf ?_ Lj;simp only[ntmps321,List.size_toArray,List.length_cons,List.length_nil,Nat.reduceAdd,Nat.reduceSub,Array.replicate_succ,Array.replicate_zero,List.push_toArray,List.append_toArray,List.nil_append,List.cons_append];have Xf:=IntWalk.i64_in (n:=(ms.length:Int)-1) (by omega)
 gi_wp2
 gi_loopw [3] (λi wr=>∃k:Nat,k≤ms.length∧i=.int .i64 ((ms.length:Int)-1-k)∧J (FT ms.length k) wr∧Below n0 W wr)
  (λi _=>(intOf i+1).toNat)
 case atStart=>exact⟨0,Nat.zero_le _,by simp,h0,bR _ _⟩
 case round=>
  obtain⟨k,hk,rfl,X5,vo⟩:=hrel;have adN:=IntWalk.i64_in (n:=(ms.length:Int)-1-k-1) (by omega);by_cases bm:k<ms.length
  ·obtain⟨fn,tmps,assign,body,hy,hR⟩:=hY _ ⟨k,bm⟩ wr X5 (by rw[DM hk];exact bm);obtain⟨d0,d1⟩:=hc.below hg vo k bm;have df:=(vo.cell (p:=⟨Bs,0,none⟩) aaB).trans T6;have e1: (0:Int)≤(ms.length:Int)-1-k:=by omega
   have e2: (ms.length:Int)-1-k<ms.length:=by omega
   have e3: ((ms.length:Int)-1-k).toNat=ms.length-1-k:=by omega
   unfold M3 at hy;dsimp only at hy
   gi_wp2
   refine hR.mono ?_
   rintro e W3 (⟨rfl,aar,OE⟩|⟨rfl,VQ⟩)
   ·gi_wp2
    go_roundw
    case rel=>exact⟨k+1,by omega,by congr 1;omega,by rw[uG bm];exact aar,vo.trans OE⟩
    case measure=>simp[intOf];omega
   ·gi_wp2
    refine bodyPost_ret (results_none rfl _ _ _) rfl ?_;exact⟨⟨_,rfl⟩,.inr ⟨_,⟨k+1,by omega,(uG bm).symm⟩,VQ⟩⟩
  ·obtain rfl:k=ms.length:=by omega
   have e1:¬(0:Int)≤(ms.length:Int)-1-ms.length:=by omega
   gi_wp2
   go_end0;exact⟨⟨_,rfl⟩,.inl X5⟩
theorem MI(F:Fence)(n:Nat)(hf:F.fn 284)(Lj:F.round=none)(a:Option Addr)(len cap:Nat)(w:World):
  CallsIn F n prog 284 #[.slice a len cap] w λe w'=>e=.returned (.func (.func 321) #[] #[.pointer (some ⟨w.heap.size,0,none⟩)])∧w'=w.alloc (.cells #[.slice a len cap] 143):=by
 refine callsIn_of_wp func284 rfl hf ?_ Lj;simp only[ntmps284,List.size_toArray,List.length_cons,List.length_nil,Nat.reduceAdd,Nat.reduceSub,Array.replicate_succ,Array.replicate_zero,List.push_toArray,List.append_toArray,List.nil_append,List.cons_append]
 gi_wp2
 go_ret
 exact⟨rfl,rfl⟩
theorem DK(F:Fence)(n:Nat)(hf:F.fn 321)(Lj:F.round=none)(hn:1≤n)(Bs n0 g cap:Nat)(ms:List (Frm×Nat))(hlen:ms.length≤1000000)(w:World)(T6:Bs<n0)(hg:g<n0)(YM:n0≤w.heap.size)
  (hb:w.cell? ⟨Bs,0,none⟩=some (.slice (some ⟨g,0,none⟩) ms.length cap)) (hc:GY w g ms):
  SeqStopsK F n prog 321 #[.pointer (some ⟨Bs,0,none⟩)] (M3 ms) (Below n0) (λys=>ys=FT ms.length ms.length) (λpre=>∃k,k≤ms.length∧pre=FT ms.length k) ms.length w:=λl J Jx W hW _ _ hY h0=>
 Jq F n hf Lj hn l Bs n0 g cap ms hlen hg T6 J Jx hY W ((hW.cell (p:=⟨Bs,0,none⟩) (nL T6 YM)).trans hb) (hc.below hg (hW.mono YM)) h0
end
end Go.Proofs.YtdlbhiaceheffabGreatDoor
