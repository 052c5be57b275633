/- Walk of bind: in a new scope. -/
import Derived.RangeFuncNested
import Derived.RangeFuncBound
import Derived.RangeFuncCalls
import Derived.RangeFuncLeaves
import Derived.Shelf.Abstract
import Derived.Shelf.RegionOpen
import Derived.WalkKit
import Derived.OwnWalkIn
import Derived.TacticsInMore
import Derived.LoopNIn
import Derived.LoopIn
import Derived.IntWalk
import Derived.Test.YtdlbhiaceheffabGreatDoorProg
import Derived.Test.YtdlbhiaceheffabGreatDoorE21
set_option linter.all false
set_option maxRecDepth 100000
set_option maxHeartbeats 4000000
namespace Go.Proofs.YtdlbhiaceheffabGreatDoor
open Go Go.RowKit Ty Tok Prt Tryz Proofs.Tryz
section
open Ty (Frm Vg aN)
theorem O_: (prog.info? 195).map (λi=>(i.zero,i.size,i.bytes))=some (some (.agg #[.map none,.int .i64 0]),2,16):=by kernel_rfl
theorem Ls{v:Value}{l:List (Frm×Nat)}{p:Frm×Nat}{a:Prt.Hp}(h:Prt.row 195 2 v (l.length+1) (l.reverse.flatMap iD++iD p) a):xu v (p::l) a:=by
 unfold xu;rw[List.reverse_cons,List.flatMap_append,List.length_cons]
 simpa using h
theorem BK(l:List (Frm×Nat)): (l.flatMap iD).length=l.length*2:=by
 induction l with
 |nil=>rfl
 |cons a l ih=>rw[List.flatMap_cons,List.length_append,ih,List.length_cons];simp[iD];omega
theorem I4(a:Option Addr)(n cap k:Nat)(hk:k<=cap)(W:World): (Instr.slice 143 (.slice a n cap) none (some (.int .i64 (k:Nat))) none).run prog W=.ok (.slice a k cap) W:=by
 have h1: (k:Int)<=cap:=by omega
 have h2: (0:Int)<=k:=by omega
 simp[Instr.slice,Instr.sliceBounds,Instr.sliceBound,asIntOf,h1,go_sem];exact λh=>absurd h (by omega)
theorem Qk{a:Option Addr}{cap:Nat}{p:Frm×Nat}{l:List (Frm×Nat)}{h:Prt.Hp}(hr:xu (.slice a (l.length+1) cap) (p::l) h):xu (.slice a l.length cap) l h:=by
 unfold xu at hr⊢;rw[List.reverse_cons,List.flatMap_append,List.length_cons]at hr
 have cu: (l.reverse.flatMap iD).length=l.length*2:=by rw[BK,List.length_reverse]
 refine⟨cu,?_⟩;rcases hr.2 with⟨h1,h2⟩|⟨g,sY,cur,h1,h2,h3,h4,h5,h6⟩
 ·exact absurd h2 (by omega)
 ·simp only[Value.slice.injEq]at h1;obtain⟨rfl,_,rfl⟩:=h1;refine .inr ⟨g,cap,cur,rfl,h2,by omega,h4,h5,?_⟩;have:=congrArg (List.take (l.length*2)) h6;rw[List.take_take,List.take_left' cu,Nat.min_eq_left (by omega)]at this
  exact this
section
variable {wB w:World} {Fr:As} {bb:Nat} {nv tv:Value} {main:Int} {frs:List Frm} {v:Vg} {nw nc:Nat}
theorem Prt.Sat.gF(h:Sat wB w [Fr,CA bb nv tv main frs v nw nc]):∃sv ov wb cb ms,ms.map Prod.fst=frs/\
  Sat wB w [Fr,av bb (Ek nv tv main sv ov wb cb),xu sv ms,vC ov v.out,mapA 3 3 wb nw (cF v.wi),mapA 3 4 cb nc (cS v.ca),ko ms]:=by
 obtain⟨⟨sv,ov,wb,cb,ms⟩,h⟩:=h.ex (i:=1) rfl;have h:=h.unpack (i:=1) rfl;have gS:ms.map Prod.fst=frs:=h.get (i:=1) rfl λ_ ha _=>ha
 exact⟨sv,ov,wb,cb,ms,gS,h.pick [0,2,3,5,6,7,4]⟩
theorem Prt.Sat.yq{sv ov:Value}{wb cb:Nat}{ms:List (Frm×Nat)}(gS:ms.map Prod.fst=frs)
  (h:Sat wB w [Fr,av bb (Ek nv tv main sv ov wb cb),xu sv ms,vC ov v.out,mapA 3 3 wb nw (cF v.wi),mapA 3 4 cb nc (cS v.ca),ko ms]):
  Sat wB w [Fr,CA bb nv tv main frs v nw nc]:=by
 have h3:=(h.iA (P:=bX (ms.map Prod.fst=frs)) (λ_=>gS)).pick [0,7,1,2,6,3,4,5];exact(Sat.pack (L:=[Fr]) h3).cL (i:=1) rfl λ_ h=>⟨⟨sv,ov,wb,cb,ms⟩,h⟩
theorem Ar(F:FuncId)(ya:Array Value)(hc:∀(args:Array Value)(w:World),(callFunc F args).run prog w=.ok (.enter F args) w){owner:Nat}{of:Int}
  (H:Sat wB w [Fr,CA bb nv tv main frs v nw nc]) (Oc:frs.length<=100000) {m:Except Ty.Ft (List Frm×Vg)} {K:Frm->List Frm->Vg->Nat->Nat->Prop}
  (vM:∀w1,Sat wB w1 [Fr,CA bb nv tv main (⟨[],owner,of⟩::frs) v nw nc]->∀R:EW,
   (∀uf iK v2 zk lu w2,K uf iK v2 zk lu->iK.length<=100000->m=.ok (uf::iK,v2)->Sat wB w2 [Fr,CA bb nv tv main (uf::iK) v2 zk lu]->R (.returned (.tuple #[])) w2)->
   (∀f w2,m=.error f->Sat wB w2 [Fr]->R (.panicked (aI f)) w2)->Calls prog F ya w1 R)
  {R:EW}
  (aH:∀uf iK v2 zk lu w2,K uf iK v2 zk lu->m=.ok (uf::iK,v2)->Sat wB w2 [Fr,CA bb nv tv main iK v2 zk lu]->R (.returned (.tuple #[])) w2)
  (au:∀f w2,m=.error f->Sat wB w2 [Fr]->R (.panicked (aI f)) w2):
  Calls prog 80 #[.pointer (some ⟨bb,0,none⟩),.int .i64 of,.func (.func F) #[] ya] w R:=by
 have aX:=qh aH;have aB:=qh au;have BN:=qh vM;obtain⟨i0,ti,mM,mL,mK⟩:=info_parts O_;obtain⟨sv,ov,wb,cb,ms,gS,h1⟩:=H.gF;obtain⟨sa,sc,rfl⟩:=ag (h1.row 2 rfl);have B4:ms.length<=100000:=by rw[<-gS,List.length_map]at Oc;exact Oc
 have c3:=h1.cell 1 rfl 3 rfl;have gQ:=h1.lt 1 rfl;have Hv:=@run_makeMap prog;have h2:=h1.uG 9 3 w.heap.size rfl (Φ:=ki []) DA;have H2:=qh h2;have LP:=qh gS;clear aH au vM H h1 h2 gS Oc;go_in;go_wp2_with(at_builtin;go_loud(refine wpList_append_lies _ rfl (.tmp 10) (.tmp 14) 143 rfl 0 195 i0 _ 2 16 underlying143 ti mM mL mK rfl (by decide) _ _ (ms.reverse.flatMap iD) (by rfl) ((H2.o.row 2 rfl).alloc _) ⟨w.heap.size+1,0,none⟩ 1 1 [.map (some w.heap.size),.int .i64 of] (by rfl) (by rfl) (World.news_of_block (cs:=#[.map (some w.heap.size),.int .i64 of]) (t:=195) (fr:=(0,0)) (aR _ _ _ (by simp))) (by simp[Value.oneCell']) (by omega) (by unfold maxLen;omega) (by omega) (by simp) (w.heap.size+2) (by simp) ?_));intro g8 qQ w8 ny jG Fv Tq;have h3:=Sat.grow (H2.o.aW _) 2 rfl jG ny (by simpa using Fv);have h4:=h3.cL (i:=2) rfl (Q:=xu (.slice (some ⟨g8,0,none⟩) (ms.length+1) qQ) ((⟨[],owner,of⟩,w.heap.size)::ms)) (λ_ h=>Ls h);have c3:=h4.cell 1 rfl 3 rfl;have f3:=h4.free 1 rfl 3;have ab7:=h4.lt 1 rfl;have H4:=qh h4;clear h3 h4 ny jG;go_wp2_with fail;have h5:=H4.o.store 1 rfl 3 (.slice (some ⟨g8,0,none⟩) (ms.length+1) qQ);have h6:=Sat.CY (fr:=⟨[],owner,of⟩) (mb:=w.heap.size) LP.o (h5.pick [0,1,2,3,4,5,7,6]);refine BN.o _ h6 _ (λuf iK v2 zk lu w2 hK OI hm h7=>?_) (λf w2 hm h7=>⟨rfl,aB.o f w2 hm h7⟩);obtain⟨ab1,sH,abu,X_,Yp,EV,Gg,h8⟩:=h7.yA;obtain⟨g2,sY,rfl,Dj,_,_⟩:=uP (h8.row 2 rfl);have kK:EV.length<=sY:=by
  rcases(h8.row 2 rfl).2 with⟨h1,h2⟩|⟨g,cap,cur,h1,_,_,h3,_⟩
  ·simp only[Value.slice.injEq]at h1;omega
  ·simp only[Value.slice.injEq]at h1;omega
 have abV:EV.length<=100000:=by rw[<-Gg,List.length_map]at OI;exact OI
 have c3:=h8.cell 1 rfl 3 rfl;have f3:=h8.free 1 rfl 3;have QL:=h8.lt 1 rfl;have hw:=IntWalk.i64_in (n:=(EV.length:Int)) (by omega);have hs:IntKind.i64.wrap (((EV.length+1:Nat):Int)-1)=(EV.length:Int):=by rw[show((EV.length+1:Nat):Int)-1=(EV.length:Int)by omega];exact hw
 have Hz:=I4 (some ⟨g2,0,none⟩) (EV.length+1) sY EV.length kK;have H8:=qh h8;have HM:=qh hm;have HK:=qh hK;have Vt:=qh Gg;clear h5 h6 h7 h8 hm hK Gg H4 H2 kK OI;go_wp2_with fail
 go_region
 all_goals
  go_wp2_with fail;go_end0;refine aX.o uf iK v2 zk lu _ HK.o HM.o ?_;have h9:=(H8.o.store 1 rfl 3 (.slice (some ⟨g2,0,none⟩) EV.length sY)).drew;have dG:=h9.cL (i:=2) rfl (Q:=xu (.slice (some ⟨g2,0,none⟩) EV.length sY) EV) (λ_ ha=>Qk ha);exact Sat.yq Vt.o (dG.pick [0,1,2,3,4,5,7])
end
def eU:List (BA×Nat)->List Frm->Vg->List Frm×Vg
 |[],frs,v=>(frs,v)
 |p::l,frs,v=>eU l (lP p.1 p.2 frs v).1 (lP p.1 p.2 frs v).2
theorem rW(p:BA×Nat):∀(l:List (BA×Nat))(frs:List Frm)(v:Vg),eU (l++[p]) frs v=lP p.1 p.2 (eU l frs v).1 (eU l frs v).2
 |[],_,_=>rfl
 |q::l,frs,v=>rW p l _ _
section
variable {wB:World} {nv tv:Value} {pg:Ty.Pg} {bb:Nat} {main:Int}
theorem CV(hP:PB wB nv tv pg){id p b bp:Nat}{ty:Int}{bC ids:List Nat}(hn:pg.ns[id]?=some {Ty.af 6 p with list:=bC,ty:=ty,a:=b})(sL:pg.ns[b]?=some {Ty.af 26 bp with list:=ids})
  {ps:List (BA×Nat)} (kM:bC.length=ps.length/\∀i(h1:i<bC.length)(h2:i<ps.length),∃q ty,pg.ns[bC[i]]?=some {Ty.af 16 q with text:=ps[i].1,ty:=ty}/\ps[i].2=bC[i]/\ps[i].1.size<=maxLen)
  {cs:List (Nat×ez)} (hlen:ids.length=cs.length) (hC:∀j(h1:j<ids.length)(h2:j<cs.length),iM wB nv tv bb main ids[j] cs[j].1 cs[j].2) (zG:ids.length<=1000000) (RE:bC.length<=1000000)
  {frs:List Frm} {v:Vg} {c:Nat} {w:World} {Fr:As} (hF:gR wB Fr) {xb cb:Nat} {la:Option Addr} {lc:Nat} (bm:wB.ownsRow 0 3 1 (.slice la bC.length lc) bC.length (bC.map aO))
  (H:Sat wB w [ah [Fr,av xb (az ⟨6,b,0,0,bC,⟨#[]⟩,0,ty,p⟩ (.slice la bC.length lc)),av cb (.cells #[.pointer (some ⟨bb,0,none⟩)] 142 (0,0))],pG bb nv tv main c frs v]) (hc:c+ps.length+dq cs<=100000) {R:EW}
  (aH:∀dD v' w',dI (cs.map Prod.snd) (eU ps frs v).1 (eU ps frs v).2=.ok (dD,v')->Sat wB w' [ah [Fr,av xb (az ⟨6,b,0,0,bC,⟨#[]⟩,0,ty,p⟩ (.slice la bC.length lc)),av cb (.cells #[.pointer (some ⟨bb,0,none⟩)] 142 (0,0))],pG bb nv tv main (c+ps.length+dq cs) dD v']->R (.returned (.tuple #[])) w')
  (au:∀f w',dI (cs.map Prod.snd) (eU ps frs v).1 (eU ps frs v).2=.error f->Sat wB w' [ah [Fr,av xb (az ⟨6,b,0,0,bC,⟨#[]⟩,0,ty,p⟩ (.slice la bC.length lc)),av cb (.cells #[.pointer (some ⟨bb,0,none⟩)] 142 (0,0))]]->R (.panicked (aI f)) w'):
  Calls prog 287 #[.pointer (some ⟨xb,0,none⟩),.pointer (some ⟨cb,0,none⟩)] w R:=by
 have aX:=qh aH;have aB:=qh au;have HF:=qh hF;have cC:=qh (hF.ah (M:=[av xb (az ⟨6,b,0,0,bC,⟨#[]⟩,0,ty,p⟩ (.slice la bC.length lc)),av cb (.cells #[.pointer (some ⟨bb,0,none⟩)] 142 (0,0))]));have hu:=H.unpack (i:=0) rfl;have x4:=hu.cell 2 rfl 4 rfl;dsimp only at x4;have FQ:=qh kM;have du:=qh bm;have H1:=qh H;clear aH au hF hu H kM bm;go_in;go_wp2_with fail;go_loopw [7] (λi wr=>∃j:Nat,i=.int .i64 j/\j<=bC.length/\Hq (Sat wB wr [ah [Fr,av xb (az ⟨6,b,0,0,bC,⟨#[]⟩,0,ty,p⟩ (.slice la bC.length lc)),av cb (.cells #[.pointer (some ⟨bb,0,none⟩)] 142 (0,0))],pG bb nv tv main (c+j) (eU (ps.take j) frs v).1 (eU (ps.take j) frs v).2])) (λi _=>bC.length-(intOf i).toNat)
 case atStart=>exact⟨0,rfl,Nat.zero_le _,H1.o⟩
 case round=>
  obtain⟨j,rfl,hj,hS⟩:=hrel;have hu:=hS.out.unpack (i:=0) rfl;have y0:=hu.cell 3 rfl 0 rfl;have Ut:=HF.o wr _ 1 hu rfl;by_cases a_:j<bC.length
  ·obtain⟨gl,jB,e,ku,d0⟩:=ints_at (ay du.o Ut) j a_;cases e;have eF:j<ps.length:=by rw[<-FQ.o.1];exact a_
   obtain⟨q,adB,hq,he,hx⟩:=FQ.o.2 j a_ eF;have pK:Hq (ps.take (j+1)=ps.take j++[ps[j]]):=by show _= _;rw[List.take_succ_eq_append_getElem eF]
   have HD:=qh (λ(R:EW) hR=>qR (R:=R) hP cC.o hq hx hS.out (by omega) hR);clear hu Ut;generalize bC[j]=pid at*
   go_wp2_with fail;refine HD.o _ (λw4 h4=>?_);have h5:Sat wB w4 [ah [Fr,av xb (az ⟨6,b,0,0,bC,⟨#[]⟩,0,ty,p⟩ (.slice (some ⟨gl,0,none⟩) bC.length lc)),av cb (.cells #[.pointer (some ⟨bb,0,none⟩)] 142 (0,0))],pG bb nv tv main (c+(j+1)) (eU (ps.take (j+1)) frs v).1 (eU (ps.take (j+1)) frs v).2]:=by
    rw[pK.o,rW,he,<-Nat.add_assoc];exact h4
   have H5:=qh h5;clear h4 h5 hq he HD;go_wp2_with fail;go_roundw
   case rel=>exact⟨j+1,by go_num,by omega,H5.o⟩
   case measure=>simp[intOf];omega
  ·have gO:j=ps.length:=by have:=FQ.o.1;omega
   subst gO;have h5:=hS.out;rw[List.take_of_length_le (Nat.le_refl _)]at h5
   have x1:=hu.cell 2 rfl 1 rfl;obtain⟨nw,nc,e1,e2,e3,h6⟩:=h5.iw;obtain⟨sv,ov,wb,X_,ms,gS,h7⟩:=h6.gF;have k0:=h7.drew.cell 1 rfl 0 rfl;have gQ:=h7.drew.lt 1 rfl;dsimp only at x1 k0;have abj:∀(lv:Value)(W:World),(Instr.field 66 (.agg #[.int .i64 26,.int .i64 0,.int .i64 0,.int .i64 0,lv,.string ⟨#[]⟩,.int .i64 0,.int .i64 (-1),.int .i64 (bp:Nat)]) 4).run prog W=.ok lv W:=λlv W=>Kq {Ty.af 26 bp with list:=ids} lv W
   have H5:=qh h5;have HC:=qh hC;have vK:=qh hlen;clear h5 h6 h7 gS e1 e2 e3 hC hlen FQ du H1 hS;go_wp2_with fail
   go_region_held (λw'=>w'.cell? ⟨cb,0,none⟩=some (.pointer (some ⟨bb,0,none⟩))/\w'.cell? ⟨xb,1,none⟩=some (.int .i64 (b:Nat))) (first|go_keep|exact⟨s1,s2⟩|exact⟨s3,s4⟩)
    (first
     |(go_at_call 213;refine dA (w:=wr.drew) hP (cC.o _ _ 0 H5.o.drew rfl) sL k0 gQ (λlv w5 dM QI=>?_);have h8:=H5.o.drew.below dM;have Xj:=h8.unpack (i:=0) rfl;have s1:=Xj.cell 3 rfl 0 rfl;have s2:=Xj.cell 2 rfl 1 rfl;dsimp only at s1 s2;have H8:=qh h8;have Wh:=qh QI;clear dM QI h8 Xj;unfold aG;dsimp only[Ty.af])
     |(go_at_call 82;refine oB cC.o vK.o HC.o (λw1 L i hs hi=>ay Wh.o (cC.o w1 L i hs hi)) zG H8.o hc (λiK v2 w8 kR h9=>?_) (λf w8 kR h9=>⟨rfl,aB.o f w8 kR h9⟩);have AE:=h9.unpack (i:=0) rfl;have s3:=AE.cell 3 rfl 0 rfl;have s4:=AE.cell 2 rfl 1 rfl;dsimp only at s3 s4;have HQ:=qh kR;have H9:=qh h9;clear kR h9 AE))
   all_goals
    go_wp2_with fail;go_end0;exact aX.o _ _ _ HQ.o H9.o
end
def gI(wB:World)(nv tv:Value)(bb:Nat)(main:Int)(ids:List Nat)(cs:List (Nat×ez)):Prop:=ids.length=cs.length/\∀j(h1:j<ids.length)(h2:j<cs.length),iM wB nv tv bb main ids[j] cs[j].1 cs[j].2
theorem OkS.push{c:Nat}{frs:List Frm}{v:Vg}(h:OkS c frs v)(o:Nat){f:Int}(hf: -1<=f/\f<=1000000):OkS (c+1) (⟨[],o,f⟩::frs) v:=by
 refine⟨by simp,by have:=h.len;simp;omega,λfr hm=>?_,λfr hm=>?_,nT h.out (by omega)⟩
 ·rcases List.mem_cons.1 hm with rfl|hm
  ·simp
  ·have:=h.names fr hm;omega
 ·rcases List.mem_cons.1 hm with rfl|hm
  ·exact hf
  ·exact h.Ot fr hm
theorem OkS.pop{c:Nat}{fr:Frm}{frs:List Frm}{v:Vg}(h:OkS c (fr::frs) v)(bT:frs≠[]):OkS c frs v:=
 ⟨bT,by have:=h.len;simp at this;omega,λf hf=>h.names f (by simp[hf]),λf hf=>h.Ot f (by simp[hf]),h.out⟩
section
variable {wB w:World} {Fr:As} {bb:Nat} {nv tv:Value} {pg:Ty.Pg} {main:Int} {frs:List Frm} {v:Vg} {c:Nat}
theorem D6(F:FuncId)(ya:Array Value)(Uf:∀(args:Array Value)(w:World),(callFunc F args).run prog w=.ok (.enter F args) w){of:Int}(owner k:Nat)(ho: -1<=of/\of<=1000000)
  (H:Sat wB w [Fr,pG bb nv tv main c frs v]) (hc:c+1+k<=100000) {m:Except Ty.Ft (List Frm×Vg)} (lR:∀dD v',m=.ok (dD,v')->∃uf,dD=uf::frs)
  (vM:∀w1,Sat wB w1 [Fr,pG bb nv tv main (c+1) (⟨[],owner,of⟩::frs) v]->∀R:EW,
   (∀dD v' w',m=.ok (dD,v')->Sat wB w' [Fr,pG bb nv tv main (c+1+k) dD v']->R (.returned (.tuple #[])) w')->
   (∀f w2,m=.error f->Sat wB w2 [Fr]->R (.panicked (aI f)) w2)->Calls prog F ya w1 R)
  {R:EW}
  (aH:∀dD v' w',m=.ok (dD,v')->Sat wB w' [Fr,pG bb nv tv main (c+1+k) frs v']->R (.returned (.tuple #[])) w')
  (au:∀f w2,m=.error f->Sat wB w2 [Fr]->R (.panicked (aI f)) w2):
  Calls prog 80 #[.pointer (some ⟨bb,0,none⟩),.int .i64 of,.func (.func F) #[] ya] w R:=by
 obtain⟨nw,nc,h1,h2,h3,h4⟩:=H.iw;have hl:=h3.len;refine Ar F ya Uf (owner:=owner) h4 (by omega) (m:=m) (K:=λuf iK v2 zk lu=>zk<=c+1+k/\lu<=c+1+k/\OkS (c+1+k) (uf::iK) v2) (λw1 h5 R' Dx uM=>?_) (λuf iK v2 zk lu w2 hK hm h5=>?_) au
 ·refine vM w1 (h5.vF (by omega) (by omega) (h3.push owner ho)) R' (λdD v' w' hm h6=>?_) uM;obtain⟨zk,lu,g1,g2,g3,g4⟩:=h6.iw;obtain⟨uf,rfl⟩:=lR _ _ hm;exact Dx uf frs v' zk lu w' ⟨g1,g2,g3⟩ (by omega) hm g4
 ·obtain⟨aal,he⟩:=lR _ _ hm;injection he with e1 e2;subst e2;exact aH _ _ w2 hm (h5.vF hK.1 hK.2.1 (hK.2.2.pop h3.ne))
end
def Lu(cs:List (Nat×ez))(ps:List (BA×Nat))(id:Nat):ez:=λfrs v=>aN (dI (cs.map Prod.snd) (eU ps (⟨[],id,(id:Nat)⟩::frs) v).1 (eU ps (⟨[],id,(id:Nat)⟩::frs) v).2) λr=>.ok (frs,r.2)
def DX(cs:List (Nat×ez))(owner:Nat):ez:=λfrs v=>aN (dI (cs.map Prod.snd) (⟨[],owner,oV frs⟩::frs) v) λr=>.ok (frs,r.2)
def UL(cs:List (Nat×ez)):Prop:=∀fr l v dD v',dI (cs.map Prod.snd) (fr::l) v=.ok (dD,v')->∃BO,dD=BO::l
theorem vp:∀(ps:List (BA×Nat))(fr:Frm)(l:List Frm)(v:Vg),∃BO,(eU ps (fr::l) v).1=BO::l
 |[],fr,_,_=>⟨fr,rfl⟩
 |p::ps,fr,l,v=>vp ps _ l _
section
variable {wB:World} {nv tv:Value} {pg:Ty.Pg} {bb:Nat} {main:Int}
theorem uu(hP:PB wB nv tv pg){id p b bp:Nat}{ty:Int}{bC ids:List Nat}(hn:pg.ns[id]?=some {Ty.af 6 p with list:=bC,ty:=ty,a:=b})(sL:pg.ns[b]?=some {Ty.af 26 bp with list:=ids})
  {ps:List (BA×Nat)} (kM:bC.length=ps.length/\∀i(h1:i<bC.length)(h2:i<ps.length),∃q ty,pg.ns[bC[i]]?=some {Ty.af 16 q with text:=ps[i].1,ty:=ty}/\ps[i].2=bC[i]/\ps[i].1.size<=maxLen)
  {cs:List (Nat×ez)} (hC:gI wB nv tv bb main ids cs) (lR:UL cs) (zG:ids.length<=1000000) (RE:bC.length<=1000000)
  {frs:List Frm} {v:Vg} {c:Nat} {w:World} {Fr:As} (hF:gR wB Fr) (H:Sat wB w [Fr,pG bb nv tv main c frs v]) (hc:c+(1+ps.length+dq cs)<=100000) {R:EW}
  (aH:∀dD v' w',Lu cs ps id frs v=.ok (dD,v')->Sat wB w' [Fr,pG bb nv tv main (c+(1+ps.length+dq cs)) dD v']->R (.returned (.tuple #[])) w')
  (au:∀f w',Lu cs ps id frs v=.error f->Sat wB w' [Fr]->R (.panicked (aI f)) w'):
  Calls prog 216 #[.pointer (some ⟨bb,0,none⟩),.int .i64 (id:Nat)] w R:=by
 obtain⟨_,_,_,_,Oe,_,_,_,_,_,_,hN⟩:=hP.look hn;have aX:=qh aH;have aB:=qh au;have HF:=qh hF;have h1:=H.aj (.cells #[.pointer (some ⟨bb,0,none⟩)] 142) w.heap.size;obtain⟨nw,nc,v7,we,oS,h2⟩:=(h1.at 1 rfl).iw;obtain⟨sv,ov,wb,cb,ms,gS,h3⟩:=h2.gF;have k0:=h3.cell 1 rfl 0 rfl;have gQ:=h3.lt 1 rfl
 (try dsimp only at k0)
 have H1:=qh h1;have FQ:=qh kM;clear aH au hF H h1 h2 h3 gS oS v7 we kM;go_in;go_wp2_with fail;refine dA hP (HF.o _ _ 0 H1.o rfl) hn k0 gQ (λlv w2 aD cu=>?_);obtain⟨la,lc,rfl⟩:=ag cu;unfold aG;dsimp only[Ty.af]
 (try dsimp only[Ty.af]at cu)
 have h3:=(H1.o.below aD).aj (az ⟨6,b,0,0,bC,⟨#[]⟩,0,ty,p⟩ (.slice la bC.length lc)) w2.heap.size;have y0:=(H1.o.below aD).cell 2 rfl 0 rfl;have hy:=(H1.o.below aD).lt 2 rfl;have H4:=qh ((Sat.pack (L:=[_]) (M:=[Fr,av w2.heap.size (az ⟨6,b,0,0,bC,⟨#[]⟩,0,ty,p⟩ (.slice la bC.length lc)),av w.heap.size (.cells #[.pointer (some ⟨bb,0,none⟩)] 142 (0,0))]) (h3.pick [1,0,3,2])).pick [1,0]);have iL:=qh cu;clear h3 aD cu H1 k0 gQ;go_wp2_with fail;refine D6 (of:=(id:Nat)) 287 _ Tryz.call287 id (ps.length+dq cs) ⟨by omega,by omega⟩ H4.o (by omega) (m:=dI (cs.map Prod.snd) (eU ps (⟨[],id,(id:Nat)⟩::frs) v).1 (eU ps (⟨[],id,(id:Nat)⟩::frs) v).2) (λdD v' hm=>?_) (λw5 h5 R' Dx uM=>?_) (λdD v' w5 hm h5=>?_) (λf w5 hm h5=>?_)
 ·obtain⟨BO,he⟩:=vp ps ⟨[],id,(id:Nat)⟩ frs v;rw[he]at hm
  exact lR _ _ _ _ _ hm
 ·exact CV hP hn sL FQ.o hC.1 hC.2 zG RE HF.o iL.o h5 (by omega) (λdD v' w' hq h6=>Dx dD v' w' hq (by rw[<-Nat.add_assoc];exact h6)) uM
 ·have HG:=qh (aX.o frs v' w5 (by unfold Lu;rw[hm];rfl) (by rw[show c+(1+ps.length+dq cs)=c+1+(ps.length+dq cs)by omega];exact(h5.unpack (i:=0) rfl).pick [1,0]));clear hm h5;go_wp2_with fail;go_end0;exact HG.o
 ·exact⟨rfl,aB.o f w5 (by unfold Lu;rw[hm];rfl) ((h5.unpack (i:=0) rfl).pick [0])⟩
end
end
section
open Prt (Sat As av bX cm star ah Hp le qL uI hp)
namespace Prt
def AU(B:Nat)(P:As):Prop:=∀h,P h->∃h',le h' h/\P h'/\∀k o,h' k=some o->k<B\/o.isCells=true
def low(B:Nat)(P:As):As:=λh=>P h/\∀k o,h k=some o->k<B
theorem qA(B:Nat)(P:As):AU B (low B P):=λh hp=>⟨h,le_refl _,hp,λk o e=>.inl (hp.2 k o e)⟩
theorem one_le{h:Hp}{b:Nat}:le (λk=>if k=b then h b else none) h:=λk o e=>by
 dsimp only at e;split at e
 ·rename_i hk;subst hk;exact e
 ·cases e
theorem I'(B b:Nat)(cs:Array Value)(t:TypeId)(fr:Nat×Nat):AU B (av b (.cells cs t fr)):=λh hp=>by
 refine⟨λk=>if k=b then h b else none,one_le,by show(if b=b then h b else none)= _;rw[if_pos rfl];exact hp,λk o e=>?_⟩;dsimp only at e;split at e
 ·rw[show h b= _ from hp]at e;cases e;exact .inr rfl
 ·cases e
theorem Jd(B:Nat)(e:TypeId)(size:Nat)(v:Value)(n:Nat)(xs:List Value):AU B (Prt.row e size v n xs):=λh hp=>by
 obtain⟨h1,h2|⟨g,cap,cur,h2,h3,h4⟩⟩:=hp
 ·exact⟨λ_=>none,λ_ _ e=>(by cases e),⟨h1,.inl h2⟩,λ_ _ e=>(by cases e)⟩
 ·refine⟨λk=>if k=g then h g else none,one_le,⟨h1,.inr ⟨g,cap,cur,h2,by show(if g=g then h g else none)= _;rw[if_pos rfl];exact h3,h4⟩⟩,λk o e=>?_⟩;dsimp only at e;split at e
  ·rw[h3]at e;cases e;exact .inr rfl
  ·cases e
theorem uo{B:Nat}:∀{L:List As},(∀(i:Nat)(P:As),L[i]?=some P->AU B P)->AU B (ah L)
 |[],_=>λh _=>⟨λ_=>none,λ_ _ e=>(by cases e),trivial,λ_ _ e=>(by cases e)⟩
 |P::L,hL=>λh hs=>by
  obtain⟨x,y,h1,h2,h3,h4,h5⟩:=hs;obtain⟨x',a1,a2,a3⟩:=hL 0 P rfl x h4;obtain⟨y',b1,b2,b3⟩:=uo (L:=L) (λi Q hi=>hL (i+1) Q hi) y h5;have hd:qL x' y':=iy (dJ (iy (dJ h1) a1)) b1;refine⟨uI x' y',rC (le_trans a1 h2) (le_trans b1 h3),⟨x',y',hd,od _ _,ow hd,a2,b2⟩,λk o e=>?_⟩;unfold uI at e;split at e
  ·rename_i u hu;cases e;exact a3 k _ hu
  ·exact b3 k o e
structure SatF(B:Nat)(w0 w:World)(L:List As):Prop where
 os:w.os=w0.os
 tape:w.tape=w0.tape
 output:w.output=w0.output
 mem:∃h,le h (hp w)/\ah L h/\∀k o,h k=some o->k<B\/o.isCells=true
theorem Sat.aaB{B:Nat}{w0 w:World}{L:List As}(H:Sat w0 w L)(hL:∀(i:Nat)(P:As),L[i]?=some P->AU B P):SatF B w0 w L:=by
 obtain⟨h,h1,h2,h3⟩:=uo hL _ H.mem;exact⟨H.os,H.tape,H.output,h,h1,h2,h3⟩
theorem SatF.sat{B:Nat}{w0 w:World}{L:List As}(H:SatF B w0 w L):Sat w0 w L:=by
 obtain⟨h,h1,h2,_⟩:=H.mem;exact⟨H.os,H.tape,H.output,j8 h2 h1⟩
theorem SatF.Sz{B:Nat}{w0 w w':World}{L:List As}{row:Option Nat}(H:SatF B w0 w L)(hg:w.grownBy w' row)(hr:∀r,row=some r->B<=r/\∃o:Obj,w.heap[r]?=some o/\o.isCells=false):SatF B w0 w' L:=by
 obtain⟨h,h1,h2,h3⟩:=H.mem;refine⟨hg.os.trans H.os,hg.tape.trans H.tape,hg.output.trans H.output,h,λk o e=>?_,h2,h3⟩;have hk:=h1 k o e;have a_:=(Array.getElem?_eq_some_iff.1 hk).1;show w'.heap[k]?=some o;rw[hg.block k a_ (λer=>by
  obtain⟨h4,o2,h5,h6⟩:=hr k er.symm;have wY:w.heap[k]?=some o:=hk;rw[wY]at h5
  cases h5;rcases h3 k o e with h7|h7
  ·omega
  ·rw[h6]at h7;cases h7)]
 exact hk
theorem zY{B:Nat}:∀{L:List As}{h:Hp},ah L h->(∀k o,h k=some o->k<B)->ah (L.map (low B)) h
 |[],_,_,_=>trivial
 |P::L,h,hs,hb=>by
  obtain⟨x,y,h1,h2,h3,h4,h5⟩:=hs;exact⟨x,y,h1,h2,h3,⟨h4,λk o e=>hb k o (h2 k o e)⟩,zY h5 (λk o e=>hb k o (h3 k o e))⟩
theorem Sat.DT{w0 w:World}{L:List As}(H:Sat w0 w L){B:Nat}(hB:w.heap.size<=B):Sat w0 w (L.map (low B)):=
 ⟨H.os,H.tape,H.output,zY H.mem (λk o e=>by have:w.heap[k]?=some o:=e;have:=(Array.getElem?_eq_some_iff.1 this).1;omega)⟩
end Prt
theorem E8{B:Nat}{k e b n:Nat}{Φ:Dm->Prop}(hb:b<B):AU B (mapA k e b n Φ):=λh hp=>by
 obtain⟨es,clock,h1,h2⟩:=hp;refine⟨λj=>if j=b then h b else none,Prt.one_le,⟨es,clock,by show(if b=b then h b else none)= _;rw[if_pos rfl];exact h1,h2⟩,λj o ej=>?_⟩;dsimp only at ej;split at ej
 ·rename_i hj;subst hj;exact .inl hb
 ·cases ej
end
section
open Ty (Frm Vg)
attribute [local go_sem] Oper.semAt_some
def F4(n k:Nat):List (Fin n):=(List.finRange n).take k
theorem vE{n k:Nat}(h:k<n):F4 n (k+1)=F4 n k++[⟨k,h⟩]:=by
 unfold F4;rw[List.take_succ_eq_append_getElem (by simpa using h)];simp
theorem CU{n k:Nat}(h:k<=n): (F4 n k).length=k:=by simp[F4,h]
def Mk(ms:List (Frm×Nat))(x:Fin ms.length):Array Value:=#[.int .i64 ((ms.length:Int)-1-(x.1:Int)),.agg #[.map (some ms[x.1].2),.int .i64 ms[x.1].1.of]]
def FX(W:World)(g:Nat)(ms:List (Frm×Nat)):Prop:=∀k(h:k<ms.length),W.cell? ⟨g,(ms.length-1-k)*2,none⟩=some (.map (some ms[k].2))/\W.cell? ⟨g,(ms.length-1-k)*2+1,none⟩=some (.int .i64 ms[k].1.of)
theorem FX.below{n0:Nat}{A B:World}{g:Nat}{ms:List (Frm×Nat)}(hg:g<n0)(h:Below n0 A B)(r:FX A g ms):FX B g ms:=λk hk=>⟨(h.cell (p:=⟨g,_,none⟩) hg).trans (r k hk).1,(h.cell (p:=⟨g,_,none⟩) hg).trans (r k hk).2⟩
theorem Ln(F:Fence)(n:Nat)(hf:F.fn 321)(LM:F.round=none)(hn:1<=n)(l Bs n0 g cap:Nat)(ms:List (Frm×Nat))(hlen:ms.length<=1000000)(hg:g<n0)(ab8:Bs<n0)(J Jx:List (Fin ms.length)->World->Prop)
  (hY:∀pre x W,J pre W->pre.length<ms.length->YieldAt F (n-1) prog l (Mk ms x) W λe W'=>
   (e=.returned (.bool true)/\J (pre++[x]) W'/\Below n0 W W')\/(e=.returned (.bool false)/\Jx (pre++[x]) W'))
  (W:World) (UB:W.cell? ⟨Bs,0,none⟩=some (.slice (some ⟨g,0,none⟩) ms.length cap)) (hc:FX W g ms) (h0:J [] W):
  CallsIn F n prog 321 #[.func (.yield l) #[] #[],.pointer (some ⟨Bs,0,none⟩)] W λe W'=>(∃v,e=.returned v)/\
   ((∃ys,ys=F4 ms.length ms.length/\J ys W')\/(∃pre,(∃k,k<=ms.length/\pre=F4 ms.length k)/\Jx pre W')):=by
 refine callsIn_of_wp func321 rfl hf ?_ LM;simp only[ntmps321,List.size_toArray,List.length_cons,List.length_nil,Nat.reduceAdd,Nat.reduceSub,Array.replicate_succ,Array.replicate_zero,List.push_toArray,List.append_toArray,List.nil_append,List.cons_append];have ac5:=IntWalk.i64_in (n:=(ms.length:Int)-1) (by omega)
 gi_wp2
 gi_loopw [3] (λi wr=>∃k:Nat,k<=ms.length/\i=.int .i64 ((ms.length:Int)-1-k)/\J (F4 ms.length k) wr/\Below n0 W wr)
  (λi _=>(intOf i+1).toNat)
 case atStart=>exact⟨0,Nat.zero_le _,by simp,h0,bR _ _⟩
 case round=>
  obtain⟨k,hk,rfl,YH,pJ⟩:=hrel;have adK:=IntWalk.i64_in (n:=(ms.length:Int)-1-k-1) (by omega);by_cases a_:k<ms.length
  ·obtain⟨fn,tmps,assign,body,hy,hR⟩:=hY _ ⟨k,a_⟩ wr YH (by rw[CU hk];exact a_);obtain⟨d0,d1⟩:=hc.below hg pJ k a_;have cQ:=(pJ.cell (p:=⟨Bs,0,none⟩) ab8).trans UB;have e1: (0:Int)<=(ms.length:Int)-1-k:=by omega
   have e2: (ms.length:Int)-1-k<ms.length:=by omega
   have e3: ((ms.length:Int)-1-k).toNat=ms.length-1-k:=by omega
   unfold Mk at hy;dsimp only at hy
   gi_wp2
   refine hR.mono ?_
   rintro e W3 (⟨rfl,aaz,Oi⟩|⟨rfl,Xu⟩)
   ·gi_wp2
    go_roundw
    case rel=>exact⟨k+1,by omega,by congr 1;omega,by rw[vE a_];exact aaz,pJ.trans Oi⟩
    case measure=>simp[intOf];omega
   ·gi_wp2
    refine bodyPost_ret (results_none rfl _ _ _) rfl ?_;exact⟨⟨_,rfl⟩,.inr ⟨_,⟨k+1,by omega,(vE a_).symm⟩,Xu⟩⟩
  ·obtain rfl:k=ms.length:=by omega
   have e1:¬(0:Int)<=(ms.length:Int)-1-ms.length:=by omega
   gi_wp2
   go_end0;exact⟨⟨_,rfl⟩,.inl YH⟩
theorem Nz(F:Fence)(n:Nat)(hf:F.fn 284)(LM:F.round=none)(a:Option Addr)(len cap:Nat)(w:World):
  CallsIn F n prog 284 #[.slice a len cap] w λe w'=>e=.returned (.func (.func 321) #[] #[.pointer (some ⟨w.heap.size,0,none⟩)])/\w'=w.alloc (.cells #[.slice a len cap] 143):=by
 refine callsIn_of_wp func284 rfl hf ?_ LM;simp only[ntmps284,List.size_toArray,List.length_cons,List.length_nil,Nat.reduceAdd,Nat.reduceSub,Array.replicate_succ,Array.replicate_zero,List.push_toArray,List.append_toArray,List.nil_append,List.cons_append]
 gi_wp2
 go_ret
 exact⟨rfl,rfl⟩
theorem DP(F:Fence)(n:Nat)(hf:F.fn 321)(LM:F.round=none)(hn:1<=n)(Bs n0 g cap:Nat)(ms:List (Frm×Nat))(hlen:ms.length<=1000000)(w:World)(UB:Bs<n0)(hg:g<n0)(YK:n0<=w.heap.size)
  (hb:w.cell? ⟨Bs,0,none⟩=some (.slice (some ⟨g,0,none⟩) ms.length cap)) (hc:FX w g ms):
  SeqStopsK F n prog 321 #[.pointer (some ⟨Bs,0,none⟩)] (Mk ms) (Below n0) (λys=>ys=F4 ms.length ms.length) (λpre=>∃k,k<=ms.length/\pre=F4 ms.length k) ms.length w:=λl J Jx W hW _ _ hY h0=>
 Ln F n hf LM hn l Bs n0 g cap ms hlen hg UB J Jx hY W ((hW.cell (p:=⟨Bs,0,none⟩) (nL UB YK)).trans hb) (hc.below hg (hW.mono YK)) h0
end
end Go.Proofs.YtdlbhiaceheffabGreatDoor
