/- Walk of bind: visit, at each kind of node. (Printed by gen_nd1.py.) -/
import Derived.Test.YtdlbhiaceheffabGreatDoorP34
set_option linter.all false
set_option maxRecDepth 100000
set_option maxHeartbeats 4000000
namespace Go.Proofs.YtdlbhiaceheffabGreatDoor
open Go Go.RowKit Ty Tok ak Tryz Proofs.Tryz
section
open Ty (Frm Vg aO kB)
def Jt(p:Nat)(x:BA)(id:Nat)(G:eN):eN:=λfrs v=>aO (kB p x id true frs v) λv=>G frs v
theorem Ty.cx(p:Nat×eN)(l:List (Nat×eN)):du (p::l)=p.1+du l:=rfl
theorem Ty.iE(F:eN)(frs:List Frm)(v:Vg):dQ [F] frs v=F frs v:=by
 show aO (F frs v) (λr=>.ok (r.1,r.2))=F frs v;cases F frs v<;>rfl
section
variable {wB:World} {nv tv:Value} {pg:Ty.Pg} {bb:Nat} {main:Int}
theorem LP(hP:PB wB nv tv pg){id p:Nat}{x:BA}(hn:pg.ns[id]?=some {Ty.af 5 p with text:=x}):iO wB nv tv bb main id (1) (λfrs v=>aO (kB p x id false frs v) λv=>.ok (frs,v)):=by
 intro frs v c w Fr hF H hc R aF av;have aY:=qh aF;have aB:=qh av;have HF:=qh hF;have h1:=H.aj (.cells #[.pointer (some ⟨bb,0,none⟩)] 142) w.heap.size;obtain⟨nw,nc,vL,vP,o9,h2⟩:=(h1.at 1 rfl).iL;obtain⟨sv,ov,wb,cb,ms,gT,h3⟩:=h2.gO;have k0:=h3.cell 1 rfl 0 rfl;have gB:=h3.lt 1 rfl
 (try dsimp only at k0)
 have H1:=qh h1;clear aF av hF H h1 h2 h3 gT vL vP o9;go_enter func132,ntmps132;go_wp2_with fail;refine dC hP (HF.o _ _ 0 H1.o rfl) hn k0 gB (λlv w2 aI cI=>?_);obtain⟨la,lc,rfl⟩:=ag cI;unfold aK
 (try dsimp only[Ty.af])
 (try dsimp only[Ty.af]at cI)
 have h3:=(H1.o.below aI).aj (aD ⟨5,0,0,0,[],x,0,-1,p⟩ (.slice la 0 lc)) w2.heap.size;have y0:=(H1.o.below aI).cell 2 rfl 0 rfl;have hy:=(H1.o.below aI).lt 2 rfl;have x0:=h3.cell 3 rfl 0 rfl;have H4:=qh ((Sat.pack (L:=[_]) (M:=[Fr,ay w2.heap.size (aD ⟨5,0,0,0,[],x,0,-1,p⟩ (.slice la 0 lc)),ay w.heap.size (.cells #[.pointer (some ⟨bb,0,none⟩)] 142 (0,0))]) (h3.pick [1,0,3,2])).pick [1,0]);have dq:=qh (HF.o.ah (M:=[ay w2.heap.size (aD ⟨5,0,0,0,[],x,0,-1,p⟩ (.slice la 0 lc)),ay w.heap.size (.cells #[.pointer (some ⟨bb,0,none⟩)] 142 (0,0))]));have j4:=qh cI;clear h3 aI cI H1 k0 gB;go_wp2_with fail;refine DS hP hn false dq.o H4.o hc (λv' w' hq h5=>?_) (λf w' hq h5=>?_)
 ·have HG:=qh (aY.o frs v' w' (by show aO _ _= _;rw[show kB p x id false frs v= _ from hq];rfl) ((h5.unpack (i:=0) rfl).pick [1,0]));clear hq h5;go_wp2_with fail;go_end0;exact HG.o
 ·exact⟨rfl,aB.o f w' (by show aO _ _= _;rw[show kB p x id false frs v= _ from hq];rfl) ((h5.unpack (i:=0) rfl).pick [0])⟩
theorem Nf(hP:PB wB nv tv pg){id p b:Nat}{x:BA}(hn:pg.ns[id]?=some {Ty.af 18 p with text:=x,a:=b}){k:Nat}{G:eN}(C:iO wB nv tv bb main b k G):iO wB nv tv bb main id (k+1) (Jt p x id G):=by
 intro frs v c w Fr hF H hc R aF av;have aY:=qh aF;have aB:=qh av;have HF:=qh hF;have h1:=H.aj (.cells #[.pointer (some ⟨bb,0,none⟩)] 142) w.heap.size;obtain⟨nw,nc,vL,vP,o9,h2⟩:=(h1.at 1 rfl).iL;obtain⟨sv,ov,wb,cb,ms,gT,h3⟩:=h2.gO;have k0:=h3.cell 1 rfl 0 rfl;have gB:=h3.lt 1 rfl
 (try dsimp only at k0)
 have H1:=qh h1;clear aF av hF H h1 h2 h3 gT vL vP o9;go_enter func132,ntmps132;go_wp2_with fail;refine dC hP (HF.o _ _ 0 H1.o rfl) hn k0 gB (λlv w2 aI cI=>?_);obtain⟨la,lc,rfl⟩:=ag cI;unfold aK
 (try dsimp only[Ty.af])
 (try dsimp only[Ty.af]at cI)
 have h3:=(H1.o.below aI).aj (aD ⟨18,b,0,0,[],x,0,-1,p⟩ (.slice la 0 lc)) w2.heap.size;have y0:=(H1.o.below aI).cell 2 rfl 0 rfl;have hy:=(H1.o.below aI).lt 2 rfl;have x0:=h3.cell 3 rfl 0 rfl;have H4:=qh ((Sat.pack (L:=[_]) (M:=[Fr,ay w2.heap.size (aD ⟨18,b,0,0,[],x,0,-1,p⟩ (.slice la 0 lc)),ay w.heap.size (.cells #[.pointer (some ⟨bb,0,none⟩)] 142 (0,0))]) (h3.pick [1,0,3,2])).pick [1,0]);have dq:=qh (HF.o.ah (M:=[ay w2.heap.size (aD ⟨18,b,0,0,[],x,0,-1,p⟩ (.slice la 0 lc)),ay w.heap.size (.cells #[.pointer (some ⟨bb,0,none⟩)] 142 (0,0))]));have j4:=qh cI;clear h3 aI cI H1 k0 gB;go_wp2_with fail;refine DS hP hn true dq.o H4.o (by omega) (λv' w' hq h5=>?_) (λf w' hq h5=>?_)
 ·have hu:=h5.unpack (i:=0) rfl;have y0:=hu.cell 3 rfl 0 rfl;have x1:=hu.cell 2 rfl 1 rfl;dsimp only at y0 x1;have HQ:=qh (show kB p x id true frs v= _ from hq);have H5:=qh h5;clear hq h5 hu H4;go_wp2_with fail;refine C _ _ _ w' _ dq.o H5.o (by omega) _ (λdJ v2 w8 kU h9=>?_) (λf w8 kU h9=>?_)
  ·have HG:=qh (aY.o dJ v2 w8 (by unfold Jt;rw[HQ.o];exact kU) (by rw[show c+(k+1)=c+1+k by omega];exact(h9.unpack (i:=0) rfl).pick [1,0]));clear kU h9;go_wp2_with fail;go_end0;exact HG.o
  ·exact⟨rfl,aB.o f w8 (by unfold Jt;rw[HQ.o];exact kU) ((h9.unpack (i:=0) rfl).pick [0])⟩
 ·exact⟨rfl,aB.o f w' (by unfold Jt;rw[show kB p x id true frs v= _ from hq];rfl) ((h5.unpack (i:=0) rfl).pick [0])⟩
theorem M9(hP:PB wB nv tv pg){id p b:Nat}{x:BA}{ty:Int}(hn:pg.ns[id]?=some {Ty.af 17 p with text:=x,ty:=ty,a:=b}){nb:Ty.Nd}(sP:pg.ns[b]?=some nb){fn:Bool}(wU: (((nb.kind:Nat):Int)==6)=fn){k:Nat}{G:eN}(C:iO wB nv tv bb main b k G):iO wB nv tv bb main id (k+1) (xQ p x id fn G):=by
 intro frs v c w Fr hF H hc R aF av;obtain⟨_,_,_,_,Rg,_,_,_,_,_,MV,hN⟩:=hP.look hn;have hx:x.size≤maxLen:=by have:=MV.size;simp only[Ty.af]at this;unfold maxLen;omega
 have aY:=qh aF;have aB:=qh av;have HF:=qh hF;have h1:=H.aj (.cells #[.pointer (some ⟨bb,0,none⟩)] 142) w.heap.size;obtain⟨nw,nc,vL,vP,o9,h2⟩:=(h1.at 1 rfl).iL;obtain⟨sv,ov,wb,cb,ms,gT,h3⟩:=h2.gO;have k0:=h3.cell 1 rfl 0 rfl;have gB:=h3.lt 1 rfl
 (try dsimp only at k0)
 have H1:=qh h1;clear aF av hF H h1 h2 h3 gT vL vP o9 MV;go_enter func132,ntmps132;go_wp2_with fail;refine dC hP (HF.o _ _ 0 H1.o rfl) hn k0 gB (λlv w2 aI cI=>?_);obtain⟨la,lc,rfl⟩:=ag cI;unfold aK
 (try dsimp only[Ty.af])
 (try dsimp only[Ty.af]at cI)
 have h3:=(H1.o.below aI).aj (aD ⟨17,b,0,0,[],x,0,ty,p⟩ (.slice la 0 lc)) w2.heap.size;have y0:=(H1.o.below aI).cell 2 rfl 0 rfl;have hy:=(H1.o.below aI).lt 2 rfl;have x0:=h3.cell 3 rfl 0 rfl;have H4:=qh ((Sat.pack (L:=[_]) (M:=[Fr,ay w2.heap.size (aD ⟨17,b,0,0,[],x,0,ty,p⟩ (.slice la 0 lc)),ay w.heap.size (.cells #[.pointer (some ⟨bb,0,none⟩)] 142 (0,0))]) (h3.pick [1,0,3,2])).pick [1,0]);have dq:=qh (HF.o.ah (M:=[ay w2.heap.size (aD ⟨17,b,0,0,[],x,0,ty,p⟩ (.slice la 0 lc)),ay w.heap.size (.cells #[.pointer (some ⟨bb,0,none⟩)] 142 (0,0))]));have j4:=qh cI;clear h3 aI cI H1 k0 gB;go_wp2_with fail;refine LY hP hn hx sP wU C dq.o H4.o hc (λdJ v' w' hq h5=>?_) (λf w' hq h5=>?_)
 ·have HG:=qh (aY.o dJ v' w' hq ((h5.unpack (i:=0) rfl).pick [1,0]));clear hq h5;go_wp2_with fail;go_end0;exact HG.o
 ·exact⟨rfl,aB.o f w' hq ((h5.unpack (i:=0) rfl).pick [0])⟩
theorem Py(hP:PB wB nv tv pg){id p b bp:Nat}{ty:Int}{bF ids:List Nat}(hn:pg.ns[id]?=some {Ty.af 6 p with list:=bF,ty:=ty,a:=b})(sP:pg.ns[b]?=some {Ty.af 26 bp with list:=ids}){ps:List (BA×Nat)}(jQ:bF.length=ps.length∧∀i(h1:i<bF.length)(h2:i<ps.length),∃q ty,pg.ns[bF[i]]?=some {Ty.af 16 q with text:=ps[i].1,ty:=ty}∧ps[i].2=bF[i]∧ps[i].1.size≤maxLen){cs:List (Nat×eN)}(hC:gJ wB nv tv bb main ids cs)(jK:T7 cs)(A':ids.length≤1000000)(SM:bF.length≤1000000):iO wB nv tv bb main id (1+ps.length+du cs) (Iy cs ps id):=by
 intro frs v c w Fr hF H hc R aF av;have F8:=qh jQ;clear jQ;have aY:=qh aF;have aB:=qh av;have HF:=qh hF;have h1:=H.aj (.cells #[.pointer (some ⟨bb,0,none⟩)] 142) w.heap.size;obtain⟨nw,nc,vL,vP,o9,h2⟩:=(h1.at 1 rfl).iL;obtain⟨sv,ov,wb,cb,ms,gT,h3⟩:=h2.gO;have k0:=h3.cell 1 rfl 0 rfl;have gB:=h3.lt 1 rfl
 (try dsimp only at k0)
 have H1:=qh h1;clear aF av hF H h1 h2 h3 gT vL vP o9;go_enter func132,ntmps132;go_wp2_with fail;refine dC hP (HF.o _ _ 0 H1.o rfl) hn k0 gB (λlv w2 aI cI=>?_);obtain⟨la,lc,rfl⟩:=ag cI;unfold aK
 (try dsimp only[Ty.af])
 (try dsimp only[Ty.af]at cI)
 have h3:=(H1.o.below aI).aj (aD ⟨6,b,0,0,bF,⟨#[]⟩,0,ty,p⟩ (.slice la bF.length lc)) w2.heap.size;have y0:=(H1.o.below aI).cell 2 rfl 0 rfl;have hy:=(H1.o.below aI).lt 2 rfl;have x0:=h3.cell 3 rfl 0 rfl;have H4:=qh ((Sat.pack (L:=[_]) (M:=[Fr,ay w2.heap.size (aD ⟨6,b,0,0,bF,⟨#[]⟩,0,ty,p⟩ (.slice la bF.length lc)),ay w.heap.size (.cells #[.pointer (some ⟨bb,0,none⟩)] 142 (0,0))]) (h3.pick [1,0,3,2])).pick [1,0]);have dq:=qh (HF.o.ah (M:=[ay w2.heap.size (aD ⟨6,b,0,0,bF,⟨#[]⟩,0,ty,p⟩ (.slice la bF.length lc)),ay w.heap.size (.cells #[.pointer (some ⟨bb,0,none⟩)] 142 (0,0))]));have j4:=qh cI;clear h3 aI cI H1 k0 gB;go_wp2_with fail;refine ub hP hn sP F8.o hC jK A' SM dq.o H4.o hc (λdJ v' w' hq h5=>?_) (λf w' hq h5=>?_)
 ·have HG:=qh (aY.o dJ v' w' hq ((h5.unpack (i:=0) rfl).pick [1,0]));clear hq h5;go_wp2_with fail;go_end0;exact HG.o
 ·exact⟨rfl,aB.o f w' hq ((h5.unpack (i:=0) rfl).pick [0])⟩
theorem Cn{p:Nat}{ids:List Nat}{cs:List (Nat×eN)}(hC:gJ wB nv tv bb main ids cs)(A':ids.length≤1000000)
  {frs:List Frm} {v:Vg} {c:Nat} {w:World} {Fr:As} (hF:jH wB Fr) {xb yb:Nat} {la:Option Addr} {lc:Nat} (bJ:wB.ownsRow 0 3 1 (.slice la ids.length lc) ids.length (ids.map aS))
  (H:Sat wB w [ah [Fr,ay xb (aD ⟨26,0,0,0,ids,⟨#[]⟩,0,-1,p⟩ (.slice la ids.length lc)),ay yb (.cells #[.pointer (some ⟨bb,0,none⟩)] 142 (0,0))],pJ bb nv tv main c frs v]) (hc:c+du cs≤100000) {R:EW}
  (aF:∀dJ v' w',dQ (cs.map Prod.snd) frs v=.ok (dJ,v')→Sat wB w' [ah [Fr,ay xb (aD ⟨26,0,0,0,ids,⟨#[]⟩,0,-1,p⟩ (.slice la ids.length lc)),ay yb (.cells #[.pointer (some ⟨bb,0,none⟩)] 142 (0,0))],pJ bb nv tv main (c+du cs) dJ v']→R (.returned (.tuple #[])) w')
  (av:∀f w',dQ (cs.map Prod.snd) frs v=.error f→Sat wB w' [ah [Fr,ay xb (aD ⟨26,0,0,0,ids,⟨#[]⟩,0,-1,p⟩ (.slice la ids.length lc)),ay yb (.cells #[.pointer (some ⟨bb,0,none⟩)] 142 (0,0))]]→R (.panicked (aJ f)) w'):
  Calls prog 218 #[.pointer (some ⟨yb,0,none⟩),.pointer (some ⟨xb,0,none⟩)] w R:=by
 have hu:=H.unpack (i:=0) rfl;have y0:=hu.cell 3 rfl 0 rfl;have x4:=hu.cell 2 rfl 4 rfl;dsimp only at y0 x4;have aY:=qh aF;have aB:=qh av;have H1:=qh H;have dG:=qh bJ;have dq:=qh (hF.ah (M:=[ay xb (aD ⟨26,0,0,0,ids,⟨#[]⟩,0,-1,p⟩ (.slice la ids.length lc)),ay yb (.cells #[.pointer (some ⟨bb,0,none⟩)] 142 (0,0))]));clear aF av H bJ hu hF;go_in;go_wp2_with fail;refine ox dq.o hC.1 hC.2 (λw1 L i hs hi=>az dG.o (dq.o w1 L i hs hi)) A' H1.o hc (λiM v2 w8 kU h9=>?_) (λf w8 kU h9=>⟨rfl,aB.o f w8 kU h9⟩);have HG:=qh (aY.o iM v2 w8 kU h9);clear kU h9;go_wp2_with fail;go_end0;exact HG.o
theorem Fm(hP:PB wB nv tv pg){id p:Nat}{ids:List Nat}(hn:pg.ns[id]?=some {Ty.af 26 p with list:=ids}){cs:List (Nat×eN)}(hC:gJ wB nv tv bb main ids cs)(jK:T7 cs)(A':ids.length≤1000000)(owner:Nat):iO wB nv tv bb main id (du cs+1) (C2 cs owner):=by
 intro frs v c w Fr hF H hc R aF av;have aY:=qh aF;have aB:=qh av;have HF:=qh hF;have h1:=H.aj (.cells #[.pointer (some ⟨bb,0,none⟩)] 142) w.heap.size;obtain⟨nw,nc,vL,vP,o9,h2⟩:=(h1.at 1 rfl).iL;obtain⟨sv,ov,wb,cb,ms,gT,h3⟩:=h2.gO;have k0:=h3.cell 1 rfl 0 rfl;have gB:=h3.lt 1 rfl
 (try dsimp only at k0)
 have H1:=qh h1;clear aF av hF H h1 h2 h3 gT vL vP;go_enter func132,ntmps132;go_wp2_with fail;refine dC hP (HF.o _ _ 0 H1.o rfl) hn k0 gB (λlv w2 aI cI=>?_);obtain⟨la,lc,rfl⟩:=ag cI;unfold aK
 (try dsimp only[Ty.af])
 (try dsimp only[Ty.af]at cI)
 have h3:=(H1.o.below aI).aj (aD ⟨26,0,0,0,ids,⟨#[]⟩,0,-1,p⟩ (.slice la ids.length lc)) w2.heap.size;have y0:=(H1.o.below aI).cell 2 rfl 0 rfl;have hy:=(H1.o.below aI).lt 2 rfl;have x0:=h3.cell 3 rfl 0 rfl;have H4:=qh ((Sat.pack (L:=[_]) (M:=[Fr,ay w2.heap.size (aD ⟨26,0,0,0,ids,⟨#[]⟩,0,-1,p⟩ (.slice la ids.length lc)),ay w.heap.size (.cells #[.pointer (some ⟨bb,0,none⟩)] 142 (0,0))]) (h3.pick [1,0,3,2])).pick [1,0]);have dq:=qh (HF.o.ah (M:=[ay w2.heap.size (aD ⟨26,0,0,0,ids,⟨#[]⟩,0,-1,p⟩ (.slice la ids.length lc)),ay w.heap.size (.cells #[.pointer (some ⟨bb,0,none⟩)] 142 (0,0))]));have j4:=qh cI;clear h3 aI cI H1 k0 gB;go_wp2_with fail;obtain⟨fr,l,rfl⟩:∃fr l,frs=fr::l:=by
  cases frs with
  |nil=>exact absurd rfl o9.ne
  |cons fr l=>exact⟨fr,l,rfl⟩
 obtain⟨zb,mV,_,_,PZ,h5⟩:=H4.o.iL;obtain⟨aaA,qR,acF,Y3,Zd,Ed,FK,h6⟩:=h5.y_;have xZ:Ed.length≤1000000:=by have:=PZ.len;have:=congrArg List.length FK;simp at*;omega
 obtain⟨g,cap,rfl,hg,d0,d1⟩:=ud (h6.drew.row 2 rfl);have c3:=h6.drew.cell 1 rfl 3 rfl;have gB:=h6.drew.lt 1 rfl;have f1:=uV Zd fr.of;have Hu:∀(fn:Fn)(first cap:Array Value)(w:World),(Instr.makeFunc fn first cap).run prog w=.ok (.func fn first cap) w:=λ_ _ _ _=>rfl
 have Q_:=qh (PZ.OI fr (by simp));clear h5 h6 FK o9 PZ
 go_region_held (λw'=>w'.cell? ⟨w.heap.size,0,none⟩=some (.pointer (some ⟨bb,0,none⟩))) (first|go_keep|exact s1|exact s2)
  (first
   |(go_at_call 217;refine qq c3 d0 d1 gB hg xZ (λw5 dW=>?_);have h8:=H4.o.drew.below dW;have s1:=(h8.unpack (i:=0) rfl).cell 3 rfl 0 rfl;(try dsimp only at s1);have H8:=qh h8;clear dW h8)
   |(go_at_call 80;refine E1 218 _ Tryz.call218 owner (du cs) Q_.o H8.o (by omega) (m:=dQ (cs.map Prod.snd) (⟨[],owner,fr.of⟩::fr::l) v) (λdJ v' hm=>jK _ _ _ _ _ hm) (λw5 h5 R' C7 uT=>Cn hC A' HF.o j4.o h5 (by omega) C7 uT) (λdJ v' w6 hm h5=>?_) (λf w6 hm h5=>⟨rfl,aB.o f w6 (by unfold C2;rw[show dQ (cs.map Prod.snd) (⟨[],owner,o7 (fr::l)⟩::fr::l) v= _ from hm];rfl) ((h5.unpack (i:=0) rfl).pick [0])⟩);have Aw:=h5.unpack (i:=0) rfl;have s2:=Aw.cell 3 rfl 0 rfl;(try dsimp only at s2);have HG:=qh (aY.o (fr::l) v' w6 (by unfold C2;rw[show dQ (cs.map Prod.snd) (⟨[],owner,o7 (fr::l)⟩::fr::l) v= _ from hm];rfl) (by rw[show c+(du cs+1)=c+1+du cs by omega];exact Aw.pick [1,0]));clear hm h5 Aw))
 all_goals
  go_wp2_with fail;go_end0;exact HG.o
theorem ME(hP:PB wB nv tv pg){id p a b:Nat}(hn:pg.ns[id]?=some {Ty.af 22 p with a:=a,b:=b,c:= -1}){ka kb:Nat}{Fa Fb:eN}(Ca:iO wB nv tv bb main a ka Fa)(Cb:iO wB nv tv bb main b kb Fb):iO wB nv tv bb main id (ka+kb) (dQ [Fa,Fb]):=by
 intro frs v c w Fr hF H hc R aF av;have aY:=qh aF;have aB:=qh av;have HF:=qh hF;have h1:=H.aj (.cells #[.pointer (some ⟨bb,0,none⟩)] 142) w.heap.size;obtain⟨nw,nc,vL,vP,o9,h2⟩:=(h1.at 1 rfl).iL;obtain⟨sv,ov,wb,cb,ms,gT,h3⟩:=h2.gO;have k0:=h3.cell 1 rfl 0 rfl;have gB:=h3.lt 1 rfl
 (try dsimp only at k0)
 have H1:=qh h1;clear aF av hF H h1 h2 h3 gT vL vP o9;go_enter func132,ntmps132;go_wp2_with fail;refine dC hP (HF.o _ _ 0 H1.o rfl) hn k0 gB (λlv w2 aI cI=>?_);obtain⟨la,lc,rfl⟩:=ag cI;unfold aK
 (try dsimp only[Ty.af])
 (try dsimp only[Ty.af]at cI)
 have h3:=(H1.o.below aI).aj (aD ⟨22,a,b,-1,[],⟨#[]⟩,0,-1,p⟩ (.slice la 0 lc)) w2.heap.size;have y0:=(H1.o.below aI).cell 2 rfl 0 rfl;have hy:=(H1.o.below aI).lt 2 rfl;have x0:=h3.cell 3 rfl 0 rfl;have x1:=h3.cell 3 rfl 1 rfl;have x2:=h3.cell 3 rfl 2 rfl;have H4:=qh ((Sat.pack (L:=[_]) (M:=[Fr,ay w2.heap.size (aD ⟨22,a,b,-1,[],⟨#[]⟩,0,-1,p⟩ (.slice la 0 lc)),ay w.heap.size (.cells #[.pointer (some ⟨bb,0,none⟩)] 142 (0,0))]) (h3.pick [1,0,3,2])).pick [1,0]);have dq:=qh (HF.o.ah (M:=[ay w2.heap.size (aD ⟨22,a,b,-1,[],⟨#[]⟩,0,-1,p⟩ (.slice la 0 lc)),ay w.heap.size (.cells #[.pointer (some ⟨bb,0,none⟩)] 142 (0,0))]));have j4:=qh cI;clear h3 aI cI H1 k0 gB;go_wp2_with fail;have h5:=(H4.o.unpack (i:=0) rfl).aj (.cells #[.int .i64 (a:Nat),.int .i64 (b:Nat)] 3) (w2.heap.size+1) (by simp);have h6:=h5.cG (i:=4) rfl (Q:=eZ (.slice (some ⟨w2.heap.size+1,0,none⟩) 2 2) [a,b]) (λ_ h=>ch h rfl (by simp[maxLen]) (by simp[aS]));have Il:=qh (HF.o.ah (M:=[ay w2.heap.size (aD ⟨22,a,b,-1,[],⟨#[]⟩,0,-1,p⟩ (.slice la 0 lc)),ay w.heap.size (.cells #[.pointer (some ⟨bb,0,none⟩)] 142 (0,0)),eZ (.slice (some ⟨w2.heap.size+1,0,none⟩) 2 2) [a,b]]));have H6:=qh ((Sat.pack (L:=[_]) (M:=[Fr,ay w2.heap.size (aD ⟨22,a,b,-1,[],⟨#[]⟩,0,-1,p⟩ (.slice la 0 lc)),ay w.heap.size (.cells #[.pointer (some ⟨bb,0,none⟩)] 142 (0,0)),eZ (.slice (some ⟨w2.heap.size+1,0,none⟩) 2 2) [a,b]]) h6).pick [1,0]);clear h5 h6 H4;refine ox (ids:=[a,b]) (cs:=[(ka,Fa),(kb,Fb)]) Il.o rfl (λj h1 h2=>?_) (λw1 L i hs hi=>?_) (by simp) H6.o (by simp only[du,List.map_cons,List.map_nil,List.foldr_cons,List.foldr_nil];omega) (λiM v2 w8 kU h9=>?_) (λf w8 kU h9=>?_)
 ·match j with
  |0=>exact Ca
  |1=>exact Cb
  |j+2=>exact absurd h1 (by simp only[List.length_cons,List.length_nil];omega)
 ·have h1:=hs.unpack hi;exact h1.row ((L.eraseIdx i).length+3) (by rw[List.getElem?_append_right (by omega),show(L.eraseIdx i).length+3-(L.eraseIdx i).length=3 by omega];rfl)
 ·have Aw:=h9.unpack (i:=0) rfl;have y0:=Aw.cell 3 rfl 0 rfl;have x3:=Aw.cell 2 rfl 3 rfl;dsimp only at y0 x3;have HQ:=qh kU;have HG:=qh (aY.o iM v2 w8 HQ.o (by have oP:=Aw.pick [1,0];simp only[du,List.map_cons,List.map_nil,List.foldr_cons,List.foldr_nil]at oP;exact oP));clear kU h9 Aw;go_wp2_with fail;go_end0;exact HG.o
 ·exact⟨rfl,aB.o f w8 kU ((h9.unpack (i:=0) rfl).pick [0])⟩
theorem MJ(hP:PB wB nv tv pg){id p a b d:Nat}(hn:pg.ns[id]?=some {Ty.af 22 p with a:=a,b:=b,c:=((d:Nat):Int)}){ka kb:Nat}{Fa Fb:eN}(Ca:iO wB nv tv bb main a ka Fa)(Cb:iO wB nv tv bb main b kb Fb){kd:Nat}{Fd:eN}(Cd:iO wB nv tv bb main d kd Fd):iO wB nv tv bb main id (ka+kb+kd) (dQ [Fa,Fb,Fd]):=by
 intro frs v c w Fr hF H hc R aF av;have aY:=qh aF;have aB:=qh av;have HF:=qh hF;have h1:=H.aj (.cells #[.pointer (some ⟨bb,0,none⟩)] 142) w.heap.size;obtain⟨nw,nc,vL,vP,o9,h2⟩:=(h1.at 1 rfl).iL;obtain⟨sv,ov,wb,cb,ms,gT,h3⟩:=h2.gO;have k0:=h3.cell 1 rfl 0 rfl;have gB:=h3.lt 1 rfl
 (try dsimp only at k0)
 have H1:=qh h1;clear aF av hF H h1 h2 h3 gT vL vP o9;go_enter func132,ntmps132;go_wp2_with fail;refine dC hP (HF.o _ _ 0 H1.o rfl) hn k0 gB (λlv w2 aI cI=>?_);obtain⟨la,lc,rfl⟩:=ag cI;unfold aK
 (try dsimp only[Ty.af])
 (try dsimp only[Ty.af]at cI)
 have h3:=(H1.o.below aI).aj (aD ⟨22,a,b,((d:Nat):Int),[],⟨#[]⟩,0,-1,p⟩ (.slice la 0 lc)) w2.heap.size;have y0:=(H1.o.below aI).cell 2 rfl 0 rfl;have hy:=(H1.o.below aI).lt 2 rfl;have x0:=h3.cell 3 rfl 0 rfl;have x1:=h3.cell 3 rfl 1 rfl;have x2:=h3.cell 3 rfl 2 rfl;have H4:=qh ((Sat.pack (L:=[_]) (M:=[Fr,ay w2.heap.size (aD ⟨22,a,b,((d:Nat):Int),[],⟨#[]⟩,0,-1,p⟩ (.slice la 0 lc)),ay w.heap.size (.cells #[.pointer (some ⟨bb,0,none⟩)] 142 (0,0))]) (h3.pick [1,0,3,2])).pick [1,0]);have dq:=qh (HF.o.ah (M:=[ay w2.heap.size (aD ⟨22,a,b,((d:Nat):Int),[],⟨#[]⟩,0,-1,p⟩ (.slice la 0 lc)),ay w.heap.size (.cells #[.pointer (some ⟨bb,0,none⟩)] 142 (0,0))]));have j4:=qh cI;clear h3 aI cI H1 k0 gB;go_wp2_with fail;have h5:=(H4.o.unpack (i:=0) rfl).aj (.cells #[.int .i64 (a:Nat),.int .i64 (b:Nat)] 3) (w2.heap.size+1) (by simp);have h6:=h5.cG (i:=4) rfl (Q:=eZ (.slice (some ⟨w2.heap.size+1,0,none⟩) 2 2) [a,b]) (λ_ h=>ch h rfl (by simp[maxLen]) (by simp[aS]));have Il:=qh (HF.o.ah (M:=[ay w2.heap.size (aD ⟨22,a,b,((d:Nat):Int),[],⟨#[]⟩,0,-1,p⟩ (.slice la 0 lc)),ay w.heap.size (.cells #[.pointer (some ⟨bb,0,none⟩)] 142 (0,0)),eZ (.slice (some ⟨w2.heap.size+1,0,none⟩) 2 2) [a,b]]));have H6:=qh ((Sat.pack (L:=[_]) (M:=[Fr,ay w2.heap.size (aD ⟨22,a,b,((d:Nat):Int),[],⟨#[]⟩,0,-1,p⟩ (.slice la 0 lc)),ay w.heap.size (.cells #[.pointer (some ⟨bb,0,none⟩)] 142 (0,0)),eZ (.slice (some ⟨w2.heap.size+1,0,none⟩) 2 2) [a,b]]) h6).pick [1,0]);clear h5 h6 H4;refine ox (ids:=[a,b]) (cs:=[(ka,Fa),(kb,Fb)]) Il.o rfl (λj h1 h2=>?_) (λw1 L i hs hi=>?_) (by simp) H6.o (by simp only[du,List.map_cons,List.map_nil,List.foldr_cons,List.foldr_nil];omega) (λiM v2 w8 kU h9=>?_) (λf w8 kU h9=>?_)
 ·match j with
  |0=>exact Ca
  |1=>exact Cb
  |j+2=>exact absurd h1 (by simp only[List.length_cons,List.length_nil];omega)
 ·have h1:=hs.unpack hi;exact h1.row ((L.eraseIdx i).length+3) (by rw[List.getElem?_append_right (by omega),show(L.eraseIdx i).length+3-(L.eraseIdx i).length=3 by omega];rfl)
 ·have Aw:=h9.unpack (i:=0) rfl;have y0:=Aw.cell 3 rfl 0 rfl;have x3:=Aw.cell 2 rfl 3 rfl;dsimp only at y0 x3;have HQ:=qh kU;have dS:=(Sat.pack (L:=[_]) (M:=[Fr,ay w2.heap.size (aD ⟨22,a,b,((d:Nat):Int),[],⟨#[]⟩,0,-1,p⟩ (.slice la 0 lc)),ay w.heap.size (.cells #[.pointer (some ⟨bb,0,none⟩)] 142 (0,0))]) (Aw.pick [0,1,2,3])).pick [1,0];have sr:=qh dS;clear kU h9 Aw dS;go_wp2_with fail;refine Cd _ _ _ w8 _ dq.o sr.o (by simp only[du,List.map_cons,List.map_nil,List.foldr_cons,List.foldr_nil];omega) _ (λdJ v3 w9 L_ ln=>?_) (λf w9 L_ ln=>?_)
  ·have HG:=qh (aY.o dJ v3 w9 (by have jj:=HQ.o;rw[show [Fa,Fb,Fd]=[Fa,Fb]++[Fd]from rfl,lS];rw[show dQ [Fa,Fb] frs v= _ from jj];exact L_) (by have oP:=(ln.unpack (i:=0) rfl).pick [1,0];simp only[du,List.map_cons,List.map_nil,List.foldr_cons,List.foldr_nil]at oP;rw[show c+(ka+kb+kd)=c+(ka+(kb+0))+kd by omega];exact oP));clear L_ ln;go_wp2_with fail;go_end0;exact HG.o
  ·exact⟨rfl,aB.o f w9 (by have jj:=HQ.o;rw[show [Fa,Fb,Fd]=[Fa,Fb]++[Fd]from rfl,lS];rw[show dQ [Fa,Fb] frs v= _ from jj];exact L_) ((ln.unpack (i:=0) rfl).pick [0])⟩
 ·exact⟨rfl,aB.o f w8 (by rw[show [Fa,Fb,Fd]=[Fa,Fb]++[Fd]from rfl,lS];rw[show dQ [Fa,Fb] frs v= _ from kU];rfl) ((h9.unpack (i:=0) rfl).pick [0])⟩
theorem FU(hP:PB wB nv tv pg){id:Nat}{nd:Ty.Nd}(hn:pg.ns[id]?=some nd){cs:List (Nat×eN)}(hC:gJ wB nv tv bb main (aC nd) cs)(hk:nd.kind≠5∧nd.kind≠6∧nd.kind≠16∧nd.kind≠17∧nd.kind≠18∧nd.kind≠22∧nd.kind≠26)(wG:1≤nd.kind∧nd.kind≤26)(zf:nd.kind=20→0≤nd.c)(BE:nd.list.length≤900000):iO wB nv tv bb main id (du cs) (dQ (cs.map Prod.snd)):=by
 intro frs v c w Fr hF H hc R aF av;have Rg: (aC nd).length≤900003:=by have:=lf nd;omega
 have aY:=qh aF;have aB:=qh av;have HF:=qh hF;have h1:=H.aj (.cells #[.pointer (some ⟨bb,0,none⟩)] 142) w.heap.size;obtain⟨nw,nc,vL,vP,o9,h2⟩:=(h1.at 1 rfl).iL;obtain⟨sv,ov,wb,cb,ms,gT,h3⟩:=h2.gO;have k0:=h3.cell 1 rfl 0 rfl;have gB:=h3.lt 1 rfl
 (try dsimp only at k0)
 have H1:=qh h1;clear aF av hF H h1 h2 h3 gT vL vP o9;have k5: ((nd.kind:Int)==5)=false:=beq_eq_false_iff_ne.2 (by omega);have k6: ((nd.kind:Int)==6)=false:=beq_eq_false_iff_ne.2 (by omega);have YD: ((nd.kind:Int)==17)=false:=beq_eq_false_iff_ne.2 (by omega);have adf: ((nd.kind:Int)==18)=false:=beq_eq_false_iff_ne.2 (by omega);have TV: ((nd.kind:Int)==22)=false:=beq_eq_false_iff_ne.2 (by omega);have Q7: ((nd.kind:Int)==26)=false:=beq_eq_false_iff_ne.2 (by omega);go_enter func132,ntmps132;go_wp2_with fail;refine dC hP (HF.o _ _ 0 H1.o rfl) hn k0 gB (λlv w2 aI cI=>?_);obtain⟨la,lc,rfl⟩:=ag cI;unfold aK
 (try dsimp only[Ty.af])
 (try dsimp only[Ty.af]at cI)
 have h3:=(H1.o.below aI).aj (aD nd (.slice la nd.list.length lc)) w2.heap.size;have y0:=(H1.o.below aI).cell 2 rfl 0 rfl;have hy:=(H1.o.below aI).lt 2 rfl;have x0:=h3.cell 3 rfl 0 rfl;have H4:=qh ((Sat.pack (L:=[_]) (M:=[Fr,ay w2.heap.size (aD nd (.slice la nd.list.length lc)),ay w.heap.size (.cells #[.pointer (some ⟨bb,0,none⟩)] 142 (0,0))]) (h3.pick [1,0,3,2])).pick [1,0]);have dq:=qh (HF.o.ah (M:=[ay w2.heap.size (aD nd (.slice la nd.list.length lc)),ay w.heap.size (.cells #[.pointer (some ⟨bb,0,none⟩)] 142 (0,0))]));have j4:=qh cI;clear h3 aI cI H1 k0 gB;go_wp2_with fail;have oH:=qh (λ(w3:World)(dD:Below wB.heap.size wB w3) R hR=>se (w:=w3) (nd:=nd) (lv:=.slice la nd.list.length lc) (R:=R) hk wG zf (az j4.o dD) (by omega) hR)
 go_region_with (first
  |(go_at_call 157;refine oH.o _ (dq.o _ _ 0 H4.o.drew rfl) _ (λv3 w3 h3=>?_);have h5:=H4.o.drew.join h3;have bJ:=kY h5 2 rfl (az j4.o (dq.o w3 _ 0 h5 rfl));obtain⟨va,vc,rfl⟩:=ag bJ;have y0:=(h5.unpack (i:=0) rfl).cell 4 rfl 0 rfl;(try dsimp only at y0);have H5:=qh ((Sat.pack (L:=[_]) (M:=[ah [Fr,ay w2.heap.size (aD nd (.slice la nd.list.length lc)),ay w.heap.size (.cells #[.pointer (some ⟨bb,0,none⟩)] 142 (0,0))],jM nd (.slice la nd.list.length lc) (.slice va (aC nd).length vc) (aC nd)]) (h5.pick [1,0,2])).pick [1,0]);clear h3 h5 bJ)
  |(go_at_call 82;(refine ox dq.o.ah hC.1 hC.2 (λw1 L i hs hi=>?_) (by omega) H5.o hc (λiM v2 w8 kU h9=>?_) (λf w8 kU h9=>⟨rfl,aB.o f w8 kU (((h9.unpack (i:=0) rfl).pick [0]).unpack (i:=0) rfl|>.pick [0])⟩));(have h1:=hs.unpack hi;exact kY h1 ((L.eraseIdx i).length+1) (by rw[List.getElem?_append_right (by omega),show(L.eraseIdx i).length+1-(L.eraseIdx i).length=1 by omega];rfl) (az j4.o (dq.o w1 _ (L.eraseIdx i).length h1 (by rw[List.getElem?_append_right (by omega),Nat.sub_self];rfl))));have HG:=qh (aY.o iM v2 w8 kU (((h9.unpack (i:=0) rfl).pick [1,0]).unpack (i:=0) rfl|>.pick [1,0]));clear kU h9))
 all_goals
  go_wp2_with fail;go_end0;exact HG.o
end
end
end Go.Proofs.YtdlbhiaceheffabGreatDoor
