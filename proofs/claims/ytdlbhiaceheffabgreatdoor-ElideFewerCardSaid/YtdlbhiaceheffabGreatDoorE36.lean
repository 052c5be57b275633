/- Walk of bind: visit, at each kind of node. (Printed by gen_nd1.py.) -/
import Derived.Test.YtdlbhiaceheffabGreatDoorE35
set_option linter.all false
set_option maxRecDepth 100000
set_option maxHeartbeats 4000000
namespace Go.Proofs.YtdlbhiaceheffabGreatDoor
open Go Go.RowKit Ty Tok Prt Tryz Proofs.Tryz
section
open Ty (Frm Vg aN kF)
def Ly(p:Nat)(x:BA)(id:Nat)(G:ez):ez:=λfrs v=>aN (kF p x id true frs v) λv=>G frs v
theorem Ty.cq(p:Nat×ez)(l:List (Nat×ez)):dq (p::l)=p.1+dq l:=rfl
theorem Ty.ir(F:ez)(frs:List Frm)(v:Vg):dI [F] frs v=F frs v:=by
 show aN (F frs v) (λr=>.ok (r.1,r.2))=F frs v;cases F frs v<;>rfl
section
variable {wB:World} {nv tv:Value} {pg:Ty.Pg} {bb:Nat} {main:Int}
theorem L5(hP:PB wB nv tv pg){id p:Nat}{x:BA}(hn:pg.ns[id]?=some {Ty.af 5 p with text:=x}):iM wB nv tv bb main id (1) (λfrs v=>aN (kF p x id false frs v) λv=>.ok (frs,v)):=by
 intro frs v c w Fr hF H hc R aH au;have aX:=qh aH;have aB:=qh au;have HF:=qh hF;have h1:=H.aj (.cells #[.pointer (some ⟨bb,0,none⟩)] 142) w.heap.size;obtain⟨nw,nc,v7,we,oS,h2⟩:=(h1.at 1 rfl).iw;obtain⟨sv,ov,wb,cb,ms,gS,h3⟩:=h2.gF;have k0:=h3.cell 1 rfl 0 rfl;have gQ:=h3.lt 1 rfl
 (try dsimp only at k0)
 have H1:=qh h1;clear aH au hF H h1 h2 h3 gS v7 we oS;go_enter func132,ntmps132;go_wp2_with fail;refine dA hP (HF.o _ _ 0 H1.o rfl) hn k0 gQ (λlv w2 aD cu=>?_);obtain⟨la,lc,rfl⟩:=ag cu;unfold aG
 (try dsimp only[Ty.af])
 (try dsimp only[Ty.af]at cu)
 have h3:=(H1.o.below aD).aj (az ⟨5,0,0,0,[],x,0,-1,p⟩ (.slice la 0 lc)) w2.heap.size;have y0:=(H1.o.below aD).cell 2 rfl 0 rfl;have hy:=(H1.o.below aD).lt 2 rfl;have x0:=h3.cell 3 rfl 0 rfl;have H4:=qh ((Sat.pack (L:=[_]) (M:=[Fr,av w2.heap.size (az ⟨5,0,0,0,[],x,0,-1,p⟩ (.slice la 0 lc)),av w.heap.size (.cells #[.pointer (some ⟨bb,0,none⟩)] 142 (0,0))]) (h3.pick [1,0,3,2])).pick [1,0]);have cC:=qh (HF.o.ah (M:=[av w2.heap.size (az ⟨5,0,0,0,[],x,0,-1,p⟩ (.slice la 0 lc)),av w.heap.size (.cells #[.pointer (some ⟨bb,0,none⟩)] 142 (0,0))]));have iL:=qh cu;clear h3 aD cu H1 k0 gQ;go_wp2_with fail;refine Et hP hn false cC.o H4.o hc (λv' w' hq h5=>?_) (λf w' hq h5=>?_)
 ·have HG:=qh (aX.o frs v' w' (by show aN _ _= _;rw[show kF p x id false frs v= _ from hq];rfl) ((h5.unpack (i:=0) rfl).pick [1,0]));clear hq h5;go_wp2_with fail;go_end0;exact HG.o
 ·exact⟨rfl,aB.o f w' (by show aN _ _= _;rw[show kF p x id false frs v= _ from hq];rfl) ((h5.unpack (i:=0) rfl).pick [0])⟩
theorem M0(hP:PB wB nv tv pg){id p b:Nat}{x:BA}(hn:pg.ns[id]?=some {Ty.af 18 p with text:=x,a:=b}){k:Nat}{G:ez}(C:iM wB nv tv bb main b k G):iM wB nv tv bb main id (k+1) (Ly p x id G):=by
 intro frs v c w Fr hF H hc R aH au;have aX:=qh aH;have aB:=qh au;have HF:=qh hF;have h1:=H.aj (.cells #[.pointer (some ⟨bb,0,none⟩)] 142) w.heap.size;obtain⟨nw,nc,v7,we,oS,h2⟩:=(h1.at 1 rfl).iw;obtain⟨sv,ov,wb,cb,ms,gS,h3⟩:=h2.gF;have k0:=h3.cell 1 rfl 0 rfl;have gQ:=h3.lt 1 rfl
 (try dsimp only at k0)
 have H1:=qh h1;clear aH au hF H h1 h2 h3 gS v7 we oS;go_enter func132,ntmps132;go_wp2_with fail;refine dA hP (HF.o _ _ 0 H1.o rfl) hn k0 gQ (λlv w2 aD cu=>?_);obtain⟨la,lc,rfl⟩:=ag cu;unfold aG
 (try dsimp only[Ty.af])
 (try dsimp only[Ty.af]at cu)
 have h3:=(H1.o.below aD).aj (az ⟨18,b,0,0,[],x,0,-1,p⟩ (.slice la 0 lc)) w2.heap.size;have y0:=(H1.o.below aD).cell 2 rfl 0 rfl;have hy:=(H1.o.below aD).lt 2 rfl;have x0:=h3.cell 3 rfl 0 rfl;have H4:=qh ((Sat.pack (L:=[_]) (M:=[Fr,av w2.heap.size (az ⟨18,b,0,0,[],x,0,-1,p⟩ (.slice la 0 lc)),av w.heap.size (.cells #[.pointer (some ⟨bb,0,none⟩)] 142 (0,0))]) (h3.pick [1,0,3,2])).pick [1,0]);have cC:=qh (HF.o.ah (M:=[av w2.heap.size (az ⟨18,b,0,0,[],x,0,-1,p⟩ (.slice la 0 lc)),av w.heap.size (.cells #[.pointer (some ⟨bb,0,none⟩)] 142 (0,0))]));have iL:=qh cu;clear h3 aD cu H1 k0 gQ;go_wp2_with fail;refine Et hP hn true cC.o H4.o (by omega) (λv' w' hq h5=>?_) (λf w' hq h5=>?_)
 ·have hu:=h5.unpack (i:=0) rfl;have y0:=hu.cell 3 rfl 0 rfl;have x1:=hu.cell 2 rfl 1 rfl;dsimp only at y0 x1;have HQ:=qh (show kF p x id true frs v= _ from hq);have H5:=qh h5;clear hq h5 hu H4;go_wp2_with fail;refine C _ _ _ w' _ cC.o H5.o (by omega) _ (λdD v2 w8 kR h9=>?_) (λf w8 kR h9=>?_)
  ·have HG:=qh (aX.o dD v2 w8 (by unfold Ly;rw[HQ.o];exact kR) (by rw[show c+(k+1)=c+1+k by omega];exact(h9.unpack (i:=0) rfl).pick [1,0]));clear kR h9;go_wp2_with fail;go_end0;exact HG.o
  ·exact⟨rfl,aB.o f w8 (by unfold Ly;rw[HQ.o];exact kR) ((h9.unpack (i:=0) rfl).pick [0])⟩
 ·exact⟨rfl,aB.o f w' (by unfold Ly;rw[show kF p x id true frs v= _ from hq];rfl) ((h5.unpack (i:=0) rfl).pick [0])⟩
theorem M'(hP:PB wB nv tv pg){id p b:Nat}{x:BA}{ty:Int}(hn:pg.ns[id]?=some {Ty.af 17 p with text:=x,ty:=ty,a:=b}){nb:Nd}(sL:pg.ns[b]?=some nb){fn:Bool}(xh: (((nb.kind:Nat):Int)==6)=fn){k:Nat}{G:ez}(C:iM wB nv tv bb main b k G):iM wB nv tv bb main id (k+1) (zi p x id fn G):=by
 intro frs v c w Fr hF H hc R aH au;obtain⟨_,_,_,_,Oe,_,_,_,_,_,Uo,hN⟩:=hP.look hn;have hx:x.size<=maxLen:=by have:=Uo.size;simp only[Ty.af]at this;unfold maxLen;omega
 have aX:=qh aH;have aB:=qh au;have HF:=qh hF;have h1:=H.aj (.cells #[.pointer (some ⟨bb,0,none⟩)] 142) w.heap.size;obtain⟨nw,nc,v7,we,oS,h2⟩:=(h1.at 1 rfl).iw;obtain⟨sv,ov,wb,cb,ms,gS,h3⟩:=h2.gF;have k0:=h3.cell 1 rfl 0 rfl;have gQ:=h3.lt 1 rfl
 (try dsimp only at k0)
 have H1:=qh h1;clear aH au hF H h1 h2 h3 gS v7 we oS Uo;go_enter func132,ntmps132;go_wp2_with fail;refine dA hP (HF.o _ _ 0 H1.o rfl) hn k0 gQ (λlv w2 aD cu=>?_);obtain⟨la,lc,rfl⟩:=ag cu;unfold aG
 (try dsimp only[Ty.af])
 (try dsimp only[Ty.af]at cu)
 have h3:=(H1.o.below aD).aj (az ⟨17,b,0,0,[],x,0,ty,p⟩ (.slice la 0 lc)) w2.heap.size;have y0:=(H1.o.below aD).cell 2 rfl 0 rfl;have hy:=(H1.o.below aD).lt 2 rfl;have x0:=h3.cell 3 rfl 0 rfl;have H4:=qh ((Sat.pack (L:=[_]) (M:=[Fr,av w2.heap.size (az ⟨17,b,0,0,[],x,0,ty,p⟩ (.slice la 0 lc)),av w.heap.size (.cells #[.pointer (some ⟨bb,0,none⟩)] 142 (0,0))]) (h3.pick [1,0,3,2])).pick [1,0]);have cC:=qh (HF.o.ah (M:=[av w2.heap.size (az ⟨17,b,0,0,[],x,0,ty,p⟩ (.slice la 0 lc)),av w.heap.size (.cells #[.pointer (some ⟨bb,0,none⟩)] 142 (0,0))]));have iL:=qh cu;clear h3 aD cu H1 k0 gQ;go_wp2_with fail;refine NU hP hn hx sL xh C cC.o H4.o hc (λdD v' w' hq h5=>?_) (λf w' hq h5=>?_)
 ·have HG:=qh (aX.o dD v' w' hq ((h5.unpack (i:=0) rfl).pick [1,0]));clear hq h5;go_wp2_with fail;go_end0;exact HG.o
 ·exact⟨rfl,aB.o f w' hq ((h5.unpack (i:=0) rfl).pick [0])⟩
theorem QP(hP:PB wB nv tv pg){id p b bp:Nat}{ty:Int}{bC ids:List Nat}(hn:pg.ns[id]?=some {Ty.af 6 p with list:=bC,ty:=ty,a:=b})(sL:pg.ns[b]?=some {Ty.af 26 bp with list:=ids}){ps:List (BA×Nat)}(kM:bC.length=ps.length/\∀i(h1:i<bC.length)(h2:i<ps.length),∃q ty,pg.ns[bC[i]]?=some {Ty.af 16 q with text:=ps[i].1,ty:=ty}/\ps[i].2=bC[i]/\ps[i].1.size<=maxLen){cs:List (Nat×ez)}(hC:gI wB nv tv bb main ids cs)(lR:UL cs)(zG:ids.length<=1000000)(RE:bC.length<=1000000):iM wB nv tv bb main id (1+ps.length+dq cs) (Lu cs ps id):=by
 intro frs v c w Fr hF H hc R aH au;have FQ:=qh kM;clear kM;have aX:=qh aH;have aB:=qh au;have HF:=qh hF;have h1:=H.aj (.cells #[.pointer (some ⟨bb,0,none⟩)] 142) w.heap.size;obtain⟨nw,nc,v7,we,oS,h2⟩:=(h1.at 1 rfl).iw;obtain⟨sv,ov,wb,cb,ms,gS,h3⟩:=h2.gF;have k0:=h3.cell 1 rfl 0 rfl;have gQ:=h3.lt 1 rfl
 (try dsimp only at k0)
 have H1:=qh h1;clear aH au hF H h1 h2 h3 gS v7 we oS;go_enter func132,ntmps132;go_wp2_with fail;refine dA hP (HF.o _ _ 0 H1.o rfl) hn k0 gQ (λlv w2 aD cu=>?_);obtain⟨la,lc,rfl⟩:=ag cu;unfold aG
 (try dsimp only[Ty.af])
 (try dsimp only[Ty.af]at cu)
 have h3:=(H1.o.below aD).aj (az ⟨6,b,0,0,bC,⟨#[]⟩,0,ty,p⟩ (.slice la bC.length lc)) w2.heap.size;have y0:=(H1.o.below aD).cell 2 rfl 0 rfl;have hy:=(H1.o.below aD).lt 2 rfl;have x0:=h3.cell 3 rfl 0 rfl;have H4:=qh ((Sat.pack (L:=[_]) (M:=[Fr,av w2.heap.size (az ⟨6,b,0,0,bC,⟨#[]⟩,0,ty,p⟩ (.slice la bC.length lc)),av w.heap.size (.cells #[.pointer (some ⟨bb,0,none⟩)] 142 (0,0))]) (h3.pick [1,0,3,2])).pick [1,0]);have cC:=qh (HF.o.ah (M:=[av w2.heap.size (az ⟨6,b,0,0,bC,⟨#[]⟩,0,ty,p⟩ (.slice la bC.length lc)),av w.heap.size (.cells #[.pointer (some ⟨bb,0,none⟩)] 142 (0,0))]));have iL:=qh cu;clear h3 aD cu H1 k0 gQ;go_wp2_with fail;refine uu hP hn sL FQ.o hC lR zG RE cC.o H4.o hc (λdD v' w' hq h5=>?_) (λf w' hq h5=>?_)
 ·have HG:=qh (aX.o dD v' w' hq ((h5.unpack (i:=0) rfl).pick [1,0]));clear hq h5;go_wp2_with fail;go_end0;exact HG.o
 ·exact⟨rfl,aB.o f w' hq ((h5.unpack (i:=0) rfl).pick [0])⟩
theorem Dh{p:Nat}{ids:List Nat}{cs:List (Nat×ez)}(hC:gI wB nv tv bb main ids cs)(zG:ids.length<=1000000)
  {frs:List Frm} {v:Vg} {c:Nat} {w:World} {Fr:As} (hF:gR wB Fr) {xb yb:Nat} {la:Option Addr} {lc:Nat} (bm:wB.ownsRow 0 3 1 (.slice la ids.length lc) ids.length (ids.map aO))
  (H:Sat wB w [ah [Fr,av xb (az ⟨26,0,0,0,ids,⟨#[]⟩,0,-1,p⟩ (.slice la ids.length lc)),av yb (.cells #[.pointer (some ⟨bb,0,none⟩)] 142 (0,0))],pG bb nv tv main c frs v]) (hc:c+dq cs<=100000) {R:EW}
  (aH:∀dD v' w',dI (cs.map Prod.snd) frs v=.ok (dD,v')->Sat wB w' [ah [Fr,av xb (az ⟨26,0,0,0,ids,⟨#[]⟩,0,-1,p⟩ (.slice la ids.length lc)),av yb (.cells #[.pointer (some ⟨bb,0,none⟩)] 142 (0,0))],pG bb nv tv main (c+dq cs) dD v']->R (.returned (.tuple #[])) w')
  (au:∀f w',dI (cs.map Prod.snd) frs v=.error f->Sat wB w' [ah [Fr,av xb (az ⟨26,0,0,0,ids,⟨#[]⟩,0,-1,p⟩ (.slice la ids.length lc)),av yb (.cells #[.pointer (some ⟨bb,0,none⟩)] 142 (0,0))]]->R (.panicked (aI f)) w'):
  Calls prog 218 #[.pointer (some ⟨yb,0,none⟩),.pointer (some ⟨xb,0,none⟩)] w R:=by
 have hu:=H.unpack (i:=0) rfl;have y0:=hu.cell 3 rfl 0 rfl;have x4:=hu.cell 2 rfl 4 rfl;dsimp only at y0 x4;have aX:=qh aH;have aB:=qh au;have H1:=qh H;have du:=qh bm;have cC:=qh (hF.ah (M:=[av xb (az ⟨26,0,0,0,ids,⟨#[]⟩,0,-1,p⟩ (.slice la ids.length lc)),av yb (.cells #[.pointer (some ⟨bb,0,none⟩)] 142 (0,0))]));clear aH au H bm hu hF;go_in;go_wp2_with fail;refine oB cC.o hC.1 hC.2 (λw1 L i hs hi=>ay du.o (cC.o w1 L i hs hi)) zG H1.o hc (λiK v2 w8 kR h9=>?_) (λf w8 kR h9=>⟨rfl,aB.o f w8 kR h9⟩);have HG:=qh (aX.o iK v2 w8 kR h9);clear kR h9;go_wp2_with fail;go_end0;exact HG.o
theorem Ga(hP:PB wB nv tv pg){id p:Nat}{ids:List Nat}(hn:pg.ns[id]?=some {Ty.af 26 p with list:=ids}){cs:List (Nat×ez)}(hC:gI wB nv tv bb main ids cs)(lR:UL cs)(zG:ids.length<=1000000)(owner:Nat):iM wB nv tv bb main id (dq cs+1) (DX cs owner):=by
 intro frs v c w Fr hF H hc R aH au;have aX:=qh aH;have aB:=qh au;have HF:=qh hF;have h1:=H.aj (.cells #[.pointer (some ⟨bb,0,none⟩)] 142) w.heap.size;obtain⟨nw,nc,v7,we,oS,h2⟩:=(h1.at 1 rfl).iw;obtain⟨sv,ov,wb,cb,ms,gS,h3⟩:=h2.gF;have k0:=h3.cell 1 rfl 0 rfl;have gQ:=h3.lt 1 rfl
 (try dsimp only at k0)
 have H1:=qh h1;clear aH au hF H h1 h2 h3 gS v7 we;go_enter func132,ntmps132;go_wp2_with fail;refine dA hP (HF.o _ _ 0 H1.o rfl) hn k0 gQ (λlv w2 aD cu=>?_);obtain⟨la,lc,rfl⟩:=ag cu;unfold aG
 (try dsimp only[Ty.af])
 (try dsimp only[Ty.af]at cu)
 have h3:=(H1.o.below aD).aj (az ⟨26,0,0,0,ids,⟨#[]⟩,0,-1,p⟩ (.slice la ids.length lc)) w2.heap.size;have y0:=(H1.o.below aD).cell 2 rfl 0 rfl;have hy:=(H1.o.below aD).lt 2 rfl;have x0:=h3.cell 3 rfl 0 rfl;have H4:=qh ((Sat.pack (L:=[_]) (M:=[Fr,av w2.heap.size (az ⟨26,0,0,0,ids,⟨#[]⟩,0,-1,p⟩ (.slice la ids.length lc)),av w.heap.size (.cells #[.pointer (some ⟨bb,0,none⟩)] 142 (0,0))]) (h3.pick [1,0,3,2])).pick [1,0]);have cC:=qh (HF.o.ah (M:=[av w2.heap.size (az ⟨26,0,0,0,ids,⟨#[]⟩,0,-1,p⟩ (.slice la ids.length lc)),av w.heap.size (.cells #[.pointer (some ⟨bb,0,none⟩)] 142 (0,0))]));have iL:=qh cu;clear h3 aD cu H1 k0 gQ;go_wp2_with fail;obtain⟨fr,l,rfl⟩:∃fr l,frs=fr::l:=by
  cases frs with
  |nil=>exact absurd rfl oS.ne
  |cons fr l=>exact⟨fr,l,rfl⟩
 obtain⟨zk,lu,_,_,PD,h5⟩:=H4.o.iw;obtain⟨ab1,sH,abu,X_,Yp,EV,Gg,h6⟩:=h5.yA;have B4:EV.length<=1000000:=by have:=PD.len;have:=congrArg List.length Gg;simp at*;omega
 obtain⟨g,cap,rfl,hg,d0,d1⟩:=uP (h6.drew.row 2 rfl);have c3:=h6.drew.cell 1 rfl 3 rfl;have gQ:=h6.drew.lt 1 rfl;have f1:=uN Yp fr.of;have Ii:∀(fn:Fn)(first cap:Array Value)(w:World),(Instr.makeFunc fn first cap).run prog w=.ok (.func fn first cap) w:=λ_ _ _ _=>rfl
 have Kd:=qh (PD.Ot fr (by simp));clear h5 h6 Gg oS PD
 go_region_held (λw'=>w'.cell? ⟨w.heap.size,0,none⟩=some (.pointer (some ⟨bb,0,none⟩))) (first|go_keep|exact s1|exact s2)
  (first
   |(go_at_call 217;refine qu c3 d0 d1 gQ hg B4 (λw5 dM=>?_);have h8:=H4.o.drew.below dM;have s1:=(h8.unpack (i:=0) rfl).cell 3 rfl 0 rfl;(try dsimp only at s1);have H8:=qh h8;clear dM h8)
   |(go_at_call 80;refine D6 218 _ Tryz.call218 owner (dq cs) Kd.o H8.o (by omega) (m:=dI (cs.map Prod.snd) (⟨[],owner,fr.of⟩::fr::l) v) (λdD v' hm=>lR _ _ _ _ _ hm) (λw5 h5 R' Dx uM=>Dh hC zG HF.o iL.o h5 (by omega) Dx uM) (λdD v' w6 hm h5=>?_) (λf w6 hm h5=>⟨rfl,aB.o f w6 (by unfold DX;rw[show dI (cs.map Prod.snd) (⟨[],owner,oV (fr::l)⟩::fr::l) v= _ from hm];rfl) ((h5.unpack (i:=0) rfl).pick [0])⟩);have AE:=h5.unpack (i:=0) rfl;have s2:=AE.cell 3 rfl 0 rfl;(try dsimp only at s2);have HG:=qh (aX.o (fr::l) v' w6 (by unfold DX;rw[show dI (cs.map Prod.snd) (⟨[],owner,oV (fr::l)⟩::fr::l) v= _ from hm];rfl) (by rw[show c+(dq cs+1)=c+1+dq cs by omega];exact AE.pick [1,0]));clear hm h5 AE))
 all_goals
  go_wp2_with fail;go_end0;exact HG.o
theorem L4(hP:PB wB nv tv pg){id p a b:Nat}(hn:pg.ns[id]?=some {Ty.af 22 p with a:=a,b:=b,c:= -1}){ka kb:Nat}{Fa Fb:ez}(Ca:iM wB nv tv bb main a ka Fa)(Cb:iM wB nv tv bb main b kb Fb):iM wB nv tv bb main id (ka+kb) (dI [Fa,Fb]):=by
 intro frs v c w Fr hF H hc R aH au;have aX:=qh aH;have aB:=qh au;have HF:=qh hF;have h1:=H.aj (.cells #[.pointer (some ⟨bb,0,none⟩)] 142) w.heap.size;obtain⟨nw,nc,v7,we,oS,h2⟩:=(h1.at 1 rfl).iw;obtain⟨sv,ov,wb,cb,ms,gS,h3⟩:=h2.gF;have k0:=h3.cell 1 rfl 0 rfl;have gQ:=h3.lt 1 rfl
 (try dsimp only at k0)
 have H1:=qh h1;clear aH au hF H h1 h2 h3 gS v7 we oS;go_enter func132,ntmps132;go_wp2_with fail;refine dA hP (HF.o _ _ 0 H1.o rfl) hn k0 gQ (λlv w2 aD cu=>?_);obtain⟨la,lc,rfl⟩:=ag cu;unfold aG
 (try dsimp only[Ty.af])
 (try dsimp only[Ty.af]at cu)
 have h3:=(H1.o.below aD).aj (az ⟨22,a,b,-1,[],⟨#[]⟩,0,-1,p⟩ (.slice la 0 lc)) w2.heap.size;have y0:=(H1.o.below aD).cell 2 rfl 0 rfl;have hy:=(H1.o.below aD).lt 2 rfl;have x0:=h3.cell 3 rfl 0 rfl;have x1:=h3.cell 3 rfl 1 rfl;have x2:=h3.cell 3 rfl 2 rfl;have H4:=qh ((Sat.pack (L:=[_]) (M:=[Fr,av w2.heap.size (az ⟨22,a,b,-1,[],⟨#[]⟩,0,-1,p⟩ (.slice la 0 lc)),av w.heap.size (.cells #[.pointer (some ⟨bb,0,none⟩)] 142 (0,0))]) (h3.pick [1,0,3,2])).pick [1,0]);have cC:=qh (HF.o.ah (M:=[av w2.heap.size (az ⟨22,a,b,-1,[],⟨#[]⟩,0,-1,p⟩ (.slice la 0 lc)),av w.heap.size (.cells #[.pointer (some ⟨bb,0,none⟩)] 142 (0,0))]));have iL:=qh cu;clear h3 aD cu H1 k0 gQ;go_wp2_with fail;have h5:=(H4.o.unpack (i:=0) rfl).aj (.cells #[.int .i64 (a:Nat),.int .i64 (b:Nat)] 3) (w2.heap.size+1) (by simp);have h6:=h5.cL (i:=4) rfl (Q:=eY (.slice (some ⟨w2.heap.size+1,0,none⟩) 2 2) [a,b]) (λ_ h=>bn h rfl (by simp[maxLen]) (by simp[aO]));have Jf:=qh (HF.o.ah (M:=[av w2.heap.size (az ⟨22,a,b,-1,[],⟨#[]⟩,0,-1,p⟩ (.slice la 0 lc)),av w.heap.size (.cells #[.pointer (some ⟨bb,0,none⟩)] 142 (0,0)),eY (.slice (some ⟨w2.heap.size+1,0,none⟩) 2 2) [a,b]]));have H6:=qh ((Sat.pack (L:=[_]) (M:=[Fr,av w2.heap.size (az ⟨22,a,b,-1,[],⟨#[]⟩,0,-1,p⟩ (.slice la 0 lc)),av w.heap.size (.cells #[.pointer (some ⟨bb,0,none⟩)] 142 (0,0)),eY (.slice (some ⟨w2.heap.size+1,0,none⟩) 2 2) [a,b]]) h6).pick [1,0]);clear h5 h6 H4;refine oB (ids:=[a,b]) (cs:=[(ka,Fa),(kb,Fb)]) Jf.o rfl (λj h1 h2=>?_) (λw1 L i hs hi=>?_) (by simp) H6.o (by simp only[dq,List.map_cons,List.map_nil,List.foldr_cons,List.foldr_nil];omega) (λiK v2 w8 kR h9=>?_) (λf w8 kR h9=>?_)
 ·match j with
  |0=>exact Ca
  |1=>exact Cb
  |j+2=>exact absurd h1 (by simp only[List.length_cons,List.length_nil];omega)
 ·have h1:=hs.unpack hi;exact h1.row ((L.eraseIdx i).length+3) (by rw[List.getElem?_append_right (by omega),show(L.eraseIdx i).length+3-(L.eraseIdx i).length=3 by omega];rfl)
 ·have AE:=h9.unpack (i:=0) rfl;have y0:=AE.cell 3 rfl 0 rfl;have x3:=AE.cell 2 rfl 3 rfl;dsimp only at y0 x3;have HQ:=qh kR;have HG:=qh (aX.o iK v2 w8 HQ.o (by have mO:=AE.pick [1,0];simp only[dq,List.map_cons,List.map_nil,List.foldr_cons,List.foldr_nil]at mO;exact mO));clear kR h9 AE;go_wp2_with fail;go_end0;exact HG.o
 ·exact⟨rfl,aB.o f w8 kR ((h9.unpack (i:=0) rfl).pick [0])⟩
theorem Mg(hP:PB wB nv tv pg){id p a b d:Nat}(hn:pg.ns[id]?=some {Ty.af 22 p with a:=a,b:=b,c:=((d:Nat):Int)}){ka kb:Nat}{Fa Fb:ez}(Ca:iM wB nv tv bb main a ka Fa)(Cb:iM wB nv tv bb main b kb Fb){kd:Nat}{Fd:ez}(Cd:iM wB nv tv bb main d kd Fd):iM wB nv tv bb main id (ka+kb+kd) (dI [Fa,Fb,Fd]):=by
 intro frs v c w Fr hF H hc R aH au;have aX:=qh aH;have aB:=qh au;have HF:=qh hF;have h1:=H.aj (.cells #[.pointer (some ⟨bb,0,none⟩)] 142) w.heap.size;obtain⟨nw,nc,v7,we,oS,h2⟩:=(h1.at 1 rfl).iw;obtain⟨sv,ov,wb,cb,ms,gS,h3⟩:=h2.gF;have k0:=h3.cell 1 rfl 0 rfl;have gQ:=h3.lt 1 rfl
 (try dsimp only at k0)
 have H1:=qh h1;clear aH au hF H h1 h2 h3 gS v7 we oS;go_enter func132,ntmps132;go_wp2_with fail;refine dA hP (HF.o _ _ 0 H1.o rfl) hn k0 gQ (λlv w2 aD cu=>?_);obtain⟨la,lc,rfl⟩:=ag cu;unfold aG
 (try dsimp only[Ty.af])
 (try dsimp only[Ty.af]at cu)
 have h3:=(H1.o.below aD).aj (az ⟨22,a,b,((d:Nat):Int),[],⟨#[]⟩,0,-1,p⟩ (.slice la 0 lc)) w2.heap.size;have y0:=(H1.o.below aD).cell 2 rfl 0 rfl;have hy:=(H1.o.below aD).lt 2 rfl;have x0:=h3.cell 3 rfl 0 rfl;have x1:=h3.cell 3 rfl 1 rfl;have x2:=h3.cell 3 rfl 2 rfl;have H4:=qh ((Sat.pack (L:=[_]) (M:=[Fr,av w2.heap.size (az ⟨22,a,b,((d:Nat):Int),[],⟨#[]⟩,0,-1,p⟩ (.slice la 0 lc)),av w.heap.size (.cells #[.pointer (some ⟨bb,0,none⟩)] 142 (0,0))]) (h3.pick [1,0,3,2])).pick [1,0]);have cC:=qh (HF.o.ah (M:=[av w2.heap.size (az ⟨22,a,b,((d:Nat):Int),[],⟨#[]⟩,0,-1,p⟩ (.slice la 0 lc)),av w.heap.size (.cells #[.pointer (some ⟨bb,0,none⟩)] 142 (0,0))]));have iL:=qh cu;clear h3 aD cu H1 k0 gQ;go_wp2_with fail;have h5:=(H4.o.unpack (i:=0) rfl).aj (.cells #[.int .i64 (a:Nat),.int .i64 (b:Nat)] 3) (w2.heap.size+1) (by simp);have h6:=h5.cL (i:=4) rfl (Q:=eY (.slice (some ⟨w2.heap.size+1,0,none⟩) 2 2) [a,b]) (λ_ h=>bn h rfl (by simp[maxLen]) (by simp[aO]));have Jf:=qh (HF.o.ah (M:=[av w2.heap.size (az ⟨22,a,b,((d:Nat):Int),[],⟨#[]⟩,0,-1,p⟩ (.slice la 0 lc)),av w.heap.size (.cells #[.pointer (some ⟨bb,0,none⟩)] 142 (0,0)),eY (.slice (some ⟨w2.heap.size+1,0,none⟩) 2 2) [a,b]]));have H6:=qh ((Sat.pack (L:=[_]) (M:=[Fr,av w2.heap.size (az ⟨22,a,b,((d:Nat):Int),[],⟨#[]⟩,0,-1,p⟩ (.slice la 0 lc)),av w.heap.size (.cells #[.pointer (some ⟨bb,0,none⟩)] 142 (0,0)),eY (.slice (some ⟨w2.heap.size+1,0,none⟩) 2 2) [a,b]]) h6).pick [1,0]);clear h5 h6 H4;refine oB (ids:=[a,b]) (cs:=[(ka,Fa),(kb,Fb)]) Jf.o rfl (λj h1 h2=>?_) (λw1 L i hs hi=>?_) (by simp) H6.o (by simp only[dq,List.map_cons,List.map_nil,List.foldr_cons,List.foldr_nil];omega) (λiK v2 w8 kR h9=>?_) (λf w8 kR h9=>?_)
 ·match j with
  |0=>exact Ca
  |1=>exact Cb
  |j+2=>exact absurd h1 (by simp only[List.length_cons,List.length_nil];omega)
 ·have h1:=hs.unpack hi;exact h1.row ((L.eraseIdx i).length+3) (by rw[List.getElem?_append_right (by omega),show(L.eraseIdx i).length+3-(L.eraseIdx i).length=3 by omega];rfl)
 ·have AE:=h9.unpack (i:=0) rfl;have y0:=AE.cell 3 rfl 0 rfl;have x3:=AE.cell 2 rfl 3 rfl;dsimp only at y0 x3;have HQ:=qh kR;have dG:=(Sat.pack (L:=[_]) (M:=[Fr,av w2.heap.size (az ⟨22,a,b,((d:Nat):Int),[],⟨#[]⟩,0,-1,p⟩ (.slice la 0 lc)),av w.heap.size (.cells #[.pointer (some ⟨bb,0,none⟩)] 142 (0,0))]) (AE.pick [0,1,2,3])).pick [1,0];have pL:=qh dG;clear kR h9 AE dG;go_wp2_with fail;refine Cd _ _ _ w8 _ cC.o pL.o (by simp only[dq,List.map_cons,List.map_nil,List.foldr_cons,List.foldr_nil];omega) _ (λdD v3 w9 Nu jE=>?_) (λf w9 Nu jE=>?_)
  ·have HG:=qh (aX.o dD v3 w9 (by have je:=HQ.o;rw[show [Fa,Fb,Fd]=[Fa,Fb]++[Fd]from rfl,lC];rw[show dI [Fa,Fb] frs v= _ from je];exact Nu) (by have mO:=(jE.unpack (i:=0) rfl).pick [1,0];simp only[dq,List.map_cons,List.map_nil,List.foldr_cons,List.foldr_nil]at mO;rw[show c+(ka+kb+kd)=c+(ka+(kb+0))+kd by omega];exact mO));clear Nu jE;go_wp2_with fail;go_end0;exact HG.o
  ·exact⟨rfl,aB.o f w9 (by have je:=HQ.o;rw[show [Fa,Fb,Fd]=[Fa,Fb]++[Fd]from rfl,lC];rw[show dI [Fa,Fb] frs v= _ from je];exact Nu) ((jE.unpack (i:=0) rfl).pick [0])⟩
 ·exact⟨rfl,aB.o f w8 (by rw[show [Fa,Fb,Fd]=[Fa,Fb]++[Fd]from rfl,lC];rw[show dI [Fa,Fb] frs v= _ from kR];rfl) ((h9.unpack (i:=0) rfl).pick [0])⟩
theorem G5(hP:PB wB nv tv pg){id:Nat}{nd:Nd}(hn:pg.ns[id]?=some nd){cs:List (Nat×ez)}(hC:gI wB nv tv bb main (aA nd) cs)(hk:nd.kind≠5/\nd.kind≠6/\nd.kind≠16/\nd.kind≠17/\nd.kind≠18/\nd.kind≠22/\nd.kind≠26)(wY:1<=nd.kind/\nd.kind<=26)(zo:nd.kind=20->0<=nd.c)(BZ:nd.list.length<=900000):iM wB nv tv bb main id (dq cs) (dI (cs.map Prod.snd)):=by
 intro frs v c w Fr hF H hc R aH au;have Oe: (aA nd).length<=900003:=by have:=jr nd;omega
 have aX:=qh aH;have aB:=qh au;have HF:=qh hF;have h1:=H.aj (.cells #[.pointer (some ⟨bb,0,none⟩)] 142) w.heap.size;obtain⟨nw,nc,v7,we,oS,h2⟩:=(h1.at 1 rfl).iw;obtain⟨sv,ov,wb,cb,ms,gS,h3⟩:=h2.gF;have k0:=h3.cell 1 rfl 0 rfl;have gQ:=h3.lt 1 rfl
 (try dsimp only at k0)
 have H1:=qh h1;clear aH au hF H h1 h2 h3 gS v7 we oS;have k5: ((nd.kind:Int)==5)=false:=beq_eq_false_iff_ne.2 (by omega);have k6: ((nd.kind:Int)==6)=false:=beq_eq_false_iff_ne.2 (by omega);have Zk: ((nd.kind:Int)==17)=false:=beq_eq_false_iff_ne.2 (by omega);have ac8: ((nd.kind:Int)==18)=false:=beq_eq_false_iff_ne.2 (by omega);have RZ: ((nd.kind:Int)==22)=false:=beq_eq_false_iff_ne.2 (by omega);have Rw: ((nd.kind:Int)==26)=false:=beq_eq_false_iff_ne.2 (by omega);go_enter func132,ntmps132;go_wp2_with fail;refine dA hP (HF.o _ _ 0 H1.o rfl) hn k0 gQ (λlv w2 aD cu=>?_);obtain⟨la,lc,rfl⟩:=ag cu;unfold aG
 (try dsimp only[Ty.af])
 (try dsimp only[Ty.af]at cu)
 have h3:=(H1.o.below aD).aj (az nd (.slice la nd.list.length lc)) w2.heap.size;have y0:=(H1.o.below aD).cell 2 rfl 0 rfl;have hy:=(H1.o.below aD).lt 2 rfl;have x0:=h3.cell 3 rfl 0 rfl;have H4:=qh ((Sat.pack (L:=[_]) (M:=[Fr,av w2.heap.size (az nd (.slice la nd.list.length lc)),av w.heap.size (.cells #[.pointer (some ⟨bb,0,none⟩)] 142 (0,0))]) (h3.pick [1,0,3,2])).pick [1,0]);have cC:=qh (HF.o.ah (M:=[av w2.heap.size (az nd (.slice la nd.list.length lc)),av w.heap.size (.cells #[.pointer (some ⟨bb,0,none⟩)] 142 (0,0))]));have iL:=qh cu;clear h3 aD cu H1 k0 gQ;go_wp2_with fail;have mJ:=qh (λ(w3:World)(dF:Below wB.heap.size wB w3) R hR=>rZ (w:=w3) (nd:=nd) (lv:=.slice la nd.list.length lc) (R:=R) hk wY zo (ay iL.o dF) (by omega) hR)
 go_region_with (first
  |(go_at_call 157;refine mJ.o _ (cC.o _ _ 0 H4.o.drew rfl) _ (λv3 w3 h3=>?_);have h5:=H4.o.drew.join h3;have bm:=jN h5 2 rfl (ay iL.o (cC.o w3 _ 0 h5 rfl));obtain⟨va,vc,rfl⟩:=ag bm;have y0:=(h5.unpack (i:=0) rfl).cell 4 rfl 0 rfl;(try dsimp only at y0);have H5:=qh ((Sat.pack (L:=[_]) (M:=[ah [Fr,av w2.heap.size (az nd (.slice la nd.list.length lc)),av w.heap.size (.cells #[.pointer (some ⟨bb,0,none⟩)] 142 (0,0))],jo nd (.slice la nd.list.length lc) (.slice va (aA nd).length vc) (aA nd)]) (h5.pick [1,0,2])).pick [1,0]);clear h3 h5 bm)
  |(go_at_call 82;(refine oB cC.o.ah hC.1 hC.2 (λw1 L i hs hi=>?_) (by omega) H5.o hc (λiK v2 w8 kR h9=>?_) (λf w8 kR h9=>⟨rfl,aB.o f w8 kR (((h9.unpack (i:=0) rfl).pick [0]).unpack (i:=0) rfl|>.pick [0])⟩));(have h1:=hs.unpack hi;exact jN h1 ((L.eraseIdx i).length+1) (by rw[List.getElem?_append_right (by omega),show(L.eraseIdx i).length+1-(L.eraseIdx i).length=1 by omega];rfl) (ay iL.o (cC.o w1 _ (L.eraseIdx i).length h1 (by rw[List.getElem?_append_right (by omega),Nat.sub_self];rfl))));have HG:=qh (aX.o iK v2 w8 kR (((h9.unpack (i:=0) rfl).pick [1,0]).unpack (i:=0) rfl|>.pick [1,0]));clear kR h9))
 all_goals
  go_wp2_with fail;go_end0;exact HG.o
end
end
end Go.Proofs.YtdlbhiaceheffabGreatDoor
