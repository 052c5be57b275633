/- Walk of bind: visit, at each kind of node. (Printed by gen_nd1.py.) -/
import Derived.Test.YtdlbhiaceheffabGreatDoorC30
set_option linter.all false
set_option maxRecDepth 100000
set_option maxHeartbeats 4000000
namespace Go.Proofs.YtdlbhiaceheffabGreatDoor
open Go Go.RowKit Ty Tok Prt Tryz Proofs.Tryz
section
open Ty (Frm Vg aK kZ)
def O9(p:Nat)(x:BA)(id:Nat)(G:eW):eW:=λfrs v=>aK (kZ p x id true frs v) λv=>G frs v
theorem Ty.cu(p:Nat×eW)(l:List (Nat×eW)):dy (p::l)=p.1+dy l:=rfl
theorem Ty.iY(F:eW)(frs:List Frm)(v:Vg):dP [F] frs v=F frs v:=by
 show aK (F frs v) (λr=>.ok (r.1,r.2))=F frs v;cases F frs v<;>rfl
section
variable {wB:World} {nv tv:Value} {pg:Ty.Pg} {bb:Nat} {main:Int}
theorem Rh(hP:PB wB nv tv pg){id p:Nat}{x:BA}(hn:pg.ns[id]?=some {Ty.af 5 p with text:=x}):jg wB nv tv bb main id (1) (λfrs v=>aK (kZ p x id false frs v) λv=>.ok (frs,v)):=by
 intro frs v c w Fr hF H hc R aD au;have h1:=H.ar (.cells #[.pointer (some ⟨bb,0,none⟩)] 142) w.heap.size;obtain⟨nw,nc,IJ,D6,uN,h2⟩:=(h1.at 1 rfl).iW;obtain⟨sv,ov,wb,cb,ms,jE,h3⟩:=h2.ie;have k0:=h3.cell 1 0;have fF:=h3.lt 1
 (try dsimp only at k0)
 go_enter func132,ntmps132;go_wp2_with fail;refine dA hP (hF _ _ 0 h1 rfl) hn k0 fF (λlv w2 aW gR=>?_);obtain⟨la,lc,rfl⟩:=ag gR;unfold aH
 (try dsimp only[Ty.af])
 (try dsimp only[Ty.af]at gR)
 have h3:=(h1.below aW).ar (cz ⟨5,0,0,0,[],x,0,-1,p⟩ (.slice la 0 lc)) w2.heap.size;have y0:=(h1.below aW).cell 2 0;have hy:=(h1.below aW).lt 2;have H4:=qh ((Sat.pack (L:=[_]) (M:=[Fr,ax w2.heap.size (cz ⟨5,0,0,0,[],x,0,-1,p⟩ (.slice la 0 lc)),ax w.heap.size (.cells #[.pointer (some ⟨bb,0,none⟩)] 142 (0,0))]) (h3.pick [1,0,3,2])).pick [1,0]);have lM:=qh (hF.aq (M:=[ax w2.heap.size (cz ⟨5,0,0,0,[],x,0,-1,p⟩ (.slice la 0 lc)),ax w.heap.size (.cells #[.pointer (some ⟨bb,0,none⟩)] 142 (0,0))]));go_wp2_with fail;refine GF hP hn false lM.o H4.o hc (λv' w' hq h5=>?_) (λf w' hq h5=>?_)
 ·have HG:=qh (aD frs v' w' (by show aK _ _= _;rw[show kZ p x id false frs v= _ from hq];rfl) ((h5.unpack 0 rfl).pick [1,0]));go_wp2;go_end0;exact HG.o
 ·exact⟨rfl,au f w' (by show aK _ _= _;rw[show kZ p x id false frs v= _ from hq];rfl) ((h5.unpack 0 rfl).pick [0])⟩
theorem P9(hP:PB wB nv tv pg){id p b:Nat}{x:BA}(hn:pg.ns[id]?=some {Ty.af 18 p with text:=x,a:=b}){k:Nat}{G:eW}(C:jg wB nv tv bb main b k G):jg wB nv tv bb main id (k+1) (O9 p x id G):=by
 intro frs v c w Fr hF H hc R aD au;have h1:=H.ar (.cells #[.pointer (some ⟨bb,0,none⟩)] 142) w.heap.size;obtain⟨nw,nc,IJ,D6,uN,h2⟩:=(h1.at 1 rfl).iW;obtain⟨sv,ov,wb,cb,ms,jE,h3⟩:=h2.ie;have k0:=h3.cell 1 0;have fF:=h3.lt 1
 (try dsimp only at k0)
 go_enter func132,ntmps132;go_wp2_with fail;refine dA hP (hF _ _ 0 h1 rfl) hn k0 fF (λlv w2 aW gR=>?_);obtain⟨la,lc,rfl⟩:=ag gR;unfold aH
 (try dsimp only[Ty.af])
 (try dsimp only[Ty.af]at gR)
 have h3:=(h1.below aW).ar (cz ⟨18,b,0,0,[],x,0,-1,p⟩ (.slice la 0 lc)) w2.heap.size;have y0:=(h1.below aW).cell 2 0;have hy:=(h1.below aW).lt 2;have H4:=qh ((Sat.pack (L:=[_]) (M:=[Fr,ax w2.heap.size (cz ⟨18,b,0,0,[],x,0,-1,p⟩ (.slice la 0 lc)),ax w.heap.size (.cells #[.pointer (some ⟨bb,0,none⟩)] 142 (0,0))]) (h3.pick [1,0,3,2])).pick [1,0]);have lM:=qh (hF.aq (M:=[ax w2.heap.size (cz ⟨18,b,0,0,[],x,0,-1,p⟩ (.slice la 0 lc)),ax w.heap.size (.cells #[.pointer (some ⟨bb,0,none⟩)] 142 (0,0))]));go_wp2_with fail;refine GF hP hn true lM.o H4.o (by omega) (λv' w' hq h5=>?_) (λf w' hq h5=>?_)
 ·have hu:=h5.unpack 0 rfl;have y0:=hu.cell 3 0;have x1:=hu.cell 2 1;dsimp only at y0 x1;have HQ:=qh (show kZ p x id true frs v= _ from hq);go_wp2_with fail;refine C _ _ _ w' _ lM.o h5 (by omega) _ (λdG v2 w8 nI h9=>?_) (λf w8 nI h9=>?_)
  ·have HG:=qh (aD dG v2 w8 (by unfold O9;rw[HQ.o];exact nI) (by rw[show c+(k+1)=c+1+k by omega];exact(h9.unpack 0 rfl).pick [1,0]));go_wp2;go_end0;exact HG.o
  ·exact⟨rfl,au f w8 (by unfold O9;rw[HQ.o];exact nI) ((h9.unpack 0 rfl).pick [0])⟩
 ·exact⟨rfl,au f w' (by unfold O9;rw[show kZ p x id true frs v= _ from hq];rfl) ((h5.unpack 0 rfl).pick [0])⟩
theorem Qb(hP:PB wB nv tv pg){id p b:Nat}{x:BA}{ty:Int}(hn:pg.ns[id]?=some {Ty.af 17 p with text:=x,ty:=ty,a:=b}){nb:Nd}(Rl:pg.ns[b]?=some nb){fn:Bool}(qN: (((nb.kind:Nat):Int)==6)=fn){k:Nat}{G:eW}(C:jg wB nv tv bb main b k G):jg wB nv tv bb main id (k+1) (Bd p x id fn G):=by
 intro frs v c w Fr hF H hc R aD au;obtain⟨_,_,_,_,WU,_,_,_,_,_,RF,hN⟩:=hP.look hn;have hx:x.size<=maxLen:=by have:=RF.size;simp only[Ty.af]at this;unfold maxLen;omega
 have h1:=H.ar (.cells #[.pointer (some ⟨bb,0,none⟩)] 142) w.heap.size;obtain⟨nw,nc,IJ,D6,uN,h2⟩:=(h1.at 1 rfl).iW;obtain⟨sv,ov,wb,cb,ms,jE,h3⟩:=h2.ie;have k0:=h3.cell 1 0;have fF:=h3.lt 1
 (try dsimp only at k0)
 go_enter func132,ntmps132;go_wp2_with fail;refine dA hP (hF _ _ 0 h1 rfl) hn k0 fF (λlv w2 aW gR=>?_);obtain⟨la,lc,rfl⟩:=ag gR;unfold aH
 (try dsimp only[Ty.af])
 (try dsimp only[Ty.af]at gR)
 have h3:=(h1.below aW).ar (cz ⟨17,b,0,0,[],x,0,ty,p⟩ (.slice la 0 lc)) w2.heap.size;have y0:=(h1.below aW).cell 2 0;have hy:=(h1.below aW).lt 2;have H4:=qh ((Sat.pack (L:=[_]) (M:=[Fr,ax w2.heap.size (cz ⟨17,b,0,0,[],x,0,ty,p⟩ (.slice la 0 lc)),ax w.heap.size (.cells #[.pointer (some ⟨bb,0,none⟩)] 142 (0,0))]) (h3.pick [1,0,3,2])).pick [1,0]);have lM:=qh (hF.aq (M:=[ax w2.heap.size (cz ⟨17,b,0,0,[],x,0,ty,p⟩ (.slice la 0 lc)),ax w.heap.size (.cells #[.pointer (some ⟨bb,0,none⟩)] 142 (0,0))]));go_wp2_with fail;refine QJ hP hn hx Rl qN C lM.o H4.o hc (λdG v' w' hq h5=>?_) (λf w' hq h5=>?_)
 ·have HG:=qh (aD dG v' w' hq ((h5.unpack 0 rfl).pick [1,0]));go_wp2;go_end0;exact HG.o
 ·exact⟨rfl,au f w' hq ((h5.unpack 0 rfl).pick [0])⟩
theorem Ta(hP:PB wB nv tv pg){id p b bp:Nat}{ty:Int}{eI ids:List Nat}(hn:pg.ns[id]?=some {Ty.af 6 p with list:=eI,ty:=ty,a:=b})(Rl:pg.ns[b]?=some {Ty.af 26 bp with list:=ids}){ps:List (BA×Nat)}(kp:eI.length=ps.length/\∀i(h1:i<eI.length)(h2:i<ps.length),∃q ty,pg.ns[eI[i]]?=some {Ty.af 16 q with text:=ps[i].1,ty:=ty}/\ps[i].2=eI[i]/\ps[i].1.size<=maxLen){cs:List (Nat×eW)}(hC:ib wB nv tv bb main ids cs)(kG:Yn cs)(CK:ids.length<=1000000)(VK:eI.length<=1000000):jg wB nv tv bb main id (1+ps.length+dy cs) (MJ cs ps id):=by
 intro frs v c w Fr hF H hc R aD au;have RI:=qh kp;clear kp;have fL:=qh aD;have bX:=qh au;have HF:=qh hF;have h1:=H.ar (.cells #[.pointer (some ⟨bb,0,none⟩)] 142) w.heap.size;obtain⟨nw,nc,IJ,D6,uN,h2⟩:=(h1.at 1 rfl).iW;obtain⟨sv,ov,wb,cb,ms,jE,h3⟩:=h2.ie;have k0:=h3.cell 1 0;have fF:=h3.lt 1
 (try dsimp only at k0)
 have H1:=qh h1;clear aD au hF H h1 h2 h3 jE IJ D6 uN;go_enter func132,ntmps132;go_wp2_with fail;refine dA hP (HF.o _ _ 0 H1.o rfl) hn k0 fF (λlv w2 aW gR=>?_);obtain⟨la,lc,rfl⟩:=ag gR;unfold aH
 (try dsimp only[Ty.af])
 (try dsimp only[Ty.af]at gR)
 have h3:=(H1.o.below aW).ar (cz ⟨6,b,0,0,eI,⟨#[]⟩,0,ty,p⟩ (.slice la eI.length lc)) w2.heap.size;have y0:=(H1.o.below aW).cell 2 0;have hy:=(H1.o.below aW).lt 2;have H4:=qh ((Sat.pack (L:=[_]) (M:=[Fr,ax w2.heap.size (cz ⟨6,b,0,0,eI,⟨#[]⟩,0,ty,p⟩ (.slice la eI.length lc)),ax w.heap.size (.cells #[.pointer (some ⟨bb,0,none⟩)] 142 (0,0))]) (h3.pick [1,0,3,2])).pick [1,0]);have lM:=qh (HF.o.aq (M:=[ax w2.heap.size (cz ⟨6,b,0,0,eI,⟨#[]⟩,0,ty,p⟩ (.slice la eI.length lc)),ax w.heap.size (.cells #[.pointer (some ⟨bb,0,none⟩)] 142 (0,0))]));clear h3 aW gR H1 k0 fF;go_wp2_with fail;refine vw hP hn Rl RI.o hC kG CK VK lM.o H4.o hc (λdG v' w' hq h5=>?_) (λf w' hq h5=>?_)
 ·have HG:=qh (fL.o dG v' w' hq ((h5.unpack 0 rfl).pick [1,0]));clear hq h5;go_wp2_with fail;go_end0;exact HG.o
 ·exact⟨rfl,bX.o f w' hq ((h5.unpack 0 rfl).pick [0])⟩
theorem FC{p:Nat}{ids:List Nat}{cs:List (Nat×eW)}(hC:ib wB nv tv bb main ids cs)(CK:ids.length<=1000000)
  {frs:List Frm} {v:Vg} {c:Nat} {w:World} {Fr:As} (hF:ju wB Fr) {xb yb:Nat} {la:Option Addr} {lc:Nat} (cg:wB.ownsRow 0 3 1 (.slice la ids.length lc) ids.length (ids.map aQ))
  (H:Sat wB w [aq [Fr,ax xb (cz ⟨26,0,0,0,ids,⟨#[]⟩,0,-1,p⟩ (.slice la ids.length lc)),ax yb (.cells #[.pointer (some ⟨bb,0,none⟩)] 142 (0,0))],q_ bb nv tv main c frs v]) (hc:c+dy cs<=100000) {R:EW}
  (aD:∀dG v' w',dP (cs.map Prod.snd) frs v=.ok (dG,v')->Sat wB w' [aq [Fr,ax xb (cz ⟨26,0,0,0,ids,⟨#[]⟩,0,-1,p⟩ (.slice la ids.length lc)),ax yb (.cells #[.pointer (some ⟨bb,0,none⟩)] 142 (0,0))],q_ bb nv tv main (c+dy cs) dG v']->R (.returned (.tuple #[])) w')
  (au:∀f w',dP (cs.map Prod.snd) frs v=.error f->Sat wB w' [aq [Fr,ax xb (cz ⟨26,0,0,0,ids,⟨#[]⟩,0,-1,p⟩ (.slice la ids.length lc)),ax yb (.cells #[.pointer (some ⟨bb,0,none⟩)] 142 (0,0))]]->R (.panicked (aO f)) w'):
  Calls prog 218 #[.pointer (some ⟨yb,0,none⟩),.pointer (some ⟨xb,0,none⟩)] w R:=by
 have hu:=H.unpack 0 rfl;have y0:=hu.cell 3 0;have x4:=hu.cell 2 4;dsimp only at y0 x4;have lM:=qh (hF.aq (M:=[ax xb (cz ⟨26,0,0,0,ids,⟨#[]⟩,0,-1,p⟩ (.slice la ids.length lc)),ax yb (.cells #[.pointer (some ⟨bb,0,none⟩)] 142 (0,0))]));go_in;go_wp2_with fail;refine pW lM.o hC.1 hC.2 (λw1 L i hs hi=>ay cg (lM.o w1 L i hs hi)) CK H hc (λiZ v2 w8 nI h9=>?_) (λf w8 nI h9=>⟨rfl,au f w8 nI h9⟩);have HG:=qh (aD iZ v2 w8 nI h9);go_wp2;go_end0;exact HG.o
theorem Jp(hP:PB wB nv tv pg){id p:Nat}{ids:List Nat}(hn:pg.ns[id]?=some {Ty.af 26 p with list:=ids}){cs:List (Nat×eW)}(hC:ib wB nv tv bb main ids cs)(kG:Yn cs)(CK:ids.length<=1000000)(owner:Nat):jg wB nv tv bb main id (dy cs+1) (Ep cs owner):=by
 intro frs v c w Fr hF H hc R aD au;have h1:=H.ar (.cells #[.pointer (some ⟨bb,0,none⟩)] 142) w.heap.size;obtain⟨nw,nc,IJ,D6,uN,h2⟩:=(h1.at 1 rfl).iW;obtain⟨sv,ov,wb,cb,ms,jE,h3⟩:=h2.ie;have k0:=h3.cell 1 0;have fF:=h3.lt 1
 (try dsimp only at k0)
 go_enter func132,ntmps132;go_wp2_with fail;refine dA hP (hF _ _ 0 h1 rfl) hn k0 fF (λlv w2 aW gR=>?_);obtain⟨la,lc,rfl⟩:=ag gR;unfold aH
 (try dsimp only[Ty.af])
 (try dsimp only[Ty.af]at gR)
 have h3:=(h1.below aW).ar (cz ⟨26,0,0,0,ids,⟨#[]⟩,0,-1,p⟩ (.slice la ids.length lc)) w2.heap.size;have y0:=(h1.below aW).cell 2 0;have H4:=qh ((Sat.pack (L:=[_]) (M:=[Fr,ax w2.heap.size (cz ⟨26,0,0,0,ids,⟨#[]⟩,0,-1,p⟩ (.slice la ids.length lc)),ax w.heap.size (.cells #[.pointer (some ⟨bb,0,none⟩)] 142 (0,0))]) (h3.pick [1,0,3,2])).pick [1,0]);go_wp2_with fail;obtain⟨fr,l,rfl⟩:∃fr l,frs=fr::l:=by
  cases frs with
  |nil=>exact absurd rfl uN.ne
  |cons fr l=>exact⟨fr,l,rfl⟩
 obtain⟨Bm,oz,_,_,X2,h5⟩:=H4.o.iW;obtain⟨agD,xI,ago,abZ,adt,Pu,Qg,h6⟩:=h5.AK;have BQ:Pu.length<=1000000:=by have:=X2.len;have:=congrArg List.length Qg;simp at*;omega
 obtain⟨g,cap,rfl,hg,d0,d1⟩:=wK (h6.drew.row 2);have c3:=h6.drew.cell 1 3;have fF:=h6.drew.lt 1;have f1:=xu adt fr.of;have Vf:=qh (X2.Sd fr (by simp))
 go_region_held (λw'=>w'.cell? ⟨w.heap.size,0,none⟩=some (.pointer (some ⟨bb,0,none⟩))) (first|go_keep|exact s1|exact s2)
  (first
   |(go_at_call 217;refine sx c3 d0 d1 fF hg BQ (λw5 od=>?_);have h8:=H4.o.drew.below od;have s1:=(h8.unpack 0 rfl).cell 3 0;(try dsimp only at s1);have H8:=qh h8;clear od h8)
   |(go_at_call 80;refine G8 218 _ Tryz.call218 owner (dy cs) Vf.o H8.o (by omega) (m:=dP (cs.map Prod.snd) (⟨[],owner,fr.of⟩::fr::l) v) (λdG v' hm=>kG _ _ _ _ _ hm) (λw5 h5 R' EG wX=>FC hC CK hF gR h5 (by omega) EG wX) (λdG v' w6 hm h5=>?_) (λf w6 hm h5=>⟨rfl,au f w6 (by unfold Ep;rw[show dP (cs.map Prod.snd) (⟨[],owner,r8 (fr::l)⟩::fr::l) v= _ from hm];rfl) ((h5.unpack 0 rfl).pick [0])⟩);have EP:=h5.unpack 0 rfl;have s2:=EP.cell 3 0;(try dsimp only at s2);have HG:=qh (aD (fr::l) v' w6 (by unfold Ep;rw[show dP (cs.map Prod.snd) (⟨[],owner,r8 (fr::l)⟩::fr::l) v= _ from hm];rfl) (by rw[show c+(dy cs+1)=c+1+dy cs by omega];exact EP.pick [1,0]));clear hm h5 EP))
 all_goals
  go_wp2;go_end0;exact HG.o
theorem PA(hP:PB wB nv tv pg){id p a b:Nat}(hn:pg.ns[id]?=some {Ty.af 22 p with a:=a,b:=b,c:= -1}){ka kb:Nat}{Fa Fb:eW}(Ca:jg wB nv tv bb main a ka Fa)(Cb:jg wB nv tv bb main b kb Fb):jg wB nv tv bb main id (ka+kb) (dP [Fa,Fb]):=by
 intro frs v c w Fr hF H hc R aD au;have H1:=H.ar (.cells #[.pointer (some ⟨bb,0,none⟩)] 142) w.heap.size;obtain⟨nw,nc,IJ,D6,uN,h2⟩:=(H1.at 1 rfl).iW;obtain⟨sv,ov,wb,cb,ms,jE,h3⟩:=h2.ie;have k0:=h3.cell 1 0;have fF:=h3.lt 1
 (try dsimp only at k0)
 go_enter func132,ntmps132;go_wp2_with fail;refine dA hP (hF _ _ 0 H1 rfl) hn k0 fF (λlv w2 aW gR=>?_);obtain⟨la,lc,rfl⟩:=ag gR;unfold aH
 (try dsimp only[Ty.af])
 (try dsimp only[Ty.af]at gR)
 have h3:=(H1.below aW).ar (cz ⟨22,a,b,-1,[],⟨#[]⟩,0,-1,p⟩ (.slice la 0 lc)) w2.heap.size;have y0:=(H1.below aW).cell 2 0;have hy:=(H1.below aW).lt 2;have H4:=qh ((Sat.pack (L:=[_]) (M:=[Fr,ax w2.heap.size (cz ⟨22,a,b,-1,[],⟨#[]⟩,0,-1,p⟩ (.slice la 0 lc)),ax w.heap.size (.cells #[.pointer (some ⟨bb,0,none⟩)] 142 (0,0))]) (h3.pick [1,0,3,2])).pick [1,0]);go_wp2_with fail;have h5:=(H4.o.unpack 0 rfl).ar (.cells #[.int .i64 (a:Nat),.int .i64 (b:Nat)] 3) (w2.heap.size+1) (by simp);have h6:=h5.cQ (i:=4) rfl (Q:=gi (.slice (some ⟨w2.heap.size+1,0,none⟩) 2 2) [a,b]) (λ_ h=>cR h rfl (by simp[maxLen]) (by simp[aQ]));have Xa:=qh (hF.aq (M:=[ax w2.heap.size (cz ⟨22,a,b,-1,[],⟨#[]⟩,0,-1,p⟩ (.slice la 0 lc)),ax w.heap.size (.cells #[.pointer (some ⟨bb,0,none⟩)] 142 (0,0)),gi (.slice (some ⟨w2.heap.size+1,0,none⟩) 2 2) [a,b]]));have H6:=qh ((Sat.pack (L:=[_]) (M:=[Fr,ax w2.heap.size (cz ⟨22,a,b,-1,[],⟨#[]⟩,0,-1,p⟩ (.slice la 0 lc)),ax w.heap.size (.cells #[.pointer (some ⟨bb,0,none⟩)] 142 (0,0)),gi (.slice (some ⟨w2.heap.size+1,0,none⟩) 2 2) [a,b]]) h6).pick [1,0]);refine pW (ids:=[a,b]) (cs:=[(ka,Fa),(kb,Fb)]) Xa.o rfl (λj h1 h2=>?_) (λw1 L i hs hi=>?_) (by simp) H6.o (by simp only[dy,List.map_cons,List.map_nil,List.foldr_cons,List.foldr_nil];omega) (λiZ v2 w8 nI h9=>?_) (λf w8 nI h9=>?_)
 ·match j with
  |0=>exact Ca
  |1=>exact Cb
  |j+2=>exact absurd h1 (by simp only[List.length_cons,List.length_nil];omega)
 ·have h1:=hs.unpack _ hi;exact h1.row ((L.eraseIdx i).length+3) (by rw[List.getElem?_append_right (by omega),show(L.eraseIdx i).length+3-(L.eraseIdx i).length=3 by omega];rfl)
 ·have EP:=h9.unpack 0 rfl;have y0:=EP.cell 3 0;have x3:=EP.cell 2 3;dsimp only at y0 x3;have HG:=qh (aD iZ v2 w8 nI (by have tQ:=EP.pick [1,0];simp only[dy,List.map_cons,List.map_nil,List.foldr_cons,List.foldr_nil]at tQ;exact tQ));go_wp2;go_end0;exact HG.o
 ·exact⟨rfl,au f w8 nI ((h9.unpack 0 rfl).pick [0])⟩
theorem PG(hP:PB wB nv tv pg){id p a b d:Nat}(hn:pg.ns[id]?=some {Ty.af 22 p with a:=a,b:=b,c:=((d:Nat):Int)}){ka kb:Nat}{Fa Fb:eW}(Ca:jg wB nv tv bb main a ka Fa)(Cb:jg wB nv tv bb main b kb Fb){kd:Nat}{Fd:eW}(Cd:jg wB nv tv bb main d kd Fd):jg wB nv tv bb main id (ka+kb+kd) (dP [Fa,Fb,Fd]):=by
 intro frs v c w Fr hF H hc R aD au;have H1:=H.ar (.cells #[.pointer (some ⟨bb,0,none⟩)] 142) w.heap.size;obtain⟨nw,nc,IJ,D6,uN,h2⟩:=(H1.at 1 rfl).iW;obtain⟨sv,ov,wb,cb,ms,jE,h3⟩:=h2.ie;have k0:=h3.cell 1 0;have fF:=h3.lt 1
 (try dsimp only at k0)
 go_enter func132,ntmps132;go_wp2_with fail;refine dA hP (hF _ _ 0 H1 rfl) hn k0 fF (λlv w2 aW gR=>?_);obtain⟨la,lc,rfl⟩:=ag gR;unfold aH
 (try dsimp only[Ty.af])
 (try dsimp only[Ty.af]at gR)
 have h3:=(H1.below aW).ar (cz ⟨22,a,b,((d:Nat):Int),[],⟨#[]⟩,0,-1,p⟩ (.slice la 0 lc)) w2.heap.size;have y0:=(H1.below aW).cell 2 0;have hy:=(H1.below aW).lt 2;have H4:=qh ((Sat.pack (L:=[_]) (M:=[Fr,ax w2.heap.size (cz ⟨22,a,b,((d:Nat):Int),[],⟨#[]⟩,0,-1,p⟩ (.slice la 0 lc)),ax w.heap.size (.cells #[.pointer (some ⟨bb,0,none⟩)] 142 (0,0))]) (h3.pick [1,0,3,2])).pick [1,0]);have lM:=qh (hF.aq (M:=[ax w2.heap.size (cz ⟨22,a,b,((d:Nat):Int),[],⟨#[]⟩,0,-1,p⟩ (.slice la 0 lc)),ax w.heap.size (.cells #[.pointer (some ⟨bb,0,none⟩)] 142 (0,0))]));go_wp2_with fail;have h5:=(H4.o.unpack 0 rfl).ar (.cells #[.int .i64 (a:Nat),.int .i64 (b:Nat)] 3) (w2.heap.size+1) (by simp);have h6:=h5.cQ (i:=4) rfl (Q:=gi (.slice (some ⟨w2.heap.size+1,0,none⟩) 2 2) [a,b]) (λ_ h=>cR h rfl (by simp[maxLen]) (by simp[aQ]));have Xa:=qh (hF.aq (M:=[ax w2.heap.size (cz ⟨22,a,b,((d:Nat):Int),[],⟨#[]⟩,0,-1,p⟩ (.slice la 0 lc)),ax w.heap.size (.cells #[.pointer (some ⟨bb,0,none⟩)] 142 (0,0)),gi (.slice (some ⟨w2.heap.size+1,0,none⟩) 2 2) [a,b]]));have H6:=qh ((Sat.pack (L:=[_]) (M:=[Fr,ax w2.heap.size (cz ⟨22,a,b,((d:Nat):Int),[],⟨#[]⟩,0,-1,p⟩ (.slice la 0 lc)),ax w.heap.size (.cells #[.pointer (some ⟨bb,0,none⟩)] 142 (0,0)),gi (.slice (some ⟨w2.heap.size+1,0,none⟩) 2 2) [a,b]]) h6).pick [1,0]);refine pW (ids:=[a,b]) (cs:=[(ka,Fa),(kb,Fb)]) Xa.o rfl (λj h1 h2=>?_) (λw1 L i hs hi=>?_) (by simp) H6.o (by simp only[dy,List.map_cons,List.map_nil,List.foldr_cons,List.foldr_nil];omega) (λiZ v2 w8 nI h9=>?_) (λf w8 nI h9=>?_)
 ·match j with
  |0=>exact Ca
  |1=>exact Cb
  |j+2=>exact absurd h1 (by simp only[List.length_cons,List.length_nil];omega)
 ·have h1:=hs.unpack _ hi;exact h1.row ((L.eraseIdx i).length+3) (by rw[List.getElem?_append_right (by omega),show(L.eraseIdx i).length+3-(L.eraseIdx i).length=3 by omega];rfl)
 ·have EP:=h9.unpack 0 rfl;have y0:=EP.cell 3 0;have x3:=EP.cell 2 3;dsimp only at y0 x3;have fs:=(Sat.pack (L:=[_]) (M:=[Fr,ax w2.heap.size (cz ⟨22,a,b,((d:Nat):Int),[],⟨#[]⟩,0,-1,p⟩ (.slice la 0 lc)),ax w.heap.size (.cells #[.pointer (some ⟨bb,0,none⟩)] 142 (0,0))]) (EP.pick [0,1,2,3])).pick [1,0];go_wp2_with fail;refine Cd _ _ _ w8 _ lM.o fs (by simp only[dy,List.map_cons,List.map_nil,List.foldr_cons,List.foldr_nil];omega) _ (λdG v3 w9 Uz pY=>?_) (λf w9 Uz pY=>?_)
  ·have HG:=qh (aD dG v3 w9 (by have kn:=nI;rw[show [Fa,Fb,Fd]=[Fa,Fb]++[Fd]from rfl,mP];rw[show dP [Fa,Fb] frs v= _ from kn];exact Uz) (by have tQ:=(pY.unpack 0 rfl).pick [1,0];simp only[dy,List.map_cons,List.map_nil,List.foldr_cons,List.foldr_nil]at tQ;rw[show c+(ka+kb+kd)=c+(ka+(kb+0))+kd by omega];exact tQ));go_wp2;go_end0;exact HG.o
  ·exact⟨rfl,au f w9 (by have kn:=nI;rw[show [Fa,Fb,Fd]=[Fa,Fb]++[Fd]from rfl,mP];rw[show dP [Fa,Fb] frs v= _ from kn];exact Uz) ((pY.unpack 0 rfl).pick [0])⟩
 ·exact⟨rfl,au f w8 (by rw[show [Fa,Fb,Fd]=[Fa,Fb]++[Fd]from rfl,mP];rw[show dP [Fa,Fb] frs v= _ from nI];rfl) ((h9.unpack 0 rfl).pick [0])⟩
theorem I4(hP:PB wB nv tv pg){id:Nat}{nd:Nd}(hn:pg.ns[id]?=some nd){cs:List (Nat×eW)}(hC:ib wB nv tv bb main (aB nd) cs)(hk:nd.kind≠5/\nd.kind≠6/\nd.kind≠16/\nd.kind≠17/\nd.kind≠18/\nd.kind≠22/\nd.kind≠26)(qR:1<=nd.kind/\nd.kind<=26)(Yq:nd.kind=20->0<=nd.c)(uQ:nd.list.length<=900000):jg wB nv tv bb main id (dy cs) (dP (cs.map Prod.snd)):=by
 intro frs v c w Fr hF H hc R aD au;have WU: (aB nd).length<=900003:=by have:=tZ nd;omega
 have H1:=H.ar (.cells #[.pointer (some ⟨bb,0,none⟩)] 142) w.heap.size;obtain⟨nw,nc,IJ,D6,uN,h2⟩:=(H1.at 1 rfl).iW;obtain⟨sv,ov,wb,cb,ms,jE,h3⟩:=h2.ie;have k0:=h3.cell 1 0;have fF:=h3.lt 1
 (try dsimp only at k0)
 have k5:=kN nd.kind 5 5;have k6:=kN nd.kind 6 6;have ahw:=kN nd.kind 17 17;have ahN:=kN nd.kind 18 18;have ag0:=kN nd.kind 22 22;have ahI:=kN nd.kind 26 26;go_enter func132,ntmps132;go_wp2_with fail;refine dA hP (hF _ _ 0 H1 rfl) hn k0 fF (λlv w2 aW gR=>?_);obtain⟨la,lc,rfl⟩:=ag gR;unfold aH
 (try dsimp only[Ty.af])
 (try dsimp only[Ty.af]at gR)
 have h3:=(H1.below aW).ar (cz nd (.slice la nd.list.length lc)) w2.heap.size;have y0:=(H1.below aW).cell 2 0;have hy:=(H1.below aW).lt 2;have x0:=h3.cell 3 0;have H4:=qh ((Sat.pack (L:=[_]) (M:=[Fr,ax w2.heap.size (cz nd (.slice la nd.list.length lc)),ax w.heap.size (.cells #[.pointer (some ⟨bb,0,none⟩)] 142 (0,0))]) (h3.pick [1,0,3,2])).pick [1,0]);have lM:=qh (hF.aq (M:=[ax w2.heap.size (cz nd (.slice la nd.list.length lc)),ax w.heap.size (.cells #[.pointer (some ⟨bb,0,none⟩)] 142 (0,0))]));go_wp2_with fail;have wQ:=qh (λ(w3:World)(cZ:Below wB.heap.size wB w3) R hR=>tY (w:=w3) (nd:=nd) (lv:=.slice la nd.list.length lc) (R:=R) hk qR Yq (ay gR cZ) (by omega) hR)
 go_region_with (first
  |(go_at_call 157;refine wQ.o _ (lM.o _ _ 0 H4.o.drew rfl) _ (λv3 w3 h3=>?_);have h5:=H4.o.drew.join h3;have cg:=vg h5 2 rfl (ay gR (lM.o w3 _ 0 h5 rfl));obtain⟨va,vc,rfl⟩:=ag cg;have y0:=(h5.unpack 0 rfl).cell 4 0;(try dsimp only at y0);have H5:=qh ((Sat.pack (L:=[_]) (M:=[aq [Fr,ax w2.heap.size (cz nd (.slice la nd.list.length lc)),ax w.heap.size (.cells #[.pointer (some ⟨bb,0,none⟩)] 142 (0,0))],lL nd (.slice la nd.list.length lc) (.slice va (aB nd).length vc) (aB nd)]) (h5.pick [1,0,2])).pick [1,0]);clear h3 h5 cg)
  |(go_at_call 82;(refine pW lM.o.aq hC.1 hC.2 (λw1 L i hs hi=>?_) (by omega) H5.o hc (λiZ v2 w8 nI h9=>?_) (λf w8 nI h9=>⟨rfl,au f w8 nI (((h9.unpack 0 rfl).pick [0]).unpack 0 rfl|>.pick [0])⟩));(have h1:=hs.unpack _ hi;exact vg h1 ((L.eraseIdx i).length+1) (by rw[List.getElem?_append_right (by omega),show(L.eraseIdx i).length+1-(L.eraseIdx i).length=1 by omega];rfl) (ay gR (lM.o w1 _ (L.eraseIdx i).length h1 (by rw[List.getElem?_append_right (by omega),Nat.sub_self];rfl))));have HG:=qh (aD iZ v2 w8 nI (((h9.unpack 0 rfl).pick [1,0]).unpack 0 rfl|>.pick [1,0]));clear nI h9))
 all_goals
  go_wp2;go_end0;exact HG.o
end
end
end Go.Proofs.YtdlbhiaceheffabGreatDoor
