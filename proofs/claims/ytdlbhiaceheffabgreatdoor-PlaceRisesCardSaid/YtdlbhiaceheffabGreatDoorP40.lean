/- The program's visit at all trees. -/
import Derived.Shelf.GgSortFunc.RowK
import Derived.Shelf.SlSortCmp.NoneTotal
import Derived.Test.YtdlbhiaceheffabGreatDoorP35
import Derived.Test.YtdlbhiaceheffabGreatDoorP39
set_option linter.all false
set_option maxRecDepth 100000
set_option maxHeartbeats 8000000
namespace Go.Proofs.YtdlbhiaceheffabGreatDoor
open Go Go.RowKit Ty Tok ak Tryz Proofs.Tryz
section
open Ty (Frm Vg aO Ex Sm Par dp kP jW je gR qx ax eT fQ aL db fJ ff dX eU bO iS jC fG dK af)
namespace Ty
abbrev VE(e:Ex)(a:Nat):eN:=λfrs v=>aO (bO e a frs v) λv=>.ok (frs,v)
def VS(e:Sm)(a:Nat):eN
 |[],v=>.ok ([],v)
 |fr::l,v=>aO (dK e a fr l v) λr=>.ok (r.1::l,r.2)
def Af:List Ex→Nat→List (Nat×eN)
 |[],_=>[]
 |e::l,a=>(ax e,VE e a)::Af l (a+ax e)
def AV:List (Nat×BA×Ex)→Nat→List (Nat×eN)
 |[],_=>[]
 |(_,_,e)::l,a=>(ax e+1,VE e a)::AV l (a+ax e+1)
def mZ:List Sm→Nat→List (Nat×eN)
 |[],_=>[]
 |e::l,a=>(db e,VS e a)::mZ l (a+db e)
theorem u2:∀(l:List Ex)(a:Nat),du (Af l a)=eT l
 |[],_=>by rw[eT];rfl
 |e::l,a=>by rw[Af,cx,u2 l,eT]
theorem A3:∀(l:List (Nat×BA×Ex))(a:Nat),du (AV l a)=fQ l
 |[],_=>by rw[fQ];rfl
 |(_,_,e)::l,a=>by rw[AV,cx,A3 l,fQ]
theorem p':∀(l:List Sm)(a:Nat),du (mZ l a)=aL l
 |[],_=>by rw[aL];rfl
 |e::l,a=>by rw[mZ,cx,p' l,aL]
theorem xG:∀(l:List Ex)(a:Nat)(frs:List Frm)(v:Vg),dQ ((Af l a).map Prod.snd) frs v=aO (iS l a frs v) λv=>.ok (frs,v)
 |[],_,_,_=>by rw[iS];rfl
 |e::l,a,frs,v=>by
  rw[Af,iS,List.map_cons,dQ,aM,aM];congr 1;funext r;rw[dF,xG l]
theorem D_:∀(l:List (Nat×BA×Ex))(a:Nat)(frs:List Frm)(v:Vg),dQ ((AV l a).map Prod.snd) frs v=aO (jC l a frs v) λv=>.ok (frs,v)
 |[],_,_,_=>by rw[jC];rfl
 |(_,_,e)::l,a,frs,v=>by
  rw[AV,jC,List.map_cons,dQ,aM,aM];congr 1;funext r;rw[dF,D_ l]
theorem oK:∀(l:List Sm)(a:Nat)(fr:Frm)(frs:List Frm)(v:Vg),dQ ((mZ l a).map Prod.snd) (fr::frs) v=aO (fG l a fr frs v) λr=>.ok (r.1::frs,r.2)
 |[],_,_,_,_=>by rw[fG];rfl
 |e::l,a,fr,frs,v=>by
  rw[fG,aM];show aO (aO (dK e a fr frs v) λr=>.ok (r.1::frs,r.2)) (λr=>dQ ((mZ l (a+db e)).map Prod.snd) r.1 r.2)= _;rw[aM];congr 1;funext r;rw[dF,oK l]
theorem IW(l:List Sm)(a:Nat):T7 (mZ l a):=λfr m v dJ v' h=>by
 rw[oK]at h
 cases hq:fG l a fr m v with
 |error f=>rw[hq]at h;cases h
 |ok r=>rw[hq]at h;cases h;exact⟨_,rfl⟩
def I':List Par→Nat→List (BA×Nat)
 |[],_=>[]
 |q::ps,a=>(q.text,a)::I' ps (a+1)
theorem yX:∀(ps:List Par)(a:Nat),(I' ps a).length=ps.length
 |[],_=>rfl
 | _::l,a=>by rw[I',List.length_cons,yX l,List.length_cons]
theorem AU:∀(ps:List Par)(a:Nat)(fr:Frm)(frs:List Frm)(v:Vg),fu (I' ps a) (fr::frs) v=((gy ps a fr v).1::frs,(gy ps a fr v).2)
 |[],_,_,_,_=>rfl
 |q::ps,a,fr,frs,v=>by
  show fu (I' ps (a+1)) (addN fr q.text a::frs) (uW v a fr.of)= _;rw[AU ps];rfl
end Ty
open Ty (VE VS Af AV mZ)
theorem JZ{wB:World}{nv tv:Value}{pg:Ty.Pg}(hP:PB wB nv tv pg):∀(l:List Par)(a:Nat),qx pg.ns l a→(eU l a).length=(I' l a).length∧
  ∀i(h1:i<(eU l a).length)(h2:i<(I' l a).length),∃q ty,pg.ns[(eU l a)[i]]?=some {af 16 q with text:=(I' l a)[i].1,ty:=ty}∧(I' l a)[i].2=(eU l a)[i]∧(I' l a)[i].1.size≤maxLen
 |[],a,_=>⟨rfl,λi h=>absurd h (by simp[eU])⟩
 |q::l,a,h=>by
  obtain⟨h1,h2⟩:=JZ hP l (a+1) h.2;refine⟨by rw[lI,yX],λi k1 k2=>?_⟩;cases i with
  |zero=>
   obtain⟨_,_,_,_,_,_,_,_,_,_,hk,_⟩:=hP.look h.1;exact⟨q.pos,q.ty,h.1,rfl,by have:=hk.size;simp only[af]at this;show q.text.size≤_;unfold maxLen;omega⟩
  |succ i=>exact h2 i (by simpa [eU]using k1) (by simpa [I']using k2)
section
variable {wB:World} {nv tv:Value} {pg:Ty.Pg} {bb:Nat} {main:Int}
theorem gJ.nil:gJ wB nv tv bb main [] []:=⟨rfl,λj h=>absurd h (by simp)⟩
theorem iO.cons{id k:Nat}{F:eN}{ids:List Nat}{cs:List (Nat×eN)}(h:iO wB nv tv bb main id k F)(g:gJ wB nv tv bb main ids cs):gJ wB nv tv bb main (id::ids) ((k,F)::cs):=by
 refine⟨by rw[List.length_cons,List.length_cons,g.1],λj h1 h2=>?_⟩;cases j with
 |zero=>exact h
 |succ j=>exact g.2 j (by simpa using h1) (by simpa using h2)
theorem iO.to{id A7 k k2:Nat}{F G:eN}(h:iO wB nv tv bb main id k F)(hi:id=A7)(hk:k≤k2)(hF:∀fr l v,F (fr::l) v=G (fr::l) v):iO wB nv tv bb main A7 k2 G:=by
 subst hi;intro frs v c w Fr VH H hc R aF av;obtain⟨_,_,_,_,ho,_⟩:=H.iL;cases frs with
 |nil=>exact absurd rfl ho.ne
 |cons fr l=>
  exact h (fr::l) v c w Fr VH H (by omega) R (λdJ v' w' hq h2=>aF dJ v' w' (by rw[←hF];exact hq) (h2.RV (by omega))) (λf w' hq h2=>av f w' (by rw[←hF];exact hq) h2)
theorem fO(hP:PB wB nv tv pg){id A7:Nat}{nd:Ty.Nd}(hn:pg.ns[id]?=some nd)(hi:id=A7){ids:List Nat}{cs:List (Nat×eN)}(JG:aC nd=ids)(hC:gJ wB nv tv bb main ids cs)
  (hk:nd.kind≠5∧nd.kind≠6∧nd.kind≠16∧nd.kind≠17∧nd.kind≠18∧nd.kind≠22∧nd.kind≠26) (wG:1≤nd.kind∧nd.kind≤26) (hc:nd.kind=20→0≤nd.c) (BE:nd.list.length≤id) {K:Nat} (hK:du cs≤K) {G:eN} (hG:∀fr l v,dQ (cs.map Prod.snd) (fr::l) v=G (fr::l) v):iO wB nv tv bb main A7 K G:=by
 subst JG;obtain⟨_,_,_,_,kN,_,_,_,_,_,_,hN⟩:=hP.look hn;exact(FU hP hn hC hk wG hc (by omega)).to hi hK hG
def BV(b:List Sm)(a:Nat):eN
 |[],v=>.ok ([],v)
 |fr::l,v=>aO (fG b a ⟨[],a+aL b,fr.of⟩ (fr::l) v) λr=>.ok (fr::l,r.2)
theorem za(hP:PB wB nv tv pg){b:List Sm}{a bp:Nat}(hn:pg.ns[a+aL b]?=some {af 26 bp with list:=dX b a})(hC:gJ wB nv tv bb main (dX b a) (mZ b a)):iO wB nv tv bb main (a+aL b) (aL b+1) (BV b a):=by
 obtain⟨_,_,_,_,kN,_,_,_,_,_,_,hN⟩:=hP.look hn;have hl:=lX b a;refine(Fm hP hn hC (IW b a) (by omega) (a+aL b)).to rfl (by rw[p'];omega) (λfr l v=>?_);show aO (dQ ((mZ b a).map Prod.snd) (⟨[],a+aL b,fr.of⟩::fr::l) v) _= _;rw[oK,aM];rfl
mutual
theorem gC(hP:PB wB nv tv pg):∀(e:Ex)(a:Nat),dp pg.ns e a→iO wB nv tv bb main (a+ax e-1:Nat) (ax e) (VE e a)
 | .num _ _,a,h=>by
  rw[dp]at h
  exact fO hP h (by rw[ax];omega) (ids:=[]) (by simp[aC,af]) gJ.nil (by simp[af]) (by simp[af]) (by simp[af]) (by simp[af]) (by simp[du]) (λfr l v=>by simp only[VE,List.map_nil];rw[bO];rfl)
 | .text _ _,a,h=>by
  rw[dp]at h
  exact fO hP h (by rw[ax];omega) (ids:=[]) (by simp[aC,af]) gJ.nil (by simp[af]) (by simp[af]) (by simp[af]) (by simp[af]) (by simp[du]) (λfr l v=>by simp only[VE,List.map_nil];rw[bO];rfl)
 | .bool _ _,a,h=>by
  rw[dp]at h
  exact fO hP h (by rw[ax];omega) (ids:=[]) (by simp[aC,af]) gJ.nil (by simp[af]) (by simp[af]) (by simp[af]) (by simp[af]) (by simp[du]) (λfr l v=>by simp only[VE,List.map_nil];rw[bO];rfl)
 | .null _,a,h=>by
  rw[dp]at h
  exact fO hP h (by rw[ax];omega) (ids:=[]) (by simp[aC,af]) gJ.nil (by simp[af]) (by simp[af]) (by simp[af]) (by simp[af]) (by simp[du]) (λfr l v=>by simp only[VE,List.map_nil];rw[bO];rfl)
 | .var p x,a,h=>by
  rw[dp]at h
  exact(LP hP h).to (by rw[ax];omega) (by rw[ax];omega) (λfr l v=>by simp only[VE];rw[bO])
 | .fn p ps ty bp body,a,h=>by
  rw[dp]at h
  have hS:=pE hP body (a+ps.length) h.2.1;obtain⟨_,_,_,_,kN,_,_,_,_,_,_,hN⟩:=hP.look h.2.2.2;have hl:=lX body (a+ps.length);have h2:=Py hP h.2.2.2 h.2.2.1 (JZ hP ps a h.1) hS (IW _ _) (by omega) (by rw[lI];omega);exact h2.to (by rw[ax];omega) (by rw[yX,p',ax];omega) (λfr l v=>by
   show aO (dQ _ (fu _ (⟨[],_,_⟩::fr::l) v).1 (fu _ (⟨[],_,_⟩::fr::l) v).2) _= _;simp only[VE];rw[bO,AU,oK,aM,aM];rfl)
 | .call p e l,a,h=>by
  rw[dp]at h
  have h1:=gC hP e a h.1;have h2:=BW hP l (a+ax e) h.2.1;exact fO hP h.2.2 (by rw[ax];omega) (by first|(simp[aC,af];done)|(simp[aC,af];rfl)) (h1.cons h2) (by simp[af]) (by simp[af]) (by simp[af]) (by have:=iV l (a+ax e);simp[af];omega) (by rw[cx,u2,ax];simp) (λfr m v=>by
   simp only[VE,List.map_cons,List.map_nil];rw[dQ,bO,aM,aM];congr 1;funext r;rw[dF,xG])
 | .get p e x,a,h=>by
  rw[dp]at h
  have h1:=gC hP e a h.1;exact fO hP h.2 (by rw[ax];omega) (by first|(simp[aC,af];done)|(simp[aC,af];rfl)) (h1.cons gJ.nil) (by simp[af]) (by simp[af]) (by simp[af]) (by simp[af]) (by rw[cx,ax];simp[du]) (λfr m v=>by
   simp only[VE,List.map_cons,List.map_nil];rw[iE,bO])
 | .one p x e,a,h=>by
  rw[dp]at h
  have h1:=gC hP e a h.1;exact fO hP h.2 (by rw[ax];omega) (by first|(simp[aC,af];done)|(simp[aC,af];rfl)) (h1.cons gJ.nil) (by simp[af]) (by simp[af]) (by simp[af]) (by simp[af]) (by rw[cx,ax];simp[du]) (λfr m v=>by
   simp only[VE,List.map_cons,List.map_nil];rw[iE,bO])
 | .asX p e ty,a,h=>by
  rw[dp]at h
  have h1:=gC hP e a h.1;exact fO hP h.2 (by rw[ax];omega) (by first|(simp[aC,af];done)|(simp[aC,af];rfl)) (h1.cons gJ.nil) (by simp[af]) (by simp[af]) (by simp[af]) (by simp[af]) (by rw[cx,ax];simp[du]) (λfr m v=>by
   simp only[VE,List.map_cons,List.map_nil];rw[iE,bO])
 | .atX p e i,a,h=>by
  rw[dp]at h
  have h1:=gC hP e a h.1;have h2:=gC hP i (a+ax e) h.2.1;exact fO hP h.2.2 (by rw[ax];omega) (by first|(simp[aC,af];done)|(simp[aC,af];rfl)) (h1.cons (h2.cons gJ.nil)) (by simp[af]) (by simp[af]) (by simp[af]) (by simp[af]) (by rw[cx,cx,ax];simp[du]<;>omega) (λfr m v=>by
   simp only[VE,List.map_cons,List.map_nil];rw[dQ,bO,aM,aM];congr 1;funext r;rw[dF,iE])
 | .two p x e i,a,h=>by
  rw[dp]at h
  have h1:=gC hP e a h.1;have h2:=gC hP i (a+ax e) h.2.1;exact fO hP h.2.2 (by rw[ax];omega) (by first|(simp[aC,af];done)|(simp[aC,af];rfl)) (h1.cons (h2.cons gJ.nil)) (by simp[af]) (by simp[af]) (by simp[af]) (by simp[af]) (by rw[cx,cx,ax];simp[du]<;>omega) (λfr m v=>by
   simp only[VE,List.map_cons,List.map_nil];rw[dQ,bO,aM,aM];congr 1;funext r;rw[dF,iE])
 | .obj p l,a,h=>by
  rw[dp]at h
  have h2:=KC hP l a h.1;exact fO hP h.2 (by rw[ax];omega) (by first|(simp[aC,af];done)|(simp[aC,af];rfl)) h2 (by simp[af]) (by simp[af]) (by simp[af]) (by have:=oE l a;simp[af];omega) (by rw[A3,ax];simp) (λfr m v=>by
   simp only[VE];rw[bO,D_])
 | .arr p l,a,h=>by
  rw[dp]at h
  have h2:=BW hP l a h.1;exact fO hP h.2 (by rw[ax];omega) (by first|(simp[aC,af];done)|(simp[aC,af];rfl)) h2 (by simp[af]) (by simp[af]) (by simp[af]) (by have:=iV l a;simp[af];omega) (by rw[u2,ax];simp) (λfr m v=>by
   simp only[VE];rw[bO,xG])
theorem BW(hP:PB wB nv tv pg):∀(l:List Ex)(a:Nat),kP pg.ns l a→gJ wB nv tv bb main (fJ l a) (Af l a)
 |[],_,_=>gJ.nil
 |e::l,a,h=>by
  rw[kP]at h
  rw[fJ,Af];exact(gC hP e a h.1).cons (BW hP l (a+ax e) h.2)
theorem KC(hP:PB wB nv tv pg):∀(l:List (Nat×BA×Ex))(a:Nat),jW pg.ns l a→gJ wB nv tv bb main (ff l a) (AV l a)
 |[],_,_=>gJ.nil
 |(p,x,e)::l,a,h=>by
  rw[jW]at h
  rw[ff,AV];have h1:=gC hP e a h.1;exact(fO hP h.2.1 rfl (by first|(simp[aC,af];done)|(simp[aC,af];rfl)) (h1.cons gJ.nil) (by simp[af]) (by simp[af]) (by simp[af]) (by simp[af]) (by rw[cx];simp[du]) (λfr m v=>by
   simp only[VE,List.map_cons,List.map_nil];rw[iE])).cons (KC hP l (a+ax e+1) h.2.2)
theorem pE(hP:PB wB nv tv pg):∀(l:List Sm)(a:Nat),je pg.ns l a→gJ wB nv tv bb main (dX l a) (mZ l a)
 |[],_,_=>gJ.nil
 |e::l,a,h=>by
  rw[je]at h
  rw[dX,mZ];exact(RX hP e a h.1).cons (pE hP l (a+db e) h.2)
theorem RX(hP:PB wB nv tv pg):∀(e:Sm)(a:Nat),gR pg.ns e a→iO wB nv tv bb main (a+db e-1:Nat) (db e) (VS e a)
 | .kj p x ty e,a,h=>by
  rw[gR]at h
  have h1:=gC hP e a h.1;obtain⟨nb,Pn,wU⟩:=TX e a h.1;exact(M9 hP h.2 Pn wU h1).to (by rw[db];omega) (by rw[db];omega) (λfr l v=>by
   simp only[VS,xQ];rw[dK];split
   ·rfl
   ·cases lP e<;>simp only[VE,aM,dF,if_true,if_false,Bool.false_eq_true,lH]<;>rfl)
 | .set p x e,a,h=>by
  rw[gR]at h
  have h1:=gC hP e a h.1;exact(Nf hP h.2 h1).to (by rw[db];omega) (by rw[db];omega) (λfr l v=>by simp only[VS];rw[Jt,dK];simp only[VE,aM,dF])
 | .print p e,a,h=>by
  rw[gR]at h
  have h1:=gC hP e a h.1;exact fO hP h.2 (by rw[db];omega) (by first|(simp[aC,af];done)|(simp[aC,af];rfl)) (h1.cons gJ.nil) (by simp[af]) (by simp[af]) (by simp[af]) (by simp[af]) (by rw[cx,db];simp[du]) (λfr m v=>by
   simp only[VE,VS,List.map_cons,List.map_nil];rw[iE,dK];simp only[aM,dF])
 | .ret p e,a,h=>by
  rw[gR]at h
  have h1:=gC hP e a h.1;exact fO hP h.2 (by rw[db];omega) (by first|(simp[aC,af];done)|(simp[aC,af];rfl)) (h1.cons gJ.nil) (by simp[af]) (by simp[af]) (by simp[af]) (by simp[af]) (by rw[cx,db];simp[du]) (λfr m v=>by
   simp only[VE,VS,List.map_cons,List.map_nil];rw[iE,dK];simp only[aM,dF])
 | .vW p e,a,h=>by
  rw[gR]at h
  have h1:=gC hP e a h.1;exact fO hP h.2 (by rw[db];omega) (by first|(simp[aC,af];done)|(simp[aC,af];rfl)) (h1.cons gJ.nil) (by simp[af]) (by simp[af]) (by simp[af]) (by simp[af]) (by rw[cx,db];simp[du]) (λfr m v=>by
   simp only[VE,VS,List.map_cons,List.map_nil];rw[iE,dK];simp only[aM,dF])
 | .put p e x i,a,h=>by
  rw[gR]at h
  have h1:=gC hP e a h.1;have h2:=gC hP i (a+ax e) h.2.1;exact fO hP h.2.2 (by rw[db];omega) (by first|(simp[aC,af];done)|(simp[aC,af];rfl)) (h1.cons (h2.cons gJ.nil)) (by simp[af]) (by simp[af]) (by simp[af]) (by simp[af]) (by rw[cx,cx,db];simp[du]<;>omega) (λfr m v=>by
   simp only[VE,VS,List.map_cons,List.map_nil];rw[dK];simp only[dQ,aM,dF])
 | .lay p e i j,a,h=>by
  rw[gR]at h
  have h1:=gC hP e a h.1;have h2:=gC hP i (a+ax e) h.2.1;have h3:=gC hP j (a+ax e+ax i) h.2.2.1;exact fO hP h.2.2.2 (by rw[db];omega) (by first|(simp[aC,af];done)|(simp[aC,af];rfl)) (h1.cons (h2.cons (h3.cons gJ.nil))) (by simp[af]) (by simp[af]) (by simp[af]) (by simp[af]) (by rw[cx,cx,cx,db];simp[du]<;>omega) (λfr m v=>by
   simp only[VE,VS,List.map_cons,List.map_nil];rw[dK];simp only[dQ,aM,dF])
 | .while_ p e bp b,a,h=>by
  rw[gR]at h
  have h1:=gC hP e a h.1;have h2:=za hP h.2.2.1 (pE hP b (a+ax e) h.2.1);exact fO hP h.2.2.2 (by rw[db];omega) (by first|(simp[aC,af];done)|(simp[aC,af];rfl)) (h1.cons (h2.cons gJ.nil)) (by simp[af]) (by simp[af]) (by simp[af]) (by simp[af]) (by rw[cx,cx,db];simp[du]<;>omega) (λfr m v=>by
   simp only[VE,VS,List.map_cons,List.map_nil];rw[dK];simp only[dQ,BV,aM,dF])
 | .if_ p e bp b none,a,h=>by
  rw[gR]at h
  have h1:=gC hP e a h.1;have h2:=za hP h.2.2.1 (pE hP b (a+ax e) h.2.1);exact(ME hP h.2.2.2 h1 h2).to (by rw[db];omega) (by rw[db];omega) (λfr m v=>by
   simp only[VE,VS];rw[dK];simp only[dQ,BV,aM,dF])
 | .if_ p e bp b (some (cp,c)),a,h=>by
  rw[gR]at h
  have h1:=gC hP e a h.1;have h2:=za hP h.2.2.1 (pE hP b (a+ax e) h.2.1);have h3:=za hP h.2.2.2.2.1 (pE hP c (a+ax e+aL b+1) h.2.2.2.1);exact(MJ hP h.2.2.2.2.2 h1 h2 h3).to (by rw[db];omega) (by rw[db];omega) (λfr m v=>by
   simp only[VE,VS];rw[dK];simp only[dQ,BV,aM,dF])
end
end
end
section
open Go Go.RowKit Go.Sort
theorem tX{α:Type} [Inhabited α](enc:α→List Value)(k:Nat)(hk:∀x,(enc x).length=k)(Zg:0<k)(l:List α): (flatK enc k l.toArray).toList=l.flatMap enc:=by
 have hl:∀l:List α,(l.flatMap enc).length=l.length*k:=λl=>by
  induction l with
  |nil=>simp
  |cons a l ih=>rw[List.flatMap_cons,List.length_append,ih,hk,List.length_cons,Nat.succ_mul,Nat.add_comm]
 apply List.ext_getElem?;intro t;by_cases ht:t<l.length*k
 ·have hq:t/k<l.length:=Nat.div_lt_of_lt_mul (by rwa [Nat.mul_comm]at ht);have hm:t%k<k:=Nat.mod_lt _ Zg;have hf:=jD enc k hk l (t/k) hq (t%k) hm;rw[show t/k*k+t%k=t by rw[Nat.mul_comm];exact Nat.div_add_mod t k]at hf
  rw[hf,Array.getElem?_toList,Array.getElem?_eq_getElem (by simpa using ht)];have h1:=get_flatK enc k l.toArray t (by simpa using ht);rw[getElem!_pos _ t (by simpa using ht)]at h1
  rw[h1,List.getElem?_eq_getElem (by rw[hk];exact hm)];simp[hq,hk,hm]
 ·have h1: (l.flatMap enc)[t]?=none:=List.getElem?_eq_none (by rw[hl];omega);have h2: (flatK enc k l.toArray).toList[t]?=none:=List.getElem?_eq_none (by rw[Array.length_toList,size_flatK];simp;omega);rw[h1,h2]
section
variable {w:World} {e:TypeId} {size g m cap n:Nat} {xs:List Value} {os:Array Obj}
theorem F_{α:Type} [Inhabited α](enc:α→Value)(F:Array α):w.grownBy (grow (putRow enc (Sort.ahead w n) g 0 F) os) (some g):=by
 refine⟨rfl,rfl,rfl,by simp,λk hk bZ=>?_⟩;rw[heap_grow_old _ _ (by simpa using hk)];have:g≠k:=λe=>bZ (by rw[e])
 simp[putRow,mapBlock,Sort.ahead,Array.getElem?_modify,this]
theorem Fq(h:w.ownsRow 0 e size (.slice (some ⟨g,0,none⟩) m cap) m xs):Holds id w g 0 xs.toArray:=by
 rcases h.2 with⟨h1,_⟩|⟨g',Ao,cur,h1,_,hb,_,_,hs,ht⟩
 ·cases h1
 ·cases h1;intro j hj;have Ym:j<xs.length:=by simpa using hj
  have eh:j<m*size:=by rw[←h.1];exact Ym
  refine⟨?_,by simp[World.frozen?,hb]⟩;have h1: (cur.toList.take (m*size))[j]?=xs[j]?:=by rw[ht]
  rw[List.getElem?_take_of_lt eh]at h1
  simp only[World.cell?,hb,Nat.zero_add];simp only[Option.isSome_none,Bool.false_eq_true,if_false];rw[←Array.getElem?_toList,h1];simp[Ym]
theorem Nw(F:Array Value)(hF:F.size=m*size)(h:w.ownsRow 0 e size (.slice (some ⟨g,0,none⟩) m cap) m xs):
  (grow (putRow id (Sort.ahead w n) g 0 F) os).ownsRow 0 e size (.slice (some ⟨g,0,none⟩) m cap) m F.toList:=by
 rcases h.2 with⟨h1,_⟩|⟨g',Ao,cur,h1,h0,hb,h3,h4,h5,h6⟩
 ·cases h1
 ·cases h1;have hg:g<w.heap.size:=(Array.getElem?_eq_some_iff.1 hb).1;refine⟨by simpa using hF,.inr ⟨g,cap,putCells id 0 F cur,rfl,h0,?_,h3,h4,by simp[putCells,h5],?_⟩⟩
  ·rw[heap_grow_old _ _ (by simpa using hg)];simp[putRow,mapBlock,Sort.ahead,Array.getElem?_modify,hb,onCells]
  ·apply List.ext_getElem?;intro j;by_cases hj:j<m*size
   ·have h8:m*size≤cap*size:=Nat.mul_le_mul_right _ h3;rw[List.getElem?_take_of_lt hj,Array.getElem?_toList];have eh:j<F.size:=by rw[hF];exact hj
    have tK:j<cur.size:=by rw[h5];omega
    simp[putCells,eh,tK]
   ·rw[List.getElem?_take_eq_none (by omega),List.getElem?_eq_none (by simp;omega)]
end
theorem ak.Sat.sorted{w0 w:World}{L:List As}{e:TypeId}{size g m cap:Nat}{xs:List Value}(h:Sat w0 w L)(i:Nat)(hi:L[i]?=some (ak.row e size (.slice (some ⟨g,0,none⟩) m cap) m xs))(F:Array Value)(hF:F.size=m*size)(n:Nat)(os:Array Obj):
  Sat w0 (Go.Sort.grow (putRow id (Sort.ahead w n) g 0 F) os) (L.set i (ak.row e size (.slice (some ⟨g,0,none⟩) m cap) m F.toList)):=
 h.grow i hi (F_ id F) (Nw F hF (h.row i hi)) (.inl rfl)
end
section
open Ty (Frm Vg aO)
theorem Jg(a b c d:Nat)(w:World):
  CallsD prog 79 #[.pointer (some ⟨a,0,none⟩),.pointer (some ⟨b,0,none⟩),.pointer (some ⟨c,0,none⟩),.pointer (some ⟨d,0,none⟩)] .returning w λe u' w'=>e=.returned (.tuple #[])∧u'=.returning∧w'=w:=by
 refine callsD_of_wpS func79 rfl λBf cs hu=>?_
 apply wpS_seq;apply wpS_region;simp[wpOpsS,go_sem,recoverD,hu,ntmps79,Exit.thenS];apply wpS_seq;apply wpS_region;simp[wpOpsS,go_sem,Exit.thenS];refine wpS_cond (t:=false) (by simp[Act.eval,Array.replicate]) ?_;simp only[Bool.false_eq_true,if_false];refine wpS_of_wp (wp_skip ?_);cases Bf;simp_all[bodyPostS,results,results79]
abbrev aat:Obj:=.cells #[.slice none 0 0,.slice none 0 0,.int .i64 0] 31 (0,0)
theorem RW{w0 w:World}{Fr:As}{a b c d:Nat}{x0 x1 x2 y z f0 f1:Value}{L:List As}(H:Sat w0 w (Fr::ay a (.cells #[x0,x1,x2] 31 (0,0))::ay b (.cells #[y] 36 (0,0))::ay c (.cells #[z] 89 (0,0))::ay d (.cells #[f0,f1] 25 (0,0))::L))(f:Ty.Ft):
  CallsD prog 79 #[.pointer (some ⟨a,0,none⟩),.pointer (some ⟨b,0,none⟩),.pointer (some ⟨c,0,none⟩),.pointer (some ⟨d,0,none⟩)] (.panicking (aJ f)) w λe u' w'=>
   e=.returned (.tuple #[])∧u'=.panicking [{v:=.iface 25 (bY f),recovered:=true}]∧
   Sat w0 w' (Fr::ay a aat::ay b (.cells #[.slice none 0 0] 36 (0,0))::ay c (.cells #[.map none] 89 (0,0))::ay d (.cells #[.int .i64 f.1,.int .i64 f.2] 25 (0,0))::L):=by
 have a0:=H.cell 1 rfl 0 rfl;have a1:=H.cell 1 rfl 1 rfl;have a2:=H.cell 1 rfl 2 rfl;have b0:=H.cell 2 rfl 0 rfl;have c0:=H.cell 3 rfl 0 rfl;have d0:=H.cell 4 rfl 0 rfl;have d1:=H.cell 4 rfl 1 rfl;have fa:=H.free 1 rfl;have fb:=H.free 2 rfl;have fc:=H.free 3 rfl;have fd:=H.free 4 rfl;have n12:=H.ne 1 2 (by decide) rfl rfl;have n13:=H.ne 1 3 (by decide) rfl rfl;have n14:=H.ne 1 4 (by decide) rfl rfl;have n23:=H.ne 2 3 (by decide) rfl rfl;have n24:=H.ne 2 4 (by decide) rfl rfl;have n34:=H.ne 3 4 (by decide) rfl rfl;have la:=H.lt 1 rfl;have lb:=H.lt 2 rfl;have lc:=H.lt 3 rfl;have ld:=H.lt 4 rfl;have abJ:=tL f.1 f.2;have HH:=qh H;refine callsD_of_wpS func79 rfl λBf cs hu=>?_
 clear H;unfold aJ at hu;apply wpS_seq;apply wpS_region;simp[wpOpsS,go_sem,recoverD,hu,ntmps79,Exit.thenS];apply wpS_seq;apply wpS_region;simp[wpOpsS,go_sem,Exit.thenS];refine wpS_cond (t:=true) (by simp[Act.eval,Array.replicate]) ?_;simp only[if_true];refine wpS_of_wp ?_;unfold bY
 go_region
 all_goals
  simp[bodyPostS,results,results79,bY];exact(((((((HH.o.store 1 rfl 0 (.slice none 0 0)).store 1 rfl 1 (.slice none 0 0)).store 1 rfl 2 (.int .i64 0)).store 2 rfl 0 (.slice none 0 0)).store 3 rfl 0 (.map none)).store 4 rfl 0 (.int .i64 f.1)).store 4 rfl 1 (.int .i64 f.2)).drew
end
section
open Go Go.RowKit Go.Sort
abbrev Bq:={p:Nat×Nat//p.1≤1000000}
instance :Inhabited Bq:=⟨⟨(0,0),by decide⟩⟩
def o8(x:Bq):List Value:=dY x.1
def zF(x y:Bq):Int:=(x.1.1:Int)-y.1.1
theorem TM(x y:Bq):ltOf zF x y=decide (x.1.1<y.1.1):=by
 unfold ltOf zF;by_cases h:x.1.1<y.1.1
 ·simp[h];omega
 ·simp[h];omega
theorem P_{cf:Bq→Bq→Int}(h:∀x y,ltOf cf x y=decide (x.1.1<y.1.1)):SWO (ltOf cf) where
 irrefl x:=by rw[h];simp
 trans x y z h1 h2:=by rw[h]at*;simp at*;omega
 ntrans x y z h1 h2:=by rw[h]at*;simp at*;omega
theorem G3(x y:Bq)(W:World):Calls prog 84 #[.agg #[.int .i64 (x.1.1:Nat),.int .i64 (x.1.2:Nat)],.agg #[.int .i64 (y.1.1:Nat),.int .i64 (y.1.2:Nat)]] W λe w'=>e=.returned (.int .i64 (zF x y))∧∃q R7,w'=grow (W.drewN q) R7:=by
 have hw:=IntWalk.i64_in (n:=(x.1.1:Int)-y.1.1) (by have:=x.2;have:=y.2;omega);unfold zF;obtain⟨⟨a,b⟩,ha⟩:=x;obtain⟨⟨c,d⟩,hc⟩:=y;dsimp only at*
 go_in;go_wp2_with fail
 go_ret
 refine⟨rfl,0,_,by rw[alloc_eq_grow,alloc_eq_grow,grow_grow];rfl⟩
theorem E3:∀l:List (Nat×Nat),(∀p∈l,p.1≤1000000)→∃k:List Bq,k.map Subtype.val=l
 |[],_=>⟨[],rfl⟩
 |p::l,h=>by
  obtain⟨k,hk⟩:=E3 l λq hq=>h q (by simp[hq])
  exact⟨⟨p,h p (by simp)⟩::k,by simp[hk]⟩
theorem Er(k:List Bq):k.flatMap o8=(k.map Subtype.val).flatMap dY:=by
 induction k with
 |nil=>rfl
 |cons a k ih=>rw[List.flatMap_cons,List.map_cons,List.flatMap_cons,ih];rfl
theorem uE{ρ:Go.Shelf.Ren}(la:SlLaysF0.n6 prog ρ)(T:TypeId)(aE:∀w,(isAgg (ρ.t 24)).run prog w=.ok true w)(zE:∀w,(Go.sizeOf (ρ.t 24)).run prog w=.ok 2 w)(cf:Bq→Bq→Int)(UM:∀x y,ltOf cf x y=decide (x.1.1<y.1.1))(G:FuncId)(eG:∀args w,(callFunc G args).run prog w=.ok (.enter G args) w)
  (hG:∀(x y:Bq)(W:World),Calls prog G #[.agg #[.int .i64 (x.1.1:Nat),.int .i64 (x.1.2:Nat)],.agg #[.int .i64 (y.1.1:Nat),.int .i64 (y.1.2:Nat)]] W λe w'=>e=.returned (.int .i64 (cf x y))∧∃q R7,w'=grow (W.drewN q) R7)
  {w0 w:World} {L:List As} {ov:Value} {out:List (Nat×Nat)} (H:Sat w0 w L) (i:Nat) (hi:L[i]?=some (ak.row T 2 ov out.length (out.flatMap dY))) (hn:∀p∈out,p.1≤1000000) (hl:out.length≤1000000) {R:EW}
  (hR:∀w'(d:List (Nat×Nat)),d.Perm out→d.Pairwise (λx y=>x.1≤y.1)→Sat w0 w' (L.set i (ak.row T 2 ov d.length (d.flatMap dY)))→R (.returned (.tuple #[])) w'):
  Calls prog (ρ.f 6) #[ov,.func (.func G) #[] #[]] w R:=by
 have bJ:=H.row i hi;by_cases h0:out=[]
 ·subst h0;obtain⟨oa,oc,rfl⟩:=ag bJ;have hc:=AnyF.slices_SortFunc_none la oa oc (.func (.func G) #[] #[]) w;refine Calls.mono hc ?_
  rintro e w' ⟨rfl,rfl⟩
  exact hR w' [] (List.Perm.refl _) List.Pairwise.nil (H.cG hi λ_ h=>h)
 ·obtain⟨g,cap,rfl,_,hg⟩:=bJ.form (by have:=List.length_pos_iff.2 h0;omega);obtain⟨k,hk⟩:=E3 out hn;subst hk;have hH:HoldsK o8 2 w g 0 k.toArray:=by
   unfold HoldsK;have h1: (flatK o8 2 k.toArray)=((k.map Subtype.val).flatMap dY).toArray:=by
    apply Array.toList_inj.1;rw[tX o8 2 (λ_=>rfl) (by decide),Er]
   rw[h1];exact Fq bJ
  have hc:=AnyQ.slices_SortFunc la 2 aE zE o8 (λ_=>rfl) (λx v hv=>by
   unfold o8 dY at hv;rcases List.mem_cons.1 hv with rfl|hv
   ·rfl
   ·rw[List.mem_singleton.1 hv];rfl) cf (P_ UM) G #[] g 0 cap k.toArray w eG (λ_ _ _ _ x y=>hG x y _) hH hg (by simp;simp at hl;omega)
  have he: (#[.slice (some ⟨g,0,none⟩) (k.map Subtype.val).length cap,.func (.func G) #[] #[]]:Array Value)=#[.slice (some ⟨g,0,none⟩) k.toArray.size cap,.func (.func G) #[] #[]]:=by simp
  rw[he];refine Calls.mono hc ?_
  rintro e w' ⟨rfl,d,n,os,hp,hs,rfl⟩
  have vE:d.size=k.length:=by have:=hp.1;simpa using this
  have R1:d.toList.Perm k:=by
   have h1:=hp.2.2;have e1:d.extract 0 k.toArray.size=d:=by
    rw[show k.toArray.size=d.size by simp[vE]];simp
   have e2:k.toArray.extract 0 k.toArray.size=k.toArray:=by simp
   rw[e1,e2]at h1
   simpa using h1
  have Sq: (d.toList.map Subtype.val).Pairwise (λx y=>x.1≤y.1):=by
   rw[List.pairwise_map,List.pairwise_iff_getElem];intro a b ha hb qY;have h1:=hs a b (Nat.zero_le _) qY (by simp;simp at hb;omega);rw[UM,decide_eq_false_iff_not]at h1
   rw[getElem!_pos d b (by simpa using hb),getElem!_pos d a (by simpa using ha)]at h1
   simp only[Array.getElem_toList];omega
  have hF: (flatK o8 2 d).toList=(d.toList.map Subtype.val).flatMap dY:=by
   have h1:=tX o8 2 (λ_=>rfl) (by decide) d.toList;rw[Array.toArray_toList]at h1
   rw[h1,Er]
  have h2:=H.sorted i hi (flatK o8 2 d) (by simp[vE]) n os;refine hR _ (d.toList.map Subtype.val) (R1.map _) Sq ?_;have h3:ak.row T 2 (.slice (some ⟨g,0,none⟩) (k.map Subtype.val).length cap) (k.map Subtype.val).length (flatK o8 2 d).toList=ak.row T 2 (.slice (some ⟨g,0,none⟩) (k.map Subtype.val).length cap) (d.toList.map Subtype.val).length ((d.toList.map Subtype.val).flatMap dY):=by
   rw[hF];simp[vE]
  rw[←h3];exact h2
theorem CP{w0 w:World}{L:List As}{ov:Value}{out:List (Nat×Nat)}(H:Sat w0 w L)(i:Nat)(hi:L[i]?=some (sY ov out))(hn:∀p∈out,p.1≤1000000)(hl:out.length≤1000000){R:EW}
  (hR:∀w' d,d.Perm out→d.Pairwise (λx y=>x.1≤y.1)→Sat w0 w' (L.set i (sY ov d))→R (.returned (.tuple #[])) w'):
  Calls prog 83 #[ov,.func (.func 84) #[] #[]] w R:=
 uE sortBd 43 isAgg43 sizeOf43 zF TM 84 (enters_of func84 (by kernel_rfl) rfl) G3 H i hi hn hl hR
end
section
open Ty (Frm Vg aO aL dX mZ)
section
variable {wB:World} {nv tv:Value} {pg:Ty.Pg} {bb:Nat} {main:Int}
theorem G9(hP:PB wB nv tv pg){mn bp:Nat}{ids:List Nat}(C4:pg.ns[mn]?=some {Ty.af 26 bp with list:=ids}){cs:List (Nat×eN)}(hC:gJ wB nv tv bb main ids cs)(A':ids.length≤1000000)
  {frs:List Frm} {v:Vg} {c:Nat} {w:World} {Fr:As} (hF:jH wB Fr) {xb pb:Nat} (jS:pb<wB.heap.size) (p0:wB.cell? ⟨pb,0,none⟩=some nv) (p2:wB.cell? ⟨pb,2,none⟩=some (.int .i64 (mn:Nat)))
  (H:Sat wB w [ah [Fr,ay xb (.cells #[.pointer (some ⟨bb,0,none⟩)] 142 (0,0))],pJ bb nv tv main c frs v]) (hc:c+du cs≤100000) {R:EW}
  (aF:∀dJ v' w',dQ (cs.map Prod.snd) frs v=.ok (dJ,v')→Sat wB w' [ah [Fr,ay xb (.cells #[.pointer (some ⟨bb,0,none⟩)] 142 (0,0))],pJ bb nv tv main (c+du cs) dJ v']→R (.returned (.tuple #[])) w')
  (av:∀f w',dQ (cs.map Prod.snd) frs v=.error f→Sat wB w' [ah [Fr,ay xb (.cells #[.pointer (some ⟨bb,0,none⟩)] 142 (0,0))]]→R (.panicked (aJ f)) w'):
  Calls prog 81 #[.pointer (some ⟨xb,0,none⟩),.pointer (some ⟨pb,0,none⟩)] w R:=by
 obtain⟨g,cap,lv,rfl,kN,hg,hcap,Hl,hA,hl,_,hN⟩:=hP.look C4;obtain⟨la,lc,rfl⟩:=ag hl;dsimp only at hl;have hu:=H.unpack (i:=0) rfl;have y0:=hu.cell 2 rfl 0 rfl;have dq:=qh (hF.ah (M:=[ay xb (.cells #[.pointer (some ⟨bb,0,none⟩)] 142 (0,0))]));have hb:=dq.o w _ 0 H rfl;have Qs:=hA.below hb;have c0:=aq hb p0;have c2:=aq hb p2;have c4:=Qs.q4;dsimp only at c4;have aY:=qh aF;have aB:=qh av;have H1:=qh H;have dG:=qh hl;have acI:=qh p0;have PO:=qh p2;have abr:=qh hA.q4;unfold maxLen at Hl;clear aF av H hu hF hA Qs hb p0 p2 hP C4 hl;generalize pg.ns.length=N at*
 have e1: (0:Int)≤(mn:Int):=by omega
 have e2: (mn:Int)<(N:Int):=by omega
 have e3: ((mn:Int)).toNat=mn:=by omega
 go_in;go_wp2_with fail;refine wp_region_held_drew (S:=λw'=>w'.cell? ⟨xb,0,none⟩=some (.pointer (some ⟨bb,0,none⟩))∧w'.cell? ⟨pb,0,none⟩=some (.slice (some ⟨g,0,none⟩) N cap)∧w'.cell? ⟨pb,2,none⟩=some (.int .i64 (mn:Nat))∧w'.cell? ⟨g,mn*9+4,none⟩=some (.slice la ids.length lc)) (by kernel_rfl) ⟨y0,c0,c2,c4⟩ (λhS=>?_);refine mT 0 ?_;refine mT 1 ?_;refine mT 2 ?_;refine mT 3 ?_;refine mT 4 ?_;refine mT 5 ?_;refine mT 6 ?_;refine mT 7 ?_;refine wpAnyH_ready (rs:=[8]) (by kernel_rfl) (by simp) ?_;refine AllReadyH.cons rfl (λK hK=>?_) AllReadyH.nil;go_simp;refine ox (ids:=ids) (cs:=cs) dq.o hC.1 hC.2 (λw1 L i hs hi=>az dG.o (dq.o w1 L i hs hi)) A' H1.o.drew hc ?_ ?_
 ·intro iM v2 w8 kU h9;have qN:=dq.o w8 _ 0 h9 rfl;refine hK.out _ _ ⟨(h9.unpack (i:=0) rfl).cell 2 rfl 0 rfl,aq qN acI.o,aq qN PO.o,aq qN abr.o⟩ (λhHeld=>?_);have HG:=qh (aY.o iM v2 w8 kU h9);clear hK K hHeld kU h9 qN;refine wpAnyH_done (by kernel_rfl) ?_ _;go_wp2_with fail;go_end0;exact HG.o
 ·intro f w8 kU h9;exact⟨rfl,aB.o f w8 kU h9⟩
end
abbrev Rf:Vg:=⟨[],λ_=>none,λ_=>false⟩
abbrev I4(l:List Ty.Sm):Except Ty.Ft (List Frm×Vg):=dQ ((mZ l 0).map Prod.snd) [⟨[],aL l,-1⟩] Rf
theorem Ev{l:List Ty.Sm}{frs:List Frm}{v:Vg}(h:I4 l=.ok (frs,v)):jv l=.ok v∧∃fr,frs=[fr]:=by
 unfold I4 at h;rw[oK]at h
 unfold jv;cases hq:Ty.fG l 0 ⟨[],aL l,-1⟩ [] Rf with
 |error f=>rw[hq]at h;cases h
 |ok r=>rw[hq]at h;cases h;exact⟨rfl,_,rfl⟩
theorem Ib{l:List Ty.Sm}{f:Ty.Ft}(h:I4 l=.error f):jv l=.error f:=by
 unfold I4 at h;rw[oK]at h
 unfold jv;cases hq:Ty.fG l 0 ⟨[],aL l,-1⟩ [] Rf with
 |error g=>rw[hq]at h;cases h;rfl
 |ok r=>rw[hq]at h;cases h
theorem Tm{wB:World}{nv tv:Value}{main:Int}(n:Nat)(hn:n=wB.heap.size):
  Sat wB ((((wB.alloc (.map #[] 0)).alloc (.map #[] 0)).alloc (.cells #[nv,tv,.int .i64 main,.slice none 0 0,.slice none 0 0,.map (some n),.map (some (n+1))] 145)).alloc (.cells #[.pointer (some ⟨n+1+1,0,none⟩)] 142))
   [ah [bE wB,ay (n+1+1+1) (.cells #[.pointer (some ⟨n+1+1,0,none⟩)] 142 (0,0))],CU (n+1+1) nv tv main [] Rf 0 0]:=by
 subst hn;have h1:=(Sat.fw wB).yM 3 3 wB.heap.size rfl sf;have h2:=h1.yM 3 4 (wB.heap.size+1) (by simp) zG;have h3:=((((h2.aj (.cells #[nv,tv,.int .i64 main,.slice none 0 0,.slice none 0 0,.map (some wB.heap.size),.map (some (wB.heap.size+1))] 145) (wB.heap.size+1+1) (by simp)).aj (.cells #[.pointer (some ⟨wB.heap.size+1+1,0,none⟩)] 142) (wB.heap.size+1+1+1) (by simp)).nil 195 2).nil 43 2).hZ (P:=kC []) (λ_=>trivial);have h4:=(Sat.pack (L:=[_,_,_,_,_,_]) (M:=[bE wB,ay (wB.heap.size+1+1+1) (.cells #[.pointer (some ⟨wB.heap.size+1+1,0,none⟩)] 142 (0,0))]) (h3.pick [3,5,6,1,2,7,0,4])).pick [6,0,1,2,3,4,5];exact Sat.yt (v:=Rf) (frs:=[]) (ms:=[]) rfl h4
theorem IQ{w0 w:World}{Fr:As}(H:Sat w0 w [Fr])(s:BA)(hw:Words w)(hm:s.size≤maxLen){l:List Ty.Sm}(hl:∀pg:Ty.Pg,Ty.parse s=.ok pg→eg 0 l []=(pg.ns,pg.main)){R:EW}
  (aF:∀(pg:Ty.Pg) nv tv ov cb v d nc w',Ty.parse s=.ok pg→jv l=.ok v→d.Perm v.out→d.Pairwise (λx y=>x.1≤y.1)→nc≤100000→d.length≤100000→Sat w0 w' [Fr,vV nv pg.ns,oS tv pg.ts,sY ov d,mapA 3 4 cb nc (cZ v.ca)]→
   R (.returned (.tuple #[.agg #[nv,tv,.int .i64 (pg.main:Nat)],ov,.map (some cb),bY (0,0)])) w')
  (av:∀f w',(Ty.parse s=.error f∨∃pg:Ty.Pg,Ty.parse s=.ok pg∧jv l=.error f)→Sat w0 w' [Fr]→R (.returned (.tuple #[.agg #[.slice none 0 0,.slice none 0 0,.int .i64 0],.slice none 0 0,.map none,bY f])) w'):
  Calls prog 43 #[.string s] w R:=by
 have aY:=qh aF;have aB:=qh av;have HW:=qh hw;have F6:=qh hm;have HL:=qh hl;have Hu:∀(fn:Fn)(first cap:Array Value)(w:World),(Instr.makeFunc fn first cap).run prog w=.ok (.func fn first cap) w:=λ_ _ _ _=>rfl
 have Ll:=@run_makeMap prog;have h1:=(((H.aj (.cells #[.slice none 0 0,.slice none 0 0,.int .i64 0] 31) w.heap.size).aj (.cells #[.slice none 0 0] 36) (w.heap.size+1) (by simp)).aj (.cells #[.map none] 89) (w.heap.size+2) (by simp)).aj (.cells #[.int .i64 0,.int .i64 0] 25) (w.heap.size+3) (by simp);have H1:=qh (Sat.pack (L:=[]) h1);clear aF av hw hm hl H h1
 go_enter_defers func43,ntmps43
 go_wp2_with fail;refine GU H1.o s (HW.o.below ((((((bR _ _).alloc (nR _) _).alloc (by simp) _).alloc (by simp;omega) _).alloc (by simp;omega) _))) F6.o (λpg nv tv w1 ht h2=>?_) (λf w1 ht h2=>?_)
 ·have h3:=(h2.unpack (i:=0) rfl).pick [2,3,4,5,6,0,1];obtain⟨nr,Dq,nP⟩:=h3.mM 5 rfl;obtain⟨tr,Hk,qn⟩:=h3.F' 6 rfl;obtain⟨na,nc,en⟩:=ag nP.row;obtain⟨ta,tc,et⟩:=ag qn.row;have fa:=h3.free 1 rfl;have fd:=h3.free 4 rfl;have la:=h3.lt 1 rfl;have ld:=h3.lt 4 rfl;have a0:=h3.cell 1 rfl 0 rfl;have a1:=h3.cell 1 rfl 1 rfl;have a2:=h3.cell 1 rfl 2 rfl;have d0:=h3.cell 4 rfl 0 rfl;have d1:=h3.cell 4 rfl 1 rfl;have n14:=h3.ne 1 4 (by decide) rfl rfl;have H3:=qh h3;have HT:=qh ht;clear h2 h3 Dq nP Hk qn ht;subst en et;generalize nr.length=NN at*
  generalize tr.length=TN at*
  dsimp only[bY];go_wp2_with fail;have h4:=((((H3.o.store 1 rfl 0 (.slice na NN nc)).store 1 rfl 1 (.slice ta TN tc)).store 1 rfl 2 (.int .i64 (pg.main:Nat))).store 4 rfl 0 (.int .i64 0)).store 4 rfl 1 (.int .i64 0);have hz: (((((w1.setCell ⟨w.heap.size,0,none⟩ (.slice na NN nc)).setCell ⟨w.heap.size,1,none⟩ (.slice ta TN tc)).setCell ⟨w.heap.size,2,none⟩ (.int .i64 (pg.main:Nat))).setCell ⟨w.heap.size+1+1+1,0,none⟩ (.int .i64 0)).setCell ⟨w.heap.size+1+1+1,1,none⟩ (.int .i64 0)).heap.size=w1.heap.size:=by simp
  rw[show w.heap.size+3=w.heap.size+1+1+1 by omega]at h4
  clear a0 a1 a2 d0 d1 fa fd;generalize((((w1.setCell ⟨w.heap.size,0,none⟩ (.slice na NN nc)).setCell ⟨w.heap.size,1,none⟩ (.slice ta TN tc)).setCell ⟨w.heap.size,2,none⟩ (.int .i64 (pg.main:Nat))).setCell ⟨w.heap.size+1+1+1,0,none⟩ (.int .i64 0)).setCell ⟨w.heap.size+1+1+1,1,none⟩ (.int .i64 0)=W2 at h4 hz⊢;obtain⟨U6,Dq,nP⟩:=h4.mM 5 rfl;obtain⟨XJ,Hk,qn⟩:=h4.F' 6 rfl;have A8:=l7 HT.o;have hP:PB W2 (.slice na NN nc) (.slice ta TN tc) pg:=⟨⟨U6,Dq,nP⟩,⟨XJ,Hk,qn⟩,A8⟩
  obtain⟨LA,C4,IP,kN⟩:=qW (HL.o pg HT.o);have TH:=A8.kO;have Rg:=lX l 0;have Wl:=p' l 0;have Zk:=Tm (wB:=W2) (nv:=.slice na NN nc) (tv:=.slice ta TN tc) (main:=(pg.main:Nat)) w1.heap.size hz.symm;have p0:=h4.cell 1 rfl 0 rfl;have p2:=h4.cell 1 rfl 2 rfl;have jS:=h4.lt 1 rfl;rw[IP]at p2
  have hC:=λb0 m0=>pE (bb:=b0) (main:=m0) hP l 0 LA
  have H4:=qh h4;have UO:=qh TH;have XZ:=qh Zk;have HC:=qh (λw5(h5:Sat W2 w5 [ah [bE W2,ay (w1.heap.size+1+1+1) (.cells #[.pointer (some ⟨w1.heap.size+1+1,0,none⟩)] 142 (0,0))],pJ (w1.heap.size+1+1) (.slice na NN nc) (.slice ta TN tc) (pg.main:Nat) 1 [⟨[],aL l,-1⟩] Rf]) R aF av=>G9 (R:=R) hP C4 (hC _ _) (by omega) (jH.fw W2) jS p0 p2 h5 (by omega) aF av);have HS:Hq (du (mZ l 0)≤1200):=by show _≤_;omega
  have Lz:Hq (aL l+1≤1200):=by show _≤_;omega
  clear h4 Dq nP Hk qn A8 hP LA C4 IP kN TH Rg Wl Zk p0 p2 jS hC hz H3 la ld n14;refine AI 81 _ Tryz.call81 (owner:=aL l) (of:= -1) XZ.o (by simp) (m:=I4 l) (K:=λvB iM v2 zb mV=>zb≤1+du (mZ l 0)∧mV≤1+du (mZ l 0)∧OkS (1+du (mZ l 0)) (vB::iM) v2) (λw5 h5 R' C7 uT=>?_) (λvB iM v2 zb mV w5 hK hm h5=>?_) (λf w5 hm h5=>?_)
  ·refine HC.o w5 (h5.vd (by omega) (by omega) ⟨by simp,by simp,by simp,by simp,by simp⟩) R' (λdJ v' w' hq h6=>?_) uT;obtain⟨_,vB,rfl⟩:=Ev hq;obtain⟨zb,mV,g1,g2,g3,g4⟩:=h6.iL;exact C7 vB [] v' zb mV w' ⟨g1,g2,g3⟩ (by simp) hq g4
  ·obtain⟨hv,acf,he⟩:=Ev hm;injection he with e1 e2;subst e1 e2;have NA:=MX hv;have Xc:=hK.2.2.out;have acX:=HS.o;have adv:=Lz.o;obtain⟨sv,ov,wb,cb,ms,gT,h6⟩:=h5.gO;obtain⟨oa,oc,rfl⟩:=ag (h6.row 3 rfl);have h7:=(h6.unpack (i:=0) rfl).pick [6,7,0,1,2,3,4,5];have x1:=h7.cell 1 rfl 0 rfl;have b4:=h7.cell 2 rfl 4 rfl;have HV:=qh hv;have H7:=qh h7;have aa8:=qh hK.2.1;have Xq:=qh NA;clear h5 h6 h7 hm gT hv hK NA;go_wp2_with fail;refine CP H7.o 4 rfl (λp hp=>by have:=Xq.o p hp;omega) (by omega) (λw6 d hp hs h8=>?_);have h9:Sat w0 w6 [Fr,ay (w.heap.size) (.cells #[.slice na NN nc,.slice ta TN tc,.int .i64 (pg.main:Nat)] 31 (0,0)),ay (w.heap.size+1) (.cells #[.slice none 0 0] 36 (0,0)),ay (w.heap.size+1+1) (.cells #[.map none] 89 (0,0)),ay (w.heap.size+1+1+1) (.cells #[.int .i64 0,.int .i64 0] 25 (0,0)),vV (.slice na NN nc) pg.ns,oS (.slice ta TN tc) pg.ts,
    ay (w1.heap.size+1+1+1) (.cells #[.pointer (some ⟨w1.heap.size+1+1,0,none⟩)] 142 (0,0)),ay (w1.heap.size+1+1) (Ez (.slice na NN nc) (.slice ta TN tc) (pg.main:Nat) sv (.slice oa v2.out.length oc) wb cb),sY (.slice oa v2.out.length oc) d,mapA 3 4 cb mV (cZ v2.ca)]:=(H4.o.join h8).pick [0,1,2,3,4,5,6,7,8,10,12]
   have Uq:d.length=v2.out.length:=hp.length_eq;have x1:=h9.cell 7 rfl 0 rfl;have b4:=h9.cell 8 rfl 4 rfl;have b6:=h9.cell 8 rfl 6 rfl;have hS:w6.drew.cell? ⟨w.heap.size,0,none⟩=some (.slice na NN nc)∧w6.drew.cell? ⟨w.heap.size,1,none⟩=some (.slice ta TN tc)∧w6.drew.cell? ⟨w.heap.size,2,none⟩=some (.int .i64 (pg.main:Nat))∧w6.drew.cell? ⟨w1.heap.size+1+1+1,0,none⟩=some (.pointer (some ⟨w1.heap.size+1+1,0,none⟩))∧w6.drew.cell? ⟨w1.heap.size+1+1,4,none⟩=some (.slice oa v2.out.length oc)∧w6.drew.cell? ⟨w1.heap.size+1+1,6,none⟩=some (.map (some cb))∧w6.drew.cell? ⟨w.heap.size+1+1+1,0,none⟩=some (.int .i64 0)∧w6.drew.cell? ⟨w.heap.size+1+1+1,1,none⟩=some (.int .i64 0):=⟨h9.drew.cell 1 rfl 0 rfl,h9.drew.cell 1 rfl 1 rfl,h9.drew.cell 1 rfl 2 rfl,h9.drew.cell 7 rfl 0 rfl,h9.drew.cell 8 rfl 4 rfl,h9.drew.cell 8 rfl 6 rfl,h9.drew.cell 4 rfl 0 rfl,h9.drew.cell 4 rfl 1 rfl⟩
   have H9:=qh h9;have WU:=qh Uq;have Vr:=qh hp;have ZV:=qh hs;clear h8 h9 Uq hp hs H7 H4 HC XZ Ll;go_wp2_with fail;refine wp_region_noPanic ?_;refine wp_region_held_drew (S:=λw'=>w'.cell? ⟨w.heap.size,0,none⟩=some (.slice na NN nc)∧w'.cell? ⟨w.heap.size,1,none⟩=some (.slice ta TN tc)∧w'.cell? ⟨w.heap.size,2,none⟩=some (.int .i64 (pg.main:Nat))∧w'.cell? ⟨w1.heap.size+1+1+1,0,none⟩=some (.pointer (some ⟨w1.heap.size+1+1,0,none⟩))∧w'.cell? ⟨w1.heap.size+1+1,4,none⟩=some (.slice oa v2.out.length oc)∧w'.cell? ⟨w1.heap.size+1+1,6,none⟩=some (.map (some cb))∧w'.cell? ⟨w.heap.size+1+1+1,0,none⟩=some (.int .i64 0)∧w'.cell? ⟨w.heap.size+1+1+1,1,none⟩=some (.int .i64 0)) (by kernel_rfl) hS (λhS=>?_);refine mT 0 ?_;refine mT 1 ?_;refine mT 2 ?_;refine mT 3 ?_;refine mT 4 ?_;refine mT 5 ?_;refine mT 6 ?_;refine mT 7 ?_;refine mT 8 ?_;refine mT 9 ?_;clear hS x1 b4 b6;have h9:=H9.o;have fz:=h9.free 1 rfl;have lz:=h9.lt 1 rfl;have q0:=h9.cell 1 rfl 0 rfl;have q1:=h9.cell 1 rfl 1 rfl;have q2:=h9.cell 1 rfl 2 rfl;refine wpAnyH_ready (rs:=[10]) (by kernel_rfl) (by simp) ?_;refine AllReadyH.cons rfl (λK hK=>?_) AllReadyH.nil;go_simp;have k3:Sat w0 ((((w6.setCell ⟨w.heap.size,0,none⟩ (.slice na NN nc)).setCell ⟨w.heap.size,1,none⟩ (.slice ta TN tc)).setCell ⟨w.heap.size,2,none⟩ (.int .i64 (pg.main:Nat))).drew) [Fr,ay (w.heap.size) (.cells #[.slice na NN nc,.slice ta TN tc,.int .i64 (pg.main:Nat)] 31 (0,0)),ay (w.heap.size+1) (.cells #[.slice none 0 0] 36 (0,0)),ay (w.heap.size+1+1) (.cells #[.map none] 89 (0,0)),ay (w.heap.size+1+1+1) (.cells #[.int .i64 0,.int .i64 0] 25 (0,0)),vV (.slice na NN nc) pg.ns,oS (.slice ta TN tc) pg.ts,
    ay (w1.heap.size+1+1+1) (.cells #[.pointer (some ⟨w1.heap.size+1+1,0,none⟩)] 142 (0,0)),ay (w1.heap.size+1+1) (Ez (.slice na NN nc) (.slice ta TN tc) (pg.main:Nat) sv (.slice oa v2.out.length oc) wb cb),sY (.slice oa v2.out.length oc) d,mapA 3 4 cb mV (cZ v2.ca)]:=((h9.drew.store 1 rfl 0 (.slice na NN nc)).store 1 rfl 1 (.slice ta TN tc)).store 1 rfl 2 (.int .i64 (pg.main:Nat))
   refine hK.out _ _ ⟨k3.cell 1 rfl 0 rfl,k3.cell 1 rfl 1 rfl,k3.cell 1 rfl 2 rfl,k3.cell 7 rfl 0 rfl,k3.cell 8 rfl 4 rfl,k3.cell 8 rfl 6 rfl,k3.cell 4 rfl 0 rfl,k3.cell 4 rfl 1 rfl⟩ (λhHeld=>?_);clear hK K hHeld fz lz q0 q1 q2 h9;generalize(((w6.setCell ⟨w.heap.size,0,none⟩ (.slice na NN nc)).setCell ⟨w.heap.size,1,none⟩ (.slice ta TN tc)).setCell ⟨w.heap.size,2,none⟩ (.int .i64 (pg.main:Nat))).drew=w7 at k3⊢;have fz:=k3.free 2 rfl;have lz:=k3.lt 2 rfl;have q0:=k3.cell 2 rfl 0 rfl;refine wpAnyH_ready (rs:=[11]) (by kernel_rfl) (by simp) ?_;refine AllReadyH.cons rfl (λK hK=>?_) AllReadyH.nil;go_simp;have k4:Sat w0 (w7.setCell ⟨w.heap.size+1,0,none⟩ (.slice oa v2.out.length oc)) [Fr,ay (w.heap.size) (.cells #[.slice na NN nc,.slice ta TN tc,.int .i64 (pg.main:Nat)] 31 (0,0)),ay (w.heap.size+1) (.cells #[.slice oa v2.out.length oc] 36 (0,0)),ay (w.heap.size+1+1) (.cells #[.map none] 89 (0,0)),ay (w.heap.size+1+1+1) (.cells #[.int .i64 0,.int .i64 0] 25 (0,0)),vV (.slice na NN nc) pg.ns,oS (.slice ta TN tc) pg.ts,
    ay (w1.heap.size+1+1+1) (.cells #[.pointer (some ⟨w1.heap.size+1+1,0,none⟩)] 142 (0,0)),ay (w1.heap.size+1+1) (Ez (.slice na NN nc) (.slice ta TN tc) (pg.main:Nat) sv (.slice oa v2.out.length oc) wb cb),sY (.slice oa v2.out.length oc) d,mapA 3 4 cb mV (cZ v2.ca)]:=k3.store 2 rfl 0 (.slice oa v2.out.length oc)
   refine hK.out _ _ ⟨k4.cell 1 rfl 0 rfl,k4.cell 1 rfl 1 rfl,k4.cell 1 rfl 2 rfl,k4.cell 7 rfl 0 rfl,k4.cell 8 rfl 4 rfl,k4.cell 8 rfl 6 rfl,k4.cell 4 rfl 0 rfl,k4.cell 4 rfl 1 rfl⟩ (λhHeld=>?_);clear hK K hHeld fz lz q0 k3;generalize w7.setCell ⟨w.heap.size+1,0,none⟩ (.slice oa v2.out.length oc)=w8 at k4⊢;have fz:=k4.free 3 rfl;have lz:=k4.lt 3 rfl;have q0:=k4.cell 3 rfl 0 rfl;refine wpAnyH_ready (rs:=[12]) (by kernel_rfl) (by simp) ?_;refine AllReadyH.cons rfl (λK hK=>?_) AllReadyH.nil;go_simp;have k5:Sat w0 (w8.setCell ⟨w.heap.size+1+1,0,none⟩ (.map (some cb))) [Fr,ay (w.heap.size) (.cells #[.slice na NN nc,.slice ta TN tc,.int .i64 (pg.main:Nat)] 31 (0,0)),ay (w.heap.size+1) (.cells #[.slice oa v2.out.length oc] 36 (0,0)),ay (w.heap.size+1+1) (.cells #[.map (some cb)] 89 (0,0)),ay (w.heap.size+1+1+1) (.cells #[.int .i64 0,.int .i64 0] 25 (0,0)),vV (.slice na NN nc) pg.ns,oS (.slice ta TN tc) pg.ts,
    ay (w1.heap.size+1+1+1) (.cells #[.pointer (some ⟨w1.heap.size+1+1,0,none⟩)] 142 (0,0)),ay (w1.heap.size+1+1) (Ez (.slice na NN nc) (.slice ta TN tc) (pg.main:Nat) sv (.slice oa v2.out.length oc) wb cb),sY (.slice oa v2.out.length oc) d,mapA 3 4 cb mV (cZ v2.ca)]:=k4.store 3 rfl 0 (.map (some cb))
   refine hK.out _ _ ⟨k5.cell 1 rfl 0 rfl,k5.cell 1 rfl 1 rfl,k5.cell 1 rfl 2 rfl,k5.cell 7 rfl 0 rfl,k5.cell 8 rfl 4 rfl,k5.cell 8 rfl 6 rfl,k5.cell 4 rfl 0 rfl,k5.cell 4 rfl 1 rfl⟩ (λhHeld=>?_);clear hK K hHeld fz lz q0 k4;generalize w8.setCell ⟨w.heap.size+1+1,0,none⟩ (.map (some cb))=w9 at k5⊢;have fz:=k5.free 4 rfl;have lz:=k5.lt 4 rfl;have q0:=k5.cell 4 rfl 0 rfl;have q1:=k5.cell 4 rfl 1 rfl;refine wpAnyH_ready (rs:=[13]) (by kernel_rfl) (by simp) ?_;refine AllReadyH.cons rfl (λK hK=>?_) AllReadyH.nil;go_simp;have k7:Sat w0 ((w9.setCell ⟨w.heap.size+1+1+1,0,none⟩ (.int .i64 0)).setCell ⟨w.heap.size+1+1+1,1,none⟩ (.int .i64 0)) [Fr,ay (w.heap.size) (.cells #[.slice na NN nc,.slice ta TN tc,.int .i64 (pg.main:Nat)] 31 (0,0)),ay (w.heap.size+1) (.cells #[.slice oa v2.out.length oc] 36 (0,0)),ay (w.heap.size+1+1) (.cells #[.map (some cb)] 89 (0,0)),ay (w.heap.size+1+1+1) (.cells #[.int .i64 0,.int .i64 0] 25 (0,0)),vV (.slice na NN nc) pg.ns,oS (.slice ta TN tc) pg.ts,
    ay (w1.heap.size+1+1+1) (.cells #[.pointer (some ⟨w1.heap.size+1+1,0,none⟩)] 142 (0,0)),ay (w1.heap.size+1+1) (Ez (.slice na NN nc) (.slice ta TN tc) (pg.main:Nat) sv (.slice oa v2.out.length oc) wb cb),sY (.slice oa v2.out.length oc) d,mapA 3 4 cb mV (cZ v2.ca)]:=(k5.store 4 rfl 0 (.int .i64 0)).store 4 rfl 1 (.int .i64 0)
   refine hK.out _ _ ⟨k7.cell 1 rfl 0 rfl,k7.cell 1 rfl 1 rfl,k7.cell 1 rfl 2 rfl,k7.cell 7 rfl 0 rfl,k7.cell 8 rfl 4 rfl,k7.cell 8 rfl 6 rfl,k7.cell 4 rfl 0 rfl,k7.cell 4 rfl 1 rfl⟩ (λhHeld=>?_);clear hK K hHeld fz lz q0 q1 k5;generalize(w9.setCell ⟨w.heap.size+1+1+1,0,none⟩ (.int .i64 0)).setCell ⟨w.heap.size+1+1+1,1,none⟩ (.int .i64 0)=vQ at k7⊢;refine wpAnyH_done (by kernel_rfl) ?_ _;refine NoPanic.normal ?_;have K7:=qh k7;clear k7;go_wp2_with fail;refine leaves_cons (f:=79) (args:=#[.pointer (some ⟨w.heap.size,0,none⟩),.pointer (some ⟨w.heap.size+1,0,none⟩),.pointer (some ⟨w.heap.size+1+1,0,none⟩),.pointer (some ⟨w.heap.size+1+1+1,0,none⟩)]) (by simp) (by simp[go_sem]) ?_;refine(Jg _ _ _ _ _).mono ?_
   rintro e u' Mq ⟨rfl,rfl,rfl⟩
   have a0:=K7.out.cell 1 rfl 0 rfl;have a1:=K7.out.cell 1 rfl 1 rfl;have a2:=K7.out.cell 1 rfl 2 rfl;have b0:=K7.out.cell 2 rfl 0 rfl;have c0:=K7.out.cell 3 rfl 0 rfl;have d0:=K7.out.cell 4 rfl 0 rfl;have d1:=K7.out.cell 4 rfl 1 rfl;simp[Leaves,settle,results,results43,go_sem,a0,a1,a2,b0,c0,d0,d1];have PG:=aa8.o;have Nr:=WU.o;exact aY.o pg _ _ _ cb v2 d mV _ HT.o HV.o Vr.o ZV.o (by omega) (by omega) (K7.out.pick [0,5,6,9,10])
  ·have h6:Sat w0 w5 [Fr,ay (w.heap.size) (.cells #[.slice na NN nc,.slice ta TN tc,.int .i64 (pg.main:Nat)] 31 (0,0)),ay (w.heap.size+1) (.cells #[.slice none 0 0] 36 (0,0)),ay (w.heap.size+1+1) (.cells #[.map none] 89 (0,0)),ay (w.heap.size+1+1+1) (.cells #[.int .i64 0,.int .i64 0] 25 (0,0))]:=(H4.o.join (h5.unpack (i:=0) rfl)).pick [0,1,2,3,4];have HM:=qh hm;clear h5 hm H4 HC XZ;refine leaves_cons (f:=79) (args:=#[.pointer (some ⟨w.heap.size,0,none⟩),.pointer (some ⟨w.heap.size+1,0,none⟩),.pointer (some ⟨w.heap.size+1+1,0,none⟩),.pointer (some ⟨w.heap.size+1+1+1,0,none⟩)]) (by simp) (by simp[go_sem]) ?_;refine(RW h6 f).mono ?_
   rintro e u' Mq ⟨rfl,rfl,h9⟩
   have a0:=h9.cell 1 rfl 0 rfl;have a1:=h9.cell 1 rfl 1 rfl;have a2:=h9.cell 1 rfl 2 rfl;have b0:=h9.cell 2 rfl 0 rfl;have c0:=h9.cell 3 rfl 0 rfl;have d0:=h9.cell 4 rfl 0 rfl;have d1:=h9.cell 4 rfl 1 rfl;simp[Leaves,settle,results,results43,go_sem,a0,a1,a2,b0,c0,d0,d1];exact aB.o f _ (.inr ⟨pg,HT.o,Ib HM.o⟩) (h9.pick [0])
 ·have Gk:=lE ht;obtain⟨fe,fp⟩:=f;dsimp only at Gk;have e2: ((fe:Int) !=0)=true:=by simp;omega
  have h3:Sat w0 w1 [Fr,ay (w.heap.size) (.cells #[.slice none 0 0,.slice none 0 0,.int .i64 0] 31 (0,0)),ay (w.heap.size+1) (.cells #[.slice none 0 0] 36 (0,0)),ay (w.heap.size+1+1) (.cells #[.map none] 89 (0,0)),ay (w.heap.size+1+1+1) (.cells #[.int .i64 0,.int .i64 0] 25 (0,0))]:=(h2.unpack (i:=0) rfl).pick [0,1,2,3,4];have h4:Sat w0 (((((w1.setCell ⟨w.heap.size,0,none⟩ (.slice none 0 0)).setCell ⟨w.heap.size,1,none⟩ (.slice none 0 0)).setCell ⟨w.heap.size,2,none⟩ (.int .i64 0)).setCell ⟨w.heap.size+1+1+1,0,none⟩ (.int .i64 (fe:Nat))).setCell ⟨w.heap.size+1+1+1,1,none⟩ (.int .i64 (fp:Nat))) [Fr,ay (w.heap.size) (.cells #[.slice none 0 0,.slice none 0 0,.int .i64 0] 31 (0,0)),ay (w.heap.size+1) (.cells #[.slice none 0 0] 36 (0,0)),ay (w.heap.size+1+1) (.cells #[.map none] 89 (0,0)),ay (w.heap.size+1+1+1) (.cells #[.int .i64 (fe:Nat),.int .i64 (fp:Nat)] 25 (0,0))]:=((((h3.store 1 rfl 0 (.slice none 0 0)).store 1 rfl 1 (.slice none 0 0)).store 1 rfl 2 (.int .i64 0)).store 4 rfl 0 (.int .i64 (fe:Nat))).store 4 rfl 1 (.int .i64 (fp:Nat));have fa:=h3.free 1 rfl;have fd:=h3.free 4 rfl;have la:=h3.lt 1 rfl;have ld:=h3.lt 4 rfl;have a0:=h3.cell 1 rfl 0 rfl;have a1:=h3.cell 1 rfl 1 rfl;have a2:=h3.cell 1 rfl 2 rfl;have d0:=h3.cell 4 rfl 0 rfl;have d1:=h3.cell 4 rfl 1 rfl;have n14:=h3.ne 1 4 (by decide) rfl rfl;have H4:=qh h4;have HT:=qh ht;clear h2 h3 h4 ht Gk Ll Hu;dsimp only[bY];go_wp2_with fail;generalize((((w1.setCell ⟨w.heap.size,0,none⟩ (.slice none 0 0)).setCell ⟨w.heap.size,1,none⟩ (.slice none 0 0)).setCell ⟨w.heap.size,2,none⟩ (.int .i64 0)).setCell ⟨w.heap.size+1+1+1,0,none⟩ (.int .i64 (fe:Nat))).setCell ⟨w.heap.size+1+1+1,1,none⟩ (.int .i64 (fp:Nat))=w2 at H4⊢;clear fa fd la ld a0 a1 a2 d0 d1 n14;have hS:w2.drew.cell? ⟨w.heap.size,0,none⟩=some (.slice none 0 0)∧w2.drew.cell? ⟨w.heap.size,1,none⟩=some (.slice none 0 0)∧w2.drew.cell? ⟨w.heap.size,2,none⟩=some (.int .i64 0)∧w2.drew.cell? ⟨w.heap.size+1+1+1,0,none⟩=some (.int .i64 (fe:Nat))∧w2.drew.cell? ⟨w.heap.size+1+1+1,1,none⟩=some (.int .i64 (fp:Nat)):=⟨H4.o.drew.cell 1 rfl 0 rfl,H4.o.drew.cell 1 rfl 1 rfl,H4.o.drew.cell 1 rfl 2 rfl,H4.o.drew.cell 4 rfl 0 rfl,H4.o.drew.cell 4 rfl 1 rfl⟩
  refine wp_region_noPanic ?_;refine wp_region_held_drew (S:=λw'=>w'.cell? ⟨w.heap.size,0,none⟩=some (.slice none 0 0)∧w'.cell? ⟨w.heap.size,1,none⟩=some (.slice none 0 0)∧w'.cell? ⟨w.heap.size,2,none⟩=some (.int .i64 0)∧w'.cell? ⟨w.heap.size+1+1+1,0,none⟩=some (.int .i64 (fe:Nat))∧w'.cell? ⟨w.heap.size+1+1+1,1,none⟩=some (.int .i64 (fp:Nat))) (by kernel_rfl) hS (λhS=>?_);refine mT 0 ?_;refine mT 1 ?_;clear hS;have h9:=H4.o;have fz:=h9.free 1 rfl;have lz:=h9.lt 1 rfl;have q0:=h9.cell 1 rfl 0 rfl;have q1:=h9.cell 1 rfl 1 rfl;have q2:=h9.cell 1 rfl 2 rfl;refine wpAnyH_ready (rs:=[2]) (by kernel_rfl) (by simp) ?_;refine AllReadyH.cons rfl (λK hK=>?_) AllReadyH.nil;go_simp;have k3:Sat w0 ((((w2.setCell ⟨w.heap.size,0,none⟩ (.slice none 0 0)).setCell ⟨w.heap.size,1,none⟩ (.slice none 0 0)).setCell ⟨w.heap.size,2,none⟩ (.int .i64 0)).drew) [Fr,ay (w.heap.size) (.cells #[.slice none 0 0,.slice none 0 0,.int .i64 0] 31 (0,0)),ay (w.heap.size+1) (.cells #[.slice none 0 0] 36 (0,0)),ay (w.heap.size+1+1) (.cells #[.map none] 89 (0,0)),ay (w.heap.size+1+1+1) (.cells #[.int .i64 (fe:Nat),.int .i64 (fp:Nat)] 25 (0,0))]:=((h9.drew.store 1 rfl 0 (.slice none 0 0)).store 1 rfl 1 (.slice none 0 0)).store 1 rfl 2 (.int .i64 0);refine hK.out _ _ ⟨k3.cell 1 rfl 0 rfl,k3.cell 1 rfl 1 rfl,k3.cell 1 rfl 2 rfl,k3.cell 4 rfl 0 rfl,k3.cell 4 rfl 1 rfl⟩ (λhHeld=>?_);clear hK K hHeld fz lz q0 q1 q2 h9;generalize(((w2.setCell ⟨w.heap.size,0,none⟩ (.slice none 0 0)).setCell ⟨w.heap.size,1,none⟩ (.slice none 0 0)).setCell ⟨w.heap.size,2,none⟩ (.int .i64 0)).drew=w7 at k3⊢;have fz:=k3.free 2 rfl;have lz:=k3.lt 2 rfl;have q0:=k3.cell 2 rfl 0 rfl;refine wpAnyH_ready (rs:=[3]) (by kernel_rfl) (by simp) ?_;refine AllReadyH.cons rfl (λK hK=>?_) AllReadyH.nil;go_simp;have k4:Sat w0 (w7.setCell ⟨w.heap.size+1,0,none⟩ (.slice none 0 0)) [Fr,ay (w.heap.size) (.cells #[.slice none 0 0,.slice none 0 0,.int .i64 0] 31 (0,0)),ay (w.heap.size+1) (.cells #[.slice none 0 0] 36 (0,0)),ay (w.heap.size+1+1) (.cells #[.map none] 89 (0,0)),ay (w.heap.size+1+1+1) (.cells #[.int .i64 (fe:Nat),.int .i64 (fp:Nat)] 25 (0,0))]:=k3.store 2 rfl 0 (.slice none 0 0);refine hK.out _ _ ⟨k4.cell 1 rfl 0 rfl,k4.cell 1 rfl 1 rfl,k4.cell 1 rfl 2 rfl,k4.cell 4 rfl 0 rfl,k4.cell 4 rfl 1 rfl⟩ (λhHeld=>?_);clear hK K hHeld fz lz q0 k3;generalize w7.setCell ⟨w.heap.size+1,0,none⟩ (.slice none 0 0)=w8 at k4⊢;have fz:=k4.free 3 rfl;have lz:=k4.lt 3 rfl;have q0:=k4.cell 3 rfl 0 rfl;refine wpAnyH_ready (rs:=[4]) (by kernel_rfl) (by simp) ?_;refine AllReadyH.cons rfl (λK hK=>?_) AllReadyH.nil;go_simp;have k5:Sat w0 (w8.setCell ⟨w.heap.size+1+1,0,none⟩ (.map none)) [Fr,ay (w.heap.size) (.cells #[.slice none 0 0,.slice none 0 0,.int .i64 0] 31 (0,0)),ay (w.heap.size+1) (.cells #[.slice none 0 0] 36 (0,0)),ay (w.heap.size+1+1) (.cells #[.map none] 89 (0,0)),ay (w.heap.size+1+1+1) (.cells #[.int .i64 (fe:Nat),.int .i64 (fp:Nat)] 25 (0,0))]:=k4.store 3 rfl 0 (.map none);refine hK.out _ _ ⟨k5.cell 1 rfl 0 rfl,k5.cell 1 rfl 1 rfl,k5.cell 1 rfl 2 rfl,k5.cell 4 rfl 0 rfl,k5.cell 4 rfl 1 rfl⟩ (λhHeld=>?_);clear hK K hHeld fz lz q0 k4;generalize w8.setCell ⟨w.heap.size+1+1,0,none⟩ (.map none)=w9 at k5⊢;have fz:=k5.free 4 rfl;have lz:=k5.lt 4 rfl;have q0:=k5.cell 4 rfl 0 rfl;have q1:=k5.cell 4 rfl 1 rfl;refine wpAnyH_ready (rs:=[5]) (by kernel_rfl) (by simp) ?_;refine AllReadyH.cons rfl (λK hK=>?_) AllReadyH.nil;go_simp;have k7:Sat w0 ((w9.setCell ⟨w.heap.size+1+1+1,0,none⟩ (.int .i64 (fe:Nat))).setCell ⟨w.heap.size+1+1+1,1,none⟩ (.int .i64 (fp:Nat))) [Fr,ay (w.heap.size) (.cells #[.slice none 0 0,.slice none 0 0,.int .i64 0] 31 (0,0)),ay (w.heap.size+1) (.cells #[.slice none 0 0] 36 (0,0)),ay (w.heap.size+1+1) (.cells #[.map none] 89 (0,0)),ay (w.heap.size+1+1+1) (.cells #[.int .i64 (fe:Nat),.int .i64 (fp:Nat)] 25 (0,0))]:=(k5.store 4 rfl 0 (.int .i64 (fe:Nat))).store 4 rfl 1 (.int .i64 (fp:Nat));refine hK.out _ _ ⟨k7.cell 1 rfl 0 rfl,k7.cell 1 rfl 1 rfl,k7.cell 1 rfl 2 rfl,k7.cell 4 rfl 0 rfl,k7.cell 4 rfl 1 rfl⟩ (λhHeld=>?_);clear hK K hHeld fz lz q0 q1 k5;generalize(w9.setCell ⟨w.heap.size+1+1+1,0,none⟩ (.int .i64 (fe:Nat))).setCell ⟨w.heap.size+1+1+1,1,none⟩ (.int .i64 (fp:Nat))=vQ at k7⊢;refine wpAnyH_done (by kernel_rfl) ?_ _;refine NoPanic.normal ?_;have K7:=qh k7;clear k7;go_wp2_with fail;have a0:=K7.out.cell 1 rfl 0 rfl;have a1:=K7.out.cell 1 rfl 1 rfl;have a2:=K7.out.cell 1 rfl 2 rfl;have b0:=K7.out.cell 2 rfl 0 rfl;have c0:=K7.out.cell 3 rfl 0 rfl;have d0:=K7.out.cell 4 rfl 0 rfl;have d1:=K7.out.cell 4 rfl 1 rfl;simp[bodyPostD,Leaves,settle,results,results43,go_sem,a0,a1,a2,b0,c0,d0,d1];exact aB.o (fe,fp) _ (.inl HT.o) (K7.out.pick [0])
end
end Go.Proofs.YtdlbhiaceheffabGreatDoor
