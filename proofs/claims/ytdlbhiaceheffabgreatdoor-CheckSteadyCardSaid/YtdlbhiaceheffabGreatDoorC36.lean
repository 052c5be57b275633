/- The program's visit at all trees. -/
import Derived.Shelf.GgSortFunc.RowK
import Derived.Shelf.SlSortCmp.NoneTotal
import Derived.Test.YtdlbhiaceheffabGreatDoorC31
import Derived.Test.YtdlbhiaceheffabGreatDoorC35
set_option linter.all false
set_option maxRecDepth 100000
set_option maxHeartbeats 8000000
namespace Go.Proofs.YtdlbhiaceheffabGreatDoor
open Go Go.RowKit Ty Tok Prt Tryz Proofs.Tryz
section
open Ty (Frm Vg aK Ex Sm Par dW my mJ jT jh uz aw eD fu aI cE gC gK eP fw bQ jc jl fJ dY af)
namespace Ty
abbrev VE(e:Ex)(a:Nat):eW:=λfrs v=>aK (bQ e a frs v) λv=>.ok (frs,v)
def VS(e:Sm)(a:Nat):eW
 |[],v=>.ok ([],v)
 |fr::l,v=>aK (dY e a fr l v) λr=>.ok (r.1::l,r.2)
def Dt:List Ex->Nat->List (Nat×eW)
 |[],_=>[]
 |e::l,a=>(aw e,VE e a)::Dt l (a+aw e)
def Df:List (Nat×BA×Ex)->Nat->List (Nat×eW)
 |[],_=>[]
 |(_,_,e)::l,a=>(aw e+1,VE e a)::Df l (a+aw e+1)
def oK:List Sm->Nat->List (Nat×eW)
 |[],_=>[]
 |e::l,a=>(cE e,VS e a)::oK l (a+cE e)
theorem vt:∀(l:List Ex)(a:Nat),dy (Dt l a)=eD l
 |[],_=>by rw[eD];rfl
 |e::l,a=>by rw[Dt,cu,vt l,eD]
theorem BJ:∀(l:List (Nat×BA×Ex))(a:Nat),dy (Df l a)=fu l
 |[],_=>by rw[fu];rfl
 |(_,_,e)::l,a=>by rw[Df,cu,BJ l,fu]
theorem rS:∀(l:List Sm)(a:Nat),dy (oK l a)=aI l
 |[],_=>by rw[aI];rfl
 |e::l,a=>by rw[oK,cu,rS l,aI]
theorem Aq:∀(l:List Ex)(a:Nat)(frs:List Frm)(v:Vg),dP ((Dt l a).map Prod.snd) frs v=aK (jc l a frs v) λv=>.ok (frs,v)
 |[],_,_,_=>by rw[jc];rfl
 |e::l,a,frs,v=>by
  rw[Dt,jc,List.map_cons,dP,aR,aR];congr 1;funext r;rw[fP,Aq l]
theorem GZ:∀(l:List (Nat×BA×Ex))(a:Nat)(frs:List Frm)(v:Vg),dP ((Df l a).map Prod.snd) frs v=aK (jl l a frs v) λv=>.ok (frs,v)
 |[],_,_,_=>by rw[jl];rfl
 |(_,_,e)::l,a,frs,v=>by
  rw[Df,jl,List.map_cons,dP,aR,aR];congr 1;funext r;rw[fP,GZ l]
theorem pX:∀(l:List Sm)(a:Nat)(fr:Frm)(frs:List Frm)(v:Vg),dP ((oK l a).map Prod.snd) (fr::frs) v=aK (fJ l a fr frs v) λr=>.ok (r.1::frs,r.2)
 |[],_,_,_,_=>by rw[fJ];rfl
 |e::l,a,fr,frs,v=>by
  rw[fJ,aR];show aK (aK (dY e a fr frs v) λr=>.ok (r.1::frs,r.2)) (λr=>dP ((oK l (a+cE e)).map Prod.snd) r.1 r.2)= _;rw[aR];congr 1;funext r;rw[fP,pX l]
theorem O0(l:List Sm)(a:Nat):Yn (oK l a):=λfr m v dG v' h=>by
 rw[pX]at h
 cases hq:fJ l a fr m v with
 |error f=>rw[hq]at h;cases h
 |ok r=>rw[hq]at h;cases h;exact⟨_,rfl⟩
def M8:List Par->Nat->List (BA×Nat)
 |[],_=>[]
 |q::ps,a=>(q.text,a)::M8 ps (a+1)
theorem zI:∀(ps:List Par)(a:Nat),(M8 ps a).length=ps.length
 |[],_=>rfl
 | _::l,a=>by rw[M8,List.length_cons,zI l,List.length_cons]
theorem DC:∀(ps:List Par)(a:Nat)(fr:Frm)(frs:List Frm)(v:Vg),fI (M8 ps a) (fr::frs) v=((jm ps a fr v).1::frs,(jm ps a fr v).2)
 |[],_,_,_,_=>rfl
 |q::ps,a,fr,frs,v=>by
  show fI (M8 ps (a+1)) (addN fr q.text a::frs) (v7 v a fr.of)= _;rw[DC ps];rfl
end Ty
open Ty (VE VS Dt Df oK)
theorem MD{wB:World}{nv tv:Value}{pg:Ty.Pg}(hP:PB wB nv tv pg):∀(l:List Par)(a:Nat),uz pg.ns l a->(fw l a).length=(M8 l a).length/\
  ∀i(h1:i<(fw l a).length)(h2:i<(M8 l a).length),∃q ty,pg.ns[(fw l a)[i]]?=some {af 16 q with text:=(M8 l a)[i].1,ty:=ty}/\(M8 l a)[i].2=(fw l a)[i]/\(M8 l a)[i].1.size<=maxLen
 |[],a,_=>⟨rfl,λi h=>absurd h (by simp[fw])⟩
 |q::l,a,h=>by
  obtain⟨h1,h2⟩:=MD hP l (a+1) h.2;refine⟨by rw[mM,zI],λi k1 k2=>?_⟩;cases i with
  |zero=>
   obtain⟨_,_,_,_,_,_,_,_,_,_,hk,_⟩:=hP.look h.1;exact⟨q.pos,q.ty,h.1,rfl,by have:=hk.size;simp only[af]at this;show q.text.size<=_;unfold maxLen;omega⟩
  |succ i=>exact h2 i (by simpa [fw]using k1) (by simpa [M8]using k2)
section
variable {wB:World} {nv tv:Value} {pg:Ty.Pg} {bb:Nat} {main:Int}
theorem ib.nil:ib wB nv tv bb main [] []:=⟨rfl,λj h=>absurd h (by simp)⟩
theorem jg.cons{id k:Nat}{F:eW}{ids:List Nat}{cs:List (Nat×eW)}(h:jg wB nv tv bb main id k F)(g:ib wB nv tv bb main ids cs):ib wB nv tv bb main (id::ids) ((k,F)::cs):=by
 refine⟨by rw[List.length_cons,List.length_cons,g.1],λj h1 h2=>?_⟩;cases j with
 |zero=>exact h
 |succ j=>exact g.2 j (by simpa using h1) (by simpa using h2)
theorem jg.to{id IE k k2:Nat}{F G:eW}(h:jg wB nv tv bb main id k F)(hi:id=IE)(hk:k<=k2)(hF:∀fr l v,F (fr::l) v=G (fr::l) v):jg wB nv tv bb main IE k2 G:=by
 subst hi;intro frs v c w Fr aa9 H hc R aD au;obtain⟨_,_,_,_,ho,_⟩:=H.iW;cases frs with
 |nil=>exact absurd rfl ho.ne
 |cons fr l=>
  exact h (fr::l) v c w Fr aa9 H (by omega) R (λdG v' w' hq h2=>aD dG v' w' (by rw[<-hF];exact hq) (h2.WN (by omega))) (λf w' hq h2=>au f w' (by rw[<-hF];exact hq) h2)
theorem gx(hP:PB wB nv tv pg){id IE:Nat}{nd:Nd}(hn:pg.ns[id]?=some nd)(hi:id=IE){ids:List Nat}{cs:List (Nat×eW)}(MW:aB nd=ids)(hC:ib wB nv tv bb main ids cs)
  (hk:nd.kind≠5/\nd.kind≠6/\nd.kind≠16/\nd.kind≠17/\nd.kind≠18/\nd.kind≠22/\nd.kind≠26) (qR:1<=nd.kind/\nd.kind<=26) (hc:nd.kind=20->0<=nd.c) (uQ:nd.list.length<=id) {K:Nat} (hK:dy cs<=K) {G:eW} (hG:∀fr l v,dP (cs.map Prod.snd) (fr::l) v=G (fr::l) v):jg wB nv tv bb main IE K G:=by
 subst MW;obtain⟨_,_,_,_,lW,_,_,_,_,_,_,hN⟩:=hP.look hn;exact(I4 hP hn hC hk qR hc (by omega)).to hi hK hG
def BV(b:List Sm)(a:Nat):eW
 |[],v=>.ok ([],v)
 |fr::l,v=>aK (fJ b a ⟨[],a+aI b,fr.of⟩ (fr::l) v) λr=>.ok (fr::l,r.2)
theorem A1(hP:PB wB nv tv pg){b:List Sm}{a bp:Nat}(hn:pg.ns[a+aI b]?=some {af 26 bp with list:=eP b a})(hC:ib wB nv tv bb main (eP b a) (oK b a)):jg wB nv tv bb main (a+aI b) (aI b+1) (BV b a):=by
 obtain⟨_,_,_,_,lW,_,_,_,_,_,_,hN⟩:=hP.look hn;have hl:=mD b a;refine(Jp hP hn hC (O0 b a) (by omega) (a+aI b)).to rfl (by rw[rS];omega) (λfr l v=>?_);show aK (dP ((oK b a).map Prod.snd) (⟨[],a+aI b,fr.of⟩::fr::l) v) _= _;rw[pX,aR];rfl
mutual
theorem hJ(hP:PB wB nv tv pg):∀(e:Ex)(a:Nat),dW pg.ns e a->jg wB nv tv bb main (a+aw e-1:Nat) (aw e) (VE e a)
 | .num _ _,a,h=>by
  rw[dW]at h
  exact gx hP h (by rw[aw];omega) (ids:=[]) (by simp[aB,af]) ib.nil (by simp[af]) (by simp[af]) (by simp[af]) (by simp[af]) (by simp[dy]) (λfr l v=>by simp only[VE,List.map_nil];rw[bQ];rfl)
 | .text _ _,a,h=>by
  rw[dW]at h
  exact gx hP h (by rw[aw];omega) (ids:=[]) (by simp[aB,af]) ib.nil (by simp[af]) (by simp[af]) (by simp[af]) (by simp[af]) (by simp[dy]) (λfr l v=>by simp only[VE,List.map_nil];rw[bQ];rfl)
 | .bool _ _,a,h=>by
  rw[dW]at h
  exact gx hP h (by rw[aw];omega) (ids:=[]) (by simp[aB,af]) ib.nil (by simp[af]) (by simp[af]) (by simp[af]) (by simp[af]) (by simp[dy]) (λfr l v=>by simp only[VE,List.map_nil];rw[bQ];rfl)
 | .null _,a,h=>by
  rw[dW]at h
  exact gx hP h (by rw[aw];omega) (ids:=[]) (by simp[aB,af]) ib.nil (by simp[af]) (by simp[af]) (by simp[af]) (by simp[af]) (by simp[dy]) (λfr l v=>by simp only[VE,List.map_nil];rw[bQ];rfl)
 | .var p x,a,h=>by
  rw[dW]at h
  exact(Rh hP h).to (by rw[aw];omega) (by rw[aw];omega) (λfr l v=>by simp only[VE];rw[bQ])
 | .fn p ps ty bp body,a,h=>by
  rw[dW]at h
  have hS:=qI hP body (a+ps.length) h.2.1;obtain⟨_,_,_,_,lW,_,_,_,_,_,_,hN⟩:=hP.look h.2.2.2;have hl:=mD body (a+ps.length);have h2:=Ta hP h.2.2.2 h.2.2.1 (MD hP ps a h.1) hS (O0 _ _) (by omega) (by rw[mM];omega);exact h2.to (by rw[aw];omega) (by rw[zI,rS,aw];omega) (λfr l v=>by
   show aK (dP _ (fI _ (⟨[],_,_⟩::fr::l) v).1 (fI _ (⟨[],_,_⟩::fr::l) v).2) _= _;simp only[VE];rw[bQ,DC,pX,aR,aR];rfl)
 | .call p e l,a,h=>by
  rw[dW]at h
  have h1:=hJ hP e a h.1;have h2:=ED hP l (a+aw e) h.2.1;exact gx hP h.2.2 (by rw[aw];omega) (by first|(simp[aB,af];done)|(simp[aB,af];rfl)) (h1.cons h2) (by simp[af]) (by simp[af]) (by simp[af]) (by have:=jw l (a+aw e);simp[af];omega) (by rw[cu,vt,aw];simp) (λfr m v=>by
   simp only[VE,List.map_cons,List.map_nil];rw[dP,bQ,aR,aR];congr 1;funext r;rw[fP,Aq])
 | .get p e x,a,h=>by
  rw[dW]at h
  have h1:=hJ hP e a h.1;exact gx hP h.2 (by rw[aw];omega) (by first|(simp[aB,af];done)|(simp[aB,af];rfl)) (h1.cons ib.nil) (by simp[af]) (by simp[af]) (by simp[af]) (by simp[af]) (by rw[cu,aw];simp[dy]) (λfr m v=>by
   simp only[VE,List.map_cons,List.map_nil];rw[iY,bQ])
 | .one p x e,a,h=>by
  rw[dW]at h
  have h1:=hJ hP e a h.1;exact gx hP h.2 (by rw[aw];omega) (by first|(simp[aB,af];done)|(simp[aB,af];rfl)) (h1.cons ib.nil) (by simp[af]) (by simp[af]) (by simp[af]) (by simp[af]) (by rw[cu,aw];simp[dy]) (λfr m v=>by
   simp only[VE,List.map_cons,List.map_nil];rw[iY,bQ])
 | .asX p e ty,a,h=>by
  rw[dW]at h
  have h1:=hJ hP e a h.1;exact gx hP h.2 (by rw[aw];omega) (by first|(simp[aB,af];done)|(simp[aB,af];rfl)) (h1.cons ib.nil) (by simp[af]) (by simp[af]) (by simp[af]) (by simp[af]) (by rw[cu,aw];simp[dy]) (λfr m v=>by
   simp only[VE,List.map_cons,List.map_nil];rw[iY,bQ])
 | .atX p e i,a,h=>by
  rw[dW]at h
  have h1:=hJ hP e a h.1;have h2:=hJ hP i (a+aw e) h.2.1;exact gx hP h.2.2 (by rw[aw];omega) (by first|(simp[aB,af];done)|(simp[aB,af];rfl)) (h1.cons (h2.cons ib.nil)) (by simp[af]) (by simp[af]) (by simp[af]) (by simp[af]) (by rw[cu,cu,aw];simp[dy]<;>omega) (λfr m v=>by
   simp only[VE,List.map_cons,List.map_nil];rw[dP,bQ,aR,aR];congr 1;funext r;rw[fP,iY])
 | .two p x e i,a,h=>by
  rw[dW]at h
  have h1:=hJ hP e a h.1;have h2:=hJ hP i (a+aw e) h.2.1;exact gx hP h.2.2 (by rw[aw];omega) (by first|(simp[aB,af];done)|(simp[aB,af];rfl)) (h1.cons (h2.cons ib.nil)) (by simp[af]) (by simp[af]) (by simp[af]) (by simp[af]) (by rw[cu,cu,aw];simp[dy]<;>omega) (λfr m v=>by
   simp only[VE,List.map_cons,List.map_nil];rw[dP,bQ,aR,aR];congr 1;funext r;rw[fP,iY])
 | .obj p l,a,h=>by
  rw[dW]at h
  have h2:=N6 hP l a h.1;exact gx hP h.2 (by rw[aw];omega) (by first|(simp[aB,af];done)|(simp[aB,af];rfl)) h2 (by simp[af]) (by simp[af]) (by simp[af]) (by have:=pS l a;simp[af];omega) (by rw[BJ,aw];simp) (λfr m v=>by
   simp only[VE];rw[bQ,GZ])
 | .arr p l,a,h=>by
  rw[dW]at h
  have h2:=ED hP l a h.1;exact gx hP h.2 (by rw[aw];omega) (by first|(simp[aB,af];done)|(simp[aB,af];rfl)) h2 (by simp[af]) (by simp[af]) (by simp[af]) (by have:=jw l a;simp[af];omega) (by rw[vt,aw];simp) (λfr m v=>by
   simp only[VE];rw[bQ,Aq])
theorem ED(hP:PB wB nv tv pg):∀(l:List Ex)(a:Nat),my pg.ns l a->ib wB nv tv bb main (gC l a) (Dt l a)
 |[],_,_=>ib.nil
 |e::l,a,h=>by
  rw[my]at h
  rw[gC,Dt];exact(hJ hP e a h.1).cons (ED hP l (a+aw e) h.2)
theorem N6(hP:PB wB nv tv pg):∀(l:List (Nat×BA×Ex))(a:Nat),mJ pg.ns l a->ib wB nv tv bb main (gK l a) (Df l a)
 |[],_,_=>ib.nil
 |(p,x,e)::l,a,h=>by
  rw[mJ]at h
  rw[gK,Df];have h1:=hJ hP e a h.1;exact(gx hP h.2.1 rfl (by first|(simp[aB,af];done)|(simp[aB,af];rfl)) (h1.cons ib.nil) (by simp[af]) (by simp[af]) (by simp[af]) (by simp[af]) (by rw[cu];simp[dy]) (λfr m v=>by
   simp only[VE,List.map_cons,List.map_nil];rw[iY])).cons (N6 hP l (a+aw e+1) h.2.2)
theorem qI(hP:PB wB nv tv pg):∀(l:List Sm)(a:Nat),jT pg.ns l a->ib wB nv tv bb main (eP l a) (oK l a)
 |[],_,_=>ib.nil
 |e::l,a,h=>by
  rw[jT]at h
  rw[eP,oK];exact(Xk hP e a h.1).cons (qI hP l (a+cE e) h.2)
theorem Xk(hP:PB wB nv tv pg):∀(e:Sm)(a:Nat),jh pg.ns e a->jg wB nv tv bb main (a+cE e-1:Nat) (cE e) (VS e a)
 | .fZ p x ty e,a,h=>by
  rw[jh]at h
  have h1:=hJ hP e a h.1;obtain⟨nb,Zi,qN⟩:=Wr e a h.1;exact(Qb hP h.2 Zi qN h1).to (by rw[cE];omega) (by rw[cE];omega) (λfr l v=>by
   simp only[VS,Bd];rw[dY];split
   ·rfl
   ·cases mh e<;>simp only[VE,aR,fP,if_true,if_false,Bool.false_eq_true,mI]<;>rfl)
 | .set p x e,a,h=>by
  rw[jh]at h
  have h1:=hJ hP e a h.1;exact(P9 hP h.2 h1).to (by rw[cE];omega) (by rw[cE];omega) (λfr l v=>by simp only[VS];rw[O9,dY];simp only[VE,aR,fP])
 | .print p e,a,h=>by
  rw[jh]at h
  have h1:=hJ hP e a h.1;exact gx hP h.2 (by rw[cE];omega) (by first|(simp[aB,af];done)|(simp[aB,af];rfl)) (h1.cons ib.nil) (by simp[af]) (by simp[af]) (by simp[af]) (by simp[af]) (by rw[cu,cE];simp[dy]) (λfr m v=>by
   simp only[VE,VS,List.map_cons,List.map_nil];rw[iY,dY];simp only[aR,fP])
 | .ret p e,a,h=>by
  rw[jh]at h
  have h1:=hJ hP e a h.1;exact gx hP h.2 (by rw[cE];omega) (by first|(simp[aB,af];done)|(simp[aB,af];rfl)) (h1.cons ib.nil) (by simp[af]) (by simp[af]) (by simp[af]) (by simp[af]) (by rw[cu,cE];simp[dy]) (λfr m v=>by
   simp only[VE,VS,List.map_cons,List.map_nil];rw[iY,dY];simp only[aR,fP])
 | .oL p e,a,h=>by
  rw[jh]at h
  have h1:=hJ hP e a h.1;exact gx hP h.2 (by rw[cE];omega) (by first|(simp[aB,af];done)|(simp[aB,af];rfl)) (h1.cons ib.nil) (by simp[af]) (by simp[af]) (by simp[af]) (by simp[af]) (by rw[cu,cE];simp[dy]) (λfr m v=>by
   simp only[VE,VS,List.map_cons,List.map_nil];rw[iY,dY];simp only[aR,fP])
 | .put p e x i,a,h=>by
  rw[jh]at h
  have h1:=hJ hP e a h.1;have h2:=hJ hP i (a+aw e) h.2.1;exact gx hP h.2.2 (by rw[cE];omega) (by first|(simp[aB,af];done)|(simp[aB,af];rfl)) (h1.cons (h2.cons ib.nil)) (by simp[af]) (by simp[af]) (by simp[af]) (by simp[af]) (by rw[cu,cu,cE];simp[dy]<;>omega) (λfr m v=>by
   simp only[VE,VS,List.map_cons,List.map_nil];rw[dY];simp only[dP,aR,fP])
 | .lay p e i j,a,h=>by
  rw[jh]at h
  have h1:=hJ hP e a h.1;have h2:=hJ hP i (a+aw e) h.2.1;have h3:=hJ hP j (a+aw e+aw i) h.2.2.1;exact gx hP h.2.2.2 (by rw[cE];omega) (by first|(simp[aB,af];done)|(simp[aB,af];rfl)) (h1.cons (h2.cons (h3.cons ib.nil))) (by simp[af]) (by simp[af]) (by simp[af]) (by simp[af]) (by rw[cu,cu,cu,cE];simp[dy]<;>omega) (λfr m v=>by
   simp only[VE,VS,List.map_cons,List.map_nil];rw[dY];simp only[dP,aR,fP])
 | .while_ p e bp b,a,h=>by
  rw[jh]at h
  have h1:=hJ hP e a h.1;have h2:=A1 hP h.2.2.1 (qI hP b (a+aw e) h.2.1);exact gx hP h.2.2.2 (by rw[cE];omega) (by first|(simp[aB,af];done)|(simp[aB,af];rfl)) (h1.cons (h2.cons ib.nil)) (by simp[af]) (by simp[af]) (by simp[af]) (by simp[af]) (by rw[cu,cu,cE];simp[dy]<;>omega) (λfr m v=>by
   simp only[VE,VS,List.map_cons,List.map_nil];rw[dY];simp only[dP,BV,aR,fP])
 | .if_ p e bp b none,a,h=>by
  rw[jh]at h
  have h1:=hJ hP e a h.1;have h2:=A1 hP h.2.2.1 (qI hP b (a+aw e) h.2.1);exact(PA hP h.2.2.2 h1 h2).to (by rw[cE];omega) (by rw[cE];omega) (λfr m v=>by
   simp only[VE,VS];rw[dY];simp only[dP,BV,aR,fP])
 | .if_ p e bp b (some (cp,c)),a,h=>by
  rw[jh]at h
  have h1:=hJ hP e a h.1;have h2:=A1 hP h.2.2.1 (qI hP b (a+aw e) h.2.1);have h3:=A1 hP h.2.2.2.2.1 (qI hP c (a+aw e+aI b+1) h.2.2.2.1);exact(PG hP h.2.2.2.2.2 h1 h2 h3).to (by rw[cE];omega) (by rw[cE];omega) (λfr m v=>by
   simp only[VE,VS];rw[dY];simp only[dP,BV,aR,fP])
end
end
end
section
open Go Go.RowKit Go.Sort
theorem vN{α:Type} [Inhabited α](enc:α->List Value)(k:Nat)(hk:∀x,(enc x).length=k)(W6:0<k)(l:List α): (flatK enc k l.toArray).toList=l.flatMap enc:=by
 have hl:∀l:List α,(l.flatMap enc).length=l.length*k:=λl=>by
  induction l with
  |nil=>simp
  |cons a l ih=>rw[List.flatMap_cons,List.length_append,ih,hk,List.length_cons,Nat.succ_mul,Nat.add_comm]
 apply List.ext_getElem?;intro t;by_cases ht:t<l.length*k
 ·have hq:t/k<l.length:=Nat.div_lt_of_lt_mul (by rwa [Nat.mul_comm]at ht);have hm:t%k<k:=Nat.mod_lt _ W6;have hf:=kU enc k hk l (t/k) hq (t%k) hm;rw[show t/k*k+t%k=t by rw[Nat.mul_comm];exact Nat.div_add_mod t k]at hf
  rw[hf,Array.getElem?_toList,Array.getElem?_eq_getElem (by simpa using ht)];have h1:=get_flatK enc k l.toArray t (by simpa using ht);rw[getElem!_pos _ t (by simpa using ht)]at h1
  rw[h1,List.getElem?_eq_getElem (by rw[hk];exact hm)];simp[hq,hk,hm]
 ·have h1: (l.flatMap enc)[t]?=none:=List.getElem?_eq_none (by rw[hl];omega);have h2: (flatK enc k l.toArray).toList[t]?=none:=List.getElem?_eq_none (by rw[Array.length_toList,size_flatK];simp;omega);rw[h1,h2]
section
variable {w:World} {e:TypeId} {size g m cap n:Nat} {xs:List Value} {os:Array Obj}
theorem JK{α:Type} [Inhabited α](enc:α->Value)(F:Array α):w.grownBy (grow (putRow enc (Sort.ahead w n) g 0 F) os) (some g):=by
 refine⟨rfl,rfl,rfl,by simp,λk hk eR=>?_⟩;rw[heap_grow_old _ _ (by simpa using hk)];have:g≠k:=λe=>eR (by rw[e])
 simp[putRow,mapBlock,Sort.ahead,Array.getElem?_modify,this]
theorem Kw(h:w.ownsRow 0 e size (.slice (some ⟨g,0,none⟩) m cap) m xs):Holds id w g 0 xs.toArray:=by
 rcases h.2 with⟨h1,_⟩|⟨g',x9,cur,h1,_,hb,_,_,hs,ht⟩
 ·cases h1
 ·cases h1;intro j hj;have acg:j<xs.length:=by simpa using hj
  have fK:j<m*size:=by rw[<-h.1];exact acg
  refine⟨?_,by simp[World.frozen?,hb]⟩;have h1: (cur.toList.take (m*size))[j]?=xs[j]?:=by rw[ht]
  rw[List.getElem?_take_of_lt fK]at h1
  simp only[World.cell?,hb,Nat.zero_add];simp only[Option.isSome_none,Bool.false_eq_true,if_false];rw[<-Array.getElem?_toList,h1];simp[acg]
theorem Ql(F:Array Value)(hF:F.size=m*size)(h:w.ownsRow 0 e size (.slice (some ⟨g,0,none⟩) m cap) m xs):
  (grow (putRow id (Sort.ahead w n) g 0 F) os).ownsRow 0 e size (.slice (some ⟨g,0,none⟩) m cap) m F.toList:=by
 rcases h.2 with⟨h1,_⟩|⟨g',x9,cur,h1,h0,hb,h3,h4,h5,h6⟩
 ·cases h1
 ·cases h1;have hg:g<w.heap.size:=(Array.getElem?_eq_some_iff.1 hb).1;refine⟨by simpa using hF,.inr ⟨g,cap,putCells id 0 F cur,rfl,h0,?_,h3,h4,by simp[putCells,h5],?_⟩⟩
  ·rw[heap_grow_old _ _ (by simpa using hg)];simp[putRow,mapBlock,Sort.ahead,Array.getElem?_modify,hb,onCells]
  ·apply List.ext_getElem?;intro j;by_cases hj:j<m*size
   ·have h8:m*size<=cap*size:=Nat.mul_le_mul_right _ h3;rw[List.getElem?_take_of_lt hj,Array.getElem?_toList];have fK:j<F.size:=by rw[hF];exact hj
    have yi:j<cur.size:=by rw[h5];omega
    simp[putCells,fK,yi]
   ·rw[List.getElem?_take_eq_none (by omega),List.getElem?_eq_none (by simp;omega)]
end
theorem Prt.Sat.sorted{w0 w:World}{L:List As}{e:TypeId}{size g m cap:Nat}{xs:List Value}(h:Sat w0 w L)(i:Nat)(hi:L[i]?=some (Prt.row e size (.slice (some ⟨g,0,none⟩) m cap) m xs))(F:Array Value)(hF:F.size=m*size)(n:Nat)(os:Array Obj):
  Sat w0 (Go.Sort.grow (putRow id (Sort.ahead w n) g 0 F) os) (L.set i (Prt.row e size (.slice (some ⟨g,0,none⟩) m cap) m F.toList)):=
 h.grow i hi (JK id F) (Ql F hF (h.row i hi)) (.inl rfl)
end
section
open Ty (Frm Vg aK)
theorem OL(a b c d:Nat)(w:World):
  CallsD prog 79 #[.pointer (some ⟨a,0,none⟩),.pointer (some ⟨b,0,none⟩),.pointer (some ⟨c,0,none⟩),.pointer (some ⟨d,0,none⟩)] .returning w λe u' w'=>e=.returned (.tuple #[])/\u'=.returning/\w'=w:=by
 refine callsD_of_wpS func79 rfl λvx cs hu=>?_
 apply wpS_seq;apply wpS_region;simp[wpOpsS,go_sem,recoverD,hu,ntmps79,Exit.thenS];apply wpS_seq;apply wpS_region;simp[wpOpsS,go_sem,Exit.thenS];refine wpS_cond (t:=false) (by simp[Act.eval,Array.replicate]) ?_;simp only[Bool.false_eq_true,if_false];refine wpS_of_wp (wp_skip ?_);cases vx;simp_all[bodyPostS,results,results79]
abbrev agL:Obj:=.cells #[.slice none 0 0,.slice none 0 0,.int .i64 0] 31 (0,0)
theorem V7{w0 w:World}{Fr:As}{a b c d:Nat}{x0 x1 x2 y z f0 f1:Value}{L:List As}(H:Sat w0 w (Fr::ax a (.cells #[x0,x1,x2] 31 (0,0))::ax b (.cells #[y] 36 (0,0))::ax c (.cells #[z] 89 (0,0))::ax d (.cells #[f0,f1] 25 (0,0))::L))(f:Ty.Ft):
  CallsD prog 79 #[.pointer (some ⟨a,0,none⟩),.pointer (some ⟨b,0,none⟩),.pointer (some ⟨c,0,none⟩),.pointer (some ⟨d,0,none⟩)] (.panicking (aO f)) w λe u' w'=>
   e=.returned (.tuple #[])/\u'=.panicking [{v:=.iface 25 (bm f),recovered:=true}]/\
   Sat w0 w' (Fr::ax a agL::ax b (.cells #[.slice none 0 0] 36 (0,0))::ax c (.cells #[.map none] 89 (0,0))::ax d (.cells #[.int .i64 f.1,.int .i64 f.2] 25 (0,0))::L):=by
 have a0:=H.cell 1 0;have a1:=H.cell 1 1;have a2:=H.cell 1 2;have b0:=H.cell 2 0;have c0:=H.cell 3 0;have d0:=H.cell 4 0;have d1:=H.cell 4 1;have fa:=H.free 1 rfl;have fb:=H.free 2 rfl;have fc:=H.free 3 rfl;have fd:=H.free 4 rfl;have n12:=H.ne 1 2 (by decide) rfl rfl;have n13:=H.ne 1 3 (by decide) rfl rfl;have n14:=H.ne 1 4 (by decide) rfl rfl;have n23:=H.ne 2 3 (by decide) rfl rfl;have n24:=H.ne 2 4 (by decide) rfl rfl;have n34:=H.ne 3 4 (by decide) rfl rfl;have ad0:=sq f.1 f.2;have HH:=qh H;refine callsD_of_wpS func79 rfl λvx cs hu=>?_
 clear H;unfold aO at hu;apply wpS_seq;apply wpS_region;simp[wpOpsS,go_sem,recoverD,hu,ntmps79,Exit.thenS];apply wpS_seq;apply wpS_region;simp[wpOpsS,go_sem,Exit.thenS];refine wpS_cond (t:=true) (by simp[Act.eval,Array.replicate]) ?_;simp only[if_true];refine wpS_of_wp ?_;unfold bm
 go_region
 all_goals
  simp[bodyPostS,results,results79,bm];exact(((((((HH.o.store 1 rfl 0 (.slice none 0 0)).store 1 rfl 1 (.slice none 0 0)).store 1 rfl 2 (.int .i64 0)).store 2 rfl 0 (.slice none 0 0)).store 3 rfl 0 (.map none)).store 4 rfl 0 (.int .i64 f.1)).store 4 rfl 1 (.int .i64 f.2)).drew
end
section
open Go Go.RowKit Go.Sort
abbrev Bq:={p:Nat×Nat//p.1<=1000000}
instance :Inhabited Bq:=⟨⟨(0,0),by decide⟩⟩
def qu(x:Bq):List Value:=gN x.1
def Bp(x y:Bq):Int:=(x.1.1:Int)-y.1.1
theorem Wt(x y:Bq):ltOf Bp x y=decide (x.1.1<y.1.1):=by
 unfold ltOf Bp;by_cases h:x.1.1<y.1.1
 ·simp[h];omega
 ·simp[h];omega
theorem Sl{cf:Bq->Bq->Int}(h:∀x y,ltOf cf x y=decide (x.1.1<y.1.1)):SWO (ltOf cf) where
 irrefl x:=by rw[h];simp
 trans x y z h1 h2:=by rw[h]at*;simp at*;omega
 ntrans x y z h1 h2:=by rw[h]at*;simp at*;omega
theorem Ky(x y:Bq)(W:World):Calls prog 84 #[.agg #[.int .i64 (x.1.1:Nat),.int .i64 (x.1.2:Nat)],.agg #[.int .i64 (y.1.1:Nat),.int .i64 (y.1.2:Nat)]] W λe w'=>e=.returned (.int .i64 (Bp x y))/\∃q aaP,w'=grow (W.drewN q) aaP:=by
 have hw:=IntWalk.i64_in (n:=(x.1.1:Int)-y.1.1) (by have:=x.2;have:=y.2;omega);unfold Bp;obtain⟨⟨a,b⟩,ha⟩:=x;obtain⟨⟨c,d⟩,hc⟩:=y;dsimp only at*
 go_in;go_wp2_with fail
 go_ret
 refine⟨rfl,0,_,by rw[alloc_eq_grow,alloc_eq_grow,grow_grow];rfl⟩
theorem IH:∀l:List (Nat×Nat),(∀p∈l,p.1<=1000000)->∃k:List Bq,k.map Subtype.val=l
 |[],_=>⟨[],rfl⟩
 |p::l,h=>by
  obtain⟨k,hk⟩:=IH l λq hq=>h q (by simp[hq])
  exact⟨⟨p,h p (by simp)⟩::k,by simp[hk]⟩
theorem G4(k:List Bq):k.flatMap qu=(k.map Subtype.val).flatMap gN:=by
 induction k with
 |nil=>rfl
 |cons a k ih=>rw[List.flatMap_cons,List.map_cons,List.flatMap_cons,ih];rfl
theorem Fv{ρ:Go.Shelf.Ren}(la:SlLaysF0.n6 prog ρ)(T:TypeId)(aE:∀w,(isAgg (ρ.t 24)).run prog w=.ok true w)(zE:∀w,(Go.sizeOf (ρ.t 24)).run prog w=.ok 2 w)(cf:Bq->Bq->Int)(Yb:∀x y,ltOf cf x y=decide (x.1.1<y.1.1))(G:FuncId)(eG:∀args w,(callFunc G args).run prog w=.ok (.enter G args) w)
  (hG:∀(x y:Bq)(W:World),Calls prog G #[.agg #[.int .i64 (x.1.1:Nat),.int .i64 (x.1.2:Nat)],.agg #[.int .i64 (y.1.1:Nat),.int .i64 (y.1.2:Nat)]] W λe w'=>e=.returned (.int .i64 (cf x y))/\∃q aaP,w'=grow (W.drewN q) aaP)
  {w0 w:World} {L:List As} {ov:Value} {out:List (Nat×Nat)} (H:Sat w0 w L) (i:Nat) (hi:L[i]?=some (Prt.row T 2 ov out.length (out.flatMap gN))) (hn:∀p∈out,p.1<=1000000) (hl:out.length<=1000000) {R:EW}
  (hR:∀w'(d:List (Nat×Nat)),d.Perm out->d.Pairwise (λx y=>x.1<=y.1)->Sat w0 w' (L.set i (Prt.row T 2 ov d.length (d.flatMap gN)))->R (.returned (.tuple #[])) w'):
  Calls prog (ρ.f 6) #[ov,.func (.func G) #[] #[]] w R:=by
 have cg:=H.row i hi;by_cases h0:out=[]
 ·subst h0;obtain⟨oa,oc,rfl⟩:=ag cg;have hc:=AnyF.slices_SortFunc_none la oa oc (.func (.func G) #[] #[]) w;refine Calls.mono hc ?_
  rintro e w' ⟨rfl,rfl⟩
  exact hR w' [] (List.Perm.refl _) List.Pairwise.nil (H.cQ hi λ_ h=>h)
 ·obtain⟨g,cap,rfl,_,hg⟩:=cg.form (by have:=List.length_pos_iff.2 h0;omega);obtain⟨k,hk⟩:=IH out hn;subst hk;have hH:HoldsK qu 2 w g 0 k.toArray:=by
   unfold HoldsK;have h1: (flatK qu 2 k.toArray)=((k.map Subtype.val).flatMap gN).toArray:=by
    apply Array.toList_inj.1;rw[vN qu 2 (λ_=>rfl) (by decide),G4]
   rw[h1];exact Kw cg
  have hc:=AnyQ.slices_SortFunc la 2 aE zE qu (λ_=>rfl) (λx v hv=>by
   unfold qu gN at hv;rcases List.mem_cons.1 hv with rfl|hv
   ·rfl
   ·rw[List.mem_singleton.1 hv];rfl) cf (Sl Yb) G #[] g 0 cap k.toArray w eG (λ_ _ _ _ x y=>hG x y _) hH hg (by simp;simp at hl;omega)
  have he: (#[.slice (some ⟨g,0,none⟩) (k.map Subtype.val).length cap,.func (.func G) #[] #[]]:Array Value)=#[.slice (some ⟨g,0,none⟩) k.toArray.size cap,.func (.func G) #[] #[]]:=by simp
  rw[he];refine Calls.mono hc ?_
  rintro e w' ⟨rfl,d,n,os,hp,hs,rfl⟩
  have dU:d.size=k.length:=by have:=hp.1;simpa using this
  have WB:d.toList.Perm k:=by
   have h1:=hp.2.2;have e1:d.extract 0 k.toArray.size=d:=by
    rw[show k.toArray.size=d.size by simp[dU]];simp
   have e2:k.toArray.extract 0 k.toArray.size=k.toArray:=by simp
   rw[e1,e2]at h1
   simpa using h1
  have XZ: (d.toList.map Subtype.val).Pairwise (λx y=>x.1<=y.1):=by
   rw[List.pairwise_map,List.pairwise_iff_getElem];intro a b ha hb GJ;have h1:=hs a b (Nat.zero_le _) GJ (by simp;simp at hb;omega);rw[Yb,decide_eq_false_iff_not]at h1
   rw[getElem!_pos d b (by simpa using hb),getElem!_pos d a (by simpa using ha)]at h1
   simp only[Array.getElem_toList];omega
  have hF: (flatK qu 2 d).toList=(d.toList.map Subtype.val).flatMap gN:=by
   have h1:=vN qu 2 (λ_=>rfl) (by decide) d.toList;rw[Array.toArray_toList]at h1
   rw[h1,G4]
  have h2:=H.sorted i hi (flatK qu 2 d) (by simp[dU]) n os;refine hR _ (d.toList.map Subtype.val) (WB.map _) XZ ?_;have h3:Prt.row T 2 (.slice (some ⟨g,0,none⟩) (k.map Subtype.val).length cap) (k.map Subtype.val).length (flatK qu 2 d).toList=Prt.row T 2 (.slice (some ⟨g,0,none⟩) (k.map Subtype.val).length cap) (d.toList.map Subtype.val).length ((d.toList.map Subtype.val).flatMap gN):=by
   rw[hF];simp[dU]
  rw[<-h3];exact h2
theorem Ge{w0 w:World}{L:List As}{ov:Value}{out:List (Nat×Nat)}(H:Sat w0 w L)(i:Nat)(hi:L[i]?=some (wj ov out))(hn:∀p∈out,p.1<=1000000)(hl:out.length<=1000000){R:EW}
  (hR:∀w' d,d.Perm out->d.Pairwise (λx y=>x.1<=y.1)->Sat w0 w' (L.set i (wj ov d))->R (.returned (.tuple #[])) w'):
  Calls prog 83 #[ov,.func (.func 84) #[] #[]] w R:=
 Fv sortBd 43 isAgg43 sizeOf43 Bp Wt 84 (enters_of func84 (by kernel_rfl) rfl) Ky H i hi hn hl hR
end
section
open Ty (Frm Vg aK aI eP oK)
section
variable {wB:World} {nv tv:Value} {pg:Ty.Pg} {bb:Nat} {main:Int}
theorem Jz(hP:PB wB nv tv pg){mn bp:Nat}{ids:List Nat}(Iq:pg.ns[mn]?=some {Ty.af 26 bp with list:=ids}){cs:List (Nat×eW)}(hC:ib wB nv tv bb main ids cs)(CK:ids.length<=1000000)
  {frs:List Frm} {v:Vg} {c:Nat} {w:World} {Fr:As} (hF:ju wB Fr) {xb pb:Nat} (TT:pb<wB.heap.size) (p0:wB.cell? ⟨pb,0,none⟩=some nv) (p2:wB.cell? ⟨pb,2,none⟩=some (.int .i64 (mn:Nat)))
  (H:Sat wB w [aq [Fr,ax xb (.cells #[.pointer (some ⟨bb,0,none⟩)] 142 (0,0))],q_ bb nv tv main c frs v]) (hc:c+dy cs<=100000) {R:EW}
  (aD:∀dG v' w',dP (cs.map Prod.snd) frs v=.ok (dG,v')->Sat wB w' [aq [Fr,ax xb (.cells #[.pointer (some ⟨bb,0,none⟩)] 142 (0,0))],q_ bb nv tv main (c+dy cs) dG v']->R (.returned (.tuple #[])) w')
  (au:∀f w',dP (cs.map Prod.snd) frs v=.error f->Sat wB w' [aq [Fr,ax xb (.cells #[.pointer (some ⟨bb,0,none⟩)] 142 (0,0))]]->R (.panicked (aO f)) w'):
  Calls prog 81 #[.pointer (some ⟨xb,0,none⟩),.pointer (some ⟨pb,0,none⟩)] w R:=by
 obtain⟨g,cap,lv,rfl,lW,hg,hcap,E',hA,hl,_,hN⟩:=hP.look Iq;obtain⟨la,lc,rfl⟩:=ag hl;dsimp only at hl;have hu:=H.unpack 0 rfl;have y0:=hu.cell 2 0;have lM:=qh (hF.aq (M:=[ax xb (.cells #[.pointer (some ⟨bb,0,none⟩)] 142 (0,0))]));have hb:=lM.o w _ 0 H rfl;have acR:=hA.below hb;have c0:=av hb p0;have c2:=av hb p2;have c4:=acR.q4;dsimp only at c4;have fL:=qh aD;have bX:=qh au;have H1:=qh H;have ik:=qh hl;have afE:=qh p0;have Sv:=qh p2;have aev:=qh hA.q4;unfold maxLen at E';clear aD au H hu hF hA acR hb p0 p2 hP Iq hl;generalize pg.ns.length=N at*
 have e1: (0:Int)<=(mn:Int):=by omega
 have e2: (mn:Int)<(N:Int):=by omega
 have e3: ((mn:Int)).toNat=mn:=by omega
 go_in;go_wp2_with fail;refine wp_region_held_drew (S:=λw'=>w'.cell? ⟨xb,0,none⟩=some (.pointer (some ⟨bb,0,none⟩))/\w'.cell? ⟨pb,0,none⟩=some (.slice (some ⟨g,0,none⟩) N cap)/\w'.cell? ⟨pb,2,none⟩=some (.int .i64 (mn:Nat))/\w'.cell? ⟨g,mn*9+4,none⟩=some (.slice la ids.length lc)) (by kernel_rfl) ⟨y0,c0,c2,c4⟩ (λhS=>?_);refine ou 0 ?_;refine ou 1 ?_;refine ou 2 ?_;refine ou 3 ?_;refine ou 4 ?_;refine ou 5 ?_;refine ou 6 ?_;refine ou 7 ?_;refine wpAnyH_ready (rs:=[8]) (by kernel_rfl) (by simp) ?_;refine AllReadyH.cons rfl (λK hK=>?_) AllReadyH.nil;go_simp;refine pW (ids:=ids) (cs:=cs) lM.o hC.1 hC.2 (λw1 L i hs hi=>ay ik.o (lM.o w1 L i hs hi)) CK H1.o.drew hc ?_ ?_
 ·intro iZ v2 w8 nI h9;have LU:=lM.o w8 _ 0 h9 rfl;refine hK.out _ _ ⟨(h9.unpack 0 rfl).cell 2 0,av LU afE.o,av LU Sv.o,av LU aev.o⟩ (λhHeld=>?_);have HG:=qh (fL.o iZ v2 w8 nI h9);clear hK K hHeld nI h9 LU;refine wpAnyH_done (by kernel_rfl) ?_ _;go_wp2_with fail;go_end0;exact HG.o
 ·intro f w8 nI h9;exact⟨rfl,bX.o f w8 nI h9⟩
end
abbrev UX:Vg:=⟨[],λ_=>none,λ_=>false⟩
abbrev Oi(l:List Ty.Sm):Except Ty.Ft (List Frm×Vg):=dP ((oK l 0).map Prod.snd) [⟨[],aI l,-1⟩] UX
theorem GL{l:List Ty.Sm}{frs:List Frm}{v:Vg}(h:Oi l=.ok (frs,v)):lz l=.ok v/\∃fr,frs=[fr]:=by
 unfold Oi at h;rw[pX]at h
 unfold lz;cases hq:Ty.fJ l 0 ⟨[],aI l,-1⟩ [] UX with
 |error f=>rw[hq]at h;cases h
 |ok r=>rw[hq]at h;cases h;exact⟨rfl,_,rfl⟩
theorem LF{l:List Ty.Sm}{f:Ty.Ft}(h:Oi l=.error f):lz l=.error f:=by
 unfold Oi at h;rw[pX]at h
 unfold lz;cases hq:Ty.fJ l 0 ⟨[],aI l,-1⟩ [] UX with
 |error g=>rw[hq]at h;cases h;rfl
 |ok r=>rw[hq]at h;cases h
theorem Wm{wB:World}{nv tv:Value}{main:Int}(n:Nat)(hn:n=wB.heap.size):
  Sat wB ((((wB.alloc (.map #[] 0)).alloc (.map #[] 0)).alloc (.cells #[nv,tv,.int .i64 main,.slice none 0 0,.slice none 0 0,.map (some n),.map (some (n+1))] 145)).alloc (.cells #[.pointer (some ⟨n+1+1,0,none⟩)] 142))
   [aq [bY wB,ax (n+1+1+1) (.cells #[.pointer (some ⟨n+1+1,0,none⟩)] 142 (0,0))],FI (n+1+1) nv tv main [] UX 0 0]:=by
 subst hn;have h1:=(Sat.iN wB).Ak 3 3 wB.heap.size rfl uh;have h2:=h1.Ak 3 4 (wB.heap.size+1) (by simp) Br;have h3:=((((h2.ar (.cells #[nv,tv,.int .i64 main,.slice none 0 0,.slice none 0 0,.map (some wB.heap.size),.map (some (wB.heap.size+1))] 145) (wB.heap.size+1+1) (by simp)).ar (.cells #[.pointer (some ⟨wB.heap.size+1+1,0,none⟩)] 142) (wB.heap.size+1+1+1) (by simp)).nil 195 2).nil 43 2).jR (P:=kE []) (λ_=>trivial);have h4:=(Sat.pack (L:=[_,_,_,_,_,_]) (M:=[bY wB,ax (wB.heap.size+1+1+1) (.cells #[.pointer (some ⟨wB.heap.size+1+1,0,none⟩)] 142 (0,0))]) (h3.pick [3,5,6,1,2,7,0,4])).pick [6,0,1,2,3,4,5];exact Sat.Bb (v:=UX) (frs:=[]) (ms:=[]) rfl h4
theorem LN{w0 w:World}{Fr:As}(H:Sat w0 w [Fr])(s:BA)(hw:Words w)(hm:s.size<=maxLen){l:List Ty.Sm}(hl:∀pg:Ty.Pg,Ty.parse s=.ok pg->dm 0 l []=(pg.ns,pg.main)){R:EW}
  (aD:∀(pg:Ty.Pg) nv tv ov cb v d nc w',Ty.parse s=.ok pg->lz l=.ok v->d.Perm v.out->d.Pairwise (λx y=>x.1<=y.1)->nc<=100000->d.length<=100000->Sat w0 w' [Fr,C8 nv pg.ns,sA tv pg.ts,wj ov d,mapA 3 4 cb nc (dL v.ca)]->
   R (.returned (.tuple #[.agg #[nv,tv,.int .i64 (pg.main:Nat)],ov,.map (some cb),bm (0,0)])) w')
  (au:∀f w',(Ty.parse s=.error f\/∃pg:Ty.Pg,Ty.parse s=.ok pg/\lz l=.error f)->Sat w0 w' [Fr]->R (.returned (.tuple #[.agg #[.slice none 0 0,.slice none 0 0,.int .i64 0],.slice none 0 0,.map none,bm f])) w'):
  Calls prog 43 #[.string s] w R:=by
 have fL:=qh aD;have bX:=qh au;have VZ:=qh hm;have S6:=@run_makeMap prog;have h1:=(((H.ar (.cells #[.slice none 0 0,.slice none 0 0,.int .i64 0] 31) w.heap.size).ar (.cells #[.slice none 0 0] 36) (w.heap.size+1) (by simp)).ar (.cells #[.map none] 89) (w.heap.size+2) (by simp)).ar (.cells #[.int .i64 0,.int .i64 0] 25) (w.heap.size+3) (by simp);have H1:=qh (Sat.pack (L:=[]) h1)
 go_enter_defers func43,ntmps43
 go_wp2_with fail;refine yE H1.o s (hw.below ((((((bR _ _).alloc (nR _) _).alloc (by simp) _).alloc (by simp;omega) _).alloc (by simp;omega) _))) VZ.o (λpg nv tv w1 ht h2=>?_) (λf w1 ht h2=>?_)
 ·have h3:=(h2.unpack 0 rfl).pick [2,3,4,5,6,0,1];obtain⟨nr,G2,qo⟩:=h3.ng 5 rfl;obtain⟨tr,LJ,rN⟩:=h3.F5 6 rfl;obtain⟨na,nc,en⟩:=ag qo.row;obtain⟨ta,tc,et⟩:=ag rN.row;have fa:=h3.free 1 rfl;have fd:=h3.free 4 rfl;have a0:=h3.cell 1 0;have a1:=h3.cell 1 1;have a2:=h3.cell 1 2;have d0:=h3.cell 4 0;have d1:=h3.cell 4 1;have H3:=qh h3;have HT:=qh ht;subst en et;generalize nr.length=NN at*
  generalize tr.length=TN at*
  dsimp only[bm];go_wp2_with fail;have h4:=((((H3.o.store 1 rfl 0 (.slice na NN nc)).store 1 rfl 1 (.slice ta TN tc)).store 1 rfl 2 (.int .i64 (pg.main:Nat))).store 4 rfl 0 (.int .i64 0)).store 4 rfl 1 (.int .i64 0);have hz: (((((w1.setCell ⟨w.heap.size,0,none⟩ (.slice na NN nc)).setCell ⟨w.heap.size,1,none⟩ (.slice ta TN tc)).setCell ⟨w.heap.size,2,none⟩ (.int .i64 (pg.main:Nat))).setCell ⟨w.heap.size+1+1+1,0,none⟩ (.int .i64 0)).setCell ⟨w.heap.size+1+1+1,1,none⟩ (.int .i64 0)).heap.size=w1.heap.size:=by simp
  rw[show w.heap.size+3=w.heap.size+1+1+1 by omega]at h4
  generalize((((w1.setCell ⟨w.heap.size,0,none⟩ (.slice na NN nc)).setCell ⟨w.heap.size,1,none⟩ (.slice ta TN tc)).setCell ⟨w.heap.size,2,none⟩ (.int .i64 (pg.main:Nat))).setCell ⟨w.heap.size+1+1+1,0,none⟩ (.int .i64 0)).setCell ⟨w.heap.size+1+1+1,1,none⟩ (.int .i64 0)=W2 at h4 hz⊢;obtain⟨ZK,G2,qo⟩:=h4.ng 5 rfl;obtain⟨abl,LJ,rN⟩:=h4.F5 6 rfl;have DK:=lD HT.o;have hP:PB W2 (.slice na NN nc) (.slice ta TN tc) pg:=⟨⟨ZK,G2,qo⟩,⟨abl,LJ,rN⟩,DK⟩
  obtain⟨Ry,Iq,OI,lW⟩:=EZ (hl pg HT.o);have abR:=DK.o7;have WU:=mD l 0;have aaZ:=rS l 0;have ads:=Wm (wB:=W2) (nv:=.slice na NN nc) (tv:=.slice ta TN tc) (main:=(pg.main:Nat)) w1.heap.size hz.symm;have p0:=h4.cell 1 0;have p2:=h4.cell 1 2;have TT:=h4.lt 1;rw[OI]at p2
  have hC:=λb0 m0=>qI (bb:=b0) (main:=m0) hP l 0 Ry
  have H4:=qh h4;have aa7:=qh ads;have HC:=qh (λw5(h5:Sat W2 w5 [aq [bY W2,ax (w1.heap.size+1+1+1) (.cells #[.pointer (some ⟨w1.heap.size+1+1,0,none⟩)] 142 (0,0))],q_ (w1.heap.size+1+1) (.slice na NN nc) (.slice ta TN tc) (pg.main:Nat) 1 [⟨[],aI l,-1⟩] UX]) R aD au=>Jz (R:=R) hP Iq (hC _ _) (by omega) (ju.iN W2) TT p0 p2 h5 (by omega) aD au);have HS:Hq (dy (oK l 0)<=1200):=by show _<=_;omega
  have Cs:Hq (aI l+1<=1200):=by show _<=_;omega
  clear h4 G2 qo LJ rN DK hP Ry Iq OI lW WU aaZ ads p0 p2 TT hC hz H3;refine Cz 81 _ Tryz.call81 (owner:=aI l) (of:= -1) aa7.o (by simp) (m:=Oi l) (K:=λzq iZ v2 Bm oz=>Bm<=1+dy (oK l 0)/\oz<=1+dy (oK l 0)/\OkS (1+dy (oK l 0)) (zq::iZ) v2) (λw5 h5 R' EG wX=>?_) (λzq iZ v2 Bm oz w5 hK hm h5=>?_) (λf w5 hm h5=>?_)
  ·refine HC.o w5 (h5.vu (by omega) (by omega) ⟨by simp,by simp,by simp,by simp,by simp⟩) R' (λdG v' w' hq h6=>?_) wX;obtain⟨_,zq,rfl⟩:=GL hq;obtain⟨Bm,oz,g1,g2,g3,g4⟩:=h6.iW;exact EG zq [] v' Bm oz w' ⟨g1,g2,g3⟩ (by simp) hq g4
  ·obtain⟨hv,aeD,he⟩:=GL hm;injection he with e1 e2;subst e1 e2;have QE:=λp hp=>(MX hv p hp).1
   have aed:=hK.2.2.out;have ahu:=HS.o;have ahG:=Cs.o;obtain⟨sv,ov,wb,cb,ms,jE,h6⟩:=h5.ie;obtain⟨oa,oc,rfl⟩:=ag (h6.row 3);have h7:=(h6.unpack 0 rfl).pick [6,7,0,1,2,3,4,5];have x1:=h7.cell 1 0;have b4:=h7.cell 2 4;have HV:=qh hv;have H7:=qh h7;have afH:=qh hK.2.1;have aav:=qh QE;clear h5 h6 h7 hm jE hv hK QE;go_wp2_with fail;refine Ge H7.o 4 rfl (λp hp=>by have:=aav.o p hp;omega) (by omega) (λw6 d hp hs h8=>?_);have h9:Sat w0 w6 [Fr,ax (w.heap.size) (.cells #[.slice na NN nc,.slice ta TN tc,.int .i64 (pg.main:Nat)] 31 (0,0)),ax (w.heap.size+1) (.cells #[.slice none 0 0] 36 (0,0)),ax (w.heap.size+1+1) (.cells #[.map none] 89 (0,0)),ax (w.heap.size+1+1+1) (.cells #[.int .i64 0,.int .i64 0] 25 (0,0)),C8 (.slice na NN nc) pg.ns,sA (.slice ta TN tc) pg.ts,
    ax (w1.heap.size+1+1+1) (.cells #[.pointer (some ⟨w1.heap.size+1+1,0,none⟩)] 142 (0,0)),ax (w1.heap.size+1+1) (Ir (.slice na NN nc) (.slice ta TN tc) (pg.main:Nat) sv (.slice oa v2.out.length oc) wb cb),wj (.slice oa v2.out.length oc) d,mapA 3 4 cb oz (dL v2.ca)]:=(H4.o.join h8).pick [0,1,2,3,4,5,6,7,8,10,12]
   have UK:d.length=v2.out.length:=hp.length_eq;have x1:=h9.cell 7 0;have b4:=h9.cell 8 4;have hS:w6.drew.cell? ⟨w.heap.size,0,none⟩=some (.slice na NN nc)/\w6.drew.cell? ⟨w.heap.size,1,none⟩=some (.slice ta TN tc)/\w6.drew.cell? ⟨w.heap.size,2,none⟩=some (.int .i64 (pg.main:Nat))/\w6.drew.cell? ⟨w1.heap.size+1+1+1,0,none⟩=some (.pointer (some ⟨w1.heap.size+1+1,0,none⟩))/\w6.drew.cell? ⟨w1.heap.size+1+1,4,none⟩=some (.slice oa v2.out.length oc)/\w6.drew.cell? ⟨w1.heap.size+1+1,6,none⟩=some (.map (some cb))/\w6.drew.cell? ⟨w.heap.size+1+1+1,0,none⟩=some (.int .i64 0)/\w6.drew.cell? ⟨w.heap.size+1+1+1,1,none⟩=some (.int .i64 0):=⟨h9.drew.cell 1 0,h9.drew.cell 1 1,h9.drew.cell 1 2,h9.drew.cell 7 0,h9.drew.cell 8 4,h9.drew.cell 8 6,h9.drew.cell 4 0,h9.drew.cell 4 1⟩
   have H9:=qh h9;have adu:=qh UK;have Zy:=qh hp;have ags:=qh hs;clear h8 h9 UK hp hs H7 H4 HC aa7 S6;go_wp2_with fail;refine wp_region_noPanic ?_;refine wp_region_held_drew (S:=λw'=>w'.cell? ⟨w.heap.size,0,none⟩=some (.slice na NN nc)/\w'.cell? ⟨w.heap.size,1,none⟩=some (.slice ta TN tc)/\w'.cell? ⟨w.heap.size,2,none⟩=some (.int .i64 (pg.main:Nat))/\w'.cell? ⟨w1.heap.size+1+1+1,0,none⟩=some (.pointer (some ⟨w1.heap.size+1+1,0,none⟩))/\w'.cell? ⟨w1.heap.size+1+1,4,none⟩=some (.slice oa v2.out.length oc)/\w'.cell? ⟨w1.heap.size+1+1,6,none⟩=some (.map (some cb))/\w'.cell? ⟨w.heap.size+1+1+1,0,none⟩=some (.int .i64 0)/\w'.cell? ⟨w.heap.size+1+1+1,1,none⟩=some (.int .i64 0)) (by kernel_rfl) hS (λhS=>?_);refine ou 0 ?_;refine ou 1 ?_;refine ou 2 ?_;refine ou 3 ?_;refine ou 4 ?_;refine ou 5 ?_;refine ou 6 ?_;refine ou 7 ?_;refine ou 8 ?_;refine ou 9 ?_;clear hS x1 b4;have h9:=H9.o;have fz:=h9.free 1 rfl;have q0:=h9.cell 1 0;have q1:=h9.cell 1 1;have q2:=h9.cell 1 2;refine wpAnyH_ready (rs:=[10]) (by kernel_rfl) (by simp) ?_;refine AllReadyH.cons rfl (λK hK=>?_) AllReadyH.nil;go_simp;have k3:Sat w0 ((((w6.setCell ⟨w.heap.size,0,none⟩ (.slice na NN nc)).setCell ⟨w.heap.size,1,none⟩ (.slice ta TN tc)).setCell ⟨w.heap.size,2,none⟩ (.int .i64 (pg.main:Nat))).drew) [Fr,ax (w.heap.size) (.cells #[.slice na NN nc,.slice ta TN tc,.int .i64 (pg.main:Nat)] 31 (0,0)),ax (w.heap.size+1) (.cells #[.slice none 0 0] 36 (0,0)),ax (w.heap.size+1+1) (.cells #[.map none] 89 (0,0)),ax (w.heap.size+1+1+1) (.cells #[.int .i64 0,.int .i64 0] 25 (0,0)),C8 (.slice na NN nc) pg.ns,sA (.slice ta TN tc) pg.ts,
    ax (w1.heap.size+1+1+1) (.cells #[.pointer (some ⟨w1.heap.size+1+1,0,none⟩)] 142 (0,0)),ax (w1.heap.size+1+1) (Ir (.slice na NN nc) (.slice ta TN tc) (pg.main:Nat) sv (.slice oa v2.out.length oc) wb cb),wj (.slice oa v2.out.length oc) d,mapA 3 4 cb oz (dL v2.ca)]:=((h9.drew.store 1 rfl 0 (.slice na NN nc)).store 1 rfl 1 (.slice ta TN tc)).store 1 rfl 2 (.int .i64 (pg.main:Nat))
   refine hK.out _ _ ⟨k3.cell 1 0,k3.cell 1 1,k3.cell 1 2,k3.cell 7 0,k3.cell 8 4,k3.cell 8 6,k3.cell 4 0,k3.cell 4 1⟩ (λhHeld=>?_);clear hK K hHeld fz q0 q1 q2 h9;generalize(((w6.setCell ⟨w.heap.size,0,none⟩ (.slice na NN nc)).setCell ⟨w.heap.size,1,none⟩ (.slice ta TN tc)).setCell ⟨w.heap.size,2,none⟩ (.int .i64 (pg.main:Nat))).drew=w7 at k3⊢;have fz:=k3.free 2 rfl;have q0:=k3.cell 2 0;refine wpAnyH_ready (rs:=[11]) (by kernel_rfl) (by simp) ?_;refine AllReadyH.cons rfl (λK hK=>?_) AllReadyH.nil;go_simp;have k4:Sat w0 (w7.setCell ⟨w.heap.size+1,0,none⟩ (.slice oa v2.out.length oc)) [Fr,ax (w.heap.size) (.cells #[.slice na NN nc,.slice ta TN tc,.int .i64 (pg.main:Nat)] 31 (0,0)),ax (w.heap.size+1) (.cells #[.slice oa v2.out.length oc] 36 (0,0)),ax (w.heap.size+1+1) (.cells #[.map none] 89 (0,0)),ax (w.heap.size+1+1+1) (.cells #[.int .i64 0,.int .i64 0] 25 (0,0)),C8 (.slice na NN nc) pg.ns,sA (.slice ta TN tc) pg.ts,
    ax (w1.heap.size+1+1+1) (.cells #[.pointer (some ⟨w1.heap.size+1+1,0,none⟩)] 142 (0,0)),ax (w1.heap.size+1+1) (Ir (.slice na NN nc) (.slice ta TN tc) (pg.main:Nat) sv (.slice oa v2.out.length oc) wb cb),wj (.slice oa v2.out.length oc) d,mapA 3 4 cb oz (dL v2.ca)]:=k3.store 2 rfl 0 (.slice oa v2.out.length oc)
   refine hK.out _ _ ⟨k4.cell 1 0,k4.cell 1 1,k4.cell 1 2,k4.cell 7 0,k4.cell 8 4,k4.cell 8 6,k4.cell 4 0,k4.cell 4 1⟩ (λhHeld=>?_);clear hK K hHeld fz q0 k3;generalize w7.setCell ⟨w.heap.size+1,0,none⟩ (.slice oa v2.out.length oc)=w8 at k4⊢;have fz:=k4.free 3 rfl;have q0:=k4.cell 3 0;refine wpAnyH_ready (rs:=[12]) (by kernel_rfl) (by simp) ?_;refine AllReadyH.cons rfl (λK hK=>?_) AllReadyH.nil;go_simp;have k5:Sat w0 (w8.setCell ⟨w.heap.size+1+1,0,none⟩ (.map (some cb))) [Fr,ax (w.heap.size) (.cells #[.slice na NN nc,.slice ta TN tc,.int .i64 (pg.main:Nat)] 31 (0,0)),ax (w.heap.size+1) (.cells #[.slice oa v2.out.length oc] 36 (0,0)),ax (w.heap.size+1+1) (.cells #[.map (some cb)] 89 (0,0)),ax (w.heap.size+1+1+1) (.cells #[.int .i64 0,.int .i64 0] 25 (0,0)),C8 (.slice na NN nc) pg.ns,sA (.slice ta TN tc) pg.ts,
    ax (w1.heap.size+1+1+1) (.cells #[.pointer (some ⟨w1.heap.size+1+1,0,none⟩)] 142 (0,0)),ax (w1.heap.size+1+1) (Ir (.slice na NN nc) (.slice ta TN tc) (pg.main:Nat) sv (.slice oa v2.out.length oc) wb cb),wj (.slice oa v2.out.length oc) d,mapA 3 4 cb oz (dL v2.ca)]:=k4.store 3 rfl 0 (.map (some cb))
   refine hK.out _ _ ⟨k5.cell 1 0,k5.cell 1 1,k5.cell 1 2,k5.cell 7 0,k5.cell 8 4,k5.cell 8 6,k5.cell 4 0,k5.cell 4 1⟩ (λhHeld=>?_);clear hK K hHeld fz q0 k4;generalize w8.setCell ⟨w.heap.size+1+1,0,none⟩ (.map (some cb))=w9 at k5⊢;have fz:=k5.free 4 rfl;have q0:=k5.cell 4 0;have q1:=k5.cell 4 1;refine wpAnyH_ready (rs:=[13]) (by kernel_rfl) (by simp) ?_;refine AllReadyH.cons rfl (λK hK=>?_) AllReadyH.nil;go_simp;have k7:Sat w0 ((w9.setCell ⟨w.heap.size+1+1+1,0,none⟩ (.int .i64 0)).setCell ⟨w.heap.size+1+1+1,1,none⟩ (.int .i64 0)) [Fr,ax (w.heap.size) (.cells #[.slice na NN nc,.slice ta TN tc,.int .i64 (pg.main:Nat)] 31 (0,0)),ax (w.heap.size+1) (.cells #[.slice oa v2.out.length oc] 36 (0,0)),ax (w.heap.size+1+1) (.cells #[.map (some cb)] 89 (0,0)),ax (w.heap.size+1+1+1) (.cells #[.int .i64 0,.int .i64 0] 25 (0,0)),C8 (.slice na NN nc) pg.ns,sA (.slice ta TN tc) pg.ts,
    ax (w1.heap.size+1+1+1) (.cells #[.pointer (some ⟨w1.heap.size+1+1,0,none⟩)] 142 (0,0)),ax (w1.heap.size+1+1) (Ir (.slice na NN nc) (.slice ta TN tc) (pg.main:Nat) sv (.slice oa v2.out.length oc) wb cb),wj (.slice oa v2.out.length oc) d,mapA 3 4 cb oz (dL v2.ca)]:=(k5.store 4 rfl 0 (.int .i64 0)).store 4 rfl 1 (.int .i64 0)
   refine hK.out _ _ ⟨k7.cell 1 0,k7.cell 1 1,k7.cell 1 2,k7.cell 7 0,k7.cell 8 4,k7.cell 8 6,k7.cell 4 0,k7.cell 4 1⟩ (λhHeld=>?_);clear hK K hHeld fz q0 q1 k5;generalize(w9.setCell ⟨w.heap.size+1+1+1,0,none⟩ (.int .i64 0)).setCell ⟨w.heap.size+1+1+1,1,none⟩ (.int .i64 0)=Nw at k7⊢;refine wpAnyH_done (by kernel_rfl) ?_ _;refine NoPanic.normal ?_;have K7:=qh k7;clear k7;go_wp2_with fail;refine leaves_cons (f:=79) (args:=#[.pointer (some ⟨w.heap.size,0,none⟩),.pointer (some ⟨w.heap.size+1,0,none⟩),.pointer (some ⟨w.heap.size+1+1,0,none⟩),.pointer (some ⟨w.heap.size+1+1+1,0,none⟩)]) (by simp) (by simp[go_sem]) ?_;refine(OL _ _ _ _ _).mono ?_
   rintro e u' KY ⟨rfl,rfl,rfl⟩
   have a0:=K7.out.cell 1 0;have a1:=K7.out.cell 1 1;have a2:=K7.out.cell 1 2;have b0:=K7.out.cell 2 0;have c0:=K7.out.cell 3 0;have d0:=K7.out.cell 4 0;have d1:=K7.out.cell 4 1;simp[Leaves,settle,results,results43,go_sem,a0,a1,a2,b0,c0,d0,d1];have Uo:=afH.o;have F_:=adu.o;exact fL.o pg _ _ _ cb v2 d oz _ HT.o HV.o Zy.o ags.o (by omega) (by omega) (K7.out.pick [0,5,6,9,10])
  ·have h6:Sat w0 w5 [Fr,ax (w.heap.size) (.cells #[.slice na NN nc,.slice ta TN tc,.int .i64 (pg.main:Nat)] 31 (0,0)),ax (w.heap.size+1) (.cells #[.slice none 0 0] 36 (0,0)),ax (w.heap.size+1+1) (.cells #[.map none] 89 (0,0)),ax (w.heap.size+1+1+1) (.cells #[.int .i64 0,.int .i64 0] 25 (0,0))]:=(H4.o.join (h5.unpack 0 rfl)).pick [0,1,2,3,4];have HM:=qh hm;clear h5 hm H4 HC aa7;refine leaves_cons (f:=79) (args:=#[.pointer (some ⟨w.heap.size,0,none⟩),.pointer (some ⟨w.heap.size+1,0,none⟩),.pointer (some ⟨w.heap.size+1+1,0,none⟩),.pointer (some ⟨w.heap.size+1+1+1,0,none⟩)]) (by simp) (by simp[go_sem]) ?_;refine(V7 h6 f).mono ?_
   rintro e u' KY ⟨rfl,rfl,h9⟩
   have a0:=h9.cell 1 0;have a1:=h9.cell 1 1;have a2:=h9.cell 1 2;have b0:=h9.cell 2 0;have c0:=h9.cell 3 0;have d0:=h9.cell 4 0;have d1:=h9.cell 4 1;simp[Leaves,settle,results,results43,go_sem,a0,a1,a2,b0,c0,d0,d1];exact bX.o f _ (.inr ⟨pg,HT.o,LF HM.o⟩) (h9.pick [0])
 ·have yg:=ku ht;obtain⟨fe,fp⟩:=f;dsimp only at yg;have e2: ((fe:Int) !=0)=true:=by simp;omega
  have h3:Sat w0 w1 [Fr,ax (w.heap.size) (.cells #[.slice none 0 0,.slice none 0 0,.int .i64 0] 31 (0,0)),ax (w.heap.size+1) (.cells #[.slice none 0 0] 36 (0,0)),ax (w.heap.size+1+1) (.cells #[.map none] 89 (0,0)),ax (w.heap.size+1+1+1) (.cells #[.int .i64 0,.int .i64 0] 25 (0,0))]:=(h2.unpack 0 rfl).pick [0,1,2,3,4];have h4:Sat w0 (((((w1.setCell ⟨w.heap.size,0,none⟩ (.slice none 0 0)).setCell ⟨w.heap.size,1,none⟩ (.slice none 0 0)).setCell ⟨w.heap.size,2,none⟩ (.int .i64 0)).setCell ⟨w.heap.size+1+1+1,0,none⟩ (.int .i64 (fe:Nat))).setCell ⟨w.heap.size+1+1+1,1,none⟩ (.int .i64 (fp:Nat))) [Fr,ax (w.heap.size) (.cells #[.slice none 0 0,.slice none 0 0,.int .i64 0] 31 (0,0)),ax (w.heap.size+1) (.cells #[.slice none 0 0] 36 (0,0)),ax (w.heap.size+1+1) (.cells #[.map none] 89 (0,0)),ax (w.heap.size+1+1+1) (.cells #[.int .i64 (fe:Nat),.int .i64 (fp:Nat)] 25 (0,0))]:=((((h3.store 1 rfl 0 (.slice none 0 0)).store 1 rfl 1 (.slice none 0 0)).store 1 rfl 2 (.int .i64 0)).store 4 rfl 0 (.int .i64 (fe:Nat))).store 4 rfl 1 (.int .i64 (fp:Nat));have fa:=h3.free 1 rfl;have fd:=h3.free 4 rfl;have a0:=h3.cell 1 0;have a1:=h3.cell 1 1;have a2:=h3.cell 1 2;have d0:=h3.cell 4 0;have d1:=h3.cell 4 1;have H4:=qh h4;have HT:=qh ht;clear h2 h3 h4 ht yg S6;dsimp only[bm];go_wp2_with fail;generalize((((w1.setCell ⟨w.heap.size,0,none⟩ (.slice none 0 0)).setCell ⟨w.heap.size,1,none⟩ (.slice none 0 0)).setCell ⟨w.heap.size,2,none⟩ (.int .i64 0)).setCell ⟨w.heap.size+1+1+1,0,none⟩ (.int .i64 (fe:Nat))).setCell ⟨w.heap.size+1+1+1,1,none⟩ (.int .i64 (fp:Nat))=w2 at H4⊢;clear fa fd a0 a1 a2 d0 d1;have hS:w2.drew.cell? ⟨w.heap.size,0,none⟩=some (.slice none 0 0)/\w2.drew.cell? ⟨w.heap.size,1,none⟩=some (.slice none 0 0)/\w2.drew.cell? ⟨w.heap.size,2,none⟩=some (.int .i64 0)/\w2.drew.cell? ⟨w.heap.size+1+1+1,0,none⟩=some (.int .i64 (fe:Nat))/\w2.drew.cell? ⟨w.heap.size+1+1+1,1,none⟩=some (.int .i64 (fp:Nat)):=⟨H4.o.drew.cell 1 0,H4.o.drew.cell 1 1,H4.o.drew.cell 1 2,H4.o.drew.cell 4 0,H4.o.drew.cell 4 1⟩
  refine wp_region_noPanic ?_;refine wp_region_held_drew (S:=λw'=>w'.cell? ⟨w.heap.size,0,none⟩=some (.slice none 0 0)/\w'.cell? ⟨w.heap.size,1,none⟩=some (.slice none 0 0)/\w'.cell? ⟨w.heap.size,2,none⟩=some (.int .i64 0)/\w'.cell? ⟨w.heap.size+1+1+1,0,none⟩=some (.int .i64 (fe:Nat))/\w'.cell? ⟨w.heap.size+1+1+1,1,none⟩=some (.int .i64 (fp:Nat))) (by kernel_rfl) hS (λhS=>?_);refine ou 0 ?_;refine ou 1 ?_;clear hS;have h9:=H4.o;have fz:=h9.free 1 rfl;have q0:=h9.cell 1 0;have q1:=h9.cell 1 1;have q2:=h9.cell 1 2;refine wpAnyH_ready (rs:=[2]) (by kernel_rfl) (by simp) ?_;refine AllReadyH.cons rfl (λK hK=>?_) AllReadyH.nil;go_simp;have k3:Sat w0 ((((w2.setCell ⟨w.heap.size,0,none⟩ (.slice none 0 0)).setCell ⟨w.heap.size,1,none⟩ (.slice none 0 0)).setCell ⟨w.heap.size,2,none⟩ (.int .i64 0)).drew) [Fr,ax (w.heap.size) (.cells #[.slice none 0 0,.slice none 0 0,.int .i64 0] 31 (0,0)),ax (w.heap.size+1) (.cells #[.slice none 0 0] 36 (0,0)),ax (w.heap.size+1+1) (.cells #[.map none] 89 (0,0)),ax (w.heap.size+1+1+1) (.cells #[.int .i64 (fe:Nat),.int .i64 (fp:Nat)] 25 (0,0))]:=((h9.drew.store 1 rfl 0 (.slice none 0 0)).store 1 rfl 1 (.slice none 0 0)).store 1 rfl 2 (.int .i64 0);refine hK.out _ _ ⟨k3.cell 1 0,k3.cell 1 1,k3.cell 1 2,k3.cell 4 0,k3.cell 4 1⟩ (λhHeld=>?_);clear hK K hHeld fz q0 q1 q2 h9;generalize(((w2.setCell ⟨w.heap.size,0,none⟩ (.slice none 0 0)).setCell ⟨w.heap.size,1,none⟩ (.slice none 0 0)).setCell ⟨w.heap.size,2,none⟩ (.int .i64 0)).drew=w7 at k3⊢;have fz:=k3.free 2 rfl;have q0:=k3.cell 2 0;refine wpAnyH_ready (rs:=[3]) (by kernel_rfl) (by simp) ?_;refine AllReadyH.cons rfl (λK hK=>?_) AllReadyH.nil;go_simp;have k4:Sat w0 (w7.setCell ⟨w.heap.size+1,0,none⟩ (.slice none 0 0)) [Fr,ax (w.heap.size) (.cells #[.slice none 0 0,.slice none 0 0,.int .i64 0] 31 (0,0)),ax (w.heap.size+1) (.cells #[.slice none 0 0] 36 (0,0)),ax (w.heap.size+1+1) (.cells #[.map none] 89 (0,0)),ax (w.heap.size+1+1+1) (.cells #[.int .i64 (fe:Nat),.int .i64 (fp:Nat)] 25 (0,0))]:=k3.store 2 rfl 0 (.slice none 0 0);refine hK.out _ _ ⟨k4.cell 1 0,k4.cell 1 1,k4.cell 1 2,k4.cell 4 0,k4.cell 4 1⟩ (λhHeld=>?_);clear hK K hHeld fz q0 k3;generalize w7.setCell ⟨w.heap.size+1,0,none⟩ (.slice none 0 0)=w8 at k4⊢;have fz:=k4.free 3 rfl;have q0:=k4.cell 3 0;refine wpAnyH_ready (rs:=[4]) (by kernel_rfl) (by simp) ?_;refine AllReadyH.cons rfl (λK hK=>?_) AllReadyH.nil;go_simp;have k5:Sat w0 (w8.setCell ⟨w.heap.size+1+1,0,none⟩ (.map none)) [Fr,ax (w.heap.size) (.cells #[.slice none 0 0,.slice none 0 0,.int .i64 0] 31 (0,0)),ax (w.heap.size+1) (.cells #[.slice none 0 0] 36 (0,0)),ax (w.heap.size+1+1) (.cells #[.map none] 89 (0,0)),ax (w.heap.size+1+1+1) (.cells #[.int .i64 (fe:Nat),.int .i64 (fp:Nat)] 25 (0,0))]:=k4.store 3 rfl 0 (.map none);refine hK.out _ _ ⟨k5.cell 1 0,k5.cell 1 1,k5.cell 1 2,k5.cell 4 0,k5.cell 4 1⟩ (λhHeld=>?_);clear hK K hHeld fz q0 k4;generalize w8.setCell ⟨w.heap.size+1+1,0,none⟩ (.map none)=w9 at k5⊢;have fz:=k5.free 4 rfl;have q0:=k5.cell 4 0;have q1:=k5.cell 4 1;refine wpAnyH_ready (rs:=[5]) (by kernel_rfl) (by simp) ?_;refine AllReadyH.cons rfl (λK hK=>?_) AllReadyH.nil;go_simp;have k7:Sat w0 ((w9.setCell ⟨w.heap.size+1+1+1,0,none⟩ (.int .i64 (fe:Nat))).setCell ⟨w.heap.size+1+1+1,1,none⟩ (.int .i64 (fp:Nat))) [Fr,ax (w.heap.size) (.cells #[.slice none 0 0,.slice none 0 0,.int .i64 0] 31 (0,0)),ax (w.heap.size+1) (.cells #[.slice none 0 0] 36 (0,0)),ax (w.heap.size+1+1) (.cells #[.map none] 89 (0,0)),ax (w.heap.size+1+1+1) (.cells #[.int .i64 (fe:Nat),.int .i64 (fp:Nat)] 25 (0,0))]:=(k5.store 4 rfl 0 (.int .i64 (fe:Nat))).store 4 rfl 1 (.int .i64 (fp:Nat));refine hK.out _ _ ⟨k7.cell 1 0,k7.cell 1 1,k7.cell 1 2,k7.cell 4 0,k7.cell 4 1⟩ (λhHeld=>?_);clear hK K hHeld fz q0 q1 k5;generalize(w9.setCell ⟨w.heap.size+1+1+1,0,none⟩ (.int .i64 (fe:Nat))).setCell ⟨w.heap.size+1+1+1,1,none⟩ (.int .i64 (fp:Nat))=Nw at k7⊢;refine wpAnyH_done (by kernel_rfl) ?_ _;refine NoPanic.normal ?_;have K7:=qh k7;clear k7;go_wp2_with fail;have a0:=K7.out.cell 1 0;have a1:=K7.out.cell 1 1;have a2:=K7.out.cell 1 2;have b0:=K7.out.cell 2 0;have c0:=K7.out.cell 3 0;have d0:=K7.out.cell 4 0;have d1:=K7.out.cell 4 1;simp[bodyPostD,Leaves,settle,results,results43,go_sem,a0,a1,a2,b0,c0,d0,d1];exact bX.o (fe,fp) _ (.inl HT.o) (K7.out.pick [0])
end
end Go.Proofs.YtdlbhiaceheffabGreatDoor
