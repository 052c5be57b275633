/- The program's visit at all trees. -/
import Derived.Shelf.GgSortFunc.RowK
import Derived.Shelf.SlSortCmp.NoneTotal
import Derived.Test.YtdlbhiaceheffabGreatDoorE36
import Derived.Test.YtdlbhiaceheffabGreatDoorE40
set_option linter.all false
set_option maxRecDepth 100000
set_option maxHeartbeats 8000000
namespace Go.Proofs.YtdlbhiaceheffabGreatDoor
open Go Go.RowKit Ty Tok Prt Tryz Proofs.Tryz
section
open Ty (Frm Vg aN Ex Sm Par df kN jS iR gL qd ax eE fE aJ da fq eL dU eH bP iP jv fw dC af)
namespace Ty
abbrev VE(e:Ex)(a:Nat):ez:=λfrs v=>aN (bP e a frs v) λv=>.ok (frs,v)
def VS(e:Sm)(a:Nat):ez
 |[],v=>.ok ([],v)
 |fr::l,v=>aN (dC e a fr l v) λr=>.ok (r.1::l,r.2)
def BG:List Ex->Nat->List (Nat×ez)
 |[],_=>[]
 |e::l,a=>(ax e,VE e a)::BG l (a+ax e)
def Ap:List (Nat×BA×Ex)->Nat->List (Nat×ez)
 |[],_=>[]
 |(_,_,e)::l,a=>(ax e+1,VE e a)::Ap l (a+ax e+1)
def mR:List Sm->Nat->List (Nat×ez)
 |[],_=>[]
 |e::l,a=>(da e,VS e a)::mR l (a+da e)
theorem vf:∀(l:List Ex)(a:Nat),dq (BG l a)=eE l
 |[],_=>by rw[eE];rfl
 |e::l,a=>by rw[BG,cq,vf l,eE]
theorem Bu:∀(l:List (Nat×BA×Ex))(a:Nat),dq (Ap l a)=fE l
 |[],_=>by rw[fE];rfl
 |(_,_,e)::l,a=>by rw[Ap,cq,Bu l,fE]
theorem pW:∀(l:List Sm)(a:Nat),dq (mR l a)=aJ l
 |[],_=>by rw[aJ];rfl
 |e::l,a=>by rw[mR,cq,pW l,aJ]
theorem yC:∀(l:List Ex)(a:Nat)(frs:List Frm)(v:Vg),dI ((BG l a).map Prod.snd) frs v=aN (iP l a frs v) λv=>.ok (frs,v)
 |[],_,_,_=>by rw[iP];rfl
 |e::l,a,frs,v=>by
  rw[BG,iP,List.map_cons,dI,aM,aM];congr 1;funext r;rw[dx,yC l]
theorem EP:∀(l:List (Nat×BA×Ex))(a:Nat)(frs:List Frm)(v:Vg),dI ((Ap l a).map Prod.snd) frs v=aN (jv l a frs v) λv=>.ok (frs,v)
 |[],_,_,_=>by rw[jv];rfl
 |(_,_,e)::l,a,frs,v=>by
  rw[Ap,jv,List.map_cons,dI,aM,aM];congr 1;funext r;rw[dx,EP l]
theorem ox:∀(l:List Sm)(a:Nat)(fr:Frm)(frs:List Frm)(v:Vg),dI ((mR l a).map Prod.snd) (fr::frs) v=aN (fw l a fr frs v) λr=>.ok (r.1::frs,r.2)
 |[],_,_,_,_=>by rw[fw];rfl
 |e::l,a,fr,frs,v=>by
  rw[fw,aM];show aN (aN (dC e a fr frs v) λr=>.ok (r.1::frs,r.2)) (λr=>dI ((mR l (a+da e)).map Prod.snd) r.1 r.2)= _;rw[aM];congr 1;funext r;rw[dx,ox l]
theorem Lr(l:List Sm)(a:Nat):UL (mR l a):=λfr m v dD v' h=>by
 rw[ox]at h
 cases hq:fw l a fr m v with
 |error f=>rw[hq]at h;cases h
 |ok r=>rw[hq]at h;cases h;exact⟨_,rfl⟩
def JN:List Par->Nat->List (BA×Nat)
 |[],_=>[]
 |q::ps,a=>(q.text,a)::JN ps (a+1)
theorem xX:∀(ps:List Par)(a:Nat),(JN ps a).length=ps.length
 |[],_=>rfl
 | _::l,a=>by rw[JN,List.length_cons,xX l,List.length_cons]
theorem Af:∀(ps:List Par)(a:Nat)(fr:Frm)(frs:List Frm)(v:Vg),eU (JN ps a) (fr::frs) v=((gu ps a fr v).1::frs,(gu ps a fr v).2)
 |[],_,_,_,_=>rfl
 |q::ps,a,fr,frs,v=>by
  show eU (JN ps (a+1)) (addN fr q.text a::frs) (vr v a fr.of)= _;rw[Af ps];rfl
end Ty
open Ty (VE VS BG Ap mR)
theorem JM{wB:World}{nv tv:Value}{pg:Ty.Pg}(hP:PB wB nv tv pg):∀(l:List Par)(a:Nat),qd pg.ns l a->(eH l a).length=(JN l a).length/\
  ∀i(h1:i<(eH l a).length)(h2:i<(JN l a).length),∃q ty,pg.ns[(eH l a)[i]]?=some {af 16 q with text:=(JN l a)[i].1,ty:=ty}/\(JN l a)[i].2=(eH l a)[i]/\(JN l a)[i].1.size<=maxLen
 |[],a,_=>⟨rfl,λi h=>absurd h (by simp[eH])⟩
 |q::l,a,h=>by
  obtain⟨h1,h2⟩:=JM hP l (a+1) h.2;refine⟨by rw[lk,xX],λi k1 k2=>?_⟩;cases i with
  |zero=>
   obtain⟨_,_,_,_,_,_,_,_,_,_,hk,_⟩:=hP.look h.1;exact⟨q.pos,q.ty,h.1,rfl,by have:=hk.size;simp only[af]at this;show q.text.size<=_;unfold maxLen;omega⟩
  |succ i=>exact h2 i (by simpa [eH]using k1) (by simpa [JN]using k2)
section
variable {wB:World} {nv tv:Value} {pg:Ty.Pg} {bb:Nat} {main:Int}
theorem gI.nil:gI wB nv tv bb main [] []:=⟨rfl,λj h=>absurd h (by simp)⟩
theorem iM.cons{id k:Nat}{F:ez}{ids:List Nat}{cs:List (Nat×ez)}(h:iM wB nv tv bb main id k F)(g:gI wB nv tv bb main ids cs):gI wB nv tv bb main (id::ids) ((k,F)::cs):=by
 refine⟨by rw[List.length_cons,List.length_cons,g.1],λj h1 h2=>?_⟩;cases j with
 |zero=>exact h
 |succ j=>exact g.2 j (by simpa using h1) (by simpa using h2)
theorem iM.to{id Eb k k2:Nat}{F G:ez}(h:iM wB nv tv bb main id k F)(hi:id=Eb)(hk:k<=k2)(hF:∀fr l v,F (fr::l) v=G (fr::l) v):iM wB nv tv bb main Eb k2 G:=by
 subst hi;intro frs v c w Fr Vf H hc R aH au;obtain⟨_,_,_,_,ho,_⟩:=H.iw;cases frs with
 |nil=>exact absurd rfl ho.ne
 |cons fr l=>
  exact h (fr::l) v c w Fr Vf H (by omega) R (λdD v' w' hq h2=>aH dD v' w' (by rw[<-hF];exact hq) (h2.RQ (by omega))) (λf w' hq h2=>au f w' (by rw[<-hF];exact hq) h2)
theorem fL(hP:PB wB nv tv pg){id Eb:Nat}{nd:Nd}(hn:pg.ns[id]?=some nd)(hi:id=Eb){ids:List Nat}{cs:List (Nat×ez)}(Kv:aA nd=ids)(hC:gI wB nv tv bb main ids cs)
  (hk:nd.kind≠5/\nd.kind≠6/\nd.kind≠16/\nd.kind≠17/\nd.kind≠18/\nd.kind≠22/\nd.kind≠26) (wY:1<=nd.kind/\nd.kind<=26) (hc:nd.kind=20->0<=nd.c) (BZ:nd.list.length<=id) {K:Nat} (hK:dq cs<=K) {G:ez} (hG:∀fr l v,dI (cs.map Prod.snd) (fr::l) v=G (fr::l) v):iM wB nv tv bb main Eb K G:=by
 subst Kv;obtain⟨_,_,_,_,k_,_,_,_,_,_,_,hN⟩:=hP.look hn;exact(G5 hP hn hC hk wY hc (by omega)).to hi hK hG
def BV(b:List Sm)(a:Nat):ez
 |[],v=>.ok ([],v)
 |fr::l,v=>aN (fw b a ⟨[],a+aJ b,fr.of⟩ (fr::l) v) λr=>.ok (fr::l,r.2)
theorem yw(hP:PB wB nv tv pg){b:List Sm}{a bp:Nat}(hn:pg.ns[a+aJ b]?=some {af 26 bp with list:=dU b a})(hC:gI wB nv tv bb main (dU b a) (mR b a)):iM wB nv tv bb main (a+aJ b) (aJ b+1) (BV b a):=by
 obtain⟨_,_,_,_,k_,_,_,_,_,_,_,hN⟩:=hP.look hn;have hl:=lD b a;refine(Ga hP hn hC (Lr b a) (by omega) (a+aJ b)).to rfl (by rw[pW];omega) (λfr l v=>?_);show aN (dI ((mR b a).map Prod.snd) (⟨[],a+aJ b,fr.of⟩::fr::l) v) _= _;rw[ox,aM];rfl
mutual
theorem gx(hP:PB wB nv tv pg):∀(e:Ex)(a:Nat),df pg.ns e a->iM wB nv tv bb main (a+ax e-1:Nat) (ax e) (VE e a)
 | .num _ _,a,h=>by
  rw[df]at h
  exact fL hP h (by rw[ax];omega) (ids:=[]) (by simp[aA,af]) gI.nil (by simp[af]) (by simp[af]) (by simp[af]) (by simp[af]) (by simp[dq]) (λfr l v=>by simp only[VE,List.map_nil];rw[bP];rfl)
 | .text _ _,a,h=>by
  rw[df]at h
  exact fL hP h (by rw[ax];omega) (ids:=[]) (by simp[aA,af]) gI.nil (by simp[af]) (by simp[af]) (by simp[af]) (by simp[af]) (by simp[dq]) (λfr l v=>by simp only[VE,List.map_nil];rw[bP];rfl)
 | .bool _ _,a,h=>by
  rw[df]at h
  exact fL hP h (by rw[ax];omega) (ids:=[]) (by simp[aA,af]) gI.nil (by simp[af]) (by simp[af]) (by simp[af]) (by simp[af]) (by simp[dq]) (λfr l v=>by simp only[VE,List.map_nil];rw[bP];rfl)
 | .null _,a,h=>by
  rw[df]at h
  exact fL hP h (by rw[ax];omega) (ids:=[]) (by simp[aA,af]) gI.nil (by simp[af]) (by simp[af]) (by simp[af]) (by simp[af]) (by simp[dq]) (λfr l v=>by simp only[VE,List.map_nil];rw[bP];rfl)
 | .var p x,a,h=>by
  rw[df]at h
  exact(L5 hP h).to (by rw[ax];omega) (by rw[ax];omega) (λfr l v=>by simp only[VE];rw[bP])
 | .fn p ps ty bp body,a,h=>by
  rw[df]at h
  have hS:=pC hP body (a+ps.length) h.2.1;obtain⟨_,_,_,_,k_,_,_,_,_,_,_,hN⟩:=hP.look h.2.2.2;have hl:=lD body (a+ps.length);have h2:=QP hP h.2.2.2 h.2.2.1 (JM hP ps a h.1) hS (Lr _ _) (by omega) (by rw[lk];omega);exact h2.to (by rw[ax];omega) (by rw[xX,pW,ax];omega) (λfr l v=>by
   show aN (dI _ (eU _ (⟨[],_,_⟩::fr::l) v).1 (eU _ (⟨[],_,_⟩::fr::l) v).2) _= _;simp only[VE];rw[bP,Af,ox,aM,aM];rfl)
 | .call p e l,a,h=>by
  rw[df]at h
  have h1:=gx hP e a h.1;have h2:=Cg hP l (a+ax e) h.2.1;exact fL hP h.2.2 (by rw[ax];omega) (by first|(simp[aA,af];done)|(simp[aA,af];rfl)) (h1.cons h2) (by simp[af]) (by simp[af]) (by simp[af]) (by have:=jb l (a+ax e);simp[af];omega) (by rw[cq,vf,ax];simp) (λfr m v=>by
   simp only[VE,List.map_cons,List.map_nil];rw[dI,bP,aM,aM];congr 1;funext r;rw[dx,yC])
 | .get p e x,a,h=>by
  rw[df]at h
  have h1:=gx hP e a h.1;exact fL hP h.2 (by rw[ax];omega) (by first|(simp[aA,af];done)|(simp[aA,af];rfl)) (h1.cons gI.nil) (by simp[af]) (by simp[af]) (by simp[af]) (by simp[af]) (by rw[cq,ax];simp[dq]) (λfr m v=>by
   simp only[VE,List.map_cons,List.map_nil];rw[ir,bP])
 | .one p x e,a,h=>by
  rw[df]at h
  have h1:=gx hP e a h.1;exact fL hP h.2 (by rw[ax];omega) (by first|(simp[aA,af];done)|(simp[aA,af];rfl)) (h1.cons gI.nil) (by simp[af]) (by simp[af]) (by simp[af]) (by simp[af]) (by rw[cq,ax];simp[dq]) (λfr m v=>by
   simp only[VE,List.map_cons,List.map_nil];rw[ir,bP])
 | .asX p e ty,a,h=>by
  rw[df]at h
  have h1:=gx hP e a h.1;exact fL hP h.2 (by rw[ax];omega) (by first|(simp[aA,af];done)|(simp[aA,af];rfl)) (h1.cons gI.nil) (by simp[af]) (by simp[af]) (by simp[af]) (by simp[af]) (by rw[cq,ax];simp[dq]) (λfr m v=>by
   simp only[VE,List.map_cons,List.map_nil];rw[ir,bP])
 | .atX p e i,a,h=>by
  rw[df]at h
  have h1:=gx hP e a h.1;have h2:=gx hP i (a+ax e) h.2.1;exact fL hP h.2.2 (by rw[ax];omega) (by first|(simp[aA,af];done)|(simp[aA,af];rfl)) (h1.cons (h2.cons gI.nil)) (by simp[af]) (by simp[af]) (by simp[af]) (by simp[af]) (by rw[cq,cq,ax];simp[dq]<;>omega) (λfr m v=>by
   simp only[VE,List.map_cons,List.map_nil];rw[dI,bP,aM,aM];congr 1;funext r;rw[dx,ir])
 | .two p x e i,a,h=>by
  rw[df]at h
  have h1:=gx hP e a h.1;have h2:=gx hP i (a+ax e) h.2.1;exact fL hP h.2.2 (by rw[ax];omega) (by first|(simp[aA,af];done)|(simp[aA,af];rfl)) (h1.cons (h2.cons gI.nil)) (by simp[af]) (by simp[af]) (by simp[af]) (by simp[af]) (by rw[cq,cq,ax];simp[dq]<;>omega) (λfr m v=>by
   simp only[VE,List.map_cons,List.map_nil];rw[dI,bP,aM,aM];congr 1;funext r;rw[dx,ir])
 | .obj p l,a,h=>by
  rw[df]at h
  have h2:=Iz hP l a h.1;exact fL hP h.2 (by rw[ax];omega) (by first|(simp[aA,af];done)|(simp[aA,af];rfl)) h2 (by simp[af]) (by simp[af]) (by simp[af]) (by have:=oF l a;simp[af];omega) (by rw[Bu,ax];simp) (λfr m v=>by
   simp only[VE];rw[bP,EP])
 | .arr p l,a,h=>by
  rw[df]at h
  have h2:=Cg hP l a h.1;exact fL hP h.2 (by rw[ax];omega) (by first|(simp[aA,af];done)|(simp[aA,af];rfl)) h2 (by simp[af]) (by simp[af]) (by simp[af]) (by have:=jb l a;simp[af];omega) (by rw[vf,ax];simp) (λfr m v=>by
   simp only[VE];rw[bP,yC])
theorem Cg(hP:PB wB nv tv pg):∀(l:List Ex)(a:Nat),kN pg.ns l a->gI wB nv tv bb main (fq l a) (BG l a)
 |[],_,_=>gI.nil
 |e::l,a,h=>by
  rw[kN]at h
  rw[fq,BG];exact(gx hP e a h.1).cons (Cg hP l (a+ax e) h.2)
theorem Iz(hP:PB wB nv tv pg):∀(l:List (Nat×BA×Ex))(a:Nat),jS pg.ns l a->gI wB nv tv bb main (eL l a) (Ap l a)
 |[],_,_=>gI.nil
 |(p,x,e)::l,a,h=>by
  rw[jS]at h
  rw[eL,Ap];have h1:=gx hP e a h.1;exact(fL hP h.2.1 rfl (by first|(simp[aA,af];done)|(simp[aA,af];rfl)) (h1.cons gI.nil) (by simp[af]) (by simp[af]) (by simp[af]) (by simp[af]) (by rw[cq];simp[dq]) (λfr m v=>by
   simp only[VE,List.map_cons,List.map_nil];rw[ir])).cons (Iz hP l (a+ax e+1) h.2.2)
theorem pC(hP:PB wB nv tv pg):∀(l:List Sm)(a:Nat),iR pg.ns l a->gI wB nv tv bb main (dU l a) (mR l a)
 |[],_,_=>gI.nil
 |e::l,a,h=>by
  rw[iR]at h
  rw[dU,mR];exact(TY hP e a h.1).cons (pC hP l (a+da e) h.2)
theorem TY(hP:PB wB nv tv pg):∀(e:Sm)(a:Nat),gL pg.ns e a->iM wB nv tv bb main (a+da e-1:Nat) (da e) (VS e a)
 | .jR p x ty e,a,h=>by
  rw[gL]at h
  have h1:=gx hP e a h.1;obtain⟨nb,PQ,xh⟩:=SL e a h.1;exact(M' hP h.2 PQ xh h1).to (by rw[da];omega) (by rw[da];omega) (λfr l v=>by
   simp only[VS,zi];rw[dC];split
   ·rfl
   ·cases lK e<;>simp only[VE,aM,dx,if_true,if_false,Bool.false_eq_true,lP]<;>rfl)
 | .set p x e,a,h=>by
  rw[gL]at h
  have h1:=gx hP e a h.1;exact(M0 hP h.2 h1).to (by rw[da];omega) (by rw[da];omega) (λfr l v=>by simp only[VS];rw[Ly,dC];simp only[VE,aM,dx])
 | .print p e,a,h=>by
  rw[gL]at h
  have h1:=gx hP e a h.1;exact fL hP h.2 (by rw[da];omega) (by first|(simp[aA,af];done)|(simp[aA,af];rfl)) (h1.cons gI.nil) (by simp[af]) (by simp[af]) (by simp[af]) (by simp[af]) (by rw[cq,da];simp[dq]) (λfr m v=>by
   simp only[VE,VS,List.map_cons,List.map_nil];rw[ir,dC];simp only[aM,dx])
 | .ret p e,a,h=>by
  rw[gL]at h
  have h1:=gx hP e a h.1;exact fL hP h.2 (by rw[da];omega) (by first|(simp[aA,af];done)|(simp[aA,af];rfl)) (h1.cons gI.nil) (by simp[af]) (by simp[af]) (by simp[af]) (by simp[af]) (by rw[cq,da];simp[dq]) (λfr m v=>by
   simp only[VE,VS,List.map_cons,List.map_nil];rw[ir,dC];simp only[aM,dx])
 | .u9 p e,a,h=>by
  rw[gL]at h
  have h1:=gx hP e a h.1;exact fL hP h.2 (by rw[da];omega) (by first|(simp[aA,af];done)|(simp[aA,af];rfl)) (h1.cons gI.nil) (by simp[af]) (by simp[af]) (by simp[af]) (by simp[af]) (by rw[cq,da];simp[dq]) (λfr m v=>by
   simp only[VE,VS,List.map_cons,List.map_nil];rw[ir,dC];simp only[aM,dx])
 | .put p e x i,a,h=>by
  rw[gL]at h
  have h1:=gx hP e a h.1;have h2:=gx hP i (a+ax e) h.2.1;exact fL hP h.2.2 (by rw[da];omega) (by first|(simp[aA,af];done)|(simp[aA,af];rfl)) (h1.cons (h2.cons gI.nil)) (by simp[af]) (by simp[af]) (by simp[af]) (by simp[af]) (by rw[cq,cq,da];simp[dq]<;>omega) (λfr m v=>by
   simp only[VE,VS,List.map_cons,List.map_nil];rw[dC];simp only[dI,aM,dx])
 | .lay p e i j,a,h=>by
  rw[gL]at h
  have h1:=gx hP e a h.1;have h2:=gx hP i (a+ax e) h.2.1;have h3:=gx hP j (a+ax e+ax i) h.2.2.1;exact fL hP h.2.2.2 (by rw[da];omega) (by first|(simp[aA,af];done)|(simp[aA,af];rfl)) (h1.cons (h2.cons (h3.cons gI.nil))) (by simp[af]) (by simp[af]) (by simp[af]) (by simp[af]) (by rw[cq,cq,cq,da];simp[dq]<;>omega) (λfr m v=>by
   simp only[VE,VS,List.map_cons,List.map_nil];rw[dC];simp only[dI,aM,dx])
 | .while_ p e bp b,a,h=>by
  rw[gL]at h
  have h1:=gx hP e a h.1;have h2:=yw hP h.2.2.1 (pC hP b (a+ax e) h.2.1);exact fL hP h.2.2.2 (by rw[da];omega) (by first|(simp[aA,af];done)|(simp[aA,af];rfl)) (h1.cons (h2.cons gI.nil)) (by simp[af]) (by simp[af]) (by simp[af]) (by simp[af]) (by rw[cq,cq,da];simp[dq]<;>omega) (λfr m v=>by
   simp only[VE,VS,List.map_cons,List.map_nil];rw[dC];simp only[dI,BV,aM,dx])
 | .if_ p e bp b none,a,h=>by
  rw[gL]at h
  have h1:=gx hP e a h.1;have h2:=yw hP h.2.2.1 (pC hP b (a+ax e) h.2.1);exact(L4 hP h.2.2.2 h1 h2).to (by rw[da];omega) (by rw[da];omega) (λfr m v=>by
   simp only[VE,VS];rw[dC];simp only[dI,BV,aM,dx])
 | .if_ p e bp b (some (cp,c)),a,h=>by
  rw[gL]at h
  have h1:=gx hP e a h.1;have h2:=yw hP h.2.2.1 (pC hP b (a+ax e) h.2.1);have h3:=yw hP h.2.2.2.2.1 (pC hP c (a+ax e+aJ b+1) h.2.2.2.1);exact(Mg hP h.2.2.2.2.2 h1 h2 h3).to (by rw[da];omega) (by rw[da];omega) (λfr m v=>by
   simp only[VE,VS];rw[dC];simp only[dI,BV,aM,dx])
end
end
end
section
open Go Go.RowKit Go.Sort
theorem ud{α:Type} [Inhabited α](enc:α->List Value)(k:Nat)(hk:∀x,(enc x).length=k)(Rs:0<k)(l:List α): (flatK enc k l.toArray).toList=l.flatMap enc:=by
 have hl:∀l:List α,(l.flatMap enc).length=l.length*k:=λl=>by
  induction l with
  |nil=>simp
  |cons a l ih=>rw[List.flatMap_cons,List.length_append,ih,hk,List.length_cons,Nat.succ_mul,Nat.add_comm]
 apply List.ext_getElem?;intro t;by_cases ht:t<l.length*k
 ·have hq:t/k<l.length:=Nat.div_lt_of_lt_mul (by rwa [Nat.mul_comm]at ht);have hm:t%k<k:=Nat.mod_lt _ Rs;have hf:=jn enc k hk l (t/k) hq (t%k) hm;rw[show t/k*k+t%k=t by rw[Nat.mul_comm];exact Nat.div_add_mod t k]at hf
  rw[hf,Array.getElem?_toList,Array.getElem?_eq_getElem (by simpa using ht)];have h1:=get_flatK enc k l.toArray t (by simpa using ht);rw[getElem!_pos _ t (by simpa using ht)]at h1
  rw[h1,List.getElem?_eq_getElem (by rw[hk];exact hm)];simp[hq,hk,hm]
 ·have h1: (l.flatMap enc)[t]?=none:=List.getElem?_eq_none (by rw[hl];omega);have h2: (flatK enc k l.toArray).toList[t]?=none:=List.getElem?_eq_none (by rw[Array.length_toList,size_flatK];simp;omega);rw[h1,h2]
section
variable {w:World} {e:TypeId} {size g m cap n:Nat} {xs:List Value} {os:Array Obj}
theorem GQ{α:Type} [Inhabited α](enc:α->Value)(F:Array α):w.grownBy (grow (putRow enc (Sort.ahead w n) g 0 F) os) (some g):=by
 refine⟨rfl,rfl,rfl,by simp,λk hk bT=>?_⟩;rw[heap_grow_old _ _ (by simpa using hk)];have:g≠k:=λe=>bT (by rw[e])
 simp[putRow,mapBlock,Sort.ahead,Array.getElem?_modify,this]
theorem FJ(h:w.ownsRow 0 e size (.slice (some ⟨g,0,none⟩) m cap) m xs):Holds id w g 0 xs.toArray:=by
 rcases h.2 with⟨h1,_⟩|⟨g',DK,cur,h1,_,hb,_,_,hs,ht⟩
 ·cases h1
 ·cases h1;intro j hj;have Zf:j<xs.length:=by simpa using hj
  have eF:j<m*size:=by rw[<-h.1];exact Zf
  refine⟨?_,by simp[World.frozen?,hb]⟩;have h1: (cur.toList.take (m*size))[j]?=xs[j]?:=by rw[ht]
  rw[List.getElem?_take_of_lt eF]at h1
  simp only[World.cell?,hb,Nat.zero_add];simp only[Option.isSome_none,Bool.false_eq_true,if_false];rw[<-Array.getElem?_toList,h1];simp[Zf]
theorem Ni(F:Array Value)(hF:F.size=m*size)(h:w.ownsRow 0 e size (.slice (some ⟨g,0,none⟩) m cap) m xs):
  (grow (putRow id (Sort.ahead w n) g 0 F) os).ownsRow 0 e size (.slice (some ⟨g,0,none⟩) m cap) m F.toList:=by
 rcases h.2 with⟨h1,_⟩|⟨g',DK,cur,h1,h0,hb,h3,h4,h5,h6⟩
 ·cases h1
 ·cases h1;have hg:g<w.heap.size:=(Array.getElem?_eq_some_iff.1 hb).1;refine⟨by simpa using hF,.inr ⟨g,cap,putCells id 0 F cur,rfl,h0,?_,h3,h4,by simp[putCells,h5],?_⟩⟩
  ·rw[heap_grow_old _ _ (by simpa using hg)];simp[putRow,mapBlock,Sort.ahead,Array.getElem?_modify,hb,onCells]
  ·apply List.ext_getElem?;intro j;by_cases hj:j<m*size
   ·have h8:m*size<=cap*size:=Nat.mul_le_mul_right _ h3;rw[List.getElem?_take_of_lt hj,Array.getElem?_toList];have eF:j<F.size:=by rw[hF];exact hj
    have tH:j<cur.size:=by rw[h5];omega
    simp[putCells,eF,tH]
   ·rw[List.getElem?_take_eq_none (by omega),List.getElem?_eq_none (by simp;omega)]
end
theorem Prt.Sat.sorted{w0 w:World}{L:List As}{e:TypeId}{size g m cap:Nat}{xs:List Value}(h:Sat w0 w L)(i:Nat)(hi:L[i]?=some (Prt.row e size (.slice (some ⟨g,0,none⟩) m cap) m xs))(F:Array Value)(hF:F.size=m*size)(n:Nat)(os:Array Obj):
  Sat w0 (Go.Sort.grow (putRow id (Sort.ahead w n) g 0 F) os) (L.set i (Prt.row e size (.slice (some ⟨g,0,none⟩) m cap) m F.toList)):=
 h.grow i hi (GQ id F) (Ni F hF (h.row i hi)) (.inl rfl)
end
section
open Ty (Frm Vg aN)
theorem JW(a b c d:Nat)(w:World):
  CallsD prog 79 #[.pointer (some ⟨a,0,none⟩),.pointer (some ⟨b,0,none⟩),.pointer (some ⟨c,0,none⟩),.pointer (some ⟨d,0,none⟩)] .returning w λe u' w'=>e=.returned (.tuple #[])/\u'=.returning/\w'=w:=by
 refine callsD_of_wpS func79 rfl λBt cs hu=>?_
 apply wpS_seq;apply wpS_region;simp[wpOpsS,go_sem,recoverD,hu,ntmps79,Exit.thenS];apply wpS_seq;apply wpS_region;simp[wpOpsS,go_sem,Exit.thenS];refine wpS_cond (t:=false) (by simp[Act.eval,Array.replicate]) ?_;simp only[Bool.false_eq_true,if_false];refine wpS_of_wp (wp_skip ?_);cases Bt;simp_all[bodyPostS,results,results79]
abbrev acr:Obj:=.cells #[.slice none 0 0,.slice none 0 0,.int .i64 0] 31 (0,0)
theorem S1{w0 w:World}{Fr:As}{a b c d:Nat}{x0 x1 x2 y z f0 f1:Value}{L:List As}(H:Sat w0 w (Fr::av a (.cells #[x0,x1,x2] 31 (0,0))::av b (.cells #[y] 36 (0,0))::av c (.cells #[z] 89 (0,0))::av d (.cells #[f0,f1] 25 (0,0))::L))(f:Ty.Ft):
  CallsD prog 79 #[.pointer (some ⟨a,0,none⟩),.pointer (some ⟨b,0,none⟩),.pointer (some ⟨c,0,none⟩),.pointer (some ⟨d,0,none⟩)] (.panicking (aI f)) w λe u' w'=>
   e=.returned (.tuple #[])/\u'=.panicking [{v:=.iface 25 (bO f),recovered:=true}]/\
   Sat w0 w' (Fr::av a acr::av b (.cells #[.slice none 0 0] 36 (0,0))::av c (.cells #[.map none] 89 (0,0))::av d (.cells #[.int .i64 f.1,.int .i64 f.2] 25 (0,0))::L):=by
 have a0:=H.cell 1 rfl 0 rfl;have a1:=H.cell 1 rfl 1 rfl;have a2:=H.cell 1 rfl 2 rfl;have b0:=H.cell 2 rfl 0 rfl;have c0:=H.cell 3 rfl 0 rfl;have d0:=H.cell 4 rfl 0 rfl;have d1:=H.cell 4 rfl 1 rfl;have fa:=H.free 1 rfl;have fb:=H.free 2 rfl;have fc:=H.free 3 rfl;have fd:=H.free 4 rfl;have n12:=H.ne 1 2 (by decide) rfl rfl;have n13:=H.ne 1 3 (by decide) rfl rfl;have n14:=H.ne 1 4 (by decide) rfl rfl;have n23:=H.ne 2 3 (by decide) rfl rfl;have n24:=H.ne 2 4 (by decide) rfl rfl;have n34:=H.ne 3 4 (by decide) rfl rfl;have la:=H.lt 1 rfl;have lb:=H.lt 2 rfl;have lc:=H.lt 3 rfl;have ld:=H.lt 4 rfl;have aay:=uj f.1 f.2;have HH:=qh H;refine callsD_of_wpS func79 rfl λBt cs hu=>?_
 clear H;unfold aI at hu;apply wpS_seq;apply wpS_region;simp[wpOpsS,go_sem,recoverD,hu,ntmps79,Exit.thenS];apply wpS_seq;apply wpS_region;simp[wpOpsS,go_sem,Exit.thenS];refine wpS_cond (t:=true) (by simp[Act.eval,Array.replicate]) ?_;simp only[if_true];refine wpS_of_wp ?_;unfold bO
 go_region
 all_goals
  simp[bodyPostS,results,results79,bO];exact(((((((HH.o.store 1 rfl 0 (.slice none 0 0)).store 1 rfl 1 (.slice none 0 0)).store 1 rfl 2 (.int .i64 0)).store 2 rfl 0 (.slice none 0 0)).store 3 rfl 0 (.map none)).store 4 rfl 0 (.int .i64 f.1)).store 4 rfl 1 (.int .i64 f.2)).drew
end
section
open Go Go.RowKit Go.Sort
abbrev Bq:={p:Nat×Nat//p.1<=1000000}
instance :Inhabited Bq:=⟨⟨(0,0),by decide⟩⟩
def oR(x:Bq):List Value:=cH x.1
def AH(x y:Bq):Int:=(x.1.1:Int)-y.1.1
theorem S2(x y:Bq):ltOf AH x y=decide (x.1.1<y.1.1):=by
 unfold ltOf AH;by_cases h:x.1.1<y.1.1
 ·simp[h];omega
 ·simp[h];omega
theorem OH{cf:Bq->Bq->Int}(h:∀x y,ltOf cf x y=decide (x.1.1<y.1.1)):SWO (ltOf cf) where
 irrefl x:=by rw[h];simp
 trans x y z h1 h2:=by rw[h]at*;simp at*;omega
 ntrans x y z h1 h2:=by rw[h]at*;simp at*;omega
theorem GX(x y:Bq)(W:World):Calls prog 84 #[.agg #[.int .i64 (x.1.1:Nat),.int .i64 (x.1.2:Nat)],.agg #[.int .i64 (y.1.1:Nat),.int .i64 (y.1.2:Nat)]] W λe w'=>e=.returned (.int .i64 (AH x y))/\∃q Sl,w'=grow (W.drewN q) Sl:=by
 have hw:=IntWalk.i64_in (n:=(x.1.1:Int)-y.1.1) (by have:=x.2;have:=y.2;omega);unfold AH;obtain⟨⟨a,b⟩,ha⟩:=x;obtain⟨⟨c,d⟩,hc⟩:=y;dsimp only at*
 go_in;go_wp2_with fail
 go_ret
 refine⟨rfl,0,_,by rw[alloc_eq_grow,alloc_eq_grow,grow_grow];rfl⟩
theorem Eg:∀l:List (Nat×Nat),(∀p∈l,p.1<=1000000)->∃k:List Bq,k.map Subtype.val=l
 |[],_=>⟨[],rfl⟩
 |p::l,h=>by
  obtain⟨k,hk⟩:=Eg l λq hq=>h q (by simp[hq])
  exact⟨⟨p,h p (by simp)⟩::k,by simp[hk]⟩
theorem EE(k:List Bq):k.flatMap oR=(k.map Subtype.val).flatMap cH:=by
 induction k with
 |nil=>rfl
 |cons a k ih=>rw[List.flatMap_cons,List.map_cons,List.flatMap_cons,ih];rfl
theorem u_{ρ:Go.Shelf.Ren}(la:SlLaysF0.n6 prog ρ)(T:TypeId)(aE:∀w,(isAgg (ρ.t 24)).run prog w=.ok true w)(zE:∀w,(Go.sizeOf (ρ.t 24)).run prog w=.ok 2 w)(cf:Bq->Bq->Int)(Uf:∀x y,ltOf cf x y=decide (x.1.1<y.1.1))(G:FuncId)(eG:∀args w,(callFunc G args).run prog w=.ok (.enter G args) w)
  (hG:∀(x y:Bq)(W:World),Calls prog G #[.agg #[.int .i64 (x.1.1:Nat),.int .i64 (x.1.2:Nat)],.agg #[.int .i64 (y.1.1:Nat),.int .i64 (y.1.2:Nat)]] W λe w'=>e=.returned (.int .i64 (cf x y))/\∃q Sl,w'=grow (W.drewN q) Sl)
  {w0 w:World} {L:List As} {ov:Value} {out:List (Nat×Nat)} (H:Sat w0 w L) (i:Nat) (hi:L[i]?=some (Prt.row T 2 ov out.length (out.flatMap cH))) (hn:∀p∈out,p.1<=1000000) (hl:out.length<=1000000) {R:EW}
  (hR:∀w'(d:List (Nat×Nat)),d.Perm out->d.Pairwise (λx y=>x.1<=y.1)->Sat w0 w' (L.set i (Prt.row T 2 ov d.length (d.flatMap cH)))->R (.returned (.tuple #[])) w'):
  Calls prog (ρ.f 6) #[ov,.func (.func G) #[] #[]] w R:=by
 have bm:=H.row i hi;by_cases h0:out=[]
 ·subst h0;obtain⟨oa,oc,rfl⟩:=ag bm;have hc:=AnyF.slices_SortFunc_none la oa oc (.func (.func G) #[] #[]) w;refine Calls.mono hc ?_
  rintro e w' ⟨rfl,rfl⟩
  exact hR w' [] (List.Perm.refl _) List.Pairwise.nil (H.cL hi λ_ h=>h)
 ·obtain⟨g,cap,rfl,_,hg⟩:=bm.form (by have:=List.length_pos_iff.2 h0;omega);obtain⟨k,hk⟩:=Eg out hn;subst hk;have hH:HoldsK oR 2 w g 0 k.toArray:=by
   unfold HoldsK;have h1: (flatK oR 2 k.toArray)=((k.map Subtype.val).flatMap cH).toArray:=by
    apply Array.toList_inj.1;rw[ud oR 2 (λ_=>rfl) (by decide),EE]
   rw[h1];exact FJ bm
  have hc:=AnyQ.slices_SortFunc la 2 aE zE oR (λ_=>rfl) (λx v hv=>by
   unfold oR cH at hv;rcases List.mem_cons.1 hv with rfl|hv
   ·rfl
   ·rw[List.mem_singleton.1 hv];rfl) cf (OH Uf) G #[] g 0 cap k.toArray w eG (λ_ _ _ _ x y=>hG x y _) hH hg (by simp;simp at hl;omega)
  have he: (#[.slice (some ⟨g,0,none⟩) (k.map Subtype.val).length cap,.func (.func G) #[] #[]]:Array Value)=#[.slice (some ⟨g,0,none⟩) k.toArray.size cap,.func (.func G) #[] #[]]:=by simp
  rw[he];refine Calls.mono hc ?_
  rintro e w' ⟨rfl,d,n,os,hp,hs,rfl⟩
  have Jl:d.size=k.length:=by have:=hp.1;simpa using this
  have S6:d.toList.Perm k:=by
   have h1:=hp.2.2;have e1:d.extract 0 k.toArray.size=d:=by
    rw[show k.toArray.size=d.size by simp[Jl]];simp
   have e2:k.toArray.extract 0 k.toArray.size=k.toArray:=by simp
   rw[e1,e2]at h1
   simpa using h1
  have SX: (d.toList.map Subtype.val).Pairwise (λx y=>x.1<=y.1):=by
   rw[List.pairwise_map,List.pairwise_iff_getElem];intro a b ha hb rQ;have h1:=hs a b (Nat.zero_le _) rQ (by simp;simp at hb;omega);rw[Uf,decide_eq_false_iff_not]at h1
   rw[getElem!_pos d b (by simpa using hb),getElem!_pos d a (by simpa using ha)]at h1
   simp only[Array.getElem_toList];omega
  have hF: (flatK oR 2 d).toList=(d.toList.map Subtype.val).flatMap cH:=by
   have h1:=ud oR 2 (λ_=>rfl) (by decide) d.toList;rw[Array.toArray_toList]at h1
   rw[h1,EE]
  have h2:=H.sorted i hi (flatK oR 2 d) (by simp[Jl]) n os;refine hR _ (d.toList.map Subtype.val) (S6.map _) SX ?_;have h3:Prt.row T 2 (.slice (some ⟨g,0,none⟩) (k.map Subtype.val).length cap) (k.map Subtype.val).length (flatK oR 2 d).toList=Prt.row T 2 (.slice (some ⟨g,0,none⟩) (k.map Subtype.val).length cap) (d.toList.map Subtype.val).length ((d.toList.map Subtype.val).flatMap cH):=by
   rw[hF];simp[Jl]
  rw[<-h3];exact h2
theorem C9{w0 w:World}{L:List As}{ov:Value}{out:List (Nat×Nat)}(H:Sat w0 w L)(i:Nat)(hi:L[i]?=some (vC ov out))(hn:∀p∈out,p.1<=1000000)(hl:out.length<=1000000){R:EW}
  (hR:∀w' d,d.Perm out->d.Pairwise (λx y=>x.1<=y.1)->Sat w0 w' (L.set i (vC ov d))->R (.returned (.tuple #[])) w'):
  Calls prog 83 #[ov,.func (.func 84) #[] #[]] w R:=
 u_ sortBd 43 isAgg43 sizeOf43 AH S2 84 (enters_of func84 (by kernel_rfl) rfl) GX H i hi hn hl hR
end
section
open Ty (Frm Vg aN aJ dU mR)
section
variable {wB:World} {nv tv:Value} {pg:Ty.Pg} {bb:Nat} {main:Int}
theorem Hc(hP:PB wB nv tv pg){mn bp:Nat}{ids:List Nat}(AL:pg.ns[mn]?=some {Ty.af 26 bp with list:=ids}){cs:List (Nat×ez)}(hC:gI wB nv tv bb main ids cs)(zG:ids.length<=1000000)
  {frs:List Frm} {v:Vg} {c:Nat} {w:World} {Fr:As} (hF:gR wB Fr) {xb pb:Nat} (jJ:pb<wB.heap.size) (p0:wB.cell? ⟨pb,0,none⟩=some nv) (p2:wB.cell? ⟨pb,2,none⟩=some (.int .i64 (mn:Nat)))
  (H:Sat wB w [ah [Fr,av xb (.cells #[.pointer (some ⟨bb,0,none⟩)] 142 (0,0))],pG bb nv tv main c frs v]) (hc:c+dq cs<=100000) {R:EW}
  (aH:∀dD v' w',dI (cs.map Prod.snd) frs v=.ok (dD,v')->Sat wB w' [ah [Fr,av xb (.cells #[.pointer (some ⟨bb,0,none⟩)] 142 (0,0))],pG bb nv tv main (c+dq cs) dD v']->R (.returned (.tuple #[])) w')
  (au:∀f w',dI (cs.map Prod.snd) frs v=.error f->Sat wB w' [ah [Fr,av xb (.cells #[.pointer (some ⟨bb,0,none⟩)] 142 (0,0))]]->R (.panicked (aI f)) w'):
  Calls prog 81 #[.pointer (some ⟨xb,0,none⟩),.pointer (some ⟨pb,0,none⟩)] w R:=by
 obtain⟨g,cap,lv,rfl,k_,hg,kK,Dt,hA,hl,_,hN⟩:=hP.look AL;obtain⟨la,lc,rfl⟩:=ag hl;dsimp only at hl;have hu:=H.unpack (i:=0) rfl;have y0:=hu.cell 2 rfl 0 rfl;have cC:=qh (hF.ah (M:=[av xb (.cells #[.pointer (some ⟨bb,0,none⟩)] 142 (0,0))]));have hb:=cC.o w _ 0 H rfl;have QM:=hA.below hb;have c0:=ak hb p0;have c2:=ak hb p2;have c4:=QM.q4;dsimp only at c4;have aX:=qh aH;have aB:=qh au;have H1:=qh H;have du:=qh hl;have Vx:=qh p0;have KV:=qh p2;have abT:=qh hA.q4;unfold maxLen at Dt;clear aH au H hu hF hA QM hb p0 p2 hP AL hl;generalize pg.ns.length=N at*
 have e1: (0:Int)<=(mn:Int):=by omega
 have e2: (mn:Int)<(N:Int):=by omega
 have e3: ((mn:Int)).toNat=mn:=by omega
 go_in;go_wp2_with fail;refine wp_region_held_drew (S:=λw'=>w'.cell? ⟨xb,0,none⟩=some (.pointer (some ⟨bb,0,none⟩))/\w'.cell? ⟨pb,0,none⟩=some (.slice (some ⟨g,0,none⟩) N cap)/\w'.cell? ⟨pb,2,none⟩=some (.int .i64 (mn:Nat))/\w'.cell? ⟨g,mn*9+4,none⟩=some (.slice la ids.length lc)) (by kernel_rfl) ⟨y0,c0,c2,c4⟩ (λhS=>?_);refine mP 0 ?_;refine mP 1 ?_;refine mP 2 ?_;refine mP 3 ?_;refine mP 4 ?_;refine mP 5 ?_;refine mP 6 ?_;refine mP 7 ?_;refine wpAnyH_ready (rs:=[8]) (by kernel_rfl) (by simp) ?_;refine AllReadyH.cons rfl (λK hK=>?_) AllReadyH.nil;go_simp;refine oB (ids:=ids) (cs:=cs) cC.o hC.1 hC.2 (λw1 L i hs hi=>ay du.o (cC.o w1 L i hs hi)) zG H1.o.drew hc ?_ ?_
 ·intro iK v2 w8 kR h9;have rj:=cC.o w8 _ 0 h9 rfl;refine hK.out _ _ ⟨(h9.unpack (i:=0) rfl).cell 2 rfl 0 rfl,ak rj Vx.o,ak rj KV.o,ak rj abT.o⟩ (λhHeld=>?_);have HG:=qh (aX.o iK v2 w8 kR h9);clear hK K hHeld kR h9 rj;refine wpAnyH_done (by kernel_rfl) ?_ _;go_wp2_with fail;go_end0;exact HG.o
 ·intro f w8 kR h9;exact⟨rfl,aB.o f w8 kR h9⟩
end
abbrev Q_:Vg:=⟨[],λ_=>none,λ_=>false⟩
abbrev JT(l:List Ty.Sm):Except Ty.Ft (List Frm×Vg):=dI ((mR l 0).map Prod.snd) [⟨[],aJ l,-1⟩] Q_
theorem En{l:List Ty.Sm}{frs:List Frm}{v:Vg}(h:JT l=.ok (frs,v)):jC l=.ok v/\∃fr,frs=[fr]:=by
 unfold JT at h;rw[ox]at h
 unfold jC;cases hq:Ty.fw l 0 ⟨[],aJ l,-1⟩ [] Q_ with
 |error f=>rw[hq]at h;cases h
 |ok r=>rw[hq]at h;cases h;exact⟨rfl,_,rfl⟩
theorem JO{l:List Ty.Sm}{f:Ty.Ft}(h:JT l=.error f):jC l=.error f:=by
 unfold JT at h;rw[ox]at h
 unfold jC;cases hq:Ty.fw l 0 ⟨[],aJ l,-1⟩ [] Q_ with
 |error g=>rw[hq]at h;cases h;rfl
 |ok r=>rw[hq]at h;cases h
theorem TC{wB:World}{nv tv:Value}{main:Int}(n:Nat)(hn:n=wB.heap.size):
  Sat wB ((((wB.alloc (.map #[] 0)).alloc (.map #[] 0)).alloc (.cells #[nv,tv,.int .i64 main,.slice none 0 0,.slice none 0 0,.map (some n),.map (some (n+1))] 145)).alloc (.cells #[.pointer (some ⟨n+1+1,0,none⟩)] 142))
   [ah [bG wB,av (n+1+1+1) (.cells #[.pointer (some ⟨n+1+1,0,none⟩)] 142 (0,0))],CA (n+1+1) nv tv main [] Q_ 0 0]:=by
 subst hn;have h1:=(Sat.fO wB).uG 3 3 wB.heap.size rfl sF;have h2:=h1.uG 3 4 (wB.heap.size+1) (by simp) zJ;have h3:=((((h2.aj (.cells #[nv,tv,.int .i64 main,.slice none 0 0,.slice none 0 0,.map (some wB.heap.size),.map (some (wB.heap.size+1))] 145) (wB.heap.size+1+1) (by simp)).aj (.cells #[.pointer (some ⟨wB.heap.size+1+1,0,none⟩)] 142) (wB.heap.size+1+1+1) (by simp)).nil 195 2).nil 43 2).iA (P:=ko []) (λ_=>trivial);have h4:=(Sat.pack (L:=[_,_,_,_,_,_]) (M:=[bG wB,av (wB.heap.size+1+1+1) (.cells #[.pointer (some ⟨wB.heap.size+1+1,0,none⟩)] 142 (0,0))]) (h3.pick [3,5,6,1,2,7,0,4])).pick [6,0,1,2,3,4,5];exact Sat.yq (v:=Q_) (frs:=[]) (ms:=[]) rfl h4
theorem I_{w0 w:World}{Fr:As}(H:Sat w0 w [Fr])(s:BA)(hw:Words w)(hm:s.size<=maxLen){l:List Ty.Sm}(hl:∀pg:Ty.Pg,Ty.parse s=.ok pg->eu 0 l []=(pg.ns,pg.main)){R:EW}
  (aH:∀(pg:Ty.Pg) nv tv ov cb v d nc w',Ty.parse s=.ok pg->jC l=.ok v->d.Perm v.out->d.Pairwise (λx y=>x.1<=y.1)->nc<=100000->d.length<=100000->Sat w0 w' [Fr,vW nv pg.ns,xV tv pg.ts,vC ov d,mapA 3 4 cb nc (cS v.ca)]->
   R (.returned (.tuple #[.agg #[nv,tv,.int .i64 (pg.main:Nat)],ov,.map (some cb),bO (0,0)])) w')
  (au:∀f w',(Ty.parse s=.error f\/∃pg:Ty.Pg,Ty.parse s=.ok pg/\jC l=.error f)->Sat w0 w' [Fr]->R (.returned (.tuple #[.agg #[.slice none 0 0,.slice none 0 0,.int .i64 0],.slice none 0 0,.map none,bO f])) w'):
  Calls prog 43 #[.string s] w R:=by
 have aX:=qh aH;have aB:=qh au;have HW:=qh hw;have Co:=qh hm;have HL:=qh hl;have Ii:∀(fn:Fn)(first cap:Array Value)(w:World),(Instr.makeFunc fn first cap).run prog w=.ok (.func fn first cap) w:=λ_ _ _ _=>rfl
 have Hv:=@run_makeMap prog;have h1:=(((H.aj (.cells #[.slice none 0 0,.slice none 0 0,.int .i64 0] 31) w.heap.size).aj (.cells #[.slice none 0 0] 36) (w.heap.size+1) (by simp)).aj (.cells #[.map none] 89) (w.heap.size+2) (by simp)).aj (.cells #[.int .i64 0,.int .i64 0] 25) (w.heap.size+3) (by simp);have H1:=qh (Sat.pack (L:=[]) h1);clear aH au hw hm hl H h1
 go_enter_defers func43,ntmps43
 go_wp2_with fail;refine GI H1.o s (HW.o.below ((((((bR _ _).alloc (nR _) _).alloc (by simp) _).alloc (by simp;omega) _).alloc (by simp;omega) _))) Co.o (λpg nv tv w1 ht h2=>?_) (λf w1 ht h2=>?_)
 ·have h3:=(h2.unpack (i:=0) rfl).pick [2,3,4,5,6,0,1];obtain⟨nr,B_,ni⟩:=h3.mF 5 rfl;obtain⟨tr,C7,mX⟩:=h3.F2 6 rfl;obtain⟨na,nc,en⟩:=ag ni.row;obtain⟨ta,tc,et⟩:=ag mX.row;have fa:=h3.free 1 rfl;have fd:=h3.free 4 rfl;have la:=h3.lt 1 rfl;have ld:=h3.lt 4 rfl;have a0:=h3.cell 1 rfl 0 rfl;have a1:=h3.cell 1 rfl 1 rfl;have a2:=h3.cell 1 rfl 2 rfl;have d0:=h3.cell 4 rfl 0 rfl;have d1:=h3.cell 4 rfl 1 rfl;have n14:=h3.ne 1 4 (by decide) rfl rfl;have H3:=qh h3;have HT:=qh ht;clear h2 h3 B_ ni C7 mX ht;subst en et;generalize nr.length=NN at*
  generalize tr.length=TN at*
  dsimp only[bO];go_wp2_with fail;have h4:=((((H3.o.store 1 rfl 0 (.slice na NN nc)).store 1 rfl 1 (.slice ta TN tc)).store 1 rfl 2 (.int .i64 (pg.main:Nat))).store 4 rfl 0 (.int .i64 0)).store 4 rfl 1 (.int .i64 0);have hz: (((((w1.setCell ⟨w.heap.size,0,none⟩ (.slice na NN nc)).setCell ⟨w.heap.size,1,none⟩ (.slice ta TN tc)).setCell ⟨w.heap.size,2,none⟩ (.int .i64 (pg.main:Nat))).setCell ⟨w.heap.size+1+1+1,0,none⟩ (.int .i64 0)).setCell ⟨w.heap.size+1+1+1,1,none⟩ (.int .i64 0)).heap.size=w1.heap.size:=by simp
  rw[show w.heap.size+3=w.heap.size+1+1+1 by omega]at h4
  clear a0 a1 a2 d0 d1 fa fd;generalize((((w1.setCell ⟨w.heap.size,0,none⟩ (.slice na NN nc)).setCell ⟨w.heap.size,1,none⟩ (.slice ta TN tc)).setCell ⟨w.heap.size,2,none⟩ (.int .i64 (pg.main:Nat))).setCell ⟨w.heap.size+1+1+1,0,none⟩ (.int .i64 0)).setCell ⟨w.heap.size+1+1+1,1,none⟩ (.int .i64 0)=W2 at h4 hz⊢;obtain⟨Ww,B_,ni⟩:=h4.mF 5 rfl;obtain⟨VX,C7,mX⟩:=h4.F2 6 rfl;have Bi:=lN HT.o;have hP:PB W2 (.slice na NN nc) (.slice ta TN tc) pg:=⟨⟨Ww,B_,ni⟩,⟨VX,C7,mX⟩,Bi⟩
  obtain⟨LR,AL,Ji,k_⟩:=o8 (HL.o pg HT.o);have QY:=Bi.ju;have Oe:=lD l 0;have V3:=pW l 0;have U2:=TC (wB:=W2) (nv:=.slice na NN nc) (tv:=.slice ta TN tc) (main:=(pg.main:Nat)) w1.heap.size hz.symm;have p0:=h4.cell 1 rfl 0 rfl;have p2:=h4.cell 1 rfl 2 rfl;have jJ:=h4.lt 1 rfl;rw[Ji]at p2
  have hC:=λb0 m0=>pC (bb:=b0) (main:=m0) hP l 0 LR
  have H4:=qh h4;have adk:=qh QY;have WE:=qh U2;have HC:=qh (λw5(h5:Sat W2 w5 [ah [bG W2,av (w1.heap.size+1+1+1) (.cells #[.pointer (some ⟨w1.heap.size+1+1,0,none⟩)] 142 (0,0))],pG (w1.heap.size+1+1) (.slice na NN nc) (.slice ta TN tc) (pg.main:Nat) 1 [⟨[],aJ l,-1⟩] Q_]) R aH au=>Hc (R:=R) hP AL (hC _ _) (by omega) (gR.fO W2) jJ p0 p2 h5 (by omega) aH au);have HS:Hq (dq (mR l 0)<=1200):=by show _<=_;omega
  have Ia:Hq (aJ l+1<=1200):=by show _<=_;omega
  clear h4 B_ ni C7 mX Bi hP LR AL Ji k_ QY Oe V3 U2 p0 p2 jJ hC hz H3 la ld n14;refine Ar 81 _ Tryz.call81 (owner:=aJ l) (of:= -1) WE.o (by simp) (m:=JT l) (K:=λuf iK v2 zk lu=>zk<=1+dq (mR l 0)/\lu<=1+dq (mR l 0)/\OkS (1+dq (mR l 0)) (uf::iK) v2) (λw5 h5 R' Dx uM=>?_) (λuf iK v2 zk lu w5 hK hm h5=>?_) (λf w5 hm h5=>?_)
  ·refine HC.o w5 (h5.vF (by omega) (by omega) ⟨by simp,by simp,by simp,by simp,by simp⟩) R' (λdD v' w' hq h6=>?_) uM;obtain⟨_,uf,rfl⟩:=En hq;obtain⟨zk,lu,g1,g2,g3,g4⟩:=h6.iw;exact Dx uf [] v' zk lu w' ⟨g1,g2,g3⟩ (by simp) hq g4
  ·obtain⟨hv,aal,he⟩:=En hm;injection he with e1 e2;subst e1 e2;have MO:=L3 hv;have VB:=hK.2.2.out;have adA:=HS.o;have acV:=Ia.o;obtain⟨sv,ov,wb,cb,ms,gS,h6⟩:=h5.gF;obtain⟨oa,oc,rfl⟩:=ag (h6.row 3 rfl);have h7:=(h6.unpack (i:=0) rfl).pick [6,7,0,1,2,3,4,5];have x1:=h7.cell 1 rfl 0 rfl;have b4:=h7.cell 2 rfl 4 rfl;have HV:=qh hv;have H7:=qh h7;have aco:=qh hK.2.1;have V2:=qh MO;clear h5 h6 h7 hm gS hv hK MO;go_wp2_with fail;refine C9 H7.o 4 rfl (λp hp=>by have:=V2.o p hp;omega) (by omega) (λw6 d hp hs h8=>?_);have h9:Sat w0 w6 [Fr,av (w.heap.size) (.cells #[.slice na NN nc,.slice ta TN tc,.int .i64 (pg.main:Nat)] 31 (0,0)),av (w.heap.size+1) (.cells #[.slice none 0 0] 36 (0,0)),av (w.heap.size+1+1) (.cells #[.map none] 89 (0,0)),av (w.heap.size+1+1+1) (.cells #[.int .i64 0,.int .i64 0] 25 (0,0)),vW (.slice na NN nc) pg.ns,xV (.slice ta TN tc) pg.ts,
    av (w1.heap.size+1+1+1) (.cells #[.pointer (some ⟨w1.heap.size+1+1,0,none⟩)] 142 (0,0)),av (w1.heap.size+1+1) (Ek (.slice na NN nc) (.slice ta TN tc) (pg.main:Nat) sv (.slice oa v2.out.length oc) wb cb),vC (.slice oa v2.out.length oc) d,mapA 3 4 cb lu (cS v2.ca)]:=(H4.o.join h8).pick [0,1,2,3,4,5,6,7,8,10,12]
   have UK:d.length=v2.out.length:=hp.length_eq;have x1:=h9.cell 7 rfl 0 rfl;have b4:=h9.cell 8 rfl 4 rfl;have b6:=h9.cell 8 rfl 6 rfl;have hS:w6.drew.cell? ⟨w.heap.size,0,none⟩=some (.slice na NN nc)/\w6.drew.cell? ⟨w.heap.size,1,none⟩=some (.slice ta TN tc)/\w6.drew.cell? ⟨w.heap.size,2,none⟩=some (.int .i64 (pg.main:Nat))/\w6.drew.cell? ⟨w1.heap.size+1+1+1,0,none⟩=some (.pointer (some ⟨w1.heap.size+1+1,0,none⟩))/\w6.drew.cell? ⟨w1.heap.size+1+1,4,none⟩=some (.slice oa v2.out.length oc)/\w6.drew.cell? ⟨w1.heap.size+1+1,6,none⟩=some (.map (some cb))/\w6.drew.cell? ⟨w.heap.size+1+1+1,0,none⟩=some (.int .i64 0)/\w6.drew.cell? ⟨w.heap.size+1+1+1,1,none⟩=some (.int .i64 0):=⟨h9.drew.cell 1 rfl 0 rfl,h9.drew.cell 1 rfl 1 rfl,h9.drew.cell 1 rfl 2 rfl,h9.drew.cell 7 rfl 0 rfl,h9.drew.cell 8 rfl 4 rfl,h9.drew.cell 8 rfl 6 rfl,h9.drew.cell 4 rfl 0 rfl,h9.drew.cell 4 rfl 1 rfl⟩
   have H9:=qh h9;have V6:=qh UK;have XP:=qh hp;have ZS:=qh hs;clear h8 h9 UK hp hs H7 H4 HC WE Hv;go_wp2_with fail;refine wp_region_noPanic ?_;refine wp_region_held_drew (S:=λw'=>w'.cell? ⟨w.heap.size,0,none⟩=some (.slice na NN nc)/\w'.cell? ⟨w.heap.size,1,none⟩=some (.slice ta TN tc)/\w'.cell? ⟨w.heap.size,2,none⟩=some (.int .i64 (pg.main:Nat))/\w'.cell? ⟨w1.heap.size+1+1+1,0,none⟩=some (.pointer (some ⟨w1.heap.size+1+1,0,none⟩))/\w'.cell? ⟨w1.heap.size+1+1,4,none⟩=some (.slice oa v2.out.length oc)/\w'.cell? ⟨w1.heap.size+1+1,6,none⟩=some (.map (some cb))/\w'.cell? ⟨w.heap.size+1+1+1,0,none⟩=some (.int .i64 0)/\w'.cell? ⟨w.heap.size+1+1+1,1,none⟩=some (.int .i64 0)) (by kernel_rfl) hS (λhS=>?_);refine mP 0 ?_;refine mP 1 ?_;refine mP 2 ?_;refine mP 3 ?_;refine mP 4 ?_;refine mP 5 ?_;refine mP 6 ?_;refine mP 7 ?_;refine mP 8 ?_;refine mP 9 ?_;clear hS x1 b4 b6;have h9:=H9.o;have fz:=h9.free 1 rfl;have lz:=h9.lt 1 rfl;have q0:=h9.cell 1 rfl 0 rfl;have q1:=h9.cell 1 rfl 1 rfl;have q2:=h9.cell 1 rfl 2 rfl;refine wpAnyH_ready (rs:=[10]) (by kernel_rfl) (by simp) ?_;refine AllReadyH.cons rfl (λK hK=>?_) AllReadyH.nil;go_simp;have k3:Sat w0 ((((w6.setCell ⟨w.heap.size,0,none⟩ (.slice na NN nc)).setCell ⟨w.heap.size,1,none⟩ (.slice ta TN tc)).setCell ⟨w.heap.size,2,none⟩ (.int .i64 (pg.main:Nat))).drew) [Fr,av (w.heap.size) (.cells #[.slice na NN nc,.slice ta TN tc,.int .i64 (pg.main:Nat)] 31 (0,0)),av (w.heap.size+1) (.cells #[.slice none 0 0] 36 (0,0)),av (w.heap.size+1+1) (.cells #[.map none] 89 (0,0)),av (w.heap.size+1+1+1) (.cells #[.int .i64 0,.int .i64 0] 25 (0,0)),vW (.slice na NN nc) pg.ns,xV (.slice ta TN tc) pg.ts,
    av (w1.heap.size+1+1+1) (.cells #[.pointer (some ⟨w1.heap.size+1+1,0,none⟩)] 142 (0,0)),av (w1.heap.size+1+1) (Ek (.slice na NN nc) (.slice ta TN tc) (pg.main:Nat) sv (.slice oa v2.out.length oc) wb cb),vC (.slice oa v2.out.length oc) d,mapA 3 4 cb lu (cS v2.ca)]:=((h9.drew.store 1 rfl 0 (.slice na NN nc)).store 1 rfl 1 (.slice ta TN tc)).store 1 rfl 2 (.int .i64 (pg.main:Nat))
   refine hK.out _ _ ⟨k3.cell 1 rfl 0 rfl,k3.cell 1 rfl 1 rfl,k3.cell 1 rfl 2 rfl,k3.cell 7 rfl 0 rfl,k3.cell 8 rfl 4 rfl,k3.cell 8 rfl 6 rfl,k3.cell 4 rfl 0 rfl,k3.cell 4 rfl 1 rfl⟩ (λhHeld=>?_);clear hK K hHeld fz lz q0 q1 q2 h9;generalize(((w6.setCell ⟨w.heap.size,0,none⟩ (.slice na NN nc)).setCell ⟨w.heap.size,1,none⟩ (.slice ta TN tc)).setCell ⟨w.heap.size,2,none⟩ (.int .i64 (pg.main:Nat))).drew=w7 at k3⊢;have fz:=k3.free 2 rfl;have lz:=k3.lt 2 rfl;have q0:=k3.cell 2 rfl 0 rfl;refine wpAnyH_ready (rs:=[11]) (by kernel_rfl) (by simp) ?_;refine AllReadyH.cons rfl (λK hK=>?_) AllReadyH.nil;go_simp;have k4:Sat w0 (w7.setCell ⟨w.heap.size+1,0,none⟩ (.slice oa v2.out.length oc)) [Fr,av (w.heap.size) (.cells #[.slice na NN nc,.slice ta TN tc,.int .i64 (pg.main:Nat)] 31 (0,0)),av (w.heap.size+1) (.cells #[.slice oa v2.out.length oc] 36 (0,0)),av (w.heap.size+1+1) (.cells #[.map none] 89 (0,0)),av (w.heap.size+1+1+1) (.cells #[.int .i64 0,.int .i64 0] 25 (0,0)),vW (.slice na NN nc) pg.ns,xV (.slice ta TN tc) pg.ts,
    av (w1.heap.size+1+1+1) (.cells #[.pointer (some ⟨w1.heap.size+1+1,0,none⟩)] 142 (0,0)),av (w1.heap.size+1+1) (Ek (.slice na NN nc) (.slice ta TN tc) (pg.main:Nat) sv (.slice oa v2.out.length oc) wb cb),vC (.slice oa v2.out.length oc) d,mapA 3 4 cb lu (cS v2.ca)]:=k3.store 2 rfl 0 (.slice oa v2.out.length oc)
   refine hK.out _ _ ⟨k4.cell 1 rfl 0 rfl,k4.cell 1 rfl 1 rfl,k4.cell 1 rfl 2 rfl,k4.cell 7 rfl 0 rfl,k4.cell 8 rfl 4 rfl,k4.cell 8 rfl 6 rfl,k4.cell 4 rfl 0 rfl,k4.cell 4 rfl 1 rfl⟩ (λhHeld=>?_);clear hK K hHeld fz lz q0 k3;generalize w7.setCell ⟨w.heap.size+1,0,none⟩ (.slice oa v2.out.length oc)=w8 at k4⊢;have fz:=k4.free 3 rfl;have lz:=k4.lt 3 rfl;have q0:=k4.cell 3 rfl 0 rfl;refine wpAnyH_ready (rs:=[12]) (by kernel_rfl) (by simp) ?_;refine AllReadyH.cons rfl (λK hK=>?_) AllReadyH.nil;go_simp;have k5:Sat w0 (w8.setCell ⟨w.heap.size+1+1,0,none⟩ (.map (some cb))) [Fr,av (w.heap.size) (.cells #[.slice na NN nc,.slice ta TN tc,.int .i64 (pg.main:Nat)] 31 (0,0)),av (w.heap.size+1) (.cells #[.slice oa v2.out.length oc] 36 (0,0)),av (w.heap.size+1+1) (.cells #[.map (some cb)] 89 (0,0)),av (w.heap.size+1+1+1) (.cells #[.int .i64 0,.int .i64 0] 25 (0,0)),vW (.slice na NN nc) pg.ns,xV (.slice ta TN tc) pg.ts,
    av (w1.heap.size+1+1+1) (.cells #[.pointer (some ⟨w1.heap.size+1+1,0,none⟩)] 142 (0,0)),av (w1.heap.size+1+1) (Ek (.slice na NN nc) (.slice ta TN tc) (pg.main:Nat) sv (.slice oa v2.out.length oc) wb cb),vC (.slice oa v2.out.length oc) d,mapA 3 4 cb lu (cS v2.ca)]:=k4.store 3 rfl 0 (.map (some cb))
   refine hK.out _ _ ⟨k5.cell 1 rfl 0 rfl,k5.cell 1 rfl 1 rfl,k5.cell 1 rfl 2 rfl,k5.cell 7 rfl 0 rfl,k5.cell 8 rfl 4 rfl,k5.cell 8 rfl 6 rfl,k5.cell 4 rfl 0 rfl,k5.cell 4 rfl 1 rfl⟩ (λhHeld=>?_);clear hK K hHeld fz lz q0 k4;generalize w8.setCell ⟨w.heap.size+1+1,0,none⟩ (.map (some cb))=w9 at k5⊢;have fz:=k5.free 4 rfl;have lz:=k5.lt 4 rfl;have q0:=k5.cell 4 rfl 0 rfl;have q1:=k5.cell 4 rfl 1 rfl;refine wpAnyH_ready (rs:=[13]) (by kernel_rfl) (by simp) ?_;refine AllReadyH.cons rfl (λK hK=>?_) AllReadyH.nil;go_simp;have k7:Sat w0 ((w9.setCell ⟨w.heap.size+1+1+1,0,none⟩ (.int .i64 0)).setCell ⟨w.heap.size+1+1+1,1,none⟩ (.int .i64 0)) [Fr,av (w.heap.size) (.cells #[.slice na NN nc,.slice ta TN tc,.int .i64 (pg.main:Nat)] 31 (0,0)),av (w.heap.size+1) (.cells #[.slice oa v2.out.length oc] 36 (0,0)),av (w.heap.size+1+1) (.cells #[.map (some cb)] 89 (0,0)),av (w.heap.size+1+1+1) (.cells #[.int .i64 0,.int .i64 0] 25 (0,0)),vW (.slice na NN nc) pg.ns,xV (.slice ta TN tc) pg.ts,
    av (w1.heap.size+1+1+1) (.cells #[.pointer (some ⟨w1.heap.size+1+1,0,none⟩)] 142 (0,0)),av (w1.heap.size+1+1) (Ek (.slice na NN nc) (.slice ta TN tc) (pg.main:Nat) sv (.slice oa v2.out.length oc) wb cb),vC (.slice oa v2.out.length oc) d,mapA 3 4 cb lu (cS v2.ca)]:=(k5.store 4 rfl 0 (.int .i64 0)).store 4 rfl 1 (.int .i64 0)
   refine hK.out _ _ ⟨k7.cell 1 rfl 0 rfl,k7.cell 1 rfl 1 rfl,k7.cell 1 rfl 2 rfl,k7.cell 7 rfl 0 rfl,k7.cell 8 rfl 4 rfl,k7.cell 8 rfl 6 rfl,k7.cell 4 rfl 0 rfl,k7.cell 4 rfl 1 rfl⟩ (λhHeld=>?_);clear hK K hHeld fz lz q0 q1 k5;generalize(w9.setCell ⟨w.heap.size+1+1+1,0,none⟩ (.int .i64 0)).setCell ⟨w.heap.size+1+1+1,1,none⟩ (.int .i64 0)=l_ at k7⊢;refine wpAnyH_done (by kernel_rfl) ?_ _;refine NoPanic.normal ?_;have K7:=qh k7;clear k7;go_wp2_with fail;refine leaves_cons (f:=79) (args:=#[.pointer (some ⟨w.heap.size,0,none⟩),.pointer (some ⟨w.heap.size+1,0,none⟩),.pointer (some ⟨w.heap.size+1+1,0,none⟩),.pointer (some ⟨w.heap.size+1+1+1,0,none⟩)]) (by simp) (by simp[go_sem]) ?_;refine(JW _ _ _ _ _).mono ?_
   rintro e u' Nj ⟨rfl,rfl,rfl⟩
   have a0:=K7.out.cell 1 rfl 0 rfl;have a1:=K7.out.cell 1 rfl 1 rfl;have a2:=K7.out.cell 1 rfl 2 rfl;have b0:=K7.out.cell 2 rfl 0 rfl;have c0:=K7.out.cell 3 rfl 0 rfl;have d0:=K7.out.cell 4 rfl 0 rfl;have d1:=K7.out.cell 4 rfl 1 rfl;simp[Leaves,settle,results,results43,go_sem,a0,a1,a2,b0,c0,d0,d1];have PR:=aco.o;have Yl:=V6.o;exact aX.o pg _ _ _ cb v2 d lu _ HT.o HV.o XP.o ZS.o (by omega) (by omega) (K7.out.pick [0,5,6,9,10])
  ·have h6:Sat w0 w5 [Fr,av (w.heap.size) (.cells #[.slice na NN nc,.slice ta TN tc,.int .i64 (pg.main:Nat)] 31 (0,0)),av (w.heap.size+1) (.cells #[.slice none 0 0] 36 (0,0)),av (w.heap.size+1+1) (.cells #[.map none] 89 (0,0)),av (w.heap.size+1+1+1) (.cells #[.int .i64 0,.int .i64 0] 25 (0,0))]:=(H4.o.join (h5.unpack (i:=0) rfl)).pick [0,1,2,3,4];have HM:=qh hm;clear h5 hm H4 HC WE;refine leaves_cons (f:=79) (args:=#[.pointer (some ⟨w.heap.size,0,none⟩),.pointer (some ⟨w.heap.size+1,0,none⟩),.pointer (some ⟨w.heap.size+1+1,0,none⟩),.pointer (some ⟨w.heap.size+1+1+1,0,none⟩)]) (by simp) (by simp[go_sem]) ?_;refine(S1 h6 f).mono ?_
   rintro e u' Nj ⟨rfl,rfl,h9⟩
   have a0:=h9.cell 1 rfl 0 rfl;have a1:=h9.cell 1 rfl 1 rfl;have a2:=h9.cell 1 rfl 2 rfl;have b0:=h9.cell 2 rfl 0 rfl;have c0:=h9.cell 3 rfl 0 rfl;have d0:=h9.cell 4 rfl 0 rfl;have d1:=h9.cell 4 rfl 1 rfl;simp[Leaves,settle,results,results43,go_sem,a0,a1,a2,b0,c0,d0,d1];exact aB.o f _ (.inr ⟨pg,HT.o,JO HM.o⟩) (h9.pick [0])
 ·have Ie:=lF ht;obtain⟨fe,fp⟩:=f;dsimp only at Ie;have e2: ((fe:Int) !=0)=true:=by simp;omega
  have h3:Sat w0 w1 [Fr,av (w.heap.size) (.cells #[.slice none 0 0,.slice none 0 0,.int .i64 0] 31 (0,0)),av (w.heap.size+1) (.cells #[.slice none 0 0] 36 (0,0)),av (w.heap.size+1+1) (.cells #[.map none] 89 (0,0)),av (w.heap.size+1+1+1) (.cells #[.int .i64 0,.int .i64 0] 25 (0,0))]:=(h2.unpack (i:=0) rfl).pick [0,1,2,3,4];have h4:Sat w0 (((((w1.setCell ⟨w.heap.size,0,none⟩ (.slice none 0 0)).setCell ⟨w.heap.size,1,none⟩ (.slice none 0 0)).setCell ⟨w.heap.size,2,none⟩ (.int .i64 0)).setCell ⟨w.heap.size+1+1+1,0,none⟩ (.int .i64 (fe:Nat))).setCell ⟨w.heap.size+1+1+1,1,none⟩ (.int .i64 (fp:Nat))) [Fr,av (w.heap.size) (.cells #[.slice none 0 0,.slice none 0 0,.int .i64 0] 31 (0,0)),av (w.heap.size+1) (.cells #[.slice none 0 0] 36 (0,0)),av (w.heap.size+1+1) (.cells #[.map none] 89 (0,0)),av (w.heap.size+1+1+1) (.cells #[.int .i64 (fe:Nat),.int .i64 (fp:Nat)] 25 (0,0))]:=((((h3.store 1 rfl 0 (.slice none 0 0)).store 1 rfl 1 (.slice none 0 0)).store 1 rfl 2 (.int .i64 0)).store 4 rfl 0 (.int .i64 (fe:Nat))).store 4 rfl 1 (.int .i64 (fp:Nat));have fa:=h3.free 1 rfl;have fd:=h3.free 4 rfl;have la:=h3.lt 1 rfl;have ld:=h3.lt 4 rfl;have a0:=h3.cell 1 rfl 0 rfl;have a1:=h3.cell 1 rfl 1 rfl;have a2:=h3.cell 1 rfl 2 rfl;have d0:=h3.cell 4 rfl 0 rfl;have d1:=h3.cell 4 rfl 1 rfl;have n14:=h3.ne 1 4 (by decide) rfl rfl;have H4:=qh h4;have HT:=qh ht;clear h2 h3 h4 ht Ie Hv Ii;dsimp only[bO];go_wp2_with fail;generalize((((w1.setCell ⟨w.heap.size,0,none⟩ (.slice none 0 0)).setCell ⟨w.heap.size,1,none⟩ (.slice none 0 0)).setCell ⟨w.heap.size,2,none⟩ (.int .i64 0)).setCell ⟨w.heap.size+1+1+1,0,none⟩ (.int .i64 (fe:Nat))).setCell ⟨w.heap.size+1+1+1,1,none⟩ (.int .i64 (fp:Nat))=w2 at H4⊢;clear fa fd la ld a0 a1 a2 d0 d1 n14;have hS:w2.drew.cell? ⟨w.heap.size,0,none⟩=some (.slice none 0 0)/\w2.drew.cell? ⟨w.heap.size,1,none⟩=some (.slice none 0 0)/\w2.drew.cell? ⟨w.heap.size,2,none⟩=some (.int .i64 0)/\w2.drew.cell? ⟨w.heap.size+1+1+1,0,none⟩=some (.int .i64 (fe:Nat))/\w2.drew.cell? ⟨w.heap.size+1+1+1,1,none⟩=some (.int .i64 (fp:Nat)):=⟨H4.o.drew.cell 1 rfl 0 rfl,H4.o.drew.cell 1 rfl 1 rfl,H4.o.drew.cell 1 rfl 2 rfl,H4.o.drew.cell 4 rfl 0 rfl,H4.o.drew.cell 4 rfl 1 rfl⟩
  refine wp_region_noPanic ?_;refine wp_region_held_drew (S:=λw'=>w'.cell? ⟨w.heap.size,0,none⟩=some (.slice none 0 0)/\w'.cell? ⟨w.heap.size,1,none⟩=some (.slice none 0 0)/\w'.cell? ⟨w.heap.size,2,none⟩=some (.int .i64 0)/\w'.cell? ⟨w.heap.size+1+1+1,0,none⟩=some (.int .i64 (fe:Nat))/\w'.cell? ⟨w.heap.size+1+1+1,1,none⟩=some (.int .i64 (fp:Nat))) (by kernel_rfl) hS (λhS=>?_);refine mP 0 ?_;refine mP 1 ?_;clear hS;have h9:=H4.o;have fz:=h9.free 1 rfl;have lz:=h9.lt 1 rfl;have q0:=h9.cell 1 rfl 0 rfl;have q1:=h9.cell 1 rfl 1 rfl;have q2:=h9.cell 1 rfl 2 rfl;refine wpAnyH_ready (rs:=[2]) (by kernel_rfl) (by simp) ?_;refine AllReadyH.cons rfl (λK hK=>?_) AllReadyH.nil;go_simp;have k3:Sat w0 ((((w2.setCell ⟨w.heap.size,0,none⟩ (.slice none 0 0)).setCell ⟨w.heap.size,1,none⟩ (.slice none 0 0)).setCell ⟨w.heap.size,2,none⟩ (.int .i64 0)).drew) [Fr,av (w.heap.size) (.cells #[.slice none 0 0,.slice none 0 0,.int .i64 0] 31 (0,0)),av (w.heap.size+1) (.cells #[.slice none 0 0] 36 (0,0)),av (w.heap.size+1+1) (.cells #[.map none] 89 (0,0)),av (w.heap.size+1+1+1) (.cells #[.int .i64 (fe:Nat),.int .i64 (fp:Nat)] 25 (0,0))]:=((h9.drew.store 1 rfl 0 (.slice none 0 0)).store 1 rfl 1 (.slice none 0 0)).store 1 rfl 2 (.int .i64 0);refine hK.out _ _ ⟨k3.cell 1 rfl 0 rfl,k3.cell 1 rfl 1 rfl,k3.cell 1 rfl 2 rfl,k3.cell 4 rfl 0 rfl,k3.cell 4 rfl 1 rfl⟩ (λhHeld=>?_);clear hK K hHeld fz lz q0 q1 q2 h9;generalize(((w2.setCell ⟨w.heap.size,0,none⟩ (.slice none 0 0)).setCell ⟨w.heap.size,1,none⟩ (.slice none 0 0)).setCell ⟨w.heap.size,2,none⟩ (.int .i64 0)).drew=w7 at k3⊢;have fz:=k3.free 2 rfl;have lz:=k3.lt 2 rfl;have q0:=k3.cell 2 rfl 0 rfl;refine wpAnyH_ready (rs:=[3]) (by kernel_rfl) (by simp) ?_;refine AllReadyH.cons rfl (λK hK=>?_) AllReadyH.nil;go_simp;have k4:Sat w0 (w7.setCell ⟨w.heap.size+1,0,none⟩ (.slice none 0 0)) [Fr,av (w.heap.size) (.cells #[.slice none 0 0,.slice none 0 0,.int .i64 0] 31 (0,0)),av (w.heap.size+1) (.cells #[.slice none 0 0] 36 (0,0)),av (w.heap.size+1+1) (.cells #[.map none] 89 (0,0)),av (w.heap.size+1+1+1) (.cells #[.int .i64 (fe:Nat),.int .i64 (fp:Nat)] 25 (0,0))]:=k3.store 2 rfl 0 (.slice none 0 0);refine hK.out _ _ ⟨k4.cell 1 rfl 0 rfl,k4.cell 1 rfl 1 rfl,k4.cell 1 rfl 2 rfl,k4.cell 4 rfl 0 rfl,k4.cell 4 rfl 1 rfl⟩ (λhHeld=>?_);clear hK K hHeld fz lz q0 k3;generalize w7.setCell ⟨w.heap.size+1,0,none⟩ (.slice none 0 0)=w8 at k4⊢;have fz:=k4.free 3 rfl;have lz:=k4.lt 3 rfl;have q0:=k4.cell 3 rfl 0 rfl;refine wpAnyH_ready (rs:=[4]) (by kernel_rfl) (by simp) ?_;refine AllReadyH.cons rfl (λK hK=>?_) AllReadyH.nil;go_simp;have k5:Sat w0 (w8.setCell ⟨w.heap.size+1+1,0,none⟩ (.map none)) [Fr,av (w.heap.size) (.cells #[.slice none 0 0,.slice none 0 0,.int .i64 0] 31 (0,0)),av (w.heap.size+1) (.cells #[.slice none 0 0] 36 (0,0)),av (w.heap.size+1+1) (.cells #[.map none] 89 (0,0)),av (w.heap.size+1+1+1) (.cells #[.int .i64 (fe:Nat),.int .i64 (fp:Nat)] 25 (0,0))]:=k4.store 3 rfl 0 (.map none);refine hK.out _ _ ⟨k5.cell 1 rfl 0 rfl,k5.cell 1 rfl 1 rfl,k5.cell 1 rfl 2 rfl,k5.cell 4 rfl 0 rfl,k5.cell 4 rfl 1 rfl⟩ (λhHeld=>?_);clear hK K hHeld fz lz q0 k4;generalize w8.setCell ⟨w.heap.size+1+1,0,none⟩ (.map none)=w9 at k5⊢;have fz:=k5.free 4 rfl;have lz:=k5.lt 4 rfl;have q0:=k5.cell 4 rfl 0 rfl;have q1:=k5.cell 4 rfl 1 rfl;refine wpAnyH_ready (rs:=[5]) (by kernel_rfl) (by simp) ?_;refine AllReadyH.cons rfl (λK hK=>?_) AllReadyH.nil;go_simp;have k7:Sat w0 ((w9.setCell ⟨w.heap.size+1+1+1,0,none⟩ (.int .i64 (fe:Nat))).setCell ⟨w.heap.size+1+1+1,1,none⟩ (.int .i64 (fp:Nat))) [Fr,av (w.heap.size) (.cells #[.slice none 0 0,.slice none 0 0,.int .i64 0] 31 (0,0)),av (w.heap.size+1) (.cells #[.slice none 0 0] 36 (0,0)),av (w.heap.size+1+1) (.cells #[.map none] 89 (0,0)),av (w.heap.size+1+1+1) (.cells #[.int .i64 (fe:Nat),.int .i64 (fp:Nat)] 25 (0,0))]:=(k5.store 4 rfl 0 (.int .i64 (fe:Nat))).store 4 rfl 1 (.int .i64 (fp:Nat));refine hK.out _ _ ⟨k7.cell 1 rfl 0 rfl,k7.cell 1 rfl 1 rfl,k7.cell 1 rfl 2 rfl,k7.cell 4 rfl 0 rfl,k7.cell 4 rfl 1 rfl⟩ (λhHeld=>?_);clear hK K hHeld fz lz q0 q1 k5;generalize(w9.setCell ⟨w.heap.size+1+1+1,0,none⟩ (.int .i64 (fe:Nat))).setCell ⟨w.heap.size+1+1+1,1,none⟩ (.int .i64 (fp:Nat))=l_ at k7⊢;refine wpAnyH_done (by kernel_rfl) ?_ _;refine NoPanic.normal ?_;have K7:=qh k7;clear k7;go_wp2_with fail;have a0:=K7.out.cell 1 rfl 0 rfl;have a1:=K7.out.cell 1 rfl 1 rfl;have a2:=K7.out.cell 1 rfl 2 rfl;have b0:=K7.out.cell 2 rfl 0 rfl;have c0:=K7.out.cell 3 rfl 0 rfl;have d0:=K7.out.cell 4 rfl 0 rfl;have d1:=K7.out.cell 4 rfl 1 rfl;simp[bodyPostD,Leaves,settle,results,results43,go_sem,a0,a1,a2,b0,c0,d0,d1];exact aB.o (fe,fp) _ (.inl HT.o) (K7.out.pick [0])
end
end Go.Proofs.YtdlbhiaceheffabGreatDoor
