/- Plain: places change neither names nor types. No program in sight. -/
import Derived.Test.YtdlbhiaceheffabGreatDoorC44
set_option linter.all false
namespace Go.Proofs.YtdlbhiaceheffabGreatDoor
open Go Go.RowKit Ty Tok Prt
namespace Ty
mutual
theorem dv:∀e:Ex,aw (eE e)=aw e
 | .num .. | .text .. | .bool .. | .null .. | .var .. =>by grind [eE,aw]
 | .fn _ ps _ _ body=>by rw[eE,aw,aw,iF body,List.length_map]
 | .call _ a l=>by rw[eE,aw,aw,dv a,vF l]
 | .get _ a _| .one _ _ a| .asX _ a _=>by rw[eE,aw,aw,dv a]
 | .atX _ a b| .two _ _ a b=>by rw[eE,aw,aw,dv a,dv b]
 | .obj _ l=>by rw[eE,aw,aw,EI l]
 | .arr _ l=>by rw[eE,aw,aw,vF l]
theorem vF:∀l:List Ex,eD (Bn l)=eD l
 |[]=>by rw[Bn]
 |e::l=>by rw[Bn,eD,eD,dv e,vF l]
theorem EI:∀l:List (Nat×BA×Ex),fu (yH l)=fu l
 |[]=>by rw[yH]
 |(_,_,e)::l=>by rw[yH,fu,fu,dv e,EI l]
theorem iF:∀l:List Sm,aI (wH l)=aI l
 |[]=>by rw[wH]
 |e::l=>by rw[wH,aI,aI,OH e,iF l]
theorem OH:∀e:Sm,cE (eS e)=cE e
 | .fZ _ _ _ a| .set _ _ a| .print _ a| .ret _ a| .oL _ a=>by rw[eS,cE,cE,dv a]
 | .put _ a _ b=>by rw[eS,cE,cE,dv a,dv b]
 | .lay _ a b c=>by rw[eS,cE,cE,dv a,dv b,dv c]
 | .if_ _ a _ b none| .while_ _ a _ b=>by rw[eS,cE,cE,dv a,iF b]
 | .if_ _ a _ b (some (_,c))=>by rw[eS,cE,cE,dv a,iF b,iF c]
end
def ox{α:Type}(m:Except Ft α):Option α:=match m with
 | .ok a=>some a
 | .error _=>none
theorem ch{α β:Type}(m:Except Ft α)(f:α->Except Ft β):ox (aK m f)=(ox m).bind λr=>ox (f r):=by cases m<;>rfl
theorem ND{α:Type}{m n:Except Ft α}(h:ox m=ox n){a:α}(e:m=.ok a):n=.ok a:=by
 subst e;cases n with
 |ok b=>cases h;rfl
 |error f=>cases h
theorem SJ(e:Ex):mh (eE e)=mh e:=by cases e<;>rw[eE]<;>rfl
theorem C_:∀(ps:List Par)(a:Nat)(fr:Frm)(s:Vg),jm (ps.map λq=>⟨0,q.text,q.ty⟩) a fr s=jm ps a fr s
 |[],_,_,_=>rfl
 |q::ps,a,fr,s=>by rw[List.map_cons,jm,jm,C_ ps]
theorem M6(p q:Nat)(x:BA)(n:Nat)(b:Bool)(frs:List Frm)(s:Vg):ox (kZ p x n b frs s)=ox (kZ q x n b frs s):=by
 unfold kZ;split<;>rfl
mutual
theorem iu:∀(e:Ex)(a:Nat)(frs:List Frm)(s:Vg),ox (bQ (eE e) a frs s)=ox (bQ e a frs s)
 | .num ..,_,_,_| .text ..,_,_,_| .bool ..,_,_,_| .null ..,_,_,_=>by grind [eE,bQ]
 | .var p x,a,frs,s=>by grind [eE,bQ,M6]
 | .fn _ ps _ _ body,a,frs,s=>by rw[eE,bQ,bQ,ch,ch,iF body,List.length_map,C_,np body]
 | .call _ e l,a,frs,s=>by simp[eE,bQ,ch,dv e,iu e,Am l]
 | .get _ e _,a,frs,s| .one _ _ e,a,frs,s| .asX _ e _,a,frs,s=>by rw[eE,bQ,bQ,iu e]
 | .atX _ e i,a,frs,s| .two _ _ e i,a,frs,s=>by simp[eE,bQ,ch,dv e,iu e,iu i]
 | .obj _ l,a,frs,s=>by rw[eE,bQ,bQ,G7 l]
 | .arr _ l,a,frs,s=>by rw[eE,bQ,bQ,Am l]
theorem Am:∀(l:List Ex)(a:Nat)(frs:List Frm)(s:Vg),ox (jc (Bn l) a frs s)=ox (jc l a frs s)
 |[],_,_,_=>by rw[Bn]
 |e::l,a,frs,s=>by simp[Bn,jc,ch,dv e,iu e,Am l]
theorem G7:∀(l:List (Nat×BA×Ex))(a:Nat)(frs:List Frm)(s:Vg),ox (jl (yH l) a frs s)=ox (jl l a frs s)
 |[],_,_,_=>by rw[yH]
 |(_,_,e)::l,a,frs,s=>by simp[yH,jl,ch,dv e,iu e,G7 l]
theorem np:∀(l:List Sm)(a:Nat)(fr:Frm)(frs:List Frm)(s:Vg),ox (fJ (wH l) a fr frs s)=ox (fJ l a fr frs s)
 |[],_,_,_,_=>by rw[wH]
 |e::l,a,fr,frs,s=>by simp[wH,fJ,ch,OH e,Tg e,np l]
theorem Tg:∀(e:Sm)(a:Nat)(fr:Frm)(frs:List Frm)(s:Vg),ox (dY (eS e) a fr frs s)=ox (dY e a fr frs s)
 | .fZ p x _ e,a,fr,frs,s=>by
  simp[eS,dY,dv e,SJ e];split
  ·rfl
  ·split<;>simp[ch,iu e]
 | .set p x e,a,fr,frs,s=>by simp[eS,dY,ch,dv e,iu e,M6 0 p]
 | .put _ e _ v,a,fr,frs,s=>by simp[eS,dY,ch,dv e,iu e,iu v]
 | .lay _ e i v,a,fr,frs,s=>by simp[eS,dY,ch,dv e,dv i,iu e,iu i,iu v]
 | .print _ e,a,fr,frs,s| .ret _ e,a,fr,frs,s| .oL _ e,a,fr,frs,s=>by simp[eS,dY,ch,iu e]
 | .if_ _ e _ b none,a,fr,frs,s| .while_ _ e _ b,a,fr,frs,s=>by simp[eS,dY,ch,dv e,iF b,iu e,np b]
 | .if_ _ e _ b (some (_,c)),a,fr,frs,s=>by simp[eS,dY,ch,dv e,iF b,iF c,iu e,np b,np c]
end
theorem Ho:∀(ps:List Par)(a:Nat),fw (ps.map λq=>⟨0,q.text,q.ty⟩) a=fw ps a
 |[],_=>rfl
 |q::ps,a=>by rw[List.map_cons,fw,fw,Ho ps]
section
variable {pg jC:Pg} {tq:Nat->Nat}
structure SameP(pg jC:Pg):Prop where
 ts:jC.ts=pg.ts
 nd:∀n,er (iv jC.ns n)=er (iv pg.ns n)
theorem Xn(h1:jC.ts=pg.ts)(h3:jC.ns.map er=pg.ns.map er):SameP pg jC:=by
 refine⟨h1,λn=>?_⟩;have e:=congrArg (λl:List Nd=>l[n]?) h3
 grind [iv]
theorem SameP.kind(h:SameP pg jC)(n:Nat): (iv jC.ns n).kind=(iv pg.ns n).kind:=(Nd.mk.inj (h.nd n)).1
theorem SameP.a(h:SameP pg jC)(n:Nat): (iv jC.ns n).a=(iv pg.ns n).a:=(Nd.mk.inj (h.nd n)).2.1
theorem SameP.b(h:SameP pg jC)(n:Nat): (iv jC.ns n).b=(iv pg.ns n).b:=(Nd.mk.inj (h.nd n)).2.2.1
theorem SameP.c(h:SameP pg jC)(n:Nat): (iv jC.ns n).c=(iv pg.ns n).c:=(Nd.mk.inj (h.nd n)).2.2.2.1
theorem SameP.list(h:SameP pg jC)(n:Nat): (iv jC.ns n).list=(iv pg.ns n).list:=(Nd.mk.inj (h.nd n)).2.2.2.2.1
theorem SameP.text(h:SameP pg jC)(n:Nat): (iv jC.ns n).text=(iv pg.ns n).text:=(Nd.mk.inj (h.nd n)).2.2.2.2.2.1
theorem SameP.ty(h:SameP pg jC)(n:Nat): (iv jC.ns n).ty=(iv pg.ns n).ty:=(Nd.mk.inj (h.nd n)).2.2.2.2.2.2.2.1
theorem Ux(p:Nat)(o:Option Tr):ox (Ox p o)=o:=by cases o<;>rfl
theorem N7(b:Bool)(e p:Nat)(s:Ck):ox (jY b e p s)=if b then some s else none:=by cases b<;>rfl
theorem TX{α:Type}(c:Prop) [Decidable c](m n:Except Ft α):ox (if c then m else n)=if c then ox m else ox n:=by grind
theorem VA{α:Type}(f:Ft):ox (.error f:Except Ft α)=none:=rfl
theorem jX(h:SameP pg jC)(n:Nat)(bk:List (Option Tr))(s:Ck):ox (ky jC tq n bk s)=ox (ky pg tq n bk s):=by
 unfold ky FV wV qB AZ AA iU oe Lw;simp[h.kind,h.a,h.b,h.c,h.list,h.text,h.ty,h.ts];rcases bk.getLast? with _| _|t<;>cases s.has (tq n)<;>cases l7 pg.ts (iv pg.ns n).ty<;>simp[TX,ch,Ux,N7,VA]
theorem G3(h:SameP pg jC):∀(l:List Nat)(s:Ck),iI jC l s=iI pg l s
 |[],_=>rfl
 |p::l,s=>by rw[iI,iI,h.ty,h.ts,G3 h l]
theorem TD(h:SameP pg jC)(n:Nat)(s:Ck):px jC n s=px pg n s:=by
 unfold px Gy Lw;simp[h.kind,h.a,h.list,h.ty,h.ts]
mutual
theorem lB(h:SameP pg jC):∀(e:Ex)(a:Nat)(bk:List (Option Tr))(s:Ck),ox (fX jC tq (eE e) a bk s)=ox (fX pg tq e a bk s)
 | .num ..,a,bk,s| .text ..,a,bk,s| .bool ..,a,bk,s| .null ..,a,bk,s| .var ..,a,bk,s=>by grind [eE,fX,jX]
 | .fn _ ps ty _ body,a,bk,s=>by simp[eE,fX,ch,jX h,iF body,Ho,G3 h,h.ts,n_ h body]
 | .call _ e l,a,bk,s=>by simp[eE,fX,ch,jX h,dv e,vF l,lB h e,Gm h l]
 | .get _ e _,a,bk,s| .one _ _ e,a,bk,s| .asX _ e _,a,bk,s=>by simp[eE,fX,ch,jX h,dv e,lB h e]
 | .atX _ e i,a,bk,s| .two _ _ e i,a,bk,s=>by simp[eE,fX,ch,jX h,dv e,dv i,lB h e,lB h i]
 | .obj _ l,a,bk,s=>by simp[eE,fX,ch,jX h,EI l,NM h l]
 | .arr _ l,a,bk,s=>by simp[eE,fX,ch,jX h,vF l,Gm h l]
theorem Gm(h:SameP pg jC):∀(l:List Ex)(a:Nat)(bk:List (Option Tr))(s:Ck),ox (oF jC tq (Bn l) a bk s)=ox (oF pg tq l a bk s)
 |[],_,_,_=>by grind [Bn,oF]
 |e::l,a,bk,s=>by simp[Bn,oF,ch,dv e,lB h e,Gm h l]
theorem NM(h:SameP pg jC):∀(l:List (Nat×BA×Ex))(a:Nat)(bk:List (Option Tr))(s:Ck),ox (pE jC tq (yH l) a bk s)=ox (pE pg tq l a bk s)
 |[],_,_,_=>by grind [yH,pE]
 |(_,_,e)::l,a,bk,s=>by simp[yH,pE,ch,jX h,dv e,lB h e,NM h l]
theorem n_(h:SameP pg jC):∀(l:List Sm)(a:Nat)(bk:List (Option Tr))(s:Ck),ox (j_ jC tq (wH l) a bk s)=ox (j_ pg tq l a bk s)
 |[],_,_,_=>by grind [wH,j_]
 |e::l,a,bk,s=>by simp[wH,j_,ch,OH e,Wi h e,n_ h l]
theorem Wi(h:SameP pg jC):∀(e:Sm)(a:Nat)(bk:List (Option Tr))(s:Ck),ox (lN jC tq (eS e) a bk s)=ox (lN pg tq e a bk s)
 | .fZ _ _ _ e,a,bk,s=>by simp[eS,lN,ch,jX h,dv e,TD h,lB h e]
 | .set _ _ e,a,bk,s| .print _ e,a,bk,s| .ret _ e,a,bk,s| .oL _ e,a,bk,s=>by simp[eS,lN,ch,jX h,dv e,lB h e]
 | .put _ e _ v,a,bk,s=>by simp[eS,lN,ch,jX h,dv e,dv v,lB h e,lB h v]
 | .lay _ e i v,a,bk,s=>by simp[eS,lN,ch,jX h,dv e,dv i,dv v,lB h e,lB h i,lB h v]
 | .if_ _ e _ b none,a,bk,s| .while_ _ e _ b,a,bk,s=>by simp[eS,lN,ch,jX h,dv e,iF b,lB h e,n_ h b]
 | .if_ _ e _ b (some (_,c)),a,bk,s=>by simp[eS,lN,ch,jX h,dv e,iF b,iF c,lB h e,n_ h b,n_ h c]
end
end
theorem Oo{s t:BA}{l l2:List Sm}{pg jC:Pg}{v:Vg}{c:Ck}(h:BB s l=.ok (pg,v,c))(hp:parse t=.ok jC)(h1:jC.ts=pg.ts)(h2:jC.main=pg.main)(h3:jC.ns.map er=pg.ns.map er)(hl:dm 0 l []=(pg.ns,pg.main))(gR:dm 0 l2 []=(jC.ns,jC.main)):BB t l2=.ok (jC,v,c):=by
 obtain⟨_,hv,hc⟩:=qT.1 h;rw[h2]at gR
 have hu:=vM h3 hl gR;have hs:=Xn h1 h3;refine qT.2 ⟨hp,ND ?_ hv,ND ?_ hc⟩
 ·unfold lz;rw[ch,ch,<-np l,<-np l2,hu,<-iF l,hu,iF l2]
 ·unfold MY;have hr:SameP pg pg:=⟨rfl,λ_=>rfl⟩
  rw[<-n_ hr l,hu,n_ hr l2,<-n_ hs l2,n_ ⟨rfl,λ_=>rfl⟩ l2]
end Ty
end Go.Proofs.YtdlbhiaceheffabGreatDoor
