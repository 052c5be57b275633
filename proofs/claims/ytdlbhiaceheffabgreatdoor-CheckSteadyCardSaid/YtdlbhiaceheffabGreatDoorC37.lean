/- Plain: where names are bound checking is never stuck: all trees. No program in sight. -/
import Derived.Test.YtdlbhiaceheffabGreatDoorC29
import Derived.Test.YtdlbhiaceheffabGreatDoorC36
set_option linter.all false
set_option maxRecDepth 100000
set_option maxHeartbeats 2000000
namespace Go.Proofs.YtdlbhiaceheffabGreatDoor
open Go Go.RowKit Ty Tok Prt Tryz Proofs.Tryz
section
namespace Ty
def uw(frs:List Frm)(s:Ck):Prop:=∀x n,lg frs x=some n->(s.has n).isSome=true
theorem uw.mono{frs:List Frm}{s s':Ck}{a b:Nat}(h:uw frs s)(g:Step a b s s'):uw frs s':=λx n hx=>g.has n (h x n hx)
theorem Kc(l:List (BA×Nat))(x y:BA)(n:Nat):hZ (l++[(x,n)]) y=if x=y then some n else hZ l y:=by
 grind [hZ]
theorem uw.add{fr:Frm}{frs:List Frm}{s:Ck}{x:BA}{n:Nat}(h:uw (fr::frs) s)(hn: (s.has n).isSome=true):uw (addN fr x n::frs) s:=λy m hy=>by
 rw[lg]at hy
 simp[addN]at hy
 rw[Kc]at hy
 by_cases hx:x=y
 ·grind
 ·rw[if_neg hx]at hy
  exact h y m (by grind [lg])
theorem uw.new{frs:List Frm}{s:Ck}(h:uw frs s)(o:Nat)(f:Int):uw (⟨[],o,f⟩::frs) s:=λy m hy=>h y m (by rw[lg]at hy;exact hy)
theorem uw.zZ{frs:List Frm}{s:Ck}(h:uw frs s)(n:Nat)(t:Tr):uw frs {s with has:=iO s.has n t}:=h.mono (l_ s n t)
theorem IA(f:Nat->Option Tr)(n:Nat)(t:Tr): (iO f n t n).isSome=true:=by grind [iO]
theorem uw.decl{pg:Pg}{frs:List Frm}:∀(ps:List Par)(a:Nat)(fr:Frm)(v:Vg)(s:Ck),uw (fr::frs) s->uw ((jm ps a fr v).1::frs) (iI pg (fw ps a) s)
 |[],_,_,_,_,h=>h
 |q::ps,a,fr,v,s,h=>by
  exact uw.decl ps (a+1) _ _ _ ((h.zZ a _).add (IA _ _ _))
theorem vY{f:Nat->Option Tr}{l:List Nat}(h:∀n∈l,(f n).isSome=true):ji f l=true:=by grind [ji]
section
variable {pg:Pg} {tq:Nat->Nat} {bk:List (Option Tr)} {s:Ck} {a b:Nat} {x:Nd}
theorem l9{m:Except Ft Ck}{K:List Nat}(GJ:a<=b)(h:xG m λs'=>Step a b s s'/\∀n∈K,(s'.of n).isSome=true)(hn:pg.ns[b]?=some x)(hr:1<=x.kind/\x.kind<=14)(hk:iU pg x=K)(h5:x.kind≠5)(Pw:x.kind=14->0<=x.ty):
  xG (aK m λs=>ky pg tq b bk s) λs'=>Step a (b+1) s s'/\(s'.of b).isSome=true:=
 h.and λs1 h1=>(qP hn hr (by grind [vY]) (λh=>absurd h h5) Pw).mono λs2 h2=>⟨h1.1.trans h2.1 GJ (by omega),h2.2⟩
theorem mU{m:Except Ft Ck}{K:List Nat}(GJ:a<=b)(h:xG m λs'=>Step a b s s'/\∀n∈K,(s'.of n).isSome=true)(hn:pg.ns[b]?=some x)(hr:15<=x.kind)(hk:oe x=K)(R7:x.kind≠18):
  xG (aK m λs=>ky pg tq b bk s) λs'=>Step a (b+1) s s'/\(x.kind=17->(s'.has b).isSome=true):=
 h.and λs1 h1=>(sL hn hr (by grind [vY]) (λh=>absurd h R7)).mono λs2 h2=>⟨h1.1.trans h2.1 GJ (by omega),h2.2⟩
end
theorem wT{f:Nat->Option Tr}{n:Nat}(h: (f n).isSome=true):∀k∈[n],(f k).isSome=true:=λk hk=>by grind
theorem EB{f:Nat->Option Tr}{n m:Nat}(h: (f n).isSome=true)(g: (f m).isSome=true):∀k∈[n,m],(f k).isSome=true:=λk hk=>by
 grind
theorem Nc{f:Nat->Option Tr}{n m l:Nat}(h: (f n).isSome=true)(g: (f m).isSome=true)(i: (f l).isSome=true):∀k∈[n,m,l],(f k).isSome=true:=λk hk=>by
 grind
theorem Step.some{a b n:Nat}{s s':Ck}(g:Step a b s s')(h: (s.of n).isSome=true)(hn:n<a\/b<=n): (s'.of n).isSome=true:=by rw[g.of n hn];exact h
theorem JV{ns:List Nd}:∀(e:Ex)(a:Nat),dW ns e a->((iv ns (a+aw e-1)).kind=6↔mh e=true)
 | .num ..,a,h=>by grind [dW,aw,d_,af,mh]
 | .text ..,a,h=>by grind [dW,aw,d_,af,mh]
 | .bool ..,a,h=>by grind [dW,aw,d_,af,mh]
 | .null ..,a,h=>by grind [dW,aw,d_,af,mh]
 | .var ..,a,h=>by grind [dW,aw,d_,af,mh]
 | .fn _ ps _ _ body,a,h=>by
  grind [dW,aw,d_,af,mh]
 | .call _ e l,a,h=>by
  grind [dW,aw,d_,af,mh]
 | .get _ e _,a,h=>by
  grind [dW,aw,d_,af,mh]
 | .atX _ e i,a,h=>by
  grind [dW,aw,d_,af,mh]
 | .obj _ l,a,h=>by
  grind [dW,aw,d_,af,mh]
 | .arr _ l,a,h=>by
  grind [dW,aw,d_,af,mh]
 | .two _ _ e i,a,h=>by
  grind [dW,aw,d_,af,mh]
 | .one _ _ e,a,h=>by
  grind [dW,aw,d_,af,mh]
 | .asX _ e _,a,h=>by
  grind [dW,aw,d_,af,mh]
theorem J'(pg:Pg)(n:Nat)(s:Ck):Step n (n+1) s (px pg n s):=by
 grind [px,l_,Step.refl]
theorem Np{p n:Nat}{x:BA}{set:Bool}{frs:List Frm}{v v':Vg}(h:kZ p x n set frs v=.ok v'):∃m,lg frs x=some m/\(n,m)∈v'.out:=by
 grind [kZ]
set_option linter.unusedSectionVars false
section
variable {pg:Pg} {tq:Nat->Nat} (hP:PgOk pg)
include hP
mutual
theorem eU:∀(e:Ex)(a:Nat)(frs:List Frm)(v v':Vg)(bk:List (Option Tr))(s:Ck),dW pg.ns e a->bQ e a frs v=.ok v'->(∀p∈v'.out,tq p.1=p.2)->uw frs s->
  xG (fX pg tq e a bk s) λs'=>Step a (a+aw e) s s'/\(s'.of (a+aw e-1)).isSome=true
 | .num ..,a,frs,v,v',bk,s,ly,hv,ht,hc=>by
  rw[dW]at ly;rw[fX,aw]
  exact qP ly ⟨by simp[af],by simp[af]⟩ rfl (λh=>by cases h) (λh=>by cases h)
 | .text ..,a,frs,v,v',bk,s,ly,hv,ht,hc=>by
  rw[dW]at ly;rw[fX,aw]
  exact qP ly ⟨by simp[af],by simp[af]⟩ rfl (λh=>by cases h) (λh=>by cases h)
 | .bool ..,a,frs,v,v',bk,s,ly,hv,ht,hc=>by
  rw[dW]at ly;rw[fX,aw]
  exact qP ly ⟨by simp[af],by simp[af]⟩ rfl (λh=>by cases h) (λh=>by cases h)
 | .null ..,a,frs,v,v',bk,s,ly,hv,ht,hc=>by
  rw[dW]at ly;rw[fX,aw]
  exact qP ly ⟨by simp[af],by simp[af]⟩ rfl (λh=>by cases h) (λh=>by cases h)
 | .var p x,a,frs,v,v',bk,s,ly,hv,ht,hc=>by
  rw[dW]at ly;rw[fX,aw];rw[bQ]at hv
  obtain⟨m,hm,aaT⟩:=Np hv;exact qP ly ⟨by simp[af],by simp[af]⟩ rfl (λ_=>by rw[ht _ aaT];exact hc x m hm) (λh=>by cases h)
 | .fn p ps ty bp body,a,frs,v,v',bk,s,ly,hv,ht,hc=>by
  rw[dW]at ly;rw[fX,aw];rw[bQ]at hv
  obtain⟨lp,ls,hb,hn⟩:=ly;obtain⟨r,hr,h2⟩:=ck hv;cases h2;have Zn:=uw.decl (pg:=pg) ps a ⟨[],a+ps.length+aI body+1,((a+ps.length+aI body+1:Nat):Int)⟩ v s (hc.new _ _);have h1:=xD (pg:=pg) ps a s;refine(nP body (a+ps.length) _ frs _ r (bk++[l7 pg.ts ty]) _ ls hr ht Zn).and λs1 g=>?_
  refine(qP hn ⟨by simp[af],by simp[af]⟩ rfl (λh=>by cases h) (λh=>by cases h)).mono λs2 g2=>⟨?_,?_⟩
  ·rw[show a+(ps.length+aI body+2)=a+ps.length+aI body+1+1 by omega];exact((h1.trans g.1 (by omega) (by omega)).mono (nR _) (by omega:a+ps.length+aI body<=a+ps.length+aI body+1)).trans g2.1 (by omega) (by omega)
  grind
 | .call p e l,a,frs,v,v',bk,s,ly,hv,ht,hc=>by
  rw[dW]at ly;rw[fX,aw];rw[bQ]at hv
  obtain⟨l1,l2,hn⟩:=ly;obtain⟨v1,h1,h2⟩:=ck hv;have ig:=iX e;refine(eU e a frs v v1 bk s l1 h1 (λp hp=>ht p (yy l _ _ _ _ h2 p hp)) hc).and λs1 g1=>?_
  refine(l9 (K:=(a+aw e-1)::gC l (a+aw e)) (by omega) ((z' l (a+aw e) frs v1 v' bk s1 l2 h2 ht (hc.mono g1.1)).mono λs2 g2=>⟨g2.1,λn hm=>?_⟩) hn ⟨by simp[af],by simp[af]⟩ rfl (by simp[af]) (by simp[af])).mono λs3 g3=>⟨?_,?_⟩
  ·rcases List.mem_cons.1 hm with rfl|hm
   ·exact g2.1.some g1.2 (by omega)
   ·exact g2.2 n hm
  ·rw[show a+(aw e+eD l+1)=a+aw e+eD l+1 by omega];exact g1.1.trans g3.1 (by omega) (by omega)
  grind
 | .get p e x,a,frs,v,v',bk,s,ly,hv,ht,hc=>by
  rw[dW]at ly;rw[fX,aw];rw[bQ]at hv
  exact l9 (K:=[a+aw e-1]) (by omega) ((eU e a frs v v' bk s ly.1 hv ht hc).mono λs2 g2=>⟨g2.1,wT g2.2⟩) ly.2 ⟨by simp[af],by simp[af]⟩ rfl (by simp[af]) (by simp[af])
 | .atX p e i,a,frs,v,v',bk,s,ly,hv,ht,hc=>by
  rw[dW]at ly;rw[fX,aw];rw[bQ]at hv
  obtain⟨l1,l2,hn⟩:=ly;obtain⟨v1,h1,h2⟩:=ck hv;have ig:=iX e;refine(eU e a frs v v1 bk s l1 h1 (λp hp=>ht p (kJ i _ _ _ _ h2 p hp)) hc).and λs1 g1=>?_
  refine(l9 (K:=[a+aw e-1,a+aw e+aw i-1]) (by omega) ((eU i (a+aw e) frs v1 v' bk s1 l2 h2 ht (hc.mono g1.1)).mono λs2 g2=>⟨g2.1,EB (g2.1.some g1.2 (by omega)) g2.2⟩) hn ⟨by simp[af],by simp[af]⟩ rfl (by simp[af]) (by simp[af])).mono λs3 g3=>⟨?_,?_⟩
  ·rw[show a+(aw e+aw i+1)=a+aw e+aw i+1 by omega];exact g1.1.trans g3.1 (by omega) (by omega)
  ·rw[show a+(aw e+aw i+1)-1=a+aw e+aw i by omega];exact g3.2
 | .obj p l,a,frs,v,v',bk,s,ly,hv,ht,hc=>by
  rw[dW]at ly;rw[fX,aw];rw[bQ]at hv
  exact l9 (K:=(gK l a).map λp=>(iv pg.ns p).a) (by omega) (GV l a frs v v' bk s ly.1 hv ht hc) ly.2 ⟨by simp[af],by simp[af]⟩ rfl (by simp[af]) (by simp[af])
 | .arr p l,a,frs,v,v',bk,s,ly,hv,ht,hc=>by
  rw[dW]at ly;rw[fX,aw];rw[bQ]at hv
  exact l9 (K:=gC l a) (by omega) (z' l a frs v v' bk s ly.1 hv ht hc) ly.2 ⟨by simp[af],by simp[af]⟩ rfl (by simp[af]) (by simp[af])
 | .two p x e i,a,frs,v,v',bk,s,ly,hv,ht,hc=>by
  rw[dW]at ly;rw[fX,aw];rw[bQ]at hv
  obtain⟨l1,l2,hn⟩:=ly;obtain⟨v1,h1,h2⟩:=ck hv;have ig:=iX e;refine(eU e a frs v v1 bk s l1 h1 (λp hp=>ht p (kJ i _ _ _ _ h2 p hp)) hc).and λs1 g1=>?_
  refine(l9 (K:=[a+aw e-1,a+aw e+aw i-1]) (by omega) ((eU i (a+aw e) frs v1 v' bk s1 l2 h2 ht (hc.mono g1.1)).mono λs2 g2=>⟨g2.1,EB (g2.1.some g1.2 (by omega)) g2.2⟩) hn ⟨by simp[af],by simp[af]⟩ rfl (by simp[af]) (by simp[af])).mono λs3 g3=>⟨?_,?_⟩
  ·rw[show a+(aw e+aw i+1)=a+aw e+aw i+1 by omega];exact g1.1.trans g3.1 (by omega) (by omega)
  ·rw[show a+(aw e+aw i+1)-1=a+aw e+aw i by omega];exact g3.2
 | .one p x e,a,frs,v,v',bk,s,ly,hv,ht,hc=>by
  rw[dW]at ly;rw[fX,aw];rw[bQ]at hv
  exact l9 (K:=[a+aw e-1]) (by omega) ((eU e a frs v v' bk s ly.1 hv ht hc).mono λs2 g2=>⟨g2.1,wT g2.2⟩) ly.2 ⟨by simp[af],by simp[af]⟩ rfl (by simp[af]) (by simp[af])
 | .asX p e ty,a,frs,v,v',bk,s,ly,hv,ht,hc=>by
  rw[dW]at ly;rw[fX,aw];rw[bQ]at hv
  refine l9 (K:=[]) (by omega) ((eU e a frs v v' bk s ly.1 hv ht hc).mono λs2 g2=>⟨g2.1,λn hn=>by cases hn⟩) ly.2 ⟨by simp[af],by simp[af]⟩ rfl (by simp[af]) λh=>?_
  exact(hP.ns _ (List.mem_of_getElem? ly.2)).EK h
theorem z':∀(l:List Ex)(a:Nat)(frs:List Frm)(v v':Vg)(bk:List (Option Tr))(s:Ck),my pg.ns l a->jc l a frs v=.ok v'->(∀p∈v'.out,tq p.1=p.2)->uw frs s->
  xG (oF pg tq l a bk s) λs'=>Step a (a+eD l) s s'/\∀n∈gC l a,(s'.of n).isSome=true
 |[],a,frs,v,v',bk,s,ly,hv,ht,hc=>by
  rw[oF];exact⟨λe=>(by cases e),λs' e=>by cases e;exact⟨Step.refl _ _ _,λn hn=>by cases hn⟩⟩
 |e::l,a,frs,v,v',bk,s,ly,hv,ht,hc=>by
  rw[my]at ly;rw[oF,eD];rw[jc]at hv
  obtain⟨v1,h1,h2⟩:=ck hv;have ig:=iX e;refine(eU e a frs v v1 bk s ly.1 h1 (λp hp=>ht p (yy l _ _ _ _ h2 p hp)) hc).and λs1 g1=>?_
  refine(z' l (a+aw e) frs v1 v' bk s1 ly.2 h2 ht (hc.mono g1.1)).mono λs2 g2=>⟨?_,λn hn=>?_⟩
  ·rw[<-Nat.add_assoc];exact g1.1.trans g2.1 (by omega) (by omega)
  ·rw[gC]at hn
   rcases List.mem_cons.1 hn with rfl|hn
   ·exact g2.1.some g1.2 (by omega)
   ·exact g2.2 n hn
theorem GV:∀(l:List (Nat×BA×Ex))(a:Nat)(frs:List Frm)(v v':Vg)(bk:List (Option Tr))(s:Ck),mJ pg.ns l a->jl l a frs v=.ok v'->(∀p∈v'.out,tq p.1=p.2)->uw frs s->
  xG (pE pg tq l a bk s) λs'=>Step a (a+fu l) s s'/\∀n∈(gK l a).map (λp=>(iv pg.ns p).a),(s'.of n).isSome=true
 |[],a,frs,v,v',bk,s,ly,hv,ht,hc=>by
  rw[pE];exact⟨λe=>(by cases e),λs' e=>by cases e;exact⟨Step.refl _ _ _,λn hn=>by cases hn⟩⟩
 |(p,x,e)::l,a,frs,v,v',bk,s,ly,hv,ht,hc=>by
  rw[mJ]at ly;rw[pE,fu];rw[jl]at hv
  obtain⟨l1,hn,l2⟩:=ly;obtain⟨v1,h1,h2⟩:=ck hv;have ig:=iX e;refine xG.and (P:=λs1=>Step a (a+aw e+1) s s1/\(s1.of (a+aw e-1)).isSome=true) ?_ λs1 g1=>?_
  ·refine(eU e a frs v v1 bk s l1 h1 (λp hp=>ht p (KA l _ _ _ _ h2 p hp)) hc).and λs1 g1=>?_
   refine(sL hn (by simp[af]) rfl (by simp[af])).mono λs2 g2=>⟨g1.1.trans g2.1 (by omega) (by omega),g2.1.some g1.2 (by omega)⟩
  ·refine(GV l (a+aw e+1) frs v1 v' bk s1 l2 h2 ht (hc.mono g1.1)).mono λs2 g2=>⟨?_,λn hm=>?_⟩
   ·rw[show a+(aw e+1+fu l)=a+aw e+1+fu l by omega];exact g1.1.trans g2.1 (by omega) (by omega)
   ·rw[gK,List.map_cons,d_ hn]at hm
    rcases List.mem_cons.1 hm with rfl|hm
    ·exact g2.1.some g1.2 (by left;show a+aw e-1< _;omega)
    ·exact g2.2 n hm
theorem nP:∀(l:List Sm)(a:Nat)(fr:Frm)(frs:List Frm)(v:Vg)(r:Frm×Vg)(bk:List (Option Tr))(s:Ck),jT pg.ns l a->fJ l a fr frs v=.ok r->(∀p∈r.2.out,tq p.1=p.2)->uw (fr::frs) s->
  xG (j_ pg tq l a bk s) λs'=>Step a (a+aI l) s s'/\uw (r.1::frs) s'
 |[],a,fr,frs,v,r,bk,s,ly,hv,ht,hc=>by
  rw[fJ]at hv;cases hv
  rw[j_];exact⟨λe=>(by cases e),λs' e=>by cases e;exact⟨Step.refl _ _ _,hc⟩⟩
 |e::l,a,fr,frs,v,r,bk,s,ly,hv,ht,hc=>by
  rw[jT]at ly;rw[j_,aI];rw[fJ]at hv
  obtain⟨q,h1,h2⟩:=ck hv;refine(T8 e a fr frs v q bk s ly.1 h1 (λp hp=>ht p (kq l _ _ _ _ _ h2 p hp)) hc).and λs1 g1=>?_
  refine(nP l (a+cE e) q.1 frs q.2 r bk s1 ly.2 h2 ht g1.2).mono λs2 g2=>⟨?_,g2.2⟩
  rw[<-Nat.add_assoc];exact g1.1.trans g2.1 (by omega) (by omega)
theorem T8:∀(e:Sm)(a:Nat)(fr:Frm)(frs:List Frm)(v:Vg)(r:Frm×Vg)(bk:List (Option Tr))(s:Ck),jh pg.ns e a->dY e a fr frs v=.ok r->(∀p∈r.2.out,tq p.1=p.2)->uw (fr::frs) s->
  xG (lN pg tq e a bk s) λs'=>Step a (a+cE e) s s'/\uw (r.1::frs) s'
 | .fZ p x ty e,a,fr,frs,v,r,bk,s,ly,hv,ht,hc=>by
  rw[jh]at ly;rw[lN,cE];rw[dY]at hv
  have ig:=iX e;have Ec:=JV e a ly.1;have fY:=J' pg (a+aw e) s;have ae6: (iv pg.ns (a+aw e)).a=a+aw e-1:=by rw[d_ ly.2]
  split at hv
  ·cases hv
  ·have aa4:∃dG v0 v1,bQ e a dG v0=.ok v1/\r=(addN fr x (a+aw e),r.2)/\r.2.out=v1.out/\uw dG (px pg (a+aw e) s):=by
    split at hv
    ·rename_i hf;obtain⟨v1,h1,h2⟩:=ck hv;cases h2;refine⟨_,_,v1,h1,rfl,rfl,?_⟩;unfold px;rw[if_pos (by rw[ae6];exact Ec.2 hf)];exact(hc.zZ _ _).add (IA _ _ _)
    ·rename_i hf;obtain⟨v1,h1,h2⟩:=ck hv;cases h2;refine⟨_,_,v1,h1,rfl,rfl,hc.mono fY⟩
   obtain⟨dG,v0,v1,h1,hr,Ps,afq⟩:=aa4;refine(mU (a:=a) (s:=px pg (a+aw e) s) (K:=[a+aw e-1]) (by omega) ((eU e a dG v0 v1 bk _ ly.1 h1 (λp hp=>ht p (by rw[Ps];exact hp)) afq).mono λs2 g2=>⟨g2.1,wT g2.2⟩) ly.2 (by simp[af]) rfl (by simp[af])).mono λs3 g3=>⟨?_,?_⟩
   ·exact⟨λn hn=>(g3.1.of n hn).trans (fY.of n (by omega)),λn hn=>g3.1.has n (fY.has n hn),λn hn=>(g3.1.out n hn).trans (fY.out n (by omega))⟩
   ·rw[hr];exact((hc.mono fY).mono g3.1).add (g3.2 rfl)
 | .set p x e,a,fr,frs,v,r,bk,s,ly,hv,ht,hc=>by
  rw[jh]at ly;rw[lN,cE];rw[dY]at hv
  obtain⟨v1,h1,h2⟩:=ck hv;obtain⟨v2,h3,h4⟩:=ck h2;cases h4;have ig:=iX e;obtain⟨m,hm,aaT⟩:=Np h1;refine(eU e a (fr::frs) v1 v2 bk s ly.1 h3 ht hc).and λs1 g1=>?_
  refine(sL ly.2 (by simp[af]) (vY (wT g1.2)) λ_=>?_).mono λs2 g2=>⟨g1.1.trans g2.1 (by omega) (by omega),(hc.mono g1.1).mono g2.1⟩
  rw[ht _ (kJ e _ _ _ _ h3 _ aaT)];exact g1.1.has m (hc x m hm)
 | .put p e x w,a,fr,frs,v,r,bk,s,ly,hv,ht,hc=>by
  rw[jh]at ly;rw[lN,cE];rw[dY]at hv
  obtain⟨l1,l2,hn⟩:=ly;obtain⟨v1,h1,h2⟩:=ck hv;obtain⟨v2,h3,h4⟩:=ck h2;cases h4;have ig:=iX e;refine(eU e a (fr::frs) v v1 bk s l1 h1 (λp hp=>ht p (kJ w _ _ _ _ h3 p hp)) hc).and λs1 g1=>?_
  refine(mU (K:=[a+aw e-1,a+aw e+aw w-1]) (by omega) ((eU w (a+aw e) (fr::frs) v1 v2 bk s1 l2 h3 ht (hc.mono g1.1)).mono λs2 g2=>⟨g2.1,EB (g2.1.some g1.2 (by omega)) g2.2⟩) hn (by simp[af]) rfl (by simp[af])).mono λs3 g3=>⟨?_,(hc.mono g1.1).mono g3.1⟩
  rw[show a+(aw e+aw w+1)=a+aw e+aw w+1 by omega];exact g1.1.trans g3.1 (by omega) (by omega)
 | .lay p e i w,a,fr,frs,v,r,bk,s,ly,hv,ht,hc=>by
  rw[jh]at ly;rw[lN,cE];rw[dY]at hv
  obtain⟨l1,l2,l3,hn⟩:=ly;obtain⟨v1,h1,h2⟩:=ck hv;obtain⟨v2,h3,h4⟩:=ck h2;obtain⟨v3,h5,h6⟩:=ck h4;cases h6;have ig:=iX e;have ab9:=iX i;refine(eU e a (fr::frs) v v1 bk s l1 h1 (λp hp=>ht p (kJ w _ _ _ _ h5 p (kJ i _ _ _ _ h3 p hp))) hc).and λs1 g1=>?_
  refine(eU i (a+aw e) (fr::frs) v1 v2 bk s1 l2 h3 (λp hp=>ht p (kJ w _ _ _ _ h5 p hp)) (hc.mono g1.1)).and λs2 g2=>?_
  refine(mU (K:=[a+aw e-1,a+aw e+aw i-1,a+aw e+aw i+aw w-1]) (by omega) ((eU w (a+aw e+aw i) (fr::frs) v2 v3 bk s2 l3 h5 ht ((hc.mono g1.1).mono g2.1)).mono λs3 g3=>⟨g3.1,Nc (g3.1.some (g2.1.some g1.2 (by omega)) (by omega)) (g3.1.some g2.2 (by omega)) g3.2⟩) hn (by simp[af]) rfl (by simp[af])).mono λs4 g4=>⟨?_,((hc.mono g1.1).mono g2.1).mono g4.1⟩
  rw[show a+(aw e+aw i+aw w+1)=a+aw e+aw i+aw w+1 by omega];exact(g1.1.trans g2.1 (by omega) (by omega)).trans g4.1 (by omega) (by omega)
 | .print p e,a,fr,frs,v,r,bk,s,ly,hv,ht,hc=>by
  rw[jh]at ly;rw[lN,cE];rw[dY]at hv
  obtain⟨v1,h1,h2⟩:=ck hv;cases h2;exact(mU (K:=[]) (by omega) ((eU e a (fr::frs) v v1 bk s ly.1 h1 ht hc).mono λs2 g2=>⟨g2.1,λn hn=>by cases hn⟩) ly.2 (by simp[af]) rfl (by simp[af])).mono λs3 g3=>⟨g3.1,hc.mono g3.1⟩
 | .ret p e,a,fr,frs,v,r,bk,s,ly,hv,ht,hc=>by
  rw[jh]at ly;rw[lN,cE];rw[dY]at hv
  obtain⟨v1,h1,h2⟩:=ck hv;cases h2;exact(mU (K:=[a+aw e-1]) (by omega) ((eU e a (fr::frs) v v1 bk s ly.1 h1 ht hc).mono λs2 g2=>⟨g2.1,wT g2.2⟩) ly.2 (by simp[af]) rfl (by simp[af])).mono λs3 g3=>⟨g3.1,hc.mono g3.1⟩
 | .oL p e,a,fr,frs,v,r,bk,s,ly,hv,ht,hc=>by
  rw[jh]at ly;rw[lN,cE];rw[dY]at hv
  obtain⟨v1,h1,h2⟩:=ck hv;cases h2;exact(mU (K:=[]) (by omega) ((eU e a (fr::frs) v v1 bk s ly.1 h1 ht hc).mono λs2 g2=>⟨g2.1,λn hn=>by cases hn⟩) ly.2 (by simp[af]) rfl (by simp[af])).mono λs3 g3=>⟨g3.1,hc.mono g3.1⟩
 | .if_ p e bp b none,a,fr,frs,v,r,bk,s,ly,hv,ht,hc=>by
  rw[jh]at ly;rw[lN,cE];rw[dY]at hv
  obtain⟨l1,l2,hb,hn⟩:=ly;obtain⟨v1,h1,h2⟩:=ck hv;obtain⟨q,h3,h4⟩:=ck h2;cases h4;refine(eU e a (fr::frs) v v1 bk s l1 h1 (λp hp=>ht p (kq b _ _ _ _ _ h3 p hp)) hc).and λs1 g1=>?_
  refine(nP b (a+aw e) _ (fr::frs) v1 q bk s1 l2 h3 ht ((hc.mono g1.1).new _ _)).and λs2 g2=>?_
  refine(sL hn (by simp[af]) rfl (by simp[af])).mono λs3 g3=>⟨?_,((hc.mono g1.1).mono g2.1).mono g3.1⟩
  rw[show a+(aw e+aI b+2)=a+aw e+aI b+1+1 by omega];exact((g1.1.trans g2.1 (by omega) (by omega)).mono (nR _) (by omega:a+aw e+aI b<=a+aw e+aI b+1)).trans g3.1 (by omega) (by omega)
 | .if_ p e bp b (some (cp,c)),a,fr,frs,v,r,bk,s,ly,hv,ht,hc=>by
  rw[jh]at ly;rw[lN,cE];rw[dY]at hv
  obtain⟨l1,l2,hb,l3,aW,hn⟩:=ly;obtain⟨v1,h1,h2⟩:=ck hv;obtain⟨q,h3,h4⟩:=ck h2;obtain⟨q2,h5,h6⟩:=ck h4;cases h6;refine(eU e a (fr::frs) v v1 bk s l1 h1 (λp hp=>ht p (kq c _ _ _ _ _ h5 p (kq b _ _ _ _ _ h3 p hp))) hc).and λs1 g1=>?_
  refine(nP b (a+aw e) _ (fr::frs) v1 q bk s1 l2 h3 (λp hp=>ht p (kq c _ _ _ _ _ h5 p hp)) ((hc.mono g1.1).new _ _)).and λs2 g2=>?_
  refine(nP c (a+aw e+aI b+1) _ (fr::frs) q.2 q2 bk s2 l3 h5 ht (((hc.mono g1.1).mono g2.1).new _ _)).and λs3 g3=>?_
  refine(sL hn (by simp[af]) rfl (by simp[af])).mono λs4 g4=>⟨?_,(((hc.mono g1.1).mono g2.1).mono g3.1).mono g4.1⟩
  rw[show a+(aw e+aI b+aI c+3)=a+aw e+aI b+1+aI c+1+1 by omega];exact((((g1.1.trans g2.1 (by omega) (by omega)).mono (nR _) (by omega:a+aw e+aI b<=a+aw e+aI b+1)).trans g3.1 (by omega) (by omega)).mono (nR _) (by omega:a+aw e+aI b+1+aI c<=a+aw e+aI b+1+aI c+1)).trans g4.1 (by omega) (by omega)
 | .while_ p e bp b,a,fr,frs,v,r,bk,s,ly,hv,ht,hc=>by
  rw[jh]at ly;rw[lN,cE];rw[dY]at hv
  obtain⟨l1,l2,hb,hn⟩:=ly;obtain⟨v1,h1,h2⟩:=ck hv;obtain⟨q,h3,h4⟩:=ck h2;cases h4;refine(eU e a (fr::frs) v v1 bk s l1 h1 (λp hp=>ht p (kq b _ _ _ _ _ h3 p hp)) hc).and λs1 g1=>?_
  refine(nP b (a+aw e) _ (fr::frs) v1 q bk s1 l2 h3 ht ((hc.mono g1.1).new _ _)).and λs2 g2=>?_
  refine(sL hn (by simp[af]) rfl (by simp[af])).mono λs3 g3=>⟨?_,((hc.mono g1.1).mono g2.1).mono g3.1⟩
  rw[show a+(aw e+aI b+2)=a+aw e+aI b+1+1 by omega];exact((g1.1.trans g2.1 (by omega) (by omega)).mono (nR _) (by omega:a+aw e+aI b<=a+aw e+aI b+1)).trans g3.1 (by omega) (by omega)
end
end
theorem Mg{pg:Pg}(hP:PgOk pg){tq:Nat->Nat}{l:List Sm}(ly:jT pg.ns l 0){v:Vg}(hv:lz l=.ok v)(ht:∀p∈v.out,tq p.1=p.2):xG (MY pg tq l) λ_=>True:=by
 obtain⟨r,h1,h2⟩:=ck hv;cases h2;exact(nP hP l 0 _ [] _ r [] _ ly h1 ht λx n hx=>by cases hx).mono λs _=>trivial
end Ty
end
namespace Ty
abbrev Ls:=List (Nat×Nat)
section
variable {pg:Pg} {tq:Nat->Nat} {s:Ck}
end
end Ty
namespace Ty
def jW(d:List (Nat×Nat)):Nat->Option Int:=λk=>(d.reverse.find? λp=>p.1==k).map λp=>((p.2:Nat):Int)
theorem K8(d:List (Nat×Nat))(p:Nat×Nat):jW (d++[p])=λk=>if k=p.1 then some ((p.2:Nat):Int)else jW d k:=by
 funext k;unfold jW;rw[List.reverse_append,List.reverse_singleton,List.singleton_append,List.find?_cons];by_cases h:p.1=k
 ·rw[if_pos h.symm,beq_iff_eq.2 h];rfl
 ·rw[if_neg λe=>h e.symm,beq_eq_false_iff_ne.2 h]
theorem rA{d:List (Nat×Nat)}(hn: (d.map Prod.fst).Nodup){p:Nat×Nat}(hp:p∈d):jW d p.1=some ((p.2:Nat):Int):=by
 unfold jW;cases hq:d.reverse.find? λq=>q.1==p.1 with
 |none=>
  have:=List.find?_eq_none.1 hq p (List.mem_reverse.2 hp);simp at this
 |some q=>
  have h1:=List.find?_some hq;have h2:=List.mem_reverse.1 (List.mem_of_find?_eq_some hq);have h3:q.1=p.1:=beq_iff_eq.1 h1;have h4:q=p:=by
   have Pz:d.Pairwise λx y=>x.1≠y.1:=List.pairwise_map.1 hn
   exact Classical.byContradiction λeR=>by
    exact absurd h3 (by
     rcases List.mem_iff_getElem.1 h2 with⟨i,hi,rfl⟩;rcases List.mem_iff_getElem.1 hp with⟨j,hj,rfl⟩;rcases Nat.lt_trichotomy i j with h|h|h
     ·exact List.pairwise_iff_getElem.1 Pz i j hi hj h
     ·subst h;exact absurd rfl eR
     ·exact λe=>List.pairwise_iff_getElem.1 Pz j i hj hi h e.symm)
  rw[h4];rfl
theorem Qy{d:List (Nat×Nat)}(h:∀p∈d,p.2<=100000)(n:Nat):0<=(jW d n).getD 0/\(jW d n).getD 0<=100000:=by
 unfold jW;cases hq:d.reverse.find? λq=>q.1==n with
 |none=>simp
 |some q=>
  have h2:=h q (List.mem_reverse.1 (List.mem_of_find?_eq_some hq));simp only[Option.map_some,Option.getD_some];omega
end Ty
namespace Ty
def iM{α:Type}(P:Ft->Prop)(m:Except Ft α):Prop:=∀f,m=.error f->P f
section
variable {P:Ft->Prop} {α β:Type}
theorem iM.ok(a:α):iM P (.ok a):=λf h=>by cases h
theorem iM.and{m:Except Ft α}{k:α->Except Ft β}(h:iM P m)(g:∀a,iM P (k a)):iM P (aK m k):=by
 cases m with
 |error f=>exact λf' e=>by cases e;exact h f rfl
 |ok a=>exact g a
theorem iM.err{f:Ft}(h:P f):iM (α:=α) P (.error f):=λf' e=>by cases e;exact h
theorem iM.ite{c:Prop} [Decidable c]{m k:Except Ft α}(h:iM P m)(g:iM P k):iM P (if c then m else k):=by
 by_cases hc:c
 ·rw[if_pos hc];exact h
 ·rw[if_neg hc];exact g
end
abbrev TJ(f:Ft):Prop:=f.1≠0
abbrev Pj(f:Ft):Prop:=f=stuck\/f.1≠0
theorem Iw{p n:Nat}{x:BA}{set:Bool}{frs:List Frm}{s:Vg}:iM TJ (kZ p x n set frs s):=by
 unfold kZ;split
 ·exact .err (by show(5:Nat)≠0;decide)
 ·exact .ok _
mutual
theorem cI:∀(e:Ex)(a:Nat)(frs:List Frm)(s:Vg),iM TJ (bQ e a frs s)
 | .num _ _,a,frs,s=>by rw[bQ];exact .ok _
 | .text _ _,a,frs,s=>by rw[bQ];exact .ok _
 | .bool _ _,a,frs,s=>by rw[bQ];exact .ok _
 | .null _,a,frs,s=>by rw[bQ];exact .ok _
 | .var p x,a,frs,s=>by rw[bQ];exact Iw
 | .fn _ ps _ _ body,a,frs,s=>by rw[bQ];exact(jo body _ _ _ _).and λ_=>.ok _
 | .call _ e l,a,frs,s=>by rw[bQ];exact(cI e _ _ _).and λ_=>sO l _ _ _
 | .get _ e _,a,frs,s=>by rw[bQ];exact cI e _ _ _
 | .one _ _ e,a,frs,s=>by rw[bQ];exact cI e _ _ _
 | .asX _ e _,a,frs,s=>by rw[bQ];exact cI e _ _ _
 | .atX _ e i,a,frs,s=>by rw[bQ];exact(cI e _ _ _).and λ_=>cI i _ _ _
 | .two _ _ e i,a,frs,s=>by rw[bQ];exact(cI e _ _ _).and λ_=>cI i _ _ _
 | .obj _ l,a,frs,s=>by rw[bQ];exact zj l _ _ _
 | .arr _ l,a,frs,s=>by rw[bQ];exact sO l _ _ _
theorem sO:∀(l:List Ex)(a:Nat)(frs:List Frm)(s:Vg),iM TJ (jc l a frs s)
 |[],_,_,s=>by rw[jc];exact .ok _
 |e::l,a,frs,s=>by rw[jc];exact(cI e _ _ _).and λ_=>sO l _ _ _
theorem zj:∀(l:List (Nat×BA×Ex))(a:Nat)(frs:List Frm)(s:Vg),iM TJ (jl l a frs s)
 |[],_,_,s=>by rw[jl];exact .ok _
 |(_,_,e)::l,a,frs,s=>by rw[jl];exact(cI e _ _ _).and λ_=>zj l _ _ _
theorem jo:∀(l:List Sm)(a:Nat)(fr:Frm)(frs:List Frm)(s:Vg),iM TJ (fJ l a fr frs s)
 |[],_,_,_,s=>by rw[fJ];exact .ok _
 |e::l,a,fr,frs,s=>by rw[fJ];exact(L0 e _ _ _ _).and λ_=>jo l _ _ _ _
theorem L0:∀(e:Sm)(a:Nat)(fr:Frm)(frs:List Frm)(s:Vg),iM TJ (dY e a fr frs s)
 | .fZ p x _ e,a,fr,frs,s=>by
  rw[dY];split
  ·exact .err (by show(6:Nat)≠0;decide)
  ·split
   ·exact(cI e _ _ _).and λ_=>.ok _
   ·exact(cI e _ _ _).and λ_=>.ok _
 | .set p x e,a,fr,frs,s=>by rw[dY];exact Iw.and λ_=>(cI e _ _ _).and λ_=>.ok _
 | .put _ e _ v,a,fr,frs,s=>by rw[dY];exact(cI e _ _ _).and λ_=>(cI v _ _ _).and λ_=>.ok _
 | .lay _ e i v,a,fr,frs,s=>by rw[dY];exact(cI e _ _ _).and λ_=>(cI i _ _ _).and λ_=>(cI v _ _ _).and λ_=>.ok _
 | .print _ e,a,fr,frs,s=>by rw[dY];exact(cI e _ _ _).and λ_=>.ok _
 | .ret _ e,a,fr,frs,s=>by rw[dY];exact(cI e _ _ _).and λ_=>.ok _
 | .oL _ e,a,fr,frs,s=>by rw[dY];exact(cI e _ _ _).and λ_=>.ok _
 | .if_ _ e _ b none,a,fr,frs,s=>by rw[dY];exact(cI e _ _ _).and λ_=>(jo b _ _ _ _).and λ_=>.ok _
 | .while_ _ e _ b,a,fr,frs,s=>by rw[dY];exact(cI e _ _ _).and λ_=>(jo b _ _ _ _).and λ_=>.ok _
 | .if_ _ e _ b (some (_,c)),a,fr,frs,s=>by rw[dY];exact(cI e _ _ _).and λ_=>(jo b _ _ _ _).and λ_=>(jo c _ _ _ _).and λ_=>.ok _
end
theorem BD{l:List Sm}{f:Ft}(h:lz l=.error f):f.1≠0:=((jo l _ _ _ _).and λ_=>.ok _:iM TJ (lz l)) f h
section
variable {pg:Pg} {tq:Nat->Nat} {s:Ck} {n:Nat} {x:Nd} {bk:List (Option Tr)}
theorem GM{p:Nat}{o:Option Tr}:iM Pj (Ox p o):=by
 cases o with
 |none=>exact .err (.inr (by show(9:Nat)≠0;decide))
 |some t=>exact .ok _
theorem xv{b:Bool}{e p:Nat}(h:e≠0):iM Pj (jY b e p s):=by
 unfold jY;split
 ·exact .ok _
 ·exact .err (.inr h)
theorem Tp:iM Pj (qB pg tq s n x):=by
 unfold qB AA;repeat' apply iM.ite
 all_goals first|exact .ok _|exact .err (.inl rfl)|exact GM|(split<;>first|exact .ok _|exact .err (.inl rfl))
theorem Uu:iM Pj (wV pg tq bk n x s):=by
 unfold wV AZ;repeat' split
 all_goals first|exact .ok _|exact .err (.inl rfl)|exact .err (.inr (by show(4:Nat)≠0;decide))|exact xv (by decide)|exact(xv (by decide)).and λ_=>.ok _|exact GM.and λ_=>xv (by decide)
theorem ey:iM Pj (ky pg tq n bk s):=by
 unfold ky;split
 ·unfold FV;refine Tp.and λt=>?_
  split
  ·exact .ok _
  ·exact .err (.inr (by show(2:Nat)≠0;decide))
 ·exact Uu
end
section
variable {pg:Pg} {tq:Nat->Nat}
mutual
theorem dC:∀(e:Ex)(a:Nat)(bk:List (Option Tr))(s:Ck),iM Pj (fX pg tq e a bk s)
 | .num _ _,a,bk,s=>by rw[fX];exact ey
 | .text _ _,a,bk,s=>by rw[fX];exact ey
 | .bool _ _,a,bk,s=>by rw[fX];exact ey
 | .null _,a,bk,s=>by rw[fX];exact ey
 | .var _ _,a,bk,s=>by rw[fX];exact ey
 | .fn _ ps _ _ body,a,bk,s=>by rw[fX];exact(lC body _ _ _).and λ_=>ey
 | .call _ e l,a,bk,s=>by rw[fX];exact(dC e _ _ _).and λ_=>(vv l _ _ _).and λ_=>ey
 | .get _ e _,a,bk,s=>by rw[fX];exact(dC e _ _ _).and λ_=>ey
 | .one _ _ e,a,bk,s=>by rw[fX];exact(dC e _ _ _).and λ_=>ey
 | .asX _ e _,a,bk,s=>by rw[fX];exact(dC e _ _ _).and λ_=>ey
 | .atX _ e i,a,bk,s=>by rw[fX];exact(dC e _ _ _).and λ_=>(dC i _ _ _).and λ_=>ey
 | .two _ _ e i,a,bk,s=>by rw[fX];exact(dC e _ _ _).and λ_=>(dC i _ _ _).and λ_=>ey
 | .obj _ l,a,bk,s=>by rw[fX];exact(Cv l _ _ _).and λ_=>ey
 | .arr _ l,a,bk,s=>by rw[fX];exact(vv l _ _ _).and λ_=>ey
theorem vv:∀(l:List Ex)(a:Nat)(bk:List (Option Tr))(s:Ck),iM Pj (oF pg tq l a bk s)
 |[],_,_,s=>by rw[oF];exact .ok _
 |e::l,a,bk,s=>by rw[oF];exact(dC e _ _ _).and λ_=>vv l _ _ _
theorem Cv:∀(l:List (Nat×BA×Ex))(a:Nat)(bk:List (Option Tr))(s:Ck),iM Pj (pE pg tq l a bk s)
 |[],_,_,s=>by rw[pE];exact .ok _
 |(_,_,e)::l,a,bk,s=>by rw[pE];exact((dC e _ _ _).and λ_=>ey).and λ_=>Cv l _ _ _
theorem lC:∀(l:List Sm)(a:Nat)(bk:List (Option Tr))(s:Ck),iM Pj (j_ pg tq l a bk s)
 |[],_,_,s=>by rw[j_];exact .ok _
 |e::l,a,bk,s=>by rw[j_];exact(P7 e _ _ _).and λ_=>lC l _ _ _
theorem P7:∀(e:Sm)(a:Nat)(bk:List (Option Tr))(s:Ck),iM Pj (lN pg tq e a bk s)
 | .fZ p x _ e,a,bk,s=>by rw[lN];exact(dC e _ _ _).and λ_=>ey
 | .set p x e,a,bk,s=>by rw[lN];exact(dC e _ _ _).and λ_=>ey
 | .print _ e,a,bk,s=>by rw[lN];exact(dC e _ _ _).and λ_=>ey
 | .ret _ e,a,bk,s=>by rw[lN];exact(dC e _ _ _).and λ_=>ey
 | .oL _ e,a,bk,s=>by rw[lN];exact(dC e _ _ _).and λ_=>ey
 | .put _ e _ v,a,bk,s=>by rw[lN];exact(dC e _ _ _).and λ_=>(dC v _ _ _).and λ_=>ey
 | .lay _ e i v,a,bk,s=>by rw[lN];exact(dC e _ _ _).and λ_=>(dC i _ _ _).and λ_=>(dC v _ _ _).and λ_=>ey
 | .if_ _ e _ b none,a,bk,s=>by rw[lN];exact(dC e _ _ _).and λ_=>(lC b _ _ _).and λ_=>ey
 | .while_ _ e _ b,a,bk,s=>by rw[lN];exact(dC e _ _ _).and λ_=>(lC b _ _ _).and λ_=>ey
 | .if_ _ e _ b (some (_,c)),a,bk,s=>by rw[lN];exact(dC e _ _ _).and λ_=>(lC b _ _ _).and λ_=>(lC c _ _ _).and λ_=>ey
end
theorem QA{l:List Sm}{f:Ft}(hn:MY pg tq l≠.error stuck)(h:MY pg tq l=.error f):f.1≠0:=by
 rcases lC (pg:=pg) (tq:=tq) l 0 [] ⟨λ_=>none,λ_=>none⟩ f h with rfl|h1
 ·exact absurd h hn
 ·exact h1
end
end Ty
section
open Ty (Tr Ck aK)
theorem QT(a d:Nat)(w:World):
  CallsD prog 92 #[.pointer (some ⟨a,0,none⟩),.pointer (some ⟨d,0,none⟩)] .returning w λe u' w'=>e=.returned (.tuple #[])/\u'=.returning/\w'=w:=by
 refine callsD_of_wpS func92 rfl λvx cs hu=>?_
 apply wpS_seq;apply wpS_region;simp[wpOpsS,go_sem,recoverD,hu,ntmps92,Exit.thenS];apply wpS_seq;apply wpS_region;simp[wpOpsS,go_sem,Exit.thenS];refine wpS_cond (t:=false) (by simp[Act.eval,Array.replicate]) ?_;simp only[Bool.false_eq_true,if_false];refine wpS_of_wp (wp_skip ?_);cases vx;simp_all[bodyPostS,results,results92]
theorem QF{w0 w:World}{Fr:As}{a d:Nat}{x0 f0 f1:Value}{L:List As}(H:Sat w0 w (Fr::ax a (.cells #[x0] 99 (0,0))::ax d (.cells #[f0,f1] 25 (0,0))::L))(f:Ty.Ft):
  CallsD prog 92 #[.pointer (some ⟨a,0,none⟩),.pointer (some ⟨d,0,none⟩)] (.panicking (aO f)) w λe u' w'=>
   e=.returned (.tuple #[])/\u'=.panicking [{v:=.iface 25 (bm f),recovered:=true}]/\
   Sat w0 w' (Fr::ax a (.cells #[.pointer none] 99 (0,0))::ax d (.cells #[.int .i64 f.1,.int .i64 f.2] 25 (0,0))::L):=by
 have a0:=H.cell 1 0;have d0:=H.cell 2 0;have d1:=H.cell 2 1;have fa:=H.free 1 rfl;have fd:=H.free 2 rfl;have n12:=H.ne 1 2 (by decide) rfl rfl;have ad0:=sq f.1 f.2;have HH:=qh H;refine callsD_of_wpS func92 rfl λvx cs hu=>?_
 clear H;unfold aO at hu;apply wpS_seq;apply wpS_region;simp[wpOpsS,go_sem,recoverD,hu,ntmps92,Exit.thenS];apply wpS_seq;apply wpS_region;simp[wpOpsS,go_sem,Exit.thenS];refine wpS_cond (t:=true) (by simp[Act.eval,Array.replicate]) ?_;simp only[if_true];refine wpS_of_wp ?_;unfold bm
 go_region
 all_goals
  simp[bodyPostS,results,results92,bm];exact(((HH.o.store 1 rfl 0 (.pointer none)).store 2 rfl 0 (.int .i64 f.1)).store 2 rfl 1 (.int .i64 f.2)).drew
theorem abw{w:World}{v:Value}{l:List (Nat×Nat)}(h:w.ownsRow 0 43 2 v l.length (l.flatMap gN))(k:Nat)(hk:k<l.length):
  ∃g cap:Nat,v=.slice (some ⟨g,0,none⟩) l.length cap/\g<w.heap.size/\w.cell? ⟨g,k*2,none⟩=some (.int .i64 (l[k].1:Nat))/\w.cell? ⟨g,k*2+1,none⟩=some (.int .i64 (l[k].2:Nat)):=by
 obtain⟨g,cap,rfl,_,hg⟩:=h.form (by omega);have hc:=λj u hj=>World.ownsRow.cells h (g:=g) rfl j u hj
 have hf:=kU gN 2 (λ_=>rfl) l k hk;refine⟨g,cap,rfl,hg,?_,?_⟩
 ·have:=hc (k*2+0) _ (by rw[hf 0 (by omega)];rfl);rwa [Addr.add_lit,Nat.zero_add]at this
 ·have:=hc (k*2+1) _ (by rw[hf 1 (by omega)];rfl);rwa [Addr.add_lit,Nat.zero_add]at this
theorem XO{wB:World}{nv tv cav:Value}{main:Int}(n:Nat)(hn:n=wB.heap.size):
  Sat wB ((((wB.alloc (.map #[] 0)).alloc (.map #[] 0)).alloc (.map #[] 0)).alloc (.cells #[nv,tv,.int .i64 main,.map (some n),cav,.map (some (n+1)),.map (some (n+1+1)),.slice none 0 0] 106))
   [bY wB,ax (n+1+1+1) (.cells #[nv,tv,.int .i64 main,.map (some n),cav,.map (some (n+1)),.map (some (n+1+1)),.slice none 0 0] 106 (0,0)),mapA 3 3 n 0 (cY λ_=>none),lP 3 (n+1) 0 (iH λ_=>none),lP 3 (n+1+1) 0 (iH λ_=>none),Prt.row 107 1 (.slice none 0 0) 0 [],Pt (λ_=>none)]:=by
 subst hn;have h1:=(Sat.iN wB).Ak 3 3 wB.heap.size rfl uh;have h2:=h1.G1 3 (wB.heap.size+1) (by simp) DA;have h3:=h2.G1 3 (wB.heap.size+1+1) (by simp) DA;have h4:=((h3.ar (.cells #[nv,tv,.int .i64 main,.map (some wB.heap.size),cav,.map (some (wB.heap.size+1)),.map (some (wB.heap.size+1+1)),.slice none 0 0] 106) (wB.heap.size+1+1+1) (by simp)).nil 107 1).jR (P:=Pt (λ_=>none)) (λ_ _ _ e=>by cases e);exact h4.pick [0,4,1,2,3,5,6]
end
end Go.Proofs.YtdlbhiaceheffabGreatDoor
