/- Plain: where names are bound checking is never stuck: all trees. No program in sight. -/
import Derived.Test.YtdlbhiaceheffabGreatDoorE06
import Derived.Test.YtdlbhiaceheffabGreatDoorE07
set_option linter.all false
namespace Go.Proofs.YtdlbhiaceheffabGreatDoor
open Go Go.RowKit Ty Tok
section
namespace Ty
def sP(frs:List Frm)(s:Ck):Prop:=∀x n,j_ frs x=some n->(s.has n).isSome=true
theorem sP.mono{frs:List Frm}{s s':Ck}{a b:Nat}(h:sP frs s)(g:Step a b s s'):sP frs s':=λx n hx=>g.has n (h x n hx)
theorem G'(l:List (BA×Nat))(x y:BA)(n:Nat):eR (l++[(x,n)]) y=if x=y then some n else eR l y:=by
 unfold eR;rw[List.reverse_append];by_cases h:x=y<;>simp[h]
theorem sP.add{fr:Frm}{frs:List Frm}{s:Ck}{x:BA}{n:Nat}(h:sP (fr::frs) s)(hn: (s.has n).isSome=true):sP (addN fr x n::frs) s:=λy m hy=>by
 rw[j_]at hy
 simp only[addN]at hy;rw[G']at hy
 by_cases hx:x=y
 ·rw[if_pos hx]at hy;cases hy;exact hn
 ·rw[if_neg hx]at hy
  exact h y m (by rw[j_];exact hy)
theorem sP.new{frs:List Frm}{s:Ck}(h:sP frs s)(o:Nat)(f:Int):sP (⟨[],o,f⟩::frs) s:=λy m hy=>h y m (by rw[j_]at hy;exact hy)
theorem sP.xR{frs:List Frm}{s:Ck}(h:sP frs s)(n:Nat)(t:Tr):sP frs {s with has:=eI s.has n t}:=h.mono (kT s n t)
theorem xS(f:Nat->Option Tr)(n:Nat)(t:Tr): (eI f n t n).isSome=true:=by unfold eI;rw[if_pos rfl];rfl
theorem sP.decl{pg:Pg}{frs:List Frm}:∀(ps:List Par)(a:Nat)(fr:Frm)(v:Vg)(s:Ck),sP (fr::frs) s->sP ((gu ps a fr v).1::frs) (gN pg (eH ps a) s)
 |[],_,_,_,_,h=>h
 |q::ps,a,fr,v,s,h=>by
  rw[gu,eH,gN];exact sP.decl ps (a+1) _ _ _ ((h.xR a _).add (xS _ _ _))
theorem uy{f:Nat->Option Tr}{l:List Nat}(h:∀n∈l,(f n).isSome=true):fB f l=true:=by unfold fB;rw[List.all_eq_true];exact h
section
variable {pg:Pg} {tq:Nat->Nat} {bk:List (Option Tr)} {s:Ck} {a b:Nat} {x:Nd}
theorem kS{m:Except Ft Ck}{K:List Nat}(rQ:a<=b)(h:vP m λs'=>Step a b s s'/\∀n∈K,(s'.of n).isSome=true)(hn:pg.ns[b]?=some x)(hr:1<=x.kind/\x.kind<=14)(hk:c8 pg x=K)(h5:x.kind≠5)(zP:x.kind=14->0<=x.ty):
  vP (aN m λs=>iW pg tq b bk s) λs'=>Step a (b+1) s s'/\(s'.of b).isSome=true:=
 h.and λs1 h1=>(px hn hr (by rw[hk];exact uy h1.2) (λh=>absurd h h5) zP).mono λs2 h2=>⟨h1.1.trans h2.1 rQ (by omega),h2.2⟩
theorem lI{m:Except Ft Ck}{K:List Nat}(rQ:a<=b)(h:vP m λs'=>Step a b s s'/\∀n∈K,(s'.of n).isSome=true)(hn:pg.ns[b]?=some x)(hr:15<=x.kind)(hk:dz x=K)(me:x.kind≠18):
  vP (aN m λs=>iW pg tq b bk s) λs'=>Step a (b+1) s s'/\(x.kind=17->(s'.has b).isSome=true):=
 h.and λs1 h1=>(rG hn hr (by rw[hk];exact uy h1.2) (λh=>absurd h me)).mono λs2 h2=>⟨h1.1.trans h2.1 rQ (by omega),h2.2⟩
end
theorem rU{f:Nat->Option Tr}{n:Nat}(h: (f n).isSome=true):∀k∈[n],(f k).isSome=true:=λk hk=>by rw[List.mem_singleton]at hk;rw[hk];exact h
theorem yM{f:Nat->Option Tr}{n m:Nat}(h: (f n).isSome=true)(g: (f m).isSome=true):∀k∈[n,m],(f k).isSome=true:=λk hk=>by
 rcases List.mem_cons.1 hk with rfl|hk
 ·exact h
 ·exact rU g k hk
theorem Kf{f:Nat->Option Tr}{n m l:Nat}(h: (f n).isSome=true)(g: (f m).isSome=true)(i: (f l).isSome=true):∀k∈[n,m,l],(f k).isSome=true:=λk hk=>by
 rcases List.mem_cons.1 hk with rfl|hk
 ·exact h
 ·exact yM g i k hk
theorem Step.some{a b n:Nat}{s s':Ck}(g:Step a b s s')(h: (s.of n).isSome=true)(hn:n<a\/b<=n): (s'.of n).isSome=true:=by rw[g.of n hn];exact h
theorem Hm{ns:List Nd}:∀(e:Ex)(a:Nat),df ns e a->((cV ns (a+ax e-1)).kind=6↔lK e=true)
 | .num ..,a,h=>by rw[df]at h;rw[ax,Nat.add_sub_cancel,bw h];simp[af,lK]
 | .text ..,a,h=>by rw[df]at h;rw[ax,Nat.add_sub_cancel,bw h];simp[af,lK]
 | .bool ..,a,h=>by rw[df]at h;rw[ax,Nat.add_sub_cancel,bw h];simp[af,lK]
 | .null ..,a,h=>by rw[df]at h;rw[ax,Nat.add_sub_cancel,bw h];simp[af,lK]
 | .var ..,a,h=>by rw[df]at h;rw[ax,Nat.add_sub_cancel,bw h];simp[af,lK]
 | .fn _ ps _ _ body,a,h=>by
  rw[df]at h
  rw[ax,show a+(ps.length+aJ body+2)-1=a+ps.length+aJ body+1 by omega,bw h.2.2.2];simp[af,lK]
 | .call _ e l,a,h=>by
  rw[df]at h
  rw[ax,show a+(ax e+eE l+1)-1=a+ax e+eE l by omega,bw h.2.2];simp[af,lK]
 | .get _ e _,a,h=>by
  rw[df]at h
  rw[ax,show a+(ax e+1)-1=a+ax e by omega,bw h.2];simp[af,lK]
 | .atX _ e i,a,h=>by
  rw[df]at h
  rw[ax,show a+(ax e+ax i+1)-1=a+ax e+ax i by omega,bw h.2.2];simp[af,lK]
 | .obj _ l,a,h=>by
  rw[df]at h
  rw[ax,show a+(fE l+1)-1=a+fE l by omega,bw h.2];simp[af,lK]
 | .arr _ l,a,h=>by
  rw[df]at h
  rw[ax,show a+(eE l+1)-1=a+eE l by omega,bw h.2];simp[af,lK]
 | .two _ _ e i,a,h=>by
  rw[df]at h
  rw[ax,show a+(ax e+ax i+1)-1=a+ax e+ax i by omega,bw h.2.2];simp[af,lK]
 | .one _ _ e,a,h=>by
  rw[df]at h
  rw[ax,show a+(ax e+1)-1=a+ax e by omega,bw h.2];simp[af,lK]
 | .asX _ e _,a,h=>by
  rw[df]at h
  rw[ax,show a+(ax e+1)-1=a+ax e by omega,bw h.2];simp[af,lK]
theorem xE(pg:Pg)(n:Nat)(s:Ck):Step n (n+1) s (nf pg n s):=by
 unfold nf;split
 ·exact kT s n _
 ·exact Step.refl _ _ _
theorem K8{p n:Nat}{x:BA}{set:Bool}{frs:List Frm}{v v':Vg}(h:kF p x n set frs v=.ok v'):∃m,j_ frs x=some m/\(n,m)∈v'.out:=by
 unfold kF at h;split at h
 ·cases h
 ·rename_i m hm;cases h;exact⟨m,hm,by simp⟩
set_option linter.unusedSectionVars false
section
variable {pg:Pg} {tq:Nat->Nat} (hP:PgOk pg)
include hP
mutual
theorem eA:∀(e:Ex)(a:Nat)(frs:List Frm)(v v':Vg)(bk:List (Option Tr))(s:Ck),df pg.ns e a->bP e a frs v=.ok v'->(∀p∈v'.out,tq p.1=p.2)->sP frs s->
  vP (eT pg tq e a bk s) λs'=>Step a (a+ax e) s s'/\(s'.of (a+ax e-1)).isSome=true
 | .num ..,a,frs,v,v',bk,s,ly,hv,ht,hc=>by
  rw[df]at ly;rw[eT,ax]
  exact px ly ⟨by simp[af],by simp[af]⟩ rfl (λh=>by cases h) (λh=>by cases h)
 | .text ..,a,frs,v,v',bk,s,ly,hv,ht,hc=>by
  rw[df]at ly;rw[eT,ax]
  exact px ly ⟨by simp[af],by simp[af]⟩ rfl (λh=>by cases h) (λh=>by cases h)
 | .bool ..,a,frs,v,v',bk,s,ly,hv,ht,hc=>by
  rw[df]at ly;rw[eT,ax]
  exact px ly ⟨by simp[af],by simp[af]⟩ rfl (λh=>by cases h) (λh=>by cases h)
 | .null ..,a,frs,v,v',bk,s,ly,hv,ht,hc=>by
  rw[df]at ly;rw[eT,ax]
  exact px ly ⟨by simp[af],by simp[af]⟩ rfl (λh=>by cases h) (λh=>by cases h)
 | .var p x,a,frs,v,v',bk,s,ly,hv,ht,hc=>by
  rw[df]at ly;rw[eT,ax];rw[bP]at hv
  obtain⟨m,hm,V_⟩:=K8 hv;exact px ly ⟨by simp[af],by simp[af]⟩ rfl (λ_=>by rw[ht _ V_];exact hc x m hm) (λh=>by cases h)
 | .fn p ps ty bp body,a,frs,v,v',bk,s,ly,hv,ht,hc=>by
  rw[df]at ly;rw[eT,ax];rw[bP]at hv
  obtain⟨lp,ls,hb,hn⟩:=ly;obtain⟨r,hr,h2⟩:=aF hv;cases h2;have XY:=sP.decl (pg:=pg) ps a ⟨[],a+ps.length+aJ body+1,((a+ps.length+aJ body+1:Nat):Int)⟩ v s (hc.new _ _);have h1:=uE (pg:=pg) ps a s;refine(mA body (a+ps.length) _ frs _ r (bk++[dZ pg.ts ty]) _ ls hr ht XY).and λs1 g=>?_
  refine(px hn ⟨by simp[af],by simp[af]⟩ rfl (λh=>by cases h) (λh=>by cases h)).mono λs2 g2=>⟨?_,?_⟩
  ·rw[show a+(ps.length+aJ body+2)=a+ps.length+aJ body+1+1 by omega];exact((h1.trans g.1 (by omega) (by omega)).mono (nR _) (by omega:a+ps.length+aJ body<=a+ps.length+aJ body+1)).trans g2.1 (by omega) (by omega)
  ·rw[show a+(ps.length+aJ body+2)-1=a+ps.length+aJ body+1 by omega];exact g2.2
 | .call p e l,a,frs,v,v',bk,s,ly,hv,ht,hc=>by
  rw[df]at ly;rw[eT,ax];rw[bP]at hv
  obtain⟨l1,l2,hn⟩:=ly;obtain⟨v1,h1,h2⟩:=aF hv;have eS:=iz e;refine(eA e a frs v v1 bk s l1 h1 (λp hp=>ht p (lG l _ _ _ _ h2 p hp)) hc).and λs1 g1=>?_
  refine(kS (K:=(a+ax e-1)::fq l (a+ax e)) (by omega) ((yf l (a+ax e) frs v1 v' bk s1 l2 h2 ht (hc.mono g1.1)).mono λs2 g2=>⟨g2.1,λn hm=>?_⟩) hn ⟨by simp[af],by simp[af]⟩ rfl (by simp[af]) (by simp[af])).mono λs3 g3=>⟨?_,?_⟩
  ·rcases List.mem_cons.1 hm with rfl|hm
   ·exact g2.1.some g1.2 (by omega)
   ·exact g2.2 n hm
  ·rw[show a+(ax e+eE l+1)=a+ax e+eE l+1 by omega];exact g1.1.trans g3.1 (by omega) (by omega)
  ·rw[show a+(ax e+eE l+1)-1=a+ax e+eE l by omega];exact g3.2
 | .get p e x,a,frs,v,v',bk,s,ly,hv,ht,hc=>by
  rw[df]at ly;rw[eT,ax];rw[bP]at hv
  exact kS (K:=[a+ax e-1]) (by omega) ((eA e a frs v v' bk s ly.1 hv ht hc).mono λs2 g2=>⟨g2.1,rU g2.2⟩) ly.2 ⟨by simp[af],by simp[af]⟩ rfl (by simp[af]) (by simp[af])
 | .atX p e i,a,frs,v,v',bk,s,ly,hv,ht,hc=>by
  rw[df]at ly;rw[eT,ax];rw[bP]at hv
  obtain⟨l1,l2,hn⟩:=ly;obtain⟨v1,h1,h2⟩:=aF hv;have eS:=iz e;refine(eA e a frs v v1 bk s l1 h1 (λp hp=>ht p (bS i _ _ _ _ h2 p hp)) hc).and λs1 g1=>?_
  refine(kS (K:=[a+ax e-1,a+ax e+ax i-1]) (by omega) ((eA i (a+ax e) frs v1 v' bk s1 l2 h2 ht (hc.mono g1.1)).mono λs2 g2=>⟨g2.1,yM (g2.1.some g1.2 (by omega)) g2.2⟩) hn ⟨by simp[af],by simp[af]⟩ rfl (by simp[af]) (by simp[af])).mono λs3 g3=>⟨?_,?_⟩
  ·rw[show a+(ax e+ax i+1)=a+ax e+ax i+1 by omega];exact g1.1.trans g3.1 (by omega) (by omega)
  ·rw[show a+(ax e+ax i+1)-1=a+ax e+ax i by omega];exact g3.2
 | .obj p l,a,frs,v,v',bk,s,ly,hv,ht,hc=>by
  rw[df]at ly;rw[eT,ax];rw[bP]at hv
  exact kS (K:=(eL l a).map λp=>(cV pg.ns p).a) (by omega) (Ev l a frs v v' bk s ly.1 hv ht hc) ly.2 ⟨by simp[af],by simp[af]⟩ rfl (by simp[af]) (by simp[af])
 | .arr p l,a,frs,v,v',bk,s,ly,hv,ht,hc=>by
  rw[df]at ly;rw[eT,ax];rw[bP]at hv
  exact kS (K:=fq l a) (by omega) (yf l a frs v v' bk s ly.1 hv ht hc) ly.2 ⟨by simp[af],by simp[af]⟩ rfl (by simp[af]) (by simp[af])
 | .two p x e i,a,frs,v,v',bk,s,ly,hv,ht,hc=>by
  rw[df]at ly;rw[eT,ax];rw[bP]at hv
  obtain⟨l1,l2,hn⟩:=ly;obtain⟨v1,h1,h2⟩:=aF hv;have eS:=iz e;refine(eA e a frs v v1 bk s l1 h1 (λp hp=>ht p (bS i _ _ _ _ h2 p hp)) hc).and λs1 g1=>?_
  refine(kS (K:=[a+ax e-1,a+ax e+ax i-1]) (by omega) ((eA i (a+ax e) frs v1 v' bk s1 l2 h2 ht (hc.mono g1.1)).mono λs2 g2=>⟨g2.1,yM (g2.1.some g1.2 (by omega)) g2.2⟩) hn ⟨by simp[af],by simp[af]⟩ rfl (by simp[af]) (by simp[af])).mono λs3 g3=>⟨?_,?_⟩
  ·rw[show a+(ax e+ax i+1)=a+ax e+ax i+1 by omega];exact g1.1.trans g3.1 (by omega) (by omega)
  ·rw[show a+(ax e+ax i+1)-1=a+ax e+ax i by omega];exact g3.2
 | .one p x e,a,frs,v,v',bk,s,ly,hv,ht,hc=>by
  rw[df]at ly;rw[eT,ax];rw[bP]at hv
  exact kS (K:=[a+ax e-1]) (by omega) ((eA e a frs v v' bk s ly.1 hv ht hc).mono λs2 g2=>⟨g2.1,rU g2.2⟩) ly.2 ⟨by simp[af],by simp[af]⟩ rfl (by simp[af]) (by simp[af])
 | .asX p e ty,a,frs,v,v',bk,s,ly,hv,ht,hc=>by
  rw[df]at ly;rw[eT,ax];rw[bP]at hv
  refine kS (K:=[]) (by omega) ((eA e a frs v v' bk s ly.1 hv ht hc).mono λs2 g2=>⟨g2.1,λn hn=>by cases hn⟩) ly.2 ⟨by simp[af],by simp[af]⟩ rfl (by simp[af]) λh=>?_
  exact(hP.ns _ (List.mem_of_getElem? ly.2)).RF h
theorem yf:∀(l:List Ex)(a:Nat)(frs:List Frm)(v v':Vg)(bk:List (Option Tr))(s:Ck),kN pg.ns l a->iP l a frs v=.ok v'->(∀p∈v'.out,tq p.1=p.2)->sP frs s->
  vP (nX pg tq l a bk s) λs'=>Step a (a+eE l) s s'/\∀n∈fq l a,(s'.of n).isSome=true
 |[],a,frs,v,v',bk,s,ly,hv,ht,hc=>by
  rw[nX];exact⟨λe=>(by cases e),λs' e=>by cases e;exact⟨Step.refl _ _ _,λn hn=>by cases hn⟩⟩
 |e::l,a,frs,v,v',bk,s,ly,hv,ht,hc=>by
  rw[kN]at ly;rw[nX,eE];rw[iP]at hv
  obtain⟨v1,h1,h2⟩:=aF hv;have eS:=iz e;refine(eA e a frs v v1 bk s ly.1 h1 (λp hp=>ht p (lG l _ _ _ _ h2 p hp)) hc).and λs1 g1=>?_
  refine(yf l (a+ax e) frs v1 v' bk s1 ly.2 h2 ht (hc.mono g1.1)).mono λs2 g2=>⟨?_,λn hn=>?_⟩
  ·rw[<-Nat.add_assoc];exact g1.1.trans g2.1 (by omega) (by omega)
  ·rw[fq]at hn
   rcases List.mem_cons.1 hn with rfl|hn
   ·exact g2.1.some g1.2 (by omega)
   ·exact g2.2 n hn
theorem Ev:∀(l:List (Nat×BA×Ex))(a:Nat)(frs:List Frm)(v v':Vg)(bk:List (Option Tr))(s:Ck),jS pg.ns l a->jv l a frs v=.ok v'->(∀p∈v'.out,tq p.1=p.2)->sP frs s->
  vP (oN pg tq l a bk s) λs'=>Step a (a+fE l) s s'/\∀n∈(eL l a).map (λp=>(cV pg.ns p).a),(s'.of n).isSome=true
 |[],a,frs,v,v',bk,s,ly,hv,ht,hc=>by
  rw[oN];exact⟨λe=>(by cases e),λs' e=>by cases e;exact⟨Step.refl _ _ _,λn hn=>by cases hn⟩⟩
 |(p,x,e)::l,a,frs,v,v',bk,s,ly,hv,ht,hc=>by
  rw[jS]at ly;rw[oN,fE];rw[jv]at hv
  obtain⟨l1,hn,l2⟩:=ly;obtain⟨v1,h1,h2⟩:=aF hv;have eS:=iz e;refine vP.and (P:=λs1=>Step a (a+ax e+1) s s1/\(s1.of (a+ax e-1)).isSome=true) ?_ λs1 g1=>?_
  ·refine(eA e a frs v v1 bk s l1 h1 (λp hp=>ht p (rE l _ _ _ _ h2 p hp)) hc).and λs1 g1=>?_
   refine(rG hn (by simp[af]) rfl (by simp[af])).mono λs2 g2=>⟨g1.1.trans g2.1 (by omega) (by omega),g2.1.some g1.2 (by omega)⟩
  ·refine(Ev l (a+ax e+1) frs v1 v' bk s1 l2 h2 ht (hc.mono g1.1)).mono λs2 g2=>⟨?_,λn hm=>?_⟩
   ·rw[show a+(ax e+1+fE l)=a+ax e+1+fE l by omega];exact g1.1.trans g2.1 (by omega) (by omega)
   ·rw[eL,List.map_cons,bw hn]at hm
    rcases List.mem_cons.1 hm with rfl|hm
    ·exact g2.1.some g1.2 (by left;show a+ax e-1< _;omega)
    ·exact g2.2 n hm
theorem mA:∀(l:List Sm)(a:Nat)(fr:Frm)(frs:List Frm)(v:Vg)(r:Frm×Vg)(bk:List (Option Tr))(s:Ck),iR pg.ns l a->fw l a fr frs v=.ok r->(∀p∈r.2.out,tq p.1=p.2)->sP (fr::frs) s->
  vP (j4 pg tq l a bk s) λs'=>Step a (a+aJ l) s s'/\sP (r.1::frs) s'
 |[],a,fr,frs,v,r,bk,s,ly,hv,ht,hc=>by
  rw[fw]at hv;cases hv
  rw[j4];exact⟨λe=>(by cases e),λs' e=>by cases e;exact⟨Step.refl _ _ _,hc⟩⟩
 |e::l,a,fr,frs,v,r,bk,s,ly,hv,ht,hc=>by
  rw[iR]at ly;rw[j4,aJ];rw[fw]at hv
  obtain⟨q,h1,h2⟩:=aF hv;refine(O9 e a fr frs v q bk s ly.1 h1 (λp hp=>ht p (eK l _ _ _ _ _ h2 p hp)) hc).and λs1 g1=>?_
  refine(mA l (a+da e) q.1 frs q.2 r bk s1 ly.2 h2 ht g1.2).mono λs2 g2=>⟨?_,g2.2⟩
  rw[<-Nat.add_assoc];exact g1.1.trans g2.1 (by omega) (by omega)
theorem O9:∀(e:Sm)(a:Nat)(fr:Frm)(frs:List Frm)(v:Vg)(r:Frm×Vg)(bk:List (Option Tr))(s:Ck),gL pg.ns e a->dC e a fr frs v=.ok r->(∀p∈r.2.out,tq p.1=p.2)->sP (fr::frs) s->
  vP (jI pg tq e a bk s) λs'=>Step a (a+da e) s s'/\sP (r.1::frs) s'
 | .jR p x ty e,a,fr,frs,v,r,bk,s,ly,hv,ht,hc=>by
  rw[gL]at ly;rw[jI,da];rw[dC]at hv
  have eS:=iz e;have acS:=Hm e a ly.1;have gJ:=xE pg (a+ax e) s;have P1: (cV pg.ns (a+ax e)).a=a+ax e-1:=by rw[bw ly.2]
  split at hv
  ·cases hv
  ·have Vm:∃dD v0 v1,bP e a dD v0=.ok v1/\r=(addN fr x (a+ax e),r.2)/\r.2.out=v1.out/\sP dD (nf pg (a+ax e) s):=by
    split at hv
    ·rename_i hf;obtain⟨v1,h1,h2⟩:=aF hv;cases h2;refine⟨_,_,v1,h1,rfl,rfl,?_⟩;unfold nf;rw[if_pos (by rw[P1];exact acS.2 hf)];exact(hc.xR _ _).add (xS _ _ _)
    ·rename_i hf;obtain⟨v1,h1,h2⟩:=aF hv;cases h2;refine⟨_,_,v1,h1,rfl,rfl,hc.mono gJ⟩
   obtain⟨dD,v0,v1,h1,hr,LM,Qq⟩:=Vm;refine(lI (a:=a) (s:=nf pg (a+ax e) s) (K:=[a+ax e-1]) (by omega) ((eA e a dD v0 v1 bk _ ly.1 h1 (λp hp=>ht p (by rw[LM];exact hp)) Qq).mono λs2 g2=>⟨g2.1,rU g2.2⟩) ly.2 (by simp[af]) rfl (by simp[af])).mono λs3 g3=>⟨?_,?_⟩
   ·exact⟨λn hn=>(g3.1.of n hn).trans (gJ.of n (by omega)),λn hn=>g3.1.has n (gJ.has n hn),λn hn=>(g3.1.out n hn).trans (gJ.out n (by omega))⟩
   ·rw[hr];exact((hc.mono gJ).mono g3.1).add (g3.2 rfl)
 | .set p x e,a,fr,frs,v,r,bk,s,ly,hv,ht,hc=>by
  rw[gL]at ly;rw[jI,da];rw[dC]at hv
  obtain⟨v1,h1,h2⟩:=aF hv;obtain⟨v2,h3,h4⟩:=aF h2;cases h4;have eS:=iz e;obtain⟨m,hm,V_⟩:=K8 h1;refine(eA e a (fr::frs) v1 v2 bk s ly.1 h3 ht hc).and λs1 g1=>?_
  refine(rG ly.2 (by simp[af]) (uy (rU g1.2)) λ_=>?_).mono λs2 g2=>⟨g1.1.trans g2.1 (by omega) (by omega),(hc.mono g1.1).mono g2.1⟩
  rw[ht _ (bS e _ _ _ _ h3 _ V_)];exact g1.1.has m (hc x m hm)
 | .put p e x w,a,fr,frs,v,r,bk,s,ly,hv,ht,hc=>by
  rw[gL]at ly;rw[jI,da];rw[dC]at hv
  obtain⟨l1,l2,hn⟩:=ly;obtain⟨v1,h1,h2⟩:=aF hv;obtain⟨v2,h3,h4⟩:=aF h2;cases h4;have eS:=iz e;refine(eA e a (fr::frs) v v1 bk s l1 h1 (λp hp=>ht p (bS w _ _ _ _ h3 p hp)) hc).and λs1 g1=>?_
  refine(lI (K:=[a+ax e-1,a+ax e+ax w-1]) (by omega) ((eA w (a+ax e) (fr::frs) v1 v2 bk s1 l2 h3 ht (hc.mono g1.1)).mono λs2 g2=>⟨g2.1,yM (g2.1.some g1.2 (by omega)) g2.2⟩) hn (by simp[af]) rfl (by simp[af])).mono λs3 g3=>⟨?_,(hc.mono g1.1).mono g3.1⟩
  rw[show a+(ax e+ax w+1)=a+ax e+ax w+1 by omega];exact g1.1.trans g3.1 (by omega) (by omega)
 | .lay p e i w,a,fr,frs,v,r,bk,s,ly,hv,ht,hc=>by
  rw[gL]at ly;rw[jI,da];rw[dC]at hv
  obtain⟨l1,l2,l3,hn⟩:=ly;obtain⟨v1,h1,h2⟩:=aF hv;obtain⟨v2,h3,h4⟩:=aF h2;obtain⟨v3,h5,h6⟩:=aF h4;cases h6;have eS:=iz e;have YL:=iz i;refine(eA e a (fr::frs) v v1 bk s l1 h1 (λp hp=>ht p (bS w _ _ _ _ h5 p (bS i _ _ _ _ h3 p hp))) hc).and λs1 g1=>?_
  refine(eA i (a+ax e) (fr::frs) v1 v2 bk s1 l2 h3 (λp hp=>ht p (bS w _ _ _ _ h5 p hp)) (hc.mono g1.1)).and λs2 g2=>?_
  refine(lI (K:=[a+ax e-1,a+ax e+ax i-1,a+ax e+ax i+ax w-1]) (by omega) ((eA w (a+ax e+ax i) (fr::frs) v2 v3 bk s2 l3 h5 ht ((hc.mono g1.1).mono g2.1)).mono λs3 g3=>⟨g3.1,Kf (g3.1.some (g2.1.some g1.2 (by omega)) (by omega)) (g3.1.some g2.2 (by omega)) g3.2⟩) hn (by simp[af]) rfl (by simp[af])).mono λs4 g4=>⟨?_,((hc.mono g1.1).mono g2.1).mono g4.1⟩
  rw[show a+(ax e+ax i+ax w+1)=a+ax e+ax i+ax w+1 by omega];exact(g1.1.trans g2.1 (by omega) (by omega)).trans g4.1 (by omega) (by omega)
 | .print p e,a,fr,frs,v,r,bk,s,ly,hv,ht,hc=>by
  rw[gL]at ly;rw[jI,da];rw[dC]at hv
  obtain⟨v1,h1,h2⟩:=aF hv;cases h2;exact(lI (K:=[]) (by omega) ((eA e a (fr::frs) v v1 bk s ly.1 h1 ht hc).mono λs2 g2=>⟨g2.1,λn hn=>by cases hn⟩) ly.2 (by simp[af]) rfl (by simp[af])).mono λs3 g3=>⟨g3.1,hc.mono g3.1⟩
 | .ret p e,a,fr,frs,v,r,bk,s,ly,hv,ht,hc=>by
  rw[gL]at ly;rw[jI,da];rw[dC]at hv
  obtain⟨v1,h1,h2⟩:=aF hv;cases h2;exact(lI (K:=[a+ax e-1]) (by omega) ((eA e a (fr::frs) v v1 bk s ly.1 h1 ht hc).mono λs2 g2=>⟨g2.1,rU g2.2⟩) ly.2 (by simp[af]) rfl (by simp[af])).mono λs3 g3=>⟨g3.1,hc.mono g3.1⟩
 | .u9 p e,a,fr,frs,v,r,bk,s,ly,hv,ht,hc=>by
  rw[gL]at ly;rw[jI,da];rw[dC]at hv
  obtain⟨v1,h1,h2⟩:=aF hv;cases h2;exact(lI (K:=[]) (by omega) ((eA e a (fr::frs) v v1 bk s ly.1 h1 ht hc).mono λs2 g2=>⟨g2.1,λn hn=>by cases hn⟩) ly.2 (by simp[af]) rfl (by simp[af])).mono λs3 g3=>⟨g3.1,hc.mono g3.1⟩
 | .if_ p e bp b none,a,fr,frs,v,r,bk,s,ly,hv,ht,hc=>by
  rw[gL]at ly;rw[jI,da];rw[dC]at hv
  obtain⟨l1,l2,hb,hn⟩:=ly;obtain⟨v1,h1,h2⟩:=aF hv;obtain⟨q,h3,h4⟩:=aF h2;cases h4;refine(eA e a (fr::frs) v v1 bk s l1 h1 (λp hp=>ht p (eK b _ _ _ _ _ h3 p hp)) hc).and λs1 g1=>?_
  refine(mA b (a+ax e) _ (fr::frs) v1 q bk s1 l2 h3 ht ((hc.mono g1.1).new _ _)).and λs2 g2=>?_
  refine(rG hn (by simp[af]) rfl (by simp[af])).mono λs3 g3=>⟨?_,((hc.mono g1.1).mono g2.1).mono g3.1⟩
  rw[show a+(ax e+aJ b+2)=a+ax e+aJ b+1+1 by omega];exact((g1.1.trans g2.1 (by omega) (by omega)).mono (nR _) (by omega:a+ax e+aJ b<=a+ax e+aJ b+1)).trans g3.1 (by omega) (by omega)
 | .if_ p e bp b (some (cp,c)),a,fr,frs,v,r,bk,s,ly,hv,ht,hc=>by
  rw[gL]at ly;rw[jI,da];rw[dC]at hv
  obtain⟨l1,l2,hb,l3,aD,hn⟩:=ly;obtain⟨v1,h1,h2⟩:=aF hv;obtain⟨q,h3,h4⟩:=aF h2;obtain⟨q2,h5,h6⟩:=aF h4;cases h6;refine(eA e a (fr::frs) v v1 bk s l1 h1 (λp hp=>ht p (eK c _ _ _ _ _ h5 p (eK b _ _ _ _ _ h3 p hp))) hc).and λs1 g1=>?_
  refine(mA b (a+ax e) _ (fr::frs) v1 q bk s1 l2 h3 (λp hp=>ht p (eK c _ _ _ _ _ h5 p hp)) ((hc.mono g1.1).new _ _)).and λs2 g2=>?_
  refine(mA c (a+ax e+aJ b+1) _ (fr::frs) q.2 q2 bk s2 l3 h5 ht (((hc.mono g1.1).mono g2.1).new _ _)).and λs3 g3=>?_
  refine(rG hn (by simp[af]) rfl (by simp[af])).mono λs4 g4=>⟨?_,(((hc.mono g1.1).mono g2.1).mono g3.1).mono g4.1⟩
  rw[show a+(ax e+aJ b+aJ c+3)=a+ax e+aJ b+1+aJ c+1+1 by omega];exact((((g1.1.trans g2.1 (by omega) (by omega)).mono (nR _) (by omega:a+ax e+aJ b<=a+ax e+aJ b+1)).trans g3.1 (by omega) (by omega)).mono (nR _) (by omega:a+ax e+aJ b+1+aJ c<=a+ax e+aJ b+1+aJ c+1)).trans g4.1 (by omega) (by omega)
 | .while_ p e bp b,a,fr,frs,v,r,bk,s,ly,hv,ht,hc=>by
  rw[gL]at ly;rw[jI,da];rw[dC]at hv
  obtain⟨l1,l2,hb,hn⟩:=ly;obtain⟨v1,h1,h2⟩:=aF hv;obtain⟨q,h3,h4⟩:=aF h2;cases h4;refine(eA e a (fr::frs) v v1 bk s l1 h1 (λp hp=>ht p (eK b _ _ _ _ _ h3 p hp)) hc).and λs1 g1=>?_
  refine(mA b (a+ax e) _ (fr::frs) v1 q bk s1 l2 h3 ht ((hc.mono g1.1).new _ _)).and λs2 g2=>?_
  refine(rG hn (by simp[af]) rfl (by simp[af])).mono λs3 g3=>⟨?_,((hc.mono g1.1).mono g2.1).mono g3.1⟩
  rw[show a+(ax e+aJ b+2)=a+ax e+aJ b+1+1 by omega];exact((g1.1.trans g2.1 (by omega) (by omega)).mono (nR _) (by omega:a+ax e+aJ b<=a+ax e+aJ b+1)).trans g3.1 (by omega) (by omega)
end
end
theorem IZ{pg:Pg}(hP:PgOk pg){tq:Nat->Nat}{l:List Sm}(ly:iR pg.ns l 0){v:Vg}(hv:jC l=.ok v)(ht:∀p∈v.out,tq p.1=p.2):vP (Ic pg tq l) λ_=>True:=by
 unfold jC at hv;obtain⟨r,h1,h2⟩:=aF hv;cases h2;unfold Ic;exact(mA hP l 0 _ [] _ r [] _ ly h1 ht λx n hx=>by cases hx).mono λs _=>trivial
end Ty
end
namespace Ty
def jD(d:List (Nat×Nat)):Nat->Option Int:=λk=>(d.reverse.find? λp=>p.1==k).map λp=>((p.2:Nat):Int)
theorem FC(d:List (Nat×Nat))(p:Nat×Nat):jD (d++[p])=λk=>if k=p.1 then some ((p.2:Nat):Int)else jD d k:=by
 funext k;unfold jD;rw[List.reverse_append,List.reverse_singleton,List.singleton_append,List.find?_cons];by_cases h:p.1=k
 ·rw[if_pos h.symm,beq_iff_eq.2 h];rfl
 ·rw[if_neg λe=>h e.symm,beq_eq_false_iff_ne.2 h]
theorem qy{d:List (Nat×Nat)}(hn: (d.map Prod.fst).Nodup){p:Nat×Nat}(hp:p∈d):jD d p.1=some ((p.2:Nat):Int):=by
 unfold jD;cases hq:d.reverse.find? λq=>q.1==p.1 with
 |none=>
  have:=List.find?_eq_none.1 hq p (List.mem_reverse.2 hp);simp at this
 |some q=>
  have h1:=List.find?_some hq;have h2:=List.mem_reverse.1 (List.mem_of_find?_eq_some hq);have h3:q.1=p.1:=beq_iff_eq.1 h1;have h4:q=p:=by
   have Y4:d.Pairwise λx y=>x.1≠y.1:=List.pairwise_map.1 hn
   exact Classical.byContradiction λbT=>by
    exact absurd h3 (by
     rcases List.mem_iff_getElem.1 h2 with⟨i,hi,rfl⟩;rcases List.mem_iff_getElem.1 hp with⟨j,hj,rfl⟩;rcases Nat.lt_trichotomy i j with h|h|h
     ·exact List.pairwise_iff_getElem.1 Y4 i j hi hj h
     ·subst h;exact absurd rfl bT
     ·exact λe=>List.pairwise_iff_getElem.1 Y4 j i hj hi h e.symm)
  rw[h4];rfl
theorem M8{d:List (Nat×Nat)}(h:∀p∈d,p.2<=100000)(n:Nat):0<=(jD d n).getD 0/\(jD d n).getD 0<=100000:=by
 unfold jD;cases hq:d.reverse.find? λq=>q.1==n with
 |none=>simp
 |some q=>
  have h2:=h q (List.mem_reverse.1 (List.mem_of_find?_eq_some hq));simp only[Option.map_some,Option.getD_some];omega
theorem oG{l:List Sm}{v:Vg}(h:jC l=.ok v): (v.out.map Prod.fst).Nodup:=by
 have B:Brg (aJ l+1) [⟨[],aJ l,-1⟩] [] ⟨[],λ_=>none,λ_=>false⟩ ⟨[],[]⟩ 0 (aJ l):=
  ⟨rfl,by simp,by simp,by simp,by simp,rfl,by simp,by simp,by simp⟩
 have T:=gH l 0 (aJ l) _ _ _ _ _ B (by omega) (by omega);rcases T with⟨f,e1,e2⟩|⟨BO,v',yv,s',e1,e2,g,B',_⟩
 ·unfold jC at h;rw[e1]at h;cases h
 ·unfold jC at h;rw[e1]at h
  cases h;obtain⟨k,h1,h2,h3⟩:=g.ext;simp only[List.nil_append]at h1;rw[g.out,h1];exact h3
theorem PS{l:List Sm}{v:Vg}(h:jC l=.ok v):∀p∈v.out,p.1<aJ l+1/\p.2<aJ l+1:=by
 have B:Brg (aJ l+1) [⟨[],aJ l,-1⟩] [] ⟨[],λ_=>none,λ_=>false⟩ ⟨[],[]⟩ 0 (aJ l):=
  ⟨rfl,by simp,by simp,by simp,by simp,rfl,by simp,by simp,by simp⟩
 have T:=gH l 0 (aJ l) _ _ _ _ _ B (by omega) (by omega);unfold jC at h;rcases T with⟨f,e1,e2⟩|⟨BO,v',yv,s',e1,e2,g,B',_⟩
 ·rw[e1]at h;cases h
 ·rw[e1]at h
  cases h;obtain⟨k,h1,h2,h3⟩:=g.ext;simp only[List.nil_append]at h1;rw[g.out,h1];intro p hp;have:=h2 p hp;omega
end Ty
namespace Ty
def ig{α:Type}(P:Ft->Prop)(m:Except Ft α):Prop:=∀f,m=.error f->P f
section
variable {P:Ft->Prop} {α β:Type}
theorem ig.ok(a:α):ig P (.ok a):=λf h=>by cases h
theorem ig.and{m:Except Ft α}{k:α->Except Ft β}(h:ig P m)(g:∀a,ig P (k a)):ig P (aN m k):=by
 cases m with
 |error f=>exact λf' e=>by cases e;exact h f rfl
 |ok a=>exact g a
theorem ig.err{f:Ft}(h:P f):ig (α:=α) P (.error f):=λf' e=>by cases e;exact h
theorem ig.ite{c:Prop} [Decidable c]{m k:Except Ft α}(h:ig P m)(g:ig P k):ig P (if c then m else k):=by
 by_cases hc:c
 ·rw[if_pos hc];exact h
 ·rw[if_neg hc];exact g
end
abbrev O1(f:Ft):Prop:=f.1≠0
abbrev LA(f:Ft):Prop:=f=stuck\/f.1≠0
theorem Ei{p n:Nat}{x:BA}{set:Bool}{frs:List Frm}{s:Vg}:ig O1 (kF p x n set frs s):=by
 unfold kF;split
 ·exact .err (by show(5:Nat)≠0;decide)
 ·exact .ok _
mutual
theorem cE:∀(e:Ex)(a:Nat)(frs:List Frm)(s:Vg),ig O1 (bP e a frs s)
 | .num _ _,a,frs,s=>by rw[bP];exact .ok _
 | .text _ _,a,frs,s=>by rw[bP];exact .ok _
 | .bool _ _,a,frs,s=>by rw[bP];exact .ok _
 | .null _,a,frs,s=>by rw[bP];exact .ok _
 | .var p x,a,frs,s=>by rw[bP];exact Ei
 | .fn _ ps _ _ body,a,frs,s=>by rw[bP];exact(iV body _ _ _ _).and λ_=>.ok _
 | .call _ e l,a,frs,s=>by rw[bP];exact(cE e _ _ _).and λ_=>qY l _ _ _
 | .get _ e _,a,frs,s=>by rw[bP];exact cE e _ _ _
 | .one _ _ e,a,frs,s=>by rw[bP];exact cE e _ _ _
 | .asX _ e _,a,frs,s=>by rw[bP];exact cE e _ _ _
 | .atX _ e i,a,frs,s=>by rw[bP];exact(cE e _ _ _).and λ_=>cE i _ _ _
 | .two _ _ e i,a,frs,s=>by rw[bP];exact(cE e _ _ _).and λ_=>cE i _ _ _
 | .obj _ l,a,frs,s=>by rw[bP];exact xt l _ _ _
 | .arr _ l,a,frs,s=>by rw[bP];exact qY l _ _ _
theorem qY:∀(l:List Ex)(a:Nat)(frs:List Frm)(s:Vg),ig O1 (iP l a frs s)
 |[],_,_,s=>by rw[iP];exact .ok _
 |e::l,a,frs,s=>by rw[iP];exact(cE e _ _ _).and λ_=>qY l _ _ _
theorem xt:∀(l:List (Nat×BA×Ex))(a:Nat)(frs:List Frm)(s:Vg),ig O1 (jv l a frs s)
 |[],_,_,s=>by rw[jv];exact .ok _
 |(_,_,e)::l,a,frs,s=>by rw[jv];exact(cE e _ _ _).and λ_=>xt l _ _ _
theorem iV:∀(l:List Sm)(a:Nat)(fr:Frm)(frs:List Frm)(s:Vg),ig O1 (fw l a fr frs s)
 |[],_,_,_,s=>by rw[fw];exact .ok _
 |e::l,a,fr,frs,s=>by rw[fw];exact(KK e _ _ _ _).and λ_=>iV l _ _ _ _
theorem KK:∀(e:Sm)(a:Nat)(fr:Frm)(frs:List Frm)(s:Vg),ig O1 (dC e a fr frs s)
 | .jR p x _ e,a,fr,frs,s=>by
  rw[dC];split
  ·exact .err (by show(6:Nat)≠0;decide)
  ·split
   ·exact(cE e _ _ _).and λ_=>.ok _
   ·exact(cE e _ _ _).and λ_=>.ok _
 | .set p x e,a,fr,frs,s=>by rw[dC];exact Ei.and λ_=>(cE e _ _ _).and λ_=>.ok _
 | .put _ e _ v,a,fr,frs,s=>by rw[dC];exact(cE e _ _ _).and λ_=>(cE v _ _ _).and λ_=>.ok _
 | .lay _ e i v,a,fr,frs,s=>by rw[dC];exact(cE e _ _ _).and λ_=>(cE i _ _ _).and λ_=>(cE v _ _ _).and λ_=>.ok _
 | .print _ e,a,fr,frs,s=>by rw[dC];exact(cE e _ _ _).and λ_=>.ok _
 | .ret _ e,a,fr,frs,s=>by rw[dC];exact(cE e _ _ _).and λ_=>.ok _
 | .u9 _ e,a,fr,frs,s=>by rw[dC];exact(cE e _ _ _).and λ_=>.ok _
 | .if_ _ e _ b none,a,fr,frs,s=>by rw[dC];exact(cE e _ _ _).and λ_=>(iV b _ _ _ _).and λ_=>.ok _
 | .while_ _ e _ b,a,fr,frs,s=>by rw[dC];exact(cE e _ _ _).and λ_=>(iV b _ _ _ _).and λ_=>.ok _
 | .if_ _ e _ b (some (_,c)),a,fr,frs,s=>by rw[dC];exact(cE e _ _ _).and λ_=>(iV b _ _ _ _).and λ_=>(iV c _ _ _ _).and λ_=>.ok _
end
theorem A5{l:List Sm}{f:Ft}(h:jC l=.error f):f.1≠0:=((iV l _ _ _ _).and λ_=>.ok _:ig O1 (jC l)) f h
section
variable {pg:Pg} {tq:Nat->Nat} {s:Ck} {n:Nat} {x:Nd} {bk:List (Option Tr)}
theorem Ec{p:Nat}{o:Option Tr}:ig LA (AA p o):=by
 cases o with
 |none=>exact .err (.inr (by show(9:Nat)≠0;decide))
 |some t=>exact .ok _
theorem vv{b:Bool}{e p:Nat}(h:e≠0):ig LA (ib b e p s):=by
 unfold ib;split
 ·exact .ok _
 ·exact .err (.inr h)
theorem Pa:ig LA (fD pg tq s n x):=by
 unfold fD lQ;repeat' apply ig.ite
 all_goals first|exact .ok _|exact .err (.inl rfl)|exact Ec|(split<;>first|exact .ok _|exact .err (.inl rfl))
theorem OP:ig LA (im pg tq bk n x s):=by
 unfold im o0;repeat' split
 all_goals first|exact .ok _|exact .err (.inl rfl)|exact .err (.inr (by show(4:Nat)≠0;decide))|exact vv (by decide)|exact(vv (by decide)).and λ_=>.ok _|exact Ec.and λ_=>vv (by decide)
theorem dV:ig LA (iW pg tq n bk s):=by
 unfold iW;split
 ·unfold yR;refine Pa.and λt=>?_
  split
  ·exact .ok _
  ·exact .err (.inr (by show(2:Nat)≠0;decide))
 ·exact OP
end
section
variable {pg:Pg} {tq:Nat->Nat}
mutual
theorem dw:∀(e:Ex)(a:Nat)(bk:List (Option Tr))(s:Ck),ig LA (eT pg tq e a bk s)
 | .num _ _,a,bk,s=>by rw[eT];exact dV
 | .text _ _,a,bk,s=>by rw[eT];exact dV
 | .bool _ _,a,bk,s=>by rw[eT];exact dV
 | .null _,a,bk,s=>by rw[eT];exact dV
 | .var _ _,a,bk,s=>by rw[eT];exact dV
 | .fn _ ps _ _ body,a,bk,s=>by rw[eT];exact(jX body _ _ _).and λ_=>dV
 | .call _ e l,a,bk,s=>by rw[eT];exact(dw e _ _ _).and λ_=>(vg l _ _ _).and λ_=>dV
 | .get _ e _,a,bk,s=>by rw[eT];exact(dw e _ _ _).and λ_=>dV
 | .one _ _ e,a,bk,s=>by rw[eT];exact(dw e _ _ _).and λ_=>dV
 | .asX _ e _,a,bk,s=>by rw[eT];exact(dw e _ _ _).and λ_=>dV
 | .atX _ e i,a,bk,s=>by rw[eT];exact(dw e _ _ _).and λ_=>(dw i _ _ _).and λ_=>dV
 | .two _ _ e i,a,bk,s=>by rw[eT];exact(dw e _ _ _).and λ_=>(dw i _ _ _).and λ_=>dV
 | .obj _ l,a,bk,s=>by rw[eT];exact(BE l _ _ _).and λ_=>dV
 | .arr _ l,a,bk,s=>by rw[eT];exact(vg l _ _ _).and λ_=>dV
theorem vg:∀(l:List Ex)(a:Nat)(bk:List (Option Tr))(s:Ck),ig LA (nX pg tq l a bk s)
 |[],_,_,s=>by rw[nX];exact .ok _
 |e::l,a,bk,s=>by rw[nX];exact(dw e _ _ _).and λ_=>vg l _ _ _
theorem BE:∀(l:List (Nat×BA×Ex))(a:Nat)(bk:List (Option Tr))(s:Ck),ig LA (oN pg tq l a bk s)
 |[],_,_,s=>by rw[oN];exact .ok _
 |(_,_,e)::l,a,bk,s=>by rw[oN];exact((dw e _ _ _).and λ_=>dV).and λ_=>BE l _ _ _
theorem jX:∀(l:List Sm)(a:Nat)(bk:List (Option Tr))(s:Ck),ig LA (j4 pg tq l a bk s)
 |[],_,_,s=>by rw[j4];exact .ok _
 |e::l,a,bk,s=>by rw[j4];exact(Ms e _ _ _).and λ_=>jX l _ _ _
theorem Ms:∀(e:Sm)(a:Nat)(bk:List (Option Tr))(s:Ck),ig LA (jI pg tq e a bk s)
 | .jR p x _ e,a,bk,s=>by rw[jI];exact(dw e _ _ _).and λ_=>dV
 | .set p x e,a,bk,s=>by rw[jI];exact(dw e _ _ _).and λ_=>dV
 | .print _ e,a,bk,s=>by rw[jI];exact(dw e _ _ _).and λ_=>dV
 | .ret _ e,a,bk,s=>by rw[jI];exact(dw e _ _ _).and λ_=>dV
 | .u9 _ e,a,bk,s=>by rw[jI];exact(dw e _ _ _).and λ_=>dV
 | .put _ e _ v,a,bk,s=>by rw[jI];exact(dw e _ _ _).and λ_=>(dw v _ _ _).and λ_=>dV
 | .lay _ e i v,a,bk,s=>by rw[jI];exact(dw e _ _ _).and λ_=>(dw i _ _ _).and λ_=>(dw v _ _ _).and λ_=>dV
 | .if_ _ e _ b none,a,bk,s=>by rw[jI];exact(dw e _ _ _).and λ_=>(jX b _ _ _).and λ_=>dV
 | .while_ _ e _ b,a,bk,s=>by rw[jI];exact(dw e _ _ _).and λ_=>(jX b _ _ _).and λ_=>dV
 | .if_ _ e _ b (some (_,c)),a,bk,s=>by rw[jI];exact(dw e _ _ _).and λ_=>(jX b _ _ _).and λ_=>(jX c _ _ _).and λ_=>dV
end
theorem MH{l:List Sm}{f:Ft}(hn:Ic pg tq l≠.error stuck)(h:Ic pg tq l=.error f):f.1≠0:=by
 rcases jX (pg:=pg) (tq:=tq) l 0 [] ⟨λ_=>none,λ_=>none⟩ f h with rfl|h1
 ·exact absurd h hn
 ·exact h1
end
end Ty
namespace Ty
def qN(v:Vg)(n:Nat):Nat:=((jD v.out n).getD 0).toNat
theorem wL{d e:List (Nat×Nat)}(h:d.Perm e)(hn: (e.map Prod.fst).Nodup):jD d=jD e:=by
 funext k;have hd: (d.map Prod.fst).Nodup:=((h.map Prod.fst).nodup_iff).2 hn;cases hk:e.find? λp=>p.1==k with
 |some p=>
  have h1:p.1=k:=beq_iff_eq.1 (List.find?_some (p:=λp:Nat×Nat=>p.1==k) hk);have h2:=List.mem_of_find?_eq_some hk;rw[<-h1,qy hd (h.mem_iff.2 h2),qy hn h2]
 |none=>
  have h3:=List.find?_eq_none.1 hk;have n1:∀l:List (Nat×Nat),(∀p∈l,p∈e)->jD l k=none:=λl hl=>by
   unfold jD;rw[List.find?_eq_none.2 λp hp=>h3 p (hl p (List.mem_reverse.1 hp))];rfl
  rw[n1 d λp hp=>h.mem_iff.1 hp,n1 e λp hp=>hp]
def xi(s:BA)(l:List Sm):Except Ft (Pg×Vg×Ck):=match parse s with
 | .error f=>.error f
 | .ok pg=>match jC l with
  | .error f=>.error f
  | .ok v=>match Ic pg (qN v) l with
   | .error f=>.error f
   | .ok c=>.ok (pg,v,c)
theorem yu{s:BA}{l:List Sm}{pg:Pg}{v:Vg}{c:Ck}:xi s l=.ok (pg,v,c)↔parse s=.ok pg/\jC l=.ok v/\Ic pg (qN v) l=.ok c:=by
 unfold xi;constructor
 ·intro h;split at h
  ·cases h
  ·rename_i adh h1;split at h
   ·cases h
   ·rename_i v' h2;split at h
    ·cases h
    ·rename_i c' h3;cases h;exact⟨h1,h2,h3⟩
 ·rintro⟨h1,h2,h3⟩
  rw[h1];dsimp only;rw[h2];dsimp only;rw[h3]
theorem NT{s:BA}{l:List Sm}{f:Ft}(h:parse s=.error f\/∃pg:Pg,parse s=.ok pg/\(jC l=.error f\/∃v d,jC l=.ok v/\d.Perm v.out/\d.Pairwise (λx y=>x.1<=y.1)/\Ic pg (λn=>((jD d n).getD 0).toNat) l=.error f)):xi s l=.error f:=by
 unfold xi;rcases h with h|⟨pg,h1,h|⟨v,d,h2,h3,_,h4⟩⟩
 ·rw[h]
 ·rw[h1];dsimp only;rw[h]
 ·rw[h1];dsimp only;rw[h2];dsimp only;rw[wL h3 (oG h2)]at h4
  rw[show Ic pg (qN v) l=.error f from h4]
theorem EI{s:BA}{l:List Sm}{f:Ft}(hl:∀pg,parse s=.ok pg->eu 0 l []=(pg.ns,pg.main))(h:xi s l=.error f):f.1≠0:=by
 unfold xi at h;split at h
 ·rename_i f' h1;cases h;exact lF h1
 ·rename_i pg h1;split at h
  ·rename_i f' h2;cases h;exact A5 h2
  ·rename_i v h2;split at h
   ·rename_i f' h3;cases h;refine MH (tq:=qN v) ?_ h3;exact(IZ (lN h1) (tq:=qN v) (o8 (hl pg h1)).1 h2 λp hp=>by
     unfold qN;rw[qy (oG h2) hp];rfl).1
   ·cases h
end Ty
end Go.Proofs.YtdlbhiaceheffabGreatDoor
