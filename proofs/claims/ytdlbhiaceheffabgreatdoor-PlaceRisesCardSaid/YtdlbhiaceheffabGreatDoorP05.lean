/- Plain: what holds of each node that is parsed: its text, its number, its type. -/
import Derived.Lib.ItoaLen
import Derived.Test.YtdlbhiaceheffabGreatDoorP04
set_option linter.all false
namespace Go.Proofs.YtdlbhiaceheffabGreatDoor
open Go Go.RowKit Ty Tok
section
namespace Ty
open Tok (Tk)
structure LitOk(x:BA):Prop where
 size:x.size≤30
 plain:∀d∈x.data.toList,cY d=true
structure TkOk(t:Tk):Prop where
 size:t.text.size≤30
 name:t.kind=1→NameOk t.text
 num:t.kind=3→NumOk t.text
 lit:t.kind=4→LitOk t.text
theorem zc: (ByteArray.mk #[]).size≤30:=by decide
theorem zA(s:BA)(k:Nat)(aF: (Tok.next s k).2.2=true): (Tok.next s k).1.text.size≤30∧((Tok.next s k).1.kind=4→LitOk (Tok.next s k).1.text):=by
 unfold Tok.next at aF⊢;dsimp only at aF⊢;split
 ·rename_i h;rw[if_pos h]at aF;have:=of_decide_eq_true aF;have:=gg dV s k;exact⟨by simp only[ByteArray.size_extract];omega,λh=>by dsimp only at h;split at h<;>cases h⟩
 ·rename_i h;rw[if_neg h]at aF;split
  ·rename_i h;rw[if_pos h]at aF;simp only[Bool.and_eq_true,decide_eq_true_eq]at aF;have:=gg Tok.isDigit s k;exact⟨by simp only[ByteArray.size_extract];omega,λh=>(by cases h)⟩
  ·rename_i h;rw[if_neg h]at aF;split
   ·rename_i h;rw[if_pos h]at aF;simp only[Bool.and_eq_true,decide_eq_true_eq]at aF;have:=gg cY s (k+1);have hz: (s.extract (k+1) (Tok.stop cY s (k+1))).size≤30:=by simp only[ByteArray.size_extract];omega
    refine⟨hz,λ_=>⟨hz,λd hd=>?_⟩⟩;rw[jV _ _ _ (by omega)]at hd
    exact jm _ _ _ hd
   ·split
    ·exact⟨by simp only[ByteArray.size_extract];omega,λh=>(by cases h)⟩
    ·exact⟨by simp only[ByteArray.size_extract];omega,λh=>(by cases h)⟩
theorem mD(P:Tk→Prop)(s:BA)(hn:∀k,k<s.size→(Tok.next s k).2.2=true→P (Tok.next s k).1)(he:P ⟨6,⟨#[]⟩,s.size⟩):∀(f k:Nat)(o l:List Tk),dc s f k o=.ok l→(∀t∈o,P t)→∀t∈l,P t
 |0,k,o,l,h,ho=>by cases h;exact ho
 |f+1,k,o,l,h,ho=>by
  rw[dc]at h
  split at h
  ·rename_i hk;split at h
   ·exact mD P s hn he f _ _ _ h ho
   ·split at h
    ·cases h
    ·rename_i aF;split at h
     ·cases h
     ·refine mD P s hn he f _ _ _ h λt ht=>?_
      rw[List.mem_append]at ht
      rcases ht with ht|ht
      ·exact ho t ht
      ·simp at ht;subst ht;exact hn k hk (by simpa using aF)
  ·cases h;intro t ht;rw[List.mem_append]at ht
   rcases ht with ht|ht
   ·exact ho t ht
   ·simp at ht;subst ht;exact he
theorem Is{P:Tk→Prop}{s:BA}{l:List Tk}(h:Tok.scan s=.ok l)(hn:∀k,k<s.size→(Tok.next s k).2.2=true→P (Tok.next s k).1)(he:P ⟨6,⟨#[]⟩,s.size⟩):∀t∈l,P t:=by
 unfold Tok.scan at h;split at h
 ·cases h
 ·exact mD P s hn he _ _ _ _ h λt ht=>by simp at ht
theorem L7{s:BA}{l:List Tk}(h:Tok.scan s=.ok l):∀t∈l,TkOk t:=
 Is h (λk hk aF=>⟨(zA s k aF).1,Hg s k hk aF,zN s k hk aF,(zA s k aF).2⟩)
  ⟨zc,λh=>(by cases h),λh=>(by cases h),λh=>(by cases h)⟩
theorem yD{ad:List Tk}(h:∀t∈ad,TkOk t)(p:Nat):TkOk (cur ad p):=by
 unfold cur;cases e:ad[p]? with
 |none=>exact⟨zc,λh=>(by cases h),λh=>(by cases h),λh=>(by cases h)⟩
 |some t=>exact h t (List.mem_of_getElem? e)
structure TyIn(t:Nat)(ts:List Ty):Prop where
 lt:t<ts.length
 dw:dw (den ts t)≤ts.length
theorem TyIn.ext{t:Nat}{a b:List Ty}(h:TyIn t a)(he:Ext a b):TyIn t b:=
 ⟨nL h.lt he.len,by rw[he.den h.lt];exact nT h.dw he.len⟩
def AJ(t:Int)(ts:List Ty):Prop:=t= -1∨∃n:Nat,t=(n:Int)∧TyIn n ts
theorem AJ.ext{t:Int}{a b:List Ty}(h:AJ t a)(he:Ext a b):AJ t b:=by
 rcases h with h|⟨n,h,k⟩
 ·exact .inl h
 ·exact .inr ⟨n,h,k.ext he⟩
def Od(n:Nat):Prop:=∃x:BA,NumOk x∧value x=n
def nV:List (List UInt8):=[[61,61],[60],[43],[45],[42]]
structure NdOk(nd:Nd)(ts:List Ty):Prop where
 size:nd.text.size≤30
 num:nd.kind=1→Od nd.n
 small:nd.kind≠1→nd.n≤1
 lit:nd.kind=2→LitOk nd.text
 name:nd.kind=5∨nd.kind=8∨(15≤nd.kind∧nd.kind≤19)→NameOk nd.text
 two:nd.kind=12→nd.text.data.toList∈nV
 one:nd.kind=13→nd.text.data.toList∈gW
 ty:AJ nd.ty ts
 Ni:nd.kind=14→0≤nd.ty
theorem NdOk.ext{nd:Nd}{a b:List Ty}(h:NdOk nd a)(he:Ext a b):NdOk nd b:={h with ty:=h.ty.ext he}
structure Inv(s:St):Prop where
 wf:Wf s.ts
 nm:Nm s.ts
 ns:∀nd∈s.ns,NdOk nd s.ts
def IK{α:Type}(t0:List Ty)(m:M α)(P:α→List Ty→Prop):Prop:=∀s a s',Ext t0 s.ts→Inv s→m s=.ok (a,s')→Inv s'∧Ext s.ts s'.ts∧P a s'.ts
section
variable {α β:Type} {t0:List Ty} {ad:List Tk}
theorem IK.ar{m:M α}{k:α→M β}{P:α→List Ty→Prop}{Q:β→List Ty→Prop}(h:IK t0 m P)(g:∀a t1,Ext t0 t1→P a t1→IK t1 (k a) Q):IK t0 (Ty.ar m k) Q:=λs b s' h0 hi e=>by
 obtain⟨a,s1,e1,e2⟩:=au e;obtain⟨h1,h2,h3⟩:=h _ _ _ h0 hi e1;obtain⟨g1,g2,g3⟩:=g a s1.ts (h0.trans h2) h3 s1 b s' (Ext.refl _) h1 e2;exact⟨g1,h2.trans g2,g3⟩
theorem IK.ret(a:α){P:α→List Ty→Prop}(h:∀t,Ext t0 t→P a t):IK t0 (ret a) P:=λs b s' h0 hi e=>by cases e;exact⟨hi,Ext.refl _,h _ h0⟩
theorem IK.fail(n:Nat)(P:α→List Ty→Prop):IK t0 (fail (α:=α) ad n) P:=λs b s' _ _ e=>by cases e
theorem IK.step:IK t0 step λ_ _=>True:=λs b s' h0 hi e=>by cases e;exact⟨⟨hi.wf,hi.nm,hi.ns⟩,Ext.refl _,trivial⟩
theorem IK.take(x:List UInt8):IK t0 (take ad x) λ_ _=>True:=λs b s' h0 hi e=>by
 unfold Ty.take at e;split at e<;>cases e<;>exact⟨⟨hi.wf,hi.nm,hi.ns⟩,Ext.refl _,trivial⟩
theorem IK.need(x:List UInt8):IK t0 (need ad x) λ_ _=>True:=λs b s' h0 hi e=>by
 unfold Ty.need at e;split at e<;>cases e;exact⟨⟨hi.wf,hi.nm,hi.ns⟩,Ext.refl _,trivial⟩
theorem IK.name(ht:∀t∈ad,TkOk t)(met:List BA):IK t0 (name ad met) λx _=>NameOk x:=λs b s' h0 hi e=>by
 unfold Ty.name at e;split at e
 ·cases e
 ·rename_i hk;split at e<;>cases e
  exact⟨⟨hi.wf,hi.nm,hi.ns⟩,Ext.refl _,(yD ht _).name (by omega)⟩
theorem IK.look{k:St→M α}{P:α→List Ty→Prop}(h:∀s,IK t0 (k s) P):IK t0 (Ty.look k) P:=λs a s' h0 hi x=>h s s a s' h0 hi x
theorem IK.ite{p:Prop} [Decidable p]{m n:M α}{P:α→List Ty→Prop}(h:p→IK t0 m P)(g:¬p→IK t0 n P):IK t0 (if p then m else n) P:=by
 split
 ·exact h ‹_›
 ·exact g ‹_›
theorem IK.mono{m:M α}{P Q:α→List Ty→Prop}(h:IK t0 m P)(abF:∀a t,P a t→Q a t):IK t0 m Q:=λs a s' h0 hi e=>by
 obtain⟨h1,h2,h3⟩:=h s a s' h0 hi e;exact⟨h1,h2,abF _ _ h3⟩
theorem IK.up{t1:List Ty}{m:M α}{P:α→List Ty→Prop}(h:IK t0 m P)(he:Ext t0 t1):IK t1 m P:=λs a s' h0 hi e=>h s a s' (he.trans h0) hi e
theorem IK.addNode(nd:Nd)(h:∀t,Ext t0 t→NdOk nd t):IK t0 (addNode nd) λ_ _=>True:=λs b s' h0 hi e=>by
 cases e;refine⟨⟨hi.wf,hi.nm,λx hx=>?_⟩,Ext.refl _,trivial⟩;rw[List.mem_append]at hx
 rcases hx with hx|hx
 ·exact hi.ns x hx
 ·simp at hx;subst hx;exact h _ h0
theorem IK.gG(a:Nat):IK t0 (gG a) λ_ _=>True:=λs b s' h0 hi e=>by
 cases e;exact⟨⟨hi.wf,hi.nm,λx hx=>hi.ns x (List.mem_of_mem_take hx)⟩,Ext.refl _,trivial⟩
theorem IK.sy(ht:∀t∈ad,TkOk t)(hL:ad.length≤1001)(r:Nat):IK t0 (sy ad r) λn t=>TyIn n t:=λs n s' h0 hi e=>by
 obtain⟨h1,h2,h3⟩:=qF ad hL r _ _ _ hi.wf e;obtain⟨g1,g2,_⟩:=zB ad hL r _ _ _ hi.wf e;have h4:=(Lh (λt h=>(ht t h).name) r _ _ _ hi.nm e).1;refine⟨⟨h1,h4,λx hx=>?_⟩,g1,h3,by omega⟩;rw[aA.sy ad r _ _ _ e]at hx
 exact(hi.ns x hx).ext g1
theorem bX{nd:Nd}(hs:nd.text.size≤30)(Rq:nd.ty= -1)(h1:nd.kind=1→Od nd.n)(aaX:nd.kind≠1→nd.n≤1)(h2:nd.kind=2→LitOk nd.text)(h3:nd.kind=5∨nd.kind=8∨(15≤nd.kind∧nd.kind≤19)→NameOk nd.text)
  (h4:nd.kind=12→nd.text.data.toList∈nV) (h5:nd.kind=13→nd.text.data.toList∈gW) (h6:nd.kind≠14):∀t,NdOk nd t:=λt=>⟨hs,h1,aaX,h2,h3,h4,h5,.inl Rq,λh=>absurd h h6⟩
theorem IK.list{x:List UInt8}{m:List α→M α}{P:α→List Ty→Prop}{t0:List Ty}(hP:∀a t t',P a t→Ext t t'→P a t')(hm:∀t1 l,Ext t0 t1→IK t1 (m l) P):∀f l t1,Ext t0 t1→(∀a∈l,P a t1)→IK t1 (list ad x m f l) λl t=>∀a∈l,P a t
 |0,_,_,_,_=>IK.fail _ _
 |f+1,l,t1,he,hl=>(IK.take _).ar λ_ t2 e2 _=>IK.ite (λ_=>IK.ret l λt et a ha=>hP a _ _ (hl a ha) (e2.trans et)) λ_=>
   (show IK t2 _ (λ_ _=>True)from IK.ite (λ_=>IK.ret () λ_ _=>trivial) λ_=>IK.need _).ar λ_ t3 e3 _=>(hm t3 l ((he.trans e2).trans e3)).ar λn t4 e4 hn=>
    IK.list hP hm f (l++[n]) t4 (((he.trans e2).trans e3).trans e4) λa ha=>by
     rw[List.mem_append]at ha
     rcases ha with ha|ha
     ·exact hP a _ _ (hl a ha) ((e2.trans e3).trans e4)
     ·simp at ha;subst ha;exact hn
end
section
variable {ad:List Tk}
theorem IK.two{t0:List Ty}{x:BA}{a b:Nat}(hx:x.data.toList∈nV)(hs:x.size≤30):IK t0 (two x a b) λ_ _=>True:=
 IK.look λs=>IK.addNode _ λt _=>bX hs rfl (λh=>(by cases h)) (λ_=>(by simp[af])) (λh=>(by cases h)) (λh=>(by simp[af]at h)) (λ_=>hx) (λh=>(by cases h)) (by simp[af]) t
theorem xU{x:List UInt8}{p:Nat}(h:is ad x p=true): (cur ad p).text.data.toList=x:=by
 unfold is at h;simp only[Bool.and_eq_true,decide_eq_true_eq]at h;exact h.2
theorem A0{l:List (List UInt8)}{p:Nat}(h:l.any (λx=>is ad x p)=true): (cur ad p).text.data.toList∈l:=by
 obtain⟨x,hx,hi⟩:=List.any_eq_true.1 h;rw[xU hi];exact hx
theorem sB{ONE:M Nat}(ht:∀t∈ad,TkOk t){bn:List (List UInt8)}(LK:∀x∈bn,x∈nV):∀f n t0,(∀t0,IK t0 ONE λ_ _=>True)→IK t0 (cV ad ONE bn f n) λ_ _=>True
 |0,_,_,_=>IK.fail _ _
 |f+1,n,t0,h=>IK.look λs=>IK.ite (λhs=>IK.step.ar λ_ t1 _ _=>(h t1).ar λ_ t2 _ _=>(IK.two (LK _ (A0 hs)) (yD ht _).size).ar λm t3 _ _=>sB ht LK f m t3 h) (λ_=>IK.ret n λ_ _=>trivial)
theorem EN{ONE:M Nat}(ht:∀t∈ad,TkOk t){bn:List (List UInt8)}(LK:∀x∈bn,x∈nV)(h:∀t0,IK t0 ONE λ_ _=>True)(t0:List Ty):IK t0 (left ad ONE bn) λ_ _=>True:=
 (h t0).ar λn t1 _ _=>sB ht LK _ n t1 h
theorem yC{ONE:M Nat}(ht:∀t∈ad,TkOk t)(h:∀t0,IK t0 ONE λ_ _=>True)(t0:List Ty):IK t0 (qp ad ONE) λ_ _=>True:=
 EN ht (by decide) (EN ht (by decide) h) t0
theorem IE{ONE:M Nat}(ht:∀t∈ad,TkOk t)(h:∀t0,IK t0 ONE λ_ _=>True)(t0:List Ty):IK t0 (jU ad ONE) λ_ _=>True:=
 (yC ht h t0).ar λn t1 _ _=>(IK.take _).ar λ_ t2 _ _=>IK.ite (λ_=>(yC ht h t2).ar λm t3 _ _=>IK.two (by decide) (by decide)) λ_=>
  (IK.take _).ar λ_ t3 _ _=>IK.ite (λ_=>(yC ht h t3).ar λm t3 _ _=>IK.two (by decide) (by decide)) λ_=>IK.ret n λ_ _=>trivial
theorem lV{T E:M Nat}(ht:∀t∈ad,TkOk t)(hT:∀t0,IK t0 T TyIn)(hE:∀t0,IK t0 E λ_ _=>True):∀f a t0,IK t0 (behind ad T E f a) λ_ _=>True
 |0,_,_=>IK.fail _ _
 |f+1,a,t0=>IK.look λs=>(IK.take _).ar λ_ t1 _ _=>IK.ite (λ_=>(IK.list (P:=λ_ _=>True) (λ_ _ _ _ _=>trivial) (λt1 _ _=>hE t1) _ [] t1 (Ext.refl _) (λ_ _=>trivial)).ar λl t2 _ _=>(IK.addNode _ λt _=>bX zc rfl (λh=>(by cases h)) (λ_=>(by simp[af])) (λh=>(by cases h)) (λh=>(by simp[af]at h)) (λh=>(by cases h)) (λh=>(by cases h)) (by simp[af]) t).ar λm t3 _ _=>lV ht hT hE f m t3) λ_=>
   (IK.take _).ar λ_ t2 _ _=>IK.ite (λ_=>(IK.name ht []).ar λx t3 _ hx=>(IK.addNode _ λt _=>bX (nT hx.size (by omega)) rfl (λh=>(by cases h)) (λ_=>(by simp[af])) (λh=>(by cases h)) (λ_=>hx) (λh=>(by cases h)) (λh=>(by cases h)) (by simp[af]) t).ar λm t3 _ _=>lV ht hT hE f m t3) λ_=>
   (IK.take _).ar λ_ t2 _ _=>IK.ite (λ_=>(hE t2).ar λc t3 _ _=>(IK.need _).ar λ_ t4 _ _=>(IK.addNode _ λt _=>bX zc rfl (λh=>(by cases h)) (λ_=>(by simp[af])) (λh=>(by cases h)) (λh=>(by simp[af]at h)) (λh=>(by cases h)) (λh=>(by cases h)) (by simp[af]) t).ar λm t3 _ _=>lV ht hT hE f m t3) λ_=>
   (IK.take _).ar λ_ t2 _ _=>IK.ite (λ_=>(hT t2).ar λc t3 _ hc=>(IK.addNode _ λt et=>⟨zc,λh=>(by cases h),λ_=>(by simp[af]),λh=>(by cases h),λh=>(by simp[af]at h),λh=>(by cases h),λh=>(by cases h),.inr ⟨c,rfl,hc.ext et⟩,λ_=>Int.natCast_nonneg _⟩).ar λm t3 _ _=>lV ht hT hE f m t3) λ_=>IK.ret a λ_ _=>trivial
theorem ph{T:M Nat}(hT:∀t0,IK t0 T TyIn)(t0:List Ty):IK t0 (written ad T) λz t=>AJ z t:=
 (IK.take _).ar λ_ t1 _ _=>IK.ite (λ_=>(hT t1).ar λn t2 _ hn=>IK.ret _ λt et=>.inr ⟨n,rfl,hn.ext et⟩) λ_=>IK.ret _ λt _=>.inl rfl
theorem Jb{E:M Nat}(ht:∀t∈ad,TkOk t)(hE:∀t0,IK t0 E λ_ _=>True)(met:List BA)(t0:List Ty):IK t0 (ia ad E met) λ_ _=>True:=
 IK.look λ_=>(IK.name ht met).ar λx t1 _ hx=>(IK.need _).ar λ_ t2 _ _=>(hE t2).ar λa t3 _ _=>(IK.addNode _ λt _=>bX (nT hx.size (by omega)) rfl (λh=>(by cases h)) (λ_=>(by simp[af])) (λh=>(by cases h)) (λ_=>hx) (λh=>(by cases h)) (λh=>(by cases h)) (by simp[af]) t).ar λn t4 _ _=>IK.ret _ λ_ _=>trivial
theorem Fc{T:M Nat}(ht:∀t∈ad,TkOk t)(hT:∀t0,IK t0 T TyIn)(met:List BA)(t0:List Ty):IK t0 (gE ad T met) λ_ _=>True:=
 IK.look λ_=>(IK.name ht met).ar λx t1 _ hx=>(ph hT t1).ar λz t2 _ hz=>(IK.addNode _ λt et=>⟨nT hx.size (by omega),λh=>(by cases h),λ_=>(by simp[af]),λh=>(by cases h),λ_=>hx,λh=>(by cases h),λh=>(by cases h),hz.ext et,λh=>(by cases h)⟩).ar λn t4 _ _=>IK.ret _ λ_ _=>trivial
theorem Az{S:M Nat}(hS:∀t0,IK t0 S λ_ _=>True):∀f l t0,IK t0 (stmts ad S f l) λ_ _=>True
 |0,_,_=>IK.fail _ _
 |f+1,l,t0=>(IK.take _).ar λ_ t1 _ _=>IK.ite (λ_=>IK.ret l λ_ _=>trivial) λ_=>(hS t1).ar λn t2 _ _=>Az hS f _ t2
theorem qV{S:M Nat}(hS:∀t0,IK t0 S λ_ _=>True)(t0:List Ty):IK t0 (ef ad S) λ_ _=>True:=
 IK.look λ_=>(IK.need _).ar λ_ t1 _ _=>(Az hS _ _ t1).ar λl t2 _ _=>IK.addNode _ λt _=>bX zc rfl (λh=>(by cases h)) (λ_=>(by simp[af])) (λh=>(by cases h)) (λh=>(by simp[af]at h)) (λh=>(by cases h)) (λh=>(by cases h)) (by simp[af]) t
theorem yk{T S:M Nat}(ht:∀t∈ad,TkOk t)(hT:∀t0,IK t0 T TyIn)(hS:∀t0,IK t0 S λ_ _=>True)(pos:Nat)(t0:List Ty):IK t0 (cF ad T S pos) λ_ _=>True:=
 (IK.need _).ar λ_ t1 _ _=>(IK.list (P:=λ_ _=>True) (λ_ _ _ _ _=>trivial) (λt1 l _=>Fc ht hT _ t1) _ [] t1 (Ext.refl _) (λ_ _=>trivial)).ar λl t2 _ _=>(ph hT t2).ar λz t3 _ hz=>(qV hS t3).ar λa t4 e4 _=>
  IK.addNode _ λt et=>⟨zc,λh=>(by cases h),λ_=>(by simp[af]),λh=>(by cases h),λh=>(by simp[af]at h),λh=>(by cases h),λh=>(by cases h),hz.ext (e4.trans et),λh=>(by cases h)⟩
theorem Ct{T E S:M Nat}(ht:∀t∈ad,TkOk t)(hT:∀t0,IK t0 T TyIn)(hE:∀t0,IK t0 E λ_ _=>True)(hS:∀t0,IK t0 S λ_ _=>True)(t0:List Ty):IK t0 (cM ad T E S) λ_ _=>True:=by
 refine IK.look λs=>?_
 have hc:=yD ht s.pos;refine IK.ite (λhk=>IK.step.ar λ_ t1 _ _=>IK.addNode _ λt _=>bX zc rfl (λ_=>⟨_,hc.num hk,rfl⟩) (λh=>absurd rfl h) (λh=>(by cases h)) (λh=>(by simp[af]at h)) (λh=>(by cases h)) (λh=>(by cases h)) (by simp[af]) t) λ_=>?_
 refine IK.ite (λhk=>IK.step.ar λ_ t1 _ _=>IK.addNode _ λt _=>bX hc.size rfl (λh=>(by cases h)) (λ_=>(by simp[af])) (λ_=>hc.lit hk) (λh=>(by simp[af]at h)) (λh=>(by cases h)) (λh=>(by cases h)) (by simp[af]) t) λ_=>?_
 refine IK.ite (λhk=>IK.step.ar λ_ t1 _ _=>IK.addNode _ λt _=>bX hc.size rfl (λh=>(by cases h)) (λ_=>(by simp[af])) (λh=>(by cases h)) (λ_=>hc.name hk) (λh=>(by cases h)) (λh=>(by cases h)) (by simp[af]) t) λ_=>?_
 refine(IK.take _).ar λ_ t1 _ _=>IK.ite (λ_=>IK.addNode _ λt _=>bX zc rfl (λh=>(by cases h)) (λ_=>by simp) (λh=>(by cases h)) (λh=>(by simp[af]at h)) (λh=>(by cases h)) (λh=>(by cases h)) (by simp[af]) t) λ_=>?_
 refine(IK.take _).ar λ_ t2 _ _=>IK.ite (λ_=>IK.addNode _ λt _=>bX zc rfl (λh=>(by cases h)) (λ_=>(by simp[af])) (λh=>(by cases h)) (λh=>(by simp[af]at h)) (λh=>(by cases h)) (λh=>(by cases h)) (by simp[af]) t) λ_=>?_
 refine(IK.take _).ar λ_ t3 _ _=>IK.ite (λ_=>IK.addNode _ λt _=>bX zc rfl (λh=>(by cases h)) (λ_=>(by simp[af])) (λh=>(by cases h)) (λh=>(by simp[af]at h)) (λh=>(by cases h)) (λh=>(by cases h)) (by simp[af]) t) λ_=>?_
 refine(IK.take _).ar λ_ t4 _ _=>IK.ite (λ_=>yk ht hT hS _ t4) λ_=>?_
 refine(IK.take _).ar λ_ t5 _ _=>IK.ite (λ_=>(IK.list (P:=λ_ _=>True) (λ_ _ _ _ _=>trivial) (λt1 _ _=>hE t1) _ [] t5 (Ext.refl _) (λ_ _=>trivial)).ar λl t6 _ _=>IK.addNode _ λt _=>bX zc rfl (λh=>(by cases h)) (λ_=>(by simp[af])) (λh=>(by cases h)) (λh=>(by simp[af]at h)) (λh=>(by cases h)) (λh=>(by cases h)) (by simp[af]) t) λ_=>?_
 refine(IK.take _).ar λ_ t6 _ _=>IK.ite (λ_=>(IK.list (P:=λ_ _=>True) (λ_ _ _ _ _=>trivial) (λt1 l _=>Jb ht hE _ t1) _ [] t6 (Ext.refl _) (λ_ _=>trivial)).ar λl t7 _ _=>IK.addNode _ λt _=>bX zc rfl (λh=>(by cases h)) (λ_=>(by simp[af])) (λh=>(by cases h)) (λh=>(by simp[af]at h)) (λh=>(by cases h)) (λh=>(by cases h)) (by simp[af]) t) λ_=>?_
 exact(IK.need _).ar λ_ t7 _ _=>(hE t7).ar λa t8 _ _=>(IK.need _).ar λ_ t9 _ _=>IK.ret a λ_ _=>trivial
theorem DQ{T E O S:M Nat}(ht:∀t∈ad,TkOk t)(hT:∀t0,IK t0 T TyIn)(hE:∀t0,IK t0 E λ_ _=>True)(hO:∀t0,IK t0 O λ_ _=>True)(hS:∀t0,IK t0 S λ_ _=>True)(t0:List Ty):IK t0 (pH ad T E O S) λ_ _=>True:=
 IK.look λs=>IK.ite (λhp=>IK.step.ar λ_ t1 _ _=>(hO t1).ar λa t2 _ _=>IK.addNode _ λt _=>bX (yD ht _).size rfl (λh=>(by cases h)) (λ_=>(by simp[af])) (λh=>(by cases h)) (λh=>(by simp[af]at h)) (λh=>(by cases h)) (λ_=>A0 hp) (by simp[af]) t)
  λ_=>(Ct ht hT hE hS t0).ar λa t1 _ _=>lV ht hT hE _ a t1
theorem ET{s:St}(h:Inv s)(a:Nat)(hk: (cL s a).kind≠0):NdOk (cL s a) s.ts:=by
 unfold cL at hk⊢;cases e:s.ns[a]? with
 |none=>rw[e]at hk;exact absurd rfl hk
 |some nd=>exact h.ns nd (List.mem_of_getElem? e)
theorem Gp{E:M Nat}(hE:∀t0,IK t0 E λ_ _=>True)(t0:List Ty):IK t0 (di ad E) λ_ _=>True:=by
 refine(hE t0).ar λa t1 _ _=>λs n s' h0 hi x=>?_
 revert x;have key:∀(f:Nat→Nd),(∀v t,NdOk (f v) t)→IK t1 (ar (gG a) λ_=>ar step λ_=>ar E λv=>ar (need ad [59]) λ_=>addNode (f v)) λ_ _=>True:=λf hf=>
  (IK.gG a).ar λ_ t2 _ _=>IK.step.ar λ_ t3 _ _=>(hE t3).ar λv t4 _ _=>(IK.need _).ar λ_ t5 _ _=>IK.addNode _ λt _=>hf v t
 refine(show IK t1 (if is ad [61] s.pos then _ else _) (λ_ _=>True)from ?_) s n s' h0 hi;refine IK.ite (λ_=>IK.ite (λhk=>?_) λ_=>IK.ite (λhk=>?_) λ_=>IK.ite (λhk=>?_) λ_=>IK.fail _ _) λ_=>(IK.need _).ar λ_ t2 _ _=>IK.addNode _ λt _=>bX zc rfl (λh=>(by cases h)) (λ_=>(by simp[af])) (λh=>(by cases h)) (λh=>(by simp[af]at h)) (λh=>(by cases h)) (λh=>(by cases h)) (by simp[af]) t
 ·have ho:=ET hi a (by omega);exact key _ λv t=>bX (nd:={af 18 (cL s a).pos with text:=(cL s a).text,a:=v}) ho.size rfl (λh=>(by cases h)) (λ_=>(by simp[af])) (λh=>(by cases h)) (λ_=>ho.name (.inl hk)) (λh=>(by cases h)) (λh=>(by cases h)) (by simp[af]) t
 ·have ho:=ET hi a (by omega);exact key _ λv t=>bX (nd:={af 19 (cL s a).pos with text:=(cL s a).text,a:=(cL s a).a,b:=v}) ho.size rfl (λh=>(by cases h)) (λ_=>(by simp[af])) (λh=>(by cases h)) (λ_=>ho.name (.inr (.inl hk))) (λh=>(by cases h)) (λh=>(by cases h)) (by simp[af]) t
 ·exact key _ λv t=>bX zc rfl (λh=>(by cases h)) (λ_=>(by simp[af])) (λh=>(by cases h)) (λh=>(by simp[af]at h)) (λh=>(by cases h)) (λh=>(by cases h)) (by simp[af]) t
theorem tU{E S:M Nat}(hE:∀t0,IK t0 E λ_ _=>True)(hS:∀t0,IK t0 S λ_ _=>True)(yes:Bool)(pos:Nat)(t0:List Ty):IK t0 (bH ad E S yes pos) λ_ _=>True:=by
 have hn:∀(nd:Nd),nd.text=⟨#[]⟩→nd.ty= -1→nd.n=0→nd.kind=22∨nd.kind=23→∀t,NdOk nd t:=λnd h1 h2 h3 h4=>bX (by rw[h1];exact zc) h2 (λh=>by omega) (λ_=>by omega) (λh=>by omega) (λh=>by omega) (λh=>by omega) (λh=>by omega) (by omega)
 exact IK.step.ar λ_ t1 _ _=>(IK.need _).ar λ_ t2 _ _=>(hE t2).ar λa t3 _ _=>(IK.need _).ar λ_ t4 _ _=>(qV hS t4).ar λb t5 _ _=>
  IK.ite (λ_=>(IK.take _).ar λ_ t6 _ _=>IK.ite (λ_=>(qV hS t6).ar λc t7 _ _=>IK.addNode _ λt _=>hn _ rfl rfl rfl (.inl rfl) t) λ_=>IK.addNode _ λt _=>hn _ rfl rfl rfl (.inl rfl) t) λ_=>IK.addNode _ λt _=>hn _ rfl rfl rfl (.inr rfl) t
theorem Jp{T E S:M Nat}(ht:∀t∈ad,TkOk t)(hT:∀t0,IK t0 T TyIn)(hE:∀t0,IK t0 E λ_ _=>True)(hS:∀t0,IK t0 S λ_ _=>True)(t0:List Ty):IK t0 (dy ad T E S) λ_ _=>True:=by
 refine IK.look λs=>(IK.take _).ar λ_ t1 _ _=>IK.ite (λ_=>?_) λ_=>?_
 ·exact(IK.name ht []).ar λx t2 _ hx=>(ph hT t2).ar λz t3 _ hz=>(IK.need _).ar λ_ t4 e4 _=>(hE t4).ar λa t5 e5 _=>(IK.need _).ar λ_ t6 e6 _=>IK.addNode _ λt et=>
   ⟨nT hx.size (by omega),λh=>(by cases h),λ_=>(by simp[af]),λh=>(by cases h),λ_=>hx,λh=>(by cases h),λh=>(by cases h),hz.ext (((e4.trans e5).trans e6).trans et),λh=>(by cases h)⟩
 ·have hn:∀(nd:Nd),nd.text=⟨#[]⟩→nd.ty= -1→nd.n=0→nd.kind=21∨nd.kind=24→∀t,NdOk nd t:=λnd h1 h2 h3 h4=>bX (by rw[h1];exact zc) h2 (λh=>by omega) (λ_=>by omega) (λh=>by omega) (λh=>by omega) (λh=>by omega) (λh=>by omega) (by omega)
  exact(IK.take _).ar λ_ t2 _ _=>IK.ite (λ_=>(hE t2).ar λa t5 _ _=>(IK.need _).ar λ_ t6 _ _=>IK.addNode _ λt _=>hn _ rfl rfl rfl (.inl rfl) t) λ_=>
   (IK.take _).ar λ_ t2 _ _=>IK.ite (λ_=>(hE t2).ar λa t5 _ _=>(IK.need _).ar λ_ t6 _ _=>IK.addNode _ λt _=>hn _ rfl rfl rfl (.inr rfl) t) λ_=>
    IK.look λs2=>IK.ite (λ_=>tU hE hS _ _ t2) λ_=>IK.ite (λ_=>tU hE hS _ _ t2) λ_=>Gp hE t2
theorem N7(ht:∀t∈ad,TkOk t)(hL:ad.length≤1001):∀r,(∀t0,IK t0 (lv ad r).E λ_ _=>True)∧(∀t0,IK t0 (lv ad r).O λ_ _=>True)∧(∀t0,IK t0 (lv ad r).S λ_ _=>True)
 |0=>⟨λ_=>IK.fail _ _,λ_=>IK.fail _ _,λ_=>IK.fail _ _⟩
 |r+1=>by
  obtain⟨h1,h2,h3⟩:=N7 ht hL r;have hT:∀t0,IK t0 (sy ad r) TyIn:=λt0=>IK.sy ht hL r
  exact⟨IE ht (DQ ht hT h1 h2 h3),DQ ht hT h1 h2 h3,Jp ht hT h1 h3⟩
theorem r8{S:M Nat}(hS:∀t0,IK t0 S λ_ _=>True):∀f l t0,IK t0 (fE ad S f l) λ_ _=>True
 |0,_,_=>IK.fail _ _
 |f+1,l,t0=>IK.look λs=>IK.ite (λ_=>IK.ret l λ_ _=>trivial) λ_=>(hS t0).ar λn t1 _ _=>r8 hS f _ t1
theorem KU(ht:∀t∈ad,TkOk t)(hL:ad.length≤1001)(t0:List Ty):IK t0 (oe ad) λ_ _=>True:=
 (r8 (N7 ht hL 20).2.2 _ _ t0).ar λl t1 _ _=>IK.addNode _ λt _=>bX zc rfl (λh=>(by cases h)) (λ_=>(by simp[af])) (λh=>(by cases h)) (λh=>(by simp[af]at h)) (λh=>(by cases h)) (λh=>(by cases h)) (by simp[af]) t
end
structure PgOk(pg:Pg):Prop where
 wf:Wf pg.ts
 nm:Nm pg.ts
 ns:∀nd∈pg.ns,NdOk nd pg.ts
 kO:pg.ns.length≤1200
 PE:pg.ts.length≤300
theorem l7{s:BA}{pg:Pg}(h:parse s=.ok pg):PgOk pg:=by
 unfold parse at h;split at h
 ·cases h
 ·rename_i ad OC;split at h
  ·cases h
  ·rename_i n st e;split at h
   ·cases h
   ·rename_i hlen;cases h;obtain⟨h1,_,_⟩:=KU (L7 OC) (DU _ _ OC).2.1 [] _ _ _ (Ext.refl _) ⟨Wf.nil,Nm.nil,λx hx=>by simp at hx⟩ e;exact⟨h1.wf,h1.nm,h1.ns,by dsimp only;omega,by dsimp only;omega⟩
end Ty
end
namespace Ty
def Kt(ts:List Ty)(ty:Int):List UInt8:=if ty<0 then []else [58,32]++text (den ts ty.toNat)
def gx:Nat→List UInt8
 |0=>[]
 |n+1=>[32,32]++gx n
def DH(x:BA):Nat:=if x.data.toList=[42]then 2 else if x.data.toList=[43]∨x.data.toList=[45]then 1 else 0
def lvl:Ex→Nat
 | .one .. =>3
 | .two _ x _ _=>DH x
 | .num .. =>4
 | .text .. =>4
 | .bool .. =>4
 | .null .. =>4
 | .var .. =>4
 | .fn .. =>4
 | .call .. =>4
 | .get .. =>4
 | .atX .. =>4
 | .obj .. =>4
 | .arr .. =>4
 | .asX .. =>4
def par(b:Bool)(s:List UInt8):List UInt8:=if b then [40]++s++[41]else s
def Xw(ts:List Ty)(q:Par):List UInt8:=q.text.data.toList++Kt ts q.ty
def M5:List UInt8:=[116,121,112,101,111,102]
mutual
def wE(ts:List Ty)(ind:Nat):Ex→List UInt8
 | .num _ n=>Lib.itoa n
 | .text _ x=>[34]++x.data.toList++[34]
 | .bool _ n=>if n=1 then [116,114,117,101]else [102,97,108,115,101]
 | .null _=>[110,117,108,108]
 | .var _ x=>x.data.toList
 | .fn _ ps ty _ body=>[102,110,40]++gY [44,32] (ps.map (Xw ts))++[41]++Kt ts ty++[32]++([123,10]++PA ts (ind+1) body++gx ind++[125])
 | .call _ a l=>par (decide (lvl a<4)) (wE ts ind a)++[40]++gY [44,32] (XV ts ind l)++[41]
 | .get _ a x=>par (decide (lvl a<4)) (wE ts ind a)++[46]++x.data.toList
 | .atX _ a b=>par (decide (lvl a<4)) (wE ts ind a)++[91]++wE ts ind b++[93]
 | .obj _ l=>if l.length=0 then [123,125]else [123,32]++gY [44,32] (X9 ts ind l)++[32,125]
 | .arr _ l=>[91]++gY [44,32] (XV ts ind l)++[93]
 | .two _ x a b=>par (decide (lvl a<max (DH x) 1)) (wE ts ind a)++[32]++x.data.toList++[32]++par (decide (lvl b<DH x+1)) (wE ts ind b)
 | .one _ x a=>x.data.toList++(if x.data.toList=M5 then [32]else [])++par (decide (lvl a<3)) (wE ts ind a)
 | .asX _ a ty=>par (decide (lvl a<4)) (wE ts ind a)++[32,97,115,32]++text (den ts ty.toNat)
def XV(ts:List Ty)(ind:Nat):List Ex→List (List UInt8)
 |[]=>[]
 |e::l=>wE ts ind e::XV ts ind l
def X9(ts:List Ty)(ind:Nat):List (Nat×BA×Ex)→List (List UInt8)
 |[]=>[]
 |(_,x,e)::l=>(x.data.toList++[58,32]++wE ts ind e)::X9 ts ind l
def PA(ts:List Ty)(ind:Nat):List Sm→List UInt8
 |[]=>[]
 |e::l=>wS ts ind e++PA ts ind l
def wS(ts:List Ty)(ind:Nat):Sm→List UInt8
 | .kj _ x ty a=>gx ind++[108,101,116,32]++x.data.toList++Kt ts ty++[32,61,32]++wE ts ind a++[59,10]
 | .set _ x v=>gx ind++x.data.toList++[32,61,32]++wE ts ind v++[59,10]
 | .put _ a x v=>gx ind++par (decide (lvl a<4)) (wE ts ind a)++[46]++x.data.toList++[32,61,32]++wE ts ind v++[59,10]
 | .lay _ a b v=>gx ind++par (decide (lvl a<4)) (wE ts ind a)++[91]++wE ts ind b++[93,32,61,32]++wE ts ind v++[59,10]
 | .print _ a=>gx ind++[112,114,105,110,116,32]++wE ts ind a++[59,10]
 | .ret _ a=>gx ind++[114,101,116,117,114,110,32]++wE ts ind a++[59,10]
 | .vW _ a=>gx ind++wE ts ind a++[59,10]
 | .if_ _ a _ b none=>gx ind++[105,102,32,40]++wE ts ind a++[41,32]++([123,10]++PA ts (ind+1) b++gx ind++[125])++[10]
 | .if_ _ a _ b (some (_,c))=>gx ind++[105,102,32,40]++wE ts ind a++[41,32]++([123,10]++PA ts (ind+1) b++gx ind++[125])++[32,101,108,115,101,32]++([123,10]++PA ts (ind+1) c++gx ind++[125])++[10]
 | .while_ _ a _ b=>gx ind++[119,104,105,108,101,32,40]++wE ts ind a++[41,32]++([123,10]++PA ts (ind+1) b++gx ind++[125])++[10]
end
def wB(ts:List Ty)(ind:Nat)(l:List Sm):List UInt8:=[123,10]++PA ts (ind+1) l++gx ind++[125]
mutual
def ax:Ex→Nat
 | .num .. =>1
 | .text .. =>1
 | .bool .. =>1
 | .null .. =>1
 | .var .. =>1
 | .fn _ ps _ _ body=>ps.length+aL body+2
 | .call _ a l=>ax a+eT l+1
 | .get _ a _=>ax a+1
 | .atX _ a b=>ax a+ax b+1
 | .obj _ l=>fQ l+1
 | .arr _ l=>eT l+1
 | .two _ _ a b=>ax a+ax b+1
 | .one _ _ a=>ax a+1
 | .asX _ a _=>ax a+1
def eT:List Ex→Nat
 |[]=>0
 |e::l=>ax e+eT l
def fQ:List (Nat×BA×Ex)→Nat
 |[]=>0
 |(_,_,e)::l=>ax e+1+fQ l
def aL:List Sm→Nat
 |[]=>0
 |e::l=>db e+aL l
def db:Sm→Nat
 | .kj _ _ _ a=>ax a+1
 | .set _ _ v=>ax v+1
 | .put _ a _ v=>ax a+ax v+1
 | .lay _ a b v=>ax a+ax b+ax v+1
 | .print _ a=>ax a+1
 | .ret _ a=>ax a+1
 | .vW _ a=>ax a+1
 | .if_ _ a _ b none=>ax a+aL b+2
 | .if_ _ a _ b (some (_,c))=>ax a+aL b+aL c+3
 | .while_ _ a _ b=>ax a+aL b+2
end
theorem uk:∀(ps:List Par)(ns:List Nd),(il ps ns).1.length=ns.length+ps.length∧(il ps ns).2.length=ps.length
 |[],ns=>by simp[il]
 |q::ps,ns=>by
  have:=uk ps (ns++[{af 16 q.pos with text:=q.text,ty:=q.ty}]);simp[il]at this⊢
  omega
mutual
theorem bf:∀(e:Ex)(ns:List Nd),(aT e ns).1.length=ns.length+ax e
 | .num _ _,ns=>by simp[aT,ax]
 | .text _ _,ns=>by simp[aT,ax]
 | .bool _ _,ns=>by simp[aT,ax]
 | .null _,ns=>by simp[aT,ax]
 | .var _ _,ns=>by simp[aT,ax]
 | .fn p ps ty bp body,ns=>by
  have h1:=uk ps ns;have h2:=fW body (il ps ns).1;rw[aT,ax,eg];simp;omega
 | .call p a l,ns=>by
  have h1:=bf a ns;have h2:=nS l (aT a ns).1;rw[aT,ax];simp;omega
 | .get p a x,ns=>by have h1:=bf a ns;rw[aT,ax];simp;omega
 | .atX p a b,ns=>by
  have h1:=bf a ns;have h2:=bf b (aT a ns).1;rw[aT,ax];simp;omega
 | .obj p l,ns=>by have h1:=uc l ns;rw[aT,ax];simp;omega
 | .arr p l,ns=>by have h1:=nS l ns;rw[aT,ax];simp;omega
 | .two p x a b,ns=>by
  have h1:=bf a ns;have h2:=bf b (aT a ns).1;rw[aT,ax];simp;omega
 | .one p x a,ns=>by have h1:=bf a ns;rw[aT,ax];simp;omega
 | .asX p a ty,ns=>by have h1:=bf a ns;rw[aT,ax];simp;omega
theorem nS:∀(l:List Ex)(ns:List Nd),(ir l ns).1.length=ns.length+eT l
 |[],ns=>by simp[ir,eT]
 |e::l,ns=>by
  have h1:=bf e ns;have h2:=nS l (aT e ns).1;rw[ir,eT];simp;omega
theorem uc:∀(l:List (Nat×BA×Ex))(ns:List Nd),(iR l ns).1.length=ns.length+fQ l
 |[],ns=>by simp[iR,fQ]
 |(p,x,e)::l,ns=>by
  have h1:=bf e ns;have h2:=uc l ((aT e ns).1++[{af 15 p with text:=x,a:=(aT e ns).2}]);rw[iR,fQ];simp at h2⊢;omega
theorem fW:∀(l:List Sm)(ns:List Nd),(eM l ns).1.length=ns.length+aL l
 |[],ns=>by simp[eM,aL]
 |e::l,ns=>by
  have h1:=sZ e ns;have h2:=fW l (dL e ns).1;rw[eM,aL];simp;omega
theorem sZ:∀(e:Sm)(ns:List Nd),(dL e ns).1.length=ns.length+db e
 | .kj _ _ _ a,ns=>by have h1:=bf a ns;rw[dL,db];simp;omega
 | .set _ _ a,ns=>by have h1:=bf a ns;rw[dL,db];simp;omega
 | .put _ a _ v,ns=>by
  have h1:=bf a ns;have h2:=bf v (aT a ns).1;rw[dL,db];simp;omega
 | .lay _ a b v,ns=>by
  have h1:=bf a ns;have h2:=bf b (aT a ns).1;have h3:=bf v (aT b (aT a ns).1).1;rw[dL,db];simp;omega
 | .print _ a,ns=>by have h1:=bf a ns;rw[dL,db];simp;omega
 | .ret _ a,ns=>by have h1:=bf a ns;rw[dL,db];simp;omega
 | .vW _ a,ns=>by have h1:=bf a ns;rw[dL,db];simp;omega
 | .if_ _ a _ b none,ns=>by
  have h1:=bf a ns;have h2:=fW b (aT a ns).1;rw[dL,db,eg];simp;omega
 | .if_ _ a bp b (some (cp,c)),ns=>by
  have h1:=bf a ns;have h2:=fW b (aT a ns).1;have h3:=fW c (eg bp b (aT a ns).1).1;have h4: (eg bp b (aT a ns).1).1.length=(eM b (aT a ns).1).1.length+1:=by rw[eg];simp
  rw[dL,db,eg];simp;omega
 | .while_ _ a _ b,ns=>by
  have h1:=bf a ns;have h2:=fW b (aT a ns).1;rw[dL,db,eg];simp;omega
end
end Ty
namespace Ty
def eU:List Par→Nat→List Nat
 |[],_=>[]
 | _::l,a=>a::eU l (a+1)
def fJ:List Ex→Nat→List Nat
 |[],_=>[]
 |e::l,a=>(a+ax e-1)::fJ l (a+ax e)
def ff:List (Nat×BA×Ex)→Nat→List Nat
 |[],_=>[]
 |(_,_,e)::l,a=>(a+ax e)::ff l (a+ax e+1)
def dX:List Sm→Nat→List Nat
 |[],_=>[]
 |e::l,a=>(a+db e-1)::dX l (a+db e)
def qx(ns:List Nd):List Par→Nat→Prop
 |[],_=>True
 |q::l,a=>ns[a]?=some {af 16 q.pos with text:=q.text,ty:=q.ty}∧qx ns l (a+1)
mutual
def dp(ns:List Nd):Ex→Nat→Prop
 | .num p n,a=>ns[a]?=some {af 1 p with n:=n}
 | .text p x,a=>ns[a]?=some {af 2 p with text:=x}
 | .bool p n,a=>ns[a]?=some {af 3 p with n:=n}
 | .null p,a=>ns[a]?=some (af 4 p)
 | .var p x,a=>ns[a]?=some {af 5 p with text:=x}
 | .fn p ps ty bp body,a=>qx ns ps a∧je ns body (a+ps.length)∧ns[a+ps.length+aL body]?=some {af 26 bp with list:=dX body (a+ps.length)}∧ns[a+ps.length+aL body+1]?=some {af 6 p with list:=eU ps a,ty:=ty,a:=a+ps.length+aL body}
 | .call p e l,a=>dp ns e a∧kP ns l (a+ax e)∧ns[a+ax e+eT l]?=some {af 7 p with a:=a+ax e-1,list:=fJ l (a+ax e)}
 | .get p e x,a=>dp ns e a∧ns[a+ax e]?=some {af 8 p with a:=a+ax e-1,text:=x}
 | .atX p e i,a=>dp ns e a∧dp ns i (a+ax e)∧ns[a+ax e+ax i]?=some {af 9 p with a:=a+ax e-1,b:=a+ax e+ax i-1}
 | .obj p l,a=>jW ns l a∧ns[a+fQ l]?=some {af 10 p with list:=ff l a}
 | .arr p l,a=>kP ns l a∧ns[a+eT l]?=some {af 11 p with list:=fJ l a}
 | .two p x e i,a=>dp ns e a∧dp ns i (a+ax e)∧ns[a+ax e+ax i]?=some {af 12 p with text:=x,a:=a+ax e-1,b:=a+ax e+ax i-1}
 | .one p x e,a=>dp ns e a∧ns[a+ax e]?=some {af 13 p with text:=x,a:=a+ax e-1}
 | .asX p e ty,a=>dp ns e a∧ns[a+ax e]?=some {af 14 p with a:=a+ax e-1,ty:=ty}
def kP(ns:List Nd):List Ex→Nat→Prop
 |[],_=>True
 |e::l,a=>dp ns e a∧kP ns l (a+ax e)
def jW(ns:List Nd):List (Nat×BA×Ex)→Nat→Prop
 |[],_=>True
 |(p,x,e)::l,a=>dp ns e a∧ns[a+ax e]?=some {af 15 p with text:=x,a:=a+ax e-1}∧jW ns l (a+ax e+1)
def je(ns:List Nd):List Sm→Nat→Prop
 |[],_=>True
 |e::l,a=>gR ns e a∧je ns l (a+db e)
def gR(ns:List Nd):Sm→Nat→Prop
 | .kj p x ty e,a=>dp ns e a∧ns[a+ax e]?=some {af 17 p with text:=x,ty:=ty,a:=a+ax e-1}
 | .set p x e,a=>dp ns e a∧ns[a+ax e]?=some {af 18 p with text:=x,a:=a+ax e-1}
 | .put p e x v,a=>dp ns e a∧dp ns v (a+ax e)∧ns[a+ax e+ax v]?=some {af 19 p with text:=x,a:=a+ax e-1,b:=a+ax e+ax v-1}
 | .lay p e i v,a=>dp ns e a∧dp ns i (a+ax e)∧dp ns v (a+ax e+ax i)∧ns[a+ax e+ax i+ax v]?=some {af 20 p with a:=a+ax e-1,b:=a+ax e+ax i-1,c:=((a+ax e+ax i+ax v-1:Nat):Int)}
 | .print p e,a=>dp ns e a∧ns[a+ax e]?=some {af 21 p with a:=a+ax e-1}
 | .ret p e,a=>dp ns e a∧ns[a+ax e]?=some {af 24 p with a:=a+ax e-1}
 | .vW p e,a=>dp ns e a∧ns[a+ax e]?=some {af 25 p with a:=a+ax e-1}
 | .if_ p e bp b none,a=>dp ns e a∧je ns b (a+ax e)∧ns[a+ax e+aL b]?=some {af 26 bp with list:=dX b (a+ax e)}∧ns[a+ax e+aL b+1]?=some {af 22 p with a:=a+ax e-1,b:=a+ax e+aL b,c:= -1}
 | .if_ p e bp b (some (cp,c)),a=>dp ns e a∧je ns b (a+ax e)∧ns[a+ax e+aL b]?=some {af 26 bp with list:=dX b (a+ax e)}∧je ns c (a+ax e+aL b+1)∧
   ns[a+ax e+aL b+1+aL c]?=some {af 26 cp with list:=dX c (a+ax e+aL b+1)}∧ns[a+ax e+aL b+1+aL c+1]?=some {af 22 p with a:=a+ax e-1,b:=a+ax e+aL b,c:=((a+ax e+aL b+1+aL c:Nat):Int)}
 | .while_ p e bp b,a=>dp ns e a∧je ns b (a+ax e)∧ns[a+ax e+aL b]?=some {af 26 bp with list:=dX b (a+ax e)}∧ns[a+ax e+aL b+1]?=some {af 23 p with a:=a+ax e-1,b:=a+ax e+aL b}
end
theorem cO(e:Ex)(ns:List Nd): (aT e ns).2=ns.length+ax e-1:=by
 obtain⟨n1,nd,h,_⟩:=wP e ns;have h2:=bf e ns;rw[h]at h2⊢
 simp at h2;simp only;omega
theorem iG(e:Ex):1≤ax e:=by cases e<;>simp[ax]<;>omega
theorem MC(e:Sm):1≤db e:=by
 cases e with
 |if_ p a bp b c=>rcases c with _|⟨cp,c⟩<;>simp[db]
 | _=>simp[db]
theorem Jw(e:Sm)(ns:List Nd): (dL e ns).2=ns.length+db e-1:=by
 have h2:=sZ e ns;cases e with
 |if_ p a bp b c=>rcases c with _|⟨cp,c⟩<;>(rw[dL]at h2⊢;simp only[lzA,lzC,lzN]at h2⊢;omega)
 | _=>rw[dL]at h2⊢;simp only[lzA,lzC,lzN]at h2⊢;omega
theorem bd{ns Hr:List Nd}{nd:Nd}(h:Hr++[nd]<+:ns){k:Nat}(hk:Hr.length=k):ns[k]?=some nd:=by subst hk;exact cE h (cm _ _)
theorem bG{ns Hr:List Nd}{nd:Nd}(h:Hr++[nd]<+:ns):Hr<+:ns:=(List.prefix_append _ _).trans h
theorem wh:∀(ps:List Par)(ns:List Nd),(il ps ns).2=eU ps ns.length
 |[],_=>rfl
 |q::ps,ns=>by
  have h:=wh ps (ns++[{af 16 q.pos with text:=q.text,ty:=q.ty}]);rw[il];simp only[eU,h,lzA,lzC,lzN]
theorem rF:∀(l:List Ex)(ns:List Nd),(ir l ns).2=fJ l ns.length
 |[],_=>by rw[ir];rfl
 |e::l,ns=>by
  have h:=rF l (aT e ns).1;rw[ir];simp only[fJ,h,bf,cO]
theorem wV:∀(l:List (Nat×BA×Ex))(ns:List Nd),(iR l ns).2=ff l ns.length
 |[],_=>by rw[iR];rfl
 |(p,x,e)::l,ns=>by
  have h:=wV l ((aT e ns).1++[{af 15 p with text:=x,a:=(aT e ns).2}]);rw[iR];simp only[ff,h,bf,lzA,lzC,lzN]
theorem i_:∀(l:List Sm)(ns:List Nd),(eM l ns).2=dX l ns.length
 |[],_=>by rw[eM];rfl
 |e::l,ns=>by
  have h:=i_ l (dL e ns).1;rw[eM];simp only[dX,h,sZ,Jw]
theorem Ak{ns:List Nd}:∀(ps:List Par)(n0:List Nd),(il ps n0).1<+:ns→qx ns ps n0.length
 |[],_,_=>trivial
 |q::ps,n0,h=>by
  rw[il]at h
  have h1:=Ak ps _ h;have h2:=(rk ps (n0++[{af 16 q.pos with text:=q.text,ty:=q.ty}])).1.trans h;refine⟨bd h2 rfl,?_⟩
  simpa using h1
mutual
theorem dE{ns:List Nd}:∀(e:Ex)(n0:List Nd),(aT e n0).1<+:ns→dp ns e n0.length
 | .num ..,n0,h=>by rw[aT]at h;rw[dp];exact bd h rfl
 | .text ..,n0,h=>by rw[aT]at h;rw[dp];exact bd h rfl
 | .bool ..,n0,h=>by rw[aT]at h;rw[dp];exact bd h rfl
 | .null ..,n0,h=>by rw[aT]at h;rw[dp];exact bd h rfl
 | .var ..,n0,h=>by rw[aT]at h;rw[dp];exact bd h rfl
 | .fn p ps ty bp body,n0,h=>by
  rw[aT,eg]at h;dsimp only at h
  have h1:=bG h;have h2:=bG h1;have hb:=kH body _ h2;have hp:=Ak ps _ ((ib body _).1.trans h2);have l1:=uk ps n0;have l2:=fW body (il ps n0).1;have g1:=bd h1 (k:=n0.length+ps.length+aL body) (by omega);have g2:=bd h (k:=n0.length+ps.length+aL body+1) (by simp;omega);rw[i_,l1.1]at g1
  rw[wh,l2,l1.1]at g2
  rw[l1.1]at hb
  rw[dp];exact⟨hp,hb,g1,g2⟩
 | .call p e l,n0,h=>by
  rw[aT]at h;dsimp only at h
  have h1:=bG h;have hl:=vi l _ h1;have he:=dE e _ ((lY l _).1.trans h1);have l1:=bf e n0;have l2:=nS l (aT e n0).1;have g:=bd h (k:=n0.length+ax e+eT l) (by omega);rw[rF,cO,l1]at g
  rw[l1]at hl
  rw[dp];exact⟨he,hl,g⟩
 | .get p e x,n0,h=>by
  rw[aT]at h;dsimp only at h
  have g:=bd h (k:=n0.length+ax e) (bf e n0);rw[cO]at g
  rw[dp];exact⟨dE e _ (bG h),g⟩
 | .atX p e i,n0,h=>by
  rw[aT]at h;dsimp only at h
  have h1:=bG h;have hl:=dE i _ h1;have he:=dE e _ ((ck i _).1.trans h1);have l1:=bf e n0;have l2:=bf i (aT e n0).1;have g:=bd h (k:=n0.length+ax e+ax i) (by omega);rw[cO,cO,l1]at g
  rw[l1]at hl
  rw[dp];exact⟨he,hl,g⟩
 | .obj p l,n0,h=>by
  rw[aT]at h;dsimp only at h
  have g:=bd h (k:=n0.length+fQ l) (uc l n0);rw[wV]at g
  rw[dp];exact⟨zQ l _ (bG h),g⟩
 | .arr p l,n0,h=>by
  rw[aT]at h;dsimp only at h
  have g:=bd h (k:=n0.length+eT l) (nS l n0);rw[rF]at g
  rw[dp];exact⟨vi l _ (bG h),g⟩
 | .two p x e i,n0,h=>by
  rw[aT]at h;dsimp only at h
  have h1:=bG h;have hl:=dE i _ h1;have he:=dE e _ ((ck i _).1.trans h1);have l1:=bf e n0;have l2:=bf i (aT e n0).1;have g:=bd h (k:=n0.length+ax e+ax i) (by omega);rw[cO,cO,l1]at g
  rw[l1]at hl
  rw[dp];exact⟨he,hl,g⟩
 | .one p x e,n0,h=>by
  rw[aT]at h;dsimp only at h
  have g:=bd h (k:=n0.length+ax e) (bf e n0);rw[cO]at g
  rw[dp];exact⟨dE e _ (bG h),g⟩
 | .asX p e ty,n0,h=>by
  rw[aT]at h;dsimp only at h
  have g:=bd h (k:=n0.length+ax e) (bf e n0);rw[cO]at g
  rw[dp];exact⟨dE e _ (bG h),g⟩
theorem vi{ns:List Nd}:∀(l:List Ex)(n0:List Nd),(ir l n0).1<+:ns→kP ns l n0.length
 |[],_,_=>by rw[kP];trivial
 |e::l,n0,h=>by
  rw[ir]at h;dsimp only at h
  have hl:=vi l _ h;rw[bf]at hl
  rw[kP];exact⟨dE e _ ((lY l _).1.trans h),hl⟩
theorem zQ{ns:List Nd}:∀(l:List (Nat×BA×Ex))(n0:List Nd),(iR l n0).1<+:ns→jW ns l n0.length
 |[],_,_=>by rw[jW];trivial
 |(p,x,e)::l,n0,h=>by
  rw[iR]at h;dsimp only at h
  have hl:=zQ l _ h;have h1:=(rP l _).1.trans h;have g:=bd h1 (k:=n0.length+ax e) (bf e n0);rw[List.length_append,bf]at hl
  rw[cO]at g
  rw[jW];exact⟨dE e _ (bG h1),g,hl⟩
theorem kH{ns:List Nd}:∀(l:List Sm)(n0:List Nd),(eM l n0).1<+:ns→je ns l n0.length
 |[],_,_=>by rw[je];trivial
 |e::l,n0,h=>by
  rw[eM]at h;dsimp only at h
  have hl:=kH l _ h;rw[sZ]at hl
  rw[je];exact⟨Mz e _ ((ib l _).1.trans h),hl⟩
theorem Mz{ns:List Nd}:∀(e:Sm)(n0:List Nd),(dL e n0).1<+:ns→gR ns e n0.length
 | .kj p x ty e,n0,h=>by
  rw[dL]at h;dsimp only at h
  have g:=bd h (k:=n0.length+ax e) (bf e n0);rw[cO]at g
  rw[gR];exact⟨dE e _ (bG h),g⟩
 | .set p x e,n0,h=>by
  rw[dL]at h;dsimp only at h
  have g:=bd h (k:=n0.length+ax e) (bf e n0);rw[cO]at g
  rw[gR];exact⟨dE e _ (bG h),g⟩
 | .put p e x i,n0,h=>by
  rw[dL]at h;dsimp only at h
  have h1:=bG h;have hl:=dE i _ h1;have he:=dE e _ ((ck i _).1.trans h1);have l1:=bf e n0;have l2:=bf i (aT e n0).1;have g:=bd h (k:=n0.length+ax e+ax i) (by omega);rw[cO,cO,l1]at g
  rw[l1]at hl
  rw[gR];exact⟨he,hl,g⟩
 | .lay p e i v,n0,h=>by
  rw[dL]at h;dsimp only at h
  have h1:=bG h;have hv:=dE v _ h1;have h2:=(ck v _).1.trans h1;have hl:=dE i _ h2;have he:=dE e _ ((ck i _).1.trans h2);have l1:=bf e n0;have l2:=bf i (aT e n0).1;have l3:=bf v (aT i (aT e n0).1).1;have g:=bd h (k:=n0.length+ax e+ax i+ax v) (by omega);rw[cO,cO,cO,l2,l1]at g
  rw[l1]at hl
  rw[l2,l1]at hv
  rw[gR];exact⟨he,hl,hv,g⟩
 | .print p e,n0,h=>by
  rw[dL]at h;dsimp only at h
  have g:=bd h (k:=n0.length+ax e) (bf e n0);rw[cO]at g
  rw[gR];exact⟨dE e _ (bG h),g⟩
 | .ret p e,n0,h=>by
  rw[dL]at h;dsimp only at h
  have g:=bd h (k:=n0.length+ax e) (bf e n0);rw[cO]at g
  rw[gR];exact⟨dE e _ (bG h),g⟩
 | .vW p e,n0,h=>by
  rw[dL]at h;dsimp only at h
  have g:=bd h (k:=n0.length+ax e) (bf e n0);rw[cO]at g
  rw[gR];exact⟨dE e _ (bG h),g⟩
 | .if_ p e bp b none,n0,h=>by
  rw[Im,eg]at h;dsimp only at h
  have h1:=bG h;have h2:=bG h1;have hb:=kH b _ h2;have he:=dE e _ ((ib b _).1.trans h2);have l1:=bf e n0;have l2:=fW b (aT e n0).1;have g1:=bd h1 (k:=n0.length+ax e+aL b) (by omega);have g2:=bd h (k:=n0.length+ax e+aL b+1) (by simp;omega);rw[i_,l1]at g1
  rw[cO,l2,l1]at g2
  rw[l1]at hb
  rw[gR];exact⟨he,hb,g1,g2⟩
 | .if_ p e bp b (some (cp,c)),n0,h=>by
  rw[dL,eg,eg]at h;dsimp only at h
  have h1:=bG h;have h2:=bG h1;have hc:=kH c _ h2;have h3:=(ib c _).1.trans h2;have h4:=bG h3;have hb:=kH b _ h4;have he:=dE e _ ((ib b _).1.trans h4);have l1:=bf e n0;have l2:=fW b (aT e n0).1;have l3: ((eM b (aT e n0).1).1++[({af 26 bp with list:=(eM b (aT e n0).1).2}:Nd)]).length=n0.length+ax e+aL b+1:=by simp;omega
  have l4:=fW c ((eM b (aT e n0).1).1++[({af 26 bp with list:=(eM b (aT e n0).1).2}:Nd)]);rw[l3]at l4
  have g1:=bd h3 (k:=n0.length+ax e+aL b) (by omega);have g2:=bd h1 (k:=n0.length+ax e+aL b+1+aL c) (by omega);have g3:=bd h (k:=n0.length+ax e+aL b+1+aL c+1) (by rw[List.length_append,l4];rfl);rw[i_,l1]at g1
  rw[i_,l3]at g2
  rw[cO,l2,l1,l4]at g3
  rw[l1]at hb
  rw[l3]at hc
  rw[gR];exact⟨he,hb,g1,hc,g2,g3⟩
 | .while_ p e bp b,n0,h=>by
  rw[dL,eg]at h;dsimp only at h
  have h1:=bG h;have h2:=bG h1;have hb:=kH b _ h2;have he:=dE e _ ((ib b _).1.trans h2);have l1:=bf e n0;have l2:=fW b (aT e n0).1;have g1:=bd h1 (k:=n0.length+ax e+aL b) (by omega);have g2:=bd h (k:=n0.length+ax e+aL b+1) (by simp;omega);rw[i_,l1]at g1
  rw[cO,l2,l1]at g2
  rw[l1]at hb
  rw[gR];exact⟨he,hb,g1,g2⟩
end
theorem qW{l:List Sm}{ns:List Nd}{m:Nat}(h:eg 0 l []=(ns,m)):je ns l 0∧ns[aL l]?=some {af 26 0 with list:=dX l 0}∧m=aL l∧ns.length=aL l+1:=by
 rw[eg]at h
 simp only[Prod.mk.injEq]at h;obtain⟨h1,h2⟩:=h;have l1:=fW l [];have l2:=i_ l [];simp only[List.length_nil,Nat.zero_add]at l1 l2;have hp: (eM l []).1++[({af 26 0 with list:=(eM l []).2}:Nd)]<+:ns:=by rw[h1];exact List.prefix_refl _
 have g:=bd hp l1;rw[l2]at g
 exact⟨kH l [] (bG hp),g,by omega,by rw[←h1];simp[l1]⟩
end Ty
namespace Ty
structure Kn where
 text:BA
 node:Nat
 owner:Nat
 f:Int
structure Sg where
 out:List (Nat×Nat)
 fR:List Nat
def nA(env:List Kn)(x:BA):Option Kn:=env.reverse.find? (λm=>decide (m.text=x))
def Jr(p:Nat)(x:BA)(n:Nat)(set:Bool)(f:Int)(env:List Kn)(s:Sg):Except Ft Sg:=
 match nA env x with
 |none=>.error (5,p)
 |some m=>.ok ⟨s.out++[(n,m.node)],if set&&decide (m.f≠f)&&!decide (m.node∈s.fR)then s.fR++[m.node]else s.fR⟩
def JL(n:Nat):List Par→Nat→List Kn
 |q::ps,a=>⟨q.text,a,n,n⟩::JL n ps (a+1)
 |[],_=>[]
def lP:Ex→Bool
 | .fn .. =>true
 | .num .. =>false
 | .text .. =>false
 | .bool .. =>false
 | .null .. =>false
 | .var .. =>false
 | .call .. =>false
 | .get .. =>false
 | .atX .. =>false
 | .obj .. =>false
 | .arr .. =>false
 | .two .. =>false
 | .one .. =>false
 | .asX .. =>false
def aO{α β:Type}(a:Except Ft α)(k:α→Except Ft β):Except Ft β:=match a with
 | .error e=>.error e
 | .ok s=>k s
mutual
def fC:Ex→Nat→Int→List Kn→Sg→Except Ft Sg
 | .num ..,_,_,_,s=>.ok s
 | .text ..,_,_,_,s=>.ok s
 | .bool ..,_,_,_,s=>.ok s
 | .null ..,_,_,_,s=>.ok s
 | .var p x,a,f,env,s=>Jr p x a false f env s
 | .fn _ ps _ _ body,a,_,env,s=>aO (o6 body (a+ps.length) (a+ps.length+aL body+1) ((a+ps.length+aL body+1:Nat):Int) (env++JL (a+ps.length+aL body+1) ps a) s) λr=>.ok r.2
 | .call _ e l,a,f,env,s=>aO (fC e a f env s) λs=>uN l (a+ax e) f env s
 | .get _ e _,a,f,env,s=>fC e a f env s
 | .atX _ e i,a,f,env,s=>aO (fC e a f env s) λs=>fC i (a+ax e) f env s
 | .obj _ l,a,f,env,s=>wH l a f env s
 | .arr _ l,a,f,env,s=>uN l a f env s
 | .two _ _ e i,a,f,env,s=>aO (fC e a f env s) λs=>fC i (a+ax e) f env s
 | .one _ _ e,a,f,env,s=>fC e a f env s
 | .asX _ e _,a,f,env,s=>fC e a f env s
def uN:List Ex→Nat→Int→List Kn→Sg→Except Ft Sg
 |[],_,_,_,s=>.ok s
 |e::l,a,f,env,s=>aO (fC e a f env s) λs=>uN l (a+ax e) f env s
def wH:List (Nat×BA×Ex)→Nat→Int→List Kn→Sg→Except Ft Sg
 |[],_,_,_,s=>.ok s
 |(_,_,e)::l,a,f,env,s=>aO (fC e a f env s) λs=>wH l (a+ax e+1) f env s
def o6:List Sm→Nat→Nat→Int→List Kn→Sg→Except Ft (List Kn×Sg)
 |[],_,_,_,env,s=>.ok (env,s)
 |e::l,a,o,f,env,s=>aO (qC e a o f env s) λr=>o6 l (a+db e) o f r.1 r.2
def qC:Sm→Nat→Nat→Int→List Kn→Sg→Except Ft (List Kn×Sg)
 | .kj p x _ e,a,o,f,env,s=>
  if env.any (λm=>decide (m.owner=o)&&decide (m.text=x))then .error (6,p)
  else aO (fC e a f (if lP e then env++[⟨x,a+ax e,o,f⟩]else env) s) λs=>.ok (env++[⟨x,a+ax e,o,f⟩],s)
 | .set p x e,a,_,f,env,s=>aO (Jr p x (a+ax e) true f env s) λs=>aO (fC e a f env s) λs=>.ok (env,s)
 | .put _ e _ v,a,_,f,env,s=>aO (fC e a f env s) λs=>aO (fC v (a+ax e) f env s) λs=>.ok (env,s)
 | .lay _ e i v,a,_,f,env,s=>aO (fC e a f env s) λs=>aO (fC i (a+ax e) f env s) λs=>aO (fC v (a+ax e+ax i) f env s) λs=>.ok (env,s)
 | .print _ e,a,_,f,env,s=>aO (fC e a f env s) λs=>.ok (env,s)
 | .ret _ e,a,_,f,env,s=>aO (fC e a f env s) λs=>.ok (env,s)
 | .vW _ e,a,_,f,env,s=>aO (fC e a f env s) λs=>.ok (env,s)
 | .if_ _ e _ b none,a,_,f,env,s=>aO (fC e a f env s) λs=>aO (o6 b (a+ax e) (a+ax e+aL b) f env s) λr=>.ok (env,r.2)
 | .if_ _ e _ b (some (_,c)),a,_,f,env,s=>aO (fC e a f env s) λs=>aO (o6 b (a+ax e) (a+ax e+aL b) f env s) λr=>aO (o6 c (a+ax e+aL b+1) (a+ax e+aL b+1+aL c) f env r.2) λr=>.ok (env,r.2)
 | .while_ _ e _ b,a,_,f,env,s=>aO (fC e a f env s) λs=>aO (o6 b (a+ax e) (a+ax e+aL b) f env s) λr=>.ok (env,r.2)
end
structure Frm where
 names:List (BA×Nat)
 owner:Nat
 of:Int
structure Vg where
 out:List (Nat×Nat)
 wi:Nat→Option Int
 ca:Nat→Bool
def e_(l:List (BA×Nat))(x:BA):Option Nat:=(l.reverse.find? (λm=>decide (m.1=x))).map (·.2)
def kq:List Frm→BA→Option Nat
 |[],_=>none
 |fr::l,x=>match e_ fr.names x with
  |some n=>some n
  |none=>kq l x
def o7:List Frm→Int
 |[]=>0
 |fr:: _=>fr.of
def kB(p:Nat)(x:BA)(n:Nat)(set:Bool)(frs:List Frm)(s:Vg):Except Ft Vg:=
 match kq frs x with
 |none=>.error (5,p)
 |some to=>.ok {s with out:=s.out++[(n,to)],ca:=if set&&decide ((s.wi to).getD 0≠o7 frs)then λk=>if k=to then true else s.ca k else s.ca}
def addN(fr:Frm)(x:BA)(n:Nat):Frm:={fr with names:=fr.names++[(x,n)]}
def uW(s:Vg)(n:Nat)(o:Int):Vg:={s with wi:=λk=>if k=n then some o else s.wi k}
def gy:List Par→Nat→Frm→Vg→Frm×Vg
 |[],_,fr,s=>(fr,s)
 |q::ps,a,fr,s=>gy ps (a+1) (addN fr q.text a) (uW s a fr.of)
mutual
def bO:Ex→Nat→List Frm→Vg→Except Ft Vg
 | .num ..,_,_,s=>.ok s
 | .text ..,_,_,s=>.ok s
 | .bool ..,_,_,s=>.ok s
 | .null ..,_,_,s=>.ok s
 | .var p x,a,frs,s=>kB p x a false frs s
 | .fn _ ps _ _ body,a,frs,s=>
  aO (fG body (a+ps.length) (gy ps a ⟨[],a+ps.length+aL body+1,((a+ps.length+aL body+1:Nat):Int)⟩ s).1 frs (gy ps a ⟨[],a+ps.length+aL body+1,((a+ps.length+aL body+1:Nat):Int)⟩ s).2) λr=>.ok r.2
 | .call _ e l,a,frs,s=>aO (bO e a frs s) λs=>iS l (a+ax e) frs s
 | .get _ e _,a,frs,s=>bO e a frs s
 | .atX _ e i,a,frs,s=>aO (bO e a frs s) λs=>bO i (a+ax e) frs s
 | .obj _ l,a,frs,s=>jC l a frs s
 | .arr _ l,a,frs,s=>iS l a frs s
 | .two _ _ e i,a,frs,s=>aO (bO e a frs s) λs=>bO i (a+ax e) frs s
 | .one _ _ e,a,frs,s=>bO e a frs s
 | .asX _ e _,a,frs,s=>bO e a frs s
def iS:List Ex→Nat→List Frm→Vg→Except Ft Vg
 |[],_,_,s=>.ok s
 |e::l,a,frs,s=>aO (bO e a frs s) λs=>iS l (a+ax e) frs s
def jC:List (Nat×BA×Ex)→Nat→List Frm→Vg→Except Ft Vg
 |[],_,_,s=>.ok s
 |(_,_,e)::l,a,frs,s=>aO (bO e a frs s) λs=>jC l (a+ax e+1) frs s
def fG:List Sm→Nat→Frm→List Frm→Vg→Except Ft (Frm×Vg)
 |[],_,fr,_,s=>.ok (fr,s)
 |e::l,a,fr,frs,s=>aO (dK e a fr frs s) λr=>fG l (a+db e) r.1 frs r.2
def dK:Sm→Nat→Frm→List Frm→Vg→Except Ft (Frm×Vg)
 | .kj p x _ e,a,fr,frs,s=>
  if(e_ fr.names x).isSome then .error (6,p)
  else if lP e then aO (bO e a (addN fr x (a+ax e)::frs) (uW s (a+ax e) fr.of)) λs=>.ok (addN fr x (a+ax e),s)
  else aO (bO e a (fr::frs) s) λs=>.ok (addN fr x (a+ax e),uW s (a+ax e) fr.of)
 | .set p x e,a,fr,frs,s=>aO (kB p x (a+ax e) true (fr::frs) s) λs=>aO (bO e a (fr::frs) s) λs=>.ok (fr,s)
 | .put _ e _ v,a,fr,frs,s=>aO (bO e a (fr::frs) s) λs=>aO (bO v (a+ax e) (fr::frs) s) λs=>.ok (fr,s)
 | .lay _ e i v,a,fr,frs,s=>aO (bO e a (fr::frs) s) λs=>aO (bO i (a+ax e) (fr::frs) s) λs=>aO (bO v (a+ax e+ax i) (fr::frs) s) λs=>.ok (fr,s)
 | .print _ e,a,fr,frs,s=>aO (bO e a (fr::frs) s) λs=>.ok (fr,s)
 | .ret _ e,a,fr,frs,s=>aO (bO e a (fr::frs) s) λs=>.ok (fr,s)
 | .vW _ e,a,fr,frs,s=>aO (bO e a (fr::frs) s) λs=>.ok (fr,s)
 | .if_ _ e _ b none,a,fr,frs,s=>aO (bO e a (fr::frs) s) λs=>aO (fG b (a+ax e) ⟨[],a+ax e+aL b,fr.of⟩ (fr::frs) s) λr=>.ok (fr,r.2)
 | .if_ _ e _ b (some (_,c)),a,fr,frs,s=>aO (bO e a (fr::frs) s) λs=>aO (fG b (a+ax e) ⟨[],a+ax e+aL b,fr.of⟩ (fr::frs) s) λr=>aO (fG c (a+ax e+aL b+1) ⟨[],a+ax e+aL b+1+aL c,fr.of⟩ (fr::frs) r.2) λr=>.ok (fr,r.2)
 | .while_ _ e _ b,a,fr,frs,s=>aO (bO e a (fr::frs) s) λs=>aO (fG b (a+ax e) ⟨[],a+ax e+aL b,fr.of⟩ (fr::frs) s) λr=>.ok (fr,r.2)
end
end Ty
end Go.Proofs.YtdlbhiaceheffabGreatDoor
