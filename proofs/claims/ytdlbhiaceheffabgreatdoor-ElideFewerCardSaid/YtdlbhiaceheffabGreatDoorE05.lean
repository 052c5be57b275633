/- Plain: what holds of each node that is parsed: its text, its number, its type. -/
import Derived.Lib.ItoaLen
import Derived.Test.YtdlbhiaceheffabGreatDoorE04
set_option linter.all false
namespace Go.Proofs.YtdlbhiaceheffabGreatDoor
open Go Go.RowKit Ty Tok
section
namespace Ty
open Tok (Tk)
structure LitOk(x:BA):Prop where
 size:x.size<=30
 plain:∀d∈x.data.toList,cZ d=true
structure TkOk(t:Tk):Prop where
 size:t.text.size<=30
 name:t.kind=1->NameOk t.text
 num:t.kind=3->NumOk t.text
 lit:t.kind=4->LitOk t.text
theorem zr: (ByteArray.mk #[]).size<=30:=by decide
theorem Ae(s:BA)(k:Nat)(aH: (Tok.next s k).2.2=true): (Tok.next s k).1.text.size<=30/\((Tok.next s k).1.kind=4->LitOk (Tok.next s k).1.text):=by
 unfold Tok.next at aH⊢;dsimp only at aH⊢;split
 ·rename_i h;rw[if_pos h]at aH;have:=of_decide_eq_true aH;have:=fY dP s k;exact⟨by simp only[ByteArray.size_extract];omega,λh=>by dsimp only at h;split at h<;>cases h⟩
 ·rename_i h;rw[if_neg h]at aH;split
  ·rename_i h;rw[if_pos h]at aH;simp only[Bool.and_eq_true,decide_eq_true_eq]at aH;have:=fY Tok.isDigit s k;exact⟨by simp only[ByteArray.size_extract];omega,λh=>(by cases h)⟩
  ·rename_i h;rw[if_neg h]at aH;split
   ·rename_i h;rw[if_pos h]at aH;simp only[Bool.and_eq_true,decide_eq_true_eq]at aH;have:=fY cZ s (k+1);have hz: (s.extract (k+1) (Tok.stop cZ s (k+1))).size<=30:=by simp only[ByteArray.size_extract];omega
    refine⟨hz,λ_=>⟨hz,λd hd=>?_⟩⟩;rw[jO _ _ _ (by omega)]at hd
    exact jj _ _ _ hd
   ·split
    ·exact⟨by simp only[ByteArray.size_extract];omega,λh=>(by cases h)⟩
    ·exact⟨by simp only[ByteArray.size_extract];omega,λh=>(by cases h)⟩
theorem mC(P:Tk->Prop)(s:BA)(hn:∀k,k<s.size->(Tok.next s k).2.2=true->P (Tok.next s k).1)(he:P ⟨6,⟨#[]⟩,s.size⟩):∀(f k:Nat)(o l:List Tk),c_ s f k o=.ok l->(∀t∈o,P t)->∀t∈l,P t
 |0,k,o,l,h,ho=>by cases h;exact ho
 |f+1,k,o,l,h,ho=>by
  rw[c_]at h
  split at h
  ·rename_i hk;split at h
   ·exact mC P s hn he f _ _ _ h ho
   ·split at h
    ·cases h
    ·rename_i aH;split at h
     ·cases h
     ·refine mC P s hn he f _ _ _ h λt ht=>?_
      rw[List.mem_append]at ht
      rcases ht with ht|ht
      ·exact ho t ht
      ·simp at ht;subst ht;exact hn k hk (by simpa using aH)
  ·cases h;intro t ht;rw[List.mem_append]at ht
   rcases ht with ht|ht
   ·exact ho t ht
   ·simp at ht;subst ht;exact he
theorem IV{P:Tk->Prop}{s:BA}{l:List Tk}(h:Tok.scan s=.ok l)(hn:∀k,k<s.size->(Tok.next s k).2.2=true->P (Tok.next s k).1)(he:P ⟨6,⟨#[]⟩,s.size⟩):∀t∈l,P t:=by
 unfold Tok.scan at h;split at h
 ·cases h
 ·exact mC P s hn he _ _ _ _ h λt ht=>by simp at ht
theorem LX{s:BA}{l:List Tk}(h:Tok.scan s=.ok l):∀t∈l,TkOk t:=
 IV h (λk hk aH=>⟨(Ae s k aH).1,FU s k hk aH,A_ s k hk aH,(Ae s k aH).2⟩)
  ⟨zr,λh=>(by cases h),λh=>(by cases h),λh=>(by cases h)⟩
theorem zj{ad:List Tk}(h:∀t∈ad,TkOk t)(p:Nat):TkOk (cur ad p):=by
 unfold cur;cases e:ad[p]? with
 |none=>exact⟨zr,λh=>(by cases h),λh=>(by cases h),λh=>(by cases h)⟩
 |some t=>exact h t (List.mem_of_getElem? e)
structure TyIn(t:Nat)(ts:List Ty):Prop where
 lt:t<ts.length
 dS:dS (den ts t)<=ts.length
theorem TyIn.ext{t:Nat}{a b:List Ty}(h:TyIn t a)(he:Ext a b):TyIn t b:=
 ⟨nL h.lt he.len,by rw[he.den h.lt];exact nT h.dS he.len⟩
def zz(t:Int)(ts:List Ty):Prop:=t= -1\/∃n:Nat,t=(n:Int)/\TyIn n ts
theorem zz.ext{t:Int}{a b:List Ty}(h:zz t a)(he:Ext a b):zz t b:=by
 rcases h with h|⟨n,h,k⟩
 ·exact .inl h
 ·exact .inr ⟨n,h,k.ext he⟩
def Om(n:Nat):Prop:=∃x:BA,NumOk x/\value x=n
def nP:List (List UInt8):=[[61,61],[60],[43],[45],[42]]
structure NdOk(nd:Nd)(ts:List Ty):Prop where
 size:nd.text.size<=30
 num:nd.kind=1->Om nd.n
 small:nd.kind≠1->nd.n<=1
 lit:nd.kind=2->LitOk nd.text
 name:nd.kind=5\/nd.kind=8\/(15<=nd.kind/\nd.kind<=19)->NameOk nd.text
 two:nd.kind=12->nd.text.data.toList∈nP
 one:nd.kind=13->nd.text.data.toList∈gW
 ty:zz nd.ty ts
 RF:nd.kind=14->0<=nd.ty
theorem NdOk.ext{nd:Nd}{a b:List Ty}(h:NdOk nd a)(he:Ext a b):NdOk nd b:={h with ty:=h.ty.ext he}
structure Inv(s:St):Prop where
 wf:Wf s.ts
 nm:Nm s.ts
 ns:∀nd∈s.ns,NdOk nd s.ts
def IK{α:Type}(t0:List Ty)(m:M α)(P:α->List Ty->Prop):Prop:=∀s a s',Ext t0 s.ts->Inv s->m s=.ok (a,s')->Inv s'/\Ext s.ts s'.ts/\P a s'.ts
section
variable {α β:Type} {t0:List Ty} {ad:List Tk}
theorem IK.aq{m:M α}{k:α->M β}{P:α->List Ty->Prop}{Q:β->List Ty->Prop}(h:IK t0 m P)(g:∀a t1,Ext t0 t1->P a t1->IK t1 (k a) Q):IK t0 (Ty.aq m k) Q:=λs b s' h0 hi e=>by
 obtain⟨a,s1,e1,e2⟩:=ar e;obtain⟨h1,h2,h3⟩:=h _ _ _ h0 hi e1;obtain⟨g1,g2,g3⟩:=g a s1.ts (h0.trans h2) h3 s1 b s' (Ext.refl _) h1 e2;exact⟨g1,h2.trans g2,g3⟩
theorem IK.ret(a:α){P:α->List Ty->Prop}(h:∀t,Ext t0 t->P a t):IK t0 (ret a) P:=λs b s' h0 hi e=>by cases e;exact⟨hi,Ext.refl _,h _ h0⟩
theorem IK.fail(n:Nat)(P:α->List Ty->Prop):IK t0 (fail (α:=α) ad n) P:=λs b s' _ _ e=>by cases e
theorem IK.step:IK t0 step λ_ _=>True:=λs b s' h0 hi e=>by cases e;exact⟨⟨hi.wf,hi.nm,hi.ns⟩,Ext.refl _,trivial⟩
theorem IK.take(x:List UInt8):IK t0 (take ad x) λ_ _=>True:=λs b s' h0 hi e=>by
 unfold Ty.take at e;split at e<;>cases e<;>exact⟨⟨hi.wf,hi.nm,hi.ns⟩,Ext.refl _,trivial⟩
theorem IK.need(x:List UInt8):IK t0 (need ad x) λ_ _=>True:=λs b s' h0 hi e=>by
 unfold Ty.need at e;split at e<;>cases e;exact⟨⟨hi.wf,hi.nm,hi.ns⟩,Ext.refl _,trivial⟩
theorem IK.name(ht:∀t∈ad,TkOk t)(met:List BA):IK t0 (name ad met) λx _=>NameOk x:=λs b s' h0 hi e=>by
 unfold Ty.name at e;split at e
 ·cases e
 ·rename_i hk;split at e<;>cases e
  exact⟨⟨hi.wf,hi.nm,hi.ns⟩,Ext.refl _,(zj ht _).name (by omega)⟩
theorem IK.look{k:St->M α}{P:α->List Ty->Prop}(h:∀s,IK t0 (k s) P):IK t0 (Ty.look k) P:=λs a s' h0 hi x=>h s s a s' h0 hi x
theorem IK.ite{p:Prop} [Decidable p]{m n:M α}{P:α->List Ty->Prop}(h:p->IK t0 m P)(g:¬p->IK t0 n P):IK t0 (if p then m else n) P:=by
 split
 ·exact h ‹_›
 ·exact g ‹_›
theorem IK.addNode(nd:Nd)(h:∀t,Ext t0 t->NdOk nd t):IK t0 (addNode nd) λ_ _=>True:=λs b s' h0 hi e=>by
 cases e;refine⟨⟨hi.wf,hi.nm,λx hx=>?_⟩,Ext.refl _,trivial⟩;rw[List.mem_append]at hx
 rcases hx with hx|hx
 ·exact hi.ns x hx
 ·simp at hx;subst hx;exact h _ h0
theorem IK.gi(a:Nat):IK t0 (gi a) λ_ _=>True:=λs b s' h0 hi e=>by
 cases e;exact⟨⟨hi.wf,hi.nm,λx hx=>hi.ns x (List.mem_of_mem_take hx)⟩,Ext.refl _,trivial⟩
theorem IK.r'(ht:∀t∈ad,TkOk t)(hL:ad.length<=1001)(r:Nat):IK t0 (r' ad r) λn t=>TyIn n t:=λs n s' h0 hi e=>by
 obtain⟨h1,h2,h3⟩:=qm ad hL r _ _ _ hi.wf e;obtain⟨g1,g2,_⟩:=BJ ad hL r _ _ _ hi.wf e;have h4:=(Lw (λt h=>(ht t h).name) r _ _ _ hi.nm e).1;refine⟨⟨h1,h4,λx hx=>?_⟩,g1,h3,by omega⟩;rw[aC.r' ad r _ _ _ e]at hx
 exact(hi.ns x hx).ext g1
theorem bW{nd:Nd}(hs:nd.text.size<=30)(Wl:nd.ty= -1)(h1:nd.kind=1->Om nd.n)(abY:nd.kind≠1->nd.n<=1)(h2:nd.kind=2->LitOk nd.text)(h3:nd.kind=5\/nd.kind=8\/(15<=nd.kind/\nd.kind<=19)->NameOk nd.text)
  (h4:nd.kind=12->nd.text.data.toList∈nP) (h5:nd.kind=13->nd.text.data.toList∈gW) (h6:nd.kind≠14):∀t,NdOk nd t:=λt=>⟨hs,h1,abY,h2,h3,h4,h5,.inl Wl,λh=>absurd h h6⟩
theorem IK.list{x:List UInt8}{m:List α->M α}{P:α->List Ty->Prop}{t0:List Ty}(hP:∀a t t',P a t->Ext t t'->P a t')(hm:∀t1 l,Ext t0 t1->IK t1 (m l) P):∀f l t1,Ext t0 t1->(∀a∈l,P a t1)->IK t1 (list ad x m f l) λl t=>∀a∈l,P a t
 |0,_,_,_,_=>IK.fail _ _
 |f+1,l,t1,he,hl=>(IK.take _).aq λ_ t2 e2 _=>IK.ite (λ_=>IK.ret l λt et a ha=>hP a _ _ (hl a ha) (e2.trans et)) λ_=>
   (show IK t2 _ (λ_ _=>True)from IK.ite (λ_=>IK.ret () λ_ _=>trivial) λ_=>IK.need _).aq λ_ t3 e3 _=>(hm t3 l ((he.trans e2).trans e3)).aq λn t4 e4 hn=>
    IK.list hP hm f (l++[n]) t4 (((he.trans e2).trans e3).trans e4) λa ha=>by
     rw[List.mem_append]at ha
     rcases ha with ha|ha
     ·exact hP a _ _ (hl a ha) ((e2.trans e3).trans e4)
     ·simp at ha;subst ha;exact hn
end
section
variable {ad:List Tk}
theorem IK.two{t0:List Ty}{x:BA}{a b:Nat}(hx:x.data.toList∈nP)(hs:x.size<=30):IK t0 (two x a b) λ_ _=>True:=
 IK.look λs=>IK.addNode _ λt _=>bW hs rfl (λh=>(by cases h)) (λ_=>(by simp[af])) (λh=>(by cases h)) (λh=>(by simp[af]at h)) (λ_=>hx) (λh=>(by cases h)) (by simp[af]) t
theorem yY{x:List UInt8}{p:Nat}(h:is ad x p=true): (cur ad p).text.data.toList=x:=by
 unfold is at h;simp only[Bool.and_eq_true,decide_eq_true_eq]at h;exact h.2
theorem zS{l:List (List UInt8)}{p:Nat}(h:l.any (λx=>is ad x p)=true): (cur ad p).text.data.toList∈l:=by
 obtain⟨x,hx,hi⟩:=List.any_eq_true.1 h;rw[yY hi];exact hx
theorem sD{ONE:M Nat}(ht:∀t∈ad,TkOk t){bh:List (List UInt8)}(LH:∀x∈bh,x∈nP):∀f n t0,(∀t0,IK t0 ONE λ_ _=>True)->IK t0 (cW ad ONE bh f n) λ_ _=>True
 |0,_,_,_=>IK.fail _ _
 |f+1,n,t0,h=>IK.look λs=>IK.ite (λhs=>IK.step.aq λ_ t1 _ _=>(h t1).aq λ_ t2 _ _=>(IK.two (LH _ (zS hs)) (zj ht _).size).aq λm t3 _ _=>sD ht LH f m t3 h) (λ_=>IK.ret n λ_ _=>trivial)
theorem Ej{ONE:M Nat}(ht:∀t∈ad,TkOk t){bh:List (List UInt8)}(LH:∀x∈bh,x∈nP)(h:∀t0,IK t0 ONE λ_ _=>True)(t0:List Ty):IK t0 (left ad ONE bh) λ_ _=>True:=
 (h t0).aq λn t1 _ _=>sD ht LH _ n t1 h
theorem yE{ONE:M Nat}(ht:∀t∈ad,TkOk t)(h:∀t0,IK t0 ONE λ_ _=>True)(t0:List Ty):IK t0 (pY ad ONE) λ_ _=>True:=
 Ej ht (by decide) (Ej ht (by decide) h) t0
theorem JR{ONE:M Nat}(ht:∀t∈ad,TkOk t)(h:∀t0,IK t0 ONE λ_ _=>True)(t0:List Ty):IK t0 (jH ad ONE) λ_ _=>True:=
 (yE ht h t0).aq λn t1 _ _=>(IK.take _).aq λ_ t2 _ _=>IK.ite (λ_=>(yE ht h t2).aq λm t3 _ _=>IK.two (by decide) (by decide)) λ_=>
  (IK.take _).aq λ_ t3 _ _=>IK.ite (λ_=>(yE ht h t3).aq λm t3 _ _=>IK.two (by decide) (by decide)) λ_=>IK.ret n λ_ _=>trivial
theorem lB{T E:M Nat}(ht:∀t∈ad,TkOk t)(hT:∀t0,IK t0 T TyIn)(hE:∀t0,IK t0 E λ_ _=>True):∀f a t0,IK t0 (behind ad T E f a) λ_ _=>True
 |0,_,_=>IK.fail _ _
 |f+1,a,t0=>IK.look λs=>(IK.take _).aq λ_ t1 _ _=>IK.ite (λ_=>(IK.list (P:=λ_ _=>True) (λ_ _ _ _ _=>trivial) (λt1 _ _=>hE t1) _ [] t1 (Ext.refl _) (λ_ _=>trivial)).aq λl t2 _ _=>(IK.addNode _ λt _=>bW zr rfl (λh=>(by cases h)) (λ_=>(by simp[af])) (λh=>(by cases h)) (λh=>(by simp[af]at h)) (λh=>(by cases h)) (λh=>(by cases h)) (by simp[af]) t).aq λm t3 _ _=>lB ht hT hE f m t3) λ_=>
   (IK.take _).aq λ_ t2 _ _=>IK.ite (λ_=>(IK.name ht []).aq λx t3 _ hx=>(IK.addNode _ λt _=>bW (nT hx.size (by omega)) rfl (λh=>(by cases h)) (λ_=>(by simp[af])) (λh=>(by cases h)) (λ_=>hx) (λh=>(by cases h)) (λh=>(by cases h)) (by simp[af]) t).aq λm t3 _ _=>lB ht hT hE f m t3) λ_=>
   (IK.take _).aq λ_ t2 _ _=>IK.ite (λ_=>(hE t2).aq λc t3 _ _=>(IK.need _).aq λ_ t4 _ _=>(IK.addNode _ λt _=>bW zr rfl (λh=>(by cases h)) (λ_=>(by simp[af])) (λh=>(by cases h)) (λh=>(by simp[af]at h)) (λh=>(by cases h)) (λh=>(by cases h)) (by simp[af]) t).aq λm t3 _ _=>lB ht hT hE f m t3) λ_=>
   (IK.take _).aq λ_ t2 _ _=>IK.ite (λ_=>(hT t2).aq λc t3 _ hc=>(IK.addNode _ λt et=>⟨zr,λh=>(by cases h),λ_=>(by simp[af]),λh=>(by cases h),λh=>(by simp[af]at h),λh=>(by cases h),λh=>(by cases h),.inr ⟨c,rfl,hc.ext et⟩,λ_=>Int.natCast_nonneg _⟩).aq λm t3 _ _=>lB ht hT hE f m t3) λ_=>IK.ret a λ_ _=>trivial
theorem oZ{T:M Nat}(hT:∀t0,IK t0 T TyIn)(t0:List Ty):IK t0 (written ad T) λz t=>zz z t:=
 (IK.take _).aq λ_ t1 _ _=>IK.ite (λ_=>(hT t1).aq λn t2 _ hn=>IK.ret _ λt et=>.inr ⟨n,rfl,hn.ext et⟩) λ_=>IK.ret _ λt _=>.inl rfl
theorem I7{E:M Nat}(ht:∀t∈ad,TkOk t)(hE:∀t0,IK t0 E λ_ _=>True)(met:List BA)(t0:List Ty):IK t0 (hZ ad E met) λ_ _=>True:=
 IK.look λ_=>(IK.name ht met).aq λx t1 _ hx=>(IK.need _).aq λ_ t2 _ _=>(hE t2).aq λa t3 _ _=>(IK.addNode _ λt _=>bW (nT hx.size (by omega)) rfl (λh=>(by cases h)) (λ_=>(by simp[af])) (λh=>(by cases h)) (λ_=>hx) (λh=>(by cases h)) (λh=>(by cases h)) (by simp[af]) t).aq λn t4 _ _=>IK.ret _ λ_ _=>trivial
theorem Fi{T:M Nat}(ht:∀t∈ad,TkOk t)(hT:∀t0,IK t0 T TyIn)(met:List BA)(t0:List Ty):IK t0 (gB ad T met) λ_ _=>True:=
 IK.look λ_=>(IK.name ht met).aq λx t1 _ hx=>(oZ hT t1).aq λz t2 _ hz=>(IK.addNode _ λt et=>⟨nT hx.size (by omega),λh=>(by cases h),λ_=>(by simp[af]),λh=>(by cases h),λ_=>hx,λh=>(by cases h),λh=>(by cases h),hz.ext et,λh=>(by cases h)⟩).aq λn t4 _ _=>IK.ret _ λ_ _=>trivial
theorem BL{S:M Nat}(hS:∀t0,IK t0 S λ_ _=>True):∀f l t0,IK t0 (stmts ad S f l) λ_ _=>True
 |0,_,_=>IK.fail _ _
 |f+1,l,t0=>(IK.take _).aq λ_ t1 _ _=>IK.ite (λ_=>IK.ret l λ_ _=>trivial) λ_=>(hS t1).aq λn t2 _ _=>BL hS f _ t2
theorem qZ{S:M Nat}(hS:∀t0,IK t0 S λ_ _=>True)(t0:List Ty):IK t0 (dW ad S) λ_ _=>True:=
 IK.look λ_=>(IK.need _).aq λ_ t1 _ _=>(BL hS _ _ t1).aq λl t2 _ _=>IK.addNode _ λt _=>bW zr rfl (λh=>(by cases h)) (λ_=>(by simp[af])) (λh=>(by cases h)) (λh=>(by simp[af]at h)) (λh=>(by cases h)) (λh=>(by cases h)) (by simp[af]) t
theorem yF{T S:M Nat}(ht:∀t∈ad,TkOk t)(hT:∀t0,IK t0 T TyIn)(hS:∀t0,IK t0 S λ_ _=>True)(pos:Nat)(t0:List Ty):IK t0 (cA ad T S pos) λ_ _=>True:=
 (IK.need _).aq λ_ t1 _ _=>(IK.list (P:=λ_ _=>True) (λ_ _ _ _ _=>trivial) (λt1 l _=>Fi ht hT _ t1) _ [] t1 (Ext.refl _) (λ_ _=>trivial)).aq λl t2 _ _=>(oZ hT t2).aq λz t3 _ hz=>(qZ hS t3).aq λa t4 e4 _=>
  IK.addNode _ λt et=>⟨zr,λh=>(by cases h),λ_=>(by simp[af]),λh=>(by cases h),λh=>(by simp[af]at h),λh=>(by cases h),λh=>(by cases h),hz.ext (e4.trans et),λh=>(by cases h)⟩
theorem Dy{T E S:M Nat}(ht:∀t∈ad,TkOk t)(hT:∀t0,IK t0 T TyIn)(hE:∀t0,IK t0 E λ_ _=>True)(hS:∀t0,IK t0 S λ_ _=>True)(t0:List Ty):IK t0 (cD ad T E S) λ_ _=>True:=by
 refine IK.look λs=>?_
 have hc:=zj ht s.pos;refine IK.ite (λhk=>IK.step.aq λ_ t1 _ _=>IK.addNode _ λt _=>bW zr rfl (λ_=>⟨_,hc.num hk,rfl⟩) (λh=>absurd rfl h) (λh=>(by cases h)) (λh=>(by simp[af]at h)) (λh=>(by cases h)) (λh=>(by cases h)) (by simp[af]) t) λ_=>?_
 refine IK.ite (λhk=>IK.step.aq λ_ t1 _ _=>IK.addNode _ λt _=>bW hc.size rfl (λh=>(by cases h)) (λ_=>(by simp[af])) (λ_=>hc.lit hk) (λh=>(by simp[af]at h)) (λh=>(by cases h)) (λh=>(by cases h)) (by simp[af]) t) λ_=>?_
 refine IK.ite (λhk=>IK.step.aq λ_ t1 _ _=>IK.addNode _ λt _=>bW hc.size rfl (λh=>(by cases h)) (λ_=>(by simp[af])) (λh=>(by cases h)) (λ_=>hc.name hk) (λh=>(by cases h)) (λh=>(by cases h)) (by simp[af]) t) λ_=>?_
 refine(IK.take _).aq λ_ t1 _ _=>IK.ite (λ_=>IK.addNode _ λt _=>bW zr rfl (λh=>(by cases h)) (λ_=>by simp) (λh=>(by cases h)) (λh=>(by simp[af]at h)) (λh=>(by cases h)) (λh=>(by cases h)) (by simp[af]) t) λ_=>?_
 refine(IK.take _).aq λ_ t2 _ _=>IK.ite (λ_=>IK.addNode _ λt _=>bW zr rfl (λh=>(by cases h)) (λ_=>(by simp[af])) (λh=>(by cases h)) (λh=>(by simp[af]at h)) (λh=>(by cases h)) (λh=>(by cases h)) (by simp[af]) t) λ_=>?_
 refine(IK.take _).aq λ_ t3 _ _=>IK.ite (λ_=>IK.addNode _ λt _=>bW zr rfl (λh=>(by cases h)) (λ_=>(by simp[af])) (λh=>(by cases h)) (λh=>(by simp[af]at h)) (λh=>(by cases h)) (λh=>(by cases h)) (by simp[af]) t) λ_=>?_
 refine(IK.take _).aq λ_ t4 _ _=>IK.ite (λ_=>yF ht hT hS _ t4) λ_=>?_
 refine(IK.take _).aq λ_ t5 _ _=>IK.ite (λ_=>(IK.list (P:=λ_ _=>True) (λ_ _ _ _ _=>trivial) (λt1 _ _=>hE t1) _ [] t5 (Ext.refl _) (λ_ _=>trivial)).aq λl t6 _ _=>IK.addNode _ λt _=>bW zr rfl (λh=>(by cases h)) (λ_=>(by simp[af])) (λh=>(by cases h)) (λh=>(by simp[af]at h)) (λh=>(by cases h)) (λh=>(by cases h)) (by simp[af]) t) λ_=>?_
 refine(IK.take _).aq λ_ t6 _ _=>IK.ite (λ_=>(IK.list (P:=λ_ _=>True) (λ_ _ _ _ _=>trivial) (λt1 l _=>I7 ht hE _ t1) _ [] t6 (Ext.refl _) (λ_ _=>trivial)).aq λl t7 _ _=>IK.addNode _ λt _=>bW zr rfl (λh=>(by cases h)) (λ_=>(by simp[af])) (λh=>(by cases h)) (λh=>(by simp[af]at h)) (λh=>(by cases h)) (λh=>(by cases h)) (by simp[af]) t) λ_=>?_
 exact(IK.need _).aq λ_ t7 _ _=>(hE t7).aq λa t8 _ _=>(IK.need _).aq λ_ t9 _ _=>IK.ret a λ_ _=>trivial
theorem Ew{T E O S:M Nat}(ht:∀t∈ad,TkOk t)(hT:∀t0,IK t0 T TyIn)(hE:∀t0,IK t0 E λ_ _=>True)(hO:∀t0,IK t0 O λ_ _=>True)(hS:∀t0,IK t0 S λ_ _=>True)(t0:List Ty):IK t0 (pw ad T E O S) λ_ _=>True:=
 IK.look λs=>IK.ite (λhp=>IK.step.aq λ_ t1 _ _=>(hO t1).aq λa t2 _ _=>IK.addNode _ λt _=>bW (zj ht _).size rfl (λh=>(by cases h)) (λ_=>(by simp[af])) (λh=>(by cases h)) (λh=>(by simp[af]at h)) (λh=>(by cases h)) (λ_=>zS hp) (by simp[af]) t)
  λ_=>(Dy ht hT hE hS t0).aq λa t1 _ _=>lB ht hT hE _ a t1
theorem D'{s:St}(h:Inv s)(a:Nat)(hk: (cG s a).kind≠0):NdOk (cG s a) s.ts:=by
 unfold cG at hk⊢;cases e:s.ns[a]? with
 |none=>rw[e]at hk;exact absurd rfl hk
 |some nd=>exact h.ns nd (List.mem_of_getElem? e)
theorem Gf{E:M Nat}(hE:∀t0,IK t0 E λ_ _=>True)(t0:List Ty):IK t0 (dc ad E) λ_ _=>True:=by
 refine(hE t0).aq λa t1 _ _=>λs n s' h0 hi x=>?_
 revert x;have key:∀(f:Nat->Nd),(∀v t,NdOk (f v) t)->IK t1 (aq (gi a) λ_=>aq step λ_=>aq E λv=>aq (need ad [59]) λ_=>addNode (f v)) λ_ _=>True:=λf hf=>
  (IK.gi a).aq λ_ t2 _ _=>IK.step.aq λ_ t3 _ _=>(hE t3).aq λv t4 _ _=>(IK.need _).aq λ_ t5 _ _=>IK.addNode _ λt _=>hf v t
 refine(show IK t1 (if is ad [61] s.pos then _ else _) (λ_ _=>True)from ?_) s n s' h0 hi;refine IK.ite (λ_=>IK.ite (λhk=>?_) λ_=>IK.ite (λhk=>?_) λ_=>IK.ite (λhk=>?_) λ_=>IK.fail _ _) λ_=>(IK.need _).aq λ_ t2 _ _=>IK.addNode _ λt _=>bW zr rfl (λh=>(by cases h)) (λ_=>(by simp[af])) (λh=>(by cases h)) (λh=>(by simp[af]at h)) (λh=>(by cases h)) (λh=>(by cases h)) (by simp[af]) t
 ·have ho:=D' hi a (by omega);exact key _ λv t=>bW (nd:={af 18 (cG s a).pos with text:=(cG s a).text,a:=v}) ho.size rfl (λh=>(by cases h)) (λ_=>(by simp[af])) (λh=>(by cases h)) (λ_=>ho.name (.inl hk)) (λh=>(by cases h)) (λh=>(by cases h)) (by simp[af]) t
 ·have ho:=D' hi a (by omega);exact key _ λv t=>bW (nd:={af 19 (cG s a).pos with text:=(cG s a).text,a:=(cG s a).a,b:=v}) ho.size rfl (λh=>(by cases h)) (λ_=>(by simp[af])) (λh=>(by cases h)) (λ_=>ho.name (.inr (.inl hk))) (λh=>(by cases h)) (λh=>(by cases h)) (by simp[af]) t
 ·exact key _ λv t=>bW zr rfl (λh=>(by cases h)) (λ_=>(by simp[af])) (λh=>(by cases h)) (λh=>(by simp[af]at h)) (λh=>(by cases h)) (λh=>(by cases h)) (by simp[af]) t
theorem uv{E S:M Nat}(hE:∀t0,IK t0 E λ_ _=>True)(hS:∀t0,IK t0 S λ_ _=>True)(yes:Bool)(pos:Nat)(t0:List Ty):IK t0 (bF ad E S yes pos) λ_ _=>True:=by
 have hn:∀(nd:Nd),nd.text=⟨#[]⟩->nd.ty= -1->nd.n=0->nd.kind=22\/nd.kind=23->∀t,NdOk nd t:=λnd h1 h2 h3 h4=>bW (by rw[h1];exact zr) h2 (λh=>by omega) (λ_=>by omega) (λh=>by omega) (λh=>by omega) (λh=>by omega) (λh=>by omega) (by omega)
 exact IK.step.aq λ_ t1 _ _=>(IK.need _).aq λ_ t2 _ _=>(hE t2).aq λa t3 _ _=>(IK.need _).aq λ_ t4 _ _=>(qZ hS t4).aq λb t5 _ _=>
  IK.ite (λ_=>(IK.take _).aq λ_ t6 _ _=>IK.ite (λ_=>(qZ hS t6).aq λc t7 _ _=>IK.addNode _ λt _=>hn _ rfl rfl rfl (.inl rfl) t) λ_=>IK.addNode _ λt _=>hn _ rfl rfl rfl (.inl rfl) t) λ_=>IK.addNode _ λt _=>hn _ rfl rfl rfl (.inr rfl) t
theorem Je{T E S:M Nat}(ht:∀t∈ad,TkOk t)(hT:∀t0,IK t0 T TyIn)(hE:∀t0,IK t0 E λ_ _=>True)(hS:∀t0,IK t0 S λ_ _=>True)(t0:List Ty):IK t0 (dv ad T E S) λ_ _=>True:=by
 refine IK.look λs=>(IK.take _).aq λ_ t1 _ _=>IK.ite (λ_=>?_) λ_=>?_
 ·exact(IK.name ht []).aq λx t2 _ hx=>(oZ hT t2).aq λz t3 _ hz=>(IK.need _).aq λ_ t4 e4 _=>(hE t4).aq λa t5 e5 _=>(IK.need _).aq λ_ t6 e6 _=>IK.addNode _ λt et=>
   ⟨nT hx.size (by omega),λh=>(by cases h),λ_=>(by simp[af]),λh=>(by cases h),λ_=>hx,λh=>(by cases h),λh=>(by cases h),hz.ext (((e4.trans e5).trans e6).trans et),λh=>(by cases h)⟩
 ·have hn:∀(nd:Nd),nd.text=⟨#[]⟩->nd.ty= -1->nd.n=0->nd.kind=21\/nd.kind=24->∀t,NdOk nd t:=λnd h1 h2 h3 h4=>bW (by rw[h1];exact zr) h2 (λh=>by omega) (λ_=>by omega) (λh=>by omega) (λh=>by omega) (λh=>by omega) (λh=>by omega) (by omega)
  exact(IK.take _).aq λ_ t2 _ _=>IK.ite (λ_=>(hE t2).aq λa t5 _ _=>(IK.need _).aq λ_ t6 _ _=>IK.addNode _ λt _=>hn _ rfl rfl rfl (.inl rfl) t) λ_=>
   (IK.take _).aq λ_ t2 _ _=>IK.ite (λ_=>(hE t2).aq λa t5 _ _=>(IK.need _).aq λ_ t6 _ _=>IK.addNode _ λt _=>hn _ rfl rfl rfl (.inr rfl) t) λ_=>
    IK.look λs2=>IK.ite (λ_=>uv hE hS _ _ t2) λ_=>IK.ite (λ_=>uv hE hS _ _ t2) λ_=>Gf hE t2
theorem Oz(ht:∀t∈ad,TkOk t)(hL:ad.length<=1001):∀r,(∀t0,IK t0 (lv ad r).E λ_ _=>True)/\(∀t0,IK t0 (lv ad r).O λ_ _=>True)/\(∀t0,IK t0 (lv ad r).S λ_ _=>True)
 |0=>⟨λ_=>IK.fail _ _,λ_=>IK.fail _ _,λ_=>IK.fail _ _⟩
 |r+1=>by
  obtain⟨h1,h2,h3⟩:=Oz ht hL r;have hT:∀t0,IK t0 (r' ad r) TyIn:=λt0=>IK.r' ht hL r
  exact⟨JR ht (Ew ht hT h1 h2 h3),Ew ht hT h1 h2 h3,Je ht hT h1 h3⟩
theorem sd{S:M Nat}(hS:∀t0,IK t0 S λ_ _=>True):∀f l t0,IK t0 (fu ad S f l) λ_ _=>True
 |0,_,_=>IK.fail _ _
 |f+1,l,t0=>IK.look λs=>IK.ite (λ_=>IK.ret l λ_ _=>trivial) λ_=>(hS t0).aq λn t1 _ _=>sd hS f _ t1
theorem Jt(ht:∀t∈ad,TkOk t)(hL:ad.length<=1001)(t0:List Ty):IK t0 (m' ad) λ_ _=>True:=
 (sd (Oz ht hL 20).2.2 _ _ t0).aq λl t1 _ _=>IK.addNode _ λt _=>bW zr rfl (λh=>(by cases h)) (λ_=>(by simp[af])) (λh=>(by cases h)) (λh=>(by simp[af]at h)) (λh=>(by cases h)) (λh=>(by cases h)) (by simp[af]) t
end
structure PgOk(pg:Pg):Prop where
 wf:Wf pg.ts
 nm:Nm pg.ts
 ns:∀nd∈pg.ns,NdOk nd pg.ts
 ju:pg.ns.length<=1200
 SP:pg.ts.length<=300
theorem lN{s:BA}{pg:Pg}(h:parse s=.ok pg):PgOk pg:=by
 unfold parse at h;split at h
 ·cases h
 ·rename_i ad N6;split at h
  ·cases h
  ·rename_i n st e;split at h
   ·cases h
   ·rename_i hlen;cases h;obtain⟨h1,_,_⟩:=Jt (LX N6) (ED _ _ N6).2.1 [] _ _ _ (Ext.refl _) ⟨Wf.nil,Nm.nil,λx hx=>by simp at hx⟩ e;exact⟨h1.wf,h1.nm,h1.ns,by dsimp only;omega,by dsimp only;omega⟩
end Ty
end
namespace Ty
def Ql(ts:List Ty)(ty:Int):List UInt8:=if ty<0 then []else [58,32]++text (den ts ty.toNat)
def gP:Nat->List UInt8
 |0=>[]
 |n+1=>[32,32]++gP n
def CS(x:BA):Nat:=if x.data.toList=[42]then 2 else if x.data.toList=[43]\/x.data.toList=[45]then 1 else 0
def lvl:Ex->Nat
 | .one .. =>3
 | .two _ x _ _=>CS x
 | .num .. =>4
 | .text .. =>4
 | .bool .. =>4
 | .null .. =>4
 | .var .. =>4
 | .fn .. =>4
 | .call .. =>4
 | .get .. =>4
 | .atX .. =>4
 | .obj .. =>4
 | .arr .. =>4
 | .asX .. =>4
def par(b:Bool)(s:List UInt8):List UInt8:=if b then [40]++s++[41]else s
def Vr(ts:List Ty)(q:Par):List UInt8:=q.text.data.toList++Ql ts q.ty
def Mh:List UInt8:=[116,121,112,101,111,102]
mutual
def wE(ts:List Ty)(ind:Nat):Ex->List UInt8
 | .num _ n=>Lib.itoa n
 | .text _ x=>[34]++x.data.toList++[34]
 | .bool _ n=>if n=1 then [116,114,117,101]else [102,97,108,115,101]
 | .null _=>[110,117,108,108]
 | .var _ x=>x.data.toList
 | .fn _ ps ty _ body=>[102,110,40]++uz [44,32] (ps.map (Vr ts))++[41]++Ql ts ty++[32]++([123,10]++Rq ts (ind+1) body++gP ind++[125])
 | .call _ a l=>par (decide (lvl a<4)) (wE ts ind a)++[40]++uz [44,32] (VL ts ind l)++[41]
 | .get _ a x=>par (decide (lvl a<4)) (wE ts ind a)++[46]++x.data.toList
 | .atX _ a b=>par (decide (lvl a<4)) (wE ts ind a)++[91]++wE ts ind b++[93]
 | .obj _ l=>if l.length=0 then [123,125]else [123,32]++uz [44,32] (Zx ts ind l)++[32,125]
 | .arr _ l=>[91]++uz [44,32] (VL ts ind l)++[93]
 | .two _ x a b=>par (decide (lvl a<max (CS x) 1)) (wE ts ind a)++[32]++x.data.toList++[32]++par (decide (lvl b<CS x+1)) (wE ts ind b)
 | .one _ x a=>x.data.toList++(if x.data.toList=Mh then [32]else [])++par (decide (lvl a<3)) (wE ts ind a)
 | .asX _ a ty=>par (decide (lvl a<4)) (wE ts ind a)++[32,97,115,32]++text (den ts ty.toNat)
def VL(ts:List Ty)(ind:Nat):List Ex->List (List UInt8)
 |[]=>[]
 |e::l=>wE ts ind e::VL ts ind l
def Zx(ts:List Ty)(ind:Nat):List (Nat×BA×Ex)->List (List UInt8)
 |[]=>[]
 |(_,x,e)::l=>(x.data.toList++[58,32]++wE ts ind e)::Zx ts ind l
def Rq(ts:List Ty)(ind:Nat):List Sm->List UInt8
 |[]=>[]
 |e::l=>wS ts ind e++Rq ts ind l
def wS(ts:List Ty)(ind:Nat):Sm->List UInt8
 | .jR _ x ty a=>gP ind++[108,101,116,32]++x.data.toList++Ql ts ty++[32,61,32]++wE ts ind a++[59,10]
 | .set _ x v=>gP ind++x.data.toList++[32,61,32]++wE ts ind v++[59,10]
 | .put _ a x v=>gP ind++par (decide (lvl a<4)) (wE ts ind a)++[46]++x.data.toList++[32,61,32]++wE ts ind v++[59,10]
 | .lay _ a b v=>gP ind++par (decide (lvl a<4)) (wE ts ind a)++[91]++wE ts ind b++[93,32,61,32]++wE ts ind v++[59,10]
 | .print _ a=>gP ind++[112,114,105,110,116,32]++wE ts ind a++[59,10]
 | .ret _ a=>gP ind++[114,101,116,117,114,110,32]++wE ts ind a++[59,10]
 | .u9 _ a=>gP ind++wE ts ind a++[59,10]
 | .if_ _ a _ b none=>gP ind++[105,102,32,40]++wE ts ind a++[41,32]++([123,10]++Rq ts (ind+1) b++gP ind++[125])++[10]
 | .if_ _ a _ b (some (_,c))=>gP ind++[105,102,32,40]++wE ts ind a++[41,32]++([123,10]++Rq ts (ind+1) b++gP ind++[125])++[32,101,108,115,101,32]++([123,10]++Rq ts (ind+1) c++gP ind++[125])++[10]
 | .while_ _ a _ b=>gP ind++[119,104,105,108,101,32,40]++wE ts ind a++[41,32]++([123,10]++Rq ts (ind+1) b++gP ind++[125])++[10]
end
mutual
def ax:Ex->Nat
 | .num .. =>1
 | .text .. =>1
 | .bool .. =>1
 | .null .. =>1
 | .var .. =>1
 | .fn _ ps _ _ body=>ps.length+aJ body+2
 | .call _ a l=>ax a+eE l+1
 | .get _ a _=>ax a+1
 | .atX _ a b=>ax a+ax b+1
 | .obj _ l=>fE l+1
 | .arr _ l=>eE l+1
 | .two _ _ a b=>ax a+ax b+1
 | .one _ _ a=>ax a+1
 | .asX _ a _=>ax a+1
def eE:List Ex->Nat
 |[]=>0
 |e::l=>ax e+eE l
def fE:List (Nat×BA×Ex)->Nat
 |[]=>0
 |(_,_,e)::l=>ax e+1+fE l
def aJ:List Sm->Nat
 |[]=>0
 |e::l=>da e+aJ l
def da:Sm->Nat
 | .jR _ _ _ a=>ax a+1
 | .set _ _ v=>ax v+1
 | .put _ a _ v=>ax a+ax v+1
 | .lay _ a b v=>ax a+ax b+ax v+1
 | .print _ a=>ax a+1
 | .ret _ a=>ax a+1
 | .u9 _ a=>ax a+1
 | .if_ _ a _ b none=>ax a+aJ b+2
 | .if_ _ a _ b (some (_,c))=>ax a+aJ b+aJ c+3
 | .while_ _ a _ b=>ax a+aJ b+2
end
theorem vz:∀(ps:List Par)(ns:List Nd),(g_ ps ns).1.length=ns.length+ps.length/\(g_ ps ns).2.length=ps.length
 |[],ns=>by simp[g_]
 |q::ps,ns=>by
  have:=vz ps (ns++[{af 16 q.pos with text:=q.text,ty:=q.ty}]);simp[g_]at this⊢
  omega
mutual
theorem bd:∀(e:Ex)(ns:List Nd),(aT e ns).1.length=ns.length+ax e
 | .num _ _,ns=>by simp[aT,ax]
 | .text _ _,ns=>by simp[aT,ax]
 | .bool _ _,ns=>by simp[aT,ax]
 | .null _,ns=>by simp[aT,ax]
 | .var _ _,ns=>by simp[aT,ax]
 | .fn p ps ty bp body,ns=>by
  have h1:=vz ps ns;have h2:=fP body (g_ ps ns).1;rw[aT,ax,eu];simp;omega
 | .call p a l,ns=>by
  have h1:=bd a ns;have h2:=nQ l (aT a ns).1;rw[aT,ax];simp;omega
 | .get p a x,ns=>by have h1:=bd a ns;rw[aT,ax];simp;omega
 | .atX p a b,ns=>by
  have h1:=bd a ns;have h2:=bd b (aT a ns).1;rw[aT,ax];simp;omega
 | .obj p l,ns=>by have h1:=ub l ns;rw[aT,ax];simp;omega
 | .arr p l,ns=>by have h1:=nQ l ns;rw[aT,ax];simp;omega
 | .two p x a b,ns=>by
  have h1:=bd a ns;have h2:=bd b (aT a ns).1;rw[aT,ax];simp;omega
 | .one p x a,ns=>by have h1:=bd a ns;rw[aT,ax];simp;omega
 | .asX p a ty,ns=>by have h1:=bd a ns;rw[aT,ax];simp;omega
theorem nQ:∀(l:List Ex)(ns:List Nd),(h_ l ns).1.length=ns.length+eE l
 |[],ns=>by simp[h_,eE]
 |e::l,ns=>by
  have h1:=bd e ns;have h2:=nQ l (aT e ns).1;rw[h_,eE];simp;omega
theorem ub:∀(l:List (Nat×BA×Ex))(ns:List Nd),(iO l ns).1.length=ns.length+fE l
 |[],ns=>by simp[iO,fE]
 |(p,x,e)::l,ns=>by
  have h1:=bd e ns;have h2:=ub l ((aT e ns).1++[{af 15 p with text:=x,a:=(aT e ns).2}]);rw[iO,fE];simp at h2⊢;omega
theorem fP:∀(l:List Sm)(ns:List Nd),(eO l ns).1.length=ns.length+aJ l
 |[],ns=>by simp[eO,aJ]
 |e::l,ns=>by
  have h1:=sZ e ns;have h2:=fP l (dK e ns).1;rw[eO,aJ];simp;omega
theorem sZ:∀(e:Sm)(ns:List Nd),(dK e ns).1.length=ns.length+da e
 | .jR _ _ _ a,ns=>by have h1:=bd a ns;rw[dK,da];simp;omega
 | .set _ _ a,ns=>by have h1:=bd a ns;rw[dK,da];simp;omega
 | .put _ a _ v,ns=>by
  have h1:=bd a ns;have h2:=bd v (aT a ns).1;rw[dK,da];simp;omega
 | .lay _ a b v,ns=>by
  have h1:=bd a ns;have h2:=bd b (aT a ns).1;have h3:=bd v (aT b (aT a ns).1).1;rw[dK,da];simp;omega
 | .print _ a,ns=>by have h1:=bd a ns;rw[dK,da];simp;omega
 | .ret _ a,ns=>by have h1:=bd a ns;rw[dK,da];simp;omega
 | .u9 _ a,ns=>by have h1:=bd a ns;rw[dK,da];simp;omega
 | .if_ _ a _ b none,ns=>by
  have h1:=bd a ns;have h2:=fP b (aT a ns).1;rw[dK,da,eu];simp;omega
 | .if_ _ a bp b (some (cp,c)),ns=>by
  have h1:=bd a ns;have h2:=fP b (aT a ns).1;have h3:=fP c (eu bp b (aT a ns).1).1;have h4: (eu bp b (aT a ns).1).1.length=(eO b (aT a ns).1).1.length+1:=by rw[eu];simp
  rw[dK,da,eu];simp;omega
 | .while_ _ a _ b,ns=>by
  have h1:=bd a ns;have h2:=fP b (aT a ns).1;rw[dK,da,eu];simp;omega
end
end Ty
namespace Ty
def eH:List Par->Nat->List Nat
 |[],_=>[]
 | _::l,a=>a::eH l (a+1)
def fq:List Ex->Nat->List Nat
 |[],_=>[]
 |e::l,a=>(a+ax e-1)::fq l (a+ax e)
def eL:List (Nat×BA×Ex)->Nat->List Nat
 |[],_=>[]
 |(_,_,e)::l,a=>(a+ax e)::eL l (a+ax e+1)
def dU:List Sm->Nat->List Nat
 |[],_=>[]
 |e::l,a=>(a+da e-1)::dU l (a+da e)
def qd(ns:List Nd):List Par->Nat->Prop
 |[],_=>True
 |q::l,a=>ns[a]?=some {af 16 q.pos with text:=q.text,ty:=q.ty}/\qd ns l (a+1)
mutual
def df(ns:List Nd):Ex->Nat->Prop
 | .num p n,a=>ns[a]?=some {af 1 p with n:=n}
 | .text p x,a=>ns[a]?=some {af 2 p with text:=x}
 | .bool p n,a=>ns[a]?=some {af 3 p with n:=n}
 | .null p,a=>ns[a]?=some (af 4 p)
 | .var p x,a=>ns[a]?=some {af 5 p with text:=x}
 | .fn p ps ty bp body,a=>qd ns ps a/\iR ns body (a+ps.length)/\ns[a+ps.length+aJ body]?=some {af 26 bp with list:=dU body (a+ps.length)}/\ns[a+ps.length+aJ body+1]?=some {af 6 p with list:=eH ps a,ty:=ty,a:=a+ps.length+aJ body}
 | .call p e l,a=>df ns e a/\kN ns l (a+ax e)/\ns[a+ax e+eE l]?=some {af 7 p with a:=a+ax e-1,list:=fq l (a+ax e)}
 | .get p e x,a=>df ns e a/\ns[a+ax e]?=some {af 8 p with a:=a+ax e-1,text:=x}
 | .atX p e i,a=>df ns e a/\df ns i (a+ax e)/\ns[a+ax e+ax i]?=some {af 9 p with a:=a+ax e-1,b:=a+ax e+ax i-1}
 | .obj p l,a=>jS ns l a/\ns[a+fE l]?=some {af 10 p with list:=eL l a}
 | .arr p l,a=>kN ns l a/\ns[a+eE l]?=some {af 11 p with list:=fq l a}
 | .two p x e i,a=>df ns e a/\df ns i (a+ax e)/\ns[a+ax e+ax i]?=some {af 12 p with text:=x,a:=a+ax e-1,b:=a+ax e+ax i-1}
 | .one p x e,a=>df ns e a/\ns[a+ax e]?=some {af 13 p with text:=x,a:=a+ax e-1}
 | .asX p e ty,a=>df ns e a/\ns[a+ax e]?=some {af 14 p with a:=a+ax e-1,ty:=ty}
def kN(ns:List Nd):List Ex->Nat->Prop
 |[],_=>True
 |e::l,a=>df ns e a/\kN ns l (a+ax e)
def jS(ns:List Nd):List (Nat×BA×Ex)->Nat->Prop
 |[],_=>True
 |(p,x,e)::l,a=>df ns e a/\ns[a+ax e]?=some {af 15 p with text:=x,a:=a+ax e-1}/\jS ns l (a+ax e+1)
def iR(ns:List Nd):List Sm->Nat->Prop
 |[],_=>True
 |e::l,a=>gL ns e a/\iR ns l (a+da e)
def gL(ns:List Nd):Sm->Nat->Prop
 | .jR p x ty e,a=>df ns e a/\ns[a+ax e]?=some {af 17 p with text:=x,ty:=ty,a:=a+ax e-1}
 | .set p x e,a=>df ns e a/\ns[a+ax e]?=some {af 18 p with text:=x,a:=a+ax e-1}
 | .put p e x v,a=>df ns e a/\df ns v (a+ax e)/\ns[a+ax e+ax v]?=some {af 19 p with text:=x,a:=a+ax e-1,b:=a+ax e+ax v-1}
 | .lay p e i v,a=>df ns e a/\df ns i (a+ax e)/\df ns v (a+ax e+ax i)/\ns[a+ax e+ax i+ax v]?=some {af 20 p with a:=a+ax e-1,b:=a+ax e+ax i-1,c:=((a+ax e+ax i+ax v-1:Nat):Int)}
 | .print p e,a=>df ns e a/\ns[a+ax e]?=some {af 21 p with a:=a+ax e-1}
 | .ret p e,a=>df ns e a/\ns[a+ax e]?=some {af 24 p with a:=a+ax e-1}
 | .u9 p e,a=>df ns e a/\ns[a+ax e]?=some {af 25 p with a:=a+ax e-1}
 | .if_ p e bp b none,a=>df ns e a/\iR ns b (a+ax e)/\ns[a+ax e+aJ b]?=some {af 26 bp with list:=dU b (a+ax e)}/\ns[a+ax e+aJ b+1]?=some {af 22 p with a:=a+ax e-1,b:=a+ax e+aJ b,c:= -1}
 | .if_ p e bp b (some (cp,c)),a=>df ns e a/\iR ns b (a+ax e)/\ns[a+ax e+aJ b]?=some {af 26 bp with list:=dU b (a+ax e)}/\iR ns c (a+ax e+aJ b+1)/\
   ns[a+ax e+aJ b+1+aJ c]?=some {af 26 cp with list:=dU c (a+ax e+aJ b+1)}/\ns[a+ax e+aJ b+1+aJ c+1]?=some {af 22 p with a:=a+ax e-1,b:=a+ax e+aJ b,c:=((a+ax e+aJ b+1+aJ c:Nat):Int)}
 | .while_ p e bp b,a=>df ns e a/\iR ns b (a+ax e)/\ns[a+ax e+aJ b]?=some {af 26 bp with list:=dU b (a+ax e)}/\ns[a+ax e+aJ b+1]?=some {af 23 p with a:=a+ax e-1,b:=a+ax e+aJ b}
end
theorem cM(e:Ex)(ns:List Nd): (aT e ns).2=ns.length+ax e-1:=by
 obtain⟨n1,nd,h,_⟩:=wN e ns;have h2:=bd e ns;rw[h]at h2⊢
 simp at h2;simp only;omega
theorem iz(e:Ex):1<=ax e:=by cases e<;>simp[ax]<;>omega
theorem NQ(e:Sm):1<=da e:=by
 cases e with
 |if_ p a bp b c=>rcases c with _|⟨cp,c⟩<;>simp[da]
 | _=>simp[da]
theorem I9(e:Sm)(ns:List Nd): (dK e ns).2=ns.length+da e-1:=by
 have h2:=sZ e ns;cases e with
 |if_ p a bp b c=>rcases c with _|⟨cp,c⟩<;>(rw[dK]at h2⊢;simp only[lzA,lzC,lzN]at h2⊢;omega)
 | _=>rw[dK]at h2⊢;simp only[lzA,lzC,lzN]at h2⊢;omega
theorem aZ{ns Hs:List Nd}{nd:Nd}(h:Hs++[nd]<+:ns){k:Nat}(hk:Hs.length=k):ns[k]?=some nd:=by subst hk;exact cz h (cg _ _)
theorem bE{ns Hs:List Nd}{nd:Nd}(h:Hs++[nd]<+:ns):Hs<+:ns:=(List.prefix_append _ _).trans h
theorem xo:∀(ps:List Par)(ns:List Nd),(g_ ps ns).2=eH ps ns.length
 |[],_=>rfl
 |q::ps,ns=>by
  have h:=xo ps (ns++[{af 16 q.pos with text:=q.text,ty:=q.ty}]);rw[g_];simp only[eH,h,lzA,lzC,lzN]
theorem qS:∀(l:List Ex)(ns:List Nd),(h_ l ns).2=fq l ns.length
 |[],_=>by rw[h_];rfl
 |e::l,ns=>by
  have h:=qS l (aT e ns).1;rw[h_];simp only[fq,h,bd,cM]
theorem wJ:∀(l:List (Nat×BA×Ex))(ns:List Nd),(iO l ns).2=eL l ns.length
 |[],_=>by rw[iO];rfl
 |(p,x,e)::l,ns=>by
  have h:=wJ l ((aT e ns).1++[{af 15 p with text:=x,a:=(aT e ns).2}]);rw[iO];simp only[eL,h,bd,lzA,lzC,lzN]
theorem i_:∀(l:List Sm)(ns:List Nd),(eO l ns).2=dU l ns.length
 |[],_=>by rw[eO];rfl
 |e::l,ns=>by
  have h:=i_ l (dK e ns).1;rw[eO];simp only[dU,h,sZ,I9]
theorem Bo{ns:List Nd}:∀(ps:List Par)(n0:List Nd),(g_ ps n0).1<+:ns->qd ns ps n0.length
 |[],_,_=>trivial
 |q::ps,n0,h=>by
  rw[g_]at h
  have h1:=Bo ps _ h;have h2:=(rm ps (n0++[{af 16 q.pos with text:=q.text,ty:=q.ty}])).1.trans h;refine⟨aZ h2 rfl,?_⟩
  simpa using h1
mutual
theorem dy{ns:List Nd}:∀(e:Ex)(n0:List Nd),(aT e n0).1<+:ns->df ns e n0.length
 | .num ..,n0,h=>by rw[aT]at h;rw[df];exact aZ h rfl
 | .text ..,n0,h=>by rw[aT]at h;rw[df];exact aZ h rfl
 | .bool ..,n0,h=>by rw[aT]at h;rw[df];exact aZ h rfl
 | .null ..,n0,h=>by rw[aT]at h;rw[df];exact aZ h rfl
 | .var ..,n0,h=>by rw[aT]at h;rw[df];exact aZ h rfl
 | .fn p ps ty bp body,n0,h=>by
  rw[aT,eu]at h;dsimp only at h
  have h1:=bE h;have h2:=bE h1;have hb:=kr body _ h2;have hp:=Bo ps _ ((ic body _).1.trans h2);have l1:=vz ps n0;have l2:=fP body (g_ ps n0).1;have g1:=aZ h1 (k:=n0.length+ps.length+aJ body) (by omega);have g2:=aZ h (k:=n0.length+ps.length+aJ body+1) (by simp;omega);rw[i_,l1.1]at g1
  rw[xo,l2,l1.1]at g2
  rw[l1.1]at hb
  rw[df];exact⟨hp,hb,g1,g2⟩
 | .call p e l,n0,h=>by
  rw[aT]at h;dsimp only at h
  have h1:=bE h;have hl:=uO l _ h1;have he:=dy e _ ((lA l _).1.trans h1);have l1:=bd e n0;have l2:=nQ l (aT e n0).1;have g:=aZ h (k:=n0.length+ax e+eE l) (by omega);rw[qS,cM,l1]at g
  rw[l1]at hl
  rw[df];exact⟨he,hl,g⟩
 | .get p e x,n0,h=>by
  rw[aT]at h;dsimp only at h
  have g:=aZ h (k:=n0.length+ax e) (bd e n0);rw[cM]at g
  rw[df];exact⟨dy e _ (bE h),g⟩
 | .atX p e i,n0,h=>by
  rw[aT]at h;dsimp only at h
  have h1:=bE h;have hl:=dy i _ h1;have he:=dy e _ ((ch i _).1.trans h1);have l1:=bd e n0;have l2:=bd i (aT e n0).1;have g:=aZ h (k:=n0.length+ax e+ax i) (by omega);rw[cM,cM,l1]at g
  rw[l1]at hl
  rw[df];exact⟨he,hl,g⟩
 | .obj p l,n0,h=>by
  rw[aT]at h;dsimp only at h
  have g:=aZ h (k:=n0.length+fE l) (ub l n0);rw[wJ]at g
  rw[df];exact⟨Ah l _ (bE h),g⟩
 | .arr p l,n0,h=>by
  rw[aT]at h;dsimp only at h
  have g:=aZ h (k:=n0.length+eE l) (nQ l n0);rw[qS]at g
  rw[df];exact⟨uO l _ (bE h),g⟩
 | .two p x e i,n0,h=>by
  rw[aT]at h;dsimp only at h
  have h1:=bE h;have hl:=dy i _ h1;have he:=dy e _ ((ch i _).1.trans h1);have l1:=bd e n0;have l2:=bd i (aT e n0).1;have g:=aZ h (k:=n0.length+ax e+ax i) (by omega);rw[cM,cM,l1]at g
  rw[l1]at hl
  rw[df];exact⟨he,hl,g⟩
 | .one p x e,n0,h=>by
  rw[aT]at h;dsimp only at h
  have g:=aZ h (k:=n0.length+ax e) (bd e n0);rw[cM]at g
  rw[df];exact⟨dy e _ (bE h),g⟩
 | .asX p e ty,n0,h=>by
  rw[aT]at h;dsimp only at h
  have g:=aZ h (k:=n0.length+ax e) (bd e n0);rw[cM]at g
  rw[df];exact⟨dy e _ (bE h),g⟩
theorem uO{ns:List Nd}:∀(l:List Ex)(n0:List Nd),(h_ l n0).1<+:ns->kN ns l n0.length
 |[],_,_=>by rw[kN];trivial
 |e::l,n0,h=>by
  rw[h_]at h;dsimp only at h
  have hl:=uO l _ h;rw[bd]at hl
  rw[kN];exact⟨dy e _ ((lA l _).1.trans h),hl⟩
theorem Ah{ns:List Nd}:∀(l:List (Nat×BA×Ex))(n0:List Nd),(iO l n0).1<+:ns->jS ns l n0.length
 |[],_,_=>by rw[jS];trivial
 |(p,x,e)::l,n0,h=>by
  rw[iO]at h;dsimp only at h
  have hl:=Ah l _ h;have h1:=(rI l _).1.trans h;have g:=aZ h1 (k:=n0.length+ax e) (bd e n0);rw[List.length_append,bd]at hl
  rw[cM]at g
  rw[jS];exact⟨dy e _ (bE h1),g,hl⟩
theorem kr{ns:List Nd}:∀(l:List Sm)(n0:List Nd),(eO l n0).1<+:ns->iR ns l n0.length
 |[],_,_=>by rw[iR];trivial
 |e::l,n0,h=>by
  rw[eO]at h;dsimp only at h
  have hl:=kr l _ h;rw[sZ]at hl
  rw[iR];exact⟨Mf e _ ((ic l _).1.trans h),hl⟩
theorem Mf{ns:List Nd}:∀(e:Sm)(n0:List Nd),(dK e n0).1<+:ns->gL ns e n0.length
 | .jR p x ty e,n0,h=>by
  rw[dK]at h;dsimp only at h
  have g:=aZ h (k:=n0.length+ax e) (bd e n0);rw[cM]at g
  rw[gL];exact⟨dy e _ (bE h),g⟩
 | .set p x e,n0,h=>by
  rw[dK]at h;dsimp only at h
  have g:=aZ h (k:=n0.length+ax e) (bd e n0);rw[cM]at g
  rw[gL];exact⟨dy e _ (bE h),g⟩
 | .put p e x i,n0,h=>by
  rw[dK]at h;dsimp only at h
  have h1:=bE h;have hl:=dy i _ h1;have he:=dy e _ ((ch i _).1.trans h1);have l1:=bd e n0;have l2:=bd i (aT e n0).1;have g:=aZ h (k:=n0.length+ax e+ax i) (by omega);rw[cM,cM,l1]at g
  rw[l1]at hl
  rw[gL];exact⟨he,hl,g⟩
 | .lay p e i v,n0,h=>by
  rw[dK]at h;dsimp only at h
  have h1:=bE h;have hv:=dy v _ h1;have h2:=(ch v _).1.trans h1;have hl:=dy i _ h2;have he:=dy e _ ((ch i _).1.trans h2);have l1:=bd e n0;have l2:=bd i (aT e n0).1;have l3:=bd v (aT i (aT e n0).1).1;have g:=aZ h (k:=n0.length+ax e+ax i+ax v) (by omega);rw[cM,cM,cM,l2,l1]at g
  rw[l1]at hl
  rw[l2,l1]at hv
  rw[gL];exact⟨he,hl,hv,g⟩
 | .print p e,n0,h=>by
  rw[dK]at h;dsimp only at h
  have g:=aZ h (k:=n0.length+ax e) (bd e n0);rw[cM]at g
  rw[gL];exact⟨dy e _ (bE h),g⟩
 | .ret p e,n0,h=>by
  rw[dK]at h;dsimp only at h
  have g:=aZ h (k:=n0.length+ax e) (bd e n0);rw[cM]at g
  rw[gL];exact⟨dy e _ (bE h),g⟩
 | .u9 p e,n0,h=>by
  rw[dK]at h;dsimp only at h
  have g:=aZ h (k:=n0.length+ax e) (bd e n0);rw[cM]at g
  rw[gL];exact⟨dy e _ (bE h),g⟩
 | .if_ p e bp b none,n0,h=>by
  rw[IU,eu]at h;dsimp only at h
  have h1:=bE h;have h2:=bE h1;have hb:=kr b _ h2;have he:=dy e _ ((ic b _).1.trans h2);have l1:=bd e n0;have l2:=fP b (aT e n0).1;have g1:=aZ h1 (k:=n0.length+ax e+aJ b) (by omega);have g2:=aZ h (k:=n0.length+ax e+aJ b+1) (by simp;omega);rw[i_,l1]at g1
  rw[cM,l2,l1]at g2
  rw[l1]at hb
  rw[gL];exact⟨he,hb,g1,g2⟩
 | .if_ p e bp b (some (cp,c)),n0,h=>by
  rw[dK,eu,eu]at h;dsimp only at h
  have h1:=bE h;have h2:=bE h1;have hc:=kr c _ h2;have h3:=(ic c _).1.trans h2;have h4:=bE h3;have hb:=kr b _ h4;have he:=dy e _ ((ic b _).1.trans h4);have l1:=bd e n0;have l2:=fP b (aT e n0).1;have l3: ((eO b (aT e n0).1).1++[({af 26 bp with list:=(eO b (aT e n0).1).2}:Nd)]).length=n0.length+ax e+aJ b+1:=by simp;omega
  have l4:=fP c ((eO b (aT e n0).1).1++[({af 26 bp with list:=(eO b (aT e n0).1).2}:Nd)]);rw[l3]at l4
  have g1:=aZ h3 (k:=n0.length+ax e+aJ b) (by omega);have g2:=aZ h1 (k:=n0.length+ax e+aJ b+1+aJ c) (by omega);have g3:=aZ h (k:=n0.length+ax e+aJ b+1+aJ c+1) (by rw[List.length_append,l4];rfl);rw[i_,l1]at g1
  rw[i_,l3]at g2
  rw[cM,l2,l1,l4]at g3
  rw[l1]at hb
  rw[l3]at hc
  rw[gL];exact⟨he,hb,g1,hc,g2,g3⟩
 | .while_ p e bp b,n0,h=>by
  rw[dK,eu]at h;dsimp only at h
  have h1:=bE h;have h2:=bE h1;have hb:=kr b _ h2;have he:=dy e _ ((ic b _).1.trans h2);have l1:=bd e n0;have l2:=fP b (aT e n0).1;have g1:=aZ h1 (k:=n0.length+ax e+aJ b) (by omega);have g2:=aZ h (k:=n0.length+ax e+aJ b+1) (by simp;omega);rw[i_,l1]at g1
  rw[cM,l2,l1]at g2
  rw[l1]at hb
  rw[gL];exact⟨he,hb,g1,g2⟩
end
theorem o8{l:List Sm}{ns:List Nd}{m:Nat}(h:eu 0 l []=(ns,m)):iR ns l 0/\ns[aJ l]?=some {af 26 0 with list:=dU l 0}/\m=aJ l/\ns.length=aJ l+1:=by
 rw[eu]at h
 simp only[Prod.mk.injEq]at h;obtain⟨h1,h2⟩:=h;have l1:=fP l [];have l2:=i_ l [];simp only[List.length_nil,Nat.zero_add]at l1 l2;have hp: (eO l []).1++[({af 26 0 with list:=(eO l []).2}:Nd)]<+:ns:=by rw[h1];exact List.prefix_refl _
 have g:=aZ hp l1;rw[l2]at g
 exact⟨kr l [] (bE hp),g,by omega,by rw[<-h1];simp[l1]⟩
end Ty
namespace Ty
structure Kn where
 text:BA
 node:Nat
 owner:Nat
 f:Int
structure Sg where
 out:List (Nat×Nat)
 kg:List Nat
def nI(env:List Kn)(x:BA):Option Kn:=env.reverse.find? (λm=>decide (m.text=x))
def K6(p:Nat)(x:BA)(n:Nat)(set:Bool)(f:Int)(env:List Kn)(s:Sg):Except Ft Sg:=
 match nI env x with
 |none=>.error (5,p)
 |some m=>.ok ⟨s.out++[(n,m.node)],if set&&decide (m.f≠f)&&!decide (m.node∈s.kg)then s.kg++[m.node]else s.kg⟩
def Kh(n:Nat):List Par->Nat->List Kn
 |q::ps,a=>⟨q.text,a,n,n⟩::Kh n ps (a+1)
 |[],_=>[]
def lK:Ex->Bool
 | .fn .. =>true
 | .num .. =>false
 | .text .. =>false
 | .bool .. =>false
 | .null .. =>false
 | .var .. =>false
 | .call .. =>false
 | .get .. =>false
 | .atX .. =>false
 | .obj .. =>false
 | .arr .. =>false
 | .two .. =>false
 | .one .. =>false
 | .asX .. =>false
def aN{α β:Type}(a:Except Ft α)(k:α->Except Ft β):Except Ft β:=match a with
 | .error e=>.error e
 | .ok s=>k s
mutual
def eZ:Ex->Nat->Int->List Kn->Sg->Except Ft Sg
 | .num ..,_,_,_,s=>.ok s
 | .text ..,_,_,_,s=>.ok s
 | .bool ..,_,_,_,s=>.ok s
 | .null ..,_,_,_,s=>.ok s
 | .var p x,a,f,env,s=>K6 p x a false f env s
 | .fn _ ps _ _ body,a,_,env,s=>aN (oT body (a+ps.length) (a+ps.length+aJ body+1) ((a+ps.length+aJ body+1:Nat):Int) (env++Kh (a+ps.length+aJ body+1) ps a) s) λr=>.ok r.2
 | .call _ e l,a,f,env,s=>aN (eZ e a f env s) λs=>vo l (a+ax e) f env s
 | .get _ e _,a,f,env,s=>eZ e a f env s
 | .atX _ e i,a,f,env,s=>aN (eZ e a f env s) λs=>eZ i (a+ax e) f env s
 | .obj _ l,a,f,env,s=>wI l a f env s
 | .arr _ l,a,f,env,s=>vo l a f env s
 | .two _ _ e i,a,f,env,s=>aN (eZ e a f env s) λs=>eZ i (a+ax e) f env s
 | .one _ _ e,a,f,env,s=>eZ e a f env s
 | .asX _ e _,a,f,env,s=>eZ e a f env s
def vo:List Ex->Nat->Int->List Kn->Sg->Except Ft Sg
 |[],_,_,_,s=>.ok s
 |e::l,a,f,env,s=>aN (eZ e a f env s) λs=>vo l (a+ax e) f env s
def wI:List (Nat×BA×Ex)->Nat->Int->List Kn->Sg->Except Ft Sg
 |[],_,_,_,s=>.ok s
 |(_,_,e)::l,a,f,env,s=>aN (eZ e a f env s) λs=>wI l (a+ax e+1) f env s
def oT:List Sm->Nat->Nat->Int->List Kn->Sg->Except Ft (List Kn×Sg)
 |[],_,_,_,env,s=>.ok (env,s)
 |e::l,a,o,f,env,s=>aN (qi e a o f env s) λr=>oT l (a+da e) o f r.1 r.2
def qi:Sm->Nat->Nat->Int->List Kn->Sg->Except Ft (List Kn×Sg)
 | .jR p x _ e,a,o,f,env,s=>
  if env.any (λm=>decide (m.owner=o)&&decide (m.text=x))then .error (6,p)
  else aN (eZ e a f (if lK e then env++[⟨x,a+ax e,o,f⟩]else env) s) λs=>.ok (env++[⟨x,a+ax e,o,f⟩],s)
 | .set p x e,a,_,f,env,s=>aN (K6 p x (a+ax e) true f env s) λs=>aN (eZ e a f env s) λs=>.ok (env,s)
 | .put _ e _ v,a,_,f,env,s=>aN (eZ e a f env s) λs=>aN (eZ v (a+ax e) f env s) λs=>.ok (env,s)
 | .lay _ e i v,a,_,f,env,s=>aN (eZ e a f env s) λs=>aN (eZ i (a+ax e) f env s) λs=>aN (eZ v (a+ax e+ax i) f env s) λs=>.ok (env,s)
 | .print _ e,a,_,f,env,s=>aN (eZ e a f env s) λs=>.ok (env,s)
 | .ret _ e,a,_,f,env,s=>aN (eZ e a f env s) λs=>.ok (env,s)
 | .u9 _ e,a,_,f,env,s=>aN (eZ e a f env s) λs=>.ok (env,s)
 | .if_ _ e _ b none,a,_,f,env,s=>aN (eZ e a f env s) λs=>aN (oT b (a+ax e) (a+ax e+aJ b) f env s) λr=>.ok (env,r.2)
 | .if_ _ e _ b (some (_,c)),a,_,f,env,s=>aN (eZ e a f env s) λs=>aN (oT b (a+ax e) (a+ax e+aJ b) f env s) λr=>aN (oT c (a+ax e+aJ b+1) (a+ax e+aJ b+1+aJ c) f env r.2) λr=>.ok (env,r.2)
 | .while_ _ e _ b,a,_,f,env,s=>aN (eZ e a f env s) λs=>aN (oT b (a+ax e) (a+ax e+aJ b) f env s) λr=>.ok (env,r.2)
end
structure Frm where
 names:List (BA×Nat)
 owner:Nat
 of:Int
structure Vg where
 out:List (Nat×Nat)
 wi:Nat->Option Int
 ca:Nat->Bool
def eR(l:List (BA×Nat))(x:BA):Option Nat:=(l.reverse.find? (λm=>decide (m.1=x))).map (·.2)
def j_:List Frm->BA->Option Nat
 |[],_=>none
 |fr::l,x=>match eR fr.names x with
  |some n=>some n
  |none=>j_ l x
def oV:List Frm->Int
 |[]=>0
 |fr:: _=>fr.of
def kF(p:Nat)(x:BA)(n:Nat)(set:Bool)(frs:List Frm)(s:Vg):Except Ft Vg:=
 match j_ frs x with
 |none=>.error (5,p)
 |some to=>.ok {s with out:=s.out++[(n,to)],ca:=if set&&decide ((s.wi to).getD 0≠oV frs)then λk=>if k=to then true else s.ca k else s.ca}
def addN(fr:Frm)(x:BA)(n:Nat):Frm:={fr with names:=fr.names++[(x,n)]}
def vr(s:Vg)(n:Nat)(o:Int):Vg:={s with wi:=λk=>if k=n then some o else s.wi k}
def gu:List Par->Nat->Frm->Vg->Frm×Vg
 |[],_,fr,s=>(fr,s)
 |q::ps,a,fr,s=>gu ps (a+1) (addN fr q.text a) (vr s a fr.of)
mutual
def bP:Ex->Nat->List Frm->Vg->Except Ft Vg
 | .num ..,_,_,s=>.ok s
 | .text ..,_,_,s=>.ok s
 | .bool ..,_,_,s=>.ok s
 | .null ..,_,_,s=>.ok s
 | .var p x,a,frs,s=>kF p x a false frs s
 | .fn _ ps _ _ body,a,frs,s=>
  aN (fw body (a+ps.length) (gu ps a ⟨[],a+ps.length+aJ body+1,((a+ps.length+aJ body+1:Nat):Int)⟩ s).1 frs (gu ps a ⟨[],a+ps.length+aJ body+1,((a+ps.length+aJ body+1:Nat):Int)⟩ s).2) λr=>.ok r.2
 | .call _ e l,a,frs,s=>aN (bP e a frs s) λs=>iP l (a+ax e) frs s
 | .get _ e _,a,frs,s=>bP e a frs s
 | .atX _ e i,a,frs,s=>aN (bP e a frs s) λs=>bP i (a+ax e) frs s
 | .obj _ l,a,frs,s=>jv l a frs s
 | .arr _ l,a,frs,s=>iP l a frs s
 | .two _ _ e i,a,frs,s=>aN (bP e a frs s) λs=>bP i (a+ax e) frs s
 | .one _ _ e,a,frs,s=>bP e a frs s
 | .asX _ e _,a,frs,s=>bP e a frs s
def iP:List Ex->Nat->List Frm->Vg->Except Ft Vg
 |[],_,_,s=>.ok s
 |e::l,a,frs,s=>aN (bP e a frs s) λs=>iP l (a+ax e) frs s
def jv:List (Nat×BA×Ex)->Nat->List Frm->Vg->Except Ft Vg
 |[],_,_,s=>.ok s
 |(_,_,e)::l,a,frs,s=>aN (bP e a frs s) λs=>jv l (a+ax e+1) frs s
def fw:List Sm->Nat->Frm->List Frm->Vg->Except Ft (Frm×Vg)
 |[],_,fr,_,s=>.ok (fr,s)
 |e::l,a,fr,frs,s=>aN (dC e a fr frs s) λr=>fw l (a+da e) r.1 frs r.2
def dC:Sm->Nat->Frm->List Frm->Vg->Except Ft (Frm×Vg)
 | .jR p x _ e,a,fr,frs,s=>
  if(eR fr.names x).isSome then .error (6,p)
  else if lK e then aN (bP e a (addN fr x (a+ax e)::frs) (vr s (a+ax e) fr.of)) λs=>.ok (addN fr x (a+ax e),s)
  else aN (bP e a (fr::frs) s) λs=>.ok (addN fr x (a+ax e),vr s (a+ax e) fr.of)
 | .set p x e,a,fr,frs,s=>aN (kF p x (a+ax e) true (fr::frs) s) λs=>aN (bP e a (fr::frs) s) λs=>.ok (fr,s)
 | .put _ e _ v,a,fr,frs,s=>aN (bP e a (fr::frs) s) λs=>aN (bP v (a+ax e) (fr::frs) s) λs=>.ok (fr,s)
 | .lay _ e i v,a,fr,frs,s=>aN (bP e a (fr::frs) s) λs=>aN (bP i (a+ax e) (fr::frs) s) λs=>aN (bP v (a+ax e+ax i) (fr::frs) s) λs=>.ok (fr,s)
 | .print _ e,a,fr,frs,s=>aN (bP e a (fr::frs) s) λs=>.ok (fr,s)
 | .ret _ e,a,fr,frs,s=>aN (bP e a (fr::frs) s) λs=>.ok (fr,s)
 | .u9 _ e,a,fr,frs,s=>aN (bP e a (fr::frs) s) λs=>.ok (fr,s)
 | .if_ _ e _ b none,a,fr,frs,s=>aN (bP e a (fr::frs) s) λs=>aN (fw b (a+ax e) ⟨[],a+ax e+aJ b,fr.of⟩ (fr::frs) s) λr=>.ok (fr,r.2)
 | .if_ _ e _ b (some (_,c)),a,fr,frs,s=>aN (bP e a (fr::frs) s) λs=>aN (fw b (a+ax e) ⟨[],a+ax e+aJ b,fr.of⟩ (fr::frs) s) λr=>aN (fw c (a+ax e+aJ b+1) ⟨[],a+ax e+aJ b+1+aJ c,fr.of⟩ (fr::frs) r.2) λr=>.ok (fr,r.2)
 | .while_ _ e _ b,a,fr,frs,s=>aN (bP e a (fr::frs) s) λs=>aN (fw b (a+ax e) ⟨[],a+ax e+aJ b,fr.of⟩ (fr::frs) s) λr=>.ok (fr,r.2)
end
end Ty
namespace Ty
mutual
theorem Fy:∀t:Tr,bJ (ey t)<=dS t
 | .mk k n p l o=>by
  rw[ey,dS];split
  ·have:=q_ l;omega
  ·rw[bJ,bJ,dS];omega
theorem q_:∀l:List Tr,bJ (bQ l)<=bJ l
 |[]=>by simp[bQ]
 |t::l=>by
  have:=Fy t;have:=q_ l;rw[bQ,bJ,gA];omega
end
theorem Lm(out:List Tr)(x:Tr):bJ (oK out x)<=bJ out+dS x:=by
 unfold oK;split
 ·omega
 ·rw[rN];omega
theorem Dr(l:List Tr):bJ (dt l)<=bJ l:=by
 have h:∀(l:List Tr)(o:List Tr),bJ (l.foldl oK o)<=bJ o+bJ l:=by
  intro l;induction l with
  |nil=>intro o;simp[bJ]
  |cons x l ih=>intro o;have:=ih (oK o x);have:=Lm o x;simp only[List.foldl_cons,bJ]at*;omega
 have:=h l [];simp only[bJ]at this;unfold dt;omega
theorem Am(l:List Tr):oU l=C8\/(∃x,dt (bQ l)=[x]/\oU l=x)\/(2<=(dt (bQ l)).length/\oU l=.mk 10 [] [] (dt (bQ l)) []):=by
 unfold oU;split
 ·exact .inl rfl
 ·rename_i h1;split
  ·rename_i h2;obtain⟨x,hx⟩:=List.length_eq_one_iff.1 h2;exact .inr (.inl ⟨x,hx,by rw[hx];rfl⟩)
  ·exact .inr (.inr ⟨by omega,rfl⟩)
end Ty
end Go.Proofs.YtdlbhiaceheffabGreatDoor
