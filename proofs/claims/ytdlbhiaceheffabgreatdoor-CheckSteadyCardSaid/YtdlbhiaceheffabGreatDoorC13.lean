/- Plain: what holds of each node that is parsed: its text, its number, its type. -/
import Derived.Test.YtdlbhiaceheffabGreatDoorC08
set_option linter.all false
namespace Go.Proofs.YtdlbhiaceheffabGreatDoor
open Go Go.RowKit Ty Tok
section
namespace Ty
open Tok (Tk)
structure LitOk(x:BA):Prop where
 size:x.size<=30
 plain:∀d∈x.data.toList,cM d=true
structure TkOk(t:Tk):Prop where
 size:t.text.size<=30
 name:t.kind=1->NameOk t.text
 num:t.kind=3->NumOk t.text
 lit:t.kind=4->LitOk t.text
theorem xW: (ByteArray.mk #[]).size<=30:=by decide
theorem DJ(s:BA)(k:Nat)(aD: (Tok.next s k).2.2=true): (Tok.next s k).1.text.size<=30/\((Tok.next s k).1.kind=4->LitOk (Tok.next s k).1.text):=by
 unfold Tok.next at aD⊢;dsimp only at aD⊢;split
 ·grind [ByteArray.size_extract]
 ·rename_i h;rw[if_neg h]at aD;split
  ·grind [ByteArray.size_extract]
  ·rename_i h;rw[if_neg h]at aD;split
   ·rename_i h;rw[if_pos h]at aD;have:=je cM s (k+1);have hz: (s.extract (k+1) (Tok.stop cM s (k+1))).size<=30:=by grind [ByteArray.size_extract]
    refine⟨hz,λ_=>⟨hz,λd hd=>?_⟩⟩
    grind [gn,jz]
   grind [ByteArray.size_extract]
theorem nu(P:Tk->Prop)(s:BA)(hn:∀k,k<s.size->(Tok.next s k).2.2=true->P (Tok.next s k).1)(he:P ⟨6,⟨#[]⟩,s.size⟩):∀(f k:Nat)(o l:List Tk),bL s f k o=.ok l->(∀t∈o,P t)->∀t∈l,P t
 |0,k,o,l,h,ho=>by cases h;exact ho
 |f+1,k,o,l,h,ho=>by
  rw[bL]at h
  split at h
  ·rename_i hk;split at h
   ·exact nu P s hn he f _ _ _ h ho
   ·split at h
    ·cases h
    ·rename_i aD;split at h
     ·cases h
     ·refine nu P s hn he f _ _ _ h λt ht=>?_
      grind
  grind
theorem Ph{P:Tk->Prop}{s:BA}{l:List Tk}(h:Tok.scan s=.ok l)(hn:∀k,k<s.size->(Tok.next s k).2.2=true->P (Tok.next s k).1)(he:P ⟨6,⟨#[]⟩,s.size⟩):∀t∈l,P t:=by
 unfold Tok.scan at h;split at h
 ·cases h
 ·exact nu P s hn he _ _ _ _ h λt ht=>by grind
theorem Hl{s:BA}{l:List Tk}(h:Tok.scan s=.ok l):∀t∈l,TkOk t:=
 Ph h (λk hk aD=>⟨(DJ s k aD).1,zf s k hk aD,B8 s k hk aD,(DJ s k aD).2⟩)
  ⟨xW,λh=>(by cases h),λh=>(by cases h),λh=>(by cases h)⟩
theorem vL{ad:List Tk}(h:∀t∈ad,TkOk t)(p:Nat):TkOk (cur ad p):=by
 unfold cur;cases e:ad[p]? with
 |none=>exact⟨xW,λh=>(by cases h),λh=>(by cases h),λh=>(by cases h)⟩
 |some t=>exact h t (List.mem_of_getElem? e)
structure TyIn(t:Nat)(ts:List Ty):Prop where
 lt:t<ts.length
 dK:dK (den ts t)<=ts.length
theorem TyIn.ext{t:Nat}{a b:List Ty}(h:TyIn t a)(he:Ext a b):TyIn t b:=
 ⟨nL h.lt he.len,by rw[he.den h.lt];exact nT h.dK he.len⟩
def wh(t:Int)(ts:List Ty):Prop:=t= -1\/∃n:Nat,t=(n:Int)/\TyIn n ts
theorem wh.ext{t:Int}{a b:List Ty}(h:wh t a)(he:Ext a b):wh t b:=by
 rcases h with h|⟨n,h,k⟩
 ·exact .inl h
 ·exact .inr ⟨n,h,k.ext he⟩
def RX(n:Nat):Prop:=∃x:BA,NumOk x/\value x=n
def gA:List (List UInt8):=[[61,61],[60],[43],[45],[42]]
structure NdOk(nd:Nd)(ts:List Ty):Prop where
 size:nd.text.size<=30
 num:nd.kind=1->RX nd.n
 small:nd.kind≠1->nd.n<=1
 lit:nd.kind=2->LitOk nd.text
 name:nd.kind=5\/nd.kind=8\/(15<=nd.kind/\nd.kind<=19)->NameOk nd.text
 two:nd.kind=12->nd.text.data.toList∈gA
 one:nd.kind=13->nd.text.data.toList∈dc
 ty:wh nd.ty ts
 EK:nd.kind=14->0<=nd.ty
theorem NdOk.ext{nd:Nd}{a b:List Ty}(h:NdOk nd a)(he:Ext a b):NdOk nd b:={h with ty:=h.ty.ext he}
structure Inv(s:St):Prop where
 wf:Wf s.ts
 nm:Nm s.ts
 ns:∀nd∈s.ns,NdOk nd s.ts
def IK{α:Type}(t0:List Ty)(m:M α)(P:α->List Ty->Prop):Prop:=∀s a s',Ext t0 s.ts->Inv s->m s=.ok (a,s')->Inv s'/\Ext s.ts s'.ts/\P a s'.ts
section
variable {α β:Type} {t0:List Ty} {ad:List Tk}
theorem IK.ak{m:M α}{k:α->M β}{P:α->List Ty->Prop}{Q:β->List Ty->Prop}(h:IK t0 m P)(g:∀a t1,Ext t0 t1->P a t1->IK t1 (k a) Q):IK t0 (Ty.ak m k) Q:=λs b s' h0 hi e=>by
 obtain⟨a,s1,e1,e2⟩:=ah e;obtain⟨h1,h2,h3⟩:=h _ _ _ h0 hi e1;obtain⟨g1,g2,g3⟩:=g a s1.ts (h0.trans h2) h3 s1 b s' (Ext.refl _) h1 e2;exact⟨g1,h2.trans g2,g3⟩
theorem IK.ret(a:α){P:α->List Ty->Prop}(h:∀t,Ext t0 t->P a t):IK t0 (ret a) P:=λs b s' h0 hi e=>by cases e;exact⟨hi,Ext.refl _,h _ h0⟩
theorem IK.fail(n:Nat)(P:α->List Ty->Prop):IK t0 (fail (α:=α) ad n) P:=λs b s' _ _ e=>by cases e
theorem IK.step:IK t0 step λ_ _=>True:=λs b s' h0 hi e=>by cases e;exact⟨⟨hi.wf,hi.nm,hi.ns⟩,Ext.refl _,trivial⟩
theorem IK.take(x:List UInt8):IK t0 (take ad x) λ_ _=>True:=λs b s' h0 hi e=>by
 unfold Ty.take at e;split at e<;>cases e<;>exact⟨⟨hi.wf,hi.nm,hi.ns⟩,Ext.refl _,trivial⟩
theorem IK.need(x:List UInt8):IK t0 (need ad x) λ_ _=>True:=λs b s' h0 hi e=>by
 unfold Ty.need at e;split at e<;>cases e;exact⟨⟨hi.wf,hi.nm,hi.ns⟩,Ext.refl _,trivial⟩
theorem IK.name(ht:∀t∈ad,TkOk t)(met:List BA):IK t0 (name ad met) λx _=>NameOk x:=λs b s' h0 hi e=>by
 unfold Ty.name at e;split at e
 ·cases e
 ·rename_i hk;split at e<;>cases e
  exact⟨⟨hi.wf,hi.nm,hi.ns⟩,Ext.refl _,(vL ht _).name (by omega)⟩
theorem IK.look{k:St->M α}{P:α->List Ty->Prop}(h:∀s,IK t0 (k s) P):IK t0 (Ty.look k) P:=λs a s' h0 hi x=>h s s a s' h0 hi x
theorem IK.ite{p:Prop} [Decidable p]{m n:M α}{P:α->List Ty->Prop}(h:p->IK t0 m P)(g:¬p->IK t0 n P):IK t0 (if p then m else n) P:=by
 grind
theorem IK.addNode(nd:Nd)(h:∀t,Ext t0 t->NdOk nd t):IK t0 (addNode nd) λ_ _=>True:=λs b s' h0 hi e=>by
 cases e;refine⟨⟨hi.wf,hi.nm,λx hx=>?_⟩,Ext.refl _,trivial⟩;rw[List.mem_append]at hx
 rcases hx with hx|hx
 ·exact hi.ns x hx
 grind
theorem IK.ef(a:Nat):IK t0 (ef a) λ_ _=>True:=λs b s' h0 hi e=>by
 cases e;exact⟨⟨hi.wf,hi.nm,λx hx=>hi.ns x (List.mem_of_mem_take hx)⟩,Ext.refl _,trivial⟩
theorem IK.eJ(ht:∀t∈ad,TkOk t)(hL:ad.length<=1001)(r:Nat):IK t0 (eJ ad r) λn t=>TyIn n t:=λs n s' h0 hi e=>by
 obtain⟨h1,h2,h3⟩:=cG ad hL r _ _ _ hi.wf e;obtain⟨g1,g2,_⟩:=g_ ad hL r _ _ _ hi.wf e;have h4:=(Em (λt h=>(ht t h).name) r _ _ _ hi.nm e).1;refine⟨⟨h1,h4,λx hx=>?_⟩,g1,h3,by omega⟩;rw[aA.eJ ad r _ _ _ e]at hx
 exact(hi.ns x hx).ext g1
theorem bF{nd:Nd}(hs:nd.text.size<=30)(Ez:nd.ty= -1)(h1:nd.kind=1->RX nd.n)(ad6:nd.kind≠1->nd.n<=1)(h2:nd.kind=2->LitOk nd.text)(h3:nd.kind=5\/nd.kind=8\/(15<=nd.kind/\nd.kind<=19)->NameOk nd.text)
  (h4:nd.kind=12->nd.text.data.toList∈gA) (h5:nd.kind=13->nd.text.data.toList∈dc) (h6:nd.kind≠14):∀t,NdOk nd t:=λt=>⟨hs,h1,ad6,h2,h3,h4,h5,.inl Ez,λh=>absurd h h6⟩
theorem IK.list{x:List UInt8}{m:List α->M α}{P:α->List Ty->Prop}{t0:List Ty}(hP:∀a t t',P a t->Ext t t'->P a t')(hm:∀t1 l,Ext t0 t1->IK t1 (m l) P):∀f l t1,Ext t0 t1->(∀a∈l,P a t1)->IK t1 (list ad x m f l) λl t=>∀a∈l,P a t
 |0,_,_,_,_=>IK.fail _ _
 |f+1,l,t1,he,hl=>(IK.take _).ak λ_ t2 e2 _=>IK.ite (λ_=>IK.ret l λt et a ha=>hP a _ _ (hl a ha) (e2.trans et)) λ_=>
   (show IK t2 _ (λ_ _=>True)from IK.ite (λ_=>IK.ret () λ_ _=>trivial) λ_=>IK.need _).ak λ_ t3 e3 _=>(hm t3 l ((he.trans e2).trans e3)).ak λn t4 e4 hn=>
    IK.list hP hm f (l++[n]) t4 (((he.trans e2).trans e3).trans e4) λa ha=>by
     grind
end
section
variable {ad:List Tk}
theorem IK.two{t0:List Ty}{x:BA}{a b:Nat}(hx:x.data.toList∈gA)(hs:x.size<=30):IK t0 (two x a b) λ_ _=>True:=
 IK.look λs=>by simp_all[IK.addNode,bF,af]
theorem AH{x:List UInt8}{p:Nat}(h:is ad x p=true): (cur ad p).text.data.toList=x:=by
 grind [is]
theorem sf{l:List (List UInt8)}{p:Nat}(h:l.any (λx=>is ad x p)=true): (cur ad p).text.data.toList∈l:=by
 grind [AH]
theorem tX{ONE:M Nat}(ht:∀t∈ad,TkOk t){aJ:List (List UInt8)}(OQ:∀x∈aJ,x∈gA):∀f n t0,(∀t0,IK t0 ONE λ_ _=>True)->IK t0 (bM ad ONE aJ f n) λ_ _=>True
 |0,_,_,_=>IK.fail _ _
 |f+1,n,t0,h=>IK.look λs=>IK.ite (λhs=>IK.step.ak λ_ t1 _ _=>(h t1).ak λ_ t2 _ _=>(IK.two (OQ _ (sf hs)) (vL ht _).size).ak λm t3 _ _=>tX ht OQ f m t3 h) (λ_=>IK.ret n λ_ _=>trivial)
theorem Bh{ONE:M Nat}(ht:∀t∈ad,TkOk t){aJ:List (List UInt8)}(OQ:∀x∈aJ,x∈gA)(h:∀t0,IK t0 ONE λ_ _=>True)(t0:List Ty):IK t0 (left ad ONE aJ) λ_ _=>True:=
 (h t0).ak λn t1 _ _=>by grind [tX]
theorem zO{ONE:M Nat}(ht:∀t∈ad,TkOk t)(h:∀t0,IK t0 ONE λ_ _=>True)(t0:List Ty):IK t0 (mq ad ONE) λ_ _=>True:=
 Bh ht (by decide) (Bh ht (by decide) h) t0
theorem BO{ONE:M Nat}(ht:∀t∈ad,TkOk t)(h:∀t0,IK t0 ONE λ_ _=>True)(t0:List Ty):IK t0 (gW ad ONE) λ_ _=>True:=
 (zO ht h t0).ak λn t1 _ _=>(IK.take _).ak λ_ t2 _ _=>IK.ite (λ_=>(zO ht h t2).ak λm t3 _ _=>IK.two (by decide) (by decide)) λ_=>
  (IK.take _).ak λ_ t3 _ _=>IK.ite (λ_=>(zO ht h t3).ak λm t3 _ _=>IK.two (by decide) (by decide)) λ_=>IK.ret n λ_ _=>trivial
theorem mR{T E:M Nat}(ht:∀t∈ad,TkOk t)(hT:∀t0,IK t0 T TyIn)(hE:∀t0,IK t0 E λ_ _=>True):∀f a t0,IK t0 (behind ad T E f a) λ_ _=>True
 |0,_,_=>IK.fail _ _
 |f+1,a,t0=>IK.look λs=>(IK.take _).ak λ_ t1 _ _=>IK.ite (λ_=>(IK.list (P:=λ_ _=>True) (λ_ _ _ _ _=>trivial) (λt1 _ _=>hE t1) _ [] t1 (Ext.refl _) (λ_ _=>trivial)).ak λl t2 _ _=>(IK.addNode _ λt _=>bF xW rfl (λh=>(by cases h)) (λ_=>(by simp[af])) (λh=>(by cases h)) (λh=>(by grind [af])) (λh=>(by cases h)) (λh=>(by cases h)) (by simp[af]) t).ak λm t3 _ _=>mR ht hT hE f m t3) λ_=>
   (IK.take _).ak λ_ t2 _ _=>IK.ite (λ_=>(IK.name ht []).ak λx t3 _ hx=>(IK.addNode _ λt _=>bF (nT hx.size (by omega)) rfl (λh=>(by cases h)) (λ_=>(by simp[af])) (λh=>(by cases h)) (λ_=>hx) (λh=>(by cases h)) (λh=>(by cases h)) (by simp[af]) t).ak λm t3 _ _=>mR ht hT hE f m t3) λ_=>
   (IK.take _).ak λ_ t2 _ _=>IK.ite (λ_=>(hE t2).ak λc t3 _ _=>(IK.need _).ak λ_ t4 _ _=>(IK.addNode _ λt _=>bF xW rfl (λh=>(by cases h)) (λ_=>(by simp[af])) (λh=>(by cases h)) (λh=>(by simp[af]at h)) (λh=>(by cases h)) (λh=>(by cases h)) (by simp[af]) t).ak λm t3 _ _=>mR ht hT hE f m t3) λ_=>
   (IK.take _).ak λ_ t2 _ _=>IK.ite (λ_=>(hT t2).ak λc t3 _ hc=>(IK.addNode _ λt et=>⟨xW,λh=>(by cases h),λ_=>(by simp[af]),λh=>(by cases h),λh=>(by grind [af]),λh=>(by cases h),λh=>(by cases h),.inr ⟨c,rfl,hc.ext et⟩,λ_=>Int.natCast_nonneg _⟩).ak λm t3 _ _=>mR ht hT hE f m t3) λ_=>IK.ret a λ_ _=>trivial
theorem nH{T:M Nat}(hT:∀t0,IK t0 T TyIn)(t0:List Ty):IK t0 (written ad T) λz t=>wh z t:=
 (IK.take _).ak λ_ t1 _ _=>IK.ite (λ_=>(hT t1).ak λn t2 _ hn=>IK.ret _ λt et=>.inr ⟨n,rfl,hn.ext et⟩) λ_=>IK.ret _ λt _=>.inl rfl
theorem Dd{E:M Nat}(ht:∀t∈ad,TkOk t)(hE:∀t0,IK t0 E λ_ _=>True)(met:List BA)(t0:List Ty):IK t0 (fV ad E met) λ_ _=>True:=
 IK.look λ_=>(IK.name ht met).ak λx t1 _ hx=>(IK.need _).ak λ_ t2 _ _=>(hE t2).ak λa t3 _ _=>(IK.addNode _ λt _=>bF (nT hx.size (by omega)) rfl (λh=>(by cases h)) (λ_=>(by simp[af])) (λh=>(by cases h)) (λ_=>hx) (λh=>(by cases h)) (λh=>(by cases h)) (by simp[af]) t).ak λn t4 _ _=>IK.ret _ λ_ _=>trivial
theorem yB{T:M Nat}(ht:∀t∈ad,TkOk t)(hT:∀t0,IK t0 T TyIn)(met:List BA)(t0:List Ty):IK t0 (fC ad T met) λ_ _=>True:=
 IK.look λ_=>(IK.name ht met).ak λx t1 _ hx=>(nH hT t1).ak λz t2 _ hz=>(IK.addNode _ λt et=>⟨nT hx.size (by omega),λh=>(by cases h),λ_=>(by simp[af]),λh=>(by cases h),λ_=>hx,λh=>(by cases h),λh=>(by cases h),hz.ext et,λh=>(by cases h)⟩).ak λn t4 _ _=>IK.ret _ λ_ _=>trivial
theorem BI{S:M Nat}(hS:∀t0,IK t0 S λ_ _=>True):∀f l t0,IK t0 (stmts ad S f l) λ_ _=>True
 |0,_,_=>IK.fail _ _
 |f+1,l,t0=>(IK.take _).ak λ_ t1 _ _=>IK.ite (λ_=>IK.ret l λ_ _=>trivial) λ_=>(hS t1).ak λn t2 _ _=>BI hS f _ t2
theorem pJ{S:M Nat}(hS:∀t0,IK t0 S λ_ _=>True)(t0:List Ty):IK t0 (di ad S) λ_ _=>True:=
 IK.look λ_=>(IK.need _).ak λ_ t1 _ _=>(BI hS _ _ t1).ak λl t2 _ _=>IK.addNode _ λt _=>bF xW rfl (λh=>(by cases h)) (λ_=>(by simp[af])) (λh=>(by cases h)) (λh=>(by grind [af])) (λh=>(by cases h)) (λh=>(by cases h)) (by simp[af]) t
theorem zX{T S:M Nat}(ht:∀t∈ad,TkOk t)(hT:∀t0,IK t0 T TyIn)(hS:∀t0,IK t0 S λ_ _=>True)(pos:Nat)(t0:List Ty):IK t0 (bH ad T S pos) λ_ _=>True:=
 (IK.need _).ak λ_ t1 _ _=>(IK.list (λ_ _ _ _ _=>trivial) (λt1 l _=>yB ht hT _ t1) _ [] t1 (Ext.refl _) (λ_ _=>trivial)).ak λl t2 _ _=>(nH hT t2).ak λz t3 _ hz=>(pJ hS t3).ak λa t4 e4 _=>
  IK.addNode _ λt et=>⟨xW,λh=>(by cases h),λ_=>(by simp[af]),λh=>(by cases h),λh=>(by grind [af]),λh=>(by cases h),λh=>(by cases h),hz.ext (e4.trans et),λh=>(by cases h)⟩
theorem wY{T E S:M Nat}(ht:∀t∈ad,TkOk t)(hT:∀t0,IK t0 T TyIn)(hE:∀t0,IK t0 E λ_ _=>True)(hS:∀t0,IK t0 S λ_ _=>True)(t0:List Ty):IK t0 (bO ad T E S) λ_ _=>True:=by
 refine IK.look λs=>?_
 have hc:=vL ht s.pos;refine IK.ite (λhk=>IK.step.ak λ_ t1 _ _=>IK.addNode _ λt _=>bF xW rfl (λ_=>⟨_,hc.num hk,rfl⟩) (λh=>absurd rfl h) (λh=>(by cases h)) (λh=>(by grind [af])) (λh=>(by cases h)) (λh=>(by cases h)) (by simp[af]) t) λ_=>?_
 refine IK.ite (λhk=>IK.step.ak λ_ t1 _ _=>IK.addNode _ λt _=>bF hc.size rfl (λh=>(by cases h)) (λ_=>(by simp[af])) (λ_=>hc.lit hk) (λh=>(by grind [af])) (λh=>(by cases h)) (λh=>(by cases h)) (by simp[af]) t) λ_=>?_
 refine IK.ite (λhk=>IK.step.ak λ_ t1 _ _=>IK.addNode _ λt _=>bF hc.size rfl (λh=>(by cases h)) (λ_=>(by simp[af])) (λh=>(by cases h)) (λ_=>hc.name hk) (λh=>(by cases h)) (λh=>(by cases h)) (by simp[af]) t) λ_=>?_
 refine(IK.take _).ak λ_ t1 _ _=>IK.ite (λ_=>IK.addNode _ λt _=>bF xW rfl (λh=>(by cases h)) (λ_=>by simp) (λh=>(by cases h)) (λh=>(by grind [af])) (λh=>(by cases h)) (λh=>(by cases h)) (by simp[af]) t) λ_=>?_
 refine(IK.take _).ak λ_ t2 _ _=>IK.ite (λ_=>IK.addNode _ λt _=>bF xW rfl (λh=>(by cases h)) (λ_=>(by simp[af])) (λh=>(by cases h)) (λh=>(by grind [af])) (λh=>(by cases h)) (λh=>(by cases h)) (by simp[af]) t) λ_=>?_
 refine(IK.take _).ak λ_ t3 _ _=>IK.ite (λ_=>IK.addNode _ λt _=>bF xW rfl (λh=>(by cases h)) (λ_=>(by simp[af])) (λh=>(by cases h)) (λh=>(by simp[af]at h)) (λh=>(by cases h)) (λh=>(by cases h)) (by simp[af]) t) λ_=>?_
 refine(IK.take _).ak λ_ t4 _ _=>IK.ite (λ_=>zX ht hT hS _ t4) λ_=>?_
 refine(IK.take _).ak λ_ t5 _ _=>IK.ite (λ_=>(IK.list (λ_ _ _ _ _=>trivial) (λt1 _ _=>hE t1) _ [] t5 (Ext.refl _) (λ_ _=>trivial)).ak λl t6 _ _=>IK.addNode _ λt _=>bF xW rfl (λh=>(by cases h)) (λ_=>(by simp[af])) (λh=>(by cases h)) (λh=>(by simp[af]at h)) (λh=>(by cases h)) (λh=>(by cases h)) (by simp[af]) t) λ_=>?_
 refine(IK.take _).ak λ_ t6 _ _=>IK.ite (λ_=>(IK.list (λ_ _ _ _ _=>trivial) (λt1 l _=>Dd ht hE _ t1) _ [] t6 (Ext.refl _) (λ_ _=>trivial)).ak λl t7 _ _=>IK.addNode _ λt _=>bF xW rfl (λh=>(by cases h)) (λ_=>(by simp[af])) (λh=>(by cases h)) (λh=>(by simp[af]at h)) (λh=>(by cases h)) (λh=>(by cases h)) (by simp[af]) t) λ_=>?_
 exact(IK.need _).ak λ_ t7 _ _=>(hE t7).ak λa t8 _ _=>(IK.need _).ak λ_ t9 _ _=>IK.ret a λ_ _=>trivial
theorem u9{T E O S:M Nat}(ht:∀t∈ad,TkOk t)(hT:∀t0,IK t0 T TyIn)(hE:∀t0,IK t0 E λ_ _=>True)(hO:∀t0,IK t0 O λ_ _=>True)(hS:∀t0,IK t0 S λ_ _=>True)(t0:List Ty):IK t0 (oI ad T E O S) λ_ _=>True:=
 IK.look λs=>IK.ite (λhp=>IK.step.ak λ_ t1 _ _=>(hO t1).ak λa t2 _ _=>IK.addNode _ λt _=>bF (vL ht _).size rfl (λh=>(by cases h)) (λ_=>(by simp[af])) (λh=>(by cases h)) (λh=>(by grind [af])) (λh=>(by cases h)) (λ_=>sf hp) (by simp[af]) t)
  λ_=>(wY ht hT hE hS t0).ak λa t1 _ _=>mR ht hT hE _ a t1
theorem Hi{s:St}(h:Inv s)(a:Nat)(hk: (aY s a).kind≠0):NdOk (aY s a) s.ts:=by
 unfold aY at hk⊢;cases e:s.ns[a]? with
 |none=>rw[e]at hk;exact absurd rfl hk
 |some nd=>exact h.ns nd (List.mem_of_getElem? e)
theorem J2{E:M Nat}(hE:∀t0,IK t0 E λ_ _=>True)(t0:List Ty):IK t0 (cq ad E) λ_ _=>True:=by
 refine(hE t0).ak λa t1 _ _=>λs n s' h0 hi x=>?_
 revert x;have key:∀(f:Nat->Nd),(∀v t,NdOk (f v) t)->IK t1 (ak (ef a) λ_=>ak step λ_=>ak E λv=>ak (need ad [59]) λ_=>addNode (f v)) λ_ _=>True:=λf hf=>
  (IK.ef a).ak λ_ t2 _ _=>IK.step.ak λ_ t3 _ _=>(hE t3).ak λv t4 _ _=>(IK.need _).ak λ_ t5 _ _=>IK.addNode _ λt _=>hf v t
 refine(show IK t1 (if is ad [61] s.pos then _ else _) (λ_ _=>True)from ?_) s n s' h0 hi;refine IK.ite (λ_=>IK.ite (λhk=>?_) λ_=>IK.ite (λhk=>?_) λ_=>IK.ite (λhk=>?_) λ_=>IK.fail _ _) λ_=>(IK.need _).ak λ_ t2 _ _=>IK.addNode _ λt _=>bF xW rfl (λh=>(by cases h)) (λ_=>(by simp[af])) (λh=>(by cases h)) (λh=>(by grind [af])) (λh=>(by cases h)) (λh=>(by cases h)) (by simp[af]) t
 ·have ho:=Hi hi a (by omega);exact key _ λv t=>bF (nd:={af 18 (aY s a).pos with text:=(aY s a).text,a:=v}) ho.size rfl (λh=>(by cases h)) (λ_=>(by simp[af])) (λh=>(by cases h)) (λ_=>ho.name (.inl hk)) (λh=>(by cases h)) (λh=>(by cases h)) (by simp[af]) t
 ·have ho:=Hi hi a (by omega);exact key _ λv t=>bF (nd:={af 19 (aY s a).pos with text:=(aY s a).text,a:=(aY s a).a,b:=v}) ho.size rfl (λh=>(by cases h)) (λ_=>(by simp[af])) (λh=>(by cases h)) (λ_=>ho.name (.inr (.inl hk))) (λh=>(by cases h)) (λh=>(by cases h)) (by simp[af]) t
 simp_all[bF,xW,af]
theorem Fe{E S:M Nat}(hE:∀t0,IK t0 E λ_ _=>True)(hS:∀t0,IK t0 S λ_ _=>True)(yes:Bool)(pos:Nat)(t0:List Ty):IK t0 (aZ ad E S yes pos) λ_ _=>True:=by
 have hn:∀(nd:Nd),nd.text=⟨#[]⟩->nd.ty= -1->nd.n=0->nd.kind=22\/nd.kind=23->∀t,NdOk nd t:=λnd h1 h2 h3 h4=>bF (by grind [xW]) h2 (λh=>by omega) (λ_=>by omega) (λh=>by omega) (λh=>by omega) (λh=>by omega) (λh=>by omega) (by omega)
 exact IK.step.ak λ_ t1 _ _=>(IK.need _).ak λ_ t2 _ _=>(hE t2).ak λa t3 _ _=>(IK.need _).ak λ_ t4 _ _=>(pJ hS t4).ak λb t5 _ _=>
  IK.ite (λ_=>(IK.take _).ak λ_ t6 _ _=>IK.ite (λ_=>(pJ hS t6).ak λc t7 _ _=>IK.addNode _ λt _=>hn _ rfl rfl rfl (.inl rfl) t) λ_=>IK.addNode _ λt _=>hn _ rfl rfl rfl (.inl rfl) t) λ_=>IK.addNode _ λt _=>hn _ rfl rfl rfl (.inr rfl) t
theorem DN{T E S:M Nat}(ht:∀t∈ad,TkOk t)(hT:∀t0,IK t0 T TyIn)(hE:∀t0,IK t0 E λ_ _=>True)(hS:∀t0,IK t0 S λ_ _=>True)(t0:List Ty):IK t0 (de ad T E S) λ_ _=>True:=by
 refine IK.look λs=>(IK.take _).ak λ_ t1 _ _=>IK.ite (λ_=>?_) λ_=>?_
 ·exact(IK.name ht []).ak λx t2 _ hx=>(nH hT t2).ak λz t3 _ hz=>(IK.need _).ak λ_ t4 e4 _=>(hE t4).ak λa t5 e5 _=>(IK.need _).ak λ_ t6 e6 _=>IK.addNode _ λt et=>
   ⟨nT hx.size (by omega),λh=>(by cases h),λ_=>(by simp[af]),λh=>(by cases h),λ_=>hx,λh=>(by cases h),λh=>(by cases h),hz.ext (((e4.trans e5).trans e6).trans et),λh=>(by cases h)⟩
 ·have hn:∀(nd:Nd),nd.text=⟨#[]⟩->nd.ty= -1->nd.n=0->nd.kind=21\/nd.kind=24->∀t,NdOk nd t:=λnd h1 h2 h3 h4=>bF (by grind [xW]) h2 (λh=>by omega) (λ_=>by omega) (λh=>by omega) (λh=>by omega) (λh=>by omega) (λh=>by omega) (by omega)
  exact(IK.take _).ak λ_ t2 _ _=>IK.ite (λ_=>(hE t2).ak λa t5 _ _=>(IK.need _).ak λ_ t6 _ _=>IK.addNode _ λt _=>hn _ rfl rfl rfl (.inl rfl) t) λ_=>
   (IK.take _).ak λ_ t2 _ _=>IK.ite (λ_=>(hE t2).ak λa t5 _ _=>(IK.need _).ak λ_ t6 _ _=>IK.addNode _ λt _=>hn _ rfl rfl rfl (.inr rfl) t) λ_=>
    IK.look λs2=>by grind [Fe,J2]
theorem Mx(ht:∀t∈ad,TkOk t)(hL:ad.length<=1001):∀r,(∀t0,IK t0 (lv ad r).E λ_ _=>True)/\(∀t0,IK t0 (lv ad r).O λ_ _=>True)/\(∀t0,IK t0 (lv ad r).S λ_ _=>True)
 |0=>⟨λ_=>IK.fail _ _,λ_=>IK.fail _ _,λ_=>IK.fail _ _⟩
 |r+1=>by
  obtain⟨h1,h2,h3⟩:=Mx ht hL r;have hT:∀t0,IK t0 (eJ ad r) TyIn:=λt0=>IK.eJ ht hL r
  exact⟨BO ht (u9 ht hT h1 h2 h3),u9 ht hT h1 h2 h3,DN ht hT h1 h3⟩
theorem uv{S:M Nat}(hS:∀t0,IK t0 S λ_ _=>True):∀f l t0,IK t0 (dN ad S f l) λ_ _=>True
 |0,_,_=>IK.fail _ _
 |f+1,l,t0=>IK.look λs=>IK.ite (λ_=>IK.ret l λ_ _=>trivial) λ_=>(hS t0).ak λn t1 _ _=>uv hS f _ t1
theorem MV(ht:∀t∈ad,TkOk t)(hL:ad.length<=1001)(t0:List Ty):IK t0 (oj ad) λ_ _=>True:=
 (uv (Mx ht hL 20).2.2 _ _ t0).ak λl t1 _ _=>by simp_all[IK.addNode,bF,xW,af]
end
structure PgOk(pg:Pg):Prop where
 wf:Wf pg.ts
 nm:Nm pg.ts
 ns:∀nd∈pg.ns,NdOk nd pg.ts
 o7:pg.ns.length<=1200
 Qv:pg.ts.length<=300
theorem lD{s:BA}{pg:Pg}(h:parse s=.ok pg):PgOk pg:=by
 unfold parse at h;split at h
 ·cases h
 ·rename_i ad CS;split at h
  ·cases h
  ·rename_i n st e;split at h
   ·cases h
   ·rename_i hlen;cases h;obtain⟨h1,_,_⟩:=MV (Hl CS) (qe _ _ CS).2.1 [] _ _ _ (Ext.refl _) ⟨Wf.nil,Nm.nil,λx hx=>by grind⟩ e;exact⟨h1.wf,h1.nm,h1.ns,by grind,by grind⟩
end Ty
end
namespace Ty
theorem kh(b:Bool)(s:List UInt8): (par b s).length<=s.length+2:=by
 grind [par]
structure NdLen(ts:List Ty)(nd:Nd):Prop where
 text:nd.text.data.toList.length<=30
 abK: (nQ ts nd.ty).length<=12010
 EK:nd.kind=14->(Ty.text (den ts nd.ty.toNat)).length<=12010
 num: (Lib.itoa (nd.n:Int)).length<=21
theorem BE{x:BA}(h:NumOk x):value x<1000000000:=by
 have key:∀(l:List UInt8)(a:Nat),(∀d∈l,Tok.isDigit d=true)->l.foldl (λn c=>10*n+(c.toNat-48)) a<(a+1)*10^l.length:=by
  intro l;induction l with
  |nil=>intro a _;simp
  |cons c l ih=>
   intro a hd;have hc:=hd c (by simp);unfold Tok.isDigit at hc;simp at hc;have:=ih (10*a+(c.toNat-48)) (λd ahS=>hd d (by grind));refine nL this ?_;have h2:10*a+(c.toNat-48)+1<=(a+1)*10:=by omega
   calc _<=((a+1)*10)*10^l.length:=Nat.mul_le_mul_right _ h2
    _= _:=by grind
 have h1:=key x.data.toList 0 h.ac4;have h2:x.data.toList.length<=9:=by have:=h.size;simpa using this
 have h3:10^x.data.toList.length<=10^9:=Nat.pow_le_pow_right (by omega) h2
 grind [value]
theorem NdOk.VB{nd:Nd}{ts:List Ty}(h:NdOk nd ts):nd.n<=1000000000:=by
 by_cases hk:nd.kind=1
 ·obtain⟨x,h1,h2⟩:=h.num hk
  grind [BE]
 ·have:=h.small hk;omega
theorem tV{ts:List Ty}(hw:Wf ts)(hn:Nm ts){t:Nat}(h:TyIn t ts):eu (den ts t)/\dX (den ts t)/\(text (den ts t)).length+24<=40*ts.length:=by
 have h1:=qF hw _ t (Nat.lt_succ_self _) h.lt;have h2:=rM _ (A8 hw hn _ t (Nat.lt_succ_self _) h.lt);have h3:=rU _ h1 h2;have:=h.dK
 grind
theorem PgOk.len{pg:Pg}(h:PgOk pg):∀nd∈pg.ns,NdLen pg.ts nd:=λnd hm=>by
 have hk:=h.ns nd hm;have ht:=h.Qv;have Ez:∀t,TyIn t pg.ts->(text (den pg.ts t)).length<=12000:=λt hi=>by
  have:=(tV h.wf h.nm hi).2.2;omega
 refine⟨by have:=hk.size;simpa using this,?_,λPw=>?_,Lib.itoa_length_le _ (by omega) (by have:=hk.VB;omega)⟩
 ·unfold nQ;rcases hk.ty with h1|⟨n,h1,h2⟩
  ·grind
  grind
 ·rcases hk.ty with h1|⟨n,h1,h2⟩
  ·have:=hk.EK Pw;omega
  grind
section
variable {ts:List Ty} {ns:List Nd}
theorem iT(hN:∀nd∈ns,NdLen ts nd){n:Nat}{nd:Nd}(h:ns[n]?=some nd):NdLen ts nd:=by grind
theorem CB(hN:∀nd∈ns,NdLen ts nd):∀(ps:List Par)(l:List Nat),iy ns ps l->eF (ps.map (sJ ts))+20*ps.length<=20000*ps.length
 |[],_,_=>by simp[eF]
 |q::ps,_,⟨n,t,_,h1,h2⟩=>by
  have h3:=CB hN ps t h2;have h4:=iT hN h1;have h5:=h4.text;have h6:=h4.abK
  grind [eF,sJ]
theorem PI(b:Prop) [Decidable b]: (if b then [32]else []:List UInt8).length<=1:=by grind
mutual
theorem eT(hN:∀nd∈ns,NdLen ts nd):∀(e:Ex)(n ind:Nat),aG ns e n->ind+aw e<=1300->(wE ts ind e).length+100<=20000*aw e
 | .num _ k,_,_,h,_=>by rw[aG]at h;have:=(iT hN h).num;dsimp only at this;rw[wE,aw];omega
 | .text _ x,_,_,h,_=>by rw[aG]at h;have:=(iT hN h).text;dsimp only at this;rw[wE,aw];simp only[lzA,lzC,lzN];omega
 | .bool _ k,_,_,h,_=>by rw[wE,aw];split<;>simp
 | .null _,_,_,h,_=>by rw[wE,aw];simp
 | .var _ x,_,_,h,_=>by rw[aG]at h;have:=(iT hN h).text;dsimp only at this;rw[wE,aw];omega
 | .fn p ps ty bp body,n,ind,h,hs=>by
  rw[aG]at h
  obtain⟨ids,b,h1,h2,h3⟩:=h;rw[fM]at h3
  obtain⟨LX,h3,h4⟩:=h3;have a1:=(iT hN h1).abK;dsimp only at a1;rw[aw]at hs⊢
  have a2:=CB hN ps ids h2;have a3:=nW hN body LX (ind+1) h4 (by omega)
  grind [jt,ew,wE]
 | .call p a l,n,ind,h,hs=>by
  rw[aG]at h
  obtain⟨na,nl,h1,h2,h3⟩:=h;rw[aw]at hs⊢
  have a1:=eT hN a na ind h2 (by omega);have a2:=zS hN l nl ind h3 (by omega)
  grind [jt,kh,wE]
 | .get p a x,n,ind,h,hs=>by
  rw[aG]at h
  obtain⟨na,h1,h2⟩:=h;rw[aw]at hs⊢
  have a1:=eT hN a na ind h2 (by omega);have a3:=(iT hN h1).text;have a4:=kh (decide (lvl a<4)) (wE ts ind a);dsimp only at a3;rw[wE];simp only[lzA,lzC,lzN];omega
 | .atX p a b,n,ind,h,hs=>by
  rw[aG]at h
  obtain⟨na,nb,h1,h2,h3⟩:=h;rw[aw]at hs⊢
  have a1:=eT hN a na ind h2 (by omega);have a2:=eT hN b nb ind h3 (by omega);have a4:=kh (decide (lvl a<4)) (wE ts ind a);rw[wE];simp only[lzA,lzC,lzN];omega
 | .obj p l,n,ind,h,hs=>by
  rw[aG]at h
  obtain⟨nl,h1,h2⟩:=h;rw[aw]at hs⊢
  have a2:=G_ hN l nl ind h2 (by omega);have a3:=jt [44,32] (xB ts ind l);rw[wE];split
  ·simp;omega
  ·simp only[lzA,lzC,lzN]at a3⊢;omega
 | .arr p l,n,ind,h,hs=>by
  rw[aG]at h
  obtain⟨nl,h1,h2⟩:=h;rw[aw]at hs⊢
  have a2:=zS hN l nl ind h2 (by omega);have a3:=jt [44,32] (um ts ind l);rw[wE];simp only[lzA,lzC,lzN]at a3⊢;omega
 | .two p x a b,n,ind,h,hs=>by
  rw[aG]at h
  obtain⟨na,nb,h1,h2,h3⟩:=h;rw[aw]at hs⊢
  have a1:=eT hN a na ind h2 (by omega);have a2:=eT hN b nb ind h3 (by omega);have a3:=(iT hN h1).text;have a4:=kh (decide (lvl a<max (dI x) 1)) (wE ts ind a);have a5:=kh (decide (lvl b<dI x+1)) (wE ts ind b);dsimp only at a3;rw[wE];simp only[lzA,lzC,lzN];omega
 | .one p x a,n,ind,h,hs=>by
  rw[aG]at h
  obtain⟨na,h1,h2⟩:=h;rw[aw]at hs⊢
  have a1:=eT hN a na ind h2 (by omega);have a3:=(iT hN h1).text;have a4:=kh (decide (lvl a<3)) (wE ts ind a);have a5:=PI (x.data.toList=gJ);dsimp only at a3;rw[wE];simp only[List.length_append];omega
 | .asX p a ty,n,ind,h,hs=>by
  rw[aG]at h
  obtain⟨na,h1,h2⟩:=h;rw[aw]at hs⊢
  have a1:=eT hN a na ind h2 (by omega);have a3:=(iT hN h1).EK rfl;have a4:=kh (decide (lvl a<4)) (wE ts ind a);dsimp only at a3;rw[wE];simp only[lzA,lzC,lzN];omega
theorem zS(hN:∀nd∈ns,NdLen ts nd):∀(l:List Ex)(nl:List Nat)(ind:Nat),dS ns l nl->ind+eD l<=1300->eF (um ts ind l)+100*(um ts ind l).length<=20000*eD l
 |[],_,_,_,_=>by simp[um,eD,eF]
 |e::l,_,ind,h,hs=>by
  rw[dS]at h
  obtain⟨n,t,_,h1,h2⟩:=h;rw[eD]at hs⊢
  have a1:=eT hN e n ind h1 (by omega);have a2:=zS hN l t ind h2 (by omega);rw[um];simp only[eF,List.map_cons,List.foldr_cons,List.length_cons]at a2⊢;omega
theorem G_(hN:∀nd∈ns,NdLen ts nd):∀(l:List (Nat×BA×Ex))(nl:List Nat)(ind:Nat),eA ns l nl->ind+fu l<=1300->eF (xB ts ind l)+100*(xB ts ind l).length<=20000*fu l
 |[],_,_,_,_=>by simp[xB,fu,eF]
 |(p,x,e)::l,_,ind,h,hs=>by
  rw[eA]at h
  obtain⟨n,a,t,_,h0,h1,h2⟩:=h;rw[fu]at hs⊢
  have a1:=eT hN e a ind h1 (by omega);have a2:=G_ hN l t ind h2 (by omega);have a3:=(iT hN h0).text;dsimp only at a3;rw[xB];simp only[eF,List.map_cons,List.foldr_cons,List.length_cons,List.length_append,List.length_nil]at a2⊢;omega
theorem nW(hN:∀nd∈ns,NdLen ts nd):∀(l:List Sm)(nl:List Nat)(ind:Nat),eL ns l nl->ind+aI l<=1300->(ki ts ind l).length<=20000*aI l
 |[],_,_,_,_=>by simp[ki,aI]
 |e::l,_,ind,h,hs=>by
  rw[eL]at h
  obtain⟨n,t,_,h1,h2⟩:=h;rw[aI]at hs⊢
  have a1:=S0 hN e n ind h1 (by omega);have a2:=nW hN l t ind h2 (by omega);rw[ki];simp only[List.length_append];omega
theorem S0(hN:∀nd∈ns,NdLen ts nd):∀(e:Sm)(n ind:Nat),bK ns e n->ind+cE e<=1300->(wS ts ind e).length<=20000*cE e
 | .fZ p x ty a,n,ind,h,hs=>by
  rw[bK]at h
  obtain⟨na,h1,h2⟩:=h;rw[cE]at hs⊢
  have a1:=eT hN a na ind h2 (by omega);have a3:=(iT hN h1).text;have a4:=(iT hN h1).abK;have a5:=ew ind;dsimp only at a3 a4;rw[wS];simp only[lzA,lzC,lzN];omega
 | .set p x a,n,ind,h,hs=>by
  rw[bK]at h
  obtain⟨na,h1,h2⟩:=h;rw[cE]at hs⊢
  have a1:=eT hN a na ind h2 (by omega);have a3:=(iT hN h1).text;have a5:=ew ind;dsimp only at a3;rw[wS];simp only[lzA,lzC,lzN];omega
 | .put p a x v,n,ind,h,hs=>by
  rw[bK]at h
  obtain⟨na,nb,h1,h2,h3⟩:=h;rw[cE]at hs⊢
  have a1:=eT hN a na ind h2 (by omega);have a2:=eT hN v nb ind h3 (by omega);have a3:=(iT hN h1).text;have a4:=kh (decide (lvl a<4)) (wE ts ind a);have a5:=ew ind;dsimp only at a3;rw[wS];simp only[lzA,lzC,lzN];omega
 | .lay p a b v,n,ind,h,hs=>by
  rw[bK]at h
  obtain⟨na,nb,nv,h1,h2,h3,h4⟩:=h;rw[cE]at hs⊢
  have a1:=eT hN a na ind h2 (by omega);have a2:=eT hN b nb ind h3 (by omega);have a3:=eT hN v nv ind h4 (by omega);have a4:=kh (decide (lvl a<4)) (wE ts ind a);have a5:=ew ind;rw[wS];simp only[lzA,lzC,lzN];omega
 | .print p a,n,ind,h,hs=>by
  rw[bK]at h
  obtain⟨na,h1,h2⟩:=h;rw[cE]at hs⊢
  have a1:=eT hN a na ind h2 (by omega);have a5:=ew ind;rw[wS];simp only[lzA,lzC,lzN];omega
 | .ret p a,n,ind,h,hs=>by
  rw[bK]at h
  obtain⟨na,h1,h2⟩:=h;rw[cE]at hs⊢
  have a1:=eT hN a na ind h2 (by omega);have a5:=ew ind;rw[wS];simp only[lzA,lzC,lzN];omega
 | .oL p a,n,ind,h,hs=>by
  rw[bK]at h
  obtain⟨na,h1,h2⟩:=h;rw[cE]at hs⊢
  have a1:=eT hN a na ind h2 (by omega);have a5:=ew ind;rw[wS];simp only[lzA,lzC,lzN];omega
 | .if_ p a bp b none,n,ind,h,hs=>by
  rw[bK]at h
  obtain⟨na,nb,h1,h2,h3⟩:=h;rw[fM]at h3
  obtain⟨ids,_,h3⟩:=h3;rw[cE]at hs⊢
  have a1:=eT hN a na ind h2 (by omega);have a2:=nW hN b ids (ind+1) h3 (by omega);have a5:=ew ind;rw[wS];simp only[lzA,lzC,lzN];omega
 | .if_ p a bp b (some (cp,c)),n,ind,h,hs=>by
  rw[bK]at h
  obtain⟨na,nb,nc,h1,h2,h3,h4⟩:=h;rw[fM]at h3 h4
  obtain⟨ids,_,h3⟩:=h3;obtain⟨LX,_,h4⟩:=h4;rw[cE]at hs⊢
  have a1:=eT hN a na ind h2 (by omega);have a2:=nW hN b ids (ind+1) h3 (by omega);have a3:=nW hN c LX (ind+1) h4 (by omega);have a5:=ew ind;rw[wS];simp only[lzA,lzC,lzN];omega
 | .while_ p a bp b,n,ind,h,hs=>by
  rw[bK]at h
  obtain⟨na,nb,h1,h2,h3⟩:=h;rw[fM]at h3
  obtain⟨ids,_,h3⟩:=h3;rw[cE]at hs⊢
  have a1:=eT hN a na ind h2 (by omega);have a2:=nW hN b ids (ind+1) h3 (by omega);have a5:=ew ind;rw[wS];simp only[lzA,lzC,lzN];omega
end
end
theorem OW{pg:Pg}(h:PgOk pg){l:List Sm}{n:Nat}(hl:dm 0 l []=(pg.ns,n))(hd:fM pg.ns 0 l n): (ki pg.ts 0 l).length<=26000000:=by
 rw[fM]at hd
 obtain⟨ids,_,hd⟩:=hd;have h1:pg.ns.length=aI l+1:=by
  grind [fB,dm]
 have h2:=h.o7;have:=nW h.len l ids 0 hd (by omega);omega
end Ty
namespace Ty
theorem wN(sep:List UInt8):∀(l:List (List UInt8))(x:List UInt8),cr sep (l++[x])=if l.length=0 then x else cr sep l++sep++x
 |[],x=>by simp[cr]
 |[a],x=>by simp[cr]
 |a::b::l,x=>by
  have:=wN sep (b::l) x;rw[if_neg (by simp)]at this
  rw[if_neg (by simp)];simp only[List.cons_append,cr]at this⊢;rw[this];simp
end Ty
namespace Ty
def fw:List Par->Nat->List Nat
 |[],_=>[]
 | _::l,a=>a::fw l (a+1)
def gC:List Ex->Nat->List Nat
 |[],_=>[]
 |e::l,a=>(a+aw e-1)::gC l (a+aw e)
def gK:List (Nat×BA×Ex)->Nat->List Nat
 |[],_=>[]
 |(_,_,e)::l,a=>(a+aw e)::gK l (a+aw e+1)
def eP:List Sm->Nat->List Nat
 |[],_=>[]
 |e::l,a=>(a+cE e-1)::eP l (a+cE e)
def uz(ns:List Nd):List Par->Nat->Prop
 |[],_=>True
 |q::l,a=>ns[a]?=some {af 16 q.pos with text:=q.text,ty:=q.ty}/\uz ns l (a+1)
mutual
def dW(ns:List Nd):Ex->Nat->Prop
 | .num p n,a=>ns[a]?=some {af 1 p with n:=n}
 | .text p x,a=>ns[a]?=some {af 2 p with text:=x}
 | .bool p n,a=>ns[a]?=some {af 3 p with n:=n}
 | .null p,a=>ns[a]?=some (af 4 p)
 | .var p x,a=>ns[a]?=some {af 5 p with text:=x}
 | .fn p ps ty bp body,a=>uz ns ps a/\jT ns body (a+ps.length)/\ns[a+ps.length+aI body]?=some {af 26 bp with list:=eP body (a+ps.length)}/\ns[a+ps.length+aI body+1]?=some {af 6 p with list:=fw ps a,ty:=ty,a:=a+ps.length+aI body}
 | .call p e l,a=>dW ns e a/\my ns l (a+aw e)/\ns[a+aw e+eD l]?=some {af 7 p with a:=a+aw e-1,list:=gC l (a+aw e)}
 | .get p e x,a=>dW ns e a/\ns[a+aw e]?=some {af 8 p with a:=a+aw e-1,text:=x}
 | .atX p e i,a=>dW ns e a/\dW ns i (a+aw e)/\ns[a+aw e+aw i]?=some {af 9 p with a:=a+aw e-1,b:=a+aw e+aw i-1}
 | .obj p l,a=>mJ ns l a/\ns[a+fu l]?=some {af 10 p with list:=gK l a}
 | .arr p l,a=>my ns l a/\ns[a+eD l]?=some {af 11 p with list:=gC l a}
 | .two p x e i,a=>dW ns e a/\dW ns i (a+aw e)/\ns[a+aw e+aw i]?=some {af 12 p with text:=x,a:=a+aw e-1,b:=a+aw e+aw i-1}
 | .one p x e,a=>dW ns e a/\ns[a+aw e]?=some {af 13 p with text:=x,a:=a+aw e-1}
 | .asX p e ty,a=>dW ns e a/\ns[a+aw e]?=some {af 14 p with a:=a+aw e-1,ty:=ty}
def my(ns:List Nd):List Ex->Nat->Prop
 |[],_=>True
 |e::l,a=>dW ns e a/\my ns l (a+aw e)
def mJ(ns:List Nd):List (Nat×BA×Ex)->Nat->Prop
 |[],_=>True
 |(p,x,e)::l,a=>dW ns e a/\ns[a+aw e]?=some {af 15 p with text:=x,a:=a+aw e-1}/\mJ ns l (a+aw e+1)
def jT(ns:List Nd):List Sm->Nat->Prop
 |[],_=>True
 |e::l,a=>jh ns e a/\jT ns l (a+cE e)
def jh(ns:List Nd):Sm->Nat->Prop
 | .fZ p x ty e,a=>dW ns e a/\ns[a+aw e]?=some {af 17 p with text:=x,ty:=ty,a:=a+aw e-1}
 | .set p x e,a=>dW ns e a/\ns[a+aw e]?=some {af 18 p with text:=x,a:=a+aw e-1}
 | .put p e x v,a=>dW ns e a/\dW ns v (a+aw e)/\ns[a+aw e+aw v]?=some {af 19 p with text:=x,a:=a+aw e-1,b:=a+aw e+aw v-1}
 | .lay p e i v,a=>dW ns e a/\dW ns i (a+aw e)/\dW ns v (a+aw e+aw i)/\ns[a+aw e+aw i+aw v]?=some {af 20 p with a:=a+aw e-1,b:=a+aw e+aw i-1,c:=((a+aw e+aw i+aw v-1:Nat):Int)}
 | .print p e,a=>dW ns e a/\ns[a+aw e]?=some {af 21 p with a:=a+aw e-1}
 | .ret p e,a=>dW ns e a/\ns[a+aw e]?=some {af 24 p with a:=a+aw e-1}
 | .oL p e,a=>dW ns e a/\ns[a+aw e]?=some {af 25 p with a:=a+aw e-1}
 | .if_ p e bp b none,a=>dW ns e a/\jT ns b (a+aw e)/\ns[a+aw e+aI b]?=some {af 26 bp with list:=eP b (a+aw e)}/\ns[a+aw e+aI b+1]?=some {af 22 p with a:=a+aw e-1,b:=a+aw e+aI b,c:= -1}
 | .if_ p e bp b (some (cp,c)),a=>dW ns e a/\jT ns b (a+aw e)/\ns[a+aw e+aI b]?=some {af 26 bp with list:=eP b (a+aw e)}/\jT ns c (a+aw e+aI b+1)/\
   ns[a+aw e+aI b+1+aI c]?=some {af 26 cp with list:=eP c (a+aw e+aI b+1)}/\ns[a+aw e+aI b+1+aI c+1]?=some {af 22 p with a:=a+aw e-1,b:=a+aw e+aI b,c:=((a+aw e+aI b+1+aI c:Nat):Int)}
 | .while_ p e bp b,a=>dW ns e a/\jT ns b (a+aw e)/\ns[a+aw e+aI b]?=some {af 26 bp with list:=eP b (a+aw e)}/\ns[a+aw e+aI b+1]?=some {af 23 p with a:=a+aw e-1,b:=a+aw e+aI b}
end
theorem cW(e:Ex)(ns:List Nd): (aF e ns).2=ns.length+aw e-1:=by
 obtain⟨n1,nd,h,_⟩:=sQ e ns
 grind [bf]
theorem iX(e:Ex):1<=aw e:=by cases e<;>simp[aw]<;>omega
theorem PT(e:Sm):1<=cE e:=by
 cases e with
 |if_ p a bp b c=>rcases c with _|⟨cp,c⟩<;>simp[cE]
 | _=>simp[cE]
theorem Oa(e:Sm)(ns:List Nd): (cN e ns).2=ns.length+cE e-1:=by
 have h2:=uP e ns;cases e with
 |if_ p a bp b c=>rcases c with _|⟨cp,c⟩<;>(rw[cN]at h2⊢;simp at h2⊢;omega)
 | _=>rw[cN]at h2⊢;simp at h2⊢;omega
theorem a_{ns pL:List Nd}{nd:Nd}(h:pL++[nd]<+:ns){k:Nat}(hk:pL.length=k):ns[k]?=some nd:=by grind [cD]
theorem bC{ns pL:List Nd}{nd:Nd}(h:pL++[nd]<+:ns):pL<+:ns:=(List.prefix_append _ _).trans h
theorem zn:∀(ps:List Par)(ns:List Nd),(gY ps ns).2=fw ps ns.length
 |[],_=>rfl
 |q::ps,ns=>by
  have h:=zn ps (ns++[{af 16 q.pos with text:=q.text,ty:=q.ty}])
  grind [gY,fw]
theorem sI:∀(l:List Ex)(ns:List Nd),(gL l ns).2=gC l ns.length
 |[],_=>by rw[gL];rfl
 |e::l,ns=>by
  have h:=sI l (aF e ns).1
  grind [gL,gC,bf,cW]
theorem yG:∀(l:List (Nat×BA×Ex))(ns:List Nd),(ir l ns).2=gK l ns.length
 |[],_=>by rw[ir];rfl
 |(p,x,e)::l,ns=>by
  have h:=yG l ((aF e ns).1++[{af 15 p with text:=x,a:=(aF e ns).2}])
  grind [ir,gK,bf]
theorem jv:∀(l:List Sm)(ns:List Nd),(dQ l ns).2=eP l ns.length
 |[],_=>by rw[dQ];rfl
 |e::l,ns=>by
  have h:=jv l (cN e ns).1
  grind [dQ,eP,uP,Oa]
theorem CY{ns:List Nd}:∀(ps:List Par)(n0:List Nd),(gY ps n0).1<+:ns->uz ns ps n0.length
 |[],_,_=>trivial
 |q::ps,n0,h=>by
  rw[gY]at h
  have h1:=CY ps _ h;have h2:=(sY ps (n0++[{af 16 q.pos with text:=q.text,ty:=q.ty}])).1.trans h;refine⟨a_ h2 rfl,?_⟩
  grind
mutual
theorem dE{ns:List Nd}:∀(e:Ex)(n0:List Nd),(aF e n0).1<+:ns->dW ns e n0.length
 | .num ..,n0,h=>by rw[aF]at h;rw[dW];exact a_ h rfl
 | .text ..,n0,h=>by rw[aF]at h;rw[dW];exact a_ h rfl
 | .bool ..,n0,h=>by rw[aF]at h;rw[dW];exact a_ h rfl
 | .null ..,n0,h=>by rw[aF]at h;rw[dW];exact a_ h rfl
 | .var ..,n0,h=>by rw[aF]at h;rw[dW];exact a_ h rfl
 | .fn p ps ty bp body,n0,h=>by
  rw[aF,dm]at h;dsimp only at h
  have h1:=bC h;have h2:=bC h1;have hb:=kC body _ h2;have hp:=CY ps _ ((iK body _).1.trans h2);have l1:=wG ps n0;have l2:=fB body (gY ps n0).1;have g1:=a_ h1 (k:=n0.length+ps.length+aI body) (by omega);have g2:=a_ h (k:=n0.length+ps.length+aI body+1) (by simp;omega);rw[jv,l1.1]at g1
  rw[zn,l2,l1.1]at g2
  rw[l1.1]at hb
  rw[dW];exact⟨hp,hb,g1,g2⟩
 | .call p e l,n0,h=>by
  rw[aF]at h;dsimp only at h
  have h1:=bC h;have hl:=wJ l _ h1;have he:=dE e _ ((mK l _).1.trans h1);have l1:=bf e n0;have l2:=oO l (aF e n0).1;have g:=a_ h (k:=n0.length+aw e+eD l) (by omega);rw[sI,cW,l1]at g
  rw[l1]at hl
  rw[dW];exact⟨he,hl,g⟩
 | .get p e x,n0,h=>by
  rw[aF]at h;dsimp only at h
  have g:=a_ h (k:=n0.length+aw e) (bf e n0);rw[cW]at g
  rw[dW];exact⟨dE e _ (bC h),g⟩
 | .atX p e i,n0,h=>by
  rw[aF]at h;dsimp only at h
  have h1:=bC h;have hl:=dE i _ h1;have he:=dE e _ ((bW i _).1.trans h1);have l1:=bf e n0;have l2:=bf i (aF e n0).1;have g:=a_ h (k:=n0.length+aw e+aw i) (by omega);rw[cW,cW,l1]at g
  rw[l1]at hl
  rw[dW];exact⟨he,hl,g⟩
 | .obj p l,n0,h=>by
  rw[aF]at h;dsimp only at h
  have g:=a_ h (k:=n0.length+fu l) (wA l n0);rw[yG]at g
  rw[dW];exact⟨B3 l _ (bC h),g⟩
 | .arr p l,n0,h=>by
  rw[aF]at h;dsimp only at h
  have g:=a_ h (k:=n0.length+eD l) (oO l n0);rw[sI]at g
  rw[dW];exact⟨wJ l _ (bC h),g⟩
 | .two p x e i,n0,h=>by
  rw[aF]at h;dsimp only at h
  have h1:=bC h;have hl:=dE i _ h1;have he:=dE e _ ((bW i _).1.trans h1);have l1:=bf e n0;have l2:=bf i (aF e n0).1;have g:=a_ h (k:=n0.length+aw e+aw i) (by omega);rw[cW,cW,l1]at g
  rw[l1]at hl
  rw[dW];exact⟨he,hl,g⟩
 | .one p x e,n0,h=>by
  rw[aF]at h;dsimp only at h
  have g:=a_ h (k:=n0.length+aw e) (bf e n0);rw[cW]at g
  rw[dW];exact⟨dE e _ (bC h),g⟩
 | .asX p e ty,n0,h=>by
  rw[aF]at h;dsimp only at h
  have g:=a_ h (k:=n0.length+aw e) (bf e n0);rw[cW]at g
  rw[dW];exact⟨dE e _ (bC h),g⟩
theorem wJ{ns:List Nd}:∀(l:List Ex)(n0:List Nd),(gL l n0).1<+:ns->my ns l n0.length
 |[],_,_=>by rw[my];trivial
 |e::l,n0,h=>by
  rw[gL]at h;dsimp only at h
  have hl:=wJ l _ h;rw[bf]at hl
  rw[my];exact⟨dE e _ ((mK l _).1.trans h),hl⟩
theorem B3{ns:List Nd}:∀(l:List (Nat×BA×Ex))(n0:List Nd),(ir l n0).1<+:ns->mJ ns l n0.length
 |[],_,_=>by rw[mJ];trivial
 |(p,x,e)::l,n0,h=>by
  rw[ir]at h;dsimp only at h
  have hl:=B3 l _ h;have h1:=(sG l _).1.trans h;have g:=a_ h1 (k:=n0.length+aw e) (bf e n0);rw[List.length_append,bf]at hl
  rw[cW]at g
  rw[mJ];exact⟨dE e _ (bC h1),g,hl⟩
theorem kC{ns:List Nd}:∀(l:List Sm)(n0:List Nd),(dQ l n0).1<+:ns->jT ns l n0.length
 |[],_,_=>by rw[jT];trivial
 |e::l,n0,h=>by
  rw[dQ]at h;dsimp only at h
  have hl:=kC l _ h;rw[uP]at hl
  rw[jT];exact⟨P5 e _ ((iK l _).1.trans h),hl⟩
theorem P5{ns:List Nd}:∀(e:Sm)(n0:List Nd),(cN e n0).1<+:ns->jh ns e n0.length
 | .fZ p x ty e,n0,h=>by
  rw[cN]at h;dsimp only at h
  have g:=a_ h (k:=n0.length+aw e) (bf e n0);rw[cW]at g
  rw[jh];exact⟨dE e _ (bC h),g⟩
 | .set p x e,n0,h=>by
  rw[cN]at h;dsimp only at h
  have g:=a_ h (k:=n0.length+aw e) (bf e n0);rw[cW]at g
  rw[jh];exact⟨dE e _ (bC h),g⟩
 | .put p e x i,n0,h=>by
  rw[cN]at h;dsimp only at h
  have h1:=bC h;have hl:=dE i _ h1;have he:=dE e _ ((bW i _).1.trans h1);have l1:=bf e n0;have l2:=bf i (aF e n0).1;have g:=a_ h (k:=n0.length+aw e+aw i) (by omega);rw[cW,cW,l1]at g
  rw[l1]at hl
  rw[jh];exact⟨he,hl,g⟩
 | .lay p e i v,n0,h=>by
  rw[cN]at h;dsimp only at h
  have h1:=bC h;have hv:=dE v _ h1;have h2:=(bW v _).1.trans h1;have hl:=dE i _ h2;have he:=dE e _ ((bW i _).1.trans h2);have l1:=bf e n0;have l2:=bf i (aF e n0).1;have l3:=bf v (aF i (aF e n0).1).1;have g:=a_ h (k:=n0.length+aw e+aw i+aw v) (by omega);rw[cW,cW,cW,l2,l1]at g
  rw[l1]at hl
  rw[l2,l1]at hv
  rw[jh];exact⟨he,hl,hv,g⟩
 | .print p e,n0,h=>by
  rw[cN]at h;dsimp only at h
  have g:=a_ h (k:=n0.length+aw e) (bf e n0);rw[cW]at g
  rw[jh];exact⟨dE e _ (bC h),g⟩
 | .ret p e,n0,h=>by
  rw[cN]at h;dsimp only at h
  have g:=a_ h (k:=n0.length+aw e) (bf e n0);rw[cW]at g
  rw[jh];exact⟨dE e _ (bC h),g⟩
 | .oL p e,n0,h=>by
  rw[cN]at h;dsimp only at h
  have g:=a_ h (k:=n0.length+aw e) (bf e n0);rw[cW]at g
  rw[jh];exact⟨dE e _ (bC h),g⟩
 | .if_ p e bp b none,n0,h=>by
  rw[M0,dm]at h;dsimp only at h
  have h1:=bC h;have h2:=bC h1;have hb:=kC b _ h2;have he:=dE e _ ((iK b _).1.trans h2);have l1:=bf e n0;have l2:=fB b (aF e n0).1;have g1:=a_ h1 (k:=n0.length+aw e+aI b) (by omega);have g2:=a_ h (k:=n0.length+aw e+aI b+1) (by simp;omega);rw[jv,l1]at g1
  rw[cW,l2,l1]at g2
  rw[l1]at hb
  rw[jh];exact⟨he,hb,g1,g2⟩
 | .if_ p e bp b (some (cp,c)),n0,h=>by
  rw[cN,dm,dm]at h;dsimp only at h
  have h1:=bC h;have h2:=bC h1;have hc:=kC c _ h2;have h3:=(iK c _).1.trans h2;have h4:=bC h3;have hb:=kC b _ h4;have he:=dE e _ ((iK b _).1.trans h4);have l1:=bf e n0;have l2:=fB b (aF e n0).1;have l3: ((dQ b (aF e n0).1).1++[({af 26 bp with list:=(dQ b (aF e n0).1).2}:Nd)]).length=n0.length+aw e+aI b+1:=by simp;omega
  have l4:=fB c ((dQ b (aF e n0).1).1++[({af 26 bp with list:=(dQ b (aF e n0).1).2}:Nd)]);rw[l3]at l4
  have g1:=a_ h3 (k:=n0.length+aw e+aI b) (by omega);have g2:=a_ h1 (k:=n0.length+aw e+aI b+1+aI c) (by omega);have g3:=a_ h (k:=n0.length+aw e+aI b+1+aI c+1) (by rw[List.length_append,l4];rfl);rw[jv,l1]at g1
  rw[jv,l3]at g2
  rw[cW,l2,l1,l4]at g3
  rw[l1]at hb
  rw[l3]at hc
  rw[jh];exact⟨he,hb,g1,hc,g2,g3⟩
 | .while_ p e bp b,n0,h=>by
  rw[cN,dm]at h;dsimp only at h
  have h1:=bC h;have h2:=bC h1;have hb:=kC b _ h2;have he:=dE e _ ((iK b _).1.trans h2);have l1:=bf e n0;have l2:=fB b (aF e n0).1;have g1:=a_ h1 (k:=n0.length+aw e+aI b) (by omega);have g2:=a_ h (k:=n0.length+aw e+aI b+1) (by simp;omega);rw[jv,l1]at g1
  rw[cW,l2,l1]at g2
  rw[l1]at hb
  rw[jh];exact⟨he,hb,g1,g2⟩
end
theorem EZ{l:List Sm}{ns:List Nd}{m:Nat}(h:dm 0 l []=(ns,m)):jT ns l 0/\ns[aI l]?=some {af 26 0 with list:=eP l 0}/\m=aI l/\ns.length=aI l+1:=by
 rw[dm]at h
 simp only[Prod.mk.injEq]at h;obtain⟨h1,h2⟩:=h;have l1:=fB l [];have l2:=jv l [];simp only[List.length_nil,Nat.zero_add]at l1 l2;have hp: (dQ l []).1++[({af 26 0 with list:=(dQ l []).2}:Nd)]<+:ns:=by rw[h1];exact List.prefix_refl _
 have g:=a_ hp l1;rw[l2]at g
 exact⟨kC l [] (bC hp),g,by omega,by rw[<-h1];simp[l1]⟩
end Ty
namespace Ty
structure Kn where
 text:BA
 node:Nat
 owner:Nat
 f:Int
structure Sg where
 out:List (Nat×Nat)
 tu:List Nat
def V'(env:List Kn)(x:BA):Option Kn:=env.reverse.find? (λm=>decide (m.text=x))
def WJ(p:Nat)(x:BA)(n:Nat)(set:Bool)(f:Int)(env:List Kn)(s:Sg):Except Ft Sg:=
 match V' env x with
 |none=>.error (5,p)
 |some m=>.ok ⟨s.out++[(n,m.node)],if set&&decide (m.f≠f)&&!decide (m.node∈s.tu)then s.tu++[m.node]else s.tu⟩
def Vw(n:Nat):List Par->Nat->List Kn
 |q::ps,a=>⟨q.text,a,n,n⟩::Vw n ps (a+1)
 |[],_=>[]
def mh:Ex->Bool
 | .fn .. =>true
 | .num .. =>false
 | .text .. =>false
 | .bool .. =>false
 | .null .. =>false
 | .var .. =>false
 | .call .. =>false
 | .get .. =>false
 | .atX .. =>false
 | .obj .. =>false
 | .arr .. =>false
 | .two .. =>false
 | .one .. =>false
 | .asX .. =>false
def aK{α β:Type}(a:Except Ft α)(k:α->Except Ft β):Except Ft β:=match a with
 | .error e=>.error e
 | .ok s=>k s
mutual
def jS:Ex->Nat->Int->List Kn->Sg->Except Ft Sg
 | .num ..,_,_,_,s=>.ok s
 | .text ..,_,_,_,s=>.ok s
 | .bool ..,_,_,_,s=>.ok s
 | .null ..,_,_,_,s=>.ok s
 | .var p x,a,f,env,s=>WJ p x a false f env s
 | .fn _ ps _ _ body,a,_,env,s=>aK (vC body (a+ps.length) (a+ps.length+aI body+1) ((a+ps.length+aI body+1:Nat):Int) (env++Vw (a+ps.length+aI body+1) ps a) s) λr=>.ok r.2
 | .call _ e l,a,f,env,s=>aK (jS e a f env s) λs=>Ih l (a+aw e) f env s
 | .get _ e _,a,f,env,s=>jS e a f env s
 | .atX _ e i,a,f,env,s=>aK (jS e a f env s) λs=>jS i (a+aw e) f env s
 | .obj _ l,a,f,env,s=>Pc l a f env s
 | .arr _ l,a,f,env,s=>Ih l a f env s
 | .two _ _ e i,a,f,env,s=>aK (jS e a f env s) λs=>jS i (a+aw e) f env s
 | .one _ _ e,a,f,env,s=>jS e a f env s
 | .asX _ e _,a,f,env,s=>jS e a f env s
def Ih:List Ex->Nat->Int->List Kn->Sg->Except Ft Sg
 |[],_,_,_,s=>.ok s
 |e::l,a,f,env,s=>aK (jS e a f env s) λs=>Ih l (a+aw e) f env s
def Pc:List (Nat×BA×Ex)->Nat->Int->List Kn->Sg->Except Ft Sg
 |[],_,_,_,s=>.ok s
 |(_,_,e)::l,a,f,env,s=>aK (jS e a f env s) λs=>Pc l (a+aw e+1) f env s
def vC:List Sm->Nat->Nat->Int->List Kn->Sg->Except Ft (List Kn×Sg)
 |[],_,_,_,env,s=>.ok (env,s)
 |e::l,a,o,f,env,s=>aK (TB e a o f env s) λr=>vC l (a+cE e) o f r.1 r.2
def TB:Sm->Nat->Nat->Int->List Kn->Sg->Except Ft (List Kn×Sg)
 | .fZ p x _ e,a,o,f,env,s=>
  if env.any (λm=>decide (m.owner=o)&&decide (m.text=x))then .error (6,p)
  else aK (jS e a f (if mh e then env++[⟨x,a+aw e,o,f⟩]else env) s) λs=>.ok (env++[⟨x,a+aw e,o,f⟩],s)
 | .set p x e,a,_,f,env,s=>aK (WJ p x (a+aw e) true f env s) λs=>aK (jS e a f env s) λs=>.ok (env,s)
 | .put _ e _ v,a,_,f,env,s=>aK (jS e a f env s) λs=>aK (jS v (a+aw e) f env s) λs=>.ok (env,s)
 | .lay _ e i v,a,_,f,env,s=>aK (jS e a f env s) λs=>aK (jS i (a+aw e) f env s) λs=>aK (jS v (a+aw e+aw i) f env s) λs=>.ok (env,s)
 | .print _ e,a,_,f,env,s=>aK (jS e a f env s) λs=>.ok (env,s)
 | .ret _ e,a,_,f,env,s=>aK (jS e a f env s) λs=>.ok (env,s)
 | .oL _ e,a,_,f,env,s=>aK (jS e a f env s) λs=>.ok (env,s)
 | .if_ _ e _ b none,a,_,f,env,s=>aK (jS e a f env s) λs=>aK (vC b (a+aw e) (a+aw e+aI b) f env s) λr=>.ok (env,r.2)
 | .if_ _ e _ b (some (_,c)),a,_,f,env,s=>aK (jS e a f env s) λs=>aK (vC b (a+aw e) (a+aw e+aI b) f env s) λr=>aK (vC c (a+aw e+aI b+1) (a+aw e+aI b+1+aI c) f env r.2) λr=>.ok (env,r.2)
 | .while_ _ e _ b,a,_,f,env,s=>aK (jS e a f env s) λs=>aK (vC b (a+aw e) (a+aw e+aI b) f env s) λr=>.ok (env,r.2)
end
structure Frm where
 names:List (BA×Nat)
 owner:Nat
 of:Int
structure Vg where
 out:List (Nat×Nat)
 wi:Nat->Option Int
 ca:Nat->Bool
def hZ(l:List (BA×Nat))(x:BA):Option Nat:=(l.reverse.find? (λm=>decide (m.1=x))).map (·.2)
def lg:List Frm->BA->Option Nat
 |[],_=>none
 |fr::l,x=>match hZ fr.names x with
  |some n=>some n
  |none=>lg l x
def r8:List Frm->Int
 |[]=>0
 |fr:: _=>fr.of
def kZ(p:Nat)(x:BA)(n:Nat)(set:Bool)(frs:List Frm)(s:Vg):Except Ft Vg:=
 match lg frs x with
 |none=>.error (5,p)
 |some to=>.ok {s with out:=s.out++[(n,to)],ca:=if set&&decide ((s.wi to).getD 0≠r8 frs)then λk=>if k=to then true else s.ca k else s.ca}
def addN(fr:Frm)(x:BA)(n:Nat):Frm:={fr with names:=fr.names++[(x,n)]}
def v7(s:Vg)(n:Nat)(o:Int):Vg:={s with wi:=λk=>if k=n then some o else s.wi k}
def jm:List Par->Nat->Frm->Vg->Frm×Vg
 |[],_,fr,s=>(fr,s)
 |q::ps,a,fr,s=>jm ps (a+1) (addN fr q.text a) (v7 s a fr.of)
mutual
def bQ:Ex->Nat->List Frm->Vg->Except Ft Vg
 | .num ..,_,_,s=>.ok s
 | .text ..,_,_,s=>.ok s
 | .bool ..,_,_,s=>.ok s
 | .null ..,_,_,s=>.ok s
 | .var p x,a,frs,s=>kZ p x a false frs s
 | .fn _ ps _ _ body,a,frs,s=>
  aK (fJ body (a+ps.length) (jm ps a ⟨[],a+ps.length+aI body+1,((a+ps.length+aI body+1:Nat):Int)⟩ s).1 frs (jm ps a ⟨[],a+ps.length+aI body+1,((a+ps.length+aI body+1:Nat):Int)⟩ s).2) λr=>.ok r.2
 | .call _ e l,a,frs,s=>aK (bQ e a frs s) λs=>jc l (a+aw e) frs s
 | .get _ e _,a,frs,s=>bQ e a frs s
 | .atX _ e i,a,frs,s=>aK (bQ e a frs s) λs=>bQ i (a+aw e) frs s
 | .obj _ l,a,frs,s=>jl l a frs s
 | .arr _ l,a,frs,s=>jc l a frs s
 | .two _ _ e i,a,frs,s=>aK (bQ e a frs s) λs=>bQ i (a+aw e) frs s
 | .one _ _ e,a,frs,s=>bQ e a frs s
 | .asX _ e _,a,frs,s=>bQ e a frs s
def jc:List Ex->Nat->List Frm->Vg->Except Ft Vg
 |[],_,_,s=>.ok s
 |e::l,a,frs,s=>aK (bQ e a frs s) λs=>jc l (a+aw e) frs s
def jl:List (Nat×BA×Ex)->Nat->List Frm->Vg->Except Ft Vg
 |[],_,_,s=>.ok s
 |(_,_,e)::l,a,frs,s=>aK (bQ e a frs s) λs=>jl l (a+aw e+1) frs s
def fJ:List Sm->Nat->Frm->List Frm->Vg->Except Ft (Frm×Vg)
 |[],_,fr,_,s=>.ok (fr,s)
 |e::l,a,fr,frs,s=>aK (dY e a fr frs s) λr=>fJ l (a+cE e) r.1 frs r.2
def dY:Sm->Nat->Frm->List Frm->Vg->Except Ft (Frm×Vg)
 | .fZ p x _ e,a,fr,frs,s=>
  if(hZ fr.names x).isSome then .error (6,p)
  else if mh e then aK (bQ e a (addN fr x (a+aw e)::frs) (v7 s (a+aw e) fr.of)) λs=>.ok (addN fr x (a+aw e),s)
  else aK (bQ e a (fr::frs) s) λs=>.ok (addN fr x (a+aw e),v7 s (a+aw e) fr.of)
 | .set p x e,a,fr,frs,s=>aK (kZ p x (a+aw e) true (fr::frs) s) λs=>aK (bQ e a (fr::frs) s) λs=>.ok (fr,s)
 | .put _ e _ v,a,fr,frs,s=>aK (bQ e a (fr::frs) s) λs=>aK (bQ v (a+aw e) (fr::frs) s) λs=>.ok (fr,s)
 | .lay _ e i v,a,fr,frs,s=>aK (bQ e a (fr::frs) s) λs=>aK (bQ i (a+aw e) (fr::frs) s) λs=>aK (bQ v (a+aw e+aw i) (fr::frs) s) λs=>.ok (fr,s)
 | .print _ e,a,fr,frs,s=>aK (bQ e a (fr::frs) s) λs=>.ok (fr,s)
 | .ret _ e,a,fr,frs,s=>aK (bQ e a (fr::frs) s) λs=>.ok (fr,s)
 | .oL _ e,a,fr,frs,s=>aK (bQ e a (fr::frs) s) λs=>.ok (fr,s)
 | .if_ _ e _ b none,a,fr,frs,s=>aK (bQ e a (fr::frs) s) λs=>aK (fJ b (a+aw e) ⟨[],a+aw e+aI b,fr.of⟩ (fr::frs) s) λr=>.ok (fr,r.2)
 | .if_ _ e _ b (some (_,c)),a,fr,frs,s=>aK (bQ e a (fr::frs) s) λs=>aK (fJ b (a+aw e) ⟨[],a+aw e+aI b,fr.of⟩ (fr::frs) s) λr=>aK (fJ c (a+aw e+aI b+1) ⟨[],a+aw e+aI b+1+aI c,fr.of⟩ (fr::frs) r.2) λr=>.ok (fr,r.2)
 | .while_ _ e _ b,a,fr,frs,s=>aK (bQ e a (fr::frs) s) λs=>aK (fJ b (a+aw e) ⟨[],a+aw e+aI b,fr.of⟩ (fr::frs) s) λr=>.ok (fr,r.2)
end
end Ty
namespace Ty
section
variable {N a b c:Nat} {v v' v2:Vg} {s s' s2:Sg} {frs:List Frm} {env:List Kn} {fr:Frm}
theorem aR{α β γ:Type}(x:Except Ft α)(f:α->Except Ft β)(g:β->Except Ft γ):aK (aK x f) g=aK x λr=>aK (f r) g:=by cases x<;>rfl
theorem fP{α β:Type}(x:α)(f:α->Except Ft β):aK (.ok x) f=f x:=rfl
end
end Ty
end Go.Proofs.YtdlbhiaceheffabGreatDoor
