/- Plain: expressions and statements as trees; how they are laid as nodes. No program in sight. -/
import Derived.Test.YtdlbhiaceheffabGreatDoorE01
set_option linter.all false
namespace Go.Proofs.YtdlbhiaceheffabGreatDoor
open Go Go.RowKit Ty Tok
namespace Ty
structure Par where
 pos:Nat
 text:BA
 ty:Int
mutual
inductive Ex where
 |num (p n:Nat)
 |text (p:Nat) (x:BA)
 |bool (p n:Nat)
 |null (p:Nat)
 |var (p:Nat) (x:BA)
 |fn (p:Nat) (ps:List Par) (ty:Int) (bp:Nat) (body:List Sm)
 |call (p:Nat) (a:Ex) (l:List Ex)
 |get (p:Nat) (a:Ex) (x:BA)
 |atX (p:Nat) (a b:Ex)
 |obj (p:Nat) (l:List (Nat×BA×Ex))
 |arr (p:Nat) (l:List Ex)
 |two (p:Nat) (x:BA) (a b:Ex)
 |one (p:Nat) (x:BA) (a:Ex)
 |asX (p:Nat) (a:Ex) (ty:Int)
inductive Sm where
 |jR (p:Nat) (x:BA) (ty:Int) (a:Ex)
 |set (p:Nat) (x:BA) (v:Ex)
 |put (p:Nat) (a:Ex) (x:BA) (v:Ex)
 |lay (p:Nat) (a b v:Ex)
 |print (p:Nat) (a:Ex)
 |ret (p:Nat) (a:Ex)
 |u9 (p:Nat) (a:Ex)
 |if_ (p:Nat) (a:Ex) (bp:Nat) (b:List Sm) (c:Option (Nat×List Sm))
 |while_ (p:Nat) (a:Ex) (bp:Nat) (b:List Sm)
end
def g_:List Par->List Nd->List Nd×List Nat
 |[],ns=>(ns,[])
 |q::ps,ns=>let r:=g_ ps (ns++[{af 16 q.pos with text:=q.text,ty:=q.ty}]);(r.1,ns.length::r.2)
mutual
def aT:Ex->List Nd->List Nd×Nat
 | .num p n,ns=>(ns++[{af 1 p with n:=n}],ns.length)
 | .text p x,ns=>(ns++[{af 2 p with text:=x}],ns.length)
 | .bool p n,ns=>(ns++[{af 3 p with n:=n}],ns.length)
 | .null p,ns=>(ns++[af 4 p],ns.length)
 | .var p x,ns=>(ns++[{af 5 p with text:=x}],ns.length)
 | .fn p ps ty bp body,ns=>let r:=g_ ps ns;let b:=eu bp body r.1;(b.1++[{af 6 p with list:=r.2,ty:=ty,a:=b.2}],b.1.length)
 | .call p a l,ns=>let r:=aT a ns;let q:=h_ l r.1;(q.1++[{af 7 p with a:=r.2,list:=q.2}],q.1.length)
 | .get p a x,ns=>let r:=aT a ns;(r.1++[{af 8 p with a:=r.2,text:=x}],r.1.length)
 | .atX p a b,ns=>let r:=aT a ns;let q:=aT b r.1;(q.1++[{af 9 p with a:=r.2,b:=q.2}],q.1.length)
 | .obj p l,ns=>let q:=iO l ns;(q.1++[{af 10 p with list:=q.2}],q.1.length)
 | .arr p l,ns=>let q:=h_ l ns;(q.1++[{af 11 p with list:=q.2}],q.1.length)
 | .two p x a b,ns=>let r:=aT a ns;let q:=aT b r.1;(q.1++[{af 12 p with text:=x,a:=r.2,b:=q.2}],q.1.length)
 | .one p x a,ns=>let r:=aT a ns;(r.1++[{af 13 p with text:=x,a:=r.2}],r.1.length)
 | .asX p a ty,ns=>let r:=aT a ns;(r.1++[{af 14 p with a:=r.2,ty:=ty}],r.1.length)
def h_:List Ex->List Nd->List Nd×List Nat
 |[],ns=>(ns,[])
 |e::l,ns=>let r:=aT e ns;let q:=h_ l r.1;(q.1,r.2::q.2)
def iO:List (Nat×BA×Ex)->List Nd->List Nd×List Nat
 |[],ns=>(ns,[])
 |(p,x,e)::l,ns=>let r:=aT e ns;let q:=iO l (r.1++[{af 15 p with text:=x,a:=r.2}]);(q.1,r.1.length::q.2)
def eu(bp:Nat)(l:List Sm)(ns:List Nd):List Nd×Nat:=let q:=eO l ns;(q.1++[{af 26 bp with list:=q.2}],q.1.length)
def eO:List Sm->List Nd->List Nd×List Nat
 |[],ns=>(ns,[])
 |e::l,ns=>let r:=dK e ns;let q:=eO l r.1;(q.1,r.2::q.2)
def dK:Sm->List Nd->List Nd×Nat
 | .jR p x ty a,ns=>let r:=aT a ns;(r.1++[{af 17 p with text:=x,ty:=ty,a:=r.2}],r.1.length)
 | .set p x v,ns=>let r:=aT v ns;(r.1++[{af 18 p with text:=x,a:=r.2}],r.1.length)
 | .put p a x v,ns=>let r:=aT a ns;let q:=aT v r.1;(q.1++[{af 19 p with text:=x,a:=r.2,b:=q.2}],q.1.length)
 | .lay p a b v,ns=>let r:=aT a ns;let q:=aT b r.1;let u:=aT v q.1;(u.1++[{af 20 p with a:=r.2,b:=q.2,c:=(u.2:Int)}],u.1.length)
 | .print p a,ns=>let r:=aT a ns;(r.1++[{af 21 p with a:=r.2}],r.1.length)
 | .ret p a,ns=>let r:=aT a ns;(r.1++[{af 24 p with a:=r.2}],r.1.length)
 | .u9 p a,ns=>let r:=aT a ns;(r.1++[{af 25 p with a:=r.2}],r.1.length)
 | .if_ p a bp b none,ns=>let r:=aT a ns;let q:=eu bp b r.1;(q.1++[{af 22 p with a:=r.2,b:=q.2,c:= -1}],q.1.length)
 | .if_ p a bp b (some (cp,c)),ns=>let r:=aT a ns;let q:=eu bp b r.1;let u:=eu cp c q.1;(u.1++[{af 22 p with a:=r.2,b:=q.2,c:=(u.2:Int)}],u.1.length)
 | .while_ p a bp b,ns=>let r:=aT a ns;let q:=eu bp b r.1;(q.1++[{af 23 p with a:=r.2,b:=q.2}],q.1.length)
end
end Ty
section
namespace Ty
open Tok (Tk)
def aC{α:Type}(m:M α):Prop:=∀s a s',m s=.ok (a,s')->s'.ns=s.ns
section
variable {α β:Type}
theorem aC.ret(a:α):aC (ret a):=λs b s' e=>by cases e;rfl
theorem aC.fail(ad:List Tk)(n:Nat):aC (fail (α:=α) ad n):=λs b s' h=>by cases h
theorem aC.step:aC step:=λs b s' e=>by cases e;rfl
theorem aC.need(ad:List Tk)(x:List UInt8):aC (need ad x):=λs b s' e=>by unfold Ty.need at e;split at e<;>cases e;rfl
theorem aC.take(ad:List Tk)(x:List UInt8):aC (take ad x):=λs b s' e=>by unfold Ty.take at e;split at e<;>cases e<;>rfl
theorem aC.name(ad:List Tk)(met:List BA):aC (name ad met):=λs b s' e=>by
 unfold Ty.name at e;split at e
 ·cases e
 ·split at e<;>cases e;rfl
theorem aC.aY(t:Ty):aC (aY t):=λs b s' e=>by cases e;rfl
theorem aC.aq{m:M α}{k:α->M β}(h:aC m)(g:∀a,aC (k a)):aC (Ty.aq m k):=λs b s' x=>by
 obtain⟨a,s1,e1,e2⟩:=ar x;exact(g a _ _ _ e2).trans (h _ _ _ e1)
theorem aC.ite{p:Prop} [Decidable p]{m n:M α}(h:aC m)(g:aC n):aC (if p then m else n):=by split<;>assumption
theorem aC.list{ad:List Tk}{x:List UInt8}{m:List α->M α}(hm:∀l,aC (m l)):∀f l,aC (list ad x m f l)
 |0,_=>aC.fail _ _
 |f+1,l=>(aC.take _ _).aq λ_=>aC.ite (aC.ret l) ((aC.ite (aC.ret ()) (aC.need _ _)).aq λ_=>(hm l).aq λn=>aC.list hm f (l++[n]))
theorem aC.fields{ad:List Tk}{T:M Nat}(hT:aC T):∀f l,aC (fields ad T f l)
 |0,_=>aC.fail _ _
 |f+1,l=>(aC.take _ _).aq λ_=>aC.ite (aC.ret l) ((aC.name _ _).aq λs=>(aC.need _ _).aq λ_=>hT.aq λn=>(aC.need _ _).aq λ_=>aC.fields hT f (l++[(s,n)]))
theorem aC.round{ad:List Tk}{T:M Nat}(hT:aC T):aC (round ad T):=
 (aC.list (λ_=>hT) _ _).aq λ_=>(aC.take _ _).aq λ_=>aC.ite (hT.aq λ_=>aC.aY _) (aC.ite (aC.ret _) (aC.fail _ _))
theorem aC.single{ad:List Tk}{T:M Nat}(hT:aC T):aC (single ad T):=λs a s' h=>by
 unfold Ty.single at h;split at h
 ·exact(aC.step.aq λ_=>aC.aY _) s a s' h
 ·exact((aC.take _ _).aq λb=>aC.ite ((aC.fields hT _ _).aq λ_=>aC.aY _) ((aC.take _ _).aq λb=>aC.ite (hT.aq λn=>(aC.need _ _).aq λ_=>aC.aY _) ((aC.need _ _).aq λ_=>aC.round hT))) s a s' h
theorem aC.bars{ad:List Tk}{S:M Nat}(hS:aC S):∀f l,aC (bars ad S f l)
 |0,_=>aC.fail _ _
 |f+1,l=>(aC.take _ _).aq λ_=>aC.ite (hS.aq λn=>aC.bars hS f (l++[n])) (aC.ret l)
theorem aC.union{ad:List Tk}{S:M Nat}(hS:aC S):aC (union ad S):=hS.aq λ_=>(aC.bars hS _ _).aq λ_=>aC.ite (aC.ret _) (aC.aY _)
theorem aC.r'(ad:List Tk):∀r,aC (r' ad r)
 |0=>aC.fail _ _
 |r+1=>aC.union (aC.single (aC.r' ad r))
theorem aC.written{ad:List Tk}{T:M Nat}(hT:aC T):aC (written ad T):=(aC.take _ _).aq λ_=>aC.ite (hT.aq λ_=>aC.ret _) (aC.ret _)
end
def lj(m:M Nat):Prop:=∀s n s',m s=.ok (n,s')->∃e,aT e s.ns=(s'.ns,n)
def qT(m:M Nat):Prop:=∀s n s',m s=.ok (n,s')->∃e,dK e s.ns=(s'.ns,n)
section
variable {ad:List Tk} {T E O S ONE:M Nat}
theorem qt(h:lj ONE){bh:List (List UInt8)}:∀f n(s0:List Nd) s,(∃e,aT e s0=(s.ns,n))->∀m s',cW ad ONE bh f n s=.ok (m,s')->∃e,aT e s0=(s'.ns,m)
 |0,_,_,_,_,_,_,x=>by cases x
 |f+1,n,s0,s,⟨e,he⟩,m,s',x=>by
  have x: (if bh.any (λx=>is ad x s.pos)=true then aq step λ_=>aq ONE λb=>aq (two (cur ad s.pos).text n b) λm=>cW ad ONE bh f m else ret n:M Nat) s=.ok (m,s'):=x;split at x
  ·obtain⟨_,s1,e1,x⟩:=ar x;obtain⟨b,s2,e2,x⟩:=ar x;obtain⟨k,s3,e3,x⟩:=ar x;obtain⟨eb,hb⟩:=h _ _ _ e2;cases e1;cases e3;refine qt h f _ s0 _ ⟨.two (cG s2 n).pos (cur ad s.pos).text e eb,?_⟩ m s' x;rw[aT,he];dsimp only at hb⊢;rw[hb]
  ·cases x;exact⟨e,he⟩
theorem Ad(h:lj ONE){bh:List (List UInt8)}:lj (left ad ONE bh):=λs n s' x=>by
 obtain⟨a,s1,e1,x⟩:=ar x;exact qt h _ _ _ _ (h _ _ _ e1) _ _ x
theorem EY{x:BA}{n b m:Nat}{s0:List Nd}{s1 s2 s3:St}{e eb:Ex}(he:aT e s0=(s1.ns,n))(hb:aT eb s1.ns=(s2.ns,b))(h:two x n b s2=.ok (m,s3)):∃e',aT e' s0=(s3.ns,m):=by
 cases h;exact⟨.two (cG s2 n).pos x e eb,by rw[aT,he];dsimp only;rw[hb]⟩
theorem FV(h:lj ONE):lj (jH ad ONE):=λs n s' x=>by
 have hs:lj (pY ad ONE):=Ad (Ad h);obtain⟨a,s1,e1,x⟩:=ar x;obtain⟨e,he⟩:=hs _ _ _ e1;obtain⟨b,s2,e2,x⟩:=ar x;have k2:=aC.take _ _ _ _ _ e2;cases b
 ·obtain⟨b,s3,e3,x⟩:=ar (show aq (take ad [60]) _ s2= _ from x);have k3:=aC.take _ _ _ _ _ e3;cases b
  ·have x:ret a s3=.ok (n,s'):=x;cases x;exact⟨e,by rw[he,k3,k2]⟩
  ·obtain⟨m,s4,e4,x⟩:=ar (show aq (pY ad ONE) (λm=>two ⟨#[60]⟩ a m) s3= _ from x);obtain⟨eb,hb⟩:=hs _ _ _ e4;rw[k3,k2]at hb
   exact EY he hb x
 ·obtain⟨m,s4,e4,x⟩:=ar (show aq (pY ad ONE) (λm=>two ⟨#[61,61]⟩ a m) s2= _ from x);obtain⟨eb,hb⟩:=hs _ _ _ e4;rw[k2]at hb
  exact EY he hb x
theorem re{x:List UInt8}(h:lj E):∀f l s r s',list ad x (λ_=>E) f l s=.ok (r,s')->∃es ids,h_ es s.ns=(s'.ns,ids)/\r=l++ids
 |0,_,_,_,_,y=>by cases y
 |f+1,l,s,r,s',y=>by
  obtain⟨b,s1,e1,y⟩:=ar y;have k1:=aC.take _ _ _ _ _ e1;cases b
  ·obtain⟨_,s2,e2,y⟩:=ar (show aq (if l.length=0 then ret ()else need ad [44]) _ s1= _ from y);have k2:=(aC.ite (aC.ret ()) (aC.need ad [44])) _ _ _ e2;obtain⟨n,s3,e3,y⟩:=ar y;obtain⟨e,he⟩:=h _ _ _ e3;obtain⟨es,ids,h1,h2⟩:=re h f _ _ _ _ y;refine⟨e::es,n::ids,?_,by rw[h2];simp⟩;rw[h_,<-k1,<-k2,he];dsimp only;rw[h1]
  ·have y:ret l s1=.ok (r,s'):=y;cases y;exact⟨[],[],by rw[h_,k1],by simp⟩
theorem wU{x:List UInt8}(h:lj E):∀f l s r s',list ad x (λl=>hZ ad E (l.map Prod.fst)) f l s=.ok (r,s')->∃os ids,iO os s.ns=(s'.ns,ids)/\r.map Prod.snd=l.map Prod.snd++ids
 |0,_,_,_,_,y=>by cases y
 |f+1,l,s,r,s',y=>by
  obtain⟨b,s1,e1,y⟩:=ar y;have k1:=aC.take _ _ _ _ _ e1;cases b
  ·obtain⟨_,s2,e2,y⟩:=ar (show aq (if l.length=0 then ret ()else need ad [44]) _ s1= _ from y);have k2:=(aC.ite (aC.ret ()) (aC.need ad [44])) _ _ _ e2;obtain⟨q,s3,e3,y⟩:=ar y;obtain⟨nm,t1,f1,g⟩:=ar (show aq (name ad (l.map Prod.fst)) (λx=>aq (need ad [58]) λ_=>aq E λa=>aq (addNode {af 15 (cur ad s2.pos).pos with text:=x,a:=a}) λn=>ret (x,n)) s2= _ from e3);have m1:=aC.name _ _ _ _ _ f1;obtain⟨_,t2,f2,g⟩:=ar g;have m2:=aC.need _ _ _ _ _ f2;obtain⟨a,t3,f3,g⟩:=ar g;obtain⟨e,he⟩:=h _ _ _ f3;cases g;obtain⟨os,ids,h1,h2⟩:=wU h f _ _ _ _ y;refine⟨((cur ad s2.pos).pos,nm,e)::os,t3.ns.length::ids,?_,by rw[h2];simp⟩;rw[iO,<-k1,<-k2,<-m1,<-m2,he];dsimp only at h1⊢;rw[h1]
  ·have y:ret l s1=.ok (r,s'):=y;cases y;exact⟨[],[],by rw[iO,k1],by simp⟩
theorem wG{x:List UInt8}(hT:aC T):∀f l s r s',list ad x (λl=>gB ad T (l.map Prod.fst)) f l s=.ok (r,s')->∃ps ids,g_ ps s.ns=(s'.ns,ids)/\r.map Prod.snd=l.map Prod.snd++ids
 |0,_,_,_,_,y=>by cases y
 |f+1,l,s,r,s',y=>by
  obtain⟨b,s1,e1,y⟩:=ar y;have k1:=aC.take _ _ _ _ _ e1;cases b
  ·obtain⟨_,s2,e2,y⟩:=ar (show aq (if l.length=0 then ret ()else need ad [44]) _ s1= _ from y);have k2:=(aC.ite (aC.ret ()) (aC.need ad [44])) _ _ _ e2;obtain⟨q,s3,e3,y⟩:=ar y;obtain⟨nm,t1,f1,g⟩:=ar (show aq (name ad (l.map Prod.fst)) (λx=>aq (written ad T) λt=>aq (addNode {af 16 (cur ad s2.pos).pos with text:=x,ty:=t}) λn=>ret (x,n)) s2= _ from e3);have m1:=aC.name _ _ _ _ _ f1;obtain⟨t,t2,f2,g⟩:=ar g;have m2:=aC.written hT _ _ _ f2;cases g;obtain⟨ps,ids,h1,h2⟩:=wG hT f _ _ _ _ y;refine⟨⟨(cur ad s2.pos).pos,nm,t⟩::ps,t2.ns.length::ids,?_,by rw[h2];simp⟩;rw[g_,<-k1,<-k2,<-m1,<-m2];dsimp only at h1⊢;rw[h1]
  ·have y:ret l s1=.ok (r,s'):=y;cases y;exact⟨[],[],by rw[g_,k1],by simp⟩
theorem xD(h:qT S):∀f l s r s',stmts ad S f l s=.ok (r,s')->∃es ids,eO es s.ns=(s'.ns,ids)/\r=l++ids
 |0,_,_,_,_,y=>by cases y
 |f+1,l,s,r,s',y=>by
  obtain⟨b,s1,e1,y⟩:=ar y;have k1:=aC.take _ _ _ _ _ e1;cases b
  ·obtain⟨n,s3,e3,y⟩:=ar (show aq S (λn=>stmts ad S f (l++[n])) s1= _ from y);obtain⟨e,he⟩:=h _ _ _ e3;obtain⟨es,ids,h1,h2⟩:=xD h f _ _ _ _ y;refine⟨e::es,n::ids,?_,by rw[h2];simp⟩;rw[eO,<-k1,he];dsimp only;rw[h1]
  ·have y:ret l s1=.ok (r,s'):=y;cases y;exact⟨[],[],by rw[eO,k1],by simp⟩
theorem ph(h:qT S):∀s n s',dW ad S s=.ok (n,s')->∃bp l,eu bp l s.ns=(s'.ns,n):=λs n s' y=>by
 obtain⟨_,s1,e1,y⟩:=ar (show aq (need ad [123]) (λ_=>aq (stmts ad S (ad.length+1) []) λl=>addNode {af 26 (cur ad s.pos).pos with list:=l}) s= _ from y);have k1:=aC.need _ _ _ _ _ e1;obtain⟨l,s2,e2,y⟩:=ar y;obtain⟨es,ids,h1,h2⟩:=xD h _ _ _ _ _ e2;cases y;refine⟨(cur ad s.pos).pos,es,?_⟩;rw[eu,<-k1,h1];dsimp only;rw[h2];rfl
theorem vU(hT:aC T)(h:qT S)(p:Nat):lj (cA ad T S p):=λs n s' y=>by
 obtain⟨_,s1,e1,y⟩:=ar y;have k1:=aC.need _ _ _ _ _ e1;obtain⟨l,s2,e2,y⟩:=ar y;obtain⟨ps,ids,h1,h2⟩:=wG hT _ _ _ _ _ e2;obtain⟨t,s3,e3,y⟩:=ar y;have k3:=aC.written hT _ _ _ e3;obtain⟨a,s4,e4,y⟩:=ar y;obtain⟨bp,body,hb⟩:=ph h _ _ _ e4;cases y;refine⟨.fn p ps t bp body,?_⟩;rw[aT,<-k1,h1];dsimp only;rw[<-k3,hb];dsimp only;rw[h2];rfl
theorem kG(hT:aC T)(h:lj E):∀f a(s0:List Nd) s,(∃e,aT e s0=(s.ns,a))->∀m s',behind ad T E f a s=.ok (m,s')->∃e,aT e s0=(s'.ns,m)
 |0,_,_,_,_,_,_,y=>by cases y
 |f+1,a,s0,s,⟨e,he⟩,m,s',y=>by
  obtain⟨b,s1,e1,y⟩:=ar (show aq (take ad [40]) _ s= _ from y);have k1:=aC.take _ _ _ _ _ e1;cases b;rotate_left
  ·obtain⟨l,s2,e2,y⟩:=ar (show aq (list ad [41] (λ_=>E) (ad.length+1) []) (λl=>aq (addNode {af 7 (cG s a).pos with a:=a,list:=l}) λm=>behind ad T E f m) s1= _ from y);obtain⟨es,ids,h1,h2⟩:=re h _ _ _ _ _ e2;obtain⟨q,s3,e3,y⟩:=ar y;cases e3;refine kG hT h f _ s0 _ ⟨.call (cG s a).pos e es,?_⟩ m s' y;rw[aT,he];dsimp only;rw[<-k1,h1];dsimp only;rw[h2];rfl
  obtain⟨b,s2,e2,y⟩:=ar (show aq (take ad [46]) _ s1= _ from y);have k2:=aC.take _ _ _ _ _ e2;cases b;rotate_left
  ·obtain⟨x,s3,e3,y⟩:=ar (show aq (name ad []) (λx=>aq (addNode {af 8 (cG s a).pos with a:=a,text:=x}) λm=>behind ad T E f m) s2= _ from y);have k3:=aC.name _ _ _ _ _ e3;obtain⟨q,s4,e4,y⟩:=ar y;cases e4;refine kG hT h f _ s0 _ ⟨.get (cG s a).pos e x,?_⟩ m s' y;rw[aT,he];dsimp only;rw[<-k1,<-k2,<-k3]
  obtain⟨b,s3,e3,y⟩:=ar (show aq (take ad [91]) _ s2= _ from y);have k3:=aC.take _ _ _ _ _ e3;cases b;rotate_left
  ·obtain⟨c,s4,e4,y⟩:=ar (show aq E (λc=>aq (need ad [93]) λ_=>aq (addNode {af 9 (cG s a).pos with a:=a,b:=c}) λm=>behind ad T E f m) s3= _ from y);obtain⟨ec,hc⟩:=h _ _ _ e4;obtain⟨_,s5,e5,y⟩:=ar y;have k5:=aC.need _ _ _ _ _ e5;obtain⟨q,s6,e6,y⟩:=ar y;cases e6;refine kG hT h f _ s0 _ ⟨.atX (cG s a).pos e ec,?_⟩ m s' y;rw[aT,he];dsimp only;rw[<-k1,<-k2,<-k3,hc];dsimp only;rw[<-k5]
  obtain⟨b,s4,e4,y⟩:=ar (show aq (take ad [97,115]) _ s3= _ from y);have k4:=aC.take _ _ _ _ _ e4;cases b;rotate_left
  ·obtain⟨t,s5,e5,y⟩:=ar (show aq T (λt=>aq (addNode {af 14 (cG s a).pos with a:=a,ty:=(t:Int)}) λm=>behind ad T E f m) s4= _ from y);have k5:=hT _ _ _ e5;obtain⟨q,s6,e6,y⟩:=ar y;cases e6;refine kG hT h f _ s0 _ ⟨.asX (cG s a).pos e t,?_⟩ m s' y;rw[aT,he];dsimp only;rw[<-k1,<-k2,<-k3,<-k4,<-k5]
  ·have y:ret a s4=.ok (m,s'):=y;cases y;exact⟨e,by rw[he,k4,k3,k2,k1]⟩
theorem zR(hT:aC T)(h:lj E)(hS:qT S):lj (cD ad T E S):=λs n s' y=>by
 have y: (if(cur ad s.pos).kind=3 then aq step λ_=>addNode {af 1 (cur ad s.pos).pos with n:=value (cur ad s.pos).text}else
  if(cur ad s.pos).kind=4 then aq step λ_=>addNode {af 2 (cur ad s.pos).pos with text:=(cur ad s.pos).text}else
  if(cur ad s.pos).kind=1 then aq step λ_=>addNode {af 5 (cur ad s.pos).pos with text:=(cur ad s.pos).text}else _:M Nat) s=.ok (n,s'):=y
 by_cases Oi: (cur ad s.pos).kind=3
 ·rw[if_pos Oi]at y;cases y;exact⟨.num (cur ad s.pos).pos (value (cur ad s.pos).text),by rw[aT]⟩
 rw[if_neg Oi]at y
 by_cases QW: (cur ad s.pos).kind=4
 ·rw[if_pos QW]at y;cases y;exact⟨.text (cur ad s.pos).pos (cur ad s.pos).text,by rw[aT]⟩
 rw[if_neg QW]at y
 by_cases Eh: (cur ad s.pos).kind=1
 ·rw[if_pos Eh]at y;cases y;exact⟨.var (cur ad s.pos).pos (cur ad s.pos).text,by rw[aT]⟩
 rw[if_neg Eh]at y
 obtain⟨b,s1,e1,y⟩:=ar y;have k1:=aC.take _ _ _ _ _ e1;cases b;rotate_left
 ·have y:addNode {af 3 (cur ad s.pos).pos with n:=1} s1=.ok (n,s'):=y;cases y;exact⟨.bool (cur ad s.pos).pos 1,by rw[aT,<-k1]⟩
 obtain⟨b,s2,e2,y⟩:=ar (show aq (take ad [102,97,108,115,101]) _ s1= _ from y);have k2:=aC.take _ _ _ _ _ e2;cases b;rotate_left
 ·have y:addNode (af 3 (cur ad s.pos).pos) s2=.ok (n,s'):=y;cases y;exact⟨.bool (cur ad s.pos).pos 0,by rw[aT,<-k1,<-k2];rfl⟩
 obtain⟨b,s3,e3,y⟩:=ar (show aq (take ad [110,117,108,108]) _ s2= _ from y);have k3:=aC.take _ _ _ _ _ e3;cases b;rotate_left
 ·have y:addNode (af 4 (cur ad s.pos).pos) s3=.ok (n,s'):=y;cases y;exact⟨.null (cur ad s.pos).pos,by rw[aT,<-k1,<-k2,<-k3]⟩
 obtain⟨b,s4,e4,y⟩:=ar (show aq (take ad [102,110]) _ s3= _ from y);have k4:=aC.take _ _ _ _ _ e4;cases b;rotate_left
 ·obtain⟨e,he⟩:=vU hT hS _ _ _ _ (show cA ad T S (cur ad s.pos).pos s4= _ from y);exact⟨e,by rw[<-k1,<-k2,<-k3,<-k4];exact he⟩
 obtain⟨b,s5,e5,y⟩:=ar (show aq (take ad [91]) _ s4= _ from y);have k5:=aC.take _ _ _ _ _ e5;cases b;rotate_left
 ·obtain⟨l,s6,e6,y⟩:=ar (show aq (list ad [93] (λ_=>E) (ad.length+1) []) (λl=>addNode {af 11 (cur ad s.pos).pos with list:=l}) s5= _ from y);obtain⟨es,ids,h1,h2⟩:=re h _ _ _ _ _ e6;cases y;refine⟨.arr (cur ad s.pos).pos es,?_⟩;rw[aT,<-k1,<-k2,<-k3,<-k4,<-k5,h1];dsimp only;rw[h2];rfl
 obtain⟨b,s6,e6,y⟩:=ar (show aq (take ad [123]) _ s5= _ from y);have k6:=aC.take _ _ _ _ _ e6;cases b;rotate_left
 ·obtain⟨l,s7,e7,y⟩:=ar (show aq (list ad [125] (λl=>hZ ad E (l.map Prod.fst)) (ad.length+1) []) (λl=>addNode {af 10 (cur ad s.pos).pos with list:=l.map Prod.snd}) s6= _ from y);obtain⟨os,ids,h1,h2⟩:=wU h _ _ _ _ _ e7;cases y;refine⟨.obj (cur ad s.pos).pos os,?_⟩;rw[aT,<-k1,<-k2,<-k3,<-k4,<-k5,<-k6,h1];dsimp only;rw[h2];rfl
 ·obtain⟨_,s7,e7,y⟩:=ar (show aq (need ad [40]) (λ_=>aq E λa=>aq (need ad [41]) λ_=>ret a) s6= _ from y);have k7:=aC.need _ _ _ _ _ e7;obtain⟨a,s8,e8,y⟩:=ar y;obtain⟨e,he⟩:=h _ _ _ e8;obtain⟨_,s9,e9,y⟩:=ar y;have k9:=aC.need _ _ _ _ _ e9;cases y;exact⟨e,by rw[k9,<-k1,<-k2,<-k3,<-k4,<-k5,<-k6,<-k7];exact he⟩
theorem A0(hT:aC T)(h:lj E)(hO:lj O)(hS:qT S):lj (pw ad T E O S):=λs n s' y=>by
 have y: (if gW.any (λx=>is ad x s.pos)=true then aq step λ_=>aq O λa=>addNode {af 13 (cur ad s.pos).pos with text:=(cur ad s.pos).text,a:=a}else aq (cD ad T E S) λa=>behind ad T E (ad.length+1) a:M Nat) s=.ok (n,s'):=y;by_cases hp:gW.any (λx=>is ad x s.pos)=true
 ·rw[if_pos hp]at y
  obtain⟨a,s2,e2,y⟩:=ar (show aq O (λa=>addNode {af 13 (cur ad s.pos).pos with text:=(cur ad s.pos).text,a:=a}) {s with pos:=s.pos+1}= _ from y);obtain⟨e,he⟩:=hO _ _ _ e2;cases y;exact⟨.one (cur ad s.pos).pos (cur ad s.pos).text e,by rw[aT];dsimp only at he⊢;rw[he]⟩
 ·rw[if_neg hp]at y
  obtain⟨a,s1,e1,y⟩:=ar y;exact kG hT h _ _ _ _ (zR hT h hS _ _ _ e1) _ _ y
def EZ:Ex->Nat
 | .num .. =>1| .text .. =>2| .bool .. =>3| .null .. =>4| .var .. =>5| .fn .. =>6| .call .. =>7| .get .. =>8| .atX .. =>9| .obj .. =>10| .arr .. =>11| .two .. =>12| .one .. =>13| .asX .. =>14
theorem wN(e:Ex)(ns:List Nd):∃Hs nd,aT e ns=(Hs++[nd],Hs.length)/\nd.kind=EZ e:=by
 cases e<;>rw[aT]<;>exact⟨_,_,rfl,rfl⟩
theorem Fp{Hs:List Nd}{nd:Nd}{st:St}{a:Nat}(h: (Hs++[nd],Hs.length)=(st.ns,a)):cG st a=nd:=by
 obtain⟨h1,h2⟩:=Prod.mk.inj h;unfold cG;rw[<-h1,<-h2];simp
theorem Dw(h:lj E):qT (dc ad E):=λs n s' y=>by
 obtain⟨a,s1,e1,y⟩:=ar y;obtain⟨e,he⟩:=h _ _ _ e1;have y: (if is ad [61] s1.pos=true then
  if(cG s1 a).kind=5 then aq (gi a) λ_=>aq step λ_=>aq E λv=>aq (need ad [59]) λ_=>addNode {af 18 (cG s1 a).pos with text:=(cG s1 a).text,a:=v}
  else if(cG s1 a).kind=8 then aq (gi a) λ_=>aq step λ_=>aq E λv=>aq (need ad [59]) λ_=>addNode {af 19 (cG s1 a).pos with text:=(cG s1 a).text,a:=(cG s1 a).a,b:=v}
  else if(cG s1 a).kind=9 then aq (gi a) λ_=>aq step λ_=>aq E λv=>aq (need ad [59]) λ_=>addNode {af 20 (cG s1 a).pos with a:=(cG s1 a).a,b:=(cG s1 a).b,c:=(v:Int)}
  else fail ad 1
 else aq (need ad [59]) λ_=>addNode {af 25 (cG s1 a).pos with a:=a}:M Nat) s1=.ok (n,s'):=y
 obtain⟨Hs,nd,hl,hk⟩:=wN e s.ns;have UN:=Fp (hl.symm.trans he);rw[UN]at y
 by_cases hi:is ad [61] s1.pos=true
 ·rw[if_pos hi]at y
  by_cases h5:nd.kind=5
  ·rw[if_pos h5]at y
   obtain⟨v,s2,e2,y⟩:=ar (show aq E (λv=>aq (need ad [59]) λ_=>addNode {af 18 nd.pos with text:=nd.text,a:=v}) {s1 with ns:=s1.ns.take a,pos:=s1.pos+1}= _ from y);obtain⟨ev,hv⟩:=h _ _ _ e2;obtain⟨_,s3,e3,y⟩:=ar y;have k3:=aC.need _ _ _ _ _ e3;rw[hk]at h5
   cases e<;>simp only[EZ]at h5<;>try omega
   rename_i p x;rw[aT]at he hl
   obtain⟨q1,q2⟩:=Prod.mk.inj he;cases y;refine⟨.set nd.pos nd.text ev,?_⟩;rw[dK];dsimp only at hv;rw[<-q1,<-q2]at hv
   simp only[List.take_left']at hv;rw[hv];dsimp only;rw[k3]
  rw[if_neg h5]at y
  by_cases h8:nd.kind=8
  ·rw[if_pos h8]at y
   obtain⟨v,s2,e2,y⟩:=ar (show aq E (λv=>aq (need ad [59]) λ_=>addNode {af 19 nd.pos with text:=nd.text,a:=nd.a,b:=v}) {s1 with ns:=s1.ns.take a,pos:=s1.pos+1}= _ from y);obtain⟨ev,hv⟩:=h _ _ _ e2;obtain⟨_,s3,e3,y⟩:=ar y;have k3:=aC.need _ _ _ _ _ e3;rw[hk]at h8
   cases e<;>simp only[EZ]at h8<;>try omega
   rename_i p ea x;rw[aT]at he hl
   dsimp only at he hl;obtain⟨q1,q2⟩:=Prod.mk.inj he;obtain⟨r1,r2⟩:=Prod.mk.inj hl;obtain⟨r3,r4⟩:=List.append_inj' r1 rfl;obtain rfl:=List.cons.inj r4|>.1;cases y;refine⟨.put p ea x ev,?_⟩;rw[dK];dsimp only at hv⊢;rw[<-q1,<-q2]at hv
   simp only[List.take_left']at hv;rw[hv];dsimp only;rw[k3];rfl
  rw[if_neg h8]at y
  by_cases h9:nd.kind=9
  ·rw[if_pos h9]at y
   obtain⟨v,s2,e2,y⟩:=ar (show aq E (λv=>aq (need ad [59]) λ_=>addNode {af 20 nd.pos with a:=nd.a,b:=nd.b,c:=(v:Int)}) {s1 with ns:=s1.ns.take a,pos:=s1.pos+1}= _ from y);obtain⟨ev,hv⟩:=h _ _ _ e2;obtain⟨_,s3,e3,y⟩:=ar y;have k3:=aC.need _ _ _ _ _ e3;rw[hk]at h9
   cases e<;>simp only[EZ]at h9<;>try omega
   rename_i p ea eb;rw[aT]at he hl
   dsimp only at he hl;obtain⟨q1,q2⟩:=Prod.mk.inj he;obtain⟨r1,r2⟩:=Prod.mk.inj hl;obtain⟨r3,r4⟩:=List.append_inj' r1 rfl;obtain rfl:=List.cons.inj r4|>.1;cases y;refine⟨.lay p ea eb ev,?_⟩;rw[dK];dsimp only at hv⊢;rw[<-q1,<-q2]at hv
   simp only[List.take_left']at hv;rw[hv];dsimp only;rw[k3];rfl
  rw[if_neg h9]at y
  cases y
 ·rw[if_neg hi]at y
  obtain⟨_,s2,e2,y⟩:=ar y;have k2:=aC.need _ _ _ _ _ e2;cases y;exact⟨.u9 nd.pos e,by rw[dK,he];dsimp only;rw[k2]⟩
theorem IU(p:Nat)(e:Ex)(bp:Nat)(b:List Sm)(ns:List Nd):dK (.if_ p e bp b none) ns=(((eu bp b (aT e ns).1).1++[{af 22 p with a:=(aT e ns).2,b:=(eu bp b (aT e ns).1).2,c:= -1}]),(eu bp b (aT e ns).1).1.length):=by rw[dK]
theorem sh(h:lj E)(hS:qT S)(yes:Bool)(p:Nat):qT (bF ad E S yes p):=λs n s' y=>by
 obtain⟨_,s1,e1,y⟩:=ar y;have k1:=aC.step _ _ _ e1;obtain⟨_,s2,e2,y⟩:=ar y;have k2:=aC.need _ _ _ _ _ e2;obtain⟨a,s3,e3,y⟩:=ar y;obtain⟨e,he⟩:=h _ _ _ e3;obtain⟨_,s4,e4,y⟩:=ar y;have k4:=aC.need _ _ _ _ _ e4;obtain⟨b,s5,e5,y⟩:=ar y;obtain⟨bp,bl,hb⟩:=ph hS _ _ _ e5;rw[k2,k1]at he
 rw[k4]at hb
 cases yes
 ·have y:addNode {af 23 p with a:=a,b:=b} s5=.ok (n,s'):=y;cases y;exact⟨.while_ p e bp bl,by rw[dK,he];dsimp only;rw[hb]⟩
 ·obtain⟨t,s6,e6,y⟩:=ar (show aq (take ad [101,108,115,101]) (λt=>if t then aq (dW ad S) λc=>addNode {af 22 p with a:=a,b:=b,c:=(c:Int)}else addNode {af 22 p with a:=a,b:=b,c:= -1}) s5= _ from y);have k6:=aC.take _ _ _ _ _ e6;cases t
  ·have y:addNode {af 22 p with a:=a,b:=b,c:= -1} s6=.ok (n,s'):=y;cases y;exact⟨.if_ p e bp bl none,by rw[dK,he];dsimp only;rw[hb];dsimp only;rw[k6]⟩
  ·obtain⟨c,s7,e7,y⟩:=ar (show aq (dW ad S) (λc=>addNode {af 22 p with a:=a,b:=b,c:=(c:Int)}) s6= _ from y);obtain⟨cp,cl,hc⟩:=ph hS _ _ _ e7;rw[k6]at hc
   cases y;exact⟨.if_ p e bp bl (some (cp,cl)),by rw[dK,he];dsimp only;rw[hb];dsimp only;rw[hc]⟩
theorem Gz(hT:aC T)(h:lj E)(hS:qT S):qT (dv ad T E S):=λs n s' y=>by
 obtain⟨b,s1,e1,y⟩:=ar (show aq (take ad [108,101,116]) _ s= _ from y);have k1:=aC.take _ _ _ _ _ e1;cases b;rotate_left
 ·obtain⟨x,s2,e2,y⟩:=ar (show aq (name ad []) (λx=>aq (written ad T) λt=>aq (need ad [61]) λ_=>aq E λa=>aq (need ad [59]) λ_=>addNode {af 17 (cur ad s.pos).pos with text:=x,ty:=t,a:=a}) s1= _ from y);have k2:=aC.name _ _ _ _ _ e2;obtain⟨t,s3,e3,y⟩:=ar y;have k3:=aC.written hT _ _ _ e3;obtain⟨_,s4,e4,y⟩:=ar y;have k4:=aC.need _ _ _ _ _ e4;obtain⟨a,s5,e5,y⟩:=ar y;obtain⟨e,he⟩:=h _ _ _ e5;obtain⟨_,s6,e6,y⟩:=ar y;have k6:=aC.need _ _ _ _ _ e6;cases y;rw[k4,k3,k2,k1]at he
  exact⟨.jR (cur ad s.pos).pos x t e,by rw[dK,he];dsimp only;rw[k6]⟩
 obtain⟨b,s2,e2,y⟩:=ar (show aq (take ad [112,114,105,110,116]) _ s1= _ from y);have k2:=aC.take _ _ _ _ _ e2;cases b;rotate_left
 ·obtain⟨a,s3,e3,y⟩:=ar (show aq E (λa=>aq (need ad [59]) λ_=>addNode {af 21 (cur ad s.pos).pos with a:=a}) s2= _ from y);obtain⟨e,he⟩:=h _ _ _ e3;obtain⟨_,s4,e4,y⟩:=ar y;have k4:=aC.need _ _ _ _ _ e4;cases y;rw[k2,k1]at he
  exact⟨.print (cur ad s.pos).pos e,by rw[dK,he];dsimp only;rw[k4]⟩
 obtain⟨b,s3,e3,y⟩:=ar (show aq (take ad [114,101,116,117,114,110]) _ s2= _ from y);have k3:=aC.take _ _ _ _ _ e3;cases b;rotate_left
 ·obtain⟨a,s4,e4,y⟩:=ar (show aq E (λa=>aq (need ad [59]) λ_=>addNode {af 24 (cur ad s.pos).pos with a:=a}) s3= _ from y);obtain⟨e,he⟩:=h _ _ _ e4;obtain⟨_,s5,e5,y⟩:=ar y;have k5:=aC.need _ _ _ _ _ e5;cases y;rw[k3,k2,k1]at he
  exact⟨.ret (cur ad s.pos).pos e,by rw[dK,he];dsimp only;rw[k5]⟩
 have y: (if is ad [105,102] s3.pos=true then bF ad E S true (cur ad s.pos).pos else if is ad [119,104,105,108,101] s3.pos=true then bF ad E S false (cur ad s.pos).pos else dc ad E:M Nat) s3=.ok (n,s'):=y;have go:∀m:M Nat,qT m->m s3=.ok (n,s')->∃e,dK e s.ns=(s'.ns,n):=λm hm hy=>by
  obtain⟨e,he⟩:=hm _ _ _ hy;exact⟨e,by rw[<-he,k3,k2,k1]⟩
 by_cases hi:is ad [105,102] s3.pos=true
 ·rw[if_pos hi]at y;exact go _ (sh h hS _ _) y
 ·rw[if_neg hi]at y
  by_cases hw:is ad [119,104,105,108,101] s3.pos=true
  ·rw[if_pos hw]at y;exact go _ (sh h hS _ _) y
  ·rw[if_neg hw]at y;exact go _ (Dw h) y
theorem Lg(ad:List Tk):∀r,lj (lv ad r).E/\lj (lv ad r).O/\qT (lv ad r).S
 |0=>⟨λ_ _ _ h=>(by cases h),λ_ _ _ h=>(by cases h),λ_ _ _ h=>(by cases h)⟩
 |r+1=>by
  obtain⟨h1,h2,h3⟩:=Lg ad r;have hT:=aC.r' ad r;exact⟨FV (A0 hT h1 h2 h3),A0 hT h1 h2 h3,Gz hT h1 h3⟩
theorem qe(h:qT S):∀f l s r s',fu ad S f l s=.ok (r,s')->∃es ids,eO es s.ns=(s'.ns,ids)/\r=l++ids
 |0,_,_,_,_,y=>by cases y
 |f+1,l,s,r,s',y=>by
  have y: (if(cur ad s.pos).kind=6 then ret l else aq S λn=>fu ad S f (l++[n]):M (List Nat)) s=.ok (r,s'):=y;by_cases hk: (cur ad s.pos).kind=6
  ·rw[if_pos hk]at y
   cases y;exact⟨[],[],by rw[eO],by simp⟩
  ·rw[if_neg hk]at y
   obtain⟨n,s3,e3,y⟩:=ar y;obtain⟨e,he⟩:=h _ _ _ e3;obtain⟨es,ids,h1,h2⟩:=qe h f _ _ _ _ y;refine⟨e::es,n::ids,?_,by rw[h2];simp⟩;rw[eO,he];dsimp only;rw[h1]
theorem CL{s:BA}{pg:Pg}(h:parse s=.ok pg):∃l:List Sm,eu 0 l []=(pg.ns,pg.main):=by
 unfold parse at h;split at h
 ·cases h
 ·rename_i ad _;split at h
  ·cases h
  ·rename_i n st hp;split at h
   ·cases h
   ·cases h;obtain⟨l,s1,e1,y⟩:=ar hp;obtain⟨es,ids,h1,h2⟩:=qe (Lg ad 20).2.2 _ _ _ _ _ e1;cases y;refine⟨es,?_⟩;rw[eu,h1];dsimp only;rw[h2];rfl
end
end Ty
end
namespace Ty
def qn(ns:List Nd):List Par->List Nat->Prop
 |[],l=>l=[]
 |q::ps,l=>∃n t,l=n::t/\ns[n]?=some {af 16 q.pos with text:=q.text,ty:=q.ty}/\qn ns ps t
mutual
def bK(ns:List Nd):Ex->Nat->Prop
 | .num p k,n=>ns[n]?=some {af 1 p with n:=k}
 | .text p x,n=>ns[n]?=some {af 2 p with text:=x}
 | .bool p k,n=>ns[n]?=some {af 3 p with n:=k}
 | .null p,n=>ns[n]?=some (af 4 p)
 | .var p x,n=>ns[n]?=some {af 5 p with text:=x}
 | .fn p ps ty bp body,n=>∃ids b,ns[n]?=some {af 6 p with list:=ids,ty:=ty,a:=b}/\qn ns ps ids/\kO ns bp body b
 | .call p a l,n=>∃na nl,ns[n]?=some {af 7 p with a:=na,list:=nl}/\bK ns a na/\jK ns l nl
 | .get p a x,n=>∃na,ns[n]?=some {af 8 p with a:=na,text:=x}/\bK ns a na
 | .atX p a b,n=>∃na nb,ns[n]?=some {af 9 p with a:=na,b:=nb}/\bK ns a na/\bK ns b nb
 | .obj p l,n=>∃nl,ns[n]?=some {af 10 p with list:=nl}/\l8 ns l nl
 | .arr p l,n=>∃nl,ns[n]?=some {af 11 p with list:=nl}/\jK ns l nl
 | .two p x a b,n=>∃na nb,ns[n]?=some {af 12 p with text:=x,a:=na,b:=nb}/\bK ns a na/\bK ns b nb
 | .one p x a,n=>∃na,ns[n]?=some {af 13 p with text:=x,a:=na}/\bK ns a na
 | .asX p a ty,n=>∃na,ns[n]?=some {af 14 p with a:=na,ty:=ty}/\bK ns a na
def jK(ns:List Nd):List Ex->List Nat->Prop
 |[],l=>l=[]
 |e::es,l=>∃n t,l=n::t/\bK ns e n/\jK ns es t
def l8(ns:List Nd):List (Nat×BA×Ex)->List Nat->Prop
 |[],l=>l=[]
 |(p,x,e)::es,l=>∃n a t,l=n::t/\ns[n]?=some {af 15 p with text:=x,a:=a}/\bK ns e a/\l8 ns es t
def kO(ns:List Nd)(bp:Nat)(l:List Sm)(n:Nat):Prop:=∃ids,ns[n]?=some {af 26 bp with list:=ids}/\lS ns l ids
def lS(ns:List Nd):List Sm->List Nat->Prop
 |[],l=>l=[]
 |e::es,l=>∃n t,l=n::t/\iY ns e n/\lS ns es t
def iY(ns:List Nd):Sm->Nat->Prop
 | .jR p x ty a,n=>∃na,ns[n]?=some {af 17 p with text:=x,ty:=ty,a:=na}/\bK ns a na
 | .set p x v,n=>∃nv,ns[n]?=some {af 18 p with text:=x,a:=nv}/\bK ns v nv
 | .put p a x v,n=>∃na nv,ns[n]?=some {af 19 p with text:=x,a:=na,b:=nv}/\bK ns a na/\bK ns v nv
 | .lay p a b v,n=>∃na nb nv,ns[n]?=some {af 20 p with a:=na,b:=nb,c:=((nv:Nat):Int)}/\bK ns a na/\bK ns b nb/\bK ns v nv
 | .print p a,n=>∃na,ns[n]?=some {af 21 p with a:=na}/\bK ns a na
 | .ret p a,n=>∃na,ns[n]?=some {af 24 p with a:=na}/\bK ns a na
 | .u9 p a,n=>∃na,ns[n]?=some {af 25 p with a:=na}/\bK ns a na
 | .if_ p a bp b none,n=>∃na nb,ns[n]?=some {af 22 p with a:=na,b:=nb,c:= -1}/\bK ns a na/\kO ns bp b nb
 | .if_ p a bp b (some (cp,c)),n=>∃na nb nc,ns[n]?=some {af 22 p with a:=na,b:=nb,c:=((nc:Nat):Int)}/\bK ns a na/\kO ns bp b nb/\kO ns cp c nc
 | .while_ p a bp b,n=>∃na nb,ns[n]?=some {af 23 p with a:=na,b:=nb}/\bK ns a na/\kO ns bp b nb
end
section
variable {ns B0:List Nd}
theorem cz(h:ns<+:B0){n:Nat}{nd:Nd}(e:ns[n]?=some nd):B0[n]?=some nd:=by
 obtain⟨t,rfl⟩:=h;have hn:n<ns.length:=by
  rcases Nat.lt_or_ge n ns.length with hn|hn
  ·exact hn
  ·rw[List.getElem?_eq_none hn]at e;cases e
 rw[List.getElem?_append_left hn];exact e
theorem qn.mono(h:ns<+:B0):∀ps l,qn ns ps l->qn B0 ps l
 |[],_,d=>d
 | _::ps,_,⟨n,t,e,h1,h2⟩=>⟨n,t,e,cz h h1,qn.mono h ps t h2⟩
mutual
theorem bK.mono(h:ns<+:B0):∀e n,bK ns e n->bK B0 e n
 | .num _ _,_,d=>by rw[bK]at d⊢;exact cz h d
 | .text _ _,_,d=>by rw[bK]at d⊢;exact cz h d
 | .bool _ _,_,d=>by rw[bK]at d⊢;exact cz h d
 | .null _,_,d=>by rw[bK]at d⊢;exact cz h d
 | .var _ _,_,d=>by rw[bK]at d⊢;exact cz h d
 | .fn _ ps _ bp body,_,d=>by rw[bK]at d⊢;obtain⟨ids,b,h1,h2,h3⟩:=d;exact⟨ids,b,cz h h1,qn.mono h _ _ h2,kO.mono h bp body b h3⟩
 | .call _ a l,_,d=>by rw[bK]at d⊢;obtain⟨na,nl,h1,h2,h3⟩:=d;exact⟨na,nl,cz h h1,bK.mono h a _ h2,jK.mono h l _ h3⟩
 | .get _ a _,_,d=>by rw[bK]at d⊢;obtain⟨na,h1,h2⟩:=d;exact⟨na,cz h h1,bK.mono h a _ h2⟩
 | .atX _ a b,_,d=>by rw[bK]at d⊢;obtain⟨na,nb,h1,h2,h3⟩:=d;exact⟨na,nb,cz h h1,bK.mono h a _ h2,bK.mono h b _ h3⟩
 | .obj _ l,_,d=>by rw[bK]at d⊢;obtain⟨nl,h1,h2⟩:=d;exact⟨nl,cz h h1,l8.mono h l _ h2⟩
 | .arr _ l,_,d=>by rw[bK]at d⊢;obtain⟨nl,h1,h2⟩:=d;exact⟨nl,cz h h1,jK.mono h l _ h2⟩
 | .two _ _ a b,_,d=>by rw[bK]at d⊢;obtain⟨na,nb,h1,h2,h3⟩:=d;exact⟨na,nb,cz h h1,bK.mono h a _ h2,bK.mono h b _ h3⟩
 | .one _ _ a,_,d=>by rw[bK]at d⊢;obtain⟨na,h1,h2⟩:=d;exact⟨na,cz h h1,bK.mono h a _ h2⟩
 | .asX _ a _,_,d=>by rw[bK]at d⊢;obtain⟨na,h1,h2⟩:=d;exact⟨na,cz h h1,bK.mono h a _ h2⟩
theorem jK.mono(h:ns<+:B0):∀es l,jK ns es l->jK B0 es l
 |[],_,d=>by rw[jK]at d⊢;exact d
 |e::es,_,d=>by rw[jK]at d⊢;obtain⟨n,t,h1,h2,h3⟩:=d;exact⟨n,t,h1,bK.mono h e _ h2,jK.mono h es _ h3⟩
theorem l8.mono(h:ns<+:B0):∀es l,l8 ns es l->l8 B0 es l
 |[],_,d=>by rw[l8]at d⊢;exact d
 |(_,_,e)::es,_,d=>by rw[l8]at d⊢;obtain⟨n,a,t,h1,h2,h3,h4⟩:=d;exact⟨n,a,t,h1,cz h h2,bK.mono h e _ h3,l8.mono h es _ h4⟩
theorem kO.mono(h:ns<+:B0)(bp:Nat)(l:List Sm)(n:Nat)(d:kO ns bp l n):kO B0 bp l n:=by
 rw[kO]at d⊢;obtain⟨ids,h1,h2⟩:=d;exact⟨ids,cz h h1,lS.mono h l _ h2⟩
theorem lS.mono(h:ns<+:B0):∀es l,lS ns es l->lS B0 es l
 |[],_,d=>by rw[lS]at d⊢;exact d
 |e::es,_,d=>by rw[lS]at d⊢;obtain⟨n,t,h1,h2,h3⟩:=d;exact⟨n,t,h1,iY.mono h e _ h2,lS.mono h es _ h3⟩
theorem iY.mono(h:ns<+:B0):∀e n,iY ns e n->iY B0 e n
 | .jR _ _ _ a,_,d=>by rw[iY]at d⊢;obtain⟨na,h1,h2⟩:=d;exact⟨na,cz h h1,bK.mono h a _ h2⟩
 | .set _ _ a,_,d=>by rw[iY]at d⊢;obtain⟨na,h1,h2⟩:=d;exact⟨na,cz h h1,bK.mono h a _ h2⟩
 | .put _ a _ v,_,d=>by rw[iY]at d⊢;obtain⟨na,nb,h1,h2,h3⟩:=d;exact⟨na,nb,cz h h1,bK.mono h a _ h2,bK.mono h v _ h3⟩
 | .lay _ a b v,_,d=>by rw[iY]at d⊢;obtain⟨na,nb,nv,h1,h2,h3,h4⟩:=d;exact⟨na,nb,nv,cz h h1,bK.mono h a _ h2,bK.mono h b _ h3,bK.mono h v _ h4⟩
 | .print _ a,_,d=>by rw[iY]at d⊢;obtain⟨na,h1,h2⟩:=d;exact⟨na,cz h h1,bK.mono h a _ h2⟩
 | .ret _ a,_,d=>by rw[iY]at d⊢;obtain⟨na,h1,h2⟩:=d;exact⟨na,cz h h1,bK.mono h a _ h2⟩
 | .u9 _ a,_,d=>by rw[iY]at d⊢;obtain⟨na,h1,h2⟩:=d;exact⟨na,cz h h1,bK.mono h a _ h2⟩
 | .if_ _ a bp b none,_,d=>by rw[iY]at d⊢;obtain⟨na,nb,h1,h2,h3⟩:=d;exact⟨na,nb,cz h h1,bK.mono h a _ h2,kO.mono h bp b _ h3⟩
 | .if_ _ a bp b (some (cp,c)),_,d=>by rw[iY]at d⊢;obtain⟨na,nb,nc,h1,h2,h3,h4⟩:=d;exact⟨na,nb,nc,cz h h1,bK.mono h a _ h2,kO.mono h bp b _ h3,kO.mono h cp c _ h4⟩
 | .while_ _ a bp b,_,d=>by rw[iY]at d⊢;obtain⟨na,nb,h1,h2,h3⟩:=d;exact⟨na,nb,cz h h1,bK.mono h a _ h2,kO.mono h bp b _ h3⟩
end
end
end Ty
namespace Ty
theorem cg(ns:List Nd)(nd:Nd): (ns++[nd])[ns.length]?=some nd:=by simp
theorem aU(ns:List Nd)(nd:Nd):ns<+:ns++[nd]:=List.prefix_append _ _
theorem rm:∀(ps:List Par)(ns:List Nd),ns<+: (g_ ps ns).1/\qn (g_ ps ns).1 ps (g_ ps ns).2
 |[],ns=>⟨List.prefix_rfl,rfl⟩
 |q::ps,ns=>by
  obtain⟨h1,h2⟩:=rm ps (ns++[{af 16 q.pos with text:=q.text,ty:=q.ty}]);exact⟨(aU _ _).trans h1,_,_,rfl,cz h1 (cg _ _),h2⟩
mutual
theorem ch:∀(e:Ex)(ns:List Nd),ns<+: (aT e ns).1/\bK (aT e ns).1 e (aT e ns).2
 | .num _ _,ns=>by rw[aT,bK];exact⟨aU _ _,cg _ _⟩
 | .text _ _,ns=>by rw[aT,bK];exact⟨aU _ _,cg _ _⟩
 | .bool _ _,ns=>by rw[aT,bK];exact⟨aU _ _,cg _ _⟩
 | .null _,ns=>by rw[aT,bK];exact⟨aU _ _,cg _ _⟩
 | .var _ _,ns=>by rw[aT,bK];exact⟨aU _ _,cg _ _⟩
 | .fn p ps ty bp body,ns=>by
  obtain⟨h1,h2⟩:=rm ps ns;obtain⟨h3,h4⟩:=lM bp body (g_ ps ns).1;rw[aT,bK];exact⟨(h1.trans h3).trans (aU _ _),_,_,cg _ _,qn.mono (h3.trans (aU _ _)) _ _ h2,kO.mono (aU _ _) _ _ _ h4⟩
 | .call p a l,ns=>by
  obtain⟨h1,h2⟩:=ch a ns;obtain⟨h3,h4⟩:=lA l (aT a ns).1;rw[aT,bK];exact⟨(h1.trans h3).trans (aU _ _),_,_,cg _ _,bK.mono (h3.trans (aU _ _)) _ _ h2,jK.mono (aU _ _) _ _ h4⟩
 | .get p a x,ns=>by
  obtain⟨h1,h2⟩:=ch a ns;rw[aT,bK];exact⟨h1.trans (aU _ _),_,cg _ _,bK.mono (aU _ _) _ _ h2⟩
 | .atX p a b,ns=>by
  obtain⟨h1,h2⟩:=ch a ns;obtain⟨h3,h4⟩:=ch b (aT a ns).1;rw[aT,bK];exact⟨(h1.trans h3).trans (aU _ _),_,_,cg _ _,bK.mono (h3.trans (aU _ _)) _ _ h2,bK.mono (aU _ _) _ _ h4⟩
 | .obj p l,ns=>by
  obtain⟨h3,h4⟩:=rI l ns;rw[aT,bK];exact⟨h3.trans (aU _ _),_,cg _ _,l8.mono (aU _ _) _ _ h4⟩
 | .arr p l,ns=>by
  obtain⟨h3,h4⟩:=lA l ns;rw[aT,bK];exact⟨h3.trans (aU _ _),_,cg _ _,jK.mono (aU _ _) _ _ h4⟩
 | .two p x a b,ns=>by
  obtain⟨h1,h2⟩:=ch a ns;obtain⟨h3,h4⟩:=ch b (aT a ns).1;rw[aT,bK];exact⟨(h1.trans h3).trans (aU _ _),_,_,cg _ _,bK.mono (h3.trans (aU _ _)) _ _ h2,bK.mono (aU _ _) _ _ h4⟩
 | .one p x a,ns=>by
  obtain⟨h1,h2⟩:=ch a ns;rw[aT,bK];exact⟨h1.trans (aU _ _),_,cg _ _,bK.mono (aU _ _) _ _ h2⟩
 | .asX p a ty,ns=>by
  obtain⟨h1,h2⟩:=ch a ns;rw[aT,bK];exact⟨h1.trans (aU _ _),_,cg _ _,bK.mono (aU _ _) _ _ h2⟩
theorem lA:∀(l:List Ex)(ns:List Nd),ns<+: (h_ l ns).1/\jK (h_ l ns).1 l (h_ l ns).2
 |[],ns=>by rw[h_,jK];exact⟨List.prefix_rfl,rfl⟩
 |e::l,ns=>by
  obtain⟨h1,h2⟩:=ch e ns;obtain⟨h3,h4⟩:=lA l (aT e ns).1;rw[h_,jK];exact⟨h1.trans h3,_,_,rfl,bK.mono h3 _ _ h2,h4⟩
theorem rI:∀(l:List (Nat×BA×Ex))(ns:List Nd),ns<+: (iO l ns).1/\l8 (iO l ns).1 l (iO l ns).2
 |[],ns=>by rw[iO,l8];exact⟨List.prefix_rfl,rfl⟩
 |(p,x,e)::l,ns=>by
  obtain⟨h1,h2⟩:=ch e ns;obtain⟨h3,h4⟩:=rI l ((aT e ns).1++[{af 15 p with text:=x,a:=(aT e ns).2}]);rw[iO,l8];exact⟨(h1.trans (aU _ _)).trans h3,_,_,_,rfl,cz h3 (cg _ _),bK.mono ((aU _ _).trans h3) _ _ h2,h4⟩
theorem lM(bp:Nat)(l:List Sm)(ns:List Nd):ns<+: (eu bp l ns).1/\kO (eu bp l ns).1 bp l (eu bp l ns).2:=by
 obtain⟨h1,h2⟩:=ic l ns;rw[eu,kO];exact⟨h1.trans (aU _ _),_,cg _ _,lS.mono (aU _ _) _ _ h2⟩
theorem ic:∀(l:List Sm)(ns:List Nd),ns<+: (eO l ns).1/\lS (eO l ns).1 l (eO l ns).2
 |[],ns=>by rw[eO,lS];exact⟨List.prefix_rfl,rfl⟩
 |e::l,ns=>by
  obtain⟨h1,h2⟩:=JC e ns;obtain⟨h3,h4⟩:=ic l (dK e ns).1;rw[eO,lS];exact⟨h1.trans h3,_,_,rfl,iY.mono h3 _ _ h2,h4⟩
theorem JC:∀(e:Sm)(ns:List Nd),ns<+: (dK e ns).1/\iY (dK e ns).1 e (dK e ns).2
 | .jR _ _ _ a,ns=>by obtain⟨h1,h2⟩:=ch a ns;rw[dK,iY];exact⟨h1.trans (aU _ _),_,cg _ _,bK.mono (aU _ _) _ _ h2⟩
 | .set _ _ a,ns=>by obtain⟨h1,h2⟩:=ch a ns;rw[dK,iY];exact⟨h1.trans (aU _ _),_,cg _ _,bK.mono (aU _ _) _ _ h2⟩
 | .put _ a _ v,ns=>by
  obtain⟨h1,h2⟩:=ch a ns;obtain⟨h3,h4⟩:=ch v (aT a ns).1;rw[dK,iY];exact⟨(h1.trans h3).trans (aU _ _),_,_,cg _ _,bK.mono (h3.trans (aU _ _)) _ _ h2,bK.mono (aU _ _) _ _ h4⟩
 | .lay _ a b v,ns=>by
  obtain⟨h1,h2⟩:=ch a ns;obtain⟨h3,h4⟩:=ch b (aT a ns).1;obtain⟨h5,h6⟩:=ch v (aT b (aT a ns).1).1;rw[dK,iY];exact⟨((h1.trans h3).trans h5).trans (aU _ _),_,_,_,cg _ _,bK.mono ((h3.trans h5).trans (aU _ _)) _ _ h2,bK.mono (h5.trans (aU _ _)) _ _ h4,bK.mono (aU _ _) _ _ h6⟩
 | .print _ a,ns=>by obtain⟨h1,h2⟩:=ch a ns;rw[dK,iY];exact⟨h1.trans (aU _ _),_,cg _ _,bK.mono (aU _ _) _ _ h2⟩
 | .ret _ a,ns=>by obtain⟨h1,h2⟩:=ch a ns;rw[dK,iY];exact⟨h1.trans (aU _ _),_,cg _ _,bK.mono (aU _ _) _ _ h2⟩
 | .u9 _ a,ns=>by obtain⟨h1,h2⟩:=ch a ns;rw[dK,iY];exact⟨h1.trans (aU _ _),_,cg _ _,bK.mono (aU _ _) _ _ h2⟩
 | .if_ _ a bp b none,ns=>by
  obtain⟨h1,h2⟩:=ch a ns;obtain⟨h3,h4⟩:=lM bp b (aT a ns).1;rw[dK,iY];exact⟨(h1.trans h3).trans (aU _ _),_,_,cg _ _,bK.mono (h3.trans (aU _ _)) _ _ h2,kO.mono (aU _ _) _ _ _ h4⟩
 | .if_ _ a bp b (some (cp,c)),ns=>by
  obtain⟨h1,h2⟩:=ch a ns;obtain⟨h3,h4⟩:=lM bp b (aT a ns).1;obtain⟨h5,h6⟩:=lM cp c (eu bp b (aT a ns).1).1;rw[dK,iY];exact⟨((h1.trans h3).trans h5).trans (aU _ _),_,_,_,cg _ _,bK.mono ((h3.trans h5).trans (aU _ _)) _ _ h2,kO.mono (h5.trans (aU _ _)) _ _ _ h4,kO.mono (aU _ _) _ _ _ h6⟩
 | .while_ _ a bp b,ns=>by
  obtain⟨h1,h2⟩:=ch a ns;obtain⟨h3,h4⟩:=lM bp b (aT a ns).1;rw[dK,iY];exact⟨(h1.trans h3).trans (aU _ _),_,_,cg _ _,bK.mono (h3.trans (aU _ _)) _ _ h2,kO.mono (aU _ _) _ _ _ h4⟩
end
theorem F_{s:BA}{pg:Pg}(h:parse s=.ok pg):∃l:List Sm,eu 0 l []=(pg.ns,pg.main)/\kO pg.ns 0 l pg.main:=by
 obtain⟨l,hl⟩:=CL h;refine⟨l,hl,?_⟩;have:=(lM 0 l []).2;rw[hl]at this
 exact this
end Ty
section
namespace Ty
open Tok (Tk)
inductive Tr where
 |mk (kind:Nat) (names:List BA) (parts list of:List Tr)
structure WfAt(i:Nat)(t:Ty):Prop where
 fields:∀f∈t.fields,f.2<i
 list:∀j∈t.list,j<i
 of:t.kind=8\/t.kind=9->t.of<i
 kind:1<=t.kind/\t.kind<=10
 L0:t.kind≠7->t.fields=[]
 Ps:t.kind≠9->t.kind≠10->t.list=[]
 aap:t.kind≠8->t.kind≠9->t.of=0
 uI:t.kind=10->2<=t.list.length
 lens:t.fields.length<=1000000/\t.list.length<=1000000
def Wf(ts:List Ty):Prop:=∀i t,ts[i]?=some t->WfAt i t
theorem Wf.nil:Wf []:=λi t h=>by simp at h
theorem Wf.snoc{ts:List Ty}{t:Ty}(h:Wf ts)(ht:WfAt ts.length t):Wf (ts++[t]):=λi u hu=>by
 by_cases hi:i<ts.length
 ·rw[List.getElem?_append_left hi]at hu;exact h i u hu
 ·rw[List.getElem?_append_right (by omega)]at hu
  have h0:i-ts.length=0:=by
   refine Nat.eq_zero_of_not_pos λhp=>?_
   rw[List.getElem?_eq_none (by simp;omega)]at hu;cases hu
  rw[h0]at hu
  simp at hu;subst hu;have:i=ts.length:=by omega
  rw[this];exact ht
def oH{α:Type}(m:M α)(P:α->List Ty->Prop):Prop:=∀s a s',Wf s.ts->m s=.ok (a,s')->Wf s'.ts/\s.ts.length<=s'.ts.length/\P a s'.ts
theorem oH.aq{α β:Type}{m:M α}{k:α->M β}{P:α->List Ty->Prop}{Q:β->List Ty->Prop}(h:oH m P)(g:∀a(s:St) b s',Wf s.ts->P a s.ts->k a s=.ok (b,s')->Wf s'.ts/\s.ts.length<=s'.ts.length/\Q b s'.ts):oH (Ty.aq m k) Q:=λs b s' hw e=>by
 obtain⟨a,s1,e1,e2⟩:=ar e;obtain⟨h1,h2,h3⟩:=h _ _ _ hw e1;obtain⟨g1,g2,g3⟩:=g a s1 b s' h1 h3 e2;exact⟨g1,by omega,g3⟩
theorem ep(ad:List Tk)(x:List UInt8){s s':St}{b:Bool}(h:take ad x s=.ok (b,s')):s'.ts=s.ts:=by
 unfold take at h;split at h<;>cases h<;>rfl
theorem fg(ad:List Tk)(x:List UInt8){s s':St}{u:Unit}(h:need ad x s=.ok (u,s')):s'.ts=s.ts:=by
 unfold need at h;split at h<;>cases h;rfl
theorem rF(ad:List Tk)(met:List BA){s s':St}{x:BA}(h:name ad met s=.ok (x,s')):s'.ts=s.ts:=by
 unfold name at h;split at h
 ·cases h
 ·split at h<;>cases h;rfl
def wj(n:Nat)(ts:List Ty):Prop:=n<ts.length
theorem iC{t:Ty}{s s':St}{n:Nat}(hw:Wf s.ts)(ht:WfAt s.ts.length t)(h:aY t s=.ok (n,s')):Wf s'.ts/\s.ts.length<=s'.ts.length/\wj n s'.ts:=by
 cases h;exact⟨hw.snoc ht,by simp,by simp[wj]⟩
def Er(l:List Nat)(ts:List Ty):Prop:=∀j∈l,j<ts.length
theorem rB{ad:List Tk}{x:List UInt8}{α:Type}{m:List α->M α}:∀f l s l' s',list ad x m f l s=.ok (l',s')->l'.length<=l.length+f
 |0,l,s,l',s',h=>by cases h
 |f+1,l,s,l',s',h=>by
  obtain⟨b,s1,e1,e2⟩:=ar h;cases b
  ·simp only[Bool.false_eq_true,if_false]at e2;obtain⟨u,s2,e3,e4⟩:=ar e2;obtain⟨n,s3,e5,e6⟩:=ar e4;have:=rB f _ _ _ _ e6;simp at this;omega
  ·simp only[if_true]at e2;cases e2;omega
theorem nK{ad:List Tk}{T:M Nat}:∀f l s l' s',fields ad T f l s=.ok (l',s')->l'.length<=l.length+f
 |0,l,s,l',s',h=>by cases h
 |f+1,l,s,l',s',h=>by
  obtain⟨b,s1,e1,e2⟩:=ar h;cases b
  ·simp only[Bool.false_eq_true,if_false]at e2;obtain⟨x,s2,e3,e4⟩:=ar e2;obtain⟨u,s3,e5,e6⟩:=ar e4;obtain⟨n,s4,e7,e8⟩:=ar e6;obtain⟨u,s5,e9,tk⟩:=ar e8;have:=nK f _ _ _ _ tk;simp at this;omega
  ·simp only[if_true]at e2;cases e2;omega
theorem rK{ad:List Tk}{S:M Nat}:∀f l s l' s',bars ad S f l s=.ok (l',s')->l'.length<=l.length+f
 |0,l,s,l',s',h=>by cases h
 |f+1,l,s,l',s',h=>by
  obtain⟨b,s1,e1,e2⟩:=ar h;cases b
  ·simp only[Bool.false_eq_true,if_false]at e2;cases e2;omega
  ·simp only[if_true]at e2;obtain⟨n,s2,e3,e4⟩:=ar e2;have:=rK f _ _ _ _ e4;simp at this;omega
theorem rS{ad:List Tk}{x:List UInt8}{T:M Nat}(hT:oH T wj):∀f l s l' s',Wf s.ts->Er l s.ts->list ad x (λ_=>T) f l s=.ok (l',s')->Wf s'.ts/\s.ts.length<=s'.ts.length/\Er l' s'.ts
 |0,l,s,l',s',_,_,h=>by cases h
 |f+1,l,s,l',s',hw,hl,h=>by
  obtain⟨b,s1,e1,e2⟩:=ar h;have t1:=ep _ _ e1;cases b
  ·simp only[Bool.false_eq_true,if_false]at e2;obtain⟨u,s2,e3,e4⟩:=ar e2;have t2:s2.ts=s1.ts:=by
    split at e3
    ·cases e3;rfl
    ·exact fg _ _ e3
   obtain⟨n,s3,e5,e6⟩:=ar e4;rw[t1]at t2
   obtain⟨h1,h2,h3⟩:=hT _ _ _ (by rw[t2];exact hw) e5;rw[t2]at h2
   obtain⟨g1,g2,g3⟩:=rS hT f (l++[n]) s3 l' s' h1 (λj hj=>by
    rw[List.mem_append]at hj
    rcases hj with hj|hj
    ·have:=hl j hj;omega
    ·simp at hj;subst hj;unfold wj at h3;omega) e6
   exact⟨g1,by omega,g3⟩
  ·simp only[if_true]at e2;cases e2;rw[t1];exact⟨hw,by omega,hl⟩
theorem m_{ad:List Tk}{T:M Nat}(hT:oH T wj):∀f l s l' s',Wf s.ts->Er (l.map Prod.snd) s.ts->fields ad T f l s=.ok (l',s')->Wf s'.ts/\s.ts.length<=s'.ts.length/\Er (l'.map Prod.snd) s'.ts
 |0,l,s,l',s',_,_,h=>by cases h
 |f+1,l,s,l',s',hw,hl,h=>by
  obtain⟨b,s1,e1,e2⟩:=ar h;have t1:=ep _ _ e1;cases b
  ·simp only[Bool.false_eq_true,if_false]at e2;obtain⟨x,s2,e3,e4⟩:=ar e2;have t2:=rF _ _ e3;obtain⟨u,s3,e5,e6⟩:=ar e4;have t3:=fg _ _ e5;obtain⟨n,s4,e7,e8⟩:=ar e6;obtain⟨u,s5,e9,tk⟩:=ar e8;have t5:=fg _ _ e9;have t:s3.ts=s.ts:=by rw[t3,t2,t1]
   obtain⟨h1,h2,h3⟩:=hT _ _ _ (by rw[t];exact hw) e7;rw[t]at h2
   obtain⟨g1,g2,g3⟩:=m_ hT f (l++[(x,n)]) s5 l' s' (by rw[t5];exact h1) (λj hj=>by
    rw[List.map_append,List.mem_append]at hj
    rw[t5];rcases hj with hj|hj
    ·have:=hl j hj;omega
    ·simp at hj;subst hj;unfold wj at h3;omega) tk
   rw[t5]at g2
   exact⟨g1,by omega,g3⟩
  ·simp only[if_true]at e2;cases e2;rw[t1];exact⟨hw,by omega,hl⟩
theorem rV{ad:List Tk}(hL:ad.length<=1001){T:M Nat}(hT:oH T wj):oH (single ad T) wj:=λs n s' hw h=>by
 unfold single at h;split at h
 ·rename_i hk;obtain⟨u,s1,e1,e2⟩:=ar h;cases e1;have hp:cB (cur ad s.pos).text<=6:=by
   unfold cB;split
   ·rename_i i hi;have:=List.idxOf?_eq_some_iff.1 hi;obtain⟨h1,_⟩:=this;simp[xN]at h1;omega
   ·omega
  exact iC (s:={s with pos:=s.pos+1}) hw ⟨λf hf=>by simp at hf,λj hj=>by simp at hj,λh=>by dsimp only at h;omega,⟨by have:=hk.2;show 1<=cB _;omega,by dsimp only;omega⟩,λ_=>rfl,λ_ _=>rfl,λ_ _=>rfl,λh=>(by dsimp only at h;omega),⟨by simp,by simp⟩⟩ e2
 ·obtain⟨b,s1,e1,e2⟩:=ar h;have t1:=ep _ _ e1;rw[<-t1]at hw
  suffices H:Wf s'.ts/\s1.ts.length<=s'.ts.length/\wj n s'.ts by rw[t1]at H;exact H
  cases b
  ·simp only[Bool.false_eq_true,if_false]at e2;obtain⟨b,s2,e3,e4⟩:=ar e2;have t2:=ep _ _ e3;rw[<-t2]at hw
   rw[<-t2];cases b
   ·simp only[Bool.false_eq_true,if_false]at e4;obtain⟨u,s3,e5,e6⟩:=ar e4;have t3:=fg _ _ e5;rw[<-t3]at hw
    rw[<-t3];obtain⟨l,s4,e7,e8⟩:=ar e6;obtain⟨h1,h2,h3⟩:=rS hT _ _ _ _ _ hw (λj hj=>by simp at hj) e7;obtain⟨b,s5,e9,tk⟩:=ar e8;have t5:=ep _ _ e9;rw[<-t5]at h1 h2 h3
    cases b
    ·simp only[Bool.false_eq_true,if_false]at tk;split at tk
     ·rename_i hl;cases tk;refine⟨h1,h2,?_⟩;obtain⟨n,rfl⟩:=List.length_eq_one_iff.1 hl;exact h3 n (by simp)
     ·cases tk
    ·simp only[if_true]at tk;obtain⟨m,s6,LN,NZ⟩:=ar tk;obtain⟨g1,g2,g3⟩:=hT _ _ _ h1 LN;obtain⟨k1,k2,k3⟩:=iC g1 ⟨λf hf=>by simp at hf,λj hj=>by have:=h3 j hj;omega,λ_=>by unfold wj at g3;show m< _;omega,⟨by simp,by simp⟩,λ_=>rfl,λh=>absurd rfl h,λ_ h=>absurd rfl h,λh=>(by cases h),⟨by simp,by have:=rB _ _ _ _ _ e7;simp at this;dsimp only;omega⟩⟩ NZ;exact⟨k1,by omega,k3⟩
   ·simp only[if_true]at e4;obtain⟨m,s3,e5,e6⟩:=ar e4;obtain⟨g1,g2,g3⟩:=hT _ _ _ hw e5;obtain⟨u,s4,e7,e8⟩:=ar e6;have t4:=fg _ _ e7;obtain⟨k1,k2,k3⟩:=iC (by rw[t4];exact g1) ⟨λf hf=>by simp at hf,λj hj=>by simp at hj,λ_=>by unfold wj at g3;rw[t4];show m< _;omega,⟨by simp,by simp⟩,λ_=>rfl,λ_ _=>rfl,λh=>absurd rfl h,λh=>(by cases h),⟨by simp,by simp⟩⟩ e8;rw[t4]at k2
    exact⟨k1,by omega,k3⟩
  ·simp only[if_true]at e2;unfold object at e2;obtain⟨l,s2,e3,e4⟩:=ar e2;obtain⟨h1,h2,h3⟩:=m_ hT _ _ _ _ _ hw (λj hj=>by simp at hj) e3;obtain⟨k1,k2,k3⟩:=iC h1 ⟨λf hf=>h3 _ (List.mem_map_of_mem hf),λj hj=>by simp at hj,λh=>by dsimp only at h;omega,⟨by simp,by simp⟩,λh=>absurd rfl h,λ_ _=>rfl,λ_ _=>rfl,λh=>(by cases h),⟨by have:=nK _ _ _ _ _ e3;simp at this;dsimp only;omega,by simp⟩⟩ e4;exact⟨k1,by omega,k3⟩
theorem rq{ad:List Tk}{S:M Nat}(hS:oH S wj):∀f l s l' s',Wf s.ts->Er l s.ts->bars ad S f l s=.ok (l',s')->Wf s'.ts/\s.ts.length<=s'.ts.length/\Er l' s'.ts/\l.length<=l'.length
 |0,l,s,l',s',_,_,h=>by cases h
 |f+1,l,s,l',s',hw,hl,h=>by
  obtain⟨b,s1,e1,e2⟩:=ar h;have t1:=ep _ _ e1;cases b
  ·simp only[Bool.false_eq_true,if_false]at e2;cases e2;rw[t1];exact⟨hw,by omega,hl,by omega⟩
  ·simp only[if_true]at e2;obtain⟨n,s2,e3,e4⟩:=ar e2;obtain⟨h1,h2,h3⟩:=hS _ _ _ (by rw[t1];exact hw) e3;rw[t1]at h2
   obtain⟨g1,g2,g3,g4⟩:=rq hS f (l++[n]) s2 l' s' h1 (λj hj=>by
    rw[List.mem_append]at hj
    rcases hj with hj|hj
    ·have:=hl j hj;omega
    ·simp at hj;subst hj;unfold wj at h3;omega) e4
   exact⟨g1,by omega,g3,by simp at g4;omega⟩
theorem DR{ad:List Tk}(hL:ad.length<=1001){S:M Nat}(hS:oH S wj):oH (union ad S) wj:=λs n s' hw h=>by
 obtain⟨m,s1,e1,e2⟩:=ar h;obtain⟨h1,h2,h3⟩:=hS _ _ _ hw e1;obtain⟨l,s2,e3,e4⟩:=ar e2;obtain⟨g1,g2,g3,g4⟩:=rq hS _ _ _ _ _ h1 (λj hj=>by simp at hj;subst hj;exact h3) e3;simp at g4;split at e4
 ·rename_i hl;cases e4;obtain⟨n,rfl⟩:=List.length_eq_one_iff.1 hl;exact⟨g1,by omega,g3 n (by simp)⟩
 ·obtain⟨k1,k2,k3⟩:=iC g1 ⟨λf hf=>by simp at hf,λj hj=>g3 j hj,λh=>by dsimp only at h;omega,⟨by simp,by simp⟩,λ_=>rfl,λ_ h=>absurd rfl h,λ_ _=>rfl,λ_=>(by dsimp only;omega),⟨by simp,by have:=rK _ _ _ _ _ e3;simp at this;dsimp only;omega⟩⟩ e4;exact⟨k1,by omega,k3⟩
theorem qm(ad:List Tk)(hL:ad.length<=1001):∀r,oH (r' ad r) wj
 |0=>λs a s' _ h=>by cases h
 |r+1=>DR hL (rV hL (qm ad hL r))
def den(ts:List Ty)(n:Nat):Tr:=
 match ts[n]? with
 |none=>.mk 0 [] [] [] []
 |some t=>.mk t.kind (t.fields.map Prod.fst) (t.fields.map λf=>if _h:f.2<n then den ts f.2 else .mk 0 [] [] [] []) (t.list.map λj=>if _h:j<n then den ts j else .mk 0 [] [] [] [])
   (if t.kind=8\/t.kind=9 then [if _h:t.of<n then den ts t.of else .mk 0 [] [] [] []]else [])
termination_by n
theorem yI{ts:List Ty}(hw:Wf ts){n:Nat}{t:Ty}(h:ts[n]?=some t):
  den ts n=.mk t.kind (t.fields.map Prod.fst) (t.fields.map λf=>den ts f.2) (t.list.map (den ts)) (if t.kind=8\/t.kind=9 then [den ts t.of]else []):=by
 have hi:=hw n t h;rw[den,h];dsimp only;congr 1
 ·exact List.map_congr_left λf hf=>by rw[dif_pos (hi.fields f hf)]
 ·exact List.map_congr_left λj hj=>by rw[dif_pos (hi.list j hj)]
 ·split
  ·rename_i hk;rw[dif_pos (hi.of hk)]
  ·rfl
def Kb(k:Nat):Nat:=if k=7 then 16 else if k=8 then 32 else if k=9 then 64 else if k=5\/k=6 then 127 else 2^(k-1)
mutual
def tags:Tr->Nat
 | .mk k _ _ l _=>if k=10 then kj l else Kb k
def kj:List Tr->Nat
 |[]=>0
 |t::l=>tags t|||kj l
end
theorem C1(l:List Tr)(t:Tr):kj (l++[t])=kj l|||tags t:=by
 induction l with
 |nil=>simp[kj]
 |cons a l ih=>simp[kj,ih,Nat.or_assoc]
end Ty
end
end Go.Proofs.YtdlbhiaceheffabGreatDoor
