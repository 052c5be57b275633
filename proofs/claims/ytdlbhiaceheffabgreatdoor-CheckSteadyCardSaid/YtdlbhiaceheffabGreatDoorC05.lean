/- Plain: types as trees; what a list of types says. -/
import Derived.Test.YtdlbhiaceheffabGreatDoorC01
set_option linter.all false
namespace Go.Proofs.YtdlbhiaceheffabGreatDoor
open Go Go.RowKit Ty Tok
section
namespace Ty
open Tok (Tk)
inductive Tr where
 |mk (kind:Nat) (names:List BA) (parts list of:List Tr)
structure WfAt(i:Nat)(t:Ty):Prop where
 fields:∀f∈t.fields,f.2<i
 list:∀j∈t.list,j<i
 of:t.kind=8\/t.kind=9->t.of<i
 kind:1<=t.kind/\t.kind<=10
 QN:t.kind≠7->t.fields=[]
 Tn:t.kind≠9->t.kind≠10->t.list=[]
 aea:t.kind≠8->t.kind≠9->t.of=0
 xN:t.kind=10->2<=t.list.length
 lens:t.fields.length<=1000000/\t.list.length<=1000000
def Wf(ts:List Ty):Prop:=∀i t,ts[i]?=some t->WfAt i t
theorem Wf.nil:Wf []:=λi t h=>by grind
theorem Wf.snoc{ts:List Ty}{t:Ty}(h:Wf ts)(ht:WfAt ts.length t):Wf (ts++[t]):=λi u hu=>by
 by_cases hi:i<ts.length
 ·rw[List.getElem?_append_left hi]at hu;exact h i u hu
 grind
def tU{α:Type}(m:M α)(P:α->List Ty->Prop):Prop:=∀s a s',Wf s.ts->m s=.ok (a,s')->Wf s'.ts/\s.ts.length<=s'.ts.length/\P a s'.ts
theorem eQ(ad:List Tk)(x:List UInt8){s s':St}{b:Bool}(h:take ad x s=.ok (b,s')):s'.ts=s.ts:=by
 grind [take]
theorem fS(ad:List Tk)(x:List UInt8){s s':St}{u:Unit}(h:need ad x s=.ok (u,s')):s'.ts=s.ts:=by
 grind [need]
theorem zb(ad:List Tk)(met:List BA){s s':St}{x:BA}(h:name ad met s=.ok (x,s')):s'.ts=s.ts:=by
 grind [name]
def xL(n:Nat)(ts:List Ty):Prop:=n<ts.length
theorem iV{t:Ty}{s s':St}{n:Nat}(hw:Wf s.ts)(ht:WfAt s.ts.length t)(h:aP t s=.ok (n,s')):Wf s'.ts/\s.ts.length<=s'.ts.length/\xL n s'.ts:=by
 cases h;exact⟨hw.snoc ht,by simp,by simp[xL]⟩
def ym(l:List Nat)(ts:List Ty):Prop:=∀j∈l,j<ts.length
theorem tR{ad:List Tk}{x:List UInt8}{α:Type}{m:List α->M α}:∀f l s l' s',list ad x m f l s=.ok (l',s')->l'.length<=l.length+f
 |0,l,s,l',s',h=>by cases h
 |f+1,l,s,l',s',h=>by
  obtain⟨b,s1,e1,e2⟩:=ah h;cases b
  ·simp at e2;obtain⟨u,s2,e3,e4⟩:=ah e2;obtain⟨n,s3,e5,e6⟩:=ah e4;have:=tR f _ _ _ _ e6
   grind
  ·simp at e2;cases e2;omega
theorem oM{ad:List Tk}{T:M Nat}:∀f l s l' s',fields ad T f l s=.ok (l',s')->l'.length<=l.length+f
 |0,l,s,l',s',h=>by cases h
 |f+1,l,s,l',s',h=>by
  obtain⟨b,s1,e1,e2⟩:=ah h;cases b
  ·simp at e2;obtain⟨x,s2,e3,e4⟩:=ah e2;obtain⟨u,s3,e5,e6⟩:=ah e4;obtain⟨n,s4,e7,e8⟩:=ah e6;obtain⟨u,s5,e9,wk⟩:=ah e8;have:=oM f _ _ _ _ wk
   grind
  ·simp at e2;cases e2;omega
theorem tS{ad:List Tk}{S:M Nat}:∀f l s l' s',bars ad S f l s=.ok (l',s')->l'.length<=l.length+f
 |0,l,s,l',s',h=>by cases h
 |f+1,l,s,l',s',h=>by
  obtain⟨b,s1,e1,e2⟩:=ah h;cases b
  ·simp at e2;cases e2;omega
  ·simp at e2;obtain⟨n,s2,e3,e4⟩:=ah e2;have:=tS f _ _ _ _ e4
   grind
theorem pH{ad:List Tk}{x:List UInt8}{T:M Nat}(hT:tU T xL):∀f l s l' s',Wf s.ts->ym l s.ts->list ad x (λ_=>T) f l s=.ok (l',s')->Wf s'.ts/\s.ts.length<=s'.ts.length/\ym l' s'.ts
 |0,l,s,l',s',_,_,h=>by cases h
 |f+1,l,s,l',s',hw,hl,h=>by
  obtain⟨b,s1,e1,e2⟩:=ah h;have t1:=eQ _ _ e1;cases b
  ·simp at e2;obtain⟨u,s2,e3,e4⟩:=ah e2;have t2:s2.ts=s1.ts:=by
    split at e3
    ·cases e3;rfl
    grind [fS]
   obtain⟨n,s3,e5,e6⟩:=ah e4;rw[t1]at t2
   obtain⟨h1,h2,h3⟩:=hT _ _ _ (by grind) e5;rw[t2]at h2
   obtain⟨g1,g2,g3⟩:=pH hT f (l++[n]) s3 l' s' h1 (λj hj=>by
    rw[List.mem_append]at hj
    rcases hj with hj|hj
    ·have:=hl j hj;omega
    ·simp at hj;subst hj;unfold xL at h3;omega) e6
   grind
  ·simp at e2;cases e2
   grind
theorem lV{ad:List Tk}{T:M Nat}(hT:tU T xL):∀f l s l' s',Wf s.ts->ym (l.map Prod.snd) s.ts->fields ad T f l s=.ok (l',s')->Wf s'.ts/\s.ts.length<=s'.ts.length/\ym (l'.map Prod.snd) s'.ts
 |0,l,s,l',s',_,_,h=>by cases h
 |f+1,l,s,l',s',hw,hl,h=>by
  obtain⟨b,s1,e1,e2⟩:=ah h;have t1:=eQ _ _ e1;cases b
  ·simp at e2;obtain⟨x,s2,e3,e4⟩:=ah e2;have t2:=zb _ _ e3;obtain⟨u,s3,e5,e6⟩:=ah e4;have t3:=fS _ _ e5;obtain⟨n,s4,e7,e8⟩:=ah e6;obtain⟨u,s5,e9,wk⟩:=ah e8;have t5:=fS _ _ e9;have t:s3.ts=s.ts:=by grind
   obtain⟨h1,h2,h3⟩:=hT _ _ _ (by grind) e7;rw[t]at h2
   obtain⟨g1,g2,g3⟩:=lV hT f (l++[(x,n)]) s5 l' s' (by grind) (λj hj=>by
    rw[List.map_append,List.mem_append]at hj
    rw[t5];rcases hj with hj|hj
    ·have:=hl j hj;omega
    ·simp at hj;subst hj;unfold xL at h3;omega) wk
   grind
  ·simp at e2;cases e2
   grind
theorem gj{ad:List Tk}(hL:ad.length<=1001){T:M Nat}(hT:tU T xL):tU (single ad T) xL:=λs n s' hw h=>by
 unfold single at h;split at h
 ·rename_i hk;obtain⟨u,s1,e1,e2⟩:=ah h;cases e1;have hp:bI (cur ad s.pos).text<=6:=by
   unfold bI;split
   ·grind [List.idxOf?_eq_some_iff,v8]
   ·omega
  exact iV (s:={s with pos:=s.pos+1}) hw ⟨λf hf=>by grind,λj hj=>by grind,λh=>by grind,⟨by grind,by grind⟩,λ_=>rfl,λ_ _=>rfl,λ_ _=>rfl,λh=>(by grind),⟨by simp,by simp⟩⟩ e2
 ·obtain⟨b,s1,e1,e2⟩:=ah h;have t1:=eQ _ _ e1;rw[<-t1]at hw
  suffices H:Wf s'.ts/\s1.ts.length<=s'.ts.length/\xL n s'.ts by grind
  cases b
  ·simp only[Bool.false_eq_true,if_false]at e2;obtain⟨b,s2,e3,e4⟩:=ah e2;have t2:=eQ _ _ e3;rw[<-t2]at hw
   rw[<-t2];cases b
   ·simp only[Bool.false_eq_true,if_false]at e4;obtain⟨u,s3,e5,e6⟩:=ah e4;have t3:=fS _ _ e5;rw[<-t3]at hw
    rw[<-t3];obtain⟨l,s4,e7,e8⟩:=ah e6;obtain⟨h1,h2,h3⟩:=pH hT _ _ _ _ _ hw (λj hj=>by grind) e7;obtain⟨b,s5,e9,wk⟩:=ah e8;have t5:=eQ _ _ e9;rw[<-t5]at h1 h2 h3
    cases b
    ·simp only[Bool.false_eq_true,if_false]at wk;split at wk
     ·rename_i hl;cases wk;refine⟨h1,h2,?_⟩;obtain⟨n,rfl⟩:=List.length_eq_one_iff.1 hl;exact h3 n (by simp)
     ·cases wk
    ·simp only[if_true]at wk;obtain⟨m,s6,UJ,Xx⟩:=ah wk;obtain⟨g1,g2,g3⟩:=hT _ _ _ h1 UJ;obtain⟨k1,k2,k3⟩:=iV g1 ⟨λf hf=>by grind,λj hj=>by have:=h3 j hj;omega,λ_=>by grind [xL],⟨by simp,by simp⟩,λ_=>rfl,λh=>absurd rfl h,λ_ h=>absurd rfl h,λh=>(by cases h),⟨by simp,by have:=tR _ _ _ _ _ e7;simp at this;dsimp only;omega⟩⟩ Xx
     grind
   ·simp only[if_true]at e4;obtain⟨m,s3,e5,e6⟩:=ah e4;obtain⟨g1,g2,g3⟩:=hT _ _ _ hw e5;obtain⟨u,s4,e7,e8⟩:=ah e6;have t4:=fS _ _ e7;obtain⟨k1,k2,k3⟩:=iV (by grind) ⟨λf hf=>by grind,λj hj=>by grind,λ_=>by grind [xL],⟨by simp,by simp⟩,λ_=>rfl,λ_ _=>rfl,λh=>absurd rfl h,λh=>(by cases h),⟨by simp,by simp⟩⟩ e8
    grind
  ·simp only[if_true]at e2;unfold object at e2;obtain⟨l,s2,e3,e4⟩:=ah e2;obtain⟨h1,h2,h3⟩:=lV hT _ _ _ _ _ hw (λj hj=>by grind) e3;obtain⟨k1,k2,k3⟩:=iV h1 ⟨λf hf=>h3 _ (List.mem_map_of_mem hf),λj hj=>by grind,λh=>by grind,⟨by simp,by simp⟩,λh=>absurd rfl h,λ_ _=>rfl,λ_ _=>rfl,λh=>(by cases h),⟨by have:=oM _ _ _ _ _ e3;simp at this;dsimp only;omega,by simp⟩⟩ e4
   grind
theorem tA{ad:List Tk}{S:M Nat}(hS:tU S xL):∀f l s l' s',Wf s.ts->ym l s.ts->bars ad S f l s=.ok (l',s')->Wf s'.ts/\s.ts.length<=s'.ts.length/\ym l' s'.ts/\l.length<=l'.length
 |0,l,s,l',s',_,_,h=>by cases h
 |f+1,l,s,l',s',hw,hl,h=>by
  obtain⟨b,s1,e1,e2⟩:=ah h;have t1:=eQ _ _ e1;cases b
  ·simp at e2;cases e2
   grind
  ·simp at e2;obtain⟨n,s2,e3,e4⟩:=ah e2;obtain⟨h1,h2,h3⟩:=hS _ _ _ (by grind) e3;rw[t1]at h2
   obtain⟨g1,g2,g3,g4⟩:=tA hS f (l++[n]) s2 l' s' h1 (λj hj=>by
    rw[List.mem_append]at hj
    rcases hj with hj|hj
    ·have:=hl j hj;omega
    ·simp at hj;subst hj;unfold xL at h3;omega) e4
   grind
theorem El{ad:List Tk}(hL:ad.length<=1001){S:M Nat}(hS:tU S xL):tU (union ad S) xL:=λs n s' hw h=>by
 obtain⟨m,s1,e1,e2⟩:=ah h;obtain⟨h1,h2,h3⟩:=hS _ _ _ hw e1;obtain⟨l,s2,e3,e4⟩:=ah e2;obtain⟨g1,g2,g3,g4⟩:=tA hS _ _ _ _ _ h1 (λj hj=>by simp at hj;subst hj;exact h3) e3;split at e4
 ·rename_i hl;cases e4;obtain⟨n,rfl⟩:=List.length_eq_one_iff.1 hl;exact⟨g1,by omega,g3 n (by simp)⟩
 ·obtain⟨k1,k2,k3⟩:=iV g1 ⟨λf hf=>by grind,λj hj=>g3 j hj,λh=>by grind,⟨by simp,by simp⟩,λ_=>rfl,λ_ h=>absurd rfl h,λ_ _=>rfl,λ_=>(by grind),⟨by simp,by have:=tS _ _ _ _ _ e3;simp at this;dsimp only;omega⟩⟩ e4
  grind
theorem cG(ad:List Tk)(hL:ad.length<=1001):∀r,tU (eJ ad r) xL
 |0=>λs a s' _ h=>by cases h
 |r+1=>El hL (gj hL (cG ad hL r))
theorem yv{s:BA}{ts:List Ty}(h:typeOf s=.ok ts):Wf ts/\0<ts.length/\ts.length<=300:=by
 unfold typeOf at h;split at h
 ·cases h
 ·rename_i ad CS;split at h
  ·cases h
  ·rename_i n st e;split at h
   ·cases h
   ·split at h
    ·cases h
    ·cases h;obtain⟨h1,_,h3⟩:=cG ad (qe _ _ CS).2.1 20 _ _ _ Wf.nil e
     grind [xL]
def den(ts:List Ty)(n:Nat):Tr:=
 match ts[n]? with
 |none=>.mk 0 [] [] [] []
 |some t=>.mk t.kind (t.fields.map Prod.fst) (t.fields.map λf=>if _h:f.2<n then den ts f.2 else .mk 0 [] [] [] []) (t.list.map λj=>if _h:j<n then den ts j else .mk 0 [] [] [] [])
   (if t.kind=8\/t.kind=9 then [if _h:t.of<n then den ts t.of else .mk 0 [] [] [] []]else [])
termination_by n
theorem nO{ts:List Ty}(hw:Wf ts){n:Nat}{t:Ty}(h:ts[n]?=some t):
  den ts n=.mk t.kind (t.fields.map Prod.fst) (t.fields.map λf=>den ts f.2) (t.list.map (den ts)) (if t.kind=8\/t.kind=9 then [den ts t.of]else []):=by
 have hi:=hw n t h;rw[den,h];dsimp only;congr 1
 ·exact List.map_congr_left λf hf=>by rw[dif_pos (hi.fields f hf)]
 ·exact List.map_congr_left λj hj=>by rw[dif_pos (hi.list j hj)]
 ·split
  ·rename_i hk;rw[dif_pos (hi.of hk)]
  ·rfl
end Ty
end
namespace Ty
structure Par where
 pos:Nat
 text:BA
 ty:Int
mutual
inductive Ex where
 |num (p n:Nat)
 |text (p:Nat) (x:BA)
 |bool (p n:Nat)
 |null (p:Nat)
 |var (p:Nat) (x:BA)
 |fn (p:Nat) (ps:List Par) (ty:Int) (bp:Nat) (body:List Sm)
 |call (p:Nat) (a:Ex) (l:List Ex)
 |get (p:Nat) (a:Ex) (x:BA)
 |atX (p:Nat) (a b:Ex)
 |obj (p:Nat) (l:List (Nat×BA×Ex))
 |arr (p:Nat) (l:List Ex)
 |two (p:Nat) (x:BA) (a b:Ex)
 |one (p:Nat) (x:BA) (a:Ex)
 |asX (p:Nat) (a:Ex) (ty:Int)
inductive Sm where
 |fZ (p:Nat) (x:BA) (ty:Int) (a:Ex)
 |set (p:Nat) (x:BA) (v:Ex)
 |put (p:Nat) (a:Ex) (x:BA) (v:Ex)
 |lay (p:Nat) (a b v:Ex)
 |print (p:Nat) (a:Ex)
 |ret (p:Nat) (a:Ex)
 |oL (p:Nat) (a:Ex)
 |if_ (p:Nat) (a:Ex) (bp:Nat) (b:List Sm) (c:Option (Nat×List Sm))
 |while_ (p:Nat) (a:Ex) (bp:Nat) (b:List Sm)
end
def gY:List Par->List Nd->List Nd×List Nat
 |[],ns=>(ns,[])
 |q::ps,ns=>let r:=gY ps (ns++[{af 16 q.pos with text:=q.text,ty:=q.ty}]);(r.1,ns.length::r.2)
mutual
def aF:Ex->List Nd->List Nd×Nat
 | .num p n,ns=>(ns++[{af 1 p with n:=n}],ns.length)
 | .text p x,ns=>(ns++[{af 2 p with text:=x}],ns.length)
 | .bool p n,ns=>(ns++[{af 3 p with n:=n}],ns.length)
 | .null p,ns=>(ns++[af 4 p],ns.length)
 | .var p x,ns=>(ns++[{af 5 p with text:=x}],ns.length)
 | .fn p ps ty bp body,ns=>let r:=gY ps ns;let b:=dm bp body r.1;(b.1++[{af 6 p with list:=r.2,ty:=ty,a:=b.2}],b.1.length)
 | .call p a l,ns=>let r:=aF a ns;let q:=gL l r.1;(q.1++[{af 7 p with a:=r.2,list:=q.2}],q.1.length)
 | .get p a x,ns=>let r:=aF a ns;(r.1++[{af 8 p with a:=r.2,text:=x}],r.1.length)
 | .atX p a b,ns=>let r:=aF a ns;let q:=aF b r.1;(q.1++[{af 9 p with a:=r.2,b:=q.2}],q.1.length)
 | .obj p l,ns=>let q:=ir l ns;(q.1++[{af 10 p with list:=q.2}],q.1.length)
 | .arr p l,ns=>let q:=gL l ns;(q.1++[{af 11 p with list:=q.2}],q.1.length)
 | .two p x a b,ns=>let r:=aF a ns;let q:=aF b r.1;(q.1++[{af 12 p with text:=x,a:=r.2,b:=q.2}],q.1.length)
 | .one p x a,ns=>let r:=aF a ns;(r.1++[{af 13 p with text:=x,a:=r.2}],r.1.length)
 | .asX p a ty,ns=>let r:=aF a ns;(r.1++[{af 14 p with a:=r.2,ty:=ty}],r.1.length)
def gL:List Ex->List Nd->List Nd×List Nat
 |[],ns=>(ns,[])
 |e::l,ns=>let r:=aF e ns;let q:=gL l r.1;(q.1,r.2::q.2)
def ir:List (Nat×BA×Ex)->List Nd->List Nd×List Nat
 |[],ns=>(ns,[])
 |(p,x,e)::l,ns=>let r:=aF e ns;let q:=ir l (r.1++[{af 15 p with text:=x,a:=r.2}]);(q.1,r.1.length::q.2)
def dm(bp:Nat)(l:List Sm)(ns:List Nd):List Nd×Nat:=let q:=dQ l ns;(q.1++[{af 26 bp with list:=q.2}],q.1.length)
def dQ:List Sm->List Nd->List Nd×List Nat
 |[],ns=>(ns,[])
 |e::l,ns=>let r:=cN e ns;let q:=dQ l r.1;(q.1,r.2::q.2)
def cN:Sm->List Nd->List Nd×Nat
 | .fZ p x ty a,ns=>let r:=aF a ns;(r.1++[{af 17 p with text:=x,ty:=ty,a:=r.2}],r.1.length)
 | .set p x v,ns=>let r:=aF v ns;(r.1++[{af 18 p with text:=x,a:=r.2}],r.1.length)
 | .put p a x v,ns=>let r:=aF a ns;let q:=aF v r.1;(q.1++[{af 19 p with text:=x,a:=r.2,b:=q.2}],q.1.length)
 | .lay p a b v,ns=>let r:=aF a ns;let q:=aF b r.1;let u:=aF v q.1;(u.1++[{af 20 p with a:=r.2,b:=q.2,c:=(u.2:Int)}],u.1.length)
 | .print p a,ns=>let r:=aF a ns;(r.1++[{af 21 p with a:=r.2}],r.1.length)
 | .ret p a,ns=>let r:=aF a ns;(r.1++[{af 24 p with a:=r.2}],r.1.length)
 | .oL p a,ns=>let r:=aF a ns;(r.1++[{af 25 p with a:=r.2}],r.1.length)
 | .if_ p a bp b none,ns=>let r:=aF a ns;let q:=dm bp b r.1;(q.1++[{af 22 p with a:=r.2,b:=q.2,c:= -1}],q.1.length)
 | .if_ p a bp b (some (cp,c)),ns=>let r:=aF a ns;let q:=dm bp b r.1;let u:=dm cp c q.1;(u.1++[{af 22 p with a:=r.2,b:=q.2,c:=(u.2:Int)}],u.1.length)
 | .while_ p a bp b,ns=>let r:=aF a ns;let q:=dm bp b r.1;(q.1++[{af 23 p with a:=r.2,b:=q.2}],q.1.length)
end
end Ty
section
namespace Ty
open Tok (Tk)
def aA{α:Type}(m:M α):Prop:=∀s a s',m s=.ok (a,s')->s'.ns=s.ns
section
variable {α β:Type}
theorem aA.ret(a:α):aA (ret a):=λs b s' e=>by cases e;rfl
theorem aA.fail(ad:List Tk)(n:Nat):aA (fail (α:=α) ad n):=λs b s' h=>by cases h
theorem aA.step:aA step:=λs b s' e=>by cases e;rfl
theorem aA.need(ad:List Tk)(x:List UInt8):aA (need ad x):=λs b s' e=>by grind [Ty.need]
theorem aA.take(ad:List Tk)(x:List UInt8):aA (take ad x):=λs b s' e=>by grind [Ty.take]
theorem aA.name(ad:List Tk)(met:List BA):aA (name ad met):=λs b s' e=>by
 grind [Ty.name]
theorem aA.aP(t:Ty):aA (aP t):=λs b s' e=>by cases e;rfl
theorem aA.ak{m:M α}{k:α->M β}(h:aA m)(g:∀a,aA (k a)):aA (Ty.ak m k):=λs b s' x=>by
 obtain⟨a,s1,e1,e2⟩:=ah x;exact(g a _ _ _ e2).trans (h _ _ _ e1)
theorem aA.ite{p:Prop} [Decidable p]{m n:M α}(h:aA m)(g:aA n):aA (if p then m else n):=by grind
theorem aA.list{ad:List Tk}{x:List UInt8}{m:List α->M α}(hm:∀l,aA (m l)):∀f l,aA (list ad x m f l)
 |0,_=>aA.fail _ _
 |f+1,l=>(aA.take _ _).ak λ_=>aA.ite (aA.ret l) ((aA.ite (aA.ret ()) (aA.need _ _)).ak λ_=>(hm l).ak λn=>aA.list hm f (l++[n]))
theorem aA.fields{ad:List Tk}{T:M Nat}(hT:aA T):∀f l,aA (fields ad T f l)
 |0,_=>aA.fail _ _
 |f+1,l=>(aA.take _ _).ak λ_=>aA.ite (aA.ret l) ((aA.name _ _).ak λs=>(aA.need _ _).ak λ_=>hT.ak λn=>(aA.need _ _).ak λ_=>aA.fields hT f (l++[(s,n)]))
theorem aA.round{ad:List Tk}{T:M Nat}(hT:aA T):aA (round ad T):=
 (aA.list (λ_=>hT) _ _).ak λ_=>(aA.take _ _).ak λ_=>aA.ite (hT.ak λ_=>aA.aP _) (aA.ite (aA.ret _) (aA.fail _ _))
theorem aA.single{ad:List Tk}{T:M Nat}(hT:aA T):aA (single ad T):=λs a s' h=>by
 unfold Ty.single at h;split at h
 ·exact(aA.step.ak λ_=>aA.aP _) s a s' h
 ·exact((aA.take _ _).ak λb=>aA.ite ((aA.fields hT _ _).ak λ_=>aA.aP _) ((aA.take _ _).ak λb=>aA.ite (hT.ak λn=>(aA.need _ _).ak λ_=>aA.aP _) ((aA.need _ _).ak λ_=>aA.round hT))) s a s' h
theorem aA.bars{ad:List Tk}{S:M Nat}(hS:aA S):∀f l,aA (bars ad S f l)
 |0,_=>aA.fail _ _
 |f+1,l=>(aA.take _ _).ak λ_=>aA.ite (hS.ak λn=>aA.bars hS f (l++[n])) (aA.ret l)
theorem aA.union{ad:List Tk}{S:M Nat}(hS:aA S):aA (union ad S):=hS.ak λ_=>(aA.bars hS _ _).ak λ_=>aA.ite (aA.ret _) (aA.aP _)
theorem aA.eJ(ad:List Tk):∀r,aA (eJ ad r)
 |0=>aA.fail _ _
 |r+1=>aA.union (aA.single (aA.eJ ad r))
theorem aA.written{ad:List Tk}{T:M Nat}(hT:aA T):aA (written ad T):=(aA.take _ _).ak λ_=>aA.ite (hT.ak λ_=>aA.ret _) (aA.ret _)
end
def mG(m:M Nat):Prop:=∀s n s',m s=.ok (n,s')->∃e,aF e s.ns=(s'.ns,n)
def sZ(m:M Nat):Prop:=∀s n s',m s=.ok (n,s')->∃e,cN e s.ns=(s'.ns,n)
section
variable {ad:List Tk} {T E O S ONE:M Nat}
theorem rk(h:mG ONE){aJ:List (List UInt8)}:∀f n(s0:List Nd) s,(∃e,aF e s0=(s.ns,n))->∀m s',bM ad ONE aJ f n s=.ok (m,s')->∃e,aF e s0=(s'.ns,m)
 |0,_,_,_,_,_,_,x=>by cases x
 |f+1,n,s0,s,⟨e,he⟩,m,s',x=>by
  have x: (if aJ.any (λx=>is ad x s.pos)=true then ak step λ_=>ak ONE λb=>ak (two (cur ad s.pos).text n b) λm=>bM ad ONE aJ f m else ret n:M Nat) s=.ok (m,s'):=x;split at x
  ·obtain⟨_,s1,e1,x⟩:=ah x;obtain⟨b,s2,e2,x⟩:=ah x;obtain⟨k,s3,e3,x⟩:=ah x;obtain⟨eb,hb⟩:=h _ _ _ e2;cases e1;cases e3;refine rk h f _ s0 _ ⟨.two (aY s2 n).pos (cur ad s.pos).text e eb,?_⟩ m s' x
   grind [aF]
  ·cases x;exact⟨e,he⟩
theorem BF(h:mG ONE){aJ:List (List UInt8)}:mG (left ad ONE aJ):=λs n s' x=>by
 obtain⟨a,s1,e1,x⟩:=ah x;exact rk h _ _ _ _ (h _ _ _ e1) _ _ x
theorem Ia{x:BA}{n b m:Nat}{s0:List Nd}{s1 s2 s3:St}{e eb:Ex}(he:aF e s0=(s1.ns,n))(hb:aF eb s1.ns=(s2.ns,b))(h:two x n b s2=.ok (m,s3)):∃e',aF e' s0=(s3.ns,m):=by
 cases h;exact⟨.two (aY s2 n).pos x e eb,by grind [aF]⟩
theorem Ks(h:mG ONE):mG (gW ad ONE):=λs n s' x=>by
 have hs:mG (mq ad ONE):=BF (BF h);obtain⟨a,s1,e1,x⟩:=ah x;obtain⟨e,he⟩:=hs _ _ _ e1;obtain⟨b,s2,e2,x⟩:=ah x;have k2:=aA.take _ _ _ _ _ e2;cases b
 ·obtain⟨b,s3,e3,x⟩:=ah (show ak (take ad [60]) _ s2= _ from x);have k3:=aA.take _ _ _ _ _ e3;cases b
  ·grind [ret]
  ·obtain⟨m,s4,e4,x⟩:=ah (show ak (mq ad ONE) (λm=>two ⟨#[60]⟩ a m) s3= _ from x);obtain⟨eb,hb⟩:=hs _ _ _ e4
   grind [Ia]
 ·obtain⟨m,s4,e4,x⟩:=ah (show ak (mq ad ONE) (λm=>two ⟨#[61,61]⟩ a m) s2= _ from x);obtain⟨eb,hb⟩:=hs _ _ _ e4
  grind [Ia]
theorem sU{x:List UInt8}(h:mG E):∀f l s r s',list ad x (λ_=>E) f l s=.ok (r,s')->∃es ids,gL es s.ns=(s'.ns,ids)/\r=l++ids
 |0,_,_,_,_,y=>by cases y
 |f+1,l,s,r,s',y=>by
  obtain⟨b,s1,e1,y⟩:=ah y;have k1:=aA.take _ _ _ _ _ e1;cases b
  ·obtain⟨_,s2,e2,y⟩:=ah (show ak (if l.length=0 then ret ()else need ad [44]) _ s1= _ from y);have k2:=(aA.ite (aA.ret ()) (aA.need ad [44])) _ _ _ e2;obtain⟨n,s3,e3,y⟩:=ah y;obtain⟨e,he⟩:=h _ _ _ e3;obtain⟨es,ids,h1,h2⟩:=sU h f _ _ _ _ y;refine⟨e::es,n::ids,?_,by grind⟩
   grind [gL]
  ·have y:=y;cases y;exact⟨[],[],by rw[gL,k1],by simp⟩
theorem y_{x:List UInt8}(h:mG E):∀f l s r s',list ad x (λl=>fV ad E (l.map Prod.fst)) f l s=.ok (r,s')->∃os ids,ir os s.ns=(s'.ns,ids)/\r.map Prod.snd=l.map Prod.snd++ids
 |0,_,_,_,_,y=>by cases y
 |f+1,l,s,r,s',y=>by
  obtain⟨b,s1,e1,y⟩:=ah y;have k1:=aA.take _ _ _ _ _ e1;cases b
  ·obtain⟨_,s2,e2,y⟩:=ah (show ak (if l.length=0 then ret ()else need ad [44]) _ s1= _ from y);have k2:=(aA.ite (aA.ret ()) (aA.need ad [44])) _ _ _ e2;obtain⟨q,s3,e3,y⟩:=ah y;obtain⟨nm,t1,f1,g⟩:=ah (show ak (name ad (l.map Prod.fst)) (λx=>ak (need ad [58]) λ_=>ak E λa=>ak (addNode {af 15 (cur ad s2.pos).pos with text:=x,a:=a}) λn=>ret (x,n)) s2= _ from e3);have m1:=aA.name _ _ _ _ _ f1;obtain⟨_,t2,f2,g⟩:=ah g;have m2:=aA.need _ _ _ _ _ f2;obtain⟨a,t3,f3,g⟩:=ah g;obtain⟨e,he⟩:=h _ _ _ f3;cases g;obtain⟨os,ids,h1,h2⟩:=y_ h f _ _ _ _ y;refine⟨((cur ad s2.pos).pos,nm,e)::os,t3.ns.length::ids,?_,by grind⟩
   grind [ir]
  ·have y:=y;cases y;exact⟨[],[],by rw[ir,k1],by simp⟩
theorem yq{x:List UInt8}(hT:aA T):∀f l s r s',list ad x (λl=>fC ad T (l.map Prod.fst)) f l s=.ok (r,s')->∃ps ids,gY ps s.ns=(s'.ns,ids)/\r.map Prod.snd=l.map Prod.snd++ids
 |0,_,_,_,_,y=>by cases y
 |f+1,l,s,r,s',y=>by
  obtain⟨b,s1,e1,y⟩:=ah y;have k1:=aA.take _ _ _ _ _ e1;cases b
  ·obtain⟨_,s2,e2,y⟩:=ah (show ak (if l.length=0 then ret ()else need ad [44]) _ s1= _ from y);have k2:=(aA.ite (aA.ret ()) (aA.need ad [44])) _ _ _ e2;obtain⟨q,s3,e3,y⟩:=ah y;obtain⟨nm,t1,f1,g⟩:=ah (show ak (name ad (l.map Prod.fst)) (λx=>ak (written ad T) λt=>ak (addNode {af 16 (cur ad s2.pos).pos with text:=x,ty:=t}) λn=>ret (x,n)) s2= _ from e3);have m1:=aA.name _ _ _ _ _ f1;obtain⟨t,t2,f2,g⟩:=ah g;have m2:=aA.written hT _ _ _ f2;cases g;obtain⟨ps,ids,h1,h2⟩:=yq hT f _ _ _ _ y;refine⟨⟨(cur ad s2.pos).pos,nm,t⟩::ps,t2.ns.length::ids,?_,by grind⟩
   grind [gY]
  ·have y:=y;cases y;exact⟨[],[],by rw[gY,k1],by simp⟩
theorem yO(h:sZ S):∀f l s r s',stmts ad S f l s=.ok (r,s')->∃es ids,dQ es s.ns=(s'.ns,ids)/\r=l++ids
 |0,_,_,_,_,y=>by cases y
 |f+1,l,s,r,s',y=>by
  obtain⟨b,s1,e1,y⟩:=ah y;have k1:=aA.take _ _ _ _ _ e1;cases b
  ·obtain⟨n,s3,e3,y⟩:=ah (show ak S (λn=>stmts ad S f (l++[n])) s1= _ from y);obtain⟨e,he⟩:=h _ _ _ e3;obtain⟨es,ids,h1,h2⟩:=yO h f _ _ _ _ y;refine⟨e::es,n::ids,?_,by grind⟩
   grind [dQ]
  ·have y:=y;cases y;exact⟨[],[],by rw[dQ,k1],by simp⟩
theorem qH(h:sZ S):∀s n s',di ad S s=.ok (n,s')->∃bp l,dm bp l s.ns=(s'.ns,n):=λs n s' y=>by
 obtain⟨_,s1,e1,y⟩:=ah (show ak (need ad [123]) (λ_=>ak (stmts ad S (ad.length+1) []) λl=>addNode {af 26 (cur ad s.pos).pos with list:=l}) s= _ from y);have k1:=aA.need _ _ _ _ _ e1;obtain⟨l,s2,e2,y⟩:=ah y;obtain⟨es,ids,h1,h2⟩:=yO h _ _ _ _ _ e2;cases y;refine⟨(cur ad s.pos).pos,es,?_⟩
 grind [dm]
theorem xX(hT:aA T)(h:sZ S)(p:Nat):mG (bH ad T S p):=λs n s' y=>by
 obtain⟨_,s1,e1,y⟩:=ah y;have k1:=aA.need _ _ _ _ _ e1;obtain⟨l,s2,e2,y⟩:=ah y;obtain⟨ps,ids,h1,h2⟩:=yq hT _ _ _ _ _ e2;obtain⟨t,s3,e3,y⟩:=ah y;have k3:=aA.written hT _ _ _ e3;obtain⟨a,s4,e4,y⟩:=ah y;obtain⟨bp,body,hb⟩:=qH h _ _ _ e4;cases y;refine⟨.fn p ps t bp body,?_⟩
 grind [aF]
theorem lF(hT:aA T)(h:mG E):∀f a(s0:List Nd) s,(∃e,aF e s0=(s.ns,a))->∀m s',behind ad T E f a s=.ok (m,s')->∃e,aF e s0=(s'.ns,m)
 |0,_,_,_,_,_,_,y=>by cases y
 |f+1,a,s0,s,⟨e,he⟩,m,s',y=>by
  obtain⟨b,s1,e1,y⟩:=ah (show ak (take ad [40]) _ s= _ from y);have k1:=aA.take _ _ _ _ _ e1;cases b;rotate_left
  ·obtain⟨l,s2,e2,y⟩:=ah (show ak (list ad [41] (λ_=>E) (ad.length+1) []) (λl=>ak (addNode {af 7 (aY s a).pos with a:=a,list:=l}) λm=>behind ad T E f m) s1= _ from y);obtain⟨es,ids,h1,h2⟩:=sU h _ _ _ _ _ e2;obtain⟨q,s3,e3,y⟩:=ah y;cases e3;refine lF hT h f _ s0 _ ⟨.call (aY s a).pos e es,?_⟩ m s' y
   grind [aF]
  obtain⟨b,s2,e2,y⟩:=ah (show ak (take ad [46]) _ s1= _ from y);have k2:=aA.take _ _ _ _ _ e2;cases b;rotate_left
  ·obtain⟨x,s3,e3,y⟩:=ah (show ak (name ad []) (λx=>ak (addNode {af 8 (aY s a).pos with a:=a,text:=x}) λm=>behind ad T E f m) s2= _ from y);have k3:=aA.name _ _ _ _ _ e3;obtain⟨q,s4,e4,y⟩:=ah y;cases e4;refine lF hT h f _ s0 _ ⟨.get (aY s a).pos e x,?_⟩ m s' y
   grind [aF]
  obtain⟨b,s3,e3,y⟩:=ah (show ak (take ad [91]) _ s2= _ from y);have k3:=aA.take _ _ _ _ _ e3;cases b;rotate_left
  ·obtain⟨c,s4,e4,y⟩:=ah (show ak E (λc=>ak (need ad [93]) λ_=>ak (addNode {af 9 (aY s a).pos with a:=a,b:=c}) λm=>behind ad T E f m) s3= _ from y);obtain⟨ec,hc⟩:=h _ _ _ e4;obtain⟨_,s5,e5,y⟩:=ah y;have k5:=aA.need _ _ _ _ _ e5;obtain⟨q,s6,e6,y⟩:=ah y;cases e6;refine lF hT h f _ s0 _ ⟨.atX (aY s a).pos e ec,?_⟩ m s' y
   grind [aF]
  obtain⟨b,s4,e4,y⟩:=ah (show ak (take ad [97,115]) _ s3= _ from y);have k4:=aA.take _ _ _ _ _ e4;cases b;rotate_left
  ·obtain⟨t,s5,e5,y⟩:=ah (show ak T (λt=>ak (addNode {af 14 (aY s a).pos with a:=a,ty:=(t:Int)}) λm=>behind ad T E f m) s4= _ from y);have k5:=hT _ _ _ e5;obtain⟨q,s6,e6,y⟩:=ah y;cases e6;refine lF hT h f _ s0 _ ⟨.asX (aY s a).pos e t,?_⟩ m s' y
   grind [aF]
  grind [ret]
theorem B1(hT:aA T)(h:mG E)(hS:sZ S):mG (bO ad T E S):=λs n s' y=>by
 have y: (if(cur ad s.pos).kind=3 then ak step λ_=>addNode {af 1 (cur ad s.pos).pos with n:=value (cur ad s.pos).text}else
  if(cur ad s.pos).kind=4 then ak step λ_=>addNode {af 2 (cur ad s.pos).pos with text:=(cur ad s.pos).text}else
  if(cur ad s.pos).kind=1 then ak step λ_=>addNode {af 5 (cur ad s.pos).pos with text:=(cur ad s.pos).text}else _:M Nat) s=.ok (n,s'):=y
 by_cases NC: (cur ad s.pos).kind=3
 ·rw[if_pos NC]at y;cases y;exact⟨.num (cur ad s.pos).pos (value (cur ad s.pos).text),by rw[aF]⟩
 rw[if_neg NC]at y
 by_cases Ku: (cur ad s.pos).kind=4
 ·rw[if_pos Ku]at y;cases y;exact⟨.text (cur ad s.pos).pos (cur ad s.pos).text,by rw[aF]⟩
 rw[if_neg Ku]at y
 by_cases CZ: (cur ad s.pos).kind=1
 ·rw[if_pos CZ]at y;cases y;exact⟨.var (cur ad s.pos).pos (cur ad s.pos).text,by rw[aF]⟩
 rw[if_neg CZ]at y
 obtain⟨b,s1,e1,y⟩:=ah y;have k1:=aA.take _ _ _ _ _ e1;cases b;rotate_left
 ·have y:addNode {af 3 (cur ad s.pos).pos with n:=1} s1=.ok (n,s'):=y;cases y;exact⟨.bool (cur ad s.pos).pos 1,by grind [aF]⟩
 obtain⟨b,s2,e2,y⟩:=ah (show ak (take ad [102,97,108,115,101]) _ s1= _ from y);have k2:=aA.take _ _ _ _ _ e2;cases b;rotate_left
 ·have y:addNode (af 3 (cur ad s.pos).pos) s2=.ok (n,s'):=y;cases y;exact⟨.bool (cur ad s.pos).pos 0,by rw[aF,<-k1,<-k2];rfl⟩
 obtain⟨b,s3,e3,y⟩:=ah (show ak (take ad [110,117,108,108]) _ s2= _ from y);have k3:=aA.take _ _ _ _ _ e3;cases b;rotate_left
 ·have y:addNode (af 4 (cur ad s.pos).pos) s3=.ok (n,s'):=y;cases y;exact⟨.null (cur ad s.pos).pos,by grind [aF]⟩
 obtain⟨b,s4,e4,y⟩:=ah (show ak (take ad [102,110]) _ s3= _ from y);have k4:=aA.take _ _ _ _ _ e4;cases b;rotate_left
 ·obtain⟨e,he⟩:=xX hT hS _ _ _ _ (show bH ad T S (cur ad s.pos).pos s4= _ from y)
  grind
 obtain⟨b,s5,e5,y⟩:=ah (show ak (take ad [91]) _ s4= _ from y);have k5:=aA.take _ _ _ _ _ e5;cases b;rotate_left
 ·obtain⟨l,s6,e6,y⟩:=ah (show ak (list ad [93] (λ_=>E) (ad.length+1) []) (λl=>addNode {af 11 (cur ad s.pos).pos with list:=l}) s5= _ from y);obtain⟨es,ids,h1,h2⟩:=sU h _ _ _ _ _ e6;cases y;refine⟨.arr (cur ad s.pos).pos es,?_⟩
  grind [aF]
 obtain⟨b,s6,e6,y⟩:=ah (show ak (take ad [123]) _ s5= _ from y);have k6:=aA.take _ _ _ _ _ e6;cases b;rotate_left
 ·obtain⟨l,s7,e7,y⟩:=ah (show ak (list ad [125] (λl=>fV ad E (l.map Prod.fst)) (ad.length+1) []) (λl=>addNode {af 10 (cur ad s.pos).pos with list:=l.map Prod.snd}) s6= _ from y);obtain⟨os,ids,h1,h2⟩:=y_ h _ _ _ _ _ e7;cases y;refine⟨.obj (cur ad s.pos).pos os,?_⟩
  grind [aF]
 ·obtain⟨_,s7,e7,y⟩:=ah (show ak (need ad [40]) (λ_=>ak E λa=>ak (need ad [41]) λ_=>ret a) s6= _ from y);have k7:=aA.need _ _ _ _ _ e7;obtain⟨a,s8,e8,y⟩:=ah y;obtain⟨e,he⟩:=h _ _ _ e8;obtain⟨_,s9,e9,y⟩:=ah y;have k9:=aA.need _ _ _ _ _ e9;cases y
  grind
theorem Dn(hT:aA T)(h:mG E)(hO:mG O)(hS:sZ S):mG (oI ad T E O S):=λs n s' y=>by
 have y: (if dc.any (λx=>is ad x s.pos)=true then ak step λ_=>ak O λa=>addNode {af 13 (cur ad s.pos).pos with text:=(cur ad s.pos).text,a:=a}else ak (bO ad T E S) λa=>behind ad T E (ad.length+1) a:M Nat) s=.ok (n,s'):=y;by_cases hp:dc.any (λx=>is ad x s.pos)=true
 ·rw[if_pos hp]at y
  obtain⟨a,s2,e2,y⟩:=ah (show ak O (λa=>addNode {af 13 (cur ad s.pos).pos with text:=(cur ad s.pos).text,a:=a}) {s with pos:=s.pos+1}= _ from y);obtain⟨e,he⟩:=hO _ _ _ e2;cases y;exact⟨.one (cur ad s.pos).pos (cur ad s.pos).text e,by grind [aF]⟩
 ·rw[if_neg hp]at y
  obtain⟨a,s1,e1,y⟩:=ah y;exact lF hT h _ _ _ _ (B1 hT h hS _ _ _ e1) _ _ y
def gI:Ex->Nat
 | .num .. =>1| .text .. =>2| .bool .. =>3| .null .. =>4| .var .. =>5| .fn .. =>6| .call .. =>7| .get .. =>8| .atX .. =>9| .obj .. =>10| .arr .. =>11| .two .. =>12| .one .. =>13| .asX .. =>14
theorem sQ(e:Ex)(ns:List Nd):∃pL nd,aF e ns=(pL++[nd],pL.length)/\nd.kind=gI e:=by
 cases e<;>rw[aF]<;>exact⟨_,_,rfl,rfl⟩
theorem zr{pL:List Nd}{nd:Nd}{st:St}{a:Nat}(h: (pL++[nd],pL.length)=(st.ns,a)):aY st a=nd:=by
 grind [aY]
theorem Gq(h:mG E):sZ (cq ad E):=λs n s' y=>by
 obtain⟨a,s1,e1,y⟩:=ah y;obtain⟨e,he⟩:=h _ _ _ e1;have y: (if is ad [61] s1.pos=true then
  if(aY s1 a).kind=5 then ak (ef a) λ_=>ak step λ_=>ak E λv=>ak (need ad [59]) λ_=>addNode {af 18 (aY s1 a).pos with text:=(aY s1 a).text,a:=v}
  else if(aY s1 a).kind=8 then ak (ef a) λ_=>ak step λ_=>ak E λv=>ak (need ad [59]) λ_=>addNode {af 19 (aY s1 a).pos with text:=(aY s1 a).text,a:=(aY s1 a).a,b:=v}
  else if(aY s1 a).kind=9 then ak (ef a) λ_=>ak step λ_=>ak E λv=>ak (need ad [59]) λ_=>addNode {af 20 (aY s1 a).pos with a:=(aY s1 a).a,b:=(aY s1 a).b,c:=(v:Int)}
  else fail ad 1
 else ak (need ad [59]) λ_=>addNode {af 25 (aY s1 a).pos with a:=a}:M Nat) s1=.ok (n,s'):=y
 obtain⟨pL,nd,hl,hk⟩:=sQ e s.ns;have G9:=zr (hl.symm.trans he);rw[G9]at y
 by_cases hi:is ad [61] s1.pos=true
 ·rw[if_pos hi]at y
  by_cases h5:nd.kind=5
  ·rw[if_pos h5]at y
   obtain⟨v,s2,e2,y⟩:=ah (show ak E (λv=>ak (need ad [59]) λ_=>addNode {af 18 nd.pos with text:=nd.text,a:=v}) {s1 with ns:=s1.ns.take a,pos:=s1.pos+1}= _ from y);obtain⟨ev,hv⟩:=h _ _ _ e2;obtain⟨_,s3,e3,y⟩:=ah y;have k3:=aA.need _ _ _ _ _ e3;rw[hk]at h5
   cases e<;>simp only[gI]at h5<;>try omega
   rename_i p x;rw[aF]at he hl
   obtain⟨q1,q2⟩:=Prod.mk.inj he;cases y;refine⟨.set nd.pos nd.text ev,?_⟩;rw[cN];dsimp only at hv;rw[<-q1,<-q2]at hv
   simp only[List.take_left']at hv;rw[hv];dsimp only;rw[k3]
  rw[if_neg h5]at y
  by_cases h8:nd.kind=8
  ·rw[if_pos h8]at y
   obtain⟨v,s2,e2,y⟩:=ah (show ak E (λv=>ak (need ad [59]) λ_=>addNode {af 19 nd.pos with text:=nd.text,a:=nd.a,b:=v}) {s1 with ns:=s1.ns.take a,pos:=s1.pos+1}= _ from y);obtain⟨ev,hv⟩:=h _ _ _ e2;obtain⟨_,s3,e3,y⟩:=ah y;have k3:=aA.need _ _ _ _ _ e3;rw[hk]at h8
   cases e<;>simp only[gI]at h8<;>try omega
   rename_i p ea x;rw[aF]at he hl
   dsimp only at he hl;obtain⟨q1,q2⟩:=Prod.mk.inj he;obtain⟨r1,r2⟩:=Prod.mk.inj hl;obtain⟨r3,r4⟩:=List.append_inj' r1 rfl;obtain rfl:=List.cons.inj r4|>.1;cases y;refine⟨.put p ea x ev,?_⟩;rw[cN];dsimp only at hv⊢;rw[<-q1,<-q2]at hv
   simp only[List.take_left']at hv;rw[hv];dsimp only;rw[k3];rfl
  rw[if_neg h8]at y
  by_cases h9:nd.kind=9
  ·rw[if_pos h9]at y
   obtain⟨v,s2,e2,y⟩:=ah (show ak E (λv=>ak (need ad [59]) λ_=>addNode {af 20 nd.pos with a:=nd.a,b:=nd.b,c:=(v:Int)}) {s1 with ns:=s1.ns.take a,pos:=s1.pos+1}= _ from y);obtain⟨ev,hv⟩:=h _ _ _ e2;obtain⟨_,s3,e3,y⟩:=ah y;have k3:=aA.need _ _ _ _ _ e3;rw[hk]at h9
   cases e<;>simp only[gI]at h9<;>try omega
   rename_i p ea eb;rw[aF]at he hl
   dsimp only at he hl;obtain⟨q1,q2⟩:=Prod.mk.inj he;obtain⟨r1,r2⟩:=Prod.mk.inj hl;obtain⟨r3,r4⟩:=List.append_inj' r1 rfl;obtain rfl:=List.cons.inj r4|>.1;cases y;refine⟨.lay p ea eb ev,?_⟩;rw[cN];dsimp only at hv⊢;rw[<-q1,<-q2]at hv
   simp only[List.take_left']at hv;rw[hv];dsimp only;rw[k3];rfl
  rw[if_neg h9]at y
  cases y
 ·rw[if_neg hi]at y
  obtain⟨_,s2,e2,y⟩:=ah y;have k2:=aA.need _ _ _ _ _ e2;cases y;exact⟨.oL nd.pos e,by rw[cN,he];dsimp only;rw[k2]⟩
theorem M0(p:Nat)(e:Ex)(bp:Nat)(b:List Sm)(ns:List Nd):cN (.if_ p e bp b none) ns=(((dm bp b (aF e ns).1).1++[{af 22 p with a:=(aF e ns).2,b:=(dm bp b (aF e ns).1).2,c:= -1}]),(dm bp b (aF e ns).1).1.length):=by rw[cN]
theorem uo(h:mG E)(hS:sZ S)(yes:Bool)(p:Nat):sZ (aZ ad E S yes p):=λs n s' y=>by
 obtain⟨_,s1,e1,y⟩:=ah y;have k1:=aA.step _ _ _ e1;obtain⟨_,s2,e2,y⟩:=ah y;have k2:=aA.need _ _ _ _ _ e2;obtain⟨a,s3,e3,y⟩:=ah y;obtain⟨e,he⟩:=h _ _ _ e3;obtain⟨_,s4,e4,y⟩:=ah y;have k4:=aA.need _ _ _ _ _ e4;obtain⟨b,s5,e5,y⟩:=ah y;obtain⟨bp,bl,hb⟩:=qH hS _ _ _ e5;rw[k2,k1]at he
 rw[k4]at hb
 cases yes
 ·have y:addNode {af 23 p with a:=a,b:=b} s5=.ok (n,s'):=y;cases y;exact⟨.while_ p e bp bl,by rw[cN,he];dsimp only;rw[hb]⟩
 ·obtain⟨t,s6,e6,y⟩:=ah (show ak (take ad [101,108,115,101]) (λt=>if t then ak (di ad S) λc=>addNode {af 22 p with a:=a,b:=b,c:=(c:Int)}else addNode {af 22 p with a:=a,b:=b,c:= -1}) s5= _ from y);have k6:=aA.take _ _ _ _ _ e6;cases t
  ·have y:addNode {af 22 p with a:=a,b:=b,c:= -1} s6=.ok (n,s'):=y;cases y;exact⟨.if_ p e bp bl none,by rw[cN,he];dsimp only;rw[hb];dsimp only;rw[k6]⟩
  ·obtain⟨c,s7,e7,y⟩:=ah (show ak (di ad S) (λc=>addNode {af 22 p with a:=a,b:=b,c:=(c:Int)}) s6= _ from y);obtain⟨cp,cl,hc⟩:=qH hS _ _ _ e7;rw[k6]at hc
   cases y;exact⟨.if_ p e bp bl (some (cp,cl)),by rw[cN,he];dsimp only;rw[hb];dsimp only;rw[hc]⟩
theorem Jc(hT:aA T)(h:mG E)(hS:sZ S):sZ (de ad T E S):=λs n s' y=>by
 obtain⟨b,s1,e1,y⟩:=ah (show ak (take ad [108,101,116]) _ s= _ from y);have k1:=aA.take _ _ _ _ _ e1;cases b;rotate_left
 ·obtain⟨x,s2,e2,y⟩:=ah (show ak (name ad []) (λx=>ak (written ad T) λt=>ak (need ad [61]) λ_=>ak E λa=>ak (need ad [59]) λ_=>addNode {af 17 (cur ad s.pos).pos with text:=x,ty:=t,a:=a}) s1= _ from y);have k2:=aA.name _ _ _ _ _ e2;obtain⟨t,s3,e3,y⟩:=ah y;have k3:=aA.written hT _ _ _ e3;obtain⟨_,s4,e4,y⟩:=ah y;have k4:=aA.need _ _ _ _ _ e4;obtain⟨a,s5,e5,y⟩:=ah y;obtain⟨e,he⟩:=h _ _ _ e5;obtain⟨_,s6,e6,y⟩:=ah y;have k6:=aA.need _ _ _ _ _ e6;cases y;rw[k4,k3,k2,k1]at he
  exact⟨.fZ (cur ad s.pos).pos x t e,by rw[cN,he];dsimp only;rw[k6]⟩
 obtain⟨b,s2,e2,y⟩:=ah (show ak (take ad [112,114,105,110,116]) _ s1= _ from y);have k2:=aA.take _ _ _ _ _ e2;cases b;rotate_left
 ·obtain⟨a,s3,e3,y⟩:=ah (show ak E (λa=>ak (need ad [59]) λ_=>addNode {af 21 (cur ad s.pos).pos with a:=a}) s2= _ from y);obtain⟨e,he⟩:=h _ _ _ e3;obtain⟨_,s4,e4,y⟩:=ah y;have k4:=aA.need _ _ _ _ _ e4;cases y;rw[k2,k1]at he
  exact⟨.print (cur ad s.pos).pos e,by rw[cN,he];dsimp only;rw[k4]⟩
 obtain⟨b,s3,e3,y⟩:=ah (show ak (take ad [114,101,116,117,114,110]) _ s2= _ from y);have k3:=aA.take _ _ _ _ _ e3;cases b;rotate_left
 ·obtain⟨a,s4,e4,y⟩:=ah (show ak E (λa=>ak (need ad [59]) λ_=>addNode {af 24 (cur ad s.pos).pos with a:=a}) s3= _ from y);obtain⟨e,he⟩:=h _ _ _ e4;obtain⟨_,s5,e5,y⟩:=ah y;have k5:=aA.need _ _ _ _ _ e5;cases y;rw[k3,k2,k1]at he
  exact⟨.ret (cur ad s.pos).pos e,by rw[cN,he];dsimp only;rw[k5]⟩
 have y: (if is ad [105,102] s3.pos=true then aZ ad E S true (cur ad s.pos).pos else if is ad [119,104,105,108,101] s3.pos=true then aZ ad E S false (cur ad s.pos).pos else cq ad E:M Nat) s3=.ok (n,s'):=y;have go:∀m:M Nat,sZ m->m s3=.ok (n,s')->∃e,cN e s.ns=(s'.ns,n):=λm hm hy=>by
  obtain⟨e,he⟩:=hm _ _ _ hy;exact⟨e,by rw[<-he,k3,k2,k1]⟩
 by_cases hi:is ad [105,102] s3.pos=true
 ·rw[if_pos hi]at y;exact go _ (uo h hS _ _) y
 ·rw[if_neg hi]at y
  by_cases hw:is ad [119,104,105,108,101] s3.pos=true
  ·rw[if_pos hw]at y;exact go _ (uo h hS _ _) y
  ·rw[if_neg hw]at y;exact go _ (Gq h) y
theorem Nr(ad:List Tk):∀r,mG (lv ad r).E/\mG (lv ad r).O/\sZ (lv ad r).S
 |0=>⟨λ_ _ _ h=>(by cases h),λ_ _ _ h=>(by cases h),λ_ _ _ h=>(by cases h)⟩
 |r+1=>by
  obtain⟨h1,h2,h3⟩:=Nr ad r;have hT:=aA.eJ ad r;exact⟨Ks (Dn hT h1 h2 h3),Dn hT h1 h2 h3,Jc hT h1 h3⟩
theorem rJ(h:sZ S):∀f l s r s',dN ad S f l s=.ok (r,s')->∃es ids,dQ es s.ns=(s'.ns,ids)/\r=l++ids
 |0,_,_,_,_,y=>by cases y
 |f+1,l,s,r,s',y=>by
  have y: (if(cur ad s.pos).kind=6 then ret l else ak S λn=>dN ad S f (l++[n]):M (List Nat)) s=.ok (r,s'):=y;by_cases hk: (cur ad s.pos).kind=6
  ·rw[if_pos hk]at y
   cases y;exact⟨[],[],by rw[dQ],by simp⟩
  ·rw[if_neg hk]at y
   obtain⟨n,s3,e3,y⟩:=ah y;obtain⟨e,he⟩:=h _ _ _ e3;obtain⟨es,ids,h1,h2⟩:=rJ h f _ _ _ _ y;refine⟨e::es,n::ids,?_,by rw[h2];simp⟩;rw[dQ,he];dsimp only;rw[h1]
theorem E4{s:BA}{pg:Pg}(h:parse s=.ok pg):∃l:List Sm,dm 0 l []=(pg.ns,pg.main):=by
 unfold parse at h;split at h
 ·cases h
 ·rename_i ad _;split at h
  ·cases h
  ·rename_i n st hp;split at h
   ·cases h
   ·cases h;obtain⟨l,s1,e1,y⟩:=ah hp;obtain⟨es,ids,h1,h2⟩:=rJ (Nr ad 20).2.2 _ _ _ _ _ e1;cases y;refine⟨es,?_⟩;rw[dm,h1];dsimp only;rw[h2];rfl
end
end Ty
end
namespace Ty
def iy(ns:List Nd):List Par->List Nat->Prop
 |[],l=>l=[]
 |q::ps,l=>∃n t,l=n::t/\ns[n]?=some {af 16 q.pos with text:=q.text,ty:=q.ty}/\iy ns ps t
mutual
def aG(ns:List Nd):Ex->Nat->Prop
 | .num p k,n=>ns[n]?=some {af 1 p with n:=k}
 | .text p x,n=>ns[n]?=some {af 2 p with text:=x}
 | .bool p k,n=>ns[n]?=some {af 3 p with n:=k}
 | .null p,n=>ns[n]?=some (af 4 p)
 | .var p x,n=>ns[n]?=some {af 5 p with text:=x}
 | .fn p ps ty bp body,n=>∃ids b,ns[n]?=some {af 6 p with list:=ids,ty:=ty,a:=b}/\iy ns ps ids/\fM ns bp body b
 | .call p a l,n=>∃na nl,ns[n]?=some {af 7 p with a:=na,list:=nl}/\aG ns a na/\dS ns l nl
 | .get p a x,n=>∃na,ns[n]?=some {af 8 p with a:=na,text:=x}/\aG ns a na
 | .atX p a b,n=>∃na nb,ns[n]?=some {af 9 p with a:=na,b:=nb}/\aG ns a na/\aG ns b nb
 | .obj p l,n=>∃nl,ns[n]?=some {af 10 p with list:=nl}/\eA ns l nl
 | .arr p l,n=>∃nl,ns[n]?=some {af 11 p with list:=nl}/\dS ns l nl
 | .two p x a b,n=>∃na nb,ns[n]?=some {af 12 p with text:=x,a:=na,b:=nb}/\aG ns a na/\aG ns b nb
 | .one p x a,n=>∃na,ns[n]?=some {af 13 p with text:=x,a:=na}/\aG ns a na
 | .asX p a ty,n=>∃na,ns[n]?=some {af 14 p with a:=na,ty:=ty}/\aG ns a na
def dS(ns:List Nd):List Ex->List Nat->Prop
 |[],l=>l=[]
 |e::es,l=>∃n t,l=n::t/\aG ns e n/\dS ns es t
def eA(ns:List Nd):List (Nat×BA×Ex)->List Nat->Prop
 |[],l=>l=[]
 |(p,x,e)::es,l=>∃n a t,l=n::t/\ns[n]?=some {af 15 p with text:=x,a:=a}/\aG ns e a/\eA ns es t
def fM(ns:List Nd)(bp:Nat)(l:List Sm)(n:Nat):Prop:=∃ids,ns[n]?=some {af 26 bp with list:=ids}/\eL ns l ids
def eL(ns:List Nd):List Sm->List Nat->Prop
 |[],l=>l=[]
 |e::es,l=>∃n t,l=n::t/\bK ns e n/\eL ns es t
def bK(ns:List Nd):Sm->Nat->Prop
 | .fZ p x ty a,n=>∃na,ns[n]?=some {af 17 p with text:=x,ty:=ty,a:=na}/\aG ns a na
 | .set p x v,n=>∃nv,ns[n]?=some {af 18 p with text:=x,a:=nv}/\aG ns v nv
 | .put p a x v,n=>∃na nv,ns[n]?=some {af 19 p with text:=x,a:=na,b:=nv}/\aG ns a na/\aG ns v nv
 | .lay p a b v,n=>∃na nb nv,ns[n]?=some {af 20 p with a:=na,b:=nb,c:=((nv:Nat):Int)}/\aG ns a na/\aG ns b nb/\aG ns v nv
 | .print p a,n=>∃na,ns[n]?=some {af 21 p with a:=na}/\aG ns a na
 | .ret p a,n=>∃na,ns[n]?=some {af 24 p with a:=na}/\aG ns a na
 | .oL p a,n=>∃na,ns[n]?=some {af 25 p with a:=na}/\aG ns a na
 | .if_ p a bp b none,n=>∃na nb,ns[n]?=some {af 22 p with a:=na,b:=nb,c:= -1}/\aG ns a na/\fM ns bp b nb
 | .if_ p a bp b (some (cp,c)),n=>∃na nb nc,ns[n]?=some {af 22 p with a:=na,b:=nb,c:=((nc:Nat):Int)}/\aG ns a na/\fM ns bp b nb/\fM ns cp c nc
 | .while_ p a bp b,n=>∃na nb,ns[n]?=some {af 23 p with a:=na,b:=nb}/\aG ns a na/\fM ns bp b nb
end
section
variable {ns l8:List Nd}
theorem cD(h:ns<+:l8){n:Nat}{nd:Nd}(e:ns[n]?=some nd):l8[n]?=some nd:=by
 obtain⟨t,rfl⟩:=h
 grind
theorem iy.mono(h:ns<+:l8):∀ps l,iy ns ps l->iy l8 ps l
 |[],_,d=>d
 | _::ps,_,⟨n,t,e,h1,h2⟩=>⟨n,t,e,cD h h1,iy.mono h ps t h2⟩
mutual
theorem aG.mono(h:ns<+:l8):∀e n,aG ns e n->aG l8 e n
 | .num _ _,_,d=>by rw[aG]at d⊢;exact cD h d
 | .text _ _,_,d=>by rw[aG]at d⊢;exact cD h d
 | .bool _ _,_,d=>by rw[aG]at d⊢;exact cD h d
 | .null _,_,d=>by rw[aG]at d⊢;exact cD h d
 | .var _ _,_,d=>by rw[aG]at d⊢;exact cD h d
 | .fn _ ps _ bp body,_,d=>by rw[aG]at d⊢;obtain⟨ids,b,h1,h2,h3⟩:=d;exact⟨ids,b,cD h h1,iy.mono h _ _ h2,fM.mono h bp body b h3⟩
 | .call _ a l,_,d=>by rw[aG]at d⊢;obtain⟨na,nl,h1,h2,h3⟩:=d;exact⟨na,nl,cD h h1,aG.mono h a _ h2,dS.mono h l _ h3⟩
 | .get _ a _,_,d=>by rw[aG]at d⊢;obtain⟨na,h1,h2⟩:=d;exact⟨na,cD h h1,aG.mono h a _ h2⟩
 | .atX _ a b,_,d=>by rw[aG]at d⊢;obtain⟨na,nb,h1,h2,h3⟩:=d;exact⟨na,nb,cD h h1,aG.mono h a _ h2,aG.mono h b _ h3⟩
 | .obj _ l,_,d=>by rw[aG]at d⊢;obtain⟨nl,h1,h2⟩:=d;exact⟨nl,cD h h1,eA.mono h l _ h2⟩
 | .arr _ l,_,d=>by rw[aG]at d⊢;obtain⟨nl,h1,h2⟩:=d;exact⟨nl,cD h h1,dS.mono h l _ h2⟩
 | .two _ _ a b,_,d=>by rw[aG]at d⊢;obtain⟨na,nb,h1,h2,h3⟩:=d;exact⟨na,nb,cD h h1,aG.mono h a _ h2,aG.mono h b _ h3⟩
 | .one _ _ a,_,d=>by rw[aG]at d⊢;obtain⟨na,h1,h2⟩:=d;exact⟨na,cD h h1,aG.mono h a _ h2⟩
 | .asX _ a _,_,d=>by rw[aG]at d⊢;obtain⟨na,h1,h2⟩:=d;exact⟨na,cD h h1,aG.mono h a _ h2⟩
theorem dS.mono(h:ns<+:l8):∀es l,dS ns es l->dS l8 es l
 |[],_,d=>by rw[dS]at d⊢;exact d
 |e::es,_,d=>by rw[dS]at d⊢;obtain⟨n,t,h1,h2,h3⟩:=d;exact⟨n,t,h1,aG.mono h e _ h2,dS.mono h es _ h3⟩
theorem eA.mono(h:ns<+:l8):∀es l,eA ns es l->eA l8 es l
 |[],_,d=>by rw[eA]at d⊢;exact d
 |(_,_,e)::es,_,d=>by rw[eA]at d⊢;obtain⟨n,a,t,h1,h2,h3,h4⟩:=d;exact⟨n,a,t,h1,cD h h2,aG.mono h e _ h3,eA.mono h es _ h4⟩
theorem fM.mono(h:ns<+:l8)(bp:Nat)(l:List Sm)(n:Nat)(d:fM ns bp l n):fM l8 bp l n:=by
 rw[fM]at d⊢;obtain⟨ids,h1,h2⟩:=d;exact⟨ids,cD h h1,eL.mono h l _ h2⟩
theorem eL.mono(h:ns<+:l8):∀es l,eL ns es l->eL l8 es l
 |[],_,d=>by rw[eL]at d⊢;exact d
 |e::es,_,d=>by rw[eL]at d⊢;obtain⟨n,t,h1,h2,h3⟩:=d;exact⟨n,t,h1,bK.mono h e _ h2,eL.mono h es _ h3⟩
theorem bK.mono(h:ns<+:l8):∀e n,bK ns e n->bK l8 e n
 | .fZ _ _ _ a,_,d=>by rw[bK]at d⊢;obtain⟨na,h1,h2⟩:=d;exact⟨na,cD h h1,aG.mono h a _ h2⟩
 | .set _ _ a,_,d=>by rw[bK]at d⊢;obtain⟨na,h1,h2⟩:=d;exact⟨na,cD h h1,aG.mono h a _ h2⟩
 | .put _ a _ v,_,d=>by rw[bK]at d⊢;obtain⟨na,nb,h1,h2,h3⟩:=d;exact⟨na,nb,cD h h1,aG.mono h a _ h2,aG.mono h v _ h3⟩
 | .lay _ a b v,_,d=>by rw[bK]at d⊢;obtain⟨na,nb,nv,h1,h2,h3,h4⟩:=d;exact⟨na,nb,nv,cD h h1,aG.mono h a _ h2,aG.mono h b _ h3,aG.mono h v _ h4⟩
 | .print _ a,_,d=>by rw[bK]at d⊢;obtain⟨na,h1,h2⟩:=d;exact⟨na,cD h h1,aG.mono h a _ h2⟩
 | .ret _ a,_,d=>by rw[bK]at d⊢;obtain⟨na,h1,h2⟩:=d;exact⟨na,cD h h1,aG.mono h a _ h2⟩
 | .oL _ a,_,d=>by rw[bK]at d⊢;obtain⟨na,h1,h2⟩:=d;exact⟨na,cD h h1,aG.mono h a _ h2⟩
 | .if_ _ a bp b none,_,d=>by rw[bK]at d⊢;obtain⟨na,nb,h1,h2,h3⟩:=d;exact⟨na,nb,cD h h1,aG.mono h a _ h2,fM.mono h bp b _ h3⟩
 | .if_ _ a bp b (some (cp,c)),_,d=>by rw[bK]at d⊢;obtain⟨na,nb,nc,h1,h2,h3,h4⟩:=d;exact⟨na,nb,nc,cD h h1,aG.mono h a _ h2,fM.mono h bp b _ h3,fM.mono h cp c _ h4⟩
 | .while_ _ a bp b,_,d=>by rw[bK]at d⊢;obtain⟨na,nb,h1,h2,h3⟩:=d;exact⟨na,nb,cD h h1,aG.mono h a _ h2,fM.mono h bp b _ h3⟩
end
end
end Ty
namespace Ty
theorem cA(ns:List Nd)(nd:Nd): (ns++[nd])[ns.length]?=some nd:=by simp
theorem aX(ns:List Nd)(nd:Nd):ns<+:ns++[nd]:=List.prefix_append _ _
theorem sY:∀(ps:List Par)(ns:List Nd),ns<+: (gY ps ns).1/\iy (gY ps ns).1 ps (gY ps ns).2
 |[],ns=>⟨List.prefix_rfl,rfl⟩
 |q::ps,ns=>by
  obtain⟨h1,h2⟩:=sY ps (ns++[{af 16 q.pos with text:=q.text,ty:=q.ty}]);exact⟨(aX _ _).trans h1,_,_,rfl,cD h1 (cA _ _),h2⟩
mutual
theorem bW:∀(e:Ex)(ns:List Nd),ns<+: (aF e ns).1/\aG (aF e ns).1 e (aF e ns).2
 | .num _ _,ns=>by rw[aF,aG];exact⟨aX _ _,cA _ _⟩
 | .text _ _,ns=>by rw[aF,aG];exact⟨aX _ _,cA _ _⟩
 | .bool _ _,ns=>by rw[aF,aG];exact⟨aX _ _,cA _ _⟩
 | .null _,ns=>by rw[aF,aG];exact⟨aX _ _,cA _ _⟩
 | .var _ _,ns=>by rw[aF,aG];exact⟨aX _ _,cA _ _⟩
 | .fn p ps ty bp body,ns=>by
  obtain⟨h1,h2⟩:=sY ps ns;obtain⟨h3,h4⟩:=iA bp body (gY ps ns).1
  grind [aF,aG,aX,iy.mono,fM.mono]
 | .call p a l,ns=>by
  obtain⟨h1,h2⟩:=bW a ns;obtain⟨h3,h4⟩:=mK l (aF a ns).1
  grind [aF,aG,aX,aG.mono,dS.mono]
 | .get p a x,ns=>by
  obtain⟨h1,h2⟩:=bW a ns;rw[aF,aG];exact⟨h1.trans (aX _ _),_,cA _ _,aG.mono (aX _ _) _ _ h2⟩
 | .atX p a b,ns=>by
  obtain⟨h1,h2⟩:=bW a ns;obtain⟨h3,h4⟩:=bW b (aF a ns).1;rw[aF,aG];exact⟨(h1.trans h3).trans (aX _ _),_,_,cA _ _,aG.mono (h3.trans (aX _ _)) _ _ h2,aG.mono (aX _ _) _ _ h4⟩
 | .obj p l,ns=>by
  obtain⟨h3,h4⟩:=sG l ns;rw[aF,aG];exact⟨h3.trans (aX _ _),_,cA _ _,eA.mono (aX _ _) _ _ h4⟩
 | .arr p l,ns=>by
  obtain⟨h3,h4⟩:=mK l ns;rw[aF,aG];exact⟨h3.trans (aX _ _),_,cA _ _,dS.mono (aX _ _) _ _ h4⟩
 | .two p x a b,ns=>by
  obtain⟨h1,h2⟩:=bW a ns;obtain⟨h3,h4⟩:=bW b (aF a ns).1;rw[aF,aG];exact⟨(h1.trans h3).trans (aX _ _),_,_,cA _ _,aG.mono (h3.trans (aX _ _)) _ _ h2,aG.mono (aX _ _) _ _ h4⟩
 | .one p x a,ns=>by
  obtain⟨h1,h2⟩:=bW a ns;rw[aF,aG];exact⟨h1.trans (aX _ _),_,cA _ _,aG.mono (aX _ _) _ _ h2⟩
 | .asX p a ty,ns=>by
  obtain⟨h1,h2⟩:=bW a ns;rw[aF,aG];exact⟨h1.trans (aX _ _),_,cA _ _,aG.mono (aX _ _) _ _ h2⟩
theorem mK:∀(l:List Ex)(ns:List Nd),ns<+: (gL l ns).1/\dS (gL l ns).1 l (gL l ns).2
 |[],ns=>by rw[gL,dS];exact⟨List.prefix_rfl,rfl⟩
 |e::l,ns=>by
  obtain⟨h1,h2⟩:=bW e ns;obtain⟨h3,h4⟩:=mK l (aF e ns).1;rw[gL,dS];exact⟨h1.trans h3,_,_,rfl,aG.mono h3 _ _ h2,h4⟩
theorem sG:∀(l:List (Nat×BA×Ex))(ns:List Nd),ns<+: (ir l ns).1/\eA (ir l ns).1 l (ir l ns).2
 |[],ns=>by rw[ir,eA];exact⟨List.prefix_rfl,rfl⟩
 |(p,x,e)::l,ns=>by
  obtain⟨h1,h2⟩:=bW e ns;obtain⟨h3,h4⟩:=sG l ((aF e ns).1++[{af 15 p with text:=x,a:=(aF e ns).2}]);rw[ir,eA];exact⟨(h1.trans (aX _ _)).trans h3,_,_,_,rfl,cD h3 (cA _ _),aG.mono ((aX _ _).trans h3) _ _ h2,h4⟩
theorem iA(bp:Nat)(l:List Sm)(ns:List Nd):ns<+: (dm bp l ns).1/\fM (dm bp l ns).1 bp l (dm bp l ns).2:=by
 obtain⟨h1,h2⟩:=iK l ns;rw[dm,fM];exact⟨h1.trans (aX _ _),_,cA _ _,eL.mono (aX _ _) _ _ h2⟩
theorem iK:∀(l:List Sm)(ns:List Nd),ns<+: (dQ l ns).1/\eL (dQ l ns).1 l (dQ l ns).2
 |[],ns=>by rw[dQ,eL];exact⟨List.prefix_rfl,rfl⟩
 |e::l,ns=>by
  obtain⟨h1,h2⟩:=OZ e ns;obtain⟨h3,h4⟩:=iK l (cN e ns).1;rw[dQ,eL];exact⟨h1.trans h3,_,_,rfl,bK.mono h3 _ _ h2,h4⟩
theorem OZ:∀(e:Sm)(ns:List Nd),ns<+: (cN e ns).1/\bK (cN e ns).1 e (cN e ns).2
 | .fZ _ _ _ a,ns=>by obtain⟨h1,h2⟩:=bW a ns;rw[cN,bK];exact⟨h1.trans (aX _ _),_,cA _ _,aG.mono (aX _ _) _ _ h2⟩
 | .set _ _ a,ns=>by obtain⟨h1,h2⟩:=bW a ns;rw[cN,bK];exact⟨h1.trans (aX _ _),_,cA _ _,aG.mono (aX _ _) _ _ h2⟩
 | .put _ a _ v,ns=>by
  obtain⟨h1,h2⟩:=bW a ns;obtain⟨h3,h4⟩:=bW v (aF a ns).1;rw[cN,bK];exact⟨(h1.trans h3).trans (aX _ _),_,_,cA _ _,aG.mono (h3.trans (aX _ _)) _ _ h2,aG.mono (aX _ _) _ _ h4⟩
 | .lay _ a b v,ns=>by
  obtain⟨h1,h2⟩:=bW a ns;obtain⟨h3,h4⟩:=bW b (aF a ns).1;obtain⟨h5,h6⟩:=bW v (aF b (aF a ns).1).1;rw[cN,bK];exact⟨((h1.trans h3).trans h5).trans (aX _ _),_,_,_,cA _ _,aG.mono ((h3.trans h5).trans (aX _ _)) _ _ h2,aG.mono (h5.trans (aX _ _)) _ _ h4,aG.mono (aX _ _) _ _ h6⟩
 | .print _ a,ns=>by obtain⟨h1,h2⟩:=bW a ns;rw[cN,bK];exact⟨h1.trans (aX _ _),_,cA _ _,aG.mono (aX _ _) _ _ h2⟩
 | .ret _ a,ns=>by obtain⟨h1,h2⟩:=bW a ns;rw[cN,bK];exact⟨h1.trans (aX _ _),_,cA _ _,aG.mono (aX _ _) _ _ h2⟩
 | .oL _ a,ns=>by obtain⟨h1,h2⟩:=bW a ns;rw[cN,bK];exact⟨h1.trans (aX _ _),_,cA _ _,aG.mono (aX _ _) _ _ h2⟩
 | .if_ _ a bp b none,ns=>by
  obtain⟨h1,h2⟩:=bW a ns;obtain⟨h3,h4⟩:=iA bp b (aF a ns).1;rw[cN,bK];exact⟨(h1.trans h3).trans (aX _ _),_,_,cA _ _,aG.mono (h3.trans (aX _ _)) _ _ h2,fM.mono (aX _ _) _ _ _ h4⟩
 | .if_ _ a bp b (some (cp,c)),ns=>by
  obtain⟨h1,h2⟩:=bW a ns;obtain⟨h3,h4⟩:=iA bp b (aF a ns).1;obtain⟨h5,h6⟩:=iA cp c (dm bp b (aF a ns).1).1;rw[cN,bK];exact⟨((h1.trans h3).trans h5).trans (aX _ _),_,_,_,cA _ _,aG.mono ((h3.trans h5).trans (aX _ _)) _ _ h2,fM.mono (h5.trans (aX _ _)) _ _ _ h4,fM.mono (aX _ _) _ _ _ h6⟩
 | .while_ _ a bp b,ns=>by
  obtain⟨h1,h2⟩:=bW a ns;obtain⟨h3,h4⟩:=iA bp b (aF a ns).1;rw[cN,bK];exact⟨(h1.trans h3).trans (aX _ _),_,_,cA _ _,aG.mono (h3.trans (aX _ _)) _ _ h2,fM.mono (aX _ _) _ _ _ h4⟩
end
theorem Kk{s:BA}{pg:Pg}(h:parse s=.ok pg):∃l:List Sm,dm 0 l []=(pg.ns,pg.main)/\fM pg.ns 0 l pg.main:=by
 obtain⟨l,hl⟩:=E4 h;have:=(iA 0 l []).2
 grind
end Ty
namespace Ty
mutual
def eu:Tr->Prop
 | .mk k names parts list of=>(1<=k/\k<=10)/\names.length=parts.length/\(k=8\/k=9->of.length=1)/\(k≠8->k≠9->of=[])/\(k≠7->parts=[])/\(k≠9->k≠10->list=[])/\(parts.length<=1000000/\list.length<=1000000)/\ux parts/\ux list/\ux of
def ux:List Tr->Prop
 |[]=>True
 |t::l=>eu t/\ux l
end
theorem gQ{l:List Tr}(h:ux l):∀t∈l,eu t:=by
 induction l with
 |nil=>intro t ht;simp at ht
 |cons a l ih=>
  rw[ux]at h
  intro t ht;rcases List.mem_cons.1 ht with rfl|ht
  ·exact h.1
  ·exact ih h.2 t ht
theorem Ag{l:List Tr}(h:∀t∈l,eu t):ux l:=by
 induction l with
 |nil=>rw[ux];trivial
 |cons a l ih=>rw[ux];exact⟨h a (by simp),ih λt ht=>h t (by simp[ht])⟩
theorem qF{ts:List Ty}(hw:Wf ts):∀N n,n<N->n<ts.length->eu (den ts n):=by
 intro N;induction N with
 |zero=>intro n h;omega
 |succ N ih=>
  intro n hN hn;have hg:ts[n]?=some ts[n]:=List.getElem?_eq_getElem hn;have oD:=hw n _ hg;rw[nO hw hg,eu];refine⟨oD.kind,by simp,λhk=>by rw[if_pos hk];rfl,λh8 h9=>by rw[if_neg (by omega)],λh7=>by rw[oD.QN h7];rfl,λh9 fs=>by rw[oD.Tn h9 fs];rfl,by simpa using oD.lens,Ag λt ht=>?_,Ag λt ht=>?_,Ag λt ht=>?_⟩
  ·obtain⟨f,hf,rfl⟩:=List.mem_map.1 ht;have:=oD.fields f hf;exact ih _ (by omega) (by omega)
  ·obtain⟨j,hj,rfl⟩:=List.mem_map.1 ht;have:=oD.list j hj;exact ih _ (by omega) (by omega)
  ·split at ht
   ·rename_i hk;simp at ht;subst ht;have:=oD.of hk;exact ih _ (by omega) (by omega)
   ·simp at ht
mutual
def sz:Tr->Nat
 | .mk _ _ p l o=>1+UZ p+UZ l+UZ o
def UZ:List Tr->Nat
 |[]=>0
 |t::l=>sz t+UZ l+1
end
theorem vz{t:Tr}:∀{l:List Tr},t∈l->sz t<UZ l
 |[],h=>by simp at h
 |a::l,h=>by
  rw[UZ];rcases List.mem_cons.1 h with rfl|h
  ·omega
  ·have:=vz h;omega
theorem uT{t:Tr}{l:List Tr}(h:t∈l)(k:Nat)(names:List BA)(parts of:List Tr):sz t<sz (.mk k names parts l of):=by
 have:=vz h;rw[sz];omega
theorem rK{t:Tr}{l:List Tr}(h:t∈l)(k:Nat)(names:List BA)(list of:List Tr):sz t<sz (.mk k names l list of):=by
 have:=vz h;rw[sz];omega
theorem Sb{t:Tr}{l:List Tr}(h:t∈l)(k:Nat)(names:List BA)(parts list:List Tr):sz t<sz (.mk k names parts list l):=by
 have:=vz h;rw[sz];omega
end Ty
end Go.Proofs.YtdlbhiaceheffabGreatDoor
