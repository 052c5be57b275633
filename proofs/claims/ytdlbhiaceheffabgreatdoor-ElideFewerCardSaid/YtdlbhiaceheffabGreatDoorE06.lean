/- Plain: what has which type, by the program's way. No program in sight. -/
import Derived.Test.YtdlbhiaceheffabGreatDoorE05
set_option linter.all false
namespace Go.Proofs.YtdlbhiaceheffabGreatDoor
open Go Go.RowKit Ty Tok
namespace Ty
structure Ck where
 of:Nat->Option Tr
 has:Nat->Option Tr
def jL(k:Nat):Tr:=.mk k [] [] [] []
def dZ(ts:List Ty)(z:Int):Option Tr:=if z<0 then none else some (den ts z.toNat)
def za(t:Option Tr):Tr:=t.getD C8
def cV(ns:List Nd)(n:Nat):Nd:=(ns[n]?).getD (af 0 0)
def GH(pg:Pg)(x:Nd):Tr:=.mk 9 [] [] (x.list.map λp=>za (dZ pg.ts (cV pg.ns p).ty)) [za (dZ pg.ts x.ty)]
def kh(f:Tr)(l:List Tr):Option Tr:=
 if kindOf f=5 then some f
 else if kindOf f=9/\(aL f).length=l.length then(if br (λj=>!fits (l.getD j bM) ((aL f).getD j bM)) l.length then none else some (eP f))
 else none
def PE:BA:=⟨#[108,101,110,103,116,104]⟩
def o6(t:Tr)(x:BA):Option Tr:=
 if kindOf t=5 then some t else if kindOf t=8/\x=PE then some (jL 1)else if kindOf t=7 then part (bY t) (partsOf t) x else none
def iT(t a:Tr):Option Tr:=
 if fits a (jL 1)=true/\(kindOf t=5\/kindOf t=8)then some (if kindOf t=5 then t else eP t)else none
def Tz:BA:=⟨#[61,61]⟩
def NF:BA:=⟨#[43]⟩
def E1:BA:=⟨#[60]⟩
def R4:BA:=⟨#[33]⟩
def N9:BA:=⟨#[116,121,112,101,111,102]⟩
def iG(t:Tr):Bool:=decide (kindOf t=1\/kindOf t=5)
def nG(x:BA)(a b:Tr):Option Tr:=
 if x=Tz then some (jL 2)
 else if x=NF then(if kindOf a=5\/kindOf b=5 then some (jL 5)else if kindOf a=kindOf b/\(kindOf a=1\/kindOf a=3)then some (jL (kindOf a))else none)
 else if iG a&&iG b then some (jL (if x=E1 then 2 else 1))else none
def v8(x:BA)(a:Tr):Option Tr:=
 if x=R4 then some (jL 2)else if x=N9 then some (jL 3)else if iG a then some (jL 1)else none
abbrev stuck:Ft:=(0,0)
def AA(p:Nat)(o:Option Tr):Except Ft Tr:=match o with
 |none=>.error (9,p)
 |some t=>.ok t
def tO(f:Nat->Option Tr)(n:Nat):Tr:=(f n).getD bM
def c8(pg:Pg)(x:Nd):List Nat:=
 if x.kind=7 then x.a::x.list else if x.kind=8\/x.kind=13 then [x.a]else if x.kind=9\/x.kind=12 then [x.a,x.b]
 else if x.kind=11 then x.list else if x.kind=10 then x.list.map λp=>(cV pg.ns p).a else []
def fB(f:Nat->Option Tr)(l:List Nat):Bool:=l.all λn=>(f n).isSome
def lQ(pg:Pg)(tq:Nat->Nat)(s:Ck)(n:Nat)(x:Nd):Except Ft Tr:=
  if x.kind=1 then .ok (jL 1)else if x.kind=2 then .ok (jL 3)else if x.kind=3 then .ok (jL 2)else if x.kind=4 then .ok (jL 4)
  else if x.kind=5 then(match s.has (tq n)with
   |none=>.error stuck
   |some t=>.ok t)
  else if x.kind=6 then .ok (GH pg x)
  else if x.kind=7 then AA x.pos (kh (tO s.of x.a) (x.list.map (tO s.of)))
  else if x.kind=8 then AA x.pos (o6 (tO s.of x.a) x.text)
  else if x.kind=9 then AA x.pos (iT (tO s.of x.a) (tO s.of x.b))
  else if x.kind=11 then .ok (.mk 8 [] [] [] [oU (x.list.map (tO s.of))])
  else if x.kind=10 then .ok (.mk 7 (x.list.map λp=>(cV pg.ns p).text) (x.list.map λp=>tO s.of (cV pg.ns p).a) [] [])
  else if x.kind=12 then AA x.pos (nG x.text (tO s.of x.a) (tO s.of x.b))
  else if x.kind=13 then AA x.pos (v8 x.text (tO s.of x.a))
  else(match dZ pg.ts x.ty with
   |none=>.error stuck
   |some t=>.ok t)
def fD(pg:Pg)(tq:Nat->Nat)(s:Ck)(n:Nat)(x:Nd):Except Ft Tr:=if fB s.of (c8 pg x)then lQ pg tq s n x else .error stuck
def eI(f:Nat->Option Tr)(n:Nat)(t:Tr):Nat->Option Tr:=λk=>if k=n then some t else f k
def yR(pg:Pg)(tq:Nat->Nat)(n:Nat)(x:Nd)(s:Ck):Except Ft Ck:=
 aN (fD pg tq s n x) λt=>if dS t<=300 then .ok {s with of:=eI s.of n t}else .error (2,x.pos)
def dz(x:Nd):List Nat:=
 if x.kind=17\/x.kind=18\/x.kind=24 then [x.a]else if x.kind=19 then [x.a,x.b]else if x.kind=20 then [x.a,x.b,x.c.toNat]else []
def ib(b:Bool)(e p:Nat)(s:Ck):Except Ft Ck:=if b then .ok s else .error (e,p)
def o0(pg:Pg)(tq:Nat->Nat)(bk:List (Option Tr))(n:Nat)(x:Nd)(s:Ck):Except Ft Ck:=
  if x.kind=17 then aN (ib (fits (tO s.of x.a) ((dZ pg.ts x.ty).getD (tO s.of x.a))) 9 x.pos s) λs=>.ok {s with has:=eI s.has n ((dZ pg.ts x.ty).getD (tO s.of x.a))}
  else if x.kind=18 then(match s.has (tq n)with
   |none=>.error stuck
   |some t=>ib (fits (tO s.of x.a) t) 9 x.pos s)
  else if x.kind=19 then aN (AA x.pos (o6 (tO s.of x.a) x.text)) λt=>ib (fits (tO s.of x.b) t) 9 x.pos s
  else if x.kind=20 then aN (AA x.pos (iT (tO s.of x.a) (tO s.of x.b))) λt=>ib (fits (tO s.of x.c.toNat) t) 9 x.pos s
  else if x.kind=24 then(match bk.getLast? with
   |none=>.error (4,x.pos)
   |some none=>.ok s
   |some (some t)=>ib (fits (tO s.of x.a) t) 9 x.pos s)
  else .ok s
def im(pg:Pg)(tq:Nat->Nat)(bk:List (Option Tr))(n:Nat)(x:Nd)(s:Ck):Except Ft Ck:=if fB s.of (dz x)then o0 pg tq bk n x s else .error stuck
def iW(pg:Pg)(tq:Nat->Nat)(n:Nat)(bk:List (Option Tr))(s:Ck):Except Ft Ck:=
 if 1<=(cV pg.ns n).kind/\(cV pg.ns n).kind<=14 then yR pg tq n (cV pg.ns n) s else im pg tq bk n (cV pg.ns n) s
def gN(pg:Pg):List Nat->Ck->Ck
 |[],s=>s
 |p::l,s=>gN pg l {s with has:=eI s.has p (za (dZ pg.ts (cV pg.ns p).ty))}
def Bm(pg:Pg)(x:Nd):Tr:=(dZ pg.ts x.ty).getD (GH pg (cV pg.ns x.a))
def nf(pg:Pg)(n:Nat)(s:Ck):Ck:=if(cV pg.ns (cV pg.ns n).a).kind=6 then{s with has:=eI s.has n (Bm pg (cV pg.ns n))}else s
mutual
def eT(pg:Pg)(tq:Nat->Nat):Ex->Nat->List (Option Tr)->Ck->Except Ft Ck
 | .num ..,a,bk,s=>iW pg tq a bk s
 | .text ..,a,bk,s=>iW pg tq a bk s
 | .bool ..,a,bk,s=>iW pg tq a bk s
 | .null ..,a,bk,s=>iW pg tq a bk s
 | .var ..,a,bk,s=>iW pg tq a bk s
 | .fn _ ps ty _ body,a,bk,s=>aN (j4 pg tq body (a+ps.length) (bk++[dZ pg.ts ty]) (gN pg (eH ps a) s)) λs=>iW pg tq (a+ps.length+aJ body+1) bk s
 | .call _ e l,a,bk,s=>aN (eT pg tq e a bk s) λs=>aN (nX pg tq l (a+ax e) bk s) λs=>iW pg tq (a+ax e+eE l) bk s
 | .get _ e _,a,bk,s=>aN (eT pg tq e a bk s) λs=>iW pg tq (a+ax e) bk s
 | .atX _ e i,a,bk,s=>aN (eT pg tq e a bk s) λs=>aN (eT pg tq i (a+ax e) bk s) λs=>iW pg tq (a+ax e+ax i) bk s
 | .obj _ l,a,bk,s=>aN (oN pg tq l a bk s) λs=>iW pg tq (a+fE l) bk s
 | .arr _ l,a,bk,s=>aN (nX pg tq l a bk s) λs=>iW pg tq (a+eE l) bk s
 | .two _ _ e i,a,bk,s=>aN (eT pg tq e a bk s) λs=>aN (eT pg tq i (a+ax e) bk s) λs=>iW pg tq (a+ax e+ax i) bk s
 | .one _ _ e,a,bk,s=>aN (eT pg tq e a bk s) λs=>iW pg tq (a+ax e) bk s
 | .asX _ e _,a,bk,s=>aN (eT pg tq e a bk s) λs=>iW pg tq (a+ax e) bk s
def nX(pg:Pg)(tq:Nat->Nat):List Ex->Nat->List (Option Tr)->Ck->Except Ft Ck
 |[],_,_,s=>.ok s
 |e::l,a,bk,s=>aN (eT pg tq e a bk s) λs=>nX pg tq l (a+ax e) bk s
def oN(pg:Pg)(tq:Nat->Nat):List (Nat×BA×Ex)->Nat->List (Option Tr)->Ck->Except Ft Ck
 |[],_,_,s=>.ok s
 |(_,_,e)::l,a,bk,s=>aN (aN (eT pg tq e a bk s) λs=>iW pg tq (a+ax e) bk s) λs=>oN pg tq l (a+ax e+1) bk s
def j4(pg:Pg)(tq:Nat->Nat):List Sm->Nat->List (Option Tr)->Ck->Except Ft Ck
 |[],_,_,s=>.ok s
 |e::l,a,bk,s=>aN (jI pg tq e a bk s) λs=>j4 pg tq l (a+da e) bk s
def jI(pg:Pg)(tq:Nat->Nat):Sm->Nat->List (Option Tr)->Ck->Except Ft Ck
 | .jR _ _ _ e,a,bk,s=>aN (eT pg tq e a bk (nf pg (a+ax e) s)) λs=>iW pg tq (a+ax e) bk s
 | .set _ _ e,a,bk,s=>aN (eT pg tq e a bk s) λs=>iW pg tq (a+ax e) bk s
 | .put _ e _ v,a,bk,s=>aN (eT pg tq e a bk s) λs=>aN (eT pg tq v (a+ax e) bk s) λs=>iW pg tq (a+ax e+ax v) bk s
 | .lay _ e i v,a,bk,s=>aN (eT pg tq e a bk s) λs=>aN (eT pg tq i (a+ax e) bk s) λs=>aN (eT pg tq v (a+ax e+ax i) bk s) λs=>iW pg tq (a+ax e+ax i+ax v) bk s
 | .print _ e,a,bk,s=>aN (eT pg tq e a bk s) λs=>iW pg tq (a+ax e) bk s
 | .ret _ e,a,bk,s=>aN (eT pg tq e a bk s) λs=>iW pg tq (a+ax e) bk s
 | .u9 _ e,a,bk,s=>aN (eT pg tq e a bk s) λs=>iW pg tq (a+ax e) bk s
 | .if_ _ e _ b none,a,bk,s=>aN (eT pg tq e a bk s) λs=>aN (j4 pg tq b (a+ax e) bk s) λs=>iW pg tq (a+ax e+aJ b+1) bk s
 | .if_ _ e _ b (some (_,c)),a,bk,s=>aN (eT pg tq e a bk s) λs=>aN (j4 pg tq b (a+ax e) bk s) λs=>aN (j4 pg tq c (a+ax e+aJ b+1) bk s) λs=>iW pg tq (a+ax e+aJ b+1+aJ c+1) bk s
 | .while_ _ e _ b,a,bk,s=>aN (eT pg tq e a bk s) λs=>aN (j4 pg tq b (a+ax e) bk s) λs=>iW pg tq (a+ax e+aJ b+1) bk s
end
def Ic(pg:Pg)(tq:Nat->Nat)(l:List Sm):Except Ft Ck:=j4 pg tq l 0 [] ⟨λ_=>none,λ_=>none⟩
end Ty
namespace Ty
structure Fine(t:Tr):Prop where
 ok:dX t
 uI:jM t
 short:fS t
mutual
theorem Bj:∀t:Tr,fS t->∀x∈ey t,fS x
 | .mk k n p l o,h,x,hx=>by
  rw[ey]at hx
  split at hx
  ·rw[fS]at h
   exact nW l h.2.2.1 x hx
  ·simp at hx;subst hx;exact h
theorem nW:∀l:List Tr,di l->∀x∈bQ l,fS x
 |[],_,x,hx=>by simp[bQ]at hx
 |t::l,h,x,hx=>by
  rw[di]at h
  rw[bQ,List.mem_append]at hx
  rcases hx with hx|hx
  ·exact Bj t h.1 x hx
  ·exact nW l h.2 x hx
end
theorem gG{k:Nat}(h:1<=k/\k<=7):Fine (jL k):=by
 refine⟨?_,?_,?_⟩
 ·rw[jL,dX];exact⟨by omega,by simp,by omega,by simp,by simp,by simp,by simp,by rw[pr];trivial,by rw[pr];trivial,by rw[pr];trivial⟩
 ·rw[jL,jM];exact⟨by omega,by rw[ie];trivial,by rw[ie];trivial,by rw[ie];trivial⟩
 ·rw[jL,fS];exact⟨by simp,by rw[di];trivial,by rw[di];trivial,by rw[di];trivial⟩
theorem j7(k:Nat):dS (jL k)=1:=by simp[jL,dS,bJ]
theorem qg{m:Nat}:∀{l:List Tr},(∀t∈l,dS t<=m)->bJ l<=m*l.length
 |[],_=>by simp[bJ]
 |t::l,h=>by
  have h1:=h t (by simp);have h2:=qg (m:=m) (l:=l) λx hx=>h x (by simp[hx])
  rw[bJ,List.length_cons,Nat.mul_succ];omega
theorem nA{l:List Tr}(h:∀t∈l,Fine t):pr l:=vw λt ht=>(h t ht).ok
theorem lU{l:List Tr}(h:∀t∈l,Fine t):ie l:=tE λt ht=>(h t ht).uI
theorem kV{l:List Tr}(h:∀t∈l,Fine t):di l:=Gm λt ht=>(h t ht).short
theorem FD{l:List Tr}(h:∀t∈l,Fine t)(hc:bJ l<=900000):Fine (oU l)/\dS (oU l)<=bJ l+1:=by
 have c1:=q_ l;have c2:=Dr (bQ l);have hm:∀x∈dt (bQ l),Fine x:=λx hx=>by
  have h1:=ua _ x hx;exact⟨(qE l (nA h) x h1).1,qV l (lU h) x h1,nW l (kV h) x h1⟩
 rcases Am l with hj|⟨x,hx,hj⟩|⟨h2,hj⟩
 ·rw[hj];exact⟨gG (k:=5) (by omega),by have:=j7 5;unfold jL at this;unfold C8;omega⟩
 ·rw[hj];refine⟨hm x (by rw[hx];simp),?_⟩;rw[hx]at c2
  simp only[bJ]at c2;omega
 ·rw[hj];have hl:=o9 (bQ l);have cu:=jU l;refine⟨⟨?_,?_,?_⟩,?_⟩
  ·rw[dX];refine⟨by simp,by simp,by simp,by simp,by simp,by simp,?_,by rw[pr];trivial,nA hm,by rw[pr];trivial⟩;simp;omega
  ·rw[jM];exact⟨λ_=>h2,by rw[ie];trivial,lU hm,by rw[ie];trivial⟩
  ·rw[fS];exact⟨by simp,by rw[di];trivial,kV hm,by rw[di];trivial⟩
  ·rw[dS];simp only[bJ];omega
theorem yh{t:Tr}(h:Fine t)(hk:kindOf t=8\/kindOf t=9):Fine (eP t)/\dS (eP t)<=dS t:=by
 obtain⟨k,n,p,l,o⟩:=t;obtain⟨h1,h2,h3⟩:=h;rw[dX]at h1;rw[jM]at h2;rw[fS]at h3
 have hl:=h1.2.2.1 hk
 match o,hl,h1,h2,h3 with
 |[x],_,h1,h2,h3=>
  have a1:=h1.2.2.2.2.2.2.2.2.2;rw[pr]at a1;have a2:=h2.2.2.2;rw[ie]at a2;have a3:=h3.2.2.2;rw[di]at a3;refine⟨⟨a1.1,a2.1,a3.1⟩,?_⟩;show dS x<=_;rw[dS];simp only[bJ];omega
theorem mZ{t:Tr}:∀{l:List Tr},t∈l->dS t<=bJ l
 |[],h=>by simp at h
 |a::l,h=>by
  rw[bJ];rcases List.mem_cons.1 h with rfl|h
  ·omega
  ·have:=mZ h;omega
theorem xJ{t u:Tr}(h:Fine t){x:BA}(hp:part (bY t) (partsOf t) x=some u):Fine u/\dS u<=dS t:=by
 obtain⟨k,n,p,l,o⟩:=t;obtain⟨h1,h2,h3⟩:=h;rw[dX]at h1;rw[jM]at h2;rw[fS]at h3
 have hm:u∈p:=pX hp;refine⟨⟨fJ h1.2.2.2.2.2.2.2.1 u hm,nS h2.2.1 u hm,uU h3.2.1 u hm⟩,?_⟩;have:=mZ hm;rw[dS];omega
theorem jP{pg:Pg}(h:PgOk pg){z:Int}(hz:zz z pg.ts){t:Tr}(ht:dZ pg.ts z=some t):Fine t/\dS t<=300:=by
 unfold dZ at ht;split at ht
 ·cases ht
 ·rename_i h0;cases ht;rcases hz with rfl|⟨n,rfl,hn⟩
  ·omega
  ·have a_:=hn.lt;refine⟨⟨Pf h.wf _ _ (Nat.lt_succ_self _) a_,MY h.wf _ _ (Nat.lt_succ_self _) a_,A9 _ (Pw h.wf h.nm _ _ (Nat.lt_succ_self _) a_)⟩,?_⟩;have:=hn.dS;have:=h.SP;show dS (den pg.ts n)<=300;omega
theorem zb{pg:Pg}(h:PgOk pg){z:Int}(hz:zz z pg.ts):Fine (za (dZ pg.ts z))/\dS (za (dZ pg.ts z))<=300:=by
 cases hw:dZ pg.ts z with
 |none=>exact⟨gG (k:=5) (by omega),by have:=j7 5;unfold jL at this;show dS C8<=300;unfold C8;omega⟩
 |some t=>exact jP h hz hw
theorem Ll{pg:Pg}(h:PgOk pg)(n:Nat):zz (cV pg.ns n).ty pg.ts:=by
 unfold cV;cases hn:pg.ns[n]? with
 |none=>exact .inl rfl
 |some nd=>exact(h.ns nd (List.mem_of_getElem? hn)).ty
theorem Km{pg:Pg}(h:PgOk pg)(n:Nat)(hk: (cV pg.ns n).kind=15): (cV pg.ns n).text.size<=20:=by
 unfold cV at hk⊢;cases hn:pg.ns[n]? with
 |none=>rw[hn]at hk;cases hk
 |some nd=>rw[hn]at hk;exact((h.ns nd (List.mem_of_getElem? hn)).name (.inr (.inr ⟨by show 15<=nd.kind;exact Nat.le_of_eq hk.symm,by show nd.kind<=19;exact nT (Nat.le_of_eq hk) (by omega)⟩))).size
theorem ET{pg:Pg}(h:PgOk pg){x:Nd}(hx:zz x.ty pg.ts)(hl:x.list.length<=1200):Fine (GH pg x)/\dS (GH pg x)<=400000:=by
 have h1:=zb h hx;have hm:∀t∈x.list.map (λp=>za (dZ pg.ts (cV pg.ns p).ty)),Fine t/\dS t<=300:=λt ht=>by
  obtain⟨p,_,rfl⟩:=List.mem_map.1 ht;exact zb h (Ll h p)
 have hf:∀t∈x.list.map (λp=>za (dZ pg.ts (cV pg.ns p).ty)),Fine t:=λt ht=>(hm t ht).1
 have hc:=qg (m:=300) λt ht=>(hm t ht).2
 rw[List.length_map]at hc
 unfold GH;refine⟨⟨?_,?_,?_⟩,?_⟩
 ·rw[dX];refine⟨by simp,by simp,by simp,by simp,by simp,by simp,?_,by rw[pr];trivial,nA hf,by rw[pr,pr];exact⟨h1.1.ok,trivial⟩⟩;simp;omega
 ·rw[jM];exact⟨by simp,by rw[ie];trivial,lU hf,by rw[ie,ie];exact⟨h1.1.uI,trivial⟩⟩
 ·rw[fS];exact⟨by simp,by rw[di];trivial,kV hf,by rw[di,di];exact⟨h1.1.short,trivial⟩⟩
 ·rw[dS];simp only[bJ];omega
theorem Ky{l:List Nat}{f:Nat->BA}{g:Nat->Tr}(hl:l.length<=1200)(hf:∀n∈l,(f n).size<=20)(hg:∀n∈l,Fine (g n)/\dS (g n)<=300):Fine (.mk 7 (l.map f) (l.map g) [] [])/\dS (.mk 7 (l.map f) (l.map g) [] [])<=400000:=by
 have hm:∀t∈l.map g,Fine t/\dS t<=300:=λt ht=>by
  obtain⟨p,hp,rfl⟩:=List.mem_map.1 ht;exact hg p hp
 have hq:∀t∈l.map g,Fine t:=λt ht=>(hm t ht).1
 have hc:=qg (m:=300) λt ht=>(hm t ht).2
 rw[List.length_map]at hc
 refine⟨⟨?_,?_,?_⟩,?_⟩
 ·rw[dX];refine⟨by simp,by simp,by simp,by simp,by simp,by simp,?_,nA hq,by rw[pr];trivial,by rw[pr];trivial⟩;simp;omega
 ·rw[jM];exact⟨by simp,lU hq,by rw[ie];trivial,by rw[ie];trivial⟩
 ·rw[fS];refine⟨λn hn=>?_,kV hq,by rw[di];trivial,by rw[di];trivial⟩;obtain⟨p,hp,rfl⟩:=List.mem_map.1 hn;exact hf p hp
 ·rw[dS];simp only[bJ];omega
theorem La{t:Tr}(h:Fine t)(hc:dS t<=399999):Fine (.mk 8 [] [] [] [t])/\dS (.mk 8 [] [] [] [t])<=400000:=by
 refine⟨⟨?_,?_,?_⟩,?_⟩
 ·rw[dX];exact⟨by simp,by simp,by simp,by simp,by simp,by simp,by simp,by rw[pr];trivial,by rw[pr];trivial,by rw[pr,pr];exact⟨h.ok,trivial⟩⟩
 ·rw[jM];exact⟨by simp,by rw[ie];trivial,by rw[ie];trivial,by rw[ie,ie];exact⟨h.uI,trivial⟩⟩
 ·rw[fS];exact⟨by simp,by rw[di];trivial,by rw[di];trivial,by rw[di,di];exact⟨h.short,trivial⟩⟩
 ·rw[dS];simp only[bJ];omega
structure FineS(s:Ck):Prop where
 of:∀n t,s.of n=some t->Fine t/\dS t<=300
 has:∀n t,s.has n=some t->Fine t/\dS t<=400000
theorem FineS.nil:FineS ⟨λ_=>none,λ_=>none⟩:=⟨λn t h=>(by cases h),λn t h=>(by cases h)⟩
theorem FineS.setOf{s:Ck}(h:FineS s)(n:Nat){t:Tr}(ht:Fine t/\dS t<=300):FineS {s with of:=eI s.of n t}:=by
 refine⟨λm u hu=>?_,h.has⟩;simp only[eI]at hu;split at hu
 ·cases hu;exact ht
 ·exact h.of m u hu
theorem FineS.xR{s:Ck}(h:FineS s)(n:Nat){t:Tr}(ht:Fine t/\dS t<=400000):FineS {s with has:=eI s.has n t}:=by
 refine⟨h.of,λm u hu=>?_⟩;simp only[eI]at hu;split at hu
 ·cases hu;exact ht
 ·exact h.has m u hu
theorem cn{f:Nat->Option Tr}{l:List Nat}(h:fB f l=true){n:Nat}(hn:n∈l):f n=some (tO f n):=by
 unfold fB at h;rw[List.all_eq_true]at h
 have:=h n hn;unfold tO;cases hf:f n with
 |none=>rw[hf]at this;cases this
 |some t=>rfl
theorem rO{p:Nat}{o:Option Tr}{t:Tr}(h:AA p o=.ok t):o=some t:=by
 cases o with
 |none=>cases h
 |some u=>cases h;rfl
theorem zA{t u:Tr}(h:Fine t){x:BA}(hg:o6 t x=some u):Fine u/\dS u<=dS t:=by
 unfold o6 at hg;split at hg
 ·cases hg;exact⟨h,nR _⟩
 ·split at hg
  ·cases hg;exact⟨gG (by omega),by rw[j7];exact Ee t⟩
  ·split at hg
   ·exact xJ h hg
   ·cases hg
theorem um{t a u:Tr}(h:Fine t)(hg:iT t a=some u):Fine u/\dS u<=dS t:=by
 unfold iT at hg;split at hg
 ·rename_i hc;split at hg
  ·cases hg;exact⟨h,nR _⟩
  ·rename_i h5;cases hg;exact yh h (.inl (by rcases hc.2 with h|h;exact absurd h h5;exact h))
 ·cases hg
theorem G_{t u:Tr}(h:Fine t){l:List Tr}(hg:kh t l=some u):Fine u/\dS u<=dS t:=by
 unfold kh at hg;split at hg
 ·cases hg;exact⟨h,nR _⟩
 ·split at hg
  ·rename_i hc;split at hg
   ·cases hg
   ·cases hg;exact yh h (.inr hc.1)
  ·cases hg
theorem Jm{a b u:Tr}{x:BA}(hg:nG x a b=some u):Fine u/\dS u<=300:=by
 unfold nG at hg;split at hg
 ·cases hg;exact⟨gG (by omega),by rw[j7];omega⟩
 ·split at hg
  ·split at hg
   ·cases hg;exact⟨gG (by omega),by rw[j7];omega⟩
   ·split at hg
    ·rename_i h;cases hg;exact⟨gG (by omega),by rw[j7];omega⟩
    ·cases hg
  ·split at hg
   ·cases hg;exact⟨gG (by split<;>omega),by rw[j7];omega⟩
   ·cases hg
theorem KP{a u:Tr}{x:BA}(hg:v8 x a=some u):Fine u/\dS u<=300:=by
 unfold v8 at hg;split at hg
 ·cases hg;exact⟨gG (by omega),by rw[j7];omega⟩
 ·split at hg
  ·cases hg;exact⟨gG (by omega),by rw[j7];omega⟩
  ·split at hg
   ·cases hg;exact⟨gG (by omega),by rw[j7];omega⟩
   ·cases hg
end Ty
namespace Ty
structure NdIn(pg:Pg)(x:Nd):Prop where
 ty:zz x.ty pg.ts
 len:x.list.length<=1200
 obj:x.kind=10->∀p∈x.list,(cV pg.ns p).kind=15
 asX:x.kind=14->0<=x.ty
theorem EL{pg:Pg}(hP:PgOk pg){tq:Nat->Nat}{s:Ck}(hs:FineS s){n:Nat}{x:Nd}(hx:NdIn pg x){t:Tr}(h:fD pg tq s n x=.ok t):Fine t/\dS t<=400000:=by
 unfold fD at h;by_cases hk:fB s.of (c8 pg x)=true;rotate_left
 ·rw[if_neg hk]at h;cases h
 rw[if_pos hk]at h
 unfold lQ at h;have t_:∀{m:Nat},m∈c8 pg x->Fine (tO s.of m)/\dS (tO s.of m)<=300:=λhm=>hs.of _ _ (cn hk hm)
 have hw:∀{u:Tr},Fine u/\dS u<=300->Fine u/\dS u<=400000:=λh=>⟨h.1,nT h.2 (by omega)⟩
 have wg:∀{k:Nat},1<=k/\k<=7->Fine (jL k)/\dS (jL k)<=400000:=λh=>⟨gG h,by rw[j7];omega⟩
 have D0:∀{u v:Tr},dS u<=300->Fine v/\dS v<=dS u->Fine v/\dS v<=400000:=λh g=>⟨g.1,by have:=g.2;omega⟩
 by_cases h1:x.kind=1
 ·rw[if_pos h1]at h
  cases h;exact wg (by omega)
 rw[if_neg h1]at h
 by_cases h2:x.kind=2
 ·rw[if_pos h2]at h
  cases h;exact wg (by omega)
 rw[if_neg h2]at h
 by_cases h3:x.kind=3
 ·rw[if_pos h3]at h
  cases h;exact wg (by omega)
 rw[if_neg h3]at h
 by_cases h4:x.kind=4
 ·rw[if_pos h4]at h
  cases h;exact wg (by omega)
 rw[if_neg h4]at h
 by_cases h5:x.kind=5
 ·rw[if_pos h5]at h
  split at h
  ·cases h
  ·rename_i u hu;cases h;exact hs.has _ _ hu
 rw[if_neg h5]at h
 by_cases h6:x.kind=6
 ·rw[if_pos h6]at h
  cases h;exact ET hP hx.ty hx.len
 rw[if_neg h6]at h
 by_cases h7:x.kind=7
 ·rw[if_pos h7]at h
  have ha:=t_ (m:=x.a) (by unfold c8;rw[if_pos h7];simp);exact D0 ha.2 (G_ ha.1 (rO h))
 rw[if_neg h7]at h
 by_cases h8:x.kind=8
 ·rw[if_pos h8]at h
  have ha:=t_ (m:=x.a) (by unfold c8;rw[if_neg (by omega),if_pos (.inl h8)];simp);exact D0 ha.2 (zA ha.1 (rO h))
 rw[if_neg h8]at h
 by_cases h9:x.kind=9
 ·rw[if_pos h9]at h
  have ha:=t_ (m:=x.a) (by unfold c8;rw[if_neg (by omega),if_neg (by omega),if_pos (.inl h9)];simp);exact D0 ha.2 (um ha.1 (rO h))
 rw[if_neg h9]at h
 by_cases jE:x.kind=11
 ·rw[if_pos jE]at h
  cases h;have hm:∀t∈x.list.map (tO s.of),Fine t/\dS t<=300:=λt ht=>by
   obtain⟨p,hp,rfl⟩:=List.mem_map.1 ht;exact t_ (by unfold c8;rw[if_neg (by omega),if_neg (by omega),if_neg (by omega),if_pos jE];exact hp)
  have hc:=qg (m:=300) λt ht=>(hm t ht).2
  rw[List.length_map]at hc
  have:=hx.len;have hj:=FD (λt ht=>(hm t ht).1) (by omega);exact La hj.1 (by omega)
 rw[if_neg jE]at h
 by_cases dG:x.kind=10
 ·rw[if_pos dG]at h
  cases h;exact Ky hx.len (λp hp=>Km hP p (hx.obj dG p hp)) λp hp=>t_ (by unfold c8;rw[if_neg (by omega),if_neg (by omega),if_neg (by omega),if_neg (by omega),if_pos dG];exact List.mem_map.2 ⟨p,hp,rfl⟩)
 rw[if_neg dG]at h
 by_cases je:x.kind=12
 ·rw[if_pos je]at h
  exact hw (Jm (rO h))
 rw[if_neg je]at h
 by_cases mO:x.kind=13
 ·rw[if_pos mO]at h
  exact hw (KP (rO h))
 rw[if_neg mO]at h
 split at h
 ·cases h
 ·rename_i u hu;cases h;exact hw (jP hP hx.ty hu)
theorem aF{α β:Type}{m:Except Ft α}{k:α->Except Ft β}{b:β}(h:aN m k=.ok b):∃a,m=.ok a/\k a=.ok b:=by
 cases m with
 |error f=>cases h
 |ok a=>exact⟨a,rfl,h⟩
theorem lH{b:Bool}{e p:Nat}{s s':Ck}(h:ib b e p s=.ok s'):s'=s/\b=true:=by
 unfold ib at h;split at h
 ·rename_i hb;cases h;exact⟨rfl,hb⟩
 ·cases h
theorem C5{pg:Pg}{tq:Nat->Nat}{bk:List (Option Tr)}{s s':Ck}{n:Nat}{x:Nd}(h:im pg tq bk n x s=.ok s'):
  s'=s\/x.kind=17/\fB s.of (dz x)=true/\s'={s with has:=eI s.has n ((dZ pg.ts x.ty).getD (tO s.of x.a))}:=by
 unfold im at h;by_cases hk:fB s.of (dz x)=true;rotate_left
 ·rw[if_neg hk]at h;cases h
 rw[if_pos hk]at h
 unfold o0 at h;split at h
 ·rename_i qX;obtain⟨a,h1,h2⟩:=aF h;obtain⟨rfl,_⟩:=lH h1;cases h2;exact .inr ⟨qX,hk,rfl⟩
 split at h
 ·split at h
  ·cases h
  ·exact .inl (lH h).1
 split at h
 ·obtain⟨a,h1,h2⟩:=aF h;exact .inl (lH h2).1
 split at h
 ·obtain⟨a,h1,h2⟩:=aF h;exact .inl (lH h2).1
 split at h
 ·split at h
  ·cases h
  ·cases h;exact .inl rfl
  ·exact .inl (lH h).1
 ·cases h;exact .inl rfl
theorem zD{pg:Pg}(hP:PgOk pg){x:Nd}(hx:zz x.ty pg.ts)(hl: (cV pg.ns x.a).list.length<=1200):Fine (Bm pg x)/\dS (Bm pg x)<=400000:=by
 unfold Bm;cases hw:dZ pg.ts x.ty with
 |none=>exact ET hP (Ll hP _) hl
 |some t=>have:=jP hP hx hw;exact⟨this.1,by have:=this.2;show dS t<=_;omega⟩
structure Step(a b:Nat)(s s':Ck):Prop where
 of:∀n,n<a\/b<=n->s'.of n=s.of n
 has:∀n,(s.has n).isSome=true->(s'.has n).isSome=true
 out:∀n,n<a\/b<=n->s'.has n=s.has n
theorem Step.refl(a b:Nat)(s:Ck):Step a b s s:=⟨λ_ _=>rfl,λ_ h=>h,λ_ _=>rfl⟩
theorem Step.trans{a b c:Nat}{s s1 s2:Ck}(h:Step a b s s1)(g:Step b c s1 s2)(rQ:a<=b)(OY:b<=c):Step a c s s2:=
 ⟨λn hn=>(g.of n (by omega)).trans (h.of n (by omega)),λn hn=>g.has n (h.has n hn),λn hn=>(g.out n (by omega)).trans (h.out n (by omega))⟩
theorem Step.mono{a b a' b':Nat}{s s1:Ck}(h:Step a b s s1)(ha:a'<=a)(hb:b<=b'):Step a' b' s s1:=⟨λn hn=>h.of n (by omega),h.has,λn hn=>h.out n (by omega)⟩
theorem kT(s:Ck)(n:Nat)(t:Tr):Step n (n+1) s {s with has:=eI s.has n t}:=
 ⟨λ_ _=>rfl,λm hm=>by show(eI s.has n t m).isSome=true;unfold eI;split;rfl;exact hm,λm hm=>by show eI s.has n t m= _;unfold eI;rw[if_neg (by omega)]⟩
theorem Dp(s:Ck)(n:Nat)(t:Tr):Step n (n+1) s {s with of:=eI s.of n t}:=
 ⟨λm hm=>by show eI s.of n t m= _;unfold eI;rw[if_neg (by omega)],λm hm=>hm,λ_ _=>rfl⟩
theorem mD{pg:Pg}{tq:Nat->Nat}{s s':Ck}{n:Nat}{x:Nd}(h:yR pg tq n x s=.ok s'):∃t,fD pg tq s n x=.ok t/\dS t<=300/\s'={s with of:=eI s.of n t}:=by
 unfold yR at h;obtain⟨t,h1,h2⟩:=aF h;split at h2
 ·rename_i hc;cases h2;exact⟨t,h1,hc,rfl⟩
 ·cases h2
theorem uE{pg:Pg}:∀(l:List Par)(a:Nat)(s:Ck),Step a (a+l.length) s (gN pg (eH l a) s)
 |[],a,s=>Step.refl _ _ _
 |q::l,a,s=>by
  have h:=uE (pg:=pg) l (a+1) {s with has:=eI s.has a (za (dZ pg.ts (cV pg.ns a).ty))};rw[eH,gN,List.length_cons,show a+(l.length+1)=a+1+l.length by omega];exact(kT s a _).trans h (by omega) (by omega)
end Ty
namespace Ty
mutual
theorem bS:∀(e:Ex)(a:Nat)(frs:List Frm)(v v':Vg),bP e a frs v=.ok v'->∀p∈v.out,p∈v'.out
 | .num ..,a,frs,v,v',h=>by rw[bP]at h;cases h;exact λp h=>h
 | .text ..,a,frs,v,v',h=>by rw[bP]at h;cases h;exact λp h=>h
 | .bool ..,a,frs,v,v',h=>by rw[bP]at h;cases h;exact λp h=>h
 | .null ..,a,frs,v,v',h=>by rw[bP]at h;cases h;exact λp h=>h
 | .var p x,a,frs,v,v',h=>by
  rw[bP]at h
  unfold kF at h;split at h
  ·cases h
  ·cases h;exact λp h=>by simp[h]
 | .fn _ ps _ _ body,a,frs,v,v',h=>by
  rw[bP]at h
  obtain⟨r,h1,h2⟩:=aF h;cases h2;have hd:∀(ps:List Par)(a:Nat)(fr:Frm)(v:Vg),(gu ps a fr v).2.out=v.out:=by
   intro ps;induction ps with
   |nil=>intro a fr v;rfl
   |cons q ps ih=>intro a fr v;exact ih (a+1) _ _
  intro p hp;exact eK body _ _ _ _ _ h1 p (by rw[hd];exact hp)
 | .call _ e l,a,frs,v,v',h=>by
  rw[bP]at h
  obtain⟨r,h1,h2⟩:=aF h;exact λp hp=>lG l _ _ _ _ h2 p (bS e _ _ _ _ h1 p hp)
 | .get _ e _,a,frs,v,v',h=>by rw[bP]at h;exact bS e _ _ _ _ h
 | .atX _ e i,a,frs,v,v',h=>by
  rw[bP]at h
  obtain⟨r,h1,h2⟩:=aF h;exact λp hp=>bS i _ _ _ _ h2 p (bS e _ _ _ _ h1 p hp)
 | .obj _ l,a,frs,v,v',h=>by rw[bP]at h;exact rE l _ _ _ _ h
 | .arr _ l,a,frs,v,v',h=>by rw[bP]at h;exact lG l _ _ _ _ h
 | .two _ _ e i,a,frs,v,v',h=>by
  rw[bP]at h
  obtain⟨r,h1,h2⟩:=aF h;exact λp hp=>bS i _ _ _ _ h2 p (bS e _ _ _ _ h1 p hp)
 | .one _ _ e,a,frs,v,v',h=>by rw[bP]at h;exact bS e _ _ _ _ h
 | .asX _ e _,a,frs,v,v',h=>by rw[bP]at h;exact bS e _ _ _ _ h
theorem lG:∀(l:List Ex)(a:Nat)(frs:List Frm)(v v':Vg),iP l a frs v=.ok v'->∀p∈v.out,p∈v'.out
 |[],a,frs,v,v',h=>by rw[iP]at h;cases h;exact λp h=>h
 |e::l,a,frs,v,v',h=>by
  rw[iP]at h
  obtain⟨r,h1,h2⟩:=aF h;exact λp hp=>lG l _ _ _ _ h2 p (bS e _ _ _ _ h1 p hp)
theorem rE:∀(l:List (Nat×BA×Ex))(a:Nat)(frs:List Frm)(v v':Vg),jv l a frs v=.ok v'->∀p∈v.out,p∈v'.out
 |[],a,frs,v,v',h=>by rw[jv]at h;cases h;exact λp h=>h
 |(_,_,e)::l,a,frs,v,v',h=>by
  rw[jv]at h
  obtain⟨r,h1,h2⟩:=aF h;exact λp hp=>rE l _ _ _ _ h2 p (bS e _ _ _ _ h1 p hp)
theorem eK:∀(l:List Sm)(a:Nat)(fr:Frm)(frs:List Frm)(v:Vg)(r:Frm×Vg),fw l a fr frs v=.ok r->∀p∈v.out,p∈r.2.out
 |[],a,fr,frs,v,r,h=>by rw[fw]at h;cases h;exact λp h=>h
 |e::l,a,fr,frs,v,r,h=>by
  rw[fw]at h
  obtain⟨q,h1,h2⟩:=aF h;exact λp hp=>eK l _ _ _ _ _ h2 p (Lf e _ _ _ _ _ h1 p hp)
theorem Lf:∀(e:Sm)(a:Nat)(fr:Frm)(frs:List Frm)(v:Vg)(r:Frm×Vg),dC e a fr frs v=.ok r->∀p∈v.out,p∈r.2.out
 | .jR p x _ e,a,fr,frs,v,r,h=>by
  rw[dC]at h
  split at h
  ·cases h
  ·split at h
   ·obtain⟨q,h1,h2⟩:=aF h;cases h2;exact λp hp=>bS e _ _ _ _ h1 p hp
   ·obtain⟨q,h1,h2⟩:=aF h;cases h2;exact λp hp=>bS e _ _ _ _ h1 p hp
 | .set p x e,a,fr,frs,v,r,h=>by
  rw[dC]at h
  obtain⟨q,h1,h2⟩:=aF h;obtain⟨q2,h3,h4⟩:=aF h2;cases h4;intro p hp;refine bS e _ _ _ _ h3 p ?_;unfold kF at h1;split at h1
  ·cases h1
  ·cases h1;simp[hp]
 | .put _ e _ w,a,fr,frs,v,r,h=>by
  rw[dC]at h
  obtain⟨q,h1,h2⟩:=aF h;obtain⟨q2,h3,h4⟩:=aF h2;cases h4;exact λp hp=>bS w _ _ _ _ h3 p (bS e _ _ _ _ h1 p hp)
 | .lay _ e i w,a,fr,frs,v,r,h=>by
  rw[dC]at h
  obtain⟨q,h1,h2⟩:=aF h;obtain⟨q2,h3,h4⟩:=aF h2;obtain⟨q3,h5,h6⟩:=aF h4;cases h6;exact λp hp=>bS w _ _ _ _ h5 p (bS i _ _ _ _ h3 p (bS e _ _ _ _ h1 p hp))
 | .print _ e,a,fr,frs,v,r,h=>by
  rw[dC]at h
  obtain⟨q,h1,h2⟩:=aF h;cases h2;exact bS e _ _ _ _ h1
 | .ret _ e,a,fr,frs,v,r,h=>by
  rw[dC]at h
  obtain⟨q,h1,h2⟩:=aF h;cases h2;exact bS e _ _ _ _ h1
 | .u9 _ e,a,fr,frs,v,r,h=>by
  rw[dC]at h
  obtain⟨q,h1,h2⟩:=aF h;cases h2;exact bS e _ _ _ _ h1
 | .if_ _ e _ b none,a,fr,frs,v,r,h=>by
  rw[dC]at h
  obtain⟨q,h1,h2⟩:=aF h;obtain⟨q2,h3,h4⟩:=aF h2;cases h4;exact λp hp=>eK b _ _ _ _ _ h3 p (bS e _ _ _ _ h1 p hp)
 | .if_ _ e _ b (some (_,c)),a,fr,frs,v,r,h=>by
  rw[dC]at h
  obtain⟨q,h1,h2⟩:=aF h;obtain⟨q2,h3,h4⟩:=aF h2;obtain⟨q3,h5,h6⟩:=aF h4;cases h6;exact λp hp=>eK c _ _ _ _ _ h5 p (eK b _ _ _ _ _ h3 p (bS e _ _ _ _ h1 p hp))
 | .while_ _ e _ b,a,fr,frs,v,r,h=>by
  rw[dC]at h
  obtain⟨q,h1,h2⟩:=aF h;obtain⟨q2,h3,h4⟩:=aF h2;cases h4;exact λp hp=>eK b _ _ _ _ _ h3 p (bS e _ _ _ _ h1 p hp)
end
def vP(m:Except Ft Ck)(Q:Ck->Prop):Prop:=m≠.error stuck/\∀s',m=.ok s'->Q s'
theorem vP.and{m:Except Ft Ck}{k:Ck->Except Ft Ck}{P Q:Ck->Prop}(h:vP m P)(g:∀s,P s->vP (k s) Q):vP (aN m k) Q:=by
 cases m with
 |error f=>exact⟨λe=>h.1 e,λs' e=>by cases e⟩
 |ok s=>exact g s (h.2 s rfl)
theorem vP.mono{m:Except Ft Ck}{P Q:Ck->Prop}(h:vP m P)(g:∀s,P s->Q s):vP m Q:=⟨h.1,λs e=>g s (h.2 s e)⟩
theorem gw{p:Nat}(o:Option Tr):AA p o≠.error stuck:=by
 cases o with
 |none=>intro e;cases e
 |some t=>intro e;cases e
theorem TV{pg:Pg}{tq:Nat->Nat}{s:Ck}{n:Nat}{x:Nd}(hk:fB s.of (c8 pg x)=true)(h5:x.kind=5->(s.has (tq n)).isSome=true)(zP:x.kind=14->0<=x.ty)(hr:1<=x.kind/\x.kind<=14):vP (yR pg tq n x s) λs'=>Step n (n+1) s s'/\(s'.of n).isSome=true:=by
 have bT:fD pg tq s n x≠.error stuck:=by
  unfold fD;rw[if_pos hk];unfold lQ;by_cases k1:x.kind=1
  ·rw[if_pos k1];intro e;cases e
  rw[if_neg k1];by_cases k2:x.kind=2
  ·rw[if_pos k2];intro e;cases e
  rw[if_neg k2];by_cases k3:x.kind=3
  ·rw[if_pos k3];intro e;cases e
  rw[if_neg k3];by_cases k4:x.kind=4
  ·rw[if_pos k4];intro e;cases e
  rw[if_neg k4];by_cases k5:x.kind=5
  ·rw[if_pos k5];have:=h5 k5;cases hh:s.has (tq n)with
   |none=>rw[hh]at this;cases this
   |some t=>intro e;cases e
  rw[if_neg k5];by_cases k6:x.kind=6
  ·rw[if_pos k6];intro e;cases e
  rw[if_neg k6];by_cases k7:x.kind=7
  ·rw[if_pos k7];exact gw _
  rw[if_neg k7];by_cases k8:x.kind=8
  ·rw[if_pos k8];exact gw _
  rw[if_neg k8];by_cases k9:x.kind=9
  ·rw[if_pos k9];exact gw _
  rw[if_neg k9];by_cases Yf:x.kind=11
  ·rw[if_pos Yf];intro e;cases e
  rw[if_neg Yf];by_cases vS:x.kind=10
  ·rw[if_pos vS];intro e;cases e
  rw[if_neg vS];by_cases TF:x.kind=12
  ·rw[if_pos TF];exact gw _
  rw[if_neg TF];by_cases J8:x.kind=13
  ·rw[if_pos J8];exact gw _
  rw[if_neg J8];have:=zP (by omega);unfold dZ;rw[if_neg (by omega)];intro e;cases e
 refine⟨?_,λs' h=>?_⟩
 ·unfold yR;cases ht:fD pg tq s n x with
  |error f=>
   intro e;rw[ht]at bT
   exact bT (by cases e;rfl)
  |ok t=>
   simp only[aN];split
   ·intro e;cases e
   ·intro e;cases e
 ·obtain⟨t,_,_,rfl⟩:=mD h;exact⟨Dp s n t,by show(eI s.of n t n).isSome=true;unfold eI;rw[if_pos rfl];rfl⟩
theorem gU{b:Bool}{e p:Nat}{s:Ck}(he:e≠0):ib b e p s≠.error stuck:=by
 unfold ib;split
 ·intro h;cases h
 ·intro h;cases h;exact he rfl
theorem Di{α:Type}{m:Except Ft α}{k:α->Except Ft Ck}(h:m≠.error stuck)(g:∀a,k a≠.error stuck):aN m k≠.error stuck:=by
 cases m with
 |error f=>exact λe=>h (by cases e;rfl)
 |ok a=>exact g a
theorem Sb{pg:Pg}{tq:Nat->Nat}{bk:List (Option Tr)}{s:Ck}{n:Nat}{x:Nd}(hk:fB s.of (dz x)=true)(me:x.kind=18->(s.has (tq n)).isSome=true):
  vP (im pg tq bk n x s) λs'=>Step n (n+1) s s'/\(x.kind=17->(s'.has n).isSome=true):=by
 refine⟨?_,λs' h=>?_⟩
 ·unfold im;rw[if_pos hk];unfold o0;by_cases k1:x.kind=17
  ·rw[if_pos k1];exact Di (gU (by omega)) λa e=>by cases e
  rw[if_neg k1];by_cases k2:x.kind=18
  ·rw[if_pos k2];have:=me k2;cases hh:s.has (tq n)with
   |none=>rw[hh]at this;cases this
   |some t=>exact gU (by omega)
  rw[if_neg k2];by_cases k3:x.kind=19
  ·rw[if_pos k3];exact Di (gw _) λa=>gU (by omega)
  rw[if_neg k3];by_cases k4:x.kind=20
  ·rw[if_pos k4];exact Di (gw _) λa=>gU (by omega)
  rw[if_neg k4];by_cases k5:x.kind=24
  ·rw[if_pos k5];split
   ·intro e;cases e
   ·intro e;cases e
   ·exact gU (by omega)
  rw[if_neg k5];intro e;cases e
 ·by_cases k1:x.kind=17
  ·unfold im at h;rw[if_pos hk]at h
   unfold o0 at h;rw[if_pos k1]at h
   obtain⟨a,h1,h2⟩:=aF h;obtain⟨rfl,_⟩:=lH h1;cases h2;exact⟨kT a n _,λ_=>by show(eI a.has n _ n).isSome=true;unfold eI;rw[if_pos rfl];rfl⟩
  ·rcases C5 h with rfl|⟨qX,_⟩
   ·exact⟨Step.refl _ _ _,λh=>absurd h k1⟩
   ·exact absurd qX k1
theorem bw{ns:List Nd}{n:Nat}{x:Nd}(h:ns[n]?=some x):cV ns n=x:=by unfold cV;rw[h];rfl
theorem px{pg:Pg}{tq:Nat->Nat}{bk:List (Option Tr)}{s:Ck}{n:Nat}{x:Nd}(hn:pg.ns[n]?=some x)(hr:1<=x.kind/\x.kind<=14)(hk:fB s.of (c8 pg x)=true)(h5:x.kind=5->(s.has (tq n)).isSome=true)(zP:x.kind=14->0<=x.ty):
  vP (iW pg tq n bk s) λs'=>Step n (n+1) s s'/\(s'.of n).isSome=true:=by
 unfold iW;rw[bw hn,if_pos hr];exact TV hk h5 zP hr
theorem rG{pg:Pg}{tq:Nat->Nat}{bk:List (Option Tr)}{s:Ck}{n:Nat}{x:Nd}(hn:pg.ns[n]?=some x)(hr:15<=x.kind)(hk:fB s.of (dz x)=true)(me:x.kind=18->(s.has (tq n)).isSome=true):
  vP (iW pg tq n bk s) λs'=>Step n (n+1) s s'/\(x.kind=17->(s'.has n).isSome=true):=by
 unfold iW;rw[bw hn,if_neg (by omega)];exact Sb hk me
end Ty
end Go.Proofs.YtdlbhiaceheffabGreatDoor
