/- Plain: the types that checking comes to are well formed and not too great. No program in sight. -/
import Derived.Test.YtdlbhiaceheffabGreatDoorC20
set_option linter.all false
set_option maxRecDepth 100000
set_option maxHeartbeats 2000000
namespace Go.Proofs.YtdlbhiaceheffabGreatDoor
open Go Go.RowKit Ty Tok Prt Tryz Proofs.Tryz
namespace Ty
structure Fine(t:Tr):Prop where
 ok:eu t
 xN:kM t
 short:dX t
mutual
theorem Du:∀t:Tr,dX t->∀x∈eX t,dX x
 | .mk k n p l o,h,x,hx=>by
  rw[eX]at hx
  split at hx
  ·rw[dX]at h
   exact pd l h.2.2.1 x hx
  grind
theorem pd:∀l:List Tr,fq l->∀x∈bN l,dX x
 |[],_,x,hx=>by grind [bN]
 |t::l,h,x,hx=>by
  rw[bN,List.mem_append]at hx
  rcases hx with hx|hx
  ·exact Du t h.1 x hx
  ·exact pd l h.2 x hx
end
theorem nE{k:Nat}(h:1<=k/\k<=7):Fine (rD k):=by
 refine⟨?_,?_,?_⟩
 ·grind [rD,eu,ux]
 ·grind [rD,kM,mj]
 grind [rD,dX,fq]
theorem s_(k:Nat):dK (rD k)=1:=by simp[rD,dK,bu]
theorem rO{m:Nat}:∀{l:List Tr},(∀t∈l,dK t<=m)->bu l<=m*l.length
 |[],_=>by simp[bu]
 |t::l,h=>by
  have h1:=h t (by simp);have h2:=rO (l:=l) λx hx=>h x (by grind)
  rw[bu,List.length_cons,Nat.mul_succ];omega
theorem oV{l:List Tr}(h:∀t∈l,Fine t):ux l:=Ag λt ht=>(h t ht).ok
theorem mW{l:List Tr}(h:∀t∈l,Fine t):mj l:=vf λt ht=>(h t ht).xN
theorem lY{l:List Tr}(h:∀t∈l,Fine t):fq l:=JP λt ht=>(h t ht).short
theorem K0{l:List Tr}(h:∀t∈l,Fine t)(hc:bu l<=900000):Fine (qz l)/\dK (qz l)<=bu l+1:=by
 have c1:=sT l;have c2:=Ek (bN l);have hm:∀x∈dB (bN l),Fine x:=λx hx=>by
  have h1:=vp _ x hx;exact⟨(ri l (oV h) x h1).1,sP l (mW h) x h1,pd l (lY h) x h1⟩
 rcases Cl l with hj|⟨x,hx,hj⟩|⟨h2,hj⟩
 ·rw[hj];exact⟨nE (by omega),by have:=s_ 5;unfold rD at this;unfold Fp;omega⟩
 ·grind [bu]
 ·rw[hj];have hl:=qE (bN l);have gR:=kr l;refine⟨⟨?_,?_,?_⟩,?_⟩
  ·grind [eu,oV]
  ·grind [kM,mW]
  ·grind [dX,lY]
  grind [dK,bu]
theorem Il{t:Tr}(h:Fine t)(hk:kindOf t=8\/kindOf t=9):Fine (gv t)/\dK (gv t)<=dK t:=by
 obtain⟨k,n,p,l,o⟩:=t;obtain⟨h1,h2,h3⟩:=h;have hl:=h1.2.2.1 hk
 match o,hl,h1,h2,h3 with
 |[x],_,h1,h2,h3=>
  have a1:=h1.2.2.2.2.2.2.2.2.2;rw[ux]at a1;have a2:=h2.2.2.2;rw[mj]at a2;have a3:=h3.2.2.2;rw[fq]at a3;refine⟨⟨a1.1,a2.1,a3.1⟩,?_⟩;show dK x<=_
  grind [dK,bu]
theorem pe{t:Tr}:∀{l:List Tr},t∈l->dK t<=bu l
 |[],h=>by grind
 |a::l,h=>by
  rw[bu];rcases List.mem_cons.1 h with rfl|h
  ·omega
  ·have:=pe h;omega
theorem Jo{t u:Tr}(h:Fine t){x:BA}(hp:part (cC t) (partsOf t) x=some u):Fine u/\dK u<=dK t:=by
 obtain⟨k,n,p,l,o⟩:=t;obtain⟨h1,h2,h3⟩:=h;have hm:u∈p:=rV hp;refine⟨⟨gQ h1.2.2.2.2.2.2.2.1 u hm,rR h2.2.1 u hm,lA h3.2.1 u hm⟩,?_⟩;have:=pe hm;rw[dK];omega
theorem rj{pg:Pg}(h:PgOk pg){z:Int}(hz:wh z pg.ts){t:Tr}(ht:l7 pg.ts z=some t):Fine t/\dK t<=300:=by
 unfold l7 at ht;split at ht
 ·cases ht
 ·rename_i h0;cases ht;rcases hz with rfl|⟨n,rfl,hn⟩
  ·omega
  ·have bz:=hn.lt;refine⟨⟨qF h.wf _ _ (Nat.lt_succ_self _) bz,A2 h.wf _ _ (Nat.lt_succ_self _) bz,rM _ (A8 h.wf h.nm _ _ (Nat.lt_succ_self _) bz)⟩,?_⟩;have:=hn.dK;have:=h.Qv
   grind
theorem A_{pg:Pg}(h:PgOk pg){z:Int}(hz:wh z pg.ts):Fine (B7 (l7 pg.ts z))/\dK (B7 (l7 pg.ts z))<=300:=by
 cases hw:l7 pg.ts z with
 |none=>exact⟨nE (by omega),by have:=s_ 5;unfold rD at this;show dK Fp<=300;unfold Fp;omega⟩
 |some t=>exact rj h hz hw
theorem L1{pg:Pg}(h:PgOk pg)(n:Nat):wh (iv pg.ns n).ty pg.ts:=by
 unfold iv;cases hn:pg.ns[n]? with
 |none=>exact .inl rfl
 |some nd=>exact(h.ns nd (List.mem_of_getElem? hn)).ty
theorem OM{pg:Pg}(h:PgOk pg)(n:Nat)(hk: (iv pg.ns n).kind=15): (iv pg.ns n).text.size<=20:=by
 unfold iv at hk⊢;cases hn:pg.ns[n]? with
 |none=>rw[hn]at hk;cases hk
 |some nd=>rw[hn]at hk;exact((h.ns nd (List.mem_of_getElem? hn)).name (.inr (.inr ⟨by grind,by grind⟩))).size
theorem GN{pg:Pg}(h:PgOk pg){x:Nd}(hx:wh x.ty pg.ts)(hl:x.list.length<=1200):Fine (Lw pg x)/\dK (Lw pg x)<=400000:=by
 have h1:=A_ h hx;have hm:∀t∈x.list.map (λp=>B7 (l7 pg.ts (iv pg.ns p).ty)),Fine t/\dK t<=300:=λt ht=>by
  grind [A_,L1]
 have hc:=rO λt ht=>(hm t ht).2
 unfold Lw;refine⟨⟨?_,?_,?_⟩,?_⟩
 ·grind [eu,oV]
 ·grind [kM,mW]
 ·grind [dX,lY]
 grind [dK,bu]
theorem LR{l:List Nat}{f:Nat->BA}{g:Nat->Tr}(hl:l.length<=1200)(hf:∀n∈l,(f n).size<=20)(hg:∀n∈l,Fine (g n)/\dK (g n)<=300):Fine (.mk 7 (l.map f) (l.map g) [] [])/\dK (.mk 7 (l.map f) (l.map g) [] [])<=400000:=by
 have hm:∀t∈l.map g,Fine t/\dK t<=300:=λt ht=>by
  grind
 have hc:=rO λt ht=>(hm t ht).2
 refine⟨⟨?_,?_,?_⟩,?_⟩
 ·grind [eu,oV]
 ·grind [kM,mW]
 ·grind [dX,lY]
 grind [dK,bu]
theorem NY{t:Tr}(h:Fine t)(hc:dK t<=399999):Fine (.mk 8 [] [] [] [t])/\dK (.mk 8 [] [] [] [t])<=400000:=by
 refine⟨⟨?_,?_,?_⟩,?_⟩
 ·rw[eu];exact⟨by simp,by simp,by simp,by simp,by simp,by simp,by simp,by grind [ux],by grind [ux],by rw[ux,ux];exact⟨h.ok,trivial⟩⟩
 ·rw[kM];exact⟨by simp,by grind [mj],by grind [mj],by rw[mj,mj];exact⟨h.xN,trivial⟩⟩
 ·rw[dX];exact⟨by simp,by grind [fq],by grind [fq],by rw[fq,fq];exact⟨h.short,trivial⟩⟩
 grind [dK,bu]
structure FineS(s:Ck):Prop where
 of:∀n t,s.of n=some t->Fine t/\dK t<=300
 has:∀n t,s.has n=some t->Fine t/\dK t<=400000
theorem FineS.nil:FineS ⟨λ_=>none,λ_=>none⟩:=⟨λn t h=>(by cases h),λn t h=>(by cases h)⟩
theorem FineS.setOf{s:Ck}(h:FineS s)(n:Nat){t:Tr}(ht:Fine t/\dK t<=300):FineS {s with of:=iO s.of n t}:=by
 refine⟨λm u hu=>?_,h.has⟩;simp[iO]at hu
 split at hu
 ·grind
 ·exact h.of m u hu
theorem FineS.zZ{s:Ck}(h:FineS s)(n:Nat){t:Tr}(ht:Fine t/\dK t<=400000):FineS {s with has:=iO s.has n t}:=by
 refine⟨h.of,λm u hu=>?_⟩;simp[iO]at hu
 split at hu
 ·grind
 ·exact h.has m u hu
theorem cO{f:Nat->Option Tr}{l:List Nat}(h:ji f l=true){n:Nat}(hn:n∈l):f n=some (tO f n):=by
 unfold ji at h;rw[List.all_eq_true]at h
 have:=h n hn;unfold tO;cases hf:f n with
 |none=>rw[hf]at this;cases this
 |some t=>rfl
theorem vE{p:Nat}{o:Option Tr}{t:Tr}(h:Ox p o=.ok t):o=some t:=by
 cases o with
 |none=>cases h
 |some u=>cases h;rfl
theorem DT{t u:Tr}(h:Fine t){x:BA}(hg:F1 t x=some u):Fine u/\dK u<=dK t:=by
 grind [F1,nE,s_,Hv,Jo]
theorem xE{t a u:Tr}(h:Fine t)(hg:qU t a=some u):Fine u/\dK u<=dK t:=by
 grind [qU,Il]
theorem IX{t u:Tr}(h:Fine t){l:List Tr}(hg:mQ t l=some u):Fine u/\dK u<=dK t:=by
 grind [mQ,Il]
theorem OX{a b u:Tr}{x:BA}(hg:JB x a b=some u):Fine u/\dK u<=300:=by
 grind [JB,nE,s_]
theorem Nh{a u:Tr}{x:BA}(hg:K_ x a=some u):Fine u/\dK u<=300:=by
 grind [K_,nE,s_]
end Ty
namespace Ty
structure NdIn(pg:Pg)(x:Nd):Prop where
 ty:wh x.ty pg.ts
 len:x.list.length<=1200
 obj:x.kind=10->∀p∈x.list,(iv pg.ns p).kind=15
 asX:x.kind=14->0<=x.ty
theorem Rj{pg:Pg}(hP:PgOk pg){tq:Nat->Nat}{s:Ck}(hs:FineS s){n:Nat}{x:Nd}(hx:NdIn pg x){t:Tr}(h:qB pg tq s n x=.ok t):Fine t/\dK t<=400000:=by
 unfold qB at h;by_cases hk:ji s.of (iU pg x)=true;rotate_left
 ·grind
 rw[if_pos hk]at h
 unfold AA at h;have sX:∀{m:Nat},m∈iU pg x->Fine (tO s.of m)/\dK (tO s.of m)<=300:=λhm=>hs.of _ _ (cO hk hm)
 have hw:∀{u:Tr},Fine u/\dK u<=300->Fine u/\dK u<=400000:=λh=>by grind
 have BN:∀{k:Nat},1<=k/\k<=7->Fine (rD k)/\dK (rD k)<=400000:=λh=>by grind [nE,s_]
 have Vs:∀{u v:Tr},dK u<=300->Fine v/\dK v<=dK u->Fine v/\dK v<=400000:=λh g=>⟨g.1,by omega⟩
 by_cases h1:x.kind=1
 ·grind
 rw[if_neg h1]at h
 by_cases h2:x.kind=2
 ·grind
 rw[if_neg h2]at h
 by_cases h3:x.kind=3
 ·grind
 rw[if_neg h3]at h
 by_cases h4:x.kind=4
 ·grind
 rw[if_neg h4]at h
 by_cases h5:x.kind=5
 ·rw[if_pos h5]at h
  split at h
  ·cases h
  ·rename_i u hu;cases h;exact hs.has _ _ hu
 rw[if_neg h5]at h
 by_cases h6:x.kind=6
 ·rw[if_pos h6]at h
  cases h;exact GN hP hx.ty hx.len
 rw[if_neg h6]at h
 by_cases h7:x.kind=7
 ·grind [iU,IX,vE]
 rw[if_neg h7]at h
 by_cases h8:x.kind=8
 ·grind [iU,DT,vE]
 rw[if_neg h8]at h
 by_cases h9:x.kind=9
 ·grind [iU,xE,vE]
 rw[if_neg h9]at h
 by_cases pY:x.kind=11
 ·rw[if_pos pY]at h
  cases h;have hm:∀t∈x.list.map (tO s.of),Fine t/\dK t<=300:=λt ht=>by
   grind [iU]
  have hc:=rO (m:=300) λt ht=>(hm t ht).2
  rw[List.length_map]at hc
  have:=hx.len
  grind [K0,NY]
 rw[if_neg pY]at h
 by_cases fs:x.kind=10
 ·rw[if_pos fs]at h
  cases h;exact LR hx.len (λp hp=>OM hP p (hx.obj fs p hp)) λp hp=>sX (by grind [iU])
 rw[if_neg fs]at h
 by_cases kn:x.kind=12
 ·grind [OX,vE]
 rw[if_neg kn]at h
 by_cases tQ:x.kind=13
 ·grind [Nh,vE]
 rw[if_neg tQ]at h
 split at h
 ·cases h
 ·rename_i u hu;cases h;exact hw (rj hP hx.ty hu)
theorem ck{α β:Type}{m:Except Ft α}{k:α->Except Ft β}{b:β}(h:aK m k=.ok b):∃a,m=.ok a/\k a=.ok b:=by
 cases m with
 |error f=>cases h
 |ok a=>exact⟨a,rfl,h⟩
theorem mO{b:Bool}{e p:Nat}{s s':Ck}(h:jY b e p s=.ok s'):s'=s/\b=true:=by
 grind [jY]
theorem Ti{pg:Pg}{tq:Nat->Nat}{bk:List (Option Tr)}{s s':Ck}{n:Nat}{x:Nd}(h:wV pg tq bk n x s=.ok s'):
  s'=s\/x.kind=17/\ji s.of (oe x)=true/\s'={s with has:=iO s.has n ((l7 pg.ts x.ty).getD (tO s.of x.a))}:=by
 unfold wV at h;by_cases hk:ji s.of (oe x)=true;rotate_left
 ·grind
 rw[if_pos hk]at h
 unfold AZ at h;split at h
 ·rename_i YT;obtain⟨a,h1,h2⟩:=ck h
  grind [mO]
 split at h
 ·grind [mO]
 split at h
 ·obtain⟨a,h1,h2⟩:=ck h
  grind [mO]
 split at h
 ·obtain⟨a,h1,h2⟩:=ck h
  grind [mO]
 split at h
 ·grind [mO]
 ·grind
theorem N2{pg:Pg}(hP:PgOk pg){x:Nd}(hx:wh x.ty pg.ts)(hl: (iv pg.ns x.a).list.length<=1200):Fine (Gy pg x)/\dK (Gy pg x)<=400000:=by
 grind [Gy,l7,GN,L1,rj]
structure Step(a b:Nat)(s s':Ck):Prop where
 of:∀n,n<a\/b<=n->s'.of n=s.of n
 has:∀n,(s.has n).isSome=true->(s'.has n).isSome=true
 out:∀n,n<a\/b<=n->s'.has n=s.has n
theorem Step.refl(a b:Nat)(s:Ck):Step a b s s:=⟨λ_ _=>rfl,λ_ h=>h,λ_ _=>rfl⟩
theorem Step.trans{a b c:Nat}{s s1 s2:Ck}(h:Step a b s s1)(g:Step b c s1 s2)(GJ:a<=b)(Va:b<=c):Step a c s s2:=
 ⟨λn hn=>(g.of n (by omega)).trans (h.of n (by omega)),λn hn=>g.has n (h.has n hn),λn hn=>(g.out n (by omega)).trans (h.out n (by omega))⟩
theorem Step.mono{a b a' b':Nat}{s s1:Ck}(h:Step a b s s1)(ha:a'<=a)(hb:b<=b'):Step a' b' s s1:=⟨λn hn=>h.of n (by omega),h.has,λn hn=>h.out n (by omega)⟩
theorem l_(s:Ck)(n:Nat)(t:Tr):Step n (n+1) s {s with has:=iO s.has n t}:=
 ⟨λ_ _=>rfl,λm hm=>by grind [iO],λm hm=>by grind [iO]⟩
theorem EL(s:Ck)(n:Nat)(t:Tr):Step n (n+1) s {s with of:=iO s.of n t}:=
 ⟨λm hm=>by grind [iO],λm hm=>hm,λ_ _=>rfl⟩
theorem FH{pg:Pg}{tq:Nat->Nat}{s s':Ck}{n:Nat}{x:Nd}(h:FV pg tq n x s=.ok s'):∃t,qB pg tq s n x=.ok t/\dK t<=300/\s'={s with of:=iO s.of n t}:=by
 obtain⟨t,h1,h2⟩:=ck h;split at h2
 ·grind
 ·cases h2
theorem xD{pg:Pg}:∀(l:List Par)(a:Nat)(s:Ck),Step a (a+l.length) s (iI pg (fw l a) s)
 |[],a,s=>Step.refl _ _ _
 |q::l,a,s=>by
  have h:=xD (pg:=pg) l (a+1) {s with has:=iO s.has a (B7 (l7 pg.ts (iv pg.ns a).ty))};rw[fw,iI,List.length_cons,show a+(l.length+1)=a+1+l.length by omega];exact(l_ s a _).trans h (by omega) (by omega)
end Ty
section
open Go.WideElems (Fit rg)
open Ty (Tr Ck)
abbrev Dv:=DataW Value
def Pq(v:Value):Option (Dv×List MemPlace):=some (.held v,[])
def lP(k:TypeId)(b n:Nat)(Φ:Dv->Prop):As:=λh=>∃es clock,h b=some (.map es clock)/\Fit (H:=Value) prog k Pq es clock/\es.size<=n/\Φ (.map ((es.toList.map (rg prog k Pq)).foldr DataW.insert []))
section
variable {w0 w w':World} {L:List As} {k:TypeId} {b n:Nat} {Φ:Dv->Prop}
theorem Prt.Sat.G1(h:Sat w0 w L)(k b:Nat)(hb:b=w.heap.size)(abP:Φ (.map [])):Sat w0 (w.alloc (.map #[] 0)) (L++[lP k b 0 Φ]):=by
 subst hb;refine h.new ((bR _ _).alloc (nR _) _) ⟨λj=>if j=w.heap.size then some (.map #[] 0)else none,⟨#[],0,by simp,⟨by simp,MapKept.stamped_empty 0,by simp⟩,nR _,abP⟩,λj x ex=>?_,λj hj=>?_⟩
 ·dsimp only at ex;split at ex
  ·rename_i hk;subst hk;cases ex;exact heap_alloc_new w _
  ·cases ex
 ·dsimp only;rw[if_neg (by omega)]
theorem Prt.Sat.iC(h:Sat w0 w L)(i:Nat)(hi:L[i]?=some (lP k b n Φ)):∃D:Dv,w.ownsMap prog k Pq b n D/\Φ D:=by
 obtain⟨a,b',_,h2,_,h4,_⟩:=gd h.mem hi;obtain⟨es,clock,g1,g2,g3,g4⟩:=h4;exact⟨_,⟨es,clock,h2 b _ g1,g2,g3,rfl⟩,g4⟩
theorem Prt.Sat.mz(h:Sat w0 w L)(i:Nat)(hi:L[i]?=some (lP k b n Φ)){n':Nat}{D:Dv}{Ψ:Dv->Prop}(hg:w.grownBy w' (some b))(ho:w'.ownsMap prog k Pq b n' D)(aat:Ψ D):Sat w0 w' (L.set i (lP k b n' Ψ)):=by
 obtain⟨es,clock,g1,g2,g3,rfl⟩:=ho;refine h.UM hi hg.os hg.tape hg.output λa ha hl=>⟨λj=>if j=b then some (.map es clock)else none,⟨es,clock,by simp,g2,g3,aat⟩,λj x ex=>?_,λj hj bz=>?_⟩
 ·dsimp only at ex;split at ex
  ·rename_i hk;subst hk;cases ex;exact g1
  ·cases ex
 ·have eR:j≠b:=by
   rintro rfl
   obtain⟨aeZ,c2,e2,_⟩:=ha;rw[hj]at e2;cases e2
  exact⟨by dsimp only;rw[if_neg eR],hg.block j bz (by simpa using eR)⟩
end
def iH(f:Nat->Option Value)(D:Dv):Prop:=Maps.IsMap D/\∀m:Nat,Maps.has D (.int .i64 (m:Nat))=(f m).isSome/\D.atKey (.int .i64 (m:Nat)) (.held (.pointer none))=.held ((f m).getD (.pointer none))
theorem DA:iH (λ_=>none) (.map []):=⟨Maps.isMap_empty,λ_=>⟨rfl,rfl⟩⟩
theorem mx{f:Nat->Option Value}{D:Dv}(h:iH f D)(n:Nat)(p:Value):iH (λk=>if k=n then some p else f k) (D.put (.int .i64 (n:Nat)) (.held p)):=by
 refine⟨h.1.put _ _,λm=>?_⟩;dsimp only;by_cases hx:m=n
 ·subst hx;rw[if_pos rfl,Maps.atKey_put_same h.1 (show WideAt.IsKeyLit (.int _ _)from trivial),Maps.has_put_same h.1 (show WideAt.IsKeyLit (.int _ _)from trivial)];exact⟨rfl,rfl⟩
 ·rw[if_neg hx,Maps.atKey_put_other (jD hx),Maps.has_put_other (jD hx)];exact h.2 m
structure Cx where
 nv:Value
 tv:Value
 main:Int
 I3:Nat
 nt:Nat
 wi:Nat->Option Int
 cav:Value
def Cx.kv(X:Cx)(n:Nat):Nat:=((X.wi n).getD 0).toNat
def WG(wi:Nat->Option Int):Prop:=∀n,0<=(wi n).getD 0/\(wi n).getD 0<=100000
abbrev SE(X:Cx)(ofb hasb:Nat)(bkv:Value):Obj:=.cells #[X.nv,X.tv,.int .i64 X.main,.map (some X.I3),X.cav,.map (some ofb),.map (some hasb),bkv] 106 (0,0)
structure CkW(w:World)(cb:Nat)(X:Cx)(ofb hasb:Nat)(s:Ck)(h0:Prt.Hp):Prop where
 lt:cb<w.heap.size
 le:Prt.le h0 (Prt.hp w)
 c0:w.cell? ⟨cb,0,none⟩=some X.nv
 c1:w.cell? ⟨cb,1,none⟩=some X.tv
 c3:w.cell? ⟨cb,3,none⟩=some (.map (some X.I3))
 c5:w.cell? ⟨cb,5,none⟩=some (.map (some ofb))
 c6:w.cell? ⟨cb,6,none⟩=some (.map (some hasb))
 aa6:∃n D,w.ownsMap prog 3 (plainElem prog 3) X.I3 n D/\cY X.wi D
 of:∃n D fv,w.ownsMap prog 3 Pq ofb n D/\iH fv D/\∀n t,s.of n=some t->∃p,fv n=some p/\rep h0 t p
 has:∃n D fv,w.ownsMap prog 3 Pq hasb n D/\iH fv D/\∀n t,s.has n=some t->∃p,fv n=some p/\rep h0 t p
 oN:FineS s
 wi:WG X.wi
theorem gE{H:Type}{R:Value->Option (DataW H×List MemPlace)}{w w':World}{k:TypeId}{b n:Nat}{D:DataW H}(h:w.ownsMap prog k R b n D)(hb:Below w.heap.size w w'):w'.ownsMap prog k R b n D:=by
 obtain⟨es,clock,g1,g2,g3,g4⟩:=h;exact⟨es,clock,by rw[hb.block b (Array.getElem?_eq_some_iff.1 g1).1];exact g1,g2,g3,g4⟩
theorem xe{w w':World}{h0:Prt.Hp}(h:Prt.le h0 (Prt.hp w))(hb:Below w.heap.size w w'):Prt.le h0 (Prt.hp w'):=λk o e=>by
 have:=h k o e;show w'.heap[k]?= _;rw[hb.block k (Array.getElem?_eq_some_iff.1 this).1];exact this
theorem CkW.below{w w':World}{cb ofb hasb:Nat}{X:Cx}{s:Ck}{h0:Prt.Hp}(h:CkW w cb X ofb hasb s h0)(hb:Below w.heap.size w w'):CkW w' cb X ofb hasb s h0:=by
 obtain⟨n1,D1,g1,g2⟩:=h.aa6;obtain⟨n2,D2,f2,k2,k3,k4⟩:=h.of;obtain⟨n3,D3,f3,l2,l3,l4⟩:=h.has;exact⟨nL h.lt hb.size,xe h.le hb,av hb h.c0,av hb h.c1,av hb h.c3,av hb h.c5,av hb h.c6,⟨n1,D1,gE g1 hb,g2⟩,⟨n2,D2,f2,gE k2 hb,k3,k4⟩,⟨n3,D3,f3,gE l2 hb,l3,l4⟩,h.oN,h.wi⟩
theorem CkW.drew{w:World}{cb ofb hasb:Nat}{X:Cx}{s:Ck}{h0:Prt.Hp}(h:CkW w cb X ofb hasb s h0):CkW w.drew cb X ofb hasb s h0:=h.below (Below.drew (bR _ _))
theorem N_(W:World): (zeroValue 107).run prog W=.ok (.pointer none) W:=by simp[zeroValue,go_sem];rfl
theorem G0(W:World): (zeroValue 3).run prog W=.ok (.int .i64 0) W:=by simp[zeroValue,go_sem];rfl
theorem mS{w:World}{b n m:Nat}{D:Dv}{fv:Nat->Option Value}(h:w.ownsMap prog 3 Pq b n D)(hD:iH fv D)(hm:m<=100000): (Instr.lookup 103 (.map (some b)) (.int .i64 (m:Nat)) false).run prog w=.ok ((fv m).getD (.pointer none)) w:=by
 have oD: (Lit.int .i64 (m:Nat)).wf=true:=WalkArith.wf_i64 (by omega);obtain⟨v,ps,rC,hv⟩:=h.lookup dR underlying103 (N_ w) (zd:=.held (.pointer none)) (zp:=[]) rfl (Maps.keyOf_int_mk underlying3 oD);rw[(hD.2 m).2]at hv
 unfold Pq at hv;simp only[Option.some.injEq,Prod.mk.injEq,DataW.held.injEq]at hv;rw[rC,hv.1]
theorem BG{w:World}{b n m:Nat}{D:Dv}{fv:Nat->Option Value}(h:w.ownsMap prog 3 Pq b n D)(hD:iH fv D)(hm:m<=100000): (Instr.lookup 103 (.map (some b)) (.int .i64 (m:Nat)) true).run prog w=.ok (.tuple #[(fv m).getD (.pointer none),.bool (fv m).isSome]) w:=by
 have oD: (Lit.int .i64 (m:Nat)).wf=true:=WalkArith.wf_i64 (by omega);obtain⟨v,ps,rC,hv⟩:=h.look_ok dR underlying103 (N_ w) (zd:=.held (.pointer none)) (zp:=[]) rfl (Maps.keyOf_int_mk underlying3 oD);rw[(hD.2 m).2]at hv
 unfold Pq at hv;simp only[Option.some.injEq,Prod.mk.injEq,DataW.held.injEq]at hv;rw[rC,hv.1,(hD.2 m).1]
section
variable {w:World} {cb ofb hasb:Nat} {X:Cx} {s:Ck} {h0:Prt.Hp}
theorem CkW.aaM(h:CkW w cb X ofb hasb s h0){n:Nat}{t:Tr}(hn:n<=100000)(ht:s.of n=some t):∃p,(Instr.lookup 103 (.map (some ofb)) (.int .i64 (n:Nat)) false).run prog w=.ok p w/\rep h0 t p:=by
 obtain⟨_,D,fv,k2,k3,k4⟩:=h.of;obtain⟨p,hp,hr⟩:=k4 n t ht;exact⟨p,by rw[mS k2 k3 hn,hp];rfl,hr⟩
theorem CkW.L2(h:CkW w cb X ofb hasb s h0){n:Nat}{t:Tr}(hn:n<=100000)(ht:s.of n=some t):∃p,(∀w':World,Below w.heap.size w w'->(Instr.lookup 103 (.map (some ofb)) (.int .i64 (n:Nat)) false).run prog w'=.ok p w')/\rep h0 t p:=by
 obtain⟨_,D,fv,k2,k3,k4⟩:=h.of;obtain⟨p,hp,hr⟩:=k4 n t ht;exact⟨p,λw' hb=>by rw[mS (gE k2 hb) k3 hn,hp];rfl,hr⟩
theorem CkW.hasAll(h:CkW w cb X ofb hasb s h0){n:Nat}{t:Tr}(hn:n<=100000)(ht:s.has n=some t):∃p,(∀w':World,Below w.heap.size w w'->(Instr.lookup 103 (.map (some hasb)) (.int .i64 (n:Nat)) false).run prog w'=.ok p w')/\rep h0 t p:=by
 obtain⟨_,D,fv,k2,k3,k4⟩:=h.has;obtain⟨p,hp,hr⟩:=k4 n t ht;exact⟨p,λw' hb=>by rw[mS (gE k2 hb) k3 hn,hp];rfl,hr⟩
theorem CkW.Xm(h:CkW w cb X ofb hasb s h0){n:Nat}(hn:n<=100000): (Instr.lookup 102 (.map (some X.I3)) (.int .i64 (n:Nat)) false).run prog w=.ok (.int .i64 (X.kv n:Nat)) w/\X.kv n<=100000:=by
 obtain⟨m,D,h1,h2⟩:=h.aa6;have oD: (Lit.int .i64 (n:Nat)).wf=true:=WalkArith.wf_i64 (by omega);obtain⟨c,rC,sX,_⟩:=h1.lookup_int dR underlying102 underlying3 (G0 w) (Maps.keyOf_int_mk underlying3 oD);rw[h2.2 n]at sX
 simp only[DataW.lit.injEq,Lit.int.injEq,true_and]at sX;have:=h.wi n;have e: ((X.kv n:Nat):Int)=(X.wi n).getD 0:=by unfold Cx.kv;omega
 exact⟨by rw[rC,<-sX,e],by unfold Cx.kv;omega⟩
end
theorem cK{h0:Prt.Hp}{t:Tr}{p:Value}(h:rep h0 t p):∃b,p=.pointer (some ⟨b,0,none⟩):=by
 obtain⟨b,e,_⟩:=e_ h;exact⟨b,e⟩
end
section
open Ty (Tr Ck)
theorem LH(nd:Nd)(lv:Value)(W:World): (Instr.field 66 (.agg #[.int .i64 nd.kind,.int .i64 nd.a,.int .i64 nd.b,.int .i64 nd.c,lv,.string nd.text,.int .i64 nd.n,.int .i64 nd.ty,.int .i64 nd.pos]) 8).run prog W=.ok (.int .i64 nd.pos) W:=by
 simp[Instr.field,run_underlying underlying66,asAgg,go_sem]
theorem B4(nd:Nd)(lv:Value)(W:World): (Instr.field 66 (.agg #[.int .i64 nd.kind,.int .i64 nd.a,.int .i64 nd.b,.int .i64 nd.c,lv,.string nd.text,.int .i64 nd.n,.int .i64 nd.ty,.int .i64 nd.pos]) 7).run prog W=.ok (.int .i64 nd.ty) W:=by
 simp[Instr.field,run_underlying underlying66,asAgg,go_sem]
theorem Pf(nd:Nd)(lv:Value)(W:World): (Instr.field 66 (.agg #[.int .i64 nd.kind,.int .i64 nd.a,.int .i64 nd.b,.int .i64 nd.c,lv,.string nd.text,.int .i64 nd.n,.int .i64 nd.ty,.int .i64 nd.pos]) 1).run prog W=.ok (.int .i64 nd.a) W:=by
 simp[Instr.field,run_underlying underlying66,asAgg,go_sem]
section
variable {wB w:World} {cb:Nat} {nv tv:Value} {pg:Ty.Pg}
theorem fE(hP:PB wB nv tv pg)(hb:Below wB.heap.size wB w){id:Nat}{nd:Nd}(hn:pg.ns[id]?=some nd)(h0:w.cell? ⟨cb,0,none⟩=some nv)(DV:cb<w.heap.size){R:EW}
  (hR:∀lv w',Below w.heap.size w w'->wB.ownsRow 0 3 1 lv nd.list.length (nd.list.map aQ)->R (.returned (aH nd lv)) w'):
  Calls prog 152 #[.pointer (some ⟨cb,0,none⟩),.int .i64 (id:Nat)] w R:=by
 obtain⟨g,cap,lv,rfl,lW,hg,hcap,E',hA,hl,_,hN⟩:=hP.look hn;obtain⟨q0,q1,q2,q3,q4,q5,q6,q7,q8⟩:=hA.below hb;have aeT:g<w.heap.size:=nL hg hb.size;obtain⟨la,lc,rfl⟩:=ag hl;have HR:=qh (λw' iz=>hR (.slice la nd.list.length lc) w' iz hl);unfold maxLen at E';generalize pg.ns.length=N at*
 go_in;go_wp2;refine bodyPost_ret ?_ rfl (HR.o _ ?_)
 ·simp[results,results152,go_sem,aH]
 ·exact(bR _ _).alloc (nR _) _
theorem vs(hP:PB wB nv tv pg)(hb:Below wB.heap.size wB w){id:Nat}{nd:Nd}(hn:pg.ns[id]?=some nd)(h0:w.cell? ⟨cb,0,none⟩=some nv)(DV:cb<w.heap.size){b:Bool}{e:Nat}{R:EW}
  (aD:b=true->R (.returned (.tuple #[])) w) (au:b=false->∀w',Below w.heap.size w w'->R (.panicked (aO (e,nd.pos))) w'):
  Calls prog 160 #[.pointer (some ⟨cb,0,none⟩),.bool b,.int .i64 (e:Nat),.int .i64 (id:Nat)] w R:=by
 cases b with
 |true=>
  have fL:=qh (aD rfl);go_in;go_wp2;go_end0;exact fL.o
 |false=>
  have HB:=qh (au rfl);have f8:=LH nd;go_in;go_wp2_with fail;refine fE hP hb hn h0 DV (λlv w2 aW hl=>?_);have fG:=qh (HB.o w2 aW);unfold aH;go_wp2_with fail;exact⟨rfl,fG.o⟩
theorem cU(w:World)(k:Int){R:EW}(hR:R (.returned (.pointer (some ⟨w.heap.size,0,none⟩))) (w.alloc (.cells #[.int .i64 k,.slice none 0 0,.slice none 0 0,.pointer none] 219))):
  Calls prog 240 #[.int .i64 k] w R:=by
 go_in;go_wp2_with fail;refine pZ _ k ?_;go_wp2;exact hR
end
def Xw(o:Option Tr)(v:Value):As:=match o with
 |none=>bU (v=.pointer none)
 |some t=>qp v t
theorem T6{h:Prt.Hp}{b k:Nat}(ha:ax b (.cells #[.int .i64 (k:Nat),.slice none 0 0,.slice none 0 0,.pointer none] 219 (0,0)) h):rep h (rD k) (.pointer (some ⟨b,0,none⟩)):=
 tC (qs:=[]) ha ⟨rfl,.inl ⟨rfl,rfl⟩⟩ (by rw[br])
theorem xj{w0 w:World}{Fr:As}{o:Option Tr}{v:Value}(H:Sat w0 w [Fr,Xw o v]){R:EW}(hR:∀p w',Sat w0 w' [Fr,qp p (B7 o)]->R (.returned p) w'):
  Calls prog 153 #[v] w R:=by
 cases o with
 |none=>
  have hv:v=.pointer none:=H.get (i:=1) rfl λ_ ha _=>ha
  subst hv;have h1:=((H.pick [0]).ar (.cells #[.int .i64 (5:Nat),.slice none 0 0,.slice none 0 0,.pointer none] 219) w.heap.size).cQ (i:=1) rfl (Q:=qp (.pointer (some ⟨w.heap.size,0,none⟩)) (B7 none)) λ_ ha=>T6 (k:=5) ha
  have HR:=qh (hR _ _ h1);clear hR h1 H;go_in;go_wp2_with fail;refine cU _ 5 ?_;go_wp2;exact HR.o
 |some t=>
  have hr:rep (Prt.hp w) t v:=H.get (i:=1) rfl λ_ ha hl=>dp hl _ _ ha
  obtain⟨b,rfl⟩:=cK hr;have HR:=qh (hR _ _ H);clear hR hr H;go_in;go_wp2_with fail;exact HR.o
section
variable {wB w:World} {cb:Nat} {nv tv:Value} {pg:Ty.Pg}
theorem mT(hP:PB wB nv tv pg)(hb:Below wB.heap.size wB w)(c1:w.cell? ⟨cb,1,none⟩=some tv)(DV:cb<w.heap.size){z:Int}(hz:wh z pg.ts){R:EW}
  (hR:∀v w',Sat w w' [bY w,Xw (l7 pg.ts z) v]->R (.returned v) w'):
  Calls prog 154 #[.pointer (some ⟨cb,0,none⟩),.int .i64 z] w R:=by
 rcases hz with rfl|⟨n,rfl,hn⟩
 ·have h1:=(Sat.iN w).jR (P:=Xw (l7 pg.ts (-1)) (.pointer none)) (λ_=>by unfold l7;rw[if_pos (by omega)];rfl);have HR:=qh (hR _ _ h1);clear hR h1;go_in;go_wp2;exact HR.o
 ·obtain⟨rows,hr,xK⟩:=hP.ty;have hk:=hP.ok;have hO:=S_ tv rows pg.ts hr hk.wf hk.Qv _ n (Nat.lt_succ_self _) hn.lt w (xK.below hb);have hw:l7 pg.ts (n:Nat)=some (Ty.den pg.ts n):=by unfold l7;rw[if_neg (by omega)];rfl
  have HR:=qh (λp w'(h:Sat w w' [bY w,qp p (Ty.den pg.ts n)])=>hR p w' (by rw[hw];exact h));have k0:decide ((n:Int)<0)=false:=by simp
  clear hR hr xK hw hk hn hP hb;go_in;go_wp2_with fail;refine hO _ (λp w2 h2=>?_);have HG:=qh (HR.o p w2 h2);clear h2;go_wp2_with fail;exact HG.o
end
theorem rz{w:World}{b k:Nat}(hk:cX w b k){v:Value}{l:List Nat}(cg:w.ownsRow 0 3 1 v l.length (l.map aQ))(hl:l.length<=10){r:Bool}(hr:decide (k∈l)=r){R:EW}(hR:R (.returned (.bool r)) w):
  Calls prog 296 #[.pointer (some ⟨b,0,none⟩),v] w R:=by
 subst hr;obtain⟨hb,c0⟩:=hk;obtain⟨la,lc,rfl⟩:=ag cg;have HY:Hq (k∈l->R (.returned (.bool true)) w):=λh=>by simpa [h]using hR
 have HN:Hq (k∉l->R (.returned (.bool false)) w):=λh=>by simpa [h]using hR
 go_in;go_wp2;go_loopw [9] (λi wr=>wr=w/\∃j:Nat,i=.int .i64 j/\j<=l.length/\Hq (k∉l.take j)) (λi _=>l.length-(intOf i).toNat)
 case atStart=>exact⟨rfl,0,rfl,Nat.zero_le _,by show k∉[];simp⟩
 case round=>
  obtain⟨rfl,j,rfl,hj,hE⟩:=hrel;by_cases bz:j<l.length
  ·obtain⟨gl,nK,e,rE,d0⟩:=ints_at cg j bz;cases e;have HT:=qh (List.take_succ_eq_append_getElem bz);have HM:=qh (gM bz);generalize l[j]=x at*
   by_cases hx:k=x
   ·subst hx;go_wp2;exact HY.o HM.o
   ·have kx: ((k:Int)==(x:Int))=false:=int_ne hx;have ia:Hq (k∉l.take (j+1)):=by show k∉_;rw[HT.o,List.mem_append];simp only[List.mem_singleton];exact λh=>h.elim hE.out hx
    go_wp2;go_roundw
    case rel=>exact⟨trivial,j+1,by go_num,by omega,ia⟩
    case measure=>simp[intOf];omega
  ·have oE:j=l.length:=by omega
   have ia:Hq (k∉l):=by have:=hE.out;rw[oE,List.take_length]at this;exact this
   go_wp2;exact HN.o ia.o
end
def Xt(W w:World):Prop:=Below W.heap.size W w
@[simp] theorem Xt.r (W:World):Xt W W:=bR _ _
@[simp] theorem Xt.drew {W w:World} (h:Xt W w):Xt W w.drew:=Below.drew h
@[simp] theorem Xt.alloc {W w:World} (h:Xt W w) (o:Obj):Xt W (w.alloc o):=Below.alloc h h.size o
theorem Xt.trans{W w w':World}(h:Xt W w)(g:Xt w w'):Xt W w':=Below.trans h (g.mono h.size)
theorem kc{W:World}{b o:Nat}{v:Value}(h:W.cell? ⟨b,o,none⟩=some v)(w':World)(hb:Xt W w'):w'.cell? ⟨b,o,none⟩=some v:=av hb h
theorem xt{W w:World}(h:Xt W w:=by iterate 9 (try(first|assumption|exact Xt.r _|apply Xt.drew|apply Xt.alloc))):Xt W w:=h
section
open Ty (Tr Ck)
theorem Bg(w:World){b:Nat}(hb:b=w.heap.size)(cs:Array Value)(l:List Nat)(h:cs.toList=l.map aQ)(hn:l.length<=10): (w.alloc (.cells cs 3)).ownsRow 0 3 1 (.slice (some ⟨b,0,none⟩) l.length l.length) l.length (l.map aQ):=by
 subst hb;have h1:=((Sat.iN w).ar (.cells cs 3) w.heap.size).cQ (i:=1) rfl (Q:=Prt.row 3 1 (.slice (some ⟨w.heap.size,0,none⟩) l.length l.length) l.length (l.map aQ)) λ_ h2=>lH h2 (by unfold maxLen;omega) (by have:=congrArg List.length h;simpa using this) h
 exact h1.row 1
theorem kL{w W:World}{h0:Prt.Hp}(hB:Xt w W)(k:Nat){b:Nat}(hb:b=W.heap.size:=by simp):Sat w (W.alloc (.cells #[.int .i64 (k:Nat),.slice none 0 0,.slice none 0 0,.pointer none] 219)) [bY w,iq h0 (rD k) (.pointer (some ⟨b,0,none⟩))]:=
 (((Sat.iN w).below hB).ar (.cells #[.int .i64 (k:Nat),.slice none 0 0,.slice none 0 0,.pointer none] 219) b hb).cQ (i:=1) rfl λ_ ha _ _ lR=>T6 (lR _ _ ha)
theorem nG{w W:World}{h0:Prt.Hp}{t:Tr}{p:Value}(hB:Xt w W)(hr:rep h0 t p):Sat w W [bY w,iq h0 t p]:=((Sat.iN w).below hB).jR λ_ _ hl _=>dp hl _ _ hr
theorem yV{x b:BA}{l:List UInt8}(h:x=b)(hb:b.data.toList=l): (x.toList==l)=true:=by rw[Lib.toList_data,h,hb];simp
theorem yK{x b:BA}{l:List UInt8}(h:x≠b)(hb:b.data.toList=l): (x.toList==l)=false:=by
 rw[Lib.toList_data];refine beq_eq_false_iff_ne.2 λe=>h ?_
 cases x;cases b;simp only at e hb;congr 1;exact Array.toList_inj.1 (e.trans hb.symm)
theorem kY{W w:World}{b k x:Nat}(hk:cX W b k)(hw:Xt W w){r:Bool}(hr:decide (k∈[x])=r){g:Nat}{z:Int}{R:EW}(hR:R (.returned (.bool r)) (w.alloc (.cells #[.int .i64 z] 3)))(hz:z=x:=by rfl)(hg:g=w.heap.size:=by simp):
  Calls prog 296 #[.pointer (some ⟨b,0,none⟩),.slice (some ⟨g,0,none⟩) 1 1] (w.alloc (.cells #[.int .i64 z] 3)) R:=
 rz (l:=[x]) (nU (hw.alloc _) hk.1 hk.2) (Bg w hg _ [x] (by rw[hz];rfl) (by simp)) (by simp) hr hR
theorem yQ{W w:World}{b k x y:Nat}(hk:cX W b k)(hw:Xt W w){r:Bool}(hr:decide (k∈[x,y])=r){g:Nat}{z u:Int}{R:EW}(hR:R (.returned (.bool r)) (w.alloc (.cells #[.int .i64 z,.int .i64 u] 3)))(hz:z=x/\u=y:=by exact⟨rfl,rfl⟩)(hg:g=w.heap.size:=by simp):
  Calls prog 296 #[.pointer (some ⟨b,0,none⟩),.slice (some ⟨g,0,none⟩) 2 2] (w.alloc (.cells #[.int .i64 z,.int .i64 u] 3)) R:=
 rz (l:=[x,y]) (nU (hw.alloc _) hk.1 hk.2) (Bg w hg _ [x,y] (by rw[hz.1,hz.2];rfl) (by simp)) (by simp) hr hR
structure Cc(wB w:World)(cb ofb hasb:Nat)(X:Cx)(s:Ck)(h0:Prt.Hp)(pg:Ty.Pg):Prop where
 P:PB wB X.nv X.tv pg
 b:Below wB.heap.size wB w
 W:CkW w cb X ofb hasb s h0
section
variable {wB w w1:World} {cb ofb hasb id:Nat} {X:Cx} {s:Ck} {h0:Prt.Hp} {pg:Ty.Pg} {nd:Nd} {R:EW}
theorem CkW.kind(hW:CkW w cb X ofb hasb s h0){t:Tr}{b:Nat}(hr:rep h0 t (.pointer (some ⟨b,0,none⟩))):cX w b (Ty.kindOf t):=by
 obtain⟨b2,e,hk⟩:=DB (dp hW.le _ _ hr);cases e;exact hk
theorem Cc.up(C:Cc wB w cb ofb hasb X s h0 pg)(h:Xt w w1):Cc wB w1 cb ofb hasb X s h0 pg:=⟨C.P,C.b.trans (Below.mono h C.b.size),C.W.below h⟩
theorem Cc.need(C:Cc wB w cb ofb hasb X s h0 pg)(hn:pg.ns[id]?=some nd){b:Bool}{e:Nat}(aD:b=true->R (.returned (.tuple #[])) w)(au:b=false->∀w',Xt w w'->R (.panicked (aO (e,nd.pos))) w'):
  Calls prog 160 #[.pointer (some ⟨cb,0,none⟩),.bool b,.int .i64 (e:Nat),.int .i64 (id:Nat)] w R:=vs C.P C.b hn C.W.c0 C.W.lt aD au
theorem Cc.node(C:Cc wB w cb ofb hasb X s h0 pg)(hn:pg.ns[id]?=some nd)(hR:∀la lc w',Xt w w'->wB.ownsRow 0 3 1 (.slice la nd.list.length lc) nd.list.length (nd.list.map aQ)->R (.returned (.agg #[.int .i64 nd.kind,.int .i64 nd.a,.int .i64 nd.b,.int .i64 nd.c,.slice la nd.list.length lc,.string nd.text,.int .i64 nd.n,.int .i64 nd.ty,.int .i64 nd.pos])) w'):
  Calls prog 152 #[.pointer (some ⟨cb,0,none⟩),.int .i64 (id:Nat)] w R:=fE C.P C.b hn C.W.c0 C.W.lt λlv w' h hl=>by
 obtain⟨la,lc,rfl⟩:=ag hl;exact hR la lc w' h hl
theorem U5(w2:World)(nd:Nd)(lv:Value)(w':World)(h:Xt (w2.alloc (cz nd lv)) w'):w'.cell? ⟨w2.heap.size,0,none⟩=some (.int .i64 nd.kind)/\w'.cell? ⟨w2.heap.size,1,none⟩=some (.int .i64 nd.a)/\w'.cell? ⟨w2.heap.size,2,none⟩=some (.int .i64 nd.b)/\w'.cell? ⟨w2.heap.size,3,none⟩=some (.int .i64 nd.c)/\w'.cell? ⟨w2.heap.size,4,none⟩=some lv/\w'.cell? ⟨w2.heap.size,5,none⟩=some (.string nd.text)/\w'.cell? ⟨w2.heap.size,7,none⟩=some (.int .i64 nd.ty)/\w2.heap.size<w'.heap.size:=by
 have g:=(Sat.iN w2).ar (cz nd lv) w2.heap.size;exact⟨kc (g.cell 1 0) _ h,kc (g.cell 1 1) _ h,kc (g.cell 1 2) _ h,kc (g.cell 1 3) _ h,kc (g.cell 1 4) _ h,kc (g.cell 1 5) _ h,kc (g.cell 1 7) _ h,nL (g.lt 1) h.size⟩
theorem Cc.cells(C:Cc wB w cb ofb hasb X s h0 pg)(w':World)(h:Xt w w'):w'.cell? ⟨cb,3,none⟩=some (.map (some X.I3))/\w'.cell? ⟨cb,5,none⟩=some (.map (some ofb))/\w'.cell? ⟨cb,6,none⟩=some (.map (some hasb))/\cb<w'.heap.size:=⟨kc C.W.c3 _ h,kc C.W.c5 _ h,kc C.W.c6 _ h,nL C.W.lt h.size⟩
theorem Cc.of(C:Cc wB w cb ofb hasb X s h0 pg){n:Nat}{t:Tr}(hn:n<=100000)(ht:s.of n=some t):∃b,(∀w':World,Xt w w'->(Instr.lookup 103 (.map (some ofb)) (.int .i64 (n:Nat)) false).run prog w'=.ok (.pointer (some ⟨b,0,none⟩)) w')/\rep h0 t (.pointer (some ⟨b,0,none⟩))/\Fine t/\dK t<=300:=by
 obtain⟨p,h,hr⟩:=C.W.L2 hn ht;obtain⟨b,rfl⟩:=cK hr;exact⟨b,h,hr,C.W.oN.of _ _ ht⟩
theorem Cc.to(C:Cc wB w cb ofb hasb X s h0 pg){n:Nat}(hn:n<=100000): (∀w':World,Xt w w'->(Instr.lookup 102 (.map (some X.I3)) (.int .i64 (n:Nat)) false).run prog w'=.ok (.int .i64 (X.kv n:Nat)) w')/\X.kv n<=100000:=⟨λ_ h=>((C.W.below h).Xm hn).1,(C.W.Xm hn).2⟩
theorem Cc.has(C:Cc wB w cb ofb hasb X s h0 pg){n:Nat}{t:Tr}(hn:n<=100000)(ht:s.has n=some t):∃b,(∀w':World,Xt w w'->(Instr.lookup 103 (.map (some hasb)) (.int .i64 (n:Nat)) false).run prog w'=.ok (.pointer (some ⟨b,0,none⟩)) w')/\rep h0 t (.pointer (some ⟨b,0,none⟩))/\Fine t:=by
 obtain⟨p,h,hr⟩:=C.W.hasAll hn ht;obtain⟨b,rfl⟩:=cK hr;exact⟨b,h,hr,(C.W.oN.has _ _ ht).1⟩
set_option maxRecDepth 100000
set_option maxHeartbeats 4000000
theorem zC(C:Cc wB w cb ofb hasb X s h0 pg)(hn:pg.ns[id]?=some nd){t:Tr}{p:Value}(hr:rep h0 t p)(R6:eu t)(x:BA)
  (aD:∀u q w',F1 t x=some u->Sat w w' [bY w,iq h0 u q]->R (.returned q) w') (au:F1 t x=none->∀w',Xt w w'->R (.panicked (aO (9,nd.pos))) w'):
  Calls prog 243 #[.pointer (some ⟨cb,0,none⟩),p,.string x,.int .i64 (id:Nat)] w R:=by
 obtain⟨b,rfl⟩:=cK hr;have HK:=qh (C.W.kind hr);have HC:=qh C;have KQ:=qh (λw1(h:Xt w w1)(R:EW)=>zF (R:=R) w w1 C.W.le h t _ hr R6 x);unfold F1 at aD au;obtain⟨k,names,parts,list,of⟩:=t;dsimp only[Ty.kindOf,cC,Ty.partsOf]at aD au HK;go_in;go_wp2_with fail;rcases h5:decide (k∈[5])with _| _;rotate_left
 ·refine kY HK.o (Xt.r _) h5 ?_;go_wp2;exact aD _ _ _ (if_pos (by simpa using h5)) (nG xt hr)
 refine kY HK.o (Xt.r _) h5 ?_;simp only[show¬k=5 by simpa using h5,if_false]at aD au;go_wp2_with fail;rcases h8:decide (k∈[8])with _| _;rotate_left;refine kY HK.o xt h8 ?_;by_cases hl:x=Qz
 ·have kx: (x.toList==[108,101,110,103,116,104])=true:=yV hl rfl;have HA:=qh (λq w'=>aD _ q w' (if_pos ⟨by simpa using h8,hl⟩));clear hl aD au;go_wp2_with fail;refine cU _ 1 ?_;go_wp2_with fail;exact HA.o _ _ (kL xt 1)
 have kx: (x.toList==[108,101,110,103,116,104])=false:=yK hl rfl;have hg:¬(k=8/\x=Qz):=λh=>hl h.2
 rotate_left;refine kY HK.o xt h8 ?_;have hg:¬(k=8/\x=Qz):=λh=>by simp[h.1]at h8
 all_goals
  simp only[hg,if_false]at aD au;clear h5 h8 hg;go_wp2_with fail;refine KQ.o _ xt _ (λq w2 aW hq=>?_)
  (try dsimp only at hq)
  have HB:=qh (show Xt w w2 from Xt.trans xt aW);rcases h7:decide (k∈[7])with _| _
  ·have HN:=qh (au (if_neg (by simpa using h7)));clear aD au hq;go_wp2_with fail;refine kY HK.o HB.o h7 ?_;go_wp2_with fail;exact(HC.o.up (HB.o.alloc _)).need hn nofun λ_ w' iz=>⟨rfl,HN.o _ ((HB.o.alloc _).trans iz)⟩
  simp only[show k=7 by simpa using h7,if_true]at aD au;rcases hp:Ty.part names parts x with _|u
  ·rw[hp]at hq
   dsimp only at hq;subst hq;have HN:=qh (au hp);clear aD au hp;go_wp2_with fail;refine kY HK.o HB.o h7 ?_;go_wp2_with fail;exact(HC.o.up (HB.o.alloc _)).need hn nofun λ_ w' iz=>⟨rfl,HN.o _ ((HB.o.alloc _).trans iz)⟩
  ·rw[hp]at hq
   dsimp only at hq;obtain⟨bq,rfl⟩:=cK hq;have HA:=qh (aD u _ _ hp (nG (HB.o.alloc (.cells #[.int .i64 7] 3)) hq));clear aD au hp;go_wp2_with fail;refine kY HK.o HB.o h7 ?_;go_wp2_with fail;refine(HC.o.up (HB.o.alloc _)).need hn (λ_=>?_) nofun;go_wp2_with fail;exact HA.o
theorem ui(C:Cc wB w cb ofb hasb X s h0 pg)(hn:pg.ns[id]?=some nd){t a:Tr}{p q:Value}(hr:rep h0 t p)(R6:eu t)(hq:rep h0 a q)(YW:eu a)
  (aD:∀u v w',qU t a=some u->Sat w w' [bY w,iq h0 u v]->R (.returned v) w') (au:qU t a=none->∀w',Xt w w'->R (.panicked (aO (9,nd.pos))) w'):
  Calls prog 244 #[.pointer (some ⟨cb,0,none⟩),p,q,.int .i64 (id:Nat)] w R:=by
 obtain⟨b,rfl⟩:=cK hr;have HK:=qh (C.W.kind hr);have HC:=qh C;have aae:Xt w (w.alloc (.cells #[.int .i64 1,.slice none 0 0,.slice none 0 0,.pointer none] 219)):=xt;have HF:Hq (qi q (.pointer (some ⟨w.heap.size,0,none⟩)) (w.alloc (.cells #[.int .i64 1,.slice none 0 0,.slice none 0 0,.pointer none] 219)) (Ty.fits a (rD 1))):=
  Bf _ _ a (rD 1) _ _ (Nat.lt_succ_self _) YW (nE (by omega)).ok (dp (xe C.W.le aae) _ _ hq) (T6 (k:=1) (heap_alloc_new w _))
 unfold qU at aD au;generalize Ty.fits a (rD 1)=f at*
 have om:=hr;obtain⟨k,names,parts,list,of⟩:=t;obtain⟨b2,pv,lv,ov,ps,ls,os,e,fF,c0,c1,c2,c3,_,_,_,_,_,AG,hv⟩:=ny C.W.le om;cases e;rw[eu]at R6
 have HO:Hq (k=8->rep h0 (gv (.mk k names parts list of)) ov):=λh=>oS (R6.2.2.1 (.inl h)) AG hv
 dsimp only[Ty.kindOf]at HK aD au;clear hq YW R6 AG hv om c0 c1 c2 C;go_in;go_wp2_with fail;refine cU _ 1 ?_;go_wp2_with fail;refine HF.o _ (bR _ _) _ (λw2 aW=>?_);have HB:=qh (aae.trans aW);clear aae aW;cases f
 ·have HN:=qh (au (by simp));clear aD au;go_wp2_with fail;exact(HC.o.up HB.o).need hn nofun λ_ w' iz=>⟨rfl,HN.o _ (HB.o.trans iz)⟩
 rcases WS:decide (k∈[5,8])with _| _
 ·have HN:=qh (au (by simpa using WS));clear aD au;go_wp2_with fail;refine yQ HK.o HB.o WS ?_;go_wp2_with fail;exact(HC.o.up (HB.o.alloc _)).need hn nofun λ_ w' iz=>⟨rfl,HN.o _ ((HB.o.alloc _).trans iz)⟩
 have HA:=qh (λv w'=>aD _ v w' (if_pos ⟨rfl,by simpa using WS⟩));have qd:=qh (HB.o.alloc (.cells #[.int .i64 5,.int .i64 8] 3));go_wp2_with fail;refine yQ HK.o HB.o WS ?_;go_wp2_with fail;refine(HC.o.up qd.o).need hn (λ_=>?_) nofun;have c3:=kc c3 _ (qd.o.alloc (.cells #[.int .i64 5] 3));rcases h5:decide (k∈[5])with _| _
 ·have ac0:¬k=5:=by simpa using h5
  go_wp2_with fail;refine kY HK.o qd.o h5 ?_;go_wp2;exact HA.o _ _ (by simp only[ac0,if_false];exact nG (qd.o.alloc _) (HO.o (by simpa [ac0]using WS)))
 ·go_wp2_with fail;refine kY HK.o qd.o h5 ?_;go_wp2;exact HA.o _ _ (by simp only[show k=5 by simpa using h5,if_true];exact nG (qd.o.alloc _) (by simpa [show k=5 by simpa using h5]using hr))
end
theorem NV{W w:World}{b k x y:Nat}(hk:cX W b k)(hw:Xt W w){r:Bool}(hr:decide (k∈[x,y])=r){g:Nat}{z u:Int}{R:EW}(hR:R (.returned (.bool r)) (w.alloc (.cells #[.int .i64 z,.int .i64 u] 3)).drew)(hz:z=x/\u=y:=by exact⟨rfl,rfl⟩)(hg:g=w.heap.size:=by simp):
  Calls prog 296 #[.pointer (some ⟨b,0,none⟩),.slice (some ⟨g,0,none⟩) 2 2] (w.alloc (.cells #[.int .i64 z,.int .i64 u] 3)).drew R:=
 rz (l:=[x,y]) (nU (hw.alloc _).drew hk.1 hk.2) (Bg w hg _ [x,y] (by rw[hz.1,hz.2];rfl) (by simp)) (by simp) hr hR
section
variable {wB w w1:World} {cb ofb hasb id:Nat} {X:Cx} {s:Ck} {h0:Prt.Hp} {pg:Ty.Pg} {nd:Nd} {R:EW}
set_option maxRecDepth 100000
set_option maxHeartbeats 8000000
theorem IV(C:Cc wB w cb ofb hasb X s h0 pg)(hn:pg.ns[id]?=some nd){t:Tr}(ht:s.of nd.a=some t)(ha:nd.a<=100000)
  (aD:∀u q w',K_ nd.text t=some u->Sat w w' [bY w,iq h0 u q]->R (.returned q) w') (au:K_ nd.text t=none->∀w',Xt w w'->R (.panicked (aO (9,nd.pos))) w'):
  Calls prog 247 #[.pointer (some ⟨cb,0,none⟩),.int .i64 (id:Nat)] w R:=by
 have HC:=qh C;go_in;go_wp2_with fail;refine C.node hn (λla lc w2 aW hl=>?_);have hB:Xt w (w2.alloc (cz nd (.slice la nd.list.length lc))):=aW.alloc _;have hx:=U5 w2 nd (.slice la nd.list.length lc);obtain⟨b,cm,hr,_⟩:=(C.up hB).of ha ht;have hc:=(C.up hB).cells;have HK:=qh ((C.up hB).W.kind hr);have HB:=qh hB;unfold K_ at aD au;clear aW hl C hr hB;by_cases h1:nd.text=X3
 ·have kx:=yV (l:=[33]) h1 rfl;rw[if_pos h1]at aD
  clear h1;go_wp2_with fail;refine cU _ 2 ?_;go_wp2_with fail;exact aD _ _ _ rfl (kL HB.o 2)
 have aep:=yK (l:=[33]) h1 rfl;rw[if_neg h1]at aD au
 by_cases h2:nd.text=RG
 ·have kx:=yV (l:=[116,121,112,101,111,102]) h2 rfl;rw[if_pos h2]at aD
  clear h1 h2;go_wp2_with fail;refine cU _ 3 ?_;go_wp2_with fail;exact aD _ _ _ rfl (kL HB.o 3)
 have adW:=yK (l:=[116,121,112,101,111,102]) h2 rfl;rw[if_neg h2]at aD au
 unfold wz at aD au;clear h1 h2;go_wp2_with fail
 go_region_held (Xt (w2.alloc (cz nd (.slice la nd.list.length lc)))) (exact xt)
  (first
   |(go_at_call 296;refine NV (x:=1) (y:=5) HK.o xt rfl ?_)
   |(go_at_call 160;refine(HC.o.up (HB.o.alloc _).drew).need hn (λhy=>?_) (λhn w' iz=>⟨rfl,au (if_neg (by simpa using hn)) w' ((HB.o.alloc _).drew.trans iz)⟩)))
 all_goals
  go_wp2_with fail;refine cU _ 1 ?_;go_wp2_with fail;exact aD _ _ _ (if_pos (by simpa using hy)) (kL (HB.o.alloc _).drew 1)
theorem Jh(C:Cc wB w cb ofb hasb X s h0 pg)(hn:pg.ns[id]?=some nd){ta tb:Tr}(Ig:s.of nd.a=some ta)(ZR:s.of nd.b=some tb)(ha:nd.a<=100000)(iz:nd.b<=100000)
  (aD:∀u q w',JB nd.text ta tb=some u->Sat w w' [bY w,iq h0 u q]->R (.returned q) w') (au:JB nd.text ta tb=none->∀w',Xt w w'->R (.panicked (aO (9,nd.pos))) w'):
  Calls prog 246 #[.pointer (some ⟨cb,0,none⟩),.int .i64 (id:Nat)] w R:=by
 have HC:=qh C;go_in;go_wp2_with fail;refine C.node hn (λla lc w2 aW hl=>?_);have hB:Xt w (w2.alloc (cz nd (.slice la nd.list.length lc))):=aW.alloc _;have hx:=U5 w2 nd (.slice la nd.list.length lc);obtain⟨ba,lR,acM,_⟩:=(C.up hB).of ha Ig;obtain⟨bb,YC,S',_⟩:=(C.up hB).of iz ZR;have hc:=(C.up hB).cells;have Sz:=qh ((C.up hB).W.kind acM);have Xg:=qh ((C.up hB).W.kind S');have HB:=qh hB.drew;unfold JB at aD au;clear aW hl C acM S' hB Ig ZR;go_wp2_with fail;go_region_held3(Xt (w2.alloc (cz nd (.slice la nd.list.length lc)))) (exact xt) (fail)
 all_goals
  have hV:Xt (w2.alloc (cz nd (.slice la nd.list.length lc))) (w2.alloc (cz nd (.slice la nd.list.length lc))).drew:=xt;generalize(w2.alloc (cz nd (.slice la nd.list.length lc))).drew=V at*
  have hv:=hx V hV;by_cases h1:nd.text=abT
  ·have kx:=yV (l:=[61,61]) h1 rfl;rw[if_pos h1]at aD
   clear h1;go_wp2_with fail;refine cU _ 2 ?_;go_wp2_with fail;exact aD _ _ _ rfl (kL HB.o 2)
  have aep:=yK (l:=[61,61]) h1 rfl;rw[if_neg h1]at aD au
  by_cases h2:nd.text=X1
  ·have kx:=yV (l:=[43]) h2 rfl;rw[if_pos h2]at aD au
   clear h1 h2;go_wp2_with fail;rcases h5:decide (Ty.kindOf ta∈[5])with _| _;rotate_left
   ·refine kY Sz.o xt h5 ?_;go_wp2_with fail;refine cU _ 5 ?_;go_wp2_with fail;exact aD _ _ _ (if_pos (.inl (by simpa using h5))) (kL (HB.o.alloc _) 5)
   refine kY Sz.o xt h5 ?_;go_wp2_with fail;rcases VD:decide (Ty.kindOf tb∈[5])with _| _;rotate_left
   ·refine kY Xg.o xt VD ?_;go_wp2_with fail;refine cU _ 5 ?_;go_wp2_with fail;exact aD _ _ _ (if_pos (.inr (by simpa using VD))) (kL ((HB.o.alloc _).alloc _) 5)
   refine kY Xg.o xt VD ?_;rw[if_neg (show¬(Ty.kindOf ta=5\/Ty.kindOf tb=5)by simp at h5 VD;omega)]at aD au
   have Sp:=qh ((HB.o.alloc (.cells #[.int .i64 5] 3)).alloc (.cells #[.int .i64 5] 3));have ka:=kc Sz.o.2;have kb:=kc Xg.o.2;clear h5 VD;go_wp2_with fail;by_cases GJ:Ty.kindOf ta=Ty.kindOf tb
   ·rw[GJ]at ka aD au Sz
    go_region_held (Xt (w2.alloc (cz nd (.slice la nd.list.length lc)))) (exact xt)
     (first
      |(go_at_call 296;refine NV (x:=1) (y:=3) Sz.o xt rfl ?_)
      |(go_at_call 160;refine(HC.o.up (Sp.o.alloc _).drew).need hn (λhy=>?_) (λhn w' iz=>⟨rfl,au (if_neg (by simpa using hn)) w' ((Sp.o.alloc _).drew.trans iz)⟩)))
    all_goals
     go_wp2_with fail;refine cU _ _ ?_;go_wp2_with fail;exact aD _ _ _ (if_pos ⟨trivial,by simpa using hy⟩) (kL (Sp.o.alloc _).drew (Ty.kindOf tb))
   ·have ahE: ((Ty.kindOf ta:Int)==(Ty.kindOf tb:Int))=false:=int_ne GJ;refine wp_region_held_drew (S:=Xt (w2.alloc (cz nd (.slice la nd.list.length lc)))) (by kernel_rfl) xt (λhS=>?_);refine ou 0 ?_;refine ou 1 ?_;refine ou 2 ?_;refine ou 3 ?_;refine ou 4 ?_;refine ou 5 ?_;refine ou 6 ?_;refine ou 7 ?_;refine ou 8 ?_;refine ou 9 (v:=.bool false) ?_ (hy:=by intro w' dJ;go_simp);refine ou 10 (v:=.bool false) ?_ (hy:=by intro w' dJ;go_simp);refine Lf 11 ?_;refine Lf 12 ?_;refine Lf 13 ?_;refine ou 14 (v:=.bool false) ?_ (hy:=by intro w' dJ;go_simp);refine ou 15 ?_;refine wpAnyH_ready (rs:=[16]) (by kernel_rfl) (by simp) (AllReadyH.cons rfl (λK hK=>?_) AllReadyH.nil);go_simp;exact(HC.o.up Sp.o.drew).need hn nofun λ_ w' iz=>⟨rfl,au (if_neg λh=>GJ h.1) w' (Sp.o.drew.trans iz)⟩
  have adW:=yK (l:=[43]) h2 rfl;rw[if_neg h2]at aD au
  unfold wz at aD au;clear h1 h2;go_wp2_with fail;rcases h5:decide (Ty.kindOf ta∈[1,5])with _| _
  ·refine yQ Sz.o xt h5 ?_;have HN:=qh (au (if_neg (by simp at h5;simp[h5])));clear aD au;go_wp2_with fail;exact(HC.o.up (HB.o.alloc _)).need hn nofun λ_ w' iz=>⟨rfl,HN.o w' ((HB.o.alloc _).trans iz)⟩
  refine yQ Sz.o xt h5 ?_;go_wp2_with fail;have Up:=qh ((HB.o.alloc (.cells #[.int .i64 1,.int .i64 5] 3)).alloc (.cells #[.int .i64 1,.int .i64 5] 3));rcases h6:decide (Ty.kindOf tb∈[1,5])with _| _
  ·refine yQ Xg.o xt h6 ?_;have HN:=qh (au (if_neg (by simp at h6;simp[h6])));clear aD au;go_wp2_with fail;exact(HC.o.up Up.o).need hn nofun λ_ w' iz=>⟨rfl,HN.o w' (Up.o.trans iz)⟩
  refine yQ Xg.o xt h6 ?_;have HA:=qh (λq w'=>aD _ q w' (if_pos (by simp at h5 h6;simp[h5,h6])));clear aD au h5 h6;go_wp2_with fail;refine(HC.o.up Up.o).need hn (λ_=>?_) nofun;by_cases h3:nd.text=RQ
  ·have afb:=yV (l:=[60]) h3 rfl;rw[if_pos h3]at HA
   clear h3;go_wp2_with fail;refine cU _ 2 ?_;go_wp2_with fail;exact HA.o _ _ (kL Up.o 2)
  ·have afb:=yK (l:=[60]) h3 rfl;rw[if_neg h3]at HA
   clear h3;go_wp2_with fail;refine cU _ 1 ?_;go_wp2_with fail;exact HA.o _ _ (kL Up.o 1)
end
end
end Go.Proofs.YtdlbhiaceheffabGreatDoor
