/- Plain: what was read once, and printed, is read again as it was: the steps; types. No program in sight. -/
import Derived.Test.YtdlbhiaceheffabGreatDoorC40
set_option linter.all false
namespace Go.Proofs.YtdlbhiaceheffabGreatDoor
open Go Go.RowKit Ty Tok Prt
section
namespace Ty
open Tok (Tk)
def er(n:Nd):Nd:={n with pos:=0}
structure Eqs(s t:St):Prop where
 ts:t.ts=s.ts
 ns:t.ns.map er=s.ns.map er
theorem Eqs.refl(s:St):Eqs s s:=⟨rfl,rfl⟩
theorem Eqs.at{s t:St}(h:Eqs s t)(p q:Nat):Eqs {s with pos:=p} {t with pos:=q}:=⟨h.ts,h.ns⟩
theorem Eqs.atR{s t:St}(h:Eqs s t)(p:Nat):Eqs s {t with pos:=p}:=⟨h.ts,h.ns⟩
theorem Eqs.of{s s' t:St}(h:Eqs s t)(h1:s'.ts=s.ts)(h2:s'.ns=s.ns):Eqs s' t:=⟨h.ts.trans h1.symm,by rw[h2];exact h.ns⟩
def Ac{α:Type}(ad:List Tk)(m:M α)(Fo:List Lm->Prop)(ls:List Lm)(s:St)(a:α)(s':St):Prop:=
 ∀t rest,D ad t.pos (ls++rest)->Fo rest->Eqs s t->∃t',m t=.ok (a,t')/\t'.pos=t.pos+ls.length/\Eqs s' t'
theorem Ac.mono{α:Type}{ad:List Tk}{m:M α}{P Q:List Lm->Prop}{ls:List Lm}{s s':St}{a:α}(h:Ac ad m P ls s a s')(hq:∀r,Q r->P r):Ac ad m Q ls s a s':=λt rest hd hf he=>h t rest hd (hq _ hf) he
theorem Ac.of{α:Type}{ad:List Tk}{m:M α}{P:List Lm->Prop}{ls:List Lm}{s s' s1 Lc:St}{a:α}(h:Ac ad m P ls s a s')(h1:s1.ts=s.ts)(h2:s1.ns=s.ns)(h3:Lc.ts=s'.ts)(h4:Lc.ns=s'.ns):Ac ad m P ls s1 a Lc:=λt rest hd hf he=>by
 obtain⟨t',e1,e2,e3⟩:=h t rest hd hf (he.of h1.symm h2.symm);exact⟨t',e1,e2,e3.of h3 h4⟩
section
variable {ad:List Tk} {t:St} {l:Lm} {r:List Lm} {x:List UInt8}
theorem D.pos{p q:Nat}(h:D ad p r)(e:q=p):D ad q r:=e▸h
theorem D.add{p:Nat}{ls rest:List Lm}(h:D ad p (ls++rest)):D ad (p+ls.length) rest:=by
 show(ad.map kt).drop (p+ls.length)=rest;rw[<-List.drop_drop,show(ad.map kt).drop p=ls++rest from h];simp
theorem D.len{p:Nat}(h:D ad p r):r.length+p<=ad.length\/r=[]:=by
 have h1:=congrArg List.length (show(ad.map kt).drop p=r from h)
 grind [List.length_eq_zero_iff]
theorem dh(hd:D ad t.pos (l::r))(hl:h_ (l::r) x=true):take ad x t=.ok (true,{t with pos:=t.pos+1}):=by unfold take;rw[hd.is,if_pos hl]
theorem aV(hd:D ad t.pos r)(hl:h_ r x=false):take ad x t=.ok (false,t):=by unfold take;rw[hd.is,if_neg (by grind)]
theorem eC(hd:D ad t.pos (l::r))(hl:h_ (l::r) x=true):need ad x t=.ok ((),{t with pos:=t.pos+1}):=by unfold need;rw[hd.is,if_pos hl]
theorem r7{y:BA}{met:List BA}(hd:D ad t.pos ((1,y.data.toList)::r))(hm:y.data.toList∉met.map λt=>t.data.toList):name ad met t=.ok (y,{t with pos:=t.pos+1}):=by
 have hc:=hd.cur;have h1: (cur ad t.pos).kind=1:=congrArg Prod.fst hc;have h2: (cur ad t.pos).text.data.toList=y.data.toList:=congrArg Prod.snd hc
 grind [ByteArray.ext,Array.ext',name]
theorem wL{k:Nat}{x y:List UInt8}{r:List Lm}(h:k=5\/k=2):h_ ((k,x)::r) y=decide (x=y):=by
 grind [h_]
theorem wM{k:Nat}{x y:List UInt8}{r:List Lm}(h5:k≠5)(h2:k≠2):h_ ((k,x)::r) y=false:=by grind [h_]
end
section
variable {ad:List Tk} {s s':St} {x:List UInt8}
theorem b_{b:Bool}(h:take ad x s=.ok (b,s')):b=Ty.is ad x s.pos/\s'.ts=s.ts/\s'.ns=s.ns/\s'.pos=s.pos+(if Ty.is ad x s.pos then 1 else 0):=by
 grind [take]
theorem dO{u:Unit}(h:need ad x s=.ok (u,s')):Ty.is ad x s.pos=true/\s'.ts=s.ts/\s'.ns=s.ns/\s'.pos=s.pos+1:=by
 grind [need]
theorem oT{met:List BA}{y:BA}(h:name ad met s=.ok (y,s')):y.data.toList∉met.map (λt=>t.data.toList)/\s'.ts=s.ts/\s'.ns=s.ns/\s'.pos=s.pos+1:=by
 grind [name]
end
def lq(b:Bool)(ls:List Lm):List Lm:=if b then(5,[40]):: (ls++[(5,[41])])else ls
def Li(t:Tr)(more:Bool):Bool:=decide (kindOf t=10)||(decide (kindOf t=9)&&more)
def GT(t2:List Tk)(r:Nat)(t:Tr)(s:St)(n:Nat)(s':St):Prop:=
 (∀r2,r<=r2->Ac t2 (eJ t2 r2) Le (fD t) s n s')/\(kindOf t≠10->∀r2,r<=r2+1->Ac t2 (single t2 (eJ t2 r2)) (λx=>kindOf t=9->Le x) (fD t) s n s')
def UY(ad t2:List Tk)(r:Nat):Prop:=∀s n s',Wf s.ts->eJ ad r s=.ok (n,s')->
 s'.ns=s.ns/\s.pos+(fD (den s'.ts n)).length<=s'.pos/\Ty.is ad [124] s'.pos=false/\GT t2 r (den s'.ts n) s n s'
def agz(ad t2:List Tk)(r:Nat):Prop:=∀s n s',Wf s.ts->single ad (eJ ad r) s=.ok (n,s')->
 s'.ns=s.ns/\((kindOf (den s'.ts n)≠10/\s.pos+(fD (den s'.ts n)).length<=s'.pos/\(kindOf (den s'.ts n)=9->Ty.is ad [124] s'.pos=false)/\∀r2,r<=r2->Ac t2 (single t2 (eJ t2 r2)) (λx=>kindOf (den s'.ts n)=9->Le x) (fD (den s'.ts n)) s n s')\/
  (s.pos+(fD (den s'.ts n)).length+2<=s'.pos/\GT t2 r (den s'.ts n) s n s'))
section
variable {ad t2:List Tk}
theorem yp(hL:ad.length<=1001){r:Nat}(H:UY ad t2 r):∀f acc s l' s',Wf s.ts->ym (acc.map Prod.snd) s.ts->fields ad (eJ ad r) f acc s=.ok (l',s')->
  ∃(ns:List BA)(is:List Nat),ns.length=is.length/\l'=acc++ns.zip is/\s'.ns=s.ns/\s.pos+(uF ns (f_ (is.map (den s'.ts)))).length+1<=s'.pos/\
   ∀r2,r<=r2->∀t rest f2,D t2 t.pos (uF ns (f_ (is.map (den s'.ts)))++(5,[125])::rest)->Eqs s t->t2.length<t.pos+f2->∃t',fields t2 (eJ t2 r2) f2 acc t=.ok (l',t')/\t'.pos=t.pos+(uF ns (f_ (is.map (den s'.ts)))).length+1/\Eqs s' t'
 |0,_,_,_,_,_,_,h=>by cases h
 |f+1,acc,s,l',s',hw,ha,h=>by
  have eB:=lV (cG ad hL r) _ _ _ _ _ hw ha h;obtain⟨b,s1,e1,h⟩:=ah h;obtain⟨hb,q1,q2,q3⟩:=b_ e1;cases fF:Ty.is ad [125] s.pos with
  |true=>
   rw[fF]at hb q3
   subst hb;simp only[if_true]at h q3;cases h;refine⟨[],[],rfl,by simp,q2,by grind [uF],λr2 _ t rest f2 hd he Ea=>?_⟩;obtain⟨f2,rfl⟩:∃g,f2=g+1:=⟨f2-1,by
    rcases hd.len with h|h
    ·omega
    ·simp at h⟩
   have hd:D t2 t.pos ((5,[125])::rest):=hd;refine⟨{t with pos:=t.pos+1},?_,rfl,(he.of q1 q2).atR _⟩;rw[fields,aj (dh hd rfl)];rfl
  |false=>
   rw[fF]at hb q3
   subst hb;simp only[Bool.false_eq_true,if_false]at h q3;obtain⟨x,s2,e2,h⟩:=ah h;obtain⟨hm,p1,p2,p3⟩:=oT e2;obtain⟨u,s3,e3,h⟩:=ah h;obtain⟨_,o1,o2,o3⟩:=dO e3;obtain⟨n,s4,e4,h⟩:=ah h;obtain⟨u,s5,e5,h⟩:=ah h;obtain⟨_,m1,m2,m3⟩:=dO e5;have PS:Wf s3.ts:=by grind
   obtain⟨k1,k2,k3,k4⟩:=H _ _ _ PS e4;obtain⟨g1,g2,g3⟩:=cG ad hL r _ _ _ PS e4;have WY:Wf s5.ts:=by grind
   have ada:ym ((acc++[(x,n)]).map Prod.snd) s5.ts:=λj hj=>by
    rw[List.map_append,List.mem_append]at hj
    have e3:s3.ts.length=s.ts.length:=by grind
    rw[m1];rcases hj with hj|hj
    ·have:=ha j hj;omega
    ·simp at hj;subst hj;exact g3
   obtain⟨ns,is,i1,i2,i3,i4,i5⟩:=yp hL H f _ _ _ _ WY ada h;obtain⟨x1,_⟩:=o6 (cG ad hL r) (g_ ad hL r) _ _ _ _ _ WY ada h;have py:den s'.ts n=den s4.ts n:=by rw[x1.den (by rw[m1];exact g3),m1]
   refine⟨x::ns,n::is,by simp[i1],by simp_all,by grind,?_,λr2 hr t rest f2 hd he Ea=>?_⟩
   ·grind [f_,uF]
   ·rw[List.map_cons,f_,uF,py]at hd⊢
    simp only[List.cons_append,List.append_assoc]at hd;obtain⟨f2,rfl⟩:∃g,f2=g+1:=⟨f2-1,by
     rcases hd.len with h|h
     ·omega
     ·simp at h⟩
    have d1:=hd.next;have d2:=d1.next;obtain⟨t4,a1,a2,a3⟩:=k4.1 r2 hr {t with pos:=t.pos+1+1} _ d2 ⟨rfl,rfl⟩ ((he.of (by grind) (by grind)).atR _);have d4:D t2 t4.pos _:=d2.add.pos a2;have d5:=d4.next;obtain⟨t',b1,b2,b3⟩:=i5 r2 hr {t4 with pos:=t4.pos+1} rest f2 d5 ((a3.of m1 m2).atR _) (by grind);refine⟨t',?_,?_,b3⟩
    ·rw[fields,aj (aV hd (by simp[h_]))];simp only[Bool.false_eq_true,if_false];rw[aj (r7 (t:=t) hd hm),aj (eC (t:={t with pos:=t.pos+1}) d1 rfl),aj a1,aj (eC d4 rfl)];exact b1
    grind
theorem II(hL:ad.length<=1001){r:Nat}(H:UY ad t2 r):∀f(acc:List Nat) s l' s',Wf s.ts->ym acc s.ts->lS acc s.ts->list ad [41] (λ_=>eJ ad r) f acc s=.ok (l',s')->
  ∃(is:List Nat),l'=acc++is/\s'.ns=s.ns/\s.pos+(if acc.length=0 then gB [(5,[44])] (f_ (is.map (den s'.ts)))else eZ [(5,[44])] (f_ (is.map (den s'.ts)))).length+1<=s'.pos/\
   ∀r2,r<=r2->∀t rest f2,D t2 t.pos ((if acc.length=0 then gB [(5,[44])] (f_ (is.map (den s'.ts)))else eZ [(5,[44])] (f_ (is.map (den s'.ts))))++(5,[41])::rest)->Eqs s t->t2.length<t.pos+f2->
    ∃t',list t2 [41] (λ_=>eJ t2 r2) f2 acc t=.ok (l',t')/\t'.pos=t.pos+(if acc.length=0 then gB [(5,[44])] (f_ (is.map (den s'.ts)))else eZ [(5,[44])] (f_ (is.map (den s'.ts)))).length+1/\Eqs s' t'
 |0,_,_,_,_,_,_,_,h=>by cases h
 |f+1,acc,s,l',s',hw,ha,lR,h=>by
  obtain⟨b,s1,e1,h⟩:=ah h;obtain⟨hb,q1,q2,q3⟩:=b_ e1;cases fF:Ty.is ad [41] s.pos with
  |true=>
   rw[fF]at hb q3
   subst hb;simp only[if_true]at h q3;cases h;have e0: (if acc.length=0 then gB [(5,[44])] (f_ (([]:List Nat).map (den s'.ts)))else eZ [(5,[44])] (f_ (([]:List Nat).map (den s'.ts))))=([]:List Lm):=by split<;>rfl
   refine⟨[],by simp,q2,by rw[e0];simp;omega,λr2 _ t rest f2 hd he Ea=>?_⟩;rw[e0]at hd⊢
   have hd:D t2 t.pos ((5,[41])::rest):=hd;obtain⟨f2,rfl⟩:∃g,f2=g+1:=⟨f2-1,by
    rcases hd.len with h|h
    ·omega
    ·simp at h⟩
   refine⟨{t with pos:=t.pos+1},?_,rfl,(he.of q1 q2).atR _⟩;rw[list,aj (dh hd rfl)];rfl
  |false=>
   rw[fF]at hb q3
   subst hb;simp only[Bool.false_eq_true,if_false]at h q3;obtain⟨u,s2,e2,h⟩:=ah h;have h2:s2.ts=s1.ts/\s2.ns=s1.ns/\s2.pos=s1.pos+(if acc.length=0 then 0 else 1):=by
    split at e2
    ·rename_i h0;cases e2;rw[if_pos h0];exact⟨rfl,rfl,rfl⟩
    ·rename_i h0;obtain⟨_,a,b,c⟩:=dO e2;rw[if_neg h0];exact⟨a,b,c⟩
   obtain⟨p1,p2,p3⟩:=h2;obtain⟨n,s3,e3,h⟩:=ah h;have UN:Wf s2.ts:=by rw[p1,q1];exact hw
   obtain⟨k1,k2,k3,k4⟩:=H _ _ _ UN e3;obtain⟨g1,g2,g3⟩:=cG ad hL r _ _ _ UN e3;obtain⟨_,_,g4⟩:=g_ ad hL r _ _ _ UN e3;have ac8:ym (acc++[n]) s3.ts:=λj hj=>by
    rw[List.mem_append]at hj
    have e3:s2.ts.length=s.ts.length:=by rw[p1,q1]
    rcases hj with hj|hj
    ·have:=ha j hj;omega
    grind
   obtain⟨is,i2,i3,i4,i5⟩:=II hL H f _ _ _ _ g1 ac8 (lS.snoc g4) h;obtain⟨x1,_,_⟩:=sE (cG ad hL r) (g_ ad hL r) _ _ _ _ _ g1 ac8 (lS.snoc g4) h;have py:den s'.ts n=den s3.ts n:=x1.den g3;simp only[lzA,lzC,lzN,Nat.add_eq_zero_iff,Nat.one_ne_zero,and_false,if_false]at i4 i5;have el: (if acc.length=0 then gB [(5,[44])] (f_ ((n::is).map (den s'.ts)))else eZ [(5,[44])] (f_ ((n::is).map (den s'.ts))))=(if acc.length=0 then []else [(5,[44])])++(fD (den s3.ts n)++eZ [(5,[44])] (f_ (is.map (den s'.ts)))):=by
    grind [f_,gB,eZ]
   refine⟨n::is,by rw[i2];simp,by rw[i3,k1,p2,q2],?_,λr2 hr t rest f2 hd he Ea=>?_⟩
   ·grind
   ·rw[el]at hd⊢
    simp only[List.append_assoc]at hd;obtain⟨f2,rfl⟩:∃g,f2=g+1:=⟨f2-1,by
     rcases hd.len with h|h
     ·simp only[List.length_append,List.length_cons]at h;omega
     ·simp at h⟩
    have hh:=AW (den s3.ts n) (qF g1 _ _ (Nat.lt_succ_self _) g3) (A2 g1 _ _ (Nat.lt_succ_self _) g3);have qq:h_ ((if acc.length=0 then([]:List Lm)else [(5,[44])])++(fD (den s3.ts n)++(eZ [(5,[44])] (f_ (is.map (den s'.ts)))++(5,[41])::rest))) [41]=false:=by
     split
     ·exact hh.no _
     ·rfl
    obtain⟨t1,c1,c2,c3,c4⟩:∃t1,(if acc.length=0 then ret ()else need t2 [44]:M Unit) t=.ok ((),t1)/\t1.pos=t.pos+(if acc.length=0 then 0 else 1)/\D t2 t1.pos (fD (den s3.ts n)++(eZ [(5,[44])] (f_ (is.map (den s'.ts)))++(5,[41])::rest))/\Eqs s t1:=by
     by_cases h0:acc.length=0
     ·rw[if_pos h0]at hd;rw[if_pos h0,if_pos h0];exact⟨t,rfl,rfl,hd,he⟩
     ·rw[if_neg h0]at hd;rw[if_neg h0,if_neg h0];exact⟨_,eC (l:=(5,[44])) hd rfl,rfl,D.next (l:=(5,[44])) hd,he.atR _⟩
    obtain⟨t3,a1,a2,a3⟩:=k4.1 r2 hr t1 _ c3 (by cases is<;>exact⟨rfl,rfl⟩) (c4.of (by rw[p1,q1]) (by rw[p2,q2]));have By:1<=(fD (den s3.ts n)).length:=by obtain⟨_,_,e,_⟩:=hh;rw[e];simp
    obtain⟨t',b1,b2,b3⟩:=i5 r2 hr t3 rest f2 (c3.add.pos a2) a3 (by omega);refine⟨t',?_,?_,b3⟩
    ·rw[list,aj (aV hd qq)];simp only[Bool.false_eq_true,if_false];rw[aj c1,aj a1];exact b1
    grind
end
end Ty
end
section
namespace Ty
open Tok (Tk)
theorem rX{s s':St}{t:Ty}{n:Nat}(h:aP t s=.ok (n,s'))(hw:Wf s'.ts):n=s.ts.length/\s'.ts=s.ts++[t]/\s'.ns=s.ns/\s'.pos=s.pos/\
  den s'.ts n=.mk t.kind (t.fields.map Prod.fst) (t.fields.map λf=>den s.ts f.2) (t.list.map (den s.ts)) (if t.kind=8\/t.kind=9 then [den s.ts t.of]else []):=by
 have h0:=h;cases h;refine⟨rfl,rfl,rfl,rfl,(Qi (hw _ t (by simp)) h0).1⟩
theorem wC{s s1 t:St}{u:Ty}{n:Nat}(h:aP u s=.ok (n,s1))(he:Eqs s t):∃t',aP u t=.ok (n,t')/\t'.pos=t.pos/\Eqs s1 t':=by
 cases h;refine⟨{t with ts:=t.ts++[u]},?_,rfl,⟨by dsimp only;rw[he.ts],he.ns⟩⟩;unfold aP;rw[he.ts]
theorem D.bound{ad:List Tk}{p:Nat}{ls rest:List Lm}(h:D ad p (ls++rest))(hp:p<=ad.length):p+ls.length<=ad.length:=by
 have h1:=congrArg List.length (show(ad.map kt).drop p=ls++rest from h)
 grind
theorem D.lt{ad:List Tk}{p:Nat}{l:Lm}{r:List Lm}(h:D ad p (l::r)):p<ad.length:=by
 have h1:=congrArg List.length (show(ad.map kt).drop p=l::r from h)
 grind
def lO:List Tr->List (List Lm)
 |[]=>[]
 |t::l=>lq (Li t (!l.isEmpty)) (fD t)::lO l
theorem wO:∀l:List Tr,(lO l).length=l.length
 |[]=>rfl
 |t::l=>by rw[lO,List.length_cons,wO l,List.length_cons]
theorem Bz:∀(l:List Tr)(i:Nat)(h:i<l.length)(h2:i<(lO l).length),(lO l)[i]=Gd l.length i (kindOf l[i]) (fD l[i])
 |[],i,h,_=>by grind
 |t::l,0,_,_=>by
  grind [lO,lq,Li,Gd]
 |t::l,i+1,h,h2=>by
  simp[lO];rw[Bz l i (by grind) (by rw[wO];simpa using h)]
  grind [Gd]
theorem FT(l:List Tr):fD (.mk 10 [] [] l [])=gB [(5,[124])] (lO l):=by
 rw[fD,if_neg (by decide),if_neg (by decide),if_neg (by decide),if_pos rfl];congr 1;apply List.ext_getElem
 ·simp[wO]
 ·intro i h1 h2;have hi:i<l.length:=by grind
  rw[Bz l i hi h2]
  grind [rI]
section
variable {ad t2:List Tk}
theorem Pd{r2:Nat}{s s':St}{n:Nat}{ls:List Lm}(hh:Hd ls)(h:Ac t2 (eJ t2 r2) Le ls s n s'):Ac t2 (single t2 (eJ t2 r2)) (λx=>h_ x [61,62]=false) ((5,[40]):: (ls++[(5,[41])])) s n s':=λt rest hd hf he=>by
 simp at hd;have d1:=hd.next;obtain⟨t1,a1,a2,a3⟩:=h {t with pos:=t.pos+1} _ d1 ⟨rfl,rfl⟩ (he.atR _);have d2:=d1.add.pos a2;have hk: (cur t2 t.pos).kind=5:=congrArg Prod.fst hd.cur;refine⟨{t1 with pos:=t1.pos+1},?_,?_,a3.atR _⟩
 ·unfold single;rw[if_neg (by grind),aj (aV hd rfl)];simp;rw[aj (aV hd rfl)];simp;rw[aj (eC hd rfl)];unfold round;have hlen:∃g,t2.length=g+1:=⟨t2.length-1,by
   rcases hd.len with h|h
   ·grind
   ·simp at h⟩
  obtain⟨g,hg⟩:=hlen;have e1:list t2 [41] (λ_=>eJ t2 r2) (t2.length+1) [] {t with pos:=t.pos+1}=.ok ([n],{t1 with pos:=t1.pos+1}):=by
   rw[list,aj (aV d1 (hh.no _))];simp;rw[aj (show ret () _=.ok ((),_)from rfl),aj a1,hg,list,aj (dh d2 rfl)];rfl
  rw[aj e1,aj (aV d2.next hf)];rfl
 grind
theorem MH{k:Nat}(hk:1<=k/\k<=6):fD (.mk k [] [] [] [])=[(2,BS k)]:=by
 grind [fD]
theorem Gg{x:BA}(h:bI x>0):1<=bI x/\bI x<=6:=by
 refine⟨h,?_⟩;unfold bI;split
 ·grind [List.idxOf?_eq_some_iff,v8]
 ·omega
theorem yP(hL:ad.length<=1001){r:Nat}(H:UY ad t2 r):agz ad t2 r:=λs n s' hw h=>by
 have XB:=gj hL (cG ad hL r) _ _ _ hw h;obtain⟨hw',hle,jU⟩:=XB;unfold single at h;split at h
 ·rename_i hk;obtain⟨u,s1,e1,e2⟩:=ah h;cases e1;obtain⟨q1,q2,q3,q4,q5⟩:=rX e2 hw';have hp:=Gg hk.2;simp only[List.map_nil]at q5;rw[if_neg (by omega)]at q5
  refine⟨q3,.inl ?_⟩;rw[q5,MH hp];refine⟨by show bI _≠10;omega,by rw[q4];simp,λh9=>by have:bI (cur ad s.pos).text=9:=h9;omega,λr2 _ t rest hd hf he=>?_⟩;have hc:=hd.cur;have qR: (cur t2 t.pos).kind=2:=congrArg Prod.fst hc;have Ws:=xi (cur t2 t.pos).text _ hp (congrArg Prod.snd hc);obtain⟨t',g1,g2,g3⟩:=wC e2 ((he.at (s.pos+1) (t.pos+1)));refine⟨t',?_,by rw[g2];simp,g3⟩;unfold single;rw[if_pos ⟨qR,by rw[Ws];exact hk.2⟩,Ws,aj (show step t=.ok ((),_)from rfl)];exact g1
 ·obtain⟨b,s1,e1,h⟩:=ah h;obtain⟨hb,q1,q2,q3⟩:=b_ e1;cases fF:Ty.is ad [123] s.pos with
  |true=>
   rw[fF]at hb q3
   subst hb;simp only[if_true]at h q3;unfold object at h;obtain⟨l,s2,e2,e3⟩:=ah h;have Lp:Wf s1.ts:=by rw[q1];exact hw
   obtain⟨ns,is,i1,i2,i3,i4,i5⟩:=yp hL H _ _ _ _ _ Lp (λj hj=>by simp at hj) e2;obtain⟨p1,p2,p3,p4,p5⟩:=rX e3 hw';rw[List.nil_append]at i2
   rw[i2]at p5
   simp only[List.map_nil]at p5;rw[zip_fst _ _ i1,Be _ _ _ i1,if_neg (by omega)]at p5
   refine⟨by rw[p3,i3,q2],.inl ?_⟩;rw[p5,fD,if_pos rfl];refine⟨by show(7:Nat)≠10;omega,?_,λh9=>absurd (show(7:Nat)=9 from h9) (by decide),λr2 hr t rest hd hf he=>?_⟩
   ·grind
   ·simp only[List.cons_append,List.append_assoc,List.nil_append]at hd;have hk: (cur t2 t.pos).kind=5:=congrArg Prod.fst hd.cur;obtain⟨t3,a1,a2,a3⟩:=i5 r2 hr {t with pos:=t.pos+1} rest (t2.length+1) hd.next ((he.of q1 q2).atR _) (by dsimp only;omega);obtain⟨t',g1,g2,g3⟩:=wC e3 a3;refine⟨t',?_,?_,g3⟩
    ·unfold single;rw[if_neg (by rw[hk];rintro⟨h,_⟩;cases h),aj (dh hd rfl)];simp only[if_true];unfold object
     grind [aj]
    grind
  |false=>
   rw[fF]at hb q3
   subst hb;simp only[Bool.false_eq_true,if_false]at h q3;obtain⟨b,s2,e2,h⟩:=ah h;obtain⟨hb,p1,p2,p3⟩:=b_ e2;cases Va:Ty.is ad [91] s1.pos with
   |true=>
    rw[Va]at hb p3
    subst hb;simp only[if_true]at h p3;obtain⟨m,s3,e3,h⟩:=ah h;obtain⟨u,s4,e4,e5⟩:=ah h;have UN:Wf s2.ts:=by rw[p1,q1];exact hw
    obtain⟨k1,k2,k3,k4⟩:=H _ _ _ UN e3;obtain⟨_,m1,m2,m3⟩:=dO e4;obtain⟨o1,o2,o3,o4,o5⟩:=rX e5 hw';simp only[List.map_nil,true_or,if_true]at o5;rw[m1]at o5
    refine⟨by rw[o3,m2,k1,p2,q2],.inl ?_⟩;rw[o5,fD,if_neg (by decide),if_pos rfl,f_,f_,List.headD_cons];refine⟨by show(8:Nat)≠10;omega,?_,λh9=>absurd (show(8:Nat)=9 from h9) (by decide),λr2 hr t rest hd hf he=>?_⟩
    ·simp only[List.length_cons,List.length_append,List.length_nil];omega
    ·simp only[List.cons_append,List.append_assoc,List.nil_append]at hd;have hk: (cur t2 t.pos).kind=5:=congrArg Prod.fst hd.cur;obtain⟨t3,a1,a2,a3⟩:=k4.1 r2 hr {t with pos:=t.pos+1} _ hd.next ⟨rfl,rfl⟩ ((he.of (p1.trans q1) (p2.trans q2)).atR _);have d3:=hd.next.add.pos a2;obtain⟨t',g1,g2,g3⟩:=wC e5 ((a3.of m1 m2).atR (t3.pos+1));refine⟨t',?_,?_,g3⟩
     ·unfold single;rw[if_neg (by rw[hk];rintro⟨h,_⟩;cases h),aj (aV hd rfl)];simp only[Bool.false_eq_true,if_false];rw[aj (dh hd rfl)];simp only[if_true];rw[aj a1,aj (eC d3 rfl)];exact g1
     ·dsimp only at a2 g2;simp only[List.length_cons,List.length_append,List.length_nil];omega
   |false=>
    rw[Va]at hb p3
    subst hb;simp only[Bool.false_eq_true,if_false]at h p3;obtain⟨u,s3,e3,h⟩:=ah h;obtain⟨_,m1,m2,m3⟩:=dO e3;unfold round at h;obtain⟨l,s4,e4,h⟩:=ah h;have t3:s3.ts=s.ts:=m1.trans (p1.trans q1);have n3:s3.ns=s.ns:=m2.trans (p2.trans q2);have PS:Wf s3.ts:=by rw[t3];exact hw
    obtain⟨is,i2,i3,i4,i5⟩:=II hL H _ _ _ _ _ PS (λj hj=>by simp at hj) (lS.nil _) e4;obtain⟨g1,g2,g3⟩:=pH (cG ad hL r) _ _ _ _ _ PS (λj hj=>by simp at hj) e4;rw[List.nil_append]at i2
    subst i2;simp only[List.length_nil,if_true]at i4 i5;obtain⟨b,s5,e5,h⟩:=ah h;obtain⟨hb,o1,o2,o3⟩:=b_ e5;cases yg:Ty.is ad [61,62] s4.pos with
    |true=>
     rw[yg]at hb o3
     subst hb;simp only[if_true]at h o3;obtain⟨m,s6,e6,e7⟩:=ah h;have WY:Wf s5.ts:=by rw[o1];exact g1
     obtain⟨k1,k2,k3,k4⟩:=H _ _ _ WY e6;obtain⟨j1,_,_⟩:=g_ ad hL r _ _ _ WY e6;obtain⟨v1,v2,v3,v4,v5⟩:=rX e7 hw';simp only[List.map_nil,or_true,if_true]at v5;rw[j1.Ma (by rw[o1];exact g3),o1]at v5
     refine⟨by rw[v3,k1,o2,i3,n3],.inl ?_⟩;rw[v5,fD,if_neg (by decide),if_neg (by decide),if_pos rfl,f_,f_,List.headD_cons];refine⟨by show(9:Nat)≠10;omega,?_,λ_=>by rw[v4];exact k3,λr2 hr t rest hd hf he=>?_⟩
     ·simp only[List.length_cons,List.length_append];omega
     ·simp only[List.cons_append,List.append_assoc]at hd;have hk: (cur t2 t.pos).kind=5:=congrArg Prod.fst hd.cur;obtain⟨t4,a1,a2,a3⟩:=i5 r2 hr {t with pos:=t.pos+1} _ (t2.length+1) hd.next ((he.of t3 n3).atR _) (by dsimp only;omega);have d4:D t2 t4.pos ((5,[61,62]):: (fD (den s6.ts m)++rest)):=by
       have h1:=hd.next.add.next;exact h1.pos (by rw[a2])
      obtain⟨t5,b1,b2,b3⟩:=k4.1 r2 hr {t4 with pos:=t4.pos+1} rest d4.next (hf rfl) ((a3.of o1 o2).atR _);obtain⟨t',c1,c2,c3⟩:=wC e7 b3;refine⟨t',?_,?_,c3⟩
      ·unfold single;rw[if_neg (by rw[hk];rintro⟨h,_⟩;cases h),aj (aV hd rfl)];simp only[Bool.false_eq_true,if_false];rw[aj (aV hd rfl)];simp only[Bool.false_eq_true,if_false];rw[aj (eC hd rfl)];unfold round;rw[aj a1,aj (dh d4 rfl)];simp only[if_true];rw[aj b1];exact c1
      ·dsimp only at a2 b2;simp only[List.length_cons,List.length_append];omega
    |false=>
     rw[yg]at hb o3
     subst hb;simp only[Bool.false_eq_true,if_false]at h o3;split at h
     ·rename_i hl;obtain⟨m,rfl⟩:=List.length_eq_one_iff.1 hl;cases h;simp only[List.headD_cons]
      --the one list of one type
      have Vs:∃SY,eJ ad r s3=.ok (m,SY)/\SY.ts=s4.ts/\SY.ns=s4.ns/\SY.pos+1<=s4.pos:=by
       obtain⟨b,u1,f1,k4⟩:=ah e4;obtain⟨hb,w1,w2,w3⟩:=b_ f1;cases US:Ty.is ad [41] s3.pos with
       |true=>rw[US]at hb;subst hb;simp only[if_true]at k4;cases k4
       |false=>
        rw[US]at hb w3
        subst hb;simp only[Bool.false_eq_true,if_false,List.length_nil,if_true]at k4 w3;obtain⟨u,u2,f2,k4⟩:=ah k4;obtain rfl:u1=u2:=by cases f2;rfl
        obtain⟨m',u3,f3,k4⟩:=ah k4;have hu:u1=s3:=by
         unfold take at f1;rw[US]at f1
         cases f1;rfl
        rw[hu]at f3
        have hlen:∃g,ad.length=g+1:=⟨ad.length-1,by
         have xV:ad.length≠0:=by
          intro h0;rw[h0]at k4;cases k4
         omega⟩
        obtain⟨g,hg⟩:=hlen;rw[hg]at k4
        obtain⟨b,u4,f4,k4⟩:=ah k4;obtain⟨hb,x1,x2,x3⟩:=b_ f4;cases adb:Ty.is ad [41] u3.pos with
        |true=>
         rw[adb]at hb x3
         subst hb;simp only[if_true]at k4 x3;cases k4;exact⟨u3,f3,x1.symm,x2.symm,by omega⟩
        |false=>
         rw[adb]at hb
         subst hb;simp only[Bool.false_eq_true,if_false]at k4;obtain⟨_,u5,_,k4⟩:=ah k4;obtain⟨m2,u6,_,k4⟩:=ah k4;have gR:∀f(l:List Nat)(a:St) l' b,2<=l.length->list ad [41] (λ_=>eJ ad r) f l a=.ok (l',b)->2<=l'.length:=by
          intro f;induction f with
          |zero=>intro l a l' b _ h;cases h
          |succ f ih=>
           intro l a l' b hl h;obtain⟨b2,a1,_,h⟩:=ah h;cases b2
           ·simp only[Bool.false_eq_true,if_false]at h;obtain⟨_,a2,_,h⟩:=ah h;obtain⟨n2,a3,_,h⟩:=ah h;exact ih _ _ _ _ (by simp;omega) h
           ·simp only[if_true]at h;cases h;exact hl
         have:=gR _ _ _ _ _ (by simp) k4;simp at this
      obtain⟨SY,f1,f2,f3,f4⟩:=Vs;obtain⟨k1,k2,k3,k4⟩:=H _ _ _ PS f1;have ow:s'.ts=SY.ts:=by rw[o1,f2]
      have yo:s'.ns=SY.ns:=by rw[o2,f3]
      refine⟨by rw[yo,k1,n3],.inr ⟨?_,?_,?_⟩⟩
      ·rw[ow];omega
      ·intro r2 hr;rw[ow];exact(k4.1 r2 hr).of t3.symm n3.symm ow yo
      ·intro hk r2 hr;rw[ow]at hk⊢
       exact(k4.2 hk r2 hr).of t3.symm n3.symm ow yo
     ·cases h
theorem yU(hL:ad.length<=1001){r:Nat}(H:UY ad t2 r){s s':St}{n:Nat}(hw:Wf s.ts)(h:single ad (eJ ad r) s=.ok (n,s'))(more:Bool)(hm:more=true->Ty.is ad [124] s'.pos=true):
  s'.ns=s.ns/\s.pos+(lq (Li (den s'.ts n) more) (fD (den s'.ts n))).length<=s'.pos/\∀r2,r<=r2->Ac t2 (single t2 (eJ t2 r2)) (λx=>if more then h_ x [61,62]=false else Le x) (lq (Li (den s'.ts n) more) (fD (den s'.ts n))) s n s':=by
 obtain⟨h1,h2⟩:=yP hL H _ _ _ hw h;obtain⟨hw',_,jU⟩:=gj hL (cG ad hL r) _ _ _ hw h;refine⟨h1,?_⟩;rcases h2 with⟨k1,k2,k3,k4⟩|⟨k1,k2,k3⟩
 ·have hu:Li (den s'.ts n) more=false:=by
   grind [Li]
  rw[hu];refine⟨k2,λr2 hr=>(k4 r2 hr).mono λx hx h9=>?_⟩;cases more with
  |false=>simpa using hx
  |true=>unfold Li at hu;simp[h9]at hu
 ·have hh:=AW (den s'.ts n) (qF hw' _ _ (Nat.lt_succ_self _) jU) (A2 hw' _ _ (Nat.lt_succ_self _) jU);cases hu:Li (den s'.ts n) more with
  |true=>
   unfold lq;simp;refine⟨by omega,λr2 hr=>(Pd hh (k2 r2 hr)).mono λx hx=>?_⟩;cases more with
   |false=>simp at hx;exact hx.2
   |true=>simpa using hx
  |false=>
   unfold lq;simp;have hk:kindOf (den s'.ts n)≠10:=by grind [Li]
   refine⟨by omega,λr2 hr=>(k3 hk r2 (by omega)).mono λx hx h9=>?_⟩;cases more with
   |false=>simpa using hx
   |true=>unfold Li at hu;simp[h9]at hu
theorem H'(hL:ad.length<=1001){r:Nat}(H:UY ad t2 r):∀f(acc:List Nat) s l' s',Wf s.ts->ym acc s.ts->lS acc s.ts->bars ad (single ad (eJ ad r)) f acc s=.ok (l',s')->
  ∃(is:List Nat),l'=acc++is/\s'.ns=s.ns/\Ty.is ad [124] s'.pos=false/\(is.isEmpty=false->Ty.is ad [124] s.pos=true)/\(is=[]->s'.pos=s.pos/\s'.ts=s.ts)/\s.pos+(eZ [(5,[124])] (lO (is.map (den s'.ts)))).length<=s'.pos/\
   ∀r2,r<=r2->∀t rest f2,D t2 t.pos (eZ [(5,[124])] (lO (is.map (den s'.ts)))++rest)->Le rest->Eqs s t->t.pos<=t2.length->t2.length<t.pos+f2->
    ∃t',bars t2 (single t2 (eJ t2 r2)) f2 acc t=.ok (l',t')/\t'.pos=t.pos+(eZ [(5,[124])] (lO (is.map (den s'.ts)))).length/\Eqs s' t'
 |0,_,_,_,_,_,_,_,h=>by cases h
 |f+1,acc,s,l',s',hw,ha,lR,h=>by
  obtain⟨b,s1,e1,h⟩:=ah h;obtain⟨hb,q1,q2,q3⟩:=b_ e1;cases fF:Ty.is ad [124] s.pos with
  |false=>
   rw[fF]at hb q3
   subst hb;simp only[Bool.false_eq_true,if_false]at h q3;cases h;refine⟨[],by simp,q2,by rw[q3];exact fF,λh=>by simp at h,λ_=>⟨q3,q1⟩,by simp[lO,eZ];omega,λr2 _ t rest f2 hd hf he hp Ea=>?_⟩;have hd:D t2 t.pos rest:=hd;obtain⟨f2,rfl⟩:∃g,f2=g+1:=⟨f2-1,by omega⟩
   refine⟨t,?_,by simp[lO,eZ],he.of q1 q2⟩;rw[bars,aj (aV hd hf.1)];rfl
  |true=>
   rw[fF]at hb q3
   subst hb;simp only[if_true]at h q3;obtain⟨n,s2,e2,h⟩:=ah h;have Lp:Wf s1.ts:=by rw[q1];exact hw
   obtain⟨g1,g2,g3⟩:=gj hL (cG ad hL r) _ _ _ Lp e2;obtain⟨j1,_,j3⟩:=jM hL (cG ad hL r) (g_ ad hL r) _ _ _ Lp e2;have U':ym (acc++[n]) s2.ts:=λj hj=>by
    rw[List.mem_append]at hj
    have e3:s1.ts.length=s.ts.length:=by rw[q1]
    rcases hj with hj|hj
    ·have:=ha j hj;omega
    ·simp at hj;subst hj;exact g3
   obtain⟨is,i1,i2,i3,i4,i5,i6,i7⟩:=H' hL H f _ _ _ _ g1 U' (lS.snoc j3) h;obtain⟨x1,_,_⟩:=pI (gj hL (cG ad hL r)) (jM hL (cG ad hL r) (g_ ad hL r)) _ _ _ _ _ g1 U' (lS.snoc j3) h;obtain⟨m1,m2,m3⟩:=yU hL H Lp e2 (!is.isEmpty) (λh=>i4 (by simpa using h));have py:den s'.ts n=den s2.ts n:=x1.den g3;have el:eZ [(5,[124])] (lO ((n::is).map (den s'.ts)))=(5,[124]):: (lq (Li (den s2.ts n) (!is.isEmpty)) (fD (den s2.ts n))++eZ [(5,[124])] (lO (is.map (den s'.ts)))):=by
    rw[List.map_cons,lO,eZ,py,List.isEmpty_map];rfl
   refine⟨n::is,by rw[i1];simp,by rw[i2,m1,q2],i3,λ_=>rfl,λh=>absurd h (by simp),?_,λr2 hr t rest f2 hd hf he hp Ea=>?_⟩
   ·rw[el];simp only[List.length_cons,List.length_append];omega
   ·rw[el]at hd⊢
    simp only[List.cons_append,List.append_assoc]at hd;obtain⟨f2,rfl⟩:∃g,f2=g+1:=⟨f2-1,by
     rcases hd.len with h|h
     ·simp only[List.length_cons]at h;omega
     ·simp at h⟩
    obtain⟨t1,a1,a2,a3⟩:=m3 r2 hr {t with pos:=t.pos+1} _ hd.next (by
     cases is with
     |nil=>simpa [lO,eZ]using hf
     |cons i is=>simp only[List.isEmpty_cons,Bool.not_false,if_true,List.map_cons,lO,eZ];rfl) ((he.of q1 q2).atR _)
    obtain⟨t',b1,b2,b3⟩:=i7 r2 hr t1 rest f2 (hd.next.add.pos a2) hf a3 (by rw[a2];exact hd.next.bound (by have:=hd.lt;omega)) (by dsimp only at a2;omega);refine⟨t',?_,?_,b3⟩
    ·rw[bars,aj (dh hd rfl)];simp only[if_true];rw[aj a1];exact b1
    ·dsimp only at a2;simp only[List.length_cons,List.length_append];omega
theorem Gv(hL:ad.length<=1001):∀r,UY ad t2 r
 |0=>λs n s' _ h=>by cases h
 |r+1=>λs n s' hw h=>by
  have H:=Gv hL r;obtain⟨hw',_,jU⟩:=cG ad hL (r+1) _ _ _ hw h;obtain⟨m,s1,e1,h⟩:=ah (show ak (single ad (eJ ad r)) _ s= _ from h);obtain⟨l,s2,e2,h⟩:=ah h;obtain⟨g1,g2,g3⟩:=gj hL (cG ad hL r) _ _ _ hw e1;obtain⟨j1,_,j3⟩:=jM hL (cG ad hL r) (g_ ad hL r) _ _ _ hw e1;have XH:ym [m] s1.ts:=λj hj=>by simp at hj;subst hj;exact g3
  have X6:lS [m] s1.ts:=lS.snoc (l:=[]) j3;obtain⟨is,i1,i2,i3,i4,i5,i6,i7⟩:=H' hL H _ _ _ _ _ g1 XH X6 e2;obtain⟨x1,_,_⟩:=pI (gj hL (cG ad hL r)) (jM hL (cG ad hL r) (g_ ad hL r)) _ _ _ _ _ g1 XH X6 e2;obtain⟨m1,m2,m3⟩:=yU hL H hw e1 (!is.isEmpty) (λh=>i4 (by simpa using h));subst i1;cases is with
  |nil=>
   obtain⟨y1,y2⟩:=i5 rfl;replace h:ret m s2=.ok (n,s'):=h;cases h;have adB:den s'.ts n=den s1.ts n:=by rw[y2]
   obtain⟨z1,z2⟩:=yP hL H _ _ _ hw e1;have hex:∀r2,r<=r2->kindOf (den s1.ts n)≠10->Ac t2 (single t2 (eJ t2 r2)) (λx=>kindOf (den s1.ts n)=9->Le x) (fD (den s1.ts n)) s n s':=λr2 hr hk=>by
    rcases z2 with⟨_,_,_,z5⟩|⟨_,z3,z4⟩
    ·exact(z5 r2 hr).of rfl rfl y2 i2
    ·exact(z4 hk r2 (by omega)).of rfl rfl y2 i2
   refine⟨by rw[i2,m1],?_,i3,?_⟩
   ·show s.pos+(fD (den s'.ts n)).length<=s'.pos;rw[adB];rcases z2 with⟨_,z3,_⟩|⟨z3,_⟩<;>omega
   ·show GT t2 (r+1) (den s'.ts n) s n s';rw[adB];refine⟨λr2 hr=>?_,λhk r2 hr=>hex r2 (by omega) hk⟩;by_cases hk:kindOf (den s1.ts n)=10
    ·rcases z2 with⟨z3,_⟩|⟨_,z3,z4⟩
     ·exact absurd hk z3
     ·exact(z3 r2 (by omega)).of rfl rfl y2 i2
    ·obtain⟨r2,rfl⟩:∃g,r2=g+1:=⟨r2-1,by omega⟩
     intro t rest hd hf he;obtain⟨t1,a1,a2,a3⟩:=hex r2 (by omega) hk t rest hd (λ_=>hf) he;refine⟨t1,?_,a2,a3⟩;have Vc:=hd.add.pos a2;show ak (single t2 (eJ t2 r2)) _ t= _;rw[aj a1];have e:bars t2 (single t2 (eJ t2 r2)) (t2.length+1) [n] t1=.ok ([n],t1):=by
      rw[bars,aj (aV Vc hf.1)];rfl
     rw[aj e];rfl
  |cons i is=>
   rw[if_neg (by simp)]at h
   obtain⟨v1,v2,v3,v4,v5⟩:=rX h hw';simp only[List.map_nil,List.cons_append,List.nil_append,List.map_cons]at v5;rw[if_neg (by omega),x1.den g3]at v5
   have V3:fD (den s'.ts n)=lq (Li (den s1.ts m) true) (fD (den s1.ts m))++eZ [(5,[124])] (lO ((i::is).map (den s2.ts))):=by
    rw[v5,FT,lO,gB];rfl
   refine⟨by rw[v3,i2,m1],?_,by rw[v4];exact i3,?_⟩
   ·rw[V3,List.length_append];simp only[List.isEmpty_cons,Bool.not_false]at m2;omega
   ·refine⟨λr2 hr=>?_,λhk=>absurd (by rw[v5];rfl) hk⟩;obtain⟨r2,rfl⟩:∃g,r2=g+1:=⟨r2-1,by omega⟩
    rw[V3];intro t rest hd hf he;rw[List.append_assoc]at hd
    simp only[List.isEmpty_cons,Bool.not_false,if_true]at m3;have eR:t.pos<=t2.length:=by
     rcases hd.len with h|h
     ·omega
     ·simp[lO,eZ]at h
    obtain⟨t1,a1,a2,a3⟩:=m3 r2 (by omega) t _ hd (by simp only[List.map_cons,lO,eZ];rfl) he;obtain⟨t3,b1,b2,b3⟩:=i7 r2 (by omega) t1 rest (t2.length+1) (hd.add.pos a2) hf a3 (by rw[a2];exact hd.bound eR) (by omega);obtain⟨t',c1,c2,c3⟩:=wC h b3;refine⟨t',?_,?_,c3⟩
    ·show ak (single t2 (eJ t2 r2)) _ t= _;rw[aj a1,aj b1,if_neg (by simp)];exact c1
    ·rw[List.length_append];omega
end
end Ty
end
section
namespace Ty
open Tok (Tk)
def kP(ts:List Ty)(ty:Int):List Lm:=if ty<0 then []else(5,[58])::fD (den ts ty.toNat)
def vm(ts:List Ty)(q:Par):List Lm:=(1,q.text.data.toList)::kP ts q.ty
mutual
def bB(ts:List Ty):Ex->List Lm
 | .num _ n=>[(3,Lib.itoa n)]
 | .text _ x=>[(4,x.data.toList)]
 | .bool _ n=>[(2,if n=1 then [116,114,117,101]else [102,97,108,115,101])]
 | .null _=>[(2,[110,117,108,108])]
 | .var _ x=>[(1,x.data.toList)]
 | .fn _ ps ty _ body=>(2,[102,110]):: (5,[40]):: (gB [(5,[44])] (ps.map (vm ts))++((5,[41]):: (kP ts ty++((5,[123]):: (im ts body++[(5,[125])])))))
 | .call _ a l=>lq (decide (lvl a<4)) (bB ts a)++((5,[40]):: (gB [(5,[44])] (jk ts l)++[(5,[41])]))
 | .get _ a x=>lq (decide (lvl a<4)) (bB ts a)++[(5,[46]),(1,x.data.toList)]
 | .atX _ a b=>lq (decide (lvl a<4)) (bB ts a)++((5,[91]):: (bB ts b++[(5,[93])]))
 | .obj _ l=>(5,[123]):: (gB [(5,[44])] (jI ts l)++[(5,[125])])
 | .arr _ l=>(5,[91]):: (gB [(5,[44])] (jk ts l)++[(5,[93])])
 | .two _ x a b=>lq (decide (lvl a<max (dI x) 1)) (bB ts a)++((5,x.data.toList)::lq (decide (lvl b<dI x+1)) (bB ts b))
 | .one _ x a=>(if x.data.toList=gJ then 2 else 5,x.data.toList)::lq (decide (lvl a<3)) (bB ts a)
 | .asX _ a ty=>lq (decide (lvl a<4)) (bB ts a)++((2,[97,115])::fD (den ts ty.toNat))
def jk(ts:List Ty):List Ex->List (List Lm)
 |[]=>[]
 |e::l=>bB ts e::jk ts l
def jI(ts:List Ty):List (Nat×BA×Ex)->List (List Lm)
 |[]=>[]
 |(_,x,e)::l=>((1,x.data.toList):: (5,[58])::bB ts e)::jI ts l
def im(ts:List Ty):List Sm->List Lm
 |[]=>[]
 |e::l=>dx ts e++im ts l
def dx(ts:List Ty):Sm->List Lm
 | .fZ _ x ty a=>(2,[108,101,116]):: (1,x.data.toList):: (kP ts ty++((5,[61]):: (bB ts a++[(5,[59])])))
 | .set _ x v=>(1,x.data.toList):: (5,[61]):: (bB ts v++[(5,[59])])
 | .put _ a x v=>lq (decide (lvl a<4)) (bB ts a)++((5,[46]):: (1,x.data.toList):: (5,[61]):: (bB ts v++[(5,[59])]))
 | .lay _ a b v=>lq (decide (lvl a<4)) (bB ts a)++((5,[91]):: (bB ts b++((5,[93]):: (5,[61]):: (bB ts v++[(5,[59])]))))
 | .print _ a=>(2,[112,114,105,110,116]):: (bB ts a++[(5,[59])])
 | .ret _ a=>(2,[114,101,116,117,114,110]):: (bB ts a++[(5,[59])])
 | .oL _ a=>bB ts a++[(5,[59])]
 | .if_ _ a _ b none=>(2,[105,102]):: (5,[40]):: (bB ts a++((5,[41]):: (5,[123]):: (im ts b++[(5,[125])])))
 | .if_ _ a _ b (some (_,c))=>(2,[105,102]):: (5,[40]):: (bB ts a++((5,[41]):: (5,[123]):: (im ts b++((5,[125]):: (2,[101,108,115,101]):: (5,[123]):: (im ts c++[(5,[125])])))))
 | .while_ _ a _ b=>(2,[119,104,105,108,101]):: (5,[40]):: (bB ts a++((5,[41]):: (5,[123]):: (im ts b++[(5,[125])])))
end
structure FoB(r:List Lm):Prop where
 a:h_ r [40]=false
 b:h_ r [46]=false
 c:h_ r [91]=false
 d:h_ r [97,115]=false
 f:Le r
structure Fo2(r:List Lm):Prop extends FoB r where
 e:h_ r [42]=false
structure Fo1(r:List Lm):Prop extends Fo2 r where
 g:h_ r [43]=false
 h:h_ r [45]=false
structure FoE(r:List Lm):Prop extends Fo1 r where
 i:h_ r [61,61]=false
 j:h_ r [60]=false
theorem FoE.sign{x:List UInt8}{r:List Lm}(h:x∉[[40],[46],[91],[97,115],[124],[61,62],[42],[43],[45],[61,61],[60]]):FoE ((5,x)::r):=by
 simp at h;exact⟨⟨⟨⟨by grind [h_],by grind [h_],by grind [h_],by grind [h_],⟨by grind [h_],by grind [h_]⟩⟩,by grind [h_]⟩,by grind [h_],by grind [h_]⟩,by grind [h_],by grind [h_]⟩
section
variable (t2:List Tk)
def xd(r2:Nat):M Nat:=oI t2 (eJ t2 r2) (lv t2 r2).E (lv t2 r2).O (lv t2 r2).S
def C4(r2:Nat)(ls:List Lm)(s:St)(n:Nat)(s':St):Prop:=∀t rest,D t2 t.pos (ls++rest)->Le rest->Eqs s t->∃t' f,xd t2 r2 t=behind t2 (eJ t2 r2) (lv t2 r2).E (f+1) n t'/\t'.pos=t.pos+ls.length/\Eqs s' t'/\t2.length<=t'.pos+f
def C3(r2:Nat)(ls:List Lm)(s:St)(n:Nat)(s':St):Prop:=Ac t2 (xd t2 r2) FoB ls s n s'
def C2(r2:Nat)(ls:List Lm)(s:St)(n:Nat)(s':St):Prop:=∀t rest,D t2 t.pos (ls++rest)->FoB rest->Eqs s t->∃t' f,gU t2 (xd t2 r2) t=bM t2 (xd t2 r2) [[42]] (f+1) n t'/\t'.pos=t.pos+ls.length/\Eqs s' t'/\t2.length<=t'.pos+f
def C1(r2:Nat)(ls:List Lm)(s:St)(n:Nat)(s':St):Prop:=∀t rest,D t2 t.pos (ls++rest)->Fo2 rest->Eqs s t->∃t' f,mq t2 (xd t2 r2) t=bM t2 (gU t2 (xd t2 r2)) [[43],[45]] (f+1) n t'/\t'.pos=t.pos+ls.length/\Eqs s' t'/\t2.length<=t'.pos+f
def C0(r2:Nat)(ls:List Lm)(s:St)(n:Nat)(s':St):Prop:=Ac t2 (gW t2 (xd t2 r2)) FoE ls s n s'
def B9(k r2:Nat)(ls:List Lm)(s:St)(n:Nat)(s':St):Prop:=match k with
 |0=>C0 t2 r2 ls s n s'
 |1=>C1 t2 r2 ls s n s'
 |2=>C2 t2 r2 ls s n s'
 |3=>C3 t2 r2 ls s n s'
 | _=>C4 t2 r2 ls s n s'
end
section
variable {t2:List Tk} {r2:Nat} {ls:List Lm} {s s':St} {n:Nat}
theorem C4.c3(h:C4 t2 r2 ls s n s'):C3 t2 r2 ls s n s':=λt rest hd hf he=>by
 obtain⟨t',f,h1,h2,h3,h4⟩:=h t rest hd hf.f he;refine⟨t',?_,h2,h3⟩;have d:=hd.add.pos h2;rw[h1,behind];show ak (take t2 [40]) _ t'= _;rw[aj (aV d hf.a)];simp;rw[aj (aV d hf.b)];simp;rw[aj (aV d hf.c)];simp;rw[aj (aV d hf.d)];rfl
theorem C3.c2(h:C3 t2 r2 ls s n s'):C2 t2 r2 ls s n s':=λt rest hd hf he=>by
 obtain⟨t',h1,h2,h3⟩:=h t rest hd hf he;refine⟨t',t2.length,?_,h2,h3,by omega⟩;unfold gU left;rw[aj h1]
theorem BX{one:M Nat}{aJ:List (List UInt8)}{f:Nat}{t:St}{rest:List Lm}(hd:D t2 t.pos rest)(h:∀x∈aJ,h_ rest x=false):bM t2 one aJ (f+1) n t=.ok (n,t):=by
 have hx: (aJ.any λx=>Ty.is t2 x t.pos)=false:=by
  rw[List.any_eq_false];intro x hx;rw[hd.is,h x hx];simp
 show(if(aJ.any λx=>Ty.is t2 x t.pos)=true then _ else ret n:M Nat) t= _;rw[hx];rfl
theorem C2.prod(h:C2 t2 r2 ls s n s'):Ac t2 (gU t2 (xd t2 r2)) Fo2 ls s n s':=λt rest hd hf he=>by
 obtain⟨t',f,h1,h2,h3,h4⟩:=h t rest hd hf.toFoB he;refine⟨t',?_,h2,h3⟩;rw[h1,BX (hd.add.pos h2) (by simpa using hf.e)]
theorem C2.c1(h:C2 t2 r2 ls s n s'):C1 t2 r2 ls s n s':=λt rest hd hf he=>by
 obtain⟨t',h1,h2,h3⟩:=h.prod t rest hd hf he;refine⟨t',t2.length,?_,h2,h3,by omega⟩;unfold mq left;rw[aj h1]
theorem C1.sum(h:C1 t2 r2 ls s n s'):Ac t2 (mq t2 (xd t2 r2)) Fo1 ls s n s':=λt rest hd hf he=>by
 obtain⟨t',f,h1,h2,h3,h4⟩:=h t rest hd hf.toFo2 he;refine⟨t',?_,h2,h3⟩;rw[h1,BX (hd.add.pos h2) (by
  intro x hx;simp only[List.mem_cons,List.not_mem_nil,or_false]at hx;rcases hx with rfl|rfl
  ·exact hf.g
  ·exact hf.h)]
theorem C1.c0(h:C1 t2 r2 ls s n s'):C0 t2 r2 ls s n s':=λt rest hd hf he=>by
 obtain⟨t',h1,h2,h3⟩:=h.sum t rest hd hf.toFo1 he;refine⟨t',?_,h2,h3⟩;have d:=hd.add.pos h2;unfold gW;rw[aj h1,aj (aV d hf.i)];simp;rw[aj (aV d hf.j)];rfl
theorem B9.down:∀{k:Nat},B9 t2 k r2 ls s n s'->∀j,j<=k->B9 t2 j r2 ls s n s'
 |0,h,j,hj=>by
  obtain rfl:j=0:=by omega
  exact h
 |1,h,j,hj=>by
  rcases(show j=0\/j=1 by omega)with rfl|rfl
  ·exact C1.c0 h
  ·exact h
 |2,h,j,hj=>by
  rcases(show j<=1\/j=2 by omega)with h1|rfl
  ·exact B9.down (k:=1) (C2.c1 h) j h1
  ·exact h
 |3,h,j,hj=>by
  rcases(show j<=2\/j=3 by omega)with h1|rfl
  ·exact B9.down (k:=2) (C3.c2 h) j h1
  ·exact h
 |k+4,h,j,hj=>by
  rcases(show j<=3\/4<=j by omega)with h1|h1
  ·exact B9.down (k:=3) (C4.c3 h) j h1
  ·obtain⟨j,rfl⟩:∃g,j=g+4:=⟨j-4,by omega⟩
   exact h
def GE(t2:List Tk)(r lv:Nat)(ls:List Lm)(s:St)(n:Nat)(s':St):Prop:=∀r2,r<=r2->B9 t2 lv r2 ls s n s'
theorem GE.up{r r' lv:Nat}(h:GE t2 r lv ls s n s')(hr:r<=r'):GE t2 r' lv ls s n s':=λr2 h2=>h r2 (by omega)
theorem GE.e0{r lv:Nat}(h:GE t2 r lv ls s n s')(r2:Nat)(hr:r<=r2):C0 t2 r2 ls s n s':=B9.down (h r2 hr) 0 (Nat.zero_le _)
theorem JI{t:St}{l:Lm}{r:List Lm}(hd:D t2 t.pos (l::r))(h:dc.any (λx=>h_ (l::r) x)=false): (dc.any λx=>Ty.is t2 x t.pos)=false:=by
 rw[<-h];congr 1;funext x;exact hd.is x
theorem gT{T E S:M Nat}{t:St}{l:Lm}{r:List Lm}(hd:D t2 t.pos (l::r))(h:l.1=5\/l.1=2):bO t2 T E S t=
  ak (take t2 [116,114,117,101]) (λb=>if b then addNode {af 3 (cur t2 t.pos).pos with n:=1}else
  ak (take t2 [102,97,108,115,101]) λb=>if b then addNode (af 3 (cur t2 t.pos).pos)else
  ak (take t2 [110,117,108,108]) λb=>if b then addNode (af 4 (cur t2 t.pos).pos)else
  ak (take t2 [102,110]) λb=>if b then bH t2 T S (cur t2 t.pos).pos else
  ak (take t2 [91]) λb=>if b then ak (list t2 [93] (λ_=>E) (t2.length+1) []) λl=>addNode {af 11 (cur t2 t.pos).pos with list:=l}else
  ak (take t2 [123]) λb=>if b then ak (list t2 [125] (λl=>fV t2 E (l.map Prod.fst)) (t2.length+1) []) λl=>addNode {af 10 (cur t2 t.pos).pos with list:=l.map Prod.snd}else
  ak (need t2 [40]) λ_=>ak E λa=>ak (need t2 [41]) λ_=>ret a) t:=by
 have hk: (cur t2 t.pos).kind=l.1:=congrArg Prod.fst hd.cur;show(if(cur t2 t.pos).kind=3 then _ else if(cur t2 t.pos).kind=4 then _ else if(cur t2 t.pos).kind=1 then _ else _:M Nat) t= _;rw[if_neg (by omega),if_neg (by omega),if_neg (by omega)]
theorem FO{t:St}{l:Lm}{r:List Lm}(hd:D t2 t.pos (l::r))(h:dc.any (λx=>h_ (l::r) x)=false){t':St}(hs:bO t2 (eJ t2 r2) (lv t2 r2).E (lv t2 r2).S t=.ok (n,t')):xd t2 r2 t=behind t2 (eJ t2 r2) (lv t2 r2).E (t2.length+1) n t':=by
 show(if(dc.any λx=>Ty.is t2 x t.pos)=true then _ else ak (bO t2 (eJ t2 r2) (lv t2 r2).E (lv t2 r2).S) _:M Nat) t= _
 grind [JI,aj]
theorem gD(h:∀t rest,D t2 t.pos (ls++rest)->Eqs s t->∃l r t',ls++rest=l::r/\dc.any (λx=>h_ (l::r) x)=false/\bO t2 (eJ t2 r2) (lv t2 r2).E (lv t2 r2).S t=.ok (n,t')/\t'.pos=t.pos+ls.length/\Eqs s' t'):C4 t2 r2 ls s n s':=λt rest hd _ he=>by
 obtain⟨l,r,t',h1,h2,h3,h4,h5⟩:=h t rest hd he;rw[h1]at hd
 exact⟨t',t2.length,FO hd h2 h3,h4,h5,by omega⟩
theorem dr{s s1 t:St}{a b:Nd}{n:Nat}(h:addNode a s=.ok (n,s1))(he:Eqs s t)(GJ:er b=er a):∃t',addNode b t=.ok (n,t')/\t'.pos=t.pos/\Eqs s1 t':=by
 cases h;have hl:t.ns.length=s.ns.length:=by have:=congrArg List.length he.ns;simpa using this
 refine⟨{t with ns:=t.ns++[b]},?_,rfl,he.ts,by simp[he.ns,GJ]⟩
 grind [addNode]
theorem MA{r lv:Nat}(h:GE t2 r lv ls s n s')(hr:r+1<=r2):C4 t2 r2 ((5,[40]):: (ls++[(5,[41])])) s n s':=by
 obtain⟨r2,rfl⟩:∃g,r2=g+1:=⟨r2-1,by omega⟩
 refine gD λt rest hd he=>?_
 simp only[List.cons_append,List.append_assoc]at hd⊢;obtain⟨t1,a1,a2,a3⟩:=h.e0 r2 (by omega) {t with pos:=t.pos+1} _ hd.next (FoE.sign (by decide)) (he.atR _);have d1:=hd.next.add.pos a2;refine⟨_,_,{t1 with pos:=t1.pos+1},rfl,rfl,?_,?_,a3.atR _⟩
 ·rw[gT hd (.inl rfl),aj (aV hd rfl)];simp;rw[aj (aV hd rfl)];simp;rw[aj (aV hd rfl)];simp;rw[aj (aV hd rfl)];simp;rw[aj (aV hd rfl)];simp;rw[aj (aV hd rfl)];simp;rw[aj (eC hd rfl),aj (show(Ty.lv t2 (r2+1)).E {t with pos:=t.pos+1}=.ok (n,t1)from a1),aj (eC d1 rfl)];rfl
 grind
end
def oh:List (List UInt8):=[[101,108,115,101],[125],[41],[93],[44]]
def A':List (List UInt8):=oh++[[108,101,116],[112,114,105,110,116],[114,101,116,117,114,110],[105,102],[119,104,105,108,101]]
def mC(S:List (List UInt8))(ls:List Lm):Prop:=∃l r,ls=l::r/\∀x∈S,h_ [l] x=false
abbrev zP(ls:List Lm):Prop:=mC A' ls
theorem mC.at{S:List (List UInt8)}{ls:List Lm}(h:mC S ls)(rest:List Lm){x:List UInt8}(hx:x∈S):h_ (ls++rest) x=false:=by
 obtain⟨l,r,rfl,h⟩:=h;exact h x hx
theorem mC.oW{ls:List Lm}(h:mC A' ls):mC oh ls:=by
 obtain⟨l,r,e,h⟩:=h;exact⟨l,r,e,λx hx=>h x (List.mem_append_left _ hx)⟩
theorem mC.no{ls:List Lm}(h:mC A' ls)(rest:List Lm){x:List UInt8}(hx:x∈oh):h_ (ls++rest) x=false:=h.oW.at rest hx
theorem mC.app{S:List (List UInt8)}{ls:List Lm}(h:mC S ls)(k:List Lm):mC S (ls++k):=by
 obtain⟨l,r,rfl,h⟩:=h;exact⟨l,r++k,rfl,h⟩
theorem mC.len{S:List (List UInt8)}{ls:List Lm}(h:mC S ls):1<=ls.length:=by obtain⟨l,r,rfl,h⟩:=h;simp
def Op(t2:List Tk)(k r:Nat)(s:St)(n:Nat)(s':St):Prop:=∃e ls,aF e s.ns=(s'.ns,n)/\(∀cH,Ext s'.ts cH->bB cH e=ls)/\zP ls/\GE t2 r (lvl e) ls s n s'/\
 ((k<=lvl e/\s.pos+ls.length<=s'.pos)\/∃r',r=r'+1/\GE t2 r' (lvl e) ls s n s'/\s.pos+ls.length+2<=s'.pos)
section
variable {t2:List Tk} {k r:Nat} {s s':St} {n:Nat}
theorem Op.down(h:Op t2 k r s n s'){j:Nat}(hj:j<=k):Op t2 j r s n s':=by
 obtain⟨e,ls,h1,h2,hh,h3,h4⟩:=h;refine⟨e,ls,h1,h2,hh,h3,?_⟩
 grind
theorem Op.part(h:Op t2 k r s n s'):∃e ls,aF e s.ns=(s'.ns,n)/\(∀cH,Ext s'.ts cH->lq (decide (lvl e<k)) (bB cH e)=ls)/\zP ls/\s.pos+ls.length<=s'.pos/\∀r2,r<=r2->B9 t2 k r2 ls s n s':=by
 obtain⟨e,ls,h1,h2,hh,h3,h4⟩:=h;by_cases hk:lvl e<k
 ·rcases h4 with⟨h4,_⟩|⟨r',rfl,h5,h6⟩
  ·omega
  ·refine⟨e,(5,[40]):: (ls++[(5,[41])]),h1,λcH hx=>?_,⟨_,_,rfl,by decide⟩,?_,λr2 hr=>B9.down (k:=4+k) (by rw[Nat.add_comm];exact MA h5 hr) k (by omega)⟩
   ·rw[decide_eq_true hk,h2 cH hx];rfl
   grind
 ·refine⟨e,ls,h1,λcH hx=>?_,hh,by omega,λr2 hr=>B9.down (h3 r2 hr) k (by omega)⟩;rw[decide_eq_false hk,h2 cH hx];rfl
theorem Op.whole(h:Op t2 k r s n s'):∃e ls,aF e s.ns=(s'.ns,n)/\(∀cH,Ext s'.ts cH->bB cH e=ls)/\zP ls/\s.pos+ls.length<=s'.pos/\GE t2 r (lvl e) ls s n s':=by
 obtain⟨e,ls,h1,h2,hh,h3,h4⟩:=h
 grind
end
end Ty
end
end Go.Proofs.YtdlbhiaceheffabGreatDoor
