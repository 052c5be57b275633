/- Plain: what was read once, and printed, is read again as it was: mq, comparisons, lists. No program in sight. -/
import Derived.Lib.ItoaMem
import Derived.Test.YtdlbhiaceheffabGreatDoorC41
set_option linter.all false
namespace Go.Proofs.YtdlbhiaceheffabGreatDoor
open Go Go.RowKit Ty Tok Prt
section
namespace Ty
open Tok (Tk)
section
variable {ad t2:List Tk}
def CL(t2:List Tk)(ONE:M Nat)(aJ:List (List UInt8))(Fo:List Lm->Prop)(ls:List Lm)(s:St)(n:Nat)(s':St):Prop:=
 ∀t rest,D t2 t.pos (ls++rest)->Fo rest->Eqs s t->∃t' f,left t2 ONE aJ t=bM t2 ONE aJ (f+1) n t'/\t'.pos=t.pos+ls.length/\Eqs s' t'/\t2.length<=t'.pos+f
theorem Qk{s t:St}(he:Eqs s t)(a:Nat):er (aY t a)=er (aY s a):=by
 have h1:t.ns[a]?.map er=s.ns[a]?.map er:=by rw[<-List.getElem?_map,<-List.getElem?_map,he.ns]
 unfold aY;cases h2:t.ns[a]? with
 |none=>rw[h2]at h1;cases h3:s.ns[a]? with
  |none=>rfl
  |some x=>rw[h3]at h1;cases h1
 |some y=>rw[h2]at h1;cases h3:s.ns[a]? with
  |none=>rw[h3]at h1;cases h1
  |some x=>rw[h3]at h1;simpa using h1
theorem Bc{x y:BA}(aaq:x=y){a b m:Nat}{s s1 t:St}(h:two x a b s=.ok (m,s1))(he:Eqs s t):∃t',two y a b t=.ok (m,t')/\t'.pos=t.pos/\Eqs s1 t':=by
 subst aaq;exact dr h he rfl
theorem vi{t:St}{k:Nat}{x:BA}{r:List Lm}(hd:D t2 t.pos ((k,x.data.toList)::r)): (cur t2 t.pos).text=x:=by
 have h1:=congrArg Prod.snd hd.cur;exact ByteArray.ext (Array.ext' h1)
theorem UC{ONE:M Nat}{aJ:List (List UInt8)}{Fo:List Lm->Prop}{ac9 acw:List Lm}{x:BA}{s s1 Lc s2 s3:St}{n b m:Nat}(h1:CL t2 ONE aJ Fo ac9 s n s1)(h2:Ac t2 ONE Fo acw Lc b s2)(e1:Lc.ts=s1.ts)(e2:Lc.ns=s1.ns)
  (hx:x.data.toList∈aJ) (hf:∀r,Fo ((5,x.data.toList)::r)) (h3:two x n b s2=.ok (m,s3)):CL t2 ONE aJ Fo (ac9++(5,x.data.toList)::acw) s m s3:=λt rest hd Uv he=>by
 simp at hd;obtain⟨t1,f,a1,a2,a3,a4⟩:=h1 t _ hd (hf _) he;have d1:=hd.add.pos a2;have bz:=d1.lt;obtain⟨aho,b1,b2,b3⟩:=h2 {t1 with pos:=t1.pos+1} rest d1.next Uv ((a3.of e1 e2).atR _);obtain⟨t3,c1,c2,c3⟩:=Bc (vi d1).symm h3 b3;obtain⟨f,rfl⟩:∃g,f=g+1:=⟨f-1,by omega⟩
 refine⟨t3,f,?_,?_,c3,?_⟩
 ·rw[a1,bM];have su: (aJ.any λx=>Ty.is t2 x t1.pos)=true:=List.any_eq_true.2 ⟨_,hx,by rw[d1.is];simp[h_]⟩;show(if(aJ.any λx=>Ty.is t2 x t1.pos)=true then ak step λ_=>ak ONE λb=>ak (two (cur t2 t1.pos).text n b) λm=>bM t2 ONE aJ (f+1) m else ret n:M Nat) t1= _;rw[if_pos su,aj (show step t1=.ok ((),{t1 with pos:=t1.pos+1})from rfl),aj b1,aj c1]
 ·grind
 ·grind
theorem dD{s s':St}(h:Inv s)(h1:s'.ts=s.ts)(h2:s'.ns=s.ns):Inv s':=⟨by rw[h1];exact h.wf,by rw[h1];exact h.nm,by rw[h1,h2];exact h.ns⟩
def Pv(t2:List Tk)(k r:Nat)(m:M Nat):Prop:=∀s n s',Inv s->m s=.ok (n,s')->Inv s'/\Ext s.ts s'.ts/\Op t2 k r s n s'
theorem T0{aJ:List (List UInt8)}{p:Nat}(h:aJ.any (λx=>Ty.is ad x p)=true): (cur ad p).text.data.toList∈aJ:=sf h
theorem GH{x:BA}{a b m:Nat}{s s':St}(h:two x a b s=.ok (m,s')):s'.ts=s.ts/\s'.pos=s.pos/\m=s.ns.length/\s'.ns=s.ns++[{af 12 (aY s a).pos with text:=x,a:=a,b:=b}]:=by cases h;exact⟨rfl,rfl,rfl,rfl⟩
theorem H_{k r:Nat}(hk:1<=k){ONE:M Nat}{aJ:List (List UInt8)}(Ku:k<=2)(H:Pv t2 (k+1) r ONE)(zc:∀t0,IK t0 ONE λ_ _=>True)(hs:∀x:BA,x.data.toList∈aJ->dI x=k)
  (hS:aJ⊆gA) (hT:∀t∈ad,TkOk t) {O1:Nat->M Nat} {Fo:List Lm->Prop} (hC:∀r2 ls s n s',B9 t2 (k+1) r2 ls s n s'->Ac t2 (O1 r2) Fo ls s n s') (hL:∀r2 ls s n s',B9 t2 k r2 ls s n s'↔CL t2 (O1 r2) aJ Fo ls s n s')
  (hF:∀(x:List UInt8) r,x∈aJ->Fo ((5,x)::r)):∀f n s0 s,Inv s->Ext s0.ts s.ts->Op t2 k r s0 n s->∀m s',bM ad ONE aJ f n s=.ok (m,s')->Inv s'/\Ext s0.ts s'.ts/\Op t2 k r s0 m s'
 |0,_,_,_,_,_,_,_,_,h=>by cases h
 |f+1,n,s0,s,hi,hx,ho,m,s',h=>by
  have h: (if(aJ.any λx=>Ty.is ad x s.pos)=true then ak step λ_=>ak ONE λb=>ak (two (cur ad s.pos).text n b) λm=>bM ad ONE aJ f m else ret n:M Nat) s=.ok (m,s'):=h;split at h
  ·rename_i OQ;obtain⟨u,s1,e1,h⟩:=ah h;obtain rfl:s1={s with pos:=s.pos+1}:=by cases e1;rfl
   obtain⟨b,s2,e2,h⟩:=ah h;obtain⟨q,s3,e3,h⟩:=ah h;obtain⟨i2,x2,o2⟩:=H {s with pos:=s.pos+1} b s2 (dD hi rfl rfl) e2;have B2:=T0 OQ;have WH:=hs _ B2;obtain⟨w1,w2,w3,w4⟩:=GH e3;have i3:=((IK.two (t0:=[]) (hS B2) (vL hT _).size) s2 q s3 ⟨_,rfl⟩ i2 e3).1;obtain⟨ea,la,a1,a2,a3,a4,a5⟩:=ho.part;obtain⟨eb,lb,b1,b2,b3,b4,b5⟩:=o2.part;have hE:aF (.two (aY s2 n).pos (cur ad s.pos).text ea eb) s0.ns=(s3.ns,q):=by
    grind [aF]
   refine H_ hk Ku H zc hs hS hT hC hL hF f q s0 s3 i3 (by rw[w1];exact hx.trans x2) ⟨_,la++(5,(cur ad s.pos).text.data.toList)::lb,hE,λcH za=>?_,a3.app _,?_,?_⟩ m s' h
   ·rw[w1]at za
    rw[bB,WH,show max k 1=k by omega,a2 cH (x2.trans za),b2 cH za]
   ·rw[lvl,WH];intro r2 hr
    grind [UC]
   grind [lvl]
  ·cases h
   grind
theorem Hr{k r:Nat}(hk:1<=k){ONE:M Nat}{aJ:List (List UInt8)}(Ku:k<=2)(H:Pv t2 (k+1) r ONE)(zc:∀t0,IK t0 ONE λ_ _=>True)(hs:∀x:BA,x.data.toList∈aJ->dI x=k)
  (hS:aJ⊆gA) (hT:∀t∈ad,TkOk t) {O1:Nat->M Nat} {Fo:List Lm->Prop} (hC:∀r2 ls s n s',B9 t2 (k+1) r2 ls s n s'->Ac t2 (O1 r2) Fo ls s n s') (hL:∀r2 ls s n s',B9 t2 k r2 ls s n s'↔CL t2 (O1 r2) aJ Fo ls s n s')
  (hF:∀(x:List UInt8) r,x∈aJ->Fo ((5,x)::r)):Pv t2 k r (left ad ONE aJ):=λs n s' hi h=>by
 obtain⟨a,s1,e1,h⟩:=ah h;obtain⟨i1,x1,o1⟩:=H _ _ _ hi e1;exact H_ hk Ku H zc hs hS hT hC hL hF _ _ s s1 i1 x1 (o1.down (by omega)) _ _ h
theorem Hz{x:BA}{y:List UInt8}(h:x.data.toList=y):dI x=if y=[42]then 2 else if y=[43]\/y=[45]then 1 else 0:=by grind [dI]
theorem Ct{r:Nat}(hT:∀t∈ad,TkOk t){ONE:M Nat}(H:Pv t2 3 r ONE)(zc:∀t0,IK t0 ONE λ_ _=>True):Pv t2 2 r (gU ad ONE):=
 Hr (by omega) (by omega) H zc (λx hx=>by simp_all[Hz]) (by simp[gA]) hT (λ_ _ _ _ _ h=>h) (λ_ _ _ _ _=>Iff.rfl) (λx r hx=>by
  simp at hx;subst hx;exact⟨rfl,rfl,rfl,rfl,rfl,rfl⟩)
theorem Rt{r:Nat}(hT:∀t∈ad,TkOk t){ONE:M Nat}(H:Pv t2 3 r ONE)(zc:∀t0,IK t0 ONE λ_ _=>True):Pv t2 1 r (mq ad ONE):=
 Hr (by omega) (by omega) (Ct hT H zc) (Bh hT (by simp[gA]) zc) (λx hx=>by
  simp at hx;rcases hx with hx|hx<;>(rw[Hz hx];rfl)) (by simp[gA]) hT (λ_ _ _ _ _ h=>C2.prod h) (λ_ _ _ _ _=>Iff.rfl) (λx r hx=>by
  simp at hx;rcases hx with rfl|rfl<;>exact⟨⟨rfl,rfl,rfl,rfl,rfl,rfl⟩,rfl⟩)
theorem OG{r:Nat}(x:BA)(hx:dI x=0){s s1 Lc s2 s3:St}{n b m:Nat}(ho:Op t2 1 r s n s1)(hb:Op t2 1 r Lc b s2)(e1:Lc.ts=s1.ts)(e2:Lc.ns=s1.ns)(ep:Lc.pos=s1.pos+1)(x2:Ext s1.ts s2.ts)(h3:two x n b s2=.ok (m,s3))
  (hc:x.data.toList=[61,61]\/x.data.toList=[60]):Op t2 0 r s m s3:=by
 obtain⟨ea,la,a1,a2,a3,a4,a5⟩:=ho.part;obtain⟨eb,lb,b1,b2,b3,b4,b5⟩:=hb.part;obtain⟨w1,w2,w3,w4⟩:=GH h3;refine⟨.two (aY s2 n).pos x ea eb,la++(5,x.data.toList)::lb,?_,λcH za=>?_,a3.app _,?_,.inl ⟨Nat.zero_le _,?_⟩⟩
 ·grind [aF]
 ·rw[w1]at za
  rw[bB,hx,show max 0 1=1 from rfl,a2 cH (x2.trans za),b2 cH za]
 ·rw[lvl,hx];intro r2 hr t rest hd hf he;simp at hd;have f1:Fo1 ((5,x.data.toList):: (lb++rest)):=by rcases hc with hc|hc<;>(rw[hc];exact⟨⟨⟨rfl,rfl,rfl,rfl,rfl,rfl⟩,rfl⟩,rfl,rfl⟩)
  obtain⟨t1,c1,c2,c3⟩:=(C1.sum (a5 r2 hr)) t _ hd f1 he;have d1:=hd.add.pos c2;obtain⟨t3,g1,g2,g3⟩:=(C1.sum (b5 r2 hr)) {t1 with pos:=t1.pos+1} rest d1.next hf.toFo1 ((c3.of e1 e2).atR _);refine(?_:∀y:BA,x=y->∃t',gW t2 (xd t2 r2) t=.ok (m,t')/\t'.pos=t.pos+(la++(5,x.data.toList)::lb).length/\Eqs s3 t') x rfl;intro y _;rcases hc with hc|hc
  ·have hy:x=⟨#[61,61]⟩:=ByteArray.ext (Array.ext' hc);obtain⟨t4,k1,k2,k3⟩:=Bc hy h3 g3;refine⟨t4,?_,?_,k3⟩
   ·unfold gW;rw[aj c1,aj (dh d1 (by rw[hc];rfl)),if_pos rfl,aj g1];exact k1
   grind
  ·have hy:x=⟨#[60]⟩:=ByteArray.ext (Array.ext' hc);obtain⟨t4,k1,k2,k3⟩:=Bc hy h3 g3;refine⟨t4,?_,?_,k3⟩
   ·unfold gW;rw[aj c1,aj (aV d1 (by rw[hc];rfl)),if_neg (by simp),aj (dh d1 (by rw[hc];rfl)),if_pos rfl,aj g1];exact k1
   grind
 ·grind
theorem QK{r:Nat}(hT:∀t∈ad,TkOk t){ONE:M Nat}(H:Pv t2 3 r ONE)(zc:∀t0,IK t0 ONE λ_ _=>True):Pv t2 0 r (gW ad ONE):=λs n s' hi h=>by
 have eB:=(BO hT zc s.ts) s n s' (Ext.refl _) hi h;refine⟨eB.1,eB.2.1,?_⟩;have HS:=Rt hT H zc;obtain⟨a,s1,e1,h⟩:=ah h;obtain⟨i1,x1,o1⟩:=HS _ _ _ hi e1;obtain⟨b,s2,e2,h⟩:=ah h;obtain⟨hb,q1,q2,q3⟩:=b_ e2;cases fF:Ty.is ad [61,61] s1.pos with
 |true=>
  rw[fF]at hb q3
  subst hb;obtain⟨m,s3,e3,h⟩:=ah (show ak (mq ad ONE) (λm=>two ⟨#[61,61]⟩ a m) s2= _ from h);obtain⟨i3,x3,o3⟩:=HS _ _ _ (dD i1 q1 q2) e3;exact OG ⟨#[61,61]⟩ rfl o1 o3 q1 q2 q3 (by grind) h (.inl rfl)
 |false=>
  rw[fF]at hb q3
  subst hb;simp at q3;obtain⟨b,s3,e3,h⟩:=ah (show ak (take ad [60]) _ s2= _ from h);obtain⟨hb,p1,p2,p3⟩:=b_ e3;cases Va:Ty.is ad [60] s2.pos with
  |true=>
   rw[Va]at hb p3
   subst hb;rw[if_pos rfl]at p3
   obtain⟨m,s4,e4,h⟩:=ah (show ak (mq ad ONE) (λm=>two ⟨#[60]⟩ a m) s3= _ from h);obtain⟨i4,x4,o4⟩:=HS _ _ _ (dD i1 (p1.trans q1) (p2.trans q2)) e4;exact OG ⟨#[60]⟩ rfl o1 o4 (p1.trans q1) (p2.trans q2) (by omega) (by grind) h (.inr rfl)
  |false=>
   rw[Va]at hb p3
   subst hb;obtain⟨rfl,rfl⟩:a=n/\s3=s':=by cases h;exact⟨rfl,rfl⟩
   obtain⟨e,ls,h1,h2,hh,h3,h4⟩:=o1.down (Nat.zero_le 1);refine⟨e,ls,by grind,by grind,hh,λr2 hr=>?_,?_⟩
   ·have hc:=h3 r2 hr;have Ve:∀k,B9 t2 k r2 ls s a s1->B9 t2 k r2 ls s a s3:=by
     intro k hk;have t3:=p1.trans q1;have n3:=p2.trans q2
     match k,hk with
     |0,hk=>exact Ac.of hk rfl rfl t3 n3
     |1,hk=>exact λt rest hd hf he=>by obtain⟨t',f,a1,a2,a3,a4⟩:=hk t rest hd hf he;exact⟨t',f,a1,a2,a3.of t3 n3,a4⟩
     |2,hk=>exact λt rest hd hf he=>by obtain⟨t',f,a1,a2,a3,a4⟩:=hk t rest hd hf he;exact⟨t',f,a1,a2,a3.of t3 n3,a4⟩
     |3,hk=>exact Ac.of hk rfl rfl t3 n3
     |k+4,hk=>exact λt rest hd hf he=>by obtain⟨t',f,a1,a2,a3,a4⟩:=hk t rest hd hf he;exact⟨t',f,a1,a2,a3.of t3 n3,a4⟩
    grind
   omega
end
end Ty
end
section
namespace Ty
open Tok (Tk)
structure FoC(r:List Lm):Prop extends FoE r where
 k:h_ r [58]=false
theorem FoC.sign{x:List UInt8}{r:List Lm}(h:x∉[[40],[46],[91],[97,115],[124],[61,62],[42],[43],[45],[61,61],[60],[58]]):FoC ((5,x)::r):=
 ⟨FoE.sign (λhx=>h (List.mem_append_left [[58]] hx)),by
  have:x≠[58]:=by simp_all
  simp[h_,this]⟩
def M5{α β:Type}(Lay:β->List Nd->α->List Nd->Prop):List β->List Nd->List α->List Nd->Prop
 |[],ns,az,l8=>az=[]/\l8=ns
 |b::bs,ns,az,l8=>∃a PV pL,az=a::PV/\Lay b ns a pL/\M5 Lay bs pL PV l8
def agP{α β:Type}(t2:List Tk)(r:Nat)(lx:List Ty->β->List Lm)(Lay:β->List Nd->α->List Nd->Prop)(m2:Nat->List α->M α)(l:List α)(s:St)(a:α)(s':St):Prop:=
 Inv s'/\Ext s.ts s'.ts/\∃b ls,Lay b s.ns a s'.ns/\(∀cH,Ext s'.ts cH->lx cH b=ls)/\zP ls/\s.pos+ls.length<=s'.pos/\∀r2,r<=r2->Ac t2 (m2 r2 l) FoC ls s a s'
def jn(n:Nat)(l:List (List Lm)):List Lm:=if n=0 then gB [(5,[44])] l else eZ [(5,[44])] l
theorem PR(n:Nat)(x:List Lm)(l:List (List Lm)):jn n (x::l)=(if n=0 then []else [(5,[44])])++(x++eZ [(5,[44])] l):=by
 grind [jn,gB,eZ]
theorem S2(n:Nat):jn n []=[]:=by unfold jn;split<;>rfl
section
variable {ad t2:List Tk}
theorem uU{α β:Type}{r:Nat}{lx:List Ty->β->List Lm}{Lay:β->List Nd->α->List Nd->Prop}{m2:Nat->List α->M α}{m:List α->M α}{x:List UInt8}(hx:x∈oh)(F_:x≠[44])(Ye:∀r,FoC ((5,x)::r))
  (H:∀l s a s',Inv s->m l s=.ok (a,s')->agP t2 r lx Lay m2 l s a s'):∀f(l:List α) s l' s',Inv s->list ad x m f l s=.ok (l',s')->Inv s'/\Ext s.ts s'.ts/\∃bs az LS,l'=l++az/\M5 Lay bs s.ns az s'.ns/\
   (∀cH,Ext s'.ts cH->jn l.length (bs.map (lx cH))=LS)/\s.pos+LS.length+1<=s'.pos/\
   ∀r2,r<=r2->∀t rest f2,D t2 t.pos (LS++(5,x)::rest)->Eqs s t->t2.length<t.pos+f2->∃t',list t2 x (m2 r2) f2 l t=.ok (l',t')/\t'.pos=t.pos+LS.length+1/\Eqs s' t'
 |0,_,_,_,_,_,h=>by cases h
 |f+1,l,s,l',s',hi,h=>by
  obtain⟨b,s1,e1,h⟩:=ah h;obtain⟨hb,q1,q2,q3⟩:=b_ e1;cases fF:Ty.is ad x s.pos with
  |true=>
   rw[fF]at hb q3
   subst hb;simp only[if_true]at h q3;obtain⟨rfl,rfl⟩:l=l'/\s1=s':=by cases h;exact⟨rfl,rfl⟩
   refine⟨dD hi q1 q2,by rw[q1];exact Ext.refl _,[],[],[],by simp,⟨rfl,q2⟩,λ_ _=>S2 _,by simp;omega,λr2 _ t rest f2 hd he Ea=>?_⟩;have hd:D t2 t.pos ((5,x)::rest):=hd;have:=hd.lt;obtain⟨f2,rfl⟩:∃g,f2=g+1:=⟨f2-1,by omega⟩
   refine⟨{t with pos:=t.pos+1},?_,rfl,(he.of q1 q2).atR _⟩;rw[list,aj (dh hd (by simp[h_]))];rfl
  |false=>
   rw[fF]at hb q3
   subst hb;simp only[Bool.false_eq_true,if_false]at h q3;obtain⟨u,s2,e2,h⟩:=ah h;have h2:s2.ts=s1.ts/\s2.ns=s1.ns/\s2.pos=s1.pos+(if l.length=0 then 0 else 1):=by
    split at e2
    ·rename_i h0;cases e2;rw[if_pos h0];exact⟨rfl,rfl,rfl⟩
    ·rename_i h0;obtain⟨_,a,b,c⟩:=dO e2;rw[if_neg h0];exact⟨a,b,c⟩
   obtain⟨p1,p2,p3⟩:=h2;obtain⟨n,s3,e3,h⟩:=ah h;have t12:s2.ts=s.ts:=p1.trans q1;have n12:s2.ns=s.ns:=p2.trans q2;obtain⟨i3,x3,b,ls,k1,k2,k3,k4,k5⟩:=H l s2 n s3 (dD hi t12 n12) e3;obtain⟨i4,x4,bs,az,LS,g1,g2,g3,g4,g5⟩:=uU hx F_ Ye H f (l++[n]) s3 l' s' i3 h;have eR: (l++[n]).length≠0:=by simp
   have ej:∀y:List (List Lm),jn (l++[n]).length y=eZ [(5,[44])] y:=λy=>by unfold jn;rw[if_neg eR]
   have ec: (if l.length=0 then([]:List Lm)else [(5,[44])]).length=if l.length=0 then 0 else 1:=by split<;>rfl
   refine⟨i4,by rw[<-t12];exact x3.trans x4,b::bs,n::az,(if l.length=0 then []else [(5,[44])])++(ls++LS),by rw[g1];simp,⟨n,az,s3.ns,rfl,by rw[<-n12];exact k1,g2⟩,λcH za=>?_,?_,λr2 hr t rest f2 hd he Ea=>?_⟩
   ·rw[List.map_cons,PR,k2 cH (x4.trans za),<-ej,g3 cH za]
   ·grind
   ·simp only[List.append_assoc]at hd;have qq:h_ ((if l.length=0 then([]:List Lm)else [(5,[44])])++(ls++(LS++(5,x)::rest))) x=false:=by
     split
     ·exact k3.no _ hx
     grind [h_]
    obtain⟨t1,c1,c2,c3,c4⟩:∃t1,(if l.length=0 then ret ()else need t2 [44]:M Unit) t=.ok ((),t1)/\t1.pos=t.pos+(if l.length=0 then 0 else 1)/\D t2 t1.pos (ls++(LS++(5,x)::rest))/\Eqs s t1:=by
     by_cases h0:l.length=0
     ·rw[if_pos h0]at hd;rw[if_pos h0,if_pos h0];exact⟨t,rfl,rfl,hd,he⟩
     ·rw[if_neg h0]at hd;rw[if_neg h0,if_neg h0];exact⟨_,eC (l:=(5,[44])) hd rfl,rfl,D.next (l:=(5,[44])) hd,he.atR _⟩
    have Uv:FoC (LS++(5,x)::rest):=by
     have h1:=g3 s'.ts (Ext.refl _);rw[ej]at h1
     cases bs with
     |nil=>rw[<-h1];exact Ye _
     |cons b2 bs=>rw[<-h1,List.map_cons,eZ];exact FoC.sign (by decide)
    obtain⟨t3,a1,a2,a3⟩:=k5 r2 hr t1 _ c3 Uv (c4.of t12 n12);have:=k3.len;have bz:t.pos<t2.length:=by
     by_cases h0:l.length=0
     ·rw[if_pos h0]at c2
      have:t1.pos<t2.length:=by
       obtain⟨u,v,e,_⟩:=k3;rw[e]at c3;exact c3.lt
      omega
     ·rw[if_neg h0]at hd;exact D.lt (l:=(5,[44])) hd
    obtain⟨f2,rfl⟩:∃g,f2=g+1:=⟨f2-1,by omega⟩
    obtain⟨t',b1,b2,b3⟩:=g5 r2 hr t3 rest f2 (c3.add.pos a2) a3 (by omega);refine⟨t',?_,?_,b3⟩
    ·rw[list,aj (aV hd qq)]
     grind [aj]
    grind
theorem qV(hT:∀t∈ad,TkOk t)(hL:ad.length<=1001){r:Nat}{s s':St}{ty:Int}(hi:Inv s)(h:written ad (eJ ad r) s=.ok (ty,s')):
  Inv s'/\Ext s.ts s'.ts/\s'.ns=s.ns/\∃ls,(∀cH,Ext s'.ts cH->kP cH ty=ls)/\s.pos+ls.length<=s'.pos/\(∀x y:List UInt8,∀r,x≠y->y≠[58]->h_ (ls++(5,x)::r) y=false)/\
   ∀r2,r<=r2->Ac t2 (written t2 (eJ t2 r2)) (λx=>h_ x [58]=false/\Le x) ls s ty s':=by
 have eB:=nH (λt0=>IK.eJ hT hL r) s.ts s ty s' (Ext.refl _) hi h;refine⟨eB.1,eB.2.1,?_⟩;obtain⟨b,s1,e1,h⟩:=ah h;obtain⟨hb,q1,q2,q3⟩:=b_ e1;cases fF:Ty.is ad [58] s.pos with
 |true=>
  rw[fF]at hb q3
  subst hb;obtain⟨n,s2,e2,h⟩:=ah h;obtain⟨rfl,rfl⟩: (n:Int)=ty/\s2=s':=by cases h;exact⟨rfl,rfl⟩
  have Lp:Wf s1.ts:=by rw[q1];exact hi.wf
  obtain⟨k1,k2,k3,k4⟩:=Gv hL r _ _ _ Lp e2;obtain⟨_,_,g3⟩:=cG ad hL r _ _ _ Lp e2;refine⟨k1.trans q2,(5,[58])::fD (den s2.ts n),λcH hx=>?_,?_,λx y r aaq hy=>by grind [h_],λr2 hr t rest hd hf he=>?_⟩
  ·unfold kP;rw[if_neg (by omega),Int.toNat_natCast,hx.den g3]
  ·grind
  ·have hd:=hd;obtain⟨t1,a1,a2,a3⟩:=k4.1 r2 hr {t with pos:=t.pos+1} rest hd.next hf.2 ((he.of q1 q2).atR _);refine⟨t1,?_,?_,a3⟩
   ·unfold written;rw[aj (dh hd rfl),if_pos rfl,aj a1];rfl
   grind
 |false=>
  rw[fF]at hb q3
  subst hb;obtain⟨rfl,rfl⟩: (-1:Int)=ty/\s1=s':=by cases h;exact⟨rfl,rfl⟩
  refine⟨q2,[],λcH hx=>rfl,by grind,λx y r aaq hy=>by grind [h_],λr2 hr t rest hd hf he=>?_⟩;refine⟨t,?_,by simp,he.of q1 q2⟩;unfold written;rw[aj (aV hd hf.1),if_neg (by simp)];rfl
def Ln(t2:List Tk)(r:Nat)(E:M Nat):Prop:=∀s n s',Inv s->E s=.ok (n,s')->Inv s'/\Ext s.ts s'.ts/\∃r',r=r'+1/\Op t2 0 r' s n s'
theorem Ln.go{r:Nat}{E:M Nat}(H:Ln t2 r E){s s':St}{n:Nat}(hi:Inv s)(h:E s=.ok (n,s')):Inv s'/\Ext s.ts s'.ts/\∃e ls,aF e s.ns=(s'.ns,n)/\(∀cH,Ext s'.ts cH->bB cH e=ls)/\zP ls/\s.pos+ls.length<=s'.pos/\
  ∀r2,r<=r2->Ac t2 (lv t2 r2).E FoE ls s n s':=by
 obtain⟨i,x,r',rfl,ho⟩:=H _ _ _ hi h;obtain⟨e,ls,h1,h2,h3,h4,h5⟩:=ho.whole;refine⟨i,x,e,ls,h1,h2,h3,h4,λr2 hr=>?_⟩;obtain⟨r2,rfl⟩:∃g,r2=g+1:=⟨r2-1,by omega⟩
 exact h5.e0 r2 (by omega)
def M3(e:Ex)(ns:List Nd)(a:Nat)(l8:List Nd):Prop:=aF e ns=(l8,a)
theorem DZ:∀(bs:List Ex)(ns:List Nd)(az:List Nat)(l8:List Nd),M5 M3 bs ns az l8->gL bs ns=(l8,az)
 |[],ns,az,l8,h=>by obtain⟨rfl,rfl⟩:=h;rw[gL]
 |b::bs,ns,az,l8,h=>by
  obtain⟨a,PV,pL,rfl,h1,h2⟩:=h;rw[gL,show aF b ns=(pL,a)from h1];rw[DZ bs pL PV l8 h2]
theorem yM(ts:List Ty):∀l:List Ex,jk ts l=l.map (bB ts)
 |[]=>by grind [jk]
 |e::l=>by rw[jk,yM ts l];rfl
theorem Db{r:Nat}{E:M Nat}(H:Ln t2 r E){x:List UInt8}(hx:x∈oh)(F_:x≠[44])(Ye:∀r,FoC ((5,x)::r)){s s':St}{l':List Nat}(hi:Inv s)(h:list ad x (λ_=>E) (ad.length+1) [] s=.ok (l',s')):
  Inv s'/\Ext s.ts s'.ts/\∃es LS,gL es s.ns=(s'.ns,l')/\(∀cH,Ext s'.ts cH->gB [(5,[44])] (jk cH es)=LS)/\s.pos+LS.length+1<=s'.pos/\
   ∀r2,r<=r2->∀t rest,D t2 t.pos (LS++(5,x)::rest)->Eqs s t->∃t',list t2 x (λ_=>(lv t2 r2).E) (t2.length+1) [] t=.ok (l',t')/\t'.pos=t.pos+LS.length+1/\Eqs s' t':=by
 obtain⟨i,xx,bs,az,LS,h1,h2,h3,h4,h5⟩:=uU (Lay:=M3) hx F_ Ye (λl s a s' hi h=>by
  obtain⟨i,x,e,ls,k1,k2,k3,k4,k5⟩:=H.go hi h;exact⟨i,x,e,ls,k1,k2,k3,k4,λr2 hr=>(k5 r2 hr).mono λ_ hq=>hq.toFoE⟩) _ _ _ _ _ hi h
 rw[List.nil_append]at h1
 subst h1;exact⟨i,xx,bs,LS,DZ _ _ _ _ h2,λcH hx=>by rw[yM];exact h3 cH hx,h4,λr2 hr t rest hd he=>h5 r2 hr t rest _ hd he (by omega)⟩
def Ik(b:Nat×BA×Ex)(ns:List Nd)(a:BA×Nat)(l8:List Nd):Prop:=a.1=b.2.1/\∃pL m,aF b.2.2 ns=(pL,m)/\l8=pL++[{af 15 b.1 with text:=b.2.1,a:=m}]/\a.2=pL.length
theorem yA:∀(bs:List (Nat×BA×Ex))(ns:List Nd)(az:List (BA×Nat))(l8:List Nd),M5 Ik bs ns az l8->ir bs ns=(l8,az.map Prod.snd)
 |[],ns,az,l8,h=>by obtain⟨rfl,rfl⟩:=h;rw[ir];rfl
 |(p,x,e)::bs,ns,az,l8,h=>by
  obtain⟨a,PV,pL,rfl,⟨h1,KZ,m,h2,h3,h4⟩,h5⟩:=h;rw[ir,h2];rw[<-h3,yA bs pL PV l8 h5,List.map_cons,h4]
def Ht(ts:List Ty)(b:Nat×BA×Ex):List Lm:=(1,b.2.1.data.toList):: (5,[58])::bB ts b.2.2
theorem yu(ts:List Ty):∀l:List (Nat×BA×Ex),jI ts l=l.map (Ht ts)
 |[]=>by grind [jI]
 |(p,x,e)::l=>by rw[jI,yu ts l];rfl
theorem Aj{x:List UInt8}:∀y∈A',h_ [(1,x)] y=false:=λy _=>by grind [wM]
theorem On(hT:∀t∈ad,TkOk t){r:Nat}{E:M Nat}(H:Ln t2 r E){s s':St}{l':List (BA×Nat)}(zc:∀t0,IK t0 E λ_ _=>True)(hi:Inv s)(h:list ad [125] (λl=>fV ad E (l.map Prod.fst)) (ad.length+1) [] s=.ok (l',s')):
  Inv s'/\Ext s.ts s'.ts/\∃es LS,ir es s.ns=(s'.ns,l'.map Prod.snd)/\(∀cH,Ext s'.ts cH->gB [(5,[44])] (jI cH es)=LS)/\s.pos+LS.length+1<=s'.pos/\
   ∀r2,r<=r2->∀t rest,D t2 t.pos (LS++(5,[125])::rest)->Eqs s t->∃t',list t2 [125] (λl=>fV t2 (lv t2 r2).E (l.map Prod.fst)) (t2.length+1) [] t=.ok (l',t')/\t'.pos=t.pos+LS.length+1/\Eqs s' t':=by
 obtain⟨i,xx,bs,az,LS,h1,h2,h3,h4,h5⟩:=uU (lx:=Ht) (Lay:=Ik) (m2:=λr2 l=>fV t2 (lv t2 r2).E (l.map Prod.fst)) (by decide) (by decide) (λr=>FoC.sign (by decide)) (λl s a s' hi h=>by
  have eB:=Dd hT zc (l.map Prod.fst) s.ts s a s' (Ext.refl _) hi h;obtain⟨x,s1,e1,h⟩:=ah (show ak (name ad (l.map Prod.fst)) (λx=>ak (need ad [58]) λ_=>ak E λa=>ak (addNode {af 15 (cur ad s.pos).pos with text:=x,a:=a}) λn=>ret (x,n)) s= _ from h);obtain⟨m1,m2,m3,m4⟩:=oT e1;obtain⟨u,s2,e2,h⟩:=ah h;obtain⟨_,o1,o2,o3⟩:=dO e2;obtain⟨n,s3,e3,h⟩:=ah h;obtain⟨q,s4,e4,h⟩:=ah h;obtain⟨rfl,rfl⟩: (x,q)=a/\s4=s':=by cases h;exact⟨rfl,rfl⟩
  obtain⟨i3,x3,e,ls,k1,k2,k3,k4,k5⟩:=H.go (dD hi (o1.trans m2) (o2.trans m3)) e3;have w:s4.ts=s3.ts/\s4.pos=s3.pos/\q=s3.ns.length/\s4.ns=s3.ns++[{af 15 (cur ad s.pos).pos with text:=x,a:=n}]:=by cases e4;exact⟨rfl,rfl,rfl,rfl⟩
  obtain⟨w1,w2,w3,w4⟩:=w;refine⟨eB.1,eB.2.1,((cur ad s.pos).pos,x,e),(1,x.data.toList):: (5,[58])::ls,⟨rfl,s3.ns,n,by grind,w4,w3⟩,λcH hx=>?_,⟨_,_,rfl,Aj⟩,?_,λr2 hr t rest hd hf he=>?_⟩
  ·rw[w1]at hx
   show(1,x.data.toList):: (5,[58])::bB cH e= _
   grind
  ·grind
  ·have hd:=hd;obtain⟨t3,a1,a2,a3⟩:=k5 r2 hr {t with pos:=t.pos+1+1} rest hd.next.next hf.toFoE ((he.of (o1.trans m2) (o2.trans m3)).atR _);obtain⟨t4,b1,b2,b3⟩:=dr (b:={af 15 (cur t2 t.pos).pos with text:=x,a:=n}) e4 a3 rfl;refine⟨t4,?_,?_,b3⟩
   ·show ak (name t2 (l.map Prod.fst)) _ t= _;rw[aj (r7 hd m1),aj (eC hd.next rfl),aj a1,aj b1];rfl
   ·dsimp only at a2;simp;omega) _ _ _ _ _ hi h
 rw[List.nil_append]at h1
 subst h1;exact⟨i,xx,bs,LS,yA _ _ _ _ h2,λcH hx=>by rw[yu];exact h3 cH hx,h4,λr2 hr t rest hd he=>h5 r2 hr t rest _ hd he (by omega)⟩
def Om(b:Par)(ns:List Nd)(a:BA×Nat)(l8:List Nd):Prop:=a.1=b.text/\l8=ns++[{af 16 b.pos with text:=b.text,ty:=b.ty}]/\a.2=ns.length
theorem Bw:∀(bs:List Par)(ns:List Nd)(az:List (BA×Nat))(l8:List Nd),M5 Om bs ns az l8->gY bs ns=(l8,az.map Prod.snd)
 |[],ns,az,l8,h=>by obtain⟨rfl,rfl⟩:=h;rw[gY];rfl
 |q::bs,ns,az,l8,h=>by
  obtain⟨a,PV,pL,rfl,⟨h1,h3,h4⟩,h5⟩:=h;rw[gY];rw[<-h3,Bw bs pL PV l8 h5,List.map_cons,h4]
theorem JD(hT:∀t∈ad,TkOk t)(hL:ad.length<=1001){r:Nat}{s s':St}{l':List (BA×Nat)}(hi:Inv s)(h:list ad [41] (λl=>fC ad (eJ ad r) (l.map Prod.fst)) (ad.length+1) [] s=.ok (l',s')):
  Inv s'/\Ext s.ts s'.ts/\∃ps LS,gY ps s.ns=(s'.ns,l'.map Prod.snd)/\(∀cH,Ext s'.ts cH->gB [(5,[44])] (ps.map (vm cH))=LS)/\s.pos+LS.length+1<=s'.pos/\
   ∀r2,r<=r2->∀t rest,D t2 t.pos (LS++(5,[41])::rest)->Eqs s t->∃t',list t2 [41] (λl=>fC t2 (eJ t2 r2) (l.map Prod.fst)) (t2.length+1) [] t=.ok (l',t')/\t'.pos=t.pos+LS.length+1/\Eqs s' t':=by
 obtain⟨i,xx,bs,az,LS,h1,h2,h3,h4,h5⟩:=uU (lx:=vm) (Lay:=Om) (m2:=λr2 l=>fC t2 (eJ t2 r2) (l.map Prod.fst)) (by decide) (by decide) (λr=>FoC.sign (by decide)) (λl s a s' hi h=>by
  have eB:=yB hT (λt0=>IK.eJ hT hL r) (l.map Prod.fst) s.ts s a s' (Ext.refl _) hi h;obtain⟨x,s1,e1,h⟩:=ah (show ak (name ad (l.map Prod.fst)) (λx=>ak (written ad (eJ ad r)) λt=>ak (addNode {af 16 (cur ad s.pos).pos with text:=x,ty:=t}) λn=>ret (x,n)) s= _ from h);obtain⟨m1,m2,m3,m4⟩:=oT e1;obtain⟨ty,s2,e2,h⟩:=ah h;obtain⟨q,s4,e4,h⟩:=ah h;obtain⟨rfl,rfl⟩: (x,q)=a/\s4=s':=by cases h;exact⟨rfl,rfl⟩
  obtain⟨i3,x3,n3,ls,k2,k4,_,k5⟩:=qV hT hL (dD hi m2 m3) e2;have w:s4.ts=s2.ts/\s4.pos=s2.pos/\q=s2.ns.length/\s4.ns=s2.ns++[{af 16 (cur ad s.pos).pos with text:=x,ty:=ty}]:=by cases e4;exact⟨rfl,rfl,rfl,rfl⟩
  obtain⟨w1,w2,w3,w4⟩:=w;refine⟨eB.1,eB.2.1,⟨(cur ad s.pos).pos,x,ty⟩,(1,x.data.toList)::ls,⟨rfl,by grind,by grind⟩,λcH hx=>?_,⟨_,_,rfl,Aj⟩,?_,λr2 hr t rest hd hf he=>?_⟩
  ·rw[w1]at hx
   show(1,x.data.toList)::kP cH ty= _
   grind
  ·grind
  ·have hd:=hd;obtain⟨t3,a1,a2,a3⟩:=k5 r2 hr {t with pos:=t.pos+1} rest hd.next ⟨hf.k,hf.f⟩ ((he.of m2 m3).atR _);obtain⟨t4,b1,b2,b3⟩:=dr (b:={af 16 (cur t2 t.pos).pos with text:=x,ty:=ty}) e4 a3 rfl;refine⟨t4,?_,?_,b3⟩
   ·show ak (name t2 (l.map Prod.fst)) _ t= _;rw[aj (r7 hd m1),aj a1,aj b1];rfl
   ·dsimp only at a2;simp;omega) _ _ _ _ _ hi h
 rw[List.nil_append]at h1
 subst h1;exact⟨i,xx,bs,LS,Bw _ _ _ _ h2,λcH hx=>h3 cH hx,h4,λr2 hr t rest hd he=>h5 r2 hr t rest _ hd he (by omega)⟩
def Tx(r:List Lm):Prop:=h_ r [101,108,115,101]=false
def Mr(t2:List Tk)(r:Nat)(S:M Nat):Prop:=∀s n s',Inv s->S s=.ok (n,s')->Inv s'/\Ext s.ts s'.ts/\∃e ls,cN e s.ns=(s'.ns,n)/\(∀cH,Ext s'.ts cH->dx cH e=ls)/\mC oh ls/\s.pos+ls.length<=s'.pos/\∀r2,r<=r2->Ac t2 (lv t2 r2).S Tx ls s n s'
theorem CQ{r:Nat}{S:M Nat}(H:Mr t2 r S):∀f(l:List Nat) s l' s',Inv s->stmts ad S f l s=.ok (l',s')->Inv s'/\Ext s.ts s'.ts/\∃es az LS,l'=l++az/\dQ es s.ns=(s'.ns,az)/\
   (∀cH,Ext s'.ts cH->im cH es=LS)/\(LS=[]\/mC oh LS)/\s.pos+LS.length+1<=s'.pos/\
   ∀r2,r<=r2->∀t rest f2,D t2 t.pos (LS++(5,[125])::rest)->Eqs s t->t2.length<t.pos+f2->∃t',stmts t2 (lv t2 r2).S f2 l t=.ok (l',t')/\t'.pos=t.pos+LS.length+1/\Eqs s' t'
 |0,_,_,_,_,_,h=>by cases h
 |f+1,l,s,l',s',hi,h=>by
  obtain⟨b,s1,e1,h⟩:=ah h;obtain⟨hb,q1,q2,q3⟩:=b_ e1;cases fF:Ty.is ad [125] s.pos with
  |true=>
   rw[fF]at hb q3
   subst hb;obtain⟨rfl,rfl⟩:l=l'/\s1=s':=by cases h;exact⟨rfl,rfl⟩
   refine⟨dD hi q1 q2,by grind [Ext.refl],[],[],[],by simp,by rw[dQ,q2],λ_ _=>by rw[im],.inl rfl,by grind,λr2 _ t rest f2 hd he Ea=>?_⟩;have:=hd.lt;obtain⟨f2,rfl⟩:∃g,f2=g+1:=⟨f2-1,by omega⟩
   refine⟨{t with pos:=t.pos+1},?_,rfl,(he.of q1 q2).atR _⟩;rw[stmts,aj (dh hd rfl)];rfl
  |false=>
   rw[fF]at hb q3
   subst hb;obtain⟨n,s3,e3,h⟩:=ah h;obtain⟨i3,x3,e,ls,k1,k2,k3,k4,k5⟩:=H _ _ _ (dD hi q1 q2) e3;obtain⟨i4,x4,es,az,LS,g1,g2,g3,gh,g4,g5⟩:=CQ H f (l++[n]) s3 l' s' i3 h;refine⟨i4,by rw[<-q1];exact x3.trans x4,e::es,n::az,ls++LS,by grind,?_,λcH za=>?_,.inr (k3.app _),?_,λr2 hr t rest f2 hd he Ea=>?_⟩
   ·grind [dQ]
   ·rw[im,k2 cH (x4.trans za),g3 cH za]
   ·grind
   ·rw[List.append_assoc]at hd
    have Uv:Tx (LS++(5,[125])::rest):=by
     rcases gh with rfl|gh
     ·rfl
     ·exact gh.at _ (by decide)
    obtain⟨t3,a1,a2,a3⟩:=k5 r2 hr t _ hd Uv (he.of q1 q2);have:=k3.len;have bz:t.pos<t2.length:=by
     obtain⟨u,v,e,_⟩:=k3;rw[e]at hd;exact hd.lt
    obtain⟨f2,rfl⟩:∃g,f2=g+1:=⟨f2-1,by omega⟩
    obtain⟨t',b1,b2,b3⟩:=g5 r2 hr t3 rest f2 (hd.add.pos a2) a3 (by omega);refine⟨t',?_,?_,b3⟩
    ·rw[stmts,aj (aV hd (k3.at _ (by decide)))]
     grind [aj]
    grind
end
end Ty
end
section
namespace Ty
open Tok (Tk)
theorem BL:∀(u:Nat),(Lib.decDigits u).foldl (λn(c:UInt8)=>10*n+(c.toNat-48)) 0=u:=by
 intro u;induction u using Nat.strongRecOn with
 |ind u ih=>
  grind [Lib.decDigits,UInt8.toNat_ofNat']
theorem E2{x:BA}{n:Nat}(h:x.data.toList=Lib.itoa (n:Int)):value x=n:=by
 grind [value,Lib.itoa_nonneg,BL]
section
variable {ad t2:List Tk}
theorem vP{r:Nat}{S:M Nat}(H:Mr t2 r S)(BZ:∀t0,IK t0 S λ_ _=>True){s s':St}{n:Nat}(hi:Inv s)(h:di ad S s=.ok (n,s')):Inv s'/\Ext s.ts s'.ts/\∃bp l LS,dm bp l s.ns=(s'.ns,n)/\
  (∀cH,Ext s'.ts cH->im cH l=LS)/\s.pos+LS.length+2<=s'.pos/\∀r2,r<=r2->Ac t2 (di t2 (lv t2 r2).S) (λ_=>True) ((5,[123]):: (LS++[(5,[125])])) s n s':=by
 have eB:=pJ BZ s.ts s n s' (Ext.refl _) hi h;obtain⟨u,s1,e1,h⟩:=ah (show ak (need ad [123]) (λ_=>ak (stmts ad S (ad.length+1) []) λl=>addNode {af 26 (cur ad s.pos).pos with list:=l}) s= _ from h);obtain⟨_,q1,q2,q3⟩:=dO e1;obtain⟨l,s2,e2,h⟩:=ah h;obtain⟨i2,x2,es,az,LS,g1,g2,g3,gh,g4,g5⟩:=CQ H _ _ _ _ _ (dD hi q1 q2) e2;rw[List.nil_append]at g1
 subst g1;have w:s'.ts=s2.ts/\s'.pos=s2.pos/\n=s2.ns.length/\s'.ns=s2.ns++[{af 26 (cur ad s.pos).pos with list:=l}]:=by cases h;exact⟨rfl,rfl,rfl,rfl⟩
 obtain⟨w1,w2,w3,w4⟩:=w;refine⟨eB.1,eB.2.1,(cur ad s.pos).pos,es,LS,?_,λcH hx=>g3 cH (by grind),by omega,λr2 hr t rest hd _ he=>?_⟩
 ·grind [dm]
 ·simp at hd;obtain⟨t1,a1,a2,a3⟩:=g5 r2 hr {t with pos:=t.pos+1} rest (t2.length+1) hd.next ((he.of q1 q2).atR _) (by omega);obtain⟨t3,b1,b2,b3⟩:=dr (b:={af 26 (cur t2 t.pos).pos with list:=l}) h a3 rfl;refine⟨t3,?_,?_,b3⟩
  ·show ak (need t2 [123]) _ t= _;rw[aj (eC hd rfl),aj a1];exact b1
  grind
theorem Dh(hT:∀t∈ad,TkOk t)(hL:ad.length<=1001){r:Nat}{S:M Nat}(H:Mr t2 r S)(BZ:∀t0,IK t0 S λ_ _=>True)(p:Nat){s s':St}{n:Nat}(hi:Inv s)(h:bH ad (eJ ad r) S p s=.ok (n,s')):
  ∃ps ty bp body LS,aF (.fn p ps ty bp body) s.ns=(s'.ns,n)/\(∀cH,Ext s'.ts cH->bB cH (.fn p ps ty bp body)=(2,[102,110])::LS)/\s.pos+LS.length<=s'.pos/\
   ∀r2,r<=r2->∀p2,Ac t2 (bH t2 (eJ t2 r2) (lv t2 r2).S p2) (λ_=>True) LS s n s':=by
 obtain⟨u,s1,e1,h⟩:=ah h;obtain⟨_,q1,q2,q3⟩:=dO e1;obtain⟨l,s2,e2,h⟩:=ah h;obtain⟨i2,x2,ps,LP,g1,g2,g3,g4⟩:=JD hT hL (dD hi q1 q2) e2;obtain⟨ty,s3,e3,h⟩:=ah h;obtain⟨i3,x3,n3,LT,k1,k2,k3,k4⟩:=qV hT hL i2 e3;obtain⟨a,s4,e4,h⟩:=ah h;obtain⟨i4,x4,bp,body,LB,b1,b2,b3,b4⟩:=vP H BZ i3 e4;have w:s'.ts=s4.ts/\s'.pos=s4.pos/\n=s4.ns.length/\s'.ns=s4.ns++[{af 6 p with list:=l.map Prod.snd,ty:=ty,a:=a}]:=by cases h;exact⟨rfl,rfl,rfl,rfl⟩
 obtain⟨w1,w2,w3,w4⟩:=w;refine⟨ps,ty,bp,body,(5,[40]):: (LP++((5,[41]):: (LT++((5,[123]):: (LB++[(5,[125])]))))),?_,λcH hx=>?_,?_,λr2 hr p2 t rest hd _ he=>?_⟩
 ·grind [aF]
 ·rw[w1]at hx
  rw[bB,g2 cH ((x3.trans x4).trans hx),k1 cH (x4.trans hx),b2 cH hx]
 ·grind
 ·simp at hd;obtain⟨t1,c1,c2,c3⟩:=g4 r2 hr {t with pos:=t.pos+1} _ hd.next ((he.of q1 q2).atR _);have d1:D t2 t1.pos (LT++((5,[123]):: (LB++(5,[125])::rest))):=by
   have h1:=hd.next.add.next
   grind
  obtain⟨t3,f1,f2,f3⟩:=k4 r2 hr t1 _ d1 ⟨rfl,rfl,rfl⟩ c3;obtain⟨t4,v1,v2,v3⟩:=b4 r2 hr t3 rest (by simpa using d1.add.pos f2) trivial f3;obtain⟨t5,y1,y2,y3⟩:=dr (b:={af 6 p2 with list:=l.map Prod.snd,ty:=ty,a:=a}) h v3 rfl;refine⟨t5,?_,?_,y3⟩
  ·unfold bH;rw[aj (eC hd rfl),aj c1,aj f1,aj v1];exact y1
  grind
theorem gF{r:Nat}{s s':St}{n:Nat}{e:Ex}{ls:List Lm}(h1:aF e s.ns=(s'.ns,n))(h2:∀cH,Ext s'.ts cH->bB cH e=ls)(hh:zP ls)(hl:lvl e=4)(hc:s.pos+ls.length<=s'.pos)(h3:∀r2,r<=r2->C4 t2 r2 ls s n s'):Op t2 4 r s n s':=
 ⟨e,ls,h1,h2,hh,by rw[hl];exact h3,.inl ⟨by omega,hc⟩⟩
theorem ek{a:Nd}{s s':St}{n:Nat}(h:addNode a s=.ok (n,s')):s'.ts=s.ts/\s'.pos=s.pos/\n=s.ns.length/\s'.ns=s.ns++[a]:=by cases h;exact⟨rfl,rfl,rfl,rfl⟩
theorem JY(hT:∀t∈ad,TkOk t)(hL:ad.length<=1001){r:Nat}{E S:M Nat}(HE:Ln t2 r E)(HS:Mr t2 r S)(zc:∀t0,IK t0 E λ_ _=>True)(BZ:∀t0,IK t0 S λ_ _=>True){s s':St}{n:Nat}(hi:Inv s)(h:bO ad (eJ ad r) E S s=.ok (n,s')):Op t2 4 r s n s':=by
 have h: (if(cur ad s.pos).kind=3 then ak step λ_=>addNode {af 1 (cur ad s.pos).pos with n:=value (cur ad s.pos).text}else
  if(cur ad s.pos).kind=4 then ak step λ_=>addNode {af 2 (cur ad s.pos).pos with text:=(cur ad s.pos).text}else
  if(cur ad s.pos).kind=1 then ak step λ_=>addNode {af 5 (cur ad s.pos).pos with text:=(cur ad s.pos).text}else
  ak (take ad [116,114,117,101]) λb=>if b then addNode {af 3 (cur ad s.pos).pos with n:=1}else
  ak (take ad [102,97,108,115,101]) λb=>if b then addNode (af 3 (cur ad s.pos).pos)else
  ak (take ad [110,117,108,108]) λb=>if b then addNode (af 4 (cur ad s.pos).pos)else
  ak (take ad [102,110]) λb=>if b then bH ad (eJ ad r) S (cur ad s.pos).pos else
  ak (take ad [91]) λb=>if b then ak (list ad [93] (λ_=>E) (ad.length+1) []) λl=>addNode {af 11 (cur ad s.pos).pos with list:=l}else
  ak (take ad [123]) λb=>if b then ak (list ad [125] (λl=>fV ad E (l.map Prod.fst)) (ad.length+1) []) λl=>addNode {af 10 (cur ad s.pos).pos with list:=l.map Prod.snd}else
  ak (need ad [40]) λ_=>ak E λa=>ak (need ad [41]) λ_=>ret a:M Nat) s=.ok (n,s'):=h
 by_cases NC: (cur ad s.pos).kind=3
 ·rw[if_pos NC]at h
  obtain⟨u,s1,e1,h⟩:=ah h;obtain rfl:s1={s with pos:=s.pos+1}:=by cases e1;rfl
  obtain⟨w1,w2,w3,w4⟩:=ek h;refine gF (e:=.num (cur ad s.pos).pos (value (cur ad s.pos).text)) (ls:=[(3,Lib.itoa (value (cur ad s.pos).text:Nat))]) (by rw[aF,w4,w3]) (λ_ _=>by rw[bB]) ⟨_,_,rfl,λy _=>wM (by decide) (by decide)⟩ rfl (by rw[w2];simp) λr2 _=>?_
  refine gD λt rest hd he=>?_
  have hd:D t2 t.pos ((3,Lib.itoa (value (cur ad s.pos).text:Nat))::rest):=hd;have hk: (cur t2 t.pos).kind=3:=congrArg Prod.fst hd.cur;have hv:value (cur t2 t.pos).text=value (cur ad s.pos).text:=E2 (congrArg Prod.snd hd.cur);obtain⟨t3,y1,y2,y3⟩:=dr (b:={af 1 (cur t2 t.pos).pos with n:=value (cur t2 t.pos).text}) h (he.at (s.pos+1) (t.pos+1)) (by rw[hv];rfl);refine⟨_,_,t3,rfl,rfl,?_,by rw[y2];simp,y3⟩;show(if(cur t2 t.pos).kind=3 then _ else _:M Nat) t= _
  grind [aj,step]
 ·rw[if_neg NC]at h
  by_cases Ku: (cur ad s.pos).kind=4
  ·rw[if_pos Ku]at h
   obtain⟨u,s1,e1,h⟩:=ah h;obtain rfl:s1={s with pos:=s.pos+1}:=by cases e1;rfl
   obtain⟨w1,w2,w3,w4⟩:=ek h;refine gF (e:=.text (cur ad s.pos).pos (cur ad s.pos).text) (ls:=[(4,(cur ad s.pos).text.data.toList)]) (by rw[aF,w4,w3]) (λ_ _=>by rw[bB]) ⟨_,_,rfl,λy _=>wM (by decide) (by decide)⟩ rfl (by rw[w2];simp) λr2 _=>?_
   refine gD λt rest hd he=>?_
   have hd:D t2 t.pos ((4,(cur ad s.pos).text.data.toList)::rest):=hd;have hk: (cur t2 t.pos).kind=4:=congrArg Prod.fst hd.cur;have hv: (cur t2 t.pos).text=(cur ad s.pos).text:=vi hd;obtain⟨t3,y1,y2,y3⟩:=dr (b:={af 2 (cur t2 t.pos).pos with text:=(cur t2 t.pos).text}) h (he.at (s.pos+1) (t.pos+1)) (by rw[hv];rfl);refine⟨_,_,t3,rfl,rfl,?_,by rw[y2];simp,y3⟩;show(if(cur t2 t.pos).kind=3 then _ else if(cur t2 t.pos).kind=4 then _ else _:M Nat) t= _
   grind [aj,step]
  ·rw[if_neg Ku]at h
   by_cases CZ: (cur ad s.pos).kind=1
   ·rw[if_pos CZ]at h
    obtain⟨u,s1,e1,h⟩:=ah h;obtain rfl:s1={s with pos:=s.pos+1}:=by cases e1;rfl
    obtain⟨w1,w2,w3,w4⟩:=ek h;refine gF (e:=.var (cur ad s.pos).pos (cur ad s.pos).text) (ls:=[(1,(cur ad s.pos).text.data.toList)]) (by rw[aF,w4,w3]) (λ_ _=>by rw[bB]) ⟨_,_,rfl,Aj⟩ rfl (by rw[w2];simp) λr2 _=>?_
    refine gD λt rest hd he=>?_
    have hd:D t2 t.pos ((1,(cur ad s.pos).text.data.toList)::rest):=hd;have hk: (cur t2 t.pos).kind=1:=congrArg Prod.fst hd.cur;have hv: (cur t2 t.pos).text=(cur ad s.pos).text:=vi hd;obtain⟨t3,y1,y2,y3⟩:=dr (b:={af 5 (cur t2 t.pos).pos with text:=(cur t2 t.pos).text}) h (he.at (s.pos+1) (t.pos+1)) (by rw[hv];rfl);refine⟨_,_,t3,rfl,rfl,?_,by rw[y2];simp,y3⟩;show(if(cur t2 t.pos).kind=3 then _ else if(cur t2 t.pos).kind=4 then _ else if(cur t2 t.pos).kind=1 then _ else _:M Nat) t= _;rw[if_neg (by omega),if_neg (by omega),if_pos hk,aj (show step t=.ok ((),{t with pos:=t.pos+1})from rfl)];exact y1
   ·rw[if_neg CZ]at h
    obtain⟨b,s1,e1,h⟩:=ah h;obtain⟨hb,q1,q2,q3⟩:=b_ e1;cases b with
    |true=>
     rw[<-hb,if_pos rfl]at q3
     have h:addNode {af 3 (cur ad s.pos).pos with n:=1} s1=.ok (n,s'):=h;obtain⟨w1,w2,w3,w4⟩:=ek h;refine gF (e:=.bool (cur ad s.pos).pos 1) (ls:=[(2,[116,114,117,101])]) (by rw[aF,<-q2,w4,w3]) (λ_ _=>by rw[bB];rfl) ⟨_,_,rfl,by decide⟩ rfl (by rw[w2];simp;omega) λr2 _=>?_
     refine gD λt rest hd he=>?_
     have hd:D t2 t.pos ((2,[116,114,117,101])::rest):=hd;obtain⟨t3,y1,y2,y3⟩:=dr (b:={af 3 (cur t2 t.pos).pos with n:=1}) h ((he.of q1 q2).atR (t.pos+1)) rfl;refine⟨_,_,t3,rfl,rfl,?_,by rw[y2];simp,y3⟩;rw[gT hd (.inr rfl),aj (dh hd rfl)];exact y1
    |false=>
     rw[<-hb]at q3
     simp only[Bool.false_eq_true,if_false]at h q3;obtain⟨b,s2,e2,h⟩:=ah h;obtain⟨aW,p1,p2,p3⟩:=b_ e2;have G6:s2.ts=s.ts:=p1.trans q1;have Hm:s2.ns=s.ns:=p2.trans q2;cases b with
     |true=>
      rw[<-aW,if_pos rfl]at p3
      have h:addNode (af 3 (cur ad s.pos).pos) s2=.ok (n,s'):=h;obtain⟨w1,w2,w3,w4⟩:=ek h;refine gF (e:=.bool (cur ad s.pos).pos 0) (ls:=[(2,[102,97,108,115,101])]) (by rw[aF,<-Hm,w4,w3];rfl) (λ_ _=>by rw[bB];rfl) ⟨_,_,rfl,by decide⟩ rfl (by rw[w2];simp;omega) λr2 _=>?_
      refine gD λt rest hd he=>?_
      have hd:D t2 t.pos ((2,[102,97,108,115,101])::rest):=hd;obtain⟨t3,y1,y2,y3⟩:=dr (b:=af 3 (cur t2 t.pos).pos) h ((he.of G6 Hm).atR (t.pos+1)) rfl;refine⟨_,_,t3,rfl,rfl,?_,by rw[y2];simp,y3⟩;rw[gT hd (.inr rfl),aj (aV hd rfl),if_neg (by simp),aj (dh hd rfl)];exact y1
     |false=>
      rw[<-aW]at p3
      simp only[Bool.false_eq_true,if_false]at h p3;obtain⟨b,s3,e3,h⟩:=ah h;obtain⟨cZ,o1,o2,o3⟩:=b_ e3;have Jk:s3.ts=s.ts:=o1.trans G6;have DM:s3.ns=s.ns:=o2.trans Hm;cases b with
      |true=>
       rw[<-cZ,if_pos rfl]at o3
       have h:addNode (af 4 (cur ad s.pos).pos) s3=.ok (n,s'):=h;obtain⟨w1,w2,w3,w4⟩:=ek h;refine gF (e:=.null (cur ad s.pos).pos) (ls:=[(2,[110,117,108,108])]) (by rw[aF,<-DM,w4,w3]) (λ_ _=>by rw[bB]) ⟨_,_,rfl,by decide⟩ rfl (by rw[w2];simp;omega) λr2 _=>?_
       refine gD λt rest hd he=>?_
       have hd:D t2 t.pos ((2,[110,117,108,108])::rest):=hd;obtain⟨t3,y1,y2,y3⟩:=dr (b:=af 4 (cur t2 t.pos).pos) h ((he.of Jk DM).atR (t.pos+1)) rfl;refine⟨_,_,t3,rfl,rfl,?_,by rw[y2];simp,y3⟩;rw[gT hd (.inr rfl),aj (aV hd rfl),if_neg (by simp),aj (aV hd rfl),if_neg (by simp),aj (dh hd rfl)];exact y1
      |false=>
       rw[<-cZ]at o3
       simp only[Bool.false_eq_true,if_false]at h o3;obtain⟨b,s4,e4,h⟩:=ah h;obtain⟨qW,m1,m2,m3⟩:=b_ e4;have JJ:s4.ts=s.ts:=m1.trans Jk;have Hf:s4.ns=s.ns:=m2.trans DM;cases b with
       |true=>
        rw[<-qW,if_pos rfl]at m3
        have h:bH ad (eJ ad r) S (cur ad s.pos).pos s4=.ok (n,s'):=h;obtain⟨ps,ty,bp,body,LS,k1,k2,k3,k4⟩:=Dh hT hL HS BZ _ (dD hi JJ Hf) h;refine gF (e:=.fn (cur ad s.pos).pos ps ty bp body) (ls:=(2,[102,110])::LS) (by rw[<-Hf];exact k1) k2 ⟨_,_,rfl,by decide⟩ rfl (by simp only[List.length_cons];omega) λr2 hr=>?_
        refine gD λt rest hd he=>?_
        have hd:D t2 t.pos ((2,[102,110]):: (LS++rest)):=hd;obtain⟨t3,y1,y2,y3⟩:=k4 r2 hr (cur t2 t.pos).pos {t with pos:=t.pos+1} rest hd.next trivial ((he.of JJ Hf).atR _);refine⟨_,_,t3,rfl,rfl,?_,by dsimp only at y2;simp only[List.length_cons];omega,y3⟩;rw[gT hd (.inr rfl),aj (aV hd rfl),if_neg (by simp),aj (aV hd rfl),if_neg (by simp),aj (aV hd rfl),if_neg (by simp),aj (dh hd rfl)];exact y1
       |false=>
        rw[<-qW]at m3
        simp only[Bool.false_eq_true,if_false]at h m3;obtain⟨b,s5,e5,h⟩:=ah h;obtain⟨od,j1,j2,j3⟩:=b_ e5;have ZO:s5.ts=s.ts:=j1.trans JJ;have Yc:s5.ns=s.ns:=j2.trans Hf;cases b with
        |true=>
         rw[<-od,if_pos rfl]at j3
         obtain⟨l,s6,e6,h⟩:=ah (show ak (list ad [93] (λ_=>E) (ad.length+1) []) (λl=>addNode {af 11 (cur ad s.pos).pos with list:=l}) s5= _ from h);obtain⟨i6,x6,es,LS,g1,g2,g3,g4⟩:=Db HE (x:=[93]) (by decide) (by decide) (λr=>FoC.sign (by decide)) (dD hi ZO Yc) e6;obtain⟨w1,w2,w3,w4⟩:=ek h;refine gF (e:=.arr (cur ad s.pos).pos es) (ls:=(5,[91]):: (LS++[(5,[93])])) (by rw[aF,<-Yc,g1,w4,w3]) (λcH hx=>by rw[w1]at hx;rw[bB,g2 cH hx]) ⟨_,_,rfl,by decide⟩ rfl (by simp only[List.length_cons,List.length_append,List.length_nil];omega) λr2 hr=>?_
         refine gD λt rest hd he=>?_
         simp only[List.cons_append,List.append_assoc,List.nil_append]at hd⊢;obtain⟨t3,y1,y2,y3⟩:=g4 r2 hr {t with pos:=t.pos+1} rest hd.next ((he.of ZO Yc).atR _);obtain⟨t4,z1,z2,z3⟩:=dr (b:={af 11 (cur t2 t.pos).pos with list:=l}) h y3 rfl;refine⟨_,_,t4,rfl,rfl,?_,by dsimp only at y2;simp only[List.length_cons,List.length_append,List.length_nil];omega,z3⟩;rw[gT hd (.inl rfl),aj (aV hd rfl),if_neg (by simp),aj (aV hd rfl),if_neg (by simp),aj (aV hd rfl),if_neg (by simp),aj (aV hd rfl),if_neg (by simp),aj (dh hd rfl),if_pos rfl,aj y1];exact z1
        |false=>
         rw[<-od]at j3
         simp only[Bool.false_eq_true,if_false]at h j3;obtain⟨b,s6,e6,h⟩:=ah h;obtain⟨Ev,v1,v2,v3⟩:=b_ e6;have YE:s6.ts=s.ts:=v1.trans ZO;have UT:s6.ns=s.ns:=v2.trans Yc;cases b with
         |true=>
          rw[<-Ev,if_pos rfl]at v3
          obtain⟨l,s7,e7,h⟩:=ah (show ak (list ad [125] (λl=>fV ad E (l.map Prod.fst)) (ad.length+1) []) (λl=>addNode {af 10 (cur ad s.pos).pos with list:=l.map Prod.snd}) s6= _ from h);obtain⟨i7,x7,es,LS,g1,g2,g3,g4⟩:=On hT HE zc (dD hi YE UT) e7;obtain⟨w1,w2,w3,w4⟩:=ek h;refine gF (e:=.obj (cur ad s.pos).pos es) (ls:=(5,[123]):: (LS++[(5,[125])])) (by rw[aF,<-UT,g1,w4,w3]) (λcH hx=>by rw[w1]at hx;rw[bB,g2 cH hx]) ⟨_,_,rfl,by decide⟩ rfl (by simp only[List.length_cons,List.length_append,List.length_nil];omega) λr2 hr=>?_
          refine gD λt rest hd he=>?_
          simp only[List.cons_append,List.append_assoc,List.nil_append]at hd⊢;obtain⟨t3,y1,y2,y3⟩:=g4 r2 hr {t with pos:=t.pos+1} rest hd.next ((he.of YE UT).atR _);obtain⟨t4,z1,z2,z3⟩:=dr (b:={af 10 (cur t2 t.pos).pos with list:=l.map Prod.snd}) h y3 rfl;refine⟨_,_,t4,rfl,rfl,?_,by dsimp only at y2;simp only[List.length_cons,List.length_append,List.length_nil];omega,z3⟩;rw[gT hd (.inl rfl),aj (aV hd rfl),if_neg (by simp),aj (aV hd rfl),if_neg (by simp),aj (aV hd rfl),if_neg (by simp),aj (aV hd rfl),if_neg (by simp),aj (aV hd rfl),if_neg (by simp),aj (dh hd rfl),if_pos rfl,aj y1];exact z1
         |false=>
          rw[<-Ev]at v3
          simp only[Bool.false_eq_true,if_false]at h v3;obtain⟨u,s7,e7,h⟩:=ah h;obtain⟨_,g1,g2,g3⟩:=dO e7;obtain⟨m,s8,e8,h⟩:=ah h;obtain⟨u,s9,e9,h⟩:=ah h;obtain⟨_,f1,f2,f3⟩:=dO e9;obtain⟨rfl,rfl⟩:m=n/\s9=s':=by cases h;exact⟨rfl,rfl⟩
          obtain⟨_,_,r',acG,e,ls,k1,k2,k3,k4,k5⟩:=HE _ _ _ (dD hi (g1.trans YE) (g2.trans UT)) e8;have Ve:GE t2 r' (lvl e) ls s m s9:=λr2 hr=>by
           have hk:=k4 r2 hr;have a1:s.ts=s7.ts:=(g1.trans YE).symm;have a2:s.ns=s7.ns:=(g2.trans UT).symm;generalize lvl e=k at hk⊢
           match k,hk with
           |0,hk=>exact Ac.of hk a1 a2 f1 f2
           |1,hk=>exact λt rest hd hf he=>by obtain⟨t',f,c1,c2,c3,c4⟩:=hk t rest hd hf (he.of a1.symm a2.symm);exact⟨t',f,c1,c2,c3.of f1 f2,c4⟩
           |2,hk=>exact λt rest hd hf he=>by obtain⟨t',f,c1,c2,c3,c4⟩:=hk t rest hd hf (he.of a1.symm a2.symm);exact⟨t',f,c1,c2,c3.of f1 f2,c4⟩
           |3,hk=>exact Ac.of hk a1 a2 f1 f2
           |k+4,hk=>exact λt rest hd hf he=>by obtain⟨t',f,c1,c2,c3,c4⟩:=hk t rest hd hf (he.of a1.symm a2.symm);exact⟨t',f,c1,c2,c3.of f1 f2,c4⟩
          refine⟨e,ls,by rw[f2,<-UT,<-g2];exact k1,by rw[f1];exact k2,k3,Ve.up (by omega),.inr ⟨r',acG,Ve,?_⟩⟩;rcases k5 with⟨_,k5⟩|⟨_,_,_,k5⟩<;>omega
end
end Ty
end
end Go.Proofs.YtdlbhiaceheffabGreatDoor
