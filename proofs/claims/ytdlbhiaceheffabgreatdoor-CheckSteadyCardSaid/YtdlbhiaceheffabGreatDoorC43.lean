/- Plain: what was read once, and printed, is read again as it was: expressions of all levels. No program in sight. -/
import Derived.Test.YtdlbhiaceheffabGreatDoorC42
set_option linter.all false
namespace Go.Proofs.YtdlbhiaceheffabGreatDoor
open Go Go.RowKit Ty Tok Prt
section
namespace Ty
open Tok (Tk)
section
variable {ad t2:List Tk}
theorem vh{r2:Nat}{la lx:List Lm}{s0 s s':St}{a m:Nat}{l0:Lm}(h:C4 t2 r2 la s0 a s)(hl:∃r,lx=l0::r)(h0:Le [l0])
  (g:∀t1 rest f,D t2 t1.pos (lx++rest)->Le rest->Eqs s t1->∃t',behind t2 (eJ t2 r2) (lv t2 r2).E (f+1) a t1=behind t2 (eJ t2 r2) (lv t2 r2).E f m t'/\t'.pos=t1.pos+lx.length/\Eqs s' t'):C4 t2 r2 (la++lx) s0 m s':=λt rest hd hf he=>by
 rw[List.append_assoc]at hd
 obtain⟨r,hr⟩:=hl;obtain⟨t1,f,a1,a2,a3,a4⟩:=h t _ hd (by rw[hr];exact h0) he;have d1:=hd.add.pos a2;have bz:t1.pos<t2.length:=by rw[hr]at d1;exact d1.lt
 obtain⟨t',b1,b2,b3⟩:=g t1 rest f d1 hf a3;obtain⟨f,rfl⟩:∃g,f=g+1:=⟨f-1,by omega⟩
 have By:1<=lx.length:=by grind
 exact⟨t',f,by grind,by grind,b3,by omega⟩
theorem Yx{r:Nat}{s0 s s':St}{a m:Nat}{lx:List Lm}(h0:Op t2 4 r s0 a s)(hx:Ext s.ts s'.ts)(hc:s.pos+lx.length<=s'.pos)
  (hE:∀e,aF e s0.ns=(s.ns,a)->∃aaO,lvl aaO=4/\aF aaO s0.ns=(s'.ns,m)/\∀cH,Ext s'.ts cH->bB cH aaO=lq (decide (lvl e<4)) (bB cH e)++lx)
  (hC:∀r2,r<=r2->∀la,C4 t2 r2 la s0 a s->C4 t2 r2 (la++lx) s0 m s'):Op t2 4 r s0 m s':=by
 obtain⟨e,la,a1,a2,a3,a4,a5⟩:=h0.part;obtain⟨e2,k1,k2,k3⟩:=hE e a1;exact gF k2 (λcH za=>by rw[k3 cH za,a2 cH (hx.trans za)]) (a3.app _) k1 (by grind) λr2 hr=>hC r2 hr la (a5 r2 hr)
theorem mL(hT:∀t∈ad,TkOk t)(hL:ad.length<=1001){r:Nat}{E:M Nat}(HE:Ln t2 r E)(zc:∀t0,IK t0 E λ_ _=>True):∀f a s0 s,Inv s->Op t2 4 r s0 a s->∀m s',behind ad (eJ ad r) E f a s=.ok (m,s')->Op t2 4 r s0 m s'
 |0,_,_,_,_,_,_,_,h=>by cases h
 |f+1,a,s0,s,hi,ho,m,s',h=>by
  obtain⟨b,s1,e1,h⟩:=ah (show ak (take ad [40]) _ s= _ from h);obtain⟨hb,q1,q2,q3⟩:=b_ e1;cases b with
  |true=>
   rw[<-hb,if_pos rfl]at q3
   obtain⟨l,s2,e2,h⟩:=ah (show ak (list ad [41] (λ_=>E) (ad.length+1) []) (λl=>ak (addNode {af 7 (aY s a).pos with a:=a,list:=l}) λm=>behind ad (eJ ad r) E f m) s1= _ from h);obtain⟨q,s3,e3,h⟩:=ah h;obtain⟨i2,x2,es,LS,g1,g2,g3,g4⟩:=Db HE (x:=[41]) (by decide) (by decide) (λr=>FoC.sign (by decide)) (dD hi q1 q2) e2;obtain⟨w1,w2,w3,w4⟩:=ek e3;have i3:Inv s3:=((IK.addNode _ λt _=>bF xW rfl (λh=>(by cases h)) (λ_=>(by simp[af])) (λh=>(by cases h)) (λh=>(by simp[af]at h)) (λh=>(by cases h)) (λh=>(by cases h)) (by simp[af]) t) s2 q s3 (Ext.refl _) i2 e3).1;refine mL hT hL HE zc f q s0 s3 i3 ?_ m s' h;refine Yx (lx:=(5,[40]):: (LS++[(5,[41])])) ho (by rw[w1,<-q1];exact x2) (by simp only[List.length_cons,List.length_append,List.length_nil];omega) (λe he=>⟨.call (aY s a).pos e es,rfl,?_,λcH hx=>?_⟩) λr2 hr la hc=>vh hc ⟨_,rfl⟩ ⟨rfl,rfl⟩ λt1 rest f hd hf he=>?_
   ·grind [aF]
   ·grind [bB]
   ·simp only[List.cons_append,List.append_assoc,List.nil_append]at hd;obtain⟨t3,y1,y2,y3⟩:=g4 r2 hr {t1 with pos:=t1.pos+1} rest hd.next ((he.of q1 q2).atR _);obtain⟨t4,z1,z2,z3⟩:=dr (b:={af 7 (aY t1 a).pos with a:=a,list:=l}) e3 y3 rfl;refine⟨t4,?_,by dsimp only at y2;simp only[List.length_cons,List.length_append,List.length_nil];omega,z3⟩;show ak (take t2 [40]) _ t1= _;rw[aj (dh hd rfl),if_pos rfl,aj y1,aj z1]
  |false=>
   rw[<-hb]at q3
   simp only[Bool.false_eq_true,if_false]at q3;obtain⟨b,s2,e2,h⟩:=ah (show ak (take ad [46]) _ s1= _ from h);obtain⟨aW,p1,p2,p3⟩:=b_ e2;have G6:s2.ts=s.ts:=p1.trans q1;have Hm:s2.ns=s.ns:=p2.trans q2;cases b with
   |true=>
    rw[<-aW,if_pos rfl]at p3
    obtain⟨x,s3,e3,h⟩:=ah (show ak (name ad []) (λx=>ak (addNode {af 8 (aY s a).pos with a:=a,text:=x}) λm=>behind ad (eJ ad r) E f m) s2= _ from h);obtain⟨q,s4,e4,h⟩:=ah h;obtain⟨m1,m2,m3,m4⟩:=oT e3;obtain⟨w1,w2,w3,w4⟩:=ek e4;have ZX:=(IK.name hT []) s2 x s3 (Ext.refl _) (dD hi G6 Hm) e3;have i4:Inv s4:=((IK.addNode _ λt _=>bF (by have:=ZX.2.2.size;show x.size<=30;omega) rfl (λh=>(by cases h)) (λ_=>(by simp[af])) (λh=>(by cases h)) (λ_=>ZX.2.2) (λh=>(by cases h)) (λh=>(by cases h)) (by simp[af]) t) s3 q s4 (Ext.refl _) ZX.1 e4).1;refine mL hT hL HE zc f q s0 s4 i4 ?_ m s' h;refine Yx (lx:=[(5,[46]),(1,x.data.toList)]) ho (by rw[w1,m2,G6];exact Ext.refl _) (by simp only[List.length_cons,List.length_nil];omega) (λe he=>⟨.get (aY s a).pos e x,rfl,?_,λcH hx=>?_⟩) λr2 hr la hc=>vh hc ⟨_,rfl⟩ ⟨rfl,rfl⟩ λt1 rest f hd hf he=>?_
    ·grind [aF]
    ·rw[bB]
    ·have hd:D t2 t1.pos ((5,[46]):: (1,x.data.toList)::rest):=hd;obtain⟨t4,z1,z2,z3⟩:=dr (b:={af 8 (aY t1 a).pos with a:=a,text:=x}) e4 ((he.of (m2.trans G6) (m3.trans Hm)).atR (t1.pos+1+1)) rfl;refine⟨t4,?_,by rw[z2];simp,z3⟩;show ak (take t2 [40]) _ t1= _;rw[aj (aV hd rfl),if_neg (by simp),aj (dh hd rfl),if_pos rfl,aj (r7 (t:={t1 with pos:=t1.pos+1}) hd.next m1),aj z1]
   |false=>
    rw[<-aW]at p3
    simp only[Bool.false_eq_true,if_false]at p3;obtain⟨b,s3,e3,h⟩:=ah (show ak (take ad [91]) _ s2= _ from h);obtain⟨cZ,o1,o2,o3⟩:=b_ e3;have Jk:s3.ts=s.ts:=o1.trans G6;have DM:s3.ns=s.ns:=o2.trans Hm;cases b with
    |true=>
     rw[<-cZ,if_pos rfl]at o3
     obtain⟨c,s4,e4,h⟩:=ah (show ak E (λc=>ak (need ad [93]) λ_=>ak (addNode {af 9 (aY s a).pos with a:=a,b:=c}) λm=>behind ad (eJ ad r) E f m) s3= _ from h);obtain⟨u,s5,e5,h⟩:=ah h;obtain⟨q,s6,e6,h⟩:=ah h;obtain⟨i4,x4,eb,lb,k1,k2,k3,k4,k5⟩:=HE.go (dD hi Jk DM) e4;obtain⟨_,m1,m2,m3⟩:=dO e5;obtain⟨w1,w2,w3,w4⟩:=ek e6;have i5:Inv s5:=dD i4 m1 m2;have i6:Inv s6:=((IK.addNode _ λt _=>bF xW rfl (λh=>(by cases h)) (λ_=>(by simp[af])) (λh=>(by cases h)) (λh=>(by simp[af]at h)) (λh=>(by cases h)) (λh=>(by cases h)) (by simp[af]) t) s5 q s6 (Ext.refl _) i5 e6).1;refine mL hT hL HE zc f q s0 s6 i6 ?_ m s' h;refine Yx (lx:=(5,[91]):: (lb++[(5,[93])])) ho (by rw[w1,m1,<-Jk];exact x4) (by simp only[List.length_cons,List.length_append,List.length_nil];omega) (λe he=>⟨.atX (aY s a).pos e eb,rfl,?_,λcH hx=>?_⟩) λr2 hr la hc=>vh hc ⟨_,rfl⟩ ⟨rfl,rfl⟩ λt1 rest f hd hf he=>?_
     ·rw[aF,he];dsimp only;rw[<-DM,k1];dsimp only;rw[w4,w3,m2]
     ·rw[w1,m1]at hx
      rw[bB,k2 cH hx]
     ·simp only[List.cons_append,List.append_assoc,List.nil_append]at hd;obtain⟨t3,y1,y2,y3⟩:=k5 r2 hr {t1 with pos:=t1.pos+1} _ hd.next (FoE.sign (by decide)) ((he.of Jk DM).atR _);have d3:=hd.next.add.pos y2;obtain⟨t4,z1,z2,z3⟩:=dr (b:={af 9 (aY t1 a).pos with a:=a,b:=c}) e6 ((y3.of m1 m2).atR (t3.pos+1)) rfl;refine⟨t4,?_,by dsimp only at y2 z2;simp only[List.length_cons,List.length_append,List.length_nil];omega,z3⟩;show ak (take t2 [40]) _ t1= _;rw[aj (aV hd rfl),if_neg (by simp),aj (aV hd rfl),if_neg (by simp),aj (dh hd rfl),if_pos rfl,aj y1,aj (eC d3 rfl),aj z1]
    |false=>
     rw[<-cZ]at o3
     simp only[Bool.false_eq_true,if_false]at o3;obtain⟨b,s4,e4,h⟩:=ah (show ak (take ad [97,115]) _ s3= _ from h);obtain⟨qW,m1,m2,m3⟩:=b_ e4;have JJ:s4.ts=s.ts:=m1.trans Jk;have Hf:s4.ns=s.ns:=m2.trans DM;cases b with
     |true=>
      rw[<-qW,if_pos rfl]at m3
      obtain⟨t,s5,e5,h⟩:=ah (show ak (eJ ad r) (λt=>ak (addNode {af 14 (aY s a).pos with a:=a,ty:=(t:Int)}) λm=>behind ad (eJ ad r) E f m) s4= _ from h);obtain⟨q,s6,e6,h⟩:=ah h;have i4:Inv s4:=dD hi JJ Hf;obtain⟨k1,k2,k3,k4⟩:=Gv (t2:=t2) hL r _ _ _ i4.wf e5;have WD:=(IK.eJ hT hL r) s4 t s5 (Ext.refl _) i4 e5;obtain⟨_,_,g3⟩:=cG ad hL r _ _ _ i4.wf e5;obtain⟨w1,w2,w3,w4⟩:=ek e6;have i6:Inv s6:=((IK.addNode _ λu hu=>⟨xW,λh=>(by cases h),λ_=>(by simp[af]),λh=>(by cases h),λh=>(by simp[af]at h),λh=>(by cases h),λh=>(by cases h),(show wh (t:Int) u from .inr ⟨t,rfl,WD.2.2.ext hu⟩),λ_=>(by simp)⟩) s5 q s6 (Ext.refl _) WD.1 e6).1;refine mL hT hL HE zc f q s0 s6 i6 ?_ m s' h;refine Yx (lx:=(2,[97,115])::fD (den s5.ts t)) ho (by rw[w1,<-JJ];exact WD.2.1) (by simp only[List.length_cons];omega) (λe he=>⟨.asX (aY s a).pos e t,rfl,?_,λcH hx=>?_⟩) λr2 hr la hc=>vh hc ⟨_,rfl⟩ ⟨rfl,rfl⟩ λt1 rest f hd hf he=>?_
      ·rw[aF,he];dsimp only;rw[<-Hf,<-k1,w4,w3]
      ·rw[w1]at hx
       rw[bB,Int.toNat_natCast,hx.den g3]
      ·have hd:D t2 t1.pos ((2,[97,115]):: (fD (den s5.ts t)++rest)):=hd;obtain⟨t3,y1,y2,y3⟩:=k4.1 r2 hr {t1 with pos:=t1.pos+1} _ hd.next hf ((he.of JJ Hf).atR _);obtain⟨t4,z1,z2,z3⟩:=dr (b:={af 14 (aY t1 a).pos with a:=a,ty:=(t:Int)}) e6 y3 rfl;refine⟨t4,?_,by dsimp only at y2;simp only[List.length_cons];omega,z3⟩;show ak (take t2 [40]) _ t1= _;rw[aj (aV hd rfl),if_neg (by simp),aj (aV hd rfl),if_neg (by simp),aj (aV hd rfl),if_neg (by simp),aj (dh hd rfl),if_pos rfl,aj y1,aj z1]
     |false=>
      rw[<-qW]at m3
      simp only[Bool.false_eq_true,if_false]at m3;obtain⟨rfl,rfl⟩:a=m/\s4=s':=by have h:ret a s4=.ok (m,s'):=h;cases h;exact⟨rfl,rfl⟩
      obtain⟨e,ls,h1,h2,hh,h3,h4⟩:=ho;have Ve:∀r3,GE t2 r3 (lvl e) ls s0 a s->GE t2 r3 (lvl e) ls s0 a s4:=λr3 hg r2 hr=>by
       have hk:=hg r2 hr;generalize lvl e=k at hk⊢
       match k,hk with
       |0,hk=>exact Ac.of hk rfl rfl JJ Hf
       |1,hk=>exact λt rest hd hf he=>by obtain⟨t',f,c1,c2,c3,c4⟩:=hk t rest hd hf he;exact⟨t',f,c1,c2,c3.of JJ Hf,c4⟩
       |2,hk=>exact λt rest hd hf he=>by obtain⟨t',f,c1,c2,c3,c4⟩:=hk t rest hd hf he;exact⟨t',f,c1,c2,c3.of JJ Hf,c4⟩
       |3,hk=>exact Ac.of hk rfl rfl JJ Hf
       |k+4,hk=>exact λt rest hd hf he=>by obtain⟨t',f,c1,c2,c3,c4⟩:=hk t rest hd hf he;exact⟨t',f,c1,c2,c3.of JJ Hf,c4⟩
      refine⟨e,ls,by rw[Hf];exact h1,by rw[JJ];exact h2,hh,Ve _ h3,?_⟩;rcases h4 with⟨k1,k2⟩|⟨r',k1,k2,k3⟩
      ·exact .inl ⟨k1,by omega⟩
      ·exact .inr ⟨r',k1,Ve _ k2,by omega⟩
def adk(t2:List Tk)(r:Nat)(O:M Nat):Prop:=∀s n s',Inv s->O s=.ok (n,s')->Inv s'/\Ext s.ts s'.ts/\∃r',r=r'+1/\Op t2 3 r' s n s'
theorem TH(hT:∀t∈ad,TkOk t)(hL:ad.length<=1001){r:Nat}{E O S:M Nat}(HE:Ln t2 r E)(HO:adk t2 r O)(HS:Mr t2 r S)(RL:∀t0,IK t0 E λ_ _=>True)(agi:∀t0,IK t0 O λ_ _=>True)(BZ:∀t0,IK t0 S λ_ _=>True):Pv t2 3 r (oI ad (eJ ad r) E O S):=λs n s' hi h=>by
 have eB:=u9 hT (λt0=>IK.eJ hT hL r) RL agi BZ s.ts s n s' (Ext.refl _) hi h;refine⟨eB.1,eB.2.1,?_⟩;have h: (if dc.any (λx=>Ty.is ad x s.pos)=true then ak step λ_=>ak O λa=>addNode {af 13 (cur ad s.pos).pos with text:=(cur ad s.pos).text,a:=a}
  else ak (bO ad (eJ ad r) E S) λa=>behind ad (eJ ad r) E (ad.length+1) a:M Nat) s=.ok (n,s'):=h
 by_cases hp:dc.any (λx=>Ty.is ad x s.pos)=true
 ·rw[if_pos hp]at h
  obtain⟨u,s1,e1,h⟩:=ah h;obtain rfl:s1={s with pos:=s.pos+1}:=by cases e1;rfl
  obtain⟨a,s2,e2,hA⟩:=ah h;obtain⟨i2,x2,r',acG,ho⟩:=HO {s with pos:=s.pos+1} a s2 (dD hi rfl rfl) e2;obtain⟨e,ls,a1,a2,a3,a4,a5⟩:=ho.part;obtain⟨w1,w2,w3,w4⟩:=ek hA;have B2:=sf hp;generalize hx: (cur ad s.pos).text=x at*
  have hk: (if x.data.toList=gJ then 2 else 5)=5\/(if x.data.toList=gJ then 2 else 5)=2:=by grind
  have afM:zP ((if x.data.toList=gJ then 2 else 5,x.data.toList)::ls):=by
   refine⟨_,_,rfl,λy hy=>?_⟩;rw[wL hk,decide_eq_false]
   rintro rfl
   revert B2 hy;generalize x.data.toList=z;intro h1 h2;simp[dc]at h1
   rcases h1 with rfl|rfl|rfl<;>revert h2<;>decide
  refine⟨.one (cur ad s.pos).pos x e,(if x.data.toList=gJ then 2 else 5,x.data.toList)::ls,?_,λcH za=>?_,afM,λr2 hr=>?_,.inl ⟨by simp[lvl],?_⟩⟩
  ·grind [aF]
  ·grind [bB]
  ·obtain⟨r2,rfl⟩:∃g,r2=g+1:=⟨r2-1,by omega⟩
   intro t rest hd hf he;have hd:D t2 t.pos ((if x.data.toList=gJ then 2 else 5,x.data.toList):: (ls++rest)):=hd;obtain⟨t1,b1,b2,b3⟩:=(show C3 t2 r2 ls {s with pos:=s.pos+1} a s2 from a5 r2 (by omega)) {t with pos:=t.pos+1} rest hd.next hf (he.at _ _);have abH:=vi hd;obtain⟨t3,y1,y2,y3⟩:=dr (b:={af 13 (cur t2 t.pos).pos with text:=(cur t2 t.pos).text,a:=a}) hA b3 (by rw[abH];rfl);refine⟨t3,?_,by grind,y3⟩;have agc:dc.any (λy=>Ty.is t2 y t.pos)=true:=List.any_eq_true.2 ⟨_,B2,by rw[hd.is,wL hk];simp⟩;show(if dc.any (λy=>Ty.is t2 y t.pos)=true then ak step λ_=>ak (lv t2 (r2+1)).O λa=>addNode {af 13 (cur t2 t.pos).pos with text:=(cur t2 t.pos).text,a:=a}else _:M Nat) t= _;rw[if_pos agc,aj (show step t=.ok ((),{t with pos:=t.pos+1})from rfl),aj (show(Ty.lv t2 (r2+1)).O {t with pos:=t.pos+1}=.ok (a,t1)from b1)];exact y1
  grind
 ·rw[if_neg hp]at h
  obtain⟨a,s1,e1,h⟩:=ah h;have WD:=wY hT (λt0=>IK.eJ hT hL r) RL BZ s.ts s a s1 (Ext.refl _) hi e1;have h1:=JY hT hL HE HS RL BZ hi e1;exact(mL hT hL HE RL _ _ s s1 WD.1 h1 _ _ h).down (by omega)
end
end Ty
end
section
namespace Ty
open Tok (Tk)
theorem DS(a b:List Nd)(k:Nat)(h:b.map er=a.map er): (b.take k).map er=(a.take k).map er:=by simp_all
section
variable {ad t2:List Tk}
theorem Rp(hT:∀t∈ad,TkOk t)(hL:ad.length<=1001)(r:Nat){E S:M Nat}(RL:∀t0,IK t0 E λ_ _=>True)(BZ:∀t0,IK t0 S λ_ _=>True)(t0:List Ty):IK t0 (de ad (eJ ad r) E S) λ_ _=>True:=
 DN hT (λt0=>IK.eJ hT hL r) RL BZ t0
theorem Tz{r:Nat}{m:M Nat}(hI:∀t0,IK t0 m λ_ _=>True)(h:∀s n s',Inv s->m s=.ok (n,s')->∃e ls,cN e s.ns=(s'.ns,n)/\(∀cH,Ext s'.ts cH->dx cH e=ls)/\mC oh ls/\s.pos+ls.length<=s'.pos/\
  ∀r2,r<=r2->Ac t2 (de t2 (eJ t2 r2) (lv t2 r2).E (lv t2 r2).S) Tx ls s n s'):Mr t2 (r+1) m:=λs n s' hi hm=>by
 have eB:=hI s.ts s n s' (Ext.refl _) hi hm;obtain⟨e,ls,h1,h2,h3,h4,h5⟩:=h s n s' hi hm;refine⟨eB.1,eB.2.1,e,ls,h1,h2,h3,h4,λr2 hr=>?_⟩;obtain⟨r2,rfl⟩:∃g,r2=g+1:=⟨r2-1,by omega⟩
 exact h5 r2 (by omega)
def Ii(l:Lm):Prop:=h_ [l] [108,101,116]=false/\h_ [l] [112,114,105,110,116]=false/\h_ [l] [114,101,116,117,114,110]=false/\h_ [l] [105,102]=false/\h_ [l] [119,104,105,108,101]=false
theorem Eu{t:St}{l:Lm}{r:List Lm}{T E S:M Nat}(hd:D t2 t.pos (l::r))(h:Ii l):de t2 T E S t=cq t2 E t:=by
 obtain⟨h1,h2,h3,h4,h5⟩:=h;show ak (take t2 [108,101,116]) _ t= _;rw[aj (aV hd h1),if_neg (by simp),aj (aV hd h2),if_neg (by simp),aj (aV hd h3),if_neg (by simp)];show(if Ty.is t2 [105,102] t.pos=true then _ else if Ty.is t2 [119,104,105,108,101] t.pos=true then _ else cq t2 E:M Nat) t= _;rw[hd.is,hd.is,show h_ (l::r) [105,102]=false from h4,show h_ (l::r) [119,104,105,108,101]=false from h5,if_neg (by simp),if_neg (by simp)]
theorem mC.plain{ls:List Lm}(h:zP ls):∃l r,ls=l::r/\Ii l:=by
 obtain⟨l,r,e,h⟩:=h;exact⟨l,r,e,h _ (by decide),h _ (by decide),h _ (by decide),h _ (by decide),h _ (by decide)⟩
theorem tW{s t:St}(he:Eqs s t)(a:Nat): (aY t a).kind=(aY s a).kind/\(aY t a).text=(aY s a).text/\(aY t a).a=(aY s a).a/\(aY t a).b=(aY s a).b:=by
 grind [Qk,er]
theorem Ol(hT:∀t∈ad,TkOk t){r:Nat}{E:M Nat}(HE:Ln t2 r E){s s':St}{n:Nat}(hi:Inv s)(h:cq ad E s=.ok (n,s')):∃e ls,cN e s.ns=(s'.ns,n)/\(∀cH,Ext s'.ts cH->dx cH e=ls)/\zP ls/\s.pos+ls.length<=s'.pos/\
  ∀r2,r<=r2->Ac t2 (cq t2 (lv t2 r2).E) Tx ls s n s':=by
 obtain⟨a,s1,e1,h⟩:=ah h;obtain⟨i1,x1,e,la,k1,k2,k3,k4,k5⟩:=HE.go hi e1;have h: (if Ty.is ad [61] s1.pos=true then
  if(aY s1 a).kind=5 then ak (ef a) λ_=>ak step λ_=>ak E λv=>ak (need ad [59]) λ_=>addNode {af 18 (aY s1 a).pos with text:=(aY s1 a).text,a:=v}
  else if(aY s1 a).kind=8 then ak (ef a) λ_=>ak step λ_=>ak E λv=>ak (need ad [59]) λ_=>addNode {af 19 (aY s1 a).pos with text:=(aY s1 a).text,a:=(aY s1 a).a,b:=v}
  else if(aY s1 a).kind=9 then ak (ef a) λ_=>ak step λ_=>ak E λv=>ak (need ad [59]) λ_=>addNode {af 20 (aY s1 a).pos with a:=(aY s1 a).a,b:=(aY s1 a).b,c:=(v:Int)}
  else fail ad 1
 else ak (need ad [59]) λ_=>addNode {af 25 (aY s1 a).pos with a:=a}:M Nat) s1=.ok (n,s'):=h
 --the same at the other reader
 have Pp:∀r2 t,cq t2 (lv t2 r2).E t=ak (lv t2 r2).E (λa=>look λt1=>(if Ty.is t2 [61] t1.pos=true then
  if(aY t1 a).kind=5 then ak (ef a) λ_=>ak step λ_=>ak (lv t2 r2).E λv=>ak (need t2 [59]) λ_=>addNode {af 18 (aY t1 a).pos with text:=(aY t1 a).text,a:=v}
  else if(aY t1 a).kind=8 then ak (ef a) λ_=>ak step λ_=>ak (lv t2 r2).E λv=>ak (need t2 [59]) λ_=>addNode {af 19 (aY t1 a).pos with text:=(aY t1 a).text,a:=(aY t1 a).a,b:=v}
  else if(aY t1 a).kind=9 then ak (ef a) λ_=>ak step λ_=>ak (lv t2 r2).E λv=>ak (need t2 [59]) λ_=>addNode {af 20 (aY t1 a).pos with a:=(aY t1 a).a,b:=(aY t1 a).b,c:=(v:Int)}
  else fail t2 1
 else ak (need t2 [59]) λ_=>addNode {af 25 (aY t1 a).pos with a:=a}:M Nat)) t:=λ_ _=>rfl
 have QD:∀(K:Nat->St->M Nat)(m:M Nat)(t t1:St),m t=.ok (a,t1)->ak m (λa=>look (K a)) t=K a t1 t1:=λK m t t1 h=>by rw[aj h];rfl
 obtain⟨pL,nd,hl,hk⟩:=sQ e s.ns;have G9:=zr (hl.symm.trans k1);rw[G9]at h
 by_cases hq:Ty.is ad [61] s1.pos=true
 ·rw[if_pos hq]at h
  --what stands behind the sign
  have Ud:∀(b:Nat->Nd),ak E (λv=>ak (need ad [59]) λ_=>addNode (b v)) {s1 with ns:=s1.ns.take a,pos:=s1.pos+1}=.ok (n,s')->
    ∃(v:Nat)(s2:St)(ev:Ex)(uL:List Lm),aF ev (s1.ns.take a)=(s2.ns,v)/\(∀cH,Ext s'.ts cH->bB cH ev=uL)/\s1.pos+uL.length+2<=s'.pos/\s'.ts=s2.ts/\Ext s1.ts s'.ts/\n=s2.ns.length/\s'.ns=s2.ns++[b v]/\
    ∀r2,r<=r2->∀t1 rest(bb:Nat->Nd),D t2 t1.pos ((5,[61]):: (uL++(5,[59])::rest))->Eqs s1 t1->(∀v,er (bb v)=er (b v))->∃t',ak (ef a) (λ_=>ak step λ_=>ak (Ty.lv t2 r2).E λv=>ak (need t2 [59]) λ_=>addNode (bb v)) t1=.ok (n,t')/\t'.pos=t1.pos+uL.length+2/\Eqs s' t':=by
   intro b h;obtain⟨v,s2,e2,h⟩:=ah h;have agB:Inv {s1 with ns:=s1.ns.take a,pos:=s1.pos+1}:=⟨i1.wf,i1.nm,λnd hm=>i1.ns nd (List.mem_of_mem_take hm)⟩
   obtain⟨i2,x2,ev,uL,j1,j2,j3,j4,j5⟩:=HE.go agB e2;obtain⟨u,s3,e3,h⟩:=ah h;obtain⟨_,m1,m2,m3⟩:=dO e3;obtain⟨w1,w2,w3,w4⟩:=ek h;refine⟨v,s2,ev,uL,j1,λcH hx=>j2 cH (by rw[w1,m1]at hx;exact hx),by dsimp only at j4;omega,by rw[w1,m1],by rw[w1,m1];exact x2,by rw[<-m2];exact w3,by rw[w4,m2],λr2 hr t1 rest bb hd he fF=>?_⟩;obtain⟨t3,y1,y2,y3⟩:=j5 r2 hr {t1 with ns:=t1.ns.take a,pos:=t1.pos+1} _ hd.next (FoE.sign (by decide)) ⟨he.ts,DS _ _ _ he.ns⟩;have d3:=hd.next.add.pos y2;obtain⟨t4,z1,z2,z3⟩:=dr (b:=bb v) h ((y3.of m1 m2).atR (t3.pos+1)) (fF v);refine⟨t4,?_,by dsimp only at y2 z2;omega,z3⟩;rw[aj (show ef a t1=.ok ((),{t1 with ns:=t1.ns.take a})from rfl),aj (show step {t1 with ns:=t1.ns.take a}=.ok ((),{t1 with ns:=t1.ns.take a,pos:=t1.pos+1})from rfl),aj y1,aj (eC d3 rfl)];exact z1
  by_cases h5:nd.kind=5
  ·rw[if_pos h5]at h
   obtain⟨v,s2,ev,uL,j1,j2,j4,j6,j7,j8,j9,WX⟩:=Ud (λv=>{af 18 nd.pos with text:=nd.text,a:=v}) h;have U0:=h5;rw[hk]at U0
   cases e<;>simp only[gI]at U0<;>try omega
   rename_i p x;have lR:=k2 s1.ts (Ext.refl _);rw[bB]at lR
   rw[aF]at k1 hl
   obtain⟨q1,q2⟩:=Prod.mk.inj k1;obtain⟨r1,r2⟩:=Prod.mk.inj hl;obtain⟨r3,r4⟩:=List.append_inj' r1 rfl;obtain rfl:=List.cons.inj r4|>.1;rw[<-q1,<-q2]at j1
   simp only[List.take_left']at j1;refine⟨.set p x ev,la++((5,[61]):: (uL++[(5,[59])])),?_,λcH hx=>?_,k3.app _,?_,λr2 hr t rest hd _ he=>?_⟩
   ·rw[cN,j1,j9,j8];rfl
   ·grind [dx]
   ·grind
   ·simp only[List.append_assoc,List.cons_append,List.nil_append]at hd;obtain⟨t1,c1,c2,c3⟩:=k5 r2 hr t _ hd (FoE.sign (by decide)) he;have d1:=hd.add.pos c2;have Bo:=tW c3 a;obtain⟨t4,z1,z2,z3⟩:=WX r2 hr t1 rest (λv=>{af 18 (aY t1 a).pos with text:=(aY t1 a).text,a:=v}) d1 c3 (λv=>by rw[Bo.2.1,G9];rfl);refine⟨t4,?_,by simp only[lzA,lzC,lzN];omega,z3⟩;rw[Pp,QD _ _ _ _ c1,d1.is,if_pos (show h_ ((5,[61]):: (uL++(5,[59])::rest)) [61]=true from rfl),Bo.1,G9,if_pos h5];exact z1
  rw[if_neg h5]at h
  by_cases h8:nd.kind=8
  ·rw[if_pos h8]at h
   obtain⟨v,s2,ev,uL,j1,j2,j4,j6,j7,j8,j9,WX⟩:=Ud (λv=>{af 19 nd.pos with text:=nd.text,a:=nd.a,b:=v}) h;have Im:=h8;rw[hk]at Im
   cases e<;>simp only[gI]at Im<;>try omega
   rename_i p ea x;rw[aF]at k1 hl
   dsimp only at k1 hl;obtain⟨q1,q2⟩:=Prod.mk.inj k1;obtain⟨r1,r2⟩:=Prod.mk.inj hl;obtain⟨r3,r4⟩:=List.append_inj' r1 rfl;obtain rfl:=List.cons.inj r4|>.1;rw[<-q1,<-q2]at j1
   simp only[List.take_left']at j1;refine⟨.put p ea x ev,la++((5,[61]):: (uL++[(5,[59])])),?_,λcH hx=>?_,k3.app _,?_,λr2 hr t rest hd _ he=>?_⟩
   ·rw[cN];dsimp only;rw[j1,j9,j8];rfl
   ·have lR:=k2 cH (j7.trans hx);rw[bB]at lR
    rw[dx,j2 cH hx,<-lR];simp
   ·simp only[lzA,lzC,lzN];omega
   ·simp only[List.append_assoc,List.cons_append,List.nil_append]at hd;obtain⟨t1,c1,c2,c3⟩:=k5 r2 hr t _ hd (FoE.sign (by decide)) he;have d1:=hd.add.pos c2;have Bo:=tW c3 a;obtain⟨t4,z1,z2,z3⟩:=WX r2 hr t1 rest (λv=>{af 19 (aY t1 a).pos with text:=(aY t1 a).text,a:=(aY t1 a).a,b:=v}) d1 c3 (λv=>by rw[Bo.2.1,Bo.2.2.1,G9];rfl);refine⟨t4,?_,by simp only[lzA,lzC,lzN];omega,z3⟩;rw[Pp,QD _ _ _ _ c1,d1.is,if_pos (show h_ ((5,[61]):: (uL++(5,[59])::rest)) [61]=true from rfl),Bo.1,G9,if_neg h5,if_pos h8];exact z1
  rw[if_neg h8]at h
  by_cases h9:nd.kind=9
  ·rw[if_pos h9]at h
   obtain⟨v,s2,ev,uL,j1,j2,j4,j6,j7,j8,j9,WX⟩:=Ud (λv=>{af 20 nd.pos with a:=nd.a,b:=nd.b,c:=(v:Int)}) h;have Lr:=h9;rw[hk]at Lr
   cases e<;>simp only[gI]at Lr<;>try omega
   rename_i p ea eb;rw[aF]at k1 hl
   dsimp only at k1 hl;obtain⟨q1,q2⟩:=Prod.mk.inj k1;obtain⟨r1,r2⟩:=Prod.mk.inj hl;obtain⟨r3,r4⟩:=List.append_inj' r1 rfl;obtain rfl:=List.cons.inj r4|>.1;rw[<-q1,<-q2]at j1
   simp only[List.take_left']at j1;refine⟨.lay p ea eb ev,la++((5,[61]):: (uL++[(5,[59])])),?_,λcH hx=>?_,k3.app _,?_,λr2 hr t rest hd _ he=>?_⟩
   ·rw[cN];dsimp only;rw[j1,j9,j8];rfl
   ·have lR:=k2 cH (j7.trans hx);rw[bB]at lR
    rw[dx,j2 cH hx,<-lR];simp
   ·simp only[lzA,lzC,lzN];omega
   ·simp only[List.append_assoc,List.cons_append,List.nil_append]at hd;obtain⟨t1,c1,c2,c3⟩:=k5 r2 hr t _ hd (FoE.sign (by decide)) he;have d1:=hd.add.pos c2;have Bo:=tW c3 a;obtain⟨t4,z1,z2,z3⟩:=WX r2 hr t1 rest (λv=>{af 20 (aY t1 a).pos with a:=(aY t1 a).a,b:=(aY t1 a).b,c:=(v:Int)}) d1 c3 (λv=>by rw[Bo.2.2.1,Bo.2.2.2,G9];rfl);refine⟨t4,?_,by simp only[lzA,lzC,lzN];omega,z3⟩;rw[Pp,QD _ _ _ _ c1,d1.is,if_pos (show h_ ((5,[61]):: (uL++(5,[59])::rest)) [61]=true from rfl),Bo.1,G9,if_neg h5,if_neg h8,if_pos h9];exact z1
  rw[if_neg h9]at h
  cases h
 ·rw[if_neg hq]at h
  obtain⟨u,s2,e2,h⟩:=ah h;obtain⟨_,m1,m2,m3⟩:=dO e2;obtain⟨w1,w2,w3,w4⟩:=ek h;refine⟨.oL nd.pos e,la++[(5,[59])],by rw[cN,k1,w4,w3,m2],λcH hx=>by rw[w1,m1]at hx;rw[dx,k2 cH hx],k3.app _,by simp only[lzA,lzC,lzN];omega,λr2 hr t rest hd _ he=>?_⟩;simp only[List.append_assoc,List.cons_append,List.nil_append]at hd;obtain⟨t1,c1,c2,c3⟩:=k5 r2 hr t _ hd (FoE.sign (by decide)) he;have d1:=hd.add.pos c2;obtain⟨t4,z1,z2,z3⟩:=dr (b:={af 25 (aY t1 a).pos with a:=a}) h ((c3.of m1 m2).atR (t1.pos+1)) rfl;refine⟨t4,?_,by simp only[lzA,lzC,lzN]at z2⊢;omega,z3⟩;rw[Pp,QD _ _ _ _ c1,d1.is,if_neg (by simp[h_]),aj (eC d1 rfl)];exact z1
end
end Ty
end
section
namespace Ty
open Tok (Tk)
section
variable {ad t2:List Tk}
def Rw(yes:Bool):List UInt8:=if yes then [105,102]else [119,104,105,108,101]
theorem KS{r:Nat}{E S:M Nat}(HE:Ln t2 r E)(HS:Mr t2 r S)(BZ:∀t0,IK t0 S λ_ _=>True)(yes:Bool)(p:Nat){s s':St}{n:Nat}(hi:Inv s)(h:aZ ad E S yes p s=.ok (n,s')):
  ∃e ls,cN e s.ns=(s'.ns,n)/\(∀cH,Ext s'.ts cH->dx cH e=(2,Rw yes)::ls)/\s.pos+ls.length+1<=s'.pos/\
   ∀r2,r<=r2->∀p2,Ac t2 (aZ t2 (lv t2 r2).E (lv t2 r2).S yes p2) Tx ((2,Rw yes)::ls) s n s':=by
 obtain⟨u,s1,e1,h⟩:=ah h;obtain rfl:s1={s with pos:=s.pos+1}:=by cases e1;rfl
 obtain⟨u2,s2,e2,h⟩:=ah h;obtain⟨_,q1,q2,q3⟩:=dO e2;obtain⟨a,s3,e3,h⟩:=ah h;have i2:Inv s2:=dD hi q1 q2;obtain⟨i3,x3,e,la,k1,k2,k3,k4,k5⟩:=HE.go i2 e3;obtain⟨u4,s4,e4,h⟩:=ah h;obtain⟨_,o1,o2,o3⟩:=dO e4;obtain⟨b,s5,e5,h⟩:=ah h;obtain⟨i5,x5,bp,body,LB,b1,b2,b3,b4⟩:=vP HS BZ (dD i3 o1 o2) e5;have Tq:Ext s3.ts s5.ts:=by rw[<-o1];exact x5
 dsimp only at q1 q2 q3
 --up to the block at the other reader
 have Pp:∀r2,r<=r2->∀(K:Nat->Nat->M Nat) t rest,D t2 t.pos ((2,Rw yes):: (5,[40]):: (la++((5,[41]):: (5,[123]):: (LB++(5,[125])::rest))))->Eqs s t->
   ∃t5,ak step (λ_=>ak (need t2 [40]) λ_=>ak (lv t2 r2).E λa=>ak (need t2 [41]) λ_=>ak (di t2 (lv t2 r2).S) λb=>K a b) t=K a b t5/\t5.pos=t.pos+la.length+LB.length+5/\D t2 t5.pos rest/\Eqs s5 t5:=λr2 hr K t rest hd he=>by
  obtain⟨t3,c1,c2,c3⟩:=k5 r2 hr {t with pos:=t.pos+1+1} _ hd.next.next (FoE.sign (by decide)) ((he.of q1 q2).atR _);have d3:=hd.next.next.add.pos c2;obtain⟨t5,f1,f2,f3⟩:=b4 r2 hr {t3 with pos:=t3.pos+1} rest (by simpa using d3.next) trivial ((c3.of o1 o2).atR _);dsimp only at c2 f2;simp only[List.length_cons,List.length_append,List.length_nil]at f2;refine⟨t5,?_,by omega,?_,f3⟩
  ·rw[aj (show step t=.ok ((),{t with pos:=t.pos+1})from rfl),aj (eC (t:={t with pos:=t.pos+1}) hd.next rfl),aj c1,aj (eC d3 rfl),aj f1]
  ·have d5:=(show D t2 (t3.pos+1) (((5,[123]):: (LB++[(5,[125])]))++rest)by simpa using d3.next).add
   grind
 cases yes with
 |false=>
  have h:addNode {af 23 p with a:=a,b:=b} s5=.ok (n,s'):=h;obtain⟨w1,w2,w3,w4⟩:=ek h;refine⟨.while_ p e bp body,(5,[40]):: (la++((5,[41]):: (5,[123]):: (LB++[(5,[125])]))),?_,λcH hx=>?_,?_,λr2 hr p2 t rest hd _ he=>?_⟩
  ·grind [cN]
  ·rw[w1]at hx
   rw[dx,k2 cH (Tq.trans hx),b2 cH hx];rfl
  ·grind
  ·simp only[List.append_assoc,List.cons_append,List.nil_append]at hd;obtain⟨t5,c1,c2,c3,c4⟩:=Pp r2 hr (λa b=>addNode {af 23 p2 with a:=a,b:=b}) t rest hd he;obtain⟨t6,z1,z2,z3⟩:=dr (b:={af 23 p2 with a:=a,b:=b}) h c4 rfl;refine⟨t6,?_,by simp only[lzA,lzC,lzN];omega,z3⟩;exact c1.trans z1
 |true=>
  have h:ak (take ad [101,108,115,101]) (λe=>if e then ak (di ad S) λc=>addNode {af 22 p with a:=a,b:=b,c:=(c:Int)}else addNode {af 22 p with a:=a,b:=b,c:= -1}) s5=.ok (n,s'):=h;obtain⟨v,s6,e6,h⟩:=ah h;obtain⟨hv,m1,m2,m3⟩:=b_ e6;cases v with
  |false=>
   rw[<-hv]at m3
   simp only[Bool.false_eq_true,if_false]at h m3;obtain⟨w1,w2,w3,w4⟩:=ek h;refine⟨.if_ p e bp body none,(5,[40]):: (la++((5,[41]):: (5,[123]):: (LB++[(5,[125])]))),?_,λcH hx=>?_,?_,λr2 hr p2 t rest hd hf he=>?_⟩
   ·grind [cN]
   ·rw[w1,m1]at hx
    rw[dx,k2 cH (Tq.trans hx),b2 cH hx];rfl
   ·grind
   ·simp only[List.append_assoc,List.cons_append,List.nil_append]at hd;obtain⟨t5,c1,c2,c3,c4⟩:=Pp r2 hr (λa b=>ak (take t2 [101,108,115,101]) λe=>if e then ak (di t2 (lv t2 r2).S) λc=>addNode {af 22 p2 with a:=a,b:=b,c:=(c:Int)}else addNode {af 22 p2 with a:=a,b:=b,c:= -1}) t rest hd he;obtain⟨t6,z1,z2,z3⟩:=dr (b:={af 22 p2 with a:=a,b:=b,c:= -1}) h (c4.of m1 m2) rfl;refine⟨t6,?_,by simp only[lzA,lzC,lzN];omega,z3⟩;refine c1.trans ?_;rw[aj (aV c3 hf)];exact z1
  |true=>
   rw[<-hv,if_pos rfl]at m3
   simp only[if_true]at h;obtain⟨c,s7,e7,h⟩:=ah h;obtain⟨i7,x7,cp,Xh,LC,g1,g2,g3,g4⟩:=vP HS BZ (dD i5 m1 m2) e7;obtain⟨w1,w2,w3,w4⟩:=ek h;have Wo:Ext s5.ts s7.ts:=by rw[<-m1];exact x7
   refine⟨.if_ p e bp body (some (cp,Xh)),(5,[40]):: (la++((5,[41]):: (5,[123]):: (LB++((5,[125]):: (2,[101,108,115,101]):: (5,[123]):: (LC++[(5,[125])]))))),?_,λcH hx=>?_,?_,λr2 hr p2 t rest hd hf he=>?_⟩
   ·rw[cN,<-q2,k1];dsimp only;rw[<-o2,b1];dsimp only;rw[<-m2,g1];dsimp only;rw[w4,w3]
   ·rw[w1]at hx
    rw[dx,k2 cH ((Tq.trans Wo).trans hx),b2 cH (Wo.trans hx),g2 cH hx];rfl
   ·simp only[lzA,lzC,lzN];omega
   ·simp only[List.append_assoc,List.cons_append,List.nil_append]at hd;obtain⟨t5,c1,c2,c3,c4⟩:=Pp r2 hr (λa b=>ak (take t2 [101,108,115,101]) λe=>if e then ak (di t2 (lv t2 r2).S) λc=>addNode {af 22 p2 with a:=a,b:=b,c:=(c:Int)}else addNode {af 22 p2 with a:=a,b:=b,c:= -1}) t _ hd he;obtain⟨t6,y1,y2,y3⟩:=g4 r2 hr {t5 with pos:=t5.pos+1} rest (by simpa using c3.next) trivial ((c4.of m1 m2).atR _);obtain⟨t7,z1,z2,z3⟩:=dr (b:={af 22 p2 with a:=a,b:=b,c:=(c:Int)}) h y3 rfl;dsimp only at y2;simp only[lzA,lzC,lzN]at y2;refine⟨t7,?_,by simp only[lzA,lzC,lzN];omega,z3⟩;refine c1.trans ?_;rw[aj (dh c3 rfl),if_pos rfl,aj y1];exact z1
theorem Ai{r:Nat}{E:M Nat}(HE:Ln t2 r E)(f:Nat->Nd){s s':St}{n:Nat}(hi:Inv s)(h:ak E (λa=>ak (need ad [59]) λ_=>addNode (f a)) s=.ok (n,s')):
  ∃(e:Ex)(a:Nat)(pL:List Nd)(la:List Lm),aF e s.ns=(pL,a)/\s'.ns=pL++[f a]/\n=pL.length/\(∀cH,Ext s'.ts cH->bB cH e=la)/\Ext s.ts s'.ts/\s.pos+la.length+1<=s'.pos/\
   ∀r2,r<=r2->∀(g:Nat->Nd),er (g a)=er (f a)->∀t rest,D t2 t.pos (la++(5,[59])::rest)->Eqs s t->∃t',ak (lv t2 r2).E (λa=>ak (need t2 [59]) λ_=>addNode (g a)) t=.ok (n,t')/\t'.pos=t.pos+la.length+1/\Eqs s' t':=by
 obtain⟨a,s1,e1,h⟩:=ah h;obtain⟨i1,x1,e,la,k1,k2,k3,k4,k5⟩:=HE.go hi e1;obtain⟨u,s2,e2,h⟩:=ah h;obtain⟨_,m1,m2,m3⟩:=dO e2;obtain⟨w1,w2,w3,w4⟩:=ek h;refine⟨e,a,s1.ns,la,k1,by grind,by grind,λcH hx=>k2 cH (by grind),by grind,by omega,λr2 hr g hg t rest hd he=>?_⟩;obtain⟨t1,c1,c2,c3⟩:=k5 r2 hr t _ hd (FoE.sign (by decide)) he;have d1:=hd.add.pos c2;obtain⟨t4,z1,z2,z3⟩:=dr h ((c3.of m1 m2).atR (t1.pos+1)) hg;refine⟨t4,?_,by grind,z3⟩;rw[aj c1,aj (eC d1 rfl)];exact z1
theorem vj{x:List UInt8}{r:List Lm}(h:x∉oh):mC oh ((2,x)::r):=⟨_,_,rfl,λy hy=>by
 rw[wL (.inr rfl),decide_eq_false]
 rintro rfl
 exact h hy⟩
theorem Rk(hT:∀t∈ad,TkOk t)(hL:ad.length<=1001){r:Nat}{E S:M Nat}(HE:Ln t2 r E)(HS:Mr t2 r S)(RL:∀t0,IK t0 E λ_ _=>True)(BZ:∀t0,IK t0 S λ_ _=>True):Mr t2 (r+1) (de ad (eJ ad r) E S):=by
 refine Tz (Rp hT hL r RL BZ) λs n s' hi h=>?_
 have h:ak (take ad [108,101,116]) (λb=>if b then ak (name ad []) λx=>ak (written ad (eJ ad r)) λt=>ak (need ad [61]) λ_=>ak E λa=>ak (need ad [59]) λ_=>addNode {af 17 (cur ad s.pos).pos with text:=x,ty:=t,a:=a}else
  ak (take ad [112,114,105,110,116]) λb=>if b then ak E λa=>ak (need ad [59]) λ_=>addNode {af 21 (cur ad s.pos).pos with a:=a}else
  ak (take ad [114,101,116,117,114,110]) λb=>if b then ak E λa=>ak (need ad [59]) λ_=>addNode {af 24 (cur ad s.pos).pos with a:=a}else
  look λs2=>if Ty.is ad [105,102] s2.pos then aZ ad E S true (cur ad s.pos).pos else if Ty.is ad [119,104,105,108,101] s2.pos then aZ ad E S false (cur ad s.pos).pos else cq ad E) s=.ok (n,s'):=h
 obtain⟨b,s1,e1,h⟩:=ah h;obtain⟨hb,q1,q2,q3⟩:=b_ e1;cases b with
 |true=>
  rw[<-hb,if_pos rfl]at q3
  obtain⟨x,s2,e2,h⟩:=ah (show ak (name ad []) (λx=>ak (written ad (eJ ad r)) λt=>ak (need ad [61]) λ_=>ak E λa=>ak (need ad [59]) λ_=>addNode {af 17 (cur ad s.pos).pos with text:=x,ty:=t,a:=a}) s1= _ from h);obtain⟨m1,m2,m3,m4⟩:=oT e2;have G6:s2.ts=s.ts:=m2.trans q1;have Hm:s2.ns=s.ns:=m3.trans q2;obtain⟨ty,s3,e3,h⟩:=ah h;obtain⟨i3,x3,n3,lt,k2,k4,agW,k5⟩:=qV (t2:=t2) hT hL (dD hi G6 Hm) e3;obtain⟨u,s4,e4,h⟩:=ah h;obtain⟨_,o1,o2,o3⟩:=dO e4;obtain⟨e,a,pL,la,g1,g2,g3,g4,g5,g6,g7⟩:=Ai (t2:=t2) HE (λa=>{af 17 (cur ad s.pos).pos with text:=x,ty:=ty,a:=a}) (dD i3 o1 o2) h;rw[o1]at g5
  refine⟨.fZ (cur ad s.pos).pos x ty e,(2,[108,101,116]):: (1,x.data.toList):: (lt++((5,[61]):: (la++[(5,[59])]))),?_,λcH hx=>?_,vj (by decide),?_,λr2 hr t rest hd hf he=>?_⟩
  ·grind [cN]
  ·rw[dx,k2 cH (g5.trans hx),g4 cH hx]
  ·grind
  ·simp only[List.append_assoc,List.cons_append,List.nil_append]at hd;obtain⟨t3,c1,c2,c3⟩:=k5 r2 hr {t with pos:=t.pos+1+1} _ hd.next.next ⟨rfl,rfl,rfl⟩ ((he.of G6 Hm).atR _);have d3:=hd.next.next.add.pos c2;obtain⟨t4,y1,y2,y3⟩:=g7 r2 hr (λa=>{af 17 (cur t2 t.pos).pos with text:=x,ty:=ty,a:=a}) rfl {t3 with pos:=t3.pos+1} rest d3.next ((c3.of o1 o2).atR _);dsimp only at c2 y2;refine⟨t4,?_,by simp only[lzA,lzC,lzN];omega,y3⟩;show ak (take t2 [108,101,116]) _ t= _;rw[aj (dh hd rfl),if_pos rfl,aj (r7 (t:={t with pos:=t.pos+1}) hd.next m1),aj c1,aj (eC d3 rfl)];exact y1
 |false=>
  rw[<-hb]at q3
  simp only[Bool.false_eq_true,if_false]at h q3;obtain⟨b,s2,e2,h⟩:=ah h;obtain⟨aW,p1,p2,p3⟩:=b_ e2;have G6:s2.ts=s.ts:=p1.trans q1;have Hm:s2.ns=s.ns:=p2.trans q2;cases b with
  |true=>
   rw[<-aW,if_pos rfl]at p3
   obtain⟨e,a,pL,la,g1,g2,g3,g4,g5,g6,g7⟩:=Ai (t2:=t2) HE (λa=>{af 21 (cur ad s.pos).pos with a:=a}) (dD hi G6 Hm) h;refine⟨.print (cur ad s.pos).pos e,(2,[112,114,105,110,116]):: (la++[(5,[59])]),?_,λcH hx=>by rw[dx,g4 cH hx],vj (by decide),?_,λr2 hr t rest hd hf he=>?_⟩
   ·grind [cN]
   ·grind
   ·simp only[List.append_assoc,List.cons_append,List.nil_append]at hd;obtain⟨t4,y1,y2,y3⟩:=g7 r2 hr (λa=>{af 21 (cur t2 t.pos).pos with a:=a}) rfl {t with pos:=t.pos+1} rest hd.next ((he.of G6 Hm).atR _);dsimp only at y2;refine⟨t4,?_,by simp only[lzA,lzC,lzN];omega,y3⟩;show ak (take t2 [108,101,116]) _ t= _;rw[aj (aV hd rfl),if_neg (by simp),aj (dh hd rfl)];exact y1
  |false=>
   rw[<-aW]at p3
   simp only[Bool.false_eq_true,if_false]at h p3;obtain⟨b,s3,e3,h⟩:=ah h;obtain⟨cZ,o1,o2,o3⟩:=b_ e3;have Jk:s3.ts=s.ts:=o1.trans G6;have DM:s3.ns=s.ns:=o2.trans Hm;cases b with
   |true=>
    rw[<-cZ,if_pos rfl]at o3
    obtain⟨e,a,pL,la,g1,g2,g3,g4,g5,g6,g7⟩:=Ai (t2:=t2) HE (λa=>{af 24 (cur ad s.pos).pos with a:=a}) (dD hi Jk DM) h;refine⟨.ret (cur ad s.pos).pos e,(2,[114,101,116,117,114,110]):: (la++[(5,[59])]),?_,λcH hx=>by rw[dx,g4 cH hx],vj (by decide),?_,λr2 hr t rest hd hf he=>?_⟩
    ·rw[cN,<-DM,g1,g2,g3]
    ·simp only[lzA,lzC,lzN];omega
    ·simp only[List.append_assoc,List.cons_append,List.nil_append]at hd;obtain⟨t4,y1,y2,y3⟩:=g7 r2 hr (λa=>{af 24 (cur t2 t.pos).pos with a:=a}) rfl {t with pos:=t.pos+1} rest hd.next ((he.of Jk DM).atR _);dsimp only at y2;refine⟨t4,?_,by simp only[lzA,lzC,lzN];omega,y3⟩;show ak (take t2 [108,101,116]) _ t= _;rw[aj (aV hd rfl),if_neg (by simp),aj (aV hd rfl),if_neg (by simp),aj (dh hd rfl)];exact y1
   |false=>
    rw[<-cZ]at o3
    have h: (if Ty.is ad [105,102] s3.pos=true then aZ ad E S true (cur ad s.pos).pos else if Ty.is ad [119,104,105,108,101] s3.pos=true then aZ ad E S false (cur ad s.pos).pos else cq ad E:M Nat) s3=.ok (n,s'):=h;simp only[Bool.false_eq_true,if_false]at o3;have i3:Inv s3:=dD hi Jk DM;have Yv:∀yes,aZ ad E S yes (cur ad s.pos).pos s3=.ok (n,s')->∃e ls,cN e s.ns=(s'.ns,n)/\(∀cH,Ext s'.ts cH->dx cH e=ls)/\mC oh ls/\s.pos+ls.length<=s'.pos/\
      ∀r2,r<=r2->Ac t2 (de t2 (eJ t2 r2) (lv t2 r2).E (lv t2 r2).S) Tx ls s n s':=λyes h=>by
     obtain⟨e,ls,g1,g2,g3,g4⟩:=KS (t2:=t2) HE HS BZ yes _ i3 h;refine⟨e,(2,Rw yes)::ls,by rw[<-DM];exact g1,g2,vj (by cases yes<;>decide),by simp only[List.length_cons];omega,λr2 hr t rest hd hf he=>?_⟩;obtain⟨t4,y1,y2,y3⟩:=g4 r2 hr (cur t2 t.pos).pos t rest hd hf (he.of Jk DM);refine⟨t4,?_,y2,y3⟩;have hd:D t2 t.pos ((2,Rw yes):: (ls++rest)):=hd;show ak (take t2 [108,101,116]) _ t= _;rw[aj (aV hd (by cases yes<;>rfl)),if_neg (by simp),aj (aV hd (by cases yes<;>rfl)),if_neg (by simp),aj (aV hd (by cases yes<;>rfl)),if_neg (by simp)];show(if Ty.is t2 [105,102] t.pos=true then aZ t2 (lv t2 r2).E (lv t2 r2).S true (cur t2 t.pos).pos else if Ty.is t2 [119,104,105,108,101] t.pos=true then aZ t2 (lv t2 r2).E (lv t2 r2).S false (cur t2 t.pos).pos else cq t2 (lv t2 r2).E:M Nat) t= _;rw[hd.is,hd.is];cases yes
     ·rw[if_neg (by simp[h_,Rw]),if_pos (by simp[h_,Rw])];exact y1
     ·rw[if_pos (by simp[h_,Rw])];exact y1
    split at h
    ·exact Yv true h
    ·split at h
     ·exact Yv false h
     ·obtain⟨e,ls,g1,g2,g3,g4,g5⟩:=Ol (t2:=t2) hT HE i3 h;refine⟨e,ls,by rw[<-DM];exact g1,g2,g3.oW,by omega,λr2 hr t rest hd hf he=>?_⟩;obtain⟨t4,y1,y2,y3⟩:=g5 r2 hr t rest hd hf (he.of Jk DM);refine⟨t4,?_,y2,y3⟩;obtain⟨l,ahD,rfl,hp⟩:=g3.plain;rw[Eu hd hp];exact y1
theorem OU(hT:∀t∈ad,TkOk t)(hL:ad.length<=1001):∀r,Ln t2 r (lv ad r).E/\adk t2 r (lv ad r).O/\Mr t2 r (lv ad r).S
 |0=>by
  refine⟨?_,?_,?_⟩<;>intro s n s' _ h<;>cases h
 |r+1=>by
  obtain⟨h1,h2,h3⟩:=OU hT hL r;obtain⟨i1,i2,i3⟩:=Mx hT hL r;have ho:=TH hT hL h1 h2 h3 i1 i2 i3;have agn:=u9 hT (λt0=>IK.eJ hT hL r) i1 i2 i3;refine⟨λs n s' hi h=>?_,λs n s' hi h=>?_,Rk hT hL h1 h3 i1 i3⟩
  ·obtain⟨a,b,c⟩:=QK hT ho agn _ _ _ hi h
   grind
  ·obtain⟨a,b,c⟩:=ho _ _ _ hi h
   grind
end
end Ty
end
section
namespace Ty
open Tok (Tk)
def Ly(c:Bool)(cs:List UInt8)(ls:List Lm):Prop:=∀(s:BA)(k:Nat)(o:List Tk)(f:Nat)(rest:List UInt8),s.data.toList.drop k=cs++rest->(c=true->∀d r,rest=d::r->c_ d=false)->s.size<k+f->k<=s.size->o.length+ls.length<=1000->
 ∃f' o',o'.map kt=o.map kt++ls/\s.size<k+cs.length+f'/\k+cs.length<=s.size/\bL s f k o=bL s f' (k+cs.length) o'
theorem Ly.nil:Ly false [] []:=λs k o f rest _ _ hf hk _=>⟨f,o,by simp,by grind,by grind,rfl⟩
theorem Ly.oW{cs:List UInt8}{ls:List Lm}(h:Ly false cs ls):Ly true cs ls:=λs k o f rest hd _=>h s k o f rest hd (λe=>by cases e)
theorem Ly.comp{c1 c2:Bool}{a b:List UInt8}{la lb:List Lm}(h:Ly c1 a la)(g:Ly c2 b lb)(hh:c1=true->∃d r,b=d::r/\c_ d=false:=by intro e;cases e):Ly c2 (a++b) (la++lb):=λs k o f rest hd hc hf hk hn=>by
 rw[List.append_assoc]at hd
 rw[List.length_append]at hn
 obtain⟨f1,o1,e1,e2,e3,e4⟩:=h s k o f (b++rest) hd (λe d r hr=>by
  obtain⟨d',r',rfl,hp⟩:=hh e;cases hr;exact hp) hf hk (by omega)
 have hl:=congrArg List.length e1;simp at hl;obtain⟨f2,o2,g1,g2,g3,g4⟩:=g s _ o1 f1 rest (mH hd) hc e2 e3 (by omega);refine⟨f2,o2,by grind,?_,?_,?_⟩
 ·grind
 ·grind
 grind
theorem CC(d:UInt8)(h:d=32\/d=10):Ly false [d] []:=λs k o f rest hd _ hf hk _=>by
 obtain⟨h1,h2⟩:=pO hd;obtain⟨f,rfl⟩:∃g,f=g+1:=⟨f-1,by omega⟩
 refine⟨f,o,by simp,?_,?_,?_⟩
 ·grind
 ·grind
 grind [bL]
theorem Ly.blank:Ly false [32] []:=CC 32 (.inl rfl)
theorem Ly.feed:Ly false [10] []:=CC 10 (.inr rfl)
theorem Ly.one{c:Bool}{d:UInt8}{cs:List UInt8}{x:Lm}(ahy:d≠32/\d≠10)(h:∀(s:BA)(k:Nat)(rest:List UInt8),s.data.toList.drop k=d::cs++rest->(c=true->∀d r,rest=d::r->c_ d=false)->k<s.size->Tok.byte s k=d->
  kt (Tok.next s k).1=x/\(Tok.next s k).2.1=cs.length+1/\(Tok.next s k).2.2=true):Ly c (d::cs) [x]:=λs k o f rest hd hc hf hk hn=>by
 obtain⟨h1,h2⟩:=pO hd;obtain⟨f,rfl⟩:∃g,f=g+1:=⟨f-1,by omega⟩
 obtain⟨n1,n2,n3⟩:=h s k rest hd hc h1 h2;have hlen:=congrArg List.length hd;simp at hlen;simp at hn;refine⟨f,o++[(Tok.next s k).1],by grind,?_,?_,?_⟩
 ·grind
 ·grind
 ·grind [bL]
theorem ME(s:BA)(k:Nat)(d:UInt8)(hb:Tok.byte s k=d)(h1:cJ d=false)(h2:Tok.isDigit d=false)(h3:d≠34)(h4:nA d=true): (Tok.next s k).2.2=true:=by
 grind [Tok.next]
theorem Ly.sign(d:UInt8)(h1:cJ d=false:=by decide)(h2:Tok.isDigit d=false:=by decide)(h3:d≠34:=by decide)(h4:d≠61:=by decide)(h5:d≠32/\d≠10:=by decide)(h6:nA d=true:=by decide):Ly false [d] [(5,[d])]:=
 Ly.one h5 λs k _ _ _ hk hb=>by grind [Jy,ME]
theorem L8(e:UInt8)(he:e=61\/e=62):Ly false [61,e] [(5,[61,e])]:=Ly.one (by decide) λs k rest hd _ hk hb=>by
 have h2:=pO (mH (a:=[61]) hd);have ht:Tok.two s k=true:=by
  grind [Tok.two]
 simp_all[Tok.next,cJ,Tok.isDigit,kt]
theorem Ly.arrow:Ly false [61,62] [(5,[61,62])]:=L8 62 (.inr rfl)
theorem Ly.same:Ly false [61,61] [(5,[61,61])]:=L8 61 (.inl rfl)
theorem Ly.set:Ly false [61,32] [(5,[61])]:=by
 have h1:∀(s:BA)(k:Nat)(o:List Tk)(f:Nat)(rest:List UInt8),s.data.toList.drop k=[61,32]++rest->s.size<k+f->k<=s.size->o.length+1<=1000->
   ∃f' o',o'.map kt=o.map kt++[(5,[61])]/\s.size<k+1+f'/\k+1<=s.size/\bL s f k o=bL s f' (k+1) o':=λs k o f rest hd hf hk hn=>by
  obtain⟨h1,h2⟩:=pO hd;have h3:=pO (mH (a:=[61]) hd);obtain⟨f,rfl⟩:∃g,f=g+1:=⟨f-1,by omega⟩
  have ht:Tok.two s k=false:=by
   grind [Tok.two]
  have hz:=h3.1;simp at hz;have hx:kt ⟨5,s.extract k (k+1),k⟩=(5,[61]):=by
   grind [kt,ByteArray.data_extract,Array.toList_extract]
  have WZ:Tok.next s k=(⟨5,s.extract k (k+1),k⟩,1,nA 61):=by
   simp_all[Tok.next,cJ,Tok.isDigit]
  refine⟨f,o++[(Tok.next s k).1],by grind,by omega,by omega,?_⟩;rw[bL,if_pos h1,if_neg (by grind),if_neg (by simp_all[nA]),if_neg (by omega),WZ]
 intro s k o f rest hd hc hf hk hn;obtain⟨f1,o1,a1,a2,a3,a4⟩:=h1 s k o f rest hd hf hk (by grind);obtain⟨f2,o2,b1,b2,b3,b4⟩:=Ly.blank s (k+1) o1 f1 rest (mH (a:=[61]) hd) (λe=>by cases e) a2 a3 (by
  have:=congrArg List.length a1;simp at this hn⊢;omega)
 refine⟨f2,o2,by grind,?_,?_,?_⟩
 ·omega
 ·omega
 grind
theorem Ly.name(d:UInt8)(cs:List UInt8)(h1:cJ d=true)(h2:∀c∈cs,c_ c=true)(hz:cs.length<=19)(kd:Nat)(sB:kd=if d::cs∈oZ then 2 else 1):Ly true (d::cs) [(kd,d::cs)]:=by
 refine Ly.one ?_ λs k rest hd hc hk hb=>?_
 ·constructor<;>(rintro rfl;revert h1;decide)
 have fY: (s.data.toList.drop k).takeWhile c_=d::cs:=by
  grind [iE,c_]
 have hx:=gn c_ s k (by omega);have hlen:Tok.stop c_ s k-k=cs.length+1:=by grind [Tok.stop]
 unfold Tok.next
 grind [Tok.isWord,kt]
theorem Ly.o8{x:BA}(h:NameOk x):Ly true x.data.toList [(1,x.data.toList)]:=by
 obtain⟨c,l,e,h1,h2⟩:=h.head;have hw:=h.word;unfold Tok.isWord at hw;have hz:x.data.toList.length<=20:=h.size
 grind [Ly.name]
theorem Ly.word(d:UInt8)(cs:List UInt8)(h:d::cs∈oZ)(h1:cJ d=true:=by decide)(h2:∀c∈cs,c_ c=true:=by decide)(hz:cs.length<=19:=by decide):Ly true (d::cs) [(2,d::cs)]:=
 Ly.name d cs h1 h2 hz 2 (by grind)
theorem Ly.num(d:UInt8)(cs:List UInt8)(h:∀c∈d::cs,Tok.isDigit c=true)(hz:cs.length<=8)(h0:cs=[]\/d≠48):Ly true (d::cs) [(3,d::cs)]:=by
 have yl:=h d (by simp);refine Ly.one ?_ λs k rest hd hc hk hb=>?_
 ·constructor<;>(rintro rfl;revert yl;decide)
 have fY: (s.data.toList.drop k).takeWhile Tok.isDigit=d::cs:=by
  grind [iE,c_]
 have hx:=gn Tok.isDigit s k (by omega);have hlen:Tok.stop Tok.isDigit s k-k=cs.length+1:=by grind [Tok.stop]
 have hl:cJ d=false:=by
  grind [Tok.isDigit,cJ]
 grind [Tok.next,kt]
theorem Ly.lit{x:BA}(h:LitOk x):Ly false ([34]++x.data.toList++[34]) [(4,x.data.toList)]:=by
 have hz:x.data.toList.length<=30:=h.size;refine Ly.one (d:=34) (cs:=x.data.toList++[34]) (by decide) λs k rest hd _ hk hb=>?_
 have Vc:s.data.toList.drop (k+1)=x.data.toList++(34::rest):=by
  have:=mH (a:=[34]) (b:=x.data.toList++(34::rest)) (s:=s) (k:=k) (by grind);exact this
 have fY: (s.data.toList.drop (k+1)).takeWhile cM=x.data.toList:=by
  rw[Vc];refine iE _ _ h.plain λe r he=>?_
  cases he;decide
 have aco:Tok.stop cM s (k+1)=k+1+x.data.toList.length:=by grind [Tok.stop]
 have agQ:=pO (mH Vc);have hx:=gn cM s (k+1) (by omega);unfold Tok.next;rw[hb]
 grind [cJ,Tok.isDigit,kt]
theorem yT:∀(ns:List BA)(l:List Tr),(∀t∈l,Ly true (text t) (fD t))->(∀n∈ns,NameOk n)->Ly false (dV ns (texts l)) (uF ns (f_ l))
 |[],l,_,_=>by grind [dV,uF,Ly.nil]
 |n::ns,[],_,_=>by grind [texts,f_,dV,uF,Ly.nil]
 |n::ns,t::l,h,hn=>by
  have h1:=yT ns l (λu hu=>h u (by grind)) (λm hm=>hn m (by grind));have h2:=Ly.blank.comp ((Ly.o8 (hn n (by simp))).comp ((Ly.sign 58).comp (Ly.blank.comp ((h t (by simp)).comp ((Ly.sign 59).comp h1) λ_=>⟨59,_,rfl,by decide⟩))) λ_=>⟨58,_,rfl,by decide⟩)
  grind [texts,f_,dV,uF,mg]
theorem rv{sep:List UInt8}{lsep:List Lm}(hs:Ly false sep lsep)(hd:∃d r,sep=d::r/\c_ d=false):∀ps:List (List UInt8×List Lm),(∀p∈ps,Ly true p.1 p.2)->Ly true (cr sep (ps.map Prod.fst)) (gB lsep (ps.map Prod.snd))
 |[],_=>Ly.nil.oW
 |[p],h=>by grind [cr,gB,eZ]
 |p::q::ps,h=>by
  have h1:=rv hs hd (q::ps) λx hx=>h x (by grind)
  have h2:=(h p (by simp)).comp (hs.comp h1) λ_=>by grind
  grind [cr,gB,eZ]
theorem De{α:Type}(f:α->List UInt8)(g:α->List Lm)(l:List α)(h:∀a∈l,Ly true (f a) (g a)):Ly true (cr [44,32] (l.map f)) (gB [(5,[44])] (l.map g)):=by
 have hj:=rv ((Ly.sign 44).comp Ly.blank) ⟨44,_,rfl,by decide⟩ (l.map λt=>(f t,g t)) (λp hp=>by
  obtain⟨t,ht,rfl⟩:=List.mem_map.1 hp;exact h t ht)
 rw[List.map_map,List.map_map]at hj
 exact hj
mutual
theorem Ib:∀t:Tr,eu t->SN t->Ly true (text t) (fD t)
 | .mk k names parts list of,ho,hn=>by
  rw[eu]at ho
  rw[SN]at hn
  obtain⟨hk,lW,h8,_,_,_,_,op,ol,oo⟩:=ho;have ip:=sr parts op hn.2.2.1;have il:=sr list ol hn.2.2.2.1;have io:=sr of oo hn.2.2.2.2;rw[text,fD];split
  ·have h1:=(Ly.sign 123).comp ((yT names parts ip hn.1).comp ((show Ly false (if parts.length>0 then [32]else []) []from by grind [Ly.blank,Ly.nil]).comp (Ly.sign 125)))
   simpa using h1.oW
  ·split
   ·rename_i acq;have h1:=h8 (.inl acq)
    match of,h1 with
    |[o],_=>
     have h1:=(Ly.sign 91).comp ((io o (by simp)).comp (Ly.sign 93) λ_=>⟨93,_,rfl,by decide⟩)
     simpa [texts,f_]using h1.oW
   ·split
    ·rename_i adU;have h1:=h8 (.inr adU)
     match of,h1 with
     |[o],_=>
      have hj:=De text fD list il;rw[<-fT,<-rI]at hj
      have h1:=(Ly.sign 40).comp (hj.comp ((Ly.sign 41).comp (Ly.blank.comp (Ly.arrow.comp (Ly.blank.comp (io o (by simp)))))) λ_=>⟨41,_,rfl,by decide⟩)
      grind [texts,f_]
    ·split
     ·have hj:=rv (sep:=[32,124,32]) (lsep:=[(5,[124])]) (Ly.blank.comp ((Ly.sign 124).comp Ly.blank)) ⟨32,_,rfl,by decide⟩ ((List.range list.length).map λi=>(brk list.length i ((list.map kindOf).getD i 0) ((texts list).getD i []),Gd list.length i ((list.map kindOf).getD i 0) ((f_ list).getD i []))) (λp hp=>by
       obtain⟨i,hi,rfl⟩:=List.mem_map.1 hp;have Lk:i<list.length:=by grind
       have e1: (texts list).getD i []=text list[i]:=by grind [fT,getD_map]
       have e2: (f_ list).getD i []=fD list[i]:=by grind [rI,getD_map]
       have h1:=il list[i] (gM _);dsimp only;rw[e1,e2];unfold brk Gd;split
       ·have h2:=(Ly.sign 40).comp (h1.comp (Ly.sign 41) λ_=>⟨41,_,rfl,by decide⟩)
        simpa using h2.oW
       ·exact h1)
      rw[List.map_map,List.map_map]at hj
      have el: (texts list).length=list.length:=by grind [fT]
      unfold C';rw[el];exact hj
     ·have:k=1\/k=2\/k=3\/k=4\/k=5\/k=6:=by omega
      rcases this with rfl|rfl|rfl|rfl|rfl|rfl<;>exact Ly.name _ _ (by decide) (by decide) (by decide) 2 (by decide)
theorem sr:∀l:List Tr,ux l->Pn l->∀t∈l,Ly true (text t) (fD t)
 |[],_,_,t,h=>by grind
 |u::l,ho,hn,t,h=>by
  rw[ux]at ho
  rw[Pn]at hn
  rcases List.mem_cons.1 h with e|h
  ·rw[e];exact Ib u ho.1 hn.1
  ·exact sr l ho.2 hn.2 t h
end
theorem PW{cs:List UInt8}{ls:List Lm}(h:Ly true cs ls)(hn:ls.length<=1000)(hz:cs.length<=4000):∃ad,Tok.scan ⟨cs.toArray⟩=.ok ad/\ad.map kt=ls++[(6,[])]:=by
 have Lb: (⟨cs.toArray⟩:BA).size=cs.length:=by show cs.toArray.size= _;simp
 unfold Tok.scan;rw[if_neg (by omega)];obtain⟨f,o,h1,h2,h3,h4⟩:=h ⟨cs.toArray⟩ 0 [] _ [] (by simp) (λ_ d r e=>by cases e) (nL (Nat.lt_succ_self _) (Nat.le_add_left _ _)) (by omega) (by grind);rw[h4];obtain⟨f,rfl⟩:∃g,f=g+1:=⟨f-1,by omega⟩
 rw[bL,if_neg (by omega)];exact⟨_,rfl,by rw[List.map_append,h1];rfl⟩
end Ty
end
end Go.Proofs.YtdlbhiaceheffabGreatDoor
