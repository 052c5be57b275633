/- Plain: what fits, what is the same. -/
import Derived.Lib.ItoaLen
import Derived.Lib.Atoi
import Derived.Test.YtdlbhiaceheffabGreatDoorC05
set_option linter.all false
namespace Go.Proofs.YtdlbhiaceheffabGreatDoor
open Go Go.RowKit Ty Tok
namespace Ty
def bn(f:Nat->Bool):Nat->Bool
 |0=>false
 |n+1=>bn f n||f n
theorem bE{f:Nat->Bool}:∀{n:Nat},bn f n=true↔∃j,j<n/\f j=true
 |0=>by simp[bn]
 |n+1=>by
  rw[bn,Bool.or_eq_true,bE]
  grind
theorem bg{f:Nat->Bool}{n:Nat}:bn f n=false↔∀j,j<n->f j=false:=by
 rw[<-Bool.not_eq_true,bE]
 grind
def part{α:Type}:List BA->List α->BA->Option α
 |n::ns,t::l,x=>if n=x then some t else part ns l x
 | _,_,_=>none
theorem rV{α:Type}{x:BA}:∀{ns:List BA}{l:List α}{t:α},part ns l x=some t->t∈l
 |[],l,t,h=>by cases h
 |n::ns,[],t,h=>by cases h
 |n::ns,a::l,t,h=>by
  rw[part]at h
  split at h
  ·grind
  ·exact List.mem_cons_of_mem _ (rV h)
def bJ:Tr:=.mk 0 [] [] [] []
def kindOf:Tr->Nat| .mk k _ _ _ _=>k
def cC:Tr->List BA| .mk _ n _ _ _=>n
def partsOf:Tr->List Tr| .mk _ _ p _ _=>p
def aN:Tr->List Tr| .mk _ _ _ l _=>l
def gv:Tr->Tr| .mk _ _ _ _ o=>o.headD bJ
def sk:Nat->Tr->Tr->Bool
 |0,_,_=>false
 |n+1,a,b=>
  if kindOf a=5\/kindOf b=5\/kindOf b=6 then true
  else if kindOf a=10 then !bn (λj=>!sk n ((aN a).getD j bJ) b) (aN a).length
  else if kindOf b=10 then bn (λj=>sk n a ((aN b).getD j bJ)) (aN b).length
  else if kindOf a≠kindOf b then false
  else if kindOf a=7 then !bn (λj=>match part (cC a) (partsOf a) ((cC b).getD j ⟨#[]⟩)with|none=>true|some t=>!sk n t ((partsOf b).getD j bJ)) (partsOf b).length
  else if kindOf a=8 then sk n (gv a) (gv b)
  else if kindOf a=9 then decide ((aN a).length<=(aN b).length)&&!bn (λj=>!(sk n ((aN a).getD j bJ) ((aN b).getD j bJ)||sk n ((aN b).getD j bJ) ((aN a).getD j bJ))) (aN a).length&&sk n (gv a) (gv b)
  else true
theorem eN{f g:Nat->Bool}{n:Nat}(h:∀j,j<n->f j=g j):bn f n=bn g n:=by
 induction n with
 |zero=>rfl
 |succ n ih=>rw[bn,bn,ih (λj hj=>h j (by omega)),h n (by omega)]
theorem rp{l:List Tr}{j:Nat}(h:j<l.length):l.getD j bJ∈l:=by
 grind
theorem abC(t:Tr):0<sz t:=by cases t;rw[sz];omega
theorem dz{a:Tr}{j:Nat}(h:j<(aN a).length):sz ((aN a).getD j bJ)<sz a:=by cases a;exact uT (rp h) _ _ _ _
theorem jO{a:Tr}{j:Nat}(h:j<(partsOf a).length):sz ((partsOf a).getD j bJ)<sz a:=by cases a;exact rK (rp h) _ _ _ _
theorem rP{a t:Tr}{x:BA}(h:part (cC a) (partsOf a) x=some t):sz t<sz a:=by cases a;exact rK (rV h) _ _ _ _
theorem gO{a:Tr}(h:eu a)(hk:kindOf a=8\/kindOf a=9):sz (gv a)<sz a:=by
 cases a with
 |mk k names parts list of=>
  have h1:=h.2.2.1 hk;cases of with
  |nil=>simp at h1
  |cons o l=>exact Sb (t:=o) (by simp) _ _ _ _
theorem cx{a:Tr}(ha:eu a){j:Nat}(h:j<(aN a).length):eu ((aN a).getD j bJ):=by
 cases a;rw[eu]at ha;exact gQ ha.2.2.2.2.2.2.2.2.1 _ (rp h)
theorem jG{a:Tr}(ha:eu a){j:Nat}(h:j<(partsOf a).length):eu ((partsOf a).getD j bJ):=by
 cases a;rw[eu]at ha;exact gQ ha.2.2.2.2.2.2.2.1 _ (rp h)
theorem r_{a t:Tr}(ha:eu a){x:BA}(h:part (cC a) (partsOf a) x=some t):eu t:=by
 cases a;rw[eu]at ha;exact gQ ha.2.2.2.2.2.2.2.1 _ (rV h)
theorem gS{a:Tr}(h:eu a)(hk:kindOf a=8\/kindOf a=9):eu (gv a):=by
 cases a with
 |mk k names parts list of=>
  have h1:=h.2.2.1 hk;cases of with
  |nil=>simp at h1
  |cons o l=>exact gQ h.2.2.2.2.2.2.2.2.2 o (by simp)
theorem Q8:∀n m a b,eu a->eu b->sz a+sz b<n->sz a+sz b<m->sk n a b=sk m a b:=by
 intro n;induction n with
 |zero=>intro m a b _ _ h;omega
 |succ n ih=>
  intro m a b ha hb h1 h2;obtain⟨m,rfl⟩:∃q,m=q+1:=⟨m-1,by omega⟩
  rw[sk,sk];split
  ·rfl
  ·split
   ·congr 1;exact eN λj hj=>by have:=dz hj;rw[ih m _ _ (cx ha hj) hb (by omega) (by omega)]
   ·split
    ·exact eN λj hj=>by have:=dz hj;rw[ih m _ _ ha (cx hb hj) (by omega) (by omega)]
    ·split
     ·rfl
     ·split
      ·congr 1;exact eN λj hj=>by
        have h3:=jO hj;cases hp:part (cC a) (partsOf a) ((cC b).getD j ⟨#[]⟩)with
        |none=>rfl
        |some t=>have h4:=rP hp;dsimp only;rw[ih m _ _ (r_ ha hp) (jG hb hj) (by omega) (by omega)]
      ·split
       ·rename_i Im;have h3:=gO ha (.inl Im);have h4:=gO hb (.inl (by omega));rw[ih m _ _ (gS ha (.inl Im)) (gS hb (.inl (by omega))) (by omega) (by omega)]
       ·split
        ·rename_i Lr;have h3:=gO ha (.inr Lr);have h4:=gO hb (.inr (by omega));rw[ih m (gv a) (gv b) (gS ha (.inr Lr)) (gS hb (.inr (by omega))) (by omega) (by omega)];by_cases hl: (aN a).length<=(aN b).length
         ·congr 3;exact eN λj hj=>by
           have h5:=dz hj;have fK:j<(aN b).length:=by omega
           have h6:=dz fK;rw[ih m _ _ (cx ha hj) (cx hb fK) (by omega) (by omega),ih m _ _ (cx hb fK) (cx ha hj) (by omega) (by omega)]
         ·simp[hl]
        ·rfl
def fits(a b:Tr):Bool:=sk (sz a+sz b+1) a b
theorem nF{a b:Tr}(ha:eu a)(hb:eu b){n:Nat}(h:sz a+sz b<n):sk n a b=fits a b:=Q8 _ _ _ _ ha hb h (by omega)
end Ty
namespace Ty
theorem K6{a b:Tr}(ha:eu a)(hb:eu b):fits a b=
  if kindOf a=5\/kindOf b=5\/kindOf b=6 then true
  else if kindOf a=10 then !bn (λj=>!fits ((aN a).getD j bJ) b) (aN a).length
  else if kindOf b=10 then bn (λj=>fits a ((aN b).getD j bJ)) (aN b).length
  else if kindOf a≠kindOf b then false
  else if kindOf a=7 then !bn (λj=>match part (cC a) (partsOf a) ((cC b).getD j ⟨#[]⟩)with|none=>true|some t=>!fits t ((partsOf b).getD j bJ)) (partsOf b).length
  else if kindOf a=8 then fits (gv a) (gv b)
  else if kindOf a=9 then decide ((aN a).length<=(aN b).length)&&!bn (λj=>!(fits ((aN a).getD j bJ) ((aN b).getD j bJ)||fits ((aN b).getD j bJ) ((aN a).getD j bJ))) (aN a).length&&fits (gv a) (gv b)
  else true:=by
 conv=>lhs;rw[fits,sk]
 split
 ·rfl
 ·split
  ·congr 1;exact eN λj hj=>by have:=dz hj;rw[nF (cx ha hj) hb (by omega)]
  ·split
   ·exact eN λj hj=>by have:=dz hj;rw[nF ha (cx hb hj) (by omega)]
   ·split
    ·rfl
    ·split
     ·congr 1;exact eN λj hj=>by
       have h3:=jO hj;cases hp:part (cC a) (partsOf a) ((cC b).getD j ⟨#[]⟩)with
       |none=>rfl
       |some t=>have h4:=rP hp;dsimp only;rw[nF (r_ ha hp) (jG hb hj) (by omega)]
     ·split
      ·rename_i Im;have h3:=gO ha (.inl Im);have h4:=gO hb (.inl (by omega));rw[nF (gS ha (.inl Im)) (gS hb (.inl (by omega))) (by omega)]
      ·split
       ·rename_i Lr;have h3:=gO ha (.inr Lr);have h4:=gO hb (.inr (by omega));rw[nF (gS ha (.inr Lr)) (gS hb (.inr (by omega))) (by omega)];by_cases hl: (aN a).length<=(aN b).length
        ·congr 3;exact eN λj hj=>by
          have h5:=dz hj;have fK:j<(aN b).length:=by omega
          have h6:=dz fK;rw[nF (cx ha hj) (cx hb fK) (by omega),nF (cx hb fK) (cx ha hj) (by omega)]
        ·simp[hl]
       ·rfl
end Ty
namespace Ty
def nX:Nat->Tr->Tr->Bool
 |0,_,_=>false
 |n+1,a,b=>
  decide (kindOf a=kindOf b)&&decide ((partsOf a).length=(partsOf b).length)&&decide ((aN a).length=(aN b).length)
   &&!bn (λj=>!nX n ((aN a).getD j bJ) ((aN b).getD j bJ)) (aN a).length
   &&!bn (λj=>match part (cC b) (partsOf b) ((cC a).getD j ⟨#[]⟩)with|none=>true|some t=>!nX n ((partsOf a).getD j bJ) t) (partsOf a).length
   &&(!decide (kindOf a=8\/kindOf a=9)||nX n (gv a) (gv b))
def sK(al:Tr->Tr->Bool)(a b:Tr):Bool:=
  decide (kindOf a=kindOf b)&&decide ((partsOf a).length=(partsOf b).length)&&decide ((aN a).length=(aN b).length)
   &&!bn (λj=>!al ((aN a).getD j bJ) ((aN b).getD j bJ)) (aN a).length
   &&!bn (λj=>match part (cC b) (partsOf b) ((cC a).getD j ⟨#[]⟩)with|none=>true|some t=>!al ((partsOf a).getD j bJ) t) (partsOf a).length
   &&(!decide (kindOf a=8\/kindOf a=9)||al (gv a) (gv b))
theorem pr(n:Nat)(a b:Tr):nX (n+1) a b=sK (nX n) a b:=by rw[nX,sK]
theorem ry{f g:Tr->Tr->Bool}{a b:Tr}(ha:eu a)(hb:eu b)(h:∀x y,eu x->eu y->sz x<sz a->sz y<sz b->f x y=g x y):sK f a b=sK g a b:=by
 unfold sK;by_cases hk:kindOf a=kindOf b
 ·by_cases hp: (partsOf a).length=(partsOf b).length
  ·by_cases hl: (aN a).length=(aN b).length
   ·have e1:bn (λj=>!f ((aN a).getD j bJ) ((aN b).getD j bJ)) (aN a).length=bn (λj=>!g ((aN a).getD j bJ) ((aN b).getD j bJ)) (aN a).length:=
     eN λj hj=>by rw[h _ _ (cx ha hj) (cx hb (by omega)) (dz hj) (dz (by omega))]
    have e2:bn (λj=>match part (cC b) (partsOf b) ((cC a).getD j ⟨#[]⟩)with|none=>true|some t=>!f ((partsOf a).getD j bJ) t) (partsOf a).length=bn (λj=>match part (cC b) (partsOf b) ((cC a).getD j ⟨#[]⟩)with|none=>true|some t=>!g ((partsOf a).getD j bJ) t) (partsOf a).length:=
     eN λj hj=>by
      cases hq:part (cC b) (partsOf b) ((cC a).getD j ⟨#[]⟩)with
      |none=>rfl
      |some t=>dsimp only;rw[h _ _ (jG ha hj) (r_ hb hq) (jO hj) (rP hq)]
    rw[e1,e2];by_cases h8:kindOf a=8\/kindOf a=9
    ·rw[h _ _ (gS ha h8) (gS hb (by omega)) (gO ha h8) (gO hb (by omega))]
    ·simp[h8]
   ·simp[hl]
  ·simp[hp]
 ·simp[hk]
theorem IQ:∀n m a b,eu a->eu b->sz a+sz b<n->sz a+sz b<m->nX n a b=nX m a b:=by
 intro n;induction n with
 |zero=>intro m a b _ _ h;omega
 |succ n ih=>
  intro m a b ha hb h1 h2;obtain⟨m,rfl⟩:∃q,m=q+1:=⟨m-1,by omega⟩
  rw[pr,pr];exact ry ha hb λx y hx hy h3 h4=>ih m x y hx hy (by omega) (by omega)
def alike(a b:Tr):Bool:=nX (sz a+sz b+1) a b
theorem Gi{a b:Tr}(ha:eu a)(hb:eu b):alike a b=sK alike a b:=by
 unfold alike;rw[pr];exact ry ha hb λx y hx hy h3 h4=>IQ _ _ x y hx hy (by omega) (by omega)
end Ty
namespace Ty
mutual
def put:Tr->List Ty->List Ty×Nat
 | .mk k names parts list of,l=>
  ((cF of (cF list (cF parts l).1).1).1++[⟨k,names.zip (cF parts l).2,(cF list (cF parts l).1).2,((cF of (cF list (cF parts l).1).1).2).headD 0⟩],(cF of (cF list (cF parts l).1).1).1.length)
def cF:List Tr->List Ty->List Ty×List Nat
 |[],l=>(l,[])
 |t::ts,l=>((cF ts (put t l).1).1,(put t l).2:: (cF ts (put t l).1).2)
end
theorem yR:∀(a:List Tr)(t:Tr)(l:List Ty),cF (a++[t]) l=((put t (cF a l).1).1,(cF a l).2++[(put t (cF a l).1).2])
 |[],t,l=>by simp[cF]
 |x::a,t,l=>by
  rw[List.cons_append,cF,yR a t,cF];rfl
mutual
def dK:Tr->Nat
 | .mk _ _ p l o=>bu p+bu l+bu o+1
def bu:List Tr->Nat
 |[]=>0
 |t::l=>dK t+bu l
end
theorem tL:∀(a:List Tr)(t:Tr),bu (a++[t])=bu a+dK t
 |[],t=>by simp[bu]
 |x::a,t=>by rw[List.cons_append,bu,tL a t,bu];omega
theorem gZ:∀(a b:List Tr),bu (a++b)=bu a+bu b
 |[],b=>by simp[bu]
 |x::a,b=>by rw[List.cons_append,bu,gZ a b,bu];omega
theorem Hv(t:Tr):0<dK t:=by cases t;rw[dK];omega
mutual
theorem GK:∀(t:Tr)(l:List Ty),∃m,(put t l).1=l++m/\m.length=dK t
 | .mk k names parts list of,l=>by
  obtain⟨m1,h1,k1⟩:=jN parts l;obtain⟨m2,h2,k2⟩:=jN list (cF parts l).1;obtain⟨m3,h3,k3⟩:=jN of (cF list (cF parts l).1).1;refine⟨m1++m2++m3++[⟨k,names.zip (cF parts l).2,(cF list (cF parts l).1).2,((cF of (cF list (cF parts l).1).1).2).headD 0⟩],?_,by grind [dK]⟩
  grind [put]
theorem jN:∀(ts:List Tr)(l:List Ty),∃m,(cF ts l).1=l++m/\m.length=bu ts
 |[],l=>by simp_all[cF,bu]
 |t::ts,l=>by
  obtain⟨m1,h1,k1⟩:=GK t l;obtain⟨m2,h2,k2⟩:=jN ts (put t l).1
  grind [cF,bu]
end
theorem zJ(t:Tr)(l:List Ty): (put t l).2+1=(put t l).1.length:=by
 cases t;rw[put];simp
theorem GO(t:Tr)(l:List Ty): (put t l).1.length=l.length+dK t:=by
 obtain⟨m,h,k⟩:=GK t l;rw[h];simp[k]
theorem jL(ts:List Tr)(l:List Ty): (cF ts l).1.length=l.length+bu ts:=by
 obtain⟨m,h,k⟩:=jN ts l;rw[h];simp[k]
theorem iJ:∀(ts:List Tr)(l:List Ty),(cF ts l).2.length=ts.length/\∀p∈(cF ts l).2,p<(cF ts l).1.length
 |[],l=>by simp[cF]
 |t::ts,l=>by
  obtain⟨h1,h2⟩:=iJ ts (put t l).1
  grind [cF,zJ,jL]
theorem Qu(l m:List Ty):∀N n,n<N->n<l.length->den (l++m) n=den l n:=by
 intro N;induction N with
 |zero=>intro n h;omega
 |succ N ih=>
  grind [den]
theorem nC{l m:List Ty}{n:Nat}(h:n<l.length):den (l++m) n=den l n:=by grind [Qu]
theorem rq(l:List Ty)(t:Ty)(h1:∀f∈t.fields,f.2<l.length)(h2:∀j∈t.list,j<l.length)(h3:t.kind=8\/t.kind=9->t.of<l.length):
  den (l++[t]) l.length=.mk t.kind (t.fields.map Prod.fst) (t.fields.map λf=>den l f.2) (t.list.map (den l)) (if t.kind=8\/t.kind=9 then [den l t.of]else []):=by
 rw[den,List.getElem?_append_right (Nat.le_refl _),Nat.sub_self];dsimp[List.getElem?_cons_zero];congr 1
 ·grind [List.map_congr_left,nC]
 ·grind [List.map_congr_left,nC]
 ·grind [nC]
theorem zip_fst:∀(a:List BA)(b:List Nat),a.length=b.length->(a.zip b).map Prod.fst=a
 |[],[],_=>rfl
 |x::a,y::b,h=>by simp[zip_fst a b (by grind)]
theorem Be{α:Type}(f:Nat->α):∀(a:List BA)(b:List Nat),a.length=b.length->((a.zip b).map λp=>f p.2)=b.map f
 |[],[],_=>rfl
 |x::a,y::b,h=>by
  have:=Be f a b (by grind);simp_all
mutual
theorem Ip:∀(t:Tr)(l:List Ty),eu t->den (put t l).1 (put t l).2=t
 | .mk k names parts list of,l,h=>by
  obtain⟨_,hn,h8,ab5,_,_,_,hp,hl,ho⟩:=h;have e1:=ru parts l hp;have e2:=ru list (cF parts l).1 hl;have e3:=ru of (cF list (cF parts l).1).1 ho;obtain⟨n1,b1⟩:=iJ parts l;obtain⟨n2,b2⟩:=iJ list (cF parts l).1;obtain⟨n3,b3⟩:=iJ of (cF list (cF parts l).1).1;have g2:=jL list (cF parts l).1;have g3:=jL of (cF list (cF parts l).1).1;obtain⟨m2,x2,_⟩:=jN list (cF parts l).1;obtain⟨m3,x3,_⟩:=jN of (cF list (cF parts l).1).1;have hz:names.length=(cF parts l).2.length:=by omega
  rw[put];rw[rq]
  ·dsimp only;rw[zip_fst _ _ hz,Be _ _ _ hz];congr 1
   ·grind [List.map_congr_left,nC]
   ·grind [List.map_congr_left,nC]
   ·split
    ·rename_i hk;have h1:=h8 hk
     match of,h1 with
     |[o],_=>simpa [cF]using e3
    grind
  ·intro f hf;have:=b1 f.2 (List.of_mem_zip hf).2;omega
  ·grind
  ·intro hk;have h1:=h8 hk
   match of,h1 with
   |[o],_=>exact b3 _ (by simp[cF])
theorem ru:∀(ts:List Tr)(l:List Ty),ux ts->(cF ts l).2.map (den (cF ts l).1)=ts
 |[],l,_=>by simp[cF]
 |t::ts,l,h=>by
  have e1:=Ip t l h.1;have e2:=ru ts (put t l).1 h.2;obtain⟨m,x,_⟩:=jN ts (put t l).1
  grind [zJ,cF,nC]
end
mutual
def kM:Tr->Prop
 | .mk k _ parts list of=>(k=10->2<=list.length)/\mj parts/\mj list/\mj of
def mj:List Tr->Prop
 |[]=>True
 |t::l=>kM t/\mj l
end
theorem vf{l:List Tr}(h:∀t∈l,kM t):mj l:=by
 induction l with
 |nil=>rw[mj];trivial
 |cons a l ih=>rw[mj];exact⟨h a (by simp),ih λt ht=>h t (by grind)⟩
theorem rR{l:List Tr}(h:mj l):∀t∈l,kM t:=by
 induction l with
 |nil=>intro t ht;simp at ht
 |cons a l ih=>
  grind [mj]
theorem A2{ts:List Ty}(hw:Wf ts):∀N n,n<N->n<ts.length->kM (den ts n):=by
 intro N;induction N with
 |zero=>intro n h;omega
 |succ N ih=>
  intro n hN hn;have hg:ts[n]?=some ts[n]:=by grind
  have oD:=hw n _ hg;rw[nO hw hg,kM];refine⟨λhk=>by simpa using oD.xN hk,vf λt ht=>?_,vf λt ht=>?_,vf λt ht=>?_⟩
  ·obtain⟨f,hf,rfl⟩:=List.mem_map.1 ht;have:=oD.fields f hf
   grind
  ·obtain⟨j,hj,rfl⟩:=List.mem_map.1 ht;have:=oD.list j hj
   grind
  ·split at ht
   ·rename_i hk;have:=oD.of hk
    grind
   grind
mutual
theorem Oq:∀(t:Tr)(l:List Ty),eu t->kM t->Wf l->Wf (put t l).1
 | .mk k names parts list of,l,h,hu,hw=>by
  rw[kM]at hu
  obtain⟨hk,hn,h8,ab5,h7,Y9,hlen,hp,hl,ho⟩:=h;have w1:=uX parts l hp hu.2.1 hw;have w2:=uX list _ hl hu.2.2.1 w1;have w3:=uX of _ ho hu.2.2.2 w2;obtain⟨n1,b1⟩:=iJ parts l;obtain⟨n2,b2⟩:=iJ list (cF parts l).1;obtain⟨n3,b3⟩:=iJ of (cF list (cF parts l).1).1;have g2:=jL list (cF parts l).1;have g3:=jL of (cF list (cF parts l).1).1;refine w3.snoc ⟨λf hf=>?_,λj hj=>?_,λIm=>?_,hk,λh=>?_,λh9 fs=>?_,λacq h9=>?_,λfs=>?_,?_⟩
  ·have:=b1 f.2 (List.of_mem_zip hf).2;omega
  ·grind
  ·have h1:=h8 Im
   match of,h1 with
   |[o],_=>exact b3 _ (by simp[cF])
  ·simp_all
  ·grind
  ·grind
  ·grind
  grind
theorem uX:∀(ts:List Tr)(l:List Ty),ux ts->mj ts->Wf l->Wf (cF ts l).1
 |[],l,_,_,hw=>by grind [cF]
 |t::ts,l,h,hu,hw=>by
  exact uX ts _ h.2 hu.2 (Oq t l h.1 hu.1 hw)
end
end Ty
section
namespace Ty
open Tok (Tk)
def Ext(a b:List Ty):Prop:=∃e,b=a++e
theorem Ext.refl(a:List Ty):Ext a a:=⟨[],by simp⟩
theorem Ext.trans{a b c:List Ty}(h:Ext a b)(k:Ext b c):Ext a c:=by
 obtain⟨e,rfl⟩:=h;obtain⟨f,rfl⟩:=k;exact⟨e++f,by simp⟩
theorem Ext.len{a b:List Ty}(h:Ext a b):a.length<=b.length:=by obtain⟨e,rfl⟩:=h;simp
theorem Ext.den{a b:List Ty}(h:Ext a b){n:Nat}(hn:n<a.length):Ty.den b n=Ty.den a n:=by obtain⟨e,rfl⟩:=h;exact nC hn
theorem Ext.Ma{a b:List Ty}(h:Ext a b){l:List Nat}(hl:ym l a):l.map (Ty.den b)=l.map (Ty.den a):=List.map_congr_left λj hj=>h.den (hl j hj)
def Grow(m:M Nat):Prop:=∀s a s',Wf s.ts->m s=.ok (a,s')->Ext s.ts s'.ts/\s.ts.length+dK (den s'.ts a)<=s'.ts.length/\a+1=s'.ts.length
def lS(l:List Nat)(ts:List Ty):Prop:=∀n,l.getLast?=some n->n+1=ts.length
theorem lS.nil(ts:List Ty):lS [] ts:=λn h=>by grind
theorem lS.snoc{l:List Nat}{n:Nat}{ts:List Ty}(h:n+1=ts.length):lS (l++[n]) ts:=λm hm=>by grind
theorem ko{t:Ty}{s s':St}{n:Nat}(ht:WfAt s.ts.length t)(h:aP t s=.ok (n,s')):Ext s.ts s'.ts/\s'.ts.length=s.ts.length+1/\dK (den s'.ts n)=bu (t.fields.map λf=>den s.ts f.2)+bu (t.list.map (den s.ts))+bu (if t.kind=8\/t.kind=9 then [den s.ts t.of]else [])+1/\n+1=s'.ts.length:=by
 cases h;refine⟨⟨_,rfl⟩,by simp,?_,by simp⟩;rw[rq _ _ ht.fields ht.list ht.of,dK]
theorem sE{ad:List Tk}{x:List UInt8}{T:M Nat}(hT:tU T xL)(hG:Grow T):∀f l s l' s',Wf s.ts->ym l s.ts->lS l s.ts->list ad x (λ_=>T) f l s=.ok (l',s')->Ext s.ts s'.ts/\s.ts.length+bu (l'.map (den s'.ts))<=s'.ts.length+bu (l.map (den s.ts))/\lS l' s'.ts
 |0,l,s,l',s',_,_,_,h=>by cases h
 |f+1,l,s,l',s',hw,hl,lR,h=>by
  obtain⟨b,s1,e1,e2⟩:=ah h;have t1:=eQ _ _ e1;cases b
  ·simp at e2;obtain⟨u,s2,e3,e4⟩:=ah e2;have t2:s2.ts=s1.ts:=by
    split at e3
    ·cases e3;rfl
    grind [fS]
   obtain⟨n,s3,e5,e6⟩:=ah e4;rw[t1]at t2
   obtain⟨h1,h2,h3⟩:=hT _ _ _ (by grind) e5;obtain⟨k1,k2,k3⟩:=hG _ _ _ (by grind) e5;rw[t2]at h2 k1 k2
   have Kv:ym l s3.ts:=λj hj=>by have:=hl j hj;omega
   obtain⟨g1,g2,g3⟩:=sE hT hG f (l++[n]) s3 l' s' h1 (λj hj=>by
    rw[List.mem_append]at hj
    rcases hj with hj|hj
    ·exact Kv j hj
    ·simp at hj;subst hj;exact h3) (lS.snoc k3) e6
   rw[List.map_append,gZ,k1.Ma hl]at g2
   simp[bu]at g2
   exact⟨k1.trans g1,by omega,g3⟩
  ·simp at e2;cases e2
   grind [Ext.refl]
theorem o6{ad:List Tk}{T:M Nat}(hT:tU T xL)(hG:Grow T):∀f l s l' s',Wf s.ts->ym (l.map Prod.snd) s.ts->fields ad T f l s=.ok (l',s')->Ext s.ts s'.ts/\s.ts.length+bu ((l'.map Prod.snd).map (den s'.ts))<=s'.ts.length+bu ((l.map Prod.snd).map (den s.ts))
 |0,l,s,l',s',_,_,h=>by cases h
 |f+1,l,s,l',s',hw,hl,h=>by
  obtain⟨b,s1,e1,e2⟩:=ah h;have t1:=eQ _ _ e1;cases b
  ·simp at e2;obtain⟨x,s2,e3,e4⟩:=ah e2;have t2:=zb _ _ e3;obtain⟨u,s3,e5,e6⟩:=ah e4;have t3:=fS _ _ e5;obtain⟨n,s4,e7,e8⟩:=ah e6;obtain⟨u,s5,e9,wk⟩:=ah e8;have t5:=fS _ _ e9;have t:s3.ts=s.ts:=by grind
   obtain⟨h1,h2,h3⟩:=hT _ _ _ (by grind) e7;obtain⟨k1,k2,_⟩:=hG _ _ _ (by grind) e7;rw[t]at h2 k1 k2
   rw[<-t5]at h1 h2 h3 k1 k2
   have Kv:ym (l.map Prod.snd) s5.ts:=λj hj=>by have:=hl j hj;omega
   obtain⟨g1,g2⟩:=o6 hT hG f (l++[(x,n)]) s5 l' s' h1 (λj hj=>by
    rw[List.map_append,List.mem_append]at hj
    rcases hj with hj|hj
    ·exact Kv j hj
    ·simp at hj;subst hj;exact h3) wk
   rw[List.map_append,List.map_append,gZ,k1.Ma hl]at g2
   simp only[List.map_cons,List.map_nil,bu]at g2;exact⟨k1.trans g1,by omega⟩
  ·simp at e2;cases e2
   grind [Ext.refl]
theorem jM{ad:List Tk}(hL:ad.length<=1001){T:M Nat}(hT:tU T xL)(hG:Grow T):Grow (single ad T):=λs n s' hw h=>by
 unfold single at h;split at h
 ·rename_i hk;obtain⟨u,s1,e1,e2⟩:=ah h;cases e1;cases e2;refine⟨⟨_,rfl⟩,?_,by simp⟩;have h8:¬(bI (cur ad s.pos).text=8\/bI (cur ad s.pos).text=9):=by
   have:bI (cur ad s.pos).text<=6:=by
    unfold bI;split
    ·grind [List.idxOf?_eq_some_iff,v8]
    ·omega
   omega
  grind [rq,dK,bu]
 ·obtain⟨b,s1,e1,e2⟩:=ah h;have t1:=eQ _ _ e1;rw[<-t1]at hw
  suffices H:Ext s1.ts s'.ts/\s1.ts.length+dK (den s'.ts n)<=s'.ts.length/\n+1=s'.ts.length by grind
  cases b
  ·simp only[Bool.false_eq_true,if_false]at e2;obtain⟨b,s2,e3,e4⟩:=ah e2;have t2:=eQ _ _ e3;rw[<-t2]at hw
   rw[<-t2];cases b
   ·simp only[Bool.false_eq_true,if_false]at e4;obtain⟨u,s3,e5,e6⟩:=ah e4;have t3:=fS _ _ e5;rw[<-t3]at hw
    rw[<-t3];obtain⟨l,s4,e7,e8⟩:=ah e6;obtain⟨h1,h2,h3⟩:=pH hT _ _ _ _ _ hw (λj hj=>by grind) e7;obtain⟨k1,k2,kl⟩:=sE hT hG _ _ _ _ _ hw (λj hj=>by grind) (lS.nil _) e7;obtain⟨b,s5,e9,wk⟩:=ah e8;have t5:=eQ _ _ e9;rw[<-t5]at h1 h2 h3 k1 k2 kl
    simp only[List.map_nil,bu]at k2;cases b
    ·simp only[Bool.false_eq_true,if_false]at wk;split at wk
     ·rename_i hl;cases wk;obtain⟨n,rfl⟩:=List.length_eq_one_iff.1 hl;simp only[List.map_cons,List.map_nil,bu]at k2;exact⟨k1,by grind,kl _ rfl⟩
     ·cases wk
    ·simp only[if_true]at wk;obtain⟨m,s6,UJ,Xx⟩:=ah wk;obtain⟨g1,g2,g3⟩:=hT _ _ _ h1 UJ;obtain⟨j1,j2,_⟩:=hG _ _ _ h1 UJ;have SL:ym l s6.ts:=λj hj=>by have:=h3 j hj;omega
     obtain⟨i1,i2,i3,i4⟩:=ko (s:=s6) ⟨λf hf=>by grind,λj hj=>SL j hj,λ_=>(show m< _ from g3),⟨by simp,by simp⟩,λ_=>rfl,λh=>absurd rfl h,λ_ h=>absurd rfl h,λh=>(by cases h),⟨by simp,by have:=tR _ _ _ _ _ e7;simp at this;dsimp only;omega⟩⟩ Xx;refine⟨(k1.trans j1).trans i1,?_,i4⟩;dsimp only at i3;rw[j1.Ma h3]at i3
     grind [bu]
   ·simp only[if_true]at e4;obtain⟨m,s3,e5,e6⟩:=ah e4;obtain⟨g1,g2,g3⟩:=hT _ _ _ hw e5;obtain⟨j1,j2,_⟩:=hG _ _ _ hw e5;obtain⟨u,s4,e7,e8⟩:=ah e6;have t4:=fS _ _ e7;rw[<-t4]at g1 g2 g3 j1 j2
    obtain⟨i1,i2,i3,i4⟩:=ko (s:=s4) ⟨λf hf=>by grind,λj hj=>by grind,λ_=>(show m< _ from g3),⟨by simp,by simp⟩,λ_=>rfl,λ_ _=>rfl,λh=>absurd rfl h,λh=>(by cases h),⟨by simp,by simp⟩⟩ e8;simp[bu]at i3
    exact⟨j1.trans i1,by omega,i4⟩
  ·simp only[if_true]at e2;unfold object at e2;obtain⟨l,s2,e3,e4⟩:=ah e2;obtain⟨h1,h2,h3⟩:=lV hT _ _ _ _ _ hw (λj hj=>by grind) e3;obtain⟨k1,k2⟩:=o6 hT hG _ _ _ _ _ hw (λj hj=>by simp at hj) e3;simp only[List.map_nil,bu]at k2;obtain⟨i1,i2,i3,i4⟩:=ko (s:=s2) ⟨λf hf=>h3 _ (List.mem_map_of_mem hf),λj hj=>by simp at hj,λh=>by grind,⟨by simp,by simp⟩,λh=>absurd rfl h,λ_ _=>rfl,λ_ _=>rfl,λh=>(by cases h),⟨by have:=oM _ _ _ _ _ e3;simp at this;dsimp only;omega,by simp⟩⟩ e4;have e5: (l.map λf=>den s2.ts f.2)=(l.map Prod.snd).map (den s2.ts):=by simp_all
   simp[bu,e5]at i3
   simp at k2;exact⟨k1.trans i1,by omega,i4⟩
theorem pI{ad:List Tk}{S:M Nat}(hS:tU S xL)(hG:Grow S):∀f l s l' s',Wf s.ts->ym l s.ts->lS l s.ts->bars ad S f l s=.ok (l',s')->Ext s.ts s'.ts/\s.ts.length+bu (l'.map (den s'.ts))<=s'.ts.length+bu (l.map (den s.ts))/\lS l' s'.ts
 |0,l,s,l',s',_,_,_,h=>by cases h
 |f+1,l,s,l',s',hw,hl,lR,h=>by
  obtain⟨b,s1,e1,e2⟩:=ah h;have t1:=eQ _ _ e1;cases b
  ·simp at e2;cases e2
   grind [Ext.refl]
  ·simp at e2;obtain⟨n,s2,e3,e4⟩:=ah e2;obtain⟨h1,h2,h3⟩:=hS _ _ _ (by grind) e3;obtain⟨k1,k2,k3⟩:=hG _ _ _ (by grind) e3;rw[t1]at h2 k1 k2
   have Kv:ym l s2.ts:=λj hj=>by have:=hl j hj;omega
   obtain⟨g1,g2,g3⟩:=pI hS hG f (l++[n]) s2 l' s' h1 (λj hj=>by
    rw[List.mem_append]at hj
    rcases hj with hj|hj
    ·exact Kv j hj
    ·simp at hj;subst hj;exact h3) (lS.snoc k3) e4
   rw[List.map_append,gZ,k1.Ma hl]at g2
   simp[bu]at g2
   exact⟨k1.trans g1,by omega,g3⟩
theorem Gf{ad:List Tk}(hL:ad.length<=1001){S:M Nat}(hS:tU S xL)(hG:Grow S):Grow (union ad S):=λs n s' hw h=>by
 obtain⟨m,s1,e1,e2⟩:=ah h;obtain⟨h1,h2,h3⟩:=hS _ _ _ hw e1;obtain⟨k1,k2,k3⟩:=hG _ _ _ hw e1;obtain⟨l,s2,e3,e4⟩:=ah e2;obtain⟨g1,g2,g3,g4⟩:=tA hS _ _ _ _ _ h1 (λj hj=>by grind) e3;obtain⟨j1,j2,j3⟩:=pI hS hG _ _ _ _ _ h1 (λj hj=>by grind) (show lS [m] s1.ts from lS.snoc (l:=[]) k3) e3;simp[bu]at j2
 split at e4
 ·rename_i hl;cases e4;obtain⟨n,rfl⟩:=List.length_eq_one_iff.1 hl;simp[bu]at j2
  exact⟨k1.trans j1,by grind,j3 _ rfl⟩
 ·obtain⟨i1,i2,i3,i4⟩:=ko ⟨λf hf=>by grind,λj hj=>g3 j hj,λh=>by grind,⟨by simp,by simp⟩,λ_=>rfl,λ_ h=>absurd rfl h,λ_ _=>rfl,λ_=>(by grind),⟨by simp,by have:=tS _ _ _ _ _ e3;simp at this;dsimp only;omega⟩⟩ e4;simp[bu]at i3
  exact⟨(k1.trans j1).trans i1,by omega,i4⟩
theorem g_(ad:List Tk)(hL:ad.length<=1001):∀r,Grow (eJ ad r)
 |0=>λs a s' _ h=>by cases h
 |r+1=>Gf hL (gj hL (cG ad hL r)) (jM hL (cG ad hL r) (g_ ad hL r))
theorem Fc{s:BA}{ts:List Ty}(h:typeOf s=.ok ts):dK (den ts (ts.length-1))<=ts.length:=by
 unfold typeOf at h;split at h
 ·cases h
 ·rename_i ad CS;split at h
  ·cases h
  ·rename_i n st e;split at h
   ·cases h
   ·split at h
    ·cases h
    ·cases h;obtain⟨_,h2,h3⟩:=g_ ad (qe _ _ CS).2.1 20 _ _ _ Wf.nil e
     grind
end Ty
end
section
namespace Ty
mutual
def eX:Tr->List Tr
 | .mk k n p l o=>if k=10 then bN l else [.mk k n p l o]
def bN:List Tr->List Tr
 |[]=>[]
 |t::l=>eX t++bN l
end
theorem nS:∀(a b:List Tr),bN (a++b)=bN a++bN b
 |[],b=>by simp[bN]
 |t::a,b=>by rw[List.cons_append,bN,nS a b,bN,List.append_assoc]
theorem vT(a:List Tr)(t:Tr):bN (a++[t])=bN a++eX t:=by
 rw[nS];simp[bN]
mutual
theorem sH:∀t:Tr,(eX t).length<=dK t
 | .mk k n p l o=>by
  rw[eX,dK];split
  ·have:=kr l;omega
  ·simp
theorem kr:∀l:List Tr,(bN l).length<=bu l
 |[]=>by simp[bN,bu]
 |t::l=>by
  have:=sH t;have:=kr l;rw[bN,bu,List.length_append];omega
end
mutual
theorem yr:∀t:Tr,kM t->0<(eX t).length
 | .mk k n p l o,h=>by
  rw[kM]at h
  rw[eX];split
  ·rename_i hk;have h2:=h.1 hk
   match l,h2,h.2.2.1 with
   |t::l,_,h3=>
    rw[mj]at h3
    have:=yr t h3.1;rw[bN,List.length_append];omega
  ·simp
end
mutual
theorem BW:∀t:Tr,eu t->∀x∈eX t,eu x/\kindOf x≠10
 | .mk k n p l o,h,x,hx=>by
  rw[eX]at hx
  split at hx
  ·rw[eu]at h
   exact ri l h.2.2.2.2.2.2.2.2.1 x hx
  ·simp at hx;subst hx;exact⟨h,by simpa [kindOf]⟩
theorem ri:∀l:List Tr,ux l->∀x∈bN l,eu x/\kindOf x≠10
 |[],_,x,hx=>by simp[bN]at hx
 |t::l,h,x,hx=>by
  rw[ux]at h
  rw[bN,List.mem_append]at hx
  rcases hx with hx|hx
  ·exact BW t h.1 x hx
  ·exact ri l h.2 x hx
end
mutual
theorem J8:∀t:Tr,kM t->∀x∈eX t,kM x
 | .mk k n p l o,h,x,hx=>by
  rw[eX]at hx
  split at hx
  ·rw[kM]at h
   exact sP l h.2.2.1 x hx
  ·simp at hx;subst hx;exact h
theorem sP:∀l:List Tr,mj l->∀x∈bN l,kM x
 |[],_,x,hx=>by simp[bN]at hx
 |t::l,h,x,hx=>by
  rw[mj]at h
  rw[bN,List.mem_append]at hx
  rcases hx with hx|hx
  ·exact J8 t h.1 x hx
  ·exact sP l h.2 x hx
end
def qm(out:List Tr)(x:Tr):List Tr:=if bn (λj=>alike x (out.getD j bJ)) out.length then out else out++[x]
def dB(l:List Tr):List Tr:=l.foldl qm []
def Fp:Tr:=.mk 5 [] [] [] []
def qz(l:List Tr):Tr:=
 if(dB (bN l)).length=0\/bn (λj=>decide (kindOf ((dB (bN l)).getD j bJ)=5)) (dB (bN l)).length=true then Fp
 else if(dB (bN l)).length=1 then(dB (bN l)).getD 0 bJ
 else .mk 10 [] [] (dB (bN l)) []
theorem CX(l:List Tr)(x:Tr):dB (l++[x])=qm (dB l) x:=by unfold dB;rw[List.foldl_append];rfl
theorem Me(out:List Tr)(x:Tr): (qm out x).length<=out.length+1:=by
 unfold qm;split<;>simp
theorem qE(l:List Tr): (dB l).length<=l.length:=by
 have h:∀(l:List Tr)(o:List Tr),(l.foldl qm o).length<=o.length+l.length:=by
  intro l;induction l with
  |nil=>intro o;simp
  |cons x l ih=>intro o;have:=ih (qm o x);have:=Me o x;simp at*;omega
 have:=h l [];rw[List.length_nil,Nat.zero_add]at this
 exact this
theorem vp(l:List Tr):∀x∈dB l,x∈l:=by
 have h:∀(l:List Tr)(o:List Tr),∀x∈l.foldl qm o,x∈o\/x∈l:=by
  intro l;induction l with
  |nil=>intro o x hx;exact .inl hx
  |cons y l ih=>
   intro o x hx;rcases ih (qm o y) x hx with h|h
   ·unfold qm at h;split at h
    ·exact .inl h
    ·rw[List.mem_append]at h
     rcases h with h|h
     ·exact .inl h
     ·simp at h;subst h;exact .inr (by simp)
   ·exact .inr (by simp[h])
 intro x hx;rcases h l [] x hx with h|h
 ·simp at h
 ·exact h
end Ty
open Ty (Tr)
theorem mF(l:List Tr)(k:Nat)(h:k<l.length):bu (l.take k)+dK l[k]<=bu l:=by
 conv=>rhs;rw[<-List.take_append_drop k l,gZ]
 rw[List.drop_eq_getElem_cons h,bu];omega
end
namespace Ty
def cr(sep:List UInt8):List (List UInt8)->List UInt8
 |[]=>[]
 |[x]=>x
 |x::y::l=>x++sep++cr sep (y::l)
def brk(n i k:Nat)(s:List UInt8):List UInt8:=if k=10\/k=9/\i+1<n then 40:: (s++[41])else s
def C'(ks:List Nat)(ts:List (List UInt8)):List (List UInt8):=(List.range ts.length).map λi=>brk ts.length i (ks.getD i 0) (ts.getD i [])
def mg(n:BA)(t:List UInt8):List UInt8:=32:: (n.data.toList++[58,32]++t++[59])
def dV:List BA->List (List UInt8)->List UInt8
 |n::ns,t::ts=>mg n t++dV ns ts
 | _,_=>[]
def BS(k:Nat):List UInt8:=[[],[110,117,109],[98,111,111,108],[116,101,120,116],[110,117,108,108],[97,110,121],[117,110,107,110,111,119,110]].getD k []
mutual
def text:Tr->List UInt8
 | .mk k names parts list of=>
  if k=7 then [123]++dV names (texts parts)++(if parts.length>0 then [32]else [])++[125]
  else if k=8 then [91]++(texts of).headD []++[93]
  else if k=9 then [40]++cr [44,32] (texts list)++[41,32,61,62,32]++(texts of).headD []
  else if k=10 then cr [32,124,32] (C' (list.map kindOf) (texts list))
  else BS k
def texts:List Tr->List (List UInt8)
 |[]=>[]
 |t::l=>text t::texts l
end
theorem fT:∀l:List Tr,texts l=l.map text
 |[]=>by grind [texts]
 |t::l=>by rw[texts,fT l];rfl
theorem rB:∀(ns:List BA)(ts:List (List UInt8))(n:BA)(t:List UInt8),ns.length=ts.length->dV (ns++[n]) (ts++[t])=dV ns ts++mg n t
 |[],[],n,t,_=>by simp[dV]
 |a::ns,b::ts,n,t,h=>by
  have:=rB ns ts n t (by grind)
  grind [dV]
mutual
def dX:Tr->Prop
 | .mk _ names parts list of=>(∀n∈names,n.size<=20)/\fq parts/\fq list/\fq of
def fq:List Tr->Prop
 |[]=>True
 |t::l=>dX t/\fq l
end
theorem lA{l:List Tr}(h:fq l):∀t∈l,dX t:=by
 induction l with
 |nil=>intro t ht;simp at ht
 |cons a l ih=>
  grind [fq]
theorem JP{l:List Tr}(h:∀t∈l,dX t):fq l:=by
 induction l with
 |nil=>rw[fq];trivial
 |cons a l ih=>rw[fq];exact⟨h a (by simp),ih λt ht=>h t (by grind)⟩
def eF(l:List (List UInt8)):Nat:=(l.map List.length).foldr (· + ·) 0
theorem jt(sep:List UInt8):∀l:List (List UInt8),(cr sep l).length<=eF l+sep.length*l.length
 |[]=>by simp[cr]
 |[x]=>by simp[cr,eF]
 |x::y::l=>by
  have:=jt sep (y::l)
  grind [cr,eF,Nat.mul_add]
theorem ug:∀(ns:List BA)(ts:List (List UInt8)),(∀n∈ns,n.size<=20)->(dV ns ts).length<=eF ts+24*ts.length
 |[],ts,_=>by simp[dV]
 |n::ns,[],_=>by simp[dV]
 |n::ns,t::ts,h=>by
  have h1:=ug ns ts (λm hm=>h m (by grind));have h2:n.data.toList.length<=20:=by simp_all
  grind [dV,mg,List.length_cons,eF]
theorem Oj(ks:List Nat)(ts:List (List UInt8)): (C' ks ts).length=ts.length/\eF (C' ks ts)<=eF ts+2*ts.length:=by
 refine⟨by simp[C'],?_⟩;have key:∀(l:List Nat)(f g:Nat->List UInt8),(∀i,(f i).length<=(g i).length+2)->eF (l.map f)<=eF (l.map g)+2*l.length:=by
  intro l f g h;induction l with
  |nil=>simp
  |cons a l ih=>
   grind [eF]
 have h:=key (List.range ts.length) (λi=>brk ts.length i (ks.getD i 0) (ts.getD i [])) (λi=>ts.getD i []) (λi=>by grind [brk]);have e: (List.range ts.length).map (λi=>ts.getD i [])=ts:=by
  apply List.ext_getElem
  ·simp
  grind
 rw[e,List.length_range]at h
 exact h
mutual
theorem rU:∀t:Tr,eu t->dX t->(text t).length+24<=40*dK t
 | .mk k names parts list of,h,hs=>by
  rw[eu]at h
  rw[dX]at hs
  obtain⟨hk,hn,h8,ab5,h7,Y9,hlen,hp,hl,ho⟩:=h;have a1:=pK parts hp hs.2.1;have a2:=pK list hl hs.2.2.1;have a3:=pK of ho hs.2.2.2;have e1: (texts parts).length=parts.length:=by rw[fT];simp
  have e2: (texts list).length=list.length:=by rw[fT];simp
  have Zd: ((texts of).headD []).length<=eF (texts of):=by
   cases of with
   |nil=>simp[texts]
   |cons o l=>simp only[texts,List.headD_cons,eF,List.map_cons,List.foldr_cons];omega
  rw[dK,text];split
  ·have:=ug names (texts parts) hs.1;simp only[lzA,lzC,lzN];split<;>simp<;>omega
  ·split
   ·simp only[lzA,lzC,lzN];omega
   ·split
    ·have:=jt [44,32] (texts list);simp only[lzA,lzC,lzN]at this⊢;omega
    ·split
     ·have:=jt [32,124,32] (C' (list.map kindOf) (texts list));obtain⟨b1,b2⟩:=Oj (list.map kindOf) (texts list);simp only[List.length_cons,List.length_nil]at this⊢;omega
     ·have hw: (BS k).length<=7:=by
       have:k=1\/k=2\/k=3\/k=4\/k=5\/k=6:=by omega
       rcases this with rfl|rfl|rfl|rfl|rfl|rfl<;>decide
      omega
theorem pK:∀l:List Tr,ux l->fq l->eF (texts l)+24*l.length<=40*bu l
 |[],_,_=>by simp[texts,eF]
 |t::l,h,hs=>by
  rw[ux]at h
  rw[fq]at hs
  have h1:=rU t h.1 hs.1;have h2:=pK l h.2 hs.2;rw[texts,bu];simp only[eF,List.map_cons,List.foldr_cons,List.length_cons]at h2⊢;omega
end
end Ty
namespace Ty
def nQ(ts:List Ty)(ty:Int):List UInt8:=if ty<0 then []else [58,32]++text (den ts ty.toNat)
def aM:Nat->List UInt8
 |0=>[]
 |n+1=>[32,32]++aM n
theorem ew:∀n,(aM n).length=2*n
 |0=>rfl
 |n+1=>by rw[aM,List.length_append,ew n];simp;omega
def dI(x:BA):Nat:=if x.data.toList=[42]then 2 else if x.data.toList=[43]\/x.data.toList=[45]then 1 else 0
def lvl:Ex->Nat
 | .one .. =>3
 | .two _ x _ _=>dI x
 | .num .. =>4
 | .text .. =>4
 | .bool .. =>4
 | .null .. =>4
 | .var .. =>4
 | .fn .. =>4
 | .call .. =>4
 | .get .. =>4
 | .atX .. =>4
 | .obj .. =>4
 | .arr .. =>4
 | .asX .. =>4
def par(b:Bool)(s:List UInt8):List UInt8:=if b then [40]++s++[41]else s
def sJ(ts:List Ty)(q:Par):List UInt8:=q.text.data.toList++nQ ts q.ty
def gJ:List UInt8:=[116,121,112,101,111,102]
mutual
def wE(ts:List Ty)(ind:Nat):Ex->List UInt8
 | .num _ n=>Lib.itoa n
 | .text _ x=>[34]++x.data.toList++[34]
 | .bool _ n=>if n=1 then [116,114,117,101]else [102,97,108,115,101]
 | .null _=>[110,117,108,108]
 | .var _ x=>x.data.toList
 | .fn _ ps ty _ body=>[102,110,40]++cr [44,32] (ps.map (sJ ts))++[41]++nQ ts ty++[32]++([123,10]++ki ts (ind+1) body++aM ind++[125])
 | .call _ a l=>par (decide (lvl a<4)) (wE ts ind a)++[40]++cr [44,32] (um ts ind l)++[41]
 | .get _ a x=>par (decide (lvl a<4)) (wE ts ind a)++[46]++x.data.toList
 | .atX _ a b=>par (decide (lvl a<4)) (wE ts ind a)++[91]++wE ts ind b++[93]
 | .obj _ l=>if l.length=0 then [123,125]else [123,32]++cr [44,32] (xB ts ind l)++[32,125]
 | .arr _ l=>[91]++cr [44,32] (um ts ind l)++[93]
 | .two _ x a b=>par (decide (lvl a<max (dI x) 1)) (wE ts ind a)++[32]++x.data.toList++[32]++par (decide (lvl b<dI x+1)) (wE ts ind b)
 | .one _ x a=>x.data.toList++(if x.data.toList=gJ then [32]else [])++par (decide (lvl a<3)) (wE ts ind a)
 | .asX _ a ty=>par (decide (lvl a<4)) (wE ts ind a)++[32,97,115,32]++text (den ts ty.toNat)
def um(ts:List Ty)(ind:Nat):List Ex->List (List UInt8)
 |[]=>[]
 |e::l=>wE ts ind e::um ts ind l
def xB(ts:List Ty)(ind:Nat):List (Nat×BA×Ex)->List (List UInt8)
 |[]=>[]
 |(_,x,e)::l=>(x.data.toList++[58,32]++wE ts ind e)::xB ts ind l
def ki(ts:List Ty)(ind:Nat):List Sm->List UInt8
 |[]=>[]
 |e::l=>wS ts ind e++ki ts ind l
def wS(ts:List Ty)(ind:Nat):Sm->List UInt8
 | .fZ _ x ty a=>aM ind++[108,101,116,32]++x.data.toList++nQ ts ty++[32,61,32]++wE ts ind a++[59,10]
 | .set _ x v=>aM ind++x.data.toList++[32,61,32]++wE ts ind v++[59,10]
 | .put _ a x v=>aM ind++par (decide (lvl a<4)) (wE ts ind a)++[46]++x.data.toList++[32,61,32]++wE ts ind v++[59,10]
 | .lay _ a b v=>aM ind++par (decide (lvl a<4)) (wE ts ind a)++[91]++wE ts ind b++[93,32,61,32]++wE ts ind v++[59,10]
 | .print _ a=>aM ind++[112,114,105,110,116,32]++wE ts ind a++[59,10]
 | .ret _ a=>aM ind++[114,101,116,117,114,110,32]++wE ts ind a++[59,10]
 | .oL _ a=>aM ind++wE ts ind a++[59,10]
 | .if_ _ a _ b none=>aM ind++[105,102,32,40]++wE ts ind a++[41,32]++([123,10]++ki ts (ind+1) b++aM ind++[125])++[10]
 | .if_ _ a _ b (some (_,c))=>aM ind++[105,102,32,40]++wE ts ind a++[41,32]++([123,10]++ki ts (ind+1) b++aM ind++[125])++[32,101,108,115,101,32]++([123,10]++ki ts (ind+1) c++aM ind++[125])++[10]
 | .while_ _ a _ b=>aM ind++[119,104,105,108,101,32,40]++wE ts ind a++[41,32]++([123,10]++ki ts (ind+1) b++aM ind++[125])++[10]
end
def wB(ts:List Ty)(ind:Nat)(l:List Sm):List UInt8:=[123,10]++ki ts (ind+1) l++aM ind++[125]
def wP(ts:List Ty)(ind least:Nat)(e:Ex):List UInt8:=par (decide (lvl e<least)) (wE ts ind e)
theorem gw(ts:List Ty)(ind:Nat)(e:Ex):wP ts ind 0 e=wE ts ind e:=by unfold wP par;simp
mutual
def aw:Ex->Nat
 | .num .. =>1
 | .text .. =>1
 | .bool .. =>1
 | .null .. =>1
 | .var .. =>1
 | .fn _ ps _ _ body=>ps.length+aI body+2
 | .call _ a l=>aw a+eD l+1
 | .get _ a _=>aw a+1
 | .atX _ a b=>aw a+aw b+1
 | .obj _ l=>fu l+1
 | .arr _ l=>eD l+1
 | .two _ _ a b=>aw a+aw b+1
 | .one _ _ a=>aw a+1
 | .asX _ a _=>aw a+1
def eD:List Ex->Nat
 |[]=>0
 |e::l=>aw e+eD l
def fu:List (Nat×BA×Ex)->Nat
 |[]=>0
 |(_,_,e)::l=>aw e+1+fu l
def aI:List Sm->Nat
 |[]=>0
 |e::l=>cE e+aI l
def cE:Sm->Nat
 | .fZ _ _ _ a=>aw a+1
 | .set _ _ v=>aw v+1
 | .put _ a _ v=>aw a+aw v+1
 | .lay _ a b v=>aw a+aw b+aw v+1
 | .print _ a=>aw a+1
 | .ret _ a=>aw a+1
 | .oL _ a=>aw a+1
 | .if_ _ a _ b none=>aw a+aI b+2
 | .if_ _ a _ b (some (_,c))=>aw a+aI b+aI c+3
 | .while_ _ a _ b=>aw a+aI b+2
end
theorem wG:∀(ps:List Par)(ns:List Nd),(gY ps ns).1.length=ns.length+ps.length/\(gY ps ns).2.length=ps.length
 |[],ns=>by simp[gY]
 |q::ps,ns=>by
  have:=wG ps (ns++[{af 16 q.pos with text:=q.text,ty:=q.ty}]);simp[gY]at this⊢
  omega
mutual
theorem bf:∀(e:Ex)(ns:List Nd),(aF e ns).1.length=ns.length+aw e
 | .num _ _,ns=>by simp[aF,aw]
 | .text _ _,ns=>by simp[aF,aw]
 | .bool _ _,ns=>by simp[aF,aw]
 | .null _,ns=>by simp[aF,aw]
 | .var _ _,ns=>by simp[aF,aw]
 | .fn p ps ty bp body,ns=>by
  have h1:=wG ps ns;have h2:=fB body (gY ps ns).1;rw[aF,aw,dm];simp;omega
 | .call p a l,ns=>by
  have h1:=bf a ns;have h2:=oO l (aF a ns).1;rw[aF,aw];simp;omega
 | .get p a x,ns=>by have h1:=bf a ns;rw[aF,aw];simp;omega
 | .atX p a b,ns=>by
  have h1:=bf a ns;have h2:=bf b (aF a ns).1;rw[aF,aw];simp;omega
 | .obj p l,ns=>by have h1:=wA l ns;rw[aF,aw];simp;omega
 | .arr p l,ns=>by have h1:=oO l ns;rw[aF,aw];simp;omega
 | .two p x a b,ns=>by
  have h1:=bf a ns;have h2:=bf b (aF a ns).1;rw[aF,aw];simp;omega
 | .one p x a,ns=>by have h1:=bf a ns;rw[aF,aw];simp;omega
 | .asX p a ty,ns=>by have h1:=bf a ns;rw[aF,aw];simp;omega
theorem oO:∀(l:List Ex)(ns:List Nd),(gL l ns).1.length=ns.length+eD l
 |[],ns=>by simp[gL,eD]
 |e::l,ns=>by
  have h1:=bf e ns;have h2:=oO l (aF e ns).1;rw[gL,eD];simp;omega
theorem wA:∀(l:List (Nat×BA×Ex))(ns:List Nd),(ir l ns).1.length=ns.length+fu l
 |[],ns=>by simp[ir,fu]
 |(p,x,e)::l,ns=>by
  have h1:=bf e ns;have h2:=wA l ((aF e ns).1++[{af 15 p with text:=x,a:=(aF e ns).2}]);rw[ir,fu];simp at h2⊢;omega
theorem fB:∀(l:List Sm)(ns:List Nd),(dQ l ns).1.length=ns.length+aI l
 |[],ns=>by simp[dQ,aI]
 |e::l,ns=>by
  have h1:=uP e ns;have h2:=fB l (cN e ns).1;rw[dQ,aI];simp;omega
theorem uP:∀(e:Sm)(ns:List Nd),(cN e ns).1.length=ns.length+cE e
 | .fZ _ _ _ a,ns=>by have h1:=bf a ns;rw[cN,cE];simp;omega
 | .set _ _ a,ns=>by have h1:=bf a ns;rw[cN,cE];simp;omega
 | .put _ a _ v,ns=>by
  have h1:=bf a ns;have h2:=bf v (aF a ns).1;rw[cN,cE];simp;omega
 | .lay _ a b v,ns=>by
  have h1:=bf a ns;have h2:=bf b (aF a ns).1;have h3:=bf v (aF b (aF a ns).1).1;rw[cN,cE];simp;omega
 | .print _ a,ns=>by have h1:=bf a ns;rw[cN,cE];simp;omega
 | .ret _ a,ns=>by have h1:=bf a ns;rw[cN,cE];simp;omega
 | .oL _ a,ns=>by have h1:=bf a ns;rw[cN,cE];simp;omega
 | .if_ _ a _ b none,ns=>by
  have h1:=bf a ns;have h2:=fB b (aF a ns).1;rw[cN,cE,dm];simp;omega
 | .if_ _ a bp b (some (cp,c)),ns=>by
  have h1:=bf a ns;have h2:=fB b (aF a ns).1;have h3:=fB c (dm bp b (aF a ns).1).1;have h4: (dm bp b (aF a ns).1).1.length=(dQ b (aF a ns).1).1.length+1:=by rw[dm];simp
  rw[cN,cE,dm];simp;omega
 | .while_ _ a _ b,ns=>by
  have h1:=bf a ns;have h2:=fB b (aF a ns).1;rw[cN,cE,dm];simp;omega
end
end Ty
section
namespace Ty
open Tok (Tk)
structure NameOk(x:BA):Prop where
 size:x.size<=20
 head:∃c l,x.data.toList=c::l/\cJ c=true/\∀d∈l,c_ d=true
 word:Tok.isWord x=false
theorem jz{α:Type}(p:α->Bool):∀(l:List α),∀d∈l.takeWhile p,p d=true
 |[],d,h=>by simp at h
 |a::l,d,h=>by
  rw[List.takeWhile_cons]at h
  split at h
  ·rcases List.mem_cons.1 h with rfl|h
   ·grind
   ·exact jz p l d h
  grind
theorem gn(p:UInt8->Bool)(s:BA)(k:Nat)(_:k<=s.size): (s.extract k (Tok.stop p s k)).data.toList=(s.data.toList.drop k).takeWhile p:=by
 grind [ByteArray.data_extract,Array.toList_extract,Tok.stop,List.prefix_iff_eq_take,List.takeWhile_prefix]
theorem zf(s:BA)(k:Nat)(h:k<s.size)(aD: (Tok.next s k).2.2=true)(hk: (Tok.next s k).1.kind=1):NameOk (Tok.next s k).1.text:=by
 unfold Tok.next at aD hk⊢;by_cases hl:cJ (Tok.byte s k)=true
 ·simp[hl]at aD hk⊢
  have hle:=jF c_ s k (by omega);refine⟨?_,?_,?_⟩
  ·simp_all
  ·rw[gn _ _ _ (by omega),Tok.drop_cons s k h,List.takeWhile_cons,if_pos (by grind [ei,c_])];exact⟨_,_,rfl,by grind [ei],jz _ _⟩
  grind
 grind
theorem lr(s:BA):∀(f k:Nat)(o l:List Tk),bL s f k o=.ok l->(∀t∈o,t.kind=1->NameOk t.text)->∀t∈l,t.kind=1->NameOk t.text
 |0,k,o,l,h,ho=>by cases h;exact ho
 |f+1,k,o,l,h,ho=>by
  rw[bL]at h
  split at h
  ·rename_i hk;split at h
   ·exact lr s f _ _ _ h ho
   ·split at h
    ·cases h
    ·rename_i aD;split at h
     ·cases h
     ·refine lr s f _ _ _ h λt ht=>?_
      grind [zf]
  grind
theorem FE{s:BA}{l:List Tk}(h:Tok.scan s=.ok l):∀t∈l,t.kind=1->NameOk t.text:=by
 unfold Tok.scan at h;split at h
 ·cases h
 ·exact lr s _ _ _ _ h λt ht=>by grind
structure NmT(l:List (BA×Nat)):Prop where
 ok:∀f∈l,NameOk f.1
 nodup: (l.map Prod.fst).Nodup
theorem NmT.nil:NmT []:=⟨λf h=>by grind,by simp⟩
def Nm(ts:List Ty):Prop:=∀t∈ts,NmT t.fields
theorem Nm.nil:Nm []:=λt h=>by grind
def NK{α:Type}(m:M α)(P:α->Prop):Prop:=∀s a s',Nm s.ts->m s=.ok (a,s')->Nm s'.ts/\P a
theorem NK.ak{α β:Type}{m:M α}{k:α->M β}{P:α->Prop}{Q:β->Prop}(h:NK m P)(g:∀a,P a->NK (k a) Q):NK (Ty.ak m k) Q:=λs b s' hn e=>by
 obtain⟨a,s1,e1,e2⟩:=ah e;obtain⟨h1,h2⟩:=h _ _ _ hn e1;exact g a h2 _ _ _ h1 e2
theorem NK.ret{α:Type}(a:α){P:α->Prop}(h:P a):NK (ret a) P:=λs b s' hn e=>by cases e;exact⟨hn,h⟩
theorem NK.fail{α:Type}(ad:List Tk)(n:Nat)(P:α->Prop):NK (fail (α:=α) ad n) P:=λs b s' _ e=>by cases e
theorem NK.step:NK step λ_=>True:=λs b s' hn e=>by cases e;exact⟨hn,trivial⟩
theorem NK.take(ad:List Tk)(x:List UInt8):NK (take ad x) λ_=>True:=λs b s' hn e=>⟨by grind [eQ],trivial⟩
theorem NK.need(ad:List Tk)(x:List UInt8):NK (need ad x) λ_=>True:=λs b s' hn e=>⟨by grind [fS],trivial⟩
theorem NK.aP(t:Ty)(h:NmT t.fields):NK (aP t) λ_=>True:=λs b s' hn e=>by
 cases e;refine⟨λu hu=>?_,trivial⟩;rw[List.mem_append]at hu
 rcases hu with hu|hu
 ·exact hn u hu
 grind
theorem NK.ite{α:Type}{p:Prop} [Decidable p]{m n:M α}{P:α->Prop}(h:NK m P)(g:NK n P):NK (if p then m else n) P:=by
 grind
theorem NK.name{ad:List Tk}(ht:∀t∈ad,t.kind=1->NameOk t.text)(met:List BA):NK (name ad met) λx=>NameOk x/\x∉met:=λs x s' hn e=>by
 grind [Ty.name,cur]
theorem Hc{ad:List Tk}{x:List UInt8}{T:M Nat}(hT:NK T λ_=>True):∀f l,NK (list ad x (λ_=>T) f l) λ_=>True
 |0,_=>NK.fail _ _ _
 |f+1,_=>(NK.take _ _).ak λ_ _=>NK.ite (NK.ret _ trivial) ((NK.ite (NK.ret _ trivial) (NK.need _ _)).ak λ_ _=>hT.ak λ_ _=>Hc hT f _)
theorem zB{ad:List Tk}(ht:∀t∈ad,t.kind=1->NameOk t.text){T:M Nat}(hT:NK T λ_=>True):∀f l,NmT l->NK (fields ad T f l) NmT
 |0,_,_=>NK.fail _ _ _
 |f+1,l,hl=>(NK.take _ _).ak λb _=>NK.ite (NK.ret _ hl) ((NK.name ht _).ak λs hs=>(NK.need _ _).ak λ_ _=>hT.ak λn _=>(NK.need _ _).ak λ_ _=>zB ht hT f _ ⟨λf hf=>by
   rw[List.mem_append]at hf
   rcases hf with hf|hf
   ·exact hl.ok f hf
   ·simp at hf;subst hf;exact hs.1,by
   rw[List.map_append,List.nodup_append];refine⟨hl.nodup,by simp,λa ha b hb=>?_⟩;simp at hb;subst hb;intro e;subst e;exact hs.2 ha⟩)
theorem O7{ad:List Tk}{T:M Nat}(hT:NK T λ_=>True):NK (round ad T) λ_=>True:=
 (Hc hT _ _).ak λ_ _=>(NK.take _ _).ak λ_ _=>NK.ite (hT.ak λ_ _=>NK.aP _ NmT.nil) (NK.ite (NK.ret _ trivial) (NK.fail _ _ _))
theorem Kl{ad:List Tk}(ht:∀t∈ad,t.kind=1->NameOk t.text){T:M Nat}(hT:NK T λ_=>True):NK (single ad T) λ_=>True:=λs n s' hn h=>by
 unfold single at h;split at h
 ·exact(NK.step.ak λ_ _=>NK.aP _ NmT.nil) s n s' hn h
 ·exact((NK.take _ _).ak λb _=>NK.ite ((zB ht hT _ _ NmT.nil).ak λl hl=>NK.aP _ hl) ((NK.take _ _).ak λb _=>NK.ite (hT.ak λn _=>(NK.need _ _).ak λ_ _=>NK.aP _ NmT.nil) ((NK.need _ _).ak λ_ _=>O7 hT))) s n s' hn h
theorem IG{ad:List Tk}{S:M Nat}(hS:NK S λ_=>True):∀f l,NK (bars ad S f l) λ_=>True
 |0,_=>NK.fail _ _ _
 |f+1,_=>(NK.take _ _).ak λ_ _=>NK.ite (hS.ak λ_ _=>IG hS f _) (NK.ret _ trivial)
theorem OY{ad:List Tk}{S:M Nat}(hS:NK S λ_=>True):NK (union ad S) λ_=>True:=
 hS.ak λ_ _=>(IG hS _ _).ak λ_ _=>NK.ite (NK.ret _ trivial) (NK.aP _ NmT.nil)
theorem Em{ad:List Tk}(ht:∀t∈ad,t.kind=1->NameOk t.text):∀r,NK (eJ ad r) λ_=>True
 |0=>NK.fail _ _ _
 |r+1=>OY (Kl ht (Em ht r))
theorem Kf{s:BA}{ts:List Ty}(h:typeOf s=.ok ts):Nm ts:=by
 unfold typeOf at h;split at h
 ·cases h
 ·rename_i ad CS;split at h
  ·cases h
  ·rename_i n st e;split at h
   ·cases h
   ·split at h
    ·cases h
    ·cases h;exact(Em (FE CS) 20 _ _ _ Nm.nil e).1
mutual
def SN:Tr->Prop
 | .mk _ names parts list of=>(∀n∈names,NameOk n)/\names.Nodup/\Pn parts/\Pn list/\Pn of
def Pn:List Tr->Prop
 |[]=>True
 |t::l=>SN t/\Pn l
end
theorem Gx{l:List Tr}(h:∀t∈l,SN t):Pn l:=by
 induction l with
 |nil=>rw[Pn];trivial
 |cons a l ih=>rw[Pn];exact⟨h a (by simp),ih λt ht=>h t (by grind)⟩
mutual
theorem rM:∀t:Tr,SN t->dX t
 | .mk k names parts list of,h=>by
  exact⟨λn hn=>(h.1 n hn).size,p_ _ h.2.2.1,p_ _ h.2.2.2.1,p_ _ h.2.2.2.2⟩
theorem p_:∀l:List Tr,Pn l->fq l
 |[],_=>by grind [fq]
 |t::l,h=>by
  rw[fq];exact⟨rM t h.1,p_ l h.2⟩
end
theorem A8{ts:List Ty}(hw:Wf ts)(hn:Nm ts):∀N n,n<N->n<ts.length->SN (den ts n):=by
 intro N;induction N with
 |zero=>intro n h;omega
 |succ N ih=>
  intro n hN hl;have hg:ts[n]?=some ts[n]:=by grind
  have oD:=hw n _ hg;have abW:=hn ts[n] (gM _);rw[nO hw hg,SN];refine⟨λx hx=>?_,abW.nodup,Gx λt ht=>?_,Gx λt ht=>?_,Gx λt ht=>?_⟩
  ·obtain⟨f,hf,rfl⟩:=List.mem_map.1 hx;exact abW.ok f hf
  ·obtain⟨f,hf,rfl⟩:=List.mem_map.1 ht;have:=oD.fields f hf
   grind
  ·obtain⟨j,hj,rfl⟩:=List.mem_map.1 ht;have:=oD.list j hj
   grind
  ·split at ht
   ·rename_i hk;have:=oD.of hk
    grind
   grind
end Ty
end
section
namespace Ty
open Tok (Tk)
structure NumOk(x:BA):Prop where
 size:x.size<=9
 ac4:∀d∈x.data.toList,Tok.isDigit d=true
 ne:x.data.toList≠[]
 nz:x.data.toList.length=1\/x.data.toList.head?≠some 48
def EH(ad:List Tk):Prop:=∀t∈ad,t.kind=3->NumOk t.text
theorem B8(s:BA)(k:Nat)(h:k<s.size)(aD: (Tok.next s k).2.2=true)(hk: (Tok.next s k).1.kind=3):NumOk (Tok.next s k).1.text:=by
 unfold Tok.next at aD hk⊢;by_cases hl:cJ (Tok.byte s k)=true
 ·simp only[hl,if_true]at hk;split at hk<;>cases hk
 ·simp only[hl,if_false,Bool.false_eq_true]at aD hk⊢;by_cases hd:Tok.isDigit (Tok.byte s k)=true
  ·simp only[hd,if_true]at aD⊢;have fY:=je Tok.isDigit s k;have hle:=jF Tok.isDigit s k (by omega);simp only[Bool.and_eq_true,Bool.or_eq_true,decide_eq_true_eq,Bool.not_eq_true',decide_eq_false_iff_not]at aD;have gR: (s.extract k (Tok.stop Tok.isDigit s k)).data.toList.length=Tok.stop Tok.isDigit s k-k:=by
    have: (s.extract k (Tok.stop Tok.isDigit s k)).size=Tok.stop Tok.isDigit s k-k:=by simp only[ByteArray.size_extract];omega
    rw[<-this];exact Array.length_toList
   have hx: (s.extract k (Tok.stop Tok.isDigit s k)).data.toList=s[k]:: (s.data.toList.drop (k+1)).takeWhile Tok.isDigit:=by
    rw[gn _ _ _ (by omega),Tok.drop_cons s k h,List.takeWhile_cons,if_pos (by rw[<-ei];exact hd)]
   refine⟨?_,?_,?_,?_⟩
   ·simp only[ByteArray.size_extract];omega
   ·rw[gn _ _ _ (by omega)];exact jz _ _
   ·rw[hx];simp
   ·rcases aD.2 with h1|h1
    ·left;omega
    ·right;rw[hx];intro e;simp only[List.head?_cons,Option.some.injEq]at e;exact h1 (by rw[ei s k h];exact e)
  ·simp only[hd,if_false,Bool.false_eq_true]at hk;split at hk
   ·cases hk
   ·split at hk<;>cases hk
theorem mo(s:BA):∀(f k:Nat)(o l:List Tk),bL s f k o=.ok l->EH o->EH l
 |0,k,o,l,h,ho=>by cases h;exact ho
 |f+1,k,o,l,h,ho=>by
  rw[bL]at h
  split at h
  ·rename_i hk;split at h
   ·exact mo s f _ _ _ h ho
   ·split at h
    ·cases h
    ·rename_i aD;split at h
     ·cases h
     ·refine mo s f _ _ _ h λt ht=>?_
      rw[List.mem_append]at ht
      rcases ht with ht|ht
      ·exact ho t ht
      ·simp at ht;subst ht;exact B8 s k hk (by simpa using aD)
  ·cases h;intro t ht;rw[List.mem_append]at ht
   rcases ht with ht|ht
   ·exact ho t ht
   ·simp at ht;subst ht;intro h;cases h
theorem KF{s:BA}{l:List Tk}(h:Tok.scan s=.ok l):EH l:=by
 unfold Tok.scan at h;split at h
 ·cases h
 ·exact mo s _ _ _ _ h λt ht=>by simp at ht
theorem Dp{d:UInt8}(h:Tok.isDigit d=true):Lib.digitVal d=some (d.toNat-48):=by
 unfold Tok.isDigit at h;simp at h;unfold Lib.digitVal;rw[if_pos h]
theorem sn:∀(l:List UInt8)(acc:Nat),(∀d∈l,Tok.isDigit d=true)->Lib.decFrom acc l=some (l.foldl (λn c=>10*n+(c.toNat-48)) acc)
 |[],acc,_=>rfl
 |c::l,acc,h=>by
  rw[Lib.decFrom,Dp (h c (by simp))];dsimp only;rw[sn l _ (λd hd=>h d (by simp[hd])),List.foldl_cons,Nat.mul_comm acc 10]
theorem F6{x:BA}(h:NumOk x):Lib.atoi x.data.toList=some ((value x:Nat):Int):=by
 unfold value;cases e:x.data.toList with
 |nil=>exact absurd e h.ne
 |cons c l=>
  have hd:=h.ac4;rw[e]at hd
  have hc:=hd c (by simp);unfold Tok.isDigit at hc;simp at hc;rw[Lib.atoi,if_neg (by intro age;have:=beq_iff_eq.1 age;subst this;simp at hc),if_neg (by intro aeY;have:=beq_iff_eq.1 aeY;subst this;simp at hc)];unfold Lib.decNat;rw[if_neg (by simp),sn _ _ hd];rfl
end Ty
end
end Go.Proofs.YtdlbhiaceheffabGreatDoor
