/- Plain: trees of their form. -/
import Derived.Lib.Atoi
import Derived.Test.YtdlbhiaceheffabGreatDoorP03
set_option linter.all false
namespace Go.Proofs.YtdlbhiaceheffabGreatDoor
open Go Go.RowKit Ty Tok
namespace Ty
mutual
def dP:Tr→Prop
 | .mk k names parts list of=>(1≤k∧k≤10)∧names.length=parts.length∧(k=8∨k=9→of.length=1)∧(k≠8→k≠9→of=[])∧(k≠7→parts=[])∧(k≠9→k≠10→list=[])∧(parts.length≤1000000∧list.length≤1000000)∧ni parts∧ni list∧ni of
def ni:List Tr→Prop
 |[]=>True
 |t::l=>dP t∧ni l
end
theorem eS{l:List Tr}(h:ni l):∀t∈l,dP t:=by
 induction l with
 |nil=>intro t ht;simp at ht
 |cons a l ih=>
  rw[ni]at h
  intro t ht;rcases List.mem_cons.1 ht with rfl|ht
  ·exact h.1
  ·exact ih h.2 t ht
theorem vn{l:List Tr}(h:∀t∈l,dP t):ni l:=by
 induction l with
 |nil=>rw[ni];trivial
 |cons a l ih=>rw[ni];exact⟨h a (by simp),ih λt ht=>h t (by simp[ht])⟩
theorem xD{ts:List Ty}(hw:Wf ts):∀N n,n<N→n<ts.length→dP (den ts n):=by
 intro N;induction N with
 |zero=>intro n h;omega
 |succ N ih=>
  intro n hN hn;have hg:ts[n]?=some ts[n]:=List.getElem?_eq_getElem hn;have od:=hw n _ hg;rw[qO hw hg,dP];refine⟨od.kind,by simp,λhk=>by rw[if_pos hk];rfl,λh8 h9=>by rw[if_neg (by omega)],λh7=>by rw[od.MY h7];rfl,λh9 dS=>by rw[od.PQ h9 dS];rfl,by simpa using od.lens,vn λt ht=>?_,vn λt ht=>?_,vn λt ht=>?_⟩
  ·obtain⟨f,hf,rfl⟩:=List.mem_map.1 ht;have:=od.fields f hf;exact ih _ (by omega) (by omega)
  ·obtain⟨j,hj,rfl⟩:=List.mem_map.1 ht;have:=od.list j hj;exact ih _ (by omega) (by omega)
  ·split at ht
   ·rename_i hk;simp at ht;subst ht;have:=od.of hk;exact ih _ (by omega) (by omega)
   ·simp at ht
theorem JT(k:Nat)(hk:1≤k∧k≤10)(dS:k≠10):Kb k<128:=by
 have:k=1∨k=2∨k=3∨k=4∨k=5∨k=6∨k=7∨k=8∨k=9:=by omega
 rcases this with rfl|rfl|rfl|rfl|rfl|rfl|rfl|rfl|rfl<;>decide
mutual
theorem yl:∀t,dP t→tags t<128
 | .mk k names parts list of,h=>by
  rw[dP]at h
  rw[tags];split
  ·exact tY list h.2.2.2.2.2.2.2.2.1
  ·exact JT k h.1 ‹_›
theorem tY:∀l,ni l→kA l<128
 |[],_=>by rw[kA];omega
 |t::l,h=>by
  rw[ni]at h
  rw[kA];exact Nat.or_lt_two_pow (n:=7) (yl t h.1) (tY l h.2)
end
mutual
def sz:Tr→Nat
 | .mk _ _ p l o=>1+Rr p+Rr l+Rr o
def Rr:List Tr→Nat
 |[]=>0
 |t::l=>sz t+Rr l+1
end
theorem uJ{t:Tr}:∀{l:List Tr},t∈l→sz t<Rr l
 |[],h=>by simp at h
 |a::l,h=>by
  rw[Rr];rcases List.mem_cons.1 h with rfl|h
  ·omega
  ·have:=uJ h;omega
theorem qz{t:Tr}{l:List Tr}(h:t∈l)(k:Nat)(names:List BA)(parts of:List Tr):sz t<sz (.mk k names parts l of):=by
 have:=uJ h;rw[sz];omega
theorem pX{t:Tr}{l:List Tr}(h:t∈l)(k:Nat)(names:List BA)(list of:List Tr):sz t<sz (.mk k names l list of):=by
 have:=uJ h;rw[sz];omega
theorem Oj{t:Tr}{l:List Tr}(h:t∈l)(k:Nat)(names:List BA)(parts list:List Tr):sz t<sz (.mk k names parts list l):=by
 have:=uJ h;rw[sz];omega
end Ty
namespace Ty
def br(f:Nat→Bool):Nat→Bool
 |0=>false
 |n+1=>br f n||f n
theorem bI{f:Nat→Bool}:∀{n:Nat},br f n=true↔∃j,j<n∧f j=true
 |0=>by simp[br]
 |n+1=>by
  rw[br,Bool.or_eq_true,bI];constructor
  ·rintro(⟨j,h1,h2⟩|h)
   ·exact⟨j,by omega,h2⟩
   ·exact⟨n,by omega,h⟩
  ·rintro⟨j,h1,h2⟩
   by_cases h:j=n
   ·subst h;exact .inr h2
   ·exact .inl ⟨j,by omega,h2⟩
theorem bh{f:Nat→Bool}{n:Nat}:br f n=false↔∀j,j<n→f j=false:=by
 rw[←Bool.not_eq_true,bI];constructor
 ·intro h j hj;cases hf:f j with
  |false=>rfl
  |true=>exact absurd ⟨j,hj,hf⟩ h
 ·rintro h ⟨j,hj,hf⟩
  rw[h j hj]at hf;cases hf
def part{α:Type}:List BA→List α→BA→Option α
 |n::ns,t::l,x=>if n=x then some t else part ns l x
 | _,_,_=>none
theorem pS{α:Type}{x:BA}:∀{ns:List BA}{l:List α}{t:α},part ns l x=some t→t∈l
 |[],l,t,h=>by cases h
 |n::ns,[],t,h=>by cases h
 |n::ns,a::l,t,h=>by
  rw[part]at h
  split at h
  ·cases h;simp
  ·exact List.mem_cons_of_mem _ (pS h)
def bN:Tr:=.mk 0 [] [] [] []
def kindOf:Tr→Nat| .mk k _ _ _ _=>k
def cg:Tr→List BA| .mk _ n _ _ _=>n
def partsOf:Tr→List Tr| .mk _ _ p _ _=>p
def aN:Tr→List Tr| .mk _ _ _ l _=>l
def fq:Tr→Tr| .mk _ _ _ _ o=>o.headD bN
def qJ:Nat→Tr→Tr→Bool
 |0,_,_=>false
 |n+1,a,b=>
  if kindOf a=5∨kindOf b=5∨kindOf b=6 then true
  else if kindOf a=10 then !br (λj=>!qJ n ((aN a).getD j bN) b) (aN a).length
  else if kindOf b=10 then br (λj=>qJ n a ((aN b).getD j bN)) (aN b).length
  else if kindOf a≠kindOf b then false
  else if kindOf a=7 then !br (λj=>match part (cg a) (partsOf a) ((cg b).getD j ⟨#[]⟩)with|none=>true|some t=>!qJ n t ((partsOf b).getD j bN)) (partsOf b).length
  else if kindOf a=8 then qJ n (fq a) (fq b)
  else if kindOf a=9 then decide ((aN a).length≤(aN b).length)&&!br (λj=>!(qJ n ((aN a).getD j bN) ((aN b).getD j bN)||qJ n ((aN b).getD j bN) ((aN a).getD j bN))) (aN a).length&&qJ n (fq a) (fq b)
  else true
theorem ez{f g:Nat→Bool}{n:Nat}(h:∀j,j<n→f j=g j):br f n=br g n:=by
 induction n with
 |zero=>rfl
 |succ n ih=>rw[br,br,ih (λj hj=>h j (by omega)),h n (by omega)]
theorem p_{l:List Tr}{j:Nat}(h:j<l.length):l.getD j bN∈l:=by
 rw[List.getD_eq_getElem?_getD,List.getElem?_eq_getElem h];exact gM h
theorem yZ(t:Tr):0<sz t:=by cases t;rw[sz];omega
theorem dz{a:Tr}{j:Nat}(h:j<(aN a).length):sz ((aN a).getD j bN)<sz a:=by cases a;exact qz (p_ h) _ _ _ _
theorem js{a:Tr}{j:Nat}(h:j<(partsOf a).length):sz ((partsOf a).getD j bN)<sz a:=by cases a;exact pX (p_ h) _ _ _ _
theorem qo{a t:Tr}{x:BA}(h:part (cg a) (partsOf a) x=some t):sz t<sz a:=by cases a;exact pX (pS h) _ _ _ _
theorem gh{a:Tr}(h:dP a)(hk:kindOf a=8∨kindOf a=9):sz (fq a)<sz a:=by
 cases a with
 |mk k names parts list of=>
  rw[dP]at h
  have h1:=h.2.2.1 hk;cases of with
  |nil=>simp at h1
  |cons o l=>exact Oj (t:=o) (by simp) _ _ _ _
theorem cz{a:Tr}(ha:dP a){j:Nat}(h:j<(aN a).length):dP ((aN a).getD j bN):=by
 cases a;rw[dP]at ha;exact eS ha.2.2.2.2.2.2.2.2.1 _ (p_ h)
theorem jA{a:Tr}(ha:dP a){j:Nat}(h:j<(partsOf a).length):dP ((partsOf a).getD j bN):=by
 cases a;rw[dP]at ha;exact eS ha.2.2.2.2.2.2.2.1 _ (p_ h)
theorem pW{a t:Tr}(ha:dP a){x:BA}(h:part (cg a) (partsOf a) x=some t):dP t:=by
 cases a;rw[dP]at ha;exact eS ha.2.2.2.2.2.2.2.1 _ (pS h)
theorem gd{a:Tr}(h:dP a)(hk:kindOf a=8∨kindOf a=9):dP (fq a):=by
 cases a with
 |mk k names parts list of=>
  rw[dP]at h
  have h1:=h.2.2.1 hk;cases of with
  |nil=>simp at h1
  |cons o l=>exact eS h.2.2.2.2.2.2.2.2.2 o (by simp)
theorem L5:∀n m a b,dP a→dP b→sz a+sz b<n→sz a+sz b<m→qJ n a b=qJ m a b:=by
 intro n;induction n with
 |zero=>intro m a b _ _ h;omega
 |succ n ih=>
  intro m a b ha hb h1 h2;obtain⟨m,rfl⟩:∃q,m=q+1:=⟨m-1,by omega⟩
  rw[qJ,qJ];have pa:=yZ a;have pb:=yZ b;split
  ·rfl
  ·split
   ·congr 1;exact ez λj hj=>by have:=dz hj;rw[ih m _ _ (cz ha hj) hb (by omega) (by omega)]
   ·split
    ·exact ez λj hj=>by have:=dz hj;rw[ih m _ _ ha (cz hb hj) (by omega) (by omega)]
    ·split
     ·rfl
     ·split
      ·congr 1;exact ez λj hj=>by
        have h3:=js hj;cases hp:part (cg a) (partsOf a) ((cg b).getD j ⟨#[]⟩)with
        |none=>rfl
        |some t=>have h4:=qo hp;dsimp only;rw[ih m _ _ (pW ha hp) (jA hb hj) (by omega) (by omega)]
      ·split
       ·rename_i JW;have h3:=gh ha (.inl JW);have h4:=gh hb (.inl (by omega));rw[ih m _ _ (gd ha (.inl JW)) (gd hb (.inl (by omega))) (by omega) (by omega)]
       ·split
        ·rename_i Ns;have h3:=gh ha (.inr Ns);have h4:=gh hb (.inr (by omega));rw[ih m (fq a) (fq b) (gd ha (.inr Ns)) (gd hb (.inr (by omega))) (by omega) (by omega)];by_cases hl: (aN a).length≤(aN b).length
         ·congr 3;exact ez λj hj=>by
           have h5:=dz hj;have eh:j<(aN b).length:=by omega
           have h6:=dz eh;rw[ih m _ _ (cz ha hj) (cz hb eh) (by omega) (by omega),ih m _ _ (cz hb eh) (cz ha hj) (by omega) (by omega)]
         ·simp[hl]
        ·rfl
def fits(a b:Tr):Bool:=qJ (sz a+sz b+1) a b
theorem mA{a b:Tr}(ha:dP a)(hb:dP b){n:Nat}(h:sz a+sz b<n):qJ n a b=fits a b:=L5 _ _ _ _ ha hb h (by omega)
end Ty
namespace Ty
theorem Gu{a b:Tr}(ha:dP a)(hb:dP b):fits a b=
  if kindOf a=5∨kindOf b=5∨kindOf b=6 then true
  else if kindOf a=10 then !br (λj=>!fits ((aN a).getD j bN) b) (aN a).length
  else if kindOf b=10 then br (λj=>fits a ((aN b).getD j bN)) (aN b).length
  else if kindOf a≠kindOf b then false
  else if kindOf a=7 then !br (λj=>match part (cg a) (partsOf a) ((cg b).getD j ⟨#[]⟩)with|none=>true|some t=>!fits t ((partsOf b).getD j bN)) (partsOf b).length
  else if kindOf a=8 then fits (fq a) (fq b)
  else if kindOf a=9 then decide ((aN a).length≤(aN b).length)&&!br (λj=>!(fits ((aN a).getD j bN) ((aN b).getD j bN)||fits ((aN b).getD j bN) ((aN a).getD j bN))) (aN a).length&&fits (fq a) (fq b)
  else true:=by
 have pa:=yZ a;have pb:=yZ b;conv=>lhs;rw[fits,qJ]
 split
 ·rfl
 ·split
  ·congr 1;exact ez λj hj=>by have:=dz hj;rw[mA (cz ha hj) hb (by omega)]
  ·split
   ·exact ez λj hj=>by have:=dz hj;rw[mA ha (cz hb hj) (by omega)]
   ·split
    ·rfl
    ·split
     ·congr 1;exact ez λj hj=>by
       have h3:=js hj;cases hp:part (cg a) (partsOf a) ((cg b).getD j ⟨#[]⟩)with
       |none=>rfl
       |some t=>have h4:=qo hp;dsimp only;rw[mA (pW ha hp) (jA hb hj) (by omega)]
     ·split
      ·rename_i JW;have h3:=gh ha (.inl JW);have h4:=gh hb (.inl (by omega));rw[mA (gd ha (.inl JW)) (gd hb (.inl (by omega))) (by omega)]
      ·split
       ·rename_i Ns;have h3:=gh ha (.inr Ns);have h4:=gh hb (.inr (by omega));rw[mA (gd ha (.inr Ns)) (gd hb (.inr (by omega))) (by omega)];by_cases hl: (aN a).length≤(aN b).length
        ·congr 3;exact ez λj hj=>by
          have h5:=dz hj;have eh:j<(aN b).length:=by omega
          have h6:=dz eh;rw[mA (cz ha hj) (cz hb eh) (by omega),mA (cz hb eh) (cz ha hj) (by omega)]
        ·simp[hl]
       ·rfl
end Ty
namespace Ty
def mB:Nat→Tr→Tr→Bool
 |0,_,_=>false
 |n+1,a,b=>
  decide (kindOf a=kindOf b)&&decide ((partsOf a).length=(partsOf b).length)&&decide ((aN a).length=(aN b).length)
   &&!br (λj=>!mB n ((aN a).getD j bN) ((aN b).getD j bN)) (aN a).length
   &&!br (λj=>match part (cg b) (partsOf b) ((cg a).getD j ⟨#[]⟩)with|none=>true|some t=>!mB n ((partsOf a).getD j bN) t) (partsOf a).length
   &&(!decide (kindOf a=8∨kindOf a=9)||mB n (fq a) (fq b))
def qS(al:Tr→Tr→Bool)(a b:Tr):Bool:=
  decide (kindOf a=kindOf b)&&decide ((partsOf a).length=(partsOf b).length)&&decide ((aN a).length=(aN b).length)
   &&!br (λj=>!al ((aN a).getD j bN) ((aN b).getD j bN)) (aN a).length
   &&!br (λj=>match part (cg b) (partsOf b) ((cg a).getD j ⟨#[]⟩)with|none=>true|some t=>!al ((partsOf a).getD j bN) t) (partsOf a).length
   &&(!decide (kindOf a=8∨kindOf a=9)||al (fq a) (fq b))
theorem nX(n:Nat)(a b:Tr):mB (n+1) a b=qS (mB n) a b:=by rw[mB,qS]
theorem pP{f g:Tr→Tr→Bool}{a b:Tr}(ha:dP a)(hb:dP b)(h:∀x y,dP x→dP y→sz x<sz a→sz y<sz b→f x y=g x y):qS f a b=qS g a b:=by
 unfold qS;by_cases hk:kindOf a=kindOf b
 ·by_cases hp: (partsOf a).length=(partsOf b).length
  ·by_cases hl: (aN a).length=(aN b).length
   ·have e1:br (λj=>!f ((aN a).getD j bN) ((aN b).getD j bN)) (aN a).length=br (λj=>!g ((aN a).getD j bN) ((aN b).getD j bN)) (aN a).length:=
     ez λj hj=>by rw[h _ _ (cz ha hj) (cz hb (by omega)) (dz hj) (dz (by omega))]
    have e2:br (λj=>match part (cg b) (partsOf b) ((cg a).getD j ⟨#[]⟩)with|none=>true|some t=>!f ((partsOf a).getD j bN) t) (partsOf a).length=br (λj=>match part (cg b) (partsOf b) ((cg a).getD j ⟨#[]⟩)with|none=>true|some t=>!g ((partsOf a).getD j bN) t) (partsOf a).length:=
     ez λj hj=>by
      cases hq:part (cg b) (partsOf b) ((cg a).getD j ⟨#[]⟩)with
      |none=>rfl
      |some t=>dsimp only;rw[h _ _ (jA ha hj) (pW hb hq) (js hj) (qo hq)]
    rw[e1,e2];by_cases h8:kindOf a=8∨kindOf a=9
    ·rw[h _ _ (gd ha h8) (gd hb (by omega)) (gh ha h8) (gh hb (by omega))]
    ·simp[h8]
   ·simp[hl]
  ·simp[hp]
 ·simp[hk]
theorem F2:∀n m a b,dP a→dP b→sz a+sz b<n→sz a+sz b<m→mB n a b=mB m a b:=by
 intro n;induction n with
 |zero=>intro m a b _ _ h;omega
 |succ n ih=>
  intro m a b ha hb h1 h2;obtain⟨m,rfl⟩:∃q,m=q+1:=⟨m-1,by omega⟩
  rw[nX,nX];exact pP ha hb λx y hx hy h3 h4=>ih m x y hx hy (by omega) (by omega)
def alike(a b:Tr):Bool:=mB (sz a+sz b+1) a b
theorem DA{a b:Tr}(ha:dP a)(hb:dP b):alike a b=qS alike a b:=by
 unfold alike;rw[nX];exact pP ha hb λx y hx hy h3 h4=>F2 _ _ x y hx hy (by omega) (by omega)
end Ty
namespace Ty
mutual
def put:Tr→List Ty→List Ty×Nat
 | .mk k names parts list of,l=>
  ((ct of (ct list (ct parts l).1).1).1++[⟨k,names.zip (ct parts l).2,(ct list (ct parts l).1).2,((ct of (ct list (ct parts l).1).1).2).headD 0⟩],(ct of (ct list (ct parts l).1).1).1.length)
def ct:List Tr→List Ty→List Ty×List Nat
 |[],l=>(l,[])
 |t::ts,l=>((ct ts (put t l).1).1,(put t l).2:: (ct ts (put t l).1).2)
end
theorem wA:∀(a:List Tr)(t:Tr)(l:List Ty),ct (a++[t]) l=((put t (ct a l).1).1,(ct a l).2++[(put t (ct a l).1).2])
 |[],t,l=>by simp[ct]
 |x::a,t,l=>by
  rw[List.cons_append,ct,wA a t,ct];rfl
mutual
def dw:Tr→Nat
 | .mk _ _ p l o=>bw p+bw l+bw o+1
def bw:List Tr→Nat
 |[]=>0
 |t::l=>dw t+bw l
end
theorem re:∀(a:List Tr)(t:Tr),bw (a++[t])=bw a+dw t
 |[],t=>by simp[bw]
 |x::a,t=>by rw[List.cons_append,bw,re a t,bw];omega
theorem gH:∀(a b:List Tr),bw (a++b)=bw a+bw b
 |[],b=>by simp[bw]
 |x::a,b=>by rw[List.cons_append,bw,gH a b,bw];omega
theorem Es(t:Tr):0<dw t:=by cases t;rw[dw];omega
mutual
theorem Eu:∀(t:Tr)(l:List Ty),∃m,(put t l).1=l++m∧m.length=dw t
 | .mk k names parts list of,l=>by
  obtain⟨m1,h1,k1⟩:=jG parts l;obtain⟨m2,h2,k2⟩:=jG list (ct parts l).1;obtain⟨m3,h3,k3⟩:=jG of (ct list (ct parts l).1).1;refine⟨m1++m2++m3++[⟨k,names.zip (ct parts l).2,(ct list (ct parts l).1).2,((ct of (ct list (ct parts l).1).1).2).headD 0⟩],?_,by simp[dw,k1,k2,k3];omega⟩;rw[put,h3,h2,h1];simp
theorem jG:∀(ts:List Tr)(l:List Ty),∃m,(ct ts l).1=l++m∧m.length=bw ts
 |[],l=>⟨[],by simp[ct],by simp[bw]⟩
 |t::ts,l=>by
  obtain⟨m1,h1,k1⟩:=Eu t l;obtain⟨m2,h2,k2⟩:=jG ts (put t l).1;exact⟨m1++m2,by rw[ct,h2,h1];simp,by simp[bw,k1,k2]⟩
end
theorem xC(t:Tr)(l:List Ty): (put t l).2+1=(put t l).1.length:=by
 cases t;rw[put];simp
theorem E2(t:Tr)(l:List Ty): (put t l).1.length=l.length+dw t:=by
 obtain⟨m,h,k⟩:=Eu t l;rw[h];simp[k]
theorem jr(ts:List Tr)(l:List Ty): (ct ts l).1.length=l.length+bw ts:=by
 obtain⟨m,h,k⟩:=jG ts l;rw[h];simp[k]
theorem ik:∀(ts:List Tr)(l:List Ty),(ct ts l).2.length=ts.length∧∀p∈(ct ts l).2,p<(ct ts l).1.length
 |[],l=>by simp[ct]
 |t::ts,l=>by
  obtain⟨h1,h2⟩:=ik ts (put t l).1;refine⟨by simp[ct,h1],λp hp=>?_⟩;rw[ct]at hp⊢
  rcases List.mem_cons.1 hp with rfl|hp
  ·have:=xC t l;have:=jr ts (put t l).1;dsimp only;omega
  ·exact h2 p hp
theorem NI(l m:List Ty):∀N n,n<N→n<l.length→den (l++m) n=den l n:=by
 intro N;induction N with
 |zero=>intro n h;omega
 |succ N ih=>
  intro n hN hn;conv=>lhs;rw[den]
  conv=>rhs;rw[den]
  rw[List.getElem?_append_left hn,List.getElem?_eq_getElem hn];dsimp only;congr 1
  ·exact List.map_congr_left λf _=>by
    split
    ·exact ih _ (by omega) (by omega)
    ·rfl
  ·exact List.map_congr_left λj _=>by
    split
    ·exact ih _ (by omega) (by omega)
    ·rfl
  ·split
   ·congr 1;split
    ·exact ih _ (by omega) (by omega)
    ·rfl
   ·rfl
theorem kW{l m:List Ty}{n:Nat}(h:n<l.length):den (l++m) n=den l n:=NI l m (n+1) n (by omega) h
theorem vw(l:List Ty)(t:Ty)(h1:∀f∈t.fields,f.2<l.length)(h2:∀j∈t.list,j<l.length)(h3:t.kind=8∨t.kind=9→t.of<l.length):
  den (l++[t]) l.length=.mk t.kind (t.fields.map Prod.fst) (t.fields.map λf=>den l f.2) (t.list.map (den l)) (if t.kind=8∨t.kind=9 then [den l t.of]else []):=by
 rw[den,List.getElem?_append_right (Nat.le_refl _),Nat.sub_self];dsimp only[List.getElem?_cons_zero];congr 1
 ·exact List.map_congr_left λf hf=>by rw[dif_pos (h1 f hf),kW (h1 f hf)]
 ·exact List.map_congr_left λj hj=>by rw[dif_pos (h2 j hj),kW (h2 j hj)]
 ·split
  ·rename_i hk;rw[dif_pos (h3 hk),kW (h3 hk)]
  ·rfl
theorem zip_fst:∀(a:List BA)(b:List Nat),a.length=b.length→(a.zip b).map Prod.fst=a
 |[],[],_=>rfl
 |x::a,y::b,h=>by simp[zip_fst a b (by simpa using h)]
theorem EA{α:Type}(f:Nat→α):∀(a:List BA)(b:List Nat),a.length=b.length→((a.zip b).map λp=>f p.2)=b.map f
 |[],[],_=>rfl
 |x::a,y::b,h=>by
  have:=EA f a b (by simpa using h);simp only[List.zip_cons_cons,List.map_cons,this]
mutual
theorem DV:∀(t:Tr)(l:List Ty),dP t→den (put t l).1 (put t l).2=t
 | .mk k names parts list of,l,h=>by
  rw[dP]at h
  obtain⟨_,hn,h8,Ui,_,_,_,hp,hl,ho⟩:=h;have e1:=qg parts l hp;have e2:=qg list (ct parts l).1 hl;have e3:=qg of (ct list (ct parts l).1).1 ho;obtain⟨n1,b1⟩:=ik parts l;obtain⟨n2,b2⟩:=ik list (ct parts l).1;obtain⟨n3,b3⟩:=ik of (ct list (ct parts l).1).1;have g2:=jr list (ct parts l).1;have g3:=jr of (ct list (ct parts l).1).1;obtain⟨m2,x2,_⟩:=jG list (ct parts l).1;obtain⟨m3,x3,_⟩:=jG of (ct list (ct parts l).1).1;have hz:names.length=(ct parts l).2.length:=by omega
  rw[put];dsimp only;rw[vw]
  ·dsimp only;rw[zip_fst _ _ hz,EA _ _ _ hz];congr 1
   ·refine Eq.trans (List.map_congr_left λp hp=>?_) e1;have:=b1 p hp;rw[x3,kW (by omega),x2,kW this]
   ·refine Eq.trans (List.map_congr_left λp hp=>?_) e2;rw[x3,kW (b2 p hp)]
   ·split
    ·rename_i hk;have h1:=h8 hk
     match of,h1 with
     |[o],_=>simpa [ct]using e3
    ·rename_i hk;rw[Ui (by omega) (by omega)]
  ·intro f hf;have:=b1 f.2 (List.of_mem_zip hf).2;omega
  ·intro j hj;have:=b2 j hj;omega
  ·intro hk;have h1:=h8 hk
   match of,h1 with
   |[o],_=>exact b3 _ (by simp[ct])
theorem qg:∀(ts:List Tr)(l:List Ty),ni ts→(ct ts l).2.map (den (ct ts l).1)=ts
 |[],l,_=>by simp[ct]
 |t::ts,l,h=>by
  rw[ni]at h
  have e1:=DV t l h.1;have e2:=qg ts (put t l).1 h.2;obtain⟨m,x,_⟩:=jG ts (put t l).1;have:=xC t l;rw[ct];dsimp only;rw[List.map_cons,e2,x,kW (by omega),e1]
end
mutual
def iW:Tr→Prop
 | .mk k _ parts list of=>(k=10→2≤list.length)∧gZ parts∧gZ list∧gZ of
def gZ:List Tr→Prop
 |[]=>True
 |t::l=>iW t∧gZ l
end
theorem tG{l:List Tr}(h:∀t∈l,iW t):gZ l:=by
 induction l with
 |nil=>rw[gZ];trivial
 |cons a l ih=>rw[gZ];exact⟨h a (by simp),ih λt ht=>h t (by simp[ht])⟩
theorem nO{l:List Tr}(h:gZ l):∀t∈l,iW t:=by
 induction l with
 |nil=>intro t ht;simp at ht
 |cons a l ih=>
  rw[gZ]at h
  intro t ht;rcases List.mem_cons.1 ht with rfl|ht
  ·exact h.1
  ·exact ih h.2 t ht
theorem Mu{ts:List Ty}(hw:Wf ts):∀N n,n<N→n<ts.length→iW (den ts n):=by
 intro N;induction N with
 |zero=>intro n h;omega
 |succ N ih=>
  intro n hN hn;have hg:ts[n]?=some ts[n]:=List.getElem?_eq_getElem hn;have od:=hw n _ hg;rw[qO hw hg,iW];refine⟨λhk=>by simpa using od.tJ hk,tG λt ht=>?_,tG λt ht=>?_,tG λt ht=>?_⟩
  ·obtain⟨f,hf,rfl⟩:=List.mem_map.1 ht;have:=od.fields f hf;exact ih _ (by omega) (by omega)
  ·obtain⟨j,hj,rfl⟩:=List.mem_map.1 ht;have:=od.list j hj;exact ih _ (by omega) (by omega)
  ·split at ht
   ·rename_i hk;simp at ht;subst ht;have:=od.of hk;exact ih _ (by omega) (by omega)
   ·simp at ht
mutual
theorem K9:∀(t:Tr)(l:List Ty),dP t→iW t→Wf l→Wf (put t l).1
 | .mk k names parts list of,l,h,hu,hw=>by
  rw[dP]at h
  rw[iW]at hu
  obtain⟨hk,hn,h8,Ui,h7,SH,hlen,hp,hl,ho⟩:=h;have w1:=tH parts l hp hu.2.1 hw;have w2:=tH list _ hl hu.2.2.1 w1;have w3:=tH of _ ho hu.2.2.2 w2;obtain⟨n1,b1⟩:=ik parts l;obtain⟨n2,b2⟩:=ik list (ct parts l).1;obtain⟨n3,b3⟩:=ik of (ct list (ct parts l).1).1;have g2:=jr list (ct parts l).1;have g3:=jr of (ct list (ct parts l).1).1;rw[put];refine w3.snoc ⟨λf hf=>?_,λj hj=>?_,λJW=>?_,hk,λh=>?_,λh9 dS=>?_,λYI h9=>?_,λdS=>?_,?_⟩
  ·have:=b1 f.2 (List.of_mem_zip hf).2;omega
  ·have:=b2 j hj;omega
  ·have h1:=h8 JW
   match of,h1 with
   |[o],_=>exact b3 _ (by simp[ct])
  ·dsimp only at h⊢;rw[h7 h];simp[ct]
  ·dsimp only at h9 dS⊢;rw[SH h9 dS];simp[ct]
  ·dsimp only at YI h9⊢;rw[Ui YI h9];simp[ct]
  ·dsimp only at dS⊢;have:=hu.1 dS;omega
  ·dsimp only;rw[List.length_zip];omega
theorem tH:∀(ts:List Tr)(l:List Ty),ni ts→gZ ts→Wf l→Wf (ct ts l).1
 |[],l,_,_,hw=>by rw[ct];exact hw
 |t::ts,l,h,hu,hw=>by
  rw[ni]at h
  rw[gZ]at hu
  rw[ct];exact tH ts _ h.2 hu.2 (K9 t l h.1 hu.1 hw)
end
end Ty
section
namespace Ty
open Tok (Tk)
def Ext(a b:List Ty):Prop:=∃e,b=a++e
theorem Ext.refl(a:List Ty):Ext a a:=⟨[],by simp⟩
theorem Ext.trans{a b c:List Ty}(h:Ext a b)(k:Ext b c):Ext a c:=by
 obtain⟨e,rfl⟩:=h;obtain⟨f,rfl⟩:=k;exact⟨e++f,by simp⟩
theorem Ext.len{a b:List Ty}(h:Ext a b):a.length≤b.length:=by obtain⟨e,rfl⟩:=h;simp
theorem Ext.den{a b:List Ty}(h:Ext a b){n:Nat}(hn:n<a.length):Ty.den b n=Ty.den a n:=by obtain⟨e,rfl⟩:=h;exact kW hn
theorem Ext.NR{a b:List Ty}(h:Ext a b){l:List Nat}(hl:D8 l a):l.map (Ty.den b)=l.map (Ty.den a):=List.map_congr_left λj hj=>h.den (hl j hj)
def Grow(m:M Nat):Prop:=∀s a s',Wf s.ts→m s=.ok (a,s')→Ext s.ts s'.ts∧s.ts.length+dw (den s'.ts a)≤s'.ts.length∧a+1=s'.ts.length
def rp(l:List Nat)(ts:List Ty):Prop:=∀n,l.getLast?=some n→n+1=ts.length
theorem rp.nil(ts:List Ty):rp [] ts:=λn h=>by simp at h
theorem rp.snoc{l:List Nat}{n:Nat}{ts:List Ty}(h:n+1=ts.length):rp (l++[n]) ts:=λm hm=>by simp at hm;subst hm;exact h
theorem jX{t:Ty}{s s':St}{n:Nat}(ht:WfAt s.ts.length t)(h:aZ t s=.ok (n,s')):Ext s.ts s'.ts∧s'.ts.length=s.ts.length+1∧dw (den s'.ts n)=bw (t.fields.map λf=>den s.ts f.2)+bw (t.list.map (den s.ts))+bw (if t.kind=8∨t.kind=9 then [den s.ts t.of]else [])+1∧n+1=s'.ts.length:=by
 cases h;refine⟨⟨_,rfl⟩,by simp,?_,by simp⟩;dsimp only;rw[vw _ _ ht.fields ht.list ht.of,dw]
theorem wI{ad:List Tk}{x:List UInt8}{T:M Nat}(hT:oT T we)(hG:Grow T):∀f l s l' s',Wf s.ts→D8 l s.ts→rp l s.ts→list ad x (λ_=>T) f l s=.ok (l',s')→Ext s.ts s'.ts∧s.ts.length+bw (l'.map (den s'.ts))≤s'.ts.length+bw (l.map (den s.ts))∧rp l' s'.ts
 |0,l,s,l',s',_,_,_,h=>by cases h
 |f+1,l,s,l',s',hw,hl,mS,h=>by
  obtain⟨b,s1,e1,e2⟩:=au h;have t1:=eF _ _ e1;cases b
  ·simp only[Bool.false_eq_true,if_false]at e2;obtain⟨u,s2,e3,e4⟩:=au e2;have t2:s2.ts=s1.ts:=by
    split at e3
    ·cases e3;rfl
    ·exact fF _ _ e3
   obtain⟨n,s3,e5,e6⟩:=au e4;rw[t1]at t2
   obtain⟨h1,h2,h3⟩:=hT _ _ _ (by rw[t2];exact hw) e5;obtain⟨k1,k2,k3⟩:=hG _ _ _ (by rw[t2];exact hw) e5;rw[t2]at h2 k1 k2
   have vu:D8 l s3.ts:=λj hj=>by have:=hl j hj;omega
   obtain⟨g1,g2,g3⟩:=wI hT hG f (l++[n]) s3 l' s' h1 (λj hj=>by
    rw[List.mem_append]at hj
    rcases hj with hj|hj
    ·exact vu j hj
    ·simp at hj;subst hj;exact h3) (rp.snoc k3) e6
   rw[List.map_append,gH,k1.NR hl]at g2
   simp only[List.map_cons,List.map_nil,bw]at g2;exact⟨k1.trans g1,by omega,g3⟩
  ·simp only[if_true]at e2;cases e2;rw[t1];exact⟨Ext.refl _,by omega,mS⟩
theorem sD{ad:List Tk}{T:M Nat}(hT:oT T we)(hG:Grow T):∀f l s l' s',Wf s.ts→D8 (l.map Prod.snd) s.ts→fields ad T f l s=.ok (l',s')→Ext s.ts s'.ts∧s.ts.length+bw ((l'.map Prod.snd).map (den s'.ts))≤s'.ts.length+bw ((l.map Prod.snd).map (den s.ts))
 |0,l,s,l',s',_,_,h=>by cases h
 |f+1,l,s,l',s',hw,hl,h=>by
  obtain⟨b,s1,e1,e2⟩:=au h;have t1:=eF _ _ e1;cases b
  ·simp only[Bool.false_eq_true,if_false]at e2;obtain⟨x,s2,e3,e4⟩:=au e2;have t2:=rC _ _ e3;obtain⟨u,s3,e5,e6⟩:=au e4;have t3:=fF _ _ e5;obtain⟨n,s4,e7,e8⟩:=au e6;obtain⟨u,s5,e9,r9⟩:=au e8;have t5:=fF _ _ e9;have t:s3.ts=s.ts:=by rw[t3,t2,t1]
   obtain⟨h1,h2,h3⟩:=hT _ _ _ (by rw[t];exact hw) e7;obtain⟨k1,k2,_⟩:=hG _ _ _ (by rw[t];exact hw) e7;rw[t]at h2 k1 k2
   rw[←t5]at h1 h2 h3 k1 k2
   have vu:D8 (l.map Prod.snd) s5.ts:=λj hj=>by have:=hl j hj;omega
   obtain⟨g1,g2⟩:=sD hT hG f (l++[(x,n)]) s5 l' s' h1 (λj hj=>by
    rw[List.map_append,List.mem_append]at hj
    rcases hj with hj|hj
    ·exact vu j hj
    ·simp at hj;subst hj;exact h3) r9
   rw[List.map_append,List.map_append,gH,k1.NR hl]at g2
   simp only[List.map_cons,List.map_nil,bw]at g2;exact⟨k1.trans g1,by omega⟩
  ·simp only[if_true]at e2;cases e2;rw[t1];exact⟨Ext.refl _,by omega⟩
theorem zM{ad:List Tk}(hL:ad.length≤1001){T:M Nat}(hT:oT T we)(hG:Grow T):Grow (single ad T):=λs n s' hw h=>by
 unfold single at h;split at h
 ·rename_i hk;obtain⟨u,s1,e1,e2⟩:=au h;cases e1;cases e2;refine⟨⟨_,rfl⟩,?_,by simp⟩;have h8:¬(bS (cur ad s.pos).text=8∨bS (cur ad s.pos).text=9):=by
   have:bS (cur ad s.pos).text≤6:=by
    unfold bS;split
    ·rename_i i hi;obtain⟨h1,_⟩:=List.idxOf?_eq_some_iff.1 hi;simp[xE]at h1;omega
    ·omega
   omega
  dsimp only;rw[vw _ _ (λf hf=>by simp at hf) (λj hj=>by simp at hj) (λh=>absurd h h8),dw];dsimp only;rw[if_neg h8];simp[bw]
 ·obtain⟨b,s1,e1,e2⟩:=au h;have t1:=eF _ _ e1;rw[←t1]at hw
  suffices H:Ext s1.ts s'.ts∧s1.ts.length+dw (den s'.ts n)≤s'.ts.length∧n+1=s'.ts.length by rw[t1]at H;exact H
  cases b
  ·simp only[Bool.false_eq_true,if_false]at e2;obtain⟨b,s2,e3,e4⟩:=au e2;have t2:=eF _ _ e3;rw[←t2]at hw
   rw[←t2];cases b
   ·simp only[Bool.false_eq_true,if_false]at e4;obtain⟨u,s3,e5,e6⟩:=au e4;have t3:=fF _ _ e5;rw[←t3]at hw
    rw[←t3];obtain⟨l,s4,e7,e8⟩:=au e6;obtain⟨h1,h2,h3⟩:=q9 hT _ _ _ _ _ hw (λj hj=>by simp at hj) e7;obtain⟨k1,k2,kl⟩:=wI hT hG _ _ _ _ _ hw (λj hj=>by simp at hj) (rp.nil _) e7;obtain⟨b,s5,e9,r9⟩:=au e8;have t5:=eF _ _ e9;rw[←t5]at h1 h2 h3 k1 k2 kl
    simp only[List.map_nil,bw]at k2;cases b
    ·simp only[Bool.false_eq_true,if_false]at r9;split at r9
     ·rename_i hl;cases r9;obtain⟨n,rfl⟩:=List.length_eq_one_iff.1 hl;simp only[List.map_cons,List.map_nil,bw]at k2;exact⟨k1,by simp;omega,kl _ rfl⟩
     ·cases r9
    ·simp only[if_true]at r9;obtain⟨m,s6,Mk,OH⟩:=au r9;obtain⟨g1,g2,g3⟩:=hT _ _ _ h1 Mk;obtain⟨j1,j2,_⟩:=hG _ _ _ h1 Mk;have Lx:D8 l s6.ts:=λj hj=>by have:=h3 j hj;omega
     obtain⟨i1,i2,i3,i4⟩:=jX (s:=s6) ⟨λf hf=>by simp at hf,λj hj=>Lx j hj,λ_=>(show m< _ from g3),⟨by simp,by simp⟩,λ_=>rfl,λh=>absurd rfl h,λ_ h=>absurd rfl h,λh=>(by cases h),⟨by simp,by have:=rQ _ _ _ _ _ e7;simp at this;dsimp only;omega⟩⟩ OH;refine⟨(k1.trans j1).trans i1,?_,i4⟩;dsimp only at i3;rw[j1.NR h3]at i3
     simp[bw]at i3
     omega
   ·simp only[if_true]at e4;obtain⟨m,s3,e5,e6⟩:=au e4;obtain⟨g1,g2,g3⟩:=hT _ _ _ hw e5;obtain⟨j1,j2,_⟩:=hG _ _ _ hw e5;obtain⟨u,s4,e7,e8⟩:=au e6;have t4:=fF _ _ e7;rw[←t4]at g1 g2 g3 j1 j2
    obtain⟨i1,i2,i3,i4⟩:=jX (s:=s4) ⟨λf hf=>by simp at hf,λj hj=>by simp at hj,λ_=>(show m< _ from g3),⟨by simp,by simp⟩,λ_=>rfl,λ_ _=>rfl,λh=>absurd rfl h,λh=>(by cases h),⟨by simp,by simp⟩⟩ e8;simp[bw]at i3
    exact⟨j1.trans i1,by omega,i4⟩
  ·simp only[if_true]at e2;unfold object at e2;obtain⟨l,s2,e3,e4⟩:=au e2;obtain⟨h1,h2,h3⟩:=nQ hT _ _ _ _ _ hw (λj hj=>by simp at hj) e3;obtain⟨k1,k2⟩:=sD hT hG _ _ _ _ _ hw (λj hj=>by simp at hj) e3;simp only[List.map_nil,bw]at k2;obtain⟨i1,i2,i3,i4⟩:=jX (s:=s2) ⟨λf hf=>h3 _ (List.mem_map_of_mem hf),λj hj=>by simp at hj,λh=>by dsimp only at h;omega,⟨by simp,by simp⟩,λh=>absurd rfl h,λ_ _=>rfl,λ_ _=>rfl,λh=>(by cases h),⟨by have:=nC _ _ _ _ _ e3;simp at this;dsimp only;omega,by simp⟩⟩ e4;have e5: (l.map λf=>den s2.ts f.2)=(l.map Prod.snd).map (den s2.ts):=by rw[List.map_map];rfl
   simp[bw,e5]at i3
   simp at k2;exact⟨k1.trans i1,by omega,i4⟩
theorem xt{ad:List Tk}{S:M Nat}(hS:oT S we)(hG:Grow S):∀f l s l' s',Wf s.ts→D8 l s.ts→rp l s.ts→bars ad S f l s=.ok (l',s')→Ext s.ts s'.ts∧s.ts.length+bw (l'.map (den s'.ts))≤s'.ts.length+bw (l.map (den s.ts))∧rp l' s'.ts
 |0,l,s,l',s',_,_,_,h=>by cases h
 |f+1,l,s,l',s',hw,hl,mS,h=>by
  obtain⟨b,s1,e1,e2⟩:=au h;have t1:=eF _ _ e1;cases b
  ·simp only[Bool.false_eq_true,if_false]at e2;cases e2;rw[t1];exact⟨Ext.refl _,by omega,mS⟩
  ·simp only[if_true]at e2;obtain⟨n,s2,e3,e4⟩:=au e2;obtain⟨h1,h2,h3⟩:=hS _ _ _ (by rw[t1];exact hw) e3;obtain⟨k1,k2,k3⟩:=hG _ _ _ (by rw[t1];exact hw) e3;rw[t1]at h2 k1 k2
   have vu:D8 l s2.ts:=λj hj=>by have:=hl j hj;omega
   obtain⟨g1,g2,g3⟩:=xt hS hG f (l++[n]) s2 l' s' h1 (λj hj=>by
    rw[List.mem_append]at hj
    rcases hj with hj|hj
    ·exact vu j hj
    ·simp at hj;subst hj;exact h3) (rp.snoc k3) e4
   rw[List.map_append,gH,k1.NR hl]at g2
   simp only[List.map_cons,List.map_nil,bw]at g2;exact⟨k1.trans g1,by omega,g3⟩
theorem Db{ad:List Tk}(hL:ad.length≤1001){S:M Nat}(hS:oT S we)(hG:Grow S):Grow (union ad S):=λs n s' hw h=>by
 obtain⟨m,s1,e1,e2⟩:=au h;obtain⟨h1,h2,h3⟩:=hS _ _ _ hw e1;obtain⟨k1,k2,k3⟩:=hG _ _ _ hw e1;obtain⟨l,s2,e3,e4⟩:=au e2;obtain⟨g1,g2,g3,g4⟩:=rB hS _ _ _ _ _ h1 (λj hj=>by simp at hj;subst hj;exact h3) e3;obtain⟨j1,j2,j3⟩:=xt hS hG _ _ _ _ _ h1 (λj hj=>by simp at hj;subst hj;exact h3) (show rp [m] s1.ts from rp.snoc (l:=[]) k3) e3;simp only[List.length_cons,List.length_nil]at g4;simp only[List.map_cons,List.map_nil,bw]at j2;split at e4
 ·rename_i hl;cases e4;obtain⟨n,rfl⟩:=List.length_eq_one_iff.1 hl;simp only[List.map_cons,List.map_nil,bw]at j2;exact⟨k1.trans j1,by simp;omega,j3 _ rfl⟩
 ·obtain⟨i1,i2,i3,i4⟩:=jX (s:=s2) ⟨λf hf=>by simp at hf,λj hj=>g3 j hj,λh=>by dsimp only at h;omega,⟨by simp,by simp⟩,λ_=>rfl,λ_ h=>absurd rfl h,λ_ _=>rfl,λ_=>(by dsimp only;omega),⟨by simp,by have:=rW _ _ _ _ _ e3;simp at this;dsimp only;omega⟩⟩ e4;simp[bw]at i3
  exact⟨(k1.trans j1).trans i1,by omega,i4⟩
theorem zB(ad:List Tk)(hL:ad.length≤1001):∀r,Grow (sy ad r)
 |0=>λs a s' _ h=>by cases h
 |r+1=>Db hL (rY hL (qF ad hL r)) (zM hL (qF ad hL r) (zB ad hL r))
end Ty
end
section
namespace Ty
mutual
def eP:Tr→List Tr
 | .mk k n p l o=>if k=10 then bQ l else [.mk k n p l o]
def bQ:List Tr→List Tr
 |[]=>[]
 |t::l=>eP t++bQ l
end
theorem mz:∀(a b:List Tr),bQ (a++b)=bQ a++bQ b
 |[],b=>by simp[bQ]
 |t::a,b=>by rw[List.cons_append,bQ,mz a b,bQ,List.append_assoc]
theorem vp(a:List Tr)(t:Tr):bQ (a++[t])=bQ a++eP t:=by
 rw[mz];simp[bQ]
mutual
theorem rT:∀t:Tr,(eP t).length≤dw t
 | .mk k n p l o=>by
  rw[eP,dw];split
  ·have:=j8 l;omega
  ·simp
theorem j8:∀l:List Tr,(bQ l).length≤bw l
 |[]=>by simp[bQ,bw]
 |t::l=>by
  have:=rT t;have:=j8 l;rw[bQ,bw,List.length_append];omega
end
mutual
theorem wN:∀t:Tr,iW t→0<(eP t).length
 | .mk k n p l o,h=>by
  rw[iW]at h
  rw[eP];split
  ·rename_i hk;have h2:=h.1 hk
   match l,h2,h.2.2.1 with
   |t::l,_,h3=>
    rw[gZ]at h3
    have:=wN t h3.1;rw[bQ,List.length_append];omega
  ·simp
end
mutual
theorem Ad:∀t:Tr,dP t→∀x∈eP t,dP x∧kindOf x≠10
 | .mk k n p l o,h,x,hx=>by
  rw[eP]at hx
  split at hx
  ·rw[dP]at h
   exact qj l h.2.2.2.2.2.2.2.2.1 x hx
  ·simp at hx;subst hx;exact⟨h,by simpa [kindOf]⟩
theorem qj:∀l:List Tr,ni l→∀x∈bQ l,dP x∧kindOf x≠10
 |[],_,x,hx=>by simp[bQ]at hx
 |t::l,h,x,hx=>by
  rw[ni]at h
  rw[bQ,List.mem_append]at hx
  rcases hx with hx|hx
  ·exact Ad t h.1 x hx
  ·exact qj l h.2 x hx
end
mutual
theorem F3:∀t:Tr,iW t→∀x∈eP t,iW x
 | .mk k n p l o,h,x,hx=>by
  rw[eP]at hx
  split at hx
  ·rw[iW]at h
   exact rv l h.2.2.1 x hx
  ·simp at hx;subst hx;exact h
theorem rv:∀l:List Tr,gZ l→∀x∈bQ l,iW x
 |[],_,x,hx=>by simp[bQ]at hx
 |t::l,h,x,hx=>by
  rw[gZ]at h
  rw[bQ,List.mem_append]at hx
  rcases hx with hx|hx
  ·exact F3 t h.1 x hx
  ·exact rv l h.2 x hx
end
def jF(out:List Tr)(x:Tr):List Tr:=if br (λj=>alike x (out.getD j bN)) out.length then out else out++[x]
def dB(l:List Tr):List Tr:=l.foldl jF []
def C_:Tr:=.mk 5 [] [] [] []
def o0(l:List Tr):Tr:=
 if(dB (bQ l)).length=0∨br (λj=>decide (kindOf ((dB (bQ l)).getD j bN)=5)) (dB (bQ l)).length=true then C_
 else if(dB (bQ l)).length=1 then(dB (bQ l)).getD 0 bN
 else .mk 10 [] [] (dB (bQ l)) []
theorem Aj(l:List Tr)(x:Tr):dB (l++[x])=jF (dB l) x:=by unfold dB;rw[List.foldl_append];rfl
theorem Js(out:List Tr)(x:Tr): (jF out x).length≤out.length+1:=by
 unfold jF;split<;>simp
theorem pF(l:List Tr): (dB l).length≤l.length:=by
 have h:∀(l:List Tr)(o:List Tr),(l.foldl jF o).length≤o.length+l.length:=by
  intro l;induction l with
  |nil=>intro o;simp
  |cons x l ih=>intro o;have:=ih (jF o x);have:=Js o x;simp at*;omega
 have:=h l [];rw[List.length_nil,Nat.zero_add]at this
 exact this
theorem uO(l:List Tr):∀x∈dB l,x∈l:=by
 have h:∀(l:List Tr)(o:List Tr),∀x∈l.foldl jF o,x∈o∨x∈l:=by
  intro l;induction l with
  |nil=>intro o x hx;exact .inl hx
  |cons y l ih=>
   intro o x hx;rcases ih (jF o y) x hx with h|h
   ·unfold jF at h;split at h
    ·exact .inl h
    ·rw[List.mem_append]at h
     rcases h with h|h
     ·exact .inl h
     ·simp at h;subst h;exact .inr (by simp)
   ·exact .inr (by simp[h])
 intro x hx;rcases h l [] x hx with h|h
 ·simp at h
 ·exact h
end Ty
open Ty (Tr)
theorem me(l:List Tr)(k:Nat)(h:k<l.length):bw (l.take k)+dw l[k]≤bw l:=by
 conv=>rhs;rw[←List.take_append_drop k l,gH]
 rw[List.drop_eq_getElem_cons h,bw];omega
end
namespace Ty
def gY(sep:List UInt8):List (List UInt8)→List UInt8
 |[]=>[]
 |[x]=>x
 |x::y::l=>x++sep++gY sep (y::l)
def brk(n i k:Nat)(s:List UInt8):List UInt8:=if k=10∨k=9∧i+1<n then 40:: (s++[41])else s
def CJ(ks:List Nat)(ts:List (List UInt8)):List (List UInt8):=(List.range ts.length).map λi=>brk ts.length i (ks.getD i 0) (ts.getD i [])
def mI(n:BA)(t:List UInt8):List UInt8:=32:: (n.data.toList++[58,32]++t++[59])
def fg:List BA→List (List UInt8)→List UInt8
 |n::ns,t::ts=>mI n t++fg ns ts
 | _,_=>[]
def N4(k:Nat):List UInt8:=[[],[110,117,109],[98,111,111,108],[116,101,120,116],[110,117,108,108],[97,110,121],[117,110,107,110,111,119,110]].getD k []
mutual
def text:Tr→List UInt8
 | .mk k names parts list of=>
  if k=7 then [123]++fg names (texts parts)++(if parts.length>0 then [32]else [])++[125]
  else if k=8 then [91]++(texts of).headD []++[93]
  else if k=9 then [40]++gY [44,32] (texts list)++[41,32,61,62,32]++(texts of).headD []
  else if k=10 then gY [32,124,32] (CJ (list.map kindOf) (texts list))
  else N4 k
def texts:List Tr→List (List UInt8)
 |[]=>[]
 |t::l=>text t::texts l
end
theorem ic:∀l:List Tr,texts l=l.map text
 |[]=>by rw[texts];rfl
 |t::l=>by rw[texts,ic l];rfl
theorem qk:∀(ns:List BA)(ts:List (List UInt8))(n:BA)(t:List UInt8),ns.length=ts.length→fg (ns++[n]) (ts++[t])=fg ns ts++mI n t
 |[],[],n,t,_=>by simp[fg]
 |a::ns,b::ts,n,t,h=>by
  have:=qk ns ts n t (by simpa using h);simp only[List.cons_append,fg,this,List.append_assoc]
mutual
def dH:Tr→Prop
 | .mk _ names parts list of=>(∀n∈names,n.size≤20)∧c_ parts∧c_ list∧c_ of
def c_:List Tr→Prop
 |[]=>True
 |t::l=>dH t∧c_ l
end
theorem jf{l:List Tr}(h:c_ l):∀t∈l,dH t:=by
 induction l with
 |nil=>intro t ht;simp at ht
 |cons a l ih=>
  rw[c_]at h
  intro t ht;rcases List.mem_cons.1 ht with rfl|ht
  ·exact h.1
  ·exact ih h.2 t ht
theorem Hb{l:List Tr}(h:∀t∈l,dH t):c_ l:=by
 induction l with
 |nil=>rw[c_];trivial
 |cons a l ih=>rw[c_];exact⟨h a (by simp),ih λt ht=>h t (by simp[ht])⟩
def gv(l:List (List UInt8)):Nat:=(l.map List.length).foldr (· + ·) 0
theorem oz(sep:List UInt8):∀l:List (List UInt8),(gY sep l).length≤gv l+sep.length*l.length
 |[]=>by simp[gY]
 |[x]=>by simp[gY,gv]
 |x::y::l=>by
  have:=oz sep (y::l);simp only[gY,List.length_append,List.length_cons,gv,List.map_cons,List.foldr_cons]at this⊢;rw[Nat.mul_add sep.length (l.length+1) 1];omega
theorem sA:∀(ns:List BA)(ts:List (List UInt8)),(∀n∈ns,n.size≤20)→(fg ns ts).length≤gv ts+24*ts.length
 |[],ts,_=>by simp[fg]
 |n::ns,[],_=>by simp[fg,gv]
 |n::ns,t::ts,h=>by
  have h1:=sA ns ts (λm hm=>h m (by simp[hm]));have h2:n.data.toList.length≤20:=by have:=h n (by simp);simpa using this
  simp only[fg,mI,lzA,lzC,lzN,gv,List.map_cons,List.foldr_cons]at h1⊢;omega
theorem Jy(ks:List Nat)(ts:List (List UInt8)): (CJ ks ts).length=ts.length∧gv (CJ ks ts)≤gv ts+2*ts.length:=by
 refine⟨by simp[CJ],?_⟩;have key:∀(l:List Nat)(f g:Nat→List UInt8),(∀i,(f i).length≤(g i).length+2)→gv (l.map f)≤gv (l.map g)+2*l.length:=by
  intro l f g h;induction l with
  |nil=>simp[gv]
  |cons a l ih=>
   have:=h a;simp only[gv,List.map_cons,List.foldr_cons,List.length_cons]at ih⊢;omega
 have h:=key (List.range ts.length) (λi=>brk ts.length i (ks.getD i 0) (ts.getD i [])) (λi=>ts.getD i []) (λi=>by unfold brk;split<;>simp<;>omega);have e: (List.range ts.length).map (λi=>ts.getD i [])=ts:=by
  apply List.ext_getElem
  ·simp
  ·intro i h1 h2;simp at h1⊢;rw[List.getElem?_eq_getElem h1];rfl
 rw[e,List.length_range]at h
 exact h
mutual
theorem qA:∀t:Tr,dP t→dH t→(text t).length+24≤40*dw t
 | .mk k names parts list of,h,hs=>by
  rw[dP]at h
  rw[dH]at hs
  obtain⟨hk,hn,h8,Ui,h7,SH,hlen,hp,hl,ho⟩:=h;have a1:=oC parts hp hs.2.1;have a2:=oC list hl hs.2.2.1;have a3:=oC of ho hs.2.2.2;have e1: (texts parts).length=parts.length:=by rw[ic];simp
  have e2: (texts list).length=list.length:=by rw[ic];simp
  have Lm: ((texts of).headD []).length≤gv (texts of):=by
   cases of with
   |nil=>simp[texts]
   |cons o l=>simp only[texts,List.headD_cons,gv,List.map_cons,List.foldr_cons];omega
  rw[dw,text];split
  ·have:=sA names (texts parts) hs.1;simp only[lzA,lzC,lzN];split<;>simp<;>omega
  ·split
   ·simp only[lzA,lzC,lzN];omega
   ·split
    ·have:=oz [44,32] (texts list);simp only[lzA,lzC,lzN]at this⊢;omega
    ·split
     ·have:=oz [32,124,32] (CJ (list.map kindOf) (texts list));obtain⟨b1,b2⟩:=Jy (list.map kindOf) (texts list);simp only[List.length_cons,List.length_nil]at this⊢;omega
     ·have hw: (N4 k).length≤7:=by
       have:k=1∨k=2∨k=3∨k=4∨k=5∨k=6:=by omega
       rcases this with rfl|rfl|rfl|rfl|rfl|rfl<;>decide
      omega
theorem oC:∀l:List Tr,ni l→c_ l→gv (texts l)+24*l.length≤40*bw l
 |[],_,_=>by simp[texts,gv]
 |t::l,h,hs=>by
  rw[ni]at h
  rw[c_]at hs
  have h1:=qA t h.1 hs.1;have h2:=oC l h.2 hs.2;rw[texts,bw];simp only[gv,List.map_cons,List.foldr_cons,List.length_cons]at h2⊢;omega
end
end Ty
section
namespace Ty
open Tok (Tk)
structure NameOk(x:BA):Prop where
 size:x.size≤20
 head:∃c l,x.data.toList=c::l∧fi c=true∧∀d∈l,dV d=true
 word:Tok.isWord x=false
theorem jm{α:Type}(p:α→Bool):∀(l:List α),∀d∈l.takeWhile p,p d=true
 |[],d,h=>by simp at h
 |a::l,d,h=>by
  rw[List.takeWhile_cons]at h
  split at h
  ·rcases List.mem_cons.1 h with rfl|h
   ·assumption
   ·exact jm p l d h
  ·simp at h
theorem jV(p:UInt8→Bool)(s:BA)(k:Nat)(_:k≤s.size): (s.extract k (Tok.stop p s k)).data.toList=(s.data.toList.drop k).takeWhile p:=by
 simp only[ByteArray.data_extract,Array.toList_extract,List.extract_eq_take_drop,Tok.stop];rw[Nat.add_sub_cancel_left];exact(List.prefix_iff_eq_take.1 (List.takeWhile_prefix p)).symm
theorem Hg(s:BA)(k:Nat)(h:k<s.size)(aF: (Tok.next s k).2.2=true)(hk: (Tok.next s k).1.kind=1):NameOk (Tok.next s k).1.text:=by
 unfold Tok.next at aF hk⊢;by_cases hl:fi (Tok.byte s k)=true
 ·simp only[hl,if_true]at aF hk⊢;have g_:=gg dV s k;have hle:=ji dV s k (by omega);refine⟨?_,?_,?_⟩
  ·have:=of_decide_eq_true aF;simp only[ByteArray.size_extract];omega
  ·rw[jV _ _ _ (by omega),Tok.drop_cons s k h,List.takeWhile_cons,if_pos (by rw[←ep];simp[dV,hl])];exact⟨_,_,rfl,by rw[←ep];exact hl,jm _ _⟩
  ·split at hk
   ·cases hk
   ·rename_i h2;simpa using h2
 ·simp only[hl,if_false,Bool.false_eq_true]at hk;split at hk
  ·cases hk
  ·split at hk
   ·cases hk
   ·split at hk<;>cases hk
structure NmT(l:List (BA×Nat)):Prop where
 ok:∀f∈l,NameOk f.1
 nodup: (l.map Prod.fst).Nodup
theorem NmT.nil:NmT []:=⟨λf h=>by simp at h,by simp⟩
def Nm(ts:List Ty):Prop:=∀t∈ts,NmT t.fields
theorem Nm.nil:Nm []:=λt h=>by simp at h
def NK{α:Type}(m:M α)(P:α→Prop):Prop:=∀s a s',Nm s.ts→m s=.ok (a,s')→Nm s'.ts∧P a
theorem NK.ar{α β:Type}{m:M α}{k:α→M β}{P:α→Prop}{Q:β→Prop}(h:NK m P)(g:∀a,P a→NK (k a) Q):NK (Ty.ar m k) Q:=λs b s' hn e=>by
 obtain⟨a,s1,e1,e2⟩:=au e;obtain⟨h1,h2⟩:=h _ _ _ hn e1;exact g a h2 _ _ _ h1 e2
theorem NK.ret{α:Type}(a:α){P:α→Prop}(h:P a):NK (ret a) P:=λs b s' hn e=>by cases e;exact⟨hn,h⟩
theorem NK.fail{α:Type}(ad:List Tk)(n:Nat)(P:α→Prop):NK (fail (α:=α) ad n) P:=λs b s' _ e=>by cases e
theorem NK.step:NK step λ_=>True:=λs b s' hn e=>by cases e;exact⟨hn,trivial⟩
theorem NK.take(ad:List Tk)(x:List UInt8):NK (take ad x) λ_=>True:=λs b s' hn e=>⟨by rw[eF _ _ e];exact hn,trivial⟩
theorem NK.need(ad:List Tk)(x:List UInt8):NK (need ad x) λ_=>True:=λs b s' hn e=>⟨by rw[fF _ _ e];exact hn,trivial⟩
theorem NK.aZ(t:Ty)(h:NmT t.fields):NK (aZ t) λ_=>True:=λs b s' hn e=>by
 cases e;refine⟨λu hu=>?_,trivial⟩;rw[List.mem_append]at hu
 rcases hu with hu|hu
 ·exact hn u hu
 ·simp at hu;subst hu;exact h
theorem NK.ite{α:Type}{p:Prop} [Decidable p]{m n:M α}{P:α→Prop}(h:NK m P)(g:NK n P):NK (if p then m else n) P:=by
 split
 ·exact h
 ·exact g
theorem NK.name{ad:List Tk}(ht:∀t∈ad,t.kind=1→NameOk t.text)(met:List BA):NK (name ad met) λx=>NameOk x∧x∉met:=λs x s' hn e=>by
 refine⟨by rw[rC _ _ e];exact hn,?_⟩;unfold Ty.name at e;split at e
 ·cases e
 ·rename_i hk;split at e
  ·cases e
  ·rename_i hm;cases e;constructor
   ·refine ht _ ?_ (by simpa using hk);unfold cur at hk⊢;cases h:ad[s.pos]? with
    |none=>rw[h]at hk;simp at hk
    |some t=>exact List.mem_of_getElem? h
   ·intro hx;exact hm (List.mem_map_of_mem hx)
theorem EL{ad:List Tk}{x:List UInt8}{T:M Nat}(hT:NK T λ_=>True):∀f l,NK (list ad x (λ_=>T) f l) λ_=>True
 |0,_=>NK.fail _ _ _
 |f+1,_=>(NK.take _ _).ar λ_ _=>NK.ite (NK.ret _ trivial) ((NK.ite (NK.ret _ trivial) (NK.need _ _)).ar λ_ _=>hT.ar λ_ _=>EL hT f _)
theorem wF{ad:List Tk}(ht:∀t∈ad,t.kind=1→NameOk t.text){T:M Nat}(hT:NK T λ_=>True):∀f l,NmT l→NK (fields ad T f l) NmT
 |0,_,_=>NK.fail _ _ _
 |f+1,l,hl=>(NK.take _ _).ar λb _=>NK.ite (NK.ret _ hl) ((NK.name ht _).ar λs hs=>(NK.need _ _).ar λ_ _=>hT.ar λn _=>(NK.need _ _).ar λ_ _=>wF ht hT f _ ⟨λf hf=>by
   rw[List.mem_append]at hf
   rcases hf with hf|hf
   ·exact hl.ok f hf
   ·simp at hf;subst hf;exact hs.1,by
   rw[List.map_append,List.nodup_append];refine⟨hl.nodup,by simp,λa ha b hb=>?_⟩;simp at hb;subst hb;intro e;subst e;exact hs.2 ha⟩)
theorem IV{ad:List Tk}{T:M Nat}(hT:NK T λ_=>True):NK (round ad T) λ_=>True:=
 (EL hT _ _).ar λ_ _=>(NK.take _ _).ar λ_ _=>NK.ite (hT.ar λ_ _=>NK.aZ _ NmT.nil) (NK.ite (NK.ret _ trivial) (NK.fail _ _ _))
theorem FQ{ad:List Tk}(ht:∀t∈ad,t.kind=1→NameOk t.text){T:M Nat}(hT:NK T λ_=>True):NK (single ad T) λ_=>True:=λs n s' hn h=>by
 unfold single at h;split at h
 ·exact(NK.step.ar λ_ _=>NK.aZ _ NmT.nil) s n s' hn h
 ·exact((NK.take _ _).ar λb _=>NK.ite ((wF ht hT _ _ NmT.nil).ar λl hl=>NK.aZ _ hl) ((NK.take _ _).ar λb _=>NK.ite (hT.ar λn _=>(NK.need _ _).ar λ_ _=>NK.aZ _ NmT.nil) ((NK.need _ _).ar λ_ _=>IV hT))) s n s' hn h
theorem D0{ad:List Tk}{S:M Nat}(hS:NK S λ_=>True):∀f l,NK (bars ad S f l) λ_=>True
 |0,_=>NK.fail _ _ _
 |f+1,_=>(NK.take _ _).ar λ_ _=>NK.ite (hS.ar λ_ _=>D0 hS f _) (NK.ret _ trivial)
theorem JB{ad:List Tk}{S:M Nat}(hS:NK S λ_=>True):NK (union ad S) λ_=>True:=
 hS.ar λ_ _=>(D0 hS _ _).ar λ_ _=>NK.ite (NK.ret _ trivial) (NK.aZ _ NmT.nil)
theorem Lh{ad:List Tk}(ht:∀t∈ad,t.kind=1→NameOk t.text):∀r,NK (sy ad r) λ_=>True
 |0=>NK.fail _ _ _
 |r+1=>JB (FQ ht (Lh ht r))
mutual
def Ri:Tr→Prop
 | .mk _ names parts list of=>(∀n∈names,NameOk n)∧names.Nodup∧MK parts∧MK list∧MK of
def MK:List Tr→Prop
 |[]=>True
 |t::l=>Ri t∧MK l
end
theorem Cc{l:List Tr}(h:∀t∈l,Ri t):MK l:=by
 induction l with
 |nil=>rw[MK];trivial
 |cons a l ih=>rw[MK];exact⟨h a (by simp),ih λt ht=>h t (by simp[ht])⟩
mutual
theorem uj:∀t:Tr,Ri t→dH t
 | .mk k names parts list of,h=>by
  rw[Ri]at h
  rw[dH];exact⟨λn hn=>(h.1 n hn).size,oG _ h.2.2.1,oG _ h.2.2.2.1,oG _ h.2.2.2.2⟩
theorem oG:∀l:List Tr,MK l→c_ l
 |[],_=>by rw[c_];trivial
 |t::l,h=>by
  rw[MK]at h
  rw[c_];exact⟨uj t h.1,oG l h.2⟩
end
theorem JM{ts:List Ty}(hw:Wf ts)(hn:Nm ts):∀N n,n<N→n<ts.length→Ri (den ts n):=by
 intro N;induction N with
 |zero=>intro n h;omega
 |succ N ih=>
  intro n hN hl;have hg:ts[n]?=some ts[n]:=List.getElem?_eq_getElem hl;have od:=hw n _ hg;have YA:=hn ts[n] (gM _);rw[qO hw hg,Ri];refine⟨λx hx=>?_,YA.nodup,Cc λt ht=>?_,Cc λt ht=>?_,Cc λt ht=>?_⟩
  ·obtain⟨f,hf,rfl⟩:=List.mem_map.1 hx;exact YA.ok f hf
  ·obtain⟨f,hf,rfl⟩:=List.mem_map.1 ht;have:=od.fields f hf;exact ih _ (by omega) (by omega)
  ·obtain⟨j,hj,rfl⟩:=List.mem_map.1 ht;have:=od.list j hj;exact ih _ (by omega) (by omega)
  ·split at ht
   ·rename_i hk;simp at ht;subst ht;have:=od.of hk;exact ih _ (by omega) (by omega)
   ·simp at ht
end Ty
end
section
namespace Ty
open Tok (Tk)
structure NumOk(x:BA):Prop where
 size:x.size≤9
 ZF:∀d∈x.data.toList,Tok.isDigit d=true
 ne:x.data.toList≠[]
 nz:x.data.toList.length=1∨x.data.toList.head?≠some 48
def C9(ad:List Tk):Prop:=∀t∈ad,t.kind=3→NumOk t.text
theorem zN(s:BA)(k:Nat)(h:k<s.size)(aF: (Tok.next s k).2.2=true)(hk: (Tok.next s k).1.kind=3):NumOk (Tok.next s k).1.text:=by
 unfold Tok.next at aF hk⊢;by_cases hl:fi (Tok.byte s k)=true
 ·simp only[hl,if_true]at hk;split at hk<;>cases hk
 ·simp only[hl,if_false,Bool.false_eq_true]at aF hk⊢;by_cases hd:Tok.isDigit (Tok.byte s k)=true
  ·simp only[hd,if_true]at aF⊢;have g_:=gg Tok.isDigit s k;have hle:=ji Tok.isDigit s k (by omega);simp only[Bool.and_eq_true,Bool.or_eq_true,decide_eq_true_eq,Bool.not_eq_true',decide_eq_false_iff_not]at aF;have cI: (s.extract k (Tok.stop Tok.isDigit s k)).data.toList.length=Tok.stop Tok.isDigit s k-k:=by
    have: (s.extract k (Tok.stop Tok.isDigit s k)).size=Tok.stop Tok.isDigit s k-k:=by simp only[ByteArray.size_extract];omega
    rw[←this];exact Array.length_toList
   have hx: (s.extract k (Tok.stop Tok.isDigit s k)).data.toList=s[k]:: (s.data.toList.drop (k+1)).takeWhile Tok.isDigit:=by
    rw[jV _ _ _ (by omega),Tok.drop_cons s k h,List.takeWhile_cons,if_pos (by rw[←ep];exact hd)]
   refine⟨?_,?_,?_,?_⟩
   ·simp only[ByteArray.size_extract];omega
   ·rw[jV _ _ _ (by omega)];exact jm _ _
   ·rw[hx];simp
   ·rcases aF.2 with h1|h1
    ·left;omega
    ·right;rw[hx];intro e;simp only[List.head?_cons,Option.some.injEq]at e;exact h1 (by rw[ep s k h];exact e)
  ·simp only[hd,if_false,Bool.false_eq_true]at hk;split at hk
   ·cases hk
   ·split at hk<;>cases hk
theorem lq(s:BA):∀(f k:Nat)(o l:List Tk),dc s f k o=.ok l→C9 o→C9 l
 |0,k,o,l,h,ho=>by cases h;exact ho
 |f+1,k,o,l,h,ho=>by
  rw[dc]at h
  split at h
  ·rename_i hk;split at h
   ·exact lq s f _ _ _ h ho
   ·split at h
    ·cases h
    ·rename_i aF;split at h
     ·cases h
     ·refine lq s f _ _ _ h λt ht=>?_
      rw[List.mem_append]at ht
      rcases ht with ht|ht
      ·exact ho t ht
      ·simp at ht;subst ht;exact zN s k hk (by simpa using aF)
  ·cases h;intro t ht;rw[List.mem_append]at ht
   rcases ht with ht|ht
   ·exact ho t ht
   ·simp at ht;subst ht;intro h;cases h
theorem FM{s:BA}{l:List Tk}(h:Tok.scan s=.ok l):C9 l:=by
 unfold Tok.scan at h;split at h
 ·cases h
 ·exact lq s _ _ _ _ h λt ht=>by simp at ht
theorem zY{d:UInt8}(h:Tok.isDigit d=true):Lib.digitVal d=some (d.toNat-48):=by
 unfold Tok.isDigit at h;simp at h;unfold Lib.digitVal;rw[if_pos h]
theorem qi:∀(l:List UInt8)(acc:Nat),(∀d∈l,Tok.isDigit d=true)→Lib.decFrom acc l=some (l.foldl (λn c=>10*n+(c.toNat-48)) acc)
 |[],acc,_=>rfl
 |c::l,acc,h=>by
  rw[Lib.decFrom,zY (h c (by simp))];dsimp only;rw[qi l _ (λd hd=>h d (by simp[hd])),List.foldl_cons,Nat.mul_comm acc 10]
theorem Cv{x:BA}(h:NumOk x):Lib.atoi x.data.toList=some ((value x:Nat):Int):=by
 unfold value;cases e:x.data.toList with
 |nil=>exact absurd e h.ne
 |cons c l=>
  have hd:=h.ZF;rw[e]at hd
  have hc:=hd c (by simp);unfold Tok.isDigit at hc;simp at hc;rw[Lib.atoi,if_neg (by intro acD;have:=beq_iff_eq.1 acD;subst this;simp at hc),if_neg (by intro acC;have:=beq_iff_eq.1 acC;subst this;simp at hc)];unfold Lib.decNat;rw[if_neg (by simp),qi _ _ hd];rfl
end Ty
end
end Go.Proofs.YtdlbhiaceheffabGreatDoor
