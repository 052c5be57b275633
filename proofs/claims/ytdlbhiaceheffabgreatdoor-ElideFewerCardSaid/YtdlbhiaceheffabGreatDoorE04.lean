/- Plain: trees of their form. -/
import Derived.Lib.Atoi
import Derived.Test.YtdlbhiaceheffabGreatDoorE03
set_option linter.all false
namespace Go.Proofs.YtdlbhiaceheffabGreatDoor
open Go Go.RowKit Ty Tok
namespace Ty
mutual
def dX:Tr->Prop
 | .mk k names parts list of=>(1<=k/\k<=10)/\names.length=parts.length/\(k=8\/k=9->of.length=1)/\(k≠8->k≠9->of=[])/\(k≠7->parts=[])/\(k≠9->k≠10->list=[])/\(parts.length<=1000000/\list.length<=1000000)/\pr parts/\pr list/\pr of
def pr:List Tr->Prop
 |[]=>True
 |t::l=>dX t/\pr l
end
theorem fJ{l:List Tr}(h:pr l):∀t∈l,dX t:=by
 induction l with
 |nil=>intro t ht;simp at ht
 |cons a l ih=>
  rw[pr]at h
  intro t ht;rcases List.mem_cons.1 ht with rfl|ht
  ·exact h.1
  ·exact ih h.2 t ht
theorem vw{l:List Tr}(h:∀t∈l,dX t):pr l:=by
 induction l with
 |nil=>rw[pr];trivial
 |cons a l ih=>rw[pr];exact⟨h a (by simp),ih λt ht=>h t (by simp[ht])⟩
theorem Pf{ts:List Ty}(hw:Wf ts):∀N n,n<N->n<ts.length->dX (den ts n):=by
 intro N;induction N with
 |zero=>intro n h;omega
 |succ N ih=>
  intro n hN hn;have hg:ts[n]?=some ts[n]:=List.getElem?_eq_getElem hn;have oj:=hw n _ hg;rw[yI hw hg,dX];refine⟨oj.kind,by simp,λhk=>by rw[if_pos hk];rfl,λh8 h9=>by rw[if_neg (by omega)],λh7=>by rw[oj.L0 h7];rfl,λh9 dG=>by rw[oj.Ps h9 dG];rfl,by simpa using oj.lens,vw λt ht=>?_,vw λt ht=>?_,vw λt ht=>?_⟩
  ·obtain⟨f,hf,rfl⟩:=List.mem_map.1 ht;have:=oj.fields f hf;exact ih _ (by omega) (by omega)
  ·obtain⟨j,hj,rfl⟩:=List.mem_map.1 ht;have:=oj.list j hj;exact ih _ (by omega) (by omega)
  ·split at ht
   ·rename_i hk;simp at ht;subst ht;have:=oj.of hk;exact ih _ (by omega) (by omega)
   ·simp at ht
theorem Iw(k:Nat)(hk:1<=k/\k<=10)(dG:k≠10):Kb k<128:=by
 have:k=1\/k=2\/k=3\/k=4\/k=5\/k=6\/k=7\/k=8\/k=9:=by omega
 rcases this with rfl|rfl|rfl|rfl|rfl|rfl|rfl|rfl|rfl<;>decide
mutual
theorem zc:∀t,dX t->tags t<128
 | .mk k names parts list of,h=>by
  rw[dX]at h
  rw[tags];split
  ·exact uq list h.2.2.2.2.2.2.2.2.1
  ·exact Iw k h.1 ‹_›
theorem uq:∀l,pr l->kj l<128
 |[],_=>by rw[kj];omega
 |t::l,h=>by
  rw[pr]at h
  rw[kj];exact Nat.or_lt_two_pow (n:=7) (zc t h.1) (uq l h.2)
end
mutual
def sz:Tr->Nat
 | .mk _ _ p l o=>1+QX p+QX l+QX o
def QX:List Tr->Nat
 |[]=>0
 |t::l=>sz t+QX l+1
end
theorem uW{t:Tr}:∀{l:List Tr},t∈l->sz t<QX l
 |[],h=>by simp at h
 |a::l,h=>by
  rw[QX];rcases List.mem_cons.1 h with rfl|h
  ·omega
  ·have:=uW h;omega
theorem tJ{t:Tr}{l:List Tr}(h:t∈l)(k:Nat)(names:List BA)(parts of:List Tr):sz t<sz (.mk k names parts l of):=by
 have:=uW h;rw[sz];omega
theorem uB{t:Tr}{l:List Tr}(h:t∈l)(k:Nat)(names:List BA)(list of:List Tr):sz t<sz (.mk k names l list of):=by
 have:=uW h;rw[sz];omega
theorem Tx{t:Tr}{l:List Tr}(h:t∈l)(k:Nat)(names:List BA)(parts list:List Tr):sz t<sz (.mk k names parts list l):=by
 have:=uW h;rw[sz];omega
end Ty
namespace Ty
def br(f:Nat->Bool):Nat->Bool
 |0=>false
 |n+1=>br f n||f n
theorem bI{f:Nat->Bool}:∀{n:Nat},br f n=true↔∃j,j<n/\f j=true
 |0=>by simp[br]
 |n+1=>by
  rw[br,Bool.or_eq_true,bI];constructor
  ·rintro(⟨j,h1,h2⟩|h)
   ·exact⟨j,by omega,h2⟩
   ·exact⟨n,by omega,h⟩
  ·rintro⟨j,h1,h2⟩
   by_cases h:j=n
   ·subst h;exact .inr h2
   ·exact .inl ⟨j,by omega,h2⟩
theorem bg{f:Nat->Bool}{n:Nat}:br f n=false↔∀j,j<n->f j=false:=by
 rw[<-Bool.not_eq_true,bI];constructor
 ·intro h j hj;cases hf:f j with
  |false=>rfl
  |true=>exact absurd ⟨j,hj,hf⟩ h
 ·rintro h ⟨j,hj,hf⟩
  rw[h j hj]at hf;cases hf
def part{α:Type}:List BA->List α->BA->Option α
 |n::ns,t::l,x=>if n=x then some t else part ns l x
 | _,_,_=>none
theorem pX{α:Type}{x:BA}:∀{ns:List BA}{l:List α}{t:α},part ns l x=some t->t∈l
 |[],l,t,h=>by cases h
 |n::ns,[],t,h=>by cases h
 |n::ns,a::l,t,h=>by
  rw[part]at h
  split at h
  ·cases h;simp
  ·exact List.mem_cons_of_mem _ (pX h)
def bM:Tr:=.mk 0 [] [] [] []
def kindOf:Tr->Nat| .mk k _ _ _ _=>k
def bY:Tr->List BA| .mk _ n _ _ _=>n
def partsOf:Tr->List Tr| .mk _ _ p _ _=>p
def aL:Tr->List Tr| .mk _ _ _ l _=>l
def eP:Tr->Tr| .mk _ _ _ _ o=>o.headD bM
def qC:Nat->Tr->Tr->Bool
 |0,_,_=>false
 |n+1,a,b=>
  if kindOf a=5\/kindOf b=5\/kindOf b=6 then true
  else if kindOf a=10 then !br (λj=>!qC n ((aL a).getD j bM) b) (aL a).length
  else if kindOf b=10 then br (λj=>qC n a ((aL b).getD j bM)) (aL b).length
  else if kindOf a≠kindOf b then false
  else if kindOf a=7 then !br (λj=>match part (bY a) (partsOf a) ((bY b).getD j ⟨#[]⟩)with|none=>true|some t=>!qC n t ((partsOf b).getD j bM)) (partsOf b).length
  else if kindOf a=8 then qC n (eP a) (eP b)
  else if kindOf a=9 then decide ((aL a).length<=(aL b).length)&&!br (λj=>!(qC n ((aL a).getD j bM) ((aL b).getD j bM)||qC n ((aL b).getD j bM) ((aL a).getD j bM))) (aL a).length&&qC n (eP a) (eP b)
  else true
theorem ek{f g:Nat->Bool}{n:Nat}(h:∀j,j<n->f j=g j):br f n=br g n:=by
 induction n with
 |zero=>rfl
 |succ n ih=>rw[br,br,ih (λj hj=>h j (by omega)),h n (by omega)]
theorem p'{l:List Tr}{j:Nat}(h:j<l.length):l.getD j bM∈l:=by
 rw[List.getD_eq_getElem?_getD,List.getElem?_eq_getElem h];exact gM h
theorem x9(t:Tr):0<sz t:=by cases t;rw[sz];omega
theorem dB{a:Tr}{j:Nat}(h:j<(aL a).length):sz ((aL a).getD j bM)<sz a:=by cases a;exact tJ (p' h) _ _ _ _
theorem jy{a:Tr}{j:Nat}(h:j<(partsOf a).length):sz ((partsOf a).getD j bM)<sz a:=by cases a;exact uB (p' h) _ _ _ _
theorem pS{a t:Tr}{x:BA}(h:part (bY a) (partsOf a) x=some t):sz t<sz a:=by cases a;exact uB (pX h) _ _ _ _
theorem fU{a:Tr}(h:dX a)(hk:kindOf a=8\/kindOf a=9):sz (eP a)<sz a:=by
 cases a with
 |mk k names parts list of=>
  rw[dX]at h
  have h1:=h.2.2.1 hk;cases of with
  |nil=>simp at h1
  |cons o l=>exact Tx (t:=o) (by simp) _ _ _ _
theorem cr{a:Tr}(ha:dX a){j:Nat}(h:j<(aL a).length):dX ((aL a).getD j bM):=by
 cases a;rw[dX]at ha;exact fJ ha.2.2.2.2.2.2.2.2.1 _ (p' h)
theorem jA{a:Tr}(ha:dX a){j:Nat}(h:j<(partsOf a).length):dX ((partsOf a).getD j bM):=by
 cases a;rw[dX]at ha;exact fJ ha.2.2.2.2.2.2.2.1 _ (p' h)
theorem qf{a t:Tr}(ha:dX a){x:BA}(h:part (bY a) (partsOf a) x=some t):dX t:=by
 cases a;rw[dX]at ha;exact fJ ha.2.2.2.2.2.2.2.1 _ (pX h)
theorem fZ{a:Tr}(h:dX a)(hk:kindOf a=8\/kindOf a=9):dX (eP a):=by
 cases a with
 |mk k names parts list of=>
  rw[dX]at h
  have h1:=h.2.2.1 hk;cases of with
  |nil=>simp at h1
  |cons o l=>exact fJ h.2.2.2.2.2.2.2.2.2 o (by simp)
theorem M_:∀n m a b,dX a->dX b->sz a+sz b<n->sz a+sz b<m->qC n a b=qC m a b:=by
 intro n;induction n with
 |zero=>intro m a b _ _ h;omega
 |succ n ih=>
  intro m a b ha hb h1 h2;obtain⟨m,rfl⟩:∃q,m=q+1:=⟨m-1,by omega⟩
  rw[qC,qC];have pa:=x9 a;have pb:=x9 b;split
  ·rfl
  ·split
   ·congr 1;exact ek λj hj=>by have:=dB hj;rw[ih m _ _ (cr ha hj) hb (by omega) (by omega)]
   ·split
    ·exact ek λj hj=>by have:=dB hj;rw[ih m _ _ ha (cr hb hj) (by omega) (by omega)]
    ·split
     ·rfl
     ·split
      ·congr 1;exact ek λj hj=>by
        have h3:=jy hj;cases hp:part (bY a) (partsOf a) ((bY b).getD j ⟨#[]⟩)with
        |none=>rfl
        |some t=>have h4:=pS hp;dsimp only;rw[ih m _ _ (qf ha hp) (jA hb hj) (by omega) (by omega)]
      ·split
       ·rename_i Nb;have h3:=fU ha (.inl Nb);have h4:=fU hb (.inl (by omega));rw[ih m _ _ (fZ ha (.inl Nb)) (fZ hb (.inl (by omega))) (by omega) (by omega)]
       ·split
        ·rename_i Md;have h3:=fU ha (.inr Md);have h4:=fU hb (.inr (by omega));rw[ih m (eP a) (eP b) (fZ ha (.inr Md)) (fZ hb (.inr (by omega))) (by omega) (by omega)];by_cases hl: (aL a).length<=(aL b).length
         ·congr 3;exact ek λj hj=>by
           have h5:=dB hj;have eF:j<(aL b).length:=by omega
           have h6:=dB eF;rw[ih m _ _ (cr ha hj) (cr hb eF) (by omega) (by omega),ih m _ _ (cr hb eF) (cr ha hj) (by omega) (by omega)]
         ·simp[hl]
        ·rfl
def fits(a b:Tr):Bool:=qC (sz a+sz b+1) a b
theorem mq{a b:Tr}(ha:dX a)(hb:dX b){n:Nat}(h:sz a+sz b<n):qC n a b=fits a b:=M_ _ _ _ _ ha hb h (by omega)
end Ty
namespace Ty
theorem GA{a b:Tr}(ha:dX a)(hb:dX b):fits a b=
  if kindOf a=5\/kindOf b=5\/kindOf b=6 then true
  else if kindOf a=10 then !br (λj=>!fits ((aL a).getD j bM) b) (aL a).length
  else if kindOf b=10 then br (λj=>fits a ((aL b).getD j bM)) (aL b).length
  else if kindOf a≠kindOf b then false
  else if kindOf a=7 then !br (λj=>match part (bY a) (partsOf a) ((bY b).getD j ⟨#[]⟩)with|none=>true|some t=>!fits t ((partsOf b).getD j bM)) (partsOf b).length
  else if kindOf a=8 then fits (eP a) (eP b)
  else if kindOf a=9 then decide ((aL a).length<=(aL b).length)&&!br (λj=>!(fits ((aL a).getD j bM) ((aL b).getD j bM)||fits ((aL b).getD j bM) ((aL a).getD j bM))) (aL a).length&&fits (eP a) (eP b)
  else true:=by
 have pa:=x9 a;have pb:=x9 b;conv=>lhs;rw[fits,qC]
 split
 ·rfl
 ·split
  ·congr 1;exact ek λj hj=>by have:=dB hj;rw[mq (cr ha hj) hb (by omega)]
  ·split
   ·exact ek λj hj=>by have:=dB hj;rw[mq ha (cr hb hj) (by omega)]
   ·split
    ·rfl
    ·split
     ·congr 1;exact ek λj hj=>by
       have h3:=jy hj;cases hp:part (bY a) (partsOf a) ((bY b).getD j ⟨#[]⟩)with
       |none=>rfl
       |some t=>have h4:=pS hp;dsimp only;rw[mq (qf ha hp) (jA hb hj) (by omega)]
     ·split
      ·rename_i Nb;have h3:=fU ha (.inl Nb);have h4:=fU hb (.inl (by omega));rw[mq (fZ ha (.inl Nb)) (fZ hb (.inl (by omega))) (by omega)]
      ·split
       ·rename_i Md;have h3:=fU ha (.inr Md);have h4:=fU hb (.inr (by omega));rw[mq (fZ ha (.inr Md)) (fZ hb (.inr (by omega))) (by omega)];by_cases hl: (aL a).length<=(aL b).length
        ·congr 3;exact ek λj hj=>by
          have h5:=dB hj;have eF:j<(aL b).length:=by omega
          have h6:=dB eF;rw[mq (cr ha hj) (cr hb eF) (by omega),mq (cr hb eF) (cr ha hj) (by omega)]
        ·simp[hl]
       ·rfl
end Ty
namespace Ty
def mu:Nat->Tr->Tr->Bool
 |0,_,_=>false
 |n+1,a,b=>
  decide (kindOf a=kindOf b)&&decide ((partsOf a).length=(partsOf b).length)&&decide ((aL a).length=(aL b).length)
   &&!br (λj=>!mu n ((aL a).getD j bM) ((aL b).getD j bM)) (aL a).length
   &&!br (λj=>match part (bY b) (partsOf b) ((bY a).getD j ⟨#[]⟩)with|none=>true|some t=>!mu n ((partsOf a).getD j bM) t) (partsOf a).length
   &&(!decide (kindOf a=8\/kindOf a=9)||mu n (eP a) (eP b))
def rh(al:Tr->Tr->Bool)(a b:Tr):Bool:=
  decide (kindOf a=kindOf b)&&decide ((partsOf a).length=(partsOf b).length)&&decide ((aL a).length=(aL b).length)
   &&!br (λj=>!al ((aL a).getD j bM) ((aL b).getD j bM)) (aL a).length
   &&!br (λj=>match part (bY b) (partsOf b) ((bY a).getD j ⟨#[]⟩)with|none=>true|some t=>!al ((partsOf a).getD j bM) t) (partsOf a).length
   &&(!decide (kindOf a=8\/kindOf a=9)||al (eP a) (eP b))
theorem nF(n:Nat)(a b:Tr):mu (n+1) a b=rh (mu n) a b:=by rw[mu,rh]
theorem pU{f g:Tr->Tr->Bool}{a b:Tr}(ha:dX a)(hb:dX b)(h:∀x y,dX x->dX y->sz x<sz a->sz y<sz b->f x y=g x y):rh f a b=rh g a b:=by
 unfold rh;by_cases hk:kindOf a=kindOf b
 ·by_cases hp: (partsOf a).length=(partsOf b).length
  ·by_cases hl: (aL a).length=(aL b).length
   ·have e1:br (λj=>!f ((aL a).getD j bM) ((aL b).getD j bM)) (aL a).length=br (λj=>!g ((aL a).getD j bM) ((aL b).getD j bM)) (aL a).length:=
     ek λj hj=>by rw[h _ _ (cr ha hj) (cr hb (by omega)) (dB hj) (dB (by omega))]
    have e2:br (λj=>match part (bY b) (partsOf b) ((bY a).getD j ⟨#[]⟩)with|none=>true|some t=>!f ((partsOf a).getD j bM) t) (partsOf a).length=br (λj=>match part (bY b) (partsOf b) ((bY a).getD j ⟨#[]⟩)with|none=>true|some t=>!g ((partsOf a).getD j bM) t) (partsOf a).length:=
     ek λj hj=>by
      cases hq:part (bY b) (partsOf b) ((bY a).getD j ⟨#[]⟩)with
      |none=>rfl
      |some t=>dsimp only;rw[h _ _ (jA ha hj) (qf hb hq) (jy hj) (pS hq)]
    rw[e1,e2];by_cases h8:kindOf a=8\/kindOf a=9
    ·rw[h _ _ (fZ ha h8) (fZ hb (by omega)) (fU ha h8) (fU hb (by omega))]
    ·simp[h8]
   ·simp[hl]
  ·simp[hp]
 ·simp[hk]
theorem Hl:∀n m a b,dX a->dX b->sz a+sz b<n->sz a+sz b<m->mu n a b=mu m a b:=by
 intro n;induction n with
 |zero=>intro m a b _ _ h;omega
 |succ n ih=>
  intro m a b ha hb h1 h2;obtain⟨m,rfl⟩:∃q,m=q+1:=⟨m-1,by omega⟩
  rw[nF,nF];exact pU ha hb λx y hx hy h3 h4=>ih m x y hx hy (by omega) (by omega)
def alike(a b:Tr):Bool:=mu (sz a+sz b+1) a b
theorem Cc{a b:Tr}(ha:dX a)(hb:dX b):alike a b=rh alike a b:=by
 unfold alike;rw[nF];exact pU ha hb λx y hx hy h3 h4=>Hl _ _ x y hx hy (by omega) (by omega)
end Ty
namespace Ty
mutual
def dS:Tr->Nat
 | .mk _ _ p l o=>bJ p+bJ l+bJ o+1
def bJ:List Tr->Nat
 |[]=>0
 |t::l=>dS t+bJ l
end
theorem rN:∀(a:List Tr)(t:Tr),bJ (a++[t])=bJ a+dS t
 |[],t=>by simp[bJ]
 |x::a,t=>by rw[List.cons_append,bJ,rN a t,bJ];omega
theorem gA:∀(a b:List Tr),bJ (a++b)=bJ a+bJ b
 |[],b=>by simp[bJ]
 |x::a,b=>by rw[List.cons_append,bJ,gA a b,bJ];omega
theorem Ee(t:Tr):0<dS t:=by cases t;rw[dS];omega
theorem NP(l m:List Ty):∀N n,n<N->n<l.length->den (l++m) n=den l n:=by
 intro N;induction N with
 |zero=>intro n h;omega
 |succ N ih=>
  intro n hN hn;conv=>lhs;rw[den]
  conv=>rhs;rw[den]
  rw[List.getElem?_append_left hn,List.getElem?_eq_getElem hn];dsimp only;congr 1
  ·exact List.map_congr_left λf _=>by
    split
    ·exact ih _ (by omega) (by omega)
    ·rfl
  ·exact List.map_congr_left λj _=>by
    split
    ·exact ih _ (by omega) (by omega)
    ·rfl
  ·split
   ·congr 1;split
    ·exact ih _ (by omega) (by omega)
    ·rfl
   ·rfl
theorem tF{l m:List Ty}{n:Nat}(h:n<l.length):den (l++m) n=den l n:=NP l m (n+1) n (by omega) h
theorem Bc(l:List Ty)(t:Ty)(h1:∀f∈t.fields,f.2<l.length)(h2:∀j∈t.list,j<l.length)(h3:t.kind=8\/t.kind=9->t.of<l.length):
  den (l++[t]) l.length=.mk t.kind (t.fields.map Prod.fst) (t.fields.map λf=>den l f.2) (t.list.map (den l)) (if t.kind=8\/t.kind=9 then [den l t.of]else []):=by
 rw[den,List.getElem?_append_right (Nat.le_refl _),Nat.sub_self];dsimp only[List.getElem?_cons_zero];congr 1
 ·exact List.map_congr_left λf hf=>by rw[dif_pos (h1 f hf),tF (h1 f hf)]
 ·exact List.map_congr_left λj hj=>by rw[dif_pos (h2 j hj),tF (h2 j hj)]
 ·split
  ·rename_i hk;rw[dif_pos (h3 hk),tF (h3 hk)]
  ·rfl
mutual
def jM:Tr->Prop
 | .mk k _ parts list of=>(k=10->2<=list.length)/\ie parts/\ie list/\ie of
def ie:List Tr->Prop
 |[]=>True
 |t::l=>jM t/\ie l
end
theorem tE{l:List Tr}(h:∀t∈l,jM t):ie l:=by
 induction l with
 |nil=>rw[ie];trivial
 |cons a l ih=>rw[ie];exact⟨h a (by simp),ih λt ht=>h t (by simp[ht])⟩
theorem nS{l:List Tr}(h:ie l):∀t∈l,jM t:=by
 induction l with
 |nil=>intro t ht;simp at ht
 |cons a l ih=>
  rw[ie]at h
  intro t ht;rcases List.mem_cons.1 ht with rfl|ht
  ·exact h.1
  ·exact ih h.2 t ht
theorem MY{ts:List Ty}(hw:Wf ts):∀N n,n<N->n<ts.length->jM (den ts n):=by
 intro N;induction N with
 |zero=>intro n h;omega
 |succ N ih=>
  intro n hN hn;have hg:ts[n]?=some ts[n]:=List.getElem?_eq_getElem hn;have oj:=hw n _ hg;rw[yI hw hg,jM];refine⟨λhk=>by simpa using oj.uI hk,tE λt ht=>?_,tE λt ht=>?_,tE λt ht=>?_⟩
  ·obtain⟨f,hf,rfl⟩:=List.mem_map.1 ht;have:=oj.fields f hf;exact ih _ (by omega) (by omega)
  ·obtain⟨j,hj,rfl⟩:=List.mem_map.1 ht;have:=oj.list j hj;exact ih _ (by omega) (by omega)
  ·split at ht
   ·rename_i hk;simp at ht;subst ht;have:=oj.of hk;exact ih _ (by omega) (by omega)
   ·simp at ht
end Ty
section
namespace Ty
open Tok (Tk)
def Ext(a b:List Ty):Prop:=∃e,b=a++e
theorem Ext.refl(a:List Ty):Ext a a:=⟨[],by simp⟩
theorem Ext.trans{a b c:List Ty}(h:Ext a b)(k:Ext b c):Ext a c:=by
 obtain⟨e,rfl⟩:=h;obtain⟨f,rfl⟩:=k;exact⟨e++f,by simp⟩
theorem Ext.len{a b:List Ty}(h:Ext a b):a.length<=b.length:=by obtain⟨e,rfl⟩:=h;simp
theorem Ext.den{a b:List Ty}(h:Ext a b){n:Nat}(hn:n<a.length):Ty.den b n=Ty.den a n:=by obtain⟨e,rfl⟩:=h;exact tF hn
theorem Ext.L9{a b:List Ty}(h:Ext a b){l:List Nat}(hl:Er l a):l.map (Ty.den b)=l.map (Ty.den a):=List.map_congr_left λj hj=>h.den (hl j hj)
def Grow(m:M Nat):Prop:=∀s a s',Wf s.ts->m s=.ok (a,s')->Ext s.ts s'.ts/\s.ts.length+dS (den s'.ts a)<=s'.ts.length/\a+1=s'.ts.length
def rD(l:List Nat)(ts:List Ty):Prop:=∀n,l.getLast?=some n->n+1=ts.length
theorem rD.nil(ts:List Ty):rD [] ts:=λn h=>by simp at h
theorem rD.snoc{l:List Nat}{n:Nat}{ts:List Ty}(h:n+1=ts.length):rD (l++[n]) ts:=λm hm=>by simp at hm;subst hm;exact h
theorem jQ{t:Ty}{s s':St}{n:Nat}(ht:WfAt s.ts.length t)(h:aY t s=.ok (n,s')):Ext s.ts s'.ts/\s'.ts.length=s.ts.length+1/\dS (den s'.ts n)=bJ (t.fields.map λf=>den s.ts f.2)+bJ (t.list.map (den s.ts))+bJ (if t.kind=8\/t.kind=9 then [den s.ts t.of]else [])+1/\n+1=s'.ts.length:=by
 cases h;refine⟨⟨_,rfl⟩,by simp,?_,by simp⟩;dsimp only;rw[Bc _ _ ht.fields ht.list ht.of,dS]
theorem xA{ad:List Tk}{x:List UInt8}{T:M Nat}(hT:oH T wj)(hG:Grow T):∀f l s l' s',Wf s.ts->Er l s.ts->rD l s.ts->list ad x (λ_=>T) f l s=.ok (l',s')->Ext s.ts s'.ts/\s.ts.length+bJ (l'.map (den s'.ts))<=s'.ts.length+bJ (l.map (den s.ts))/\rD l' s'.ts
 |0,l,s,l',s',_,_,_,h=>by cases h
 |f+1,l,s,l',s',hw,hl,mI,h=>by
  obtain⟨b,s1,e1,e2⟩:=ar h;have t1:=ep _ _ e1;cases b
  ·simp only[Bool.false_eq_true,if_false]at e2;obtain⟨u,s2,e3,e4⟩:=ar e2;have t2:s2.ts=s1.ts:=by
    split at e3
    ·cases e3;rfl
    ·exact fg _ _ e3
   obtain⟨n,s3,e5,e6⟩:=ar e4;rw[t1]at t2
   obtain⟨h1,h2,h3⟩:=hT _ _ _ (by rw[t2];exact hw) e5;obtain⟨k1,k2,k3⟩:=hG _ _ _ (by rw[t2];exact hw) e5;rw[t2]at h2 k1 k2
   have tP:Er l s3.ts:=λj hj=>by have:=hl j hj;omega
   obtain⟨g1,g2,g3⟩:=xA hT hG f (l++[n]) s3 l' s' h1 (λj hj=>by
    rw[List.mem_append]at hj
    rcases hj with hj|hj
    ·exact tP j hj
    ·simp at hj;subst hj;exact h3) (rD.snoc k3) e6
   rw[List.map_append,gA,k1.L9 hl]at g2
   simp only[List.map_cons,List.map_nil,bJ]at g2;exact⟨k1.trans g1,by omega,g3⟩
  ·simp only[if_true]at e2;cases e2;rw[t1];exact⟨Ext.refl _,by omega,mI⟩
theorem sq{ad:List Tk}{T:M Nat}(hT:oH T wj)(hG:Grow T):∀f l s l' s',Wf s.ts->Er (l.map Prod.snd) s.ts->fields ad T f l s=.ok (l',s')->Ext s.ts s'.ts/\s.ts.length+bJ ((l'.map Prod.snd).map (den s'.ts))<=s'.ts.length+bJ ((l.map Prod.snd).map (den s.ts))
 |0,l,s,l',s',_,_,h=>by cases h
 |f+1,l,s,l',s',hw,hl,h=>by
  obtain⟨b,s1,e1,e2⟩:=ar h;have t1:=ep _ _ e1;cases b
  ·simp only[Bool.false_eq_true,if_false]at e2;obtain⟨x,s2,e3,e4⟩:=ar e2;have t2:=rF _ _ e3;obtain⟨u,s3,e5,e6⟩:=ar e4;have t3:=fg _ _ e5;obtain⟨n,s4,e7,e8⟩:=ar e6;obtain⟨u,s5,e9,tk⟩:=ar e8;have t5:=fg _ _ e9;have t:s3.ts=s.ts:=by rw[t3,t2,t1]
   obtain⟨h1,h2,h3⟩:=hT _ _ _ (by rw[t];exact hw) e7;obtain⟨k1,k2,_⟩:=hG _ _ _ (by rw[t];exact hw) e7;rw[t]at h2 k1 k2
   rw[<-t5]at h1 h2 h3 k1 k2
   have tP:Er (l.map Prod.snd) s5.ts:=λj hj=>by have:=hl j hj;omega
   obtain⟨g1,g2⟩:=sq hT hG f (l++[(x,n)]) s5 l' s' h1 (λj hj=>by
    rw[List.map_append,List.mem_append]at hj
    rcases hj with hj|hj
    ·exact tP j hj
    ·simp at hj;subst hj;exact h3) tk
   rw[List.map_append,List.map_append,gA,k1.L9 hl]at g2
   simp only[List.map_cons,List.map_nil,bJ]at g2;exact⟨k1.trans g1,by omega⟩
  ·simp only[if_true]at e2;cases e2;rw[t1];exact⟨Ext.refl _,by omega⟩
theorem Bg{ad:List Tk}(hL:ad.length<=1001){T:M Nat}(hT:oH T wj)(hG:Grow T):Grow (single ad T):=λs n s' hw h=>by
 unfold single at h;split at h
 ·rename_i hk;obtain⟨u,s1,e1,e2⟩:=ar h;cases e1;cases e2;refine⟨⟨_,rfl⟩,?_,by simp⟩;have h8:¬(cB (cur ad s.pos).text=8\/cB (cur ad s.pos).text=9):=by
   have:cB (cur ad s.pos).text<=6:=by
    unfold cB;split
    ·rename_i i hi;obtain⟨h1,_⟩:=List.idxOf?_eq_some_iff.1 hi;simp[xN]at h1;omega
    ·omega
   omega
  dsimp only;rw[Bc _ _ (λf hf=>by simp at hf) (λj hj=>by simp at hj) (λh=>absurd h h8),dS];dsimp only;rw[if_neg h8];simp[bJ]
 ·obtain⟨b,s1,e1,e2⟩:=ar h;have t1:=ep _ _ e1;rw[<-t1]at hw
  suffices H:Ext s1.ts s'.ts/\s1.ts.length+dS (den s'.ts n)<=s'.ts.length/\n+1=s'.ts.length by rw[t1]at H;exact H
  cases b
  ·simp only[Bool.false_eq_true,if_false]at e2;obtain⟨b,s2,e3,e4⟩:=ar e2;have t2:=ep _ _ e3;rw[<-t2]at hw
   rw[<-t2];cases b
   ·simp only[Bool.false_eq_true,if_false]at e4;obtain⟨u,s3,e5,e6⟩:=ar e4;have t3:=fg _ _ e5;rw[<-t3]at hw
    rw[<-t3];obtain⟨l,s4,e7,e8⟩:=ar e6;obtain⟨h1,h2,h3⟩:=rS hT _ _ _ _ _ hw (λj hj=>by simp at hj) e7;obtain⟨k1,k2,kl⟩:=xA hT hG _ _ _ _ _ hw (λj hj=>by simp at hj) (rD.nil _) e7;obtain⟨b,s5,e9,tk⟩:=ar e8;have t5:=ep _ _ e9;rw[<-t5]at h1 h2 h3 k1 k2 kl
    simp only[List.map_nil,bJ]at k2;cases b
    ·simp only[Bool.false_eq_true,if_false]at tk;split at tk
     ·rename_i hl;cases tk;obtain⟨n,rfl⟩:=List.length_eq_one_iff.1 hl;simp only[List.map_cons,List.map_nil,bJ]at k2;exact⟨k1,by simp;omega,kl _ rfl⟩
     ·cases tk
    ·simp only[if_true]at tk;obtain⟨m,s6,LN,NZ⟩:=ar tk;obtain⟨g1,g2,g3⟩:=hT _ _ _ h1 LN;obtain⟨j1,j2,_⟩:=hG _ _ _ h1 LN;have QU:Er l s6.ts:=λj hj=>by have:=h3 j hj;omega
     obtain⟨i1,i2,i3,i4⟩:=jQ (s:=s6) ⟨λf hf=>by simp at hf,λj hj=>QU j hj,λ_=>(show m< _ from g3),⟨by simp,by simp⟩,λ_=>rfl,λh=>absurd rfl h,λ_ h=>absurd rfl h,λh=>(by cases h),⟨by simp,by have:=rB _ _ _ _ _ e7;simp at this;dsimp only;omega⟩⟩ NZ;refine⟨(k1.trans j1).trans i1,?_,i4⟩;dsimp only at i3;rw[j1.L9 h3]at i3
     simp[bJ]at i3
     omega
   ·simp only[if_true]at e4;obtain⟨m,s3,e5,e6⟩:=ar e4;obtain⟨g1,g2,g3⟩:=hT _ _ _ hw e5;obtain⟨j1,j2,_⟩:=hG _ _ _ hw e5;obtain⟨u,s4,e7,e8⟩:=ar e6;have t4:=fg _ _ e7;rw[<-t4]at g1 g2 g3 j1 j2
    obtain⟨i1,i2,i3,i4⟩:=jQ (s:=s4) ⟨λf hf=>by simp at hf,λj hj=>by simp at hj,λ_=>(show m< _ from g3),⟨by simp,by simp⟩,λ_=>rfl,λ_ _=>rfl,λh=>absurd rfl h,λh=>(by cases h),⟨by simp,by simp⟩⟩ e8;simp[bJ]at i3
    exact⟨j1.trans i1,by omega,i4⟩
  ·simp only[if_true]at e2;unfold object at e2;obtain⟨l,s2,e3,e4⟩:=ar e2;obtain⟨h1,h2,h3⟩:=m_ hT _ _ _ _ _ hw (λj hj=>by simp at hj) e3;obtain⟨k1,k2⟩:=sq hT hG _ _ _ _ _ hw (λj hj=>by simp at hj) e3;simp only[List.map_nil,bJ]at k2;obtain⟨i1,i2,i3,i4⟩:=jQ (s:=s2) ⟨λf hf=>h3 _ (List.mem_map_of_mem hf),λj hj=>by simp at hj,λh=>by dsimp only at h;omega,⟨by simp,by simp⟩,λh=>absurd rfl h,λ_ _=>rfl,λ_ _=>rfl,λh=>(by cases h),⟨by have:=nK _ _ _ _ _ e3;simp at this;dsimp only;omega,by simp⟩⟩ e4;have e5: (l.map λf=>den s2.ts f.2)=(l.map Prod.snd).map (den s2.ts):=by rw[List.map_map];rfl
   simp[bJ,e5]at i3
   simp at k2;exact⟨k1.trans i1,by omega,i4⟩
theorem xf{ad:List Tk}{S:M Nat}(hS:oH S wj)(hG:Grow S):∀f l s l' s',Wf s.ts->Er l s.ts->rD l s.ts->bars ad S f l s=.ok (l',s')->Ext s.ts s'.ts/\s.ts.length+bJ (l'.map (den s'.ts))<=s'.ts.length+bJ (l.map (den s.ts))/\rD l' s'.ts
 |0,l,s,l',s',_,_,_,h=>by cases h
 |f+1,l,s,l',s',hw,hl,mI,h=>by
  obtain⟨b,s1,e1,e2⟩:=ar h;have t1:=ep _ _ e1;cases b
  ·simp only[Bool.false_eq_true,if_false]at e2;cases e2;rw[t1];exact⟨Ext.refl _,by omega,mI⟩
  ·simp only[if_true]at e2;obtain⟨n,s2,e3,e4⟩:=ar e2;obtain⟨h1,h2,h3⟩:=hS _ _ _ (by rw[t1];exact hw) e3;obtain⟨k1,k2,k3⟩:=hG _ _ _ (by rw[t1];exact hw) e3;rw[t1]at h2 k1 k2
   have tP:Er l s2.ts:=λj hj=>by have:=hl j hj;omega
   obtain⟨g1,g2,g3⟩:=xf hS hG f (l++[n]) s2 l' s' h1 (λj hj=>by
    rw[List.mem_append]at hj
    rcases hj with hj|hj
    ·exact tP j hj
    ·simp at hj;subst hj;exact h3) (rD.snoc k3) e4
   rw[List.map_append,gA,k1.L9 hl]at g2
   simp only[List.map_cons,List.map_nil,bJ]at g2;exact⟨k1.trans g1,by omega,g3⟩
theorem Du{ad:List Tk}(hL:ad.length<=1001){S:M Nat}(hS:oH S wj)(hG:Grow S):Grow (union ad S):=λs n s' hw h=>by
 obtain⟨m,s1,e1,e2⟩:=ar h;obtain⟨h1,h2,h3⟩:=hS _ _ _ hw e1;obtain⟨k1,k2,k3⟩:=hG _ _ _ hw e1;obtain⟨l,s2,e3,e4⟩:=ar e2;obtain⟨g1,g2,g3,g4⟩:=rq hS _ _ _ _ _ h1 (λj hj=>by simp at hj;subst hj;exact h3) e3;obtain⟨j1,j2,j3⟩:=xf hS hG _ _ _ _ _ h1 (λj hj=>by simp at hj;subst hj;exact h3) (show rD [m] s1.ts from rD.snoc (l:=[]) k3) e3;simp only[List.length_cons,List.length_nil]at g4;simp only[List.map_cons,List.map_nil,bJ]at j2;split at e4
 ·rename_i hl;cases e4;obtain⟨n,rfl⟩:=List.length_eq_one_iff.1 hl;simp only[List.map_cons,List.map_nil,bJ]at j2;exact⟨k1.trans j1,by simp;omega,j3 _ rfl⟩
 ·obtain⟨i1,i2,i3,i4⟩:=jQ (s:=s2) ⟨λf hf=>by simp at hf,λj hj=>g3 j hj,λh=>by dsimp only at h;omega,⟨by simp,by simp⟩,λ_=>rfl,λ_ h=>absurd rfl h,λ_ _=>rfl,λ_=>(by dsimp only;omega),⟨by simp,by have:=rK _ _ _ _ _ e3;simp at this;dsimp only;omega⟩⟩ e4;simp[bJ]at i3
  exact⟨(k1.trans j1).trans i1,by omega,i4⟩
theorem BJ(ad:List Tk)(hL:ad.length<=1001):∀r,Grow (r' ad r)
 |0=>λs a s' _ h=>by cases h
 |r+1=>Du hL (rV hL (qm ad hL r)) (Bg hL (qm ad hL r) (BJ ad hL r))
end Ty
end
section
namespace Ty
mutual
def ey:Tr->List Tr
 | .mk k n p l o=>if k=10 then bQ l else [.mk k n p l o]
def bQ:List Tr->List Tr
 |[]=>[]
 |t::l=>ey t++bQ l
end
theorem mr:∀(a b:List Tr),bQ (a++b)=bQ a++bQ b
 |[],b=>by simp[bQ]
 |t::a,b=>by rw[List.cons_append,bQ,mr a b,bQ,List.append_assoc]
theorem uH(a:List Tr)(t:Tr):bQ (a++[t])=bQ a++ey t:=by
 rw[mr];simp[bQ]
mutual
theorem ri:∀t:Tr,(ey t).length<=dS t
 | .mk k n p l o=>by
  rw[ey,dS];split
  ·have:=jU l;omega
  ·simp
theorem jU:∀l:List Tr,(bQ l).length<=bJ l
 |[]=>by simp[bQ,bJ]
 |t::l=>by
  have:=ri t;have:=jU l;rw[bQ,bJ,List.length_append];omega
end
mutual
theorem xn:∀t:Tr,jM t->0<(ey t).length
 | .mk k n p l o,h=>by
  rw[jM]at h
  rw[ey];split
  ·rename_i hk;have h2:=h.1 hk
   match l,h2,h.2.2.1 with
   |t::l,_,h3=>
    rw[ie]at h3
    have:=xn t h3.1;rw[bQ,List.length_append];omega
  ·simp
end
mutual
theorem Ac:∀t:Tr,dX t->∀x∈ey t,dX x/\kindOf x≠10
 | .mk k n p l o,h,x,hx=>by
  rw[ey]at hx
  split at hx
  ·rw[dX]at h
   exact qE l h.2.2.2.2.2.2.2.2.1 x hx
  ·simp at hx;subst hx;exact⟨h,by simpa [kindOf]⟩
theorem qE:∀l:List Tr,pr l->∀x∈bQ l,dX x/\kindOf x≠10
 |[],_,x,hx=>by simp[bQ]at hx
 |t::l,h,x,hx=>by
  rw[pr]at h
  rw[bQ,List.mem_append]at hx
  rcases hx with hx|hx
  ·exact Ac t h.1 x hx
  ·exact qE l h.2 x hx
end
mutual
theorem FM:∀t:Tr,jM t->∀x∈ey t,jM x
 | .mk k n p l o,h,x,hx=>by
  rw[ey]at hx
  split at hx
  ·rw[jM]at h
   exact qV l h.2.2.1 x hx
  ·simp at hx;subst hx;exact h
theorem qV:∀l:List Tr,ie l->∀x∈bQ l,jM x
 |[],_,x,hx=>by simp[bQ]at hx
 |t::l,h,x,hx=>by
  rw[ie]at h
  rw[bQ,List.mem_append]at hx
  rcases hx with hx|hx
  ·exact FM t h.1 x hx
  ·exact qV l h.2 x hx
end
def oK(out:List Tr)(x:Tr):List Tr:=if br (λj=>alike x (out.getD j bM)) out.length then out else out++[x]
def dt(l:List Tr):List Tr:=l.foldl oK []
def C8:Tr:=.mk 5 [] [] [] []
def oU(l:List Tr):Tr:=
 if(dt (bQ l)).length=0\/br (λj=>decide (kindOf ((dt (bQ l)).getD j bM)=5)) (dt (bQ l)).length=true then C8
 else if(dt (bQ l)).length=1 then(dt (bQ l)).getD 0 bM
 else .mk 10 [] [] (dt (bQ l)) []
theorem BI(l:List Tr)(x:Tr):dt (l++[x])=oK (dt l) x:=by unfold dt;rw[List.foldl_append];rfl
theorem Jv(out:List Tr)(x:Tr): (oK out x).length<=out.length+1:=by
 unfold oK;split<;>simp
theorem o9(l:List Tr): (dt l).length<=l.length:=by
 have h:∀(l:List Tr)(o:List Tr),(l.foldl oK o).length<=o.length+l.length:=by
  intro l;induction l with
  |nil=>intro o;simp
  |cons x l ih=>intro o;have:=ih (oK o x);have:=Jv o x;simp at*;omega
 have:=h l [];rw[List.length_nil,Nat.zero_add]at this
 exact this
theorem ua(l:List Tr):∀x∈dt l,x∈l:=by
 have h:∀(l:List Tr)(o:List Tr),∀x∈l.foldl oK o,x∈o\/x∈l:=by
  intro l;induction l with
  |nil=>intro o x hx;exact .inl hx
  |cons y l ih=>
   intro o x hx;rcases ih (oK o y) x hx with h|h
   ·unfold oK at h;split at h
    ·exact .inl h
    ·rw[List.mem_append]at h
     rcases h with h|h
     ·exact .inl h
     ·simp at h;subst h;exact .inr (by simp)
   ·exact .inr (by simp[h])
 intro x hx;rcases h l [] x hx with h|h
 ·simp at h
 ·exact h
end Ty
open Ty (Tr)
theorem oh(l:List Tr)(k:Nat)(h:k<l.length):bJ (l.take k)+dS l[k]<=bJ l:=by
 conv=>rhs;rw[<-List.take_append_drop k l,gA]
 rw[List.drop_eq_getElem_cons h,bJ];omega
end
namespace Ty
def uz(sep:List UInt8):List (List UInt8)->List UInt8
 |[]=>[]
 |[x]=>x
 |x::y::l=>x++sep++uz sep (y::l)
def brk(n i k:Nat)(s:List UInt8):List UInt8:=if k=10\/k=9/\i+1<n then 40:: (s++[41])else s
def Vw(ks:List Nat)(ts:List (List UInt8)):List (List UInt8):=(List.range ts.length).map λi=>brk ts.length i (ks.getD i 0) (ts.getD i [])
def PO(n:BA)(t:List UInt8):List UInt8:=32:: (n.data.toList++[58,32]++t++[59])
def Eo:List BA->List (List UInt8)->List UInt8
 |n::ns,t::ts=>PO n t++Eo ns ts
 | _,_=>[]
def RO(k:Nat):List UInt8:=[[],[110,117,109],[98,111,111,108],[116,101,120,116],[110,117,108,108],[97,110,121],[117,110,107,110,111,119,110]].getD k []
mutual
def text:Tr->List UInt8
 | .mk k names parts list of=>
  if k=7 then [123]++Eo names (texts parts)++(if parts.length>0 then [32]else [])++[125]
  else if k=8 then [91]++(texts of).headD []++[93]
  else if k=9 then [40]++uz [44,32] (texts list)++[41,32,61,62,32]++(texts of).headD []
  else if k=10 then uz [32,124,32] (Vw (list.map kindOf) (texts list))
  else RO k
def texts:List Tr->List (List UInt8)
 |[]=>[]
 |t::l=>text t::texts l
end
mutual
def fS:Tr->Prop
 | .mk _ names parts list of=>(∀n∈names,n.size<=20)/\di parts/\di list/\di of
def di:List Tr->Prop
 |[]=>True
 |t::l=>fS t/\di l
end
theorem uU{l:List Tr}(h:di l):∀t∈l,fS t:=by
 induction l with
 |nil=>intro t ht;simp at ht
 |cons a l ih=>
  rw[di]at h
  intro t ht;rcases List.mem_cons.1 ht with rfl|ht
  ·exact h.1
  ·exact ih h.2 t ht
theorem Gm{l:List Tr}(h:∀t∈l,fS t):di l:=by
 induction l with
 |nil=>rw[di];trivial
 |cons a l ih=>rw[di];exact⟨h a (by simp),ih λt ht=>h t (by simp[ht])⟩
end Ty
section
namespace Ty
open Tok (Tk)
structure NameOk(x:BA):Prop where
 size:x.size<=20
 head:∃c l,x.data.toList=c::l/\eN c=true/\∀d∈l,dP d=true
 word:Tok.isWord x=false
theorem jj{α:Type}(p:α->Bool):∀(l:List α),∀d∈l.takeWhile p,p d=true
 |[],d,h=>by simp at h
 |a::l,d,h=>by
  rw[List.takeWhile_cons]at h
  split at h
  ·rcases List.mem_cons.1 h with rfl|h
   ·assumption
   ·exact jj p l d h
  ·simp at h
theorem jO(p:UInt8->Bool)(s:BA)(k:Nat)(_:k<=s.size): (s.extract k (Tok.stop p s k)).data.toList=(s.data.toList.drop k).takeWhile p:=by
 simp only[ByteArray.data_extract,Array.toList_extract,List.extract_eq_take_drop,Tok.stop];rw[Nat.add_sub_cancel_left];exact(List.prefix_iff_eq_take.1 (List.takeWhile_prefix p)).symm
theorem FU(s:BA)(k:Nat)(h:k<s.size)(aH: (Tok.next s k).2.2=true)(hk: (Tok.next s k).1.kind=1):NameOk (Tok.next s k).1.text:=by
 unfold Tok.next at aH hk⊢;by_cases hl:eN (Tok.byte s k)=true
 ·simp only[hl,if_true]at aH hk⊢;have gJ:=fY dP s k;have hle:=jf dP s k (by omega);refine⟨?_,?_,?_⟩
  ·have:=of_decide_eq_true aH;simp only[ByteArray.size_extract];omega
  ·rw[jO _ _ _ (by omega),Tok.drop_cons s k h,List.takeWhile_cons,if_pos (by rw[<-ef];simp[dP,hl])];exact⟨_,_,rfl,by rw[<-ef];exact hl,jj _ _⟩
  ·split at hk
   ·cases hk
   ·rename_i h2;simpa using h2
 ·simp only[hl,if_false,Bool.false_eq_true]at hk;split at hk
  ·cases hk
  ·split at hk
   ·cases hk
   ·split at hk<;>cases hk
structure NmT(l:List (BA×Nat)):Prop where
 ok:∀f∈l,NameOk f.1
 nodup: (l.map Prod.fst).Nodup
theorem NmT.nil:NmT []:=⟨λf h=>by simp at h,by simp⟩
def Nm(ts:List Ty):Prop:=∀t∈ts,NmT t.fields
theorem Nm.nil:Nm []:=λt h=>by simp at h
def NK{α:Type}(m:M α)(P:α->Prop):Prop:=∀s a s',Nm s.ts->m s=.ok (a,s')->Nm s'.ts/\P a
theorem NK.aq{α β:Type}{m:M α}{k:α->M β}{P:α->Prop}{Q:β->Prop}(h:NK m P)(g:∀a,P a->NK (k a) Q):NK (Ty.aq m k) Q:=λs b s' hn e=>by
 obtain⟨a,s1,e1,e2⟩:=ar e;obtain⟨h1,h2⟩:=h _ _ _ hn e1;exact g a h2 _ _ _ h1 e2
theorem NK.ret{α:Type}(a:α){P:α->Prop}(h:P a):NK (ret a) P:=λs b s' hn e=>by cases e;exact⟨hn,h⟩
theorem NK.fail{α:Type}(ad:List Tk)(n:Nat)(P:α->Prop):NK (fail (α:=α) ad n) P:=λs b s' _ e=>by cases e
theorem NK.step:NK step λ_=>True:=λs b s' hn e=>by cases e;exact⟨hn,trivial⟩
theorem NK.take(ad:List Tk)(x:List UInt8):NK (take ad x) λ_=>True:=λs b s' hn e=>⟨by rw[ep _ _ e];exact hn,trivial⟩
theorem NK.need(ad:List Tk)(x:List UInt8):NK (need ad x) λ_=>True:=λs b s' hn e=>⟨by rw[fg _ _ e];exact hn,trivial⟩
theorem NK.aY(t:Ty)(h:NmT t.fields):NK (aY t) λ_=>True:=λs b s' hn e=>by
 cases e;refine⟨λu hu=>?_,trivial⟩;rw[List.mem_append]at hu
 rcases hu with hu|hu
 ·exact hn u hu
 ·simp at hu;subst hu;exact h
theorem NK.ite{α:Type}{p:Prop} [Decidable p]{m n:M α}{P:α->Prop}(h:NK m P)(g:NK n P):NK (if p then m else n) P:=by
 split
 ·exact h
 ·exact g
theorem NK.name{ad:List Tk}(ht:∀t∈ad,t.kind=1->NameOk t.text)(met:List BA):NK (name ad met) λx=>NameOk x/\x∉met:=λs x s' hn e=>by
 refine⟨by rw[rF _ _ e];exact hn,?_⟩;unfold Ty.name at e;split at e
 ·cases e
 ·rename_i hk;split at e
  ·cases e
  ·rename_i hm;cases e;constructor
   ·refine ht _ ?_ (by simpa using hk);unfold cur at hk⊢;cases h:ad[s.pos]? with
    |none=>rw[h]at hk;simp at hk
    |some t=>exact List.mem_of_getElem? h
   ·intro hx;exact hm (List.mem_map_of_mem hx)
theorem Ed{ad:List Tk}{x:List UInt8}{T:M Nat}(hT:NK T λ_=>True):∀f l,NK (list ad x (λ_=>T) f l) λ_=>True
 |0,_=>NK.fail _ _ _
 |f+1,_=>(NK.take _ _).aq λ_ _=>NK.ite (NK.ret _ trivial) ((NK.ite (NK.ret _ trivial) (NK.need _ _)).aq λ_ _=>hT.aq λ_ _=>Ed hT f _)
theorem wX{ad:List Tk}(ht:∀t∈ad,t.kind=1->NameOk t.text){T:M Nat}(hT:NK T λ_=>True):∀f l,NmT l->NK (fields ad T f l) NmT
 |0,_,_=>NK.fail _ _ _
 |f+1,l,hl=>(NK.take _ _).aq λb _=>NK.ite (NK.ret _ hl) ((NK.name ht _).aq λs hs=>(NK.need _ _).aq λ_ _=>hT.aq λn _=>(NK.need _ _).aq λ_ _=>wX ht hT f _ ⟨λf hf=>by
   rw[List.mem_append]at hf
   rcases hf with hf|hf
   ·exact hl.ok f hf
   ·simp at hf;subst hf;exact hs.1,by
   rw[List.map_append,List.nodup_append];refine⟨hl.nodup,by simp,λa ha b hb=>?_⟩;simp at hb;subst hb;intro e;subst e;exact hs.2 ha⟩)
theorem J3{ad:List Tk}{T:M Nat}(hT:NK T λ_=>True):NK (round ad T) λ_=>True:=
 (Ed hT _ _).aq λ_ _=>(NK.take _ _).aq λ_ _=>NK.ite (hT.aq λ_ _=>NK.aY _ NmT.nil) (NK.ite (NK.ret _ trivial) (NK.fail _ _ _))
theorem E7{ad:List Tk}(ht:∀t∈ad,t.kind=1->NameOk t.text){T:M Nat}(hT:NK T λ_=>True):NK (single ad T) λ_=>True:=λs n s' hn h=>by
 unfold single at h;split at h
 ·exact(NK.step.aq λ_ _=>NK.aY _ NmT.nil) s n s' hn h
 ·exact((NK.take _ _).aq λb _=>NK.ite ((wX ht hT _ _ NmT.nil).aq λl hl=>NK.aY _ hl) ((NK.take _ _).aq λb _=>NK.ite (hT.aq λn _=>(NK.need _ _).aq λ_ _=>NK.aY _ NmT.nil) ((NK.need _ _).aq λ_ _=>J3 hT))) s n s' hn h
theorem Ef{ad:List Tk}{S:M Nat}(hS:NK S λ_=>True):∀f l,NK (bars ad S f l) λ_=>True
 |0,_=>NK.fail _ _ _
 |f+1,_=>(NK.take _ _).aq λ_ _=>NK.ite (hS.aq λ_ _=>Ef hS f _) (NK.ret _ trivial)
theorem KR{ad:List Tk}{S:M Nat}(hS:NK S λ_=>True):NK (union ad S) λ_=>True:=
 hS.aq λ_ _=>(Ef hS _ _).aq λ_ _=>NK.ite (NK.ret _ trivial) (NK.aY _ NmT.nil)
theorem Lw{ad:List Tk}(ht:∀t∈ad,t.kind=1->NameOk t.text):∀r,NK (r' ad r) λ_=>True
 |0=>NK.fail _ _ _
 |r+1=>KR (E7 ht (Lw ht r))
mutual
def Ri:Tr->Prop
 | .mk _ names parts list of=>(∀n∈names,NameOk n)/\names.Nodup/\Mt parts/\Mt list/\Mt of
def Mt:List Tr->Prop
 |[]=>True
 |t::l=>Ri t/\Mt l
end
theorem Cs{l:List Tr}(h:∀t∈l,Ri t):Mt l:=by
 induction l with
 |nil=>rw[Mt];trivial
 |cons a l ih=>rw[Mt];exact⟨h a (by simp),ih λt ht=>h t (by simp[ht])⟩
mutual
theorem A9:∀t:Tr,Ri t->fS t
 | .mk k names parts list of,h=>by
  rw[Ri]at h
  rw[fS];exact⟨λn hn=>(h.1 n hn).size,om _ h.2.2.1,om _ h.2.2.2.1,om _ h.2.2.2.2⟩
theorem om:∀l:List Tr,Mt l->di l
 |[],_=>by rw[di];trivial
 |t::l,h=>by
  rw[Mt]at h
  rw[di];exact⟨A9 t h.1,om l h.2⟩
end
theorem Pw{ts:List Ty}(hw:Wf ts)(hn:Nm ts):∀N n,n<N->n<ts.length->Ri (den ts n):=by
 intro N;induction N with
 |zero=>intro n h;omega
 |succ N ih=>
  intro n hN hl;have hg:ts[n]?=some ts[n]:=List.getElem?_eq_getElem hl;have oj:=hw n _ hg;have Zp:=hn ts[n] (gM _);rw[yI hw hg,Ri];refine⟨λx hx=>?_,Zp.nodup,Cs λt ht=>?_,Cs λt ht=>?_,Cs λt ht=>?_⟩
  ·obtain⟨f,hf,rfl⟩:=List.mem_map.1 hx;exact Zp.ok f hf
  ·obtain⟨f,hf,rfl⟩:=List.mem_map.1 ht;have:=oj.fields f hf;exact ih _ (by omega) (by omega)
  ·obtain⟨j,hj,rfl⟩:=List.mem_map.1 ht;have:=oj.list j hj;exact ih _ (by omega) (by omega)
  ·split at ht
   ·rename_i hk;simp at ht;subst ht;have:=oj.of hk;exact ih _ (by omega) (by omega)
   ·simp at ht
end Ty
end
section
namespace Ty
open Tok (Tk)
structure NumOk(x:BA):Prop where
 size:x.size<=9
 Z':∀d∈x.data.toList,Tok.isDigit d=true
 ne:x.data.toList≠[]
 nz:x.data.toList.length=1\/x.data.toList.head?≠some 48
def C0(ad:List Tk):Prop:=∀t∈ad,t.kind=3->NumOk t.text
theorem A_(s:BA)(k:Nat)(h:k<s.size)(aH: (Tok.next s k).2.2=true)(hk: (Tok.next s k).1.kind=3):NumOk (Tok.next s k).1.text:=by
 unfold Tok.next at aH hk⊢;by_cases hl:eN (Tok.byte s k)=true
 ·simp only[hl,if_true]at hk;split at hk<;>cases hk
 ·simp only[hl,if_false,Bool.false_eq_true]at aH hk⊢;by_cases hd:Tok.isDigit (Tok.byte s k)=true
  ·simp only[hd,if_true]at aH⊢;have gJ:=fY Tok.isDigit s k;have hle:=jf Tok.isDigit s k (by omega);simp only[Bool.and_eq_true,Bool.or_eq_true,decide_eq_true_eq,Bool.not_eq_true',decide_eq_false_iff_not]at aH;have cu: (s.extract k (Tok.stop Tok.isDigit s k)).data.toList.length=Tok.stop Tok.isDigit s k-k:=by
    have: (s.extract k (Tok.stop Tok.isDigit s k)).size=Tok.stop Tok.isDigit s k-k:=by simp only[ByteArray.size_extract];omega
    rw[<-this];exact Array.length_toList
   have hx: (s.extract k (Tok.stop Tok.isDigit s k)).data.toList=s[k]:: (s.data.toList.drop (k+1)).takeWhile Tok.isDigit:=by
    rw[jO _ _ _ (by omega),Tok.drop_cons s k h,List.takeWhile_cons,if_pos (by rw[<-ef];exact hd)]
   refine⟨?_,?_,?_,?_⟩
   ·simp only[ByteArray.size_extract];omega
   ·rw[jO _ _ _ (by omega)];exact jj _ _
   ·rw[hx];simp
   ·rcases aH.2 with h1|h1
    ·left;omega
    ·right;rw[hx];intro e;simp only[List.head?_cons,Option.some.injEq]at e;exact h1 (by rw[ef s k h];exact e)
  ·simp only[hd,if_false,Bool.false_eq_true]at hk;split at hk
   ·cases hk
   ·split at hk<;>cases hk
theorem kY(s:BA):∀(f k:Nat)(o l:List Tk),c_ s f k o=.ok l->C0 o->C0 l
 |0,k,o,l,h,ho=>by cases h;exact ho
 |f+1,k,o,l,h,ho=>by
  rw[c_]at h
  split at h
  ·rename_i hk;split at h
   ·exact kY s f _ _ _ h ho
   ·split at h
    ·cases h
    ·rename_i aH;split at h
     ·cases h
     ·refine kY s f _ _ _ h λt ht=>?_
      rw[List.mem_append]at ht
      rcases ht with ht|ht
      ·exact ho t ht
      ·simp at ht;subst ht;exact A_ s k hk (by simpa using aH)
  ·cases h;intro t ht;rw[List.mem_append]at ht
   rcases ht with ht|ht
   ·exact ho t ht
   ·simp at ht;subst ht;intro h;cases h
theorem FO{s:BA}{l:List Tk}(h:Tok.scan s=.ok l):C0 l:=by
 unfold Tok.scan at h;split at h
 ·cases h
 ·exact kY s _ _ _ _ h λt ht=>by simp at ht
theorem AO{d:UInt8}(h:Tok.isDigit d=true):Lib.digitVal d=some (d.toNat-48):=by
 unfold Tok.isDigit at h;simp at h;unfold Lib.digitVal;rw[if_pos h]
theorem qD:∀(l:List UInt8)(acc:Nat),(∀d∈l,Tok.isDigit d=true)->Lib.decFrom acc l=some (l.foldl (λn c=>10*n+(c.toNat-48)) acc)
 |[],acc,_=>rfl
 |c::l,acc,h=>by
  rw[Lib.decFrom,AO (h c (by simp))];dsimp only;rw[qD l _ (λd hd=>h d (by simp[hd])),List.foldl_cons,Nat.mul_comm acc 10]
theorem DC{x:BA}(h:NumOk x):Lib.atoi x.data.toList=some ((value x:Nat):Int):=by
 unfold value;cases e:x.data.toList with
 |nil=>exact absurd e h.ne
 |cons c l=>
  have hd:=h.Z';rw[e]at hd
  have hc:=hd c (by simp);unfold Tok.isDigit at hc;simp at hc;rw[Lib.atoi,if_neg (by intro acI;have:=beq_iff_eq.1 acI;subst this;simp at hc),if_neg (by intro acf;have:=beq_iff_eq.1 acf;subst this;simp at hc)];unfold Lib.decNat;rw[if_neg (by simp),qD _ _ hd];rfl
end Ty
end
end Go.Proofs.YtdlbhiaceheffabGreatDoor
