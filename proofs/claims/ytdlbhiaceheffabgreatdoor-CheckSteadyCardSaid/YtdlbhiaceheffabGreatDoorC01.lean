/- Plain definitions and facts on bytes, texts and tokens: what the scanners compute. No program in sight. -/
import Derived.Lib.Hide
set_option linter.all false
namespace Go.Proofs.YtdlbhiaceheffabGreatDoor
open Go Go.RowKit
def Hq(p:Prop):Prop:=p
theorem Hq.o{p:Prop}(h:Hq p):p:=h
theorem Hq.out{p:Prop}(h:Hq p):p:=h
theorem qh{p:Prop}(h:p):Hq p:=h
abbrev EW:=Ending->World->Prop
abbrev BA:=ByteArray
def Ty.q0:=0
def Tryz.q0:=0
def nR:=@Nat.le_refl
def nT:=@Nat.le_trans
def nL:=@Nat.lt_of_lt_of_le
def gM:=@List.getElem_mem
def bR:=@Below.refl
open Ty
def lyA:=@List.getElem_toArray
def lyB:=@List.getElem_cons_zero
def lyC:=@List.getElem_cons_succ
def lyD:=@List.setIfInBounds_toArray
def lyE:=@List.set_cons_zero
def lyF:=@List.set_cons_succ
theorem lzA{α:Type}{a b:List α}: (a++b).length=a.length+b.length:=List.length_append
theorem lzC{α:Type}{a:α}{l:List α}: (a::l).length=l.length+1:=rfl
theorem lzN{α:Type}: ([]:List α).length=0:=rfl
theorem kF{k K:Nat}(h:k=K)(z:Int)(e: (((K:Nat):Int)==z)=false:=by rfl): (((k:Nat):Int)==z)=false:=by rw[h];exact e
theorem kT{k K:Nat}(h:k=K)(z:Int)(e: (((K:Nat):Int)==z)=true:=by rfl): (((k:Nat):Int)==z)=true:=by rw[h];exact e
theorem kN(k n:Nat)(z:Int)(h:k≠n:=by omega)(hz:z=n:=by rfl): (((k:Nat):Int)==z)=false:=by subst hz;exact beq_eq_false_iff_ne.2 (by omega)
namespace Tok
def isDigit(c:UInt8):Bool:=decide (48<=c.toNat)&&decide (c.toNat<=57)
def cJ(c:UInt8):Bool:=decide (97<=c.toNat)&&decide (c.toNat<=122)||(decide (65<=c.toNat)&&decide (c.toNat<=90))||decide (c.toNat=95)
def c_(c:UInt8):Bool:=cJ c||isDigit c
def cM(c:UInt8):Bool:=decide (32<=c.toNat)&&decide (c.toNat<=126)&&!decide (c.toNat=34)
def stop(p:UInt8->Bool)(s:BA)(k:Nat):Nat:=k+((s.data.toList.drop k).takeWhile p).length
theorem drop_cons(s:BA)(k:Nat)(h:k<s.size):s.data.toList.drop k=s[k]::s.data.toList.drop (k+1):=by
 have h':k<s.data.toList.length:=by simpa using h
 rw[List.drop_eq_getElem_cons h'];rfl
theorem pU{p:UInt8->Bool}{s:BA}{k:Nat}(h:k<s.size)(hp:p s[k]=true):stop p s (k+1)=stop p s k:=by
 unfold stop;rw[drop_cons s k h];simp[hp];omega
theorem J9{p:UInt8->Bool}{s:BA}{k:Nat}(h:k<s.size)(hp:p s[k]=false):stop p s k=k:=by
 simp_all[stop,drop_cons]
theorem M_{p:UInt8->Bool}{s:BA}{k:Nat}(h:s.size<=k):stop p s k=k:=by
 simp_all[stop,List.drop_eq_nil_of_le]
theorem je(p:UInt8->Bool)(s:BA)(k:Nat):k<=stop p s k:=by unfold stop;omega
theorem jF(p:UInt8->Bool)(s:BA)(k:Nat)(h:k<=s.size):stop p s k<=s.size:=by
 unfold stop;have h1: ((s.data.toList.drop k).takeWhile p).length<=(s.data.toList.drop k).length:=(List.takeWhile_sublist p).length_le;have h2: (s.data.toList.drop k).length=s.size-k:=by simp
 omega
def oZ:List (List UInt8):=
 [[108,101,116],[102,110],[105,102],[101,108,115,101],[119,104,105,108,101],[114,101,116,117,114,110],[112,114,105,110,116],[116,114,117,101],[102,97,108,115,101],[110,117,108,108],[97,115],[116,121,112,101,111,102],[110,117,109],[98,111,111,108],[116,101,120,116],[97,110,121],[117,110,107,110,111,119,110]]
def words:List BA:=oZ.map λl=>⟨l.toArray⟩
def isWord(x:BA):Bool:=decide (x.data.toList∈oZ)
theorem F7(x:BA):isWord x=true↔x∈words:=by
 grind [isWord,words]
structure Tk where
 kind:Nat
 text:BA
 pos:Nat
def nA(c:UInt8):Bool:=decide (c∈[40,41,123,125,91,93,44,59,58,46,61,60,43,45,42,33,124].map (λn:Nat=>n.toUInt8))
def byte(s:BA)(k:Nat):UInt8:=s.data.toList.getD k 0
def two(s:BA)(k:Nat):Bool:=decide (k+1<s.size)&&byte s k==61&&(byte s (k+1)==61||byte s (k+1)==62)
def next(s:BA)(k:Nat):Tk×Nat×Bool:=
 let c:=byte s k
 if cJ c then
  let e:=stop c_ s k
  (⟨if isWord (s.extract k e)then 2 else 1,s.extract k e,k⟩,e-k,decide (e-k<=20))
 else if isDigit c then
  let e:=stop isDigit s k
  (⟨3,s.extract k e,k⟩,e-k,decide (e-k<=9)&&(decide (e-k=1)||!decide (c=48)))
 else if c=34 then
  let e:=stop cM s (k+1)
  (⟨4,s.extract (k+1) e,k⟩,e-k+1,decide (e-(k+1)<=30)&&(decide (e<s.size)&&decide (byte s e=34)))
 else if two s k then(⟨5,s.extract k (k+2),k⟩,2,true)
 else(⟨5,s.extract k (k+1),k⟩,1,nA c)
abbrev adJ:=Except (Nat×Nat) (List Tk)
def bL(s:BA):Nat->Nat->List Tk->adJ
 |0,_,out=>.ok out
 |f+1,k,out=>
  if k<s.size then
   if byte s k=32\/byte s k=10 then bL s f (k+1) out
   else if(next s k).2.2=false then .error (1,k)
   else if out.length=1000 then .error (2,k)
   else bL s f (k+(next s k).2.1) (out++[(next s k).1])
  else .ok (out++[⟨6,⟨#[]⟩,s.size⟩])
def scan(s:BA):adJ:=if 4000<s.size then .error (2,0)else bL s (s.size+1) 0 []
theorem ei(s:BA)(k:Nat)(h:k<s.size):byte s k=s[k]:=by
 have h':k<s.data.toList.length:=by simpa using h
 unfold byte;rw[List.getD_eq_getElem?_getD,List.getElem?_eq_getElem h'];rfl
theorem zT(s:BA)(k e i:Nat)(h:i<(s.extract k e).size): (s.extract k e)[i]=byte s (k+i):=by
 grind [ByteArray.getElem_extract,ei]
theorem ZV(c:UInt8):c=48↔(c.toNat:Int)=48:=by rw[<-UInt8.toNat_inj];simp;omega
theorem XV(c:UInt8):c=34↔(c.toNat:Int)=34:=by rw[<-UInt8.toNat_inj];simp;omega
theorem aa3(c:UInt8):c=32↔(c.toNat:Int)=32:=by rw[<-UInt8.toNat_inj];simp;omega
theorem aaA(c:UInt8):c=10↔(c.toNat:Int)=10:=by rw[<-UInt8.toNat_inj];simp;omega
theorem kW(s:BA)(k:Nat):List.take (s.size-k) (List.drop k s.data.toList)=List.drop k s.data.toList:=List.take_of_length_le (by simp)
theorem He(s:BA)(k:Nat)(a b:UInt8):List.isPrefixOf [a,b] (List.drop k s.data.toList)=(decide (k+1<s.size)&&(byte s k==a&&byte s (k+1)==b)):=by
 by_cases h:k+1<s.size
 ·grind [drop_cons,ei]
 ·by_cases h1:k<s.size
  ·rw[drop_cons s k h1,List.drop_eq_nil_of_le (by simp;omega)]
   grind
  ·rw[List.drop_eq_nil_of_le (by simp;omega)]
   grind
theorem Tw(s:BA)(k:Nat):two s k=(List.isPrefixOf [61,61] (List.drop k s.data.toList)||List.isPrefixOf [61,62] (List.drop k s.data.toList)):=by
 grind [He,two]
theorem OV(s:BA)(k:Nat)(h:two s k=true):k+1<s.size:=by
 grind [two]
theorem B0(s:BA)(k:Nat)(a b:UInt8)(h:List.isPrefixOf [a,b] (List.drop k s.data.toList)=true):s.extract k (k+2)=⟨#[a,b]⟩:=by
 rw[He]at h
 simp at h;obtain⟨h1,h2,h3⟩:=h;apply ByteArray.ext;apply Array.ext';rw[ei s k (by omega)]at h2
 rw[ei s (k+1) h1]at h3
 have hd:=drop_cons s k (by omega);simp_all[drop_cons]
theorem qS(s:BA)(k:Nat)(h:k<s.size)(ok: (next s k).2.2=true):1<=(next s k).2.1/\k+(next s k).2.1<=s.size:=by
 unfold next at ok⊢;by_cases hl:cJ (byte s k)=true
 ·simp only[hl,if_true]at ok⊢;have h1:=pU (p:=c_) h (by rw[<-ei];simp[c_,hl])
  grind [je,jF]
 ·by_cases hd:isDigit (byte s k)=true
  ·simp only[hl,hd,if_true]at ok⊢;have h1:=pU (p:=isDigit) h (by rw[<-ei];exact hd)
   grind [je,jF]
  ·by_cases hq:byte s k=34
   ·simp only[hl,hd,if_false,Bool.false_eq_true]at ok⊢;rw[if_pos hq]at ok⊢
    have h2:=je cM s (k+1);have h3:stop cM s (k+1)<s.size:=by simp at ok;exact ok.2.1
    show 1<=stop cM s (k+1)-k+1/\k+(stop cM s (k+1)-k+1)<=s.size;omega
   grind [two]
end Tok
namespace Tok
theorem Da(s:BA):∀(f k:Nat)(o l:List Tk),k<=s.size->s.size<k+f->o.length<=1000->bL s f k o=.ok l->l≠[]/\l.length<=1001:=by
 intro f;induction f with
 |zero=>intro k o l hk hf;omega
 |succ f ih=>
  intro k o l hk hf ho h;rw[bL]at h
  by_cases bz:k<s.size
  ·rw[if_pos bz]at h
   by_cases hb:byte s k=32\/byte s k=10
   ·rw[if_pos hb]at h
    exact ih (k+1) o l (by omega) (by omega) ho h
   ·rw[if_neg hb]at h
    by_cases aD: (next s k).2.2=false
    ·rw[if_pos aD]at h;cases h
    ·rw[if_neg aD]at h
     by_cases hl:o.length=1000
     ·rw[if_pos hl]at h;cases h
     ·rw[if_neg hl]at h
      have hn:=qS s k bz (by simpa using aD);exact ih _ _ l (by omega) (by omega) (by simp;omega) h
  ·rw[if_neg bz]at h
   obtain rfl:=Except.ok.inj h;simp;omega
theorem qe(s:BA)(l:List Tk)(h:scan s=.ok l):l≠[]/\l.length<=1001/\s.size<=4000:=by
 unfold scan at h;by_cases hs:4000<s.size
 ·rw[if_pos hs]at h;cases h
 ·rw[if_neg hs]at h
  have:=Da s (s.size+1) 0 [] l (by omega) (by omega) (by simp) h;exact⟨this.1,this.2,by omega⟩
end Tok
section
namespace Ty
open Tok (Tk)
structure Ty where
 kind:Nat
 fields:List (BA×Nat)
 list:List Nat
 of:Nat
structure Nd where
 kind:Nat
 a:Nat
 b:Nat
 c:Int
 list:List Nat
 text:BA
 n:Nat
 ty:Int
 pos:Nat
abbrev Ft:=Nat×Nat
structure St where
 pos:Nat
 ts:List Ty
 ns:List Nd
def M(α:Type):=St->Except Ft (α×St)
def ret{α:Type}(a:α):M α:=λs=>.ok (a,s)
def ak{α β:Type}(m:M α)(k:α->M β):M β:=λs=>match m s with
 | .error e=>.error e
 | .ok (a,s')=>k a s'
theorem aj{α β:Type}{m:M α}{k:α->M β}{s s':St}{a:α}(h:m s=.ok (a,s')):ak m k s=k a s':=by grind [ak]
theorem aL{α β:Type}{m:M α}{k:α->M β}{s:St}{e:Ft}(h:m s=.error e):ak m k s=.error e:=by grind [ak]
theorem ah{α β:Type}{m:M α}{k:α->M β}{s s':St}{b:β}(h:ak m k s=.ok (b,s')):∃a s1,m s=.ok (a,s1)/\k a s1=.ok (b,s'):=by
 grind [ak]
def cur(ad:List Tk)(pos:Nat):Tk:=(ad[pos]?).getD ⟨6,⟨#[]⟩,0⟩
def here(ad:List Tk)(e pos:Nat):Ft:=(e,(cur ad pos).pos)
def is(ad:List Tk)(s:List UInt8)(pos:Nat):Bool:=(decide ((cur ad pos).kind=5)||decide ((cur ad pos).kind=2))&&decide ((cur ad pos).text.data.toList=s)
def fail{α:Type}(ad:List Tk)(e:Nat):M α:=λs=>.error (here ad e s.pos)
def step:M Unit:=λs=>.ok ((),{s with pos:=s.pos+1})
def take(ad:List Tk)(x:List UInt8):M Bool:=λs=>if is ad x s.pos then .ok (true,{s with pos:=s.pos+1})else .ok (false,s)
def need(ad:List Tk)(x:List UInt8):M Unit:=λs=>if is ad x s.pos then .ok ((),{s with pos:=s.pos+1})else .error (here ad 1 s.pos)
def name(ad:List Tk)(met:List BA):M BA:=λs=>
 if(cur ad s.pos).kind≠1 then .error (here ad 1 s.pos)
 else if(cur ad s.pos).text.data.toList∈met.map (λt=>t.data.toList)then .error (here ad 6 s.pos)
 else .ok ((cur ad s.pos).text,{s with pos:=s.pos+1})
def aP(t:Ty):M Nat:=λs=>.ok (s.ts.length,{s with ts:=s.ts++[t]})
def v8:List (List UInt8):=[[110,117,109],[98,111,111,108],[116,101,120,116],[110,117,108,108],[97,110,121],[117,110,107,110,111,119,110]]
def bI(x:BA):Nat:=match v8.idxOf? x.data.toList with|some i=>i+1|none=>0
def list{α:Type}(ad:List Tk)(e:List UInt8)(m:List α->M α):Nat->List α->M (List α)
 |0,_=>fail ad 1
 |f+1,l=>ak (take ad e) λb=>if b then ret l else
   ak (if l.length=0 then ret ()else need ad [44]) λ_=>ak (m l) λn=>list ad e m f (l++[n])
def fields(ad:List Tk)(T:M Nat):Nat->List (BA×Nat)->M (List (BA×Nat))
 |0,_=>fail ad 1
 |f+1,l=>ak (take ad [125]) λb=>if b then ret l else
   ak (name ad (l.map Prod.fst)) λs=>ak (need ad [58]) λ_=>ak T λn=>ak (need ad [59]) λ_=>fields ad T f (l++[(s,n)])
def object(ad:List Tk)(T:M Nat):M Nat:=ak (fields ad T (ad.length+1) []) λl=>aP ⟨7,l,[],0⟩
def round(ad:List Tk)(T:M Nat):M Nat:=
 ak (list ad [41] (λ_=>T) (ad.length+1) []) λl=>ak (take ad [61,62]) λb=>
  if b then ak T λn=>aP ⟨9,[],l,n⟩
  else if l.length=1 then ret (l.headD 0)else fail ad 1
def single(ad:List Tk)(T:M Nat):M Nat:=λs=>
 if(cur ad s.pos).kind=2/\bI (cur ad s.pos).text>0 then ak step (λ_=>aP ⟨bI (cur ad s.pos).text,[],[],0⟩) s
 else ak (take ad [123]) (λb=>if b then object ad T else
  ak (take ad [91]) λb=>if b then ak T λn=>ak (need ad [93]) λ_=>aP ⟨8,[],[],n⟩else
   ak (need ad [40]) λ_=>round ad T) s
def bars(ad:List Tk)(S:M Nat):Nat->List Nat->M (List Nat)
 |0,_=>fail ad 1
 |f+1,l=>ak (take ad [124]) λb=>if b then ak S λn=>bars ad S f (l++[n])else ret l
def union(ad:List Tk)(S:M Nat):M Nat:=
 ak S λn=>ak (bars ad S (ad.length+1) [n]) λl=>if l.length=1 then ret (l.headD 0)else aP ⟨10,[],l,0⟩
def eJ(ad:List Tk):Nat->M Nat
 |0=>fail ad 8
 |r+1=>union ad (single ad (eJ ad r))
def typeOf(s:BA):Except Ft (List Ty):=
 match Tok.scan s with
 | .error e=>.error e
 | .ok ad=>match eJ ad 20 ⟨0,[],[]⟩with
  | .error e=>.error e
  | .ok (_,st)=>if(cur ad st.pos).kind≠6 then .error (here ad 1 st.pos)else if st.ts.length>300 then .error (2,0)else .ok st.ts
def bh{α:Type}(d c e:Int)(m:M α):Prop:=∀s a s',m s=.ok (a,s')->(s.pos:Int)+d<=s'.pos/\(s'.ts.length:Int)+s.pos+c<=s.ts.length+s'.pos/\(s'.ns.length:Int)+s.pos+e<=s.ns.length+s'.pos
theorem bh.mono{α:Type}{d c e d' c' e':Int}{m:M α}(h:bh d c e m)(hd:d'<=d:=by omega)(hc:c'<=c:=by omega)(he:e'<=e:=by omega):bh d' c' e' m:=λs a s' k=>by have:=h s a s' k;omega
theorem bh.ret{α:Type}(a:α):bh 0 0 0 (ret a):=λs b s' e=>by cases e;simp
theorem bh.fail{α:Type}(ad:List Tk)(n:Nat)(d c e:Int):bh d c e (fail (α:=α) ad n):=λs b s' h=>by cases h
theorem bh.step:bh 1 1 1 step:=λs b s' e=>by cases e;simp;omega
theorem bh.need(ad:List Tk)(x:List UInt8):bh 1 1 1 (need ad x):=λs b s' e=>by
 grind [Ty.need]
theorem bh.name(ad:List Tk)(met:List BA):bh 1 1 1 (name ad met):=λs b s' e=>by
 grind [Ty.name]
theorem bh.aP(t:Ty):bh 0 (-1) 0 (aP t):=λs b s' e=>by cases e;simp;omega
theorem bh.ak{α β:Type}{m:M α}{k:α->M β}{d c e d' c' e':Int}(h:bh d c e m)(g:∀a,bh d' c' e' (k a)):bh (d+d') (c+c') (e+e') (Ty.ak m k):=λs b s' x=>by
 obtain⟨a,s1,e1,e2⟩:=ah x;have:=h _ _ _ e1;have:=g a _ _ _ e2;omega
theorem bh.take{β:Type}(ad:List Tk)(x:List UInt8){k:Bool->M β}{d c e:Int}(h1:bh (d-1) (c-1) (e-1) (k true))(h2:bh d c e (k false)):bh d c e (Ty.ak (Ty.take ad x) k):=λs b s' y=>by
 obtain⟨a,s1,e1,e2⟩:=ah y;unfold Ty.take at e1;split at e1<;>cases e1
 ·have:=h1 _ _ _ e2
  grind
 ·exact h2 _ _ _ e2
theorem bh.ite{α:Type}{p:Prop} [Decidable p]{m n:M α}{d c e:Int}(h:p->bh d c e m)(g:¬p->bh d c e n):bh d c e (if p then m else n):=by
 grind
theorem hU{α:Type}{ad:List Tk}{x:List UInt8}{m:List α->M α}(hm:∀l,bh 1 0 0 (m l)):∀f l,bh 1 1 1 (list ad x m f l)
 |0,_=>bh.fail _ _ _ _ _
 |f+1,l=>by
  refine bh.take _ _ ?_ ?_
  ·grind [bh.ret]
  ·simp;exact((bh.ite (d:=0) (λ_=>bh.ret ()) (λ_=>(bh.need _ _).mono)).ak λ_=>(hm l).ak λn=>hU hm f (l++[n])).mono
theorem wU{ad:List Tk}{T:M Nat}(hT:bh 1 0 0 T):∀f l,bh 1 1 1 (fields ad T f l)
 |0,_=>bh.fail _ _ _ _ _
 |f+1,l=>by
  refine bh.take _ _ ?_ ?_
  ·grind [bh.ret]
  ·simp;exact((bh.name _ _).ak λs=>(bh.need _ _).ak λ_=>hT.ak λn=>(bh.need _ _).ak λ_=>wU hT f (l++[(s,n)])).mono
theorem Er{ad:List Tk}{T:M Nat}(hT:bh 1 0 0 T):bh 1 0 0 (object ad T):=((wU hT _ _).ak λ_=>bh.aP _).mono
theorem KB{ad:List Tk}{T:M Nat}(hT:bh 1 0 0 T):bh 1 0 0 (round ad T):=
 ((hU (λ_=>hT) _ _).ak (d':=0) (c':=0) (e':=0) λl=>bh.take _ _ (by simp;exact(hT.ak λn=>bh.aP _).mono)
  (by grind [bh.ret,bh.fail])).mono
theorem xr{ad:List Tk}{T:M Nat}(hT:bh 1 0 0 T):bh 1 0 0 (single ad T):=λs a s' h=>by
 unfold single at h;split at h
 ·exact(bh.step.ak λ_=>bh.aP _).mono (by omega) (by omega) (by omega) s a s' h
 ·revert h;refine(show bh 1 0 0 _ from ?_) s a s';refine bh.take _ _ ?_ ?_
  ·simp;exact(Er hT).mono
  ·simp;refine bh.take _ _ ?_ ?_
   ·simp;exact(hT.ak λn=>(bh.need _ _).ak λ_=>bh.aP _).mono
   ·simp;exact((bh.need _ _).ak λ_=>KB hT).mono
theorem Cg{ad:List Tk}{S:M Nat}(hS:bh 1 0 0 S):∀f l s l' s',bars ad S f l s=.ok (l',s')->l.length<=l'.length/\s.pos<=s'.pos/\s'.ts.length+s.pos+l'.length<=s.ts.length+s'.pos+l.length/\s'.ns.length+s.pos+l'.length<=s.ns.length+s'.pos+l.length
 |0,_,s,l',s',h=>by cases h
 |f+1,l,s,l',s',h=>by
  obtain⟨b,s1,e1,e2⟩:=ah h;unfold Ty.take at e1;split at e1<;>cases e1
  ·simp at e2;obtain⟨n,s2,e3,e4⟩:=ah e2;have a1:=hS _ _ _ e3;have a2:=Cg hS f _ _ _ _ e4
   grind
  ·simp at e2;cases e2;simp
theorem J_{ad:List Tk}{S:M Nat}(hS:bh 1 0 0 S):bh 1 0 0 (union ad S):=λs a s' h=>by
 obtain⟨n,s1,e1,e2⟩:=ah h;obtain⟨l,s2,e3,e4⟩:=ah e2;have a1:=hS _ _ _ e1;have a2:=Cg hS _ _ _ _ _ e3;simp at a2;split at e4
 ·cases e4;omega
 ·cases e4;simp;omega
theorem rG(ad:List Tk):∀r,bh 1 0 0 (eJ ad r)
 |0=>bh.fail _ _ _ _ _
 |r+1=>J_ (xr (rG ad r))
end Ty
end
namespace Tok
theorem A3(s:BA):∀(f k:Nat)(o:List Tk)(e p:Nat),bL s f k o=.error (e,p)->e=1\/e=2:=by
 intro f;induction f with
 |zero=>intro k o e p h;cases h
 |succ f ih=>
  grind [bL]
theorem D5(s:BA)(e p:Nat)(h:scan s=.error (e,p)):e=1\/e=2:=by
 grind [scan,A3]
end Tok
section
namespace Ty
open Tok (Tk)
def Bad{α:Type}(m:M α):Prop:=∀s f,m s=.error f->f.1≠0/\f.1<=9
theorem Bad.ret{α:Type}(a:α):Bad (ret a):=λs f h=>by cases h
theorem Bad.fail{α:Type}(ad:List Tk)(n:Nat)(hn:n≠0/\n<=9:=by omega):Bad (fail (α:=α) ad n):=λs f h=>by cases h;exact hn
theorem Bad.step:Bad step:=λs f h=>by cases h
theorem Bad.take(ad:List Tk)(x:List UInt8):Bad (take ad x):=λs f h=>by unfold Ty.take at h;split at h<;>cases h
theorem Bad.need(ad:List Tk)(x:List UInt8):Bad (need ad x):=λs f h=>by unfold Ty.need at h;split at h<;>cases h;simp[here]
theorem Bad.name(ad:List Tk)(met:List BA):Bad (name ad met):=λs f h=>by
 unfold Ty.name at h;split at h
 ·cases h;simp[here]
 ·split at h
  ·cases h;simp[here]
  ·cases h
theorem Bad.aP(t:Ty):Bad (aP t):=λs f h=>by cases h
theorem Bad.ak{α β:Type}{m:M α}{k:α->M β}(h:Bad m)(g:∀a,Bad (k a)):Bad (Ty.ak m k):=λs f e=>by
 unfold Ty.ak at e;split at e
 ·rename_i e1;cases e;exact h _ _ e1
 ·exact g _ _ _ e
theorem Bad.ite{α:Type}{p:Prop} [Decidable p]{m n:M α}(h:Bad m)(g:Bad n):Bad (if p then m else n):=by
 split
 ·exact h
 ·exact g
theorem mN{α:Type}{ad:List Tk}{x:List UInt8}{m:List α->M α}(hm:∀l,Bad (m l)):∀f l,Bad (list ad x m f l)
 |0,_=>Bad.fail _ _
 |f+1,l=>(Bad.take _ _).ak λb=>Bad.ite (Bad.ret l) ((Bad.ite (Bad.ret ()) (Bad.need _ _)).ak λ_=>(hm l).ak λn=>mN hm f (l++[n]))
theorem vG{ad:List Tk}{T:M Nat}(hT:Bad T):∀f l,Bad (fields ad T f l)
 |0,_=>Bad.fail _ _
 |f+1,l=>(Bad.take _ _).ak λb=>Bad.ite (Bad.ret l) ((Bad.name _ _).ak λs=>(Bad.need _ _).ak λ_=>hT.ak λn=>(Bad.need _ _).ak λ_=>vG hT f (l++[(s,n)]))
theorem F0{ad:List Tk}{T:M Nat}(hT:Bad T):Bad (object ad T):=(vG hT _ _).ak λ_=>Bad.aP _
theorem KD{ad:List Tk}{T:M Nat}(hT:Bad T):Bad (round ad T):=
 (mN (λ_=>hT) _ _).ak λl=>(Bad.take _ _).ak λb=>Bad.ite (hT.ak λn=>Bad.aP _) (Bad.ite (Bad.ret _) (Bad.fail _ _))
theorem E6{ad:List Tk}{T:M Nat}(hT:Bad T):Bad (single ad T):=λs f h=>by
 unfold single at h;split at h
 ·exact(Bad.step.ak λ_=>Bad.aP _) s f h
 ·exact((Bad.take _ _).ak λb=>Bad.ite (F0 hT) ((Bad.take _ _).ak λb=>Bad.ite (hT.ak λn=>(Bad.need _ _).ak λ_=>Bad.aP _) ((Bad.need _ _).ak λ_=>KD hT))) s f h
theorem DF{ad:List Tk}{S:M Nat}(hS:Bad S):∀f l,Bad (bars ad S f l)
 |0,_=>Bad.fail _ _
 |f+1,l=>(Bad.take _ _).ak λb=>Bad.ite (hS.ak λn=>DF hS f (l++[n])) (Bad.ret l)
theorem K2{ad:List Tk}{S:M Nat}(hS:Bad S):Bad (union ad S):=hS.ak λ_=>(DF hS _ _).ak λ_=>Bad.ite (Bad.ret _) (Bad.aP _)
theorem AF(ad:List Tk):∀r,Bad (eJ ad r)
 |0=>Bad.fail _ _
 |r+1=>K2 (E6 (AF ad r))
theorem qG{s:BA}{f:Ft}(h:typeOf s=.error f):f.1≠0:=by
 unfold typeOf at h;split at h
 ·rename_i e he;cases h;have:=Tok.D5 s f.1 f.2 he;omega
 ·split at h
  ·rename_i e he;cases h;exact(AF _ _ _ _ he).1
  ·split at h
   ·cases h;simp[here]
   ·split at h
    ·cases h;simp
    ·cases h
theorem xU(s:BA):∀(f k:Nat)(o l:List Tk),Tok.bL s f k o=.ok l->s.size<k+f->k<=s.size->∀t,l.getLast?=some t->t.kind=6:=by
 intro f;induction f with
 |zero=>intro k o l _ h1 h2;omega
 |succ f ih=>
  intro k o l h h1 h2 t ht;rw[Tok.bL]at h
  by_cases bz:k<s.size
  ·rw[if_pos bz]at h
   by_cases hb:Tok.byte s k=32\/Tok.byte s k=10
   ·rw[if_pos hb]at h
    exact ih _ _ _ h (by omega) (by omega) t ht
   ·rw[if_neg hb]at h
    by_cases aD: (Tok.next s k).2.2=false
    ·rw[if_pos aD]at h;cases h
    ·rw[if_neg aD]at h
     by_cases hl:o.length=1000
     ·rw[if_pos hl]at h;cases h
     ·rw[if_neg hl]at h
      have yg:=Tok.qS s k bz (by simpa using aD);exact ih _ _ _ h (by omega) (by omega) t ht
  ·rw[if_neg bz]at h
   cases h;simp at ht;subst ht;rfl
theorem zi{s:BA}{l:List Tk}(h:Tok.scan s=.ok l):∀t,l.getLast?=some t->t.kind=6:=by
 unfold Tok.scan at h;split at h
 ·cases h
 ·exact xU s _ _ _ _ h (by omega) (by omega)
end Ty
end
section
namespace Ty
open Tok (Tk)
def af(kind pos:Nat):Nd:=⟨kind,0,0,0,[],⟨#[]⟩,0,-1,pos⟩
def addNode(n:Nd):M Nat:=λs=>.ok (s.ns.length,{s with ns:=s.ns++[n]})
def aY(s:St)(a:Nat):Nd:=(s.ns[a]?).getD (af 0 0)
def look{α:Type}(k:St->M α):M α:=λs=>k s s
def two(x:BA)(a b:Nat):M Nat:=look λs=>addNode {af 12 (aY s a).pos with text:=x,a:=a,b:=b}
def bM(ad:List Tk)(one:M Nat)(aJ:List (List UInt8)):Nat->Nat->M Nat
 |0,_=>fail ad 1
 |f+1,n=>look λs=>if aJ.any (λx=>is ad x s.pos)then ak step λ_=>ak one λb=>ak (two (cur ad s.pos).text n b) λm=>bM ad one aJ f m else ret n
def left(ad:List Tk)(one:M Nat)(aJ:List (List UInt8)):M Nat:=ak one λn=>bM ad one aJ (ad.length+1) n
def gU(ad:List Tk)(one:M Nat):M Nat:=left ad one [[42]]
def mq(ad:List Tk)(one:M Nat):M Nat:=left ad (gU ad one) [[43],[45]]
def gW(ad:List Tk)(one:M Nat):M Nat:=
 ak (mq ad one) λn=>ak (take ad [61,61]) λb=>if b then ak (mq ad one) λm=>two ⟨#[61,61]⟩ n m else
  ak (take ad [60]) λb=>if b then ak (mq ad one) λm=>two ⟨#[60]⟩ n m else ret n
def behind(ad:List Tk)(T E:M Nat):Nat->Nat->M Nat
 |0,_=>fail ad 1
 |f+1,a=>look λs=>ak (take ad [40]) λb=>if b then ak (list ad [41] (λ_=>E) (ad.length+1) []) λl=>ak (addNode {af 7 (aY s a).pos with a:=a,list:=l}) λm=>behind ad T E f m else
   ak (take ad [46]) λb=>if b then ak (name ad []) λx=>ak (addNode {af 8 (aY s a).pos with a:=a,text:=x}) λm=>behind ad T E f m else
   ak (take ad [91]) λb=>if b then ak E λc=>ak (need ad [93]) λ_=>ak (addNode {af 9 (aY s a).pos with a:=a,b:=c}) λm=>behind ad T E f m else
   ak (take ad [97,115]) λb=>if b then ak T λt=>ak (addNode {af 14 (aY s a).pos with a:=a,ty:=(t:Int)}) λm=>behind ad T E f m else ret a
def written(ad:List Tk)(T:M Nat):M Int:=ak (take ad [58]) λb=>if b then ak T λn=>ret (n:Int)else ret (-1)
def fV(ad:List Tk)(E:M Nat)(met:List BA):M (BA×Nat):=
 look λs=>ak (name ad met) λx=>ak (need ad [58]) λ_=>ak E λa=>ak (addNode {af 15 (cur ad s.pos).pos with text:=x,a:=a}) λn=>ret (x,n)
def fC(ad:List Tk)(T:M Nat)(met:List BA):M (BA×Nat):=
 look λs=>ak (name ad met) λx=>ak (written ad T) λt=>ak (addNode {af 16 (cur ad s.pos).pos with text:=x,ty:=t}) λn=>ret (x,n)
def stmts(ad:List Tk)(S:M Nat):Nat->List Nat->M (List Nat)
 |0,_=>fail ad 1
 |f+1,l=>ak (take ad [125]) λb=>if b then ret l else ak S λn=>stmts ad S f (l++[n])
def di(ad:List Tk)(S:M Nat):M Nat:=look λs=>ak (need ad [123]) λ_=>ak (stmts ad S (ad.length+1) []) λl=>addNode {af 26 (cur ad s.pos).pos with list:=l}
def bH(ad:List Tk)(T S:M Nat)(pos:Nat):M Nat:=
 ak (need ad [40]) λ_=>ak (list ad [41] (λl=>fC ad T (l.map Prod.fst)) (ad.length+1) []) λl=>ak (written ad T) λt=>ak (di ad S) λa=>
  addNode {af 6 pos with list:=l.map Prod.snd,ty:=t,a:=a}
def value(x:BA):Nat:=x.data.toList.foldl (λn c=>10*n+(c.toNat-48)) 0
def bO(ad:List Tk)(T E S:M Nat):M Nat:=look λs=>
 if(cur ad s.pos).kind=3 then ak step λ_=>addNode {af 1 (cur ad s.pos).pos with n:=value (cur ad s.pos).text}else
 if(cur ad s.pos).kind=4 then ak step λ_=>addNode {af 2 (cur ad s.pos).pos with text:=(cur ad s.pos).text}else
 if(cur ad s.pos).kind=1 then ak step λ_=>addNode {af 5 (cur ad s.pos).pos with text:=(cur ad s.pos).text}else
 ak (take ad [116,114,117,101]) λb=>if b then addNode {af 3 (cur ad s.pos).pos with n:=1}else
 ak (take ad [102,97,108,115,101]) λb=>if b then addNode (af 3 (cur ad s.pos).pos)else
 ak (take ad [110,117,108,108]) λb=>if b then addNode (af 4 (cur ad s.pos).pos)else
 ak (take ad [102,110]) λb=>if b then bH ad T S (cur ad s.pos).pos else
 ak (take ad [91]) λb=>if b then ak (list ad [93] (λ_=>E) (ad.length+1) []) λl=>addNode {af 11 (cur ad s.pos).pos with list:=l}else
 ak (take ad [123]) λb=>if b then ak (list ad [125] (λl=>fV ad E (l.map Prod.fst)) (ad.length+1) []) λl=>addNode {af 10 (cur ad s.pos).pos with list:=l.map Prod.snd}else
 ak (need ad [40]) λ_=>ak E λa=>ak (need ad [41]) λ_=>ret a
def dc:List (List UInt8):=[[33],[45],[116,121,112,101,111,102]]
def oI(ad:List Tk)(T E O S:M Nat):M Nat:=look λs=>
 if dc.any (λx=>is ad x s.pos)then ak step λ_=>ak O λa=>addNode {af 13 (cur ad s.pos).pos with text:=(cur ad s.pos).text,a:=a}
 else ak (bO ad T E S) λa=>behind ad T E (ad.length+1) a
def ef(a:Nat):M Unit:=λs=>.ok ((),{s with ns:=s.ns.take a})
def cq(ad:List Tk)(E:M Nat):M Nat:=ak E λa=>look λs=>
 if is ad [61] s.pos then
  if(aY s a).kind=5 then ak (ef a) λ_=>ak step λ_=>ak E λv=>ak (need ad [59]) λ_=>addNode {af 18 (aY s a).pos with text:=(aY s a).text,a:=v}
  else if(aY s a).kind=8 then ak (ef a) λ_=>ak step λ_=>ak E λv=>ak (need ad [59]) λ_=>addNode {af 19 (aY s a).pos with text:=(aY s a).text,a:=(aY s a).a,b:=v}
  else if(aY s a).kind=9 then ak (ef a) λ_=>ak step λ_=>ak E λv=>ak (need ad [59]) λ_=>addNode {af 20 (aY s a).pos with a:=(aY s a).a,b:=(aY s a).b,c:=(v:Int)}
  else fail ad 1
 else ak (need ad [59]) λ_=>addNode {af 25 (aY s a).pos with a:=a}
def aZ(ad:List Tk)(E S:M Nat)(yes:Bool)(pos:Nat):M Nat:=
 ak step λ_=>ak (need ad [40]) λ_=>ak E λa=>ak (need ad [41]) λ_=>ak (di ad S) λb=>
  if yes then ak (take ad [101,108,115,101]) λe=>if e then ak (di ad S) λc=>addNode {af 22 pos with a:=a,b:=b,c:=(c:Int)}else addNode {af 22 pos with a:=a,b:=b,c:= -1}
  else addNode {af 23 pos with a:=a,b:=b}
def de(ad:List Tk)(T E S:M Nat):M Nat:=look λs=>
 ak (take ad [108,101,116]) λb=>if b then ak (name ad []) λx=>ak (written ad T) λt=>ak (need ad [61]) λ_=>ak E λa=>ak (need ad [59]) λ_=>addNode {af 17 (cur ad s.pos).pos with text:=x,ty:=t,a:=a}else
 ak (take ad [112,114,105,110,116]) λb=>if b then ak E λa=>ak (need ad [59]) λ_=>addNode {af 21 (cur ad s.pos).pos with a:=a}else
 ak (take ad [114,101,116,117,114,110]) λb=>if b then ak E λa=>ak (need ad [59]) λ_=>addNode {af 24 (cur ad s.pos).pos with a:=a}else
 look λs2=>if is ad [105,102] s2.pos then aZ ad E S true (cur ad s.pos).pos else if is ad [119,104,105,108,101] s2.pos then aZ ad E S false (cur ad s.pos).pos else cq ad E
structure Lv where
 E:M Nat
 O:M Nat
 S:M Nat
def lv(ad:List Tk):Nat->Lv
 |0=>⟨fail ad 8,fail ad 8,fail ad 8⟩
 |r+1=>⟨gW ad (oI ad (eJ ad r) (lv ad r).E (lv ad r).O (lv ad r).S),oI ad (eJ ad r) (lv ad r).E (lv ad r).O (lv ad r).S,de ad (eJ ad r) (lv ad r).E (lv ad r).S⟩
def dN(ad:List Tk)(S:M Nat):Nat->List Nat->M (List Nat)
 |0,_=>fail ad 1
 |f+1,l=>look λs=>if(cur ad s.pos).kind=6 then ret l else ak S λn=>dN ad S f (l++[n])
def oj(ad:List Tk):M Nat:=ak (dN ad (lv ad 20).S (ad.length+1) []) λl=>addNode {af 26 0 with list:=l}
structure Pg where
 ns:List Nd
 ts:List Ty
 main:Nat
def parse(s:BA):Except Ft Pg:=
 match Tok.scan s with
 | .error e=>.error e
 | .ok ad=>match oj ad ⟨0,[],[]⟩with
  | .error e=>.error e
  | .ok (n,st)=>if st.ns.length>1200\/st.ts.length>300 then .error (2,0)else .ok ⟨st.ns,st.ts,n⟩
end Ty
end
section
namespace Ty
open Tok (Tk)
theorem bh.addNode(n:Nd):bh 0 0 (-1) (addNode n):=λs b s' e=>by cases e;simp;omega
theorem bh.look{α:Type}{k:St->M α}{d c e:Int}(h:∀s,bh d c e (k s)):bh d c e (Ty.look k):=λs a s' x=>h s s a s' x
theorem bh.two(x:BA)(a b:Nat):bh 0 0 (-1) (two x a b):=bh.look λ_=>bh.addNode _
theorem bh.ef(a:Nat):bh 0 0 0 (ef a):=λs b s' e=>by cases e;simp;omega
theorem re{ad:List Tk}{one:M Nat}(h:bh 1 0 0 one){aJ:List (List UInt8)}:∀f n,bh 0 0 0 (bM ad one aJ f n)
 |0,_=>bh.fail _ _ _ _ _
 |f+1,n=>bh.look λs=>bh.ite (λ_=>(bh.step.ak λ_=>h.ak λb=>(bh.two _ _ _).ak λm=>re h f m).mono) (λ_=>bh.ret _)
theorem vo{ad:List Tk}{one:M Nat}(h:bh 1 0 0 one){aJ:List (List UInt8)}:bh 1 0 0 (left ad one aJ):=(h.ak λn=>re h _ n).mono
theorem rm{ad:List Tk}{one:M Nat}(h:bh 1 0 0 one):bh 1 0 0 (mq ad one):=vo (vo h)
theorem Ja{ad:List Tk}{one:M Nat}(h:bh 1 0 0 one):bh 1 0 0 (gW ad one):=by
 refine((rm h).ak (d':=0) (c':=0) (e':=0) λn=>?_).mono;refine bh.take _ _ ?_ ?_
 ·simp;exact((rm h).ak λm=>bh.two _ _ _).mono
 ·simp;refine bh.take _ _ ?_ ?_
  ·simp;exact((rm h).ak λm=>bh.two _ _ _).mono
  grind [bh.ret]
theorem lK{ad:List Tk}{T E:M Nat}(hT:bh 1 0 0 T)(hE:bh 1 0 0 E):∀f a,bh 0 0 0 (behind ad T E f a)
 |0,_=>bh.fail _ _ _ _ _
 |f+1,a=>by
  refine bh.look λs=>bh.take _ _ ?_ ?_
  ·simp;exact((hU (λ_=>hE) _ _).ak λl=>(bh.addNode _).ak λm=>lK hT hE f m).mono
  ·simp;refine bh.take _ _ ?_ ?_
   ·simp;exact((bh.name _ _).ak λl=>(bh.addNode _).ak λm=>lK hT hE f m).mono
   ·simp;refine bh.take _ _ ?_ ?_
    ·simp;exact(hE.ak λc=>(bh.need _ _).ak λ_=>(bh.addNode _).ak λm=>lK hT hE f m).mono
    ·simp;refine bh.take _ _ ?_ ?_
     ·simp;exact(hT.ak λc=>(bh.addNode _).ak λm=>lK hT hE f m).mono
     grind [bh.ret]
theorem iL{ad:List Tk}{T:M Nat}(hT:bh 1 0 0 T):bh 0 0 0 (written ad T):=by
 refine bh.take _ _ ?_ ?_
 ·simp;exact(hT.ak λn=>bh.ret _).mono
 grind [bh.ret]
theorem tJ{ad:List Tk}{E:M Nat}(hE:bh 1 0 0 E)(met:List BA):bh 1 0 0 (fV ad E met):=
 bh.look λs=>((bh.name _ _).ak λx=>(bh.need _ _).ak λ_=>hE.ak λa=>(bh.addNode _).ak λn=>bh.ret _).mono
theorem qC{ad:List Tk}{T:M Nat}(hT:bh 1 0 0 T)(met:List BA):bh 1 0 0 (fC ad T met):=
 bh.look λs=>((bh.name _ _).ak λx=>(iL hT).ak λt=>(bh.addNode _).ak λn=>bh.ret _).mono
theorem y9{ad:List Tk}{S:M Nat}(hS:bh 1 0 0 S):∀f l,bh 1 1 1 (stmts ad S f l)
 |0,_=>bh.fail _ _ _ _ _
 |f+1,l=>by
  refine bh.take _ _ ?_ ?_
  ·grind [bh.ret]
  ·simp;exact(hS.ak λn=>y9 hS f _).mono
theorem iG{ad:List Tk}{S:M Nat}(hS:bh 1 0 0 S):bh 2 1 1 (di ad S):=
 bh.look λs=>((bh.need _ _).ak λ_=>(y9 hS _ _).ak λl=>bh.addNode _).mono
theorem xT{ad:List Tk}{T S:M Nat}(hT:bh 1 0 0 T)(hS:bh 1 0 0 S)(pos:Nat):bh 1 0 0 (bH ad T S pos):=
 ((bh.need _ _).ak λ_=>(hU (λ_=>qC hT _) _ _).ak λl=>(iL hT).ak λt=>(iG hS).ak λa=>bh.addNode _).mono
theorem CH{ad:List Tk}{T E S:M Nat}(hT:bh 1 0 0 T)(hE:bh 1 0 0 E)(hS:bh 1 0 0 S):bh 1 0 0 (bO ad T E S):=by
 refine bh.look λs=>bh.ite (λ_=>(bh.step.ak λ_=>bh.addNode _).mono) λ_=>bh.ite (λ_=>(bh.step.ak λ_=>bh.addNode _).mono) λ_=>bh.ite (λ_=>(bh.step.ak λ_=>bh.addNode _).mono) λ_=>?_
 refine bh.take _ _ ?_ ?_
 ·simp;exact(bh.addNode _).mono
 refine bh.take _ _ ?_ ?_
 ·simp;exact(bh.addNode _).mono
 refine bh.take _ _ ?_ ?_
 ·simp;exact(bh.addNode _).mono
 refine bh.take _ _ ?_ ?_
 ·simp;exact(xT hT hS _).mono
 refine bh.take _ _ ?_ ?_
 ·simp;exact((hU (λ_=>hE) _ _).ak λl=>bh.addNode _).mono
 refine bh.take _ _ ?_ ?_
 ·simp;exact((hU (λ_=>tJ hE _) _ _).ak λl=>bh.addNode _).mono
 exact((bh.need _ _).ak λ_=>hE.ak λa=>(bh.need _ _).ak λ_=>bh.ret _).mono
theorem DU{ad:List Tk}{T E O S:M Nat}(hT:bh 1 0 0 T)(hE:bh 1 0 0 E)(hO:bh 1 0 0 O)(hS:bh 1 0 0 S):bh 1 0 0 (oI ad T E O S):=
 bh.look λs=>bh.ite (λ_=>(bh.step.ak λ_=>hO.ak λa=>bh.addNode _).mono) (λ_=>((CH hT hE hS).ak λa=>lK hT hE _ a).mono)
theorem ES{ad:List Tk}{E:M Nat}(hE:bh 1 0 0 E):bh 1 0 0 (cq ad E):=by
 have h:∀(a:Nat)(f:Nat->Nd),bh 0 0 0 (ak (ef a) λ_=>ak step λ_=>ak E λv=>ak (need ad [59]) λ_=>addNode (f v)):=λa f=>
  ((bh.ef _).ak λ_=>bh.step.ak λ_=>hE.ak λv=>(bh.need _ _).ak λ_=>bh.addNode _).mono
 exact(hE.ak (d':=0) (c':=0) (e':=0) λa=>bh.look λs=>bh.ite (λ_=>bh.ite (λ_=>h _ _) λ_=>bh.ite (λ_=>h _ _) λ_=>bh.ite (λ_=>h _ _) λ_=>bh.fail _ _ _ _ _)
  (λ_=>((bh.need _ _).ak λ_=>bh.addNode _).mono)).mono
theorem DP{ad:List Tk}{E S:M Nat}(hE:bh 1 0 0 E)(hS:bh 1 0 0 S)(yes:Bool)(pos:Nat):bh 1 0 0 (aZ ad E S yes pos):=by
 refine(bh.step.ak λ_=>(bh.need _ _).ak λ_=>hE.ak λa=>(bh.need _ _).ak λ_=>(iG hS).ak (d':=0) (c':=0) (e':= -1) λb=>?_).mono;cases yes
 ·grind [bh.addNode]
 ·simp;refine bh.take _ _ ?_ ?_
  ·simp;exact((iG hS).ak λc=>bh.addNode _).mono
  grind [bh.addNode]
theorem I_{ad:List Tk}{T E S:M Nat}(hT:bh 1 0 0 T)(hE:bh 1 0 0 E)(hS:bh 1 0 0 S):bh 1 0 0 (de ad T E S):=by
 refine bh.look λs=>bh.take _ _ ?_ ?_
 ·simp;exact((bh.name _ _).ak λx=>(iL hT).ak λt=>(bh.need _ _).ak λ_=>hE.ak λa=>(bh.need _ _).ak λ_=>bh.addNode _).mono
 refine bh.take _ _ ?_ ?_
 ·simp;exact(hE.ak λa=>(bh.need _ _).ak λ_=>bh.addNode _).mono
 refine bh.take _ _ ?_ ?_
 ·simp;exact(hE.ak λa=>(bh.need _ _).ak λ_=>bh.addNode _).mono
 grind [bh.look,DP,ES]
theorem Ae(ad:List Tk):∀r,bh 1 0 0 (lv ad r).E/\bh 1 0 0 (lv ad r).O/\bh 1 0 0 (lv ad r).S
 |0=>⟨bh.fail _ _ _ _ _,bh.fail _ _ _ _ _,bh.fail _ _ _ _ _⟩
 |r+1=>by
  obtain⟨h1,h2,h3⟩:=Ae ad r;have hT:=rG ad r;exact⟨Ja (DU hT h1 h2 h3),DU hT h1 h2 h3,I_ hT h1 h3⟩
theorem Bad.addNode(n:Nd):Bad (addNode n):=λs f h=>by cases h
theorem Bad.look{α:Type}{k:St->M α}(h:∀s,Bad (k s)):Bad (Ty.look k):=λs f x=>h s s f x
theorem Bad.two(x:BA)(a b:Nat):Bad (two x a b):=Bad.look λ_=>Bad.addNode _
theorem Bad.ef(a:Nat):Bad (ef a):=λs f h=>by cases h
theorem sd{ad:List Tk}{one:M Nat}(h:Bad one){aJ:List (List UInt8)}:∀f n,Bad (bM ad one aJ f n)
 |0,_=>Bad.fail _ _
 |f+1,n=>Bad.look λs=>Bad.ite (Bad.step.ak λ_=>h.ak λb=>(Bad.two _ _ _).ak λm=>sd h f m) (Bad.ret _)
theorem CA{ad:List Tk}{one:M Nat}(h:Bad one){aJ:List (List UInt8)}:Bad (left ad one aJ):=h.ak λn=>sd h _ n
theorem wy{ad:List Tk}{one:M Nat}(h:Bad one):Bad (mq ad one):=CA (CA h)
theorem KO{ad:List Tk}{one:M Nat}(h:Bad one):Bad (gW ad one):=
 (wy h).ak λ_=>(Bad.take _ _).ak λ_=>Bad.ite ((wy h).ak λ_=>Bad.two _ _ _) ((Bad.take _ _).ak λ_=>Bad.ite ((wy h).ak λ_=>Bad.two _ _ _) (Bad.ret _))
theorem kH{ad:List Tk}{T E:M Nat}(hT:Bad T)(hE:Bad E):∀f a,Bad (behind ad T E f a)
 |0,_=>Bad.fail _ _
 |f+1,a=>Bad.look λs=>(Bad.take _ _).ak λb=>Bad.ite ((mN (λ_=>hE) _ _).ak λl=>(Bad.addNode _).ak λm=>kH hT hE f m)
   ((Bad.take _ _).ak λb=>Bad.ite ((Bad.name _ _).ak λl=>(Bad.addNode _).ak λm=>kH hT hE f m)
   ((Bad.take _ _).ak λb=>Bad.ite (hE.ak λc=>(Bad.need _ _).ak λ_=>(Bad.addNode _).ak λm=>kH hT hE f m)
   ((Bad.take _ _).ak λb=>Bad.ite (hT.ak λc=>(Bad.addNode _).ak λm=>kH hT hE f m) (Bad.ret _))))
theorem pA{ad:List Tk}{T:M Nat}(hT:Bad T):Bad (written ad T):=(Bad.take _ _).ak λ_=>Bad.ite (hT.ak λ_=>Bad.ret _) (Bad.ret _)
theorem KX{ad:List Tk}{E:M Nat}(hE:Bad E)(met:List BA):Bad (fV ad E met):=
 Bad.look λ_=>(Bad.name _ _).ak λ_=>(Bad.need _ _).ak λ_=>hE.ak λ_=>(Bad.addNode _).ak λ_=>Bad.ret _
theorem Gz{ad:List Tk}{T:M Nat}(hT:Bad T)(met:List BA):Bad (fC ad T met):=
 Bad.look λ_=>(Bad.name _ _).ak λ_=>(pA hT).ak λ_=>(Bad.addNode _).ak λ_=>Bad.ret _
theorem zv{ad:List Tk}{S:M Nat}(hS:Bad S):∀f l,Bad (stmts ad S f l)
 |0,_=>Bad.fail _ _
 |f+1,l=>(Bad.take _ _).ak λb=>Bad.ite (Bad.ret _) (hS.ak λn=>zv hS f _)
theorem qM{ad:List Tk}{S:M Nat}(hS:Bad S):Bad (di ad S):=Bad.look λ_=>(Bad.need _ _).ak λ_=>(zv hS _ _).ak λ_=>Bad.addNode _
theorem x_{ad:List Tk}{T S:M Nat}(hT:Bad T)(hS:Bad S)(pos:Nat):Bad (bH ad T S pos):=
 (Bad.need _ _).ak λ_=>(mN (λ_=>Gz hT _) _ _).ak λ_=>(pA hT).ak λ_=>(qM hS).ak λ_=>Bad.addNode _
theorem Dg{ad:List Tk}{T E S:M Nat}(hT:Bad T)(hE:Bad E)(hS:Bad S):Bad (bO ad T E S):=
 Bad.look λ_=>Bad.ite (Bad.step.ak λ_=>Bad.addNode _)<|Bad.ite (Bad.step.ak λ_=>Bad.addNode _)<|Bad.ite (Bad.step.ak λ_=>Bad.addNode _)<|
 (Bad.take _ _).ak λ_=>Bad.ite (Bad.addNode _)<|(Bad.take _ _).ak λ_=>Bad.ite (Bad.addNode _)<|(Bad.take _ _).ak λ_=>Bad.ite (Bad.addNode _)<|
 (Bad.take _ _).ak λ_=>Bad.ite (x_ hT hS _)<|(Bad.take _ _).ak λ_=>Bad.ite ((mN (λ_=>hE) _ _).ak λ_=>Bad.addNode _)<|
 (Bad.take _ _).ak λ_=>Bad.ite ((mN (λ_=>KX hE _) _ _).ak λ_=>Bad.addNode _)<|(Bad.need _ _).ak λ_=>hE.ak λ_=>(Bad.need _ _).ak λ_=>Bad.ret _
theorem Co{ad:List Tk}{T E O S:M Nat}(hT:Bad T)(hE:Bad E)(hO:Bad O)(hS:Bad S):Bad (oI ad T E O S):=
 Bad.look λ_=>Bad.ite (Bad.step.ak λ_=>hO.ak λ_=>Bad.addNode _) ((Dg hT hE hS).ak λa=>kH hT hE _ a)
theorem Ey{ad:List Tk}{E:M Nat}(hE:Bad E):Bad (cq ad E):=by
 have h:∀(a:Nat)(f:Nat->Nd),Bad (ak (ef a) λ_=>ak step λ_=>ak E λv=>ak (need ad [59]) λ_=>addNode (f v)):=λa f=>
  (Bad.ef _).ak λ_=>Bad.step.ak λ_=>hE.ak λv=>(Bad.need _ _).ak λ_=>Bad.addNode _
 exact hE.ak λa=>Bad.look λs=>Bad.ite (Bad.ite (h _ _) (Bad.ite (h _ _) (Bad.ite (h _ _) (Bad.fail _ _)))) ((Bad.need _ _).ak λ_=>Bad.addNode _)
theorem CO{ad:List Tk}{E S:M Nat}(hE:Bad E)(hS:Bad S)(yes:Bool)(pos:Nat):Bad (aZ ad E S yes pos):=
 Bad.step.ak λ_=>(Bad.need _ _).ak λ_=>hE.ak λ_=>(Bad.need _ _).ak λ_=>(qM hS).ak λ_=>Bad.ite ((Bad.take _ _).ak λ_=>Bad.ite ((qM hS).ak λ_=>Bad.addNode _) (Bad.addNode _)) (Bad.addNode _)
theorem KT{ad:List Tk}{T E S:M Nat}(hT:Bad T)(hE:Bad E)(hS:Bad S):Bad (de ad T E S):=
 Bad.look λ_=>(Bad.take _ _).ak λ_=>Bad.ite ((Bad.name _ _).ak λ_=>(pA hT).ak λ_=>(Bad.need _ _).ak λ_=>hE.ak λ_=>(Bad.need _ _).ak λ_=>Bad.addNode _)<|
 (Bad.take _ _).ak λ_=>Bad.ite (hE.ak λ_=>(Bad.need _ _).ak λ_=>Bad.addNode _)<|
 (Bad.take _ _).ak λ_=>Bad.ite (hE.ak λ_=>(Bad.need _ _).ak λ_=>Bad.addNode _)<|
 Bad.look λ_=>by grind [CO,Ey]
theorem N9(ad:List Tk):∀r,Bad (lv ad r).E/\Bad (lv ad r).O/\Bad (lv ad r).S
 |0=>⟨Bad.fail _ _,Bad.fail _ _,Bad.fail _ _⟩
 |r+1=>by
  obtain⟨h1,h2,h3⟩:=N9 ad r;have hT:=AF ad r;exact⟨KO (Co hT h1 h2 h3),Co hT h1 h2 h3,KT hT h1 h3⟩
theorem rW{ad:List Tk}{S:M Nat}(hS:Bad S):∀f l,Bad (dN ad S f l)
 |0,_=>Bad.fail _ _
 |f+1,l=>Bad.look λs=>Bad.ite (Bad.ret _) (hS.ak λn=>rW hS f _)
theorem J0(ad:List Tk):Bad (oj ad):=(rW (N9 ad 20).2.2 _ _).ak λ_=>Bad.addNode _
theorem ku{s:BA}{f:Ft}(h:parse s=.error f):f.1≠0:=by
 unfold parse at h;split at h
 ·grind [Tok.D5]
 ·split at h
  ·rename_i e he;cases h;exact(J0 _ _ _ he).1
  grind
end Ty
end
section
namespace Ty
open Tok (Tk)
def bP{α:Type}(m:M α):Prop:=∀s a s',m s=.ok (a,s')->s.ns<+:s'.ns
def Nx(m:M Nat):Prop:=∀s a s',m s=.ok (a,s')->s.ns<+:s'.ns/\a+1=s'.ns.length/\s.ns.length<=a
theorem Nx.pre{m:M Nat}(h:Nx m):bP m:=λs a s' e=>(h s a s' e).1
theorem bP.ret{α:Type}(a:α):bP (ret a):=λs b s' e=>by cases e;exact List.prefix_rfl
theorem bP.fail{α:Type}(ad:List Tk)(n:Nat):bP (fail (α:=α) ad n):=λs b s' h=>by cases h
theorem Nx.fail(ad:List Tk)(n:Nat):Nx (fail ad n):=λs b s' h=>by cases h
theorem bP.step:bP step:=λs b s' e=>by cases e;exact List.prefix_rfl
theorem bP.need(ad:List Tk)(x:List UInt8):bP (need ad x):=λs b s' e=>by
 grind [Ty.need]
theorem bP.take(ad:List Tk)(x:List UInt8):bP (take ad x):=λs b s' e=>by
 grind [Ty.take]
theorem bP.name(ad:List Tk)(met:List BA):bP (name ad met):=λs b s' e=>by
 grind [Ty.name]
theorem bP.aP(t:Ty):bP (aP t):=λs b s' e=>by cases e;exact List.prefix_rfl
theorem bP.look{α:Type}{k:St->M α}(h:∀s,bP (k s)):bP (Ty.look k):=λs a s' x=>h s s a s' x
theorem Nx.look{k:St->M Nat}(h:∀s,Nx (k s)):Nx (Ty.look k):=λs a s' x=>h s s a s' x
theorem Nx.addNode(n:Nd):Nx (addNode n):=λs b s' e=>by cases e;simp
theorem bP.addNode(n:Nd):bP (addNode n):=(Nx.addNode n).pre
theorem Nx.two(x:BA)(a b:Nat):Nx (two x a b):=Nx.look λ_=>Nx.addNode _
theorem bP.ak{α β:Type}{m:M α}{k:α->M β}(h:bP m)(g:∀a,bP (k a)):bP (Ty.ak m k):=λs b s' x=>by
 obtain⟨a,s1,e1,e2⟩:=ah x;exact(h _ _ _ e1).trans (g a _ _ _ e2)
theorem Nx.ak{α:Type}{m:M α}{k:α->M Nat}(h:bP m)(g:∀a,Nx (k a)):Nx (Ty.ak m k):=λs b s' x=>by
 obtain⟨a,s1,e1,e2⟩:=ah x;have h1:=h _ _ _ e1;obtain⟨g1,g2,g3⟩:=g a _ _ _ e2
 grind
theorem bP.ite{α:Type}{p:Prop} [Decidable p]{m n:M α}(h:bP m)(g:bP n):bP (if p then m else n):=by grind
theorem Nx.ite{p:Prop} [Decidable p]{m n:M Nat}(h:Nx m)(g:Nx n):Nx (if p then m else n):=by grind
theorem bP.list{α:Type}{ad:List Tk}{x:List UInt8}{m:List α->M α}(hm:∀l,bP (m l)):∀f l,bP (list ad x m f l)
 |0,_=>bP.fail _ _
 |f+1,l=>(bP.take _ _).ak λ_=>bP.ite (bP.ret l) ((bP.ite (bP.ret ()) (bP.need _ _)).ak λ_=>(hm l).ak λn=>bP.list hm f (l++[n]))
theorem bP.fields{ad:List Tk}{T:M Nat}(hT:bP T):∀f l,bP (fields ad T f l)
 |0,_=>bP.fail _ _
 |f+1,l=>(bP.take _ _).ak λ_=>bP.ite (bP.ret l) ((bP.name _ _).ak λs=>(bP.need _ _).ak λ_=>hT.ak λn=>(bP.need _ _).ak λ_=>bP.fields hT f (l++[(s,n)]))
theorem bP.round{ad:List Tk}{T:M Nat}(hT:bP T):bP (round ad T):=
 (bP.list (λ_=>hT) _ _).ak λ_=>(bP.take _ _).ak λ_=>bP.ite (hT.ak λ_=>bP.aP _) (bP.ite (bP.ret _) (bP.fail _ _))
theorem bP.single{ad:List Tk}{T:M Nat}(hT:bP T):bP (single ad T):=λs a s' h=>by
 unfold Ty.single at h;split at h
 ·exact(bP.step.ak λ_=>bP.aP _) s a s' h
 ·exact((bP.take _ _).ak λb=>bP.ite ((bP.fields hT _ _).ak λ_=>bP.aP _) ((bP.take _ _).ak λb=>bP.ite (hT.ak λn=>(bP.need _ _).ak λ_=>bP.aP _) ((bP.need _ _).ak λ_=>bP.round hT))) s a s' h
theorem bP.bars{ad:List Tk}{S:M Nat}(hS:bP S):∀f l,bP (bars ad S f l)
 |0,_=>bP.fail _ _
 |f+1,l=>(bP.take _ _).ak λ_=>bP.ite (hS.ak λn=>bP.bars hS f (l++[n])) (bP.ret l)
theorem bP.union{ad:List Tk}{S:M Nat}(hS:bP S):bP (union ad S):=hS.ak λ_=>(bP.bars hS _ _).ak λ_=>bP.ite (bP.ret _) (bP.aP _)
theorem bP.eJ(ad:List Tk):∀r,bP (eJ ad r)
 |0=>bP.fail _ _
 |r+1=>bP.union (bP.single (bP.eJ ad r))
def Nl(n:Nat)(m:M Nat):Prop:=∀s a s',n+1=s.ns.length->m s=.ok (a,s')->s.ns<+:s'.ns/\a+1=s'.ns.length
theorem Nl.ret(n:Nat):Nl n (ret n):=λs a s' h e=>by cases e;exact⟨List.prefix_rfl,h⟩
theorem Nl.nx{n:Nat}{m:M Nat}(h:Nx m):Nl n m:=λs a s' _ e=>⟨(h s a s' e).1,(h s a s' e).2.1⟩
theorem Nx.then{m:M Nat}{k:Nat->M Nat}(h:Nx m)(g:∀a,Nl a (k a)):Nx (Ty.ak m k):=λs b s' x=>by
 obtain⟨a,s1,e1,e2⟩:=ah x;obtain⟨h1,h2,h3⟩:=h _ _ _ e1;obtain⟨g1,g2⟩:=g a _ _ _ h2 e2
 grind
theorem Nl.look{n:Nat}{k:St->M Nat}(h:∀s,Nl n (k s)):Nl n (Ty.look k):=λs a s' e x=>h s s a s' e x
theorem Nl.ite{n:Nat}{p:Prop} [Decidable p]{m k:M Nat}(h:Nl n m)(g:Nl n k):Nl n (if p then m else k):=by grind
theorem Nl.ak{α:Type}{n:Nat}{m:M α}{k:α->M Nat}(h:bP m)(g:∀a,Nx (k a)):Nl n (Ty.ak m k):=Nl.nx (Nx.ak h g)
theorem Nl.take{n:Nat}(ad:List Tk)(x:List UInt8){k:Bool->M Nat}(h:∀b,Nl n (k b)):Nl n (Ty.ak (Ty.take ad x) k):=λs a s' e y=>by
 obtain⟨b,s1,e1,e2⟩:=ah y;unfold Ty.take at e1;split at e1<;>cases e1
 ·exact h true {s with pos:=s.pos+1} a s' e e2
 ·exact h false s a s' e e2
theorem t_{ad:List Tk}{one:M Nat}(h:Nx one){aJ:List (List UInt8)}:∀f n,Nl n (bM ad one aJ f n)
 |0,_=>Nl.nx (Nx.fail _ _)
 |f+1,n=>Nl.look λ_=>Nl.ite (Nl.ak bP.step λ_=>Nx.ak h.pre λ_=>Nx.then (Nx.two _ _ _) λm=>t_ h f m) (Nl.ret n)
theorem AE{ad:List Tk}{one:M Nat}(h:Nx one){aJ:List (List UInt8)}:Nx (left ad one aJ):=Nx.then h λn=>t_ h _ n
theorem u7{ad:List Tk}{one:M Nat}(h:Nx one):Nx (mq ad one):=AE (AE h)
theorem N1{ad:List Tk}{one:M Nat}(h:Nx one):Nx (gW ad one):=
 Nx.then (u7 h) λn=>Nl.take _ _ λ_=>Nl.ite (Nl.ak (u7 h).pre λ_=>Nx.two _ _ _) (Nl.take _ _ λ_=>Nl.ite (Nl.ak (u7 h).pre λ_=>Nx.two _ _ _) (Nl.ret n))
theorem mE{ad:List Tk}{T E:M Nat}(hT:bP T)(hE:Nx E):∀f a,Nl a (behind ad T E f a)
 |0,_=>Nl.nx (Nx.fail _ _)
 |f+1,a=>Nl.look λ_=>Nl.take _ _ λ_=>Nl.ite (Nl.ak (bP.list (λ_=>hE.pre) _ _) λ_=>Nx.then (Nx.addNode _) λm=>mE hT hE f m)
   (Nl.take _ _ λ_=>Nl.ite (Nl.ak (bP.name _ _) λ_=>Nx.then (Nx.addNode _) λm=>mE hT hE f m)
   (Nl.take _ _ λ_=>Nl.ite (Nl.ak hE.pre λ_=>Nx.ak (bP.need _ _) λ_=>Nx.then (Nx.addNode _) λm=>mE hT hE f m)
   (Nl.take _ _ λ_=>Nl.ite (Nl.ak hT λ_=>Nx.then (Nx.addNode _) λm=>mE hT hE f m) (Nl.ret a))))
theorem bP.written{ad:List Tk}{T:M Nat}(hT:bP T):bP (written ad T):=(bP.take _ _).ak λ_=>bP.ite (hT.ak λ_=>bP.ret _) (bP.ret _)
theorem bP.fV{ad:List Tk}{E:M Nat}(hE:bP E)(met:List BA):bP (fV ad E met):=
 bP.look λ_=>(bP.name _ _).ak λ_=>(bP.need _ _).ak λ_=>hE.ak λ_=>(bP.addNode _).ak λ_=>bP.ret _
theorem bP.fC{ad:List Tk}{T:M Nat}(hT:bP T)(met:List BA):bP (fC ad T met):=
 bP.look λ_=>(bP.name _ _).ak λ_=>(bP.written hT).ak λ_=>(bP.addNode _).ak λ_=>bP.ret _
theorem bP.stmts{ad:List Tk}{S:M Nat}(hS:bP S):∀f l,bP (stmts ad S f l)
 |0,_=>bP.fail _ _
 |f+1,_=>(bP.take _ _).ak λ_=>bP.ite (bP.ret _) (hS.ak λ_=>bP.stmts hS f _)
theorem tK{ad:List Tk}{S:M Nat}(hS:bP S):Nx (di ad S):=Nx.look λ_=>Nx.ak (bP.need _ _) λ_=>Nx.ak (bP.stmts hS _ _) λ_=>Nx.addNode _
theorem Ap{ad:List Tk}{T S:M Nat}(hT:bP T)(hS:bP S)(pos:Nat):Nx (bH ad T S pos):=
 Nx.ak (bP.need _ _) λ_=>Nx.ak (bP.list (λ_=>bP.fC hT _) _ _) λ_=>Nx.ak (bP.written hT) λ_=>Nx.ak (tK hS).pre λ_=>Nx.addNode _
theorem Ml{ad:List Tk}{E:M Nat}(hE:Nx E):Nx (ak (need ad [40]) λ_=>ak E λa=>ak (need ad [41]) λ_=>ret a):=by
 refine Nx.ak (bP.need _ _) λ_=>Nx.then hE λa=>λs n s' h x=>?_
 obtain⟨u,s1,e1,e2⟩:=ah x;cases e2
 grind [need]
theorem xn{ad:List Tk}{T E S:M Nat}(hT:bP T)(hE:Nx E)(hS:bP S):Nx (bO ad T E S):=
 Nx.look λ_=>Nx.ite (Nx.ak bP.step λ_=>Nx.addNode _)<|Nx.ite (Nx.ak bP.step λ_=>Nx.addNode _)<|Nx.ite (Nx.ak bP.step λ_=>Nx.addNode _)<|
 Nx.ak (bP.take _ _) λ_=>Nx.ite (Nx.addNode _)<|Nx.ak (bP.take _ _) λ_=>Nx.ite (Nx.addNode _)<|Nx.ak (bP.take _ _) λ_=>Nx.ite (Nx.addNode _)<|
 Nx.ak (bP.take _ _) λ_=>Nx.ite (Ap hT hS _)<|Nx.ak (bP.take _ _) λ_=>Nx.ite (Nx.ak (bP.list (λ_=>hE.pre) _ _) λ_=>Nx.addNode _)<|
 Nx.ak (bP.take _ _) λ_=>Nx.ite (Nx.ak (bP.list (λ_=>bP.fV hE.pre _) _ _) λ_=>Nx.addNode _)<|Ml hE
theorem Ie{ad:List Tk}{T E O S:M Nat}(hT:bP T)(hE:Nx E)(hO:Nx O)(hS:bP S):Nx (oI ad T E O S):=
 Nx.look λ_=>Nx.ite (Nx.ak bP.step λ_=>Nx.ak hO.pre λ_=>Nx.addNode _) (Nx.then (xn hT hE hS) λa=>mE hT hE _ a)
theorem JC{ad:List Tk}{E:M Nat}(hE:Nx E):Nx (cq ad E):=λs n s' x=>by
 obtain⟨a,s1,e1,e2⟩:=ah x;obtain⟨h1,h2,h3⟩:=hE _ _ _ e1;have key:∀(f:Nat->Nd),(ak (ef a) λ_=>ak step λ_=>ak E λv=>ak (need ad [59]) λ_=>addNode (f v)) s1=.ok (n,s')->s.ns<+:s'.ns/\n+1=s'.ns.length/\s.ns.length<=n:=λf y=>by
  have hk:Nx (ak step λ_=>ak E λv=>ak (need ad [59]) λ_=>addNode (f v)):=Nx.ak bP.step λ_=>Nx.ak hE.pre λ_=>Nx.ak (bP.need _ _) λ_=>Nx.addNode _
  obtain⟨g1,g2,g3⟩:=hk {s1 with ns:=s1.ns.take a} n s' y;have hp:s.ns<+:s1.ns.take a:=by
   grind
  grind
 unfold look at e2;dsimp only at e2;split at e2
 ·split at e2
  ·exact key _ e2
  ·split at e2
   ·exact key _ e2
   ·split at e2
    ·exact key _ e2
    ·cases e2
 ·obtain⟨g1,g2,g3⟩:=(Nx.ak (bP.need ad [59]) λ_=>Nx.addNode {af 25 (aY s1 a).pos with a:=a}) _ _ _ e2
  grind
theorem vO{ad:List Tk}{E S:M Nat}(hE:bP E)(hS:bP S)(yes:Bool)(pos:Nat):Nx (aZ ad E S yes pos):=
 Nx.ak bP.step λ_=>Nx.ak (bP.need _ _) λ_=>Nx.ak hE λ_=>Nx.ak (bP.need _ _) λ_=>Nx.ak (tK hS).pre λ_=>Nx.ite (Nx.ak (bP.take _ _) λ_=>Nx.ite (Nx.ak (tK hS).pre λ_=>Nx.addNode _) (Nx.addNode _)) (Nx.addNode _)
theorem NP{ad:List Tk}{T E S:M Nat}(hT:bP T)(hE:Nx E)(hS:bP S):Nx (de ad T E S):=
 Nx.look λ_=>Nx.ak (bP.take _ _) λ_=>Nx.ite (Nx.ak (bP.name _ _) λ_=>Nx.ak (bP.written hT) λ_=>Nx.ak (bP.need _ _) λ_=>Nx.ak hE.pre λ_=>Nx.ak (bP.need _ _) λ_=>Nx.addNode _)<|
 Nx.ak (bP.take _ _) λ_=>Nx.ite (Nx.ak hE.pre λ_=>Nx.ak (bP.need _ _) λ_=>Nx.addNode _)<|
 Nx.ak (bP.take _ _) λ_=>Nx.ite (Nx.ak hE.pre λ_=>Nx.ak (bP.need _ _) λ_=>Nx.addNode _)<|
 Nx.look λ_=>Nx.ite (vO hE.pre hS _ _)<|Nx.ite (vO hE.pre hS _ _) (JC hE)
theorem O_(ad:List Tk):∀r,Nx (lv ad r).E/\Nx (lv ad r).O/\Nx (lv ad r).S
 |0=>⟨Nx.fail _ _,Nx.fail _ _,Nx.fail _ _⟩
 |r+1=>by
  obtain⟨h1,h2,h3⟩:=O_ ad r;have hT:=bP.eJ ad r;exact⟨N1 (Ie hT h1 h2 h3.pre),Ie hT h1 h2 h3.pre,NP hT h1 h3.pre⟩
end Ty
end
end Go.Proofs.YtdlbhiaceheffabGreatDoor
