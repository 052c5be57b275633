/- Plain definitions and facts on bytes, texts and tokens: what the scanners compute. No program in sight. -/
import Derived.Lib.Hide
set_option linter.all false
namespace Go.Proofs.YtdlbhiaceheffabGreatDoor
open Go Go.RowKit
def Hq(p:Prop):Prop:=p
theorem Hq.o{p:Prop}(h:Hq p):p:=h
theorem Hq.out{p:Prop}(h:Hq p):p:=h
theorem qh{p:Prop}(h:p):Hq p:=h
abbrev EW:=Ending->World->Prop
abbrev BA:=ByteArray
def Ty.q0:=0
def Tryz.q0:=0
def nR:=@Nat.le_refl
def nT:=@Nat.le_trans
def nL:=@Nat.lt_of_lt_of_le
def gM:=@List.getElem_mem
def bR:=@Below.refl
open Ty
def lyA:=@List.getElem_toArray
def lyB:=@List.getElem_cons_zero
def lyC:=@List.getElem_cons_succ
def lyD:=@List.setIfInBounds_toArray
def lyE:=@List.set_cons_zero
def lyF:=@List.set_cons_succ
theorem lzA{α:Type}{a b:List α}: (a++b).length=a.length+b.length:=List.length_append
theorem lzC{α:Type}{a:α}{l:List α}: (a::l).length=l.length+1:=rfl
theorem lzN{α:Type}: ([]:List α).length=0:=rfl
namespace Tok
def isDigit(c:UInt8):Bool:=decide (48<=c.toNat)&&decide (c.toNat<=57)
def eN(c:UInt8):Bool:=decide (97<=c.toNat)&&decide (c.toNat<=122)||(decide (65<=c.toNat)&&decide (c.toNat<=90))||decide (c.toNat=95)
def dP(c:UInt8):Bool:=eN c||isDigit c
def cZ(c:UInt8):Bool:=decide (32<=c.toNat)&&decide (c.toNat<=126)&&!decide (c.toNat=34)
def stop(p:UInt8->Bool)(s:BA)(k:Nat):Nat:=k+((s.data.toList.drop k).takeWhile p).length
theorem drop_cons(s:BA)(k:Nat)(h:k<s.size):s.data.toList.drop k=s[k]::s.data.toList.drop (k+1):=by
 have h':k<s.data.toList.length:=by simpa using h
 rw[List.drop_eq_getElem_cons h'];rfl
theorem oy{p:UInt8->Bool}{s:BA}{k:Nat}(h:k<s.size)(hp:p s[k]=true):stop p s (k+1)=stop p s k:=by
 unfold stop;rw[drop_cons s k h];simp[hp];omega
theorem GK{p:UInt8->Bool}{s:BA}{k:Nat}(h:k<s.size)(hp:p s[k]=false):stop p s k=k:=by
 unfold stop;rw[drop_cons s k h];simp[hp]
theorem Lh{p:UInt8->Bool}{s:BA}{k:Nat}(h:s.size<=k):stop p s k=k:=by
 unfold stop;rw[List.drop_eq_nil_of_le (by simpa using h)];simp
theorem fY(p:UInt8->Bool)(s:BA)(k:Nat):k<=stop p s k:=by unfold stop;omega
theorem jf(p:UInt8->Bool)(s:BA)(k:Nat)(h:k<=s.size):stop p s k<=s.size:=by
 unfold stop;have h1: ((s.data.toList.drop k).takeWhile p).length<=(s.data.toList.drop k).length:=(List.takeWhile_sublist p).length_le;have h2: (s.data.toList.drop k).length=s.size-k:=by simp
 omega
def rA:List (List UInt8):=
 [[108,101,116],[102,110],[105,102],[101,108,115,101],[119,104,105,108,101],[114,101,116,117,114,110],[112,114,105,110,116],[116,114,117,101],[102,97,108,115,101],[110,117,108,108],[97,115],[116,121,112,101,111,102],[110,117,109],[98,111,111,108],[116,101,120,116],[97,110,121],[117,110,107,110,111,119,110]]
def words:List BA:=rA.map λl=>⟨l.toArray⟩
def isWord(x:BA):Bool:=decide (x.data.toList∈rA)
theorem DG(x:BA):isWord x=true↔x∈words:=by
 unfold isWord words;simp only[decide_eq_true_eq,List.mem_map];constructor
 ·intro h;exact⟨_,h,by cases x;rfl⟩
 ·rintro⟨l,hl,rfl⟩;exact hl
structure Tk where
 kind:Nat
 text:BA
 pos:Nat
def vn(c:UInt8):Bool:=decide (c∈[40,41,123,125,91,93,44,59,58,46,61,60,43,45,42,33,124].map (λn:Nat=>n.toUInt8))
def byte(s:BA)(k:Nat):UInt8:=s.data.toList.getD k 0
def two(s:BA)(k:Nat):Bool:=decide (k+1<s.size)&&byte s k==61&&(byte s (k+1)==61||byte s (k+1)==62)
def next(s:BA)(k:Nat):Tk×Nat×Bool:=
 let c:=byte s k
 if eN c then
  let e:=stop dP s k
  (⟨if isWord (s.extract k e)then 2 else 1,s.extract k e,k⟩,e-k,decide (e-k<=20))
 else if isDigit c then
  let e:=stop isDigit s k
  (⟨3,s.extract k e,k⟩,e-k,decide (e-k<=9)&&(decide (e-k=1)||!decide (c=48)))
 else if c=34 then
  let e:=stop cZ s (k+1)
  (⟨4,s.extract (k+1) e,k⟩,e-k+1,decide (e-(k+1)<=30)&&(decide (e<s.size)&&decide (byte s e=34)))
 else if two s k then(⟨5,s.extract k (k+2),k⟩,2,true)
 else(⟨5,s.extract k (k+1),k⟩,1,vn c)
abbrev Zm:=Except (Nat×Nat) (List Tk)
def c_(s:BA):Nat->Nat->List Tk->Zm
 |0,_,out=>.ok out
 |f+1,k,out=>
  if k<s.size then
   if byte s k=32\/byte s k=10 then c_ s f (k+1) out
   else if(next s k).2.2=false then .error (1,k)
   else if out.length=1000 then .error (2,k)
   else c_ s f (k+(next s k).2.1) (out++[(next s k).1])
  else .ok (out++[⟨6,⟨#[]⟩,s.size⟩])
def scan(s:BA):Zm:=if 4000<s.size then .error (2,0)else c_ s (s.size+1) 0 []
theorem ef(s:BA)(k:Nat)(h:k<s.size):byte s k=s[k]:=by
 have h':k<s.data.toList.length:=by simpa using h
 unfold byte;rw[List.getD_eq_getElem?_getD,List.getElem?_eq_getElem h'];rfl
theorem x_(s:BA)(k e i:Nat)(h:i<(s.extract k e).size): (s.extract k e)[i]=byte s (k+i):=by
 have hh:i<min e s.size-k:=by simpa using h
 rw[ByteArray.getElem_extract,ef s (k+i) (by omega)]
theorem Xa(c:UInt8):c=48↔(c.toNat:Int)=48:=by rw[<-UInt8.toNat_inj];simp;omega
theorem Tl(c:UInt8):c=34↔(c.toNat:Int)=34:=by rw[<-UInt8.toNat_inj];simp;omega
theorem VP(c:UInt8):c=32↔(c.toNat:Int)=32:=by rw[<-UInt8.toNat_inj];simp;omega
theorem VD(c:UInt8):c=10↔(c.toNat:Int)=10:=by rw[<-UInt8.toNat_inj];simp;omega
theorem kC(s:BA)(k:Nat):List.take (s.size-k) (List.drop k s.data.toList)=List.drop k s.data.toList:=List.take_of_length_le (by simp)
theorem yr(s:BA)(k:Nat)(a b:UInt8):List.isPrefixOf [a,b] (List.drop k s.data.toList)=(decide (k+1<s.size)&&(byte s k==a&&byte s (k+1)==b)):=by
 by_cases h:k+1<s.size
 ·rw[drop_cons s k (by omega),drop_cons s (k+1) h,ef s k (by omega),ef s (k+1) h];simp[List.isPrefixOf,h,BEq.comm]
 ·by_cases h1:k<s.size
  ·rw[drop_cons s k h1,List.drop_eq_nil_of_le (by simp;omega)];simp[List.isPrefixOf,h]
  ·rw[List.drop_eq_nil_of_le (by simp;omega)];simp[List.isPrefixOf,h]
theorem Pe(s:BA)(k:Nat):two s k=(List.isPrefixOf [61,61] (List.drop k s.data.toList)||List.isPrefixOf [61,62] (List.drop k s.data.toList)):=by
 rw[yr,yr];unfold two;cases decide (k+1<s.size)<;>cases byte s k==61<;>simp
theorem Az(s:BA)(k:Nat)(h:two s k=true):k+1<s.size:=by
 unfold two at h;simp at h;exact h.1.1
theorem zI(s:BA)(k:Nat)(a b:UInt8)(h:List.isPrefixOf [a,b] (List.drop k s.data.toList)=true):s.extract k (k+2)=⟨#[a,b]⟩:=by
 rw[yr]at h
 simp at h;obtain⟨h1,h2,h3⟩:=h;apply ByteArray.ext;apply Array.ext';rw[ef s k (by omega)]at h2
 rw[ef s (k+1) h1]at h3
 have hd:=drop_cons s k (by omega);have aaD:=drop_cons s (k+1) h1;simp only[ByteArray.data_extract,Array.toList_extract,List.extract_eq_take_drop,hd,aaD,h2,h3];simp
theorem py(s:BA)(k:Nat)(h:k<s.size)(ok: (next s k).2.2=true):1<=(next s k).2.1/\k+(next s k).2.1<=s.size:=by
 unfold next at ok⊢;by_cases hl:eN (byte s k)=true
 ·simp only[hl,if_true]at ok⊢;have h1:=oy (p:=dP) h (by rw[<-ef];simp[dP,hl]);have h2:=fY dP s (k+1);have h3:=jf dP s k (by omega);omega
 ·by_cases hd:isDigit (byte s k)=true
  ·simp only[hl,hd,if_true]at ok⊢;have h1:=oy (p:=isDigit) h (by rw[<-ef];exact hd);have h2:=fY isDigit s (k+1);have h3:=jf isDigit s k (by omega);simp only[Bool.false_eq_true,if_false];omega
  ·by_cases hq:byte s k=34
   ·simp only[hl,hd,if_false,Bool.false_eq_true]at ok⊢;rw[if_pos hq]at ok⊢
    have h2:=fY cZ s (k+1);have h3:stop cZ s (k+1)<s.size:=by simp at ok;exact ok.2.1
    show 1<=stop cZ s (k+1)-k+1/\k+(stop cZ s (k+1)-k+1)<=s.size;omega
   ·by_cases ht:two s k=true
    ·simp only[hl,hd,hq,ht,if_true,if_false,Bool.false_eq_true]at ok⊢;have:=Az s k ht;omega
    ·simp only[hl,hd,hq,ht,if_false,Bool.false_eq_true]at ok⊢;omega
end Tok
namespace Tok
theorem zZ(s:BA):∀(f k:Nat)(o l:List Tk),k<=s.size->s.size<k+f->o.length<=1000->c_ s f k o=.ok l->l≠[]/\l.length<=1001:=by
 intro f;induction f with
 |zero=>intro k o l hk hf;omega
 |succ f ih=>
  intro k o l hk hf ho h;rw[c_]at h
  by_cases a_:k<s.size
  ·rw[if_pos a_]at h
   by_cases hb:byte s k=32\/byte s k=10
   ·rw[if_pos hb]at h
    exact ih (k+1) o l (by omega) (by omega) ho h
   ·rw[if_neg hb]at h
    by_cases aH: (next s k).2.2=false
    ·rw[if_pos aH]at h;cases h
    ·rw[if_neg aH]at h
     by_cases hl:o.length=1000
     ·rw[if_pos hl]at h;cases h
     ·rw[if_neg hl]at h
      have hn:=py s k a_ (by simpa using aH);exact ih _ _ l (by omega) (by omega) (by simp;omega) h
  ·rw[if_neg a_]at h
   obtain rfl:=Except.ok.inj h;simp;omega
theorem ED(s:BA)(l:List Tk)(h:scan s=.ok l):l≠[]/\l.length<=1001/\s.size<=4000:=by
 unfold scan at h;by_cases hs:4000<s.size
 ·rw[if_pos hs]at h;cases h
 ·rw[if_neg hs]at h
  have:=zZ s (s.size+1) 0 [] l (by omega) (by omega) (by simp) h;exact⟨this.1,this.2,by omega⟩
end Tok
section
namespace Ty
open Tok (Tk)
structure Ty where
 kind:Nat
 fields:List (BA×Nat)
 list:List Nat
 of:Nat
structure Nd where
 kind:Nat
 a:Nat
 b:Nat
 c:Int
 list:List Nat
 text:BA
 n:Nat
 ty:Int
 pos:Nat
abbrev Ft:=Nat×Nat
structure St where
 pos:Nat
 ts:List Ty
 ns:List Nd
def M(α:Type):=St->Except Ft (α×St)
def ret{α:Type}(a:α):M α:=λs=>.ok (a,s)
def aq{α β:Type}(m:M α)(k:α->M β):M β:=λs=>match m s with
 | .error e=>.error e
 | .ok (a,s')=>k a s'
theorem aw{α β:Type}{m:M α}{k:α->M β}{s s':St}{a:α}(h:m s=.ok (a,s')):aq m k s=k a s':=by unfold aq;rw[h]
theorem aP{α β:Type}{m:M α}{k:α->M β}{s:St}{e:Ft}(h:m s=.error e):aq m k s=.error e:=by unfold aq;rw[h]
theorem ar{α β:Type}{m:M α}{k:α->M β}{s s':St}{b:β}(h:aq m k s=.ok (b,s')):∃a s1,m s=.ok (a,s1)/\k a s1=.ok (b,s'):=by
 unfold aq at h;split at h
 ·cases h
 ·rename_i a s1 e;exact⟨a,s1,e,h⟩
def cur(ad:List Tk)(pos:Nat):Tk:=(ad[pos]?).getD ⟨6,⟨#[]⟩,0⟩
def here(ad:List Tk)(e pos:Nat):Ft:=(e,(cur ad pos).pos)
def is(ad:List Tk)(s:List UInt8)(pos:Nat):Bool:=(decide ((cur ad pos).kind=5)||decide ((cur ad pos).kind=2))&&decide ((cur ad pos).text.data.toList=s)
def fail{α:Type}(ad:List Tk)(e:Nat):M α:=λs=>.error (here ad e s.pos)
def step:M Unit:=λs=>.ok ((),{s with pos:=s.pos+1})
def take(ad:List Tk)(x:List UInt8):M Bool:=λs=>if is ad x s.pos then .ok (true,{s with pos:=s.pos+1})else .ok (false,s)
def need(ad:List Tk)(x:List UInt8):M Unit:=λs=>if is ad x s.pos then .ok ((),{s with pos:=s.pos+1})else .error (here ad 1 s.pos)
def name(ad:List Tk)(met:List BA):M BA:=λs=>
 if(cur ad s.pos).kind≠1 then .error (here ad 1 s.pos)
 else if(cur ad s.pos).text.data.toList∈met.map (λt=>t.data.toList)then .error (here ad 6 s.pos)
 else .ok ((cur ad s.pos).text,{s with pos:=s.pos+1})
def aY(t:Ty):M Nat:=λs=>.ok (s.ts.length,{s with ts:=s.ts++[t]})
def xN:List (List UInt8):=[[110,117,109],[98,111,111,108],[116,101,120,116],[110,117,108,108],[97,110,121],[117,110,107,110,111,119,110]]
def cB(x:BA):Nat:=match xN.idxOf? x.data.toList with|some i=>i+1|none=>0
def list{α:Type}(ad:List Tk)(e:List UInt8)(m:List α->M α):Nat->List α->M (List α)
 |0,_=>fail ad 1
 |f+1,l=>aq (take ad e) λb=>if b then ret l else
   aq (if l.length=0 then ret ()else need ad [44]) λ_=>aq (m l) λn=>list ad e m f (l++[n])
def fields(ad:List Tk)(T:M Nat):Nat->List (BA×Nat)->M (List (BA×Nat))
 |0,_=>fail ad 1
 |f+1,l=>aq (take ad [125]) λb=>if b then ret l else
   aq (name ad (l.map Prod.fst)) λs=>aq (need ad [58]) λ_=>aq T λn=>aq (need ad [59]) λ_=>fields ad T f (l++[(s,n)])
def object(ad:List Tk)(T:M Nat):M Nat:=aq (fields ad T (ad.length+1) []) λl=>aY ⟨7,l,[],0⟩
def round(ad:List Tk)(T:M Nat):M Nat:=
 aq (list ad [41] (λ_=>T) (ad.length+1) []) λl=>aq (take ad [61,62]) λb=>
  if b then aq T λn=>aY ⟨9,[],l,n⟩
  else if l.length=1 then ret (l.headD 0)else fail ad 1
def single(ad:List Tk)(T:M Nat):M Nat:=λs=>
 if(cur ad s.pos).kind=2/\cB (cur ad s.pos).text>0 then aq step (λ_=>aY ⟨cB (cur ad s.pos).text,[],[],0⟩) s
 else aq (take ad [123]) (λb=>if b then object ad T else
  aq (take ad [91]) λb=>if b then aq T λn=>aq (need ad [93]) λ_=>aY ⟨8,[],[],n⟩else
   aq (need ad [40]) λ_=>round ad T) s
def bars(ad:List Tk)(S:M Nat):Nat->List Nat->M (List Nat)
 |0,_=>fail ad 1
 |f+1,l=>aq (take ad [124]) λb=>if b then aq S λn=>bars ad S f (l++[n])else ret l
def union(ad:List Tk)(S:M Nat):M Nat:=
 aq S λn=>aq (bars ad S (ad.length+1) [n]) λl=>if l.length=1 then ret (l.headD 0)else aY ⟨10,[],l,0⟩
def r'(ad:List Tk):Nat->M Nat
 |0=>fail ad 8
 |r+1=>union ad (single ad (r' ad r))
def bf{α:Type}(d c e:Int)(m:M α):Prop:=∀s a s',m s=.ok (a,s')->(s.pos:Int)+d<=s'.pos/\(s'.ts.length:Int)+s.pos+c<=s.ts.length+s'.pos/\(s'.ns.length:Int)+s.pos+e<=s.ns.length+s'.pos
theorem bf.mono{α:Type}{d c e d' c' e':Int}{m:M α}(h:bf d c e m)(hd:d'<=d:=by omega)(hc:c'<=c:=by omega)(he:e'<=e:=by omega):bf d' c' e' m:=λs a s' k=>by have:=h s a s' k;omega
theorem bf.ret{α:Type}(a:α):bf 0 0 0 (ret a):=λs b s' e=>by cases e;simp
theorem bf.fail{α:Type}(ad:List Tk)(n:Nat)(d c e:Int):bf d c e (fail (α:=α) ad n):=λs b s' h=>by cases h
theorem bf.step:bf 1 1 1 step:=λs b s' e=>by cases e;simp;omega
theorem bf.need(ad:List Tk)(x:List UInt8):bf 1 1 1 (need ad x):=λs b s' e=>by
 unfold Ty.need at e;split at e
 ·cases e;simp;omega
 ·cases e
theorem bf.name(ad:List Tk)(met:List BA):bf 1 1 1 (name ad met):=λs b s' e=>by
 unfold Ty.name at e;split at e
 ·cases e
 ·split at e
  ·cases e
  ·cases e;simp;omega
theorem bf.aY(t:Ty):bf 0 (-1) 0 (aY t):=λs b s' e=>by cases e;simp;omega
theorem bf.aq{α β:Type}{m:M α}{k:α->M β}{d c e d' c' e':Int}(h:bf d c e m)(g:∀a,bf d' c' e' (k a)):bf (d+d') (c+c') (e+e') (Ty.aq m k):=λs b s' x=>by
 obtain⟨a,s1,e1,e2⟩:=ar x;have:=h _ _ _ e1;have:=g a _ _ _ e2;omega
theorem bf.take{β:Type}(ad:List Tk)(x:List UInt8){k:Bool->M β}{d c e:Int}(h1:bf (d-1) (c-1) (e-1) (k true))(h2:bf d c e (k false)):bf d c e (Ty.aq (Ty.take ad x) k):=λs b s' y=>by
 obtain⟨a,s1,e1,e2⟩:=ar y;unfold Ty.take at e1;split at e1<;>cases e1
 ·have:=h1 _ _ _ e2;simp at this;omega
 ·exact h2 _ _ _ e2
theorem bf.ite{α:Type}{p:Prop} [Decidable p]{m n:M α}{d c e:Int}(h:p->bf d c e m)(g:¬p->bf d c e n):bf d c e (if p then m else n):=by
 split
 ·exact h ‹_›
 ·exact g ‹_›
theorem gj{α:Type}{ad:List Tk}{x:List UInt8}{m:List α->M α}(hm:∀l,bf 1 0 0 (m l)):∀f l,bf 1 1 1 (list ad x m f l)
 |0,_=>bf.fail _ _ _ _ _
 |f+1,l=>by
  refine bf.take _ _ ?_ ?_
  ·simp only[if_true];exact(bf.ret l).mono
  ·simp only[Bool.false_eq_true,if_false];exact((bf.ite (d:=0) (c:=0) (e:=0) (λ_=>bf.ret ()) (λ_=>(bf.need _ _).mono)).aq λ_=>(hm l).aq λn=>gj hm f (l++[n])).mono
theorem tR{ad:List Tk}{T:M Nat}(hT:bf 1 0 0 T):∀f l,bf 1 1 1 (fields ad T f l)
 |0,_=>bf.fail _ _ _ _ _
 |f+1,l=>by
  refine bf.take _ _ ?_ ?_
  ·simp only[if_true];exact(bf.ret l).mono
  ·simp only[Bool.false_eq_true,if_false];exact((bf.name _ _).aq λs=>(bf.need _ _).aq λ_=>hT.aq λn=>(bf.need _ _).aq λ_=>tR hT f (l++[(s,n)])).mono
theorem Cw{ad:List Tk}{T:M Nat}(hT:bf 1 0 0 T):bf 1 0 0 (object ad T):=((tR hT _ _).aq λ_=>bf.aY _).mono
theorem GC{ad:List Tk}{T:M Nat}(hT:bf 1 0 0 T):bf 1 0 0 (round ad T):=
 ((gj (λ_=>hT) _ _).aq (d':=0) (c':=0) (e':=0) λl=>bf.take _ _ (by simp only[if_true];exact(hT.aq λn=>bf.aY _).mono)
  (by simp only[Bool.false_eq_true,if_false];exact bf.ite (λ_=>bf.ret _) (λ_=>bf.fail _ _ _ _ _))).mono
theorem vi{ad:List Tk}{T:M Nat}(hT:bf 1 0 0 T):bf 1 0 0 (single ad T):=λs a s' h=>by
 unfold single at h;split at h
 ·exact(bf.step.aq λ_=>bf.aY _).mono (by omega) (by omega) (by omega) s a s' h
 ·revert h;refine(show bf 1 0 0 _ from ?_) s a s';refine bf.take _ _ ?_ ?_
  ·simp only[if_true];exact(Cw hT).mono
  ·simp only[Bool.false_eq_true,if_false];refine bf.take _ _ ?_ ?_
   ·simp only[if_true];exact(hT.aq λn=>(bf.need _ _).aq λ_=>bf.aY _).mono
   ·simp only[Bool.false_eq_true,if_false];exact((bf.need _ _).aq λ_=>GC hT).mono
theorem zQ{ad:List Tk}{S:M Nat}(hS:bf 1 0 0 S):∀f l s l' s',bars ad S f l s=.ok (l',s')->l.length<=l'.length/\s.pos<=s'.pos/\s'.ts.length+s.pos+l'.length<=s.ts.length+s'.pos+l.length/\s'.ns.length+s.pos+l'.length<=s.ns.length+s'.pos+l.length
 |0,_,s,l',s',h=>by cases h
 |f+1,l,s,l',s',h=>by
  obtain⟨b,s1,e1,e2⟩:=ar h;unfold Ty.take at e1;split at e1<;>cases e1
  ·simp only[if_true]at e2;obtain⟨n,s2,e3,e4⟩:=ar e2;have a1:=hS _ _ _ e3;have a2:=zQ hS f _ _ _ _ e4;simp at a1 a2;omega
  ·simp only[Bool.false_eq_true,if_false]at e2;cases e2;simp
theorem Gq{ad:List Tk}{S:M Nat}(hS:bf 1 0 0 S):bf 1 0 0 (union ad S):=λs a s' h=>by
 obtain⟨n,s1,e1,e2⟩:=ar h;obtain⟨l,s2,e3,e4⟩:=ar e2;have a1:=hS _ _ _ e1;have a2:=zQ hS _ _ _ _ _ e3;simp at a2;split at e4
 ·cases e4;omega
 ·cases e4;simp;omega
theorem p_(ad:List Tk):∀r,bf 1 0 0 (r' ad r)
 |0=>bf.fail _ _ _ _ _
 |r+1=>Gq (vi (p_ ad r))
end Ty
end
namespace Tok
theorem yD(s:BA):∀(f k:Nat)(o:List Tk)(e p:Nat),c_ s f k o=.error (e,p)->e=1\/e=2:=by
 intro f;induction f with
 |zero=>intro k o e p h;cases h
 |succ f ih=>
  intro k o e p h;rw[c_]at h
  by_cases a_:k<s.size
  ·rw[if_pos a_]at h
   by_cases hb:byte s k=32\/byte s k=10
   ·rw[if_pos hb]at h;exact ih _ _ _ _ h
   ·rw[if_neg hb]at h
    by_cases aH: (next s k).2.2=false
    ·rw[if_pos aH]at h
     have:=Except.error.inj h;simp only[Prod.mk.injEq]at this;omega
    ·rw[if_neg aH]at h
     by_cases hl:o.length=1000
     ·rw[if_pos hl]at h
      have:=Except.error.inj h;simp only[Prod.mk.injEq]at this;omega
     ·rw[if_neg hl]at h;exact ih _ _ _ _ h
  ·rw[if_neg a_]at h;cases h
theorem J_(s:BA)(e p:Nat)(h:scan s=.error (e,p)):e=1\/e=2:=by
 unfold scan at h;by_cases hs:4000<s.size
 ·rw[if_pos hs]at h
  have:=Except.error.inj h;simp only[Prod.mk.injEq]at this;omega
 ·rw[if_neg hs]at h;exact yD s _ _ _ e p h
end Tok
section
namespace Ty
open Tok (Tk)
def Bad{α:Type}(m:M α):Prop:=∀s f,m s=.error f->f.1≠0/\f.1<=9
theorem Bad.ret{α:Type}(a:α):Bad (ret a):=λs f h=>by cases h
theorem Bad.fail{α:Type}(ad:List Tk)(n:Nat)(hn:n≠0/\n<=9:=by omega):Bad (fail (α:=α) ad n):=λs f h=>by cases h;exact hn
theorem Bad.step:Bad step:=λs f h=>by cases h
theorem Bad.take(ad:List Tk)(x:List UInt8):Bad (take ad x):=λs f h=>by unfold Ty.take at h;split at h<;>cases h
theorem Bad.need(ad:List Tk)(x:List UInt8):Bad (need ad x):=λs f h=>by unfold Ty.need at h;split at h<;>cases h;simp[here]
theorem Bad.name(ad:List Tk)(met:List BA):Bad (name ad met):=λs f h=>by
 unfold Ty.name at h;split at h
 ·cases h;simp[here]
 ·split at h
  ·cases h;simp[here]
  ·cases h
theorem Bad.aY(t:Ty):Bad (aY t):=λs f h=>by cases h
theorem Bad.aq{α β:Type}{m:M α}{k:α->M β}(h:Bad m)(g:∀a,Bad (k a)):Bad (Ty.aq m k):=λs f e=>by
 unfold Ty.aq at e;split at e
 ·rename_i e1;cases e;exact h _ _ e1
 ·exact g _ _ _ e
theorem Bad.ite{α:Type}{p:Prop} [Decidable p]{m n:M α}(h:Bad m)(g:Bad n):Bad (if p then m else n):=by
 split
 ·exact h
 ·exact g
theorem lO{α:Type}{ad:List Tk}{x:List UInt8}{m:List α->M α}(hm:∀l,Bad (m l)):∀f l,Bad (list ad x m f l)
 |0,_=>Bad.fail _ _
 |f+1,l=>(Bad.take _ _).aq λb=>Bad.ite (Bad.ret l) ((Bad.ite (Bad.ret ()) (Bad.need _ _)).aq λ_=>(hm l).aq λn=>lO hm f (l++[n]))
theorem uA{ad:List Tk}{T:M Nat}(hT:Bad T):∀f l,Bad (fields ad T f l)
 |0,_=>Bad.fail _ _
 |f+1,l=>(Bad.take _ _).aq λb=>Bad.ite (Bad.ret l) ((Bad.name _ _).aq λs=>(Bad.need _ _).aq λ_=>hT.aq λn=>(Bad.need _ _).aq λ_=>uA hT f (l++[(s,n)]))
theorem DB{ad:List Tk}{T:M Nat}(hT:Bad T):Bad (object ad T):=(uA hT _ _).aq λ_=>Bad.aY _
theorem G0{ad:List Tk}{T:M Nat}(hT:Bad T):Bad (round ad T):=
 (lO (λ_=>hT) _ _).aq λl=>(Bad.take _ _).aq λb=>Bad.ite (hT.aq λn=>Bad.aY _) (Bad.ite (Bad.ret _) (Bad.fail _ _))
theorem DL{ad:List Tk}{T:M Nat}(hT:Bad T):Bad (single ad T):=λs f h=>by
 unfold single at h;split at h
 ·exact(Bad.step.aq λ_=>Bad.aY _) s f h
 ·exact((Bad.take _ _).aq λb=>Bad.ite (DB hT) ((Bad.take _ _).aq λb=>Bad.ite (hT.aq λn=>(Bad.need _ _).aq λ_=>Bad.aY _) ((Bad.need _ _).aq λ_=>G0 hT))) s f h
theorem AG{ad:List Tk}{S:M Nat}(hS:Bad S):∀f l,Bad (bars ad S f l)
 |0,_=>Bad.fail _ _
 |f+1,l=>(Bad.take _ _).aq λb=>Bad.ite (hS.aq λn=>AG hS f (l++[n])) (Bad.ret l)
theorem Gd{ad:List Tk}{S:M Nat}(hS:Bad S):Bad (union ad S):=hS.aq λ_=>(AG hS _ _).aq λ_=>Bad.ite (Bad.ret _) (Bad.aY _)
theorem EH(ad:List Tk):∀r,Bad (r' ad r)
 |0=>Bad.fail _ _
 |r+1=>Gd (DL (EH ad r))
theorem vV(s:BA):∀(f k:Nat)(o l:List Tk),Tok.c_ s f k o=.ok l->s.size<k+f->k<=s.size->∀t,l.getLast?=some t->t.kind=6:=by
 intro f;induction f with
 |zero=>intro k o l _ h1 h2;omega
 |succ f ih=>
  intro k o l h h1 h2 t ht;rw[Tok.c_]at h
  by_cases a_:k<s.size
  ·rw[if_pos a_]at h
   by_cases hb:Tok.byte s k=32\/Tok.byte s k=10
   ·rw[if_pos hb]at h
    exact ih _ _ _ h (by omega) (by omega) t ht
   ·rw[if_neg hb]at h
    by_cases aH: (Tok.next s k).2.2=false
    ·rw[if_pos aH]at h;cases h
    ·rw[if_neg aH]at h
     by_cases hl:o.length=1000
     ·rw[if_pos hl]at h;cases h
     ·rw[if_neg hl]at h
      have Ie:=Tok.py s k a_ (by simpa using aH);exact ih _ _ _ h (by omega) (by omega) t ht
  ·rw[if_neg a_]at h
   cases h;simp at ht;subst ht;rfl
theorem GV{s:BA}{l:List Tk}(h:Tok.scan s=.ok l):∀t,l.getLast?=some t->t.kind=6:=by
 unfold Tok.scan at h;split at h
 ·cases h
 ·exact vV s _ _ _ _ h (by omega) (by omega)
end Ty
end
section
namespace Ty
open Tok (Tk)
def af(kind pos:Nat):Nd:=⟨kind,0,0,0,[],⟨#[]⟩,0,-1,pos⟩
def addNode(n:Nd):M Nat:=λs=>.ok (s.ns.length,{s with ns:=s.ns++[n]})
def cG(s:St)(a:Nat):Nd:=(s.ns[a]?).getD (af 0 0)
def look{α:Type}(k:St->M α):M α:=λs=>k s s
def two(x:BA)(a b:Nat):M Nat:=look λs=>addNode {af 12 (cG s a).pos with text:=x,a:=a,b:=b}
def cW(ad:List Tk)(one:M Nat)(bh:List (List UInt8)):Nat->Nat->M Nat
 |0,_=>fail ad 1
 |f+1,n=>look λs=>if bh.any (λx=>is ad x s.pos)then aq step λ_=>aq one λb=>aq (two (cur ad s.pos).text n b) λm=>cW ad one bh f m else ret n
def left(ad:List Tk)(one:M Nat)(bh:List (List UInt8)):M Nat:=aq one λn=>cW ad one bh (ad.length+1) n
def lT(ad:List Tk)(one:M Nat):M Nat:=left ad one [[42]]
def pY(ad:List Tk)(one:M Nat):M Nat:=left ad (lT ad one) [[43],[45]]
def jH(ad:List Tk)(one:M Nat):M Nat:=
 aq (pY ad one) λn=>aq (take ad [61,61]) λb=>if b then aq (pY ad one) λm=>two ⟨#[61,61]⟩ n m else
  aq (take ad [60]) λb=>if b then aq (pY ad one) λm=>two ⟨#[60]⟩ n m else ret n
def behind(ad:List Tk)(T E:M Nat):Nat->Nat->M Nat
 |0,_=>fail ad 1
 |f+1,a=>look λs=>aq (take ad [40]) λb=>if b then aq (list ad [41] (λ_=>E) (ad.length+1) []) λl=>aq (addNode {af 7 (cG s a).pos with a:=a,list:=l}) λm=>behind ad T E f m else
   aq (take ad [46]) λb=>if b then aq (name ad []) λx=>aq (addNode {af 8 (cG s a).pos with a:=a,text:=x}) λm=>behind ad T E f m else
   aq (take ad [91]) λb=>if b then aq E λc=>aq (need ad [93]) λ_=>aq (addNode {af 9 (cG s a).pos with a:=a,b:=c}) λm=>behind ad T E f m else
   aq (take ad [97,115]) λb=>if b then aq T λt=>aq (addNode {af 14 (cG s a).pos with a:=a,ty:=(t:Int)}) λm=>behind ad T E f m else ret a
def written(ad:List Tk)(T:M Nat):M Int:=aq (take ad [58]) λb=>if b then aq T λn=>ret (n:Int)else ret (-1)
def hZ(ad:List Tk)(E:M Nat)(met:List BA):M (BA×Nat):=
 look λs=>aq (name ad met) λx=>aq (need ad [58]) λ_=>aq E λa=>aq (addNode {af 15 (cur ad s.pos).pos with text:=x,a:=a}) λn=>ret (x,n)
def gB(ad:List Tk)(T:M Nat)(met:List BA):M (BA×Nat):=
 look λs=>aq (name ad met) λx=>aq (written ad T) λt=>aq (addNode {af 16 (cur ad s.pos).pos with text:=x,ty:=t}) λn=>ret (x,n)
def stmts(ad:List Tk)(S:M Nat):Nat->List Nat->M (List Nat)
 |0,_=>fail ad 1
 |f+1,l=>aq (take ad [125]) λb=>if b then ret l else aq S λn=>stmts ad S f (l++[n])
def dW(ad:List Tk)(S:M Nat):M Nat:=look λs=>aq (need ad [123]) λ_=>aq (stmts ad S (ad.length+1) []) λl=>addNode {af 26 (cur ad s.pos).pos with list:=l}
def cA(ad:List Tk)(T S:M Nat)(pos:Nat):M Nat:=
 aq (need ad [40]) λ_=>aq (list ad [41] (λl=>gB ad T (l.map Prod.fst)) (ad.length+1) []) λl=>aq (written ad T) λt=>aq (dW ad S) λa=>
  addNode {af 6 pos with list:=l.map Prod.snd,ty:=t,a:=a}
def value(x:BA):Nat:=x.data.toList.foldl (λn c=>10*n+(c.toNat-48)) 0
def cD(ad:List Tk)(T E S:M Nat):M Nat:=look λs=>
 if(cur ad s.pos).kind=3 then aq step λ_=>addNode {af 1 (cur ad s.pos).pos with n:=value (cur ad s.pos).text}else
 if(cur ad s.pos).kind=4 then aq step λ_=>addNode {af 2 (cur ad s.pos).pos with text:=(cur ad s.pos).text}else
 if(cur ad s.pos).kind=1 then aq step λ_=>addNode {af 5 (cur ad s.pos).pos with text:=(cur ad s.pos).text}else
 aq (take ad [116,114,117,101]) λb=>if b then addNode {af 3 (cur ad s.pos).pos with n:=1}else
 aq (take ad [102,97,108,115,101]) λb=>if b then addNode (af 3 (cur ad s.pos).pos)else
 aq (take ad [110,117,108,108]) λb=>if b then addNode (af 4 (cur ad s.pos).pos)else
 aq (take ad [102,110]) λb=>if b then cA ad T S (cur ad s.pos).pos else
 aq (take ad [91]) λb=>if b then aq (list ad [93] (λ_=>E) (ad.length+1) []) λl=>addNode {af 11 (cur ad s.pos).pos with list:=l}else
 aq (take ad [123]) λb=>if b then aq (list ad [125] (λl=>hZ ad E (l.map Prod.fst)) (ad.length+1) []) λl=>addNode {af 10 (cur ad s.pos).pos with list:=l.map Prod.snd}else
 aq (need ad [40]) λ_=>aq E λa=>aq (need ad [41]) λ_=>ret a
def gW:List (List UInt8):=[[33],[45],[116,121,112,101,111,102]]
def pw(ad:List Tk)(T E O S:M Nat):M Nat:=look λs=>
 if gW.any (λx=>is ad x s.pos)then aq step λ_=>aq O λa=>addNode {af 13 (cur ad s.pos).pos with text:=(cur ad s.pos).text,a:=a}
 else aq (cD ad T E S) λa=>behind ad T E (ad.length+1) a
def gi(a:Nat):M Unit:=λs=>.ok ((),{s with ns:=s.ns.take a})
def dc(ad:List Tk)(E:M Nat):M Nat:=aq E λa=>look λs=>
 if is ad [61] s.pos then
  if(cG s a).kind=5 then aq (gi a) λ_=>aq step λ_=>aq E λv=>aq (need ad [59]) λ_=>addNode {af 18 (cG s a).pos with text:=(cG s a).text,a:=v}
  else if(cG s a).kind=8 then aq (gi a) λ_=>aq step λ_=>aq E λv=>aq (need ad [59]) λ_=>addNode {af 19 (cG s a).pos with text:=(cG s a).text,a:=(cG s a).a,b:=v}
  else if(cG s a).kind=9 then aq (gi a) λ_=>aq step λ_=>aq E λv=>aq (need ad [59]) λ_=>addNode {af 20 (cG s a).pos with a:=(cG s a).a,b:=(cG s a).b,c:=(v:Int)}
  else fail ad 1
 else aq (need ad [59]) λ_=>addNode {af 25 (cG s a).pos with a:=a}
def bF(ad:List Tk)(E S:M Nat)(yes:Bool)(pos:Nat):M Nat:=
 aq step λ_=>aq (need ad [40]) λ_=>aq E λa=>aq (need ad [41]) λ_=>aq (dW ad S) λb=>
  if yes then aq (take ad [101,108,115,101]) λe=>if e then aq (dW ad S) λc=>addNode {af 22 pos with a:=a,b:=b,c:=(c:Int)}else addNode {af 22 pos with a:=a,b:=b,c:= -1}
  else addNode {af 23 pos with a:=a,b:=b}
def dv(ad:List Tk)(T E S:M Nat):M Nat:=look λs=>
 aq (take ad [108,101,116]) λb=>if b then aq (name ad []) λx=>aq (written ad T) λt=>aq (need ad [61]) λ_=>aq E λa=>aq (need ad [59]) λ_=>addNode {af 17 (cur ad s.pos).pos with text:=x,ty:=t,a:=a}else
 aq (take ad [112,114,105,110,116]) λb=>if b then aq E λa=>aq (need ad [59]) λ_=>addNode {af 21 (cur ad s.pos).pos with a:=a}else
 aq (take ad [114,101,116,117,114,110]) λb=>if b then aq E λa=>aq (need ad [59]) λ_=>addNode {af 24 (cur ad s.pos).pos with a:=a}else
 look λs2=>if is ad [105,102] s2.pos then bF ad E S true (cur ad s.pos).pos else if is ad [119,104,105,108,101] s2.pos then bF ad E S false (cur ad s.pos).pos else dc ad E
structure Lv where
 E:M Nat
 O:M Nat
 S:M Nat
def lv(ad:List Tk):Nat->Lv
 |0=>⟨fail ad 8,fail ad 8,fail ad 8⟩
 |r+1=>⟨jH ad (pw ad (r' ad r) (lv ad r).E (lv ad r).O (lv ad r).S),pw ad (r' ad r) (lv ad r).E (lv ad r).O (lv ad r).S,dv ad (r' ad r) (lv ad r).E (lv ad r).S⟩
def fu(ad:List Tk)(S:M Nat):Nat->List Nat->M (List Nat)
 |0,_=>fail ad 1
 |f+1,l=>look λs=>if(cur ad s.pos).kind=6 then ret l else aq S λn=>fu ad S f (l++[n])
def m'(ad:List Tk):M Nat:=aq (fu ad (lv ad 20).S (ad.length+1) []) λl=>addNode {af 26 0 with list:=l}
structure Pg where
 ns:List Nd
 ts:List Ty
 main:Nat
def parse(s:BA):Except Ft Pg:=
 match Tok.scan s with
 | .error e=>.error e
 | .ok ad=>match m' ad ⟨0,[],[]⟩with
  | .error e=>.error e
  | .ok (n,st)=>if st.ns.length>1200\/st.ts.length>300 then .error (2,0)else .ok ⟨st.ns,st.ts,n⟩
end Ty
end
section
namespace Ty
open Tok (Tk)
theorem bf.addNode(n:Nd):bf 0 0 (-1) (addNode n):=λs b s' e=>by cases e;simp;omega
theorem bf.look{α:Type}{k:St->M α}{d c e:Int}(h:∀s,bf d c e (k s)):bf d c e (Ty.look k):=λs a s' x=>h s s a s' x
theorem bf.two(x:BA)(a b:Nat):bf 0 0 (-1) (two x a b):=bf.look λ_=>bf.addNode _
theorem bf.gi(a:Nat):bf 0 0 0 (gi a):=λs b s' e=>by cases e;simp;omega
theorem qj{ad:List Tk}{one:M Nat}(h:bf 1 0 0 one){bh:List (List UInt8)}:∀f n,bf 0 0 0 (cW ad one bh f n)
 |0,_=>bf.fail _ _ _ _ _
 |f+1,n=>bf.look λs=>bf.ite (λ_=>(bf.step.aq λ_=>h.aq λb=>(bf.two _ _ _).aq λm=>qj h f m).mono) (λ_=>bf.ret _)
theorem tS{ad:List Tk}{one:M Nat}(h:bf 1 0 0 one){bh:List (List UInt8)}:bf 1 0 0 (left ad one bh):=(h.aq λn=>qj h _ n).mono
theorem pN{ad:List Tk}{one:M Nat}(h:bf 1 0 0 one):bf 1 0 0 (pY ad one):=tS (tS h)
theorem FL{ad:List Tk}{one:M Nat}(h:bf 1 0 0 one):bf 1 0 0 (jH ad one):=by
 refine((pN h).aq (d':=0) (c':=0) (e':=0) λn=>?_).mono;refine bf.take _ _ ?_ ?_
 ·simp only[if_true];exact((pN h).aq λm=>bf.two _ _ _).mono
 ·simp only[Bool.false_eq_true,if_false];refine bf.take _ _ ?_ ?_
  ·simp only[if_true];exact((pN h).aq λm=>bf.two _ _ _).mono
  ·simp only[Bool.false_eq_true,if_false];exact bf.ret _
theorem kn{ad:List Tk}{T E:M Nat}(hT:bf 1 0 0 T)(hE:bf 1 0 0 E):∀f a,bf 0 0 0 (behind ad T E f a)
 |0,_=>bf.fail _ _ _ _ _
 |f+1,a=>by
  refine bf.look λs=>bf.take _ _ ?_ ?_
  ·simp only[if_true];exact((gj (λ_=>hE) _ _).aq λl=>(bf.addNode _).aq λm=>kn hT hE f m).mono
  ·simp only[Bool.false_eq_true,if_false];refine bf.take _ _ ?_ ?_
   ·simp only[if_true];exact((bf.name _ _).aq λl=>(bf.addNode _).aq λm=>kn hT hE f m).mono
   ·simp only[Bool.false_eq_true,if_false];refine bf.take _ _ ?_ ?_
    ·simp only[if_true];exact(hE.aq λc=>(bf.need _ _).aq λ_=>(bf.addNode _).aq λm=>kn hT hE f m).mono
    ·simp only[Bool.false_eq_true,if_false];refine bf.take _ _ ?_ ?_
     ·simp only[if_true];exact(hT.aq λc=>(bf.addNode _).aq λm=>kn hT hE f m).mono
     ·simp only[Bool.false_eq_true,if_false];exact bf.ret _
theorem hJ{ad:List Tk}{T:M Nat}(hT:bf 1 0 0 T):bf 0 0 0 (written ad T):=by
 refine bf.take _ _ ?_ ?_
 ·simp only[if_true];exact(hT.aq λn=>bf.ret _).mono
 ·simp only[Bool.false_eq_true,if_false];exact bf.ret _
theorem rM{ad:List Tk}{E:M Nat}(hE:bf 1 0 0 E)(met:List BA):bf 1 0 0 (hZ ad E met):=
 bf.look λs=>((bf.name _ _).aq λx=>(bf.need _ _).aq λ_=>hE.aq λa=>(bf.addNode _).aq λn=>bf.ret _).mono
theorem pE{ad:List Tk}{T:M Nat}(hT:bf 1 0 0 T)(met:List BA):bf 1 0 0 (gB ad T met):=
 bf.look λs=>((bf.name _ _).aq λx=>(hJ hT).aq λt=>(bf.addNode _).aq λn=>bf.ret _).mono
theorem xI{ad:List Tk}{S:M Nat}(hS:bf 1 0 0 S):∀f l,bf 1 1 1 (stmts ad S f l)
 |0,_=>bf.fail _ _ _ _ _
 |f+1,l=>by
  refine bf.take _ _ ?_ ?_
  ·simp only[if_true];exact(bf.ret _).mono
  ·simp only[Bool.false_eq_true,if_false];exact(hS.aq λn=>xI hS f _).mono
theorem gY{ad:List Tk}{S:M Nat}(hS:bf 1 0 0 S):bf 2 1 1 (dW ad S):=
 bf.look λs=>((bf.need _ _).aq λ_=>(xI hS _ _).aq λl=>bf.addNode _).mono
theorem wk{ad:List Tk}{T S:M Nat}(hT:bf 1 0 0 T)(hS:bf 1 0 0 S)(pos:Nat):bf 1 0 0 (cA ad T S pos):=
 ((bf.need _ _).aq λ_=>(gj (λ_=>pE hT _) _ _).aq λl=>(hJ hT).aq λt=>(gY hS).aq λa=>bf.addNode _).mono
theorem An{ad:List Tk}{T E S:M Nat}(hT:bf 1 0 0 T)(hE:bf 1 0 0 E)(hS:bf 1 0 0 S):bf 1 0 0 (cD ad T E S):=by
 refine bf.look λs=>bf.ite (λ_=>(bf.step.aq λ_=>bf.addNode _).mono) λ_=>bf.ite (λ_=>(bf.step.aq λ_=>bf.addNode _).mono) λ_=>bf.ite (λ_=>(bf.step.aq λ_=>bf.addNode _).mono) λ_=>?_
 refine bf.take _ _ ?_ ?_
 ·simp only[if_true];exact(bf.addNode _).mono
 simp only[Bool.false_eq_true,if_false];refine bf.take _ _ ?_ ?_
 ·simp only[if_true];exact(bf.addNode _).mono
 simp only[Bool.false_eq_true,if_false];refine bf.take _ _ ?_ ?_
 ·simp only[if_true];exact(bf.addNode _).mono
 simp only[Bool.false_eq_true,if_false];refine bf.take _ _ ?_ ?_
 ·simp only[if_true];exact(wk hT hS _).mono
 simp only[Bool.false_eq_true,if_false];refine bf.take _ _ ?_ ?_
 ·simp only[if_true];exact((gj (λ_=>hE) _ _).aq λl=>bf.addNode _).mono
 simp only[Bool.false_eq_true,if_false];refine bf.take _ _ ?_ ?_
 ·simp only[if_true];exact((gj (λ_=>rM hE _) _ _).aq λl=>bf.addNode _).mono
 simp only[Bool.false_eq_true,if_false];exact((bf.need _ _).aq λ_=>hE.aq λa=>(bf.need _ _).aq λ_=>bf.ret _).mono
theorem A8{ad:List Tk}{T E O S:M Nat}(hT:bf 1 0 0 T)(hE:bf 1 0 0 E)(hO:bf 1 0 0 O)(hS:bf 1 0 0 S):bf 1 0 0 (pw ad T E O S):=
 bf.look λs=>bf.ite (λ_=>(bf.step.aq λ_=>hO.aq λa=>bf.addNode _).mono) (λ_=>((An hT hE hS).aq λa=>kn hT hE _ a).mono)
theorem Dg{ad:List Tk}{E:M Nat}(hE:bf 1 0 0 E):bf 1 0 0 (dc ad E):=by
 have h:∀(a:Nat)(f:Nat->Nd),bf 0 0 0 (aq (gi a) λ_=>aq step λ_=>aq E λv=>aq (need ad [59]) λ_=>addNode (f v)):=λa f=>
  ((bf.gi _).aq λ_=>bf.step.aq λ_=>hE.aq λv=>(bf.need _ _).aq λ_=>bf.addNode _).mono
 exact(hE.aq (d':=0) (c':=0) (e':=0) λa=>bf.look λs=>bf.ite (λ_=>bf.ite (λ_=>h _ _) λ_=>bf.ite (λ_=>h _ _) λ_=>bf.ite (λ_=>h _ _) λ_=>bf.fail _ _ _ _ _)
  (λ_=>((bf.need _ _).aq λ_=>bf.addNode _).mono)).mono
theorem sE{ad:List Tk}{E S:M Nat}(hE:bf 1 0 0 E)(hS:bf 1 0 0 S)(yes:Bool)(pos:Nat):bf 1 0 0 (bF ad E S yes pos):=by
 refine(bf.step.aq λ_=>(bf.need _ _).aq λ_=>hE.aq λa=>(bf.need _ _).aq λ_=>(gY hS).aq (d':=0) (c':=0) (e':= -1) λb=>?_).mono;cases yes
 ·simp only[Bool.false_eq_true,if_false];exact bf.addNode _
 ·simp only[if_true];refine bf.take _ _ ?_ ?_
  ·simp only[if_true];exact((gY hS).aq λc=>bf.addNode _).mono
  ·simp only[Bool.false_eq_true,if_false];exact bf.addNode _
theorem GY{ad:List Tk}{T E S:M Nat}(hT:bf 1 0 0 T)(hE:bf 1 0 0 E)(hS:bf 1 0 0 S):bf 1 0 0 (dv ad T E S):=by
 refine bf.look λs=>bf.take _ _ ?_ ?_
 ·simp only[if_true];exact((bf.name _ _).aq λx=>(hJ hT).aq λt=>(bf.need _ _).aq λ_=>hE.aq λa=>(bf.need _ _).aq λ_=>bf.addNode _).mono
 simp only[Bool.false_eq_true,if_false];refine bf.take _ _ ?_ ?_
 ·simp only[if_true];exact(hE.aq λa=>(bf.need _ _).aq λ_=>bf.addNode _).mono
 simp only[Bool.false_eq_true,if_false];refine bf.take _ _ ?_ ?_
 ·simp only[if_true];exact(hE.aq λa=>(bf.need _ _).aq λ_=>bf.addNode _).mono
 simp only[Bool.false_eq_true,if_false];exact bf.look λs2=>bf.ite (λ_=>sE hE hS _ _) λ_=>bf.ite (λ_=>sE hE hS _ _) λ_=>Dg hE
theorem yX(ad:List Tk):∀r,bf 1 0 0 (lv ad r).E/\bf 1 0 0 (lv ad r).O/\bf 1 0 0 (lv ad r).S
 |0=>⟨bf.fail _ _ _ _ _,bf.fail _ _ _ _ _,bf.fail _ _ _ _ _⟩
 |r+1=>by
  obtain⟨h1,h2,h3⟩:=yX ad r;have hT:=p_ ad r;exact⟨FL (A8 hT h1 h2 h3),A8 hT h1 h2 h3,GY hT h1 h3⟩
theorem Bad.addNode(n:Nd):Bad (addNode n):=λs f h=>by cases h
theorem Bad.look{α:Type}{k:St->M α}(h:∀s,Bad (k s)):Bad (Ty.look k):=λs f x=>h s s f x
theorem Bad.two(x:BA)(a b:Nat):Bad (two x a b):=Bad.look λ_=>Bad.addNode _
theorem Bad.gi(a:Nat):Bad (gi a):=λs f h=>by cases h
theorem qq{ad:List Tk}{one:M Nat}(h:Bad one){bh:List (List UInt8)}:∀f n,Bad (cW ad one bh f n)
 |0,_=>Bad.fail _ _
 |f+1,n=>Bad.look λs=>Bad.ite (Bad.step.aq λ_=>h.aq λb=>(Bad.two _ _ _).aq λm=>qq h f m) (Bad.ret _)
theorem zy{ad:List Tk}{one:M Nat}(h:Bad one){bh:List (List UInt8)}:Bad (left ad one bh):=h.aq λn=>qq h _ n
theorem tN{ad:List Tk}{one:M Nat}(h:Bad one):Bad (pY ad one):=zy (zy h)
theorem F7{ad:List Tk}{one:M Nat}(h:Bad one):Bad (jH ad one):=
 (tN h).aq λ_=>(Bad.take _ _).aq λ_=>Bad.ite ((tN h).aq λ_=>Bad.two _ _ _) ((Bad.take _ _).aq λ_=>Bad.ite ((tN h).aq λ_=>Bad.two _ _ _) (Bad.ret _))
theorem kq{ad:List Tk}{T E:M Nat}(hT:Bad T)(hE:Bad E):∀f a,Bad (behind ad T E f a)
 |0,_=>Bad.fail _ _
 |f+1,a=>Bad.look λs=>(Bad.take _ _).aq λb=>Bad.ite ((lO (λ_=>hE) _ _).aq λl=>(Bad.addNode _).aq λm=>kq hT hE f m)
   ((Bad.take _ _).aq λb=>Bad.ite ((Bad.name _ _).aq λl=>(Bad.addNode _).aq λm=>kq hT hE f m)
   ((Bad.take _ _).aq λb=>Bad.ite (hE.aq λc=>(Bad.need _ _).aq λ_=>(Bad.addNode _).aq λm=>kq hT hE f m)
   ((Bad.take _ _).aq λb=>Bad.ite (hT.aq λc=>(Bad.addNode _).aq λm=>kq hT hE f m) (Bad.ret _))))
theorem nu{ad:List Tk}{T:M Nat}(hT:Bad T):Bad (written ad T):=(Bad.take _ _).aq λ_=>Bad.ite (hT.aq λ_=>Bad.ret _) (Bad.ret _)
theorem Fh{ad:List Tk}{E:M Nat}(hE:Bad E)(met:List BA):Bad (hZ ad E met):=
 Bad.look λ_=>(Bad.name _ _).aq λ_=>(Bad.need _ _).aq λ_=>hE.aq λ_=>(Bad.addNode _).aq λ_=>Bad.ret _
theorem CM{ad:List Tk}{T:M Nat}(hT:Bad T)(met:List BA):Bad (gB ad T met):=
 Bad.look λ_=>(Bad.name _ _).aq λ_=>(nu hT).aq λ_=>(Bad.addNode _).aq λ_=>Bad.ret _
theorem wW{ad:List Tk}{S:M Nat}(hS:Bad S):∀f l,Bad (stmts ad S f l)
 |0,_=>Bad.fail _ _
 |f+1,l=>(Bad.take _ _).aq λb=>Bad.ite (Bad.ret _) (hS.aq λn=>wW hS f _)
theorem pf{ad:List Tk}{S:M Nat}(hS:Bad S):Bad (dW ad S):=Bad.look λ_=>(Bad.need _ _).aq λ_=>(wW hS _ _).aq λ_=>Bad.addNode _
theorem wh{ad:List Tk}{T S:M Nat}(hT:Bad T)(hS:Bad S)(pos:Nat):Bad (cA ad T S pos):=
 (Bad.need _ _).aq λ_=>(lO (λ_=>CM hT _) _ _).aq λ_=>(nu hT).aq λ_=>(pf hS).aq λ_=>Bad.addNode _
theorem zC{ad:List Tk}{T E S:M Nat}(hT:Bad T)(hE:Bad E)(hS:Bad S):Bad (cD ad T E S):=
 Bad.look λ_=>Bad.ite (Bad.step.aq λ_=>Bad.addNode _)<|Bad.ite (Bad.step.aq λ_=>Bad.addNode _)<|Bad.ite (Bad.step.aq λ_=>Bad.addNode _)<|
 (Bad.take _ _).aq λ_=>Bad.ite (Bad.addNode _)<|(Bad.take _ _).aq λ_=>Bad.ite (Bad.addNode _)<|(Bad.take _ _).aq λ_=>Bad.ite (Bad.addNode _)<|
 (Bad.take _ _).aq λ_=>Bad.ite (wh hT hS _)<|(Bad.take _ _).aq λ_=>Bad.ite ((lO (λ_=>hE) _ _).aq λ_=>Bad.addNode _)<|
 (Bad.take _ _).aq λ_=>Bad.ite ((lO (λ_=>Fh hE _) _ _).aq λ_=>Bad.addNode _)<|(Bad.need _ _).aq λ_=>hE.aq λ_=>(Bad.need _ _).aq λ_=>Bad.ret _
theorem Bw{ad:List Tk}{T E O S:M Nat}(hT:Bad T)(hE:Bad E)(hO:Bad O)(hS:Bad S):Bad (pw ad T E O S):=
 Bad.look λ_=>Bad.ite (Bad.step.aq λ_=>hO.aq λ_=>Bad.addNode _) ((zC hT hE hS).aq λa=>kq hT hE _ a)
theorem CN{ad:List Tk}{E:M Nat}(hE:Bad E):Bad (dc ad E):=by
 have h:∀(a:Nat)(f:Nat->Nd),Bad (aq (gi a) λ_=>aq step λ_=>aq E λv=>aq (need ad [59]) λ_=>addNode (f v)):=λa f=>
  (Bad.gi _).aq λ_=>Bad.step.aq λ_=>hE.aq λv=>(Bad.need _ _).aq λ_=>Bad.addNode _
 exact hE.aq λa=>Bad.look λs=>Bad.ite (Bad.ite (h _ _) (Bad.ite (h _ _) (Bad.ite (h _ _) (Bad.fail _ _)))) ((Bad.need _ _).aq λ_=>Bad.addNode _)
theorem rX{ad:List Tk}{E S:M Nat}(hE:Bad E)(hS:Bad S)(yes:Bool)(pos:Nat):Bad (bF ad E S yes pos):=
 Bad.step.aq λ_=>(Bad.need _ _).aq λ_=>hE.aq λ_=>(Bad.need _ _).aq λ_=>(pf hS).aq λ_=>Bad.ite ((Bad.take _ _).aq λ_=>Bad.ite ((pf hS).aq λ_=>Bad.addNode _) (Bad.addNode _)) (Bad.addNode _)
theorem GU{ad:List Tk}{T E S:M Nat}(hT:Bad T)(hE:Bad E)(hS:Bad S):Bad (dv ad T E S):=
 Bad.look λ_=>(Bad.take _ _).aq λ_=>Bad.ite ((Bad.name _ _).aq λ_=>(nu hT).aq λ_=>(Bad.need _ _).aq λ_=>hE.aq λ_=>(Bad.need _ _).aq λ_=>Bad.addNode _)<|
 (Bad.take _ _).aq λ_=>Bad.ite (hE.aq λ_=>(Bad.need _ _).aq λ_=>Bad.addNode _)<|
 (Bad.take _ _).aq λ_=>Bad.ite (hE.aq λ_=>(Bad.need _ _).aq λ_=>Bad.addNode _)<|
 Bad.look λ_=>Bad.ite (rX hE hS _ _)<|Bad.ite (rX hE hS _ _) (CN hE)
theorem KC(ad:List Tk):∀r,Bad (lv ad r).E/\Bad (lv ad r).O/\Bad (lv ad r).S
 |0=>⟨Bad.fail _ _,Bad.fail _ _,Bad.fail _ _⟩
 |r+1=>by
  obtain⟨h1,h2,h3⟩:=KC ad r;have hT:=EH ad r;exact⟨F7 (Bw hT h1 h2 h3),Bw hT h1 h2 h3,GU hT h1 h3⟩
theorem pO{ad:List Tk}{S:M Nat}(hS:Bad S):∀f l,Bad (fu ad S f l)
 |0,_=>Bad.fail _ _
 |f+1,l=>Bad.look λs=>Bad.ite (Bad.ret _) (hS.aq λn=>pO hS f _)
theorem Fj(ad:List Tk):Bad (m' ad):=(pO (KC ad 20).2.2 _ _).aq λ_=>Bad.addNode _
theorem lF{s:BA}{f:Ft}(h:parse s=.error f):f.1≠0:=by
 unfold parse at h;split at h
 ·rename_i e he;cases h;have:=Tok.J_ s f.1 f.2 he;omega
 ·split at h
  ·rename_i e he;cases h;exact(Fj _ _ _ he).1
  ·split at h
   ·cases h;simp
   ·cases h
end Ty
end
section
namespace Ty
open Tok (Tk)
def bV{α:Type}(m:M α):Prop:=∀s a s',m s=.ok (a,s')->s.ns<+:s'.ns
def Nx(m:M Nat):Prop:=∀s a s',m s=.ok (a,s')->s.ns<+:s'.ns/\a+1=s'.ns.length/\s.ns.length<=a
theorem Nx.pre{m:M Nat}(h:Nx m):bV m:=λs a s' e=>(h s a s' e).1
theorem bV.ret{α:Type}(a:α):bV (ret a):=λs b s' e=>by cases e;exact List.prefix_rfl
theorem bV.fail{α:Type}(ad:List Tk)(n:Nat):bV (fail (α:=α) ad n):=λs b s' h=>by cases h
theorem Nx.fail(ad:List Tk)(n:Nat):Nx (fail ad n):=λs b s' h=>by cases h
theorem bV.step:bV step:=λs b s' e=>by cases e;exact List.prefix_rfl
theorem bV.need(ad:List Tk)(x:List UInt8):bV (need ad x):=λs b s' e=>by
 unfold Ty.need at e;split at e<;>cases e;exact List.prefix_rfl
theorem bV.take(ad:List Tk)(x:List UInt8):bV (take ad x):=λs b s' e=>by
 unfold Ty.take at e;split at e<;>cases e<;>exact List.prefix_rfl
theorem bV.name(ad:List Tk)(met:List BA):bV (name ad met):=λs b s' e=>by
 unfold Ty.name at e;split at e
 ·cases e
 ·split at e<;>cases e;exact List.prefix_rfl
theorem bV.aY(t:Ty):bV (aY t):=λs b s' e=>by cases e;exact List.prefix_rfl
theorem bV.look{α:Type}{k:St->M α}(h:∀s,bV (k s)):bV (Ty.look k):=λs a s' x=>h s s a s' x
theorem Nx.look{k:St->M Nat}(h:∀s,Nx (k s)):Nx (Ty.look k):=λs a s' x=>h s s a s' x
theorem Nx.addNode(n:Nd):Nx (addNode n):=λs b s' e=>by cases e;simp
theorem bV.addNode(n:Nd):bV (addNode n):=(Nx.addNode n).pre
theorem Nx.two(x:BA)(a b:Nat):Nx (two x a b):=Nx.look λ_=>Nx.addNode _
theorem bV.aq{α β:Type}{m:M α}{k:α->M β}(h:bV m)(g:∀a,bV (k a)):bV (Ty.aq m k):=λs b s' x=>by
 obtain⟨a,s1,e1,e2⟩:=ar x;exact(h _ _ _ e1).trans (g a _ _ _ e2)
theorem Nx.aq{α:Type}{m:M α}{k:α->M Nat}(h:bV m)(g:∀a,Nx (k a)):Nx (Ty.aq m k):=λs b s' x=>by
 obtain⟨a,s1,e1,e2⟩:=ar x;have h1:=h _ _ _ e1;obtain⟨g1,g2,g3⟩:=g a _ _ _ e2;exact⟨h1.trans g1,g2,nT h1.length_le g3⟩
theorem bV.ite{α:Type}{p:Prop} [Decidable p]{m n:M α}(h:bV m)(g:bV n):bV (if p then m else n):=by split<;>assumption
theorem Nx.ite{p:Prop} [Decidable p]{m n:M Nat}(h:Nx m)(g:Nx n):Nx (if p then m else n):=by split<;>assumption
theorem bV.list{α:Type}{ad:List Tk}{x:List UInt8}{m:List α->M α}(hm:∀l,bV (m l)):∀f l,bV (list ad x m f l)
 |0,_=>bV.fail _ _
 |f+1,l=>(bV.take _ _).aq λ_=>bV.ite (bV.ret l) ((bV.ite (bV.ret ()) (bV.need _ _)).aq λ_=>(hm l).aq λn=>bV.list hm f (l++[n]))
theorem bV.fields{ad:List Tk}{T:M Nat}(hT:bV T):∀f l,bV (fields ad T f l)
 |0,_=>bV.fail _ _
 |f+1,l=>(bV.take _ _).aq λ_=>bV.ite (bV.ret l) ((bV.name _ _).aq λs=>(bV.need _ _).aq λ_=>hT.aq λn=>(bV.need _ _).aq λ_=>bV.fields hT f (l++[(s,n)]))
theorem bV.round{ad:List Tk}{T:M Nat}(hT:bV T):bV (round ad T):=
 (bV.list (λ_=>hT) _ _).aq λ_=>(bV.take _ _).aq λ_=>bV.ite (hT.aq λ_=>bV.aY _) (bV.ite (bV.ret _) (bV.fail _ _))
theorem bV.single{ad:List Tk}{T:M Nat}(hT:bV T):bV (single ad T):=λs a s' h=>by
 unfold Ty.single at h;split at h
 ·exact(bV.step.aq λ_=>bV.aY _) s a s' h
 ·exact((bV.take _ _).aq λb=>bV.ite ((bV.fields hT _ _).aq λ_=>bV.aY _) ((bV.take _ _).aq λb=>bV.ite (hT.aq λn=>(bV.need _ _).aq λ_=>bV.aY _) ((bV.need _ _).aq λ_=>bV.round hT))) s a s' h
theorem bV.bars{ad:List Tk}{S:M Nat}(hS:bV S):∀f l,bV (bars ad S f l)
 |0,_=>bV.fail _ _
 |f+1,l=>(bV.take _ _).aq λ_=>bV.ite (hS.aq λn=>bV.bars hS f (l++[n])) (bV.ret l)
theorem bV.union{ad:List Tk}{S:M Nat}(hS:bV S):bV (union ad S):=hS.aq λ_=>(bV.bars hS _ _).aq λ_=>bV.ite (bV.ret _) (bV.aY _)
theorem bV.r'(ad:List Tk):∀r,bV (r' ad r)
 |0=>bV.fail _ _
 |r+1=>bV.union (bV.single (bV.r' ad r))
def Nl(n:Nat)(m:M Nat):Prop:=∀s a s',n+1=s.ns.length->m s=.ok (a,s')->s.ns<+:s'.ns/\a+1=s'.ns.length
theorem Nl.ret(n:Nat):Nl n (ret n):=λs a s' h e=>by cases e;exact⟨List.prefix_rfl,h⟩
theorem Nl.nx{n:Nat}{m:M Nat}(h:Nx m):Nl n m:=λs a s' _ e=>⟨(h s a s' e).1,(h s a s' e).2.1⟩
theorem Nx.then{m:M Nat}{k:Nat->M Nat}(h:Nx m)(g:∀a,Nl a (k a)):Nx (Ty.aq m k):=λs b s' x=>by
 obtain⟨a,s1,e1,e2⟩:=ar x;obtain⟨h1,h2,h3⟩:=h _ _ _ e1;obtain⟨g1,g2⟩:=g a _ _ _ h2 e2;exact⟨h1.trans g1,g2,by have:=g1.length_le;omega⟩
theorem Nl.look{n:Nat}{k:St->M Nat}(h:∀s,Nl n (k s)):Nl n (Ty.look k):=λs a s' e x=>h s s a s' e x
theorem Nl.ite{n:Nat}{p:Prop} [Decidable p]{m k:M Nat}(h:Nl n m)(g:Nl n k):Nl n (if p then m else k):=by split<;>assumption
theorem Nl.aq{α:Type}{n:Nat}{m:M α}{k:α->M Nat}(h:bV m)(g:∀a,Nx (k a)):Nl n (Ty.aq m k):=Nl.nx (Nx.aq h g)
theorem Nl.take{n:Nat}(ad:List Tk)(x:List UInt8){k:Bool->M Nat}(h:∀b,Nl n (k b)):Nl n (Ty.aq (Ty.take ad x) k):=λs a s' e y=>by
 obtain⟨b,s1,e1,e2⟩:=ar y;unfold Ty.take at e1;split at e1<;>cases e1
 ·exact h true {s with pos:=s.pos+1} a s' e e2
 ·exact h false s a s' e e2
theorem sA{ad:List Tk}{one:M Nat}(h:Nx one){bh:List (List UInt8)}:∀f n,Nl n (cW ad one bh f n)
 |0,_=>Nl.nx (Nx.fail _ _)
 |f+1,n=>Nl.look λ_=>Nl.ite (Nl.aq bV.step λ_=>Nx.aq h.pre λ_=>Nx.then (Nx.two _ _ _) λm=>sA h f m) (Nl.ret n)
theorem yB{ad:List Tk}{one:M Nat}(h:Nx one){bh:List (List UInt8)}:Nx (left ad one bh):=Nx.then h λn=>sA h _ n
theorem tK{ad:List Tk}{one:M Nat}(h:Nx one):Nx (pY ad one):=yB (yB h)
theorem KX{ad:List Tk}{one:M Nat}(h:Nx one):Nx (jH ad one):=
 Nx.then (tK h) λn=>Nl.take _ _ λ_=>Nl.ite (Nl.aq (tK h).pre λ_=>Nx.two _ _ _) (Nl.take _ _ λ_=>Nl.ite (Nl.aq (tK h).pre λ_=>Nx.two _ _ _) (Nl.ret n))
theorem lJ{ad:List Tk}{T E:M Nat}(hT:bV T)(hE:Nx E):∀f a,Nl a (behind ad T E f a)
 |0,_=>Nl.nx (Nx.fail _ _)
 |f+1,a=>Nl.look λ_=>Nl.take _ _ λ_=>Nl.ite (Nl.aq (bV.list (λ_=>hE.pre) _ _) λ_=>Nx.then (Nx.addNode _) λm=>lJ hT hE f m)
   (Nl.take _ _ λ_=>Nl.ite (Nl.aq (bV.name _ _) λ_=>Nx.then (Nx.addNode _) λm=>lJ hT hE f m)
   (Nl.take _ _ λ_=>Nl.ite (Nl.aq hE.pre λ_=>Nx.aq (bV.need _ _) λ_=>Nx.then (Nx.addNode _) λm=>lJ hT hE f m)
   (Nl.take _ _ λ_=>Nl.ite (Nl.aq hT λ_=>Nx.then (Nx.addNode _) λm=>lJ hT hE f m) (Nl.ret a))))
theorem bV.written{ad:List Tk}{T:M Nat}(hT:bV T):bV (written ad T):=(bV.take _ _).aq λ_=>bV.ite (hT.aq λ_=>bV.ret _) (bV.ret _)
theorem bV.hZ{ad:List Tk}{E:M Nat}(hE:bV E)(met:List BA):bV (hZ ad E met):=
 bV.look λ_=>(bV.name _ _).aq λ_=>(bV.need _ _).aq λ_=>hE.aq λ_=>(bV.addNode _).aq λ_=>bV.ret _
theorem bV.gB{ad:List Tk}{T:M Nat}(hT:bV T)(met:List BA):bV (gB ad T met):=
 bV.look λ_=>(bV.name _ _).aq λ_=>(bV.written hT).aq λ_=>(bV.addNode _).aq λ_=>bV.ret _
theorem bV.stmts{ad:List Tk}{S:M Nat}(hS:bV S):∀f l,bV (stmts ad S f l)
 |0,_=>bV.fail _ _
 |f+1,_=>(bV.take _ _).aq λ_=>bV.ite (bV.ret _) (hS.aq λ_=>bV.stmts hS f _)
theorem rz{ad:List Tk}{S:M Nat}(hS:bV S):Nx (dW ad S):=Nx.look λ_=>Nx.aq (bV.need _ _) λ_=>Nx.aq (bV.stmts hS _ _) λ_=>Nx.addNode _
theorem yQ{ad:List Tk}{T S:M Nat}(hT:bV T)(hS:bV S)(pos:Nat):Nx (cA ad T S pos):=
 Nx.aq (bV.need _ _) λ_=>Nx.aq (bV.list (λ_=>bV.gB hT _) _ _) λ_=>Nx.aq (bV.written hT) λ_=>Nx.aq (rz hS).pre λ_=>Nx.addNode _
theorem JA{ad:List Tk}{E:M Nat}(hE:Nx E):Nx (aq (need ad [40]) λ_=>aq E λa=>aq (need ad [41]) λ_=>ret a):=by
 refine Nx.aq (bV.need _ _) λ_=>Nx.then hE λa=>λs n s' h x=>?_
 obtain⟨u,s1,e1,e2⟩:=ar x;cases e2;unfold need at e1;split at e1<;>cases e1
 exact⟨List.prefix_rfl,h⟩
theorem tM{ad:List Tk}{T E S:M Nat}(hT:bV T)(hE:Nx E)(hS:bV S):Nx (cD ad T E S):=
 Nx.look λ_=>Nx.ite (Nx.aq bV.step λ_=>Nx.addNode _)<|Nx.ite (Nx.aq bV.step λ_=>Nx.addNode _)<|Nx.ite (Nx.aq bV.step λ_=>Nx.addNode _)<|
 Nx.aq (bV.take _ _) λ_=>Nx.ite (Nx.addNode _)<|Nx.aq (bV.take _ _) λ_=>Nx.ite (Nx.addNode _)<|Nx.aq (bV.take _ _) λ_=>Nx.ite (Nx.addNode _)<|
 Nx.aq (bV.take _ _) λ_=>Nx.ite (yQ hT hS _)<|Nx.aq (bV.take _ _) λ_=>Nx.ite (Nx.aq (bV.list (λ_=>hE.pre) _ _) λ_=>Nx.addNode _)<|
 Nx.aq (bV.take _ _) λ_=>Nx.ite (Nx.aq (bV.list (λ_=>bV.hZ hE.pre _) _ _) λ_=>Nx.addNode _)<|JA hE
theorem EK{ad:List Tk}{T E O S:M Nat}(hT:bV T)(hE:Nx E)(hO:Nx O)(hS:bV S):Nx (pw ad T E O S):=
 Nx.look λ_=>Nx.ite (Nx.aq bV.step λ_=>Nx.aq hO.pre λ_=>Nx.addNode _) (Nx.then (tM hT hE hS) λa=>lJ hT hE _ a)
theorem FK{ad:List Tk}{E:M Nat}(hE:Nx E):Nx (dc ad E):=λs n s' x=>by
 obtain⟨a,s1,e1,e2⟩:=ar x;obtain⟨h1,h2,h3⟩:=hE _ _ _ e1;have key:∀(f:Nat->Nd),(aq (gi a) λ_=>aq step λ_=>aq E λv=>aq (need ad [59]) λ_=>addNode (f v)) s1=.ok (n,s')->s.ns<+:s'.ns/\n+1=s'.ns.length/\s.ns.length<=n:=λf y=>by
  have hk:Nx (aq step λ_=>aq E λv=>aq (need ad [59]) λ_=>addNode (f v)):=Nx.aq bV.step λ_=>Nx.aq hE.pre λ_=>Nx.aq (bV.need _ _) λ_=>Nx.addNode _
  obtain⟨g1,g2,g3⟩:=hk {s1 with ns:=s1.ns.take a} n s' y;have hp:s.ns<+:s1.ns.take a:=by
   obtain⟨t,ht⟩:=h1;rw[<-ht,List.take_append,List.take_of_length_le h3];exact List.prefix_append _ _
  refine⟨hp.trans g1,g2,nT hp.length_le g3⟩
 unfold look at e2;dsimp only at e2;split at e2
 ·split at e2
  ·exact key _ e2
  ·split at e2
   ·exact key _ e2
   ·split at e2
    ·exact key _ e2
    ·cases e2
 ·obtain⟨g1,g2,g3⟩:=(Nx.aq (bV.need ad [59]) λ_=>Nx.addNode {af 25 (cG s1 a).pos with a:=a}) _ _ _ e2;exact⟨h1.trans g1,g2,nT h1.length_le g3⟩
theorem ux{ad:List Tk}{E S:M Nat}(hE:bV E)(hS:bV S)(yes:Bool)(pos:Nat):Nx (bF ad E S yes pos):=
 Nx.aq bV.step λ_=>Nx.aq (bV.need _ _) λ_=>Nx.aq hE λ_=>Nx.aq (bV.need _ _) λ_=>Nx.aq (rz hS).pre λ_=>Nx.ite (Nx.aq (bV.take _ _) λ_=>Nx.ite (Nx.aq (rz hS).pre λ_=>Nx.addNode _) (Nx.addNode _)) (Nx.addNode _)
theorem JK{ad:List Tk}{T E S:M Nat}(hT:bV T)(hE:Nx E)(hS:bV S):Nx (dv ad T E S):=
 Nx.look λ_=>Nx.aq (bV.take _ _) λ_=>Nx.ite (Nx.aq (bV.name _ _) λ_=>Nx.aq (bV.written hT) λ_=>Nx.aq (bV.need _ _) λ_=>Nx.aq hE.pre λ_=>Nx.aq (bV.need _ _) λ_=>Nx.addNode _)<|
 Nx.aq (bV.take _ _) λ_=>Nx.ite (Nx.aq hE.pre λ_=>Nx.aq (bV.need _ _) λ_=>Nx.addNode _)<|
 Nx.aq (bV.take _ _) λ_=>Nx.ite (Nx.aq hE.pre λ_=>Nx.aq (bV.need _ _) λ_=>Nx.addNode _)<|
 Nx.look λ_=>Nx.ite (ux hE.pre hS _ _)<|Nx.ite (ux hE.pre hS _ _) (FK hE)
theorem Jq(ad:List Tk):∀r,Nx (lv ad r).E/\Nx (lv ad r).O/\Nx (lv ad r).S
 |0=>⟨Nx.fail _ _,Nx.fail _ _,Nx.fail _ _⟩
 |r+1=>by
  obtain⟨h1,h2,h3⟩:=Jq ad r;have hT:=bV.r' ad r;exact⟨KX (EK hT h1 h2 h3.pre),EK hT h1 h2 h3.pre,JK hT h1 h3.pre⟩
end Ty
end
end Go.Proofs.YtdlbhiaceheffabGreatDoor
