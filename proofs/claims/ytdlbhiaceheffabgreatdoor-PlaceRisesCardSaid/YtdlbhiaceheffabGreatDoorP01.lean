/- Plain definitions and facts on bytes, texts and tokens: what the scanners compute. No program in sight. -/
import Derived.Lib.Hide
set_option linter.all false
namespace Go.Proofs.YtdlbhiaceheffabGreatDoor
open Go Go.RowKit
def Hq(p:Prop):Prop:=p
theorem Hq.o{p:Prop}(h:Hq p):p:=h
theorem Hq.out{p:Prop}(h:Hq p):p:=h
theorem qh{p:Prop}(h:p):Hq p:=h
abbrev EW:=Ending→World→Prop
abbrev BA:=ByteArray
def Ty.q0:=0
def Tryz.q0:=0
def nR:=@Nat.le_refl
def nT:=@Nat.le_trans
def nL:=@Nat.lt_of_lt_of_le
def gM:=@List.getElem_mem
def bR:=@Below.refl
open Ty
def lyA:=@List.getElem_toArray
def lyB:=@List.getElem_cons_zero
def lyC:=@List.getElem_cons_succ
def lyD:=@List.setIfInBounds_toArray
def lyE:=@List.set_cons_zero
def lyF:=@List.set_cons_succ
theorem lzA{α:Type}{a b:List α}: (a++b).length=a.length+b.length:=List.length_append
theorem lzC{α:Type}{a:α}{l:List α}: (a::l).length=l.length+1:=rfl
theorem lzN{α:Type}: ([]:List α).length=0:=rfl
namespace Tok
def isDigit(c:UInt8):Bool:=decide (48≤c.toNat)&&decide (c.toNat≤57)
def fi(c:UInt8):Bool:=decide (97≤c.toNat)&&decide (c.toNat≤122)||(decide (65≤c.toNat)&&decide (c.toNat≤90))||decide (c.toNat=95)
def dV(c:UInt8):Bool:=fi c||isDigit c
def cY(c:UInt8):Bool:=decide (32≤c.toNat)&&decide (c.toNat≤126)&&!decide (c.toNat=34)
def stop(p:UInt8→Bool)(s:BA)(k:Nat):Nat:=k+((s.data.toList.drop k).takeWhile p).length
theorem drop_cons(s:BA)(k:Nat)(h:k<s.size):s.data.toList.drop k=s[k]::s.data.toList.drop (k+1):=by
 have h':k<s.data.toList.length:=by simpa using h
 rw[List.drop_eq_getElem_cons h'];rfl
theorem oB{p:UInt8→Bool}{s:BA}{k:Nat}(h:k<s.size)(hp:p s[k]=true):stop p s (k+1)=stop p s k:=by
 unfold stop;rw[drop_cons s k h];simp[hp];omega
theorem GI{p:UInt8→Bool}{s:BA}{k:Nat}(h:k<s.size)(hp:p s[k]=false):stop p s k=k:=by
 unfold stop;rw[drop_cons s k h];simp[hp]
theorem JQ{p:UInt8→Bool}{s:BA}{k:Nat}(h:s.size≤k):stop p s k=k:=by
 unfold stop;rw[List.drop_eq_nil_of_le (by simpa using h)];simp
theorem gg(p:UInt8→Bool)(s:BA)(k:Nat):k≤stop p s k:=by unfold stop;omega
theorem ji(p:UInt8→Bool)(s:BA)(k:Nat)(h:k≤s.size):stop p s k≤s.size:=by
 unfold stop;have h1: ((s.data.toList.drop k).takeWhile p).length≤(s.data.toList.drop k).length:=(List.takeWhile_sublist p).length_le;have h2: (s.data.toList.drop k).length=s.size-k:=by simp
 omega
def rq:List (List UInt8):=
 [[108,101,116],[102,110],[105,102],[101,108,115,101],[119,104,105,108,101],[114,101,116,117,114,110],[112,114,105,110,116],[116,114,117,101],[102,97,108,115,101],[110,117,108,108],[97,115],[116,121,112,101,111,102],[110,117,109],[98,111,111,108],[116,101,120,116],[97,110,121],[117,110,107,110,111,119,110]]
def words:List BA:=rq.map λl=>⟨l.toArray⟩
def isWord(x:BA):Bool:=decide (x.data.toList∈rq)
theorem B5(x:BA):isWord x=true↔x∈words:=by
 unfold isWord words;simp only[decide_eq_true_eq,List.mem_map];constructor
 ·intro h;exact⟨_,h,by cases x;rfl⟩
 ·rintro⟨l,hl,rfl⟩;exact hl
structure Tk where
 kind:Nat
 text:BA
 pos:Nat
def uK(c:UInt8):Bool:=decide (c∈[40,41,123,125,91,93,44,59,58,46,61,60,43,45,42,33,124].map (λn:Nat=>n.toUInt8))
def byte(s:BA)(k:Nat):UInt8:=s.data.toList.getD k 0
def two(s:BA)(k:Nat):Bool:=decide (k+1<s.size)&&byte s k==61&&(byte s (k+1)==61||byte s (k+1)==62)
def next(s:BA)(k:Nat):Tk×Nat×Bool:=
 let c:=byte s k
 if fi c then
  let e:=stop dV s k
  (⟨if isWord (s.extract k e)then 2 else 1,s.extract k e,k⟩,e-k,decide (e-k≤20))
 else if isDigit c then
  let e:=stop isDigit s k
  (⟨3,s.extract k e,k⟩,e-k,decide (e-k≤9)&&(decide (e-k=1)||!decide (c=48)))
 else if c=34 then
  let e:=stop cY s (k+1)
  (⟨4,s.extract (k+1) e,k⟩,e-k+1,decide (e-(k+1)≤30)&&(decide (e<s.size)&&decide (byte s e=34)))
 else if two s k then(⟨5,s.extract k (k+2),k⟩,2,true)
 else(⟨5,s.extract k (k+1),k⟩,1,uK c)
abbrev Zf:=Except (Nat×Nat) (List Tk)
def dc(s:BA):Nat→Nat→List Tk→Zf
 |0,_,out=>.ok out
 |f+1,k,out=>
  if k<s.size then
   if byte s k=32∨byte s k=10 then dc s f (k+1) out
   else if(next s k).2.2=false then .error (1,k)
   else if out.length=1000 then .error (2,k)
   else dc s f (k+(next s k).2.1) (out++[(next s k).1])
  else .ok (out++[⟨6,⟨#[]⟩,s.size⟩])
def scan(s:BA):Zf:=if 4000<s.size then .error (2,0)else dc s (s.size+1) 0 []
theorem ep(s:BA)(k:Nat)(h:k<s.size):byte s k=s[k]:=by
 have h':k<s.data.toList.length:=by simpa using h
 unfold byte;rw[List.getD_eq_getElem?_getD,List.getElem?_eq_getElem h'];rfl
theorem xS(s:BA)(k e i:Nat)(h:i<(s.extract k e).size): (s.extract k e)[i]=byte s (k+i):=by
 have hh:i<min e s.size-k:=by simpa using h
 rw[ByteArray.getElem_extract,ep s (k+i) (by omega)]
theorem Vw(c:UInt8):c=48↔(c.toNat:Int)=48:=by rw[←UInt8.toNat_inj];simp;omega
theorem TY(c:UInt8):c=34↔(c.toNat:Int)=34:=by rw[←UInt8.toNat_inj];simp;omega
theorem XF(c:UInt8):c=32↔(c.toNat:Int)=32:=by rw[←UInt8.toNat_inj];simp;omega
theorem V3(c:UInt8):c=10↔(c.toNat:Int)=10:=by rw[←UInt8.toNat_inj];simp;omega
theorem kG(s:BA)(k:Nat):List.take (s.size-k) (List.drop k s.data.toList)=List.drop k s.data.toList:=List.take_of_length_le (by simp)
theorem yB(s:BA)(k:Nat)(a b:UInt8):List.isPrefixOf [a,b] (List.drop k s.data.toList)=(decide (k+1<s.size)&&(byte s k==a&&byte s (k+1)==b)):=by
 by_cases h:k+1<s.size
 ·rw[drop_cons s k (by omega),drop_cons s (k+1) h,ep s k (by omega),ep s (k+1) h];simp[List.isPrefixOf,h,BEq.comm]
 ·by_cases h1:k<s.size
  ·rw[drop_cons s k h1,List.drop_eq_nil_of_le (by simp;omega)];simp[List.isPrefixOf,h]
  ·rw[List.drop_eq_nil_of_le (by simp;omega)];simp[List.isPrefixOf,h]
theorem Ph(s:BA)(k:Nat):two s k=(List.isPrefixOf [61,61] (List.drop k s.data.toList)||List.isPrefixOf [61,62] (List.drop k s.data.toList)):=by
 rw[yB,yB];unfold two;cases decide (k+1<s.size)<;>cases byte s k==61<;>simp
theorem AK(s:BA)(k:Nat)(h:two s k=true):k+1<s.size:=by
 unfold two at h;simp at h;exact h.1.1
theorem zZ(s:BA)(k:Nat)(a b:UInt8)(h:List.isPrefixOf [a,b] (List.drop k s.data.toList)=true):s.extract k (k+2)=⟨#[a,b]⟩:=by
 rw[yB]at h
 simp at h;obtain⟨h1,h2,h3⟩:=h;apply ByteArray.ext;apply Array.ext';rw[ep s k (by omega)]at h2
 rw[ep s (k+1) h1]at h3
 have hd:=drop_cons s k (by omega);have WG:=drop_cons s (k+1) h1;simp only[ByteArray.data_extract,Array.toList_extract,List.extract_eq_take_drop,hd,WG,h2,h3];simp
theorem pd(s:BA)(k:Nat)(h:k<s.size)(ok: (next s k).2.2=true):1≤(next s k).2.1∧k+(next s k).2.1≤s.size:=by
 unfold next at ok⊢;by_cases hl:fi (byte s k)=true
 ·simp only[hl,if_true]at ok⊢;have h1:=oB (p:=dV) h (by rw[←ep];simp[dV,hl]);have h2:=gg dV s (k+1);have h3:=ji dV s k (by omega);omega
 ·by_cases hd:isDigit (byte s k)=true
  ·simp only[hl,hd,if_true]at ok⊢;have h1:=oB (p:=isDigit) h (by rw[←ep];exact hd);have h2:=gg isDigit s (k+1);have h3:=ji isDigit s k (by omega);simp only[Bool.false_eq_true,if_false];omega
  ·by_cases hq:byte s k=34
   ·simp only[hl,hd,if_false,Bool.false_eq_true]at ok⊢;rw[if_pos hq]at ok⊢
    have h2:=gg cY s (k+1);have h3:stop cY s (k+1)<s.size:=by simp at ok;exact ok.2.1
    show 1≤stop cY s (k+1)-k+1∧k+(stop cY s (k+1)-k+1)≤s.size;omega
   ·by_cases ht:two s k=true
    ·simp only[hl,hd,hq,ht,if_true,if_false,Bool.false_eq_true]at ok⊢;have:=AK s k ht;omega
    ·simp only[hl,hd,hq,ht,if_false,Bool.false_eq_true]at ok⊢;omega
end Tok
namespace Tok
theorem zV(s:BA):∀(f k:Nat)(o l:List Tk),k≤s.size→s.size<k+f→o.length≤1000→dc s f k o=.ok l→l≠[]∧l.length≤1001:=by
 intro f;induction f with
 |zero=>intro k o l hk hf;omega
 |succ f ih=>
  intro k o l hk hf ho h;rw[dc]at h
  by_cases bm:k<s.size
  ·rw[if_pos bm]at h
   by_cases hb:byte s k=32∨byte s k=10
   ·rw[if_pos hb]at h
    exact ih (k+1) o l (by omega) (by omega) ho h
   ·rw[if_neg hb]at h
    by_cases aF: (next s k).2.2=false
    ·rw[if_pos aF]at h;cases h
    ·rw[if_neg aF]at h
     by_cases hl:o.length=1000
     ·rw[if_pos hl]at h;cases h
     ·rw[if_neg hl]at h
      have hn:=pd s k bm (by simpa using aF);exact ih _ _ l (by omega) (by omega) (by simp;omega) h
  ·rw[if_neg bm]at h
   obtain rfl:=Except.ok.inj h;simp;omega
theorem DU(s:BA)(l:List Tk)(h:scan s=.ok l):l≠[]∧l.length≤1001∧s.size≤4000:=by
 unfold scan at h;by_cases hs:4000<s.size
 ·rw[if_pos hs]at h;cases h
 ·rw[if_neg hs]at h
  have:=zV s (s.size+1) 0 [] l (by omega) (by omega) (by simp) h;exact⟨this.1,this.2,by omega⟩
end Tok
section
namespace Ty
open Tok (Tk)
structure Ty where
 kind:Nat
 fields:List (BA×Nat)
 list:List Nat
 of:Nat
structure Nd where
 kind:Nat
 a:Nat
 b:Nat
 c:Int
 list:List Nat
 text:BA
 n:Nat
 ty:Int
 pos:Nat
abbrev Ft:=Nat×Nat
structure St where
 pos:Nat
 ts:List Ty
 ns:List Nd
def M(α:Type):=St→Except Ft (α×St)
def ret{α:Type}(a:α):M α:=λs=>.ok (a,s)
def ar{α β:Type}(m:M α)(k:α→M β):M β:=λs=>match m s with
 | .error e=>.error e
 | .ok (a,s')=>k a s'
theorem aw{α β:Type}{m:M α}{k:α→M β}{s s':St}{a:α}(h:m s=.ok (a,s')):ar m k s=k a s':=by unfold ar;rw[h]
theorem aQ{α β:Type}{m:M α}{k:α→M β}{s:St}{e:Ft}(h:m s=.error e):ar m k s=.error e:=by unfold ar;rw[h]
theorem au{α β:Type}{m:M α}{k:α→M β}{s s':St}{b:β}(h:ar m k s=.ok (b,s')):∃a s1,m s=.ok (a,s1)∧k a s1=.ok (b,s'):=by
 unfold ar at h;split at h
 ·cases h
 ·rename_i a s1 e;exact⟨a,s1,e,h⟩
def cur(ad:List Tk)(pos:Nat):Tk:=(ad[pos]?).getD ⟨6,⟨#[]⟩,0⟩
def here(ad:List Tk)(e pos:Nat):Ft:=(e,(cur ad pos).pos)
def is(ad:List Tk)(s:List UInt8)(pos:Nat):Bool:=(decide ((cur ad pos).kind=5)||decide ((cur ad pos).kind=2))&&decide ((cur ad pos).text.data.toList=s)
def fail{α:Type}(ad:List Tk)(e:Nat):M α:=λs=>.error (here ad e s.pos)
def step:M Unit:=λs=>.ok ((),{s with pos:=s.pos+1})
def take(ad:List Tk)(x:List UInt8):M Bool:=λs=>if is ad x s.pos then .ok (true,{s with pos:=s.pos+1})else .ok (false,s)
def need(ad:List Tk)(x:List UInt8):M Unit:=λs=>if is ad x s.pos then .ok ((),{s with pos:=s.pos+1})else .error (here ad 1 s.pos)
def name(ad:List Tk)(met:List BA):M BA:=λs=>
 if(cur ad s.pos).kind≠1 then .error (here ad 1 s.pos)
 else if(cur ad s.pos).text.data.toList∈met.map (λt=>t.data.toList)then .error (here ad 6 s.pos)
 else .ok ((cur ad s.pos).text,{s with pos:=s.pos+1})
def aZ(t:Ty):M Nat:=λs=>.ok (s.ts.length,{s with ts:=s.ts++[t]})
def xE:List (List UInt8):=[[110,117,109],[98,111,111,108],[116,101,120,116],[110,117,108,108],[97,110,121],[117,110,107,110,111,119,110]]
def bS(x:BA):Nat:=match xE.idxOf? x.data.toList with|some i=>i+1|none=>0
def list{α:Type}(ad:List Tk)(e:List UInt8)(m:List α→M α):Nat→List α→M (List α)
 |0,_=>fail ad 1
 |f+1,l=>ar (take ad e) λb=>if b then ret l else
   ar (if l.length=0 then ret ()else need ad [44]) λ_=>ar (m l) λn=>list ad e m f (l++[n])
def fields(ad:List Tk)(T:M Nat):Nat→List (BA×Nat)→M (List (BA×Nat))
 |0,_=>fail ad 1
 |f+1,l=>ar (take ad [125]) λb=>if b then ret l else
   ar (name ad (l.map Prod.fst)) λs=>ar (need ad [58]) λ_=>ar T λn=>ar (need ad [59]) λ_=>fields ad T f (l++[(s,n)])
def object(ad:List Tk)(T:M Nat):M Nat:=ar (fields ad T (ad.length+1) []) λl=>aZ ⟨7,l,[],0⟩
def round(ad:List Tk)(T:M Nat):M Nat:=
 ar (list ad [41] (λ_=>T) (ad.length+1) []) λl=>ar (take ad [61,62]) λb=>
  if b then ar T λn=>aZ ⟨9,[],l,n⟩
  else if l.length=1 then ret (l.headD 0)else fail ad 1
def single(ad:List Tk)(T:M Nat):M Nat:=λs=>
 if(cur ad s.pos).kind=2∧bS (cur ad s.pos).text>0 then ar step (λ_=>aZ ⟨bS (cur ad s.pos).text,[],[],0⟩) s
 else ar (take ad [123]) (λb=>if b then object ad T else
  ar (take ad [91]) λb=>if b then ar T λn=>ar (need ad [93]) λ_=>aZ ⟨8,[],[],n⟩else
   ar (need ad [40]) λ_=>round ad T) s
def bars(ad:List Tk)(S:M Nat):Nat→List Nat→M (List Nat)
 |0,_=>fail ad 1
 |f+1,l=>ar (take ad [124]) λb=>if b then ar S λn=>bars ad S f (l++[n])else ret l
def union(ad:List Tk)(S:M Nat):M Nat:=
 ar S λn=>ar (bars ad S (ad.length+1) [n]) λl=>if l.length=1 then ret (l.headD 0)else aZ ⟨10,[],l,0⟩
def sy(ad:List Tk):Nat→M Nat
 |0=>fail ad 8
 |r+1=>union ad (single ad (sy ad r))
def bg{α:Type}(d c e:Int)(m:M α):Prop:=∀s a s',m s=.ok (a,s')→(s.pos:Int)+d≤s'.pos∧(s'.ts.length:Int)+s.pos+c≤s.ts.length+s'.pos∧(s'.ns.length:Int)+s.pos+e≤s.ns.length+s'.pos
theorem bg.mono{α:Type}{d c e d' c' e':Int}{m:M α}(h:bg d c e m)(hd:d'≤d:=by omega)(hc:c'≤c:=by omega)(he:e'≤e:=by omega):bg d' c' e' m:=λs a s' k=>by have:=h s a s' k;omega
theorem bg.ret{α:Type}(a:α):bg 0 0 0 (ret a):=λs b s' e=>by cases e;simp
theorem bg.fail{α:Type}(ad:List Tk)(n:Nat)(d c e:Int):bg d c e (fail (α:=α) ad n):=λs b s' h=>by cases h
theorem bg.step:bg 1 1 1 step:=λs b s' e=>by cases e;simp;omega
theorem bg.need(ad:List Tk)(x:List UInt8):bg 1 1 1 (need ad x):=λs b s' e=>by
 unfold Ty.need at e;split at e
 ·cases e;simp;omega
 ·cases e
theorem bg.name(ad:List Tk)(met:List BA):bg 1 1 1 (name ad met):=λs b s' e=>by
 unfold Ty.name at e;split at e
 ·cases e
 ·split at e
  ·cases e
  ·cases e;simp;omega
theorem bg.aZ(t:Ty):bg 0 (-1) 0 (aZ t):=λs b s' e=>by cases e;simp;omega
theorem bg.ar{α β:Type}{m:M α}{k:α→M β}{d c e d' c' e':Int}(h:bg d c e m)(g:∀a,bg d' c' e' (k a)):bg (d+d') (c+c') (e+e') (Ty.ar m k):=λs b s' x=>by
 obtain⟨a,s1,e1,e2⟩:=au x;have:=h _ _ _ e1;have:=g a _ _ _ e2;omega
theorem bg.take{β:Type}(ad:List Tk)(x:List UInt8){k:Bool→M β}{d c e:Int}(h1:bg (d-1) (c-1) (e-1) (k true))(h2:bg d c e (k false)):bg d c e (Ty.ar (Ty.take ad x) k):=λs b s' y=>by
 obtain⟨a,s1,e1,e2⟩:=au y;unfold Ty.take at e1;split at e1<;>cases e1
 ·have:=h1 _ _ _ e2;simp at this;omega
 ·exact h2 _ _ _ e2
theorem bg.ite{α:Type}{p:Prop} [Decidable p]{m n:M α}{d c e:Int}(h:p→bg d c e m)(g:¬p→bg d c e n):bg d c e (if p then m else n):=by
 split
 ·exact h ‹_›
 ·exact g ‹_›
theorem gA{α:Type}{ad:List Tk}{x:List UInt8}{m:List α→M α}(hm:∀l,bg 1 0 0 (m l)):∀f l,bg 1 1 1 (list ad x m f l)
 |0,_=>bg.fail _ _ _ _ _
 |f+1,l=>by
  refine bg.take _ _ ?_ ?_
  ·simp only[if_true];exact(bg.ret l).mono
  ·simp only[Bool.false_eq_true,if_false];exact((bg.ite (d:=0) (c:=0) (e:=0) (λ_=>bg.ret ()) (λ_=>(bg.need _ _).mono)).ar λ_=>(hm l).ar λn=>gA hm f (l++[n])).mono
theorem uz{ad:List Tk}{T:M Nat}(hT:bg 1 0 0 T):∀f l,bg 1 1 1 (fields ad T f l)
 |0,_=>bg.fail _ _ _ _ _
 |f+1,l=>by
  refine bg.take _ _ ?_ ?_
  ·simp only[if_true];exact(bg.ret l).mono
  ·simp only[Bool.false_eq_true,if_false];exact((bg.name _ _).ar λs=>(bg.need _ _).ar λ_=>hT.ar λn=>(bg.need _ _).ar λ_=>uz hT f (l++[(s,n)])).mono
theorem Cj{ad:List Tk}{T:M Nat}(hT:bg 1 0 0 T):bg 1 0 0 (object ad T):=((uz hT _ _).ar λ_=>bg.aZ _).mono
theorem G0{ad:List Tk}{T:M Nat}(hT:bg 1 0 0 T):bg 1 0 0 (round ad T):=
 ((gA (λ_=>hT) _ _).ar (d':=0) (c':=0) (e':=0) λl=>bg.take _ _ (by simp only[if_true];exact(hT.ar λn=>bg.aZ _).mono)
  (by simp only[Bool.false_eq_true,if_false];exact bg.ite (λ_=>bg.ret _) (λ_=>bg.fail _ _ _ _ _))).mono
theorem u4{ad:List Tk}{T:M Nat}(hT:bg 1 0 0 T):bg 1 0 0 (single ad T):=λs a s' h=>by
 unfold single at h;split at h
 ·exact(bg.step.ar λ_=>bg.aZ _).mono (by omega) (by omega) (by omega) s a s' h
 ·revert h;refine(show bg 1 0 0 _ from ?_) s a s';refine bg.take _ _ ?_ ?_
  ·simp only[if_true];exact(Cj hT).mono
  ·simp only[Bool.false_eq_true,if_false];refine bg.take _ _ ?_ ?_
   ·simp only[if_true];exact(hT.ar λn=>(bg.need _ _).ar λ_=>bg.aZ _).mono
   ·simp only[Bool.false_eq_true,if_false];exact((bg.need _ _).ar λ_=>G0 hT).mono
theorem A5{ad:List Tk}{S:M Nat}(hS:bg 1 0 0 S):∀f l s l' s',bars ad S f l s=.ok (l',s')→l.length≤l'.length∧s.pos≤s'.pos∧s'.ts.length+s.pos+l'.length≤s.ts.length+s'.pos+l.length∧s'.ns.length+s.pos+l'.length≤s.ns.length+s'.pos+l.length
 |0,_,s,l',s',h=>by cases h
 |f+1,l,s,l',s',h=>by
  obtain⟨b,s1,e1,e2⟩:=au h;unfold Ty.take at e1;split at e1<;>cases e1
  ·simp only[if_true]at e2;obtain⟨n,s2,e3,e4⟩:=au e2;have a1:=hS _ _ _ e3;have a2:=A5 hS f _ _ _ _ e4;simp at a1 a2;omega
  ·simp only[Bool.false_eq_true,if_false]at e2;cases e2;simp
theorem GO{ad:List Tk}{S:M Nat}(hS:bg 1 0 0 S):bg 1 0 0 (union ad S):=λs a s' h=>by
 obtain⟨n,s1,e1,e2⟩:=au h;obtain⟨l,s2,e3,e4⟩:=au e2;have a1:=hS _ _ _ e1;have a2:=A5 hS _ _ _ _ _ e3;simp at a2;split at e4
 ·cases e4;omega
 ·cases e4;simp;omega
theorem p3(ad:List Tk):∀r,bg 1 0 0 (sy ad r)
 |0=>bg.fail _ _ _ _ _
 |r+1=>GO (u4 (p3 ad r))
end Ty
end
namespace Tok
def ends(t:Tk):Nat:=t.pos+t.text.size+if t.kind=4 then 2 else 0
def bS(k:Nat):Bool:=decide (k=1)||decide (k=2)||decide (k=3)
def bad(pk:Nat)(t:Tk)(a:Nat):Bool:=bS t.kind&&decide (t.pos=a)&&bS pk&&!(decide (pk=3)&&!decide (t.kind=3))
def apart(s:BA):Nat→Nat→List Tk→Prop
 |a,pk,[]=>a=s.size∧pk=6
 |a,pk,t::r=>a≤t.pos∧t.pos≤s.size∧(∀k,a≤k→k<t.pos→byte s k=32∨byte s k=10)∧bad pk t a=false∧ends t≤s.size∧apart s (ends t) t.kind r
theorem xM(s:BA):∀(f k:Nat)(o:List Tk)(e p:Nat),dc s f k o=.error (e,p)→e=1∨e=2:=by
 intro f;induction f with
 |zero=>intro k o e p h;cases h
 |succ f ih=>
  intro k o e p h;rw[dc]at h
  by_cases bm:k<s.size
  ·rw[if_pos bm]at h
   by_cases hb:byte s k=32∨byte s k=10
   ·rw[if_pos hb]at h;exact ih _ _ _ _ h
   ·rw[if_neg hb]at h
    by_cases aF: (next s k).2.2=false
    ·rw[if_pos aF]at h
     have:=Except.error.inj h;simp only[Prod.mk.injEq]at this;omega
    ·rw[if_neg aF]at h
     by_cases hl:o.length=1000
     ·rw[if_pos hl]at h
      have:=Except.error.inj h;simp only[Prod.mk.injEq]at this;omega
     ·rw[if_neg hl]at h;exact ih _ _ _ _ h
  ·rw[if_neg bm]at h;cases h
theorem IJ(s:BA)(e p:Nat)(h:scan s=.error (e,p)):e=1∨e=2:=by
 unfold scan at h;by_cases hs:4000<s.size
 ·rw[if_pos hs]at h
  have:=Except.error.inj h;simp only[Prod.mk.injEq]at this;omega
 ·rw[if_neg hs]at h;exact xM s _ _ _ e p h
end Tok
section
namespace Ty
open Tok (Tk)
def Bad{α:Type}(m:M α):Prop:=∀s f,m s=.error f→f.1≠0∧f.1≤9
theorem Bad.ret{α:Type}(a:α):Bad (ret a):=λs f h=>by cases h
theorem Bad.fail{α:Type}(ad:List Tk)(n:Nat)(hn:n≠0∧n≤9:=by omega):Bad (fail (α:=α) ad n):=λs f h=>by cases h;exact hn
theorem Bad.step:Bad step:=λs f h=>by cases h
theorem Bad.take(ad:List Tk)(x:List UInt8):Bad (take ad x):=λs f h=>by unfold Ty.take at h;split at h<;>cases h
theorem Bad.need(ad:List Tk)(x:List UInt8):Bad (need ad x):=λs f h=>by unfold Ty.need at h;split at h<;>cases h;simp[here]
theorem Bad.name(ad:List Tk)(met:List BA):Bad (name ad met):=λs f h=>by
 unfold Ty.name at h;split at h
 ·cases h;simp[here]
 ·split at h
  ·cases h;simp[here]
  ·cases h
theorem Bad.aZ(t:Ty):Bad (aZ t):=λs f h=>by cases h
theorem Bad.ar{α β:Type}{m:M α}{k:α→M β}(h:Bad m)(g:∀a,Bad (k a)):Bad (Ty.ar m k):=λs f e=>by
 unfold Ty.ar at e;split at e
 ·rename_i e1;cases e;exact h _ _ e1
 ·exact g _ _ _ e
theorem Bad.ite{α:Type}{p:Prop} [Decidable p]{m n:M α}(h:Bad m)(g:Bad n):Bad (if p then m else n):=by
 split
 ·exact h
 ·exact g
theorem l8{α:Type}{ad:List Tk}{x:List UInt8}{m:List α→M α}(hm:∀l,Bad (m l)):∀f l,Bad (list ad x m f l)
 |0,_=>Bad.fail _ _
 |f+1,l=>(Bad.take _ _).ar λb=>Bad.ite (Bad.ret l) ((Bad.ite (Bad.ret ()) (Bad.need _ _)).ar λ_=>(hm l).ar λn=>l8 hm f (l++[n]))
theorem vr{ad:List Tk}{T:M Nat}(hT:Bad T):∀f l,Bad (fields ad T f l)
 |0,_=>Bad.fail _ _
 |f+1,l=>(Bad.take _ _).ar λb=>Bad.ite (Bad.ret l) ((Bad.name _ _).ar λs=>(Bad.need _ _).ar λ_=>hT.ar λn=>(Bad.need _ _).ar λ_=>vr hT f (l++[(s,n)]))
theorem DJ{ad:List Tk}{T:M Nat}(hT:Bad T):Bad (object ad T):=(vr hT _ _).ar λ_=>Bad.aZ _
theorem FP{ad:List Tk}{T:M Nat}(hT:Bad T):Bad (round ad T):=
 (l8 (λ_=>hT) _ _).ar λl=>(Bad.take _ _).ar λb=>Bad.ite (hT.ar λn=>Bad.aZ _) (Bad.ite (Bad.ret _) (Bad.fail _ _))
theorem C1{ad:List Tk}{T:M Nat}(hT:Bad T):Bad (single ad T):=λs f h=>by
 unfold single at h;split at h
 ·exact(Bad.step.ar λ_=>Bad.aZ _) s f h
 ·exact((Bad.take _ _).ar λb=>Bad.ite (DJ hT) ((Bad.take _ _).ar λb=>Bad.ite (hT.ar λn=>(Bad.need _ _).ar λ_=>Bad.aZ _) ((Bad.need _ _).ar λ_=>FP hT))) s f h
theorem Bz{ad:List Tk}{S:M Nat}(hS:Bad S):∀f l,Bad (bars ad S f l)
 |0,_=>Bad.fail _ _
 |f+1,l=>(Bad.take _ _).ar λb=>Bad.ite (hS.ar λn=>Bz hS f (l++[n])) (Bad.ret l)
theorem Gs{ad:List Tk}{S:M Nat}(hS:Bad S):Bad (union ad S):=hS.ar λ_=>(Bz hS _ _).ar λ_=>Bad.ite (Bad.ret _) (Bad.aZ _)
theorem Eh(ad:List Tk):∀r,Bad (sy ad r)
 |0=>Bad.fail _ _
 |r+1=>Gs (C1 (Eh ad r))
theorem vJ(s:BA):∀(f k:Nat)(o l:List Tk),Tok.dc s f k o=.ok l→s.size<k+f→k≤s.size→∀t,l.getLast?=some t→t.kind=6:=by
 intro f;induction f with
 |zero=>intro k o l _ h1 h2;omega
 |succ f ih=>
  intro k o l h h1 h2 t ht;rw[Tok.dc]at h
  by_cases bm:k<s.size
  ·rw[if_pos bm]at h
   by_cases hb:Tok.byte s k=32∨Tok.byte s k=10
   ·rw[if_pos hb]at h
    exact ih _ _ _ h (by omega) (by omega) t ht
   ·rw[if_neg hb]at h
    by_cases aF: (Tok.next s k).2.2=false
    ·rw[if_pos aF]at h;cases h
    ·rw[if_neg aF]at h
     by_cases hl:o.length=1000
     ·rw[if_pos hl]at h;cases h
     ·rw[if_neg hl]at h
      have Gk:=Tok.pd s k bm (by simpa using aF);exact ih _ _ _ h (by omega) (by omega) t ht
  ·rw[if_neg bm]at h
   cases h;simp at ht;subst ht;rfl
theorem GB{s:BA}{l:List Tk}(h:Tok.scan s=.ok l):∀t,l.getLast?=some t→t.kind=6:=by
 unfold Tok.scan at h;split at h
 ·cases h
 ·exact vJ s _ _ _ _ h (by omega) (by omega)
end Ty
end
section
namespace Ty
open Tok (Tk)
def af(kind pos:Nat):Nd:=⟨kind,0,0,0,[],⟨#[]⟩,0,-1,pos⟩
def addNode(n:Nd):M Nat:=λs=>.ok (s.ns.length,{s with ns:=s.ns++[n]})
def cL(s:St)(a:Nat):Nd:=(s.ns[a]?).getD (af 0 0)
def look{α:Type}(k:St→M α):M α:=λs=>k s s
def two(x:BA)(a b:Nat):M Nat:=look λs=>addNode {af 12 (cL s a).pos with text:=x,a:=a,b:=b}
def cV(ad:List Tk)(one:M Nat)(bn:List (List UInt8)):Nat→Nat→M Nat
 |0,_=>fail ad 1
 |f+1,n=>look λs=>if bn.any (λx=>is ad x s.pos)then ar step λ_=>ar one λb=>ar (two (cur ad s.pos).text n b) λm=>cV ad one bn f m else ret n
def left(ad:List Tk)(one:M Nat)(bn:List (List UInt8)):M Nat:=ar one λn=>cV ad one bn (ad.length+1) n
def lR(ad:List Tk)(one:M Nat):M Nat:=left ad one [[42]]
def qp(ad:List Tk)(one:M Nat):M Nat:=left ad (lR ad one) [[43],[45]]
def jU(ad:List Tk)(one:M Nat):M Nat:=
 ar (qp ad one) λn=>ar (take ad [61,61]) λb=>if b then ar (qp ad one) λm=>two ⟨#[61,61]⟩ n m else
  ar (take ad [60]) λb=>if b then ar (qp ad one) λm=>two ⟨#[60]⟩ n m else ret n
def behind(ad:List Tk)(T E:M Nat):Nat→Nat→M Nat
 |0,_=>fail ad 1
 |f+1,a=>look λs=>ar (take ad [40]) λb=>if b then ar (list ad [41] (λ_=>E) (ad.length+1) []) λl=>ar (addNode {af 7 (cL s a).pos with a:=a,list:=l}) λm=>behind ad T E f m else
   ar (take ad [46]) λb=>if b then ar (name ad []) λx=>ar (addNode {af 8 (cL s a).pos with a:=a,text:=x}) λm=>behind ad T E f m else
   ar (take ad [91]) λb=>if b then ar E λc=>ar (need ad [93]) λ_=>ar (addNode {af 9 (cL s a).pos with a:=a,b:=c}) λm=>behind ad T E f m else
   ar (take ad [97,115]) λb=>if b then ar T λt=>ar (addNode {af 14 (cL s a).pos with a:=a,ty:=(t:Int)}) λm=>behind ad T E f m else ret a
def written(ad:List Tk)(T:M Nat):M Int:=ar (take ad [58]) λb=>if b then ar T λn=>ret (n:Int)else ret (-1)
def ia(ad:List Tk)(E:M Nat)(met:List BA):M (BA×Nat):=
 look λs=>ar (name ad met) λx=>ar (need ad [58]) λ_=>ar E λa=>ar (addNode {af 15 (cur ad s.pos).pos with text:=x,a:=a}) λn=>ret (x,n)
def gE(ad:List Tk)(T:M Nat)(met:List BA):M (BA×Nat):=
 look λs=>ar (name ad met) λx=>ar (written ad T) λt=>ar (addNode {af 16 (cur ad s.pos).pos with text:=x,ty:=t}) λn=>ret (x,n)
def stmts(ad:List Tk)(S:M Nat):Nat→List Nat→M (List Nat)
 |0,_=>fail ad 1
 |f+1,l=>ar (take ad [125]) λb=>if b then ret l else ar S λn=>stmts ad S f (l++[n])
def ef(ad:List Tk)(S:M Nat):M Nat:=look λs=>ar (need ad [123]) λ_=>ar (stmts ad S (ad.length+1) []) λl=>addNode {af 26 (cur ad s.pos).pos with list:=l}
def cF(ad:List Tk)(T S:M Nat)(pos:Nat):M Nat:=
 ar (need ad [40]) λ_=>ar (list ad [41] (λl=>gE ad T (l.map Prod.fst)) (ad.length+1) []) λl=>ar (written ad T) λt=>ar (ef ad S) λa=>
  addNode {af 6 pos with list:=l.map Prod.snd,ty:=t,a:=a}
def value(x:BA):Nat:=x.data.toList.foldl (λn c=>10*n+(c.toNat-48)) 0
def cM(ad:List Tk)(T E S:M Nat):M Nat:=look λs=>
 if(cur ad s.pos).kind=3 then ar step λ_=>addNode {af 1 (cur ad s.pos).pos with n:=value (cur ad s.pos).text}else
 if(cur ad s.pos).kind=4 then ar step λ_=>addNode {af 2 (cur ad s.pos).pos with text:=(cur ad s.pos).text}else
 if(cur ad s.pos).kind=1 then ar step λ_=>addNode {af 5 (cur ad s.pos).pos with text:=(cur ad s.pos).text}else
 ar (take ad [116,114,117,101]) λb=>if b then addNode {af 3 (cur ad s.pos).pos with n:=1}else
 ar (take ad [102,97,108,115,101]) λb=>if b then addNode (af 3 (cur ad s.pos).pos)else
 ar (take ad [110,117,108,108]) λb=>if b then addNode (af 4 (cur ad s.pos).pos)else
 ar (take ad [102,110]) λb=>if b then cF ad T S (cur ad s.pos).pos else
 ar (take ad [91]) λb=>if b then ar (list ad [93] (λ_=>E) (ad.length+1) []) λl=>addNode {af 11 (cur ad s.pos).pos with list:=l}else
 ar (take ad [123]) λb=>if b then ar (list ad [125] (λl=>ia ad E (l.map Prod.fst)) (ad.length+1) []) λl=>addNode {af 10 (cur ad s.pos).pos with list:=l.map Prod.snd}else
 ar (need ad [40]) λ_=>ar E λa=>ar (need ad [41]) λ_=>ret a
def gW:List (List UInt8):=[[33],[45],[116,121,112,101,111,102]]
def pH(ad:List Tk)(T E O S:M Nat):M Nat:=look λs=>
 if gW.any (λx=>is ad x s.pos)then ar step λ_=>ar O λa=>addNode {af 13 (cur ad s.pos).pos with text:=(cur ad s.pos).text,a:=a}
 else ar (cM ad T E S) λa=>behind ad T E (ad.length+1) a
def gG(a:Nat):M Unit:=λs=>.ok ((),{s with ns:=s.ns.take a})
def di(ad:List Tk)(E:M Nat):M Nat:=ar E λa=>look λs=>
 if is ad [61] s.pos then
  if(cL s a).kind=5 then ar (gG a) λ_=>ar step λ_=>ar E λv=>ar (need ad [59]) λ_=>addNode {af 18 (cL s a).pos with text:=(cL s a).text,a:=v}
  else if(cL s a).kind=8 then ar (gG a) λ_=>ar step λ_=>ar E λv=>ar (need ad [59]) λ_=>addNode {af 19 (cL s a).pos with text:=(cL s a).text,a:=(cL s a).a,b:=v}
  else if(cL s a).kind=9 then ar (gG a) λ_=>ar step λ_=>ar E λv=>ar (need ad [59]) λ_=>addNode {af 20 (cL s a).pos with a:=(cL s a).a,b:=(cL s a).b,c:=(v:Int)}
  else fail ad 1
 else ar (need ad [59]) λ_=>addNode {af 25 (cL s a).pos with a:=a}
def bH(ad:List Tk)(E S:M Nat)(yes:Bool)(pos:Nat):M Nat:=
 ar step λ_=>ar (need ad [40]) λ_=>ar E λa=>ar (need ad [41]) λ_=>ar (ef ad S) λb=>
  if yes then ar (take ad [101,108,115,101]) λe=>if e then ar (ef ad S) λc=>addNode {af 22 pos with a:=a,b:=b,c:=(c:Int)}else addNode {af 22 pos with a:=a,b:=b,c:= -1}
  else addNode {af 23 pos with a:=a,b:=b}
def dy(ad:List Tk)(T E S:M Nat):M Nat:=look λs=>
 ar (take ad [108,101,116]) λb=>if b then ar (name ad []) λx=>ar (written ad T) λt=>ar (need ad [61]) λ_=>ar E λa=>ar (need ad [59]) λ_=>addNode {af 17 (cur ad s.pos).pos with text:=x,ty:=t,a:=a}else
 ar (take ad [112,114,105,110,116]) λb=>if b then ar E λa=>ar (need ad [59]) λ_=>addNode {af 21 (cur ad s.pos).pos with a:=a}else
 ar (take ad [114,101,116,117,114,110]) λb=>if b then ar E λa=>ar (need ad [59]) λ_=>addNode {af 24 (cur ad s.pos).pos with a:=a}else
 look λs2=>if is ad [105,102] s2.pos then bH ad E S true (cur ad s.pos).pos else if is ad [119,104,105,108,101] s2.pos then bH ad E S false (cur ad s.pos).pos else di ad E
structure Lv where
 E:M Nat
 O:M Nat
 S:M Nat
def lv(ad:List Tk):Nat→Lv
 |0=>⟨fail ad 8,fail ad 8,fail ad 8⟩
 |r+1=>⟨jU ad (pH ad (sy ad r) (lv ad r).E (lv ad r).O (lv ad r).S),pH ad (sy ad r) (lv ad r).E (lv ad r).O (lv ad r).S,dy ad (sy ad r) (lv ad r).E (lv ad r).S⟩
def fE(ad:List Tk)(S:M Nat):Nat→List Nat→M (List Nat)
 |0,_=>fail ad 1
 |f+1,l=>look λs=>if(cur ad s.pos).kind=6 then ret l else ar S λn=>fE ad S f (l++[n])
def oe(ad:List Tk):M Nat:=ar (fE ad (lv ad 20).S (ad.length+1) []) λl=>addNode {af 26 0 with list:=l}
structure Pg where
 ns:List Nd
 ts:List Ty
 main:Nat
def parse(s:BA):Except Ft Pg:=
 match Tok.scan s with
 | .error e=>.error e
 | .ok ad=>match oe ad ⟨0,[],[]⟩with
  | .error e=>.error e
  | .ok (n,st)=>if st.ns.length>1200∨st.ts.length>300 then .error (2,0)else .ok ⟨st.ns,st.ts,n⟩
end Ty
end
section
namespace Ty
open Tok (Tk)
theorem bg.addNode(n:Nd):bg 0 0 (-1) (addNode n):=λs b s' e=>by cases e;simp;omega
theorem bg.look{α:Type}{k:St→M α}{d c e:Int}(h:∀s,bg d c e (k s)):bg d c e (Ty.look k):=λs a s' x=>h s s a s' x
theorem bg.two(x:BA)(a b:Nat):bg 0 0 (-1) (two x a b):=bg.look λ_=>bg.addNode _
theorem bg.gG(a:Nat):bg 0 0 0 (gG a):=λs b s' e=>by cases e;simp;omega
theorem qw{ad:List Tk}{one:M Nat}(h:bg 1 0 0 one){bn:List (List UInt8)}:∀f n,bg 0 0 0 (cV ad one bn f n)
 |0,_=>bg.fail _ _ _ _ _
 |f+1,n=>bg.look λs=>bg.ite (λ_=>(bg.step.ar λ_=>h.ar λb=>(bg.two _ _ _).ar λm=>qw h f m).mono) (λ_=>bg.ret _)
theorem vs{ad:List Tk}{one:M Nat}(h:bg 1 0 0 one){bn:List (List UInt8)}:bg 1 0 0 (left ad one bn):=(h.ar λn=>qw h _ n).mono
theorem qI{ad:List Tk}{one:M Nat}(h:bg 1 0 0 one):bg 1 0 0 (qp ad one):=vs (vs h)
theorem Fs{ad:List Tk}{one:M Nat}(h:bg 1 0 0 one):bg 1 0 0 (jU ad one):=by
 refine((qI h).ar (d':=0) (c':=0) (e':=0) λn=>?_).mono;refine bg.take _ _ ?_ ?_
 ·simp only[if_true];exact((qI h).ar λm=>bg.two _ _ _).mono
 ·simp only[Bool.false_eq_true,if_false];refine bg.take _ _ ?_ ?_
  ·simp only[if_true];exact((qI h).ar λm=>bg.two _ _ _).mono
  ·simp only[Bool.false_eq_true,if_false];exact bg.ret _
theorem ki{ad:List Tk}{T E:M Nat}(hT:bg 1 0 0 T)(hE:bg 1 0 0 E):∀f a,bg 0 0 0 (behind ad T E f a)
 |0,_=>bg.fail _ _ _ _ _
 |f+1,a=>by
  refine bg.look λs=>bg.take _ _ ?_ ?_
  ·simp only[if_true];exact((gA (λ_=>hE) _ _).ar λl=>(bg.addNode _).ar λm=>ki hT hE f m).mono
  ·simp only[Bool.false_eq_true,if_false];refine bg.take _ _ ?_ ?_
   ·simp only[if_true];exact((bg.name _ _).ar λl=>(bg.addNode _).ar λm=>ki hT hE f m).mono
   ·simp only[Bool.false_eq_true,if_false];refine bg.take _ _ ?_ ?_
    ·simp only[if_true];exact(hE.ar λc=>(bg.need _ _).ar λ_=>(bg.addNode _).ar λm=>ki hT hE f m).mono
    ·simp only[Bool.false_eq_true,if_false];refine bg.take _ _ ?_ ?_
     ·simp only[if_true];exact(hT.ar λc=>(bg.addNode _).ar λm=>ki hT hE f m).mono
     ·simp only[Bool.false_eq_true,if_false];exact bg.ret _
theorem iq{ad:List Tk}{T:M Nat}(hT:bg 1 0 0 T):bg 0 0 0 (written ad T):=by
 refine bg.take _ _ ?_ ?_
 ·simp only[if_true];exact(hT.ar λn=>bg.ret _).mono
 ·simp only[Bool.false_eq_true,if_false];exact bg.ret _
theorem rf{ad:List Tk}{E:M Nat}(hE:bg 1 0 0 E)(met:List BA):bg 1 0 0 (ia ad E met):=
 bg.look λs=>((bg.name _ _).ar λx=>(bg.need _ _).ar λ_=>hE.ar λa=>(bg.addNode _).ar λn=>bg.ret _).mono
theorem pG{ad:List Tk}{T:M Nat}(hT:bg 1 0 0 T)(met:List BA):bg 1 0 0 (gE ad T met):=
 bg.look λs=>((bg.name _ _).ar λx=>(iq hT).ar λt=>(bg.addNode _).ar λn=>bg.ret _).mono
theorem xi{ad:List Tk}{S:M Nat}(hS:bg 1 0 0 S):∀f l,bg 1 1 1 (stmts ad S f l)
 |0,_=>bg.fail _ _ _ _ _
 |f+1,l=>by
  refine bg.take _ _ ?_ ?_
  ·simp only[if_true];exact(bg.ret _).mono
  ·simp only[Bool.false_eq_true,if_false];exact(hS.ar λn=>xi hS f _).mono
theorem hU{ad:List Tk}{S:M Nat}(hS:bg 1 0 0 S):bg 2 1 1 (ef ad S):=
 bg.look λs=>((bg.need _ _).ar λ_=>(xi hS _ _).ar λl=>bg.addNode _).mono
theorem vY{ad:List Tk}{T S:M Nat}(hT:bg 1 0 0 T)(hS:bg 1 0 0 S)(pos:Nat):bg 1 0 0 (cF ad T S pos):=
 ((bg.need _ _).ar λ_=>(gA (λ_=>pG hT _) _ _).ar λl=>(iq hT).ar λt=>(hU hS).ar λa=>bg.addNode _).mono
theorem A1{ad:List Tk}{T E S:M Nat}(hT:bg 1 0 0 T)(hE:bg 1 0 0 E)(hS:bg 1 0 0 S):bg 1 0 0 (cM ad T E S):=by
 refine bg.look λs=>bg.ite (λ_=>(bg.step.ar λ_=>bg.addNode _).mono) λ_=>bg.ite (λ_=>(bg.step.ar λ_=>bg.addNode _).mono) λ_=>bg.ite (λ_=>(bg.step.ar λ_=>bg.addNode _).mono) λ_=>?_
 refine bg.take _ _ ?_ ?_
 ·simp only[if_true];exact(bg.addNode _).mono
 simp only[Bool.false_eq_true,if_false];refine bg.take _ _ ?_ ?_
 ·simp only[if_true];exact(bg.addNode _).mono
 simp only[Bool.false_eq_true,if_false];refine bg.take _ _ ?_ ?_
 ·simp only[if_true];exact(bg.addNode _).mono
 simp only[Bool.false_eq_true,if_false];refine bg.take _ _ ?_ ?_
 ·simp only[if_true];exact(vY hT hS _).mono
 simp only[Bool.false_eq_true,if_false];refine bg.take _ _ ?_ ?_
 ·simp only[if_true];exact((gA (λ_=>hE) _ _).ar λl=>bg.addNode _).mono
 simp only[Bool.false_eq_true,if_false];refine bg.take _ _ ?_ ?_
 ·simp only[if_true];exact((gA (λ_=>rf hE _) _ _).ar λl=>bg.addNode _).mono
 simp only[Bool.false_eq_true,if_false];exact((bg.need _ _).ar λ_=>hE.ar λa=>(bg.need _ _).ar λ_=>bg.ret _).mono
theorem zo{ad:List Tk}{T E O S:M Nat}(hT:bg 1 0 0 T)(hE:bg 1 0 0 E)(hO:bg 1 0 0 O)(hS:bg 1 0 0 S):bg 1 0 0 (pH ad T E O S):=
 bg.look λs=>bg.ite (λ_=>(bg.step.ar λ_=>hO.ar λa=>bg.addNode _).mono) (λ_=>((A1 hT hE hS).ar λa=>ki hT hE _ a).mono)
theorem CD{ad:List Tk}{E:M Nat}(hE:bg 1 0 0 E):bg 1 0 0 (di ad E):=by
 have h:∀(a:Nat)(f:Nat→Nd),bg 0 0 0 (ar (gG a) λ_=>ar step λ_=>ar E λv=>ar (need ad [59]) λ_=>addNode (f v)):=λa f=>
  ((bg.gG _).ar λ_=>bg.step.ar λ_=>hE.ar λv=>(bg.need _ _).ar λ_=>bg.addNode _).mono
 exact(hE.ar (d':=0) (c':=0) (e':=0) λa=>bg.look λs=>bg.ite (λ_=>bg.ite (λ_=>h _ _) λ_=>bg.ite (λ_=>h _ _) λ_=>bg.ite (λ_=>h _ _) λ_=>bg.fail _ _ _ _ _)
  (λ_=>((bg.need _ _).ar λ_=>bg.addNode _).mono)).mono
theorem sx{ad:List Tk}{E S:M Nat}(hE:bg 1 0 0 E)(hS:bg 1 0 0 S)(yes:Bool)(pos:Nat):bg 1 0 0 (bH ad E S yes pos):=by
 refine(bg.step.ar λ_=>(bg.need _ _).ar λ_=>hE.ar λa=>(bg.need _ _).ar λ_=>(hU hS).ar (d':=0) (c':=0) (e':= -1) λb=>?_).mono;cases yes
 ·simp only[Bool.false_eq_true,if_false];exact bg.addNode _
 ·simp only[if_true];refine bg.take _ _ ?_ ?_
  ·simp only[if_true];exact((hU hS).ar λc=>bg.addNode _).mono
  ·simp only[Bool.false_eq_true,if_false];exact bg.addNode _
theorem E_{ad:List Tk}{T E S:M Nat}(hT:bg 1 0 0 T)(hE:bg 1 0 0 E)(hS:bg 1 0 0 S):bg 1 0 0 (dy ad T E S):=by
 refine bg.look λs=>bg.take _ _ ?_ ?_
 ·simp only[if_true];exact((bg.name _ _).ar λx=>(iq hT).ar λt=>(bg.need _ _).ar λ_=>hE.ar λa=>(bg.need _ _).ar λ_=>bg.addNode _).mono
 simp only[Bool.false_eq_true,if_false];refine bg.take _ _ ?_ ?_
 ·simp only[if_true];exact(hE.ar λa=>(bg.need _ _).ar λ_=>bg.addNode _).mono
 simp only[Bool.false_eq_true,if_false];refine bg.take _ _ ?_ ?_
 ·simp only[if_true];exact(hE.ar λa=>(bg.need _ _).ar λ_=>bg.addNode _).mono
 simp only[Bool.false_eq_true,if_false];exact bg.look λs2=>bg.ite (λ_=>sx hE hS _ _) λ_=>bg.ite (λ_=>sx hE hS _ _) λ_=>CD hE
theorem xR(ad:List Tk):∀r,bg 1 0 0 (lv ad r).E∧bg 1 0 0 (lv ad r).O∧bg 1 0 0 (lv ad r).S
 |0=>⟨bg.fail _ _ _ _ _,bg.fail _ _ _ _ _,bg.fail _ _ _ _ _⟩
 |r+1=>by
  obtain⟨h1,h2,h3⟩:=xR ad r;have hT:=p3 ad r;exact⟨Fs (zo hT h1 h2 h3),zo hT h1 h2 h3,E_ hT h1 h3⟩
theorem Bad.addNode(n:Nd):Bad (addNode n):=λs f h=>by cases h
theorem Bad.look{α:Type}{k:St→M α}(h:∀s,Bad (k s)):Bad (Ty.look k):=λs f x=>h s s f x
theorem Bad.two(x:BA)(a b:Nat):Bad (two x a b):=Bad.look λ_=>Bad.addNode _
theorem Bad.gG(a:Nat):Bad (gG a):=λs f h=>by cases h
theorem pU{ad:List Tk}{one:M Nat}(h:Bad one){bn:List (List UInt8)}:∀f n,Bad (cV ad one bn f n)
 |0,_=>Bad.fail _ _
 |f+1,n=>Bad.look λs=>Bad.ite (Bad.step.ar λ_=>h.ar λb=>(Bad.two _ _ _).ar λm=>pU h f m) (Bad.ret _)
theorem Bc{ad:List Tk}{one:M Nat}(h:Bad one){bn:List (List UInt8)}:Bad (left ad one bn):=h.ar λn=>pU h _ n
theorem uF{ad:List Tk}{one:M Nat}(h:Bad one):Bad (qp ad one):=Bc (Bc h)
theorem Gt{ad:List Tk}{one:M Nat}(h:Bad one):Bad (jU ad one):=
 (uF h).ar λ_=>(Bad.take _ _).ar λ_=>Bad.ite ((uF h).ar λ_=>Bad.two _ _ _) ((Bad.take _ _).ar λ_=>Bad.ite ((uF h).ar λ_=>Bad.two _ _ _) (Bad.ret _))
theorem ko{ad:List Tk}{T E:M Nat}(hT:Bad T)(hE:Bad E):∀f a,Bad (behind ad T E f a)
 |0,_=>Bad.fail _ _
 |f+1,a=>Bad.look λs=>(Bad.take _ _).ar λb=>Bad.ite ((l8 (λ_=>hE) _ _).ar λl=>(Bad.addNode _).ar λm=>ko hT hE f m)
   ((Bad.take _ _).ar λb=>Bad.ite ((Bad.name _ _).ar λl=>(Bad.addNode _).ar λm=>ko hT hE f m)
   ((Bad.take _ _).ar λb=>Bad.ite (hE.ar λc=>(Bad.need _ _).ar λ_=>(Bad.addNode _).ar λm=>ko hT hE f m)
   ((Bad.take _ _).ar λb=>Bad.ite (hT.ar λc=>(Bad.addNode _).ar λm=>ko hT hE f m) (Bad.ret _))))
theorem oh{ad:List Tk}{T:M Nat}(hT:Bad T):Bad (written ad T):=(Bad.take _ _).ar λ_=>Bad.ite (hT.ar λ_=>Bad.ret _) (Bad.ret _)
theorem G5{ad:List Tk}{E:M Nat}(hE:Bad E)(met:List BA):Bad (ia ad E met):=
 Bad.look λ_=>(Bad.name _ _).ar λ_=>(Bad.need _ _).ar λ_=>hE.ar λ_=>(Bad.addNode _).ar λ_=>Bad.ret _
theorem Cp{ad:List Tk}{T:M Nat}(hT:Bad T)(met:List BA):Bad (gE ad T met):=
 Bad.look λ_=>(Bad.name _ _).ar λ_=>(oh hT).ar λ_=>(Bad.addNode _).ar λ_=>Bad.ret _
theorem wR{ad:List Tk}{S:M Nat}(hS:Bad S):∀f l,Bad (stmts ad S f l)
 |0,_=>Bad.fail _ _
 |f+1,l=>(Bad.take _ _).ar λb=>Bad.ite (Bad.ret _) (hS.ar λn=>wR hS f _)
theorem pf{ad:List Tk}{S:M Nat}(hS:Bad S):Bad (ef ad S):=Bad.look λ_=>(Bad.need _ _).ar λ_=>(wR hS _ _).ar λ_=>Bad.addNode _
theorem vZ{ad:List Tk}{T S:M Nat}(hT:Bad T)(hS:Bad S)(pos:Nat):Bad (cF ad T S pos):=
 (Bad.need _ _).ar λ_=>(l8 (λ_=>Cp hT _) _ _).ar λ_=>(oh hT).ar λ_=>(pf hS).ar λ_=>Bad.addNode _
theorem zK{ad:List Tk}{T E S:M Nat}(hT:Bad T)(hE:Bad E)(hS:Bad S):Bad (cM ad T E S):=
 Bad.look λ_=>Bad.ite (Bad.step.ar λ_=>Bad.addNode _)<|Bad.ite (Bad.step.ar λ_=>Bad.addNode _)<|Bad.ite (Bad.step.ar λ_=>Bad.addNode _)<|
 (Bad.take _ _).ar λ_=>Bad.ite (Bad.addNode _)<|(Bad.take _ _).ar λ_=>Bad.ite (Bad.addNode _)<|(Bad.take _ _).ar λ_=>Bad.ite (Bad.addNode _)<|
 (Bad.take _ _).ar λ_=>Bad.ite (vZ hT hS _)<|(Bad.take _ _).ar λ_=>Bad.ite ((l8 (λ_=>hE) _ _).ar λ_=>Bad.addNode _)<|
 (Bad.take _ _).ar λ_=>Bad.ite ((l8 (λ_=>G5 hE _) _ _).ar λ_=>Bad.addNode _)<|(Bad.need _ _).ar λ_=>hE.ar λ_=>(Bad.need _ _).ar λ_=>Bad.ret _
theorem Bk{ad:List Tk}{T E O S:M Nat}(hT:Bad T)(hE:Bad E)(hO:Bad O)(hS:Bad S):Bad (pH ad T E O S):=
 Bad.look λ_=>Bad.ite (Bad.step.ar λ_=>hO.ar λ_=>Bad.addNode _) ((zK hT hE hS).ar λa=>ko hT hE _ a)
theorem CQ{ad:List Tk}{E:M Nat}(hE:Bad E):Bad (di ad E):=by
 have h:∀(a:Nat)(f:Nat→Nd),Bad (ar (gG a) λ_=>ar step λ_=>ar E λv=>ar (need ad [59]) λ_=>addNode (f v)):=λa f=>
  (Bad.gG _).ar λ_=>Bad.step.ar λ_=>hE.ar λv=>(Bad.need _ _).ar λ_=>Bad.addNode _
 exact hE.ar λa=>Bad.look λs=>Bad.ite (Bad.ite (h _ _) (Bad.ite (h _ _) (Bad.ite (h _ _) (Bad.fail _ _)))) ((Bad.need _ _).ar λ_=>Bad.addNode _)
theorem r7{ad:List Tk}{E S:M Nat}(hE:Bad E)(hS:Bad S)(yes:Bool)(pos:Nat):Bad (bH ad E S yes pos):=
 Bad.step.ar λ_=>(Bad.need _ _).ar λ_=>hE.ar λ_=>(Bad.need _ _).ar λ_=>(pf hS).ar λ_=>Bad.ite ((Bad.take _ _).ar λ_=>Bad.ite ((pf hS).ar λ_=>Bad.addNode _) (Bad.addNode _)) (Bad.addNode _)
theorem FB{ad:List Tk}{T E S:M Nat}(hT:Bad T)(hE:Bad E)(hS:Bad S):Bad (dy ad T E S):=
 Bad.look λ_=>(Bad.take _ _).ar λ_=>Bad.ite ((Bad.name _ _).ar λ_=>(oh hT).ar λ_=>(Bad.need _ _).ar λ_=>hE.ar λ_=>(Bad.need _ _).ar λ_=>Bad.addNode _)<|
 (Bad.take _ _).ar λ_=>Bad.ite (hE.ar λ_=>(Bad.need _ _).ar λ_=>Bad.addNode _)<|
 (Bad.take _ _).ar λ_=>Bad.ite (hE.ar λ_=>(Bad.need _ _).ar λ_=>Bad.addNode _)<|
 Bad.look λ_=>Bad.ite (r7 hE hS _ _)<|Bad.ite (r7 hE hS _ _) (CQ hE)
theorem Jv(ad:List Tk):∀r,Bad (lv ad r).E∧Bad (lv ad r).O∧Bad (lv ad r).S
 |0=>⟨Bad.fail _ _,Bad.fail _ _,Bad.fail _ _⟩
 |r+1=>by
  obtain⟨h1,h2,h3⟩:=Jv ad r;have hT:=Eh ad r;exact⟨Gt (Bk hT h1 h2 h3),Bk hT h1 h2 h3,FB hT h1 h3⟩
theorem pY{ad:List Tk}{S:M Nat}(hS:Bad S):∀f l,Bad (fE ad S f l)
 |0,_=>Bad.fail _ _
 |f+1,l=>Bad.look λs=>Bad.ite (Bad.ret _) (hS.ar λn=>pY hS f _)
theorem Fk(ad:List Tk):Bad (oe ad):=(pY (Jv ad 20).2.2 _ _).ar λ_=>Bad.addNode _
theorem lE{s:BA}{f:Ft}(h:parse s=.error f):f.1≠0:=by
 unfold parse at h;split at h
 ·rename_i e he;cases h;have:=Tok.IJ s f.1 f.2 he;omega
 ·split at h
  ·rename_i e he;cases h;exact(Fk _ _ _ he).1
  ·split at h
   ·cases h;simp
   ·cases h
end Ty
end
section
namespace Ty
open Tok (Tk)
def bW{α:Type}(m:M α):Prop:=∀s a s',m s=.ok (a,s')→s.ns<+:s'.ns
def Nx(m:M Nat):Prop:=∀s a s',m s=.ok (a,s')→s.ns<+:s'.ns∧a+1=s'.ns.length∧s.ns.length≤a
theorem Nx.pre{m:M Nat}(h:Nx m):bW m:=λs a s' e=>(h s a s' e).1
theorem bW.ret{α:Type}(a:α):bW (ret a):=λs b s' e=>by cases e;exact List.prefix_rfl
theorem bW.fail{α:Type}(ad:List Tk)(n:Nat):bW (fail (α:=α) ad n):=λs b s' h=>by cases h
theorem Nx.fail(ad:List Tk)(n:Nat):Nx (fail ad n):=λs b s' h=>by cases h
theorem bW.step:bW step:=λs b s' e=>by cases e;exact List.prefix_rfl
theorem bW.need(ad:List Tk)(x:List UInt8):bW (need ad x):=λs b s' e=>by
 unfold Ty.need at e;split at e<;>cases e;exact List.prefix_rfl
theorem bW.take(ad:List Tk)(x:List UInt8):bW (take ad x):=λs b s' e=>by
 unfold Ty.take at e;split at e<;>cases e<;>exact List.prefix_rfl
theorem bW.name(ad:List Tk)(met:List BA):bW (name ad met):=λs b s' e=>by
 unfold Ty.name at e;split at e
 ·cases e
 ·split at e<;>cases e;exact List.prefix_rfl
theorem bW.aZ(t:Ty):bW (aZ t):=λs b s' e=>by cases e;exact List.prefix_rfl
theorem bW.look{α:Type}{k:St→M α}(h:∀s,bW (k s)):bW (Ty.look k):=λs a s' x=>h s s a s' x
theorem Nx.look{k:St→M Nat}(h:∀s,Nx (k s)):Nx (Ty.look k):=λs a s' x=>h s s a s' x
theorem Nx.addNode(n:Nd):Nx (addNode n):=λs b s' e=>by cases e;simp
theorem bW.addNode(n:Nd):bW (addNode n):=(Nx.addNode n).pre
theorem Nx.two(x:BA)(a b:Nat):Nx (two x a b):=Nx.look λ_=>Nx.addNode _
theorem bW.ar{α β:Type}{m:M α}{k:α→M β}(h:bW m)(g:∀a,bW (k a)):bW (Ty.ar m k):=λs b s' x=>by
 obtain⟨a,s1,e1,e2⟩:=au x;exact(h _ _ _ e1).trans (g a _ _ _ e2)
theorem Nx.ar{α:Type}{m:M α}{k:α→M Nat}(h:bW m)(g:∀a,Nx (k a)):Nx (Ty.ar m k):=λs b s' x=>by
 obtain⟨a,s1,e1,e2⟩:=au x;have h1:=h _ _ _ e1;obtain⟨g1,g2,g3⟩:=g a _ _ _ e2;exact⟨h1.trans g1,g2,nT h1.length_le g3⟩
theorem bW.ite{α:Type}{p:Prop} [Decidable p]{m n:M α}(h:bW m)(g:bW n):bW (if p then m else n):=by split<;>assumption
theorem Nx.ite{p:Prop} [Decidable p]{m n:M Nat}(h:Nx m)(g:Nx n):Nx (if p then m else n):=by split<;>assumption
theorem bW.list{α:Type}{ad:List Tk}{x:List UInt8}{m:List α→M α}(hm:∀l,bW (m l)):∀f l,bW (list ad x m f l)
 |0,_=>bW.fail _ _
 |f+1,l=>(bW.take _ _).ar λ_=>bW.ite (bW.ret l) ((bW.ite (bW.ret ()) (bW.need _ _)).ar λ_=>(hm l).ar λn=>bW.list hm f (l++[n]))
theorem bW.fields{ad:List Tk}{T:M Nat}(hT:bW T):∀f l,bW (fields ad T f l)
 |0,_=>bW.fail _ _
 |f+1,l=>(bW.take _ _).ar λ_=>bW.ite (bW.ret l) ((bW.name _ _).ar λs=>(bW.need _ _).ar λ_=>hT.ar λn=>(bW.need _ _).ar λ_=>bW.fields hT f (l++[(s,n)]))
theorem bW.round{ad:List Tk}{T:M Nat}(hT:bW T):bW (round ad T):=
 (bW.list (λ_=>hT) _ _).ar λ_=>(bW.take _ _).ar λ_=>bW.ite (hT.ar λ_=>bW.aZ _) (bW.ite (bW.ret _) (bW.fail _ _))
theorem bW.single{ad:List Tk}{T:M Nat}(hT:bW T):bW (single ad T):=λs a s' h=>by
 unfold Ty.single at h;split at h
 ·exact(bW.step.ar λ_=>bW.aZ _) s a s' h
 ·exact((bW.take _ _).ar λb=>bW.ite ((bW.fields hT _ _).ar λ_=>bW.aZ _) ((bW.take _ _).ar λb=>bW.ite (hT.ar λn=>(bW.need _ _).ar λ_=>bW.aZ _) ((bW.need _ _).ar λ_=>bW.round hT))) s a s' h
theorem bW.bars{ad:List Tk}{S:M Nat}(hS:bW S):∀f l,bW (bars ad S f l)
 |0,_=>bW.fail _ _
 |f+1,l=>(bW.take _ _).ar λ_=>bW.ite (hS.ar λn=>bW.bars hS f (l++[n])) (bW.ret l)
theorem bW.union{ad:List Tk}{S:M Nat}(hS:bW S):bW (union ad S):=hS.ar λ_=>(bW.bars hS _ _).ar λ_=>bW.ite (bW.ret _) (bW.aZ _)
theorem bW.sy(ad:List Tk):∀r,bW (sy ad r)
 |0=>bW.fail _ _
 |r+1=>bW.union (bW.single (bW.sy ad r))
def Nl(n:Nat)(m:M Nat):Prop:=∀s a s',n+1=s.ns.length→m s=.ok (a,s')→s.ns<+:s'.ns∧a+1=s'.ns.length
theorem Nl.ret(n:Nat):Nl n (ret n):=λs a s' h e=>by cases e;exact⟨List.prefix_rfl,h⟩
theorem Nl.nx{n:Nat}{m:M Nat}(h:Nx m):Nl n m:=λs a s' _ e=>⟨(h s a s' e).1,(h s a s' e).2.1⟩
theorem Nx.then{m:M Nat}{k:Nat→M Nat}(h:Nx m)(g:∀a,Nl a (k a)):Nx (Ty.ar m k):=λs b s' x=>by
 obtain⟨a,s1,e1,e2⟩:=au x;obtain⟨h1,h2,h3⟩:=h _ _ _ e1;obtain⟨g1,g2⟩:=g a _ _ _ h2 e2;exact⟨h1.trans g1,g2,by have:=g1.length_le;omega⟩
theorem Nl.look{n:Nat}{k:St→M Nat}(h:∀s,Nl n (k s)):Nl n (Ty.look k):=λs a s' e x=>h s s a s' e x
theorem Nl.ite{n:Nat}{p:Prop} [Decidable p]{m k:M Nat}(h:Nl n m)(g:Nl n k):Nl n (if p then m else k):=by split<;>assumption
theorem Nl.ar{α:Type}{n:Nat}{m:M α}{k:α→M Nat}(h:bW m)(g:∀a,Nx (k a)):Nl n (Ty.ar m k):=Nl.nx (Nx.ar h g)
theorem Nl.take{n:Nat}(ad:List Tk)(x:List UInt8){k:Bool→M Nat}(h:∀b,Nl n (k b)):Nl n (Ty.ar (Ty.take ad x) k):=λs a s' e y=>by
 obtain⟨b,s1,e1,e2⟩:=au y;unfold Ty.take at e1;split at e1<;>cases e1
 ·exact h true {s with pos:=s.pos+1} a s' e e2
 ·exact h false s a s' e e2
theorem sC{ad:List Tk}{one:M Nat}(h:Nx one){bn:List (List UInt8)}:∀f n,Nl n (cV ad one bn f n)
 |0,_=>Nl.nx (Nx.fail _ _)
 |f+1,n=>Nl.look λ_=>Nl.ite (Nl.ar bW.step λ_=>Nx.ar h.pre λ_=>Nx.then (Nx.two _ _ _) λm=>sC h f m) (Nl.ret n)
theorem xL{ad:List Tk}{one:M Nat}(h:Nx one){bn:List (List UInt8)}:Nx (left ad one bn):=Nx.then h λn=>sC h _ n
theorem tB{ad:List Tk}{one:M Nat}(h:Nx one):Nx (qp ad one):=xL (xL h)
theorem JK{ad:List Tk}{one:M Nat}(h:Nx one):Nx (jU ad one):=
 Nx.then (tB h) λn=>Nl.take _ _ λ_=>Nl.ite (Nl.ar (tB h).pre λ_=>Nx.two _ _ _) (Nl.take _ _ λ_=>Nl.ite (Nl.ar (tB h).pre λ_=>Nx.two _ _ _) (Nl.ret n))
theorem mh{ad:List Tk}{T E:M Nat}(hT:bW T)(hE:Nx E):∀f a,Nl a (behind ad T E f a)
 |0,_=>Nl.nx (Nx.fail _ _)
 |f+1,a=>Nl.look λ_=>Nl.take _ _ λ_=>Nl.ite (Nl.ar (bW.list (λ_=>hE.pre) _ _) λ_=>Nx.then (Nx.addNode _) λm=>mh hT hE f m)
   (Nl.take _ _ λ_=>Nl.ite (Nl.ar (bW.name _ _) λ_=>Nx.then (Nx.addNode _) λm=>mh hT hE f m)
   (Nl.take _ _ λ_=>Nl.ite (Nl.ar hE.pre λ_=>Nx.ar (bW.need _ _) λ_=>Nx.then (Nx.addNode _) λm=>mh hT hE f m)
   (Nl.take _ _ λ_=>Nl.ite (Nl.ar hT λ_=>Nx.then (Nx.addNode _) λm=>mh hT hE f m) (Nl.ret a))))
theorem bW.written{ad:List Tk}{T:M Nat}(hT:bW T):bW (written ad T):=(bW.take _ _).ar λ_=>bW.ite (hT.ar λ_=>bW.ret _) (bW.ret _)
theorem bW.ia{ad:List Tk}{E:M Nat}(hE:bW E)(met:List BA):bW (ia ad E met):=
 bW.look λ_=>(bW.name _ _).ar λ_=>(bW.need _ _).ar λ_=>hE.ar λ_=>(bW.addNode _).ar λ_=>bW.ret _
theorem bW.gE{ad:List Tk}{T:M Nat}(hT:bW T)(met:List BA):bW (gE ad T met):=
 bW.look λ_=>(bW.name _ _).ar λ_=>(bW.written hT).ar λ_=>(bW.addNode _).ar λ_=>bW.ret _
theorem bW.stmts{ad:List Tk}{S:M Nat}(hS:bW S):∀f l,bW (stmts ad S f l)
 |0,_=>bW.fail _ _
 |f+1,_=>(bW.take _ _).ar λ_=>bW.ite (bW.ret _) (hS.ar λ_=>bW.stmts hS f _)
theorem rO{ad:List Tk}{S:M Nat}(hS:bW S):Nx (ef ad S):=Nx.look λ_=>Nx.ar (bW.need _ _) λ_=>Nx.ar (bW.stmts hS _ _) λ_=>Nx.addNode _
theorem xY{ad:List Tk}{T S:M Nat}(hT:bW T)(hS:bW S)(pos:Nat):Nx (cF ad T S pos):=
 Nx.ar (bW.need _ _) λ_=>Nx.ar (bW.list (λ_=>bW.gE hT _) _ _) λ_=>Nx.ar (bW.written hT) λ_=>Nx.ar (rO hS).pre λ_=>Nx.addNode _
theorem JX{ad:List Tk}{E:M Nat}(hE:Nx E):Nx (ar (need ad [40]) λ_=>ar E λa=>ar (need ad [41]) λ_=>ret a):=by
 refine Nx.ar (bW.need _ _) λ_=>Nx.then hE λa=>λs n s' h x=>?_
 obtain⟨u,s1,e1,e2⟩:=au x;cases e2;unfold need at e1;split at e1<;>cases e1
 exact⟨List.prefix_rfl,h⟩
theorem u5{ad:List Tk}{T E S:M Nat}(hT:bW T)(hE:Nx E)(hS:bW S):Nx (cM ad T E S):=
 Nx.look λ_=>Nx.ite (Nx.ar bW.step λ_=>Nx.addNode _)<|Nx.ite (Nx.ar bW.step λ_=>Nx.addNode _)<|Nx.ite (Nx.ar bW.step λ_=>Nx.addNode _)<|
 Nx.ar (bW.take _ _) λ_=>Nx.ite (Nx.addNode _)<|Nx.ar (bW.take _ _) λ_=>Nx.ite (Nx.addNode _)<|Nx.ar (bW.take _ _) λ_=>Nx.ite (Nx.addNode _)<|
 Nx.ar (bW.take _ _) λ_=>Nx.ite (xY hT hS _)<|Nx.ar (bW.take _ _) λ_=>Nx.ite (Nx.ar (bW.list (λ_=>hE.pre) _ _) λ_=>Nx.addNode _)<|
 Nx.ar (bW.take _ _) λ_=>Nx.ite (Nx.ar (bW.list (λ_=>bW.ia hE.pre _) _ _) λ_=>Nx.addNode _)<|JX hE
theorem EP{ad:List Tk}{T E O S:M Nat}(hT:bW T)(hE:Nx E)(hO:Nx O)(hS:bW S):Nx (pH ad T E O S):=
 Nx.look λ_=>Nx.ite (Nx.ar bW.step λ_=>Nx.ar hO.pre λ_=>Nx.addNode _) (Nx.then (u5 hT hE hS) λa=>mh hT hE _ a)
theorem GV{ad:List Tk}{E:M Nat}(hE:Nx E):Nx (di ad E):=λs n s' x=>by
 obtain⟨a,s1,e1,e2⟩:=au x;obtain⟨h1,h2,h3⟩:=hE _ _ _ e1;have key:∀(f:Nat→Nd),(ar (gG a) λ_=>ar step λ_=>ar E λv=>ar (need ad [59]) λ_=>addNode (f v)) s1=.ok (n,s')→s.ns<+:s'.ns∧n+1=s'.ns.length∧s.ns.length≤n:=λf y=>by
  have hk:Nx (ar step λ_=>ar E λv=>ar (need ad [59]) λ_=>addNode (f v)):=Nx.ar bW.step λ_=>Nx.ar hE.pre λ_=>Nx.ar (bW.need _ _) λ_=>Nx.addNode _
  obtain⟨g1,g2,g3⟩:=hk {s1 with ns:=s1.ns.take a} n s' y;have hp:s.ns<+:s1.ns.take a:=by
   obtain⟨t,ht⟩:=h1;rw[←ht,List.take_append,List.take_of_length_le h3];exact List.prefix_append _ _
  refine⟨hp.trans g1,g2,nT hp.length_le g3⟩
 unfold look at e2;dsimp only at e2;split at e2
 ·split at e2
  ·exact key _ e2
  ·split at e2
   ·exact key _ e2
   ·split at e2
    ·exact key _ e2
    ·cases e2
 ·obtain⟨g1,g2,g3⟩:=(Nx.ar (bW.need ad [59]) λ_=>Nx.addNode {af 25 (cL s1 a).pos with a:=a}) _ _ _ e2;exact⟨h1.trans g1,g2,nT h1.length_le g3⟩
theorem ug{ad:List Tk}{E S:M Nat}(hE:bW E)(hS:bW S)(yes:Bool)(pos:Nat):Nx (bH ad E S yes pos):=
 Nx.ar bW.step λ_=>Nx.ar (bW.need _ _) λ_=>Nx.ar hE λ_=>Nx.ar (bW.need _ _) λ_=>Nx.ar (rO hS).pre λ_=>Nx.ite (Nx.ar (bW.take _ _) λ_=>Nx.ite (Nx.ar (rO hS).pre λ_=>Nx.addNode _) (Nx.addNode _)) (Nx.addNode _)
theorem Iq{ad:List Tk}{T E S:M Nat}(hT:bW T)(hE:Nx E)(hS:bW S):Nx (dy ad T E S):=
 Nx.look λ_=>Nx.ar (bW.take _ _) λ_=>Nx.ite (Nx.ar (bW.name _ _) λ_=>Nx.ar (bW.written hT) λ_=>Nx.ar (bW.need _ _) λ_=>Nx.ar hE.pre λ_=>Nx.ar (bW.need _ _) λ_=>Nx.addNode _)<|
 Nx.ar (bW.take _ _) λ_=>Nx.ite (Nx.ar hE.pre λ_=>Nx.ar (bW.need _ _) λ_=>Nx.addNode _)<|
 Nx.ar (bW.take _ _) λ_=>Nx.ite (Nx.ar hE.pre λ_=>Nx.ar (bW.need _ _) λ_=>Nx.addNode _)<|
 Nx.look λ_=>Nx.ite (ug hE.pre hS _ _)<|Nx.ite (ug hE.pre hS _ _) (GV hE)
theorem KT(ad:List Tk):∀r,Nx (lv ad r).E∧Nx (lv ad r).O∧Nx (lv ad r).S
 |0=>⟨Nx.fail _ _,Nx.fail _ _,Nx.fail _ _⟩
 |r+1=>by
  obtain⟨h1,h2,h3⟩:=KT ad r;have hT:=bW.sy ad r;exact⟨JK (EP hT h1 h2 h3.pre),EP hT h1 h2 h3.pre,Iq hT h1 h3.pre⟩
end Ty
end
end Go.Proofs.YtdlbhiaceheffabGreatDoor
