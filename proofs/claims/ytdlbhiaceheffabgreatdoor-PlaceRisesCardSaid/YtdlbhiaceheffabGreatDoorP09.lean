/- Plain: the reference's reader of types: what it comes to in each state; and that it is the parser's. No program in sight. -/
import Derived.BigQuiet
import Derived.Deep.QuietTactic
import Derived.Test.YtdlbhiaceheffabGreatDoorP08
set_option linter.all false
namespace Go.Proofs.YtdlbhiaceheffabGreatDoor
open Go Go.RowKit Ty Tok ak
section
namespace Rd
open Tok (Tk)
open Ty (Ft St Nd cur here is bS M)
structure RS where
 st:St
 f:Option Ft
def zL(ad:List Tk)(e:Nat)(s:RS):RS:=match s.f with|none=>⟨s.st,some (here ad e s.st.pos)⟩|some _=>s
def yH(ad:List Tk)(x:List UInt8)(s:RS):Bool:=s.f.isNone&&is ad x s.st.pos
def next(s:RS):RS:=⟨{s.st with pos:=s.st.pos+1},s.f⟩
def must(ad:List Tk)(x:List UInt8)(s:RS):RS:=if yH ad x s then next s else zL ad 1 s
def ident(ad:List Tk)(met:List BA)(s:RS):BA×RS:=
 if(cur ad s.st.pos).kind≠1 then(⟨#[]⟩,zL ad 1 s)
 else if(cur ad s.st.pos).text.data.toList∈met.map (λt=>t.data.toList)then(⟨#[]⟩,zL ad 6 s)
 else((cur ad s.st.pos).text,next s)
def jF(t:Ty.Ty)(s:RS):Nat×RS:=(s.st.ts.length,⟨{s.st with ts:=s.st.ts++[t]},s.f⟩)
def fields(ad:List Tk)(T:RS→Nat×RS):Nat→List (BA×Nat)→RS→List (BA×Nat)×RS
 |0,l,s=>(l,s)
 |n+1,l,s=>if yH ad [125] s then(l,next s)else if s.f.isSome then(l,s)else
   fields ad T n (l++[((ident ad (l.map Prod.fst) s).1,(T (must ad [58] (ident ad (l.map Prod.fst) s).2)).1)]) (must ad [59] (T (must ad [58] (ident ad (l.map Prod.fst) s).2)).2)
def args(ad:List Tk)(T:RS→Nat×RS):Nat→List Nat→RS→List Nat×RS
 |0,l,s=>(l,s)
 |n+1,l,s=>if yH ad [41] s then(l,next s)else if s.f.isSome then(l,s)else
   args ad T n (l++[(T (if l.length>0 then must ad [44] s else s)).1]) (T (if l.length>0 then must ad [44] s else s)).2
def round(ad:List Tk)(T:RS→Nat×RS)(l:List Nat)(s:RS):Nat×RS:=
 if yH ad [61,62] s then jF ⟨9,[],l,(T (next s)).1⟩ (T (next s)).2
 else if l.length≠1 then(0,zL ad 1 s)else(l.headD 0,s)
def one(ad:List Tk)(T:RS→Nat×RS)(s:RS):Nat×RS:=
 if(cur ad s.st.pos).kind=2∧bS (cur ad s.st.pos).text>0∧s.f=none then jF ⟨bS (cur ad s.st.pos).text,[],[],0⟩ (next s)
 else if yH ad [91] s then jF ⟨8,[],[],(T (next s)).1⟩ (must ad [93] (T (next s)).2)
 else if yH ad [123] s then jF ⟨7,(fields ad T (ad.length+1) [] (next s)).1,[],0⟩ (fields ad T (ad.length+1) [] (next s)).2
 else round ad T (args ad T (ad.length+1) [] (must ad [40] s)).1 (args ad T (ad.length+1) [] (must ad [40] s)).2
def bars(ad:List Tk)(S:RS→Nat×RS):Nat→List Nat→RS→List Nat×RS
 |0,l,s=>(l,s)
 |n+1,l,s=>if yH ad [124] s then bars ad S n (l++[(S (next s)).1]) (S (next s)).2 else(l,s)
def Ok(ad:List Tk)(st:St):Prop:=st.pos<ad.length∧st.ts.length≤st.pos∧st.ns.length≤st.pos+1
def Re(ad:List Tk)(c:Nat)(st:St):Prop:=st.pos<ad.length∧st.ts.length≤ad.length+c∧st.ns.length≤ad.length+1+c
theorem Re.mono{ad:List Tk}{c d:Nat}{st:St}(h:Re ad c st)(hd:c≤d):Re ad d st:=⟨h.1,by have:=h.2;omega,by have:=h.2;omega⟩
def abZ{α:Type}(ad:List Tk)(c:Nat)(m:M α)(g:RS→α×RS):Prop:=
 ∀st,Ok ad st→match m st with
  | .ok (a,R0)=>g ⟨st,none⟩=(a,⟨R0,none⟩)∧Ok ad R0
  | .error f=>∃a R0,g ⟨st,none⟩=(a,⟨R0,some f⟩)∧Re ad c R0
def Idle(g:RS→Nat×RS):Prop:=∀st x,g ⟨st,some x⟩=(0,⟨st,some x⟩)
section
variable {ad:List Tk} (hL:∀t,ad.getLast?=some t→t.kind=6)
include hL
theorem mC{pos:Nat}(hp:pos<ad.length)(h: (cur ad pos).kind≠6):pos+1<ad.length:=by
 refine Nat.lt_of_le_of_ne hp λe=>h ?_
 unfold cur;rw[List.getElem?_eq_getElem hp];exact hL _ (by rw[List.getLast?_eq_getElem?,List.getElem?_eq_getElem (by omega)];congr 1;simp[←e])
theorem is_lt{s:List UInt8}{pos:Nat}(hp:pos<ad.length)(h:is ad s pos=true):pos+1<ad.length:=by
 refine mC hL hp λe=>?_
 unfold is at h;rw[e]at h
 simp at h
theorem Ok.next{x:List UInt8}{st:St}(h:Ok ad st)(hi:is ad x st.pos=true):Ok ad {st with pos:=st.pos+1}:=by
 have:=is_lt hL h.1 hi;unfold Ok at*;dsimp only;omega
variable {c:Nat} {T:M Nat} {g:RS→Nat×RS} (hT:abZ ad c T g) (hA:bg 1 0 0 T) (hI:Idle g)
include hT hA hI
end
end Rd
end
section
namespace Rd
open Tok (Tk)
open Ty (Ft St Nd cur here is bS M)
structure In(ad:List Tk)(k j:Nat)(s:RS):Prop where
 pos:s.st.pos<ad.length
 vU:s.f=none→s.st.ts.length+j≤s.st.pos∧s.st.ns.length+j≤s.st.pos+1
 ts:s.st.ts.length≤ad.length+k
 ns:s.st.ns.length≤ad.length+1+k
theorem In.mono{ad:List Tk}{k j k' j':Nat}{s:RS}(h:In ad k j s)(hk:k≤k':=by omega)(hj:j'≤j:=by omega):In ad k' j' s:=
 ⟨h.pos,λe=>by have:=h.vU e;omega,by have:=h.ts;omega,by have:=h.ns;omega⟩
theorem In.next{ad:List Tk}{k j:Nat}{s:RS}(h:In ad k j s)(hp:s.st.pos+1<ad.length):In ad k (j+1) (next s):=
 ⟨hp,λe=>by have:=h.vU e;simp only[Rd.next];omega,h.ts,h.ns⟩
theorem In.jF{ad:List Tk}{k j:Nat}{s:RS}(h:In ad k (j+1) s)(t:Ty.Ty):In ad (k+1) j (jF t s).2:=
 ⟨h.pos,λe=>by have:=h.vU e;simp[Rd.jF];omega,by have:=h.ts;simp[Rd.jF];omega,by have:=h.ns;simp[Rd.jF];omega⟩
theorem In.ok{ad:List Tk}{k j:Nat}{st:St}(h:In ad k j ⟨st,none⟩):Ok ad st:=⟨h.pos,by have:=h.vU rfl;dsimp only at this;omega,by have:=h.vU rfl;dsimp only at this;omega⟩
end Rd
end
def Mg(f:Option Ty.Ft):Ty.Ft:=f.getD (0,0)
structure RRd(w:World)(pb d:Nat)(ad:List Tok.Tk)(s:Rd.RS):Prop where
 holds:∃(lv nv tv:Value)(main:Int),w.heap[pb]?=some (.cells #[lv,.int .i64 s.st.pos,.int .i64 d,nv,tv,.int .i64 main,.int .i64 (Mg s.f).1,.int .i64 (Mg s.f).2] 152 (0,0))∧jL w 0 lv ad
 wf:pQ ad
 fits:s.st.pos<ad.length∧d≤21∧∀x,s.f=some x→x.1≠0
section
variable {w0 w:World} {L:List As} {Fr:As} {pb d:Nat} {ad:List Tok.Tk} {s:Rd.RS}
end
theorem RRd.below{w w':World}{pb d:Nat}{ad:List Tok.Tk}{s:Rd.RS}(h:RRd w pb d ad s)(hb:Below w.heap.size w w'):RRd w' pb d ad s:=by
 obtain⟨⟨lv,nv,tv,main,h1,h2⟩,h3,h4⟩:=h;exact⟨⟨lv,nv,tv,main,by rw[hb.block _ (Array.getElem?_eq_some_iff.1 h1).1];exact h1,az h2 hb⟩,h3,h4⟩
theorem RRd.lt{w:World}{pb d:Nat}{ad:List Tok.Tk}{s:Rd.RS}(h:RRd w pb d ad s):pb<w.heap.size:=by
 obtain⟨⟨lv,nv,tv,main,h1,_⟩,_⟩:=h;exact(Array.getElem?_eq_some_iff.1 h1).1
theorem RRd.cells{w:World}{pb d:Nat}{ad:List Tok.Tk}{s:Rd.RS}(h:RRd w pb d ad s):
  (∀o,w.frozen? ⟨pb,o,none⟩=false)∧w.cell? ⟨pb,1,none⟩=some (.int .i64 s.st.pos)∧w.cell? ⟨pb,2,none⟩=some (.int .i64 d)∧w.cell? ⟨pb,6,none⟩=some (.int .i64 (Mg s.f).1)∧w.cell? ⟨pb,7,none⟩=some (.int .i64 (Mg s.f).2)∧
  ∃g cap:Nat,w.cell? ⟨pb,0,none⟩=some (.slice (some ⟨g,0,none⟩) ad.length cap)∧g<w.heap.size∧w.cell? ⟨g,s.st.pos*3,none⟩=some (.int .i64 (Ty.cur ad s.st.pos).kind)∧w.cell? ⟨g,s.st.pos*3+1,none⟩=some (.string (Ty.cur ad s.st.pos).text)∧w.cell? ⟨g,s.st.pos*3+2,none⟩=some (.int .i64 (Ty.cur ad s.st.pos).pos):=by
 obtain⟨⟨lv,nv,tv,main,h1,h2⟩,h3,h4⟩:=h;have bZ:ad≠[]:=by rintro rfl;have:=h4.1;simp at this
 obtain⟨g,cap,rfl,_,hg,_,_,hc⟩:=h2.at bZ;obtain⟨t0,t1,t2⟩:=hc s.st.pos h4.1;rw[yO ad _ h4.1];refine⟨λo=>cC h1 o,by rw[cell_of_block h1];rfl,by rw[cell_of_block h1];rfl,by rw[cell_of_block h1];rfl,by rw[cell_of_block h1];rfl,g,cap,by rw[cell_of_block h1];rfl,hg,t0,t1,t2⟩
section
namespace Rd
open Tok (Tk)
open Ty (Ft St Nd cur here is M cL)
def Gd(ad:List Tk)(j:Nat)(st:St):Prop:=st.pos<ad.length∧st.ts.length+j≤st.pos∧st.ns.length+j≤st.pos+1
def At{γ:Type}(ad:List Tk)(c j:Nat)(whole:Except Ft (γ×St))(m:M γ)(s:RS):Prop:=
 (s.f=none∧Gd ad j s.st∧whole=m s.st)∨∃f,s.f=some f∧Re ad c s.st∧whole=.error f
def addN(n:Nd)(s:RS):RS:=⟨{s.st with ns:=s.st.ns++[n]},s.f⟩
section
variable {γ:Type} {ad:List Tk} {c j:Nat} {whole:Except Ft (γ×St)} {m:M γ} {s:RS}
theorem At.mono(h:At ad c j whole m s){c' j':Nat}(hc:c≤c':=by omega)(hj:j'≤j:=by omega):At ad c' j' whole m s:=by
 rcases h with⟨h1,⟨h2,h3,h4⟩,h5⟩|⟨f,h1,h2,h3⟩
 ·exact .inl ⟨h1,⟨h2,by omega,by omega⟩,h5⟩
 ·exact .inr ⟨f,h1,h2.mono hc,h3⟩
theorem At.vU(h:At ad c j whole m s)(hf:s.f=none)(c':Nat):At ad c' j whole m s:=by
 rcases h with h|⟨f,h1,_⟩
 ·exact .inl h
 ·rw[hf]at h1;cases h1
theorem At.pos(h:At ad c j whole m s):s.st.pos<ad.length:=by
 rcases h with⟨_,h,_⟩|⟨_,_,h,_⟩
 ·exact h.1
 ·exact h.1
theorem At.ns(h:At ad c j whole m s):s.st.ns.length≤ad.length+1+c:=by
 rcases h with⟨_,h,_⟩|⟨_,_,h,_⟩
 ·have:=h.1;have:=h.2.2;omega
 ·exact h.2.2
theorem At.ts(h:At ad c j whole m s):s.st.ts.length≤ad.length+c:=by
 rcases h with⟨_,h,_⟩|⟨_,_,h,_⟩
 ·have:=h.1;have:=h.2.1;omega
 ·exact h.2.1
theorem At.look{k:St→M γ}(h:At ad c j whole (Ty.look k) s):At ad c j whole (k s.st) s:=h
theorem At.fail{α:Type}{e:Nat}{k:α→M γ}(h:At ad c j whole (Ty.ar (Ty.fail ad e) k) s)(m':M γ)(j':Nat):At ad c j' whole m' (zL ad e s):=by
 rcases h with⟨h1,h2,h3⟩|⟨f,h1,h2,h3⟩
 ·obtain⟨st,f⟩:=s;cases h1;exact .inr ⟨here ad e st.pos,rfl,⟨h2.1,by have:=h2.1;have:=h2.2.1;show st.ts.length≤_;dsimp only at*;omega,by have:=h2.1;have:=h2.2.2;show st.ns.length≤_;dsimp only at*;omega⟩,h3⟩
 ·obtain⟨st,f'⟩:=s;cases h1;exact .inr ⟨f,rfl,h2,h3⟩
theorem At.ret{b:γ}(h:At ad c j whole (Ty.ret b) s): (s.f=none∧Gd ad j s.st∧whole=.ok (b,s.st))∨∃f,s.f=some f∧Re ad c s.st∧whole=.error f:=h
theorem At.addN{n:Nd}{k:Nat→M γ}(h:At ad c (j+1) whole (Ty.ar (Ty.addNode n) k) s):At ad (c+1) j whole (k s.st.ns.length) (Rd.addN n s):=by
 rcases h with⟨h1,⟨h2,h3,h4⟩,h5⟩|⟨f,h1,⟨h2,h3,h4⟩,h5⟩
 ·exact .inl ⟨h1,⟨h2,by show s.st.ts.length+j≤s.st.pos;omega,by show(s.st.ns++[n]).length+j≤s.st.pos+1;simp;omega⟩,h5⟩
 ·exact .inr ⟨f,h1,⟨h2,by show s.st.ts.length≤_;omega,by show(s.st.ns++[n]).length≤_;simp;omega⟩,h5⟩
variable (hL:∀t,ad.getLast?=some t→t.kind=6)
include hL
theorem At.step{k:Unit→M γ}(h:At ad c j whole (Ty.ar Ty.step k) s)(hf:s.f=none)(hk: (cur ad s.st.pos).kind≠6):At ad c (j+1) whole (k ()) (next s):=by
 rcases h with⟨h1,⟨h2,h3,h4⟩,h5⟩|⟨f,h1,_⟩
 ·have:=mC hL h2 hk;exact .inl ⟨h1,⟨this,by show s.st.ts.length+(j+1)≤s.st.pos+1;omega,by show s.st.ns.length+(j+1)≤s.st.pos+1+1;omega⟩,h5⟩
 ·rw[hf]at h1;cases h1
omit hL in
theorem At.no{x:List UInt8}{k:Bool→M γ}(h:At ad c j whole (Ty.ar (Ty.take ad x) k) s)(hp:yH ad x s=false):At ad c j whole (k false) s:=by
 rcases h with⟨h1,h2,h5⟩|h
 ·refine .inl ⟨h1,h2,?_⟩;have hi:¬is ad x s.st.pos=true:=by unfold yH at hp;rw[h1]at hp;simpa using hp
  rw[h5,aw (show Ty.take ad x s.st=.ok (false,s.st)by unfold Ty.take;rw[if_neg hi])]
 ·exact .inr h
end
end Rd
end
end Go.Proofs.YtdlbhiaceheffabGreatDoor
