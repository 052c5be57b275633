/- Parts of memory, each with blocks of its own: a world bears a list of parts. -/
import Derived.Below
import Derived.OneCell
import Derived.Deep.AppendLies
import Derived.Lib.Hide
import Derived.BigRegion
import Derived.Deep.RegionLaw
import Derived.Deep.RegionLawGrows
import Derived.WalkLawsBesides
import Derived.Deep.RegionHeldLaw
import Derived.Test.YtdlbhiaceheffabGreatDoorE02
set_option linter.all false
set_option maxRecDepth 100000
set_option maxHeartbeats 1000000
namespace Go.Proofs.YtdlbhiaceheffabGreatDoor
open Go Go.RowKit Ty Tok Tryz Proofs.Tryz
namespace Prt
abbrev Hp:=Nat->Option Obj
def le(a b:Hp):Prop:=∀k o,a k=some o->b k=some o
def qL(a b:Hp):Prop:=∀k,a k=none\/b k=none
def uI(a b:Hp):Hp:=λk=>match a k with|some o=>some o|none=>b k
theorem le_refl(a:Hp):le a a:=λ_ _ h=>h
theorem le_trans{a b c:Hp}(h:le a b)(k:le b c):le a c:=λ_ _ e=>k _ _ (h _ _ e)
theorem dJ{a b:Hp}(h:qL a b):qL b a:=λk=>(h k).symm
theorem iy{a b c:Hp}(h:qL a b)(hc:le c b):qL a c:=λk=>by
 rcases h k with h|h
 ·exact .inl h
 ·right;cases e:c k with
  |none=>rfl
  |some o=>rw[hc _ _ e]at h;cases h
theorem od(a b:Hp):le a (uI a b):=λk o h=>by simp[uI,h]
theorem ow{a b:Hp}(h:qL a b):le b (uI a b):=λk o e=>by
 rcases h k with h|h
 ·simp[uI,h,e]
 ·rw[h]at e;cases e
theorem rC{a b h:Hp}(ha:le a h)(hb:le b h):le (uI a b) h:=λk o e=>by
 unfold uI at e;split at e
 ·rename_i x hx;cases e;exact ha _ _ hx
 ·exact hb _ _ e
theorem qz{a b c:Hp}(ha:qL c a)(hb:qL c b):qL c (uI a b):=λk=>by
 rcases ha k with h|h
 ·exact .inl h
 ·rcases hb k with h2|h2
  ·exact .inl h2
  ·right;simp[uI,h,h2]
abbrev As:=Hp->Prop
def av(b:Nat)(o:Obj):As:=λh=>h b=some o
def bX(p:Prop):As:=λ_=>p
def cm{α:Type}(P:α->As):As:=λh=>∃x,P x h
def star(P Q:As):As:=λh=>∃a b,qL a b/\le a h/\le b h/\P a/\Q b
def ah:List As->As
 |[]=>λ_=>True
 |P::L=>star P (ah L)
def hp(w:World):Hp:=λk=>w.heap[k]?
theorem j8{L:List As}{a h:Hp}(hs:ah L a)(hl:le a h):ah L h:=by
 cases L with
 |nil=>trivial
 |cons P L=>
  obtain⟨x,y,h1,h2,h3,h4,h5⟩:=hs;exact⟨x,y,h1,le_trans h2 hl,le_trans h3 hl,h4,h5⟩
theorem eQ{P:As}:∀{L:List As}{i:Nat}{h:Hp},ah L h->L[i]?=some P->∃a b,qL a b/\le a h/\le b h/\P a/\ah (L.eraseIdx i) b:=by
 intro L;induction L with
 |nil=>intro i h _ hi;simp at hi
 |cons Q L ih=>
  intro i h hs hi;obtain⟨x,y,h1,h2,h3,h4,h5⟩:=hs;cases i with
  |zero=>
   simp at hi;subst hi;exact⟨x,y,h1,h2,h3,h4,h5⟩
  |succ i=>
   simp at hi;obtain⟨a,b,g1,g2,g3,g4,g5⟩:=ih h5 hi;have UR:qL x a:=iy h1 g2;have OU:qL x b:=iy h1 g3;refine⟨a,uI x b,qz (dJ UR) g1,le_trans g2 h3,rC h2 (le_trans g3 h3),g4,?_⟩;exact⟨x,b,OU,od _ _,ow OU,h4,g5⟩
theorem ji{P:As}:∀{L:List As}{i:Nat}{h a b:Hp},i<L.length->qL a b->le a h->le b h->P a->ah (L.eraseIdx i) b->ah (L.set i P) h:=by
 intro L;induction L with
 |nil=>intro i h a b hi;simp at hi
 |cons Q L ih=>
  intro i h a b hi h1 h2 h3 h4 h5;cases i with
  |zero=>exact⟨a,b,h1,h2,h3,h4,h5⟩
  |succ i=>
   simp at hi;obtain⟨x,y,g1,g2,g3,g4,g5⟩:=h5;have abN:qL a x:=iy h1 g2;have X3:qL a y:=iy h1 g3;exact⟨x,uI a y,qz (dJ abN) g1,le_trans g2 h3,rC h2 (le_trans g3 h3),g4,ih hi X3 (od _ _) (ow X3) h4 g5⟩
theorem eM:∀{L M:List As}{a b h:Hp},ah L a->ah M b->qL a b->le a h->le b h->ah (L++M) h:=by
 intro L;induction L with
 |nil=>intro M a b h _ hM _ _ hb;exact j8 hM hb
 |cons P L ih=>
  intro M a b h hL hM hd ha hb;obtain⟨x,y,h1,h2,h3,h4,h5⟩:=hL;have Zr:qL y b:=dJ (iy (dJ hd) h3);have OU:qL x b:=dJ (iy (dJ hd) h2);exact⟨x,uI y b,qz h1 OU,le_trans h2 ha,rC (le_trans h3 ha) hb,h4,ih h5 hM Zr (od _ _) (ow Zr)⟩
theorem jz:∀{L M:List As}{h:Hp},ah (L++M) h->∃a b,qL a b/\le a h/\le b h/\ah L a/\ah M b:=by
 intro L;induction L with
 |nil=>intro M h hs;exact⟨λ_=>none,h,λ_=>.inl rfl,λ_ _ e=>(by cases e),le_refl _,trivial,hs⟩
 |cons P L ih=>
  intro M h hs;obtain⟨x,y,h1,h2,h3,h4,h5⟩:=hs;obtain⟨a,b,g1,g2,g3,g4,g5⟩:=ih h5;have UR:qL x a:=iy h1 g2;have OU:qL x b:=iy h1 g3;exact⟨uI x a,b,dJ (qz (dJ OU) (dJ g1)),rC h2 (le_trans g2 h3),le_trans g3 h3,⟨x,a,UR,od _ _,ow UR,h4,g4⟩,g5⟩
structure Sat(w0 w:World)(L:List As):Prop where
 os:w.os=w0.os
 tape:w.tape=w0.tape
 output:w.output=w0.output
 mem:ah L (hp w)
section
variable {w0 w w':World} {L M:List As}
theorem Sat.xp{i:Nat}{P:As}(hi:L[i]?=some P):i<L.length:=(List.getElem?_eq_some_iff.1 hi).1
theorem Sat.Uc(h:Sat w0 w L){i:Nat}{P P':As}(hi:L[i]?=some P)(JZ:w'.os=w.os)(Te:w'.tape=w.tape)(MO:w'.output=w.output)
  (WQ:∀a,P a->le a (hp w)->∃a',P' a'/\le a' (hp w')/\∀k,a k=none->k<w.heap.size->a' k=none/\w'.heap[k]?=w.heap[k]?):Sat w0 w' (L.set i P'):=by
 obtain⟨a,b,h1,h2,h3,h4,h5⟩:=eQ h.mem hi;obtain⟨a',g1,g2,g3⟩:=WQ a h4 h2;have hb:∀k o,b k=some o->a k=none/\k<w.heap.size:=λk o e=>by
  refine⟨?_,(Array.getElem?_eq_some_iff.1 (h3 k o e)).1⟩;rcases h1 k with h1|h1
  ·exact h1
  ·rw[h1]at e;cases e
 refine⟨JZ.trans h.os,Te.trans h.tape,MO.trans h.output,ji (Sat.xp hi) (a:=a') (b:=b) (λk=>?_) g2 (λk o e=>?_) g1 h5⟩
 ·cases e:b k with
  |none=>exact .inr rfl
  |some o=>exact .inl (g3 k (hb k o e).1 (hb k o e).2).1
 ·show w'.heap[k]?=some o;rw[(g3 k (hb k o e).1 (hb k o e).2).2];exact h3 k o e
theorem Sat.new(h:Sat w0 w L)(hb:Below w.heap.size w w'){P:As}(hP:∃a,P a/\le a (hp w')/\∀k,k<w.heap.size->a k=none):Sat w0 w' (L++[P]):=by
 obtain⟨a,h1,h2,h3⟩:=hP;refine⟨hb.os.trans h.os,hb.tape.trans h.tape,hb.output.trans h.output,?_⟩;refine eM (a:=hp w) (b:=a) h.mem ⟨a,λ_=>none,λ_=>.inr rfl,le_refl _,λ_ _ e=>(by cases e),h1,trivial⟩ (λk=>?_) (λk o e=>?_) h2
 ·by_cases hk:k<w.heap.size
  ·exact .inr (h3 k hk)
  ·exact .inl (Array.getElem?_eq_none (by omega))
 ·show w'.heap[k]?=some o;rw[hb.block k (Array.getElem?_eq_some_iff.1 e).1];exact e
theorem Sat.below(h:Sat w0 w L)(hb:Below w.heap.size w w'):Sat w0 w' L:=
 ⟨hb.os.trans h.os,hb.tape.trans h.tape,hb.output.trans h.output,j8 h.mem (λk o e=>by show w'.heap[k]?=some o;rw[hb.block k (Array.getElem?_eq_some_iff.1 e).1];exact e)⟩
theorem Sat.drew(h:Sat w0 w L):Sat w0 w.drew L:=⟨h.os,h.tape,h.output,h.mem⟩
theorem Sat.alloc(h:Sat w0 w L)(o:Obj):Sat w0 (w.alloc o) (L++[av w.heap.size o]):=
 h.new ((bR _ _).alloc (nR _) o) ⟨λk=>if k=w.heap.size then some o else none,by simp[av],λk x e=>(by
  dsimp only at e;split at e
  ·rename_i hk;subst hk;cases e;exact heap_alloc_new w o
  ·cases e),λk hk=>by dsimp only;rw[if_neg (by omega)]⟩
theorem Sat.aj(h:Sat w0 w L)(o:Obj)(b:Nat)(hb:b=w.heap.size:=by simp):Sat w0 (w.alloc o) (L++[av b o]):=hb▸h.alloc o
theorem Sat.aW(h:Sat w0 w L)(o:Obj):Sat w0 (w.alloc o) L:=h.below ((bR _ _).alloc (nR _) o)
theorem Sat.get(h:Sat w0 w L){i:Nat}{P:As}(hi:L[i]?=some P){p:Prop}(WQ:∀a,P a->le a (hp w)->p):p:=by
 obtain⟨a,b,_,h2,_,h4,_⟩:=eQ h.mem hi;exact WQ a h4 h2
theorem Sat.cL(h:Sat w0 w L){i:Nat}{P Q:As}(hi:L[i]?=some P)(Z2:∀a,P a->Q a):Sat w0 w (L.set i Q):=by
 obtain⟨a,b,h1,h2,h3,h4,h5⟩:=eQ h.mem hi;exact⟨h.os,h.tape,h.output,ji (Sat.xp hi) h1 h2 h3 (Z2 a h4) h5⟩
theorem Sat.ex(h:Sat w0 w L){i:Nat}{α:Type}{P:α->As}(hi:L[i]?=some (cm P)):∃x,Sat w0 w (L.set i (P x)):=by
 obtain⟨a,b,h1,h2,h3,⟨x,h4⟩,h5⟩:=eQ h.mem hi;exact⟨x,h.os,h.tape,h.output,ji (Sat.xp hi) h1 h2 h3 h4 h5⟩
theorem Sat.unpack(h:Sat w0 w L){i:Nat}{M:List As}(hi:L[i]?=some (ah M)):Sat w0 w (L.eraseIdx i++M):=by
 obtain⟨a,b,h1,h2,h3,h4,h5⟩:=eQ h.mem hi;exact⟨h.os,h.tape,h.output,eM h5 h4 (dJ h1) h3 h2⟩
theorem Sat.pack(h:Sat w0 w (L++M)):Sat w0 w (L++[ah M]):=by
 obtain⟨a,b,h1,h2,h3,h4,h5⟩:=jz h.mem;exact⟨h.os,h.tape,h.output,eM h4 (b:=b) ⟨b,λ_=>none,λ_=>.inr rfl,le_refl _,λ_ _ e=>(by cases e),h5,trivial⟩ h1 h2 h3⟩
theorem Sat.left(h:Sat w0 w (L++M)):Sat w0 w L:=by
 obtain⟨a,b,h1,h2,h3,h4,h5⟩:=jz h.mem;exact⟨h.os,h.tape,h.output,j8 h4 h2⟩
end
theorem xH:∀{L:List As}{h:Hp},ah L h->∃f:Nat->Hp,(∀(i:Nat)(P:As),L[i]?=some P->P (f i))/\(∀i j,i≠j->qL (f i) (f j))/\∀i,le (f i) h:=by
 intro L;induction L with
 |nil=>intro h _;exact⟨λ_ _=>none,λi P hi=>(by simp at hi),λ_ _ _ _=>.inl rfl,λ_ _ _ e=>(by cases e)⟩
 |cons Q L ih=>
  intro h hs;obtain⟨a,b,h1,h2,h3,h4,h5⟩:=hs;obtain⟨f,g1,g2,g3⟩:=ih h5;refine⟨λi=>match i with|0=>a|i+1=>f i,λi P hi=>?_,λi j Hh=>?_,λi=>?_⟩
  ·cases i with
   |zero=>simp at hi;subst hi;exact h4
   |succ i=>simp at hi;exact g1 i P hi
  ·cases i with
   |zero=>cases j with
    |zero=>exact absurd rfl Hh
    |succ j=>exact iy h1 (g3 j)
   |succ i=>cases j with
    |zero=>exact dJ (iy h1 (g3 i))
    |succ j=>exact g2 i j (by omega)
  ·cases i with
   |zero=>exact h2
   |succ i=>exact le_trans (g3 i) h3
theorem yp:∀{L:List As}{h:Hp}(f:Nat->Hp),(∀(i:Nat)(P:As),L[i]?=some P->P (f i))->(∀i j,i≠j->qL (f i) (f j))->(∀i,le (f i) h)->ah L h:=by
 intro L;induction L with
 |nil=>intros;trivial
 |cons Q L ih=>
  intro h f g1 g2 g3;refine⟨f 0,λk=>match f 0 k with|none=>h k|some _=>none,λk=>?_,g3 0,λk o e=>?_,g1 0 Q rfl,ih (λi=>f (i+1)) (λi P hi=>g1 (i+1) P (by simpa using hi)) (λi j Hh=>g2 _ _ (by omega)) (λi k o e=>?_)⟩
  ·cases hk:f 0 k with
   |none=>exact .inl rfl
   |some o=>exact .inr (by simp[hk])
  ·dsimp only at e;split at e
   ·exact e
   ·cases e
  ·rcases g2 0 (i+1) (by omega) k with hk|hk
   ·show(match f 0 k with|none=>h k|some _=>none)=some o;rw[hk];exact g3 _ _ _ e
   ·rw[hk]at e;cases e
theorem Sat.pick{w0 w:World}{L:List As}(h:Sat w0 w L)(p:List Nat)(hn:p.Nodup:=by decide)(hl:p.all (· <L.length)=true:=by rfl):Sat w0 w (p.map λi=>L.getD i (λ_=>True)):=by
 obtain⟨f,g1,g2,g3⟩:=xH h.mem;refine⟨h.os,h.tape,h.output,yp (λi=>match p[i]? with|some j=>f j|none=>λ_=>none) (λi P hi=>?_) (λi j Hh=>?_) (λi=>?_)⟩
 ·rw[List.getElem?_map]at hi
  cases e:p[i]? with
  |none=>rw[e]at hi;cases hi
  |some j=>
   rw[e]at hi
   have hj:j<L.length:=by simpa using List.all_eq_true.1 hl j (List.mem_of_getElem? e)
   have:L.getD j (λ_=>True)=P:=Option.some.inj hi;refine g1 j P ?_;rw[<-this,List.getD_eq_getElem?_getD,List.getElem?_eq_getElem hj];rfl
 ·cases e1:p[i]? with
  |none=>exact λk=>.inl rfl
  |some a=>cases e2:p[j]? with
   |none=>exact λk=>.inr rfl
   |some b=>
    refine g2 a b λrQ=>Hh ?_
    subst rQ;exact(List.getElem?_inj (List.getElem?_eq_some_iff.1 e1).1 hn).1 (e1.trans e2.symm)
 ·cases e:p[i]? with
  |none=>exact λ_ _ e=>by cases e
  |some j=>exact g3 j
section
variable {w0 w w':World} {L M:List As}
theorem Sat.at(h:Sat w0 w L)(i:Nat){P:As}(hi:L[i]?=some P):Sat w0 w [ah (L.eraseIdx i),P]:=by
 obtain⟨a,b,h1,h2,h3,h4,h5⟩:=eQ h.mem hi;exact⟨h.os,h.tape,h.output,b,a,dJ h1,h3,h2,h5,a,λ_=>none,λ_=>.inr rfl,le_refl _,λ_ _ e=>(by cases e),h4,trivial⟩
theorem Sat.back{i:Nat}(hi:i<L.length){Q:As}{M:List As}(h:Sat w0 w (ah (L.eraseIdx i)::Q::M)):Sat w0 w (L.set i Q++M):=by
 obtain⟨b,r,h1,h2,h3,h5,a,m,g1,g2,g3,g4,g5⟩:=h.mem;have vX:qL a b:=dJ (iy h1 g2);have Un:qL m b:=dJ (iy h1 g3);refine⟨h.os,h.tape,h.output,eM (a:=uI a b) (b:=m) (ji hi vX (od _ _) (ow vX) g4 h5) g5 ?_ (rC (le_trans g2 h3) h2) (le_trans g3 h3)⟩;exact dJ (qz (dJ g1) Un)
theorem Sat.vh{i:Nat}(hi:i<L.length){Q:As}(h:Sat w0 w [ah (L.eraseIdx i),Q]):Sat w0 w (L.set i Q):=by
 have:=Sat.back hi h;rwa [List.append_nil]at this
theorem Sat.store(h:Sat w0 w L)(i:Nat){b:Nat}{cs:Array Value}{T:TypeId}{z:Nat×Nat}(hi:L[i]?=some (av b (.cells cs T z)))(o:Nat)(v:Value):
  Sat w0 (w.setCell ⟨b,o,none⟩ v) (L.set i (av b (.cells (cs.setIfInBounds o v) T z))):=by
 refine h.Uc hi rfl rfl rfl λa ha hl=>⟨λk=>if k=b then some (.cells (cs.setIfInBounds o v) T z)else none,by simp[av],λk x e=>?_,λk hk _=>?_⟩
 ·dsimp only at e;split at e
  ·rename_i hk;subst hk;cases e;have hb:w.heap[k]?=some (.cells cs T z):=hl _ _ ha;show(w.setCell ⟨k,o,none⟩ v).heap[k]?= _;simp[World.setCell,Array.getElem?_modify,hb]
  ·cases e
 ·have bT:k≠b:=by rintro rfl;rw[show a k= _ from ha]at hk;cases hk
  exact⟨by dsimp only;rw[if_neg bT],Below.heap_setCell _ _ _ _ bT⟩
theorem Sat.heap(h:Sat w0 w L)(i:Nat){b:Nat}{o:Obj}(hi:L[i]?=some (av b o)):w.heap[b]?=some o:=h.get hi λ_ ha hl=>hl _ _ ha
theorem Sat.lt(h:Sat w0 w L)(i:Nat){b:Nat}{o:Obj}(hi:L[i]?=some (av b o)):b<w.heap.size:=(Array.getElem?_eq_some_iff.1 (h.heap i hi)).1
theorem Sat.cell(h:Sat w0 w L)(i:Nat){b:Nat}{cs:Array Value}{T:TypeId}{z:Nat×Nat}(hi:L[i]?=some (av b (.cells cs T z)))(o:Nat){v:Value}(ho:cs[o]?=some v):w.cell? ⟨b,o,none⟩=some v:=by
 simp[World.cell?,h.heap i hi,ho]
theorem Sat.free(h:Sat w0 w L)(i:Nat){b:Nat}{cs:Array Value}{T:TypeId}(hi:L[i]?=some (av b (.cells cs T (0,0))))(o:Nat):w.frozen? ⟨b,o,none⟩=false:=by
 simp[World.frozen?,h.heap i hi]
theorem Sat.ne(h:Sat w0 w L)(i j:Nat)(Hh:i≠j){b c:Nat}{o u:Obj}(hi:L[i]?=some (av b o))(hj:L[j]?=some (av c u)):b≠c:=by
 obtain⟨f,g1,g2,g3⟩:=xH h.mem
 rintro rfl
 have e1:f i b=some o:=g1 i _ hi;have e2:f j b=some u:=g1 j _ hj;rcases g2 i j Hh b with e|e
 ·rw[e]at e1;cases e1
 ·rw[e]at e2;cases e2
def row(e:TypeId)(size:Nat)(v:Value)(n:Nat)(xs:List Value):As:=λh=>
 xs.length=n*size/\
 ((v=.slice none 0 0/\n=0)\/
 ∃g cap cur,v=.slice (some ⟨g,0,none⟩) n cap/\h g=some (.cells cur e (0,0))/\n<=cap/\cap<=maxLen/\cur.size=cap*size/\cur.toList.take (n*size)=xs)
theorem Sat.row(h:Sat w0 w L)(i:Nat){e:TypeId}{size:Nat}{v:Value}{n:Nat}{xs:List Value}(hi:L[i]?=some (row e size v n xs)):w.ownsRow 0 e size v n xs:=
 h.get hi λa ha hl=>by
  refine⟨ha.1,?_⟩;rcases ha.2 with h1|⟨g,cap,cur,h1,h2,h3⟩
  ·exact .inl h1
  ·exact .inr ⟨g,cap,cur,h1,Nat.zero_le _,hl _ _ h2,h3⟩
theorem Sat.nil(h:Sat w0 w L)(e:TypeId)(size:Nat):Sat w0 w (L++[Prt.row e size (.slice none 0 0) 0 []]):=
 h.new (bR _ _) ⟨λ_=>none,⟨by simp,.inl ⟨rfl,rfl⟩⟩,λ_ _ e=>(by cases e),λ_ _=>rfl⟩
theorem Sat.iA(h:Sat w0 w L){P:As}(hP:∀a,P a):Sat w0 w (L++[P]):=h.new (bR _ _) ⟨λ_=>none,hP _,λ_ _ e=>(by cases e),λ_ _=>rfl⟩
theorem Sat.newRow(h:Sat w0 w L)(hb:Below w.heap.size w w'){base:Nat}{e:TypeId}{size:Nat}{v:Value}{n:Nat}{xs:List Value}(ho:w'.ownsRow base e size v n xs)(Zq:w.heap.size<=base):Sat w0 w' (L++[Prt.row e size v n xs]):=by
 refine h.new hb ?_;obtain⟨h1,h2⟩:=ho;rcases h2 with⟨rfl,rfl⟩|⟨g,cap,cur,rfl,h3,h4,h5⟩
 ·exact⟨λ_=>none,⟨h1,.inl ⟨rfl,rfl⟩⟩,λ_ _ e=>(by cases e),λ_ _=>rfl⟩
 ·refine⟨λk=>if k=g then some (.cells cur e (0,0))else none,⟨h1,.inr ⟨g,cap,cur,rfl,if_pos rfl,h5⟩⟩,λk x ex=>?_,λk hk=>?_⟩
  ·dsimp only at ex;split at ex
   ·rename_i Wi;subst Wi;cases ex;exact h4
   ·cases ex
  ·dsimp only;rw[if_neg (by omega)]
theorem Sat.grow(h:Sat w0 w L)(i:Nat){e:TypeId}{size:Nat}{v:Value}{n:Nat}{xs:List Value}(hi:L[i]?=some (Prt.row e size v n xs)){base g m cap:Nat}{ys:List Value}
  (hg:w.grownBy w' v.ownBlock) (ho:w'.ownsRow base e size (.slice (some ⟨g,0,none⟩) m cap) m ys) (t_:v.ownBlock=some g\/g=w.heap.size):Sat w0 w' (L.set i (Prt.row e size (.slice (some ⟨g,0,none⟩) m cap) m ys)):=by
 refine h.Uc hi hg.os hg.tape hg.output λa ha hl=>?_
 obtain⟨h1,h2⟩:=ho;rcases h2 with⟨h2,_⟩|⟨g',DK,cur,h2,_,h4,h5,h6,h7,h8⟩
 ·cases h2
 ·cases h2;refine⟨λk=>if k=g then some (.cells cur e (0,0))else none,⟨h1,.inr ⟨g,cap,cur,rfl,if_pos rfl,h5,h6,h7,h8⟩⟩,λk x ex=>?_,λk hk a_=>?_⟩
  ·dsimp only at ex;split at ex
   ·rename_i Wi;subst Wi;cases ex;exact h4
   ·cases ex
  ·have hv:v.ownBlock≠some k:=λev=>by
    rcases ha.2 with⟨rfl,_⟩|⟨g2,sY,aaF,rfl,e2,_⟩
    ·simp[Value.ownBlock]at ev
    ·simp[Value.ownBlock]at ev;subst ev;rw[hk]at e2;cases e2
   refine⟨?_,hg.block k a_ (λev=>hv ev.symm)⟩;dsimp only;rw[if_neg]
   rintro rfl
   rcases t_ with t_|t_
   ·exact hv t_
   ·omega
theorem mx{b:Nat}{cs:Array Value}{e:TypeId}{size n:Nat}{xs:List Value}{a:Hp}(h:av b (.cells cs e (0,0)) a)(hm:n<=maxLen)(hs:cs.size=n*size)(hx:cs.toList=xs):Prt.row e size (.slice (some ⟨b,0,none⟩) n n) n xs a:=
 ⟨by rw[<-hx];simp[hs],.inr ⟨b,n,cs,rfl,h,nR _,hm,hs,by rw[<-hx];exact List.take_of_length_le (by simp[hs])⟩⟩
theorem Sat.kJ{F P A:As}(h:Sat w0 w [ah [F,A],P]):Sat w0 w [F,P,A]:=(h.unpack (i:=0) rfl).pick [1,0,2]
theorem Sat.mW{F P A B:As}(h:Sat w0 w [ah [F,A,B],P]):Sat w0 w [F,P,A,B]:=(h.unpack (i:=0) rfl).pick [1,0,2,3]
theorem Sat.su{F P A B C:As}(h:Sat w0 w [ah [F,A,B,C],P]):Sat w0 w [F,P,A,B,C]:=(h.unpack (i:=0) rfl).pick [1,0,2,3,4]
theorem Sat.Yh{F P A B C D:As}(h:Sat w0 w [ah [F,A,B,C,D],P]):Sat w0 w [F,P,A,B,C,D]:=(h.unpack (i:=0) rfl).pick [1,0,2,3,4,5]
theorem Sat.out{F:As}{M:List As}(h:Sat w0 w [ah (F::M)]):Sat w0 w [F]:=Sat.left (L:=[F]) (M:=M) (h.unpack (i:=0) rfl)
def bG(w:World):As:=λh=>∀k,k<w.heap.size->h k=w.heap[k]?
theorem Sat.fO(w:World):Sat w w [bG w]:=
 ⟨rfl,rfl,rfl,hp w,λ_=>none,λ_=>.inr rfl,le_refl _,λ_ _ e=>(by cases e),λ_ _=>rfl,trivial⟩
theorem Sat.bD{M:List As}(h:Sat w w' (bG w::M)):Below w.heap.size w w':=by
 obtain⟨a,b,_,h2,_,h4,_⟩:=h.mem;have hb:∀k,k<w.heap.size->w'.heap[k]?=w.heap[k]?:=λk hk=>by
  have h5:=h4 k hk;rw[Array.getElem?_eq_getElem hk]at h5⊢
  exact h2 _ _ h5
 refine⟨h.os,h.tape,h.output,Nat.le_of_not_lt λa_=>?_,hb⟩;have h6:=hb (w.heap.size-1) (by omega);rw[Array.getElem?_eq_none (by omega),Array.getElem?_eq_getElem (by omega)]at h6
 cases h6
theorem Sat.join{M:List As}(h:Sat w0 w L)(g:Sat w w' (bG w::M)):Sat w0 w' (L++M):=by
 have hb:=g.bD;obtain⟨a,b,h1,h2,h3,h4,h5⟩:=g.mem;refine⟨hb.os.trans h.os,hb.tape.trans h.tape,hb.output.trans h.output,eM (a:=hp w) (b:=b) h.mem h5 (λk=>?_) (λk o e=>?_) h3⟩
 ·by_cases hk:k<w.heap.size
  ·right;rcases h1 k with h6|h6
   ·have h7:=h4 k hk;rw[h6,Array.getElem?_eq_getElem hk]at h7;cases h7
   ·exact h6
  ·exact .inl (Array.getElem?_eq_none (by omega))
 ·show w'.heap[k]?=some o;rw[hb.block k (Array.getElem?_eq_some_iff.1 e).1];exact e
end
end Prt
section
open Prt (Sat As av bX cm star ah)
def qU(ad:List Tok.Tk):Prop:=ad.length<=1001/\∀t,ad.getLast?=some t->t.kind=6
def UT(v:Value)(l:List Tok.Tk):As:=Prt.row 138 3 v l.length (l.flatMap dN)
def wD(v:Value)(l:List BA):As:=Prt.row 9 1 v l.length (l.map Value.string)
def f_(p:BA×Nat):List Value:=[.string p.1,.int .i64 (p.2:Int)]
def LJ(v:Value)(l:List (BA×Nat)):As:=Prt.row 141 2 v l.length (l.flatMap f_)
def aO(n:Nat):Value:=.int .i64 (n:Int)
def eY(v:Value)(l:List Nat):As:=Prt.row 3 1 v l.length (l.map aO)
structure TyRow where
 t:Ty.Ty
 fv:Value
 lv:Value
def ga(r:TyRow):List Value:=[.int .i64 r.t.kind,r.fv,r.lv,.int .i64 r.t.of]
def pk(r:TyRow):As:=star (LJ r.fv r.t.fields) (eY r.lv r.t.list)
def xV(v:Value)(ts:List Ty.Ty):As:=cm λrows:List TyRow=>
 ah [bX (rows.map TyRow.t=ts),Prt.row 69 4 v ts.length (rows.flatMap ga),ah (rows.map pk)]
structure NdRow where
 t:Nd
 lv:Value
def eD(r:NdRow):List Value:=[.int .i64 r.t.kind,.int .i64 r.t.a,.int .i64 r.t.b,.int .i64 r.t.c,r.lv,.string r.t.text,.int .i64 r.t.n,.int .i64 r.t.ty,.int .i64 r.t.pos]
def vW(v:Value)(ns:List Nd):As:=cm λrows:List NdRow=>
 ah [bX (rows.map NdRow.t=ns),Prt.row 66 9 v ns.length (rows.flatMap eD),ah (rows.map λr=>eY r.lv r.t.list)]
def wP(pb d:Nat)(ad:List Tok.Tk)(st:Ty.St)(p:Value×Value×Value×Int):List As:=
 [bX (qU ad/\st.pos<ad.length/\d<=20/\st.ts.length<=st.pos/\st.ns.length<=st.pos+1),
 av pb (.cells #[p.1,.int .i64 st.pos,.int .i64 d,p.2.1,p.2.2.1,.int .i64 p.2.2.2] 86 (0,0)),UT p.1 ad,vW p.2.1 st.ns,xV p.2.2.1 st.ts]
def aV(pb d:Nat)(ad:List Tok.Tk)(st:Ty.St):As:=cm λp:Value×Value×Value×Int=>ah (wP pb d ad st p)
structure PRd(w:World)(pb d:Nat)(ad:List Tok.Tk)(st:Ty.St):Prop where
 holds:∃(lv nv tv:Value)(main:Int),w.heap[pb]?=some (.cells #[lv,.int .i64 st.pos,.int .i64 d,nv,tv,.int .i64 main] 86 (0,0))/\km w 0 lv ad
 wf:qU ad
 fits:st.pos<ad.length/\d<=20/\st.ts.length<=st.pos/\st.ns.length<=st.pos+1
section
variable {w0 w:World} {L:List As}
theorem Prt.Sat.pure(h:Sat w0 w L)(i:Nat){p:Prop}(hi:L[i]?=some (bX p)):p:=h.get hi λ_ h _=>h
theorem Prt.Sat.oA{Fr:As}{pb d:Nat}{ad:List Tok.Tk}{st:Ty.St}(h:Sat w0 w [Fr,aV pb d ad st]):∃p,Sat w0 w (Fr::wP pb d ad st p):=by
 obtain⟨p,h⟩:=h.ex (i:=1) rfl;exact⟨p,h.unpack (i:=1) rfl⟩
theorem Prt.Sat.mh{Fr:As}{pb d:Nat}{ad:List Tok.Tk}{st:Ty.St}{p:Value×Value×Value×Int}(h:Sat w0 w (Fr::wP pb d ad st p)):Sat w0 w [Fr,aV pb d ad st]:=
 (Prt.Sat.pack (L:=[Fr]) h).cL (i:=1) rfl λ_ h=>⟨p,h⟩
theorem Prt.Sat.look{Fr:As}{pb d:Nat}{ad:List Tok.Tk}{st:Ty.St}(h:Sat w0 w [Fr,aV pb d ad st]):PRd w pb d ad st:=by
 obtain⟨⟨lv,nv,tv,main⟩,h⟩:=h.oA;have hp:=h.pure 1 rfl;exact⟨⟨lv,nv,tv,main,h.heap 2 rfl,h.row 3 rfl⟩,hp.1,hp.2⟩
theorem Prt.Sat.setPos{Fr:As}{pb d:Nat}{ad:List Tok.Tk}{st:Ty.St}(h:Sat w0 w [Fr,aV pb d ad st])(p:Nat)(hp:p<ad.length)(pe:st.pos<=p):Sat w0 (w.setCell ⟨pb,1,none⟩ (.int .i64 p)) [Fr,aV pb d ad {st with pos:=p}]:=by
 obtain⟨x,h⟩:=h.oA;have hq:=h.pure 1 rfl;refine Prt.Sat.mh (p:=x) (((h.store 2 rfl 1 (.int .i64 p)).cL (i:=1) rfl (Q:=bX _) λ_ _=>?_));exact⟨hq.1,hp,hq.2.2.1,by have:=hq.2;dsimp only;omega,by have:=hq.2;dsimp only;omega⟩
theorem Prt.Sat.tA{Fr:As}{pb d:Nat}{ad:List Tok.Tk}{st:Ty.St}(h:Sat w0 w [Fr,aV pb d ad st])(d':Nat)(hd:d'<=20):Sat w0 (w.setCell ⟨pb,2,none⟩ (.int .i64 d')) [Fr,aV pb d' ad st]:=by
 obtain⟨x,h⟩:=h.oA;have hq:=h.pure 1 rfl;refine Prt.Sat.mh (p:=x) (((h.store 2 rfl 2 (.int .i64 d')).cL (i:=1) rfl (Q:=bX _) λ_ _=>?_));exact⟨hq.1,hq.2.1,hd,hq.2.2.2⟩
end
theorem PRd.below{w w':World}{pb d:Nat}{ad:List Tok.Tk}{st:Ty.St}(h:PRd w pb d ad st)(hb:Below w.heap.size w w'):PRd w' pb d ad st:=by
 obtain⟨⟨lv,nv,tv,main,h1,h2⟩,h3,h4⟩:=h;exact⟨⟨lv,nv,tv,main,by rw[hb.block _ (Array.getElem?_eq_some_iff.1 h1).1];exact h1,ay h2 hb⟩,h3,h4⟩
theorem PRd.lt{w:World}{pb d:Nat}{ad:List Tok.Tk}{st:Ty.St}(h:PRd w pb d ad st):pb<w.heap.size:=by
 obtain⟨⟨lv,nv,tv,main,h1,_⟩,_⟩:=h;exact(Array.getElem?_eq_some_iff.1 h1).1
theorem PRd.cells{w:World}{pb d:Nat}{ad:List Tok.Tk}{st:Ty.St}(h:PRd w pb d ad st):
  w.cell? ⟨pb,1,none⟩=some (.int .i64 st.pos)/\w.cell? ⟨pb,2,none⟩=some (.int .i64 d)/\∀o,w.frozen? ⟨pb,o,none⟩=false:=by
 obtain⟨⟨lv,nv,tv,main,h1,_⟩,_⟩:=h;exact⟨by rw[cell_of_block h1];rfl,by rw[cell_of_block h1];rfl,λo=>cP h1 o⟩
theorem CP(ad:List Tok.Tk)(pos:Nat)(h:pos<ad.length):Ty.cur ad pos=ad[pos]:=by
 unfold Ty.cur;rw[List.getElem?_eq_getElem h];rfl
theorem tL{ad:List Tok.Tk}{pos:Nat}(hp:pos<ad.length)(hl:qU ad)(h: (Ty.cur ad pos).kind≠6):pos+1<ad.length:=by
 refine Nat.lt_of_le_of_ne hp λe=>h ?_
 rw[CP ad pos hp];exact hl.2 _ (by rw[List.getLast?_eq_getElem?,List.getElem?_eq_getElem (by omega)];congr 1;simp[<-e])
theorem is_lt{ad:List Tok.Tk}{s:List UInt8}{pos:Nat}(hp:pos<ad.length)(hl:qU ad)(h:Ty.is ad s pos=true):pos+1<ad.length:=by
 refine tL hp hl λe=>?_
 unfold Ty.is at h;rw[e]at h
 simp at h
theorem Nr(a:Prt.Hp):xV (.slice none 0 0) [] a:=
 ⟨[],λ_=>none,λ_=>none,λ_=>.inl rfl,λ_ _ e=>(by cases e),λ_ _ e=>(by cases e),rfl,λ_=>none,λ_=>none,λ_=>.inl rfl,Prt.le_refl _,Prt.le_refl _,⟨rfl,.inl ⟨rfl,rfl⟩⟩,λ_=>none,λ_=>none,λ_=>.inl rfl,Prt.le_refl _,Prt.le_refl _,trivial,trivial⟩
theorem NS(a:Prt.Hp):vW (.slice none 0 0) [] a:=
 ⟨[],λ_=>none,λ_=>none,λ_=>.inl rfl,λ_ _ e=>(by cases e),λ_ _ e=>(by cases e),rfl,λ_=>none,λ_=>none,λ_=>.inl rfl,Prt.le_refl _,Prt.le_refl _,⟨rfl,.inl ⟨rfl,rfl⟩⟩,λ_=>none,λ_=>none,λ_=>.inl rfl,Prt.le_refl _,Prt.le_refl _,trivial,trivial⟩
theorem Prt.Sat.P3{w0 w:World}{Fr:As}{pb:Nat}{ad:List Tok.Tk}{lv:Value}(hT:qU ad/\0<ad.length)(h:Sat w0 w [Fr,UT lv ad,av pb (.cells #[lv,.int .i64 0,.int .i64 0,.slice none 0 0,.slice none 0 0,.int .i64 0] 86 (0,0))]):Sat w0 w [Fr,aV pb 0 ad ⟨0,[],[]⟩]:=by
 have h:=((h.iA NS).iA Nr).iA (P:=bX (qU ad/\0<ad.length/\(0:Nat)<=20/\(0:Nat)<=0/\(0:Nat)<=0+1)) (λ_=>⟨hT.1,hT.2,by omega⟩);exact Prt.Sat.mh (p:=(lv,.slice none 0 0,.slice none 0 0,0)) (h.pick [0,5,2,1,3,4])
def aI(f:Ty.Ft):List PanicEntry:=[{v:=.iface 25 (.agg #[.int .i64 f.1,.int .i64 f.2]),recovered:=false}]
theorem gE(w:World)(pb d:Nat)(ad:List Tok.Tk)(st:Ty.St)(h:PRd w pb d ad st){R:EW}(hR:∀w',Below w.heap.size w w'->R (.returned (cj (Ty.cur ad st.pos))) w'):
  Calls prog 75 #[.pointer (some ⟨pb,0,none⟩)] w R:=by
 have HR:=qh hR;have a_:=h.lt;have hl:=h.wf.1;have h5:=h.fits.1;obtain⟨⟨lv,nv,tv,main,h1,h2⟩,_⟩:=h;have c0:w.cell? ⟨pb,0,none⟩=some lv:=by rw[cell_of_block h1];rfl
 have c1:w.cell? ⟨pb,1,none⟩=some (.int .i64 st.pos):=by rw[cell_of_block h1];rfl
 have bT:ad≠[]:=by rintro rfl;simp at h5
 obtain⟨g,cap,rfl,_,hg,_,_,hc⟩:=h2.at bT;obtain⟨t0,t1,t2⟩:=hc st.pos h5;rw[CP ad st.pos h5]at HR
 clear hR h1 h2 hc bT;generalize ad[st.pos]=t at*
 obtain⟨kd,tx,ps⟩:=t;dsimp only at t0 t1 t2;go_in;go_wp2_with fail
 go_region
 go_wp2_with fail;refine bodyPost_ret ?_ rfl (HR.o _ ?_)
 ·simp[results,results75,go_sem,cj]
 ·repeat' (first|exact bR _ _|apply Below.drew|apply Below.setCell|apply Below.alloc|(simp;done)|(simp;omega)|omega)
theorem nU(w:World)(pb d:Nat)(ad:List Tok.Tk)(st:Ty.St)(h:PRd w pb d ad st)(x:BA){R:EW}
  (hR:∀w',Below w.heap.size w w'->R (.returned (.bool (Ty.is ad x.data.toList st.pos))) w'):
  Calls prog 210 #[.pointer (some ⟨pb,0,none⟩),.string x] w R:=by
 have HR:=qh hR;unfold Ty.is at HR;obtain⟨t,ht⟩:∃t,Ty.cur ad st.pos=t:=⟨_,rfl⟩
 rw[ht]at HR
 have HN:=qh (λw1(hb:Below w.heap.size w w1) R=>@gE w1 pb d ad st (h.below hb) R);rw[ht]at HN
 clear hR h ht;obtain⟨kd,tx,ps⟩:=t;have e1: (tx.toList==x.toList)=decide (tx.data.toList=x.data.toList):=by rw[ByteArray.toList_eq,ByteArray.toList_eq,Bool.eq_iff_iff];simp
 have hk:kd=5\/kd≠5/\kd=2\/kd≠5/\kd≠2:=by omega
 rcases hk with hk|⟨hk,wY⟩|⟨hk,wY⟩
 ·subst hk;have HE:=qh e1;clear e1;go_in;go_wp2_with fail;refine HN.o _ (bR _ _) _ (λw1 cQ=>?_);dsimp only[cj];have HB:=qh cQ;clear cQ;go_wp2_with fail;refine jc (HR.o _ ?_) (congrArg Value.bool ?_)
  ·repeat' (first|exact HB.o|apply Below.drew|apply Below.setCell|apply Below.alloc|(simp;done)|(simp;omega)|exact HB.o.size)
  ·rw[HE.o];simp
 ·subst wY;have HE:=qh e1;clear e1 hk;go_in;go_wp2_with fail;refine HN.o _ (bR _ _) _ (λw1 cQ=>?_);dsimp only[cj];have HB:=qh cQ;clear cQ;go_wp2_with fail;refine jc (HR.o _ ?_) (congrArg Value.bool ?_)
  ·repeat' (first|exact HB.o|apply Below.drew|apply Below.setCell|apply Below.alloc|(simp;done)|(simp;omega)|exact HB.o.size)
  ·rw[HE.o];simp
 ·have k1: ((kd:Int)==5)=false:=by simp;omega
  have k2: ((kd:Int)==2)=false:=by simp;omega
  clear e1;go_in;go_wp2_with fail;refine HN.o _ (bR _ _) _ (λw1 cQ=>?_);dsimp only[cj];have HB:=qh cQ;clear cQ;go_wp2_with fail;refine jc (HR.o _ ?_) (congrArg Value.bool ?_)
  ·repeat' (first|exact HB.o|apply Below.drew|apply Below.setCell|apply Below.alloc|(simp;done)|(simp;omega)|exact HB.o.size)
  ·simp[hk,wY]
theorem jV(a b c:Value)(w:World): (Instr.field 138 (.agg #[a,b,c]) 2).run prog w=.ok c w:=by kernel_rfl
theorem lE(w:World)(pb d:Nat)(ad:List Tok.Tk)(st:Ty.St)(h:PRd w pb d ad st)(e:Nat){R:EW}
  (hR:∀w',Below w.heap.size w w'->R (.panicked (aI (Ty.here ad e st.pos))) w'):
  Calls prog 121 #[.pointer (some ⟨pb,0,none⟩),.int .i64 e] w R:=by
 have HR:=qh hR;unfold Ty.here at HR;obtain⟨t,ht⟩:∃t,Ty.cur ad st.pos=t:=⟨_,rfl⟩
 rw[ht]at HR
 have HN:=qh (λR=>@gE w pb d ad st h R);rw[ht]at HN
 clear hR h ht;obtain⟨kd,tx,ps⟩:=t;go_in;go_wp2_with fail;refine HN.o _ (λw1 cQ=>?_);dsimp only[cj];have HB:=qh cQ;clear cQ;have hf:=jV;go_wp2_with fail;exact⟨rfl,HR.o _ HB.o⟩
section
variable {w0 w:World} {Fr:As} {pb d:Nat} {ad:List Tok.Tk} {st:Ty.St}
theorem cx(H:Sat w0 w [Fr,aV pb d ad st])(x:BA){R:EW}
  (lZ:∀w',Ty.take ad x.data.toList st=.ok (true,{st with pos:=st.pos+1})->Sat w0 w' [Fr,aV pb d ad {st with pos:=st.pos+1}]->R (.returned (.bool true)) w')
  (e_:∀w',Ty.take ad x.data.toList st=.ok (false,st)->Sat w0 w' [Fr,aV pb d ad st]->R (.returned (.bool false)) w'):
  Calls prog 186 #[.pointer (some ⟨pb,0,none⟩),.string x] w R:=by
 have HY:=qh lZ;have wA:=qh e_;have HS:=qh H;have hl:=H.look;have HL:=qh hl;clear lZ e_ H;cases hi:Ty.is ad x.data.toList st.pos
 ·have HI:=qh hi;clear hi hl;go_in;go_wp2_with fail;refine nU w pb d ad st HL.o x (λw1 cQ=>?_);rw[HI.o];have HB:=qh cQ;clear cQ;go_wp2_with fail;exact wA.o _ (by unfold Ty.take;rw[HI.o];rfl) (HS.o.below HB.o)
 ·have a_:=is_lt hl.fits.1 hl.wf hi;have h5:=hl.wf.1;have HI:=qh hi;clear hi hl;go_in;go_wp2_with fail;refine nU w pb d ad st HL.o x (λw1 cQ=>?_);rw[HI.o];obtain⟨c1,_,f0⟩:=(HL.o.below cQ).cells;have HB:=qh cQ;clear cQ;go_wp2_with fail;exact HY.o _ (by unfold Ty.take;rw[HI.o];rfl) ((HS.o.below HB.o).setPos _ a_ (by omega))
theorem cN(H:Sat w0 w [Fr,aV pb d ad st])(x:BA){R:EW}
  (lZ:∀w',Ty.need ad x.data.toList st=.ok ((),{st with pos:=st.pos+1})->Sat w0 w' [Fr,aV pb d ad {st with pos:=st.pos+1}]->R (.returned (.tuple #[])) w')
  (e_:∀f w',Ty.need ad x.data.toList st=.error f->Sat w0 w' [Fr]->R (.panicked (aI f)) w'):
  Calls prog 208 #[.pointer (some ⟨pb,0,none⟩),.string x] w R:=by
 have HY:=qh lZ;have wA:=qh e_;have HS:=qh H;clear lZ e_ H;go_in;go_wp2_with fail;refine cx HS.o x (λw1 hi H1=>?_) (λw1 hi H1=>?_)
 ·have HI:=qh hi;have o':=qh H1;clear hi H1;go_wp2_with fail;go_end0;refine HY.o _ ?_ o'.o;have hi:=HI.o;unfold Ty.take at hi;unfold Ty.need;split at hi
  ·rw[if_pos (by assumption)]
  ·simp at hi
 ·have HI:=qh hi;have o':=qh H1;clear hi H1;go_wp2_with fail;refine lE w1 pb d ad st o'.o.look 1 (λw2 aD=>?_);have HB:=qh (o'.o.below aD);clear aD;go_wp2_with fail;refine⟨rfl,wA.o _ _ ?_ (HB.o.pick [0])⟩;have hi:=HI.o;unfold Ty.take at hi;unfold Ty.need;split at hi
  ·simp at hi
  ·rw[if_neg (by assumption)]
end
theorem Pq: (prog.info? 69).map (λi=>(i.zero,i.size,i.bytes))=some (some (.agg #[.int .i64 0,.slice none 0 0,.slice none 0 0,.int .i64 0]),4,64):=by kernel_rfl
theorem Prt.vG{L:List As}{P:As}{h:Prt.Hp}(hs:ah [ah L,P] h):ah (L++[P]) h:=by
 obtain⟨a,b,h1,h2,h3,h4,h5⟩:=hs;exact Prt.eM h4 h5 h1 h2 h3
section
variable {w0 w:World} {Fr:As} {pb d:Nat} {ad:List Tok.Tk} {st:Ty.St}
def Jb(pb d:Nat)(ad:List Tok.Tk)(st:Ty.St)(p:Value×Value×Value×Int)(n:Nat)(cells:List Value)(rows:List TyRow)(ts:List Ty.Ty):List As:=
 [bX (qU ad/\st.pos<ad.length/\d<=20/\st.ts.length<=st.pos/\st.ns.length<=st.pos+1),
 av pb (.cells #[p.1,.int .i64 st.pos,.int .i64 d,p.2.1,p.2.2.1,.int .i64 p.2.2.2] 86 (0,0)),UT p.1 ad,vW p.2.1 st.ns,
 bX (rows.map TyRow.t=ts),Prt.row 69 4 p.2.2.1 n cells,ah (rows.map pk)]
theorem Prt.Sat.PH{A B:As}(h:Sat w0 w [Fr,aV pb d ad st,A,B]):∃p rows,Sat w0 w (Fr::A::B::Jb pb d ad st p st.ts.length (rows.flatMap ga) rows st.ts):=by
 obtain⟨p,h⟩:=h.ex (i:=1) rfl;obtain⟨rows,h⟩:=(h.unpack (i:=1) rfl).ex (i:=7) rfl;exact⟨p,rows,h.unpack (i:=7) rfl⟩
theorem Prt.Sat.Qd{p:Value×Value×Value×Int}{rows:List TyRow}{t:Ty.Ty}{fv lv:Value}(h:Sat w0 w (Fr::LJ fv t.fields::eY lv t.list::Jb pb d ad st p (st.ts.length+1) (rows.flatMap ga++ga ⟨t,fv,lv⟩) rows st.ts))(hb:st.ts.length+1<=st.pos):
  Sat w0 w [Fr,aV pb d ad {st with ts:=st.ts++[t]}]:=by
 have h:=h.pick [0,3,4,5,6,7,8,9,1,2];have hq:=h.pure 1 rfl;have hr:=h.pure 5 rfl;have h:=Prt.Sat.pack (L:=[Fr,_,_,_,_,_,_,ah (rows.map pk)]) (M:=[LJ fv t.fields,eY lv t.list]) h;have h:=h.cL (i:=8) rfl (Q:=pk (TyRow.mk t fv lv)) (λa ha=>by
  obtain⟨x,y,h1,h2,h3,h4,u,v,_,h6,_,h8,_⟩:=ha;exact⟨x,y,h1,h2,h3,h4,(by
   obtain⟨k1,k2⟩:=h8;refine⟨k1,?_⟩;rcases k2 with k2|⟨g,cap,cur,e1,e2,e3⟩
   ·exact .inl k2
   ·exact .inr ⟨g,cap,cur,e1,h6 _ _ e2,e3⟩)⟩)
 have h:=Prt.Sat.pack (L:=[Fr,_,_,_,_,_,_]) (M:=[ah (rows.map pk),pk (TyRow.mk t fv lv)]) h;have h:=h.cL (i:=7) rfl (Q:=ah ((rows++[TyRow.mk t fv lv]).map pk)) (λa ha=>by rw[List.map_append];exact Prt.vG ha);have h:=h.cL (i:=5) rfl (Q:=bX ((rows++[TyRow.mk t fv lv]).map TyRow.t=st.ts++[t])) (λa _=>by show _= _;rw[List.map_append,hr];rfl);have h:=h.cL (i:=6) rfl (Q:=Prt.row 69 4 p.2.2.1 (st.ts++[t]).length ((rows++[TyRow.mk t fv lv]).flatMap ga)) (λa ha=>by rw[List.flatMap_append,List.length_append];exact ha);have h:=Prt.Sat.pack (L:=[Fr,_,_,_,_]) (M:=[_,_,_]) h;have h:=h.cL (i:=5) rfl (Q:=xV p.2.2.1 (st.ts++[t])) (λa ha=>⟨_,ha⟩);have h:=h.cL (i:=1) rfl (Q:=bX (qU ad/\st.pos<ad.length/\d<=20/\(st.ts++[t]).length<=st.pos/\st.ns.length<=st.pos+1)) (λa _=>⟨hq.1,hq.2.1,hq.2.2.1,by simpa using hb,hq.2.2.2.2⟩);exact Prt.Sat.mh (p:=p) h
theorem jx(t:Ty.Ty)(fv lv:Value)(H:Sat w0 w [Fr,aV pb d ad st,LJ fv t.fields,eY lv t.list])(hb:st.ts.length+1<=st.pos)
  {R:EW} (hR:∀w',Sat w0 w' [Fr,aV pb d ad {st with ts:=st.ts++[t]}]->R (.returned (.int .i64 st.ts.length)) w'):
  Calls prog 187 #[.pointer (some ⟨pb,0,none⟩),.agg #[.int .i64 t.kind,fv,lv,.int .i64 t.of]] w R:=by
 have HR:=qh hR;obtain⟨i0,ti,mM,mL,mK⟩:=info_parts Pq;obtain⟨⟨MD,nv,tv,main⟩,rows,hs⟩:=H.PH;have hs:Sat w0 w (Fr::LJ fv t.fields::eY lv t.list::Jb pb d ad st (MD,nv,tv,main) st.ts.length (rows.flatMap ga) rows st.ts):=hs;have hq:=hs.pure 3 rfl;have hlen:=hq.1.1;have eS:=hq.2.1;have JQ:st.ts.length<=1000:=by omega
 have c4:=hs.cell 4 rfl 4 rfl;have f4:=hs.free 4 rfl 4;have a_:=hs.lt 4 rfl;have hr:=hs.row 8 rfl;obtain⟨a,dm,rfl⟩:=ag hr;obtain⟨fa,fc,rfl⟩:=ag (hs.row 1 rfl);obtain⟨la,lc,rfl⟩:=ag (hs.row 2 rfl);have du:=qh hr;have HS:=qh hs;have HB:=qh hb;clear hR H hs hq hr hb;go_in;go_wp2_with fail;go_region_law(first
  |(go_loud(refine step_append_lies _ (by rfl) _ _ _ (by rfl) 0 69 i0 _ 4 64 underlying29 ti mM mL mK rfl (by omega) (.slice a st.ts.length dm) st.ts.length (rows.flatMap ga) (by rfl) (((du.o.alloc _).alloc _).drew) ⟨w.heap.size+1,0,none⟩ 1 1 [.int .i64 t.kind,.slice fa t.fields.length fc,.slice la t.list.length lc,.int .i64 t.of] (by rfl) (by rfl) (World.news_of_block (cs:=#[.int .i64 t.kind,.slice fa t.fields.length fc,.slice la t.list.length lc,.int .i64 t.of]) (t:=69) (fr:=(0,0)) (d_ (aR _ _ _ (by simp)))) (by simp[Value.oneCell']) (by omega) (by have:=HB.o;unfold maxLen;omega) (by have:=HB.o;omega) (by simp) (w.heap.size+2) (by simp) ?_);intro g cap w1 r_ iI t_ jm;have h1:=Prt.Sat.grow ((HS.o.aW _).aW _).drew 8 rfl iI r_ (by simpa using t_);have d4:=h1.cell 4 rfl 4 rfl;have e4:=h1.free 4 rfl 4;have H1:=qh h1;clear h1))
 all_goals
  clear r_ iI;go_wp2_with fail;exact HR.o _ (Prt.Sat.Qd (p:=(MD,nv,.slice (some ⟨g,0,none⟩) (st.ts.length+1) cap,main)) (rows:=rows) (H1.o.store 4 rfl 4 _) HB.o)
end
theorem zg(w:World)(B:Nat)(v:Value)(l:List BA)(h:w.ownsRow B 9 1 v l.length (l.map Value.string))(hl:l.length<=100000)(x:BA){R:EW}(hR:∀r:Bool,(r=true↔x∈l)->R (.returned (.bool r)) w):
  Calls prog 279 #[v,.string x] w R:=by
 obtain⟨a,cap,rfl⟩:=ag h;by_cases h0:l=[]
 ·subst h0;refine(Tryz.slices_Contains_string_empty a cap x w).mono ?_
  rintro e w' ⟨rfl,rfl⟩
  exact hR false (by simp)
 ·rcases h.2 with⟨_,hn⟩|⟨g,DK,cur,hv,_⟩
  ·exact absurd (List.eq_nil_of_length_eq_zero hn) h0
  ·have hc:=World.ownsRow.cells (g:=g) h (by rw[hv];rfl);cases hv;refine(Tryz.slices_Contains_string g 0 l.length cap l x w (nR _) (by omega) (λj hj=>?_)).mono ?_
   ·have:=hc j (.string (l.getD j ByteArray.empty)) (by simp[hj]);rwa [Addr.add_lit]at this
   ·rintro e w' ⟨rfl,rfl⟩
    refine hR _ ?_;rw[Lib.containsS_iff,List.take_of_length_le (Nat.le_refl _)]
theorem AW{x:BA}{l:List BA}:x.data.toList∈l.map (λt=>t.data.toList)↔x∈l:=by
 constructor
 ·intro h;obtain⟨y,hy,e⟩:=List.mem_map.1 h;have:y=x:=by cases x;cases y;simp only at e;congr;exact Array.toList_inj.1 e
  exact this▸hy
 ·exact λh=>List.mem_map.2 ⟨x,h,rfl⟩
section
variable {w0 w:World} {Fr:As} {pb d:Nat} {ad:List Tok.Tk} {st:Ty.St}
theorem lg(H:Sat w0 w [Fr,aV pb d ad st])(v:Value)(l:List BA)(hv:w.ownsRow 0 9 1 v l.length (l.map Value.string))(hl:l.length<=2000)
  {R:EW}
  (aH:∀x w',Ty.name ad l st=.ok (x,{st with pos:=st.pos+1})->Sat w0 w' [Fr,aV pb d ad {st with pos:=st.pos+1}]->R (.returned (.string x)) w')
  (au:∀f w',Ty.name ad l st=.error f->Sat w0 w' [Fr]->R (.panicked (aI f)) w'):
  Calls prog 206 #[.pointer (some ⟨pb,0,none⟩),v] w R:=by
 have aX:=qh aH;have aB:=qh au;have HS:=qh H;have HV:=qh hv;have bu:=H.look;have HL:=qh bu;have a_:=λh1: (Ty.cur ad st.pos).kind=1=>tL bu.fits.1 bu.wf (by omega)
 have h5:=bu.wf.1;unfold Ty.name at aX aB;have HN:=qh (λR=>@gE w pb d ad st bu R);unfold Ty.here at aB;have HF:=qh (λw1(h:PRd w1 pb d ad st) e R=>@lE w1 pb d ad st h e R);unfold Ty.here at HF;generalize Ty.cur ad st.pos=t at*
 clear aH au H hv bu;obtain⟨kd,tx,ps⟩:=t;dsimp only at aX aB a_ HF;by_cases kI:kd=1
 ·have jm:=a_ kI;have k1: ((kd:Int) !=1)=false:=by simp[kI]
  have Hy:=qh kI;clear a_ kI;go_in;go_wp2_with fail;refine HN.o _ (λw1 cQ=>?_);dsimp only[cj];have N_:=ay HV.o cQ;have o':=qh ((HS.o.below cQ).aW (.cells #[.int .i64 kd,.string tx,.int .i64 ps] 138));have abC:=qh N_;have Oq:=qh (HS.o.below cQ);obtain⟨c1,_,f0⟩:=o'.o.look.cells;have wg:pb<w1.heap.size:=(HL.o.below cQ).lt;clear cQ N_;go_wp2_with fail;refine zg _ 0 v l (abC.o.alloc _) (by omega) tx (λr hr=>?_);have HR:=qh hr;clear hr;cases r
  ·go_wp2_with fail;refine aX.o tx _ (by rw[if_neg (by rw[Hy.o];simp),if_neg];rw[AW];intro hm;have:=HR.o.2 hm;simp at this) ?_;exact(Oq.o.setPos _ jm (by omega)).aW _
  ·go_wp2_with fail;refine HF.o _ o'.o.look 6 _ (λw2 aD=>?_);have c9:=qh aD;clear aD;go_wp2_with fail;exact⟨rfl,aB.o _ _ (by rw[if_neg (by rw[Hy.o];simp),if_pos (AW.2 (HR.o.1 (by trivial)))]) ((o'.o.below c9.o).pick [0])⟩
 ·have k1: ((kd:Int) !=1)=true:=by simp;omega
  have Hy:=qh kI;clear a_ kI;go_in;go_wp2_with fail;refine HN.o _ (λw1 cQ=>?_);dsimp only[cj];have o':=qh ((HS.o.below cQ).aW (.cells #[.int .i64 kd,.string tx,.int .i64 ps] 138));have hz:=cQ.size;clear cQ;go_wp2_with fail;refine HF.o _ o'.o.look 1 _ (λw2 aD=>?_);have c9:=qh aD;clear aD;go_wp2_with fail;exact⟨rfl,aB.o _ _ (by rw[if_pos Hy.o]) ((o'.o.below c9.o).pick [0])⟩
theorem yW(H:Sat w0 w [Fr,aV pb d ad st])(F:FuncId)(c:Value)(hc:∀(args:Array Value)(w:World),(callFunc F args).run prog w=.ok (.enter F args) w)
  (m:Ty.M Nat)
  (vM:d<20->∀w1,Sat w0 w1 [Fr,aV pb (d+1) ad st]->∀R:EW,
   (∀n st2 w2,m st=.ok (n,st2)->Sat w0 w2 [Fr,aV pb (d+1) ad st2]->R (.returned (.int .i64 (n:Nat))) w2)->
   (∀f w2,m st=.error f->Sat w0 w2 [Fr]->R (.panicked (aI f)) w2)->Calls prog F #[c] w1 R)
  {R:EW}
  (aH:∀n st2 w2,d<20->m st=.ok (n,st2)->Sat w0 w2 [Fr,aV pb d ad st2]->R (.returned (.int .i64 (n:Nat))) w2)
  (au:∀f w2,(d<20->m st=.error f)->(d=20->f=Ty.here ad 8 st.pos)->Sat w0 w2 [Fr]->R (.panicked (aI f)) w2):
  Calls prog 130 #[.pointer (some ⟨pb,0,none⟩),.func (.func F) #[] #[c]] w R:=by
 have aX:=qh aH;have aB:=qh au;have BN:=qh vM;have HS:=qh H;have bu:=H.look;have hd:=bu.fits.2.1;obtain⟨_,c2,f0⟩:=bu.cells;have HL:=qh bu;clear aH au vM H bu;by_cases Mi:d=20
 ·have d1: ((d:Int)==20)=true:=by simp[Mi]
  have HD:=qh Mi;clear Mi hd;go_in;go_wp2_with fail;refine lE w pb d ad st HL.o 8 (λw1 cQ=>?_);have HB:=qh cQ;clear cQ;go_wp2_with fail;exact⟨rfl,aB.o _ _ (λh=>by have:=HD.o;omega) (λ_=>rfl) ((HS.o.below HB.o).pick [0])⟩
 ·have d1: ((d:Int)==20)=false:=by simp;omega
  have a_:d<20:=by omega
  clear Mi;go_in;go_wp2_with fail;refine BN.o a_ _ (HS.o.tA (d+1) (by omega)) _ (λn st2 w2 hm h2=>?_) (λf w2 hm h2=>?_)
  ·obtain⟨_,M4,aaY⟩:=h2.look.cells;have H2:=qh h2;have HM:=qh hm;clear h2 hm;go_wp2_with fail;exact aX.o n st2 _ a_ HM.o (H2.o.tA _ (by omega))
  ·have H2:=qh h2;have HM:=qh hm;clear h2 hm;go_wp2_with fail;exact⟨rfl,aB.o f w2 (λ_=>HM.o) (λh=>absurd h (by omega)) H2.o⟩
end
def posOf(pb:Nat)(w:World):Nat:=(intOf ((w.cell? ⟨pb,1,none⟩).getD (.int .i64 0))).toNat
theorem de{w:World}{pb d:Nat}{ad:List Tok.Tk}{st:Ty.St}(h:PRd w pb d ad st):posOf pb w=st.pos:=by
 unfold posOf;rw[h.cells.1];simp[intOf]
theorem Prt.Sat.pZ{w0 w:World}{Fr A:As}{pb d:Nat}{ad:List Tok.Tk}{st:Ty.St}(h:Sat w0 w [Fr,aV pb d ad st,A]):PRd w pb d ad st:=(h.pick [0,1]).look
theorem Prt.Sat.swap{w0 w:World}{A B C:As}(h:Sat w0 w [A,B,C]):Sat w0 w [ah [A,C],B]:=by
 have h1:=Prt.Sat.pack (L:=[B]) (M:=[A,C]) (h.pick [1,0,2]);exact h1.pick [1,0]
theorem Prt.Sat.D5{w0 w:World}{A B C:As}(h:Sat w0 w [ah [A,C],B]):Sat w0 w [A,B,C]:=(h.unpack (i:=0) rfl).pick [1,0,2]
theorem nO{α:Type}(w0 w:World)(Fr:As)(pb d:Nat)(ad:List Tok.Tk)(st:Ty.St)(Acc:List α->As)(H:Sat w0 w [Fr,aV pb d ad st,Acc []])(e:BA)(F:FuncId)(cs:Array Value)
  (hc:∀(args:Array Value)(w:World),(callFunc F args).run prog w=.ok (.enter F args) w)
  (m:List α->Ty.M α) (hM:∀l,bf 1 0 0 (m l))
  (vM:∀l s w1,Sat w0 w1 [Fr,aV pb d ad s,Acc l]->l.length<=s.pos->∀R:EW,
   (∀n s2 w2,m l s=.ok (n,s2)->Sat w0 w2 [Fr,aV pb d ad s2,Acc (l++[n])]->R (.returned (.tuple #[])) w2)->
   (∀f w2,m l s=.error f->Sat w0 w2 [Fr]->R (.panicked (aI f)) w2)->Calls prog F cs w1 R)
  {R:EW}
  (aH:∀l s2 w2,Ty.list ad e.data.toList m (ad.length+1) [] st=.ok (l,s2)->l.length<=s2.pos->Sat w0 w2 [Fr,aV pb d ad s2,Acc l]->R (.returned (.tuple #[])) w2)
  (au:∀f w2,Ty.list ad e.data.toList m (ad.length+1) [] st=.error f->Sat w0 w2 [Fr]->R (.panicked (aI f)) w2):
  Calls prog 313 #[.pointer (some ⟨pb,0,none⟩),.string e,.func (.func F) #[] cs] w R:=by
 have aX:=qh aH;have aB:=qh au;have BN:=qh vM;have HM:=qh hM;have bu:=H.pZ;have HS:=qh H;have eS:=bu.fits.1;have lR:=bu.wf.1;clear aH au vM hM H bu;go_in;go_wp2_with fail;go_loopw [6] (λi wr=>∃(f:Nat)(l:List α)(s:Ty.St),i=.int .i64 l.length/\s.pos<ad.length/\ad.length<s.pos+f/\l.length<=s.pos/\Hq (Sat w0 wr [Fr,aV pb d ad s,Acc l])/\Hq (Ty.list ad e.data.toList m (ad.length+1) [] st=Ty.list ad e.data.toList m f l s))
  (λ_ wr=>ad.length-posOf pb wr)
 case atStart=>exact⟨ad.length+1,[],st,rfl,eS,by omega,by simp,HS.o,rfl⟩
 case round=>
  obtain⟨f,l,s,rfl,qK,QZ,oW,hS,hE⟩:=hrel;obtain⟨f,rfl⟩:∃g,f=g+1:=⟨f-1,by omega⟩
  have mJ:=qh (de hS.out.pZ);go_wp2_with fail;refine cx hS.out.swap e (λw1 hi h1=>?_) (λw1 hi h1=>?_)
  ·have wy:Hq (Ty.list ad e.data.toList m (ad.length+1) [] st=.ok (l,{s with pos:=s.pos+1})):=by
    rw[hE.out,Ty.list,aw hi];rfl
   have o':=qh h1.D5;clear hi h1;go_wp2_with fail;go_end0;exact aX.o l _ w1 wy.o (by show l.length<=s.pos+1;omega) o'.o
  ·have wy:Hq (Ty.list ad e.data.toList m (ad.length+1) [] st=Ty.aq (if l.length=0 then Ty.ret ()else Ty.need ad [44]) (λ_=>Ty.aq (m l) λn=>Ty.list ad e.data.toList m f (l++[n])) s):=by
    rw[hE.out,Ty.list,aw hi];rfl
   have o':=qh h1.D5;clear hi h1 hE hS;by_cases yP:l.length=0
   ·have Vz:=qh yP;obtain rfl:l=[]:=List.eq_nil_of_length_eq_zero yP;have Ua:Hq (Ty.list ad e.data.toList m (ad.length+1) [] st=Ty.aq (m []) (λn=>Ty.list ad e.data.toList m f ([]++[n])) s):=by
     rw[wy.o];rfl
    clear wy yP;go_wp2_with fail;refine BN.o [] s w1 o'.o (by simp) _ (λn s2 w2 hm h2=>?_) (λf' w2 hm h2=>?_)
    ·have nZ:Hq (Ty.list ad e.data.toList m (ad.length+1) [] st=Ty.list ad e.data.toList m f ([]++[n]) s2):=by
      rw[Ua.o,aw hm];rfl
     have Uh:=HM.o _ _ _ _ hm;have kP:=h2.pZ.fits.1;have DQ:=qh (de h2.pZ);have H2:=qh h2;have Yg:s.pos<s2.pos:=by omega
     clear hm Uh h2;go_wp2_with fail;go_roundw
     case rel=>exact⟨f,[]++[n],s2,by simp,kP,by omega,by simp;omega,H2,nZ⟩
     case measure=>rw[mJ.o,DQ.o];omega
    ·have nZ:Hq (Ty.list ad e.data.toList m (ad.length+1) [] st=.error f'):=by
      rw[Ua.o,aP hm];rfl
     have H2:=qh h2;clear hm h2;go_wp2_with fail;exact⟨rfl,aB.o _ _ nZ.o H2.o⟩
   ·have pM:0<l.length:=by omega
    have Vz:=qh yP;clear yP;go_wp2_with fail;refine cN o'.o.swap ⟨#[44]⟩ (λw3 hn h3=>?_) (λx w3 hn h3=>?_)
    ·have sW:Hq (Ty.list ad e.data.toList m (ad.length+1) [] st=Ty.aq (m l) (λn=>Ty.list ad e.data.toList m f (l++[n])) {s with pos:=s.pos+1}):=by
      rw[wy.o,if_neg Vz.o,aw (show Ty.need ad [44] s= _ from hn)];rfl
     have Q0:=qh h3.D5;clear hn h3 wy o';go_wp2_with fail;refine BN.o l _ w3 Q0.o (by show l.length<=s.pos+1;omega) _ (λn s2 w2 hm h2=>?_) (λf' w2 hm h2=>?_)
     ·have nZ:Hq (Ty.list ad e.data.toList m (ad.length+1) [] st=Ty.list ad e.data.toList m f (l++[n]) s2):=by
       rw[sW.o,aw hm];rfl
      have Uh:=HM.o _ _ _ _ hm;have kP:=h2.pZ.fits.1;have DQ:=qh (de h2.pZ);have H2:=qh h2;have Yg:s.pos+1<s2.pos:=by dsimp only at Uh;omega
      clear hm Uh h2;go_wp2_with fail;go_roundw
      case rel=>exact⟨f,l++[n],s2,by simp,kP,by omega,by simp;omega,H2,nZ⟩
      case measure=>rw[mJ.o,DQ.o];omega
     ·have nZ:Hq (Ty.list ad e.data.toList m (ad.length+1) [] st=.error f'):=by
       rw[sW.o,aP hm];rfl
      have H2:=qh h2;clear hm h2;go_wp2_with fail;exact⟨rfl,aB.o _ _ nZ.o H2.o⟩
    ·have sW:Hq (Ty.list ad e.data.toList m (ad.length+1) [] st=.error x):=by
      rw[wy.o,if_neg Vz.o,aP (show Ty.need ad [44] s= _ from hn)];rfl
     have Q0:=qh (h3.pick [0]|>.unpack (i:=0) rfl|>.pick [0]);clear hn h3;go_wp2_with fail;exact⟨rfl,aB.o _ _ sW.o Q0.o⟩
def eh(F:FuncId)(ad:List Tok.Tk)(d:Nat)(m:Ty.M Nat):Prop:=
 ∀(w0 w:World)(Fr:As)(pb:Nat)(st:Ty.St),Sat w0 w [Fr,aV pb d ad st]->∀R:EW,
  (∀n st2 w2,m st=.ok (n,st2)->Sat w0 w2 [Fr,aV pb d ad st2]->R (.returned (.int .i64 (n:Nat))) w2)->
  (∀f w2,m st=.error f->Sat w0 w2 [Fr]->R (.panicked (aI f)) w2)->Calls prog F #[.pointer (some ⟨pb,0,none⟩)] w R
theorem iu: (prog.info? 3).map (λi=>(i.zero,i.size,i.bytes))=some (some (.int .i64 0),1,8):=by kernel_rfl
def pH(pb xb:Nat):As:=av xb (.cells #[.pointer (some ⟨pb,0,none⟩)] 80 (0,0))
def Ki(lb:Nat)(v:Value):As:=av lb (.cells #[v] 39 (0,0))
def Kj(pb lb xb:Nat)(l:List Nat):As:=cm λv:Value=>ah [Ki lb v,eY v l,pH pb xb]
theorem js{v:Value}{l:List Nat}{n:Nat}{a:Prt.Hp}(h:Prt.row 3 1 v (l.length+1) (l.map aO++[.int .i64 (n:Nat)]) a):eY v (l++[n]) a:=by
 unfold eY;rw[List.length_append,List.map_append];exact h
theorem De(w0 w:World)(Fr:As)(pb lb xb d:Nat)(ad:List Tok.Tk)(T:Ty.M Nat)(eV:eh 120 ad d T)(_:bf 1 0 0 T)
  (l:List Nat) (s:Ty.St) (H:Sat w0 w [Fr,aV pb d ad s,Kj pb lb xb l]) (hl:l.length<=s.pos) {R:EW}
  (aH:∀n s2 w2,T s=.ok (n,s2)->Sat w0 w2 [Fr,aV pb d ad s2,Kj pb lb xb (l++[n])]->R (.returned (.tuple #[])) w2)
  (au:∀f w2,T s=.error f->Sat w0 w2 [Fr]->R (.panicked (aI f)) w2):
  Calls prog 314 #[.pointer (some ⟨lb,0,none⟩),.pointer (some ⟨xb,0,none⟩)] w R:=by
 have aX:=qh aH;have aB:=qh au;have bu:=H.pZ;have eS:=bu.fits.1;have lR:=bu.wf.1;obtain⟨v,hs⟩:=H.ex (i:=2) rfl;have hs:Sat w0 w [Fr,aV pb d ad s,Ki lb v,eY v l,pH pb xb]:=hs.unpack (i:=2) rfl;obtain⟨a,dm,rfl⟩:=ag (hs.row 3 rfl);have c1:=hs.cell 2 rfl 0 rfl;have c2:=hs.cell 4 rfl 0 rfl;have HS:=qh (eV w0 w.drew _ pb s (hs.drew.at 1 rfl));obtain⟨i0,ti,mM,mL,mK⟩:=info_parts iu;clear aH au eV H bu hs;go_in;go_wp2_with fail;go_region_law(first|(go_simp;go_at_call 120;refine HS.o _ (λn s2 w2 hm h2=>?_) (λf w2 hm h2=>⟨rfl,aB.o _ _ hm ((h2.unpack (i:=0) rfl).pick [0])⟩);have h3:Sat w0 w2 [Fr,aV pb d ad s2,Ki lb (.slice a l.length dm),eY (.slice a l.length dm) l,pH pb xb]:=(Prt.Sat.vh (L:=[Fr,aV pb d ad s,Ki lb (.slice a l.length dm),eY (.slice a l.length dm) l,pH pb xb]) (i:=1) (by simp) h2);have d1:=h3.cell 2 rfl 0 rfl;have d2:=(h3.aW (.cells #[.int .i64 n] 3)).cell 2 rfl 0 rfl;have H3:=qh h3;clear h2 h3)|(go_loud(refine step_append_lies _ (by rfl) _ _ _ (by rfl) 0 3 i0 _ 1 8 underlying39 ti mM mL mK rfl (by omega) (.slice a l.length dm) l.length (l.map aO) (by rfl) ((H3.o.row 3 rfl).alloc _) ⟨w2.heap.size,0,none⟩ 1 1 [.int .i64 n] (by rfl) (by rfl) (World.news_of_block (cs:=#[.int .i64 n]) (t:=3) (fr:=(0,0)) (aR _ _ _ (by simp))) (by simp[Value.oneCell']) (by omega) (by unfold maxLen;omega) (by omega) (by simp) (w2.heap.size+1) (by simp) ?_);intro g cap w3 eg dR o_ yL;have h4:=Prt.Sat.grow (H3.o.aW _) 3 rfl dR eg (by simpa using o_);have d3:=h4.cell 2 rfl 0 rfl;have f3:=h4.free 2 rfl 0;have H4:=qh h4;clear h4))
 all_goals
  clear eg dR;go_wp2_with fail;go_end0;exact aX.o n s2 _ hm (((H4.o.store 2 rfl 0 _).cL (i:=3) rfl (Q:=eY (.slice (some ⟨g,0,none⟩) (l.length+1) cap) (l++[n])) (λ_ h=>js h)|>Prt.Sat.pack (L:=[Fr,aV pb d ad s2])).cL (i:=2) rfl (λ_ h=>⟨_,h⟩))
end
end Go.Proofs.YtdlbhiaceheffabGreatDoor
