/- Parts of memory, each with blocks of its own: a world bears a list of parts. -/
import Derived.Below
import Derived.OneCell
import Derived.Deep.AppendLies
import Derived.Lib.Hide
import Derived.BigRegion
import Derived.Deep.RegionLaw
import Derived.Deep.RegionLawGrows
import Derived.WalkLawsBesides
import Derived.Deep.RegionHeldLaw
import Derived.Outline
import Derived.Test.YtdlbhiaceheffabGreatDoorC03
set_option linter.all false
set_option maxRecDepth 100000
set_option maxHeartbeats 2000000
namespace Go.Proofs.YtdlbhiaceheffabGreatDoor
open Go Go.RowKit Ty Tok Tryz Proofs.Tryz
namespace Prt
abbrev Hp:=Nat->Option Obj
def le(a b:Hp):Prop:=∀k o,a k=some o->b k=some o
def sD(a b:Hp):Prop:=∀k,a k=none\/b k=none
def xN(a b:Hp):Hp:=λk=>match a k with|some o=>some o|none=>b k
theorem le_refl(a:Hp):le a a:=λ_ _ h=>h
theorem le_trans{a b c:Hp}(h:le a b)(k:le b c):le a c:=λ_ _ e=>k _ _ (h _ _ e)
theorem dM{a b:Hp}(h:sD a b):sD b a:=λk=>(h k).symm
theorem jb{a b c:Hp}(h:sD a b)(hc:le c b):sD a c:=λk=>by
 rcases h k with h|h
 ·exact .inl h
 ·right;cases e:c k with
  |none=>rfl
  |some o=>rw[hc _ _ e]at h;cases h
theorem pT(a b:Hp):le a (xN a b):=λk o h=>by simp[xN,h]
theorem pN{a b:Hp}(h:sD a b):le b (xN a b):=λk o e=>by
 rcases h k with h|h
 ·simp[xN,h,e]
 ·rw[h]at e;cases e
theorem sM{a b h:Hp}(ha:le a h)(hb:le b h):le (xN a b) h:=λk o e=>by
 unfold xN at e;split at e
 ·rename_i x hx;cases e;exact ha _ _ hx
 ·exact hb _ _ e
theorem rY{a b c:Hp}(ha:sD c a)(hb:sD c b):sD c (xN a b):=λk=>by
 rcases ha k with h|h
 ·exact .inl h
 ·rcases hb k with h2|h2
  ·exact .inl h2
  ·right;simp[xN,h,h2]
abbrev As:=Hp->Prop
def ax(b:Nat)(o:Obj):As:=λh=>h b=some o
def bU(p:Prop):As:=λ_=>p
def cn{α:Type}(P:α->As):As:=λh=>∃x,P x h
def star(P Q:As):As:=λh=>∃a b,sD a b/\le a h/\le b h/\P a/\Q b
def aq:List As->As
 |[]=>λ_=>True
 |P::L=>star P (aq L)
def hp(w:World):Hp:=λk=>w.heap[k]?
theorem kB{L:List As}{a h:Hp}(hs:aq L a)(hl:le a h):aq L h:=by
 cases L with
 |nil=>trivial
 |cons P L=>
  obtain⟨x,y,h1,h2,h3,h4,h5⟩:=hs;exact⟨x,y,h1,le_trans h2 hl,le_trans h3 hl,h4,h5⟩
theorem gd{P:As}:∀{L:List As}{i:Nat}{h:Hp},aq L h->L[i]?=some P->∃a b,sD a b/\le a h/\le b h/\P a/\aq (L.eraseIdx i) b:=by
 intro L;induction L with
 |nil=>intro i h _ hi;simp at hi
 |cons Q L ih=>
  intro i h hs hi;obtain⟨x,y,h1,h2,h3,h4,h5⟩:=hs;cases i with
  |zero=>
   simp at hi;subst hi;exact⟨x,y,h1,h2,h3,h4,h5⟩
  |succ i=>
   simp at hi;obtain⟨a,b,g1,g2,g3,g4,g5⟩:=ih h5 hi;have YQ:sD x a:=jb h1 g2;have U7:sD x b:=jb h1 g3;refine⟨a,xN x b,rY (dM YQ) g1,le_trans g2 h3,sM h2 (le_trans g3 h3),g4,?_⟩;exact⟨x,b,U7,pT _ _,pN U7,h4,g5⟩
theorem jy{P:As}:∀{L:List As}{i:Nat}{h a b:Hp},i<L.length->sD a b->le a h->le b h->P a->aq (L.eraseIdx i) b->aq (L.set i P) h:=by
 intro L;induction L with
 |nil=>intro i h a b hi;simp at hi
 |cons Q L ih=>
  intro i h a b hi h1 h2 h3 h4 h5;cases i with
  |zero=>exact⟨a,b,h1,h2,h3,h4,h5⟩
  |succ i=>
   simp at hi;obtain⟨x,y,g1,g2,g3,g4,g5⟩:=h5;have af4:sD a x:=jb h1 g2;have acs:sD a y:=jb h1 g3;exact⟨x,xN a y,rY (dM af4) g1,le_trans g2 h3,sM h2 (le_trans g3 h3),g4,ih hi acs (pT _ _) (pN acs) h4 g5⟩
theorem eH:∀{L M:List As}{a b h:Hp},aq L a->aq M b->sD a b->le a h->le b h->aq (L++M) h:=by
 intro L;induction L with
 |nil=>intro M a b h _ hM _ _ hb;exact kB hM hb
 |cons P L ih=>
  intro M a b h hL hM hd ha hb;obtain⟨x,y,h1,h2,h3,h4,h5⟩:=hL;have adG:sD y b:=dM (jb (dM hd) h3);have U7:sD x b:=dM (jb (dM hd) h2);exact⟨x,xN y b,rY h1 U7,le_trans h2 ha,sM (le_trans h3 ha) hb,h4,ih h5 hM adG (pT _ _) (pN adG)⟩
theorem jQ:∀{L M:List As}{h:Hp},aq (L++M) h->∃a b,sD a b/\le a h/\le b h/\aq L a/\aq M b:=by
 intro L;induction L with
 |nil=>intro M h hs;exact⟨λ_=>none,h,λ_=>.inl rfl,λ_ _ e=>(by cases e),le_refl _,trivial,hs⟩
 |cons P L ih=>
  intro M h hs;obtain⟨x,y,h1,h2,h3,h4,h5⟩:=hs;obtain⟨a,b,g1,g2,g3,g4,g5⟩:=ih h5;have YQ:sD x a:=jb h1 g2;have U7:sD x b:=jb h1 g3;exact⟨xN x a,b,dM (rY (dM U7) (dM g1)),sM h2 (le_trans g2 h3),le_trans g3 h3,⟨x,a,YQ,pT _ _,pN YQ,h4,g4⟩,g5⟩
structure Sat(w0 w:World)(L:List As):Prop where
 os:w.os=w0.os
 tape:w.tape=w0.tape
 output:w.output=w0.output
 mem:aq L (hp w)
section
variable {w0 w w':World} {L M:List As}
theorem Sat.BK{i:Nat}{P:As}(hi:L[i]?=some P):i<L.length:=(List.getElem?_eq_some_iff.1 hi).1
theorem Sat.UM(h:Sat w0 w L){i:Nat}{P P':As}(hi:L[i]?=some P)(AG:w'.os=w.os)(XD:w'.tape=w.tape)(QE:w'.output=w.output)
  (Z':∀a,P a->le a (hp w)->∃a',P' a'/\le a' (hp w')/\∀k,a k=none->k<w.heap.size->a' k=none/\w'.heap[k]?=w.heap[k]?):Sat w0 w' (L.set i P'):=by
 obtain⟨a,b,h1,h2,h3,h4,h5⟩:=gd h.mem hi;obtain⟨a',g1,g2,g3⟩:=Z' a h4 h2;have hb:∀k o,b k=some o->a k=none/\k<w.heap.size:=λk o e=>by
  refine⟨?_,(Array.getElem?_eq_some_iff.1 (h3 k o e)).1⟩;rcases h1 k with h1|h1
  ·exact h1
  ·rw[h1]at e;cases e
 refine⟨AG.trans h.os,XD.trans h.tape,QE.trans h.output,jy (Sat.BK hi) (a:=a') (b:=b) (λk=>?_) g2 (λk o e=>?_) g1 h5⟩
 ·cases e:b k with
  |none=>exact .inr rfl
  |some o=>exact .inl (g3 k (hb k o e).1 (hb k o e).2).1
 ·show w'.heap[k]?=some o;rw[(g3 k (hb k o e).1 (hb k o e).2).2];exact h3 k o e
theorem Sat.new(h:Sat w0 w L)(hb:Below w.heap.size w w'){P:As}(hP:∃a,P a/\le a (hp w')/\∀k,k<w.heap.size->a k=none):Sat w0 w' (L++[P]):=by
 obtain⟨a,h1,h2,h3⟩:=hP;refine⟨hb.os.trans h.os,hb.tape.trans h.tape,hb.output.trans h.output,?_⟩;refine eH (a:=hp w) (b:=a) h.mem ⟨a,λ_=>none,λ_=>.inr rfl,le_refl _,λ_ _ e=>(by cases e),h1,trivial⟩ (λk=>?_) (λk o e=>?_) h2
 ·by_cases hk:k<w.heap.size
  ·exact .inr (h3 k hk)
  ·exact .inl (Array.getElem?_eq_none (by omega))
 ·show w'.heap[k]?=some o;rw[hb.block k (Array.getElem?_eq_some_iff.1 e).1];exact e
theorem Sat.below(h:Sat w0 w L)(hb:Below w.heap.size w w'):Sat w0 w' L:=
 ⟨hb.os.trans h.os,hb.tape.trans h.tape,hb.output.trans h.output,kB h.mem (λk o e=>by show w'.heap[k]?=some o;rw[hb.block k (Array.getElem?_eq_some_iff.1 e).1];exact e)⟩
theorem Sat.drew(h:Sat w0 w L):Sat w0 w.drew L:=⟨h.os,h.tape,h.output,h.mem⟩
theorem Sat.alloc(h:Sat w0 w L)(o:Obj):Sat w0 (w.alloc o) (L++[ax w.heap.size o]):=
 h.new ((bR _ _).alloc (nR _) o) ⟨λk=>if k=w.heap.size then some o else none,by simp[ax],λk x e=>(by
  dsimp only at e;split at e
  ·rename_i hk;subst hk;cases e;exact heap_alloc_new w o
  ·cases e),λk hk=>by dsimp only;rw[if_neg (by omega)]⟩
theorem Sat.ar(h:Sat w0 w L)(o:Obj)(b:Nat)(hb:b=w.heap.size:=by simp):Sat w0 (w.alloc o) (L++[ax b o]):=hb▸h.alloc o
theorem Sat.aU(h:Sat w0 w L)(o:Obj):Sat w0 (w.alloc o) L:=h.below ((bR _ _).alloc (nR _) o)
theorem Sat.get(h:Sat w0 w L){i:Nat}{P:As}(hi:L[i]?=some P){p:Prop}(Z':∀a,P a->le a (hp w)->p):p:=by
 obtain⟨a,b,_,h2,_,h4,_⟩:=gd h.mem hi;exact Z' a h4 h2
theorem Sat.cQ(h:Sat w0 w L){i:Nat}{P Q:As}(hi:L[i]?=some P)(aft:∀a,P a->Q a):Sat w0 w (L.set i Q):=by
 obtain⟨a,b,h1,h2,h3,h4,h5⟩:=gd h.mem hi;exact⟨h.os,h.tape,h.output,jy (Sat.BK hi) h1 h2 h3 (aft a h4) h5⟩
theorem Sat.ex(h:Sat w0 w L){i:Nat}{α:Type}{P:α->As}(hi:L[i]?=some (cn P)):∃x,Sat w0 w (L.set i (P x)):=by
 obtain⟨a,b,h1,h2,h3,⟨x,h4⟩,h5⟩:=gd h.mem hi;exact⟨x,h.os,h.tape,h.output,jy (Sat.BK hi) h1 h2 h3 h4 h5⟩
theorem Sat.unpack(h:Sat w0 w L)(i:Nat){M:List As}(hi:L[i]?=some (aq M)):Sat w0 w (L.eraseIdx i++M):=by
 obtain⟨a,b,h1,h2,h3,h4,h5⟩:=gd h.mem hi;exact⟨h.os,h.tape,h.output,eH h5 h4 (dM h1) h3 h2⟩
theorem Sat.pack(h:Sat w0 w (L++M)):Sat w0 w (L++[aq M]):=by
 obtain⟨a,b,h1,h2,h3,h4,h5⟩:=jQ h.mem;exact⟨h.os,h.tape,h.output,eH h4 (b:=b) ⟨b,λ_=>none,λ_=>.inr rfl,le_refl _,λ_ _ e=>(by cases e),h5,trivial⟩ h1 h2 h3⟩
theorem Sat.left(h:Sat w0 w (L++M)):Sat w0 w L:=by
 obtain⟨a,b,h1,h2,h3,h4,h5⟩:=jQ h.mem;exact⟨h.os,h.tape,h.output,kB h4 h2⟩
end
theorem yS:∀{L:List As}{h:Hp},aq L h->∃f:Nat->Hp,(∀(i:Nat)(P:As),L[i]?=some P->P (f i))/\(∀i j,i≠j->sD (f i) (f j))/\∀i,le (f i) h:=by
 intro L;induction L with
 |nil=>intro h _;exact⟨λ_ _=>none,λi P hi=>(by simp at hi),λ_ _ _ _=>.inl rfl,λ_ _ _ e=>(by cases e)⟩
 |cons Q L ih=>
  intro h hs;obtain⟨a,b,h1,h2,h3,h4,h5⟩:=hs;obtain⟨f,g1,g2,g3⟩:=ih h5;refine⟨λi=>match i with|0=>a|i+1=>f i,λi P hi=>?_,λi j RZ=>?_,λi=>?_⟩
  ·cases i with
   |zero=>simp at hi;subst hi;exact h4
   |succ i=>simp at hi;exact g1 i P hi
  ·cases i with
   |zero=>cases j with
    |zero=>exact absurd rfl RZ
    |succ j=>exact jb h1 (g3 j)
   |succ i=>cases j with
    |zero=>exact dM (jb h1 (g3 i))
    |succ j=>exact g2 i j (by omega)
  ·cases i with
   |zero=>exact h2
   |succ i=>exact le_trans (g3 i) h3
theorem zK:∀{L:List As}{h:Hp}(f:Nat->Hp),(∀(i:Nat)(P:As),L[i]?=some P->P (f i))->(∀i j,i≠j->sD (f i) (f j))->(∀i,le (f i) h)->aq L h:=by
 intro L;induction L with
 |nil=>intros;trivial
 |cons Q L ih=>
  intro h f g1 g2 g3;refine⟨f 0,λk=>match f 0 k with|none=>h k|some _=>none,λk=>?_,g3 0,λk o e=>?_,g1 0 Q rfl,ih (λi=>f (i+1)) (λi P hi=>g1 (i+1) P (by simpa using hi)) (λi j RZ=>g2 _ _ (by omega)) (λi k o e=>?_)⟩
  ·cases hk:f 0 k with
   |none=>exact .inl rfl
   |some o=>exact .inr (by simp[hk])
  ·dsimp only at e;split at e
   ·exact e
   ·cases e
  ·rcases g2 0 (i+1) (by omega) k with hk|hk
   ·show(match f 0 k with|none=>h k|some _=>none)=some o;rw[hk];exact g3 _ _ _ e
   ·rw[hk]at e;cases e
theorem Sat.pick{w0 w:World}{L:List As}(h:Sat w0 w L)(p:List Nat)(hn:p.Nodup:=by decide)(hl:p.all (· <L.length)=true:=by rfl):Sat w0 w (p.map λi=>L.getD i (λ_=>True)):=by
 obtain⟨f,g1,g2,g3⟩:=yS h.mem;refine⟨h.os,h.tape,h.output,zK (λi=>match p[i]? with|some j=>f j|none=>λ_=>none) (λi P hi=>?_) (λi j RZ=>?_) (λi=>?_)⟩
 ·rw[List.getElem?_map]at hi
  cases e:p[i]? with
  |none=>rw[e]at hi;cases hi
  |some j=>
   rw[e]at hi
   have hj:j<L.length:=by simpa using List.all_eq_true.1 hl j (List.mem_of_getElem? e)
   have:L.getD j (λ_=>True)=P:=Option.some.inj hi;refine g1 j P ?_;rw[<-this,List.getD_eq_getElem?_getD,List.getElem?_eq_getElem hj];rfl
 ·cases e1:p[i]? with
  |none=>exact λk=>.inl rfl
  |some a=>cases e2:p[j]? with
   |none=>exact λk=>.inr rfl
   |some b=>
    refine g2 a b λGJ=>RZ ?_
    subst GJ;exact(List.getElem?_inj (List.getElem?_eq_some_iff.1 e1).1 hn).1 (e1.trans e2.symm)
 ·cases e:p[i]? with
  |none=>exact λ_ _ e=>by cases e
  |some j=>exact g3 j
section
variable {w0 w w':World} {L M:List As}
theorem Sat.at(h:Sat w0 w L)(i:Nat){P:As}(hi:L[i]?=some P):Sat w0 w [aq (L.eraseIdx i),P]:=by
 obtain⟨a,b,h1,h2,h3,h4,h5⟩:=gd h.mem hi;exact⟨h.os,h.tape,h.output,b,a,dM h1,h3,h2,h5,a,λ_=>none,λ_=>.inr rfl,le_refl _,λ_ _ e=>(by cases e),h4,trivial⟩
theorem Sat.back{i:Nat}(hi:i<L.length){Q:As}{M:List As}(h:Sat w0 w (aq (L.eraseIdx i)::Q::M)):Sat w0 w (L.set i Q++M):=by
 obtain⟨b,r,h1,h2,h3,h5,a,m,g1,g2,g3,g4,g5⟩:=h.mem;have yj:sD a b:=dM (jb h1 g2);have abk:sD m b:=dM (jb h1 g3);refine⟨h.os,h.tape,h.output,eH (a:=xN a b) (b:=m) (jy hi yj (pT _ _) (pN yj) g4 h5) g5 ?_ (sM (le_trans g2 h3) h2) (le_trans g3 h3)⟩;exact dM (rY (dM g1) abk)
theorem Sat.uj{i:Nat}(hi:i<L.length){Q:As}(h:Sat w0 w [aq (L.eraseIdx i),Q]):Sat w0 w (L.set i Q):=by
 have:=Sat.back hi h;rwa [List.append_nil]at this
theorem Sat.store(h:Sat w0 w L)(i:Nat){b:Nat}{cs:Array Value}{T:TypeId}{z:Nat×Nat}(hi:L[i]?=some (ax b (.cells cs T z)))(o:Nat)(v:Value):
  Sat w0 (w.setCell ⟨b,o,none⟩ v) (L.set i (ax b (.cells (cs.setIfInBounds o v) T z))):=by
 refine h.UM hi rfl rfl rfl λa ha hl=>⟨λk=>if k=b then some (.cells (cs.setIfInBounds o v) T z)else none,by simp[ax],λk x e=>?_,λk hk _=>?_⟩
 ·dsimp only at e;split at e
  ·rename_i hk;subst hk;cases e;have hb:w.heap[k]?=some (.cells cs T z):=hl _ _ ha;show(w.setCell ⟨k,o,none⟩ v).heap[k]?= _;simp[World.setCell,Array.getElem?_modify,hb]
  ·cases e
 ·have eR:k≠b:=by rintro rfl;rw[show a k= _ from ha]at hk;cases hk
  exact⟨by dsimp only;rw[if_neg eR],Below.heap_setCell _ _ _ _ eR⟩
theorem Sat.heap(h:Sat w0 w L)(i:Nat){b:Nat}{o:Obj}(hi:L[i]?=some (ax b o)):w.heap[b]?=some o:=h.get hi λ_ ha hl=>hl _ _ ha
theorem Sat.lt(h:Sat w0 w L)(i:Nat){b:Nat}{o:Obj}(hi:L[i]?=some (ax b o):=by exact rfl):b<w.heap.size:=(Array.getElem?_eq_some_iff.1 (h.heap i hi)).1
theorem Sat.cell(h:Sat w0 w L)(i o:Nat){b:Nat}{cs:Array Value}{T:TypeId}{z:Nat×Nat}{v:Value}(hi:L[i]?=some (ax b (.cells cs T z)):=by exact rfl)(ho:cs[o]?=some v:=by exact rfl):w.cell? ⟨b,o,none⟩=some v:=by
 simp[World.cell?,h.heap i hi,ho]
theorem Sat.free(h:Sat w0 w L)(i:Nat){b:Nat}{cs:Array Value}{T:TypeId}(hi:L[i]?=some (ax b (.cells cs T (0,0))))(o:Nat):w.frozen? ⟨b,o,none⟩=false:=by
 simp[World.frozen?,h.heap i hi]
theorem Sat.ne(h:Sat w0 w L)(i j:Nat)(RZ:i≠j){b c:Nat}{o u:Obj}(hi:L[i]?=some (ax b o))(hj:L[j]?=some (ax c u)):b≠c:=by
 obtain⟨f,g1,g2,g3⟩:=yS h.mem
 rintro rfl
 have e1:f i b=some o:=g1 i _ hi;have e2:f j b=some u:=g1 j _ hj;rcases g2 i j RZ b with e|e
 ·rw[e]at e1;cases e1
 ·rw[e]at e2;cases e2
def row(e:TypeId)(size:Nat)(v:Value)(n:Nat)(xs:List Value):As:=λh=>
 xs.length=n*size/\
 ((v=.slice none 0 0/\n=0)\/
 ∃g cap cur,v=.slice (some ⟨g,0,none⟩) n cap/\h g=some (.cells cur e (0,0))/\n<=cap/\cap<=maxLen/\cur.size=cap*size/\cur.toList.take (n*size)=xs)
theorem Sat.row(h:Sat w0 w L)(i:Nat){e:TypeId}{size:Nat}{v:Value}{n:Nat}{xs:List Value}(hi:L[i]?=some (row e size v n xs):=by exact rfl):w.ownsRow 0 e size v n xs:=
 h.get hi λa ha hl=>by
  refine⟨ha.1,?_⟩;rcases ha.2 with h1|⟨g,cap,cur,h1,h2,h3⟩
  ·exact .inl h1
  ·exact .inr ⟨g,cap,cur,h1,Nat.zero_le _,hl _ _ h2,h3⟩
theorem Sat.nil(h:Sat w0 w L)(e:TypeId)(size:Nat):Sat w0 w (L++[Prt.row e size (.slice none 0 0) 0 []]):=
 h.new (bR _ _) ⟨λ_=>none,⟨by simp,.inl ⟨rfl,rfl⟩⟩,λ_ _ e=>(by cases e),λ_ _=>rfl⟩
theorem Sat.jR(h:Sat w0 w L){P:As}(hP:∀a,P a):Sat w0 w (L++[P]):=h.new (bR _ _) ⟨λ_=>none,hP _,λ_ _ e=>(by cases e),λ_ _=>rfl⟩
theorem Sat.newRow(h:Sat w0 w L)(hb:Below w.heap.size w w'){base:Nat}{e:TypeId}{size:Nat}{v:Value}{n:Nat}{xs:List Value}(ho:w'.ownsRow base e size v n xs)(acP:w.heap.size<=base):Sat w0 w' (L++[Prt.row e size v n xs]):=by
 refine h.new hb ?_;obtain⟨h1,h2⟩:=ho;rcases h2 with⟨rfl,rfl⟩|⟨g,cap,cur,rfl,h3,h4,h5⟩
 ·exact⟨λ_=>none,⟨h1,.inl ⟨rfl,rfl⟩⟩,λ_ _ e=>(by cases e),λ_ _=>rfl⟩
 ·refine⟨λk=>if k=g then some (.cells cur e (0,0))else none,⟨h1,.inr ⟨g,cap,cur,rfl,if_pos rfl,h5⟩⟩,λk x ex=>?_,λk hk=>?_⟩
  ·dsimp only at ex;split at ex
   ·rename_i VX;subst VX;cases ex;exact h4
   ·cases ex
  ·dsimp only;rw[if_neg (by omega)]
theorem Sat.grow(h:Sat w0 w L)(i:Nat){e:TypeId}{size:Nat}{v:Value}{n:Nat}{xs:List Value}(hi:L[i]?=some (Prt.row e size v n xs)){base g m cap:Nat}{ys:List Value}
  (hg:w.grownBy w' v.ownBlock) (ho:w'.ownsRow base e size (.slice (some ⟨g,0,none⟩) m cap) m ys) (sX:v.ownBlock=some g\/g=w.heap.size):Sat w0 w' (L.set i (Prt.row e size (.slice (some ⟨g,0,none⟩) m cap) m ys)):=by
 refine h.UM hi hg.os hg.tape hg.output λa ha hl=>?_
 obtain⟨h1,h2⟩:=ho;rcases h2 with⟨h2,_⟩|⟨g',x9,cur,h2,_,h4,h5,h6,h7,h8⟩
 ·cases h2
 ·cases h2;refine⟨λk=>if k=g then some (.cells cur e (0,0))else none,⟨h1,.inr ⟨g,cap,cur,rfl,if_pos rfl,h5,h6,h7,h8⟩⟩,λk x ex=>?_,λk hk bz=>?_⟩
  ·dsimp only at ex;split at ex
   ·rename_i VX;subst VX;cases ex;exact h4
   ·cases ex
  ·have hv:v.ownBlock≠some k:=λev=>by
    rcases ha.2 with⟨rfl,_⟩|⟨g2,ni,XJ,rfl,e2,_⟩
    ·simp[Value.ownBlock]at ev
    ·simp[Value.ownBlock]at ev;subst ev;rw[hk]at e2;cases e2
   refine⟨?_,hg.block k bz (λev=>hv ev.symm)⟩;dsimp only;rw[if_neg]
   rintro rfl
   rcases sX with sX|sX
   ·exact hv sX
   ·omega
theorem lH{b:Nat}{cs:Array Value}{e:TypeId}{size n:Nat}{xs:List Value}{a:Hp}(h:ax b (.cells cs e (0,0)) a)(hm:n<=maxLen)(hs:cs.size=n*size)(hx:cs.toList=xs):Prt.row e size (.slice (some ⟨b,0,none⟩) n n) n xs a:=
 ⟨by rw[<-hx];simp[hs],.inr ⟨b,n,cs,rfl,h,nR _,hm,hs,by rw[<-hx];exact List.take_of_length_le (by simp[hs])⟩⟩
theorem Sat.km{F P A:As}(h:Sat w0 w [aq [F,A],P]):Sat w0 w [F,P,A]:=(h.unpack 0 rfl).pick [1,0,2]
theorem Sat.oH{F P A B:As}(h:Sat w0 w [aq [F,A,B],P]):Sat w0 w [F,P,A,B]:=(h.unpack 0 rfl).pick [1,0,2,3]
theorem Sat.uc{F P A B C:As}(h:Sat w0 w [aq [F,A,B,C],P]):Sat w0 w [F,P,A,B,C]:=(h.unpack 0 rfl).pick [1,0,2,3,4]
theorem Sat.adm{F P A B C D:As}(h:Sat w0 w [aq [F,A,B,C,D],P]):Sat w0 w [F,P,A,B,C,D]:=(h.unpack 0 rfl).pick [1,0,2,3,4,5]
theorem Sat.out{F:As}{M:List As}(h:Sat w0 w [aq (F::M)]):Sat w0 w [F]:=Sat.left (L:=[F]) (M:=M) (h.unpack 0 rfl)
def bY(w:World):As:=λh=>∀k,k<w.heap.size->h k=w.heap[k]?
theorem Sat.iN(w:World):Sat w w [bY w]:=
 ⟨rfl,rfl,rfl,hp w,λ_=>none,λ_=>.inr rfl,le_refl _,λ_ _ e=>(by cases e),λ_ _=>rfl,trivial⟩
theorem Sat.aS{M:List As}(h:Sat w w' (bY w::M)):Below w.heap.size w w':=by
 obtain⟨a,b,_,h2,_,h4,_⟩:=h.mem;have hb:∀k,k<w.heap.size->w'.heap[k]?=w.heap[k]?:=λk hk=>by
  have h5:=h4 k hk;rw[Array.getElem?_eq_getElem hk]at h5⊢
  exact h2 _ _ h5
 refine⟨h.os,h.tape,h.output,Nat.le_of_not_lt λbz=>?_,hb⟩;have h6:=hb (w.heap.size-1) (by omega);rw[Array.getElem?_eq_none (by omega),Array.getElem?_eq_getElem (by omega)]at h6
 cases h6
theorem Sat.join{M:List As}(h:Sat w0 w L)(g:Sat w w' (bY w::M)):Sat w0 w' (L++M):=by
 have hb:=g.aS;obtain⟨a,b,h1,h2,h3,h4,h5⟩:=g.mem;refine⟨hb.os.trans h.os,hb.tape.trans h.tape,hb.output.trans h.output,eH (a:=hp w) (b:=b) h.mem h5 (λk=>?_) (λk o e=>?_) h3⟩
 ·by_cases hk:k<w.heap.size
  ·right;rcases h1 k with h6|h6
   ·have h7:=h4 k hk;rw[h6,Array.getElem?_eq_getElem hk]at h7;cases h7
   ·exact h6
  ·exact .inl (Array.getElem?_eq_none (by omega))
 ·show w'.heap[k]?=some o;rw[hb.block k (Array.getElem?_eq_some_iff.1 e).1];exact e
end
end Prt
section
open Prt (Sat As ax bU cn star aq)
def tE(ad:List Tok.Tk):Prop:=ad.length<=1001/\∀t,ad.getLast?=some t->t.kind=6
def YI(v:Value)(l:List Tok.Tk):As:=Prt.row 138 3 v l.length (l.flatMap dT)
def pB(v:Value)(l:List BA):As:=Prt.row 9 1 v l.length (l.map Value.string)
def c9(p:BA×Nat):List Value:=[.string p.1,.int .i64 (p.2:Int)]
def Cf(v:Value)(l:List (BA×Nat)):As:=Prt.row 141 2 v l.length (l.flatMap c9)
def aQ(n:Nat):Value:=.int .i64 (n:Int)
def gi(v:Value)(l:List Nat):As:=Prt.row 3 1 v l.length (l.map aQ)
structure TyRow where
 t:Ty.Ty
 fv:Value
 lv:Value
def ff(r:TyRow):List Value:=[.int .i64 r.t.kind,r.fv,r.lv,.int .i64 r.t.of]
def pC(r:TyRow):As:=star (Cf r.fv r.t.fields) (gi r.lv r.t.list)
def sA(v:Value)(ts:List Ty.Ty):As:=cn λrows:List TyRow=>
 aq [bU (rows.map TyRow.t=ts),Prt.row 69 4 v ts.length (rows.flatMap ff),aq (rows.map pC)]
structure NdRow where
 t:Nd
 lv:Value
def fi(r:NdRow):List Value:=[.int .i64 r.t.kind,.int .i64 r.t.a,.int .i64 r.t.b,.int .i64 r.t.c,r.lv,.string r.t.text,.int .i64 r.t.n,.int .i64 r.t.ty,.int .i64 r.t.pos]
def C8(v:Value)(ns:List Nd):As:=cn λrows:List NdRow=>
 aq [bU (rows.map NdRow.t=ns),Prt.row 66 9 v ns.length (rows.flatMap fi),aq (rows.map λr=>gi r.lv r.t.list)]
def yL(pb d:Nat)(ad:List Tok.Tk)(st:Ty.St)(p:Value×Value×Value×Int):List As:=
 [bU (tE ad/\st.pos<ad.length/\d<=20/\st.ts.length<=st.pos/\st.ns.length<=st.pos+1),
 ax pb (.cells #[p.1,.int .i64 st.pos,.int .i64 d,p.2.1,p.2.2.1,.int .i64 p.2.2.2] 86 (0,0)),YI p.1 ad,C8 p.2.1 st.ns,sA p.2.2.1 st.ts]
def aT(pb d:Nat)(ad:List Tok.Tk)(st:Ty.St):As:=cn λp:Value×Value×Value×Int=>aq (yL pb d ad st p)
structure PRd(w:World)(pb d:Nat)(ad:List Tok.Tk)(st:Ty.St):Prop where
 holds:∃(lv nv tv:Value)(main:Int),w.heap[pb]?=some (.cells #[lv,.int .i64 st.pos,.int .i64 d,nv,tv,.int .i64 main] 86 (0,0))/\lu w 0 lv ad
 wf:tE ad
 fits:st.pos<ad.length/\d<=20/\st.ts.length<=st.pos/\st.ns.length<=st.pos+1
section
variable {w0 w:World} {L:List As}
theorem Prt.Sat.pure(h:Sat w0 w L)(i:Nat){p:Prop}(hi:L[i]?=some (bU p)):p:=h.get hi λ_ h _=>h
theorem Prt.Sat.nf{Fr:As}{pb d:Nat}{ad:List Tok.Tk}{st:Ty.St}(h:Sat w0 w [Fr,aT pb d ad st]):∃p,Sat w0 w (Fr::yL pb d ad st p):=by
 obtain⟨p,h⟩:=h.ex (i:=1) rfl;exact⟨p,h.unpack 1 rfl⟩
theorem Prt.Sat.nZ{Fr:As}{pb d:Nat}{ad:List Tok.Tk}{st:Ty.St}{p:Value×Value×Value×Int}(h:Sat w0 w (Fr::yL pb d ad st p)):Sat w0 w [Fr,aT pb d ad st]:=
 (Prt.Sat.pack (L:=[Fr]) h).cQ (i:=1) rfl λ_ h=>⟨p,h⟩
theorem Prt.Sat.look{Fr:As}{pb d:Nat}{ad:List Tok.Tk}{st:Ty.St}(h:Sat w0 w [Fr,aT pb d ad st]):PRd w pb d ad st:=by
 obtain⟨⟨lv,nv,tv,main⟩,h⟩:=h.nf;have hp:=h.pure 1 rfl;exact⟨⟨lv,nv,tv,main,h.heap 2 rfl,h.row 3⟩,hp.1,hp.2⟩
theorem Prt.Sat.setPos{Fr:As}{pb d:Nat}{ad:List Tok.Tk}{st:Ty.St}(h:Sat w0 w [Fr,aT pb d ad st])(p:Nat)(hp:p<ad.length)(vJ:st.pos<=p):Sat w0 (w.setCell ⟨pb,1,none⟩ (.int .i64 p)) [Fr,aT pb d ad {st with pos:=p}]:=by
 obtain⟨x,h⟩:=h.nf;have hq:=h.pure 1 rfl;refine Prt.Sat.nZ (p:=x) (((h.store 2 rfl 1 (.int .i64 p)).cQ (i:=1) rfl (Q:=bU _) λ_ _=>?_));exact⟨hq.1,hp,hq.2.2.1,by have:=hq.2;dsimp only;omega,by have:=hq.2;dsimp only;omega⟩
theorem Prt.Sat.uV{Fr:As}{pb d:Nat}{ad:List Tok.Tk}{st:Ty.St}(h:Sat w0 w [Fr,aT pb d ad st])(d':Nat)(hd:d'<=20):Sat w0 (w.setCell ⟨pb,2,none⟩ (.int .i64 d')) [Fr,aT pb d' ad st]:=by
 obtain⟨x,h⟩:=h.nf;have hq:=h.pure 1 rfl;refine Prt.Sat.nZ (p:=x) (((h.store 2 rfl 2 (.int .i64 d')).cQ (i:=1) rfl (Q:=bU _) λ_ _=>?_));exact⟨hq.1,hq.2.1,hd,hq.2.2.2⟩
end
theorem PRd.below{w w':World}{pb d:Nat}{ad:List Tok.Tk}{st:Ty.St}(h:PRd w pb d ad st)(hb:Below w.heap.size w w'):PRd w' pb d ad st:=by
 obtain⟨⟨lv,nv,tv,main,h1,h2⟩,h3,h4⟩:=h;exact⟨⟨lv,nv,tv,main,by rw[hb.block _ (Array.getElem?_eq_some_iff.1 h1).1];exact h1,ay h2 hb⟩,h3,h4⟩
theorem PRd.lt{w:World}{pb d:Nat}{ad:List Tok.Tk}{st:Ty.St}(h:PRd w pb d ad st):pb<w.heap.size:=by
 obtain⟨⟨lv,nv,tv,main,h1,_⟩,_⟩:=h;exact(Array.getElem?_eq_some_iff.1 h1).1
theorem PRd.cells{w:World}{pb d:Nat}{ad:List Tok.Tk}{st:Ty.St}(h:PRd w pb d ad st):
  w.cell? ⟨pb,1,none⟩=some (.int .i64 st.pos)/\w.cell? ⟨pb,2,none⟩=some (.int .i64 d)/\∀o,w.frozen? ⟨pb,o,none⟩=false:=by
 obtain⟨⟨lv,nv,tv,main,h1,_⟩,_⟩:=h;exact⟨by rw[cell_of_block h1];rfl,by rw[cell_of_block h1];rfl,λo=>bZ h1 o⟩
theorem Ej(ad:List Tok.Tk)(pos:Nat)(h:pos<ad.length):Ty.cur ad pos=ad[pos]:=by
 unfold Ty.cur;rw[List.getElem?_eq_getElem h];rfl
theorem ve{ad:List Tok.Tk}{pos:Nat}(hp:pos<ad.length)(hl:tE ad)(h: (Ty.cur ad pos).kind≠6):pos+1<ad.length:=by
 refine Nat.lt_of_le_of_ne hp λe=>h ?_
 rw[Ej ad pos hp];exact hl.2 _ (by rw[List.getLast?_eq_getElem?,List.getElem?_eq_getElem (by omega)];congr 1;simp[<-e])
theorem is_lt{ad:List Tok.Tk}{s:List UInt8}{pos:Nat}(hp:pos<ad.length)(hl:tE ad)(h:Ty.is ad s pos=true):pos+1<ad.length:=by
 refine ve hp hl λe=>?_
 unfold Ty.is at h;rw[e]at h
 simp at h
theorem GR(a:Prt.Hp):sA (.slice none 0 0) [] a:=
 ⟨[],λ_=>none,λ_=>none,λ_=>.inl rfl,λ_ _ e=>(by cases e),λ_ _ e=>(by cases e),rfl,λ_=>none,λ_=>none,λ_=>.inl rfl,Prt.le_refl _,Prt.le_refl _,⟨rfl,.inl ⟨rfl,rfl⟩⟩,λ_=>none,λ_=>none,λ_=>.inl rfl,Prt.le_refl _,Prt.le_refl _,trivial,trivial⟩
theorem QM(a:Prt.Hp):C8 (.slice none 0 0) [] a:=
 ⟨[],λ_=>none,λ_=>none,λ_=>.inl rfl,λ_ _ e=>(by cases e),λ_ _ e=>(by cases e),rfl,λ_=>none,λ_=>none,λ_=>.inl rfl,Prt.le_refl _,Prt.le_refl _,⟨rfl,.inl ⟨rfl,rfl⟩⟩,λ_=>none,λ_=>none,λ_=>.inl rfl,Prt.le_refl _,Prt.le_refl _,trivial,trivial⟩
theorem Prt.Sat.T'{w0 w:World}{Fr:As}{pb:Nat}{ad:List Tok.Tk}{lv:Value}(hT:tE ad/\0<ad.length)(h:Sat w0 w [Fr,YI lv ad,ax pb (.cells #[lv,.int .i64 0,.int .i64 0,.slice none 0 0,.slice none 0 0,.int .i64 0] 86 (0,0))]):Sat w0 w [Fr,aT pb 0 ad ⟨0,[],[]⟩]:=by
 have h:=((h.jR QM).jR GR).jR (P:=bU (tE ad/\0<ad.length/\(0:Nat)<=20/\(0:Nat)<=0/\(0:Nat)<=0+1)) (λ_=>⟨hT.1,hT.2,by omega⟩);exact Prt.Sat.nZ (p:=(lv,.slice none 0 0,.slice none 0 0,0)) (h.pick [0,5,2,1,3,4])
def aO(f:Ty.Ft):List PanicEntry:=[{v:=.iface 25 (.agg #[.int .i64 f.1,.int .i64 f.2]),recovered:=false}]
theorem gP(w:World)(pb d:Nat)(ad:List Tok.Tk)(st:Ty.St)(h:PRd w pb d ad st){R:EW}(hR:∀w',Below w.heap.size w w'->R (.returned (bV (Ty.cur ad st.pos))) w'):
  Calls prog 75 #[.pointer (some ⟨pb,0,none⟩)] w R:=by
 have bz:=h.lt;have hl:=h.wf.1;have h5:=h.fits.1;obtain⟨⟨lv,nv,tv,main,h1,h2⟩,_⟩:=h;have c0:w.cell? ⟨pb,0,none⟩=some lv:=by rw[cell_of_block h1];rfl
 have c1:w.cell? ⟨pb,1,none⟩=some (.int .i64 st.pos):=by rw[cell_of_block h1];rfl
 have eR:ad≠[]:=by rintro rfl;simp at h5
 obtain⟨g,cap,rfl,_,hg,_,_,hc⟩:=h2.at eR;obtain⟨t0,t1,t2⟩:=hc st.pos h5;rw[Ej ad st.pos h5]at hR
 clear h1 h2 hc eR;generalize ad[st.pos]=t at*
 obtain⟨kd,tx,ps⟩:=t;dsimp only at t0 t1 t2;go_in;go_wp2
 go_region
 go_wp2;refine bodyPost_ret ?_ rfl (hR _ ?_)
 ·simp[results,results75,go_sem,bV]
 ·repeat' (first|exact bR _ _|apply Below.drew|apply Below.setCell|apply Below.alloc|(simp;done)|(simp;omega)|omega)
theorem pk(w:World)(pb d:Nat)(ad:List Tok.Tk)(st:Ty.St)(h:PRd w pb d ad st)(x:BA){R:EW}
  (hR:∀w',Below w.heap.size w w'->R (.returned (.bool (Ty.is ad x.data.toList st.pos))) w'):
  Calls prog 210 #[.pointer (some ⟨pb,0,none⟩),.string x] w R:=by
 unfold Ty.is at hR;obtain⟨t,ht⟩:∃t,Ty.cur ad st.pos=t:=⟨_,rfl⟩
 rw[ht]at hR
 have HN:=qh (λw1(hb:Below w.heap.size w w1) R=>@gP w1 pb d ad st (h.below hb) R);rw[ht]at HN
 obtain⟨kd,tx,ps⟩:=t;have e1: (tx.toList==x.toList)=decide (tx.data.toList=x.data.toList):=by rw[ByteArray.toList_eq,ByteArray.toList_eq,Bool.eq_iff_iff];simp
 have hk:kd=5\/kd≠5/\kd=2\/kd≠5/\kd≠2:=by omega
 rcases hk with hk|⟨hk,qR⟩|⟨hk,qR⟩
 ·subst hk;have HE:=qh e1;clear e1;go_in;go_wp2_with fail;refine HN.o _ (bR _ _) _ (λw1 cd=>?_);dsimp only[bV];have HB:=qh cd;go_wp2_with fail;refine ll (hR _ ?_) (congrArg Value.bool ?_)
  ·repeat' (first|exact HB.o|apply Below.drew|apply Below.setCell|apply Below.alloc|(simp;done)|(simp;omega)|exact HB.o.size)
  ·rw[HE.o];simp
 ·subst qR;have HE:=qh e1;clear e1 hk;go_in;go_wp2_with fail;refine HN.o _ (bR _ _) _ (λw1 cd=>?_);dsimp only[bV];have HB:=qh cd;clear cd;go_wp2_with fail;refine ll (hR _ ?_) (congrArg Value.bool ?_)
  ·repeat' (first|exact HB.o|apply Below.drew|apply Below.setCell|apply Below.alloc|(simp;done)|(simp;omega)|exact HB.o.size)
  ·rw[HE.o];simp
 ·have k1: ((kd:Int)==5)=false:=by simp;omega
  have k2: ((kd:Int)==2)=false:=by simp;omega
  clear e1;go_in;go_wp2_with fail;refine HN.o _ (bR _ _) _ (λw1 cd=>?_);dsimp only[bV];have HB:=qh cd;clear cd;go_wp2_with fail;refine ll (hR _ ?_) (congrArg Value.bool ?_)
  ·repeat' (first|exact HB.o|apply Below.drew|apply Below.setCell|apply Below.alloc|(simp;done)|(simp;omega)|exact HB.o.size)
  ·simp[hk,qR]
theorem kA(a b c:Value)(w:World): (Instr.field 138 (.agg #[a,b,c]) 2).run prog w=.ok c w:=by kernel_rfl
theorem kK(w:World)(pb d:Nat)(ad:List Tok.Tk)(st:Ty.St)(h:PRd w pb d ad st)(e:Nat){R:EW}
  (hR:∀w',Below w.heap.size w w'->R (.panicked (aO (Ty.here ad e st.pos))) w'):
  Calls prog 121 #[.pointer (some ⟨pb,0,none⟩),.int .i64 e] w R:=by
 unfold Ty.here at hR;obtain⟨t,ht⟩:∃t,Ty.cur ad st.pos=t:=⟨_,rfl⟩
 rw[ht]at hR
 have HN:=qh (λR=>@gP w pb d ad st h R);rw[ht]at HN
 obtain⟨kd,tx,ps⟩:=t;go_in;go_wp2_with fail;refine HN.o _ (λw1 cd=>?_);dsimp only[bV];have hf:=kA;go_wp2_with fail;exact⟨rfl,hR _ cd⟩
section
variable {w0 w:World} {Fr:As} {pb d:Nat} {ad:List Tok.Tk} {st:Ty.St}
theorem cB(H:Sat w0 w [Fr,aT pb d ad st])(x:BA){R:EW}
  (vK:∀w',Ty.take ad x.data.toList st=.ok (true,{st with pos:=st.pos+1})->Sat w0 w' [Fr,aT pb d ad {st with pos:=st.pos+1}]->R (.returned (.bool true)) w')
  (qq:∀w',Ty.take ad x.data.toList st=.ok (false,st)->Sat w0 w' [Fr,aT pb d ad st]->R (.returned (.bool false)) w'):
  Calls prog 186 #[.pointer (some ⟨pb,0,none⟩),.string x] w R:=by
 have hl:=H.look;cases hi:Ty.is ad x.data.toList st.pos
 ·have HI:=qh hi;go_in;go_wp2_with fail;refine pk w pb d ad st hl x (λw1 cd=>?_);rw[HI.o];have HB:=qh cd;go_wp2;exact qq _ (by unfold Ty.take;rw[HI.o];rfl) (H.below HB.o)
 ·have bz:=is_lt hl.fits.1 hl.wf hi;have h5:=hl.wf.1;have HI:=qh hi;go_in;go_wp2_with fail;refine pk w pb d ad st hl x (λw1 cd=>?_);rw[HI.o];obtain⟨c1,_,f0⟩:=(hl.below cd).cells;have HB:=qh cd;go_wp2;exact vK _ (by unfold Ty.take;rw[HI.o];rfl) ((H.below HB.o).setPos _ bz (by omega))
theorem cS(H:Sat w0 w [Fr,aT pb d ad st])(x:BA){R:EW}
  (vK:∀w',Ty.need ad x.data.toList st=.ok ((),{st with pos:=st.pos+1})->Sat w0 w' [Fr,aT pb d ad {st with pos:=st.pos+1}]->R (.returned (.tuple #[])) w')
  (qq:∀f w',Ty.need ad x.data.toList st=.error f->Sat w0 w' [Fr]->R (.panicked (aO f)) w'):
  Calls prog 208 #[.pointer (some ⟨pb,0,none⟩),.string x] w R:=by
 go_in;go_wp2_with fail;refine cB H x (λw1 hi H1=>?_) (λw1 hi H1=>?_)
 ·have HI:=qh hi;have Eb:=qh H1;go_wp2;go_end0;refine vK _ ?_ Eb.o;have hi:=HI.o;unfold Ty.take at hi;unfold Ty.need;split at hi
  ·rw[if_pos (by assumption)]
  ·simp at hi
 ·have HI:=qh hi;have Eb:=qh H1;go_wp2_with fail;refine kK w1 pb d ad st Eb.o.look 1 (λw2 aW=>?_);have HB:=qh (Eb.o.below aW);go_wp2_with fail;refine⟨rfl,qq _ _ ?_ (HB.o.pick [0])⟩;have hi:=HI.o;unfold Ty.take at hi;unfold Ty.need;split at hi
  ·simp at hi
  ·rw[if_neg (by assumption)]
end
theorem LY: (prog.info? 69).map (λi=>(i.zero,i.size,i.bytes))=some (some (.agg #[.int .i64 0,.slice none 0 0,.slice none 0 0,.int .i64 0]),4,64):=by kernel_rfl
theorem Prt.wD{L:List As}{P:As}{h:Prt.Hp}(hs:aq [aq L,P] h):aq (L++[P]) h:=by
 obtain⟨a,b,h1,h2,h3,h4,h5⟩:=hs;exact Prt.eH h4 h5 h1 h2 h3
section
variable {w0 w:World} {Fr:As} {pb d:Nat} {ad:List Tok.Tk} {st:Ty.St}
def L7(pb d:Nat)(ad:List Tok.Tk)(st:Ty.St)(p:Value×Value×Value×Int)(n:Nat)(cells:List Value)(rows:List TyRow)(ts:List Ty.Ty):List As:=
 [bU (tE ad/\st.pos<ad.length/\d<=20/\st.ts.length<=st.pos/\st.ns.length<=st.pos+1),
 ax pb (.cells #[p.1,.int .i64 st.pos,.int .i64 d,p.2.1,p.2.2.1,.int .i64 p.2.2.2] 86 (0,0)),YI p.1 ad,C8 p.2.1 st.ns,
 bU (rows.map TyRow.t=ts),Prt.row 69 4 p.2.2.1 n cells,aq (rows.map pC)]
theorem Prt.Sat.Ua{A B:As}(h:Sat w0 w [Fr,aT pb d ad st,A,B]):∃p rows,Sat w0 w (Fr::A::B::L7 pb d ad st p st.ts.length (rows.flatMap ff) rows st.ts):=by
 obtain⟨p,h⟩:=h.ex (i:=1) rfl;obtain⟨rows,h⟩:=(h.unpack 1 rfl).ex (i:=7) rfl;exact⟨p,rows,h.unpack 7 rfl⟩
theorem Prt.Sat.Ur{p:Value×Value×Value×Int}{rows:List TyRow}{t:Ty.Ty}{fv lv:Value}(h:Sat w0 w (Fr::Cf fv t.fields::gi lv t.list::L7 pb d ad st p (st.ts.length+1) (rows.flatMap ff++ff ⟨t,fv,lv⟩) rows st.ts))(hb:st.ts.length+1<=st.pos):
  Sat w0 w [Fr,aT pb d ad {st with ts:=st.ts++[t]}]:=by
 have h:=h.pick [0,3,4,5,6,7,8,9,1,2];have hq:=h.pure 1 rfl;have hr:=h.pure 5 rfl;have h:=Prt.Sat.pack (L:=[Fr,_,_,_,_,_,_,aq (rows.map pC)]) (M:=[Cf fv t.fields,gi lv t.list]) h;have h:=h.cQ (i:=8) rfl (Q:=pC (TyRow.mk t fv lv)) (λa ha=>by
  obtain⟨x,y,h1,h2,h3,h4,u,v,_,h6,_,h8,_⟩:=ha;exact⟨x,y,h1,h2,h3,h4,(by
   obtain⟨k1,k2⟩:=h8;refine⟨k1,?_⟩;rcases k2 with k2|⟨g,cap,cur,e1,e2,e3⟩
   ·exact .inl k2
   ·exact .inr ⟨g,cap,cur,e1,h6 _ _ e2,e3⟩)⟩)
 have h:=Prt.Sat.pack (L:=[Fr,_,_,_,_,_,_]) (M:=[aq (rows.map pC),pC (TyRow.mk t fv lv)]) h;have h:=h.cQ (i:=7) rfl (Q:=aq ((rows++[TyRow.mk t fv lv]).map pC)) (λa ha=>by rw[List.map_append];exact Prt.wD ha);have h:=h.cQ (i:=5) rfl (Q:=bU ((rows++[TyRow.mk t fv lv]).map TyRow.t=st.ts++[t])) (λa _=>by show _= _;rw[List.map_append,hr];rfl);have h:=h.cQ (i:=6) rfl (Q:=Prt.row 69 4 p.2.2.1 (st.ts++[t]).length ((rows++[TyRow.mk t fv lv]).flatMap ff)) (λa ha=>by rw[List.flatMap_append,List.length_append];exact ha);have h:=Prt.Sat.pack (L:=[Fr,_,_,_,_]) (M:=[_,_,_]) h;have h:=h.cQ (i:=5) rfl (Q:=sA p.2.2.1 (st.ts++[t])) (λa ha=>⟨_,ha⟩);have h:=h.cQ (i:=1) rfl (Q:=bU (tE ad/\st.pos<ad.length/\d<=20/\(st.ts++[t]).length<=st.pos/\st.ns.length<=st.pos+1)) (λa _=>⟨hq.1,hq.2.1,hq.2.2.1,by simpa using hb,hq.2.2.2.2⟩);exact Prt.Sat.nZ (p:=p) h
theorem jP(t:Ty.Ty)(fv lv:Value)(H:Sat w0 w [Fr,aT pb d ad st,Cf fv t.fields,gi lv t.list])(hb:st.ts.length+1<=st.pos)
  {R:EW} (hR:∀w',Sat w0 w' [Fr,aT pb d ad {st with ts:=st.ts++[t]}]->R (.returned (.int .i64 st.ts.length)) w'):
  Calls prog 187 #[.pointer (some ⟨pb,0,none⟩),.agg #[.int .i64 t.kind,fv,lv,.int .i64 t.of]] w R:=by
 have HR:=qh hR;obtain⟨i0,ti,oB,oA,oy⟩:=info_parts LY;obtain⟨⟨PY,nv,tv,main⟩,rows,hs⟩:=H.Ua;have hs:Sat w0 w (Fr::Cf fv t.fields::gi lv t.list::L7 pb d ad st (PY,nv,tv,main) st.ts.length (rows.flatMap ff) rows st.ts):=hs;have hq:=hs.pure 3 rfl;have hlen:=hq.1.1;have ow:st.ts.length<=1000:=by omega
 have c4:=hs.cell 4 4;have bz:=hs.lt 4;have hr:=hs.row 8;obtain⟨a,dt,rfl⟩:=ag hr;obtain⟨fa,fc,rfl⟩:=ag (hs.row 1);obtain⟨la,lc,rfl⟩:=ag (hs.row 2);have ik:=qh hr;have HS:=qh hs;have HB:=qh hb;clear hR H hs hq hr hb;go_in;go_wp2_with fail;go_region_law(first
  |(go_loud(refine step_append_lies _ (by rfl) _ _ _ (by rfl) 0 69 i0 _ 4 64 underlying29 ti oB oA oy rfl (by omega) (.slice a st.ts.length dt) st.ts.length (rows.flatMap ff) (by rfl) (((ik.o.alloc _).alloc _).drew) ⟨w.heap.size+1,0,none⟩ 1 1 [.int .i64 t.kind,.slice fa t.fields.length fc,.slice la t.list.length lc,.int .i64 t.of] (by rfl) (by rfl) (World.news_of_block (cs:=#[.int .i64 t.kind,.slice fa t.fields.length fc,.slice la t.list.length lc,.int .i64 t.of]) (t:=69) (fr:=(0,0)) (eK (aC _ _ _ (by simp)))) (by simp[Value.oneCell']) (by omega) (by have:=HB.o;unfold maxLen;omega) (by have:=HB.o;omega) (by simp) (w.heap.size+2) (by simp) ?_);intro g cap w1 vV jZ sX jH;have h1:=Prt.Sat.grow ((HS.o.aU _).aU _).drew 8 rfl jZ vV (by simpa using sX);have d4:=h1.cell 4 4;have e4:=h1.free 4 rfl 4;have H1:=qh h1;clear h1))
 all_goals
  clear vV jZ;go_wp2_with fail;exact HR.o _ (Prt.Sat.Ur (p:=(PY,nv,.slice (some ⟨g,0,none⟩) (st.ts.length+1) cap,main)) (rows:=rows) (H1.o.store 4 rfl 4 _) HB.o)
end
theorem Aw(w:World)(B:Nat)(v:Value)(l:List BA)(h:w.ownsRow B 9 1 v l.length (l.map Value.string))(hl:l.length<=100000)(x:BA){R:EW}(hR:∀r:Bool,(r=true↔x∈l)->R (.returned (.bool r)) w):
  Calls prog 279 #[v,.string x] w R:=by
 obtain⟨a,cap,rfl⟩:=ag h;by_cases h0:l=[]
 ·subst h0;refine(Tryz.slices_Contains_string_empty a cap x w).mono ?_
  rintro e w' ⟨rfl,rfl⟩
  exact hR false (by simp)
 ·rcases h.2 with⟨_,hn⟩|⟨g,x9,cur,hv,_⟩
  ·exact absurd (List.eq_nil_of_length_eq_zero hn) h0
  ·have hc:=World.ownsRow.cells (g:=g) h (by rw[hv];rfl);cases hv;refine(Tryz.slices_Contains_string g 0 l.length cap l x w (nR _) (by omega) (λj hj=>?_)).mono ?_
   ·have:=hc j (.string (l.getD j ByteArray.empty)) (by simp[hj]);rwa [Addr.add_lit]at this
   ·rintro e w' ⟨rfl,rfl⟩
    refine hR _ ?_;rw[Lib.containsS_iff,List.take_of_length_le (Nat.le_refl _)]
theorem DR{x:BA}{l:List BA}:x.data.toList∈l.map (λt=>t.data.toList)↔x∈l:=by
 constructor
 ·intro h;obtain⟨y,hy,e⟩:=List.mem_map.1 h;have:y=x:=by cases x;cases y;simp only at e;congr;exact Array.toList_inj.1 e
  exact this▸hy
 ·exact λh=>List.mem_map.2 ⟨x,h,rfl⟩
section
variable {w0 w:World} {Fr:As} {pb d:Nat} {ad:List Tok.Tk} {st:Ty.St}
theorem mY(H:Sat w0 w [Fr,aT pb d ad st])(v:Value)(l:List BA)(hv:w.ownsRow 0 9 1 v l.length (l.map Value.string))(hl:l.length<=2000)
  {R:EW}
  (aD:∀x w',Ty.name ad l st=.ok (x,{st with pos:=st.pos+1})->Sat w0 w' [Fr,aT pb d ad {st with pos:=st.pos+1}]->R (.returned (.string x)) w')
  (au:∀f w',Ty.name ad l st=.error f->Sat w0 w' [Fr]->R (.panicked (aO f)) w'):
  Calls prog 206 #[.pointer (some ⟨pb,0,none⟩),v] w R:=by
 have cm:=H.look;have bz:=λh1: (Ty.cur ad st.pos).kind=1=>ve cm.fits.1 cm.wf (by omega)
 have h5:=cm.wf.1;unfold Ty.name at aD au;have HN:=qh (λR=>@gP w pb d ad st cm R);unfold Ty.here at au;have HF:=qh (λw1(h:PRd w1 pb d ad st) e R=>@kK w1 pb d ad st h e R);unfold Ty.here at HF;generalize Ty.cur ad st.pos=t at*
 obtain⟨kd,tx,ps⟩:=t;dsimp only at aD au bz HF;by_cases sB:kd=1
 ·have jH:=bz sB;have k1: ((kd:Int) !=1)=false:=by simp[sB]
  have Y3:=qh sB;clear bz sB;go_in;go_wp2_with fail;refine HN.o _ (λw1 cd=>?_);dsimp only[bV];have Hk:=ay hv cd;have Eb:=qh ((H.below cd).aU (.cells #[.int .i64 kd,.string tx,.int .i64 ps] 138));have afp:=qh Hk;have af7:=qh (H.below cd);obtain⟨c1,_,f0⟩:=Eb.o.look.cells;have BN:pb<w1.heap.size:=(cm.below cd).lt;clear cd Hk;go_wp2_with fail;refine Aw _ 0 v l (afp.o.alloc _) (by omega) tx (λr hr=>?_);have HR:=qh hr;clear hr;cases r
  ·go_wp2_with fail;refine aD tx _ (by rw[if_neg (by rw[Y3.o];simp),if_neg];rw[DR];intro hm;have:=HR.o.2 hm;simp at this) ?_;exact(af7.o.setPos _ jH (by omega)).aU _
  ·go_wp2_with fail;refine HF.o _ Eb.o.look 6 _ (λw2 aW=>?_);have fG:=qh aW;clear aW;go_wp2_with fail;exact⟨rfl,au _ _ (by rw[if_neg (by rw[Y3.o];simp),if_pos (DR.2 (HR.o.1 (by trivial)))]) ((Eb.o.below fG.o).pick [0])⟩
 ·have k1: ((kd:Int) !=1)=true:=by simp;omega
  have Y3:=qh sB;clear bz sB;go_in;go_wp2_with fail;refine HN.o _ (λw1 cd=>?_);dsimp only[bV];have Eb:=qh ((H.below cd).aU (.cells #[.int .i64 kd,.string tx,.int .i64 ps] 138));clear cd;go_wp2_with fail;refine HF.o _ Eb.o.look 1 _ (λw2 aW=>?_);have fG:=qh aW;clear aW;go_wp2_with fail;exact⟨rfl,au _ _ (by rw[if_pos Y3.o]) ((Eb.o.below fG.o).pick [0])⟩
theorem AP(H:Sat w0 w [Fr,aT pb d ad st])(F:FuncId)(c:Value)(hc:∀(args:Array Value)(w:World),(callFunc F args).run prog w=.ok (.enter F args) w)
  (m:Ty.M Nat)
  (Bj:d<20->∀w1,Sat w0 w1 [Fr,aT pb (d+1) ad st]->∀R:EW,
   (∀n st2 w2,m st=.ok (n,st2)->Sat w0 w2 [Fr,aT pb (d+1) ad st2]->R (.returned (.int .i64 (n:Nat))) w2)->
   (∀f w2,m st=.error f->Sat w0 w2 [Fr]->R (.panicked (aO f)) w2)->Calls prog F #[c] w1 R)
  {R:EW}
  (aD:∀n st2 w2,d<20->m st=.ok (n,st2)->Sat w0 w2 [Fr,aT pb d ad st2]->R (.returned (.int .i64 (n:Nat))) w2)
  (au:∀f w2,(d<20->m st=.error f)->(d=20->f=Ty.here ad 8 st.pos)->Sat w0 w2 [Fr]->R (.panicked (aO f)) w2):
  Calls prog 130 #[.pointer (some ⟨pb,0,none⟩),.func (.func F) #[] #[c]] w R:=by
 have cm:=H.look;have hd:=cm.fits.2.1;obtain⟨_,c2,f0⟩:=cm.cells;by_cases Lh:d=20
 ·have d1: ((d:Int)==20)=true:=by simp[Lh]
  go_in;go_wp2_with fail;refine kK w pb d ad st cm 8 (λw1 cd=>?_);go_wp2_with fail;exact⟨rfl,au _ _ (λh=>by have:=Lh;omega) (λ_=>rfl) ((H.below cd).pick [0])⟩
 ·have d1: ((d:Int)==20)=false:=by simp;omega
  have bz:d<20:=by omega
  go_in;go_wp2_with fail;refine Bj bz _ (H.uV (d+1) (by omega)) _ (λn st2 w2 hm h2=>?_) (λf w2 hm h2=>?_)
  ·obtain⟨_,Sw,afs⟩:=h2.look.cells;have H2:=qh h2;have HM:=qh hm;go_wp2;exact aD n st2 _ bz HM.o (H2.o.uV _ (by omega))
  ·have H2:=qh h2;have HM:=qh hm;go_wp2_with fail;exact⟨rfl,au f w2 (λ_=>HM.o) (λh=>absurd h (by omega)) H2.o⟩
end
def posOf(pb:Nat)(w:World):Nat:=(intOf ((w.cell? ⟨pb,1,none⟩).getD (.int .i64 0))).toNat
theorem dq{w:World}{pb d:Nat}{ad:List Tok.Tk}{st:Ty.St}(h:PRd w pb d ad st):posOf pb w=st.pos:=by
 unfold posOf;rw[h.cells.1];simp[intOf]
theorem Prt.Sat.se{w0 w:World}{Fr A:As}{pb d:Nat}{ad:List Tok.Tk}{st:Ty.St}(h:Sat w0 w [Fr,aT pb d ad st,A]):PRd w pb d ad st:=(h.pick [0,1]).look
theorem Prt.Sat.swap{w0 w:World}{A B C:As}(h:Sat w0 w [A,B,C]):Sat w0 w [aq [A,C],B]:=by
 have h1:=Prt.Sat.pack (L:=[B]) (M:=[A,C]) (h.pick [1,0,2]);exact h1.pick [1,0]
theorem Prt.Sat.bA{w0 w:World}{A B C:As}(h:Sat w0 w [aq [A,C],B]):Sat w0 w [A,B,C]:=(h.unpack 0 rfl).pick [1,0,2]
theorem o9{α:Type}(w0 w:World)(Fr:As)(pb d:Nat)(ad:List Tok.Tk)(st:Ty.St)(Acc:List α->As)(H:Sat w0 w [Fr,aT pb d ad st,Acc []])(e:BA)(F:FuncId)(cs:Array Value)
  (hc:∀(args:Array Value)(w:World),(callFunc F args).run prog w=.ok (.enter F args) w)
  (m:List α->Ty.M α) (hM:∀l,bh 1 0 0 (m l))
  (Bj:∀l s w1,Sat w0 w1 [Fr,aT pb d ad s,Acc l]->l.length<=s.pos->∀R:EW,
   (∀n s2 w2,m l s=.ok (n,s2)->Sat w0 w2 [Fr,aT pb d ad s2,Acc (l++[n])]->R (.returned (.tuple #[])) w2)->
   (∀f w2,m l s=.error f->Sat w0 w2 [Fr]->R (.panicked (aO f)) w2)->Calls prog F cs w1 R)
  {R:EW}
  (aD:∀l s2 w2,Ty.list ad e.data.toList m (ad.length+1) [] st=.ok (l,s2)->l.length<=s2.pos->Sat w0 w2 [Fr,aT pb d ad s2,Acc l]->R (.returned (.tuple #[])) w2)
  (au:∀f w2,Ty.list ad e.data.toList m (ad.length+1) [] st=.error f->Sat w0 w2 [Fr]->R (.panicked (aO f)) w2):
  Calls prog 313 #[.pointer (some ⟨pb,0,none⟩),.string e,.func (.func F) #[] cs] w R:=by
 have cm:=H.se;have ig:=cm.fits.1;have kG:=cm.wf.1;go_in;go_wp2;go_loopw [6] (λi wr=>∃(f:Nat)(l:List α)(s:Ty.St),i=.int .i64 l.length/\s.pos<ad.length/\ad.length<s.pos+f/\l.length<=s.pos/\Hq (Sat w0 wr [Fr,aT pb d ad s,Acc l])/\Hq (Ty.list ad e.data.toList m (ad.length+1) [] st=Ty.list ad e.data.toList m f l s))
  (λ_ wr=>ad.length-posOf pb wr)
 case atStart=>exact⟨ad.length+1,[],st,rfl,ig,by omega,by simp,H,rfl⟩
 case round=>
  obtain⟨f,l,s,rfl,Ko,Uc,pG,hS,hE⟩:=hrel;obtain⟨f,rfl⟩:∃g,f=g+1:=⟨f-1,by omega⟩
  have wQ:=qh (dq hS.out.se);go_wp2_with fail;refine cB hS.out.swap e (λw1 hi h1=>?_) (λw1 hi h1=>?_)
  ·have D_:Hq (Ty.list ad e.data.toList m (ad.length+1) [] st=.ok (l,{s with pos:=s.pos+1})):=by
    rw[hE.out,Ty.list,aj hi];rfl
   have Eb:=qh h1.bA;go_wp2;go_end0;exact aD l _ w1 D_.o (by show l.length<=s.pos+1;omega) Eb.o
  ·have D_:Hq (Ty.list ad e.data.toList m (ad.length+1) [] st=Ty.ak (if l.length=0 then Ty.ret ()else Ty.need ad [44]) (λ_=>Ty.ak (m l) λn=>Ty.list ad e.data.toList m f (l++[n])) s):=by
    rw[hE.out,Ty.list,aj hi];rfl
   have Eb:=qh h1.bA;by_cases xV:l.length=0
   ·have Y8:=qh xV;obtain rfl:l=[]:=List.eq_nil_of_length_eq_zero xV;have VO:Hq (Ty.list ad e.data.toList m (ad.length+1) [] st=Ty.ak (m []) (λn=>Ty.list ad e.data.toList m f ([]++[n])) s):=by
     rw[D_.o];rfl
    go_wp2_with fail;refine Bj [] s w1 Eb.o (by simp) _ (λn s2 w2 hm h2=>?_) (λf' w2 hm h2=>?_)
    ·have qn:Hq (Ty.list ad e.data.toList m (ad.length+1) [] st=Ty.list ad e.data.toList m f ([]++[n]) s2):=by
      rw[VO.o,aj hm];rfl
     have aff:=hM _ _ _ _ hm;have mV:=h2.se.fits.1;have To:=qh (dq h2.se);have H2:=qh h2;go_wp2;go_roundw
     case rel=>exact⟨f,[]++[n],s2,by simp,mV,by omega,by simp;omega,H2,qn⟩
     case measure=>rw[wQ.o,To.o];omega
    ·have qn:Hq (Ty.list ad e.data.toList m (ad.length+1) [] st=.error f'):=by
      rw[VO.o,aL hm];rfl
     have H2:=qh h2;go_wp2_with fail;exact⟨rfl,au _ _ qn.o H2.o⟩
   ·have By:0<l.length:=by omega
    have Y8:=qh xV;go_wp2_with fail;refine cS Eb.o.swap ⟨#[44]⟩ (λw3 hn h3=>?_) (λx w3 hn h3=>?_)
    ·have vD:Hq (Ty.list ad e.data.toList m (ad.length+1) [] st=Ty.ak (m l) (λn=>Ty.list ad e.data.toList m f (l++[n])) {s with pos:=s.pos+1}):=by
      rw[D_.o,if_neg Y8.o,aj (show Ty.need ad [44] s= _ from hn)];rfl
     have ZI:=qh h3.bA;go_wp2_with fail;refine Bj l _ w3 ZI.o (by show l.length<=s.pos+1;omega) _ (λn s2 w2 hm h2=>?_) (λf' w2 hm h2=>?_)
     ·have qn:Hq (Ty.list ad e.data.toList m (ad.length+1) [] st=Ty.list ad e.data.toList m f (l++[n]) s2):=by
       rw[vD.o,aj hm];rfl
      have aff:=hM _ _ _ _ hm;have mV:=h2.se.fits.1;have To:=qh (dq h2.se);have H2:=qh h2;go_wp2;go_roundw
      case rel=>exact⟨f,l++[n],s2,by simp,mV,by omega,by simp;omega,H2,qn⟩
      case measure=>rw[wQ.o,To.o];omega
     ·have qn:Hq (Ty.list ad e.data.toList m (ad.length+1) [] st=.error f'):=by
       rw[vD.o,aL hm];rfl
      have H2:=qh h2;go_wp2_with fail;exact⟨rfl,au _ _ qn.o H2.o⟩
    ·have vD:Hq (Ty.list ad e.data.toList m (ad.length+1) [] st=.error x):=by
      rw[D_.o,if_neg Y8.o,aL (show Ty.need ad [44] s= _ from hn)];rfl
     have ZI:=qh (h3.pick [0]|>.unpack 0 rfl|>.pick [0]);go_wp2_with fail;exact⟨rfl,au _ _ vD.o ZI.o⟩
def eO(F:FuncId)(ad:List Tok.Tk)(d:Nat)(m:Ty.M Nat):Prop:=
 ∀(w0 w:World)(Fr:As)(pb:Nat)(st:Ty.St),Sat w0 w [Fr,aT pb d ad st]->∀R:EW,
  (∀n st2 w2,m st=.ok (n,st2)->Sat w0 w2 [Fr,aT pb d ad st2]->R (.returned (.int .i64 (n:Nat))) w2)->
  (∀f w2,m st=.error f->Sat w0 w2 [Fr]->R (.panicked (aO f)) w2)->Calls prog F #[.pointer (some ⟨pb,0,none⟩)] w R
theorem jA: (prog.info? 3).map (λi=>(i.zero,i.size,i.bytes))=some (some (.int .i64 0),1,8):=by kernel_rfl
def qX(pb xb:Nat):As:=ax xb (.cells #[.pointer (some ⟨pb,0,none⟩)] 80 (0,0))
def Oc(lb:Nat)(v:Value):As:=ax lb (.cells #[v] 39 (0,0))
def Nu(pb lb xb:Nat)(l:List Nat):As:=cn λv:Value=>aq [Oc lb v,gi v l,qX pb xb]
theorem jd{v:Value}{l:List Nat}{n:Nat}{a:Prt.Hp}(h:Prt.row 3 1 v (l.length+1) (l.map aQ++[.int .i64 (n:Nat)]) a):gi v (l++[n]) a:=by
 unfold gi;rw[List.length_append,List.map_append];exact h
theorem E7(w0 w:World)(Fr:As)(pb lb xb d:Nat)(ad:List Tok.Tk)(T:Ty.M Nat)(fR:eO 120 ad d T)(_:bh 1 0 0 T)
  (l:List Nat) (s:Ty.St) (H:Sat w0 w [Fr,aT pb d ad s,Nu pb lb xb l]) (hl:l.length<=s.pos) {R:EW}
  (aD:∀n s2 w2,T s=.ok (n,s2)->Sat w0 w2 [Fr,aT pb d ad s2,Nu pb lb xb (l++[n])]->R (.returned (.tuple #[])) w2)
  (au:∀f w2,T s=.error f->Sat w0 w2 [Fr]->R (.panicked (aO f)) w2):
  Calls prog 314 #[.pointer (some ⟨lb,0,none⟩),.pointer (some ⟨xb,0,none⟩)] w R:=by
 have fL:=qh aD;have bX:=qh au;have cm:=H.se;have ig:=cm.fits.1;have kG:=cm.wf.1;obtain⟨v,hs⟩:=H.ex (i:=2) rfl;have hs:Sat w0 w [Fr,aT pb d ad s,Oc lb v,gi v l,qX pb xb]:=hs.unpack 2 rfl;obtain⟨a,dt,rfl⟩:=ag (hs.row 3);have c1:=hs.cell 2 0;have c2:=hs.cell 4 0;have HS:=qh (fR w0 w.drew _ pb s (hs.drew.at 1 rfl));obtain⟨i0,ti,oB,oA,oy⟩:=info_parts jA;clear aD au fR H cm hs;go_in;go_wp2_with fail;go_region_law(first|(go_simp;go_at_call 120;refine HS.o _ (λn s2 w2 hm h2=>?_) (λf w2 hm h2=>⟨rfl,bX.o _ _ hm ((h2.unpack 0 rfl).pick [0])⟩);have h3:Sat w0 w2 [Fr,aT pb d ad s2,Oc lb (.slice a l.length dt),gi (.slice a l.length dt) l,qX pb xb]:=(Prt.Sat.uj (L:=[Fr,aT pb d ad s,Oc lb (.slice a l.length dt),gi (.slice a l.length dt) l,qX pb xb]) (i:=1) (by simp) h2);have d1:=h3.cell 2 0;have d2:=(h3.aU (.cells #[.int .i64 n] 3)).cell 2 0;have H3:=qh h3;clear h2 h3)|(go_loud(refine step_append_lies _ (by rfl) _ _ _ (by rfl) 0 3 i0 _ 1 8 underlying39 ti oB oA oy rfl (by omega) (.slice a l.length dt) l.length (l.map aQ) (by rfl) ((H3.o.row 3).alloc _) ⟨w2.heap.size,0,none⟩ 1 1 [.int .i64 n] (by rfl) (by rfl) (World.news_of_block (cs:=#[.int .i64 n]) (t:=3) (fr:=(0,0)) (aC _ _ _ (by simp))) (by simp[Value.oneCell']) (by omega) (by unfold maxLen;omega) (by omega) (by simp) (w2.heap.size+1) (by simp) ?_);intro g cap w3 ga fm qO A9;have h4:=Prt.Sat.grow (H3.o.aU _) 3 rfl fm ga (by simpa using qO);have d3:=h4.cell 2 0;have f3:=h4.free 2 rfl 0;have H4:=qh h4;clear h4))
 all_goals
  clear ga fm;go_wp2_with fail;go_end0;exact fL.o n s2 _ hm (((H4.o.store 2 rfl 0 _).cQ (i:=3) rfl (Q:=gi (.slice (some ⟨g,0,none⟩) (l.length+1) cap) (l++[n])) (λ_ h=>jd h)|>Prt.Sat.pack (L:=[Fr,aT pb d ad s2])).cQ (i:=2) rfl (λ_ h=>⟨_,h⟩))
theorem Prt.Sat.OL{w0 w:World}{A B:As}{pb lb xb:Nat}{l:List Nat}(H:Sat w0 w [A,B,Nu pb lb xb l]):∃v,Sat w0 w [A,B,Oc lb v,gi v l,qX pb xb]:=by
 obtain⟨v,hs⟩:=H.ex (i:=2) rfl;exact⟨v,hs.unpack 2 rfl⟩
theorem KC{ad:List Tok.Tk}{d:Nat}{T:Ty.M Nat}(fR:eO 120 ad d T)(hT:bh 1 0 0 T):eO 267 ad d (Ty.round ad T):=by
 intro w0 w Fr pb st H R aD au;have fL:=qh aD;have bX:=qh au;have YV:=qh fR;have HT:=qh hT;have cm:=H.look;have qL:=cm.fits.2.2.1;have HS:=qh H;clear aD au fR hT H cm;go_enter func267,ntmps267;go_wp2_with fail;have h1:=((HS.o.ar (.cells #[.pointer (some ⟨pb,0,none⟩)] 80) w.heap.size).ar (.cells #[.slice none 0 0] 39) (w.heap.size+1)).nil 3 1;have h2:Sat w0 _ [Fr,aT pb d ad st,Nu pb (w.heap.size+1) w.heap.size []]:=(Prt.Sat.pack (L:=[Fr,aT pb d ad st]) (h1.pick [0,1,3,4,2])).cQ (i:=2) rfl (λ_ h=>⟨_,h⟩);refine o9 w0 _ Fr pb d ad st (Nu pb (w.heap.size+1) w.heap.size) h2 ⟨#[41]⟩ 314 _ Tryz.call314 (λ_=>T) (λ_=>HT.o)
  (λl s w1 h hl R aD au=>E7 w0 w1 Fr pb _ _ d ad T YV.o HT.o l s h hl aD au) (λl s1 w1 UH By h3=>?_) (λf w1 UH h3=>?_)
 ·clear h1 h2;have qZ:=hU (λ_=>HT.o) _ _ _ _ _ UH;obtain⟨v,h3⟩:=h3.OL;obtain⟨a,dt,rfl⟩:=ag (h3.row 3);have cm:=h3.pick [0,1]|>.look;have x1:=h3.cell 4 0;have UQ:=qh UH;have H3:=qh h3;have aeI:=qh qZ;clear UH h3 cm qZ;go_wp2_with fail;refine cB (H3.o.at 1 rfl) ⟨#[61,62]⟩ (λw2 PQ h4=>?_) (λw2 PQ h4=>?_)
  ·have h5:Sat w0 w2 [Fr,aT pb d ad {s1 with pos:=s1.pos+1},Oc (w.heap.size+1) (.slice a l.length dt),gi (.slice a l.length dt) l,qX pb w.heap.size]:=Prt.Sat.uj (L:=[Fr,aT pb d ad s1,Oc (w.heap.size+1) (.slice a l.length dt),gi (.slice a l.length dt) l,qX pb w.heap.size]) (i:=1) (by simp) h4;have x2:=h5.cell 4 0;have y2:=h5.cell 2 0;have H5:=qh (YV.o w0 w2.drew _ pb _ (h5.drew.at 1 rfl));have Ul:=qh PQ;clear h4 h5 PQ;go_wp2_with fail;go_region_law(first|(go_simp;go_at_call 120;refine H5.o _ (λn s3 w3 LQ h6=>?_) (λf w3 LQ h6=>?_);rotate_left;(exact⟨rfl,bX.o _ _ (by rw[Ty.round,aj UQ.o,aj Ul.o,if_pos rfl,aL LQ]) ((h6.unpack 0 rfl).pick [0])⟩);have h7:Sat w0 w3 [Fr,aT pb d ad s3,Oc (w.heap.size+1) (.slice a l.length dt),gi (.slice a l.length dt) l,qX pb w.heap.size]:=Prt.Sat.uj (L:=[Fr,aT pb d ad s1,Oc (w.heap.size+1) (.slice a l.length dt),gi (.slice a l.length dt) l,qX pb w.heap.size]) (i:=1) (by simp) h6;have x3:=h7.cell 4 0;have y3:=h7.cell 2 0;have H7:=qh h7;have YB:=qh LQ;clear h6 h7 LQ)|(go_simp;go_at_call 187;refine jP ⟨9,[],l,n⟩ (.slice none 0 0) (.slice a l.length dt) ((H7.o.nil 141 2).pick [0,1,5,3]) (by have:=aeI.o;have:=HT.o _ _ _ YB.o;dsimp only at*;omega) (λw4 h8=>?_)))
   all_goals
    go_wp2_with fail;exact fL.o _ _ _ (by rw[Ty.round,aj UQ.o,aj Ul.o,if_pos rfl,aj YB.o];rfl) h8
  ·have h5:Sat w0 w2 [Fr,aT pb d ad s1,Oc (w.heap.size+1) (.slice a l.length dt),gi (.slice a l.length dt) l,qX pb w.heap.size]:=Prt.Sat.uj (L:=[Fr,aT pb d ad s1,Oc (w.heap.size+1) (.slice a l.length dt),gi (.slice a l.length dt) l,qX pb w.heap.size]) (i:=1) (by simp) h4;have x2:=h5.cell 4 0;have y2:=h5.cell 2 0;have H5:=qh h5;have Ul:=qh PQ;clear h4 h5 PQ;by_cases hl:l.length=1
   ·obtain⟨n,rfl⟩:=List.length_eq_one_iff.1 hl;have hn:=H5.o.row 3;obtain⟨g,cap,e,_,_⟩:=hn.form (by simp);cases e;have z2:w2.cell? ⟨g,0,none⟩=some (.int .i64 n):=by have:=World.ownsRow.cells hn (g:=g) rfl 0 _ rfl;rwa [Addr.add_lit]at this
    clear hn hl;go_wp2_with fail;exact fL.o _ _ _ (by rw[Ty.round,aj UQ.o,aj Ul.o];rfl) (H5.o.pick [0,1])
   ·have gR: ((l.length:Int) !=1)=true:=by simp;omega
    have HL:=qh hl;clear hl;go_wp2_with fail;refine kK w2 pb d ad s1 (H5.o.pick [0,1]).look 1 (λw3 hb=>?_);have HB:=qh (H5.o.below hb);clear hb;go_wp2_with fail;exact⟨rfl,bX.o _ _ (by rw[Ty.round,aj UQ.o,aj Ul.o,if_neg (by simp),if_neg HL.o];rfl) (HB.o.pick [0])⟩
 ·clear h1 h2;have UQ:=qh UH;have H3:=qh h3;clear UH h3;go_wp2_with fail;exact⟨rfl,bX.o _ _ (by rw[Ty.round,aL UQ.o]) H3.o⟩
end
end Go.Proofs.YtdlbhiaceheffabGreatDoor
