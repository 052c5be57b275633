/- Parts of memory, each with blocks of its own: a world bears a list of parts. -/
import Derived.Below
import Derived.OneCell
import Derived.Deep.AppendLies
import Derived.Lib.Hide
import Derived.BigRegion
import Derived.Deep.RegionLaw
import Derived.Deep.RegionLawGrows
import Derived.WalkLawsBesides
import Derived.Deep.RegionHeldLaw
import Derived.Test.YtdlbhiaceheffabGreatDoorP07
set_option linter.all false
set_option maxRecDepth 100000
set_option maxHeartbeats 1000000
namespace Go.Proofs.YtdlbhiaceheffabGreatDoor
open Go Go.RowKit Ty Tok Tryz Proofs.Tryz
namespace ak
abbrev Hp:=Nat→Option Obj
def le(a b:Hp):Prop:=∀k o,a k=some o→b k=some o
def qL(a b:Hp):Prop:=∀k,a k=none∨b k=none
def tJ(a b:Hp):Hp:=λk=>match a k with|some o=>some o|none=>b k
theorem le_refl(a:Hp):le a a:=λ_ _ h=>h
theorem le_trans{a b c:Hp}(h:le a b)(k:le b c):le a c:=λ_ _ e=>k _ _ (h _ _ e)
theorem dO{a b:Hp}(h:qL a b):qL b a:=λk=>(h k).symm
theorem iN{a b c:Hp}(h:qL a b)(hc:le c b):qL a c:=λk=>by
 rcases h k with h|h
 ·exact .inl h
 ·right;cases e:c k with
  |none=>rfl
  |some o=>rw[hc _ _ e]at h;cases h
theorem oN(a b:Hp):le a (tJ a b):=λk o h=>by simp[tJ,h]
theorem oL{a b:Hp}(h:qL a b):le b (tJ a b):=λk o e=>by
 rcases h k with h|h
 ·simp[tJ,h,e]
 ·rw[h]at e;cases e
theorem qZ{a b h:Hp}(ha:le a h)(hb:le b h):le (tJ a b) h:=λk o e=>by
 unfold tJ at e;split at e
 ·rename_i x hx;cases e;exact ha _ _ hx
 ·exact hb _ _ e
theorem pN{a b c:Hp}(ha:qL c a)(hb:qL c b):qL c (tJ a b):=λk=>by
 rcases ha k with h|h
 ·exact .inl h
 ·rcases hb k with h2|h2
  ·exact .inl h2
  ·right;simp[tJ,h,h2]
abbrev As:=Hp→Prop
def ay(b:Nat)(o:Obj):As:=λh=>h b=some o
def cn(p:Prop):As:=λ_=>p
def cA{α:Type}(P:α→As):As:=λh=>∃x,P x h
def star(P Q:As):As:=λh=>∃a b,qL a b∧le a h∧le b h∧P a∧Q b
def ah:List As→As
 |[]=>λ_=>True
 |P::L=>star P (ah L)
def hp(w:World):Hp:=λk=>w.heap[k]?
theorem iX{L:List As}{a h:Hp}(hs:ah L a)(hl:le a h):ah L h:=by
 cases L with
 |nil=>trivial
 |cons P L=>
  obtain⟨x,y,h1,h2,h3,h4,h5⟩:=hs;exact⟨x,y,h1,le_trans h2 hl,le_trans h3 hl,h4,h5⟩
theorem fL{P:As}:∀{L:List As}{i:Nat}{h:Hp},ah L h→L[i]?=some P→∃a b,qL a b∧le a h∧le b h∧P a∧ah (L.eraseIdx i) b:=by
 intro L;induction L with
 |nil=>intro i h _ hi;simp at hi
 |cons Q L ih=>
  intro i h hs hi;obtain⟨x,y,h1,h2,h3,h4,h5⟩:=hs;cases i with
  |zero=>
   simp at hi;subst hi;exact⟨x,y,h1,h2,h3,h4,h5⟩
  |succ i=>
   simp at hi;obtain⟨a,b,g1,g2,g3,g4,g5⟩:=ih h5 hi;have T8:qL x a:=iN h1 g2;have PN:qL x b:=iN h1 g3;refine⟨a,tJ x b,pN (dO T8) g1,le_trans g2 h3,qZ h2 (le_trans g3 h3),g4,?_⟩;exact⟨x,b,PN,oN _ _,oL PN,h4,g5⟩
theorem jk{P:As}:∀{L:List As}{i:Nat}{h a b:Hp},i<L.length→qL a b→le a h→le b h→P a→ah (L.eraseIdx i) b→ah (L.set i P) h:=by
 intro L;induction L with
 |nil=>intro i h a b hi;simp at hi
 |cons Q L ih=>
  intro i h a b hi h1 h2 h3 h4 h5;cases i with
  |zero=>exact⟨a,b,h1,h2,h3,h4,h5⟩
  |succ i=>
   simp at hi;obtain⟨x,y,g1,g2,g3,g4,g5⟩:=h5;have aaT:qL a x:=iN h1 g2;have YS:qL a y:=iN h1 g3;exact⟨x,tJ a y,pN (dO aaT) g1,le_trans g2 h3,qZ h2 (le_trans g3 h3),g4,ih hi YS (oN _ _) (oL YS) h4 g5⟩
theorem eu:∀{L M:List As}{a b h:Hp},ah L a→ah M b→qL a b→le a h→le b h→ah (L++M) h:=by
 intro L;induction L with
 |nil=>intro M a b h _ hM _ _ hb;exact iX hM hb
 |cons P L ih=>
  intro M a b h hL hM hd ha hb;obtain⟨x,y,h1,h2,h3,h4,h5⟩:=hL;have YE:qL y b:=dO (iN (dO hd) h3);have PN:qL x b:=dO (iN (dO hd) h2);exact⟨x,tJ y b,pN h1 PN,le_trans h2 ha,qZ (le_trans h3 ha) hb,h4,ih h5 hM YE (oN _ _) (oL YE)⟩
theorem jw:∀{L M:List As}{h:Hp},ah (L++M) h→∃a b,qL a b∧le a h∧le b h∧ah L a∧ah M b:=by
 intro L;induction L with
 |nil=>intro M h hs;exact⟨λ_=>none,h,λ_=>.inl rfl,λ_ _ e=>(by cases e),le_refl _,trivial,hs⟩
 |cons P L ih=>
  intro M h hs;obtain⟨x,y,h1,h2,h3,h4,h5⟩:=hs;obtain⟨a,b,g1,g2,g3,g4,g5⟩:=ih h5;have T8:qL x a:=iN h1 g2;have PN:qL x b:=iN h1 g3;exact⟨tJ x a,b,dO (pN (dO PN) (dO g1)),qZ h2 (le_trans g2 h3),le_trans g3 h3,⟨x,a,T8,oN _ _,oL T8,h4,g4⟩,g5⟩
structure Sat(w0 w:World)(L:List As):Prop where
 os:w.os=w0.os
 tape:w.tape=w0.tape
 output:w.output=w0.output
 mem:ah L (hp w)
section
variable {w0 w w':World} {L M:List As}
theorem Sat.uy{i:Nat}{P:As}(hi:L[i]?=some P):i<L.length:=(List.getElem?_eq_some_iff.1 hi).1
theorem Sat.Uk(h:Sat w0 w L){i:Nat}{P P':As}(hi:L[i]?=some P)(Aa:w'.os=w.os)(Tc:w'.tape=w.tape)(NA:w'.output=w.output)
  (Vf:∀a,P a→le a (hp w)→∃a',P' a'∧le a' (hp w')∧∀k,a k=none→k<w.heap.size→a' k=none∧w'.heap[k]?=w.heap[k]?):Sat w0 w' (L.set i P'):=by
 obtain⟨a,b,h1,h2,h3,h4,h5⟩:=fL h.mem hi;obtain⟨a',g1,g2,g3⟩:=Vf a h4 h2;have hb:∀k o,b k=some o→a k=none∧k<w.heap.size:=λk o e=>by
  refine⟨?_,(Array.getElem?_eq_some_iff.1 (h3 k o e)).1⟩;rcases h1 k with h1|h1
  ·exact h1
  ·rw[h1]at e;cases e
 refine⟨Aa.trans h.os,Tc.trans h.tape,NA.trans h.output,jk (Sat.uy hi) (a:=a') (b:=b) (λk=>?_) g2 (λk o e=>?_) g1 h5⟩
 ·cases e:b k with
  |none=>exact .inr rfl
  |some o=>exact .inl (g3 k (hb k o e).1 (hb k o e).2).1
 ·show w'.heap[k]?=some o;rw[(g3 k (hb k o e).1 (hb k o e).2).2];exact h3 k o e
theorem Sat.new(h:Sat w0 w L)(hb:Below w.heap.size w w'){P:As}(hP:∃a,P a∧le a (hp w')∧∀k,k<w.heap.size→a k=none):Sat w0 w' (L++[P]):=by
 obtain⟨a,h1,h2,h3⟩:=hP;refine⟨hb.os.trans h.os,hb.tape.trans h.tape,hb.output.trans h.output,?_⟩;refine eu (a:=hp w) (b:=a) h.mem ⟨a,λ_=>none,λ_=>.inr rfl,le_refl _,λ_ _ e=>(by cases e),h1,trivial⟩ (λk=>?_) (λk o e=>?_) h2
 ·by_cases hk:k<w.heap.size
  ·exact .inr (h3 k hk)
  ·exact .inl (Array.getElem?_eq_none (by omega))
 ·show w'.heap[k]?=some o;rw[hb.block k (Array.getElem?_eq_some_iff.1 e).1];exact e
theorem Sat.below(h:Sat w0 w L)(hb:Below w.heap.size w w'):Sat w0 w' L:=
 ⟨hb.os.trans h.os,hb.tape.trans h.tape,hb.output.trans h.output,iX h.mem (λk o e=>by show w'.heap[k]?=some o;rw[hb.block k (Array.getElem?_eq_some_iff.1 e).1];exact e)⟩
theorem Sat.drew(h:Sat w0 w L):Sat w0 w.drew L:=⟨h.os,h.tape,h.output,h.mem⟩
theorem Sat.alloc(h:Sat w0 w L)(o:Obj):Sat w0 (w.alloc o) (L++[ay w.heap.size o]):=
 h.new ((bR _ _).alloc (nR _) o) ⟨λk=>if k=w.heap.size then some o else none,by simp[ay],λk x e=>(by
  dsimp only at e;split at e
  ·rename_i hk;subst hk;cases e;exact heap_alloc_new w o
  ·cases e),λk hk=>by dsimp only;rw[if_neg (by omega)]⟩
theorem Sat.aj(h:Sat w0 w L)(o:Obj)(b:Nat)(hb:b=w.heap.size:=by simp):Sat w0 (w.alloc o) (L++[ay b o]):=hb▸h.alloc o
theorem Sat.aU(h:Sat w0 w L)(o:Obj):Sat w0 (w.alloc o) L:=h.below ((bR _ _).alloc (nR _) o)
theorem Sat.get(h:Sat w0 w L){i:Nat}{P:As}(hi:L[i]?=some P){p:Prop}(Vf:∀a,P a→le a (hp w)→p):p:=by
 obtain⟨a,b,_,h2,_,h4,_⟩:=fL h.mem hi;exact Vf a h4 h2
theorem Sat.cG(h:Sat w0 w L){i:Nat}{P Q:As}(hi:L[i]?=some P)(abf:∀a,P a→Q a):Sat w0 w (L.set i Q):=by
 obtain⟨a,b,h1,h2,h3,h4,h5⟩:=fL h.mem hi;exact⟨h.os,h.tape,h.output,jk (Sat.uy hi) h1 h2 h3 (abf a h4) h5⟩
theorem Sat.ex(h:Sat w0 w L){i:Nat}{α:Type}{P:α→As}(hi:L[i]?=some (cA P)):∃x,Sat w0 w (L.set i (P x)):=by
 obtain⟨a,b,h1,h2,h3,⟨x,h4⟩,h5⟩:=fL h.mem hi;exact⟨x,h.os,h.tape,h.output,jk (Sat.uy hi) h1 h2 h3 h4 h5⟩
theorem Sat.unpack(h:Sat w0 w L){i:Nat}{M:List As}(hi:L[i]?=some (ah M)):Sat w0 w (L.eraseIdx i++M):=by
 obtain⟨a,b,h1,h2,h3,h4,h5⟩:=fL h.mem hi;exact⟨h.os,h.tape,h.output,eu h5 h4 (dO h1) h3 h2⟩
theorem Sat.pack(h:Sat w0 w (L++M)):Sat w0 w (L++[ah M]):=by
 obtain⟨a,b,h1,h2,h3,h4,h5⟩:=jw h.mem;exact⟨h.os,h.tape,h.output,eu h4 (b:=b) ⟨b,λ_=>none,λ_=>.inr rfl,le_refl _,λ_ _ e=>(by cases e),h5,trivial⟩ h1 h2 h3⟩
theorem Sat.left(h:Sat w0 w (L++M)):Sat w0 w L:=by
 obtain⟨a,b,h1,h2,h3,h4,h5⟩:=jw h.mem;exact⟨h.os,h.tape,h.output,iX h4 h2⟩
end
theorem xo:∀{L:List As}{h:Hp},ah L h→∃f:Nat→Hp,(∀(i:Nat)(P:As),L[i]?=some P→P (f i))∧(∀i j,i≠j→qL (f i) (f j))∧∀i,le (f i) h:=by
 intro L;induction L with
 |nil=>intro h _;exact⟨λ_ _=>none,λi P hi=>(by simp at hi),λ_ _ _ _=>.inl rfl,λ_ _ _ e=>(by cases e)⟩
 |cons Q L ih=>
  intro h hs;obtain⟨a,b,h1,h2,h3,h4,h5⟩:=hs;obtain⟨f,g1,g2,g3⟩:=ih h5;refine⟨λi=>match i with|0=>a|i+1=>f i,λi P hi=>?_,λi j Oe=>?_,λi=>?_⟩
  ·cases i with
   |zero=>simp at hi;subst hi;exact h4
   |succ i=>simp at hi;exact g1 i P hi
  ·cases i with
   |zero=>cases j with
    |zero=>exact absurd rfl Oe
    |succ j=>exact iN h1 (g3 j)
   |succ i=>cases j with
    |zero=>exact dO (iN h1 (g3 i))
    |succ j=>exact g2 i j (by omega)
  ·cases i with
   |zero=>exact h2
   |succ i=>exact le_trans (g3 i) h3
theorem xy:∀{L:List As}{h:Hp}(f:Nat→Hp),(∀(i:Nat)(P:As),L[i]?=some P→P (f i))→(∀i j,i≠j→qL (f i) (f j))→(∀i,le (f i) h)→ah L h:=by
 intro L;induction L with
 |nil=>intros;trivial
 |cons Q L ih=>
  intro h f g1 g2 g3;refine⟨f 0,λk=>match f 0 k with|none=>h k|some _=>none,λk=>?_,g3 0,λk o e=>?_,g1 0 Q rfl,ih (λi=>f (i+1)) (λi P hi=>g1 (i+1) P (by simpa using hi)) (λi j Oe=>g2 _ _ (by omega)) (λi k o e=>?_)⟩
  ·cases hk:f 0 k with
   |none=>exact .inl rfl
   |some o=>exact .inr (by simp[hk])
  ·dsimp only at e;split at e
   ·exact e
   ·cases e
  ·rcases g2 0 (i+1) (by omega) k with hk|hk
   ·show(match f 0 k with|none=>h k|some _=>none)=some o;rw[hk];exact g3 _ _ _ e
   ·rw[hk]at e;cases e
theorem Sat.pick{w0 w:World}{L:List As}(h:Sat w0 w L)(p:List Nat)(hn:p.Nodup:=by decide)(hl:p.all (· <L.length)=true:=by rfl):Sat w0 w (p.map λi=>L.getD i (λ_=>True)):=by
 obtain⟨f,g1,g2,g3⟩:=xo h.mem;refine⟨h.os,h.tape,h.output,xy (λi=>match p[i]? with|some j=>f j|none=>λ_=>none) (λi P hi=>?_) (λi j Oe=>?_) (λi=>?_)⟩
 ·rw[List.getElem?_map]at hi
  cases e:p[i]? with
  |none=>rw[e]at hi;cases hi
  |some j=>
   rw[e]at hi
   have hj:j<L.length:=by simpa using List.all_eq_true.1 hl j (List.mem_of_getElem? e)
   have:L.getD j (λ_=>True)=P:=Option.some.inj hi;refine g1 j P ?_;rw[←this,List.getD_eq_getElem?_getD,List.getElem?_eq_getElem hj];rfl
 ·cases e1:p[i]? with
  |none=>exact λk=>.inl rfl
  |some a=>cases e2:p[j]? with
   |none=>exact λk=>.inr rfl
   |some b=>
    refine g2 a b λqY=>Oe ?_
    subst qY;exact(List.getElem?_inj (List.getElem?_eq_some_iff.1 e1).1 hn).1 (e1.trans e2.symm)
 ·cases e:p[i]? with
  |none=>exact λ_ _ e=>by cases e
  |some j=>exact g3 j
section
variable {w0 w w':World} {L M:List As}
theorem Sat.at(h:Sat w0 w L)(i:Nat){P:As}(hi:L[i]?=some P):Sat w0 w [ah (L.eraseIdx i),P]:=by
 obtain⟨a,b,h1,h2,h3,h4,h5⟩:=fL h.mem hi;exact⟨h.os,h.tape,h.output,b,a,dO h1,h3,h2,h5,a,λ_=>none,λ_=>.inr rfl,le_refl _,λ_ _ e=>(by cases e),h4,trivial⟩
theorem Sat.back{i:Nat}(hi:i<L.length){Q:As}{M:List As}(h:Sat w0 w (ah (L.eraseIdx i)::Q::M)):Sat w0 w (L.set i Q++M):=by
 obtain⟨b,r,h1,h2,h3,h5,a,m,g1,g2,g3,g4,g5⟩:=h.mem;have vX:qL a b:=dO (iN h1 g2);have UG:qL m b:=dO (iN h1 g3);refine⟨h.os,h.tape,h.output,eu (a:=tJ a b) (b:=m) (jk hi vX (oN _ _) (oL vX) g4 h5) g5 ?_ (qZ (le_trans g2 h3) h2) (le_trans g3 h3)⟩;exact dO (pN (dO g1) UG)
theorem Sat.tR{i:Nat}(hi:i<L.length){Q:As}(h:Sat w0 w [ah (L.eraseIdx i),Q]):Sat w0 w (L.set i Q):=by
 have:=Sat.back hi h;rwa [List.append_nil]at this
theorem Sat.store(h:Sat w0 w L)(i:Nat){b:Nat}{cs:Array Value}{T:TypeId}{z:Nat×Nat}(hi:L[i]?=some (ay b (.cells cs T z)))(o:Nat)(v:Value):
  Sat w0 (w.setCell ⟨b,o,none⟩ v) (L.set i (ay b (.cells (cs.setIfInBounds o v) T z))):=by
 refine h.Uk hi rfl rfl rfl λa ha hl=>⟨λk=>if k=b then some (.cells (cs.setIfInBounds o v) T z)else none,by simp[ay],λk x e=>?_,λk hk _=>?_⟩
 ·dsimp only at e;split at e
  ·rename_i hk;subst hk;cases e;have hb:w.heap[k]?=some (.cells cs T z):=hl _ _ ha;show(w.setCell ⟨k,o,none⟩ v).heap[k]?= _;simp[World.setCell,Array.getElem?_modify,hb]
  ·cases e
 ·have bZ:k≠b:=by rintro rfl;rw[show a k= _ from ha]at hk;cases hk
  exact⟨by dsimp only;rw[if_neg bZ],Below.heap_setCell _ _ _ _ bZ⟩
theorem Sat.heap(h:Sat w0 w L)(i:Nat){b:Nat}{o:Obj}(hi:L[i]?=some (ay b o)):w.heap[b]?=some o:=h.get hi λ_ ha hl=>hl _ _ ha
theorem Sat.lt(h:Sat w0 w L)(i:Nat){b:Nat}{o:Obj}(hi:L[i]?=some (ay b o)):b<w.heap.size:=(Array.getElem?_eq_some_iff.1 (h.heap i hi)).1
theorem Sat.cell(h:Sat w0 w L)(i:Nat){b:Nat}{cs:Array Value}{T:TypeId}{z:Nat×Nat}(hi:L[i]?=some (ay b (.cells cs T z)))(o:Nat){v:Value}(ho:cs[o]?=some v):w.cell? ⟨b,o,none⟩=some v:=by
 simp[World.cell?,h.heap i hi,ho]
theorem Sat.free(h:Sat w0 w L)(i:Nat){b:Nat}{cs:Array Value}{T:TypeId}(hi:L[i]?=some (ay b (.cells cs T (0,0))))(o:Nat):w.frozen? ⟨b,o,none⟩=false:=by
 simp[World.frozen?,h.heap i hi]
theorem Sat.ne(h:Sat w0 w L)(i j:Nat)(Oe:i≠j){b c:Nat}{o u:Obj}(hi:L[i]?=some (ay b o))(hj:L[j]?=some (ay c u)):b≠c:=by
 obtain⟨f,g1,g2,g3⟩:=xo h.mem
 rintro rfl
 have e1:f i b=some o:=g1 i _ hi;have e2:f j b=some u:=g1 j _ hj;rcases g2 i j Oe b with e|e
 ·rw[e]at e1;cases e1
 ·rw[e]at e2;cases e2
def row(e:TypeId)(size:Nat)(v:Value)(n:Nat)(xs:List Value):As:=λh=>
 xs.length=n*size∧
 ((v=.slice none 0 0∧n=0)∨
 ∃g cap cur,v=.slice (some ⟨g,0,none⟩) n cap∧h g=some (.cells cur e (0,0))∧n≤cap∧cap≤maxLen∧cur.size=cap*size∧cur.toList.take (n*size)=xs)
theorem Sat.row(h:Sat w0 w L)(i:Nat){e:TypeId}{size:Nat}{v:Value}{n:Nat}{xs:List Value}(hi:L[i]?=some (row e size v n xs)):w.ownsRow 0 e size v n xs:=
 h.get hi λa ha hl=>by
  refine⟨ha.1,?_⟩;rcases ha.2 with h1|⟨g,cap,cur,h1,h2,h3⟩
  ·exact .inl h1
  ·exact .inr ⟨g,cap,cur,h1,Nat.zero_le _,hl _ _ h2,h3⟩
theorem Sat.nil(h:Sat w0 w L)(e:TypeId)(size:Nat):Sat w0 w (L++[ak.row e size (.slice none 0 0) 0 []]):=
 h.new (bR _ _) ⟨λ_=>none,⟨by simp,.inl ⟨rfl,rfl⟩⟩,λ_ _ e=>(by cases e),λ_ _=>rfl⟩
theorem Sat.hZ(h:Sat w0 w L){P:As}(hP:∀a,P a):Sat w0 w (L++[P]):=h.new (bR _ _) ⟨λ_=>none,hP _,λ_ _ e=>(by cases e),λ_ _=>rfl⟩
theorem Sat.newRow(h:Sat w0 w L)(hb:Below w.heap.size w w'){base:Nat}{e:TypeId}{size:Nat}{v:Value}{n:Nat}{xs:List Value}(ho:w'.ownsRow base e size v n xs)(Y4:w.heap.size≤base):Sat w0 w' (L++[ak.row e size v n xs]):=by
 refine h.new hb ?_;obtain⟨h1,h2⟩:=ho;rcases h2 with⟨rfl,rfl⟩|⟨g,cap,cur,rfl,h3,h4,h5⟩
 ·exact⟨λ_=>none,⟨h1,.inl ⟨rfl,rfl⟩⟩,λ_ _ e=>(by cases e),λ_ _=>rfl⟩
 ·refine⟨λk=>if k=g then some (.cells cur e (0,0))else none,⟨h1,.inr ⟨g,cap,cur,rfl,if_pos rfl,h5⟩⟩,λk x ex=>?_,λk hk=>?_⟩
  ·dsimp only at ex;split at ex
   ·rename_i U5;subst U5;cases ex;exact h4
   ·cases ex
  ·dsimp only;rw[if_neg (by omega)]
theorem Sat.grow(h:Sat w0 w L)(i:Nat){e:TypeId}{size:Nat}{v:Value}{n:Nat}{xs:List Value}(hi:L[i]?=some (ak.row e size v n xs)){base g m cap:Nat}{ys:List Value}
  (hg:w.grownBy w' v.ownBlock) (ho:w'.ownsRow base e size (.slice (some ⟨g,0,none⟩) m cap) m ys) (vb:v.ownBlock=some g∨g=w.heap.size):Sat w0 w' (L.set i (ak.row e size (.slice (some ⟨g,0,none⟩) m cap) m ys)):=by
 refine h.Uk hi hg.os hg.tape hg.output λa ha hl=>?_
 obtain⟨h1,h2⟩:=ho;rcases h2 with⟨h2,_⟩|⟨g',Ao,cur,h2,_,h4,h5,h6,h7,h8⟩
 ·cases h2
 ·cases h2;refine⟨λk=>if k=g then some (.cells cur e (0,0))else none,⟨h1,.inr ⟨g,cap,cur,rfl,if_pos rfl,h5,h6,h7,h8⟩⟩,λk x ex=>?_,λk hk bm=>?_⟩
  ·dsimp only at ex;split at ex
   ·rename_i U5;subst U5;cases ex;exact h4
   ·cases ex
  ·have hv:v.ownBlock≠some k:=λev=>by
    rcases ha.2 with⟨rfl,_⟩|⟨g2,qf,acw,rfl,e2,_⟩
    ·simp[Value.ownBlock]at ev
    ·simp[Value.ownBlock]at ev;subst ev;rw[hk]at e2;cases e2
   refine⟨?_,hg.block k bm (λev=>hv ev.symm)⟩;dsimp only;rw[if_neg]
   rintro rfl
   rcases vb with vb|vb
   ·exact hv vb
   ·omega
theorem my{b:Nat}{cs:Array Value}{e:TypeId}{size n:Nat}{xs:List Value}{a:Hp}(h:ay b (.cells cs e (0,0)) a)(hm:n≤maxLen)(hs:cs.size=n*size)(hx:cs.toList=xs):ak.row e size (.slice (some ⟨b,0,none⟩) n n) n xs a:=
 ⟨by rw[←hx];simp[hs],.inr ⟨b,n,cs,rfl,h,nR _,hm,hs,by rw[←hx];exact List.take_of_length_le (by simp[hs])⟩⟩
theorem Sat.kJ{F P A:As}(h:Sat w0 w [ah [F,A],P]):Sat w0 w [F,P,A]:=(h.unpack (i:=0) rfl).pick [1,0,2]
theorem Sat.ny{F P A B:As}(h:Sat w0 w [ah [F,A,B],P]):Sat w0 w [F,P,A,B]:=(h.unpack (i:=0) rfl).pick [1,0,2,3]
theorem Sat.sj{F P A B C:As}(h:Sat w0 w [ah [F,A,B,C],P]):Sat w0 w [F,P,A,B,C]:=(h.unpack (i:=0) rfl).pick [1,0,2,3,4]
theorem Sat.Y6{F P A B C D:As}(h:Sat w0 w [ah [F,A,B,C,D],P]):Sat w0 w [F,P,A,B,C,D]:=(h.unpack (i:=0) rfl).pick [1,0,2,3,4,5]
theorem Sat.out{F:As}{M:List As}(h:Sat w0 w [ah (F::M)]):Sat w0 w [F]:=Sat.left (L:=[F]) (M:=M) (h.unpack (i:=0) rfl)
def bE(w:World):As:=λh=>∀k,k<w.heap.size→h k=w.heap[k]?
theorem Sat.fw(w:World):Sat w w [bE w]:=
 ⟨rfl,rfl,rfl,hp w,λ_=>none,λ_=>.inr rfl,le_refl _,λ_ _ e=>(by cases e),λ_ _=>rfl,trivial⟩
theorem Sat.aW{M:List As}(h:Sat w w' (bE w::M)):Below w.heap.size w w':=by
 obtain⟨a,b,_,h2,_,h4,_⟩:=h.mem;have hb:∀k,k<w.heap.size→w'.heap[k]?=w.heap[k]?:=λk hk=>by
  have h5:=h4 k hk;rw[Array.getElem?_eq_getElem hk]at h5⊢
  exact h2 _ _ h5
 refine⟨h.os,h.tape,h.output,Nat.le_of_not_lt λbm=>?_,hb⟩;have h6:=hb (w.heap.size-1) (by omega);rw[Array.getElem?_eq_none (by omega),Array.getElem?_eq_getElem (by omega)]at h6
 cases h6
theorem Sat.join{M:List As}(h:Sat w0 w L)(g:Sat w w' (bE w::M)):Sat w0 w' (L++M):=by
 have hb:=g.aW;obtain⟨a,b,h1,h2,h3,h4,h5⟩:=g.mem;refine⟨hb.os.trans h.os,hb.tape.trans h.tape,hb.output.trans h.output,eu (a:=hp w) (b:=b) h.mem h5 (λk=>?_) (λk o e=>?_) h3⟩
 ·by_cases hk:k<w.heap.size
  ·right;rcases h1 k with h6|h6
   ·have h7:=h4 k hk;rw[h6,Array.getElem?_eq_getElem hk]at h7;cases h7
   ·exact h6
  ·exact .inl (Array.getElem?_eq_none (by omega))
 ·show w'.heap[k]?=some o;rw[hb.block k (Array.getElem?_eq_some_iff.1 e).1];exact e
end
end ak
section
open ak (Sat As ay cn cA star ah)
def pQ(ad:List Tok.Tk):Prop:=ad.length≤1001∧∀t,ad.getLast?=some t→t.kind=6
def Ut(v:Value)(l:List Tok.Tk):As:=ak.row 138 3 v l.length (l.flatMap dT)
def vM(v:Value)(l:List BA):As:=ak.row 9 1 v l.length (l.map Value.string)
def cQ(p:BA×Nat):List Value:=[.string p.1,.int .i64 (p.2:Int)]
def zw(v:Value)(l:List (BA×Nat)):As:=ak.row 141 2 v l.length (l.flatMap cQ)
def aS(n:Nat):Value:=.int .i64 (n:Int)
def eZ(v:Value)(l:List Nat):As:=ak.row 3 1 v l.length (l.map aS)
structure TyRow where
 t:Ty.Ty
 fv:Value
 lv:Value
def ew(r:TyRow):List Value:=[.int .i64 r.t.kind,r.fv,r.lv,.int .i64 r.t.of]
def mQ(r:TyRow):As:=star (zw r.fv r.t.fields) (eZ r.lv r.t.list)
def oS(v:Value)(ts:List Ty.Ty):As:=cA λrows:List TyRow=>
 ah [cn (rows.map TyRow.t=ts),ak.row 69 4 v ts.length (rows.flatMap ew),ah (rows.map mQ)]
structure NdRow where
 t:Ty.Nd
 lv:Value
def eR(r:NdRow):List Value:=[.int .i64 r.t.kind,.int .i64 r.t.a,.int .i64 r.t.b,.int .i64 r.t.c,r.lv,.string r.t.text,.int .i64 r.t.n,.int .i64 r.t.ty,.int .i64 r.t.pos]
def vV(v:Value)(ns:List Ty.Nd):As:=cA λrows:List NdRow=>
 ah [cn (rows.map NdRow.t=ns),ak.row 66 9 v ns.length (rows.flatMap eR),ah (rows.map λr=>eZ r.lv r.t.list)]
def xh(pb d:Nat)(ad:List Tok.Tk)(st:Ty.St)(p:Value×Value×Value×Int):List As:=
 [cn (pQ ad∧st.pos<ad.length∧d≤20∧st.ts.length≤st.pos∧st.ns.length≤st.pos+1),
 ay pb (.cells #[p.1,.int .i64 st.pos,.int .i64 d,p.2.1,p.2.2.1,.int .i64 p.2.2.2] 86 (0,0)),Ut p.1 ad,vV p.2.1 st.ns,oS p.2.2.1 st.ts]
def aX(pb d:Nat)(ad:List Tok.Tk)(st:Ty.St):As:=cA λp:Value×Value×Value×Int=>ah (xh pb d ad st p)
structure PRd(w:World)(pb d:Nat)(ad:List Tok.Tk)(st:Ty.St):Prop where
 holds:∃(lv nv tv:Value)(main:Int),w.heap[pb]?=some (.cells #[lv,.int .i64 st.pos,.int .i64 d,nv,tv,.int .i64 main] 86 (0,0))∧jL w 0 lv ad
 wf:pQ ad
 fits:st.pos<ad.length∧d≤20∧st.ts.length≤st.pos∧st.ns.length≤st.pos+1
section
variable {w0 w:World} {L:List As}
theorem ak.Sat.pure(h:Sat w0 w L)(i:Nat){p:Prop}(hi:L[i]?=some (cn p)):p:=h.get hi λ_ h _=>h
theorem ak.Sat.oM{Fr:As}{pb d:Nat}{ad:List Tok.Tk}{st:Ty.St}(h:Sat w0 w [Fr,aX pb d ad st]):∃p,Sat w0 w (Fr::xh pb d ad st p):=by
 obtain⟨p,h⟩:=h.ex (i:=1) rfl;exact⟨p,h.unpack (i:=1) rfl⟩
theorem ak.Sat.mP{Fr:As}{pb d:Nat}{ad:List Tok.Tk}{st:Ty.St}{p:Value×Value×Value×Int}(h:Sat w0 w (Fr::xh pb d ad st p)):Sat w0 w [Fr,aX pb d ad st]:=
 (ak.Sat.pack (L:=[Fr]) h).cG (i:=1) rfl λ_ h=>⟨p,h⟩
theorem ak.Sat.look{Fr:As}{pb d:Nat}{ad:List Tok.Tk}{st:Ty.St}(h:Sat w0 w [Fr,aX pb d ad st]):PRd w pb d ad st:=by
 obtain⟨⟨lv,nv,tv,main⟩,h⟩:=h.oM;have hp:=h.pure 1 rfl;exact⟨⟨lv,nv,tv,main,h.heap 2 rfl,h.row 3 rfl⟩,hp.1,hp.2⟩
theorem ak.Sat.setPos{Fr:As}{pb d:Nat}{ad:List Tok.Tk}{st:Ty.St}(h:Sat w0 w [Fr,aX pb d ad st])(p:Nat)(hp:p<ad.length)(sE:st.pos≤p):Sat w0 (w.setCell ⟨pb,1,none⟩ (.int .i64 p)) [Fr,aX pb d ad {st with pos:=p}]:=by
 obtain⟨x,h⟩:=h.oM;have hq:=h.pure 1 rfl;refine ak.Sat.mP (p:=x) (((h.store 2 rfl 1 (.int .i64 p)).cG (i:=1) rfl (Q:=cn _) λ_ _=>?_));exact⟨hq.1,hp,hq.2.2.1,by have:=hq.2;dsimp only;omega,by have:=hq.2;dsimp only;omega⟩
theorem ak.Sat.tC{Fr:As}{pb d:Nat}{ad:List Tok.Tk}{st:Ty.St}(h:Sat w0 w [Fr,aX pb d ad st])(d':Nat)(hd:d'≤20):Sat w0 (w.setCell ⟨pb,2,none⟩ (.int .i64 d')) [Fr,aX pb d' ad st]:=by
 obtain⟨x,h⟩:=h.oM;have hq:=h.pure 1 rfl;refine ak.Sat.mP (p:=x) (((h.store 2 rfl 2 (.int .i64 d')).cG (i:=1) rfl (Q:=cn _) λ_ _=>?_));exact⟨hq.1,hq.2.1,hd,hq.2.2.2⟩
end
theorem PRd.below{w w':World}{pb d:Nat}{ad:List Tok.Tk}{st:Ty.St}(h:PRd w pb d ad st)(hb:Below w.heap.size w w'):PRd w' pb d ad st:=by
 obtain⟨⟨lv,nv,tv,main,h1,h2⟩,h3,h4⟩:=h;exact⟨⟨lv,nv,tv,main,by rw[hb.block _ (Array.getElem?_eq_some_iff.1 h1).1];exact h1,az h2 hb⟩,h3,h4⟩
theorem PRd.lt{w:World}{pb d:Nat}{ad:List Tok.Tk}{st:Ty.St}(h:PRd w pb d ad st):pb<w.heap.size:=by
 obtain⟨⟨lv,nv,tv,main,h1,_⟩,_⟩:=h;exact(Array.getElem?_eq_some_iff.1 h1).1
theorem PRd.cells{w:World}{pb d:Nat}{ad:List Tok.Tk}{st:Ty.St}(h:PRd w pb d ad st):
  w.cell? ⟨pb,1,none⟩=some (.int .i64 st.pos)∧w.cell? ⟨pb,2,none⟩=some (.int .i64 d)∧∀o,w.frozen? ⟨pb,o,none⟩=false:=by
 obtain⟨⟨lv,nv,tv,main,h1,_⟩,_⟩:=h;exact⟨by rw[cell_of_block h1];rfl,by rw[cell_of_block h1];rfl,λo=>cC h1 o⟩
theorem yO(ad:List Tok.Tk)(pos:Nat)(h:pos<ad.length):Ty.cur ad pos=ad[pos]:=by
 unfold Ty.cur;rw[List.getElem?_eq_getElem h];rfl
theorem mC{ad:List Tok.Tk}{pos:Nat}(hp:pos<ad.length)(hl:pQ ad)(h: (Ty.cur ad pos).kind≠6):pos+1<ad.length:=by
 refine Nat.lt_of_le_of_ne hp λe=>h ?_
 rw[yO ad pos hp];exact hl.2 _ (by rw[List.getLast?_eq_getElem?,List.getElem?_eq_getElem (by omega)];congr 1;simp[←e])
theorem is_lt{ad:List Tok.Tk}{s:List UInt8}{pos:Nat}(hp:pos<ad.length)(hl:pQ ad)(h:Ty.is ad s pos=true):pos+1<ad.length:=by
 refine mC hp hl λe=>?_
 unfold Ty.is at h;rw[e]at h
 simp at h
theorem EY(a:ak.Hp):oS (.slice none 0 0) [] a:=
 ⟨[],λ_=>none,λ_=>none,λ_=>.inl rfl,λ_ _ e=>(by cases e),λ_ _ e=>(by cases e),rfl,λ_=>none,λ_=>none,λ_=>.inl rfl,ak.le_refl _,ak.le_refl _,⟨rfl,.inl ⟨rfl,rfl⟩⟩,λ_=>none,λ_=>none,λ_=>.inl rfl,ak.le_refl _,ak.le_refl _,trivial,trivial⟩
theorem MN(a:ak.Hp):vV (.slice none 0 0) [] a:=
 ⟨[],λ_=>none,λ_=>none,λ_=>.inl rfl,λ_ _ e=>(by cases e),λ_ _ e=>(by cases e),rfl,λ_=>none,λ_=>none,λ_=>.inl rfl,ak.le_refl _,ak.le_refl _,⟨rfl,.inl ⟨rfl,rfl⟩⟩,λ_=>none,λ_=>none,λ_=>.inl rfl,ak.le_refl _,ak.le_refl _,trivial,trivial⟩
theorem ak.Sat.Pj{w0 w:World}{Fr:As}{pb:Nat}{ad:List Tok.Tk}{lv:Value}(hT:pQ ad∧0<ad.length)(h:Sat w0 w [Fr,Ut lv ad,ay pb (.cells #[lv,.int .i64 0,.int .i64 0,.slice none 0 0,.slice none 0 0,.int .i64 0] 86 (0,0))]):Sat w0 w [Fr,aX pb 0 ad ⟨0,[],[]⟩]:=by
 have h:=((h.hZ MN).hZ EY).hZ (P:=cn (pQ ad∧0<ad.length∧(0:Nat)≤20∧(0:Nat)≤0∧(0:Nat)≤0+1)) (λ_=>⟨hT.1,hT.2,by omega⟩);exact ak.Sat.mP (p:=(lv,.slice none 0 0,.slice none 0 0,0)) (h.pick [0,5,2,1,3,4])
def aJ(f:Ty.Ft):List PanicEntry:=[{v:=.iface 25 (.agg #[.int .i64 f.1,.int .i64 f.2]),recovered:=false}]
theorem gN(w:World)(pb d:Nat)(ad:List Tok.Tk)(st:Ty.St)(h:PRd w pb d ad st){R:EW}(hR:∀w',Below w.heap.size w w'→R (.returned (cr (Ty.cur ad st.pos))) w'):
  Calls prog 75 #[.pointer (some ⟨pb,0,none⟩)] w R:=by
 have HR:=qh hR;have bm:=h.lt;have hl:=h.wf.1;have h5:=h.fits.1;obtain⟨⟨lv,nv,tv,main,h1,h2⟩,_⟩:=h;have c0:w.cell? ⟨pb,0,none⟩=some lv:=by rw[cell_of_block h1];rfl
 have c1:w.cell? ⟨pb,1,none⟩=some (.int .i64 st.pos):=by rw[cell_of_block h1];rfl
 have bZ:ad≠[]:=by rintro rfl;simp at h5
 obtain⟨g,cap,rfl,_,hg,_,_,hc⟩:=h2.at bZ;obtain⟨t0,t1,t2⟩:=hc st.pos h5;rw[yO ad st.pos h5]at HR
 clear hR h1 h2 hc bZ;generalize ad[st.pos]=t at*
 obtain⟨kd,tx,ps⟩:=t;dsimp only at t0 t1 t2;go_in;go_wp2_with fail
 go_region
 go_wp2_with fail;refine bodyPost_ret ?_ rfl (HR.o _ ?_)
 ·simp[results,results75,go_sem,cr]
 ·repeat' (first|exact bR _ _|apply Below.drew|apply Below.setCell|apply Below.alloc|(simp;done)|(simp;omega)|omega)
theorem nU(w:World)(pb d:Nat)(ad:List Tok.Tk)(st:Ty.St)(h:PRd w pb d ad st)(x:BA){R:EW}
  (hR:∀w',Below w.heap.size w w'→R (.returned (.bool (Ty.is ad x.data.toList st.pos))) w'):
  Calls prog 210 #[.pointer (some ⟨pb,0,none⟩),.string x] w R:=by
 have HR:=qh hR;unfold Ty.is at HR;obtain⟨t,ht⟩:∃t,Ty.cur ad st.pos=t:=⟨_,rfl⟩
 rw[ht]at HR
 have HN:=qh (λw1(hb:Below w.heap.size w w1) R=>@gN w1 pb d ad st (h.below hb) R);rw[ht]at HN
 clear hR h ht;obtain⟨kd,tx,ps⟩:=t;have e1: (tx.toList==x.toList)=decide (tx.data.toList=x.data.toList):=by rw[ByteArray.toList_eq,ByteArray.toList_eq,Bool.eq_iff_iff];simp
 have hk:kd=5∨kd≠5∧kd=2∨kd≠5∧kd≠2:=by omega
 rcases hk with hk|⟨hk,wG⟩|⟨hk,wG⟩
 ·subst hk;have HE:=qh e1;clear e1;go_in;go_wp2_with fail;refine HN.o _ (bR _ _) _ (λw1 df=>?_);dsimp only[cr];have HB:=qh df;clear df;go_wp2_with fail;refine jd (HR.o _ ?_) (congrArg Value.bool ?_)
  ·repeat' (first|exact HB.o|apply Below.drew|apply Below.setCell|apply Below.alloc|(simp;done)|(simp;omega)|exact HB.o.size)
  ·rw[HE.o];simp
 ·subst wG;have HE:=qh e1;clear e1 hk;go_in;go_wp2_with fail;refine HN.o _ (bR _ _) _ (λw1 df=>?_);dsimp only[cr];have HB:=qh df;clear df;go_wp2_with fail;refine jd (HR.o _ ?_) (congrArg Value.bool ?_)
  ·repeat' (first|exact HB.o|apply Below.drew|apply Below.setCell|apply Below.alloc|(simp;done)|(simp;omega)|exact HB.o.size)
  ·rw[HE.o];simp
 ·have k1: ((kd:Int)==5)=false:=by simp;omega
  have k2: ((kd:Int)==2)=false:=by simp;omega
  clear e1;go_in;go_wp2_with fail;refine HN.o _ (bR _ _) _ (λw1 df=>?_);dsimp only[cr];have HB:=qh df;clear df;go_wp2_with fail;refine jd (HR.o _ ?_) (congrArg Value.bool ?_)
  ·repeat' (first|exact HB.o|apply Below.drew|apply Below.setCell|apply Below.alloc|(simp;done)|(simp;omega)|exact HB.o.size)
  ·simp[hk,wG]
theorem j6(a b c:Value)(w:World): (Instr.field 138 (.agg #[a,b,c]) 2).run prog w=.ok c w:=by kernel_rfl
theorem ml(w:World)(pb d:Nat)(ad:List Tok.Tk)(st:Ty.St)(h:PRd w pb d ad st)(e:Nat){R:EW}
  (hR:∀w',Below w.heap.size w w'→R (.panicked (aJ (Ty.here ad e st.pos))) w'):
  Calls prog 121 #[.pointer (some ⟨pb,0,none⟩),.int .i64 e] w R:=by
 have HR:=qh hR;unfold Ty.here at HR;obtain⟨t,ht⟩:∃t,Ty.cur ad st.pos=t:=⟨_,rfl⟩
 rw[ht]at HR
 have HN:=qh (λR=>@gN w pb d ad st h R);rw[ht]at HN
 clear hR h ht;obtain⟨kd,tx,ps⟩:=t;go_in;go_wp2_with fail;refine HN.o _ (λw1 df=>?_);dsimp only[cr];have HB:=qh df;clear df;have hf:=j6;go_wp2_with fail;exact⟨rfl,HR.o _ HB.o⟩
section
variable {w0 w:World} {Fr:As} {pb d:Nat} {ad:List Tok.Tk} {st:Ty.St}
theorem cD(H:Sat w0 w [Fr,aX pb d ad st])(x:BA){R:EW}
  (oq:∀w',Ty.take ad x.data.toList st=.ok (true,{st with pos:=st.pos+1})→Sat w0 w' [Fr,aX pb d ad {st with pos:=st.pos+1}]→R (.returned (.bool true)) w')
  (fV:∀w',Ty.take ad x.data.toList st=.ok (false,st)→Sat w0 w' [Fr,aX pb d ad st]→R (.returned (.bool false)) w'):
  Calls prog 186 #[.pointer (some ⟨pb,0,none⟩),.string x] w R:=by
 have HY:=qh oq;have yA:=qh fV;have HS:=qh H;have hl:=H.look;have HL:=qh hl;clear oq fV H;cases hi:Ty.is ad x.data.toList st.pos
 ·have HI:=qh hi;clear hi hl;go_in;go_wp2_with fail;refine nU w pb d ad st HL.o x (λw1 df=>?_);rw[HI.o];have HB:=qh df;clear df;go_wp2_with fail;exact yA.o _ (by unfold Ty.take;rw[HI.o];rfl) (HS.o.below HB.o)
 ·have bm:=is_lt hl.fits.1 hl.wf hi;have h5:=hl.wf.1;have HI:=qh hi;clear hi hl;go_in;go_wp2_with fail;refine nU w pb d ad st HL.o x (λw1 df=>?_);rw[HI.o];obtain⟨c1,_,f0⟩:=(HL.o.below df).cells;have HB:=qh df;clear df;go_wp2_with fail;exact HY.o _ (by unfold Ty.take;rw[HI.o];rfl) ((HS.o.below HB.o).setPos _ bm (by omega))
theorem cP(H:Sat w0 w [Fr,aX pb d ad st])(x:BA){R:EW}
  (oq:∀w',Ty.need ad x.data.toList st=.ok ((),{st with pos:=st.pos+1})→Sat w0 w' [Fr,aX pb d ad {st with pos:=st.pos+1}]→R (.returned (.tuple #[])) w')
  (fV:∀f w',Ty.need ad x.data.toList st=.error f→Sat w0 w' [Fr]→R (.panicked (aJ f)) w'):
  Calls prog 208 #[.pointer (some ⟨pb,0,none⟩),.string x] w R:=by
 have HY:=qh oq;have yA:=qh fV;have HS:=qh H;clear oq fV H;go_in;go_wp2_with fail;refine cD HS.o x (λw1 hi H1=>?_) (λw1 hi H1=>?_)
 ·have HI:=qh hi;have v8:=qh H1;clear hi H1;go_wp2_with fail;go_end0;refine HY.o _ ?_ v8.o;have hi:=HI.o;unfold Ty.take at hi;unfold Ty.need;split at hi
  ·rw[if_pos (by assumption)]
  ·simp at hi
 ·have HI:=qh hi;have v8:=qh H1;clear hi H1;go_wp2_with fail;refine ml w1 pb d ad st v8.o.look 1 (λw2 aI=>?_);have HB:=qh (v8.o.below aI);clear aI;go_wp2_with fail;refine⟨rfl,yA.o _ _ ?_ (HB.o.pick [0])⟩;have hi:=HI.o;unfold Ty.take at hi;unfold Ty.need;split at hi
  ·simp at hi
  ·rw[if_neg (by assumption)]
end
theorem JU: (prog.info? 69).map (λi=>(i.zero,i.size,i.bytes))=some (some (.agg #[.int .i64 0,.slice none 0 0,.slice none 0 0,.int .i64 0]),4,64):=by kernel_rfl
theorem ak.t_{L:List As}{P:As}{h:ak.Hp}(hs:ah [ah L,P] h):ah (L++[P]) h:=by
 obtain⟨a,b,h1,h2,h3,h4,h5⟩:=hs;exact ak.eu h4 h5 h1 h2 h3
section
variable {w0 w:World} {Fr:As} {pb d:Nat} {ad:List Tok.Tk} {st:Ty.St}
def I0(pb d:Nat)(ad:List Tok.Tk)(st:Ty.St)(p:Value×Value×Value×Int)(n:Nat)(cells:List Value)(rows:List TyRow)(ts:List Ty.Ty):List As:=
 [cn (pQ ad∧st.pos<ad.length∧d≤20∧st.ts.length≤st.pos∧st.ns.length≤st.pos+1),
 ay pb (.cells #[p.1,.int .i64 st.pos,.int .i64 d,p.2.1,p.2.2.1,.int .i64 p.2.2.2] 86 (0,0)),Ut p.1 ad,vV p.2.1 st.ns,
 cn (rows.map TyRow.t=ts),ak.row 69 4 p.2.2.1 n cells,ah (rows.map mQ)]
theorem ak.Sat.P3{A B:As}(h:Sat w0 w [Fr,aX pb d ad st,A,B]):∃p rows,Sat w0 w (Fr::A::B::I0 pb d ad st p st.ts.length (rows.flatMap ew) rows st.ts):=by
 obtain⟨p,h⟩:=h.ex (i:=1) rfl;obtain⟨rows,h⟩:=(h.unpack (i:=1) rfl).ex (i:=7) rfl;exact⟨p,rows,h.unpack (i:=7) rfl⟩
theorem ak.Sat.O3{p:Value×Value×Value×Int}{rows:List TyRow}{t:Ty.Ty}{fv lv:Value}(h:Sat w0 w (Fr::zw fv t.fields::eZ lv t.list::I0 pb d ad st p (st.ts.length+1) (rows.flatMap ew++ew ⟨t,fv,lv⟩) rows st.ts))(hb:st.ts.length+1≤st.pos):
  Sat w0 w [Fr,aX pb d ad {st with ts:=st.ts++[t]}]:=by
 have h:=h.pick [0,3,4,5,6,7,8,9,1,2];have hq:=h.pure 1 rfl;have hr:=h.pure 5 rfl;have h:=ak.Sat.pack (L:=[Fr,_,_,_,_,_,_,ah (rows.map mQ)]) (M:=[zw fv t.fields,eZ lv t.list]) h;have h:=h.cG (i:=8) rfl (Q:=mQ (TyRow.mk t fv lv)) (λa ha=>by
  obtain⟨x,y,h1,h2,h3,h4,u,v,_,h6,_,h8,_⟩:=ha;exact⟨x,y,h1,h2,h3,h4,(by
   obtain⟨k1,k2⟩:=h8;refine⟨k1,?_⟩;rcases k2 with k2|⟨g,cap,cur,e1,e2,e3⟩
   ·exact .inl k2
   ·exact .inr ⟨g,cap,cur,e1,h6 _ _ e2,e3⟩)⟩)
 have h:=ak.Sat.pack (L:=[Fr,_,_,_,_,_,_]) (M:=[ah (rows.map mQ),mQ (TyRow.mk t fv lv)]) h;have h:=h.cG (i:=7) rfl (Q:=ah ((rows++[TyRow.mk t fv lv]).map mQ)) (λa ha=>by rw[List.map_append];exact ak.t_ ha);have h:=h.cG (i:=5) rfl (Q:=cn ((rows++[TyRow.mk t fv lv]).map TyRow.t=st.ts++[t])) (λa _=>by show _= _;rw[List.map_append,hr];rfl);have h:=h.cG (i:=6) rfl (Q:=ak.row 69 4 p.2.2.1 (st.ts++[t]).length ((rows++[TyRow.mk t fv lv]).flatMap ew)) (λa ha=>by rw[List.flatMap_append,List.length_append];exact ha);have h:=ak.Sat.pack (L:=[Fr,_,_,_,_]) (M:=[_,_,_]) h;have h:=h.cG (i:=5) rfl (Q:=oS p.2.2.1 (st.ts++[t])) (λa ha=>⟨_,ha⟩);have h:=h.cG (i:=1) rfl (Q:=cn (pQ ad∧st.pos<ad.length∧d≤20∧(st.ts++[t]).length≤st.pos∧st.ns.length≤st.pos+1)) (λa _=>⟨hq.1,hq.2.1,hq.2.2.1,by simpa using hb,hq.2.2.2.2⟩);exact ak.Sat.mP (p:=p) h
theorem jy(t:Ty.Ty)(fv lv:Value)(H:Sat w0 w [Fr,aX pb d ad st,zw fv t.fields,eZ lv t.list])(hb:st.ts.length+1≤st.pos)
  {R:EW} (hR:∀w',Sat w0 w' [Fr,aX pb d ad {st with ts:=st.ts++[t]}]→R (.returned (.int .i64 st.ts.length)) w'):
  Calls prog 187 #[.pointer (some ⟨pb,0,none⟩),.agg #[.int .i64 t.kind,fv,lv,.int .i64 t.of]] w R:=by
 have HR:=qh hR;obtain⟨i0,ti,mx,mu,mw⟩:=info_parts JU;obtain⟨⟨Nq,nv,tv,main⟩,rows,hs⟩:=H.P3;have hs:Sat w0 w (Fr::zw fv t.fields::eZ lv t.list::I0 pb d ad st (Nq,nv,tv,main) st.ts.length (rows.flatMap ew) rows st.ts):=hs;have hq:=hs.pure 3 rfl;have hlen:=hq.1.1;have fs:=hq.2.1;have zi:st.ts.length≤1000:=by omega
 have c4:=hs.cell 4 rfl 4 rfl;have f4:=hs.free 4 rfl 4;have bm:=hs.lt 4 rfl;have hr:=hs.row 8 rfl;obtain⟨a,dr,rfl⟩:=ag hr;obtain⟨fa,fc,rfl⟩:=ag (hs.row 1 rfl);obtain⟨la,lc,rfl⟩:=ag (hs.row 2 rfl);have dG:=qh hr;have HS:=qh hs;have HB:=qh hb;clear hR H hs hq hr hb;go_in;go_wp2_with fail;go_region_law(first
  |(go_loud(refine step_append_lies _ (by rfl) _ _ _ (by rfl) 0 69 i0 _ 4 64 underlying29 ti mx mu mw rfl (by omega) (.slice a st.ts.length dr) st.ts.length (rows.flatMap ew) (by rfl) (((dG.o.alloc _).alloc _).drew) ⟨w.heap.size+1,0,none⟩ 1 1 [.int .i64 t.kind,.slice fa t.fields.length fc,.slice la t.list.length lc,.int .i64 t.of] (by rfl) (by rfl) (World.news_of_block (cs:=#[.int .i64 t.kind,.slice fa t.fields.length fc,.slice la t.list.length lc,.int .i64 t.of]) (t:=69) (fr:=(0,0)) (ey (aH _ _ _ (by simp)))) (by simp[Value.oneCell']) (by omega) (by have:=HB.o;unfold maxLen;omega) (by have:=HB.o;omega) (by simp) (w.heap.size+2) (by simp) ?_);intro g cap w1 sw kv vb jE;have h1:=ak.Sat.grow ((HS.o.aU _).aU _).drew 8 rfl kv sw (by simpa using vb);have d4:=h1.cell 4 rfl 4 rfl;have e4:=h1.free 4 rfl 4;have H1:=qh h1;clear h1))
 all_goals
  clear sw kv;go_wp2_with fail;exact HR.o _ (ak.Sat.O3 (p:=(Nq,nv,.slice (some ⟨g,0,none⟩) (st.ts.length+1) cap,main)) (rows:=rows) (H1.o.store 4 rfl 4 _) HB.o)
end
theorem xT(w:World)(B:Nat)(v:Value)(l:List BA)(h:w.ownsRow B 9 1 v l.length (l.map Value.string))(hl:l.length≤100000)(x:BA){R:EW}(hR:∀r:Bool,(r=true↔x∈l)→R (.returned (.bool r)) w):
  Calls prog 279 #[v,.string x] w R:=by
 obtain⟨a,cap,rfl⟩:=ag h;by_cases h0:l=[]
 ·subst h0;refine(Tryz.slices_Contains_string_empty a cap x w).mono ?_
  rintro e w' ⟨rfl,rfl⟩
  exact hR false (by simp)
 ·rcases h.2 with⟨_,hn⟩|⟨g,Ao,cur,hv,_⟩
  ·exact absurd (List.eq_nil_of_length_eq_zero hn) h0
  ·have hc:=World.ownsRow.cells (g:=g) h (by rw[hv];rfl);cases hv;refine(Tryz.slices_Contains_string g 0 l.length cap l x w (nR _) (by omega) (λj hj=>?_)).mono ?_
   ·have:=hc j (.string (l.getD j ByteArray.empty)) (by simp[hj]);rwa [Addr.add_lit]at this
   ·rintro e w' ⟨rfl,rfl⟩
    refine hR _ ?_;rw[Lib.containsS_iff,List.take_of_length_le (Nat.le_refl _)]
theorem zt{x:BA}{l:List BA}:x.data.toList∈l.map (λt=>t.data.toList)↔x∈l:=by
 constructor
 ·intro h;obtain⟨y,hy,e⟩:=List.mem_map.1 h;have:y=x:=by cases x;cases y;simp only at e;congr;exact Array.toList_inj.1 e
  exact this▸hy
 ·exact λh=>List.mem_map.2 ⟨x,h,rfl⟩
section
variable {w0 w:World} {Fr:As} {pb d:Nat} {ad:List Tok.Tk} {st:Ty.St}
theorem lN(H:Sat w0 w [Fr,aX pb d ad st])(v:Value)(l:List BA)(hv:w.ownsRow 0 9 1 v l.length (l.map Value.string))(hl:l.length≤2000)
  {R:EW}
  (aF:∀x w',Ty.name ad l st=.ok (x,{st with pos:=st.pos+1})→Sat w0 w' [Fr,aX pb d ad {st with pos:=st.pos+1}]→R (.returned (.string x)) w')
  (av:∀f w',Ty.name ad l st=.error f→Sat w0 w' [Fr]→R (.panicked (aJ f)) w'):
  Calls prog 206 #[.pointer (some ⟨pb,0,none⟩),v] w R:=by
 have aY:=qh aF;have aB:=qh av;have HS:=qh H;have HV:=qh hv;have bD:=H.look;have HL:=qh bD;have bm:=λh1: (Ty.cur ad st.pos).kind=1=>mC bD.fits.1 bD.wf (by omega)
 have h5:=bD.wf.1;unfold Ty.name at aY aB;have HN:=qh (λR=>@gN w pb d ad st bD R);unfold Ty.here at aB;have HF:=qh (λw1(h:PRd w1 pb d ad st) e R=>@ml w1 pb d ad st h e R);unfold Ty.here at HF;generalize Ty.cur ad st.pos=t at*
 clear aF av H hv bD;obtain⟨kd,tx,ps⟩:=t;dsimp only at aY aB bm HF;by_cases kK:kd=1
 ·have jE:=bm kK;have k1: ((kd:Int) !=1)=false:=by simp[kK]
  have Hy:=qh kK;clear bm kK;go_in;go_wp2_with fail;refine HN.o _ (λw1 df=>?_);dsimp only[cr];have Ov:=az HV.o df;have v8:=qh ((HS.o.below df).aU (.cells #[.int .i64 kd,.string tx,.int .i64 ps] 138));have acz:=qh Ov;have Tj:=qh (HS.o.below df);obtain⟨c1,_,f0⟩:=v8.o.look.cells;have v7:pb<w1.heap.size:=(HL.o.below df).lt;clear df Ov;go_wp2_with fail;refine xT _ 0 v l (acz.o.alloc _) (by omega) tx (λr hr=>?_);have HR:=qh hr;clear hr;cases r
  ·go_wp2_with fail;refine aY.o tx _ (by rw[if_neg (by rw[Hy.o];simp),if_neg];rw[zt];intro hm;have:=HR.o.2 hm;simp at this) ?_;exact(Tj.o.setPos _ jE (by omega)).aU _
  ·go_wp2_with fail;refine HF.o _ v8.o.look 6 _ (λw2 aI=>?_);have c8:=qh aI;clear aI;go_wp2_with fail;exact⟨rfl,aB.o _ _ (by rw[if_neg (by rw[Hy.o];simp),if_pos (zt.2 (HR.o.1 (by trivial)))]) ((v8.o.below c8.o).pick [0])⟩
 ·have k1: ((kd:Int) !=1)=true:=by simp;omega
  have Hy:=qh kK;clear bm kK;go_in;go_wp2_with fail;refine HN.o _ (λw1 df=>?_);dsimp only[cr];have v8:=qh ((HS.o.below df).aU (.cells #[.int .i64 kd,.string tx,.int .i64 ps] 138));have hz:=df.size;clear df;go_wp2_with fail;refine HF.o _ v8.o.look 1 _ (λw2 aI=>?_);have c8:=qh aI;clear aI;go_wp2_with fail;exact⟨rfl,aB.o _ _ (by rw[if_pos Hy.o]) ((v8.o.below c8.o).pick [0])⟩
theorem xV(H:Sat w0 w [Fr,aX pb d ad st])(F:FuncId)(c:Value)(hc:∀(args:Array Value)(w:World),(callFunc F args).run prog w=.ok (.enter F args) w)
  (m:Ty.M Nat)
  (yq:d<20→∀w1,Sat w0 w1 [Fr,aX pb (d+1) ad st]→∀R:EW,
   (∀n st2 w2,m st=.ok (n,st2)→Sat w0 w2 [Fr,aX pb (d+1) ad st2]→R (.returned (.int .i64 (n:Nat))) w2)→
   (∀f w2,m st=.error f→Sat w0 w2 [Fr]→R (.panicked (aJ f)) w2)→Calls prog F #[c] w1 R)
  {R:EW}
  (aF:∀n st2 w2,d<20→m st=.ok (n,st2)→Sat w0 w2 [Fr,aX pb d ad st2]→R (.returned (.int .i64 (n:Nat))) w2)
  (av:∀f w2,(d<20→m st=.error f)→(d=20→f=Ty.here ad 8 st.pos)→Sat w0 w2 [Fr]→R (.panicked (aJ f)) w2):
  Calls prog 130 #[.pointer (some ⟨pb,0,none⟩),.func (.func F) #[] #[c]] w R:=by
 have aY:=qh aF;have aB:=qh av;have Eb:=qh yq;have HS:=qh H;have bD:=H.look;have hd:=bD.fits.2.1;obtain⟨_,c2,f0⟩:=bD.cells;have HL:=qh bD;clear aF av yq H bD;by_cases N0:d=20
 ·have d1: ((d:Int)==20)=true:=by simp[N0]
  have HD:=qh N0;clear N0 hd;go_in;go_wp2_with fail;refine ml w pb d ad st HL.o 8 (λw1 df=>?_);have HB:=qh df;clear df;go_wp2_with fail;exact⟨rfl,aB.o _ _ (λh=>by have:=HD.o;omega) (λ_=>rfl) ((HS.o.below HB.o).pick [0])⟩
 ·have d1: ((d:Int)==20)=false:=by simp;omega
  have bm:d<20:=by omega
  clear N0;go_in;go_wp2_with fail;refine Eb.o bm _ (HS.o.tC (d+1) (by omega)) _ (λn st2 w2 hm h2=>?_) (λf w2 hm h2=>?_)
  ·obtain⟨_,Nv,abT⟩:=h2.look.cells;have H2:=qh h2;have HM:=qh hm;clear h2 hm;go_wp2_with fail;exact aY.o n st2 _ bm HM.o (H2.o.tC _ (by omega))
  ·have H2:=qh h2;have HM:=qh hm;clear h2 hm;go_wp2_with fail;exact⟨rfl,aB.o f w2 (λ_=>HM.o) (λh=>absurd h (by omega)) H2.o⟩
end
def posOf(pb:Nat)(w:World):Nat:=(intOf ((w.cell? ⟨pb,1,none⟩).getD (.int .i64 0))).toNat
theorem dm{w:World}{pb d:Nat}{ad:List Tok.Tk}{st:Ty.St}(h:PRd w pb d ad st):posOf pb w=st.pos:=by
 unfold posOf;rw[h.cells.1];simp[intOf]
theorem ak.Sat.pO{w0 w:World}{Fr A:As}{pb d:Nat}{ad:List Tok.Tk}{st:Ty.St}(h:Sat w0 w [Fr,aX pb d ad st,A]):PRd w pb d ad st:=(h.pick [0,1]).look
theorem ak.Sat.swap{w0 w:World}{A B C:As}(h:Sat w0 w [A,B,C]):Sat w0 w [ah [A,C],B]:=by
 have h1:=ak.Sat.pack (L:=[B]) (M:=[A,C]) (h.pick [1,0,2]);exact h1.pick [1,0]
theorem ak.Sat.Cu{w0 w:World}{A B C:As}(h:Sat w0 w [ah [A,C],B]):Sat w0 w [A,B,C]:=(h.unpack (i:=0) rfl).pick [1,0,2]
theorem nG{α:Type}(w0 w:World)(Fr:As)(pb d:Nat)(ad:List Tok.Tk)(st:Ty.St)(Acc:List α→As)(H:Sat w0 w [Fr,aX pb d ad st,Acc []])(e:BA)(F:FuncId)(cs:Array Value)
  (hc:∀(args:Array Value)(w:World),(callFunc F args).run prog w=.ok (.enter F args) w)
  (m:List α→Ty.M α) (hM:∀l,bg 1 0 0 (m l))
  (yq:∀l s w1,Sat w0 w1 [Fr,aX pb d ad s,Acc l]→l.length≤s.pos→∀R:EW,
   (∀n s2 w2,m l s=.ok (n,s2)→Sat w0 w2 [Fr,aX pb d ad s2,Acc (l++[n])]→R (.returned (.tuple #[])) w2)→
   (∀f w2,m l s=.error f→Sat w0 w2 [Fr]→R (.panicked (aJ f)) w2)→Calls prog F cs w1 R)
  {R:EW}
  (aF:∀l s2 w2,Ty.list ad e.data.toList m (ad.length+1) [] st=.ok (l,s2)→l.length≤s2.pos→Sat w0 w2 [Fr,aX pb d ad s2,Acc l]→R (.returned (.tuple #[])) w2)
  (av:∀f w2,Ty.list ad e.data.toList m (ad.length+1) [] st=.error f→Sat w0 w2 [Fr]→R (.panicked (aJ f)) w2):
  Calls prog 313 #[.pointer (some ⟨pb,0,none⟩),.string e,.func (.func F) #[] cs] w R:=by
 have aY:=qh aF;have aB:=qh av;have Eb:=qh yq;have HM:=qh hM;have bD:=H.pO;have HS:=qh H;have fs:=bD.fits.1;have jK:=bD.wf.1;clear aF av yq hM H bD;go_in;go_wp2_with fail;go_loopw [6] (λi wr=>∃(f:Nat)(l:List α)(s:Ty.St),i=.int .i64 l.length∧s.pos<ad.length∧ad.length<s.pos+f∧l.length≤s.pos∧Hq (Sat w0 wr [Fr,aX pb d ad s,Acc l])∧Hq (Ty.list ad e.data.toList m (ad.length+1) [] st=Ty.list ad e.data.toList m f l s))
  (λ_ wr=>ad.length-posOf pb wr)
 case atStart=>exact⟨ad.length+1,[],st,rfl,fs,by omega,by simp,HS.o,rfl⟩
 case round=>
  obtain⟨f,l,s,rfl,uh,Q6,oV,hS,hE⟩:=hrel;obtain⟨f,rfl⟩:∃g,f=g+1:=⟨f-1,by omega⟩
  have oH:=qh (dm hS.out.pO);go_wp2_with fail;refine cD hS.out.swap e (λw1 hi h1=>?_) (λw1 hi h1=>?_)
  ·have v_:Hq (Ty.list ad e.data.toList m (ad.length+1) [] st=.ok (l,{s with pos:=s.pos+1})):=by
    rw[hE.out,Ty.list,aw hi];rfl
   have v8:=qh h1.Cu;clear hi h1;go_wp2_with fail;go_end0;exact aY.o l _ w1 v_.o (by show l.length≤s.pos+1;omega) v8.o
  ·have v_:Hq (Ty.list ad e.data.toList m (ad.length+1) [] st=Ty.ar (if l.length=0 then Ty.ret ()else Ty.need ad [44]) (λ_=>Ty.ar (m l) λn=>Ty.list ad e.data.toList m f (l++[n])) s):=by
    rw[hE.out,Ty.list,aw hi];rfl
   have v8:=qh h1.Cu;clear hi h1 hE hS;by_cases yS:l.length=0
   ·have X0:=qh yS;obtain rfl:l=[]:=List.eq_nil_of_length_eq_zero yS;have Sb:Hq (Ty.list ad e.data.toList m (ad.length+1) [] st=Ty.ar (m []) (λn=>Ty.list ad e.data.toList m f ([]++[n])) s):=by
     rw[v_.o];rfl
    clear v_ yS;go_wp2_with fail;refine Eb.o [] s w1 v8.o (by simp) _ (λn s2 w2 hm h2=>?_) (λf' w2 hm h2=>?_)
    ·have oj:Hq (Ty.list ad e.data.toList m (ad.length+1) [] st=Ty.list ad e.data.toList m f ([]++[n]) s2):=by
      rw[Sb.o,aw hm];rfl
     have UD:=HM.o _ _ _ _ hm;have kL:=h2.pO.fits.1;have Ce:=qh (dm h2.pO);have H2:=qh h2;have ZA:s.pos<s2.pos:=by omega
     clear hm UD h2;go_wp2_with fail;go_roundw
     case rel=>exact⟨f,[]++[n],s2,by simp,kL,by omega,by simp;omega,H2,oj⟩
     case measure=>rw[oH.o,Ce.o];omega
    ·have oj:Hq (Ty.list ad e.data.toList m (ad.length+1) [] st=.error f'):=by
      rw[Sb.o,aQ hm];rfl
     have H2:=qh h2;clear hm h2;go_wp2_with fail;exact⟨rfl,aB.o _ _ oj.o H2.o⟩
   ·have pK:0<l.length:=by omega
    have X0:=qh yS;clear yS;go_wp2_with fail;refine cP v8.o.swap ⟨#[44]⟩ (λw3 hn h3=>?_) (λx w3 hn h3=>?_)
    ·have sH:Hq (Ty.list ad e.data.toList m (ad.length+1) [] st=Ty.ar (m l) (λn=>Ty.list ad e.data.toList m f (l++[n])) {s with pos:=s.pos+1}):=by
      rw[v_.o,if_neg X0.o,aw (show Ty.need ad [44] s= _ from hn)];rfl
     have V2:=qh h3.Cu;clear hn h3 v_ v8;go_wp2_with fail;refine Eb.o l _ w3 V2.o (by show l.length≤s.pos+1;omega) _ (λn s2 w2 hm h2=>?_) (λf' w2 hm h2=>?_)
     ·have oj:Hq (Ty.list ad e.data.toList m (ad.length+1) [] st=Ty.list ad e.data.toList m f (l++[n]) s2):=by
       rw[sH.o,aw hm];rfl
      have UD:=HM.o _ _ _ _ hm;have kL:=h2.pO.fits.1;have Ce:=qh (dm h2.pO);have H2:=qh h2;have ZA:s.pos+1<s2.pos:=by dsimp only at UD;omega
      clear hm UD h2;go_wp2_with fail;go_roundw
      case rel=>exact⟨f,l++[n],s2,by simp,kL,by omega,by simp;omega,H2,oj⟩
      case measure=>rw[oH.o,Ce.o];omega
     ·have oj:Hq (Ty.list ad e.data.toList m (ad.length+1) [] st=.error f'):=by
       rw[sH.o,aQ hm];rfl
      have H2:=qh h2;clear hm h2;go_wp2_with fail;exact⟨rfl,aB.o _ _ oj.o H2.o⟩
    ·have sH:Hq (Ty.list ad e.data.toList m (ad.length+1) [] st=.error x):=by
      rw[v_.o,if_neg X0.o,aQ (show Ty.need ad [44] s= _ from hn)];rfl
     have V2:=qh (h3.pick [0]|>.unpack (i:=0) rfl|>.pick [0]);clear hn h3;go_wp2_with fail;exact⟨rfl,aB.o _ _ sH.o V2.o⟩
def eB(F:FuncId)(ad:List Tok.Tk)(d:Nat)(m:Ty.M Nat):Prop:=
 ∀(w0 w:World)(Fr:As)(pb:Nat)(st:Ty.St),Sat w0 w [Fr,aX pb d ad st]→∀R:EW,
  (∀n st2 w2,m st=.ok (n,st2)→Sat w0 w2 [Fr,aX pb d ad st2]→R (.returned (.int .i64 (n:Nat))) w2)→
  (∀f w2,m st=.error f→Sat w0 w2 [Fr]→R (.panicked (aJ f)) w2)→Calls prog F #[.pointer (some ⟨pb,0,none⟩)] w R
theorem jo: (prog.info? 3).map (λi=>(i.zero,i.size,i.bytes))=some (some (.int .i64 0),1,8):=by kernel_rfl
def pL(pb xb:Nat):As:=ay xb (.cells #[.pointer (some ⟨pb,0,none⟩)] 80 (0,0))
def Je(lb:Nat)(v:Value):As:=ay lb (.cells #[v] 39 (0,0))
def KI(pb lb xb:Nat)(l:List Nat):As:=cA λv:Value=>ah [Je lb v,eZ v l,pL pb xb]
theorem iJ{v:Value}{l:List Nat}{n:Nat}{a:ak.Hp}(h:ak.row 3 1 v (l.length+1) (l.map aS++[.int .i64 (n:Nat)]) a):eZ v (l++[n]) a:=by
 unfold eZ;rw[List.length_append,List.map_append];exact h
theorem Cr(w0 w:World)(Fr:As)(pb lb xb d:Nat)(ad:List Tok.Tk)(T:Ty.M Nat)(eO:eB 120 ad d T)(_:bg 1 0 0 T)
  (l:List Nat) (s:Ty.St) (H:Sat w0 w [Fr,aX pb d ad s,KI pb lb xb l]) (hl:l.length≤s.pos) {R:EW}
  (aF:∀n s2 w2,T s=.ok (n,s2)→Sat w0 w2 [Fr,aX pb d ad s2,KI pb lb xb (l++[n])]→R (.returned (.tuple #[])) w2)
  (av:∀f w2,T s=.error f→Sat w0 w2 [Fr]→R (.panicked (aJ f)) w2):
  Calls prog 314 #[.pointer (some ⟨lb,0,none⟩),.pointer (some ⟨xb,0,none⟩)] w R:=by
 have aY:=qh aF;have aB:=qh av;have bD:=H.pO;have fs:=bD.fits.1;have jK:=bD.wf.1;obtain⟨v,hs⟩:=H.ex (i:=2) rfl;have hs:Sat w0 w [Fr,aX pb d ad s,Je lb v,eZ v l,pL pb xb]:=hs.unpack (i:=2) rfl;obtain⟨a,dr,rfl⟩:=ag (hs.row 3 rfl);have c1:=hs.cell 2 rfl 0 rfl;have c2:=hs.cell 4 rfl 0 rfl;have HS:=qh (eO w0 w.drew _ pb s (hs.drew.at 1 rfl));obtain⟨i0,ti,mx,mu,mw⟩:=info_parts jo;clear aF av eO H bD hs;go_in;go_wp2_with fail;go_region_law(first|(go_simp;go_at_call 120;refine HS.o _ (λn s2 w2 hm h2=>?_) (λf w2 hm h2=>⟨rfl,aB.o _ _ hm ((h2.unpack (i:=0) rfl).pick [0])⟩);have h3:Sat w0 w2 [Fr,aX pb d ad s2,Je lb (.slice a l.length dr),eZ (.slice a l.length dr) l,pL pb xb]:=(ak.Sat.tR (L:=[Fr,aX pb d ad s,Je lb (.slice a l.length dr),eZ (.slice a l.length dr) l,pL pb xb]) (i:=1) (by simp) h2);have d1:=h3.cell 2 rfl 0 rfl;have d2:=(h3.aU (.cells #[.int .i64 n] 3)).cell 2 rfl 0 rfl;have H3:=qh h3;clear h2 h3)|(go_loud(refine step_append_lies _ (by rfl) _ _ _ (by rfl) 0 3 i0 _ 1 8 underlying39 ti mx mu mw rfl (by omega) (.slice a l.length dr) l.length (l.map aS) (by rfl) ((H3.o.row 3 rfl).alloc _) ⟨w2.heap.size,0,none⟩ 1 1 [.int .i64 n] (by rfl) (by rfl) (World.news_of_block (cs:=#[.int .i64 n]) (t:=3) (fr:=(0,0)) (aH _ _ _ (by simp))) (by simp[Value.oneCell']) (by omega) (by unfold maxLen;omega) (by omega) (by simp) (w2.heap.size+1) (by simp) ?_);intro g cap w3 eA dU pw yR;have h4:=ak.Sat.grow (H3.o.aU _) 3 rfl dU eA (by simpa using pw);have d3:=h4.cell 2 rfl 0 rfl;have f3:=h4.free 2 rfl 0;have H4:=qh h4;clear h4))
 all_goals
  clear eA dU;go_wp2_with fail;go_end0;exact aY.o n s2 _ hm (((H4.o.store 2 rfl 0 _).cG (i:=3) rfl (Q:=eZ (.slice (some ⟨g,0,none⟩) (l.length+1) cap) (l++[n])) (λ_ h=>iJ h)|>ak.Sat.pack (L:=[Fr,aX pb d ad s2])).cG (i:=2) rfl (λ_ h=>⟨_,h⟩))
end
end Go.Proofs.YtdlbhiaceheffabGreatDoor
