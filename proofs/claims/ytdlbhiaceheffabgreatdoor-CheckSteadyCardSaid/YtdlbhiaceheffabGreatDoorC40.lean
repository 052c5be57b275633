/- Walk of showBegun. -/
import Derived.Test.YtdlbhiaceheffabGreatDoorC39
set_option linter.all false
set_option maxRecDepth 100000
set_option maxHeartbeats 2000000
namespace Go.Proofs.YtdlbhiaceheffabGreatDoor
open Go Go.RowKit Ty Tok Prt Tryz Proofs.Tryz
theorem xR(w:World)(hw:Words w)(Pz:Pow w){R:EW}(hR:∀w',Below w.heap.size w w'->R (.returned (.bool true)) w'):
  Calls prog 12 #[] w R:=by
 have HR:=qh hR;have SI:=qh Pz;clear hR Pz;go_in;go_wp2_with fail;refine tG (ju.iN w) (Sat.iN w) PZ hw SI.o (by decide) zg (λpg h=>(zQ h).1) (λpg w1 hp hl h1=>?_) (λpg w1 hp hl h1=>?_) (λf w1 hp h1=>(QS hp).elim);rotate_left
 ·rw[(zQ hp).2,zy]at hl;simp at hl
 rw[(zQ hp).2,zy];have h2:=h1.ar (.cells #[.int .i64 0,.int .i64 0] 25) w1.heap.size;have H2:=qh h2;clear hp hl h1 h2;rw[show bs [108,101,116,32,120,32,61,32,40,49,32,43,32,50,41,32,42,32,51,59,10]=⟨#[108,101,116,32,120,32,61,32,40,49,32,43,32,50,41,32,42,32,51,59,10]⟩from rfl];dsimp only[bm];go_wp2_with fail;refine A7 (Sat.pack (L:=[]) H2.o) Ny (hw.below H2.o.aS) (by decide) (λts w2 ht h3=>?_) (λf w2 ht h3=>(Rm ht).elim);rw[KP ht];have h4:=(h3.unpack 0 rfl).ar (.cells #[.int .i64 0,.int .i64 0] 25) w2.heap.size;have x0:=h4.cell 1 0;have H4:=qh h4;clear ht h3 h4;rw[show bs [110,117,109,32,124,32,116,101,120,116]=⟨#[110,117,109,32,124,32,116,101,120,116]⟩from rfl];dsimp only[bm];go_wp2_with fail;exact HR.o _ H4.o.aS
section
namespace Ty
open Tok (Tk)
abbrev Lm:=Nat×List UInt8
def kt(t:Tk):Lm:=(t.kind,t.text.data.toList)
theorem mH{s:BA}{k:Nat}{a b:List UInt8}(h:s.data.toList.drop k=a++b):s.data.toList.drop (k+a.length)=b:=by
 rw[<-List.drop_drop,h];simp
theorem pO{s:BA}{k:Nat}{d:UInt8}{r:List UInt8}(h:s.data.toList.drop k=d::r):k<s.size/\Tok.byte s k=d:=by
 have hk:k<s.size:=by
  refine Nat.lt_of_not_le λhle=>?_
  simp_all[List.drop_eq_nil_of_le]
 grind [Tok.drop_cons,ei]
theorem Jy(s:BA)(k:Nat)(d:UInt8)(hk:k<s.size)(hb:Tok.byte s k=d)(h1:cJ d=false)(h2:Tok.isDigit d=false)(h3:d≠34)(h4:d≠61):kt (Tok.next s k).1=(5,[d])/\(Tok.next s k).2.1=1:=by
 simp_all[Tok.two,Tok.next,Tok.drop_cons,ei,kt]
theorem iE{p:UInt8->Bool}:∀(a r:List UInt8),(∀d∈a,p d=true)->(∀d r',r=d::r'->p d=false)->(a++r).takeWhile p=a
 |[],[],_,_=>rfl
 |[],d::r,_,h=>by simp_all
 |x::a,r,h1,h2=>by rw[List.cons_append,List.takeWhile_cons,if_pos (h1 x (by simp)),iE a r (λd hd=>h1 d (by grind)) h2]
def eZ(sep:List Lm):List (List Lm)->List Lm
 |[]=>[]
 |x::l=>sep++(x++eZ sep l)
def gB(sep:List Lm):List (List Lm)->List Lm
 |[]=>[]
 |x::l=>x++eZ sep l
def Gd(n i k:Nat)(s:List Lm):List Lm:=if k=10\/k=9/\i+1<n then(5,[40]):: (s++[(5,[41])])else s
def uF:List BA->List (List Lm)->List Lm
 |n::ns,t::ts=>(1,n.data.toList):: (5,[58]):: (t++(5,[59])::uF ns ts)
 | _,_=>[]
mutual
def fD:Tr->List Lm
 | .mk k names parts list of=>
  if k=7 then(5,[123]):: (uF names (f_ parts)++[(5,[125])])
  else if k=8 then(5,[91]):: ((f_ of).headD []++[(5,[93])])
  else if k=9 then(5,[40]):: (gB [(5,[44])] (f_ list)++((5,[41]):: (5,[61,62]):: (f_ of).headD []))
  else if k=10 then gB [(5,[124])] ((List.range list.length).map λi=>Gd list.length i ((list.map kindOf).getD i 0) ((f_ list).getD i []))
  else [(2,BS k)]
def f_:List Tr->List (List Lm)
 |[]=>[]
 |t::l=>fD t::f_ l
end
theorem rI:∀l:List Tr,f_ l=l.map fD
 |[]=>by grind [f_]
 |t::l=>by rw[f_,rI l];rfl
theorem getD_map{α β:Type}(f:α->β)(l:List α)(i:Nat)(d:β)(h:i<l.length): (l.map f).getD i d=f l[i]:=by
 grind
end Ty
end
section
namespace Ty
open Tok (Tk)
def D(ad:List Tk)(p:Nat)(r:List Lm):Prop:=(ad.map kt).drop p=r
def h_(r:List Lm)(x:List UInt8):Bool:=match r with
 |[]=>false
 |l:: _=>(decide (l.1=5)||decide (l.1=2))&&decide (l.2=x)
theorem D.cur{ad:List Tk}{p:Nat}{l:Lm}{r:List Lm}(h:D ad p (l::r)):kt (cur ad p)=l:=by
 have h1: (ad.map kt)[p]?=some l:=by
  have:=congrArg List.head? (show(ad.map kt).drop p=l::r from h);simp_all
 rw[List.getElem?_map]at h1
 unfold Ty.cur;cases e:ad[p]? with
 |none=>rw[e]at h1;cases h1
 |some t=>rw[e]at h1;cases h1;rfl
theorem D.next{ad:List Tk}{p:Nat}{l:Lm}{r:List Lm}(h:D ad p (l::r)):D ad (p+1) r:=by
 have h1:=h;show(ad.map kt).drop (p+1)=r;rw[<-List.drop_drop,h1];rfl
theorem D.is{ad:List Tk}{p:Nat}{r:List Lm}(h:D ad p r)(x:List UInt8):Ty.is ad x p=h_ r x:=by
 cases r with
 |nil=>
  have h1:ad.length<=p:=by
   have:=congrArg List.length (show(ad.map kt).drop p=[]from h)
   grind
  grind [Ty.is,Ty.cur,h_]
 |cons l r=>
  have:=h.cur;rw[<-this];rfl
def Le(r:List Lm):Prop:=h_ r [124]=false/\h_ r [61,62]=false
def Hd(ls:List Lm):Prop:=∃l r,ls=l::r/\l.2≠[41]
theorem Hd.no{ls:List Lm}(h:Hd ls)(r:List Lm):h_ (ls++r) [41]=false:=by
 obtain⟨l,r',rfl,h⟩:=h;simp[h_,h]
mutual
theorem AW:∀t:Tr,eu t->kM t->Hd (fD t)
 | .mk k names parts list of,ho,hu=>by
  rw[fD];split
  ·exact⟨_,_,rfl,by decide⟩
  ·split
   ·exact⟨_,_,rfl,by decide⟩
   ·split
    ·exact⟨_,_,rfl,by decide⟩
    ·split
     ·rename_i fs;have h2:=hu.1 fs
      match list,h2,ho.2.2.2.2.2.2.2.2.1,hu.2.2.1 with
      |t::l,_,o1,u1=>
       have ht:=AW t o1.1 u1.1;rw[List.length_cons,List.range_succ_eq_map,List.map_cons];simp only[f_];unfold Gd;split
       ·exact⟨_,_,rfl,by decide⟩
       ·obtain⟨x,r,e,hx⟩:=ht;refine⟨x,?_,?_,hx⟩;rotate_left
        ·simp;rw[e];rfl
     ·rename_i h7 h8 h9 fs;rw[eu]at ho
      have:k=1\/k=2\/k=3\/k=4\/k=5\/k=6:=by omega
      rcases this with rfl|rfl|rfl|rfl|rfl|rfl<;>exact⟨_,_,rfl,by decide⟩
end
theorem Qi{s s':St}{t:Ty}{n:Nat}(ht:WfAt s.ts.length t)(h:aP t s=.ok (n,s')):den s'.ts n=.mk t.kind (t.fields.map Prod.fst) (t.fields.map λf=>den s.ts f.2) (t.list.map (den s.ts)) (if t.kind=8\/t.kind=9 then [den s.ts t.of]else [])/\s'.pos=s.pos:=by
 cases h;exact⟨rq _ _ ht.fields ht.list ht.of,rfl⟩
end Ty
end
section
namespace Ty
open Tok (Tk)
theorem xi(x:BA)(k:Nat)(hk:1<=k/\k<=6)(h:x.data.toList=BS k):bI x=k:=by
 unfold bI;rw[h];have:k=1\/k=2\/k=3\/k=4\/k=5\/k=6:=by omega
 rcases this with rfl|rfl|rfl|rfl|rfl|rfl<;>rfl
end Ty
end
end Go.Proofs.YtdlbhiaceheffabGreatDoor
