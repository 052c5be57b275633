/- Walk of the reference's partsOf. -/
import Derived.WalkSmall
import Derived.Deep.DeepCutAuto
import Derived.Deep.CutBlock
import Derived.Deep.RegionHeld3
import Derived.Test.YtdlbhiaceheffabGreatDoorC25
set_option linter.all false
namespace Go.Proofs.YtdlbhiaceheffabGreatDoor
open Go Go.RowKit Ty Tok Prt
def lL(nd:Nd)(lv v:Value)(ids:List Nat):As:=λh=>(v=lv/\ids=nd.list)\/gi v ids h
theorem cR{b n:Nat}{cs:Array Value}{l:List Nat}{a:Prt.Hp}(h:ax b (.cells cs 3 (0,0)) a)(hn:n=l.length)(hl:l.length<=maxLen)(hs:cs.toList=l.map aQ):gi (.slice (some ⟨b,0,none⟩) n n) l a:=by
 subst hn;refine lH h hl ?_ hs;have:=congrArg List.length hs
 simpa using this
section
variable {w:World} {a b fn ps:Nat} {c ty:Int} {l:List Nat} {tx:BA} {lv:Value}
end
section
open Ty (Kn Sg Mo aK)
abbrev zL:=List Kn->Sg->Except Ty.Ft (List Kn×Sg)
namespace Ty
def Ad:List zL->zL
 |[],env,s=>.ok (env,s)
 |F::l,env,s=>aK (F env s) λr=>Ad l r.1 r.2
def ud(k:Nat)(F:zL):Prop:=∀env s r,F env s=.ok r->Mo k s r.2/\∃x,r.1=env++x/\x.length<=k
def eg(l:List (Nat×zL)):Nat:=(l.map Prod.fst).foldr (· + ·) 0
end Ty
open Ty (Ad ud eg)
section
variable {wB w:World} {Fr:As} {nv tv:Value} {pg:Ty.Pg} {sb:Nat} {main:Int} {env:List Kn} {s:Sg}
end
end
section
open Ty (Kn Sg Mo aK Ad ud eg)
theorem tZ(nd:Nd): (aB nd).length<=nd.list.length+3:=by
 unfold aB;repeat' split
 all_goals simp
theorem vg{w0 w:World}{L:List As}(h:Sat w0 w L)(i:Nat){nd:Nd}{lv v:Value}{ids:List Nat}(hi:L[i]?=some (lL nd lv v ids))(hl:w.ownsRow 0 3 1 lv nd.list.length (nd.list.map aQ)):w.ownsRow 0 3 1 v ids.length (ids.map aQ):=by
 by_cases hv:v=lv/\ids=nd.list
 ·rw[hv.1,hv.2];exact hl
 ·exact(h.cQ (i:=i) hi (Q:=gi v ids) (λa ha=>ha.resolve_left hv)).row i (by
   have:=Sat.BK hi;rw[List.getElem?_set_self this];rfl)
section
variable {wB w:World} {Fr:As} {nv tv:Value} {pg:Ty.Pg} {sb:Nat} {main:Int} {env:List Kn} {s:Sg}
end
end
section
open Ty (Kn Sg Mo aK Ad ud eg Ex Sm Par dW my mJ jT jh uz aw eD fu aI cE gC gK eP fw jS Ih Pc vC TB af)
namespace Ty
abbrev EF(e:Ex)(a:Nat)(f:Int):zL:=λenv s=>aK (jS e a f env s) λs=>.ok (env,s)
abbrev SF(e:Sm)(a o:Nat)(f:Int):zL:=λenv s=>TB e a o f env s
def WV:List Ex->Nat->Int->List (Nat×zL)
 |[],_,_=>[]
 |e::l,a,f=>(aw e,EF e a f)::WV l (a+aw e) f
def VJ:List (Nat×BA×Ex)->Nat->Int->List (Nat×zL)
 |[],_,_=>[]
 |(_,_,e)::l,a,f=>(aw e+1,EF e a f)::VJ l (a+aw e+1) f
def Xq:List Sm->Nat->Nat->Int->List (Nat×zL)
 |[],_,_,_=>[]
 |e::l,a,o,f=>(cE e,SF e a o f)::Xq l (a+cE e) o f
theorem jw:∀(l:List Ex)(a:Nat),(gC l a).length<=eD l
 |[],_=>by rw[eD];simp[gC]
 |e::l,a=>by rw[eD,gC,List.length_cons];have:=jw l (a+aw e);have:=iX e;omega
theorem pS:∀(l:List (Nat×BA×Ex))(a:Nat),(gK l a).length<=fu l
 |[],_=>by rw[fu];simp[gK]
 |(_,_,e)::l,a=>by rw[fu,gK,List.length_cons];have:=pS l (a+aw e+1);omega
theorem mD:∀(l:List Sm)(a:Nat),(eP l a).length<=aI l
 |[],_=>by rw[aI];simp[eP]
 |e::l,a=>by rw[aI,eP,List.length_cons];have:=mD l (a+cE e);have:=PT e;omega
theorem mM:∀(l:List Par)(a:Nat),(fw l a).length=l.length
 |[],_=>rfl
 | _::l,a=>by rw[fw,List.length_cons,mM l,List.length_cons]
theorem Wr{ns:List Nd}(e:Ex)(a:Nat)(h:dW ns e a):∃nb,ns[a+aw e-1]?=some nb/\(((nb.kind:Nat):Int)==6)=mh e:=by
 cases e<;>rw[dW]at h<;>rw[aw]
 case fn p ps ty bp body=>exact⟨_,by rw[<-h.2.2.2];congr 1;omega,rfl⟩
 case call p e l=>exact⟨_,by rw[<-h.2.2];congr 1<;>omega,rfl⟩
 case get p e x=>exact⟨_,by rw[<-h.2];congr 1<;>omega,rfl⟩
 case obj p l=>exact⟨_,by rw[<-h.2];congr 1<;>omega,rfl⟩
 case arr p l=>exact⟨_,by rw[<-h.2];congr 1<;>omega,rfl⟩
 case two p x e i=>exact⟨_,by rw[<-h.2.2];congr 1<;>omega,rfl⟩
 case one p x e=>exact⟨_,by rw[<-h.2];congr 1<;>omega,rfl⟩
 all_goals first|exact⟨_,by rw[<-h];congr 1,rfl⟩|exact⟨_,by rw[<-h.2];congr 1<;>omega,rfl⟩|exact⟨_,by rw[<-h.2.2];congr 1<;>omega,rfl⟩
end Ty
open Ty (EF SF WV VJ Xq)
section
variable {wB:World} {nv tv:Value} {pg:Ty.Pg} {sb:Nat} {main:Int}
end
end
end Go.Proofs.YtdlbhiaceheffabGreatDoor
