/- Parts of memory of the reference's Sight; walks of Has and partsOf. -/
import Derived.Laws.AppendOwnNone
import Derived.WalkSmall
import Derived.Deep.DeepCutAuto
import Derived.Deep.CutBlock
import Derived.Deep.RegionHeld3
import Derived.Test.YtdlbhiaceheffabGreatDoorE07
import Derived.Test.YtdlbhiaceheffabGreatDoorE19
set_option linter.all false
namespace Go.Proofs.YtdlbhiaceheffabGreatDoor
open Go Go.RowKit Ty Tok Prt Tryz Proofs.Tryz
section
open Ty (Kn Sg)
theorem Qc: (prog.info? 43).map (λi=>(i.zero,i.size,i.bytes))=some (some (.agg #[.int .i64 0,.int .i64 0]),2,16):=by kernel_rfl
abbrev az(nd:Nd)(lv:Value):Obj:=.cells #[.int .i64 nd.kind,.int .i64 nd.a,.int .i64 nd.b,.int .i64 nd.c,lv,.string nd.text,.int .i64 nd.n,.int .i64 nd.ty,.int .i64 nd.pos] 66 (0,0)
def cH(p:Nat×Nat):List Value:=[.int .i64 p.1,.int .i64 p.2]
def vC(v:Value)(l:List (Nat×Nat)):As:=Prt.row 43 2 v l.length (l.flatMap cH)
section
variable {w0 w:World} {Fr:As} {sb:Nat} {nv tv:Value} {main:Int} {env:List Kn} {s:Sg} {f:Ty.Ft}
end
theorem Lb{v:Value}{l:List (Nat×Nat)}{p:Nat×Nat}{a:Prt.Hp}(h:Prt.row 43 2 v (l.length+1) (l.flatMap cH++cH p) a):vC v (l++[p]) a:=by
 unfold vC;rw[List.length_append,List.flatMap_append]
 simpa using h
end
namespace Ty
def aA(nd:Nd):List Nat:=
 if nd.kind=7 then nd.a::nd.list
 else if nd.kind=10\/nd.kind=11\/nd.kind=26 then nd.list
 else if nd.kind=9\/nd.kind=12\/nd.kind=19\/nd.kind=23 then [nd.a,nd.b]
 else if nd.kind=20 then [nd.a,nd.b,nd.c.toNat]
 else if nd.kind=22 then(if nd.c<0 then [nd.a,nd.b]else [nd.a,nd.b,nd.c.toNat])
 else if nd.kind<=6\/nd.kind=16 then []
 else [nd.a]
end Ty
def jo(nd:Nd)(lv v:Value)(ids:List Nat):As:=λh=>(v=lv/\ids=nd.list)\/eY v ids h
theorem bn{b n:Nat}{cs:Array Value}{l:List Nat}{a:Prt.Hp}(h:av b (.cells cs 3 (0,0)) a)(hn:n=l.length)(hl:l.length<=maxLen)(hs:cs.toList=l.map aO):eY (.slice (some ⟨b,0,none⟩) n n) l a:=by
 subst hn;refine mx h hl ?_ hs;have:=congrArg List.length hs
 simpa using this
section
variable {w:World} {a b fn ps:Nat} {c ty:Int} {l:List Nat} {tx:BA} {lv:Value}
end
section
open Ty (Kn Sg Mo aN)
abbrev yl:=List Kn->Sg->Except Ty.Ft (List Kn×Sg)
namespace Ty
def zf:List yl->yl
 |[],env,s=>.ok (env,s)
 |F::l,env,s=>aN (F env s) λr=>zf l r.1 r.2
def sn(k:Nat)(F:yl):Prop:=∀env s r,F env s=.ok r->Mo k s r.2/\∃x,r.1=env++x/\x.length<=k
def dp(l:List (Nat×yl)):Nat:=(l.map Prod.fst).foldr (· + ·) 0
end Ty
open Ty (zf sn dp)
section
variable {wB w:World} {Fr:As} {nv tv:Value} {pg:Ty.Pg} {sb:Nat} {main:Int} {env:List Kn} {s:Sg}
end
end
section
open Ty (Kn Sg Mo aN zf sn dp)
theorem jr(nd:Nd): (aA nd).length<=nd.list.length+3:=by
 unfold aA;repeat' split
 all_goals simp
theorem jN{w0 w:World}{L:List As}(h:Sat w0 w L)(i:Nat){nd:Nd}{lv v:Value}{ids:List Nat}(hi:L[i]?=some (jo nd lv v ids))(hl:w.ownsRow 0 3 1 lv nd.list.length (nd.list.map aO)):w.ownsRow 0 3 1 v ids.length (ids.map aO):=by
 by_cases hv:v=lv/\ids=nd.list
 ·rw[hv.1,hv.2];exact hl
 ·exact(h.cL (i:=i) hi (Q:=eY v ids) (λa ha=>ha.resolve_left hv)).row i (by
   have:=Sat.xp hi;rw[List.getElem?_set_self this];rfl)
section
variable {wB w:World} {Fr:As} {nv tv:Value} {pg:Ty.Pg} {sb:Nat} {main:Int} {env:List Kn} {s:Sg}
end
end
section
open Ty (Kn Sg Mo aN zf sn dp Ex Sm Par df kN jS iR gL qd ax eE fE aJ da fq eL dU eH eZ vo wI oT qi af)
namespace Ty
abbrev EF(e:Ex)(a:Nat)(f:Int):yl:=λenv s=>aN (eZ e a f env s) λs=>.ok (env,s)
abbrev SF(e:Sm)(a o:Nat)(f:Int):yl:=λenv s=>qi e a o f env s
def RP:List Ex->Nat->Int->List (Nat×yl)
 |[],_,_=>[]
 |e::l,a,f=>(ax e,EF e a f)::RP l (a+ax e) f
def SU:List (Nat×BA×Ex)->Nat->Int->List (Nat×yl)
 |[],_,_=>[]
 |(_,_,e)::l,a,f=>(ax e+1,EF e a f)::SU l (a+ax e+1) f
def TW:List Sm->Nat->Nat->Int->List (Nat×yl)
 |[],_,_,_=>[]
 |e::l,a,o,f=>(da e,SF e a o f)::TW l (a+da e) o f
theorem jb:∀(l:List Ex)(a:Nat),(fq l a).length<=eE l
 |[],_=>by rw[eE];simp[fq]
 |e::l,a=>by rw[eE,fq,List.length_cons];have:=jb l (a+ax e);have:=iz e;omega
theorem oF:∀(l:List (Nat×BA×Ex))(a:Nat),(eL l a).length<=fE l
 |[],_=>by rw[fE];simp[eL]
 |(_,_,e)::l,a=>by rw[fE,eL,List.length_cons];have:=oF l (a+ax e+1);omega
theorem lD:∀(l:List Sm)(a:Nat),(dU l a).length<=aJ l
 |[],_=>by rw[aJ];simp[dU]
 |e::l,a=>by rw[aJ,dU,List.length_cons];have:=lD l (a+da e);have:=NQ e;omega
theorem lk:∀(l:List Par)(a:Nat),(eH l a).length=l.length
 |[],_=>rfl
 | _::l,a=>by rw[eH,List.length_cons,lk l,List.length_cons]
theorem SL{ns:List Nd}(e:Ex)(a:Nat)(h:df ns e a):∃nb,ns[a+ax e-1]?=some nb/\(((nb.kind:Nat):Int)==6)=lK e:=by
 cases e<;>rw[df]at h<;>rw[ax]
 case fn p ps ty bp body=>exact⟨_,by rw[<-h.2.2.2];congr 1;omega,rfl⟩
 case call p e l=>exact⟨_,by rw[<-h.2.2];congr 1<;>omega,rfl⟩
 case get p e x=>exact⟨_,by rw[<-h.2];congr 1<;>omega,rfl⟩
 case atX p e i=>exact⟨_,by rw[<-h.2.2];congr 1<;>omega,rfl⟩
 case obj p l=>exact⟨_,by rw[<-h.2];congr 1<;>omega,rfl⟩
 case arr p l=>exact⟨_,by rw[<-h.2];congr 1<;>omega,rfl⟩
 case two p x e i=>exact⟨_,by rw[<-h.2.2];congr 1<;>omega,rfl⟩
 case one p x e=>exact⟨_,by rw[<-h.2];congr 1<;>omega,rfl⟩
 case asX p e ty=>exact⟨_,by rw[<-h.2];congr 1<;>omega,rfl⟩
 all_goals exact⟨_,by rw[<-h];congr 1,rfl⟩
end Ty
open Ty (EF SF RP SU TW)
section
variable {wB:World} {nv tv:Value} {pg:Ty.Pg} {sb:Nat} {main:Int}
end
end
end Go.Proofs.YtdlbhiaceheffabGreatDoor
