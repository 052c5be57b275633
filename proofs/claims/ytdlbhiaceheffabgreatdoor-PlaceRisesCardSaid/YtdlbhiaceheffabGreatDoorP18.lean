/- Parts of memory of the reference's Sight; walks of Has and partsOf. -/
import Derived.Laws.AppendOwnNone
import Derived.WalkSmall
import Derived.Deep.DeepCutAuto
import Derived.Deep.CutBlock
import Derived.Deep.RegionHeld3
import Derived.Test.YtdlbhiaceheffabGreatDoorP17
set_option linter.all false
namespace Go.Proofs.YtdlbhiaceheffabGreatDoor
open Go Go.RowKit Ty Tok ak Tryz Proofs.Tryz
section
open Ty (Kn Sg)
theorem QC: (prog.info? 43).map (λi=>(i.zero,i.size,i.bytes))=some (some (.agg #[.int .i64 0,.int .i64 0]),2,16):=by kernel_rfl
abbrev aD(nd:Ty.Nd)(lv:Value):Obj:=.cells #[.int .i64 nd.kind,.int .i64 nd.a,.int .i64 nd.b,.int .i64 nd.c,lv,.string nd.text,.int .i64 nd.n,.int .i64 nd.ty,.int .i64 nd.pos] 66 (0,0)
def Md(m:Kn):List Value:=[.string m.text,.int .i64 m.node,.int .i64 m.owner,.int .i64 m.f]
def dY(p:Nat×Nat):List Value:=[.int .i64 p.1,.int .i64 p.2]
def ab5(v:Value)(l:List Kn):As:=ak.row 154 4 v l.length (l.flatMap Md)
def sY(v:Value)(l:List (Nat×Nat)):As:=ak.row 43 2 v l.length (l.flatMap dY)
abbrev ZR(nv tv:Value)(main:Int)(ev ov cv:Value)(f:Ty.Ft):Obj:=.cells #[nv,tv,.int .i64 main,ev,ov,cv,.int .i64 f.1,.int .i64 f.2] 95 (0,0)
def WD(sb:Nat)(nv tv:Value)(main:Int)(env:List Kn)(s:Sg)(f:Ty.Ft)(q:Value×Value×Value):List As:=
 [ay sb (ZR nv tv main q.1 q.2.1 q.2.2 f),ab5 q.1 env,sY q.2.1 s.out,eZ q.2.2 s.fR]
def Vl(sb:Nat)(nv tv:Value)(main:Int)(env:List Kn)(s:Sg)(f:Ty.Ft):As:=cA λq=>ah (WD sb nv tv main env s f q)
section
variable {w0 w:World} {Fr:As} {sb:Nat} {nv tv:Value} {main:Int} {env:List Kn} {s:Sg} {f:Ty.Ft}
end
theorem Jc{v:Value}{l:List (Nat×Nat)}{p:Nat×Nat}{a:ak.Hp}(h:ak.row 43 2 v (l.length+1) (l.flatMap dY++dY p) a):sY v (l++[p]) a:=by
 unfold sY;rw[List.length_append,List.flatMap_append]
 simpa using h
end
namespace Ty
def aC(nd:Nd):List Nat:=
 if nd.kind=7 then nd.a::nd.list
 else if nd.kind=10∨nd.kind=11∨nd.kind=26 then nd.list
 else if nd.kind=9∨nd.kind=12∨nd.kind=19∨nd.kind=23 then [nd.a,nd.b]
 else if nd.kind=20 then [nd.a,nd.b,nd.c.toNat]
 else if nd.kind=22 then(if nd.c<0 then [nd.a,nd.b]else [nd.a,nd.b,nd.c.toNat])
 else if nd.kind≤6∨nd.kind=16 then []
 else [nd.a]
end Ty
def jM(nd:Ty.Nd)(lv v:Value)(ids:List Nat):As:=λh=>(v=lv∧ids=nd.list)∨eZ v ids h
theorem ch{b n:Nat}{cs:Array Value}{l:List Nat}{a:ak.Hp}(h:ay b (.cells cs 3 (0,0)) a)(hn:n=l.length)(hl:l.length≤maxLen)(hs:cs.toList=l.map aS):eZ (.slice (some ⟨b,0,none⟩) n n) l a:=by
 subst hn;refine my h hl ?_ hs;have:=congrArg List.length hs
 simpa using this
section
variable {w:World} {a b fn ps:Nat} {c ty:Int} {l:List Nat} {tx:BA} {lv:Value}
end
section
open Ty (Kn Sg Mo aO)
abbrev jY:=List Kn→Sg→Except Ty.Ft (List Kn×Sg)
namespace Ty
def mO:List jY→jY
 |[],env,s=>.ok (env,s)
 |F::l,env,s=>aO (F env s) λr=>mO l r.1 r.2
theorem wZ(F:jY):∀(l:List jY)(env:List Kn)(s:Sg),mO (l++[F]) env s=aO (mO l env s) λr=>F r.1 r.2
 |[],env,s=>by
  show aO (F env s) (λr=>.ok (r.1,r.2))=F env s;cases F env s<;>rfl
 |G::l,env,s=>by
  show aO (G env s) (λr=>mO (l++[F]) r.1 r.2)=aO (aO (G env s) λr=>mO l r.1 r.2) λr=>F r.1 r.2
  rw[aM];congr 1;funext r;exact wZ F l r.1 r.2
def kZ(k:Nat)(F:jY):Prop:=∀env s r,F env s=.ok r→Mo k s r.2∧∃x,r.1=env++x∧x.length≤k
def cB(l:List (Nat×jY)):Nat:=(l.map Prod.fst).foldr (· + ·) 0
theorem oD(p:Nat×jY)(l:List (Nat×jY)):cB (p::l)=p.1+cB l:=rfl
theorem Kz(l m:List (Nat×jY)):cB (l++m)=cB l+cB m:=by
 induction l with
 |nil=>simp[cB]
 |cons p l ih=>rw[List.cons_append,oD,oD,ih];omega
theorem Al:∀l:List (Nat×jY),(∀p∈l,kZ p.1 p.2)→kZ (cB l) (mO (l.map Prod.snd))
 |[],_,env,s,r,h=>by cases h;exact⟨Mo.refl _ _,[],by simp,by simp⟩
 |p::l,H,env,s,r,h=>by
  obtain⟨m,h1,h2⟩:=Lc (show aO (p.2 env s) (λr=>mO (l.map Prod.snd) r.1 r.2)=.ok r from h);obtain⟨g1,x,g2,g3⟩:=H p (by simp) env s m h1;obtain⟨k1,y,k2,k3⟩:=Al l (λq hq=>H q (by simp[hq])) m.1 m.2 r h2;rw[oD];exact⟨g1.trans k1 (nR _),x++y,by rw[k2,g2,List.append_assoc],by rw[List.length_append];omega⟩
theorem Ff{l:List (Nat×jY)}(H:∀p∈l,kZ p.1 p.2)(j:Nat):kZ (cB (l.take j)) (mO ((l.map Prod.snd).take j)):=by
 rw[←List.map_take];exact Al _ λp hp=>H p (List.mem_of_mem_take hp)
theorem Kv(l:List (Nat×jY)){j:Nat}(h:j<l.length):cB (l.take j)+l[j].1≤cB l:=by
 have h1:=List.take_append_drop j l;have h2:cB l=cB (l.take j)+cB (l.drop j):=by rw[←Kz,h1]
 rw[List.drop_eq_getElem_cons h,oD]at h2
 omega
end Ty
open Ty (mO kZ cB)
def aaP(sb:Nat)(nv tv:Value)(main:Int)(k:Nat)(env:List Kn)(r:Except Ty.Ft (List Kn×Sg)):As:=match r with
 | .ok p=>Vl sb nv tv main p.1 p.2 (0,0)
 | .error e=>cA λq:List Kn×Sg=>ah [cn (q.1.length≤k∧e.1≠0),Vl sb nv tv main (env++q.1) q.2 e]
structure SeeC(wB:World)(nv tv:Value)(pg:Ty.Pg)(sb:Nat)(main:Int)(id:Nat)(o f:Int)(k:Nat)(F:jY):Prop where
 lt:id<pg.ns.length
 vU:kZ k F
 run:∀(env:List Kn)(s:Sg)(w:World)(Fr:As),jH wB Fr→Sat wB w [Fr,Vl sb nv tv main env s (0,0)]→env.length+k≤2600→s.out.length+k≤2600→s.fR.length+k≤2600→
  ∀R:EW,(∀w',Sat wB w' [Fr,aaP sb nv tv main k env (F env s)]→R (.returned (.tuple #[])) w')→
  Calls prog 45 #[.pointer (some ⟨sb,0,none⟩),.int .i64 (id:Nat),.int .i64 o,.int .i64 f] w R
section
variable {wB w:World} {Fr:As} {nv tv:Value} {pg:Ty.Pg} {sb:Nat} {main:Int} {env:List Kn} {s:Sg}
end
end
section
open Ty (Kn Sg Mo aO mO kZ cB)
theorem lf(nd:Ty.Nd): (aC nd).length≤nd.list.length+3:=by
 unfold aC;repeat' split
 all_goals simp
theorem kY{w0 w:World}{L:List As}(h:Sat w0 w L)(i:Nat){nd:Ty.Nd}{lv v:Value}{ids:List Nat}(hi:L[i]?=some (jM nd lv v ids))(hl:w.ownsRow 0 3 1 lv nd.list.length (nd.list.map aS)):w.ownsRow 0 3 1 v ids.length (ids.map aS):=by
 by_cases hv:v=lv∧ids=nd.list
 ·rw[hv.1,hv.2];exact hl
 ·exact(h.cG (i:=i) hi (Q:=eZ v ids) (λa ha=>ha.resolve_left hv)).row i (by
   have:=Sat.uy hi;rw[List.getElem?_set_self this];rfl)
def BB(wB:World)(nv tv:Value)(pg:Ty.Pg)(sb:Nat)(main:Int)(o f:Int)(ids:List Nat)(cs:List (Nat×jY)):Prop:=
 ids.length=cs.length∧∀j(h1:j<ids.length)(h2:j<cs.length),SeeC wB nv tv pg sb main ids[j] o f cs[j].1 cs[j].2
section
variable {wB w:World} {Fr:As} {nv tv:Value} {pg:Ty.Pg} {sb:Nat} {main:Int} {env:List Kn} {s:Sg}
theorem BB.vU{o f:Int}{ids:List Nat}{cs:List (Nat×jY)}(h:BB wB nv tv pg sb main o f ids cs):∀p∈cs,kZ p.1 p.2:=λp hp=>by
 obtain⟨j,hj,e⟩:=List.getElem_of_mem hp;rw[←e];exact(h.2 j (by rw[h.1];exact hj) hj).vU
theorem BB.at{o f:Int}{ids:List Nat}{cs:List (Nat×jY)}(h:BB wB nv tv pg sb main o f ids cs){j:Nat}(h1:env.length+cB cs≤2600)(h2:s.out.length+cB cs≤2600)(h3:s.fR.length+cB cs≤2600)(eh:j<cs.length):
  (∀p,mO ((cs.map Prod.snd).take j) env s=.ok p→(∃x,p.1=env++x∧x.length+cs[j].1≤cB cs)∧p.1.length+cs[j].1≤2600∧p.2.out.length+cs[j].1≤2600∧p.2.fR.length+cs[j].1≤2600)∧
   (aO (mO ((cs.map Prod.snd).take j) env s) λp=>cs[j].2 p.1 p.2)=mO ((cs.map Prod.snd).take (j+1)) env s:=by
 have hs:=Kv cs eh;refine⟨λp hp=>?_,?_⟩
 ·obtain⟨g1,x,g2,g3⟩:=Ff h.vU j env s p hp;have:=g1.out;have:=g1.fR;exact⟨⟨x,g2,by omega⟩,by rw[g2,List.length_append];omega,by omega,by omega⟩
 ·have: (cs.map Prod.snd).take (j+1)=(cs.map Prod.snd).take j++[cs[j].2]:=by rw[List.take_succ_eq_append_getElem (by simpa using eh)];simp
  rw[this,wZ]
end
end
section
open Ty (Kn Sg Mo aO mO kZ cB Ex Sm Par dp kP jW je gR qx ax eT fQ aL db fJ ff dX eU fC uN wH o6 qC af)
namespace Ty
abbrev EF(e:Ex)(a:Nat)(f:Int):jY:=λenv s=>aO (fC e a f env s) λs=>.ok (env,s)
abbrev SF(e:Sm)(a o:Nat)(f:Int):jY:=λenv s=>qC e a o f env s
def RJ:List Ex→Nat→Int→List (Nat×jY)
 |[],_,_=>[]
 |e::l,a,f=>(ax e,EF e a f)::RJ l (a+ax e) f
def TF:List (Nat×BA×Ex)→Nat→Int→List (Nat×jY)
 |[],_,_=>[]
 |(_,_,e)::l,a,f=>(ax e+1,EF e a f)::TF l (a+ax e+1) f
def Tp:List Sm→Nat→Nat→Int→List (Nat×jY)
 |[],_,_,_=>[]
 |e::l,a,o,f=>(db e,SF e a o f)::Tp l (a+db e) o f
theorem iV:∀(l:List Ex)(a:Nat),(fJ l a).length≤eT l
 |[],_=>by rw[eT];simp[fJ]
 |e::l,a=>by rw[eT,fJ,List.length_cons];have:=iV l (a+ax e);have:=iG e;omega
theorem oE:∀(l:List (Nat×BA×Ex))(a:Nat),(ff l a).length≤fQ l
 |[],_=>by rw[fQ];simp[ff]
 |(_,_,e)::l,a=>by rw[fQ,ff,List.length_cons];have:=oE l (a+ax e+1);omega
theorem lX:∀(l:List Sm)(a:Nat),(dX l a).length≤aL l
 |[],_=>by rw[aL];simp[dX]
 |e::l,a=>by rw[aL,dX,List.length_cons];have:=lX l (a+db e);have:=MC e;omega
theorem lI:∀(l:List Par)(a:Nat),(eU l a).length=l.length
 |[],_=>rfl
 | _::l,a=>by rw[eU,List.length_cons,lI l,List.length_cons]
theorem TX{ns:List Nd}(e:Ex)(a:Nat)(h:dp ns e a):∃nb,ns[a+ax e-1]?=some nb∧(((nb.kind:Nat):Int)==6)=lP e:=by
 cases e<;>rw[dp]at h<;>rw[ax]
 case fn p ps ty bp body=>exact⟨_,by rw[←h.2.2.2];congr 1;omega,rfl⟩
 case call p e l=>exact⟨_,by rw[←h.2.2];congr 1<;>omega,rfl⟩
 case get p e x=>exact⟨_,by rw[←h.2];congr 1<;>omega,rfl⟩
 case atX p e i=>exact⟨_,by rw[←h.2.2];congr 1<;>omega,rfl⟩
 case obj p l=>exact⟨_,by rw[←h.2];congr 1<;>omega,rfl⟩
 case arr p l=>exact⟨_,by rw[←h.2];congr 1<;>omega,rfl⟩
 case two p x e i=>exact⟨_,by rw[←h.2.2];congr 1<;>omega,rfl⟩
 case one p x e=>exact⟨_,by rw[←h.2];congr 1<;>omega,rfl⟩
 case asX p e ty=>exact⟨_,by rw[←h.2];congr 1<;>omega,rfl⟩
 all_goals exact⟨_,by rw[←h];congr 1,rfl⟩
end Ty
open Ty (EF SF RJ TF Tp)
section
variable {wB:World} {nv tv:Value} {pg:Ty.Pg} {sb:Nat} {main:Int}
theorem BB.nil{o f:Int}:BB wB nv tv pg sb main o f [] []:=⟨rfl,λj h=>absurd h (by simp)⟩
theorem SeeC.cons{o f:Int}{id k:Nat}{F:jY}{ids:List Nat}{cs:List (Nat×jY)}(h:SeeC wB nv tv pg sb main id o f k F)(g:BB wB nv tv pg sb main o f ids cs):BB wB nv tv pg sb main o f (id::ids) ((k,F)::cs):=by
 refine⟨by rw[List.length_cons,List.length_cons,g.1],λj h1 h2=>?_⟩;cases j with
 |zero=>exact h
 |succ j=>exact g.2 j (by simpa using h1) (by simpa using h2)
theorem SeeC.to{id A7 k k2:Nat}{o f:Int}{F G:jY}(h:SeeC wB nv tv pg sb main id o f k F)(hi:id=A7)(hk:k=k2)(hF:∀env s,F env s=G env s):SeeC wB nv tv pg sb main A7 o f k2 G:=by
 have:F=G:=by funext env s;exact hF env s
 subst hi hk this;exact h
end
end
end Go.Proofs.YtdlbhiaceheffabGreatDoor
