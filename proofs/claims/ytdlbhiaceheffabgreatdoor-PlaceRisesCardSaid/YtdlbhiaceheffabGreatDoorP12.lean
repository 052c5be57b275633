/- Types in memory: lists of types that are read, and trees. -/
import Derived.Test.YtdlbhiaceheffabGreatDoorP11
import Derived.Test.YtdlbhiaceheffabGreatDoorP03
set_option linter.all false
namespace Go.Proofs.YtdlbhiaceheffabGreatDoor
open Go Go.RowKit Ty Tok ak
section
open Ty (Tr)
structure TyRd(w:World)(v:Value)(rows:List TyRow):Prop where
 row:w.ownsRow 0 69 4 v rows.length (rows.flatMap ew)
 bits:∀r∈rows,w.ownsRow 0 141 2 r.fv r.t.fields.length (r.t.fields.flatMap cQ)∧w.ownsRow 0 3 1 r.lv r.t.list.length (r.t.list.map aS)
theorem TyRd.below{w w':World}{v:Value}{rows:List TyRow}(h:TyRd w v rows)(hb:Below w.heap.size w w'):TyRd w' v rows:=
 ⟨az h.row hb,λr hr=>⟨az (h.bits r hr).1 hb,az (h.bits r hr).2 hb⟩⟩
theorem iC{e:TypeId}{size:Nat}{v:Value}{n:Nat}{xs:List Value}{a b:ak.Hp}(h:ak.row e size v n xs a)(hl:ak.le a b):ak.row e size v n xs b:=by
 refine⟨h.1,?_⟩;rcases h.2 with h2|⟨g,cap,cur,e1,e2,e3⟩
 ·exact .inl h2
 ·exact .inr ⟨g,cap,cur,e1,hl _ _ e2,e3⟩
theorem iF{e:TypeId}{size:Nat}{v:Value}{n:Nat}{xs:List Value}{w:World}(h:ak.row e size v n xs (ak.hp w)):w.ownsRow 0 e size v n xs:=by
 refine⟨h.1,?_⟩;rcases h.2 with h2|⟨g,cap,cur,e1,e2,e3⟩
 ·exact .inl h2
 ·exact .inr ⟨g,cap,cur,e1,Nat.zero_le _,e2,e3⟩
theorem wm:∀{L:List As}{a:ak.Hp},ah L a→∀P∈L,∃b,ak.le b a∧P b:=by
 intro L;induction L with
 |nil=>intro a _ P hP;simp at hP
 |cons Q L ih=>
  intro a h P hP;obtain⟨x,y,h1,h2,h3,h4,h5⟩:=h;rcases List.mem_cons.1 hP with rfl|hP
  ·exact⟨x,h2,h4⟩
  ·obtain⟨b,hb,hp⟩:=ih h5 P hP;exact⟨b,ak.le_trans hb h3,hp⟩
theorem ak.Sat.F'{w0 w:World}{L:List As}(h:Sat w0 w L)(i:Nat){v:Value}{ts:List Ty.Ty}(hi:L[i]?=some (oS v ts)):∃rows,rows.map TyRow.t=ts∧TyRd w v rows:=by
 refine h.get hi λa ha hl=>?_
 obtain⟨rows,x,y,_,hx,hy,hr,z,u,_,hz,hu,h1,h2⟩:=ha;refine⟨rows,hr,?_⟩;obtain⟨q,_,_,hq,_,qH,_⟩:=h2;have hlen:rows.length=ts.length:=by have:=congrArg List.length (show rows.map TyRow.t=ts from hr);simpa using this
 have Vp:ak.le z (ak.hp w):=ak.le_trans hz (ak.le_trans hy hl);have SS:ak.le q (ak.hp w):=ak.le_trans hq (ak.le_trans hu (ak.le_trans hy hl));refine⟨?_,λr W6=>?_⟩
 ·rw[hlen];exact iF (iC h1 Vp)
 ·obtain⟨b,hb,hp⟩:=wm qH _ (List.mem_map_of_mem W6);obtain⟨c,d,_,hc,hd,p1,p2⟩:=hp;exact⟨iF (iC p1 (ak.le_trans hc (ak.le_trans hb SS))),iF (iC p2 (ak.le_trans hd (ak.le_trans hb SS)))⟩
theorem sX(rows:List TyRow)(k:Nat)(h:k<rows.length)(j:Nat)(hj:j<4): (rows.flatMap ew)[k*4+j]?=(ew rows[k])[j]?:=by
 induction rows generalizing k with
 |nil=>simp at h
 |cons a l ih=>
  cases k with
  |zero=>simp only[List.flatMap_cons,List.getElem_cons_zero];rw[List.getElem?_append_left (by simp[ew];omega)];simp
  |succ k=>
   have:=ih k (by simpa using h);simp only[List.flatMap_cons,List.getElem_cons_succ];rw[List.getElem?_append_right (by simp[ew];omega),show(k+1)*4+j-(ew a).length=k*4+j by simp[ew];omega];exact this
theorem TyRd.at{w:World}{v:Value}{rows:List TyRow}(h:TyRd w v rows)(bZ:0<rows.length):
  ∃g cap:Nat,v=.slice (some ⟨g,0,none⟩) rows.length cap∧g<w.heap.size∧rows.length≤cap∧cap≤maxLen∧∀k(hk:k<rows.length),w.cell? ⟨g,k*4,none⟩=some (.int .i64 rows[k].t.kind)∧w.cell? ⟨g,k*4+1,none⟩=some rows[k].fv∧w.cell? ⟨g,k*4+2,none⟩=some rows[k].lv∧w.cell? ⟨g,k*4+3,none⟩=some (.int .i64 rows[k].t.of):=by
 have hc:=λg=>World.ownsRow.cells (g:=g) h.row
 have bm:=World.ownsRow.lt h.row;rcases h.row.2 with⟨_,h0⟩|⟨g,cap,cur,rfl,hg,hh,hn,hm,_⟩
 ·omega
 ·refine⟨g,cap,rfl,(bm g rfl).2,hn,hm,λk hk=>?_⟩;have e:∀j,(⟨g,0,none⟩:Addr).add j=⟨g,j,none⟩:=λj=>by unfold Addr.add;split<;>simp_all
  refine⟨?_,?_,?_,?_⟩
  ·rw[←e];exact hc g rfl _ _ ((sX rows k hk 0 (by omega)).trans rfl)
  ·rw[←e];exact hc g rfl _ _ ((sX rows k hk 1 (by omega)).trans rfl)
  ·rw[←e];exact hc g rfl _ _ ((sX rows k hk 2 (by omega)).trans rfl)
  ·rw[←e];exact hc g rfl _ _ ((sX rows k hk 3 (by omega)).trans rfl)
theorem ints_at{w:World}{v:Value}{l:List Nat}(h:w.ownsRow 0 3 1 v l.length (l.map aS))(k:Nat)(hk:k<l.length):∃g cap:Nat,v=.slice (some ⟨g,0,none⟩) l.length cap∧g<w.heap.size∧w.cell? ⟨g,k,none⟩=some (.int .i64 (l[k]:Nat)):=by
 obtain⟨g,cap,rfl,_,hg⟩:=h.form (by omega);refine⟨g,cap,rfl,hg,?_⟩;have:=World.ownsRow.cells h (g:=g) rfl k (aS l[k]) (by simp[hk]);rwa [Addr.add_lit,Nat.zero_add]at this
def cN:List BA→List Value→List Value
 |n::ns,p::ps=>.string n::p::cN ns ps
 | _,_=>[]
theorem ql:∀(ns:List BA)(ps:List Value)(n:BA)(p:Value),ns.length=ps.length→cN (ns++[n]) (ps++[p])=cN ns ps++[.string n,p]
 |[],[],_,_,_=>rfl
 |a::ns,b::ps,n,p,h=>by simp[cN,ql ns ps n p (by simpa using h)]
mutual
def rep(h:ak.Hp):Tr→Value→Prop
 | .mk k names parts list of,p=>∃(b:Nat)(pv lv ov:Value)(ps ls os:List Value),p=.pointer (some ⟨b,0,none⟩)∧h b=some (.cells #[.int .i64 (k:Nat),pv,lv,ov] 219 (0,0))∧
   ak.row 221 2 pv ps.length (cN names ps) h∧names.length=ps.length∧bz h parts ps∧
   ak.row 107 1 lv ls.length ls h∧bz h list ls∧bz h of os∧(os=[]∧ov=.pointer none∨os=[ov])
def bz(h:ak.Hp):List Tr→List Value→Prop
 |[],ps=>ps=[]
 |t::l,ps=>∃p BZ,ps=p::BZ∧rep h t p∧bz h l BZ
end
mutual
theorem bL{a b:ak.Hp}(hl:ak.le a b):∀(t:Tr)(p:Value),rep a t p→rep b t p
 | .mk k names parts list of,p,h=>by
  rw[rep]at h⊢
  obtain⟨bb,pv,lv,ov,ps,ls,os,h1,h2,h3,h4,h5,h6,h7,h8,h9⟩:=h;exact⟨bb,pv,lv,ov,ps,ls,os,h1,hl _ _ h2,iC h3 hl,h4,jq hl parts ps h5,iC h6 hl,jq hl list ls h7,jq hl of os h8,h9⟩
theorem jq{a b:ak.Hp}(hl:ak.le a b):∀(l:List Tr)(ps:List Value),bz a l ps→bz b l ps
 |[],ps,h=>by rw[bz]at h⊢;exact h
 |t::l,ps,h=>by
  rw[bz]at h⊢
  obtain⟨p,BZ,h1,h2,h3⟩:=h;exact⟨p,BZ,h1,bL hl t p h2,jq hl l BZ h3⟩
end
theorem lT{h:ak.Hp}:∀{l:List Tr}{ps:List Value}{t:Tr}{p:Value},bz h l ps→rep h t p→bz h (l++[t]) (ps++[p])
 |[],ps,t,p,h1,h2=>by
  rw[bz]at h1;subst h1
  show bz h [t] [p];rw[bz];exact⟨p,[],rfl,h2,by rw[bz]⟩
 |a::l,ps,t,p,h1,h2=>by
  rw[bz]at h1
  obtain⟨q,BZ,rfl,h3,h4⟩:=h1;show bz h (a:: (l++[t])) (q:: (BZ++[p]));rw[bz];exact⟨q,_,rfl,h3,lT h4 h2⟩
theorem bV{h:ak.Hp}:∀{l:List Tr}{ps:List Value},bz h l ps→l.length=ps.length
 |[],ps,h1=>by rw[bz]at h1;subst h1;rfl
 |a::l,ps,h1=>by
  rw[bz]at h1
  obtain⟨q,BZ,rfl,h3,h4⟩:=h1;simp[bV h4]
theorem cS{h:ak.Hp}:∀{l:List Tr}{ps:List Value},bz h l ps→∀k(hk:k<l.length)(wG:k<ps.length),rep h l[k] ps[k]
 |[],ps,h1,k,hk,_=>by simp at hk
 |a::l,ps,h1,k,hk,wG=>by
  rw[bz]at h1
  obtain⟨q,BZ,rfl,h3,h4⟩:=h1;cases k with
  |zero=>exact h3
  |succ k=>exact cS h4 k (by simpa using hk) (by simpa using wG)
theorem eQ{h:ak.Hp}{t:Tr}{p:Value}(hr:rep h t p):∃b,p=.pointer (some ⟨b,0,none⟩)∧∃o,h b=some o:=by
 cases t;rw[rep]at hr
 obtain⟨b,pv,lv,ov,ps,ls,os,h1,h2,_⟩:=hr;exact⟨b,h1,_,h2⟩
def pM(p:Value)(t:Tr):As:=λh=>rep h t p
def fI(ps:List Value)(l:List Tr):As:=λh=>bz h l ps
theorem ak.Sat.tree{w0 w:World}{L:List As}(h:Sat w0 w L)(i:Nat){p:Value}{t:Tr}(hi:L[i]?=some (pM p t)):rep (ak.hp w) t p:=h.get hi λ_ ha hl=>bL hl t p ha
end
end Go.Proofs.YtdlbhiaceheffabGreatDoor
