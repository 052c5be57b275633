/- Types in memory: lists of types that are read, and trees. -/
import Derived.Test.YtdlbhiaceheffabGreatDoorC06
import Derived.Test.YtdlbhiaceheffabGreatDoorC05
set_option linter.all false
namespace Go.Proofs.YtdlbhiaceheffabGreatDoor
open Go Go.RowKit Ty Tok Prt
section
open Ty (Tr)
structure TyRd(w:World)(v:Value)(rows:List TyRow):Prop where
 row:w.ownsRow 0 69 4 v rows.length (rows.flatMap ff)
 bits:∀r∈rows,w.ownsRow 0 141 2 r.fv r.t.fields.length (r.t.fields.flatMap c9)/\w.ownsRow 0 3 1 r.lv r.t.list.length (r.t.list.map aQ)
theorem TyRd.below{w w':World}{v:Value}{rows:List TyRow}(h:TyRd w v rows)(hb:Below w.heap.size w w'):TyRd w' v rows:=
 ⟨ay h.row hb,λr hr=>⟨ay (h.bits r hr).1 hb,ay (h.bits r hr).2 hb⟩⟩
theorem iQ{e:TypeId}{size:Nat}{v:Value}{n:Nat}{xs:List Value}{a b:Prt.Hp}(h:Prt.row e size v n xs a)(hl:Prt.le a b):Prt.row e size v n xs b:=by
 refine⟨h.1,?_⟩;rcases h.2 with h2|⟨g,cap,cur,e1,e2,e3⟩
 ·exact .inl h2
 ·exact .inr ⟨g,cap,cur,e1,hl _ _ e2,e3⟩
theorem iR{e:TypeId}{size:Nat}{v:Value}{n:Nat}{xs:List Value}{w:World}(h:Prt.row e size v n xs (Prt.hp w)):w.ownsRow 0 e size v n xs:=by
 refine⟨h.1,?_⟩;rcases h.2 with h2|⟨g,cap,cur,e1,e2,e3⟩
 ·exact .inl h2
 ·exact .inr ⟨g,cap,cur,e1,Nat.zero_le _,e2,e3⟩
theorem yz:∀{L:List As}{a:Prt.Hp},aq L a->∀P∈L,∃b,Prt.le b a/\P b:=by
 intro L;induction L with
 |nil=>intro a _ P hP;simp at hP
 |cons Q L ih=>
  intro a h P hP;obtain⟨x,y,h1,h2,h3,h4,h5⟩:=h;rcases List.mem_cons.1 hP with rfl|hP
  ·exact⟨x,h2,h4⟩
  ·obtain⟨b,hb,hp⟩:=ih h5 P hP;exact⟨b,Prt.le_trans hb h3,hp⟩
theorem Prt.Sat.F5{w0 w:World}{L:List As}(h:Sat w0 w L)(i:Nat){v:Value}{ts:List Ty.Ty}(hi:L[i]?=some (sA v ts)):∃rows,rows.map TyRow.t=ts/\TyRd w v rows:=by
 refine h.get hi λa ha hl=>?_
 obtain⟨rows,x,y,_,hx,hy,hr,z,u,_,hz,hu,h1,h2⟩:=ha;refine⟨rows,hr,?_⟩;obtain⟨q,_,_,hq,_,rF,_⟩:=h2;have hlen:rows.length=ts.length:=by have:=congrArg List.length (show rows.map TyRow.t=ts from hr);simpa using this
 have ZP:Prt.le z (Prt.hp w):=Prt.le_trans hz (Prt.le_trans hy hl);have WR:Prt.le q (Prt.hp w):=Prt.le_trans hq (Prt.le_trans hu (Prt.le_trans hy hl));refine⟨?_,λr afD=>?_⟩
 ·rw[hlen];exact iR (iQ h1 ZP)
 ·obtain⟨b,hb,hp⟩:=yz rF _ (List.mem_map_of_mem afD);obtain⟨c,d,_,hc,hd,p1,p2⟩:=hp;exact⟨iR (iQ p1 (Prt.le_trans hc (Prt.le_trans hb WR))),iR (iQ p2 (Prt.le_trans hd (Prt.le_trans hb WR)))⟩
theorem uM(rows:List TyRow)(k:Nat)(h:k<rows.length)(j:Nat)(hj:j<4): (rows.flatMap ff)[k*4+j]?=(ff rows[k])[j]?:=by
 induction rows generalizing k with
 |nil=>simp at h
 |cons a l ih=>
  cases k with
  |zero=>simp only[List.flatMap_cons,List.getElem_cons_zero];rw[List.getElem?_append_left (by simp[ff];omega)];simp
  |succ k=>
   have:=ih k (by simpa using h);simp only[List.flatMap_cons,List.getElem_cons_succ];rw[List.getElem?_append_right (by simp[ff];omega),show(k+1)*4+j-(ff a).length=k*4+j by simp[ff];omega];exact this
theorem TyRd.at{w:World}{v:Value}{rows:List TyRow}(h:TyRd w v rows)(eR:0<rows.length):
  ∃g cap:Nat,v=.slice (some ⟨g,0,none⟩) rows.length cap/\g<w.heap.size/\rows.length<=cap/\cap<=maxLen/\∀k(hk:k<rows.length),w.cell? ⟨g,k*4,none⟩=some (.int .i64 rows[k].t.kind)/\w.cell? ⟨g,k*4+1,none⟩=some rows[k].fv/\w.cell? ⟨g,k*4+2,none⟩=some rows[k].lv/\w.cell? ⟨g,k*4+3,none⟩=some (.int .i64 rows[k].t.of):=by
 have hc:=λg=>World.ownsRow.cells (g:=g) h.row
 have bz:=World.ownsRow.lt h.row;rcases h.row.2 with⟨_,h0⟩|⟨g,cap,cur,rfl,hg,hh,hn,hm,_⟩
 ·omega
 ·refine⟨g,cap,rfl,(bz g rfl).2,hn,hm,λk hk=>?_⟩;have e:∀j,(⟨g,0,none⟩:Addr).add j=⟨g,j,none⟩:=λj=>by unfold Addr.add;split<;>simp_all
  refine⟨?_,?_,?_,?_⟩
  ·rw[<-e];exact hc g rfl _ _ ((uM rows k hk 0 (by omega)).trans rfl)
  ·rw[<-e];exact hc g rfl _ _ ((uM rows k hk 1 (by omega)).trans rfl)
  ·rw[<-e];exact hc g rfl _ _ ((uM rows k hk 2 (by omega)).trans rfl)
  ·rw[<-e];exact hc g rfl _ _ ((uM rows k hk 3 (by omega)).trans rfl)
theorem ints_at{w:World}{v:Value}{l:List Nat}(h:w.ownsRow 0 3 1 v l.length (l.map aQ))(k:Nat)(hk:k<l.length):∃g cap:Nat,v=.slice (some ⟨g,0,none⟩) l.length cap/\g<w.heap.size/\w.cell? ⟨g,k,none⟩=some (.int .i64 (l[k]:Nat)):=by
 obtain⟨g,cap,rfl,_,hg⟩:=h.form (by omega);refine⟨g,cap,rfl,hg,?_⟩;have:=World.ownsRow.cells h (g:=g) rfl k (aQ l[k]) (by simp[hk]);rwa [Addr.add_lit,Nat.zero_add]at this
def cP:List BA->List Value->List Value
 |n::ns,p::ps=>.string n::p::cP ns ps
 | _,_=>[]
theorem rL:∀(ns:List BA)(ps:List Value)(n:BA)(p:Value),ns.length=ps.length->cP (ns++[n]) (ps++[p])=cP ns ps++[.string n,p]
 |[],[],_,_,_=>rfl
 |a::ns,b::ps,n,p,h=>by simp[cP,rL ns ps n p (by simpa using h)]
mutual
def rep(h:Prt.Hp):Tr->Value->Prop
 | .mk k names parts list of,p=>∃(b:Nat)(pv lv ov:Value)(ps ls os:List Value),p=.pointer (some ⟨b,0,none⟩)/\h b=some (.cells #[.int .i64 (k:Nat),pv,lv,ov] 219 (0,0))/\
   Prt.row 221 2 pv ps.length (cP names ps) h/\names.length=ps.length/\br h parts ps/\
   Prt.row 107 1 lv ls.length ls h/\br h list ls/\br h of os/\(os=[]/\ov=.pointer none\/os=[ov])
def br(h:Prt.Hp):List Tr->List Value->Prop
 |[],ps=>ps=[]
 |t::l,ps=>∃p Fy,ps=p::Fy/\rep h t p/\br h l Fy
end
mutual
theorem dp{a b:Prt.Hp}(hl:Prt.le a b):∀(t:Tr)(p:Value),rep a t p->rep b t p
 | .mk k names parts list of,p,h=>by
  rw[rep]at h⊢
  obtain⟨bb,pv,lv,ov,ps,ls,os,h1,h2,h3,h4,h5,h6,h7,h8,h9⟩:=h;exact⟨bb,pv,lv,ov,ps,ls,os,h1,hl _ _ h2,iQ h3 hl,h4,jB hl parts ps h5,iQ h6 hl,jB hl list ls h7,jB hl of os h8,h9⟩
theorem jB{a b:Prt.Hp}(hl:Prt.le a b):∀(l:List Tr)(ps:List Value),br a l ps->br b l ps
 |[],ps,h=>by rw[br]at h⊢;exact h
 |t::l,ps,h=>by
  rw[br]at h⊢
  obtain⟨p,Fy,h1,h2,h3⟩:=h;exact⟨p,Fy,h1,dp hl t p h2,jB hl l Fy h3⟩
end
theorem mZ{h:Prt.Hp}:∀{l:List Tr}{ps:List Value}{t:Tr}{p:Value},br h l ps->rep h t p->br h (l++[t]) (ps++[p])
 |[],ps,t,p,h1,h2=>by
  rw[br]at h1;subst h1
  show br h [t] [p];rw[br];exact⟨p,[],rfl,h2,by rw[br]⟩
 |a::l,ps,t,p,h1,h2=>by
  rw[br]at h1
  obtain⟨q,Fy,rfl,h3,h4⟩:=h1;show br h (a:: (l++[t])) (q:: (Fy++[p]));rw[br];exact⟨q,_,rfl,h3,mZ h4 h2⟩
theorem db{h:Prt.Hp}:∀{l:List Tr}{ps:List Value},br h l ps->l.length=ps.length
 |[],ps,h1=>by rw[br]at h1;subst h1;rfl
 |a::l,ps,h1=>by
  rw[br]at h1
  obtain⟨q,Fy,rfl,h3,h4⟩:=h1;simp[db h4]
theorem dn{h:Prt.Hp}:∀{l:List Tr}{ps:List Value},br h l ps->∀k(hk:k<l.length)(qR:k<ps.length),rep h l[k] ps[k]
 |[],ps,h1,k,hk,_=>by simp at hk
 |a::l,ps,h1,k,hk,qR=>by
  rw[br]at h1
  obtain⟨q,Fy,rfl,h3,h4⟩:=h1;cases k with
  |zero=>exact h3
  |succ k=>exact dn h4 k (by simpa using hk) (by simpa using qR)
theorem e_{h:Prt.Hp}{t:Tr}{p:Value}(hr:rep h t p):∃b,p=.pointer (some ⟨b,0,none⟩)/\∃o,h b=some o:=by
 cases t;rw[rep]at hr
 obtain⟨b,pv,lv,ov,ps,ls,os,h1,h2,_⟩:=hr;exact⟨b,h1,_,h2⟩
def qp(p:Value)(t:Tr):As:=λh=>rep h t p
def fQ(ps:List Value)(l:List Tr):As:=λh=>br h l ps
theorem Prt.Sat.tree{w0 w:World}{L:List As}(h:Sat w0 w L)(i:Nat){p:Value}{t:Tr}(hi:L[i]?=some (qp p t)):rep (Prt.hp w) t p:=h.get hi λ_ ha hl=>dp hl t p ha
end
end Go.Proofs.YtdlbhiaceheffabGreatDoor
