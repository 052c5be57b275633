/- Walk of check: visit at all trees. -/
import Derived.Test.YtdlbhiaceheffabGreatDoorP29
set_option linter.all false
namespace Go.Proofs.YtdlbhiaceheffabGreatDoor
open Go Go.RowKit Ty Tok ak
section
open Go
open Ty (Tr Ck aO Ex Sm Par dp kP jW je gR qx ax eT fQ aL db fJ ff dX eU af ft nB oU ku jT)
section
variable {wB:World} {X:Cx} {pg:Ty.Pg} {cb:Nat}
theorem pe.to{id A7 k k2:Nat}{F G:fP}(h:pe wB X cb id k F)(hi:id=A7)(hk:k≤k2)(hF:∀bk s,F bk s=G bk s):pe wB X cb A7 k2 G:=by
 have:F=G:=by funext bk s;exact hF bk s
 subst hi this;intro bk s c w Fr VH H hc bZ R aF av;exact h bk s c w Fr VH H (by omega) bZ R (λs' w' hq h2=>aF s' w' hq (h2.uM (by omega))) av
theorem oy.nil:oy wB X cb [] []:=⟨rfl,λj h=>absurd h (by simp)⟩
theorem pe.cons{id k:Nat}{F:fP}{ids:List Nat}{cs:List (Nat×fP)}(h:pe wB X cb id k F)(g:oy wB X cb ids cs):oy wB X cb (id::ids) ((k,F)::cs):=by
 refine⟨by rw[List.length_cons,List.length_cons,g.1],λj h1 h2=>?_⟩;cases j with
 |zero=>exact h
 |succ j=>exact g.2 j (by simpa using h1) (by simpa using h2)
theorem iT(hP:PB wB X.nv X.tv pg){id A7:Nat}{nd:Ty.Nd}(hn:pg.ns[id]?=some nd)(hi:id=A7){ids:List Nat}{cs:List (Nat×fP)}(JG:aC nd=ids)(hC:oy wB X cb ids cs)(hk:1≤nd.kind∧nd.kind≤14)(h6:nd.kind≠6)
  (ha:nd.a≤id) (hb:nd.b≤id) (hl:nd.list.length≤id) (hq:∀n∈nd.list,∃q,pg.ns[n]?=some q∧q.a≤id) (ho:nd.kind=10→∀p∈nd.list,(eW pg.ns p).kind=15) {K:Nat} (hK:cB cs+1≤K) {G:fP} (hG:∀bk s,aO (fB (cs.map Prod.snd) bk s) (jg pg X.a_ id bk)=G bk s):pe wB X cb A7 K G:=by
 subst JG;have h1:=dA hn;have h2:=hP.ok.kO;exact(CL hP hn hk h6 (zu hP.ok hn ha hb hl hq) (B_ hP.ok hn hl ho) (by omega) hC).to hi hK hG
theorem nH(hP:PB wB X.nv X.tv pg){id A7:Nat}{nd:Ty.Nd}(hn:pg.ns[id]?=some nd)(hi:id=A7){ids:List Nat}{cs:List (Nat×fP)}(JG:aC nd=ids)(hC:oy wB X cb ids cs)(hk:15≤nd.kind)(MP:nd.kind≠16∧nd.kind≠17∧nd.kind≠22∧nd.kind≠26∧nd.kind≤26)
  (ha:nd.a≤id) (hb:nd.b≤id) (hl:nd.list=[]) (nY:nd.kind=20→0≤nd.c∧nd.c≤id) {K:Nat} (hK:cB cs+1≤K) {G:fP} (hG:∀bk s,aO (fB (cs.map Prod.snd) bk s) (jg pg X.a_ id bk)=G bk s):pe wB X cb A7 K G:=by
 subst JG;have h1:=dA hn;have h2:=hP.ok.kO;exact(DG hP hn hk MP (λh=>by have:=nY h;omega) (zu hP.ok hn ha hb (by rw[hl];exact Nat.zero_le _) (by rw[hl];intro n h;cases h)) (B_ hP.ok hn (by rw[hl];exact Nat.zero_le _) (by intro h;omega)) (by omega) hC).to hi hK hG
theorem JE{α:Type}(m:Except Ty.Ft α):aO m (λs=>Except.ok s)=m:=by cases m<;>rfl
theorem Pt{tf:Nat→Nat}{id p:Nat}{ids:List Nat}(hn:pg.ns[id]?=some {af 26 p with list:=ids})(bk:List (Option Tr))(s:Ck):jg pg tf id bk s=.ok s:=by
 rw[si hn (by show 15≤26;omega)];rfl
theorem wg(hP:PB wB X.nv X.tv pg){b:List Sm}{a bp:Nat}(hn:pg.ns[a+aL b]?=some {af 26 bp with list:=dX b a})(hl:je pg.ns b a){cs:List (Nat×fP)}(hC:oy wB X cb (dX b a) cs){K:Nat}(hK:cB cs+1≤K){G:fP}(hG:∀bk s,fB (cs.map Prod.snd) bk s=G bk s):pe wB X cb (a+aL b) K G:=by
 have h1:=dA hn;have h2:=hP.ok.kO;have h3:=lX b a;refine(Fz hP hn (zu hP.ok hn (by simp[af]) (by simp[af]) (by simp only[af];omega) (λn h=>by obtain⟨q,e,h4⟩:=Zw b a hl n h;exact⟨q,e,by omega⟩)) (B_ hP.ok hn (by simp only[af];omega) (λh=>by cases h)) (by omega) hC).to rfl hK λbk s=>?_
 unfold lj;rw[←hG];have:jg pg X.a_ (a+aL b) bk=λs=>.ok s:=by funext s;exact Pt hn bk s
 rw[this,JE]
end
section
def CA(pg:Ty.Pg)(tf:Nat→Nat):List Ex→Nat→List (Nat×fP)
 |[],_=>[]
 |e::l,a=>(3*ax e,λbk s=>ft pg tf e a bk s)::CA pg tf l (a+ax e)
def C6(pg:Ty.Pg)(tf:Nat→Nat):List (Nat×BA×Ex)→Nat→List (Nat×fP)
 |[],_=>[]
 |(_,_,e)::l,a=>(3*(ax e+1),λbk s=>aO (ft pg tf e a bk s) λs=>jg pg tf (a+ax e) bk s)::C6 pg tf l (a+ax e+1)
def BO(pg:Ty.Pg)(tf:Nat→Nat):List Sm→Nat→List (Nat×fP)
 |[],_=>[]
 |e::l,a=>(3*db e,λbk s=>jT pg tf e a bk s)::BO pg tf l (a+db e)
variable {pg:Ty.Pg} {tf:Nat→Nat}
theorem cR(p:Nat×fP)(l:List (Nat×fP)):cB (p::l)=p.1+cB l:=rfl
theorem ve:∀(l:List Ex)(a:Nat),cB (CA pg tf l a)=3*eT l
 |[],_=>by rw[eT];rfl
 |e::l,a=>by rw[CA,cR,ve l,eT];simp only;omega
theorem zH:∀(l:List (Nat×BA×Ex))(a:Nat),cB (C6 pg tf l a)=3*fQ l
 |[],_=>by rw[fQ];rfl
 |(_,_,e)::l,a=>by rw[C6,cR,zH l,fQ];simp only;omega
theorem kE:∀(l:List Sm)(a:Nat),cB (BO pg tf l a)=3*aL l
 |[],_=>by rw[aL];rfl
 |e::l,a=>by rw[BO,cR,kE l,aL];simp only;omega
theorem uZ:∀(l:List Ex)(a:Nat)(bk:List (Option Tr))(s:Ck),fB ((CA pg tf l a).map Prod.snd) bk s=nB pg tf l a bk s
 |[],_,_,_=>by rw[nB];rfl
 |e::l,a,bk,s=>by
  rw[CA,nB,List.map_cons,fB];congr 1;funext r;exact uZ l _ bk r
theorem Bv:∀(l:List (Nat×BA×Ex))(a:Nat)(bk:List (Option Tr))(s:Ck),fB ((C6 pg tf l a).map Prod.snd) bk s=oU pg tf l a bk s
 |[],_,_,_=>by rw[oU];rfl
 |(_,_,e)::l,a,bk,s=>by
  rw[C6,oU,List.map_cons,fB];congr 1;funext r;exact Bv l _ bk r
theorem kh:∀(l:List Sm)(a:Nat)(bk:List (Option Tr))(s:Ck),fB ((BO pg tf l a).map Prod.snd) bk s=ku pg tf l a bk s
 |[],_,_,_=>by rw[ku];rfl
 |e::l,a,bk,s=>by
  rw[BO,ku,List.map_cons,fB];congr 1;funext r;exact kh l _ bk r
end
section
variable {wB:World} {X:Cx} {pg:Ty.Pg} {cb:Nat}
theorem yd{pg:Ty.Pg}{id:Nat}:∀n∈([]:List Nat),∃q,pg.ns[n]?=some q∧q.a≤id:=λn h=>by cases h
theorem UL{pg:Ty.Pg}{l:List Ex}{a id:Nat}(h:kP pg.ns l a)(hi:a+eT l≤id):∀n∈fJ l a,∃q,pg.ns[n]?=some q∧q.a≤id:=λn hn=>by
 obtain⟨q,h1,h2⟩:=Zi l a h n hn;exact⟨q,h1,by omega⟩
theorem X'{pg:Ty.Pg}{l:List (Nat×BA×Ex)}{a id:Nat}(h:jW pg.ns l a)(hi:a+fQ l≤id):∀n∈ff l a,∃q,pg.ns[n]?=some q∧q.a≤id:=λn hn=>by
 obtain⟨q,h1,h2,_⟩:=VD l a h n hn;exact⟨q,h1,by omega⟩
theorem abN{pg:Ty.Pg}{l:List (Nat×BA×Ex)}{a:Nat}(h:jW pg.ns l a):∀n∈ff l a,(eW pg.ns n).kind=15:=λn hn=>by
 obtain⟨q,h1,_,h2⟩:=VD l a h n hn;rw[cj h1];exact h2
theorem Yy{pg:Ty.Pg}{l:List Par}{a id:Nat}(h:qx pg.ns l a):∀n∈eU l a,∃q,pg.ns[n]?=some q∧q.a≤id:=λn hn=>by
 obtain⟨q,h1,h2⟩:=Zp l a h n hn;exact⟨q,h1,by omega⟩
theorem QZ(hP:PgOk pg)(e:Ex)(a:Nat)(h:dp pg.ns e a):∃nb,pg.ns[a+ax e-1]?=some nb∧NdW pg nb:=by
 cases e<;>rw[dp]at h<;>rw[ax]
 case fn p ps ty bp body=>exact⟨_,by rw[←h.2.2.2];congr 1;omega,zu hP h.2.2.2 (by dsimp only;omega) (by dsimp only[af];omega) (by have:=lI ps a;dsimp only;omega) (Yy h.1)⟩
 case call p e l=>exact⟨_,by rw[←h.2.2];congr 1<;>omega,zu hP h.2.2 (by dsimp only;omega) (by dsimp only[af];omega) (by have:=iV l (a+ax e);dsimp only;omega) (UL h.2.1 (nR _))⟩
 case get p e x=>exact⟨_,by rw[←h.2];congr 1<;>omega,zu hP h.2 (by dsimp only;omega) (by dsimp only[af];omega) (by simp[af]) yd⟩
 case atX p e i=>exact⟨_,by rw[←h.2.2];congr 1<;>omega,zu hP h.2.2 (by dsimp only;omega) (by dsimp only;omega) (by simp[af]) yd⟩
 case obj p l=>exact⟨_,by rw[←h.2];congr 1<;>omega,zu hP h.2 (by dsimp only[af];omega) (by dsimp only[af];omega) (by have:=oE l a;dsimp only;omega) (X' h.1 (nR _))⟩
 case arr p l=>exact⟨_,by rw[←h.2];congr 1<;>omega,zu hP h.2 (by dsimp only[af];omega) (by dsimp only[af];omega) (by have:=iV l a;dsimp only;omega) (UL h.1 (nR _))⟩
 case two p x e i=>exact⟨_,by rw[←h.2.2];congr 1<;>omega,zu hP h.2.2 (by dsimp only;omega) (by dsimp only;omega) (by simp[af]) yd⟩
 case one p x e=>exact⟨_,by rw[←h.2];congr 1<;>omega,zu hP h.2 (by dsimp only;omega) (by dsimp only[af];omega) (by simp[af]) yd⟩
 case asX p e ty=>exact⟨_,by rw[←h.2];congr 1<;>omega,zu hP h.2 (by dsimp only;omega) (by dsimp only[af];omega) (by simp[af]) yd⟩
 all_goals exact⟨_,by rw[←h];congr 1,zu hP h (by dsimp only[af];omega) (by dsimp only[af];omega) (by simp[af]) yd⟩
mutual
theorem kt(hP:PB wB X.nv X.tv pg):∀(e:Ex)(a:Nat),dp pg.ns e a→pe wB X cb (a+ax e-1:Nat) (3*ax e) (λbk s=>ft pg X.a_ e a bk s)
 | .num _ _,a,h=>by
  rw[dp]at h
  exact iT hP h (by rw[ax];omega) (ids:=[]) (cs:=[]) (by simp[aC,af]) oy.nil (by simp[af]) (by simp[af]) (by dsimp only[af];omega) (by dsimp only[af];omega) (by simp[af]) yd (λh=>by cases h) (by rw[ax];simp[cB]) (λbk s=>by rw[ft];rfl)
 | .text _ _,a,h=>by
  rw[dp]at h
  exact iT hP h (by rw[ax];omega) (ids:=[]) (cs:=[]) (by simp[aC,af]) oy.nil (by simp[af]) (by simp[af]) (by dsimp only[af];omega) (by dsimp only[af];omega) (by simp[af]) yd (λh=>by cases h) (by rw[ax];simp[cB]) (λbk s=>by rw[ft];rfl)
 | .bool _ _,a,h=>by
  rw[dp]at h
  exact iT hP h (by rw[ax];omega) (ids:=[]) (cs:=[]) (by simp[aC,af]) oy.nil (by simp[af]) (by simp[af]) (by dsimp only[af];omega) (by dsimp only[af];omega) (by simp[af]) yd (λh=>by cases h) (by rw[ax];simp[cB]) (λbk s=>by rw[ft];rfl)
 | .null _,a,h=>by
  rw[dp]at h
  exact iT hP h (by rw[ax];omega) (ids:=[]) (cs:=[]) (by simp[aC,af]) oy.nil (by simp[af]) (by simp[af]) (by dsimp only[af];omega) (by dsimp only[af];omega) (by simp[af]) yd (λh=>by cases h) (by rw[ax];simp[cB]) (λbk s=>by rw[ft];rfl)
 | .var _ _,a,h=>by
  rw[dp]at h
  exact iT hP h (by rw[ax];omega) (ids:=[]) (cs:=[]) (by simp[aC,af]) oy.nil (by simp[af]) (by simp[af]) (by dsimp only[af];omega) (by dsimp only[af];omega) (by simp[af]) yd (λh=>by cases h) (by rw[ax];simp[cB]) (λbk s=>by rw[ft];rfl)
 | .fn p ps ty bp body,a,h=>by
  rw[dp]at h
  have hb:=wg hP h.2.2.1 h.2.1 (uo hP body (a+ps.length) h.2.1) (K:=3*aL body+1) (by rw[kE];exact nR _) (λbk s=>kh body (a+ps.length) bk s);have hl:=lI ps a;have h1:=dA h.2.2.2;have h2:=hP.ok.kO;exact(O1 hP h.2.2.2 (zu hP.ok h.2.2.2 (by dsimp only;omega) (by dsimp only[af];omega) (by dsimp only;omega) (Yy h.1)) (B_ hP.ok h.2.2.2 (by dsimp only;omega) (λh=>by cases h)) (by omega) hb).to (by rw[ax];omega) (by rw[hl,ax];omega) (λbk s=>by rw[ft];rfl)
 | .call p e l,a,h=>by
  rw[dp]at h
  have h1:=kt hP e a h.1;have h2:=JY hP l (a+ax e) h.2.1;exact iT hP h.2.2 (by rw[ax];omega) (by first|(simp[aC,af];done)|(simp[aC,af];rfl)) (h1.cons h2) (by simp[af]) (by simp[af]) (by dsimp only;omega) (by dsimp only[af];omega) (by have:=iV l (a+ax e);dsimp only;omega) (UL h.2.1 (nR _)) (λh=>by cases h) (by rw[cR,ve,ax];dsimp only;omega) (λbk s=>by
   rw[ft,List.map_cons,fB,aM];congr 1;funext r;rw[uZ])
 | .get p e x,a,h=>by
  rw[dp]at h
  have h1:=kt hP e a h.1;exact iT hP h.2 (by rw[ax];omega) (by first|(simp[aC,af];done)|(simp[aC,af];rfl)) (h1.cons oy.nil) (by simp[af]) (by simp[af]) (by dsimp only;omega) (by dsimp only[af];omega) (by simp[af]) yd (λh=>by cases h) (by rw[cR,ax];simp[cB];omega) (λbk s=>by
   rw[ft,List.map_cons,List.map_nil,ei])
 | .one p x e,a,h=>by
  rw[dp]at h
  have h1:=kt hP e a h.1;exact iT hP h.2 (by rw[ax];omega) (by first|(simp[aC,af];done)|(simp[aC,af];rfl)) (h1.cons oy.nil) (by simp[af]) (by simp[af]) (by dsimp only;omega) (by dsimp only[af];omega) (by simp[af]) yd (λh=>by cases h) (by rw[cR,ax];simp[cB];omega) (λbk s=>by
   rw[ft,List.map_cons,List.map_nil,ei])
 | .asX p e ty,a,h=>by
  rw[dp]at h
  have h1:=kt hP e a h.1;exact iT hP h.2 (by rw[ax];omega) (by first|(simp[aC,af];done)|(simp[aC,af];rfl)) (h1.cons oy.nil) (by simp[af]) (by simp[af]) (by dsimp only;omega) (by dsimp only[af];omega) (by simp[af]) yd (λh=>by cases h) (by rw[cR,ax];simp[cB];omega) (λbk s=>by
   rw[ft,List.map_cons,List.map_nil,ei])
 | .atX p e i,a,h=>by
  rw[dp]at h
  have h1:=kt hP e a h.1;have h2:=kt hP i (a+ax e) h.2.1;exact iT hP h.2.2 (by rw[ax];omega) (by first|(simp[aC,af];done)|(simp[aC,af];rfl)) (h1.cons (h2.cons oy.nil)) (by simp[af]) (by simp[af]) (by dsimp only;omega) (by dsimp only;omega) (by simp[af]) yd (λh=>by cases h) (by rw[cR,cR,ax];simp[cB];omega) (λbk s=>by
   rw[ft,List.map_cons,List.map_cons,List.map_nil,fB,aM];congr 1;funext r;rw[ei])
 | .two p x e i,a,h=>by
  rw[dp]at h
  have h1:=kt hP e a h.1;have h2:=kt hP i (a+ax e) h.2.1;exact iT hP h.2.2 (by rw[ax];omega) (by first|(simp[aC,af];done)|(simp[aC,af];rfl)) (h1.cons (h2.cons oy.nil)) (by simp[af]) (by simp[af]) (by dsimp only;omega) (by dsimp only;omega) (by simp[af]) yd (λh=>by cases h) (by rw[cR,cR,ax];simp[cB];omega) (λbk s=>by
   rw[ft,List.map_cons,List.map_cons,List.map_nil,fB,aM];congr 1;funext r;rw[ei])
 | .obj p l,a,h=>by
  rw[dp]at h
  have h2:=Oa hP l a h.1;exact iT hP h.2 (by rw[ax];omega) (by first|(simp[aC,af];done)|(simp[aC,af];rfl)) h2 (by simp[af]) (by simp[af]) (by dsimp only[af];omega) (by dsimp only[af];omega) (by have:=oE l a;dsimp only;omega) (X' h.1 (nR _)) (λ_=>abN h.1) (by rw[zH,ax];omega) (λbk s=>by
   rw[ft,Bv])
 | .arr p l,a,h=>by
  rw[dp]at h
  have h2:=JY hP l a h.1;exact iT hP h.2 (by rw[ax];omega) (by first|(simp[aC,af];done)|(simp[aC,af];rfl)) h2 (by simp[af]) (by simp[af]) (by dsimp only[af];omega) (by dsimp only[af];omega) (by have:=iV l a;dsimp only;omega) (UL h.1 (nR _)) (λh=>by cases h) (by rw[ve,ax];omega) (λbk s=>by
   rw[ft,uZ])
theorem JY(hP:PB wB X.nv X.tv pg):∀(l:List Ex)(a:Nat),kP pg.ns l a→oy wB X cb (fJ l a) (CA pg X.a_ l a)
 |[],_,_=>oy.nil
 |e::l,a,h=>by
  rw[kP]at h
  rw[fJ,CA];exact(kt hP e a h.1).cons (JY hP l (a+ax e) h.2)
theorem Oa(hP:PB wB X.nv X.tv pg):∀(l:List (Nat×BA×Ex))(a:Nat),jW pg.ns l a→oy wB X cb (ff l a) (C6 pg X.a_ l a)
 |[],_,_=>oy.nil
 |(p,x,e)::l,a,h=>by
  rw[jW]at h
  rw[ff,C6];have h1:=kt hP e a h.1;exact(nH hP h.2.1 rfl (by first|(simp[aC,af];done)|(simp[aC,af];rfl)) (h1.cons oy.nil) (by simp[af]) (by simp[af]) (by dsimp only;omega) (by dsimp only[af];omega) (by simp[af]) (λh=>by cases h) (by rw[cR];simp[cB];omega) (λbk s=>by
   rw[List.map_cons,List.map_nil,ei])).cons (Oa hP l (a+ax e+1) h.2.2)
theorem uo(hP:PB wB X.nv X.tv pg):∀(l:List Sm)(a:Nat),je pg.ns l a→oy wB X cb (dX l a) (BO pg X.a_ l a)
 |[],_,_=>oy.nil
 |e::l,a,h=>by
  rw[je]at h
  rw[dX,BO];exact(Xt hP e a h.1).cons (uo hP l (a+db e) h.2)
theorem Xt(hP:PB wB X.nv X.tv pg):∀(e:Sm)(a:Nat),gR pg.ns e a→pe wB X cb (a+db e-1:Nat) (3*db e) (λbk s=>jT pg X.a_ e a bk s)
 | .kj p x ty e,a,h=>by
  rw[gR]at h
  have h1:=kt hP e a h.1;obtain⟨nb,Pn,hw⟩:=QZ hP.ok e a h.1;have g1:=dA h.2;have g2:=hP.ok.kO;have hI:=zu hP.ok h.2 (by dsimp only;omega) (by dsimp only[af];omega) (by simp[af]) yd;have hIn:=B_ hP.ok h.2 (by simp[af]) (λh=>by cases h);by_cases h6:nb.kind=6
  ·cases tw:ek pg.ts ty with
   |some t=>exact(IL hP h.2 hI hIn (by omega) Pn hw h6 tw h1).to (by rw[db];omega) (by rw[db];omega) (λbk s=>by rw[jT];rfl)
   |none=>exact(Ie hP h.2 hI hIn (by omega) Pn hw h6 tw h1).to (by rw[db];omega) (by rw[db];omega) (λbk s=>by rw[jT];rfl)
  ·exact(JC hP h.2 hI hIn (by omega) Pn hw h6 h1).to (by rw[db];omega) (by rw[db];omega) (λbk s=>by rw[jT];rfl)
 | .set p x e,a,h=>by
  rw[gR]at h
  have h1:=kt hP e a h.1;exact nH hP h.2 (by rw[db];omega) (by first|(simp[aC,af];done)|(simp[aC,af];rfl)) (h1.cons oy.nil) (by simp[af]) (by simp[af]) (by dsimp only;omega) (by dsimp only[af];omega) (by simp[af]) (λh=>by cases h) (by rw[cR,db];simp[cB];omega) (λbk s=>by
   rw[jT,List.map_cons,List.map_nil,ei])
 | .print p e,a,h=>by
  rw[gR]at h
  have h1:=kt hP e a h.1;exact nH hP h.2 (by rw[db];omega) (by first|(simp[aC,af];done)|(simp[aC,af];rfl)) (h1.cons oy.nil) (by simp[af]) (by simp[af]) (by dsimp only;omega) (by dsimp only[af];omega) (by simp[af]) (λh=>by cases h) (by rw[cR,db];simp[cB];omega) (λbk s=>by
   rw[jT,List.map_cons,List.map_nil,ei])
 | .ret p e,a,h=>by
  rw[gR]at h
  have h1:=kt hP e a h.1;exact nH hP h.2 (by rw[db];omega) (by first|(simp[aC,af];done)|(simp[aC,af];rfl)) (h1.cons oy.nil) (by simp[af]) (by simp[af]) (by dsimp only;omega) (by dsimp only[af];omega) (by simp[af]) (λh=>by cases h) (by rw[cR,db];simp[cB];omega) (λbk s=>by
   rw[jT,List.map_cons,List.map_nil,ei])
 | .vW p e,a,h=>by
  rw[gR]at h
  have h1:=kt hP e a h.1;exact nH hP h.2 (by rw[db];omega) (by first|(simp[aC,af];done)|(simp[aC,af];rfl)) (h1.cons oy.nil) (by simp[af]) (by simp[af]) (by dsimp only;omega) (by dsimp only[af];omega) (by simp[af]) (λh=>by cases h) (by rw[cR,db];simp[cB];omega) (λbk s=>by
   rw[jT,List.map_cons,List.map_nil,ei])
 | .put p e x i,a,h=>by
  rw[gR]at h
  have h1:=kt hP e a h.1;have h2:=kt hP i (a+ax e) h.2.1;exact nH hP h.2.2 (by rw[db];omega) (by first|(simp[aC,af];done)|(simp[aC,af];rfl)) (h1.cons (h2.cons oy.nil)) (by simp[af]) (by simp[af]) (by dsimp only;omega) (by dsimp only;omega) (by simp[af]) (λh=>by cases h) (by rw[cR,cR,db];simp[cB];omega) (λbk s=>by
   rw[jT,List.map_cons,List.map_cons,List.map_nil,fB,aM];congr 1;funext r;rw[ei])
 | .lay p e i j,a,h=>by
  rw[gR]at h
  have h1:=kt hP e a h.1;have h2:=kt hP i (a+ax e) h.2.1;have h3:=kt hP j (a+ax e+ax i) h.2.2.1;exact nH hP h.2.2.2 (by rw[db];omega) (by first|(simp[aC,af];done)|(simp[aC,af];rfl)) (h1.cons (h2.cons (h3.cons oy.nil))) (by simp[af]) (by simp[af]) (by dsimp only;omega) (by dsimp only;omega) (by simp[af]) (λ_=>by dsimp only;omega) (by rw[cR,cR,cR,db];simp[cB];omega) (λbk s=>by
   rw[jT,List.map_cons,List.map_cons,List.map_cons,List.map_nil,fB,aM];congr 1;funext r;rw[fB,aM];congr 1;funext r;rw[ei])
 | .while_ p e bp b,a,h=>by
  rw[gR]at h
  have h1:=kt hP e a h.1;have h2:=wg hP h.2.2.1 h.2.1 (uo hP b (a+ax e) h.2.1) (K:=3*aL b+1) (by rw[kE];exact nR _) (λbk s=>kh b (a+ax e) bk s);exact nH hP h.2.2.2 (by rw[db];omega) (by first|(simp[aC,af];done)|(simp[aC,af];rfl)) (h1.cons (h2.cons oy.nil)) (by simp[af]) (by simp[af]) (by dsimp only;omega) (by dsimp only;omega) (by simp[af]) (λh=>by cases h) (by rw[cR,cR,db];simp[cB];omega) (λbk s=>by
   rw[jT,List.map_cons,List.map_cons,List.map_nil,fB,aM];congr 1;funext r;rw[ei])
 | .if_ p e bp b none,a,h=>by
  rw[gR]at h
  have h1:=kt hP e a h.1;have h2:=wg hP h.2.2.1 h.2.1 (uo hP b (a+ax e) h.2.1) (K:=3*aL b+1) (by rw[kE];exact nR _) (λbk s=>kh b (a+ax e) bk s);have g1:=dA h.2.2.2;have g2:=hP.ok.kO;exact(MF hP h.2.2.2 (zu hP.ok h.2.2.2 (by dsimp only;omega) (by dsimp only;omega) (by simp[af]) yd) (B_ hP.ok h.2.2.2 (by simp[af]) (λh=>by cases h)) (by omega) h1 h2).to (by rw[db];omega) (by rw[cR,cR,db];simp[cB];omega) (λbk s=>by
   unfold lj;rw[jT,fB,aM];congr 1;funext r;rw[ei])
 | .if_ p e bp b (some (cp,c)),a,h=>by
  rw[gR]at h
  have h1:=kt hP e a h.1;have h2:=wg hP h.2.2.1 h.2.1 (uo hP b (a+ax e) h.2.1) (K:=3*aL b+1) (by rw[kE];exact nR _) (λbk s=>kh b (a+ax e) bk s);have h3:=wg hP h.2.2.2.2.1 h.2.2.2.1 (uo hP c (a+ax e+aL b+1) h.2.2.2.1) (K:=3*aL c+1) (by rw[kE];exact nR _) (λbk s=>kh c (a+ax e+aL b+1) bk s);have g1:=dA h.2.2.2.2.2;have g2:=hP.ok.kO;exact(Mc hP h.2.2.2.2.2 (zu hP.ok h.2.2.2.2.2 (by dsimp only;omega) (by dsimp only;omega) (by simp[af]) yd) (B_ hP.ok h.2.2.2.2.2 (by simp[af]) (λh=>by cases h)) (by omega) h1 h2 h3).to (by rw[db];omega) (by rw[cR,cR,db];simp[cB];omega) (λbk s=>by
   unfold lj;rw[jT,fB,aM,aM];congr 1;funext r;rw[ei])
end
end
end
section
namespace Ty
def sF(frs:List Frm)(s:Ck):Prop:=∀x n,kq frs x=some n→(s.has n).isSome=true
theorem sF.mono{frs:List Frm}{s s':Ck}{a b:Nat}(h:sF frs s)(g:Step a b s s'):sF frs s':=λx n hx=>g.has n (h x n hx)
theorem GN(l:List (BA×Nat))(x y:BA)(n:Nat):e_ (l++[(x,n)]) y=if x=y then some n else e_ l y:=by
 unfold e_;rw[List.reverse_append];by_cases h:x=y<;>simp[h]
theorem sF.add{fr:Frm}{frs:List Frm}{s:Ck}{x:BA}{n:Nat}(h:sF (fr::frs) s)(hn: (s.has n).isSome=true):sF (addN fr x n::frs) s:=λy m hy=>by
 rw[kq]at hy
 simp only[addN]at hy;rw[GN]at hy
 by_cases hx:x=y
 ·rw[if_pos hx]at hy;cases hy;exact hn
 ·rw[if_neg hx]at hy
  exact h y m (by rw[kq];exact hy)
theorem sF.new{frs:List Frm}{s:Ck}(h:sF frs s)(o:Nat)(f:Int):sF (⟨[],o,f⟩::frs) s:=λy m hy=>h y m (by rw[kq]at hy;exact hy)
theorem sF.xN{frs:List Frm}{s:Ck}(h:sF frs s)(n:Nat)(t:Tr):sF frs {s with has:=eX s.has n t}:=h.mono (k_ s n t)
theorem xJ(f:Nat→Option Tr)(n:Nat)(t:Tr): (eX f n t n).isSome=true:=by unfold eX;rw[if_pos rfl];rfl
theorem sF.decl{pg:Pg}{frs:List Frm}:∀(ps:List Par)(a:Nat)(fr:Frm)(v:Vg)(s:Ck),sF (fr::frs) s→sF ((gy ps a fr v).1::frs) (gQ pg (eU ps a) s)
 |[],_,_,_,_,h=>h
 |q::ps,a,fr,v,s,h=>by
  rw[gy,eU,gQ];exact sF.decl ps (a+1) _ _ _ ((h.xN a _).add (xJ _ _ _))
theorem vt{f:Nat→Option Tr}{l:List Nat}(h:∀n∈l,(f n).isSome=true):fM f l=true:=by unfold fM;rw[List.all_eq_true];exact h
section
variable {pg:Pg} {tq:Nat→Nat} {bk:List (Option Tr)} {s:Ck} {a b:Nat} {x:Nd}
theorem kS{m:Except Ft Ck}{K:List Nat}(qY:a≤b)(h:vx m λs'=>Step a b s s'∧∀n∈K,(s'.of n).isSome=true)(hn:pg.ns[b]?=some x)(hr:1≤x.kind∧x.kind≤14)(hk:c9 pg x=K)(h5:x.kind≠5)(yp:x.kind=14→0≤x.ty):
  vx (aO m λs=>jg pg tq b bk s) λs'=>Step a (b+1) s s'∧(s'.of b).isSome=true:=
 h.and λs1 h1=>(pC hn hr (by rw[hk];exact vt h1.2) (λh=>absurd h h5) yp).mono λs2 h2=>⟨h1.1.trans h2.1 qY (by omega),h2.2⟩
theorem lW{m:Except Ft Ck}{K:List Nat}(qY:a≤b)(h:vx m λs'=>Step a b s s'∧∀n∈K,(s'.of n).isSome=true)(hn:pg.ns[b]?=some x)(hr:15≤x.kind)(hk:dx x=K)(wX:x.kind≠18):
  vx (aO m λs=>jg pg tq b bk s) λs'=>Step a (b+1) s s'∧(x.kind=17→(s'.has b).isSome=true):=
 h.and λs1 h1=>(rN hn hr (by rw[hk];exact vt h1.2) (λh=>absurd h wX)).mono λs2 h2=>⟨h1.1.trans h2.1 qY (by omega),h2.2⟩
end
theorem ri{f:Nat→Option Tr}{n:Nat}(h: (f n).isSome=true):∀k∈[n],(f k).isSome=true:=λk hk=>by rw[List.mem_singleton]at hk;rw[hk];exact h
theorem ye{f:Nat→Option Tr}{n m:Nat}(h: (f n).isSome=true)(g: (f m).isSome=true):∀k∈[n,m],(f k).isSome=true:=λk hk=>by
 rcases List.mem_cons.1 hk with rfl|hk
 ·exact h
 ·exact ri g k hk
theorem JF{f:Nat→Option Tr}{n m l:Nat}(h: (f n).isSome=true)(g: (f m).isSome=true)(i: (f l).isSome=true):∀k∈[n,m,l],(f k).isSome=true:=λk hk=>by
 rcases List.mem_cons.1 hk with rfl|hk
 ·exact h
 ·exact ye g i k hk
theorem Step.some{a b n:Nat}{s s':Ck}(g:Step a b s s')(h: (s.of n).isSome=true)(hn:n<a∨b≤n): (s'.of n).isSome=true:=by rw[g.of n hn];exact h
theorem Gb{ns:List Nd}:∀(e:Ex)(a:Nat),dp ns e a→((eW ns (a+ax e-1)).kind=6↔lP e=true)
 | .num ..,a,h=>by rw[dp]at h;rw[ax,Nat.add_sub_cancel,cj h];simp[af,lP]
 | .text ..,a,h=>by rw[dp]at h;rw[ax,Nat.add_sub_cancel,cj h];simp[af,lP]
 | .bool ..,a,h=>by rw[dp]at h;rw[ax,Nat.add_sub_cancel,cj h];simp[af,lP]
 | .null ..,a,h=>by rw[dp]at h;rw[ax,Nat.add_sub_cancel,cj h];simp[af,lP]
 | .var ..,a,h=>by rw[dp]at h;rw[ax,Nat.add_sub_cancel,cj h];simp[af,lP]
 | .fn _ ps _ _ body,a,h=>by
  rw[dp]at h
  rw[ax,show a+(ps.length+aL body+2)-1=a+ps.length+aL body+1 by omega,cj h.2.2.2];simp[af,lP]
 | .call _ e l,a,h=>by
  rw[dp]at h
  rw[ax,show a+(ax e+eT l+1)-1=a+ax e+eT l by omega,cj h.2.2];simp[af,lP]
 | .get _ e _,a,h=>by
  rw[dp]at h
  rw[ax,show a+(ax e+1)-1=a+ax e by omega,cj h.2];simp[af,lP]
 | .atX _ e i,a,h=>by
  rw[dp]at h
  rw[ax,show a+(ax e+ax i+1)-1=a+ax e+ax i by omega,cj h.2.2];simp[af,lP]
 | .obj _ l,a,h=>by
  rw[dp]at h
  rw[ax,show a+(fQ l+1)-1=a+fQ l by omega,cj h.2];simp[af,lP]
 | .arr _ l,a,h=>by
  rw[dp]at h
  rw[ax,show a+(eT l+1)-1=a+eT l by omega,cj h.2];simp[af,lP]
 | .two _ _ e i,a,h=>by
  rw[dp]at h
  rw[ax,show a+(ax e+ax i+1)-1=a+ax e+ax i by omega,cj h.2.2];simp[af,lP]
 | .one _ _ e,a,h=>by
  rw[dp]at h
  rw[ax,show a+(ax e+1)-1=a+ax e by omega,cj h.2];simp[af,lP]
 | .asX _ e _,a,h=>by
  rw[dp]at h
  rw[ax,show a+(ax e+1)-1=a+ax e by omega,cj h.2];simp[af,lP]
theorem wq(pg:Pg)(n:Nat)(s:Ck):Step n (n+1) s (nW pg n s):=by
 unfold nW;split
 ·exact k_ s n _
 ·exact Step.refl _ _ _
theorem Ij{p n:Nat}{x:BA}{set:Bool}{frs:List Frm}{v v':Vg}(h:kB p x n set frs v=.ok v'):∃m,kq frs x=some m∧(n,m)∈v'.out:=by
 unfold kB at h;split at h
 ·cases h
 ·rename_i m hm;cases h;exact⟨m,hm,by simp⟩
set_option linter.unusedSectionVars false
section
variable {pg:Pg} {tq:Nat→Nat} (hP:PgOk pg)
include hP
mutual
theorem eK:∀(e:Ex)(a:Nat)(frs:List Frm)(v v':Vg)(bk:List (Option Tr))(s:Ck),dp pg.ns e a→bO e a frs v=.ok v'→(∀p∈v'.out,tq p.1=p.2)→sF frs s→
  vx (ft pg tq e a bk s) λs'=>Step a (a+ax e) s s'∧(s'.of (a+ax e-1)).isSome=true
 | .num ..,a,frs,v,v',bk,s,ly,hv,ht,hc=>by
  rw[dp]at ly;rw[ft,ax]
  exact pC ly ⟨by simp[af],by simp[af]⟩ rfl (λh=>by cases h) (λh=>by cases h)
 | .text ..,a,frs,v,v',bk,s,ly,hv,ht,hc=>by
  rw[dp]at ly;rw[ft,ax]
  exact pC ly ⟨by simp[af],by simp[af]⟩ rfl (λh=>by cases h) (λh=>by cases h)
 | .bool ..,a,frs,v,v',bk,s,ly,hv,ht,hc=>by
  rw[dp]at ly;rw[ft,ax]
  exact pC ly ⟨by simp[af],by simp[af]⟩ rfl (λh=>by cases h) (λh=>by cases h)
 | .null ..,a,frs,v,v',bk,s,ly,hv,ht,hc=>by
  rw[dp]at ly;rw[ft,ax]
  exact pC ly ⟨by simp[af],by simp[af]⟩ rfl (λh=>by cases h) (λh=>by cases h)
 | .var p x,a,frs,v,v',bk,s,ly,hv,ht,hc=>by
  rw[dp]at ly;rw[ft,ax];rw[bO]at hv
  obtain⟨m,hm,Xr⟩:=Ij hv;exact pC ly ⟨by simp[af],by simp[af]⟩ rfl (λ_=>by rw[ht _ Xr];exact hc x m hm) (λh=>by cases h)
 | .fn p ps ty bp body,a,frs,v,v',bk,s,ly,hv,ht,hc=>by
  rw[dp]at ly;rw[ft,ax];rw[bO]at hv
  obtain⟨lp,ls,hb,hn⟩:=ly;obtain⟨r,hr,h2⟩:=aG hv;cases h2;have VI:=sF.decl (pg:=pg) ps a ⟨[],a+ps.length+aL body+1,((a+ps.length+aL body+1:Nat):Int)⟩ v s (hc.new _ _);have h1:=uq (pg:=pg) ps a s;refine(mH body (a+ps.length) _ frs _ r (bk++[ek pg.ts ty]) _ ls hr ht VI).and λs1 g=>?_
  refine(pC hn ⟨by simp[af],by simp[af]⟩ rfl (λh=>by cases h) (λh=>by cases h)).mono λs2 g2=>⟨?_,?_⟩
  ·rw[show a+(ps.length+aL body+2)=a+ps.length+aL body+1+1 by omega];exact((h1.trans g.1 (by omega) (by omega)).mono (nR _) (by omega:a+ps.length+aL body≤a+ps.length+aL body+1)).trans g2.1 (by omega) (by omega)
  ·rw[show a+(ps.length+aL body+2)-1=a+ps.length+aL body+1 by omega];exact g2.2
 | .call p e l,a,frs,v,v',bk,s,ly,hv,ht,hc=>by
  rw[dp]at ly;rw[ft,ax];rw[bO]at hv
  obtain⟨l1,l2,hn⟩:=ly;obtain⟨v1,h1,h2⟩:=aG hv;have fs:=iG e;refine(eK e a frs v v1 bk s l1 h1 (λp hp=>ht p (l_ l _ _ _ _ h2 p hp)) hc).and λs1 g1=>?_
  refine(kS (K:=(a+ax e-1)::fJ l (a+ax e)) (by omega) ((yi l (a+ax e) frs v1 v' bk s1 l2 h2 ht (hc.mono g1.1)).mono λs2 g2=>⟨g2.1,λn hm=>?_⟩) hn ⟨by simp[af],by simp[af]⟩ rfl (by simp[af]) (by simp[af])).mono λs3 g3=>⟨?_,?_⟩
  ·rcases List.mem_cons.1 hm with rfl|hm
   ·exact g2.1.some g1.2 (by omega)
   ·exact g2.2 n hm
  ·rw[show a+(ax e+eT l+1)=a+ax e+eT l+1 by omega];exact g1.1.trans g3.1 (by omega) (by omega)
  ·rw[show a+(ax e+eT l+1)-1=a+ax e+eT l by omega];exact g3.2
 | .get p e x,a,frs,v,v',bk,s,ly,hv,ht,hc=>by
  rw[dp]at ly;rw[ft,ax];rw[bO]at hv
  exact kS (K:=[a+ax e-1]) (by omega) ((eK e a frs v v' bk s ly.1 hv ht hc).mono λs2 g2=>⟨g2.1,ri g2.2⟩) ly.2 ⟨by simp[af],by simp[af]⟩ rfl (by simp[af]) (by simp[af])
 | .atX p e i,a,frs,v,v',bk,s,ly,hv,ht,hc=>by
  rw[dp]at ly;rw[ft,ax];rw[bO]at hv
  obtain⟨l1,l2,hn⟩:=ly;obtain⟨v1,h1,h2⟩:=aG hv;have fs:=iG e;refine(eK e a frs v v1 bk s l1 h1 (λp hp=>ht p (bP i _ _ _ _ h2 p hp)) hc).and λs1 g1=>?_
  refine(kS (K:=[a+ax e-1,a+ax e+ax i-1]) (by omega) ((eK i (a+ax e) frs v1 v' bk s1 l2 h2 ht (hc.mono g1.1)).mono λs2 g2=>⟨g2.1,ye (g2.1.some g1.2 (by omega)) g2.2⟩) hn ⟨by simp[af],by simp[af]⟩ rfl (by simp[af]) (by simp[af])).mono λs3 g3=>⟨?_,?_⟩
  ·rw[show a+(ax e+ax i+1)=a+ax e+ax i+1 by omega];exact g1.1.trans g3.1 (by omega) (by omega)
  ·rw[show a+(ax e+ax i+1)-1=a+ax e+ax i by omega];exact g3.2
 | .obj p l,a,frs,v,v',bk,s,ly,hv,ht,hc=>by
  rw[dp]at ly;rw[ft,ax];rw[bO]at hv
  exact kS (K:=(ff l a).map λp=>(eW pg.ns p).a) (by omega) (EH l a frs v v' bk s ly.1 hv ht hc) ly.2 ⟨by simp[af],by simp[af]⟩ rfl (by simp[af]) (by simp[af])
 | .arr p l,a,frs,v,v',bk,s,ly,hv,ht,hc=>by
  rw[dp]at ly;rw[ft,ax];rw[bO]at hv
  exact kS (K:=fJ l a) (by omega) (yi l a frs v v' bk s ly.1 hv ht hc) ly.2 ⟨by simp[af],by simp[af]⟩ rfl (by simp[af]) (by simp[af])
 | .two p x e i,a,frs,v,v',bk,s,ly,hv,ht,hc=>by
  rw[dp]at ly;rw[ft,ax];rw[bO]at hv
  obtain⟨l1,l2,hn⟩:=ly;obtain⟨v1,h1,h2⟩:=aG hv;have fs:=iG e;refine(eK e a frs v v1 bk s l1 h1 (λp hp=>ht p (bP i _ _ _ _ h2 p hp)) hc).and λs1 g1=>?_
  refine(kS (K:=[a+ax e-1,a+ax e+ax i-1]) (by omega) ((eK i (a+ax e) frs v1 v' bk s1 l2 h2 ht (hc.mono g1.1)).mono λs2 g2=>⟨g2.1,ye (g2.1.some g1.2 (by omega)) g2.2⟩) hn ⟨by simp[af],by simp[af]⟩ rfl (by simp[af]) (by simp[af])).mono λs3 g3=>⟨?_,?_⟩
  ·rw[show a+(ax e+ax i+1)=a+ax e+ax i+1 by omega];exact g1.1.trans g3.1 (by omega) (by omega)
  ·rw[show a+(ax e+ax i+1)-1=a+ax e+ax i by omega];exact g3.2
 | .one p x e,a,frs,v,v',bk,s,ly,hv,ht,hc=>by
  rw[dp]at ly;rw[ft,ax];rw[bO]at hv
  exact kS (K:=[a+ax e-1]) (by omega) ((eK e a frs v v' bk s ly.1 hv ht hc).mono λs2 g2=>⟨g2.1,ri g2.2⟩) ly.2 ⟨by simp[af],by simp[af]⟩ rfl (by simp[af]) (by simp[af])
 | .asX p e ty,a,frs,v,v',bk,s,ly,hv,ht,hc=>by
  rw[dp]at ly;rw[ft,ax];rw[bO]at hv
  refine kS (K:=[]) (by omega) ((eK e a frs v v' bk s ly.1 hv ht hc).mono λs2 g2=>⟨g2.1,λn hn=>by cases hn⟩) ly.2 ⟨by simp[af],by simp[af]⟩ rfl (by simp[af]) λh=>?_
  exact(hP.ns _ (List.mem_of_getElem? ly.2)).Ni h
theorem yi:∀(l:List Ex)(a:Nat)(frs:List Frm)(v v':Vg)(bk:List (Option Tr))(s:Ck),kP pg.ns l a→iS l a frs v=.ok v'→(∀p∈v'.out,tq p.1=p.2)→sF frs s→
  vx (nB pg tq l a bk s) λs'=>Step a (a+eT l) s s'∧∀n∈fJ l a,(s'.of n).isSome=true
 |[],a,frs,v,v',bk,s,ly,hv,ht,hc=>by
  rw[nB];exact⟨λe=>(by cases e),λs' e=>by cases e;exact⟨Step.refl _ _ _,λn hn=>by cases hn⟩⟩
 |e::l,a,frs,v,v',bk,s,ly,hv,ht,hc=>by
  rw[kP]at ly;rw[nB,eT];rw[iS]at hv
  obtain⟨v1,h1,h2⟩:=aG hv;have fs:=iG e;refine(eK e a frs v v1 bk s ly.1 h1 (λp hp=>ht p (l_ l _ _ _ _ h2 p hp)) hc).and λs1 g1=>?_
  refine(yi l (a+ax e) frs v1 v' bk s1 ly.2 h2 ht (hc.mono g1.1)).mono λs2 g2=>⟨?_,λn hn=>?_⟩
  ·rw[←Nat.add_assoc];exact g1.1.trans g2.1 (by omega) (by omega)
  ·rw[fJ]at hn
   rcases List.mem_cons.1 hn with rfl|hn
   ·exact g2.1.some g1.2 (by omega)
   ·exact g2.2 n hn
theorem EH:∀(l:List (Nat×BA×Ex))(a:Nat)(frs:List Frm)(v v':Vg)(bk:List (Option Tr))(s:Ck),jW pg.ns l a→jC l a frs v=.ok v'→(∀p∈v'.out,tq p.1=p.2)→sF frs s→
  vx (oU pg tq l a bk s) λs'=>Step a (a+fQ l) s s'∧∀n∈(ff l a).map (λp=>(eW pg.ns p).a),(s'.of n).isSome=true
 |[],a,frs,v,v',bk,s,ly,hv,ht,hc=>by
  rw[oU];exact⟨λe=>(by cases e),λs' e=>by cases e;exact⟨Step.refl _ _ _,λn hn=>by cases hn⟩⟩
 |(p,x,e)::l,a,frs,v,v',bk,s,ly,hv,ht,hc=>by
  rw[jW]at ly;rw[oU,fQ];rw[jC]at hv
  obtain⟨l1,hn,l2⟩:=ly;obtain⟨v1,h1,h2⟩:=aG hv;have fs:=iG e;refine vx.and (P:=λs1=>Step a (a+ax e+1) s s1∧(s1.of (a+ax e-1)).isSome=true) ?_ λs1 g1=>?_
  ·refine(eK e a frs v v1 bk s l1 h1 (λp hp=>ht p (rG l _ _ _ _ h2 p hp)) hc).and λs1 g1=>?_
   refine(rN hn (by simp[af]) rfl (by simp[af])).mono λs2 g2=>⟨g1.1.trans g2.1 (by omega) (by omega),g2.1.some g1.2 (by omega)⟩
  ·refine(EH l (a+ax e+1) frs v1 v' bk s1 l2 h2 ht (hc.mono g1.1)).mono λs2 g2=>⟨?_,λn hm=>?_⟩
   ·rw[show a+(ax e+1+fQ l)=a+ax e+1+fQ l by omega];exact g1.1.trans g2.1 (by omega) (by omega)
   ·rw[ff,List.map_cons,cj hn]at hm
    rcases List.mem_cons.1 hm with rfl|hm
    ·exact g2.1.some g1.2 (by left;show a+ax e-1< _;omega)
    ·exact g2.2 n hm
theorem mH:∀(l:List Sm)(a:Nat)(fr:Frm)(frs:List Frm)(v:Vg)(r:Frm×Vg)(bk:List (Option Tr))(s:Ck),je pg.ns l a→fG l a fr frs v=.ok r→(∀p∈r.2.out,tq p.1=p.2)→sF (fr::frs) s→
  vx (ku pg tq l a bk s) λs'=>Step a (a+aL l) s s'∧sF (r.1::frs) s'
 |[],a,fr,frs,v,r,bk,s,ly,hv,ht,hc=>by
  rw[fG]at hv;cases hv
  rw[ku];exact⟨λe=>(by cases e),λs' e=>by cases e;exact⟨Step.refl _ _ _,hc⟩⟩
 |e::l,a,fr,frs,v,r,bk,s,ly,hv,ht,hc=>by
  rw[je]at ly;rw[ku,aL];rw[fG]at hv
  obtain⟨q,h1,h2⟩:=aG hv;refine(QU e a fr frs v q bk s ly.1 h1 (λp hp=>ht p (eY l _ _ _ _ _ h2 p hp)) hc).and λs1 g1=>?_
  refine(mH l (a+db e) q.1 frs q.2 r bk s1 ly.2 h2 ht g1.2).mono λs2 g2=>⟨?_,g2.2⟩
  rw[←Nat.add_assoc];exact g1.1.trans g2.1 (by omega) (by omega)
theorem QU:∀(e:Sm)(a:Nat)(fr:Frm)(frs:List Frm)(v:Vg)(r:Frm×Vg)(bk:List (Option Tr))(s:Ck),gR pg.ns e a→dK e a fr frs v=.ok r→(∀p∈r.2.out,tq p.1=p.2)→sF (fr::frs) s→
  vx (jT pg tq e a bk s) λs'=>Step a (a+db e) s s'∧sF (r.1::frs) s'
 | .kj p x ty e,a,fr,frs,v,r,bk,s,ly,hv,ht,hc=>by
  rw[gR]at ly;rw[jT,db];rw[dK]at hv
  have fs:=iG e;have BH:=Gb e a ly.1;have g_:=wq pg (a+ax e) s;have aaJ: (eW pg.ns (a+ax e)).a=a+ax e-1:=by rw[cj ly.2]
  split at hv
  ·cases hv
  ·have Xx:∃dJ v0 v1,bO e a dJ v0=.ok v1∧r=(addN fr x (a+ax e),r.2)∧r.2.out=v1.out∧sF dJ (nW pg (a+ax e) s):=by
    split at hv
    ·rename_i hf;obtain⟨v1,h1,h2⟩:=aG hv;cases h2;refine⟨_,_,v1,h1,rfl,rfl,?_⟩;unfold nW;rw[if_pos (by rw[aaJ];exact BH.2 hf)];exact(hc.xN _ _).add (xJ _ _ _)
    ·rename_i hf;obtain⟨v1,h1,h2⟩:=aG hv;cases h2;refine⟨_,_,v1,h1,rfl,rfl,hc.mono g_⟩
   obtain⟨dJ,v0,v1,h1,hr,Lj,abz⟩:=Xx;refine(lW (a:=a) (s:=nW pg (a+ax e) s) (K:=[a+ax e-1]) (by omega) ((eK e a dJ v0 v1 bk _ ly.1 h1 (λp hp=>ht p (by rw[Lj];exact hp)) abz).mono λs2 g2=>⟨g2.1,ri g2.2⟩) ly.2 (by simp[af]) rfl (by simp[af])).mono λs3 g3=>⟨?_,?_⟩
   ·exact⟨λn hn=>(g3.1.of n hn).trans (g_.of n (by omega)),λn hn=>g3.1.has n (g_.has n hn),λn hn=>(g3.1.out n hn).trans (g_.out n (by omega))⟩
   ·rw[hr];exact((hc.mono g_).mono g3.1).add (g3.2 rfl)
 | .set p x e,a,fr,frs,v,r,bk,s,ly,hv,ht,hc=>by
  rw[gR]at ly;rw[jT,db];rw[dK]at hv
  obtain⟨v1,h1,h2⟩:=aG hv;obtain⟨v2,h3,h4⟩:=aG h2;cases h4;have fs:=iG e;obtain⟨m,hm,Xr⟩:=Ij h1;refine(eK e a (fr::frs) v1 v2 bk s ly.1 h3 ht hc).and λs1 g1=>?_
  refine(rN ly.2 (by simp[af]) (vt (ri g1.2)) λ_=>?_).mono λs2 g2=>⟨g1.1.trans g2.1 (by omega) (by omega),(hc.mono g1.1).mono g2.1⟩
  rw[ht _ (bP e _ _ _ _ h3 _ Xr)];exact g1.1.has m (hc x m hm)
 | .put p e x w,a,fr,frs,v,r,bk,s,ly,hv,ht,hc=>by
  rw[gR]at ly;rw[jT,db];rw[dK]at hv
  obtain⟨l1,l2,hn⟩:=ly;obtain⟨v1,h1,h2⟩:=aG hv;obtain⟨v2,h3,h4⟩:=aG h2;cases h4;have fs:=iG e;refine(eK e a (fr::frs) v v1 bk s l1 h1 (λp hp=>ht p (bP w _ _ _ _ h3 p hp)) hc).and λs1 g1=>?_
  refine(lW (K:=[a+ax e-1,a+ax e+ax w-1]) (by omega) ((eK w (a+ax e) (fr::frs) v1 v2 bk s1 l2 h3 ht (hc.mono g1.1)).mono λs2 g2=>⟨g2.1,ye (g2.1.some g1.2 (by omega)) g2.2⟩) hn (by simp[af]) rfl (by simp[af])).mono λs3 g3=>⟨?_,(hc.mono g1.1).mono g3.1⟩
  rw[show a+(ax e+ax w+1)=a+ax e+ax w+1 by omega];exact g1.1.trans g3.1 (by omega) (by omega)
 | .lay p e i w,a,fr,frs,v,r,bk,s,ly,hv,ht,hc=>by
  rw[gR]at ly;rw[jT,db];rw[dK]at hv
  obtain⟨l1,l2,l3,hn⟩:=ly;obtain⟨v1,h1,h2⟩:=aG hv;obtain⟨v2,h3,h4⟩:=aG h2;obtain⟨v3,h5,h6⟩:=aG h4;cases h6;have fs:=iG e;have Yj:=iG i;refine(eK e a (fr::frs) v v1 bk s l1 h1 (λp hp=>ht p (bP w _ _ _ _ h5 p (bP i _ _ _ _ h3 p hp))) hc).and λs1 g1=>?_
  refine(eK i (a+ax e) (fr::frs) v1 v2 bk s1 l2 h3 (λp hp=>ht p (bP w _ _ _ _ h5 p hp)) (hc.mono g1.1)).and λs2 g2=>?_
  refine(lW (K:=[a+ax e-1,a+ax e+ax i-1,a+ax e+ax i+ax w-1]) (by omega) ((eK w (a+ax e+ax i) (fr::frs) v2 v3 bk s2 l3 h5 ht ((hc.mono g1.1).mono g2.1)).mono λs3 g3=>⟨g3.1,JF (g3.1.some (g2.1.some g1.2 (by omega)) (by omega)) (g3.1.some g2.2 (by omega)) g3.2⟩) hn (by simp[af]) rfl (by simp[af])).mono λs4 g4=>⟨?_,((hc.mono g1.1).mono g2.1).mono g4.1⟩
  rw[show a+(ax e+ax i+ax w+1)=a+ax e+ax i+ax w+1 by omega];exact(g1.1.trans g2.1 (by omega) (by omega)).trans g4.1 (by omega) (by omega)
 | .print p e,a,fr,frs,v,r,bk,s,ly,hv,ht,hc=>by
  rw[gR]at ly;rw[jT,db];rw[dK]at hv
  obtain⟨v1,h1,h2⟩:=aG hv;cases h2;exact(lW (K:=[]) (by omega) ((eK e a (fr::frs) v v1 bk s ly.1 h1 ht hc).mono λs2 g2=>⟨g2.1,λn hn=>by cases hn⟩) ly.2 (by simp[af]) rfl (by simp[af])).mono λs3 g3=>⟨g3.1,hc.mono g3.1⟩
 | .ret p e,a,fr,frs,v,r,bk,s,ly,hv,ht,hc=>by
  rw[gR]at ly;rw[jT,db];rw[dK]at hv
  obtain⟨v1,h1,h2⟩:=aG hv;cases h2;exact(lW (K:=[a+ax e-1]) (by omega) ((eK e a (fr::frs) v v1 bk s ly.1 h1 ht hc).mono λs2 g2=>⟨g2.1,ri g2.2⟩) ly.2 (by simp[af]) rfl (by simp[af])).mono λs3 g3=>⟨g3.1,hc.mono g3.1⟩
 | .vW p e,a,fr,frs,v,r,bk,s,ly,hv,ht,hc=>by
  rw[gR]at ly;rw[jT,db];rw[dK]at hv
  obtain⟨v1,h1,h2⟩:=aG hv;cases h2;exact(lW (K:=[]) (by omega) ((eK e a (fr::frs) v v1 bk s ly.1 h1 ht hc).mono λs2 g2=>⟨g2.1,λn hn=>by cases hn⟩) ly.2 (by simp[af]) rfl (by simp[af])).mono λs3 g3=>⟨g3.1,hc.mono g3.1⟩
 | .if_ p e bp b none,a,fr,frs,v,r,bk,s,ly,hv,ht,hc=>by
  rw[gR]at ly;rw[jT,db];rw[dK]at hv
  obtain⟨l1,l2,hb,hn⟩:=ly;obtain⟨v1,h1,h2⟩:=aG hv;obtain⟨q,h3,h4⟩:=aG h2;cases h4;refine(eK e a (fr::frs) v v1 bk s l1 h1 (λp hp=>ht p (eY b _ _ _ _ _ h3 p hp)) hc).and λs1 g1=>?_
  refine(mH b (a+ax e) _ (fr::frs) v1 q bk s1 l2 h3 ht ((hc.mono g1.1).new _ _)).and λs2 g2=>?_
  refine(rN hn (by simp[af]) rfl (by simp[af])).mono λs3 g3=>⟨?_,((hc.mono g1.1).mono g2.1).mono g3.1⟩
  rw[show a+(ax e+aL b+2)=a+ax e+aL b+1+1 by omega];exact((g1.1.trans g2.1 (by omega) (by omega)).mono (nR _) (by omega:a+ax e+aL b≤a+ax e+aL b+1)).trans g3.1 (by omega) (by omega)
 | .if_ p e bp b (some (cp,c)),a,fr,frs,v,r,bk,s,ly,hv,ht,hc=>by
  rw[gR]at ly;rw[jT,db];rw[dK]at hv
  obtain⟨l1,l2,hb,l3,aI,hn⟩:=ly;obtain⟨v1,h1,h2⟩:=aG hv;obtain⟨q,h3,h4⟩:=aG h2;obtain⟨q2,h5,h6⟩:=aG h4;cases h6;refine(eK e a (fr::frs) v v1 bk s l1 h1 (λp hp=>ht p (eY c _ _ _ _ _ h5 p (eY b _ _ _ _ _ h3 p hp))) hc).and λs1 g1=>?_
  refine(mH b (a+ax e) _ (fr::frs) v1 q bk s1 l2 h3 (λp hp=>ht p (eY c _ _ _ _ _ h5 p hp)) ((hc.mono g1.1).new _ _)).and λs2 g2=>?_
  refine(mH c (a+ax e+aL b+1) _ (fr::frs) q.2 q2 bk s2 l3 h5 ht (((hc.mono g1.1).mono g2.1).new _ _)).and λs3 g3=>?_
  refine(rN hn (by simp[af]) rfl (by simp[af])).mono λs4 g4=>⟨?_,(((hc.mono g1.1).mono g2.1).mono g3.1).mono g4.1⟩
  rw[show a+(ax e+aL b+aL c+3)=a+ax e+aL b+1+aL c+1+1 by omega];exact((((g1.1.trans g2.1 (by omega) (by omega)).mono (nR _) (by omega:a+ax e+aL b≤a+ax e+aL b+1)).trans g3.1 (by omega) (by omega)).mono (nR _) (by omega:a+ax e+aL b+1+aL c≤a+ax e+aL b+1+aL c+1)).trans g4.1 (by omega) (by omega)
 | .while_ p e bp b,a,fr,frs,v,r,bk,s,ly,hv,ht,hc=>by
  rw[gR]at ly;rw[jT,db];rw[dK]at hv
  obtain⟨l1,l2,hb,hn⟩:=ly;obtain⟨v1,h1,h2⟩:=aG hv;obtain⟨q,h3,h4⟩:=aG h2;cases h4;refine(eK e a (fr::frs) v v1 bk s l1 h1 (λp hp=>ht p (eY b _ _ _ _ _ h3 p hp)) hc).and λs1 g1=>?_
  refine(mH b (a+ax e) _ (fr::frs) v1 q bk s1 l2 h3 ht ((hc.mono g1.1).new _ _)).and λs2 g2=>?_
  refine(rN hn (by simp[af]) rfl (by simp[af])).mono λs3 g3=>⟨?_,((hc.mono g1.1).mono g2.1).mono g3.1⟩
  rw[show a+(ax e+aL b+2)=a+ax e+aL b+1+1 by omega];exact((g1.1.trans g2.1 (by omega) (by omega)).mono (nR _) (by omega:a+ax e+aL b≤a+ax e+aL b+1)).trans g3.1 (by omega) (by omega)
end
end
theorem J7{pg:Pg}(hP:PgOk pg){tq:Nat→Nat}{l:List Sm}(ly:je pg.ns l 0){v:Vg}(hv:jv l=.ok v)(ht:∀p∈v.out,tq p.1=p.2):vx (Hh pg tq l) λ_=>True:=by
 unfold jv at hv;obtain⟨r,h1,h2⟩:=aG hv;cases h2;unfold Hh;exact(mH hP l 0 _ [] _ r [] _ ly h1 ht λx n hx=>by cases hx).mono λs _=>trivial
end Ty
end
end Go.Proofs.YtdlbhiaceheffabGreatDoor
