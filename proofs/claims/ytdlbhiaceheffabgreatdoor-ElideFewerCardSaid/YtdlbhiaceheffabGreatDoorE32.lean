/- Walk of check: visit at all trees. -/
import Derived.Test.YtdlbhiaceheffabGreatDoorE31
import Derived.Test.YtdlbhiaceheffabGreatDoorE09
set_option linter.all false
set_option maxRecDepth 100000
set_option maxHeartbeats 2000000
namespace Go.Proofs.YtdlbhiaceheffabGreatDoor
open Go Go.RowKit Ty Tok Prt Tryz Proofs.Tryz
section
open Go
open Ty (Tr Ck aN Ex Sm Par df kN jS iR gL qd ax eE fE aJ da fq eL dU eH af eT nX oN j4 jI)
section
variable {wB:World} {X:Cx} {pg:Ty.Pg} {cb:Nat}
theorem pF.to{id Eb k k2:Nat}{F G:fK}(h:pF wB X cb id k F)(hi:id=Eb)(hk:k<=k2)(hF:∀bk s,F bk s=G bk s):pF wB X cb Eb k2 G:=by
 have:F=G:=by funext bk s;exact hF bk s
 subst hi this;intro bk s c w Fr Vf H hc bT R aH au;exact h bk s c w Fr Vf H (by omega) bT R (λs' w' hq h2=>aH s' w' hq (h2.uT (by omega))) au
theorem ou.nil:ou wB X cb [] []:=⟨rfl,λj h=>absurd h (by simp)⟩
theorem pF.cons{id k:Nat}{F:fK}{ids:List Nat}{cs:List (Nat×fK)}(h:pF wB X cb id k F)(g:ou wB X cb ids cs):ou wB X cb (id::ids) ((k,F)::cs):=by
 refine⟨by rw[List.length_cons,List.length_cons,g.1],λj h1 h2=>?_⟩;cases j with
 |zero=>exact h
 |succ j=>exact g.2 j (by simpa using h1) (by simpa using h2)
theorem jd(hP:PB wB X.nv X.tv pg){id Eb:Nat}{nd:Nd}(hn:pg.ns[id]?=some nd)(hi:id=Eb){ids:List Nat}{cs:List (Nat×fK)}(Kv:aA nd=ids)(hC:ou wB X cb ids cs)(hk:1<=nd.kind/\nd.kind<=14)(h6:nd.kind≠6)
  (ha:nd.a<=id) (hb:nd.b<=id) (hl:nd.list.length<=id) (hq:∀n∈nd.list,∃q,pg.ns[n]?=some q/\q.a<=id) (ho:nd.kind=10->∀p∈nd.list,(cV pg.ns p).kind=15) {K:Nat} (hK:dp cs+1<=K) {G:fK} (hG:∀bk s,aN (eX (cs.map Prod.snd) bk s) (iW pg X.aK id bk)=G bk s):pF wB X cb Eb K G:=by
 subst Kv;have h1:=cX hn;have h2:=hP.ok.ju;exact(Cr hP hn hk h6 (BF hP.ok hn ha hb hl hq) (Ct hP.ok hn hl ho) (by omega) hC).to hi hK hG
theorem nB(hP:PB wB X.nv X.tv pg){id Eb:Nat}{nd:Nd}(hn:pg.ns[id]?=some nd)(hi:id=Eb){ids:List Nat}{cs:List (Nat×fK)}(Kv:aA nd=ids)(hC:ou wB X cb ids cs)(hk:15<=nd.kind)(Mz:nd.kind≠16/\nd.kind≠17/\nd.kind≠22/\nd.kind≠26/\nd.kind<=26)
  (ha:nd.a<=id) (hb:nd.b<=id) (hl:nd.list=[]) (np:nd.kind=20->0<=nd.c/\nd.c<=id) {K:Nat} (hK:dp cs+1<=K) {G:fK} (hG:∀bk s,aN (eX (cs.map Prod.snd) bk s) (iW pg X.aK id bk)=G bk s):pF wB X cb Eb K G:=by
 subst Kv;have h1:=cX hn;have h2:=hP.ok.ju;exact(Cv hP hn hk Mz (λh=>by have:=np h;omega) (BF hP.ok hn ha hb (by rw[hl];exact Nat.zero_le _) (by rw[hl];intro n h;cases h)) (Ct hP.ok hn (by rw[hl];exact Nat.zero_le _) (by intro h;omega)) (by omega) hC).to hi hK hG
theorem Iv{α:Type}(m:Except Ty.Ft α):aN m (λs=>Except.ok s)=m:=by cases m<;>rfl
theorem P8{tf:Nat->Nat}{id p:Nat}{ids:List Nat}(hn:pg.ns[id]?=some {af 26 p with list:=ids})(bk:List (Option Tr))(s:Ck):iW pg tf id bk s=.ok s:=by
 rw[sC hn (by show 15<=26;omega)];rfl
theorem xr(hP:PB wB X.nv X.tv pg){b:List Sm}{a bp:Nat}(hn:pg.ns[a+aJ b]?=some {af 26 bp with list:=dU b a})(hl:iR pg.ns b a){cs:List (Nat×fK)}(hC:ou wB X cb (dU b a) cs){K:Nat}(hK:dp cs+1<=K){G:fK}(hG:∀bk s,eX (cs.map Prod.snd) bk s=G bk s):pF wB X cb (a+aJ b) K G:=by
 have h1:=cX hn;have h2:=hP.ok.ju;have h3:=lD b a;refine(F3 hP hn (BF hP.ok hn (by simp[af]) (by simp[af]) (by simp only[af];omega) (λn h=>by obtain⟨q,e,h4⟩:=Zl b a hl n h;exact⟨q,e,by omega⟩)) (Ct hP.ok hn (by simp only[af];omega) (λh=>by cases h)) (by omega) hC).to rfl hK λbk s=>?_
 unfold kX;rw[<-hG];have:iW pg X.aK (a+aJ b) bk=λs=>.ok s:=by funext s;exact P8 hn bk s
 rw[this,Iv]
end
section
def DV(pg:Ty.Pg)(tf:Nat->Nat):List Ex->Nat->List (Nat×fK)
 |[],_=>[]
 |e::l,a=>(3*ax e,λbk s=>eT pg tf e a bk s)::DV pg tf l (a+ax e)
def Ds(pg:Ty.Pg)(tf:Nat->Nat):List (Nat×BA×Ex)->Nat->List (Nat×fK)
 |[],_=>[]
 |(_,_,e)::l,a=>(3*(ax e+1),λbk s=>aN (eT pg tf e a bk s) λs=>iW pg tf (a+ax e) bk s)::Ds pg tf l (a+ax e+1)
def Cf(pg:Ty.Pg)(tf:Nat->Nat):List Sm->Nat->List (Nat×fK)
 |[],_=>[]
 |e::l,a=>(3*da e,λbk s=>jI pg tf e a bk s)::Cf pg tf l (a+da e)
variable {pg:Ty.Pg} {tf:Nat->Nat}
theorem cT(p:Nat×fK)(l:List (Nat×fK)):dp (p::l)=p.1+dp l:=rfl
theorem uR:∀(l:List Ex)(a:Nat),dp (DV pg tf l a)=3*eE l
 |[],_=>by rw[eE];rfl
 |e::l,a=>by rw[DV,cT,uR l,eE];simp only;omega
theorem zH:∀(l:List (Nat×BA×Ex))(a:Nat),dp (Ds pg tf l a)=3*fE l
 |[],_=>by rw[fE];rfl
 |(_,_,e)::l,a=>by rw[Ds,cT,zH l,fE];simp only;omega
theorem kp:∀(l:List Sm)(a:Nat),dp (Cf pg tf l a)=3*aJ l
 |[],_=>by rw[aJ];rfl
 |e::l,a=>by rw[Cf,cT,kp l,aJ];simp only;omega
theorem tW:∀(l:List Ex)(a:Nat)(bk:List (Option Tr))(s:Ck),eX ((DV pg tf l a).map Prod.snd) bk s=nX pg tf l a bk s
 |[],_,_,_=>by rw[nX];rfl
 |e::l,a,bk,s=>by
  rw[DV,nX,List.map_cons,eX];congr 1;funext r;exact tW l _ bk r
theorem zX:∀(l:List (Nat×BA×Ex))(a:Nat)(bk:List (Option Tr))(s:Ck),eX ((Ds pg tf l a).map Prod.snd) bk s=oN pg tf l a bk s
 |[],_,_,_=>by rw[oN];rfl
 |(_,_,e)::l,a,bk,s=>by
  rw[Ds,oN,List.map_cons,eX];congr 1;funext r;exact zX l _ bk r
theorem j6:∀(l:List Sm)(a:Nat)(bk:List (Option Tr))(s:Ck),eX ((Cf pg tf l a).map Prod.snd) bk s=j4 pg tf l a bk s
 |[],_,_,_=>by rw[j4];rfl
 |e::l,a,bk,s=>by
  rw[Cf,j4,List.map_cons,eX];congr 1;funext r;exact j6 l _ bk r
end
section
variable {wB:World} {X:Cx} {pg:Ty.Pg} {cb:Nat}
theorem xZ{pg:Ty.Pg}{id:Nat}:∀n∈([]:List Nat),∃q,pg.ns[n]?=some q/\q.a<=id:=λn h=>by cases h
theorem UF{pg:Ty.Pg}{l:List Ex}{a id:Nat}(h:kN pg.ns l a)(hi:a+eE l<=id):∀n∈fq l a,∃q,pg.ns[n]?=some q/\q.a<=id:=λn hn=>by
 obtain⟨q,h1,h2⟩:=YF l a h n hn;exact⟨q,h1,by omega⟩
theorem ZD{pg:Ty.Pg}{l:List (Nat×BA×Ex)}{a id:Nat}(h:jS pg.ns l a)(hi:a+fE l<=id):∀n∈eL l a,∃q,pg.ns[n]?=some q/\q.a<=id:=λn hn=>by
 obtain⟨q,h1,h2,_⟩:=XO l a h n hn;exact⟨q,h1,by omega⟩
theorem abz{pg:Ty.Pg}{l:List (Nat×BA×Ex)}{a:Nat}(h:jS pg.ns l a):∀n∈eL l a,(cV pg.ns n).kind=15:=λn hn=>by
 obtain⟨q,h1,_,h2⟩:=XO l a h n hn;rw[bw h1];exact h2
theorem Yb{pg:Ty.Pg}{l:List Par}{a id:Nat}(h:qd pg.ns l a):∀n∈eH l a,∃q,pg.ns[n]?=some q/\q.a<=id:=λn hn=>by
 obtain⟨q,h1,h2⟩:=YX l a h n hn;exact⟨q,h1,by omega⟩
theorem OJ(hP:PgOk pg)(e:Ex)(a:Nat)(h:df pg.ns e a):∃nb,pg.ns[a+ax e-1]?=some nb/\NdW pg nb:=by
 cases e<;>rw[df]at h<;>rw[ax]
 case fn p ps ty bp body=>exact⟨_,by rw[<-h.2.2.2];congr 1;omega,BF hP h.2.2.2 (by dsimp only;omega) (by dsimp only[af];omega) (by have:=lk ps a;dsimp only;omega) (Yb h.1)⟩
 case call p e l=>exact⟨_,by rw[<-h.2.2];congr 1<;>omega,BF hP h.2.2 (by dsimp only;omega) (by dsimp only[af];omega) (by have:=jb l (a+ax e);dsimp only;omega) (UF h.2.1 (nR _))⟩
 case get p e x=>exact⟨_,by rw[<-h.2];congr 1<;>omega,BF hP h.2 (by dsimp only;omega) (by dsimp only[af];omega) (by simp[af]) xZ⟩
 case atX p e i=>exact⟨_,by rw[<-h.2.2];congr 1<;>omega,BF hP h.2.2 (by dsimp only;omega) (by dsimp only;omega) (by simp[af]) xZ⟩
 case obj p l=>exact⟨_,by rw[<-h.2];congr 1<;>omega,BF hP h.2 (by dsimp only[af];omega) (by dsimp only[af];omega) (by have:=oF l a;dsimp only;omega) (ZD h.1 (nR _))⟩
 case arr p l=>exact⟨_,by rw[<-h.2];congr 1<;>omega,BF hP h.2 (by dsimp only[af];omega) (by dsimp only[af];omega) (by have:=jb l a;dsimp only;omega) (UF h.1 (nR _))⟩
 case two p x e i=>exact⟨_,by rw[<-h.2.2];congr 1<;>omega,BF hP h.2.2 (by dsimp only;omega) (by dsimp only;omega) (by simp[af]) xZ⟩
 case one p x e=>exact⟨_,by rw[<-h.2];congr 1<;>omega,BF hP h.2 (by dsimp only;omega) (by dsimp only[af];omega) (by simp[af]) xZ⟩
 case asX p e ty=>exact⟨_,by rw[<-h.2];congr 1<;>omega,BF hP h.2 (by dsimp only;omega) (by dsimp only[af];omega) (by simp[af]) xZ⟩
 all_goals exact⟨_,by rw[<-h];congr 1,BF hP h (by dsimp only[af];omega) (by dsimp only[af];omega) (by simp[af]) xZ⟩
mutual
theorem kB(hP:PB wB X.nv X.tv pg):∀(e:Ex)(a:Nat),df pg.ns e a->pF wB X cb (a+ax e-1:Nat) (3*ax e) (λbk s=>eT pg X.aK e a bk s)
 | .num _ _,a,h=>by
  rw[df]at h
  exact jd hP h (by rw[ax];omega) (ids:=[]) (cs:=[]) (by simp[aA,af]) ou.nil (by simp[af]) (by simp[af]) (by dsimp only[af];omega) (by dsimp only[af];omega) (by simp[af]) xZ (λh=>by cases h) (by rw[ax];simp[dp]) (λbk s=>by rw[eT];rfl)
 | .text _ _,a,h=>by
  rw[df]at h
  exact jd hP h (by rw[ax];omega) (ids:=[]) (cs:=[]) (by simp[aA,af]) ou.nil (by simp[af]) (by simp[af]) (by dsimp only[af];omega) (by dsimp only[af];omega) (by simp[af]) xZ (λh=>by cases h) (by rw[ax];simp[dp]) (λbk s=>by rw[eT];rfl)
 | .bool _ _,a,h=>by
  rw[df]at h
  exact jd hP h (by rw[ax];omega) (ids:=[]) (cs:=[]) (by simp[aA,af]) ou.nil (by simp[af]) (by simp[af]) (by dsimp only[af];omega) (by dsimp only[af];omega) (by simp[af]) xZ (λh=>by cases h) (by rw[ax];simp[dp]) (λbk s=>by rw[eT];rfl)
 | .null _,a,h=>by
  rw[df]at h
  exact jd hP h (by rw[ax];omega) (ids:=[]) (cs:=[]) (by simp[aA,af]) ou.nil (by simp[af]) (by simp[af]) (by dsimp only[af];omega) (by dsimp only[af];omega) (by simp[af]) xZ (λh=>by cases h) (by rw[ax];simp[dp]) (λbk s=>by rw[eT];rfl)
 | .var _ _,a,h=>by
  rw[df]at h
  exact jd hP h (by rw[ax];omega) (ids:=[]) (cs:=[]) (by simp[aA,af]) ou.nil (by simp[af]) (by simp[af]) (by dsimp only[af];omega) (by dsimp only[af];omega) (by simp[af]) xZ (λh=>by cases h) (by rw[ax];simp[dp]) (λbk s=>by rw[eT];rfl)
 | .fn p ps ty bp body,a,h=>by
  rw[df]at h
  have hb:=xr hP h.2.2.1 h.2.1 (vj hP body (a+ps.length) h.2.1) (K:=3*aJ body+1) (by rw[kp];exact nR _) (λbk s=>j6 body (a+ps.length) bk s);have hl:=lk ps a;have h1:=cX h.2.2.2;have h2:=hP.ok.ju;exact(QE hP h.2.2.2 (BF hP.ok h.2.2.2 (by dsimp only;omega) (by dsimp only[af];omega) (by dsimp only;omega) (Yb h.1)) (Ct hP.ok h.2.2.2 (by dsimp only;omega) (λh=>by cases h)) (by omega) hb).to (by rw[ax];omega) (by rw[hl,ax];omega) (λbk s=>by rw[eT];rfl)
 | .call p e l,a,h=>by
  rw[df]at h
  have h1:=kB hP e a h.1;have h2:=IC hP l (a+ax e) h.2.1;exact jd hP h.2.2 (by rw[ax];omega) (by first|(simp[aA,af];done)|(simp[aA,af];rfl)) (h1.cons h2) (by simp[af]) (by simp[af]) (by dsimp only;omega) (by dsimp only[af];omega) (by have:=jb l (a+ax e);dsimp only;omega) (UF h.2.1 (nR _)) (λh=>by cases h) (by rw[cT,uR,ax];dsimp only;omega) (λbk s=>by
   rw[eT,List.map_cons,eX,aM];congr 1;funext r;rw[tW])
 | .get p e x,a,h=>by
  rw[df]at h
  have h1:=kB hP e a h.1;exact jd hP h.2 (by rw[ax];omega) (by first|(simp[aA,af];done)|(simp[aA,af];rfl)) (h1.cons ou.nil) (by simp[af]) (by simp[af]) (by dsimp only;omega) (by dsimp only[af];omega) (by simp[af]) xZ (λh=>by cases h) (by rw[cT,ax];simp[dp];omega) (λbk s=>by
   rw[eT,List.map_cons,List.map_nil,dY])
 | .one p x e,a,h=>by
  rw[df]at h
  have h1:=kB hP e a h.1;exact jd hP h.2 (by rw[ax];omega) (by first|(simp[aA,af];done)|(simp[aA,af];rfl)) (h1.cons ou.nil) (by simp[af]) (by simp[af]) (by dsimp only;omega) (by dsimp only[af];omega) (by simp[af]) xZ (λh=>by cases h) (by rw[cT,ax];simp[dp];omega) (λbk s=>by
   rw[eT,List.map_cons,List.map_nil,dY])
 | .asX p e ty,a,h=>by
  rw[df]at h
  have h1:=kB hP e a h.1;exact jd hP h.2 (by rw[ax];omega) (by first|(simp[aA,af];done)|(simp[aA,af];rfl)) (h1.cons ou.nil) (by simp[af]) (by simp[af]) (by dsimp only;omega) (by dsimp only[af];omega) (by simp[af]) xZ (λh=>by cases h) (by rw[cT,ax];simp[dp];omega) (λbk s=>by
   rw[eT,List.map_cons,List.map_nil,dY])
 | .atX p e i,a,h=>by
  rw[df]at h
  have h1:=kB hP e a h.1;have h2:=kB hP i (a+ax e) h.2.1;exact jd hP h.2.2 (by rw[ax];omega) (by first|(simp[aA,af];done)|(simp[aA,af];rfl)) (h1.cons (h2.cons ou.nil)) (by simp[af]) (by simp[af]) (by dsimp only;omega) (by dsimp only;omega) (by simp[af]) xZ (λh=>by cases h) (by rw[cT,cT,ax];simp[dp];omega) (λbk s=>by
   rw[eT,List.map_cons,List.map_cons,List.map_nil,eX,aM];congr 1;funext r;rw[dY])
 | .two p x e i,a,h=>by
  rw[df]at h
  have h1:=kB hP e a h.1;have h2:=kB hP i (a+ax e) h.2.1;exact jd hP h.2.2 (by rw[ax];omega) (by first|(simp[aA,af];done)|(simp[aA,af];rfl)) (h1.cons (h2.cons ou.nil)) (by simp[af]) (by simp[af]) (by dsimp only;omega) (by dsimp only;omega) (by simp[af]) xZ (λh=>by cases h) (by rw[cT,cT,ax];simp[dp];omega) (λbk s=>by
   rw[eT,List.map_cons,List.map_cons,List.map_nil,eX,aM];congr 1;funext r;rw[dY])
 | .obj p l,a,h=>by
  rw[df]at h
  have h2:=OC hP l a h.1;exact jd hP h.2 (by rw[ax];omega) (by first|(simp[aA,af];done)|(simp[aA,af];rfl)) h2 (by simp[af]) (by simp[af]) (by dsimp only[af];omega) (by dsimp only[af];omega) (by have:=oF l a;dsimp only;omega) (ZD h.1 (nR _)) (λ_=>abz h.1) (by rw[zH,ax];omega) (λbk s=>by
   rw[eT,zX])
 | .arr p l,a,h=>by
  rw[df]at h
  have h2:=IC hP l a h.1;exact jd hP h.2 (by rw[ax];omega) (by first|(simp[aA,af];done)|(simp[aA,af];rfl)) h2 (by simp[af]) (by simp[af]) (by dsimp only[af];omega) (by dsimp only[af];omega) (by have:=jb l a;dsimp only;omega) (UF h.1 (nR _)) (λh=>by cases h) (by rw[uR,ax];omega) (λbk s=>by
   rw[eT,tW])
theorem IC(hP:PB wB X.nv X.tv pg):∀(l:List Ex)(a:Nat),kN pg.ns l a->ou wB X cb (fq l a) (DV pg X.aK l a)
 |[],_,_=>ou.nil
 |e::l,a,h=>by
  rw[kN]at h
  rw[fq,DV];exact(kB hP e a h.1).cons (IC hP l (a+ax e) h.2)
theorem OC(hP:PB wB X.nv X.tv pg):∀(l:List (Nat×BA×Ex))(a:Nat),jS pg.ns l a->ou wB X cb (eL l a) (Ds pg X.aK l a)
 |[],_,_=>ou.nil
 |(p,x,e)::l,a,h=>by
  rw[jS]at h
  rw[eL,Ds];have h1:=kB hP e a h.1;exact(nB hP h.2.1 rfl (by first|(simp[aA,af];done)|(simp[aA,af];rfl)) (h1.cons ou.nil) (by simp[af]) (by simp[af]) (by dsimp only;omega) (by dsimp only[af];omega) (by simp[af]) (λh=>by cases h) (by rw[cT];simp[dp];omega) (λbk s=>by
   rw[List.map_cons,List.map_nil,dY])).cons (OC hP l (a+ax e+1) h.2.2)
theorem vj(hP:PB wB X.nv X.tv pg):∀(l:List Sm)(a:Nat),iR pg.ns l a->ou wB X cb (dU l a) (Cf pg X.aK l a)
 |[],_,_=>ou.nil
 |e::l,a,h=>by
  rw[iR]at h
  rw[dU,Cf];exact(Xg hP e a h.1).cons (vj hP l (a+da e) h.2)
theorem Xg(hP:PB wB X.nv X.tv pg):∀(e:Sm)(a:Nat),gL pg.ns e a->pF wB X cb (a+da e-1:Nat) (3*da e) (λbk s=>jI pg X.aK e a bk s)
 | .jR p x ty e,a,h=>by
  rw[gL]at h
  have h1:=kB hP e a h.1;obtain⟨nb,PQ,hw⟩:=OJ hP.ok e a h.1;have g1:=cX h.2;have g2:=hP.ok.ju;have hI:=BF hP.ok h.2 (by dsimp only;omega) (by dsimp only[af];omega) (by simp[af]) xZ;have hIn:=Ct hP.ok h.2 (by simp[af]) (λh=>by cases h);by_cases h6:nb.kind=6
  ·cases tu:dZ pg.ts ty with
   |some t=>exact(J5 hP h.2 hI hIn (by omega) PQ hw h6 tu h1).to (by rw[da];omega) (by rw[da];omega) (λbk s=>by rw[jI];rfl)
   |none=>exact(Js hP h.2 hI hIn (by omega) PQ hw h6 tu h1).to (by rw[da];omega) (by rw[da];omega) (λbk s=>by rw[jI];rfl)
  ·exact(IG hP h.2 hI hIn (by omega) PQ hw h6 h1).to (by rw[da];omega) (by rw[da];omega) (λbk s=>by rw[jI];rfl)
 | .set p x e,a,h=>by
  rw[gL]at h
  have h1:=kB hP e a h.1;exact nB hP h.2 (by rw[da];omega) (by first|(simp[aA,af];done)|(simp[aA,af];rfl)) (h1.cons ou.nil) (by simp[af]) (by simp[af]) (by dsimp only;omega) (by dsimp only[af];omega) (by simp[af]) (λh=>by cases h) (by rw[cT,da];simp[dp];omega) (λbk s=>by
   rw[jI,List.map_cons,List.map_nil,dY])
 | .print p e,a,h=>by
  rw[gL]at h
  have h1:=kB hP e a h.1;exact nB hP h.2 (by rw[da];omega) (by first|(simp[aA,af];done)|(simp[aA,af];rfl)) (h1.cons ou.nil) (by simp[af]) (by simp[af]) (by dsimp only;omega) (by dsimp only[af];omega) (by simp[af]) (λh=>by cases h) (by rw[cT,da];simp[dp];omega) (λbk s=>by
   rw[jI,List.map_cons,List.map_nil,dY])
 | .ret p e,a,h=>by
  rw[gL]at h
  have h1:=kB hP e a h.1;exact nB hP h.2 (by rw[da];omega) (by first|(simp[aA,af];done)|(simp[aA,af];rfl)) (h1.cons ou.nil) (by simp[af]) (by simp[af]) (by dsimp only;omega) (by dsimp only[af];omega) (by simp[af]) (λh=>by cases h) (by rw[cT,da];simp[dp];omega) (λbk s=>by
   rw[jI,List.map_cons,List.map_nil,dY])
 | .u9 p e,a,h=>by
  rw[gL]at h
  have h1:=kB hP e a h.1;exact nB hP h.2 (by rw[da];omega) (by first|(simp[aA,af];done)|(simp[aA,af];rfl)) (h1.cons ou.nil) (by simp[af]) (by simp[af]) (by dsimp only;omega) (by dsimp only[af];omega) (by simp[af]) (λh=>by cases h) (by rw[cT,da];simp[dp];omega) (λbk s=>by
   rw[jI,List.map_cons,List.map_nil,dY])
 | .put p e x i,a,h=>by
  rw[gL]at h
  have h1:=kB hP e a h.1;have h2:=kB hP i (a+ax e) h.2.1;exact nB hP h.2.2 (by rw[da];omega) (by first|(simp[aA,af];done)|(simp[aA,af];rfl)) (h1.cons (h2.cons ou.nil)) (by simp[af]) (by simp[af]) (by dsimp only;omega) (by dsimp only;omega) (by simp[af]) (λh=>by cases h) (by rw[cT,cT,da];simp[dp];omega) (λbk s=>by
   rw[jI,List.map_cons,List.map_cons,List.map_nil,eX,aM];congr 1;funext r;rw[dY])
 | .lay p e i j,a,h=>by
  rw[gL]at h
  have h1:=kB hP e a h.1;have h2:=kB hP i (a+ax e) h.2.1;have h3:=kB hP j (a+ax e+ax i) h.2.2.1;exact nB hP h.2.2.2 (by rw[da];omega) (by first|(simp[aA,af];done)|(simp[aA,af];rfl)) (h1.cons (h2.cons (h3.cons ou.nil))) (by simp[af]) (by simp[af]) (by dsimp only;omega) (by dsimp only;omega) (by simp[af]) (λ_=>by dsimp only;omega) (by rw[cT,cT,cT,da];simp[dp];omega) (λbk s=>by
   rw[jI,List.map_cons,List.map_cons,List.map_cons,List.map_nil,eX,aM];congr 1;funext r;rw[eX,aM];congr 1;funext r;rw[dY])
 | .while_ p e bp b,a,h=>by
  rw[gL]at h
  have h1:=kB hP e a h.1;have h2:=xr hP h.2.2.1 h.2.1 (vj hP b (a+ax e) h.2.1) (K:=3*aJ b+1) (by rw[kp];exact nR _) (λbk s=>j6 b (a+ax e) bk s);exact nB hP h.2.2.2 (by rw[da];omega) (by first|(simp[aA,af];done)|(simp[aA,af];rfl)) (h1.cons (h2.cons ou.nil)) (by simp[af]) (by simp[af]) (by dsimp only;omega) (by dsimp only;omega) (by simp[af]) (λh=>by cases h) (by rw[cT,cT,da];simp[dp];omega) (λbk s=>by
   rw[jI,List.map_cons,List.map_cons,List.map_nil,eX,aM];congr 1;funext r;rw[dY])
 | .if_ p e bp b none,a,h=>by
  rw[gL]at h
  have h1:=kB hP e a h.1;have h2:=xr hP h.2.2.1 h.2.1 (vj hP b (a+ax e) h.2.1) (K:=3*aJ b+1) (by rw[kp];exact nR _) (λbk s=>j6 b (a+ax e) bk s);have g1:=cX h.2.2.2;have g2:=hP.ok.ju;exact(MK hP h.2.2.2 (BF hP.ok h.2.2.2 (by dsimp only;omega) (by dsimp only;omega) (by simp[af]) xZ) (Ct hP.ok h.2.2.2 (by simp[af]) (λh=>by cases h)) (by omega) h1 h2).to (by rw[da];omega) (by rw[cT,cT,da];simp[dp];omega) (λbk s=>by
   unfold kX;rw[jI,eX,aM];congr 1;funext r;rw[dY])
 | .if_ p e bp b (some (cp,c)),a,h=>by
  rw[gL]at h
  have h1:=kB hP e a h.1;have h2:=xr hP h.2.2.1 h.2.1 (vj hP b (a+ax e) h.2.1) (K:=3*aJ b+1) (by rw[kp];exact nR _) (λbk s=>j6 b (a+ax e) bk s);have h3:=xr hP h.2.2.2.2.1 h.2.2.2.1 (vj hP c (a+ax e+aJ b+1) h.2.2.2.1) (K:=3*aJ c+1) (by rw[kp];exact nR _) (λbk s=>j6 c (a+ax e+aJ b+1) bk s);have g1:=cX h.2.2.2.2.2;have g2:=hP.ok.ju;exact(Nf hP h.2.2.2.2.2 (BF hP.ok h.2.2.2.2.2 (by dsimp only;omega) (by dsimp only;omega) (by simp[af]) xZ) (Ct hP.ok h.2.2.2.2.2 (by simp[af]) (λh=>by cases h)) (by omega) h1 h2 h3).to (by rw[da];omega) (by rw[cT,cT,da];simp[dp];omega) (λbk s=>by
   unfold kX;rw[jI,eX,aM,aM];congr 1;funext r;rw[dY])
end
end
end
section
open Ty (Tr Ck il)
abbrev Ur(cb:Nat)(ov bv:Value):Obj:=.cells #[.pointer (some ⟨cb,0,none⟩),ov,bv] 164 (0,0)
def oJ(v:Value)(o:il):As:=Prt.row 62 2 v o.length (o.flatMap cH)
theorem Jn: (prog.info? 62).map (λi=>(i.zero,i.size,i.bytes))=some (some (.agg #[.int .i64 0,.int .i64 0]),2,16):=by kernel_rfl
theorem Iy{v:Value}{l:il}{p:Nat×Nat}{a:Prt.Hp}(h:Prt.row 62 2 v (l.length+1) (l.flatMap cH++cH p) a):oJ v (l++[p]) a:=by
 unfold oJ;rw[List.length_append,List.flatMap_append,List.flatMap_singleton];exact h
def On(h:Prt.Hp)(o:Option Tr)(v:Value):Prop:=match o with
 |none=>v=.pointer none
 |some t=>rep h t v
theorem Ix{h h':Prt.Hp}(hl:Prt.le h h'){o:Option Tr}{v:Value}(g:On h o v):On h' o v:=by
 cases o with
 |none=>exact g
 |some t=>exact bN hl _ _ g
structure PlI(bk:List (Option Tr))(bl:List Value)(h1:Prt.Hp):Prop where
 len:bl.length=bk.length
 bl:∀i(h:i<bk.length)(h2:i<bl.length),On h1 bk[i] bl[i]
 fG:∀t,some t∈bk->Fine t
 mQ:bk.length<=100000
def eW(pb cb:Nat)(ov bv:Value)(o:il)(bl:List Value)(h1:Prt.Hp):List As:=[av pb (Ur cb ov bv),oJ ov o,Prt.row 107 1 bv bl.length bl,Fs h1]
def zh(pb cb:Nat)(o:il)(bk:List (Option Tr)):As:=λh=>∃ov bv bl h1,PlI bk bl h1/\ah (eW pb cb ov bv o bl h1) h
section
variable {wB w:World} {Fr:As} {pb cb:Nat} {o:il} {bk:List (Option Tr)}
theorem Prt.Sat.my(h:Sat wB w [Fr,zh pb cb o bk]):∃ov bv bl h1,PlI bk bl h1/\Sat wB w (Fr::eW pb cb ov bv o bl h1):=by
 obtain⟨⟨ov,bv,bl,h1⟩,g1⟩:=(h.cL (i:=1) rfl (Q:=cm λ(q:Value×Value×List Value×Prt.Hp)=>ah [bX (PlI bk q.2.2.1 q.2.2.2),ah (eW pb cb q.1 q.2.1 o q.2.2.1 q.2.2.2)]) λa ha=>by
  obtain⟨ov,bv,bl,h1,g1,g2⟩:=ha;exact⟨(ov,bv,bl,h1),λ_=>none,a,λ_=>.inl rfl,λ_ _ e=>(by cases e),Prt.le_refl _,g1,a,λ_=>none,λ_=>.inr rfl,Prt.le_refl _,λ_ _ e=>(by cases e),g2,trivial⟩).ex (i:=1) rfl
 have h2:=g1.unpack (i:=1) rfl;have hi:=h2.get (i:=1) rfl λ_ ha _=>ha
 exact⟨ov,bv,bl,h1,hi,(h2.pick [0,2]).unpack (i:=1) rfl⟩
theorem Prt.Sat.kW{ov bv:Value}{bl:List Value}{h1:Prt.Hp}(hi:PlI bk bl h1)(h:Sat wB w (Fr::eW pb cb ov bv o bl h1)):Sat wB w [Fr,zh pb cb o bk]:=
 (Sat.pack (L:=[Fr]) h).cL (i:=1) rfl λ_ ha=>⟨ov,bv,bl,h1,hi,ha⟩
theorem Prt.Sat.Ij(h:Sat wB w [Fr,zh pb cb o bk]):w.cell? ⟨pb,0,none⟩=some (.pointer (some ⟨cb,0,none⟩))/\pb<w.heap.size:=by
 obtain⟨ov,bv,bl,h1,_,h2⟩:=h.my;exact⟨h2.cell 1 rfl 0 rfl,h2.lt 1 rfl⟩
variable {nv tv:Value} {pg:Ty.Pg}
theorem iU(hP:PB wB nv tv pg)(hb:Below wB.heap.size wB w){id:Nat}{nd:Nd}(hn:pg.ns[id]?=some nd)(p0:w.cell? ⟨pb,0,none⟩=some (.pointer (some ⟨cb,0,none⟩)))(jJ:pb<w.heap.size)(h0:w.cell? ⟨cb,0,none⟩=some nv)(gh:cb<w.heap.size){R:EW}
  (hR:∀lv w',Below w.heap.size w w'->wB.ownsRow 0 3 1 lv nd.list.length (nd.list.map aO)->R (.returned (aG nd lv)) w'):
  Calls prog 163 #[.pointer (some ⟨pb,0,none⟩),.int .i64 (id:Nat)] w R:=by
 obtain⟨g,cap,lv,rfl,k_,hg,kK,Dt,hA,hl,_,hN⟩:=hP.look hn;obtain⟨q0,q1,q2,q3,q4,q5,q6,q7,q8⟩:=hA.below hb;have U5:g<w.heap.size:=nL hg hb.size;obtain⟨la,lc,rfl⟩:=ag hl;have HR:=qh (λw' ff=>hR (.slice la nd.list.length lc) w' ff hl);unfold maxLen at Dt;clear hR hA hl hb hP hn;generalize pg.ns.length=N at*
 go_in;go_wp2_with fail;refine bodyPost_ret ?_ rfl (HR.o _ ?_)
 ·simp[results,results163,go_sem,aG]
 ·exact(bR _ _).alloc (nR _) _
theorem ia{ov bv:Value}{bl:List Value}{h1:Prt.Hp}(H:Sat wB w (Fr::eW pb cb ov bv o bl h1)){t:Tr}{p:Value}(hr:rep (Prt.hp w) t p)(hf:Fine t){n:Nat}(ho:o.length<=100000){R:EW}
  (hR:∀ew w',Sat wB w' (Fr::eW pb cb ew bv (o++rH n t) bl h1)->R (.returned (.tuple #[])) w'):
  Calls prog 164 #[.pointer (some ⟨pb,0,none⟩),.int .i64 (n:Nat),p] w R:=by
 obtain⟨b,rfl,BR,c0⟩:=qG hr;have hT:=Cn w _ t (Nat.lt_succ_self _) hf.ok _ hr;have U9:=By t hf.ok hf.uI;have YN:=zc t hf.ok;have HR:=qh hR;have HT:=qh hT;have hg:∀(e:Ty.kindOf t=5\/Ty.kindOf t=6\/Ty.tags t=127),o++rH n t=o:=λe=>by
  unfold rH;rw[if_pos (by omega),List.append_nil]
 have Dj:Ty.kindOf t≠5->Ty.kindOf t≠6->Ty.tags t≠127->rH n t=[(n,Ty.tags t)]:=λh5 h6 h7=>by
  unfold rH;rw[if_neg (by omega)]
 have HG:=qh hg;have AV:=qh Dj;obtain⟨oa,oc,rfl⟩:=ag (H.row 2 rfl);obtain⟨i0,ti,mM,mL,mK⟩:=info_parts Jn;have x1:=H.cell 1 rfl 1 rfl;have f1:=H.free 1 rfl 1;have jJ:=H.lt 1 rfl;have H2:=qh H;clear hr hf hT H hR hg Dj;generalize Ty.kindOf t=k at*
 generalize Ty.tags t=tg at*
 by_cases h5:k=5
 ·subst h5;clear x1 f1;go_in;go_wp2_with fail;go_end0;exact HR.o _ w (by rw[HG.o (by simp)];exact H2.o)
 have e5: ((k:Int)==5)=false:=beq_eq_false_iff_ne.2 (by omega);by_cases h6:k=6
 ·subst h6;clear x1 f1;go_in;go_wp2_with fail;go_end0;exact HR.o _ w (by rw[HG.o (by simp)];exact H2.o)
 have e6: ((k:Int)==6)=false:=beq_eq_false_iff_ne.2 (by omega);by_cases h7:tg=127
 ·subst h7;clear h5 h6 x1 f1;go_in;go_wp2_with fail;refine HT.o _ ?_;go_wp2_with fail;go_end0;exact HR.o _ w (by rw[HG.o (by simp)];exact H2.o)
 have e7: ((tg:Int) !=127)=true:=by simp;omega
 have HE:=qh (AV.o h5 h6 h7);clear h5 h6 h7 HG AV U9 YN;go_in;go_wp2_with fail;refine HT.o _ ?_;go_wp2_with(at_builtin;go_loud(refine wpList_append_lies _ rfl (.tmp 27) (.tmp 31) 52 rfl 0 62 i0 _ 2 16 underlying52 ti mM mL mK rfl (by decide) _ _ (o.flatMap cH) (by rfl) ((H2.o.row 2 rfl).alloc _) ⟨w.heap.size,0,none⟩ 1 1 [.int .i64 (n:Nat),.int .i64 (tg:Nat)] (by rfl) (by rfl) (World.news_of_block (cs:=#[.int .i64 (n:Nat),.int .i64 (tg:Nat)]) (t:=62) (fr:=(0,0)) (aR _ _ _ (by simp))) (by simp[Value.oneCell']) (by omega) (by unfold maxLen;omega) (by omega) (by simp) (w.heap.size+1) (by simp) ?_));intro g8 qQ w8 ny jG Fv Tq;have h8:=Sat.grow (H2.o.aW _) 2 rfl jG ny (by simpa using Fv);have h9:=h8.cL (i:=2) rfl (Q:=oJ (.slice (some ⟨g8,0,none⟩) (o.length+1) qQ) (o++[(n,tg)])) (λ_ h=>Iy h);have x1:=h9.cell 1 rfl 1 rfl;have f1:=h9.free 1 rfl 1;have PT:=h9.lt 1 rfl;have H9:=qh h9;clear h8 h9 ny jG;go_wp2_with fail;go_end0;exact HR.o _ _ (by rw[HE.o];exact H9.o.store 1 rfl 1 (.slice (some ⟨g8,0,none⟩) (o.length+1) qQ))
end
section
variable {wB w:World} {Fr:As} {pb cb ofb hasb:Nat} {o:il} {bk:List (Option Tr)} {X:Cx} {s:Ck} {h0:Prt.Hp} {pg:Ty.Pg}
theorem iZ{ov bv:Value}{bl:List Value}{h1:Prt.Hp}(hF:gR wB Fr)(hW:CkW wB cb X ofb hasb s h0)(H:Sat wB w (Fr::eW pb cb ov bv o bl h1)){n:Nat}(hn:n<=100000)(hs: (s.of n).isSome=true){ot:Option Tr}{v:Value}(hv:On (Prt.hp w) ot v)(hf:∀t,ot=some t->Fine t)(ho:o.length<=100000){R:EW}
  (hR:∀ew w',Sat wB w' (Fr::eW pb cb ew bv (o++gV s.of n ot) bl h1)->R (.returned (.tuple #[])) w'):
  Calls prog 251 #[.pointer (some ⟨pb,0,none⟩),.int .i64 (n:Nat),v] w R:=by
 have p0:=H.cell 1 rfl 0 rfl;have jJ:=H.lt 1 rfl;cases ot with
 |none=>
  have Rm:v=.pointer none:=hv;subst Rm;have HR:=qh (hR ov w (by rw[show gV s.of n none=[]by unfold gV;split<;>rfl,List.append_nil];exact H));clear hR hf H hv hF hW hs ho;go_in;go_wp2_with fail;go_end0;exact HR.o
 |some t=>
  obtain⟨bq,rfl⟩:=aS hv;have fN:=hW.below (hF w _ 0 H rfl);have e_:s.of n=some (tO s.of n):=by
   unfold tO;cases h:s.of n with
   |none=>rw[h]at hs;cases hs
   |some u=>rfl
  obtain⟨p,bu,hr⟩:=fN.Gb hn e_;obtain⟨b,rfl⟩:=aS hr;obtain⟨BR,k0⟩:=fN.kind hr;have c5:=fN.c5;have gh:=fN.lt;have HG:=qh (λR=>ia (R:=R) (n:=n) H hv (hf t rfl) ho);by_cases h5:Ty.kindOf (tO s.of n)=5
  ·have HR:=qh (λew w'(h:Sat wB w' (Fr::eW pb cb ew bv (o++rH n t) bl h1))=>hR ew w' (by unfold gV;rw[if_pos h5];exact h));rw[h5]at k0
   clear hR hf H hv hF hW hs fN e_ hr h5;go_in;go_wp2_with fail;refine HG.o _ (λsG w5 h6=>?_);have Q5:=qh (HR.o sG w5 h6);clear h6;go_wp2_with fail;go_end0;exact Q5.o
  ·have HR:=qh (hR ov w (by rw[show gV s.of n (some t)=[]by unfold gV;rw[if_neg h5],List.append_nil];exact H));have e5: (((Ty.kindOf (tO s.of n):Nat):Int)==5)=false:=beq_eq_false_iff_ne.2 (by omega);clear hR hf H hv hF hW hs fN e_ hr h5;generalize Ty.kindOf (tO s.of n)=k at*
   go_in;go_wp2_with fail;go_end0;exact HR.o
end
theorem Cy{w:World}{h0:Prt.Hp}{t:Tr}{p:Value}(hle:Prt.le h0 (Prt.hp w))(hr:rep h0 t p)(aH:dX t)(x:BA){R:EW}
  (hR:∀v w',Below w.heap.size w w'->On (Prt.hp w') (nM t x) v->R (.returned v) w'):
  Calls prog 252 #[p,.string x] w R:=by
 obtain⟨b,e,BR,c0⟩:=qG (bN hle _ _ hr);subst e;have uY:=qh (λ(R:EW)=>ry (R:=R) w w hle (bR _ _) t _ hr aH x);by_cases h8:Ty.kindOf t=8
 ·have HR:=qh (λv w'(h:Below w.heap.size w w')(g:On (Prt.hp w') (some (jL 1)) v)=>hR v w' h (by unfold nM;rw[if_pos h8];exact g));rw[h8]at c0
  clear hR hr aH uY;go_in;go_wp2_with fail;refine lY _ 1 ?_;go_wp2_with fail;exact HR.o _ _ ((bR _ _).alloc (nR _) _) (NI (k:=1) (heap_alloc_new w _))
 have e8: (((Ty.kindOf t:Nat):Int)==8)=false:=beq_eq_false_iff_ne.2 (by omega);by_cases h7:Ty.kindOf t=7
 ·have HR:=qh (λv w'(h:Below w.heap.size w w')(g:On (Prt.hp w') (Ty.part (bY t) (Ty.partsOf t) x) v)=>hR v w' h (by unfold nM;rw[if_neg h8,if_pos h7];exact g));obtain⟨k,names,parts,list,of⟩:=t;dsimp only[Ty.kindOf,bY,Ty.partsOf]at HR c0 e8 h7;subst h7;clear hR hr aH h8 e8;go_in;go_wp2_with fail;refine uY.o _ (λq w5 dM hq=>?_)
  (try dsimp only at hq)
  have HQ:=qh (HR.o q w5 dM (by
   cases hp:Ty.part names parts x with
   |none=>rw[hp]at hq;exact hq
   |some u=>rw[hp]at hq;exact bN (nC hle dM) _ _ hq))
  clear hq;go_wp2_with fail;exact HQ.o
 ·have e7: (((Ty.kindOf t:Nat):Int)==7)=false:=beq_eq_false_iff_ne.2 (by omega);have HR:=qh (hR (.pointer none) w (bR _ _) (by unfold nM;rw[if_neg h8,if_neg h7];rfl));clear hR hr aH h8 h7 uY;generalize Ty.kindOf t=k at*
  go_in;go_wp2_with fail;exact HR.o
def AB(wB:World)(X:Cx)(pg:Ty.Pg)(s:Ck)(pb cb:Nat)(id:Nat):Prop:=
 ∀f,id<f->∀(bk:List (Option Tr))(o:il)(w:World)(Fr:As),gR wB Fr->Sat wB w [Fr,zh pb cb o bk]->Vis pg.ns (!bk.isEmpty) id->o.length+(gC pg X.aK s f id bk).length<=100000->bk.length+id<=100000->∀R:EW,
  (∀w',Sat wB w' [Fr,zh pb cb (o++gC pg X.aK s f id bk) bk]->R (.returned (.tuple #[])) w')->
  Calls prog 95 #[.pointer (some ⟨pb,0,none⟩),.int .i64 (id:Nat)] w R
section
variable {wB w:World} {Fr:As} {pb cb:Nat} {o:il} {bk:List (Option Tr)} {X:Cx} {s:Ck} {pg:Ty.Pg}
theorem og(hF:gR wB Fr){ids:List Nat}{lv:Value}{f:Nat}(hC:∀m∈ids,AB wB X pg s pb cb m/\m<f/\Vis pg.ns (!bk.isEmpty) m)
  (bm:∀(w1:World)(L:List As)(i:Nat),Sat wB w1 L->L[i]?=some Fr->w1.ownsRow 0 3 1 lv ids.length (ids.map aO)) (hn:ids.length<=1000000) (H:Sat wB w [Fr,zh pb cb o bk]) (hc:o.length+(ids.flatMap λm=>gC pg X.aK s f m bk).length<=100000) (hb:∀m∈ids,bk.length+m<=100000) {R:EW}
  (hR:∀w',Sat wB w' [Fr,zh pb cb (o++ids.flatMap λm=>gC pg X.aK s f m bk) bk]->R (.returned (.tuple #[])) w'):
  Calls prog 165 #[.pointer (some ⟨pb,0,none⟩),lv] w R:=by
 have HR:=qh hR;have HF:=qh hF;have HC:=qh hC;have du:=qh bm;have H1:=qh H;obtain⟨la,lc,rfl⟩:=ag (bm w _ 0 H rfl);have BU:=qh hc;have oM:=qh hb;clear hR hF hC bm H hc hb;go_in;go_wp2_with fail;go_loopw [8] (λi wr=>∃(j:Nat),i=.int .i64 j/\j<=ids.length/\Hq (Sat wB wr [Fr,zh pb cb (o++(ids.take j).flatMap λm=>gC pg X.aK s f m bk) bk])) (λi _=>ids.length-(intOf i).toNat)
 case atStart=>exact⟨0,rfl,Nat.zero_le _,by show Sat _ _ _;rw[List.take_zero,List.flatMap_nil,List.append_nil];exact H1.o⟩
 case round=>
  obtain⟨j,rfl,hj,hS⟩:=hrel;by_cases a_:j<ids.length
  ·obtain⟨gl,jB,e,ku,d0⟩:=ints_at (du.o wr _ 0 hS.out rfl) j a_;cases e;have qp: (ids.take (j+1)).flatMap (λm=>gC pg X.aK s f m bk)=(ids.take j).flatMap (λm=>gC pg X.aK s f m bk)++gC pg X.aK s f ids[j] bk:=by
    rw[List.take_succ_eq_append_getElem a_,List.flatMap_append,List.flatMap_singleton]
   have hle: ((ids.take (j+1)).flatMap λm=>gC pg X.aK s f m bk).length<=(ids.flatMap λm=>gC pg X.aK s f m bk).length:=by
    have h2:ids.flatMap (λm=>gC pg X.aK s f m bk)=(ids.take (j+1)).flatMap (λm=>gC pg X.aK s f m bk)++(ids.drop (j+1)).flatMap (λm=>gC pg X.aK s f m bk):=by rw[<-List.flatMap_append,List.take_append_drop]
    rw[h2,List.length_append];omega
   obtain⟨c1,c2,c3⟩:=HC.o ids[j] (gM a_);have pI:=qh (c1 f c2 bk _ wr _ HF.o hS.out c3 (by rw[qp]at hle;rw[List.length_append]at hle⊢;have:=BU.o;omega) (oM.o _ (gM a_)));have pK:=qh qp;clear qp hle c1 c2 c3;generalize ids[j]=ij at*
   go_wp2_with fail;refine pI.o _ (λw4 h4=>?_);have H4:=qh h4;clear h4;go_wp2_with fail;go_roundw
   case rel=>exact⟨j+1,by go_num,by omega,by show Sat _ _ _;rw[pK.o,<-List.append_assoc];exact H4.o⟩
   case measure=>simp[intOf];omega
  ·have gO:j=ids.length:=by omega
   have h6:=hS.out;rw[gO,List.take_length]at h6
   have H6:=qh h6;clear h6 gO;go_wp2_with fail;go_end0;exact HR.o _ H6.o
end
end
end Go.Proofs.YtdlbhiaceheffabGreatDoor
