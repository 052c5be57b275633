/- Walk of check: what visiting a node is asked for; all, IsExpr, Parts. -/
import Derived.Test.YtdlbhiaceheffabGreatDoorC27
set_option linter.all false
set_option maxRecDepth 100000
set_option maxHeartbeats 4000000
namespace Go.Proofs.YtdlbhiaceheffabGreatDoor
open Go Go.RowKit Ty Tok Prt Tryz Proofs.Tryz
section
open Ty (Tr Ck aK)
abbrev iw:=List (Option Tr)->Ck->Except Ty.Ft Ck
def fN:List iw->iw
 |[],_,s=>.ok s
 |F::l,bk,s=>aK (F bk s) λs=>fN l bk s
theorem wg:∀(l m:List iw)(bk:List (Option Tr))(s:Ck),fN (l++m) bk s=aK (fN l bk s) λs=>fN m bk s
 |[],_,_,_=>rfl
 |F::l,m,bk,s=>by
  show aK (F bk s) (λs=>fN (l++m) bk s)=aK (aK (F bk s) λs=>fN l bk s) λs=>fN m bk s
  rw[aR];congr 1;funext r;exact wg l m bk r
theorem ez(F:iw)(bk:List (Option Tr))(s:Ck):fN [F] bk s=F bk s:=by
 show aK (F bk s) (λs=>.ok s)=F bk s;cases F bk s<;>rfl
def Ax(wB:World)(X:Cx)(cb:Nat)(id:Nat)(k:Nat)(F:iw):Prop:=
 ∀(bk:List (Option Tr))(s:Ck)(c:Nat)(w:World)(Fr:As),ju wB Fr->Sat wB w [Fr,uK cb X c s bk]->c+k<=100000->F bk s≠.error Ty.stuck->∀R:EW,
  (∀s' w',F bk s=.ok s'->Sat wB w' [Fr,uK cb X (c+k) s' bk]->R (.returned (.tuple #[])) w')->
  (∀f w',F bk s=.error f->Sat wB w' [Fr]->R (.panicked (aO f)) w')->
  Calls prog 93 #[.pointer (some ⟨cb,0,none⟩),.int .i64 (id:Nat)] w R
def eg(l:List (Nat×iw)):Nat:=(l.map Prod.fst).foldr (· + ·) 0
theorem Ju(l:List (Nat×iw)):∀{j:Nat}(h:j<l.length),eg (l.take (j+1))=eg (l.take j)+l[j].1:=by
 induction l with
 |nil=>intro j h;simp at h
 |cons p l ih=>
  intro j h;cases j with
  |zero=>simp[eg]
  |succ j=>
   have:=ih (j:=j) (by simpa using h);unfold eg at this⊢;simp only[List.take_succ_cons,List.map_cons,List.foldr_cons,List.getElem_cons_succ];omega
theorem QG(l:List (Nat×iw)):∀j,eg (l.take j)<=eg l:=by
 induction l with
 |nil=>intro j;simp[eg]
 |cons p l ih=>
  intro j;cases j with
  |zero=>simp[eg]
  |succ j=>
   have:=ih j;unfold eg at this⊢;simp only[List.take_succ_cons,List.map_cons,List.foldr_cons];omega
section
variable {wB w:World} {Fr:As} {cb:Nat} {X:Cx} {c:Nat} {s:Ck} {bk:List (Option Tr)}
theorem tm(hF:ju wB Fr){ids:List Nat}{cs:List (Nat×iw)}{lv:Value}(hlen:ids.length=cs.length)(hC:∀j(h1:j<ids.length)(h2:j<cs.length),Ax wB X cb ids[j] cs[j].1 cs[j].2)
  (cg:∀(w1:World)(L:List As)(i:Nat),Sat wB w1 L->L[i]?=some Fr->w1.ownsRow 0 3 1 lv ids.length (ids.map aQ)) (hn:ids.length<=1000000) (H:Sat wB w [Fr,uK cb X c s bk]) (hc:c+eg cs<=100000) (eR:fN (cs.map Prod.snd) bk s≠.error Ty.stuck) {R:EW}
  (aD:∀s' w',fN (cs.map Prod.snd) bk s=.ok s'->Sat wB w' [Fr,uK cb X (c+eg cs) s' bk]->R (.returned (.tuple #[])) w')
  (au:∀f w',fN (cs.map Prod.snd) bk s=.error f->Sat wB w' [Fr]->R (.panicked (aO f)) w'):
  Calls prog 155 #[.pointer (some ⟨cb,0,none⟩),lv] w R:=by
 have HL:=qh hlen;have H1:=qh H;have xP:=qh eR;obtain⟨la,lc,rfl⟩:=ag (cg w _ 0 H rfl);have Z1:=qh hc;clear hlen H hc eR;go_in;go_wp2_with fail;go_loopw [8] (λi wr=>∃(j:Nat)(s1:Ck),i=.int .i64 j/\j<=ids.length/\Hq (fN ((cs.map Prod.snd).take j) bk s=.ok s1)/\Hq (Sat wB wr [Fr,uK cb X (c+eg (cs.take j)) s1 bk])) (λi _=>ids.length-(intOf i).toNat)
 case atStart=>exact⟨0,s,rfl,Nat.zero_le _,rfl,H1.o⟩
 case round=>
  obtain⟨j,s1,rfl,hj,hE,hS⟩:=hrel;by_cases bz:j<ids.length
  ·obtain⟨gl,nK,e,rE,d0⟩:=ints_at (cg wr _ 0 hS.out rfl) j bz;cases e;have fK:j<cs.length:=by rw[<-HL.o];exact bz
   have fY:=Ju cs fK;have hle:=QG cs (j+1);have Um: (cs.map Prod.snd).take (j+1)=(cs.map Prod.snd).take j++[cs[j].2]:=by rw[List.take_succ_eq_append_getElem (by simpa using fK)];simp
   have Jd:Hq (fN ((cs.map Prod.snd).take (j+1)) bk s=cs[j].2 bk s1):=by show _= _;rw[Um,wg,hE.out];exact ez _ _ _
   have YJ:Hq (∀f,cs[j].2 bk s1=.error f->fN (cs.map Prod.snd) bk s=.error f):=λf hf=>by
    have h1:fN ((cs.map Prod.snd).take (j+1)) bk s=.error f:=by rw[Jd.o,hf]
    rw[<-List.take_append_drop (j+1) (cs.map Prod.snd),wg,h1];rfl
   have F9:=qh (hC j bz fK bk s1 _ wr _ hF hS.out (by have:=Z1.o;omega) (λh=>xP.o (YJ.o _ h)));have zW:=qh fY;clear fY hle Um;generalize ids[j]=ij at*
   go_wp2_with fail;refine F9.o _ (λs2 w4 hq h4=>?_) (λf w4 hq h4=>?_)
   ·have ia:Hq (fN ((cs.map Prod.snd).take (j+1)) bk s=.ok s2):=by show _= _;rw[Jd.o,hq]
    have H4:=qh h4;clear h4 hq;go_wp2_with fail;go_roundw
    case rel=>exact⟨j+1,s2,by go_num,by omega,ia,by show Sat _ _ _;rw[zW.o,<-Nat.add_assoc];exact H4.o⟩
    case measure=>simp[intOf];omega
   ·exact⟨rfl,au f w4 (YJ.o f hq) h4⟩
  ·have oE:j=cs.length:=by have:=HL.o;omega
   have Eo:=hE.out;have h6:=hS.out;rw[oE,List.take_of_length_le (by simp)]at Eo
   rw[oE,List.take_of_length_le (Nat.le_refl _)]at h6
   have ia:=qh Eo;have H6:=qh h6;clear Eo h6 oE;go_wp2_with fail;go_end0;exact aD _ _ ia.o H6.o
end
theorem vy{w:World}{k:Nat}{b:Bool}(hb:decide (1<=k/\k<=14)=b){R:EW}(hR:R (.returned (.bool b)) w):Calls prog 158 #[.int .i64 (k:Nat)] w R:=by
 cases b with
 |true=>
  have hd:=decide_eq_true_iff.1 hb;have h1:decide ((1:Int)<=(k:Int))=true:=decide_eq_true (by omega);have h2:decide ((k:Int)<=14)=true:=decide_eq_true (by omega);go_in;go_wp2;exact hR
 |false=>
  have hd:=decide_eq_false_iff_not.1 hb;by_cases g1:1<=k
  ·have h1:decide ((1:Int)<=(k:Int))=true:=decide_eq_true (by omega);have h2:decide ((k:Int)<=14)=false:=decide_eq_false (by omega);go_in;go_wp2;exact hR
  ·have h1:decide ((1:Int)<=(k:Int))=false:=decide_eq_false (by omega);go_in;go_wp2;exact hR
end
namespace Ty
def xG(m:Except Ft Ck)(Q:Ck->Prop):Prop:=m≠.error stuck/\∀s',m=.ok s'->Q s'
theorem xG.and{m:Except Ft Ck}{k:Ck->Except Ft Ck}{P Q:Ck->Prop}(h:xG m P)(g:∀s,P s->xG (k s) Q):xG (aK m k) Q:=by
 cases m with
 |error f=>exact⟨λe=>h.1 e,λs' e=>by cases e⟩
 |ok s=>exact g s (h.2 s rfl)
theorem xG.mono{m:Except Ft Ck}{P Q:Ck->Prop}(h:xG m P)(g:∀s,P s->Q s):xG m Q:=⟨h.1,λs e=>g s (h.2 s e)⟩
theorem pf{p:Nat}(o:Option Tr):Ox p o≠.error stuck:=by
 cases o with
 |none=>intro e;cases e
 |some t=>intro e;cases e
theorem WK{pg:Pg}{tq:Nat->Nat}{s:Ck}{n:Nat}{x:Nd}(hk:ji s.of (iU pg x)=true)(h5:x.kind=5->(s.has (tq n)).isSome=true)(Pw:x.kind=14->0<=x.ty)(hr:1<=x.kind/\x.kind<=14):xG (FV pg tq n x s) λs'=>Step n (n+1) s s'/\(s'.of n).isSome=true:=by
 have eR:qB pg tq s n x≠.error stuck:=by
  unfold qB;unfold AA;by_cases k1:x.kind=1
  ·grind
  by_cases k2:x.kind=2
  ·grind
  by_cases k3:x.kind=3
  ·grind
  by_cases k4:x.kind=4
  ·grind
  by_cases k5:x.kind=5
  ·grind
  by_cases k6:x.kind=6
  ·grind
  by_cases k7:x.kind=7
  ·grind [pf]
  grind [pf,l7]
 refine⟨?_,λs' h=>?_⟩
 ·unfold FV;cases ht:qB pg tq s n x with
  |error f=>
   intro e;rw[ht]at eR
   exact eR (by cases e;rfl)
  |ok t=>
   grind [aK]
 ·obtain⟨t,_,_,rfl⟩:=FH h
  grind [EL,iO]
theorem xY{b:Bool}{e p:Nat}{s:Ck}(he:e≠0):jY b e p s≠.error stuck:=by
 grind [jY]
theorem T1{α:Type}{m:Except Ft α}{k:α->Except Ft Ck}(h:m≠.error stuck)(g:∀a,k a≠.error stuck):aK m k≠.error stuck:=by
 cases m with
 |error f=>exact λe=>h (by cases e;rfl)
 |ok a=>exact g a
theorem V0{pg:Pg}{tq:Nat->Nat}{bk:List (Option Tr)}{s:Ck}{n:Nat}{x:Nd}(hk:ji s.of (oe x)=true)(R7:x.kind=18->(s.has (tq n)).isSome=true):
  xG (wV pg tq bk n x s) λs'=>Step n (n+1) s s'/\(x.kind=17->(s'.has n).isSome=true):=by
 refine⟨?_,λs' h=>?_⟩
 ·grind [wV,AZ,T1,xY,pf]
 ·by_cases k1:x.kind=17
  ·unfold wV at h;rw[if_pos hk]at h
   unfold AZ at h;rw[if_pos k1]at h
   obtain⟨a,h1,h2⟩:=ck h;obtain⟨rfl,_⟩:=mO h1;cases h2
   grind [l_,iO]
  ·rcases Ti h with rfl|⟨YT,_⟩
   ·grind [Step.refl]
   grind
theorem d_{ns:List Nd}{n:Nat}{x:Nd}(h:ns[n]?=some x):iv ns n=x:=by grind [iv]
theorem qP{pg:Pg}{tq:Nat->Nat}{bk:List (Option Tr)}{s:Ck}{n:Nat}{x:Nd}(hn:pg.ns[n]?=some x)(hr:1<=x.kind/\x.kind<=14)(hk:ji s.of (iU pg x)=true)(h5:x.kind=5->(s.has (tq n)).isSome=true)(Pw:x.kind=14->0<=x.ty):
  xG (ky pg tq n bk s) λs'=>Step n (n+1) s s'/\(s'.of n).isSome=true:=by
 unfold ky;rw[d_ hn,if_pos hr];exact WK hk h5 Pw hr
theorem sL{pg:Pg}{tq:Nat->Nat}{bk:List (Option Tr)}{s:Ck}{n:Nat}{x:Nd}(hn:pg.ns[n]?=some x)(hr:15<=x.kind)(hk:ji s.of (oe x)=true)(R7:x.kind=18->(s.has (tq n)).isSome=true):
  xG (ky pg tq n bk s) λs'=>Step n (n+1) s s'/\(x.kind=17->(s'.has n).isSome=true):=by
 unfold ky;rw[d_ hn,if_neg (by omega)];exact V0 hk R7
end Ty
section
open Ty (Tr)
def Hw(p:Value)(w:World)(n:Nat):Prop:=∀w1,Below w.heap.size w w1->∀R:EW,(∀w2,Below w1.heap.size w1 w2->R (.returned (.int .i64 (n:Nat))) w2)->Calls prog 161 #[p] w1 R
theorem wq(l:List Tr)(j:Nat)(h:j<l.length):bu (l.take (j+1))=bu (l.take j)+dK l[j]:=by rw[List.take_succ_eq_append_getElem h,tL]
theorem si(l:List Tr)(j:Nat):bu (l.take j)<=bu l:=by
 have:=congrArg bu (List.take_append_drop j l);rw[gZ]at this
 omega
theorem NI(w:World):∀(N:Nat)(t:Tr),sz t<N->eu t->dK t<=1000000->∀p,rep (Prt.hp w) t p->Hw p w (dK t):=by
 intro N;induction N with
 |zero=>intro t h;omega
 |succ N ih=>
  intro t hN aD JT p qj w1 hw R hR;obtain⟨k,names,parts,list,of⟩:=t;obtain⟨b,pv,lv,ov,ps,ls,os,rfl,hb,c0,c1,c2,c3,abi,V_,kp,cg,AQ,AG,hv⟩:=js qj;replace c1:=av hw c1;replace c2:=av hw c2;replace c3:=av hw c3;have U9:=db kp;have pG:=db AQ;have aeG:=db AG;rw[eu]at aD
  rw[dK]at JT hR
  have HR:=qh hR;have HP:Hq (∀j(hj:j<parts.length)(fK:j<ps.length),Hw ps[j] w (dK parts[j])):=λj hj fK=>
   ih parts[j] (by have:=rK (gM hj) k names list of;omega) (gQ aD.2.2.2.2.2.2.2.1 _ (gM hj)) (by have:=pe (gM hj);omega) ps[j] (dn kp j hj fK)
  have HL:Hq (∀j(hj:j<list.length)(fK:j<ls.length),Hw ls[j] w (dK list[j])):=λj hj fK=>
   ih list[j] (by have:=uT (gM hj) k names parts of;omega) (gQ aD.2.2.2.2.2.2.2.2.1 _ (gM hj)) (by have:=pe (gM hj);omega) ls[j] (dn AQ j hj fK)
  have HO:Hq (∀j(hj:j<of.length)(fK:j<os.length),Hw os[j] w (dK of[j])):=λj hj fK=>
   ih of[j] (by have:=vz (gM hj);rw[sz]at hN;omega) (gQ aD.2.2.2.2.2.2.2.2.2 _ (gM hj)) (by have:=pe (gM hj);omega) os[j] (dn AG j hj fK)
  have agl:ps.length<=1000000:=by omega
  have aeK:ls.length<=1000000:=by omega
  have KQ:Hq (∀j(hj:j<ps.length),∃pb,ps[j]=.pointer (some ⟨pb,0,none⟩)):=λj hj=>cK (dn kp j (by omega) hj)
  have Yj:=qh (ay abi hw);have ae9:=qh (ay cg hw);obtain⟨pa,pc,rfl⟩:=ag abi;obtain⟨la,lc,rfl⟩:=ag cg;have HW:=qh hw;have Ru:=qh U9;have Iv:=qh pG;clear hR hN ih aD qj abi cg kp AQ hw U9 pG c0 hb;go_enter func161,ntmps161;go_wp2_with fail;go_loopw [3,13] (λv i wr=>∃j:Nat,j<=ps.length/\i=.int .i64 j/\v=.int .i64 ((bu (parts.take j)+1:Nat):Int)/\Hq (Below w1.heap.size w1 wr)) (λ_ i _=>ps.length-(intOf i).toNat)
  case atStart=>exact⟨0,by omega,rfl,by simp[bu],bR _ _⟩
  case round=>
   obtain⟨j,hj,rfl,rfl,hB⟩:=hrel;by_cases bz:j<ps.length
   ·obtain⟨gl,nK,e,rE,d0,d1⟩:=xq (ay Yj.o hB.out) V_ j bz;cases e;have fK:j<parts.length:=by have:=Ru.o;omega
    have fY:=wq parts j fK;have hle:=si parts (j+1);have W5:Below w1.heap.size w1 (wr.alloc (.cells #[.string (names[j]'(by have:=V_;omega)),ps[j]] 221)):=hB.out.alloc hB.out.size _;have HI:=qh (HP.o j fK bz _ (HW.o.trans (W5.mono HW.o.size)));have fG:=qh W5;have F9:=qh fY;obtain⟨pb,TT⟩:=KQ.o j bz;generalize bu (parts.take j)=ta at*
    generalize parts[j]=tj at*
    generalize ps[j]=pj at*
    generalize names[j]'_=nj at*
    subst TT;clear fK W5;have Ig:ta+dK tj<=1000000:=by omega
    clear fY hle;generalize dK tj=tb at*
    go_wp2_with fail;refine HI.o _ (λw3 cZ=>?_);have qd:=qh (fG.o.trans (cZ.mono fG.o.size));clear cZ;go_wp2_with fail;go_roundw
    case rel=>exact⟨j+1,by omega,by go_num,by rw[F9.o];go_num,qd⟩
    case measure=>simp[intOf];omega
   ·have oE:j=parts.length:=by have:=Ru.o;omega
    have ahK:=av hB.out c2;have agM:=av hB.out c3;have acn:=qh agM;rw[show bu (parts.take j)=bu parts by rw[oE,List.take_length]];clear oE;have hq:bu parts+bu list+bu of+1<=1000000:=by omega
    go_wp2_with fail;go_loopw [3,28] (λv i wx=>∃j:Nat,j<=ls.length/\i=.int .i64 j/\v=.int .i64 ((bu parts+bu (list.take j)+1:Nat):Int)/\Hq (Below w1.heap.size w1 wx)) (λ_ i _=>ls.length-(intOf i).toNat)
    case atStart=>exact⟨0,by omega,rfl,by simp[bu],hB⟩
    case round=>
     obtain⟨j,hj,rfl,rfl,hB⟩:=hrel;by_cases bz:j<ls.length
     ·obtain⟨gl,nK,e,rE,d0⟩:=iD (ay ae9.o hB.out) j bz;cases e;have fK:j<list.length:=by have:=Iv.o;omega
      have fY:=wq list j fK;have hle:=si list (j+1);have HI:=qh (HL.o j fK bz _ (HW.o.trans (hB.out.mono HW.o.size)));have F9:=qh fY;generalize bu (list.take j)=ta at*
      generalize list[j]=tj at*
      generalize ls[j]=pj at*
      clear fK;have Ig:bu parts+ta+dK tj+1<=1000000:=by omega
      clear fY hle;generalize dK tj=tb at*
      generalize bu parts=tp at*
      go_wp2_with fail;refine HI.o _ (λw3 cZ=>?_);have qd:=qh (hB.out.trans (cZ.mono hB.out.size));clear cZ;go_wp2_with fail;go_roundw
      case rel=>exact⟨j+1,by omega,by go_num,by rw[F9.o];go_num,qd⟩
      case measure=>simp[intOf];omega
     ·have oE:j=list.length:=by have:=Iv.o;omega
      have ahf:=av hB.out c3;rw[show bu (list.take j)=bu list by rw[oE,List.take_length]];clear oE;have ad7:=qh (HW.o.trans (hB.out.mono HW.o.size))
      match of,os,aeG,HO,AG,hv with
      |[],[],_,HO,AG,hv=>
       have RT:ov=.pointer none:=by rcases hv with h|h;exact h.2;cases h
       subst RT;have HG:=qh (HR.o _ hB.out);simp only[bu,Nat.add_zero]at HG hq;generalize bu parts=tp at*
       generalize bu list=tl at*
       go_wp2_with fail;exact HG.o
      |[o],[op],_,HO,AG,hv=>
       have RT:ov=op:=by rcases hv with h|h;cases h.1;cases h;rfl
       subst RT;have Ps:=AG;rw[br]at Ps
       obtain⟨p1,Wl,e1,sC,_⟩:=Ps;cases e1;obtain⟨bo,rfl⟩:=cK sC;have HI:=qh (HO.o 0 (by simp) (by simp) _ ad7.o);have HG:=qh (λw3(h:Below w1.heap.size w1 w3)=>HR.o _ h);simp only[bu,Nat.add_zero]at HG hq;simp only[List.getElem_cons_zero]at HI;generalize bu parts=tp at*
       generalize bu list=tl at*
       generalize dK o=tb at*
       clear sC;go_wp2_with fail;refine HI.o _ (λw3 cZ=>?_);have Z9:=qh (HG.o w3 (hB.out.trans (cZ.mono hB.out.size)));clear cZ;go_wp2_with fail;exact ll Z9.o (by simp;omega)
end
section
open Ty (Tr Ck aK)
section
variable {w:World} {a b fn ps:Nat} {c ty:Int} {l:List Nat} {tx:BA} {lv:Value}
theorem IP{R:EW}(hR:∀v w',Sat w w' [bY w,lL ⟨5,a,b,c,l,tx,fn,ty,ps⟩ lv v []]->R (.returned v) w'):
  Calls prog 157 #[aH ⟨5,a,b,c,l,tx,fn,ty,ps⟩ lv] w R:=by
 have h1:=(((Sat.iN w).aU (cz ⟨5,a,b,c,l,tx,fn,ty,ps⟩ lv)).nil 3 1).cQ (i:=1) rfl (Q:=lL ⟨5,a,b,c,l,tx,fn,ty,ps⟩ lv (.slice none 0 0) []) (λ_ h=>.inr h);have HR:=qh (hR _ _ h1);clear hR h1;dsimp only[aH]at*
 go_in;go_wp2_with fail;exact HR.o
theorem Gh{R:EW}(hR:∀v w',Sat w w' [bY w,lL ⟨18,a,b,c,l,tx,fn,ty,ps⟩ lv v [a]]->R (.returned v) w'):
  Calls prog 157 #[aH ⟨18,a,b,c,l,tx,fn,ty,ps⟩ lv] w R:=by
 have h1:=(((Sat.iN w).aU (cz ⟨18,a,b,c,l,tx,fn,ty,ps⟩ lv)).ar (.cells #[.int .i64 a] 3) (w.heap.size+1)).cQ (i:=1) rfl (Q:=lL ⟨18,a,b,c,l,tx,fn,ty,ps⟩ lv (.slice (some ⟨w.heap.size+1,0,none⟩) 1 1) [a]) (λ_ h=>.inr (cR h rfl (by simp[maxLen]) (by simp[aQ])));have HR:=qh (hR _ _ h1);clear hR h1;dsimp only[aH]at*
 go_in;go_wp2_with fail;exact HR.o
end
theorem CT{w:World}{nd:Nd}{lv:Value}(hk:nd.kind≠6/\nd.kind≠16/\nd.kind≠17/\nd.kind≠22/\nd.kind≠26)(h1:1<=nd.kind/\nd.kind<=26)(hc:nd.kind=20->0<=nd.c)(hl:w.ownsRow 0 3 1 lv nd.list.length (nd.list.map aQ))(uQ:nd.list.length<=1000000){R:EW}
  (hR:∀v w',Sat w w' [bY w,lL nd lv v (aB nd)]->R (.returned v) w'):Calls prog 157 #[aH nd lv] w R:=by
 by_cases h5:nd.kind=5
 ·obtain⟨kd,a,b,c,l,tx,fn,ty,ps⟩:=nd;dsimp only at h5;subst h5;exact IP hR
 by_cases R7:nd.kind=18
 ·obtain⟨kd,a,b,c,l,tx,fn,ty,ps⟩:=nd;dsimp only at R7;subst R7;exact Gh hR
 exact tY ⟨h5,hk.1,hk.2.1,hk.2.2.1,R7,hk.2.2.2.1,hk.2.2.2.2⟩ h1 hc hl uQ hR
def sN(F G:iw):iw:=λbk s=>aK (F bk s) (G bk)
def qg(wB:World)(X:Cx)(cb:Nat)(ids:List Nat)(cs:List (Nat×iw)):Prop:=ids.length=cs.length/\∀j(h1:j<ids.length)(h2:j<cs.length),Ax wB X cb ids[j] cs[j].1 cs[j].2
theorem jX{pg:Ty.Pg}{tf:Nat->Nat}{id:Nat}{nd:Nd}(hn:pg.ns[id]?=some nd)(hk:1<=nd.kind/\nd.kind<=14)(bk:List (Option Tr))(s:Ck):ky pg tf id bk s=FV pg tf id nd s:=by
 unfold ky;rw[d_ hn,if_pos hk]
theorem RR{pg:Ty.Pg}{tf:Nat->Nat}{id:Nat}{nd:Nd}(hn:pg.ns[id]?=some nd)(hk:15<=nd.kind)(bk:List (Option Tr))(s:Ck):ky pg tf id bk s=wV pg tf bk id nd s:=by
 unfold ky;rw[d_ hn,if_neg (by omega)]
theorem SM{pg:Ty.Pg}{tf:Nat->Nat}{id:Nat}{nd:Nd}{s:Ck}(h:FV pg tf id nd s≠.error Ty.stuck):qB pg tf s id nd≠.error Ty.stuck:=λe=>h (by unfold FV;rw[e];rfl)
theorem FH{pg:Ty.Pg}{tf:Nat->Nat}{id:Nat}{nd:Nd}{s:Ck}{t:Tr}(h:qB pg tf s id nd=.ok t)(hc:dK t<=300):FV pg tf id nd s=.ok {s with of:=iO s.of id t}:=by unfold FV;rw[h];exact if_pos hc
theorem Sr{pg:Ty.Pg}{tf:Nat->Nat}{id:Nat}{nd:Nd}{s:Ck}{t:Tr}(h:qB pg tf s id nd=.ok t)(hc:¬dK t<=300):FV pg tf id nd s=.error (2,nd.pos):=by unfold FV;rw[h];exact if_neg hc
theorem QY{pg:Ty.Pg}{tf:Nat->Nat}{id:Nat}{nd:Nd}{s:Ck}{f:Ty.Ft}(h:qB pg tf s id nd=.error f):FV pg tf id nd s=.error f:=by unfold FV;rw[h];rfl
theorem z_{F G:iw}{bk:List (Option Tr)}{s:Ck}(h:sN F G bk s≠.error Ty.stuck):F bk s≠.error Ty.stuck/\∀s1,F bk s=.ok s1->G bk s1≠.error Ty.stuck:=
 ⟨λe=>h (by unfold sN;rw[e];rfl),λs1 e e2=>h (by unfold sN;rw[e];exact e2)⟩
theorem vd{F G:iw}{bk:List (Option Tr)}{s s1:Ck}(h:F bk s=.ok s1):sN F G bk s=G bk s1:=by unfold sN;rw[h];rfl
theorem lI{F G:iw}{bk:List (Option Tr)}{s:Ck}{f:Ty.Ft}(h:F bk s=.error f):sN F G bk s=.error f:=by unfold sN;rw[h];rfl
end
section
open Go
open Ty (Ex Sm Par dW my mJ jT jh uz aw eD fu aI cE gC gK eP fw af)
namespace Ty
theorem LA{ns:List Nd}(e:Ex)(a:Nat)(h:dW ns e a):∃nb,ns[a+aw e-1]?=some nb/\nb.a<=a+aw e:=by
 cases e<;>rw[dW]at h<;>rw[aw]
 case fn p ps ty bp body=>exact⟨_,by rw[<-h.2.2.2];congr 1;omega,by show _<=_;simp only[af];omega⟩
 case call p e l=>exact⟨_,by rw[<-h.2.2];congr 1<;>omega,by simp only[af];omega⟩
 case get p e x=>exact⟨_,by rw[<-h.2];congr 1<;>omega,by simp only[af];omega⟩
 case obj p l=>exact⟨_,by rw[<-h.2];congr 1<;>omega,by simp only[af];omega⟩
 case arr p l=>exact⟨_,by rw[<-h.2];congr 1<;>omega,by simp only[af];omega⟩
 case two p x e i=>exact⟨_,by rw[<-h.2.2];congr 1<;>omega,by simp only[af];omega⟩
 case one p x e=>exact⟨_,by rw[<-h.2];congr 1<;>omega,by simp only[af];omega⟩
 all_goals first|exact⟨_,by rw[<-h];congr 1,by simp only[af];omega⟩|exact⟨_,by rw[<-h.2.2];congr 1<;>omega,by simp only[af];omega⟩|exact⟨_,by rw[<-h.2];congr 1<;>omega,by simp only[af];omega⟩
theorem LV{ns:List Nd}(e:Sm)(a:Nat)(h:jh ns e a):∃nb,ns[a+cE e-1]?=some nb/\nb.a<=a+cE e:=by
 cases e
 case if_ p e bp b c=>
  rcases c with _|⟨cp,c⟩
  ·rw[jh]at h;rw[cE];exact⟨_,by rw[<-h.2.2.2];congr 1<;>omega,by dsimp only;omega⟩
  ·rw[jh]at h;rw[cE];exact⟨_,by rw[<-h.2.2.2.2.2];congr 1<;>omega,by dsimp only;omega⟩
 case while_ p e bp b=>rw[jh]at h;rw[cE];exact⟨_,by rw[<-h.2.2.2];congr 1<;>omega,by dsimp only;omega⟩
 case lay p e i v=>rw[jh]at h;rw[cE];exact⟨_,by rw[<-h.2.2.2];congr 1<;>omega,by dsimp only;omega⟩
 case put p e x v=>rw[jh]at h;rw[cE];exact⟨_,by rw[<-h.2.2];congr 1<;>omega,by dsimp only;omega⟩
 all_goals rw[jh]at h;rw[cE];exact⟨_,by rw[<-h.2];congr 1<;>omega,by dsimp only;omega⟩
theorem ade{ns:List Nd}:∀(l:List Ex)(a:Nat),my ns l a->∀n∈gC l a,∃q,ns[n]?=some q/\q.a<=a+eD l
 |[],_,_,n,h=>by simp[gC]at h
 |e::l,a,h,n,hn=>by
  rw[my]at h
  rw[gC]at hn
  rw[eD];rcases List.mem_cons.1 hn with rfl|hn
  ·obtain⟨q,h1,h2⟩:=LA e a h.1;exact⟨q,h1,by omega⟩
  ·obtain⟨q,h1,h2⟩:=ade l _ h.2 n hn;exact⟨q,h1,by omega⟩
theorem aas{ns:List Nd}:∀(l:List (Nat×BA×Ex))(a:Nat),mJ ns l a->∀n∈gK l a,∃q,ns[n]?=some q/\q.a<=a+fu l/\q.kind=15
 |[],_,_,n,h=>by simp[gK]at h
 |(p,x,e)::l,a,h,n,hn=>by
  rw[mJ]at h
  rw[gK]at hn
  rw[fu];rcases List.mem_cons.1 hn with rfl|hn
  ·exact⟨_,h.2.1,by dsimp only;omega,rfl⟩
  ·obtain⟨q,h1,h2,h3⟩:=aas l _ h.2.2 n hn;exact⟨q,h1,by omega,h3⟩
theorem acb{ns:List Nd}:∀(l:List Sm)(a:Nat),jT ns l a->∀n∈eP l a,∃q,ns[n]?=some q/\q.a<=a+aI l
 |[],_,_,n,h=>by simp[eP]at h
 |e::l,a,h,n,hn=>by
  rw[jT]at h
  rw[eP]at hn
  rw[aI];rcases List.mem_cons.1 hn with rfl|hn
  ·obtain⟨q,h1,h2⟩:=LV e a h.1;exact⟨q,h1,by omega⟩
  ·obtain⟨q,h1,h2⟩:=acb l _ h.2 n hn;exact⟨q,h1,by omega⟩
theorem acu{ns:List Nd}:∀(l:List Par)(a:Nat),uz ns l a->∀n∈fw l a,∃q,ns[n]?=some q/\q.a<=0
 |[],_,_,n,h=>by simp[fw]at h
 |e::l,a,h,n,hn=>by
  rw[uz]at h
  rw[fw]at hn
  rcases List.mem_cons.1 hn with rfl|hn
  ·exact⟨_,h.1,by simp only[af];omega⟩
  ·exact acu l _ h.2 n hn
theorem iB{ns:List Nd}{n:Nat}{q:Nd}(h:ns[n]?=some q):n<ns.length:=by
 rcases Nat.lt_or_ge n ns.length with h1|h1
 ·exact h1
 ·rw[List.getElem?_eq_none h1]at h;cases h
end Ty
theorem B_{pg:Ty.Pg}(hP:PgOk pg){id:Nat}{nd:Nd}(hn:pg.ns[id]?=some nd)(ha:nd.a<=id)(hb:nd.b<=id)(hl:nd.list.length<=id)(hq:∀n∈nd.list,∃q,pg.ns[n]?=some q/\q.a<=id):NdW pg nd:=by
 have h1:=iB hn;have h2:=hP.o7;exact{a:=by omega,b:=by omega,l:=λn h=>by obtain⟨q,e,_⟩:=hq n h;have:=iB e;omega,ps:=λi h=>by obtain⟨q,e,_⟩:=hq _ (gM h);exact⟨q,e⟩,pa:=λn h q e=>by obtain⟨q2,e2,h3⟩:=hq n h;rw[e]at e2;cases e2;omega,len:=by omega,ty:=(hP.ns nd (List.mem_of_getElem? hn)).ty}
theorem EJ{pg:Ty.Pg}(hP:PgOk pg){id:Nat}{nd:Nd}(hn:pg.ns[id]?=some nd)(hl:nd.list.length<=id)(ho:nd.kind=10->∀p∈nd.list,(Ty.iv pg.ns p).kind=15):NdIn pg nd:=by
 have h1:=iB hn;have h2:=hP.o7;have h3:=hP.ns nd (List.mem_of_getElem? hn);exact⟨h3.ty,by omega,ho,h3.EK⟩
end
section
open Ty (Tr Ck aK)
theorem Ty.wm{pg:Pg}:∀(l:List Nat)(p:Nat)(s:Ck),iI pg (l++[p]) s={iI pg l s with has:=iO (iI pg l s).has p (B7 (l7 pg.ts (Ty.iv pg.ns p).ty))}
 |[],_,_=>rfl
 | _::l,p,s=>by
  show iI pg (l++[p]) _= _;rw[wm l p];rfl
theorem Nz(a:Option Addr)(n cap k:Nat)(hk:k<=cap)(W:World): (Instr.slice 104 (.slice a n cap) none (some (.int .i64 (k:Nat))) none).run prog W=.ok (.slice a k cap) W:=by
 have h1: (k:Int)<=cap:=by omega
 simp[Instr.slice,Instr.sliceBounds,Instr.sliceBound,asIntOf,h1,go_sem];exact λh=>absurd h (by omega)
theorem Kh{a:Option Addr}{cap n:Nat}{l:List Value}{h:Prt.Hp}(uQ:l.length=n+1)(hr:Prt.row 107 1 (.slice a (n+1) cap) l.length l h):Prt.row 107 1 (.slice a n cap) n (l.take n) h:=by
 rw[uQ]at hr
 have gR: (l.take n).length=n*1:=by rw[List.length_take];omega
 refine⟨gR,?_⟩;rcases hr.2 with⟨h1,h2⟩|⟨g,ni,cur,h1,h2,h3,h4,h5,h6⟩
 ·exact absurd h2 (by omega)
 ·simp only[Value.slice.injEq]at h1;obtain⟨rfl,_,rfl⟩:=h1;refine .inr ⟨g,cap,cur,rfl,h2,by omega,h4,h5,?_⟩;have:=congrArg (List.take (n*1)) h6;rw[List.take_take,Nat.min_eq_left (by omega)]at this
  rw[this,Nat.mul_one]
section
variable {X:Cx} {c:Nat} {s:Ck} {bk:List (Option Tr)} {no nh:Nat} {fo fh:Nat->Option Value} {bl:List Value} {h0:Prt.Hp} {o:Option Tr} {v:Value}
def acT(h0:Prt.Hp)(o:Option Tr)(v:Value):Prop:=match o with
 |none=>v=.pointer none
 |some t=>rep h0 t v/\eu t
theorem CkI.push(h:CkI X c s bk no nh fo fh bl h0)(hv:acT h0 o v):CkI X (c+1) s (bk++[o]) no nh fo fh (bl++[v]) h0:=
 {no:=Nat.le_succ_of_le h.no,nh:=Nat.le_succ_of_le h.nh,fo:=h.fo,fh:=h.fh,len:=by simp[h.len],uH:=by have:=h.uH;simp;omega,oN:=h.oN,wi:=h.wi,bl:=λi hi h2=>by
   by_cases bz:i<bk.length
   ·have h3:i<bl.length:=by rw[h.len];exact bz
    have:=h.bl i bz h3;rw[List.getElem_append_left bz,List.getElem_append_left h3];exact this
   ·have h3:i=bk.length:=by simp at hi;omega
    subst h3;have e1: (bk++[o])[bk.length]=o:=by simp
    have e2: (bl++[v])[bk.length]=v:=by simp[<-h.len]
    rw[e1,e2];cases o with
    |none=>exact hv
    |some t=>exact hv}
theorem CkI.pop(h:CkI X c s (bk++[o]) no nh fo fh bl h0):CkI X c s bk no nh fo fh (bl.take bk.length) h0:=
 {no:=h.no,nh:=h.nh,fo:=h.fo,fh:=h.fh,len:=by have:=h.len;simp at this;simp;omega,uH:=by have:=h.uH;simp at this;omega,oN:=h.oN,wi:=h.wi,bl:=λi hi h2=>by
   have hl:=h.len;simp at hl;have:=h.bl i (by simp;omega) (by omega);rw[List.getElem_append_left hi]at this
   rw[List.getElem_take];exact this}
end
theorem Prt.Sat.Xc{w0 w:World}{L:List As}{h0:Prt.Hp}{o:Option Tr}{v:Value}(aD:∀t,o=some t->eu t)(h:Sat w0 w (L++[Pt h0,Xw o v])):∃h1 q,Prt.le h0 h1/\v=.pointer q/\acT h1 o v/\Sat w0 w (L++[Pt h1]):=by
 cases o with
 |none=>
  have hv:v=.pointer none:=h.get (i:=L.length+1) (by rw[List.getElem?_append_right (by omega),show L.length+1-L.length=1 by omega];rfl) λ_ ha _=>ha
  refine⟨h0,none,Prt.le_refl _,hv,hv,?_⟩;obtain⟨a,b,d1,d2,d3,d4,d5⟩:=jQ h.mem;obtain⟨x,y,dj,hx,hy,g1,z,u,dk,hz,hu,g2,g3⟩:=d5;refine⟨h.os,h.tape,h.output,?_⟩;exact eH d4 (b:=b) ⟨b,λ_=>none,λ_=>.inr rfl,Prt.le_refl _,λ_ _ e=>(by cases e),Prt.le_trans g1 hx,trivial⟩ d1 d2 d3
 |some t=>
  obtain⟨h1,a1,a2,a3⟩:=Sat.Jf (L:=L) (t:=t) (p:=v) (h.cQ (i:=L.length+1) (by rw[List.getElem?_append_right (by omega),show L.length+1-L.length=1 by omega];rfl) (Q:=iq h0 t v) (λ_ ha _ _ lR=>dp lR _ _ ha)|>λg=>by
   have e: (L++[Pt h0,Xw (some t) v]).set (L.length+1) (iq h0 t v)=L++[Pt h0,iq h0 t v]:=by
    rw[List.set_append_right _ _ (by omega),show L.length+1-L.length=1 by omega];rfl
   rw[e]at g
   exact g)
  obtain⟨q,hq⟩:=cK a2;exact⟨h1,_,a1,hq,⟨a2,aD t rfl⟩,a3⟩
end
end Go.Proofs.YtdlbhiaceheffabGreatDoor
