/- Walk of check: statement at all kinds. -/
import Derived.Test.YtdlbhiaceheffabGreatDoorE28
set_option linter.all false
set_option maxRecDepth 100000
set_option maxHeartbeats 8000000
namespace Go.Proofs.YtdlbhiaceheffabGreatDoor
open Go Go.RowKit Ty Tok Prt Tryz Proofs.Tryz
section
open Ty (Tr Ck)
section
variable {wB w:World} {cb:Nat} {X:Cx} {c:Nat} {s:Ck} {pg:Ty.Pg} {bk:List (Option Tr)} {Fr:As}
theorem iS(hP:PB wB X.nv X.tv pg)(hF:gR wB Fr){id:Nat}{nd:Nd}(hn:pg.ns[id]?=some nd)(hk:15<=nd.kind)(H:Sat wB w [Fr,mf cb X c s bk])(hc:c+1<=100000)(hI:NdW pg nd)(hi:id<=100000)(np:nd.kind=20->0<=nd.c/\nd.c<=100000)(bT:im pg X.aK bk id nd s≠.error Ty.stuck){R:EW}
  (aH:∀s' w',im pg X.aK bk id nd s=.ok s'->Sat wB w' [Fr,mf cb X (c+1) s' bk]->R (.returned (.tuple #[])) w') (au:∀f w',im pg X.aK bk id nd s=.error f->Sat wB w' [Fr]->R (.panicked (aI f)) w'):
  Calls prog 162 #[.pointer (some ⟨cb,0,none⟩),.int .i64 (id:Nat)] w R:=by
 by_cases qX:nd.kind=17
 ·exact Me hP hF hn qX H hc hI hi bT aH au
 obtain⟨ofb,hasb,bkv,no,nh,fo,fh,bl,h0,jW,g1⟩:=H.eJ;have hW:=g1.NC jW;have hB:=g1.aca jW (by omega);have hb:=hF w _ 0 g1 rfl;have oO:∀w',im pg X.aK bk id nd s=.ok s->Below w.heap.size w w'->R (.returned (.tuple #[])) w':=λw' h ff=>aH s w' h ((H.below ff).uT (by omega))
 have lX:∀f w',im pg X.aK bk id nd s=.error f->Below w.heap.size w w'->R (.panicked (aI f)) w':=λf w' h ff=>au f w' h ((H.below ff).pick [0])
 by_cases me:nd.kind=18
 ·exact Mv hP hb hn me hW hB hI hi bT oO lX
 by_cases OD:nd.kind=19
 ·exact MW hP hb hn OD hW hB hI hi bT oO lX
 by_cases Po:nd.kind=20
 ·exact My hP hb hn ⟨Po,np Po⟩ hW hB hI hi bT oO lX
 by_cases I5:nd.kind=24
 ·exact Np hP hb hn I5 hW hB hI hi bT oO lX
 ·exact DY hP hb hn ⟨hk,qX,me,OD,Po,I5⟩ hW hB hI hi bT oO lX
end
end
section
open Ty (Tr Ck aN)
abbrev fK:=List (Option Tr)->Ck->Except Ty.Ft Ck
def eX:List fK->fK
 |[],_,s=>.ok s
 |F::l,bk,s=>aN (F bk s) λs=>eX l bk s
theorem ur:∀(l m:List fK)(bk:List (Option Tr))(s:Ck),eX (l++m) bk s=aN (eX l bk s) λs=>eX m bk s
 |[],_,_,_=>rfl
 |F::l,m,bk,s=>by
  show aN (F bk s) (λs=>eX (l++m) bk s)=aN (aN (F bk s) λs=>eX l bk s) λs=>eX m bk s
  rw[aM];congr 1;funext r;exact ur l m bk r
theorem dY(F:fK)(bk:List (Option Tr))(s:Ck):eX [F] bk s=F bk s:=by
 show aN (F bk s) (λs=>.ok s)=F bk s;cases F bk s<;>rfl
def pF(wB:World)(X:Cx)(cb:Nat)(id:Nat)(k:Nat)(F:fK):Prop:=
 ∀(bk:List (Option Tr))(s:Ck)(c:Nat)(w:World)(Fr:As),gR wB Fr->Sat wB w [Fr,mf cb X c s bk]->c+k<=100000->F bk s≠.error Ty.stuck->∀R:EW,
  (∀s' w',F bk s=.ok s'->Sat wB w' [Fr,mf cb X (c+k) s' bk]->R (.returned (.tuple #[])) w')->
  (∀f w',F bk s=.error f->Sat wB w' [Fr]->R (.panicked (aI f)) w')->
  Calls prog 93 #[.pointer (some ⟨cb,0,none⟩),.int .i64 (id:Nat)] w R
def dp(l:List (Nat×fK)):Nat:=(l.map Prod.fst).foldr (· + ·) 0
theorem Gx(l:List (Nat×fK)):∀{j:Nat}(h:j<l.length),dp (l.take (j+1))=dp (l.take j)+l[j].1:=by
 induction l with
 |nil=>intro j h;simp at h
 |cons p l ih=>
  intro j h;cases j with
  |zero=>simp[dp]
  |succ j=>
   have:=ih (j:=j) (by simpa using h);unfold dp at this⊢;simp only[List.take_succ_cons,List.map_cons,List.foldr_cons,List.getElem_cons_succ];omega
theorem LW(l:List (Nat×fK)):∀j,dp (l.take j)<=dp l:=by
 induction l with
 |nil=>intro j;simp[dp]
 |cons p l ih=>
  intro j;cases j with
  |zero=>simp[dp]
  |succ j=>
   have:=ih j;unfold dp at this⊢;simp only[List.take_succ_cons,List.map_cons,List.foldr_cons];omega
section
variable {wB w:World} {Fr:As} {cb:Nat} {X:Cx} {c:Nat} {s:Ck} {bk:List (Option Tr)}
theorem lq(hF:gR wB Fr){ids:List Nat}{cs:List (Nat×fK)}{lv:Value}(hlen:ids.length=cs.length)(hC:∀j(h1:j<ids.length)(h2:j<cs.length),pF wB X cb ids[j] cs[j].1 cs[j].2)
  (bm:∀(w1:World)(L:List As)(i:Nat),Sat wB w1 L->L[i]?=some Fr->w1.ownsRow 0 3 1 lv ids.length (ids.map aO)) (hn:ids.length<=1000000) (H:Sat wB w [Fr,mf cb X c s bk]) (hc:c+dp cs<=100000) (bT:eX (cs.map Prod.snd) bk s≠.error Ty.stuck) {R:EW}
  (aH:∀s' w',eX (cs.map Prod.snd) bk s=.ok s'->Sat wB w' [Fr,mf cb X (c+dp cs) s' bk]->R (.returned (.tuple #[])) w')
  (au:∀f w',eX (cs.map Prod.snd) bk s=.error f->Sat wB w' [Fr]->R (.panicked (aI f)) w'):
  Calls prog 155 #[.pointer (some ⟨cb,0,none⟩),lv] w R:=by
 have aX:=qh aH;have aB:=qh au;have HF:=qh hF;have HC:=qh hC;have du:=qh bm;have HL:=qh hlen;have H1:=qh H;have jT:=qh bT;obtain⟨la,lc,rfl⟩:=ag (bm w _ 0 H rfl);have BU:=qh hc;clear aH au hF hC bm hlen H hc bT;go_in;go_wp2_with fail;go_loopw [8] (λi wr=>∃(j:Nat)(s1:Ck),i=.int .i64 j/\j<=ids.length/\Hq (eX ((cs.map Prod.snd).take j) bk s=.ok s1)/\Hq (Sat wB wr [Fr,mf cb X (c+dp (cs.take j)) s1 bk])) (λi _=>ids.length-(intOf i).toNat)
 case atStart=>exact⟨0,s,rfl,Nat.zero_le _,rfl,H1.o⟩
 case round=>
  obtain⟨j,s1,rfl,hj,hE,hS⟩:=hrel;by_cases a_:j<ids.length
  ·obtain⟨gl,jB,e,ku,d0⟩:=ints_at (du.o wr _ 0 hS.out rfl) j a_;cases e;have eF:j<cs.length:=by rw[<-HL.o];exact a_
   have gJ:=Gx cs eF;have hle:=LW cs (j+1);have qp: (cs.map Prod.snd).take (j+1)=(cs.map Prod.snd).take j++[cs[j].2]:=by rw[List.take_succ_eq_append_getElem (by simpa using eF)];simp
   have pK:Hq (eX ((cs.map Prod.snd).take (j+1)) bk s=cs[j].2 bk s1):=by show _= _;rw[qp,ur,hE.out];exact dY _ _ _
   have Uu:Hq (∀f,cs[j].2 bk s1=.error f->eX (cs.map Prod.snd) bk s=.error f):=λf hf=>by
    have h1:eX ((cs.map Prod.snd).take (j+1)) bk s=.error f:=by rw[pK.o,hf]
    rw[<-List.take_append_drop (j+1) (cs.map Prod.snd),ur,h1];rfl
   have pI:=qh (HC.o j a_ eF bk s1 _ wr _ HF.o hS.out (by have:=BU.o;omega) (λh=>jT.o (Uu.o _ h)));have yU:=qh gJ;clear gJ hle qp;generalize ids[j]=ij at*
   go_wp2_with fail;refine pI.o _ (λs2 w4 hq h4=>?_) (λf w4 hq h4=>?_)
   ·have fR:Hq (eX ((cs.map Prod.snd).take (j+1)) bk s=.ok s2):=by show _= _;rw[pK.o,hq]
    have H4:=qh h4;clear h4 hq;go_wp2_with fail;go_roundw
    case rel=>exact⟨j+1,s2,by go_num,by omega,fR,by show Sat _ _ _;rw[yU.o,<-Nat.add_assoc];exact H4.o⟩
    case measure=>simp[intOf];omega
   ·exact⟨rfl,aB.o f w4 (Uu.o f hq) h4⟩
  ·have gO:j=cs.length:=by have:=HL.o;omega
   have DE:=hE.out;have h6:=hS.out;rw[gO,List.take_of_length_le (by simp)]at DE
   rw[gO,List.take_of_length_le (Nat.le_refl _)]at h6
   have fR:=qh DE;have H6:=qh h6;clear DE h6 gO;go_wp2_with fail;go_end0;exact aX.o _ _ fR.o H6.o
end
theorem fH{w:World}{k:Nat}{b:Bool}(hb:decide (1<=k/\k<=14)=b){R:EW}(hR:R (.returned (.bool b)) w):Calls prog 158 #[.int .i64 (k:Nat)] w R:=by
 have HR:=qh hR;clear hR;cases b with
 |true=>
  have hd:=decide_eq_true_iff.1 hb;have h1:decide ((1:Int)<=(k:Int))=true:=decide_eq_true (by omega);have h2:decide ((k:Int)<=14)=true:=decide_eq_true (by omega);clear hb hd;go_in;go_wp2_with fail;exact HR.o
 |false=>
  have hd:=decide_eq_false_iff_not.1 hb;by_cases g1:1<=k
  ·have h1:decide ((1:Int)<=(k:Int))=true:=decide_eq_true (by omega);have h2:decide ((k:Int)<=14)=false:=decide_eq_false (by omega);clear hb hd g1;go_in;go_wp2_with fail;exact HR.o
  ·have h1:decide ((1:Int)<=(k:Int))=false:=decide_eq_false (by omega);clear hb hd g1;go_in;go_wp2_with fail;exact HR.o
end
section
open Ty (Tr)
def E6(p:Value)(w:World)(n:Nat):Prop:=∀w1,Below w.heap.size w w1->∀R:EW,(∀w2,Below w1.heap.size w1 w2->R (.returned (.int .i64 (n:Nat))) w2)->Calls prog 161 #[p] w1 R
theorem vD(l:List Tr)(j:Nat)(h:j<l.length):bJ (l.take (j+1))=bJ (l.take j)+dS l[j]:=by rw[List.take_succ_eq_append_getElem h,rN]
theorem pR(l:List Tr)(j:Nat):bJ (l.take j)<=bJ l:=by
 have:=congrArg bJ (List.take_append_drop j l);rw[gA]at this
 omega
theorem Au(w:World):∀(N:Nat)(t:Tr),sz t<N->dX t->dS t<=1000000->∀p,rep (Prt.hp w) t p->E6 p w (dS t):=by
 intro N;induction N with
 |zero=>intro t h;omega
 |succ N ih=>
  intro t hN aH xP p mS w1 hw R hR;obtain⟨k,names,parts,list,of⟩:=t;obtain⟨b,pv,lv,ov,ps,ls,os,rfl,hb,c0,c1,c2,c3,XF,SS,kM,bm,yK,JZ,hv⟩:=i' mS;replace c1:=ak hw c1;replace c2:=ak hw c2;replace c3:=ak hw c3;have QR:b<w1.heap.size:=nL hb hw.size;have Ru:=cd kM;have oW:=cd yK;have U9:=cd JZ;rw[dX]at aH
  rw[dS]at xP hR
  have HR:=qh hR;have HP:Hq (∀j(hj:j<parts.length)(eF:j<ps.length),E6 ps[j] w (dS parts[j])):=λj hj eF=>
   ih parts[j] (by have:=uB (gM hj) k names list of;omega) (fJ aH.2.2.2.2.2.2.2.1 _ (gM hj)) (by have:=mZ (gM hj);omega) ps[j] (dh kM j hj eF)
  have HL:Hq (∀j(hj:j<list.length)(eF:j<ls.length),E6 ls[j] w (dS list[j])):=λj hj eF=>
   ih list[j] (by have:=tJ (gM hj) k names parts of;omega) (fJ aH.2.2.2.2.2.2.2.2.1 _ (gM hj)) (by have:=mZ (gM hj);omega) ls[j] (dh yK j hj eF)
  have HO:Hq (∀j(hj:j<of.length)(eF:j<os.length),E6 os[j] w (dS of[j])):=λj hj eF=>
   ih of[j] (by have:=uW (gM hj);rw[sz]at hN;omega) (fJ aH.2.2.2.2.2.2.2.2.2 _ (gM hj)) (by have:=mZ (gM hj);omega) os[j] (dh JZ j hj eF)
  have wg:=aH.2.2.2.2.2.2.1.1;have Hz:=aH.2.2.2.2.2.2.1.2;have aa6:ps.length<=1000000:=by omega
  have abJ:ls.length<=1000000:=by omega
  have UZ:=qh JZ;have uY:Hq (∀j(hj:j<ps.length),∃pb,ps[j]=.pointer (some ⟨pb,0,none⟩)):=λj hj=>aS (dh kM j (by omega) hj)
  have Um:=qh (ay XF hw);have Vi:=qh (ay bm hw);obtain⟨pa,pc,rfl⟩:=ag XF;obtain⟨la,lc,rfl⟩:=ag bm;have YY:=qh SS;have HW:=qh hw;have Yd:=qh Ru;have PV:=qh oW;clear hR hN ih aH mS XF bm kM yK JZ SS hw Ru oW c0 hb;go_enter func161,ntmps161;go_wp2_with fail;go_loopw [3,13] (λv i wr=>∃j:Nat,j<=ps.length/\i=.int .i64 j/\v=.int .i64 ((bJ (parts.take j)+1:Nat):Int)/\Hq (Below w1.heap.size w1 wr)) (λ_ i _=>ps.length-(intOf i).toNat)
  case atStart=>exact⟨0,by omega,rfl,by simp[bJ],bR _ _⟩
  case round=>
   obtain⟨j,hj,rfl,rfl,hB⟩:=hrel;by_cases a_:j<ps.length
   ·obtain⟨gl,jB,e,ku,d0,d1⟩:=yV (ay Um.o hB.out) YY.o j a_;cases e;have eF:j<parts.length:=by have:=Yd.o;omega
    have gJ:=vD parts j eF;have hle:=pR parts (j+1);have EA:Below w1.heap.size w1 (wr.alloc (.cells #[.string (names[j]'(by have:=YY.o;omega)),ps[j]] 221)):=hB.out.alloc hB.out.size _;have HI:=qh (HP.o j eF a_ _ (HW.o.trans (EA.mono HW.o.size)));have c9:=qh EA;have pI:=qh gJ;obtain⟨pb,jJ⟩:=uY.o j a_;generalize bJ (parts.take j)=ta at*
    generalize parts[j]=tj at*
    generalize ps[j]=pj at*
    generalize names[j]'_=nj at*
    subst jJ;clear eF EA;have qO:ta+dS tj<=1000000:=by omega
    clear gJ hle;generalize dS tj=tb at*
    go_wp2_with fail;refine HI.o _ (λw3 dF=>?_);have cU:=qh (c9.o.trans (dF.mono c9.o.size));clear dF;go_wp2_with fail;go_roundw
    case rel=>exact⟨j+1,by omega,by go_num,by rw[pI.o];go_num,cU⟩
    case measure=>simp[intOf];omega
   ·have gO:j=parts.length:=by have:=Yd.o;omega
    have ad3:=ak hB.out c2;have Zc:=ak hB.out c3;have ad0:=qh Zc;rw[show bJ (parts.take j)=bJ parts by rw[gO,List.take_length]];clear gO;have hq:bJ parts+bJ list+bJ of+1<=1000000:=by omega
    go_wp2_with fail;go_loopw [3,28] (λv i wx=>∃j:Nat,j<=ls.length/\i=.int .i64 j/\v=.int .i64 ((bJ parts+bJ (list.take j)+1:Nat):Int)/\Hq (Below w1.heap.size w1 wx)) (λ_ i _=>ls.length-(intOf i).toNat)
    case atStart=>exact⟨0,by omega,rfl,by simp[bJ],hB⟩
    case round=>
     obtain⟨j,hj,rfl,rfl,hB⟩:=hrel;by_cases a_:j<ls.length
     ·obtain⟨gl,jB,e,ku,d0⟩:=fF (ay Vi.o hB.out) j a_;cases e;have eF:j<list.length:=by have:=PV.o;omega
      have gJ:=vD list j eF;have hle:=pR list (j+1);have HI:=qh (HL.o j eF a_ _ (HW.o.trans (hB.out.mono HW.o.size)));have pI:=qh gJ;generalize bJ (list.take j)=ta at*
      generalize list[j]=tj at*
      generalize ls[j]=pj at*
      clear eF;have qO:bJ parts+ta+dS tj+1<=1000000:=by omega
      clear gJ hle;generalize dS tj=tb at*
      generalize bJ parts=tp at*
      go_wp2_with fail;refine HI.o _ (λw3 dF=>?_);have cU:=qh (hB.out.trans (dF.mono hB.out.size));clear dF;go_wp2_with fail;go_roundw
      case rel=>exact⟨j+1,by omega,by go_num,by rw[pI.o];go_num,cU⟩
      case measure=>simp[intOf];omega
     ·have gO:j=list.length:=by have:=PV.o;omega
      have adS:=ak hB.out c3;rw[show bJ (list.take j)=bJ list by rw[gO,List.take_length]];clear gO;have aaX:=qh (HW.o.trans (hB.out.mono HW.o.size))
      match of,os,U9,HO,UZ,hv with
      |[],[],_,HO,UZ,hv=>
       have WA:ov=.pointer none:=by rcases hv with h|h;exact h.2;cases h
       subst WA;have HG:=qh (HR.o _ hB.out);simp only[bJ,Nat.add_zero]at HG hq;generalize bJ parts=tp at*
       generalize bJ list=tl at*
       go_wp2_with fail;exact HG.o
      |[o],[op],_,HO,UZ,hv=>
       have WA:ov=op:=by rcases hv with h|h;cases h.1;cases h;rfl
       subst WA;have LM:=UZ.o;rw[bz]at LM
       obtain⟨p1,S4,e1,oz,_⟩:=LM;cases e1;obtain⟨bo,rfl⟩:=aS oz;have HI:=qh (HO.o 0 (by simp) (by simp) _ aaX.o);have HG:=qh (λw3(h:Below w1.heap.size w1 w3)=>HR.o _ h);simp only[bJ,Nat.add_zero]at HG hq;simp only[List.getElem_cons_zero]at HI;generalize bJ parts=tp at*
       generalize bJ list=tl at*
       generalize dS o=tb at*
       clear oz;go_wp2_with fail;refine HI.o _ (λw3 dF=>?_);have AV:=qh (HG.o w3 (hB.out.trans (dF.mono hB.out.size)));have he: ((tp+tl+1:Nat):Int)+(tb:Int)=((tp+tl+tb+1:Nat):Int):=by omega
       clear dF;go_wp2_with fail;exact jc AV.o (by simp;omega)
end
section
open Ty (Tr Ck aN)
section
variable {w:World} {a b fn ps:Nat} {c ty:Int} {l:List Nat} {tx:BA} {lv:Value}
theorem Gu{R:EW}(hR:∀v w',Sat w w' [bG w,jo ⟨5,a,b,c,l,tx,fn,ty,ps⟩ lv v []]->R (.returned v) w'):
  Calls prog 157 #[aG ⟨5,a,b,c,l,tx,fn,ty,ps⟩ lv] w R:=by
 have h1:=(((Sat.fO w).aW (az ⟨5,a,b,c,l,tx,fn,ty,ps⟩ lv)).nil 3 1).cL (i:=1) rfl (Q:=jo ⟨5,a,b,c,l,tx,fn,ty,ps⟩ lv (.slice none 0 0) []) (λ_ h=>.inr h);have HR:=qh (hR _ _ h1);clear hR h1;dsimp only[aG]at*
 go_in;go_wp2_with fail;exact HR.o
theorem Db{R:EW}(hR:∀v w',Sat w w' [bG w,jo ⟨18,a,b,c,l,tx,fn,ty,ps⟩ lv v [a]]->R (.returned v) w'):
  Calls prog 157 #[aG ⟨18,a,b,c,l,tx,fn,ty,ps⟩ lv] w R:=by
 have h1:=(((Sat.fO w).aW (az ⟨18,a,b,c,l,tx,fn,ty,ps⟩ lv)).aj (.cells #[.int .i64 a] 3) (w.heap.size+1)).cL (i:=1) rfl (Q:=jo ⟨18,a,b,c,l,tx,fn,ty,ps⟩ lv (.slice (some ⟨w.heap.size+1,0,none⟩) 1 1) [a]) (λ_ h=>.inr (bn h rfl (by simp[maxLen]) (by simp[aO])));have HR:=qh (hR _ _ h1);clear hR h1;dsimp only[aG]at*
 go_in;go_wp2_with fail;exact HR.o
end
theorem nN{w:World}{nd:Nd}{lv:Value}(hk:nd.kind≠6/\nd.kind≠16/\nd.kind≠17/\nd.kind≠22/\nd.kind≠26)(h1:1<=nd.kind/\nd.kind<=26)(hc:nd.kind=20->0<=nd.c)(hl:w.ownsRow 0 3 1 lv nd.list.length (nd.list.map aO))(BZ:nd.list.length<=1000000){R:EW}
  (hR:∀v w',Sat w w' [bG w,jo nd lv v (aA nd)]->R (.returned v) w'):Calls prog 157 #[aG nd lv] w R:=by
 by_cases h5:nd.kind=5
 ·obtain⟨kd,a,b,c,l,tx,fn,ty,ps⟩:=nd;dsimp only at h5;subst h5;exact Gu hR
 by_cases me:nd.kind=18
 ·obtain⟨kd,a,b,c,l,tx,fn,ty,ps⟩:=nd;dsimp only at me;subst me;exact Db hR
 exact rZ ⟨h5,hk.1,hk.2.1,hk.2.2.1,me,hk.2.2.2.1,hk.2.2.2.2⟩ h1 hc hl BZ hR
def kX(F G:fK):fK:=λbk s=>aN (F bk s) (G bk)
def ou(wB:World)(X:Cx)(cb:Nat)(ids:List Nat)(cs:List (Nat×fK)):Prop:=ids.length=cs.length/\∀j(h1:j<ids.length)(h2:j<cs.length),pF wB X cb ids[j] cs[j].1 cs[j].2
theorem N3{pg:Ty.Pg}{tf:Nat->Nat}{id:Nat}{nd:Nd}(hn:pg.ns[id]?=some nd)(hk:1<=nd.kind/\nd.kind<=14)(bk:List (Option Tr))(s:Ck):iW pg tf id bk s=yR pg tf id nd s:=by
 unfold iW;rw[bw hn,if_pos hk]
theorem sC{pg:Ty.Pg}{tf:Nat->Nat}{id:Nat}{nd:Nd}(hn:pg.ns[id]?=some nd)(hk:15<=nd.kind)(bk:List (Option Tr))(s:Ck):iW pg tf id bk s=im pg tf bk id nd s:=by
 unfold iW;rw[bw hn,if_neg (by omega)]
theorem Io{pg:Ty.Pg}{tf:Nat->Nat}{id:Nat}{nd:Nd}{s:Ck}(h:yR pg tf id nd s≠.error Ty.stuck):fD pg tf s id nd≠.error Ty.stuck:=λe=>h (by unfold yR;rw[e];rfl)
theorem mD{pg:Ty.Pg}{tf:Nat->Nat}{id:Nat}{nd:Nd}{s:Ck}{t:Tr}(h:fD pg tf s id nd=.ok t)(hc:dS t<=300):yR pg tf id nd s=.ok {s with of:=eI s.of id t}:=by unfold yR;rw[h];exact if_pos hc
theorem KJ{pg:Ty.Pg}{tf:Nat->Nat}{id:Nat}{nd:Nd}{s:Ck}{t:Tr}(h:fD pg tf s id nd=.ok t)(hc:¬dS t<=300):yR pg tf id nd s=.error (2,nd.pos):=by unfold yR;rw[h];exact if_neg hc
theorem Ey{pg:Ty.Pg}{tf:Nat->Nat}{id:Nat}{nd:Nd}{s:Ck}{f:Ty.Ft}(h:fD pg tf s id nd=.error f):yR pg tf id nd s=.error f:=by unfold yR;rw[h];rfl
theorem jh{F G:fK}{bk:List (Option Tr)}{s:Ck}(h:kX F G bk s≠.error Ty.stuck):F bk s≠.error Ty.stuck/\∀s1,F bk s=.ok s1->G bk s1≠.error Ty.stuck:=
 ⟨λe=>h (by unfold kX;rw[e];rfl),λs1 e e2=>h (by unfold kX;rw[e];exact e2)⟩
theorem dT{F G:fK}{bk:List (Option Tr)}{s s1:Ck}(h:F bk s=.ok s1):kX F G bk s=G bk s1:=by unfold kX;rw[h];rfl
theorem gv{F G:fK}{bk:List (Option Tr)}{s:Ck}{f:Ty.Ft}(h:F bk s=.error f):kX F G bk s=.error f:=by unfold kX;rw[h];rfl
end
section
open Go
open Ty (Ex Sm Par df kN jS iR gL qd ax eE fE aJ da fq eL dU eH af)
namespace Ty
theorem KO{ns:List Nd}(e:Ex)(a:Nat)(h:df ns e a):∃nb,ns[a+ax e-1]?=some nb/\nb.a<=a+ax e:=by
 cases e<;>rw[df]at h<;>rw[ax]
 case fn p ps ty bp body=>exact⟨_,by rw[<-h.2.2.2];congr 1;omega,by show _<=_;simp only[af];omega⟩
 case call p e l=>exact⟨_,by rw[<-h.2.2];congr 1<;>omega,by simp only[af];omega⟩
 case get p e x=>exact⟨_,by rw[<-h.2];congr 1<;>omega,by simp only[af];omega⟩
 case obj p l=>exact⟨_,by rw[<-h.2];congr 1<;>omega,by simp only[af];omega⟩
 case arr p l=>exact⟨_,by rw[<-h.2];congr 1<;>omega,by simp only[af];omega⟩
 case two p x e i=>exact⟨_,by rw[<-h.2.2];congr 1<;>omega,by simp only[af];omega⟩
 case one p x e=>exact⟨_,by rw[<-h.2];congr 1<;>omega,by simp only[af];omega⟩
 all_goals first|exact⟨_,by rw[<-h];congr 1,by simp only[af];omega⟩|exact⟨_,by rw[<-h.2.2];congr 1<;>omega,by simp only[af];omega⟩|exact⟨_,by rw[<-h.2];congr 1<;>omega,by simp only[af];omega⟩
theorem J1{ns:List Nd}(e:Sm)(a:Nat)(h:gL ns e a):∃nb,ns[a+da e-1]?=some nb/\nb.a<=a+da e:=by
 cases e
 case if_ p e bp b c=>
  rcases c with _|⟨cp,c⟩
  ·rw[gL]at h;rw[da];exact⟨_,by rw[<-h.2.2.2];congr 1<;>omega,by dsimp only;omega⟩
  ·rw[gL]at h;rw[da];exact⟨_,by rw[<-h.2.2.2.2.2];congr 1<;>omega,by dsimp only;omega⟩
 case while_ p e bp b=>rw[gL]at h;rw[da];exact⟨_,by rw[<-h.2.2.2];congr 1<;>omega,by dsimp only;omega⟩
 case lay p e i v=>rw[gL]at h;rw[da];exact⟨_,by rw[<-h.2.2.2];congr 1<;>omega,by dsimp only;omega⟩
 case put p e x v=>rw[gL]at h;rw[da];exact⟨_,by rw[<-h.2.2];congr 1<;>omega,by dsimp only;omega⟩
 all_goals rw[gL]at h;rw[da];exact⟨_,by rw[<-h.2];congr 1<;>omega,by dsimp only;omega⟩
theorem YF{ns:List Nd}:∀(l:List Ex)(a:Nat),kN ns l a->∀n∈fq l a,∃q,ns[n]?=some q/\q.a<=a+eE l
 |[],_,_,n,h=>by simp[fq]at h
 |e::l,a,h,n,hn=>by
  rw[kN]at h
  rw[fq]at hn
  rw[eE];rcases List.mem_cons.1 hn with rfl|hn
  ·obtain⟨q,h1,h2⟩:=KO e a h.1;exact⟨q,h1,by omega⟩
  ·obtain⟨q,h1,h2⟩:=YF l _ h.2 n hn;exact⟨q,h1,by omega⟩
theorem XO{ns:List Nd}:∀(l:List (Nat×BA×Ex))(a:Nat),jS ns l a->∀n∈eL l a,∃q,ns[n]?=some q/\q.a<=a+fE l/\q.kind=15
 |[],_,_,n,h=>by simp[eL]at h
 |(p,x,e)::l,a,h,n,hn=>by
  rw[jS]at h
  rw[eL]at hn
  rw[fE];rcases List.mem_cons.1 hn with rfl|hn
  ·exact⟨_,h.2.1,by dsimp only;omega,rfl⟩
  ·obtain⟨q,h1,h2,h3⟩:=XO l _ h.2.2 n hn;exact⟨q,h1,by omega,h3⟩
theorem Zl{ns:List Nd}:∀(l:List Sm)(a:Nat),iR ns l a->∀n∈dU l a,∃q,ns[n]?=some q/\q.a<=a+aJ l
 |[],_,_,n,h=>by simp[dU]at h
 |e::l,a,h,n,hn=>by
  rw[iR]at h
  rw[dU]at hn
  rw[aJ];rcases List.mem_cons.1 hn with rfl|hn
  ·obtain⟨q,h1,h2⟩:=J1 e a h.1;exact⟨q,h1,by omega⟩
  ·obtain⟨q,h1,h2⟩:=Zl l _ h.2 n hn;exact⟨q,h1,by omega⟩
theorem YX{ns:List Nd}:∀(l:List Par)(a:Nat),qd ns l a->∀n∈eH l a,∃q,ns[n]?=some q/\q.a<=0
 |[],_,_,n,h=>by simp[eH]at h
 |e::l,a,h,n,hn=>by
  rw[qd]at h
  rw[eH]at hn
  rcases List.mem_cons.1 hn with rfl|hn
  ·exact⟨_,h.1,by simp only[af];omega⟩
  ·exact YX l _ h.2 n hn
theorem cX{ns:List Nd}{n:Nat}{q:Nd}(h:ns[n]?=some q):n<ns.length:=by
 rcases Nat.lt_or_ge n ns.length with h1|h1
 ·exact h1
 ·rw[List.getElem?_eq_none h1]at h;cases h
end Ty
theorem BF{pg:Ty.Pg}(hP:PgOk pg){id:Nat}{nd:Nd}(hn:pg.ns[id]?=some nd)(ha:nd.a<=id)(hb:nd.b<=id)(hl:nd.list.length<=id)(hq:∀n∈nd.list,∃q,pg.ns[n]?=some q/\q.a<=id):NdW pg nd:=by
 have h1:=cX hn;have h2:=hP.ju;exact{a:=by omega,b:=by omega,l:=λn h=>by obtain⟨q,e,_⟩:=hq n h;have:=cX e;omega,ps:=λi h=>by obtain⟨q,e,_⟩:=hq _ (gM h);exact⟨q,e⟩,pa:=λn h q e=>by obtain⟨q2,e2,h3⟩:=hq n h;rw[e]at e2;cases e2;omega,len:=by omega,ty:=(hP.ns nd (List.mem_of_getElem? hn)).ty}
theorem Ct{pg:Ty.Pg}(hP:PgOk pg){id:Nat}{nd:Nd}(hn:pg.ns[id]?=some nd)(hl:nd.list.length<=id)(ho:nd.kind=10->∀p∈nd.list,(cV pg.ns p).kind=15):NdIn pg nd:=by
 have h1:=cX hn;have h2:=hP.ju;have h3:=hP.ns nd (List.mem_of_getElem? hn);exact⟨h3.ty,by omega,ho,h3.RF⟩
end
section
open Ty (Tr Ck aN)
section
variable {wB:World} {cb:Nat} {X:Cx} {pg:Ty.Pg}
theorem Cr(hP:PB wB X.nv X.tv pg){id:Nat}{nd:Nd}(hn:pg.ns[id]?=some nd)(FR:1<=nd.kind/\nd.kind<=14)(h6:nd.kind≠6)(hI:NdW pg nd)(hIn:NdIn pg nd)(hi:id<=100000){cs:List (Nat×fK)}(hC:ou wB X cb (aA nd) cs):pF wB X cb id (dp cs+1) (kX (eX (cs.map Prod.snd)) (iW pg X.aK id)):=by
 intro bk s c w Fr hF H hc bT R aH au;have HV:=qh (N3 (tf:=X.aK) hn FR bk);have jT:=qh (jh bT);have oW:=hI.len;have Oe: (aA nd).length<=900003:=by have:=jr nd;omega
 have k6: ((nd.kind:Int)==6)=false:=beq_eq_false_iff_ne.2 (by omega);have Zk: ((nd.kind:Int)==17)=false:=beq_eq_false_iff_ne.2 (by omega);have RZ: ((nd.kind:Int)==22)=false:=beq_eq_false_iff_ne.2 (by omega);have Rw: ((nd.kind:Int)==26)=false:=beq_eq_false_iff_ne.2 (by omega);clear bT;have aX:=qh aH;have aB:=qh au;have HF:=qh hF;have HP:=qh hP;have gZ:=qh hn;have HI:=qh hI;have LF:=qh hIn;have H1:=qh H;obtain⟨_,_,_,_,_,_,_,_,_,_,g1⟩:=H.eJ;have dO:=qh (λR=>aQ (R:=R) hP (hF _ _ 0 g1 rfl) hn (g1.cell 1 rfl 0 rfl) (g1.lt 1 rfl));clear aH au hF hP hn hI hIn H g1;go_enter func93,ntmps93;go_wp2_with fail;refine dO.o _ (λlv w2 aD cu=>?_);obtain⟨la,lc,rfl⟩:=ag cu;unfold aG;have h3:=(H1.o.below aD).aj (az nd (.slice la nd.list.length lc)) w2.heap.size;have x0:=h3.cell 2 rfl 0 rfl;have H4:=qh ((Sat.pack (L:=[_]) (M:=[Fr,av w2.heap.size (az nd (.slice la nd.list.length lc))]) (h3.pick [1,0,2])).pick [1,0]);have cC:=qh (HF.o.ah (M:=[av w2.heap.size (az nd (.slice la nd.list.length lc))]));have iL:=qh cu;clear h3 aD cu H1 dO;go_wp2_with fail;have mJ:=qh (λ(w3:World)(dF:Below wB.heap.size wB w3) R hR=>nN (w:=w3) (nd:=nd) (lv:=.slice la nd.list.length lc) (R:=R) ⟨h6,by omega,by omega,by omega,by omega⟩ (by omega) (by omega) (ay iL.o dF) (by omega) hR);refine mJ.o _ (cC.o _ _ 0 H4.o rfl) _ (λv3 w3 h3=>?_);have h5:=H4.o.join h3;have bm:=jN h5 2 rfl (ay iL.o (cC.o w3 _ 0 h5 rfl));obtain⟨va,vc,rfl⟩:=ag bm;have H5:=qh ((Sat.pack (L:=[_]) (M:=[ah [Fr,av w2.heap.size (az nd (.slice la nd.list.length lc))],jo nd (.slice la nd.list.length lc) (.slice va (aA nd).length vc) (aA nd)]) (h5.pick [1,0,2])).pick [1,0]);clear h3 h5 bm;go_wp2_with fail;refine lq cC.o.ah hC.1 hC.2 (λw1 L i hs hi=>?_) (by omega) H5.o (by omega) jT.o.1 (λs1 w8 hq h8=>?_) (λf w8 hq h8=>⟨rfl,aB.o f w8 (gv hq) (((h8.unpack (i:=0) rfl).pick [0]).unpack (i:=0) rfl|>.pick [0])⟩)
 ·have h1:=hs.unpack hi;exact jN h1 ((L.eraseIdx i).length+1) (by rw[List.getElem?_append_right (by omega),show(L.eraseIdx i).length+1-(L.eraseIdx i).length=1 by omega];rfl) (ay iL.o (cC.o w1 _ (L.eraseIdx i).length h1 (by rw[List.getElem?_append_right (by omega),Nat.sub_self];rfl)))
 have H9:=qh (((h8.unpack (i:=0) rfl).pick [1,0]));have HQ:=qh hq;clear hq h8 H5 mJ;have H5:=H9;clear H9;have wu:=qh (λs' w'(h:yR pg X.aK id nd s1=.ok s')(g:Sat wB w' [Fr,mf cb X (c+(dp cs)+1) s' bk])=>aX.o s' w' (by rw[dT HQ.o,HV.o];exact h) (by rw[<-Nat.add_assoc];exact g));have eB:=qh (λf w'(h:yR pg X.aK id nd s1=.error f)=>aB.o f w' (by rw[dT HQ.o,HV.o];exact h));have vu:=qh (Io (by rw[<-HV.o];exact jT.o.2 s1 HQ.o));clear aX aB HQ jT HV;obtain⟨ofb,hasb,bkv,no,nh,fo,fh,bl,h0,jW,g1⟩:=H5.o.eJ;have g3:=(g1.unpack (i:=0) rfl).pick [6,0,1,2,3,4,5,7];have x0:=g3.cell 7 rfl 0 rfl;have hS:w8.drew.cell? ⟨cb,5,none⟩=some (.map (some ofb)):=g3.cell 1 rfl 5 rfl;have Na:=g3.lt 1 rfl;have sO:no<maxLen:=by have:=jW.no;unfold maxLen;omega
 have EJ:=zn id hi;have wm:=qh (λR=>tY (R:=R) HP.o (HF.o _ _ 0 g3.drew rfl) gZ.o FR ((g3.drew.pick [0,1,2,3,4,5,6]).NC jW) HI.o hi vu.o);have sQ:=qh (λt(e:fD pg X.aK s1 id nd=.ok t)=>EL HP.o.ok jW.fG LF.o e);have H3:=qh g3;have sr:=qh jW;clear g1 g3 jW H5;go_wp2_with fail;refine fH (b:=true) (decide_eq_true FR) ?_;go_wp2_with fail;cases hx:fD pg X.aK s1 id nd with
 |error f=>
  have HG:=qh (λw'=>eB.o f w' (Ey hx));have b_:=qh (λ(R:EW)(h0:∀(q:Value)(w':World),true=false->R (.returned q) w')(h:∀w',Below w8.drew.heap.size w8.drew w'->R (.panicked (aI f)) w')=>wm.o R (λt q w' e _=>by rw[hx]at e;cases e) (λf' w' e hb=>by rw[hx]at e;cases e;exact h w' hb));clear hx wm sQ wu eB
  go_region_held (λw'=>w'.cell? ⟨cb,5,none⟩=some (.map (some ofb))) (first|exact hS|exact absurd e_ (by decide))
   ((go_at_call 159;refine b_.o _ (λq w9 e_=>?_) (λw9 XR=>⟨rfl,HG.o w9 ((H3.o.drew.below XR).pick [0])⟩);have V9: (Instr.mapUpdate 103 (.map (some ofb)) (.int .i64 (id:Nat)) q).run prog w9=.ok () w9:=absurd e_ (by decide)))
  all_goals exact absurd e_ (by decide)
 |ok t=>
  have xh:=sQ.o t hx;have HG:=qh (λw'(h:dS t<=300)=>wu.o _ w' (mD hx h));have AV:=qh (λw'(h:¬dS t<=300)=>eB.o _ w' (KJ hx h));have b_:=qh (λ(R:EW)(h:∀q w',Sat w8.drew w' [bG w8.drew,db h0 t q]->R (.returned q) w')=>wm.o R (λt' q w' e h2=>by rw[hx]at e;cases e;exact h q w' h2) (λf' w' e=>by rw[hx]at e;cases e));clear hx wm sQ wu eB;go_region_held3(λw'=>w'.cell? ⟨cb,5,none⟩=some (.map (some ofb))) (first|exact hS|exact KU|exact sB)
   ((go_at_call 159;refine b_.o _ (λq w9 h9=>?_);obtain⟨h1,hle,oz,g5⟩:=Sat.Av (L:=[Fr,av cb (MI X ofb hasb bkv),mapA 3 3 X.nV X.nt (cF X.wi),jk 3 ofb no (gd fo),jk 3 hasb nh (gd fh),Prt.row 107 1 bkv bl.length bl,av w2.heap.size (az nd (.slice la nd.list.length lc))]) (t:=t) (p:=q) ((H3.o.drew.join h9).pick [0,1,2,3,4,5,7,6,8]);obtain⟨b6,rfl⟩:=aS oz;obtain⟨D,hD,mg⟩:=g5.fV 3 rfl;obtain⟨w6,sk,fC,dQ⟩:=hD.update cy underlying103 sO (Maps.keyOf_int_mk underlying3 EJ) (val:=.pointer (some ⟨b6,0,none⟩)) (d:=.held (.pointer (some ⟨b6,0,none⟩))) (ps:=[]) rfl;have g8:=g5.jq 3 rfl dQ fC (Ψ:=gd (λk=>if k=id then some (.pointer (some ⟨b6,0,none⟩))else fo k)) (jt mg id _);have KU:w9.cell? ⟨cb,5,none⟩=some (.map (some ofb)):=g5.cell 1 rfl 5 rfl;have sB:w6.cell? ⟨cb,5,none⟩=some (.map (some ofb)):=g8.cell 1 rfl 5 rfl;have Bh:=qh oz;have H8:=qh g8;have M1:=qh (sr.o.up hle);clear h9 hle oz g5 hD mg fC dQ g8))
  all_goals
   obtain⟨D7,k2,k3⟩:=H8.o.fV 3 rfl;have bu: (Instr.lookup 103 (.map (some ofb)) (.int .i64 (id:Nat)) false).run prog w6=.ok (.pointer (some ⟨b6,0,none⟩)) w6:=by rw[kv k2 k3 hi,if_pos rfl];rfl
   have Ia:=qh (Au w6 _ t (Nat.lt_succ_self _) xh.1.ok (by have:=xh.2;omega) _ (H8.o.get (i:=7) rfl λa ha hl=>bN (Prt.le_trans ha hl) _ _ Bh.o) w6 (bR _ _));obtain⟨b3,dF⟩:∃b3,decide (((dS t:Nat):Int)<=300)=b3:=⟨_,rfl⟩
   have cU:=qh dF;clear k2 k3;go_wp2_with fail;refine Ia.o _ (λl_ yZ=>?_);have g10:=H8.o.below yZ;have pL:=qh g10;have KZ:=qh (λR b h1 h2=>eC (R:=R) (b:=b) (e:=2) HP.o (HF.o _ _ 0 g10 rfl) gZ.o (g10.cell 1 rfl 0 rfl) (g10.lt 1 rfl) h1 h2);clear yZ g10;go_wp2_with fail;refine KZ.o _ b3 (λhb=>?_) (λhb Ug PU=>?_)
   ·have uw:dS t<=300:=by have:=of_decide_eq_true (cU.o.trans hb);omega
    have HE:=qh (HG.o l_ uw ((pL.o.pick [0,1,2,3,4,5,7]).jF (M1.o.Ox id Bh.o ⟨xh.1,uw⟩)));clear hb uw;go_wp2_with fail;go_end0;exact HE.o
   ·have uw:¬dS t<=300:=by have:=of_decide_eq_false (cU.o.trans hb);omega
    exact⟨rfl,AV.o Ug uw ((pL.o.below PU).pick [0])⟩
end
section
variable {wB:World} {cb:Nat} {X:Cx} {pg:Ty.Pg}
theorem Cv(hP:PB wB X.nv X.tv pg){id:Nat}{nd:Nd}(hn:pg.ns[id]?=some nd)(l7:15<=nd.kind)(Mz:nd.kind≠16/\nd.kind≠17/\nd.kind≠22/\nd.kind≠26/\nd.kind<=26)(np:nd.kind=20->0<=nd.c/\nd.c<=100000)(hI:NdW pg nd)(hIn:NdIn pg nd)(hi:id<=100000){cs:List (Nat×fK)}(hC:ou wB X cb (aA nd) cs):pF wB X cb id (dp cs+1) (kX (eX (cs.map Prod.snd)) (iW pg X.aK id)):=by
 intro bk s c w Fr hF H hc bT R aH au;have HV:=qh (sC (tf:=X.aK) hn l7 bk);have jT:=qh (jh bT);have oW:=hI.len;have Oe: (aA nd).length<=900003:=by have:=jr nd;omega
 have k6: ((nd.kind:Int)==6)=false:=beq_eq_false_iff_ne.2 (by omega);have Zk: ((nd.kind:Int)==17)=false:=beq_eq_false_iff_ne.2 (by omega);have RZ: ((nd.kind:Int)==22)=false:=beq_eq_false_iff_ne.2 (by omega);have Rw: ((nd.kind:Int)==26)=false:=beq_eq_false_iff_ne.2 (by omega);clear bT;have aX:=qh aH;have aB:=qh au;have HF:=qh hF;have HP:=qh hP;have gZ:=qh hn;have HI:=qh hI;have LF:=qh hIn;have H1:=qh H;obtain⟨_,_,_,_,_,_,_,_,_,_,g1⟩:=H.eJ;have dO:=qh (λR=>aQ (R:=R) hP (hF _ _ 0 g1 rfl) hn (g1.cell 1 rfl 0 rfl) (g1.lt 1 rfl));clear aH au hF hP hn hI hIn H g1;go_enter func93,ntmps93;go_wp2_with fail;refine dO.o _ (λlv w2 aD cu=>?_);obtain⟨la,lc,rfl⟩:=ag cu;unfold aG;have h3:=(H1.o.below aD).aj (az nd (.slice la nd.list.length lc)) w2.heap.size;have x0:=h3.cell 2 rfl 0 rfl;have H4:=qh ((Sat.pack (L:=[_]) (M:=[Fr,av w2.heap.size (az nd (.slice la nd.list.length lc))]) (h3.pick [1,0,2])).pick [1,0]);have cC:=qh (HF.o.ah (M:=[av w2.heap.size (az nd (.slice la nd.list.length lc))]));have iL:=qh cu;clear h3 aD cu H1 dO;go_wp2_with fail;have mJ:=qh (λ(w3:World)(dF:Below wB.heap.size wB w3) R hR=>nN (w:=w3) (nd:=nd) (lv:=.slice la nd.list.length lc) (R:=R) ⟨by omega,Mz.1,Mz.2.1,Mz.2.2.1,Mz.2.2.2.1⟩ (by omega) (λh=>(np h).1) (ay iL.o dF) (by omega) hR);refine mJ.o _ (cC.o _ _ 0 H4.o rfl) _ (λv3 w3 h3=>?_);have h5:=H4.o.join h3;have bm:=jN h5 2 rfl (ay iL.o (cC.o w3 _ 0 h5 rfl));obtain⟨va,vc,rfl⟩:=ag bm;have H5:=qh ((Sat.pack (L:=[_]) (M:=[ah [Fr,av w2.heap.size (az nd (.slice la nd.list.length lc))],jo nd (.slice la nd.list.length lc) (.slice va (aA nd).length vc) (aA nd)]) (h5.pick [1,0,2])).pick [1,0]);clear h3 h5 bm;go_wp2_with fail;refine lq cC.o.ah hC.1 hC.2 (λw1 L i hs hi=>?_) (by omega) H5.o (by omega) jT.o.1 (λs1 w8 hq h8=>?_) (λf w8 hq h8=>⟨rfl,aB.o f w8 (gv hq) (((h8.unpack (i:=0) rfl).pick [0]).unpack (i:=0) rfl|>.pick [0])⟩)
 ·have h1:=hs.unpack hi;exact jN h1 ((L.eraseIdx i).length+1) (by rw[List.getElem?_append_right (by omega),show(L.eraseIdx i).length+1-(L.eraseIdx i).length=1 by omega];rfl) (ay iL.o (cC.o w1 _ (L.eraseIdx i).length h1 (by rw[List.getElem?_append_right (by omega),Nat.sub_self];rfl)))
 have H9:=qh (((h8.unpack (i:=0) rfl).pick [1,0]));have HQ:=qh hq;clear hq h8 H5 mJ;have H5:=H9;clear H9;have wu:=qh (λs' w'(h:im pg X.aK bk id nd s1=.ok s')(g:Sat wB w' [Fr,mf cb X (c+(dp cs)+1) s' bk])=>aX.o s' w' (by rw[dT HQ.o,HV.o];exact h) (by rw[<-Nat.add_assoc];exact g));have eB:=qh (λf w'(h:im pg X.aK bk id nd s1=.error f)=>aB.o f w' (by rw[dT HQ.o,HV.o];exact h));have vu:=qh (by have:=jT.o.2 s1 HQ.o;rw[HV.o]at this;exact this);clear aX aB HQ jT HV;have x0:=(H5.o.unpack (i:=0) rfl).cell 2 rfl 0 rfl;go_wp2_with fail;refine fH (b:=false) (decide_eq_false (by omega)) ?_;go_wp2_with fail;refine iS HP.o cC.o gZ.o l7 H5.o (by omega) HI.o hi np vu.o (λs2 w9 e h9=>?_) (λf w9 e h9=>⟨rfl,eB.o f w9 e ((h9.unpack (i:=0) rfl).pick [0])⟩);have HE:=qh (wu.o s2 w9 e ((h9.unpack (i:=0) rfl).pick [1,0]));clear e h9;go_wp2_with fail;go_end0;exact HE.o
end
section
variable {wB:World} {cb:Nat} {X:Cx} {pg:Ty.Pg}
theorem F3(hP:PB wB X.nv X.tv pg){id p:Nat}{ids:List Nat}(hn:pg.ns[id]?=some {Ty.af 26 p with list:=ids})(hI:NdW pg {Ty.af 26 p with list:=ids})(hIn:NdIn pg {Ty.af 26 p with list:=ids})(hi:id<=100000){cs:List (Nat×fK)}(hC:ou wB X cb ids cs):pF wB X cb id (dp cs+1) (kX (eX (cs.map Prod.snd)) (iW pg X.aK id)):=by
 intro bk s c w Fr hF H hc bT R aH au;have l7:15<=({Ty.af 26 p with list:=ids}:Nd).kind:=by show 15<=26;omega
 have np: ({Ty.af 26 p with list:=ids}:Nd).kind=20->0<=({Ty.af 26 p with list:=ids}:Nd).c/\({Ty.af 26 p with list:=ids}:Nd).c<=100000:=λh=>absurd h (by show¬26=20;omega)
 have HV:=qh (sC (tf:=X.aK) hn l7 bk);have jT:=qh (jh bT);have oW:ids.length<=1200:=hI.len;clear bT;have aX:=qh aH;have aB:=qh au;have HF:=qh hF;have HP:=qh hP;have gZ:=qh hn;have HI:=qh hI;have LF:=qh hIn;have H1:=qh H;obtain⟨_,_,_,_,_,_,_,_,_,_,g1⟩:=H.eJ;have dO:=qh (λR=>aQ (R:=R) hP (hF _ _ 0 g1 rfl) hn (g1.cell 1 rfl 0 rfl) (g1.lt 1 rfl));clear aH au hF hP hn hI hIn H g1;go_enter func93,ntmps93;go_wp2_with fail;refine dO.o _ (λlv w2 aD cu=>?_);obtain⟨la,lc,rfl⟩:=ag cu;unfold aG
 (try dsimp only[Ty.af])
 (try dsimp only[Ty.af]at cu)
 have h3:=(H1.o.below aD).aj (az ⟨26,0,0,0,ids,⟨#[]⟩,0,-1,p⟩ (.slice la ids.length lc)) w2.heap.size;have x0:=h3.cell 2 rfl 0 rfl;have x4:=h3.cell 2 rfl 4 rfl;have H4:=qh ((Sat.pack (L:=[_]) (M:=[Fr,av w2.heap.size (az ⟨26,0,0,0,ids,⟨#[]⟩,0,-1,p⟩ (.slice la ids.length lc))]) (h3.pick [1,0,2])).pick [1,0]);have cC:=qh (HF.o.ah (M:=[av w2.heap.size (az ⟨26,0,0,0,ids,⟨#[]⟩,0,-1,p⟩ (.slice la ids.length lc))]));have iL:=qh cu;clear h3 aD cu H1 dO;go_wp2_with fail;refine lq cC.o hC.1 hC.2 (λw1 L i hs hi=>ay iL.o (cC.o w1 L i hs hi)) (by omega) H4.o (by omega) jT.o.1 (λs1 w8 hq h8=>?_) (λf w8 hq h8=>⟨rfl,aB.o f w8 (gv hq) ((h8.unpack (i:=0) rfl).pick [0])⟩);have H5:=qh h8;have HQ:=qh hq;clear hq h8;have wu:=qh (λs' w'(h:im pg X.aK bk id {Ty.af 26 p with list:=ids} s1=.ok s')(g:Sat wB w' [Fr,mf cb X (c+(dp cs)+1) s' bk])=>aX.o s' w' (by rw[dT HQ.o,HV.o];exact h) (by rw[<-Nat.add_assoc];exact g));have eB:=qh (λf w'(h:im pg X.aK bk id {Ty.af 26 p with list:=ids} s1=.error f)=>aB.o f w' (by rw[dT HQ.o,HV.o];exact h));have vu:=qh (by have:=jT.o.2 s1 HQ.o;rw[HV.o]at this;exact this);clear aX aB HQ jT HV;have x0:=(H5.o.unpack (i:=0) rfl).cell 2 rfl 0 rfl;go_wp2_with fail;refine fH (k:=26) (b:=false) rfl ?_;go_wp2_with fail;refine iS HP.o cC.o gZ.o l7 H5.o (by omega) HI.o hi np vu.o (λs2 w9 e h9=>?_) (λf w9 e h9=>⟨rfl,eB.o f w9 e ((h9.unpack (i:=0) rfl).pick [0])⟩);have HE:=qh (wu.o s2 w9 e ((h9.unpack (i:=0) rfl).pick [1,0]));clear e h9;go_wp2_with fail;go_end0;exact HE.o
end
section
variable {wB:World} {cb:Nat} {X:Cx} {pg:Ty.Pg}
theorem MK(hP:PB wB X.nv X.tv pg){id p a b:Nat}(hn:pg.ns[id]?=some {Ty.af 22 p with a:=a,b:=b,c:= -1})(hI:NdW pg {Ty.af 22 p with a:=a,b:=b,c:= -1})(hIn:NdIn pg {Ty.af 22 p with a:=a,b:=b,c:= -1})(hi:id<=100000){ka kb:Nat}{Fa Fb:fK}(Ca:pF wB X cb a ka Fa)(Cb:pF wB X cb b kb Fb):pF wB X cb id (dp [(ka,Fa),(kb,Fb)]+1) (kX (eX [Fa,Fb]) (iW pg X.aK id)):=by
 intro bk s c w Fr hF H hc bT R aH au;have l7:15<=({Ty.af 22 p with a:=a,b:=b,c:= -1}:Nd).kind:=by show 15<=22;omega
 have np: ({Ty.af 22 p with a:=a,b:=b,c:= -1}:Nd).kind=20->0<=({Ty.af 22 p with a:=a,b:=b,c:= -1}:Nd).c/\({Ty.af 22 p with a:=a,b:=b,c:= -1}:Nd).c<=100000:=λh=>absurd h (by show¬22=20;omega)
 have HV:=qh (sC (tf:=X.aK) hn l7 bk);have jT:=qh (jh bT);clear bT;have aX:=qh aH;have aB:=qh au;have HF:=qh hF;have HP:=qh hP;have gZ:=qh hn;have HI:=qh hI;have LF:=qh hIn;have H1:=qh H;obtain⟨_,_,_,_,_,_,_,_,_,_,g1⟩:=H.eJ;have dO:=qh (λR=>aQ (R:=R) hP (hF _ _ 0 g1 rfl) hn (g1.cell 1 rfl 0 rfl) (g1.lt 1 rfl));clear aH au hF hP hn hI hIn H g1;go_enter func93,ntmps93;go_wp2_with fail;refine dO.o _ (λlv w2 aD cu=>?_);obtain⟨la,lc,rfl⟩:=ag cu;unfold aG
 (try dsimp only[Ty.af])
 (try dsimp only[Ty.af]at cu)
 have h3:=(H1.o.below aD).aj (az ⟨22,a,b,-1,[],⟨#[]⟩,0,-1,p⟩ (.slice la 0 lc)) w2.heap.size;have x0:=h3.cell 2 rfl 0 rfl;have x1:=h3.cell 2 rfl 1 rfl;have x2:=h3.cell 2 rfl 2 rfl;have H4:=qh ((Sat.pack (L:=[_]) (M:=[Fr,av w2.heap.size (az ⟨22,a,b,-1,[],⟨#[]⟩,0,-1,p⟩ (.slice la 0 lc))]) (h3.pick [1,0,2])).pick [1,0]);have cC:=qh (HF.o.ah (M:=[av w2.heap.size (az ⟨22,a,b,-1,[],⟨#[]⟩,0,-1,p⟩ (.slice la 0 lc))]));have iL:=qh cu;clear h3 aD cu H1 dO;go_wp2_with fail;have h5:=(H4.o.unpack (i:=0) rfl).aj (.cells #[.int .i64 (a:Nat),.int .i64 (b:Nat)] 3) (w2.heap.size+1) (by simp);have h6:=h5.cL (i:=3) rfl (Q:=eY (.slice (some ⟨w2.heap.size+1,0,none⟩) 2 2) [a,b]) (λ_ h=>bn h rfl (by simp[maxLen]) (by simp[aO]));have Jf:=qh (HF.o.ah (M:=[av w2.heap.size (az ⟨22,a,b,-1,[],⟨#[]⟩,0,-1,p⟩ (.slice la 0 lc)),eY (.slice (some ⟨w2.heap.size+1,0,none⟩) 2 2) [a,b]]));have H6:=qh ((Sat.pack (L:=[_]) (M:=[Fr,av w2.heap.size (az ⟨22,a,b,-1,[],⟨#[]⟩,0,-1,p⟩ (.slice la 0 lc)),eY (.slice (some ⟨w2.heap.size+1,0,none⟩) 2 2) [a,b]]) h6).pick [1,0]);clear h5 h6 H4;refine lq (ids:=[a,b]) (cs:=[(ka,Fa),(kb,Fb)]) Jf.o rfl (λj h1 h2=>?_) (λw1 L i hs hi=>?_) (by simp) H6.o (by omega) jT.o.1 (λs1 w8 hq h8=>?_) (λf w8 hq h8=>⟨rfl,aB.o f w8 (gv hq) ((h8.unpack (i:=0) rfl).pick [0])⟩)
 ·match j with
  |0=>exact Ca
  |1=>exact Cb
  |j+2=>exact absurd h1 (by simp only[List.length_cons,List.length_nil];omega)
 ·have h1:=hs.unpack hi;exact h1.row ((L.eraseIdx i).length+2) (by rw[List.getElem?_append_right (by omega),show(L.eraseIdx i).length+2-(L.eraseIdx i).length=2 by omega];rfl)
 have hu:=h8.unpack (i:=0) rfl;have x3:=hu.cell 2 rfl 3 rfl;have H5:=qh ((Sat.pack (L:=[_]) (M:=[Fr,av w2.heap.size (az ⟨22,a,b,-1,[],⟨#[]⟩,0,-1,p⟩ (.slice la 0 lc))]) (hu.pick [0,1,2])).pick [1,0]);have HQ:=qh (show eX [Fa,Fb] bk s=.ok s1 from hq);dsimp only at x3;clear hq h8 hu H6;have wu:=qh (λs' w'(h:im pg X.aK bk id {Ty.af 22 p with a:=a,b:=b,c:= -1} s1=.ok s')(g:Sat wB w' [Fr,mf cb X (c+(dp [(ka,Fa),(kb,Fb)])+1) s' bk])=>aX.o s' w' (by rw[dT HQ.o,HV.o];exact h) (by rw[<-Nat.add_assoc];exact g));have eB:=qh (λf w'(h:im pg X.aK bk id {Ty.af 22 p with a:=a,b:=b,c:= -1} s1=.error f)=>aB.o f w' (by rw[dT HQ.o,HV.o];exact h));have vu:=qh (by have:=jT.o.2 s1 HQ.o;rw[HV.o]at this;exact this);clear aX aB HQ jT HV;have x0:=(H5.o.unpack (i:=0) rfl).cell 2 rfl 0 rfl;go_wp2_with fail;refine fH (k:=22) (b:=false) rfl ?_;go_wp2_with fail;refine iS HP.o cC.o gZ.o l7 H5.o (by omega) HI.o hi np vu.o (λs2 w9 e h9=>?_) (λf w9 e h9=>⟨rfl,eB.o f w9 e ((h9.unpack (i:=0) rfl).pick [0])⟩);have HE:=qh (wu.o s2 w9 e ((h9.unpack (i:=0) rfl).pick [1,0]));clear e h9;go_wp2_with fail;go_end0;exact HE.o
end
section
variable {wB:World} {cb:Nat} {X:Cx} {pg:Ty.Pg}
theorem Nf(hP:PB wB X.nv X.tv pg){id p a b d:Nat}(hn:pg.ns[id]?=some {Ty.af 22 p with a:=a,b:=b,c:=((d:Nat):Int)})(hI:NdW pg {Ty.af 22 p with a:=a,b:=b,c:=((d:Nat):Int)})(hIn:NdIn pg {Ty.af 22 p with a:=a,b:=b,c:=((d:Nat):Int)})(hi:id<=100000){ka kb:Nat}{Fa Fb:fK}(Ca:pF wB X cb a ka Fa)(Cb:pF wB X cb b kb Fb){kd:Nat}{Fd:fK}(Cd:pF wB X cb d kd Fd):pF wB X cb id ((dp [(ka,Fa),(kb,Fb)]+kd)+1) (kX (kX (eX [Fa,Fb]) Fd) (iW pg X.aK id)):=by
 intro bk s c w Fr hF H hc bT R aH au;have l7:15<=({Ty.af 22 p with a:=a,b:=b,c:=((d:Nat):Int)}:Nd).kind:=by show 15<=22;omega
 have np: ({Ty.af 22 p with a:=a,b:=b,c:=((d:Nat):Int)}:Nd).kind=20->0<=({Ty.af 22 p with a:=a,b:=b,c:=((d:Nat):Int)}:Nd).c/\({Ty.af 22 p with a:=a,b:=b,c:=((d:Nat):Int)}:Nd).c<=100000:=λh=>absurd h (by show¬22=20;omega)
 have HV:=qh (sC (tf:=X.aK) hn l7 bk);have jT:=qh (jh bT);have T6:=qh (jh jT.o.1);clear bT;have aX:=qh aH;have aB:=qh au;have HF:=qh hF;have HP:=qh hP;have gZ:=qh hn;have HI:=qh hI;have LF:=qh hIn;have H1:=qh H;obtain⟨_,_,_,_,_,_,_,_,_,_,g1⟩:=H.eJ;have dO:=qh (λR=>aQ (R:=R) hP (hF _ _ 0 g1 rfl) hn (g1.cell 1 rfl 0 rfl) (g1.lt 1 rfl));clear aH au hF hP hn hI hIn H g1;go_enter func93,ntmps93;go_wp2_with fail;refine dO.o _ (λlv w2 aD cu=>?_);obtain⟨la,lc,rfl⟩:=ag cu;unfold aG
 (try dsimp only[Ty.af])
 (try dsimp only[Ty.af]at cu)
 have h3:=(H1.o.below aD).aj (az ⟨22,a,b,((d:Nat):Int),[],⟨#[]⟩,0,-1,p⟩ (.slice la 0 lc)) w2.heap.size;have x0:=h3.cell 2 rfl 0 rfl;have x1:=h3.cell 2 rfl 1 rfl;have x2:=h3.cell 2 rfl 2 rfl;have H4:=qh ((Sat.pack (L:=[_]) (M:=[Fr,av w2.heap.size (az ⟨22,a,b,((d:Nat):Int),[],⟨#[]⟩,0,-1,p⟩ (.slice la 0 lc))]) (h3.pick [1,0,2])).pick [1,0]);have cC:=qh (HF.o.ah (M:=[av w2.heap.size (az ⟨22,a,b,((d:Nat):Int),[],⟨#[]⟩,0,-1,p⟩ (.slice la 0 lc))]));have iL:=qh cu;clear h3 aD cu H1 dO;go_wp2_with fail;have h5:=(H4.o.unpack (i:=0) rfl).aj (.cells #[.int .i64 (a:Nat),.int .i64 (b:Nat)] 3) (w2.heap.size+1) (by simp);have h6:=h5.cL (i:=3) rfl (Q:=eY (.slice (some ⟨w2.heap.size+1,0,none⟩) 2 2) [a,b]) (λ_ h=>bn h rfl (by simp[maxLen]) (by simp[aO]));have Jf:=qh (HF.o.ah (M:=[av w2.heap.size (az ⟨22,a,b,((d:Nat):Int),[],⟨#[]⟩,0,-1,p⟩ (.slice la 0 lc)),eY (.slice (some ⟨w2.heap.size+1,0,none⟩) 2 2) [a,b]]));have H6:=qh ((Sat.pack (L:=[_]) (M:=[Fr,av w2.heap.size (az ⟨22,a,b,((d:Nat):Int),[],⟨#[]⟩,0,-1,p⟩ (.slice la 0 lc)),eY (.slice (some ⟨w2.heap.size+1,0,none⟩) 2 2) [a,b]]) h6).pick [1,0]);clear h5 h6 H4;refine lq (ids:=[a,b]) (cs:=[(ka,Fa),(kb,Fb)]) Jf.o rfl (λj h1 h2=>?_) (λw1 L i hs hi=>?_) (by simp) H6.o (by omega) T6.o.1 (λs0 w8 hq h8=>?_) (λf w8 hq h8=>⟨rfl,aB.o f w8 (gv (gv hq)) ((h8.unpack (i:=0) rfl).pick [0])⟩)
 ·match j with
  |0=>exact Ca
  |1=>exact Cb
  |j+2=>exact absurd h1 (by simp only[List.length_cons,List.length_nil];omega)
 ·have h1:=hs.unpack hi;exact h1.row ((L.eraseIdx i).length+2) (by rw[List.getElem?_append_right (by omega),show(L.eraseIdx i).length+2-(L.eraseIdx i).length=2 by omega];rfl)
 have hu:=h8.unpack (i:=0) rfl;have x3:=hu.cell 2 rfl 3 rfl;have H5:=qh ((Sat.pack (L:=[_]) (M:=[Fr,av w2.heap.size (az ⟨22,a,b,((d:Nat):Int),[],⟨#[]⟩,0,-1,p⟩ (.slice la 0 lc))]) (hu.pick [0,1,2])).pick [1,0]);have HQ:=qh (show eX [Fa,Fb] bk s=.ok s0 from hq);dsimp only at x3;clear hq h8 hu H6;go_wp2_with fail;refine Cd bk s0 _ w8 _ cC.o H5.o (by omega) (T6.o.2 s0 HQ.o) _ (λs1 w9 Nu h9=>?_) (λf w9 Nu h9=>⟨rfl,aB.o f w9 (gv (by rw[dT HQ.o];exact Nu)) ((h9.unpack (i:=0) rfl).pick [0])⟩);have Hr:Hq (kX (eX [Fa,Fb]) Fd bk s=.ok s1):=by show _= _;rw[dT HQ.o];exact Nu
 clear HQ x0 x1 x2 x3 H5;have HQ:=Hr;have H5:Hq (Sat wB w9 [ah [Fr,av w2.heap.size (az ⟨22,a,b,((d:Nat):Int),[],⟨#[]⟩,0,-1,p⟩ (.slice la 0 lc))],mf cb X (c+(dp [(ka,Fa),(kb,Fb)]+kd)) s1 bk]):=by show Sat _ _ _;rw[<-Nat.add_assoc];exact h9
 clear Nu h9 Hr;have wu:=qh (λs' w'(h:im pg X.aK bk id {Ty.af 22 p with a:=a,b:=b,c:=((d:Nat):Int)} s1=.ok s')(g:Sat wB w' [Fr,mf cb X (c+((dp [(ka,Fa),(kb,Fb)]+kd))+1) s' bk])=>aX.o s' w' (by rw[dT HQ.o,HV.o];exact h) (by rw[<-Nat.add_assoc];exact g));have eB:=qh (λf w'(h:im pg X.aK bk id {Ty.af 22 p with a:=a,b:=b,c:=((d:Nat):Int)} s1=.error f)=>aB.o f w' (by rw[dT HQ.o,HV.o];exact h));have vu:=qh (by have:=jT.o.2 s1 HQ.o;rw[HV.o]at this;exact this);clear aX aB HQ jT HV;have x0:=(H5.o.unpack (i:=0) rfl).cell 2 rfl 0 rfl;go_wp2_with fail;refine fH (k:=22) (b:=false) rfl ?_;go_wp2_with fail;refine iS HP.o cC.o gZ.o l7 H5.o (by omega) HI.o hi np vu.o (λs2 w9 e h9=>?_) (λf w9 e h9=>⟨rfl,eB.o f w9 e ((h9.unpack (i:=0) rfl).pick [0])⟩);have HE:=qh (wu.o s2 w9 e ((h9.unpack (i:=0) rfl).pick [1,0]));clear e h9;go_wp2_with fail;go_end0;exact HE.o
end
section
variable {wB:World} {cb:Nat} {X:Cx} {pg:Ty.Pg}
theorem IG(hP:PB wB X.nv X.tv pg){id p b:Nat}{x:BA}{ty:Int}(hn:pg.ns[id]?=some {Ty.af 17 p with text:=x,ty:=ty,a:=b})(hI:NdW pg {Ty.af 17 p with text:=x,ty:=ty,a:=b})(hIn:NdIn pg {Ty.af 17 p with text:=x,ty:=ty,a:=b})(hi:id<=100000){nb:Nd}(sL:pg.ns[b]?=some nb)(LD:NdW pg nb)(h6:nb.kind≠6){k:Nat}{F:fK}(C:pF wB X cb b k F):pF wB X cb id (k+3) (λbk s=>kX F (iW pg X.aK id) bk (nf pg id s)):=by
 intro bk s c w Fr hF H hc bT R aH au;have l7:15<=({Ty.af 17 p with text:=x,ty:=ty,a:=b}:Nd).kind:=by show 15<=17;omega
 have np: ({Ty.af 17 p with text:=x,ty:=ty,a:=b}:Nd).kind=20->0<=({Ty.af 17 p with text:=x,ty:=ty,a:=b}:Nd).c/\({Ty.af 17 p with text:=x,ty:=ty,a:=b}:Nd).c<=100000:=λh=>absurd h (by show¬17=20;omega)
 have HV:=qh (sC (tf:=X.aK) hn l7 bk);have hL:nf pg id s=s:=by
  unfold nf;rw[bw hn];show(if(cV pg.ns b).kind=6 then _ else _)= _;rw[bw sL,if_neg h6]
 have kb: (((nb.kind:Nat):Int)==6)=false:=beq_eq_false_iff_ne.2 (by omega);dsimp only at bT aH au;rw[hL]at bT aH au
 have jT:=qh (jh bT);have Sn:=qh sL;have Sp:=qh LD;have HC:=qh C;have EJ:=zn id hi;clear bT hL sL LD h6 C;have aX:=qh aH;have aB:=qh au;have HF:=qh hF;have HP:=qh hP;have gZ:=qh hn;have HI:=qh hI;have LF:=qh hIn;have H1:=qh H;obtain⟨_,_,_,_,_,_,_,_,_,_,g1⟩:=H.eJ;have dO:=qh (λR=>aQ (R:=R) hP (hF _ _ 0 g1 rfl) hn (g1.cell 1 rfl 0 rfl) (g1.lt 1 rfl));clear aH au hF hP hn hI hIn H g1;go_enter func93,ntmps93;go_wp2_with fail;refine dO.o _ (λlv w2 aD cu=>?_);obtain⟨la,lc,rfl⟩:=ag cu;unfold aG
 (try dsimp only[Ty.af])
 (try dsimp only[Ty.af]at cu)
 have h3:=(H1.o.below aD).aj (az ⟨17,b,0,0,[],x,0,ty,p⟩ (.slice la 0 lc)) w2.heap.size;have x0:=h3.cell 2 rfl 0 rfl;have x1:=h3.cell 2 rfl 1 rfl;have x7:=h3.cell 2 rfl 7 rfl;have H4:=qh ((Sat.pack (L:=[_]) (M:=[Fr,av w2.heap.size (az ⟨17,b,0,0,[],x,0,ty,p⟩ (.slice la 0 lc))]) (h3.pick [1,0,2])).pick [1,0]);have cC:=qh (HF.o.ah (M:=[av w2.heap.size (az ⟨17,b,0,0,[],x,0,ty,p⟩ (.slice la 0 lc))]));have iL:=qh cu;clear h3 aD cu H1 dO;obtain⟨ofb,hasb,bkv,no,nh,fo,fh,bl,h0,jW,g1⟩:=H4.o.eJ;have Bb:=qh (λR=>aQ (R:=R) HP.o (cC.o _ _ 0 g1 rfl) Sn.o (g1.cell 1 rfl 0 rfl) (g1.lt 1 rfl));have G1:=qh g1;have sr:=qh jW;have sO:nh<maxLen:=by have:=jW.nh;unfold maxLen;omega
 have QO:nh+1<maxLen:=by have:=jW.nh;unfold maxLen;omega
 clear g1 jW H4;go_wp2_with fail;refine Bb.o _ (λqx w3 dF tP=>?_);have Vl:=qh tP;obtain⟨rL,sw,rfl⟩:=ag tP;unfold aG;have g4:=(((G1.out.below dF).unpack (i:=0) rfl).pick [6,0,1,2,3,4,5,7]).aj (az nb (.slice rL nb.list.length sw)) w3.heap.size;have x1:=g4.cell 7 rfl 1 rfl;have x7:=g4.cell 7 rfl 7 rfl;have y0:=g4.cell 8 rfl 0 rfl;have zu:=qh (HF.o.ah (M:=[av w2.heap.size (az ⟨17,b,0,0,[],x,0,ty,p⟩ (.slice la 0 lc)),av w3.heap.size (az nb (.slice rL nb.list.length sw))]));have H5:=qh g4;clear dF tP g4 G1 cC Bb;go_wp2_with fail;have g6:=H5.o.pick [1,2,3,4,5,6,0,7,8];have H6:=qh (show Sat wB _ [ah [Fr,av w2.heap.size (az ⟨17,b,0,0,[],x,0,ty,p⟩ (.slice la 0 lc)),av w3.heap.size (az nb (.slice rL nb.list.length sw))],mf cb X (c+2) s bk]from((Sat.pack (L:=Ho cb X ofb hasb bkv no nh fo fh bl h0) (M:=[Fr,av w2.heap.size (az ⟨17,b,0,0,[],x,0,ty,p⟩ (.slice la 0 lc)),av w3.heap.size (az nb (.slice rL nb.list.length sw))]) g6).pick [6,0,1,2,3,4,5]).jF sr.o|>.uT (d:=c+2) (by omega));clear g6;refine HC.o bk _ _ _ _ zu.o H6.o (by omega) jT.o.1 _ (λs1 l_ hq h8=>?_) (λf l_ hq h8=>⟨rfl,aB.o f l_ (gv hq) ((h8.unpack (i:=0) rfl).pick [0])⟩);have H5:Hq (Sat wB l_ [ah [Fr,av w2.heap.size (az ⟨17,b,0,0,[],x,0,ty,p⟩ (.slice la 0 lc)),av w3.heap.size (az nb (.slice rL nb.list.length sw))],mf cb X (c+(k+2)) s1 bk]):=by show Sat _ _ _;rw[show c+(k+2)=c+2+k by omega];exact h8
 have HQ:=qh hq;have cC:=zu;clear hq h8 H6;have wu:=qh (λs' w'(h:im pg X.aK bk id {Ty.af 17 p with text:=x,ty:=ty,a:=b} s1=.ok s')(g:Sat wB w' [Fr,mf cb X (c+(k+2)+1) s' bk])=>aX.o s' w' (by rw[dT HQ.o,HV.o];exact h) (by rw[<-Nat.add_assoc];exact g));have eB:=qh (λf w'(h:im pg X.aK bk id {Ty.af 17 p with text:=x,ty:=ty,a:=b} s1=.error f)=>aB.o f w' (by rw[dT HQ.o,HV.o];exact h));have vu:=qh (by have:=jT.o.2 s1 HQ.o;rw[HV.o]at this;exact this);clear aX aB HQ jT HV;have x0:=(H5.o.unpack (i:=0) rfl).cell 2 rfl 0 rfl;go_wp2_with fail;refine fH (k:=17) (b:=false) rfl ?_;go_wp2_with fail;refine iS HP.o cC.o gZ.o l7 H5.o (by omega) HI.o hi np vu.o (λs2 w9 e h9=>?_) (λf w9 e h9=>⟨rfl,eB.o f w9 e ((h9.unpack (i:=0) rfl).pick [0])⟩);have HE:=qh (wu.o s2 w9 e ((h9.unpack (i:=0) rfl).pick [1,0]));clear e h9;go_wp2_with fail;go_end0;exact HE.o
end
end
end Go.Proofs.YtdlbhiaceheffabGreatDoor
