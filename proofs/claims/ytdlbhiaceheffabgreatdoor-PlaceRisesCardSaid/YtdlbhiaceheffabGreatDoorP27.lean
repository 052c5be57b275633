/- Walk of check: statement at all kinds. -/
import Derived.Test.YtdlbhiaceheffabGreatDoorP26
set_option linter.all false
set_option maxRecDepth 100000
set_option maxHeartbeats 8000000
namespace Go.Proofs.YtdlbhiaceheffabGreatDoor
open Go Go.RowKit Ty Tok ak Tryz Proofs.Tryz
section
open Ty (Tr Ck)
section
variable {wB w:World} {cb:Nat} {X:Cx} {c:Nat} {s:Ck} {pg:Ty.Pg} {bk:List (Option Tr)} {Fr:As}
theorem iU(hP:PB wB X.nv X.tv pg)(hF:jH wB Fr){id:Nat}{nd:Ty.Nd}(hn:pg.ns[id]?=some nd)(hk:15≤nd.kind)(H:Sat wB w [Fr,mr cb X c s bk])(hc:c+1≤100000)(hI:NdW pg nd)(hi:id≤100000)(nY:nd.kind=20→0≤nd.c∧nd.c≤100000)(bZ:iw pg X.a_ bk id nd s≠.error Ty.stuck){R:EW}
  (aF:∀s' w',iw pg X.a_ bk id nd s=.ok s'→Sat wB w' [Fr,mr cb X (c+1) s' bk]→R (.returned (.tuple #[])) w') (av:∀f w',iw pg X.a_ bk id nd s=.error f→Sat wB w' [Fr]→R (.panicked (aJ f)) w'):
  Calls prog 162 #[.pointer (some ⟨cb,0,none⟩),.int .i64 (id:Nat)] w R:=by
 by_cases Hw:nd.kind=17
 ·exact Ng hP hF hn Hw H hc hI hi bZ aF av
 obtain⟨ofb,hasb,bkv,no,nh,fo,fh,bl,h0,j5,g1⟩:=H.eV;have hW:=g1.MS j5;have hB:=g1.aa2 j5 (by omega);have hb:=hF w _ 0 g1 rfl;have oR:∀w',iw pg X.a_ bk id nd s=.ok s→Below w.heap.size w w'→R (.returned (.tuple #[])) w':=λw' h fU=>aF s w' h ((H.below fU).uM (by omega))
 have l9:∀f w',iw pg X.a_ bk id nd s=.error f→Below w.heap.size w w'→R (.panicked (aJ f)) w':=λf w' h fU=>av f w' h ((H.below fU).pick [0])
 by_cases wX:nd.kind=18
 ·exact M_ hP hb hn wX hW hB hI hi bZ oR l9
 by_cases OL:nd.kind=19
 ·exact Nn hP hb hn OL hW hB hI hi bZ oR l9
 by_cases Qi:nd.kind=20
 ·exact Mr hP hb hn ⟨Qi,nY Qi⟩ hW hB hI hi bZ oR l9
 by_cases JP:nd.kind=24
 ·exact Nc hP hb hn JP hW hB hI hi bZ oR l9
 ·exact Dk hP hb hn ⟨hk,Hw,wX,OL,Qi,JP⟩ hW hB hI hi bZ oR l9
end
end
section
open Ty (Tr Ck aO)
abbrev fP:=List (Option Tr)→Ck→Except Ty.Ft Ck
def fB:List fP→fP
 |[],_,s=>.ok s
 |F::l,bk,s=>aO (F bk s) λs=>fB l bk s
theorem vk:∀(l m:List fP)(bk:List (Option Tr))(s:Ck),fB (l++m) bk s=aO (fB l bk s) λs=>fB m bk s
 |[],_,_,_=>rfl
 |F::l,m,bk,s=>by
  show aO (F bk s) (λs=>fB (l++m) bk s)=aO (aO (F bk s) λs=>fB l bk s) λs=>fB m bk s
  rw[aM];congr 1;funext r;exact vk l m bk r
theorem ei(F:fP)(bk:List (Option Tr))(s:Ck):fB [F] bk s=F bk s:=by
 show aO (F bk s) (λs=>.ok s)=F bk s;cases F bk s<;>rfl
def pe(wB:World)(X:Cx)(cb:Nat)(id:Nat)(k:Nat)(F:fP):Prop:=
 ∀(bk:List (Option Tr))(s:Ck)(c:Nat)(w:World)(Fr:As),jH wB Fr→Sat wB w [Fr,mr cb X c s bk]→c+k≤100000→F bk s≠.error Ty.stuck→∀R:EW,
  (∀s' w',F bk s=.ok s'→Sat wB w' [Fr,mr cb X (c+k) s' bk]→R (.returned (.tuple #[])) w')→
  (∀f w',F bk s=.error f→Sat wB w' [Fr]→R (.panicked (aJ f)) w')→
  Calls prog 93 #[.pointer (some ⟨cb,0,none⟩),.int .i64 (id:Nat)] w R
def cB(l:List (Nat×fP)):Nat:=(l.map Prod.fst).foldr (· + ·) 0
theorem FV(l:List (Nat×fP)):∀{j:Nat}(h:j<l.length),cB (l.take (j+1))=cB (l.take j)+l[j].1:=by
 induction l with
 |nil=>intro j h;simp at h
 |cons p l ih=>
  intro j h;cases j with
  |zero=>simp[cB]
  |succ j=>
   have:=ih (j:=j) (by simpa using h);unfold cB at this⊢;simp only[List.take_succ_cons,List.map_cons,List.foldr_cons,List.getElem_cons_succ];omega
theorem My(l:List (Nat×fP)):∀j,cB (l.take j)≤cB l:=by
 induction l with
 |nil=>intro j;simp[cB]
 |cons p l ih=>
  intro j;cases j with
  |zero=>simp[cB]
  |succ j=>
   have:=ih j;unfold cB at this⊢;simp only[List.take_succ_cons,List.map_cons,List.foldr_cons];omega
section
variable {wB w:World} {Fr:As} {cb:Nat} {X:Cx} {c:Nat} {s:Ck} {bk:List (Option Tr)}
theorem mq(hF:jH wB Fr){ids:List Nat}{cs:List (Nat×fP)}{lv:Value}(hlen:ids.length=cs.length)(hC:∀j(h1:j<ids.length)(h2:j<cs.length),pe wB X cb ids[j] cs[j].1 cs[j].2)
  (bJ:∀(w1:World)(L:List As)(i:Nat),Sat wB w1 L→L[i]?=some Fr→w1.ownsRow 0 3 1 lv ids.length (ids.map aS)) (hn:ids.length≤1000000) (H:Sat wB w [Fr,mr cb X c s bk]) (hc:c+cB cs≤100000) (bZ:fB (cs.map Prod.snd) bk s≠.error Ty.stuck) {R:EW}
  (aF:∀s' w',fB (cs.map Prod.snd) bk s=.ok s'→Sat wB w' [Fr,mr cb X (c+cB cs) s' bk]→R (.returned (.tuple #[])) w')
  (av:∀f w',fB (cs.map Prod.snd) bk s=.error f→Sat wB w' [Fr]→R (.panicked (aJ f)) w'):
  Calls prog 155 #[.pointer (some ⟨cb,0,none⟩),lv] w R:=by
 have aY:=qh aF;have aB:=qh av;have HF:=qh hF;have HC:=qh hC;have dG:=qh bJ;have HL:=qh hlen;have H1:=qh H;have j7:=qh bZ;obtain⟨la,lc,rfl⟩:=ag (bJ w _ 0 H rfl);have LG:=qh hc;clear aF av hF hC bJ hlen H hc bZ;go_in;go_wp2_with fail;go_loopw [8] (λi wr=>∃(j:Nat)(s1:Ck),i=.int .i64 j∧j≤ids.length∧Hq (fB ((cs.map Prod.snd).take j) bk s=.ok s1)∧Hq (Sat wB wr [Fr,mr cb X (c+cB (cs.take j)) s1 bk])) (λi _=>ids.length-(intOf i).toNat)
 case atStart=>exact⟨0,s,rfl,Nat.zero_le _,rfl,H1.o⟩
 case round=>
  obtain⟨j,s1,rfl,hj,hE,hS⟩:=hrel;by_cases bm:j<ids.length
  ·obtain⟨gl,j9,e,mW,d0⟩:=ints_at (dG.o wr _ 0 hS.out rfl) j bm;cases e;have eh:j<cs.length:=by rw[←HL.o];exact bm
   have g_:=FV cs eh;have hle:=My cs (j+1);have Cm: (cs.map Prod.snd).take (j+1)=(cs.map Prod.snd).take j++[cs[j].2]:=by rw[List.take_succ_eq_append_getElem (by simpa using eh)];simp
   have zm:Hq (fB ((cs.map Prod.snd).take (j+1)) bk s=cs[j].2 bk s1):=by show _= _;rw[Cm,vk,hE.out];exact ei _ _ _
   have Uz:Hq (∀f,cs[j].2 bk s1=.error f→fB (cs.map Prod.snd) bk s=.error f):=λf hf=>by
    have h1:fB ((cs.map Prod.snd).take (j+1)) bk s=.error f:=by rw[zm.o,hf]
    rw[←List.take_append_drop (j+1) (cs.map Prod.snd),vk,h1];rfl
   have DE:=qh (HC.o j bm eh bk s1 _ wr _ HF.o hS.out (by have:=LG.o;omega) (λh=>j7.o (Uz.o _ h)));have xF:=qh g_;clear g_ hle Cm;generalize ids[j]=ij at*
   go_wp2_with fail;refine DE.o _ (λs2 w4 hq h4=>?_) (λf w4 hq h4=>?_)
   ·have fZ:Hq (fB ((cs.map Prod.snd).take (j+1)) bk s=.ok s2):=by show _= _;rw[zm.o,hq]
    have H4:=qh h4;clear h4 hq;go_wp2_with fail;go_roundw
    case rel=>exact⟨j+1,s2,by go_num,by omega,fZ,by show Sat _ _ _;rw[xF.o,←Nat.add_assoc];exact H4.o⟩
    case measure=>simp[intOf];omega
   ·exact⟨rfl,aB.o f w4 (Uz.o f hq) h4⟩
  ·have ju:j=cs.length:=by have:=HL.o;omega
   have Dw:=hE.out;have h6:=hS.out;rw[ju,List.take_of_length_le (by simp)]at Dw
   rw[ju,List.take_of_length_le (Nat.le_refl _)]at h6
   have fZ:=qh Dw;have H6:=qh h6;clear Dw h6 ju;go_wp2_with fail;go_end0;exact aY.o _ _ fZ.o H6.o
end
theorem fS{w:World}{k:Nat}{b:Bool}(hb:decide (1≤k∧k≤14)=b){R:EW}(hR:R (.returned (.bool b)) w):Calls prog 158 #[.int .i64 (k:Nat)] w R:=by
 have HR:=qh hR;clear hR;cases b with
 |true=>
  have hd:=decide_eq_true_iff.1 hb;have h1:decide ((1:Int)≤(k:Int))=true:=decide_eq_true (by omega);have h2:decide ((k:Int)≤14)=true:=decide_eq_true (by omega);clear hb hd;go_in;go_wp2_with fail;exact HR.o
 |false=>
  have hd:=decide_eq_false_iff_not.1 hb;by_cases g1:1≤k
  ·have h1:decide ((1:Int)≤(k:Int))=true:=decide_eq_true (by omega);have h2:decide ((k:Int)≤14)=false:=decide_eq_false (by omega);clear hb hd g1;go_in;go_wp2_with fail;exact HR.o
  ·have h1:decide ((1:Int)≤(k:Int))=false:=decide_eq_false (by omega);clear hb hd g1;go_in;go_wp2_with fail;exact HR.o
end
namespace Ty
mutual
theorem bP:∀(e:Ex)(a:Nat)(frs:List Frm)(v v':Vg),bO e a frs v=.ok v'→∀p∈v.out,p∈v'.out
 | .num ..,a,frs,v,v',h=>by rw[bO]at h;cases h;exact λp h=>h
 | .text ..,a,frs,v,v',h=>by rw[bO]at h;cases h;exact λp h=>h
 | .bool ..,a,frs,v,v',h=>by rw[bO]at h;cases h;exact λp h=>h
 | .null ..,a,frs,v,v',h=>by rw[bO]at h;cases h;exact λp h=>h
 | .var p x,a,frs,v,v',h=>by
  rw[bO]at h
  unfold kB at h;split at h
  ·cases h
  ·cases h;exact λp h=>by simp[h]
 | .fn _ ps _ _ body,a,frs,v,v',h=>by
  rw[bO]at h
  obtain⟨r,h1,h2⟩:=aG h;cases h2;have hd:∀(ps:List Par)(a:Nat)(fr:Frm)(v:Vg),(gy ps a fr v).2.out=v.out:=by
   intro ps;induction ps with
   |nil=>intro a fr v;rfl
   |cons q ps ih=>intro a fr v;exact ih (a+1) _ _
  intro p hp;exact eY body _ _ _ _ _ h1 p (by rw[hd];exact hp)
 | .call _ e l,a,frs,v,v',h=>by
  rw[bO]at h
  obtain⟨r,h1,h2⟩:=aG h;exact λp hp=>l_ l _ _ _ _ h2 p (bP e _ _ _ _ h1 p hp)
 | .get _ e _,a,frs,v,v',h=>by rw[bO]at h;exact bP e _ _ _ _ h
 | .atX _ e i,a,frs,v,v',h=>by
  rw[bO]at h
  obtain⟨r,h1,h2⟩:=aG h;exact λp hp=>bP i _ _ _ _ h2 p (bP e _ _ _ _ h1 p hp)
 | .obj _ l,a,frs,v,v',h=>by rw[bO]at h;exact rG l _ _ _ _ h
 | .arr _ l,a,frs,v,v',h=>by rw[bO]at h;exact l_ l _ _ _ _ h
 | .two _ _ e i,a,frs,v,v',h=>by
  rw[bO]at h
  obtain⟨r,h1,h2⟩:=aG h;exact λp hp=>bP i _ _ _ _ h2 p (bP e _ _ _ _ h1 p hp)
 | .one _ _ e,a,frs,v,v',h=>by rw[bO]at h;exact bP e _ _ _ _ h
 | .asX _ e _,a,frs,v,v',h=>by rw[bO]at h;exact bP e _ _ _ _ h
theorem l_:∀(l:List Ex)(a:Nat)(frs:List Frm)(v v':Vg),iS l a frs v=.ok v'→∀p∈v.out,p∈v'.out
 |[],a,frs,v,v',h=>by rw[iS]at h;cases h;exact λp h=>h
 |e::l,a,frs,v,v',h=>by
  rw[iS]at h
  obtain⟨r,h1,h2⟩:=aG h;exact λp hp=>l_ l _ _ _ _ h2 p (bP e _ _ _ _ h1 p hp)
theorem rG:∀(l:List (Nat×BA×Ex))(a:Nat)(frs:List Frm)(v v':Vg),jC l a frs v=.ok v'→∀p∈v.out,p∈v'.out
 |[],a,frs,v,v',h=>by rw[jC]at h;cases h;exact λp h=>h
 |(_,_,e)::l,a,frs,v,v',h=>by
  rw[jC]at h
  obtain⟨r,h1,h2⟩:=aG h;exact λp hp=>rG l _ _ _ _ h2 p (bP e _ _ _ _ h1 p hp)
theorem eY:∀(l:List Sm)(a:Nat)(fr:Frm)(frs:List Frm)(v:Vg)(r:Frm×Vg),fG l a fr frs v=.ok r→∀p∈v.out,p∈r.2.out
 |[],a,fr,frs,v,r,h=>by rw[fG]at h;cases h;exact λp h=>h
 |e::l,a,fr,frs,v,r,h=>by
  rw[fG]at h
  obtain⟨q,h1,h2⟩:=aG h;exact λp hp=>eY l _ _ _ _ _ h2 p (I3 e _ _ _ _ _ h1 p hp)
theorem I3:∀(e:Sm)(a:Nat)(fr:Frm)(frs:List Frm)(v:Vg)(r:Frm×Vg),dK e a fr frs v=.ok r→∀p∈v.out,p∈r.2.out
 | .kj p x _ e,a,fr,frs,v,r,h=>by
  rw[dK]at h
  split at h
  ·cases h
  ·split at h
   ·obtain⟨q,h1,h2⟩:=aG h;cases h2;exact λp hp=>bP e _ _ _ _ h1 p hp
   ·obtain⟨q,h1,h2⟩:=aG h;cases h2;exact λp hp=>bP e _ _ _ _ h1 p hp
 | .set p x e,a,fr,frs,v,r,h=>by
  rw[dK]at h
  obtain⟨q,h1,h2⟩:=aG h;obtain⟨q2,h3,h4⟩:=aG h2;cases h4;intro p hp;refine bP e _ _ _ _ h3 p ?_;unfold kB at h1;split at h1
  ·cases h1
  ·cases h1;simp[hp]
 | .put _ e _ w,a,fr,frs,v,r,h=>by
  rw[dK]at h
  obtain⟨q,h1,h2⟩:=aG h;obtain⟨q2,h3,h4⟩:=aG h2;cases h4;exact λp hp=>bP w _ _ _ _ h3 p (bP e _ _ _ _ h1 p hp)
 | .lay _ e i w,a,fr,frs,v,r,h=>by
  rw[dK]at h
  obtain⟨q,h1,h2⟩:=aG h;obtain⟨q2,h3,h4⟩:=aG h2;obtain⟨q3,h5,h6⟩:=aG h4;cases h6;exact λp hp=>bP w _ _ _ _ h5 p (bP i _ _ _ _ h3 p (bP e _ _ _ _ h1 p hp))
 | .print _ e,a,fr,frs,v,r,h=>by
  rw[dK]at h
  obtain⟨q,h1,h2⟩:=aG h;cases h2;exact bP e _ _ _ _ h1
 | .ret _ e,a,fr,frs,v,r,h=>by
  rw[dK]at h
  obtain⟨q,h1,h2⟩:=aG h;cases h2;exact bP e _ _ _ _ h1
 | .vW _ e,a,fr,frs,v,r,h=>by
  rw[dK]at h
  obtain⟨q,h1,h2⟩:=aG h;cases h2;exact bP e _ _ _ _ h1
 | .if_ _ e _ b none,a,fr,frs,v,r,h=>by
  rw[dK]at h
  obtain⟨q,h1,h2⟩:=aG h;obtain⟨q2,h3,h4⟩:=aG h2;cases h4;exact λp hp=>eY b _ _ _ _ _ h3 p (bP e _ _ _ _ h1 p hp)
 | .if_ _ e _ b (some (_,c)),a,fr,frs,v,r,h=>by
  rw[dK]at h
  obtain⟨q,h1,h2⟩:=aG h;obtain⟨q2,h3,h4⟩:=aG h2;obtain⟨q3,h5,h6⟩:=aG h4;cases h6;exact λp hp=>eY c _ _ _ _ _ h5 p (eY b _ _ _ _ _ h3 p (bP e _ _ _ _ h1 p hp))
 | .while_ _ e _ b,a,fr,frs,v,r,h=>by
  rw[dK]at h
  obtain⟨q,h1,h2⟩:=aG h;obtain⟨q2,h3,h4⟩:=aG h2;cases h4;exact λp hp=>eY b _ _ _ _ _ h3 p (bP e _ _ _ _ h1 p hp)
end
def vx(m:Except Ft Ck)(Q:Ck→Prop):Prop:=m≠.error stuck∧∀s',m=.ok s'→Q s'
theorem vx.and{m:Except Ft Ck}{k:Ck→Except Ft Ck}{P Q:Ck→Prop}(h:vx m P)(g:∀s,P s→vx (k s) Q):vx (aO m k) Q:=by
 cases m with
 |error f=>exact⟨λe=>h.1 e,λs' e=>by cases e⟩
 |ok s=>exact g s (h.2 s rfl)
theorem vx.mono{m:Except Ft Ck}{P Q:Ck→Prop}(h:vx m P)(g:∀s,P s→Q s):vx m Q:=⟨h.1,λs e=>g s (h.2 s e)⟩
theorem gF{p:Nat}(o:Option Tr):Ar p o≠.error stuck:=by
 cases o with
 |none=>intro e;cases e
 |some t=>intro e;cases e
theorem T0{pg:Pg}{tq:Nat→Nat}{s:Ck}{n:Nat}{x:Nd}(hk:fM s.of (c9 pg x)=true)(h5:x.kind=5→(s.has (tq n)).isSome=true)(yp:x.kind=14→0≤x.ty)(hr:1≤x.kind∧x.kind≤14):vx (yF pg tq n x s) λs'=>Step n (n+1) s s'∧(s'.of n).isSome=true:=by
 have bZ:fN pg tq s n x≠.error stuck:=by
  unfold fN;rw[if_pos hk];unfold lL;by_cases k1:x.kind=1
  ·rw[if_pos k1];intro e;cases e
  rw[if_neg k1];by_cases k2:x.kind=2
  ·rw[if_pos k2];intro e;cases e
  rw[if_neg k2];by_cases k3:x.kind=3
  ·rw[if_pos k3];intro e;cases e
  rw[if_neg k3];by_cases k4:x.kind=4
  ·rw[if_pos k4];intro e;cases e
  rw[if_neg k4];by_cases k5:x.kind=5
  ·rw[if_pos k5];have:=h5 k5;cases hh:s.has (tq n)with
   |none=>rw[hh]at this;cases this
   |some t=>intro e;cases e
  rw[if_neg k5];by_cases k6:x.kind=6
  ·rw[if_pos k6];intro e;cases e
  rw[if_neg k6];by_cases k7:x.kind=7
  ·rw[if_pos k7];exact gF _
  rw[if_neg k7];by_cases k8:x.kind=8
  ·rw[if_pos k8];exact gF _
  rw[if_neg k8];by_cases k9:x.kind=9
  ·rw[if_pos k9];exact gF _
  rw[if_neg k9];by_cases YL:x.kind=11
  ·rw[if_pos YL];intro e;cases e
  rw[if_neg YL];by_cases vD:x.kind=10
  ·rw[if_pos vD];intro e;cases e
  rw[if_neg vD];by_cases X_:x.kind=12
  ·rw[if_pos X_];exact gF _
  rw[if_neg X_];by_cases N9:x.kind=13
  ·rw[if_pos N9];exact gF _
  rw[if_neg N9];have:=yp (by omega);unfold ek;rw[if_neg (by omega)];intro e;cases e
 refine⟨?_,λs' h=>?_⟩
 ·unfold yF;cases ht:fN pg tq s n x with
  |error f=>
   intro e;rw[ht]at bZ
   exact bZ (by cases e;rfl)
  |ok t=>
   simp only[aO];split
   ·intro e;cases e
   ·intro e;cases e
 ·obtain⟨t,_,_,rfl⟩:=mL h;exact⟨Dg s n t,by show(eX s.of n t n).isSome=true;unfold eX;rw[if_pos rfl];rfl⟩
theorem gX{b:Bool}{e p:Nat}{s:Ck}(he:e≠0):im b e p s≠.error stuck:=by
 unfold im;split
 ·intro h;cases h
 ·intro h;cases h;exact he rfl
theorem DO{α:Type}{m:Except Ft α}{k:α→Except Ft Ck}(h:m≠.error stuck)(g:∀a,k a≠.error stuck):aO m k≠.error stuck:=by
 cases m with
 |error f=>exact λe=>h (by cases e;rfl)
 |ok a=>exact g a
theorem SN{pg:Pg}{tq:Nat→Nat}{bk:List (Option Tr)}{s:Ck}{n:Nat}{x:Nd}(hk:fM s.of (dx x)=true)(wX:x.kind=18→(s.has (tq n)).isSome=true):
  vx (iw pg tq bk n x s) λs'=>Step n (n+1) s s'∧(x.kind=17→(s'.has n).isSome=true):=by
 refine⟨?_,λs' h=>?_⟩
 ·unfold iw;rw[if_pos hk];unfold px;by_cases k1:x.kind=17
  ·rw[if_pos k1];exact DO (gX (by omega)) λa e=>by cases e
  rw[if_neg k1];by_cases k2:x.kind=18
  ·rw[if_pos k2];have:=wX k2;cases hh:s.has (tq n)with
   |none=>rw[hh]at this;cases this
   |some t=>exact gX (by omega)
  rw[if_neg k2];by_cases k3:x.kind=19
  ·rw[if_pos k3];exact DO (gF _) λa=>gX (by omega)
  rw[if_neg k3];by_cases k4:x.kind=20
  ·rw[if_pos k4];exact DO (gF _) λa=>gX (by omega)
  rw[if_neg k4];by_cases k5:x.kind=24
  ·rw[if_pos k5];split
   ·intro e;cases e
   ·intro e;cases e
   ·exact gX (by omega)
  rw[if_neg k5];intro e;cases e
 ·by_cases k1:x.kind=17
  ·unfold iw at h;rw[if_pos hk]at h
   unfold px at h;rw[if_pos k1]at h
   obtain⟨a,h1,h2⟩:=aG h;obtain⟨rfl,_⟩:=mj h1;cases h2;exact⟨k_ a n _,λ_=>by show(eX a.has n _ n).isSome=true;unfold eX;rw[if_pos rfl];rfl⟩
  ·rcases BU h with rfl|⟨Hw,_⟩
   ·exact⟨Step.refl _ _ _,λh=>absurd h k1⟩
   ·exact absurd Hw k1
theorem cj{ns:List Nd}{n:Nat}{x:Nd}(h:ns[n]?=some x):eW ns n=x:=by unfold eW;rw[h];rfl
theorem pC{pg:Pg}{tq:Nat→Nat}{bk:List (Option Tr)}{s:Ck}{n:Nat}{x:Nd}(hn:pg.ns[n]?=some x)(hr:1≤x.kind∧x.kind≤14)(hk:fM s.of (c9 pg x)=true)(h5:x.kind=5→(s.has (tq n)).isSome=true)(yp:x.kind=14→0≤x.ty):
  vx (jg pg tq n bk s) λs'=>Step n (n+1) s s'∧(s'.of n).isSome=true:=by
 unfold jg;rw[cj hn,if_pos hr];exact T0 hk h5 yp hr
theorem rN{pg:Pg}{tq:Nat→Nat}{bk:List (Option Tr)}{s:Ck}{n:Nat}{x:Nd}(hn:pg.ns[n]?=some x)(hr:15≤x.kind)(hk:fM s.of (dx x)=true)(wX:x.kind=18→(s.has (tq n)).isSome=true):
  vx (jg pg tq n bk s) λs'=>Step n (n+1) s s'∧(x.kind=17→(s'.has n).isSome=true):=by
 unfold jg;rw[cj hn,if_neg (by omega)];exact SN hk wX
end Ty
section
open Ty (Tr)
def ES(p:Value)(w:World)(n:Nat):Prop:=∀w1,Below w.heap.size w w1→∀R:EW,(∀w2,Below w1.heap.size w1 w2→R (.returned (.int .i64 (n:Nat))) w2)→Calls prog 161 #[p] w1 R
theorem uC(l:List Tr)(j:Nat)(h:j<l.length):bw (l.take (j+1))=bw (l.take j)+dw l[j]:=by rw[List.take_succ_eq_append_getElem h,re]
theorem qE(l:List Tr)(j:Nat):bw (l.take j)≤bw l:=by
 have:=congrArg bw (List.take_append_drop j l);rw[gH]at this
 omega
theorem AZ(w:World):∀(N:Nat)(t:Tr),sz t<N→dP t→dw t≤1000000→∀p,rep (ak.hp w) t p→ES p w (dw t):=by
 intro N;induction N with
 |zero=>intro t h;omega
 |succ N ih=>
  intro t hN aF Eg p lA w1 hw R hR;obtain⟨k,names,parts,list,of⟩:=t;obtain⟨b,pv,lv,ov,ps,ls,os,rfl,hb,c0,c1,c2,c3,Wk,Ts,jQ,bJ,uI,Aa,hv⟩:=h_ lA;replace c1:=aq hw c1;replace c2:=aq hw c2;replace c3:=aq hw c3;have Oq:b<w1.heap.size:=nL hb hw.size;have Rc:=bV jQ;have oV:=bV uI;have Ud:=bV Aa;rw[dP]at aF
  rw[dw]at Eg hR
  have HR:=qh hR;have HP:Hq (∀j(hj:j<parts.length)(eh:j<ps.length),ES ps[j] w (dw parts[j])):=λj hj eh=>
   ih parts[j] (by have:=pX (gM hj) k names list of;omega) (eS aF.2.2.2.2.2.2.2.1 _ (gM hj)) (by have:=nD (gM hj);omega) ps[j] (cS jQ j hj eh)
  have HL:Hq (∀j(hj:j<list.length)(eh:j<ls.length),ES ls[j] w (dw list[j])):=λj hj eh=>
   ih list[j] (by have:=qz (gM hj) k names parts of;omega) (eS aF.2.2.2.2.2.2.2.2.1 _ (gM hj)) (by have:=nD (gM hj);omega) ls[j] (cS uI j hj eh)
  have HO:Hq (∀j(hj:j<of.length)(eh:j<os.length),ES os[j] w (dw of[j])):=λj hj eh=>
   ih of[j] (by have:=uJ (gM hj);rw[sz]at hN;omega) (eS aF.2.2.2.2.2.2.2.2.2 _ (gM hj)) (by have:=nD (gM hj);omega) os[j] (cS Aa j hj eh)
  have v7:=aF.2.2.2.2.2.2.1.1;have H':=aF.2.2.2.2.2.2.1.2;have aa4:ps.length≤1000000:=by omega
  have ZT:ls.length≤1000000:=by omega
  have UZ:=qh Aa;have sJ:Hq (∀j(hj:j<ps.length),∃pb,ps[j]=.pointer (some ⟨pb,0,none⟩)):=λj hj=>aP (cS jQ j (by omega) hj)
  have UF:=qh (az Wk hw);have U_:=qh (az bJ hw);obtain⟨pa,pc,rfl⟩:=ag Wk;obtain⟨la,lc,rfl⟩:=ag bJ;have Yb:=qh Ts;have HW:=qh hw;have OB:=qh Rc;have Ly:=qh oV;clear hR hN ih aF lA Wk bJ jQ uI Aa Ts hw Rc oV c0 hb;go_enter func161,ntmps161;go_wp2_with fail;go_loopw [3,13] (λv i wr=>∃j:Nat,j≤ps.length∧i=.int .i64 j∧v=.int .i64 ((bw (parts.take j)+1:Nat):Int)∧Hq (Below w1.heap.size w1 wr)) (λ_ i _=>ps.length-(intOf i).toNat)
  case atStart=>exact⟨0,by omega,rfl,by simp[bw],bR _ _⟩
  case round=>
   obtain⟨j,hj,rfl,rfl,hB⟩:=hrel;by_cases bm:j<ps.length
   ·obtain⟨gl,j9,e,mW,d0,d1⟩:=tS (az UF.o hB.out) Yb.o j bm;cases e;have eh:j<parts.length:=by have:=OB.o;omega
    have g_:=uC parts j eh;have hle:=qE parts (j+1);have Et:Below w1.heap.size w1 (wr.alloc (.cells #[.string (names[j]'(by have:=Yb.o;omega)),ps[j]] 221)):=hB.out.alloc hB.out.size _;have HI:=qh (HP.o j eh bm _ (HW.o.trans (Et.mono HW.o.size)));have c8:=qh Et;have DE:=qh g_;obtain⟨pb,jS⟩:=sJ.o j bm;generalize bw (parts.take j)=ta at*
    generalize parts[j]=tj at*
    generalize ps[j]=pj at*
    generalize names[j]'_=nj at*
    subst jS;clear eh Et;have qM:ta+dw tj≤1000000:=by omega
    clear g_ hle;generalize dw tj=tb at*
    go_wp2_with fail;refine HI.o _ (λw3 dD=>?_);have cU:=qh (c8.o.trans (dD.mono c8.o.size));clear dD;go_wp2_with fail;go_roundw
    case rel=>exact⟨j+1,by omega,by go_num,by rw[DE.o];go_num,cU⟩
    case measure=>simp[intOf];omega
   ·have ju:j=parts.length:=by have:=OB.o;omega
    have adp:=aq hB.out c2;have ZJ:=aq hB.out c3;have YU:=qh ZJ;rw[show bw (parts.take j)=bw parts by rw[ju,List.take_length]];clear ju;have hq:bw parts+bw list+bw of+1≤1000000:=by omega
    go_wp2_with fail;go_loopw [3,28] (λv i wx=>∃j:Nat,j≤ls.length∧i=.int .i64 j∧v=.int .i64 ((bw parts+bw (list.take j)+1:Nat):Int)∧Hq (Below w1.heap.size w1 wx)) (λ_ i _=>ls.length-(intOf i).toNat)
    case atStart=>exact⟨0,by omega,rfl,by simp[bw],hB⟩
    case round=>
     obtain⟨j,hj,rfl,rfl,hB⟩:=hrel;by_cases bm:j<ls.length
     ·obtain⟨gl,j9,e,mW,d0⟩:=fD (az U_.o hB.out) j bm;cases e;have eh:j<list.length:=by have:=Ly.o;omega
      have g_:=uC list j eh;have hle:=qE list (j+1);have HI:=qh (HL.o j eh bm _ (HW.o.trans (hB.out.mono HW.o.size)));have DE:=qh g_;generalize bw (list.take j)=ta at*
      generalize list[j]=tj at*
      generalize ls[j]=pj at*
      clear eh;have qM:bw parts+ta+dw tj+1≤1000000:=by omega
      clear g_ hle;generalize dw tj=tb at*
      generalize bw parts=tp at*
      go_wp2_with fail;refine HI.o _ (λw3 dD=>?_);have cU:=qh (hB.out.trans (dD.mono hB.out.size));clear dD;go_wp2_with fail;go_roundw
      case rel=>exact⟨j+1,by omega,by go_num,by rw[DE.o];go_num,cU⟩
      case measure=>simp[intOf];omega
     ·have ju:j=list.length:=by have:=Ly.o;omega
      have adz:=aq hB.out c3;rw[show bw (list.take j)=bw list by rw[ju,List.take_length]];clear ju;have ZW:=qh (HW.o.trans (hB.out.mono HW.o.size))
      match of,os,Ud,HO,UZ,hv with
      |[],[],_,HO,UZ,hv=>
       have OO:ov=.pointer none:=by rcases hv with h|h;exact h.2;cases h
       subst OO;have HG:=qh (HR.o _ hB.out);simp only[bw,Nat.add_zero]at HG hq;generalize bw parts=tp at*
       generalize bw list=tl at*
       go_wp2_with fail;exact HG.o
      |[o],[op],_,HO,UZ,hv=>
       have OO:ov=op:=by rcases hv with h|h;cases h.1;cases h;rfl
       subst OO;have Lj:=UZ.o;rw[bz]at Lj
       obtain⟨p1,Tw,e1,m_,_⟩:=Lj;cases e1;obtain⟨bo,rfl⟩:=aP m_;have HI:=qh (HO.o 0 (by simp) (by simp) _ ZW.o);have HG:=qh (λw3(h:Below w1.heap.size w1 w3)=>HR.o _ h);simp only[bw,Nat.add_zero]at HG hq;simp only[List.getElem_cons_zero]at HI;generalize bw parts=tp at*
       generalize bw list=tl at*
       generalize dw o=tb at*
       clear m_;go_wp2_with fail;refine HI.o _ (λw3 dD=>?_);have El:=qh (HG.o w3 (hB.out.trans (dD.mono hB.out.size)));have he: ((tp+tl+1:Nat):Int)+(tb:Int)=((tp+tl+tb+1:Nat):Int):=by omega
       clear dD;go_wp2_with fail;exact jd El.o (by simp;omega)
end
section
open Ty (Tr Ck aO)
section
variable {w:World} {a b fn ps:Nat} {c ty:Int} {l:List Nat} {tx:BA} {lv:Value}
theorem Gg{R:EW}(hR:∀v w',Sat w w' [bE w,jM ⟨5,a,b,c,l,tx,fn,ty,ps⟩ lv v []]→R (.returned v) w'):
  Calls prog 157 #[aK ⟨5,a,b,c,l,tx,fn,ty,ps⟩ lv] w R:=by
 have h1:=(((Sat.fw w).aU (aD ⟨5,a,b,c,l,tx,fn,ty,ps⟩ lv)).nil 3 1).cG (i:=1) rfl (Q:=jM ⟨5,a,b,c,l,tx,fn,ty,ps⟩ lv (.slice none 0 0) []) (λ_ h=>.inr h);have HR:=qh (hR _ _ h1);clear hR h1;dsimp only[aK]at*
 go_in;go_wp2_with fail;exact HR.o
theorem Dp{R:EW}(hR:∀v w',Sat w w' [bE w,jM ⟨18,a,b,c,l,tx,fn,ty,ps⟩ lv v [a]]→R (.returned v) w'):
  Calls prog 157 #[aK ⟨18,a,b,c,l,tx,fn,ty,ps⟩ lv] w R:=by
 have h1:=(((Sat.fw w).aU (aD ⟨18,a,b,c,l,tx,fn,ty,ps⟩ lv)).aj (.cells #[.int .i64 a] 3) (w.heap.size+1)).cG (i:=1) rfl (Q:=jM ⟨18,a,b,c,l,tx,fn,ty,ps⟩ lv (.slice (some ⟨w.heap.size+1,0,none⟩) 1 1) [a]) (λ_ h=>.inr (ch h rfl (by simp[maxLen]) (by simp[aS])));have HR:=qh (hR _ _ h1);clear hR h1;dsimp only[aK]at*
 go_in;go_wp2_with fail;exact HR.o
end
theorem nF{w:World}{nd:Ty.Nd}{lv:Value}(hk:nd.kind≠6∧nd.kind≠16∧nd.kind≠17∧nd.kind≠22∧nd.kind≠26)(h1:1≤nd.kind∧nd.kind≤26)(hc:nd.kind=20→0≤nd.c)(hl:w.ownsRow 0 3 1 lv nd.list.length (nd.list.map aS))(BE:nd.list.length≤1000000){R:EW}
  (hR:∀v w',Sat w w' [bE w,jM nd lv v (aC nd)]→R (.returned v) w'):Calls prog 157 #[aK nd lv] w R:=by
 by_cases h5:nd.kind=5
 ·obtain⟨kd,a,b,c,l,tx,fn,ty,ps⟩:=nd;dsimp only at h5;subst h5;exact Gg hR
 by_cases wX:nd.kind=18
 ·obtain⟨kd,a,b,c,l,tx,fn,ty,ps⟩:=nd;dsimp only at wX;subst wX;exact Dp hR
 exact se ⟨h5,hk.1,hk.2.1,hk.2.2.1,wX,hk.2.2.2.1,hk.2.2.2.2⟩ h1 hc hl BE hR
def lj(F G:fP):fP:=λbk s=>aO (F bk s) (G bk)
def oy(wB:World)(X:Cx)(cb:Nat)(ids:List Nat)(cs:List (Nat×fP)):Prop:=ids.length=cs.length∧∀j(h1:j<ids.length)(h2:j<cs.length),pe wB X cb ids[j] cs[j].1 cs[j].2
theorem OG{pg:Ty.Pg}{tf:Nat→Nat}{id:Nat}{nd:Ty.Nd}(hn:pg.ns[id]?=some nd)(hk:1≤nd.kind∧nd.kind≤14)(bk:List (Option Tr))(s:Ck):jg pg tf id bk s=yF pg tf id nd s:=by
 unfold jg;rw[cj hn,if_pos hk]
theorem si{pg:Ty.Pg}{tf:Nat→Nat}{id:Nat}{nd:Ty.Nd}(hn:pg.ns[id]?=some nd)(hk:15≤nd.kind)(bk:List (Option Tr))(s:Ck):jg pg tf id bk s=iw pg tf bk id nd s:=by
 unfold jg;rw[cj hn,if_neg (by omega)]
theorem Kk{pg:Ty.Pg}{tf:Nat→Nat}{id:Nat}{nd:Ty.Nd}{s:Ck}(h:yF pg tf id nd s≠.error Ty.stuck):fN pg tf s id nd≠.error Ty.stuck:=λe=>h (by unfold yF;rw[e];rfl)
theorem mL{pg:Ty.Pg}{tf:Nat→Nat}{id:Nat}{nd:Ty.Nd}{s:Ck}{t:Tr}(h:fN pg tf s id nd=.ok t)(hc:dw t≤300):yF pg tf id nd s=.ok {s with of:=eX s.of id t}:=by unfold yF;rw[h];exact if_pos hc
theorem Ia{pg:Ty.Pg}{tf:Nat→Nat}{id:Nat}{nd:Ty.Nd}{s:Ck}{t:Tr}(h:fN pg tf s id nd=.ok t)(hc:¬dw t≤300):yF pg tf id nd s=.error (2,nd.pos):=by unfold yF;rw[h];exact if_neg hc
theorem EC{pg:Ty.Pg}{tf:Nat→Nat}{id:Nat}{nd:Ty.Nd}{s:Ck}{f:Ty.Ft}(h:fN pg tf s id nd=.error f):yF pg tf id nd s=.error f:=by unfold yF;rw[h];rfl
theorem jn{F G:fP}{bk:List (Option Tr)}{s:Ck}(h:lj F G bk s≠.error Ty.stuck):F bk s≠.error Ty.stuck∧∀s1,F bk s=.ok s1→G bk s1≠.error Ty.stuck:=
 ⟨λe=>h (by unfold lj;rw[e];rfl),λs1 e e2=>h (by unfold lj;rw[e];exact e2)⟩
theorem dZ{F G:fP}{bk:List (Option Tr)}{s s1:Ck}(h:F bk s=.ok s1):lj F G bk s=G bk s1:=by unfold lj;rw[h];rfl
theorem gw{F G:fP}{bk:List (Option Tr)}{s:Ck}{f:Ty.Ft}(h:F bk s=.error f):lj F G bk s=.error f:=by unfold lj;rw[h];rfl
end
section
open Go
open Ty (Ex Sm Par dp kP jW je gR qx ax eT fQ aL db fJ ff dX eU af)
namespace Ty
theorem KE{ns:List Nd}(e:Ex)(a:Nat)(h:dp ns e a):∃nb,ns[a+ax e-1]?=some nb∧nb.a≤a+ax e:=by
 cases e<;>rw[dp]at h<;>rw[ax]
 case fn p ps ty bp body=>exact⟨_,by rw[←h.2.2.2];congr 1;omega,by show _≤_;simp only[af];omega⟩
 case call p e l=>exact⟨_,by rw[←h.2.2];congr 1<;>omega,by simp only[af];omega⟩
 case get p e x=>exact⟨_,by rw[←h.2];congr 1<;>omega,by simp only[af];omega⟩
 case obj p l=>exact⟨_,by rw[←h.2];congr 1<;>omega,by simp only[af];omega⟩
 case arr p l=>exact⟨_,by rw[←h.2];congr 1<;>omega,by simp only[af];omega⟩
 case two p x e i=>exact⟨_,by rw[←h.2.2];congr 1<;>omega,by simp only[af];omega⟩
 case one p x e=>exact⟨_,by rw[←h.2];congr 1<;>omega,by simp only[af];omega⟩
 all_goals first|exact⟨_,by rw[←h];congr 1,by simp only[af];omega⟩|exact⟨_,by rw[←h.2.2];congr 1<;>omega,by simp only[af];omega⟩|exact⟨_,by rw[←h.2];congr 1<;>omega,by simp only[af];omega⟩
theorem Kr{ns:List Nd}(e:Sm)(a:Nat)(h:gR ns e a):∃nb,ns[a+db e-1]?=some nb∧nb.a≤a+db e:=by
 cases e
 case if_ p e bp b c=>
  rcases c with _|⟨cp,c⟩
  ·rw[gR]at h;rw[db];exact⟨_,by rw[←h.2.2.2];congr 1<;>omega,by dsimp only;omega⟩
  ·rw[gR]at h;rw[db];exact⟨_,by rw[←h.2.2.2.2.2];congr 1<;>omega,by dsimp only;omega⟩
 case while_ p e bp b=>rw[gR]at h;rw[db];exact⟨_,by rw[←h.2.2.2];congr 1<;>omega,by dsimp only;omega⟩
 case lay p e i v=>rw[gR]at h;rw[db];exact⟨_,by rw[←h.2.2.2];congr 1<;>omega,by dsimp only;omega⟩
 case put p e x v=>rw[gR]at h;rw[db];exact⟨_,by rw[←h.2.2];congr 1<;>omega,by dsimp only;omega⟩
 all_goals rw[gR]at h;rw[db];exact⟨_,by rw[←h.2];congr 1<;>omega,by dsimp only;omega⟩
theorem Zi{ns:List Nd}:∀(l:List Ex)(a:Nat),kP ns l a→∀n∈fJ l a,∃q,ns[n]?=some q∧q.a≤a+eT l
 |[],_,_,n,h=>by simp[fJ]at h
 |e::l,a,h,n,hn=>by
  rw[kP]at h
  rw[fJ]at hn
  rw[eT];rcases List.mem_cons.1 hn with rfl|hn
  ·obtain⟨q,h1,h2⟩:=KE e a h.1;exact⟨q,h1,by omega⟩
  ·obtain⟨q,h1,h2⟩:=Zi l _ h.2 n hn;exact⟨q,h1,by omega⟩
theorem VD{ns:List Nd}:∀(l:List (Nat×BA×Ex))(a:Nat),jW ns l a→∀n∈ff l a,∃q,ns[n]?=some q∧q.a≤a+fQ l∧q.kind=15
 |[],_,_,n,h=>by simp[ff]at h
 |(p,x,e)::l,a,h,n,hn=>by
  rw[jW]at h
  rw[ff]at hn
  rw[fQ];rcases List.mem_cons.1 hn with rfl|hn
  ·exact⟨_,h.2.1,by dsimp only;omega,rfl⟩
  ·obtain⟨q,h1,h2,h3⟩:=VD l _ h.2.2 n hn;exact⟨q,h1,by omega,h3⟩
theorem Zw{ns:List Nd}:∀(l:List Sm)(a:Nat),je ns l a→∀n∈dX l a,∃q,ns[n]?=some q∧q.a≤a+aL l
 |[],_,_,n,h=>by simp[dX]at h
 |e::l,a,h,n,hn=>by
  rw[je]at h
  rw[dX]at hn
  rw[aL];rcases List.mem_cons.1 hn with rfl|hn
  ·obtain⟨q,h1,h2⟩:=Kr e a h.1;exact⟨q,h1,by omega⟩
  ·obtain⟨q,h1,h2⟩:=Zw l _ h.2 n hn;exact⟨q,h1,by omega⟩
theorem Zp{ns:List Nd}:∀(l:List Par)(a:Nat),qx ns l a→∀n∈eU l a,∃q,ns[n]?=some q∧q.a≤0
 |[],_,_,n,h=>by simp[eU]at h
 |e::l,a,h,n,hn=>by
  rw[qx]at h
  rw[eU]at hn
  rcases List.mem_cons.1 hn with rfl|hn
  ·exact⟨_,h.1,by simp only[af];omega⟩
  ·exact Zp l _ h.2 n hn
theorem dA{ns:List Nd}{n:Nat}{q:Nd}(h:ns[n]?=some q):n<ns.length:=by
 rcases Nat.lt_or_ge n ns.length with h1|h1
 ·exact h1
 ·rw[List.getElem?_eq_none h1]at h;cases h
end Ty
theorem zu{pg:Ty.Pg}(hP:PgOk pg){id:Nat}{nd:Ty.Nd}(hn:pg.ns[id]?=some nd)(ha:nd.a≤id)(hb:nd.b≤id)(hl:nd.list.length≤id)(hq:∀n∈nd.list,∃q,pg.ns[n]?=some q∧q.a≤id):NdW pg nd:=by
 have h1:=dA hn;have h2:=hP.kO;exact{a:=by omega,b:=by omega,l:=λn h=>by obtain⟨q,e,_⟩:=hq n h;have:=dA e;omega,ps:=λi h=>by obtain⟨q,e,_⟩:=hq _ (gM h);exact⟨q,e⟩,pa:=λn h q e=>by obtain⟨q2,e2,h3⟩:=hq n h;rw[e]at e2;cases e2;omega,len:=by omega,ty:=(hP.ns nd (List.mem_of_getElem? hn)).ty}
theorem B_{pg:Ty.Pg}(hP:PgOk pg){id:Nat}{nd:Ty.Nd}(hn:pg.ns[id]?=some nd)(hl:nd.list.length≤id)(ho:nd.kind=10→∀p∈nd.list,(eW pg.ns p).kind=15):NdIn pg nd:=by
 have h1:=dA hn;have h2:=hP.kO;have h3:=hP.ns nd (List.mem_of_getElem? hn);exact⟨h3.ty,by omega,ho,h3.Ni⟩
end
section
open Ty (Tr Ck aO)
section
variable {wB:World} {cb:Nat} {X:Cx} {pg:Ty.Pg}
theorem CL(hP:PB wB X.nv X.tv pg){id:Nat}{nd:Ty.Nd}(hn:pg.ns[id]?=some nd)(Fw:1≤nd.kind∧nd.kind≤14)(h6:nd.kind≠6)(hI:NdW pg nd)(hIn:NdIn pg nd)(hi:id≤100000){cs:List (Nat×fP)}(hC:oy wB X cb (aC nd) cs):pe wB X cb id (cB cs+1) (lj (fB (cs.map Prod.snd)) (jg pg X.a_ id)):=by
 intro bk s c w Fr hF H hc bZ R aF av;have HV:=qh (OG (tf:=X.a_) hn Fw bk);have j7:=qh (jn bZ);have oV:=hI.len;have Rg: (aC nd).length≤900003:=by have:=lf nd;omega
 have k6: ((nd.kind:Int)==6)=false:=beq_eq_false_iff_ne.2 (by omega);have YD: ((nd.kind:Int)==17)=false:=beq_eq_false_iff_ne.2 (by omega);have TV: ((nd.kind:Int)==22)=false:=beq_eq_false_iff_ne.2 (by omega);have Q7: ((nd.kind:Int)==26)=false:=beq_eq_false_iff_ne.2 (by omega);clear bZ;have aY:=qh aF;have aB:=qh av;have HF:=qh hF;have HP:=qh hP;have jJ:=qh hn;have HI:=qh hI;have Lr:=qh hIn;have H1:=qh H;obtain⟨_,_,_,_,_,_,_,_,_,_,g1⟩:=H.eV;have eE:=qh (λR=>aR (R:=R) hP (hF _ _ 0 g1 rfl) hn (g1.cell 1 rfl 0 rfl) (g1.lt 1 rfl));clear aF av hF hP hn hI hIn H g1;go_enter func93,ntmps93;go_wp2_with fail;refine eE.o _ (λlv w2 aI cI=>?_);obtain⟨la,lc,rfl⟩:=ag cI;unfold aK;have h3:=(H1.o.below aI).aj (aD nd (.slice la nd.list.length lc)) w2.heap.size;have x0:=h3.cell 2 rfl 0 rfl;have H4:=qh ((Sat.pack (L:=[_]) (M:=[Fr,ay w2.heap.size (aD nd (.slice la nd.list.length lc))]) (h3.pick [1,0,2])).pick [1,0]);have dq:=qh (HF.o.ah (M:=[ay w2.heap.size (aD nd (.slice la nd.list.length lc))]));have j4:=qh cI;clear h3 aI cI H1 eE;go_wp2_with fail;have oH:=qh (λ(w3:World)(dD:Below wB.heap.size wB w3) R hR=>nF (w:=w3) (nd:=nd) (lv:=.slice la nd.list.length lc) (R:=R) ⟨h6,by omega,by omega,by omega,by omega⟩ (by omega) (by omega) (az j4.o dD) (by omega) hR);refine oH.o _ (dq.o _ _ 0 H4.o rfl) _ (λv3 w3 h3=>?_);have h5:=H4.o.join h3;have bJ:=kY h5 2 rfl (az j4.o (dq.o w3 _ 0 h5 rfl));obtain⟨va,vc,rfl⟩:=ag bJ;have H5:=qh ((Sat.pack (L:=[_]) (M:=[ah [Fr,ay w2.heap.size (aD nd (.slice la nd.list.length lc))],jM nd (.slice la nd.list.length lc) (.slice va (aC nd).length vc) (aC nd)]) (h5.pick [1,0,2])).pick [1,0]);clear h3 h5 bJ;go_wp2_with fail;refine mq dq.o.ah hC.1 hC.2 (λw1 L i hs hi=>?_) (by omega) H5.o (by omega) j7.o.1 (λs1 w8 hq h8=>?_) (λf w8 hq h8=>⟨rfl,aB.o f w8 (gw hq) (((h8.unpack (i:=0) rfl).pick [0]).unpack (i:=0) rfl|>.pick [0])⟩)
 ·have h1:=hs.unpack hi;exact kY h1 ((L.eraseIdx i).length+1) (by rw[List.getElem?_append_right (by omega),show(L.eraseIdx i).length+1-(L.eraseIdx i).length=1 by omega];rfl) (az j4.o (dq.o w1 _ (L.eraseIdx i).length h1 (by rw[List.getElem?_append_right (by omega),Nat.sub_self];rfl)))
 have H9:=qh (((h8.unpack (i:=0) rfl).pick [1,0]));have HQ:=qh hq;clear hq h8 H5 oH;have H5:=H9;clear H9;have vK:=qh (λs' w'(h:yF pg X.a_ id nd s1=.ok s')(g:Sat wB w' [Fr,mr cb X (c+(cB cs)+1) s' bk])=>aY.o s' w' (by rw[dZ HQ.o,HV.o];exact h) (by rw[←Nat.add_assoc];exact g));have eH:=qh (λf w'(h:yF pg X.a_ id nd s1=.error f)=>aB.o f w' (by rw[dZ HQ.o,HV.o];exact h));have vh:=qh (Kk (by rw[←HV.o];exact j7.o.2 s1 HQ.o));clear aY aB HQ j7 HV;obtain⟨ofb,hasb,bkv,no,nh,fo,fh,bl,h0,j5,g1⟩:=H5.o.eV;have g3:=(g1.unpack (i:=0) rfl).pick [6,0,1,2,3,4,5,7];have x0:=g3.cell 7 rfl 0 rfl;have hS:w8.drew.cell? ⟨cb,5,none⟩=some (.map (some ofb)):=g3.cell 1 rfl 5 rfl;have Mt:=g3.lt 1 rfl;have sL:no<maxLen:=by have:=j5.no;unfold maxLen;omega
 have Ei:=zl id hi;have vO:=qh (λR=>vv (R:=R) HP.o (HF.o _ _ 0 g3.drew rfl) jJ.o Fw ((g3.drew.pick [0,1,2,3,4,5,6]).MS j5) HI.o hi vh.o);have sV:=qh (λt(e:fN pg X.a_ s1 id nd=.ok t)=>EU HP.o.ok j5.fK Lr.o e);have H3:=qh g3;have sh:=qh j5;clear g1 g3 j5 H5;go_wp2_with fail;refine fS (b:=true) (decide_eq_true Fw) ?_;go_wp2_with fail;cases hx:fN pg X.a_ s1 id nd with
 |error f=>
  have HG:=qh (λw'=>eH.o f w' (EC hx));have b_:=qh (λ(R:EW)(h0:∀(q:Value)(w':World),true=false→R (.returned q) w')(h:∀w',Below w8.drew.heap.size w8.drew w'→R (.panicked (aJ f)) w')=>vO.o R (λt q w' e _=>by rw[hx]at e;cases e) (λf' w' e hb=>by rw[hx]at e;cases e;exact h w' hb));clear hx vO sV vK eH
  go_region_held (λw'=>w'.cell? ⟨cb,5,none⟩=some (.map (some ofb))) (first|exact hS|exact absurd fV (by decide))
   ((go_at_call 159;refine b_.o _ (λq w9 fV=>?_) (λw9 Vn=>⟨rfl,HG.o w9 ((H3.o.drew.below Vn).pick [0])⟩);have W6: (Instr.mapUpdate 103 (.map (some ofb)) (.int .i64 (id:Nat)) q).run prog w9=.ok () w9:=absurd fV (by decide)))
  all_goals exact absurd fV (by decide)
 |ok t=>
  have wU:=sV.o t hx;have HG:=qh (λw'(h:dw t≤300)=>vK.o _ w' (mL hx h));have El:=qh (λw'(h:¬dw t≤300)=>eH.o _ w' (Ia hx h));have b_:=qh (λ(R:EW)(h:∀q w',Sat w8.drew w' [bE w8.drew,de h0 t q]→R (.returned q) w')=>vO.o R (λt' q w' e h2=>by rw[hx]at e;cases e;exact h q w' h2) (λf' w' e=>by rw[hx]at e;cases e));clear hx vO sV vK eH;go_region_held3(λw'=>w'.cell? ⟨cb,5,none⟩=some (.map (some ofb))) (first|exact hS|exact ze|exact py)
   ((go_at_call 159;refine b_.o _ (λq w9 h9=>?_);obtain⟨h1,hle,m_,g5⟩:=Sat.AG (L:=[Fr,ay cb (N1 X ofb hasb bkv),mapA 3 3 X.sO X.nt (cH X.wi),jz 3 ofb no (f_ fo),jz 3 hasb nh (f_ fh),ak.row 107 1 bkv bl.length bl,ay w2.heap.size (aD nd (.slice la nd.list.length lc))]) (t:=t) (p:=q) ((H3.o.drew.join h9).pick [0,1,2,3,4,5,7,6,8]);obtain⟨b6,rfl⟩:=aP m_;obtain⟨D,hD,mF⟩:=g5.fT 3 rfl;obtain⟨w6,sg,eD,dh⟩:=hD.update dn underlying103 sL (Maps.keyOf_int_mk underlying3 Ei) (val:=.pointer (some ⟨b6,0,none⟩)) (d:=.held (.pointer (some ⟨b6,0,none⟩))) (ps:=[]) rfl;have g8:=g5.jI 3 rfl dh eD (Ψ:=f_ (λk=>if k=id then some (.pointer (some ⟨b6,0,none⟩))else fo k)) (jx mF id _);have ze:w9.cell? ⟨cb,5,none⟩=some (.map (some ofb)):=g5.cell 1 rfl 5 rfl;have py:w6.cell? ⟨cb,5,none⟩=some (.map (some ofb)):=g8.cell 1 rfl 5 rfl;have yT:=qh m_;have H8:=qh g8;have LX:=qh (sh.o.up hle);clear h9 hle m_ g5 hD mF eD dh g8))
  all_goals
   obtain⟨D7,k2,k3⟩:=H8.o.fT 3 rfl;have bD: (Instr.lookup 103 (.map (some ofb)) (.int .i64 (id:Nat)) false).run prog w6=.ok (.pointer (some ⟨b6,0,none⟩)) w6:=by rw[j_ k2 k3 hi,if_pos rfl];rfl
   have Lz:=qh (AZ w6 _ t (Nat.lt_succ_self _) wU.1.ok (by have:=wU.2;omega) _ (H8.o.get (i:=7) rfl λa ha hl=>bL (ak.le_trans ha hl) _ _ yT.o) w6 (bR _ _));obtain⟨b3,dD⟩:∃b3,decide (((dw t:Nat):Int)≤300)=b3:=⟨_,rfl⟩
   have cU:=qh dD;clear k2 k3;go_wp2_with fail;refine Lz.o _ (λvQ ym=>?_);have g10:=H8.o.below ym;have sr:=qh g10;have Ju:=qh (λR b h1 h2=>eL (R:=R) (b:=b) (e:=2) HP.o (HF.o _ _ 0 g10 rfl) jJ.o (g10.cell 1 rfl 0 rfl) (g10.lt 1 rfl) h1 h2);clear ym g10;go_wp2_with fail;refine Ju.o _ b3 (λhb=>?_) (λhb UH PS=>?_)
   ·have ux:dw t≤300:=by have:=of_decide_eq_true (cU.o.trans hb);omega
    have HE:=qh (HG.o vQ ux ((sr.o.pick [0,1,2,3,4,5,7]).jN (LX.o.OQ id yT.o ⟨wU.1,ux⟩)));clear hb ux;go_wp2_with fail;go_end0;exact HE.o
   ·have ux:¬dw t≤300:=by have:=of_decide_eq_false (cU.o.trans hb);omega
    exact⟨rfl,El.o UH ux ((sr.o.below PS).pick [0])⟩
end
section
variable {wB:World} {cb:Nat} {X:Cx} {pg:Ty.Pg}
theorem DG(hP:PB wB X.nv X.tv pg){id:Nat}{nd:Ty.Nd}(hn:pg.ns[id]?=some nd)(mo:15≤nd.kind)(MP:nd.kind≠16∧nd.kind≠17∧nd.kind≠22∧nd.kind≠26∧nd.kind≤26)(nY:nd.kind=20→0≤nd.c∧nd.c≤100000)(hI:NdW pg nd)(hIn:NdIn pg nd)(hi:id≤100000){cs:List (Nat×fP)}(hC:oy wB X cb (aC nd) cs):pe wB X cb id (cB cs+1) (lj (fB (cs.map Prod.snd)) (jg pg X.a_ id)):=by
 intro bk s c w Fr hF H hc bZ R aF av;have HV:=qh (si (tf:=X.a_) hn mo bk);have j7:=qh (jn bZ);have oV:=hI.len;have Rg: (aC nd).length≤900003:=by have:=lf nd;omega
 have k6: ((nd.kind:Int)==6)=false:=beq_eq_false_iff_ne.2 (by omega);have YD: ((nd.kind:Int)==17)=false:=beq_eq_false_iff_ne.2 (by omega);have TV: ((nd.kind:Int)==22)=false:=beq_eq_false_iff_ne.2 (by omega);have Q7: ((nd.kind:Int)==26)=false:=beq_eq_false_iff_ne.2 (by omega);clear bZ;have aY:=qh aF;have aB:=qh av;have HF:=qh hF;have HP:=qh hP;have jJ:=qh hn;have HI:=qh hI;have Lr:=qh hIn;have H1:=qh H;obtain⟨_,_,_,_,_,_,_,_,_,_,g1⟩:=H.eV;have eE:=qh (λR=>aR (R:=R) hP (hF _ _ 0 g1 rfl) hn (g1.cell 1 rfl 0 rfl) (g1.lt 1 rfl));clear aF av hF hP hn hI hIn H g1;go_enter func93,ntmps93;go_wp2_with fail;refine eE.o _ (λlv w2 aI cI=>?_);obtain⟨la,lc,rfl⟩:=ag cI;unfold aK;have h3:=(H1.o.below aI).aj (aD nd (.slice la nd.list.length lc)) w2.heap.size;have x0:=h3.cell 2 rfl 0 rfl;have H4:=qh ((Sat.pack (L:=[_]) (M:=[Fr,ay w2.heap.size (aD nd (.slice la nd.list.length lc))]) (h3.pick [1,0,2])).pick [1,0]);have dq:=qh (HF.o.ah (M:=[ay w2.heap.size (aD nd (.slice la nd.list.length lc))]));have j4:=qh cI;clear h3 aI cI H1 eE;go_wp2_with fail;have oH:=qh (λ(w3:World)(dD:Below wB.heap.size wB w3) R hR=>nF (w:=w3) (nd:=nd) (lv:=.slice la nd.list.length lc) (R:=R) ⟨by omega,MP.1,MP.2.1,MP.2.2.1,MP.2.2.2.1⟩ (by omega) (λh=>(nY h).1) (az j4.o dD) (by omega) hR);refine oH.o _ (dq.o _ _ 0 H4.o rfl) _ (λv3 w3 h3=>?_);have h5:=H4.o.join h3;have bJ:=kY h5 2 rfl (az j4.o (dq.o w3 _ 0 h5 rfl));obtain⟨va,vc,rfl⟩:=ag bJ;have H5:=qh ((Sat.pack (L:=[_]) (M:=[ah [Fr,ay w2.heap.size (aD nd (.slice la nd.list.length lc))],jM nd (.slice la nd.list.length lc) (.slice va (aC nd).length vc) (aC nd)]) (h5.pick [1,0,2])).pick [1,0]);clear h3 h5 bJ;go_wp2_with fail;refine mq dq.o.ah hC.1 hC.2 (λw1 L i hs hi=>?_) (by omega) H5.o (by omega) j7.o.1 (λs1 w8 hq h8=>?_) (λf w8 hq h8=>⟨rfl,aB.o f w8 (gw hq) (((h8.unpack (i:=0) rfl).pick [0]).unpack (i:=0) rfl|>.pick [0])⟩)
 ·have h1:=hs.unpack hi;exact kY h1 ((L.eraseIdx i).length+1) (by rw[List.getElem?_append_right (by omega),show(L.eraseIdx i).length+1-(L.eraseIdx i).length=1 by omega];rfl) (az j4.o (dq.o w1 _ (L.eraseIdx i).length h1 (by rw[List.getElem?_append_right (by omega),Nat.sub_self];rfl)))
 have H9:=qh (((h8.unpack (i:=0) rfl).pick [1,0]));have HQ:=qh hq;clear hq h8 H5 oH;have H5:=H9;clear H9;have vK:=qh (λs' w'(h:iw pg X.a_ bk id nd s1=.ok s')(g:Sat wB w' [Fr,mr cb X (c+(cB cs)+1) s' bk])=>aY.o s' w' (by rw[dZ HQ.o,HV.o];exact h) (by rw[←Nat.add_assoc];exact g));have eH:=qh (λf w'(h:iw pg X.a_ bk id nd s1=.error f)=>aB.o f w' (by rw[dZ HQ.o,HV.o];exact h));have vh:=qh (by have:=j7.o.2 s1 HQ.o;rw[HV.o]at this;exact this);clear aY aB HQ j7 HV;have x0:=(H5.o.unpack (i:=0) rfl).cell 2 rfl 0 rfl;go_wp2_with fail;refine fS (b:=false) (decide_eq_false (by omega)) ?_;go_wp2_with fail;refine iU HP.o dq.o jJ.o mo H5.o (by omega) HI.o hi nY vh.o (λs2 w9 e h9=>?_) (λf w9 e h9=>⟨rfl,eH.o f w9 e ((h9.unpack (i:=0) rfl).pick [0])⟩);have HE:=qh (vK.o s2 w9 e ((h9.unpack (i:=0) rfl).pick [1,0]));clear e h9;go_wp2_with fail;go_end0;exact HE.o
end
end
end Go.Proofs.YtdlbhiaceheffabGreatDoor
