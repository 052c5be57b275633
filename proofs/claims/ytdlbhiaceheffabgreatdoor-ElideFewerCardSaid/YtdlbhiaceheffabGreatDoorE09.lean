/- Plain: the nodes of a checked program: which lie within which, and what checking has found of each. No program in sight. -/
import Derived.Test.YtdlbhiaceheffabGreatDoorE08
set_option linter.all false
namespace Go.Proofs.YtdlbhiaceheffabGreatDoor
open Go Go.RowKit Ty Tok
namespace Ty
def bH(nd:Nd):List Nat:=
 if nd.kind=7 then nd.a::nd.list
 else if nd.kind=10\/nd.kind=11\/nd.kind=26 then nd.list
 else if nd.kind=9\/nd.kind=12\/nd.kind=19\/nd.kind=23 then [nd.a,nd.b]
 else if nd.kind=20 then [nd.a,nd.b,nd.c.toNat]
 else if nd.kind=22 then(if nd.c<0 then [nd.a,nd.b]else [nd.a,nd.b,nd.c.toNat])
 else if nd.kind<=6\/nd.kind=16 then []
 else [nd.a]
def ck(nd:Nd):List Nat:=if nd.kind=6 then nd.list++[nd.a]else bH nd
mutual
inductive Lt(ns:List Nd):Nat->Nat->Prop
 |mk {lo n:Nat} {nd:Nd}:ns[n]?=some nd->LtL ns (ck nd) lo n->Lt ns lo n
inductive LtL(ns:List Nd):List Nat->Nat->Nat->Prop
 |nil {lo:Nat}:LtL ns [] lo lo
 |cons {k lo hi:Nat} {ks:List Nat}:Lt ns lo k->LtL ns ks (k+1) hi->LtL ns (k::ks) lo hi
end
inductive Vis(ns:List Nd):Bool->Nat->Prop
 |mk {r:Bool} {n:Nat} {nd:Nd}:ns[n]?=some nd->nd.kind≠16/\1<=nd.kind/\nd.kind<=26->(r=false->nd.kind≠24)->(nd.kind≠6->∀k∈ck nd,Vis ns r k)->(nd.kind=6->Vis ns true nd.a)->Vis ns r n
mutual
theorem Lt.le{ns:List Nd}{lo n:Nat}:Lt ns lo n->lo<=n
 | .mk _ h=>LtL.le h
theorem LtL.le{ns:List Nd}{ks:List Nat}{lo hi:Nat}:LtL ns ks lo hi->lo<=hi
 | .nil=>nR _
 | .cons h g=>by have:=Lt.le h;have:=LtL.le g;omega
end
theorem Vis.inv{ns:List Nd}{r:Bool}{n:Nat}{nd:Nd}(hn:ns[n]?=some nd)(h:Vis ns r n): (nd.kind≠16/\1<=nd.kind/\nd.kind<=26)/\(r=false->nd.kind≠24)/\(nd.kind≠6->∀k∈ck nd,Vis ns r k)/\(nd.kind=6->Vis ns true nd.a):=by
 cases h with
 |mk e1 e2 e3 e4 e5=>
  rw[hn]at e1
  cases e1;exact⟨e2,e3,e4,e5⟩
theorem LtL.mem{ns:List Nd}:∀{ks:List Nat}{lo hi:Nat},LtL ns ks lo hi->∀k∈ks,k<hi/\∃l,lo<=l/\Lt ns l k
 |[],lo,hi,h=>λk h=>by cases h
 |k::ks,lo,hi,h=>by
  cases h with
  |cons h1 h2=>
   have g0:=h1.le;have g2:=h2.le;intro j hj;rcases List.mem_cons.1 hj with rfl|hj
   ·exact⟨by omega,lo,nR _,h1⟩
   ·obtain⟨a2,l,a3,a4⟩:=LtL.mem h2 j hj;exact⟨a2,l,by omega,a4⟩
theorem LtL.len{ns:List Nd}:∀{ks:List Nat}{lo hi:Nat},LtL ns ks lo hi->ks.length+lo<=hi
 |[],lo,hi,h=>by cases h;simp
 |k::ks,lo,hi,h=>by
  cases h with
  |cons h1 h2=>
   have:=h1.le;have:=LtL.len h2;rw[List.length_cons];omega
theorem LtL.app{ns:List Nd}:∀{ks ls:List Nat}{lo mid hi:Nat},LtL ns ks lo mid->LtL ns ls mid hi->LtL ns (ks++ls) lo hi
 |[],ls,lo,mid,hi,h,g=>by cases h;exact g
 |k::ks,ls,lo,mid,hi,h,g=>by
  cases h with
  |cons h1 h2=>exact .cons h1 (h2.app g)
structure NdQ(pg:Pg)(tq:Nat->Nat)(s:Ck)(n:Nat)(nd:Nd):Prop where
 of:1<=nd.kind->nd.kind<=14->(s.of n).isSome=true
 kx:fB s.of (c8 pg nd)=true
 ky:fB s.of (dz nd)=true
 lt:∀m∈c8 pg nd++dz nd,m<n
 call:nd.kind=7->kindOf (tO s.of nd.a)=9->(aL (tO s.of nd.a)).length=nd.list.length
 set:nd.kind=18->(s.has (tq n)).isSome=true
 asX:nd.kind=14->nd.a<n/\(s.of nd.a).isSome=true
 lay:nd.kind=20->0<=nd.c
 len:nd.list.length<=n
structure NdZ(pg:Pg)(s:Ck)(nd:Nd):Prop where
 obj:nd.kind=10->∀p∈nd.list,(cV pg.ns p).kind=15
 asX:nd.kind=14->(s.of nd.a).isSome=true
 lay:nd.kind=20->0<=nd.c
 rg: (decide (1<=nd.kind)&&decide (nd.kind<=26))=true
 body:nd.kind=6->(cV pg.ns nd.a).kind≠16
 EO: (nd.kind==6||nd.kind==7||nd.kind==10||nd.kind==11||nd.kind==26||nd.list.isEmpty)=true
theorem vN{pg:Pg}{s:Ck}{nd:Nd}(h: (nd.kind !=10&&nd.kind !=14&&nd.kind !=20&&nd.kind !=6&&decide (1<=nd.kind)&&decide (nd.kind<=26))=true)(hl: (nd.kind==6||nd.kind==7||nd.kind==10||nd.kind==11||nd.kind==26||nd.list.isEmpty)=true):NdZ pg s nd:=by
 simp only[Bool.and_eq_true,bne_iff_ne,decide_eq_true_eq]at h;exact⟨λe=>absurd e h.1.1.1.1.1,λe=>absurd e h.1.1.1.1.2,λe=>absurd e h.1.1.1.2,by simp[h.1.2,h.2],λe=>absurd e h.1.1.2,hl⟩
theorem mG{f g:Nat->Option Tr}{l:List Nat}(h:fB f l=true)(e:∀m∈l,g m=f m):fB g l=true:=by
 unfold fB at h⊢;rw[List.all_eq_true]at h⊢
 exact λm hm=>by rw[e m hm];exact h m hm
theorem NdQ.keep{pg:Pg}{tq:Nat->Nat}{s s':Ck}{n:Nat}{nd:Nd}(h:NdQ pg tq s n nd)(e:∀m,m<=n->s'.of m=s.of m)(g:∀m,(s.has m).isSome=true->(s'.has m).isSome=true):NdQ pg tq s' n nd:=by
 refine⟨λa b=>by rw[e n (Nat.le_refl _)];exact h.of a b,mG h.kx λm hm=>e m (Nat.le_of_lt (h.lt m (by simp[hm]))),mG h.ky λm hm=>e m (Nat.le_of_lt (h.lt m (by simp[hm]))),h.lt,λh7 h9=>?_,λk=>g _ (h.set k),λk=>⟨(h.asX k).1,by rw[e _ (Nat.le_of_lt (h.asX k).1)];exact(h.asX k).2⟩,h.lay,h.len⟩;have ha:s'.of nd.a=s.of nd.a:=e _ (Nat.le_of_lt (h.lt _ (by unfold c8;rw[if_pos h7];simp)));have e2:tO s'.of nd.a=tO s.of nd.a:=by unfold tO;rw[ha]
 rw[e2]at h9⊢
 exact h.call h7 h9
structure Tv(p:Bool)(pg:Pg)(tq:Nat->Nat)(s s':Ck)(bk:List (Option Tr))(lo hi:Nat)(ks:List Nat):Prop where
 of:∀n,n<lo\/hi<=n->s'.of n=s.of n
 has:∀n,(s.has n).isSome=true->(s'.has n).isSome=true
 lt:LtL pg.ns ks lo hi
 nd:∀n nd,lo<=n->n<hi->pg.ns[n]?=some nd->NdQ pg tq s' n nd
 ret:∀k∈ks,(cV pg.ns k).kind≠16->Vis pg.ns (!bk.isEmpty) k
 rt:p=false->∀k∈ks,(cV pg.ns k).kind≠16
section
variable {p p1:Bool} {pg:Pg} {tq:Nat->Nat} {s s1 s2:Ck} {bk:List (Option Tr)} {lo mid hi n:Nat} {ks ls:List Nat} {nd:Nd}
theorem Tv.nil(s:Ck)(lo:Nat):Tv p pg tq s s bk lo lo []:=⟨λ_ _=>rfl,λ_ h=>h,.nil,λn nd a b=>absurd a (by omega),λk h=>(by cases h),λ_ k h=>(by cases h)⟩
theorem Tv.cat(h:Tv p pg tq s s1 bk lo mid ks)(g:Tv p1 pg tq s1 s2 bk mid hi ls):Tv (p||p1) pg tq s s2 bk lo hi (ks++ls):=by
 have h1:=h.lt.le;have h2:=g.lt.le;refine⟨λn hn=>(g.of n (by omega)).trans (h.of n (by omega)),λn hn=>g.has n (h.has n hn),h.lt.app g.lt,λn nd ha hb hn=>?_,λk hk=>?_,λe k hk=>?_⟩
 ·rcases Nat.lt_or_ge n mid with hc|hc
  ·exact(h.nd n nd ha hc hn).keep (λm hm=>g.of m (by omega)) g.has
  ·exact g.nd n nd hc hb hn
 ·rcases List.mem_append.1 hk with hk|hk
  ·exact h.ret k hk
  ·exact g.ret k hk
 ·rw[Bool.or_eq_false_iff]at e
  rcases List.mem_append.1 hk with hk|hk
  ·exact h.rt e.1 k hk
  ·exact g.rt e.2 k hk
theorem F5(dG:nd.kind≠10):∀m∈c8 pg nd++dz nd,m∈ck nd:=by
 intro m hm;unfold c8 dz at hm;unfold ck bH;rcases List.mem_append.1 hm with hm|hm
 ·by_cases h7:nd.kind=7
  ·rw[if_pos h7]at hm;rw[if_neg (by omega),if_pos h7];exact hm
  rw[if_neg h7]at hm
  by_cases h8:nd.kind=8\/nd.kind=13
  ·rw[if_pos h8]at hm
   rw[if_neg (by omega),if_neg (by omega),if_neg (by omega),if_neg (by omega),if_neg (by omega),if_neg (by omega),if_neg (by omega)];exact hm
  rw[if_neg h8]at hm
  by_cases h9:nd.kind=9\/nd.kind=12
  ·rw[if_pos h9]at hm
   rw[if_neg (by omega),if_neg (by omega),if_neg (by omega),if_pos (by omega)];exact hm
  rw[if_neg h9]at hm
  by_cases jE:nd.kind=11
  ·rw[if_pos jE]at hm
   rw[if_neg (by omega),if_neg (by omega),if_pos (by omega)];exact hm
  rw[if_neg jE,if_neg dG]at hm
  cases hm
 ·by_cases h7:nd.kind=17\/nd.kind=18\/nd.kind=24
  ·rw[if_pos h7]at hm
   rw[if_neg (by omega),if_neg (by omega),if_neg (by omega),if_neg (by omega),if_neg (by omega),if_neg (by omega),if_neg (by omega)];exact hm
  rw[if_neg h7]at hm
  by_cases h8:nd.kind=19
  ·rw[if_pos h8]at hm
   rw[if_neg (by omega),if_neg (by omega),if_neg (by omega),if_pos (by omega)];exact hm
  rw[if_neg h8]at hm
  by_cases h9:nd.kind=20
  ·rw[if_pos h9]at hm
   rw[if_neg (by omega),if_neg (by omega),if_neg (by omega),if_neg (by omega),if_pos h9];exact hm
  rw[if_neg h9]at hm
  cases hm
theorem Tv.node{Ux:List (Option Tr)}{q:Bool}(h:Tv p pg tq s s1 Ux lo n ks)(hn:pg.ns[n]?=some nd)(hk:ck nd=ks)(hv:iW pg tq n bk s1=.ok s2)(hb:nd.kind≠6->Ux=bk/\p=false)(zt:nd.kind=6->Ux≠[])(hz:NdZ pg s1 nd)(hh:n+1=hi)(hq:q=(nd.kind==16)):Tv q pg tq s s2 bk lo hi [hi-1]:=by
 subst hh;subst hk;rw[Nat.add_sub_cancel];have a_:∀m∈c8 pg nd++dz nd,m<n:=λm hm=>by
  by_cases h1:nd.kind=10
  ·unfold c8 dz at hm;rw[if_neg (by omega),if_neg (by omega),if_neg (by omega),if_neg (by omega),if_pos h1,if_neg (by omega),if_neg (by omega),if_neg (by omega),List.append_nil]at hm
   obtain⟨p,hp,rfl⟩:=List.mem_map.1 hm;have sN:ck nd=nd.list:=by unfold ck bH;rw[if_neg (by omega),if_neg (by omega),if_pos (by omega)]
   obtain⟨a1,l,_,a2⟩:=h.lt.mem p (by rw[sN];exact hp);have UH:=hz.obj h1 p hp;cases a2 with
   |mk e1 e2=>
    rename_i q;rw[bw e1]at UH⊢
    have:=(e2.mem q.a (by unfold ck bH;rw[if_neg (by omega),if_neg (by omega),if_neg (by omega),if_neg (by omega),if_neg (by omega),if_neg (by omega),if_neg (by omega)];simp)).1;omega
  ·exact(h.lt.mem m (F5 h1 m hm)).1
 have U9:=h.lt.le;unfold iW at hv;rw[bw hn]at hv
 have MP:∀m,m≠n->s2.of m=s1.of m:=by
  intro m hm;split at hv
  ·obtain⟨t,_,_,rfl⟩:=mD hv;show eI s1.of n t m= _;unfold eI;rw[if_neg hm]
  ·rcases C5 hv with rfl|⟨_,_,rfl⟩<;>rfl
 have VN:∀m,(s1.has m).isSome=true->(s2.has m).isSome=true:=λm hm=>by
  split at hv
  ·obtain⟨t,_,_,rfl⟩:=mD hv;exact hm
  ·rcases C5 hv with rfl|⟨_,_,rfl⟩
   ·exact hm
   ·show(eI s1.has n _ m).isSome=true;unfold eI;split
    ·rfl
    ·exact hm
 have hx:fB s1.of (c8 pg nd)=true/\fB s1.of (dz nd)=true:=by
  split at hv
  ·rename_i hr;obtain⟨t,ht,_,rfl⟩:=mD hv;refine⟨Classical.byContradiction λhk=>?_,?_⟩
   ·unfold fD at ht;rw[if_neg hk]at ht;cases ht
   ·have:dz nd=[]:=by unfold dz;rw[if_neg (by omega),if_neg (by omega),if_neg (by omega)]
    rw[this];rfl
  ·rename_i hr;refine⟨?_,Classical.byContradiction λhk=>?_⟩
   ·have:c8 pg nd=[]:=by unfold c8;rw[if_neg (by omega),if_neg (by omega),if_neg (by omega),if_neg (by omega),if_neg (by omega)]
    rw[this];rfl
   ·unfold im at hv;rw[if_neg hk]at hv;cases hv
 refine⟨λm hm=>(MP m (by omega)).trans (h.of m (by omega)),λm hm=>VN m (h.has m hm),.cons (.mk hn h.lt) .nil,λm q ha aD hq=>?_,λk hk Y6=>?_,λe k hk=>?_⟩
 ·rcases Nat.lt_or_ge m n with hc|hc
  ·exact(h.nd m q ha hc hq).keep (λj hj=>MP j (by omega)) VN
  ·have:m=n:=by omega
   subst this;rw[hn]at hq;cases hq
   refine⟨λh1 h2=>?_,mG hx.1 λj hj=>MP j (by have:=a_ j (by simp[hj]);omega),mG hx.2 λj hj=>MP j (by have:=a_ j (by simp[hj]);omega),a_,λh7 h9=>?_,λme=>VN _ ?_,λzP=>?_,hz.lay,?_⟩
   ·rw[if_pos ⟨h1,h2⟩]at hv
    obtain⟨t,_,_,rfl⟩:=mD hv;exact xS _ _ _
   ·have RN:nd.a∈c8 pg nd:=by unfold c8;rw[if_pos h7];simp
    have e2:tO s2.of nd.a=tO s1.of nd.a:=by unfold tO;rw[MP _ (by have:=a_ nd.a (by simp[RN]);omega)]
    rw[e2]at h9⊢
    rw[if_pos (by omega)]at hv
    obtain⟨t,ht,_,rfl⟩:=mD hv;unfold fD at ht;rw[if_pos hx.1]at ht
    unfold lQ at ht;rw[if_neg (by omega),if_neg (by omega),if_neg (by omega),if_neg (by omega),if_neg (by omega),if_neg (by omega),if_pos h7]at ht
    have hc:=rO ht;unfold kh at hc;rw[if_neg (by omega)]at hc
    split at hc
    ·rename_i hl;rw[hl.2,List.length_map]
    ·cases hc
   ·rw[if_neg (by omega)]at hv
    unfold im at hv;rw[if_pos hx.2]at hv
    unfold o0 at hv;rw[if_neg (by omega),if_pos me]at hv
    split at hv
    ·cases hv
    ·rename_i t ht;rw[ht];rfl
   ·have ha:nd.a<m:=(h.lt.mem nd.a (by unfold ck bH;rw[if_neg (by omega),if_neg (by omega),if_neg (by omega),if_neg (by omega),if_neg (by omega),if_neg (by omega),if_neg (by omega)];simp)).1;exact⟨ha,by rw[MP _ (by omega)];exact hz.asX zP⟩
   ·have h9:=h.lt.len;have h8:=hz.EO;simp only[Bool.or_eq_true,beq_iff_eq,List.isEmpty_iff]at h8;by_cases h6:nd.kind=6
    ·unfold ck at h9;rw[if_pos h6,List.length_append,List.length_singleton]at h9;omega
    ·unfold ck bH at h9;rw[if_neg h6]at h9
     by_cases h7:nd.kind=7
     ·rw[if_pos h7,List.length_cons]at h9;omega
     ·rw[if_neg h7]at h9
      by_cases dG:nd.kind=10\/nd.kind=11\/nd.kind=26
      ·rw[if_pos dG]at h9;omega
      ·have:nd.list=[]:=by rcases h8 with((((h|h)|h)|h)|h)|h<;>first|omega|exact h
       rw[this];exact Nat.zero_le _
 ·rw[List.mem_singleton]at hk
  subst hk;rw[bw hn]at Y6
  have Dd:=hz.rg;simp only[Bool.and_eq_true,decide_eq_true_eq]at Dd;refine .mk hn ⟨Y6,Dd⟩ (λe I5=>?_) (λh6 j hj=>?_) λh6=>?_
  ·have e0:bk=[]:=by simpa using e
   rw[if_neg (by omega)]at hv
   unfold im at hv;rw[if_pos hx.2]at hv
   unfold o0 at hv;rw[if_neg (by omega),if_neg (by omega),if_neg (by omega),if_neg (by omega),if_pos I5,e0]at hv
   cases hv
  ·rw[<-(hb h6).1];exact h.ret j hj (h.rt (hb h6).2 j hj)
  ·have:=h.ret nd.a (by unfold ck;rw[if_pos h6];simp) (hz.body h6);rwa [show(!Ux.isEmpty)=true by simpa using zt h6]at this
 ·rw[List.mem_singleton]at hk
  subst hk;rw[bw hn];rw[e]at hq
  exact λh=>by rw[h]at hq;cases hq
theorem Le(hn:pg.ns[n]?=some nd)(hk:nd.kind=16\/nd.kind=26):iW pg tq n bk s=.ok s:=by
 have h0:dz nd=[]:=by unfold dz;rw[if_neg (by omega),if_neg (by omega),if_neg (by omega)]
 unfold iW im;rw[bw hn,if_neg (by omega),h0,if_pos (show fB s.of []=true from rfl)];unfold o0;rw[if_neg (by omega),if_neg (by omega),if_neg (by omega),if_neg (by omega),if_neg (by omega)]
theorem Tv.still{q:Bool}(h:Tv false pg tq s s1 bk lo n ks)(hn:pg.ns[n]?=some nd)(hk:ck nd=ks)(hs:nd.kind=16\/nd.kind=26)(hl: (nd.kind==6||nd.kind==7||nd.kind==10||nd.kind==11||nd.kind==26||nd.list.isEmpty)=true)(hh:n+1=hi)(hq:q=(nd.kind==16)):Tv q pg tq s s1 bk lo hi [hi-1]:=
 h.node hn hk (Le hn hs) (λ_=>⟨rfl,rfl⟩) (λh=>by omega) (vN (by rcases hs with h|h<;>rw[h]<;>rfl) hl) hh hq
theorem S8{tq:Nat->Nat}:∀(l:List Par)(a:Nat)(s:Ck),qd pg.ns l a->Tv true pg tq s (gN pg (eH l a) s) bk a (a+l.length) (eH l a)
 |[],a,s,_=>Tv.nil s a
 |q::l,a,s,h=>by
  rw[qd]at h
  have h1:=(Tv.nil (tq:=tq) (bk:=bk) {s with has:=eI s.has a (za (dZ pg.ts (cV pg.ns a).ty))} a).still (q:=true) h.1 (by rfl) (.inl rfl) rfl (hi:=a+1) rfl rfl;have h2:=h1.cat (S8 l (a+1) _ h.2);rw[eH,gN,List.length_cons,show a+(l.length+1)=a+1+l.length by omega];exact⟨h2.of,λn hn=>h2.has n (by show(eI s.has a _ n).isSome=true;unfold eI;split;rfl;exact hn),h2.lt,h2.nd,h2.ret,h2.rt⟩
end
theorem SN{ns:List Nd}:∀(l:List (Nat×BA×Ex))(a:Nat),jS ns l a->∀p∈eL l a,(cV ns p).kind=15
 |[],a,_,p,h=>by simp[eL]at h
 |(_,_,e)::l,a,h,p,hp=>by
  rw[jS]at h
  rw[eL]at hp
  rcases List.mem_cons.1 hp with rfl|hp
  ·rw[bw h.2.1];rfl
  ·exact SN l _ h.2.2 p hp
section
variable {pg:Pg} {tq:Nat->Nat}
theorem Tv.ex{s s':Ck}{bk:List (Option Tr)}{lo hi n:Nat}{nd:Nd}(h:Tv false pg tq s s' bk lo hi [hi-1])(hn:pg.ns[n]?=some nd)(hk: (1<=nd.kind&&nd.kind<=14)=true)(hh:n+1=hi):Tv false pg tq s s' bk lo hi [hi-1]/\(s'.of (hi-1)).isSome=true:=by
 subst hh;simp only[Bool.and_eq_true,decide_eq_true_eq]at hk;have hl:=(h.lt.mem _ (List.mem_singleton.2 rfl)).2;obtain⟨l,h1,h2⟩:=hl;have:=h2.le;exact⟨h,(h.nd n nd (by omega) (by omega) hn).of hk.1 hk.2⟩
theorem MU(n:Nat)(s:Ck): (nf pg n s).of=s.of:=by unfold nf;split<;>rfl
mutual
theorem tw:∀(e:Ex)(a:Nat)(bk:List (Option Tr))(s s':Ck),df pg.ns e a->eT pg tq e a bk s=.ok s'->Tv false pg tq s s' bk a (a+ax e) [a+ax e-1]/\(s'.of (a+ax e-1)).isSome=true
 | .num _ _,a,bk,s,s',h,hc=>by
  rw[df]at h
  rw[eT]at hc
  exact((Tv.nil s a).node h (by rfl) hc (λ_=>⟨rfl,rfl⟩) (λh=>by cases h) (vN rfl rfl) (by rw[ax]) rfl).ex h rfl (by rw[ax])
 | .text _ _,a,bk,s,s',h,hc=>by
  rw[df]at h
  rw[eT]at hc
  exact((Tv.nil s a).node h (by rfl) hc (λ_=>⟨rfl,rfl⟩) (λh=>by cases h) (vN rfl rfl) (by rw[ax]) rfl).ex h rfl (by rw[ax])
 | .bool _ _,a,bk,s,s',h,hc=>by
  rw[df]at h
  rw[eT]at hc
  exact((Tv.nil s a).node h (by rfl) hc (λ_=>⟨rfl,rfl⟩) (λh=>by cases h) (vN rfl rfl) (by rw[ax]) rfl).ex h rfl (by rw[ax])
 | .null _,a,bk,s,s',h,hc=>by
  rw[df]at h
  rw[eT]at hc
  exact((Tv.nil s a).node h (by rfl) hc (λ_=>⟨rfl,rfl⟩) (λh=>by cases h) (vN rfl rfl) (by rw[ax]) rfl).ex h rfl (by rw[ax])
 | .var _ _,a,bk,s,s',h,hc=>by
  rw[df]at h
  rw[eT]at hc
  exact((Tv.nil s a).node h (by rfl) hc (λ_=>⟨rfl,rfl⟩) (λh=>by cases h) (vN rfl rfl) (by rw[ax]) rfl).ex h rfl (by rw[ax])
 | .fn p ps ty bp body,a,bk,s,s',h,hc=>by
  rw[df]at h
  rw[eT]at hc
  obtain⟨s1,h1,h2⟩:=aF hc;have g1:=S8 (tq:=tq) (bk:=bk++[dZ pg.ts ty]) ps a s h.1;have g2:=(C4 body _ _ _ _ h.2.1 h1).still h.2.2.1 (by rfl) (.inr rfl) rfl (hi:=a+ps.length+aJ body+1) (q:=false) rfl rfl;exact((g1.cat g2).node h.2.2.2 (by rfl) h2 (λh=>absurd rfl h) (λ_=>by simp) ⟨λh=>(by cases h),λh=>(by cases h),λh=>(by cases h),rfl,λ_=>by rw[show({af 6 p with list:=eH ps a,ty:=ty,a:=a+ps.length+aJ body}:Nd).a=a+ps.length+aJ body from rfl,bw h.2.2.1];show(26:Nat)≠16;decide,rfl⟩ (by rw[ax];omega) rfl).ex h.2.2.2 rfl (by rw[ax];omega)
 | .call p e l,a,bk,s,s',h,hc=>by
  rw[df]at h
  rw[eT]at hc
  obtain⟨s1,h1,h2⟩:=aF hc;obtain⟨s2,h3,h4⟩:=aF h2;exact(((tw e _ _ _ _ h.1 h1).1.cat (Qs l _ _ _ _ h.2.1 h3)).node h.2.2 (by rfl) h4 (λ_=>⟨rfl,rfl⟩) (λh=>by cases h) (vN rfl rfl) (by rw[ax];omega) rfl).ex h.2.2 rfl (by rw[ax];omega)
 | .obj p l,a,bk,s,s',h,hc=>by
  rw[df]at h
  rw[eT]at hc
  obtain⟨s1,h1,h2⟩:=aF hc;exact((SD l _ _ _ _ h.1 h1).node h.2 (by rfl) h2 (λ_=>⟨rfl,rfl⟩) (λh=>by cases h) ⟨λ_=>SN l a h.1,λh=>(by cases h),λh=>(by cases h),rfl,λh=>(by cases h),rfl⟩ (by rw[ax];omega) rfl).ex h.2 rfl (by rw[ax];omega)
 | .arr p l,a,bk,s,s',h,hc=>by
  rw[df]at h
  rw[eT]at hc
  obtain⟨s1,h1,h2⟩:=aF hc;exact((Qs l _ _ _ _ h.1 h1).node h.2 (by rfl) h2 (λ_=>⟨rfl,rfl⟩) (λh=>by cases h) (vN rfl rfl) (by rw[ax];omega) rfl).ex h.2 rfl (by rw[ax];omega)
 | .get p e x,a,bk,s,s',h,hc=>by
  rw[df]at h
  rw[eT]at hc
  obtain⟨s1,h1,h2⟩:=aF hc;exact((tw e _ _ _ _ h.1 h1).1.node h.2 (by rfl) h2 (λ_=>⟨rfl,rfl⟩) (λh=>by cases h) (vN rfl rfl) (by rw[ax];omega) rfl).ex h.2 rfl (by rw[ax];omega)
 | .one p x e,a,bk,s,s',h,hc=>by
  rw[df]at h
  rw[eT]at hc
  obtain⟨s1,h1,h2⟩:=aF hc;exact((tw e _ _ _ _ h.1 h1).1.node h.2 (by rfl) h2 (λ_=>⟨rfl,rfl⟩) (λh=>by cases h) (vN rfl rfl) (by rw[ax];omega) rfl).ex h.2 rfl (by rw[ax];omega)
 | .asX p e ty,a,bk,s,s',h,hc=>by
  rw[df]at h
  rw[eT]at hc
  obtain⟨s1,h1,h2⟩:=aF hc;exact((tw e _ _ _ _ h.1 h1).1.node h.2 (by rfl) h2 (λ_=>⟨rfl,rfl⟩) (λh=>by cases h) ⟨λh=>(by cases h),λ_=>(tw e _ _ _ _ h.1 h1).2,λh=>(by cases h),rfl,λh=>(by cases h),rfl⟩ (by rw[ax];omega) rfl).ex h.2 rfl (by rw[ax];omega)
 | .atX p e i,a,bk,s,s',h,hc=>by
  rw[df]at h
  rw[eT]at hc
  obtain⟨s1,h1,h2⟩:=aF hc;obtain⟨s2,h3,h4⟩:=aF h2;exact(((tw e _ _ _ _ h.1 h1).1.cat (tw i _ _ _ _ h.2.1 h3).1).node h.2.2 (by rfl) h4 (λ_=>⟨rfl,rfl⟩) (λh=>by cases h) (vN rfl rfl) (by rw[ax];omega) rfl).ex h.2.2 rfl (by rw[ax];omega)
 | .two p x e i,a,bk,s,s',h,hc=>by
  rw[df]at h
  rw[eT]at hc
  obtain⟨s1,h1,h2⟩:=aF hc;obtain⟨s2,h3,h4⟩:=aF h2;exact(((tw e _ _ _ _ h.1 h1).1.cat (tw i _ _ _ _ h.2.1 h3).1).node h.2.2 (by rfl) h4 (λ_=>⟨rfl,rfl⟩) (λh=>by cases h) (vN rfl rfl) (by rw[ax];omega) rfl).ex h.2.2 rfl (by rw[ax];omega)
theorem Qs:∀(l:List Ex)(a:Nat)(bk:List (Option Tr))(s s':Ck),kN pg.ns l a->nX pg tq l a bk s=.ok s'->Tv false pg tq s s' bk a (a+eE l) (fq l a)
 |[],a,bk,s,s',h,hc=>by rw[nX]at hc;cases hc;exact Tv.nil s a
 |e::l,a,bk,s,s',h,hc=>by
  rw[kN]at h
  rw[nX]at hc
  obtain⟨s1,h1,h2⟩:=aF hc;rw[eE,fq,<-Nat.add_assoc];exact(tw e _ _ _ _ h.1 h1).1.cat (Qs l _ _ _ _ h.2 h2)
theorem SD:∀(l:List (Nat×BA×Ex))(a:Nat)(bk:List (Option Tr))(s s':Ck),jS pg.ns l a->oN pg tq l a bk s=.ok s'->Tv false pg tq s s' bk a (a+fE l) (eL l a)
 |[],a,bk,s,s',h,hc=>by rw[oN]at hc;cases hc;exact Tv.nil s a
 |(p,x,e)::l,a,bk,s,s',h,hc=>by
  rw[jS]at h
  rw[oN]at hc
  obtain⟨s2,h0,h4⟩:=aF hc;obtain⟨s1,h1,h2⟩:=aF h0;rw[fE,eL,show a+(ax e+1+fE l)=a+ax e+1+fE l by omega];have g:=(tw e _ _ _ _ h.1 h1).1.node h.2.1 (by rfl) h2 (λ_=>⟨rfl,rfl⟩) (λh=>by cases h) (vN rfl rfl) (hi:=a+ax e+1) (q:=false) rfl rfl;exact g.cat (SD l _ _ _ _ h.2.2 h4)
theorem C4:∀(l:List Sm)(a:Nat)(bk:List (Option Tr))(s s':Ck),iR pg.ns l a->j4 pg tq l a bk s=.ok s'->Tv false pg tq s s' bk a (a+aJ l) (dU l a)
 |[],a,bk,s,s',h,hc=>by rw[j4]at hc;cases hc;exact Tv.nil s a
 |e::l,a,bk,s,s',h,hc=>by
  rw[iR]at h
  rw[j4]at hc
  obtain⟨s1,h1,h2⟩:=aF hc;rw[aJ,dU,<-Nat.add_assoc];exact(ZZ e _ _ _ _ h.1 h1).cat (C4 l _ _ _ _ h.2 h2)
theorem ZZ:∀(e:Sm)(a:Nat)(bk:List (Option Tr))(s s':Ck),gL pg.ns e a->jI pg tq e a bk s=.ok s'->Tv false pg tq s s' bk a (a+da e) [a+da e-1]
 | .jR p x ty e,a,bk,s,s',h,hc=>by
  rw[gL]at h
  rw[jI]at hc
  obtain⟨s1,h1,h2⟩:=aF hc;have g:=(tw e _ _ _ _ h.1 h1).1.node h.2 (by rfl) h2 (λ_=>⟨rfl,rfl⟩) (λh=>by cases h) (vN rfl rfl) (hi:=a+da (.jR p x ty e)) (q:=false) (by rw[da];omega) rfl;exact⟨λn hn=>by rw[g.of n hn,MU],λn hn=>g.has n ((xE pg _ s).has n hn),g.lt,g.nd,g.ret,g.rt⟩
 | .set p x e,a,bk,s,s',h,hc=>by
  rw[gL]at h
  rw[jI]at hc
  obtain⟨s1,h1,h2⟩:=aF hc;exact(tw e _ _ _ _ h.1 h1).1.node h.2 (by rfl) h2 (λ_=>⟨rfl,rfl⟩) (λh=>by cases h) (vN rfl rfl) (by rw[da];omega) rfl
 | .print p e,a,bk,s,s',h,hc=>by
  rw[gL]at h
  rw[jI]at hc
  obtain⟨s1,h1,h2⟩:=aF hc;exact(tw e _ _ _ _ h.1 h1).1.node h.2 (by rfl) h2 (λ_=>⟨rfl,rfl⟩) (λh=>by cases h) (vN rfl rfl) (by rw[da];omega) rfl
 | .ret p e,a,bk,s,s',h,hc=>by
  rw[gL]at h
  rw[jI]at hc
  obtain⟨s1,h1,h2⟩:=aF hc;exact(tw e _ _ _ _ h.1 h1).1.node h.2 (by rfl) h2 (λ_=>⟨rfl,rfl⟩) (λh=>by cases h) (vN rfl rfl) (by rw[da];omega) rfl
 | .u9 p e,a,bk,s,s',h,hc=>by
  rw[gL]at h
  rw[jI]at hc
  obtain⟨s1,h1,h2⟩:=aF hc;exact(tw e _ _ _ _ h.1 h1).1.node h.2 (by rfl) h2 (λ_=>⟨rfl,rfl⟩) (λh=>by cases h) (vN rfl rfl) (by rw[da];omega) rfl
 | .put p e x v,a,bk,s,s',h,hc=>by
  rw[gL]at h
  rw[jI]at hc
  obtain⟨s1,h1,h2⟩:=aF hc;obtain⟨s2,h3,h4⟩:=aF h2;exact((tw e _ _ _ _ h.1 h1).1.cat (tw v _ _ _ _ h.2.1 h3).1).node h.2.2 (by rfl) h4 (λ_=>⟨rfl,rfl⟩) (λh=>by cases h) (vN rfl rfl) (by rw[da];omega) rfl
 | .lay p e i v,a,bk,s,s',h,hc=>by
  rw[gL]at h
  rw[jI]at hc
  obtain⟨s1,h1,h2⟩:=aF hc;obtain⟨s2,h3,h4⟩:=aF h2;obtain⟨s3,h5,h6⟩:=aF h4;exact(((tw e _ _ _ _ h.1 h1).1.cat (tw i _ _ _ _ h.2.1 h3).1).cat (tw v _ _ _ _ h.2.2.1 h5).1).node h.2.2.2 (by rfl) h6 (λ_=>⟨rfl,rfl⟩) (λh=>by cases h) ⟨λh=>(by cases h),λh=>(by cases h),λ_=>Int.natCast_nonneg _,rfl,λh=>(by cases h),rfl⟩ (by rw[da];omega) rfl
 | .if_ p e bp b none,a,bk,s,s',h,hc=>by
  rw[gL]at h
  rw[jI]at hc
  obtain⟨s1,h1,h2⟩:=aF hc;obtain⟨s2,h3,h4⟩:=aF h2;have g:=(C4 b _ _ _ _ h.2.1 h3).still h.2.2.1 (by rfl) (.inr rfl) rfl (hi:=a+ax e+aJ b+1) (q:=false) rfl rfl;exact((tw e _ _ _ _ h.1 h1).1.cat g).node h.2.2.2 (by rfl) h4 (λ_=>⟨rfl,rfl⟩) (λh=>by cases h) (vN rfl rfl) (by rw[da];omega) rfl
 | .if_ p e bp b (some (cp,c)),a,bk,s,s',h,hc=>by
  rw[gL]at h
  rw[jI]at hc
  obtain⟨s1,h1,h2⟩:=aF hc;obtain⟨s2,h3,h4⟩:=aF h2;obtain⟨s3,h5,h6⟩:=aF h4;have g:=(C4 b _ _ _ _ h.2.1 h3).still h.2.2.1 (by rfl) (.inr rfl) rfl (hi:=a+ax e+aJ b+1) (q:=false) rfl rfl;have g2:=(C4 c _ _ _ _ h.2.2.2.1 h5).still h.2.2.2.2.1 (by rfl) (.inr rfl) rfl (hi:=a+ax e+aJ b+1+aJ c+1) (q:=false) rfl rfl;exact(((tw e _ _ _ _ h.1 h1).1.cat g).cat g2).node h.2.2.2.2.2 (by rfl) h6 (λ_=>⟨rfl,rfl⟩) (λh=>by cases h) (vN rfl rfl) (by rw[da];omega) rfl
 | .while_ p e bp b,a,bk,s,s',h,hc=>by
  rw[gL]at h
  rw[jI]at hc
  obtain⟨s1,h1,h2⟩:=aF hc;obtain⟨s2,h3,h4⟩:=aF h2;have g:=(C4 b _ _ _ _ h.2.1 h3).still h.2.2.1 (by rfl) (.inr rfl) rfl (hi:=a+ax e+aJ b+1) (q:=false) rfl rfl;exact((tw e _ _ _ _ h.1 h1).1.cat g).node h.2.2.2 (by rfl) h4 (λ_=>⟨rfl,rfl⟩) (λh=>by cases h) (vN rfl rfl) (by rw[da];omega) rfl
end
end
end Ty
namespace Ty
abbrev il:=List (Nat×Nat)
def rH(n:Nat)(t:Tr):il:=if kindOf t=5\/kindOf t=6\/¬(1<=tags t/\tags t<127)then []else [(n,tags t)]
def q9(n:Nat)(o:Option Tr):il:=match o with
 |none=>[]
 |some t=>rH n t
def gV(f:Nat->Option Tr)(n:Nat)(o:Option Tr):il:=if kindOf (tO f n)=5 then q9 n o else []
def gK(f:Nat->Option Tr):List Nat->List Tr->il
 |a::l,t::ts=>gV f a (some t)++gK f l ts
 |[],_=>[]
 | _:: _,[]=>[]
def nM(t:Tr)(x:BA):Option Tr:=if kindOf t=8 then some (jL 1)else if kindOf t=7 then part (bY t) (partsOf t) x else none
def dr(pg:Pg)(tq:Nat->Nat)(s:Ck)(n:Nat)(x:Nd)(bk:List (Option Tr)):il:=
 if x.kind=7 then rH n (tO s.of n)++(if kindOf (tO s.of x.a)=9 then gK s.of x.list (aL (tO s.of x.a))else [])
 else if x.kind=8\/x.kind=9 then rH n (tO s.of n)
 else if x.kind=14 then gV s.of x.a (s.of n)
 else if x.kind=17 then gV s.of x.a (dZ pg.ts x.ty)
 else if x.kind=18 then gV s.of x.a (s.has (tq n))
 else if x.kind=19 then gV s.of x.b (nM (tO s.of x.a) x.text)
 else if x.kind=20 then(if kindOf (tO s.of x.a)=8 then gV s.of x.c.toNat (some (eP (tO s.of x.a)))else [])
 else if x.kind=24 then gV s.of x.a (bk.getLastD none)
 else []
def gC(pg:Pg)(tq:Nat->Nat)(s:Ck):Nat->Nat->List (Option Tr)->il
 |0,_,_=>[]
 |f+1,n,bk=>(if(cV pg.ns n).kind=6 then(cV pg.ns n).list.flatMap (λp=>q9 p (dZ pg.ts (cV pg.ns p).ty))++gC pg tq s f (cV pg.ns n).a (bk++[dZ pg.ts (cV pg.ns n).ty])
   else(bH (cV pg.ns n)).flatMap λm=>gC pg tq s f m bk)++dr pg tq s n (cV pg.ns n) bk
theorem yO{n:Nat}{t:Tr}:∀p∈rH n t,p.1=n/\kindOf t≠5/\1<=p.2/\p.2<127:=by
 intro p hp;unfold rH at hp;split at hp
 ·cases hp
 ·rename_i h;rw[List.mem_singleton]at hp
  subst hp;exact⟨rfl,λe=>h (.inl e),Classical.byContradiction λe=>h (.inr (.inr λq=>e q.1)),Classical.byContradiction λe=>h (.inr (.inr λq=>e q.2))⟩
theorem xT(n:Nat)(t:Tr): (rH n t).length<=1:=by unfold rH;split<;>simp
theorem xU{n:Nat}{o:Option Tr}:∀p∈q9 n o,p.1=n/\1<=p.2/\p.2<127:=by
 cases o with
 |none=>intro p hp;cases hp
 |some t=>exact λp hp=>⟨(yO p hp).1,(yO p hp).2.2⟩
theorem EX(n:Nat)(o:Option Tr): (q9 n o).length<=1:=by
 cases o with
 |none=>simp[q9]
 |some t=>exact xT n t
theorem xK{f:Nat->Option Tr}{n:Nat}{o:Option Tr}:∀p∈gV f n o,p.1=n/\kindOf (tO f n)=5/\1<=p.2/\p.2<127:=by
 intro p hp;unfold gV at hp;split at hp
 ·rename_i h;exact⟨(xU p hp).1,h,(xU p hp).2⟩
 ·cases hp
theorem BH(f:Nat->Option Tr)(n:Nat)(o:Option Tr): (gV f n o).length<=1:=by
 unfold gV;split
 ·exact EX n o
 ·simp
theorem lh{l:il}(h:l.length<=1): (l.map Prod.fst).Nodup:=by
 match l,h with
 |[],_=>simp
 |[a],_=>simp
theorem oE{l m:il}(h: (l.map Prod.fst).Nodup)(g: (m.map Prod.fst).Nodup)(hd:∀p∈l,∀q∈m,p.1≠q.1): ((l++m).map Prod.fst).Nodup:=by
 rw[List.map_append,List.nodup_append];refine⟨h,g,λa ha b hb=>?_⟩;obtain⟨p,hp,rfl⟩:=List.mem_map.1 ha;obtain⟨q,hq,rfl⟩:=List.mem_map.1 hb;exact hd p hp q hq
theorem Ao{f:Nat->Option Tr}:∀{l:List Nat}{ts:List Tr},l.Nodup->((gK f l ts).map Prod.fst).Nodup/\∀p∈gK f l ts,p.1∈l/\kindOf (tO f p.1)=5/\1<=p.2/\p.2<127
 |[],ts,_=>by simp[gK]
 |a::l,[],_=>by simp[gK]
 |a::l,t::ts,hn=>by
  rw[List.nodup_cons]at hn
  have ih:=Ao (f:=f) (ts:=ts) hn.2;rw[gK];refine⟨oE (lh (BH _ _ _)) ih.1 λp hp q hq e=>hn.1 ?_,λp hp=>?_⟩
  ·rw[<-(xK p hp).1,e];exact(ih.2 q hq).1
  ·rcases List.mem_append.1 hp with hp|hp
   ·have:=xK p hp;exact⟨by rw[this.1];simp,by rw[this.1];exact this.2.1,this.2.2⟩
   ·have:=ih.2 p hp;exact⟨by simp[this.1],this.2⟩
theorem uX(f:Nat->Option Tr):∀{l:List Nat}{ts:List Tr}{j:Nat}(h1:j<l.length)(h2:j<ts.length),gK f (l.take (j+1)) (ts.take (j+1))=gK f (l.take j) (ts.take j)++gV f l[j] (some ts[j])
 |a::l,t::ts,0,h1,h2=>by simp[gK]
 |a::l,t::ts,j+1,h1,h2=>by
  have:=uX f (l:=l) (ts:=ts) (j:=j) (by simpa using h1) (by simpa using h2);simp only[List.take_succ_cons,gK,List.getElem_cons_succ,List.append_assoc]at this⊢;rw[this]
theorem uJ(f:Nat->Option Tr):∀{j:Nat}(l:List Nat)(ts:List Tr),(gK f (l.take j) (ts.take j)).length<=(gK f l ts).length
 |0,l,ts=>by simp[gK]
 |j+1,[],ts=>by simp[gK]
 |j+1,a::l,[]=>by simp[gK]
 |j+1,a::l,t::ts=>by
  have:=uJ f (j:=j) l ts;simp only[List.take_succ_cons,gK,List.length_append];omega
def zL(lo hi:Nat)(L:il):Prop:=(∀p∈L,lo<=p.1/\p.1<hi)/\(L.map Prod.fst).Nodup
theorem zL.cat{lo mid hi:Nat}{L M:il}(h:zL lo mid L)(g:zL mid hi M)(h1:lo<=mid)(h2:mid<=hi):zL lo hi (L++M):=by
 refine⟨λp hp=>?_,oE h.2 g.2 λp hp q hq=>by have:=h.1 p hp;have:=g.1 q hq;omega⟩;rcases List.mem_append.1 hp with hp|hp
 ·have:=h.1 p hp;omega
 ·have:=g.1 p hp;omega
theorem zL.flat{ns:List Nd}{G:Nat->il}:∀{ks:List Nat}{lo hi:Nat},LtL ns ks lo hi->(∀k∈ks,∀l,Lt ns l k->zL l (k+1) (G k))->zL lo hi (ks.flatMap G)
 |[],lo,hi,h,g=>⟨λp hp=>(by cases hp),by simp⟩
 |k::ks,lo,hi,h,g=>by
  cases h with
  |cons h1 h2=>
   rw[List.flatMap_cons];exact(g k (by simp) lo h1).cat (zL.flat h2 λj hj=>g j (by simp[hj])) (by have:=h1.le;omega) h2.le
theorem LtL.DT{ns:List Nd}{ks:List Nat}{lo hi:Nat}(h:LtL ns ks lo hi):∀k∈ks,lo<=k/\k<hi:=λk hk=>by
 obtain⟨a,l,b,c⟩:=h.mem k hk;have:=c.le;omega
theorem LtL.nodup{ns:List Nd}:∀{ks:List Nat}{lo hi:Nat},LtL ns ks lo hi->ks.Nodup
 |[],_,_,_=>List.nodup_nil
 |k::ks,lo,hi,h=>by
  cases h with
  |cons h1 h2=>exact List.nodup_cons.2 ⟨λhk=>by have:=h2.DT k hk;omega,h2.nodup⟩
theorem LtL.split{ns:List Nd}:∀{ks ls:List Nat}{lo hi:Nat},LtL ns (ks++ls) lo hi->∃mid,LtL ns ks lo mid/\LtL ns ls mid hi
 |[],ls,lo,hi,h=>⟨lo,.nil,h⟩
 |k::ks,ls,lo,hi,h=>by
  cases h with
  |cons h1 h2=>
   obtain⟨mid,g1,g2⟩:=LtL.split (ks:=ks) h2;exact⟨mid,.cons h1 g1,g2⟩
theorem p3{ns:List Nd}{G:Nat->il}{K:Nat->Prop}:∀{ks:List Nat}{lo hi:Nat},LtL ns ks lo hi->(∀k∈ks,∀l,Lt ns l k->zL l (k+1) (G k)/\∀p∈G k,p.1=k->K k)->∀p∈ks.flatMap G,p.1∈ks->K p.1
 |[],lo,hi,h,g,p,hp,_=>by cases hp
 |k::ks,lo,hi,h,g,p,hp,hk=>by
  cases h with
  |cons h1 h2=>
   have hg:=g k (by simp) lo h1;rw[List.flatMap_cons]at hp
   rcases List.mem_append.1 hp with hp|hp
   ·have h3:=hg.1.1 p hp;rcases List.mem_cons.1 hk with hk|hk
    ·rw[hk];exact hg.2 p hp hk
    ·have:=h2.DT _ hk;omega
   ·rcases List.mem_cons.1 hk with hk|hk
    ·have h4:=(zL.flat h2 λj hj l hl=>(g j (by simp[hj]) l hl).1).1 p hp;omega
    ·exact p3 h2 (λj hj=>g j (by simp[hj])) p hp hk
section
variable {pg:Pg} {tq:Nat->Nat} {s:Ck}
theorem PY{n:Nat}{x:Nd}{bk:List (Option Tr)}{lo:Nat}(h:LtL pg.ns (ck x) lo n): ((dr pg tq s n x bk).map Prod.fst).Nodup/\∀p∈dr pg tq s n x bk,(p.1=n/\kindOf (tO s.of n)≠5\/p.1∈ck x/\x.kind≠6/\kindOf (tO s.of p.1)=5)/\1<=p.2/\p.2<127:=by
 have one:∀{m:Nat}{o:Option Tr},m∈ck x->x.kind≠6->((gV s.of m o).map Prod.fst).Nodup/\∀p∈gV s.of m o,(p.1=n/\kindOf (tO s.of n)≠5\/p.1∈ck x/\x.kind≠6/\kindOf (tO s.of p.1)=5)/\1<=p.2/\p.2<127:=λhm h6=>
  ⟨lh (BH _ _ _),λp hp=>by have:=xK p hp;exact⟨.inr ⟨by rw[this.1];exact hm,h6,by rw[this.1];exact this.2.1⟩,this.2.2⟩⟩
 unfold dr;by_cases h7:x.kind=7
 ·rw[if_pos h7];have hk:ck x=x.a::x.list:=by unfold ck bH;rw[if_neg (by omega),if_pos h7]
  have hl:=h.DT;have UN:=h.nodup;rw[hk]at hl UN⊢
  have g1: ((rH n (tO s.of n)).map Prod.fst).Nodup/\∀p∈rH n (tO s.of n),(p.1=n/\kindOf (tO s.of n)≠5)/\1<=p.2/\p.2<127:=⟨lh (xT _ _),λp hp=>by have:=yO p hp;exact⟨⟨this.1,this.2.1⟩,this.2.2⟩⟩
  by_cases h9:kindOf (tO s.of x.a)=9
  ·rw[if_pos h9];have g2:=Ao (f:=s.of) (ts:=aL (tO s.of x.a)) (List.nodup_cons.1 UN).2;refine⟨oE g1.1 g2.1 λp hp q hq e=>?_,λp hp=>?_⟩
   ·have a1:=(g1.2 p hp).1.1;have a2:=hl _ (List.mem_cons_of_mem _ (g2.2 q hq).1);omega
   ·rcases List.mem_append.1 hp with hp|hp
    ·exact⟨.inl (g1.2 p hp).1,(g1.2 p hp).2⟩
    ·have:=g2.2 p hp;exact⟨.inr ⟨List.mem_cons_of_mem _ this.1,by omega,this.2.1⟩,this.2.2⟩
  ·rw[if_neg h9,List.append_nil];exact⟨g1.1,λp hp=>⟨.inl (g1.2 p hp).1,(g1.2 p hp).2⟩⟩
 rw[if_neg h7];by_cases h8:x.kind=8\/x.kind=9
 ·rw[if_pos h8];exact⟨lh (xT _ _),λp hp=>by have:=yO p hp;exact⟨.inl ⟨this.1,this.2.1⟩,this.2.2⟩⟩
 rw[if_neg h8];have ka:x.kind=14\/x.kind=17\/x.kind=18\/x.kind=24->x.a∈ck x:=λh=>by
  unfold ck bH;rw[if_neg (by omega),if_neg (by omega),if_neg (by omega),if_neg (by omega),if_neg (by omega),if_neg (by omega),if_neg (by omega)];simp
 by_cases zP:x.kind=14
 ·rw[if_pos zP];exact one (ka (by omega)) (by omega)
 rw[if_neg zP];by_cases qX:x.kind=17
 ·rw[if_pos qX];exact one (ka (by omega)) (by omega)
 rw[if_neg qX];by_cases me:x.kind=18
 ·rw[if_pos me];exact one (ka (by omega)) (by omega)
 rw[if_neg me];by_cases OD:x.kind=19
 ·rw[if_pos OD];exact one (by unfold ck bH;rw[if_neg (by omega),if_neg (by omega),if_neg (by omega),if_pos (by omega)];simp) (by omega)
 rw[if_neg OD];by_cases np:x.kind=20
 ·rw[if_pos np];split
  ·exact one (by unfold ck bH;rw[if_neg (by omega),if_neg (by omega),if_neg (by omega),if_neg (by omega),if_pos np];simp) (by omega)
  ·exact⟨by simp,λp hp=>(by cases hp)⟩
 rw[if_neg np];by_cases I5:x.kind=24
 ·rw[if_pos I5];exact one (ka (by omega)) (by omega)
 rw[if_neg I5];exact⟨by simp,λp hp=>(by cases hp)⟩
theorem ym:∀(f n lo:Nat)(bk:List (Option Tr)),Lt pg.ns lo n->n<f->zL lo (n+1) (gC pg tq s f n bk)/\(∀p∈gC pg tq s f n bk,p.1=n->kindOf (tO s.of n)≠5)/\∀p∈gC pg tq s f n bk,1<=p.2/\p.2<127
 |0,n,lo,bk,h,hf=>by omega
 |f+1,n,lo,bk,h,hf=>by
  cases h with
  |mk e1 e2=>
   rename_i x;have ih:=ym f;have own:=PY (tq:=tq) (s:=s) (bk:=bk) e2;have hle:=e2.le;rw[gC,bw e1]
   --what the parts lay
   have hA:∃A,(if x.kind=6 then x.list.flatMap (λp=>q9 p (dZ pg.ts (cV pg.ns p).ty))++gC pg tq s f x.a (bk++[dZ pg.ts x.ty])else(bH x).flatMap λm=>gC pg tq s f m bk)=A/\zL lo n A/\(x.kind≠6->∀p∈A,p.1∈ck x->kindOf (tO s.of p.1)≠5)/\∀p∈A,1<=p.2/\p.2<127:=by
    refine⟨_,rfl,?_⟩;by_cases h6:x.kind=6
    ·rw[if_pos h6];unfold ck at e2;rw[if_pos h6]at e2
     obtain⟨mid,g1,g2⟩:=e2.split;cases g2 with
     |cons g2 g3=>
      cases g3;have i2:=ih x.a mid (bk++[dZ pg.ts x.ty]) g2 (by omega);have i1:zL lo mid (x.list.flatMap λp=>q9 p (dZ pg.ts (cV pg.ns p).ty)):=zL.flat g1 λk _ l hl=>⟨λp hp=>by have:=(xU p hp).1;have:=hl.le;omega,lh (EX _ _)⟩
      refine⟨i1.cat i2.1 g1.le (by have:=g2.le;omega),λh=>absurd h6 h,λp hp=>?_⟩;rcases List.mem_append.1 hp with hp|hp
      ·obtain⟨k,_,hk⟩:=List.mem_flatMap.1 hp;exact(xU p hk).2
      ·exact i2.2.2 p hp
    ·rw[if_neg h6];have hk:ck x=bH x:=by unfold ck;rw[if_neg h6]
     rw[hk]at e2⊢
     have FB:=e2.DT;refine⟨zL.flat e2 λk hk l hl=>(ih k l bk hl (by have:=FB k hk;omega)).1,λ_=>p3 (K:=λk=>kindOf (tO s.of k)≠5) e2 λk hk l hl=>⟨(ih k l bk hl (by have:=FB k hk;omega)).1,(ih k l bk hl (by have:=FB k hk;omega)).2.1⟩,λp hp=>?_⟩;obtain⟨k,hk,hp⟩:=List.mem_flatMap.1 hp;obtain⟨a1,l,_,a2⟩:=e2.mem k hk;exact(ih k l bk a2 (by omega)).2.2 p hp
   obtain⟨A,abg,QM,abW,abw⟩:=hA;rw[abg];have FB:=e2.DT;refine⟨⟨λp hp=>?_,oE QM.2 own.1 λp hp q hq e=>?_⟩,λp hp hn=>?_,λp hp=>?_⟩
   ·rcases List.mem_append.1 hp with hp|hp
    ·have:=QM.1 p hp;omega
    ·rcases(own.2 p hp).1 with h|h
     ·omega
     ·have:=FB _ h.1;omega
   ·have h1:=QM.1 p hp;rcases(own.2 q hq).1 with h|h
    ·omega
    ·exact abW h.2.1 p hp (by rw[e];exact h.1) (by rw[e];exact h.2.2)
   ·rcases List.mem_append.1 hp with hp|hp
    ·have:=QM.1 p hp;omega
    ·rcases(own.2 p hp).1 with h|h
     ·exact h.2
     ·have:=FB _ h.1;omega
   ·rcases List.mem_append.1 hp with hp|hp
    ·exact abw p hp
    ·exact(own.2 p hp).2
end
theorem By:∀t:Tr,dX t->jM t->1<=tags t
 | .mk k n p l o,h,u=>by
  rw[tags];rw[dX]at h;rw[jM]at u
  split
  ·rename_i hk;have h2:=u.1 hk
   match l,h2,h,u with
   |x::l,_,h,u=>
    have ho:=h.2.2.2.2.2.2.2.2.1;have hu:=u.2.2.1;rw[pr]at ho;rw[ie]at hu
    have:=By x ho.1 hu.1;rw[kj];exact nT this Nat.left_le_or
  ·unfold Kb;split
   ·omega
   ·split
    ·omega
    ·split
     ·omega
     ·split
      ·omega
      ·exact Nat.one_le_two_pow
theorem Jo{t:Tr}(h:Fine t){j:Nat}(hj:j<(aL t).length):Fine (aL t)[j]:=by
 obtain⟨k,n,p,l,o⟩:=t;obtain⟨h1,h2,h3⟩:=h;rw[dX]at h1;rw[jM]at h2;rw[fS]at h3
 have hm:l[j]∈l:=gM hj;exact⟨fJ h1.2.2.2.2.2.2.2.2.1 _ hm,nS h2.2.2.1 _ hm,uU h3.2.2.1 _ hm⟩
theorem DM{t u:Tr}(h:Fine t){x:BA}(hg:nM t x=some u):Fine u:=by
 unfold nM at hg;split at hg
 ·cases hg;exact gG (by omega)
 ·split at hg
  ·exact(xJ h hg).1
  ·cases hg
end Ty
namespace Ty
def N0(ks:List Key)(m:Nat)(r:Except Ft Pg):Bool:=match r with
 | .ok p=>decide (p.ns.map key=ks)&&(p.main==m)
 | .error _=>false
theorem PJ{s:BA}{l:List Sm}{ks:List Key}{m:Nat}(h:N0 ks m (parse s)=true)(g: (eu 0 l []).1.map key=ks/\(eu 0 l []).2=m)(pg:Pg)(hp:parse s=.ok pg):eu 0 l []=(pg.ns,pg.main):=by
 unfold N0 at h;rw[hp]at h
 simp only[Bool.and_eq_true,decide_eq_true_eq,beq_iff_eq]at h;exact Prod.ext (AQ (g.1.trans h.1.symm)) (g.2.trans h.2.symm)
end Ty
namespace Ty
abbrev Kt:=Nat->Option Nat
def nD{α:Type}(K:Nat->α)(n:Nat)(t:α):Nat->α:=λk=>if k=n then t else K k
def ll(K:Kt)(l:List Nat):Kt:=λk=>if k∈l then none else K k
def Oy(K:Kt)(ca:Nat->Bool)(n:Nat):Nat:=if ca n=true then 127 else(K n).getD 127
def AP(x:Nd):Option Nat:=
 if x.kind=13\/x.kind=12 then(if x.text=⟨#[61,61]⟩\/x.text=⟨#[60]⟩\/x.text=⟨#[33]⟩then some 2 else if x.text=⟨#[45]⟩\/x.text=⟨#[42]⟩then some 1 else if x.text=⟨#[116,121,112,101,111,102]⟩then some 4 else none)else none
section
variable (pg:Pg) (tq:Nat->Nat) (ca:Nat->Bool) (G:Kt)
def vt(K:Kt)(n:Nat):Nat:=
 if(cV pg.ns n).kind=1 then 1 else if(cV pg.ns n).kind=2 then 4 else if(cV pg.ns n).kind=3 then 2 else if(cV pg.ns n).kind=4 then 8
 else if(cV pg.ns n).kind=6 then 64 else if(cV pg.ns n).kind=10 then 16 else if(cV pg.ns n).kind=11 then 32
 else if(cV pg.ns n).kind=5 then Oy K ca (tq n)else((AP (cV pg.ns n)).or (G n)).getD 127
def cK:Nat->Nat->List Nat
 |0,_=>[]
 |f+1,n=>if(cV pg.ns n).kind=6 then []else(if(cV pg.ns n).kind=18 then [tq n]else [])++(bH (cV pg.ns n)).flatMap (cK f)
abbrev LQ:=Kt×(Nat->Bool)
def pT(l:List Nat):Kt:=λk=>if k∈l then G k else none
def E3(n:Nat)(q:LQ):LQ:=match G n with
 |none=>q
 |some t=>(nD q.1 (tq n) (some (Oy q.1 ca (tq n)&&&t)),nD q.2 n ((Oy q.1 ca (tq n))&&&(127-t)==0))
def fA:Nat->Nat->LQ->LQ
 |0,_,q=>q
 |f+1,n,q=>
  if(cV pg.ns n).kind=6 then(q.1,(fA f (cV pg.ns n).a (pT G (cV pg.ns n).list,q.2)).2)
  else if(cV pg.ns n).kind=5 then E3 tq ca G n q
  else if(cV pg.ns n).kind=17 then(nD (fA f (cV pg.ns n).a q).1 n (some (vt pg tq ca G (fA f (cV pg.ns n).a q).1 (cV pg.ns n).a)),(fA f (cV pg.ns n).a q).2)
  else if(cV pg.ns n).kind=18 then(nD (fA f (cV pg.ns n).a q).1 (tq n) (some (vt pg tq ca G (fA f (cV pg.ns n).a q).1 (cV pg.ns n).a)),(fA f (cV pg.ns n).a q).2)
  else if(cV pg.ns n).kind=22 then
   (if(cV pg.ns n).c<0 then(ll (fA f (cV pg.ns n).a q).1 (cK pg tq f (cV pg.ns n).b),(fA f (cV pg.ns n).b (fA f (cV pg.ns n).a q)).2)
   else(ll (ll (fA f (cV pg.ns n).a q).1 (cK pg tq f (cV pg.ns n).c.toNat)) (cK pg tq f (cV pg.ns n).b),(fA f (cV pg.ns n).c.toNat ((fA f (cV pg.ns n).a q).1,(fA f (cV pg.ns n).b (fA f (cV pg.ns n).a q)).2)).2))
  else if(cV pg.ns n).kind=23 then
   (ll q.1 (cK pg tq f (cV pg.ns n).a++cK pg tq f (cV pg.ns n).b),(fA f (cV pg.ns n).b (fA f (cV pg.ns n).a (ll q.1 (cK pg tq f (cV pg.ns n).a++cK pg tq f (cV pg.ns n).b),q.2))).2)
  else(bH (cV pg.ns n)).foldl (λq m=>fA f m q) q
end
def E'(l:il):Kt:=l.foldl (λG p=>nD G p.1 (some p.2)) λ_=>none
def sy(pg:Pg)(tq:Nat->Nat)(ca:Nat->Bool)(l:il):il:=
 l.filter λp=>!(fA pg tq ca (E' l) (pg.main+1) pg.main (λ_=>none,λ_=>false)).2 p.1
def xC:BA:=⟨#[108,101,116,32,103,32,61,32,102,110,40,120,58,32,110,117,109,41,32,123,125,59,32,108,101,116,32,102,32,61,32,102,110,40,97,41,32,123,32,103,40,97,41,59,32,103,40,97,41,59,32,125,59]⟩
def uc:List Sm:=[.jR 0 ⟨#[103]⟩ (-1) (.fn 8 [⟨11,⟨#[120]⟩,0⟩] (-1) 19 []),.jR 23 ⟨#[102]⟩ (-1) (.fn 31 [⟨34,⟨#[97]⟩,-1⟩] (-1) 37 [.u9 39 (.call 39 (.var 39 ⟨#[103]⟩) [.var 41 ⟨#[97]⟩]),.u9 45 (.call 45 (.var 45 ⟨#[103]⟩) [.var 47 ⟨#[97]⟩])])]
def JY:List Key:=[([16,0,0,0,11],[0,0],[],[120]),([26,0,0,0,19],[0,-1],[],[]),([6,1,0,0,8],[0,-1],[0],[]),
  ([17,2,0,0,0],[0,-1],[],[103]),([16,0,0,0,34],[0,-1],[],[97]),
  ([5,0,0,0,39],[0,-1],[],[103]),([5,0,0,0,41],[0,-1],[],[97]),([7,5,0,0,39],[0,-1],[6],[]),
  ([25,7,0,0,39],[0,-1],[],[]),([5,0,0,0,45],[0,-1],[],[103]),([5,0,0,0,47],[0,-1],[],[97]),
  ([7,9,0,0,45],[0,-1],[10],[]),([25,11,0,0,45],[0,-1],[],[]),
  ([26,0,0,0,37],[0,-1],[8,12],[]),([6,13,0,0,31],[0,-1],[4],[]),
  ([17,14,0,0,23],[0,-1],[],[102]),([26,0,0,0,0],[0,-1],[3,15],[])]
theorem Ab(pg:Pg)(hp:parse xC=.ok pg):eu 0 uc []=(pg.ns,pg.main):=PJ (ks:=JY) (m:=16) (by decide+kernel) (by simp[uc,JY,eu,eO,dK,aT,h_,g_,key,af]) pg hp
theorem ug: (match xi xC uc with| .ok (pg,v,c)=>decide (gC pg (qN v) c (pg.main+1) pg.main []=[(0,1),(6,1),(10,1)])&&decide (sy pg (qN v) v.ca [(0,1),(6,1),(10,1)]=[(0,1),(6,1)])| .error _=>false)=true:=by decide+kernel
end Ty
end Go.Proofs.YtdlbhiaceheffabGreatDoor
