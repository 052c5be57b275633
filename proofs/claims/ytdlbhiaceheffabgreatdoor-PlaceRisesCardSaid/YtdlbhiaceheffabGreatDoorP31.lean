/- Plain: the nodes of a checked program: which lie within which, and what checking has found of each. No program in sight. -/
import Derived.Test.YtdlbhiaceheffabGreatDoorP30
set_option linter.all false
set_option maxRecDepth 100000
set_option maxHeartbeats 2000000
namespace Go.Proofs.YtdlbhiaceheffabGreatDoor
open Go Go.RowKit Ty Tok ak Tryz Proofs.Tryz
namespace Ty
def dM(nd:Nd):List Nat:=
 if nd.kind=7 then nd.a::nd.list
 else if nd.kind=10∨nd.kind=11∨nd.kind=26 then nd.list
 else if nd.kind=9∨nd.kind=12∨nd.kind=19∨nd.kind=23 then [nd.a,nd.b]
 else if nd.kind=20 then [nd.a,nd.b,nd.c.toNat]
 else if nd.kind=22 then(if nd.c<0 then [nd.a,nd.b]else [nd.a,nd.b,nd.c.toNat])
 else if nd.kind≤6∨nd.kind=16 then []
 else [nd.a]
def cX(nd:Nd):List Nat:=if nd.kind=6 then nd.list++[nd.a]else dM nd
mutual
inductive Lt(ns:List Nd):Nat→Nat→Prop
 |mk {lo n:Nat} {nd:Nd}:ns[n]?=some nd→LtL ns (cX nd) lo n→Lt ns lo n
inductive LtL(ns:List Nd):List Nat→Nat→Nat→Prop
 |nil {lo:Nat}:LtL ns [] lo lo
 |cons {k lo hi:Nat} {ks:List Nat}:Lt ns lo k→LtL ns ks (k+1) hi→LtL ns (k::ks) lo hi
end
inductive Vis(ns:List Nd):Bool→Nat→Prop
 |mk {r:Bool} {n:Nat} {nd:Nd}:ns[n]?=some nd→nd.kind≠16∧1≤nd.kind∧nd.kind≤26→(r=false→nd.kind≠24)→(nd.kind≠6→∀k∈cX nd,Vis ns r k)→(nd.kind=6→Vis ns true nd.a)→Vis ns r n
mutual
theorem Lt.le{ns:List Nd}{lo n:Nat}:Lt ns lo n→lo≤n
 | .mk _ h=>LtL.le h
theorem LtL.le{ns:List Nd}{ks:List Nat}{lo hi:Nat}:LtL ns ks lo hi→lo≤hi
 | .nil=>nR _
 | .cons h g=>by have:=Lt.le h;have:=LtL.le g;omega
end
theorem Vis.inv{ns:List Nd}{r:Bool}{n:Nat}{nd:Nd}(hn:ns[n]?=some nd)(h:Vis ns r n): (nd.kind≠16∧1≤nd.kind∧nd.kind≤26)∧(r=false→nd.kind≠24)∧(nd.kind≠6→∀k∈cX nd,Vis ns r k)∧(nd.kind=6→Vis ns true nd.a):=by
 cases h with
 |mk e1 e2 e3 e4 e5=>
  rw[hn]at e1
  cases e1;exact⟨e2,e3,e4,e5⟩
theorem LtL.mem{ns:List Nd}:∀{ks:List Nat}{lo hi:Nat},LtL ns ks lo hi→∀k∈ks,k<hi∧∃l,lo≤l∧Lt ns l k
 |[],lo,hi,h=>λk h=>by cases h
 |k::ks,lo,hi,h=>by
  cases h with
  |cons h1 h2=>
   have g0:=h1.le;have g2:=h2.le;intro j hj;rcases List.mem_cons.1 hj with rfl|hj
   ·exact⟨by omega,lo,nR _,h1⟩
   ·obtain⟨a2,l,a3,a4⟩:=LtL.mem h2 j hj;exact⟨a2,l,by omega,a4⟩
theorem LtL.len{ns:List Nd}:∀{ks:List Nat}{lo hi:Nat},LtL ns ks lo hi→ks.length+lo≤hi
 |[],lo,hi,h=>by cases h;simp
 |k::ks,lo,hi,h=>by
  cases h with
  |cons h1 h2=>
   have:=h1.le;have:=LtL.len h2;rw[List.length_cons];omega
theorem LtL.app{ns:List Nd}:∀{ks ls:List Nat}{lo mid hi:Nat},LtL ns ks lo mid→LtL ns ls mid hi→LtL ns (ks++ls) lo hi
 |[],ls,lo,mid,hi,h,g=>by cases h;exact g
 |k::ks,ls,lo,mid,hi,h,g=>by
  cases h with
  |cons h1 h2=>exact .cons h1 (h2.app g)
structure NdQ(pg:Pg)(tq:Nat→Nat)(s:Ck)(n:Nat)(nd:Nd):Prop where
 of:1≤nd.kind→nd.kind≤14→(s.of n).isSome=true
 kx:fM s.of (c9 pg nd)=true
 ky:fM s.of (dx nd)=true
 lt:∀m∈c9 pg nd++dx nd,m<n
 call:nd.kind=7→kindOf (tO s.of nd.a)=9→(aN (tO s.of nd.a)).length=nd.list.length
 set:nd.kind=18→(s.has (tq n)).isSome=true
 asX:nd.kind=14→nd.a<n∧(s.of nd.a).isSome=true
 lay:nd.kind=20→0≤nd.c
 len:nd.list.length≤n
structure NdZ(pg:Pg)(s:Ck)(nd:Nd):Prop where
 obj:nd.kind=10→∀p∈nd.list,(eW pg.ns p).kind=15
 asX:nd.kind=14→(s.of nd.a).isSome=true
 lay:nd.kind=20→0≤nd.c
 rg: (decide (1≤nd.kind)&&decide (nd.kind≤26))=true
 body:nd.kind=6→(eW pg.ns nd.a).kind≠16
 bU: (nd.kind==6||nd.kind==7||nd.kind==10||nd.kind==11||nd.kind==26||nd.list.isEmpty)=true
theorem vz{pg:Pg}{s:Ck}{nd:Nd}(h: (nd.kind !=10&&nd.kind !=14&&nd.kind !=20&&nd.kind !=6&&decide (1≤nd.kind)&&decide (nd.kind≤26))=true)(hl: (nd.kind==6||nd.kind==7||nd.kind==10||nd.kind==11||nd.kind==26||nd.list.isEmpty)=true):NdZ pg s nd:=by
 simp only[Bool.and_eq_true,bne_iff_ne,decide_eq_true_eq]at h;exact⟨λe=>absurd e h.1.1.1.1.1,λe=>absurd e h.1.1.1.1.2,λe=>absurd e h.1.1.1.2,by simp[h.1.2,h.2],λe=>absurd e h.1.1.2,hl⟩
theorem mE{f g:Nat→Option Tr}{l:List Nat}(h:fM f l=true)(e:∀m∈l,g m=f m):fM g l=true:=by
 unfold fM at h⊢;rw[List.all_eq_true]at h⊢
 exact λm hm=>by rw[e m hm];exact h m hm
theorem NdQ.keep{pg:Pg}{tq:Nat→Nat}{s s':Ck}{n:Nat}{nd:Nd}(h:NdQ pg tq s n nd)(e:∀m,m≤n→s'.of m=s.of m)(g:∀m,(s.has m).isSome=true→(s'.has m).isSome=true):NdQ pg tq s' n nd:=by
 refine⟨λa b=>by rw[e n (Nat.le_refl _)];exact h.of a b,mE h.kx λm hm=>e m (Nat.le_of_lt (h.lt m (by simp[hm]))),mE h.ky λm hm=>e m (Nat.le_of_lt (h.lt m (by simp[hm]))),h.lt,λh7 h9=>?_,λk=>g _ (h.set k),λk=>⟨(h.asX k).1,by rw[e _ (Nat.le_of_lt (h.asX k).1)];exact(h.asX k).2⟩,h.lay,h.len⟩;have ha:s'.of nd.a=s.of nd.a:=e _ (Nat.le_of_lt (h.lt _ (by unfold c9;rw[if_pos h7];simp)));have e2:tO s'.of nd.a=tO s.of nd.a:=by unfold tO;rw[ha]
 rw[e2]at h9⊢
 exact h.call h7 h9
structure Tv(p:Bool)(pg:Pg)(tq:Nat→Nat)(s s':Ck)(bk:List (Option Tr))(lo hi:Nat)(ks:List Nat):Prop where
 of:∀n,n<lo∨hi≤n→s'.of n=s.of n
 has:∀n,(s.has n).isSome=true→(s'.has n).isSome=true
 lt:LtL pg.ns ks lo hi
 nd:∀n nd,lo≤n→n<hi→pg.ns[n]?=some nd→NdQ pg tq s' n nd
 ret:∀k∈ks,(eW pg.ns k).kind≠16→Vis pg.ns (!bk.isEmpty) k
 rt:p=false→∀k∈ks,(eW pg.ns k).kind≠16
section
variable {p p1:Bool} {pg:Pg} {tq:Nat→Nat} {s s1 s2:Ck} {bk:List (Option Tr)} {lo mid hi n:Nat} {ks ls:List Nat} {nd:Nd}
theorem Tv.nil(s:Ck)(lo:Nat):Tv p pg tq s s bk lo lo []:=⟨λ_ _=>rfl,λ_ h=>h,.nil,λn nd a b=>absurd a (by omega),λk h=>(by cases h),λ_ k h=>(by cases h)⟩
theorem Tv.cat(h:Tv p pg tq s s1 bk lo mid ks)(g:Tv p1 pg tq s1 s2 bk mid hi ls):Tv (p||p1) pg tq s s2 bk lo hi (ks++ls):=by
 have h1:=h.lt.le;have h2:=g.lt.le;refine⟨λn hn=>(g.of n (by omega)).trans (h.of n (by omega)),λn hn=>g.has n (h.has n hn),h.lt.app g.lt,λn nd ha hb hn=>?_,λk hk=>?_,λe k hk=>?_⟩
 ·rcases Nat.lt_or_ge n mid with hc|hc
  ·exact(h.nd n nd ha hc hn).keep (λm hm=>g.of m (by omega)) g.has
  ·exact g.nd n nd hc hb hn
 ·rcases List.mem_append.1 hk with hk|hk
  ·exact h.ret k hk
  ·exact g.ret k hk
 ·rw[Bool.or_eq_false_iff]at e
  rcases List.mem_append.1 hk with hk|hk
  ·exact h.rt e.1 k hk
  ·exact g.rt e.2 k hk
theorem G2(dS:nd.kind≠10):∀m∈c9 pg nd++dx nd,m∈cX nd:=by
 intro m hm;unfold c9 dx at hm;unfold cX dM;rcases List.mem_append.1 hm with hm|hm
 ·by_cases h7:nd.kind=7
  ·rw[if_pos h7]at hm;rw[if_neg (by omega),if_pos h7];exact hm
  rw[if_neg h7]at hm
  by_cases h8:nd.kind=8∨nd.kind=13
  ·rw[if_pos h8]at hm
   rw[if_neg (by omega),if_neg (by omega),if_neg (by omega),if_neg (by omega),if_neg (by omega),if_neg (by omega),if_neg (by omega)];exact hm
  rw[if_neg h8]at hm
  by_cases h9:nd.kind=9∨nd.kind=12
  ·rw[if_pos h9]at hm
   rw[if_neg (by omega),if_neg (by omega),if_neg (by omega),if_pos (by omega)];exact hm
  rw[if_neg h9]at hm
  by_cases ln:nd.kind=11
  ·rw[if_pos ln]at hm
   rw[if_neg (by omega),if_neg (by omega),if_pos (by omega)];exact hm
  rw[if_neg ln,if_neg dS]at hm
  cases hm
 ·by_cases h7:nd.kind=17∨nd.kind=18∨nd.kind=24
  ·rw[if_pos h7]at hm
   rw[if_neg (by omega),if_neg (by omega),if_neg (by omega),if_neg (by omega),if_neg (by omega),if_neg (by omega),if_neg (by omega)];exact hm
  rw[if_neg h7]at hm
  by_cases h8:nd.kind=19
  ·rw[if_pos h8]at hm
   rw[if_neg (by omega),if_neg (by omega),if_neg (by omega),if_pos (by omega)];exact hm
  rw[if_neg h8]at hm
  by_cases h9:nd.kind=20
  ·rw[if_pos h9]at hm
   rw[if_neg (by omega),if_neg (by omega),if_neg (by omega),if_neg (by omega),if_pos h9];exact hm
  rw[if_neg h9]at hm
  cases hm
theorem Tv.node{Ug:List (Option Tr)}{q:Bool}(h:Tv p pg tq s s1 Ug lo n ks)(hn:pg.ns[n]?=some nd)(hk:cX nd=ks)(hv:jg pg tq n bk s1=.ok s2)(hb:nd.kind≠6→Ug=bk∧p=false)(zj:nd.kind=6→Ug≠[])(hz:NdZ pg s1 nd)(hh:n+1=hi)(hq:q=(nd.kind==16)):Tv q pg tq s s2 bk lo hi [hi-1]:=by
 subst hh;subst hk;rw[Nat.add_sub_cancel];have bm:∀m∈c9 pg nd++dx nd,m<n:=λm hm=>by
  by_cases h1:nd.kind=10
  ·unfold c9 dx at hm;rw[if_neg (by omega),if_neg (by omega),if_neg (by omega),if_neg (by omega),if_pos h1,if_neg (by omega),if_neg (by omega),if_neg (by omega),List.append_nil]at hm
   obtain⟨p,hp,rfl⟩:=List.mem_map.1 hm;have sM:cX nd=nd.list:=by unfold cX dM;rw[if_neg (by omega),if_neg (by omega),if_pos (by omega)]
   obtain⟨a1,l,_,a2⟩:=h.lt.mem p (by rw[sM];exact hp);have Uv:=hz.obj h1 p hp;cases a2 with
   |mk e1 e2=>
    rename_i q;rw[cj e1]at Uv⊢
    have:=(e2.mem q.a (by unfold cX dM;rw[if_neg (by omega),if_neg (by omega),if_neg (by omega),if_neg (by omega),if_neg (by omega),if_neg (by omega),if_neg (by omega)];simp)).1;omega
  ·exact(h.lt.mem m (G2 h1 m hm)).1
 have Ud:=h.lt.le;unfold jg at hv;rw[cj hn]at hv
 have Lm:∀m,m≠n→s2.of m=s1.of m:=by
  intro m hm;split at hv
  ·obtain⟨t,_,_,rfl⟩:=mL hv;show eX s1.of n t m= _;unfold eX;rw[if_neg hm]
  ·rcases BU hv with rfl|⟨_,_,rfl⟩<;>rfl
 have Vc:∀m,(s1.has m).isSome=true→(s2.has m).isSome=true:=λm hm=>by
  split at hv
  ·obtain⟨t,_,_,rfl⟩:=mL hv;exact hm
  ·rcases BU hv with rfl|⟨_,_,rfl⟩
   ·exact hm
   ·show(eX s1.has n _ m).isSome=true;unfold eX;split
    ·rfl
    ·exact hm
 have hx:fM s1.of (c9 pg nd)=true∧fM s1.of (dx nd)=true:=by
  split at hv
  ·rename_i hr;obtain⟨t,ht,_,rfl⟩:=mL hv;refine⟨Classical.byContradiction λhk=>?_,?_⟩
   ·unfold fN at ht;rw[if_neg hk]at ht;cases ht
   ·have:dx nd=[]:=by unfold dx;rw[if_neg (by omega),if_neg (by omega),if_neg (by omega)]
    rw[this];rfl
  ·rename_i hr;refine⟨?_,Classical.byContradiction λhk=>?_⟩
   ·have:c9 pg nd=[]:=by unfold c9;rw[if_neg (by omega),if_neg (by omega),if_neg (by omega),if_neg (by omega),if_neg (by omega)]
    rw[this];rfl
   ·unfold iw at hv;rw[if_neg hk]at hv;cases hv
 refine⟨λm hm=>(Lm m (by omega)).trans (h.of m (by omega)),λm hm=>Vc m (h.has m hm),.cons (.mk hn h.lt) .nil,λm q ha aI hq=>?_,λk hk YK=>?_,λe k hk=>?_⟩
 ·rcases Nat.lt_or_ge m n with hc|hc
  ·exact(h.nd m q ha hc hq).keep (λj hj=>Lm j (by omega)) Vc
  ·have:m=n:=by omega
   subst this;rw[hn]at hq;cases hq
   refine⟨λh1 h2=>?_,mE hx.1 λj hj=>Lm j (by have:=bm j (by simp[hj]);omega),mE hx.2 λj hj=>Lm j (by have:=bm j (by simp[hj]);omega),bm,λh7 h9=>?_,λwX=>Vc _ ?_,λyp=>?_,hz.lay,?_⟩
   ·rw[if_pos ⟨h1,h2⟩]at hv
    obtain⟨t,_,_,rfl⟩:=mL hv;exact xJ _ _ _
   ·have RI:nd.a∈c9 pg nd:=by unfold c9;rw[if_pos h7];simp
    have e2:tO s2.of nd.a=tO s1.of nd.a:=by unfold tO;rw[Lm _ (by have:=bm nd.a (by simp[RI]);omega)]
    rw[e2]at h9⊢
    rw[if_pos (by omega)]at hv
    obtain⟨t,ht,_,rfl⟩:=mL hv;unfold fN at ht;rw[if_pos hx.1]at ht
    unfold lL at ht;rw[if_neg (by omega),if_neg (by omega),if_neg (by omega),if_neg (by omega),if_neg (by omega),if_neg (by omega),if_pos h7]at ht
    have hc:=rM ht;unfold kF at hc;rw[if_neg (by omega)]at hc
    split at hc
    ·rename_i hl;rw[hl.2,List.length_map]
    ·cases hc
   ·rw[if_neg (by omega)]at hv
    unfold iw at hv;rw[if_pos hx.2]at hv
    unfold px at hv;rw[if_neg (by omega),if_pos wX]at hv
    split at hv
    ·cases hv
    ·rename_i t ht;rw[ht];rfl
   ·have ha:nd.a<m:=(h.lt.mem nd.a (by unfold cX dM;rw[if_neg (by omega),if_neg (by omega),if_neg (by omega),if_neg (by omega),if_neg (by omega),if_neg (by omega),if_neg (by omega)];simp)).1;exact⟨ha,by rw[Lm _ (by omega)];exact hz.asX yp⟩
   ·have h9:=h.lt.len;have h8:=hz.bU;simp only[Bool.or_eq_true,beq_iff_eq,List.isEmpty_iff]at h8;by_cases h6:nd.kind=6
    ·unfold cX at h9;rw[if_pos h6,List.length_append,List.length_singleton]at h9;omega
    ·unfold cX dM at h9;rw[if_neg h6]at h9
     by_cases h7:nd.kind=7
     ·rw[if_pos h7,List.length_cons]at h9;omega
     ·rw[if_neg h7]at h9
      by_cases dS:nd.kind=10∨nd.kind=11∨nd.kind=26
      ·rw[if_pos dS]at h9;omega
      ·have:nd.list=[]:=by rcases h8 with((((h|h)|h)|h)|h)|h<;>first|omega|exact h
       rw[this];exact Nat.zero_le _
 ·rw[List.mem_singleton]at hk
  subst hk;rw[cj hn]at YK
  have Mm:=hz.rg;simp only[Bool.and_eq_true,decide_eq_true_eq]at Mm;refine .mk hn ⟨YK,Mm⟩ (λe JP=>?_) (λh6 j hj=>?_) λh6=>?_
  ·have e0:bk=[]:=by simpa using e
   rw[if_neg (by omega)]at hv
   unfold iw at hv;rw[if_pos hx.2]at hv
   unfold px at hv;rw[if_neg (by omega),if_neg (by omega),if_neg (by omega),if_neg (by omega),if_pos JP,e0]at hv
   cases hv
  ·rw[←(hb h6).1];exact h.ret j hj (h.rt (hb h6).2 j hj)
  ·have:=h.ret nd.a (by unfold cX;rw[if_pos h6];simp) (hz.body h6);rwa [show(!Ug.isEmpty)=true by simpa using zj h6]at this
 ·rw[List.mem_singleton]at hk
  subst hk;rw[cj hn];rw[e]at hq
  exact λh=>by rw[h]at hq;cases hq
theorem Ik(hn:pg.ns[n]?=some nd)(hk:nd.kind=16∨nd.kind=26):jg pg tq n bk s=.ok s:=by
 have h0:dx nd=[]:=by unfold dx;rw[if_neg (by omega),if_neg (by omega),if_neg (by omega)]
 unfold jg iw;rw[cj hn,if_neg (by omega),h0,if_pos (show fM s.of []=true from rfl)];unfold px;rw[if_neg (by omega),if_neg (by omega),if_neg (by omega),if_neg (by omega),if_neg (by omega)]
theorem Tv.still{q:Bool}(h:Tv false pg tq s s1 bk lo n ks)(hn:pg.ns[n]?=some nd)(hk:cX nd=ks)(hs:nd.kind=16∨nd.kind=26)(hl: (nd.kind==6||nd.kind==7||nd.kind==10||nd.kind==11||nd.kind==26||nd.list.isEmpty)=true)(hh:n+1=hi)(hq:q=(nd.kind==16)):Tv q pg tq s s1 bk lo hi [hi-1]:=
 h.node hn hk (Ik hn hs) (λ_=>⟨rfl,rfl⟩) (λh=>by omega) (vz (by rcases hs with h|h<;>rw[h]<;>rfl) hl) hh hq
theorem TA{tq:Nat→Nat}:∀(l:List Par)(a:Nat)(s:Ck),qx pg.ns l a→Tv true pg tq s (gQ pg (eU l a) s) bk a (a+l.length) (eU l a)
 |[],a,s,_=>Tv.nil s a
 |q::l,a,s,h=>by
  rw[qx]at h
  have h1:=(Tv.nil (tq:=tq) (bk:=bk) {s with has:=eX s.has a (yo (ek pg.ts (eW pg.ns a).ty))} a).still (q:=true) h.1 (by rfl) (.inl rfl) rfl (hi:=a+1) rfl rfl;have h2:=h1.cat (TA l (a+1) _ h.2);rw[eU,gQ,List.length_cons,show a+(l.length+1)=a+1+l.length by omega];exact⟨h2.of,λn hn=>h2.has n (by show(eX s.has a _ n).isSome=true;unfold eX;split;rfl;exact hn),h2.lt,h2.nd,h2.ret,h2.rt⟩
end
theorem RF{ns:List Nd}:∀(l:List (Nat×BA×Ex))(a:Nat),jW ns l a→∀p∈ff l a,(eW ns p).kind=15
 |[],a,_,p,h=>by simp[ff]at h
 |(_,_,e)::l,a,h,p,hp=>by
  rw[jW]at h
  rw[ff]at hp
  rcases List.mem_cons.1 hp with rfl|hp
  ·rw[cj h.2.1];rfl
  ·exact RF l _ h.2.2 p hp
section
variable {pg:Pg} {tq:Nat→Nat}
theorem Tv.ex{s s':Ck}{bk:List (Option Tr)}{lo hi n:Nat}{nd:Nd}(h:Tv false pg tq s s' bk lo hi [hi-1])(hn:pg.ns[n]?=some nd)(hk: (1≤nd.kind&&nd.kind≤14)=true)(hh:n+1=hi):Tv false pg tq s s' bk lo hi [hi-1]∧(s'.of (hi-1)).isSome=true:=by
 subst hh;simp only[Bool.and_eq_true,decide_eq_true_eq]at hk;have hl:=(h.lt.mem _ (List.mem_singleton.2 rfl)).2;obtain⟨l,h1,h2⟩:=hl;have:=h2.le;exact⟨h,(h.nd n nd (by omega) (by omega) hn).of hk.1 hk.2⟩
theorem Np(n:Nat)(s:Ck): (nW pg n s).of=s.of:=by unfold nW;split<;>rfl
mutual
theorem tI:∀(e:Ex)(a:Nat)(bk:List (Option Tr))(s s':Ck),dp pg.ns e a→ft pg tq e a bk s=.ok s'→Tv false pg tq s s' bk a (a+ax e) [a+ax e-1]∧(s'.of (a+ax e-1)).isSome=true
 | .num _ _,a,bk,s,s',h,hc=>by
  rw[dp]at h
  rw[ft]at hc
  exact((Tv.nil s a).node h (by rfl) hc (λ_=>⟨rfl,rfl⟩) (λh=>by cases h) (vz rfl rfl) (by rw[ax]) rfl).ex h rfl (by rw[ax])
 | .text _ _,a,bk,s,s',h,hc=>by
  rw[dp]at h
  rw[ft]at hc
  exact((Tv.nil s a).node h (by rfl) hc (λ_=>⟨rfl,rfl⟩) (λh=>by cases h) (vz rfl rfl) (by rw[ax]) rfl).ex h rfl (by rw[ax])
 | .bool _ _,a,bk,s,s',h,hc=>by
  rw[dp]at h
  rw[ft]at hc
  exact((Tv.nil s a).node h (by rfl) hc (λ_=>⟨rfl,rfl⟩) (λh=>by cases h) (vz rfl rfl) (by rw[ax]) rfl).ex h rfl (by rw[ax])
 | .null _,a,bk,s,s',h,hc=>by
  rw[dp]at h
  rw[ft]at hc
  exact((Tv.nil s a).node h (by rfl) hc (λ_=>⟨rfl,rfl⟩) (λh=>by cases h) (vz rfl rfl) (by rw[ax]) rfl).ex h rfl (by rw[ax])
 | .var _ _,a,bk,s,s',h,hc=>by
  rw[dp]at h
  rw[ft]at hc
  exact((Tv.nil s a).node h (by rfl) hc (λ_=>⟨rfl,rfl⟩) (λh=>by cases h) (vz rfl rfl) (by rw[ax]) rfl).ex h rfl (by rw[ax])
 | .fn p ps ty bp body,a,bk,s,s',h,hc=>by
  rw[dp]at h
  rw[ft]at hc
  obtain⟨s1,h1,h2⟩:=aG hc;have g1:=TA (tq:=tq) (bk:=bk++[ek pg.ts ty]) ps a s h.1;have g2:=(De body _ _ _ _ h.2.1 h1).still h.2.2.1 (by rfl) (.inr rfl) rfl (hi:=a+ps.length+aL body+1) (q:=false) rfl rfl;exact((g1.cat g2).node h.2.2.2 (by rfl) h2 (λh=>absurd rfl h) (λ_=>by simp) ⟨λh=>(by cases h),λh=>(by cases h),λh=>(by cases h),rfl,λ_=>by rw[show({af 6 p with list:=eU ps a,ty:=ty,a:=a+ps.length+aL body}:Nd).a=a+ps.length+aL body from rfl,cj h.2.2.1];show(26:Nat)≠16;decide,rfl⟩ (by rw[ax];omega) rfl).ex h.2.2.2 rfl (by rw[ax];omega)
 | .call p e l,a,bk,s,s',h,hc=>by
  rw[dp]at h
  rw[ft]at hc
  obtain⟨s1,h1,h2⟩:=aG hc;obtain⟨s2,h3,h4⟩:=aG h2;exact(((tI e _ _ _ _ h.1 h1).1.cat (QE l _ _ _ _ h.2.1 h3)).node h.2.2 (by rfl) h4 (λ_=>⟨rfl,rfl⟩) (λh=>by cases h) (vz rfl rfl) (by rw[ax];omega) rfl).ex h.2.2 rfl (by rw[ax];omega)
 | .obj p l,a,bk,s,s',h,hc=>by
  rw[dp]at h
  rw[ft]at hc
  obtain⟨s1,h1,h2⟩:=aG hc;exact((TT l _ _ _ _ h.1 h1).node h.2 (by rfl) h2 (λ_=>⟨rfl,rfl⟩) (λh=>by cases h) ⟨λ_=>RF l a h.1,λh=>(by cases h),λh=>(by cases h),rfl,λh=>(by cases h),rfl⟩ (by rw[ax];omega) rfl).ex h.2 rfl (by rw[ax];omega)
 | .arr p l,a,bk,s,s',h,hc=>by
  rw[dp]at h
  rw[ft]at hc
  obtain⟨s1,h1,h2⟩:=aG hc;exact((QE l _ _ _ _ h.1 h1).node h.2 (by rfl) h2 (λ_=>⟨rfl,rfl⟩) (λh=>by cases h) (vz rfl rfl) (by rw[ax];omega) rfl).ex h.2 rfl (by rw[ax];omega)
 | .get p e x,a,bk,s,s',h,hc=>by
  rw[dp]at h
  rw[ft]at hc
  obtain⟨s1,h1,h2⟩:=aG hc;exact((tI e _ _ _ _ h.1 h1).1.node h.2 (by rfl) h2 (λ_=>⟨rfl,rfl⟩) (λh=>by cases h) (vz rfl rfl) (by rw[ax];omega) rfl).ex h.2 rfl (by rw[ax];omega)
 | .one p x e,a,bk,s,s',h,hc=>by
  rw[dp]at h
  rw[ft]at hc
  obtain⟨s1,h1,h2⟩:=aG hc;exact((tI e _ _ _ _ h.1 h1).1.node h.2 (by rfl) h2 (λ_=>⟨rfl,rfl⟩) (λh=>by cases h) (vz rfl rfl) (by rw[ax];omega) rfl).ex h.2 rfl (by rw[ax];omega)
 | .asX p e ty,a,bk,s,s',h,hc=>by
  rw[dp]at h
  rw[ft]at hc
  obtain⟨s1,h1,h2⟩:=aG hc;exact((tI e _ _ _ _ h.1 h1).1.node h.2 (by rfl) h2 (λ_=>⟨rfl,rfl⟩) (λh=>by cases h) ⟨λh=>(by cases h),λ_=>(tI e _ _ _ _ h.1 h1).2,λh=>(by cases h),rfl,λh=>(by cases h),rfl⟩ (by rw[ax];omega) rfl).ex h.2 rfl (by rw[ax];omega)
 | .atX p e i,a,bk,s,s',h,hc=>by
  rw[dp]at h
  rw[ft]at hc
  obtain⟨s1,h1,h2⟩:=aG hc;obtain⟨s2,h3,h4⟩:=aG h2;exact(((tI e _ _ _ _ h.1 h1).1.cat (tI i _ _ _ _ h.2.1 h3).1).node h.2.2 (by rfl) h4 (λ_=>⟨rfl,rfl⟩) (λh=>by cases h) (vz rfl rfl) (by rw[ax];omega) rfl).ex h.2.2 rfl (by rw[ax];omega)
 | .two p x e i,a,bk,s,s',h,hc=>by
  rw[dp]at h
  rw[ft]at hc
  obtain⟨s1,h1,h2⟩:=aG hc;obtain⟨s2,h3,h4⟩:=aG h2;exact(((tI e _ _ _ _ h.1 h1).1.cat (tI i _ _ _ _ h.2.1 h3).1).node h.2.2 (by rfl) h4 (λ_=>⟨rfl,rfl⟩) (λh=>by cases h) (vz rfl rfl) (by rw[ax];omega) rfl).ex h.2.2 rfl (by rw[ax];omega)
theorem QE:∀(l:List Ex)(a:Nat)(bk:List (Option Tr))(s s':Ck),kP pg.ns l a→nB pg tq l a bk s=.ok s'→Tv false pg tq s s' bk a (a+eT l) (fJ l a)
 |[],a,bk,s,s',h,hc=>by rw[nB]at hc;cases hc;exact Tv.nil s a
 |e::l,a,bk,s,s',h,hc=>by
  rw[kP]at h
  rw[nB]at hc
  obtain⟨s1,h1,h2⟩:=aG hc;rw[eT,fJ,←Nat.add_assoc];exact(tI e _ _ _ _ h.1 h1).1.cat (QE l _ _ _ _ h.2 h2)
theorem TT:∀(l:List (Nat×BA×Ex))(a:Nat)(bk:List (Option Tr))(s s':Ck),jW pg.ns l a→oU pg tq l a bk s=.ok s'→Tv false pg tq s s' bk a (a+fQ l) (ff l a)
 |[],a,bk,s,s',h,hc=>by rw[oU]at hc;cases hc;exact Tv.nil s a
 |(p,x,e)::l,a,bk,s,s',h,hc=>by
  rw[jW]at h
  rw[oU]at hc
  obtain⟨s2,h0,h4⟩:=aG hc;obtain⟨s1,h1,h2⟩:=aG h0;rw[fQ,ff,show a+(ax e+1+fQ l)=a+ax e+1+fQ l by omega];have g:=(tI e _ _ _ _ h.1 h1).1.node h.2.1 (by rfl) h2 (λ_=>⟨rfl,rfl⟩) (λh=>by cases h) (vz rfl rfl) (hi:=a+ax e+1) (q:=false) rfl rfl;exact g.cat (TT l _ _ _ _ h.2.2 h4)
theorem De:∀(l:List Sm)(a:Nat)(bk:List (Option Tr))(s s':Ck),je pg.ns l a→ku pg tq l a bk s=.ok s'→Tv false pg tq s s' bk a (a+aL l) (dX l a)
 |[],a,bk,s,s',h,hc=>by rw[ku]at hc;cases hc;exact Tv.nil s a
 |e::l,a,bk,s,s',h,hc=>by
  rw[je]at h
  rw[ku]at hc
  obtain⟨s1,h1,h2⟩:=aG hc;rw[aL,dX,←Nat.add_assoc];exact(abp e _ _ _ _ h.1 h1).cat (De l _ _ _ _ h.2 h2)
theorem abp:∀(e:Sm)(a:Nat)(bk:List (Option Tr))(s s':Ck),gR pg.ns e a→jT pg tq e a bk s=.ok s'→Tv false pg tq s s' bk a (a+db e) [a+db e-1]
 | .kj p x ty e,a,bk,s,s',h,hc=>by
  rw[gR]at h
  rw[jT]at hc
  obtain⟨s1,h1,h2⟩:=aG hc;have g:=(tI e _ _ _ _ h.1 h1).1.node h.2 (by rfl) h2 (λ_=>⟨rfl,rfl⟩) (λh=>by cases h) (vz rfl rfl) (hi:=a+db (.kj p x ty e)) (q:=false) (by rw[db];omega) rfl;exact⟨λn hn=>by rw[g.of n hn,Np],λn hn=>g.has n ((wq pg _ s).has n hn),g.lt,g.nd,g.ret,g.rt⟩
 | .set p x e,a,bk,s,s',h,hc=>by
  rw[gR]at h
  rw[jT]at hc
  obtain⟨s1,h1,h2⟩:=aG hc;exact(tI e _ _ _ _ h.1 h1).1.node h.2 (by rfl) h2 (λ_=>⟨rfl,rfl⟩) (λh=>by cases h) (vz rfl rfl) (by rw[db];omega) rfl
 | .print p e,a,bk,s,s',h,hc=>by
  rw[gR]at h
  rw[jT]at hc
  obtain⟨s1,h1,h2⟩:=aG hc;exact(tI e _ _ _ _ h.1 h1).1.node h.2 (by rfl) h2 (λ_=>⟨rfl,rfl⟩) (λh=>by cases h) (vz rfl rfl) (by rw[db];omega) rfl
 | .ret p e,a,bk,s,s',h,hc=>by
  rw[gR]at h
  rw[jT]at hc
  obtain⟨s1,h1,h2⟩:=aG hc;exact(tI e _ _ _ _ h.1 h1).1.node h.2 (by rfl) h2 (λ_=>⟨rfl,rfl⟩) (λh=>by cases h) (vz rfl rfl) (by rw[db];omega) rfl
 | .vW p e,a,bk,s,s',h,hc=>by
  rw[gR]at h
  rw[jT]at hc
  obtain⟨s1,h1,h2⟩:=aG hc;exact(tI e _ _ _ _ h.1 h1).1.node h.2 (by rfl) h2 (λ_=>⟨rfl,rfl⟩) (λh=>by cases h) (vz rfl rfl) (by rw[db];omega) rfl
 | .put p e x v,a,bk,s,s',h,hc=>by
  rw[gR]at h
  rw[jT]at hc
  obtain⟨s1,h1,h2⟩:=aG hc;obtain⟨s2,h3,h4⟩:=aG h2;exact((tI e _ _ _ _ h.1 h1).1.cat (tI v _ _ _ _ h.2.1 h3).1).node h.2.2 (by rfl) h4 (λ_=>⟨rfl,rfl⟩) (λh=>by cases h) (vz rfl rfl) (by rw[db];omega) rfl
 | .lay p e i v,a,bk,s,s',h,hc=>by
  rw[gR]at h
  rw[jT]at hc
  obtain⟨s1,h1,h2⟩:=aG hc;obtain⟨s2,h3,h4⟩:=aG h2;obtain⟨s3,h5,h6⟩:=aG h4;exact(((tI e _ _ _ _ h.1 h1).1.cat (tI i _ _ _ _ h.2.1 h3).1).cat (tI v _ _ _ _ h.2.2.1 h5).1).node h.2.2.2 (by rfl) h6 (λ_=>⟨rfl,rfl⟩) (λh=>by cases h) ⟨λh=>(by cases h),λh=>(by cases h),λ_=>Int.natCast_nonneg _,rfl,λh=>(by cases h),rfl⟩ (by rw[db];omega) rfl
 | .if_ p e bp b none,a,bk,s,s',h,hc=>by
  rw[gR]at h
  rw[jT]at hc
  obtain⟨s1,h1,h2⟩:=aG hc;obtain⟨s2,h3,h4⟩:=aG h2;have g:=(De b _ _ _ _ h.2.1 h3).still h.2.2.1 (by rfl) (.inr rfl) rfl (hi:=a+ax e+aL b+1) (q:=false) rfl rfl;exact((tI e _ _ _ _ h.1 h1).1.cat g).node h.2.2.2 (by rfl) h4 (λ_=>⟨rfl,rfl⟩) (λh=>by cases h) (vz rfl rfl) (by rw[db];omega) rfl
 | .if_ p e bp b (some (cp,c)),a,bk,s,s',h,hc=>by
  rw[gR]at h
  rw[jT]at hc
  obtain⟨s1,h1,h2⟩:=aG hc;obtain⟨s2,h3,h4⟩:=aG h2;obtain⟨s3,h5,h6⟩:=aG h4;have g:=(De b _ _ _ _ h.2.1 h3).still h.2.2.1 (by rfl) (.inr rfl) rfl (hi:=a+ax e+aL b+1) (q:=false) rfl rfl;have g2:=(De c _ _ _ _ h.2.2.2.1 h5).still h.2.2.2.2.1 (by rfl) (.inr rfl) rfl (hi:=a+ax e+aL b+1+aL c+1) (q:=false) rfl rfl;exact(((tI e _ _ _ _ h.1 h1).1.cat g).cat g2).node h.2.2.2.2.2 (by rfl) h6 (λ_=>⟨rfl,rfl⟩) (λh=>by cases h) (vz rfl rfl) (by rw[db];omega) rfl
 | .while_ p e bp b,a,bk,s,s',h,hc=>by
  rw[gR]at h
  rw[jT]at hc
  obtain⟨s1,h1,h2⟩:=aG hc;obtain⟨s2,h3,h4⟩:=aG h2;have g:=(De b _ _ _ _ h.2.1 h3).still h.2.2.1 (by rfl) (.inr rfl) rfl (hi:=a+ax e+aL b+1) (q:=false) rfl rfl;exact((tI e _ _ _ _ h.1 h1).1.cat g).node h.2.2.2 (by rfl) h4 (λ_=>⟨rfl,rfl⟩) (λh=>by cases h) (vz rfl rfl) (by rw[db];omega) rfl
end
end
end Ty
namespace Ty
abbrev lD:=List (Nat×Nat)
def rR(n:Nat)(t:Tr):lD:=if kindOf t=5∨kindOf t=6∨¬(1≤tags t∧tags t<127)then []else [(n,tags t)]
def qQ(n:Nat)(o:Option Tr):lD:=match o with
 |none=>[]
 |some t=>rR n t
def gV(f:Nat→Option Tr)(n:Nat)(o:Option Tr):lD:=if kindOf (tO f n)=5 then qQ n o else []
def gP(f:Nat→Option Tr):List Nat→List Tr→lD
 |a::l,t::ts=>gV f a (some t)++gP f l ts
 |[],_=>[]
 | _:: _,[]=>[]
def nJ(t:Tr)(x:BA):Option Tr:=if kindOf t=8 then some (jR 1)else if kindOf t=7 then part (cg t) (partsOf t) x else none
def dv(pg:Pg)(tq:Nat→Nat)(s:Ck)(n:Nat)(x:Nd)(bk:List (Option Tr)):lD:=
 if x.kind=7 then rR n (tO s.of n)++(if kindOf (tO s.of x.a)=9 then gP s.of x.list (aN (tO s.of x.a))else [])
 else if x.kind=8∨x.kind=9 then rR n (tO s.of n)
 else if x.kind=14 then gV s.of x.a (s.of n)
 else if x.kind=17 then gV s.of x.a (ek pg.ts x.ty)
 else if x.kind=18 then gV s.of x.a (s.has (tq n))
 else if x.kind=19 then gV s.of x.b (nJ (tO s.of x.a) x.text)
 else if x.kind=20 then(if kindOf (tO s.of x.a)=8 then gV s.of x.c.toNat (some (fq (tO s.of x.a)))else [])
 else if x.kind=24 then gV s.of x.a (bk.getLastD none)
 else []
def gS(pg:Pg)(tq:Nat→Nat)(s:Ck):Nat→Nat→List (Option Tr)→lD
 |0,_,_=>[]
 |f+1,n,bk=>(if(eW pg.ns n).kind=6 then(eW pg.ns n).list.flatMap (λp=>qQ p (ek pg.ts (eW pg.ns p).ty))++gS pg tq s f (eW pg.ns n).a (bk++[ek pg.ts (eW pg.ns n).ty])
   else(dM (eW pg.ns n)).flatMap λm=>gS pg tq s f m bk)++dv pg tq s n (eW pg.ns n) bk
theorem xA{n:Nat}{t:Tr}:∀p∈rR n t,p.1=n∧kindOf t≠5∧1≤p.2∧p.2<127:=by
 intro p hp;unfold rR at hp;split at hp
 ·cases hp
 ·rename_i h;rw[List.mem_singleton]at hp
  subst hp;exact⟨rfl,λe=>h (.inl e),Classical.byContradiction λe=>h (.inr (.inr λq=>e q.1)),Classical.byContradiction λe=>h (.inr (.inr λq=>e q.2))⟩
theorem yJ(n:Nat)(t:Tr): (rR n t).length≤1:=by unfold rR;split<;>simp
theorem yv{n:Nat}{o:Option Tr}:∀p∈qQ n o,p.1=n∧1≤p.2∧p.2<127:=by
 cases o with
 |none=>intro p hp;cases hp
 |some t=>exact λp hp=>⟨(xA p hp).1,(xA p hp).2.2⟩
theorem Ew(n:Nat)(o:Option Tr): (qQ n o).length≤1:=by
 cases o with
 |none=>simp[qQ]
 |some t=>exact yJ n t
theorem xK{f:Nat→Option Tr}{n:Nat}{o:Option Tr}:∀p∈gV f n o,p.1=n∧kindOf (tO f n)=5∧1≤p.2∧p.2<127:=by
 intro p hp;unfold gV at hp;split at hp
 ·rename_i h;exact⟨(yv p hp).1,h,(yv p hp).2⟩
 ·cases hp
theorem zq(f:Nat→Option Tr)(n:Nat)(o:Option Tr): (gV f n o).length≤1:=by
 unfold gV;split
 ·exact Ew n o
 ·simp
theorem lF{l:lD}(h:l.length≤1): (l.map Prod.fst).Nodup:=by
 match l,h with
 |[],_=>simp
 |[a],_=>simp
theorem oO{l m:lD}(h: (l.map Prod.fst).Nodup)(g: (m.map Prod.fst).Nodup)(hd:∀p∈l,∀q∈m,p.1≠q.1): ((l++m).map Prod.fst).Nodup:=by
 rw[List.map_append,List.nodup_append];refine⟨h,g,λa ha b hb=>?_⟩;obtain⟨p,hp,rfl⟩:=List.mem_map.1 ha;obtain⟨q,hq,rfl⟩:=List.mem_map.1 hb;exact hd p hp q hq
theorem zU{f:Nat→Option Tr}:∀{l:List Nat}{ts:List Tr},l.Nodup→((gP f l ts).map Prod.fst).Nodup∧∀p∈gP f l ts,p.1∈l∧kindOf (tO f p.1)=5∧1≤p.2∧p.2<127
 |[],ts,_=>by simp[gP]
 |a::l,[],_=>by simp[gP]
 |a::l,t::ts,hn=>by
  rw[List.nodup_cons]at hn
  have ih:=zU (f:=f) (ts:=ts) hn.2;rw[gP];refine⟨oO (lF (zq _ _ _)) ih.1 λp hp q hq e=>hn.1 ?_,λp hp=>?_⟩
  ·rw[←(xK p hp).1,e];exact(ih.2 q hq).1
  ·rcases List.mem_append.1 hp with hp|hp
   ·have:=xK p hp;exact⟨by rw[this.1];simp,by rw[this.1];exact this.2.1,this.2.2⟩
   ·have:=ih.2 p hp;exact⟨by simp[this.1],this.2⟩
theorem uR(f:Nat→Option Tr):∀{l:List Nat}{ts:List Tr}{j:Nat}(h1:j<l.length)(h2:j<ts.length),gP f (l.take (j+1)) (ts.take (j+1))=gP f (l.take j) (ts.take j)++gV f l[j] (some ts[j])
 |a::l,t::ts,0,h1,h2=>by simp[gP]
 |a::l,t::ts,j+1,h1,h2=>by
  have:=uR f (l:=l) (ts:=ts) (j:=j) (by simpa using h1) (by simpa using h2);simp only[List.take_succ_cons,gP,List.getElem_cons_succ,List.append_assoc]at this⊢;rw[this]
theorem tT(f:Nat→Option Tr):∀{j:Nat}(l:List Nat)(ts:List Tr),(gP f (l.take j) (ts.take j)).length≤(gP f l ts).length
 |0,l,ts=>by simp[gP]
 |j+1,[],ts=>by simp[gP]
 |j+1,a::l,[]=>by simp[gP]
 |j+1,a::l,t::ts=>by
  have:=tT f (j:=j) l ts;simp only[List.take_succ_cons,gP,List.length_append];omega
def Ap(lo hi:Nat)(L:lD):Prop:=(∀p∈L,lo≤p.1∧p.1<hi)∧(L.map Prod.fst).Nodup
theorem Ap.cat{lo mid hi:Nat}{L M:lD}(h:Ap lo mid L)(g:Ap mid hi M)(h1:lo≤mid)(h2:mid≤hi):Ap lo hi (L++M):=by
 refine⟨λp hp=>?_,oO h.2 g.2 λp hp q hq=>by have:=h.1 p hp;have:=g.1 q hq;omega⟩;rcases List.mem_append.1 hp with hp|hp
 ·have:=h.1 p hp;omega
 ·have:=g.1 p hp;omega
theorem Ap.flat{ns:List Nd}{G:Nat→lD}:∀{ks:List Nat}{lo hi:Nat},LtL ns ks lo hi→(∀k∈ks,∀l,Lt ns l k→Ap l (k+1) (G k))→Ap lo hi (ks.flatMap G)
 |[],lo,hi,h,g=>⟨λp hp=>(by cases hp),by simp⟩
 |k::ks,lo,hi,h,g=>by
  cases h with
  |cons h1 h2=>
   rw[List.flatMap_cons];exact(g k (by simp) lo h1).cat (Ap.flat h2 λj hj=>g j (by simp[hj])) (by have:=h1.le;omega) h2.le
theorem LtL.CW{ns:List Nd}{ks:List Nat}{lo hi:Nat}(h:LtL ns ks lo hi):∀k∈ks,lo≤k∧k<hi:=λk hk=>by
 obtain⟨a,l,b,c⟩:=h.mem k hk;have:=c.le;omega
theorem LtL.nodup{ns:List Nd}:∀{ks:List Nat}{lo hi:Nat},LtL ns ks lo hi→ks.Nodup
 |[],_,_,_=>List.nodup_nil
 |k::ks,lo,hi,h=>by
  cases h with
  |cons h1 h2=>exact List.nodup_cons.2 ⟨λhk=>by have:=h2.CW k hk;omega,h2.nodup⟩
theorem LtL.split{ns:List Nd}:∀{ks ls:List Nat}{lo hi:Nat},LtL ns (ks++ls) lo hi→∃mid,LtL ns ks lo mid∧LtL ns ls mid hi
 |[],ls,lo,hi,h=>⟨lo,.nil,h⟩
 |k::ks,ls,lo,hi,h=>by
  cases h with
  |cons h1 h2=>
   obtain⟨mid,g1,g2⟩:=LtL.split (ks:=ks) h2;exact⟨mid,.cons h1 g1,g2⟩
theorem qG{ns:List Nd}{G:Nat→lD}{K:Nat→Prop}:∀{ks:List Nat}{lo hi:Nat},LtL ns ks lo hi→(∀k∈ks,∀l,Lt ns l k→Ap l (k+1) (G k)∧∀p∈G k,p.1=k→K k)→∀p∈ks.flatMap G,p.1∈ks→K p.1
 |[],lo,hi,h,g,p,hp,_=>by cases hp
 |k::ks,lo,hi,h,g,p,hp,hk=>by
  cases h with
  |cons h1 h2=>
   have hg:=g k (by simp) lo h1;rw[List.flatMap_cons]at hp
   rcases List.mem_append.1 hp with hp|hp
   ·have h3:=hg.1.1 p hp;rcases List.mem_cons.1 hk with hk|hk
    ·rw[hk];exact hg.2 p hp hk
    ·have:=h2.CW _ hk;omega
   ·rcases List.mem_cons.1 hk with hk|hk
    ·have h4:=(Ap.flat h2 λj hj l hl=>(g j (by simp[hj]) l hl).1).1 p hp;omega
    ·exact qG h2 (λj hj=>g j (by simp[hj])) p hp hk
section
variable {pg:Pg} {tq:Nat→Nat} {s:Ck}
theorem P7{n:Nat}{x:Nd}{bk:List (Option Tr)}{lo:Nat}(h:LtL pg.ns (cX x) lo n): ((dv pg tq s n x bk).map Prod.fst).Nodup∧∀p∈dv pg tq s n x bk,(p.1=n∧kindOf (tO s.of n)≠5∨p.1∈cX x∧x.kind≠6∧kindOf (tO s.of p.1)=5)∧1≤p.2∧p.2<127:=by
 have one:∀{m:Nat}{o:Option Tr},m∈cX x→x.kind≠6→((gV s.of m o).map Prod.fst).Nodup∧∀p∈gV s.of m o,(p.1=n∧kindOf (tO s.of n)≠5∨p.1∈cX x∧x.kind≠6∧kindOf (tO s.of p.1)=5)∧1≤p.2∧p.2<127:=λhm h6=>
  ⟨lF (zq _ _ _),λp hp=>by have:=xK p hp;exact⟨.inr ⟨by rw[this.1];exact hm,h6,by rw[this.1];exact this.2.1⟩,this.2.2⟩⟩
 unfold dv;by_cases h7:x.kind=7
 ·rw[if_pos h7];have hk:cX x=x.a::x.list:=by unfold cX dM;rw[if_neg (by omega),if_pos h7]
  have hl:=h.CW;have UB:=h.nodup;rw[hk]at hl UB⊢
  have g1: ((rR n (tO s.of n)).map Prod.fst).Nodup∧∀p∈rR n (tO s.of n),(p.1=n∧kindOf (tO s.of n)≠5)∧1≤p.2∧p.2<127:=⟨lF (yJ _ _),λp hp=>by have:=xA p hp;exact⟨⟨this.1,this.2.1⟩,this.2.2⟩⟩
  by_cases h9:kindOf (tO s.of x.a)=9
  ·rw[if_pos h9];have g2:=zU (f:=s.of) (ts:=aN (tO s.of x.a)) (List.nodup_cons.1 UB).2;refine⟨oO g1.1 g2.1 λp hp q hq e=>?_,λp hp=>?_⟩
   ·have a1:=(g1.2 p hp).1.1;have a2:=hl _ (List.mem_cons_of_mem _ (g2.2 q hq).1);omega
   ·rcases List.mem_append.1 hp with hp|hp
    ·exact⟨.inl (g1.2 p hp).1,(g1.2 p hp).2⟩
    ·have:=g2.2 p hp;exact⟨.inr ⟨List.mem_cons_of_mem _ this.1,by omega,this.2.1⟩,this.2.2⟩
  ·rw[if_neg h9,List.append_nil];exact⟨g1.1,λp hp=>⟨.inl (g1.2 p hp).1,(g1.2 p hp).2⟩⟩
 rw[if_neg h7];by_cases h8:x.kind=8∨x.kind=9
 ·rw[if_pos h8];exact⟨lF (yJ _ _),λp hp=>by have:=xA p hp;exact⟨.inl ⟨this.1,this.2.1⟩,this.2.2⟩⟩
 rw[if_neg h8];have ka:x.kind=14∨x.kind=17∨x.kind=18∨x.kind=24→x.a∈cX x:=λh=>by
  unfold cX dM;rw[if_neg (by omega),if_neg (by omega),if_neg (by omega),if_neg (by omega),if_neg (by omega),if_neg (by omega),if_neg (by omega)];simp
 by_cases yp:x.kind=14
 ·rw[if_pos yp];exact one (ka (by omega)) (by omega)
 rw[if_neg yp];by_cases Hw:x.kind=17
 ·rw[if_pos Hw];exact one (ka (by omega)) (by omega)
 rw[if_neg Hw];by_cases wX:x.kind=18
 ·rw[if_pos wX];exact one (ka (by omega)) (by omega)
 rw[if_neg wX];by_cases OL:x.kind=19
 ·rw[if_pos OL];exact one (by unfold cX dM;rw[if_neg (by omega),if_neg (by omega),if_neg (by omega),if_pos (by omega)];simp) (by omega)
 rw[if_neg OL];by_cases nY:x.kind=20
 ·rw[if_pos nY];split
  ·exact one (by unfold cX dM;rw[if_neg (by omega),if_neg (by omega),if_neg (by omega),if_neg (by omega),if_pos nY];simp) (by omega)
  ·exact⟨by simp,λp hp=>(by cases hp)⟩
 rw[if_neg nY];by_cases JP:x.kind=24
 ·rw[if_pos JP];exact one (ka (by omega)) (by omega)
 rw[if_neg JP];exact⟨by simp,λp hp=>(by cases hp)⟩
theorem C0:∀(f n lo:Nat)(bk:List (Option Tr)),Lt pg.ns lo n→n<f→Ap lo (n+1) (gS pg tq s f n bk)∧(∀p∈gS pg tq s f n bk,p.1=n→kindOf (tO s.of n)≠5)∧∀p∈gS pg tq s f n bk,1≤p.2∧p.2<127
 |0,n,lo,bk,h,hf=>by omega
 |f+1,n,lo,bk,h,hf=>by
  cases h with
  |mk e1 e2=>
   rename_i x;have ih:=C0 f;have own:=P7 (tq:=tq) (s:=s) (bk:=bk) e2;have hle:=e2.le;rw[gS,cj e1]
   --what the parts lay
   have hA:∃A,(if x.kind=6 then x.list.flatMap (λp=>qQ p (ek pg.ts (eW pg.ns p).ty))++gS pg tq s f x.a (bk++[ek pg.ts x.ty])else(dM x).flatMap λm=>gS pg tq s f m bk)=A∧Ap lo n A∧(x.kind≠6→∀p∈A,p.1∈cX x→kindOf (tO s.of p.1)≠5)∧∀p∈A,1≤p.2∧p.2<127:=by
    refine⟨_,rfl,?_⟩;by_cases h6:x.kind=6
    ·rw[if_pos h6];unfold cX at e2;rw[if_pos h6]at e2
     obtain⟨mid,g1,g2⟩:=e2.split;cases g2 with
     |cons g2 g3=>
      cases g3;have i2:=ih x.a mid (bk++[ek pg.ts x.ty]) g2 (by omega);have i1:Ap lo mid (x.list.flatMap λp=>qQ p (ek pg.ts (eW pg.ns p).ty)):=Ap.flat g1 λk _ l hl=>⟨λp hp=>by have:=(yv p hp).1;have:=hl.le;omega,lF (Ew _ _)⟩
      refine⟨i1.cat i2.1 g1.le (by have:=g2.le;omega),λh=>absurd h6 h,λp hp=>?_⟩;rcases List.mem_append.1 hp with hp|hp
      ·obtain⟨k,_,hk⟩:=List.mem_flatMap.1 hp;exact(yv p hk).2
      ·exact i2.2.2 p hp
    ·rw[if_neg h6];have hk:cX x=dM x:=by unfold cX;rw[if_neg h6]
     rw[hk]at e2⊢
     have F1:=e2.CW;refine⟨Ap.flat e2 λk hk l hl=>(ih k l bk hl (by have:=F1 k hk;omega)).1,λ_=>qG (K:=λk=>kindOf (tO s.of k)≠5) e2 λk hk l hl=>⟨(ih k l bk hl (by have:=F1 k hk;omega)).1,(ih k l bk hl (by have:=F1 k hk;omega)).2.1⟩,λp hp=>?_⟩;obtain⟨k,hk,hp⟩:=List.mem_flatMap.1 hp;obtain⟨a1,l,_,a2⟩:=e2.mem k hk;exact(ih k l bk a2 (by omega)).2.2 p hp
   obtain⟨A,aav,Qs,acn,ZS⟩:=hA;rw[aav];have F1:=e2.CW;refine⟨⟨λp hp=>?_,oO Qs.2 own.1 λp hp q hq e=>?_⟩,λp hp hn=>?_,λp hp=>?_⟩
   ·rcases List.mem_append.1 hp with hp|hp
    ·have:=Qs.1 p hp;omega
    ·rcases(own.2 p hp).1 with h|h
     ·omega
     ·have:=F1 _ h.1;omega
   ·have h1:=Qs.1 p hp;rcases(own.2 q hq).1 with h|h
    ·omega
    ·exact acn h.2.1 p hp (by rw[e];exact h.1) (by rw[e];exact h.2.2)
   ·rcases List.mem_append.1 hp with hp|hp
    ·have:=Qs.1 p hp;omega
    ·rcases(own.2 p hp).1 with h|h
     ·exact h.2
     ·have:=F1 _ h.1;omega
   ·rcases List.mem_append.1 hp with hp|hp
    ·exact ZS p hp
    ·exact(own.2 p hp).2
end
theorem Ac:∀t:Tr,dP t→iW t→1≤tags t
 | .mk k n p l o,h,u=>by
  rw[tags];rw[dP]at h;rw[iW]at u
  split
  ·rename_i hk;have h2:=u.1 hk
   match l,h2,h,u with
   |x::l,_,h,u=>
    have ho:=h.2.2.2.2.2.2.2.2.1;have hu:=u.2.2.1;rw[ni]at ho;rw[gZ]at hu
    have:=Ac x ho.1 hu.1;rw[kA];exact nT this Nat.left_le_or
  ·unfold Kb;split
   ·omega
   ·split
    ·omega
    ·split
     ·omega
     ·split
      ·omega
      ·exact Nat.one_le_two_pow
theorem Ip{t:Tr}(h:Fine t){j:Nat}(hj:j<(aN t).length):Fine (aN t)[j]:=by
 obtain⟨k,n,p,l,o⟩:=t;obtain⟨h1,h2,h3⟩:=h;rw[dP]at h1;rw[iW]at h2;rw[dH]at h3
 have hm:l[j]∈l:=gM hj;exact⟨eS h1.2.2.2.2.2.2.2.2.1 _ hm,nO h2.2.2.1 _ hm,jf h3.2.2.1 _ hm⟩
theorem Df{t u:Tr}(h:Fine t){x:BA}(hg:nJ t x=some u):Fine u:=by
 unfold nJ at hg;split at hg
 ·cases hg;exact gL (by omega)
 ·split at hg
  ·exact(xn h hg).1
  ·cases hg
end Ty
section
open Ty (Tr Ck lD)
abbrev UI(cb:Nat)(ov bv:Value):Obj:=.cells #[.pointer (some ⟨cb,0,none⟩),ov,bv] 164 (0,0)
def CR(v:Value)(o:lD):As:=ak.row 62 2 v o.length (o.flatMap dY)
theorem O7: (prog.info? 62).map (λi=>(i.zero,i.size,i.bytes))=some (some (.agg #[.int .i64 0,.int .i64 0]),2,16):=by kernel_rfl
theorem J5{v:Value}{l:lD}{p:Nat×Nat}{a:ak.Hp}(h:ak.row 62 2 v (l.length+1) (l.flatMap dY++dY p) a):CR v (l++[p]) a:=by
 unfold CR;rw[List.length_append,List.flatMap_append,List.flatMap_singleton];exact h
def N_(h:ak.Hp)(o:Option Tr)(v:Value):Prop:=match o with
 |none=>v=.pointer none
 |some t=>rep h t v
theorem J9{h h':ak.Hp}(hl:ak.le h h'){o:Option Tr}{v:Value}(g:N_ h o v):N_ h' o v:=by
 cases o with
 |none=>exact g
 |some t=>exact bL hl _ _ g
structure PlI(bk:List (Option Tr))(bl:List Value)(h1:ak.Hp):Prop where
 len:bl.length=bk.length
 bl:∀i(h:i<bk.length)(h2:i<bl.length),N_ h1 bk[i] bl[i]
 fK:∀t,some t∈bk→Fine t
 nf:bk.length≤100000
def fA(pb cb:Nat)(ov bv:Value)(o:lD)(bl:List Value)(h1:ak.Hp):List As:=[ay pb (UI cb ov bv),CR ov o,ak.row 107 1 bv bl.length bl,FR h1]
def xH(pb cb:Nat)(o:lD)(bk:List (Option Tr)):As:=λh=>∃ov bv bl h1,PlI bk bl h1∧ah (fA pb cb ov bv o bl h1) h
section
variable {wB w:World} {Fr:As} {pb cb:Nat} {o:lD} {bk:List (Option Tr)}
theorem ak.Sat.mR(h:Sat wB w [Fr,xH pb cb o bk]):∃ov bv bl h1,PlI bk bl h1∧Sat wB w (Fr::fA pb cb ov bv o bl h1):=by
 obtain⟨⟨ov,bv,bl,h1⟩,g1⟩:=(h.cG (i:=1) rfl (Q:=cA λ(q:Value×Value×List Value×ak.Hp)=>ah [cn (PlI bk q.2.2.1 q.2.2.2),ah (fA pb cb q.1 q.2.1 o q.2.2.1 q.2.2.2)]) λa ha=>by
  obtain⟨ov,bv,bl,h1,g1,g2⟩:=ha;exact⟨(ov,bv,bl,h1),λ_=>none,a,λ_=>.inl rfl,λ_ _ e=>(by cases e),ak.le_refl _,g1,a,λ_=>none,λ_=>.inr rfl,ak.le_refl _,λ_ _ e=>(by cases e),g2,trivial⟩).ex (i:=1) rfl
 have h2:=g1.unpack (i:=1) rfl;have hi:=h2.get (i:=1) rfl λ_ ha _=>ha
 exact⟨ov,bv,bl,h1,hi,(h2.pick [0,2]).unpack (i:=1) rfl⟩
theorem ak.Sat.lr{ov bv:Value}{bl:List Value}{h1:ak.Hp}(hi:PlI bk bl h1)(h:Sat wB w (Fr::fA pb cb ov bv o bl h1)):Sat wB w [Fr,xH pb cb o bk]:=
 (Sat.pack (L:=[Fr]) h).cG (i:=1) rfl λ_ ha=>⟨ov,bv,bl,h1,hi,ha⟩
theorem ak.Sat.Hs(h:Sat wB w [Fr,xH pb cb o bk]):w.cell? ⟨pb,0,none⟩=some (.pointer (some ⟨cb,0,none⟩))∧pb<w.heap.size:=by
 obtain⟨ov,bv,bl,h1,_,h2⟩:=h.mR;exact⟨h2.cell 1 rfl 0 rfl,h2.lt 1 rfl⟩
variable {nv tv:Value} {pg:Ty.Pg}
theorem jh(hP:PB wB nv tv pg)(hb:Below wB.heap.size wB w){id:Nat}{nd:Ty.Nd}(hn:pg.ns[id]?=some nd)(p0:w.cell? ⟨pb,0,none⟩=some (.pointer (some ⟨cb,0,none⟩)))(jS:pb<w.heap.size)(h0:w.cell? ⟨cb,0,none⟩=some nv)(gU:cb<w.heap.size){R:EW}
  (hR:∀lv w',Below w.heap.size w w'→wB.ownsRow 0 3 1 lv nd.list.length (nd.list.map aS)→R (.returned (aK nd lv)) w'):
  Calls prog 163 #[.pointer (some ⟨pb,0,none⟩),.int .i64 (id:Nat)] w R:=by
 obtain⟨g,cap,lv,rfl,kN,hg,hcap,Hl,hA,hl,_,hN⟩:=hP.look hn;obtain⟨q0,q1,q2,q3,q4,q5,q6,q7,q8⟩:=hA.below hb;have Vm:g<w.heap.size:=nL hg hb.size;obtain⟨la,lc,rfl⟩:=ag hl;have HR:=qh (λw' fU=>hR (.slice la nd.list.length lc) w' fU hl);unfold maxLen at Hl;clear hR hA hl hb hP hn;generalize pg.ns.length=N at*
 go_in;go_wp2_with fail;refine bodyPost_ret ?_ rfl (HR.o _ ?_)
 ·simp[results,results163,go_sem,aK]
 ·exact(bR _ _).alloc (nR _) _
theorem ig{ov bv:Value}{bl:List Value}{h1:ak.Hp}(H:Sat wB w (Fr::fA pb cb ov bv o bl h1)){t:Tr}{p:Value}(hr:rep (ak.hp w) t p)(hf:Fine t){n:Nat}(ho:o.length≤100000){R:EW}
  (hR:∀eI w',Sat wB w' (Fr::fA pb cb eI bv (o++rR n t) bl h1)→R (.returned (.tuple #[])) w'):
  Calls prog 164 #[.pointer (some ⟨pb,0,none⟩),.int .i64 (n:Nat),p] w R:=by
 obtain⟨b,rfl,JV,c0⟩:=pZ hr;have hT:=Cw w _ t (Nat.lt_succ_self _) hf.ok _ hr;have Ud:=Ac t hf.ok hf.tJ;have abS:=yl t hf.ok;have HR:=qh hR;have HT:=qh hT;have hg:∀(e:Ty.kindOf t=5∨Ty.kindOf t=6∨Ty.tags t=127),o++rR n t=o:=λe=>by
  unfold rR;rw[if_pos (by omega),List.append_nil]
 have DX:Ty.kindOf t≠5→Ty.kindOf t≠6→Ty.tags t≠127→rR n t=[(n,Ty.tags t)]:=λh5 h6 h7=>by
  unfold rR;rw[if_neg (by omega)]
 have HG:=qh hg;have El:=qh DX;obtain⟨oa,oc,rfl⟩:=ag (H.row 2 rfl);obtain⟨i0,ti,mx,mu,mw⟩:=info_parts O7;have x1:=H.cell 1 rfl 1 rfl;have f1:=H.free 1 rfl 1;have jS:=H.lt 1 rfl;have H2:=qh H;clear hr hf hT H hR hg DX;generalize Ty.kindOf t=k at*
 generalize Ty.tags t=tg at*
 by_cases h5:k=5
 ·subst h5;clear x1 f1;go_in;go_wp2_with fail;go_end0;exact HR.o _ w (by rw[HG.o (by simp)];exact H2.o)
 have e5: ((k:Int)==5)=false:=beq_eq_false_iff_ne.2 (by omega);by_cases h6:k=6
 ·subst h6;clear x1 f1;go_in;go_wp2_with fail;go_end0;exact HR.o _ w (by rw[HG.o (by simp)];exact H2.o)
 have e6: ((k:Int)==6)=false:=beq_eq_false_iff_ne.2 (by omega);by_cases h7:tg=127
 ·subst h7;clear h5 h6 x1 f1;go_in;go_wp2_with fail;refine HT.o _ ?_;go_wp2_with fail;go_end0;exact HR.o _ w (by rw[HG.o (by simp)];exact H2.o)
 have e7: ((tg:Int) !=127)=true:=by simp;omega
 have HE:=qh (El.o h5 h6 h7);clear h5 h6 h7 HG El Ud abS;go_in;go_wp2_with fail;refine HT.o _ ?_;go_wp2_with(at_builtin;go_loud(refine wpList_append_lies _ rfl (.tmp 27) (.tmp 31) 52 rfl 0 62 i0 _ 2 16 underlying52 ti mx mu mw rfl (by decide) _ _ (o.flatMap dY) (by rfl) ((H2.o.row 2 rfl).alloc _) ⟨w.heap.size,0,none⟩ 1 1 [.int .i64 (n:Nat),.int .i64 (tg:Nat)] (by rfl) (by rfl) (World.news_of_block (cs:=#[.int .i64 (n:Nat),.int .i64 (tg:Nat)]) (t:=62) (fr:=(0,0)) (aH _ _ _ (by simp))) (by simp[Value.oneCell']) (by omega) (by unfold maxLen;omega) (by omega) (by simp) (w.heap.size+1) (by simp) ?_));intro g8 mX w8 kT hV yW L3;have h8:=Sat.grow (H2.o.aU _) 2 rfl hV kT (by simpa using yW);have h9:=h8.cG (i:=2) rfl (Q:=CR (.slice (some ⟨g8,0,none⟩) (o.length+1) mX) (o++[(n,tg)])) (λ_ h=>J5 h);have x1:=h9.cell 1 rfl 1 rfl;have f1:=h9.free 1 rfl 1;have Qn:=h9.lt 1 rfl;have H9:=qh h9;clear h8 h9 kT hV;go_wp2_with fail;go_end0;exact HR.o _ _ (by rw[HE.o];exact H9.o.store 1 rfl 1 (.slice (some ⟨g8,0,none⟩) (o.length+1) mX))
end
section
variable {wB w:World} {Fr:As} {pb cb ofb hasb:Nat} {o:lD} {bk:List (Option Tr)} {X:Cx} {s:Ck} {h0:ak.Hp} {pg:Ty.Pg}
theorem i'{ov bv:Value}{bl:List Value}{h1:ak.Hp}(hF:jH wB Fr)(hW:CkW wB cb X ofb hasb s h0)(H:Sat wB w (Fr::fA pb cb ov bv o bl h1)){n:Nat}(hn:n≤100000)(hs: (s.of n).isSome=true){ot:Option Tr}{v:Value}(hv:N_ (ak.hp w) ot v)(hf:∀t,ot=some t→Fine t)(ho:o.length≤100000){R:EW}
  (hR:∀eI w',Sat wB w' (Fr::fA pb cb eI bv (o++gV s.of n ot) bl h1)→R (.returned (.tuple #[])) w'):
  Calls prog 251 #[.pointer (some ⟨pb,0,none⟩),.int .i64 (n:Nat),v] w R:=by
 have p0:=H.cell 1 rfl 0 rfl;have jS:=H.lt 1 rfl;cases ot with
 |none=>
  have Rk:v=.pointer none:=hv;subst Rk;have HR:=qh (hR ov w (by rw[show gV s.of n none=[]by unfold gV;split<;>rfl,List.append_nil];exact H));clear hR hf H hv hF hW hs ho;go_in;go_wp2_with fail;go_end0;exact HR.o
 |some t=>
  obtain⟨bq,rfl⟩:=aP hv;have fX:=hW.below (hF w _ 0 H rfl);have fV:s.of n=some (tO s.of n):=by
   unfold tO;cases h:s.of n with
   |none=>rw[h]at hs;cases hs
   |some u=>rfl
  obtain⟨p,bD,hr⟩:=fX.FI hn fV;obtain⟨b,rfl⟩:=aP hr;obtain⟨JV,k0⟩:=fX.kind hr;have c5:=fX.c5;have gU:=fX.lt;have HG:=qh (λR=>ig (R:=R) (n:=n) H hv (hf t rfl) ho);by_cases h5:Ty.kindOf (tO s.of n)=5
  ·have HR:=qh (λeI w'(h:Sat wB w' (Fr::fA pb cb eI bv (o++rR n t) bl h1))=>hR eI w' (by unfold gV;rw[if_pos h5];exact h));rw[h5]at k0
   clear hR hf H hv hF hW hs fX fV hr h5;go_in;go_wp2_with fail;refine HG.o _ (λsQ w5 h6=>?_);have Lp:=qh (HR.o sQ w5 h6);clear h6;go_wp2_with fail;go_end0;exact Lp.o
  ·have HR:=qh (hR ov w (by rw[show gV s.of n (some t)=[]by unfold gV;rw[if_neg h5],List.append_nil];exact H));have e5: (((Ty.kindOf (tO s.of n):Nat):Int)==5)=false:=beq_eq_false_iff_ne.2 (by omega);clear hR hf H hv hF hW hs fX fV hr h5;generalize Ty.kindOf (tO s.of n)=k at*
   go_in;go_wp2_with fail;go_end0;exact HR.o
end
theorem DN{w:World}{h0:ak.Hp}{t:Tr}{p:Value}(hle:ak.le h0 (ak.hp w))(hr:rep h0 t p)(aF:dP t)(x:BA){R:EW}
  (hR:∀v w',Below w.heap.size w w'→N_ (ak.hp w') (nJ t x) v→R (.returned v) w'):
  Calls prog 252 #[p,.string x] w R:=by
 obtain⟨b,e,JV,c0⟩:=pZ (bL hle _ _ hr);subst e;have sJ:=qh (λ(R:EW)=>rD (R:=R) w w hle (bR _ _) t _ hr aF x);by_cases h8:Ty.kindOf t=8
 ·have HR:=qh (λv w'(h:Below w.heap.size w w')(g:N_ (ak.hp w') (some (jR 1)) v)=>hR v w' h (by unfold nJ;rw[if_pos h8];exact g));rw[h8]at c0
  clear hR hr aF sJ;go_in;go_wp2_with fail;refine lO _ 1 ?_;go_wp2_with fail;exact HR.o _ _ ((bR _ _).alloc (nR _) _) (MT (k:=1) (heap_alloc_new w _))
 have e8: (((Ty.kindOf t:Nat):Int)==8)=false:=beq_eq_false_iff_ne.2 (by omega);by_cases h7:Ty.kindOf t=7
 ·have HR:=qh (λv w'(h:Below w.heap.size w w')(g:N_ (ak.hp w') (Ty.part (cg t) (Ty.partsOf t) x) v)=>hR v w' h (by unfold nJ;rw[if_neg h8,if_pos h7];exact g));obtain⟨k,names,parts,list,of⟩:=t;dsimp only[Ty.kindOf,cg,Ty.partsOf]at HR c0 e8 h7;subst h7;clear hR hr aF h8 e8;go_in;go_wp2_with fail;refine sJ.o _ (λq w5 dW hq=>?_)
  (try dsimp only at hq)
  have HQ:=qh (HR.o q w5 dW (by
   cases hp:Ty.part names parts x with
   |none=>rw[hp]at hq;exact hq
   |some u=>rw[hp]at hq;exact bL (nM hle dW) _ _ hq))
  clear hq;go_wp2_with fail;exact HQ.o
 ·have e7: (((Ty.kindOf t:Nat):Int)==7)=false:=beq_eq_false_iff_ne.2 (by omega);have HR:=qh (hR (.pointer none) w (bR _ _) (by unfold nJ;rw[if_neg h8,if_neg h7];rfl));clear hR hr aF h8 h7 sJ;generalize Ty.kindOf t=k at*
  go_in;go_wp2_with fail;exact HR.o
def zT(wB:World)(X:Cx)(pg:Ty.Pg)(s:Ck)(pb cb:Nat)(id:Nat):Prop:=
 ∀f,id<f→∀(bk:List (Option Tr))(o:lD)(w:World)(Fr:As),jH wB Fr→Sat wB w [Fr,xH pb cb o bk]→Vis pg.ns (!bk.isEmpty) id→o.length+(gS pg X.a_ s f id bk).length≤100000→bk.length+id≤100000→∀R:EW,
  (∀w',Sat wB w' [Fr,xH pb cb (o++gS pg X.a_ s f id bk) bk]→R (.returned (.tuple #[])) w')→
  Calls prog 95 #[.pointer (some ⟨pb,0,none⟩),.int .i64 (id:Nat)] w R
section
variable {wB w:World} {Fr:As} {pb cb:Nat} {o:lD} {bk:List (Option Tr)} {X:Cx} {s:Ck} {pg:Ty.Pg}
theorem ow(hF:jH wB Fr){ids:List Nat}{lv:Value}{f:Nat}(hC:∀m∈ids,zT wB X pg s pb cb m∧m<f∧Vis pg.ns (!bk.isEmpty) m)
  (bJ:∀(w1:World)(L:List As)(i:Nat),Sat wB w1 L→L[i]?=some Fr→w1.ownsRow 0 3 1 lv ids.length (ids.map aS)) (hn:ids.length≤1000000) (H:Sat wB w [Fr,xH pb cb o bk]) (hc:o.length+(ids.flatMap λm=>gS pg X.a_ s f m bk).length≤100000) (hb:∀m∈ids,bk.length+m≤100000) {R:EW}
  (hR:∀w',Sat wB w' [Fr,xH pb cb (o++ids.flatMap λm=>gS pg X.a_ s f m bk) bk]→R (.returned (.tuple #[])) w'):
  Calls prog 165 #[.pointer (some ⟨pb,0,none⟩),lv] w R:=by
 have HR:=qh hR;have HF:=qh hF;have HC:=qh hC;have dG:=qh bJ;have H1:=qh H;obtain⟨la,lc,rfl⟩:=ag (bJ w _ 0 H rfl);have LG:=qh hc;have oW:=qh hb;clear hR hF hC bJ H hc hb;go_in;go_wp2_with fail;go_loopw [8] (λi wr=>∃(j:Nat),i=.int .i64 j∧j≤ids.length∧Hq (Sat wB wr [Fr,xH pb cb (o++(ids.take j).flatMap λm=>gS pg X.a_ s f m bk) bk])) (λi _=>ids.length-(intOf i).toNat)
 case atStart=>exact⟨0,rfl,Nat.zero_le _,by show Sat _ _ _;rw[List.take_zero,List.flatMap_nil,List.append_nil];exact H1.o⟩
 case round=>
  obtain⟨j,rfl,hj,hS⟩:=hrel;by_cases bm:j<ids.length
  ·obtain⟨gl,j9,e,mW,d0⟩:=ints_at (dG.o wr _ 0 hS.out rfl) j bm;cases e;have Cm: (ids.take (j+1)).flatMap (λm=>gS pg X.a_ s f m bk)=(ids.take j).flatMap (λm=>gS pg X.a_ s f m bk)++gS pg X.a_ s f ids[j] bk:=by
    rw[List.take_succ_eq_append_getElem bm,List.flatMap_append,List.flatMap_singleton]
   have hle: ((ids.take (j+1)).flatMap λm=>gS pg X.a_ s f m bk).length≤(ids.flatMap λm=>gS pg X.a_ s f m bk).length:=by
    have h2:ids.flatMap (λm=>gS pg X.a_ s f m bk)=(ids.take (j+1)).flatMap (λm=>gS pg X.a_ s f m bk)++(ids.drop (j+1)).flatMap (λm=>gS pg X.a_ s f m bk):=by rw[←List.flatMap_append,List.take_append_drop]
    rw[h2,List.length_append];omega
   obtain⟨c1,c2,c3⟩:=HC.o ids[j] (gM bm);have DE:=qh (c1 f c2 bk _ wr _ HF.o hS.out c3 (by rw[Cm]at hle;rw[List.length_append]at hle⊢;have:=LG.o;omega) (oW.o _ (gM bm)));have zm:=qh Cm;clear Cm hle c1 c2 c3;generalize ids[j]=ij at*
   go_wp2_with fail;refine DE.o _ (λw4 h4=>?_);have H4:=qh h4;clear h4;go_wp2_with fail;go_roundw
   case rel=>exact⟨j+1,by go_num,by omega,by show Sat _ _ _;rw[zm.o,←List.append_assoc];exact H4.o⟩
   case measure=>simp[intOf];omega
  ·have ju:j=ids.length:=by omega
   have h6:=hS.out;rw[ju,List.take_length]at h6
   have H6:=qh h6;clear h6 ju;go_wp2_with fail;go_end0;exact HR.o _ H6.o
end
end
end Go.Proofs.YtdlbhiaceheffabGreatDoor
