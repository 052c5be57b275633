/- Elide: Open. -/
import Derived.Test.YtdlbhiaceheffabGreatDoorE46
set_option linter.all false
set_option maxRecDepth 100000
set_option maxHeartbeats 8000000
namespace Go.Proofs.YtdlbhiaceheffabGreatDoor
open Go Go.RowKit Ty Tok Prt Tryz Proofs.Tryz
section
open Ty (il)
section
variable {w0 w:World} {L:List As}
theorem Prt.Sat.OL{i:Nat}{e:TypeId}{size n:Nat}{v:Value}{xs:List Value}(H:Sat w0 w L)(hi:L[i]?=some (Prt.row e size v n xs))(hn:0<n):
  ∃g cap cs,v=.slice (some ⟨g,0,none⟩) n cap/\n<=cap/\cap<=maxLen/\cs.size=cap*size/\cs.toList.take (n*size)=xs/\Sat w0 w (L.set i (av g (.cells cs e (0,0)))):=by
 obtain⟨g,cap,cs,h1,h2,h3,h4,h5,h6⟩:∃g cap cs,v=.slice (some ⟨g,0,none⟩) n cap/\w.heap[g]?=some (.cells cs e (0,0))/\n<=cap/\cap<=maxLen/\cs.size=cap*size/\cs.toList.take (n*size)=xs:=H.get hi λa ha hl=>by
  rcases ha.2 with⟨_,h0⟩|⟨g,cap,cur,e1,e2,e3⟩
  ·omega
  ·exact⟨g,cap,cur,e1,hl _ _ e2,e3⟩
 refine⟨g,cap,cs,h1,h3,h4,h5,h6,H.Uc hi rfl rfl rfl λa ha hl=>⟨a,?_,hl,λk hk _=>⟨hk,rfl⟩⟩⟩;rcases ha.2 with⟨_,h0⟩|⟨g2,sY,cur,e1,e2,_⟩
 ·omega
 ·rw[h1]at e1
  simp only[Value.slice.injEq,Option.some.injEq,Addr.mk.injEq]at e1;obtain⟨⟨rfl,_⟩,_⟩:=e1;have e3:w.heap[g]?=some (.cells cur e (0,0)):=hl _ _ e2;rw[h2]at e3;cases e3
  exact e2
theorem Prt.Sat.K_{i b:Nat}{T:TypeId}{z:Nat×Nat}:∀(vs:List Value)(o:Nat){w:World}{cs:Array Value}{L:List As},Sat w0 w L->L[i]?=some (av b (.cells cs T z))->
  ∃Tg,Tg.size=cs.size/\(∀m,m<o->Tg[m]?=cs[m]?)/\Sat w0 (w.setCells b o vs) (L.set i (av b (.cells Tg T z)))
 |[],o,w,cs,L,H,hi=>⟨cs,rfl,λ_ _=>rfl,by rw[Jp hi];exact H⟩
 |v::vs,o,w,cs,L,H,hi=>by
  obtain⟨Tg,e1,e2,h2⟩:=Sat.K_ vs (o+1) (H.store i hi o v) (by rw[List.getElem?_set_self (Sat.xp hi)]);refine⟨Tg,by rw[e1];simp,λm hm=>?_,?_⟩
  ·rw[e2 m (by omega),Array.getElem?_setIfInBounds,if_neg (by omega)]
  ·rw[List.set_set]at h2;exact h2
end
theorem zM(w:World)(b o n c:Nat)(hc:∀j,j<n*2->(w.cell? ⟨b,o+j,none⟩).isSome=true)(hf:∀j,j<n*2->w.frozen? ⟨b,o+j,none⟩=false):
  ∃vs,∀ty,(Builtin.clear_ #[52] ty #[.slice (some ⟨b,o,none⟩) n c]).run prog w=.ok (.tuple #[]) (w.setCells b o vs):=by
 have hl: (Builtin.zeroCells #[.int .i64 0,.int .i64 0] n).toList.length=n*2:=by simp[Builtin.zeroCells]
 have gJ:=run_storeCells_cells (P:=prog) b o (Builtin.zeroCells #[.int .i64 0,.int .i64 0] n).toList 0 w (by rw[hl];simpa using hc) (by rw[hl];simpa using hf) (by
  intro v hv;simp only[Builtin.zeroCells,Array.toList_map,List.mem_map]at hv;obtain⟨k,_,rfl⟩:=hv;have:k%2=0\/k%2=1:=by omega
  rcases this with h|h<;>simp[h,Value.oneCell'])
 simp only[Nat.add_zero]at gJ;cases n with
 |zero=>exact⟨[],λty=>by simp[Builtin.clear_,run_underlying underlying52,World.setCells]⟩
 |succ m=>exact⟨(Builtin.zeroCells #[.int .i64 0,.int .i64 0] (m+1)).toList,λty=>by simp[Builtin.clear_,run_underlying underlying52,zeroValue62,Value.cells,gJ]⟩
theorem rk(l:il): (l.flatMap cH).length=l.length*2:=by
 induction l with
 |nil=>rfl
 |cons a l ih=>rw[List.flatMap_cons,List.length_append,ih,List.length_cons];simp[cH];omega
theorem Nq{cs:Array Value}{i:Nat}(a b:Value)(h:i*2+1<cs.size): ((cs.setIfInBounds (i*2) a).setIfInBounds (i*2+1) b).toList.take ((i+1)*2)=cs.toList.take (i*2)++[a,b]:=by
 apply List.ext_getElem?;intro m;have hl: (cs.toList.take (i*2)).length=i*2:=by rw[List.length_take,Array.length_toList];omega
 rw[List.getElem?_take,Array.getElem?_toList,Array.getElem?_setIfInBounds,Array.getElem?_setIfInBounds];by_cases h1:m<i*2
 ·rw[if_pos (by omega),if_neg (by omega),if_neg (by omega),List.getElem?_append_left (by omega),List.getElem?_take,if_pos h1,Array.getElem?_toList]
 ·rw[List.getElem?_append_right (by omega),hl];by_cases h2:m=i*2
  ·subst h2;rw[if_pos (by omega),if_neg (by omega),if_pos rfl,if_pos (by omega),Nat.sub_self];rfl
  ·by_cases h3:m=i*2+1
   ·subst h3;rw[if_pos (by omega),if_pos rfl,if_pos (by simpa using h),show i*2+1-i*2=1 by omega];rfl
   ·rw[if_neg (by omega),List.getElem?_eq_none (by simp;omega)]
theorem K9(a:Option Addr)(n cap k:Nat)(hk:k<=cap)(W:World): (Instr.slice 52 (.slice a n cap) none (some (.int .i64 (k:Nat))) none).run prog W=.ok (.slice a k cap) W:=by
 have h1: (k:Int)<=cap:=by omega
 have h2: (0:Int)<=k:=by omega
 simp[Instr.slice,Instr.sliceBounds,Instr.sliceBound,asIntOf,h1,go_sem];exact λh=>absurd h (by omega)
theorem Ha(g n cap k:Nat)(hk:k<n)(hn:n<=cap)(W:World): (Instr.slice 52 (.slice (some ⟨g,0,none⟩) n cap) (some (.int .i64 (k:Nat))) none none).run prog W=.ok (.slice (some ⟨g,k*2,none⟩) (n-k) (cap-k)) W:=by
 have h1: (k:Int)<=n:=by omega
 have h2: (0:Int)<=k:=by omega
 have h3:cap≠k:=by omega
 simp[Instr.slice,Instr.sliceBounds,Instr.sliceBound,asIntOf,h1,h3,go_sem,Addr.add_lit];try omega
section
variable {w0 w:World} {Fr:As} {p:Nat×Nat->Bool} {bx:Nat}
def W6(w0:World)(Fr:As)(bx:Nat)(p:Nat×Nat->Bool):Prop:=∀(W:World)(L:List As)(i:Nat),Sat w0 W L->L[i]?=some Fr->∀x:Nat×Nat,x.1<=100000->∀R:EW,(∀W',Below W.heap.size W W'->R (.returned (.bool (p x))) W')->
  Calls prog 111 #[.agg #[.int .i64 (x.1:Nat),.int .i64 (x.2:Nat)],.pointer (some ⟨bx,0,none⟩)] W R
theorem Gy(hP:W6 w0 Fr bx p){v:Value}{l:il}(hn:∀x∈l,x.1<=100000)(hl:l.length<=100000)(H:Sat w0 w [Fr,oJ v l]){R:EW}
  (e_:∀w',(∀j(h:j<l.length),p l[j]=false)->Sat w0 w' [Fr,oJ v l]->R (.returned (.int .i64 (-1))) w')
  (lZ:∀w' k(h:k<l.length),p l[k]=true->(∀j(h:j<l.length),j<k->p l[j]=false)->Sat w0 w' [Fr,oJ v l]->R (.returned (.int .i64 (k:Nat))) w'):
  Calls prog 182 #[v,.func (.func 111) #[] #[.pointer (some ⟨bx,0,none⟩)]] w R:=by
 obtain⟨va,vc,rfl⟩:=ag (H.row 1 rfl);have wA:=qh e_;have FY:=qh lZ;have HP:=qh hP;have HN:=qh hn;have H1:=qh H;have hc:=Tryz.call111;clear e_ lZ hP hn H;go_in;go_wp2;go_loopw [8] (λi wr=>∃(j:Nat),i=.int .i64 j/\j<=l.length/\Hq ((∀m(h:m<l.length),m<j->p l[m]=false)/\Sat w0 wr [Fr,oJ (.slice va l.length vc) l])) (λi _=>l.length-(intOf i).toNat)
 case atStart=>exact⟨0,rfl,Nat.zero_le _,λm _ h=>absurd h (Nat.not_lt_zero _),H1.o⟩
 case round=>
  obtain⟨j,rfl,hj,hS⟩:=hrel;by_cases a_:j<l.length
  ·obtain⟨g,cap,e,hg,d0,d1⟩:=M7 (hS.out.2.row 1 rfl) j a_;cases e;have sS:=qh (HP.o wr _ 0 hS.out.2 rfl l[j] (HN.o _ (gM a_)));have abZ:=qh (λ(h:p l[j]=true) w'=>FY.o w' j a_ h hS.out.1);have acq:=qh (λ(h:p l[j]=false) m(hm:m<l.length)(adI:m<j+1)=>(show p l[m]=false from by
    by_cases e:m=j
    ·subst e;exact h
    ·exact hS.out.1 m hm (by omega)))
   generalize l[j]=x at*
   go_wp2_with fail;refine sS.o _ (λw' hb=>?_);have H2:=qh (hS.out.2.below hb);clear hb;cases PA:p x with
   |true=>
    have HZ:=qh (abZ.o PA w' H2.o);go_wp2;exact HZ.o
   |false=>
    have HZ:=qh (acq.o PA);go_wp2;go_roundw
    case rel=>exact⟨j+1,by go_num,by omega,HZ.o,H2.o⟩
    case measure=>simp[intOf];omega
  ·have gO:j=l.length:=by omega
   subst gO;have HZ:=qh (wA.o wr (λm hm=>hS.out.1 m hm hm) hS.out.2);go_wp2;exact HZ.o
theorem Fc(hP:W6 w0 Fr bx p){v:Value}{l:il}(hn:∀x∈l,x.1<=100000)(hl:l.length<=100000)(H:Sat w0 w [Fr,oJ v l]){R:EW}
  (hR:∀v' w',Sat w0 w' [Fr,oJ v' (l.filter λx=>!p x)]->R (.returned v') w'):
  Calls prog 109 #[v,.func (.func 111) #[] #[.pointer (some ⟨bx,0,none⟩)]] w R:=by
 obtain⟨va,vc,rfl⟩:=ag (H.row 1 rfl);have HR:=qh hR;have HP:=qh hP;have HN:=qh hn;have H1:=qh H;have hc:=Tryz.call111;clear hR hP hn H;go_in;go_wp2_with fail;refine Gy HP.o HN.o hl H1.o (λw' e_ h=>?_) (λw' k hk TG hb h=>?_)
 ·have e:l.filter (λx=>!p x)=l:=List.filter_eq_self.2 λx hx=>by
   obtain⟨j,hj,rfl⟩:=List.getElem_of_mem hx;rw[e_ j hj];rfl
  have HZ:=qh (HR.o _ w' (by rw[e];exact h));clear e_ h;go_wp2;exact HZ.o
 obtain⟨g,cap,cs,e,kK,Dt,Jl,qp,h2⟩:=h.OL (i:=1) (size:=2) rfl (by omega);cases e;have Rl:∀j(hj:j<l.length),cs[j*2]?=some (.int .i64 (l[j].1:Nat))/\cs[j*2+1]?=some (.int .i64 (l[j].2:Nat)):=λj hj=>by
  have hf:=jn cH 2 (λ_=>rfl) l j hj;have h0:=hf 0 (by omega);have h1:=hf 1 (by omega);rw[<-qp,List.getElem?_take,if_pos (by omega),Array.getElem?_toList]at h0 h1
  exact⟨h0,h1⟩
 have Rs: (l.take (k+1)).filter (λx=>!p x)=l.take k:=by
  rw[List.take_succ_eq_append_getElem hk,List.filter_append,List.filter_eq_self.2 (λx hx=>by
   obtain⟨j,hj,rfl⟩:=List.getElem_of_mem hx;rw[List.length_take]at hj
   rw[List.getElem_take,hb j (by omega) (by omega)];rfl),List.filter_cons_of_neg (by rw[TG];decide),List.filter_nil,List.append_nil]
 have aaK:Hq (cs.toList.take (k*2)=((l.take (k+1)).filter λx=>!p x).flatMap cH/\k=((l.take (k+1)).filter λx=>!p x).length/\Sat w0 w' [Fr,av g (.cells cs 62 (0,0))]):=by
  refine⟨?_,by rw[Rs,List.length_take];omega,h2⟩;have:=congrArg (List.take (k*2)) qp;rw[List.take_take,Nat.min_eq_left (by omega)]at this
  rw[this,Rs];have h3:l=l.take k++l.drop k:=(List.take_append_drop k l).symm;have h4: ((l.take k).flatMap cH).length=k*2:=by rw[rk,List.length_take];omega
  conv=>lhs;rw[h3,List.flatMap_append]
  rw[List.take_left' h4]
 have Eh: (((k:Nat):Int)== -1)=false:=beq_eq_false_iff_ne.2 (by omega);have ZA:=qh Rl;have Ia:=qh Jl;clear qp hb h h2 Rl Rs TG H1 Jl;go_wp2;go_loopw [5,6] (λs5 s6 wr=>∃(i j:Nat)(ds:Array Value),s5=.int .i64 i/\s6=.int .i64 j/\j<=l.length/\i<j/\Hq (ds.size=cs.size/\(∀m,j*2<=m->ds[m]?=cs[m]?)/\ds.toList.take (i*2)=((l.take j).filter λx=>!p x).flatMap cH/\i=((l.take j).filter λx=>!p x).length/\Sat w0 wr [Fr,av g (.cells ds 62 (0,0))])) (λ_ s6 _=>l.length-(intOf s6).toNat)
 case atStart=>exact⟨k,k+1,cs,rfl,by go_num,by omega,by omega,rfl,λ_ _=>rfl,aaK.o⟩
 case round=>
  obtain⟨i,j,ds,rfl,rfl,hj,Hh,hS⟩:=hrel;have Oc: ((l.take j).filter λx=>!p x).length<=j:=nT (List.length_filter_le _ _) (by rw[List.length_take];omega);have Of:=Ia.o;have hg:=hS.out.2.2.2.2.lt 1 rfl;by_cases a_:j<l.length
  ·obtain⟨s1,s2,s3,s4,s5⟩:=hS.out;have d0:=s5.cell 1 rfl (j*2) (by rw[s2 _ (Nat.le_refl _)];exact(ZA.o j a_).1);have d1:=s5.cell 1 rfl (j*2+1) (by rw[s2 _ (by omega)];exact(ZA.o j a_).2);have h3:=s5.aj (.cells #[.int .i64 (l[j].1:Nat),.int .i64 (l[j].2:Nat)] 62) wr.heap.size;have sS:=qh (HP.o _ _ 0 h3 rfl l[j] (HN.o _ (gM a_)));have qp: (l.take (j+1)).filter (λx=>!p x)=(l.take j).filter (λx=>!p x)++[l[j]].filter λx=>!p x:=by rw[List.take_succ_eq_append_getElem a_,List.filter_append]
   have pK:=qh qp;have Q0:=qh h3;have Uj:=qh s2;have X1:=qh s3;have Y5:=qh s4;have Sh:=qh s1;obtain⟨u0,Zy⟩:∃u,ds[i*2]?=some u:=⟨_,Array.getElem?_eq_getElem (by omega)⟩
   obtain⟨u1,Zt⟩:∃u,ds[i*2+1]?=some u:=⟨_,Array.getElem?_eq_getElem (by omega)⟩
   have Oe: (i:Int)<(l.length:Int):=by omega
   clear s1 s2 s3 s4 s5 h3 qp hS Of Oc;generalize l[j]=x at*
   go_wp2_with fail;refine sS.o _ (λw5 hb=>?_);have h5:=Q0.o.below hb;have y0:=h5.cell 2 rfl 0 rfl;have y1:=h5.cell 2 rfl 1 rfl;have c0:=h5.cell 1 rfl (i*2) Zy;have c1:=h5.cell 1 rfl (i*2+1) Zt;have f0:=h5.free 1 rfl (i*2);have f1:=h5.free 1 rfl (i*2+1);have H5:=qh h5;clear h5 hb Zy Zt Q0 d0 d1 sS;cases PA:p x with
   |true=>
    have HT:=qh (show(l.take (j+1)).filter (λx=>!p x)=(l.take j).filter (λx=>!p x)from by rw[pK.o,List.filter_cons_of_neg (by rw[PA];decide),List.filter_nil,List.append_nil]);clear PA;go_wp2;go_roundw
    case rel=>exact⟨i,j+1,ds,rfl,by go_num,by omega,by omega,Sh.o,λm hm=>Uj.o m (by omega),by rw[HT.o];exact X1.o,by rw[HT.o];exact Y5.o,H5.o.pick [0,1]⟩
    case measure=>simp[intOf];omega
   |false=>
    have HT:=qh (show(l.take (j+1)).filter (λx=>!p x)=(l.take j).filter (λx=>!p x)++[x]from by rw[pK.o,List.filter_cons_of_pos (by rw[PA];decide),List.filter_nil]);clear PA;go_wp2;go_roundw
    case rel=>
     refine⟨i+1,j+1,(ds.setIfInBounds (i*2) (.int .i64 (x.1:Nat))).setIfInBounds (i*2+1) (.int .i64 (x.2:Nat)),by go_num,by go_num,by omega,by omega,by simp[Sh.o],λm hm=>?_,?_,by rw[HT.o,List.length_append,<-Y5.o];rfl,((H5.o.store 1 rfl (i*2) _).store 1 rfl (i*2+1) _).pick [0,1]⟩
     ·rw[Array.getElem?_setIfInBounds,if_neg (by omega),Array.getElem?_setIfInBounds,if_neg (by omega)];exact Uj.o m (by omega)
     ·have h1:=Sh.o;have h2:=Ia.o;rw[Nq _ _ (by omega),X1.o,HT.o,List.flatMap_append];simp[cH]
    case measure=>simp[intOf];omega
  ·have gO:j=l.length:=by omega
   subst gO;obtain⟨s1,s2,s3,s4,s5⟩:=hS.out;rw[List.take_length]at s3 s4
   have Oe:i<=l.length:=by rw[s4];exact List.length_filter_le _ _
   obtain⟨vs,Wd⟩:=zM wr g (i*2) (l.length-i) (vc-i) (λm hm=>by
    obtain⟨u,hu⟩:∃u,ds[i*2+m]?=some u:=⟨_,Array.getElem?_eq_getElem (by omega)⟩
    rw[s5.cell 1 rfl _ hu];rfl) (λm hm=>s5.free 1 rfl _)
   obtain⟨es,e1,e2,h6⟩:=s5.K_ (i:=1) vs (i*2) rfl;have h7:Sat w0 _ [Fr,oJ (.slice (some ⟨g,0,none⟩) i vc) (l.filter λx=>!p x)]:=h6.cL (i:=1) rfl (λa ha=>by
    refine⟨by rw[rk],.inr ⟨g,vc,es,by rw[<-s4],ha,by omega,Dt,by rw[e1,s1,Ia.o],?_⟩⟩;rw[<-s4,<-s3];apply List.ext_getElem?;intro m;rw[List.getElem?_take,List.getElem?_take,Array.getElem?_toList,Array.getElem?_toList];split
    ·rename_i hm;exact e2 m hm
    ·rfl)
   have HZ:=qh (HR.o _ _ h7);have ac1:=Ha g l.length vc i Hh kK;have Ol:=K9 (some ⟨g,0,none⟩) l.length vc i (by omega);clear s1 s2 s3 s4 s5 h6 h7 hS e1 e2 Of Oc;go_wp2;exact HZ.o
end
theorem Kc{wB:World}{X:Cx}{pg:Ty.Pg}{fb cb ca gb nb:Nat}{cv:Nat->Bool}{G:Kt}(hE:ElE wB X pg cb ca cv)(hG:∀m t,G m=some t->t<=127):∀(N n lo:Nat),n<N->Lt pg.ns lo n->Hw wB X pg cv fb cb gb nb G n
 |0,n,lo,h,_=>absurd h (Nat.not_lt_zero _)
 |N+1,n,lo,h,ht=>by
  cases ht with
  |mk hn hL=>
   exact Mw hE hn hL (λm hm=>by
    obtain⟨a,k,_,b⟩:=hL.mem m hm;exact Kc hE hG N m k (by omega) b) hG
theorem Ns{k e:TypeId}{b n m:Nat}{Φ:Dm->Prop}(h:n<=m){a:Prt.Hp}:mapA k e b n Φ a->mapA k e b m Φ a:=λ⟨es,clock,h1,h2,h3,h4⟩=>⟨es,clock,h1,h2,nT h3 h,h4⟩
theorem DI{w0:World}{F0:As}{nb bx fb cb gb kb:Nat}{g:Nat->Bool}:W6 w0 (ah [F0,av bx (vZ fb),av fb (Rj cb gb kb nb),Oo nb g]) bx λx=>g x.1:=by
 intro W L i hs hi x hx R hR;have u:=(hs.at i hi).unpack (i:=1) rfl;have y0:=u.cell 2 rfl 0 rfl;have wR:=u.lt 2 rfl;have f3:=u.cell 3 rfl 3 rfl;have CB:=u.lt 3 rfl;obtain⟨D,tG,pD⟩:=(u.aW (.cells #[.int .i64 (x.1:Nat),.int .i64 (x.2:Nat)] 62)).drew.fi 4 rfl;obtain⟨c,e,bu⟩:=KN tG hx;have hc:g x.1=c:=by rw[pD.2]at e;simpa using e
 dsimp only at hR;rw[hc]at hR
 have HR:=qh hR;clear hs u tG pD e hc hR;go_enter func111,ntmps111;go_wp2
 go_region
 all_goals
  go_wp2;exact HR.o _ ((bR _ _).alloc (nR _) _).drew
theorem A6{w0 w:World}{L:List As}(H:Sat w0 w L)(i:Nat){v:Value}{l:il}(hi:L[i]?=some (oJ v l))(hl:l.length<=100000){R:EW}
  (hR:∀v' w',Sat w0 w' (L++[oJ v' l])->R (.returned v') w'):Calls prog 110 #[v] w R:=by
 have hr:=H.row i hi;rcases hr.2 with⟨rfl,h0⟩|⟨g,cap,cur,rfl,_⟩
 ·have h0:l=[]:=List.length_eq_zero_iff.1 h0;subst h0;refine(AnyE.slices_Clone_nil cloneGd 0 0 w).mono ?_
  rintro e w' ⟨rfl,rfl⟩
  exact hR _ _ (H.nil 62 2)
 ·obtain⟨i0,ti,mM,mL,mK⟩:=info_parts Jn;refine(AnyE.slices_Clone cloneGd i0 _ 2 16 ti mM mL mK (by simp[Value.cells]) (by decide) sizeOf62 g 0 l.length cap (l.flatMap cH) w (rk l) (by unfold maxLen;omega) (by omega) (λj u hj=>by
   have:=World.ownsRow.cells hr (g:=g) rfl j u hj;rwa [Addr.add_lit]at this) (λu hu=>by
   obtain⟨x,_,hu⟩:=List.mem_flatMap.1 hu;simp only[cH,List.mem_cons,List.not_mem_nil,or_false]at hu;rcases hu with rfl|rfl<;>rfl)).mono ?_
  rintro e w' ⟨v',rfl,ho,_,hb⟩
  exact hR _ _ (H.newRow hb ho (nR _))
end
section
open Ty (Tr Ck il)
namespace Ty
theorem Ko{l:il}{j:Nat}(h:j<l.length):E' (l.take (j+1))=nD (E' (l.take j)) l[j].1 (some l[j].2):=by
 unfold E';rw[List.take_succ_eq_append_getElem h,List.foldl_append];rfl
theorem Px{l:il}(h:∀p∈l,p.2<=127):∀m t,E' l m=some t->t<=127:=by
 have:∀(l:il)(G:Kt),(∀m t,G m=some t->t<=127)->(∀p∈l,p.2<=127)->∀m t,(l.foldl (λG p=>nD G p.1 (some p.2)) G) m=some t->t<=127:=by
  intro l;induction l with
  |nil=>intro G hG _;exact hG
  |cons a l ih=>
   intro G hG hl;rw[List.foldl_cons];refine ih _ (λm t ht=>?_) λp hp=>hl p (by simp[hp])
   unfold nD at ht;split at ht
   ·cases ht;exact hl a (by simp)
   ·exact hG m t ht
 exact this l _ (λ_ _ h=>by cases h) h
end Ty
theorem V4{w:World}{b n:Nat}{D:Dm}{ca:Nat->Bool}(h:w.ownsMap prog 3 (plainElem prog 4) b n D)(hD:cS ca D):∃cv:Nat->Bool,(∀m,cv m=true->ca m=true)/\∃(n:Nat)(D:Dm),w.ownsMap prog 3 (plainElem prog 4) b n D/\∀(m:Nat) c,D.atKey (.int .i64 (m:Nat)) (.lit (.bool false))=.lit (.bool c)->c=cv m:=by
 refine⟨λm=>match D.atKey (.int .i64 (m:Nat)) (.lit (.bool false))with| .lit (.bool c)=>c| _=>false,λm hm=>?_,n,D,h,λm c e=>by dsimp only;rw[e]⟩;rw[<-hD.2.1 m];cases hh:Maps.has D (.int .i64 (m:Nat))with
 |true=>rfl
 |false=>dsimp only at hm;rw[Maps.atKey_of_not_has hh]at hm;cases hm
abbrev xm:Obj:=.cells #[.int .i64 0,.int .i64 0] 25 (0,0)
theorem Dl{w0 w:World}{Fr:As}(H:Sat w0 w [Fr])(s:BA)(hw:Words w)(hm:s.size<=maxLen){l:List Ty.Sm}(hl:∀pg:Ty.Pg,Ty.parse s=.ok pg->eu 0 l []=(pg.ns,pg.main)){R:EW}
  (aH:∀(pg:Ty.Pg) v c cv gs cb oa oc lv w',xi s l=.ok (pg,v,c)->(∀m,cv m=true->v.ca m=true)->gs.Perm (gC pg (qN v) c (pg.main+1) pg.main [])->gs.Pairwise (λx y=>x.1<=y.1)->
   Sat w0 w' [Fr,oJ lv (sy pg (qN v) cv gs)]->R (.returned (.tuple #[.pointer (some ⟨cb,0,none⟩),.slice oa gs.length oc,lv,bO (0,0)])) w')
  (au:∀f w',xi s l=.error f->Sat w0 w' [Fr]->R (.returned (.tuple #[.pointer none,.slice none 0 0,.slice none 0 0,bO f])) w'):
  Calls prog 62 #[.string s] w R:=by
 have aX:=qh aH;have aB:=qh au;have HW:=qh hw;have Co:=qh hm;have HL:=qh hl;have H1:=qh (Sat.pack (L:=[]) (H.aj xm w.heap.size));clear aH au hw hm hl H;go_in;go_wp2_with fail;refine uL H1.o s (HW.o.below ((bR _ _).alloc (nR _) _)) Co.o HL.o (λpg X cb ca v nc c ov gs w1 hq I6 LO Il hp hs h2=>?_) (λf w1 hq h2=>?_)
 ·have h5:=h2.aj xm w1.heap.size;obtain⟨nr,B_,ni⟩:=h5.mF 1 rfl;obtain⟨tr,C7,mX⟩:=h5.F2 2 rfl;obtain⟨qK,pe,QD⟩:=yu.1 hq;have N2:=lN qK;have hP:PB (w1.alloc xm) X.nv X.tv pg:=⟨⟨nr,B_,ni⟩,⟨tr,C7,mX⟩,N2⟩
  obtain⟨ofb,hasb,bkv,no,nh,fo,fh,bl,h0,hI,h6⟩:=(h5.at 4 rfl).eJ;have TI:=h6.NC hI;obtain⟨hQ,⟨lo,wq⟩,JD⟩:=yG (HL.o pg qK) QD;obtain⟨Dc,tG,pD⟩:=h5.fi 3 rfl;obtain⟨cv,RW,TS⟩:=V4 tG pD;have hE:ElE (w1.alloc xm) X pg cb ca cv:=⟨hP,⟨ofb,hasb,c,h0,TI⟩,λn nd hn=>⟨(hQ n nd hn).lay,(hQ n nd hn).len⟩,by rw[<-LO];exact h6.cell 1 rfl 4 rfl,TS⟩
  have hG:=ym (pg:=pg) (tq:=qN v) (s:=c) (pg.main+1) pg.main lo [] wq (by omega);have X2:=hG.1.len;have B4:pg.main<pg.ns.length:=by obtain⟨_,AL,BM,_⟩:=o8 (HL.o pg qK);rw[BM];exact cX AL
  have QY:=N2.ju;have ku:=hp.length_eq;have Ss:∀p∈gs,p.1<=100000:=λp hx=>by have:=hG.1.1 p (hp.mem_iff.1 hx);omega
  have Sd:∀p∈gs,p.2<=127:=λp hx=>by have:=hG.2.2 p (hp.mem_iff.1 hx);omega
  have c2:=h6.cell 1 rfl 2 rfl;rw[Il]at c2
  have gh:=h6.lt 1 rfl;have UG:=h5.row 5 rfl;obtain⟨oa,oc,rfl⟩:=ag UG;have Hv:=@run_makeMap prog;have g1:=((((((Sat.fO (w1.alloc xm)).O2 (w1.heap.size+1)).O2 (w1.heap.size+1+1)).uG 3 4 (w1.heap.size+1+1+1) (by simp) (Φ:=NY 100001 λ_=>false) (NY.nil _)).cL (i:=3) rfl (Q:=Oo (w1.heap.size+1+1+1) λ_=>false) (λ_=>Ns (by omega))).aj (Rj cb (w1.heap.size+1) (w1.heap.size+1+1) (w1.heap.size+1+1+1)) (w1.heap.size+1+1+1+1) (by simp)).aj (vZ (w1.heap.size+1+1+1+1)) (w1.heap.size+1+1+1+1+1) (by simp);have H5:=qh h5;have HE:=qh hE;have HQ:=qh hq;have acN:=qh UG;have X':=qh Ss;have AV:=qh Sd;have G1:=qh g1;have UW:=qh I6;have RD:=qh wq;have MZ:=qh JD;have HP:=qh hp;have HS:=qh hs;have U1:=qh RW;have Us:=qh c2;have vO:=qh gh;have Ud:=qh (show gs.length<=100000 by omega);clear h2 h5 B_ ni C7 mX qK pe QD N2 hP h6 hI TI hQ wq hE hG g1 hq I6 LO Il JD tG pD RW TS UG Ss Sd hp hs H1 ku X2 c2 gh;rw[show bO (0,0)=Value.agg #[.int .i64 0,.int .i64 0]from rfl];go_wp2_with fail;generalize w1.heap.size+1+1+1+1+1=bx at*
  generalize w1.heap.size+1+1+1+1=fb at*
  generalize w1.heap.size+1+1+1=nb at*
  generalize w1.heap.size+1+1=kb at*
  generalize w1.heap.size+1=gb at*
  go_loopw [31] (λi wr=>∃(j:Nat),i=.int .i64 j/\j<=gs.length/\Hq (Sat (w1.alloc xm) wr [bG (w1.alloc xm),av bx (vZ fb),av fb (Rj cb gb kb nb),kA gb (E' (gs.take j)),kA kb λ_=>none,Oo nb λ_=>false])) (λi _=>gs.length-(intOf i).toNat)
  case atStart=>exact⟨0,rfl,Nat.zero_le _,G1.out.pick [0,5,4,1,2,3]⟩
  case round=>
   obtain⟨j,rfl,hj,hS⟩:=hrel;have ku:=Ud.o;by_cases a_:j<gs.length
   ·obtain⟨g,cap,e,hg,d0,d1⟩:=M7 (ay acN.o hS.out.bD) j a_;cases e;have h3:=hS.out.aj (.cells #[.int .i64 (gs[j].1:Nat),.int .i64 (gs[j].2:Nat)] 62) wr.heap.size;have y0:=h3.cell 1 rfl 0 rfl;have f1:=h3.cell 2 rfl 1 rfl;have z0:=h3.cell 6 rfl 0 rfl;have z1:=h3.cell 6 rfl 1 rfl;have hy:=hS.out.lt 1 rfl;have hf:=hS.out.lt 2 rfl;obtain⟨w6,r6,h6⟩:=h3.drew.JH 3 rfl underlying102 (X'.o _ (gM a_)) (AV.o _ (gM a_));have H6:=qh h6;have Q':=qh (Ko a_);clear h3 h6 hS;generalize gs[j]=x at*
    go_wp2
    go_region
    all_goals
     go_wp2;go_roundw
     case rel=>exact⟨j+1,by go_num,by omega,by show Sat _ _ _;rw[Q'.o];exact H6.o.pick [0,1,2,3,4,5]⟩
     case measure=>simp[intOf];omega
   ·have gO:j=gs.length:=by omega
    have h7:=hS.out;rw[gO,List.take_length]at h7
    have h8:=(((Sat.pack (L:=BQ fb cb gb kb nb (E' gs) (λ_=>none) λ_=>false) (M:=[bG (w1.alloc xm),av bx (vZ fb)]) (h7.pick [2,3,4,5,0,1])).pick [4,0,1,2,3]:Sat (w1.alloc xm) wr (ah [bG (w1.alloc xm),av bx (vZ fb)]::BQ fb cb gb kb nb (E' gs) (λ_=>none) λ_=>false))).nH;have Ja:wr.drew.cell? ⟨bx,0,none⟩=some (.pointer (some ⟨fb,0,none⟩))/\wr.drew.cell? ⟨cb,2,none⟩=some (.int .i64 (pg.main:Nat)):=⟨h7.cell 1 rfl 0 rfl,ak h7.bD Us.o⟩
    have hy:=h7.lt 1 rfl;have gh:cb<wr.heap.size:=nL vO.o h7.bD.size;have sS:=qh (λR=>Kc HE.o (Px AV.o) (pg.main+1) pg.main lo (by omega) RD.o (pg.main+1) (by omega) (λ_=>none,λ_=>false) _ _ (gR.fO _).ah h8.drew ⟨_,MZ.o⟩ R);clear h7 h8 gO hS hj G1;go_wp2;go_region_held3(λw'=>w'.cell? ⟨bx,0,none⟩=some (.pointer (some ⟨fb,0,none⟩))/\w'.cell? ⟨cb,2,none⟩=some (.int .i64 (pg.main:Nat))) (first|exact Ja|exact wO)
     ((go_at_call 108;refine sS.o _ (λw8 h=>?_);have hu:=h.unpack (i:=0) rfl;have wO:w8.cell? ⟨bx,0,none⟩=some (.pointer (some ⟨fb,0,none⟩))/\w8.cell? ⟨cb,2,none⟩=some (.int .i64 (pg.main:Nat)):=⟨hu.cell 2 rfl 0 rfl,ak ((hu.pick [1,0,2]).bD) Us.o⟩;have H8:=qh h;clear h hu))
    all_goals
     obtain⟨vA,h7⟩:=H8.o.jZ;have h9:=H5.o.join (((h7.unpack (i:=0) rfl).pick [4,5,0,3]:Sat (w1.alloc xm) w8 [bG (w1.alloc xm),av bx (vZ fb),av fb (Rj cb gb vA nb),Oo nb (fA pg X.aK cv (E' gs) (pg.main+1) pg.main (λ_=>none,λ_=>false)).2]));have H9:=qh h9;have Hu:∀(fn:Fn)(first cap:Array Value)(w:World),(Instr.makeFunc fn first cap).run prog w=.ok (.func fn first cap) w:=λ_ _ _ _=>rfl
     clear h7 h9 Ja wO hy gh sS H8 H5;go_wp2_with fail;refine A6 H9.o 5 rfl ku (λnv w9 jE=>?_);obtain⟨na,lu,rfl⟩:=ag (jE.row 10 rfl);have s1:=Sat.pack (L:=[av bx (vZ fb),av fb (Rj cb gb vA nb),Oo nb (fA pg X.aK cv (E' gs) (pg.main+1) pg.main (λ_=>none,λ_=>false)).2,oJ (.slice na gs.length lu) gs]) (jE.pick [7,8,9,10,0,1,2,3,4,5,6]);have s2:=(Sat.pack (L:=[oJ (.slice na gs.length lu) gs]) (s1.pick [3,4,0,1,2])).pick [1,0];have rY:=qh s2;clear jE s1 s2 H9;go_wp2_with fail;refine Fc DI X'.o ku rY.o (λlv l_ mO=>?_);obtain⟨la,lc,rfl⟩:=ag (mO.row 1 rfl);have z:=((mO.unpack (i:=0) rfl).unpack (i:=1) rfl).unpack (i:=4) rfl;have z':=z.pick [0,9,10,11];have HG:=qh (λw'(h:Sat w0 w' [Fr,oJ (.slice la (gs.filter λx=>!(fA pg X.aK cv (E' gs) (pg.main+1) pg.main (λ_=>none,λ_=>false)).2 x.1).length lc) (gs.filter λx=>!(fA pg X.aK cv (E' gs) (pg.main+1) pg.main (λ_=>none,λ_=>false)).2 x.1)])=>aX.o pg v c cv gs cb oa oc _ w' HQ.o U1.o HP.o HS.o (by rw[<-UW.o];exact h));have a0:=z'.cell 1 rfl 0 rfl;have a1:=z'.cell 1 rfl 1 rfl;have ha:=z'.lt 1 rfl;have b0:=z'.cell 3 rfl 0 rfl;have b1:=z'.cell 3 rfl 1 rfl;have ad5:=z'.free 3 rfl;have hb:=z'.lt 3 rfl;have n1:=z'.ne 1 3 (by decide) rfl rfl;have HZ:=qh z';clear mO z z' rY;generalize(gs.filter λx=>!(fA pg X.aK cv (E' gs) (pg.main+1) pg.main (λ_=>none,λ_=>false)).2 x.1)=lf at*
     generalize lf.length=ln at*
     go_wp2
     go_region
     all_goals
      go_wp2;refine bodyPost_ret ?_ rfl (HG.o _ ?_)
      ·simp[results,results62,go_sem,bO,a0,a1,b0,b1,hb]
      ·exact(((HZ.o.store 3 rfl 0 _).store 3 rfl 1 _).drew.pick [2,0])
 ·obtain⟨fe,fp⟩:=f;have Ie:=EI HL.o hq;dsimp only at Ie;have e2: ((fe:Int) !=0)=true:=by simp;omega
  have h4:=((h2.unpack (i:=0) rfl).pick [0,1])
  have z0:=h4.cell 1 rfl 0 rfl;have z1:=h4.cell 1 rfl 1 rfl;have fz:=h4.free 1 rfl;have hz:=h4.lt 1 rfl;have Ep:w.heap.size<w1.heap.size+1:=by omega
  have H4:=qh h4;have HQ:=qh hq;clear h2 h4 hq H1 Ie;dsimp only[bO];go_wp2
  go_region
  all_goals
   go_wp2;refine bodyPost_ret ?_ rfl (aB.o (fe,fp) _ HQ.o ?_)
   ·simp[results,results62,go_sem,bO,hz,z0,z1]
   ·exact((((H4.o.store 1 rfl 0 _).store 1 rfl 1 _).aW _).drew.pick [0])
theorem mw{w0 w:World}{Fr:As}(H:Sat w0 w [Fr])(s:BA)(hw:Words w)(hm:s.size<=maxLen){l:List Ty.Sm}(hl:∀pg:Ty.Pg,Ty.parse s=.ok pg->eu 0 l []=(pg.ns,pg.main)){R:EW}
  (aH:∀(pg:Ty.Pg) v c cv gs lv w',xi s l=.ok (pg,v,c)->(∀m,cv m=true->v.ca m=true)->gs.Perm (gC pg (qN v) c (pg.main+1) pg.main [])->gs.Pairwise (λx y=>x.1<=y.1)->Sat w0 w' [Fr,oJ lv (sy pg (qN v) cv gs)]->R (.returned (.tuple #[lv,bO (0,0)])) w')
  (au:∀f w',xi s l=.error f->Sat w0 w' [Fr]->R (.returned (.tuple #[.slice none 0 0,bO f])) w'):
  Calls prog 31 #[.string s] w R:=by
 have aX:=qh aH;have aB:=qh au;have HW:=qh hw;have Co:=qh hm;have HL:=qh hl;have H1:=qh (Sat.pack (L:=[]) (H.aj xm w.heap.size));clear aH au hw hm hl H;go_in;go_wp2_with fail;refine Dl H1.o s (HW.o.below ((bR _ _).alloc (nR _) _)) Co.o HL.o (λpg v c cv gs cb oa oc lv w1 hq Qq hp hs h2=>?_) (λf w1 hq h2=>?_)
 ·obtain⟨la,lc,rfl⟩:=ag (h2.row 1 rfl);have h4:=(h2.unpack (i:=0) rfl).pick [1,2,0];have z0:=h4.cell 1 rfl 0 rfl;have z1:=h4.cell 1 rfl 1 rfl;have fz:=h4.free 1 rfl;have hz:=h4.lt 1 rfl;have Ep:w.heap.size<w1.heap.size+1:=by omega
  have HG:=qh (aX.o pg v c cv gs (.slice la (sy pg (qN v) cv gs).length lc) · hq Qq hp hs);have H4:=qh h4;clear h2 h4 hq Qq hp hs H1;generalize(sy pg (qN v) cv gs)=lf at*
  generalize lf.length=GL at*
  generalize gs.length=GN at*
  rw[show bO (0,0)=Value.agg #[.int .i64 0,.int .i64 0]from rfl];go_wp2
  go_region
  all_goals
   go_wp2;refine bodyPost_ret ?_ rfl (HG.o _ ?_)
   ·simp[results,results31,go_sem,bO,hz,z0,z1]
   ·exact((((H4.o.store 1 rfl 0 _).store 1 rfl 1 _).aW _).drew).pick [0,2]
 ·have h4:=(h2.unpack (i:=0) rfl).pick [0,1];obtain⟨fe,fp⟩:=f;have z0:=h4.cell 1 rfl 0 rfl;have z1:=h4.cell 1 rfl 1 rfl;have fz:=h4.free 1 rfl;have hz:=h4.lt 1 rfl;have Ep:w.heap.size<w1.heap.size+1:=by omega
  have H4:=qh h4;have HQ:=qh hq;clear h2 h4 hq H1;dsimp only[bO];go_wp2
  go_region
  all_goals
   go_wp2;refine bodyPost_ret ?_ rfl (aB.o (fe,fp) _ HQ.o ?_)
   ·simp[results,results31,go_sem,bO,hz,z0,z1]
   ·exact((((H4.o.store 1 rfl 0 _).store 1 rfl 1 _).aW _).drew).pick [0]
theorem Bp{pg:Ty.Pg}{v:Ty.Vg}{c:Ck}(h:xi xC uc=.ok (pg,v,c)):gC pg (qN v) c (pg.main+1) pg.main []=[(0,1),(6,1),(10,1)]/\sy pg (qN v) v.ca [(0,1),(6,1),(10,1)]=[(0,1),(6,1)]:=by
 have e:=ug;rw[h]at e
 simpa using e
theorem Kz: (match xi xC uc with| .ok (_,v,_)=>v.ca| .error _=>λ_=>false)=λ_=>false:=by kernel_rfl
theorem rl{gs l:il}(hp:gs.Perm l)(hs:gs.Pairwise λx y=>x.1<=y.1)(hl:l.Pairwise λx y=>x.1<y.1):gs=l:=by
 have hn:gs.Pairwise λx y=>x.1≠y.1:=List.pairwise_map.1 (((hp.map Prod.fst).nodup_iff).2 (List.pairwise_map.2 (hl.imp λh=>Nat.ne_of_lt h)))
 refine List.Perm.eq_of_pairwise (le:=λx y=>x.1<=y.1) (λa b ha hb h1 h2=>?_) hs (hl.imp λh=>Nat.le_of_lt h) hp;have e:a.1=b.1:=Nat.le_antisymm h1 h2;have ff:=hp.mem_iff.2 hb;obtain⟨i,hi,rfl⟩:=List.getElem_of_mem ha;obtain⟨j,hj,rfl⟩:=List.getElem_of_mem ff;rcases Nat.lt_trichotomy i j with h|h|h
 ·exact absurd e (List.pairwise_iff_getElem.1 hn i j hi hj h)
 ·subst h;rfl
 ·exact absurd e.symm (List.pairwise_iff_getElem.1 hn j i hj hi h)
theorem tV(w:World)(hw:Words w){R:EW}(hR:∀w',Below w.heap.size w w'->R (.returned (.bool true)) w'):
  Calls prog 32 #[] w R:=by
 have HR:=qh hR;have HW:=qh hw;clear hR hw;go_in;go_wp2_with fail;refine qB (Sat.fO w) xC HW.o (by decide) Ab (λpg v c ov gs w1 hq hp hs h1=>?_) (λf w1 hq h1=>?_);rotate_left
 ·have e:=ug;rw[hq]at e;cases e
 rw[(Bp hq).1]at hp
 have hd:=rl hp hs (by decide);subst hd;obtain⟨oa,oc,rfl⟩:=ag (h1.row 1 rfl);have h2:=h1.aj xm w1.heap.size;have H2:=qh h2;clear hq h1 h2 hp hs;rw[show bO (0,0)=Value.agg #[.int .i64 0,.int .i64 0]from rfl];go_wp2_with fail;refine mw (Sat.pack (L:=[]) H2.o) xC (HW.o.below H2.o.bD) (by decide) Ab (λpg v c cv gs lv w2 hq Qq hp hs h3=>?_) (λf w2 hq h3=>?_);rotate_left
 ·have e:=ug;rw[hq]at e;cases e
 obtain⟨e1,e2⟩:=Bp hq;rw[e1]at hp
 have hd:=rl hp hs (by decide);subst hd;have hc:cv=v.ca:=by
  have e:=Kz;rw[hq]at e
  dsimp only at e;funext m;rw[e];cases h:cv m with
  |false=>rfl
  |true=>have:=Qq m h;rw[e]at this;cases this
 rw[hc,e2]at h3
 obtain⟨la,lc,rfl⟩:=ag (h3.row 1 rfl);have h4:=(h3.unpack (i:=0) rfl).aj xm w2.heap.size;have x0:=h4.cell 3 rfl 0 rfl;have x1:=h4.cell 3 rfl 1 rfl;have y0:=h4.cell 4 rfl 0 rfl;have hx:=h4.lt 3 rfl;have HB:=qh ((h4.pick [1,2,3,4]).bD);clear hq Qq hp hs h3 h4 e1 e2 hc H2;rw[show bO (0,0)=Value.agg #[.int .i64 0,.int .i64 0]from rfl];go_wp2;exact HR.o _ HB.o
end
end Go.Proofs.YtdlbhiaceheffabGreatDoor
