/- Plain: the program's way of binding names finds what the reference's way finds. No program in sight. -/
import Derived.Test.YtdlbhiaceheffabGreatDoorE05
set_option linter.all false
namespace Go.Proofs.YtdlbhiaceheffabGreatDoor
open Go Go.RowKit Ty Tok
namespace Ty
def Ob(fr:Frm):List Kn:=fr.names.map λp=>⟨p.1,p.2,fr.owner,fr.of⟩
def l9:List Frm->List Kn
 |[]=>[]
 |fr::l=>l9 l++Ob fr
structure Brg(N:Nat)(frs:List Frm)(env:List Kn)(v:Vg)(s:Sg)(a c:Nat):Prop where
 ev:env=l9 frs
 own:frs.Pairwise λx y=>x.owner<y.owner
 top:∀fr∈frs,c<=fr.owner
 wi:∀m∈env,v.wi m.node=some m.f
 apart:∀m∈env,m.node<a\/c<=m.node
 out:v.out=s.out
 ca:∀k,v.ca k=decide (k∈s.kg)
 lt:∀m∈env,m.node<N
 cl:∀k∈s.kg,k<N
structure Go3(N a b:Nat)(v v':Vg)(s s':Sg):Prop where
 out:v'.out=s'.out
 ca:∀k,v'.ca k=decide (k∈s'.kg)
 wi:∀k,k<a\/b<=k->v'.wi k=v.wi k
 cl:∀k∈s'.kg,k<N
 ext:∃l,s'.out=s.out++l/\(∀p∈l,a<=p.1/\p.1<b/\p.2<N)/\(l.map Prod.fst).Nodup
section
variable {N a b c:Nat} {v v' v2:Vg} {s s' s2:Sg} {frs:List Frm} {env:List Kn} {fr:Frm}
theorem Brg.next(h:Brg N frs env v s a c)(g:Go3 N a b v v' s s')(rQ:a<=b)(OY:b<=c):Brg N frs env v' s' b c where
 ev:=h.ev
 own:=h.own
 top:=h.top
 wi m hm:=by
  rw[g.wi m.node (by have:=h.apart m hm;omega)];exact h.wi m hm
 apart m hm:=by have:=h.apart m hm;omega
 out:=g.out
 ca:=g.ca
 lt:=h.lt
 cl:=g.cl
theorem Brg.mono(h:Brg N frs env v s a c){a' c':Nat}(h1:a<=a')(h2:c'<=c):Brg N frs env v s a' c':=
 {h with top:=λfr hf=>nT h2 (h.top fr hf),apart:=λm hm=>by have:=h.apart m hm;omega}
theorem Go3.refl(h:Brg N frs env v s a c)(b:Nat):Go3 N a b v v s s:=⟨h.out,h.ca,λ_ _=>rfl,h.cl,[],by simp,by simp,by simp⟩
theorem Go3.trans(h:Go3 N a b v v' s s')(g:Go3 N b c v' v2 s' s2)(rQ:a<=b)(OY:b<=c):Go3 N a c v v2 s s2:=by
 obtain⟨l,h1,h2,h3⟩:=h.ext;obtain⟨k,g1,g2,g3⟩:=g.ext;refine⟨g.out,g.ca,λk hk=>by rw[g.wi k (by omega),h.wi k (by omega)],g.cl,l++k,by rw[g1,h1,List.append_assoc],λp hp=>?_,?_⟩
 ·rcases List.mem_append.1 hp with hp|hp
  ·have:=h2 p hp;omega
  ·have:=g2 p hp;omega
 ·rw[List.map_append,List.nodup_append];refine⟨h3,g3,λx hx y hy=>?_⟩;obtain⟨p,hp,rfl⟩:=List.mem_map.1 hx;obtain⟨q,hq,rfl⟩:=List.mem_map.1 hy;have:=h2 p hp;have:=g2 q hq;omega
theorem Go3.mono(h:Go3 N a b v v' s s'){a' b':Nat}(h1:a'<=a)(h2:b<=b'):Go3 N a' b' v v' s s':=by
 obtain⟨l,k1,k2,k3⟩:=h.ext;exact⟨h.out,h.ca,λk hk=>h.wi k (by omega),h.cl,l,k1,λp hp=>by have:=k2 p hp;omega,k3⟩
def Twin(N a b:Nat)(v:Vg)(s:Sg)(x:Except Ft Vg)(y:Except Ft Sg):Prop:=
 (∃f,x=.error f/\y=.error f)\/∃v' s',x=.ok v'/\y=.ok s'/\Go3 N a b v v' s s'
def zV(N a b c:Nat)(v:Vg)(s:Sg)(fr:Frm)(frs:List Frm)(x:Except Ft (Frm×Vg))(y:Except Ft (List Kn×Sg)):Prop:=
 (∃f,x=.error f/\y=.error f)\/∃BO v' yv s',x=.ok (BO,v')/\y=.ok (yv,s')/\Go3 N a b v v' s s'/\Brg N (BO::frs) yv v' s' b c/\BO.owner=fr.owner/\BO.of=fr.of
theorem Twin.and{x:Except Ft Vg}{y:Except Ft Sg}{k:Vg->Except Ft Vg}{l:Sg->Except Ft Sg}(h:Twin N a b v s x y)(B:Brg N frs env v s a c)(rQ:a<=b)(OY:b<=c)
  (g:∀v' s',Brg N frs env v' s' b c->Twin N b c v' s' (k v') (l s')):Twin N a c v s (aN x k) (aN y l):=by
 rcases h with⟨f,rfl,rfl⟩|⟨v',s',rfl,rfl,h1⟩
 ·exact .inl ⟨f,rfl,rfl⟩
 ·rcases g v' s' (B.next h1 rQ OY)with⟨f,e1,e2⟩|⟨v2,s2,e1,e2,h2⟩
  ·exact .inl ⟨f,e1,e2⟩
  ·exact .inr ⟨v2,s2,e1,e2,h1.trans h2 rQ OY⟩
theorem Twin.mono{x:Except Ft Vg}{y:Except Ft Sg}(h:Twin N a b v s x y){a' b':Nat}(h1:a'<=a)(h2:b<=b'):Twin N a' b' v s x y:=by
 rcases h with h|⟨v',s',e1,e2,h3⟩
 ·exact .inl h
 ·exact .inr ⟨v',s',e1,e2,h3.mono h1 h2⟩
theorem zV.snd{x:Except Ft (Frm×Vg)}{y:Except Ft (List Kn×Sg)}(h:zV N a b c v s fr frs x y):Twin N a b v s (aN x λr=>.ok r.2) (aN y λr=>.ok r.2):=by
 rcases h with⟨f,rfl,rfl⟩|⟨BO,v',yv,s',rfl,rfl,h1,_⟩
 ·exact .inl ⟨f,rfl,rfl⟩
 ·exact .inr ⟨v',s',rfl,rfl,h1⟩
theorem Twin.stmt{x:Except Ft Vg}{y:Except Ft Sg}(h:Twin N a b v s x y)(B:Brg N (fr::frs) env v s a c)(rQ:a<=b)(OY:b<=c):zV N a b c v s fr frs (aN x λs=>.ok (fr,s)) (aN y λs=>.ok (env,s)):=by
 rcases h with⟨f,rfl,rfl⟩|⟨v',s',rfl,rfl,h1⟩
 ·exact .inl ⟨f,rfl,rfl⟩
 ·exact .inr ⟨fr,v',env,s',rfl,rfl,h1,B.next h1 rQ OY,rfl,rfl⟩
theorem aM{α β γ:Type}(x:Except Ft α)(f:α->Except Ft β)(g:β->Except Ft γ):aN (aN x f) g=aN x λr=>aN (f r) g:=by cases x<;>rfl
theorem dx{α β:Type}(x:α)(f:α->Except Ft β):aN (.ok x) f=f x:=rfl
theorem AJ(l k:List Kn)(x:BA):nI (l++k) x=match nI k x with|some m=>some m|none=>nI l x:=by
 unfold nI;rw[List.reverse_append,List.find?_append];cases k.reverse.find? _<;>rfl
theorem Mn(fr:Frm)(x:BA): (nI (Ob fr) x).map Kn.node=eR fr.names x:=by
 unfold nI Ob eR;rw[<-List.map_reverse,List.find?_map,Option.map_map];rfl
theorem wV:∀(frs:List Frm)(x:BA),(nI (l9 frs) x).map Kn.node=j_ frs x
 |[],_=>rfl
 |fr::l,x=>by
  rw[l9,AJ,j_,<-Mn];cases nI (Ob fr) x with
  |some m=>rfl
  |none=>exact wV l x
theorem JE{env:List Kn}{x:BA}{m:Kn}(h:nI env x=some m):m∈env:=by
 have:=List.mem_of_find?_eq_some h
 simpa using this
theorem AK(B:Brg N (fr::frs) env v s a c)(p:Nat)(x:BA)(n:Nat)(set:Bool)(hn:a<=n)(hb:n<b):Twin N a b v s (kF p x n set (fr::frs) v) (K6 p x n set fr.of env s):=by
 unfold kF K6;rw[B.ev,<-wV];cases h:nI (l9 (fr::frs)) x with
 |none=>exact .inl ⟨_,rfl,rfl⟩
 |some m=>
  have hm:m∈env:=by rw[B.ev];exact JE h
  refine .inr ⟨_,_,rfl,rfl,?_⟩;have hw: (v.wi m.node).getD 0=m.f:=by rw[B.wi m hm];rfl
  refine⟨by simp[B.out],λk=>?_,λ_ _=>rfl,λk hk=>?_,[(n,m.node)],rfl,by have:=B.lt m hm;simp;omega,by simp⟩
  ·dsimp only;rw[hw];rw[show oV (fr::frs)=fr.of from rfl];cases hs: (set&&decide (m.f≠fr.of))with
   |false=>simpa using B.ca k
   |true=>
    by_cases hc:m.node∈s.kg
    ·simp only[Bool.true_and,hc,decide_true,Bool.not_true,if_true,Bool.false_eq_true,if_false];by_cases hk:k=m.node
     ·subst hk;simp[hc]
     ·rw[if_neg hk];exact B.ca k
    ·simp only[Bool.true_and,hc,decide_false,Bool.not_false,if_true];by_cases hk:k=m.node
     ·subst hk;simp
     ·rw[if_neg hk,B.ca k];simp[hk]
  ·dsimp only at hk;split at hk
   ·rcases List.mem_append.1 hk with hk|hk
    ·exact B.cl k hk
    ·simp at hk;subst hk;exact B.lt m hm
   ·exact B.cl k hk
theorem A7:∀{frs:List Frm}{m:Kn},m∈l9 frs->∃fr∈frs,m.owner=fr.owner
 |[],m,h=>by simp[l9]at h
 |fr::l,m,h=>by
  rw[l9]at h
  rcases List.mem_append.1 h with h|h
  ·obtain⟨f,h1,h2⟩:=A7 h;exact⟨f,by simp[h1],h2⟩
  ·unfold Ob at h;obtain⟨p,hp,rfl⟩:=List.mem_map.1 h;exact⟨fr,by simp,rfl⟩
theorem DO(l:List (BA×Nat))(x:BA): (eR l x).isSome=l.any λp=>decide (p.1=x):=by
 unfold eR;rw[Option.isSome_map,<-List.any_reverse (l:=l)];rw[Bool.eq_iff_iff,List.find?_isSome,List.any_eq_true]
theorem L7(B:Brg N (fr::frs) env v s a c)(x:BA):env.any (λm=>decide (m.owner=fr.owner)&&decide (m.text=x))=(eR fr.names x).isSome:=by
 rw[DO,B.ev,l9,List.any_append];have h1: (l9 frs).any (λm=>decide (m.owner=fr.owner)&&decide (m.text=x))=false:=by
  rw[List.any_eq_false];intro m hm;obtain⟨f,hf,e⟩:=A7 hm;have:=(List.pairwise_cons.1 B.own).1 f hf;have bT:m.owner≠fr.owner:=by omega
  simp[bT]
 rw[h1];unfold Ob;simp[List.any_map,Function.comp_def]
theorem Brg.add(B:Brg N (fr::frs) env v s a c)(x:BA)(n:Nat)(h1:∀m∈env,m.node≠n){a' c':Nat}(ha:a<=a')(hc:c'<=c)(hn:n<a'\/c'<=n)(hN:n<N):
  Brg N (addN fr x n::frs) (env++[⟨x,n,fr.owner,fr.of⟩]) (vr v n fr.of) s a' c' where
 ev:=by rw[B.ev,l9,l9];simp[Ob,addN]
 own:=List.pairwise_cons.2 (List.pairwise_cons.1 B.own)
 top f hf:=by
  rcases List.mem_cons.1 hf with rfl|hf
  ·exact nT hc (B.top fr (by simp))
  ·exact nT hc (B.top f (by simp[hf]))
 wi m hm:=by
  rcases List.mem_append.1 hm with hm|hm
  ·show(if m.node=n then _ else _)= _;rw[if_neg (h1 m hm)];exact B.wi m hm
  ·simp at hm;subst hm;simp[vr]
 apart m hm:=by
  rcases List.mem_append.1 hm with hm|hm
  ·have:=B.apart m hm;omega
  ·simp at hm;subst hm;exact hn
 out:=B.out
 ca:=B.ca
 lt m hm:=by
  rcases List.mem_append.1 hm with hm|hm
  ·exact B.lt m hm
  ·simp at hm;subst hm;exact hN
 cl:=B.cl
theorem Brg.push(B:Brg N frs env v s a c)(n:Nat)(o:Int)(h1:n<c){c':Nat}(hc:c'<=n):Brg N (⟨[],n,o⟩::frs) env v s a c' where
 ev:=by rw[B.ev,l9];simp[Ob]
 own:=List.pairwise_cons.2 ⟨λf hf=>nL h1 (B.top f hf),B.own⟩
 top f hf:=by
  rcases List.mem_cons.1 hf with rfl|hf
  ·exact hc
  ·exact nT hc (nT (Nat.le_of_lt h1) (B.top f hf))
 wi:=B.wi
 apart m hm:=by have:=B.apart m hm;omega
 out:=B.out
 ca:=B.ca
 lt:=B.lt
 cl:=B.cl
theorem zK:∀(ps:List Par)(a:Nat)(fr:Frm)(env:List Kn)(v:Vg),Brg N (fr::frs) env v s a c->a+ps.length<=c->c<=N->fr.of=(fr.owner:Int)->
  Brg N ((gu ps a fr v).1::frs) (env++Kh fr.owner ps a) (gu ps a fr v).2 s (a+ps.length) c/\(gu ps a fr v).1.owner=fr.owner/\(gu ps a fr v).1.of=fr.of/\∀k,k<a\/a+ps.length<=k->(gu ps a fr v).2.wi k=v.wi k
 |[],a,fr,env,v,B,_,_,_=>⟨by simpa [gu,Kh]using B,rfl,rfl,λ_ _=>rfl⟩
 |q::ps,a,fr,env,v,B,h,hN,ho=>by
  simp only[List.length_cons]at h;have B2:=B.add q.text a (λm hm=>by have:=B.apart m hm;omega) (a':=a+1) (Nat.le_succ _) (nR _) (.inl (Nat.lt_succ_self _)) (by omega);obtain⟨h1,h2,h3,h4⟩:=zK ps (a+1) _ _ _ B2 (by omega) hN ho;refine⟨?_,h2,h3,λk hk=>?_⟩
  ·rw[gu,Kh,List.length_cons];rw[List.append_assoc,List.singleton_append,ho,show a+1+ps.length=a+(ps.length+1)by omega]at h1
   rw[ho];exact h1
  ·simp only[List.length_cons]at hk;rw[gu,h4 k (by omega)];show(if k=a then _ else _)= _;rw[if_neg (by omega)]
end
mutual
theorem cI{N:Nat}:∀(e:Ex)(a c:Nat)(fr:Frm)(frs:List Frm)(env:List Kn)(v:Vg)(s:Sg),Brg N (fr::frs) env v s a c->a+ax e<=c->c<=N->Twin N a (a+ax e) v s (bP e a (fr::frs) v) (eZ e a fr.of env s)
 | .num ..,a,c,fr,frs,env,v,s,B,_,_=>by rw[bP,eZ];exact .inr ⟨_,_,rfl,rfl,Go3.refl B _⟩
 | .text ..,a,c,fr,frs,env,v,s,B,_,_=>by rw[bP,eZ];exact .inr ⟨_,_,rfl,rfl,Go3.refl B _⟩
 | .bool ..,a,c,fr,frs,env,v,s,B,_,_=>by rw[bP,eZ];exact .inr ⟨_,_,rfl,rfl,Go3.refl B _⟩
 | .null ..,a,c,fr,frs,env,v,s,B,_,_=>by rw[bP,eZ];exact .inr ⟨_,_,rfl,rfl,Go3.refl B _⟩
 | .var p x,a,c,fr,frs,env,v,s,B,_,_=>by rw[bP,eZ];exact AK B p x a false (nR _) (by simp[ax])
 | .fn p ps ty bp body,a,c,fr,frs,env,v,s,B,h,hN=>by
  rw[ax]at h⊢
  rw[bP,eZ];have B1:=B.push (a+ps.length+aJ body+1) ((a+ps.length+aJ body+1:Nat):Int) (by omega) (c':=a+ps.length+aJ body) (by omega);obtain⟨B2,h2,h3,h4⟩:=zK (s:=s) ps a ⟨[],a+ps.length+aJ body+1,((a+ps.length+aJ body+1:Nat):Int)⟩ env v B1 (by omega) (by omega) rfl;have T:=gH body (a+ps.length) (a+ps.length+aJ body) _ _ _ _ _ B2 (nR _) (by omega);rw[h2,h3]at T
  have G:Go3 N a (a+ps.length) v (gu ps a ⟨[],a+ps.length+aJ body+1,((a+ps.length+aJ body+1:Nat):Int)⟩ v).2 s s:=⟨B2.out,B2.ca,h4,B2.cl,[],by simp,by simp,by simp⟩
  rcases T with⟨f,e1,e2⟩|⟨BO,v',yv,s',e1,e2,g,_⟩
  ·exact .inl ⟨f,by rw[e1];rfl,by rw[e2];rfl⟩
  ·exact .inr ⟨v',s',by rw[e1];rfl,by rw[e2];rfl,(G.trans g (by omega) (by omega)).mono (nR _) (by omega)⟩
 | .call p e l,a,c,fr,frs,env,v,s,B,h,hN=>by
  rw[ax]at h⊢
  rw[bP,eZ];exact((cI e a c fr frs env v s B (by omega) hN).and (B.mono (nR _) (c':=a+ax e+eE l) (by omega)) (by omega) (by omega) λv' s' B'=>qP l (a+ax e) _ fr frs env v' s' B' (nR _) (by omega)).mono (nR _) (by omega)
 | .get p e x,a,c,fr,frs,env,v,s,B,h,hN=>by
  rw[ax]at h⊢
  rw[bP,eZ];exact(cI e a c fr frs env v s B (by omega) hN).mono (nR _) (by omega)
 | .atX p e i,a,c,fr,frs,env,v,s,B,h,hN=>by
  rw[ax]at h⊢
  rw[bP,eZ];exact((cI e a c fr frs env v s B (by omega) hN).and (B.mono (nR _) (c':=a+ax e+ax i) (by omega)) (by omega) (by omega) λv' s' B'=>cI i (a+ax e) _ fr frs env v' s' B' (nR _) (by omega)).mono (nR _) (by omega)
 | .obj p l,a,c,fr,frs,env,v,s,B,h,hN=>by
  rw[ax]at h⊢
  rw[bP,eZ];exact(wZ l a c fr frs env v s B (by omega) hN).mono (nR _) (by omega)
 | .arr p l,a,c,fr,frs,env,v,s,B,h,hN=>by
  rw[ax]at h⊢
  rw[bP,eZ];exact(qP l a c fr frs env v s B (by omega) hN).mono (nR _) (by omega)
 | .two p x e i,a,c,fr,frs,env,v,s,B,h,hN=>by
  rw[ax]at h⊢
  rw[bP,eZ];exact((cI e a c fr frs env v s B (by omega) hN).and (B.mono (nR _) (c':=a+ax e+ax i) (by omega)) (by omega) (by omega) λv' s' B'=>cI i (a+ax e) _ fr frs env v' s' B' (nR _) (by omega)).mono (nR _) (by omega)
 | .one p x e,a,c,fr,frs,env,v,s,B,h,hN=>by
  rw[ax]at h⊢
  rw[bP,eZ];exact(cI e a c fr frs env v s B (by omega) hN).mono (nR _) (by omega)
 | .asX p e ty,a,c,fr,frs,env,v,s,B,h,hN=>by
  rw[ax]at h⊢
  rw[bP,eZ];exact(cI e a c fr frs env v s B (by omega) hN).mono (nR _) (by omega)
theorem qP{N:Nat}:∀(l:List Ex)(a c:Nat)(fr:Frm)(frs:List Frm)(env:List Kn)(v:Vg)(s:Sg),Brg N (fr::frs) env v s a c->a+eE l<=c->c<=N->Twin N a (a+eE l) v s (iP l a (fr::frs) v) (vo l a fr.of env s)
 |[],a,c,fr,frs,env,v,s,B,_,_=>by rw[iP,vo];exact .inr ⟨_,_,rfl,rfl,Go3.refl B _⟩
 |e::l,a,c,fr,frs,env,v,s,B,h,hN=>by
  rw[eE]at h⊢
  rw[iP,vo];exact((cI e a c fr frs env v s B (by omega) hN).and (B.mono (nR _) (c':=a+ax e+eE l) (by omega)) (by omega) (by omega) λv' s' B'=>qP l (a+ax e) _ fr frs env v' s' B' (nR _) (by omega)).mono (nR _) (by omega)
theorem wZ{N:Nat}:∀(l:List (Nat×BA×Ex))(a c:Nat)(fr:Frm)(frs:List Frm)(env:List Kn)(v:Vg)(s:Sg),Brg N (fr::frs) env v s a c->a+fE l<=c->c<=N->Twin N a (a+fE l) v s (jv l a (fr::frs) v) (wI l a fr.of env s)
 |[],a,c,fr,frs,env,v,s,B,_,_=>by rw[jv,wI];exact .inr ⟨_,_,rfl,rfl,Go3.refl B _⟩
 |(p,x,e)::l,a,c,fr,frs,env,v,s,B,h,hN=>by
  rw[fE]at h⊢
  rw[jv,wI];exact(((cI e a c fr frs env v s B (by omega) hN).mono (nR _) (b':=a+ax e+1) (by omega)).and (B.mono (nR _) (c':=a+ax e+1+fE l) (by omega)) (by omega) (by omega) λv' s' B'=>wZ l (a+ax e+1) _ fr frs env v' s' B' (nR _) (by omega)).mono (nR _) (by omega)
theorem gH{N:Nat}:∀(l:List Sm)(a c:Nat)(fr:Frm)(frs:List Frm)(env:List Kn)(v:Vg)(s:Sg),Brg N (fr::frs) env v s a c->a+aJ l<=c->c<=N->zV N a (a+aJ l) c v s fr frs (fw l a fr frs v) (oT l a fr.owner fr.of env s)
 |[],a,c,fr,frs,env,v,s,B,h,_=>by
  rw[fw,oT];exact .inr ⟨fr,v,env,s,rfl,rfl,Go3.refl B _,by simpa [aJ]using B,rfl,rfl⟩
 |e::l,a,c,fr,frs,env,v,s,B,h,hN=>by
  rw[aJ]at h⊢
  rw[fw,oT];rcases Ir e a c fr frs env v s B (by omega) hN with⟨f,e1,e2⟩|⟨BO,v',yv,s',e1,e2,g,B',h2,h3⟩
  ·exact .inl ⟨f,by rw[e1];rfl,by rw[e2];rfl⟩
  ·rw[e1,e2,dx,dx];have T:=gH l (a+da e) c BO frs yv v' s' B' (by omega) hN;rw[h2,h3]at T
   rcases T with⟨f,e1,e2⟩|⟨uf,v2,W9,s2,e1,e2,g2,B2,h4,h5⟩
   ·exact .inl ⟨f,e1,e2⟩
   ·refine .inr ⟨uf,v2,W9,s2,e1,e2,(g.trans g2 (by omega) (by omega)).mono (nR _) (by omega),?_,h4.trans h2,h5.trans h3⟩;rw[<-Nat.add_assoc];exact B2
theorem Ir{N:Nat}:∀(e:Sm)(a c:Nat)(fr:Frm)(frs:List Frm)(env:List Kn)(v:Vg)(s:Sg),Brg N (fr::frs) env v s a c->a+da e<=c->c<=N->zV N a (a+da e) c v s fr frs (dC e a fr frs v) (qi e a fr.owner fr.of env s)
 | .jR p x ty e,a,c,fr,frs,env,v,s,B,h,hN=>by
  rw[da]at h⊢
  rw[dC,qi,L7 B];cases hl: (eR fr.names x).isSome with
  |true=>exact .inl ⟨_,rfl,rfl⟩
  |false=>
   simp only[Bool.false_eq_true,if_false];have bT:∀m∈env,m.node≠a+ax e:=λm hm=>by have:=B.apart m hm;omega
   cases hf:lK e with
   |true=>
    simp only[if_true];have B1:=B.add x (a+ax e) bT (a':=a) (c':=a+ax e) (nR _) (by omega) (.inr (nR _)) (by omega);rcases cI e a (a+ax e) _ frs _ _ s B1 (nR _) (by omega)with⟨f,e1,e2⟩|⟨v',s',e1,e2,g⟩
    ·exact .inl ⟨f,by rw[e1];rfl,by rw[show eZ e a fr.of _ s= _ from e2];rfl⟩
    ·refine .inr ⟨addN fr x (a+ax e),v',_,s',by rw[e1];rfl,by rw[show eZ e a fr.of _ s= _ from e2];rfl,?_,?_,rfl,rfl⟩
     ·obtain⟨l,k1,k2,k3⟩:=g.ext;refine⟨g.out,g.ca,λk hk=>?_,g.cl,l,k1,λp hp=>by have:=k2 p hp;omega,k3⟩;rw[g.wi k (by omega)];show(if k= _ then _ else _)= _;rw[if_neg (by omega)]
     ·have B3:=B1.next g (by omega) (nR _);refine{B3 with top:=λf hf=>?_,apart:=λm hm=>?_}
      ·rcases List.mem_cons.1 hf with rfl|hf
       ·exact B.top fr (by simp)
       ·exact B.top f (by simp[hf])
      ·rcases List.mem_append.1 hm with hm|hm
       ·have:=B.apart m hm;omega
       ·simp at hm;subst hm;left;dsimp only;omega
   |false=>
    simp only[Bool.false_eq_true,if_false];rcases cI e a c fr frs env v s B (by omega) hN with⟨f,e1,e2⟩|⟨v',s',e1,e2,g⟩
    ·exact .inl ⟨f,by rw[e1];rfl,by rw[e2];rfl⟩
    ·have B1:=B.next g (by omega) (by omega);refine .inr ⟨addN fr x (a+ax e),_,_,s',by rw[e1];rfl,by rw[e2];rfl,?_,B1.add x (a+ax e) bT (a':=a+(ax e+1)) (by omega) (nR _) (.inl (by omega)) (by omega),rfl,rfl⟩;obtain⟨l,k1,k2,k3⟩:=g.ext;refine⟨g.out,g.ca,λk hk=>?_,g.cl,l,k1,λp hp=>by have:=k2 p hp;omega,k3⟩;show(if k= _ then _ else _)= _;rw[if_neg (by omega),g.wi k (by omega)]
 | .set p x e,a,c,fr,frs,env,v,s,B,h,hN=>by
  rw[da]at h⊢
  rw[dC,qi];rcases AK (b:=a+ax e+1) B p x (a+ax e) true (by omega) (by omega)with⟨f,e1,e2⟩|⟨v',s',e1,e2,g⟩
  ·exact .inl ⟨f,by rw[e1];rfl,by rw[e2];rfl⟩
  ·rw[e1,e2,dx,dx];have hg:v'.wi=v.wi/\∃t,s'.out=s.out++[(a+ax e,t)]:=by
    unfold kF at e1;unfold K6 at e2;split at e1
    ·cases e1
    ·split at e2
     ·cases e2
     ·cases e1;cases e2;exact⟨rfl,_,rfl⟩
   obtain⟨hw,t,ht⟩:=hg;have adO:t<N:=by
    obtain⟨l0,q1,q2,_⟩:=g.ext;rw[ht]at q1
    exact(q2 (a+ax e,t) (by rw[<-List.append_cancel_left q1];simp)).2.2
   have B1:Brg N (fr::frs) env v' s' a c:={B with wi:=λm hm=>by rw[hw];exact B.wi m hm,out:=g.out,ca:=g.ca,cl:=g.cl}
   rcases cI e a c fr frs env v' s' B1 (by omega) hN with⟨f,e1,e2⟩|⟨v2,s2,e1,e2,g2⟩
   ·exact .inl ⟨f,by rw[e1];rfl,by rw[e2];rfl⟩
   ·obtain⟨l,k1,k2,k3⟩:=g2.ext;have G:Go3 N a (a+(ax e+1)) v v2 s s2:=⟨g2.out,g2.ca,λk hk=>by rw[g2.wi k (by omega),hw],g2.cl,(a+ax e,t)::l,by rw[k1,ht];simp,λp hp=>by
      rcases List.mem_cons.1 hp with rfl|hp
      ·dsimp only;omega
      ·have:=k2 p hp;omega,by
      rw[List.map_cons,List.nodup_cons];refine⟨λhm=>?_,k3⟩;obtain⟨q,hq,e⟩:=List.mem_map.1 hm;have:=k2 q hq;dsimp only at e;omega⟩
    exact .inr ⟨fr,v2,env,s2,by rw[e1];rfl,by rw[e2];rfl,G,B.next G (by omega) (by omega),rfl,rfl⟩
 | .put p e x i,a,c,fr,frs,env,v,s,B,h,hN=>by
  rw[da]at h⊢
  rw[dC,qi,<-aM,<-aM];exact(((cI e a c fr frs env v s B (by omega) hN).and (B.mono (nR _) (c':=a+ax e+ax i) (by omega)) (by omega) (by omega) λv' s' B'=>cI i (a+ax e) _ fr frs env v' s' B' (nR _) (by omega)).mono (nR _) (by omega)).stmt B (by omega) h
 | .lay p e i u,a,c,fr,frs,env,v,s,B,h,hN=>by
  rw[da]at h⊢
  have T:=((cI e a c fr frs env v s B (by omega) hN).and (B.mono (nR _) (c':=a+ax e+ax i) (by omega)) (by omega) (by omega) λv' s' B'=>cI i (a+ax e) _ fr frs env v' s' B' (nR _) (by omega)).and (B.mono (nR _) (c':=a+ax e+ax i+ax u) (by omega)) (by omega) (by omega) λv' s' B'=>cI u (a+ax e+ax i) _ fr frs env v' s' B' (nR _) (by omega)
  have T2:=(T.mono (nR _) (b':=a+(ax e+ax i+ax u+1)) (by omega)).stmt B (by omega) h;rw[aM,aM,aM,aM]at T2
  rw[dC,qi]
  simpa only[aM]using T2
 | .print p e,a,c,fr,frs,env,v,s,B,h,hN=>by
  rw[da]at h⊢
  rw[dC,qi];exact((cI e a c fr frs env v s B (by omega) hN).mono (nR _) (by omega)).stmt B (by omega) h
 | .ret p e,a,c,fr,frs,env,v,s,B,h,hN=>by
  rw[da]at h⊢
  rw[dC,qi];exact((cI e a c fr frs env v s B (by omega) hN).mono (nR _) (by omega)).stmt B (by omega) h
 | .u9 p e,a,c,fr,frs,env,v,s,B,h,hN=>by
  rw[da]at h⊢
  rw[dC,qi];exact((cI e a c fr frs env v s B (by omega) hN).mono (nR _) (by omega)).stmt B (by omega) h
 | .if_ p e bp b none,a,c,fr,frs,env,v,s,B,h,hN=>by
  rw[da]at h⊢
  have T:=(cI e a c fr frs env v s B (by omega) hN).and (B.mono (nR _) (c':=a+ax e+aJ b+1) (by omega)) (by omega) (by omega) λv' s' B'=>
   ((gH b (a+ax e) (a+ax e+aJ b) ⟨[],a+ax e+aJ b,fr.of⟩ (fr::frs) env v' s' (B'.push _ _ (by omega) (nR _)) (nR _) (by omega)).snd).mono (nR _) (by omega)
  have T2:=(T.mono (nR _) (b':=a+(ax e+aJ b+2)) (by omega)).stmt B (by omega) h;rw[dC,qi]
  simpa only[aM,dx]using T2
 | .if_ p e bp b (some (cp,d)),a,c,fr,frs,env,v,s,B,h,hN=>by
  rw[da]at h⊢
  have T:=((cI e a c fr frs env v s B (by omega) hN).and (B.mono (nR _) (c':=a+ax e+aJ b+1) (by omega)) (by omega) (by omega) λv' s' B'=>
   ((gH b (a+ax e) (a+ax e+aJ b) ⟨[],a+ax e+aJ b,fr.of⟩ (fr::frs) env v' s' (B'.push _ _ (by omega) (nR _)) (nR _) (by omega)).snd).mono (nR _) (by omega)).and
   (B.mono (nR _) (c':=a+ax e+aJ b+1+aJ d+1) (by omega)) (by omega) (by omega) λv' s' B'=>
   ((gH d (a+ax e+aJ b+1) (a+ax e+aJ b+1+aJ d) ⟨[],a+ax e+aJ b+1+aJ d,fr.of⟩ (fr::frs) env v' s' (B'.push _ _ (by omega) (nR _)) (nR _) (by omega)).snd).mono (nR _) (by omega)
  have T2:=(T.mono (nR _) (b':=a+(ax e+aJ b+aJ d+3)) (by omega)).stmt B (by omega) h;rw[dC,qi]
  simpa only[aM,dx]using T2
 | .while_ p e bp b,a,c,fr,frs,env,v,s,B,h,hN=>by
  rw[da]at h⊢
  have T:=(cI e a c fr frs env v s B (by omega) hN).and (B.mono (nR _) (c':=a+ax e+aJ b+1) (by omega)) (by omega) (by omega) λv' s' B'=>
   ((gH b (a+ax e) (a+ax e+aJ b) ⟨[],a+ax e+aJ b,fr.of⟩ (fr::frs) env v' s' (B'.push _ _ (by omega) (nR _)) (nR _) (by omega)).snd).mono (nR _) (by omega)
  have T2:=(T.mono (nR _) (b':=a+(ax e+aJ b+2)) (by omega)).stmt B (by omega) h;rw[dC,qi]
  simpa only[aM,dx]using T2
end
end Ty
namespace Ty
def jC(l:List Sm):Except Ft Vg:=aN (fw l 0 ⟨[],aJ l,-1⟩ [] ⟨[],λ_=>none,λ_=>false⟩) λr=>.ok r.2
end Ty
namespace Ty
abbrev Key:=List Nat×List Int×List Nat×List UInt8
def key(n:Nd):Key:=([n.kind,n.a,n.b,n.n,n.pos],[n.c,n.ty],n.list,n.text.data.toList)
theorem key_inj{m n:Nd}(h:key m=key n):m=n:=by
 obtain⟨a1,a2,a3,a4,a5,⟨⟨a6⟩⟩,a7,a8,a9⟩:=m;obtain⟨b1,b2,b3,b4,b5,⟨⟨b6⟩⟩,b7,b8,b9⟩:=n;simp only[key,Prod.mk.injEq,List.cons.injEq,and_true]at h;obtain⟨⟨rfl,rfl,rfl,rfl,rfl⟩,⟨rfl,rfl⟩,rfl,h6⟩:=h;obtain rfl:a6=b6:=h6;rfl
theorem AQ:∀{l m:List Nd},l.map key=m.map key->l=m
 |[],[],_=>rfl
 |a::l,b::m,h=>by
  simp only[List.map_cons,List.cons.injEq]at h;rw[key_inj h.1,AQ h.2]
 |[],b::m,h=>by simp at h
 |a::l,[],h=>by simp at h
end Ty
namespace Ty
structure Mo(k:Nat)(s s':Sg):Prop where
 out:s'.out.length<=s.out.length+k
 kg:s'.kg.length<=s.kg.length+k
end Ty
namespace Ty
theorem L3{l:List Sm}{v:Vg}(h:jC l=.ok v):∀p∈v.out,p.1<aJ l+1:=by
 have B:Brg (aJ l+1) [⟨[],aJ l,-1⟩] [] ⟨[],λ_=>none,λ_=>false⟩ ⟨[],[]⟩ 0 (aJ l):=
  ⟨rfl,by simp,by simp,by simp,by simp,rfl,by simp,by simp,by simp⟩
 have T:=gH l 0 (aJ l) _ _ _ _ _ B (by omega) (by omega);unfold jC at h;rcases T with⟨f,e1,e2⟩|⟨BO,v',yv,s',e1,e2,g,B',_⟩
 ·rw[e1]at h;cases h
 ·rw[e1]at h
  cases h;obtain⟨k,h1,h2,h3⟩:=g.ext;intro p hp;have pe:p∈s'.out:=by rw[<-g.out];exact hp
  rw[h1]at pe
  simp only[List.nil_append]at pe;have:=h2 p pe;omega
end Ty
end Go.Proofs.YtdlbhiaceheffabGreatDoor
