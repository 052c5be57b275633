/- Plain: the program's way of binding names finds what the reference's way finds. No program in sight. -/
import Derived.Test.YtdlbhiaceheffabGreatDoorP05
set_option linter.all false
namespace Go.Proofs.YtdlbhiaceheffabGreatDoor
open Go Go.RowKit Ty Tok
namespace Ty
def Ob(fr:Frm):List Kn:=fr.names.map λp=>⟨p.1,p.2,fr.owner,fr.of⟩
def lM:List Frm→List Kn
 |[]=>[]
 |fr::l=>lM l++Ob fr
structure Brg(N:Nat)(frs:List Frm)(env:List Kn)(v:Vg)(s:Sg)(a c:Nat):Prop where
 ev:env=lM frs
 own:frs.Pairwise λx y=>x.owner<y.owner
 top:∀fr∈frs,c≤fr.owner
 wi:∀m∈env,v.wi m.node=some m.f
 apart:∀m∈env,m.node<a∨c≤m.node
 out:v.out=s.out
 ca:∀k,v.ca k=decide (k∈s.fR)
 lt:∀m∈env,m.node<N
 cl:∀k∈s.fR,k<N
structure Go3(N a b:Nat)(v v':Vg)(s s':Sg):Prop where
 out:v'.out=s'.out
 ca:∀k,v'.ca k=decide (k∈s'.fR)
 wi:∀k,k<a∨b≤k→v'.wi k=v.wi k
 cl:∀k∈s'.fR,k<N
 ext:∃l,s'.out=s.out++l∧(∀p∈l,a≤p.1∧p.1<b∧p.2<N)∧(l.map Prod.fst).Nodup
section
variable {N a b c:Nat} {v v' v2:Vg} {s s' s2:Sg} {frs:List Frm} {env:List Kn} {fr:Frm}
theorem Brg.next(h:Brg N frs env v s a c)(g:Go3 N a b v v' s s')(qY:a≤b)(Qt:b≤c):Brg N frs env v' s' b c where
 ev:=h.ev
 own:=h.own
 top:=h.top
 wi m hm:=by
  rw[g.wi m.node (by have:=h.apart m hm;omega)];exact h.wi m hm
 apart m hm:=by have:=h.apart m hm;omega
 out:=g.out
 ca:=g.ca
 lt:=h.lt
 cl:=g.cl
theorem Brg.mono(h:Brg N frs env v s a c){a' c':Nat}(h1:a≤a')(h2:c'≤c):Brg N frs env v s a' c':=
 {h with top:=λfr hf=>nT h2 (h.top fr hf),apart:=λm hm=>by have:=h.apart m hm;omega}
theorem Go3.refl(h:Brg N frs env v s a c)(b:Nat):Go3 N a b v v s s:=⟨h.out,h.ca,λ_ _=>rfl,h.cl,[],by simp,by simp,by simp⟩
theorem Go3.trans(h:Go3 N a b v v' s s')(g:Go3 N b c v' v2 s' s2)(qY:a≤b)(Qt:b≤c):Go3 N a c v v2 s s2:=by
 obtain⟨l,h1,h2,h3⟩:=h.ext;obtain⟨k,g1,g2,g3⟩:=g.ext;refine⟨g.out,g.ca,λk hk=>by rw[g.wi k (by omega),h.wi k (by omega)],g.cl,l++k,by rw[g1,h1,List.append_assoc],λp hp=>?_,?_⟩
 ·rcases List.mem_append.1 hp with hp|hp
  ·have:=h2 p hp;omega
  ·have:=g2 p hp;omega
 ·rw[List.map_append,List.nodup_append];refine⟨h3,g3,λx hx y hy=>?_⟩;obtain⟨p,hp,rfl⟩:=List.mem_map.1 hx;obtain⟨q,hq,rfl⟩:=List.mem_map.1 hy;have:=h2 p hp;have:=g2 q hq;omega
theorem Go3.mono(h:Go3 N a b v v' s s'){a' b':Nat}(h1:a'≤a)(h2:b≤b'):Go3 N a' b' v v' s s':=by
 obtain⟨l,k1,k2,k3⟩:=h.ext;exact⟨h.out,h.ca,λk hk=>h.wi k (by omega),h.cl,l,k1,λp hp=>by have:=k2 p hp;omega,k3⟩
def Twin(N a b:Nat)(v:Vg)(s:Sg)(x:Except Ft Vg)(y:Except Ft Sg):Prop:=
 (∃f,x=.error f∧y=.error f)∨∃v' s',x=.ok v'∧y=.ok s'∧Go3 N a b v v' s s'
def AP(N a b c:Nat)(v:Vg)(s:Sg)(fr:Frm)(frs:List Frm)(x:Except Ft (Frm×Vg))(y:Except Ft (List Kn×Sg)):Prop:=
 (∃f,x=.error f∧y=.error f)∨∃BG v' yV s',x=.ok (BG,v')∧y=.ok (yV,s')∧Go3 N a b v v' s s'∧Brg N (BG::frs) yV v' s' b c∧BG.owner=fr.owner∧BG.of=fr.of
theorem Twin.and{x:Except Ft Vg}{y:Except Ft Sg}{k:Vg→Except Ft Vg}{l:Sg→Except Ft Sg}(h:Twin N a b v s x y)(B:Brg N frs env v s a c)(qY:a≤b)(Qt:b≤c)
  (g:∀v' s',Brg N frs env v' s' b c→Twin N b c v' s' (k v') (l s')):Twin N a c v s (aO x k) (aO y l):=by
 rcases h with⟨f,rfl,rfl⟩|⟨v',s',rfl,rfl,h1⟩
 ·exact .inl ⟨f,rfl,rfl⟩
 ·rcases g v' s' (B.next h1 qY Qt)with⟨f,e1,e2⟩|⟨v2,s2,e1,e2,h2⟩
  ·exact .inl ⟨f,e1,e2⟩
  ·exact .inr ⟨v2,s2,e1,e2,h1.trans h2 qY Qt⟩
theorem Twin.mono{x:Except Ft Vg}{y:Except Ft Sg}(h:Twin N a b v s x y){a' b':Nat}(h1:a'≤a)(h2:b≤b'):Twin N a' b' v s x y:=by
 rcases h with h|⟨v',s',e1,e2,h3⟩
 ·exact .inl h
 ·exact .inr ⟨v',s',e1,e2,h3.mono h1 h2⟩
theorem AP.snd{x:Except Ft (Frm×Vg)}{y:Except Ft (List Kn×Sg)}(h:AP N a b c v s fr frs x y):Twin N a b v s (aO x λr=>.ok r.2) (aO y λr=>.ok r.2):=by
 rcases h with⟨f,rfl,rfl⟩|⟨BG,v',yV,s',rfl,rfl,h1,_⟩
 ·exact .inl ⟨f,rfl,rfl⟩
 ·exact .inr ⟨v',s',rfl,rfl,h1⟩
theorem Twin.stmt{x:Except Ft Vg}{y:Except Ft Sg}(h:Twin N a b v s x y)(B:Brg N (fr::frs) env v s a c)(qY:a≤b)(Qt:b≤c):AP N a b c v s fr frs (aO x λs=>.ok (fr,s)) (aO y λs=>.ok (env,s)):=by
 rcases h with⟨f,rfl,rfl⟩|⟨v',s',rfl,rfl,h1⟩
 ·exact .inl ⟨f,rfl,rfl⟩
 ·exact .inr ⟨fr,v',env,s',rfl,rfl,h1,B.next h1 qY Qt,rfl,rfl⟩
theorem aM{α β γ:Type}(x:Except Ft α)(f:α→Except Ft β)(g:β→Except Ft γ):aO (aO x f) g=aO x λr=>aO (f r) g:=by cases x<;>rfl
theorem dF{α β:Type}(x:α)(f:α→Except Ft β):aO (.ok x) f=f x:=rfl
theorem zJ(l k:List Kn)(x:BA):nA (l++k) x=match nA k x with|some m=>some m|none=>nA l x:=by
 unfold nA;rw[List.reverse_append,List.find?_append];cases k.reverse.find? _<;>rfl
theorem LZ(fr:Frm)(x:BA): (nA (Ob fr) x).map Kn.node=e_ fr.names x:=by
 unfold nA Ob e_;rw[←List.map_reverse,List.find?_map,Option.map_map];rfl
theorem wQ:∀(frs:List Frm)(x:BA),(nA (lM frs) x).map Kn.node=kq frs x
 |[],_=>rfl
 |fr::l,x=>by
  rw[lM,zJ,kq,←LZ];cases nA (Ob fr) x with
  |some m=>rfl
  |none=>exact wQ l x
theorem KX{env:List Kn}{x:BA}{m:Kn}(h:nA env x=some m):m∈env:=by
 have:=List.mem_of_find?_eq_some h
 simpa using this
theorem Bj(B:Brg N (fr::frs) env v s a c)(p:Nat)(x:BA)(n:Nat)(set:Bool)(hn:a≤n)(hb:n<b):Twin N a b v s (kB p x n set (fr::frs) v) (Jr p x n set fr.of env s):=by
 unfold kB Jr;rw[B.ev,←wQ];cases h:nA (lM (fr::frs)) x with
 |none=>exact .inl ⟨_,rfl,rfl⟩
 |some m=>
  have hm:m∈env:=by rw[B.ev];exact KX h
  refine .inr ⟨_,_,rfl,rfl,?_⟩;have hw: (v.wi m.node).getD 0=m.f:=by rw[B.wi m hm];rfl
  refine⟨by simp[B.out],λk=>?_,λ_ _=>rfl,λk hk=>?_,[(n,m.node)],rfl,by have:=B.lt m hm;simp;omega,by simp⟩
  ·dsimp only;rw[hw];rw[show o7 (fr::frs)=fr.of from rfl];cases hs: (set&&decide (m.f≠fr.of))with
   |false=>simpa using B.ca k
   |true=>
    by_cases hc:m.node∈s.fR
    ·simp only[Bool.true_and,hc,decide_true,Bool.not_true,if_true,Bool.false_eq_true,if_false];by_cases hk:k=m.node
     ·subst hk;simp[hc]
     ·rw[if_neg hk];exact B.ca k
    ·simp only[Bool.true_and,hc,decide_false,Bool.not_false,if_true];by_cases hk:k=m.node
     ·subst hk;simp
     ·rw[if_neg hk,B.ca k];simp[hk]
  ·dsimp only at hk;split at hk
   ·rcases List.mem_append.1 hk with hk|hk
    ·exact B.cl k hk
    ·simp at hk;subst hk;exact B.lt m hm
   ·exact B.cl k hk
theorem zr:∀{frs:List Frm}{m:Kn},m∈lM frs→∃fr∈frs,m.owner=fr.owner
 |[],m,h=>by simp[lM]at h
 |fr::l,m,h=>by
  rw[lM]at h
  rcases List.mem_append.1 h with h|h
  ·obtain⟨f,h1,h2⟩:=zr h;exact⟨f,by simp[h1],h2⟩
  ·unfold Ob at h;obtain⟨p,hp,rfl⟩:=List.mem_map.1 h;exact⟨fr,by simp,rfl⟩
theorem BN(l:List (BA×Nat))(x:BA): (e_ l x).isSome=l.any λp=>decide (p.1=x):=by
 unfold e_;rw[Option.isSome_map,←List.any_reverse (l:=l)];rw[Bool.eq_iff_iff,List.find?_isSome,List.any_eq_true]
theorem NP(B:Brg N (fr::frs) env v s a c)(x:BA):env.any (λm=>decide (m.owner=fr.owner)&&decide (m.text=x))=(e_ fr.names x).isSome:=by
 rw[BN,B.ev,lM,List.any_append];have h1: (lM frs).any (λm=>decide (m.owner=fr.owner)&&decide (m.text=x))=false:=by
  rw[List.any_eq_false];intro m hm;obtain⟨f,hf,e⟩:=zr hm;have:=(List.pairwise_cons.1 B.own).1 f hf;have bZ:m.owner≠fr.owner:=by omega
  simp[bZ]
 rw[h1];unfold Ob;simp[List.any_map,Function.comp_def]
theorem Brg.add(B:Brg N (fr::frs) env v s a c)(x:BA)(n:Nat)(h1:∀m∈env,m.node≠n){a' c':Nat}(ha:a≤a')(hc:c'≤c)(hn:n<a'∨c'≤n)(hN:n<N):
  Brg N (addN fr x n::frs) (env++[⟨x,n,fr.owner,fr.of⟩]) (uW v n fr.of) s a' c' where
 ev:=by rw[B.ev,lM,lM];simp[Ob,addN]
 own:=List.pairwise_cons.2 (List.pairwise_cons.1 B.own)
 top f hf:=by
  rcases List.mem_cons.1 hf with rfl|hf
  ·exact nT hc (B.top fr (by simp))
  ·exact nT hc (B.top f (by simp[hf]))
 wi m hm:=by
  rcases List.mem_append.1 hm with hm|hm
  ·show(if m.node=n then _ else _)= _;rw[if_neg (h1 m hm)];exact B.wi m hm
  ·simp at hm;subst hm;simp[uW]
 apart m hm:=by
  rcases List.mem_append.1 hm with hm|hm
  ·have:=B.apart m hm;omega
  ·simp at hm;subst hm;exact hn
 out:=B.out
 ca:=B.ca
 lt m hm:=by
  rcases List.mem_append.1 hm with hm|hm
  ·exact B.lt m hm
  ·simp at hm;subst hm;exact hN
 cl:=B.cl
theorem Brg.push(B:Brg N frs env v s a c)(n:Nat)(o:Int)(h1:n<c){c':Nat}(hc:c'≤n):Brg N (⟨[],n,o⟩::frs) env v s a c' where
 ev:=by rw[B.ev,lM];simp[Ob]
 own:=List.pairwise_cons.2 ⟨λf hf=>nL h1 (B.top f hf),B.own⟩
 top f hf:=by
  rcases List.mem_cons.1 hf with rfl|hf
  ·exact hc
  ·exact nT hc (nT (Nat.le_of_lt h1) (B.top f hf))
 wi:=B.wi
 apart m hm:=by have:=B.apart m hm;omega
 out:=B.out
 ca:=B.ca
 lt:=B.lt
 cl:=B.cl
theorem AA:∀(ps:List Par)(a:Nat)(fr:Frm)(env:List Kn)(v:Vg),Brg N (fr::frs) env v s a c→a+ps.length≤c→c≤N→fr.of=(fr.owner:Int)→
  Brg N ((gy ps a fr v).1::frs) (env++JL fr.owner ps a) (gy ps a fr v).2 s (a+ps.length) c∧(gy ps a fr v).1.owner=fr.owner∧(gy ps a fr v).1.of=fr.of∧∀k,k<a∨a+ps.length≤k→(gy ps a fr v).2.wi k=v.wi k
 |[],a,fr,env,v,B,_,_,_=>⟨by simpa [gy,JL]using B,rfl,rfl,λ_ _=>rfl⟩
 |q::ps,a,fr,env,v,B,h,hN,ho=>by
  simp only[List.length_cons]at h;have B2:=B.add q.text a (λm hm=>by have:=B.apart m hm;omega) (a':=a+1) (Nat.le_succ _) (nR _) (.inl (Nat.lt_succ_self _)) (by omega);obtain⟨h1,h2,h3,h4⟩:=AA ps (a+1) _ _ _ B2 (by omega) hN ho;refine⟨?_,h2,h3,λk hk=>?_⟩
  ·rw[gy,JL,List.length_cons];rw[List.append_assoc,List.singleton_append,ho,show a+1+ps.length=a+(ps.length+1)by omega]at h1
   rw[ho];exact h1
  ·simp only[List.length_cons]at hk;rw[gy,h4 k (by omega)];show(if k=a then _ else _)= _;rw[if_neg (by omega)]
end
mutual
theorem cK{N:Nat}:∀(e:Ex)(a c:Nat)(fr:Frm)(frs:List Frm)(env:List Kn)(v:Vg)(s:Sg),Brg N (fr::frs) env v s a c→a+ax e≤c→c≤N→Twin N a (a+ax e) v s (bO e a (fr::frs) v) (fC e a fr.of env s)
 | .num ..,a,c,fr,frs,env,v,s,B,_,_=>by rw[bO,fC];exact .inr ⟨_,_,rfl,rfl,Go3.refl B _⟩
 | .text ..,a,c,fr,frs,env,v,s,B,_,_=>by rw[bO,fC];exact .inr ⟨_,_,rfl,rfl,Go3.refl B _⟩
 | .bool ..,a,c,fr,frs,env,v,s,B,_,_=>by rw[bO,fC];exact .inr ⟨_,_,rfl,rfl,Go3.refl B _⟩
 | .null ..,a,c,fr,frs,env,v,s,B,_,_=>by rw[bO,fC];exact .inr ⟨_,_,rfl,rfl,Go3.refl B _⟩
 | .var p x,a,c,fr,frs,env,v,s,B,_,_=>by rw[bO,fC];exact Bj B p x a false (nR _) (by simp[ax])
 | .fn p ps ty bp body,a,c,fr,frs,env,v,s,B,h,hN=>by
  rw[ax]at h⊢
  rw[bO,fC];have B1:=B.push (a+ps.length+aL body+1) ((a+ps.length+aL body+1:Nat):Int) (by omega) (c':=a+ps.length+aL body) (by omega);obtain⟨B2,h2,h3,h4⟩:=AA (s:=s) ps a ⟨[],a+ps.length+aL body+1,((a+ps.length+aL body+1:Nat):Int)⟩ env v B1 (by omega) (by omega) rfl;have T:=gK body (a+ps.length) (a+ps.length+aL body) _ _ _ _ _ B2 (nR _) (by omega);rw[h2,h3]at T
  have G:Go3 N a (a+ps.length) v (gy ps a ⟨[],a+ps.length+aL body+1,((a+ps.length+aL body+1:Nat):Int)⟩ v).2 s s:=⟨B2.out,B2.ca,h4,B2.cl,[],by simp,by simp,by simp⟩
  rcases T with⟨f,e1,e2⟩|⟨BG,v',yV,s',e1,e2,g,_⟩
  ·exact .inl ⟨f,by rw[e1];rfl,by rw[e2];rfl⟩
  ·exact .inr ⟨v',s',by rw[e1];rfl,by rw[e2];rfl,(G.trans g (by omega) (by omega)).mono (nR _) (by omega)⟩
 | .call p e l,a,c,fr,frs,env,v,s,B,h,hN=>by
  rw[ax]at h⊢
  rw[bO,fC];exact((cK e a c fr frs env v s B (by omega) hN).and (B.mono (nR _) (c':=a+ax e+eT l) (by omega)) (by omega) (by omega) λv' s' B'=>rU l (a+ax e) _ fr frs env v' s' B' (nR _) (by omega)).mono (nR _) (by omega)
 | .get p e x,a,c,fr,frs,env,v,s,B,h,hN=>by
  rw[ax]at h⊢
  rw[bO,fC];exact(cK e a c fr frs env v s B (by omega) hN).mono (nR _) (by omega)
 | .atX p e i,a,c,fr,frs,env,v,s,B,h,hN=>by
  rw[ax]at h⊢
  rw[bO,fC];exact((cK e a c fr frs env v s B (by omega) hN).and (B.mono (nR _) (c':=a+ax e+ax i) (by omega)) (by omega) (by omega) λv' s' B'=>cK i (a+ax e) _ fr frs env v' s' B' (nR _) (by omega)).mono (nR _) (by omega)
 | .obj p l,a,c,fr,frs,env,v,s,B,h,hN=>by
  rw[ax]at h⊢
  rw[bO,fC];exact(xu l a c fr frs env v s B (by omega) hN).mono (nR _) (by omega)
 | .arr p l,a,c,fr,frs,env,v,s,B,h,hN=>by
  rw[ax]at h⊢
  rw[bO,fC];exact(rU l a c fr frs env v s B (by omega) hN).mono (nR _) (by omega)
 | .two p x e i,a,c,fr,frs,env,v,s,B,h,hN=>by
  rw[ax]at h⊢
  rw[bO,fC];exact((cK e a c fr frs env v s B (by omega) hN).and (B.mono (nR _) (c':=a+ax e+ax i) (by omega)) (by omega) (by omega) λv' s' B'=>cK i (a+ax e) _ fr frs env v' s' B' (nR _) (by omega)).mono (nR _) (by omega)
 | .one p x e,a,c,fr,frs,env,v,s,B,h,hN=>by
  rw[ax]at h⊢
  rw[bO,fC];exact(cK e a c fr frs env v s B (by omega) hN).mono (nR _) (by omega)
 | .asX p e ty,a,c,fr,frs,env,v,s,B,h,hN=>by
  rw[ax]at h⊢
  rw[bO,fC];exact(cK e a c fr frs env v s B (by omega) hN).mono (nR _) (by omega)
theorem rU{N:Nat}:∀(l:List Ex)(a c:Nat)(fr:Frm)(frs:List Frm)(env:List Kn)(v:Vg)(s:Sg),Brg N (fr::frs) env v s a c→a+eT l≤c→c≤N→Twin N a (a+eT l) v s (iS l a (fr::frs) v) (uN l a fr.of env s)
 |[],a,c,fr,frs,env,v,s,B,_,_=>by rw[iS,uN];exact .inr ⟨_,_,rfl,rfl,Go3.refl B _⟩
 |e::l,a,c,fr,frs,env,v,s,B,h,hN=>by
  rw[eT]at h⊢
  rw[iS,uN];exact((cK e a c fr frs env v s B (by omega) hN).and (B.mono (nR _) (c':=a+ax e+eT l) (by omega)) (by omega) (by omega) λv' s' B'=>rU l (a+ax e) _ fr frs env v' s' B' (nR _) (by omega)).mono (nR _) (by omega)
theorem xu{N:Nat}:∀(l:List (Nat×BA×Ex))(a c:Nat)(fr:Frm)(frs:List Frm)(env:List Kn)(v:Vg)(s:Sg),Brg N (fr::frs) env v s a c→a+fQ l≤c→c≤N→Twin N a (a+fQ l) v s (jC l a (fr::frs) v) (wH l a fr.of env s)
 |[],a,c,fr,frs,env,v,s,B,_,_=>by rw[jC,wH];exact .inr ⟨_,_,rfl,rfl,Go3.refl B _⟩
 |(p,x,e)::l,a,c,fr,frs,env,v,s,B,h,hN=>by
  rw[fQ]at h⊢
  rw[jC,wH];exact(((cK e a c fr frs env v s B (by omega) hN).mono (nR _) (b':=a+ax e+1) (by omega)).and (B.mono (nR _) (c':=a+ax e+1+fQ l) (by omega)) (by omega) (by omega) λv' s' B'=>xu l (a+ax e+1) _ fr frs env v' s' B' (nR _) (by omega)).mono (nR _) (by omega)
theorem gK{N:Nat}:∀(l:List Sm)(a c:Nat)(fr:Frm)(frs:List Frm)(env:List Kn)(v:Vg)(s:Sg),Brg N (fr::frs) env v s a c→a+aL l≤c→c≤N→AP N a (a+aL l) c v s fr frs (fG l a fr frs v) (o6 l a fr.owner fr.of env s)
 |[],a,c,fr,frs,env,v,s,B,h,_=>by
  rw[fG,o6];exact .inr ⟨fr,v,env,s,rfl,rfl,Go3.refl B _,by simpa [aL]using B,rfl,rfl⟩
 |e::l,a,c,fr,frs,env,v,s,B,h,hN=>by
  rw[aL]at h⊢
  rw[fG,o6];rcases Kl e a c fr frs env v s B (by omega) hN with⟨f,e1,e2⟩|⟨BG,v',yV,s',e1,e2,g,B',h2,h3⟩
  ·exact .inl ⟨f,by rw[e1];rfl,by rw[e2];rfl⟩
  ·rw[e1,e2,dF,dF];have T:=gK l (a+db e) c BG frs yV v' s' B' (by omega) hN;rw[h2,h3]at T
   rcases T with⟨f,e1,e2⟩|⟨vB,v2,Wj,s2,e1,e2,g2,B2,h4,h5⟩
   ·exact .inl ⟨f,e1,e2⟩
   ·refine .inr ⟨vB,v2,Wj,s2,e1,e2,(g.trans g2 (by omega) (by omega)).mono (nR _) (by omega),?_,h4.trans h2,h5.trans h3⟩;rw[←Nat.add_assoc];exact B2
theorem Kl{N:Nat}:∀(e:Sm)(a c:Nat)(fr:Frm)(frs:List Frm)(env:List Kn)(v:Vg)(s:Sg),Brg N (fr::frs) env v s a c→a+db e≤c→c≤N→AP N a (a+db e) c v s fr frs (dK e a fr frs v) (qC e a fr.owner fr.of env s)
 | .kj p x ty e,a,c,fr,frs,env,v,s,B,h,hN=>by
  rw[db]at h⊢
  rw[dK,qC,NP B];cases hl: (e_ fr.names x).isSome with
  |true=>exact .inl ⟨_,rfl,rfl⟩
  |false=>
   simp only[Bool.false_eq_true,if_false];have bZ:∀m∈env,m.node≠a+ax e:=λm hm=>by have:=B.apart m hm;omega
   cases hf:lP e with
   |true=>
    simp only[if_true];have B1:=B.add x (a+ax e) bZ (a':=a) (c':=a+ax e) (nR _) (by omega) (.inr (nR _)) (by omega);rcases cK e a (a+ax e) _ frs _ _ s B1 (nR _) (by omega)with⟨f,e1,e2⟩|⟨v',s',e1,e2,g⟩
    ·exact .inl ⟨f,by rw[e1];rfl,by rw[show fC e a fr.of _ s= _ from e2];rfl⟩
    ·refine .inr ⟨addN fr x (a+ax e),v',_,s',by rw[e1];rfl,by rw[show fC e a fr.of _ s= _ from e2];rfl,?_,?_,rfl,rfl⟩
     ·obtain⟨l,k1,k2,k3⟩:=g.ext;refine⟨g.out,g.ca,λk hk=>?_,g.cl,l,k1,λp hp=>by have:=k2 p hp;omega,k3⟩;rw[g.wi k (by omega)];show(if k= _ then _ else _)= _;rw[if_neg (by omega)]
     ·have B3:=B1.next g (by omega) (nR _);refine{B3 with top:=λf hf=>?_,apart:=λm hm=>?_}
      ·rcases List.mem_cons.1 hf with rfl|hf
       ·exact B.top fr (by simp)
       ·exact B.top f (by simp[hf])
      ·rcases List.mem_append.1 hm with hm|hm
       ·have:=B.apart m hm;omega
       ·simp at hm;subst hm;left;dsimp only;omega
   |false=>
    simp only[Bool.false_eq_true,if_false];rcases cK e a c fr frs env v s B (by omega) hN with⟨f,e1,e2⟩|⟨v',s',e1,e2,g⟩
    ·exact .inl ⟨f,by rw[e1];rfl,by rw[e2];rfl⟩
    ·have B1:=B.next g (by omega) (by omega);refine .inr ⟨addN fr x (a+ax e),_,_,s',by rw[e1];rfl,by rw[e2];rfl,?_,B1.add x (a+ax e) bZ (a':=a+(ax e+1)) (by omega) (nR _) (.inl (by omega)) (by omega),rfl,rfl⟩;obtain⟨l,k1,k2,k3⟩:=g.ext;refine⟨g.out,g.ca,λk hk=>?_,g.cl,l,k1,λp hp=>by have:=k2 p hp;omega,k3⟩;show(if k= _ then _ else _)= _;rw[if_neg (by omega),g.wi k (by omega)]
 | .set p x e,a,c,fr,frs,env,v,s,B,h,hN=>by
  rw[db]at h⊢
  rw[dK,qC];rcases Bj (b:=a+ax e+1) B p x (a+ax e) true (by omega) (by omega)with⟨f,e1,e2⟩|⟨v',s',e1,e2,g⟩
  ·exact .inl ⟨f,by rw[e1];rfl,by rw[e2];rfl⟩
  ·rw[e1,e2,dF,dF];have hg:v'.wi=v.wi∧∃t,s'.out=s.out++[(a+ax e,t)]:=by
    unfold kB at e1;unfold Jr at e2;split at e1
    ·cases e1
    ·split at e2
     ·cases e2
     ·cases e1;cases e2;exact⟨rfl,_,rfl⟩
   obtain⟨hw,t,ht⟩:=hg;have adx:t<N:=by
    obtain⟨l0,q1,q2,_⟩:=g.ext;rw[ht]at q1
    exact(q2 (a+ax e,t) (by rw[←List.append_cancel_left q1];simp)).2.2
   have B1:Brg N (fr::frs) env v' s' a c:={B with wi:=λm hm=>by rw[hw];exact B.wi m hm,out:=g.out,ca:=g.ca,cl:=g.cl}
   rcases cK e a c fr frs env v' s' B1 (by omega) hN with⟨f,e1,e2⟩|⟨v2,s2,e1,e2,g2⟩
   ·exact .inl ⟨f,by rw[e1];rfl,by rw[e2];rfl⟩
   ·obtain⟨l,k1,k2,k3⟩:=g2.ext;have G:Go3 N a (a+(ax e+1)) v v2 s s2:=⟨g2.out,g2.ca,λk hk=>by rw[g2.wi k (by omega),hw],g2.cl,(a+ax e,t)::l,by rw[k1,ht];simp,λp hp=>by
      rcases List.mem_cons.1 hp with rfl|hp
      ·dsimp only;omega
      ·have:=k2 p hp;omega,by
      rw[List.map_cons,List.nodup_cons];refine⟨λhm=>?_,k3⟩;obtain⟨q,hq,e⟩:=List.mem_map.1 hm;have:=k2 q hq;dsimp only at e;omega⟩
    exact .inr ⟨fr,v2,env,s2,by rw[e1];rfl,by rw[e2];rfl,G,B.next G (by omega) (by omega),rfl,rfl⟩
 | .put p e x i,a,c,fr,frs,env,v,s,B,h,hN=>by
  rw[db]at h⊢
  rw[dK,qC,←aM,←aM];exact(((cK e a c fr frs env v s B (by omega) hN).and (B.mono (nR _) (c':=a+ax e+ax i) (by omega)) (by omega) (by omega) λv' s' B'=>cK i (a+ax e) _ fr frs env v' s' B' (nR _) (by omega)).mono (nR _) (by omega)).stmt B (by omega) h
 | .lay p e i u,a,c,fr,frs,env,v,s,B,h,hN=>by
  rw[db]at h⊢
  have T:=((cK e a c fr frs env v s B (by omega) hN).and (B.mono (nR _) (c':=a+ax e+ax i) (by omega)) (by omega) (by omega) λv' s' B'=>cK i (a+ax e) _ fr frs env v' s' B' (nR _) (by omega)).and (B.mono (nR _) (c':=a+ax e+ax i+ax u) (by omega)) (by omega) (by omega) λv' s' B'=>cK u (a+ax e+ax i) _ fr frs env v' s' B' (nR _) (by omega)
  have T2:=(T.mono (nR _) (b':=a+(ax e+ax i+ax u+1)) (by omega)).stmt B (by omega) h;rw[aM,aM,aM,aM]at T2
  rw[dK,qC]
  simpa only[aM]using T2
 | .print p e,a,c,fr,frs,env,v,s,B,h,hN=>by
  rw[db]at h⊢
  rw[dK,qC];exact((cK e a c fr frs env v s B (by omega) hN).mono (nR _) (by omega)).stmt B (by omega) h
 | .ret p e,a,c,fr,frs,env,v,s,B,h,hN=>by
  rw[db]at h⊢
  rw[dK,qC];exact((cK e a c fr frs env v s B (by omega) hN).mono (nR _) (by omega)).stmt B (by omega) h
 | .vW p e,a,c,fr,frs,env,v,s,B,h,hN=>by
  rw[db]at h⊢
  rw[dK,qC];exact((cK e a c fr frs env v s B (by omega) hN).mono (nR _) (by omega)).stmt B (by omega) h
 | .if_ p e bp b none,a,c,fr,frs,env,v,s,B,h,hN=>by
  rw[db]at h⊢
  have T:=(cK e a c fr frs env v s B (by omega) hN).and (B.mono (nR _) (c':=a+ax e+aL b+1) (by omega)) (by omega) (by omega) λv' s' B'=>
   ((gK b (a+ax e) (a+ax e+aL b) ⟨[],a+ax e+aL b,fr.of⟩ (fr::frs) env v' s' (B'.push _ _ (by omega) (nR _)) (nR _) (by omega)).snd).mono (nR _) (by omega)
  have T2:=(T.mono (nR _) (b':=a+(ax e+aL b+2)) (by omega)).stmt B (by omega) h;rw[dK,qC]
  simpa only[aM,dF]using T2
 | .if_ p e bp b (some (cp,d)),a,c,fr,frs,env,v,s,B,h,hN=>by
  rw[db]at h⊢
  have T:=((cK e a c fr frs env v s B (by omega) hN).and (B.mono (nR _) (c':=a+ax e+aL b+1) (by omega)) (by omega) (by omega) λv' s' B'=>
   ((gK b (a+ax e) (a+ax e+aL b) ⟨[],a+ax e+aL b,fr.of⟩ (fr::frs) env v' s' (B'.push _ _ (by omega) (nR _)) (nR _) (by omega)).snd).mono (nR _) (by omega)).and
   (B.mono (nR _) (c':=a+ax e+aL b+1+aL d+1) (by omega)) (by omega) (by omega) λv' s' B'=>
   ((gK d (a+ax e+aL b+1) (a+ax e+aL b+1+aL d) ⟨[],a+ax e+aL b+1+aL d,fr.of⟩ (fr::frs) env v' s' (B'.push _ _ (by omega) (nR _)) (nR _) (by omega)).snd).mono (nR _) (by omega)
  have T2:=(T.mono (nR _) (b':=a+(ax e+aL b+aL d+3)) (by omega)).stmt B (by omega) h;rw[dK,qC]
  simpa only[aM,dF]using T2
 | .while_ p e bp b,a,c,fr,frs,env,v,s,B,h,hN=>by
  rw[db]at h⊢
  have T:=(cK e a c fr frs env v s B (by omega) hN).and (B.mono (nR _) (c':=a+ax e+aL b+1) (by omega)) (by omega) (by omega) λv' s' B'=>
   ((gK b (a+ax e) (a+ax e+aL b) ⟨[],a+ax e+aL b,fr.of⟩ (fr::frs) env v' s' (B'.push _ _ (by omega) (nR _)) (nR _) (by omega)).snd).mono (nR _) (by omega)
  have T2:=(T.mono (nR _) (b':=a+(ax e+aL b+2)) (by omega)).stmt B (by omega) h;rw[dK,qC]
  simpa only[aM,dF]using T2
end
end Ty
namespace Ty
def jv(l:List Sm):Except Ft Vg:=aO (fG l 0 ⟨[],aL l,-1⟩ [] ⟨[],λ_=>none,λ_=>false⟩) λr=>.ok r.2
end Ty
namespace Ty
theorem Lc{α β:Type}{x:Except Ft α}{k:α→Except Ft β}{r:β}(h:aO x k=.ok r):∃m,x=.ok m∧k m=.ok r:=by
 cases x with
 |error e=>cases h
 |ok m=>exact⟨m,rfl,h⟩
structure Mo(k:Nat)(s s':Sg):Prop where
 out:s'.out.length≤s.out.length+k
 fR:s'.fR.length≤s.fR.length+k
theorem Mo.refl(k:Nat)(s:Sg):Mo k s s:=⟨by omega,by omega⟩
theorem Mo.trans{j k n:Nat}{s s1 s2:Sg}(h:Mo j s s1)(g:Mo k s1 s2)(hn:j+k≤n):Mo n s s2:=⟨by have:=h.out;have:=g.out;omega,by have:=h.fR;have:=g.fR;omega⟩
theorem Mo.mono{k n:Nat}{s s1:Sg}(h:Mo k s s1)(hn:k≤n):Mo n s s1:=⟨by have:=h.out;omega,by have:=h.fR;omega⟩
end Ty
namespace Ty
structure NdLen(ts:List Ty)(nd:Nd):Prop where
 text:nd.text.data.toList.length≤30
 adm: (Kt ts nd.ty).length≤12010
 Ni:nd.kind=14→(Ty.text (den ts nd.ty.toNat)).length≤12010
 num: (Lib.itoa (nd.n:Int)).length≤21
theorem Ky{x:BA}(h:NumOk x):value x<1000000000:=by
 have key:∀(l:List UInt8)(a:Nat),(∀d∈l,Tok.isDigit d=true)→l.foldl (λn c=>10*n+(c.toNat-48)) a<(a+1)*10^l.length:=by
  intro l;induction l with
  |nil=>intro a _;simp
  |cons c l ih=>
   intro a hd;have hc:=hd c (by simp);unfold Tok.isDigit at hc;simp at hc;have:=ih (10*a+(c.toNat-48)) (λd WG=>hd d (by simp[WG]));rw[List.foldl_cons,List.length_cons,Nat.pow_succ];refine nL this ?_;have h2:10*a+(c.toNat-48)+1≤(a+1)*10:=by omega
   calc _≤((a+1)*10)*10^l.length:=Nat.mul_le_mul_right _ h2
    _= _:=by rw[Nat.mul_assoc,Nat.mul_comm 10]
 have h1:=key x.data.toList 0 h.ZF;have h2:x.data.toList.length≤9:=by have:=h.size;simpa using this
 have h3:10^x.data.toList.length≤10^9:=Nat.pow_le_pow_right (by omega) h2;unfold value;omega
theorem NdOk.XT{nd:Nd}{ts:List Ty}(h:NdOk nd ts):nd.n≤1000000000:=by
 by_cases hk:nd.kind=1
 ·obtain⟨x,h1,h2⟩:=h.num hk;have:=Ky h1;omega
 ·have:=h.small hk;omega
theorem Fg{ts:List Ty}(hw:Wf ts)(hn:Nm ts){t:Nat}(h:TyIn t ts):dP (den ts t)∧dH (den ts t)∧(text (den ts t)).length+24≤40*ts.length:=by
 have h1:=xD hw _ t (Nat.lt_succ_self _) h.lt;have h2:=uj _ (JM hw hn _ t (Nat.lt_succ_self _) h.lt);have h3:=qA _ h1 h2;have:=h.dw;exact⟨h1,h2,by omega⟩
theorem PgOk.len{pg:Pg}(h:PgOk pg):∀nd∈pg.ns,NdLen pg.ts nd:=λnd hm=>by
 have hk:=h.ns nd hm;have ht:=h.PE;have Rq:∀t,TyIn t pg.ts→(text (den pg.ts t)).length≤12000:=λt hi=>by
  have:=(Fg h.wf h.nm hi).2.2;omega
 refine⟨by have:=hk.size;simpa using this,?_,λyp=>?_,Lib.itoa_length_le _ (by omega) (by have:=hk.XT;omega)⟩
 ·unfold Kt;rcases hk.ty with h1|⟨n,h1,h2⟩
  ·rw[if_pos (by omega)];simp
  ·rw[if_neg (by omega)];have:=Rq n h2;rw[h1];simp;omega
 ·rcases hk.ty with h1|⟨n,h1,h2⟩
  ·have:=hk.Ni yp;omega
  ·have:=Rq n h2;rw[h1];simp;omega
section
variable {ts:List Ty} {ns:List Nd}
end
end Ty
namespace Ty
mutual
theorem FE:∀t:Tr,bw (eP t)≤dw t
 | .mk k n p l o=>by
  rw[eP,dw];split
  ·have:=rS l;omega
  ·rw[bw,bw,dw];omega
theorem rS:∀l:List Tr,bw (bQ l)≤bw l
 |[]=>by simp[bQ]
 |t::l=>by
  have:=FE t;have:=rS l;rw[bQ,bw,gH];omega
end
theorem KH(out:List Tr)(x:Tr):bw (jF out x)≤bw out+dw x:=by
 unfold jF;split
 ·omega
 ·rw[re];omega
theorem Cz(l:List Tr):bw (dB l)≤bw l:=by
 have h:∀(l:List Tr)(o:List Tr),bw (l.foldl jF o)≤bw o+bw l:=by
  intro l;induction l with
  |nil=>intro o;simp[bw]
  |cons x l ih=>intro o;have:=ih (jF o x);have:=KH o x;simp only[List.foldl_cons,bw]at*;omega
 have:=h l [];simp only[bw]at this;unfold dB;omega
theorem zD(l:List Tr):o0 l=C_∨(∃x,dB (bQ l)=[x]∧o0 l=x)∨(2≤(dB (bQ l)).length∧o0 l=.mk 10 [] [] (dB (bQ l)) []):=by
 unfold o0;split
 ·exact .inl rfl
 ·rename_i h1;split
  ·rename_i h2;obtain⟨x,hx⟩:=List.length_eq_one_iff.1 h2;exact .inr (.inl ⟨x,hx,by rw[hx];rfl⟩)
  ·exact .inr (.inr ⟨by omega,rfl⟩)
end Ty
namespace Ty
theorem MX{l:List Sm}{v:Vg}(h:jv l=.ok v):∀p∈v.out,p.1<aL l+1:=by
 have B:Brg (aL l+1) [⟨[],aL l,-1⟩] [] ⟨[],λ_=>none,λ_=>false⟩ ⟨[],[]⟩ 0 (aL l):=
  ⟨rfl,by simp,by simp,by simp,by simp,rfl,by simp,by simp,by simp⟩
 have T:=gK l 0 (aL l) _ _ _ _ _ B (by omega) (by omega);unfold jv at h;rcases T with⟨f,e1,e2⟩|⟨BG,v',yV,s',e1,e2,g,B',_⟩
 ·rw[e1]at h;cases h
 ·rw[e1]at h
  cases h;obtain⟨k,h1,h2,h3⟩:=g.ext;intro p hp;have sE:p∈s'.out:=by rw[←g.out];exact hp
  rw[h1]at sE
  simp only[List.nil_append]at sE;have:=h2 p sE;omega
end Ty
namespace Ty
abbrev Key:=List Nat×List Int×List Nat×List UInt8
def key(n:Nd):Key:=([n.kind,n.a,n.b,n.n,n.pos],[n.c,n.ty],n.list,n.text.data.toList)
theorem key_inj{m n:Nd}(h:key m=key n):m=n:=by
 obtain⟨a1,a2,a3,a4,a5,⟨⟨a6⟩⟩,a7,a8,a9⟩:=m;obtain⟨b1,b2,b3,b4,b5,⟨⟨b6⟩⟩,b7,b8,b9⟩:=n;simp only[key,Prod.mk.injEq,List.cons.injEq,and_true]at h;obtain⟨⟨rfl,rfl,rfl,rfl,rfl⟩,⟨rfl,rfl⟩,rfl,h6⟩:=h;obtain rfl:a6=b6:=h6;rfl
theorem zW:∀{l m:List Nd},l.map key=m.map key→l=m
 |[],[],_=>rfl
 |a::l,b::m,h=>by
  simp only[List.map_cons,List.cons.injEq]at h;rw[key_inj h.1,zW h.2]
 |[],b::m,h=>by simp at h
 |a::l,[],h=>by simp at h
end Ty
end Go.Proofs.YtdlbhiaceheffabGreatDoor
