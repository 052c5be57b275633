/- Plain: what was printed is scanned, without a fault, to its tokens: expressions, statements, programs. No program in sight. -/
import Derived.Test.YtdlbhiaceheffabGreatDoorC43
set_option linter.all false
namespace Go.Proofs.YtdlbhiaceheffabGreatDoor
open Go Go.RowKit Ty Tok Prt
section
namespace Ty
open Tok (Tk)
theorem Ly.then{c:Bool}{a b:List UInt8}{la lb:List Lm}(h:Ly true a la)(g:Ly c b lb)(hd:∃d r,b=d::r/\c_ d=false:=by exact⟨_,_,rfl,by decide⟩):Ly c (a++b) (la++lb):=h.comp g λ_=>hd
theorem Ly.aM:∀n,Ly false (Ty.aM n) []
 |0=>Ly.nil
 |n+1=>(Ly.blank.comp Ly.blank).comp (Ly.aM n)
theorem nJ(b:Bool){w:List UInt8}{l:List Lm}(h:Ly true w l):Ly true (par b w) (lq b l):=by
 unfold par lq;split
 ·have h1:=(Ly.sign 40).comp (h.then (Ly.sign 41))
  simpa using h1.oW
 ·exact h
theorem xQ:∀(u:Nat),∀d∈Lib.decDigits u,Tok.isDigit d=true:=by
 intro u;induction u using Nat.strongRecOn with
 |ind u ih=>
  rw[Lib.decDigits];have hd:∀k,k<10->Tok.isDigit (UInt8.ofNat (48+k))=true:=by
   intro k hk;have: (UInt8.ofNat (48+k)).toNat=48+k:=by rw[UInt8.toNat_ofNat'];omega
   unfold Tok.isDigit;rw[this,Bool.and_eq_true];exact⟨decide_eq_true (by omega),decide_eq_true (by omega)⟩
  split
  ·rename_i h;intro d h1;rw[List.mem_singleton]at h1
   rw[h1];exact hd u h
  ·rename_i h;intro d h1;rcases List.mem_append.1 h1 with h1|h1
   ·exact ih (u/10) (by omega) d h1
   ·rw[List.mem_singleton]at h1
    rw[h1];exact hd _ (by omega)
theorem uG:∀(u k:Nat),u<10^(k+1)->∃d l,Lib.decDigits u=d::l/\l.length<=k/\(l=[]\/d≠48):=by
 intro u;induction u using Nat.strongRecOn with
 |ind u ih=>
  intro k hk;rw[Lib.decDigits];split
  ·exact⟨_,_,rfl,by simp,.inl rfl⟩
  ·rename_i h;obtain⟨k,rfl⟩:∃j,k=j+1:=⟨k-1,by
    rcases Nat.eq_zero_or_pos k with rfl|h0
    ·rw[show 10^(0+1)=10 from rfl]at hk;omega
    ·omega⟩
   rw[Nat.pow_succ]at hk
   obtain⟨d,l,e,h1,h2⟩:=ih (u/10) (by omega) k (by omega);rw[e];refine⟨d,l++[_],rfl,by simp;omega,.inr ?_⟩;rcases h2 with rfl|h2
   ·--one digit,not a nought
    rw[Lib.decDigits]at e
    split at e
    ·rename_i fs;cases e;intro e0;have: (UInt8.ofNat (48+u/10)).toNat=48+u/10:=by rw[UInt8.toNat_ofNat'];omega
     rw[e0]at this
     have ahA: (48:UInt8).toNat=48:=rfl;omega
    ·have:=congrArg List.length e;simp at this;rw[Lib.decDigits_eq]at this
     have h0:Lib.decDigits (u/10/10)≠[]:=by
      rw[Lib.decDigits];split<;>simp
     rw[<-Lib.decDigits_eq]at this
     exact absurd (List.length_eq_zero_iff.1 (by simpa using this)) h0
   ·exact h2
theorem Tb{n:Nat}(h:n<1000000000):Ly true (Lib.itoa n) [(3,Lib.itoa n)]:=by
 rw[Lib.itoa_nonneg];obtain⟨d,l,e,h1,h2⟩:=uG n 8 (by simpa using h);have:=xQ n;rw[e]at this⊢
 exact Ly.num d l this (by omega) h2
theorem En(ts:List Ty)(ind:Nat):∀l,(um ts ind l).length=l.length
 |[]=>by rw[um];rfl
 |e::l=>by rw[um,List.length_cons,En ts ind l,List.length_cons]
theorem vB(ts:List Ty):∀l,(jk ts l).length=l.length
 |[]=>by rw[jk];rfl
 |e::l=>by rw[jk,List.length_cons,vB ts l,List.length_cons]
theorem FF(ts:List Ty)(ind:Nat):∀l,(xB ts ind l).length=l.length
 |[]=>by rw[xB];rfl
 |(p,x,e)::l=>by rw[xB,List.length_cons,FF ts ind l,List.length_cons]
theorem xk(ts:List Ty):∀l,(jI ts l).length=l.length
 |[]=>by rw[jI];rfl
 |(p,x,e)::l=>by rw[jI,List.length_cons,xk ts l,List.length_cons]
section
variable {ts:List Ty} {ns:List Nd}
theorem R1(hw:Wf ts)(hm:Nm ts){t:Nat}(h:TyIn t ts):Ly true (text (den ts t)) (fD (den ts t)):=
 Ib _ (tV hw hm h).1 (A8 hw hm _ t (Nat.lt_succ_self _) h.lt)
theorem Na(hw:Wf ts)(hm:Nm ts){ty:Int}(h:wh ty ts):Ly true (nQ ts ty) (kP ts ty)/\(nQ ts ty=[]/\kP ts ty=[]\/∃r,nQ ts ty=58::r):=by
 rcases h with rfl|⟨n,rfl,h⟩
 ·exact⟨Ly.nil.oW,.inl ⟨rfl,rfl⟩⟩
 ·unfold nQ kP;rw[if_neg (by omega),if_neg (by omega)];have h1:=(Ly.sign 58).comp (Ly.blank.comp (R1 hw hm h));exact⟨h1,.inr ⟨_,rfl⟩⟩
theorem DX(hw:Wf ts)(hm:Nm ts){x:BA}(hx:NameOk x){ty:Int}(h:wh ty ts):Ly true (x.data.toList++nQ ts ty) ((1,x.data.toList)::kP ts ty):=by
 obtain⟨h1,h2⟩:=Na hw hm h;rcases h2 with⟨h2,h3⟩|⟨r,h2⟩
 ·rw[h2,h3,List.append_nil];exact Ly.o8 hx
 ·rw[h2]at h1⊢
  exact(Ly.o8 hx).then h1 ⟨_,_,rfl,by decide⟩
theorem mB(hN:∀nd∈ns,NdOk nd ts){n:Nat}{nd:Nd}(h:ns[n]?=some nd):NdOk nd ts:=hN nd (List.mem_of_getElem? h)
theorem yx(hw:Wf ts)(hm:Nm ts)(hN:∀nd∈ns,NdOk nd ts):∀(ps:List Par)(l:List Nat),iy ns ps l->∀q∈ps,Ly true (sJ ts q) (vm ts q)
 |[],_,_,q,h=>by simp at h
 |p::ps,_,⟨n,t,_,h1,h2⟩,q,h=>by
  rcases List.mem_cons.1 h with rfl|h
  ·have h4:=mB hN h1;exact DX hw hm (h4.name (.inr (.inr ⟨by show 15<=16;omega,by show 16<=19;omega⟩))) h4.ty
  ·exact yx hw hm hN ps t h2 q h
theorem Ob{x:BA}(h:x.data.toList∈gA):Ly false x.data.toList [(5,x.data.toList)]:=by
 unfold gA at h;simp only[List.mem_cons,List.not_mem_nil,or_false]at h;rcases h with h|h|h|h|h<;>rw[h]
 ·exact Ly.same
 ·exact Ly.sign 60
 ·exact Ly.sign 43
 ·exact Ly.sign 45
 ·exact Ly.sign 42
theorem MZ{x:BA}(h:x.data.toList∈dc){w:List UInt8}{l:List Lm}(hw:Ly true w l):Ly true (x.data.toList++(if x.data.toList=gJ then [32]else [])++w) ((if x.data.toList=gJ then 2 else 5,x.data.toList)::l):=by
 unfold dc at h;simp only[List.mem_cons,List.not_mem_nil,or_false]at h;rcases h with h|h|h<;>rw[h]
 ·exact(Ly.sign 33).comp hw
 ·exact(Ly.sign 45).comp hw
 ·exact(Ly.word 116 [121,112,101,111,102] (by decide)).then (Ly.blank.comp hw)
def Sq(ns:List Nd)(ts:List Ty):Prop:=Wf ts/\Nm ts/\∀nd∈ns,NdOk nd ts
theorem oQ{ind:Nat}{w:List UInt8}{l:List Lm}(h:Ly false w l):Ly false ([123,10]++w++aM ind++[125]) ((5,[123]):: (l++[(5,[125])])):=by
 have h1:=(Ly.sign 123).comp (Ly.feed.comp (h.comp ((Ly.aM ind).comp (Ly.sign 125))))
 simpa only[List.append_assoc,List.cons_append,List.nil_append]using h1
mutual
theorem gX(hN:Sq ns ts):∀(e:Ex)(n ind:Nat),aG ns e n->Ly true (wE ts ind e) (bB ts e)
 | .num _ k,_,_,h=>by
  rw[aG]at h
  obtain⟨x,h1,h2⟩:=(mB hN.2.2 h).num rfl;rw[wE,bB];exact Tb (by have:=BE h1;dsimp only at h2;omega)
 | .text _ x,_,_,h=>by
  rw[aG]at h
  rw[wE,bB];exact(Ly.lit ((mB hN.2.2 h).lit rfl)).oW
 | .bool _ k,_,_,h=>by
  rw[wE,bB];split
  ·exact Ly.word _ _ (by decide)
  ·exact Ly.word _ _ (by decide)
 | .null _,_,_,h=>by rw[wE,bB];exact Ly.word _ _ (by decide)
 | .var _ x,_,_,h=>by
  rw[aG]at h
  rw[wE,bB];exact Ly.o8 ((mB hN.2.2 h).name (.inl rfl))
 | .fn p ps ty bp body,n,ind,h=>by
  rw[aG]at h
  obtain⟨ids,b,h1,h2,h3⟩:=h;rw[fM]at h3
  obtain⟨LX,h3,h4⟩:=h3;have a2:=De (sJ ts) (vm ts) ps (yx hN.1 hN.2.1 hN.2.2 ps ids h2);have a3:=oQ (ind:=ind) (qD hN body LX (ind+1) h4);obtain⟨a4,a5⟩:=Na hN.1 hN.2.1 (mB hN.2.2 h1).ty;dsimp only at a4 a5;have a6:Ly false (nQ ts ty++([32]++([123,10]++ki ts (ind+1) body++aM ind++[125]))) (kP ts ty++((5,[123]):: (im ts body++[(5,[125])]))):=by exact a4.then (Ly.blank.comp a3)
  have a7:=(Ly.word 102 [110] (by decide)).then ((Ly.sign 40).comp (a2.then ((Ly.sign 41).comp a6)));rw[wE,bB]
  simpa only[List.append_assoc,List.cons_append,List.nil_append]using a7.oW
 | .call p a l,n,ind,h=>by
  rw[aG]at h
  obtain⟨na,nl,h1,h2,h3⟩:=h;have a1:=nJ (decide (lvl a<4)) (gX hN a na ind h2);have a2:=Mw hN l nl ind h3;have a7:=a1.then ((Ly.sign 40).comp (a2.then (Ly.sign 41)));rw[wE,bB]
  simpa only[List.append_assoc,List.cons_append,List.nil_append]using a7.oW
 | .get p a x,n,ind,h=>by
  rw[aG]at h
  obtain⟨na,h1,h2⟩:=h;have a1:=nJ (decide (lvl a<4)) (gX hN a na ind h2);have a7:=a1.then ((Ly.sign 46).comp (Ly.o8 ((mB hN.2.2 h1).name (.inr (.inl rfl)))));rw[wE,bB]
  simpa only[List.append_assoc,List.cons_append,List.nil_append]using a7
 | .atX p a b,n,ind,h=>by
  rw[aG]at h
  obtain⟨na,nb,h1,h2,h3⟩:=h;have a1:=nJ (decide (lvl a<4)) (gX hN a na ind h2);have a7:=a1.then ((Ly.sign 91).comp ((gX hN b nb ind h3).then (Ly.sign 93)));rw[wE,bB]
  simpa only[List.append_assoc,List.cons_append,List.nil_append]using a7.oW
 | .obj p l,n,ind,h=>by
  rw[aG]at h
  obtain⟨nl,h1,h2⟩:=h;rw[wE,bB];split
  ·rename_i h0;obtain rfl:=List.length_eq_zero_iff.1 h0;exact((Ly.sign 123).comp (Ly.sign 125)).oW
  ·have a2:=UF hN l nl ind h2;have a7:=(Ly.sign 123).comp (Ly.blank.comp (a2.then (Ly.blank.comp (Ly.sign 125))))
   simpa only[List.append_assoc,List.cons_append,List.nil_append]using a7.oW
 | .arr p l,n,ind,h=>by
  rw[aG]at h
  obtain⟨nl,h1,h2⟩:=h;have a2:=Mw hN l nl ind h2;have a7:=(Ly.sign 91).comp (a2.then (Ly.sign 93));rw[wE,bB]
  simpa only[List.append_assoc,List.cons_append,List.nil_append]using a7.oW
 | .two p x a b,n,ind,h=>by
  rw[aG]at h
  obtain⟨na,nb,h1,h2,h3⟩:=h;have a1:=nJ (decide (lvl a<max (dI x) 1)) (gX hN a na ind h2);have a2:=nJ (decide (lvl b<dI x+1)) (gX hN b nb ind h3);have a7:=a1.then (Ly.blank.comp ((Ob ((mB hN.2.2 h1).two rfl)).comp (Ly.blank.comp a2)));rw[wE,bB]
  simpa only[List.append_assoc,List.cons_append,List.nil_append]using a7
 | .one p x a,n,ind,h=>by
  rw[aG]at h
  obtain⟨na,h1,h2⟩:=h;rw[wE,bB];exact MZ ((mB hN.2.2 h1).one rfl) (nJ (decide (lvl a<3)) (gX hN a na ind h2))
 | .asX p a ty,n,ind,h=>by
  rw[aG]at h
  obtain⟨na,h1,h2⟩:=h;have a1:=nJ (decide (lvl a<4)) (gX hN a na ind h2);have a4:=mB hN.2.2 h1;have a5:TyIn ty.toNat ts:=by
   have h0:=a4.EK rfl;rcases a4.ty with h5|⟨m,h5,h6⟩
   ·dsimp only at h0 h5;omega
   ·dsimp only at h5;rw[h5];exact h6
  have a7:=a1.then (Ly.blank.comp ((Ly.word 97 [115] (by decide)).then (Ly.blank.comp (R1 hN.1 hN.2.1 a5))));rw[wE,bB]
  simpa only[List.append_assoc,List.cons_append,List.nil_append]using a7
theorem Mw(hN:Sq ns ts):∀(l:List Ex)(nl:List Nat)(ind:Nat),dS ns l nl->Ly true (cr [44,32] (um ts ind l)) (gB [(5,[44])] (jk ts l)):=by
 intro l nl ind h;have hj:=rv (sep:=[44,32]) (lsep:=[(5,[44])]) ((Ly.sign 44).comp Ly.blank) ⟨44,_,rfl,by decide⟩ ((um ts ind l).zip (jk ts l)) (CR hN l nl ind h);rw[List.map_fst_zip (by rw[En,vB];exact Nat.le_refl _),List.map_snd_zip (by rw[En,vB];exact Nat.le_refl _)]at hj
 exact hj
theorem CR(hN:Sq ns ts):∀(l:List Ex)(nl:List Nat)(ind:Nat),dS ns l nl->∀p∈(um ts ind l).zip (jk ts l),Ly true p.1 p.2
 |[],_,_,_,p,hp=>by simp[um]at hp
 |e::l,_,ind,h,p,hp=>by
  rw[dS]at h
  obtain⟨n,t,_,h1,h2⟩:=h;rw[um,jk,List.zip_cons_cons]at hp
  rcases List.mem_cons.1 hp with rfl|hp
  ·exact gX hN e n ind h1
  ·exact CR hN l t ind h2 p hp
theorem UF(hN:Sq ns ts):∀(l:List (Nat×BA×Ex))(nl:List Nat)(ind:Nat),eA ns l nl->Ly true (cr [44,32] (xB ts ind l)) (gB [(5,[44])] (jI ts l)):=by
 intro l nl ind h;have hj:=rv (sep:=[44,32]) (lsep:=[(5,[44])]) ((Ly.sign 44).comp Ly.blank) ⟨44,_,rfl,by decide⟩ ((xB ts ind l).zip (jI ts l)) (DY hN l nl ind h);rw[List.map_fst_zip (by rw[FF,xk];exact Nat.le_refl _),List.map_snd_zip (by rw[FF,xk];exact Nat.le_refl _)]at hj
 exact hj
theorem DY(hN:Sq ns ts):∀(l:List (Nat×BA×Ex))(nl:List Nat)(ind:Nat),eA ns l nl->∀p∈(xB ts ind l).zip (jI ts l),Ly true p.1 p.2
 |[],_,_,_,p,hp=>by simp[xB]at hp
 |(q,x,e)::l,_,ind,h,p,hp=>by
  rw[eA]at h
  obtain⟨n,a,t,_,h0,h1,h2⟩:=h;rw[xB,jI,List.zip_cons_cons]at hp
  rcases List.mem_cons.1 hp with rfl|hp
  ·have a7:=(Ly.o8 ((mB hN.2.2 h0).name (.inr (.inr ⟨nR _,by show 15<=19;omega⟩)))).then ((Ly.sign 58).comp (Ly.blank.comp (gX hN e a ind h1)))
   simpa only[List.append_assoc,List.cons_append,List.nil_append]using a7
  ·exact DY hN l t ind h2 p hp
theorem qD(hN:Sq ns ts):∀(l:List Sm)(nl:List Nat)(ind:Nat),eL ns l nl->Ly false (ki ts ind l) (im ts l)
 |[],_,_,_=>by rw[ki,im];exact Ly.nil
 |e::l,_,ind,h=>by
  rw[eL]at h
  obtain⟨n,t,_,h1,h2⟩:=h;rw[ki,im];exact(X8 hN e n ind h1).comp (qD hN l t ind h2)
theorem X8(hN:Sq ns ts):∀(e:Sm)(n ind:Nat),bK ns e n->Ly false (wS ts ind e) (dx ts e)
 | .fZ p x ty a,n,ind,h=>by
  rw[bK]at h
  obtain⟨na,h1,h2⟩:=h;have a1:=gX hN a na ind h2;have a3:=mB hN.2.2 h1;have a4:=DX hN.1 hN.2.1 (a3.name (.inr (.inr ⟨by show 15<=17;omega,by show 17<=19;omega⟩))) a3.ty;dsimp only at a4;have a7:=(Ly.aM ind).comp ((Ly.word 108 [101,116] (by decide)).then (Ly.blank.comp (a4.then (Ly.blank.comp (Ly.set.comp (a1.then ((Ly.sign 59).comp Ly.feed)))))));rw[wS,dx]
  simpa only[List.append_assoc,List.cons_append,List.nil_append]using a7
 | .set p x a,n,ind,h=>by
  rw[bK]at h
  obtain⟨na,h1,h2⟩:=h;have a1:=gX hN a na ind h2;have a3:=mB hN.2.2 h1;have a4:=Ly.o8 (a3.name (.inr (.inr ⟨by show 15<=18;omega,by show 18<=19;omega⟩)));have a7:=(Ly.aM ind).comp (a4.then (Ly.blank.comp (Ly.set.comp (a1.then ((Ly.sign 59).comp Ly.feed)))));rw[wS,dx]
  simpa only[List.append_assoc,List.cons_append,List.nil_append]using a7
 | .put p a x v,n,ind,h=>by
  rw[bK]at h
  obtain⟨na,nb,h1,h2,h3⟩:=h;have a1:=nJ (decide (lvl a<4)) (gX hN a na ind h2);have a2:=gX hN v nb ind h3;have a3:=mB hN.2.2 h1;have a4:=Ly.o8 (a3.name (.inr (.inr ⟨by show 15<=19;omega,nR _⟩)));have a7:=(Ly.aM ind).comp (a1.then ((Ly.sign 46).comp (a4.then (Ly.blank.comp (Ly.set.comp (a2.then ((Ly.sign 59).comp Ly.feed)))))));rw[wS,dx]
  simpa only[List.append_assoc,List.cons_append,List.nil_append]using a7
 | .lay p a b v,n,ind,h=>by
  rw[bK]at h
  obtain⟨na,nb,nv,h1,h2,h3,h4⟩:=h;have a1:=nJ (decide (lvl a<4)) (gX hN a na ind h2);have a2:=gX hN b nb ind h3;have a3:=gX hN v nv ind h4;have a7:=(Ly.aM ind).comp (a1.then ((Ly.sign 91).comp (a2.then ((Ly.sign 93).comp (Ly.blank.comp (Ly.set.comp (a3.then ((Ly.sign 59).comp Ly.feed))))))));rw[wS,dx]
  simpa only[List.append_assoc,List.cons_append,List.nil_append]using a7
 | .print p a,n,ind,h=>by
  rw[bK]at h
  obtain⟨na,h1,h2⟩:=h;have a7:=(Ly.aM ind).comp ((Ly.word 112 [114,105,110,116] (by decide)).then (Ly.blank.comp ((gX hN a na ind h2).then ((Ly.sign 59).comp Ly.feed))));rw[wS,dx]
  simpa only[List.append_assoc,List.cons_append,List.nil_append]using a7
 | .ret p a,n,ind,h=>by
  rw[bK]at h
  obtain⟨na,h1,h2⟩:=h;have a7:=(Ly.aM ind).comp ((Ly.word 114 [101,116,117,114,110] (by decide)).then (Ly.blank.comp ((gX hN a na ind h2).then ((Ly.sign 59).comp Ly.feed))));rw[wS,dx]
  simpa only[List.append_assoc,List.cons_append,List.nil_append]using a7
 | .oL p a,n,ind,h=>by
  rw[bK]at h
  obtain⟨na,h1,h2⟩:=h;have a7:=(Ly.aM ind).comp ((gX hN a na ind h2).then ((Ly.sign 59).comp Ly.feed));rw[wS,dx]
  simpa only[List.append_assoc,List.cons_append,List.nil_append]using a7
 | .if_ p a bp b none,n,ind,h=>by
  rw[bK]at h
  obtain⟨na,nb,h1,h2,h3⟩:=h;rw[fM]at h3
  obtain⟨ids,_,h4⟩:=h3;have a3:=oQ (ind:=ind) (qD hN b ids (ind+1) h4);have a7:=(Ly.aM ind).comp ((Ly.word 105 [102] (by decide)).then (Ly.blank.comp ((Ly.sign 40).comp ((gX hN a na ind h2).then ((Ly.sign 41).comp (Ly.blank.comp (a3.comp Ly.feed)))))));rw[wS,dx]
  simpa only[List.append_assoc,List.cons_append,List.nil_append,List.append_nil]using a7
 | .if_ p a bp b (some (cp,c)),n,ind,h=>by
  rw[bK]at h
  obtain⟨na,nb,nc,h1,h2,h3,h5⟩:=h;rw[fM]at h3 h5
  obtain⟨ids,_,h4⟩:=h3;obtain⟨afN,_,h6⟩:=h5;have a3:=oQ (ind:=ind) (qD hN b ids (ind+1) h4);have a5:=oQ (ind:=ind) (qD hN c afN (ind+1) h6);have a7:=(Ly.aM ind).comp ((Ly.word 105 [102] (by decide)).then (Ly.blank.comp ((Ly.sign 40).comp ((gX hN a na ind h2).then ((Ly.sign 41).comp (Ly.blank.comp (a3.comp (Ly.blank.comp ((Ly.word 101 [108,115,101] (by decide)).then (Ly.blank.comp (a5.comp Ly.feed)))))))))));rw[wS,dx]
  simpa only[List.append_assoc,List.cons_append,List.nil_append,List.append_nil]using a7
 | .while_ p a bp b,n,ind,h=>by
  rw[bK]at h
  obtain⟨na,nb,h1,h2,h3⟩:=h;rw[fM]at h3
  obtain⟨ids,_,h4⟩:=h3;have a3:=oQ (ind:=ind) (qD hN b ids (ind+1) h4);have a7:=(Ly.aM ind).comp ((Ly.word 119 [104,105,108,101] (by decide)).then (Ly.blank.comp ((Ly.sign 40).comp ((gX hN a na ind h2).then ((Ly.sign 41).comp (Ly.blank.comp (a3.comp Ly.feed)))))));rw[wS,dx]
  simpa only[List.append_assoc,List.cons_append,List.nil_append,List.append_nil]using a7
end
end
end Ty
end
section
namespace Ty
open Tok (Tk)
section
variable {ad:List Tk}
def Ends(ad:List Tk):Prop:=∀p,p<ad.length->(cur ad p).kind≠6->p+1<ad.length
def La{α:Type}(ad:List Tk)(s:St)(m:M α):Prop:=∀a s',m s=.ok (a,s')->s'.pos<ad.length
def bd{α:Type}(ad:List Tk)(m:M α):Prop:=∀s,s.pos<ad.length->La ad s m
theorem La.ak{α β:Type}{s:St}{m:M α}{k:α->M β}(h:La ad s m)(g:∀a s1,s1.pos<ad.length->m s=.ok (a,s1)->La ad s1 (k a)):La ad s (Ty.ak m k):=λb s' x=>by
 obtain⟨a,s1,e1,e2⟩:=ah x;exact g a s1 (h a s1 e1) e1 b s' e2
theorem bd.ak{α β:Type}{m:M α}{k:α->M β}(h:bd ad m)(g:∀a,bd ad (k a)):bd ad (Ty.ak m k):=λs hs=>(h s hs).ak λa s1 h1 _=>g a s1 h1
theorem bd.ret{α:Type}(a:α):bd ad (ret a):=λs hs b s' e=>by cases e;exact hs
theorem bd.fail{α:Type}(n:Nat):bd ad (fail (α:=α) ad n):=λs _ b s' h=>by cases h
theorem bd.addNode(n:Nd):bd ad (addNode n):=λs hs b s' e=>by cases e;exact hs
theorem bd.aP(n:Ty):bd ad (aP n):=λs hs b s' e=>by cases e;exact hs
theorem bd.ef(n:Nat):bd ad (ef n):=λs hs b s' e=>by cases e;exact hs
theorem bd.look{α:Type}{k:St->M α}(h:∀s,s.pos<ad.length->La ad s (k s)):bd ad (Ty.look k):=λs hs a s' x=>h s hs a s' x
theorem bd.two(x:BA)(a b:Nat):bd ad (two x a b):=bd.look λs hs=>bd.addNode _ s hs
theorem bd.ite{α:Type}{p:Prop} [Decidable p]{m n:M α}(h:bd ad m)(g:bd ad n):bd ad (if p then m else n):=by grind
theorem La.ite{α:Type}{s:St}{p:Prop} [Decidable p]{m n:M α}(h:p->La ad s m)(g:¬p->La ad s n):La ad s (if p then m else n):=by
 grind
variable (hz:Ends ad)
include hz
theorem FR{x:List UInt8}{s:St}(hs:s.pos<ad.length)(h:Ty.is ad x s.pos=true):s.pos+1<ad.length:=by
 refine hz _ hs λe=>?_
 grind [Ty.is]
theorem La.step{s:St}(hs:s.pos<ad.length)(h: (cur ad s.pos).kind≠6):La ad s Ty.step:=λa s' e=>by cases e;exact hz _ hs h
theorem La.Fj{x:List UInt8}{s:St}(hs:s.pos<ad.length)(h:Ty.is ad x s.pos=true):La ad s Ty.step:=λa s' e=>by cases e;exact FR hz hs h
theorem La.IC{l:List (List UInt8)}{s:St}(hs:s.pos<ad.length)(h:l.any (λx=>Ty.is ad x s.pos)=true):La ad s Ty.step:=by
 grind [La.Fj]
theorem bd.take(x:List UInt8):bd ad (take ad x):=λs hs b s' e=>by
 unfold Ty.take at e;split at e<;>cases e
 ·rename_i h;exact FR hz hs h
 ·exact hs
theorem bd.need(x:List UInt8):bd ad (need ad x):=λs hs b s' e=>by
 unfold Ty.need at e;split at e<;>cases e
 rename_i h;exact FR hz hs h
theorem bd.name(met:List BA):bd ad (name ad met):=λs hs b s' e=>by
 unfold Ty.name at e;split at e
 ·cases e
 ·rename_i h;split at e<;>cases e
  exact hz _ hs (by grind)
theorem bd.list{α:Type}{x:List UInt8}{m:List α->M α}(hm:∀l,bd ad (m l)):∀f l,bd ad (list ad x m f l)
 |0,_=>bd.fail _
 |f+1,l=>(bd.take hz _).ak λ_=>bd.ite (bd.ret l) ((bd.ite (bd.ret ()) (bd.need hz _)).ak λ_=>(hm l).ak λn=>bd.list hm f (l++[n]))
theorem bd.fields{T:M Nat}(hT:bd ad T):∀f l,bd ad (fields ad T f l)
 |0,_=>bd.fail _
 |f+1,l=>(bd.take hz _).ak λ_=>bd.ite (bd.ret l) ((bd.name hz _).ak λs=>(bd.need hz _).ak λ_=>hT.ak λn=>(bd.need hz _).ak λ_=>bd.fields hT f (l++[(s,n)]))
theorem bd.round{T:M Nat}(hT:bd ad T):bd ad (round ad T):=
 (bd.list hz (λ_=>hT) _ _).ak λ_=>(bd.take hz _).ak λ_=>bd.ite (hT.ak λ_=>bd.aP _) (bd.ite (bd.ret _) (bd.fail _))
theorem bd.single{T:M Nat}(hT:bd ad T):bd ad (single ad T):=λs hs a s' h=>by
 unfold Ty.single at h;split at h
 ·rename_i hk;refine((La.step hz hs ?_).ak λ_ s1 h1 _=>bd.aP _ s1 h1) a s' h;omega
 ·exact((bd.take hz _).ak λb=>bd.ite ((bd.fields hz hT _ _).ak λ_=>bd.aP _) ((bd.take hz _).ak λb=>bd.ite (hT.ak λn=>(bd.need hz _).ak λ_=>bd.aP _) ((bd.need hz _).ak λ_=>bd.round hz hT))) s hs a s' h
theorem bd.bars{S:M Nat}(hS:bd ad S):∀f l,bd ad (bars ad S f l)
 |0,_=>bd.fail _
 |f+1,l=>(bd.take hz _).ak λ_=>bd.ite (hS.ak λn=>bd.bars hS f (l++[n])) (bd.ret l)
theorem bd.union{S:M Nat}(hS:bd ad S):bd ad (union ad S):=hS.ak λ_=>(bd.bars hz hS _ _).ak λ_=>bd.ite (bd.ret _) (bd.aP _)
theorem bd.eJ:∀r,bd ad (eJ ad r)
 |0=>bd.fail _
 |r+1=>bd.union hz (bd.single hz (bd.eJ r))
theorem kj{one:M Nat}(h:bd ad one){aJ:List (List UInt8)}:∀f n,bd ad (bM ad one aJ f n)
 |0,_=>bd.fail _
 |f+1,n=>bd.look λs hs=>La.ite (λhk=>(La.IC hz hs hk).ak λ_ s1 h1 _=>(h.ak λ_=>(bd.two _ _ _).ak λm=>kj h f m) s1 h1) λ_=>bd.ret n s hs
theorem vk{one:M Nat}(h:bd ad one):bd ad (mq ad one):=(h.ak λn=>kj hz h _ n).ak λn=>kj hz (h.ak λn=>kj hz h _ n) _ n
theorem Kr{one:M Nat}(h:bd ad one):bd ad (gW ad one):=
 (vk hz h).ak λn=>(bd.take hz _).ak λ_=>bd.ite ((vk hz h).ak λ_=>bd.two _ _ _) ((bd.take hz _).ak λ_=>bd.ite ((vk hz h).ak λ_=>bd.two _ _ _) (bd.ret n))
theorem lJ{T E:M Nat}(hT:bd ad T)(hE:bd ad E):∀f a,bd ad (behind ad T E f a)
 |0,_=>bd.fail _
 |f+1,a=>bd.look λs hs=>((bd.take hz _).ak λ_=>bd.ite ((bd.list hz (λ_=>hE) _ _).ak λ_=>(bd.addNode _).ak λm=>lJ hT hE f m)
   ((bd.take hz _).ak λ_=>bd.ite ((bd.name hz _).ak λ_=>(bd.addNode _).ak λm=>lJ hT hE f m)
   ((bd.take hz _).ak λ_=>bd.ite (hE.ak λ_=>(bd.need hz _).ak λ_=>(bd.addNode _).ak λm=>lJ hT hE f m)
   ((bd.take hz _).ak λ_=>bd.ite (hT.ak λ_=>(bd.addNode _).ak λm=>lJ hT hE f m) (bd.ret a))))) s hs
theorem oR{T:M Nat}(hT:bd ad T):bd ad (written ad T):=(bd.take hz _).ak λ_=>bd.ite (hT.ak λ_=>bd.ret _) (bd.ret _)
theorem Km{E:M Nat}(hE:bd ad E)(met:List BA):bd ad (fV ad E met):=
 bd.look λs hs=>((bd.name hz _).ak λ_=>(bd.need hz _).ak λ_=>hE.ak λ_=>(bd.addNode _).ak λ_=>bd.ret _) s hs
theorem Fu{T:M Nat}(hT:bd ad T)(met:List BA):bd ad (fC ad T met):=
 bd.look λs hs=>((bd.name hz _).ak λ_=>(oR hz hT).ak λ_=>(bd.addNode _).ak λ_=>bd.ret _) s hs
theorem zz{S:M Nat}(hS:bd ad S):∀f l,bd ad (stmts ad S f l)
 |0,_=>bd.fail _
 |f+1,_=>(bd.take hz _).ak λ_=>bd.ite (bd.ret _) (hS.ak λ_=>zz hS f _)
theorem qQ{S:M Nat}(hS:bd ad S):bd ad (di ad S):=bd.look λs hs=>((bd.need hz _).ak λ_=>(zz hz hS _ _).ak λ_=>bd.addNode _) s hs
theorem yd{T S:M Nat}(hT:bd ad T)(hS:bd ad S)(p:Nat):bd ad (bH ad T S p):=
 (bd.need hz _).ak λ_=>(bd.list hz (λ_=>Fu hz hT _) _ _).ak λ_=>(oR hz hT).ak λ_=>(qQ hz hS).ak λ_=>bd.addNode _
theorem Cq{T E S:M Nat}(hT:bd ad T)(hE:bd ad E)(hS:bd ad S):bd ad (bO ad T E S):=
 bd.look λs hs=>La.ite (λhk=>(La.step hz hs (by grind)).ak λ_ s1 h1 _=>bd.addNode _ s1 h1) λ_=>La.ite (λhk=>(La.step hz hs (by grind)).ak λ_ s1 h1 _=>bd.addNode _ s1 h1) λ_=>
  La.ite (λhk=>(La.step hz hs (by grind)).ak λ_ s1 h1 _=>bd.addNode _ s1 h1) λ_=>
  ((bd.take hz _).ak λ_=>bd.ite (bd.addNode _) ((bd.take hz _).ak λ_=>bd.ite (bd.addNode _) ((bd.take hz _).ak λ_=>bd.ite (bd.addNode _) ((bd.take hz _).ak λ_=>bd.ite (yd hz hT hS _)
   ((bd.take hz _).ak λ_=>bd.ite ((bd.list hz (λ_=>hE) _ _).ak λ_=>bd.addNode _) ((bd.take hz _).ak λ_=>bd.ite ((bd.list hz (λ_=>Km hz hE _) _ _).ak λ_=>bd.addNode _)
    ((bd.need hz _).ak λ_=>hE.ak λ_=>(bd.need hz _).ak λ_=>bd.ret _))))))) s hs
theorem Nf{T E O S:M Nat}(hT:bd ad T)(hE:bd ad E)(hO:bd ad O)(hS:bd ad S):bd ad (oI ad T E O S):=
 bd.look λs hs=>La.ite (λhk=>(La.IC hz hs hk).ak λ_ s1 h1 _=>(hO.ak λ_=>bd.addNode _) s1 h1) λ_=>((Cq hz hT hE hS).ak λa=>lJ hz hT hE _ a) s hs
theorem FA{E:M Nat}(hE:bd ad E):bd ad (cq ad E):=by
 refine hE.ak λa=>bd.look λs hs=>La.ite (λhk=>?_) λ_=>((bd.need hz _).ak λ_=>bd.addNode _) s hs
 have h:∀f:Nat->Nd,La ad s (Ty.ak (ef a) λ_=>Ty.ak Ty.step λ_=>Ty.ak E λv=>Ty.ak (need ad [59]) λ_=>addNode (f v)):=λf=>
  (bd.ef a s hs).ak λ_ s1 h1 e=>(La.Fj hz h1 (by cases e;exact hk)).ak λ_ s2 h2 _=>(hE.ak λv=>(bd.need hz _).ak λ_=>bd.addNode _) s2 h2
 exact La.ite (λ_=>h _) λ_=>La.ite (λ_=>h _) λ_=>La.ite (λ_=>h _) λ_=>bd.fail _ s hs
theorem ua{E S:M Nat}(hE:bd ad E)(hS:bd ad S)(yes:Bool)(p:Nat){x:List UInt8}{s:St}(hs:s.pos<ad.length)(hk:Ty.is ad x s.pos=true):La ad s (aZ ad E S yes p):=
 (La.Fj hz hs hk).ak λ_ s1 h1 _=>((bd.need hz _).ak λ_=>hE.ak λ_=>(bd.need hz _).ak λ_=>(qQ hz hS).ak λ_=>bd.ite ((bd.take hz _).ak λ_=>bd.ite ((qQ hz hS).ak λ_=>bd.addNode _) (bd.addNode _)) (bd.addNode _)) s1 h1
theorem J4{T E S:M Nat}(hT:bd ad T)(hE:bd ad E)(hS:bd ad S):bd ad (de ad T E S):=
 bd.look λs hs=>((bd.take hz _).ak λ_=>bd.ite ((bd.name hz _).ak λ_=>(oR hz hT).ak λ_=>(bd.need hz _).ak λ_=>hE.ak λ_=>(bd.need hz _).ak λ_=>bd.addNode _)
  ((bd.take hz _).ak λ_=>bd.ite (hE.ak λ_=>(bd.need hz _).ak λ_=>bd.addNode _) ((bd.take hz _).ak λ_=>bd.ite (hE.ak λ_=>(bd.need hz _).ak λ_=>bd.addNode _)
   (bd.look λs2 h2=>La.ite (λhk=>ua hz hE hS _ _ h2 hk) λ_=>La.ite (λhk=>ua hz hE hS _ _ h2 hk) λ_=>FA hz hE s2 h2)))) s hs
theorem FX:∀r,bd ad (lv ad r).E/\bd ad (lv ad r).O/\bd ad (lv ad r).S
 |0=>⟨bd.fail _,bd.fail _,bd.fail _⟩
 |r+1=>by
  obtain⟨h1,h2,h3⟩:=FX r;have h:=Nf hz (bd.eJ hz r) h1 h2 h3;exact⟨Kr hz h,h,J4 hz (bd.eJ hz r) h1 h3⟩
end
end Ty
end
section
namespace Ty
open Tok (Tk)
mutual
def eE:Ex->Ex
 | .num _ n=>.num 0 n
 | .text _ x=>.text 0 x
 | .bool _ n=>.bool 0 n
 | .null _=>.null 0
 | .var _ x=>.var 0 x
 | .fn _ ps ty _ body=>.fn 0 (ps.map λq=>⟨0,q.text,q.ty⟩) ty 0 (wH body)
 | .call _ a l=>.call 0 (eE a) (Bn l)
 | .get _ a x=>.get 0 (eE a) x
 | .atX _ a b=>.atX 0 (eE a) (eE b)
 | .obj _ l=>.obj 0 (yH l)
 | .arr _ l=>.arr 0 (Bn l)
 | .two _ x a b=>.two 0 x (eE a) (eE b)
 | .one _ x a=>.one 0 x (eE a)
 | .asX _ a ty=>.asX 0 (eE a) ty
def Bn:List Ex->List Ex
 |[]=>[]
 |e::l=>eE e::Bn l
def yH:List (Nat×BA×Ex)->List (Nat×BA×Ex)
 |[]=>[]
 |(_,x,e)::l=>(0,x,eE e)::yH l
def wH:List Sm->List Sm
 |[]=>[]
 |e::l=>eS e::wH l
def eS:Sm->Sm
 | .fZ _ x ty a=>.fZ 0 x ty (eE a)
 | .set _ x v=>.set 0 x (eE v)
 | .put _ a x v=>.put 0 (eE a) x (eE v)
 | .lay _ a b v=>.lay 0 (eE a) (eE b) (eE v)
 | .print _ a=>.print 0 (eE a)
 | .ret _ a=>.ret 0 (eE a)
 | .oL _ a=>.oL 0 (eE a)
 | .if_ _ a _ b none=>.if_ 0 (eE a) 0 (wH b) none
 | .if_ _ a _ b (some (_,c))=>.if_ 0 (eE a) 0 (wH b) (some (0,wH c))
 | .while_ _ a _ b=>.while_ 0 (eE a) 0 (wH b)
end
theorem nD(e:Ex):lvl (eE e)=lvl e:=by cases e<;>rw[eE]<;>rfl
theorem SA:∀l,(yH l).length=l.length
 |[]=>by rw[yH]
 |(p,x,e)::l=>by rw[yH,List.length_cons,SA l,List.length_cons]
mutual
theorem dF(ts:List Ty):∀e:Ex,bB ts (eE e)=bB ts e
 | .num _ _=>by grind [eE,bB]
 | .text _ _=>by grind [eE,bB]
 | .bool _ _=>by grind [eE,bB]
 | .null _=>by grind [eE,bB]
 | .var _ _=>by grind [eE,bB]
 | .fn _ ps ty _ body=>by rw[eE,bB,bB,gH ts body,List.map_map];rfl
 | .call _ a l=>by rw[eE,bB,bB,dF ts a,tH ts l,nD]
 | .get _ a _=>by rw[eE,bB,bB,dF ts a,nD]
 | .atX _ a b=>by rw[eE,bB,bB,dF ts a,dF ts b,nD]
 | .obj _ l=>by rw[eE,bB,bB,zD ts l]
 | .arr _ l=>by rw[eE,bB,bB,tH ts l]
 | .two _ x a b=>by rw[eE,bB,bB,dF ts a,dF ts b,nD,nD]
 | .one _ x a=>by rw[eE,bB,bB,dF ts a,nD]
 | .asX _ a _=>by rw[eE,bB,bB,dF ts a,nD]
theorem tH(ts:List Ty):∀l:List Ex,jk ts (Bn l)=jk ts l
 |[]=>by rw[Bn]
 |e::l=>by rw[Bn,jk,jk,dF ts e,tH ts l]
theorem zD(ts:List Ty):∀l:List (Nat×BA×Ex),jI ts (yH l)=jI ts l
 |[]=>by rw[yH]
 |(p,x,e)::l=>by rw[yH,jI,jI,dF ts e,zD ts l]
theorem gH(ts:List Ty):∀l:List Sm,im ts (wH l)=im ts l
 |[]=>by rw[wH]
 |e::l=>by rw[wH,im,im,Qx ts e,gH ts l]
theorem Qx(ts:List Ty):∀e:Sm,dx ts (eS e)=dx ts e
 | .fZ _ _ _ a=>by rw[eS,dx,dx,dF ts a]
 | .set _ _ a=>by rw[eS,dx,dx,dF ts a]
 | .put _ a _ v=>by rw[eS,dx,dx,dF ts a,dF ts v,nD]
 | .lay _ a b v=>by rw[eS,dx,dx,dF ts a,dF ts b,dF ts v,nD]
 | .print _ a=>by rw[eS,dx,dx,dF ts a]
 | .ret _ a=>by rw[eS,dx,dx,dF ts a]
 | .oL _ a=>by rw[eS,dx,dx,dF ts a]
 | .if_ _ a _ b none=>by rw[eS,dx,dx,dF ts a,gH ts b]
 | .if_ _ a _ b (some (cp,c))=>by rw[eS,dx,dx,dF ts a,gH ts b,gH ts c]
 | .while_ _ a _ b=>by rw[eS,dx,dx,dF ts a,gH ts b]
end
def mX:Sm->Nat
 | .fZ .. =>17
 | .set .. =>18
 | .put .. =>19
 | .lay .. =>20
 | .print .. =>21
 | .ret .. =>24
 | .oL .. =>25
 | .if_ .. =>22
 | .while_ .. =>23
section
variable {ns KZ:List Nd}
theorem Nq{e:Ex}{n:Nat}(h:aG ns e n):∃nd,ns[n]?=some nd/\nd.kind=gI e:=by
 cases e<;>rw[aG]at h
 case num=>exact⟨_,h,rfl⟩
 case text=>exact⟨_,h,rfl⟩
 case bool=>exact⟨_,h,rfl⟩
 case null=>exact⟨_,h,rfl⟩
 case var=>exact⟨_,h,rfl⟩
 all_goals first|(obtain⟨_,h,_⟩:=h;exact⟨_,h,rfl⟩)|(obtain⟨_,_,h,_⟩:=h;exact⟨_,h,rfl⟩)
theorem K1:∀{e:Sm}{n:Nat},bK ns e n->∃nd,ns[n]?=some nd/\nd.kind=mX e
 | .fZ ..,_,h=>by rw[bK]at h;obtain⟨_,h,_⟩:=h;exact⟨_,h,rfl⟩
 | .set ..,_,h=>by rw[bK]at h;obtain⟨_,h,_⟩:=h;exact⟨_,h,rfl⟩
 | .put ..,_,h=>by rw[bK]at h;obtain⟨_,_,h,_⟩:=h;exact⟨_,h,rfl⟩
 | .lay ..,_,h=>by rw[bK]at h;obtain⟨_,_,_,h,_⟩:=h;exact⟨_,h,rfl⟩
 | .print ..,_,h=>by rw[bK]at h;obtain⟨_,h,_⟩:=h;exact⟨_,h,rfl⟩
 | .ret ..,_,h=>by rw[bK]at h;obtain⟨_,h,_⟩:=h;exact⟨_,h,rfl⟩
 | .oL ..,_,h=>by rw[bK]at h;obtain⟨_,h,_⟩:=h;exact⟨_,h,rfl⟩
 | .if_ _ _ _ _ none,_,h=>by rw[bK]at h;obtain⟨_,_,h,_⟩:=h;exact⟨_,h,rfl⟩
 | .if_ _ _ _ _ (some (_,_)),_,h=>by rw[bK]at h;obtain⟨_,_,_,h,_⟩:=h;exact⟨_,h,rfl⟩
 | .while_ ..,_,h=>by rw[bK]at h;obtain⟨_,_,h,_⟩:=h;exact⟨_,h,rfl⟩
variable (he:KZ.map er=ns.map er)
include he
set_option maxHeartbeats 1600000
theorem UB{n:Nat}{a b:Nd}(h:ns[n]?=some a)(h2:KZ[n]?=some b):er b=er a:=by
 have:=congrArg (λl=>l[n]?) he
 grind
theorem cT{n:Nat}{a b:Nd}(h:ns[n]?=some a)(h2:KZ[n]?=some b):b.kind=a.kind/\b.a=a.a/\b.b=a.b/\b.c=a.c/\b.list=a.list/\b.text=a.text/\b.n=a.n/\b.ty=a.ty:=by
 have h:=UB he h h2
 grind [er]
theorem fA{e e2:Ex}{n:Nat}(h:aG ns e n)(h2:aG KZ e2 n):gI e=gI e2:=by
 grind [Nq,cT]
theorem gG{e e2:Sm}{n:Nat}(h:bK ns e n)(h2:bK KZ e2 n):mX e=mX e2:=by
 grind [K1,cT]
theorem yC:∀(ps tP:List Par)(l:List Nat),iy ns ps l->iy KZ tP l->(ps.map λq=>(⟨0,q.text,q.ty⟩:Par))=tP.map λq=>⟨0,q.text,q.ty⟩
 |[],[],_,_,_=>rfl
 |[],_:: _,_,h,⟨_,_,e,_⟩=>by grind [iy]
 | _:: _,[],_,⟨_,_,e,_⟩,h=>by grind [iy]
 |q::ps,r::tP,_,⟨n,t,rfl,h1,h2⟩,⟨m,t2,e,k1,k2⟩=>by
  obtain⟨rfl,rfl⟩:=List.cons.inj e;have:=cT he h1 k1;simp[yC ps tP t h2 k2]
  grind
mutual
theorem cV:∀(e e2:Ex)(n:Nat),aG ns e n->aG KZ e2 n->eE e=eE e2
 | .num _ _,e2,n,h,k=>by
  have hk:=fA he h k;cases e2<;>simp[gI]at hk
  rw[aG]at h k
  have:=cT he h k;simp only[af]at this;simp only[eE,this]
 | .text _ _,e2,n,h,k=>by
  have hk:=fA he h k;cases e2<;>simp[gI]at hk
  rw[aG]at h k
  have:=cT he h k;simp only[af]at this;simp only[eE,this]
 | .bool _ _,e2,n,h,k=>by
  have hk:=fA he h k;cases e2<;>simp[gI]at hk
  rw[aG]at h k
  have:=cT he h k;simp only[af]at this;simp only[eE,this]
 | .null _,e2,n,h,k=>by
  have hk:=fA he h k;cases e2<;>simp[gI]at hk
  simp only[eE]
 | .var _ _,e2,n,h,k=>by
  have hk:=fA he h k;cases e2<;>simp[gI]at hk
  rw[aG]at h k
  have:=cT he h k;simp only[af]at this;simp only[eE,this]
 | .fn _ ps ty bp body,e2,n,h,k=>by
  have hk:=fA he h k;cases e2<;>simp[gI]at hk
  rw[aG]at h k
  obtain⟨ids,b,h1,h2,h3⟩:=h;obtain⟨aey,b',k1,k2,k3⟩:=k;have:=cT he h1 k1;simp only[af]at this;obtain⟨_,rfl,_,_,rfl,_,_,rfl⟩:=this;rw[fM]at h3 k3
  obtain⟨j,h4,h5⟩:=h3;obtain⟨j',k4,k5⟩:=k3;have:=cT he h4 k4;simp only[af]at this;obtain⟨_,_,_,_,rfl,_⟩:=this;simp only[eE,yC he _ _ _ h2 k2,jq _ _ _ h5 k5]
 | .call _ a l,e2,n,h,k=>by
  have hk:=fA he h k;cases e2<;>simp[gI]at hk
  rw[aG]at h k
  obtain⟨na,nl,h1,h2,h3⟩:=h;obtain⟨B6,acD,k1,k2,k3⟩:=k;have:=cT he h1 k1;simp only[af]at this;obtain⟨_,rfl,_,_,rfl,_,_,_⟩:=this;simp only[eE,cV _ _ _ h2 k2,tB _ _ _ h3 k3]
 | .get _ a x,e2,n,h,k=>by
  have hk:=fA he h k;cases e2<;>simp[gI]at hk
  rw[aG]at h k
  obtain⟨na,h1,h2⟩:=h;obtain⟨B6,k1,k2⟩:=k;have:=cT he h1 k1;simp only[af]at this;obtain⟨_,rfl,_,_,_,rfl,_,_⟩:=this;simp only[eE,cV _ _ _ h2 k2]
 | .atX _ a b,e2,n,h,k=>by
  have hk:=fA he h k;cases e2<;>simp[gI]at hk
  rw[aG]at h k
  obtain⟨na,nb,h1,h2,h3⟩:=h;obtain⟨B6,Rz,k1,k2,k3⟩:=k;have:=cT he h1 k1;simp only[af]at this;obtain⟨_,rfl,rfl,_⟩:=this;simp only[eE,cV _ _ _ h2 k2,cV _ _ _ h3 k3]
 | .obj _ l,e2,n,h,k=>by
  have hk:=fA he h k;cases e2<;>simp[gI]at hk
  rw[aG]at h k
  obtain⟨nl,h1,h2⟩:=h;obtain⟨acD,k1,k2⟩:=k;have:=cT he h1 k1;simp only[af]at this;obtain⟨_,_,_,_,rfl,_⟩:=this;simp only[eE,ze _ _ _ h2 k2]
 | .arr _ l,e2,n,h,k=>by
  have hk:=fA he h k;cases e2<;>simp[gI]at hk
  rw[aG]at h k
  obtain⟨nl,h1,h2⟩:=h;obtain⟨acD,k1,k2⟩:=k;have:=cT he h1 k1;simp only[af]at this;obtain⟨_,_,_,_,rfl,_⟩:=this;simp only[eE,tB _ _ _ h2 k2]
 | .two _ x a b,e2,n,h,k=>by
  have hk:=fA he h k;cases e2<;>simp[gI]at hk
  rw[aG]at h k
  obtain⟨na,nb,h1,h2,h3⟩:=h;obtain⟨B6,Rz,k1,k2,k3⟩:=k;have:=cT he h1 k1;simp only[af]at this;obtain⟨_,rfl,rfl,_,_,rfl,_⟩:=this;simp only[eE,cV _ _ _ h2 k2,cV _ _ _ h3 k3]
 | .one _ x a,e2,n,h,k=>by
  have hk:=fA he h k;cases e2<;>simp[gI]at hk
  rw[aG]at h k
  obtain⟨na,h1,h2⟩:=h;obtain⟨B6,k1,k2⟩:=k;have:=cT he h1 k1;simp only[af]at this;obtain⟨_,rfl,_,_,_,rfl,_,_⟩:=this;simp only[eE,cV _ _ _ h2 k2]
 | .asX _ a ty,e2,n,h,k=>by
  have hk:=fA he h k;cases e2<;>simp[gI]at hk
  rw[aG]at h k
  obtain⟨na,h1,h2⟩:=h;obtain⟨B6,k1,k2⟩:=k;have:=cT he h1 k1;simp only[af]at this;obtain⟨_,rfl,_,_,_,_,_,rfl⟩:=this;simp only[eE,cV _ _ _ h2 k2]
theorem tB:∀(l l2:List Ex)(nl:List Nat),dS ns l nl->dS KZ l2 nl->Bn l=Bn l2
 |[],[],_,_,_=>rfl
 |[],_:: _,_,h,k=>by rw[dS]at h;rw[dS]at k;obtain⟨_,_,e,_⟩:=k;rw[h]at e;cases e
 | _:: _,[],_,h,k=>by rw[dS]at h;rw[dS]at k;obtain⟨_,_,e,_⟩:=h;rw[k]at e;cases e
 |e::l,e2::l2,nl,h,k=>by
  rw[dS]at h;rw[dS]at k
  obtain⟨n,t,rfl,h1,h2⟩:=h;obtain⟨m,t2,eq,k1,k2⟩:=k;obtain⟨rfl,rfl⟩:=List.cons.inj eq;simp only[Bn,cV _ _ _ h1 k1,tB _ _ _ h2 k2]
theorem ze:∀(l l2:List (Nat×BA×Ex))(nl:List Nat),eA ns l nl->eA KZ l2 nl->yH l=yH l2
 |[],[],_,_,_=>rfl
 |[],(_,_,_):: _,_,h,k=>by rw[eA]at h;rw[eA]at k;obtain⟨_,_,_,e,_⟩:=k;rw[h]at e;cases e
 |(_,_,_):: _,[],_,h,k=>by rw[eA]at h;rw[eA]at k;obtain⟨_,_,_,e,_⟩:=h;rw[k]at e;cases e
 |(_,x,e)::l,(_,y,e2)::l2,nl,h,k=>by
  rw[eA]at h;rw[eA]at k
  obtain⟨n,a,t,rfl,h0,h1,h2⟩:=h;obtain⟨m,a2,t2,eq,k0,k1,k2⟩:=k;obtain⟨rfl,rfl⟩:=List.cons.inj eq;have:=cT he h0 k0;simp only[af]at this;obtain⟨_,rfl,_,_,_,rfl,_,_⟩:=this;simp only[yH,cV _ _ _ h1 k1,ze _ _ _ h2 k2]
theorem jq:∀(l l2:List Sm)(nl:List Nat),eL ns l nl->eL KZ l2 nl->wH l=wH l2
 |[],[],_,_,_=>rfl
 |[],_:: _,_,h,k=>by rw[eL]at h;rw[eL]at k;obtain⟨_,_,e,_⟩:=k;rw[h]at e;cases e
 | _:: _,[],_,h,k=>by rw[eL]at h;rw[eL]at k;obtain⟨_,_,e,_⟩:=h;rw[k]at e;cases e
 |e::l,e2::l2,nl,h,k=>by
  rw[eL]at h;rw[eL]at k
  obtain⟨n,t,rfl,h1,h2⟩:=h;obtain⟨m,t2,eq,k1,k2⟩:=k;obtain⟨rfl,rfl⟩:=List.cons.inj eq;simp only[wH,OJ _ _ _ h1 k1,jq _ _ _ h2 k2]
theorem OJ:∀(e e2:Sm)(n:Nat),bK ns e n->bK KZ e2 n->eS e=eS e2
 | .fZ _ x ty a,e2,n,h,k=>by
  have hk:=gG he h k;cases e2<;>simp[mX]at hk
  rw[bK]at h;rw[bK]at k
  obtain⟨na,h1,h2⟩:=h;obtain⟨B6,k1,k2⟩:=k;have:=cT he h1 k1;simp only[af]at this;obtain⟨_,rfl,_,_,_,rfl,_,rfl⟩:=this;simp only[eS,cV _ _ _ h2 k2]
 | .set _ x a,e2,n,h,k=>by
  have hk:=gG he h k;cases e2<;>simp[mX]at hk
  rw[bK]at h;rw[bK]at k
  obtain⟨na,h1,h2⟩:=h;obtain⟨B6,k1,k2⟩:=k;have:=cT he h1 k1;simp only[af]at this;obtain⟨_,rfl,_,_,_,rfl,_,_⟩:=this;simp only[eS,cV _ _ _ h2 k2]
 | .put _ a x v,e2,n,h,k=>by
  have hk:=gG he h k;cases e2<;>simp[mX]at hk
  rw[bK]at h;rw[bK]at k
  obtain⟨na,nb,h1,h2,h3⟩:=h;obtain⟨B6,Rz,k1,k2,k3⟩:=k;have:=cT he h1 k1;simp only[af]at this;obtain⟨_,rfl,rfl,_,_,rfl,_⟩:=this;simp only[eS,cV _ _ _ h2 k2,cV _ _ _ h3 k3]
 | .lay _ a b v,e2,n,h,k=>by
  have hk:=gG he h k;cases e2<;>simp[mX]at hk
  rw[bK]at h;rw[bK]at k
  obtain⟨na,nb,nv,h1,h2,h3,h4⟩:=h;obtain⟨B6,Rz,aeH,k1,k2,k3,k4⟩:=k;have:=cT he h1 k1;simp only[af]at this;obtain⟨_,rfl,rfl,hv,_⟩:=this;obtain rfl:aeH=nv:=by omega
  simp only[eS,cV _ _ _ h2 k2,cV _ _ _ h3 k3,cV _ _ _ h4 k4]
 | .print _ a,e2,n,h,k=>by
  have hk:=gG he h k;cases e2<;>simp[mX]at hk
  rw[bK]at h;rw[bK]at k
  obtain⟨na,h1,h2⟩:=h;obtain⟨B6,k1,k2⟩:=k;have:=cT he h1 k1;simp only[af]at this;obtain⟨_,rfl,_⟩:=this;simp only[eS,cV _ _ _ h2 k2]
 | .ret _ a,e2,n,h,k=>by
  have hk:=gG he h k;cases e2<;>simp[mX]at hk
  rw[bK]at h;rw[bK]at k
  obtain⟨na,h1,h2⟩:=h;obtain⟨B6,k1,k2⟩:=k;have:=cT he h1 k1;simp only[af]at this;obtain⟨_,rfl,_⟩:=this;simp only[eS,cV _ _ _ h2 k2]
 | .oL _ a,e2,n,h,k=>by
  have hk:=gG he h k;cases e2<;>simp[mX]at hk
  rw[bK]at h;rw[bK]at k
  obtain⟨na,h1,h2⟩:=h;obtain⟨B6,k1,k2⟩:=k;have:=cT he h1 k1;simp only[af]at this;obtain⟨_,rfl,_⟩:=this;simp only[eS,cV _ _ _ h2 k2]
 | .if_ _ a _ b none,e2,n,h,k=>by
  have hk:=gG he h k;cases e2<;>simp[mX]at hk
  rename_i c2;rcases c2 with _|⟨m_,c2⟩<;>(rw[bK]at h;rw[bK]at k)
  ·obtain⟨na,nb,h1,h2,h3⟩:=h;obtain⟨B6,Rz,k1,k2,k3⟩:=k;have:=cT he h1 k1;simp only[af]at this;obtain⟨_,rfl,rfl,_⟩:=this;rw[fM]at h3 k3
   obtain⟨j,h4,h5⟩:=h3;obtain⟨j',k4,k5⟩:=k3;have:=cT he h4 k4;simp only[af]at this;obtain⟨_,_,_,_,rfl,_⟩:=this;simp only[eS,cV _ _ _ h2 k2,jq _ _ _ h5 k5]
  ·obtain⟨na,nb,h1,h2,h3⟩:=h;obtain⟨B6,Rz,RV,k1,k2,k3⟩:=k;have:=cT he h1 k1;simp only[af]at this;omega
 | .if_ _ a _ b (some (cp,c)),e2,n,h,k=>by
  have hk:=gG he h k;cases e2<;>simp[mX]at hk
  rename_i c2;rcases c2 with _|⟨m_,c2⟩<;>(rw[bK]at h;rw[bK]at k)
  ·obtain⟨na,nb,nc,h1,h2,h3⟩:=h;obtain⟨B6,Rz,k1,k2,k3⟩:=k;have:=cT he h1 k1;simp only[af]at this;omega
  ·obtain⟨na,nb,nc,h1,h2,h3,h6⟩:=h;obtain⟨B6,Rz,RV,k1,k2,k3,k6⟩:=k;have:=cT he h1 k1;simp only[af]at this;obtain⟨_,rfl,rfl,hc,_⟩:=this;obtain rfl:RV=nc:=by omega
   rw[fM]at h3 k3 h6 k6
   obtain⟨j,h4,h5⟩:=h3;obtain⟨j',k4,k5⟩:=k3;have:=cT he h4 k4;simp only[af]at this;obtain⟨_,_,_,_,rfl,_⟩:=this;obtain⟨i,h7,h8⟩:=h6;obtain⟨i',k7,k8⟩:=k6;have:=cT he h7 k7;simp only[af]at this;obtain⟨_,_,_,_,rfl,_⟩:=this;simp only[eS,cV _ _ _ h2 k2,jq _ _ _ h5 k5,jq _ _ _ h8 k8]
 | .while_ _ a _ b,e2,n,h,k=>by
  have hk:=gG he h k;cases e2<;>simp[mX]at hk
  rw[bK]at h;rw[bK]at k
  obtain⟨na,nb,h1,h2,h3⟩:=h;obtain⟨B6,Rz,k1,k2,k3⟩:=k;have:=cT he h1 k1;simp only[af]at this;obtain⟨_,rfl,rfl,_⟩:=this;rw[fM]at h3 k3
  obtain⟨j,h4,h5⟩:=h3;obtain⟨j',k4,k5⟩:=k3;have:=cT he h4 k4;simp only[af]at this;obtain⟨_,_,_,_,rfl,_⟩:=this;simp only[eS,cV _ _ _ h2 k2,jq _ _ _ h5 k5]
end
theorem vM{l l2:List Sm}{n:Nat}(h:dm 0 l []=(ns,n))(k:dm 0 l2 []=(KZ,n)):wH l=wH l2:=by
 have h1:=(iA 0 l []).2;have k1:=(iA 0 l2 []).2;rw[h]at h1
 rw[k]at k1
 rw[fM]at h1 k1
 obtain⟨i,a1,a2⟩:=h1;obtain⟨i2,b1,b2⟩:=k1;have:=cT he a1 b1
 grind [jq]
end
end Ty
end
section
namespace Ty
open Tok (Tk)
theorem nN{b:Bool}{ls:List Lm}(h:∃l r,ls=l::r/\l.1≠6):∃l r,lq b ls=l::r/\l.1≠6:=by
 grind [lq]
theorem oU{ls k:List Lm}(h:∃l r,ls=l::r/\l.1≠6):∃l r,ls++k=l::r/\l.1≠6:=by
 grind
theorem lT(ts:List Ty):∀e:Ex,∃l r,bB ts e=l::r/\l.1≠6
 | .num _ _=>by simp[bB]
 | .text _ _=>by simp[bB]
 | .bool _ _=>by simp[bB]
 | .null _=>by simp[bB]
 | .var _ _=>by simp[bB]
 | .fn .. =>by simp[bB]
 | .call _ a l=>by rw[bB];exact oU (nN (lT ts a))
 | .get _ a x=>by rw[bB];exact oU (nN (lT ts a))
 | .atX _ a b=>by rw[bB];exact oU (nN (lT ts a))
 | .obj .. =>by simp[bB]
 | .arr .. =>by simp[bB]
 | .two _ x a b=>by rw[bB];exact oU (nN (lT ts a))
 | .one _ x a=>by rw[bB];exact⟨_,_,rfl,by grind⟩
 | .asX _ a ty=>by rw[bB];exact oU (nN (lT ts a))
theorem PL(ts:List Ty):∀e:Sm,∃l r,dx ts e=l::r/\l.1≠6
 | .fZ .. =>by simp[dx]
 | .set .. =>by simp[dx]
 | .put _ a x v=>by rw[dx];exact oU (nN (lT ts a))
 | .lay _ a b v=>by rw[dx];exact oU (nN (lT ts a))
 | .print .. =>by simp[dx]
 | .ret .. =>by simp[dx]
 | .oL _ a=>by rw[dx];exact oU (lT ts a)
 | .if_ _ _ _ _ none=>by simp[dx]
 | .if_ _ _ _ _ (some (_,_))=>by simp[dx]
 | .while_ .. =>by simp[dx]
section
variable {ad t2:List Tk}
theorem AR(hz:Ends ad){r:Nat}{S:M Nat}(H:Mr t2 r S)(hS:bd ad S):∀f(l:List Nat) s l' s',Inv s->s.pos<ad.length->dN ad S f l s=.ok (l',s')->Inv s'/\Ext s.ts s'.ts/\s'.pos<ad.length/\(cur ad s'.pos).kind=6/\∃es az LS,l'=l++az/\dQ es s.ns=(s'.ns,az)/\
   (∀cH,Ext s'.ts cH->im cH es=LS)/\(LS=[]\/mC oh LS)/\s.pos+LS.length<=s'.pos/\
   ∀r2,r<=r2->∀t f2,D t2 t.pos (LS++[(6,[])])->Eqs s t->t2.length<t.pos+f2->∃t',dN t2 (lv t2 r2).S f2 l t=.ok (l',t')/\Eqs s' t'
 |0,_,_,_,_,_,_,h=>by cases h
 |f+1,l,s,l',s',hi,hp,h=>by
  have h: (if(cur ad s.pos).kind=6 then ret l else ak S λn=>dN ad S f (l++[n]):M (List Nat)) s=.ok (l',s'):=h;have Pp:∀r2 f2 l t,dN t2 (lv t2 r2).S (f2+1) l t=(if(cur t2 t.pos).kind=6 then ret l else ak (lv t2 r2).S λn=>dN t2 (lv t2 r2).S f2 (l++[n]):M (List Nat)) t:=λ_ _ _ _=>rfl
  by_cases hk: (cur ad s.pos).kind=6
  ·rw[if_pos hk]at h
   obtain⟨rfl,rfl⟩:l=l'/\s=s':=by cases h;exact⟨rfl,rfl⟩
   refine⟨hi,Ext.refl _,hp,hk,[],[],[],by simp,by rw[dQ],λ_ _=>by rw[im],.inl rfl,by simp,λr2 _ t f2 hd he Ea=>?_⟩;have:=hd.lt;obtain⟨f2,rfl⟩:∃g,f2=g+1:=⟨f2-1,by omega⟩
   refine⟨t,?_,he⟩;have hc: (cur t2 t.pos).kind=6:=congrArg Prod.fst hd.cur;rw[Pp,if_pos hc];rfl
  ·rw[if_neg hk]at h
   obtain⟨n,s3,e3,h⟩:=ah h;obtain⟨i3,x3,e,ls,k1,k2,k3,k4,k5⟩:=H _ _ _ hi e3;obtain⟨i4,x4,p4,q4,es,az,LS,g1,g2,g3,gh,g4,g5⟩:=AR hz H hS f (l++[n]) s3 l' s' i3 (hS s hp _ _ e3) h;refine⟨i4,x3.trans x4,p4,q4,e::es,n::az,ls++LS,by grind,?_,λcH za=>?_,.inr (k3.app _),?_,λr2 hr t f2 hd he Ea=>?_⟩
   ·grind [dQ]
   ·rw[im,k2 cH (x4.trans za),g3 cH za]
   ·grind
   ·rw[List.append_assoc]at hd
    have Uv:Tx (LS++[(6,[])]):=by
     rcases gh with rfl|gh
     ·rfl
     ·exact gh.at _ (by decide)
    obtain⟨t3,a1,a2,a3⟩:=k5 r2 hr t _ hd Uv he;have:=k3.len;obtain⟨u,v,hu,ahQ⟩:=PL s3.ts e;rw[k2 s3.ts (Ext.refl _)]at hu
    have Lh:=hd;rw[hu]at Lh
    have bz:=Lh.lt;obtain⟨f2,rfl⟩:∃g,f2=g+1:=⟨f2-1,by omega⟩
    obtain⟨t',b1,b3⟩:=g5 r2 hr t3 f2 (hd.add.pos a2) a3 (by omega);have hc: (cur t2 t.pos).kind=u.1:=congrArg Prod.fst Lh.cur
    grind [aj]
end
theorem KG{ad:List Tk}(h:∀t,ad.getLast?=some t->t.kind=6):Ends ad:=λp hp hk=>by
 grind [cur]
theorem JG{s:BA}{pg:Pg}(h:parse s=.ok pg){l:List Sm}(hl:dm 0 l []=(pg.ns,pg.main))(hz: (ki pg.ts 0 l).length<=4000):
  ∃jC,parse ⟨(ki pg.ts 0 l).toArray⟩=.ok jC/\jC.ts=pg.ts/\jC.main=pg.main/\jC.ns.map er=pg.ns.map er:=by
 have aD:=lD h;have py:=(iA 0 l []).2;rw[hl]at py
 rw[fM]at py
 obtain⟨ids,Vc,Lh⟩:=py;have Sj:=qD ⟨aD.wf,aD.nm,aD.ns⟩ l ids 0 Lh;unfold parse at h;split at h
 ·cases h
 ·rename_i ad CS;split at h
  ·cases h
  ·rename_i n st afo;split at h
   ·cases h
   ·rename_i hlen;obtain rfl:=(Except.ok.inj h).symm;dsimp only at hl hz Vc Lh Sj⊢;have hL:=(qe _ _ CS).2.1;have hT:=Hl CS;have hE:=KG (zi CS);have eR:=(qe _ _ CS).1;have h0:0<ad.length:=by grind
    obtain⟨l1,s1,e1,y⟩:=ah afo
    --tokens of what is printed
    obtain⟨_,_,p1,q1,es,az,LS,g1,g2,g3,_,g4,_⟩:=AR (t2:=ad) hE (OU hT hL 20).2.2 (FX hE 20).2.2 _ _ _ _ _ ⟨Wf.nil,Nm.nil,λx hx=>by grind⟩ h0 e1;obtain⟨w1,w2,w3,w4⟩:=ek y;have acC:dm 0 es []=(st.ns,n):=by
     grind [dm]
    have lQ:im st.ts l=LS:=by
     have hu:=vM (rfl:st.ns.map er=st.ns.map er) hl acC;rw[<-g3 st.ts (by grind [Ext.refl])];rw[<-gH st.ts l,<-gH st.ts es,hu]
    rw[lQ]at Sj
    obtain⟨t2,acZ,qR⟩:=PW Sj.oW (by omega) hz;obtain⟨_,_,_,_,ab7,PV,agH,agX,ag7,afi,_,_,g5⟩:=AR hE (OU hT hL 20).2.2 (FX hE 20).2.2 _ _ _ _ _ ⟨Wf.nil,Nm.nil,λx hx=>by simp at hx⟩ h0 e1;have aeC:agH=LS:=by
     rw[<-afi s1.ts (Ext.refl _),<-g3 s1.ts (Ext.refl _)];have Z7:dm 0 ab7 []=(st.ns,n):=by
      grind [dm]
     have hu:=vM (rfl:st.ns.map er=st.ns.map er) Z7 acC;rw[<-gH s1.ts ab7,<-gH s1.ts es,hu]
    rw[aeC]at g5
    have hD:D t2 0 (LS++[(6,[])]):=by unfold D;rw[qR];rfl
    obtain⟨t',a1,a2⟩:=g5 20 (nR _) ⟨0,[],[]⟩ (t2.length+1) hD (Eqs.refl _) (by simp);have ha:oj t2 ⟨0,[],[]⟩=.ok (t'.ns.length,{t' with ns:=t'.ns++[{af 26 0 with list:=l1}]}):=by
     show ak _ _ _= _;rw[aj a1];rfl
    have lW:t'.ns.length=s1.ns.length:=by have:=congrArg List.length a2.ns;simpa using this
    refine⟨⟨t'.ns++[{af 26 0 with list:=l1}],t'.ts,t'.ns.length⟩,?_,by rw[a2.ts,w1],by grind,by rw[w4,List.map_append,List.map_append,a2.ns]⟩;unfold parse;rw[acZ];dsimp only;rw[ha];dsimp only;rw[if_neg (by
     rw[List.length_append,lW,a2.ts];rw[w4,w1,List.length_append]at hlen
     simpa using hlen)]
end Ty
end
end Go.Proofs.YtdlbhiaceheffabGreatDoor
