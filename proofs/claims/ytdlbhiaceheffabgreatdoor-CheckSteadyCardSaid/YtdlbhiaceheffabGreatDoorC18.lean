/- Plain: names: how many are found. No program in sight. -/
import Derived.Test.YtdlbhiaceheffabGreatDoorC17
set_option linter.all false
namespace Go.Proofs.YtdlbhiaceheffabGreatDoor
open Go Go.RowKit Ty Tok Prt
namespace Ty
structure Mo(k:Nat)(s s':Sg):Prop where
 out:s'.out.length<=s.out.length+k
 tu:s'.tu.length<=s.tu.length+k
end Ty
namespace Ty
mutual
theorem JE:∀t:Tr,bu (eX t)<=dK t
 | .mk k n p l o=>by
  rw[eX,dK];split
  ·have:=sT l;omega
  ·rw[bu,bu,dK];omega
theorem sT:∀l:List Tr,bu (bN l)<=bu l
 |[]=>by simp[bN]
 |t::l=>by
  have:=JE t;have:=sT l;rw[bN,bu,gZ];omega
end
theorem MT(out:List Tr)(x:Tr):bu (qm out x)<=bu out+dK x:=by
 unfold qm;split
 ·omega
 ·rw[tL];omega
theorem Ek(l:List Tr):bu (dB l)<=bu l:=by
 have h:∀(l:List Tr)(o:List Tr),bu (l.foldl qm o)<=bu o+bu l:=by
  intro l;induction l with
  |nil=>intro o;simp[bu]
  |cons x l ih=>intro o;have:=ih (qm o x);have:=MT o x;simp only[List.foldl_cons,bu]at*;omega
 have:=h l [];simp only[bu]at this;unfold dB;omega
theorem Cl(l:List Tr):qz l=Fp\/(∃x,dB (bN l)=[x]/\qz l=x)\/(2<=(dB (bN l)).length/\qz l=.mk 10 [] [] (dB (bN l)) []):=by
 unfold qz;split
 ·exact .inl rfl
 ·rename_i h1;split
  ·rename_i h2;obtain⟨x,hx⟩:=List.length_eq_one_iff.1 h2;exact .inr (.inl ⟨x,hx,by rw[hx];rfl⟩)
  ·exact .inr (.inr ⟨by omega,rfl⟩)
end Ty
namespace Ty
def PZ:BA:=⟨#[108,101,116,32,120,61,40,49,43,50,41,42,51,59]⟩
def zg:List Sm:=[.fZ 0 ⟨#[120]⟩ (-1) (.two 7 ⟨#[42]⟩ (.two 7 ⟨#[43]⟩ (.num 7 1) (.num 9 2)) (.num 12 3))]
abbrev Key:=List Nat×List Int×List Nat×List UInt8
def key(n:Nd):Key:=([n.kind,n.a,n.b,n.n,n.pos],[n.c,n.ty],n.list,n.text.data.toList)
theorem key_inj{m n:Nd}(h:key m=key n):m=n:=by
 obtain⟨a1,a2,a3,a4,a5,⟨⟨a6⟩⟩,a7,a8,a9⟩:=m;obtain⟨b1,b2,b3,b4,b5,⟨⟨b6⟩⟩,b7,b8,b9⟩:=n;simp only[key,Prod.mk.injEq,List.cons.injEq,and_true]at h;obtain⟨⟨rfl,rfl,rfl,rfl,rfl⟩,⟨rfl,rfl⟩,rfl,h6⟩:=h;obtain rfl:a6=b6:=h6;rfl
theorem xC:∀{l m:List Nd},l.map key=m.map key->l=m
 |[],[],_=>rfl
 |a::l,b::m,h=>by
  simp only[List.map_cons,List.cons.injEq]at h;rw[key_inj h.1,xC h.2]
 |[],b::m,h=>by simp at h
 |a::l,[],h=>by simp at h
def aeF:Except Ft Pg->Option (List Key×Nat×Nat):=λr=>match r with| .ok p=>some (p.ns.map key,p.main,p.ts.length)| .error _=>none
def MR:List Key:=[([1,0,0,1,7],[0,-1],[],[]),([1,0,0,2,9],[0,-1],[],[]),([12,0,1,0,7],[0,-1],[],[43]),([1,0,0,3,12],[0,-1],[],[]),([12,2,3,0,7],[0,-1],[],[42]),([17,4,0,0,0],[0,-1],[],[120]),([26,0,0,0,0],[0,-1],[5],[])]
def MO(r:Except Ft Pg):Bool:=match r with| .ok p=>decide (p.ns.map key=MR)&&(p.main==6)&&(p.ts.length==0)| .error _=>false
theorem CG:MO (parse PZ)=true:=by decide+kernel
theorem Bv: (dm 0 zg []).1.map key=MR/\(dm 0 zg []).2=6:=by
 simp[zg,dm,dQ,cN,aF,key,MR,af]
theorem zQ{pg:Pg}(h:parse PZ=.ok pg):dm 0 zg []=(pg.ns,pg.main)/\pg.ts=[]:=by
 have:=CG;rw[h]at this
 simp only[MO,Bool.and_eq_true,decide_eq_true_eq,beq_iff_eq]at this;obtain⟨⟨h1,h2⟩,h3⟩:=this;exact⟨Prod.ext (xC (Bv.1.trans h1.symm)) (Bv.2.trans h2.symm),List.eq_nil_of_length_eq_zero h3⟩
theorem QS{f:Ft}(h:parse PZ=.error f):False:=by
 have:=CG;rw[h]at this;simp[MO]at this
theorem zy:ki [] 0 zg=[108,101,116,32,120,32,61,32,40,49,32,43,32,50,41,32,42,32,51,59,10]:=by decide+kernel
def Ny:BA:=⟨#[40,110,117,109,41,124,116,101,120,116]⟩
def T3:Except Ft (List Ty)->Option (List (Nat×Nat×List Nat×Nat)):=λr=>match r with| .ok p=>some (p.map λt=>(t.kind,t.fields.length,t.list,t.of))| .error _=>none
theorem DI:T3 (typeOf Ny)=some [(1,0,[],0),(3,0,[],0),(10,0,[0,1],0)]:=by decide+kernel
theorem Qh{ts:List Ty}(h:typeOf Ny=.ok ts):ts=[⟨1,[],[],0⟩,⟨3,[],[],0⟩,⟨10,[],[0,1],0⟩]:=by
 have h1:=DI;rw[h]at h1
 simp only[T3,Option.some.injEq]at h1;rcases ts with _|⟨a,_|⟨b,_|⟨c,_|⟨d,l⟩⟩⟩⟩<;>simp only[List.map_cons,List.map_nil,List.cons.injEq,Prod.mk.injEq,List.length_eq_zero_iff,reduceCtorEq,and_false,false_and]at h1
 obtain⟨a1,a2,a3,a4⟩:=a;obtain⟨b1,b2,b3,b4⟩:=b;obtain⟨c1,c2,c3,c4⟩:=c;dsimp only at h1;obtain⟨⟨rfl,rfl,rfl,rfl⟩,⟨rfl,rfl,rfl,rfl⟩,⟨rfl,rfl,rfl,rfl⟩,_⟩:=h1;rfl
theorem Rm{f:Ft}(h:typeOf Ny=.error f):False:=by
 have:=DI;rw[h]at this;simp[T3]at this
theorem KP{ts:List Ty}(h:typeOf Ny=.ok ts):text (den ts (ts.length-1))=[110,117,109,32,124,32,116,101,120,116]:=by
 have hw:=(yv h).1;have ow:=Qh h;have h0:ts[0]?=some ⟨1,[],[],0⟩:=by rw[ow];rfl
 have h1:ts[1]?=some ⟨3,[],[],0⟩:=by rw[ow];rfl
 have h2:ts[2]?=some ⟨10,[],[0,1],0⟩:=by rw[ow];rfl
 have hl:ts.length-1=2:=by rw[ow];rfl
 rw[hl,nO hw h2];simp only[List.map_cons,List.map_nil];rw[nO hw h0,nO hw h1];simp only[List.map_nil,if_neg (show¬(1=8\/1=9)by decide),if_neg (show¬(3=8\/3=9)by decide),if_neg (show¬(10=8\/10=9)by decide)];decide+kernel
end Ty
end Go.Proofs.YtdlbhiaceheffabGreatDoor
