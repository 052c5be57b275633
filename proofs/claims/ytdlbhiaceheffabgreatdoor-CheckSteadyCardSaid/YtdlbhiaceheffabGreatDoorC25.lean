/- Walk of check: expr at all kinds. -/
import Derived.Test.YtdlbhiaceheffabGreatDoorC24
set_option linter.all false
namespace Go.Proofs.YtdlbhiaceheffabGreatDoor
open Go Go.RowKit Ty Tok Prt Tryz Proofs.Tryz
section
open Ty (Tr Ck)
section
variable {wB w:World} {cb ofb hasb:Nat} {X:Cx} {s:Ck} {h0:Prt.Hp} {pg:Ty.Pg}
theorem FN(hP:PB wB X.nv X.tv pg)(hb:Below wB.heap.size wB w){id:Nat}{nd:Nd}(hn:pg.ns[id]?=some nd)(hk:1<=nd.kind/\nd.kind<=14)(hW:CkW w cb X ofb hasb s h0)(hI:NdW pg nd)(hi:id<=100000)(eR:qB pg X.kv s id nd≠.error Ty.stuck){R:EW}
  (aD:∀t q w',qB pg X.kv s id nd=.ok t->Sat w w' [bY w,iq h0 t q]->R (.returned q) w') (au:∀f w',qB pg X.kv s id nd=.error f->Below w.heap.size w w'->R (.panicked (aO f)) w'):
  Calls prog 159 #[.pointer (some ⟨cb,0,none⟩),.int .i64 (id:Nat)] w R:=by
 by_cases fs:nd.kind=10
 ·exact QV hP hb hn fs hW hI eR aD
 by_cases pY:nd.kind=11
 ·exact PO hP hb hn pY hW hI eR aD
 exact Tm ⟨hP,hb,hW⟩ hn ⟨hk.1,hk.2,fs,pY⟩ hI hi eR aD au
end
section
variable {wB w:World} {cb:Nat} {X:Cx} {c:Nat} {s:Ck} {pg:Ty.Pg} {bk:List (Option Tr)} {Fr:As}
theorem JQ(hP:PB wB X.nv X.tv pg)(hF:ju wB Fr){id:Nat}{nd:Nd}(hn:pg.ns[id]?=some nd)(hk:15<=nd.kind)(H:Sat wB w [Fr,uK cb X c s bk])(hc:c+1<=100000)(hI:NdW pg nd)(hi:id<=100000)(xH:nd.kind=20->0<=nd.c/\nd.c<=100000)(eR:wV pg X.kv bk id nd s≠.error Ty.stuck){R:EW}
  (aD:∀s' w',wV pg X.kv bk id nd s=.ok s'->Sat wB w' [Fr,uK cb X (c+1) s' bk]->R (.returned (.tuple #[])) w') (au:∀f w',wV pg X.kv bk id nd s=.error f->Sat wB w' [Fr]->R (.panicked (aO f)) w'):
  Calls prog 162 #[.pointer (some ⟨cb,0,none⟩),.int .i64 (id:Nat)] w R:=by
 by_cases YT:nd.kind=17
 ·exact PJ hP hF hn YT H hc hI hi eR aD au
 obtain⟨ofb,hasb,bkv,no,nh,fo,fh,bl,h0,uB,g1⟩:=H.nV;have hW:=g1.UG uB;have hB:=g1.agJ uB (by omega);have hb:=hF w _ 0 g1 rfl;exact Uj ⟨hP,hb,hW⟩ hn ⟨hk,YT⟩ xH hB hI hi eR (λw' h iz=>aD s w' h ((H.below iz).v_ (by omega))) λf w' h iz=>au f w' h ((H.below iz).pick [0])
end
end
namespace Ty
def aB(nd:Nd):List Nat:=
 if nd.kind=7 then nd.a::nd.list
 else if nd.kind=10\/nd.kind=11\/nd.kind=26 then nd.list
 else if nd.kind=9\/nd.kind=12\/nd.kind=19\/nd.kind=23 then [nd.a,nd.b]
 else if nd.kind=20 then [nd.a,nd.b,nd.c.toNat]
 else if nd.kind=22 then(if nd.c<0 then [nd.a,nd.b]else [nd.a,nd.b,nd.c.toNat])
 else if nd.kind<=6\/nd.kind=16 then []
 else [nd.a]
end Ty
end Go.Proofs.YtdlbhiaceheffabGreatDoor
