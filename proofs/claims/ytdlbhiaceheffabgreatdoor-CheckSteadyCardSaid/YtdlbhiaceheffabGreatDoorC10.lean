/- Plain: the reference's reader of types: what it comes to in each state; and that it is the parser's. No program in sight. -/
import Derived.Test.YtdlbhiaceheffabGreatDoorC01
set_option linter.all false
namespace Go.Proofs.YtdlbhiaceheffabGreatDoor
open Go Go.RowKit Ty Tok
section
namespace Rd
open Tok (Tk)
open Ty (Ft St Nd cur here is bI M)
structure RS where
 st:St
 f:Option Ft
def Ok(ad:List Tk)(st:St):Prop:=st.pos<ad.length/\st.ts.length<=st.pos/\st.ns.length<=st.pos+1
def aeu(ad:List Tk)(c:Nat)(st:St):Prop:=st.pos<ad.length/\st.ts.length<=ad.length+c/\st.ns.length<=ad.length+1+c
def ae8{α:Type}(ad:List Tk)(c:Nat)(m:M α)(g:RS->α×RS):Prop:=
 ∀st,Ok ad st->match m st with
  | .ok (a,W8)=>g ⟨st,none⟩=(a,⟨W8,none⟩)/\Ok ad W8
  | .error f=>∃a W8,g ⟨st,none⟩=(a,⟨W8,some f⟩)/\aeu ad c W8
def Idle(g:RS->Nat×RS):Prop:=∀st x,g ⟨st,some x⟩=(0,⟨st,some x⟩)
section
variable {ad:List Tk} (hL:∀t,ad.getLast?=some t->t.kind=6)
include hL
variable {c:Nat} {T:M Nat} {g:RS->Nat×RS} (hT:ae8 ad c T g) (hA:bh 1 0 0 T) (hI:Idle g)
include hT hA hI
end
end Rd
end
end Go.Proofs.YtdlbhiaceheffabGreatDoor
