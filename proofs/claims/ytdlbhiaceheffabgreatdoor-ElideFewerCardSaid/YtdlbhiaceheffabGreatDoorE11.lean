/- Plain: the reference's reader of types: what it comes to in each state; and that it is the parser's. No program in sight. -/
import Derived.Test.YtdlbhiaceheffabGreatDoorE01
set_option linter.all false
namespace Go.Proofs.YtdlbhiaceheffabGreatDoor
open Go Go.RowKit Ty Tok
section
namespace Rd
open Tok (Tk)
open Ty (Ft St Nd cur here is cB M)
structure RS where
 st:St
 f:Option Ft
def Ok(ad:List Tk)(st:St):Prop:=st.pos<ad.length/\st.ts.length<=st.pos/\st.ns.length<=st.pos+1
def aby(ad:List Tk)(c:Nat)(st:St):Prop:=st.pos<ad.length/\st.ts.length<=ad.length+c/\st.ns.length<=ad.length+1+c
def abx{α:Type}(ad:List Tk)(c:Nat)(m:M α)(g:RS->α×RS):Prop:=
 ∀st,Ok ad st->match m st with
  | .ok (a,RH)=>g ⟨st,none⟩=(a,⟨RH,none⟩)/\Ok ad RH
  | .error f=>∃a RH,g ⟨st,none⟩=(a,⟨RH,some f⟩)/\aby ad c RH
def Idle(g:RS->Nat×RS):Prop:=∀st x,g ⟨st,some x⟩=(0,⟨st,some x⟩)
section
variable {ad:List Tk} (hL:∀t,ad.getLast?=some t->t.kind=6)
include hL
variable {c:Nat} {T:M Nat} {g:RS->Nat×RS} (hT:abx ad c T g) (hA:bf 1 0 0 T) (hI:Idle g)
include hT hA hI
end
end Rd
end
end Go.Proofs.YtdlbhiaceheffabGreatDoor
