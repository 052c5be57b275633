/- Parts of memory of the reference's Sight; walks of Has and partsOf. -/
import Derived.Laws.AppendOwnNone
import Derived.Test.YtdlbhiaceheffabGreatDoorC18
set_option linter.all false
namespace Go.Proofs.YtdlbhiaceheffabGreatDoor
open Go Go.RowKit Ty Tok Prt Tryz Proofs.Tryz
section
open Ty (Kn Sg)
theorem Ss: (prog.info? 43).map (λi=>(i.zero,i.size,i.bytes))=some (some (.agg #[.int .i64 0,.int .i64 0]),2,16):=by kernel_rfl
abbrev cz(nd:Nd)(lv:Value):Obj:=.cells #[.int .i64 nd.kind,.int .i64 nd.a,.int .i64 nd.b,.int .i64 nd.c,lv,.string nd.text,.int .i64 nd.n,.int .i64 nd.ty,.int .i64 nd.pos] 66 (0,0)
abbrev nB(nd:Nd)(a:Option Addr)(c:Nat):Obj:=cz nd (.slice a nd.list.length c)
theorem Prt.Sat.nn{w0 w:World}{L:List As}{b:Nat}{nd:Nd}{lv:Value}(h:Sat w0 w L)(i:Nat)(hi:L[i]?=some (ax b (cz nd lv)):=by exact rfl):w.cell? ⟨b,0,none⟩=some (.int .i64 nd.kind)/\w.cell? ⟨b,1,none⟩=some (.int .i64 nd.a)/\w.cell? ⟨b,2,none⟩=some (.int .i64 nd.b)/\w.cell? ⟨b,3,none⟩=some (.int .i64 nd.c)/\w.cell? ⟨b,4,none⟩=some lv/\w.cell? ⟨b,5,none⟩=some (.string nd.text)/\w.cell? ⟨b,6,none⟩=some (.int .i64 nd.n)/\w.cell? ⟨b,7,none⟩=some (.int .i64 nd.ty)/\w.cell? ⟨b,8,none⟩=some (.int .i64 nd.pos):=
 ⟨h.cell i 0 hi rfl,h.cell i 1 hi rfl,h.cell i 2 hi rfl,h.cell i 3 hi rfl,h.cell i 4 hi rfl,h.cell i 5 hi rfl,h.cell i 6 hi rfl,h.cell i 7 hi rfl,h.cell i 8 hi rfl⟩
def gN(p:Nat×Nat):List Value:=[.int .i64 p.1,.int .i64 p.2]
def wj(v:Value)(l:List (Nat×Nat)):As:=Prt.row 43 2 v l.length (l.flatMap gN)
section
variable {w0 w:World} {Fr:As} {sb:Nat} {nv tv:Value} {main:Int} {env:List Kn} {s:Sg} {f:Ty.Ft}
end
theorem MS{v:Value}{l:List (Nat×Nat)}{p:Nat×Nat}{a:Prt.Hp}(h:Prt.row 43 2 v (l.length+1) (l.flatMap gN++gN p) a):wj v (l++[p]) a:=by
 unfold wj;rw[List.length_append,List.flatMap_append]
 simpa using h
end
end Go.Proofs.YtdlbhiaceheffabGreatDoor
