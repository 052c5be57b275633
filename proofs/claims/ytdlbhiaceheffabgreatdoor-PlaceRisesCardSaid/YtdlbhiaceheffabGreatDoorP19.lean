/- Maps as parts of memory: what they hold, in plain words. -/
import Derived.Maps.OwnSet
import Derived.Maps.OwnOps
import Derived.Maps.Ext
import Derived.StringKeys
import Derived.WalkSmall
import Derived.WalkArith
import Derived.RangeFuncCalls
import Derived.Deep.RegionHeld3
import Derived.OrdersIn
import Derived.TacticsIn
import Derived.Test.YtdlbhiaceheffabGreatDoorP18
set_option linter.all false
set_option maxRecDepth 100000
set_option maxHeartbeats 4000000
namespace Go.Proofs.YtdlbhiaceheffabGreatDoor
open Go Go.RowKit Ty Tok ak Tryz Proofs.Tryz
section
open Go.Maps (Keyed)
open Go.WideElems (Fit rg)
abbrev Dm:=DataW Unit
def mapA(k e:TypeId)(b n:Nat)(Φ:Dm→Prop):As:=λh=>∃es clock,h b=some (.map es clock)∧Fit (H:=Unit) prog k (plainElem prog e) es clock∧es.size≤n∧Φ (.map ((es.toList.map (rg prog k (plainElem prog e))).foldr DataW.insert []))
section
variable {w0 w w':World} {L:List As} {k e:TypeId} {b n:Nat} {Φ:Dm→Prop}
theorem ak.Sat.yM(h:Sat w0 w L)(k e b:Nat)(hb:b=w.heap.size)(XB:Φ (.map [])):Sat w0 (w.alloc (.map #[] 0)) (L++[mapA k e b 0 Φ]):=by
 subst hb;refine h.new ((bR _ _).alloc (nR _) _) ⟨λj=>if j=w.heap.size then some (.map #[] 0)else none,⟨#[],0,by simp,⟨by simp,MapKept.stamped_empty 0,by simp⟩,nR _,XB⟩,λj x ex=>?_,λj hj=>?_⟩
 ·dsimp only at ex;split at ex
  ·rename_i hk;subst hk;cases ex;exact heap_alloc_new w _
  ·cases ex
 ·dsimp only;rw[if_neg (by omega)]
theorem ak.Sat.nZ(h:Sat w0 w L)(i:Nat)(hi:L[i]?=some (mapA k e b n Φ)):∃D:Dm,w.ownsMap prog k (plainElem prog e) b n D∧Φ D:=by
 obtain⟨a,b',_,h2,_,h4,_⟩:=fL h.mem hi;obtain⟨es,clock,g1,g2,g3,g4⟩:=h4;exact⟨_,⟨es,clock,h2 b _ g1,g2,g3,rfl⟩,g4⟩
theorem ak.Sat.tF(h:Sat w0 w L)(i:Nat)(hi:L[i]?=some (mapA k e b n Φ)){n':Nat}{D:Dm}{Ψ:Dm→Prop}(hg:w.grownBy w' (some b))(ho:w'.ownsMap prog k (plainElem prog e) b n' D)(WO:Ψ D):Sat w0 w' (L.set i (mapA k e b n' Ψ)):=by
 obtain⟨es,clock,g1,g2,g3,rfl⟩:=ho;refine h.Uk hi hg.os hg.tape hg.output λa ha hl=>⟨λj=>if j=b then some (.map es clock)else none,⟨es,clock,by simp,g2,g3,WO⟩,λj x ex=>?_,λj hj bm=>?_⟩
 ·dsimp only at ex;split at ex
  ·rename_i hk;subst hk;cases ex;exact g1
  ·cases ex
 ·have bZ:j≠b:=by
   rintro rfl
   obtain⟨abL,c2,e2,_⟩:=ha;rw[hj]at e2;cases e2
  exact⟨by dsimp only;rw[if_neg bZ],hg.block j bm (by simpa using bZ)⟩
theorem ak.Sat.Rz(h:Sat w0 w L)(i:Nat)(hi:L[i]?=some (mapA k e b n Φ)):b<w.heap.size:=by
 obtain⟨D,h1,_⟩:=h.nZ i hi;exact h1.lt
end
def kI(l:List (BA×Nat))(D:Dm):Prop:=Maps.IsMap D∧∀x:BA,Maps.has D (.string x.data.toList)=(Ty.e_ l x).isSome∧∀m,Ty.e_ l x=some m→D.atKey (.string x.data.toList) (.lit (.int .i64 0))=.lit (.int .i64 (m:Nat))
def cH(wi:Nat→Option Int)(D:Dm):Prop:=Maps.IsMap D∧∀m:Nat,D.atKey (.int .i64 (m:Nat)) (.lit (.int .i64 0))=.lit (.int .i64 ((wi m).getD 0))
def cZ(ca:Nat→Bool)(D:Dm):Prop:=Maps.IsMap D∧(∀m:Nat,Maps.has D (.int .i64 (m:Nat))=ca m)∧∀z:Int,Maps.has D (.int .i64 z)=true→0≤z
theorem Cl(l:List (BA×Nat))(x y:BA)(n:Nat):Ty.e_ (l++[(x,n)]) y=if x=y then some n else Ty.e_ l y:=by
 unfold Ty.e_;rw[List.reverse_append];by_cases h:x=y<;>simp[h]
theorem D9{x y:BA}(h:x≠y):Lit.string y.data.toList≠Lit.string x.data.toList:=λe=>by
 simp only[Lit.string.injEq]at e;exact h (by cases x;cases y;simp only at e;congr 1;exact(Array.toList_inj.1 e).symm)
theorem DB:kI [] (.map []):=⟨Maps.isMap_empty,λx=>⟨rfl,λm h=>by cases h⟩⟩
theorem Dz{l:List (BA×Nat)}{D:Dm}(h:kI l D)(x:BA)(n:Nat):kI (l++[(x,n)]) (D.put (.string x.data.toList) (.lit (.int .i64 (n:Nat)))):=by
 refine⟨h.1.put _ _,λy=>?_⟩;rw[Cl];by_cases hx:x=y
 ·subst hx;rw[if_pos rfl];refine⟨Maps.has_put_same h.1 (show WideAt.IsKeyLit (.string _)from trivial) _,λm hm=>?_⟩;cases hm;exact Maps.atKey_put_same h.1 (show WideAt.IsKeyLit (.string _)from trivial) _ _
 ·rw[if_neg hx];refine⟨by rw[Maps.has_put_other (D9 hx)];exact(h.2 y).1,λm hm=>?_⟩;rw[Maps.atKey_put_other (D9 hx)];exact(h.2 y).2 m hm
theorem sf:cH (λ_=>none) (.map []):=⟨Maps.isMap_empty,λ_=>rfl⟩
theorem jl{m n:Nat}(h:m≠n):Lit.int .i64 (m:Nat)≠Lit.int .i64 (n:Nat):=λe=>by
 simp only[Lit.int.injEq,true_and]at e;exact h (by omega)
theorem r'{wi:Nat→Option Int}{D:Dm}(h:cH wi D)(n:Nat)(o:Int):cH (λk=>if k=n then some o else wi k) (D.put (.int .i64 (n:Nat)) (.lit (.int .i64 o))):=by
 refine⟨h.1.put _ _,λm=>?_⟩;dsimp only;by_cases hx:m=n
 ·subst hx;rw[if_pos rfl,Maps.atKey_put_same h.1 (show WideAt.IsKeyLit (.int _ _)from trivial)];rfl
 ·rw[if_neg hx,Maps.atKey_put_other (jl hx)];exact h.2 m
theorem zG:cZ (λ_=>false) (.map []):=⟨Maps.isMap_empty,λ_=>rfl,λ_ h=>nomatch h⟩
theorem Bn{ca:Nat→Bool}{D:Dm}(h:cZ ca D)(n:Nat)(d:Dm):cZ (λk=>if k=n then true else ca k) (D.put (.int .i64 (n:Nat)) d):=by
 refine⟨h.1.put _ _,λm=>?_,λz hz=>?_⟩
 ·dsimp only;by_cases hx:m=n
  ·subst hx;rw[if_pos rfl,Maps.has_put_same h.1 (show WideAt.IsKeyLit (.int _ _)from trivial)]
  ·rw[if_neg hx,Maps.has_put_other (jl hx)];exact h.2.1 m
 ·by_cases hx:z=(n:Nat)
  ·omega
  ·rw[Maps.has_put_other (show Lit.int .i64 z≠Lit.int .i64 (n:Nat)from λe=>by
    simp only[Lit.int.injEq,true_and]at e;exact hx e)]at hz
   exact h.2.2 z hz
end
section
open Ty (Frm Vg)
abbrev Ez(nv tv:Value)(main:Int)(sv ov:Value)(wb cb:Nat):Obj:=.cells #[nv,tv,.int .i64 main,sv,ov,.map (some wb),.map (some cb)] 145 (0,0)
def iK(p:Frm×Nat):List Value:=[.map (some p.2),.int .i64 p.1.of]
def kC:List (Frm×Nat)→As
 |[]=>λ_=>True
 |p::l=>ah [mapA 9 3 p.2 p.1.names.length (kI p.1.names),kC l]
def wO(v:Value)(l:List (Frm×Nat)):As:=ak.row 195 2 v l.length (l.reverse.flatMap iK)
structure BiQ where
 sv:Value
 ov:Value
 wb:Nat
 cb:Nat
 ms:List (Frm×Nat)
def VJ(bb:Nat)(nv tv:Value)(main:Int)(frs:List Frm)(v:Vg)(nw nc:Nat)(q:BiQ):List As:=
 [cn (q.ms.map Prod.fst=frs),ay bb (Ez nv tv main q.sv q.ov q.wb q.cb),wO q.sv q.ms,kC q.ms,sY q.ov v.out,mapA 3 3 q.wb nw (cH v.wi),mapA 3 4 q.cb nc (cZ v.ca)]
def CU(bb:Nat)(nv tv:Value)(main:Int)(frs:List Frm)(v:Vg)(nw nc:Nat):As:=cA λq=>ah (VJ bb nv tv main frs v nw nc q)
theorem qq{w:World}{bb g k cap mb:Nat}{of:Int}(h3:w.cell? ⟨bb,3,none⟩=some (.slice (some ⟨g,0,none⟩) (k+1) cap))(hx:w.cell? ⟨g,k*2,none⟩=some (.map (some mb)))(hy:w.cell? ⟨g,k*2+1,none⟩=some (.int .i64 of))
  (hb:bb<w.heap.size) (hg:g<w.heap.size) (hc:k≤1000000) {R:EW} (hR:∀w',Below w.heap.size w w'→R (.returned (.agg #[.map (some mb),.int .i64 of])) w'):
  Calls prog 217 #[.pointer (some ⟨bb,0,none⟩)] w R:=by
 have HR:=qh hR;have hw:=IntWalk.i64_in (n:=(k:Int)) (by omega);have hs:IntKind.i64.wrap (((k+1:Nat):Int)-1)=(k:Int):=by rw[show((k+1:Nat):Int)-1=(k:Int)by omega];exact hw
 clear hR;go_in;go_wp2_with fail
 go_region
 all_goals
  go_wp2_with fail;refine bodyPost_ret ?_ rfl (HR.o _ ?_)
  ·simp[results,results217,go_sem]
  ·repeat' (first|exact bR _ _|apply Below.drew|apply Below.setCell|apply Below.alloc|(simp;done)|omega)
theorem dC{wB w:World}{nv tv:Value}{pg:Ty.Pg}(hP:PB wB nv tv pg)(hb:Below wB.heap.size wB w){bb id:Nat}{nd:Ty.Nd}(hn:pg.ns[id]?=some nd)(h0:w.cell? ⟨bb,0,none⟩=some nv)(gB:bb<w.heap.size){R:EW}
  (hR:∀lv w',Below w.heap.size w w'→wB.ownsRow 0 3 1 lv nd.list.length (nd.list.map aS)→R (.returned (aK nd lv)) w'):
  Calls prog 213 #[.pointer (some ⟨bb,0,none⟩),.int .i64 (id:Nat)] w R:=by
 obtain⟨g,cap,lv,rfl,kN,hg,hcap,Hl,hA,hl,_,hN⟩:=hP.look hn;obtain⟨q0,q1,q2,q3,q4,q5,q6,q7,q8⟩:=hA.below hb;have Vm:g<w.heap.size:=nL hg hb.size;obtain⟨la,lc,rfl⟩:=ag hl;have HR:=qh (λw' fU=>hR (.slice la nd.list.length lc) w' fU hl);unfold maxLen at Hl;clear hR hA hl hb hP hn;generalize pg.ns.length=N at*
 go_in;go_wp2_with fail;refine bodyPost_ret ?_ rfl (HR.o _ ?_)
 ·simp[results,results213,go_sem,aK]
 ·exact(bR _ _).alloc (nR _) _
theorem ui{w:World}{bb:Nat}{e p:Nat}{R:EW}(hR:R (.panicked (aJ (e,p))) w):Calls prog 285 #[.pointer (some ⟨bb,0,none⟩),.int .i64 (e:Nat),.int .i64 (p:Nat)] w R:=by
 have HR:=qh hR;clear hR;go_in;go_wp2_with fail;exact⟨rfl,HR.o⟩
theorem ud{w:World}{v:Value}{p:Frm×Nat}{l:List (Frm×Nat)}(h:w.ownsRow 0 195 2 v (p::l).length ((p::l).reverse.flatMap iK)):
  ∃g cap:Nat,v=.slice (some ⟨g,0,none⟩) (l.length+1) cap∧g<w.heap.size∧w.cell? ⟨g,l.length*2,none⟩=some (.map (some p.2))∧w.cell? ⟨g,l.length*2+1,none⟩=some (.int .i64 p.1.of):=by
 obtain⟨g,cap,rfl,_,hg⟩:=h.form (by simp);have hc:=λj u hj=>World.ownsRow.cells h (g:=g) rfl j u hj
 have hf:=jD iK 2 (λ_=>rfl) (p::l).reverse l.length (by simp);have he: (p::l).reverse[l.length]'(by simp)=p:=by simp
 rw[he]at hf
 refine⟨g,cap,rfl,hg,?_,?_⟩
 ·have:=hc (l.length*2+0) _ (by rw[hf 0 (by omega)];rfl);rwa [Addr.add_lit,Nat.zero_add]at this
 ·have:=hc (l.length*2+1) _ (by rw[hf 1 (by omega)];rfl);rwa [Addr.add_lit,Nat.zero_add]at this
section
variable {wB w:World} {Fr:As} {bb:Nat} {nv tv:Value} {main:Int} {fr:Frm} {frs:List Frm} {v:Vg} {nw nc:Nat}
theorem ak.Sat.y_(h:Sat wB w [Fr,CU bb nv tv main (fr::frs) v nw nc]):∃sv ov wb cb mb ms,ms.map Prod.fst=frs∧
  Sat wB w [Fr,ay bb (Ez nv tv main sv ov wb cb),wO sv ((fr,mb)::ms),sY ov v.out,mapA 3 3 wb nw (cH v.wi),mapA 3 4 cb nc (cZ v.ca),mapA 9 3 mb fr.names.length (kI fr.names),kC ms]:=by
 obtain⟨⟨sv,ov,wb,cb,ms⟩,h⟩:=h.ex (i:=1) rfl;have h:=h.unpack (i:=1) rfl;have gT:ms.map Prod.fst=fr::frs:=h.get (i:=1) rfl λ_ ha _=>ha
 match ms,gT,h with
 |[],gT,_=>cases gT
 |(f2,mb)::ms,gT,h=>
  rw[List.map_cons]at gT
  injection gT with e1 e2;dsimp only at e1;subst e1;have h2:=(h.pick [0,2,3,5,6,7,4]).unpack (i:=6) rfl;exact⟨sv,ov,wb,cb,mb,ms,e2,h2⟩
theorem ak.Sat.BS{sv ov:Value}{wb cb mb:Nat}{ms:List (Frm×Nat)}(gT:ms.map Prod.fst=frs)
  (h:Sat wB w [Fr,ay bb (Ez nv tv main sv ov wb cb),wO sv ((fr,mb)::ms),sY ov v.out,mapA 3 3 wb nw (cH v.wi),mapA 3 4 cb nc (cZ v.ca),mapA 9 3 mb fr.names.length (kI fr.names),kC ms]):
  Sat wB w [Fr,CU bb nv tv main (fr::frs) v nw nc]:=by
 have h2:Sat wB w [Fr,ay bb (Ez nv tv main sv ov wb cb),wO sv ((fr,mb)::ms),sY ov v.out,mapA 3 3 wb nw (cH v.wi),mapA 3 4 cb nc (cZ v.ca),kC ((fr,mb)::ms)]:=Sat.pack (L:=[_,_,_,_,_,_]) h;have h3:=(h2.hZ (P:=cn (((fr,mb)::ms).map Prod.fst=fr::frs)) (λ_=>by show _= _;rw[List.map_cons,gT])).pick [0,7,1,2,6,3,4,5];exact(Sat.pack (L:=[Fr]) h3).cG (i:=1) rfl λ_ h=>⟨⟨sv,ov,wb,cb,(fr,mb)::ms⟩,h⟩
end
end
theorem AX(mb:Nat)(of:Int)(W:World): (Instr.field 195 (.agg #[.map (some mb),.int .i64 of]) 0).run prog W=.ok (.map (some mb)) W:=by
 simp[Instr.field,run_underlying underlying195,asAgg,go_sem]
theorem uV(mb:Nat)(of:Int)(W:World): (Instr.field 195 (.agg #[.map (some mb),.int .i64 of]) 1).run prog W=.ok (.int .i64 of) W:=by
 simp[Instr.field,run_underlying underlying195,asAgg,go_sem]
theorem JS(nd:Ty.Nd)(lv:Value)(W:World): (Instr.field 66 (.agg #[.int .i64 nd.kind,.int .i64 nd.a,.int .i64 nd.b,.int .i64 nd.c,lv,.string nd.text,.int .i64 nd.n,.int .i64 nd.ty,.int .i64 nd.pos]) 0).run prog W=.ok (.int .i64 nd.kind) W:=by
 simp[Instr.field,run_underlying underlying66,asAgg,go_sem]
theorem JD(nd:Ty.Nd)(lv:Value)(W:World): (Instr.field 66 (.agg #[.int .i64 nd.kind,.int .i64 nd.a,.int .i64 nd.b,.int .i64 nd.c,lv,.string nd.text,.int .i64 nd.n,.int .i64 nd.ty,.int .i64 nd.pos]) 4).run prog W=.ok lv W:=by
 simp[Instr.field,run_underlying underlying66,asAgg,go_sem]
theorem Bu(nd:Ty.Nd)(lv:Value)(W:World): (Instr.field 66 (.agg #[.int .i64 nd.kind,.int .i64 nd.a,.int .i64 nd.b,.int .i64 nd.c,lv,.string nd.text,.int .i64 nd.n,.int .i64 nd.ty,.int .i64 nd.pos]) 5).run prog W=.ok (.string nd.text) W:=by
 simp[Instr.field,run_underlying underlying66,asAgg,go_sem]
section
open Ty (Frm Vg)
theorem u9:Maps.Keyed prog 9:=Maps.string_keyed underlying9
theorem dn:Maps.Keyed prog 3:=Maps.int_keyed underlying3
section
variable {wB w:World} {Fr:As} {bb:Nat} {nv tv:Value} {pg:Ty.Pg} {main:Int} {fr:Frm} {frs:List Frm} {v:Vg} {nw nc:Nat}
theorem By(hP:PB wB nv tv pg)(hF:jH wB Fr){id:Nat}{nd:Ty.Nd}(hn:pg.ns[id]?=some nd)(hx:nd.text.size≤maxLen)(H:Sat wB w [Fr,CU bb nv tv main (fr::frs) v nw nc])
  (sL:fr.names.length≤1000000) (vL:nw≤1000000) (Xk:frs.length≤1000000) (ho: -1≤fr.of∧fr.of≤1000000) {R:EW}
  (hR:∀w',Sat wB w' [Fr,CU bb nv tv main (Ty.addN fr nd.text id::frs) (uW v id fr.of) (nw+1) nc]→R (.returned (.tuple #[])) w'):
  Calls prog 286 #[.pointer (some ⟨bb,0,none⟩),.int .i64 (id:Nat)] w R:=by
 have HR:=qh hR;have HF:=qh hF;have bm:id<pg.ns.length:=by
  rcases Nat.lt_or_ge id pg.ns.length with h|h
  ·exact h
  ·rw[List.getElem?_eq_none h]at hn;cases hn
 have hN:pg.ns.length≤1200:=hP.ok.kO;have eE:=qh (λ(w1:World)(hb:Below wB.heap.size wB w1) h0 gB R hR=>dC (w:=w1) (bb:=bb) (R:=R) hP hb hn h0 gB hR);obtain⟨sv,ov,wb,cb,mb,ms,gT,h1⟩:=H.y_;have xZ:ms.length≤1000000:=by rw[←gT,List.length_map]at Xk;exact Xk
 obtain⟨g,cap,rfl,hg,d0,d1⟩:=ud (h1.row 2 rfl);have c3:=h1.cell 1 rfl 3 rfl;have gB:=h1.lt 1 rfl;have H1:=qh h1;have Ls:=qh gT;clear hR hF H h1 gT Xk hP hn;have f0:=AX mb fr.of;have f1:=uV mb fr.of;have f5:=Bu nd;go_in;go_wp2_with fail;refine qq c3 d0 d1 gB hg xZ (λw1 df=>?_);have h2:=H1.o.below df;have k0:=h2.cell 1 rfl 0 rfl;have QO:=h2.lt 1 rfl;have H2:=qh h2;clear c3 d0 d1 hg df h2 H1;go_wp2_with fail;refine eE.o w1 (HF.o _ _ 0 H2.o rfl) k0 QO _ (λlv w2 aI hl=>?_);have h3:=H2.o.below aI;obtain⟨D,hD,mF⟩:=h3.nZ 6 rfl;have H3:=qh h3;have HD:=qh hD;have Yr:=qh mF;clear h3 hD mF H2 aI hl k0;unfold aK;go_wp2_with(at_mapUpdate;go_loud(refine wpList_mapUpdate_own _ rfl _ _ _ 193 rfl 9 3 u9 underlying193 _ mb _ D (by rfl) HD.o (by unfold maxLen;omega) (.string nd.text) (.int .i64 (id:Nat)) _ (by rfl) (by rfl) (Go.WideMaps.keyOf_string_mk underlying9 hx) _ [] (plainElem_int underlying3 (WalkArith.wf_i64 (by omega))) ?_));intro w3 eA dU;have h4:=H3.o.tF 6 rfl dU eA (Ψ:=kI (fr.names++[(nd.text,id)])) (Dz Yr.o nd.text id);obtain⟨g,cap,e,hg,d0,d1⟩:=ud (h4.row 2 rfl);cases e;have c3:=h4.cell 1 rfl 3 rfl;have c5:=h4.cell 1 rfl 5 rfl;have Qc:=h4.lt 1 rfl;have H4:=qh h4;clear h4 eA dU HD Yr H3;have HW:Hq ((Lit.int .i64 (id:Nat)).wf=true∧(Lit.int .i64 fr.of).wf=true):=⟨WalkArith.wf_i64 (by omega),WalkArith.wf_i64 (by omega)⟩
 go_wp2_with fail;go_region_held3(λw'=>w'.cell? ⟨bb,5,none⟩=some (.map (some wb))) (go_keep)
  ((go_at_call 217;refine qq (w:=w3.drew) c3 d0 d1 Qc hg xZ (λw5 dW=>?_);have h5:=H4.o.drew.below dW;have s5:w5.cell? ⟨bb,5,none⟩=some (.map (some wb)):=h5.cell 1 rfl 5 rfl;obtain⟨D2,RY,TG⟩:=h5.nZ 4 rfl;obtain⟨w6,sg,eD,dh⟩:=RY.update dn underlying102 (by unfold maxLen;omega) (Maps.keyOf_int_mk underlying3 HW.o.1) (plainElem_int underlying3 HW.o.2);have h6:=h5.tF 4 rfl dh eD (Ψ:=cH (λk=>if k=id then some fr.of else v.wi k)) (r' TG id fr.of);have s6:w6.cell? ⟨bb,5,none⟩=some (.map (some wb)):=h6.cell 1 rfl 5 rfl;have H6:=qh h6;clear h5 RY TG eD dh h6 dW))
 all_goals
  go_wp2_with fail;go_end0;refine HR.o _ ?_;have h7:=H6.o.cG (i:=2) rfl (Q:=wO (.slice (some ⟨g,0,none⟩) (ms.length+1) cap) ((Ty.addN fr nd.text id,mb)::ms)) (λ_ ha=>by
   unfold wO at ha⊢;simp only[List.reverse_cons,List.flatMap_append]at ha⊢;exact ha)
  have h8:Sat wB w6 [Fr,ay bb (Ez nv tv main (.slice (some ⟨g,0,none⟩) (ms.length+1) cap) ov wb cb),wO (.slice (some ⟨g,0,none⟩) (ms.length+1) cap) ((Ty.addN fr nd.text id,mb)::ms),sY ov (uW v id fr.of).out,mapA 3 3 wb (nw+1) (cH (uW v id fr.of).wi),mapA 3 4 cb nc (cZ (uW v id fr.of).ca),mapA 9 3 mb (Ty.addN fr nd.text id).names.length (kI (Ty.addN fr nd.text id).names),kC ms]:=by
   unfold Ty.addN;simp only[lzA,lzC,lzN];exact h7
  exact Sat.BS Ls.o h8
end
end
section
variable {P:Program} {Q:Exit→Act→World→Prop} {ops:Array Oper}
theorem yx(h: (ops.all λo=>match o.op with| .defer _=>false| _=>true)=true):∀(i:Nat)(o:Oper),ops[i]?=some o→∀c,o.op≠.defer c:=λi o hi c hc=>by
 rw[Array.all_eq_true]at h
 obtain⟨h1,h2⟩:=Array.getElem?_eq_some_iff.1 hi;have:=h i h1;rw[h2,hc]at this
 cases this
theorem Di(l n:Nat)(hQ:∀a w,¬Q .outgrown a w)(hd:∀(i:Nat)(o:Oper),ops[i]?=some o→∀c,o.op≠.defer c){i:Nat}{K K':Act→World→Prop}(hK:∀a w,K a w→K' a w){a:Act}{w:World}(h:wpOp P ops Q i K a w):wpOpIn (Fence.wide.inRound l) n P ops Q i K' a w:=by
 have hL:¬LetsOut Q:=λ⟨a,w,h⟩=>hQ a w h
 unfold wpOp at h;unfold wpOpIn;cases ho:ops[i]? with
 |none=>
  simp only[ho]at h⊢;exact hK _ _ h
 |some o=>
  simp only[ho]at h⊢;split
  ·rename_i hw;rw[if_pos hw]at h
   rcases h with h|⟨_,h⟩
   ·refine⟨λf _=>trivial,?_⟩;have e:o.semAt (Fence.wide.inRound l).round a.eval=execOp a.eval o:=Oper.semAt_some l _ _ (hd i o ho);rw[e];unfold Oper.wp at h;generalize(execOp a.eval o).run P w=r at*
    cases r with
    |ok x w'=>
     cases x<;>simp only[Oper.upon,Oper.uponIn]at h⊢
     case value v=>exact hK _ _ h
     case skip=>exact hK _ _ h
     case defer d=>exact hK _ _ h
     case enter f args=>
      refine⟨λhh=>(by cases hh),CallsIn.inRound l (callsIn_wide.2 (Calls.mono h λe Mq he=>?_))⟩;cases e with
      |returned v=>exact hK _ _ he
      |panicked c=>exact he
      |outgrown=>exact he
     case row row args=>
      refine⟨λhh=>(by cases hh),λc cs _=>?_⟩;obtain⟨v,Mq,hr,hs⟩:=h c cs;exact⟨v,Mq,hK _ _ hr,stepsIn_wide.2 hs⟩
    |halt x w'=>
     cases x<;>simp only[Oper.upon,Oper.uponIn]at h⊢
     case panic v=>exact h
   ·exact absurd h hL
  ·rename_i hw;rw[if_neg hw]at h
   exact⟨λf _=>trivial,hK _ _ h⟩
theorem sn(l n:Nat)(hQ:∀a w,¬Q .outgrown a w)(hd:∀(i:Nat)(o:Oper),ops[i]?=some o→∀c,o.op≠.defer c)(md:Region.Mode):∀(fuel:Nat)(listed:Array Bool)(a:Act)(w:World),wpAny P md ops Q fuel listed a w→wpAnyIn (Fence.wide.inRound l) n P md ops Q fuel listed a w
 |0,_,_,_,h=>h
 |fuel+1,_,_,_,h=>⟨h.1,λi hi=>Di l n hQ hd (λa w h=>sn l n hQ hd md fuel _ a w h) (h.2 i hi)⟩
theorem sS{md:Region.Mode}{S:World→Prop}(i:Nat){oi:Oper}(v:Value){fuel:Nat}{listed:Array Bool}{a:Act}{w:World}(hi:ops[i]?=some oi)(hb: (Region.noSelect ops&&(Region.free md ops listed i&&(Region.ready md ops listed).contains i))=true)
  (hQ:∀c a w,Q (.panic c) (a.put oi.dst v) w→Q (.panic c) a w) (hw:Region.wanted oi (yielded ops a.tmps)=true) (hy:∀w,S w→(execOp a.eval oi).run P w=.ok (.value v) w) (hS:S w)
  (h:wpAnyH P md ops Q S fuel (listed.setIfInBounds i true) (a.put oi.dst v) w):wpAnyH P md ops Q S (fuel+1) listed a w:=by
 simp only[Bool.and_eq_true]at hb;exact wpAnyH_take hi hb.1 hb.2.1 hb.2.2 hQ (.inl ⟨hw,hy⟩) hS h
theorem mT{md:Region.Mode}{S:World→Prop}(i:Nat){oi:Oper}{v:Value}{fuel:Nat}{listed:Array Bool}{a a':Act}{w:World}(h:wpAnyH P md ops Q S fuel (listed.setIfInBounds i true) a' w)(hi:ops[i]?=some oi:=by rfl)(hb: (Region.noSelect ops&&(Region.free md ops listed i&&(Region.ready md ops listed).contains i))=true:=by kernel_rfl)
 (hQ:∀c a w,Q (.panic c) (a.put oi.dst v) w→Q (.panic c) a w:=by exact λ_ _ _ h=>h) (hw:Region.wanted oi (yielded ops a.tmps)=true:=by rfl) (hy:∀w,S w→(execOp a.eval oi).run P w=.ok (.value v) w:=by intro w' dN;(try dsimp only at dN);go_simp;with_reducible rfl) (hS:S w:=by assumption) (ha:a.put oi.dst v=a':=by simp only[Act.put,List.setIfInBounds_toArray,List.set_cons_zero,List.set_cons_succ];rfl):wpAnyH P md ops Q S (fuel+1) listed a w:=by
 subst ha;exact sS i v hi hb hQ hw hy hS h
theorem H_{md:Region.Mode}{S:World→Prop}(i:Nat){oi:Oper}{fuel:Nat}{listed:Array Bool}{a a':Act}{w:World}(h:wpAnyH P md ops Q S fuel (listed.setIfInBounds i true) a' w)(hi:ops[i]?=some oi:=by rfl)(hb: (Region.noSelect ops&&(Region.free md ops listed i&&(Region.ready md ops listed).contains i))=true:=by kernel_rfl)
 (hQ:∀c a w,Q (.panic c) (a.put oi.dst undef) w→Q (.panic c) a w:=by exact λ_ _ _ h=>h) (hw:Region.wanted oi (yielded ops a.tmps)=false:=by kernel_rfl) (hS:S w:=by assumption) (ha:a.put oi.dst undef=a':=by simp only[Act.put,List.setIfInBounds_toArray,List.set_cons_zero,List.set_cons_succ];rfl):wpAnyH P md ops Q S (fuel+1) listed a w:=by
 subst ha;simp only[Bool.and_eq_true]at hb;exact wpAnyH_take hi hb.1 hb.2.1 hb.2.2 hQ (.inr ⟨hw,rfl⟩) hS h
theorem iA{l n id:Nat}{S:World→Prop}{a:Act}{w:World}(hm:P.follows .mixedOrders=true)(hQ:∀a w,¬Q .outgrown a w)(hd:∀(i:Nat)(o:Oper),ops[i]?=some o→∀c,o.op≠.defer c)
  (h:wpAnyH P .any ops Q S ops.size (Array.replicate ops.size false) a w.drew): (Code.region id ops true).wpIn (Fence.wide.inRound l) n P Q a w:=
 wpIn_region_any hm (sn l n hQ hd _ _ _ _ _ (wpAny_of_held _ _ _ _ h))
end
section
variable {w:World} {a b fn ps:Nat} {c ty:Int} {l:List Nat} {tx:BA} {lv:Value}
theorem Dd{R:EW}(hR:∀v w',Sat w w' [bE w,jM ⟨10,a,b,c,l,tx,fn,ty,ps⟩ lv v l]→R (.returned v) w'):
  Calls prog 157 #[aK ⟨10,a,b,c,l,tx,fn,ty,ps⟩ lv] w R:=by
 have h1:=((Sat.fw w).aU (aD ⟨10,a,b,c,l,tx,fn,ty,ps⟩ lv)).hZ (P:=jM ⟨10,a,b,c,l,tx,fn,ty,ps⟩ lv lv l) (λ_=>.inl ⟨rfl,rfl⟩);have HR:=qh (hR _ _ h1);clear hR h1;dsimp only[aK]at*
 go_in;go_wp2_with fail;exact HR.o
theorem CZ{R:EW}(hR:∀v w',Sat w w' [bE w,jM ⟨11,a,b,c,l,tx,fn,ty,ps⟩ lv v l]→R (.returned v) w'):
  Calls prog 157 #[aK ⟨11,a,b,c,l,tx,fn,ty,ps⟩ lv] w R:=by
 have h1:=((Sat.fw w).aU (aD ⟨11,a,b,c,l,tx,fn,ty,ps⟩ lv)).hZ (P:=jM ⟨11,a,b,c,l,tx,fn,ty,ps⟩ lv lv l) (λ_=>.inl ⟨rfl,rfl⟩);have HR:=qh (hR _ _ h1);clear hR h1;dsimp only[aK]at*
 go_in;go_wp2_with fail;exact HR.o
theorem Gx{R:EW}(hR:∀v w',Sat w w' [bE w,jM ⟨1,a,b,c,l,tx,fn,ty,ps⟩ lv v []]→R (.returned v) w'):
  Calls prog 157 #[aK ⟨1,a,b,c,l,tx,fn,ty,ps⟩ lv] w R:=by
 have h1:=(((Sat.fw w).aU (aD ⟨1,a,b,c,l,tx,fn,ty,ps⟩ lv)).nil 3 1).cG (i:=1) rfl (Q:=jM ⟨1,a,b,c,l,tx,fn,ty,ps⟩ lv (.slice none 0 0) []) (λ_ h=>.inr h);have HR:=qh (hR _ _ h1);clear hR h1;dsimp only[aK]at*
 go_in;go_wp2_with fail;exact HR.o
theorem Gv{R:EW}(hR:∀v w',Sat w w' [bE w,jM ⟨2,a,b,c,l,tx,fn,ty,ps⟩ lv v []]→R (.returned v) w'):
  Calls prog 157 #[aK ⟨2,a,b,c,l,tx,fn,ty,ps⟩ lv] w R:=by
 have h1:=(((Sat.fw w).aU (aD ⟨2,a,b,c,l,tx,fn,ty,ps⟩ lv)).nil 3 1).cG (i:=1) rfl (Q:=jM ⟨2,a,b,c,l,tx,fn,ty,ps⟩ lv (.slice none 0 0) []) (λ_ h=>.inr h);have HR:=qh (hR _ _ h1);clear hR h1;dsimp only[aK]at*
 go_in;go_wp2_with fail;exact HR.o
theorem GC{R:EW}(hR:∀v w',Sat w w' [bE w,jM ⟨3,a,b,c,l,tx,fn,ty,ps⟩ lv v []]→R (.returned v) w'):
  Calls prog 157 #[aK ⟨3,a,b,c,l,tx,fn,ty,ps⟩ lv] w R:=by
 have h1:=(((Sat.fw w).aU (aD ⟨3,a,b,c,l,tx,fn,ty,ps⟩ lv)).nil 3 1).cG (i:=1) rfl (Q:=jM ⟨3,a,b,c,l,tx,fn,ty,ps⟩ lv (.slice none 0 0) []) (λ_ h=>.inr h);have HR:=qh (hR _ _ h1);clear hR h1;dsimp only[aK]at*
 go_in;go_wp2_with fail;exact HR.o
theorem GG{R:EW}(hR:∀v w',Sat w w' [bE w,jM ⟨4,a,b,c,l,tx,fn,ty,ps⟩ lv v []]→R (.returned v) w'):
  Calls prog 157 #[aK ⟨4,a,b,c,l,tx,fn,ty,ps⟩ lv] w R:=by
 have h1:=(((Sat.fw w).aU (aD ⟨4,a,b,c,l,tx,fn,ty,ps⟩ lv)).nil 3 1).cG (i:=1) rfl (Q:=jM ⟨4,a,b,c,l,tx,fn,ty,ps⟩ lv (.slice none 0 0) []) (λ_ h=>.inr h);have HR:=qh (hR _ _ h1);clear hR h1;dsimp only[aK]at*
 go_in;go_wp2_with fail;exact HR.o
theorem Gh{R:EW}(hR:∀v w',Sat w w' [bE w,jM ⟨9,a,b,c,l,tx,fn,ty,ps⟩ lv v [a,b]]→R (.returned v) w'):
  Calls prog 157 #[aK ⟨9,a,b,c,l,tx,fn,ty,ps⟩ lv] w R:=by
 have h1:=(((Sat.fw w).aU (aD ⟨9,a,b,c,l,tx,fn,ty,ps⟩ lv)).aj (.cells #[.int .i64 a,.int .i64 b] 3) (w.heap.size+1)).cG (i:=1) rfl (Q:=jM ⟨9,a,b,c,l,tx,fn,ty,ps⟩ lv (.slice (some ⟨w.heap.size+1,0,none⟩) 2 2) [a,b]) (λ_ h=>.inr (ch h rfl (by simp[maxLen]) (by simp[aS])));have HR:=qh (hR _ _ h1);clear hR h1;dsimp only[aK]at*
 go_in;go_wp2_with fail;exact HR.o
theorem CM{R:EW}(hR:∀v w',Sat w w' [bE w,jM ⟨12,a,b,c,l,tx,fn,ty,ps⟩ lv v [a,b]]→R (.returned v) w'):
  Calls prog 157 #[aK ⟨12,a,b,c,l,tx,fn,ty,ps⟩ lv] w R:=by
 have h1:=(((Sat.fw w).aU (aD ⟨12,a,b,c,l,tx,fn,ty,ps⟩ lv)).aj (.cells #[.int .i64 a,.int .i64 b] 3) (w.heap.size+1)).cG (i:=1) rfl (Q:=jM ⟨12,a,b,c,l,tx,fn,ty,ps⟩ lv (.slice (some ⟨w.heap.size+1,0,none⟩) 2 2) [a,b]) (λ_ h=>.inr (ch h rfl (by simp[maxLen]) (by simp[aS])));have HR:=qh (hR _ _ h1);clear hR h1;dsimp only[aK]at*
 go_in;go_wp2_with fail;exact HR.o
theorem B4{R:EW}(hR:∀v w',Sat w w' [bE w,jM ⟨19,a,b,c,l,tx,fn,ty,ps⟩ lv v [a,b]]→R (.returned v) w'):
  Calls prog 157 #[aK ⟨19,a,b,c,l,tx,fn,ty,ps⟩ lv] w R:=by
 have h1:=(((Sat.fw w).aU (aD ⟨19,a,b,c,l,tx,fn,ty,ps⟩ lv)).aj (.cells #[.int .i64 a,.int .i64 b] 3) (w.heap.size+1)).cG (i:=1) rfl (Q:=jM ⟨19,a,b,c,l,tx,fn,ty,ps⟩ lv (.slice (some ⟨w.heap.size+1,0,none⟩) 2 2) [a,b]) (λ_ h=>.inr (ch h rfl (by simp[maxLen]) (by simp[aS])));have HR:=qh (hR _ _ h1);clear hR h1;dsimp only[aK]at*
 go_in;go_wp2_with fail;exact HR.o
theorem Dn{R:EW}(hR:∀v w',Sat w w' [bE w,jM ⟨23,a,b,c,l,tx,fn,ty,ps⟩ lv v [a,b]]→R (.returned v) w'):
  Calls prog 157 #[aK ⟨23,a,b,c,l,tx,fn,ty,ps⟩ lv] w R:=by
 have h1:=(((Sat.fw w).aU (aD ⟨23,a,b,c,l,tx,fn,ty,ps⟩ lv)).aj (.cells #[.int .i64 a,.int .i64 b] 3) (w.heap.size+1)).cG (i:=1) rfl (Q:=jM ⟨23,a,b,c,l,tx,fn,ty,ps⟩ lv (.slice (some ⟨w.heap.size+1,0,none⟩) 2 2) [a,b]) (λ_ h=>.inr (ch h rfl (by simp[maxLen]) (by simp[aS])));have HR:=qh (hR _ _ h1);clear hR h1;dsimp only[aK]at*
 go_in;go_wp2_with fail;exact HR.o
theorem C3(hc:0≤c){R:EW}(hR:∀v w',Sat w w' [bE w,jM ⟨20,a,b,c,l,tx,fn,ty,ps⟩ lv v [a,b,c.toNat]]→R (.returned v) w'):
  Calls prog 157 #[aK ⟨20,a,b,c,l,tx,fn,ty,ps⟩ lv] w R:=by
 have TB: ((c.toNat:Nat):Int)=c:=by omega
 have h1:=(((Sat.fw w).aU (aD ⟨20,a,b,c,l,tx,fn,ty,ps⟩ lv)).aj (.cells #[.int .i64 a,.int .i64 b,.int .i64 c] 3) (w.heap.size+1)).cG (i:=1) rfl (Q:=jM ⟨20,a,b,c,l,tx,fn,ty,ps⟩ lv (.slice (some ⟨w.heap.size+1,0,none⟩) 3 3) [a,b,c.toNat]) (λ_ h=>.inr (ch h rfl (by simp[maxLen]) (by simp[aS,TB])));have HR:=qh (hR _ _ h1);clear hR h1;dsimp only[aK]at*
 go_in;go_wp2_with fail;exact HR.o
theorem Ga{R:EW}(hR:∀v w',Sat w w' [bE w,jM ⟨8,a,b,c,l,tx,fn,ty,ps⟩ lv v [a]]→R (.returned v) w'):
  Calls prog 157 #[aK ⟨8,a,b,c,l,tx,fn,ty,ps⟩ lv] w R:=by
 have h1:=(((Sat.fw w).aU (aD ⟨8,a,b,c,l,tx,fn,ty,ps⟩ lv)).aj (.cells #[.int .i64 a] 3) (w.heap.size+1)).cG (i:=1) rfl (Q:=jM ⟨8,a,b,c,l,tx,fn,ty,ps⟩ lv (.slice (some ⟨w.heap.size+1,0,none⟩) 1 1) [a]) (λ_ h=>.inr (ch h rfl (by simp[maxLen]) (by simp[aS])));have HR:=qh (hR _ _ h1);clear hR h1;dsimp only[aK]at*
 go_in;go_wp2_with fail;exact HR.o
theorem Cg{R:EW}(hR:∀v w',Sat w w' [bE w,jM ⟨13,a,b,c,l,tx,fn,ty,ps⟩ lv v [a]]→R (.returned v) w'):
  Calls prog 157 #[aK ⟨13,a,b,c,l,tx,fn,ty,ps⟩ lv] w R:=by
 have h1:=(((Sat.fw w).aU (aD ⟨13,a,b,c,l,tx,fn,ty,ps⟩ lv)).aj (.cells #[.int .i64 a] 3) (w.heap.size+1)).cG (i:=1) rfl (Q:=jM ⟨13,a,b,c,l,tx,fn,ty,ps⟩ lv (.slice (some ⟨w.heap.size+1,0,none⟩) 1 1) [a]) (λ_ h=>.inr (ch h rfl (by simp[maxLen]) (by simp[aS])));have HR:=qh (hR _ _ h1);clear hR h1;dsimp only[aK]at*
 go_in;go_wp2_with fail;exact HR.o
theorem DF{R:EW}(hR:∀v w',Sat w w' [bE w,jM ⟨14,a,b,c,l,tx,fn,ty,ps⟩ lv v [a]]→R (.returned v) w'):
  Calls prog 157 #[aK ⟨14,a,b,c,l,tx,fn,ty,ps⟩ lv] w R:=by
 have h1:=(((Sat.fw w).aU (aD ⟨14,a,b,c,l,tx,fn,ty,ps⟩ lv)).aj (.cells #[.int .i64 a] 3) (w.heap.size+1)).cG (i:=1) rfl (Q:=jM ⟨14,a,b,c,l,tx,fn,ty,ps⟩ lv (.slice (some ⟨w.heap.size+1,0,none⟩) 1 1) [a]) (λ_ h=>.inr (ch h rfl (by simp[maxLen]) (by simp[aS])));have HR:=qh (hR _ _ h1);clear hR h1;dsimp only[aK]at*
 go_in;go_wp2_with fail;exact HR.o
theorem Dt{R:EW}(hR:∀v w',Sat w w' [bE w,jM ⟨15,a,b,c,l,tx,fn,ty,ps⟩ lv v [a]]→R (.returned v) w'):
  Calls prog 157 #[aK ⟨15,a,b,c,l,tx,fn,ty,ps⟩ lv] w R:=by
 have h1:=(((Sat.fw w).aU (aD ⟨15,a,b,c,l,tx,fn,ty,ps⟩ lv)).aj (.cells #[.int .i64 a] 3) (w.heap.size+1)).cG (i:=1) rfl (Q:=jM ⟨15,a,b,c,l,tx,fn,ty,ps⟩ lv (.slice (some ⟨w.heap.size+1,0,none⟩) 1 1) [a]) (λ_ h=>.inr (ch h rfl (by simp[maxLen]) (by simp[aS])));have HR:=qh (hR _ _ h1);clear hR h1;dsimp only[aK]at*
 go_in;go_wp2_with fail;exact HR.o
theorem CV{R:EW}(hR:∀v w',Sat w w' [bE w,jM ⟨21,a,b,c,l,tx,fn,ty,ps⟩ lv v [a]]→R (.returned v) w'):
  Calls prog 157 #[aK ⟨21,a,b,c,l,tx,fn,ty,ps⟩ lv] w R:=by
 have h1:=(((Sat.fw w).aU (aD ⟨21,a,b,c,l,tx,fn,ty,ps⟩ lv)).aj (.cells #[.int .i64 a] 3) (w.heap.size+1)).cG (i:=1) rfl (Q:=jM ⟨21,a,b,c,l,tx,fn,ty,ps⟩ lv (.slice (some ⟨w.heap.size+1,0,none⟩) 1 1) [a]) (λ_ h=>.inr (ch h rfl (by simp[maxLen]) (by simp[aS])));have HR:=qh (hR _ _ h1);clear hR h1;dsimp only[aK]at*
 go_in;go_wp2_with fail;exact HR.o
theorem CY{R:EW}(hR:∀v w',Sat w w' [bE w,jM ⟨24,a,b,c,l,tx,fn,ty,ps⟩ lv v [a]]→R (.returned v) w'):
  Calls prog 157 #[aK ⟨24,a,b,c,l,tx,fn,ty,ps⟩ lv] w R:=by
 have h1:=(((Sat.fw w).aU (aD ⟨24,a,b,c,l,tx,fn,ty,ps⟩ lv)).aj (.cells #[.int .i64 a] 3) (w.heap.size+1)).cG (i:=1) rfl (Q:=jM ⟨24,a,b,c,l,tx,fn,ty,ps⟩ lv (.slice (some ⟨w.heap.size+1,0,none⟩) 1 1) [a]) (λ_ h=>.inr (ch h rfl (by simp[maxLen]) (by simp[aS])));have HR:=qh (hR _ _ h1);clear hR h1;dsimp only[aK]at*
 go_in;go_wp2_with fail;exact HR.o
theorem CN{R:EW}(hR:∀v w',Sat w w' [bE w,jM ⟨25,a,b,c,l,tx,fn,ty,ps⟩ lv v [a]]→R (.returned v) w'):
  Calls prog 157 #[aK ⟨25,a,b,c,l,tx,fn,ty,ps⟩ lv] w R:=by
 have h1:=(((Sat.fw w).aU (aD ⟨25,a,b,c,l,tx,fn,ty,ps⟩ lv)).aj (.cells #[.int .i64 a] 3) (w.heap.size+1)).cG (i:=1) rfl (Q:=jM ⟨25,a,b,c,l,tx,fn,ty,ps⟩ lv (.slice (some ⟨w.heap.size+1,0,none⟩) 1 1) [a]) (λ_ h=>.inr (ch h rfl (by simp[maxLen]) (by simp[aS])));have HR:=qh (hR _ _ h1);clear hR h1;dsimp only[aK]at*
 go_in;go_wp2_with fail;exact HR.o
theorem GM(hl:w.ownsRow 0 3 1 lv l.length (l.map aS))(BE:l.length≤1000000){R:EW}(hR:∀v w',Sat w w' [bE w,jM ⟨7,a,b,c,l,tx,fn,ty,ps⟩ lv v (a::l)]→R (.returned v) w'):
  Calls prog 157 #[aK ⟨7,a,b,c,l,tx,fn,ty,ps⟩ lv] w R:=by
 obtain⟨j0,tj,qP,rJ,rI⟩:=info_parts jo;have HR:=qh hR;have h1:=(((Sat.fw w).aU (aD ⟨7,a,b,c,l,tx,fn,ty,ps⟩ lv)).aj (.cells #[.int .i64 a] 3) (w.heap.size+1)).cG (i:=1) rfl (Q:=eZ (.slice (some ⟨w.heap.size+1,0,none⟩) 1 1) [a]) (λ_ h=>ch h rfl (by simp[maxLen]) rfl);rcases hl.2 with⟨rfl,h0⟩|⟨g,cap,cur,rfl,Zn,acq,hcap,Hl,XO,Cm⟩
 ·have yS:l=[]:=List.length_eq_zero_iff.1 (by omega);subst yS;have H1:=qh h1;clear hR h1 hl h0;dsimp only[aK]at*
  go_in;go_wp2_with(at_builtin;go_loud(refine wpList_append_own_none rfl (.tmp 9) (.tmp 11) 39 rfl 0 3 j0 1 underlying39 tj _ 1 [aS a] (by rfl) (H1.o.row 1 rfl) (by rfl) ?_));go_wp2_with fail;exact HR.o _ _ (H1.o.cG (i:=1) rfl λ_ h=>.inr h)
 ·have bJ:=(hl.alloc (aD ⟨7,a,b,c,l,tx,fn,ty,ps⟩ (.slice (some ⟨g,0,none⟩) l.length cap))).alloc (.cells #[.int .i64 a] 3);have H1:=qh h1;have dG:=qh bJ;have U9:∀X:Obj,((w.alloc X).alloc (.cells #[.int .i64 a] 3)).heap[w.heap.size+1]?=some (.cells #[.int .i64 a] 3):=λX=>by
   rw[show w.heap.size+1=(w.alloc X).heap.size by simp];exact heap_alloc_new _ _
  clear hR h1 hl bJ XO Cm acq;dsimp only[aK]at*
  go_in;go_wp2_with(at_builtin;go_loud(refine wpList_append_own _ rfl (.tmp 9) (.tmp 11) 39 rfl (w.heap.size+1) 3 j0 _ 1 8 underlying39 tj qP rJ rI rfl (by decide) _ 1 [aS a] (by rfl) ?c0 ⟨g,0,none⟩ l.length cap (l.map aS) (by rfl) (by simp) (World.ownsRow.cells dG.o rfl) (by simp[aS,Value.oneCell']) (by unfold maxLen;omega) (by omega) (by simp) ?_))
  case c0=>exact⟨by simp,.inr ⟨w.heap.size+1,1,#[.int .i64 a],rfl,nR _,U9 _,nR _,by unfold maxLen;omega,rfl,rfl⟩⟩
  intro v' w' RN O9 _;go_wp2_with fail;refine HR.o v' _ ?_;have hb:Below w.heap.size w w':=((((bR w.heap.size w).alloc (nR _) _).alloc (by simp) _).grown O9 (by simp;omega) (λk hk=>by simp[Value.ownBlock]at hk;omega))
  have h2:=(Sat.fw w).newRow hb RN (by omega);exact h2.cG (i:=1) rfl λ_ h=>.inr (by
   unfold eZ;rw[List.length_cons,show l.length+1=1+l.length by omega,List.map_cons];exact h)
end
theorem se{w:World}{nd:Ty.Nd}{lv:Value}(hk:nd.kind≠5∧nd.kind≠6∧nd.kind≠16∧nd.kind≠17∧nd.kind≠18∧nd.kind≠22∧nd.kind≠26)(h1:1≤nd.kind∧nd.kind≤26)(hc:nd.kind=20→0≤nd.c)(hl:w.ownsRow 0 3 1 lv nd.list.length (nd.list.map aS))(BE:nd.list.length≤1000000){R:EW}
  (hR:∀v w',Sat w w' [bE w,jM nd lv v (aC nd)]→R (.returned v) w'):Calls prog 157 #[aK nd lv] w R:=by
 obtain⟨kd,a,b,c,l,tx,fn,ty,ps⟩:=nd;dsimp only at h1 hc hl BE hk;have:kd=1∨kd=2∨kd=3∨kd=4∨kd=7∨kd=8∨kd=9∨kd=10∨kd=11∨kd=12∨kd=13∨kd=14∨kd=15∨kd=19∨kd=20∨kd=21∨kd=23∨kd=24∨kd=25:=by omega
 rcases this with rfl|rfl|rfl|rfl|rfl|rfl|rfl|rfl|rfl|rfl|rfl|rfl|rfl|rfl|rfl|rfl|rfl|rfl|rfl
 ·exact Gx hR
 ·exact Gv hR
 ·exact GC hR
 ·exact GG hR
 ·exact GM hl BE hR
 ·exact Ga hR
 ·exact Gh hR
 ·exact Dd hR
 ·exact CZ hR
 ·exact CM hR
 ·exact Cg hR
 ·exact DF hR
 ·exact Dt hR
 ·exact B4 hR
 ·exact C3 (hc rfl) hR
 ·exact CV hR
 ·exact Dn hR
 ·exact CY hR
 ·exact CN hR
section
open Ty (Frm Vg aO)
abbrev eN:=List Frm→Vg→Except Ty.Ft (List Frm×Vg)
def dQ:List eN→eN
 |[],frs,v=>.ok (frs,v)
 |F::l,frs,v=>aO (F frs v) λr=>dQ l r.1 r.2
theorem lS(F:eN):∀(l:List eN)(frs:List Frm)(v:Vg),dQ (l++[F]) frs v=aO (dQ l frs v) λr=>F r.1 r.2
 |[],frs,v=>by
  show aO (F frs v) (λr=>.ok (r.1,r.2))=F frs v;cases F frs v<;>rfl
 |G::l,frs,v=>by
  show aO (G frs v) (λr=>dQ (l++[F]) r.1 r.2)=aO (aO (G frs v) λr=>dQ l r.1 r.2) λr=>F r.1 r.2
  rw[aM];congr 1;funext r;exact lS F l r.1 r.2
theorem AR:∀(l m:List eN)(frs:List Frm)(v:Vg),dQ (l++m) frs v=aO (dQ l frs v) λr=>dQ m r.1 r.2
 |[],_,_,_=>rfl
 |F::l,m,frs,v=>by
  show aO (F frs v) (λr=>dQ (l++m) r.1 r.2)=aO (aO (F frs v) λr=>dQ l r.1 r.2) λr=>dQ m r.1 r.2
  rw[aM];congr 1;funext r;exact AR l m r.1 r.2
structure OkS(c:Nat)(frs:List Frm)(v:Vg):Prop where
 ne:frs≠[]
 len:frs.length≤c
 names:∀fr∈frs,fr.names.length≤c
 OI:∀fr∈frs,-1≤fr.of∧fr.of≤1000000
 out:v.out.length≤c
theorem OkS.mono{c d:Nat}{frs:List Frm}{v:Vg}(h:OkS c frs v)(hd:c≤d):OkS d frs v:=
 ⟨h.ne,nT h.len hd,λfr hf=>nT (h.names fr hf) hd,h.OI,nT h.out hd⟩
def pJ(bb:Nat)(nv tv:Value)(main:Int)(c:Nat)(frs:List Frm)(v:Vg):As:=cA λp:Nat×Nat=>ah [cn (p.1≤c∧p.2≤c∧OkS c frs v),CU bb nv tv main frs v p.1 p.2]
section
variable {wB w:World} {Fr:As} {bb:Nat} {nv tv:Value} {pg:Ty.Pg} {main:Int} {frs:List Frm} {v:Vg} {c:Nat}
theorem ak.Sat.iL(h:Sat wB w [Fr,pJ bb nv tv main c frs v]):∃nw nc,nw≤c∧nc≤c∧OkS c frs v∧Sat wB w [Fr,CU bb nv tv main frs v nw nc]:=by
 obtain⟨⟨nw,nc⟩,h⟩:=h.ex (i:=1) rfl;have h:=h.unpack (i:=1) rfl;have hp:nw≤c∧nc≤c∧OkS c frs v:=h.get (i:=1) rfl λ_ ha _=>ha
 exact⟨nw,nc,hp.1,hp.2.1,hp.2.2,h.pick [0,2]⟩
theorem ak.Sat.vd{nw nc:Nat}(h1:nw≤c)(h2:nc≤c)(h3:OkS c frs v)(h:Sat wB w [Fr,CU bb nv tv main frs v nw nc]):Sat wB w [Fr,pJ bb nv tv main c frs v]:=by
 have h4:=(h.hZ (P:=cn (nw≤c∧nc≤c∧OkS c frs v)) (λ_=>⟨h1,h2,h3⟩)).pick [0,2,1];exact(Sat.pack (L:=[Fr]) h4).cG (i:=1) rfl λ_ h=>⟨(nw,nc),h⟩
theorem ak.Sat.RV{d:Nat}(hd:c≤d)(h:Sat wB w [Fr,pJ bb nv tv main c frs v]):Sat wB w [Fr,pJ bb nv tv main d frs v]:=by
 obtain⟨nw,nc,h1,h2,h3,h4⟩:=h.iL;exact h4.vd (by omega) (by omega) (h3.mono hd)
def iO(wB:World)(nv tv:Value)(bb:Nat)(main:Int)(id:Nat)(k:Nat)(F:eN):Prop:=
 ∀(frs:List Frm)(v:Vg)(c:Nat)(w:World)(Fr:As),jH wB Fr→Sat wB w [Fr,pJ bb nv tv main c frs v]→c+k≤100000→∀R:EW,
  (∀dJ v' w',F frs v=.ok (dJ,v')→Sat wB w' [Fr,pJ bb nv tv main (c+k) dJ v']→R (.returned (.tuple #[])) w')→
  (∀f w',F frs v=.error f→Sat wB w' [Fr]→R (.panicked (aJ f)) w')→
  Calls prog 132 #[.pointer (some ⟨bb,0,none⟩),.int .i64 (id:Nat)] w R
def du(l:List (Nat×eN)):Nat:=(l.map Prod.fst).foldr (· + ·) 0
theorem Fv(l:List (Nat×eN)):∀{j:Nat}(h:j<l.length),du (l.take (j+1))=du (l.take j)+l[j].1:=by
 induction l with
 |nil=>intro j h;simp at h
 |cons p l ih=>
  intro j h;cases j with
  |zero=>simp[du]
  |succ j=>
   have:=ih (j:=j) (by simpa using h);unfold du at this⊢;simp only[List.take_succ_cons,List.map_cons,List.foldr_cons,List.getElem_cons_succ];omega
theorem MH(l:List (Nat×eN)):∀j,du (l.take j)≤du l:=by
 induction l with
 |nil=>intro j;simp[du]
 |cons p l ih=>
  intro j;cases j with
  |zero=>simp[du]
  |succ j=>
   have:=ih j;unfold du at this⊢;simp only[List.take_succ_cons,List.map_cons,List.foldr_cons];omega
theorem ox(hF:jH wB Fr){ids:List Nat}{cs:List (Nat×eN)}{lv:Value}(hlen:ids.length=cs.length)(hC:∀j(h1:j<ids.length)(h2:j<cs.length),iO wB nv tv bb main ids[j] cs[j].1 cs[j].2)
  (bJ:∀(w1:World)(L:List As)(i:Nat),Sat wB w1 L→L[i]?=some Fr→w1.ownsRow 0 3 1 lv ids.length (ids.map aS)) (hn:ids.length≤1000000) (H:Sat wB w [Fr,pJ bb nv tv main c frs v]) (hc:c+du cs≤100000) {R:EW}
  (aF:∀dJ v' w',dQ (cs.map Prod.snd) frs v=.ok (dJ,v')→Sat wB w' [Fr,pJ bb nv tv main (c+du cs) dJ v']→R (.returned (.tuple #[])) w')
  (av:∀f w',dQ (cs.map Prod.snd) frs v=.error f→Sat wB w' [Fr]→R (.panicked (aJ f)) w'):
  Calls prog 82 #[.pointer (some ⟨bb,0,none⟩),lv] w R:=by
 have aY:=qh aF;have aB:=qh av;have HF:=qh hF;have HC:=qh hC;have dG:=qh bJ;have HL:=qh hlen;have H1:=qh H;obtain⟨la,lc,rfl⟩:=ag (bJ w _ 0 H rfl);have LG:=qh hc;clear aF av hF hC bJ hlen H hc;go_in;go_wp2_with fail;go_loopw [8] (λi wr=>∃(j:Nat)(Fy:List Frm)(v1:Vg),i=.int .i64 j∧j≤ids.length∧Hq (dQ ((cs.map Prod.snd).take j) frs v=.ok (Fy,v1))∧Hq (Sat wB wr [Fr,pJ bb nv tv main (c+du (cs.take j)) Fy v1])) (λi _=>ids.length-(intOf i).toNat)
 case atStart=>exact⟨0,frs,v,rfl,Nat.zero_le _,rfl,H1.o⟩
 case round=>
  obtain⟨j,Fy,v1,rfl,hj,hE,hS⟩:=hrel;by_cases bm:j<ids.length
  ·obtain⟨gl,j9,e,mW,d0⟩:=ints_at (dG.o wr _ 0 hS.out rfl) j bm;cases e;have eh:j<cs.length:=by rw[←HL.o];exact bm
   have g_:=Fv cs eh;have hle:=MH cs (j+1);have Cm: (cs.map Prod.snd).take (j+1)=(cs.map Prod.snd).take j++[cs[j].2]:=by rw[List.take_succ_eq_append_getElem (by simpa using eh)];simp
   have zm:Hq (dQ ((cs.map Prod.snd).take (j+1)) frs v=cs[j].2 Fy v1):=by show _= _;rw[Cm,lS,hE.out];rfl
   have DE:=qh (HC.o j bm eh Fy v1 _ wr _ HF.o hS.out (by have:=LG.o;omega));have xF:=qh g_;have Uz:Hq (∀f,cs[j].2 Fy v1=.error f→dQ (cs.map Prod.snd) frs v=.error f):=λf hf=>by
    have h1:dQ ((cs.map Prod.snd).take (j+1)) frs v=.error f:=by rw[zm.o,hf]
    rw[←List.take_append_drop (j+1) (cs.map Prod.snd),AR,h1];rfl
   clear g_ hle Cm;generalize ids[j]=ij at*
   go_wp2_with fail;refine DE.o _ (λiM v2 w4 hq h4=>?_) (λf w4 hq h4=>?_)
   ·have fZ:Hq (dQ ((cs.map Prod.snd).take (j+1)) frs v=.ok (iM,v2)):=by show _= _;rw[zm.o,hq]
    have H4:=qh h4;clear h4 hq;go_wp2_with fail;go_roundw
    case rel=>exact⟨j+1,iM,v2,by go_num,by omega,fZ,by show Sat _ _ _;rw[xF.o,←Nat.add_assoc];exact H4.o⟩
    case measure=>simp[intOf];omega
   ·exact⟨rfl,aB.o f w4 (Uz.o f hq) h4⟩
  ·have ju:j=cs.length:=by have:=HL.o;omega
   have Dw:=hE.out;have h6:=hS.out;rw[ju,List.take_of_length_le (by simp)]at Dw
   rw[ju,List.take_of_length_le (Nat.le_refl _)]at h6
   have fZ:=qh Dw;have H6:=qh h6;clear Dw h6 ju;go_wp2_with fail;go_end0;exact aY.o _ _ _ fZ.o H6.o
end
def lH(x:BA)(id:Nat):List Frm→Vg→List Frm×Vg
 |[],v=>([],v)
 |fr::l,v=>(Ty.addN fr x id::l,uW v id fr.of)
theorem J'{c:Nat}{frs:List Frm}{v:Vg}{x:BA}{id:Nat}(h:OkS c frs v):OkS (c+1) (lH x id frs v).1 (lH x id frs v).2:=by
 cases frs with
 |nil=>exact absurd rfl h.ne
 |cons fr l=>
  refine⟨by simp[lH],by have:=h.len;simp[lH]at*;omega,λf hf=>?_,λf hf=>?_,nT h.out (by omega)⟩
  ·rcases List.mem_cons.1 hf with rfl|hf
   ·have:=h.names fr (by simp);simp[Ty.addN];omega
   ·have:=h.names f (by simp[hf]);omega
  ·rcases List.mem_cons.1 hf with rfl|hf
   ·exact h.OI fr (by simp)
   ·exact h.OI f (by simp[hf])
section
variable {wB w:World} {Fr:As} {bb:Nat} {nv tv:Value} {pg:Ty.Pg} {main:Int} {frs:List Frm} {v:Vg} {c:Nat}
theorem rH(hP:PB wB nv tv pg)(hF:jH wB Fr){id:Nat}{nd:Ty.Nd}(hn:pg.ns[id]?=some nd)(hx:nd.text.size≤maxLen)(H:Sat wB w [Fr,pJ bb nv tv main c frs v])(hc:c+1≤100000){R:EW}
  (hR:∀w',Sat wB w' [Fr,pJ bb nv tv main (c+1) (lH nd.text id frs v).1 (lH nd.text id frs v).2]→R (.returned (.tuple #[])) w'):
  Calls prog 286 #[.pointer (some ⟨bb,0,none⟩),.int .i64 (id:Nat)] w R:=by
 obtain⟨nw,nc,h1,h2,h3,h4⟩:=H.iL;cases frs with
 |nil=>exact absurd rfl h3.ne
 |cons fr l=>
  have sL:=h3.names fr (by simp);have hl:=h3.len;rw[List.length_cons]at hl
  exact By hP hF hn hx h4 (by omega) (by omega) (by omega) (h3.OI fr (by simp)) λw' h5=>hR w' (h5.vd (by omega) (by omega) (J' h3))
end
def xQ(p:Nat)(x:BA)(id:Nat)(fn:Bool)(G:eN):eN:=λfrs v=>
 match frs with
 |[]=>.ok ([],v)
 |fr::l=>if(Ty.e_ fr.names x).isSome then .error (6,p)else if fn then G (lH x id (fr::l) v).1 (lH x id (fr::l) v).2 else aO (G (fr::l) v) λr=>.ok (lH x id r.1 r.2)
section
variable {wB:World} {nv tv:Value} {pg:Ty.Pg} {bb:Nat} {main:Int}
theorem LY(hP:PB wB nv tv pg){id p b:Nat}{x:BA}{ty:Int}(hn:pg.ns[id]?=some {Ty.af 17 p with text:=x,ty:=ty,a:=b})(hx:x.size≤maxLen){nb:Ty.Nd}(sP:pg.ns[b]?=some nb){fn:Bool}(wU: (((nb.kind:Nat):Int)==6)=fn)
  {k:Nat} {G:eN} (C:iO wB nv tv bb main b k G) {frs:List Frm} {v:Vg} {c:Nat} {w:World} {Fr:As} (hF:jH wB Fr) (H:Sat wB w [Fr,pJ bb nv tv main c frs v]) (hc:c+(k+1)≤100000) {R:EW}
  (aF:∀dJ v' w',xQ p x id fn G frs v=.ok (dJ,v')→Sat wB w' [Fr,pJ bb nv tv main (c+(k+1)) dJ v']→R (.returned (.tuple #[])) w')
  (av:∀f w',xQ p x id fn G frs v=.error f→Sat wB w' [Fr]→R (.panicked (aJ f)) w'):
  Calls prog 215 #[.pointer (some ⟨bb,0,none⟩),.int .i64 (id:Nat)] w R:=by
 obtain⟨nw,nc,vL,vP,o9,h1⟩:=H.iL;obtain⟨fr,l,rfl⟩:∃fr l,frs=fr::l:=by
  cases frs with
  |nil=>exact absurd rfl o9.ne
  |cons fr l=>exact⟨fr,l,rfl⟩
 have aY:=qh aF;have aB:=qh av;have HF:=qh hF;have eE:=qh (λ(w1:World)(hb:Below wB.heap.size wB w1) h0 gB R hR=>dC (w:=w1) (bb:=bb) (R:=R) hP hb hn h0 gB hR);obtain⟨sv,ov,wb,cb,mb,ms,gT,h2⟩:=h1.y_;have k0:=h2.cell 1 rfl 0 rfl;have gB:=h2.lt 1 rfl;have H2:=qh h2;have Ls:=qh gT;clear aF av h2 h1 gT H;have f0:=λof=>AX mb of
 go_in;go_wp2_with fail;refine eE.o w (HF.o _ _ 0 H2.o rfl) k0 gB _ (λlv w2 aI hl=>?_);have h3:=H2.o.below aI;obtain⟨la,lc,rfl⟩:=ag hl;unfold aK;dsimp only[Ty.af];have h4:=h3.aj (aD ⟨17,b,0,0,[],x,0,ty,p⟩ (.slice la 0 lc)) w2.heap.size;have xZ:ms.length≤1000000:=by have:=o9.len;have:=congrArg List.length Ls.o;simp at*;omega
 obtain⟨g,cap,rfl,hg,d0,d1⟩:=ud (h4.row 2 rfl);have c3:=h4.cell 1 rfl 3 rfl;have p5:=h4.cell 8 rfl 5 rfl;have Qc:=h4.lt 1 rfl;have HZ:Hq (∀W:World,(zeroValue 3).run prog W=.ok (.int .i64 0) W):=λW=>by simp[zeroValue,go_sem];rfl
 have H4:=qh h4;clear h3 h4 aI hl H2 k0 gB;dsimp only at p5;go_wp2_with fail;go_region_held3(λw'=>w'.cell? ⟨w2.heap.size,5,none⟩=some (.string x)) (go_keep)
  ((go_at_call 217;refine qq (w:=(w2.alloc (aD ⟨17,b,0,0,[],x,0,ty,p⟩ (.slice la 0 lc))).drew) c3 d0 d1 Qc hg xZ (λw5 dW=>?_);have h5:=H4.o.drew.below dW;have s5:w5.cell? ⟨w2.heap.size,5,none⟩=some (.string x):=h5.cell 8 rfl 5 rfl;obtain⟨D,hD,mF⟩:=h5.nZ 6 rfl;obtain⟨u,ps,Oc,hu⟩:=hD.look_ok u9 underlying193 (HZ.o w5) (plainElem_int underlying3 (by decide)) (WideMaps.keyOf_string_mk underlying9 hx);obtain⟨cc,rfl,_,_⟩:=plainElem_int_inv underlying3 hu;rw[(mF.2 x).1]at Oc;have H5:=qh h5;clear h5 hD mF dW hu))
 all_goals
  have h6:Sat wB w5 [Fr,CU bb nv tv main (fr::l) v nw nc,ay w2.heap.size (aD ⟨17,b,0,0,[],x,0,ty,p⟩ (.slice la 0 lc))]:=by
   have h7:=(Sat.pack (L:=[_,_,_,_,_,_,_]) (M:=[Fr,ay w2.heap.size (aD ⟨17,b,0,0,[],x,0,ty,p⟩ (.slice la 0 lc))]) (H5.o.pick [1,2,3,4,5,6,7,0,8])).pick [7,0,1,2,3,4,5,6];exact(Sat.BS (Fr:=ah [Fr,ay w2.heap.size (aD ⟨17,b,0,0,[],x,0,ty,p⟩ (.slice la 0 lc))]) Ls.o h7).kJ
  have p8:=h6.cell 2 rfl 8 rfl;have p1:=h6.cell 2 rfl 1 rfl;dsimp only at p8 p1;have k0:=H5.o.cell 1 rfl 0 rfl;have Wt:=H5.o.lt 1 rfl;have H6:=qh h6;clear h6 H4 H5 Oc s5 c3 p5 d0 d1 hg;cases hq: (Ty.e_ fr.names x).isSome with
  |true=>
   have eH:=qh (aB.o (6,p) w5 (by unfold xQ;dsimp only;rw[hq];rfl) (H6.o.pick [0]));clear hq;go_wp2_with fail;refine ui (e:=6) (p:=p) ?_;exact⟨rfl,eH.o⟩
  |false=>
   have HQ:=qh hq;have HN:=qh hn;have V5:=qh o9;clear hq hn o9;go_wp2_with fail;refine dC hP (HF.o w5 _ 0 H6.o rfl) sP k0 Wt (λnu w6 zj Lx=>?_);have h7:=H6.o.below zj;have p1:=h7.cell 2 rfl 1 rfl;have fk:=JS nb nu;obtain⟨qT,sG,rfl⟩:=ag Lx;have h8:=(Sat.pack (L:=[_]) (M:=[Fr,ay w2.heap.size (aD ⟨17,b,0,0,[],x,0,ty,p⟩ (.slice la 0 lc))]) (h7.pick [1,0,2])).pick [1,0];have H8:=qh (h8.vd vL vP V5.o);have dq:=qh (HF.o.ah (M:=[ay w2.heap.size (aD ⟨17,b,0,0,[],x,0,ty,p⟩ (.slice la 0 lc))]));clear h7 h8 zj Lx H6 k0 p8;dsimp only at p1;unfold aK;cases fn with
   |true=>
    go_wp2_with fail;refine rH hP dq.o HN.o hx H8.o (by omega) (λw7 h9=>?_);have p1:=(h9.unpack (i:=0) rfl).cell 2 rfl 1 rfl;dsimp only at p1;have H9:=qh h9;clear h9;go_wp2_with fail;refine C _ _ _ w7 _ dq.o H9.o (by omega) _ (λdJ v' w8 kU dS=>?_) (λf w8 kU dS=>?_)
    ·have HG:=qh (aY.o dJ v' w8 (by unfold xQ;dsimp only;rw[HQ.o];exact kU) (by rw[show c+(k+1)=c+1+k by omega];exact dS.kJ.pick [0,1]));clear dS kU;go_wp2_with fail;go_end0;exact HG.o
    ·exact⟨rfl,aB.o f w8 (by unfold xQ;dsimp only;rw[HQ.o];exact kU) ((dS.unpack (i:=0) rfl).pick [0])⟩
   |false=>
    go_wp2_with fail;refine C _ _ _ w6 _ dq.o H8.o (by omega) _ (λdJ v' w8 kU dS=>?_) (λf w8 kU dS=>?_)
    ·have acM:=qh kU;have sr:=qh dS;clear dS kU;go_wp2_with fail;refine rH hP dq.o HN.o hx sr.o (by omega) (λw9 ln=>?_);have HG:=qh (aY.o _ _ w9 (by unfold xQ;dsimp only;rw[HQ.o];simp only[Bool.false_eq_true,if_false];rw[acM.o];rfl) (by rw[show c+(k+1)=c+k+1 by omega];exact ln.kJ.pick [0,1]));clear ln;go_wp2_with fail;go_end0;exact HG.o
    ·exact⟨rfl,aB.o f w8 (by unfold xQ;dsimp only;rw[HQ.o];simp only[Bool.false_eq_true,if_false];rw[kU];rfl) ((dS.unpack (i:=0) rfl).pick [0])⟩
end
end
end Go.Proofs.YtdlbhiaceheffabGreatDoor
