/- Maps as parts of memory: what they hold, in plain words. -/
import Derived.Maps.OwnSet
import Derived.Maps.OwnOps
import Derived.Maps.Ext
import Derived.StringKeys
import Derived.WalkSmall
import Derived.WalkArith
import Derived.RangeFuncCalls
import Derived.Deep.RegionHeld3
import Derived.OrdersIn
import Derived.TacticsIn
import Derived.Test.YtdlbhiaceheffabGreatDoorC19
set_option linter.all false
set_option maxRecDepth 100000
set_option maxHeartbeats 4000000
namespace Go.Proofs.YtdlbhiaceheffabGreatDoor
open Go Go.RowKit Ty Tok Prt Tryz Proofs.Tryz
section
open Go.Maps (Keyed)
open Go.WideElems (Fit rg)
abbrev Dm:=DataW Unit
def mapA(k e:TypeId)(b n:Nat)(Φ:Dm->Prop):As:=λh=>∃es clock,h b=some (.map es clock)/\Fit (H:=Unit) prog k (plainElem prog e) es clock/\es.size<=n/\Φ (.map ((es.toList.map (rg prog k (plainElem prog e))).foldr DataW.insert []))
section
variable {w0 w w':World} {L:List As} {k e:TypeId} {b n:Nat} {Φ:Dm->Prop}
theorem Prt.Sat.Ak(h:Sat w0 w L)(k e b:Nat)(hb:b=w.heap.size)(abP:Φ (.map [])):Sat w0 (w.alloc (.map #[] 0)) (L++[mapA k e b 0 Φ]):=by
 subst hb;refine h.new ((bR _ _).alloc (nR _) _) ⟨λj=>if j=w.heap.size then some (.map #[] 0)else none,⟨#[],0,by simp,⟨by simp,MapKept.stamped_empty 0,by simp⟩,nR _,abP⟩,λj x ex=>?_,λj hj=>?_⟩
 ·dsimp only at ex;split at ex
  ·rename_i hk;subst hk;cases ex;exact heap_alloc_new w _
  ·cases ex
 ·dsimp only;rw[if_neg (by omega)]
theorem Prt.Sat.oY(h:Sat w0 w L)(i:Nat)(hi:L[i]?=some (mapA k e b n Φ)):∃D:Dm,w.ownsMap prog k (plainElem prog e) b n D/\Φ D:=by
 obtain⟨a,b',_,h2,_,h4,_⟩:=gd h.mem hi;obtain⟨es,clock,g1,g2,g3,g4⟩:=h4;exact⟨_,⟨es,clock,h2 b _ g1,g2,g3,rfl⟩,g4⟩
theorem Prt.Sat.uZ(h:Sat w0 w L)(i:Nat)(hi:L[i]?=some (mapA k e b n Φ)){n':Nat}{D:Dm}{Ψ:Dm->Prop}(hg:w.grownBy w' (some b))(ho:w'.ownsMap prog k (plainElem prog e) b n' D)(aat:Ψ D):Sat w0 w' (L.set i (mapA k e b n' Ψ)):=by
 obtain⟨es,clock,g1,g2,g3,rfl⟩:=ho;refine h.UM hi hg.os hg.tape hg.output λa ha hl=>⟨λj=>if j=b then some (.map es clock)else none,⟨es,clock,by simp,g2,g3,aat⟩,λj x ex=>?_,λj hj bz=>?_⟩
 ·dsimp only at ex;split at ex
  ·rename_i hk;subst hk;cases ex;exact g1
  ·cases ex
 ·have eR:j≠b:=by
   rintro rfl
   obtain⟨aeZ,c2,e2,_⟩:=ha;rw[hj]at e2;cases e2
  exact⟨by dsimp only;rw[if_neg eR],hg.block j bz (by simpa using eR)⟩
theorem Prt.Sat.Wb(h:Sat w0 w L)(i:Nat)(hi:L[i]?=some (mapA k e b n Φ)):b<w.heap.size:=by
 obtain⟨D,h1,_⟩:=h.oY i hi;exact h1.lt
end
def kQ(l:List (BA×Nat))(D:Dm):Prop:=Maps.IsMap D/\∀x:BA,Maps.has D (.string x.data.toList)=(Ty.hZ l x).isSome/\∀m,Ty.hZ l x=some m->D.atKey (.string x.data.toList) (.lit (.int .i64 0))=.lit (.int .i64 (m:Nat))
def cY(wi:Nat->Option Int)(D:Dm):Prop:=Maps.IsMap D/\∀m:Nat,D.atKey (.int .i64 (m:Nat)) (.lit (.int .i64 0))=.lit (.int .i64 ((wi m).getD 0))
def dL(ca:Nat->Bool)(D:Dm):Prop:=Maps.IsMap D/\(∀m:Nat,Maps.has D (.int .i64 (m:Nat))=ca m)/\∀z:Int,Maps.has D (.int .i64 z)=true->0<=z
theorem E0(l:List (BA×Nat))(x y:BA)(n:Nat):Ty.hZ (l++[(x,n)]) y=if x=y then some n else Ty.hZ l y:=by
 unfold Ty.hZ;rw[List.reverse_append];by_cases h:x=y<;>simp[h]
theorem IB{x y:BA}(h:x≠y):Lit.string y.data.toList≠Lit.string x.data.toList:=λe=>by
 simp only[Lit.string.injEq]at e;exact h (by cases x;cases y;simp only at e;congr 1;exact(Array.toList_inj.1 e).symm)
theorem Gs:kQ [] (.map []):=⟨Maps.isMap_empty,λx=>⟨rfl,λm h=>by cases h⟩⟩
theorem GA{l:List (BA×Nat)}{D:Dm}(h:kQ l D)(x:BA)(n:Nat):kQ (l++[(x,n)]) (D.put (.string x.data.toList) (.lit (.int .i64 (n:Nat)))):=by
 refine⟨h.1.put _ _,λy=>?_⟩;rw[E0];by_cases hx:x=y
 ·subst hx;rw[if_pos rfl];refine⟨Maps.has_put_same h.1 (show WideAt.IsKeyLit (.string _)from trivial) _,λm hm=>?_⟩;cases hm;exact Maps.atKey_put_same h.1 (show WideAt.IsKeyLit (.string _)from trivial) _ _
 ·rw[if_neg hx];refine⟨by rw[Maps.has_put_other (IB hx)];exact(h.2 y).1,λm hm=>?_⟩;rw[Maps.atKey_put_other (IB hx)];exact(h.2 y).2 m hm
theorem uh:cY (λ_=>none) (.map []):=⟨Maps.isMap_empty,λ_=>rfl⟩
theorem jD{m n:Nat}(h:m≠n):Lit.int .i64 (m:Nat)≠Lit.int .i64 (n:Nat):=λe=>by
 simp only[Lit.int.injEq,true_and]at e;exact h (by omega)
theorem uk{wi:Nat->Option Int}{D:Dm}(h:cY wi D)(n:Nat)(o:Int):cY (λk=>if k=n then some o else wi k) (D.put (.int .i64 (n:Nat)) (.lit (.int .i64 o))):=by
 refine⟨h.1.put _ _,λm=>?_⟩;dsimp only;by_cases hx:m=n
 ·subst hx;rw[if_pos rfl,Maps.atKey_put_same h.1 (show WideAt.IsKeyLit (.int _ _)from trivial)];rfl
 ·rw[if_neg hx,Maps.atKey_put_other (jD hx)];exact h.2 m
theorem Br:dL (λ_=>false) (.map []):=⟨Maps.isMap_empty,λ_=>rfl,λ_ h=>nomatch h⟩
theorem Cj{ca:Nat->Bool}{D:Dm}(h:dL ca D)(n:Nat)(d:Dm):dL (λk=>if k=n then true else ca k) (D.put (.int .i64 (n:Nat)) d):=by
 refine⟨h.1.put _ _,λm=>?_,λz hz=>?_⟩
 ·dsimp only;by_cases hx:m=n
  ·subst hx;rw[if_pos rfl,Maps.has_put_same h.1 (show WideAt.IsKeyLit (.int _ _)from trivial)]
  ·rw[if_neg hx,Maps.has_put_other (jD hx)];exact h.2.1 m
 ·by_cases hx:z=(n:Nat)
  ·omega
  ·rw[Maps.has_put_other (show Lit.int .i64 z≠Lit.int .i64 (n:Nat)from λe=>by
    simp only[Lit.int.injEq,true_and]at e;exact hx e)]at hz
   exact h.2.2 z hz
end
section
open Ty (Frm Vg)
abbrev Ir(nv tv:Value)(main:Int)(sv ov:Value)(wb cb:Nat):Obj:=.cells #[nv,tv,.int .i64 main,sv,ov,.map (some wb),.map (some cb)] 145 (0,0)
def iP(p:Frm×Nat):List Value:=[.map (some p.2),.int .i64 p.1.of]
def kE:List (Frm×Nat)->As
 |[]=>λ_=>True
 |p::l=>aq [mapA 9 3 p.2 p.1.names.length (kQ p.1.names),kE l]
def yt(v:Value)(l:List (Frm×Nat)):As:=Prt.row 195 2 v l.length (l.reverse.flatMap iP)
structure BiQ where
 sv:Value
 ov:Value
 wb:Nat
 cb:Nat
 ms:List (Frm×Nat)
def Z2(bb:Nat)(nv tv:Value)(main:Int)(frs:List Frm)(v:Vg)(nw nc:Nat)(q:BiQ):List As:=
 [bU (q.ms.map Prod.fst=frs),ax bb (Ir nv tv main q.sv q.ov q.wb q.cb),yt q.sv q.ms,kE q.ms,wj q.ov v.out,mapA 3 3 q.wb nw (cY v.wi),mapA 3 4 q.cb nc (dL v.ca)]
def FI(bb:Nat)(nv tv:Value)(main:Int)(frs:List Frm)(v:Vg)(nw nc:Nat):As:=cn λq=>aq (Z2 bb nv tv main frs v nw nc q)
theorem sx{w:World}{bb g k cap mb:Nat}{of:Int}(h3:w.cell? ⟨bb,3,none⟩=some (.slice (some ⟨g,0,none⟩) (k+1) cap))(hx:w.cell? ⟨g,k*2,none⟩=some (.map (some mb)))(hy:w.cell? ⟨g,k*2+1,none⟩=some (.int .i64 of))
  (hb:bb<w.heap.size) (hg:g<w.heap.size) (hc:k<=1000000) {R:EW} (hR:∀w',Below w.heap.size w w'->R (.returned (.agg #[.map (some mb),.int .i64 of])) w'):
  Calls prog 217 #[.pointer (some ⟨bb,0,none⟩)] w R:=by
 have HR:=qh hR;have hw:=IntWalk.i64_in (n:=(k:Int)) (by omega);have hs:IntKind.i64.wrap (((k+1:Nat):Int)-1)=(k:Int):=by rw[show((k+1:Nat):Int)-1=(k:Int)by omega];exact hw
 clear hR;go_in;go_wp2_with fail
 go_region
 all_goals
  go_wp2_with fail;refine bodyPost_ret ?_ rfl (HR.o _ ?_)
  ·simp[results,results217,go_sem]
  ·repeat' (first|exact bR _ _|apply Below.drew|apply Below.setCell|apply Below.alloc|(simp;done)|omega)
theorem dA{wB w:World}{nv tv:Value}{pg:Ty.Pg}(hP:PB wB nv tv pg)(hb:Below wB.heap.size wB w){bb id:Nat}{nd:Nd}(hn:pg.ns[id]?=some nd)(h0:w.cell? ⟨bb,0,none⟩=some nv)(fF:bb<w.heap.size){R:EW}
  (hR:∀lv w',Below w.heap.size w w'->wB.ownsRow 0 3 1 lv nd.list.length (nd.list.map aQ)->R (.returned (aH nd lv)) w'):
  Calls prog 213 #[.pointer (some ⟨bb,0,none⟩),.int .i64 (id:Nat)] w R:=by
 obtain⟨g,cap,lv,rfl,lW,hg,hcap,E',hA,hl,_,hN⟩:=hP.look hn;obtain⟨q0,q1,q2,q3,q4,q5,q6,q7,q8⟩:=hA.below hb;have aeT:g<w.heap.size:=nL hg hb.size;obtain⟨la,lc,rfl⟩:=ag hl;have HR:=qh (λw' iz=>hR (.slice la nd.list.length lc) w' iz hl);unfold maxLen at E';clear hR hA hl hb hP hn;generalize pg.ns.length=N at*
 go_in;go_wp2_with fail;refine bodyPost_ret ?_ rfl (HR.o _ ?_)
 ·simp[results,results213,go_sem,aH]
 ·exact(bR _ _).alloc (nR _) _
theorem vR{w:World}{bb:Nat}{e p:Nat}{R:EW}(hR:R (.panicked (aO (e,p))) w):Calls prog 285 #[.pointer (some ⟨bb,0,none⟩),.int .i64 (e:Nat),.int .i64 (p:Nat)] w R:=by
 have HR:=qh hR;clear hR;go_in;go_wp2_with fail;exact⟨rfl,HR.o⟩
theorem wK{w:World}{v:Value}{p:Frm×Nat}{l:List (Frm×Nat)}(h:w.ownsRow 0 195 2 v (p::l).length ((p::l).reverse.flatMap iP)):
  ∃g cap:Nat,v=.slice (some ⟨g,0,none⟩) (l.length+1) cap/\g<w.heap.size/\w.cell? ⟨g,l.length*2,none⟩=some (.map (some p.2))/\w.cell? ⟨g,l.length*2+1,none⟩=some (.int .i64 p.1.of):=by
 obtain⟨g,cap,rfl,_,hg⟩:=h.form (by simp);have hc:=λj u hj=>World.ownsRow.cells h (g:=g) rfl j u hj
 have hf:=kU iP 2 (λ_=>rfl) (p::l).reverse l.length (by simp);have he: (p::l).reverse[l.length]'(by simp)=p:=by simp
 rw[he]at hf
 refine⟨g,cap,rfl,hg,?_,?_⟩
 ·have:=hc (l.length*2+0) _ (by rw[hf 0 (by omega)];rfl);rwa [Addr.add_lit,Nat.zero_add]at this
 ·have:=hc (l.length*2+1) _ (by rw[hf 1 (by omega)];rfl);rwa [Addr.add_lit,Nat.zero_add]at this
section
variable {wB w:World} {Fr:As} {bb:Nat} {nv tv:Value} {main:Int} {fr:Frm} {frs:List Frm} {v:Vg} {nw nc:Nat}
theorem Prt.Sat.AK(h:Sat wB w [Fr,FI bb nv tv main (fr::frs) v nw nc]):∃sv ov wb cb mb ms,ms.map Prod.fst=frs/\
  Sat wB w [Fr,ax bb (Ir nv tv main sv ov wb cb),yt sv ((fr,mb)::ms),wj ov v.out,mapA 3 3 wb nw (cY v.wi),mapA 3 4 cb nc (dL v.ca),mapA 9 3 mb fr.names.length (kQ fr.names),kE ms]:=by
 obtain⟨⟨sv,ov,wb,cb,ms⟩,h⟩:=h.ex (i:=1) rfl;have h:=h.unpack 1 rfl;have jE:ms.map Prod.fst=fr::frs:=h.get (i:=1) rfl λ_ ha _=>ha
 match ms,jE,h with
 |[],jE,_=>cases jE
 |(f2,mb)::ms,jE,h=>
  rw[List.map_cons]at jE
  injection jE with e1 e2;dsimp only at e1;subst e1;have h2:=(h.pick [0,2,3,5,6,7,4]).unpack 6 rfl;exact⟨sv,ov,wb,cb,mb,ms,e2,h2⟩
theorem Prt.Sat.Fx{sv ov:Value}{wb cb mb:Nat}{ms:List (Frm×Nat)}(jE:ms.map Prod.fst=frs)
  (h:Sat wB w [Fr,ax bb (Ir nv tv main sv ov wb cb),yt sv ((fr,mb)::ms),wj ov v.out,mapA 3 3 wb nw (cY v.wi),mapA 3 4 cb nc (dL v.ca),mapA 9 3 mb fr.names.length (kQ fr.names),kE ms]):
  Sat wB w [Fr,FI bb nv tv main (fr::frs) v nw nc]:=by
 have h2:Sat wB w [Fr,ax bb (Ir nv tv main sv ov wb cb),yt sv ((fr,mb)::ms),wj ov v.out,mapA 3 3 wb nw (cY v.wi),mapA 3 4 cb nc (dL v.ca),kE ((fr,mb)::ms)]:=Sat.pack (L:=[_,_,_,_,_,_]) h;have h3:=(h2.jR (P:=bU (((fr,mb)::ms).map Prod.fst=fr::frs)) (λ_=>by show _= _;rw[List.map_cons,jE])).pick [0,7,1,2,6,3,4,5];exact(Sat.pack (L:=[Fr]) h3).cQ (i:=1) rfl λ_ h=>⟨⟨sv,ov,wb,cb,(fr,mb)::ms⟩,h⟩
end
end
theorem CD(mb:Nat)(of:Int)(W:World): (Instr.field 195 (.agg #[.map (some mb),.int .i64 of]) 0).run prog W=.ok (.map (some mb)) W:=by
 simp[Instr.field,run_underlying underlying195,asAgg,go_sem]
theorem xu(mb:Nat)(of:Int)(W:World): (Instr.field 195 (.agg #[.map (some mb),.int .i64 of]) 1).run prog W=.ok (.int .i64 of) W:=by
 simp[Instr.field,run_underlying underlying195,asAgg,go_sem]
theorem Mn(nd:Nd)(lv:Value)(W:World): (Instr.field 66 (.agg #[.int .i64 nd.kind,.int .i64 nd.a,.int .i64 nd.b,.int .i64 nd.c,lv,.string nd.text,.int .i64 nd.n,.int .i64 nd.ty,.int .i64 nd.pos]) 0).run prog W=.ok (.int .i64 nd.kind) W:=by
 simp[Instr.field,run_underlying underlying66,asAgg,go_sem]
theorem Od(nd:Nd)(lv:Value)(W:World): (Instr.field 66 (.agg #[.int .i64 nd.kind,.int .i64 nd.a,.int .i64 nd.b,.int .i64 nd.c,lv,.string nd.text,.int .i64 nd.n,.int .i64 nd.ty,.int .i64 nd.pos]) 4).run prog W=.ok lv W:=by
 simp[Instr.field,run_underlying underlying66,asAgg,go_sem]
theorem CJ(nd:Nd)(lv:Value)(W:World): (Instr.field 66 (.agg #[.int .i64 nd.kind,.int .i64 nd.a,.int .i64 nd.b,.int .i64 nd.c,lv,.string nd.text,.int .i64 nd.n,.int .i64 nd.ty,.int .i64 nd.pos]) 5).run prog W=.ok (.string nd.text) W:=by
 simp[Instr.field,run_underlying underlying66,asAgg,go_sem]
section
open Ty (Frm Vg)
theorem wu:Maps.Keyed prog 9:=Maps.string_keyed underlying9
theorem dR:Maps.Keyed prog 3:=Maps.int_keyed underlying3
section
variable {wB w:World} {Fr:As} {bb:Nat} {nv tv:Value} {pg:Ty.Pg} {main:Int} {fr:Frm} {frs:List Frm} {v:Vg} {nw nc:Nat}
theorem Di(hP:PB wB nv tv pg)(hF:ju wB Fr){id:Nat}{nd:Nd}(hn:pg.ns[id]?=some nd)(hx:nd.text.size<=maxLen)(H:Sat wB w [Fr,FI bb nv tv main (fr::frs) v nw nc])
  (xM:fr.names.length<=1000000) (IJ:nw<=1000000) (ado:frs.length<=1000000) (ho: -1<=fr.of/\fr.of<=1000000) {R:EW}
  (hR:∀w',Sat wB w' [Fr,FI bb nv tv main (Ty.addN fr nd.text id::frs) (v7 v id fr.of) (nw+1) nc]->R (.returned (.tuple #[])) w'):
  Calls prog 286 #[.pointer (some ⟨bb,0,none⟩),.int .i64 (id:Nat)] w R:=by
 have HR:=qh hR;have bz:id<pg.ns.length:=by
  rcases Nat.lt_or_ge id pg.ns.length with h|h
  ·exact h
  ·rw[List.getElem?_eq_none h]at hn;cases hn
 have hN:pg.ns.length<=1200:=hP.ok.o7;have Ee:=qh (λ(w1:World)(hb:Below wB.heap.size wB w1) h0 fF R hR=>dA (w:=w1) (bb:=bb) (R:=R) hP hb hn h0 fF hR);obtain⟨sv,ov,wb,cb,mb,ms,jE,h1⟩:=H.AK;have BQ:ms.length<=1000000:=by rw[<-jE,List.length_map]at ado;exact ado
 obtain⟨g,cap,rfl,hg,d0,d1⟩:=wK (h1.row 2);have c3:=h1.cell 1 3;have fF:=h1.lt 1;have f0:=CD mb fr.of;have f1:=xu mb fr.of;have f5:=CJ nd;go_in;go_wp2_with fail;refine sx c3 d0 d1 fF hg BQ (λw1 cd=>?_);have h2:=h1.below cd;have k0:=h2.cell 1 0;have Wv:=h2.lt 1;go_wp2_with fail;refine Ee.o w1 (hF _ _ 0 h2 rfl) k0 Wv _ (λlv w2 aW hl=>?_);have h3:=h2.below aW;obtain⟨D,hD,qx⟩:=h3.oY 6 rfl;unfold aH;go_wp2_with(at_mapUpdate;go_loud(refine wpList_mapUpdate_own _ rfl _ _ _ 193 rfl 9 3 wu underlying193 _ mb _ D (by rfl) hD (by unfold maxLen;omega) (.string nd.text) (.int .i64 (id:Nat)) _ (by rfl) (by rfl) (Go.WideMaps.keyOf_string_mk underlying9 hx) _ [] (plainElem_int underlying3 (WalkArith.wf_i64 (by omega))) ?_));intro w3 ga fm;have h4:=h3.uZ 6 rfl fm ga (Ψ:=kQ (fr.names++[(nd.text,id)])) (GA qx nd.text id);obtain⟨g,cap,e,hg,d0,d1⟩:=wK (h4.row 2);cases e;have c3:=h4.cell 1 3;have c5:=h4.cell 1 5;have TK:=h4.lt 1;have HW:Hq ((Lit.int .i64 (id:Nat)).wf=true/\(Lit.int .i64 fr.of).wf=true):=⟨WalkArith.wf_i64 (by omega),WalkArith.wf_i64 (by omega)⟩
 go_wp2;go_region_held3(λw'=>w'.cell? ⟨bb,5,none⟩=some (.map (some wb))) (go_keep)
  ((go_at_call 217;refine sx (w:=w3.drew) c3 d0 d1 TK hg BQ (λw5 od=>?_);have h5:=h4.drew.below od;have s5:w5.cell? ⟨bb,5,none⟩=some (.map (some wb)):=h5.cell 1 5;obtain⟨D2,Ys,Wa⟩:=h5.oY 4 rfl;obtain⟨w6,yX,gg,dZ⟩:=Ys.update dR underlying102 (by unfold maxLen;omega) (Maps.keyOf_int_mk underlying3 HW.o.1) (plainElem_int underlying3 HW.o.2);have h6:=h5.uZ 4 rfl dZ gg (Ψ:=cY (λk=>if k=id then some fr.of else v.wi k)) (uk Wa id fr.of);have s6:w6.cell? ⟨bb,5,none⟩=some (.map (some wb)):=h6.cell 1 5;have H6:=qh h6;clear h5 Ys Wa gg dZ h6 od))
 all_goals
  go_wp2;go_end0;refine HR.o _ ?_;have h7:=H6.o.cQ (i:=2) rfl (Q:=yt (.slice (some ⟨g,0,none⟩) (ms.length+1) cap) ((Ty.addN fr nd.text id,mb)::ms)) (λ_ ha=>by
   unfold yt at ha⊢;simp only[List.reverse_cons,List.flatMap_append]at ha⊢;exact ha)
  have h8:Sat wB w6 [Fr,ax bb (Ir nv tv main (.slice (some ⟨g,0,none⟩) (ms.length+1) cap) ov wb cb),yt (.slice (some ⟨g,0,none⟩) (ms.length+1) cap) ((Ty.addN fr nd.text id,mb)::ms),wj ov (v7 v id fr.of).out,mapA 3 3 wb (nw+1) (cY (v7 v id fr.of).wi),mapA 3 4 cb nc (dL (v7 v id fr.of).ca),mapA 9 3 mb (Ty.addN fr nd.text id).names.length (kQ (Ty.addN fr nd.text id).names),kE ms]:=by
   unfold Ty.addN;simp only[lzA,lzC,lzN];exact h7
  exact Sat.Fx jE h8
end
end
section
variable {P:Program} {Q:Exit->Act->World->Prop} {ops:Array Oper}
theorem AX(h: (ops.all λo=>match o.op with| .defer _=>false| _=>true)=true):∀(i:Nat)(o:Oper),ops[i]?=some o->∀c,o.op≠.defer c:=λi o hi c hc=>by
 rw[Array.all_eq_true]at h
 obtain⟨h1,h2⟩:=Array.getElem?_eq_some_iff.1 hi;have:=h i h1;rw[h2,hc]at this
 cases this
theorem Ff(l n:Nat)(hQ:∀a w,¬Q .outgrown a w)(hd:∀(i:Nat)(o:Oper),ops[i]?=some o->∀c,o.op≠.defer c){i:Nat}{K K':Act->World->Prop}(hK:∀a w,K a w->K' a w){a:Act}{w:World}(h:wpOp P ops Q i K a w):wpOpIn (Fence.wide.inRound l) n P ops Q i K' a w:=by
 have hL:¬LetsOut Q:=λ⟨a,w,h⟩=>hQ a w h
 unfold wpOp at h;unfold wpOpIn;cases ho:ops[i]? with
 |none=>
  simp only[ho]at h⊢;exact hK _ _ h
 |some o=>
  simp only[ho]at h⊢;split
  ·rename_i hw;rw[if_pos hw]at h
   rcases h with h|⟨_,h⟩
   ·refine⟨λf _=>trivial,?_⟩;have e:o.semAt (Fence.wide.inRound l).round a.eval=execOp a.eval o:=Oper.semAt_some l _ _ (hd i o ho);rw[e];unfold Oper.wp at h;generalize(execOp a.eval o).run P w=r at*
    cases r with
    |ok x w'=>
     cases x<;>simp only[Oper.upon,Oper.uponIn]at h⊢
     case value v=>exact hK _ _ h
     case skip=>exact hK _ _ h
     case defer d=>exact hK _ _ h
     case enter f args=>
      refine⟨λhh=>(by cases hh),CallsIn.inRound l (callsIn_wide.2 (Calls.mono h λe KY he=>?_))⟩;cases e with
      |returned v=>exact hK _ _ he
      |panicked c=>exact he
      |outgrown=>exact he
     case row row args=>
      refine⟨λhh=>(by cases hh),λc cs _=>?_⟩;obtain⟨v,KY,hr,hs⟩:=h c cs;exact⟨v,KY,hK _ _ hr,stepsIn_wide.2 hs⟩
    |halt x w'=>
     cases x<;>simp only[Oper.upon,Oper.uponIn]at h⊢
     case panic v=>exact h
   ·exact absurd h hL
  ·rename_i hw;rw[if_neg hw]at h
   exact⟨λf _=>trivial,hK _ _ h⟩
theorem ur(l n:Nat)(hQ:∀a w,¬Q .outgrown a w)(hd:∀(i:Nat)(o:Oper),ops[i]?=some o->∀c,o.op≠.defer c)(md:Region.Mode):∀(fuel:Nat)(listed:Array Bool)(a:Act)(w:World),wpAny P md ops Q fuel listed a w->wpAnyIn (Fence.wide.inRound l) n P md ops Q fuel listed a w
 |0,_,_,_,h=>h
 |fuel+1,_,_,_,h=>⟨h.1,λi hi=>Ff l n hQ hd (λa w h=>ur l n hQ hd md fuel _ a w h) (h.2 i hi)⟩
theorem uD{md:Region.Mode}{S:World->Prop}(i:Nat){oi:Oper}(v:Value){fuel:Nat}{listed:Array Bool}{a:Act}{w:World}(hi:ops[i]?=some oi)(hb: (Region.noSelect ops&&(Region.free md ops listed i&&(Region.ready md ops listed).contains i))=true)
  (hQ:∀c a w,Q (.panic c) (a.put oi.dst v) w->Q (.panic c) a w) (hw:Region.wanted oi (yielded ops a.tmps)=true) (hy:∀w,S w->(execOp a.eval oi).run P w=.ok (.value v) w) (hS:S w)
  (h:wpAnyH P md ops Q S fuel (listed.setIfInBounds i true) (a.put oi.dst v) w):wpAnyH P md ops Q S (fuel+1) listed a w:=by
 simp only[Bool.and_eq_true]at hb;exact wpAnyH_take hi hb.1 hb.2.1 hb.2.2 hQ (.inl ⟨hw,hy⟩) hS h
theorem ou{md:Region.Mode}{S:World->Prop}(i:Nat){oi:Oper}{v:Value}{fuel:Nat}{listed:Array Bool}{a a':Act}{w:World}(h:wpAnyH P md ops Q S fuel (listed.setIfInBounds i true) a' w)(hi:ops[i]?=some oi:=by rfl)(hb: (Region.noSelect ops&&(Region.free md ops listed i&&(Region.ready md ops listed).contains i))=true:=by kernel_rfl)
 (hQ:∀c a w,Q (.panic c) (a.put oi.dst v) w->Q (.panic c) a w:=by exact λ_ _ _ h=>h) (hw:Region.wanted oi (yielded ops a.tmps)=true:=by rfl) (hy:∀w,S w->(execOp a.eval oi).run P w=.ok (.value v) w:=by intro w' dJ;(try dsimp only at dJ);go_simp;with_reducible rfl) (hS:S w:=by assumption) (ha:a.put oi.dst v=a':=by simp only[Act.put,List.setIfInBounds_toArray,List.set_cons_zero,List.set_cons_succ];rfl):wpAnyH P md ops Q S (fuel+1) listed a w:=by
 subst ha;exact uD i v hi hb hQ hw hy hS h
theorem Lf{md:Region.Mode}{S:World->Prop}(i:Nat){oi:Oper}{fuel:Nat}{listed:Array Bool}{a a':Act}{w:World}(h:wpAnyH P md ops Q S fuel (listed.setIfInBounds i true) a' w)(hi:ops[i]?=some oi:=by rfl)(hb: (Region.noSelect ops&&(Region.free md ops listed i&&(Region.ready md ops listed).contains i))=true:=by kernel_rfl)
 (hQ:∀c a w,Q (.panic c) (a.put oi.dst undef) w->Q (.panic c) a w:=by exact λ_ _ _ h=>h) (hw:Region.wanted oi (yielded ops a.tmps)=false:=by kernel_rfl) (hS:S w:=by assumption) (ha:a.put oi.dst undef=a':=by simp only[Act.put,List.setIfInBounds_toArray,List.set_cons_zero,List.set_cons_succ];rfl):wpAnyH P md ops Q S (fuel+1) listed a w:=by
 subst ha;simp only[Bool.and_eq_true]at hb;exact wpAnyH_take hi hb.1 hb.2.1 hb.2.2 hQ (.inr ⟨hw,rfl⟩) hS h
theorem i_{l n id:Nat}{S:World->Prop}{a:Act}{w:World}(hm:P.follows .mixedOrders=true)(hQ:∀a w,¬Q .outgrown a w)(hd:∀(i:Nat)(o:Oper),ops[i]?=some o->∀c,o.op≠.defer c)
  (h:wpAnyH P .any ops Q S ops.size (Array.replicate ops.size false) a w.drew): (Code.region id ops true).wpIn (Fence.wide.inRound l) n P Q a w:=
 wpIn_region_any hm (ur l n hQ hd _ _ _ _ _ (wpAny_of_held _ _ _ _ h))
end
end Go.Proofs.YtdlbhiaceheffabGreatDoor
