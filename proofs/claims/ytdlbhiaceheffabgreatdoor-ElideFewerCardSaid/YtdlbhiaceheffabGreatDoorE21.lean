/- Maps as parts of memory: what they hold, in plain words. -/
import Derived.Maps.OwnSet
import Derived.Maps.OwnOps
import Derived.Maps.Ext
import Derived.StringKeys
import Derived.WalkSmall
import Derived.WalkArith
import Derived.RangeFuncCalls
import Derived.Deep.RegionHeld3
import Derived.OrdersIn
import Derived.TacticsIn
import Derived.Test.YtdlbhiaceheffabGreatDoorE20
set_option linter.all false
set_option maxRecDepth 100000
set_option maxHeartbeats 4000000
namespace Go.Proofs.YtdlbhiaceheffabGreatDoor
open Go Go.RowKit Ty Tok Prt Tryz Proofs.Tryz
section
open Go.Maps (Keyed)
open Go.WideElems (Fit rg)
abbrev Dm:=DataW Unit
def mapA(k e:TypeId)(b n:Nat)(Φ:Dm->Prop):As:=λh=>∃es clock,h b=some (.map es clock)/\Fit (H:=Unit) prog k (plainElem prog e) es clock/\es.size<=n/\Φ (.map ((es.toList.map (rg prog k (plainElem prog e))).foldr DataW.insert []))
section
variable {w0 w w':World} {L:List As} {k e:TypeId} {b n:Nat} {Φ:Dm->Prop}
theorem Prt.Sat.uG(h:Sat w0 w L)(k e b:Nat)(hb:b=w.heap.size)(WC:Φ (.map [])):Sat w0 (w.alloc (.map #[] 0)) (L++[mapA k e b 0 Φ]):=by
 subst hb;refine h.new ((bR _ _).alloc (nR _) _) ⟨λj=>if j=w.heap.size then some (.map #[] 0)else none,⟨#[],0,by simp,⟨by simp,MapKept.stamped_empty 0,by simp⟩,nR _,WC⟩,λj x ex=>?_,λj hj=>?_⟩
 ·dsimp only at ex;split at ex
  ·rename_i hk;subst hk;cases ex;exact heap_alloc_new w _
  ·cases ex
 ·dsimp only;rw[if_neg (by omega)]
theorem Prt.Sat.fi(h:Sat w0 w L)(i:Nat)(hi:L[i]?=some (mapA k e b n Φ)):∃D:Dm,w.ownsMap prog k (plainElem prog e) b n D/\Φ D:=by
 obtain⟨a,b',_,h2,_,h4,_⟩:=eQ h.mem hi;obtain⟨es,clock,g1,g2,g3,g4⟩:=h4;exact⟨_,⟨es,clock,h2 b _ g1,g2,g3,rfl⟩,g4⟩
theorem Prt.Sat.ml(h:Sat w0 w L)(i:Nat)(hi:L[i]?=some (mapA k e b n Φ)){n':Nat}{D:Dm}{Ψ:Dm->Prop}(hg:w.grownBy w' (some b))(ho:w'.ownsMap prog k (plainElem prog e) b n' D)(XS:Ψ D):Sat w0 w' (L.set i (mapA k e b n' Ψ)):=by
 obtain⟨es,clock,g1,g2,g3,rfl⟩:=ho;refine h.Uc hi hg.os hg.tape hg.output λa ha hl=>⟨λj=>if j=b then some (.map es clock)else none,⟨es,clock,by simp,g2,g3,XS⟩,λj x ex=>?_,λj hj a_=>?_⟩
 ·dsimp only at ex;split at ex
  ·rename_i hk;subst hk;cases ex;exact g1
  ·cases ex
 ·have bT:j≠b:=by
   rintro rfl
   obtain⟨acP,c2,e2,_⟩:=ha;rw[hj]at e2;cases e2
  exact⟨by dsimp only;rw[if_neg bT],hg.block j a_ (by simpa using bT)⟩
theorem Prt.Sat.SC(h:Sat w0 w L)(i:Nat)(hi:L[i]?=some (mapA k e b n Φ)):b<w.heap.size:=by
 obtain⟨D,h1,_⟩:=h.fi i hi;exact h1.lt
end
def ki(l:List (BA×Nat))(D:Dm):Prop:=Maps.IsMap D/\∀x:BA,Maps.has D (.string x.data.toList)=(Ty.eR l x).isSome/\∀m,Ty.eR l x=some m->D.atKey (.string x.data.toList) (.lit (.int .i64 0))=.lit (.int .i64 (m:Nat))
def cF(wi:Nat->Option Int)(D:Dm):Prop:=Maps.IsMap D/\∀m:Nat,D.atKey (.int .i64 (m:Nat)) (.lit (.int .i64 0))=.lit (.int .i64 ((wi m).getD 0))
def cS(ca:Nat->Bool)(D:Dm):Prop:=Maps.IsMap D/\(∀m:Nat,Maps.has D (.int .i64 (m:Nat))=ca m)/\∀z:Int,Maps.has D (.int .i64 z)=true->0<=z
theorem C'(l:List (BA×Nat))(x y:BA)(n:Nat):Ty.eR (l++[(x,n)]) y=if x=y then some n else Ty.eR l y:=by
 unfold Ty.eR;rw[List.reverse_append];by_cases h:x=y<;>simp[h]
theorem D_{x y:BA}(h:x≠y):Lit.string y.data.toList≠Lit.string x.data.toList:=λe=>by
 simp only[Lit.string.injEq]at e;exact h (by cases x;cases y;simp only at e;congr 1;exact(Array.toList_inj.1 e).symm)
theorem DA:ki [] (.map []):=⟨Maps.isMap_empty,λx=>⟨rfl,λm h=>by cases h⟩⟩
theorem CF{l:List (BA×Nat)}{D:Dm}(h:ki l D)(x:BA)(n:Nat):ki (l++[(x,n)]) (D.put (.string x.data.toList) (.lit (.int .i64 (n:Nat)))):=by
 refine⟨h.1.put _ _,λy=>?_⟩;rw[C'];by_cases hx:x=y
 ·subst hx;rw[if_pos rfl];refine⟨Maps.has_put_same h.1 (show WideAt.IsKeyLit (.string _)from trivial) _,λm hm=>?_⟩;cases hm;exact Maps.atKey_put_same h.1 (show WideAt.IsKeyLit (.string _)from trivial) _ _
 ·rw[if_neg hx];refine⟨by rw[Maps.has_put_other (D_ hx)];exact(h.2 y).1,λm hm=>?_⟩;rw[Maps.atKey_put_other (D_ hx)];exact(h.2 y).2 m hm
theorem sF:cF (λ_=>none) (.map []):=⟨Maps.isMap_empty,λ_=>rfl⟩
theorem fM{m n:Nat}(h:m≠n):Lit.int .i64 (m:Nat)≠Lit.int .i64 (n:Nat):=λe=>by
 simp only[Lit.int.injEq,true_and]at e;exact h (by omega)
theorem se{wi:Nat->Option Int}{D:Dm}(h:cF wi D)(n:Nat)(o:Int):cF (λk=>if k=n then some o else wi k) (D.put (.int .i64 (n:Nat)) (.lit (.int .i64 o))):=by
 refine⟨h.1.put _ _,λm=>?_⟩;dsimp only;by_cases hx:m=n
 ·subst hx;rw[if_pos rfl,Maps.atKey_put_same h.1 (show WideAt.IsKeyLit (.int _ _)from trivial)];rfl
 ·rw[if_neg hx,Maps.atKey_put_other (fM hx)];exact h.2 m
theorem zJ:cS (λ_=>false) (.map []):=⟨Maps.isMap_empty,λ_=>rfl,λ_ h=>nomatch h⟩
theorem AF{ca:Nat->Bool}{D:Dm}(h:cS ca D)(n:Nat)(d:Dm):cS (λk=>if k=n then true else ca k) (D.put (.int .i64 (n:Nat)) d):=by
 refine⟨h.1.put _ _,λm=>?_,λz hz=>?_⟩
 ·dsimp only;by_cases hx:m=n
  ·subst hx;rw[if_pos rfl,Maps.has_put_same h.1 (show WideAt.IsKeyLit (.int _ _)from trivial)]
  ·rw[if_neg hx,Maps.has_put_other (fM hx)];exact h.2.1 m
 ·by_cases hx:z=(n:Nat)
  ·omega
  ·rw[Maps.has_put_other (show Lit.int .i64 z≠Lit.int .i64 (n:Nat)from λe=>by
    simp only[Lit.int.injEq,true_and]at e;exact hx e)]at hz
   exact h.2.2 z hz
end
section
open Ty (Frm Vg)
abbrev Ek(nv tv:Value)(main:Int)(sv ov:Value)(wb cb:Nat):Obj:=.cells #[nv,tv,.int .i64 main,sv,ov,.map (some wb),.map (some cb)] 145 (0,0)
def iD(p:Frm×Nat):List Value:=[.map (some p.2),.int .i64 p.1.of]
def ko:List (Frm×Nat)->As
 |[]=>λ_=>True
 |p::l=>ah [mapA 9 3 p.2 p.1.names.length (ki p.1.names),ko l]
def xu(v:Value)(l:List (Frm×Nat)):As:=Prt.row 195 2 v l.length (l.reverse.flatMap iD)
structure BiQ where
 sv:Value
 ov:Value
 wb:Nat
 cb:Nat
 ms:List (Frm×Nat)
def XI(bb:Nat)(nv tv:Value)(main:Int)(frs:List Frm)(v:Vg)(nw nc:Nat)(q:BiQ):List As:=
 [bX (q.ms.map Prod.fst=frs),av bb (Ek nv tv main q.sv q.ov q.wb q.cb),xu q.sv q.ms,ko q.ms,vC q.ov v.out,mapA 3 3 q.wb nw (cF v.wi),mapA 3 4 q.cb nc (cS v.ca)]
def CA(bb:Nat)(nv tv:Value)(main:Int)(frs:List Frm)(v:Vg)(nw nc:Nat):As:=cm λq=>ah (XI bb nv tv main frs v nw nc q)
theorem qu{w:World}{bb g k cap mb:Nat}{of:Int}(h3:w.cell? ⟨bb,3,none⟩=some (.slice (some ⟨g,0,none⟩) (k+1) cap))(hx:w.cell? ⟨g,k*2,none⟩=some (.map (some mb)))(hy:w.cell? ⟨g,k*2+1,none⟩=some (.int .i64 of))
  (hb:bb<w.heap.size) (hg:g<w.heap.size) (hc:k<=1000000) {R:EW} (hR:∀w',Below w.heap.size w w'->R (.returned (.agg #[.map (some mb),.int .i64 of])) w'):
  Calls prog 217 #[.pointer (some ⟨bb,0,none⟩)] w R:=by
 have HR:=qh hR;have hw:=IntWalk.i64_in (n:=(k:Int)) (by omega);have hs:IntKind.i64.wrap (((k+1:Nat):Int)-1)=(k:Int):=by rw[show((k+1:Nat):Int)-1=(k:Int)by omega];exact hw
 clear hR;go_in;go_wp2_with fail
 go_region
 all_goals
  go_wp2_with fail;refine bodyPost_ret ?_ rfl (HR.o _ ?_)
  ·simp[results,results217,go_sem]
  ·repeat' (first|exact bR _ _|apply Below.drew|apply Below.setCell|apply Below.alloc|(simp;done)|omega)
theorem dA{wB w:World}{nv tv:Value}{pg:Ty.Pg}(hP:PB wB nv tv pg)(hb:Below wB.heap.size wB w){bb id:Nat}{nd:Nd}(hn:pg.ns[id]?=some nd)(h0:w.cell? ⟨bb,0,none⟩=some nv)(gQ:bb<w.heap.size){R:EW}
  (hR:∀lv w',Below w.heap.size w w'->wB.ownsRow 0 3 1 lv nd.list.length (nd.list.map aO)->R (.returned (aG nd lv)) w'):
  Calls prog 213 #[.pointer (some ⟨bb,0,none⟩),.int .i64 (id:Nat)] w R:=by
 obtain⟨g,cap,lv,rfl,k_,hg,kK,Dt,hA,hl,_,hN⟩:=hP.look hn;obtain⟨q0,q1,q2,q3,q4,q5,q6,q7,q8⟩:=hA.below hb;have U5:g<w.heap.size:=nL hg hb.size;obtain⟨la,lc,rfl⟩:=ag hl;have HR:=qh (λw' ff=>hR (.slice la nd.list.length lc) w' ff hl);unfold maxLen at Dt;clear hR hA hl hb hP hn;generalize pg.ns.length=N at*
 go_in;go_wp2_with fail;refine bodyPost_ret ?_ rfl (HR.o _ ?_)
 ·simp[results,results213,go_sem,aG]
 ·exact(bR _ _).alloc (nR _) _
theorem vB{w:World}{bb:Nat}{e p:Nat}{R:EW}(hR:R (.panicked (aI (e,p))) w):Calls prog 285 #[.pointer (some ⟨bb,0,none⟩),.int .i64 (e:Nat),.int .i64 (p:Nat)] w R:=by
 have HR:=qh hR;clear hR;go_in;go_wp2_with fail;exact⟨rfl,HR.o⟩
theorem uP{w:World}{v:Value}{p:Frm×Nat}{l:List (Frm×Nat)}(h:w.ownsRow 0 195 2 v (p::l).length ((p::l).reverse.flatMap iD)):
  ∃g cap:Nat,v=.slice (some ⟨g,0,none⟩) (l.length+1) cap/\g<w.heap.size/\w.cell? ⟨g,l.length*2,none⟩=some (.map (some p.2))/\w.cell? ⟨g,l.length*2+1,none⟩=some (.int .i64 p.1.of):=by
 obtain⟨g,cap,rfl,_,hg⟩:=h.form (by simp);have hc:=λj u hj=>World.ownsRow.cells h (g:=g) rfl j u hj
 have hf:=jn iD 2 (λ_=>rfl) (p::l).reverse l.length (by simp);have he: (p::l).reverse[l.length]'(by simp)=p:=by simp
 rw[he]at hf
 refine⟨g,cap,rfl,hg,?_,?_⟩
 ·have:=hc (l.length*2+0) _ (by rw[hf 0 (by omega)];rfl);rwa [Addr.add_lit,Nat.zero_add]at this
 ·have:=hc (l.length*2+1) _ (by rw[hf 1 (by omega)];rfl);rwa [Addr.add_lit,Nat.zero_add]at this
section
variable {wB w:World} {Fr:As} {bb:Nat} {nv tv:Value} {main:Int} {fr:Frm} {frs:List Frm} {v:Vg} {nw nc:Nat}
theorem Prt.Sat.yA(h:Sat wB w [Fr,CA bb nv tv main (fr::frs) v nw nc]):∃sv ov wb cb mb ms,ms.map Prod.fst=frs/\
  Sat wB w [Fr,av bb (Ek nv tv main sv ov wb cb),xu sv ((fr,mb)::ms),vC ov v.out,mapA 3 3 wb nw (cF v.wi),mapA 3 4 cb nc (cS v.ca),mapA 9 3 mb fr.names.length (ki fr.names),ko ms]:=by
 obtain⟨⟨sv,ov,wb,cb,ms⟩,h⟩:=h.ex (i:=1) rfl;have h:=h.unpack (i:=1) rfl;have gS:ms.map Prod.fst=fr::frs:=h.get (i:=1) rfl λ_ ha _=>ha
 match ms,gS,h with
 |[],gS,_=>cases gS
 |(f2,mb)::ms,gS,h=>
  rw[List.map_cons]at gS
  injection gS with e1 e2;dsimp only at e1;subst e1;have h2:=(h.pick [0,2,3,5,6,7,4]).unpack (i:=6) rfl;exact⟨sv,ov,wb,cb,mb,ms,e2,h2⟩
theorem Prt.Sat.CY{sv ov:Value}{wb cb mb:Nat}{ms:List (Frm×Nat)}(gS:ms.map Prod.fst=frs)
  (h:Sat wB w [Fr,av bb (Ek nv tv main sv ov wb cb),xu sv ((fr,mb)::ms),vC ov v.out,mapA 3 3 wb nw (cF v.wi),mapA 3 4 cb nc (cS v.ca),mapA 9 3 mb fr.names.length (ki fr.names),ko ms]):
  Sat wB w [Fr,CA bb nv tv main (fr::frs) v nw nc]:=by
 have h2:Sat wB w [Fr,av bb (Ek nv tv main sv ov wb cb),xu sv ((fr,mb)::ms),vC ov v.out,mapA 3 3 wb nw (cF v.wi),mapA 3 4 cb nc (cS v.ca),ko ((fr,mb)::ms)]:=Sat.pack (L:=[_,_,_,_,_,_]) h;have h3:=(h2.iA (P:=bX (((fr,mb)::ms).map Prod.fst=fr::frs)) (λ_=>by show _= _;rw[List.map_cons,gS])).pick [0,7,1,2,6,3,4,5];exact(Sat.pack (L:=[Fr]) h3).cL (i:=1) rfl λ_ h=>⟨⟨sv,ov,wb,cb,(fr,mb)::ms⟩,h⟩
end
end
theorem BD(mb:Nat)(of:Int)(W:World): (Instr.field 195 (.agg #[.map (some mb),.int .i64 of]) 0).run prog W=.ok (.map (some mb)) W:=by
 simp[Instr.field,run_underlying underlying195,asAgg,go_sem]
theorem uN(mb:Nat)(of:Int)(W:World): (Instr.field 195 (.agg #[.map (some mb),.int .i64 of]) 1).run prog W=.ok (.int .i64 of) W:=by
 simp[Instr.field,run_underlying underlying195,asAgg,go_sem]
theorem KG(nd:Nd)(lv:Value)(W:World): (Instr.field 66 (.agg #[.int .i64 nd.kind,.int .i64 nd.a,.int .i64 nd.b,.int .i64 nd.c,lv,.string nd.text,.int .i64 nd.n,.int .i64 nd.ty,.int .i64 nd.pos]) 0).run prog W=.ok (.int .i64 nd.kind) W:=by
 simp[Instr.field,run_underlying underlying66,asAgg,go_sem]
theorem Kq(nd:Nd)(lv:Value)(W:World): (Instr.field 66 (.agg #[.int .i64 nd.kind,.int .i64 nd.a,.int .i64 nd.b,.int .i64 nd.c,lv,.string nd.text,.int .i64 nd.n,.int .i64 nd.ty,.int .i64 nd.pos]) 4).run prog W=.ok lv W:=by
 simp[Instr.field,run_underlying underlying66,asAgg,go_sem]
theorem A4(nd:Nd)(lv:Value)(W:World): (Instr.field 66 (.agg #[.int .i64 nd.kind,.int .i64 nd.a,.int .i64 nd.b,.int .i64 nd.c,lv,.string nd.text,.int .i64 nd.n,.int .i64 nd.ty,.int .i64 nd.pos]) 5).run prog W=.ok (.string nd.text) W:=by
 simp[Instr.field,run_underlying underlying66,asAgg,go_sem]
section
open Ty (Frm Vg)
theorem ve:Maps.Keyed prog 9:=Maps.string_keyed underlying9
theorem cy:Maps.Keyed prog 3:=Maps.int_keyed underlying3
section
variable {wB w:World} {Fr:As} {bb:Nat} {nv tv:Value} {pg:Ty.Pg} {main:Int} {fr:Frm} {frs:List Frm} {v:Vg} {nw nc:Nat}
theorem Bv(hP:PB wB nv tv pg)(hF:gR wB Fr){id:Nat}{nd:Nd}(hn:pg.ns[id]?=some nd)(hx:nd.text.size<=maxLen)(H:Sat wB w [Fr,CA bb nv tv main (fr::frs) v nw nc])
  (sO:fr.names.length<=1000000) (v7:nw<=1000000) (Vn:frs.length<=1000000) (ho: -1<=fr.of/\fr.of<=1000000) {R:EW}
  (hR:∀w',Sat wB w' [Fr,CA bb nv tv main (Ty.addN fr nd.text id::frs) (vr v id fr.of) (nw+1) nc]->R (.returned (.tuple #[])) w'):
  Calls prog 286 #[.pointer (some ⟨bb,0,none⟩),.int .i64 (id:Nat)] w R:=by
 have HR:=qh hR;have HF:=qh hF;have a_:id<pg.ns.length:=by
  rcases Nat.lt_or_ge id pg.ns.length with h|h
  ·exact h
  ·rw[List.getElem?_eq_none h]at hn;cases hn
 have hN:pg.ns.length<=1200:=hP.ok.ju;have dO:=qh (λ(w1:World)(hb:Below wB.heap.size wB w1) h0 gQ R hR=>dA (w:=w1) (bb:=bb) (R:=R) hP hb hn h0 gQ hR);obtain⟨sv,ov,wb,cb,mb,ms,gS,h1⟩:=H.yA;have B4:ms.length<=1000000:=by rw[<-gS,List.length_map]at Vn;exact Vn
 obtain⟨g,cap,rfl,hg,d0,d1⟩:=uP (h1.row 2 rfl);have c3:=h1.cell 1 rfl 3 rfl;have gQ:=h1.lt 1 rfl;have H1:=qh h1;have LP:=qh gS;clear hR hF H h1 gS Vn hP hn;have f0:=BD mb fr.of;have f1:=uN mb fr.of;have f5:=A4 nd;go_in;go_wp2_with fail;refine qu c3 d0 d1 gQ hg B4 (λw1 cQ=>?_);have h2:=H1.o.below cQ;have k0:=h2.cell 1 rfl 0 rfl;have QL:=h2.lt 1 rfl;have H2:=qh h2;clear c3 d0 d1 hg cQ h2 H1;go_wp2_with fail;refine dO.o w1 (HF.o _ _ 0 H2.o rfl) k0 QL _ (λlv w2 aD hl=>?_);have h3:=H2.o.below aD;obtain⟨D,hD,mg⟩:=h3.fi 6 rfl;have H3:=qh h3;have HD:=qh hD;have Zi:=qh mg;clear h3 hD mg H2 aD hl k0;unfold aG;go_wp2_with(at_mapUpdate;go_loud(refine wpList_mapUpdate_own _ rfl _ _ _ 193 rfl 9 3 ve underlying193 _ mb _ D (by rfl) HD.o (by unfold maxLen;omega) (.string nd.text) (.int .i64 (id:Nat)) _ (by rfl) (by rfl) (Go.WideMaps.keyOf_string_mk underlying9 hx) _ [] (plainElem_int underlying3 (WalkArith.wf_i64 (by omega))) ?_));intro w3 eg dR;have h4:=H3.o.ml 6 rfl dR eg (Ψ:=ki (fr.names++[(nd.text,id)])) (CF Zi.o nd.text id);obtain⟨g,cap,e,hg,d0,d1⟩:=uP (h4.row 2 rfl);cases e;have c3:=h4.cell 1 rfl 3 rfl;have c5:=h4.cell 1 rfl 5 rfl;have O6:=h4.lt 1 rfl;have H4:=qh h4;clear h4 eg dR HD Zi H3;have HW:Hq ((Lit.int .i64 (id:Nat)).wf=true/\(Lit.int .i64 fr.of).wf=true):=⟨WalkArith.wf_i64 (by omega),WalkArith.wf_i64 (by omega)⟩
 go_wp2_with fail;go_region_held3(λw'=>w'.cell? ⟨bb,5,none⟩=some (.map (some wb))) (go_keep)
  ((go_at_call 217;refine qu (w:=w3.drew) c3 d0 d1 O6 hg B4 (λw5 dM=>?_);have h5:=H4.o.drew.below dM;have s5:w5.cell? ⟨bb,5,none⟩=some (.map (some wb)):=h5.cell 1 rfl 5 rfl;obtain⟨D2,pD,Tt⟩:=h5.fi 4 rfl;obtain⟨w6,sk,fC,dQ⟩:=pD.update cy underlying102 (by unfold maxLen;omega) (Maps.keyOf_int_mk underlying3 HW.o.1) (plainElem_int underlying3 HW.o.2);have h6:=h5.ml 4 rfl dQ fC (Ψ:=cF (λk=>if k=id then some fr.of else v.wi k)) (se Tt id fr.of);have s6:w6.cell? ⟨bb,5,none⟩=some (.map (some wb)):=h6.cell 1 rfl 5 rfl;have H6:=qh h6;clear h5 pD Tt fC dQ h6 dM))
 all_goals
  go_wp2_with fail;go_end0;refine HR.o _ ?_;have h7:=H6.o.cL (i:=2) rfl (Q:=xu (.slice (some ⟨g,0,none⟩) (ms.length+1) cap) ((Ty.addN fr nd.text id,mb)::ms)) (λ_ ha=>by
   unfold xu at ha⊢;simp only[List.reverse_cons,List.flatMap_append]at ha⊢;exact ha)
  have h8:Sat wB w6 [Fr,av bb (Ek nv tv main (.slice (some ⟨g,0,none⟩) (ms.length+1) cap) ov wb cb),xu (.slice (some ⟨g,0,none⟩) (ms.length+1) cap) ((Ty.addN fr nd.text id,mb)::ms),vC ov (vr v id fr.of).out,mapA 3 3 wb (nw+1) (cF (vr v id fr.of).wi),mapA 3 4 cb nc (cS (vr v id fr.of).ca),mapA 9 3 mb (Ty.addN fr nd.text id).names.length (ki (Ty.addN fr nd.text id).names),ko ms]:=by
   unfold Ty.addN;simp only[lzA,lzC,lzN];exact h7
  exact Sat.CY LP.o h8
end
end
section
variable {P:Program} {Q:Exit->Act->World->Prop} {ops:Array Oper}
theorem y9(h: (ops.all λo=>match o.op with| .defer _=>false| _=>true)=true):∀(i:Nat)(o:Oper),ops[i]?=some o->∀c,o.op≠.defer c:=λi o hi c hc=>by
 rw[Array.all_eq_true]at h
 obtain⟨h1,h2⟩:=Array.getElem?_eq_some_iff.1 hi;have:=h i h1;rw[h2,hc]at this
 cases this
theorem DH(l n:Nat)(hQ:∀a w,¬Q .outgrown a w)(hd:∀(i:Nat)(o:Oper),ops[i]?=some o->∀c,o.op≠.defer c){i:Nat}{K K':Act->World->Prop}(hK:∀a w,K a w->K' a w){a:Act}{w:World}(h:wpOp P ops Q i K a w):wpOpIn (Fence.wide.inRound l) n P ops Q i K' a w:=by
 have hL:¬LetsOut Q:=λ⟨a,w,h⟩=>hQ a w h
 unfold wpOp at h;unfold wpOpIn;cases ho:ops[i]? with
 |none=>
  simp only[ho]at h⊢;exact hK _ _ h
 |some o=>
  simp only[ho]at h⊢;split
  ·rename_i hw;rw[if_pos hw]at h
   rcases h with h|⟨_,h⟩
   ·refine⟨λf _=>trivial,?_⟩;have e:o.semAt (Fence.wide.inRound l).round a.eval=execOp a.eval o:=Oper.semAt_some l _ _ (hd i o ho);rw[e];unfold Oper.wp at h;generalize(execOp a.eval o).run P w=r at*
    cases r with
    |ok x w'=>
     cases x<;>simp only[Oper.upon,Oper.uponIn]at h⊢
     case value v=>exact hK _ _ h
     case skip=>exact hK _ _ h
     case defer d=>exact hK _ _ h
     case enter f args=>
      refine⟨λhh=>(by cases hh),CallsIn.inRound l (callsIn_wide.2 (Calls.mono h λe Nj he=>?_))⟩;cases e with
      |returned v=>exact hK _ _ he
      |panicked c=>exact he
      |outgrown=>exact he
     case row row args=>
      refine⟨λhh=>(by cases hh),λc cs _=>?_⟩;obtain⟨v,Nj,hr,hs⟩:=h c cs;exact⟨v,Nj,hK _ _ hr,stepsIn_wide.2 hs⟩
    |halt x w'=>
     cases x<;>simp only[Oper.upon,Oper.uponIn]at h⊢
     case panic v=>exact h
   ·exact absurd h hL
  ·rename_i hw;rw[if_neg hw]at h
   exact⟨λf _=>trivial,hK _ _ h⟩
theorem r0(l n:Nat)(hQ:∀a w,¬Q .outgrown a w)(hd:∀(i:Nat)(o:Oper),ops[i]?=some o->∀c,o.op≠.defer c)(md:Region.Mode):∀(fuel:Nat)(listed:Array Bool)(a:Act)(w:World),wpAny P md ops Q fuel listed a w->wpAnyIn (Fence.wide.inRound l) n P md ops Q fuel listed a w
 |0,_,_,_,h=>h
 |fuel+1,_,_,_,h=>⟨h.1,λi hi=>DH l n hQ hd (λa w h=>r0 l n hQ hd md fuel _ a w h) (h.2 i hi)⟩
theorem sM{md:Region.Mode}{S:World->Prop}(i:Nat){oi:Oper}(v:Value){fuel:Nat}{listed:Array Bool}{a:Act}{w:World}(hi:ops[i]?=some oi)(hb: (Region.noSelect ops&&(Region.free md ops listed i&&(Region.ready md ops listed).contains i))=true)
  (hQ:∀c a w,Q (.panic c) (a.put oi.dst v) w->Q (.panic c) a w) (hw:Region.wanted oi (yielded ops a.tmps)=true) (hy:∀w,S w->(execOp a.eval oi).run P w=.ok (.value v) w) (hS:S w)
  (h:wpAnyH P md ops Q S fuel (listed.setIfInBounds i true) (a.put oi.dst v) w):wpAnyH P md ops Q S (fuel+1) listed a w:=by
 simp only[Bool.and_eq_true]at hb;exact wpAnyH_take hi hb.1 hb.2.1 hb.2.2 hQ (.inl ⟨hw,hy⟩) hS h
theorem mP{md:Region.Mode}{S:World->Prop}(i:Nat){oi:Oper}{v:Value}{fuel:Nat}{listed:Array Bool}{a a':Act}{w:World}(h:wpAnyH P md ops Q S fuel (listed.setIfInBounds i true) a' w)(hi:ops[i]?=some oi:=by rfl)(hb: (Region.noSelect ops&&(Region.free md ops listed i&&(Region.ready md ops listed).contains i))=true:=by kernel_rfl)
 (hQ:∀c a w,Q (.panic c) (a.put oi.dst v) w->Q (.panic c) a w:=by exact λ_ _ _ h=>h) (hw:Region.wanted oi (yielded ops a.tmps)=true:=by rfl) (hy:∀w,S w->(execOp a.eval oi).run P w=.ok (.value v) w:=by intro w' dH;(try dsimp only at dH);go_simp;with_reducible rfl) (hS:S w:=by assumption) (ha:a.put oi.dst v=a':=by simp only[Act.put,List.setIfInBounds_toArray,List.set_cons_zero,List.set_cons_succ];rfl):wpAnyH P md ops Q S (fuel+1) listed a w:=by
 subst ha;exact sM i v hi hb hQ hw hy hS h
theorem H_{md:Region.Mode}{S:World->Prop}(i:Nat){oi:Oper}{fuel:Nat}{listed:Array Bool}{a a':Act}{w:World}(h:wpAnyH P md ops Q S fuel (listed.setIfInBounds i true) a' w)(hi:ops[i]?=some oi:=by rfl)(hb: (Region.noSelect ops&&(Region.free md ops listed i&&(Region.ready md ops listed).contains i))=true:=by kernel_rfl)
 (hQ:∀c a w,Q (.panic c) (a.put oi.dst undef) w->Q (.panic c) a w:=by exact λ_ _ _ h=>h) (hw:Region.wanted oi (yielded ops a.tmps)=false:=by kernel_rfl) (hS:S w:=by assumption) (ha:a.put oi.dst undef=a':=by simp only[Act.put,List.setIfInBounds_toArray,List.set_cons_zero,List.set_cons_succ];rfl):wpAnyH P md ops Q S (fuel+1) listed a w:=by
 subst ha;simp only[Bool.and_eq_true]at hb;exact wpAnyH_take hi hb.1 hb.2.1 hb.2.2 hQ (.inr ⟨hw,rfl⟩) hS h
theorem iF{l n id:Nat}{S:World->Prop}{a:Act}{w:World}(hm:P.follows .mixedOrders=true)(hQ:∀a w,¬Q .outgrown a w)(hd:∀(i:Nat)(o:Oper),ops[i]?=some o->∀c,o.op≠.defer c)
  (h:wpAnyH P .any ops Q S ops.size (Array.replicate ops.size false) a w.drew): (Code.region id ops true).wpIn (Fence.wide.inRound l) n P Q a w:=
 wpIn_region_any hm (r0 l n hQ hd _ _ _ _ _ (wpAny_of_held _ _ _ _ h))
end
section
variable {w:World} {a b fn ps:Nat} {c ty:Int} {l:List Nat} {tx:BA} {lv:Value}
theorem CO{R:EW}(hR:∀v w',Sat w w' [bG w,jo ⟨10,a,b,c,l,tx,fn,ty,ps⟩ lv v l]->R (.returned v) w'):
  Calls prog 157 #[aG ⟨10,a,b,c,l,tx,fn,ty,ps⟩ lv] w R:=by
 have h1:=((Sat.fO w).aW (az ⟨10,a,b,c,l,tx,fn,ty,ps⟩ lv)).iA (P:=jo ⟨10,a,b,c,l,tx,fn,ty,ps⟩ lv lv l) (λ_=>.inl ⟨rfl,rfl⟩);have HR:=qh (hR _ _ h1);clear hR h1;dsimp only[aG]at*
 go_in;go_wp2_with fail;exact HR.o
theorem DF{R:EW}(hR:∀v w',Sat w w' [bG w,jo ⟨11,a,b,c,l,tx,fn,ty,ps⟩ lv v l]->R (.returned v) w'):
  Calls prog 157 #[aG ⟨11,a,b,c,l,tx,fn,ty,ps⟩ lv] w R:=by
 have h1:=((Sat.fO w).aW (az ⟨11,a,b,c,l,tx,fn,ty,ps⟩ lv)).iA (P:=jo ⟨11,a,b,c,l,tx,fn,ty,ps⟩ lv lv l) (λ_=>.inl ⟨rfl,rfl⟩);have HR:=qh (hR _ _ h1);clear hR h1;dsimp only[aG]at*
 go_in;go_wp2_with fail;exact HR.o
theorem Gj{R:EW}(hR:∀v w',Sat w w' [bG w,jo ⟨1,a,b,c,l,tx,fn,ty,ps⟩ lv v []]->R (.returned v) w'):
  Calls prog 157 #[aG ⟨1,a,b,c,l,tx,fn,ty,ps⟩ lv] w R:=by
 have h1:=(((Sat.fO w).aW (az ⟨1,a,b,c,l,tx,fn,ty,ps⟩ lv)).nil 3 1).cL (i:=1) rfl (Q:=jo ⟨1,a,b,c,l,tx,fn,ty,ps⟩ lv (.slice none 0 0) []) (λ_ h=>.inr h);have HR:=qh (hR _ _ h1);clear hR h1;dsimp only[aG]at*
 go_in;go_wp2_with fail;exact HR.o
theorem Hk{R:EW}(hR:∀v w',Sat w w' [bG w,jo ⟨2,a,b,c,l,tx,fn,ty,ps⟩ lv v []]->R (.returned v) w'):
  Calls prog 157 #[aG ⟨2,a,b,c,l,tx,fn,ty,ps⟩ lv] w R:=by
 have h1:=(((Sat.fO w).aW (az ⟨2,a,b,c,l,tx,fn,ty,ps⟩ lv)).nil 3 1).cL (i:=1) rfl (Q:=jo ⟨2,a,b,c,l,tx,fn,ty,ps⟩ lv (.slice none 0 0) []) (λ_ h=>.inr h);have HR:=qh (hR _ _ h1);clear hR h1;dsimp only[aG]at*
 go_in;go_wp2_with fail;exact HR.o
theorem GG{R:EW}(hR:∀v w',Sat w w' [bG w,jo ⟨3,a,b,c,l,tx,fn,ty,ps⟩ lv v []]->R (.returned v) w'):
  Calls prog 157 #[aG ⟨3,a,b,c,l,tx,fn,ty,ps⟩ lv] w R:=by
 have h1:=(((Sat.fO w).aW (az ⟨3,a,b,c,l,tx,fn,ty,ps⟩ lv)).nil 3 1).cL (i:=1) rfl (Q:=jo ⟨3,a,b,c,l,tx,fn,ty,ps⟩ lv (.slice none 0 0) []) (λ_ h=>.inr h);have HR:=qh (hR _ _ h1);clear hR h1;dsimp only[aG]at*
 go_in;go_wp2_with fail;exact HR.o
theorem Fm{R:EW}(hR:∀v w',Sat w w' [bG w,jo ⟨4,a,b,c,l,tx,fn,ty,ps⟩ lv v []]->R (.returned v) w'):
  Calls prog 157 #[aG ⟨4,a,b,c,l,tx,fn,ty,ps⟩ lv] w R:=by
 have h1:=(((Sat.fO w).aW (az ⟨4,a,b,c,l,tx,fn,ty,ps⟩ lv)).nil 3 1).cL (i:=1) rfl (Q:=jo ⟨4,a,b,c,l,tx,fn,ty,ps⟩ lv (.slice none 0 0) []) (λ_ h=>.inr h);have HR:=qh (hR _ _ h1);clear hR h1;dsimp only[aG]at*
 go_in;go_wp2_with fail;exact HR.o
theorem GO{R:EW}(hR:∀v w',Sat w w' [bG w,jo ⟨9,a,b,c,l,tx,fn,ty,ps⟩ lv v [a,b]]->R (.returned v) w'):
  Calls prog 157 #[aG ⟨9,a,b,c,l,tx,fn,ty,ps⟩ lv] w R:=by
 have h1:=(((Sat.fO w).aW (az ⟨9,a,b,c,l,tx,fn,ty,ps⟩ lv)).aj (.cells #[.int .i64 a,.int .i64 b] 3) (w.heap.size+1)).cL (i:=1) rfl (Q:=jo ⟨9,a,b,c,l,tx,fn,ty,ps⟩ lv (.slice (some ⟨w.heap.size+1,0,none⟩) 2 2) [a,b]) (λ_ h=>.inr (bn h rfl (by simp[maxLen]) (by simp[aO])));have HR:=qh (hR _ _ h1);clear hR h1;dsimp only[aG]at*
 go_in;go_wp2_with fail;exact HR.o
theorem Dz{R:EW}(hR:∀v w',Sat w w' [bG w,jo ⟨12,a,b,c,l,tx,fn,ty,ps⟩ lv v [a,b]]->R (.returned v) w'):
  Calls prog 157 #[aG ⟨12,a,b,c,l,tx,fn,ty,ps⟩ lv] w R:=by
 have h1:=(((Sat.fO w).aW (az ⟨12,a,b,c,l,tx,fn,ty,ps⟩ lv)).aj (.cells #[.int .i64 a,.int .i64 b] 3) (w.heap.size+1)).cL (i:=1) rfl (Q:=jo ⟨12,a,b,c,l,tx,fn,ty,ps⟩ lv (.slice (some ⟨w.heap.size+1,0,none⟩) 2 2) [a,b]) (λ_ h=>.inr (bn h rfl (by simp[maxLen]) (by simp[aO])));have HR:=qh (hR _ _ h1);clear hR h1;dsimp only[aG]at*
 go_in;go_wp2_with fail;exact HR.o
theorem DN{R:EW}(hR:∀v w',Sat w w' [bG w,jo ⟨19,a,b,c,l,tx,fn,ty,ps⟩ lv v [a,b]]->R (.returned v) w'):
  Calls prog 157 #[aG ⟨19,a,b,c,l,tx,fn,ty,ps⟩ lv] w R:=by
 have h1:=(((Sat.fO w).aW (az ⟨19,a,b,c,l,tx,fn,ty,ps⟩ lv)).aj (.cells #[.int .i64 a,.int .i64 b] 3) (w.heap.size+1)).cL (i:=1) rfl (Q:=jo ⟨19,a,b,c,l,tx,fn,ty,ps⟩ lv (.slice (some ⟨w.heap.size+1,0,none⟩) 2 2) [a,b]) (λ_ h=>.inr (bn h rfl (by simp[maxLen]) (by simp[aO])));have HR:=qh (hR _ _ h1);clear hR h1;dsimp only[aG]at*
 go_in;go_wp2_with fail;exact HR.o
theorem B6{R:EW}(hR:∀v w',Sat w w' [bG w,jo ⟨23,a,b,c,l,tx,fn,ty,ps⟩ lv v [a,b]]->R (.returned v) w'):
  Calls prog 157 #[aG ⟨23,a,b,c,l,tx,fn,ty,ps⟩ lv] w R:=by
 have h1:=(((Sat.fO w).aW (az ⟨23,a,b,c,l,tx,fn,ty,ps⟩ lv)).aj (.cells #[.int .i64 a,.int .i64 b] 3) (w.heap.size+1)).cL (i:=1) rfl (Q:=jo ⟨23,a,b,c,l,tx,fn,ty,ps⟩ lv (.slice (some ⟨w.heap.size+1,0,none⟩) 2 2) [a,b]) (λ_ h=>.inr (bn h rfl (by simp[maxLen]) (by simp[aO])));have HR:=qh (hR _ _ h1);clear hR h1;dsimp only[aG]at*
 go_in;go_wp2_with fail;exact HR.o
theorem CR(hc:0<=c){R:EW}(hR:∀v w',Sat w w' [bG w,jo ⟨20,a,b,c,l,tx,fn,ty,ps⟩ lv v [a,b,c.toNat]]->R (.returned v) w'):
  Calls prog 157 #[aG ⟨20,a,b,c,l,tx,fn,ty,ps⟩ lv] w R:=by
 have TL: ((c.toNat:Nat):Int)=c:=by omega
 have h1:=(((Sat.fO w).aW (az ⟨20,a,b,c,l,tx,fn,ty,ps⟩ lv)).aj (.cells #[.int .i64 a,.int .i64 b,.int .i64 c] 3) (w.heap.size+1)).cL (i:=1) rfl (Q:=jo ⟨20,a,b,c,l,tx,fn,ty,ps⟩ lv (.slice (some ⟨w.heap.size+1,0,none⟩) 3 3) [a,b,c.toNat]) (λ_ h=>.inr (bn h rfl (by simp[maxLen]) (by simp[aO,TL])));have HR:=qh (hR _ _ h1);clear hR h1;dsimp only[aG]at*
 go_in;go_wp2_with fail;exact HR.o
theorem Hj{R:EW}(hR:∀v w',Sat w w' [bG w,jo ⟨8,a,b,c,l,tx,fn,ty,ps⟩ lv v [a]]->R (.returned v) w'):
  Calls prog 157 #[aG ⟨8,a,b,c,l,tx,fn,ty,ps⟩ lv] w R:=by
 have h1:=(((Sat.fO w).aW (az ⟨8,a,b,c,l,tx,fn,ty,ps⟩ lv)).aj (.cells #[.int .i64 a] 3) (w.heap.size+1)).cL (i:=1) rfl (Q:=jo ⟨8,a,b,c,l,tx,fn,ty,ps⟩ lv (.slice (some ⟨w.heap.size+1,0,none⟩) 1 1) [a]) (λ_ h=>.inr (bn h rfl (by simp[maxLen]) (by simp[aO])));have HR:=qh (hR _ _ h1);clear hR h1;dsimp only[aG]at*
 go_in;go_wp2_with fail;exact HR.o
theorem Cq{R:EW}(hR:∀v w',Sat w w' [bG w,jo ⟨13,a,b,c,l,tx,fn,ty,ps⟩ lv v [a]]->R (.returned v) w'):
  Calls prog 157 #[aG ⟨13,a,b,c,l,tx,fn,ty,ps⟩ lv] w R:=by
 have h1:=(((Sat.fO w).aW (az ⟨13,a,b,c,l,tx,fn,ty,ps⟩ lv)).aj (.cells #[.int .i64 a] 3) (w.heap.size+1)).cL (i:=1) rfl (Q:=jo ⟨13,a,b,c,l,tx,fn,ty,ps⟩ lv (.slice (some ⟨w.heap.size+1,0,none⟩) 1 1) [a]) (λ_ h=>.inr (bn h rfl (by simp[maxLen]) (by simp[aO])));have HR:=qh (hR _ _ h1);clear hR h1;dsimp only[aG]at*
 go_in;go_wp2_with fail;exact HR.o
theorem B5{R:EW}(hR:∀v w',Sat w w' [bG w,jo ⟨14,a,b,c,l,tx,fn,ty,ps⟩ lv v [a]]->R (.returned v) w'):
  Calls prog 157 #[aG ⟨14,a,b,c,l,tx,fn,ty,ps⟩ lv] w R:=by
 have h1:=(((Sat.fO w).aW (az ⟨14,a,b,c,l,tx,fn,ty,ps⟩ lv)).aj (.cells #[.int .i64 a] 3) (w.heap.size+1)).cL (i:=1) rfl (Q:=jo ⟨14,a,b,c,l,tx,fn,ty,ps⟩ lv (.slice (some ⟨w.heap.size+1,0,none⟩) 1 1) [a]) (λ_ h=>.inr (bn h rfl (by simp[maxLen]) (by simp[aO])));have HR:=qh (hR _ _ h1);clear hR h1;dsimp only[aG]at*
 go_in;go_wp2_with fail;exact HR.o
theorem DZ{R:EW}(hR:∀v w',Sat w w' [bG w,jo ⟨15,a,b,c,l,tx,fn,ty,ps⟩ lv v [a]]->R (.returned v) w'):
  Calls prog 157 #[aG ⟨15,a,b,c,l,tx,fn,ty,ps⟩ lv] w R:=by
 have h1:=(((Sat.fO w).aW (az ⟨15,a,b,c,l,tx,fn,ty,ps⟩ lv)).aj (.cells #[.int .i64 a] 3) (w.heap.size+1)).cL (i:=1) rfl (Q:=jo ⟨15,a,b,c,l,tx,fn,ty,ps⟩ lv (.slice (some ⟨w.heap.size+1,0,none⟩) 1 1) [a]) (λ_ h=>.inr (bn h rfl (by simp[maxLen]) (by simp[aO])));have HR:=qh (hR _ _ h1);clear hR h1;dsimp only[aG]at*
 go_in;go_wp2_with fail;exact HR.o
theorem CI{R:EW}(hR:∀v w',Sat w w' [bG w,jo ⟨21,a,b,c,l,tx,fn,ty,ps⟩ lv v [a]]->R (.returned v) w'):
  Calls prog 157 #[aG ⟨21,a,b,c,l,tx,fn,ty,ps⟩ lv] w R:=by
 have h1:=(((Sat.fO w).aW (az ⟨21,a,b,c,l,tx,fn,ty,ps⟩ lv)).aj (.cells #[.int .i64 a] 3) (w.heap.size+1)).cL (i:=1) rfl (Q:=jo ⟨21,a,b,c,l,tx,fn,ty,ps⟩ lv (.slice (some ⟨w.heap.size+1,0,none⟩) 1 1) [a]) (λ_ h=>.inr (bn h rfl (by simp[maxLen]) (by simp[aO])));have HR:=qh (hR _ _ h1);clear hR h1;dsimp only[aG]at*
 go_in;go_wp2_with fail;exact HR.o
theorem Cj{R:EW}(hR:∀v w',Sat w w' [bG w,jo ⟨24,a,b,c,l,tx,fn,ty,ps⟩ lv v [a]]->R (.returned v) w'):
  Calls prog 157 #[aG ⟨24,a,b,c,l,tx,fn,ty,ps⟩ lv] w R:=by
 have h1:=(((Sat.fO w).aW (az ⟨24,a,b,c,l,tx,fn,ty,ps⟩ lv)).aj (.cells #[.int .i64 a] 3) (w.heap.size+1)).cL (i:=1) rfl (Q:=jo ⟨24,a,b,c,l,tx,fn,ty,ps⟩ lv (.slice (some ⟨w.heap.size+1,0,none⟩) 1 1) [a]) (λ_ h=>.inr (bn h rfl (by simp[maxLen]) (by simp[aO])));have HR:=qh (hR _ _ h1);clear hR h1;dsimp only[aG]at*
 go_in;go_wp2_with fail;exact HR.o
theorem DJ{R:EW}(hR:∀v w',Sat w w' [bG w,jo ⟨25,a,b,c,l,tx,fn,ty,ps⟩ lv v [a]]->R (.returned v) w'):
  Calls prog 157 #[aG ⟨25,a,b,c,l,tx,fn,ty,ps⟩ lv] w R:=by
 have h1:=(((Sat.fO w).aW (az ⟨25,a,b,c,l,tx,fn,ty,ps⟩ lv)).aj (.cells #[.int .i64 a] 3) (w.heap.size+1)).cL (i:=1) rfl (Q:=jo ⟨25,a,b,c,l,tx,fn,ty,ps⟩ lv (.slice (some ⟨w.heap.size+1,0,none⟩) 1 1) [a]) (λ_ h=>.inr (bn h rfl (by simp[maxLen]) (by simp[aO])));have HR:=qh (hR _ _ h1);clear hR h1;dsimp only[aG]at*
 go_in;go_wp2_with fail;exact HR.o
theorem Fu(hl:w.ownsRow 0 3 1 lv l.length (l.map aO))(BZ:l.length<=1000000){R:EW}(hR:∀v w',Sat w w' [bG w,jo ⟨7,a,b,c,l,tx,fn,ty,ps⟩ lv v (a::l)]->R (.returned v) w'):
  Calls prog 157 #[aG ⟨7,a,b,c,l,tx,fn,ty,ps⟩ lv] w R:=by
 obtain⟨j0,tj,vI,vJ,vH⟩:=info_parts iu;have HR:=qh hR;have h1:=(((Sat.fO w).aW (az ⟨7,a,b,c,l,tx,fn,ty,ps⟩ lv)).aj (.cells #[.int .i64 a] 3) (w.heap.size+1)).cL (i:=1) rfl (Q:=eY (.slice (some ⟨w.heap.size+1,0,none⟩) 1 1) [a]) (λ_ h=>bn h rfl (by simp[maxLen]) rfl);rcases hl.2 with⟨rfl,h0⟩|⟨g,cap,cur,rfl,Yk,aaN,kK,Dt,Rl,qp⟩
 ·have yP:l=[]:=List.length_eq_zero_iff.1 (by omega);subst yP;have H1:=qh h1;clear hR h1 hl h0;dsimp only[aG]at*
  go_in;go_wp2_with(at_builtin;go_loud(refine wpList_append_own_none rfl (.tmp 9) (.tmp 11) 39 rfl 0 3 j0 1 underlying39 tj _ 1 [aO a] (by rfl) (H1.o.row 1 rfl) (by rfl) ?_));go_wp2_with fail;exact HR.o _ _ (H1.o.cL (i:=1) rfl λ_ h=>.inr h)
 ·have bm:=(hl.alloc (az ⟨7,a,b,c,l,tx,fn,ty,ps⟩ (.slice (some ⟨g,0,none⟩) l.length cap))).alloc (.cells #[.int .i64 a] 3);have H1:=qh h1;have du:=qh bm;have Wn:∀X:Obj,((w.alloc X).alloc (.cells #[.int .i64 a] 3)).heap[w.heap.size+1]?=some (.cells #[.int .i64 a] 3):=λX=>by
   rw[show w.heap.size+1=(w.alloc X).heap.size by simp];exact heap_alloc_new _ _
  clear hR h1 hl bm Rl qp aaN;dsimp only[aG]at*
  go_in;go_wp2_with(at_builtin;go_loud(refine wpList_append_own _ rfl (.tmp 9) (.tmp 11) 39 rfl (w.heap.size+1) 3 j0 _ 1 8 underlying39 tj vI vJ vH rfl (by decide) _ 1 [aO a] (by rfl) ?c0 ⟨g,0,none⟩ l.length cap (l.map aO) (by rfl) (by simp) (World.ownsRow.cells du.o rfl) (by simp[aO,Value.oneCell']) (by unfold maxLen;omega) (by omega) (by simp) ?_))
  case c0=>exact⟨by simp,.inr ⟨w.heap.size+1,1,#[.int .i64 a],rfl,nR _,Wn _,nR _,by unfold maxLen;omega,rfl,rfl⟩⟩
  intro v' w' T' QF _;go_wp2_with fail;refine HR.o v' _ ?_;have hb:Below w.heap.size w w':=((((bR w.heap.size w).alloc (nR _) _).alloc (by simp) _).grown QF (by simp;omega) (λk hk=>by simp[Value.ownBlock]at hk;omega))
  have h2:=(Sat.fO w).newRow hb T' (by omega);exact h2.cL (i:=1) rfl λ_ h=>.inr (by
   unfold eY;rw[List.length_cons,show l.length+1=1+l.length by omega,List.map_cons];exact h)
end
theorem rZ{w:World}{nd:Nd}{lv:Value}(hk:nd.kind≠5/\nd.kind≠6/\nd.kind≠16/\nd.kind≠17/\nd.kind≠18/\nd.kind≠22/\nd.kind≠26)(h1:1<=nd.kind/\nd.kind<=26)(hc:nd.kind=20->0<=nd.c)(hl:w.ownsRow 0 3 1 lv nd.list.length (nd.list.map aO))(BZ:nd.list.length<=1000000){R:EW}
  (hR:∀v w',Sat w w' [bG w,jo nd lv v (aA nd)]->R (.returned v) w'):Calls prog 157 #[aG nd lv] w R:=by
 obtain⟨kd,a,b,c,l,tx,fn,ty,ps⟩:=nd;dsimp only at h1 hc hl BZ hk;have:kd=1\/kd=2\/kd=3\/kd=4\/kd=7\/kd=8\/kd=9\/kd=10\/kd=11\/kd=12\/kd=13\/kd=14\/kd=15\/kd=19\/kd=20\/kd=21\/kd=23\/kd=24\/kd=25:=by omega
 rcases this with rfl|rfl|rfl|rfl|rfl|rfl|rfl|rfl|rfl|rfl|rfl|rfl|rfl|rfl|rfl|rfl|rfl|rfl|rfl
 ·exact Gj hR
 ·exact Hk hR
 ·exact GG hR
 ·exact Fm hR
 ·exact Fu hl BZ hR
 ·exact Hj hR
 ·exact GO hR
 ·exact CO hR
 ·exact DF hR
 ·exact Dz hR
 ·exact Cq hR
 ·exact B5 hR
 ·exact DZ hR
 ·exact DN hR
 ·exact CR (hc rfl) hR
 ·exact CI hR
 ·exact B6 hR
 ·exact Cj hR
 ·exact DJ hR
section
open Ty (Frm Vg aN)
abbrev ez:=List Frm->Vg->Except Ty.Ft (List Frm×Vg)
def dI:List ez->ez
 |[],frs,v=>.ok (frs,v)
 |F::l,frs,v=>aN (F frs v) λr=>dI l r.1 r.2
theorem lC(F:ez):∀(l:List ez)(frs:List Frm)(v:Vg),dI (l++[F]) frs v=aN (dI l frs v) λr=>F r.1 r.2
 |[],frs,v=>by
  show aN (F frs v) (λr=>.ok (r.1,r.2))=F frs v;cases F frs v<;>rfl
 |G::l,frs,v=>by
  show aN (G frs v) (λr=>dI (l++[F]) r.1 r.2)=aN (aN (G frs v) λr=>dI l r.1 r.2) λr=>F r.1 r.2
  rw[aM];congr 1;funext r;exact lC F l r.1 r.2
theorem Aq:∀(l m:List ez)(frs:List Frm)(v:Vg),dI (l++m) frs v=aN (dI l frs v) λr=>dI m r.1 r.2
 |[],_,_,_=>rfl
 |F::l,m,frs,v=>by
  show aN (F frs v) (λr=>dI (l++m) r.1 r.2)=aN (aN (F frs v) λr=>dI l r.1 r.2) λr=>dI m r.1 r.2
  rw[aM];congr 1;funext r;exact Aq l m r.1 r.2
structure OkS(c:Nat)(frs:List Frm)(v:Vg):Prop where
 ne:frs≠[]
 len:frs.length<=c
 names:∀fr∈frs,fr.names.length<=c
 Ot:∀fr∈frs,-1<=fr.of/\fr.of<=1000000
 out:v.out.length<=c
theorem OkS.mono{c d:Nat}{frs:List Frm}{v:Vg}(h:OkS c frs v)(hd:c<=d):OkS d frs v:=
 ⟨h.ne,nT h.len hd,λfr hf=>nT (h.names fr hf) hd,h.Ot,nT h.out hd⟩
def pG(bb:Nat)(nv tv:Value)(main:Int)(c:Nat)(frs:List Frm)(v:Vg):As:=cm λp:Nat×Nat=>ah [bX (p.1<=c/\p.2<=c/\OkS c frs v),CA bb nv tv main frs v p.1 p.2]
section
variable {wB w:World} {Fr:As} {bb:Nat} {nv tv:Value} {pg:Ty.Pg} {main:Int} {frs:List Frm} {v:Vg} {c:Nat}
theorem Prt.Sat.iw(h:Sat wB w [Fr,pG bb nv tv main c frs v]):∃nw nc,nw<=c/\nc<=c/\OkS c frs v/\Sat wB w [Fr,CA bb nv tv main frs v nw nc]:=by
 obtain⟨⟨nw,nc⟩,h⟩:=h.ex (i:=1) rfl;have h:=h.unpack (i:=1) rfl;have hp:nw<=c/\nc<=c/\OkS c frs v:=h.get (i:=1) rfl λ_ ha _=>ha
 exact⟨nw,nc,hp.1,hp.2.1,hp.2.2,h.pick [0,2]⟩
theorem Prt.Sat.vF{nw nc:Nat}(h1:nw<=c)(h2:nc<=c)(h3:OkS c frs v)(h:Sat wB w [Fr,CA bb nv tv main frs v nw nc]):Sat wB w [Fr,pG bb nv tv main c frs v]:=by
 have h4:=(h.iA (P:=bX (nw<=c/\nc<=c/\OkS c frs v)) (λ_=>⟨h1,h2,h3⟩)).pick [0,2,1];exact(Sat.pack (L:=[Fr]) h4).cL (i:=1) rfl λ_ h=>⟨(nw,nc),h⟩
theorem Prt.Sat.RQ{d:Nat}(hd:c<=d)(h:Sat wB w [Fr,pG bb nv tv main c frs v]):Sat wB w [Fr,pG bb nv tv main d frs v]:=by
 obtain⟨nw,nc,h1,h2,h3,h4⟩:=h.iw;exact h4.vF (by omega) (by omega) (h3.mono hd)
def iM(wB:World)(nv tv:Value)(bb:Nat)(main:Int)(id:Nat)(k:Nat)(F:ez):Prop:=
 ∀(frs:List Frm)(v:Vg)(c:Nat)(w:World)(Fr:As),gR wB Fr->Sat wB w [Fr,pG bb nv tv main c frs v]->c+k<=100000->∀R:EW,
  (∀dD v' w',F frs v=.ok (dD,v')->Sat wB w' [Fr,pG bb nv tv main (c+k) dD v']->R (.returned (.tuple #[])) w')->
  (∀f w',F frs v=.error f->Sat wB w' [Fr]->R (.panicked (aI f)) w')->
  Calls prog 132 #[.pointer (some ⟨bb,0,none⟩),.int .i64 (id:Nat)] w R
def dq(l:List (Nat×ez)):Nat:=(l.map Prod.fst).foldr (· + ·) 0
theorem FG(l:List (Nat×ez)):∀{j:Nat}(h:j<l.length),dq (l.take (j+1))=dq (l.take j)+l[j].1:=by
 induction l with
 |nil=>intro j h;simp at h
 |cons p l ih=>
  intro j h;cases j with
  |zero=>simp[dq]
  |succ j=>
   have:=ih (j:=j) (by simpa using h);unfold dq at this⊢;simp only[List.take_succ_cons,List.map_cons,List.foldr_cons,List.getElem_cons_succ];omega
theorem Mp(l:List (Nat×ez)):∀j,dq (l.take j)<=dq l:=by
 induction l with
 |nil=>intro j;simp[dq]
 |cons p l ih=>
  intro j;cases j with
  |zero=>simp[dq]
  |succ j=>
   have:=ih j;unfold dq at this⊢;simp only[List.take_succ_cons,List.map_cons,List.foldr_cons];omega
theorem oB(hF:gR wB Fr){ids:List Nat}{cs:List (Nat×ez)}{lv:Value}(hlen:ids.length=cs.length)(hC:∀j(h1:j<ids.length)(h2:j<cs.length),iM wB nv tv bb main ids[j] cs[j].1 cs[j].2)
  (bm:∀(w1:World)(L:List As)(i:Nat),Sat wB w1 L->L[i]?=some Fr->w1.ownsRow 0 3 1 lv ids.length (ids.map aO)) (hn:ids.length<=1000000) (H:Sat wB w [Fr,pG bb nv tv main c frs v]) (hc:c+dq cs<=100000) {R:EW}
  (aH:∀dD v' w',dI (cs.map Prod.snd) frs v=.ok (dD,v')->Sat wB w' [Fr,pG bb nv tv main (c+dq cs) dD v']->R (.returned (.tuple #[])) w')
  (au:∀f w',dI (cs.map Prod.snd) frs v=.error f->Sat wB w' [Fr]->R (.panicked (aI f)) w'):
  Calls prog 82 #[.pointer (some ⟨bb,0,none⟩),lv] w R:=by
 have aX:=qh aH;have aB:=qh au;have HF:=qh hF;have HC:=qh hC;have du:=qh bm;have HL:=qh hlen;have H1:=qh H;obtain⟨la,lc,rfl⟩:=ag (bm w _ 0 H rfl);have BU:=qh hc;clear aH au hF hC bm hlen H hc;go_in;go_wp2_with fail;go_loopw [8] (λi wr=>∃(j:Nat)(E9:List Frm)(v1:Vg),i=.int .i64 j/\j<=ids.length/\Hq (dI ((cs.map Prod.snd).take j) frs v=.ok (E9,v1))/\Hq (Sat wB wr [Fr,pG bb nv tv main (c+dq (cs.take j)) E9 v1])) (λi _=>ids.length-(intOf i).toNat)
 case atStart=>exact⟨0,frs,v,rfl,Nat.zero_le _,rfl,H1.o⟩
 case round=>
  obtain⟨j,E9,v1,rfl,hj,hE,hS⟩:=hrel;by_cases a_:j<ids.length
  ·obtain⟨gl,jB,e,ku,d0⟩:=ints_at (du.o wr _ 0 hS.out rfl) j a_;cases e;have eF:j<cs.length:=by rw[<-HL.o];exact a_
   have gJ:=FG cs eF;have hle:=Mp cs (j+1);have qp: (cs.map Prod.snd).take (j+1)=(cs.map Prod.snd).take j++[cs[j].2]:=by rw[List.take_succ_eq_append_getElem (by simpa using eF)];simp
   have pK:Hq (dI ((cs.map Prod.snd).take (j+1)) frs v=cs[j].2 E9 v1):=by show _= _;rw[qp,lC,hE.out];rfl
   have pI:=qh (HC.o j a_ eF E9 v1 _ wr _ HF.o hS.out (by have:=BU.o;omega));have yU:=qh gJ;have Uu:Hq (∀f,cs[j].2 E9 v1=.error f->dI (cs.map Prod.snd) frs v=.error f):=λf hf=>by
    have h1:dI ((cs.map Prod.snd).take (j+1)) frs v=.error f:=by rw[pK.o,hf]
    rw[<-List.take_append_drop (j+1) (cs.map Prod.snd),Aq,h1];rfl
   clear gJ hle qp;generalize ids[j]=ij at*
   go_wp2_with fail;refine pI.o _ (λiK v2 w4 hq h4=>?_) (λf w4 hq h4=>?_)
   ·have fR:Hq (dI ((cs.map Prod.snd).take (j+1)) frs v=.ok (iK,v2)):=by show _= _;rw[pK.o,hq]
    have H4:=qh h4;clear h4 hq;go_wp2_with fail;go_roundw
    case rel=>exact⟨j+1,iK,v2,by go_num,by omega,fR,by show Sat _ _ _;rw[yU.o,<-Nat.add_assoc];exact H4.o⟩
    case measure=>simp[intOf];omega
   ·exact⟨rfl,aB.o f w4 (Uu.o f hq) h4⟩
  ·have gO:j=cs.length:=by have:=HL.o;omega
   have DE:=hE.out;have h6:=hS.out;rw[gO,List.take_of_length_le (by simp)]at DE
   rw[gO,List.take_of_length_le (Nat.le_refl _)]at h6
   have fR:=qh DE;have H6:=qh h6;clear DE h6 gO;go_wp2_with fail;go_end0;exact aX.o _ _ _ fR.o H6.o
end
def lP(x:BA)(id:Nat):List Frm->Vg->List Frm×Vg
 |[],v=>([],v)
 |fr::l,v=>(Ty.addN fr x id::l,vr v id fr.of)
theorem Ku{c:Nat}{frs:List Frm}{v:Vg}{x:BA}{id:Nat}(h:OkS c frs v):OkS (c+1) (lP x id frs v).1 (lP x id frs v).2:=by
 cases frs with
 |nil=>exact absurd rfl h.ne
 |cons fr l=>
  refine⟨by simp[lP],by have:=h.len;simp[lP]at*;omega,λf hf=>?_,λf hf=>?_,nT h.out (by omega)⟩
  ·rcases List.mem_cons.1 hf with rfl|hf
   ·have:=h.names fr (by simp);simp[Ty.addN];omega
   ·have:=h.names f (by simp[hf]);omega
  ·rcases List.mem_cons.1 hf with rfl|hf
   ·exact h.Ot fr (by simp)
   ·exact h.Ot f (by simp[hf])
section
variable {wB w:World} {Fr:As} {bb:Nat} {nv tv:Value} {pg:Ty.Pg} {main:Int} {frs:List Frm} {v:Vg} {c:Nat}
theorem qR(hP:PB wB nv tv pg)(hF:gR wB Fr){id:Nat}{nd:Nd}(hn:pg.ns[id]?=some nd)(hx:nd.text.size<=maxLen)(H:Sat wB w [Fr,pG bb nv tv main c frs v])(hc:c+1<=100000){R:EW}
  (hR:∀w',Sat wB w' [Fr,pG bb nv tv main (c+1) (lP nd.text id frs v).1 (lP nd.text id frs v).2]->R (.returned (.tuple #[])) w'):
  Calls prog 286 #[.pointer (some ⟨bb,0,none⟩),.int .i64 (id:Nat)] w R:=by
 obtain⟨nw,nc,h1,h2,h3,h4⟩:=H.iw;cases frs with
 |nil=>exact absurd rfl h3.ne
 |cons fr l=>
  have sO:=h3.names fr (by simp);have hl:=h3.len;rw[List.length_cons]at hl
  exact Bv hP hF hn hx h4 (by omega) (by omega) (by omega) (h3.Ot fr (by simp)) λw' h5=>hR w' (h5.vF (by omega) (by omega) (Ku h3))
end
def zi(p:Nat)(x:BA)(id:Nat)(fn:Bool)(G:ez):ez:=λfrs v=>
 match frs with
 |[]=>.ok ([],v)
 |fr::l=>if(Ty.eR fr.names x).isSome then .error (6,p)else if fn then G (lP x id (fr::l) v).1 (lP x id (fr::l) v).2 else aN (G (fr::l) v) λr=>.ok (lP x id r.1 r.2)
section
variable {wB:World} {nv tv:Value} {pg:Ty.Pg} {bb:Nat} {main:Int}
theorem NU(hP:PB wB nv tv pg){id p b:Nat}{x:BA}{ty:Int}(hn:pg.ns[id]?=some {Ty.af 17 p with text:=x,ty:=ty,a:=b})(hx:x.size<=maxLen){nb:Nd}(sL:pg.ns[b]?=some nb){fn:Bool}(xh: (((nb.kind:Nat):Int)==6)=fn)
  {k:Nat} {G:ez} (C:iM wB nv tv bb main b k G) {frs:List Frm} {v:Vg} {c:Nat} {w:World} {Fr:As} (hF:gR wB Fr) (H:Sat wB w [Fr,pG bb nv tv main c frs v]) (hc:c+(k+1)<=100000) {R:EW}
  (aH:∀dD v' w',zi p x id fn G frs v=.ok (dD,v')->Sat wB w' [Fr,pG bb nv tv main (c+(k+1)) dD v']->R (.returned (.tuple #[])) w')
  (au:∀f w',zi p x id fn G frs v=.error f->Sat wB w' [Fr]->R (.panicked (aI f)) w'):
  Calls prog 215 #[.pointer (some ⟨bb,0,none⟩),.int .i64 (id:Nat)] w R:=by
 obtain⟨nw,nc,v7,we,oS,h1⟩:=H.iw;obtain⟨fr,l,rfl⟩:∃fr l,frs=fr::l:=by
  cases frs with
  |nil=>exact absurd rfl oS.ne
  |cons fr l=>exact⟨fr,l,rfl⟩
 have aX:=qh aH;have aB:=qh au;have HF:=qh hF;have dO:=qh (λ(w1:World)(hb:Below wB.heap.size wB w1) h0 gQ R hR=>dA (w:=w1) (bb:=bb) (R:=R) hP hb hn h0 gQ hR);obtain⟨sv,ov,wb,cb,mb,ms,gS,h2⟩:=h1.yA;have k0:=h2.cell 1 rfl 0 rfl;have gQ:=h2.lt 1 rfl;have H2:=qh h2;have LP:=qh gS;clear aH au h2 h1 gS H;have f0:=λof=>BD mb of
 go_in;go_wp2_with fail;refine dO.o w (HF.o _ _ 0 H2.o rfl) k0 gQ _ (λlv w2 aD hl=>?_);have h3:=H2.o.below aD;obtain⟨la,lc,rfl⟩:=ag hl;unfold aG;dsimp only[Ty.af];have h4:=h3.aj (az ⟨17,b,0,0,[],x,0,ty,p⟩ (.slice la 0 lc)) w2.heap.size;have B4:ms.length<=1000000:=by have:=oS.len;have:=congrArg List.length LP.o;simp at*;omega
 obtain⟨g,cap,rfl,hg,d0,d1⟩:=uP (h4.row 2 rfl);have c3:=h4.cell 1 rfl 3 rfl;have p5:=h4.cell 8 rfl 5 rfl;have O6:=h4.lt 1 rfl;have HZ:Hq (∀W:World,(zeroValue 3).run prog W=.ok (.int .i64 0) W):=λW=>by simp[zeroValue,go_sem];rfl
 have H4:=qh h4;clear h3 h4 aD hl H2 k0 gQ;dsimp only at p5;go_wp2_with fail;go_region_held3(λw'=>w'.cell? ⟨w2.heap.size,5,none⟩=some (.string x)) (go_keep)
  ((go_at_call 217;refine qu (w:=(w2.alloc (az ⟨17,b,0,0,[],x,0,ty,p⟩ (.slice la 0 lc))).drew) c3 d0 d1 O6 hg B4 (λw5 dM=>?_);have h5:=H4.o.drew.below dM;have s5:w5.cell? ⟨w2.heap.size,5,none⟩=some (.string x):=h5.cell 8 rfl 5 rfl;obtain⟨D,hD,mg⟩:=h5.fi 6 rfl;obtain⟨u,ps,Oa,hu⟩:=hD.look_ok ve underlying193 (HZ.o w5) (plainElem_int underlying3 (by decide)) (WideMaps.keyOf_string_mk underlying9 hx);obtain⟨cc,rfl,_,_⟩:=plainElem_int_inv underlying3 hu;rw[(mg.2 x).1]at Oa;have H5:=qh h5;clear h5 hD mg dM hu))
 all_goals
  have h6:Sat wB w5 [Fr,CA bb nv tv main (fr::l) v nw nc,av w2.heap.size (az ⟨17,b,0,0,[],x,0,ty,p⟩ (.slice la 0 lc))]:=by
   have h7:=(Sat.pack (L:=[_,_,_,_,_,_,_]) (M:=[Fr,av w2.heap.size (az ⟨17,b,0,0,[],x,0,ty,p⟩ (.slice la 0 lc))]) (H5.o.pick [1,2,3,4,5,6,7,0,8])).pick [7,0,1,2,3,4,5,6];exact(Sat.CY (Fr:=ah [Fr,av w2.heap.size (az ⟨17,b,0,0,[],x,0,ty,p⟩ (.slice la 0 lc))]) LP.o h7).kJ
  have p8:=h6.cell 2 rfl 8 rfl;have p1:=h6.cell 2 rfl 1 rfl;dsimp only at p8 p1;have k0:=H5.o.cell 1 rfl 0 rfl;have Wu:=H5.o.lt 1 rfl;have H6:=qh h6;clear h6 H4 H5 Oa s5 c3 p5 d0 d1 hg;cases hq: (Ty.eR fr.names x).isSome with
  |true=>
   have eB:=qh (aB.o (6,p) w5 (by unfold zi;dsimp only;rw[hq];rfl) (H6.o.pick [0]));clear hq;go_wp2_with fail;refine vB (e:=6) (p:=p) ?_;exact⟨rfl,eB.o⟩
  |false=>
   have HQ:=qh hq;have HN:=qh hn;have WY:=qh oS;clear hq hn oS;go_wp2_with fail;refine dA hP (HF.o w5 _ 0 H6.o rfl) sL k0 Wu (λqx w6 zt QU=>?_);have h7:=H6.o.below zt;have p1:=h7.cell 2 rfl 1 rfl;have fk:=KG nb qx;obtain⟨rL,sw,rfl⟩:=ag QU;have h8:=(Sat.pack (L:=[_]) (M:=[Fr,av w2.heap.size (az ⟨17,b,0,0,[],x,0,ty,p⟩ (.slice la 0 lc))]) (h7.pick [1,0,2])).pick [1,0];have H8:=qh (h8.vF v7 we WY.o);have cC:=qh (HF.o.ah (M:=[av w2.heap.size (az ⟨17,b,0,0,[],x,0,ty,p⟩ (.slice la 0 lc))]));clear h7 h8 zt QU H6 k0 p8;dsimp only at p1;unfold aG;cases fn with
   |true=>
    go_wp2_with fail;refine qR hP cC.o HN.o hx H8.o (by omega) (λw7 h9=>?_);have p1:=(h9.unpack (i:=0) rfl).cell 2 rfl 1 rfl;dsimp only at p1;have H9:=qh h9;clear h9;go_wp2_with fail;refine C _ _ _ w7 _ cC.o H9.o (by omega) _ (λdD v' w8 kR dG=>?_) (λf w8 kR dG=>?_)
    ·have HG:=qh (aX.o dD v' w8 (by unfold zi;dsimp only;rw[HQ.o];exact kR) (by rw[show c+(k+1)=c+1+k by omega];exact dG.kJ.pick [0,1]));clear dG kR;go_wp2_with fail;go_end0;exact HG.o
    ·exact⟨rfl,aB.o f w8 (by unfold zi;dsimp only;rw[HQ.o];exact kR) ((dG.unpack (i:=0) rfl).pick [0])⟩
   |false=>
    go_wp2_with fail;refine C _ _ _ w6 _ cC.o H8.o (by omega) _ (λdD v' w8 kR dG=>?_) (λf w8 kR dG=>?_)
    ·have acO:=qh kR;have pL:=qh dG;clear dG kR;go_wp2_with fail;refine qR hP cC.o HN.o hx pL.o (by omega) (λw9 jE=>?_);have HG:=qh (aX.o _ _ w9 (by unfold zi;dsimp only;rw[HQ.o];simp only[Bool.false_eq_true,if_false];rw[acO.o];rfl) (by rw[show c+(k+1)=c+k+1 by omega];exact jE.kJ.pick [0,1]));clear jE;go_wp2_with fail;go_end0;exact HG.o
    ·exact⟨rfl,aB.o f w8 (by unfold zi;dsimp only;rw[HQ.o];simp only[Bool.false_eq_true,if_false];rw[kR];rfl) ((dG.unpack (i:=0) rfl).pick [0])⟩
end
end
end Go.Proofs.YtdlbhiaceheffabGreatDoor
