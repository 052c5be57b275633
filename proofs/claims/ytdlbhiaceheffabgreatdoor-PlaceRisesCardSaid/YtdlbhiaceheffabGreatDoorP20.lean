/- Walk of check: the checker's memory. -/
import Derived.Test.YtdlbhiaceheffabGreatDoorP19
set_option linter.all false
set_option maxRecDepth 100000
set_option maxHeartbeats 8000000
namespace Go.Proofs.YtdlbhiaceheffabGreatDoor
open Go Go.RowKit Ty Tok ak Tryz Proofs.Tryz
section
open Go.WideElems (Fit rg)
open Ty (Tr Ck)
abbrev Dv:=DataW Value
def LH(v:Value):Option (Dv×List MemPlace):=some (.held v,[])
def jz(k:TypeId)(b n:Nat)(Φ:Dv→Prop):As:=λh=>∃es clock,h b=some (.map es clock)∧Fit (H:=Value) prog k LH es clock∧es.size≤n∧Φ (.map ((es.toList.map (rg prog k LH)).foldr DataW.insert []))
section
variable {w0 w w':World} {L:List As} {k:TypeId} {b n:Nat} {Φ:Dv→Prop}
theorem ak.Sat.Ep(h:Sat w0 w L)(k b:Nat)(hb:b=w.heap.size)(XB:Φ (.map [])):Sat w0 (w.alloc (.map #[] 0)) (L++[jz k b 0 Φ]):=by
 subst hb;refine h.new ((bR _ _).alloc (nR _) _) ⟨λj=>if j=w.heap.size then some (.map #[] 0)else none,⟨#[],0,by simp,⟨by simp,MapKept.stamped_empty 0,by simp⟩,nR _,XB⟩,λj x ex=>?_,λj hj=>?_⟩
 ·dsimp only at ex;split at ex
  ·rename_i hk;subst hk;cases ex;exact heap_alloc_new w _
  ·cases ex
 ·dsimp only;rw[if_neg (by omega)]
theorem ak.Sat.fT(h:Sat w0 w L)(i:Nat)(hi:L[i]?=some (jz k b n Φ)):∃D:Dv,w.ownsMap prog k LH b n D∧Φ D:=by
 obtain⟨a,b',_,h2,_,h4,_⟩:=fL h.mem hi;obtain⟨es,clock,g1,g2,g3,g4⟩:=h4;exact⟨_,⟨es,clock,h2 b _ g1,g2,g3,rfl⟩,g4⟩
theorem ak.Sat.jI(h:Sat w0 w L)(i:Nat)(hi:L[i]?=some (jz k b n Φ)){n':Nat}{D:Dv}{Ψ:Dv→Prop}(hg:w.grownBy w' (some b))(ho:w'.ownsMap prog k LH b n' D)(WO:Ψ D):Sat w0 w' (L.set i (jz k b n' Ψ)):=by
 obtain⟨es,clock,g1,g2,g3,rfl⟩:=ho;refine h.Uk hi hg.os hg.tape hg.output λa ha hl=>⟨λj=>if j=b then some (.map es clock)else none,⟨es,clock,by simp,g2,g3,WO⟩,λj x ex=>?_,λj hj bm=>?_⟩
 ·dsimp only at ex;split at ex
  ·rename_i hk;subst hk;cases ex;exact g1
  ·cases ex
 ·have bZ:j≠b:=by
   rintro rfl
   obtain⟨abL,c2,e2,_⟩:=ha;rw[hj]at e2;cases e2
  exact⟨by dsimp only;rw[if_neg bZ],hg.block j bm (by simpa using bZ)⟩
end
def f_(f:Nat→Option Value)(D:Dv):Prop:=Maps.IsMap D∧∀m:Nat,Maps.has D (.int .i64 (m:Nat))=(f m).isSome∧D.atKey (.int .i64 (m:Nat)) (.held (.pointer none))=.held ((f m).getD (.pointer none))
theorem Br:f_ (λ_=>none) (.map []):=⟨Maps.isMap_empty,λ_=>⟨rfl,rfl⟩⟩
theorem jx{f:Nat→Option Value}{D:Dv}(h:f_ f D)(n:Nat)(p:Value):f_ (λk=>if k=n then some p else f k) (D.put (.int .i64 (n:Nat)) (.held p)):=by
 refine⟨h.1.put _ _,λm=>?_⟩;dsimp only;by_cases hx:m=n
 ·subst hx;rw[if_pos rfl,Maps.atKey_put_same h.1 (show WideAt.IsKeyLit (.int _ _)from trivial),Maps.has_put_same h.1 (show WideAt.IsKeyLit (.int _ _)from trivial)];exact⟨rfl,rfl⟩
 ·rw[if_neg hx,Maps.atKey_put_other (jl hx),Maps.has_put_other (jl hx)];exact h.2 m
structure Cx where
 nv:Value
 tv:Value
 main:Int
 sO:Nat
 nt:Nat
 wi:Nat→Option Int
 cav:Value
def Cx.a_(X:Cx)(n:Nat):Nat:=((X.wi n).getD 0).toNat
def Tx(wi:Nat→Option Int):Prop:=∀n,0≤(wi n).getD 0∧(wi n).getD 0≤100000
abbrev N1(X:Cx)(ofb hasb:Nat)(bkv:Value):Obj:=.cells #[X.nv,X.tv,.int .i64 X.main,.map (some X.sO),X.cav,.map (some ofb),.map (some hasb),bkv] 106 (0,0)
structure CkW(w:World)(cb:Nat)(X:Cx)(ofb hasb:Nat)(s:Ck)(h0:ak.Hp):Prop where
 lt:cb<w.heap.size
 le:ak.le h0 (ak.hp w)
 c0:w.cell? ⟨cb,0,none⟩=some X.nv
 c1:w.cell? ⟨cb,1,none⟩=some X.tv
 c3:w.cell? ⟨cb,3,none⟩=some (.map (some X.sO))
 c5:w.cell? ⟨cb,5,none⟩=some (.map (some ofb))
 c6:w.cell? ⟨cb,6,none⟩=some (.map (some hasb))
 Wo:∃n D,w.ownsMap prog 3 (plainElem prog 3) X.sO n D∧cH X.wi D
 of:∃n D fv,w.ownsMap prog 3 LH ofb n D∧f_ fv D∧∀n t,s.of n=some t→∃p,fv n=some p∧rep h0 t p
 has:∃n D fv,w.ownsMap prog 3 LH hasb n D∧f_ fv D∧∀n t,s.has n=some t→∃p,fv n=some p∧rep h0 t p
 fK:FineS s
 wi:Tx X.wi
theorem fY{H:Type}{R:Value→Option (DataW H×List MemPlace)}{w w':World}{k:TypeId}{b n:Nat}{D:DataW H}(h:w.ownsMap prog k R b n D)(hb:Below w.heap.size w w'):w'.ownsMap prog k R b n D:=by
 obtain⟨es,clock,g1,g2,g3,g4⟩:=h;exact⟨es,clock,by rw[hb.block b (Array.getElem?_eq_some_iff.1 g1).1];exact g1,g2,g3,g4⟩
theorem nM{w w':World}{h0:ak.Hp}(h:ak.le h0 (ak.hp w))(hb:Below w.heap.size w w'):ak.le h0 (ak.hp w'):=λk o e=>by
 have:=h k o e;show w'.heap[k]?= _;rw[hb.block k (Array.getElem?_eq_some_iff.1 this).1];exact this
theorem CkW.below{w w':World}{cb ofb hasb:Nat}{X:Cx}{s:Ck}{h0:ak.Hp}(h:CkW w cb X ofb hasb s h0)(hb:Below w.heap.size w w'):CkW w' cb X ofb hasb s h0:=by
 obtain⟨n1,D1,g1,g2⟩:=h.Wo;obtain⟨n2,D2,f2,k2,k3,k4⟩:=h.of;obtain⟨n3,D3,f3,l2,l3,l4⟩:=h.has;exact⟨nL h.lt hb.size,nM h.le hb,aq hb h.c0,aq hb h.c1,aq hb h.c3,aq hb h.c5,aq hb h.c6,⟨n1,D1,fY g1 hb,g2⟩,⟨n2,D2,f2,fY k2 hb,k3,k4⟩,⟨n3,D3,f3,fY l2 hb,l3,l4⟩,h.fK,h.wi⟩
theorem CkW.drew{w:World}{cb ofb hasb:Nat}{X:Cx}{s:Ck}{h0:ak.Hp}(h:CkW w cb X ofb hasb s h0):CkW w.drew cb X ofb hasb s h0:=h.below (Below.drew (bR _ _))
theorem KB(W:World): (zeroValue 107).run prog W=.ok (.pointer none) W:=by simp[zeroValue,go_sem];rfl
theorem E0(W:World): (zeroValue 3).run prog W=.ok (.int .i64 0) W:=by simp[zeroValue,go_sem];rfl
theorem j_{w:World}{b n m:Nat}{D:Dv}{fv:Nat→Option Value}(h:w.ownsMap prog 3 LH b n D)(hD:f_ fv D)(hm:m≤100000): (Instr.lookup 103 (.map (some b)) (.int .i64 (m:Nat)) false).run prog w=.ok ((fv m).getD (.pointer none)) w:=by
 have od: (Lit.int .i64 (m:Nat)).wf=true:=WalkArith.wf_i64 (by omega);obtain⟨v,ps,qy,hv⟩:=h.lookup dn underlying103 (KB w) (zd:=.held (.pointer none)) (zp:=[]) rfl (Maps.keyOf_int_mk underlying3 od);rw[(hD.2 m).2]at hv
 unfold LH at hv;simp only[Option.some.injEq,Prod.mk.injEq,DataW.held.injEq]at hv;rw[qy,hv.1]
theorem zP{w:World}{b n m:Nat}{D:Dv}{fv:Nat→Option Value}(h:w.ownsMap prog 3 LH b n D)(hD:f_ fv D)(hm:m≤100000): (Instr.lookup 103 (.map (some b)) (.int .i64 (m:Nat)) true).run prog w=.ok (.tuple #[(fv m).getD (.pointer none),.bool (fv m).isSome]) w:=by
 have od: (Lit.int .i64 (m:Nat)).wf=true:=WalkArith.wf_i64 (by omega);obtain⟨v,ps,qy,hv⟩:=h.look_ok dn underlying103 (KB w) (zd:=.held (.pointer none)) (zp:=[]) rfl (Maps.keyOf_int_mk underlying3 od);rw[(hD.2 m).2]at hv
 unfold LH at hv;simp only[Option.some.injEq,Prod.mk.injEq,DataW.held.injEq]at hv;rw[qy,hv.1,(hD.2 m).1]
section
variable {w:World} {cb ofb hasb:Nat} {X:Cx} {s:Ck} {h0:ak.Hp}
theorem CkW.FI(h:CkW w cb X ofb hasb s h0){n:Nat}{t:Tr}(hn:n≤100000)(ht:s.of n=some t):∃p,(Instr.lookup 103 (.map (some ofb)) (.int .i64 (n:Nat)) false).run prog w=.ok p w∧rep h0 t p:=by
 obtain⟨_,D,fv,k2,k3,k4⟩:=h.of;obtain⟨p,hp,hr⟩:=k4 n t ht;exact⟨p,by rw[j_ k2 k3 hn,hp];rfl,hr⟩
theorem CkW.gj(h:CkW w cb X ofb hasb s h0){n:Nat}{t:Tr}(hn:n≤100000)(ht:s.of n=some t):∃p,(∀w':World,Below w.heap.size w w'→(Instr.lookup 103 (.map (some ofb)) (.int .i64 (n:Nat)) false).run prog w'=.ok p w')∧rep h0 t p:=by
 obtain⟨_,D,fv,k2,k3,k4⟩:=h.of;obtain⟨p,hp,hr⟩:=k4 n t ht;exact⟨p,λw' hb=>by rw[j_ (fY k2 hb) k3 hn,hp];rfl,hr⟩
theorem CkW.hasAll(h:CkW w cb X ofb hasb s h0){n:Nat}{t:Tr}(hn:n≤100000)(ht:s.has n=some t):∃p,(∀w':World,Below w.heap.size w w'→(Instr.lookup 103 (.map (some hasb)) (.int .i64 (n:Nat)) false).run prog w'=.ok p w')∧rep h0 t p:=by
 obtain⟨_,D,fv,k2,k3,k4⟩:=h.has;obtain⟨p,hp,hr⟩:=k4 n t ht;exact⟨p,λw' hb=>by rw[j_ (fY k2 hb) k3 hn,hp];rfl,hr⟩
theorem CkW.Kq(h:CkW w cb X ofb hasb s h0){n:Nat}(hn:n≤100000): (Instr.lookup 102 (.map (some X.sO)) (.int .i64 (n:Nat)) false).run prog w=.ok (.int .i64 (X.a_ n:Nat)) w∧X.a_ n≤100000:=by
 obtain⟨m,D,h1,h2⟩:=h.Wo;have od: (Lit.int .i64 (n:Nat)).wf=true:=WalkArith.wf_i64 (by omega);obtain⟨c,qy,vb,_⟩:=h1.lookup_int dn underlying102 underlying3 (E0 w) (Maps.keyOf_int_mk underlying3 od);rw[h2.2 n]at vb
 simp only[DataW.lit.injEq,Lit.int.injEq,true_and]at vb;have:=h.wi n;have e: ((X.a_ n:Nat):Int)=(X.wi n).getD 0:=by unfold Cx.a_;omega
 exact⟨by rw[qy,←vb,e],by unfold Cx.a_;omega⟩
end
theorem aP{h0:ak.Hp}{t:Tr}{p:Value}(h:rep h0 t p):∃b,p=.pointer (some ⟨b,0,none⟩):=by
 obtain⟨b,e,_⟩:=eQ h;exact⟨b,e⟩
end
section
open Ty (Tr Ck)
theorem KO(nd:Ty.Nd)(lv:Value)(W:World): (Instr.field 66 (.agg #[.int .i64 nd.kind,.int .i64 nd.a,.int .i64 nd.b,.int .i64 nd.c,lv,.string nd.text,.int .i64 nd.n,.int .i64 nd.ty,.int .i64 nd.pos]) 8).run prog W=.ok (.int .i64 nd.pos) W:=by
 simp[Instr.field,run_underlying underlying66,asAgg,go_sem]
theorem tM(nd:Ty.Nd)(lv:Value)(W:World): (Instr.field 66 (.agg #[.int .i64 nd.kind,.int .i64 nd.a,.int .i64 nd.b,.int .i64 nd.c,lv,.string nd.text,.int .i64 nd.n,.int .i64 nd.ty,.int .i64 nd.pos]) 7).run prog W=.ok (.int .i64 nd.ty) W:=by
 simp[Instr.field,run_underlying underlying66,asAgg,go_sem]
theorem I2(nd:Ty.Nd)(lv:Value)(W:World): (Instr.field 66 (.agg #[.int .i64 nd.kind,.int .i64 nd.a,.int .i64 nd.b,.int .i64 nd.c,lv,.string nd.text,.int .i64 nd.n,.int .i64 nd.ty,.int .i64 nd.pos]) 1).run prog W=.ok (.int .i64 nd.a) W:=by
 simp[Instr.field,run_underlying underlying66,asAgg,go_sem]
section
variable {wB w:World} {cb:Nat} {nv tv:Value} {pg:Ty.Pg}
theorem aR(hP:PB wB nv tv pg)(hb:Below wB.heap.size wB w){id:Nat}{nd:Ty.Nd}(hn:pg.ns[id]?=some nd)(h0:w.cell? ⟨cb,0,none⟩=some nv)(gU:cb<w.heap.size){R:EW}
  (hR:∀lv w',Below w.heap.size w w'→wB.ownsRow 0 3 1 lv nd.list.length (nd.list.map aS)→R (.returned (aK nd lv)) w'):
  Calls prog 152 #[.pointer (some ⟨cb,0,none⟩),.int .i64 (id:Nat)] w R:=by
 obtain⟨g,cap,lv,rfl,kN,hg,hcap,Hl,hA,hl,_,hN⟩:=hP.look hn;obtain⟨q0,q1,q2,q3,q4,q5,q6,q7,q8⟩:=hA.below hb;have Vm:g<w.heap.size:=nL hg hb.size;obtain⟨la,lc,rfl⟩:=ag hl;have HR:=qh (λw' fU=>hR (.slice la nd.list.length lc) w' fU hl);unfold maxLen at Hl;clear hR hA hl hb hP hn;generalize pg.ns.length=N at*
 go_in;go_wp2_with fail;refine bodyPost_ret ?_ rfl (HR.o _ ?_)
 ·simp[results,results152,go_sem,aK]
 ·exact(bR _ _).alloc (nR _) _
theorem eL(hP:PB wB nv tv pg)(hb:Below wB.heap.size wB w){id:Nat}{nd:Ty.Nd}(hn:pg.ns[id]?=some nd)(h0:w.cell? ⟨cb,0,none⟩=some nv)(gU:cb<w.heap.size){b:Bool}{e:Nat}{R:EW}
  (aF:b=true→R (.returned (.tuple #[])) w) (av:b=false→∀w',Below w.heap.size w w'→R (.panicked (aJ (e,nd.pos))) w'):
  Calls prog 160 #[.pointer (some ⟨cb,0,none⟩),.bool b,.int .i64 (e:Nat),.int .i64 (id:Nat)] w R:=by
 cases b with
 |true=>
  have aY:=qh (aF rfl);clear aF av;go_in;go_wp2_with fail;go_end0;exact aY.o
 |false=>
  have HB:=qh (av rfl);clear aF av;have f8:=KO nd;go_in;go_wp2_with fail;refine aR hP hb hn h0 gU (λlv w2 aI hl=>?_);have c8:=qh (HB.o w2 aI);clear aI hl;unfold aK;go_wp2_with fail;exact⟨rfl,c8.o⟩
theorem bT(w:World)(k:Int){R:EW}(hR:R (.returned (.pointer (some ⟨w.heap.size,0,none⟩))) (w.alloc (.cells #[.int .i64 k,.slice none 0 0,.slice none 0 0,.pointer none] 219))):
  Calls prog 240 #[.int .i64 k] w R:=by
 have HR:=qh hR;clear hR;go_in;go_wp2_with fail;refine lO _ k ?_;go_wp2_with fail;exact HR.o
end
def P8(o:Option Tr)(v:Value):As:=match o with
 |none=>cn (v=.pointer none)
 |some t=>pM v t
theorem MT{h:ak.Hp}{b k:Nat}(ha:ay b (.cells #[.int .i64 (k:Nat),.slice none 0 0,.slice none 0 0,.pointer none] 219 (0,0)) h):rep h (jR k) (.pointer (some ⟨b,0,none⟩)):=
 qX (qs:=[]) ha ⟨rfl,.inl ⟨rfl,rfl⟩⟩ (by rw[bz])
theorem ua{w0 w:World}{Fr:As}{o:Option Tr}{v:Value}(H:Sat w0 w [Fr,P8 o v]){R:EW}(hR:∀p w',Sat w0 w' [Fr,pM p (yo o)]→R (.returned p) w'):
  Calls prog 153 #[v] w R:=by
 cases o with
 |none=>
  have hv:v=.pointer none:=H.get (i:=1) rfl λ_ ha _=>ha
  subst hv;have h1:=((H.pick [0]).aj (.cells #[.int .i64 (5:Nat),.slice none 0 0,.slice none 0 0,.pointer none] 219) w.heap.size).cG (i:=1) rfl (Q:=pM (.pointer (some ⟨w.heap.size,0,none⟩)) (yo none)) λ_ ha=>MT (k:=5) ha
  have HR:=qh (hR _ _ h1);clear hR h1 H;go_in;go_wp2_with fail;refine bT _ 5 ?_;go_wp2_with fail;exact HR.o
 |some t=>
  have hr:rep (ak.hp w) t v:=H.get (i:=1) rfl λ_ ha hl=>bL hl _ _ ha
  obtain⟨b,rfl⟩:=aP hr;have HR:=qh (hR _ _ H);clear hR hr H;go_in;go_wp2_with fail;exact HR.o
section
variable {wB w:World} {cb:Nat} {nv tv:Value} {pg:Ty.Pg}
theorem hJ(hP:PB wB nv tv pg)(hb:Below wB.heap.size wB w)(c1:w.cell? ⟨cb,1,none⟩=some tv)(gU:cb<w.heap.size){z:Int}(hz:AJ z pg.ts){R:EW}
  (hR:∀v w',Sat w w' [bE w,P8 (ek pg.ts z) v]→R (.returned v) w'):
  Calls prog 154 #[.pointer (some ⟨cb,0,none⟩),.int .i64 z] w R:=by
 rcases hz with rfl|⟨n,rfl,hn⟩
 ·have h1:=(Sat.fw w).hZ (P:=P8 (ek pg.ts (-1)) (.pointer none)) (λ_=>by unfold ek;rw[if_pos (by omega)];rfl);have HR:=qh (hR _ _ h1);clear hR h1;go_in;go_wp2_with fail;exact HR.o
 ·obtain⟨rows,hr,DL⟩:=hP.ty;have hk:=hP.ok;have hO:=QY tv rows pg.ts hr hk.wf hk.PE _ n (Nat.lt_succ_self _) hn.lt w (DL.below hb);have hw:ek pg.ts (n:Nat)=some (Ty.den pg.ts n):=by unfold ek;rw[if_neg (by omega)];rfl
  have HO:=qh hO;have HR:=qh (λp w'(h:Sat w w' [bE w,pM p (Ty.den pg.ts n)])=>hR p w' (by rw[hw];exact h));have k0:decide ((n:Int)<0)=false:=by simp
  clear hR hO hr DL hw hk hn hP hb;go_in;go_wp2_with fail;refine HO.o _ (λp w2 h2=>?_);have HG:=qh (HR.o p w2 h2);clear h2;go_wp2_with fail;exact HG.o
end
theorem bu{w:World}{b k:Nat}(hk:cW w b k){v:Value}{l:List Nat}(bJ:w.ownsRow 0 3 1 v l.length (l.map aS))(hl:l.length≤10){r:Bool}(hr:decide (k∈l)=r){R:EW}(hR:R (.returned (.bool r)) w):
  Calls prog 296 #[.pointer (some ⟨b,0,none⟩),v] w R:=by
 subst hr;obtain⟨hb,c0⟩:=hk;obtain⟨la,lc,rfl⟩:=ag bJ;have HY:Hq (k∈l→R (.returned (.bool true)) w):=λh=>by simpa [h]using hR
 have HN:Hq (k∉l→R (.returned (.bool false)) w):=λh=>by simpa [h]using hR
 have dG:=qh bJ;clear hR bJ;go_in;go_wp2_with fail;go_loopw [9] (λi wr=>wr=w∧∃j:Nat,i=.int .i64 j∧j≤l.length∧Hq (k∉l.take j)) (λi _=>l.length-(intOf i).toNat)
 case atStart=>exact⟨rfl,0,rfl,Nat.zero_le _,by show k∉[];simp⟩
 case round=>
  obtain⟨rfl,j,rfl,hj,hE⟩:=hrel;by_cases bm:j<l.length
  ·obtain⟨gl,j9,e,mW,d0⟩:=ints_at dG.o j bm;cases e;have HT:=qh (List.take_succ_eq_append_getElem bm);have HM:=qh (gM bm);generalize l[j]=x at*
   by_cases hx:k=x
   ·subst hx;go_wp2_with fail;exact HY.o HM.o
   ·have kx: ((k:Int)==(x:Int))=false:=int_ne hx;have fZ:Hq (k∉l.take (j+1)):=by show k∉_;rw[HT.o,List.mem_append];simp only[List.mem_singleton];exact λh=>h.elim hE.out hx
    clear hx;go_wp2_with fail;go_roundw
    case rel=>exact⟨trivial,j+1,by go_num,by omega,fZ⟩
    case measure=>simp[intOf];omega
  ·have ju:j=l.length:=by omega
   have fZ:Hq (k∉l):=by have:=hE.out;rw[ju,List.take_length]at this;exact this
   clear ju;go_wp2_with fail;exact HN.o fZ.o
theorem cT(w:World){b:Nat}(hb:b=w.heap.size)(cs:Array Value)(l:List Nat)(h:cs.toList=l.map aS)(hn:l.length≤10): (w.alloc (.cells cs 3)).ownsRow 0 3 1 (.slice (some ⟨b,0,none⟩) l.length l.length) l.length (l.map aS):=by
 subst hb;have h1:=((Sat.fw w).aj (.cells cs 3) w.heap.size).cG (i:=1) rfl (Q:=ak.row 3 1 (.slice (some ⟨w.heap.size,0,none⟩) l.length l.length) l.length (l.map aS)) λ_ h2=>my h2 (by unfold maxLen;omega) (by have:=congrArg List.length h;simpa using this) h
 exact h1.row 1 rfl
theorem iH{w W:World}{h0:ak.Hp}(hB:Below w.heap.size w W)(k:Nat){b:Nat}(hb:b=W.heap.size):Sat w (W.alloc (.cells #[.int .i64 (k:Nat),.slice none 0 0,.slice none 0 0,.pointer none] 219)) [bE w,de h0 (jR k) (.pointer (some ⟨b,0,none⟩))]:=
 (((Sat.fw w).below hB).aj (.cells #[.int .i64 (k:Nat),.slice none 0 0,.slice none 0 0,.pointer none] 219) b hb).cG (i:=1) rfl λ_ ha _ _ mS=>MT (mS _ _ ha)
theorem xq{x b:BA}{l:List UInt8}(h:x=b)(hb:b.data.toList=l): (x.toList==l)=true:=by rw[Lib.toList_data,h,hb];simp
theorem uf{x b:BA}{l:List UInt8}(h:x≠b)(hb:b.data.toList=l): (x.toList==l)=false:=by
 rw[Lib.toList_data];refine beq_eq_false_iff_ne.2 λe=>h ?_
 cases x;cases b;simp only at e hb;congr 1;exact Array.toList_inj.1 (e.trans hb.symm)
theorem qu(w:World){b:Nat}(hb:b=w.heap.size)(cs:Array Value)(l:List Nat)(h:cs.toList=l.map aS)(hn:l.length≤10): (w.alloc (.cells cs 3)).drew.ownsRow 0 3 1 (.slice (some ⟨b,0,none⟩) l.length l.length) l.length (l.map aS):=cT w hb cs l h hn
section
variable {wB w:World} {cb ofb hasb:Nat} {X:Cx} {s:Ck} {h0:ak.Hp} {pg:Ty.Pg}
theorem CkW.kind(hW:CkW w cb X ofb hasb s h0){t:Tr}{b:Nat}(hr:rep h0 t (.pointer (some ⟨b,0,none⟩))):cW w b (Ty.kindOf t):=by
 obtain⟨b2,e,hk⟩:=pZ (bL hW.le _ _ hr);cases e;exact hk
theorem cW.below{w w1:World}{b k:Nat}(h:cW w b k)(hb:Below w.heap.size w w1):cW w1 b k:=tA hb h.1 h.2
theorem wL(hP:PB wB X.nv X.tv pg)(hb:Below wB.heap.size wB w){id:Nat}{nd:Ty.Nd}(hn:pg.ns[id]?=some nd)(hW:CkW w cb X ofb hasb s h0){t:Tr}{p:Value}(hr:rep h0 t p)(EI:dP t)(x:BA){R:EW}
  (aF:∀u q w',o' t x=some u→Sat w w' [bE w,de h0 u q]→R (.returned q) w') (av:o' t x=none→∀w',Below w.heap.size w w'→R (.panicked (aJ (9,nd.pos))) w'):
  Calls prog 243 #[.pointer (some ⟨cb,0,none⟩),p,.string x,.int .i64 (id:Nat)] w R:=by
 obtain⟨b,rfl⟩:=aP hr;have HK:=qh (λw1(h:Below w.heap.size w w1)=>(hW.kind hr).below h);have HN:=qh (λw1(h:Below w.heap.size w w1)(ok:Bool)(R:EW)=>eL (R:=R) (b:=ok) (e:=9) hP (hb.trans (h.mono hb.size)) hn (aq h hW.c0) (nL hW.lt h.size));have sJ:=qh (λw1(h:Below w.heap.size w w1)(R:EW)=>rD (R:=R) w w1 hW.le h t _ hr EI x);by_cases h5:Ty.kindOf t=5
 ·have HA:=qh (λw'(h:Sat w w' [bE w])=>aF t _ w' (by unfold o';rw[if_pos h5]) (h.hZ λa h hl _=>bL hl _ _ hr));rw[h5]at HK
  clear aF av hP hb hn hW hr EI h5;go_in;go_wp2_with fail;refine bu (r:=true) (HK.o _ ((bR _ _).alloc (nR _) _)) (cT w (by simp) #[.int .i64 5] [5] rfl (by decide)) (by decide) rfl ?_;go_wp2_with fail;exact HA.o _ ((Sat.fw w).aU _)
 have k5:decide (Ty.kindOf t∈[5])=false:=by simpa using h5
 by_cases h8:Ty.kindOf t=8∧x=Pm
 ·obtain⟨h8,WW⟩:=h8;have HA:=qh (λq w'(h:Sat w w' [bE w,de h0 (jR 1) q])=>aF (jR 1) q w' (by unfold o';rw[if_neg h5,if_pos ⟨h8,WW⟩]) h);have kx: (x.toList==[108,101,110,103,116,104])=true:=xq WW rfl;rw[h8]at HK k5
  clear aF av hP hb hn hW hr EI h5 h8 WW;go_in;go_wp2_with fail;refine bu (r:=false) (HK.o _ ((bR _ _).alloc (nR _) _)) (cT w (by simp) #[.int .i64 5] [5] rfl (by decide)) (by decide) k5 ?_;go_wp2_with fail;refine bu (r:=true) (HK.o _ (((bR _ _).alloc (nR _) _).alloc (by simp) _)) (cT _ (by simp) #[.int .i64 8] [8] rfl (by decide)) (by decide) rfl ?_;go_wp2_with fail;refine bT _ 1 ?_;go_wp2_with fail;exact HA.o _ _ (iH (((bR _ _).alloc (nR _) _).alloc (by simp) _) 1 (by simp))
 by_cases h7:Ty.kindOf t=7
 ·have HA:=qh (λu q w'(h2:Ty.part (cg t) (Ty.partsOf t) x=some u)(h:Sat w w' [bE w,de h0 u q])=>aF u q w' (by unfold o';rw[if_neg h5,if_neg h8,if_pos h7];exact h2) h);have HB:=qh (λ(h2:Ty.part (cg t) (Ty.partsOf t) x=none)=>av (by unfold o';rw[if_neg h5,if_neg h8,if_pos h7];exact h2));have k8:decide (Ty.kindOf t∈[8])=false:=by rw[h7];rfl
  obtain⟨k,names,parts,list,of⟩:=t;dsimp only[Ty.kindOf,cg,Ty.partsOf]at HK HA HB k5 k8 h7;subst h7;clear aF av hP hb hn hW hr EI h5 h8;go_in;go_wp2_with fail;refine bu (r:=false) (HK.o _ ((bR _ _).alloc (nR _) _)) (cT w (by simp) #[.int .i64 5] [5] rfl (by decide)) (by decide) k5 ?_;go_wp2_with fail;refine bu (r:=false) (HK.o _ (((bR _ _).alloc (nR _) _).alloc (by simp) _)) (cT _ (by simp) #[.int .i64 8] [8] rfl (by decide)) (by decide) k8 ?_;go_wp2_with fail;refine sJ.o _ (((bR _ _).alloc (nR _) _).alloc (by simp) _) _ (λq w2 aI hq=>?_)
  (try dsimp only at hq)
  have Et:=(((bR w.heap.size w).alloc (nR _) (.cells #[.int .i64 5] 3)).alloc (by simp) (.cells #[.int .i64 8] 3)).trans (aI.mono (by simp;omega));have c8:=qh Et;clear aI Et;cases hp:Ty.part names parts x with
  |none=>
   rw[hp]at hq
   dsimp only at hq;subst hq;have eH:=qh (HB.o hp);clear hp;go_wp2_with fail;refine bu (r:=true) (HK.o _ (c8.o.alloc c8.o.size _)) (cT _ (by simp) #[.int .i64 7] [7] rfl (by decide)) (by decide) rfl ?_;go_wp2_with fail;refine HN.o _ (c8.o.alloc c8.o.size _) _ _ (λh=>by cases h) (λ_ w' fU=>?_);exact⟨rfl,eH.o _ ((c8.o.alloc c8.o.size _).trans (fU.mono (c8.o.alloc c8.o.size _).size))⟩
  |some u=>
   rw[hp]at hq
   dsimp only at hq;obtain⟨bq,rfl⟩:=aP hq;have UE:=qh (λw'(h:Sat w w' [bE w])=>HA.o u _ w' hp (h.hZ λa h hl _=>bL hl _ _ hq));clear hp hq;go_wp2_with fail;refine bu (r:=true) (HK.o _ (c8.o.alloc c8.o.size _)) (cT _ (by simp) #[.int .i64 7] [7] rfl (by decide)) (by decide) rfl ?_;go_wp2_with fail;refine HN.o _ (c8.o.alloc c8.o.size _) _ _ (λ_=>?_) (λh=>by cases h);go_wp2_with fail;exact UE.o _ (((Sat.fw w).below c8.o).aU _)
 ·have HB:=qh (av (by unfold o';rw[if_neg h5,if_neg h8,if_neg h7]));have k7:decide (Ty.kindOf t∈[7])=false:=by simpa using h7
  by_cases TD:Ty.kindOf t=8
  ·have hx:x≠Pm:=λe=>h8 ⟨TD,e⟩
   have k8:decide (Ty.kindOf t∈[8])=true:=by rw[TD];rfl
   have kx: (x.toList==[108,101,110,103,116,104])=false:=uf hx rfl;clear aF av hP hb hn hW hr EI h5 h8 TD h7 hx;go_in;go_wp2_with fail;refine bu (r:=false) (HK.o _ ((bR _ _).alloc (nR _) _)) (cT w (by simp) #[.int .i64 5] [5] rfl (by decide)) (by decide) k5 ?_;go_wp2_with fail;refine bu (r:=true) (HK.o _ (((bR _ _).alloc (nR _) _).alloc (by simp) _)) (cT _ (by simp) #[.int .i64 8] [8] rfl (by decide)) (by decide) k8 ?_;go_wp2_with fail;refine sJ.o _ (((bR _ _).alloc (nR _) _).alloc (by simp) _) _ (λq w2 aI hq=>?_);have Et:=(((bR w.heap.size w).alloc (nR _) (.cells #[.int .i64 5] 3)).alloc (by simp) (.cells #[.int .i64 8] 3)).trans (aI.mono (by simp;omega));have c8:=qh Et;clear aI Et hq;go_wp2_with fail;refine bu (r:=false) (HK.o _ (c8.o.alloc c8.o.size _)) (cT _ (by simp) #[.int .i64 7] [7] rfl (by decide)) (by decide) k7 ?_;go_wp2_with fail;refine HN.o _ (c8.o.alloc c8.o.size _) _ _ (λh=>by cases h) (λ_ w' fU=>?_);exact⟨rfl,HB.o _ ((c8.o.alloc c8.o.size _).trans (fU.mono (c8.o.alloc c8.o.size _).size))⟩
  ·have k8:decide (Ty.kindOf t∈[8])=false:=by simpa using TD
   clear aF av hP hb hn hW hr EI h5 h8 TD h7;go_in;go_wp2_with fail;refine bu (r:=false) (HK.o _ ((bR _ _).alloc (nR _) _)) (cT w (by simp) #[.int .i64 5] [5] rfl (by decide)) (by decide) k5 ?_;go_wp2_with fail;refine bu (r:=false) (HK.o _ (((bR _ _).alloc (nR _) _).alloc (by simp) _)) (cT _ (by simp) #[.int .i64 8] [8] rfl (by decide)) (by decide) k8 ?_;go_wp2_with fail;refine sJ.o _ (((bR _ _).alloc (nR _) _).alloc (by simp) _) _ (λq w2 aI hq=>?_);have Et:=(((bR w.heap.size w).alloc (nR _) (.cells #[.int .i64 5] 3)).alloc (by simp) (.cells #[.int .i64 8] 3)).trans (aI.mono (by simp;omega));have c8:=qh Et;clear aI Et hq;go_wp2_with fail;refine bu (r:=false) (HK.o _ (c8.o.alloc c8.o.size _)) (cT _ (by simp) #[.int .i64 7] [7] rfl (by decide)) (by decide) k7 ?_;go_wp2_with fail;refine HN.o _ (c8.o.alloc c8.o.size _) _ _ (λh=>by cases h) (λ_ w' fU=>?_);exact⟨rfl,HB.o _ ((c8.o.alloc c8.o.size _).trans (fU.mono (c8.o.alloc c8.o.size _).size))⟩
theorem sd(hP:PB wB X.nv X.tv pg)(hb:Below wB.heap.size wB w){id:Nat}{nd:Ty.Nd}(hn:pg.ns[id]?=some nd)(hW:CkW w cb X ofb hasb s h0){t a:Tr}{p q:Value}(hr:rep h0 t p)(EI:dP t)(hq:rep h0 a q)(UC:dP a){R:EW}
  (aF:∀u v w',iZ t a=some u→Sat w w' [bE w,de h0 u v]→R (.returned v) w') (av:iZ t a=none→∀w',Below w.heap.size w w'→R (.panicked (aJ (9,nd.pos))) w'):
  Calls prog 244 #[.pointer (some ⟨cb,0,none⟩),p,q,.int .i64 (id:Nat)] w R:=by
 obtain⟨b,rfl⟩:=aP hr;have HK:=qh (λw1(h:Below w.heap.size w w1)=>(hW.kind hr).below h);have HN:=qh (λw1(h:Below w.heap.size w w1)(ok:Bool)(R:EW)=>eL (R:=R) (b:=ok) (e:=9) hP (hb.trans (h.mono hb.size)) hn (aq h hW.c0) (nL hW.lt h.size));have oX:Below w.heap.size w (w.alloc (.cells #[.int .i64 1,.slice none 0 0,.slice none 0 0,.pointer none] 219)):=(bR _ _).alloc (nR _) _;have HF:Hq (oQ q (.pointer (some ⟨w.heap.size,0,none⟩)) (w.alloc (.cells #[.int .i64 1,.slice none 0 0,.slice none 0 0,.pointer none] 219)) (Ty.fits a (jR 1))):=
  yE _ _ a (jR 1) _ _ (Nat.lt_succ_self _) UC (gL (by omega)).ok (bL (nM hW.le oX) _ _ hq) (MT (k:=1) (heap_alloc_new w _))
 have ll:=qh oX;have eH:Hq (¬(Ty.fits a (jR 1)=true∧(Ty.kindOf t=5∨Ty.kindOf t=8))→∀w',Below w.heap.size w w'→R (.panicked (aJ (9,nd.pos))) w'):=λh=>av (by unfold iZ;rw[if_neg h])
 have T1:Hq (Ty.fits a (jR 1)=true→Ty.kindOf t=5→∀v w',Sat w w' [bE w,de h0 t v]→R (.returned v) w'):=λh1 h2 v w' h=>aF _ v w' (by unfold iZ;rw[if_pos ⟨h1,.inl h2⟩,if_pos h2]) h
 have S6:Hq (Ty.fits a (jR 1)=true→Ty.kindOf t=8→∀v w',Sat w w' [bE w,de h0 (fq t) v]→R (.returned v) w'):=λh1 h2 v w' h=>aF _ v w' (by unfold iZ;rw[if_pos ⟨h1,.inr h2⟩,if_neg (by omega)]) h
 have XR:=EI;obtain⟨k,names,parts,list,of⟩:=t;obtain⟨b2,pv,lv,ov,ps,ls,os,e,gB,c0,c1,c2,c3,_,_,_,_,_,Aa,hv⟩:=mK hW.le hr;cases e;rw[dP]at EI
 have V':=qh hr;have aca:Hq (k=8→rep h0 (fq (.mk k names parts list of)) ov):=λh=>om (EI.2.2.1 (.inl h)) Aa hv
 dsimp only[Ty.kindOf]at HK eH T1 S6;clear aF av hP hb hn hW hr EI XR hq UC oX Aa hv c0 c1 c2;generalize Ty.fits a (jR 1)=f at*
 cases f with
 |false=>
  have oW:=qh (eH.o (by simp));go_in;go_wp2_with fail;refine bT _ 1 ?_;go_wp2_with fail;refine HF.o _ (bR _ _) _ (λw2 aI=>?_);have c8:=qh (ll.o.trans (aI.mono ll.o.size));clear aI;go_wp2_with fail;refine HN.o _ c8.o _ _ (λh=>by cases h) (λ_ w' fU=>?_);exact⟨rfl,oW.o _ (c8.o.trans (fU.mono c8.o.size))⟩
 |true=>
  by_cases Q':k=5∨k=8
  ·have WT:decide (k∈[5,8])=true:=by simpa using Q'
   have Yq:=qh Q';clear Q';go_in;go_wp2_with fail;refine bT _ 1 ?_;go_wp2_with fail;refine HF.o _ (bR _ _) _ (λw2 aI=>?_);have c8:=qh (ll.o.trans (aI.mono ll.o.size));clear aI;go_wp2_with fail;refine bu (r:=true) (HK.o _ (c8.o.alloc c8.o.size _)) (cT _ (by simp) #[.int .i64 5,.int .i64 8] [5,8] rfl (by decide)) (by decide) WT ?_;go_wp2_with fail;have cU:=qh (c8.o.alloc c8.o.size (.cells #[.int .i64 5,.int .i64 8] 3));refine HN.o _ cU.o _ _ (λ_=>?_) (λh=>by cases h);by_cases h5:k=5
   ·subst h5;have XE:=qh (λw'(h:Sat w w' [bE w])=>T1.o trivial rfl _ w' (h.hZ λa h hl _=>bL hl _ _ V'.o));go_wp2_with fail;refine bu (r:=true) (HK.o _ (cU.o.alloc cU.o.size _)) (cT _ (by simp) #[.int .i64 5] [5] rfl (by decide)) (by decide) rfl ?_;go_wp2_with fail;exact XE.o _ (((Sat.fw w).below cU.o).aU _)
   ·have k5:decide (k∈[5])=false:=by simpa using h5
    have XE:=qh (λw'(h:Sat w w' [bE w])=>S6.o trivial (Yq.o.resolve_left h5) ov w' (h.hZ λa h hl _=>bL hl _ _ (aca.o (Yq.o.resolve_left h5))));clear h5;have ZJ:=aq (cU.o.alloc cU.o.size (.cells #[.int .i64 5] 3)) c3;go_wp2_with fail;refine bu (r:=false) (HK.o _ (cU.o.alloc cU.o.size _)) (cT _ (by simp) #[.int .i64 5] [5] rfl (by decide)) (by decide) k5 ?_;go_wp2_with fail;exact XE.o _ (((Sat.fw w).below cU.o).aU _)
  ·have WT:decide (k∈[5,8])=false:=by simpa using Q'
   have oW:=qh (eH.o (λh=>Q' h.2));clear Q';go_in;go_wp2_with fail;refine bT _ 1 ?_;go_wp2_with fail;refine HF.o _ (bR _ _) _ (λw2 aI=>?_);have c8:=qh (ll.o.trans (aI.mono ll.o.size));clear aI;go_wp2_with fail;refine bu (r:=false) (HK.o _ (c8.o.alloc c8.o.size _)) (cT _ (by simp) #[.int .i64 5,.int .i64 8] [5,8] rfl (by decide)) (by decide) WT ?_;go_wp2_with fail;have cU:=qh (c8.o.alloc c8.o.size (.cells #[.int .i64 5,.int .i64 8] 3));refine HN.o _ cU.o _ _ (λh=>by cases h) (λ_ w' fU=>?_);exact⟨rfl,oW.o _ (cU.o.trans (fU.mono cU.o.size))⟩
end
section
variable {wB w:World} {cb ofb hasb:Nat} {X:Cx} {s:Ck} {h0:ak.Hp} {pg:Ty.Pg}
theorem He(hP:PB wB X.nv X.tv pg)(hb:Below wB.heap.size wB w){id:Nat}{nd:Ty.Nd}(hn:pg.ns[id]?=some nd)(hW:CkW w cb X ofb hasb s h0){t:Tr}(ht:s.of nd.a=some t)(ha:nd.a≤100000){R:EW}
  (aF:∀u q w',vS nd.text t=some u→Sat w w' [bE w,de h0 u q]→R (.returned q) w') (av:vS nd.text t=none→∀w',Below w.heap.size w w'→R (.panicked (aJ (9,nd.pos))) w'):
  Calls prog 247 #[.pointer (some ⟨cb,0,none⟩),.int .i64 (id:Nat)] w R:=by
 have HN:=qh (λw1(h:Below w.heap.size w w1)(ok:Bool)(R:EW)=>eL (R:=R) (b:=ok) (e:=9) hP (hb.trans (h.mono hb.size)) hn (aq h hW.c0) (nL hW.lt h.size));have aY:=qh aF;have eH:=qh av;have eE:=qh (λR=>aR (R:=R) hP hb hn hW.c0 hW.lt);have HW:=qh hW;have gU:=hW.lt;clear aF av hP hb hn hW;go_in;go_wp2_with fail;refine eE.o _ (λlv w2 aI hl=>?_);obtain⟨la,lc,rfl⟩:=ag hl;unfold aK;have dR:Below w.heap.size w (w2.alloc (aD nd (.slice la nd.list.length lc))):=aI.alloc aI.size _;have h3:=((Sat.fw w).below aI).aj (aD nd (.slice la nd.list.length lc)) w2.heap.size;have x1:=h3.cell 1 rfl 1 rfl;have x5:=h3.cell 1 rfl 5 rfl;have x9:=HW.o.below dR;obtain⟨p,pK,hr⟩:=HW.o.gj ha ht;obtain⟨b,rfl⟩:=aP hr;have HK:=qh (λw1(h:Below w.heap.size w w1)=>(HW.o.kind hr).below h);have cU:=qh dR;have AW:=x9.lt;have BF: (w2.alloc (aD nd (.slice la nd.list.length lc))).cell? ⟨cb,5,none⟩=some (.map (some ofb)):=x9.c5;have Bh:=qh pK;clear h3 aI hl dR x9 pK;by_cases h1:nd.text=Tf
 ·have kx:=xq (l:=[33]) h1 rfl;have HA:=qh (λq w'=>aY.o (jR 2) q w' (by unfold vS;rw[if_pos h1]));clear h1;go_wp2_with fail;refine bT _ 2 ?_;go_wp2_with fail;exact HA.o _ _ (iH cU.o 2 (by simp))
 have YP:=uf (l:=[33]) h1 rfl;by_cases h2:nd.text=N8
 ·have kx:=xq (l:=[116,121,112,101,111,102]) h2 rfl;have HA:=qh (λq w'=>aY.o (jR 3) q w' (by unfold vS;rw[if_neg h1,if_pos h2]));clear h1 h2;go_wp2_with fail;refine bT _ 3 ?_;go_wp2_with fail;exact HA.o _ _ (iH cU.o 3 (by simp))
 have aaf:=uf (l:=[116,121,112,101,111,102]) h2 rfl;have hS: (w2.alloc (aD nd (.slice la nd.list.length lc))).drew.cell? ⟨cb,5,none⟩=some (.map (some ofb))∧(w2.alloc (aD nd (.slice la nd.list.length lc))).drew.cell? ⟨w2.heap.size,1,none⟩=some (.int .i64 (nd.a:Nat))∧(Instr.lookup 103 (.map (some ofb)) (.int .i64 (nd.a:Nat)) false).run prog (w2.alloc (aD nd (.slice la nd.list.length lc))).drew=.ok (.pointer (some ⟨b,0,none⟩)) (w2.alloc (aD nd (.slice la nd.list.length lc))).drew:=⟨BF,x1,Bh.o _ cU.o.drew⟩
 have py: ((w2.alloc (aD nd (.slice la nd.list.length lc))).alloc (.cells #[.int .i64 1,.int .i64 5] 3)).drew.cell? ⟨cb,5,none⟩=some (.map (some ofb))∧((w2.alloc (aD nd (.slice la nd.list.length lc))).alloc (.cells #[.int .i64 1,.int .i64 5] 3)).drew.cell? ⟨w2.heap.size,1,none⟩=some (.int .i64 (nd.a:Nat))∧(Instr.lookup 103 (.map (some ofb)) (.int .i64 (nd.a:Nat)) false).run prog ((w2.alloc (aD nd (.slice la nd.list.length lc))).alloc (.cells #[.int .i64 1,.int .i64 5] 3)).drew=.ok (.pointer (some ⟨b,0,none⟩)) ((w2.alloc (aD nd (.slice la nd.list.length lc))).alloc (.cells #[.int .i64 1,.int .i64 5] 3)).drew:=
  ⟨aq ((bR _ _).alloc (nR _) _).drew BF,aq ((bR _ _).alloc (nR _) _).drew x1,Bh.o _ (cU.o.alloc cU.o.size _).drew⟩
 by_cases h3:iz t=true
 ·have HA:=qh (λq w'=>aY.o (jR 1) q w' (by unfold vS;rw[if_neg h1,if_neg h2,if_pos h3]));have L4:decide (Ty.kindOf t∈[1,5])=true:=by unfold iz at h3;simpa using h3
  clear h1 h2 h3;go_wp2_with fail;go_region_held3(λw'=>w'.cell? ⟨cb,5,none⟩=some (.map (some ofb))∧w'.cell? ⟨w2.heap.size,1,none⟩=some (.int .i64 (nd.a:Nat))∧(Instr.lookup 103 (.map (some ofb)) (.int .i64 (nd.a:Nat)) false).run prog w'=.ok (.pointer (some ⟨b,0,none⟩)) w') (first|exact hS|exact py)
   (first
    |(go_at_call 296;refine bu (r:=true) (HK.o _ (cU.o.alloc cU.o.size _).drew) (qu _ (by simp) #[.int .i64 1,.int .i64 5] [1,5] rfl (by decide)) (by decide) L4 ?_)
    |(go_at_call 160;refine HN.o _ (cU.o.alloc cU.o.size _).drew _ _ (λ_=>?_) (λh=>by cases h)))
  all_goals
   go_wp2_with fail;refine bT _ 1 ?_;go_wp2_with fail;exact HA.o _ _ (iH (cU.o.alloc cU.o.size _).drew 1 (by simp))
 ·have HB:=qh (eH.o (by unfold vS;rw[if_neg h1,if_neg h2,if_neg h3]));have L4:decide (Ty.kindOf t∈[1,5])=false:=by unfold iz at h3;simpa using h3
  clear h1 h2 h3;go_wp2_with fail
  go_region_held (λw'=>w'.cell? ⟨cb,5,none⟩=some (.map (some ofb))∧w'.cell? ⟨w2.heap.size,1,none⟩=some (.int .i64 (nd.a:Nat))∧(Instr.lookup 103 (.map (some ofb)) (.int .i64 (nd.a:Nat)) false).run prog w'=.ok (.pointer (some ⟨b,0,none⟩)) w') (first|exact hS|exact py)
   (first
    |(go_at_call 296;refine bu (r:=false) (HK.o _ (cU.o.alloc cU.o.size _).drew) (qu _ (by simp) #[.int .i64 1,.int .i64 5] [1,5] rfl (by decide)) (by decide) L4 ?_)
    |(go_at_call 160;refine HN.o _ (cU.o.alloc cU.o.size _).drew _ _ (λfV=>?_) (λ_ w' fU=>⟨rfl,HB.o w' ((cU.o.alloc cU.o.size _).drew.trans (fU.mono (cU.o.alloc cU.o.size _).drew.size))⟩)))
  all_goals exact absurd fV (by decide)
end
end
section
open Ty (Tr Ck br bI bh)
section
variable {wB w:World} {cb ofb hasb:Nat} {X:Cx} {s:Ck} {h0:ak.Hp} {pg:Ty.Pg}
theorem CK{f:Tr}{l:List Tr}(h:Ty.kindOf f=5):kF f l=some f:=by unfold kF;rw[if_pos h]
theorem zC{f:Tr}{l:List Tr}(h:Ty.kindOf f≠5)(g:¬(Ty.kindOf f=9∧(aN f).length=l.length)):kF f l=none:=by unfold kF;rw[if_neg h,if_neg g]
theorem FZ{f:Tr}{l:List Tr}(h:Ty.kindOf f=9)(g: (aN f).length=l.length){j:Nat}(hj:j<l.length)(hf:Ty.fits (l.getD j bN) ((aN f).getD j bN)=false):kF f l=none:=by
 unfold kF;rw[if_neg (by omega),if_pos ⟨h,g⟩,if_pos (bI.2 ⟨j,hj,by rw[hf];rfl⟩)]
theorem Iz{f:Tr}{l:List Tr}(h:Ty.kindOf f=9)(g: (aN f).length=l.length)(hf:∀j,j<l.length→Ty.fits (l.getD j bN) ((aN f).getD j bN)=true):kF f l=some (fq f):=by
 unfold kF;rw[if_neg (by omega),if_pos ⟨h,g⟩,if_neg (by rw[bh.2 λj hj=>by rw[hf j hj];rfl];simp)]
theorem C8{w:World}{h0:ak.Hp}(hle:ak.le h0 (ak.hp w)){t:Tr}{b:Nat}(hr:rep h0 t (.pointer (some ⟨b,0,none⟩)))(aF:dP t):b<w.heap.size∧∃(lv ov:Value)(ls:List Value),w.cell? ⟨b,2,none⟩=some lv∧w.ownsRow 0 107 1 lv ls.length ls∧bz h0 (aN t) ls∧w.cell? ⟨b,3,none⟩=some ov∧(Ty.kindOf t=8∨Ty.kindOf t=9→rep h0 (fq t) ov)∧ls.length≤1000000:=by
 obtain⟨k,names,parts,list,of⟩:=t;obtain⟨b2,pv,lv,ov,ps,ls,os,e,gB,c0,c1,c2,c3,_,_,_,bJ,uI,Aa,hv⟩:=mK hle hr;cases e;rw[dP]at aF
 have hl:=bV uI;exact⟨gB,lv,ov,ls,c2,bJ,uI,c3,λh=>om (aF.2.2.1 h) Aa hv,by have:=aF.2.2.2.2.2.2.1.2;omega⟩
theorem BX(hP:PB wB X.nv X.tv pg)(hb:Below wB.heap.size wB w){id:Nat}{nd:Ty.Nd}(hn:pg.ns[id]?=some nd)(hW:CkW w cb X ofb hasb s h0)(hk:fM s.of (nd.a::nd.list)=true)(ha:nd.a≤100000)(mS:∀n∈nd.list,n≤100000)(BE:nd.list.length≤1200){R:EW}
  (aF:∀u q w',kF (tO s.of nd.a) (nd.list.map (tO s.of))=some u→Sat w w' [bE w,de h0 u q]→R (.returned q) w') (av:kF (tO s.of nd.a) (nd.list.map (tO s.of))=none→∀w',Below w.heap.size w w'→R (.panicked (aJ (9,nd.pos))) w'):
  Calls prog 242 #[.pointer (some ⟨cb,0,none⟩),.int .i64 (id:Nat)] w R:=by
 have HN:=qh (λw1(h:Below w.heap.size w w1)(ok:Bool)(R:EW)=>eL (R:=R) (b:=ok) (e:=9) hP (hb.trans (h.mono hb.size)) hn (aq h hW.c0) (nL hW.lt h.size));have aY:=qh aF;have eH:=qh av;have eE:=qh (λR=>aR (R:=R) hP hb hn hW.c0 hW.lt);have HW:=qh hW;have gU:=hW.lt;have qM:s.of nd.a=some (tO s.of nd.a):=cu hk (by simp);have RG:Hq (∀j(h:j<nd.list.length),s.of nd.list[j]=some (tO s.of nd.list[j])∧nd.list[j]≤100000):=λj h=>⟨cu hk (List.mem_cons_of_mem _ (gM h)),mS _ (gM h)⟩
 have dG:=qh (λlv(hl:wB.ownsRow 0 3 1 lv nd.list.length (nd.list.map aS)) w1(h:Below w.heap.size w w1)=>az hl (hb.trans (h.mono hb.size)));clear aF av hP hb hn hW hk mS;go_in;go_wp2_with fail;refine eE.o _ (λlv w2 aI hl=>?_);have HL:=qh (dG.o lv hl);obtain⟨la,lc,rfl⟩:=ag hl;unfold aK;have dR:Below w.heap.size w (w2.alloc (aD nd (.slice la nd.list.length lc))):=aI.alloc aI.size _;have h3:=((Sat.fw w).below aI).aj (aD nd (.slice la nd.list.length lc)) w2.heap.size;have x1:=h3.cell 1 rfl 1 rfl;have x4:=h3.cell 1 rfl 4 rfl;have hx:=h3.lt 1 rfl;have x9:=HW.o.below dR;obtain⟨p,pK,hr⟩:=HW.o.gj ha qM;have Jd:=HW.o.fK.of _ _ qM;obtain⟨b,rfl⟩:=aP hr;have HK:=qh (λw1(h:Below w.heap.size w w1)=>(HW.o.kind hr).below h);have gD:=qh dR.drew;have AW:=x9.lt;have BF: (w2.alloc (aD nd (.slice la nd.list.length lc))).cell? ⟨cb,5,none⟩=some (.map (some ofb)):=x9.c5;have hS: (w2.alloc (aD nd (.slice la nd.list.length lc))).drew.cell? ⟨cb,5,none⟩=some (.map (some ofb))∧(w2.alloc (aD nd (.slice la nd.list.length lc))).drew.cell? ⟨w2.heap.size,1,none⟩=some (.int .i64 (nd.a:Nat))∧(Instr.lookup 103 (.map (some ofb)) (.int .i64 (nd.a:Nat)) false).run prog (w2.alloc (aD nd (.slice la nd.list.length lc))).drew=.ok (.pointer (some ⟨b,0,none⟩)) (w2.alloc (aD nd (.slice la nd.list.length lc))).drew:=
  ⟨BF,x1,pK _ gD.o⟩
 have V':=qh hr;have Z9:=qh Jd.1;obtain⟨Oq,qv,ov,ls,Zl,WX,Zv,X3,Lm,N6⟩:=C8 HW.o.le hr Jd.1.ok;have WC:=qh (λw1(h:Below w.heap.size w w1)=>aq h Zl);have ZX:=qh (λw1(h:Below w.heap.size w w1)=>aq h X3);have abM:=qh (λw1(h:Below w.heap.size w w1)=>az WX h);have RA:=qh Zv;have Q_:=qh Lm;have Zx:=qh (λw1(h:Below w.heap.size w w1)=>nL Oq h.size);obtain⟨qa,qc,rfl⟩:=ag WX;clear Zl WX Zv X3 Lm Oq;generalize zg:tO s.of nd.a=tf at*
 clear h3 aI hl dR x9 pK hr Jd qM zg;go_wp2_with fail;go_region_held3(λw'=>w'.cell? ⟨cb,5,none⟩=some (.map (some ofb))∧w'.cell? ⟨w2.heap.size,1,none⟩=some (.int .i64 (nd.a:Nat))∧(Instr.lookup 103 (.map (some ofb)) (.int .i64 (nd.a:Nat)) false).run prog w'=.ok (.pointer (some ⟨b,0,none⟩)) w') (exact hS) (fail)
 all_goals
  have V1: (w2.alloc (aD nd (.slice la nd.list.length lc))).drew.cell? ⟨w2.heap.size,4,none⟩=some (.slice la nd.list.length lc):=x4;have Tt:w2.heap.size<(w2.alloc (aD nd (.slice la nd.list.length lc))).drew.heap.size:=hx;have aaH: (w2.alloc (aD nd (.slice la nd.list.length lc))).drew.cell? ⟨cb,5,none⟩=some (.map (some ofb)):=BF;clear hS BF x1 x4 hx AW;generalize(w2.alloc (aD nd (.slice la nd.list.length lc))).drew=W at*
  by_cases h5:Ty.kindOf tf=5
  ·have HA:=qh (λw'(h:Sat w w' [bE w])=>aY.o tf _ w' (CK h5) (h.hZ λa h hl _=>bL hl _ _ V'.o));have k5:decide (Ty.kindOf tf∈[5])=true:=by rw[h5];rfl
   clear h5;go_wp2_with fail;refine bu (r:=true) (HK.o _ (gD.o.alloc gD.o.size _)) (cT _ (by simp) #[.int .i64 5] [5] rfl (by decide)) (by decide) k5 ?_;go_wp2_with fail;exact HA.o _ (((Sat.fw w).below gD.o).aU _)
  have k5:decide (Ty.kindOf tf∈[5])=false:=by simpa using h5
  have lh:=qh (gD.o.alloc gD.o.size (.cells #[.int .i64 5] 3)).drew;have yz:=qh (lh.o.alloc lh.o.size (.cells #[.int .i64 9] 3));go_wp2_with fail;refine bu (r:=false) (HK.o _ (gD.o.alloc gD.o.size _)) (cT _ (by simp) #[.int .i64 5] [5] rfl (by decide)) (by decide) k5 ?_;go_wp2_with fail;by_cases h9:¬Ty.kindOf tf=9
  ·have oW:=qh (eH.o (zC h5 (λh=>h9 h.1)));have k9:decide (Ty.kindOf tf∈[9])=false:=by simpa using h9
   clear h5 h9;refine wp_region_held_drew (S:=λ_=>True) (by kernel_rfl) trivial (λhS=>?_);refine mT 0 ?_;refine mT 1 ?_;refine mT 15 ?_;refine wpAnyH_ready (rs:=[2]) (by kernel_rfl) (by simp) ?_;refine AllReadyH.cons rfl (λK hK=>?_) AllReadyH.nil;go_simp;refine hK.out _ _ trivial (λhHeld=>?_);clear hK K hHeld
   (try simp only[Act.put,lyA,lyB,lyC,lyD,lyE,lyF])
   refine wpAnyH_ready (rs:=[3]) (by kernel_rfl) (by simp) ?_;refine AllReadyH.cons rfl (λK hK=>?_) AllReadyH.nil;go_simp;refine bu (r:=false) (HK.o _ yz.o) (qu _ (by simp) #[.int .i64 9] [9] rfl (by decide)) (by decide) k9 ?_;go_simp;refine hK.out _ _ trivial (λhHeld=>?_);clear hK K hHeld
   (try simp only[Act.put,lyA,lyB,lyC,lyD,lyE,lyF])
   refine mT 4 ?_;refine H_ 5 ?_;refine H_ 6 ?_;refine H_ 7 ?_;refine H_ 8 ?_;refine H_ 9 ?_;refine H_ 10 ?_;refine H_ 11 ?_;refine H_ 12 ?_;refine H_ 13 ?_;refine mT 14 (v:=.bool false) ?_ (hy:=by intro w' dN;go_simp);refine wpAnyH_ready (rs:=[16]) (by kernel_rfl) (by simp) ?_;refine AllReadyH.cons rfl (λK hK=>?_) AllReadyH.nil;go_simp;have GJ:=qh ((gD.o.alloc gD.o.size (.cells #[.int .i64 5] 3)).alloc (gD.o.alloc gD.o.size (.cells #[.int .i64 5] 3)).size (.cells #[.int .i64 9] 3)).drew;refine HN.o _ GJ.o _ _ (λfV=>absurd fV (by decide)) (λ_ w' fU=>⟨rfl,oW.o w' (GJ.o.trans (fU.mono GJ.o.size))⟩)
  have h9:=Decidable.not_not.1 h9;have k9:decide (Ty.kindOf tf∈[9])=true:=by rw[h9];rfl
  have adh:=bV RA.o;have Fu:=And.intro (WC.o _ lh.o) (aq ((bR W.heap.size W).alloc (nR _) (.cells #[.int .i64 5] 3)).drew V1);have rK:=And.intro (WC.o _ yz.o) (aq (((bR W.heap.size W).alloc (nR _) (.cells #[.int .i64 5] 3)).drew.alloc (by show W.heap.size≤_;simp[World.drew]) (.cells #[.int .i64 9] 3)) V1);by_cases oV:¬ls.length=nd.list.length
  ·have oW:=qh (eH.o (zC h5 (λh=>oV (by have:=h.2;rw[List.length_map]at this;omega))));have adC: ((ls.length:Int)==(nd.list.length:Int))=false:=int_ne oV;clear h5 h9
   go_region_held (λw'=>w'.cell? ⟨b,2,none⟩=some (.slice qa ls.length qc)∧w'.cell? ⟨w2.heap.size,4,none⟩=some (.slice la nd.list.length lc)) (first|exact Fu|exact rK)
    (first
     |(go_at_call 296;refine bu (r:=true) (HK.o _ yz.o) (qu _ (by simp) #[.int .i64 9] [9] rfl (by decide)) (by decide) k9 ?_)
     |(go_at_call 160;refine HN.o _ yz.o _ _ (λfV=>?_) (λ_ w' fU=>⟨rfl,oW.o w' (yz.o.trans (fU.mono yz.o.size))⟩)))
   all_goals exact absurd fV (by decide)
  have oV:=Decidable.not_not.1 oV;have Ly:=qh oV;have H9:=qh h9;have H5:=qh h5;rw[oV]at Fu rK
  go_region_held3(λw'=>w'.cell? ⟨b,2,none⟩=some (.slice qa nd.list.length qc)∧w'.cell? ⟨w2.heap.size,4,none⟩=some (.slice la nd.list.length lc)) (first|exact Fu|exact rK)
   (first
    |(go_at_call 296;refine bu (r:=true) (HK.o _ yz.o) (qu _ (by simp) #[.int .i64 9] [9] rfl (by decide)) (by decide) k9 ?_)
    |(go_at_call 160;refine HN.o _ yz.o _ _ (λ_=>?_) (λh=>by cases h)))
  all_goals
   have Z8:=rK.2;have ab2:=nL Tt (((bR W.heap.size W).alloc (nR _) (.cells #[.int .i64 5] 3)).drew.alloc (by show W.heap.size≤_;simp[World.drew]) (.cells #[.int .i64 9] 3)).size;clear Fu rK h5 h9 V1 Tt aaH k5 k9;go_wp2_with fail;go_loopw [43] (λi wr=>∃j:Nat,i=.int .i64 j∧j≤nd.list.length∧Hq (Below w.heap.size w wr)∧Hq (∀m,m<j→Ty.fits ((nd.list.map (tO s.of)).getD m bN) ((aN tf).getD m bN)=true)) (λi _=>nd.list.length-(intOf i).toNat)
   case atStart=>exact⟨0,rfl,Nat.zero_le _,yz.o,λm hm=>by omega⟩
   case round=>
    obtain⟨j,rfl,hj,hB,hF⟩:=hrel;by_cases bm:j<nd.list.length
    ·obtain⟨gl,j9,e,mW,d0⟩:=ints_at (HL.o wr hB.out) j bm;cases e;have eh:j<ls.length:=by rw[Ly.o];exact bm
     obtain⟨gq,acu,e,ada,d1⟩:=fD (abM.o wr hB.out) j eh;cases e;obtain⟨xv,kN⟩:=RG.o j bm;obtain⟨pj,bD,CG⟩:=HW.o.gj kN xv;have PK:=HW.o.fK.of _ _ xv;have tK:j<(aN tf).length:=by have:=bV RA.o;omega
     have Ux:=cS RA.o j tK eh;obtain⟨bj,rfl⟩:=aP CG;obtain⟨bq,aaQ⟩:=aP Ux;rw[aaQ]at Ux d1
     have SL:dP (aN tf)[j]:=by have:=cz Z9.o.ok tK;rwa [getD_eq tK]at this
     have Un: (nd.list.map (tO s.of)).getD j bN=tO s.of nd.list[j]:=by rw[getD_eq (by rw[List.length_map];exact bm),List.getElem_map]
     have DX: (aN tf).getD j bN=(aN tf)[j]:=getD_eq tK _;have sV:=qh (yE w _ (tO s.of nd.list[j]) (aN tf)[j] _ _ (Nat.lt_succ_self _) PK.1.ok SL (bL HW.o.le _ _ CG) (bL HW.o.le _ _ Ux));have DE:=qh (λ(h:Ty.fits (tO s.of nd.list[j]) (aN tf)[j]=true)(m:Nat)(hm:m<j+1)=>(show Ty.fits ((nd.list.map (tO s.of)).getD m bN) ((aN tf).getD m bN)=true by
      by_cases he:m=j
      ·rw[he,Un,DX];exact h
      ·exact hF.out m (by omega)))
     have yA:=qh (λ(h:Ty.fits (tO s.of nd.list[j]) (aN tf)[j]=false)=>eH.o (FZ H9.o (by rw[List.length_map];have:=bV RA.o;have:=Ly.o;omega) (j:=j) (by rw[List.length_map];exact bm) (by rw[Un,DX];exact h)));have MD:=qh hB.out.drew;have Y':=aq hB.out HW.o.c5;have V0:=WC.o wr hB.out;rw[Ly.o]at V0
     have TS:wr.drew.cell? ⟨cb,5,none⟩=some (.map (some ofb))∧wr.drew.cell? ⟨b,2,none⟩=some (.slice (some ⟨gq,0,none⟩) nd.list.length qc)∧wr.drew.cell? ⟨gq,j,none⟩=some (.pointer (some ⟨bq,0,none⟩))∧(Instr.lookup 103 (.map (some ofb)) (.int .i64 (nd.list[j]:Nat)) false).run prog wr.drew=.ok (.pointer (some ⟨bj,0,none⟩)) wr.drew:=⟨Y',V0,d1,bD _ MD.o⟩
     have np:=qh (λw5(h:Below wr.drew.heap.size wr.drew w5)=>(show w5.cell? ⟨cb,5,none⟩=some (.map (some ofb))∧w5.cell? ⟨b,2,none⟩=some (.slice (some ⟨gq,0,none⟩) nd.list.length qc)∧w5.cell? ⟨gq,j,none⟩=some (.pointer (some ⟨bq,0,none⟩))∧(Instr.lookup 103 (.map (some ofb)) (.int .i64 (nd.list[j]:Nat)) false).run prog w5=.ok (.pointer (some ⟨bj,0,none⟩)) w5 from⟨aq h TS.1,aq h TS.2.1,aq h TS.2.2.1,bD _ (MD.o.trans (h.mono MD.o.size))⟩));have Sn:=Zx.o wr hB.out;generalize Ty.fits (tO s.of nd.list[j]) (aN tf)[j]=f at*
     generalize nd.list[j]=nj at*
     have Zt:=nL gU hB.out.size;clear xv CG PK Ux SL Un DX bD Y' V0 Z8 ab2;cases f
     ·have oW:=qh (yA.o rfl);go_wp2_with fail
      go_region_held (λw'=>w'.cell? ⟨cb,5,none⟩=some (.map (some ofb))∧w'.cell? ⟨b,2,none⟩=some (.slice (some ⟨gq,0,none⟩) nd.list.length qc)∧w'.cell? ⟨gq,j,none⟩=some (.pointer (some ⟨bq,0,none⟩))∧(Instr.lookup 103 (.map (some ofb)) (.int .i64 (nj:Nat)) false).run prog w'=.ok (.pointer (some ⟨bj,0,none⟩)) w') (first|exact TS|exact iv)
       (first
        |(go_at_call 249;refine sV.o _ MD.o _ (λw5 dW=>?_);have iv:=np.o w5 dW;have lh:=qh (MD.o.trans (dW.mono MD.o.size));clear dW)
        |(go_at_call 160;refine HN.o _ lh.o _ _ (λfV=>?_) (λ_ w' fU=>⟨rfl,oW.o w' (lh.o.trans (fU.mono lh.o.size))⟩)))
      all_goals exact absurd fV (by decide)
     ·have dq:=qh (DE.o rfl);go_wp2_with fail;go_region_held3(λw'=>w'.cell? ⟨cb,5,none⟩=some (.map (some ofb))∧w'.cell? ⟨b,2,none⟩=some (.slice (some ⟨gq,0,none⟩) nd.list.length qc)∧w'.cell? ⟨gq,j,none⟩=some (.pointer (some ⟨bq,0,none⟩))∧(Instr.lookup 103 (.map (some ofb)) (.int .i64 (nj:Nat)) false).run prog w'=.ok (.pointer (some ⟨bj,0,none⟩)) w') (first|exact TS|exact iv)
       (first
        |(go_at_call 249;refine sV.o _ MD.o _ (λw5 dW=>?_);have iv:=np.o w5 dW;have lh:=qh (MD.o.trans (dW.mono MD.o.size));clear dW)
        |(go_at_call 160;refine HN.o _ lh.o _ _ (λ_=>?_) (λh=>by cases h)))
      all_goals
       go_wp2_with fail;go_roundw
       case rel=>exact⟨j+1,by go_num,by omega,lh.o,dq.o⟩
       case measure=>simp[intOf];omega
    ·have ju:j=nd.list.length:=by omega
     have HG:=qh (λw'(h:Sat w w' [bE w])=>aY.o (fq tf) ov w' (Iz H9.o (by rw[List.length_map];have:=bV RA.o;have:=Ly.o;omega) (λm hm=>hF.out m (by rw[List.length_map]at hm;omega))) (h.hZ λa h hl _=>bL hl _ _ (Q_.o (.inr H9.o))));have o3:=ZX.o wr hB.out;have Sn:=Zx.o wr hB.out;clear ju;go_wp2_with fail;exact HG.o _ ((Sat.fw w).below hB.out)
end
end
end Go.Proofs.YtdlbhiaceheffabGreatDoor
