/- Walk of check: the checker's memory. -/
import Derived.Test.YtdlbhiaceheffabGreatDoorE21
import Derived.Test.YtdlbhiaceheffabGreatDoorE06
set_option linter.all false
set_option maxRecDepth 100000
set_option maxHeartbeats 8000000
namespace Go.Proofs.YtdlbhiaceheffabGreatDoor
open Go Go.RowKit Ty Tok Prt Tryz Proofs.Tryz
section
open Go.WideElems (Fit rg)
open Ty (Tr Ck)
abbrev Dv:=DataW Value
def Og(v:Value):Option (Dv×List MemPlace):=some (.held v,[])
def jk(k:TypeId)(b n:Nat)(Φ:Dv->Prop):As:=λh=>∃es clock,h b=some (.map es clock)/\Fit (H:=Value) prog k Og es clock/\es.size<=n/\Φ (.map ((es.toList.map (rg prog k Og)).foldr DataW.insert []))
section
variable {w0 w w':World} {L:List As} {k:TypeId} {b n:Nat} {Φ:Dv->Prop}
theorem Prt.Sat.ES(h:Sat w0 w L)(k b:Nat)(hb:b=w.heap.size)(WC:Φ (.map [])):Sat w0 (w.alloc (.map #[] 0)) (L++[jk k b 0 Φ]):=by
 subst hb;refine h.new ((bR _ _).alloc (nR _) _) ⟨λj=>if j=w.heap.size then some (.map #[] 0)else none,⟨#[],0,by simp,⟨by simp,MapKept.stamped_empty 0,by simp⟩,nR _,WC⟩,λj x ex=>?_,λj hj=>?_⟩
 ·dsimp only at ex;split at ex
  ·rename_i hk;subst hk;cases ex;exact heap_alloc_new w _
  ·cases ex
 ·dsimp only;rw[if_neg (by omega)]
theorem Prt.Sat.fV(h:Sat w0 w L)(i:Nat)(hi:L[i]?=some (jk k b n Φ)):∃D:Dv,w.ownsMap prog k Og b n D/\Φ D:=by
 obtain⟨a,b',_,h2,_,h4,_⟩:=eQ h.mem hi;obtain⟨es,clock,g1,g2,g3,g4⟩:=h4;exact⟨_,⟨es,clock,h2 b _ g1,g2,g3,rfl⟩,g4⟩
theorem Prt.Sat.jq(h:Sat w0 w L)(i:Nat)(hi:L[i]?=some (jk k b n Φ)){n':Nat}{D:Dv}{Ψ:Dv->Prop}(hg:w.grownBy w' (some b))(ho:w'.ownsMap prog k Og b n' D)(XS:Ψ D):Sat w0 w' (L.set i (jk k b n' Ψ)):=by
 obtain⟨es,clock,g1,g2,g3,rfl⟩:=ho;refine h.Uc hi hg.os hg.tape hg.output λa ha hl=>⟨λj=>if j=b then some (.map es clock)else none,⟨es,clock,by simp,g2,g3,XS⟩,λj x ex=>?_,λj hj a_=>?_⟩
 ·dsimp only at ex;split at ex
  ·rename_i hk;subst hk;cases ex;exact g1
  ·cases ex
 ·have bT:j≠b:=by
   rintro rfl
   obtain⟨acP,c2,e2,_⟩:=ha;rw[hj]at e2;cases e2
  exact⟨by dsimp only;rw[if_neg bT],hg.block j a_ (by simpa using bT)⟩
end
def gd(f:Nat->Option Value)(D:Dv):Prop:=Maps.IsMap D/\∀m:Nat,Maps.has D (.int .i64 (m:Nat))=(f m).isSome/\D.atKey (.int .i64 (m:Nat)) (.held (.pointer none))=.held ((f m).getD (.pointer none))
theorem Ay:gd (λ_=>none) (.map []):=⟨Maps.isMap_empty,λ_=>⟨rfl,rfl⟩⟩
theorem jt{f:Nat->Option Value}{D:Dv}(h:gd f D)(n:Nat)(p:Value):gd (λk=>if k=n then some p else f k) (D.put (.int .i64 (n:Nat)) (.held p)):=by
 refine⟨h.1.put _ _,λm=>?_⟩;dsimp only;by_cases hx:m=n
 ·subst hx;rw[if_pos rfl,Maps.atKey_put_same h.1 (show WideAt.IsKeyLit (.int _ _)from trivial),Maps.has_put_same h.1 (show WideAt.IsKeyLit (.int _ _)from trivial)];exact⟨rfl,rfl⟩
 ·rw[if_neg hx,Maps.atKey_put_other (fM hx),Maps.has_put_other (fM hx)];exact h.2 m
structure Cx where
 nv:Value
 tv:Value
 main:Int
 nV:Nat
 nt:Nat
 wi:Nat->Option Int
 cav:Value
def Cx.aK(X:Cx)(n:Nat):Nat:=((X.wi n).getD 0).toNat
def RI(wi:Nat->Option Int):Prop:=∀n,0<=(wi n).getD 0/\(wi n).getD 0<=100000
abbrev MI(X:Cx)(ofb hasb:Nat)(bkv:Value):Obj:=.cells #[X.nv,X.tv,.int .i64 X.main,.map (some X.nV),X.cav,.map (some ofb),.map (some hasb),bkv] 106 (0,0)
structure CkW(w:World)(cb:Nat)(X:Cx)(ofb hasb:Nat)(s:Ck)(h0:Prt.Hp):Prop where
 lt:cb<w.heap.size
 le:Prt.le h0 (Prt.hp w)
 c0:w.cell? ⟨cb,0,none⟩=some X.nv
 c1:w.cell? ⟨cb,1,none⟩=some X.tv
 c3:w.cell? ⟨cb,3,none⟩=some (.map (some X.nV))
 c5:w.cell? ⟨cb,5,none⟩=some (.map (some ofb))
 c6:w.cell? ⟨cb,6,none⟩=some (.map (some hasb))
 Vq:∃n D,w.ownsMap prog 3 (plainElem prog 3) X.nV n D/\cF X.wi D
 of:∃n D fv,w.ownsMap prog 3 Og ofb n D/\gd fv D/\∀n t,s.of n=some t->∃p,fv n=some p/\rep h0 t p
 has:∃n D fv,w.ownsMap prog 3 Og hasb n D/\gd fv D/\∀n t,s.has n=some t->∃p,fv n=some p/\rep h0 t p
 fG:FineS s
 wi:RI X.wi
theorem fQ{H:Type}{R:Value->Option (DataW H×List MemPlace)}{w w':World}{k:TypeId}{b n:Nat}{D:DataW H}(h:w.ownsMap prog k R b n D)(hb:Below w.heap.size w w'):w'.ownsMap prog k R b n D:=by
 obtain⟨es,clock,g1,g2,g3,g4⟩:=h;exact⟨es,clock,by rw[hb.block b (Array.getElem?_eq_some_iff.1 g1).1];exact g1,g2,g3,g4⟩
theorem nC{w w':World}{h0:Prt.Hp}(h:Prt.le h0 (Prt.hp w))(hb:Below w.heap.size w w'):Prt.le h0 (Prt.hp w'):=λk o e=>by
 have:=h k o e;show w'.heap[k]?= _;rw[hb.block k (Array.getElem?_eq_some_iff.1 this).1];exact this
theorem CkW.below{w w':World}{cb ofb hasb:Nat}{X:Cx}{s:Ck}{h0:Prt.Hp}(h:CkW w cb X ofb hasb s h0)(hb:Below w.heap.size w w'):CkW w' cb X ofb hasb s h0:=by
 obtain⟨n1,D1,g1,g2⟩:=h.Vq;obtain⟨n2,D2,f2,k2,k3,k4⟩:=h.of;obtain⟨n3,D3,f3,l2,l3,l4⟩:=h.has;exact⟨nL h.lt hb.size,nC h.le hb,ak hb h.c0,ak hb h.c1,ak hb h.c3,ak hb h.c5,ak hb h.c6,⟨n1,D1,fQ g1 hb,g2⟩,⟨n2,D2,f2,fQ k2 hb,k3,k4⟩,⟨n3,D3,f3,fQ l2 hb,l3,l4⟩,h.fG,h.wi⟩
theorem CkW.drew{w:World}{cb ofb hasb:Nat}{X:Cx}{s:Ck}{h0:Prt.Hp}(h:CkW w cb X ofb hasb s h0):CkW w.drew cb X ofb hasb s h0:=h.below (Below.drew (bR _ _))
theorem Pn(W:World): (zeroValue 107).run prog W=.ok (.pointer none) W:=by simp[zeroValue,go_sem];rfl
theorem ye(W:World): (zeroValue 3).run prog W=.ok (.int .i64 0) W:=by simp[zeroValue,go_sem];rfl
theorem kv{w:World}{b n m:Nat}{D:Dv}{fv:Nat->Option Value}(h:w.ownsMap prog 3 Og b n D)(hD:gd fv D)(hm:m<=100000): (Instr.lookup 103 (.map (some b)) (.int .i64 (m:Nat)) false).run prog w=.ok ((fv m).getD (.pointer none)) w:=by
 have oj: (Lit.int .i64 (m:Nat)).wf=true:=WalkArith.wf_i64 (by omega);obtain⟨v,ps,lx,hv⟩:=h.lookup cy underlying103 (Pn w) (zd:=.held (.pointer none)) (zp:=[]) rfl (Maps.keyOf_int_mk underlying3 oj);rw[(hD.2 m).2]at hv
 unfold Og at hv;simp only[Option.some.injEq,Prod.mk.injEq,DataW.held.injEq]at hv;rw[lx,hv.1]
section
variable {w:World} {cb ofb hasb:Nat} {X:Cx} {s:Ck} {h0:Prt.Hp}
theorem CkW.Gb(h:CkW w cb X ofb hasb s h0){n:Nat}{t:Tr}(hn:n<=100000)(ht:s.of n=some t):∃p,(Instr.lookup 103 (.map (some ofb)) (.int .i64 (n:Nat)) false).run prog w=.ok p w/\rep h0 t p:=by
 obtain⟨_,D,fv,k2,k3,k4⟩:=h.of;obtain⟨p,hp,hr⟩:=k4 n t ht;exact⟨p,by rw[kv k2 k3 hn,hp];rfl,hr⟩
theorem CkW.fW(h:CkW w cb X ofb hasb s h0){n:Nat}{t:Tr}(hn:n<=100000)(ht:s.of n=some t):∃p,(∀w':World,Below w.heap.size w w'->(Instr.lookup 103 (.map (some ofb)) (.int .i64 (n:Nat)) false).run prog w'=.ok p w')/\rep h0 t p:=by
 obtain⟨_,D,fv,k2,k3,k4⟩:=h.of;obtain⟨p,hp,hr⟩:=k4 n t ht;exact⟨p,λw' hb=>by rw[kv (fQ k2 hb) k3 hn,hp];rfl,hr⟩
theorem CkW.hasAll(h:CkW w cb X ofb hasb s h0){n:Nat}{t:Tr}(hn:n<=100000)(ht:s.has n=some t):∃p,(∀w':World,Below w.heap.size w w'->(Instr.lookup 103 (.map (some hasb)) (.int .i64 (n:Nat)) false).run prog w'=.ok p w')/\rep h0 t p:=by
 obtain⟨_,D,fv,k2,k3,k4⟩:=h.has;obtain⟨p,hp,hr⟩:=k4 n t ht;exact⟨p,λw' hb=>by rw[kv (fQ k2 hb) k3 hn,hp];rfl,hr⟩
theorem CkW.oL(h:CkW w cb X ofb hasb s h0){n:Nat}(hn:n<=100000): (Instr.lookup 102 (.map (some X.nV)) (.int .i64 (n:Nat)) false).run prog w=.ok (.int .i64 (X.aK n:Nat)) w/\X.aK n<=100000:=by
 obtain⟨m,D,h1,h2⟩:=h.Vq;have oj: (Lit.int .i64 (n:Nat)).wf=true:=WalkArith.wf_i64 (by omega);obtain⟨c,lx,t_,_⟩:=h1.lookup_int cy underlying102 underlying3 (ye w) (Maps.keyOf_int_mk underlying3 oj);rw[h2.2 n]at t_
 simp only[DataW.lit.injEq,Lit.int.injEq,true_and]at t_;have:=h.wi n;have e: ((X.aK n:Nat):Int)=(X.wi n).getD 0:=by unfold Cx.aK;omega
 exact⟨by rw[lx,<-t_,e],by unfold Cx.aK;omega⟩
end
theorem aS{h0:Prt.Hp}{t:Tr}{p:Value}(h:rep h0 t p):∃b,p=.pointer (some ⟨b,0,none⟩):=by
 obtain⟨b,e,_⟩:=fI h;exact⟨b,e⟩
end
section
open Ty (Tr Ck)
theorem KY(nd:Nd)(lv:Value)(W:World): (Instr.field 66 (.agg #[.int .i64 nd.kind,.int .i64 nd.a,.int .i64 nd.b,.int .i64 nd.c,lv,.string nd.text,.int .i64 nd.n,.int .i64 nd.ty,.int .i64 nd.pos]) 8).run prog W=.ok (.int .i64 nd.pos) W:=by
 simp[Instr.field,run_underlying underlying66,asAgg,go_sem]
theorem uh(nd:Nd)(lv:Value)(W:World): (Instr.field 66 (.agg #[.int .i64 nd.kind,.int .i64 nd.a,.int .i64 nd.b,.int .i64 nd.c,lv,.string nd.text,.int .i64 nd.n,.int .i64 nd.ty,.int .i64 nd.pos]) 7).run prog W=.ok (.int .i64 nd.ty) W:=by
 simp[Instr.field,run_underlying underlying66,asAgg,go_sem]
theorem Ka(nd:Nd)(lv:Value)(W:World): (Instr.field 66 (.agg #[.int .i64 nd.kind,.int .i64 nd.a,.int .i64 nd.b,.int .i64 nd.c,lv,.string nd.text,.int .i64 nd.n,.int .i64 nd.ty,.int .i64 nd.pos]) 1).run prog W=.ok (.int .i64 nd.a) W:=by
 simp[Instr.field,run_underlying underlying66,asAgg,go_sem]
section
variable {wB w:World} {cb:Nat} {nv tv:Value} {pg:Ty.Pg}
theorem aQ(hP:PB wB nv tv pg)(hb:Below wB.heap.size wB w){id:Nat}{nd:Nd}(hn:pg.ns[id]?=some nd)(h0:w.cell? ⟨cb,0,none⟩=some nv)(gh:cb<w.heap.size){R:EW}
  (hR:∀lv w',Below w.heap.size w w'->wB.ownsRow 0 3 1 lv nd.list.length (nd.list.map aO)->R (.returned (aG nd lv)) w'):
  Calls prog 152 #[.pointer (some ⟨cb,0,none⟩),.int .i64 (id:Nat)] w R:=by
 obtain⟨g,cap,lv,rfl,k_,hg,kK,Dt,hA,hl,_,hN⟩:=hP.look hn;obtain⟨q0,q1,q2,q3,q4,q5,q6,q7,q8⟩:=hA.below hb;have U5:g<w.heap.size:=nL hg hb.size;obtain⟨la,lc,rfl⟩:=ag hl;have HR:=qh (λw' ff=>hR (.slice la nd.list.length lc) w' ff hl);unfold maxLen at Dt;clear hR hA hl hb hP hn;generalize pg.ns.length=N at*
 go_in;go_wp2_with fail;refine bodyPost_ret ?_ rfl (HR.o _ ?_)
 ·simp[results,results152,go_sem,aG]
 ·exact(bR _ _).alloc (nR _) _
theorem eC(hP:PB wB nv tv pg)(hb:Below wB.heap.size wB w){id:Nat}{nd:Nd}(hn:pg.ns[id]?=some nd)(h0:w.cell? ⟨cb,0,none⟩=some nv)(gh:cb<w.heap.size){b:Bool}{e:Nat}{R:EW}
  (aH:b=true->R (.returned (.tuple #[])) w) (au:b=false->∀w',Below w.heap.size w w'->R (.panicked (aI (e,nd.pos))) w'):
  Calls prog 160 #[.pointer (some ⟨cb,0,none⟩),.bool b,.int .i64 (e:Nat),.int .i64 (id:Nat)] w R:=by
 cases b with
 |true=>
  have aX:=qh (aH rfl);clear aH au;go_in;go_wp2_with fail;go_end0;exact aX.o
 |false=>
  have HB:=qh (au rfl);clear aH au;have f8:=KY nd;go_in;go_wp2_with fail;refine aQ hP hb hn h0 gh (λlv w2 aD hl=>?_);have c9:=qh (HB.o w2 aD);clear aD hl;unfold aG;go_wp2_with fail;exact⟨rfl,c9.o⟩
theorem bU(w:World)(k:Int){R:EW}(hR:R (.returned (.pointer (some ⟨w.heap.size,0,none⟩))) (w.alloc (.cells #[.int .i64 k,.slice none 0 0,.slice none 0 0,.pointer none] 219))):
  Calls prog 240 #[.int .i64 k] w R:=by
 have HR:=qh hR;clear hR;go_in;go_wp2_with fail;refine lY _ k ?_;go_wp2_with fail;exact HR.o
end
def O3(o:Option Tr)(v:Value):As:=match o with
 |none=>bX (v=.pointer none)
 |some t=>qH v t
theorem NI{h:Prt.Hp}{b k:Nat}(ha:av b (.cells #[.int .i64 (k:Nat),.slice none 0 0,.slice none 0 0,.pointer none] 219 (0,0)) h):rep h (jL k) (.pointer (some ⟨b,0,none⟩)):=
 qW (qs:=[]) ha ⟨rfl,.inl ⟨rfl,rfl⟩⟩ (by rw[bz])
theorem uS{w0 w:World}{Fr:As}{o:Option Tr}{v:Value}(H:Sat w0 w [Fr,O3 o v]){R:EW}(hR:∀p w',Sat w0 w' [Fr,qH p (za o)]->R (.returned p) w'):
  Calls prog 153 #[v] w R:=by
 cases o with
 |none=>
  have hv:v=.pointer none:=H.get (i:=1) rfl λ_ ha _=>ha
  subst hv;have h1:=((H.pick [0]).aj (.cells #[.int .i64 (5:Nat),.slice none 0 0,.slice none 0 0,.pointer none] 219) w.heap.size).cL (i:=1) rfl (Q:=qH (.pointer (some ⟨w.heap.size,0,none⟩)) (za none)) λ_ ha=>NI (k:=5) ha
  have HR:=qh (hR _ _ h1);clear hR h1 H;go_in;go_wp2_with fail;refine bU _ 5 ?_;go_wp2_with fail;exact HR.o
 |some t=>
  have hr:rep (Prt.hp w) t v:=H.get (i:=1) rfl λ_ ha hl=>bN hl _ _ ha
  obtain⟨b,rfl⟩:=aS hr;have HR:=qh (hR _ _ H);clear hR hr H;go_in;go_wp2_with fail;exact HR.o
section
variable {wB w:World} {cb:Nat} {nv tv:Value} {pg:Ty.Pg}
theorem gT(hP:PB wB nv tv pg)(hb:Below wB.heap.size wB w)(c1:w.cell? ⟨cb,1,none⟩=some tv)(gh:cb<w.heap.size){z:Int}(hz:zz z pg.ts){R:EW}
  (hR:∀v w',Sat w w' [bG w,O3 (dZ pg.ts z) v]->R (.returned v) w'):
  Calls prog 154 #[.pointer (some ⟨cb,0,none⟩),.int .i64 z] w R:=by
 rcases hz with rfl|⟨n,rfl,hn⟩
 ·have h1:=(Sat.fO w).iA (P:=O3 (dZ pg.ts (-1)) (.pointer none)) (λ_=>by unfold dZ;rw[if_pos (by omega)];rfl);have HR:=qh (hR _ _ h1);clear hR h1;go_in;go_wp2_with fail;exact HR.o
 ·obtain⟨rows,hr,II⟩:=hP.ty;have hk:=hP.ok;have hO:=PN tv rows pg.ts hr hk.wf hk.SP _ n (Nat.lt_succ_self _) hn.lt w (II.below hb);have hw:dZ pg.ts (n:Nat)=some (Ty.den pg.ts n):=by unfold dZ;rw[if_neg (by omega)];rfl
  have HO:=qh hO;have HR:=qh (λp w'(h:Sat w w' [bG w,qH p (Ty.den pg.ts n)])=>hR p w' (by rw[hw];exact h));have k0:decide ((n:Int)<0)=false:=by simp
  clear hR hO hr II hw hk hn hP hb;go_in;go_wp2_with fail;refine HO.o _ (λp w2 h2=>?_);have HG:=qh (HR.o p w2 h2);clear h2;go_wp2_with fail;exact HG.o
end
theorem bs{w:World}{b k:Nat}(hk:cY w b k){v:Value}{l:List Nat}(bm:w.ownsRow 0 3 1 v l.length (l.map aO))(hl:l.length<=10){r:Bool}(hr:decide (k∈l)=r){R:EW}(hR:R (.returned (.bool r)) w):
  Calls prog 296 #[.pointer (some ⟨b,0,none⟩),v] w R:=by
 subst hr;obtain⟨hb,c0⟩:=hk;obtain⟨la,lc,rfl⟩:=ag bm;have HY:Hq (k∈l->R (.returned (.bool true)) w):=λh=>by simpa [h]using hR
 have HN:Hq (k∉l->R (.returned (.bool false)) w):=λh=>by simpa [h]using hR
 have du:=qh bm;clear hR bm;go_in;go_wp2_with fail;go_loopw [9] (λi wr=>wr=w/\∃j:Nat,i=.int .i64 j/\j<=l.length/\Hq (k∉l.take j)) (λi _=>l.length-(intOf i).toNat)
 case atStart=>exact⟨rfl,0,rfl,Nat.zero_le _,by show k∉[];simp⟩
 case round=>
  obtain⟨rfl,j,rfl,hj,hE⟩:=hrel;by_cases a_:j<l.length
  ·obtain⟨gl,jB,e,ku,d0⟩:=ints_at du.o j a_;cases e;have HT:=qh (List.take_succ_eq_append_getElem a_);have HM:=qh (gM a_);generalize l[j]=x at*
   by_cases hx:k=x
   ·subst hx;go_wp2_with fail;exact HY.o HM.o
   ·have kx: ((k:Int)==(x:Int))=false:=int_ne hx;have fR:Hq (k∉l.take (j+1)):=by show k∉_;rw[HT.o,List.mem_append];simp only[List.mem_singleton];exact λh=>h.elim hE.out hx
    clear hx;go_wp2_with fail;go_roundw
    case rel=>exact⟨trivial,j+1,by go_num,by omega,fR⟩
    case measure=>simp[intOf];omega
  ·have gO:j=l.length:=by omega
   have fR:Hq (k∉l):=by have:=hE.out;rw[gO,List.take_length]at this;exact this
   clear gO;go_wp2_with fail;exact HN.o fR.o
theorem cR(w:World){b:Nat}(hb:b=w.heap.size)(cs:Array Value)(l:List Nat)(h:cs.toList=l.map aO)(hn:l.length<=10): (w.alloc (.cells cs 3)).ownsRow 0 3 1 (.slice (some ⟨b,0,none⟩) l.length l.length) l.length (l.map aO):=by
 subst hb;have h1:=((Sat.fO w).aj (.cells cs 3) w.heap.size).cL (i:=1) rfl (Q:=Prt.row 3 1 (.slice (some ⟨w.heap.size,0,none⟩) l.length l.length) l.length (l.map aO)) λ_ h2=>mx h2 (by unfold maxLen;omega) (by have:=congrArg List.length h;simpa using this) h
 exact h1.row 1 rfl
theorem iB{w W:World}{h0:Prt.Hp}(hB:Below w.heap.size w W)(k:Nat){b:Nat}(hb:b=W.heap.size):Sat w (W.alloc (.cells #[.int .i64 (k:Nat),.slice none 0 0,.slice none 0 0,.pointer none] 219)) [bG w,db h0 (jL k) (.pointer (some ⟨b,0,none⟩))]:=
 (((Sat.fO w).below hB).aj (.cells #[.int .i64 (k:Nat),.slice none 0 0,.slice none 0 0,.pointer none] 219) b hb).cL (i:=1) rfl λ_ ha _ _ mI=>NI (mI _ _ ha)
theorem w_{x b:BA}{l:List UInt8}(h:x=b)(hb:b.data.toList=l): (x.toList==l)=true:=by rw[Lib.toList_data,h,hb];simp
theorem u4{x b:BA}{l:List UInt8}(h:x≠b)(hb:b.data.toList=l): (x.toList==l)=false:=by
 rw[Lib.toList_data];refine beq_eq_false_iff_ne.2 λe=>h ?_
 cases x;cases b;simp only at e hb;congr 1;exact Array.toList_inj.1 (e.trans hb.symm)
theorem ql(w:World){b:Nat}(hb:b=w.heap.size)(cs:Array Value)(l:List Nat)(h:cs.toList=l.map aO)(hn:l.length<=10): (w.alloc (.cells cs 3)).drew.ownsRow 0 3 1 (.slice (some ⟨b,0,none⟩) l.length l.length) l.length (l.map aO):=cR w hb cs l h hn
section
variable {wB w:World} {cb ofb hasb:Nat} {X:Cx} {s:Ck} {h0:Prt.Hp} {pg:Ty.Pg}
theorem CkW.kind(hW:CkW w cb X ofb hasb s h0){t:Tr}{b:Nat}(hr:rep h0 t (.pointer (some ⟨b,0,none⟩))):cY w b (Ty.kindOf t):=by
 obtain⟨b2,e,hk⟩:=qG (bN hW.le _ _ hr);cases e;exact hk
theorem cY.below{w w1:World}{b k:Nat}(h:cY w b k)(hb:Below w.heap.size w w1):cY w1 b k:=tm hb h.1 h.2
theorem xj(hP:PB wB X.nv X.tv pg)(hb:Below wB.heap.size wB w){id:Nat}{nd:Nd}(hn:pg.ns[id]?=some nd)(hW:CkW w cb X ofb hasb s h0){t:Tr}{p:Value}(hr:rep h0 t p)(Eu:dX t)(x:BA){R:EW}
  (aH:∀u q w',o6 t x=some u->Sat w w' [bG w,db h0 u q]->R (.returned q) w') (au:o6 t x=none->∀w',Below w.heap.size w w'->R (.panicked (aI (9,nd.pos))) w'):
  Calls prog 243 #[.pointer (some ⟨cb,0,none⟩),p,.string x,.int .i64 (id:Nat)] w R:=by
 obtain⟨b,rfl⟩:=aS hr;have HK:=qh (λw1(h:Below w.heap.size w w1)=>(hW.kind hr).below h);have HN:=qh (λw1(h:Below w.heap.size w w1)(ok:Bool)(R:EW)=>eC (R:=R) (b:=ok) (e:=9) hP (hb.trans (h.mono hb.size)) hn (ak h hW.c0) (nL hW.lt h.size));have uY:=qh (λw1(h:Below w.heap.size w w1)(R:EW)=>ry (R:=R) w w1 hW.le h t _ hr Eu x);by_cases h5:Ty.kindOf t=5
 ·have HA:=qh (λw'(h:Sat w w' [bG w])=>aH t _ w' (by unfold o6;rw[if_pos h5]) (h.iA λa h hl _=>bN hl _ _ hr));rw[h5]at HK
  clear aH au hP hb hn hW hr Eu h5;go_in;go_wp2_with fail;refine bs (r:=true) (HK.o _ ((bR _ _).alloc (nR _) _)) (cR w (by simp) #[.int .i64 5] [5] rfl (by decide)) (by decide) rfl ?_;go_wp2_with fail;exact HA.o _ ((Sat.fO w).aW _)
 have k5:decide (Ty.kindOf t∈[5])=false:=by simpa using h5
 by_cases h8:Ty.kindOf t=8/\x=PE
 ·obtain⟨h8,NA⟩:=h8;have HA:=qh (λq w'(h:Sat w w' [bG w,db h0 (jL 1) q])=>aH (jL 1) q w' (by unfold o6;rw[if_neg h5,if_pos ⟨h8,NA⟩]) h);have kx: (x.toList==[108,101,110,103,116,104])=true:=w_ NA rfl;rw[h8]at HK k5
  clear aH au hP hb hn hW hr Eu h5 h8 NA;go_in;go_wp2_with fail;refine bs (r:=false) (HK.o _ ((bR _ _).alloc (nR _) _)) (cR w (by simp) #[.int .i64 5] [5] rfl (by decide)) (by decide) k5 ?_;go_wp2_with fail;refine bs (r:=true) (HK.o _ (((bR _ _).alloc (nR _) _).alloc (by simp) _)) (cR _ (by simp) #[.int .i64 8] [8] rfl (by decide)) (by decide) rfl ?_;go_wp2_with fail;refine bU _ 1 ?_;go_wp2_with fail;exact HA.o _ _ (iB (((bR _ _).alloc (nR _) _).alloc (by simp) _) 1 (by simp))
 by_cases h7:Ty.kindOf t=7
 ·have HA:=qh (λu q w'(h2:Ty.part (bY t) (Ty.partsOf t) x=some u)(h:Sat w w' [bG w,db h0 u q])=>aH u q w' (by unfold o6;rw[if_neg h5,if_neg h8,if_pos h7];exact h2) h);have HB:=qh (λ(h2:Ty.part (bY t) (Ty.partsOf t) x=none)=>au (by unfold o6;rw[if_neg h5,if_neg h8,if_pos h7];exact h2));have k8:decide (Ty.kindOf t∈[8])=false:=by rw[h7];rfl
  obtain⟨k,names,parts,list,of⟩:=t;dsimp only[Ty.kindOf,bY,Ty.partsOf]at HK HA HB k5 k8 h7;subst h7;clear aH au hP hb hn hW hr Eu h5 h8;go_in;go_wp2_with fail;refine bs (r:=false) (HK.o _ ((bR _ _).alloc (nR _) _)) (cR w (by simp) #[.int .i64 5] [5] rfl (by decide)) (by decide) k5 ?_;go_wp2_with fail;refine bs (r:=false) (HK.o _ (((bR _ _).alloc (nR _) _).alloc (by simp) _)) (cR _ (by simp) #[.int .i64 8] [8] rfl (by decide)) (by decide) k8 ?_;go_wp2_with fail;refine uY.o _ (((bR _ _).alloc (nR _) _).alloc (by simp) _) _ (λq w2 aD hq=>?_)
  (try dsimp only at hq)
  have EA:=(((bR w.heap.size w).alloc (nR _) (.cells #[.int .i64 5] 3)).alloc (by simp) (.cells #[.int .i64 8] 3)).trans (aD.mono (by simp;omega));have c9:=qh EA;clear aD EA;cases hp:Ty.part names parts x with
  |none=>
   rw[hp]at hq
   dsimp only at hq;subst hq;have eB:=qh (HB.o hp);clear hp;go_wp2_with fail;refine bs (r:=true) (HK.o _ (c9.o.alloc c9.o.size _)) (cR _ (by simp) #[.int .i64 7] [7] rfl (by decide)) (by decide) rfl ?_;go_wp2_with fail;refine HN.o _ (c9.o.alloc c9.o.size _) _ _ (λh=>by cases h) (λ_ w' ff=>?_);exact⟨rfl,eB.o _ ((c9.o.alloc c9.o.size _).trans (ff.mono (c9.o.alloc c9.o.size _).size))⟩
  |some u=>
   rw[hp]at hq
   dsimp only at hq;obtain⟨bq,rfl⟩:=aS hq;have Uk:=qh (λw'(h:Sat w w' [bG w])=>HA.o u _ w' hp (h.iA λa h hl _=>bN hl _ _ hq));clear hp hq;go_wp2_with fail;refine bs (r:=true) (HK.o _ (c9.o.alloc c9.o.size _)) (cR _ (by simp) #[.int .i64 7] [7] rfl (by decide)) (by decide) rfl ?_;go_wp2_with fail;refine HN.o _ (c9.o.alloc c9.o.size _) _ _ (λ_=>?_) (λh=>by cases h);go_wp2_with fail;exact Uk.o _ (((Sat.fO w).below c9.o).aW _)
 ·have HB:=qh (au (by unfold o6;rw[if_neg h5,if_neg h8,if_neg h7]));have k7:decide (Ty.kindOf t∈[7])=false:=by simpa using h7
  by_cases RX:Ty.kindOf t=8
  ·have hx:x≠PE:=λe=>h8 ⟨RX,e⟩
   have k8:decide (Ty.kindOf t∈[8])=true:=by rw[RX];rfl
   have kx: (x.toList==[108,101,110,103,116,104])=false:=u4 hx rfl;clear aH au hP hb hn hW hr Eu h5 h8 RX h7 hx;go_in;go_wp2_with fail;refine bs (r:=false) (HK.o _ ((bR _ _).alloc (nR _) _)) (cR w (by simp) #[.int .i64 5] [5] rfl (by decide)) (by decide) k5 ?_;go_wp2_with fail;refine bs (r:=true) (HK.o _ (((bR _ _).alloc (nR _) _).alloc (by simp) _)) (cR _ (by simp) #[.int .i64 8] [8] rfl (by decide)) (by decide) k8 ?_;go_wp2_with fail;refine uY.o _ (((bR _ _).alloc (nR _) _).alloc (by simp) _) _ (λq w2 aD hq=>?_);have EA:=(((bR w.heap.size w).alloc (nR _) (.cells #[.int .i64 5] 3)).alloc (by simp) (.cells #[.int .i64 8] 3)).trans (aD.mono (by simp;omega));have c9:=qh EA;clear aD EA hq;go_wp2_with fail;refine bs (r:=false) (HK.o _ (c9.o.alloc c9.o.size _)) (cR _ (by simp) #[.int .i64 7] [7] rfl (by decide)) (by decide) k7 ?_;go_wp2_with fail;refine HN.o _ (c9.o.alloc c9.o.size _) _ _ (λh=>by cases h) (λ_ w' ff=>?_);exact⟨rfl,HB.o _ ((c9.o.alloc c9.o.size _).trans (ff.mono (c9.o.alloc c9.o.size _).size))⟩
  ·have k8:decide (Ty.kindOf t∈[8])=false:=by simpa using RX
   clear aH au hP hb hn hW hr Eu h5 h8 RX h7;go_in;go_wp2_with fail;refine bs (r:=false) (HK.o _ ((bR _ _).alloc (nR _) _)) (cR w (by simp) #[.int .i64 5] [5] rfl (by decide)) (by decide) k5 ?_;go_wp2_with fail;refine bs (r:=false) (HK.o _ (((bR _ _).alloc (nR _) _).alloc (by simp) _)) (cR _ (by simp) #[.int .i64 8] [8] rfl (by decide)) (by decide) k8 ?_;go_wp2_with fail;refine uY.o _ (((bR _ _).alloc (nR _) _).alloc (by simp) _) _ (λq w2 aD hq=>?_);have EA:=(((bR w.heap.size w).alloc (nR _) (.cells #[.int .i64 5] 3)).alloc (by simp) (.cells #[.int .i64 8] 3)).trans (aD.mono (by simp;omega));have c9:=qh EA;clear aD EA hq;go_wp2_with fail;refine bs (r:=false) (HK.o _ (c9.o.alloc c9.o.size _)) (cR _ (by simp) #[.int .i64 7] [7] rfl (by decide)) (by decide) k7 ?_;go_wp2_with fail;refine HN.o _ (c9.o.alloc c9.o.size _) _ _ (λh=>by cases h) (λ_ w' ff=>?_);exact⟨rfl,HB.o _ ((c9.o.alloc c9.o.size _).trans (ff.mono (c9.o.alloc c9.o.size _).size))⟩
theorem r8(hP:PB wB X.nv X.tv pg)(hb:Below wB.heap.size wB w){id:Nat}{nd:Nd}(hn:pg.ns[id]?=some nd)(hW:CkW w cb X ofb hasb s h0){t a:Tr}{p q:Value}(hr:rep h0 t p)(Eu:dX t)(hq:rep h0 a q)(UU:dX a){R:EW}
  (aH:∀u v w',iT t a=some u->Sat w w' [bG w,db h0 u v]->R (.returned v) w') (au:iT t a=none->∀w',Below w.heap.size w w'->R (.panicked (aI (9,nd.pos))) w'):
  Calls prog 244 #[.pointer (some ⟨cb,0,none⟩),p,q,.int .i64 (id:Nat)] w R:=by
 obtain⟨b,rfl⟩:=aS hr;have HK:=qh (λw1(h:Below w.heap.size w w1)=>(hW.kind hr).below h);have HN:=qh (λw1(h:Below w.heap.size w w1)(ok:Bool)(R:EW)=>eC (R:=R) (b:=ok) (e:=9) hP (hb.trans (h.mono hb.size)) hn (ak h hW.c0) (nL hW.lt h.size));have oI:Below w.heap.size w (w.alloc (.cells #[.int .i64 1,.slice none 0 0,.slice none 0 0,.pointer none] 219)):=(bR _ _).alloc (nR _) _;have HF:Hq (oQ q (.pointer (some ⟨w.heap.size,0,none⟩)) (w.alloc (.cells #[.int .i64 1,.slice none 0 0,.slice none 0 0,.pointer none] 219)) (Ty.fits a (jL 1))):=
  yT _ _ a (jL 1) _ _ (Nat.lt_succ_self _) UU (gG (by omega)).ok (bN (nC hW.le oI) _ _ hq) (NI (k:=1) (heap_alloc_new w _))
 have kH:=qh oI;have eB:Hq (¬(Ty.fits a (jL 1)=true/\(Ty.kindOf t=5\/Ty.kindOf t=8))->∀w',Below w.heap.size w w'->R (.panicked (aI (9,nd.pos))) w'):=λh=>au (by unfold iT;rw[if_neg h])
 have Sf:Hq (Ty.fits a (jL 1)=true->Ty.kindOf t=5->∀v w',Sat w w' [bG w,db h0 t v]->R (.returned v) w'):=λh1 h2 v w' h=>aH _ v w' (by unfold iT;rw[if_pos ⟨h1,.inl h2⟩,if_pos h2]) h
 have Sv:Hq (Ty.fits a (jL 1)=true->Ty.kindOf t=8->∀v w',Sat w w' [bG w,db h0 (eP t) v]->R (.returned v) w'):=λh1 h2 v w' h=>aH _ v w' (by unfold iT;rw[if_pos ⟨h1,.inr h2⟩,if_neg (by omega)]) h
 have VQ:=Eu;obtain⟨k,names,parts,list,of⟩:=t;obtain⟨b2,pv,lv,ov,ps,ls,os,e,gQ,c0,c1,c2,c3,_,_,_,_,_,JZ,hv⟩:=mB hW.le hr;cases e;rw[dX]at Eu
 have V5:=qh hr;have acK:Hq (k=8->rep h0 (eP (.mk k names parts list of)) ov):=λh=>nJ (Eu.2.2.1 (.inl h)) JZ hv
 dsimp only[Ty.kindOf]at HK eB Sf Sv;clear aH au hP hb hn hW hr Eu VQ hq UU oI JZ hv c0 c1 c2;generalize Ty.fits a (jL 1)=f at*
 cases f with
 |false=>
  have oM:=qh (eB.o (by simp));go_in;go_wp2_with fail;refine bU _ 1 ?_;go_wp2_with fail;refine HF.o _ (bR _ _) _ (λw2 aD=>?_);have c9:=qh (kH.o.trans (aD.mono kH.o.size));clear aD;go_wp2_with fail;refine HN.o _ c9.o _ _ (λh=>by cases h) (λ_ w' ff=>?_);exact⟨rfl,oM.o _ (c9.o.trans (ff.mono c9.o.size))⟩
 |true=>
  by_cases Ro:k=5\/k=8
  ·have XG:decide (k∈[5,8])=true:=by simpa using Ro
   have X9:=qh Ro;clear Ro;go_in;go_wp2_with fail;refine bU _ 1 ?_;go_wp2_with fail;refine HF.o _ (bR _ _) _ (λw2 aD=>?_);have c9:=qh (kH.o.trans (aD.mono kH.o.size));clear aD;go_wp2_with fail;refine bs (r:=true) (HK.o _ (c9.o.alloc c9.o.size _)) (cR _ (by simp) #[.int .i64 5,.int .i64 8] [5,8] rfl (by decide)) (by decide) XG ?_;go_wp2_with fail;have cU:=qh (c9.o.alloc c9.o.size (.cells #[.int .i64 5,.int .i64 8] 3));refine HN.o _ cU.o _ _ (λ_=>?_) (λh=>by cases h);by_cases h5:k=5
   ·subst h5;have WB:=qh (λw'(h:Sat w w' [bG w])=>Sf.o trivial rfl _ w' (h.iA λa h hl _=>bN hl _ _ V5.o));go_wp2_with fail;refine bs (r:=true) (HK.o _ (cU.o.alloc cU.o.size _)) (cR _ (by simp) #[.int .i64 5] [5] rfl (by decide)) (by decide) rfl ?_;go_wp2_with fail;exact WB.o _ (((Sat.fO w).below cU.o).aW _)
   ·have k5:decide (k∈[5])=false:=by simpa using h5
    have WB:=qh (λw'(h:Sat w w' [bG w])=>Sv.o trivial (X9.o.resolve_left h5) ov w' (h.iA λa h hl _=>bN hl _ _ (acK.o (X9.o.resolve_left h5))));clear h5;have Zc:=ak (cU.o.alloc cU.o.size (.cells #[.int .i64 5] 3)) c3;go_wp2_with fail;refine bs (r:=false) (HK.o _ (cU.o.alloc cU.o.size _)) (cR _ (by simp) #[.int .i64 5] [5] rfl (by decide)) (by decide) k5 ?_;go_wp2_with fail;exact WB.o _ (((Sat.fO w).below cU.o).aW _)
  ·have XG:decide (k∈[5,8])=false:=by simpa using Ro
   have oM:=qh (eB.o (λh=>Ro h.2));clear Ro;go_in;go_wp2_with fail;refine bU _ 1 ?_;go_wp2_with fail;refine HF.o _ (bR _ _) _ (λw2 aD=>?_);have c9:=qh (kH.o.trans (aD.mono kH.o.size));clear aD;go_wp2_with fail;refine bs (r:=false) (HK.o _ (c9.o.alloc c9.o.size _)) (cR _ (by simp) #[.int .i64 5,.int .i64 8] [5,8] rfl (by decide)) (by decide) XG ?_;go_wp2_with fail;have cU:=qh (c9.o.alloc c9.o.size (.cells #[.int .i64 5,.int .i64 8] 3));refine HN.o _ cU.o _ _ (λh=>by cases h) (λ_ w' ff=>?_);exact⟨rfl,oM.o _ (cU.o.trans (ff.mono cU.o.size))⟩
end
section
variable {wB w:World} {cb ofb hasb:Nat} {X:Cx} {s:Ck} {h0:Prt.Hp} {pg:Ty.Pg}
theorem Fz(hP:PB wB X.nv X.tv pg)(hb:Below wB.heap.size wB w){id:Nat}{nd:Nd}(hn:pg.ns[id]?=some nd)(hW:CkW w cb X ofb hasb s h0){t:Tr}(ht:s.of nd.a=some t)(ha:nd.a<=100000){R:EW}
  (aH:∀u q w',v8 nd.text t=some u->Sat w w' [bG w,db h0 u q]->R (.returned q) w') (au:v8 nd.text t=none->∀w',Below w.heap.size w w'->R (.panicked (aI (9,nd.pos))) w'):
  Calls prog 247 #[.pointer (some ⟨cb,0,none⟩),.int .i64 (id:Nat)] w R:=by
 have HN:=qh (λw1(h:Below w.heap.size w w1)(ok:Bool)(R:EW)=>eC (R:=R) (b:=ok) (e:=9) hP (hb.trans (h.mono hb.size)) hn (ak h hW.c0) (nL hW.lt h.size));have aX:=qh aH;have eB:=qh au;have dO:=qh (λR=>aQ (R:=R) hP hb hn hW.c0 hW.lt);have HW:=qh hW;have gh:=hW.lt;clear aH au hP hb hn hW;go_in;go_wp2_with fail;refine dO.o _ (λlv w2 aD hl=>?_);obtain⟨la,lc,rfl⟩:=ag hl;unfold aG;have dL:Below w.heap.size w (w2.alloc (az nd (.slice la nd.list.length lc))):=aD.alloc aD.size _;have h3:=((Sat.fO w).below aD).aj (az nd (.slice la nd.list.length lc)) w2.heap.size;have x1:=h3.cell 1 rfl 1 rfl;have x5:=h3.cell 1 rfl 5 rfl;have yg:=HW.o.below dL;obtain⟨p,pM,hr⟩:=HW.o.fW ha ht;obtain⟨b,rfl⟩:=aS hr;have HK:=qh (λw1(h:Below w.heap.size w w1)=>(HW.o.kind hr).below h);have cU:=qh dL;have zO:=yg.lt;have BX: (w2.alloc (az nd (.slice la nd.list.length lc))).cell? ⟨cb,5,none⟩=some (.map (some ofb)):=yg.c5;have zW:=qh pM;clear h3 aD hl dL yg pM;by_cases h1:nd.text=R4
 ·have kx:=w_ (l:=[33]) h1 rfl;have HA:=qh (λq w'=>aX.o (jL 2) q w' (by unfold v8;rw[if_pos h1]));clear h1;go_wp2_with fail;refine bU _ 2 ?_;go_wp2_with fail;exact HA.o _ _ (iB cU.o 2 (by simp))
 have XZ:=u4 (l:=[33]) h1 rfl;by_cases h2:nd.text=N9
 ·have kx:=w_ (l:=[116,121,112,101,111,102]) h2 rfl;have HA:=qh (λq w'=>aX.o (jL 3) q w' (by unfold v8;rw[if_neg h1,if_pos h2]));clear h1 h2;go_wp2_with fail;refine bU _ 3 ?_;go_wp2_with fail;exact HA.o _ _ (iB cU.o 3 (by simp))
 have abM:=u4 (l:=[116,121,112,101,111,102]) h2 rfl;have hS: (w2.alloc (az nd (.slice la nd.list.length lc))).drew.cell? ⟨cb,5,none⟩=some (.map (some ofb))/\(w2.alloc (az nd (.slice la nd.list.length lc))).drew.cell? ⟨w2.heap.size,1,none⟩=some (.int .i64 (nd.a:Nat))/\(Instr.lookup 103 (.map (some ofb)) (.int .i64 (nd.a:Nat)) false).run prog (w2.alloc (az nd (.slice la nd.list.length lc))).drew=.ok (.pointer (some ⟨b,0,none⟩)) (w2.alloc (az nd (.slice la nd.list.length lc))).drew:=⟨BX,x1,zW.o _ cU.o.drew⟩
 have sB: ((w2.alloc (az nd (.slice la nd.list.length lc))).alloc (.cells #[.int .i64 1,.int .i64 5] 3)).drew.cell? ⟨cb,5,none⟩=some (.map (some ofb))/\((w2.alloc (az nd (.slice la nd.list.length lc))).alloc (.cells #[.int .i64 1,.int .i64 5] 3)).drew.cell? ⟨w2.heap.size,1,none⟩=some (.int .i64 (nd.a:Nat))/\(Instr.lookup 103 (.map (some ofb)) (.int .i64 (nd.a:Nat)) false).run prog ((w2.alloc (az nd (.slice la nd.list.length lc))).alloc (.cells #[.int .i64 1,.int .i64 5] 3)).drew=.ok (.pointer (some ⟨b,0,none⟩)) ((w2.alloc (az nd (.slice la nd.list.length lc))).alloc (.cells #[.int .i64 1,.int .i64 5] 3)).drew:=
  ⟨ak ((bR _ _).alloc (nR _) _).drew BX,ak ((bR _ _).alloc (nR _) _).drew x1,zW.o _ (cU.o.alloc cU.o.size _).drew⟩
 by_cases h3:iG t=true
 ·have HA:=qh (λq w'=>aX.o (jL 1) q w' (by unfold v8;rw[if_neg h1,if_neg h2,if_pos h3]));have Ml:decide (Ty.kindOf t∈[1,5])=true:=by unfold iG at h3;simpa using h3
  clear h1 h2 h3;go_wp2_with fail;go_region_held3(λw'=>w'.cell? ⟨cb,5,none⟩=some (.map (some ofb))/\w'.cell? ⟨w2.heap.size,1,none⟩=some (.int .i64 (nd.a:Nat))/\(Instr.lookup 103 (.map (some ofb)) (.int .i64 (nd.a:Nat)) false).run prog w'=.ok (.pointer (some ⟨b,0,none⟩)) w') (first|exact hS|exact sB)
   (first
    |(go_at_call 296;refine bs (r:=true) (HK.o _ (cU.o.alloc cU.o.size _).drew) (ql _ (by simp) #[.int .i64 1,.int .i64 5] [1,5] rfl (by decide)) (by decide) Ml ?_)
    |(go_at_call 160;refine HN.o _ (cU.o.alloc cU.o.size _).drew _ _ (λ_=>?_) (λh=>by cases h)))
  all_goals
   go_wp2_with fail;refine bU _ 1 ?_;go_wp2_with fail;exact HA.o _ _ (iB (cU.o.alloc cU.o.size _).drew 1 (by simp))
 ·have HB:=qh (eB.o (by unfold v8;rw[if_neg h1,if_neg h2,if_neg h3]));have Ml:decide (Ty.kindOf t∈[1,5])=false:=by unfold iG at h3;simpa using h3
  clear h1 h2 h3;go_wp2_with fail
  go_region_held (λw'=>w'.cell? ⟨cb,5,none⟩=some (.map (some ofb))/\w'.cell? ⟨w2.heap.size,1,none⟩=some (.int .i64 (nd.a:Nat))/\(Instr.lookup 103 (.map (some ofb)) (.int .i64 (nd.a:Nat)) false).run prog w'=.ok (.pointer (some ⟨b,0,none⟩)) w') (first|exact hS|exact sB)
   (first
    |(go_at_call 296;refine bs (r:=false) (HK.o _ (cU.o.alloc cU.o.size _).drew) (ql _ (by simp) #[.int .i64 1,.int .i64 5] [1,5] rfl (by decide)) (by decide) Ml ?_)
    |(go_at_call 160;refine HN.o _ (cU.o.alloc cU.o.size _).drew _ _ (λe_=>?_) (λ_ w' ff=>⟨rfl,HB.o w' ((cU.o.alloc cU.o.size _).drew.trans (ff.mono (cU.o.alloc cU.o.size _).drew.size))⟩)))
  all_goals exact absurd e_ (by decide)
end
end
section
open Ty (Tr Ck br bI bg)
section
variable {wB w:World} {cb ofb hasb:Nat} {X:Cx} {s:Ck} {h0:Prt.Hp} {pg:Ty.Pg}
theorem Cp{f:Tr}{l:List Tr}(h:Ty.kindOf f=5):kh f l=some f:=by unfold kh;rw[if_pos h]
theorem Br{f:Tr}{l:List Tr}(h:Ty.kindOf f≠5)(g:¬(Ty.kindOf f=9/\(aL f).length=l.length)):kh f l=none:=by unfold kh;rw[if_neg h,if_neg g]
theorem F8{f:Tr}{l:List Tr}(h:Ty.kindOf f=9)(g: (aL f).length=l.length){j:Nat}(hj:j<l.length)(hf:Ty.fits (l.getD j bM) ((aL f).getD j bM)=false):kh f l=none:=by
 unfold kh;rw[if_neg (by omega),if_pos ⟨h,g⟩,if_pos (bI.2 ⟨j,hj,by rw[hf];rfl⟩)]
theorem IA{f:Tr}{l:List Tr}(h:Ty.kindOf f=9)(g: (aL f).length=l.length)(hf:∀j,j<l.length->Ty.fits (l.getD j bM) ((aL f).getD j bM)=true):kh f l=some (eP f):=by
 unfold kh;rw[if_neg (by omega),if_pos ⟨h,g⟩,if_neg (by rw[bg.2 λj hj=>by rw[hf j hj];rfl];simp)]
theorem Dn{w:World}{h0:Prt.Hp}(hle:Prt.le h0 (Prt.hp w)){t:Tr}{b:Nat}(hr:rep h0 t (.pointer (some ⟨b,0,none⟩)))(aH:dX t):b<w.heap.size/\∃(lv ov:Value)(ls:List Value),w.cell? ⟨b,2,none⟩=some lv/\w.ownsRow 0 107 1 lv ls.length ls/\bz h0 (aL t) ls/\w.cell? ⟨b,3,none⟩=some ov/\(Ty.kindOf t=8\/Ty.kindOf t=9->rep h0 (eP t) ov)/\ls.length<=1000000:=by
 obtain⟨k,names,parts,list,of⟩:=t;obtain⟨b2,pv,lv,ov,ps,ls,os,e,gQ,c0,c1,c2,c3,_,_,_,bm,yK,JZ,hv⟩:=mB hle hr;cases e;rw[dX]at aH
 have hl:=cd yK;exact⟨gQ,lv,ov,ls,c2,bm,yK,c3,λh=>nJ (aH.2.2.1 h) JZ hv,by have:=aH.2.2.2.2.2.2.1.2;omega⟩
theorem CX(hP:PB wB X.nv X.tv pg)(hb:Below wB.heap.size wB w){id:Nat}{nd:Nd}(hn:pg.ns[id]?=some nd)(hW:CkW w cb X ofb hasb s h0)(hk:fB s.of (nd.a::nd.list)=true)(ha:nd.a<=100000)(mI:∀n∈nd.list,n<=100000)(BZ:nd.list.length<=1200){R:EW}
  (aH:∀u q w',kh (tO s.of nd.a) (nd.list.map (tO s.of))=some u->Sat w w' [bG w,db h0 u q]->R (.returned q) w') (au:kh (tO s.of nd.a) (nd.list.map (tO s.of))=none->∀w',Below w.heap.size w w'->R (.panicked (aI (9,nd.pos))) w'):
  Calls prog 242 #[.pointer (some ⟨cb,0,none⟩),.int .i64 (id:Nat)] w R:=by
 have HN:=qh (λw1(h:Below w.heap.size w w1)(ok:Bool)(R:EW)=>eC (R:=R) (b:=ok) (e:=9) hP (hb.trans (h.mono hb.size)) hn (ak h hW.c0) (nL hW.lt h.size));have aX:=qh aH;have eB:=qh au;have dO:=qh (λR=>aQ (R:=R) hP hb hn hW.c0 hW.lt);have HW:=qh hW;have gh:=hW.lt;have qO:s.of nd.a=some (tO s.of nd.a):=cn hk (by simp);have Pu:Hq (∀j(h:j<nd.list.length),s.of nd.list[j]=some (tO s.of nd.list[j])/\nd.list[j]<=100000):=λj h=>⟨cn hk (List.mem_cons_of_mem _ (gM h)),mI _ (gM h)⟩
 have du:=qh (λlv(hl:wB.ownsRow 0 3 1 lv nd.list.length (nd.list.map aO)) w1(h:Below w.heap.size w w1)=>ay hl (hb.trans (h.mono hb.size)));clear aH au hP hb hn hW hk mI;go_in;go_wp2_with fail;refine dO.o _ (λlv w2 aD hl=>?_);have HL:=qh (du.o lv hl);obtain⟨la,lc,rfl⟩:=ag hl;unfold aG;have dL:Below w.heap.size w (w2.alloc (az nd (.slice la nd.list.length lc))):=aD.alloc aD.size _;have h3:=((Sat.fO w).below aD).aj (az nd (.slice la nd.list.length lc)) w2.heap.size;have x1:=h3.cell 1 rfl 1 rfl;have x4:=h3.cell 1 rfl 4 rfl;have hx:=h3.lt 1 rfl;have yg:=HW.o.below dL;obtain⟨p,pM,hr⟩:=HW.o.fW ha qO;have Kw:=HW.o.fG.of _ _ qO;obtain⟨b,rfl⟩:=aS hr;have HK:=qh (λw1(h:Below w.heap.size w w1)=>(HW.o.kind hr).below h);have gy:=qh dL.drew;have zO:=yg.lt;have BX: (w2.alloc (az nd (.slice la nd.list.length lc))).cell? ⟨cb,5,none⟩=some (.map (some ofb)):=yg.c5;have hS: (w2.alloc (az nd (.slice la nd.list.length lc))).drew.cell? ⟨cb,5,none⟩=some (.map (some ofb))/\(w2.alloc (az nd (.slice la nd.list.length lc))).drew.cell? ⟨w2.heap.size,1,none⟩=some (.int .i64 (nd.a:Nat))/\(Instr.lookup 103 (.map (some ofb)) (.int .i64 (nd.a:Nat)) false).run prog (w2.alloc (az nd (.slice la nd.list.length lc))).drew=.ok (.pointer (some ⟨b,0,none⟩)) (w2.alloc (az nd (.slice la nd.list.length lc))).drew:=
  ⟨BX,x1,pM _ gy.o⟩
 have V5:=qh hr;have Z5:=qh Kw.1;obtain⟨QR,qv,ov,ls,YT,Wc,Yn,Yi,MP,Od⟩:=Dn HW.o.le hr Kw.1.ok;have WR:=qh (λw1(h:Below w.heap.size w w1)=>ak h YT);have aai:=qh (λw1(h:Below w.heap.size w w1)=>ak h Yi);have aaw:=qh (λw1(h:Below w.heap.size w w1)=>ay Wc h);have S_:=qh Yn;have Kd:=qh MP;have YI:=qh (λw1(h:Below w.heap.size w w1)=>nL QR h.size);obtain⟨qa,qc,rfl⟩:=ag Wc;clear YT Wc Yn Yi MP QR;generalize Ik:tO s.of nd.a=tf at*
 clear h3 aD hl dL yg pM hr Kw qO Ik;go_wp2_with fail;go_region_held3(λw'=>w'.cell? ⟨cb,5,none⟩=some (.map (some ofb))/\w'.cell? ⟨w2.heap.size,1,none⟩=some (.int .i64 (nd.a:Nat))/\(Instr.lookup 103 (.map (some ofb)) (.int .i64 (nd.a:Nat)) false).run prog w'=.ok (.pointer (some ⟨b,0,none⟩)) w') (exact hS) (fail)
 all_goals
  have VR: (w2.alloc (az nd (.slice la nd.list.length lc))).drew.cell? ⟨w2.heap.size,4,none⟩=some (.slice la nd.list.length lc):=x4;have Sr:w2.heap.size<(w2.alloc (az nd (.slice la nd.list.length lc))).drew.heap.size:=hx;have abi: (w2.alloc (az nd (.slice la nd.list.length lc))).drew.cell? ⟨cb,5,none⟩=some (.map (some ofb)):=BX;clear hS BX x1 x4 hx zO;generalize(w2.alloc (az nd (.slice la nd.list.length lc))).drew=W at*
  by_cases h5:Ty.kindOf tf=5
  ·have HA:=qh (λw'(h:Sat w w' [bG w])=>aX.o tf _ w' (Cp h5) (h.iA λa h hl _=>bN hl _ _ V5.o));have k5:decide (Ty.kindOf tf∈[5])=true:=by rw[h5];rfl
   clear h5;go_wp2_with fail;refine bs (r:=true) (HK.o _ (gy.o.alloc gy.o.size _)) (cR _ (by simp) #[.int .i64 5] [5] rfl (by decide)) (by decide) k5 ?_;go_wp2_with fail;exact HA.o _ (((Sat.fO w).below gy.o).aW _)
  have k5:decide (Ty.kindOf tf∈[5])=false:=by simpa using h5
  have kt:=qh (gy.o.alloc gy.o.size (.cells #[.int .i64 5] 3)).drew;have xY:=qh (kt.o.alloc kt.o.size (.cells #[.int .i64 9] 3));go_wp2_with fail;refine bs (r:=false) (HK.o _ (gy.o.alloc gy.o.size _)) (cR _ (by simp) #[.int .i64 5] [5] rfl (by decide)) (by decide) k5 ?_;go_wp2_with fail;by_cases h9:¬Ty.kindOf tf=9
  ·have oM:=qh (eB.o (Br h5 (λh=>h9 h.1)));have k9:decide (Ty.kindOf tf∈[9])=false:=by simpa using h9
   clear h5 h9;refine wp_region_held_drew (S:=λ_=>True) (by kernel_rfl) trivial (λhS=>?_);refine mP 0 ?_;refine mP 1 ?_;refine mP 15 ?_;refine wpAnyH_ready (rs:=[2]) (by kernel_rfl) (by simp) ?_;refine AllReadyH.cons rfl (λK hK=>?_) AllReadyH.nil;go_simp;refine hK.out _ _ trivial (λhHeld=>?_);clear hK K hHeld
   (try simp only[Act.put,lyA,lyB,lyC,lyD,lyE,lyF])
   refine wpAnyH_ready (rs:=[3]) (by kernel_rfl) (by simp) ?_;refine AllReadyH.cons rfl (λK hK=>?_) AllReadyH.nil;go_simp;refine bs (r:=false) (HK.o _ xY.o) (ql _ (by simp) #[.int .i64 9] [9] rfl (by decide)) (by decide) k9 ?_;go_simp;refine hK.out _ _ trivial (λhHeld=>?_);clear hK K hHeld
   (try simp only[Act.put,lyA,lyB,lyC,lyD,lyE,lyF])
   refine mP 4 ?_;refine H_ 5 ?_;refine H_ 6 ?_;refine H_ 7 ?_;refine H_ 8 ?_;refine H_ 9 ?_;refine H_ 10 ?_;refine H_ 11 ?_;refine H_ 12 ?_;refine H_ 13 ?_;refine mP 14 (v:=.bool false) ?_ (hy:=by intro w' dH;go_simp);refine wpAnyH_ready (rs:=[16]) (by kernel_rfl) (by simp) ?_;refine AllReadyH.cons rfl (λK hK=>?_) AllReadyH.nil;go_simp;have Hg:=qh ((gy.o.alloc gy.o.size (.cells #[.int .i64 5] 3)).alloc (gy.o.alloc gy.o.size (.cells #[.int .i64 5] 3)).size (.cells #[.int .i64 9] 3)).drew;refine HN.o _ Hg.o _ _ (λe_=>absurd e_ (by decide)) (λ_ w' ff=>⟨rfl,oM.o w' (Hg.o.trans (ff.mono Hg.o.size))⟩)
  have h9:=Decidable.not_not.1 h9;have k9:decide (Ty.kindOf tf∈[9])=true:=by rw[h9];rfl
  have adX:=cd S_.o;have Aw:=And.intro (WR.o _ kt.o) (ak ((bR W.heap.size W).alloc (nR _) (.cells #[.int .i64 5] 3)).drew VR);have pz:=And.intro (WR.o _ xY.o) (ak (((bR W.heap.size W).alloc (nR _) (.cells #[.int .i64 5] 3)).drew.alloc (by show W.heap.size<=_;simp[World.drew]) (.cells #[.int .i64 9] 3)) VR);by_cases oW:¬ls.length=nd.list.length
  ·have oM:=qh (eB.o (Br h5 (λh=>oW (by have:=h.2;rw[List.length_map]at this;omega))));have adG: ((ls.length:Int)==(nd.list.length:Int))=false:=int_ne oW;clear h5 h9
   go_region_held (λw'=>w'.cell? ⟨b,2,none⟩=some (.slice qa ls.length qc)/\w'.cell? ⟨w2.heap.size,4,none⟩=some (.slice la nd.list.length lc)) (first|exact Aw|exact pz)
    (first
     |(go_at_call 296;refine bs (r:=true) (HK.o _ xY.o) (ql _ (by simp) #[.int .i64 9] [9] rfl (by decide)) (by decide) k9 ?_)
     |(go_at_call 160;refine HN.o _ xY.o _ _ (λe_=>?_) (λ_ w' ff=>⟨rfl,oM.o w' (xY.o.trans (ff.mono xY.o.size))⟩)))
   all_goals exact absurd e_ (by decide)
  have oW:=Decidable.not_not.1 oW;have PV:=qh oW;have H9:=qh h9;have H5:=qh h5;rw[oW]at Aw pz
  go_region_held3(λw'=>w'.cell? ⟨b,2,none⟩=some (.slice qa nd.list.length qc)/\w'.cell? ⟨w2.heap.size,4,none⟩=some (.slice la nd.list.length lc)) (first|exact Aw|exact pz)
   (first
    |(go_at_call 296;refine bs (r:=true) (HK.o _ xY.o) (ql _ (by simp) #[.int .i64 9] [9] rfl (by decide)) (by decide) k9 ?_)
    |(go_at_call 160;refine HN.o _ xY.o _ _ (λ_=>?_) (λh=>by cases h)))
  all_goals
   have abo:=pz.2;have acC:=nL Sr (((bR W.heap.size W).alloc (nR _) (.cells #[.int .i64 5] 3)).drew.alloc (by show W.heap.size<=_;simp[World.drew]) (.cells #[.int .i64 9] 3)).size;clear Aw pz h5 h9 VR Sr abi k5 k9;go_wp2_with fail;go_loopw [43] (λi wr=>∃j:Nat,i=.int .i64 j/\j<=nd.list.length/\Hq (Below w.heap.size w wr)/\Hq (∀m,m<j->Ty.fits ((nd.list.map (tO s.of)).getD m bM) ((aL tf).getD m bM)=true)) (λi _=>nd.list.length-(intOf i).toNat)
   case atStart=>exact⟨0,rfl,Nat.zero_le _,xY.o,λm hm=>by omega⟩
   case round=>
    obtain⟨j,rfl,hj,hB,hF⟩:=hrel;by_cases a_:j<nd.list.length
    ·obtain⟨gl,jB,e,ku,d0⟩:=ints_at (HL.o wr hB.out) j a_;cases e;have eF:j<ls.length:=by rw[PV.o];exact a_
     obtain⟨gq,aci,e,adQ,d1⟩:=fF (aaw.o wr hB.out) j eF;cases e;obtain⟨wF,k_⟩:=Pu.o j a_;obtain⟨pj,bu,CJ⟩:=HW.o.fW k_ wF;have QA:=HW.o.fG.of _ _ wF;have tH:j<(aL tf).length:=by have:=cd S_.o;omega
     have UD:=dh S_.o j tH eF;obtain⟨bj,rfl⟩:=aS CJ;obtain⟨bq,aan⟩:=aS UD;rw[aan]at UD d1
     have TE:dX (aL tf)[j]:=by have:=cr Z5.o.ok tH;rwa [getD_eq tH]at this
     have R7: (nd.list.map (tO s.of)).getD j bM=tO s.of nd.list[j]:=by rw[getD_eq (by rw[List.length_map];exact a_),List.getElem_map]
     have Dj: (aL tf).getD j bM=(aL tf)[j]:=getD_eq tH _;have sQ:=qh (yT w _ (tO s.of nd.list[j]) (aL tf)[j] _ _ (Nat.lt_succ_self _) QA.1.ok TE (bN HW.o.le _ _ CJ) (bN HW.o.le _ _ UD));have pI:=qh (λ(h:Ty.fits (tO s.of nd.list[j]) (aL tf)[j]=true)(m:Nat)(hm:m<j+1)=>(show Ty.fits ((nd.list.map (tO s.of)).getD m bM) ((aL tf).getD m bM)=true by
      by_cases he:m=j
      ·rw[he,R7,Dj];exact h
      ·exact hF.out m (by omega)))
     have wA:=qh (λ(h:Ty.fits (tO s.of nd.list[j]) (aL tf)[j]=false)=>eB.o (F8 H9.o (by rw[List.length_map];have:=cd S_.o;have:=PV.o;omega) (j:=j) (by rw[List.length_map];exact a_) (by rw[R7,Dj];exact h)));have NJ:=qh hB.out.drew;have Yt:=ak hB.out HW.o.c5;have Xx:=WR.o wr hB.out;rw[PV.o]at Xx
     have Sx:wr.drew.cell? ⟨cb,5,none⟩=some (.map (some ofb))/\wr.drew.cell? ⟨b,2,none⟩=some (.slice (some ⟨gq,0,none⟩) nd.list.length qc)/\wr.drew.cell? ⟨gq,j,none⟩=some (.pointer (some ⟨bq,0,none⟩))/\(Instr.lookup 103 (.map (some ofb)) (.int .i64 (nd.list[j]:Nat)) false).run prog wr.drew=.ok (.pointer (some ⟨bj,0,none⟩)) wr.drew:=⟨Yt,Xx,d1,bu _ NJ.o⟩
     have mU:=qh (λw5(h:Below wr.drew.heap.size wr.drew w5)=>(show w5.cell? ⟨cb,5,none⟩=some (.map (some ofb))/\w5.cell? ⟨b,2,none⟩=some (.slice (some ⟨gq,0,none⟩) nd.list.length qc)/\w5.cell? ⟨gq,j,none⟩=some (.pointer (some ⟨bq,0,none⟩))/\(Instr.lookup 103 (.map (some ofb)) (.int .i64 (nd.list[j]:Nat)) false).run prog w5=.ok (.pointer (some ⟨bj,0,none⟩)) w5 from⟨ak h Sx.1,ak h Sx.2.1,ak h Sx.2.2.1,bu _ (NJ.o.trans (h.mono NJ.o.size))⟩));have Ut:=YI.o wr hB.out;generalize Ty.fits (tO s.of nd.list[j]) (aL tf)[j]=f at*
     generalize nd.list[j]=nj at*
     have Zo:=nL gh hB.out.size;clear wF CJ QA UD TE R7 Dj bu Yt Xx abo acC;cases f
     ·have oM:=qh (wA.o rfl);go_wp2_with fail
      go_region_held (λw'=>w'.cell? ⟨cb,5,none⟩=some (.map (some ofb))/\w'.cell? ⟨b,2,none⟩=some (.slice (some ⟨gq,0,none⟩) nd.list.length qc)/\w'.cell? ⟨gq,j,none⟩=some (.pointer (some ⟨bq,0,none⟩))/\(Instr.lookup 103 (.map (some ofb)) (.int .i64 (nj:Nat)) false).run prog w'=.ok (.pointer (some ⟨bj,0,none⟩)) w') (first|exact Sx|exact ik)
       (first
        |(go_at_call 249;refine sQ.o _ NJ.o _ (λw5 dM=>?_);have ik:=mU.o w5 dM;have kt:=qh (NJ.o.trans (dM.mono NJ.o.size));clear dM)
        |(go_at_call 160;refine HN.o _ kt.o _ _ (λe_=>?_) (λ_ w' ff=>⟨rfl,oM.o w' (kt.o.trans (ff.mono kt.o.size))⟩)))
      all_goals exact absurd e_ (by decide)
     ·have cC:=qh (pI.o rfl);go_wp2_with fail;go_region_held3(λw'=>w'.cell? ⟨cb,5,none⟩=some (.map (some ofb))/\w'.cell? ⟨b,2,none⟩=some (.slice (some ⟨gq,0,none⟩) nd.list.length qc)/\w'.cell? ⟨gq,j,none⟩=some (.pointer (some ⟨bq,0,none⟩))/\(Instr.lookup 103 (.map (some ofb)) (.int .i64 (nj:Nat)) false).run prog w'=.ok (.pointer (some ⟨bj,0,none⟩)) w') (first|exact Sx|exact ik)
       (first
        |(go_at_call 249;refine sQ.o _ NJ.o _ (λw5 dM=>?_);have ik:=mU.o w5 dM;have kt:=qh (NJ.o.trans (dM.mono NJ.o.size));clear dM)
        |(go_at_call 160;refine HN.o _ kt.o _ _ (λ_=>?_) (λh=>by cases h)))
      all_goals
       go_wp2_with fail;go_roundw
       case rel=>exact⟨j+1,by go_num,by omega,kt.o,cC.o⟩
       case measure=>simp[intOf];omega
    ·have gO:j=nd.list.length:=by omega
     have HG:=qh (λw'(h:Sat w w' [bG w])=>aX.o (eP tf) ov w' (IA H9.o (by rw[List.length_map];have:=cd S_.o;have:=PV.o;omega) (λm hm=>hF.out m (by rw[List.length_map]at hm;omega))) (h.iA λa h hl _=>bN hl _ _ (Kd.o (.inr H9.o))));have o3:=aai.o wr hB.out;have Ut:=YI.o wr hB.out;clear gO;go_wp2_with fail;exact HG.o _ ((Sat.fO w).below hB.out)
end
end
end Go.Proofs.YtdlbhiaceheffabGreatDoor
