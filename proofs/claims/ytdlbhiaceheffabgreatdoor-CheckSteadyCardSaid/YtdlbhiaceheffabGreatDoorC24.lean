/- Walk of check: expr, at objects. -/
import Derived.Test.YtdlbhiaceheffabGreatDoorC23
set_option linter.all false
set_option maxRecDepth 100000
set_option maxHeartbeats 8000000
namespace Go.Proofs.YtdlbhiaceheffabGreatDoor
open Go Go.RowKit Ty Tok Prt Tryz Proofs.Tryz
section
open Ty (Tr Ck)
section
variable {wB w:World} {cb ofb hasb:Nat} {X:Cx} {s:Ck} {h0:Prt.Hp} {pg:Ty.Pg}
theorem QV(hP:PB wB X.nv X.tv pg)(hb:Below wB.heap.size wB w){id:Nat}{nd:Nd}(hn:pg.ns[id]?=some nd)(hk:nd.kind=10)(hW:CkW w cb X ofb hasb s h0)(hI:NdW pg nd)(eR:qB pg X.kv s id nd≠.error Ty.stuck){R:EW}
  (aD:∀t q w',qB pg X.kv s id nd=.ok t->Sat w w' [bY w,iq h0 t q]->R (.returned q) w'):
  Calls prog 159 #[.pointer (some ⟨cb,0,none⟩),.int .i64 (id:Nat)] w R:=by
 have Ee:=qh (λR=>fE (R:=R) hP hb hn hW.c0 hW.lt);have HW:=qh hW;have DV:=hW.lt;obtain⟨eB,hex⟩:=zM eR;have hx:qB pg X.kv s id nd=.ok (.mk 7 (nd.list.map λp=>(Ty.iv pg.ns p).text) (nd.list.map λp=>tO s.of (Ty.iv pg.ns p).a) [] []):=by rw[hex];unfold AA;simp only[hk];rfl
 have sB:iU pg nd=nd.list.map λp=>(Ty.iv pg.ns p).a:=by unfold iU;simp[hk]
 rw[sB]at eB
 have fL:=qh (λq w'=>aD _ q w' hx);have WW:=qh (λ(j:Nat)(h:j<nd.list.length)=>(show∃q:Nd,Ty.iv pg.ns nd.list[j]=q/\q.a<=100000/\s.of q.a=some (tO s.of q.a)/\∀(w1:World),Below w.heap.size w w1->∀R:EW,(∀lv w',Below w1.heap.size w1 w'->R (.returned (.agg #[.int .i64 q.kind,.int .i64 q.a,.int .i64 q.b,.int .i64 q.c,lv,.string q.text,.int .i64 q.n,.int .i64 q.ty,.int .i64 q.pos])) w')->Calls prog 152 #[.pointer (some ⟨cb,0,none⟩),.int .i64 (nd.list[j]:Nat)] w1 R by
  obtain⟨q,hq⟩:=hI.ps j h;have Z0:=hI.pa _ (gM h) q hq;refine⟨q,ET hq,Z0,cO eB (List.mem_map.2 ⟨nd.list[j],gM h,by rw[ET hq]⟩),λw1 cd R hR=>fE hP (hb.trans (cd.mono hb.size)) hq (av cd hW.c0) (nL hW.lt cd.size) λlv w' iz _=>hR lv w' iz⟩))
 have uQ:=hI.len;have ik:=qh (λlv(hl:wB.ownsRow 0 3 1 lv nd.list.length (nd.list.map aQ)) w1(h:Below w.heap.size w w1)=>ay hl (hb.trans (h.mono hb.size)));obtain⟨j0,tj,uA,uI,uy⟩:=info_parts Mj;have e1:=kF hk 1;have e2:=kF hk 2;have e3:=kF hk 3;have e4:=kF hk 4;have e5:=kF hk 5;have e6:=kF hk 6;have e7:=kF hk 7;have e8:=kF hk 8;have e9:=kF hk 9;have UJ:=kF hk 11;have wk:=kT hk 10;have f1:=Pf;have f5:=CJ;clear aD hP hb hn hW eR eB hex hI hk hx sB;go_in;go_wp2_with fail;refine Ee.o _ (λlv w2 aW hl=>?_);have HL:=qh (ik.o lv hl);obtain⟨la,lc,rfl⟩:=ag hl;unfold aH;have h3:=((Sat.iN w).below aW).ar (cz nd (.slice la nd.list.length lc)) w2.heap.size;have h4:=(h3.ar (.cells #[.int .i64 (7:Nat),.slice none 0 0,.slice none 0 0,.pointer none] 219) (w2.heap.size+1) (by simp)).nil 221 2;have x0:=h3.cell 1 0;have x4:=h4.cell 1 4;have H1:=qh (h4.pick [0,2,3]);clear h3 h4 aW hl;go_wp2_with fail;refine cU _ 7 ?_;go_wp2_with fail;go_loopw [113] (λi wr=>∃(j:Nat)(pv:Value)(ps:List Value),i=.int .i64 j/\j<=nd.list.length/\ps.length<=j/\j<=ps.length/\Hq (Sat w wr [bY w,ax (w2.heap.size+1) (.cells #[.int .i64 (7:Nat),pv,.slice none 0 0,.pointer none] 219 (0,0)),Prt.row 221 2 pv ps.length (cP ((nd.list.take j).map λp=>(Ty.iv pg.ns p).text) ps)])/\Hq (br h0 ((nd.list.take j).map λp=>tO s.of (Ty.iv pg.ns p).a) ps)) (λi _=>nd.list.length-(intOf i).toNat)
 case atStart=>exact⟨0,.slice none 0 0,[],rfl,Nat.zero_le _,by simp,by simp,H1.o,by show br _ [] [];rw[br]⟩
 case round=>
  obtain⟨j,pv,ps,rfl,hj,Ko,vJ,hS,hQ⟩:=hrel;obtain⟨pa,pc,rfl⟩:=ag (hS.out.row 2);by_cases bz:j<nd.list.length
  ·have RE:=hS.out.aS;obtain⟨gl,nK,e,rE,d0⟩:=ints_at (HL.o wr RE) j bz;cases e;obtain⟨q,acd,Z0,Ew,Cn⟩:=WW.o j bz;have GC:=qh Cn;have ace:=qh acd;obtain⟨pj,cm,Hn⟩:=HW.o.L2 Z0 Ew;obtain⟨bj,rfl⟩:=cK Hn;have YU:=qh cm;have Xz:=qh (λ(w5:World)(h:Below w.heap.size w w5)=>av h HW.o.c5);have c5:=Xz.o wr RE;have HT:=qh (List.take_succ_eq_append_getElem bz);have abf:=qh Hn;have x1:=hS.out.cell 1 1;have H0:=qh hS.out.drew;generalize nd.list[j]=nj at*
   clear Ew Cn acd cm Hn RE hS;go_wp2_with fail;go_region_law(first
    |(go_simp;go_at_call 152;refine GC.o _ H3.o.aS _ (λqk w4 qW=>?_);have h5:=H3.o.below qW;have x3:=h5.cell 1 1;have ahz:=Xz.o _ h5.aS;have Kv:=YU.o _ h5.aS;have abX:=h5.aU (.cells #[.string q.text,.pointer (some ⟨bj,0,none⟩)] 221);have afA:=abX.cell 1 1;have H5:=qh h5;clear h5 qW abX)
    |(go_simp;go_at_call 152;refine GC.o _ H0.o.aS _ (λxJ w3 cZ=>?_);have h4:=H0.o.below cZ;have x2:=h4.cell 1 1;have ahd:=Xz.o _ h4.aS;have gR:=YU.o _ h4.aS;have H3:=qh h4;clear h4 cZ)
    |(go_loud(refine step_append_lies _ (by rfl) _ _ _ (by rfl) 0 221 j0 _ 2 24 underlying217 tj uA uI uy rfl (by omega) (.slice pa ps.length pc) ps.length (cP ((nd.list.take j).map λp=>(Ty.iv pg.ns p).text) ps) (by rfl) ((H5.o.row 2).alloc _) ⟨w4.heap.size,0,none⟩ 1 1 [.string q.text,.pointer (some ⟨bj,0,none⟩)] (by rfl) (by rfl) (World.news_of_block (cs:=#[.string q.text,.pointer (some ⟨bj,0,none⟩)]) (t:=221) (fr:=(0,0)) (aC _ _ _ (by simp))) (by simp[Value.oneCell']) (by omega) (by unfold maxLen;omega) (by omega) (by simp) (w4.heap.size+1) (by simp) ?_);intro g4 fH w5 cy bD gV o_;have h8:=Sat.grow (H5.o.aU _) 2 rfl bD cy (by simpa using gV);have x6:=h8.cell 1 1;have f6:=h8.free 1 rfl 1;have H8:=qh h8;clear h8))
   all_goals
    clear cy bD;have BP: ((nd.list.take j).map λp=>(Ty.iv pg.ns p).text).length=ps.length:=by simp;omega
    have h5:=(H8.o.store 1 rfl 1 (.slice (some ⟨g4,0,none⟩) (ps.length+1) fH)).pick [0,1,2];have h6:=h5.cQ (i:=2) rfl (Q:=Prt.row 221 2 (.slice (some ⟨g4,0,none⟩) (ps.length+1) fH) (ps++[Value.pointer (some ⟨bj,0,none⟩)]).length (cP ((nd.list.take (j+1)).map λp=>(Ty.iv pg.ns p).text) (ps++[Value.pointer (some ⟨bj,0,none⟩)]))) (λ_ h=>by rw[HT.o,List.map_append,List.map_cons,List.map_nil,ace.o];exact w_ BP h);have H9:=qh h6;have P8:Hq (br h0 ((nd.list.take (j+1)).map λp=>tO s.of (Ty.iv pg.ns p).a) (ps++[Value.pointer (some ⟨bj,0,none⟩)])):=by show br _ _ _;rw[HT.o,List.map_append,List.map_cons,List.map_nil,ace.o];exact mZ hQ.out abf.o
    clear h5 h6 BP;go_wp2_with fail;go_roundw
    case rel=>exact⟨j+1,.slice (some ⟨g4,0,none⟩) (ps.length+1) fH,ps++[Value.pointer (some ⟨bj,0,none⟩)],by go_num,by omega,by simp;omega,by simp;omega,H9.o,P8.o⟩
    case measure=>simp[intOf];omega
  ·have oE:j=nd.list.length:=by omega
   have hq:=hQ.out;have hs:=hS.out;rw[oE,List.take_length]at hq hs
   have h6:=Sat.pack (L:=[bY w]) hs;have RH: (nd.list.map λp=>(Ty.iv pg.ns p).text).length=ps.length:=by simp;omega
   have HG:=qh (fL.o _ _ (h6.cQ (i:=1) rfl λa ha h xV lR=>by
    obtain⟨y,z,_,hy,hz,g1,u,v,_,hu,_,g2,_⟩:=ha;exact Q' (lR _ _ (hy _ _ g1)) (iQ g2 (Prt.le_trans (Prt.le_trans hu hz) lR)) RH (jB xV _ _ hq)))
   clear oE hq hs h6 RH;go_wp2_with fail;exact HG.o
end
end
end Go.Proofs.YtdlbhiaceheffabGreatDoor
