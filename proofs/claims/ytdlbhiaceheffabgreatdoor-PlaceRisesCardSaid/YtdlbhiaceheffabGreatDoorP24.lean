/- Walk of check: expr, at objects. -/
import Derived.Test.YtdlbhiaceheffabGreatDoorP22
set_option linter.all false
set_option maxRecDepth 100000
set_option maxHeartbeats 8000000
namespace Go.Proofs.YtdlbhiaceheffabGreatDoor
open Go Go.RowKit Ty Tok ak Tryz Proofs.Tryz
section
open Ty (Tr Ck)
section
variable {wB w:World} {cb ofb hasb:Nat} {X:Cx} {s:Ck} {h0:ak.Hp} {pg:Ty.Pg}
theorem NS(hP:PB wB X.nv X.tv pg)(hb:Below wB.heap.size wB w){id:Nat}{nd:Ty.Nd}(hn:pg.ns[id]?=some nd)(hk:nd.kind=10)(hW:CkW w cb X ofb hasb s h0)(hI:NdW pg nd)(bZ:fN pg X.a_ s id nd≠.error Ty.stuck){R:EW}
  (aF:∀t q w',fN pg X.a_ s id nd=.ok t→Sat w w' [bE w,de h0 t q]→R (.returned q) w'):
  Calls prog 159 #[.pointer (some ⟨cb,0,none⟩),.int .i64 (id:Nat)] w R:=by
 have eE:=qh (λR=>aR (R:=R) hP hb hn hW.c0 hW.lt);have HW:=qh hW;have gU:=hW.lt;obtain⟨cy,hex⟩:=gi bZ;have hx:fN pg X.a_ s id nd=.ok (.mk 7 (nd.list.map λp=>(eW pg.ns p).text) (nd.list.map λp=>tO s.of (eW pg.ns p).a) [] []):=by rw[hex];unfold lL;simp only[hk];rfl
 have kK:c9 pg nd=nd.list.map λp=>(eW pg.ns p).a:=by unfold c9;simp[hk]
 rw[kK]at cy
 have aY:=qh (λq w'=>aF _ q w' hx);have RG:=qh (λ(j:Nat)(h:j<nd.list.length)=>(show∃q:Ty.Nd,eW pg.ns nd.list[j]=q∧q.a≤100000∧s.of q.a=some (tO s.of q.a)∧∀(w1:World),Below w.heap.size w w1→∀R:EW,(∀lv w',Below w1.heap.size w1 w'→R (.returned (.agg #[.int .i64 q.kind,.int .i64 q.a,.int .i64 q.b,.int .i64 q.c,lv,.string q.text,.int .i64 q.n,.int .i64 q.ty,.int .i64 q.pos])) w')→Calls prog 152 #[.pointer (some ⟨cb,0,none⟩),.int .i64 (nd.list[j]:Nat)] w1 R by
  obtain⟨q,hq⟩:=hI.ps j h;have VL:=hI.pa _ (gM h) q hq;refine⟨q,Co hq,VL,cu cy (List.mem_map.2 ⟨nd.list[j],gM h,by rw[Co hq]⟩),λw1 df R hR=>aR hP (hb.trans (df.mono hb.size)) hq (aq df hW.c0) (nL hW.lt df.size) λlv w' fU _=>hR lv w' fU⟩))
 have BE:=hI.len;have dG:=qh (λlv(hl:wB.ownsRow 0 3 1 lv nd.list.length (nd.list.map aS)) w1(h:Below w.heap.size w w1)=>az hl (hb.trans (h.mono hb.size)));obtain⟨j0,tj,qP,rJ,rI⟩:=info_parts Jh;have e1: (((nd.kind:Nat):Int)==1)=false:=by rw[hk];rfl
 have e2: (((nd.kind:Nat):Int)==2)=false:=by rw[hk];rfl
 have e3: (((nd.kind:Nat):Int)==3)=false:=by rw[hk];rfl
 have e4: (((nd.kind:Nat):Int)==4)=false:=by rw[hk];rfl
 have e5: (((nd.kind:Nat):Int)==5)=false:=by rw[hk];rfl
 have e6: (((nd.kind:Nat):Int)==6)=false:=by rw[hk];rfl
 have e7: (((nd.kind:Nat):Int)==7)=false:=by rw[hk];rfl
 have e8: (((nd.kind:Nat):Int)==8)=false:=by rw[hk];rfl
 have e9: (((nd.kind:Nat):Int)==9)=false:=by rw[hk];rfl
 have Mk: (((nd.kind:Nat):Int)==11)=false:=by rw[hk];rfl
 have r9: (((nd.kind:Nat):Int)==10)=true:=by rw[hk];rfl
 have f1:=I2;have f5:=Bu;clear aF hP hb hn hW bZ cy hex hI hk hx kK;go_in;go_wp2_with fail;refine eE.o _ (λlv w2 aI hl=>?_);have HL:=qh (dG.o lv hl);obtain⟨la,lc,rfl⟩:=ag hl;unfold aK;have dR:Below w.heap.size w (w2.alloc (aD nd (.slice la nd.list.length lc))):=aI.alloc aI.size _;have h3:=((Sat.fw w).below aI).aj (aD nd (.slice la nd.list.length lc)) w2.heap.size;have h4:=(h3.aj (.cells #[.int .i64 (7:Nat),.slice none 0 0,.slice none 0 0,.pointer none] 219) (w2.heap.size+1) (by simp)).nil 221 2;have x0:=h3.cell 1 rfl 0 rfl;have x4:=h4.cell 1 rfl 4 rfl;have H1:=qh (h4.pick [0,2,3]);clear h3 h4 aI hl dR;go_wp2_with fail;refine bT _ 7 ?_;go_wp2_with fail;go_loopw [113] (λi wr=>∃(j:Nat)(pv:Value)(ps:List Value),i=.int .i64 j∧j≤nd.list.length∧ps.length≤j∧j≤ps.length∧Hq (Sat w wr [bE w,ay (w2.heap.size+1) (.cells #[.int .i64 (7:Nat),pv,.slice none 0 0,.pointer none] 219 (0,0)),ak.row 221 2 pv ps.length (cN ((nd.list.take j).map λp=>(eW pg.ns p).text) ps)])∧Hq (bz h0 ((nd.list.take j).map λp=>tO s.of (eW pg.ns p).a) ps)) (λi _=>nd.list.length-(intOf i).toNat)
 case atStart=>exact⟨0,.slice none 0 0,[],rfl,Nat.zero_le _,by simp,by simp,H1.o,by show bz _ [] [];rw[bz]⟩
 case round=>
  obtain⟨j,pv,ps,rfl,hj,uh,sE,hS,hQ⟩:=hrel;obtain⟨pa,pc,rfl⟩:=ag (hS.out.row 2 rfl);by_cases bm:j<nd.list.length
  ·have r_:=hS.out.aW;obtain⟨gl,j9,e,mW,d0⟩:=ints_at (HL.o wr r_) j bm;cases e;obtain⟨q,Yx,VL,xv,zv⟩:=RG.o j bm;have DT:=qh zv;have YX:=qh Yx;obtain⟨pj,bD,CG⟩:=HW.o.gj VL xv;obtain⟨bj,rfl⟩:=aP CG;have Bh:=qh bD;have RR:=qh (λ(w5:World)(h:Below w.heap.size w w5)=>aq h HW.o.c5);have c5:=RR.o wr r_;have pK:=bD wr.drew r_.drew;have Zt:=nL gU r_.size;have HT:=qh (List.take_succ_eq_append_getElem bm);have Wy:=qh CG;have x1:=hS.out.cell 1 rfl 1 rfl;have H0:=qh hS.out.drew;generalize nd.list[j]=nj at*
   clear xv zv Yx bD CG r_ hS;go_wp2_with fail;go_region_law(first
    |(go_simp;go_at_call 152;refine DT.o _ H3.o.aW _ (λnu w4 yG=>?_);have h5:=H3.o.below yG;have x3:=h5.cell 1 rfl 1 rfl;have adM:=RR.o _ h5.aW;have vu:=Bh.o _ h5.aW;have Zq:=h5.aU (.cells #[.string q.text,.pointer (some ⟨bj,0,none⟩)] 221);have abY:=Zq.cell 1 rfl 1 rfl;have H5:=qh h5;clear h5 yG Zq)
    |(go_simp;go_at_call 152;refine DT.o _ H0.o.aW _ (λvC w3 dD=>?_);have h4:=H0.o.below dD;have x2:=h4.cell 1 rfl 1 rfl;have BF:=RR.o _ h4.aW;have cI:=Bh.o _ h4.aW;have H3:=qh h4;clear h4 dD)
    |(go_loud(refine step_append_lies _ (by rfl) _ _ _ (by rfl) 0 221 j0 _ 2 24 underlying217 tj qP rJ rI rfl (by omega) (.slice pa ps.length pc) ps.length (cN ((nd.list.take j).map λp=>(eW pg.ns p).text) ps) (by rfl) ((H5.o.row 2 rfl).alloc _) ⟨w4.heap.size,0,none⟩ 1 1 [.string q.text,.pointer (some ⟨bj,0,none⟩)] (by rfl) (by rfl) (World.news_of_block (cs:=#[.string q.text,.pointer (some ⟨bj,0,none⟩)]) (t:=221) (fr:=(0,0)) (aH _ _ _ (by simp))) (by simp[Value.oneCell']) (by omega) (by unfold maxLen;omega) (by omega) (by simp) (w4.heap.size+1) (by simp) ?_);intro g4 eJ w5 cq bC ga mY;have h8:=Sat.grow (H5.o.aU _) 2 rfl bC cq (by simpa using ga);have x6:=h8.cell 1 rfl 1 rfl;have f6:=h8.free 1 rfl 1;have H8:=qh h8;clear h8))
   all_goals
    clear cq bC;have AF: ((nd.list.take j).map λp=>(eW pg.ns p).text).length=ps.length:=by simp;omega
    have h5:=(H8.o.store 1 rfl 1 (.slice (some ⟨g4,0,none⟩) (ps.length+1) eJ)).pick [0,1,2];have h6:=h5.cG (i:=2) rfl (Q:=ak.row 221 2 (.slice (some ⟨g4,0,none⟩) (ps.length+1) eJ) (ps++[Value.pointer (some ⟨bj,0,none⟩)]).length (cN ((nd.list.take (j+1)).map λp=>(eW pg.ns p).text) (ps++[Value.pointer (some ⟨bj,0,none⟩)]))) (λ_ h=>by rw[HT.o,List.map_append,List.map_cons,List.map_nil,YX.o];exact u3 AF h);have H9:=qh h6;have Hv:Hq (bz h0 ((nd.list.take (j+1)).map λp=>tO s.of (eW pg.ns p).a) (ps++[Value.pointer (some ⟨bj,0,none⟩)])):=by show bz _ _ _;rw[HT.o,List.map_append,List.map_cons,List.map_nil,YX.o];exact lT hQ.out Wy.o
    clear h5 h6 AF;go_wp2_with fail;go_roundw
    case rel=>exact⟨j+1,.slice (some ⟨g4,0,none⟩) (ps.length+1) eJ,ps++[Value.pointer (some ⟨bj,0,none⟩)],by go_num,by omega,by simp;omega,by simp;omega,H9.o,Hv.o⟩
    case measure=>simp[intOf];omega
  ·have ju:j=nd.list.length:=by omega
   have hq:=hQ.out;have hs:=hS.out;rw[ju,List.take_length]at hq hs
   have h6:=Sat.pack (L:=[bE w]) hs;have Oi: (nd.list.map λp=>(eW pg.ns p).text).length=ps.length:=by simp;omega
   have HG:=qh (aY.o _ _ (h6.cG (i:=1) rfl λa ha h yS mS=>by
    obtain⟨y,z,_,hy,hz,g1,u,v,_,hu,_,g2,_⟩:=ha;exact Ma (mS _ _ (hy _ _ g1)) (iC g2 (ak.le_trans (ak.le_trans hu hz) mS)) Oi (jq yS _ _ hq)))
   clear ju hq hs h6 Oi;go_wp2_with fail;exact HG.o
end
end
end Go.Proofs.YtdlbhiaceheffabGreatDoor
