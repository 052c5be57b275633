/- Walk of check: expr, at objects. -/
import Derived.Test.YtdlbhiaceheffabGreatDoorE24
set_option linter.all false
set_option maxRecDepth 100000
set_option maxHeartbeats 8000000
namespace Go.Proofs.YtdlbhiaceheffabGreatDoor
open Go Go.RowKit Ty Tok Prt Tryz Proofs.Tryz
section
open Ty (Tr Ck)
section
variable {wB w:World} {cb ofb hasb:Nat} {X:Cx} {s:Ck} {h0:Prt.Hp} {pg:Ty.Pg}
theorem MA(hP:PB wB X.nv X.tv pg)(hb:Below wB.heap.size wB w){id:Nat}{nd:Nd}(hn:pg.ns[id]?=some nd)(hk:nd.kind=10)(hW:CkW w cb X ofb hasb s h0)(hI:NdW pg nd)(bT:fD pg X.aK s id nd≠.error Ty.stuck){R:EW}
  (aH:∀t q w',fD pg X.aK s id nd=.ok t->Sat w w' [bG w,db h0 t q]->R (.returned q) w'):
  Calls prog 159 #[.pointer (some ⟨cb,0,none⟩),.int .i64 (id:Nat)] w R:=by
 have dO:=qh (λR=>aQ (R:=R) hP hb hn hW.c0 hW.lt);have HW:=qh hW;have gh:=hW.lt;obtain⟨ct,hex⟩:=fX bT;have hx:fD pg X.aK s id nd=.ok (.mk 7 (nd.list.map λp=>(cV pg.ns p).text) (nd.list.map λp=>tO s.of (cV pg.ns p).a) [] []):=by rw[hex];unfold lQ;simp only[hk];rfl
 have kI:c8 pg nd=nd.list.map λp=>(cV pg.ns p).a:=by unfold c8;simp[hk]
 rw[kI]at ct
 have aX:=qh (λq w'=>aH _ q w' hx);have Pu:=qh (λ(j:Nat)(h:j<nd.list.length)=>(show∃q:Nd,cV pg.ns nd.list[j]=q/\q.a<=100000/\s.of q.a=some (tO s.of q.a)/\∀(w1:World),Below w.heap.size w w1->∀R:EW,(∀lv w',Below w1.heap.size w1 w'->R (.returned (.agg #[.int .i64 q.kind,.int .i64 q.a,.int .i64 q.b,.int .i64 q.c,lv,.string q.text,.int .i64 q.n,.int .i64 q.ty,.int .i64 q.pos])) w')->Calls prog 152 #[.pointer (some ⟨cb,0,none⟩),.int .i64 (nd.list[j]:Nat)] w1 R by
  obtain⟨q,hq⟩:=hI.ps j h;have VW:=hI.pa _ (gM h) q hq;refine⟨q,D4 hq,VW,cn ct (List.mem_map.2 ⟨nd.list[j],gM h,by rw[D4 hq]⟩),λw1 cQ R hR=>aQ hP (hb.trans (cQ.mono hb.size)) hq (ak cQ hW.c0) (nL hW.lt cQ.size) λlv w' ff _=>hR lv w' ff⟩))
 have BZ:=hI.len;have du:=qh (λlv(hl:wB.ownsRow 0 3 1 lv nd.list.length (nd.list.map aO)) w1(h:Below w.heap.size w w1)=>ay hl (hb.trans (h.mono hb.size)));obtain⟨j0,tj,vI,vJ,vH⟩:=info_parts IX;have e1: (((nd.kind:Nat):Int)==1)=false:=by rw[hk];rfl
 have e2: (((nd.kind:Nat):Int)==2)=false:=by rw[hk];rfl
 have e3: (((nd.kind:Nat):Int)==3)=false:=by rw[hk];rfl
 have e4: (((nd.kind:Nat):Int)==4)=false:=by rw[hk];rfl
 have e5: (((nd.kind:Nat):Int)==5)=false:=by rw[hk];rfl
 have e6: (((nd.kind:Nat):Int)==6)=false:=by rw[hk];rfl
 have e7: (((nd.kind:Nat):Int)==7)=false:=by rw[hk];rfl
 have e8: (((nd.kind:Nat):Int)==8)=false:=by rw[hk];rfl
 have e9: (((nd.kind:Nat):Int)==9)=false:=by rw[hk];rfl
 have LN: (((nd.kind:Nat):Int)==11)=false:=by rw[hk];rfl
 have tk: (((nd.kind:Nat):Int)==10)=true:=by rw[hk];rfl
 have f1:=Ka;have f5:=A4;clear aH hP hb hn hW bT ct hex hI hk hx kI;go_in;go_wp2_with fail;refine dO.o _ (λlv w2 aD hl=>?_);have HL:=qh (du.o lv hl);obtain⟨la,lc,rfl⟩:=ag hl;unfold aG;have dL:Below w.heap.size w (w2.alloc (az nd (.slice la nd.list.length lc))):=aD.alloc aD.size _;have h3:=((Sat.fO w).below aD).aj (az nd (.slice la nd.list.length lc)) w2.heap.size;have h4:=(h3.aj (.cells #[.int .i64 (7:Nat),.slice none 0 0,.slice none 0 0,.pointer none] 219) (w2.heap.size+1) (by simp)).nil 221 2;have x0:=h3.cell 1 rfl 0 rfl;have x4:=h4.cell 1 rfl 4 rfl;have H1:=qh (h4.pick [0,2,3]);clear h3 h4 aD hl dL;go_wp2_with fail;refine bU _ 7 ?_;go_wp2_with fail;go_loopw [113] (λi wr=>∃(j:Nat)(pv:Value)(ps:List Value),i=.int .i64 j/\j<=nd.list.length/\ps.length<=j/\j<=ps.length/\Hq (Sat w wr [bG w,av (w2.heap.size+1) (.cells #[.int .i64 (7:Nat),pv,.slice none 0 0,.pointer none] 219 (0,0)),Prt.row 221 2 pv ps.length (cJ ((nd.list.take j).map λp=>(cV pg.ns p).text) ps)])/\Hq (bz h0 ((nd.list.take j).map λp=>tO s.of (cV pg.ns p).a) ps)) (λi _=>nd.list.length-(intOf i).toNat)
 case atStart=>exact⟨0,.slice none 0 0,[],rfl,Nat.zero_le _,by simp,by simp,H1.o,by show bz _ [] [];rw[bz]⟩
 case round=>
  obtain⟨j,pv,ps,rfl,hj,qK,pe,hS,hQ⟩:=hrel;obtain⟨pa,pc,rfl⟩:=ag (hS.out.row 2 rfl);by_cases a_:j<nd.list.length
  ·have si:=hS.out.bD;obtain⟨gl,jB,e,ku,d0⟩:=ints_at (HL.o wr si) j a_;cases e;obtain⟨q,Zs,VW,wF,z_⟩:=Pu.o j a_;have EB:=qh z_;have X6:=qh Zs;obtain⟨pj,bu,CJ⟩:=HW.o.fW VW wF;obtain⟨bj,rfl⟩:=aS CJ;have zW:=qh bu;have Wy:=qh (λ(w5:World)(h:Below w.heap.size w w5)=>ak h HW.o.c5);have c5:=Wy.o wr si;have pM:=bu wr.drew si.drew;have Zo:=nL gh si.size;have HT:=qh (List.take_succ_eq_append_getElem a_);have WM:=qh CJ;have x1:=hS.out.cell 1 rfl 1 rfl;have H0:=qh hS.out.drew;generalize nd.list[j]=nj at*
   clear wF z_ Zs bu CJ si hS;go_wp2_with fail;go_region_law(first
    |(go_simp;go_at_call 152;refine EB.o _ H3.o.bD _ (λqx w4 vR=>?_);have h5:=H3.o.below vR;have x3:=h5.cell 1 rfl 1 rfl;have acY:=Wy.o _ h5.bD;have tP:=zW.o _ h5.bD;have Zu:=h5.aW (.cells #[.string q.text,.pointer (some ⟨bj,0,none⟩)] 221);have ack:=Zu.cell 1 rfl 1 rfl;have H5:=qh h5;clear h5 vR Zu)
    |(go_simp;go_at_call 152;refine EB.o _ H0.o.bD _ (λvT w3 dF=>?_);have h4:=H0.o.below dF;have x2:=h4.cell 1 rfl 1 rfl;have BX:=Wy.o _ h4.bD;have cu:=zW.o _ h4.bD;have H3:=qh h4;clear h4 dF)
    |(go_loud(refine step_append_lies _ (by rfl) _ _ _ (by rfl) 0 221 j0 _ 2 24 underlying217 tj vI vJ vH rfl (by omega) (.slice pa ps.length pc) ps.length (cJ ((nd.list.take j).map λp=>(cV pg.ns p).text) ps) (by rfl) ((H5.o.row 2 rfl).alloc _) ⟨w4.heap.size,0,none⟩ 1 1 [.string q.text,.pointer (some ⟨bj,0,none⟩)] (by rfl) (by rfl) (World.news_of_block (cs:=#[.string q.text,.pointer (some ⟨bj,0,none⟩)]) (t:=221) (fr:=(0,0)) (aR _ _ _ (by simp))) (by simp[Value.oneCell']) (by omega) (by unfold maxLen;omega) (by omega) (by simp) (w4.heap.size+1) (by simp) ?_);intro g4 iq w5 dE cO jY vy;have h8:=Sat.grow (H5.o.aW _) 2 rfl cO dE (by simpa using jY);have x6:=h8.cell 1 rfl 1 rfl;have f6:=h8.free 1 rfl 1;have H8:=qh h8;clear h8))
   all_goals
    clear dE cO;have Bf: ((nd.list.take j).map λp=>(cV pg.ns p).text).length=ps.length:=by simp;omega
    have h5:=(H8.o.store 1 rfl 1 (.slice (some ⟨g4,0,none⟩) (ps.length+1) iq)).pick [0,1,2];have h6:=h5.cL (i:=2) rfl (Q:=Prt.row 221 2 (.slice (some ⟨g4,0,none⟩) (ps.length+1) iq) (ps++[Value.pointer (some ⟨bj,0,none⟩)]).length (cJ ((nd.list.take (j+1)).map λp=>(cV pg.ns p).text) (ps++[Value.pointer (some ⟨bj,0,none⟩)]))) (λ_ h=>by rw[HT.o,List.map_append,List.map_cons,List.map_nil,X6.o];exact vx Bf h);have H9:=qh h6;have Hr:Hq (bz h0 ((nd.list.take (j+1)).map λp=>tO s.of (cV pg.ns p).a) (ps++[Value.pointer (some ⟨bj,0,none⟩)])):=by show bz _ _ _;rw[HT.o,List.map_append,List.map_cons,List.map_nil,X6.o];exact lW hQ.out WM.o
    clear h5 h6 Bf;go_wp2_with fail;go_roundw
    case rel=>exact⟨j+1,.slice (some ⟨g4,0,none⟩) (ps.length+1) iq,ps++[Value.pointer (some ⟨bj,0,none⟩)],by go_num,by omega,by simp;omega,by simp;omega,H9.o,Hr.o⟩
    case measure=>simp[intOf];omega
  ·have gO:j=nd.list.length:=by omega
   have hq:=hQ.out;have hs:=hS.out;rw[gO,List.take_length]at hq hs
   have h6:=Sat.pack (L:=[bG w]) hs;have OE: (nd.list.map λp=>(cV pg.ns p).text).length=ps.length:=by simp;omega
   have HG:=qh (aX.o _ _ (h6.cL (i:=1) rfl λa ha h yP mI=>by
    obtain⟨y,z,_,hy,hz,g1,u,v,_,hu,_,g2,_⟩:=ha;exact MG (mI _ _ (hy _ _ g1)) (iX g2 (Prt.le_trans (Prt.le_trans hu hz) mI)) OE (jg yP _ _ hq)))
   clear gO hq hs h6 OE;go_wp2_with fail;exact HG.o
end
end
end Go.Proofs.YtdlbhiaceheffabGreatDoor
