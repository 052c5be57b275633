/- Walk of check: call. -/
import Derived.Test.YtdlbhiaceheffabGreatDoorC21
set_option linter.all false
set_option maxRecDepth 100000
set_option maxHeartbeats 8000000
namespace Go.Proofs.YtdlbhiaceheffabGreatDoor
open Go Go.RowKit Ty Tok Prt Tryz Proofs.Tryz
section
open Ty (Tr Ck bn bE bg)
theorem OD{W w:World}{b k x:Nat}(hk:cX W b k)(hw:Xt W w){r:Bool}(hr:decide (k∈[x])=r){g:Nat}{z:Int}{R:EW}(hR:R (.returned (.bool r)) (w.alloc (.cells #[.int .i64 z] 3)).drew)(hz:z=x:=by rfl)(hg:g=w.heap.size:=by simp):
  Calls prog 296 #[.pointer (some ⟨b,0,none⟩),.slice (some ⟨g,0,none⟩) 1 1] (w.alloc (.cells #[.int .i64 z] 3)).drew R:=
 rz (l:=[x]) (nU (hw.alloc _).drew hk.1 hk.2) (Bg w hg _ [x] (by rw[hz];rfl) (by simp)) (by simp) hr hR
section
variable {wB w w1:World} {cb ofb hasb id:Nat} {X:Cx} {s:Ck} {h0:Prt.Hp} {pg:Ty.Pg} {nd:Nd} {R:EW}
theorem EM{f:Tr}{l:List Tr}(h:Ty.kindOf f=5):mQ f l=some f:=by unfold mQ;rw[if_pos h]
theorem D0{f:Tr}{l:List Tr}(h:Ty.kindOf f≠5)(g:¬(Ty.kindOf f=9/\(aN f).length=l.length)):mQ f l=none:=by unfold mQ;rw[if_neg h,if_neg g]
theorem KM{f:Tr}{l:List Tr}(h:Ty.kindOf f=9)(g: (aN f).length=l.length){j:Nat}(hj:j<l.length)(hf:Ty.fits (l.getD j bJ) ((aN f).getD j bJ)=false):mQ f l=none:=by
 unfold mQ;rw[if_neg (by omega),if_pos ⟨h,g⟩,if_pos (bE.2 ⟨j,hj,by rw[hf];rfl⟩)]
theorem Lz{f:Tr}{l:List Tr}(h:Ty.kindOf f=9)(g: (aN f).length=l.length)(hf:∀j,j<l.length->Ty.fits (l.getD j bJ) ((aN f).getD j bJ)=true):mQ f l=some (gv f):=by
 unfold mQ;rw[if_neg (by omega),if_pos ⟨h,g⟩,if_neg (by rw[bg.2 λj hj=>by rw[hf j hj];rfl];simp)]
theorem S4{w:World}{h0:Prt.Hp}(hle:Prt.le h0 (Prt.hp w)){t:Tr}{b:Nat}(hr:rep h0 t (.pointer (some ⟨b,0,none⟩)))(aD:eu t):b<w.heap.size/\∃(lv ov:Value)(ls:List Value),w.cell? ⟨b,2,none⟩=some lv/\w.ownsRow 0 107 1 lv ls.length ls/\br h0 (aN t) ls/\w.cell? ⟨b,3,none⟩=some ov/\(Ty.kindOf t=8\/Ty.kindOf t=9->rep h0 (gv t) ov)/\ls.length<=1000000:=by
 obtain⟨k,names,parts,list,of⟩:=t;obtain⟨b2,pv,lv,ov,ps,ls,os,e,fF,c0,c1,c2,c3,_,_,_,cg,AQ,AG,hv⟩:=ny hle hr;cases e;rw[eu]at aD
 have hl:=db AQ;exact⟨fF,lv,ov,ls,c2,cg,AQ,c3,λh=>oS (aD.2.2.1 h) AG hv,by have:=aD.2.2.2.2.2.2.1.2;omega⟩
set_option maxRecDepth 100000
set_option maxHeartbeats 8000000
theorem FK(C:Cc wB w cb ofb hasb X s h0 pg)(hn:pg.ns[id]?=some nd)(hk:ji s.of (nd.a::nd.list)=true)(ha:nd.a<=100000)(lR:∀n∈nd.list,n<=100000)(uQ:nd.list.length<=1200)
  (aD:∀u q w',mQ (tO s.of nd.a) (nd.list.map (tO s.of))=some u->Sat w w' [bY w,iq h0 u q]->R (.returned q) w') (au:mQ (tO s.of nd.a) (nd.list.map (tO s.of))=none->∀w',Xt w w'->R (.panicked (aO (9,nd.pos))) w'):
  Calls prog 242 #[.pointer (some ⟨cb,0,none⟩),.int .i64 (id:Nat)] w R:=by
 have HC:=qh C;have HX:=qh (And.intro aD au);have Ig:s.of nd.a=some (tO s.of nd.a):=cO hk (by simp);have WW:Hq (∀j(h:j<nd.list.length),s.of nd.list[j]=some (tO s.of nd.list[j])/\nd.list[j]<=100000):=λj h=>⟨cO hk (List.mem_cons_of_mem _ (gM h)),lR _ (gM h)⟩
 clear aD au hk lR;go_in;go_wp2_with fail;refine C.node hn (λla lc w2 aW hl=>?_);have hB:Xt w (w2.alloc (cz nd (.slice la nd.list.length lc))):=aW.alloc _;have hx:=U5 w2 nd (.slice la nd.list.length lc);have HL:=qh (ay hl (C.up hB).b);obtain⟨b,cm,hr,qN,_⟩:=(C.up hB).of ha Ig;have hc:=(C.up hB).cells;have HK:=qh ((C.up hB).W.kind hr);have HR:=qh hr;have Wc:=qh qN;obtain⟨_,qv,ov,ls,Vi,Zo,aag,ac2,Zd,Py⟩:=S4 (C.up hB).W.le hr qN.ok;obtain⟨qa,qc,rfl⟩:=ag Zo;have Vi:=kc Vi;have aeA:=qh (kc ac2);have afl:=qh Zo;have aem:=qh aag;have Vf:=qh Zd;have HB:=qh hB;have aci:=db aag;have T_:=qh aci;generalize tO s.of nd.a=tf at*
 clear aW hl C hr hB Ig qN Zo aag ac2 Zd aci;go_wp2_with fail;go_region_held3(Xt (w2.alloc (cz nd (.slice la nd.list.length lc)))) (exact xt) (fail)
 all_goals
  have hV:Xt (w2.alloc (cz nd (.slice la nd.list.length lc))) (w2.alloc (cz nd (.slice la nd.list.length lc))).drew:=xt;generalize(w2.alloc (cz nd (.slice la nd.list.length lc))).drew=V at*
  have HV:=qh (HB.o.trans hV);have hv:=hx V hV;rcases h5:decide (Ty.kindOf tf∈[5])with _| _;rotate_left
  ·have HA:=qh (HX.o.1 tf _ _ (EM (by simpa using h5)) (nG (HV.o.alloc (.cells #[.int .i64 5] 3)) HR.o));go_wp2_with fail;refine kY HK.o hV h5 ?_;go_wp2_with fail;exact HA.o
  have aa1:¬Ty.kindOf tf=5:=by simpa using h5
  have afB:=qh (HV.o.alloc (.cells #[.int .i64 5] 3));have Yl:=qh (afB.o.alloc (.cells #[.int .i64 9] 3)).drew;go_wp2_with fail;refine kY HK.o hV h5 ?_;go_wp2_with fail;rcases h9:decide (Ty.kindOf tf∈[9])with _| _
  ·have HN:=qh (HX.o.2 (D0 aa1 (λh=>by simp[h.1]at h9)));refine wp_region_held_drew (S:=λ_=>True) (by kernel_rfl) trivial (λhS=>?_);refine ou 0 ?_;refine ou 1 ?_;refine ou 15 ?_;refine wpAnyH_ready (rs:=[2]) (by kernel_rfl) (by simp) (AllReadyH.cons rfl (λK hK=>?_) AllReadyH.nil);go_simp;refine hK.out _ _ trivial (λhHeld=>?_);clear hK K hHeld
   (try simp only[Act.put,lyA,lyB,lyC,lyD,lyE,lyF])
   refine wpAnyH_ready (rs:=[3]) (by kernel_rfl) (by simp) (AllReadyH.cons rfl (λK hK=>?_) AllReadyH.nil);go_simp;refine OD HK.o xt h9 ?_;go_simp;refine hK.out _ _ trivial (λhHeld=>?_);clear hK K hHeld
   (try simp only[Act.put,lyA,lyB,lyC,lyD,lyE,lyF])
   refine ou 4 ?_;refine Lf 5 ?_;refine Lf 6 ?_;refine Lf 7 ?_;refine Lf 8 ?_;refine Lf 9 ?_;refine Lf 10 ?_;refine Lf 11 ?_;refine Lf 12 ?_;refine Lf 13 ?_;refine ou 14 (v:=.bool false) ?_ (hy:=by intro w' dJ;go_simp);refine wpAnyH_ready (rs:=[16]) (by kernel_rfl) (by simp) (AllReadyH.cons rfl (λK hK=>?_) AllReadyH.nil);go_simp;exact(HC.o.up Yl.o).need hn nofun λ_ w' iz=>⟨rfl,HN.o w' (Yl.o.trans iz)⟩
  have adp:Ty.kindOf tf=9:=by simpa using h9
  have aei:=qh (λh:¬(aN tf).length=(nd.list.map (tO s.of)).length=>HX.o.2 (D0 aa1 λg=>h g.2));have H9:=qh adp;clear h5 aa1 adp
  go_region_held (Xt (w2.alloc (cz nd (.slice la nd.list.length lc)))) (exact xt)
   (first
    |(go_at_call 296;refine OD HK.o xt h9 ?_)
    |(go_at_call 160;refine(HC.o.up Yl.o).need hn (λhy=>?_) (λqq w' iz=>⟨rfl,aei.o (by simp at qq;have:=T_.o;simp;omega) w' (Yl.o.trans iz)⟩)))
  all_goals
   have pG:ls.length=nd.list.length:=by simp at hy;omega
   have Iv:=qh pG;have UD:=qh (show Xt (w2.alloc (cz nd (.slice la nd.list.length lc))) ((V.alloc (.cells #[.int .i64 5] 3)).alloc (.cells #[.int .i64 9] 3)).drew from xt);have hv:=hx _ UD.o;rw[pG]at Vi
   clear hy pG;go_wp2_with fail;go_loopw [43] (λi wr=>∃j:Nat,i=.int .i64 j/\j<=nd.list.length/\Hq (Xt (w2.alloc (cz nd (.slice la nd.list.length lc))) wr)/\Hq (∀m,m<j->Ty.fits ((nd.list.map (tO s.of)).getD m bJ) ((aN tf).getD m bJ)=true)) (λi _=>nd.list.length-(intOf i).toNat)
   case atStart=>exact⟨0,rfl,Nat.zero_le _,UD.o,λm hm=>by omega⟩
   case round=>
    obtain⟨j,rfl,hj,hW,hF⟩:=hrel;have Py: (aN tf).length=nd.list.length:=by have:=Iv.o;have:=T_.o;omega
    by_cases bz:j<nd.list.length
    ·obtain⟨gl,nK,e,rE,d0⟩:=ints_at (ay HL.o hW.out) j bz;cases e;have fK:j<ls.length:=by rw[Iv.o];exact bz
     obtain⟨gq,agI,e,ahb,d1⟩:=iD (ay afl.o hW.out) j fK;cases e;obtain⟨Ew,lW⟩:=WW.o j bz;have hC:=HC.o.up (HB.o.trans hW.out);obtain⟨bj,ag5,Hn,TE,_⟩:=hC.of lW Ew;have yi:j<(aN tf).length:=by omega
     have Ym:=dn aem.o j yi fK;obtain⟨bq,ab3⟩:=cK Ym;rw[ab3]at Ym d1
     have WQ:eu (aN tf)[j]:=by have:=cx Wc.o.ok yi;rwa [getD_eq yi]at this
     have UO: (nd.list.map (tO s.of)).getD j bJ=tO s.of nd.list[j]:=by rw[getD_eq (by rw[List.length_map];exact bz),List.getElem_map]
     have Kq: (aN tf).getD j bJ=(aN tf)[j]:=getD_eq yi _;have Bk:=qh (Bf wr _ (tO s.of nd.list[j]) (aN tf)[j] _ _ (Nat.lt_succ_self _) TE.ok WQ (dp hC.W.le _ _ Hn) (dp hC.W.le _ _ Ym));have F9:=qh (λ(h:Ty.fits (tO s.of nd.list[j]) (aN tf)[j]=true)(m:Nat)(hm:m<j+1)=>(show Ty.fits ((nd.list.map (tO s.of)).getD m bJ) ((aN tf).getD m bJ)=true by
      by_cases he:m=j
      ·rw[he,UO,Kq];exact h
      ·exact hF.out m (by omega)))
     have oG:=qh (λ(h:Ty.fits (tO s.of nd.list[j]) (aN tf)[j]=false)=>HX.o.2 (KM H9.o (by rw[List.length_map];omega) (j:=j) (by rw[List.length_map];exact bz) (by rw[UO,Kq];exact h)));have hc:=hC.cells;have k2:=kc (Vi wr hW.out);have d1:=kc d1;have wF:Xt wr wr:=Xt.r wr;have afC:=qh hC;have HW:=qh (HB.o.trans hW.out);generalize Ty.fits (tO s.of nd.list[j]) (aN tf)[j]=f at*
     generalize nd.list[j]=nj at*
     clear hx Ew Hn TE Ym WQ UO Kq hC Vi hv hV ab3 fK yi;go_wp2_with fail
     go_region_held (Xt wr) (exact xt)
      (first
       |(go_at_call 249;refine Bk.o _ wF.drew _ (λw5 od=>?_);have qY:Xt wr w5:=wF.drew.trans od)
       |(go_at_call 160;refine(afC.o.up qY).need hn (λhy=>?_) (λqq w' iz=>⟨rfl,oG.o qq w' ((HW.o.trans qY).trans iz)⟩)))
     all_goals
      have lM:=qh (F9.o hy);have Z8:=qh (hW.out.trans qY);clear hy;go_wp2_with fail;go_roundw
      case rel=>exact⟨j+1,by go_num,by omega,Z8.o,lM.o⟩
      case measure=>simp[intOf];omega
    ·have HA:=qh (HX.o.1 (gv tf) ov _ (Lz H9.o (by rw[List.length_map];omega) (λm hm=>hF.out m (by rw[List.length_map]at hm;omega))) (nG (HB.o.trans hW.out) (Vf.o (.inr H9.o))));have o3:=aeA.o wr hW.out;go_wp2_with fail;exact HA.o
end
end
section
open Ty (Tr Ck)
theorem ET{pg:Ty.Pg}{n:Nat}{q:Nd}(h:pg.ns[n]?=some q):Ty.iv pg.ns n=q:=by unfold Ty.iv;rw[h];rfl
section
variable {wB w:World} {cb:Nat} {nv tv:Value} {pg:Ty.Pg}
theorem yF(hP:PB wB nv tv pg)(hb:Below wB.heap.size wB w)(c0:w.cell? ⟨cb,0,none⟩=some nv)(c1:w.cell? ⟨cb,1,none⟩=some tv)(DV:cb<w.heap.size){nd:Nd}{lv:Value}(hl:wB.ownsRow 0 3 1 lv nd.list.length (nd.list.map aQ))
  (kp:∀i(h:i<nd.list.length),∃q,pg.ns[nd.list[i]]?=some q) (hz:wh nd.ty pg.ts) (uQ:nd.list.length<=1200) {R:EW} (hR:∀p w',Sat w w' [bY w,qp p (Lw pg nd)]->R (.returned p) w'):
  Calls prog 156 #[.pointer (some ⟨cb,0,none⟩),aH nd lv] w R:=by
 have HR:=qh hR;obtain⟨la,lc,rfl⟩:=ag hl;have HL:=qh (λ(w1:World)(h:Below w.heap.size w w1)=>ay hl (hb.trans (h.mono hb.size)));have Ee:=qh (λ(w1:World)(h:Below w.heap.size w w1)(i:Nat)(hi:i<nd.list.length)=>(show∃q:Nd,(B7 (l7 pg.ts (Ty.iv pg.ns nd.list[i]).ty))=B7 (l7 pg.ts q.ty)/\(∀R:EW,(∀lv w',Below w1.heap.size w1 w'->R (.returned (.agg #[.int .i64 q.kind,.int .i64 q.a,.int .i64 q.b,.int .i64 q.c,lv,.string q.text,.int .i64 q.n,.int .i64 q.ty,.int .i64 q.pos])) w')->Calls prog 152 #[.pointer (some ⟨cb,0,none⟩),.int .i64 (nd.list[i]:Nat)] w1 R)/\wh q.ty pg.ts by
  obtain⟨q,hq⟩:=kp i hi;exact⟨q,by rw[ET hq],λR hR=>fE hP (hb.trans (h.mono hb.size)) hq (av h c0) (nL DV h.size) λlv w' iz _=>hR lv w' iz,(hP.ok.ns q (List.mem_of_getElem? hq)).ty⟩))
 have HW:=qh (λ(w1:World)(h:Below w.heap.size w w1)(z:Int)(hz:wh z pg.ts)(R:EW) hR=>mT (R:=R) hP (hb.trans (h.mono hb.size)) (av h c1) (nL DV h.size) hz hR);have HZ:=qh hz;have f7:=B4;obtain⟨j0,tj,uA,uI,uy⟩:=info_parts tM;have h1:=((Sat.iN w).ar (cz nd (.slice la nd.list.length lc)) w.heap.size).ar (.cells #[.int .i64 (9:Nat),.slice none 0 0,.slice none 0 0,.pointer none] 219) (w.heap.size+1) (by simp);have h2:=(h1.nil 107 1).jR (P:=fQ [] []) (λ_=>by show br _ [] [];rw[br]);have x4:=h2.cell 1 4;have H2:=qh h2;clear hR hl kp hz h1 h2 hP hb c0 c1;unfold aH;go_in;go_wp2_with fail;refine cU _ 9 ?_;go_wp2_with fail;go_loopw [12] (λi wr=>∃(j:Nat)(qv:Value)(qs:List Value),i=.int .i64 j/\j<=nd.list.length/\qs.length<=j/\j<=qs.length/\Hq (Sat w wr [bY w,ax w.heap.size (cz nd (.slice la nd.list.length lc)),ax (w.heap.size+1) (.cells #[.int .i64 (9:Nat),.slice none 0 0,qv,.pointer none] 219 (0,0)),Prt.row 107 1 qv qs.length qs,fQ qs ((nd.list.take j).map λp=>B7 (l7 pg.ts (Ty.iv pg.ns p).ty))]))
  (λi _=>nd.list.length-(intOf i).toNat)
 case atStart=>exact⟨0,.slice none 0 0,[],rfl,by omega,by simp,by simp,H2.o⟩
 case round=>
  obtain⟨j,qv,qs,rfl,hj,aeV,LZ,hS⟩:=hrel;obtain⟨qa,qc,rfl⟩:=ag (hS.out.row 3);by_cases bz:j<nd.list.length
  ·have hb:=hS.out.aS;obtain⟨gl,nK,e,rE,d0⟩:=ints_at (HL.o wr hb) j bz;cases e;have HT:=qh (List.take_succ_eq_append_getElem bz);obtain⟨q,abU,Cn,acV⟩:=Ee.o wr.drew hb.drew j bz;have GC:=qh Cn;have aga:=qh abU;have YY:=qh acV;generalize nd.list[j]=ix at*
   have x1:=hS.out.cell 2 2;have H0:=qh hS.out.drew;clear hb hS abU Cn acV;go_wp2_with fail;go_region_law(first|(go_simp;go_at_call 152;refine GC.o _ (λqk w2 aW=>?_);have h3:=H0.o.below aW;have x2:=h3.cell 2 2;have H3:=qh h3;clear h3 aW)|(go_simp;go_at_call 154;refine HW.o _ H3.o.aS _ YY.o _ (λv3 w3 h4=>?_);have h5:=H3.o.join h4;have x3:=h5.cell 2 2;have H5:=qh h5;clear h4 h5)|(go_simp;go_at_call 153;refine xj (H5.o.at 5 rfl) (λp4 w4 h6=>?_);obtain⟨qw,rfl,_⟩:=e_ (h6.tree 1 rfl);have h7:=(h6.unpack 0 rfl).pick [1,2,3,4,5,0];have afA:=h7.cell 2 2;have adh:=h7.aU (.cells #[.pointer (some ⟨qw,0,none⟩)] 107);have x5:=adh.cell 2 2;have H7:=qh h7;clear h6 h7 adh)|(go_loud(refine step_append_lies _ (by rfl) _ _ _ (by rfl) 0 107 j0 _ 1 8 underlying104 tj uA uI uy rfl (by omega) (.slice qa qs.length qc) qs.length qs (by rfl) ((H7.o.row 3).alloc _) ⟨w4.heap.size,0,none⟩ 1 1 [.pointer (some ⟨qw,0,none⟩)] (by rfl) (by rfl) (World.news_of_block (cs:=#[.pointer (some ⟨qw,0,none⟩)]) (t:=107) (fr:=(0,0)) (aC _ _ _ (by simp))) (by simp[Value.oneCell']) (by omega) (by unfold maxLen;omega) (by omega) (by simp) (w4.heap.size+1) (by simp) ?_);intro g4 fH w5 cy bD gV o_;have h8:=Sat.grow (H7.o.aU _) 3 rfl bD cy (by simpa using gV);have x6:=h8.cell 2 2;have f6:=h8.free 2 rfl 2;have H8:=qh h8;clear h8))
   all_goals
    clear cy bD;have h5:=H8.o.store 2 rfl 2 (.slice (some ⟨g4,0,none⟩) (qs.length+1) fH);have h6:=h5.cQ (i:=3) rfl (Q:=Prt.row 107 1 (.slice (some ⟨g4,0,none⟩) (qs.length+1) fH) (qs++[Value.pointer (some ⟨qw,0,none⟩)]).length (qs++[Value.pointer (some ⟨qw,0,none⟩)])) (λ_ h=>kR h);have h7:=Sat.pack (L:=[_,_,_,_]) (M:=[_,_]) h6;have h8:=h7.cQ (i:=4) rfl (Q:=fQ (qs++[Value.pointer (some ⟨qw,0,none⟩)]) ((nd.list.take (j+1)).map λp=>B7 (l7 pg.ts (Ty.iv pg.ns p).ty))) (λ_ h=>by rw[HT.o,List.map_append,List.map_cons,List.map_nil,aga.o];exact pz h);have H9:=qh h8;clear h5 h6 h7 h8;go_wp2_with fail;go_roundw
    case rel=>exact⟨j+1,.slice (some ⟨g4,0,none⟩) (qs.length+1) fH,qs++[Value.pointer (some ⟨qw,0,none⟩)],by go_num,by omega,by simp;omega,by simp;omega,H9.o⟩
    case measure=>simp[intOf];omega
  ·have pw:j=nd.list.length:=by omega
   have h2:=hS.out;rw[pw,List.take_length]at h2
   have H2:=qh h2;have x7:=h2.cell 1 7;clear h2 pw hS;go_wp2_with fail;refine HW.o _ H2.o.aS _ HZ.o _ (λv3 w3 h4=>?_);have H5:=qh (H2.o.join h4);clear h4;go_wp2_with fail;refine xj (H5.o.at 5 rfl) (λp4 w4 h6=>?_);obtain⟨qw,rfl,_⟩:=e_ (h6.tree 1 rfl);have h7:=(h6.unpack 0 rfl).pick [1,3,4,5,0];have f4:=h7.free 1 rfl 3;have z4:=h7.cell 1 3;have H7:=qh h7;clear h6 h7;go_wp2_with fail;have h8:=(H7.o.store 1 rfl 3 (.pointer (some ⟨qw,0,none⟩))).cQ (i:=4) rfl (Q:=fQ [Value.pointer (some ⟨qw,0,none⟩)] [B7 (l7 pg.ts nd.ty)]) (λ_ h=>by show br _ [_] [_];rw[br];exact⟨_,[],rfl,h,by rw[br]⟩);have h9:=((h8.nil 221 2).jR (P:=fQ [] []) (λ_=>by show br _ [] [];rw[br])).pick [0,1,5,6,2,3,4];have fs:=Sat.pack (L:=[_]) (M:=[_,_,_,_,_,_]) h9;refine HR.o _ _ (fs.cQ (i:=1) rfl λ_ h=>?_);exact Bi (names:=[]) (ps:=[]) rfl (.inr rfl) h
end
structure NdW(pg:Ty.Pg)(nd:Nd):Prop where
 a:nd.a<=100000
 b:nd.b<=100000
 l:∀n∈nd.list,n<=100000
 ps:∀i(h:i<nd.list.length),∃q,pg.ns[nd.list[i]]?=some q
 pa:∀n∈nd.list,∀q,pg.ns[n]?=some q->q.a<=100000
 len:nd.list.length<=1200
 ty:wh nd.ty pg.ts
theorem zM{pg:Ty.Pg}{tf:Nat->Nat}{s:Ck}{n:Nat}{x:Nd}(h:qB pg tf s n x≠.error Ty.stuck):ji s.of (iU pg x)=true/\qB pg tf s n x=AA pg tf s n x:=by
 by_cases hk:ji s.of (iU pg x)=true
 ·exact⟨hk,by unfold qB;rw[if_pos hk]⟩
 ·unfold qB at h;rw[if_neg hk]at h
  exact absurd rfl h
theorem sw{w w3 w':World}{P:As}(hB:Below w.heap.size w w3)(h:Sat w3 w' [bY w3,P]):Sat w w' [bY w,P]:=((Sat.iN w).below hB).join h
theorem wZ{w0 w w':World}{h0:Prt.Hp}{t:Tr}{p:Value}(hle:Prt.le h0 (Prt.hp w0))(hb:Below w0.heap.size w0 w)(h:Sat w w' [bY w,iq h0 t p]):rep (Prt.hp w') t p:=
 h.get (i:=1) rfl λ_ ha hl=>ha _ (xe hle (hb.trans (h.aS.mono hb.size))) hl
theorem Gr(m:Nat)(h:m<=100000): (Lit.int .i64 (m:Nat)).wf=true:=WalkArith.wf_i64 (by omega)
theorem ZL(W:World):∃w5 w6 w7 w8:World,(Instr.mapUpdate 102 (.map (some W.heap.size)) (.int .i64 1) (.int .i64 1)).run prog (W.alloc (.map #[] 0))=.ok () w5/\(Instr.mapUpdate 102 (.map (some W.heap.size)) (.int .i64 2) (.int .i64 3)).run prog w5=.ok () w6/\
  (Instr.mapUpdate 102 (.map (some W.heap.size)) (.int .i64 3) (.int .i64 2)).run prog w6=.ok () w7/\(Instr.mapUpdate 102 (.map (some W.heap.size)) (.int .i64 4) (.int .i64 4)).run prog w7=.ok () w8/\Below W.heap.size W w8/\
  ∃n D,w8.ownsMap prog 3 (plainElem (H:=Unit) prog 3) W.heap.size n D/\∀k c:Nat,(k,c)∈[(1,1),(2,3),(3,2),(4,4)]->D.atKey (.int .i64 (k:Nat)) (.lit (.int .i64 0))=.lit (.int .i64 (c:Nat)):=by
 have h0:=World.ownsMap_made (H:=Unit) W prog 3 (plainElem prog 3);have hm:=underlying102;have hi:=underlying3;obtain⟨w5,r1,o1,g1⟩:=h0.update dR hm (by unfold maxLen;omega) (Maps.keyOf_int_mk hi (Gr 1 (by omega))) (plainElem_int hi (Gr 1 (by omega)));obtain⟨w6,r2,o2,g2⟩:=o1.update dR hm (by unfold maxLen;omega) (Maps.keyOf_int_mk hi (Gr 2 (by omega))) (plainElem_int hi (Gr 3 (by omega)));obtain⟨w7,r3,o3,g3⟩:=o2.update dR hm (by unfold maxLen;omega) (Maps.keyOf_int_mk hi (Gr 3 (by omega))) (plainElem_int hi (Gr 2 (by omega)));obtain⟨w8,r4,o4,g4⟩:=o3.update dR hm (by unfold maxLen;omega) (Maps.keyOf_int_mk hi (Gr 4 (by omega))) (plainElem_int hi (Gr 4 (by omega)));have xO:Below W.heap.size W (W.alloc (.map #[] 0)):=(bR _ _).alloc (nR _) _;have cd:=xO.grown g1 xO.size (λj hj=>by cases hj;exact nR _);have aW:=cd.grown g2 cd.size (λj hj=>by cases hj;exact nR _);have cZ:=aW.grown g3 aW.size (λj hj=>by cases hj;exact nR _);have qW:=cZ.grown g4 cZ.size (λj hj=>by cases hj;exact nR _);refine⟨w5,w6,w7,w8,r1,r2,r3,r4,qW,_,_,o4,λk c Kj=>?_⟩;have i0:Maps.IsMap (H:=Unit) (.map []):=Maps.isMap_empty;have kl:∀n:Nat,WideAt.IsKeyLit (Lit.int .i64 (n:Nat)):=λ_=>trivial
 simp only[List.mem_cons,Prod.mk.injEq,List.not_mem_nil,or_false]at Kj;rcases Kj with⟨rfl,rfl⟩|⟨rfl,rfl⟩|⟨rfl,rfl⟩|⟨rfl,rfl⟩
 ·rw[Maps.atKey_put_other (jD (by omega)),Maps.atKey_put_other (jD (by omega)),Maps.atKey_put_other (jD (by omega)),Maps.atKey_put_same i0 (kl 1)]
 ·rw[Maps.atKey_put_other (jD (by omega)),Maps.atKey_put_other (jD (by omega)),Maps.atKey_put_same (i0.put _ _) (kl 2)]
 ·rw[Maps.atKey_put_other (jD (by omega)),Maps.atKey_put_same ((i0.put _ _).put _ _) (kl 3)]
 ·rw[Maps.atKey_put_same (((i0.put _ _).put _ _).put _ _) (kl 4)]
theorem PN(W:World){mb:Nat}(afU:mb=W.heap.size){nk k c:Nat}(Kj: (k,c)∈[(1,1),(2,3),(3,2),(4,4)])(hk:nk=k):∃w5 w6 w7 w8:World,(Instr.mapUpdate 102 (.map (some mb)) (.int .i64 1) (.int .i64 1)).run prog (W.alloc (.map #[] 0))=.ok () w5/\(Instr.mapUpdate 102 (.map (some mb)) (.int .i64 2) (.int .i64 3)).run prog w5=.ok () w6/\
  (Instr.mapUpdate 102 (.map (some mb)) (.int .i64 3) (.int .i64 2)).run prog w6=.ok () w7/\(Instr.mapUpdate 102 (.map (some mb)) (.int .i64 4) (.int .i64 4)).run prog w7=.ok () w8/\Below W.heap.size W w8/\
  (Instr.lookup 102 (.map (some mb)) (.int .i64 (nk:Nat)) false).run prog w8=.ok (.int .i64 (c:Nat)) w8:=by
 subst hk afU;obtain⟨w5,w6,w7,w8,r1,r2,r3,r4,hb,n,D,ho,sX⟩:=ZL W;have hk:nk<=100000:=by simp only[List.mem_cons,Prod.mk.injEq,List.not_mem_nil,or_false]at Kj;omega
 obtain⟨c2,rC,ha,_⟩:=ho.lookup_int dR underlying102 underlying3 (G0 w8) (Maps.keyOf_int_mk underlying3 (Gr nk hk));rw[sX nk c Kj]at ha
 simp only[DataW.lit.injEq,Lit.int.injEq,true_and]at ha;exact⟨w5,w6,w7,w8,r1,r2,r3,r4,hb,by rw[rC,<-ha]⟩
section
variable {wB w w1:World} {cb ofb hasb id:Nat} {X:Cx} {s:Ck} {h0:Prt.Hp} {pg:Ty.Pg} {nd:Nd} {R:EW}
theorem S9(C:Cc wB w cb ofb hasb X s h0 pg){lv:Value}(hl:wB.ownsRow 0 3 1 lv nd.list.length (nd.list.map aQ))(hI:NdW pg nd){z:Int}(hz: (nd.kind:Int)=z)(hR:∀p w',Sat w w' [bY w,qp p (Lw pg nd)]->R (.returned p) w'):
  Calls prog 156 #[.pointer (some ⟨cb,0,none⟩),.agg #[.int .i64 z,.int .i64 nd.a,.int .i64 nd.b,.int .i64 nd.c,lv,.string nd.text,.int .i64 nd.n,.int .i64 nd.ty,.int .i64 nd.pos]] w R:=by
 subst hz;exact yF C.P C.b C.W.c0 C.W.c1 C.W.lt hl hI.ps hI.ty hI.len hR
set_option maxRecDepth 100000
set_option maxHeartbeats 8000000
theorem Tm(C:Cc wB w cb ofb hasb X s h0 pg)(hn:pg.ns[id]?=some nd)(hk:1<=nd.kind/\nd.kind<=14/\nd.kind≠10/\nd.kind≠11)(hI:NdW pg nd)(hi:id<=100000)(eR:qB pg X.kv s id nd≠.error Ty.stuck)
  (aD:∀t q w',qB pg X.kv s id nd=.ok t->Sat w w' [bY w,iq h0 t q]->R (.returned q) w') (au:∀f w',qB pg X.kv s id nd=.error f->Xt w w'->R (.panicked (aO f)) w'):
  Calls prog 159 #[.pointer (some ⟨cb,0,none⟩),.int .i64 (id:Nat)] w R:=by
 obtain⟨eB,hex⟩:=zM eR;rw[hex]at aD au eR
 unfold AA at aD au eR;unfold iU at eB;have HX:=qh (And.intro aD (And.intro au (And.intro eR eB)));clear aD au eR eB hex;go_in;go_wp2_with fail;refine C.node hn (λla lc w2 aW hl=>?_);have HB:=qh (show Xt w (w2.alloc (cz nd (.slice la nd.list.length lc)))from aW.alloc _);have HC:=qh (C.up HB.o);have HI:=qh hI;have HL:=qh hl;have hx:=U5 w2 nd (.slice la nd.list.length lc);have wF:=Xt.r (w2.alloc (cz nd (.slice la nd.list.length lc)));have hc:=HC.o.cells;clear aW hl C hI;by_cases h4:nd.kind<=4
 ·obtain⟨c,Kj,hA⟩:∃c,(nd.kind,c)∈[(1,1),(2,3),(3,2),(4,4)]/\∀q w',Sat w w' [bY w,iq h0 (rD c) q]->R (.returned q) w':=by
   have h:=HX.o.1;rcases(by omega:nd.kind=1\/nd.kind=2\/nd.kind=3\/nd.kind=4)with hk|hk|hk|hk
   ·exact⟨1,by simp[hk],λq w'=>h _ q w' (by simp[hk])⟩
   ·exact⟨3,by simp[hk],λq w'=>h _ q w' (by simp[hk])⟩
   ·exact⟨2,by simp[hk],λq w'=>h _ q w' (by simp[hk])⟩
   ·exact⟨4,by simp[hk],λq w'=>h _ q w' (by simp[hk])⟩
  have dU: (w2.alloc (cz nd (.slice la nd.list.length lc))).heap.size=w2.heap.size+1:=by simp
  obtain⟨w5,w6,w7,w8,r1,r2,r3,r4,LU,cm⟩:=PN _ dU.symm Kj rfl;have agm:=qh (HB.o.trans LU);have S6:=@run_makeMap prog;have agq:=hx w8 LU;have HA:=qh hA;clear LU Kj HX dU hA;rcases(by omega:nd.kind=1\/nd.kind=2\/nd.kind=3\/nd.kind=4)with hk|hk|hk|hk
  all_goals
   push_cast [hk]at hx agq cm;clear hk;go_wp2_with fail;refine cU _ _ ?_;go_wp2_with fail;exact HA.o _ _ (kL agm.o _)
 rcases(by omega:nd.kind=5\/nd.kind=6\/nd.kind=7\/nd.kind=12\/nd.kind=13\/nd.kind=8\/nd.kind=9\/nd.kind=14)with hk|hk|hk|hk|hk|hk|hk|hk
 all_goals
  push_cast [hk]at hx;have HK:=qh hk;obtain⟨aD,au,eR,eB⟩:=HX.o;simp[hk]at aD au eR eB
  clear hk h4 HX;have HX:=qh (And.intro aD (And.intro au (And.intro eR eB)));clear aD au eR eB;go_wp2_with fail
 ·rcases ht:s.has (X.kv id)with _|t
  ·exact absurd (by rw[ht]) HX.o.2.2.1
  have Ew:=HC.o.to hi;obtain⟨b,cm,hr,_⟩:=HC.o.has Ew.2 ht;have HA:=qh (HX.o.1 t _ _ (by rw[ht]) (nG HB.o.drew hr));clear ht hr;go_region_held3(Xt (w2.alloc (cz nd (.slice la nd.list.length lc)))) (exact xt) (fail)
  all_goals
   go_wp2_with fail;exact HA.o
 ·refine S9 HC.o HL.o HI.o (by rw[HK.o];rfl) (λv w' h=>?_);have HA:=HX.o.1 _ v w' rfl (sw HB.o (h.cQ (i:=1) rfl λ_ ha _ _ lR=>dp lR _ _ ha));go_wp2_with fail;exact HA
 iterate 3
  ·have GB:=HX.o.2.2.2;first
    |refine FK HC.o hn GB HI.o.a HI.o.l HI.o.len (λu q w' hu h=>?_) λhu w' iz=>⟨rfl,HX.o.2.1 _ _ w' (by rw[hu];rfl) (HB.o.trans iz)⟩
    |refine Jh HC.o hn (cO GB (by simp)) (cO GB (by simp)) HI.o.a HI.o.b (λu q w' hu h=>?_) λhu w' iz=>⟨rfl,HX.o.2.1 _ _ w' (by rw[hu];rfl) (HB.o.trans iz)⟩
    |refine IV HC.o hn (cO GB (by simp)) HI.o.a (λu q w' hu h=>?_) λhu w' iz=>⟨rfl,HX.o.2.1 _ _ w' (by rw[hu];rfl) (HB.o.trans iz)⟩
   have HA:=HX.o.1 u q w' (by rw[hu];rfl) (sw HB.o h);go_wp2_with fail;exact HA
 ·obtain⟨b,cm,hr,qN,_⟩:=HC.o.of HI.o.a (cO HX.o.2.2.2 (by simp));have R5:=qh (λR=>zC (R:=R) (HC.o.up wF.drew) hn hr qN.ok nd.text);clear hr qN
  go_region_held (Xt (w2.alloc (cz nd (.slice la nd.list.length lc)))) (exact xt)
   ((go_at_call 243;refine R5.o _ (λu q w5 hu h5=>?_) (λhu w' iz=>⟨rfl,HX.o.2.1 _ _ w' (by rw[hu];rfl) (HB.o.drew.trans iz)⟩);have qY:Xt (w2.alloc (cz nd (.slice la nd.list.length lc))) w5:=wF.drew.trans h5.aS))
  all_goals
   have HA:=HX.o.1 u q w5 (by rw[hu];rfl) (sw HB.o.drew h5);go_wp2_with fail;exact HA
 ·obtain⟨b,cm,hr,qN,_⟩:=HC.o.of HI.o.a (cO HX.o.2.2.2 (by simp));obtain⟨b2,Zb,om,M4,_⟩:=HC.o.of HI.o.b (cO HX.o.2.2.2 (by simp));have T7:=qh (λR=>ui (R:=R) (HC.o.up wF.drew) hn hr qN.ok om M4.ok);clear hr qN om M4
  go_region_held (Xt (w2.alloc (cz nd (.slice la nd.list.length lc)))) (exact xt)
   ((go_at_call 244;refine T7.o _ (λu q w5 hu h5=>?_) (λhu w' iz=>⟨rfl,HX.o.2.1 _ _ w' (by rw[hu];rfl) (HB.o.drew.trans iz)⟩);have qY:Xt (w2.alloc (cz nd (.slice la nd.list.length lc))) w5:=wF.drew.trans h5.aS))
  all_goals
   have HA:=HX.o.1 u q w5 (by rw[hu];rfl) (sw HB.o.drew h5);go_wp2_with fail;exact HA
 ·rcases ht:l7 pg.ts nd.ty with _|t
  ·exact absurd (by rw[ht]) HX.o.2.2.1
  refine mT HC.o.P HC.o.b HC.o.W.c1 HC.o.W.lt HI.o.ty (λv w' h=>?_);rw[ht]at h
  have HA:=HX.o.1 t v w' (by rw[ht]) (sw HB.o (h.cQ (i:=1) rfl λ_ ha _ _ lR=>dp lR _ _ ha));go_wp2_with fail;exact HA
end
def adl(w:World)(cb:Nat)(bk:List (Option Tr))(h0:Prt.Hp):Prop:=∃(v:Value)(bl:List Value),w.cell? ⟨cb,7,none⟩=some v/\w.ownsRow 0 107 1 v bl.length bl/\bl.length=bk.length/\bk.length<=1000000/\∀i(h:i<bk.length)(h2:i<bl.length),match bk[i]with
 |none=>bl[i]=.pointer none
 |some t=>rep h0 t bl[i]/\eu t
theorem Ix{pg:Ty.Pg}{tf:Nat->Nat}{bk:List (Option Tr)}{s:Ck}{n:Nat}{x:Nd}(h:wV pg tf bk n x s≠.error Ty.stuck):ji s.of (oe x)=true/\wV pg tf bk n x s=AZ pg tf bk n x s:=by
 by_cases hk:ji s.of (oe x)=true
 ·exact⟨hk,by unfold wV;rw[if_pos hk]⟩
 ·unfold wV at h;rw[if_neg hk]at h
  exact absurd rfl h
theorem rH{b:Bool}{e p:Nat}{s:Ck}(h:b=true):jY b e p s=.ok s:=by unfold jY;rw[if_pos h]
theorem sj{b:Bool}{e p:Nat}{s:Ck}(h:b=false):jY b e p s=.error (e,p):=by unfold jY;rw[h];rfl
theorem CkW.up{w:World}{cb ofb hasb:Nat}{X:Cx}{s:Ck}{h0:Prt.Hp}(h:CkW w cb X ofb hasb s h0):CkW w cb X ofb hasb s (Prt.hp w):=by
 obtain⟨n2,D2,f2,k2,k3,k4⟩:=h.of;obtain⟨n3,D3,f3,l2,l3,l4⟩:=h.has;exact⟨h.lt,Prt.le_refl _,h.c0,h.c1,h.c3,h.c5,h.c6,h.aa6,⟨n2,D2,f2,k2,k3,λn t e=>by obtain⟨p,a,b⟩:=k4 n t e;exact⟨p,a,dp h.le _ _ b⟩⟩,⟨n3,D3,f3,l2,l3,λn t e=>by obtain⟨p,a,b⟩:=l4 n t e;exact⟨p,a,dp h.le _ _ b⟩⟩,h.oN,h.wi⟩
section
variable {wB w w1:World} {cb ofb hasb id:Nat} {X:Cx} {s:Ck} {h0:Prt.Hp} {pg:Ty.Pg} {nd:Nd} {bk:List (Option Tr)} {R:EW}
set_option maxRecDepth 100000
set_option maxHeartbeats 8000000
theorem lf(C:Cc wB w cb ofb hasb X s h0 pg)(hn:pg.ns[id]?=some nd){a:Nat}{ta tq:Tr}{q:Value}(Ig:s.of a=some ta)(ha:a<=100000)(hq:rep h0 tq q)(WQ:eu tq){b2 b3:Nat}(c2:w.cell? ⟨b2,0,none⟩=some (.pointer (some ⟨cb,0,none⟩)))(c3:w.cell? ⟨b3,0,none⟩=some (.int .i64 (id:Nat)))
  (aD:Ty.fits ta tq=true->∀w',Xt w w'->R (.returned (.tuple #[])) w') (au:Ty.fits ta tq=false->∀w',Xt w w'->R (.panicked (aO (9,nd.pos))) w') {z:Int} (hz: (a:Int)=z:=by rfl):
  Calls prog 248 #[.int .i64 z,q,.pointer (some ⟨b2,0,none⟩),.pointer (some ⟨b3,0,none⟩)] w R:=by
 subst hz;obtain⟨bp,cm,hr,acm,_⟩:=C.of ha Ig;obtain⟨bq,rfl⟩:=cK hq;have Bk:=qh (Bf w _ ta tq _ _ (Nat.lt_succ_self _) acm.ok WQ (dp C.W.le _ _ hr) (dp C.W.le _ _ hq));have HX:=qh (And.intro aD au);have HC:=qh C;have c2:=kc c2;have c3:=kc c3;have hc:=C.cells;have wF:=Xt.r w;clear C hr acm hq WQ Ig aD au;generalize Ty.fits ta tq=f at*
 go_in;go_wp2_with fail
 go_region_held (Xt w) (exact xt)
  (first
   |(go_at_call 249;refine Bk.o _ wF.drew _ (λw5 od=>?_);have qY:Xt w w5:=wF.drew.trans od)
   |(go_at_call 160;refine(HC.o.up qY).need hn (λhy=>?_) (λqq w' iz=>⟨rfl,HX.o.2 qq _ (qY.trans iz)⟩)))
 all_goals
  have HA:=qh (HX.o.1 hy _ qY);go_wp2_with fail;go_end0;exact HA.o
theorem Uj(C:Cc wB w cb ofb hasb X s h0 pg)(hn:pg.ns[id]?=some nd)(hk:15<=nd.kind/\nd.kind≠17)(xH:nd.kind=20->0<=nd.c/\nd.c<=100000)(acW:adl w cb bk h0)(hI:NdW pg nd)(hi:id<=100000)(eR:wV pg X.kv bk id nd s≠.error Ty.stuck)
  (aD:∀w',wV pg X.kv bk id nd s=.ok s->Xt w w'->R (.returned (.tuple #[])) w') (au:∀f w',wV pg X.kv bk id nd s=.error f->Xt w w'->R (.panicked (aO f)) w'):
  Calls prog 162 #[.pointer (some ⟨cb,0,none⟩),.int .i64 (id:Nat)] w R:=by
 obtain⟨eB,hex⟩:=Ix eR;rw[hex]at aD au eR
 unfold AZ at aD au eR;unfold oe at eB;have HX:=qh (And.intro aD (And.intro au (And.intro eR eB)));have h1:=((Sat.iN w).ar (.cells #[.pointer (some ⟨cb,0,none⟩)] 99) w.heap.size).ar (.cells #[.int .i64 (id:Nat)] 3) (w.heap.size+1) (by simp);have HY:=qh (And.intro (h1.cell 1 0) (h1.cell 2 0));clear aD au eR eB hex h1;go_in;go_wp2_with fail;refine(C.up (xt:Xt w ((w.alloc (.cells #[.pointer (some ⟨cb,0,none⟩)] 99)).alloc (.cells #[.int .i64 (id:Nat)] 3)))).node hn (λla lc w2 aW hl=>?_);have hW:=aW.alloc (cz nd (.slice la nd.list.length lc));have HB:=qh ((xt:Xt w ((w.alloc (.cells #[.pointer (some ⟨cb,0,none⟩)] 99)).alloc (.cells #[.int .i64 (id:Nat)] 3))).trans hW);have HC:=qh (C.up HB.o);have HI:=qh hI;have aak:=qh acW;have hx:=U5 w2 nd (.slice la nd.list.length lc);have y2:=kc (kc HY.o.1 _ hW);have y3:=kc (kc HY.o.2 _ hW);have wF:=Xt.r (w2.alloc (cz nd (.slice la nd.list.length lc)));have hc:=HC.o.cells;have KH:=qh xH;clear aW hl C hI hW acW xH HY;by_cases ho:nd.kind≠18/\nd.kind≠19/\nd.kind≠20/\nd.kind≠24
 ·have he: (((nd.kind:Nat):Int)==17)=false/\(((nd.kind:Nat):Int)==18)=false/\(((nd.kind:Nat):Int)==19)=false/\(((nd.kind:Nat):Int)==20)=false/\(((nd.kind:Nat):Int)==24)=false:=by simp;omega
  have HA:=qh (HX.o.1 _ (by rw[if_neg hk.2,if_neg ho.1,if_neg ho.2.1,if_neg ho.2.2.1,if_neg ho.2.2.2]) HB.o);clear hk ho;go_wp2_with fail;go_end0;exact HA.o
 rcases(by omega:nd.kind=18\/nd.kind=19\/nd.kind=20\/nd.kind=24)with hk|hk|hk|hk
 all_goals
  push_cast [hk]at hx;obtain⟨aD,au,eR,eB⟩:=HX.o;have xH:=KH.o;simp[hk]at aD au eR eB xH
  clear hk HX ho KH;have HX:=qh (And.intro aD (And.intro au eR));have Kg:=qh eB;have KH:=qh xH;clear aD au eR eB xH;go_wp2_with fail
 ·rcases ht:s.has (X.kv id)with _|t
  ·exact absurd (by rw[ht]) HX.o.2.2
  have Ew:=HC.o.to hi;obtain⟨b,cm,hr,qN⟩:=HC.o.has Ew.2 ht;have HF:=qh (λw5(h:Xt (w2.alloc (cz nd (.slice la nd.list.length lc))) w5) R=>lf (R:=R) (HC.o.up h) hn (cO Kg.o (n:=nd.a) (by simp)) HI.o.a hr qN.ok (y2 _ h) (y3 _ h));have HT:=qh ht;clear ht hr qN
  go_region_held (Xt (w2.alloc (cz nd (.slice la nd.list.length lc)))) (exact xt)
   ((go_at_call 248;refine HF.o _ wF.drew _ (λhy w5 od=>?_) (λqq w' iz=>⟨rfl,HX.o.2.1 _ _ w' (by rw[HT.o];exact sj qq) (HB.o.drew.trans iz)⟩);have qY:Xt (w2.alloc (cz nd (.slice la nd.list.length lc))) w5:=wF.drew.trans od))
  all_goals
   have HA:=qh (HX.o.1 _ (by rw[HT.o];exact rH hy) (HB.o.trans qY));go_wp2_with fail;go_end0;exact HA.o
 ·obtain⟨b,cm,hr,qN,_⟩:=HC.o.of HI.o.a (cO Kg.o (by simp));have R5:=qh (λR=>zC (R:=R) (HC.o.up wF.drew) hn hr qN.ok nd.text);have Wc:=qh qN;clear hr qN
  go_region_held (Xt (w2.alloc (cz nd (.slice la nd.list.length lc)))) (exact xt)
   (first
    |(go_at_call 243;refine R5.o _ (λu q w5 hu h5=>?_) (λhu w' iz=>⟨rfl,HX.o.2.1 _ _ w' (by rw[hu];rfl) (HB.o.drew.trans iz)⟩);have qY:Xt (w2.alloc (cz nd (.slice la nd.list.length lc))) w5:=wF.drew.trans h5.aS;have hq:=qh (wZ HC.o.W.le wF.drew h5);obtain⟨bq,rfl⟩:=cK hq.out;clear h5)
    |(go_at_call 248;refine lf ⟨HC.o.P,(HC.o.up qY).b,(HC.o.up qY).W.up⟩ hn (cO Kg.o (n:=nd.b) (by simp)) HI.o.b hq.out (DT Wc.o hu).1.ok (y2 _ qY) (y3 _ qY) (λhy w6 Ev=>?_) (λqq w' iz=>⟨rfl,HX.o.2.1 _ _ w' (by rw[hu];exact sj qq) ((HB.o.trans qY).trans iz)⟩);have Rv:=qY.trans Ev))
  all_goals
   have HA:=qh (HX.o.1 _ (by rw[hu];exact rH hy) (HB.o.trans Rv));go_wp2_with fail;go_end0;exact HA.o
 ·obtain⟨b,cm,hr,qN,_⟩:=HC.o.of HI.o.a (cO Kg.o (by simp));obtain⟨b2,Zb,om,M4,_⟩:=HC.o.of HI.o.b (cO Kg.o (by simp));have R5:=qh (λR=>ui (R:=R) (HC.o.up wF.drew) hn hr qN.ok om M4.ok);have Wc:=qh qN;clear hr qN om M4
  go_region_held (Xt (w2.alloc (cz nd (.slice la nd.list.length lc)))) (exact xt)
   (first
    |(go_at_call 244;refine R5.o _ (λu q w5 hu h5=>?_) (λhu w' iz=>⟨rfl,HX.o.2.1 _ _ w' (by rw[hu];rfl) (HB.o.drew.trans iz)⟩);have qY:Xt (w2.alloc (cz nd (.slice la nd.list.length lc))) w5:=wF.drew.trans h5.aS;have hq:=qh (wZ HC.o.W.le wF.drew h5);obtain⟨bq,rfl⟩:=cK hq.out;clear h5)
    |(go_at_call 248;refine lf ⟨HC.o.P,(HC.o.up qY).b,(HC.o.up qY).W.up⟩ hn (cO Kg.o (n:=nd.c.toNat) (by simp)) (by have:=KH.o;omega) hq.out (xE Wc.o hu).1.ok (y2 _ qY) (y3 _ qY) (λhy w6 Ev=>?_) (λqq w' iz=>⟨rfl,HX.o.2.1 _ _ w' (by rw[hu];exact sj qq) ((HB.o.trans qY).trans iz)⟩) (by have:=KH.o;omega);have Rv:=qY.trans Ev))
  all_goals
   have HA:=qh (HX.o.1 _ (by rw[hu];exact rH hy) (HB.o.trans Rv));go_wp2_with fail;go_end0;exact HA.o
 ·obtain⟨bv,bl,b7,SH,T2,abk,adC⟩:=aak.o;obtain⟨qa,qc,rfl⟩:=ag SH;have b7:=kc (kc b7 _ HB.o);have HE:=qh (λh:¬0<bl.length=>(List.length_eq_zero_iff.1 (by omega):bk=[]));have afm:=qh T2;clear T2
  go_region_held (Xt (w2.alloc (cz nd (.slice la nd.list.length lc)))) (exact xt)
   ((go_at_call 160;refine(HC.o.up wF.drew).need hn (e:=4) (λhy=>?_) (λqq w' iz=>⟨rfl,HX.o.2.1 _ _ w' (by rw[HE.o (by have:=of_decide_eq_false qq;omega)];rfl) (HB.o.drew.trans iz)⟩)))
  all_goals
   obtain⟨k,u_⟩:∃k,bl.length=k+1:=⟨bl.length-1,by have:=of_decide_eq_true hy;omega⟩
   have T2:=afm.o;have ZW:k<bk.length:=by omega
   have SG:k<bl.length:=by omega
   obtain⟨g,cap,e,hg,d0⟩:=iD (ay SH HB.o) k SG;cases e;have d0:=kc d0;have hv:=adC k ZW SG;have rE:bk.getLast?=some bk[k]:=by rw[List.getLast?_eq_getElem?,show bk.length-1=k by omega,List.getElem?_eq_getElem ZW]
   have hX:=HX.o;rw[rE]at hX
   have hw:=IntWalk.i64_in (n:=(k:Int)) (by omega);have hs:IntKind.i64.wrap (((k+1:Nat):Int)-1)=(k:Int)/\IntKind.i64.wrap ((k:Int)+1-1)=(k:Int):=⟨by rw[show((k+1:Nat):Int)-1=(k:Int)by omega];exact hw,by rw[show(k:Int)+1-1=(k:Int)by omega];exact hw⟩
   have W6: (0:Int)<=(k:Int)/\(k:Int)<(k:Int)+1/\(k:Int)<((k+1:Nat):Int):=by omega
   rw[u_]at b7
   generalize bl[k]=vl at*
   generalize bk[k]=ot at*
   have HZ:=qh hX;clear HX HE hX rE T2 abk adC SH hy u_ ZW SG;go_wp2_with fail;go_region_held3(Xt (w2.alloc (cz nd (.slice la nd.list.length lc)))) (exact xt) (fail)
   all_goals
    rcases ot with _|t
    ·dsimp only at hv;subst hv;have HA:=qh (HZ.o.1 _ rfl HB.o.drew.drew);go_wp2_with fail;go_end0;exact HA.o
    ·dsimp only at hv;obtain⟨hr,R6⟩:=hv;have HF:=qh (λR=>lf (R:=R) (HC.o.up wF.drew.drew) hn (cO Kg.o (n:=nd.a) (by simp)) HI.o.a hr R6 (y2 _ wF.drew.drew) (y3 _ wF.drew.drew));obtain⟨bt,rfl⟩:=cK hr;clear hr R6;go_wp2_with fail;refine HF.o _ (λhf w5 od=>?_) (λhf w5 od=>⟨rfl,HZ.o.2.1 _ _ w5 (sj hf) (HB.o.drew.drew.trans od)⟩);have HA:=qh (HZ.o.1 _ (rH hf) (HB.o.drew.drew.trans od));go_wp2_with fail;go_end0;exact HA.o
end
def Pt(h0:Prt.Hp):As:=λh=>Prt.le h0 h
def Lg(cb:Nat)(X:Cx)(ofb hasb:Nat)(bkv:Value)(no nh:Nat)(fo fh:Nat->Option Value)(bl:List Value)(h0:Prt.Hp):List As:=
 [ax cb (SE X ofb hasb bkv),mapA 3 3 X.I3 X.nt (cY X.wi),lP 3 ofb no (iH fo),lP 3 hasb nh (iH fh),Prt.row 107 1 bkv bl.length bl,Pt h0]
structure CkI(X:Cx)(c:Nat)(s:Ck)(bk:List (Option Tr))(no nh:Nat)(fo fh:Nat->Option Value)(bl:List Value)(h0:Prt.Hp):Prop where
 no:no<=c
 nh:nh<=c
 fo:∀n,(s.of n=none->fo n=none)/\∀t,s.of n=some t->∃p,fo n=some p/\rep h0 t p
 fh:∀n t,s.has n=some t->∃p,fh n=some p/\rep h0 t p
 len:bl.length=bk.length
 bl:∀i(h:i<bk.length)(h2:i<bl.length),match bk[i]with
  |none=>bl[i]=.pointer none
  |some t=>rep h0 t bl[i]/\eu t
 uH:bk.length<=c
 oN:FineS s
 wi:WG X.wi
def uK(cb:Nat)(X:Cx)(c:Nat)(s:Ck)(bk:List (Option Tr)):As:=λh=>∃ofb hasb bkv no nh fo fh bl h0,CkI X c s bk no nh fo fh bl h0/\aq (Lg cb X ofb hasb bkv no nh fo fh bl h0) h
section
variable {wB w:World} {Fr:As} {cb:Nat} {X:Cx} {c:Nat} {s:Ck} {bk:List (Option Tr)}
theorem Prt.Sat.nV(h:Sat wB w [Fr,uK cb X c s bk]):∃ofb hasb bkv no nh fo fh bl h0,CkI X c s bk no nh fo fh bl h0/\Sat wB w (Fr::Lg cb X ofb hasb bkv no nh fo fh bl h0):=by
 obtain⟨⟨ofb,hasb,bkv,no,nh,fo,fh,bl,h0⟩,h1⟩:=(h.cQ (i:=1) rfl (Q:=cn λ(q:Nat×Nat×Value×Nat×Nat×(Nat->Option Value)×(Nat->Option Value)×List Value×Prt.Hp)=>aq [bU (CkI X c s bk q.2.2.2.1 q.2.2.2.2.1 q.2.2.2.2.2.1 q.2.2.2.2.2.2.1 q.2.2.2.2.2.2.2.1 q.2.2.2.2.2.2.2.2),aq (Lg cb X q.1 q.2.1 q.2.2.1 q.2.2.2.1 q.2.2.2.2.1 q.2.2.2.2.2.1 q.2.2.2.2.2.2.1 q.2.2.2.2.2.2.2.1 q.2.2.2.2.2.2.2.2)]) λa ha=>by
  obtain⟨ofb,hasb,bkv,no,nh,fo,fh,bl,h0,g1,g2⟩:=ha;exact⟨(ofb,hasb,bkv,no,nh,fo,fh,bl,h0),λ_=>none,a,λ_=>.inl rfl,λ_ _ e=>(by cases e),Prt.le_refl _,g1,a,λ_=>none,λ_=>.inr rfl,Prt.le_refl _,λ_ _ e=>(by cases e),g2,trivial⟩).ex (i:=1) rfl
 have h2:=h1.unpack 1 rfl;have hi:=h2.get (i:=1) rfl λ_ ha _=>ha
 exact⟨ofb,hasb,bkv,no,nh,fo,fh,bl,h0,hi,(h2.pick [0,2]).unpack 1 rfl⟩
theorem Prt.Sat.mr{ofb hasb:Nat}{bkv:Value}{no nh:Nat}{fo fh:Nat->Option Value}{bl:List Value}{h0:Prt.Hp}(hi:CkI X c s bk no nh fo fh bl h0)(h:Sat wB w (Fr::Lg cb X ofb hasb bkv no nh fo fh bl h0)):Sat wB w [Fr,uK cb X c s bk]:=
 (Sat.pack (L:=[Fr]) h).cQ (i:=1) rfl λ_ ha=>⟨ofb,hasb,bkv,no,nh,fo,fh,bl,h0,hi,ha⟩
theorem CkI.mono{no nh:Nat}{fo fh:Nat->Option Value}{bl:List Value}{h0:Prt.Hp}(h:CkI X c s bk no nh fo fh bl h0){d:Nat}(hd:c<=d):CkI X d s bk no nh fo fh bl h0:={h with no:=nT h.no hd,nh:=nT h.nh hd,uH:=nT h.uH hd}
theorem Prt.Sat.v_(h:Sat wB w [Fr,uK cb X c s bk]){d:Nat}(hd:c<=d):Sat wB w [Fr,uK cb X d s bk]:=by
 obtain⟨ofb,hasb,bkv,no,nh,fo,fh,bl,h0,hi,h2⟩:=h.nV;exact h2.mr (hi.mono hd)
theorem Prt.Sat.UG{ofb hasb:Nat}{bkv:Value}{no nh:Nat}{fo fh:Nat->Option Value}{bl:List Value}{h0:Prt.Hp}(hi:CkI X c s bk no nh fo fh bl h0)(h:Sat wB w (Fr::Lg cb X ofb hasb bkv no nh fo fh bl h0)):CkW w cb X ofb hasb s h0:=by
 obtain⟨D1,g1,g2⟩:=h.oY 2 rfl;obtain⟨D2,k1,k2⟩:=h.iC 3 rfl;obtain⟨D3,l1,l2⟩:=h.iC 4 rfl;exact⟨h.lt 1,h.get (i:=6) rfl λa ha hl=>Prt.le_trans ha hl,h.cell 1 0,h.cell 1 1,h.cell 1 3,h.cell 1 5,h.cell 1 6,⟨_,D1,g1,g2⟩,⟨_,D2,fo,k1,k2,λn t e=>(hi.fo n).2 t e⟩,⟨_,D3,fh,l1,l2,hi.fh⟩,hi.oN,hi.wi⟩
theorem Prt.Sat.agJ{ofb hasb:Nat}{bkv:Value}{no nh:Nat}{fo fh:Nat->Option Value}{bl:List Value}{h0:Prt.Hp}(hi:CkI X c s bk no nh fo fh bl h0)(hc:c<=1000000)(h:Sat wB w (Fr::Lg cb X ofb hasb bkv no nh fo fh bl h0)):adl w cb bk h0:=
 ⟨bkv,bl,h.cell 1 7,h.row 5,hi.len,nT hi.uH hc,hi.bl⟩
end
theorem Prt.Sat.Jf{w0 w:World}{L:List As}{h0:Prt.Hp}{t:Tr}{p:Value}(h:Sat w0 w (L++[Pt h0,iq h0 t p])):∃h1,Prt.le h0 h1/\rep h1 t p/\Sat w0 w (L++[Pt h1]):=by
 obtain⟨a,b,d1,d2,d3,d4,d5⟩:=jQ h.mem;obtain⟨x,y,_,hx,hy,g1,z,u,_,hz,_,g2,_⟩:=d5;refine⟨b,Prt.le_trans g1 hx,g2 b (Prt.le_trans g1 hx) (Prt.le_trans hz hy),h.os,h.tape,h.output,?_⟩;exact eH d4 (b:=b) ⟨b,λ_=>none,λ_=>.inr rfl,Prt.le_refl _,λ_ _ e=>(by cases e),Prt.le_refl _,trivial⟩ d1 d2 d3
section
variable {X:Cx} {c:Nat} {s:Ck} {bk:List (Option Tr)} {no nh:Nat} {fo fh:Nat->Option Value} {bl:List Value} {h0 h1:Prt.Hp}
theorem CkI.up(h:CkI X c s bk no nh fo fh bl h0)(hl:Prt.le h0 h1):CkI X c s bk no nh fo fh bl h1:=
 ⟨h.no,h.nh,λn=>⟨(h.fo n).1,λt e=>by obtain⟨p,a,b⟩:=(h.fo n).2 t e;exact⟨p,a,dp hl _ _ b⟩⟩,λn t e=>by obtain⟨p,a,b⟩:=h.fh n t e;exact⟨p,a,dp hl _ _ b⟩,h.len,λi hi h2=>by
  have:=h.bl i hi h2;revert this;cases bk[i]with
  |none=>exact λh=>h
  |some t=>exact λh=>⟨dp hl _ _ h.1,h.2⟩,h.uH,h.oN,h.wi⟩
theorem CkI.A6(h:CkI X c s bk no nh fo fh bl h0)(n:Nat){t:Tr}{p:Value}(hr:rep h0 t p)(hf:Fine t/\dK t<=400000):CkI X (c+1) {s with has:=iO s.has n t} bk no (nh+1) fo (λk=>if k=n then some p else fh k) bl h0:=
 ⟨Nat.le_succ_of_le h.no,Nat.succ_le_succ h.nh,h.fo,λm u e=>by
  simp only[iO]at e;by_cases hm:m=n
  ·rw[if_pos hm]at e;cases e;exact⟨p,by rw[if_pos hm],hr⟩
  ·rw[if_neg hm]at e;obtain⟨q,a,b⟩:=h.fh m u e;exact⟨q,by rw[if_neg hm];exact a,b⟩,h.len,h.bl,Nat.le_succ_of_le h.uH,h.oN.zZ n hf,h.wi⟩
theorem CkI.Xv(h:CkI X c s bk no nh fo fh bl h0)(n:Nat){t:Tr}{p:Value}(hr:rep h0 t p)(hf:Fine t/\dK t<=300):CkI X (c+1) {s with of:=iO s.of n t} bk (no+1) nh (λk=>if k=n then some p else fo k) fh bl h0:=
 ⟨Nat.succ_le_succ h.no,Nat.le_succ_of_le h.nh,λm=>by
  simp only[iO];by_cases hm:m=n
  ·rw[if_pos hm,if_pos hm];exact⟨λe=>(by cases e),λu e=>by cases e;exact⟨p,rfl,hr⟩⟩
  ·rw[if_neg hm,if_neg hm];exact h.fo m,h.fh,h.len,h.bl,Nat.le_succ_of_le h.uH,h.oN.setOf n hf,h.wi⟩
end
section
variable {wB w:World} {cb:Nat} {X:Cx} {c:Nat} {s:Ck} {pg:Ty.Pg} {bk:List (Option Tr)} {Fr:As}
theorem PJ(hP:PB wB X.nv X.tv pg)(hF:ju wB Fr){id:Nat}{nd:Nd}(hn:pg.ns[id]?=some nd)(hk:nd.kind=17)(H:Sat wB w [Fr,uK cb X c s bk])(hc:c+1<=100000)(hI:NdW pg nd)(hi:id<=100000)(eR:wV pg X.kv bk id nd s≠.error Ty.stuck){R:EW}
  (aD:∀s' w',wV pg X.kv bk id nd s=.ok s'->Sat wB w' [Fr,uK cb X (c+1) s' bk]->R (.returned (.tuple #[])) w') (au:∀f w',wV pg X.kv bk id nd s=.error f->Sat wB w' [Fr]->R (.panicked (aO f)) w'):
  Calls prog 162 #[.pointer (some ⟨cb,0,none⟩),.int .i64 (id:Nat)] w R:=by
 obtain⟨ofb,hasb,bkv,no,nh,fo,fh,bl,h0,uB,g1⟩:=H.nV;have hW:=g1.UG uB;obtain⟨eB,hex⟩:=Ix eR;have sB:oe nd=[nd.a]:=by unfold oe;simp[hk]
 rw[sB]at eB
 have Ig:=cO eB (n:=nd.a) (by simp);rw[hex]at aD au
 unfold AZ at aD au;simp only[hk,if_true]at aD au;generalize Vl: (l7 pg.ts nd.ty).getD (tO s.of nd.a)=tv at aD au;have HX:=qh (And.intro aD au);have ae2:=qh Vl;have ab8:=qh (hW.oN.of _ _ Ig);have PH:=Gr id hi;have agw:nh<maxLen:=by have:=uB.nh;unfold maxLen;omega
 have g2:=(g1.ar (.cells #[.pointer (some ⟨cb,0,none⟩)] 99) w.heap.size).ar (.cells #[.int .i64 (id:Nat)] 3) (w.heap.size+1) (by simp);have Ee:=qh (λR=>fE (R:=R) hP (hF _ _ 0 g2 rfl) hn (g2.cell 1 0) (g2.lt 1));have agT:=kT hk 17;clear aD au hk H eR eB hex sB g1 hW hi;go_in;go_wp2_with fail;refine Ee.o _ (λlv w2 aW hl=>?_);obtain⟨la,lc,rfl⟩:=ag hl;unfold aH;have g3:=(g2.below aW).ar (cz nd (.slice la nd.list.length lc)) w2.heap.size;have y2:=g3.cell 7 0;have x0:=g3.cell 9 0;have x1:=g3.cell 9 1;have x7:=g3.cell 9 7;go_wp2_with fail;refine mT hP (hF _ _ 0 g3 rfl) (g3.cell 1 1) (g3.lt 1) hI.ty (λv w3 h3=>?_);have g4:=g3.join h3;have H4:=qh g4;clear h3 g4 x0 x1 x7 y2;rcases FM:l7 pg.ts nd.ty with _|tw
 focus
  rw[FM]at H4 Vl
  obtain rfl:tO s.of nd.a=tv:=Vl;have hv:v=.pointer none:=H4.o.get (i:=10) rfl λ_ ha _=>ha
  subst hv;have acy:=(H4.o.pick [0,1,2,3,4,5,6]).UG uB;obtain⟨p6,cm,aaw⟩:=acy.drew.aaM hI.a Ig;obtain⟨b6,rfl⟩:=cK aaw;have hS:=And.intro (H4.o.cell 7 0) (And.intro (H4.o.cell 1 5) (H4.o.cell 9 1));have H5:=qh (((H4.o.drew.pick [0,1,2,3,4,5,7,8,9,6]).jR (P:=iq h0 (tO s.of nd.a) (.pointer (some ⟨b6,0,none⟩))) λa h hl _=>dp hl _ _ aaw));have Bk:=qh (show Fine (tO s.of nd.a)/\dK (tO s.of nd.a)<=400000 from⟨ab8.o.1,nT ab8.o.2 (by omega)⟩);clear aaw acy FM;go_wp2_with fail;go_region_held3(λw'=>w'.cell? ⟨w.heap.size,0,none⟩=some (.pointer (some ⟨cb,0,none⟩))/\w'.cell? ⟨cb,5,none⟩=some (.map (some ofb))/\w'.cell? ⟨w2.heap.size,1,none⟩=some (.int .i64 (nd.a:Nat))) (exact hS) (fail)
 rotate_right;rw[FM]at H4 Vl
 obtain rfl:tw=tv:=Vl;have adA:rep (Prt.hp w3) tw v:=H4.o.get (i:=10) rfl λ_ ha hl=>dp hl _ _ ha
 obtain⟨b6,rfl⟩:=cK adA;have ZZ:=rj hP.ok hI.ty FM;have H5:=qh ((H4.o.pick [0,1,2,3,4,5,7,8,9,6,10]).cQ (i:=10) rfl (Q:=iq h0 tw (.pointer (some ⟨b6,0,none⟩))) λ_ ha _ _ lR=>dp lR _ _ ha);have Bk:=qh (show Fine tw/\dK tw<=400000 from⟨ZZ.1,nT ZZ.2 (by omega)⟩);clear adA ZZ FM;all_goals
  obtain⟨h1,hle,sC,g5⟩:=Sat.Jf (L:=[Fr,ax cb (SE X ofb hasb bkv),mapA 3 3 X.I3 X.nt (cY X.wi),lP 3 ofb no (iH fo),lP 3 hasb nh (iH fh),Prt.row 107 1 bkv bl.length bl,ax w.heap.size (.cells #[.pointer (some ⟨cb,0,none⟩)] 99 (0,0)),ax (w.heap.size+1) (.cells #[.int .i64 (id:Nat)] 3 (0,0)),ax w2.heap.size (cz nd (.slice la nd.list.length lc))]) H5.o;have g6:=g5.pick [0,1,2,3,4,5,9,6,7,8];have aaQ:=uB.up hle;have abS:=(g6.pick [0,1,2,3,4,5,6]).UG aaQ;have x1:=g6.cell 9 1;have rh:=qh (λR=>lf (R:=R) ⟨hP,hF _ _ 0 g6 rfl,abS⟩ hn Ig hI.a sC Bk.o.1.ok (b2:=w.heap.size) (b3:=w.heap.size+1) (g6.cell 7 0) (g6.cell 8 0));have H6:=qh g6;have afc:=qh aaQ;have Pk:=qh sC;clear g6 aaQ abS hle sC g5 H5;go_wp2_with fail;refine rh.o _ (λhf w5 od=>?_) (λhf w5 od=>⟨rfl,HX.o.2 _ w5 (by rw[sj hf];rfl) ((H6.o.below od).pick [0])⟩);have g7:=H6.o.below od;obtain⟨D,hD,qx⟩:=g7.drew.iC 4 rfl;obtain⟨w6,yX,gg,dZ⟩:=hD.update dR underlying103 agw (Maps.keyOf_int_mk underlying3 PH) (val:=.pointer (some ⟨b6,0,none⟩)) (d:=.held (.pointer (some ⟨b6,0,none⟩))) (ps:=[]) rfl;have g8:=g7.drew.mz 4 rfl dZ gg (Ψ:=iH (λk=>if k=id then some (.pointer (some ⟨b6,0,none⟩))else fh k)) (mx qx id _);have KI:=And.intro (g7.cell 7 0) (And.intro (g7.cell 8 0) (g7.cell 1 6));have D8:=And.intro (g8.cell 7 0) (And.intro (g8.cell 8 0) (g8.cell 1 6));have Z9:=qh (HX.o.1 _ w6 (by rw[rH hf,<-ae2.o];rfl) ((g8.pick [0,1,2,3,4,5,6]).mr (afc.o.A6 id Pk.o Bk.o)));clear od g7 g8 hD qx gg dZ;go_wp2_with fail;go_region_held3(λw'=>w'.cell? ⟨w.heap.size,0,none⟩=some (.pointer (some ⟨cb,0,none⟩))/\w'.cell? ⟨w.heap.size+1,0,none⟩=some (.int .i64 (id:Nat))/\w'.cell? ⟨cb,6,none⟩=some (.map (some hasb))) (first|exact KI|exact D8) (fail)
  all_goals
   go_wp2_with fail;go_end0;exact Z9.o
end
end
end Go.Proofs.YtdlbhiaceheffabGreatDoor
