/- Walk of check: the type of a function. -/
import Derived.Test.YtdlbhiaceheffabGreatDoorE23
set_option linter.all false
set_option maxRecDepth 100000
set_option maxHeartbeats 8000000
namespace Go.Proofs.YtdlbhiaceheffabGreatDoor
open Go Go.RowKit Ty Tok Prt Tryz Proofs.Tryz
section
open Ty (Tr Ck)
theorem D4{pg:Ty.Pg}{n:Nat}{q:Nd}(h:pg.ns[n]?=some q):cV pg.ns n=q:=by unfold cV;rw[h];rfl
section
variable {wB w:World} {cb:Nat} {nv tv:Value} {pg:Ty.Pg}
theorem wH(hP:PB wB nv tv pg)(hb:Below wB.heap.size wB w)(c0:w.cell? ⟨cb,0,none⟩=some nv)(c1:w.cell? ⟨cb,1,none⟩=some tv)(gh:cb<w.heap.size){nd:Nd}{lv:Value}(hl:wB.ownsRow 0 3 1 lv nd.list.length (nd.list.map aO))
  (kM:∀i(h:i<nd.list.length),∃q,pg.ns[nd.list[i]]?=some q) (hz:zz nd.ty pg.ts) (BZ:nd.list.length<=1200) {R:EW} (hR:∀p w',Sat w w' [bG w,qH p (GH pg nd)]->R (.returned p) w'):
  Calls prog 156 #[.pointer (some ⟨cb,0,none⟩),aG nd lv] w R:=by
 have HR:=qh hR;obtain⟨la,lc,rfl⟩:=ag hl;have HL:=qh (λ(w1:World)(h:Below w.heap.size w w1)=>ay hl (hb.trans (h.mono hb.size)));have dO:=qh (λ(w1:World)(h:Below w.heap.size w w1)(i:Nat)(hi:i<nd.list.length)=>(show∃q:Nd,(za (dZ pg.ts (cV pg.ns nd.list[i]).ty))=za (dZ pg.ts q.ty)/\(∀R:EW,(∀lv w',Below w1.heap.size w1 w'->R (.returned (.agg #[.int .i64 q.kind,.int .i64 q.a,.int .i64 q.b,.int .i64 q.c,lv,.string q.text,.int .i64 q.n,.int .i64 q.ty,.int .i64 q.pos])) w')->Calls prog 152 #[.pointer (some ⟨cb,0,none⟩),.int .i64 (nd.list[i]:Nat)] w1 R)/\zz q.ty pg.ts by
  obtain⟨q,hq⟩:=kM i hi;exact⟨q,by rw[D4 hq],λR hR=>aQ hP (hb.trans (h.mono hb.size)) hq (ak h c0) (nL gh h.size) λlv w' ff _=>hR lv w' ff,(hP.ok.ns q (List.mem_of_getElem? hq)).ty⟩))
 have HW:=qh (λ(w1:World)(h:Below w.heap.size w w1)(z:Int)(hz:zz z pg.ts)(R:EW) hR=>gT (R:=R) hP (hb.trans (h.mono hb.size)) (ak h c1) (nL gh h.size) hz hR);have HZ:=qh hz;have f7:=uh;obtain⟨j0,tj,vI,vJ,vH⟩:=info_parts pn;have h1:=((Sat.fO w).aj (az nd (.slice la nd.list.length lc)) w.heap.size).aj (.cells #[.int .i64 (9:Nat),.slice none 0 0,.slice none 0 0,.pointer none] 219) (w.heap.size+1) (by simp);have h2:=(h1.nil 107 1).iA (P:=fs [] []) (λ_=>by show bz _ [] [];rw[bz]);have x4:=h2.cell 1 rfl 4 rfl;have H2:=qh h2;clear hR hl kM hz h1 h2 hP hb c0 c1;unfold aG;go_in;go_wp2_with fail;refine bU _ 9 ?_;go_wp2_with fail;go_loopw [12] (λi wr=>∃(j:Nat)(qv:Value)(qs:List Value),i=.int .i64 j/\j<=nd.list.length/\qs.length<=j/\j<=qs.length/\Hq (Sat w wr [bG w,av w.heap.size (az nd (.slice la nd.list.length lc)),av (w.heap.size+1) (.cells #[.int .i64 (9:Nat),.slice none 0 0,qv,.pointer none] 219 (0,0)),Prt.row 107 1 qv qs.length qs,fs qs ((nd.list.take j).map λp=>za (dZ pg.ts (cV pg.ns p).ty))]))
  (λi _=>nd.list.length-(intOf i).toNat)
 case atStart=>exact⟨0,.slice none 0 0,[],rfl,by omega,by simp,by simp,H2.o⟩
 case round=>
  obtain⟨j,qv,qs,rfl,hj,abn,sX,hS⟩:=hrel;obtain⟨qa,qc,rfl⟩:=ag (hS.out.row 3 rfl);by_cases a_:j<nd.list.length
  ·have hb:=hS.out.bD;obtain⟨gl,jB,e,ku,d0⟩:=ints_at (HL.o wr hb) j a_;cases e;have HT:=qh (List.take_succ_eq_append_getElem a_);obtain⟨q,Yw,z_,Y7⟩:=dO.o wr.drew hb.drew j a_;have EB:=qh z_;have Z9:=qh Yw;have QK:=qh Y7;generalize nd.list[j]=ix at*
   have x1:=hS.out.cell 2 rfl 2 rfl;have H0:=qh hS.out.drew;clear hb hS Yw z_ Y7;go_wp2_with fail;go_region_law(first|(go_simp;go_at_call 152;refine EB.o _ (λqx w2 aD=>?_);have h3:=H0.o.below aD;have x2:=h3.cell 2 rfl 2 rfl;have H3:=qh h3;clear h3 aD)|(go_simp;go_at_call 154;refine HW.o _ H3.o.bD _ QK.o _ (λv3 w3 h4=>?_);have h5:=H3.o.join h4;have x3:=h5.cell 2 rfl 2 rfl;have H5:=qh h5;clear h4 h5)|(go_simp;go_at_call 153;refine uS (H5.o.at 5 rfl) (λp4 w4 h6=>?_);obtain⟨oX,rfl,_⟩:=fI (h6.tree 1 rfl);have h7:=(h6.unpack (i:=0) rfl).pick [1,2,3,4,5,0];have ack:=h7.cell 2 rfl 2 rfl;have Yx:=h7.aW (.cells #[.pointer (some ⟨oX,0,none⟩)] 107);have x5:=Yx.cell 2 rfl 2 rfl;have H7:=qh h7;clear h6 h7 Yx)|(go_loud(refine step_append_lies _ (by rfl) _ _ _ (by rfl) 0 107 j0 _ 1 8 underlying104 tj vI vJ vH rfl (by omega) (.slice qa qs.length qc) qs.length qs (by rfl) ((H7.o.row 3 rfl).alloc _) ⟨w4.heap.size,0,none⟩ 1 1 [.pointer (some ⟨oX,0,none⟩)] (by rfl) (by rfl) (World.news_of_block (cs:=#[.pointer (some ⟨oX,0,none⟩)]) (t:=107) (fr:=(0,0)) (aR _ _ _ (by simp))) (by simp[Value.oneCell']) (by omega) (by unfold maxLen;omega) (by omega) (by simp) (w4.heap.size+1) (by simp) ?_);intro g4 iq w5 dE cO jY vy;have h8:=Sat.grow (H7.o.aW _) 3 rfl cO dE (by simpa using jY);have x6:=h8.cell 2 rfl 2 rfl;have f6:=h8.free 2 rfl 2;have H8:=qh h8;clear h8))
   all_goals
    clear dE cO;have h5:=H8.o.store 2 rfl 2 (.slice (some ⟨g4,0,none⟩) (qs.length+1) iq);have h6:=h5.cL (i:=3) rfl (Q:=Prt.row 107 1 (.slice (some ⟨g4,0,none⟩) (qs.length+1) iq) (qs++[Value.pointer (some ⟨oX,0,none⟩)]).length (qs++[Value.pointer (some ⟨oX,0,none⟩)])) (λ_ h=>ja h);have h7:=Sat.pack (L:=[_,_,_,_]) (M:=[_,_]) h6;have h8:=h7.cL (i:=4) rfl (Q:=fs (qs++[Value.pointer (some ⟨oX,0,none⟩)]) ((nd.list.take (j+1)).map λp=>za (dZ pg.ts (cV pg.ns p).ty))) (λ_ h=>by rw[HT.o,List.map_append,List.map_cons,List.map_nil,Z9.o];exact mY h);have H9:=qh h8;clear h5 h6 h7 h8;go_wp2_with fail;go_roundw
    case rel=>exact⟨j+1,.slice (some ⟨g4,0,none⟩) (qs.length+1) iq,qs++[Value.pointer (some ⟨oX,0,none⟩)],by go_num,by omega,by simp;omega,by simp;omega,H9.o⟩
    case measure=>simp[intOf];omega
  ·have qI:j=nd.list.length:=by omega
   have h2:=hS.out;rw[qI,List.take_length]at h2
   have H2:=qh h2;have x7:=h2.cell 1 rfl 7 rfl;clear h2 qI hS;go_wp2_with fail;refine HW.o _ H2.o.bD _ HZ.o _ (λv3 w3 h4=>?_);have H5:=qh (H2.o.join h4);clear h4;go_wp2_with fail;refine uS (H5.o.at 5 rfl) (λp4 w4 h6=>?_);obtain⟨oX,rfl,_⟩:=fI (h6.tree 1 rfl);have h7:=(h6.unpack (i:=0) rfl).pick [1,3,4,5,0];have f4:=h7.free 1 rfl 3;have z4:=h7.cell 1 rfl 3 rfl;have H7:=qh h7;clear h6 h7;go_wp2_with fail;have h8:=(H7.o.store 1 rfl 3 (.pointer (some ⟨oX,0,none⟩))).cL (i:=4) rfl (Q:=fs [Value.pointer (some ⟨oX,0,none⟩)] [za (dZ pg.ts nd.ty)]) (λ_ h=>by show bz _ [_] [_];rw[bz];exact⟨_,[],rfl,h,by rw[bz]⟩);have h9:=((h8.nil 221 2).iA (P:=fs [] []) (λ_=>by show bz _ [] [];rw[bz])).pick [0,1,5,6,2,3,4];have dG:=Sat.pack (L:=[_]) (M:=[_,_,_,_,_,_]) h9;refine HR.o _ _ (dG.cL (i:=1) rfl λ_ h=>?_);exact yH (names:=[]) (ps:=[]) rfl (.inr rfl) h
end
structure NdW(pg:Ty.Pg)(nd:Nd):Prop where
 a:nd.a<=100000
 b:nd.b<=100000
 l:∀n∈nd.list,n<=100000
 ps:∀i(h:i<nd.list.length),∃q,pg.ns[nd.list[i]]?=some q
 pa:∀n∈nd.list,∀q,pg.ns[n]?=some q->q.a<=100000
 len:nd.list.length<=1200
 ty:zz nd.ty pg.ts
theorem fX{pg:Ty.Pg}{tf:Nat->Nat}{s:Ck}{n:Nat}{x:Nd}(h:fD pg tf s n x≠.error Ty.stuck):fB s.of (c8 pg x)=true/\fD pg tf s n x=lQ pg tf s n x:=by
 by_cases hk:fB s.of (c8 pg x)=true
 ·exact⟨hk,by unfold fD;rw[if_pos hk]⟩
 ·unfold fD at h;rw[if_neg hk]at h
  exact absurd rfl h
theorem kQ{w w3 w':World}{P:As}(hB:Below w.heap.size w w3)(h:Sat w3 w' [bG w3,P]):Sat w w' [bG w,P]:=((Sat.fO w).below hB).join h
theorem zn(m:Nat)(h:m<=100000): (Lit.int .i64 (m:Nat)).wf=true:=WalkArith.wf_i64 (by omega)
theorem Xq(W:World):∃w5 w6 w7 w8:World,(Instr.mapUpdate 102 (.map (some W.heap.size)) (.int .i64 1) (.int .i64 1)).run prog (W.alloc (.map #[] 0))=.ok () w5/\(Instr.mapUpdate 102 (.map (some W.heap.size)) (.int .i64 2) (.int .i64 3)).run prog w5=.ok () w6/\
  (Instr.mapUpdate 102 (.map (some W.heap.size)) (.int .i64 3) (.int .i64 2)).run prog w6=.ok () w7/\(Instr.mapUpdate 102 (.map (some W.heap.size)) (.int .i64 4) (.int .i64 4)).run prog w7=.ok () w8/\Below W.heap.size W w8/\
  ∃n D,w8.ownsMap prog 3 (plainElem (H:=Unit) prog 3) W.heap.size n D/\∀k c:Nat,(k,c)∈[(1,1),(2,3),(3,2),(4,4)]->D.atKey (.int .i64 (k:Nat)) (.lit (.int .i64 0))=.lit (.int .i64 (c:Nat)):=by
 have h0:=World.ownsMap_made (H:=Unit) W prog 3 (plainElem prog 3);have hm:=underlying102;have hi:=underlying3;obtain⟨w5,r1,o1,g1⟩:=h0.update cy hm (by unfold maxLen;omega) (Maps.keyOf_int_mk hi (zn 1 (by omega))) (plainElem_int hi (zn 1 (by omega)));obtain⟨w6,r2,o2,g2⟩:=o1.update cy hm (by unfold maxLen;omega) (Maps.keyOf_int_mk hi (zn 2 (by omega))) (plainElem_int hi (zn 3 (by omega)));obtain⟨w7,r3,o3,g3⟩:=o2.update cy hm (by unfold maxLen;omega) (Maps.keyOf_int_mk hi (zn 3 (by omega))) (plainElem_int hi (zn 2 (by omega)));obtain⟨w8,r4,o4,g4⟩:=o3.update cy hm (by unfold maxLen;omega) (Maps.keyOf_int_mk hi (zn 4 (by omega))) (plainElem_int hi (zn 4 (by omega)));have uC:Below W.heap.size W (W.alloc (.map #[] 0)):=(bR _ _).alloc (nR _) _;have cQ:=uC.grown g1 uC.size (λj hj=>by cases hj;exact nR _);have aD:=cQ.grown g2 cQ.size (λj hj=>by cases hj;exact nR _);have dF:=aD.grown g3 aD.size (λj hj=>by cases hj;exact nR _);have vR:=dF.grown g4 dF.size (λj hj=>by cases hj;exact nR _);refine⟨w5,w6,w7,w8,r1,r2,r3,r4,vR,_,_,o4,λk c Hb=>?_⟩;have i0:Maps.IsMap (H:=Unit) (.map []):=Maps.isMap_empty;have kl:∀n:Nat,WideAt.IsKeyLit (Lit.int .i64 (n:Nat)):=λ_=>trivial
 simp only[List.mem_cons,Prod.mk.injEq,List.not_mem_nil,or_false]at Hb;rcases Hb with⟨rfl,rfl⟩|⟨rfl,rfl⟩|⟨rfl,rfl⟩|⟨rfl,rfl⟩
 ·rw[Maps.atKey_put_other (fM (by omega)),Maps.atKey_put_other (fM (by omega)),Maps.atKey_put_other (fM (by omega)),Maps.atKey_put_same i0 (kl 1)]
 ·rw[Maps.atKey_put_other (fM (by omega)),Maps.atKey_put_other (fM (by omega)),Maps.atKey_put_same (i0.put _ _) (kl 2)]
 ·rw[Maps.atKey_put_other (fM (by omega)),Maps.atKey_put_same ((i0.put _ _).put _ _) (kl 3)]
 ·rw[Maps.atKey_put_same (((i0.put _ _).put _ _).put _ _) (kl 4)]
theorem s_(W:World){mb:Nat}(ab0:mb=W.heap.size){nk k c:Nat}(Hb: (k,c)∈[(1,1),(2,3),(3,2),(4,4)])(hk:nk=k):∃w5 w6 w7 w8:World,(Instr.mapUpdate 102 (.map (some mb)) (.int .i64 1) (.int .i64 1)).run prog (W.alloc (.map #[] 0))=.ok () w5/\(Instr.mapUpdate 102 (.map (some mb)) (.int .i64 2) (.int .i64 3)).run prog w5=.ok () w6/\
  (Instr.mapUpdate 102 (.map (some mb)) (.int .i64 3) (.int .i64 2)).run prog w6=.ok () w7/\(Instr.mapUpdate 102 (.map (some mb)) (.int .i64 4) (.int .i64 4)).run prog w7=.ok () w8/\Below W.heap.size W w8/\
  (Instr.lookup 102 (.map (some mb)) (.int .i64 (nk:Nat)) false).run prog w8=.ok (.int .i64 (c:Nat)) w8:=by
 subst hk ab0;obtain⟨w5,w6,w7,w8,r1,r2,r3,r4,hb,n,D,ho,t_⟩:=Xq W;have hk:nk<=100000:=by simp only[List.mem_cons,Prod.mk.injEq,List.not_mem_nil,or_false]at Hb;omega
 obtain⟨c2,lx,ha,_⟩:=ho.lookup_int cy underlying102 underlying3 (ye w8) (Maps.keyOf_int_mk underlying3 (zn nk hk));rw[t_ nk c Hb]at ha
 simp only[DataW.lit.injEq,Lit.int.injEq,true_and]at ha;exact⟨w5,w6,w7,w8,r1,r2,r3,r4,hb,by rw[lx,<-ha]⟩
theorem Nt{h:Prt.Hp}{b:Nat}{p:Value}{t:Tr}(hb:h b=some (.cells #[.int .i64 (8:Nat),.slice none 0 0,.slice none 0 0,p] 219 (0,0)))(hr:rep h t p):rep h (.mk 8 [] [] [] [t]) (.pointer (some ⟨b,0,none⟩)):=by
 rw[rep];exact⟨b,_,_,_,[],[],[p],rfl,hb,⟨by simp[cJ],.inl ⟨rfl,rfl⟩⟩,rfl,by rw[bz],⟨by simp,.inl ⟨rfl,rfl⟩⟩,by rw[bz],by rw[bz];exact⟨p,[],rfl,hr,by rw[bz]⟩,.inr rfl⟩
theorem MG{h:Prt.Hp}{b:Nat}{pv:Value}{names:List BA}{ps:List Value}{types:List Tr}(hb:h b=some (.cells #[.int .i64 (7:Nat),pv,.slice none 0 0,.pointer none] 219 (0,0)))(hp:Prt.row 221 2 pv ps.length (cJ names ps) h)(hn:names.length=ps.length)(hr:bz h types ps):rep h (.mk 7 names types [] []) (.pointer (some ⟨b,0,none⟩)):=by
 rw[rep];exact⟨b,_,_,_,ps,[],[],rfl,hb,hp,hn,hr,⟨by simp,.inl ⟨rfl,rfl⟩⟩,by rw[bz],by rw[bz],.inl ⟨rfl,rfl⟩⟩
theorem iJ{w0 w w':World}{h0:Prt.Hp}{t:Tr}{p:Value}(hle:Prt.le h0 (Prt.hp w0))(hb:Below w0.heap.size w0 w)(h:Sat w w' [bG w,db h0 t p]):rep (Prt.hp w') t p:=
 h.get (i:=1) rfl λ_ ha hl=>ha _ (nC hle (hb.trans (h.bD.mono hb.size))) hl
section
variable {wB w:World} {cb ofb hasb:Nat} {X:Cx} {s:Ck} {h0:Prt.Hp} {pg:Ty.Pg}
theorem LU(hP:PB wB X.nv X.tv pg)(hb:Below wB.heap.size wB w){id:Nat}{nd:Nd}(hn:pg.ns[id]?=some nd)(hk:nd.kind=11)(hW:CkW w cb X ofb hasb s h0)(hI:NdW pg nd)(bT:fD pg X.aK s id nd≠.error Ty.stuck){R:EW}
  (aH:∀t q w',fD pg X.aK s id nd=.ok t->Sat w w' [bG w,db h0 t q]->R (.returned q) w'):
  Calls prog 159 #[.pointer (some ⟨cb,0,none⟩),.int .i64 (id:Nat)] w R:=by
 have dO:=qh (λR=>aQ (R:=R) hP hb hn hW.c0 hW.lt);have HW:=qh hW;have gh:=hW.lt;obtain⟨ct,hex⟩:=fX bT;have hx:fD pg X.aK s id nd=.ok (.mk 8 [] [] [] [oU (nd.list.map (tO s.of))]):=by rw[hex];unfold lQ;simp only[hk];rfl
 have kI:c8 pg nd=nd.list:=by unfold c8;simp[hk]
 rw[kI]at ct
 have aX:=qh (λq w'=>aH _ q w' hx);have Pu:Hq (∀j(h:j<nd.list.length),s.of nd.list[j]=some (tO s.of nd.list[j])/\nd.list[j]<=100000):=λj h=>⟨cn ct (gM h),hI.l _ (gM h)⟩
 have hm:∀t∈nd.list.map (tO s.of),Fine t/\dS t<=300:=λt ht=>by
  obtain⟨p,hp,rfl⟩:=List.mem_map.1 ht;exact hW.fG.of _ _ (cn ct hp)
 have HM:=qh hm;have BZ:=hI.len;have du:=qh (λlv(hl:wB.ownsRow 0 3 1 lv nd.list.length (nd.list.map aO)) w1(h:Below w.heap.size w w1)=>ay hl (hb.trans (h.mono hb.size)));obtain⟨j0,tj,vI,vJ,vH⟩:=info_parts pn;have e1: (((nd.kind:Nat):Int)==1)=false:=by rw[hk];rfl
 have e2: (((nd.kind:Nat):Int)==2)=false:=by rw[hk];rfl
 have e3: (((nd.kind:Nat):Int)==3)=false:=by rw[hk];rfl
 have e4: (((nd.kind:Nat):Int)==4)=false:=by rw[hk];rfl
 have e5: (((nd.kind:Nat):Int)==5)=false:=by rw[hk];rfl
 have e6: (((nd.kind:Nat):Int)==6)=false:=by rw[hk];rfl
 have e7: (((nd.kind:Nat):Int)==7)=false:=by rw[hk];rfl
 have e8: (((nd.kind:Nat):Int)==8)=false:=by rw[hk];rfl
 have e9: (((nd.kind:Nat):Int)==9)=false:=by rw[hk];rfl
 have LN: (((nd.kind:Nat):Int)==11)=true:=by rw[hk];rfl
 clear aH hP hb hn hW bT ct hex hI hk hm hx kI;go_in;go_wp2_with fail;refine dO.o _ (λlv w2 aD hl=>?_);have HL:=qh (du.o lv hl);obtain⟨la,lc,rfl⟩:=ag hl;unfold aG;have dL:Below w.heap.size w (w2.alloc (az nd (.slice la nd.list.length lc))):=aD.alloc aD.size _;have h3:=((Sat.fO w).below aD).aj (az nd (.slice la nd.list.length lc)) w2.heap.size;have x0:=h3.cell 1 rfl 0 rfl;have x4:=h3.cell 1 rfl 4 rfl;have cU:=qh dL;have H1:=qh (((Sat.fO w).below dL).nil 107 1);clear h3 aD hl dL;go_wp2_with fail;go_loopw [6,89] (λv i wr=>∃(j:Nat)(qs:List Value),i=.int .i64 j/\j<=nd.list.length/\Hq (Sat w wr [bG w,Prt.row 107 1 v qs.length qs])/\Hq (bz h0 ((nd.list.take j).map (tO s.of)) qs)) (λ_ i _=>nd.list.length-(intOf i).toNat)
 case atStart=>exact⟨0,[],rfl,Nat.zero_le _,H1.o,by show bz _ [] [];rw[bz]⟩
 case round=>
  obtain⟨j,qs,rfl,hj,hS,hQ⟩:=hrel;obtain⟨qa,qc,rfl⟩:=ag (hS.out.row 1 rfl);by_cases a_:j<nd.list.length
  ·have si:=hS.out.bD;obtain⟨gl,jB,e,ku,d0⟩:=ints_at (HL.o wr si) j a_;cases e;obtain⟨wF,k_⟩:=Pu.o j a_;obtain⟨pj,bu,CJ⟩:=HW.o.fW k_ wF;obtain⟨bj,rfl⟩:=aS CJ;have pM:=bu wr si;have c5:=ak si HW.o.c5;have Zo:=nL gh si.size;have HT:=qh (List.take_succ_eq_append_getElem a_);have Od:=cd hQ.out;have acd:qs.length+1<=1000000:=by rw[<-Od];simp;omega
   have WM:=qh CJ;generalize nd.list[j]=nj at*
   clear wF k_ bu CJ si Od;go_wp2_with(at_builtin;go_loud(refine wpList_append_lies _ rfl (.tmp 93) (.tmp 100) 104 rfl 0 107 j0 _ 1 8 underlying104 tj vI vJ vH rfl (by decide) _ _ qs (by rfl) ((hS.out.row 1 rfl).alloc _) ⟨wr.heap.size,0,none⟩ 1 1 [.pointer (some ⟨bj,0,none⟩)] (by rfl) (by rfl) (World.news_of_block (cs:=#[.pointer (some ⟨bj,0,none⟩)]) (t:=107) (fr:=(0,0)) (aR _ _ _ (by simp))) (by simp[Value.oneCell']) (by omega) (by unfold maxLen;omega) (by omega) (by simp) (wr.heap.size+1) (by simp) ?_));intro g4 iq w4 dE cO jY vy;have h8:=(Sat.grow (hS.out.aW _) 1 rfl cO dE (by simpa using jY)).pick [0,1];have h9:=h8.cL (i:=1) rfl (Q:=Prt.row 107 1 (.slice (some ⟨g4,0,none⟩) (qs.length+1) iq) (qs++[Value.pointer (some ⟨bj,0,none⟩)]).length (qs++[Value.pointer (some ⟨bj,0,none⟩)])) (λ_ h=>ja h);have H9:=qh h9;have Hr:Hq (bz h0 ((nd.list.take (j+1)).map (tO s.of)) (qs++[Value.pointer (some ⟨bj,0,none⟩)])):=by show bz _ _ _;rw[HT.o,List.map_append];exact lW hQ.out WM.o
   clear h8 h9 dE cO;go_wp2_with fail;go_roundw
   case rel=>exact⟨j+1,qs++[Value.pointer (some ⟨bj,0,none⟩)],by go_num,by omega,H9.o,Hr.o⟩
   case measure=>simp[intOf];omega
  ·have gO:j=nd.list.length:=by omega
   have hq:=hQ.out;rw[gO,List.take_length]at hq
   have oO:=nA λt ht=>(HM.o t ht).1
   have TQ:=lU λt ht=>(HM.o t ht).1
   have xP:=qg (m:=300) λt ht=>(HM.o t ht).2
   rw[List.length_map]at xP
   have HJ:=qh (λR=>G6 (R:=R) w wr HW.o.le hS.out.bD _ qs oO TQ (by omega) hq _ (hS.out.row 1 rfl));clear gO hq oO TQ xP;go_wp2_with fail;refine HJ.o _ (λp w5 h5=>?_);obtain⟨bp,rfl⟩:=aS (iJ HW.o.le hS.out.bD h5);have h6:=Sat.pack (L:=[bG w]) ((((Sat.fO w).below hS.out.bD).join h5).aj (.cells #[.int .i64 (8:Nat),.slice none 0 0,.slice none 0 0,.pointer (some ⟨bp,0,none⟩)] 219) _ rfl);have HG:=qh (aX.o _ _ (h6.cL (i:=1) rfl λa ha h yP mI=>by
    obtain⟨y,z,_,hy,hz,g1,u,v,_,hu,_,g2,_⟩:=ha;exact Nt (mI _ _ (Prt.le_trans hu hz _ _ g2)) (g1 h yP (Prt.le_trans hy mI))))
   clear h5 h6;go_wp2_with fail;exact HG.o
end
end
end Go.Proofs.YtdlbhiaceheffabGreatDoor
