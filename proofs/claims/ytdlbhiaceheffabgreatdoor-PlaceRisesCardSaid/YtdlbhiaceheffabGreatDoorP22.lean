/- Walk of check: the type of a function. -/
import Derived.Test.YtdlbhiaceheffabGreatDoorP21
set_option linter.all false
set_option maxRecDepth 100000
set_option maxHeartbeats 8000000
namespace Go.Proofs.YtdlbhiaceheffabGreatDoor
open Go Go.RowKit Ty Tok ak Tryz Proofs.Tryz
section
open Ty (Tr Ck)
theorem Co{pg:Ty.Pg}{n:Nat}{q:Ty.Nd}(h:pg.ns[n]?=some q):eW pg.ns n=q:=by unfold eW;rw[h];rfl
section
variable {wB w:World} {cb:Nat} {nv tv:Value} {pg:Ty.Pg}
theorem xj(hP:PB wB nv tv pg)(hb:Below wB.heap.size wB w)(c0:w.cell? ⟨cb,0,none⟩=some nv)(c1:w.cell? ⟨cb,1,none⟩=some tv)(gU:cb<w.heap.size){nd:Ty.Nd}{lv:Value}(hl:wB.ownsRow 0 3 1 lv nd.list.length (nd.list.map aS))
  (jQ:∀i(h:i<nd.list.length),∃q,pg.ns[nd.list[i]]?=some q) (hz:AJ nd.ty pg.ts) (BE:nd.list.length≤1200) {R:EW} (hR:∀p w',Sat w w' [bE w,pM p (FD pg nd)]→R (.returned p) w'):
  Calls prog 156 #[.pointer (some ⟨cb,0,none⟩),aK nd lv] w R:=by
 have HR:=qh hR;obtain⟨la,lc,rfl⟩:=ag hl;have HL:=qh (λ(w1:World)(h:Below w.heap.size w w1)=>az hl (hb.trans (h.mono hb.size)));have eE:=qh (λ(w1:World)(h:Below w.heap.size w w1)(i:Nat)(hi:i<nd.list.length)=>(show∃q:Ty.Nd,(yo (ek pg.ts (eW pg.ns nd.list[i]).ty))=yo (ek pg.ts q.ty)∧(∀R:EW,(∀lv w',Below w1.heap.size w1 w'→R (.returned (.agg #[.int .i64 q.kind,.int .i64 q.a,.int .i64 q.b,.int .i64 q.c,lv,.string q.text,.int .i64 q.n,.int .i64 q.ty,.int .i64 q.pos])) w')→Calls prog 152 #[.pointer (some ⟨cb,0,none⟩),.int .i64 (nd.list[i]:Nat)] w1 R)∧AJ q.ty pg.ts by
  obtain⟨q,hq⟩:=jQ i hi;exact⟨q,by rw[Co hq],λR hR=>aR hP (hb.trans (h.mono hb.size)) hq (aq h c0) (nL gU h.size) λlv w' fU _=>hR lv w' fU,(hP.ok.ns q (List.mem_of_getElem? hq)).ty⟩))
 have HW:=qh (λ(w1:World)(h:Below w.heap.size w w1)(z:Int)(hz:AJ z pg.ts)(R:EW) hR=>hJ (R:=R) hP (hb.trans (h.mono hb.size)) (aq h c1) (nL gU h.size) hz hR);have HZ:=qh hz;have f7:=tM;obtain⟨j0,tj,qP,rJ,rI⟩:=info_parts pD;have h1:=((Sat.fw w).aj (aD nd (.slice la nd.list.length lc)) w.heap.size).aj (.cells #[.int .i64 (9:Nat),.slice none 0 0,.slice none 0 0,.pointer none] 219) (w.heap.size+1) (by simp);have h2:=(h1.nil 107 1).hZ (P:=fI [] []) (λ_=>by show bz _ [] [];rw[bz]);have x4:=h2.cell 1 rfl 4 rfl;have H2:=qh h2;clear hR hl jQ hz h1 h2 hP hb c0 c1;unfold aK;go_in;go_wp2_with fail;refine bT _ 9 ?_;go_wp2_with fail;go_loopw [12] (λi wr=>∃(j:Nat)(qv:Value)(qs:List Value),i=.int .i64 j∧j≤nd.list.length∧qs.length≤j∧j≤qs.length∧Hq (Sat w wr [bE w,ay w.heap.size (aD nd (.slice la nd.list.length lc)),ay (w.heap.size+1) (.cells #[.int .i64 (9:Nat),.slice none 0 0,qv,.pointer none] 219 (0,0)),ak.row 107 1 qv qs.length qs,fI qs ((nd.list.take j).map λp=>yo (ek pg.ts (eW pg.ns p).ty))]))
  (λi _=>nd.list.length-(intOf i).toNat)
 case atStart=>exact⟨0,.slice none 0 0,[],rfl,by omega,by simp,by simp,H2.o⟩
 case round=>
  obtain⟨j,qv,qs,rfl,hj,acb,vm,hS⟩:=hrel;obtain⟨qa,qc,rfl⟩:=ag (hS.out.row 3 rfl);by_cases bm:j<nd.list.length
  ·have hb:=hS.out.aW;obtain⟨gl,j9,e,mW,d0⟩:=ints_at (HL.o wr hb) j bm;cases e;have HT:=qh (List.take_succ_eq_append_getElem bm);obtain⟨q,Zb,zv,X2⟩:=eE.o wr.drew hb.drew j bm;have DT:=qh zv;have abB:=qh Zb;have Qk:=qh X2;generalize nd.list[j]=ix at*
   have x1:=hS.out.cell 2 rfl 2 rfl;have H0:=qh hS.out.drew;clear hb hS Zb zv X2;go_wp2_with fail;go_region_law(first|(go_simp;go_at_call 152;refine DT.o _ (λnu w2 aI=>?_);have h3:=H0.o.below aI;have x2:=h3.cell 2 rfl 2 rfl;have H3:=qh h3;clear h3 aI)|(go_simp;go_at_call 154;refine HW.o _ H3.o.aW _ Qk.o _ (λv3 w3 h4=>?_);have h5:=H3.o.join h4;have x3:=h5.cell 2 rfl 2 rfl;have H5:=qh h5;clear h4 h5)|(go_simp;go_at_call 153;refine ua (H5.o.at 5 rfl) (λp4 w4 h6=>?_);obtain⟨oZ,rfl,_⟩:=eQ (h6.tree 1 rfl);have h7:=(h6.unpack (i:=0) rfl).pick [1,2,3,4,5,0];have abY:=h7.cell 2 rfl 2 rfl;have ZD:=h7.aU (.cells #[.pointer (some ⟨oZ,0,none⟩)] 107);have x5:=ZD.cell 2 rfl 2 rfl;have H7:=qh h7;clear h6 h7 ZD)|(go_loud(refine step_append_lies _ (by rfl) _ _ _ (by rfl) 0 107 j0 _ 1 8 underlying104 tj qP rJ rI rfl (by omega) (.slice qa qs.length qc) qs.length qs (by rfl) ((H7.o.row 3 rfl).alloc _) ⟨w4.heap.size,0,none⟩ 1 1 [.pointer (some ⟨oZ,0,none⟩)] (by rfl) (by rfl) (World.news_of_block (cs:=#[.pointer (some ⟨oZ,0,none⟩)]) (t:=107) (fr:=(0,0)) (aH _ _ _ (by simp))) (by simp[Value.oneCell']) (by omega) (by unfold maxLen;omega) (by omega) (by simp) (w4.heap.size+1) (by simp) ?_);intro g4 eJ w5 cq bC ga mY;have h8:=Sat.grow (H7.o.aU _) 3 rfl bC cq (by simpa using ga);have x6:=h8.cell 2 rfl 2 rfl;have f6:=h8.free 2 rfl 2;have H8:=qh h8;clear h8))
   all_goals
    clear cq bC;have h5:=H8.o.store 2 rfl 2 (.slice (some ⟨g4,0,none⟩) (qs.length+1) eJ);have h6:=h5.cG (i:=3) rfl (Q:=ak.row 107 1 (.slice (some ⟨g4,0,none⟩) (qs.length+1) eJ) (qs++[Value.pointer (some ⟨oZ,0,none⟩)]).length (qs++[Value.pointer (some ⟨oZ,0,none⟩)])) (λ_ h=>jc h);have h7:=Sat.pack (L:=[_,_,_,_]) (M:=[_,_]) h6;have h8:=h7.cG (i:=4) rfl (Q:=fI (qs++[Value.pointer (some ⟨oZ,0,none⟩)]) ((nd.list.take (j+1)).map λp=>yo (ek pg.ts (eW pg.ns p).ty))) (λ_ h=>by rw[HT.o,List.map_append,List.map_cons,List.map_nil,abB.o];exact oo h);have H9:=qh h8;clear h5 h6 h7 h8;go_wp2_with fail;go_roundw
    case rel=>exact⟨j+1,.slice (some ⟨g4,0,none⟩) (qs.length+1) eJ,qs++[Value.pointer (some ⟨oZ,0,none⟩)],by go_num,by omega,by simp;omega,by simp;omega,H9.o⟩
    case measure=>simp[intOf];omega
  ·have nn:j=nd.list.length:=by omega
   have h2:=hS.out;rw[nn,List.take_length]at h2
   have H2:=qh h2;have x7:=h2.cell 1 rfl 7 rfl;clear h2 nn hS;go_wp2_with fail;refine HW.o _ H2.o.aW _ HZ.o _ (λv3 w3 h4=>?_);have H5:=qh (H2.o.join h4);clear h4;go_wp2_with fail;refine ua (H5.o.at 5 rfl) (λp4 w4 h6=>?_);obtain⟨oZ,rfl,_⟩:=eQ (h6.tree 1 rfl);have h7:=(h6.unpack (i:=0) rfl).pick [1,3,4,5,0];have f4:=h7.free 1 rfl 3;have z4:=h7.cell 1 rfl 3 rfl;have H7:=qh h7;clear h6 h7;go_wp2_with fail;have h8:=(H7.o.store 1 rfl 3 (.pointer (some ⟨oZ,0,none⟩))).cG (i:=4) rfl (Q:=fI [Value.pointer (some ⟨oZ,0,none⟩)] [yo (ek pg.ts nd.ty)]) (λ_ h=>by show bz _ [_] [_];rw[bz];exact⟨_,[],rfl,h,by rw[bz]⟩);have h9:=((h8.nil 221 2).hZ (P:=fI [] []) (λ_=>by show bz _ [] [];rw[bz])).pick [0,1,5,6,2,3,4];have dS:=Sat.pack (L:=[_]) (M:=[_,_,_,_,_,_]) h9;refine HR.o _ _ (dS.cG (i:=1) rfl λ_ h=>?_);exact y9 (names:=[]) (ps:=[]) rfl (.inr rfl) h
end
structure NdW(pg:Ty.Pg)(nd:Ty.Nd):Prop where
 a:nd.a≤100000
 b:nd.b≤100000
 l:∀n∈nd.list,n≤100000
 ps:∀i(h:i<nd.list.length),∃q,pg.ns[nd.list[i]]?=some q
 pa:∀n∈nd.list,∀q,pg.ns[n]?=some q→q.a≤100000
 len:nd.list.length≤1200
 ty:AJ nd.ty pg.ts
theorem gi{pg:Ty.Pg}{tf:Nat→Nat}{s:Ck}{n:Nat}{x:Ty.Nd}(h:fN pg tf s n x≠.error Ty.stuck):fM s.of (c9 pg x)=true∧fN pg tf s n x=lL pg tf s n x:=by
 by_cases hk:fM s.of (c9 pg x)=true
 ·exact⟨hk,by unfold fN;rw[if_pos hk]⟩
 ·unfold fN at h;rw[if_neg hk]at h
  exact absurd rfl h
theorem kX{w w3 w':World}{P:As}(hB:Below w.heap.size w w3)(h:Sat w3 w' [bE w3,P]):Sat w w' [bE w,P]:=((Sat.fw w).below hB).join h
theorem zl(m:Nat)(h:m≤100000): (Lit.int .i64 (m:Nat)).wf=true:=WalkArith.wf_i64 (by omega)
theorem WS(W:World):∃w5 w6 w7 w8:World,(Instr.mapUpdate 102 (.map (some W.heap.size)) (.int .i64 1) (.int .i64 1)).run prog (W.alloc (.map #[] 0))=.ok () w5∧(Instr.mapUpdate 102 (.map (some W.heap.size)) (.int .i64 2) (.int .i64 3)).run prog w5=.ok () w6∧
  (Instr.mapUpdate 102 (.map (some W.heap.size)) (.int .i64 3) (.int .i64 2)).run prog w6=.ok () w7∧(Instr.mapUpdate 102 (.map (some W.heap.size)) (.int .i64 4) (.int .i64 4)).run prog w7=.ok () w8∧Below W.heap.size W w8∧
  ∃n D,w8.ownsMap prog 3 (plainElem (H:=Unit) prog 3) W.heap.size n D∧∀k c:Nat,(k,c)∈[(1,1),(2,3),(3,2),(4,4)]→D.atKey (.int .i64 (k:Nat)) (.lit (.int .i64 0))=.lit (.int .i64 (c:Nat)):=by
 have h0:=World.ownsMap_made (H:=Unit) W prog 3 (plainElem prog 3);have hm:=underlying102;have hi:=underlying3;obtain⟨w5,r1,o1,g1⟩:=h0.update dn hm (by unfold maxLen;omega) (Maps.keyOf_int_mk hi (zl 1 (by omega))) (plainElem_int hi (zl 1 (by omega)));obtain⟨w6,r2,o2,g2⟩:=o1.update dn hm (by unfold maxLen;omega) (Maps.keyOf_int_mk hi (zl 2 (by omega))) (plainElem_int hi (zl 3 (by omega)));obtain⟨w7,r3,o3,g3⟩:=o2.update dn hm (by unfold maxLen;omega) (Maps.keyOf_int_mk hi (zl 3 (by omega))) (plainElem_int hi (zl 2 (by omega)));obtain⟨w8,r4,o4,g4⟩:=o3.update dn hm (by unfold maxLen;omega) (Maps.keyOf_int_mk hi (zl 4 (by omega))) (plainElem_int hi (zl 4 (by omega)));have uP:Below W.heap.size W (W.alloc (.map #[] 0)):=(bR _ _).alloc (nR _) _;have df:=uP.grown g1 uP.size (λj hj=>by cases hj;exact nR _);have aI:=df.grown g2 df.size (λj hj=>by cases hj;exact nR _);have dD:=aI.grown g3 aI.size (λj hj=>by cases hj;exact nR _);have yG:=dD.grown g4 dD.size (λj hj=>by cases hj;exact nR _);refine⟨w5,w6,w7,w8,r1,r2,r3,r4,yG,_,_,o4,λk c BJ=>?_⟩;have i0:Maps.IsMap (H:=Unit) (.map []):=Maps.isMap_empty;have kl:∀n:Nat,WideAt.IsKeyLit (Lit.int .i64 (n:Nat)):=λ_=>trivial
 simp only[List.mem_cons,Prod.mk.injEq,List.not_mem_nil,or_false]at BJ;rcases BJ with⟨rfl,rfl⟩|⟨rfl,rfl⟩|⟨rfl,rfl⟩|⟨rfl,rfl⟩
 ·rw[Maps.atKey_put_other (jl (by omega)),Maps.atKey_put_other (jl (by omega)),Maps.atKey_put_other (jl (by omega)),Maps.atKey_put_same i0 (kl 1)]
 ·rw[Maps.atKey_put_other (jl (by omega)),Maps.atKey_put_other (jl (by omega)),Maps.atKey_put_same (i0.put _ _) (kl 2)]
 ·rw[Maps.atKey_put_other (jl (by omega)),Maps.atKey_put_same ((i0.put _ _).put _ _) (kl 3)]
 ·rw[Maps.atKey_put_same (((i0.put _ _).put _ _).put _ _) (kl 4)]
theorem tn(W:World){mb:Nat}(aaO:mb=W.heap.size){nk k c:Nat}(BJ: (k,c)∈[(1,1),(2,3),(3,2),(4,4)])(hk:nk=k):∃w5 w6 w7 w8:World,(Instr.mapUpdate 102 (.map (some mb)) (.int .i64 1) (.int .i64 1)).run prog (W.alloc (.map #[] 0))=.ok () w5∧(Instr.mapUpdate 102 (.map (some mb)) (.int .i64 2) (.int .i64 3)).run prog w5=.ok () w6∧
  (Instr.mapUpdate 102 (.map (some mb)) (.int .i64 3) (.int .i64 2)).run prog w6=.ok () w7∧(Instr.mapUpdate 102 (.map (some mb)) (.int .i64 4) (.int .i64 4)).run prog w7=.ok () w8∧Below W.heap.size W w8∧
  (Instr.lookup 102 (.map (some mb)) (.int .i64 (nk:Nat)) false).run prog w8=.ok (.int .i64 (c:Nat)) w8:=by
 subst hk aaO;obtain⟨w5,w6,w7,w8,r1,r2,r3,r4,hb,n,D,ho,vb⟩:=WS W;have hk:nk≤100000:=by simp only[List.mem_cons,Prod.mk.injEq,List.not_mem_nil,or_false]at BJ;omega
 obtain⟨c2,qy,ha,_⟩:=ho.lookup_int dn underlying102 underlying3 (E0 w8) (Maps.keyOf_int_mk underlying3 (zl nk hk));rw[vb nk c BJ]at ha
 simp only[DataW.lit.injEq,Lit.int.injEq,true_and]at ha;exact⟨w5,w6,w7,w8,r1,r2,r3,r4,hb,by rw[qy,←ha]⟩
theorem Nh{h:ak.Hp}{b:Nat}{p:Value}{t:Tr}(hb:h b=some (.cells #[.int .i64 (8:Nat),.slice none 0 0,.slice none 0 0,p] 219 (0,0)))(hr:rep h t p):rep h (.mk 8 [] [] [] [t]) (.pointer (some ⟨b,0,none⟩)):=by
 rw[rep];exact⟨b,_,_,_,[],[],[p],rfl,hb,⟨by simp[cN],.inl ⟨rfl,rfl⟩⟩,rfl,by rw[bz],⟨by simp,.inl ⟨rfl,rfl⟩⟩,by rw[bz],by rw[bz];exact⟨p,[],rfl,hr,by rw[bz]⟩,.inr rfl⟩
theorem Ma{h:ak.Hp}{b:Nat}{pv:Value}{names:List BA}{ps:List Value}{types:List Tr}(hb:h b=some (.cells #[.int .i64 (7:Nat),pv,.slice none 0 0,.pointer none] 219 (0,0)))(hp:ak.row 221 2 pv ps.length (cN names ps) h)(hn:names.length=ps.length)(hr:bz h types ps):rep h (.mk 7 names types [] []) (.pointer (some ⟨b,0,none⟩)):=by
 rw[rep];exact⟨b,_,_,_,ps,[],[],rfl,hb,hp,hn,hr,⟨by simp,.inl ⟨rfl,rfl⟩⟩,by rw[bz],by rw[bz],.inl ⟨rfl,rfl⟩⟩
theorem iD{w0 w w':World}{h0:ak.Hp}{t:Tr}{p:Value}(hle:ak.le h0 (ak.hp w0))(hb:Below w0.heap.size w0 w)(h:Sat w w' [bE w,de h0 t p]):rep (ak.hp w') t p:=
 h.get (i:=1) rfl λ_ ha hl=>ha _ (nM hle (hb.trans (h.aW.mono hb.size))) hl
section
variable {wB w:World} {cb ofb hasb:Nat} {X:Cx} {s:Ck} {h0:ak.Hp} {pg:Ty.Pg}
theorem Nb(hP:PB wB X.nv X.tv pg)(hb:Below wB.heap.size wB w){id:Nat}{nd:Ty.Nd}(hn:pg.ns[id]?=some nd)(hk:nd.kind=11)(hW:CkW w cb X ofb hasb s h0)(hI:NdW pg nd)(bZ:fN pg X.a_ s id nd≠.error Ty.stuck){R:EW}
  (aF:∀t q w',fN pg X.a_ s id nd=.ok t→Sat w w' [bE w,de h0 t q]→R (.returned q) w'):
  Calls prog 159 #[.pointer (some ⟨cb,0,none⟩),.int .i64 (id:Nat)] w R:=by
 have eE:=qh (λR=>aR (R:=R) hP hb hn hW.c0 hW.lt);have HW:=qh hW;have gU:=hW.lt;obtain⟨cy,hex⟩:=gi bZ;have hx:fN pg X.a_ s id nd=.ok (.mk 8 [] [] [] [o0 (nd.list.map (tO s.of))]):=by rw[hex];unfold lL;simp only[hk];rfl
 have kK:c9 pg nd=nd.list:=by unfold c9;simp[hk]
 rw[kK]at cy
 have aY:=qh (λq w'=>aF _ q w' hx);have RG:Hq (∀j(h:j<nd.list.length),s.of nd.list[j]=some (tO s.of nd.list[j])∧nd.list[j]≤100000):=λj h=>⟨cu cy (gM h),hI.l _ (gM h)⟩
 have hm:∀t∈nd.list.map (tO s.of),Fine t∧dw t≤300:=λt ht=>by
  obtain⟨p,hp,rfl⟩:=List.mem_map.1 ht;exact hW.fK.of _ _ (cu cy hp)
 have HM:=qh hm;have BE:=hI.len;have dG:=qh (λlv(hl:wB.ownsRow 0 3 1 lv nd.list.length (nd.list.map aS)) w1(h:Below w.heap.size w w1)=>az hl (hb.trans (h.mono hb.size)));obtain⟨j0,tj,qP,rJ,rI⟩:=info_parts pD;have e1: (((nd.kind:Nat):Int)==1)=false:=by rw[hk];rfl
 have e2: (((nd.kind:Nat):Int)==2)=false:=by rw[hk];rfl
 have e3: (((nd.kind:Nat):Int)==3)=false:=by rw[hk];rfl
 have e4: (((nd.kind:Nat):Int)==4)=false:=by rw[hk];rfl
 have e5: (((nd.kind:Nat):Int)==5)=false:=by rw[hk];rfl
 have e6: (((nd.kind:Nat):Int)==6)=false:=by rw[hk];rfl
 have e7: (((nd.kind:Nat):Int)==7)=false:=by rw[hk];rfl
 have e8: (((nd.kind:Nat):Int)==8)=false:=by rw[hk];rfl
 have e9: (((nd.kind:Nat):Int)==9)=false:=by rw[hk];rfl
 have Mk: (((nd.kind:Nat):Int)==11)=true:=by rw[hk];rfl
 clear aF hP hb hn hW bZ cy hex hI hk hm hx kK;go_in;go_wp2_with fail;refine eE.o _ (λlv w2 aI hl=>?_);have HL:=qh (dG.o lv hl);obtain⟨la,lc,rfl⟩:=ag hl;unfold aK;have dR:Below w.heap.size w (w2.alloc (aD nd (.slice la nd.list.length lc))):=aI.alloc aI.size _;have h3:=((Sat.fw w).below aI).aj (aD nd (.slice la nd.list.length lc)) w2.heap.size;have x0:=h3.cell 1 rfl 0 rfl;have x4:=h3.cell 1 rfl 4 rfl;have cU:=qh dR;have H1:=qh (((Sat.fw w).below dR).nil 107 1);clear h3 aI hl dR;go_wp2_with fail;go_loopw [6,89] (λv i wr=>∃(j:Nat)(qs:List Value),i=.int .i64 j∧j≤nd.list.length∧Hq (Sat w wr [bE w,ak.row 107 1 v qs.length qs])∧Hq (bz h0 ((nd.list.take j).map (tO s.of)) qs)) (λ_ i _=>nd.list.length-(intOf i).toNat)
 case atStart=>exact⟨0,[],rfl,Nat.zero_le _,H1.o,by show bz _ [] [];rw[bz]⟩
 case round=>
  obtain⟨j,qs,rfl,hj,hS,hQ⟩:=hrel;obtain⟨qa,qc,rfl⟩:=ag (hS.out.row 1 rfl);by_cases bm:j<nd.list.length
  ·have r_:=hS.out.aW;obtain⟨gl,j9,e,mW,d0⟩:=ints_at (HL.o wr r_) j bm;cases e;obtain⟨xv,kN⟩:=RG.o j bm;obtain⟨pj,bD,CG⟩:=HW.o.gj kN xv;obtain⟨bj,rfl⟩:=aP CG;have pK:=bD wr r_;have c5:=aq r_ HW.o.c5;have Zt:=nL gU r_.size;have HT:=qh (List.take_succ_eq_append_getElem bm);have N6:=bV hQ.out;have Z_:qs.length+1≤1000000:=by rw[←N6];simp;omega
   have Wy:=qh CG;generalize nd.list[j]=nj at*
   clear xv kN bD CG r_ N6;go_wp2_with(at_builtin;go_loud(refine wpList_append_lies _ rfl (.tmp 93) (.tmp 100) 104 rfl 0 107 j0 _ 1 8 underlying104 tj qP rJ rI rfl (by decide) _ _ qs (by rfl) ((hS.out.row 1 rfl).alloc _) ⟨wr.heap.size,0,none⟩ 1 1 [.pointer (some ⟨bj,0,none⟩)] (by rfl) (by rfl) (World.news_of_block (cs:=#[.pointer (some ⟨bj,0,none⟩)]) (t:=107) (fr:=(0,0)) (aH _ _ _ (by simp))) (by simp[Value.oneCell']) (by omega) (by unfold maxLen;omega) (by omega) (by simp) (wr.heap.size+1) (by simp) ?_));intro g4 eJ w4 cq bC ga mY;have h8:=(Sat.grow (hS.out.aU _) 1 rfl bC cq (by simpa using ga)).pick [0,1];have h9:=h8.cG (i:=1) rfl (Q:=ak.row 107 1 (.slice (some ⟨g4,0,none⟩) (qs.length+1) eJ) (qs++[Value.pointer (some ⟨bj,0,none⟩)]).length (qs++[Value.pointer (some ⟨bj,0,none⟩)])) (λ_ h=>jc h);have H9:=qh h9;have Hv:Hq (bz h0 ((nd.list.take (j+1)).map (tO s.of)) (qs++[Value.pointer (some ⟨bj,0,none⟩)])):=by show bz _ _ _;rw[HT.o,List.map_append];exact lT hQ.out Wy.o
   clear h8 h9 cq bC;go_wp2_with fail;go_roundw
   case rel=>exact⟨j+1,qs++[Value.pointer (some ⟨bj,0,none⟩)],by go_num,by omega,H9.o,Hv.o⟩
   case measure=>simp[intOf];omega
  ·have ju:j=nd.list.length:=by omega
   have hq:=hQ.out;rw[ju,List.take_length]at hq
   have oR:=nN λt ht=>(HM.o t ht).1
   have S9:=lG λt ht=>(HM.o t ht).1
   have Eg:=qd (m:=300) λt ht=>(HM.o t ht).2
   rw[List.length_map]at Eg
   have HJ:=qh (λR=>Gm (R:=R) w wr HW.o.le hS.out.aW _ qs oR S9 (by omega) hq _ (hS.out.row 1 rfl));clear ju hq oR S9 Eg;go_wp2_with fail;refine HJ.o _ (λp w5 h5=>?_);obtain⟨bp,rfl⟩:=aP (iD HW.o.le hS.out.aW h5);have h6:=Sat.pack (L:=[bE w]) ((((Sat.fw w).below hS.out.aW).join h5).aj (.cells #[.int .i64 (8:Nat),.slice none 0 0,.slice none 0 0,.pointer (some ⟨bp,0,none⟩)] 219) _ rfl);have HG:=qh (aY.o _ _ (h6.cG (i:=1) rfl λa ha h yS mS=>by
    obtain⟨y,z,_,hy,hz,g1,u,v,_,hu,_,g2,_⟩:=ha;exact Nh (mS _ _ (ak.le_trans hu hz _ _ g2)) (g1 h yS (ak.le_trans hy mS))))
   clear h5 h6;go_wp2_with fail;exact HG.o
end
end
end Go.Proofs.YtdlbhiaceheffabGreatDoor
