/- Walk of place: visit, at functions; at all nodes. (Printed by gen_pl7.py.) -/
import Derived.Test.YtdlbhiaceheffabGreatDoorE42
set_option linter.all false
set_option maxRecDepth 100000
set_option maxHeartbeats 8000000
namespace Go.Proofs.YtdlbhiaceheffabGreatDoor
open Go Go.RowKit Ty Tok Prt Tryz Proofs.Tryz
section
open Ty (Tr Ck il)
theorem PlI.push{bk:List (Option Tr)}{bl:List Value}{h1:Prt.Hp}(h:PlI bk bl h1){o:Option Tr}{v:Value}(hv:VO h1 o v)(hf:∀t,o=some t->Fine t)(hl:bk.length+1<=100000):PlI (bk++[o]) (bl++[v]) h1:=by
 refine⟨by simp[h.len],λi hi h2=>?_,λt ht=>?_,by simpa using hl⟩
 ·by_cases a_:i<bk.length
  ·have h3:i<bl.length:=by rw[h.len];exact a_
   rw[List.getElem_append_left a_,List.getElem_append_left h3];exact h.bl i a_ h3
  ·have h3:i=bk.length:=by simp at hi;omega
   subst h3;have e1: (bk++[o])[bk.length]=o:=by simp
   have e2: (bl++[v])[bk.length]=v:=by simp[<-h.len]
   rw[e1,e2];cases o with
   |none=>exact hv
   |some t=>exact hv.1
 ·rcases List.mem_append.1 ht with ht|ht
  ·exact h.fG t ht
  ·exact hf t (List.mem_singleton.1 ht).symm
theorem PlI.pop{bk:List (Option Tr)}{bl:List Value}{h1:Prt.Hp}{o:Option Tr}(h:PlI (bk++[o]) bl h1):PlI bk (bl.take bk.length) h1:=by
 have hl:=h.len;simp at hl;refine⟨by simp;omega,λi hi h2=>?_,λt ht=>h.fG t (by simp[ht]),by have:=h.mQ;simp at this;omega⟩;have:=h.bl i (by simp;omega) (by omega);rw[List.getElem_append_left hi]at this
 rw[List.getElem_take];exact this
theorem PlI.up{bk:List (Option Tr)}{bl:List Value}{h1 h2:Prt.Hp}(h:PlI bk bl h1)(hl:Prt.le h1 h2):PlI bk bl h2:=⟨h.len,λi a b=>Ix hl (h.bl i a b),h.fG,h.mQ⟩
section
variable {wB:World} {pb cb ofb hasb:Nat} {X:Cx} {s:Ck} {h0:Prt.Hp} {pg:Ty.Pg}
theorem OX(E:PlE wB X pg cb ofb hasb s h0){id:Nat}{nd:Nd}(hn:pg.ns[id]?=some nd)(hk:nd.kind=6)(hC:∀m∈ck nd,m<id/\(m<id->AB wB X pg s pb cb m)):AB wB X pg s pb cb id:=by
 intro f hf bk o w Fr hF H hv hc hb R hR;obtain⟨f,rfl⟩:∃g,f=g+1:=⟨f-1,by omega⟩
 rw[pP hn (A:=(nd.list.flatMap (λp=>q9 p (dZ pg.ts (cV pg.ns p).ty))++gC pg X.aK s f nd.a (bk++[dZ pg.ts nd.ty]))) (by rw[if_pos hk])]at hc hR
 obtain⟨Dd,yk,zm,BP⟩:=Vis.inv hn hv;have hw:=E.W.below (hF _ _ 0 H rfl);obtain⟨p0,jJ⟩:=H.Ij;have dO:=qh (λR=>iU (R:=R) E.P (hF _ _ 0 H rfl) hn p0 jJ hw.c0 hw.lt);have HR:=qh hR;have HF:=qh hF;have H1:=qh H;have HN:=qh hn;have HQ:=qh (E.Q id nd hn);have a_:=cX hn;have k_:=E.P.ok.ju;have oW:=HQ.o.len;rw[List.length_append]at hc
 have k6: (((nd.kind:Nat):Int)==6)=true:=by rw[hk];rfl
 have Cl:ck nd=nd.list++[nd.a]:=by unfold ck;rw[if_pos hk]
 have Q6:=qh (λm(hm:m∈nd.list)=>(hC m (by rw[Cl];simp[hm])).1);have mH:=(hC nd.a (by rw[Cl];simp)).1;have wK:=qh ((hC nd.a (by rw[Cl];simp)).2 mH f (by omega) (bk++[dZ pg.ts nd.ty]));have aaq:=qh (show Vis pg.ns (!(bk++[dZ pg.ts nd.ty]).isEmpty) nd.a by rw[show(!(bk++[dZ pg.ts nd.ty]).isEmpty)=true by simp];exact BP hk);have BU:=qh hc;have HZ:=qh ((E.P.ok.ns nd (List.mem_of_getElem? hn)).ty);have f7:=uh;obtain⟨j0,tj,vI,vJ,vH⟩:=info_parts pn;have HK:=qh hk;clear hk;clear hR hF hn H hw p0 jJ;go_enter func95,ntmps95;go_wp2_with fail;refine dO.o _ (λlv w2 aD cu=>?_);obtain⟨la,lc,rfl⟩:=ag cu;unfold aG;have h3:=(H1.o.below aD).aj (az nd (.slice la nd.list.length lc)) w2.heap.size;have x0:=h3.cell 2 rfl 0 rfl;have x1:=h3.cell 2 rfl 1 rfl;have x2:=h3.cell 2 rfl 2 rfl;have x3:=h3.cell 2 rfl 3 rfl;have x4:=h3.cell 2 rfl 4 rfl;have x5:=h3.cell 2 rfl 5 rfl;have x6:=h3.cell 2 rfl 6 rfl;have x7:=h3.cell 2 rfl 7 rfl;have x8:=h3.cell 2 rfl 8 rfl;have H4:=qh ((Sat.pack (L:=[_]) (M:=[Fr,av w2.heap.size (az nd (.slice la nd.list.length lc))]) (h3.pick [1,0,2])).pick [1,0]);have cC:=qh (HF.o.ah (M:=[av w2.heap.size (az nd (.slice la nd.list.length lc))]));have iL:=qh cu;clear h3 aD cu H1 dO;go_wp2_with fail;go_loopw [22] (λi wr=>∃(j:Nat),i=.int .i64 j/\j<=nd.list.length/\Hq (Sat wB wr [ah [Fr,av w2.heap.size (az nd (.slice la nd.list.length lc))],zh pb cb (o++(nd.list.take j).flatMap (λp=>q9 p (dZ pg.ts (cV pg.ns p).ty))) bk])) (λi _=>nd.list.length-(intOf i).toNat)
 case atStart=>exact⟨0,rfl,Nat.zero_le _,by show Sat _ _ _;rw[List.take_zero,List.flatMap_nil,List.append_nil];exact H4.o⟩
 case round=>
  obtain⟨j,rfl,hj,hS⟩:=hrel;have si:=cC.o _ _ 0 hS.out rfl;obtain⟨ov,bv,bl,h1,jW,g1⟩:=hS.out.my;have sr:=qh jW;have p0:=g1.cell 1 rfl 0 rfl;have jJ:=g1.lt 1 rfl;have fN:=E.W.below si;by_cases a_:j<nd.list.length
  ·obtain⟨gl,jB,e,ku,d0⟩:=ints_at (ay iL.o si) j a_;cases e;have aa3:=Q6.o _ (gM a_);have qp: (nd.list.take (j+1)).flatMap (λp=>q9 p (dZ pg.ts (cV pg.ns p).ty))=(nd.list.take j).flatMap (λp=>q9 p (dZ pg.ts (cV pg.ns p).ty))++(λp=>q9 p (dZ pg.ts (cV pg.ns p).ty)) nd.list[j]:=by rw[List.take_succ_eq_append_getElem a_,List.flatMap_append,List.flatMap_singleton]
   have hle: ((nd.list.take (j+1)).flatMap (λp=>q9 p (dZ pg.ts (cV pg.ns p).ty))).length<=(nd.list.flatMap (λp=>q9 p (dZ pg.ts (cV pg.ns p).ty))).length:=by
    have h2:nd.list.flatMap (λp=>q9 p (dZ pg.ts (cV pg.ns p).ty))=(nd.list.take (j+1)).flatMap (λp=>q9 p (dZ pg.ts (cV pg.ns p).ty))++(nd.list.drop (j+1)).flatMap (λp=>q9 p (dZ pg.ts (cV pg.ns p).ty)):=by rw[<-List.flatMap_append,List.take_append_drop]
    rw[h2,List.length_append];omega
   have VB: (o++(nd.list.take j).flatMap (λp=>q9 p (dZ pg.ts (cV pg.ns p).ty))).length<=100000:=by
    rw[qp]at hle
    have h2:=BU.o;rw[List.length_append]at hle h2⊢
    omega
   have pK:=qh qp;clear qp hle;have SM:nd.list[j]<pg.ns.length:=by omega
   obtain⟨q,hq⟩:∃q,pg.ns[nd.list[j]]?=some q:=⟨_,List.getElem?_eq_getElem SM⟩
   have Uz:=qh (bw hq);have QK:=qh ((E.P.ok.ns q (List.mem_of_getElem? hq)).ty);have Rg:=qh hq;generalize nd.list[j]=ix at*
   have Qm:=qh (λ(R:EW)(hR:∀lv w',Below wr.drew.heap.size wr.drew w'->R (.returned (.agg #[.int .i64 q.kind,.int .i64 q.a,.int .i64 q.b,.int .i64 q.c,lv,.string q.text,.int .i64 q.n,.int .i64 q.ty,.int .i64 q.pos])) w')=>iU (w:=wr.drew) (pb:=pb) (cb:=cb) (R:=R) E.P si.drew Rg.o p0 jJ fN.drew.c0 fN.drew.lt λlv w' ff _=>hR lv w' ff);have Ja:wr.drew.cell? ⟨pb,0,none⟩=some (.pointer (some ⟨cb,0,none⟩)):=p0;have H0:=qh g1.drew;have sK:=qh (λt(e:dZ pg.ts q.ty=some t)=>(jP E.P.ok QK.o e).1);clear jW hS hq H4 g1 fN si aa3 SM;go_wp2_with fail;go_region_held3(λw'=>w'.cell? ⟨pb,0,none⟩=some (.pointer (some ⟨cb,0,none⟩))) (first|exact Ja|exact KU|exact sB)
    (first
     |(go_at_call 163;refine Qm.o _ (λYP w5 dM=>?_);have g5:=H0.o.below dM;have KU:w5.cell? ⟨pb,0,none⟩=some (.pointer (some ⟨cb,0,none⟩)):=g5.cell 1 rfl 0 rfl;have Wa:=qh (λR=>gT (cb:=cb) (R:=R) E.P (cC.o _ _ 0 g5 rfl) (E.W.below (cC.o _ _ 0 g5 rfl)).c1 (E.W.below (cC.o _ _ 0 g5 rfl)).lt QK.o);have H5:=qh g5;clear dM g5)
     |(go_at_call 154;refine Wa.o _ (λv w6 h6=>?_);have g6:=H5.o.join h6;have sB:w6.cell? ⟨pb,0,none⟩=some (.pointer (some ⟨cb,0,none⟩)):=g6.cell 1 rfl 0 rfl;have H6:=qh g6;clear h6 g6))
   all_goals
    have BP:=H6.o.get (i:=5) rfl λ_ ha hl=>EC ha hl
    have g7:=H6.o.pick [0,1,2,3,4];cases tu:dZ pg.ts q.ty with
    |none=>
     rw[tu]at BP
     have acy:v=.pointer none:=BP;subst acy;have HE:Hq (Sat wB w6 [ah [Fr,av w2.heap.size (az nd (.slice (some ⟨gl,0,none⟩) nd.list.length lc))],zh pb cb (o++(nd.list.take (j+1)).flatMap (λp=>q9 p (dZ pg.ts (cV pg.ns p).ty))) bk]):=by
      show Sat _ _ _;rw[pK.o,show q9 ix (dZ pg.ts (cV pg.ns ix).ty)=[]by rw[Uz.o,tu];rfl,List.append_nil];exact g7.kW sr.o
     clear BP g7 tu H6;go_wp2_with fail;go_roundw
     case rel=>exact⟨j+1,by go_num,by omega,HE⟩
     case measure=>simp[intOf];omega
    |some t=>
     rw[tu]at BP
     obtain⟨bt,rfl⟩:=aS BP;have HG:=qh (λR=>ia (R:=R) (n:=ix) g7 BP (sK.o t tu) VB);have sU:=qh (λ(ew:Value)(w':World)(h:Sat wB w' (ah [Fr,av w2.heap.size (az nd (.slice (some ⟨gl,0,none⟩) nd.list.length lc))]::eW pb cb ew bv (o++(nd.list.take j).flatMap (λp=>q9 p (dZ pg.ts (cV pg.ns p).ty))++rH ix t) bl h1))=>(show Hq (Sat wB w' [ah [Fr,av w2.heap.size (az nd (.slice (some ⟨gl,0,none⟩) nd.list.length lc))],zh pb cb (o++(nd.list.take (j+1)).flatMap (λp=>q9 p (dZ pg.ts (cV pg.ns p).ty))) bk])from by
      show Sat _ _ _;rw[pK.o,show q9 ix (dZ pg.ts (cV pg.ns ix).ty)=rH ix t by rw[Uz.o,tu];rfl,<-List.append_assoc];exact h.kW sr.o))
     clear BP g7 tu H6;go_wp2_with fail;refine HG.o _ (λWG w7 h7=>?_);have HE:=sU.o WG w7 h7;clear h7;go_wp2_with fail;go_roundw
     case rel=>exact⟨j+1,by go_num,by omega,HE⟩
     case measure=>simp[intOf];omega
  ·have gO:j=nd.list.length:=by omega
   subst gO;rw[List.take_length]at g1
   obtain⟨ba,bc,rfl⟩:=ag (g1.row 3 rfl);have p2:=g1.cell 1 rfl 2 rfl;have BR:bl.length<=100000:=by have:=jW.len;have:=jW.mQ;omega
   have x7:=((g1.unpack (i:=0) rfl).cell 5 rfl 7 rfl)
   have wR:=((g1.unpack (i:=0) rfl).lt 5 rfl)
   have b_:=qh (λR=>gT (cb:=cb) (R:=R) E.P si.drew fN.drew.c1 fN.drew.lt HZ.o);have H0:=qh g1.drew;have Ez:=qh (λt(e:dZ pg.ts nd.ty=some t)=>(jP E.P.ok HZ.o e).1);have abq:=qh (λt(e:dZ pg.ts nd.ty=some t)=>(jP E.P.ok HZ.o e).1.ok);clear g1 jW hS a_ H4 hj fN si;go_wp2_with fail;go_region_law(first|(go_simp;go_at_call 154;refine b_.o _ (λv w5 h5=>?_);obtain⟨h2,vq,hle,rfl,Rc,g5⟩:=Sat.Oj (L:=[ah [Fr,av w2.heap.size (az nd (.slice la nd.list.length lc))],av pb (Ur cb ov (.slice ba bl.length bc)),oJ ov (o++nd.list.flatMap (λp=>q9 p (dZ pg.ts (cV pg.ns p).ty))),Prt.row 107 1 (.slice ba bl.length bc) bl.length bl]) (o:=dZ pg.ts nd.ty) abq.o (H0.o.join h5);have p2:=g5.cell 1 rfl 2 rfl;have aa2:=g5.lt 1 rfl;have RB:=g5.aW (.cells #[.pointer vq] 107);have adL:=RB.cell 1 rfl 2 rfl;have Wm:=qh Rc;have zl:=qh hle;have H5:=qh g5;clear h5 Rc hle g5 RB)|(go_loud(refine step_append_lies _ (by rfl) _ _ _ (by rfl) 0 107 j0 _ 1 8 underlying104 tj vI vJ vH rfl (by omega) (.slice ba bl.length bc) bl.length bl (by rfl) ((H5.o.row 3 rfl).alloc _) ⟨w5.heap.size,0,none⟩ 1 1 [.pointer vq] (by rfl) (by rfl) (World.news_of_block (cs:=#[.pointer vq]) (t:=107) (fr:=(0,0)) (aR _ _ _ (by simp))) (by simp[Value.oneCell']) (by omega) (by unfold maxLen;omega) (by omega) (by simp) (w5.heap.size+1) (by simp) ?_);intro g4 iq w6 dE cO jY vy;have h8:=Sat.grow (H5.o.aW _) 3 rfl cO dE (by simpa using jY);have ac7:=h8.cell 1 rfl 2 rfl;have ac2:=h8.free 1 rfl 2;have PT:=h8.lt 1 rfl;have H8:=qh h8;clear h8))
   all_goals
    clear dE cO;have g9:=H8.o.store 1 rfl 2 (.slice (some ⟨g4,0,none⟩) (bl.length+1) iq);have g10:=g9.cL (i:=3) rfl (Q:=Prt.row 107 1 (.slice (some ⟨g4,0,none⟩) (bl.length+1) iq) (bl++[Value.pointer vq]).length (bl++[Value.pointer vq])) (λ_ h=>ja h);have x1:=((g10.unpack (i:=0) rfl).cell 5 rfl 1 rfl)
    have Wp:bk.length+1<=100000:=by omega
    have X4:=Sat.kW (Fr:=ah [Fr,av w2.heap.size (az nd (.slice la nd.list.length lc))]) (pb:=pb) (cb:=cb) (ov:=ov) (bv:=.slice (some ⟨g4,0,none⟩) (bl.length+1) iq) (o:=o++nd.list.flatMap (λp=>q9 p (dZ pg.ts (cV pg.ns p).ty))) (bl:=bl++[Value.pointer vq]) (h1:=h2) ((sr.o.up zl.o).push Wm.o Ez.o Wp) g10;have H6:=qh X4;clear g9 g10 X4 H8 H5 H0 sr;go_wp2_with fail;refine wK.o _ _ _ cC.o H6.o aaq.o (by have:=BU.o;rw[List.length_append]at this⊢;omega) (by rw[List.length_append];simp only[List.length_cons,List.length_nil];omega) _ (λw8 h8=>?_);obtain⟨sH,adH,FT,je,Kk,k3⟩:=h8.my;have hlen:FT.length=bk.length+1:=by have:=Kk.len;simp at this;exact this
    obtain⟨Es,GR,rfl⟩:=ag (k3.row 3 rfl);have Vo:bk.length<=100000:=by have:=Kk.mQ;simp at this;omega
    have kK:bk.length<=GR:=by
     rcases(k3.row 3 rfl).2 with⟨h1,h2⟩|⟨g,cap,cur,h1,_,_,h3,_⟩
     ·simp only[Value.slice.injEq]at h1;omega
     ·simp only[Value.slice.injEq]at h1;omega
    have p2:=k3.cell 1 rfl 2 rfl;rw[show(#[Value.pointer (some ⟨cb,0,none⟩),sH,Value.slice Es FT.length GR]:Array Value)[2]=Value.slice Es (bk.length+1) GR by rw[<-hlen];rfl]at p2
    have f2:=k3.free 1 rfl 2;have PT:=k3.lt 1 rfl;have hw:=IntWalk.i64_in (n:=(bk.length:Int)) (by omega);have hs:IntKind.i64.wrap (((bk.length+1:Nat):Int)-1)=(bk.length:Int):=by rw[show((bk.length+1:Nat):Int)-1=(bk.length:Int)by omega];exact hw
    have Hz:=AX Es (bk.length+1) GR bk.length kK;have K3:=qh k3;have OT:=qh Kk;have vK:=qh hlen;clear h8 k3 Kk hlen H6 kK;go_wp2_with fail
    go_region
    all_goals
     have k9:=(K3.out.store 1 rfl 2 (.slice Es bk.length GR)).drew;have vS:=k9.cL (i:=3) rfl (Q:=Prt.row 107 1 (.slice Es bk.length GR) (FT.take bk.length).length (FT.take bk.length)) (λ_ h=>by rw[show(FT.take bk.length).length=bk.length by have:=vK.o;simp;omega];exact xF vK.o (by rw[vK.o]at h⊢;exact h));have WD:=Sat.kW (Fr:=ah [Fr,av w2.heap.size (az nd (.slice la nd.list.length lc))]) (pb:=pb) (cb:=cb) (ov:=sH) (bv:=.slice Es bk.length GR) (bl:=FT.take bk.length) (h1:=je) OT.o.pop vS;rw[List.append_assoc]at WD
     have H5:=qh WD;clear k9 vS WD OT K3 f2 p2 hw hs Hz PT;generalize World.drew (World.setCell w8 _ _)=wz at*
     obtain⟨ov,bv,bl,h1,hI,g1⟩:=H5.o.my;have g2:=g1.unpack (i:=0) rfl;have x0:=g2.cell 5 rfl 0 rfl;have x1:=g2.cell 5 rfl 1 rfl;have x2:=g2.cell 5 rfl 2 rfl;have x3:=g2.cell 5 rfl 3 rfl;have x4:=g2.cell 5 rfl 4 rfl;have x5:=g2.cell 5 rfl 5 rfl;have x6:=g2.cell 5 rfl 6 rfl;have x7:=g2.cell 5 rfl 7 rfl;have x8:=g2.cell 5 rfl 8 rfl;have wR:=g2.lt 5 rfl;have HO:=qh (λR=>lr (R:=R) cC.o (E.at HN.o iL.o) hI (λh e=>yk (by rw[e];rfl) h) g1 (by rw[List.length_append];omega));have M5:=qh (λ(ew:Value)(w':World)(h:Sat wB w' (ah [Fr,av w2.heap.size (az nd (.slice la nd.list.length lc))]::eW pb cb ew bv (o++(nd.list.flatMap (λp=>q9 p (dZ pg.ts (cV pg.ns p).ty))++gC pg X.aK s f nd.a (bk++[dZ pg.ts nd.ty]))++dr pg X.aK s id nd bk) bl h1))=>HR.o w' (by rw[<-List.append_assoc];exact((h.kW hI).unpack (i:=0) rfl).pick [1,0]));clear g1 g2 hI H5;go_wp2_with fail;refine HO.o _ (λew w9 h9=>?_);have HE:=qh (M5.o ew w9 h9);clear h9;go_wp2_with fail;go_end0;exact HE.o
end
end
end Go.Proofs.YtdlbhiaceheffabGreatDoor
