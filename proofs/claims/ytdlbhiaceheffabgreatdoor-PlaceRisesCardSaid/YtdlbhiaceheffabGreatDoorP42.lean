/- Walk of place: visit, at functions; at all nodes. (Printed by gen_pl7.py.) -/
import Derived.Test.YtdlbhiaceheffabGreatDoorP41
set_option linter.all false
set_option maxRecDepth 100000
set_option maxHeartbeats 8000000
namespace Go.Proofs.YtdlbhiaceheffabGreatDoor
open Go Go.RowKit Ty Tok ak Tryz Proofs.Tryz
section
open Ty (Tr Ck lD)
theorem PlI.push{bk:List (Option Tr)}{bl:List Value}{h1:ak.Hp}(h:PlI bk bl h1){o:Option Tr}{v:Value}(hv:VO h1 o v)(hf:∀t,o=some t→Fine t)(hl:bk.length+1≤100000):PlI (bk++[o]) (bl++[v]) h1:=by
 refine⟨by simp[h.len],λi hi h2=>?_,λt ht=>?_,by simpa using hl⟩
 ·by_cases bm:i<bk.length
  ·have h3:i<bl.length:=by rw[h.len];exact bm
   rw[List.getElem_append_left bm,List.getElem_append_left h3];exact h.bl i bm h3
  ·have h3:i=bk.length:=by simp at hi;omega
   subst h3;have e1: (bk++[o])[bk.length]=o:=by simp
   have e2: (bl++[v])[bk.length]=v:=by simp[←h.len]
   rw[e1,e2];cases o with
   |none=>exact hv
   |some t=>exact hv.1
 ·rcases List.mem_append.1 ht with ht|ht
  ·exact h.fK t ht
  ·exact hf t (List.mem_singleton.1 ht).symm
theorem PlI.pop{bk:List (Option Tr)}{bl:List Value}{h1:ak.Hp}{o:Option Tr}(h:PlI (bk++[o]) bl h1):PlI bk (bl.take bk.length) h1:=by
 have hl:=h.len;simp at hl;refine⟨by simp;omega,λi hi h2=>?_,λt ht=>h.fK t (by simp[ht]),by have:=h.nf;simp at this;omega⟩;have:=h.bl i (by simp;omega) (by omega);rw[List.getElem_append_left hi]at this
 rw[List.getElem_take];exact this
theorem PlI.up{bk:List (Option Tr)}{bl:List Value}{h1 h2:ak.Hp}(h:PlI bk bl h1)(hl:ak.le h1 h2):PlI bk bl h2:=⟨h.len,λi a b=>J9 hl (h.bl i a b),h.fK,h.nf⟩
section
variable {wB:World} {pb cb ofb hasb:Nat} {X:Cx} {s:Ck} {h0:ak.Hp} {pg:Ty.Pg}
theorem Qe(E:PlE wB X pg cb ofb hasb s h0){id:Nat}{nd:Ty.Nd}(hn:pg.ns[id]?=some nd)(hk:nd.kind=6)(hC:∀m∈cX nd,m<id∧(m<id→zT wB X pg s pb cb m)):zT wB X pg s pb cb id:=by
 intro f hf bk o w Fr hF H hv hc hb R hR;obtain⟨f,rfl⟩:∃g,f=g+1:=⟨f-1,by omega⟩
 rw[pR hn (A:=(nd.list.flatMap (λp=>qQ p (ek pg.ts (eW pg.ns p).ty))++gS pg X.a_ s f nd.a (bk++[ek pg.ts nd.ty]))) (by rw[if_pos hk])]at hc hR
 obtain⟨Mm,xW,OA,Hc⟩:=Vis.inv hn hv;have hw:=E.W.below (hF _ _ 0 H rfl);obtain⟨p0,jS⟩:=H.Hs;have eE:=qh (λR=>jh (R:=R) E.P (hF _ _ 0 H rfl) hn p0 jS hw.c0 hw.lt);have HR:=qh hR;have HF:=qh hF;have H1:=qh H;have HN:=qh hn;have HQ:=qh (E.Q id nd hn);have bm:=dA hn;have kN:=E.P.ok.kO;have oV:=HQ.o.len;rw[List.length_append]at hc
 have k6: (((nd.kind:Nat):Int)==6)=true:=by rw[hk];rfl
 have Dx:cX nd=nd.list++[nd.a]:=by unfold cX;rw[if_pos hk]
 have Q8:=qh (λm(hm:m∈nd.list)=>(hC m (by rw[Dx];simp[hm])).1);have mN:=(hC nd.a (by rw[Dx];simp)).1;have wM:=qh ((hC nd.a (by rw[Dx];simp)).2 mN f (by omega) (bk++[ek pg.ts nd.ty]));have ace:=qh (show Vis pg.ns (!(bk++[ek pg.ts nd.ty]).isEmpty) nd.a by rw[show(!(bk++[ek pg.ts nd.ty]).isEmpty)=true by simp];exact Hc hk);have LG:=qh hc;have HZ:=qh ((E.P.ok.ns nd (List.mem_of_getElem? hn)).ty);have f7:=tM;obtain⟨j0,tj,qP,rJ,rI⟩:=info_parts pD;have HK:=qh hk;clear hk;clear hR hF hn H hw p0 jS;go_enter func95,ntmps95;go_wp2_with fail;refine eE.o _ (λlv w2 aI cI=>?_);obtain⟨la,lc,rfl⟩:=ag cI;unfold aK;have h3:=(H1.o.below aI).aj (aD nd (.slice la nd.list.length lc)) w2.heap.size;have x0:=h3.cell 2 rfl 0 rfl;have x1:=h3.cell 2 rfl 1 rfl;have x2:=h3.cell 2 rfl 2 rfl;have x3:=h3.cell 2 rfl 3 rfl;have x4:=h3.cell 2 rfl 4 rfl;have x5:=h3.cell 2 rfl 5 rfl;have x6:=h3.cell 2 rfl 6 rfl;have x7:=h3.cell 2 rfl 7 rfl;have x8:=h3.cell 2 rfl 8 rfl;have H4:=qh ((Sat.pack (L:=[_]) (M:=[Fr,ay w2.heap.size (aD nd (.slice la nd.list.length lc))]) (h3.pick [1,0,2])).pick [1,0]);have dq:=qh (HF.o.ah (M:=[ay w2.heap.size (aD nd (.slice la nd.list.length lc))]));have j4:=qh cI;clear h3 aI cI H1 eE;go_wp2_with fail;go_loopw [22] (λi wr=>∃(j:Nat),i=.int .i64 j∧j≤nd.list.length∧Hq (Sat wB wr [ah [Fr,ay w2.heap.size (aD nd (.slice la nd.list.length lc))],xH pb cb (o++(nd.list.take j).flatMap (λp=>qQ p (ek pg.ts (eW pg.ns p).ty))) bk])) (λi _=>nd.list.length-(intOf i).toNat)
 case atStart=>exact⟨0,rfl,Nat.zero_le _,by show Sat _ _ _;rw[List.take_zero,List.flatMap_nil,List.append_nil];exact H4.o⟩
 case round=>
  obtain⟨j,rfl,hj,hS⟩:=hrel;have r_:=dq.o _ _ 0 hS.out rfl;obtain⟨ov,bv,bl,h1,j5,g1⟩:=hS.out.mR;have sh:=qh j5;have p0:=g1.cell 1 rfl 0 rfl;have jS:=g1.lt 1 rfl;have fX:=E.W.below r_;by_cases bm:j<nd.list.length
  ·obtain⟨gl,j9,e,mW,d0⟩:=ints_at (az j4.o r_) j bm;cases e;have YW:=Q8.o _ (gM bm);have Cm: (nd.list.take (j+1)).flatMap (λp=>qQ p (ek pg.ts (eW pg.ns p).ty))=(nd.list.take j).flatMap (λp=>qQ p (ek pg.ts (eW pg.ns p).ty))++(λp=>qQ p (ek pg.ts (eW pg.ns p).ty)) nd.list[j]:=by rw[List.take_succ_eq_append_getElem bm,List.flatMap_append,List.flatMap_singleton]
   have hle: ((nd.list.take (j+1)).flatMap (λp=>qQ p (ek pg.ts (eW pg.ns p).ty))).length≤(nd.list.flatMap (λp=>qQ p (ek pg.ts (eW pg.ns p).ty))).length:=by
    have h2:nd.list.flatMap (λp=>qQ p (ek pg.ts (eW pg.ns p).ty))=(nd.list.take (j+1)).flatMap (λp=>qQ p (ek pg.ts (eW pg.ns p).ty))++(nd.list.drop (j+1)).flatMap (λp=>qQ p (ek pg.ts (eW pg.ns p).ty)):=by rw[←List.flatMap_append,List.take_append_drop]
    rw[h2,List.length_append];omega
   have Xc: (o++(nd.list.take j).flatMap (λp=>qQ p (ek pg.ts (eW pg.ns p).ty))).length≤100000:=by
    rw[Cm]at hle
    have h2:=LG.o;rw[List.length_append]at hle h2⊢
    omega
   have zm:=qh Cm;clear Cm hle;have Tl:nd.list[j]<pg.ns.length:=by omega
   obtain⟨q,hq⟩:∃q,pg.ns[nd.list[j]]?=some q:=⟨_,List.getElem?_eq_getElem Tl⟩
   have Us:=qh (cj hq);have Qk:=qh ((E.P.ok.ns q (List.mem_of_getElem? hq)).ty);have Rm:=qh hq;generalize nd.list[j]=ix at*
   have OZ:=qh (λ(R:EW)(hR:∀lv w',Below wr.drew.heap.size wr.drew w'→R (.returned (.agg #[.int .i64 q.kind,.int .i64 q.a,.int .i64 q.b,.int .i64 q.c,lv,.string q.text,.int .i64 q.n,.int .i64 q.ty,.int .i64 q.pos])) w')=>jh (w:=wr.drew) (pb:=pb) (cb:=cb) (R:=R) E.P r_.drew Rm.o p0 jS fX.drew.c0 fX.drew.lt λlv w' fU _=>hR lv w' fU);have Ot:wr.drew.cell? ⟨pb,0,none⟩=some (.pointer (some ⟨cb,0,none⟩)):=p0;have H0:=qh g1.drew;have OV:=qh (λt(e:ek pg.ts q.ty=some t)=>(jZ E.P.ok Qk.o e).1);clear j5 hS hq H4 g1 fX r_ YW Tl;go_wp2_with fail;go_region_held3(λw'=>w'.cell? ⟨pb,0,none⟩=some (.pointer (some ⟨cb,0,none⟩))) (first|exact Ot|exact ze|exact py)
    (first
     |(go_at_call 163;refine OZ.o _ (λYz w5 dW=>?_);have g5:=H0.o.below dW;have ze:w5.cell? ⟨pb,0,none⟩=some (.pointer (some ⟨cb,0,none⟩)):=g5.cell 1 rfl 0 rfl;have Vy:=qh (λR=>hJ (cb:=cb) (R:=R) E.P (dq.o _ _ 0 g5 rfl) (E.W.below (dq.o _ _ 0 g5 rfl)).c1 (E.W.below (dq.o _ _ 0 g5 rfl)).lt Qk.o);have H5:=qh g5;clear dW g5)
     |(go_at_call 154;refine Vy.o _ (λv w6 h6=>?_);have g6:=H5.o.join h6;have py:w6.cell? ⟨pb,0,none⟩=some (.pointer (some ⟨cb,0,none⟩)):=g6.cell 1 rfl 0 rfl;have H6:=qh g6;clear h6 g6))
   all_goals
    have Hc:=H6.o.get (i:=5) rfl λ_ ha hl=>EV ha hl
    have g7:=H6.o.pick [0,1,2,3,4];cases tw:ek pg.ts q.ty with
    |none=>
     rw[tw]at Hc
     have aai:v=.pointer none:=Hc;subst aai;have HE:Hq (Sat wB w6 [ah [Fr,ay w2.heap.size (aD nd (.slice (some ⟨gl,0,none⟩) nd.list.length lc))],xH pb cb (o++(nd.list.take (j+1)).flatMap (λp=>qQ p (ek pg.ts (eW pg.ns p).ty))) bk]):=by
      show Sat _ _ _;rw[zm.o,show qQ ix (ek pg.ts (eW pg.ns ix).ty)=[]by rw[Us.o,tw];rfl,List.append_nil];exact g7.lr sh.o
     clear Hc g7 tw H6;go_wp2_with fail;go_roundw
     case rel=>exact⟨j+1,by go_num,by omega,HE⟩
     case measure=>simp[intOf];omega
    |some t=>
     rw[tw]at Hc
     obtain⟨bt,rfl⟩:=aP Hc;have HG:=qh (λR=>ig (R:=R) (n:=ix) g7 Hc (OV.o t tw) Xc);have sW:=qh (λ(eI:Value)(w':World)(h:Sat wB w' (ah [Fr,ay w2.heap.size (aD nd (.slice (some ⟨gl,0,none⟩) nd.list.length lc))]::fA pb cb eI bv (o++(nd.list.take j).flatMap (λp=>qQ p (ek pg.ts (eW pg.ns p).ty))++rR ix t) bl h1))=>(show Hq (Sat wB w' [ah [Fr,ay w2.heap.size (aD nd (.slice (some ⟨gl,0,none⟩) nd.list.length lc))],xH pb cb (o++(nd.list.take (j+1)).flatMap (λp=>qQ p (ek pg.ts (eW pg.ns p).ty))) bk])from by
      show Sat _ _ _;rw[zm.o,show qQ ix (ek pg.ts (eW pg.ns ix).ty)=rR ix t by rw[Us.o,tw];rfl,←List.append_assoc];exact h.lr sh.o))
     clear Hc g7 tw H6;go_wp2_with fail;refine HG.o _ (λXM w7 h7=>?_);have HE:=sW.o XM w7 h7;clear h7;go_wp2_with fail;go_roundw
     case rel=>exact⟨j+1,by go_num,by omega,HE⟩
     case measure=>simp[intOf];omega
  ·have ju:j=nd.list.length:=by omega
   subst ju;rw[List.take_length]at g1
   obtain⟨ba,bc,rfl⟩:=ag (g1.row 3 rfl);have p2:=g1.cell 1 rfl 2 rfl;have JV:bl.length≤100000:=by have:=j5.len;have:=j5.nf;omega
   have x7:=((g1.unpack (i:=0) rfl).cell 5 rfl 7 rfl)
   have KR:=((g1.unpack (i:=0) rfl).lt 5 rfl)
   have b_:=qh (λR=>hJ (cb:=cb) (R:=R) E.P r_.drew fX.drew.c1 fX.drew.lt HZ.o);have H0:=qh g1.drew;have E7:=qh (λt(e:ek pg.ts nd.ty=some t)=>(jZ E.P.ok HZ.o e).1);have acr:=qh (λt(e:ek pg.ts nd.ty=some t)=>(jZ E.P.ok HZ.o e).1.ok);clear g1 j5 hS bm H4 hj fX r_;go_wp2_with fail;go_region_law(first|(go_simp;go_at_call 154;refine b_.o _ (λv w5 h5=>?_);obtain⟨h2,vq,hle,rfl,Sl,g5⟩:=Sat.OM (L:=[ah [Fr,ay w2.heap.size (aD nd (.slice la nd.list.length lc))],ay pb (UI cb ov (.slice ba bl.length bc)),CR ov (o++nd.list.flatMap (λp=>qQ p (ek pg.ts (eW pg.ns p).ty))),ak.row 107 1 (.slice ba bl.length bc) bl.length bl]) (o:=ek pg.ts nd.ty) acr.o (H0.o.join h5);have p2:=g5.cell 1 rfl 2 rfl;have abe:=g5.lt 1 rfl;have S':=g5.aU (.cells #[.pointer vq] 107);have adk:=S'.cell 1 rfl 2 rfl;have Wi:=qh Sl;have zk:=qh hle;have H5:=qh g5;clear h5 Sl hle g5 S')|(go_loud(refine step_append_lies _ (by rfl) _ _ _ (by rfl) 0 107 j0 _ 1 8 underlying104 tj qP rJ rI rfl (by omega) (.slice ba bl.length bc) bl.length bl (by rfl) ((H5.o.row 3 rfl).alloc _) ⟨w5.heap.size,0,none⟩ 1 1 [.pointer vq] (by rfl) (by rfl) (World.news_of_block (cs:=#[.pointer vq]) (t:=107) (fr:=(0,0)) (aH _ _ _ (by simp))) (by simp[Value.oneCell']) (by omega) (by unfold maxLen;omega) (by omega) (by simp) (w5.heap.size+1) (by simp) ?_);intro g4 eJ w6 cq bC ga mY;have h8:=Sat.grow (H5.o.aU _) 3 rfl bC cq (by simpa using ga);have ac4:=h8.cell 1 rfl 2 rfl;have acS:=h8.free 1 rfl 2;have Qn:=h8.lt 1 rfl;have H8:=qh h8;clear h8))
   all_goals
    clear cq bC;have g9:=H8.o.store 1 rfl 2 (.slice (some ⟨g4,0,none⟩) (bl.length+1) eJ);have g10:=g9.cG (i:=3) rfl (Q:=ak.row 107 1 (.slice (some ⟨g4,0,none⟩) (bl.length+1) eJ) (bl++[Value.pointer vq]).length (bl++[Value.pointer vq])) (λ_ h=>jc h);have x1:=((g10.unpack (i:=0) rfl).cell 5 rfl 1 rfl)
    have Wq:bk.length+1≤100000:=by omega
    have Ya:=Sat.lr (Fr:=ah [Fr,ay w2.heap.size (aD nd (.slice la nd.list.length lc))]) (pb:=pb) (cb:=cb) (ov:=ov) (bv:=.slice (some ⟨g4,0,none⟩) (bl.length+1) eJ) (o:=o++nd.list.flatMap (λp=>qQ p (ek pg.ts (eW pg.ns p).ty))) (bl:=bl++[Value.pointer vq]) (h1:=h2) ((sh.o.up zk.o).push Wi.o E7.o Wq) g10;have H6:=qh Ya;clear g9 g10 Ya H8 H5 H0 sh;go_wp2_with fail;refine wM.o _ _ _ dq.o H6.o ace.o (by have:=LG.o;rw[List.length_append]at this⊢;omega) (by rw[List.length_append];simp only[List.length_cons,List.length_nil];omega) _ (λw8 h8=>?_);obtain⟨qR,adu,Gl,jj,I5,k3⟩:=h8.mR;have hlen:Gl.length=bk.length+1:=by have:=I5.len;simp at this;exact this
    obtain⟨Ey,F5,rfl⟩:=ag (k3.row 3 rfl);have hbk:bk.length≤100000:=by have:=I5.nf;simp at this;omega
    have hcap:bk.length≤F5:=by
     rcases(k3.row 3 rfl).2 with⟨h1,h2⟩|⟨g,cap,cur,h1,_,_,h3,_⟩
     ·simp only[Value.slice.injEq]at h1;omega
     ·simp only[Value.slice.injEq]at h1;omega
    have p2:=k3.cell 1 rfl 2 rfl;rw[show(#[Value.pointer (some ⟨cb,0,none⟩),qR,Value.slice Ey Gl.length F5]:Array Value)[2]=Value.slice Ey (bk.length+1) F5 by rw[←hlen];rfl]at p2
    have f2:=k3.free 1 rfl 2;have Qn:=k3.lt 1 rfl;have hw:=IntWalk.i64_in (n:=(bk.length:Int)) (by omega);have hs:IntKind.i64.wrap (((bk.length+1:Nat):Int)-1)=(bk.length:Int):=by rw[show((bk.length+1:Nat):Int)-1=(bk.length:Int)by omega];exact hw
    have H':=Am Ey (bk.length+1) F5 bk.length hcap;have K3:=qh k3;have Pd:=qh I5;have vy:=qh hlen;clear h8 k3 I5 hlen H6 hcap;go_wp2_with fail
    go_region
    all_goals
     have k9:=(K3.out.store 1 rfl 2 (.slice Ey bk.length F5)).drew;have vD:=k9.cG (i:=3) rfl (Q:=ak.row 107 1 (.slice Ey bk.length F5) (Gl.take bk.length).length (Gl.take bk.length)) (λ_ h=>by rw[show(Gl.take bk.length).length=bk.length by have:=vy.o;simp;omega];exact wJ vy.o (by rw[vy.o]at h⊢;exact h));have Vs:=Sat.lr (Fr:=ah [Fr,ay w2.heap.size (aD nd (.slice la nd.list.length lc))]) (pb:=pb) (cb:=cb) (ov:=qR) (bv:=.slice Ey bk.length F5) (bl:=Gl.take bk.length) (h1:=jj) Pd.o.pop vD;rw[List.append_assoc]at Vs
     have H5:=qh Vs;clear k9 vD Vs Pd K3 f2 p2 hw hs H' Qn;generalize World.drew (World.setCell w8 _ _)=wz at*
     obtain⟨ov,bv,bl,h1,hI,g1⟩:=H5.o.mR;have g2:=g1.unpack (i:=0) rfl;have x0:=g2.cell 5 rfl 0 rfl;have x1:=g2.cell 5 rfl 1 rfl;have x2:=g2.cell 5 rfl 2 rfl;have x3:=g2.cell 5 rfl 3 rfl;have x4:=g2.cell 5 rfl 4 rfl;have x5:=g2.cell 5 rfl 5 rfl;have x6:=g2.cell 5 rfl 6 rfl;have x7:=g2.cell 5 rfl 7 rfl;have x8:=g2.cell 5 rfl 8 rfl;have KR:=g2.lt 5 rfl;have HO:=qh (λR=>lJ (R:=R) dq.o (E.at HN.o j4.o) hI (λh e=>xW (by rw[e];rfl) h) g1 (by rw[List.length_append];omega));have LV:=qh (λ(eI:Value)(w':World)(h:Sat wB w' (ah [Fr,ay w2.heap.size (aD nd (.slice la nd.list.length lc))]::fA pb cb eI bv (o++(nd.list.flatMap (λp=>qQ p (ek pg.ts (eW pg.ns p).ty))++gS pg X.a_ s f nd.a (bk++[ek pg.ts nd.ty]))++dv pg X.a_ s id nd bk) bl h1))=>HR.o w' (by rw[←List.append_assoc];exact((h.lr hI).unpack (i:=0) rfl).pick [1,0]));clear g1 g2 hI H5;go_wp2_with fail;refine HO.o _ (λeI w9 h9=>?_);have HE:=qh (LV.o eI w9 h9);clear h9;go_wp2_with fail;go_end0;exact HE.o
end
end
end Go.Proofs.YtdlbhiaceheffabGreatDoor
