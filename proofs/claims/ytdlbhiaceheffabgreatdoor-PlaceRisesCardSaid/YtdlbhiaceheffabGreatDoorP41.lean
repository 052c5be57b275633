/- Walk of place: visit. (Printed by gen_pl6.py.) -/
import Derived.Test.YtdlbhiaceheffabGreatDoorP32
import Derived.Test.YtdlbhiaceheffabGreatDoorP40
set_option linter.all false
set_option maxRecDepth 100000
set_option maxHeartbeats 8000000
namespace Go.Proofs.YtdlbhiaceheffabGreatDoor
open Go Go.RowKit Ty Tok ak Tryz Proofs.Tryz
section
open Ty (Tr Ck lD)
section
variable {w:World} {a b fn ps:Nat} {c ty:Int} {l:List Nat} {tx:BA} {lv:Value}
theorem Dh{R:EW}(hR:∀v w',Sat w w' [bE w,jM ⟨17,a,b,c,l,tx,fn,ty,ps⟩ lv v [a]]→R (.returned v) w'):
  Calls prog 157 #[aK ⟨17,a,b,c,l,tx,fn,ty,ps⟩ lv] w R:=by
 have h1:=(((Sat.fw w).aU (aD ⟨17,a,b,c,l,tx,fn,ty,ps⟩ lv)).aj (.cells #[.int .i64 a] 3) (w.heap.size+1)).cG (i:=1) rfl (Q:=jM ⟨17,a,b,c,l,tx,fn,ty,ps⟩ lv (.slice (some ⟨w.heap.size+1,0,none⟩) 1 1) [a]) (λ_ h=>.inr (ch h rfl (by simp[maxLen]) (by simp[aS])));have HR:=qh (hR _ _ h1);clear hR h1;dsimp only[aK]at*
 go_in;go_wp2_with fail;exact HR.o
end
theorem Au{w:World}{nd:Ty.Nd}{lv:Value}(hk:nd.kind≠6∧nd.kind≠16∧nd.kind≠22∧nd.kind≠26)(h1:1≤nd.kind∧nd.kind≤26)(hc:nd.kind=20→0≤nd.c)(hl:w.ownsRow 0 3 1 lv nd.list.length (nd.list.map aS))(BE:nd.list.length≤1000000){R:EW}
  (hR:∀v w',Sat w w' [bE w,jM nd lv v (aC nd)]→R (.returned v) w'):Calls prog 157 #[aK nd lv] w R:=by
 by_cases h5:nd.kind=17
 ·obtain⟨kd,a,b,c,l,tx,fn,ty,ps⟩:=nd;dsimp only at h5;subst h5;exact Dh hR
 exact nF ⟨hk.1,hk.2.1,h5,hk.2.2.1,hk.2.2.2⟩ h1 hc hl BE hR
structure PlE(wB:World)(X:Cx)(pg:Ty.Pg)(cb ofb hasb:Nat)(s:Ck)(h0:ak.Hp):Prop where
 P:PB wB X.nv X.tv pg
 W:CkW wB cb X ofb hasb s h0
 Q:∀n nd,pg.ns[n]?=some nd→NdQ pg X.a_ s n nd
section
variable {wB:World} {pb cb ofb hasb:Nat} {X:Cx} {s:Ck} {h0:ak.Hp} {pg:Ty.Pg}
theorem PlE.at(E:PlE wB X pg cb ofb hasb s h0){id:Nat}{nd:Ty.Nd}(hn:pg.ns[id]?=some nd){lv:Value}(hr:wB.ownsRow 0 3 1 lv nd.list.length (nd.list.map aS)):PlN wB X pg cb ofb hasb s h0 id nd lv:=by
 have h1:=dA hn;have h2:=E.P.ok.kO;have h3:=(E.Q id nd hn).len;exact⟨E.P,E.W,E.Q id nd hn,by omega,(E.P.ok.ns nd (List.mem_of_getElem? hn)).ty,hr,by omega⟩
theorem pR{f id:Nat}{nd:Ty.Nd}{bk:List (Option Tr)}(hn:pg.ns[id]?=some nd){A:lD}(hA: (if nd.kind=6 then nd.list.flatMap (λp=>qQ p (ek pg.ts (eW pg.ns p).ty))++gS pg X.a_ s f nd.a (bk++[ek pg.ts nd.ty])else(dM nd).flatMap λm=>gS pg X.a_ s f m bk)=A):gS pg X.a_ s (f+1) id bk=A++dv pg X.a_ s id nd bk:=by
 rw[gS,cj hn,hA]
theorem FW(E:PlE wB X pg cb ofb hasb s h0){id:Nat}{nd:Ty.Nd}(hn:pg.ns[id]?=some nd)(hk:nd.kind≠6∧nd.kind≠22∧nd.kind≠26)(hC:∀m∈cX nd,m<id∧(m<id→zT wB X pg s pb cb m)):zT wB X pg s pb cb id:=by
 intro f hf bk o w Fr hF H hv hc hb R hR;obtain⟨f,rfl⟩:∃g,f=g+1:=⟨f-1,by omega⟩
 rw[pR hn (A:=((dM nd).flatMap λm=>gS pg X.a_ s f m bk)) (by rw[if_neg hk.1])]at hc hR
 obtain⟨Mm,xW,OA,Hc⟩:=Vis.inv hn hv;have hw:=E.W.below (hF _ _ 0 H rfl);obtain⟨p0,jS⟩:=H.Hs;have eE:=qh (λR=>jh (R:=R) E.P (hF _ _ 0 H rfl) hn p0 jS hw.c0 hw.lt);have HR:=qh hR;have HF:=qh hF;have H1:=qh H;have HN:=qh hn;have HQ:=qh (E.Q id nd hn);have bm:=dA hn;have kN:=E.P.ok.kO;have oV:=HQ.o.len;rw[List.length_append]at hc
 have k6: (((nd.kind:Nat):Int)==6)=false:=by exact beq_eq_false_iff_ne.2 (by omega)
 have TV: (((nd.kind:Nat):Int)==22)=false:=by exact beq_eq_false_iff_ne.2 (by omega)
 have Q7: (((nd.kind:Nat):Int)==26)=false:=by exact beq_eq_false_iff_ne.2 (by omega)
 have sM:cX nd=dM nd:=by unfold cX;rw[if_neg (by omega)]
 have Lu:=qh (λm(hm:m∈dM nd)=>(show zT wB X pg s pb cb m∧m<f∧Vis pg.ns (!bk.isEmpty) m from⟨(hC m (by rw[sM];exact hm)).2 (hC m (by rw[sM];exact hm)).1,by have:=(hC m (by rw[sM];exact hm)).1;omega,OA (by omega) m (by rw[sM];exact hm)⟩));have Ou:=qh (λm(hm:m∈dM nd)=>(show bk.length+m≤100000 from by have:=(hC m (by rw[sM];exact hm)).1;omega));have v7:=lf nd;clear hR hF hn H hw p0 jS;go_enter func95,ntmps95;go_wp2_with fail;refine eE.o _ (λlv w2 aI cI=>?_);obtain⟨la,lc,rfl⟩:=ag cI;unfold aK;have h3:=(H1.o.below aI).aj (aD nd (.slice la nd.list.length lc)) w2.heap.size;have x0:=h3.cell 2 rfl 0 rfl;have x1:=h3.cell 2 rfl 1 rfl;have x2:=h3.cell 2 rfl 2 rfl;have x3:=h3.cell 2 rfl 3 rfl;have x4:=h3.cell 2 rfl 4 rfl;have x5:=h3.cell 2 rfl 5 rfl;have x6:=h3.cell 2 rfl 6 rfl;have x7:=h3.cell 2 rfl 7 rfl;have x8:=h3.cell 2 rfl 8 rfl;have H4:=qh ((Sat.pack (L:=[_]) (M:=[Fr,ay w2.heap.size (aD nd (.slice la nd.list.length lc))]) (h3.pick [1,0,2])).pick [1,0]);have dq:=qh (HF.o.ah (M:=[ay w2.heap.size (aD nd (.slice la nd.list.length lc))]));have j4:=qh cI;clear h3 aI cI H1 eE;go_wp2_with fail;have oH:=qh (λ(w3:World)(dD:Below wB.heap.size wB w3) R hR=>Au (w:=w3) (nd:=nd) (lv:=.slice la nd.list.length lc) (R:=R) ⟨hk.1,Mm.1,hk.2.1,hk.2.2⟩ Mm.2 HQ.o.lay (az j4.o dD) (by omega) hR);refine oH.o _ (dq.o _ _ 0 H4.o rfl) _ (λv3 w3 h3=>?_);have h5:=H4.o.join h3;have bJ:=kY h5 2 rfl (az j4.o (dq.o w3 _ 0 h5 rfl));obtain⟨va,vc,rfl⟩:=ag bJ;have H6:=qh ((Sat.pack (L:=[_]) (M:=[ah [Fr,ay w2.heap.size (aD nd (.slice la nd.list.length lc))],jM nd (.slice la nd.list.length lc) (.slice va (aC nd).length vc) (aC nd)]) (h5.pick [1,0,2])).pick [1,0]);clear h3 h5 bJ;go_wp2_with fail;refine ow (ids:=aC nd) (f:=f) dq.o.ah Lu.o (λw1 L i hs hi=>?_) (by omega) H6.o (by show _+((dM nd).flatMap λm=>gS pg X.a_ s f m bk).length≤_;omega) Ou.o (λw8 h8=>?_)
 ·have h1:=hs.unpack hi;exact kY h1 ((L.eraseIdx i).length+1) (by rw[List.getElem?_append_right (by omega),show(L.eraseIdx i).length+1-(L.eraseIdx i).length=1 by omega];rfl) (az j4.o (dq.o w1 _ (L.eraseIdx i).length h1 (by rw[List.getElem?_append_right (by omega),Nat.sub_self];rfl)))
 have H5:Hq (Sat wB w8 [ah [Fr,ay w2.heap.size (aD nd (.slice la nd.list.length lc))],xH pb cb (o++((dM nd).flatMap λm=>gS pg X.a_ s f m bk)) bk]):=((h8.unpack (i:=0) rfl).pick [1,0])
 clear h8 H6 oH;obtain⟨ov,bv,bl,h1,hI,g1⟩:=H5.o.mR;have g2:=g1.unpack (i:=0) rfl;have x0:=g2.cell 5 rfl 0 rfl;have x1:=g2.cell 5 rfl 1 rfl;have x2:=g2.cell 5 rfl 2 rfl;have x3:=g2.cell 5 rfl 3 rfl;have x4:=g2.cell 5 rfl 4 rfl;have x5:=g2.cell 5 rfl 5 rfl;have x6:=g2.cell 5 rfl 6 rfl;have x7:=g2.cell 5 rfl 7 rfl;have x8:=g2.cell 5 rfl 8 rfl;have KR:=g2.lt 5 rfl;have HO:=qh (λR=>lJ (R:=R) dq.o (E.at HN.o j4.o) hI (λh e=>xW (by rw[e];rfl) h) g1 (by rw[List.length_append];omega));have LV:=qh (λ(eI:Value)(w':World)(h:Sat wB w' (ah [Fr,ay w2.heap.size (aD nd (.slice la nd.list.length lc))]::fA pb cb eI bv (o++((dM nd).flatMap λm=>gS pg X.a_ s f m bk)++dv pg X.a_ s id nd bk) bl h1))=>HR.o w' (by rw[←List.append_assoc];exact((h.lr hI).unpack (i:=0) rfl).pick [1,0]));clear g1 g2 hI H5;go_wp2_with fail;refine HO.o _ (λeI w9 h9=>?_);have HE:=qh (LV.o eI w9 h9);clear h9;go_wp2_with fail;go_end0;exact HE.o
theorem G'(E:PlE wB X pg cb ofb hasb s h0){id:Nat}{nd:Ty.Nd}(hn:pg.ns[id]?=some nd)(hk:nd.kind=26)(hC:∀m∈cX nd,m<id∧(m<id→zT wB X pg s pb cb m)):zT wB X pg s pb cb id:=by
 intro f hf bk o w Fr hF H hv hc hb R hR;obtain⟨f,rfl⟩:∃g,f=g+1:=⟨f-1,by omega⟩
 rw[pR hn (A:=(nd.list.flatMap λm=>gS pg X.a_ s f m bk)) (by rw[if_neg (by omega),show dM nd=nd.list by unfold dM;rw[if_neg (by omega),if_pos (by omega)]])]at hc hR
 obtain⟨Mm,xW,OA,Hc⟩:=Vis.inv hn hv;have hw:=E.W.below (hF _ _ 0 H rfl);obtain⟨p0,jS⟩:=H.Hs;have eE:=qh (λR=>jh (R:=R) E.P (hF _ _ 0 H rfl) hn p0 jS hw.c0 hw.lt);have HR:=qh hR;have HF:=qh hF;have H1:=qh H;have HN:=qh hn;have HQ:=qh (E.Q id nd hn);have bm:=dA hn;have kN:=E.P.ok.kO;have oV:=HQ.o.len;rw[List.length_append]at hc
 have k6: (((nd.kind:Nat):Int)==6)=false:=by exact beq_eq_false_iff_ne.2 (by omega)
 have Q7: (((nd.kind:Nat):Int)==26)=true:=by rw[hk];rfl
 have sM:cX nd=nd.list:=by unfold cX dM;rw[if_neg (by omega),if_neg (by omega),if_pos (by omega)]
 have Lu:=qh (λm(hm:m∈nd.list)=>(show zT wB X pg s pb cb m∧m<f∧Vis pg.ns (!bk.isEmpty) m from⟨(hC m (by rw[sM];exact hm)).2 (hC m (by rw[sM];exact hm)).1,by have:=(hC m (by rw[sM];exact hm)).1;omega,OA (by omega) m (by rw[sM];exact hm)⟩));have Ou:=qh (λm(hm:m∈nd.list)=>(show bk.length+m≤100000 from by have:=(hC m (by rw[sM];exact hm)).1;omega));have HK:=qh hk;clear hk;clear hR hF hn H hw p0 jS;go_enter func95,ntmps95;go_wp2_with fail;refine eE.o _ (λlv w2 aI cI=>?_);obtain⟨la,lc,rfl⟩:=ag cI;unfold aK;have h3:=(H1.o.below aI).aj (aD nd (.slice la nd.list.length lc)) w2.heap.size;have x0:=h3.cell 2 rfl 0 rfl;have x1:=h3.cell 2 rfl 1 rfl;have x2:=h3.cell 2 rfl 2 rfl;have x3:=h3.cell 2 rfl 3 rfl;have x4:=h3.cell 2 rfl 4 rfl;have x5:=h3.cell 2 rfl 5 rfl;have x6:=h3.cell 2 rfl 6 rfl;have x7:=h3.cell 2 rfl 7 rfl;have x8:=h3.cell 2 rfl 8 rfl;have H4:=qh ((Sat.pack (L:=[_]) (M:=[Fr,ay w2.heap.size (aD nd (.slice la nd.list.length lc))]) (h3.pick [1,0,2])).pick [1,0]);have dq:=qh (HF.o.ah (M:=[ay w2.heap.size (aD nd (.slice la nd.list.length lc))]));have j4:=qh cI;clear h3 aI cI H1 eE;go_wp2_with fail;refine ow (ids:=nd.list) (f:=f) dq.o Lu.o (λw1 L i hs hi=>az j4.o (dq.o w1 L i hs hi)) (by omega) H4.o (by show _+(nd.list.flatMap λm=>gS pg X.a_ s f m bk).length≤_;omega) Ou.o (λw8 h8=>?_);have H5:Hq (Sat wB w8 [ah [Fr,ay w2.heap.size (aD nd (.slice la nd.list.length lc))],xH pb cb (o++(nd.list.flatMap λm=>gS pg X.a_ s f m bk)) bk]):=h8;clear h8 H4;obtain⟨ov,bv,bl,h1,hI,g1⟩:=H5.o.mR;have g2:=g1.unpack (i:=0) rfl;have x0:=g2.cell 5 rfl 0 rfl;have x1:=g2.cell 5 rfl 1 rfl;have x2:=g2.cell 5 rfl 2 rfl;have x3:=g2.cell 5 rfl 3 rfl;have x4:=g2.cell 5 rfl 4 rfl;have x5:=g2.cell 5 rfl 5 rfl;have x6:=g2.cell 5 rfl 6 rfl;have x7:=g2.cell 5 rfl 7 rfl;have x8:=g2.cell 5 rfl 8 rfl;have KR:=g2.lt 5 rfl;have HO:=qh (λR=>lJ (R:=R) dq.o (E.at HN.o j4.o) hI (λh e=>xW (by rw[e];rfl) h) g1 (by rw[List.length_append];omega));have LV:=qh (λ(eI:Value)(w':World)(h:Sat wB w' (ah [Fr,ay w2.heap.size (aD nd (.slice la nd.list.length lc))]::fA pb cb eI bv (o++(nd.list.flatMap λm=>gS pg X.a_ s f m bk)++dv pg X.a_ s id nd bk) bl h1))=>HR.o w' (by rw[←List.append_assoc];exact((h.lr hI).unpack (i:=0) rfl).pick [1,0]));clear g1 g2 hI H5;go_wp2_with fail;refine HO.o _ (λeI w9 h9=>?_);have HE:=qh (LV.o eI w9 h9);clear h9;go_wp2_with fail;go_end0;exact HE.o
theorem MW(E:PlE wB X pg cb ofb hasb s h0){id:Nat}{nd:Ty.Nd}(hn:pg.ns[id]?=some nd)(hk:nd.kind=22)(zf:nd.c<0)(hC:∀m∈cX nd,m<id∧(m<id→zT wB X pg s pb cb m)):zT wB X pg s pb cb id:=by
 intro f hf bk o w Fr hF H hv hc hb R hR;obtain⟨f,rfl⟩:∃g,f=g+1:=⟨f-1,by omega⟩
 rw[pR hn (A:=(gS pg X.a_ s f nd.a bk++(gS pg X.a_ s f nd.b bk++[]))) (by rw[if_neg (by omega),show dM nd=[nd.a,nd.b]by unfold dM;rw[if_neg (by omega),if_neg (by omega),if_neg (by omega),if_neg (by omega),if_pos (by omega),if_pos zf]];rfl)]at hc hR
 obtain⟨Mm,xW,OA,Hc⟩:=Vis.inv hn hv;have hw:=E.W.below (hF _ _ 0 H rfl);obtain⟨p0,jS⟩:=H.Hs;have eE:=qh (λR=>jh (R:=R) E.P (hF _ _ 0 H rfl) hn p0 jS hw.c0 hw.lt);have HR:=qh hR;have HF:=qh hF;have H1:=qh H;have HN:=qh hn;have HQ:=qh (E.Q id nd hn);have bm:=dA hn;have kN:=E.P.ok.kO;have oV:=HQ.o.len;rw[List.length_append]at hc
 have k6: (((nd.kind:Nat):Int)==6)=false:=by exact beq_eq_false_iff_ne.2 (by omega)
 have Q7: (((nd.kind:Nat):Int)==26)=false:=by exact beq_eq_false_iff_ne.2 (by omega)
 have TV: (((nd.kind:Nat):Int)==22)=true:=by rw[hk];rfl
 have sM:cX nd=dM nd:=by unfold cX;rw[if_neg (by omega)]
 have Lu:=qh (λm(hm:m∈dM nd)=>(show zT wB X pg s pb cb m∧m<f∧Vis pg.ns (!bk.isEmpty) m from⟨(hC m (by rw[sM];exact hm)).2 (hC m (by rw[sM];exact hm)).1,by have:=(hC m (by rw[sM];exact hm)).1;omega,OA (by omega) m (by rw[sM];exact hm)⟩));have Ou:=qh (λm(hm:m∈dM nd)=>(show bk.length+m≤100000 from by have:=(hC m (by rw[sM];exact hm)).1;omega));have sJ:=qh (show dM nd=[nd.a,nd.b]by unfold dM;rw[if_neg (by omega),if_neg (by omega),if_neg (by omega),if_neg (by omega),if_pos (by omega),if_pos zf]);have kc:decide ((0:Int)≤nd.c)=false:=decide_eq_false (by omega);have HK:=qh hk;clear hk;clear hR hF hn H hw p0 jS;go_enter func95,ntmps95;go_wp2_with fail;refine eE.o _ (λlv w2 aI cI=>?_);obtain⟨la,lc,rfl⟩:=ag cI;unfold aK;have h3:=(H1.o.below aI).aj (aD nd (.slice la nd.list.length lc)) w2.heap.size;have x0:=h3.cell 2 rfl 0 rfl;have x1:=h3.cell 2 rfl 1 rfl;have x2:=h3.cell 2 rfl 2 rfl;have x3:=h3.cell 2 rfl 3 rfl;have x4:=h3.cell 2 rfl 4 rfl;have x5:=h3.cell 2 rfl 5 rfl;have x6:=h3.cell 2 rfl 6 rfl;have x7:=h3.cell 2 rfl 7 rfl;have x8:=h3.cell 2 rfl 8 rfl;have H4:=qh ((Sat.pack (L:=[_]) (M:=[Fr,ay w2.heap.size (aD nd (.slice la nd.list.length lc))]) (h3.pick [1,0,2])).pick [1,0]);have dq:=qh (HF.o.ah (M:=[ay w2.heap.size (aD nd (.slice la nd.list.length lc))]));have j4:=qh cI;clear h3 aI cI H1 eE;go_wp2_with fail;have h5:=(H4.o.unpack (i:=0) rfl).aj (.cells #[.int .i64 (nd.a:Nat),.int .i64 (nd.b:Nat)] 3) (w2.heap.size+1) (by simp);have h6:=h5.cG (i:=3) rfl (Q:=eZ (.slice (some ⟨w2.heap.size+1,0,none⟩) 2 2) [nd.a,nd.b]) (λ_ h=>ch h rfl (by simp[maxLen]) (by simp[aS]));have Il:=qh (HF.o.ah (M:=[ay w2.heap.size (aD nd (.slice la nd.list.length lc)),eZ (.slice (some ⟨w2.heap.size+1,0,none⟩) 2 2) [nd.a,nd.b]]));have H6:=qh ((Sat.pack (L:=[_]) (M:=[Fr,ay w2.heap.size (aD nd (.slice la nd.list.length lc)),eZ (.slice (some ⟨w2.heap.size+1,0,none⟩) 2 2) [nd.a,nd.b]]) h6).pick [1,0]);clear h5 h6 H4;refine ow (ids:=[nd.a,nd.b]) (f:=f) Il.o (λm hm=>Lu.o m (by rw[sJ.o];simp at hm⊢;omega)) (λw1 L i hs hi=>?_) (by simp) H6.o (by show _+(gS pg X.a_ s f nd.a bk++(gS pg X.a_ s f nd.b bk++[])).length≤_;have:=hc;simp only[List.length_append,List.length_nil]at this⊢;omega) (λm hm=>Ou.o m (by rw[sJ.o];simp at hm⊢;omega)) (λw8 h8=>?_)
 ·have h1:=hs.unpack hi;exact h1.row ((L.eraseIdx i).length+2) (by rw[List.getElem?_append_right (by omega),show(L.eraseIdx i).length+2-(L.eraseIdx i).length=2 by omega];rfl)
 have hu:=h8.unpack (i:=0) rfl;have x3:=hu.cell 2 rfl 3 rfl;have KR:=hu.lt 2 rfl;have H7:Hq (Sat wB w8 [ah [Fr,ay w2.heap.size (aD nd (.slice la nd.list.length lc))],xH pb cb (o++(gS pg X.a_ s f nd.a bk++(gS pg X.a_ s f nd.b bk++[]))) bk]):=((Sat.pack (L:=[_]) (M:=[Fr,ay w2.heap.size (aD nd (.slice la nd.list.length lc))]) (hu.pick [0,1,2])).pick [1,0])
 clear h8 hu H6;have H5:=H7;clear H7;obtain⟨ov,bv,bl,h1,hI,g1⟩:=H5.o.mR;have g2:=g1.unpack (i:=0) rfl;have x0:=g2.cell 5 rfl 0 rfl;have x1:=g2.cell 5 rfl 1 rfl;have x2:=g2.cell 5 rfl 2 rfl;have x3:=g2.cell 5 rfl 3 rfl;have x4:=g2.cell 5 rfl 4 rfl;have x5:=g2.cell 5 rfl 5 rfl;have x6:=g2.cell 5 rfl 6 rfl;have x7:=g2.cell 5 rfl 7 rfl;have x8:=g2.cell 5 rfl 8 rfl;have KR:=g2.lt 5 rfl;have HO:=qh (λR=>lJ (R:=R) dq.o (E.at HN.o j4.o) hI (λh e=>xW (by rw[e];rfl) h) g1 (by rw[List.length_append];omega));have LV:=qh (λ(eI:Value)(w':World)(h:Sat wB w' (ah [Fr,ay w2.heap.size (aD nd (.slice la nd.list.length lc))]::fA pb cb eI bv (o++(gS pg X.a_ s f nd.a bk++(gS pg X.a_ s f nd.b bk++[]))++dv pg X.a_ s id nd bk) bl h1))=>HR.o w' (by rw[←List.append_assoc];exact((h.lr hI).unpack (i:=0) rfl).pick [1,0]));clear g1 g2 hI H5;go_wp2_with fail;refine HO.o _ (λeI w9 h9=>?_);have HE:=qh (LV.o eI w9 h9);clear h9;go_wp2_with fail;go_end0;exact HE.o
theorem L1(E:PlE wB X pg cb ofb hasb s h0){id:Nat}{nd:Ty.Nd}(hn:pg.ns[id]?=some nd)(hk:nd.kind=22)(zf:¬nd.c<0)(hC:∀m∈cX nd,m<id∧(m<id→zT wB X pg s pb cb m)):zT wB X pg s pb cb id:=by
 intro f hf bk o w Fr hF H hv hc hb R hR;obtain⟨f,rfl⟩:∃g,f=g+1:=⟨f-1,by omega⟩
 rw[pR hn (A:=(gS pg X.a_ s f nd.a bk++(gS pg X.a_ s f nd.b bk++(gS pg X.a_ s f nd.c.toNat bk++[])))) (by rw[if_neg (by omega),show dM nd=[nd.a,nd.b,nd.c.toNat]by unfold dM;rw[if_neg (by omega),if_neg (by omega),if_neg (by omega),if_neg (by omega),if_pos (by omega),if_neg zf]];rfl)]at hc hR
 obtain⟨Mm,xW,OA,Hc⟩:=Vis.inv hn hv;have hw:=E.W.below (hF _ _ 0 H rfl);obtain⟨p0,jS⟩:=H.Hs;have eE:=qh (λR=>jh (R:=R) E.P (hF _ _ 0 H rfl) hn p0 jS hw.c0 hw.lt);have HR:=qh hR;have HF:=qh hF;have H1:=qh H;have HN:=qh hn;have HQ:=qh (E.Q id nd hn);have bm:=dA hn;have kN:=E.P.ok.kO;have oV:=HQ.o.len;rw[List.length_append]at hc
 have k6: (((nd.kind:Nat):Int)==6)=false:=by exact beq_eq_false_iff_ne.2 (by omega)
 have Q7: (((nd.kind:Nat):Int)==26)=false:=by exact beq_eq_false_iff_ne.2 (by omega)
 have TV: (((nd.kind:Nat):Int)==22)=true:=by rw[hk];rfl
 have sM:cX nd=dM nd:=by unfold cX;rw[if_neg (by omega)]
 have Lu:=qh (λm(hm:m∈dM nd)=>(show zT wB X pg s pb cb m∧m<f∧Vis pg.ns (!bk.isEmpty) m from⟨(hC m (by rw[sM];exact hm)).2 (hC m (by rw[sM];exact hm)).1,by have:=(hC m (by rw[sM];exact hm)).1;omega,OA (by omega) m (by rw[sM];exact hm)⟩));have Ou:=qh (λm(hm:m∈dM nd)=>(show bk.length+m≤100000 from by have:=(hC m (by rw[sM];exact hm)).1;omega));have sJ:=qh (show dM nd=[nd.a,nd.b,nd.c.toNat]by unfold dM;rw[if_neg (by omega),if_neg (by omega),if_neg (by omega),if_neg (by omega),if_pos (by omega),if_neg zf]);have kc:decide ((0:Int)≤nd.c)=true:=decide_eq_true (by omega);have Eg: ((nd.c.toNat:Nat):Int)=nd.c:=by omega
 have HK:=qh hk;clear hk;clear hR hF hn H hw p0 jS;go_enter func95,ntmps95;go_wp2_with fail;refine eE.o _ (λlv w2 aI cI=>?_);obtain⟨la,lc,rfl⟩:=ag cI;unfold aK;have h3:=(H1.o.below aI).aj (aD nd (.slice la nd.list.length lc)) w2.heap.size;have x0:=h3.cell 2 rfl 0 rfl;have x1:=h3.cell 2 rfl 1 rfl;have x2:=h3.cell 2 rfl 2 rfl;have x3:=h3.cell 2 rfl 3 rfl;have x4:=h3.cell 2 rfl 4 rfl;have x5:=h3.cell 2 rfl 5 rfl;have x6:=h3.cell 2 rfl 6 rfl;have x7:=h3.cell 2 rfl 7 rfl;have x8:=h3.cell 2 rfl 8 rfl;have H4:=qh ((Sat.pack (L:=[_]) (M:=[Fr,ay w2.heap.size (aD nd (.slice la nd.list.length lc))]) (h3.pick [1,0,2])).pick [1,0]);have dq:=qh (HF.o.ah (M:=[ay w2.heap.size (aD nd (.slice la nd.list.length lc))]));have j4:=qh cI;clear h3 aI cI H1 eE;go_wp2_with fail;have h5:=(H4.o.unpack (i:=0) rfl).aj (.cells #[.int .i64 (nd.a:Nat),.int .i64 (nd.b:Nat)] 3) (w2.heap.size+1) (by simp);have h6:=h5.cG (i:=3) rfl (Q:=eZ (.slice (some ⟨w2.heap.size+1,0,none⟩) 2 2) [nd.a,nd.b]) (λ_ h=>ch h rfl (by simp[maxLen]) (by simp[aS]));have Il:=qh (HF.o.ah (M:=[ay w2.heap.size (aD nd (.slice la nd.list.length lc)),eZ (.slice (some ⟨w2.heap.size+1,0,none⟩) 2 2) [nd.a,nd.b]]));have H6:=qh ((Sat.pack (L:=[_]) (M:=[Fr,ay w2.heap.size (aD nd (.slice la nd.list.length lc)),eZ (.slice (some ⟨w2.heap.size+1,0,none⟩) 2 2) [nd.a,nd.b]]) h6).pick [1,0]);clear h5 h6 H4;refine ow (ids:=[nd.a,nd.b]) (f:=f) Il.o (λm hm=>Lu.o m (by rw[sJ.o];simp at hm⊢;omega)) (λw1 L i hs hi=>?_) (by simp) H6.o (by show _+(gS pg X.a_ s f nd.a bk++(gS pg X.a_ s f nd.b bk++[])).length≤_;have:=hc;simp only[List.length_append,List.length_nil]at this⊢;omega) (λm hm=>Ou.o m (by rw[sJ.o];simp at hm⊢;omega)) (λw8 h8=>?_)
 ·have h1:=hs.unpack hi;exact h1.row ((L.eraseIdx i).length+2) (by rw[List.getElem?_append_right (by omega),show(L.eraseIdx i).length+2-(L.eraseIdx i).length=2 by omega];rfl)
 have hu:=h8.unpack (i:=0) rfl;have x3:=hu.cell 2 rfl 3 rfl;have KR:=hu.lt 2 rfl;have H7:Hq (Sat wB w8 [ah [Fr,ay w2.heap.size (aD nd (.slice la nd.list.length lc))],xH pb cb (o++(gS pg X.a_ s f nd.a bk++(gS pg X.a_ s f nd.b bk++[]))) bk]):=((Sat.pack (L:=[_]) (M:=[Fr,ay w2.heap.size (aD nd (.slice la nd.list.length lc))]) (hu.pick [0,1,2])).pick [1,0])
 clear h8 hu H6;go_wp2_with fail;obtain⟨Ze,Yc,Zc⟩:=Lu.o nd.c.toNat (by rw[sJ.o];simp);have YO:=qh (Ze f Yc bk _ w8 _ dq.o H7.o Zc (by have:=hc;simp only[List.length_append,List.length_nil]at this⊢;omega) (Ou.o _ (by rw[sJ.o];simp)));rw[Eg]at YO
 refine YO.o _ (λw9 h9=>?_);have H5:Hq (Sat wB w9 [ah [Fr,ay w2.heap.size (aD nd (.slice la nd.list.length lc))],xH pb cb (o++(gS pg X.a_ s f nd.a bk++(gS pg X.a_ s f nd.b bk++(gS pg X.a_ s f nd.c.toNat bk++[])))) bk]):=by
  show Sat _ _ _;have e:o++(gS pg X.a_ s f nd.a bk++(gS pg X.a_ s f nd.b bk++(gS pg X.a_ s f nd.c.toNat bk++[])))=o++(gS pg X.a_ s f nd.a bk++(gS pg X.a_ s f nd.b bk++[]))++gS pg X.a_ s f nd.c.toNat bk:=by simp
  rw[e];exact h9
 clear h9 H7 Ze Yc Zc;obtain⟨ov,bv,bl,h1,hI,g1⟩:=H5.o.mR;have g2:=g1.unpack (i:=0) rfl;have x0:=g2.cell 5 rfl 0 rfl;have x1:=g2.cell 5 rfl 1 rfl;have x2:=g2.cell 5 rfl 2 rfl;have x3:=g2.cell 5 rfl 3 rfl;have x4:=g2.cell 5 rfl 4 rfl;have x5:=g2.cell 5 rfl 5 rfl;have x6:=g2.cell 5 rfl 6 rfl;have x7:=g2.cell 5 rfl 7 rfl;have x8:=g2.cell 5 rfl 8 rfl;have KR:=g2.lt 5 rfl;have HO:=qh (λR=>lJ (R:=R) dq.o (E.at HN.o j4.o) hI (λh e=>xW (by rw[e];rfl) h) g1 (by rw[List.length_append];omega));have LV:=qh (λ(eI:Value)(w':World)(h:Sat wB w' (ah [Fr,ay w2.heap.size (aD nd (.slice la nd.list.length lc))]::fA pb cb eI bv (o++(gS pg X.a_ s f nd.a bk++(gS pg X.a_ s f nd.b bk++(gS pg X.a_ s f nd.c.toNat bk++[])))++dv pg X.a_ s id nd bk) bl h1))=>HR.o w' (by rw[←List.append_assoc];exact((h.lr hI).unpack (i:=0) rfl).pick [1,0]));clear g1 g2 hI H5;go_wp2_with fail;refine HO.o _ (λeI w9 h9=>?_);have HE:=qh (LV.o eI w9 h9);clear h9;go_wp2_with fail;go_end0;exact HE.o
end
end
namespace Ty
def jO(d:List (Nat×Nat)):Nat→Option Int:=λk=>(d.reverse.find? λp=>p.1==k).map λp=>((p.2:Nat):Int)
theorem G8(d:List (Nat×Nat))(p:Nat×Nat):jO (d++[p])=λk=>if k=p.1 then some ((p.2:Nat):Int)else jO d k:=by
 funext k;unfold jO;rw[List.reverse_append,List.reverse_singleton,List.singleton_append,List.find?_cons];by_cases h:p.1=k
 ·rw[if_pos h.symm,beq_iff_eq.2 h];rfl
 ·rw[if_neg λe=>h e.symm,beq_eq_false_iff_ne.2 h]
theorem qe{d:List (Nat×Nat)}(hn: (d.map Prod.fst).Nodup){p:Nat×Nat}(hp:p∈d):jO d p.1=some ((p.2:Nat):Int):=by
 unfold jO;cases hq:d.reverse.find? λq=>q.1==p.1 with
 |none=>
  have:=List.find?_eq_none.1 hq p (List.mem_reverse.2 hp);simp at this
 |some q=>
  have h1:=List.find?_some hq;have h2:=List.mem_reverse.1 (List.mem_of_find?_eq_some hq);have h3:q.1=p.1:=beq_iff_eq.1 h1;have h4:q=p:=by
   have Yh:d.Pairwise λx y=>x.1≠y.1:=List.pairwise_map.1 hn
   exact Classical.byContradiction λbZ=>by
    exact absurd h3 (by
     rcases List.mem_iff_getElem.1 h2 with⟨i,hi,rfl⟩;rcases List.mem_iff_getElem.1 hp with⟨j,hj,rfl⟩;rcases Nat.lt_trichotomy i j with h|h|h
     ·exact List.pairwise_iff_getElem.1 Yh i j hi hj h
     ·subst h;exact absurd rfl bZ
     ·exact λe=>List.pairwise_iff_getElem.1 Yh j i hj hi h e.symm)
  rw[h4];rfl
theorem Mj{d:List (Nat×Nat)}(h:∀p∈d,p.2≤100000)(n:Nat):0≤(jO d n).getD 0∧(jO d n).getD 0≤100000:=by
 unfold jO;cases hq:d.reverse.find? λq=>q.1==n with
 |none=>simp
 |some q=>
  have h2:=h q (List.mem_reverse.1 (List.mem_of_find?_eq_some hq));simp only[Option.map_some,Option.getD_some];omega
theorem oI{l:List Sm}{v:Vg}(h:jv l=.ok v): (v.out.map Prod.fst).Nodup:=by
 have B:Brg (aL l+1) [⟨[],aL l,-1⟩] [] ⟨[],λ_=>none,λ_=>false⟩ ⟨[],[]⟩ 0 (aL l):=
  ⟨rfl,by simp,by simp,by simp,by simp,rfl,by simp,by simp,by simp⟩
 have T:=gK l 0 (aL l) _ _ _ _ _ B (by omega) (by omega);rcases T with⟨f,e1,e2⟩|⟨BG,v',yV,s',e1,e2,g,B',_⟩
 ·unfold jv at h;rw[e1]at h;cases h
 ·unfold jv at h;rw[e1]at h
  cases h;obtain⟨k,h1,h2,h3⟩:=g.ext;simp only[List.nil_append]at h1;rw[g.out,h1];exact h3
theorem Qh{l:List Sm}{v:Vg}(h:jv l=.ok v):∀p∈v.out,p.1<aL l+1∧p.2<aL l+1:=by
 have B:Brg (aL l+1) [⟨[],aL l,-1⟩] [] ⟨[],λ_=>none,λ_=>false⟩ ⟨[],[]⟩ 0 (aL l):=
  ⟨rfl,by simp,by simp,by simp,by simp,rfl,by simp,by simp,by simp⟩
 have T:=gK l 0 (aL l) _ _ _ _ _ B (by omega) (by omega);unfold jv at h;rcases T with⟨f,e1,e2⟩|⟨BG,v',yV,s',e1,e2,g,B',_⟩
 ·rw[e1]at h;cases h
 ·rw[e1]at h
  cases h;obtain⟨k,h1,h2,h3⟩:=g.ext;simp only[List.nil_append]at h1;rw[g.out,h1];intro p hp;have:=h2 p hp;omega
end Ty
namespace Ty
def iu{α:Type}(P:Ft→Prop)(m:Except Ft α):Prop:=∀f,m=.error f→P f
section
variable {P:Ft→Prop} {α β:Type}
theorem iu.ok(a:α):iu P (.ok a):=λf h=>by cases h
theorem iu.and{m:Except Ft α}{k:α→Except Ft β}(h:iu P m)(g:∀a,iu P (k a)):iu P (aO m k):=by
 cases m with
 |error f=>exact λf' e=>by cases e;exact h f rfl
 |ok a=>exact g a
theorem iu.err{f:Ft}(h:P f):iu (α:=α) P (.error f):=λf' e=>by cases e;exact h
theorem iu.ite{c:Prop} [Decidable c]{m k:Except Ft α}(h:iu P m)(g:iu P k):iu P (if c then m else k):=by
 by_cases hc:c
 ·rw[if_pos hc];exact h
 ·rw[if_neg hc];exact g
end
abbrev Pw(f:Ft):Prop:=f.1≠0
abbrev Lq(f:Ft):Prop:=f=stuck∨f.1≠0
theorem DW{p n:Nat}{x:BA}{set:Bool}{frs:List Frm}{s:Vg}:iu Pw (kB p x n set frs s):=by
 unfold kB;split
 ·exact .err (by show(5:Nat)≠0;decide)
 ·exact .ok _
mutual
theorem cJ:∀(e:Ex)(a:Nat)(frs:List Frm)(s:Vg),iu Pw (bO e a frs s)
 | .num _ _,a,frs,s=>by rw[bO];exact .ok _
 | .text _ _,a,frs,s=>by rw[bO];exact .ok _
 | .bool _ _,a,frs,s=>by rw[bO];exact .ok _
 | .null _,a,frs,s=>by rw[bO];exact .ok _
 | .var p x,a,frs,s=>by rw[bO];exact DW
 | .fn _ ps _ _ body,a,frs,s=>by rw[bO];exact(jb body _ _ _ _).and λ_=>.ok _
 | .call _ e l,a,frs,s=>by rw[bO];exact(cJ e _ _ _).and λ_=>rm l _ _ _
 | .get _ e _,a,frs,s=>by rw[bO];exact cJ e _ _ _
 | .one _ _ e,a,frs,s=>by rw[bO];exact cJ e _ _ _
 | .asX _ e _,a,frs,s=>by rw[bO];exact cJ e _ _ _
 | .atX _ e i,a,frs,s=>by rw[bO];exact(cJ e _ _ _).and λ_=>cJ i _ _ _
 | .two _ _ e i,a,frs,s=>by rw[bO];exact(cJ e _ _ _).and λ_=>cJ i _ _ _
 | .obj _ l,a,frs,s=>by rw[bO];exact wu l _ _ _
 | .arr _ l,a,frs,s=>by rw[bO];exact rm l _ _ _
theorem rm:∀(l:List Ex)(a:Nat)(frs:List Frm)(s:Vg),iu Pw (iS l a frs s)
 |[],_,_,s=>by rw[iS];exact .ok _
 |e::l,a,frs,s=>by rw[iS];exact(cJ e _ _ _).and λ_=>rm l _ _ _
theorem wu:∀(l:List (Nat×BA×Ex))(a:Nat)(frs:List Frm)(s:Vg),iu Pw (jC l a frs s)
 |[],_,_,s=>by rw[jC];exact .ok _
 |(_,_,e)::l,a,frs,s=>by rw[jC];exact(cJ e _ _ _).and λ_=>wu l _ _ _
theorem jb:∀(l:List Sm)(a:Nat)(fr:Frm)(frs:List Frm)(s:Vg),iu Pw (fG l a fr frs s)
 |[],_,_,_,s=>by rw[fG];exact .ok _
 |e::l,a,fr,frs,s=>by rw[fG];exact(K5 e _ _ _ _).and λ_=>jb l _ _ _ _
theorem K5:∀(e:Sm)(a:Nat)(fr:Frm)(frs:List Frm)(s:Vg),iu Pw (dK e a fr frs s)
 | .kj p x _ e,a,fr,frs,s=>by
  rw[dK];split
  ·exact .err (by show(6:Nat)≠0;decide)
  ·split
   ·exact(cJ e _ _ _).and λ_=>.ok _
   ·exact(cJ e _ _ _).and λ_=>.ok _
 | .set p x e,a,fr,frs,s=>by rw[dK];exact DW.and λ_=>(cJ e _ _ _).and λ_=>.ok _
 | .put _ e _ v,a,fr,frs,s=>by rw[dK];exact(cJ e _ _ _).and λ_=>(cJ v _ _ _).and λ_=>.ok _
 | .lay _ e i v,a,fr,frs,s=>by rw[dK];exact(cJ e _ _ _).and λ_=>(cJ i _ _ _).and λ_=>(cJ v _ _ _).and λ_=>.ok _
 | .print _ e,a,fr,frs,s=>by rw[dK];exact(cJ e _ _ _).and λ_=>.ok _
 | .ret _ e,a,fr,frs,s=>by rw[dK];exact(cJ e _ _ _).and λ_=>.ok _
 | .vW _ e,a,fr,frs,s=>by rw[dK];exact(cJ e _ _ _).and λ_=>.ok _
 | .if_ _ e _ b none,a,fr,frs,s=>by rw[dK];exact(cJ e _ _ _).and λ_=>(jb b _ _ _ _).and λ_=>.ok _
 | .while_ _ e _ b,a,fr,frs,s=>by rw[dK];exact(cJ e _ _ _).and λ_=>(jb b _ _ _ _).and λ_=>.ok _
 | .if_ _ e _ b (some (_,c)),a,fr,frs,s=>by rw[dK];exact(cJ e _ _ _).and λ_=>(jb b _ _ _ _).and λ_=>(jb c _ _ _ _).and λ_=>.ok _
end
theorem zI{l:List Sm}{f:Ft}(h:jv l=.error f):f.1≠0:=((jb l _ _ _ _).and λ_=>.ok _:iu Pw (jv l)) f h
section
variable {pg:Pg} {tq:Nat→Nat} {s:Ck} {n:Nat} {x:Nd} {bk:List (Option Tr)}
theorem EM{p:Nat}{o:Option Tr}:iu Lq (Ar p o):=by
 cases o with
 |none=>exact .err (.inr (by show(9:Nat)≠0;decide))
 |some t=>exact .ok _
theorem uu{b:Bool}{e p:Nat}(h:e≠0):iu Lq (im b e p s):=by
 unfold im;split
 ·exact .ok _
 ·exact .err (.inr h)
theorem QQ:iu Lq (fN pg tq s n x):=by
 unfold fN lL;repeat' apply iu.ite
 all_goals first|exact .ok _|exact .err (.inl rfl)|exact EM|(split<;>first|exact .ok _|exact .err (.inl rfl))
theorem Pp:iu Lq (iw pg tq bk n x s):=by
 unfold iw px;repeat' split
 all_goals first|exact .ok _|exact .err (.inl rfl)|exact .err (.inr (by show(4:Nat)≠0;decide))|exact uu (by decide)|exact(uu (by decide)).and λ_=>.ok _|exact EM.and λ_=>uu (by decide)
theorem d_:iu Lq (jg pg tq n bk s):=by
 unfold jg;split
 ·unfold yF;refine QQ.and λt=>?_
  split
  ·exact .ok _
  ·exact .err (.inr (by show(2:Nat)≠0;decide))
 ·exact Pp
end
section
variable {pg:Pg} {tq:Nat→Nat}
mutual
theorem dI:∀(e:Ex)(a:Nat)(bk:List (Option Tr))(s:Ck),iu Lq (ft pg tq e a bk s)
 | .num _ _,a,bk,s=>by rw[ft];exact d_
 | .text _ _,a,bk,s=>by rw[ft];exact d_
 | .bool _ _,a,bk,s=>by rw[ft];exact d_
 | .null _,a,bk,s=>by rw[ft];exact d_
 | .var _ _,a,bk,s=>by rw[ft];exact d_
 | .fn _ ps _ _ body,a,bk,s=>by rw[ft];exact(kp body _ _ _).and λ_=>d_
 | .call _ e l,a,bk,s=>by rw[ft];exact(dI e _ _ _).and λ_=>(uH l _ _ _).and λ_=>d_
 | .get _ e _,a,bk,s=>by rw[ft];exact(dI e _ _ _).and λ_=>d_
 | .one _ _ e,a,bk,s=>by rw[ft];exact(dI e _ _ _).and λ_=>d_
 | .asX _ e _,a,bk,s=>by rw[ft];exact(dI e _ _ _).and λ_=>d_
 | .atX _ e i,a,bk,s=>by rw[ft];exact(dI e _ _ _).and λ_=>(dI i _ _ _).and λ_=>d_
 | .two _ _ e i,a,bk,s=>by rw[ft];exact(dI e _ _ _).and λ_=>(dI i _ _ _).and λ_=>d_
 | .obj _ l,a,bk,s=>by rw[ft];exact(zS l _ _ _).and λ_=>d_
 | .arr _ l,a,bk,s=>by rw[ft];exact(uH l _ _ _).and λ_=>d_
theorem uH:∀(l:List Ex)(a:Nat)(bk:List (Option Tr))(s:Ck),iu Lq (nB pg tq l a bk s)
 |[],_,_,s=>by rw[nB];exact .ok _
 |e::l,a,bk,s=>by rw[nB];exact(dI e _ _ _).and λ_=>uH l _ _ _
theorem zS:∀(l:List (Nat×BA×Ex))(a:Nat)(bk:List (Option Tr))(s:Ck),iu Lq (oU pg tq l a bk s)
 |[],_,_,s=>by rw[oU];exact .ok _
 |(_,_,e)::l,a,bk,s=>by rw[oU];exact((dI e _ _ _).and λ_=>d_).and λ_=>zS l _ _ _
theorem kp:∀(l:List Sm)(a:Nat)(bk:List (Option Tr))(s:Ck),iu Lq (ku pg tq l a bk s)
 |[],_,_,s=>by rw[ku];exact .ok _
 |e::l,a,bk,s=>by rw[ku];exact(NQ e _ _ _).and λ_=>kp l _ _ _
theorem NQ:∀(e:Sm)(a:Nat)(bk:List (Option Tr))(s:Ck),iu Lq (jT pg tq e a bk s)
 | .kj p x _ e,a,bk,s=>by rw[jT];exact(dI e _ _ _).and λ_=>d_
 | .set p x e,a,bk,s=>by rw[jT];exact(dI e _ _ _).and λ_=>d_
 | .print _ e,a,bk,s=>by rw[jT];exact(dI e _ _ _).and λ_=>d_
 | .ret _ e,a,bk,s=>by rw[jT];exact(dI e _ _ _).and λ_=>d_
 | .vW _ e,a,bk,s=>by rw[jT];exact(dI e _ _ _).and λ_=>d_
 | .put _ e _ v,a,bk,s=>by rw[jT];exact(dI e _ _ _).and λ_=>(dI v _ _ _).and λ_=>d_
 | .lay _ e i v,a,bk,s=>by rw[jT];exact(dI e _ _ _).and λ_=>(dI i _ _ _).and λ_=>(dI v _ _ _).and λ_=>d_
 | .if_ _ e _ b none,a,bk,s=>by rw[jT];exact(dI e _ _ _).and λ_=>(kp b _ _ _).and λ_=>d_
 | .while_ _ e _ b,a,bk,s=>by rw[jT];exact(dI e _ _ _).and λ_=>(kp b _ _ _).and λ_=>d_
 | .if_ _ e _ b (some (_,c)),a,bk,s=>by rw[jT];exact(dI e _ _ _).and λ_=>(kp b _ _ _).and λ_=>(kp c _ _ _).and λ_=>d_
end
theorem LO{l:List Sm}{f:Ft}(hn:Hh pg tq l≠.error stuck)(h:Hh pg tq l=.error f):f.1≠0:=by
 rcases kp (pg:=pg) (tq:=tq) l 0 [] ⟨λ_=>none,λ_=>none⟩ f h with rfl|h1
 ·exact absurd h hn
 ·exact h1
end
end Ty
section
open Ty (Tr Ck aO)
theorem LS(a d:Nat)(w:World):
  CallsD prog 92 #[.pointer (some ⟨a,0,none⟩),.pointer (some ⟨d,0,none⟩)] .returning w λe u' w'=>e=.returned (.tuple #[])∧u'=.returning∧w'=w:=by
 refine callsD_of_wpS func92 rfl λBf cs hu=>?_
 apply wpS_seq;apply wpS_region;simp[wpOpsS,go_sem,recoverD,hu,ntmps92,Exit.thenS];apply wpS_seq;apply wpS_region;simp[wpOpsS,go_sem,Exit.thenS];refine wpS_cond (t:=false) (by simp[Act.eval,Array.replicate]) ?_;simp only[Bool.false_eq_true,if_false];refine wpS_of_wp (wp_skip ?_);cases Bf;simp_all[bodyPostS,results,results92]
theorem L9{w0 w:World}{Fr:As}{a d:Nat}{x0 f0 f1:Value}{L:List As}(H:Sat w0 w (Fr::ay a (.cells #[x0] 99 (0,0))::ay d (.cells #[f0,f1] 25 (0,0))::L))(f:Ty.Ft):
  CallsD prog 92 #[.pointer (some ⟨a,0,none⟩),.pointer (some ⟨d,0,none⟩)] (.panicking (aJ f)) w λe u' w'=>
   e=.returned (.tuple #[])∧u'=.panicking [{v:=.iface 25 (bY f),recovered:=true}]∧
   Sat w0 w' (Fr::ay a (.cells #[.pointer none] 99 (0,0))::ay d (.cells #[.int .i64 f.1,.int .i64 f.2] 25 (0,0))::L):=by
 have a0:=H.cell 1 rfl 0 rfl;have d0:=H.cell 2 rfl 0 rfl;have d1:=H.cell 2 rfl 1 rfl;have fa:=H.free 1 rfl;have fd:=H.free 2 rfl;have n12:=H.ne 1 2 (by decide) rfl rfl;have la:=H.lt 1 rfl;have ld:=H.lt 2 rfl;have abJ:=tL f.1 f.2;have HH:=qh H;refine callsD_of_wpS func92 rfl λBf cs hu=>?_
 clear H;unfold aJ at hu;apply wpS_seq;apply wpS_region;simp[wpOpsS,go_sem,recoverD,hu,ntmps92,Exit.thenS];apply wpS_seq;apply wpS_region;simp[wpOpsS,go_sem,Exit.thenS];refine wpS_cond (t:=true) (by simp[Act.eval,Array.replicate]) ?_;simp only[if_true];refine wpS_of_wp ?_;unfold bY
 go_region
 all_goals
  simp[bodyPostS,results,results92,bY];exact(((HH.o.store 1 rfl 0 (.pointer none)).store 2 rfl 0 (.int .i64 f.1)).store 2 rfl 1 (.int .i64 f.2)).drew
theorem WJ{w:World}{v:Value}{l:List (Nat×Nat)}(h:w.ownsRow 0 43 2 v l.length (l.flatMap dY))(k:Nat)(hk:k<l.length):
  ∃g cap:Nat,v=.slice (some ⟨g,0,none⟩) l.length cap∧g<w.heap.size∧w.cell? ⟨g,k*2,none⟩=some (.int .i64 (l[k].1:Nat))∧w.cell? ⟨g,k*2+1,none⟩=some (.int .i64 (l[k].2:Nat)):=by
 obtain⟨g,cap,rfl,_,hg⟩:=h.form (by omega);have hc:=λj u hj=>World.ownsRow.cells h (g:=g) rfl j u hj
 have hf:=jD dY 2 (λ_=>rfl) l k hk;refine⟨g,cap,rfl,hg,?_,?_⟩
 ·have:=hc (k*2+0) _ (by rw[hf 0 (by omega)];rfl);rwa [Addr.add_lit,Nat.zero_add]at this
 ·have:=hc (k*2+1) _ (by rw[hf 1 (by omega)];rfl);rwa [Addr.add_lit,Nat.zero_add]at this
theorem SD{wB:World}{nv tv cav:Value}{main:Int}(n:Nat)(hn:n=wB.heap.size):
  Sat wB ((((wB.alloc (.map #[] 0)).alloc (.map #[] 0)).alloc (.map #[] 0)).alloc (.cells #[nv,tv,.int .i64 main,.map (some n),cav,.map (some (n+1)),.map (some (n+1+1)),.slice none 0 0] 106))
   [bE wB,ay (n+1+1+1) (.cells #[nv,tv,.int .i64 main,.map (some n),cav,.map (some (n+1)),.map (some (n+1+1)),.slice none 0 0] 106 (0,0)),mapA 3 3 n 0 (cH λ_=>none),jz 3 (n+1) 0 (f_ λ_=>none),jz 3 (n+1+1) 0 (f_ λ_=>none),ak.row 107 1 (.slice none 0 0) 0 [],FR (λ_=>none)]:=by
 subst hn;have h1:=(Sat.fw wB).yM 3 3 wB.heap.size rfl sf;have h2:=h1.Ep 3 (wB.heap.size+1) (by simp) Br;have h3:=h2.Ep 3 (wB.heap.size+1+1) (by simp) Br;have h4:=((h3.aj (.cells #[nv,tv,.int .i64 main,.map (some wB.heap.size),cav,.map (some (wB.heap.size+1)),.map (some (wB.heap.size+1+1)),.slice none 0 0] 106) (wB.heap.size+1+1+1) (by simp)).nil 107 1).hZ (P:=FR (λ_=>none)) (λ_ _ _ e=>by cases e);exact h4.pick [0,4,1,2,3,5,6]
end
end Go.Proofs.YtdlbhiaceheffabGreatDoor
