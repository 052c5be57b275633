/- Walk of check: visit, at every kind of node. -/
import Derived.Deep.DeepCutAuto
import Derived.Deep.CutBlock
import Derived.Test.YtdlbhiaceheffabGreatDoorC28
set_option linter.all false
namespace Go.Proofs.YtdlbhiaceheffabGreatDoor
open Go Go.RowKit Ty Tok Prt Tryz Proofs.Tryz
section
open Ty (Tr Ck aK)
inductive MidK(wB:World)(X:Cx)(cb:Nat)(pg:Ty.Pg)(id:Nat)(nd:Nd):Nat->iw->Prop
 |parts {cs} (h:nd.kind≠6/\nd.kind≠17/\nd.kind≠22/\nd.kind≠26) (hC:qg wB X cb (aB nd) cs):MidK wB X cb pg id nd (eg cs) (fN (cs.map Prod.snd))
 |block {cs} (h:nd.kind=26) (hC:qg wB X cb nd.list cs):MidK wB X cb pg id nd (eg cs) (fN (cs.map Prod.snd))
 |if_ {ka kb ke Fa Fb G} (h:nd.kind=22) (Ca:Ax wB X cb nd.a ka Fa) (Cb:Ax wB X cb nd.b kb Fb) (hd: (nd.c= -1/\ke=0/\G=fN [Fa,Fb])\/∃(d:Nat)(Fd:iw),nd.c=d/\Ax wB X cb d ke Fd/\G=sN (fN [Fa,Fb]) Fd):MidK wB X cb pg id nd (eg [(ka,Fa),(kb,Fb)]+ke) G
 |fZ {k F nb} (h:nd.kind=17) (hb:pg.ns[nd.a]?=some nb) (hI:NdW pg nb) (C:Ax wB X cb nd.a k F):MidK wB X cb pg id nd (k+2) (λbk s=>F bk (px pg id s))
 |fn {k F} (h:nd.kind=6) (C:Ax wB X cb nd.a k F):MidK wB X cb pg id nd (nd.list.length+1+k) (λbk s=>F (bk++[l7 pg.ts nd.ty]) (iI pg nd.list s))
section
variable {wB:World} {cb:Nat} {X:Cx} {pg:Ty.Pg}
set_option maxRecDepth 100000
set_option maxHeartbeats 16000000
theorem S5(hP:PB wB X.nv X.tv pg){id:Nat}{nd:Nd}(hn:pg.ns[id]?=some nd)(hk:1<=nd.kind/\nd.kind<=26/\nd.kind≠16)(xH:nd.kind=20->0<=nd.c/\nd.c<=100000)(hI:NdW pg nd)(hIn:NdIn pg nd)(hi:id<=100000){k:Nat}{G:iw}(hM:MidK wB X cb pg id nd k G):Ax wB X cb id (k+1) (sN G (ky pg X.kv id)):=by
 intro bk s c w Fr hF H hc eR R aD au;have xP:=qh (z_ eR);obtain⟨_,_,_,_,_,_,_,_,_,_,g1⟩:=H.nV;have Ee:=qh (λR=>fE (R:=R) hP (hF _ _ 0 g1 rfl) hn (g1.cell 1 0) (g1.lt 1));have HX:=qh (And.intro aD au);clear aD au eR;go_enter func93,ntmps93;go_wp2_with fail;refine Ee.o _ (λlv w2 aW gR=>?_);obtain⟨la,lc,rfl⟩:=ag gR;unfold aH;have h3:=(H.below aW).ar (cz nd (.slice la nd.list.length lc)) w2.heap.size;have hx:=U5 w2 nd (.slice la nd.list.length lc) _ (Xt.r _);have H4:=qh ((Sat.pack (L:=[_]) (M:=[Fr,ax w2.heap.size (cz nd (.slice la nd.list.length lc))]) (h3.pick [1,0,2])).pick [1,0]);have lM:=qh (hF.aq (M:=[ax w2.heap.size (cz nd (.slice la nd.list.length lc))]));have HL:=qh gR;have uQ:=hI.len;clear h3 aW gR H g1 Ee
 go_upto_block 0 with fail
 go_cut [] (λwx=>∃s1,Hq (G bk s=.ok s1)/\Hq (Sat wB wx [aq [Fr,ax w2.heap.size (cz nd (.slice la nd.list.length lc))],uK cb X (c+k) s1 bk]))
 case first=>
  cases hM with
  |@parts cs h hC=>
   have WU: (aB nd).length<=900003:=by have:=tZ nd;omega
   have he: (((nd.kind:Nat):Int)==6)=false/\(((nd.kind:Nat):Int)==17)=false/\(((nd.kind:Nat):Int)==22)=false/\(((nd.kind:Nat):Int)==26)=false:=by simp;omega
   have wQ:=qh (λ(w3:World)(cZ:Below wB.heap.size wB w3) R hR=>CT (w:=w3) (nd:=nd) (lv:=.slice la nd.list.length lc) (R:=R) ⟨h.1,hk.2.2,h.2.1,h.2.2.1,h.2.2.2⟩ ⟨hk.1,hk.2.1⟩ (λe=>(xH e).1) (ay HL.o cZ) (by omega) hR);go_wp2_with fail;refine wQ.o _ (lM.o _ _ 0 H4.o rfl) _ (λv3 w3 h3=>?_);have h5:=H4.o.join h3;obtain⟨va,vc,rfl⟩:=ag (vg h5 2 rfl (ay HL.o (lM.o w3 _ 0 h5 rfl)));have H5:=qh ((Sat.pack (L:=[_]) (M:=[aq [Fr,ax w2.heap.size (cz nd (.slice la nd.list.length lc))],lL nd (.slice la nd.list.length lc) (.slice va (aB nd).length vc) (aB nd)]) (h5.pick [1,0,2])).pick [1,0]);go_wp2_with fail;refine tm lM.o.aq hC.1 hC.2 (λw1 L i hs hi=>?_) (by omega) H5.o (by omega) xP.o.1 (λs1 w8 hq h8=>?_) (λf w8 hq h8=>⟨rfl,HX.o.2 f w8 (lI hq) (((h8.unpack 0 rfl).pick [0]).unpack 0 rfl|>.pick [0])⟩)
   ·have h1:=hs.unpack _ hi;exact vg h1 ((L.eraseIdx i).length+1) (by rw[List.getElem?_append_right (by omega),show(L.eraseIdx i).length+1-(L.eraseIdx i).length=1 by omega];rfl) (ay HL.o (lM.o w1 _ (L.eraseIdx i).length h1 (by rw[List.getElem?_append_right (by omega),Nat.sub_self];rfl)))
   have hq:=qh hq;have H9:=qh ((h8.unpack 0 rfl).pick [1,0]);go_wp2_with fail
   go_meet
   exact⟨s1,hq,H9.o⟩
  |@block cs h hC=>
   have he: (((nd.kind:Nat):Int)==6)=false/\(((nd.kind:Nat):Int)==26)=true:=by rw[h];exact⟨rfl,rfl⟩
   clear h;go_wp2_with fail;refine tm lM.o hC.1 hC.2 (λw1 L i hs hi=>ay HL.o (lM.o w1 L i hs hi)) (by omega) H4.o (by omega) xP.o.1 (λs1 w8 hq h8=>?_) (λf w8 hq h8=>⟨rfl,HX.o.2 f w8 (lI hq) ((h8.unpack 0 rfl).pick [0])⟩);have hq:=qh hq;have H9:=qh h8;go_wp2_with fail
   go_meet
   exact⟨s1,hq,H9.o⟩
  |@if_ ka kb ke Fa Fb _ h Ca Cb hd=>
   have he: (((nd.kind:Nat):Int)==6)=false/\(((nd.kind:Nat):Int)==26)=false/\(((nd.kind:Nat):Int)==22)=true:=by rw[h];exact⟨rfl,rfl,rfl⟩
   have HG:Hq (fN [Fa,Fb] bk s≠.error Ty.stuck/\∀f,fN [Fa,Fb] bk s=.error f->G bk s=.error f):=by
    rcases hd with⟨_,_,rfl⟩|⟨_,_,_,_,rfl⟩
    ·exact⟨xP.o.1,λ_ h=>h⟩
    ·exact⟨(z_ xP.o.1).1,λ_ h=>lI h⟩
   have HD:=qh hd;clear h hd;go_wp2_with fail;have h6:=((H4.o.unpack 0 rfl).ar (.cells #[.int .i64 (nd.a:Nat),.int .i64 (nd.b:Nat)] 3) (w2.heap.size+1) (by simp)).cQ (i:=3) rfl (Q:=gi (.slice (some ⟨w2.heap.size+1,0,none⟩) 2 2) [nd.a,nd.b]) (λ_ h=>cR h rfl (by simp[maxLen]) (by simp[aQ]));have Xa:=qh (hF.aq (M:=[ax w2.heap.size (cz nd (.slice la nd.list.length lc)),gi (.slice (some ⟨w2.heap.size+1,0,none⟩) 2 2) [nd.a,nd.b]]));have H6:=qh ((Sat.pack (L:=[_]) (M:=[Fr,ax w2.heap.size (cz nd (.slice la nd.list.length lc)),gi (.slice (some ⟨w2.heap.size+1,0,none⟩) 2 2) [nd.a,nd.b]]) h6).pick [1,0]);refine tm (ids:=[nd.a,nd.b]) (cs:=[(ka,Fa),(kb,Fb)]) Xa.o rfl (λj h1 h2=>?_) (λw1 L i hs hi=>?_) (by simp) H6.o (by omega) HG.o.1 (λs1 w8 hq h8=>?_) (λf w8 hq h8=>⟨rfl,HX.o.2 f w8 (lI (HG.o.2 f hq)) ((h8.unpack 0 rfl).pick [0])⟩)
   ·match j with
    |0=>exact Ca
    |1=>exact Cb
    |j+2=>exact absurd h1 (by simp only[List.length_cons,List.length_nil];omega)
   ·exact(hs.unpack _ hi).row ((L.eraseIdx i).length+2) (by rw[List.getElem?_append_right (by omega),show(L.eraseIdx i).length+2-(L.eraseIdx i).length=2 by omega];rfl)
   have hu:=h8.unpack 0 rfl;have H9:=qh ((Sat.pack (L:=[_]) (M:=[Fr,ax w2.heap.size (cz nd (.slice la nd.list.length lc))]) (hu.pick [0,1,2])).pick [1,0]);have hq:=qh (show fN [Fa,Fb] bk s=.ok s1 from hq);have x3:w8.cell? ⟨w2.heap.size,3,none⟩=some (.int .i64 nd.c):=hu.cell 2 3;have bz:=hu.lt 2;clear hu h8 h6;rcases HD.o with⟨U1,rfl,rfl⟩|⟨d,Fd,U1,Cd,rfl⟩
   ·rw[U1]at x3
    clear U1;go_wp2_with fail
    go_meet
    exact⟨s1,hq,H9.o⟩
   ·rw[U1]at x3
    clear U1;go_wp2_with fail;refine Cd bk s1 _ w8 _ lM.o H9.o (by omega) ((z_ xP.o.1).2 s1 hq.out) _ (λs2 w9 Uz h9=>?_) (λf w9 Uz h9=>⟨rfl,HX.o.2 f w9 (lI (by rw[vd hq.out];exact Uz)) ((h9.unpack 0 rfl).pick [0])⟩);have P8:Hq (sN (fN [Fa,Fb]) Fd bk s=.ok s2):=by show _= _;rw[vd hq.out];exact Uz
    have H9:=qh h9;go_wp2_with fail
    go_meet
    exact⟨s2,P8,by show Sat _ _ _;rw[<-Nat.add_assoc];exact H9.o⟩
  |@fZ k F nb h hb X' C=>
   have he: (((nd.kind:Nat):Int)==6)=false/\(((nd.kind:Nat):Int)==26)=false/\(((nd.kind:Nat):Int)==22)=false/\(((nd.kind:Nat):Int)==17)=true:=by rw[h];exact⟨rfl,rfl,rfl,rfl⟩
   have hL:px pg id s=if nb.kind=6 then{s with has:=iO s.has id ((l7 pg.ts nd.ty).getD (Lw pg nb))}else s:=by unfold px Gy;rw[d_ hn,d_ hb]
   have Bk:=qh (N2 hP.ok hIn.ty (show(Ty.iv pg.ns nd.a).list.length<=1200 by rw[d_ hb];exact X'.len));unfold Gy at Bk;rw[d_ hb]at Bk
   have PH:=Gr id hi;have HC:=qh C;have HE:=qh hL;obtain⟨ofb,hasb,bkv,no,nh,fo,fh,bl,h0,uB,g1⟩:=H4.o.nV;have XA:=qh (λR=>fE (R:=R) hP (lM.o _ _ 0 g1 rfl) hb (g1.cell 1 0) (g1.lt 1));have Ji:=qh uB;have xM:nh<maxLen/\nh+1<maxLen:=by have:=uB.nh;unfold maxLen;omega
   clear h hL C uB;go_wp2_with fail;refine XA.o _ (λqk w3 cZ Kv=>?_);have agu:=qh Kv;obtain⟨D',Iu,rfl⟩:=ag Kv;unfold aH;have g4:=(((g1.below cZ).unpack 0 rfl).pick [6,0,1,2,3,4,5,7]).ar (cz nb (.slice D' nb.list.length Iu)) w3.heap.size;have x1:=g4.cell 7 1;have x7:=g4.cell 7 7;have y0:=g4.cell 8 0;have H5:=qh g4;have adN:=qh (hF.aq (M:=[ax w2.heap.size (cz nd (.slice la nd.list.length lc)),ax w3.heap.size (cz nb (.slice D' nb.list.length Iu))]));clear cZ Kv g4 g1 XA;by_cases h6:nb.kind=6;rotate_left
   focus
    have kb:=kN nb.kind 6 6;have HS:Hq (px pg id s=s):=by show _= _;rw[HE.o,if_neg h6]
    go_wp2_with fail;have H6:=qh (show Sat wB _ [aq [Fr,ax w2.heap.size (cz nd (.slice la nd.list.length lc)),ax w3.heap.size (cz nb (.slice D' nb.list.length Iu))],uK cb X (c+2) (px pg id s) bk]from HS.o.symm▸((((Sat.pack (L:=Lg cb X ofb hasb bkv no nh fo fh bl h0) (M:=[Fr,ax w2.heap.size (cz nd (.slice la nd.list.length lc)),ax w3.heap.size (cz nb (.slice D' nb.list.length Iu))]) (H5.o.pick [1,2,3,4,5,6,0,7,8])).pick [6,0,1,2,3,4,5]).mr Ji.o).v_ (d:=c+2) (by omega)))
   rotate_right
   focus
    have kb:=kT h6 6;have HS:Hq (px pg id s={s with has:=iO s.has id ((l7 pg.ts nd.ty).getD (Lw pg nb))}):=by show _= _;rw[HE.o,if_pos h6]
    have rh:=qh (λR=>mT (R:=R) hP (hF _ _ 0 H5.o.drew rfl) (H5.o.drew.cell 1 1) (H5.o.drew.lt 1) hI.ty);clear h6;rcases FM:l7 pg.ts nd.ty with _|t;rotate_left
    focus
     rw[FM]at HS Bk
     simp only[Option.getD_some]at HS Bk;have RP:=And.intro (H5.o.cell 1 6) (H5.o.cell 7 7);have Vp:=qh FM;clear FM;go_wp2_with fail;go_region_held3(λw'=>w'.cell? ⟨cb,6,none⟩=some (.map (some hasb))/\w'.cell? ⟨w2.heap.size,7,none⟩=some (.int .i64 nd.ty)) (first|exact RP|exact qY|exact Rv)
      ((go_at_call 154;refine rh.o _ (λv w5 h5=>?_);have h5:=H5.o.drew.join h5;rw[Vp.o]at h5;obtain⟨h1,hle,sC,g5⟩:=Sat.Jf (L:=[Fr,ax cb (SE X ofb hasb bkv),mapA 3 3 X.I3 X.nt (cY X.wi),lP 3 ofb no (iH fo),lP 3 hasb nh (iH fh),Prt.row 107 1 bkv bl.length bl,ax w2.heap.size (cz nd (.slice la nd.list.length lc)),ax w3.heap.size (cz nb (.slice D' nb.list.length Iu))]) (t:=t) (p:=v) ((h5.pick [0,1,2,3,4,5,7,8,6,9]).cQ (i:=9) rfl λ_ ha _ _ lR=>dp lR _ _ ha);obtain⟨b6,rfl⟩:=cK sC;obtain⟨D,hD,qx⟩:=g5.iC 4 rfl;obtain⟨w6,yX,gg,dZ⟩:=hD.update dR underlying103 xM.1 (Maps.keyOf_int_mk underlying3 PH) (val:=.pointer (some ⟨b6,0,none⟩)) (d:=.held (.pointer (some ⟨b6,0,none⟩))) (ps:=[]) rfl;have g8:=g5.mz 4 rfl dZ gg (Ψ:=iH (λk=>if k=id then some (.pointer (some ⟨b6,0,none⟩))else fh k)) (mx qx id _);have qY:=And.intro (g5.cell 1 6) (g5.cell 6 7);have Rv:=And.intro (g8.cell 1 6) (g8.cell 6 7);have Pk:=qh sC;have H8:=qh g8;have Uq:=qh (Ji.o.up hle);clear h5 hle sC g5 hD qx gg dZ g8))
     all_goals
      obtain⟨D7,k2,k3⟩:=H8.o.iC 4 rfl;have cm: (Instr.lookup 103 (.map (some hasb)) (.int .i64 (id:Nat)) false).run prog w6=.ok (.pointer (some ⟨b6,0,none⟩)) w6:=by rw[mS k2 k3 hi,if_pos rfl];rfl
      have c6:=H8.o.cell 1 6;have x1:=H8.o.cell 6 1;have H6:=qh (show Sat wB w6 [aq [Fr,ax w2.heap.size (cz nd (.slice la nd.list.length lc)),ax w3.heap.size (cz nb (.slice D' nb.list.length Iu))],uK cb X (c+2) (px pg id s) bk]from HS.o.symm▸((((Sat.pack (L:=Lg cb X ofb hasb bkv no (nh+1) fo (λk=>if k=id then some (.pointer (some ⟨b6,0,none⟩))else fh k) bl h1) (M:=[Fr,ax w2.heap.size (cz nd (.slice la nd.list.length lc)),ax w3.heap.size (cz nb (.slice D' nb.list.length Iu))]) (H8.o.pick [1,2,3,4,5,8,0,6,7])).pick [6,0,1,2,3,4,5]).mr (Uq.o.A6 id Pk.o Bk.o)).v_ (d:=c+2) (by omega)));clear k2 k3;go_wp2_with fail
    rotate_right
    focus
     rw[FM]at HS Bk
     simp only[Option.getD_none]at HS Bk;have RP:=And.intro (H5.o.cell 1 6) (H5.o.cell 7 7);have Vp:=qh FM;clear FM;go_wp2_with fail;go_region_held3(λw'=>w'.cell? ⟨cb,6,none⟩=some (.map (some hasb))/\w'.cell? ⟨w2.heap.size,7,none⟩=some (.int .i64 nd.ty)) (first|exact RP|exact qY|exact Rv)
      ((go_at_call 154;refine rh.o _ (λv w5 h5=>?_);have g5:=H5.o.drew.join h5;rw[Vp.o]at g5;obtain rfl:v=.pointer none:=g5.get (i:=9) rfl λ_ ha _=>ha;obtain⟨D,hD,qx⟩:=g5.iC 4 rfl;obtain⟨w6,yX,gg,dZ⟩:=hD.update dR underlying103 xM.1 (Maps.keyOf_int_mk underlying3 PH) (val:=.pointer none) (d:=.held (.pointer none)) (ps:=[]) rfl;have g8:=g5.mz 4 rfl dZ gg (Ψ:=iH (λk=>if k=id then some (.pointer none)else fh k)) (mx qx id _);have qY:=And.intro (g5.cell 1 6) (g5.cell 7 7);have Rv:=And.intro (g8.cell 1 6) (g8.cell 7 7);have H8:=qh g8;clear h5 g5 hD qx gg dZ g8))
     all_goals
      obtain⟨D7,k2,k3⟩:=H8.o.iC 4 rfl;have cm: (Instr.lookup 103 (.map (some hasb)) (.int .i64 (id:Nat)) false).run prog w6=.ok (.pointer none) w6:=by rw[mS k2 k3 hi,if_pos rfl];rfl
      have c6:=H8.o.cell 1 6;obtain⟨y0,y1,y2,y3,y4,y5,y6,y7,y8⟩:=H8.o.nn 8;clear k2 k3 RP qY Rv rh;have rh:=qh (λR=>yF (R:=R) hP (hF _ _ 0 H8.o.drew rfl) (H8.o.drew.cell 1 0) (H8.o.drew.cell 1 1) (H8.o.drew.lt 1) agu.o X'.ps X'.ty X'.len);go_wp2_with fail;go_region_held3(λw'=>w'.cell? ⟨cb,6,none⟩=some (.map (some hasb))/\w'.cell? ⟨w3.heap.size,0,none⟩=some (.int .i64 (nb.kind:Nat))/\w'.cell? ⟨w3.heap.size,1,none⟩=some (.int .i64 (nb.a:Nat))/\w'.cell? ⟨w3.heap.size,2,none⟩=some (.int .i64 (nb.b:Nat))/\w'.cell? ⟨w3.heap.size,3,none⟩=some (.int .i64 nb.c)/\w'.cell? ⟨w3.heap.size,4,none⟩=some (.slice D' nb.list.length Iu)/\w'.cell? ⟨w3.heap.size,5,none⟩=some (.string nb.text)/\w'.cell? ⟨w3.heap.size,6,none⟩=some (.int .i64 (nb.n:Nat))/\w'.cell? ⟨w3.heap.size,7,none⟩=some (.int .i64 nb.ty)/\w'.cell? ⟨w3.heap.size,8,none⟩=some (.int .i64 (nb.pos:Nat))) (first|exact⟨c6,y0,y1,y2,y3,y4,y5,y6,y7,y8⟩|exact rQ|exact UI)
       ((go_at_call 156;refine rh.o _ (λv w7 h7=>?_);obtain⟨h1,hle,sC,g5⟩:=Sat.Jf (L:=[Fr,ax cb (SE X ofb hasb bkv),mapA 3 3 X.I3 X.nt (cY X.wi),lP 3 ofb no (iH fo),lP 3 hasb (nh+1) (iH (λk=>if k=id then some (.pointer none)else fh k)),Prt.row 107 1 bkv bl.length bl,ax w2.heap.size (cz nd (.slice la nd.list.length lc)),ax w3.heap.size (cz nb (.slice D' nb.list.length Iu))]) (t:=Lw pg nb) (p:=v) (((H8.o.drew.join h7).pick [0,1,2,3,4,5,7,8,6,10]).cQ (i:=9) rfl λ_ ha _ _ lR=>dp lR _ _ ha);obtain⟨b6,rfl⟩:=cK sC;obtain⟨D,hD,qx⟩:=g5.iC 4 rfl;obtain⟨w8,yX,gg,dZ⟩:=hD.update dR underlying103 xM.2 (Maps.keyOf_int_mk underlying3 PH) (val:=.pointer (some ⟨b6,0,none⟩)) (d:=.held (.pointer (some ⟨b6,0,none⟩))) (ps:=[]) rfl;have g8:=g5.mz 4 rfl dZ gg (Ψ:=iH (λk=>if k=id then some (.pointer (some ⟨b6,0,none⟩))else(if k=id then some (.pointer none)else fh k))) (mx qx id _);have rQ:=And.intro (g5.cell 1 6) (And.intro (g5.cell 7 0) (And.intro (g5.cell 7 1) (And.intro (g5.cell 7 2) (And.intro (g5.cell 7 3) (And.intro (g5.cell 7 4) (And.intro (g5.cell 7 5) (And.intro (g5.cell 7 6) (And.intro (g5.cell 7 7) (g5.cell 7 8)))))))));have UI:=And.intro (g8.cell 1 6) (And.intro (g8.cell 7 0) (And.intro (g8.cell 7 1) (And.intro (g8.cell 7 2) (And.intro (g8.cell 7 3) (And.intro (g8.cell 7 4) (And.intro (g8.cell 7 5) (And.intro (g8.cell 7 6) (And.intro (g8.cell 7 7) (g8.cell 7 8)))))))));have Pk:=qh sC;have H9:=qh g8;have Uq:=qh (Ji.o.up hle);clear h7 hle sC g5 hD qx gg dZ g8))
      all_goals
       have x1:=H9.o.cell 6 1;have g6:=H9.o.pick [1,2,3,4,5,8,0,6,7];rw[show(λk=>if k=id then some (.pointer (some ⟨b6,0,none⟩))else(if k=id then some (.pointer none)else fh k))=(λk=>if k=id then some (.pointer (some ⟨b6,0,none⟩))else fh k)by funext k;split<;>rfl]at g6
       have H6:=qh (show Sat wB w8 [aq [Fr,ax w2.heap.size (cz nd (.slice la nd.list.length lc)),ax w3.heap.size (cz nb (.slice D' nb.list.length Iu))],uK cb X (c+2) (px pg id s) bk]from HS.o.symm▸(((Sat.pack (L:=Lg cb X ofb hasb bkv no (nh+2) fo (λk=>if k=id then some (.pointer (some ⟨b6,0,none⟩))else fh k) bl h1) (M:=[Fr,ax w2.heap.size (cz nd (.slice la nd.list.length lc)),ax w3.heap.size (cz nb (.slice D' nb.list.length Iu))]) g6).pick [6,0,1,2,3,4,5]).mr {(Uq.o.A6 id Pk.o Bk.o).mono (Nat.le_succ (c+1))with nh:=Nat.add_le_add_right Ji.o.nh 2}));clear g6;go_wp2_with fail
   all_goals
    refine HC.o bk _ _ _ _ adN.o H6.o (by omega) xP.o.1 _ (λs1 Nw hq h8=>?_) (λf Nw hq h8=>⟨rfl,HX.o.2 f Nw (lI hq) ((h8.unpack 0 rfl).pick [0])⟩);have hq:=qh hq;have H9:=qh ((Sat.pack (L:=[_]) (M:=[Fr,ax w2.heap.size (cz nd (.slice la nd.list.length lc))]) (((h8.unpack 0 rfl).pick [0,1,2]))).pick [1,0]);go_wp2_with fail
    go_meet
    exact⟨s1,hq,by show Sat _ _ _;rw[show c+(k+2)=c+2+k by omega];exact H9.o⟩
  |@fn k F h C=>
   have he:=kT h 6;have T7:=qh hI.l;have af2:=qh hI.ps;have HC:=qh C;have f7:=B4;obtain⟨j0,tj,uA,uI,uy⟩:=info_parts tM;clear h C;go_wp2_with fail;go_loopw [22] (λi wr=>∃(j:Nat),i=.int .i64 j/\j<=nd.list.length/\Hq (Sat wB wr [aq [Fr,ax w2.heap.size (cz nd (.slice la nd.list.length lc))],uK cb X (c+j) (iI pg (nd.list.take j) s) bk])) (λi _=>nd.list.length-(intOf i).toNat)
   case atStart=>exact⟨0,rfl,Nat.zero_le _,H4.o⟩
   case round=>
    obtain⟨j,rfl,hj,hS⟩:=hrel;obtain⟨ofb,hasb,bkv,no,nh,fo,fh,bl,h0,uB,g1⟩:=hS.out.nV;have Ji:=qh uB;have g3:=(g1.unpack 0 rfl).pick [6,0,1,2,3,4,5,7];by_cases bz:j<nd.list.length
    ·obtain⟨gl,nK,e,rE,d0⟩:=ints_at (ay HL.o (hF wr _ 0 g3 rfl)) j bz;cases e;have Jd:=qh (List.take_succ_eq_append_getElem bz);obtain⟨q,hq⟩:=af2.o j bz;have agy:=T7.o nd.list[j] (gM bz);have agR:=qh (d_ hq);have YY:=qh ((hP.ok.ns q (List.mem_of_getElem? hq)).ty);have Yy:=qh hq;generalize nd.list[j]=ix at*
     have PH:=Gr ix agy;have xM:nh<maxLen:=by have:=uB.nh;unfold maxLen;omega
     have abJ:=qh (λ(R:EW)(hR:∀lv w',Below wr.drew.heap.size wr.drew w'->R (.returned (.agg #[.int .i64 q.kind,.int .i64 q.a,.int .i64 q.b,.int .i64 q.c,lv,.string q.text,.int .i64 q.n,.int .i64 q.ty,.int .i64 q.pos])) w')=>fE (w:=wr.drew) (R:=R) hP (hF _ _ 0 g3.drew rfl) Yy.o (g3.drew.cell 1 0) (g3.drew.lt 1) λlv w' iz _=>hR lv w' iz);have RP:wr.drew.cell? ⟨cb,6,none⟩=some (.map (some hasb)):=g3.drew.cell 1 6;have H0:=qh g3.drew;have Vf:=qh (A_ hP.ok YY.o);clear g1 g3 uB hS hq;go_wp2_with fail;go_region_held3(λw'=>w'.cell? ⟨cb,6,none⟩=some (.map (some hasb))) (first|exact RP|exact KI|exact D8|exact ad3|exact af0)
      (first
       |(go_at_call 152;refine abJ.o _ (λahH w5 od=>?_);have g5:=H0.o.below od;have KI:w5.cell? ⟨cb,6,none⟩=some (.map (some hasb)):=g5.cell 1 6;have Z8:=qh (λR=>mT (R:=R) hP (hF _ _ 0 g5 rfl) (g5.cell 1 1) (g5.lt 1) YY.o);have H5:=qh g5;clear od g5)
       |(go_at_call 154;refine Z8.o _ (λv w6 h6=>?_);have g6:=H5.o.join h6;have D8:w6.cell? ⟨cb,6,none⟩=some (.map (some hasb)):=g6.cell 1 6;have H6:=qh g6;clear h6 g6)
       |(go_at_call 153;refine xj (H6.o.at 8 rfl) (λp7 w7 h7=>?_);have g7:=(h7.unpack 0 rfl).pick [1,2,3,4,5,6,8,7,0];obtain⟨h1,hle,sC,g8⟩:=Sat.Jf (L:=[Fr,ax cb (SE X ofb hasb bkv),mapA 3 3 X.I3 X.nt (cY X.wi),lP 3 ofb no (iH fo),lP 3 hasb nh (iH fh),Prt.row 107 1 bkv bl.length bl,ax w2.heap.size (cz nd (.slice (some ⟨gl,0,none⟩) nd.list.length lc))]) (t:=B7 (l7 pg.ts q.ty)) (p:=p7) (g7.cQ (i:=8) rfl λ_ ha _ _ lR=>dp lR _ _ ha);obtain⟨b6,rfl⟩:=cK sC;obtain⟨D,hD,qx⟩:=g8.iC 4 rfl;obtain⟨w8,ab0,qt,kD⟩:=hD.update dR underlying103 xM (Maps.keyOf_int_mk underlying3 PH) (val:=.pointer (some ⟨b6,0,none⟩)) (d:=.held (.pointer (some ⟨b6,0,none⟩))) (ps:=[]) rfl;have g9:=g8.mz 4 rfl kD qt (Ψ:=iH (λk=>if k=ix then some (.pointer (some ⟨b6,0,none⟩))else fh k)) (mx qx ix _);have ad3:w7.cell? ⟨cb,6,none⟩=some (.map (some hasb)):=g8.cell 1 6;have af0:w8.cell? ⟨cb,6,none⟩=some (.map (some hasb)):=g9.cell 1 6;have Pk:=qh sC;have H9:=qh g9;have Uq:=qh (Ji.o.up hle);clear h7 g7 hle sC g8 hD qx qt kD g9))
     all_goals
      have Se:iI pg (nd.list.take (j+1)) s={iI pg (nd.list.take j) s with has:=iO (iI pg (nd.list.take j) s).has ix (B7 (l7 pg.ts q.ty))}:=by rw[Jd.o,Ty.wm,agR.o]
      have HE:Hq (Sat wB w8 [aq [Fr,ax w2.heap.size (cz nd (.slice (some ⟨gl,0,none⟩) nd.list.length lc))],uK cb X (c+(j+1)) (iI pg (nd.list.take (j+1)) s) bk]):=by
       show Sat _ _ _;rw[Se];exact((Sat.pack (L:=Lg cb X ofb hasb bkv no (nh+1) fo (λk=>if k=ix then some (.pointer (some ⟨b6,0,none⟩))else fh k) bl h1) (M:=[Fr,ax w2.heap.size (cz nd (.slice (some ⟨gl,0,none⟩) nd.list.length lc))]) (H9.o.pick [1,2,3,4,5,7,0,6])).pick [6,0,1,2,3,4,5]).mr (Uq.o.A6 ix Pk.o ⟨Vf.o.1,by have:=Vf.o.2;omega⟩)
      clear Se;go_wp2_with fail;go_roundw
      case rel=>exact⟨j+1,by go_num,by omega,HE⟩
      case measure=>simp[intOf];omega
    ·have oE:j=nd.list.length:=by omega
     subst oE;rw[List.take_length]at uB Ji
     obtain⟨ba,bc,rfl⟩:=ag (g3.row 5);have c7:=g3.cell 1 7;have T2:bl.length<=100000:=by have:=uB.len;have:=uB.uH;omega
     have x7:=g3.cell 7 7;have rh:=qh (λR=>mT (R:=R) hP (hF _ _ 0 g3.drew rfl) (g3.drew.cell 1 1) (g3.drew.lt 1) hI.ty);have H0:=qh g3.drew;have Ll:=qh (λt(e:l7 pg.ts nd.ty=some t)=>(rj hP.ok hI.ty e).1.ok);clear g1 g3 uB hS bz hj;go_wp2_with fail;go_region_law(first|(go_simp;go_at_call 154;refine rh.o _ (λv w5 h5=>?_);obtain⟨h1,vq,hle,rfl,US,g5⟩:=Sat.Xc (L:=[Fr,ax cb (SE X ofb hasb (.slice ba bl.length bc)),mapA 3 3 X.I3 X.nt (cY X.wi),lP 3 ofb no (iH fo),lP 3 hasb nh (iH fh),Prt.row 107 1 (.slice ba bl.length bc) bl.length bl,ax w2.heap.size (cz nd (.slice la nd.list.length lc))]) (o:=l7 pg.ts nd.ty) Ll.o ((H0.o.join h5).pick [0,1,2,3,4,5,7,6,8]);have c7:=g5.cell 1 7;have adq:=g5.aU (.cells #[.pointer vq] 107);have ahh:=adq.cell 1 7;have afG:=qh US;have oJ:=qh hle;have H5:=qh g5;clear h5 US hle g5 adq)|(go_loud(refine step_append_lies _ (by rfl) _ _ _ (by rfl) 0 107 j0 _ 1 8 underlying104 tj uA uI uy rfl (by omega) (.slice ba bl.length bc) bl.length bl (by rfl) ((H5.o.row 5).alloc _) ⟨w5.heap.size,0,none⟩ 1 1 [.pointer vq] (by rfl) (by rfl) (World.news_of_block (cs:=#[.pointer vq]) (t:=107) (fr:=(0,0)) (aC _ _ _ (by simp))) (by simp[Value.oneCell']) (by omega) (by unfold maxLen;omega) (by omega) (by simp) (w5.heap.size+1) (by simp) ?_);intro g4 fH w6 cy bD gV o_;have h8:=Sat.grow (H5.o.aU _) 5 rfl bD cy (by simpa using gV);have agY:=h8.cell 1 7;have ahC:=h8.free 1 rfl 7;have Ut:=h8.lt 1;have H8:=qh h8;clear h8))
     all_goals
      clear cy bD;have g9:=H8.o.store 1 rfl 7 (.slice (some ⟨g4,0,none⟩) (bl.length+1) fH);have g10:=g9.cQ (i:=5) rfl (Q:=Prt.row 107 1 (.slice (some ⟨g4,0,none⟩) (bl.length+1) fH) (bl++[Value.pointer vq]).length (bl++[Value.pointer vq])) (λ_ h=>kR h);have x1:=g10.cell 6 1;have H6:=qh (show Sat wB _ [aq [Fr,ax w2.heap.size (cz nd (.slice la nd.list.length lc))],uK cb X (c+nd.list.length+1) (iI pg nd.list s) (bk++[l7 pg.ts nd.ty])]from((Sat.pack (L:=Lg cb X ofb hasb (.slice (some ⟨g4,0,none⟩) (bl.length+1) fH) no nh fo fh (bl++[.pointer vq]) h1) (M:=[Fr,ax w2.heap.size (cz nd (.slice la nd.list.length lc))]) (g10.pick [1,2,3,4,5,7,0,6])).pick [6,0,1,2,3,4,5]).mr ((Ji.o.up oJ.o).push afG.o));clear g9 g10 H8 H5 H0 Ji;go_wp2_with fail;refine HC.o (bk++[l7 pg.ts nd.ty]) _ _ _ _ lM.o H6.o (by omega) xP.o.1 _ (λs1 w8 hq h8=>?_) (λf w8 hq h8=>⟨rfl,HX.o.2 f w8 (lI hq) ((h8.unpack 0 rfl).pick [0])⟩);have HQ:=qh hq;obtain⟨Zs,XE,aeM,afk,aes,aeb,afj,Xo,ad9,Yr,k1⟩:=h8.nV;have k3:=(k1.unpack 0 rfl).pick [6,0,1,2,3,4,5,7];have hlen:Xo.length=bk.length+1:=by have:=Yr.len;simp at this;exact this
      obtain⟨SQ,X5,rfl⟩:=ag (k3.row 5);rw[hlen]at k3
      have hbk:bk.length<=100000:=by have:=Yr.uH;simp at this;omega
      have hcap:bk.length<=X5:=by
       rcases(k3.row 5).2 with⟨h1,h2⟩|⟨g,cap,cur,h1,_,_,h3,_⟩
       ·simp only[Value.slice.injEq]at h1;omega
       ·simp only[Value.slice.injEq]at h1;omega
      have c7:=k3.cell 1 7;have f7:=k3.free 1 rfl 7;have Ut:=k3.lt 1;have hw:=IntWalk.i64_in (n:=(bk.length:Int)) (by omega);have hs:IntKind.i64.wrap (((bk.length+1:Nat):Int)-1)=(bk.length:Int):=by rw[show((bk.length+1:Nat):Int)-1=(bk.length:Int)by omega];exact hw
      have Eh:=Nz SQ (bk.length+1) X5 bk.length hcap;have K3:=qh k3;have YX:=qh Yr;have Bl:=qh hlen;clear hq h8 k1 k3 Yr hlen H6 hcap;go_wp2_with fail
      go_region
      all_goals
       have k9:=(K3.out.store 1 rfl 7 (.slice SQ bk.length X5)).drew;have FQ:=k9.cQ (i:=5) rfl (Q:=Prt.row 107 1 (.slice SQ bk.length X5) (Xo.take bk.length).length (Xo.take bk.length)) (λ_ h=>by rw[show(Xo.take bk.length).length=bk.length by have:=Bl.o;simp;omega];exact Kh Bl.o h);have H5:Hq (Sat wB _ [aq [Fr,ax w2.heap.size (cz nd (.slice la nd.list.length lc))],uK cb X (c+(nd.list.length+1+k)) s1 bk]):=(show c+nd.list.length+1+k=c+(nd.list.length+1+k)by omega)▸((Sat.pack (L:=Lg cb X Zs XE (.slice SQ bk.length X5) afk aes aeb afj (Xo.take bk.length) ad9) (M:=[Fr,ax w2.heap.size (cz nd (.slice la nd.list.length lc))]) (FQ.pick [1,2,3,4,5,6,0,7])).pick [6,0,1,2,3,4,5]).mr YX.o.pop;have HE:=qh H5.o;clear k9 FQ YX K3 f7 c7 hw hs Eh Ut;go_wp2_with fail
       go_meet
       exact⟨s1,HQ,HE.o⟩
 case rest=>
  obtain⟨s1,hQ,hS⟩:=hcut;have Yd:=qh (xP.o.2 s1 hQ.out);have YS:=qh (λs' w'(h:ky pg X.kv id bk s1=.ok s')(g:Sat wB w' [Fr,uK cb X (c+k+1) s' bk])=>HX.o.1 s' w' (by rw[vd hQ.out];exact h) (by rw[<-Nat.add_assoc];exact g));have Qf:=qh (λf w'(h:ky pg X.kv id bk s1=.error f)=>HX.o.2 f w' (by rw[vd hQ.out];exact h));clear HX xP hM;rcases he:decide (1<=nd.kind/\nd.kind<=14)with _| _
  ·have Vk:15<=nd.kind:=by simp at he;omega
   rw[RR hn Vk]at Yd YS Qf
   have x0:=(hS.out.unpack 0 rfl).cell 2 0;go_wp2_with fail;refine vy he ?_;go_wp2_with fail;refine JQ hP lM.o hn Vk hS.out (by omega) hI hi xH Yd.o (λs2 w9 e h9=>?_) (λf w9 e h9=>⟨rfl,Qf.o f w9 e ((h9.unpack 0 rfl).pick [0])⟩);have HE:=qh (YS.o s2 w9 e ((h9.unpack 0 rfl).pick [1,0]));go_wp2;go_end0;exact HE.o
  ·have Wz:=of_decide_eq_true he;rw[jX hn Wz]at Yd YS Qf
   obtain⟨ofb,hasb,bkv,no,nh,fo,fh,bl,h0,uB,g1⟩:=hS.out.nV;have g3:=(g1.unpack 0 rfl).pick [6,0,1,2,3,4,5,7];have x0:=g3.cell 7 0;have RP:wc.drew.cell? ⟨cb,5,none⟩=some (.map (some ofb)):=g3.cell 1 5;have Ut:=g3.lt 1;have xM:no<maxLen:=by have:=uB.no;unfold maxLen;omega
   have PH:=Gr id hi;have adR:=qh (λR=>FN (R:=R) hP (hF _ _ 0 g3.drew rfl) hn Wz ((g3.drew.pick [0,1,2,3,4,5,6]).UG uB) hI hi (SM Yd.o));have Bk:=qh (λt(e:qB pg X.kv s1 id nd=.ok t)=>Rj hP.ok uB.oN hIn e);have H3:=qh g3;have Ji:=qh uB;clear g1 g3 uB hS;go_wp2_with fail;refine vy he ?_;go_wp2_with fail
   go_region_held (λw'=>w'.cell? ⟨cb,5,none⟩=some (.map (some ofb))) (first|exact RP|exact KI|exact D8)
    ((go_at_call 159;refine adR.o _ (λt q w9 hu h9=>?_) (λf w9 hu aez=>⟨rfl,Qf.o f w9 (QY hu) ((H3.o.drew.below aez).pick [0])⟩);obtain⟨h1,hle,sC,g5⟩:=Sat.Jf (L:=[Fr,ax cb (SE X ofb hasb bkv),mapA 3 3 X.I3 X.nt (cY X.wi),lP 3 ofb no (iH fo),lP 3 hasb nh (iH fh),Prt.row 107 1 bkv bl.length bl,ax w2.heap.size (cz nd (.slice la nd.list.length lc))]) (t:=t) (p:=q) ((H3.o.drew.join h9).pick [0,1,2,3,4,5,7,6,8]);obtain⟨b6,rfl⟩:=cK sC;obtain⟨D,hD,qx⟩:=g5.iC 3 rfl;obtain⟨w6,yX,gg,dZ⟩:=hD.update dR underlying103 xM (Maps.keyOf_int_mk underlying3 PH) (val:=.pointer (some ⟨b6,0,none⟩)) (d:=.held (.pointer (some ⟨b6,0,none⟩))) (ps:=[]) rfl;have g8:=g5.mz 3 rfl dZ gg (Ψ:=iH (λk=>if k=id then some (.pointer (some ⟨b6,0,none⟩))else fo k)) (mx qx id _);have KI:w9.cell? ⟨cb,5,none⟩=some (.map (some ofb)):=g5.cell 1 5;have D8:w6.cell? ⟨cb,5,none⟩=some (.map (some ofb)):=g8.cell 1 5;have Pk:=qh sC;have H8:=qh g8;have Uq:=qh (Ji.o.up hle);clear h9 hle sC g5 hD qx gg dZ g8))
   all_goals
    have qN:=Bk.o t hu;have adD:=qh hu;obtain⟨D7,k2,k3⟩:=H8.o.iC 3 rfl;have cm: (Instr.lookup 103 (.map (some ofb)) (.int .i64 (id:Nat)) false).run prog w6=.ok (.pointer (some ⟨b6,0,none⟩)) w6:=by rw[mS k2 k3 hi,if_pos rfl];rfl
    have Cs:=qh (NI w6 _ t (Nat.lt_succ_self _) qN.1.ok (by have:=qN.2;omega) _ (H8.o.get (i:=7) rfl λa ha hl=>dp (Prt.le_trans ha hl) _ _ Pk.o) w6 (bR _ _));clear k2 k3 hu;go_wp2_with fail;refine Cs.o _ (λNw JN=>?_);have g10:=H8.o.below JN;have Ee:=qh (λR b h1 h2=>vs (R:=R) (b:=b) (e:=2) hP (hF _ _ 0 g10 rfl) hn (g10.cell 1 0) (g10.lt 1) h1 h2);have Az:=qh g10;obtain⟨b3,cZ⟩:∃b3,decide (((dK t:Nat):Int)<=300)=b3:=⟨_,rfl⟩
    clear JN g10;go_wp2_with fail;refine Ee.o _ b3 (λhb=>?_) (λhb ady ZD=>?_)
    ·have P1:dK t<=300:=by have:=of_decide_eq_true (cZ.trans hb);omega
     have HE:=qh (YS.o _ Nw (FH adD.o P1) ((Az.o.pick [0,1,2,3,4,5,7]).mr (Uq.o.Xv id Pk.o ⟨qN.1,P1⟩)));go_wp2;go_end0;exact HE.o
    ·have P1:¬dK t<=300:=by have:=of_decide_eq_false (cZ.trans hb);omega
     exact⟨rfl,Qf.o _ ady (Sr adD.o P1) ((Az.o.below ZD).pick [0])⟩
end
end
section
open Go
open Ty (Tr Ck aK Ex Sm Par dW my mJ jT jh uz aw eD fu aI cE gC gK eP fw af fX oF pE j_ lN)
section
variable {wB:World} {X:Cx} {pg:Ty.Pg} {cb:Nat}
theorem Ax.to{id IE k k2:Nat}{F G:iw}(h:Ax wB X cb id k F)(hi:id=IE)(hk:k<=k2)(hF:∀bk s,F bk s=G bk s):Ax wB X cb IE k2 G:=by
 have:F=G:=by funext bk s;exact hF bk s
 subst hi this;intro bk s c w Fr aa9 H hc eR R aD au;exact h bk s c w Fr aa9 H (by omega) eR R (λs' w' hq h2=>aD s' w' hq (h2.v_ (by omega))) au
theorem qg.nil:qg wB X cb [] []:=⟨rfl,λj h=>absurd h (by simp)⟩
theorem Ax.cons{id k:Nat}{F:iw}{ids:List Nat}{cs:List (Nat×iw)}(h:Ax wB X cb id k F)(g:qg wB X cb ids cs):qg wB X cb (id::ids) ((k,F)::cs):=by
 refine⟨by rw[List.length_cons,List.length_cons,g.1],λj h1 h2=>?_⟩;cases j with
 |zero=>exact h
 |succ j=>exact g.2 j (by simpa using h1) (by simpa using h2)
theorem jx(hP:PB wB X.nv X.tv pg){id IE:Nat}{nd:Nd}(hn:pg.ns[id]?=some nd)(hi:id=IE){ids:List Nat}{cs:List (Nat×iw)}(MW:aB nd=ids)(hC:qg wB X cb ids cs)(hk:1<=nd.kind/\nd.kind<=14)(h6:nd.kind≠6)
  (ha:nd.a<=id) (hb:nd.b<=id) (hl:nd.list.length<=id) (hq:∀n∈nd.list,∃q,pg.ns[n]?=some q/\q.a<=id) (ho:nd.kind=10->∀p∈nd.list,(Ty.iv pg.ns p).kind=15) {K:Nat} (hK:eg cs+1<=K) {G:iw} (hG:∀bk s,aK (fN (cs.map Prod.snd) bk s) (ky pg X.kv id bk)=G bk s):Ax wB X cb IE K G:=by
 subst MW;have h1:=iB hn;have h2:=hP.ok.o7;exact(S5 hP hn ⟨hk.1,by omega,by omega⟩ (λh=>by omega) (B_ hP.ok hn ha hb hl hq) (EJ hP.ok hn hl ho) (by omega) (.parts ⟨h6,by omega,by omega,by omega⟩ hC)).to hi hK hG
theorem pF(hP:PB wB X.nv X.tv pg){id IE:Nat}{nd:Nd}(hn:pg.ns[id]?=some nd)(hi:id=IE){ids:List Nat}{cs:List (Nat×iw)}(MW:aB nd=ids)(hC:qg wB X cb ids cs)(hk:15<=nd.kind)(Bo:nd.kind≠16/\nd.kind≠17/\nd.kind≠22/\nd.kind≠26/\nd.kind<=26)
  (ha:nd.a<=id) (hb:nd.b<=id) (hl:nd.list=[]) (xH:nd.kind=20->0<=nd.c/\nd.c<=id) {K:Nat} (hK:eg cs+1<=K) {G:iw} (hG:∀bk s,aK (fN (cs.map Prod.snd) bk s) (ky pg X.kv id bk)=G bk s):Ax wB X cb IE K G:=by
 subst MW;have h1:=iB hn;have h2:=hP.ok.o7;exact(S5 hP hn ⟨by omega,Bo.2.2.2.2,Bo.1⟩ (λh=>by have:=xH h;omega) (B_ hP.ok hn ha hb (by rw[hl];exact Nat.zero_le _) (by rw[hl];intro n h;cases h)) (EJ hP.ok hn (by rw[hl];exact Nat.zero_le _) (by intro h;omega)) (by omega) (.parts ⟨by omega,Bo.2.1,Bo.2.2.1,Bo.2.2.2.1⟩ hC)).to hi hK hG
theorem O2{α:Type}(m:Except Ty.Ft α):aK m (λs=>Except.ok s)=m:=by cases m<;>rfl
theorem Sy{tf:Nat->Nat}{id p:Nat}{ids:List Nat}(hn:pg.ns[id]?=some {af 26 p with list:=ids})(bk:List (Option Tr))(s:Ck):ky pg tf id bk s=.ok s:=by
 rw[RR hn (by show 15<=26;omega)];rfl
theorem zt(hP:PB wB X.nv X.tv pg){b:List Sm}{a bp:Nat}(hn:pg.ns[a+aI b]?=some {af 26 bp with list:=eP b a})(hl:jT pg.ns b a){cs:List (Nat×iw)}(hC:qg wB X cb (eP b a) cs){K:Nat}(hK:eg cs+1<=K){G:iw}(hG:∀bk s,fN (cs.map Prod.snd) bk s=G bk s):Ax wB X cb (a+aI b) K G:=by
 have h1:=iB hn;have h2:=hP.ok.o7;have h3:=mD b a;refine(S5 hP hn (by simp[af]) (λh=>by simp[af]at h) (B_ hP.ok hn (by simp[af]) (by simp[af]) (by simp only[af];omega) (λn h=>by obtain⟨q,e,h4⟩:=acb b a hl n h;exact⟨q,e,by omega⟩)) (EJ hP.ok hn (by simp only[af];omega) (λh=>by cases h)) (by omega) (.block rfl hC)).to rfl hK λbk s=>?_
 unfold sN;rw[<-hG];have:ky pg X.kv (a+aI b) bk=λs=>.ok s:=by funext s;exact Sy hn bk s
 rw[this,O2]
end
section
def Ef(pg:Ty.Pg)(tf:Nat->Nat):List Ex->Nat->List (Nat×iw)
 |[],_=>[]
 |e::l,a=>(3*aw e,λbk s=>fX pg tf e a bk s)::Ef pg tf l (a+aw e)
def EO(pg:Ty.Pg)(tf:Nat->Nat):List (Nat×BA×Ex)->Nat->List (Nat×iw)
 |[],_=>[]
 |(_,_,e)::l,a=>(3*(aw e+1),λbk s=>aK (fX pg tf e a bk s) λs=>ky pg tf (a+aw e) bk s)::EO pg tf l (a+aw e+1)
def FJ(pg:Ty.Pg)(tf:Nat->Nat):List Sm->Nat->List (Nat×iw)
 |[],_=>[]
 |e::l,a=>(3*cE e,λbk s=>lN pg tf e a bk s)::FJ pg tf l (a+cE e)
variable {pg:Ty.Pg} {tf:Nat->Nat}
theorem c8(p:Nat×iw)(l:List (Nat×iw)):eg (p::l)=p.1+eg l:=rfl
theorem vn:∀(l:List Ex)(a:Nat),eg (Ef pg tf l a)=3*eD l
 |[],_=>by rw[eD];rfl
 |e::l,a=>by rw[Ef,c8,vn l,eD];simp only;omega
theorem Cr:∀(l:List (Nat×BA×Ex))(a:Nat),eg (EO pg tf l a)=3*fu l
 |[],_=>by rw[fu];rfl
 |(_,_,e)::l,a=>by rw[EO,c8,Cr l,fu];simp only;omega
theorem lh:∀(l:List Sm)(a:Nat),eg (FJ pg tf l a)=3*aI l
 |[],_=>by rw[aI];rfl
 |e::l,a=>by rw[FJ,c8,lh l,aI];simp only;omega
theorem vr:∀(l:List Ex)(a:Nat)(bk:List (Option Tr))(s:Ck),fN ((Ef pg tf l a).map Prod.snd) bk s=oF pg tf l a bk s
 |[],_,_,_=>by rw[oF];rfl
 |e::l,a,bk,s=>by
  rw[Ef,oF,List.map_cons,fN];congr 1;funext r;exact vr l _ bk r
theorem CF:∀(l:List (Nat×BA×Ex))(a:Nat)(bk:List (Option Tr))(s:Ck),fN ((EO pg tf l a).map Prod.snd) bk s=pE pg tf l a bk s
 |[],_,_,_=>by rw[pE];rfl
 |(_,_,e)::l,a,bk,s=>by
  rw[EO,pE,List.map_cons,fN];congr 1;funext r;exact CF l _ bk r
theorem k_:∀(l:List Sm)(a:Nat)(bk:List (Option Tr))(s:Ck),fN ((FJ pg tf l a).map Prod.snd) bk s=j_ pg tf l a bk s
 |[],_,_,_=>by rw[j_];rfl
 |e::l,a,bk,s=>by
  rw[FJ,j_,List.map_cons,fN];congr 1;funext r;exact k_ l _ bk r
end
section
variable {wB:World} {X:Cx} {pg:Ty.Pg} {cb:Nat}
theorem Al{pg:Ty.Pg}{id:Nat}:∀n∈([]:List Nat),∃q,pg.ns[n]?=some q/\q.a<=id:=λn h=>by cases h
theorem YM{pg:Ty.Pg}{l:List Ex}{a id:Nat}(h:my pg.ns l a)(hi:a+eD l<=id):∀n∈gC l a,∃q,pg.ns[n]?=some q/\q.a<=id:=λn hn=>by
 obtain⟨q,h1,h2⟩:=ade l a h n hn;exact⟨q,h1,by omega⟩
theorem abY{pg:Ty.Pg}{l:List (Nat×BA×Ex)}{a id:Nat}(h:mJ pg.ns l a)(hi:a+fu l<=id):∀n∈gK l a,∃q,pg.ns[n]?=some q/\q.a<=id:=λn hn=>by
 obtain⟨q,h1,h2,_⟩:=aas l a h n hn;exact⟨q,h1,by omega⟩
theorem afg{pg:Ty.Pg}{l:List (Nat×BA×Ex)}{a:Nat}(h:mJ pg.ns l a):∀n∈gK l a,(Ty.iv pg.ns n).kind=15:=λn hn=>by
 obtain⟨q,h1,_,h2⟩:=aas l a h n hn;rw[d_ h1];exact h2
theorem acv{pg:Ty.Pg}{l:List Par}{a id:Nat}(h:uz pg.ns l a):∀n∈fw l a,∃q,pg.ns[n]?=some q/\q.a<=id:=λn hn=>by
 obtain⟨q,h1,h2⟩:=acu l a h n hn;exact⟨q,h1,by omega⟩
theorem SS(hP:PgOk pg)(e:Ex)(a:Nat)(h:dW pg.ns e a):∃nb,pg.ns[a+aw e-1]?=some nb/\NdW pg nb:=by
 cases e<;>rw[dW]at h<;>rw[aw]
 case fn p ps ty bp body=>exact⟨_,by rw[<-h.2.2.2];congr 1;omega,B_ hP h.2.2.2 (by dsimp only;omega) (by dsimp only[af];omega) (by have:=mM ps a;dsimp only;omega) (acv h.1)⟩
 case call p e l=>exact⟨_,by rw[<-h.2.2];congr 1<;>omega,B_ hP h.2.2 (by dsimp only;omega) (by dsimp only[af];omega) (by have:=jw l (a+aw e);dsimp only;omega) (YM h.2.1 (nR _))⟩
 case get p e x=>exact⟨_,by rw[<-h.2];congr 1<;>omega,B_ hP h.2 (by dsimp only;omega) (by dsimp only[af];omega) (by simp[af]) Al⟩
 case atX p e i=>exact⟨_,by rw[<-h.2.2];congr 1<;>omega,B_ hP h.2.2 (by dsimp only;omega) (by dsimp only;omega) (by simp[af]) Al⟩
 case obj p l=>exact⟨_,by rw[<-h.2];congr 1<;>omega,B_ hP h.2 (by dsimp only[af];omega) (by dsimp only[af];omega) (by have:=pS l a;dsimp only;omega) (abY h.1 (nR _))⟩
 case arr p l=>exact⟨_,by rw[<-h.2];congr 1<;>omega,B_ hP h.2 (by dsimp only[af];omega) (by dsimp only[af];omega) (by have:=jw l a;dsimp only;omega) (YM h.1 (nR _))⟩
 case two p x e i=>exact⟨_,by rw[<-h.2.2];congr 1<;>omega,B_ hP h.2.2 (by dsimp only;omega) (by dsimp only;omega) (by simp[af]) Al⟩
 case one p x e=>exact⟨_,by rw[<-h.2];congr 1<;>omega,B_ hP h.2 (by dsimp only;omega) (by dsimp only[af];omega) (by simp[af]) Al⟩
 case asX p e ty=>exact⟨_,by rw[<-h.2];congr 1<;>omega,B_ hP h.2 (by dsimp only;omega) (by dsimp only[af];omega) (by simp[af]) Al⟩
 all_goals exact⟨_,by rw[<-h];congr 1,B_ hP h (by dsimp only[af];omega) (by dsimp only[af];omega) (by simp[af]) Al⟩
mutual
theorem lj(hP:PB wB X.nv X.tv pg):∀(e:Ex)(a:Nat),dW pg.ns e a->Ax wB X cb (a+aw e-1:Nat) (3*aw e) (λbk s=>fX pg X.kv e a bk s)
 | .num _ _,a,h=>by
  rw[dW]at h
  exact jx hP h (by rw[aw];omega) (ids:=[]) (cs:=[]) (by simp[aB,af]) qg.nil (by simp[af]) (by simp[af]) (by dsimp only[af];omega) (by dsimp only[af];omega) (by simp[af]) Al (λh=>by cases h) (by rw[aw];simp[eg]) (λbk s=>by rw[fX];rfl)
 | .text _ _,a,h=>by
  rw[dW]at h
  exact jx hP h (by rw[aw];omega) (ids:=[]) (cs:=[]) (by simp[aB,af]) qg.nil (by simp[af]) (by simp[af]) (by dsimp only[af];omega) (by dsimp only[af];omega) (by simp[af]) Al (λh=>by cases h) (by rw[aw];simp[eg]) (λbk s=>by rw[fX];rfl)
 | .bool _ _,a,h=>by
  rw[dW]at h
  exact jx hP h (by rw[aw];omega) (ids:=[]) (cs:=[]) (by simp[aB,af]) qg.nil (by simp[af]) (by simp[af]) (by dsimp only[af];omega) (by dsimp only[af];omega) (by simp[af]) Al (λh=>by cases h) (by rw[aw];simp[eg]) (λbk s=>by rw[fX];rfl)
 | .null _,a,h=>by
  rw[dW]at h
  exact jx hP h (by rw[aw];omega) (ids:=[]) (cs:=[]) (by simp[aB,af]) qg.nil (by simp[af]) (by simp[af]) (by dsimp only[af];omega) (by dsimp only[af];omega) (by simp[af]) Al (λh=>by cases h) (by rw[aw];simp[eg]) (λbk s=>by rw[fX];rfl)
 | .var _ _,a,h=>by
  rw[dW]at h
  exact jx hP h (by rw[aw];omega) (ids:=[]) (cs:=[]) (by simp[aB,af]) qg.nil (by simp[af]) (by simp[af]) (by dsimp only[af];omega) (by dsimp only[af];omega) (by simp[af]) Al (λh=>by cases h) (by rw[aw];simp[eg]) (λbk s=>by rw[fX];rfl)
 | .fn p ps ty bp body,a,h=>by
  rw[dW]at h
  have hb:=zt hP h.2.2.1 h.2.1 (vW hP body (a+ps.length) h.2.1) (K:=3*aI body+1) (by rw[lh];exact nR _) (λbk s=>k_ body (a+ps.length) bk s);have hl:=mM ps a;have h1:=iB h.2.2.2;have h2:=hP.ok.o7;exact(S5 hP h.2.2.2 (by simp[af]) (λh=>by simp[af]at h) (B_ hP.ok h.2.2.2 (by dsimp only;omega) (by dsimp only[af];omega) (by dsimp only;omega) (acv h.1)) (EJ hP.ok h.2.2.2 (by dsimp only;omega) (λh=>by cases h)) (by omega) (.fn rfl hb)).to (by rw[aw];omega) (by rw[hl,aw];omega) (λbk s=>by rw[fX];rfl)
 | .call p e l,a,h=>by
  rw[dW]at h
  have h1:=lj hP e a h.1;have h2:=L6 hP l (a+aw e) h.2.1;exact jx hP h.2.2 (by rw[aw];omega) (by first|(simp[aB,af];done)|(simp[aB,af];rfl)) (h1.cons h2) (by simp[af]) (by simp[af]) (by dsimp only;omega) (by dsimp only[af];omega) (by have:=jw l (a+aw e);dsimp only;omega) (YM h.2.1 (nR _)) (λh=>by cases h) (by rw[c8,vn,aw];dsimp only;omega) (λbk s=>by
   rw[fX,List.map_cons,fN,aR];congr 1;funext r;rw[vr])
 | .get p e x,a,h=>by
  rw[dW]at h
  have h1:=lj hP e a h.1;exact jx hP h.2 (by rw[aw];omega) (by first|(simp[aB,af];done)|(simp[aB,af];rfl)) (h1.cons qg.nil) (by simp[af]) (by simp[af]) (by dsimp only;omega) (by dsimp only[af];omega) (by simp[af]) Al (λh=>by cases h) (by rw[c8,aw];simp[eg];omega) (λbk s=>by
   rw[fX,List.map_cons,List.map_nil,ez])
 | .one p x e,a,h=>by
  rw[dW]at h
  have h1:=lj hP e a h.1;exact jx hP h.2 (by rw[aw];omega) (by first|(simp[aB,af];done)|(simp[aB,af];rfl)) (h1.cons qg.nil) (by simp[af]) (by simp[af]) (by dsimp only;omega) (by dsimp only[af];omega) (by simp[af]) Al (λh=>by cases h) (by rw[c8,aw];simp[eg];omega) (λbk s=>by
   rw[fX,List.map_cons,List.map_nil,ez])
 | .asX p e ty,a,h=>by
  rw[dW]at h
  have h1:=lj hP e a h.1;exact jx hP h.2 (by rw[aw];omega) (by first|(simp[aB,af];done)|(simp[aB,af];rfl)) (h1.cons qg.nil) (by simp[af]) (by simp[af]) (by dsimp only;omega) (by dsimp only[af];omega) (by simp[af]) Al (λh=>by cases h) (by rw[c8,aw];simp[eg];omega) (λbk s=>by
   rw[fX,List.map_cons,List.map_nil,ez])
 | .atX p e i,a,h=>by
  rw[dW]at h
  have h1:=lj hP e a h.1;have h2:=lj hP i (a+aw e) h.2.1;exact jx hP h.2.2 (by rw[aw];omega) (by first|(simp[aB,af];done)|(simp[aB,af];rfl)) (h1.cons (h2.cons qg.nil)) (by simp[af]) (by simp[af]) (by dsimp only;omega) (by dsimp only;omega) (by simp[af]) Al (λh=>by cases h) (by rw[c8,c8,aw];simp[eg];omega) (λbk s=>by
   rw[fX,List.map_cons,List.map_cons,List.map_nil,fN,aR];congr 1;funext r;rw[ez])
 | .two p x e i,a,h=>by
  rw[dW]at h
  have h1:=lj hP e a h.1;have h2:=lj hP i (a+aw e) h.2.1;exact jx hP h.2.2 (by rw[aw];omega) (by first|(simp[aB,af];done)|(simp[aB,af];rfl)) (h1.cons (h2.cons qg.nil)) (by simp[af]) (by simp[af]) (by dsimp only;omega) (by dsimp only;omega) (by simp[af]) Al (λh=>by cases h) (by rw[c8,c8,aw];simp[eg];omega) (λbk s=>by
   rw[fX,List.map_cons,List.map_cons,List.map_nil,fN,aR];congr 1;funext r;rw[ez])
 | .obj p l,a,h=>by
  rw[dW]at h
  have h2:=RO hP l a h.1;exact jx hP h.2 (by rw[aw];omega) (by first|(simp[aB,af];done)|(simp[aB,af];rfl)) h2 (by simp[af]) (by simp[af]) (by dsimp only[af];omega) (by dsimp only[af];omega) (by have:=pS l a;dsimp only;omega) (abY h.1 (nR _)) (λ_=>afg h.1) (by rw[Cr,aw];omega) (λbk s=>by
   rw[fX,CF])
 | .arr p l,a,h=>by
  rw[dW]at h
  have h2:=L6 hP l a h.1;exact jx hP h.2 (by rw[aw];omega) (by first|(simp[aB,af];done)|(simp[aB,af];rfl)) h2 (by simp[af]) (by simp[af]) (by dsimp only[af];omega) (by dsimp only[af];omega) (by have:=jw l a;dsimp only;omega) (YM h.1 (nR _)) (λh=>by cases h) (by rw[vn,aw];omega) (λbk s=>by
   rw[fX,vr])
theorem L6(hP:PB wB X.nv X.tv pg):∀(l:List Ex)(a:Nat),my pg.ns l a->qg wB X cb (gC l a) (Ef pg X.kv l a)
 |[],_,_=>qg.nil
 |e::l,a,h=>by
  rw[my]at h
  rw[gC,Ef];exact(lj hP e a h.1).cons (L6 hP l (a+aw e) h.2)
theorem RO(hP:PB wB X.nv X.tv pg):∀(l:List (Nat×BA×Ex))(a:Nat),mJ pg.ns l a->qg wB X cb (gK l a) (EO pg X.kv l a)
 |[],_,_=>qg.nil
 |(p,x,e)::l,a,h=>by
  rw[mJ]at h
  rw[gK,EO];have h1:=lj hP e a h.1;exact(pF hP h.2.1 rfl (by first|(simp[aB,af];done)|(simp[aB,af];rfl)) (h1.cons qg.nil) (by simp[af]) (by simp[af]) (by dsimp only;omega) (by dsimp only[af];omega) (by simp[af]) (λh=>by cases h) (by rw[c8];simp[eg];omega) (λbk s=>by
   rw[List.map_cons,List.map_nil,ez])).cons (RO hP l (a+aw e+1) h.2.2)
theorem vW(hP:PB wB X.nv X.tv pg):∀(l:List Sm)(a:Nat),jT pg.ns l a->qg wB X cb (eP l a) (FJ pg X.kv l a)
 |[],_,_=>qg.nil
 |e::l,a,h=>by
  rw[jT]at h
  rw[eP,FJ];exact(abA hP e a h.1).cons (vW hP l (a+cE e) h.2)
theorem abA(hP:PB wB X.nv X.tv pg):∀(e:Sm)(a:Nat),jh pg.ns e a->Ax wB X cb (a+cE e-1:Nat) (3*cE e) (λbk s=>lN pg X.kv e a bk s)
 | .fZ p x ty e,a,h=>by
  rw[jh]at h
  have h1:=lj hP e a h.1;obtain⟨nb,Zi,hw⟩:=SS hP.ok e a h.1;have g1:=iB h.2;have g2:=hP.ok.o7;have hI:=B_ hP.ok h.2 (by dsimp only;omega) (by dsimp only[af];omega) (by simp[af]) Al;have hIn:=EJ hP.ok h.2 (by simp[af]) (λh=>by cases h);exact(S5 hP h.2 (by simp[af]) (λh=>by simp[af]at h) hI hIn (by omega) (.fZ rfl Zi hw h1)).to (by rw[cE];omega) (by rw[cE];omega) (λbk s=>by rw[lN];rfl)
 | .set p x e,a,h=>by
  rw[jh]at h
  have h1:=lj hP e a h.1;exact pF hP h.2 (by rw[cE];omega) (by first|(simp[aB,af];done)|(simp[aB,af];rfl)) (h1.cons qg.nil) (by simp[af]) (by simp[af]) (by dsimp only;omega) (by dsimp only[af];omega) (by simp[af]) (λh=>by cases h) (by rw[c8,cE];simp[eg];omega) (λbk s=>by
   rw[lN,List.map_cons,List.map_nil,ez])
 | .print p e,a,h=>by
  rw[jh]at h
  have h1:=lj hP e a h.1;exact pF hP h.2 (by rw[cE];omega) (by first|(simp[aB,af];done)|(simp[aB,af];rfl)) (h1.cons qg.nil) (by simp[af]) (by simp[af]) (by dsimp only;omega) (by dsimp only[af];omega) (by simp[af]) (λh=>by cases h) (by rw[c8,cE];simp[eg];omega) (λbk s=>by
   rw[lN,List.map_cons,List.map_nil,ez])
 | .ret p e,a,h=>by
  rw[jh]at h
  have h1:=lj hP e a h.1;exact pF hP h.2 (by rw[cE];omega) (by first|(simp[aB,af];done)|(simp[aB,af];rfl)) (h1.cons qg.nil) (by simp[af]) (by simp[af]) (by dsimp only;omega) (by dsimp only[af];omega) (by simp[af]) (λh=>by cases h) (by rw[c8,cE];simp[eg];omega) (λbk s=>by
   rw[lN,List.map_cons,List.map_nil,ez])
 | .oL p e,a,h=>by
  rw[jh]at h
  have h1:=lj hP e a h.1;exact pF hP h.2 (by rw[cE];omega) (by first|(simp[aB,af];done)|(simp[aB,af];rfl)) (h1.cons qg.nil) (by simp[af]) (by simp[af]) (by dsimp only;omega) (by dsimp only[af];omega) (by simp[af]) (λh=>by cases h) (by rw[c8,cE];simp[eg];omega) (λbk s=>by
   rw[lN,List.map_cons,List.map_nil,ez])
 | .put p e x i,a,h=>by
  rw[jh]at h
  have h1:=lj hP e a h.1;have h2:=lj hP i (a+aw e) h.2.1;exact pF hP h.2.2 (by rw[cE];omega) (by first|(simp[aB,af];done)|(simp[aB,af];rfl)) (h1.cons (h2.cons qg.nil)) (by simp[af]) (by simp[af]) (by dsimp only;omega) (by dsimp only;omega) (by simp[af]) (λh=>by cases h) (by rw[c8,c8,cE];simp[eg];omega) (λbk s=>by
   rw[lN,List.map_cons,List.map_cons,List.map_nil,fN,aR];congr 1;funext r;rw[ez])
 | .lay p e i j,a,h=>by
  rw[jh]at h
  have h1:=lj hP e a h.1;have h2:=lj hP i (a+aw e) h.2.1;have h3:=lj hP j (a+aw e+aw i) h.2.2.1;exact pF hP h.2.2.2 (by rw[cE];omega) (by first|(simp[aB,af];done)|(simp[aB,af];rfl)) (h1.cons (h2.cons (h3.cons qg.nil))) (by simp[af]) (by simp[af]) (by dsimp only;omega) (by dsimp only;omega) (by simp[af]) (λ_=>by dsimp only;omega) (by rw[c8,c8,c8,cE];simp[eg];omega) (λbk s=>by
   rw[lN,List.map_cons,List.map_cons,List.map_cons,List.map_nil,fN,aR];congr 1;funext r;rw[fN,aR];congr 1;funext r;rw[ez])
 | .while_ p e bp b,a,h=>by
  rw[jh]at h
  have h1:=lj hP e a h.1;have h2:=zt hP h.2.2.1 h.2.1 (vW hP b (a+aw e) h.2.1) (K:=3*aI b+1) (by rw[lh];exact nR _) (λbk s=>k_ b (a+aw e) bk s);exact pF hP h.2.2.2 (by rw[cE];omega) (by first|(simp[aB,af];done)|(simp[aB,af];rfl)) (h1.cons (h2.cons qg.nil)) (by simp[af]) (by simp[af]) (by dsimp only;omega) (by dsimp only;omega) (by simp[af]) (λh=>by cases h) (by rw[c8,c8,cE];simp[eg];omega) (λbk s=>by
   rw[lN,List.map_cons,List.map_cons,List.map_nil,fN,aR];congr 1;funext r;rw[ez])
 | .if_ p e bp b none,a,h=>by
  rw[jh]at h
  have h1:=lj hP e a h.1;have h2:=zt hP h.2.2.1 h.2.1 (vW hP b (a+aw e) h.2.1) (K:=3*aI b+1) (by rw[lh];exact nR _) (λbk s=>k_ b (a+aw e) bk s);have g1:=iB h.2.2.2;have g2:=hP.ok.o7;exact(S5 hP h.2.2.2 (by simp[af]) (λh=>by simp[af]at h) (B_ hP.ok h.2.2.2 (by dsimp only;omega) (by dsimp only;omega) (by simp[af]) Al) (EJ hP.ok h.2.2.2 (by simp[af]) (λh=>by cases h)) (by omega) (.if_ rfl h1 h2 (.inl ⟨rfl,rfl,rfl⟩))).to (by rw[cE];omega) (by rw[c8,c8,cE];simp[eg];omega) (λbk s=>by
   unfold sN;rw[lN,fN,aR];congr 1;funext r;rw[ez])
 | .if_ p e bp b (some (cp,c)),a,h=>by
  rw[jh]at h
  have h1:=lj hP e a h.1;have h2:=zt hP h.2.2.1 h.2.1 (vW hP b (a+aw e) h.2.1) (K:=3*aI b+1) (by rw[lh];exact nR _) (λbk s=>k_ b (a+aw e) bk s);have h3:=zt hP h.2.2.2.2.1 h.2.2.2.1 (vW hP c (a+aw e+aI b+1) h.2.2.2.1) (K:=3*aI c+1) (by rw[lh];exact nR _) (λbk s=>k_ c (a+aw e+aI b+1) bk s);have g1:=iB h.2.2.2.2.2;have g2:=hP.ok.o7;exact(S5 hP h.2.2.2.2.2 (by simp[af]) (λh=>by simp[af]at h) (B_ hP.ok h.2.2.2.2.2 (by dsimp only;omega) (by dsimp only;omega) (by simp[af]) Al) (EJ hP.ok h.2.2.2.2.2 (by simp[af]) (λh=>by cases h)) (by omega) (.if_ rfl h1 h2 (.inr ⟨_,_,rfl,h3,rfl⟩))).to (by rw[cE];omega) (by rw[c8,c8,cE];simp[eg];omega) (λbk s=>by
   unfold sN;rw[lN,fN,aR,aR];congr 1;funext r;rw[ez])
end
end
end
end Go.Proofs.YtdlbhiaceheffabGreatDoor
