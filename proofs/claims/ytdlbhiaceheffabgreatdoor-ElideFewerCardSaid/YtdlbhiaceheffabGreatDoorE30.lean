/- Walk of check: visit, at lets. (Printed by gen_cko.py.) -/
import Derived.Test.YtdlbhiaceheffabGreatDoorE29
set_option linter.all false
set_option maxRecDepth 100000
set_option maxHeartbeats 8000000
namespace Go.Proofs.YtdlbhiaceheffabGreatDoor
open Go Go.RowKit Ty Tok Prt Tryz Proofs.Tryz
section
open Ty (Tr Ck aN)
section
variable {wB:World} {cb:Nat} {X:Cx} {pg:Ty.Pg}
theorem J5(hP:PB wB X.nv X.tv pg){id p b:Nat}{x:BA}{ty:Int}(hn:pg.ns[id]?=some {Ty.af 17 p with text:=x,ty:=ty,a:=b})(hI:NdW pg {Ty.af 17 p with text:=x,ty:=ty,a:=b})(hIn:NdIn pg {Ty.af 17 p with text:=x,ty:=ty,a:=b})(hi:id<=100000){nb:Nd}(sL:pg.ns[b]?=some nb)(LD:NdW pg nb)(h6:nb.kind=6){t:Tr}(tu:dZ pg.ts ty=some t){k:Nat}{F:fK}(C:pF wB X cb b k F):pF wB X cb id (k+3) (λbk s=>kX F (iW pg X.aK id) bk (nf pg id s)):=by
 intro bk s c w Fr hF H hc bT R aH au;have l7:15<=({Ty.af 17 p with text:=x,ty:=ty,a:=b}:Nd).kind:=by show 15<=17;omega
 have np: ({Ty.af 17 p with text:=x,ty:=ty,a:=b}:Nd).kind=20->0<=({Ty.af 17 p with text:=x,ty:=ty,a:=b}:Nd).c/\({Ty.af 17 p with text:=x,ty:=ty,a:=b}:Nd).c<=100000:=λh=>absurd h (by show¬17=20;omega)
 have HV:=qh (sC (tf:=X.aK) hn l7 bk);have how:Bm pg {Ty.af 17 p with text:=x,ty:=ty,a:=b}=t:=by
  unfold Bm;show(dZ pg.ts ty).getD (GH pg (cV pg.ns b))= _;rw[tu,bw sL];rfl
 have sQ:=qh (zD hP.ok hIn.ty (show(cV pg.ns b).list.length<=1200 by rw[bw sL];exact LD.len));rw[how]at sQ
 have hL:nf pg id s={s with has:=eI s.has id t}:=by
  unfold nf;rw[bw hn];show(if(cV pg.ns b).kind=6 then _ else _)= _;rw[bw sL,if_pos h6,how]
 have kb: (((nb.kind:Nat):Int)==6)=true:=by rw[h6];rfl
 clear how;dsimp only at bT aH au;rw[hL]at bT aH au
 have jT:=qh (jh bT);have Sn:=qh sL;have Sp:=qh LD;have HC:=qh C;have EJ:=zn id hi;have SG:=qh tu;clear bT hL sL LD h6 C tu;have aX:=qh aH;have aB:=qh au;have HF:=qh hF;have HP:=qh hP;have gZ:=qh hn;have HI:=qh hI;have LF:=qh hIn;have H1:=qh H;obtain⟨_,_,_,_,_,_,_,_,_,_,g1⟩:=H.eJ;have dO:=qh (λR=>aQ (R:=R) hP (hF _ _ 0 g1 rfl) hn (g1.cell 1 rfl 0 rfl) (g1.lt 1 rfl));clear aH au hF hP hn hI hIn H g1;go_enter func93,ntmps93;go_wp2_with fail;refine dO.o _ (λlv w2 aD cu=>?_);obtain⟨la,lc,rfl⟩:=ag cu;unfold aG
 (try dsimp only[Ty.af])
 (try dsimp only[Ty.af]at cu)
 have h3:=(H1.o.below aD).aj (az ⟨17,b,0,0,[],x,0,ty,p⟩ (.slice la 0 lc)) w2.heap.size;have x0:=h3.cell 2 rfl 0 rfl;have x1:=h3.cell 2 rfl 1 rfl;have x7:=h3.cell 2 rfl 7 rfl;have H4:=qh ((Sat.pack (L:=[_]) (M:=[Fr,av w2.heap.size (az ⟨17,b,0,0,[],x,0,ty,p⟩ (.slice la 0 lc))]) (h3.pick [1,0,2])).pick [1,0]);have cC:=qh (HF.o.ah (M:=[av w2.heap.size (az ⟨17,b,0,0,[],x,0,ty,p⟩ (.slice la 0 lc))]));have iL:=qh cu;clear h3 aD cu H1 dO;obtain⟨ofb,hasb,bkv,no,nh,fo,fh,bl,h0,jW,g1⟩:=H4.o.eJ;have Bb:=qh (λR=>aQ (R:=R) HP.o (cC.o _ _ 0 g1 rfl) Sn.o (g1.cell 1 rfl 0 rfl) (g1.lt 1 rfl));have G1:=qh g1;have sr:=qh jW;have sO:nh<maxLen:=by have:=jW.nh;unfold maxLen;omega
 have QO:nh+1<maxLen:=by have:=jW.nh;unfold maxLen;omega
 clear g1 jW H4;go_wp2_with fail;refine Bb.o _ (λqx w3 dF tP=>?_);have Vl:=qh tP;obtain⟨rL,sw,rfl⟩:=ag tP;unfold aG;have g4:=(((G1.out.below dF).unpack (i:=0) rfl).pick [6,0,1,2,3,4,5,7]).aj (az nb (.slice rL nb.list.length sw)) w3.heap.size;have x1:=g4.cell 7 rfl 1 rfl;have x7:=g4.cell 7 rfl 7 rfl;have y0:=g4.cell 8 rfl 0 rfl;have zu:=qh (HF.o.ah (M:=[av w2.heap.size (az ⟨17,b,0,0,[],x,0,ty,p⟩ (.slice la 0 lc)),av w3.heap.size (az nb (.slice rL nb.list.length sw))]));have H5:=qh g4;clear dF tP g4 G1 cC Bb;have Ja: (w3.alloc (az nb (.slice rL nb.list.length sw))).drew.cell? ⟨cb,6,none⟩=some (.map (some hasb))/\(w3.alloc (az nb (.slice rL nb.list.length sw))).drew.cell? ⟨w2.heap.size,7,none⟩=some (.int .i64 ty):=⟨H5.o.cell 1 rfl 6 rfl,x7⟩
 have Qi:=H5.o.lt 1 rfl;have b_:=qh (λR=>gT (R:=R) HP.o (HF.o _ _ 0 H5.o.drew rfl) (H5.o.drew.cell 1 rfl 1 rfl) (H5.o.drew.lt 1 rfl) HI.o.ty);go_wp2_with fail;go_region_held3(λw'=>w'.cell? ⟨cb,6,none⟩=some (.map (some hasb))/\w'.cell? ⟨w2.heap.size,7,none⟩=some (.int .i64 ty)) (first|exact Ja|exact Aw|exact pz)
  ((go_at_call 154;refine b_.o _ (λv w5 h5=>?_);have h5:=H5.o.drew.join h5;rw[show dZ pg.ts ({Ty.af 17 p with text:=x,ty:=ty,a:=b}:Nd).ty=some t from SG.o]at h5;obtain⟨h1,hle,oz,g5⟩:=Sat.Av (L:=[Fr,av cb (MI X ofb hasb bkv),mapA 3 3 X.nV X.nt (cF X.wi),jk 3 ofb no (gd fo),jk 3 hasb nh (gd fh),Prt.row 107 1 bkv bl.length bl,av w2.heap.size (az ⟨17,b,0,0,[],x,0,ty,p⟩ (.slice la 0 lc)),av w3.heap.size (az nb (.slice rL nb.list.length sw))]) (t:=t) (p:=v) ((h5.pick [0,1,2,3,4,5,7,8,6,9]).cL (i:=9) rfl λ_ ha _ _ mI=>bN mI _ _ ha);obtain⟨b6,rfl⟩:=aS oz;obtain⟨D,hD,mg⟩:=g5.fV 4 rfl;obtain⟨w6,sk,fC,dQ⟩:=hD.update cy underlying103 sO (Maps.keyOf_int_mk underlying3 EJ) (val:=.pointer (some ⟨b6,0,none⟩)) (d:=.held (.pointer (some ⟨b6,0,none⟩))) (ps:=[]) rfl;have g8:=g5.jq 4 rfl dQ fC (Ψ:=gd (λk=>if k=id then some (.pointer (some ⟨b6,0,none⟩))else fh k)) (jt mg id _);have Aw:w5.cell? ⟨cb,6,none⟩=some (.map (some hasb))/\w5.cell? ⟨w2.heap.size,7,none⟩=some (.int .i64 ty):=⟨g5.cell 1 rfl 6 rfl,g5.cell 6 rfl 7 rfl⟩;have pz:w6.cell? ⟨cb,6,none⟩=some (.map (some hasb))/\w6.cell? ⟨w2.heap.size,7,none⟩=some (.int .i64 ty):=⟨g8.cell 1 rfl 6 rfl,g8.cell 6 rfl 7 rfl⟩;have Bh:=qh oz;have H8:=qh g8;have M1:=qh (sr.o.up hle);clear h5 hle oz g5 hD mg fC dQ g8))
 all_goals
  obtain⟨D7,k2,k3⟩:=H8.o.fV 4 rfl;have bu: (Instr.lookup 103 (.map (some hasb)) (.int .i64 (id:Nat)) false).run prog w6=.ok (.pointer (some ⟨b6,0,none⟩)) w6:=by rw[kv k2 k3 hi,if_pos rfl];rfl
  have c6:=H8.o.cell 1 rfl 6 rfl;have x1:=H8.o.cell 6 rfl 1 rfl;clear k2 k3;go_wp2_with fail;have g6:=H8.o.pick [1,2,3,4,5,8,0,6,7];have H6:=qh (show Sat wB _ [ah [Fr,av w2.heap.size (az ⟨17,b,0,0,[],x,0,ty,p⟩ (.slice la 0 lc)),av w3.heap.size (az nb (.slice rL nb.list.length sw))],mf cb X (c+2) {s with has:=eI s.has id t} bk]from((Sat.pack (L:=Ho cb X ofb hasb bkv no (nh+1) fo (λk=>if k=id then some (.pointer (some ⟨b6,0,none⟩))else fh k) bl h1) (M:=[Fr,av w2.heap.size (az ⟨17,b,0,0,[],x,0,ty,p⟩ (.slice la 0 lc)),av w3.heap.size (az nb (.slice rL nb.list.length sw))]) g6).pick [6,0,1,2,3,4,5]).jF (M1.o.tT id Bh.o sQ.o)|>.uT (d:=c+2) (by omega));clear g6;refine HC.o bk _ _ _ _ zu.o H6.o (by omega) jT.o.1 _ (λs1 l_ hq h8=>?_) (λf l_ hq h8=>⟨rfl,aB.o f l_ (gv hq) ((h8.unpack (i:=0) rfl).pick [0])⟩);have H5:Hq (Sat wB l_ [ah [Fr,av w2.heap.size (az ⟨17,b,0,0,[],x,0,ty,p⟩ (.slice la 0 lc)),av w3.heap.size (az nb (.slice rL nb.list.length sw))],mf cb X (c+(k+2)) s1 bk]):=by show Sat _ _ _;rw[show c+(k+2)=c+2+k by omega];exact h8
  have HQ:=qh hq;have cC:=zu;clear hq h8 H6;have wu:=qh (λs' w'(h:im pg X.aK bk id {Ty.af 17 p with text:=x,ty:=ty,a:=b} s1=.ok s')(g:Sat wB w' [Fr,mf cb X (c+(k+2)+1) s' bk])=>aX.o s' w' (by rw[dT HQ.o,HV.o];exact h) (by rw[<-Nat.add_assoc];exact g));have eB:=qh (λf w'(h:im pg X.aK bk id {Ty.af 17 p with text:=x,ty:=ty,a:=b} s1=.error f)=>aB.o f w' (by rw[dT HQ.o,HV.o];exact h));have vu:=qh (by have:=jT.o.2 s1 HQ.o;rw[HV.o]at this;exact this);clear aX aB HQ jT HV;have x0:=(H5.o.unpack (i:=0) rfl).cell 2 rfl 0 rfl;go_wp2_with fail;refine fH (k:=17) (b:=false) rfl ?_;go_wp2_with fail;refine iS HP.o cC.o gZ.o l7 H5.o (by omega) HI.o hi np vu.o (λs2 w9 e h9=>?_) (λf w9 e h9=>⟨rfl,eB.o f w9 e ((h9.unpack (i:=0) rfl).pick [0])⟩);have HE:=qh (wu.o s2 w9 e ((h9.unpack (i:=0) rfl).pick [1,0]));clear e h9;go_wp2_with fail;go_end0;exact HE.o
end
section
variable {wB:World} {cb:Nat} {X:Cx} {pg:Ty.Pg}
theorem Js(hP:PB wB X.nv X.tv pg){id p b:Nat}{x:BA}{ty:Int}(hn:pg.ns[id]?=some {Ty.af 17 p with text:=x,ty:=ty,a:=b})(hI:NdW pg {Ty.af 17 p with text:=x,ty:=ty,a:=b})(hIn:NdIn pg {Ty.af 17 p with text:=x,ty:=ty,a:=b})(hi:id<=100000){nb:Nd}(sL:pg.ns[b]?=some nb)(LD:NdW pg nb)(h6:nb.kind=6)(tu:dZ pg.ts ty=none){k:Nat}{F:fK}(C:pF wB X cb b k F):pF wB X cb id (k+3) (λbk s=>kX F (iW pg X.aK id) bk (nf pg id s)):=by
 intro bk s c w Fr hF H hc bT R aH au;have l7:15<=({Ty.af 17 p with text:=x,ty:=ty,a:=b}:Nd).kind:=by show 15<=17;omega
 have np: ({Ty.af 17 p with text:=x,ty:=ty,a:=b}:Nd).kind=20->0<=({Ty.af 17 p with text:=x,ty:=ty,a:=b}:Nd).c/\({Ty.af 17 p with text:=x,ty:=ty,a:=b}:Nd).c<=100000:=λh=>absurd h (by show¬17=20;omega)
 have HV:=qh (sC (tf:=X.aK) hn l7 bk);have how:Bm pg {Ty.af 17 p with text:=x,ty:=ty,a:=b}=GH pg nb:=by
  unfold Bm;show(dZ pg.ts ty).getD (GH pg (cV pg.ns b))= _;rw[tu,bw sL];rfl
 have sQ:=qh (zD hP.ok hIn.ty (show(cV pg.ns b).list.length<=1200 by rw[bw sL];exact LD.len));rw[how]at sQ
 have hL:nf pg id s={s with has:=eI s.has id (GH pg nb)}:=by
  unfold nf;rw[bw hn];show(if(cV pg.ns b).kind=6 then _ else _)= _;rw[bw sL,if_pos h6,how]
 have kb: (((nb.kind:Nat):Int)==6)=true:=by rw[h6];rfl
 clear how;dsimp only at bT aH au;rw[hL]at bT aH au
 have jT:=qh (jh bT);have Sn:=qh sL;have Sp:=qh LD;have HC:=qh C;have EJ:=zn id hi;have SG:=qh tu;clear bT hL sL LD h6 C tu;have aX:=qh aH;have aB:=qh au;have HF:=qh hF;have HP:=qh hP;have gZ:=qh hn;have HI:=qh hI;have LF:=qh hIn;have H1:=qh H;obtain⟨_,_,_,_,_,_,_,_,_,_,g1⟩:=H.eJ;have dO:=qh (λR=>aQ (R:=R) hP (hF _ _ 0 g1 rfl) hn (g1.cell 1 rfl 0 rfl) (g1.lt 1 rfl));clear aH au hF hP hn hI hIn H g1;go_enter func93,ntmps93;go_wp2_with fail;refine dO.o _ (λlv w2 aD cu=>?_);obtain⟨la,lc,rfl⟩:=ag cu;unfold aG
 (try dsimp only[Ty.af])
 (try dsimp only[Ty.af]at cu)
 have h3:=(H1.o.below aD).aj (az ⟨17,b,0,0,[],x,0,ty,p⟩ (.slice la 0 lc)) w2.heap.size;have x0:=h3.cell 2 rfl 0 rfl;have x1:=h3.cell 2 rfl 1 rfl;have x7:=h3.cell 2 rfl 7 rfl;have H4:=qh ((Sat.pack (L:=[_]) (M:=[Fr,av w2.heap.size (az ⟨17,b,0,0,[],x,0,ty,p⟩ (.slice la 0 lc))]) (h3.pick [1,0,2])).pick [1,0]);have cC:=qh (HF.o.ah (M:=[av w2.heap.size (az ⟨17,b,0,0,[],x,0,ty,p⟩ (.slice la 0 lc))]));have iL:=qh cu;clear h3 aD cu H1 dO;obtain⟨ofb,hasb,bkv,no,nh,fo,fh,bl,h0,jW,g1⟩:=H4.o.eJ;have Bb:=qh (λR=>aQ (R:=R) HP.o (cC.o _ _ 0 g1 rfl) Sn.o (g1.cell 1 rfl 0 rfl) (g1.lt 1 rfl));have G1:=qh g1;have sr:=qh jW;have sO:nh<maxLen:=by have:=jW.nh;unfold maxLen;omega
 have QO:nh+1<maxLen:=by have:=jW.nh;unfold maxLen;omega
 clear g1 jW H4;go_wp2_with fail;refine Bb.o _ (λqx w3 dF tP=>?_);have Vl:=qh tP;obtain⟨rL,sw,rfl⟩:=ag tP;unfold aG;have g4:=(((G1.out.below dF).unpack (i:=0) rfl).pick [6,0,1,2,3,4,5,7]).aj (az nb (.slice rL nb.list.length sw)) w3.heap.size;have x1:=g4.cell 7 rfl 1 rfl;have x7:=g4.cell 7 rfl 7 rfl;have y0:=g4.cell 8 rfl 0 rfl;have zu:=qh (HF.o.ah (M:=[av w2.heap.size (az ⟨17,b,0,0,[],x,0,ty,p⟩ (.slice la 0 lc)),av w3.heap.size (az nb (.slice rL nb.list.length sw))]));have H5:=qh g4;clear dF tP g4 G1 cC Bb;have Ja: (w3.alloc (az nb (.slice rL nb.list.length sw))).drew.cell? ⟨cb,6,none⟩=some (.map (some hasb))/\(w3.alloc (az nb (.slice rL nb.list.length sw))).drew.cell? ⟨w2.heap.size,7,none⟩=some (.int .i64 ty):=⟨H5.o.cell 1 rfl 6 rfl,x7⟩
 have Qi:=H5.o.lt 1 rfl;have b_:=qh (λR=>gT (R:=R) HP.o (HF.o _ _ 0 H5.o.drew rfl) (H5.o.drew.cell 1 rfl 1 rfl) (H5.o.drew.lt 1 rfl) HI.o.ty);go_wp2_with fail;go_region_held3(λw'=>w'.cell? ⟨cb,6,none⟩=some (.map (some hasb))/\w'.cell? ⟨w2.heap.size,7,none⟩=some (.int .i64 ty)) (first|exact Ja|exact Aw|exact pz)
  ((go_at_call 154;refine b_.o _ (λv w5 h5=>?_);have g5:=H5.o.drew.join h5;rw[show dZ pg.ts ({Ty.af 17 p with text:=x,ty:=ty,a:=b}:Nd).ty=none from SG.o]at g5;obtain rfl:v=.pointer none:=g5.get (i:=9) rfl λ_ ha _=>ha;obtain⟨D,hD,mg⟩:=g5.fV 4 rfl;obtain⟨w6,sk,fC,dQ⟩:=hD.update cy underlying103 sO (Maps.keyOf_int_mk underlying3 EJ) (val:=.pointer none) (d:=.held (.pointer none)) (ps:=[]) rfl;have g8:=g5.jq 4 rfl dQ fC (Ψ:=gd (λk=>if k=id then some (.pointer none)else fh k)) (jt mg id _);have Aw:w5.cell? ⟨cb,6,none⟩=some (.map (some hasb))/\w5.cell? ⟨w2.heap.size,7,none⟩=some (.int .i64 ty):=⟨g5.cell 1 rfl 6 rfl,g5.cell 7 rfl 7 rfl⟩;have pz:w6.cell? ⟨cb,6,none⟩=some (.map (some hasb))/\w6.cell? ⟨w2.heap.size,7,none⟩=some (.int .i64 ty):=⟨g8.cell 1 rfl 6 rfl,g8.cell 7 rfl 7 rfl⟩;have H8:=qh g8;clear h5 g5 hD mg fC dQ g8))
 all_goals
  obtain⟨D7,k2,k3⟩:=H8.o.fV 4 rfl;have bu: (Instr.lookup 103 (.map (some hasb)) (.int .i64 (id:Nat)) false).run prog w6=.ok (.pointer none) w6:=by rw[kv k2 k3 hi,if_pos rfl];rfl
  have c6:=H8.o.cell 1 rfl 6 rfl;have x1:=H8.o.cell 7 rfl 1 rfl;have y0:=H8.o.cell 8 rfl 0 rfl;have y1:=H8.o.cell 8 rfl 1 rfl;have y2:=H8.o.cell 8 rfl 2 rfl;have y3:=H8.o.cell 8 rfl 3 rfl;have y4:=H8.o.cell 8 rfl 4 rfl;have y5:=H8.o.cell 8 rfl 5 rfl;have y6:=H8.o.cell 8 rfl 6 rfl;have y7:=H8.o.cell 8 rfl 7 rfl;have y8:=H8.o.cell 8 rfl 8 rfl;clear k2 k3 Ja Aw pz b_;have acm:=H8.o.lt 1 rfl;have b_:=qh (λR=>wH (R:=R) HP.o (HF.o _ _ 0 H8.o.drew rfl) (H8.o.drew.cell 1 rfl 0 rfl) (H8.o.drew.cell 1 rfl 1 rfl) (H8.o.drew.lt 1 rfl) Vl.o Sp.o.ps Sp.o.ty Sp.o.len);go_wp2_with fail;go_region_held3(λw'=>w'.cell? ⟨cb,6,none⟩=some (.map (some hasb))/\w'.cell? ⟨w3.heap.size,0,none⟩=some (.int .i64 (nb.kind:Nat))/\w'.cell? ⟨w3.heap.size,1,none⟩=some (.int .i64 (nb.a:Nat))/\w'.cell? ⟨w3.heap.size,2,none⟩=some (.int .i64 (nb.b:Nat))/\w'.cell? ⟨w3.heap.size,3,none⟩=some (.int .i64 nb.c)/\w'.cell? ⟨w3.heap.size,4,none⟩=some (.slice rL nb.list.length sw)/\w'.cell? ⟨w3.heap.size,5,none⟩=some (.string nb.text)/\w'.cell? ⟨w3.heap.size,6,none⟩=some (.int .i64 (nb.n:Nat))/\w'.cell? ⟨w3.heap.size,7,none⟩=some (.int .i64 nb.ty)/\w'.cell? ⟨w3.heap.size,8,none⟩=some (.int .i64 (nb.pos:Nat))) (first|exact⟨c6,y0,y1,y2,y3,y4,y5,y6,y7,y8⟩|exact ik|exact wO)
   ((go_at_call 156;refine b_.o _ (λv w7 h7=>?_);obtain⟨h1,hle,oz,g5⟩:=Sat.Av (L:=[Fr,av cb (MI X ofb hasb bkv),mapA 3 3 X.nV X.nt (cF X.wi),jk 3 ofb no (gd fo),jk 3 hasb (nh+1) (gd (λk=>if k=id then some (.pointer none)else fh k)),Prt.row 107 1 bkv bl.length bl,av w2.heap.size (az ⟨17,b,0,0,[],x,0,ty,p⟩ (.slice la 0 lc)),av w3.heap.size (az nb (.slice rL nb.list.length sw))]) (t:=GH pg nb) (p:=v) (((H8.o.drew.join h7).pick [0,1,2,3,4,5,7,8,6,10]).cL (i:=9) rfl λ_ ha _ _ mI=>bN mI _ _ ha);obtain⟨b6,rfl⟩:=aS oz;obtain⟨D,hD,mg⟩:=g5.fV 4 rfl;obtain⟨w8,sk,fC,dQ⟩:=hD.update cy underlying103 QO (Maps.keyOf_int_mk underlying3 EJ) (val:=.pointer (some ⟨b6,0,none⟩)) (d:=.held (.pointer (some ⟨b6,0,none⟩))) (ps:=[]) rfl;have g8:=g5.jq 4 rfl dQ fC (Ψ:=gd (λk=>if k=id then some (.pointer (some ⟨b6,0,none⟩))else(if k=id then some (.pointer none)else fh k))) (jt mg id _);have ik:=And.intro (g5.cell 1 rfl 6 rfl) (And.intro (g5.cell 7 rfl 0 rfl) (And.intro (g5.cell 7 rfl 1 rfl) (And.intro (g5.cell 7 rfl 2 rfl) (And.intro (g5.cell 7 rfl 3 rfl) (And.intro (g5.cell 7 rfl 4 rfl) (And.intro (g5.cell 7 rfl 5 rfl) (And.intro (g5.cell 7 rfl 6 rfl) (And.intro (g5.cell 7 rfl 7 rfl) (g5.cell 7 rfl 8 rfl)))))))));have wO:=And.intro (g8.cell 1 rfl 6 rfl) (And.intro (g8.cell 7 rfl 0 rfl) (And.intro (g8.cell 7 rfl 1 rfl) (And.intro (g8.cell 7 rfl 2 rfl) (And.intro (g8.cell 7 rfl 3 rfl) (And.intro (g8.cell 7 rfl 4 rfl) (And.intro (g8.cell 7 rfl 5 rfl) (And.intro (g8.cell 7 rfl 6 rfl) (And.intro (g8.cell 7 rfl 7 rfl) (g8.cell 7 rfl 8 rfl)))))))));have Bh:=qh oz;have H9:=qh g8;have M1:=qh (sr.o.up hle);clear h7 hle oz g5 hD mg fC dQ g8))
  all_goals
   have x1:=H9.o.cell 6 rfl 1 rfl;go_wp2_with fail;have g6:=H9.o.pick [1,2,3,4,5,8,0,6,7];rw[show(λk=>if k=id then some (.pointer (some ⟨b6,0,none⟩))else(if k=id then some (.pointer none)else fh k))=(λk=>if k=id then some (.pointer (some ⟨b6,0,none⟩))else fh k)by funext k;split<;>rfl]at g6
   have H6:=qh (show Sat wB _ [ah [Fr,av w2.heap.size (az ⟨17,b,0,0,[],x,0,ty,p⟩ (.slice la 0 lc)),av w3.heap.size (az nb (.slice rL nb.list.length sw))],mf cb X (c+2) {s with has:=eI s.has id (GH pg nb)} bk]from((Sat.pack (L:=Ho cb X ofb hasb bkv no (nh+2) fo (λk=>if k=id then some (.pointer (some ⟨b6,0,none⟩))else fh k) bl h1) (M:=[Fr,av w2.heap.size (az ⟨17,b,0,0,[],x,0,ty,p⟩ (.slice la 0 lc)),av w3.heap.size (az nb (.slice rL nb.list.length sw))]) g6).pick [6,0,1,2,3,4,5]).jF {(M1.o.tT id Bh.o sQ.o).mono (Nat.le_succ (c+1))with nh:=Nat.add_le_add_right sr.o.nh 2});clear g6;refine HC.o bk _ _ _ _ zu.o H6.o (by omega) jT.o.1 _ (λs1 l_ hq h8=>?_) (λf l_ hq h8=>⟨rfl,aB.o f l_ (gv hq) ((h8.unpack (i:=0) rfl).pick [0])⟩);have H5:Hq (Sat wB l_ [ah [Fr,av w2.heap.size (az ⟨17,b,0,0,[],x,0,ty,p⟩ (.slice la 0 lc)),av w3.heap.size (az nb (.slice rL nb.list.length sw))],mf cb X (c+(k+2)) s1 bk]):=by show Sat _ _ _;rw[show c+(k+2)=c+2+k by omega];exact h8
   have HQ:=qh hq;have cC:=zu;clear hq h8 H6;have wu:=qh (λs' w'(h:im pg X.aK bk id {Ty.af 17 p with text:=x,ty:=ty,a:=b} s1=.ok s')(g:Sat wB w' [Fr,mf cb X (c+(k+2)+1) s' bk])=>aX.o s' w' (by rw[dT HQ.o,HV.o];exact h) (by rw[<-Nat.add_assoc];exact g));have eB:=qh (λf w'(h:im pg X.aK bk id {Ty.af 17 p with text:=x,ty:=ty,a:=b} s1=.error f)=>aB.o f w' (by rw[dT HQ.o,HV.o];exact h));have vu:=qh (by have:=jT.o.2 s1 HQ.o;rw[HV.o]at this;exact this);clear aX aB HQ jT HV;have x0:=(H5.o.unpack (i:=0) rfl).cell 2 rfl 0 rfl;go_wp2_with fail;refine fH (k:=17) (b:=false) rfl ?_;go_wp2_with fail;refine iS HP.o cC.o gZ.o l7 H5.o (by omega) HI.o hi np vu.o (λs2 w9 e h9=>?_) (λf w9 e h9=>⟨rfl,eB.o f w9 e ((h9.unpack (i:=0) rfl).pick [0])⟩);have HE:=qh (wu.o s2 w9 e ((h9.unpack (i:=0) rfl).pick [1,0]));clear e h9;go_wp2_with fail;go_end0;exact HE.o
end
theorem Ty.uK{pg:Pg}:∀(l:List Nat)(p:Nat)(s:Ck),gN pg (l++[p]) s={gN pg l s with has:=eI (gN pg l s).has p (za (dZ pg.ts (cV pg.ns p).ty))}
 |[],_,_=>rfl
 | _::l,p,s=>by
  show gN pg (l++[p]) _= _;rw[uK l p];rfl
theorem AX(a:Option Addr)(n cap k:Nat)(hk:k<=cap)(W:World): (Instr.slice 104 (.slice a n cap) none (some (.int .i64 (k:Nat))) none).run prog W=.ok (.slice a k cap) W:=by
 have h1: (k:Int)<=cap:=by omega
 have h2: (0:Int)<=k:=by omega
 simp[Instr.slice,Instr.sliceBounds,Instr.sliceBound,asIntOf,h1,go_sem];exact λh=>absurd h (by omega)
theorem xF{a:Option Addr}{cap n:Nat}{l:List Value}{h:Prt.Hp}(BZ:l.length=n+1)(hr:Prt.row 107 1 (.slice a (n+1) cap) l.length l h):Prt.row 107 1 (.slice a n cap) n (l.take n) h:=by
 rw[BZ]at hr
 have hl:=hr.1;have cu: (l.take n).length=n*1:=by rw[List.length_take];omega
 refine⟨cu,?_⟩;rcases hr.2 with⟨h1,h2⟩|⟨g,sY,cur,h1,h2,h3,h4,h5,h6⟩
 ·exact absurd h2 (by omega)
 ·simp only[Value.slice.injEq]at h1;obtain⟨rfl,_,rfl⟩:=h1;refine .inr ⟨g,cap,cur,rfl,h2,by omega,h4,h5,?_⟩;have:=congrArg (List.take (n*1)) h6;rw[List.take_take,Nat.min_eq_left (by omega)]at this
  rw[this,Nat.mul_one]
section
variable {X:Cx} {c:Nat} {s:Ck} {bk:List (Option Tr)} {no nh:Nat} {fo fh:Nat->Option Value} {bl:List Value} {h0:Prt.Hp} {o:Option Tr} {v:Value}
def VO(h0:Prt.Hp)(o:Option Tr)(v:Value):Prop:=match o with
 |none=>v=.pointer none
 |some t=>rep h0 t v/\dX t
theorem CkI.push(h:CkI X c s bk no nh fo fh bl h0)(hv:VO h0 o v):CkI X (c+1) s (bk++[o]) no nh fo fh (bl++[v]) h0:=
 {no:=Nat.le_succ_of_le h.no,nh:=Nat.le_succ_of_le h.nh,fo:=h.fo,fh:=h.fh,len:=by simp[h.len],mQ:=by have:=h.mQ;simp;omega,fG:=h.fG,wi:=h.wi,bl:=λi hi h2=>by
   by_cases a_:i<bk.length
   ·have h3:i<bl.length:=by rw[h.len];exact a_
    have:=h.bl i a_ h3;rw[List.getElem_append_left a_,List.getElem_append_left h3];exact this
   ·have h3:i=bk.length:=by simp at hi;omega
    subst h3;have e1: (bk++[o])[bk.length]=o:=by simp
    have e2: (bl++[v])[bk.length]=v:=by simp[<-h.len]
    rw[e1,e2];cases o with
    |none=>exact hv
    |some t=>exact hv}
theorem CkI.pop(h:CkI X c s (bk++[o]) no nh fo fh bl h0):CkI X c s bk no nh fo fh (bl.take bk.length) h0:=
 {no:=h.no,nh:=h.nh,fo:=h.fo,fh:=h.fh,len:=by have:=h.len;simp at this;simp;omega,mQ:=by have:=h.mQ;simp at this;omega,fG:=h.fG,wi:=h.wi,bl:=λi hi h2=>by
   have hl:=h.len;simp at hl;have:=h.bl i (by simp;omega) (by omega);rw[List.getElem_append_left hi]at this
   rw[List.getElem_take];exact this}
end
theorem Prt.Sat.Oj{w0 w:World}{L:List As}{h0:Prt.Hp}{o:Option Tr}{v:Value}(aH:∀t,o=some t->dX t)(h:Sat w0 w (L++[Fs h0,O3 o v])):∃h1 q,Prt.le h0 h1/\v=.pointer q/\VO h1 o v/\Sat w0 w (L++[Fs h1]):=by
 cases o with
 |none=>
  have hv:v=.pointer none:=h.get (i:=L.length+1) (by rw[List.getElem?_append_right (by omega),show L.length+1-L.length=1 by omega];rfl) λ_ ha _=>ha
  refine⟨h0,none,Prt.le_refl _,hv,hv,?_⟩;have h2:=Sat.pack (L:=L++[Fs h0]) (M:=[O3 none v]) (by rw[List.append_assoc];exact h);obtain⟨a,b,d1,d2,d3,d4,d5⟩:=jz h.mem;obtain⟨x,y,dj,hx,hy,g1,z,u,dk,hz,hu,g2,g3⟩:=d5;refine⟨h.os,h.tape,h.output,?_⟩;exact eM d4 (b:=b) ⟨b,λ_=>none,λ_=>.inr rfl,Prt.le_refl _,λ_ _ e=>(by cases e),Prt.le_trans g1 hx,trivial⟩ d1 d2 d3
 |some t=>
  obtain⟨h1,a1,a2,a3⟩:=Sat.Av (L:=L) (t:=t) (p:=v) (h.cL (i:=L.length+1) (by rw[List.getElem?_append_right (by omega),show L.length+1-L.length=1 by omega];rfl) (Q:=db h0 t v) (λ_ ha _ _ mI=>bN mI _ _ ha)|>λg=>by
   have e: (L++[Fs h0,O3 (some t) v]).set (L.length+1) (db h0 t v)=L++[Fs h0,db h0 t v]:=by
    rw[List.set_append_right _ _ (by omega),show L.length+1-L.length=1 by omega];rfl
   rw[e]at g
   exact g)
  obtain⟨q,hq⟩:=aS a2;exact⟨h1,_,a1,hq,⟨a2,aH t rfl⟩,a3⟩
end
end Go.Proofs.YtdlbhiaceheffabGreatDoor
