/- Walk of types.Join. -/
import Derived.Deep.DeepCutAuto
import Derived.Deep.CutBlock
import Derived.Laws.Concat
import Derived.Test.YtdlbhiaceheffabGreatDoorC14
import Derived.Test.YtdlbhiaceheffabGreatDoorC12
import Derived.Test.YtdlbhiaceheffabGreatDoorC13
set_option linter.all false
set_option maxRecDepth 100000
set_option maxHeartbeats 4000000
namespace Go.Proofs.YtdlbhiaceheffabGreatDoor
open Go Go.RowKit Ty Tok Prt Tryz Proofs.Tryz
section
open Ty (Tr bn bE bg)
theorem Kb(w:World)(v:Value)(ls:List Value)(cg:w.ownsRow 0 107 1 v ls.length ls)(hl:ls.length<=1000000)(F:FuncId)(hc:∀(args:Array Value)(w:World),(callFunc F args).run prog w=.ok (.enter F args) w)
  (f:Nat->Bool) (mf:∀j(hj:j<ls.length) w1,Below w.heap.size w w1->∀R:EW,(∀w2,Below w1.heap.size w1 w2->R (.returned (.bool (f j))) w2)->Calls prog F #[ls[j]] w1 R) {R:EW}
  (vK:∀(r:Nat) w',Below w.heap.size w w'->bn f ls.length=true->r<=1000000->R (.returned (.int .i64 r)) w') (qq:∀w',Below w.heap.size w w'->bn f ls.length=false->R (.returned (.int .i64 (-1))) w'):
  Calls prog 326 #[v,.func (.func F) #[] #[]] w R:=by
 obtain⟨la,lc,rfl⟩:=ag cg;go_in;go_wp2;go_loopw [8] (λi wr=>∃k:Nat,k<=ls.length/\i=.int .i64 k/\Hq (Below w.heap.size w wr)/\Hq (∀j,j<k->f j=false)) (λi _=>ls.length-(intOf i).toNat)
 case atStart=>exact⟨0,by omega,rfl,bR _ _,λj hj=>by omega⟩
 case round=>
  obtain⟨k,hk,rfl,hb,hf⟩:=hrel;by_cases bz:k<ls.length
  ·obtain⟨gl,nK,e,rE,d0⟩:=iD (ay cg hb.out) k bz;cases e;have HI:=qh (mf k bz wr hb.out);have HT:=qh (λh:f k=true=>(bE (f:=f)).2 ⟨k,bz,h⟩);have HN:Hq (f k=false->∀j,j<k+1->f j=false):=λh j hj=>by
    by_cases Lj:j=k
    ·subst Lj;exact h
    ·exact hf.out j (by omega)
   generalize f k=fk at*
   generalize ls[k]=p at*
   go_wp2_with fail;refine HI.o _ (λw2 aW=>?_);have fG:=qh (hb.out.trans (aW.mono hb.out.size));cases fk
   ·have LG:=qh (HN.o rfl);go_wp2;go_roundw
    case rel=>exact⟨k+1,by omega,by go_num,fG,LG⟩
    case measure=>simp[intOf];omega
   ·have KJ:=qh (HT.o rfl);go_wp2;exact vK k _ fG.o KJ.o (by omega)
  ·have pw:k=ls.length:=by omega
   have HN:Hq (bn f ls.length=false):=bg.2 (by rw[<-pw];exact hf.out);go_wp2;exact qq _ hb.out HN.o
theorem KW(w:World)(v:Value)(ls:List Value)(cg:w.ownsRow 0 107 1 v ls.length ls)(hl:ls.length<=1000000)(F:FuncId)(hc:∀(args:Array Value)(w:World),(callFunc F args).run prog w=.ok (.enter F args) w)
  (f:Nat->Bool) (mf:∀j(hj:j<ls.length) w1,Below w.heap.size w w1->∀R:EW,(∀w2,Below w1.heap.size w1 w2->R (.returned (.bool (f j))) w2)->Calls prog F #[ls[j]] w1 R) {R:EW}
  (hR:∀w',Below w.heap.size w w'->R (.returned (.bool (bn f ls.length))) w'):
  Calls prog 299 #[v,.func (.func F) #[] #[]] w R:=by
 have HR:=qh hR;have HX:=qh (λR h1 h2=>@Kb w v ls cg hl F hc f mf R h1 h2);go_in;go_wp2_with fail;refine HX.o _ (λr w1 hb ha hr=>?_) (λw1 hb ha=>?_)
 ·rw[ha]at HR
  have HB:=qh hb;clear ha hb;go_wp2_with fail;exact HR.o _ HB.o
 ·rw[ha]at HR
  have HB:=qh hb;clear ha hb;go_wp2_with fail;exact HR.o _ HB.o
theorem J1(w0 w1:World)(bb:Nat)(p q:Value)(r:Bool)(hp:w1.cell? ⟨bb,0,none⟩=some p)(GB:kO p q w0 r)(hb:Below w0.heap.size w0 w1){R:EW}(hR:∀w2,Below w1.heap.size w1 w2->R (.returned (.bool r)) w2):
  Calls prog 300 #[q,.pointer (some ⟨bb,0,none⟩)] w1 R:=by
 have HR:=qh hR;have HF:=qh (GB w1 hb);clear hR GB hb;go_in;go_wp2_with fail;refine HF.o _ (λw2 aW=>?_);go_wp2;exact HR.o _ aW
theorem Jl(w:World)(b k:Nat)(hk:cX w b k){R:EW}(hR:R (.returned (.bool (decide (k=5)))) w):
  Calls prog 302 #[.pointer (some ⟨b,0,none⟩)] w R:=by
 obtain⟨hb,c0⟩:=hk;by_cases h5:k=5
 ·subst h5;go_in;go_wp2;exact hR
 ·have k1: ((k:Int)==5)=false:=int_ne h5;have k2:Hq (decide (k=5)=false):=decide_eq_false h5;rw[k2.out]at hR
  go_in;go_wp2;exact hR
theorem DB{w:World}{t:Tr}{p:Value}(h:rep (Prt.hp w) t p):∃b,p=.pointer (some ⟨b,0,none⟩)/\cX w b (Ty.kindOf t):=by
 obtain⟨k,names,parts,list,of⟩:=t;obtain⟨b,pv,lv,ov,ps,ls,os,rfl,hb,c0,_⟩:=js h;exact⟨b,rfl,hb,c0⟩
theorem tC{h:Prt.Hp}{b k:Nat}{lv:Value}{qs:List Value}{G:List Tr}(hb:h b=some (.cells #[.int .i64 (k:Nat),.slice none 0 0,lv,.pointer none] 219 (0,0)))(hl:Prt.row 107 1 lv qs.length qs h)(hr:br h G qs):rep h (.mk k [] [] G []) (.pointer (some ⟨b,0,none⟩)):=by
 rw[rep];exact⟨b,_,lv,_,[],qs,[],rfl,hb,⟨by simp[cP],.inl ⟨rfl,rfl⟩⟩,rfl,by rw[br],hl,hr,by rw[br],.inl ⟨rfl,rfl⟩⟩
theorem Cw(l m:List Tr)(k:Nat)(hk:k<m.length):dB (l++m.take (k+1))=qm (dB (l++m.take k)) m[k]:=by
 rw[List.take_succ_eq_append_getElem hk,<-List.append_assoc,CX]
theorem DL:∀l:List Tr,l.length<=bu l
 |[]=>by simp
 |t::l=>by have:=Hv t;have:=DL l;rw[bu];simp;omega
def iq(h0:Prt.Hp)(t:Tr)(p:Value):As:=λa=>∀h,Prt.le h0 h->Prt.le a h->rep h t p
theorem Dz{h0:Prt.Hp}{w w1:World}(h:Sat w w1 [bY w]):Sat w (w1.alloc (.cells #[.int .i64 (5:Nat),.slice none 0 0,.slice none 0 0,.pointer none] 219)) [bY w,iq h0 Fp (.pointer (some ⟨w1.heap.size,0,none⟩))]:=
 (h.ar (.cells #[.int .i64 (5:Nat),.slice none 0 0,.slice none 0 0,.pointer none] 219) w1.heap.size).cQ (i:=1) rfl λ_ ha _ _ lR=>tC (k:=5) (qs:=[]) (lR _ _ ha) ⟨rfl,.inl ⟨rfl,rfl⟩⟩ (by rw[br])
theorem I7(w0 w:World){h0:Prt.Hp}(Ab:Prt.le h0 (Prt.hp w0))(hw:Below w0.heap.size w0 w)(oC:List Tr)(ps:List Value)(aD:ux oC)(RJ:mj oC)(JT:bu oC<=1000000)(hr:br h0 oC ps)(v:Value)(cg:w.ownsRow 0 107 1 v ps.length ps){R:EW}
  (hR:∀p w',Sat w w' [bY w,iq h0 (qz oC) p]->R (.returned p) w'):
  Calls prog 245 #[v] w R:=by
 have HR:=qh hR;have ik:=qh cg;have hle:=db hr;have aaD:=DL oC;obtain⟨va,vc,rfl⟩:=ag cg;have afn:Hq (∀j(hj:j<oC.length)(fK:j<ps.length),xF w0 h0 oC[j] ps[j]):=λj hj fK=>
  LD w0 Ab _ _ (Nat.lt_succ_self _) (gQ aD _ (gM hj)) (rR RJ _ (gM hj)) (by have:=mF oC j hj;omega) _ (dn hr j hj fK)
 have fL:=qh (ri oC aD);have aaW:Hq (∀j(hj:j<oC.length),∀x∈eX oC[j],eu x):=λj hj x hx=>(BW _ (gQ aD _ (gM hj)) x hx).1
 have Yu:=qh JT;have HW:=qh hw;have oJ:=qh hle;have BN:ps.length<=1000000:=by omega
 obtain⟨j0,tj,uA,uI,uy⟩:=info_parts tM;have h1:=(Sat.iN w).nil 107 1;have H1:=qh h1;have T5:=qh Ab;clear Ab hR cg hr hle aaD aD RJ JT hw h1;go_in;go_wp2_with fail;go_loopw [3,10] (λv i wr=>∃(j:Nat)(qs:List Value),i=.int .i64 j/\j<=ps.length/\Hq (Sat w wr [bY w,Prt.row 107 1 v qs.length qs])/\Hq (br h0 (dB (bN (oC.take j))) qs)) (λ_ i _=>ps.length-(intOf i).toNat)
 case atStart=>exact⟨0,[],rfl,by omega,H1.o,by show br _ (dB (bN [])) [];rw[bN];show br _ [] [];rw[br]⟩
 case round=>
  obtain⟨j,qs,rfl,hj,hS,hQ⟩:=hrel;obtain⟨qa,qc,rfl⟩:=ag (hS.out.row 1);by_cases bz:j<ps.length
  ·obtain⟨gl,nK,e,rE,d0⟩:=iD (ay ik.o hS.out.aS) j bz;cases e;have fK:j<oC.length:=by have:=oJ.o;omega
   have HI:=qh (afn.o j fK bz wr (HW.o.trans (hS.out.aS.mono HW.o.size)));have HT:=qh (List.take_succ_eq_append_getElem fK);have Xu:=aaW.o j fK;have DV: (bN (oC.take j)).length+(eX oC[j]).length<=1000000:=by
    have h2:=kr (oC.take j);have h3:=sH oC[j];have h4:=mF oC j fK;have:=Yu.o;omega
   have Vm:∀x∈bN (oC.take j),eu x:=λx hx=>(fL.o x (by
    have:bN oC=bN (oC.take j)++bN (oC.drop j):=by rw[<-nS,List.take_append_drop]
    rw[this,List.mem_append];exact .inl hx)).1
   generalize ps[j]=pj at*
   generalize oC[j]=Lq at*
   have YN:=qh DV;have aaX:=qh Vm;have XP:=qh Xu;clear fK Xu DV Vm;go_wp2_with fail;refine HI.o _ (λv2 tP w2 h2 om=>?_);have gR:=db om;have aaJ:tP.length<=1000000:=by have:=YN.o;omega
   obtain⟨a2,Sw,rfl⟩:=ag (h2.row 1);have h3:=hS.out.join h2;have Rx:=qh om;have H3:=qh h3;have UR:=qh gR;have aeU:Hq (br h0 (dB (bN (oC.take j)++(eX Lq).take 0)) qs):=by show br _ _ _;rw[List.take_zero,List.append_nil];exact hQ.out
   clear h2 h3 om gR;go_wp2_with fail;obtain⟨wo,af8⟩:∃wo:World,wo=wr:=⟨_,rfl⟩
   clear af8 wo;go_loopw [3,17] (λv i wx=>∃(k:Nat)(qs:List Value),i=.int .i64 k/\k<=tP.length/\Hq (Sat w wx [bY w,Prt.row 107 1 v qs.length qs,Prt.row 107 1 (.slice a2 tP.length Sw) tP.length tP])/\Hq (br h0 (dB (bN (oC.take j)++(eX Lq).take k)) qs)) (λ_ i _=>tP.length-(intOf i).toNat)
   case atStart=>exact⟨0,qs,rfl,by omega,H3.o,aeU.o⟩
   case round=>
    obtain⟨k,qs,rfl,hk,D8,V2⟩:=hrel;obtain⟨ahk,qc2,rfl⟩:=ag (D8.out.row 1);by_cases mV:k<tP.length
    ·obtain⟨g5,Qs,e,aer,d5⟩:=iD (D8.out.row 2) k mV;cases e;have qR:k<(eX Lq).length:=by have:=UR.o;omega
     have R8:=dn Rx.o k qR mV;have Xi:=XP.o _ (gM qR);obtain⟨bx,adL,_⟩:=e_ R8;have R5:=qh (Cw (bN (oC.take j)) (eX Lq) k qR);have rE:=qE (bN (oC.take j)++(eX Lq).take k);have Py:=db V2.out;have ae1:qs.length+1<=1000000:=by rw[<-Py];rw[List.length_append,List.length_take]at rE;have:=YN.o;omega
     have Xb:∀y∈dB (bN (oC.take j)++(eX Lq).take k),eu y:=λy hy=>by
      have:=vp _ y hy;rw[List.mem_append]at this
      rcases this with h|h
      ·exact aaX.o y h
      ·exact XP.o y (List.mem_of_mem_take h)
     generalize(eX Lq)[k]=x at*
     generalize dB (bN (oC.take j)++(eX Lq).take k)=G at*
     rw[adL]at R8 d5
     have V8:=HW.o.trans (D8.out.aS.mono HW.o.size);have Kg:Hq (∀i(hi:i<qs.length),kO (.pointer (some ⟨bx,0,none⟩)) qs[i] w0 (Ty.alike x (G.getD i bJ))):=λi hi=>by
      have Lk:i<G.length:=by omega
      rw[getD_eq Lk];exact Jn w0 _ x G[i] _ _ (Nat.lt_succ_self _) Xi (Xb _ (gM Lk)) (dp T5.o _ _ R8) (dp T5.o _ _ (dn V2.out i Lk hi))
     have Yy:=qh Py;have abz:=qh R8;have Vd:=qh V8;have h6:=D8.out.ar (.cells #[.pointer (some ⟨bx,0,none⟩)] 107) _ rfl;have H6:=qh h6;clear qR Xi adL rE Py Xb R8 V8 h6;go_wp2_with fail;refine we _ _ qs (H6.o.row 1) (by omega) 300 _ Tryz.call300 (λi=>Ty.alike x (G.getD i bJ)) (λi hi w3 cZ R3 G'=>?_) (λw3 cZ=>?_)
     ·exact J1 w0 w3 _ _ _ _ ((H6.o.below cZ).cell 3 0) (Kg.o i hi) ((Vd.o.trans (((bR _ _).alloc (nR _) _).mono Vd.o.size)).trans (cZ.mono (by have:=Vd.o.size;simp;omega))) G'
     ·have h7:=H6.o.below cZ;have x0:=h7.cell 3 0;have H7:=qh h7;clear cZ h7;cases su:bn (λi=>Ty.alike x (G.getD i bJ)) qs.length
      ·have Xj:Hq (br h0 (dB (bN (oC.take j)++(eX Lq).take (k+1))) (qs++[.pointer (some ⟨bx,0,none⟩)])):=by
        show br _ _ _;rw[R5.o,qm,Yy.o,su];exact mZ V2.out abz.o
       clear su;go_wp2_with(at_builtin;go_loud(refine wpList_append_lies _ rfl (.tmp 25) (.tmp 27) 104 rfl 0 107 j0 _ 1 8 underlying104 tj uA uI uy rfl (by decide) _ _ qs (by rfl) ((H7.o.row 1).alloc _) ⟨w3.heap.size,0,none⟩ 1 1 [.pointer (some ⟨bx,0,none⟩)] (by rfl) (by rfl) (World.news_of_block (cs:=#[.pointer (some ⟨bx,0,none⟩)]) (t:=107) (fr:=(0,0)) (aC _ _ _ (by simp))) (by simp[Value.oneCell']) (by omega) (by unfold maxLen;omega) (by omega) (by simp) (w3.heap.size+1) (by simp) ?_));intro g4 fH w4 cy bD gV o_;have h8:=(Sat.grow (H7.o.aU _) 1 rfl bD cy (by simpa using gV)).pick [0,1,2];have h9:=h8.cQ (i:=1) rfl (Q:=Prt.row 107 1 (.slice (some ⟨g4,0,none⟩) (qs.length+1) fH) (qs++[Value.pointer (some ⟨bx,0,none⟩)]).length (qs++[Value.pointer (some ⟨bx,0,none⟩)])) (λ_ h=>kR h);have H9:=qh h9;clear h8 h9 cy bD;go_wp2_with fail;go_roundw
       case rel=>exact⟨k+1,qs++[Value.pointer (some ⟨bx,0,none⟩)],by go_num,by omega,H9.o,Xj.o⟩
       case measure=>simp[intOf];omega
      ·have Xj:Hq (br h0 (dB (bN (oC.take j)++(eX Lq).take (k+1))) qs):=by
        show br _ _ _;rw[R5.o,qm,Yy.o,su];exact V2.out
       clear su;go_wp2_with fail;go_roundw
       case rel=>exact⟨k+1,qs,by go_num,by omega,H7.o.pick [0,1,2],Xj.o⟩
       case measure=>simp[intOf];omega
    ·have pw:k=(eX Lq).length:=by have:=UR.o;omega
     have Xj:Hq (br h0 (dB (bN (oC.take (j+1)))) qs):=by
      have:=V2.out;rw[pw,List.take_length]at this
      show br _ _ _;rw[HT.o,vT];exact this
     clear pw;go_wp2_with fail;go_roundw
     case rel=>exact⟨j+1,qs,by go_num,by omega,D8.out.pick [0,1],Xj.o⟩
     case measure=>simp[intOf];omega
  ·have oE:j=oC.length:=by have:=oJ.o;omega
   have hG:=hQ.out;rw[oE,List.take_length]at hG
   have V8:=HW.o.trans (hS.out.aS.mono HW.o.size);have Vd:=qh V8;have rE:=db hG;have Py:qs.length<=1000000:=by have:=qE (bN oC);have:=kr oC;have:=Yu.o;omega
   unfold qz at HR;generalize dB (bN oC)=G at*
   rw[rE]at HR
   have HG:=qh hG;have acF:=qh rE;clear oE V8 hG rE hQ;by_cases h0:qs.length=0
   ·rw[if_pos (.inl h0)]at HR
    have k0: ((qs.length:Int)==0)=true:=by simp[h0]
    clear h0;go_wp2_with fail;refine pZ _ 5 ?_;have aau:=qh (Dz (h0:=h0) (hS.out.pick [0]));go_wp2_with fail;exact HR.o _ _ aau.o
   ·have k0:=kN qs.length 0 0;have HK:Hq (∀i(hi:i<qs.length),∃b,qs[i]=.pointer (some ⟨b,0,none⟩)/\cX w0 b (Ty.kindOf (G.getD i bJ))):=λi hi=>by
     have Lk:i<G.length:=by have:=acF.o;omega
     rw[getD_eq Lk];exact DB (dp T5.o _ _ (dn HG.o i Lk hi))
    have ig:0<qs.length:=by omega
    have H0:=qh h0;clear h0;go_wp2_with fail;refine KW wr _ qs (hS.out.row 1) (by omega) 302 Tryz.call302 (λi=>decide (Ty.kindOf (G.getD i bJ)=5)) (λi hi w3 cZ R3 G'=>?_) (λw3 cZ=>?_)
    ·obtain⟨b,eb,hk⟩:=HK.o i hi;rw[eb];exact Jl w3 b _ (nU (Vd.o.trans (cZ.mono Vd.o.size)) hk.1 hk.2) (G' w3 (bR _ _))
    ·have H7:=qh (hS.out.below cZ);clear cZ;cases su:bn (λi=>decide (Ty.kindOf (G.getD i bJ)=5)) qs.length
     ·rw[su,if_neg (by simpa using H0.o)]at HR
      clear su;by_cases h1:qs.length=1
      ·rw[if_pos h1]at HR
       have k1: ((qs.length:Int)==1)=true:=by simp[h1]
       have Lk:0<G.length:=by have:=acF.o;omega
       have R8:=dn HG.o 0 Lk ig;rw[getD_eq Lk]at HR
       obtain⟨g5,Qs,e,aer,d5⟩:=iD (H7.o.row 1) 0 ig;cases e;have abz:=qh R8;generalize qs[0]=q0 at*
       clear h1 R8;go_wp2_with fail;exact HR.o _ _ ((H7.o.pick [0]).jR (P:=iq h0 _ q0) λa h hl _=>dp hl _ _ abz.o)
      ·rw[if_neg h1]at HR
       have k1: ((qs.length:Int)==1)=false:=by simp;omega
       clear h1;go_wp2_with fail;refine HR.o _ _ ?_;have h8:=Sat.pack (L:=[bY w]) (H7.o.ar (.cells #[.int .i64 10,.slice none 0 0,.slice qa qs.length qc,.pointer none] 219) w3.heap.size);refine h8.cQ (i:=1) rfl λa ha h xV lR=>?_
       obtain⟨x,y,_,hx,hy,h1,z,u,_,hz,_,h2,_⟩:=ha;exact tC (k:=10) (lR _ _ (Prt.le_trans hz hy _ _ h2)) (iQ h1 (Prt.le_trans hx lR)) (jB xV _ _ HG.o)
     ·rw[su,if_pos (.inr rfl)]at HR
      clear su;go_wp2_with fail;refine pZ _ 5 ?_;have aau:=qh (Dz (h0:=h0) (H7.o.pick [0]));go_wp2_with fail;exact HR.o _ _ aau.o
structure RowAt(w:World)(g n:Nat)(r:TyRow):Prop where
 q0:w.cell? ⟨g,n*4,none⟩=some (.int .i64 r.t.kind)
 q1:w.cell? ⟨g,n*4+1,none⟩=some r.fv
 q2:w.cell? ⟨g,n*4+2,none⟩=some r.lv
 q3:w.cell? ⟨g,n*4+3,none⟩=some (.int .i64 r.t.of)
theorem TyRd.look{w:World}{v:Value}{rows:List TyRow}{ts:List Ty.Ty}(h:TyRd w v rows)(ow:rows.map TyRow.t=ts){n:Nat}(hn:n<ts.length):
  ∃(g cap:Nat)(r:TyRow),v=.slice (some ⟨g,0,none⟩) ts.length cap/\g<w.heap.size/\ts.length<=cap/\cap<=maxLen/\ts[n]?=some r.t/\RowAt w g n r/\w.ownsRow 0 141 2 r.fv r.t.fields.length (r.t.fields.flatMap c9)/\w.ownsRow 0 3 1 r.lv r.t.list.length (r.t.list.map aQ):=by
 have hl:rows.length=ts.length:=by rw[<-ow];simp
 obtain⟨g,cap,hv,hg,hc,hm,hcells⟩:=h.at (by omega);obtain⟨q0,q1,q2,q3⟩:=hcells n (by omega);have hb:=h.bits rows[n] (gM _);have FW: (rows.map TyRow.t)[n]?=some rows[n].t:=by rw[List.getElem?_map,List.getElem?_eq_getElem (by omega)];rfl
 rw[ow]at FW
 exact⟨g,cap,rows[n],by rw[hv,hl],hg,by omega,hm,FW,⟨q0,q1,q2,q3⟩,hb.1,hb.2⟩
end
section
open Ty (Tr)
theorem Dq{v fv lv:Value}{acc:List Ty.Ty}{t:Ty.Ty}{rows:List TyRow}{a:Prt.Hp}(hr:rows.map TyRow.t=acc)
  (h:aq [Prt.row 69 4 v (acc.length+1) (rows.flatMap ff++ff ⟨t,fv,lv⟩),aq (rows.map pC),Cf fv t.fields,gi lv t.list] a):sA v (acc++[t]) a:=by
 obtain⟨a1,r1,d1,l1,m1,h1,a2,r2,d2,l2,m2,h2,a3,r3,d3,l3,m3,h3,a4,r4,_,l4,_,h4,_⟩:=h;refine⟨rows++[⟨t,fv,lv⟩],λ_=>none,a,λ_=>.inl rfl,λ_ _ e=>(by cases e),Prt.le_refl _,?_,a1,r1,d1,l1,m1,?_,r1,λ_=>none,λ_=>.inr rfl,Prt.le_refl _,λ_ _ e=>(by cases e),?_,trivial⟩
 ·show _= _;rw[List.map_append,hr];rfl
 ·rw[List.flatMap_append,List.length_append];exact h1
 ·rw[List.map_append];refine eH h2 (b:=r2) ?_ d2 l2 m2;exact⟨r2,λ_=>none,λ_=>.inr rfl,Prt.le_refl _,λ_ _ e=>(by cases e),⟨a3,r3,d3,l3,m3,h3,iQ h4 l4⟩,trivial⟩
theorem QU{v:Value}{ns:List BA}{yk:List Nat}{n:BA}{m:Nat}{a:Prt.Hp}(hl:ns.length=yk.length)(h:Prt.row 141 2 v ((ns.zip yk).length+1) ((ns.zip yk).flatMap c9++[.string n,.int .i64 (m:Nat)]) a):Cf v ((ns++[n]).zip (yk++[m])) a:=by
 have e: (ns++[n]).zip (yk++[m])=ns.zip yk++[(n,m)]:=by rw[List.zip_append hl];rfl
 rw[e];unfold Cf;rw[List.length_append,List.flatMap_append];exact h
structure Steps(P:Nat->List Ty.Ty×List Nat)(l:List Tr)(acc:List Ty.Ty):Prop where
 zero:P 0=(acc,[])
 succ:∀k(hk:k<l.length),P (k+1)=((Ty.put l[k] (P k).1).1,(P k).2++[(Ty.put l[k] (P k).1).2])
 yk:∀k,k<=l.length->(P k).2.length=k
 len:∀k(hk:k<l.length),(P k).1.length+dK l[k]<=acc.length+bu l
 all:P l.length=cF l acc
theorem BH(l:List Tr)(acc:List Ty.Ty):Steps (λk=>cF (l.take k) acc) l acc where
 zero:=by simp[cF]
 succ:=λk hk=>by rw[List.take_succ_eq_append_getElem hk,yR]
 yk:=λk hk=>by rw[(iJ _ _).1,List.length_take];omega
 len:=λk hk=>by have:=jL (l.take k) acc;have:=mF l k hk;omega
 all:=by rw[List.take_length]
def Old(wb w:World):Prop:=∀k,k<wb.heap.size->w.heap[k]?=wb.heap[k]?
theorem Prt.Sat.Oe{w0 w wb:World}{L:List As}(h:Sat w0 w L)(i:Nat)(hi:L[i]?=some (bY wb)):Old wb w:=by
 refine h.get hi λa ha hl k hk=>?_
 have h1:=ha k hk;rw[Array.getElem?_eq_getElem hk]at h1⊢
 exact hl _ _ h1
theorem Old.cell{wb w:World}(h:Old wb w){b o:Nat}{v:Value}(hc:wb.cell? ⟨b,o,none⟩=some v):w.cell? ⟨b,o,none⟩=some v:=by
 by_cases hb:b<wb.heap.size
 ·rw[<-hc];simp[World.cell?,h b hb]
 ·rw[World.cell?,Array.getElem?_eq_none (by simpa using hb)]at hc;simp at hc
theorem Old.owns{wb w:World}(h:Old wb w){B:Nat}{e:TypeId}{size:Nat}{v:Value}{n:Nat}{xs:List Value}(ho:wb.ownsRow B e size v n xs):w.ownsRow B e size v n xs:=by
 refine⟨ho.1,?_⟩;rcases ho.2 with h1|⟨g,cap,cur,e1,e2,e3,e4⟩
 ·exact .inl h1
 ·exact .inr ⟨g,cap,cur,e1,e2,by rw[h g (Array.getElem?_eq_some_iff.1 e3).1];exact e3,e4⟩
theorem Old.size{wb w:World}(h:Old wb w):wb.heap.size<=w.heap.size:=by
 refine Nat.le_of_not_lt λbz=>?_
 have h6:=h (wb.heap.size-1) (by omega);rw[Array.getElem?_eq_none (by omega),Array.getElem?_eq_getElem (by omega)]at h6
 cases h6
def A4(wb:World)(t:Tr)(p:Value):Prop:=∀(w0 w:World)(Fr:As)(lv:Value)(acc:List Ty.Ty),Sat w0 w [Fr,bY wb,sA lv acc]->acc.length+dK t<=1000000->∀R:EW,
 (∀uL w',Sat w0 w' [Fr,bY wb,sA uL (Ty.put t acc).1]->R (.returned (.tuple #[uL,.int .i64 ((Ty.put t acc).2:Nat)])) w')->Calls prog 94 #[lv,p] w R
theorem IY(wb:World):∀(N:Nat)(t:Tr),sz t<N->eu t->∀p,rep (Prt.hp wb) t p->A4 wb t p:=by
 intro N;induction N with
 |zero=>intro t h;omega
 |succ N ih=>
  intro t hN aD p qj w0 w Fr lv acc H hb R hR;obtain⟨kd,names,parts,list,of⟩:=t;obtain⟨b,pv,ahO,ov,ps,ls,os,rfl,fF,c0,c1,c2,c3,Sh,lW,kp,Sf,AQ,AG,RT⟩:=js qj;obtain⟨aaF,abt,ZN,abx,SD,Wu⟩:=oX aD;have hold:=H.Oe 1 rfl;have afZ:=qh c2;have acn:=qh c3;have ahm:b<w.heap.size:=nL fF hold.size;replace c0:=hold.cell c0;replace c1:=hold.cell c1;replace c2:=hold.cell c2;replace c3:=hold.cell c3;have Ng:=aD;rw[eu]at Ng
  have BN:=db kp;have pG:=db AQ;have agN:Hq (∀j(hj:j<parts.length)(fK:j<ps.length),A4 wb parts[j] ps[j]):=λj hj fK=>
   ih parts[j] (by have:=rK (gM hj) kd names list of;omega) (gQ Ng.2.2.2.2.2.2.2.1 _ (gM hj)) ps[j] (dn kp j hj fK)
  have adP:Hq (∀j(hj:j<list.length)(fK:j<ls.length),A4 wb list[j] ls[j]):=λj hj fK=>
   ih list[j] (by have:=uT (gM hj) kd names parts of;omega) (gQ Ng.2.2.2.2.2.2.2.2.1 _ (gM hj)) ls[j] (dn AQ j hj fK)
  have adZ:Hq (os=[]/\of=[]/\ov=.pointer none\/∃(o:Tr)(pb:Nat),of=[o]/\ov=.pointer (some ⟨pb,0,none⟩)/\A4 wb o (.pointer (some ⟨pb,0,none⟩))):=by
   show _\/_;by_cases h8:kd=8\/kd=9
   ·right;have h1:=SD h8
    match of,h1 with
    |[o],_=>
     rw[br]at AG
     obtain⟨q,qs,e1,h2,h3⟩:=AG;rw[br]at h3
     subst h3;rw[e1]at RT
     rcases RT with⟨h,_⟩|h
     ·cases h
     ·cases h;obtain⟨pb,eb,_⟩:=e_ h2;subst eb;exact⟨o,pb,rfl,rfl,ih o (by have:=Sb (t:=o) (l:=[o]) (by simp) kd names parts list;omega) (gQ Ng.2.2.2.2.2.2.2.2.2 o (by simp)) _ h2⟩
   ·left;have h1:=Wu (by omega) (by omega);subst h1;rw[br]at AG
    subst AG;rcases RT with⟨_,h⟩|h
    ·exact⟨rfl,rfl,h⟩
    ·cases h
  have KQ:Hq (∀j(hj:j<ps.length),∃pb,ps[j]=.pointer (some ⟨pb,0,none⟩)):=λj hj=>by
   obtain⟨abd,e,_⟩:=e_ (dn kp j (by omega) hj);exact⟨abd,e⟩
  obtain⟨fa,fc,rfl⟩:=ag Sh;obtain⟨la,lc,rfl⟩:=ag Sf;rw[dK]at hb
  rw[Ty.put]at hR
  have KI:=BH parts acc;generalize agG: (λk=>cF (parts.take k) acc)=P at KI;have D8:=BH list (P parts.length).1;generalize af6: (λk=>cF (list.take k) (P parts.length).1)=Q at D8;have hP:=KI.all;have hQ:=D8.all;have abN:=jL parts acc;have aa5:=jL list (P parts.length).1;rw[<-hP]at abN hR
  rw[<-hQ]at aa5 hR
  have RW:=qh D8;have Ru:=qh abN;have T_:=qh aa5;have HB:=qh hb;have HR:=qh hR;have T7:=qh BN;have Iv:=qh pG;have Vh:=qh lW;have RA:ps.length<=1000000:=by omega
  have SL:ls.length<=1000000:=by omega
  obtain⟨i0,ti,oB,oA,oy⟩:=info_parts NA;obtain⟨j0,tj,uA,uI,uy⟩:=info_parts jA;obtain⟨l0,tl,adg,adK,adz⟩:=info_parts LY;have h1:=H.ar (.cells #[.int .i64 kd,.slice none 0 0,.slice none 0 0,.int .i64 0] 69) w.heap.size;have h2:=(h1.nil 141 2).pick [0,1,2,3,4];have h3:=h2.cQ (i:=2) rfl (Q:=sA lv (P 0).1) (λ_ h=>by rw[KI.zero];exact h);have h4:=h3.cQ (i:=4) rfl (Q:=Cf (.slice none 0 0) ((names.take 0).zip (P 0).2)) (λ_ h=>by rw[KI.zero];exact h);have H4:=qh h4;clear agG af6 ih qj H hR aD Ng aaF abt ZN abx SD Wu kp AQ AG RT D8 hP hQ abN aa5 hb BN pG lW h1 h2 h3 h4 hold hN;go_enter func94,ntmps94;go_wp2_with fail;go_loopw [0,22] (λl i wr=>∃(k:Nat)(xf lk:Value),lk=l/\i=.int .i64 k/\k<=ps.length/\Hq (Sat w0 wr [Fr,bY wb,sA lk (P k).1,ax w.heap.size (.cells #[.int .i64 kd,xf,.slice none 0 0,.int .i64 0] 69 (0,0)),Cf xf ((names.take k).zip (P k).2)]))
   (λ_ i _=>ps.length-(intOf i).toNat)
  case atStart=>exact⟨0,.slice none 0 0,lv,rfl,rfl,by omega,H4.o⟩
  case round=>
   obtain⟨k,xf,lk,rfl,rfl,hk,hS⟩:=hrel;have C9:=hS.out.Oe 1 rfl;by_cases bz:k<ps.length
   ·obtain⟨gf,Tt,e,aac,d0,d1⟩:=xq (C9.owns Sh) Vh.o k bz;cases e;obtain⟨pp,XK⟩:=KQ.o k bz;have cm:k<parts.length:=by have:=T7.o;omega
    have RF:k<names.length:=by have:=Vh.o;omega
    have MU:=KI.succ k cm;have hle:=KI.len k cm;have jU:=KI.yk k (by omega);have Jd:=qh (List.take_succ_eq_append_getElem RF);have TG:=agN.o k cm bz;rw[XK]at d1 TG
    have h7:=hS.out.ar (.cells #[.string (names[k]'RF),.pointer (some ⟨pp,0,none⟩)] 221) wr.heap.size;have ER:=qh (TG w0 _ _ _ _ ((Sat.pack (L:=[_,_]) (M:=[_,_,_,_]) (h7.pick [1,2,0,3,4,5])).pick [2,0,1]) (by have:=HB.o;have:=Ru.o;omega));have Qo:=qh MU;have adi: ((names.take k).zip (P k).2).length=k:=by rw[List.length_zip,jU,List.length_take];omega
    have ZE:Hq ((names.take k).length=(P k).2.length):=by show _= _;rw[jU,List.length_take];omega
    generalize names[k]'RF=nm at*
    generalize parts[k]=af5 at*
    have ZQ:=qh adi;clear cm RF MU hle jU adi XK TG h7;go_wp2_with fail;refine ER.o _ (λqk w2 h2=>?_);generalize Ty.put af5 (P k).1=pt at*
    obtain⟨pl,pn⟩:=pt;dsimp only at h2 Qo⊢;have h3:=(h2.unpack 0 rfl).pick [2,0,1,3,4,5];obtain⟨xa,xc,ex⟩:=ag (h3.row 4);rw[ZQ.o]at ex
    subst ex;have z0:=h3.cell 5 0;have y2:=h3.cell 3 1;have fy:=h3.free 3 rfl 1;have cg:=h3.row 4;rw[ZQ.o]at cg
    have ik:=qh cg;have H3:=qh h3;clear h2 h3 cg d0 d1;go_wp2_with(at_builtin;go_loud(refine wpList_append_lies _ rfl (.tmp 34) (.tmp 39) 67 rfl 0 141 i0 _ 2 24 underlying67 ti oB oA oy rfl (by decide) _ _ (((names.take k).zip (P k).2).flatMap c9) (by rfl) (ik.o.alloc _) ⟨w2.heap.size,0,none⟩ 1 1 [.string nm,.int .i64 (pn:Nat)] (by rfl) (by rfl) (World.news_of_block (cs:=#[.string nm,.int .i64 (pn:Nat)]) (t:=141) (fr:=(0,0)) (aC _ _ _ (by simp))) (by simp[Value.oneCell']) (by omega) (by unfold maxLen;omega) (by omega) (by simp) (w2.heap.size+1) (by simp) ?_));intro g4 fH w4 cy bD gV o_;have h4:=(Sat.grow (m:=k+1) (H3.o.aU _) 4 rfl bD cy (by simpa using gV)).pick [0,1,2,3,4];have x5:=h4.cell 3 1;have f5:=h4.free 3 rfl 1;have h5:=h4.store 3 rfl 1 (.slice (some ⟨g4,0,none⟩) (k+1) fH);have h6:=h5.cQ (i:=4) rfl (Q:=Cf (.slice (some ⟨g4,0,none⟩) (k+1) fH) ((names.take (k+1)).zip (P (k+1)).2)) (λ_ h=>by rw[Qo.o,Jd.o];exact QU ZE.o (by rw[ZQ.o];exact h));have h7:=h6.cQ (i:=2) rfl (Q:=sA qk (P (k+1)).1) (λ_ h=>by rw[Qo.o];exact h);have H7:=qh h7;clear h4 h5 h6 h7 cy bD;go_wp2_with fail;go_roundw
    case rel=>exact⟨k+1,.slice (some ⟨g4,0,none⟩) (k+1) fH,qk,rfl,by go_num,by omega,H7.o⟩
    case measure=>simp[intOf];omega
   ·have pw:k=parts.length:=by have:=T7.o;omega
    have h2:=hS.out;rw[pw,List.take_of_length_le (by have:=Vh.o;have:=T7.o;omega:names.length<=parts.length)]at h2
    have h3:=((h2.nil 3 1).cQ (i:=2) rfl (Q:=sA lk (Q 0).1) (λ_ h=>by rw[RW.o.zero];exact h)).cQ (i:=5) rfl (Q:=gi (.slice none 0 0) (Q 0).2) (λ_ h=>by rw[RW.o.zero];exact h);have H4:=qh h3;have c2:=C9.cell afZ.o;clear h2 h3 pw hS c0 c1 c3;go_wp2_with fail;clear c2;go_loopw [0,48] (λl i wr=>∃(k:Nat)(xl lk:Value),lk=l/\i=.int .i64 k/\k<=ls.length/\Hq (Sat w0 wr [Fr,bY wb,sA lk (Q k).1,ax w.heap.size (.cells #[.int .i64 kd,xf,xl,.int .i64 0] 69 (0,0)),Cf xf (names.zip (P parts.length).2),gi xl (Q k).2]))
     (λ_ i _=>ls.length-(intOf i).toNat)
    case atStart=>exact⟨0,.slice none 0 0,lk,rfl,rfl,by omega,H4.o⟩
    case round=>
     obtain⟨k,xl,lk,rfl,rfl,hk,hS⟩:=hrel;have C9:=hS.out.Oe 1 rfl;by_cases bz:k<ls.length
     ·obtain⟨gf,Tt,e,aac,d0⟩:=iD (C9.owns Sf) k bz;cases e;have cm:k<list.length:=by have:=Iv.o;omega
      have MU:=RW.o.succ k cm;have hle:=RW.o.len k cm;have jU:=RW.o.yk k (by omega);have ER:=qh (adP.o k cm bz w0 wr _ _ _ ((Sat.pack (L:=[_,_]) (M:=[_,_,_,_]) (hS.out.pick [1,2,0,3,4,5])).pick [2,0,1]) (by have:=HB.o;have:=Ru.o;have:=T_.o;omega));have Qo:=qh MU;have Td:Hq ((Q k).2.length=k):=jU;generalize ls[k]=pj at*
      generalize list[k]=tk at*
      clear cm MU hle jU;go_wp2_with fail;refine ER.o _ (λqk w2 h2=>?_);generalize Ty.put tk (Q k).1=pt at*
      obtain⟨pl,pn⟩:=pt;dsimp only at h2 Qo⊢;have h3:=(h2.unpack 0 rfl).pick [2,0,1,3,4,5];obtain⟨xa,xc,ex⟩:=ag (h3.row 5);rw[Td.o]at ex
      subst ex;have y2:=h3.cell 3 2;have fy:=h3.free 3 rfl 2;have cg:=h3.row 5;rw[Td.o]at cg
      have ik:=qh cg;have H3:=qh h3;clear h2 h3 cg d0;go_wp2_with(at_builtin;go_loud(refine wpList_append_lies _ rfl (.tmp 59) (.tmp 61) 39 rfl 0 3 j0 _ 1 8 underlying39 tj uA uI uy rfl (by decide) _ _ ((Q k).2.map aQ) (by rfl) (ik.o.alloc _) ⟨w2.heap.size,0,none⟩ 1 1 [.int .i64 (pn:Nat)] (by rfl) (by rfl) (World.news_of_block (cs:=#[.int .i64 (pn:Nat)]) (t:=3) (fr:=(0,0)) (aC _ _ _ (by simp))) (by simp[Value.oneCell']) (by omega) (by unfold maxLen;omega) (by omega) (by simp) (w2.heap.size+1) (by simp) ?_));intro g4 fH w4 cy bD gV o_;have h4:=Sat.grow (m:=k+1) (H3.o.aU _) 5 rfl bD cy (by simpa using gV);have x5:=h4.cell 3 2;have f5:=h4.free 3 rfl 2;have h5:=h4.store 3 rfl 2 (.slice (some ⟨g4,0,none⟩) (k+1) fH);have h6:=h5.cQ (i:=5) rfl (Q:=gi (.slice (some ⟨g4,0,none⟩) (k+1) fH) (Q (k+1)).2) (λ_ h=>by rw[Qo.o];exact jd (by rw[Td.o];exact h));have h7:=h6.cQ (i:=2) rfl (Q:=sA qk (Q (k+1)).1) (λ_ h=>by rw[Qo.o];exact h);have H7:=qh h7;clear h4 h5 h6 h7 cy bD;go_wp2_with fail;go_roundw
      case rel=>exact⟨k+1,.slice (some ⟨g4,0,none⟩) (k+1) fH,qk,rfl,by go_num,by omega,H7.o⟩
      case measure=>simp[intOf];omega
     ·have pw:k=list.length:=by have:=Iv.o;omega
      have h0:=hS.out;rw[pw]at h0
      generalize names.zip (P parts.length).2=FL at h0 HR;generalize(Q list.length).2=NL at h0 HR;have YG:=qh h0;clear h0;have c3:=C9.cell acn.o;rcases adZ.o with⟨_,rfl,rfl⟩|⟨o,pb,rfl,rfl,fR⟩
      ·have ZH: (Q list.length).1.length<=1000000:=by have:=HB.o;have:=Ru.o;have:=T_.o;omega
       rw[cF]at HR
       dsimp only[List.headD]at HR;have h4:=YG.o;obtain⟨uu,h5⟩:=h4.ex (i:=2) rfl;have h5:=h5.unpack 2 rfl;have om:=h5.pure 5 rfl;obtain⟨a2,ni,rfl⟩:=ag (h5.row 6);obtain⟨xa,xc,rfl⟩:=ag (h5.row 3);obtain⟨ya,yc,rfl⟩:=ag (h5.row 4);have z0:=h5.cell 2 0;have z1:=h5.cell 2 1;have z2:=h5.cell 2 2;have z3:=h5.cell 2 3;have ik:=qh (h5.row 6);have H5:=qh h5;have Rx:=qh om;clear h5 om;go_wp2_with(at_builtin;go_loud(refine wpList_append_lies _ rfl (.tmp 80) (.tmp 82) 29 rfl 0 69 l0 _ 4 64 underlying29 tl adg adK adz rfl (by decide) _ _ (uu.flatMap ff) (by rfl) (ik.o.alloc _) ⟨wr.heap.size,0,none⟩ 1 1 [.int .i64 kd,.slice xa FL.length xc,.slice ya NL.length yc,.int .i64 0] (by rfl) (by rfl) (World.news_of_block (cs:=#[.int .i64 kd,.slice xa FL.length xc,.slice ya NL.length yc,.int .i64 0]) (t:=69) (fr:=(0,0)) (aC _ _ _ (by simp))) (by simp[Value.oneCell']) (by omega) (by unfold maxLen;omega) (by omega) (by simp) (wr.heap.size+1) (by simp) ?_));intro g6 TY w6 gg dZ Ub QR;have h6:=(Sat.grow (m:=(Q list.length).1.length+1) (H5.o.aU _) 6 rfl dZ gg (by simpa using Ub)).pick [0,1,6,7,3,4];have h7:=(Sat.pack (L:=[_,_]) (M:=[_,_,_,_]) h6).cQ (i:=2) rfl (Q:=sA (.slice (some ⟨g6,0,none⟩) ((Q list.length).1.length+1) TY) ((Q list.length).1++[⟨kd,FL,NL,0⟩])) (λ_ h=>Dq (acc:=(Q list.length).1) (t:=⟨kd,FL,NL,0⟩) (rows:=uu) (fv:=.slice xa FL.length xc) (lv:=.slice ya NL.length yc) Rx.o h);have H7:=qh h7;clear h6 h7 gg dZ;go_wp2_with fail;exact HR.o _ _ H7.o
      ·have ER:=qh (fR w0 wr _ _ _ ((Sat.pack (L:=[_,_]) (M:=[_,_,_,_]) (YG.o.pick [1,2,0,3,4,5])).pick [2,0,1]) (by have:=HB.o;rw[bu,bu]at this;have:=Ru.o;have:=T_.o;omega));rw[cF,cF]at HR
       clear fR;go_wp2_with fail;refine ER.o _ (λqk w2 h2=>?_);dsimp only[List.headD]at HR;have BN:=GO o (Q list.length).1;generalize Ty.put o (Q list.length).1=pt at*
       obtain⟨pl,pn⟩:=pt;dsimp only at h2 HR BN⊢;have h3:=(h2.unpack 0 rfl).pick [2,0,1,3,4,5];have ZH:pl.length<=1000000:=by have:=HB.o;rw[bu,bu]at this;have:=Ru.o;have:=T_.o;omega
       have y3:=h3.cell 3 3;have fy:=h3.free 3 rfl 3;have H3:=qh h3;clear h2 h3 BN
       go_upto_region 17 with fail
       have h4:=H3.o.store 3 rfl 3 (.int .i64 (pn:Nat));obtain⟨uu,h5⟩:=h4.ex (i:=2) rfl;have h5:=h5.unpack 2 rfl;have om:=h5.pure 5 rfl;obtain⟨a2,ni,rfl⟩:=ag (h5.row 6);obtain⟨xa,xc,rfl⟩:=ag (h5.row 3);obtain⟨ya,yc,rfl⟩:=ag (h5.row 4);have z0:=h5.cell 2 0;have z1:=h5.cell 2 1;have z2:=h5.cell 2 2;have z3:=h5.cell 2 3;have ik:=qh (h5.row 6);have H5:=qh h5;have Rx:=qh om;clear h5 om;go_wp2_with(at_builtin;go_loud(refine wpList_append_lies _ rfl (.tmp 80) (.tmp 82) 29 rfl 0 69 l0 _ 4 64 underlying29 tl adg adK adz rfl (by decide) _ _ (uu.flatMap ff) (by rfl) (ik.o.alloc _) ⟨w2.heap.size,0,none⟩ 1 1 [.int .i64 kd,.slice xa FL.length xc,.slice ya NL.length yc,.int .i64 (pn:Nat)] (by rfl) (by rfl) (World.news_of_block (cs:=#[.int .i64 kd,.slice xa FL.length xc,.slice ya NL.length yc,.int .i64 (pn:Nat)]) (t:=69) (fr:=(0,0)) (aC _ _ _ (by simp))) (by simp[Value.oneCell']) (by omega) (by unfold maxLen;omega) (by omega) (by simp) (w2.heap.size+1) (by simp) ?_));intro g6 TY w6 gg dZ Ub QR;have h6:=(Sat.grow (m:=pl.length+1) (H5.o.aU _) 6 rfl dZ gg (by simpa using Ub)).pick [0,1,6,7,3,4];have h7:=(Sat.pack (L:=[_,_]) (M:=[_,_,_,_]) h6).cQ (i:=2) rfl (Q:=sA (.slice (some ⟨g6,0,none⟩) (pl.length+1) TY) (pl++[⟨kd,FL,NL,pn⟩])) (λ_ h=>Dq (acc:=pl) (t:=⟨kd,FL,NL,pn⟩) (rows:=uu) (fv:=.slice xa FL.length xc) (lv:=.slice ya NL.length yc) Rx.o h);have H7:=qh h7;clear h6 h7 gg dZ;go_wp2_with fail;exact HR.o _ _ H7.o
def bs(l:List UInt8):BA:=⟨l.toArray⟩
theorem Hb(l:List UInt8): (bs l).data.toList=l:=by simp[bs]
theorem lZ(x:BA):bs x.data.toList=x:=by cases x;rfl
theorem Us(a b:List UInt8):bs a++bs b=bs (a++b):=by
 apply ByteArray.ext;apply Array.ext';simp[bs]
theorem uY(l:List UInt8): (bs l).size=l.length:=by show l.toArray.size= _;simp
theorem AL{a b:BA}{x y z:List UInt8}(ha:a=bs x)(hb:b=bs y)(hz:x++y=z)(hs:z.length<=1000000000):∀w:World,(Op.stringOp .add a b).run prog w=.ok (.string (bs z)) w:=λw=>by
 have h1:a.size+b.size=z.length:=by rw[ha,hb,uY,uY,<-hz,List.length_append]
 rw[run_string_add_sum w a b (by omega),ha,hb,Us,hz]
theorem qA(sep:List UInt8):∀l:List (List UInt8),Lib.join l sep=cr sep l
 |[]=>rfl
 |[x]=>by rw[Lib.join_one];rfl
 |x::y::l=>by
  rw[Lib.join_cons];have h:=qA sep (y::l);rw[Lib.join_cons]at h
  rw[cr,<-h];simp[Lib.joinTail]
def r9(v:Value)(w:World)(n:Nat)(r:List UInt8):Prop:=∀w1,Below w.heap.size w w1->∀R:EW,(∀w2,Below w1.heap.size w1 w2->R (.returned (.string (bs r))) w2)->Calls prog 64 #[v,.int .i64 (n:Nat)] w1 R
def tN(un:Bool)(n:Nat)(kd:Nat->Nat)(tx:Nat->List UInt8)(i:Nat):List UInt8:=if un then Ty.brk n i (kd i) (tx i)else tx i
theorem lE{v:Value}{k:Nat}{F:Nat->List UInt8}{x:List UInt8}{a:Prt.Hp}(hx:x=F k)(h:Prt.row 9 1 v (k+1) ((List.range k).map (λi=>Value.string (bs (F i)))++[.string (bs x)]) a):Prt.row 9 1 v (k+1) ((List.range (k+1)).map (λi=>Value.string (bs (F i)))) a:=by
 subst hx;rw[List.range_succ,List.map_append];exact h
theorem I8(w:World)(g cap L:Nat)(hg:g<w.heap.size)(_:L<=cap)(_:L<=1000000)(bS:List Nat)(lv:Value)(M1:w.ownsRow 0 3 1 lv bS.length (bS.map aQ))(SL:bS.length<=1000000)(kd:Nat->Nat)(tx:Nat->List UInt8)(un:Bool)(sep:BA)
  (hk:∀j(hj:j<bS.length),bS[j]<L/\w.cell? ⟨g,bS[j]*4,none⟩=some (.int .i64 (kd j:Nat)))
  (ht:∀j(hj:j<bS.length),r9 (.slice (some ⟨g,0,none⟩) L cap) w bS[j] (tx j)) (hb:∀j,j<bS.length->(tx j).length<=900000000)
  (hs: (cr sep.data.toList ((List.range bS.length).map (tN un bS.length kd tx))).length<=1000000000) {R:EW}
  (hR:∀w',Below w.heap.size w w'->R (.returned (.string (bs (cr sep.data.toList ((List.range bS.length).map (tN un bS.length kd tx)))))) w'):
  Calls prog 118 #[.slice (some ⟨g,0,none⟩) L cap,lv,.string sep,.bool un] w R:=by
 have HR:=qh hR;have HK:=qh hk;have HT:=qh ht;have Qf:=qh hb;have Cs:=qh hs;have ik:=qh M1;obtain⟨la,lc,rfl⟩:=ag M1;obtain⟨j0,tj,uA,uI,uy⟩:=info_parts uW;have h1:=(Sat.iN w).nil 9 1;have H1:=qh h1;clear hR hk ht hb hs M1 h1;go_in;go_wp2_with fail;go_loopw [9,15] (λv i wr=>∃(k:Nat),i=.int .i64 k/\k<=bS.length/\Hq (Sat w wr [bY w,Prt.row 9 1 v k ((List.range k).map λi=>Value.string (bs (tN un bS.length kd tx i)))])) (λ_ i _=>bS.length-(intOf i).toNat)
 case atStart=>exact⟨0,rfl,by omega,H1.o⟩
 case round=>
  obtain⟨k,rfl,hk,hS⟩:=hrel;obtain⟨oa,oc,rfl⟩:=ag (hS.out.row 1);by_cases bz:k<bS.length
  ·obtain⟨gl,nK,e,rE,d0⟩:=ints_at (ay ik.o hS.out.aS) k bz;cases e;obtain⟨ahl,Kj⟩:=HK.o k bz;have HI:=qh (HT.o k bz wr hS.out.aS);have yg:=Qf.o k bz;generalize bS[k]=ix at*
   have ael:=qh Kj;clear Kj;have hF:tN un bS.length kd tx k=if un=true/\(kd k=10\/kd k=9/\k+1<bS.length)then 40:: (tx k++[41])else tx k:=by
    unfold tN Ty.brk;cases un<;>simp
   have HF:=qh hF;have c1:=AL (a:=⟨#[40]⟩) (b:=bs (tx k)) (x:=[40]) (y:=tx k) (z:=40::tx k) rfl rfl rfl (by simp;omega);have c2:=AL (a:=bs (40::tx k)) (b:=⟨#[41]⟩) (x:=40::tx k) (y:=[41]) (z:=40:: (tx k++[41])) rfl rfl (by simp) (by simp;omega);obtain⟨fk,T4⟩:∃fk,tN un bS.length kd tx k=fk:=⟨_,rfl⟩
   rw[T4]at HF
   have L3:=qh T4;clear hF T4;have zk: (un=false/\fk=tx k)\/(un=true/\((kd k:Int)==10)=true/\fk=40:: (tx k++[41]))\/(un=true/\((kd k:Int)==10)=false/\((kd k:Int)==9)=false/\fk=tx k)\/(un=true/\((kd k:Int)==10)=false/\((kd k:Int)==9)=true/\k+1<bS.length/\fk=40:: (tx k++[41]))\/(un=true/\((kd k:Int)==10)=false/\((kd k:Int)==9)=true/\¬k+1<bS.length/\fk=tx k):=by
    have hf:=HF.o;cases un
    ·left;exact⟨rfl,by rw[hf];simp⟩
    ·right;by_cases wk:kd k=10
     ·left;exact⟨rfl,by simp[wk],by rw[hf,if_pos ⟨rfl,.inl wk⟩]⟩
     ·right;by_cases e9:kd k=9
      ·right;by_cases e1:k+1<bS.length
       ·left;exact⟨rfl,by simp[e9],by simp[e9],e1,by rw[hf,if_pos ⟨rfl,.inr ⟨e9,e1⟩⟩]⟩
       ·right;exact⟨rfl,by simp[e9],by simp[e9],e1,by rw[hf,if_neg (by omega)]⟩
      ·left;exact⟨rfl,by simp;omega,by simp;omega,by rw[hf,if_neg (by omega)]⟩
   have V5:=qh zk;clear zk;go_wp2_with fail;refine HI.o _ (λw2 aW=>?_);have h2:=hS.out.below aW;have H2:=qh h2;have q0:=av h2.aS ael.o;clear aW h2 d0;rcases V5.o with⟨rfl,Ec⟩|⟨rfl,k1,Ec⟩|⟨rfl,k1,k2,Ec⟩|⟨rfl,k1,k2,k3,Ec⟩|⟨rfl,k1,k2,k3,Ec⟩
   ·have QH:=qh Ec.symm;clear Ec;go_wp2_with(at_builtin;go_loud(refine wpList_append_lies _ rfl (.tmp 50) (.tmp 52) 161 rfl 0 9 j0 _ 1 16 underlying161 tj uA uI uy rfl (by decide) (.slice oa k oc) k _ (by rfl) ((H2.o.row 1).alloc _) ⟨w2.heap.size,0,none⟩ 1 1 [.string (bs (tx k))] (by rfl) (by rfl) (World.news_of_block (cs:=#[.string (bs (tx k))]) (t:=9) (fr:=(0,0)) (aC _ _ _ (by simp))) (by simp[Value.oneCell']) (by omega) (by unfold maxLen;omega) (by omega) (by simp) (w2.heap.size+1) (by simp) ?_));intro g4 fH w4 cy bD gV o_;have h8:=Sat.grow (m:=k+1) (H2.o.aU _) 1 rfl bD cy (by simpa using gV);have h9:=h8.cQ (i:=1) rfl (Q:=Prt.row 9 1 (.slice (some ⟨g4,0,none⟩) (k+1) fH) (k+1) ((List.range (k+1)).map λi=>Value.string (bs (tN false bS.length kd tx i)))) (λ_ h=>lE (F:=tN false bS.length kd tx) (QH.o.trans L3.o.symm) h);have H9:=qh h9;clear h8 h9 cy bD;go_wp2_with fail;go_roundw
    case rel=>exact⟨k+1,by go_num,by omega,H9.o⟩
    case measure=>simp[intOf];omega
   ·have QH:=qh Ec.symm;clear Ec;go_wp2_with(at_builtin;go_loud(refine wpList_append_lies _ rfl (.tmp 50) (.tmp 52) 161 rfl 0 9 j0 _ 1 16 underlying161 tj uA uI uy rfl (by decide) (.slice oa k oc) k _ (by rfl) ((H2.o.row 1).alloc _) ⟨w2.heap.size,0,none⟩ 1 1 [.string (bs (40:: (tx k++[41])))] (by rfl) (by rfl) (World.news_of_block (cs:=#[.string (bs (40:: (tx k++[41])))]) (t:=9) (fr:=(0,0)) (aC _ _ _ (by simp))) (by simp[Value.oneCell']) (by omega) (by unfold maxLen;omega) (by omega) (by simp) (w2.heap.size+1) (by simp) ?_));intro g4 fH w4 cy bD gV o_;have h8:=Sat.grow (m:=k+1) (H2.o.aU _) 1 rfl bD cy (by simpa using gV);have h9:=h8.cQ (i:=1) rfl (Q:=Prt.row 9 1 (.slice (some ⟨g4,0,none⟩) (k+1) fH) (k+1) ((List.range (k+1)).map λi=>Value.string (bs (tN true bS.length kd tx i)))) (λ_ h=>lE (F:=tN true bS.length kd tx) (QH.o.trans L3.o.symm) h);have H9:=qh h9;clear h8 h9 cy bD;go_wp2_with fail;go_roundw
    case rel=>exact⟨k+1,by go_num,by omega,H9.o⟩
    case measure=>simp[intOf];omega
   ·have QH:=qh Ec.symm;clear Ec;go_wp2_with(at_builtin;go_loud(refine wpList_append_lies _ rfl (.tmp 50) (.tmp 52) 161 rfl 0 9 j0 _ 1 16 underlying161 tj uA uI uy rfl (by decide) (.slice oa k oc) k _ (by rfl) ((H2.o.row 1).alloc _) ⟨w2.heap.size,0,none⟩ 1 1 [.string (bs (tx k))] (by rfl) (by rfl) (World.news_of_block (cs:=#[.string (bs (tx k))]) (t:=9) (fr:=(0,0)) (aC _ _ _ (by simp))) (by simp[Value.oneCell']) (by omega) (by unfold maxLen;omega) (by omega) (by simp) (w2.heap.size+1) (by simp) ?_));intro g4 fH w4 cy bD gV o_;have h8:=Sat.grow (m:=k+1) (H2.o.aU _) 1 rfl bD cy (by simpa using gV);have h9:=h8.cQ (i:=1) rfl (Q:=Prt.row 9 1 (.slice (some ⟨g4,0,none⟩) (k+1) fH) (k+1) ((List.range (k+1)).map λi=>Value.string (bs (tN true bS.length kd tx i)))) (λ_ h=>lE (F:=tN true bS.length kd tx) (QH.o.trans L3.o.symm) h);have H9:=qh h9;clear h8 h9 cy bD;go_wp2_with fail;go_roundw
    case rel=>exact⟨k+1,by go_num,by omega,H9.o⟩
    case measure=>simp[intOf];omega
   ·have QH:=qh Ec.symm;clear Ec;go_wp2_with(at_builtin;go_loud(refine wpList_append_lies _ rfl (.tmp 50) (.tmp 52) 161 rfl 0 9 j0 _ 1 16 underlying161 tj uA uI uy rfl (by decide) (.slice oa k oc) k _ (by rfl) ((H2.o.row 1).alloc _) ⟨w2.heap.size,0,none⟩ 1 1 [.string (bs (40:: (tx k++[41])))] (by rfl) (by rfl) (World.news_of_block (cs:=#[.string (bs (40:: (tx k++[41])))]) (t:=9) (fr:=(0,0)) (aC _ _ _ (by simp))) (by simp[Value.oneCell']) (by omega) (by unfold maxLen;omega) (by omega) (by simp) (w2.heap.size+1) (by simp) ?_));intro g4 fH w4 cy bD gV o_;have h8:=Sat.grow (m:=k+1) (H2.o.aU _) 1 rfl bD cy (by simpa using gV);have h9:=h8.cQ (i:=1) rfl (Q:=Prt.row 9 1 (.slice (some ⟨g4,0,none⟩) (k+1) fH) (k+1) ((List.range (k+1)).map λi=>Value.string (bs (tN true bS.length kd tx i)))) (λ_ h=>lE (F:=tN true bS.length kd tx) (QH.o.trans L3.o.symm) h);have H9:=qh h9;clear h8 h9 cy bD;go_wp2_with fail;go_roundw
    case rel=>exact⟨k+1,by go_num,by omega,H9.o⟩
    case measure=>simp[intOf];omega
   ·have QH:=qh Ec.symm;clear Ec;go_wp2_with(at_builtin;go_loud(refine wpList_append_lies _ rfl (.tmp 50) (.tmp 52) 161 rfl 0 9 j0 _ 1 16 underlying161 tj uA uI uy rfl (by decide) (.slice oa k oc) k _ (by rfl) ((H2.o.row 1).alloc _) ⟨w2.heap.size,0,none⟩ 1 1 [.string (bs (tx k))] (by rfl) (by rfl) (World.news_of_block (cs:=#[.string (bs (tx k))]) (t:=9) (fr:=(0,0)) (aC _ _ _ (by simp))) (by simp[Value.oneCell']) (by omega) (by unfold maxLen;omega) (by omega) (by simp) (w2.heap.size+1) (by simp) ?_));intro g4 fH w4 cy bD gV o_;have h8:=Sat.grow (m:=k+1) (H2.o.aU _) 1 rfl bD cy (by simpa using gV);have h9:=h8.cQ (i:=1) rfl (Q:=Prt.row 9 1 (.slice (some ⟨g4,0,none⟩) (k+1) fH) (k+1) ((List.range (k+1)).map λi=>Value.string (bs (tN true bS.length kd tx i)))) (λ_ h=>lE (F:=tN true bS.length kd tx) (QH.o.trans L3.o.symm) h);have H9:=qh h9;clear h8 h9 cy bD;go_wp2_with fail;go_roundw
    case rel=>exact⟨k+1,by go_num,by omega,H9.o⟩
    case measure=>simp[intOf];omega
  ·have pw:k=bS.length:=by omega
   subst pw;have HJ:Hq (∀R:EW,(∀w',Below wr.heap.size wr w'->R (.returned (.string (bs (cr sep.data.toList ((List.range bS.length).map (tN un bS.length kd tx)))))) w')->Calls prog 183 #[.slice oa bS.length oc,.string sep] wr R):=by
    intro R2 An;by_cases h0:bS.length=0
    ·rw[h0];refine(Tryz.strings_Join_none oa oc sep wr).mono ?_
     rintro e w' ⟨rfl,rfl⟩
     have:=An w' (bR _ _);rw[h0]at this
     exact this
    ·have cg:=hS.out.row 1;obtain⟨g3,c3,e3,agZ,afv⟩:=cg.form (by omega);have Pr:=World.ownsRow.cells (g:=g3) cg (by rw[e3];rfl);have hcap:bS.length<=c3:=by
      rcases cg.2 with⟨_,h⟩|⟨g',x9,cur,e4,_,_,h,_⟩
      ·omega
      ·rw[e3]at e4;cases e4;exact h
     cases e3;have hx:=Tryz.strings_Join g3 0 oc ((List.range bS.length).map λi=>bs (tN un bS.length kd tx i)) sep wr (λj x hj=>?_) afv (by simp;omega) (by simpa using hcap) ?_
     ·rw[List.length_map,List.length_range]at hx
      refine hx.mono ?_
      rintro e w' ⟨rfl,hb⟩
      have:=An w' hb;rw[qA,List.map_map];have e5: ((λx:BA=>x.data.toList)∘λi=>bs (tN un bS.length kd tx i))=tN un bS.length kd tx:=by
       funext i;exact Hb _
      rw[e5];exact this
     ·have:=Pr j (.string x) (by rw[List.getElem?_map]at hj⊢;cases h: (List.range bS.length)[j]? with
       |none=>rw[h]at hj;cases hj
       |some a=>rw[h]at hj;cases hj;rfl)
      rwa [Addr.add_lit]at this
     ·rw[qA,List.map_map];have e5: ((λx:BA=>x.data.toList)∘λi=>bs (tN un bS.length kd tx i))=tN un bS.length kd tx:=by
       funext i;exact Hb _
      rw[e5];have:=Cs.o;omega
   go_wp2_with fail;refine HJ.o _ (λw2 aW=>?_);have fG:=qh (hS.out.aS.trans (aW.mono hS.out.aS.size));clear aW;go_wp2_with fail;exact HR.o _ fG.o
end
theorem infoByte: (prog.info? 5).map (λi=>(i.zero,i.size,i.bytes))=some (some (.int .u8 0),1,1):=by kernel_rfl
theorem Ch: (prog.info? 74).map (·.size)=some 2:=by kernel_rfl
theorem FZ:liesAt prog prog.depth 76 (6/prog.cellsOf 76) 0 74 1=true:=by kernel_rfl
theorem cellsByte:prog.cellsOf 5=1:=by kernel_rfl
def Nv(wb:Nat)(nv tv:Value)(main:Int)(ind:Nat)(out:List UInt8)(q:Value×Value):List As:=
 [bU (q.1=.pointer none\/q.1=.pointer (some ⟨wb,0,none⟩)),ax wb (.cells #[q.1,q.2,nv,tv,.int .i64 main,.int .i64 ind] 76 (0,0)),Prt.row 5 1 q.2 out.length (Lib.byteCells out)]
def gu(wb:Nat)(nv tv:Value)(main:Int)(ind:Nat)(out:List UInt8):As:=cn λq:Value×Value=>aq (Nv wb nv tv main ind out q)
section
variable {w0 w:World} {Fr:As} {wb:Nat} {nv tv:Value} {main:Int} {ind:Nat} {out:List UInt8}
theorem Prt.Sat.oP(h:Sat w0 w [Fr,gu wb nv tv main ind out]):∃p v,Sat w0 w (Fr::Nv wb nv tv main ind out (p,v)):=by
 obtain⟨⟨p,v⟩,h⟩:=h.ex (i:=1) rfl;exact⟨p,v,h.unpack 1 rfl⟩
theorem Prt.Sat.Fs{q:Value×Value}(h:Sat w0 w (Fr::Nv wb nv tv main ind out q)):Sat w0 w [Fr,gu wb nv tv main ind out]:=
 (Sat.pack (L:=[Fr]) h).cQ (i:=1) rfl λ_ h=>⟨q,h⟩
theorem ye(H:Sat w0 w [Fr,gu wb nv tv main ind out]){R:EW}
  (hR:∀w' v,Sat w0 w' (Fr::Nv wb nv tv main ind out (.pointer (some ⟨wb,0,none⟩),v))->R (.returned (.tuple #[])) w'):
  Calls prog 188 #[.pointer (some ⟨wb,0,none⟩)] w R:=by
 obtain⟨j,hj,afP⟩:=Option.map_eq_some_iff.1 Ch;obtain⟨p,v,h⟩:=H.oP;have hp:=h.pure 1 rfl;have c0:=h.cell 2 0;have f0:=h.free 2 rfl 0;have GI:w.shape? wb=some (76,6):=by
  have:=h.heap 2 rfl;simp[World.shape?,this]
 dsimp only at hp c0;rcases hp with rfl|rfl
 ·have h1:=h.store 2 rfl 0 (.pointer (some ⟨wb,0,none⟩));go_in;go_wp2;rw[Lib.run_to_unsafe w ⟨wb,0,none⟩ underlying71 underlying268 hj (by rw[afP];decide) GI (by show 0<6;omega)];simp only[Result.andThen];rw[Oper.upon_value];go_wp2;rw[run_callFunc_extern func268 (by kernel_rfl) (by kernel_rfl) (by kernel_rfl) (e:=Extern.AbiNoEscape.same) (by kernel_rfl)];rw[Lib.run_noEscape];simp only[Result.andThen];rw[Oper.upon_value];go_wp2;rw[Lib.run_from_unsafe w ⟨wb,0,none⟩ underlying268 underlying71 hj GI FZ];simp only[Result.andThen];rw[Oper.upon_value];go_wp2;go_end0;exact hR _ v (h1.cQ (i:=1) rfl (Q:=bU _) λ_ _=>.inr rfl)
 ·go_enter func188,ntmps188;go_wp2;rw[Lib.run_neq_ptr_same w _ underlying71 hj];go_wp2;go_end0;exact hR _ v h
theorem xZ(a b:List UInt8):Lib.byteCells (a++b)=Lib.byteCells a++Lib.byteCells b:=by simp[Lib.byteCells]
theorem Dk(x:List UInt8):Lib.strCells (bs x)=Lib.byteCells x:=by simp[Lib.strCells,Lib.byteCells,bs]
theorem uC(H:Sat w0 w [Fr,gu wb nv tv main ind out])(s:BA)(x:List UInt8)(hs:s=bs x)(hlen:out.length+x.length<=1000000000){R:EW}
  (hR:∀w',Sat w0 w' [Fr,gu wb nv tv main ind (out++x)]->R (.returned (.tuple #[.int .i64 s.size,.nilIface])) w'):
  Calls prog 122 #[.pointer (some ⟨wb,0,none⟩),.string s] w R:=by
 have HR:=qh hR;have dU:s.size=x.length:=by rw[hs,uY]
 have hx:Lib.byteCells out++Lib.strCells s=Lib.byteCells (out++x):=by rw[xZ,hs,Dk]
 have HX:=qh hx;have HS:=qh H;have Bl:=qh hlen;have Cs:=qh dU;obtain⟨i0,hi,afS,P3,Lb⟩:=info_parts infoByte;clear hR H hs hlen dU hx;go_in;go_wp2_with fail;refine ye HS.o (λw1 v h1=>?_);have c1:=h1.cell 2 1;have ik:=qh (h1.row 3);have H1:=qh h1;clear h1;dsimp only at c1 ik;go_wp2_with(at_builtin;refine rZ rfl _ _ 72 9 rfl 5 i0 underlying72 underlying9 hi afS P3 Lb v out.length (Lib.byteCells out) rfl ik.o s rfl (by have:=Bl.o;have:=Cs.o;unfold maxLen;omega) (by have:=Bl.o;have:=Cs.o;omega) ?_);intro v' w2 jV jZ sX;rw[HX.o]at jV
 obtain⟨va,vc,rfl⟩:=ag jV;have h2:=H1.o.Wx 3 rfl jZ jV sX;have d1:=h2.cell 2 1;have g1:=h2.free 2 rfl 1;have H2:=qh h2;clear h2 jV jZ sX;dsimp only at d1;go_wp2_with fail;have h3:=(H2.o.store 2 rfl 1 (.slice va (out.length+s.size) vc))
 refine HR.o _ (Sat.Fs (q:=(.pointer (some ⟨wb,0,none⟩),.slice va (out.length+s.size) vc)) ?_);have e: (out++x).length=out.length+s.size:=by rw[List.length_append,Cs.o]
 unfold Nv;rw[e];exact h3
end
end Go.Proofs.YtdlbhiaceheffabGreatDoor
