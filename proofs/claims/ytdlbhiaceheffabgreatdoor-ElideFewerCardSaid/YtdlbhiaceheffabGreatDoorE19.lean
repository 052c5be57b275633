/- Walk of types.Join. -/
import Derived.Laws.Concat
import Derived.Deep.DeepCutAuto
import Derived.Deep.CutBlock
import Derived.Lib.AppendStr
import Derived.Lib.Builder
import Derived.Deep.RegionLaw
import Derived.Test.YtdlbhiaceheffabGreatDoorE18
import Derived.Test.YtdlbhiaceheffabGreatDoorE05
import Derived.Test.YtdlbhiaceheffabGreatDoorE16
set_option linter.all false
set_option maxRecDepth 100000
set_option maxHeartbeats 4000000
namespace Go.Proofs.YtdlbhiaceheffabGreatDoor
open Go Go.RowKit Ty Tok Prt Tryz Proofs.Tryz
section
open Ty (Tr br bI bg)
theorem Gi(w:World)(v:Value)(ls:List Value)(bm:w.ownsRow 0 107 1 v ls.length ls)(hl:ls.length<=1000000)(F:FuncId)(hc:∀(args:Array Value)(w:World),(callFunc F args).run prog w=.ok (.enter F args) w)
  (f:Nat->Bool) (hU:∀j(hj:j<ls.length) w1,Below w.heap.size w w1->∀R:EW,(∀w2,Below w1.heap.size w1 w2->R (.returned (.bool (f j))) w2)->Calls prog F #[ls[j]] w1 R) {R:EW}
  (lZ:∀(r:Nat) w',Below w.heap.size w w'->br f ls.length=true->r<=1000000->R (.returned (.int .i64 r)) w') (e_:∀w',Below w.heap.size w w'->br f ls.length=false->R (.returned (.int .i64 (-1))) w'):
  Calls prog 326 #[v,.func (.func F) #[] #[]] w R:=by
 have HY:=qh lZ;have wA:=qh e_;have HC:=qh hU;have du:=qh bm;obtain⟨la,lc,rfl⟩:=ag bm;clear lZ e_ hU bm;go_in;go_wp2_with fail;go_loopw [8] (λi wr=>∃k:Nat,k<=ls.length/\i=.int .i64 k/\Hq (Below w.heap.size w wr)/\Hq (∀j,j<k->f j=false)) (λi _=>ls.length-(intOf i).toNat)
 case atStart=>exact⟨0,by omega,rfl,bR _ _,λj hj=>by omega⟩
 case round=>
  obtain⟨k,hk,rfl,hb,hf⟩:=hrel;by_cases a_:k<ls.length
  ·obtain⟨gl,jB,e,ku,d0⟩:=fF (ay du.o hb.out) k a_;cases e;have HI:=qh (HC.o k a_ wr hb.out);have HT:=qh (λh:f k=true=>(bI (f:=f)).2 ⟨k,a_,h⟩);have HN:Hq (f k=false->∀j,j<k+1->f j=false):=λh j hj=>by
    by_cases Ih:j=k
    ·subst Ih;exact h
    ·exact hf.out j (by omega)
   generalize f k=fk at*
   generalize ls[k]=p at*
   go_wp2_with fail;refine HI.o _ (λw2 aD=>?_);have c9:=qh (hb.out.trans (aD.mono hb.out.size));clear aD;cases fk
   ·have IH:=qh (HN.o rfl);go_wp2_with fail;go_roundw
    case rel=>exact⟨k+1,by omega,by go_num,c9,IH⟩
    case measure=>simp[intOf];omega
   ·have Gl:=qh (HT.o rfl);go_wp2_with fail;exact HY.o k _ c9.o Gl.o (by omega)
  ·have qI:k=ls.length:=by omega
   have HN:Hq (br f ls.length=false):=bg.2 (by rw[<-qI];exact hf.out);clear qI;go_wp2_with fail;exact wA.o _ hb.out HN.o
theorem F1(w:World)(v:Value)(ls:List Value)(bm:w.ownsRow 0 107 1 v ls.length ls)(hl:ls.length<=1000000)(F:FuncId)(hc:∀(args:Array Value)(w:World),(callFunc F args).run prog w=.ok (.enter F args) w)
  (f:Nat->Bool) (hU:∀j(hj:j<ls.length) w1,Below w.heap.size w w1->∀R:EW,(∀w2,Below w1.heap.size w1 w2->R (.returned (.bool (f j))) w2)->Calls prog F #[ls[j]] w1 R) {R:EW}
  (hR:∀w',Below w.heap.size w w'->R (.returned (.bool (br f ls.length))) w'):
  Calls prog 299 #[v,.func (.func F) #[] #[]] w R:=by
 have HR:=qh hR;clear hR;have HX:=qh (λR h1 h2=>@Gi w v ls bm hl F hc f hU R h1 h2);clear hU bm;go_in;go_wp2_with fail;refine HX.o _ (λr w1 hb ha hr=>?_) (λw1 hb ha=>?_)
 ·rw[ha]at HR
  have HB:=qh hb;clear ha hb;go_wp2_with fail;exact HR.o _ HB.o
 ·rw[ha]at HR
  have HB:=qh hb;clear ha hb;go_wp2_with fail;exact HR.o _ HB.o
theorem Gp(w0 w1:World)(bb:Nat)(p q:Value)(r:Bool)(hp:w1.cell? ⟨bb,0,none⟩=some p)(Iu:kE p q w0 r)(hb:Below w0.heap.size w0 w1){R:EW}(hR:∀w2,Below w1.heap.size w1 w2->R (.returned (.bool r)) w2):
  Calls prog 300 #[q,.pointer (some ⟨bb,0,none⟩)] w1 R:=by
 have HR:=qh hR;have HF:=qh (Iu w1 hb);clear hR Iu hb;go_in;go_wp2_with fail;refine HF.o _ (λw2 aD=>?_);have HB:=qh aD;clear aD;go_wp2_with fail;exact HR.o _ HB.o
theorem Gc(w:World)(b k:Nat)(hk:cY w b k){R:EW}(hR:R (.returned (.bool (decide (k=5)))) w):
  Calls prog 302 #[.pointer (some ⟨b,0,none⟩)] w R:=by
 have HR:=qh hR;obtain⟨hb,c0⟩:=hk;clear hR;by_cases h5:k=5
 ·subst h5;go_in;go_wp2_with fail;exact HR.o
 ·have k1: ((k:Int)==5)=false:=int_ne h5;have k2:Hq (decide (k=5)=false):=decide_eq_false h5;rw[k2.out]at HR
  clear h5;go_in;go_wp2_with fail;exact HR.o
theorem qG{w:World}{t:Tr}{p:Value}(h:rep (Prt.hp w) t p):∃b,p=.pointer (some ⟨b,0,none⟩)/\cY w b (Ty.kindOf t):=by
 obtain⟨k,names,parts,list,of⟩:=t;obtain⟨b,pv,lv,ov,ps,ls,os,rfl,hb,c0,_⟩:=i' h;exact⟨b,rfl,hb,c0⟩
theorem qW{h:Prt.Hp}{b k:Nat}{lv:Value}{qs:List Value}{G:List Tr}(hb:h b=some (.cells #[.int .i64 (k:Nat),.slice none 0 0,lv,.pointer none] 219 (0,0)))(hl:Prt.row 107 1 lv qs.length qs h)(hr:bz h G qs):rep h (.mk k [] [] G []) (.pointer (some ⟨b,0,none⟩)):=by
 rw[rep];exact⟨b,_,lv,_,[],qs,[],rfl,hb,⟨by simp[cJ],.inl ⟨rfl,rfl⟩⟩,rfl,by rw[bz],hl,hr,by rw[bz],.inl ⟨rfl,rfl⟩⟩
theorem zU(l m:List Tr)(k:Nat)(hk:k<m.length):dt (l++m.take (k+1))=oK (dt (l++m.take k)) m[k]:=by
 rw[List.take_succ_eq_append_getElem hk,<-List.append_assoc,BI]
theorem zN:∀l:List Tr,l.length<=bJ l
 |[]=>by simp
 |t::l=>by have:=Ee t;have:=zN l;rw[bJ];simp;omega
def db(h0:Prt.Hp)(t:Tr)(p:Value):As:=λa=>∀h,Prt.le h0 h->Prt.le a h->rep h t p
theorem AI{h0:Prt.Hp}{w w1:World}(h:Sat w w1 [bG w]):Sat w (w1.alloc (.cells #[.int .i64 (5:Nat),.slice none 0 0,.slice none 0 0,.pointer none] 219)) [bG w,db h0 C8 (.pointer (some ⟨w1.heap.size,0,none⟩))]:=
 (h.aj (.cells #[.int .i64 (5:Nat),.slice none 0 0,.slice none 0 0,.pointer none] 219) w1.heap.size).cL (i:=1) rfl λ_ ha _ _ mI=>qW (k:=5) (qs:=[]) (mI _ _ ha) ⟨rfl,.inl ⟨rfl,rfl⟩⟩ (by rw[bz])
theorem G6(w0 w:World){h0:Prt.Hp}(vY:Prt.le h0 (Prt.hp w0))(hw:Below w0.heap.size w0 w)(mT:List Tr)(ps:List Value)(aH:pr mT)(Ig:ie mT)(xP:bJ mT<=1000000)(hr:bz h0 mT ps)(v:Value)(bm:w.ownsRow 0 107 1 v ps.length ps){R:EW}
  (hR:∀p w',Sat w w' [bG w,db h0 (oU mT) p]->R (.returned p) w'):
  Calls prog 245 #[v] w R:=by
 have HR:=qh hR;have du:=qh bm;have hle:=cd hr;have XE:=zN mT;obtain⟨va,vc,rfl⟩:=ag bm;have abk:Hq (∀j(hj:j<mT.length)(eF:j<ps.length),uQ w0 h0 mT[j] ps[j]):=λj hj eF=>
  p3 w0 vY _ _ (Nat.lt_succ_self _) (fJ aH _ (gM hj)) (nS Ig _ (gM hj)) (by have:=oh mT j hj;omega) _ (dh hr j hj eF)
 have aX:=qh (qE mT aH);have Xe:Hq (∀j(hj:j<mT.length),∀x∈ey mT[j],dX x):=λj hj x hx=>(Ac _ (fJ aH _ (gM hj)) x hx).1
 have Rp:=qh xP;have HW:=qh hw;have zl:=qh hle;have wg:ps.length<=1000000:=by omega
 obtain⟨j0,tj,vI,vJ,vH⟩:=info_parts pn;have h1:=(Sat.fO w).nil 107 1;have H1:=qh h1;have O7:=qh vY;clear vY hR bm hr hle XE aH Ig xP hw h1;go_in;go_wp2_with fail;go_loopw [3,10] (λv i wr=>∃(j:Nat)(qs:List Value),i=.int .i64 j/\j<=ps.length/\Hq (Sat w wr [bG w,Prt.row 107 1 v qs.length qs])/\Hq (bz h0 (dt (bQ (mT.take j))) qs)) (λ_ i _=>ps.length-(intOf i).toNat)
 case atStart=>exact⟨0,[],rfl,by omega,H1.o,by show bz _ (dt (bQ [])) [];rw[bQ];show bz _ [] [];rw[bz]⟩
 case round=>
  obtain⟨j,qs,rfl,hj,hS,hQ⟩:=hrel;obtain⟨qa,qc,rfl⟩:=ag (hS.out.row 1 rfl);by_cases a_:j<ps.length
  ·obtain⟨gl,jB,e,ku,d0⟩:=fF (ay du.o hS.out.bD) j a_;cases e;have eF:j<mT.length:=by have:=zl.o;omega
   have HI:=qh (abk.o j eF a_ wr (HW.o.trans (hS.out.bD.mono HW.o.size)));have HT:=qh (List.take_succ_eq_append_getElem eF);have RJ:=Xe.o j eF;have gh: (bQ (mT.take j)).length+(ey mT[j]).length<=1000000:=by
    have h2:=jU (mT.take j);have h3:=ri mT[j];have h4:=oh mT j eF;have:=Rp.o;omega
   have GF:∀x∈bQ (mT.take j),dX x:=λx hx=>(aX.o x (by
    have:bQ mT=bQ (mT.take j)++bQ (mT.drop j):=by rw[<-mr,List.take_append_drop]
    rw[this,List.mem_append];exact .inl hx)).1
   generalize ps[j]=pj at*
   generalize mT[j]=Hx at*
   have vO:=qh gh;have V7:=qh GF;have RU:=qh RJ;clear eF RJ gh GF;go_wp2_with fail;refine HI.o _ (λv2 vL w2 h2 zq=>?_);have cu:=cd zq;have wR:vL.length<=1000000:=by have:=vO.o;omega
   obtain⟨a2,M4,rfl⟩:=ag (h2.row 1 rfl);have h3:=hS.out.join h2;have Q5:=qh zq;have H3:=qh h3;have iL:=qh cu;have aa8:Hq (bz h0 (dt (bQ (mT.take j)++(ey Hx).take 0)) qs):=by show bz _ _ _;rw[List.take_zero,List.append_nil];exact hQ.out
   clear h2 h3 zq cu;go_wp2_with fail;obtain⟨wo,abU⟩:∃wo:World,wo=wr:=⟨_,rfl⟩
   clear abU wo;go_loopw [3,17] (λv i wx=>∃(k:Nat)(qs:List Value),i=.int .i64 k/\k<=vL.length/\Hq (Sat w wx [bG w,Prt.row 107 1 v qs.length qs,Prt.row 107 1 (.slice a2 vL.length M4) vL.length vL])/\Hq (bz h0 (dt (bQ (mT.take j)++(ey Hx).take k)) qs)) (λ_ i _=>vL.length-(intOf i).toNat)
   case atStart=>exact⟨0,qs,rfl,by omega,H3.o,aa8.o⟩
   case round=>
    obtain⟨k,qs,rfl,hk,sB,RY⟩:=hrel;obtain⟨adM,qc2,rfl⟩:=ag (sB.out.row 1 rfl);by_cases kP:k<vL.length
    ·obtain⟨g5,L6,e,aaG,d5⟩:=fF (sB.out.row 2 rfl) k kP;cases e;have wY:k<(ey Hx).length:=by have:=iL.o;omega
     have OG:=dh Q5.o k wY kP;have TD:=RU.o _ (gM wY);obtain⟨bx,Y9,_⟩:=fI OG;have ZG:=qh (zU (bQ (mT.take j)) (ey Hx) k wY);have ku:=o9 (bQ (mT.take j)++(ey Hx).take k);have Od:=cd RY.out;have acd:qs.length+1<=1000000:=by rw[<-Od];rw[List.length_append,List.length_take]at ku;have:=vO.o;omega
     have TM:∀y∈dt (bQ (mT.take j)++(ey Hx).take k),dX y:=λy hy=>by
      have:=ua _ y hy;rw[List.mem_append]at this
      rcases this with h|h
      ·exact V7.o y h
      ·exact RU.o y (List.mem_of_mem_take h)
     generalize(ey Hx)[k]=x at*
     generalize dt (bQ (mT.take j)++(ey Hx).take k)=G at*
     rw[Y9]at OG d5
     have I0:=HW.o.trans (sB.out.bD.mono HW.o.size);have T0:Hq (∀i(hi:i<qs.length),kE (.pointer (some ⟨bx,0,none⟩)) qs[i] w0 (Ty.alike x (G.getD i bM))):=λi hi=>by
      have He:i<G.length:=by omega
      rw[getD_eq He];exact F9 w0 _ x G[i] _ _ (Nat.lt_succ_self _) TD (TM _ (gM He)) (bN O7.o _ _ OG) (bN O7.o _ _ (dh RY.out i He hi))
     have Rg:=qh Od;have XQ:=qh OG;have iH:=qh I0;have h6:=sB.out.aj (.cells #[.pointer (some ⟨bx,0,none⟩)] 107) _ rfl;have H6:=qh h6;clear wY TD Y9 ku Od TM OG I0 h6;go_wp2_with fail;refine vb _ _ qs (H6.o.row 1 rfl) (by omega) 300 _ Tryz.call300 (λi=>Ty.alike x (G.getD i bM)) (λi hi w3 dF R3 E4=>?_) (λw3 dF=>?_)
     ·exact Gp w0 w3 _ _ _ _ ((H6.o.below dF).cell 3 rfl 0 rfl) (T0.o i hi) ((iH.o.trans (((bR _ _).alloc (nR _) _).mono iH.o.size)).trans (dF.mono (by have:=iH.o.size;simp;omega))) E4
     ·have h7:=H6.o.below dF;have x0:=h7.cell 3 rfl 0 rfl;have H7:=qh h7;clear dF h7;cases sJ:br (λi=>Ty.alike x (G.getD i bM)) qs.length
      ·have RL:Hq (bz h0 (dt (bQ (mT.take j)++(ey Hx).take (k+1))) (qs++[.pointer (some ⟨bx,0,none⟩)])):=by
        show bz _ _ _;rw[ZG.o,oK,Rg.o,sJ];exact lW RY.out XQ.o
       clear sJ;go_wp2_with(at_builtin;go_loud(refine wpList_append_lies _ rfl (.tmp 25) (.tmp 27) 104 rfl 0 107 j0 _ 1 8 underlying104 tj vI vJ vH rfl (by decide) _ _ qs (by rfl) ((H7.o.row 1 rfl).alloc _) ⟨w3.heap.size,0,none⟩ 1 1 [.pointer (some ⟨bx,0,none⟩)] (by rfl) (by rfl) (World.news_of_block (cs:=#[.pointer (some ⟨bx,0,none⟩)]) (t:=107) (fr:=(0,0)) (aR _ _ _ (by simp))) (by simp[Value.oneCell']) (by omega) (by unfold maxLen;omega) (by omega) (by simp) (w3.heap.size+1) (by simp) ?_));intro g4 iq w4 dE cO jY vy;have h8:=(Sat.grow (H7.o.aW _) 1 rfl cO dE (by simpa using jY)).pick [0,1,2];have h9:=h8.cL (i:=1) rfl (Q:=Prt.row 107 1 (.slice (some ⟨g4,0,none⟩) (qs.length+1) iq) (qs++[Value.pointer (some ⟨bx,0,none⟩)]).length (qs++[Value.pointer (some ⟨bx,0,none⟩)])) (λ_ h=>ja h);have H9:=qh h9;clear h8 h9 dE cO;go_wp2_with fail;go_roundw
       case rel=>exact⟨k+1,qs++[Value.pointer (some ⟨bx,0,none⟩)],by go_num,by omega,H9.o,RL.o⟩
       case measure=>simp[intOf];omega
      ·have RL:Hq (bz h0 (dt (bQ (mT.take j)++(ey Hx).take (k+1))) qs):=by
        show bz _ _ _;rw[ZG.o,oK,Rg.o,sJ];exact RY.out
       clear sJ;go_wp2_with fail;go_roundw
       case rel=>exact⟨k+1,qs,by go_num,by omega,H7.o.pick [0,1,2],RL.o⟩
       case measure=>simp[intOf];omega
    ·have qI:k=(ey Hx).length:=by have:=iL.o;omega
     have RL:Hq (bz h0 (dt (bQ (mT.take (j+1)))) qs):=by
      have:=RY.out;rw[qI,List.take_length]at this
      show bz _ _ _;rw[HT.o,uH];exact this
     clear qI;go_wp2_with fail;go_roundw
     case rel=>exact⟨j+1,qs,by go_num,by omega,sB.out.pick [0,1],RL.o⟩
     case measure=>simp[intOf];omega
  ·have gO:j=mT.length:=by have:=zl.o;omega
   have hG:=hQ.out;rw[gO,List.take_length]at hG
   have I0:=HW.o.trans (hS.out.bD.mono HW.o.size);have iH:=qh I0;have ku:=cd hG;have Od:qs.length<=1000000:=by have:=o9 (bQ mT);have:=jU mT;have:=Rp.o;omega
   unfold oU at HR;generalize dt (bQ mT)=G at*
   rw[ku]at HR
   have HG:=qh hG;have Ud:=qh ku;clear gO I0 hG ku hQ;by_cases h0:qs.length=0
   ·rw[if_pos (.inl h0)]at HR
    have k0: ((qs.length:Int)==0)=true:=by simp[h0]
    clear h0;go_wp2_with fail;refine lY _ 5 ?_;have oM:=qh (AI (h0:=h0) (hS.out.pick [0]));go_wp2_with fail;exact HR.o _ _ oM.o
   ·have k0: ((qs.length:Int)==0)=false:=beq_eq_false_iff_ne.2 (by omega);have HK:Hq (∀i(hi:i<qs.length),∃b,qs[i]=.pointer (some ⟨b,0,none⟩)/\cY w0 b (Ty.kindOf (G.getD i bM))):=λi hi=>by
     have He:i<G.length:=by have:=Ud.o;omega
     rw[getD_eq He];exact qG (bN O7.o _ _ (dh HG.o i He hi))
    have eS:0<qs.length:=by omega
    have H0:=qh h0;clear h0;go_wp2_with fail;refine F1 wr _ qs (hS.out.row 1 rfl) (by omega) 302 Tryz.call302 (λi=>decide (Ty.kindOf (G.getD i bM)=5)) (λi hi w3 dF R3 E4=>?_) (λw3 dF=>?_)
    ·obtain⟨b,eb,hk⟩:=HK.o i hi;rw[eb];exact Gc w3 b _ (tm (iH.o.trans (dF.mono iH.o.size)) hk.1 hk.2) (E4 w3 (bR _ _))
    ·have H7:=qh (hS.out.below dF);have gg:=qh (iH.o.trans (dF.mono iH.o.size));clear dF;cases sJ:br (λi=>decide (Ty.kindOf (G.getD i bM)=5)) qs.length
     ·rw[sJ,if_neg (by simpa using H0.o)]at HR
      clear sJ;by_cases h1:qs.length=1
      ·rw[if_pos h1]at HR
       have k1: ((qs.length:Int)==1)=true:=by simp[h1]
       have He:0<G.length:=by have:=Ud.o;omega
       have OG:=dh HG.o 0 He eS;rw[getD_eq He]at HR
       obtain⟨g5,L6,e,aaG,d5⟩:=fF (H7.o.row 1 rfl) 0 eS;cases e;have XQ:=qh OG;generalize qs[0]=q0 at*
       clear h1 OG;go_wp2_with fail;exact HR.o _ _ ((H7.o.pick [0]).iA (P:=db h0 _ q0) λa h hl _=>bN hl _ _ XQ.o)
      ·rw[if_neg h1]at HR
       have k1: ((qs.length:Int)==1)=false:=by simp;omega
       clear h1;go_wp2_with fail;refine HR.o _ _ ?_;have h8:=Sat.pack (L:=[bG w]) (H7.o.aj (.cells #[.int .i64 10,.slice none 0 0,.slice qa qs.length qc,.pointer none] 219) w3.heap.size);refine h8.cL (i:=1) rfl λa ha h yP mI=>?_
       obtain⟨x,y,_,hx,hy,h1,z,u,_,hz,_,h2,_⟩:=ha;exact qW (k:=10) (mI _ _ (Prt.le_trans hz hy _ _ h2)) (iX h1 (Prt.le_trans hx mI)) (jg yP _ _ HG.o)
     ·rw[sJ,if_pos (.inr rfl)]at HR
      clear sJ;go_wp2_with fail;refine lY _ 5 ?_;have oM:=qh (AI (h0:=h0) (H7.o.pick [0]));go_wp2_with fail;exact HR.o _ _ oM.o
end
def gR(wB:World)(Fr:As):Prop:=∀(w:World)(L:List As)(i:Nat),Sat wB w L->L[i]?=some Fr->Below wB.heap.size wB w
theorem gR.fO(wB:World):gR wB (bG wB):=λw L i h hi=>by
 have h1:=h.at i hi;have h2:Sat wB w [bG wB]:=h1.pick [1];exact h2.bD
theorem gR.ah{wB:World}{Fr:As}{M:List As}(h:gR wB Fr):gR wB (ah (Fr::M)):=λw L i hs hi=>by
 have h1:=hs.unpack hi;refine h w _ (L.eraseIdx i).length h1 ?_;rw[List.getElem?_append_right (Nat.le_refl _)];simp
section
variable {w0 w:World} {Fr:As} {wb:Nat} {nv tv:Value} {main:Int} {ind:Nat} {out:List UInt8}
end
structure PB(wB:World)(nv tv:Value)(pg:Ty.Pg):Prop where
 nd:∃rows,rows.map NdRow.t=pg.ns/\NRd wB nv rows
 ty:∃rows,rows.map TyRow.t=pg.ts/\TyRd wB tv rows
 ok:PgOk pg
theorem NdAt.below{w w':World}{g n:Nat}{t:Nd}{lv:Value}(h:NdAt w g n t lv)(hb:Below w.heap.size w w'):NdAt w' g n t lv:=
 ⟨ak hb h.q0,ak hb h.q1,ak hb h.q2,ak hb h.q3,ak hb h.q4,ak hb h.q5,ak hb h.q6,ak hb h.q7,ak hb h.q8⟩
theorem PB.look{wB:World}{nv tv:Value}{pg:Ty.Pg}(h:PB wB nv tv pg){n:Nat}{nd:Nd}(hn:pg.ns[n]?=some nd):
  ∃(g cap:Nat)(lv:Value),nv=.slice (some ⟨g,0,none⟩) pg.ns.length cap/\n<pg.ns.length/\g<wB.heap.size/\pg.ns.length<=cap/\cap<=maxLen/\NdAt wB g n nd lv/\wB.ownsRow 0 3 1 lv nd.list.length (nd.list.map aO)/\NdOk nd pg.ts/\pg.ns.length<=1200:=by
 obtain⟨rows,hr,II⟩:=h.nd;have hl:n<pg.ns.length:=by
  rcases Nat.lt_or_ge n pg.ns.length with hl|hl
  ·exact hl
  ·rw[List.getElem?_eq_none hl]at hn;cases hn
 obtain⟨g,cap,lv,e,h1,h2,h3,h4,h5⟩:=II.look hr hl;rw[List.getElem?_eq_getElem hl]at hn
 cases hn;exact⟨g,cap,lv,e,hl,h1,h2,h3,h4,h5,h.ok.ns _ (gM _),h.ok.ju⟩
section
variable {wB w:World} {Fr:As} {wb:Nat} {nv tv:Value} {pg:Ty.Pg} {main:Int} {ind:Nat} {out:List UInt8}
end
end Go.Proofs.YtdlbhiaceheffabGreatDoor
