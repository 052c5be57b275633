/- Walk of types.Join. -/
import Derived.Deep.DeepCutAuto
import Derived.Deep.CutBlock
import Derived.Laws.Concat
import Derived.Lib.AppendStr
import Derived.Lib.Builder
import Derived.Test.YtdlbhiaceheffabGreatDoorP15
import Derived.Test.YtdlbhiaceheffabGreatDoorP13
import Derived.Test.YtdlbhiaceheffabGreatDoorP06
set_option linter.all false
set_option maxRecDepth 100000
set_option maxHeartbeats 4000000
namespace Go.Proofs.YtdlbhiaceheffabGreatDoor
open Go Go.RowKit Ty Tok ak Tryz Proofs.Tryz
section
open Ty (Tr br bI bh)
theorem FA(w:World)(v:Value)(ls:List Value)(bJ:w.ownsRow 0 107 1 v ls.length ls)(hl:ls.length≤1000000)(F:FuncId)(hc:∀(args:Array Value)(w:World),(callFunc F args).run prog w=.ok (.enter F args) w)
  (f:Nat→Bool) (ie:∀j(hj:j<ls.length) w1,Below w.heap.size w w1→∀R:EW,(∀w2,Below w1.heap.size w1 w2→R (.returned (.bool (f j))) w2)→Calls prog F #[ls[j]] w1 R) {R:EW}
  (oq:∀(r:Nat) w',Below w.heap.size w w'→br f ls.length=true→r≤1000000→R (.returned (.int .i64 r)) w') (fV:∀w',Below w.heap.size w w'→br f ls.length=false→R (.returned (.int .i64 (-1))) w'):
  Calls prog 326 #[v,.func (.func F) #[] #[]] w R:=by
 have HY:=qh oq;have yA:=qh fV;have HC:=qh ie;have dG:=qh bJ;obtain⟨la,lc,rfl⟩:=ag bJ;clear oq fV ie bJ;go_in;go_wp2_with fail;go_loopw [8] (λi wr=>∃k:Nat,k≤ls.length∧i=.int .i64 k∧Hq (Below w.heap.size w wr)∧Hq (∀j,j<k→f j=false)) (λi _=>ls.length-(intOf i).toNat)
 case atStart=>exact⟨0,by omega,rfl,bR _ _,λj hj=>by omega⟩
 case round=>
  obtain⟨k,hk,rfl,hb,hf⟩:=hrel;by_cases bm:k<ls.length
  ·obtain⟨gl,j9,e,mW,d0⟩:=fD (az dG.o hb.out) k bm;cases e;have HI:=qh (HC.o k bm wr hb.out);have HT:=qh (λh:f k=true=>(bI (f:=f)).2 ⟨k,bm,h⟩);have HN:Hq (f k=false→∀j,j<k+1→f j=false):=λh j hj=>by
    by_cases Hx:j=k
    ·subst Hx;exact h
    ·exact hf.out j (by omega)
   generalize f k=fk at*
   generalize ls[k]=p at*
   go_wp2_with fail;refine HI.o _ (λw2 aI=>?_);have c8:=qh (hb.out.trans (aI.mono hb.out.size));clear aI;cases fk
   ·have J6:=qh (HN.o rfl);go_wp2_with fail;go_roundw
    case rel=>exact⟨k+1,by omega,by go_num,c8,J6⟩
    case measure=>simp[intOf];omega
   ·have FJ:=qh (HT.o rfl);go_wp2_with fail;exact HY.o k _ c8.o FJ.o (by omega)
  ·have nn:k=ls.length:=by omega
   have HN:Hq (br f ls.length=false):=bh.2 (by rw[←nn];exact hf.out);clear nn;go_wp2_with fail;exact yA.o _ hb.out HN.o
theorem FX(w:World)(v:Value)(ls:List Value)(bJ:w.ownsRow 0 107 1 v ls.length ls)(hl:ls.length≤1000000)(F:FuncId)(hc:∀(args:Array Value)(w:World),(callFunc F args).run prog w=.ok (.enter F args) w)
  (f:Nat→Bool) (ie:∀j(hj:j<ls.length) w1,Below w.heap.size w w1→∀R:EW,(∀w2,Below w1.heap.size w1 w2→R (.returned (.bool (f j))) w2)→Calls prog F #[ls[j]] w1 R) {R:EW}
  (hR:∀w',Below w.heap.size w w'→R (.returned (.bool (br f ls.length))) w'):
  Calls prog 299 #[v,.func (.func F) #[] #[]] w R:=by
 have HR:=qh hR;clear hR;have HX:=qh (λR h1 h2=>@FA w v ls bJ hl F hc f ie R h1 h2);clear ie bJ;go_in;go_wp2_with fail;refine HX.o _ (λr w1 hb ha hr=>?_) (λw1 hb ha=>?_)
 ·rw[ha]at HR
  have HB:=qh hb;clear ha hb;go_wp2_with fail;exact HR.o _ HB.o
 ·rw[ha]at HR
  have HB:=qh hb;clear ha hb;go_wp2_with fail;exact HR.o _ HB.o
theorem FH(w0 w1:World)(bb:Nat)(p q:Value)(r:Bool)(hp:w1.cell? ⟨bb,0,none⟩=some p)(LB:kD p q w0 r)(hb:Below w0.heap.size w0 w1){R:EW}(hR:∀w2,Below w1.heap.size w1 w2→R (.returned (.bool r)) w2):
  Calls prog 300 #[q,.pointer (some ⟨bb,0,none⟩)] w1 R:=by
 have HR:=qh hR;have HF:=qh (LB w1 hb);clear hR LB hb;go_in;go_wp2_with fail;refine HF.o _ (λw2 aI=>?_);have HB:=qh aI;clear aI;go_wp2_with fail;exact HR.o _ HB.o
theorem Ge(w:World)(b k:Nat)(hk:cW w b k){R:EW}(hR:R (.returned (.bool (decide (k=5)))) w):
  Calls prog 302 #[.pointer (some ⟨b,0,none⟩)] w R:=by
 have HR:=qh hR;obtain⟨hb,c0⟩:=hk;clear hR;by_cases h5:k=5
 ·subst h5;go_in;go_wp2_with fail;exact HR.o
 ·have k1: ((k:Int)==5)=false:=int_ne h5;have k2:Hq (decide (k=5)=false):=decide_eq_false h5;rw[k2.out]at HR
  clear h5;go_in;go_wp2_with fail;exact HR.o
theorem pZ{w:World}{t:Tr}{p:Value}(h:rep (ak.hp w) t p):∃b,p=.pointer (some ⟨b,0,none⟩)∧cW w b (Ty.kindOf t):=by
 obtain⟨k,names,parts,list,of⟩:=t;obtain⟨b,pv,lv,ov,ps,ls,os,rfl,hb,c0,_⟩:=h_ h;exact⟨b,rfl,hb,c0⟩
theorem qX{h:ak.Hp}{b k:Nat}{lv:Value}{qs:List Value}{G:List Tr}(hb:h b=some (.cells #[.int .i64 (k:Nat),.slice none 0 0,lv,.pointer none] 219 (0,0)))(hl:ak.row 107 1 lv qs.length qs h)(hr:bz h G qs):rep h (.mk k [] [] G []) (.pointer (some ⟨b,0,none⟩)):=by
 rw[rep];exact⟨b,_,lv,_,[],qs,[],rfl,hb,⟨by simp[cN],.inl ⟨rfl,rfl⟩⟩,rfl,by rw[bz],hl,hr,by rw[bz],.inl ⟨rfl,rfl⟩⟩
theorem Ai(l m:List Tr)(k:Nat)(hk:k<m.length):dB (l++m.take (k+1))=Ty.jF (dB (l++m.take k)) m[k]:=by
 rw[List.take_succ_eq_append_getElem hk,←List.append_assoc,Aj]
theorem Be:∀l:List Tr,l.length≤bw l
 |[]=>by simp
 |t::l=>by have:=Es t;have:=Be l;rw[bw];simp;omega
def de(h0:ak.Hp)(t:Tr)(p:Value):As:=λa=>∀h,ak.le h0 h→ak.le a h→rep h t p
theorem Ay{h0:ak.Hp}{w w1:World}(h:Sat w w1 [bE w]):Sat w (w1.alloc (.cells #[.int .i64 (5:Nat),.slice none 0 0,.slice none 0 0,.pointer none] 219)) [bE w,de h0 C_ (.pointer (some ⟨w1.heap.size,0,none⟩))]:=
 (h.aj (.cells #[.int .i64 (5:Nat),.slice none 0 0,.slice none 0 0,.pointer none] 219) w1.heap.size).cG (i:=1) rfl λ_ ha _ _ mS=>qX (k:=5) (qs:=[]) (mS _ _ ha) ⟨rfl,.inl ⟨rfl,rfl⟩⟩ (by rw[bz])
theorem Gm(w0 w:World){h0:ak.Hp}(vF:ak.le h0 (ak.hp w0))(hw:Below w0.heap.size w0 w)(ng:List Tr)(ps:List Value)(aF:ni ng)(Nt:gZ ng)(Eg:bw ng≤1000000)(hr:bz h0 ng ps)(v:Value)(bJ:w.ownsRow 0 107 1 v ps.length ps){R:EW}
  (hR:∀p w',Sat w w' [bE w,de h0 (o0 ng) p]→R (.returned p) w'):
  Calls prog 245 #[v] w R:=by
 have HR:=qh hR;have dG:=qh bJ;have hle:=bV hr;have Xs:=Be ng;obtain⟨va,vc,rfl⟩:=ag bJ;have abD:Hq (∀j(hj:j<ng.length)(eh:j<ps.length),uA w0 h0 ng[j] ps[j]):=λj hj eh=>
  qG w0 vF _ _ (Nat.lt_succ_self _) (eS aF _ (gM hj)) (nO Nt _ (gM hj)) (by have:=me ng j hj;omega) _ (cS hr j hj eh)
 have aY:=qh (qj ng aF);have WH:Hq (∀j(hj:j<ng.length),∀x∈eP ng[j],dP x):=λj hj x hx=>(Ad _ (eS aF _ (gM hj)) x hx).1
 have UX:=qh Eg;have HW:=qh hw;have zk:=qh hle;have v7:ps.length≤1000000:=by omega
 obtain⟨j0,tj,qP,rJ,rI⟩:=info_parts pD;have h1:=(Sat.fw w).nil 107 1;have H1:=qh h1;have O6:=qh vF;clear vF hR bJ hr hle Xs aF Nt Eg hw h1;go_in;go_wp2_with fail;go_loopw [3,10] (λv i wr=>∃(j:Nat)(qs:List Value),i=.int .i64 j∧j≤ps.length∧Hq (Sat w wr [bE w,ak.row 107 1 v qs.length qs])∧Hq (bz h0 (dB (bQ (ng.take j))) qs)) (λ_ i _=>ps.length-(intOf i).toNat)
 case atStart=>exact⟨0,[],rfl,by omega,H1.o,by show bz _ (dB (bQ [])) [];rw[bQ];show bz _ [] [];rw[bz]⟩
 case round=>
  obtain⟨j,qs,rfl,hj,hS,hQ⟩:=hrel;obtain⟨qa,qc,rfl⟩:=ag (hS.out.row 1 rfl);by_cases bm:j<ps.length
  ·obtain⟨gl,j9,e,mW,d0⟩:=fD (az dG.o hS.out.aW) j bm;cases e;have eh:j<ng.length:=by have:=zk.o;omega
   have HI:=qh (abD.o j eh bm wr (HW.o.trans (hS.out.aW.mono HW.o.size)));have HT:=qh (List.take_succ_eq_append_getElem eh);have TR:=WH.o j eh;have gU: (bQ (ng.take j)).length+(eP ng[j]).length≤1000000:=by
    have h2:=j8 (ng.take j);have h3:=rT ng[j];have h4:=me ng j eh;have:=UX.o;omega
   have Ha:∀x∈bQ (ng.take j),dP x:=λx hx=>(aY.o x (by
    have:bQ ng=bQ (ng.take j)++bQ (ng.drop j):=by rw[←mz,List.take_append_drop]
    rw[this,List.mem_append];exact .inl hx)).1
   generalize ps[j]=pj at*
   generalize ng[j]=Hn at*
   have Uu:=qh gU;have Wc:=qh Ha;have RB:=qh TR;clear eh TR gU Ha;go_wp2_with fail;refine HI.o _ (λv2 vA w2 h2 sU=>?_);have cI:=bV sU;have KR:vA.length≤1000000:=by have:=Uu.o;omega
   obtain⟨a2,Nv,rfl⟩:=ag (h2.row 1 rfl);have h3:=hS.out.join h2;have Lp:=qh sU;have H3:=qh h3;have j4:=qh cI;have ZN:Hq (bz h0 (dB (bQ (ng.take j)++(eP Hn).take 0)) qs):=by show bz _ _ _;rw[List.take_zero,List.append_nil];exact hQ.out
   clear h2 h3 sU cI;go_wp2_with fail;obtain⟨wo,ab0⟩:∃wo:World,wo=wr:=⟨_,rfl⟩
   clear ab0 wo;go_loopw [3,17] (λv i wx=>∃(k:Nat)(qs:List Value),i=.int .i64 k∧k≤vA.length∧Hq (Sat w wx [bE w,ak.row 107 1 v qs.length qs,ak.row 107 1 (.slice a2 vA.length Nv) vA.length vA])∧Hq (bz h0 (dB (bQ (ng.take j)++(eP Hn).take k)) qs)) (λ_ i _=>vA.length-(intOf i).toNat)
   case atStart=>exact⟨0,qs,rfl,by omega,H3.o,ZN.o⟩
   case round=>
    obtain⟨k,qs,rfl,hk,py,R9⟩:=hrel;obtain⟨adG,qc2,rfl⟩:=ag (py.out.row 1 rfl);by_cases kL:k<vA.length
    ·obtain⟨g5,NF,e,abq,d5⟩:=fD (py.out.row 2 rfl) k kL;cases e;have wG:k<(eP Hn).length:=by have:=j4.o;omega
     have Oy:=cS Lp.o k wG kL;have Sc:=RB.o _ (gM wG);obtain⟨bx,Yl,_⟩:=eQ Oy;have Za:=qh (Ai (bQ (ng.take j)) (eP Hn) k wG);have mW:=pF (bQ (ng.take j)++(eP Hn).take k);have N6:=bV R9.out;have Z_:qs.length+1≤1000000:=by rw[←N6];rw[List.length_append,List.length_take]at mW;have:=Uu.o;omega
     have R5:∀y∈dB (bQ (ng.take j)++(eP Hn).take k),dP y:=λy hy=>by
      have:=uO _ y hy;rw[List.mem_append]at this
      rcases this with h|h
      ·exact Wc.o y h
      ·exact RB.o y (List.mem_of_mem_take h)
     generalize(eP Hn)[k]=x at*
     generalize dB (bQ (ng.take j)++(eP Hn).take k)=G at*
     rw[Yl]at Oy d5
     have SI:=HW.o.trans (py.out.aW.mono HW.o.size);have RM:Hq (∀i(hi:i<qs.length),kD (.pointer (some ⟨bx,0,none⟩)) qs[i] w0 (Ty.alike x (G.getD i bN))):=λi hi=>by
      have CC:i<G.length:=by omega
      rw[getD_eq CC];exact Fi w0 _ x G[i] _ _ (Nat.lt_succ_self _) Sc (R5 _ (gM CC)) (bL O6.o _ _ Oy) (bL O6.o _ _ (cS R9.out i CC hi))
     have Rm:=qh N6;have Xn:=qh Oy;have iB:=qh SI;have h6:=py.out.aj (.cells #[.pointer (some ⟨bx,0,none⟩)] 107) _ rfl;have H6:=qh h6;clear wG Sc Yl mW N6 R5 Oy SI h6;go_wp2_with fail;refine uQ _ _ qs (H6.o.row 1 rfl) (by omega) 300 _ Tryz.call300 (λi=>Ty.alike x (G.getD i bN)) (λi hi w3 dD R3 DR=>?_) (λw3 dD=>?_)
     ·exact FH w0 w3 _ _ _ _ ((H6.o.below dD).cell 3 rfl 0 rfl) (RM.o i hi) ((iB.o.trans (((bR _ _).alloc (nR _) _).mono iB.o.size)).trans (dD.mono (by have:=iB.o.size;simp;omega))) DR
     ·have h7:=H6.o.below dD;have x0:=h7.cell 3 rfl 0 rfl;have H7:=qh h7;clear dD h7;cases sI:br (λi=>Ty.alike x (G.getD i bN)) qs.length
      ·have Tq:Hq (bz h0 (dB (bQ (ng.take j)++(eP Hn).take (k+1))) (qs++[.pointer (some ⟨bx,0,none⟩)])):=by
        show bz _ _ _;rw[Za.o,Ty.jF,Rm.o,sI];exact lT R9.out Xn.o
       clear sI;go_wp2_with(at_builtin;go_loud(refine wpList_append_lies _ rfl (.tmp 25) (.tmp 27) 104 rfl 0 107 j0 _ 1 8 underlying104 tj qP rJ rI rfl (by decide) _ _ qs (by rfl) ((H7.o.row 1 rfl).alloc _) ⟨w3.heap.size,0,none⟩ 1 1 [.pointer (some ⟨bx,0,none⟩)] (by rfl) (by rfl) (World.news_of_block (cs:=#[.pointer (some ⟨bx,0,none⟩)]) (t:=107) (fr:=(0,0)) (aH _ _ _ (by simp))) (by simp[Value.oneCell']) (by omega) (by unfold maxLen;omega) (by omega) (by simp) (w3.heap.size+1) (by simp) ?_));intro g4 eJ w4 cq bC ga mY;have h8:=(Sat.grow (H7.o.aU _) 1 rfl bC cq (by simpa using ga)).pick [0,1,2];have h9:=h8.cG (i:=1) rfl (Q:=ak.row 107 1 (.slice (some ⟨g4,0,none⟩) (qs.length+1) eJ) (qs++[Value.pointer (some ⟨bx,0,none⟩)]).length (qs++[Value.pointer (some ⟨bx,0,none⟩)])) (λ_ h=>jc h);have H9:=qh h9;clear h8 h9 cq bC;go_wp2_with fail;go_roundw
       case rel=>exact⟨k+1,qs++[Value.pointer (some ⟨bx,0,none⟩)],by go_num,by omega,H9.o,Tq.o⟩
       case measure=>simp[intOf];omega
      ·have Tq:Hq (bz h0 (dB (bQ (ng.take j)++(eP Hn).take (k+1))) qs):=by
        show bz _ _ _;rw[Za.o,Ty.jF,Rm.o,sI];exact R9.out
       clear sI;go_wp2_with fail;go_roundw
       case rel=>exact⟨k+1,qs,by go_num,by omega,H7.o.pick [0,1,2],Tq.o⟩
       case measure=>simp[intOf];omega
    ·have nn:k=(eP Hn).length:=by have:=j4.o;omega
     have Tq:Hq (bz h0 (dB (bQ (ng.take (j+1)))) qs):=by
      have:=R9.out;rw[nn,List.take_length]at this
      show bz _ _ _;rw[HT.o,vp];exact this
     clear nn;go_wp2_with fail;go_roundw
     case rel=>exact⟨j+1,qs,by go_num,by omega,py.out.pick [0,1],Tq.o⟩
     case measure=>simp[intOf];omega
  ·have ju:j=ng.length:=by have:=zk.o;omega
   have hG:=hQ.out;rw[ju,List.take_length]at hG
   have SI:=HW.o.trans (hS.out.aW.mono HW.o.size);have iB:=qh SI;have mW:=bV hG;have N6:qs.length≤1000000:=by have:=pF (bQ ng);have:=j8 ng;have:=UX.o;omega
   unfold o0 at HR;generalize dB (bQ ng)=G at*
   rw[mW]at HR
   have HG:=qh hG;have Yg:=qh mW;clear ju SI hG mW hQ;by_cases h0:qs.length=0
   ·rw[if_pos (.inl h0)]at HR
    have k0: ((qs.length:Int)==0)=true:=by simp[h0]
    clear h0;go_wp2_with fail;refine lO _ 5 ?_;have oW:=qh (Ay (h0:=h0) (hS.out.pick [0]));go_wp2_with fail;exact HR.o _ _ oW.o
   ·have k0: ((qs.length:Int)==0)=false:=beq_eq_false_iff_ne.2 (by omega);have HK:Hq (∀i(hi:i<qs.length),∃b,qs[i]=.pointer (some ⟨b,0,none⟩)∧cW w0 b (Ty.kindOf (G.getD i bN))):=λi hi=>by
     have CC:i<G.length:=by have:=Yg.o;omega
     rw[getD_eq CC];exact pZ (bL O6.o _ _ (cS HG.o i CC hi))
    have fs:0<qs.length:=by omega
    have H0:=qh h0;clear h0;go_wp2_with fail;refine FX wr _ qs (hS.out.row 1 rfl) (by omega) 302 Tryz.call302 (λi=>decide (Ty.kindOf (G.getD i bN)=5)) (λi hi w3 dD R3 DR=>?_) (λw3 dD=>?_)
    ·obtain⟨b,eb,hk⟩:=HK.o i hi;rw[eb];exact Ge w3 b _ (tA (iB.o.trans (dD.mono iB.o.size)) hk.1 hk.2) (DR w3 (bR _ _))
    ·have H7:=qh (hS.out.below dD);have gn:=qh (iB.o.trans (dD.mono iB.o.size));clear dD;cases sI:br (λi=>decide (Ty.kindOf (G.getD i bN)=5)) qs.length
     ·rw[sI,if_neg (by simpa using H0.o)]at HR
      clear sI;by_cases h1:qs.length=1
      ·rw[if_pos h1]at HR
       have k1: ((qs.length:Int)==1)=true:=by simp[h1]
       have CC:0<G.length:=by have:=Yg.o;omega
       have Oy:=cS HG.o 0 CC fs;rw[getD_eq CC]at HR
       obtain⟨g5,NF,e,abq,d5⟩:=fD (H7.o.row 1 rfl) 0 fs;cases e;have Xn:=qh Oy;generalize qs[0]=q0 at*
       clear h1 Oy;go_wp2_with fail;exact HR.o _ _ ((H7.o.pick [0]).hZ (P:=de h0 _ q0) λa h hl _=>bL hl _ _ Xn.o)
      ·rw[if_neg h1]at HR
       have k1: ((qs.length:Int)==1)=false:=by simp;omega
       clear h1;go_wp2_with fail;refine HR.o _ _ ?_;have h8:=Sat.pack (L:=[bE w]) (H7.o.aj (.cells #[.int .i64 10,.slice none 0 0,.slice qa qs.length qc,.pointer none] 219) w3.heap.size);refine h8.cG (i:=1) rfl λa ha h yS mS=>?_
       obtain⟨x,y,_,hx,hy,h1,z,u,_,hz,_,h2,_⟩:=ha;exact qX (k:=10) (mS _ _ (ak.le_trans hz hy _ _ h2)) (iC h1 (ak.le_trans hx mS)) (jq yS _ _ HG.o)
     ·rw[sI,if_pos (.inr rfl)]at HR
      clear sI;go_wp2_with fail;refine lO _ 5 ?_;have oW:=qh (Ay (h0:=h0) (H7.o.pick [0]));go_wp2_with fail;exact HR.o _ _ oW.o
structure RowAt(w:World)(g n:Nat)(r:TyRow):Prop where
 q0:w.cell? ⟨g,n*4,none⟩=some (.int .i64 r.t.kind)
 q1:w.cell? ⟨g,n*4+1,none⟩=some r.fv
 q2:w.cell? ⟨g,n*4+2,none⟩=some r.lv
 q3:w.cell? ⟨g,n*4+3,none⟩=some (.int .i64 r.t.of)
theorem TyRd.look{w:World}{v:Value}{rows:List TyRow}{ts:List Ty.Ty}(h:TyRd w v rows)(zi:rows.map TyRow.t=ts){n:Nat}(hn:n<ts.length):
  ∃(g cap:Nat)(r:TyRow),v=.slice (some ⟨g,0,none⟩) ts.length cap∧g<w.heap.size∧ts.length≤cap∧cap≤maxLen∧ts[n]?=some r.t∧RowAt w g n r∧w.ownsRow 0 141 2 r.fv r.t.fields.length (r.t.fields.flatMap cQ)∧w.ownsRow 0 3 1 r.lv r.t.list.length (r.t.list.map aS):=by
 have hl:rows.length=ts.length:=by rw[←zi];simp
 obtain⟨g,cap,hv,hg,hc,hm,hcells⟩:=h.at (by omega);obtain⟨q0,q1,q2,q3⟩:=hcells n (by omega);have hb:=h.bits rows[n] (gM _);have Dy: (rows.map TyRow.t)[n]?=some rows[n].t:=by rw[List.getElem?_map,List.getElem?_eq_getElem (by omega)];rfl
 rw[zi]at Dy
 exact⟨g,cap,rows[n],by rw[hv,hl],hg,by omega,hm,Dy,⟨q0,q1,q2,q3⟩,hb.1,hb.2⟩
def Qd(v:Value)(w:World)(a b:Nat)(r:Bool):Prop:=∀w1,Below w.heap.size w w1→∀R:EW,(∀w2,Below w1.heap.size w1 w2→R (.returned (.bool r)) w2)→Calls prog 170 #[v,.int .i64 (a:Nat),.int .i64 (b:Nat)] w1 R
theorem Qd.mono{v:Value}{w w1:World}{a b:Nat}{r:Bool}(h:Qd v w a b r)(hb:Below w.heap.size w w1):Qd v w1 a b r:=λw2 aI R hR=>h w2 (hb.trans (aI.mono hb.size)) R hR
def PV(v:Value)(w:World)(a b:Nat)(r:Bool):Prop:=∀w1,Below w.heap.size w w1→∀R:EW,(∀w2,Below w1.heap.size w1 w2→R (.returned (.bool r)) w2)→Calls prog 102 #[v,.int .i64 (a:Nat),.int .i64 (b:Nat)] w1 R
theorem PV.mono{v:Value}{w w1:World}{a b:Nat}{r:Bool}(h:PV v w a b r)(hb:Below w.heap.size w w1):PV v w1 a b r:=λw2 aI R hR=>h w2 (hb.trans (aI.mono hb.size)) R hR
end
section
open Ty (Tr)
def su(v:Value)(rows:List TyRow):As:=ah [ak.row 69 4 v rows.length (rows.flatMap ew),ah (rows.map mQ)]
theorem JA{v:Value}{ts:List Ty.Ty}{a:ak.Hp}(h:oS v ts a):cA (λrows:List TyRow=>star (cn (rows.map TyRow.t=ts)) (su v rows)) a:=by
 obtain⟨rows,x,y,h1,h2,h3,h4,h5⟩:=h;refine⟨rows,x,y,h1,h2,h3,h4,?_⟩;have e:ts.length=rows.length:=by have:=congrArg List.length (show rows.map TyRow.t=ts from h4);simpa using this.symm
 rw[e]at h5;exact h5
theorem ak.Sat.rows{w0 w:World}{L:List As}(h:Sat w0 w L)(i:Nat){v:Value}{ts:List Ty.Ty}(hi:L[i]?=some (oS v ts)):∃rows,rows.map TyRow.t=ts∧Sat w0 w (L.set i (su v rows)):=by
 have h1:=h.cG hi (Q:=cA (λrows:List TyRow=>star (cn (rows.map TyRow.t=ts)) (su v rows))) (λ_ h=>JA h);have CC: (L.set i (cA λrows:List TyRow=>star (cn (rows.map TyRow.t=ts)) (su v rows)))[i]?=some (cA λrows:List TyRow=>star (cn (rows.map TyRow.t=ts)) (su v rows)):=by
  rw[List.getElem?_set_self (Sat.uy hi)]
 obtain⟨rows,h2⟩:=h1.ex CC;rw[List.set_set]at h2
 have Vk: (L.set i (star (cn (rows.map TyRow.t=ts)) (su v rows)))[i]?=some (star (cn (rows.map TyRow.t=ts)) (su v rows)):=by
  rw[List.getElem?_set_self (Sat.uy hi)]
 have hp:rows.map TyRow.t=ts:=h2.get Vk λa ha _=>by
  obtain⟨_,_,_,_,_,h,_⟩:=ha;exact h
 have h3:=h2.cG Vk (Q:=su v rows) (λa ha=>by
  obtain⟨x,y,_,_,hy,_,h⟩:=ha;exact iX h hy)
 rw[List.set_set]at h3
 exact⟨rows,hp,h3⟩
theorem Aq{v fv lv:Value}{acc:List Ty.Ty}{t:Ty.Ty}{rows:List TyRow}{a:ak.Hp}(hr:rows.map TyRow.t=acc)
  (h:ah [ak.row 69 4 v (acc.length+1) (rows.flatMap ew++ew ⟨t,fv,lv⟩),ah (rows.map mQ),zw fv t.fields,eZ lv t.list] a):oS v (acc++[t]) a:=by
 obtain⟨a1,r1,d1,l1,m1,h1,a2,r2,d2,l2,m2,h2,a3,r3,d3,l3,m3,h3,a4,r4,_,l4,_,h4,_⟩:=h;refine⟨rows++[⟨t,fv,lv⟩],λ_=>none,a,λ_=>.inl rfl,λ_ _ e=>(by cases e),ak.le_refl _,?_,a1,r1,d1,l1,m1,?_,r1,λ_=>none,λ_=>.inr rfl,ak.le_refl _,λ_ _ e=>(by cases e),?_,trivial⟩
 ·show _= _;rw[List.map_append,hr];rfl
 ·rw[List.flatMap_append,List.length_append];exact h1
 ·rw[List.map_append];refine eu h2 (b:=r2) ?_ d2 l2 m2;exact⟨r2,λ_=>none,λ_=>.inr rfl,ak.le_refl _,λ_ _ e=>(by cases e),⟨a3,r3,d3,l3,m3,h3,iC h4 l4⟩,trivial⟩
theorem Mx{v:Value}{ns:List BA}{vN:List Nat}{n:BA}{m:Nat}{a:ak.Hp}(hl:ns.length=vN.length)(h:ak.row 141 2 v ((ns.zip vN).length+1) ((ns.zip vN).flatMap cQ++[.string n,.int .i64 (m:Nat)]) a):zw v ((ns++[n]).zip (vN++[m])) a:=by
 have e: (ns++[n]).zip (vN++[m])=ns.zip vN++[(n,m)]:=by rw[List.zip_append hl];rfl
 rw[e];unfold zw;rw[List.length_append,List.flatMap_append];exact h
structure Steps(P:Nat→List Ty.Ty×List Nat)(l:List Tr)(acc:List Ty.Ty):Prop where
 zero:P 0=(acc,[])
 succ:∀k(hk:k<l.length),P (k+1)=((Ty.put l[k] (P k).1).1,(P k).2++[(Ty.put l[k] (P k).1).2])
 vN:∀k,k≤l.length→(P k).2.length=k
 len:∀k(hk:k<l.length),(P k).1.length+dw l[k]≤acc.length+bw l
 all:P l.length=ct l acc
theorem A2(l:List Tr)(acc:List Ty.Ty):Steps (λk=>ct (l.take k) acc) l acc where
 zero:=by simp[ct]
 succ:=λk hk=>by rw[List.take_succ_eq_append_getElem hk,wA]
 vN:=λk hk=>by rw[(ik _ _).1,List.length_take];omega
 len:=λk hk=>by have:=jr (l.take k) acc;have:=me l k hk;omega
 all:=by rw[List.take_length]
def Old(wb w:World):Prop:=∀k,k<wb.heap.size→w.heap[k]?=wb.heap[k]?
theorem ak.Sat.Ko{w0 w wb:World}{L:List As}(h:Sat w0 w L)(i:Nat)(hi:L[i]?=some (bE wb)):Old wb w:=by
 refine h.get hi λa ha hl k hk=>?_
 have h1:=ha k hk;rw[Array.getElem?_eq_getElem hk]at h1⊢
 exact hl _ _ h1
theorem Old.cell{wb w:World}(h:Old wb w){b o:Nat}{v:Value}(hc:wb.cell? ⟨b,o,none⟩=some v):w.cell? ⟨b,o,none⟩=some v:=by
 by_cases hb:b<wb.heap.size
 ·rw[←hc];simp[World.cell?,h b hb]
 ·rw[World.cell?,Array.getElem?_eq_none (by simpa using hb)]at hc;simp at hc
theorem Old.owns{wb w:World}(h:Old wb w){B:Nat}{e:TypeId}{size:Nat}{v:Value}{n:Nat}{xs:List Value}(ho:wb.ownsRow B e size v n xs):w.ownsRow B e size v n xs:=by
 refine⟨ho.1,?_⟩;rcases ho.2 with h1|⟨g,cap,cur,e1,e2,e3,e4⟩
 ·exact .inl h1
 ·exact .inr ⟨g,cap,cur,e1,e2,by rw[h g (Array.getElem?_eq_some_iff.1 e3).1];exact e3,e4⟩
theorem Old.size{wb w:World}(h:Old wb w):wb.heap.size≤w.heap.size:=by
 refine Nat.le_of_not_lt λbm=>?_
 have h6:=h (wb.heap.size-1) (by omega);rw[Array.getElem?_eq_none (by omega),Array.getElem?_eq_getElem (by omega)]at h6
 cases h6
def yL(wb:World)(t:Tr)(p:Value):Prop:=∀(w0 w:World)(Fr:As)(lv:Value)(acc:List Ty.Ty),Sat w0 w [Fr,bE wb,oS lv acc]→acc.length+dw t≤1000000→∀R:EW,
 (∀MA w',Sat w0 w' [Fr,bE wb,oS MA (Ty.put t acc).1]→R (.returned (.tuple #[MA,.int .i64 ((Ty.put t acc).2:Nat)])) w')→Calls prog 94 #[lv,p] w R
theorem FY(wb:World):∀(N:Nat)(t:Tr),sz t<N→dP t→∀p,rep (ak.hp wb) t p→yL wb t p:=by
 intro N;induction N with
 |zero=>intro t h;omega
 |succ N ih=>
  intro t hN aF p lA w0 w Fr lv acc H hb R hR;obtain⟨kd,names,parts,list,of⟩:=t;obtain⟨b,pv,acY,ov,ps,ls,os,rfl,gB,c0,c1,c2,c3,KZ,kN,jQ,Kj,uI,Aa,OO⟩:=h_ lA;obtain⟨W9,U3,XL,WL,P9,Sx⟩:=n_ aF;have hold:=H.Ko 1 rfl;have adD:=qh c0;have VB:=qh c2;have YU:=qh c3;have Oq:b<w.heap.size:=nL gB hold.size;replace c0:=hold.cell c0;replace c1:=hold.cell c1;replace c2:=hold.cell c2;replace c3:=hold.cell c3;have Cq:=aF;rw[dP]at Cq
  have v7:=bV jQ;have oV:=bV uI;have aco:Hq (∀j(hj:j<parts.length)(eh:j<ps.length),yL wb parts[j] ps[j]):=λj hj eh=>
   ih parts[j] (by have:=pX (gM hj) kd names list of;omega) (eS Cq.2.2.2.2.2.2.2.1 _ (gM hj)) ps[j] (cS jQ j hj eh)
  have Z0:Hq (∀j(hj:j<list.length)(eh:j<ls.length),yL wb list[j] ls[j]):=λj hj eh=>
   ih list[j] (by have:=qz (gM hj) kd names parts of;omega) (eS Cq.2.2.2.2.2.2.2.2.1 _ (gM hj)) ls[j] (cS uI j hj eh)
  have abE:Hq (os=[]∧of=[]∧ov=.pointer none∨∃(o:Tr)(pb:Nat),of=[o]∧ov=.pointer (some ⟨pb,0,none⟩)∧yL wb o (.pointer (some ⟨pb,0,none⟩))):=by
   show _∨_;by_cases h8:kd=8∨kd=9
   ·right;have h1:=P9 h8
    match of,h1 with
    |[o],_=>
     rw[bz]at Aa
     obtain⟨q,qs,e1,h2,h3⟩:=Aa;rw[bz]at h3
     subst h3;rw[e1]at OO
     rcases OO with⟨h,_⟩|h
     ·cases h
     ·cases h;obtain⟨pb,eb,_⟩:=eQ h2;subst eb;exact⟨o,pb,rfl,rfl,ih o (by have:=Oj (t:=o) (l:=[o]) (by simp) kd names parts list;omega) (eS Cq.2.2.2.2.2.2.2.2.2 o (by simp)) _ h2⟩
   ·left;have h1:=Sx (by omega) (by omega);subst h1;rw[bz]at Aa
    subst Aa;rcases OO with⟨_,h⟩|h
    ·exact⟨rfl,rfl,h⟩
    ·cases h
  have sJ:Hq (∀j(hj:j<ps.length),∃pb,ps[j]=.pointer (some ⟨pb,0,none⟩)):=λj hj=>by
   obtain⟨Vx,e,_⟩:=eQ (cS jQ j (by omega) hj);exact⟨Vx,e⟩
  obtain⟨fa,fc,rfl⟩:=ag KZ;obtain⟨la,lc,rfl⟩:=ag Kj;have Va:=qh KZ;have aae:=qh Kj;rw[dw]at hb
  rw[Ty.put]at hR
  have ze:=A2 parts acc;generalize aaF: (λk=>ct (parts.take k) acc)=P at ze;have py:=A2 list (P parts.length).1;generalize Z5: (λk=>ct (list.take k) (P parts.length).1)=Q at py;have hP:=ze.all;have hQ:=py.all;have VM:=jr parts acc;have U4:=jr list (P parts.length).1;rw[←hP]at VM hR
  rw[←hQ]at U4 hR
  have v8:=qh ze;have OP:=qh py;have OB:=qh VM;have Uy:=qh U4;have HB:=qh hb;have HR:=qh hR;have Tn:=qh v7;have Ly:=qh oV;have UO:=qh kN;have Oo:ps.length≤1000000:=by omega
  have Lx:ls.length≤1000000:=by omega
  obtain⟨i0,ti,mx,mu,mw⟩:=info_parts IA;obtain⟨j0,tj,qP,rJ,rI⟩:=info_parts jo;obtain⟨l0,tl,Yv,X8,Zz⟩:=info_parts JU;have h1:=H.aj (.cells #[.int .i64 kd,.slice none 0 0,.slice none 0 0,.int .i64 0] 69) w.heap.size;have h2:=(h1.nil 141 2).pick [0,1,2,3,4];have h3:=h2.cG (i:=2) rfl (Q:=oS lv (P 0).1) (λ_ h=>by rw[ze.zero];exact h);have h4:=h3.cG (i:=4) rfl (Q:=zw (.slice none 0 0) ((names.take 0).zip (P 0).2)) (λ_ h=>by rw[ze.zero];exact h);have H4:=qh h4;clear aaF Z5 ih lA H hR aF Cq W9 U3 XL WL P9 Sx KZ Kj jQ uI Aa OO ze py hP hQ VM U4 hb v7 oV kN h1 h2 h3 h4 hold hN;go_enter func94,ntmps94;go_wp2_with fail;go_loopw [0,22] (λl i wr=>∃(k:Nat)(xf lk:Value),lk=l∧i=.int .i64 k∧k≤ps.length∧Hq (Sat w0 wr [Fr,bE wb,oS lk (P k).1,ay w.heap.size (.cells #[.int .i64 kd,xf,.slice none 0 0,.int .i64 0] 69 (0,0)),zw xf ((names.take k).zip (P k).2)]))
   (λ_ i _=>ps.length-(intOf i).toNat)
  case atStart=>exact⟨0,.slice none 0 0,lv,rfl,rfl,by omega,H4.o⟩
  case round=>
   obtain⟨k,xf,lk,rfl,rfl,hk,hS⟩:=hrel;have tZ:=hS.out.Ko 1 rfl;by_cases bm:k<ps.length
   ·obtain⟨gf,QR,e,Vt,d0,d1⟩:=tS (tZ.owns Va.o) UO.o k bm;cases e;obtain⟨pp,Sd⟩:=sJ.o k bm;have bD:k<parts.length:=by have:=Tn.o;omega
    have MV:k<names.length:=by have:=UO.o;omega
    have Kw:=v8.o.succ k bD;have hle:=v8.o.len k bD;have mf:=v8.o.vN k (by omega);have zm:=qh (List.take_succ_eq_append_getElem MV);have Pl:=aco.o k bD bm;rw[Sd]at d1 Pl
    have h7:=hS.out.aj (.cells #[.string (names[k]'MV),.pointer (some ⟨pp,0,none⟩)] 221) wr.heap.size;have A6:=qh (Pl w0 _ _ _ _ ((Sat.pack (L:=[_,_]) (M:=[_,_,_,_]) (h7.pick [1,2,0,3,4,5])).pick [2,0,1]) (by have:=HB.o;have:=OB.o;omega));have ND:=qh Kw;have X7: ((names.take k).zip (P k).2).length=k:=by rw[List.length_zip,mf,List.length_take];omega
    have U1:Hq ((names.take k).length=(P k).2.length):=by show _= _;rw[mf,List.length_take];omega
    generalize names[k]'MV=nm at*
    generalize parts[k]=aak at*
    have Xi:=qh X7;clear bD MV Kw hle mf X7 Sd Pl h7;go_wp2_with fail;refine A6.o _ (λnu w2 h2=>?_);generalize Ty.put aak (P k).1=pt at*
    obtain⟨pl,pn⟩:=pt;dsimp only at h2 ND⊢;have h3:=(h2.unpack (i:=0) rfl).pick [2,0,1,3,4,5];obtain⟨xa,xc,ex⟩:=ag (h3.row 4 rfl);rw[Xi.o]at ex
    subst ex;have z0:=h3.cell 5 rfl 0 rfl;have y2:=h3.cell 3 rfl 1 rfl;have fy:=h3.free 3 rfl 1;have Ys:=h3.lt 3 rfl;have aaw:=h3.lt 5 rfl;have bJ:=h3.row 4 rfl;rw[Xi.o]at bJ
    have dG:=qh bJ;have H3:=qh h3;clear h2 h3 bJ d0 d1;go_wp2_with(at_builtin;go_loud(refine wpList_append_lies _ rfl (.tmp 34) (.tmp 39) 67 rfl 0 141 i0 _ 2 24 underlying67 ti mx mu mw rfl (by decide) _ _ (((names.take k).zip (P k).2).flatMap cQ) (by rfl) (dG.o.alloc _) ⟨w2.heap.size,0,none⟩ 1 1 [.string nm,.int .i64 (pn:Nat)] (by rfl) (by rfl) (World.news_of_block (cs:=#[.string nm,.int .i64 (pn:Nat)]) (t:=141) (fr:=(0,0)) (aH _ _ _ (by simp))) (by simp[Value.oneCell']) (by omega) (by unfold maxLen;omega) (by omega) (by simp) (w2.heap.size+1) (by simp) ?_));intro g4 eJ w4 cq bC ga mY;have h4:=(Sat.grow (m:=k+1) (H3.o.aU _) 4 rfl bC cq (by simpa using ga)).pick [0,1,2,3,4];have x5:=h4.cell 3 rfl 1 rfl;have f5:=h4.free 3 rfl 1;have h5:=h4.store 3 rfl 1 (.slice (some ⟨g4,0,none⟩) (k+1) eJ);have h6:=h5.cG (i:=4) rfl (Q:=zw (.slice (some ⟨g4,0,none⟩) (k+1) eJ) ((names.take (k+1)).zip (P (k+1)).2)) (λ_ h=>by rw[ND.o,zm.o];exact Mx U1.o (by rw[Xi.o];exact h));have h7:=h6.cG (i:=2) rfl (Q:=oS nu (P (k+1)).1) (λ_ h=>by rw[ND.o];exact h);have H7:=qh h7;clear h4 h5 h6 h7 cq bC;go_wp2_with fail;go_roundw
    case rel=>exact⟨k+1,.slice (some ⟨g4,0,none⟩) (k+1) eJ,nu,rfl,by go_num,by omega,H7.o⟩
    case measure=>simp[intOf];omega
   ·have nn:k=parts.length:=by have:=Tn.o;omega
    have h2:=hS.out;rw[nn,List.take_of_length_le (by have:=UO.o;have:=Tn.o;omega:names.length≤parts.length)]at h2
    have h3:=((h2.nil 3 1).cG (i:=2) rfl (Q:=oS lk (Q 0).1) (λ_ h=>by rw[OP.o.zero];exact h)).cG (i:=5) rfl (Q:=eZ (.slice none 0 0) (Q 0).2) (λ_ h=>by rw[OP.o.zero];exact h);have H4:=qh h3;have c2:=tZ.cell VB.o;have Sn:b<wr.heap.size:=nL gB tZ.size;clear h2 h3 nn hS c0 c1 c3;go_wp2_with fail;clear c2;go_loopw [0,48] (λl i wr=>∃(k:Nat)(xl lk:Value),lk=l∧i=.int .i64 k∧k≤ls.length∧Hq (Sat w0 wr [Fr,bE wb,oS lk (Q k).1,ay w.heap.size (.cells #[.int .i64 kd,xf,xl,.int .i64 0] 69 (0,0)),zw xf (names.zip (P parts.length).2),eZ xl (Q k).2]))
     (λ_ i _=>ls.length-(intOf i).toNat)
    case atStart=>exact⟨0,.slice none 0 0,lk,rfl,rfl,by omega,H4.o⟩
    case round=>
     obtain⟨k,xl,lk,rfl,rfl,hk,hS⟩:=hrel;have tZ:=hS.out.Ko 1 rfl;by_cases bm:k<ls.length
     ·obtain⟨gf,QR,e,Vt,d0⟩:=fD (tZ.owns aae.o) k bm;cases e;have bD:k<list.length:=by have:=Ly.o;omega
      have Kw:=OP.o.succ k bD;have hle:=OP.o.len k bD;have mf:=OP.o.vN k (by omega);have A6:=qh (Z0.o k bD bm w0 wr _ _ _ ((Sat.pack (L:=[_,_]) (M:=[_,_,_,_]) (hS.out.pick [1,2,0,3,4,5])).pick [2,0,1]) (by have:=HB.o;have:=OB.o;have:=Uy.o;omega));have ND:=qh Kw;have Qg:Hq ((Q k).2.length=k):=mf;generalize ls[k]=pj at*
      generalize list[k]=tk at*
      clear bD Kw hle mf;go_wp2_with fail;refine A6.o _ (λnu w2 h2=>?_);generalize Ty.put tk (Q k).1=pt at*
      obtain⟨pl,pn⟩:=pt;dsimp only at h2 ND⊢;have h3:=(h2.unpack (i:=0) rfl).pick [2,0,1,3,4,5];obtain⟨xa,xc,ex⟩:=ag (h3.row 5 rfl);rw[Qg.o]at ex
      subst ex;have y2:=h3.cell 3 rfl 2 rfl;have fy:=h3.free 3 rfl 2;have OW:=h3.lt 3 rfl;have bJ:=h3.row 5 rfl;rw[Qg.o]at bJ
      have dG:=qh bJ;have H3:=qh h3;clear h2 h3 bJ d0;go_wp2_with(at_builtin;go_loud(refine wpList_append_lies _ rfl (.tmp 59) (.tmp 61) 39 rfl 0 3 j0 _ 1 8 underlying39 tj qP rJ rI rfl (by decide) _ _ ((Q k).2.map aS) (by rfl) (dG.o.alloc _) ⟨w2.heap.size,0,none⟩ 1 1 [.int .i64 (pn:Nat)] (by rfl) (by rfl) (World.news_of_block (cs:=#[.int .i64 (pn:Nat)]) (t:=3) (fr:=(0,0)) (aH _ _ _ (by simp))) (by simp[Value.oneCell']) (by omega) (by unfold maxLen;omega) (by omega) (by simp) (w2.heap.size+1) (by simp) ?_));intro g4 eJ w4 cq bC ga mY;have h4:=Sat.grow (m:=k+1) (H3.o.aU _) 5 rfl bC cq (by simpa using ga);have x5:=h4.cell 3 rfl 2 rfl;have f5:=h4.free 3 rfl 2;have h5:=h4.store 3 rfl 2 (.slice (some ⟨g4,0,none⟩) (k+1) eJ);have h6:=h5.cG (i:=5) rfl (Q:=eZ (.slice (some ⟨g4,0,none⟩) (k+1) eJ) (Q (k+1)).2) (λ_ h=>by rw[ND.o];exact iJ (by rw[Qg.o];exact h));have h7:=h6.cG (i:=2) rfl (Q:=oS nu (Q (k+1)).1) (λ_ h=>by rw[ND.o];exact h);have H7:=qh h7;clear h4 h5 h6 h7 cq bC;go_wp2_with fail;go_roundw
      case rel=>exact⟨k+1,.slice (some ⟨g4,0,none⟩) (k+1) eJ,nu,rfl,by go_num,by omega,H7.o⟩
      case measure=>simp[intOf];omega
     ·have nn:k=list.length:=by have:=Ly.o;omega
      have h0:=hS.out;rw[nn]at h0
      generalize names.zip (P parts.length).2=FL at h0 HR;generalize(Q list.length).2=NL at h0 HR;have Rb:=qh h0;clear h0;have c3:=tZ.cell YU.o;have abd:b<wr.heap.size:=nL gB tZ.size;rcases abE.o with⟨_,rfl,rfl⟩|⟨o,pb,rfl,rfl,eO⟩
      ·have Vb: (Q list.length).1.length≤1000000:=by have:=HB.o;have:=OB.o;have:=Uy.o;omega
       rw[ct]at HR
       dsimp only[List.headD]at HR;have h4:=Rb.o;obtain⟨u_,h5⟩:=h4.ex (i:=2) rfl;have h5:=h5.unpack (i:=2) rfl;have sU:=h5.pure 5 rfl;obtain⟨a2,qf,rfl⟩:=ag (h5.row 6 rfl);obtain⟨xa,xc,rfl⟩:=ag (h5.row 3 rfl);obtain⟨ya,yc,rfl⟩:=ag (h5.row 4 rfl);have z0:=h5.cell 2 rfl 0 rfl;have z1:=h5.cell 2 rfl 1 rfl;have z2:=h5.cell 2 rfl 2 rfl;have z3:=h5.cell 2 rfl 3 rfl;have dG:=qh (h5.row 6 rfl);have H5:=qh h5;have Lp:=qh sU;clear h5 sU;go_wp2_with(at_builtin;go_loud(refine wpList_append_lies _ rfl (.tmp 80) (.tmp 82) 29 rfl 0 69 l0 _ 4 64 underlying29 tl Yv X8 Zz rfl (by decide) _ _ (u_.flatMap ew) (by rfl) (dG.o.alloc _) ⟨wr.heap.size,0,none⟩ 1 1 [.int .i64 kd,.slice xa FL.length xc,.slice ya NL.length yc,.int .i64 0] (by rfl) (by rfl) (World.news_of_block (cs:=#[.int .i64 kd,.slice xa FL.length xc,.slice ya NL.length yc,.int .i64 0]) (t:=69) (fr:=(0,0)) (aH _ _ _ (by simp))) (by simp[Value.oneCell']) (by omega) (by unfold maxLen;omega) (by omega) (by simp) (wr.heap.size+1) (by simp) ?_));intro g6 QS w6 eD dh QF NU;have h6:=(Sat.grow (m:=(Q list.length).1.length+1) (H5.o.aU _) 6 rfl dh eD (by simpa using QF)).pick [0,1,6,7,3,4];have h7:=(Sat.pack (L:=[_,_]) (M:=[_,_,_,_]) h6).cG (i:=2) rfl (Q:=oS (.slice (some ⟨g6,0,none⟩) ((Q list.length).1.length+1) QS) ((Q list.length).1++[⟨kd,FL,NL,0⟩])) (λ_ h=>Aq (acc:=(Q list.length).1) (t:=⟨kd,FL,NL,0⟩) (rows:=u_) (fv:=.slice xa FL.length xc) (lv:=.slice ya NL.length yc) Lp.o h);have H7:=qh h7;clear h6 h7 eD dh;go_wp2_with fail;exact HR.o _ _ H7.o
      ·have A6:=qh (eO w0 wr _ _ _ ((Sat.pack (L:=[_,_]) (M:=[_,_,_,_]) (Rb.o.pick [1,2,0,3,4,5])).pick [2,0,1]) (by have:=HB.o;rw[bw,bw]at this;have:=OB.o;have:=Uy.o;omega));rw[ct,ct]at HR
       clear eO;go_wp2_with fail;refine A6.o _ (λnu w2 h2=>?_);dsimp only[List.headD]at HR;have v7:=E2 o (Q list.length).1;generalize Ty.put o (Q list.length).1=pt at*
       obtain⟨pl,pn⟩:=pt;dsimp only at h2 HR v7⊢;have h3:=(h2.unpack (i:=0) rfl).pick [2,0,1,3,4,5];have Vb:pl.length≤1000000:=by have:=HB.o;rw[bw,bw]at this;have:=OB.o;have:=Uy.o;omega
       have y3:=h3.cell 3 rfl 3 rfl;have fy:=h3.free 3 rfl 3;have OW:=h3.lt 3 rfl;have H3:=qh h3;clear h2 h3 v7
       go_upto_region 17 with fail
       have h4:=H3.o.store 3 rfl 3 (.int .i64 (pn:Nat));obtain⟨u_,h5⟩:=h4.ex (i:=2) rfl;have h5:=h5.unpack (i:=2) rfl;have sU:=h5.pure 5 rfl;obtain⟨a2,qf,rfl⟩:=ag (h5.row 6 rfl);obtain⟨xa,xc,rfl⟩:=ag (h5.row 3 rfl);obtain⟨ya,yc,rfl⟩:=ag (h5.row 4 rfl);have z0:=h5.cell 2 rfl 0 rfl;have z1:=h5.cell 2 rfl 1 rfl;have z2:=h5.cell 2 rfl 2 rfl;have z3:=h5.cell 2 rfl 3 rfl;have dG:=qh (h5.row 6 rfl);have H5:=qh h5;have Lp:=qh sU;clear h5 sU;go_wp2_with(at_builtin;go_loud(refine wpList_append_lies _ rfl (.tmp 80) (.tmp 82) 29 rfl 0 69 l0 _ 4 64 underlying29 tl Yv X8 Zz rfl (by decide) _ _ (u_.flatMap ew) (by rfl) (dG.o.alloc _) ⟨w2.heap.size,0,none⟩ 1 1 [.int .i64 kd,.slice xa FL.length xc,.slice ya NL.length yc,.int .i64 (pn:Nat)] (by rfl) (by rfl) (World.news_of_block (cs:=#[.int .i64 kd,.slice xa FL.length xc,.slice ya NL.length yc,.int .i64 (pn:Nat)]) (t:=69) (fr:=(0,0)) (aH _ _ _ (by simp))) (by simp[Value.oneCell']) (by omega) (by unfold maxLen;omega) (by omega) (by simp) (w2.heap.size+1) (by simp) ?_));intro g6 QS w6 eD dh QF NU;have h6:=(Sat.grow (m:=pl.length+1) (H5.o.aU _) 6 rfl dh eD (by simpa using QF)).pick [0,1,6,7,3,4];have h7:=(Sat.pack (L:=[_,_]) (M:=[_,_,_,_]) h6).cG (i:=2) rfl (Q:=oS (.slice (some ⟨g6,0,none⟩) (pl.length+1) QS) (pl++[⟨kd,FL,NL,pn⟩])) (λ_ h=>Aq (acc:=pl) (t:=⟨kd,FL,NL,pn⟩) (rows:=u_) (fv:=.slice xa FL.length xc) (lv:=.slice ya NL.length yc) Lp.o h);have H7:=qh h7;clear h6 h7 eD dh;go_wp2_with fail;exact HR.o _ _ H7.o
def bs(l:List UInt8):BA:=⟨l.toArray⟩
theorem EE(l:List UInt8): (bs l).data.toList=l:=by simp[bs]
theorem Rw(x:BA):bs x.data.toList=x:=by cases x;rfl
theorem QT(a b:List UInt8):bs a++bs b=bs (a++b):=by
 apply ByteArray.ext;apply Array.ext';simp[bs]
theorem DY(l:List UInt8): (bs l).size=l.length:=by show l.toArray.size= _;simp
theorem yQ{a b:BA}{x y z:List UInt8}(ha:a=bs x)(hb:b=bs y)(hz:x++y=z)(hs:z.length≤1000000000):∀w:World,(Op.stringOp .add a b).run prog w=.ok (.string (bs z)) w:=λw=>by
 have h1:a.size+b.size=z.length:=by rw[ha,hb,DY,DY,←hz,List.length_append]
 rw[run_string_add_sum w a b (by omega),ha,hb,QT,hz]
theorem o_(sep:List UInt8):∀l:List (List UInt8),Lib.join l sep=gY sep l
 |[]=>rfl
 |[x]=>by rw[Lib.join_one];rfl
 |x::y::l=>by
  rw[Lib.join_cons];have h:=o_ sep (y::l);rw[Lib.join_cons]at h
  rw[gY,←h];simp[Lib.joinTail]
def sK(v:Value)(w:World)(n:Nat)(r:List UInt8):Prop:=∀w1,Below w.heap.size w w1→∀R:EW,(∀w2,Below w1.heap.size w1 w2→R (.returned (.string (bs r))) w2)→Calls prog 64 #[v,.int .i64 (n:Nat)] w1 R
def rz(un:Bool)(n:Nat)(kd:Nat→Nat)(tx:Nat→List UInt8)(i:Nat):List UInt8:=if un then Ty.brk n i (kd i) (tx i)else tx i
theorem kr{v:Value}{k:Nat}{F:Nat→List UInt8}{x:List UInt8}{a:ak.Hp}(hx:x=F k)(h:ak.row 9 1 v (k+1) ((List.range k).map (λi=>Value.string (bs (F i)))++[.string (bs x)]) a):ak.row 9 1 v (k+1) ((List.range (k+1)).map (λi=>Value.string (bs (F i)))) a:=by
 subst hx;rw[List.range_succ,List.map_append];exact h
theorem GA(w:World)(g cap L:Nat)(hg:g<w.heap.size)(_:L≤cap)(_:L≤1000000)(bU:List Nat)(lv:Value)(KA:w.ownsRow 0 3 1 lv bU.length (bU.map aS))(Lx:bU.length≤1000000)(kd:Nat→Nat)(tx:Nat→List UInt8)(un:Bool)(sep:BA)
  (hk:∀j(hj:j<bU.length),bU[j]<L∧w.cell? ⟨g,bU[j]*4,none⟩=some (.int .i64 (kd j:Nat)))
  (ht:∀j(hj:j<bU.length),sK (.slice (some ⟨g,0,none⟩) L cap) w bU[j] (tx j)) (hb:∀j,j<bU.length→(tx j).length≤900000000)
  (hs: (gY sep.data.toList ((List.range bU.length).map (rz un bU.length kd tx))).length≤1000000000) {R:EW}
  (hR:∀w',Below w.heap.size w w'→R (.returned (.string (bs (gY sep.data.toList ((List.range bU.length).map (rz un bU.length kd tx)))))) w'):
  Calls prog 118 #[.slice (some ⟨g,0,none⟩) L cap,lv,.string sep,.bool un] w R:=by
 have HR:=qh hR;have HK:=qh hk;have HT:=qh ht;have eH:=qh hb;have Lz:=qh hs;have dG:=qh KA;obtain⟨la,lc,rfl⟩:=ag KA;obtain⟨j0,tj,qP,rJ,rI⟩:=info_parts s_;have h1:=(Sat.fw w).nil 9 1;have H1:=qh h1;clear hR hk ht hb hs KA h1;go_in;go_wp2_with fail;go_loopw [9,15] (λv i wr=>∃(k:Nat),i=.int .i64 k∧k≤bU.length∧Hq (Sat w wr [bE w,ak.row 9 1 v k ((List.range k).map λi=>Value.string (bs (rz un bU.length kd tx i)))])) (λ_ i _=>bU.length-(intOf i).toNat)
 case atStart=>exact⟨0,rfl,by omega,H1.o⟩
 case round=>
  obtain⟨k,rfl,hk,hS⟩:=hrel;obtain⟨oa,oc,rfl⟩:=ag (hS.out.row 1 rfl);by_cases bm:k<bU.length
  ·obtain⟨gl,j9,e,mW,d0⟩:=ints_at (az dG.o hS.out.aW) k bm;cases e;obtain⟨YW,BJ⟩:=HK.o k bm;have HI:=qh (HT.o k bm wr hS.out.aW);have Gk:=eH.o k bm;generalize bU[k]=ix at*
   have Lu:=qh BJ;clear BJ;have hF:rz un bU.length kd tx k=if un=true∧(kd k=10∨kd k=9∧k+1<bU.length)then 40:: (tx k++[41])else tx k:=by
    unfold rz Ty.brk;cases un<;>simp
   have HF:=qh hF;have c1:=yQ (a:=⟨#[40]⟩) (b:=bs (tx k)) (x:=[40]) (y:=tx k) (z:=40::tx k) rfl rfl rfl (by simp;omega);have c2:=yQ (a:=bs (40::tx k)) (b:=⟨#[41]⟩) (x:=40::tx k) (y:=[41]) (z:=40:: (tx k++[41])) rfl rfl (by simp) (by simp;omega);obtain⟨fk,QM⟩:∃fk,rz un bU.length kd tx k=fk:=⟨_,rfl⟩
   rw[QM]at HF
   have KM:=qh QM;clear hF QM;have xg: (un=false∧fk=tx k)∨(un=true∧((kd k:Int)==10)=true∧fk=40:: (tx k++[41]))∨(un=true∧((kd k:Int)==10)=false∧((kd k:Int)==9)=false∧fk=tx k)∨(un=true∧((kd k:Int)==10)=false∧((kd k:Int)==9)=true∧k+1<bU.length∧fk=40:: (tx k++[41]))∨(un=true∧((kd k:Int)==10)=false∧((kd k:Int)==9)=true∧¬k+1<bU.length∧fk=tx k):=by
    have hf:=HF.o;cases un
    ·left;exact⟨rfl,by rw[hf];simp⟩
    ·right;by_cases r9:kd k=10
     ·left;exact⟨rfl,by simp[r9],by rw[hf,if_pos ⟨rfl,.inl r9⟩]⟩
     ·right;by_cases e9:kd k=9
      ·right;by_cases e1:k+1<bU.length
       ·left;exact⟨rfl,by simp[e9],by simp[e9],e1,by rw[hf,if_pos ⟨rfl,.inr ⟨e9,e1⟩⟩]⟩
       ·right;exact⟨rfl,by simp[e9],by simp[e9],e1,by rw[hf,if_neg (by omega)]⟩
      ·left;exact⟨rfl,by simp;omega,by simp;omega,by rw[hf,if_neg (by omega)]⟩
   have Tg:=qh xg;clear xg;go_wp2_with fail;refine HI.o _ (λw2 aI=>?_);have h2:=hS.out.below aI;have H2:=qh h2;have q0:=aq h2.aW Lu.o;have DX:g<w2.heap.size:=nL hg h2.aW.size;clear aI h2 d0;rcases Tg.o with⟨rfl,BH⟩|⟨rfl,k1,BH⟩|⟨rfl,k1,k2,BH⟩|⟨rfl,k1,k2,k3,BH⟩|⟨rfl,k1,k2,k3,BH⟩
   ·have LQ:=qh BH.symm;clear BH;go_wp2_with(at_builtin;go_loud(refine wpList_append_lies _ rfl (.tmp 50) (.tmp 52) 161 rfl 0 9 j0 _ 1 16 underlying161 tj qP rJ rI rfl (by decide) (.slice oa k oc) k _ (by rfl) ((H2.o.row 1 rfl).alloc _) ⟨w2.heap.size,0,none⟩ 1 1 [.string (bs (tx k))] (by rfl) (by rfl) (World.news_of_block (cs:=#[.string (bs (tx k))]) (t:=9) (fr:=(0,0)) (aH _ _ _ (by simp))) (by simp[Value.oneCell']) (by omega) (by unfold maxLen;omega) (by omega) (by simp) (w2.heap.size+1) (by simp) ?_));intro g4 eJ w4 cq bC ga mY;have h8:=Sat.grow (m:=k+1) (H2.o.aU _) 1 rfl bC cq (by simpa using ga);have h9:=h8.cG (i:=1) rfl (Q:=ak.row 9 1 (.slice (some ⟨g4,0,none⟩) (k+1) eJ) (k+1) ((List.range (k+1)).map λi=>Value.string (bs (rz false bU.length kd tx i)))) (λ_ h=>kr (F:=rz false bU.length kd tx) (LQ.o.trans KM.o.symm) h);have H9:=qh h9;clear h8 h9 cq bC;go_wp2_with fail;go_roundw
    case rel=>exact⟨k+1,by go_num,by omega,H9.o⟩
    case measure=>simp[intOf];omega
   ·have LQ:=qh BH.symm;clear BH;go_wp2_with(at_builtin;go_loud(refine wpList_append_lies _ rfl (.tmp 50) (.tmp 52) 161 rfl 0 9 j0 _ 1 16 underlying161 tj qP rJ rI rfl (by decide) (.slice oa k oc) k _ (by rfl) ((H2.o.row 1 rfl).alloc _) ⟨w2.heap.size,0,none⟩ 1 1 [.string (bs (40:: (tx k++[41])))] (by rfl) (by rfl) (World.news_of_block (cs:=#[.string (bs (40:: (tx k++[41])))]) (t:=9) (fr:=(0,0)) (aH _ _ _ (by simp))) (by simp[Value.oneCell']) (by omega) (by unfold maxLen;omega) (by omega) (by simp) (w2.heap.size+1) (by simp) ?_));intro g4 eJ w4 cq bC ga mY;have h8:=Sat.grow (m:=k+1) (H2.o.aU _) 1 rfl bC cq (by simpa using ga);have h9:=h8.cG (i:=1) rfl (Q:=ak.row 9 1 (.slice (some ⟨g4,0,none⟩) (k+1) eJ) (k+1) ((List.range (k+1)).map λi=>Value.string (bs (rz true bU.length kd tx i)))) (λ_ h=>kr (F:=rz true bU.length kd tx) (LQ.o.trans KM.o.symm) h);have H9:=qh h9;clear h8 h9 cq bC;go_wp2_with fail;go_roundw
    case rel=>exact⟨k+1,by go_num,by omega,H9.o⟩
    case measure=>simp[intOf];omega
   ·have LQ:=qh BH.symm;clear BH;go_wp2_with(at_builtin;go_loud(refine wpList_append_lies _ rfl (.tmp 50) (.tmp 52) 161 rfl 0 9 j0 _ 1 16 underlying161 tj qP rJ rI rfl (by decide) (.slice oa k oc) k _ (by rfl) ((H2.o.row 1 rfl).alloc _) ⟨w2.heap.size,0,none⟩ 1 1 [.string (bs (tx k))] (by rfl) (by rfl) (World.news_of_block (cs:=#[.string (bs (tx k))]) (t:=9) (fr:=(0,0)) (aH _ _ _ (by simp))) (by simp[Value.oneCell']) (by omega) (by unfold maxLen;omega) (by omega) (by simp) (w2.heap.size+1) (by simp) ?_));intro g4 eJ w4 cq bC ga mY;have h8:=Sat.grow (m:=k+1) (H2.o.aU _) 1 rfl bC cq (by simpa using ga);have h9:=h8.cG (i:=1) rfl (Q:=ak.row 9 1 (.slice (some ⟨g4,0,none⟩) (k+1) eJ) (k+1) ((List.range (k+1)).map λi=>Value.string (bs (rz true bU.length kd tx i)))) (λ_ h=>kr (F:=rz true bU.length kd tx) (LQ.o.trans KM.o.symm) h);have H9:=qh h9;clear h8 h9 cq bC;go_wp2_with fail;go_roundw
    case rel=>exact⟨k+1,by go_num,by omega,H9.o⟩
    case measure=>simp[intOf];omega
   ·have LQ:=qh BH.symm;clear BH;go_wp2_with(at_builtin;go_loud(refine wpList_append_lies _ rfl (.tmp 50) (.tmp 52) 161 rfl 0 9 j0 _ 1 16 underlying161 tj qP rJ rI rfl (by decide) (.slice oa k oc) k _ (by rfl) ((H2.o.row 1 rfl).alloc _) ⟨w2.heap.size,0,none⟩ 1 1 [.string (bs (40:: (tx k++[41])))] (by rfl) (by rfl) (World.news_of_block (cs:=#[.string (bs (40:: (tx k++[41])))]) (t:=9) (fr:=(0,0)) (aH _ _ _ (by simp))) (by simp[Value.oneCell']) (by omega) (by unfold maxLen;omega) (by omega) (by simp) (w2.heap.size+1) (by simp) ?_));intro g4 eJ w4 cq bC ga mY;have h8:=Sat.grow (m:=k+1) (H2.o.aU _) 1 rfl bC cq (by simpa using ga);have h9:=h8.cG (i:=1) rfl (Q:=ak.row 9 1 (.slice (some ⟨g4,0,none⟩) (k+1) eJ) (k+1) ((List.range (k+1)).map λi=>Value.string (bs (rz true bU.length kd tx i)))) (λ_ h=>kr (F:=rz true bU.length kd tx) (LQ.o.trans KM.o.symm) h);have H9:=qh h9;clear h8 h9 cq bC;go_wp2_with fail;go_roundw
    case rel=>exact⟨k+1,by go_num,by omega,H9.o⟩
    case measure=>simp[intOf];omega
   ·have LQ:=qh BH.symm;clear BH;have k4:¬k<bU.length-1:=by omega
    go_wp2_with(at_builtin;go_loud(refine wpList_append_lies _ rfl (.tmp 50) (.tmp 52) 161 rfl 0 9 j0 _ 1 16 underlying161 tj qP rJ rI rfl (by decide) (.slice oa k oc) k _ (by rfl) ((H2.o.row 1 rfl).alloc _) ⟨w2.heap.size,0,none⟩ 1 1 [.string (bs (tx k))] (by rfl) (by rfl) (World.news_of_block (cs:=#[.string (bs (tx k))]) (t:=9) (fr:=(0,0)) (aH _ _ _ (by simp))) (by simp[Value.oneCell']) (by omega) (by unfold maxLen;omega) (by omega) (by simp) (w2.heap.size+1) (by simp) ?_));intro g4 eJ w4 cq bC ga mY;have h8:=Sat.grow (m:=k+1) (H2.o.aU _) 1 rfl bC cq (by simpa using ga);have h9:=h8.cG (i:=1) rfl (Q:=ak.row 9 1 (.slice (some ⟨g4,0,none⟩) (k+1) eJ) (k+1) ((List.range (k+1)).map λi=>Value.string (bs (rz true bU.length kd tx i)))) (λ_ h=>kr (F:=rz true bU.length kd tx) (LQ.o.trans KM.o.symm) h);have H9:=qh h9;clear h8 h9 cq bC;go_wp2_with fail;go_roundw
    case rel=>exact⟨k+1,by go_num,by omega,H9.o⟩
    case measure=>simp[intOf];omega
  ·have nn:k=bU.length:=by omega
   subst nn;have HJ:Hq (∀R:EW,(∀w',Below wr.heap.size wr w'→R (.returned (.string (bs (gY sep.data.toList ((List.range bU.length).map (rz un bU.length kd tx)))))) w')→Calls prog 183 #[.slice oa bU.length oc,.string sep] wr R):=by
    intro R2 yU;by_cases h0:bU.length=0
    ·rw[h0];refine(Tryz.strings_Join_none oa oc sep wr).mono ?_
     rintro e w' ⟨rfl,rfl⟩
     have:=yU w' (bR _ _);rw[h0]at this
     exact this
    ·have bJ:=hS.out.row 1 rfl;obtain⟨g3,c3,e3,adH,abV⟩:=bJ.form (by omega);have Ua:=World.ownsRow.cells (g:=g3) bJ (by rw[e3];rfl);have hcap:bU.length≤c3:=by
      rcases bJ.2 with⟨_,h⟩|⟨g',Ao,cur,e4,_,_,h,_⟩
      ·omega
      ·rw[e3]at e4;cases e4;exact h
     cases e3;have hx:=Tryz.strings_Join g3 0 oc ((List.range bU.length).map λi=>bs (rz un bU.length kd tx i)) sep wr (λj x hj=>?_) abV (by simp;omega) (by simpa using hcap) ?_
     ·rw[List.length_map,List.length_range]at hx
      refine hx.mono ?_
      rintro e w' ⟨rfl,hb⟩
      have:=yU w' hb;rw[o_,List.map_map];have e5: ((λx:BA=>x.data.toList)∘λi=>bs (rz un bU.length kd tx i))=rz un bU.length kd tx:=by
       funext i;exact EE _
      rw[e5];exact this
     ·have:=Ua j (.string x) (by rw[List.getElem?_map]at hj⊢;cases h: (List.range bU.length)[j]? with
       |none=>rw[h]at hj;cases hj
       |some a=>rw[h]at hj;cases hj;rfl)
      rwa [Addr.add_lit]at this
     ·rw[o_,List.map_map];have e5: ((λx:BA=>x.data.toList)∘λi=>bs (rz un bU.length kd tx i))=rz un bU.length kd tx:=by
       funext i;exact EE _
      rw[e5];have:=Lz.o;omega
   go_wp2_with fail;refine HJ.o _ (λw2 aI=>?_);have c8:=qh (hS.out.aW.trans (aI.mono hS.out.aW.size));clear aI;go_wp2_with fail;exact HR.o _ c8.o
end
theorem infoByte: (prog.info? 5).map (λi=>(i.zero,i.size,i.bytes))=some (some (.int .u8 0),1,1):=by kernel_rfl
theorem cellsByte:prog.cellsOf 5=1:=by kernel_rfl
section
variable {w0 w:World} {Fr:As} {wb:Nat} {nv tv:Value} {main:Int} {ind:Nat} {out:List UInt8}
end
end Go.Proofs.YtdlbhiaceheffabGreatDoor
