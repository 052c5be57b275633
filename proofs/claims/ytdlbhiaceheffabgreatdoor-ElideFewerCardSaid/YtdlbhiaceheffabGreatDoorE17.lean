/- Walks of types.Plain and types.Of. -/
import Derived.Deep.RegionHeld3
import Derived.Test.YtdlbhiaceheffabGreatDoorE15
import Derived.Test.YtdlbhiaceheffabGreatDoorE04
set_option linter.all false
set_option maxRecDepth 100000
set_option maxHeartbeats 2000000
namespace Go.Proofs.YtdlbhiaceheffabGreatDoor
open Go Go.RowKit Ty Tok Prt Tryz Proofs.Tryz
section
open Ty (Tr)
theorem lY(w:World)(k:Int){R:EW}(hR:R (.returned (.pointer (some ⟨w.heap.size,0,none⟩))) (w.alloc (.cells #[.int .i64 k,.slice none 0 0,.slice none 0 0,.pointer none] 219))):
  Calls prog 295 #[.int .i64 k] w R:=by
 have HR:=qh hR;clear hR;go_in;go_wp2_with fail;exact HR.o
theorem IX: (prog.info? 221).map (λi=>(i.zero,i.size,i.bytes))=some (some (.agg #[.string ⟨#[]⟩,.pointer none]),2,24):=by kernel_rfl
theorem pn: (prog.info? 107).map (λi=>(i.zero,i.size,i.bytes))=some (some (.pointer none),1,8):=by kernel_rfl
def KW(v:Value)(rows:List TyRow)(ts:List Ty.Ty)(n:Nat):Prop:=
 ∀(w:World),TyRd w v rows->∀R:EW,
  (∀p w',Sat w w' [bG w,qH p (Ty.den ts n)]->R (.returned p) w')->Calls prog 241 #[v,.int .i64 (n:Nat)] w R
theorem mY{ps:List Value}{l:List Tr}{p:Value}{t:Tr}{a:Prt.Hp}(h:ah [fs ps l,qH p t] a):fs (ps++[p]) (l++[t]) a:=by
 obtain⟨x,y,_,hx,hy,h1,z,u,_,hz,_,h2,_⟩:=h;exact lW (jg hx _ _ h1) (bN (Prt.le_trans hz hy) _ _ h2)
theorem vx{v:Value}{ns:List BA}{ps:List Value}{n:BA}{p:Value}{a:Prt.Hp}(hl:ns.length=ps.length)(h:Prt.row 221 2 v (ps.length+1) (cJ ns ps++[.string n,p]) a):Prt.row 221 2 v (ps++[p]).length (cJ (ns++[n]) (ps++[p])) a:=by
 rw[qw ns ps n p hl,List.length_append];exact h
theorem ja{v:Value}{ps:List Value}{p:Value}{a:Prt.Hp}(h:Prt.row 107 1 v (ps.length+1) (ps++[p]) a):Prt.row 107 1 v (ps++[p]).length (ps++[p]) a:=by
 rw[List.length_append];exact h
theorem yH{b:Nat}{kd:Nat}{pv lv ov:Value}{ps ls os:List Value}{names:List BA}{parts list of:List Tr}{a:Prt.Hp}(hn:names.length=ps.length)(ho:os=[]/\ov=.pointer none\/os=[ov])
  (h:ah [av b (.cells #[.int .i64 (kd:Nat),pv,lv,ov] 219 (0,0)),Prt.row 221 2 pv ps.length (cJ names ps),fs ps parts,Prt.row 107 1 lv ls.length ls,fs ls list,fs os of] a):qH (.pointer (some ⟨b,0,none⟩)) (.mk kd names parts list of) a:=by
 obtain⟨a1,r1,_,l1,m1,h1,a2,r2,_,l2,m2,h2,a3,r3,_,l3,m3,h3,a4,r4,_,l4,m4,h4,a5,r5,_,l5,m5,h5,a6,r6,_,l6,m6,h6,_⟩:=h;show rep a (.mk kd names parts list of) _;rw[rep];have k2:=Prt.le_trans l2 m1;have n2:=Prt.le_trans m2 m1;have k3:=Prt.le_trans l3 n2;have n3:=Prt.le_trans m3 n2;have k4:=Prt.le_trans l4 n3;have n4:=Prt.le_trans m4 n3;have k5:=Prt.le_trans l5 n4;have n5:=Prt.le_trans m5 n4;have k6:=Prt.le_trans l6 n5;exact⟨b,pv,lv,ov,ps,ls,os,rfl,l1 _ _ h1,iX h2 k2,hn,jg k3 _ _ h3,iX h4 k4,jg k5 _ _ h5,jg k6 _ _ h6,ho⟩
theorem Qf{w:World}{v:Value}{l:List (BA×Nat)}(h:w.ownsRow 0 141 2 v l.length (l.flatMap f_))(k:Nat)(hk:k<l.length):∃g cap:Nat,v=.slice (some ⟨g,0,none⟩) l.length cap/\g<w.heap.size/\w.cell? ⟨g,k*2,none⟩=some (.string l[k].1)/\w.cell? ⟨g,k*2+1,none⟩=some (.int .i64 (l[k].2:Nat)):=by
 obtain⟨g,cap,rfl,_,hg⟩:=h.form (by omega);have key:∀(l:List (BA×Nat))(k:Nat)(hk:k<l.length),(l.flatMap f_)[k*2]?=some (.string l[k].1)/\(l.flatMap f_)[k*2+1]?=some (.int .i64 (l[k].2:Nat)):=by
  intro l;induction l with
  |nil=>intro k hk;simp at hk
  |cons a l ih=>
   intro k hk;cases k with
   |zero=>simp[f_]
   |succ k=>
    have:=ih k (by simpa using hk);simp only[List.flatMap_cons,List.getElem_cons_succ];refine⟨?_,?_⟩
    ·rw[List.getElem?_append_right (by simp[f_];omega),show(k+1)*2-(f_ a).length=k*2 by simp[f_];omega];exact this.1
    ·rw[List.getElem?_append_right (by simp[f_];omega),show(k+1)*2+1-(f_ a).length=k*2+1 by simp[f_];omega];exact this.2
 obtain⟨k1,k2⟩:=key l k hk;refine⟨g,cap,rfl,hg,?_,?_⟩
 ·have:=World.ownsRow.cells h (g:=g) rfl _ _ k1;rwa [Addr.add_lit,Nat.zero_add]at this
 ·have:=World.ownsRow.cells h (g:=g) rfl _ _ k2;rwa [Addr.add_lit,Nat.zero_add]at this
theorem PN(v:Value)(rows:List TyRow)(ts:List Ty.Ty)(JQ:rows.map TyRow.t=ts)(hw:Wf ts)(hlen:ts.length<=300):∀N n,n<N->n<ts.length->KW v rows ts n:=by
 intro N;induction N with
 |zero=>intro n h;omega
 |succ N ih=>
  intro n hN hn w II R hR;have aah:rows.length=ts.length:=by rw[<-JQ];simp
  obtain⟨g,cap,rfl,hg,kK,Dt,Jy⟩:=II.at (by omega);obtain⟨q0,q1,q2,q3⟩:=Jy n (by omega);have Mx: (rows.map TyRow.t)[n]?=some rows[n].t:=by rw[List.getElem?_map,List.getElem?_eq_getElem (by omega)];rfl
  rw[JQ]at Mx
  have qF:=II.bits rows[n] (gM _);have oj:=hw n _ Mx;have PF:=yI hw Mx;have Wd:∀j,j<n->KW (.slice (some ⟨g,0,none⟩) rows.length cap) rows ts j:=λj hj=>ih j (by omega) (by omega)
  have HC:=qh Wd;have Sj:=qh II;generalize rows[n]=r at*
  obtain⟨⟨kd,fds,EO,of⟩,fv,lv⟩:=r;dsimp only at q0 q1 q2 q3 qF oj PF;obtain⟨cQ,aD⟩:=qF;obtain⟨fa,fc,rfl⟩:=ag cQ;obtain⟨la,lc,rfl⟩:=ag aD;have kH:=qh cQ;have c9:=qh aD;have Ez:=qh oj;have QH:=qh PF;have HR:=qh hR;have WN:rows.length<=300:=by omega
  have RE:n<rows.length:=by omega
  obtain⟨i0,ti,mM,mL,mK⟩:=info_parts IX;obtain⟨j0,tj,vI,vJ,vH⟩:=info_parts pn;clear ih Jy Mx oj PF Wd II hR cQ aD aah JQ hw;go_enter func241,ntmps241;go_wp2_with fail;have h1:=((Sat.fO w).aj (.cells #[.int .i64 kd,.slice fa fds.length fc,.slice la EO.length lc,.int .i64 of] 69) w.heap.size).aj (.cells #[.int .i64 (kd:Nat),.slice none 0 0,.slice none 0 0,.pointer none] 219) (w.heap.size+1);have h2:=(h1.nil 221 2).iA (P:=fs [] []) (λ_=>by show bz _ [] [];rw[bz]);have H2:=qh h2;clear h1 h2;refine lY _ kd ?_;go_wp2_with fail;have Oc:=Ez.o.lens.1;have oW:=Ez.o.lens.2;dsimp only at Oc oW;go_loopw [21] (λi wr=>∃(k:Nat)(pv:Value)(ps:List Value),i=.int .i64 k/\k<=fds.length/\ps.length<=k/\k<=ps.length/\Hq (Sat w wr [bG w,av w.heap.size (.cells #[.int .i64 kd,.slice fa fds.length fc,.slice la EO.length lc,.int .i64 of] 69 (0,0)),av (w.heap.size+1) (.cells #[.int .i64 (kd:Nat),pv,.slice none 0 0,.pointer none] 219 (0,0)),Prt.row 221 2 pv ps.length (cJ ((fds.take k).map Prod.fst) ps),fs ps ((fds.take k).map λf=>Ty.den ts f.2)]))
   (λi _=>fds.length-(intOf i).toNat)
  case atStart=>exact⟨0,.slice none 0 0,[],rfl,by omega,by simp,by simp,H2.o⟩
  case round=>
   obtain⟨k,pv,ps,rfl,hk,qK,pe,hS⟩:=hrel;obtain⟨pa,pc,rfl⟩:=ag (hS.out.row 3 rfl);by_cases a_:k<fds.length
   ·have hb:=hS.out.bD;obtain⟨gf,aaA,e,acW,d0,d1⟩:=Qf (ay kH.o hb) k a_;cases e;have QA:=Ez.o.fields fds[k] (gM _);have HT:=qh (List.take_succ_eq_append_getElem a_);have tZ:=(Sj.o.below hb).below (((bR wr.heap.size wr).alloc (nR _) (.cells #[.string fds[k].1,.int .i64 (fds[k].2:Nat)] 141)).drew);have GJ:=qh (HC.o fds[k].2 QA _ tZ);have h0:=(hS.out.aj (.cells #[.string fds[k].1,.int .i64 (fds[k].2:Nat)] 141) wr.heap.size)
    generalize fds[k]=fd at*
    obtain⟨nm,ix⟩:=fd;dsimp only at d0 d1 QA;have x1:=h0.cell 2 rfl 1 rfl;have y0:=h0.cell 5 rfl 0 rfl;have y1:=h0.cell 5 rfl 1 rfl;have H0:=qh h0.drew;clear hb tZ h0 hS;go_wp2_with fail;go_region_law(first|(go_simp;go_at_call 241;refine GJ.o _ (λp w2 h2=>?_);obtain⟨oX,rfl,_⟩:=fI (h2.tree 1 rfl);have h3:=H0.o.join h2;have x3:=h3.cell 2 rfl 1 rfl;have y3:=h3.cell 5 rfl 0 rfl;have QV:=h3.aW (.cells #[.string nm,.pointer (some ⟨oX,0,none⟩)] 221);have x4:=QV.cell 2 rfl 1 rfl;have y4:=QV.cell 5 rfl 0 rfl;have H3:=qh h3;clear h2 h3 QV)|(go_loud(refine step_append_lies _ (by rfl) _ _ _ (by rfl) 0 221 i0 _ 2 24 underlying217 ti mM mL mK rfl (by omega) (.slice pa ps.length pc) ps.length (cJ ((fds.take k).map Prod.fst) ps) (by rfl) ((H3.o.row 3 rfl).alloc _) ⟨w2.heap.size,0,none⟩ 1 1 [.string nm,.pointer (some ⟨oX,0,none⟩)] (by rfl) (by rfl) (World.news_of_block (cs:=#[.string nm,.pointer (some ⟨oX,0,none⟩)]) (t:=221) (fr:=(0,0)) (aR _ _ _ (by simp))) (by simp[Value.oneCell']) (by omega) (by unfold maxLen;omega) (by omega) (by simp) (w2.heap.size+1) (by simp) ?_);intro g4 iq w4 dE cO jY vy;have h4:=Sat.grow (H3.o.aW _) 3 rfl cO dE (by simpa using jY);have x5:=h4.cell 2 rfl 1 rfl;have f5:=h4.free 2 rfl 1;have H4:=qh h4;clear h4))
    all_goals
     clear dE cO;have Bf: ((fds.take k).map Prod.fst).length=ps.length:=by simp;omega
     have h5:=(H4.o.store 2 rfl 1 (.slice (some ⟨g4,0,none⟩) (ps.length+1) iq)).pick [0,1,2,3,4,6];have h6:=h5.cL (i:=3) rfl (Q:=Prt.row 221 2 (.slice (some ⟨g4,0,none⟩) (ps.length+1) iq) (ps++[Value.pointer (some ⟨oX,0,none⟩)]).length (cJ ((fds.take (k+1)).map Prod.fst) (ps++[Value.pointer (some ⟨oX,0,none⟩)]))) (λ_ h=>by rw[HT.o,List.map_append];exact vx Bf h);have h7:=Sat.pack (L:=[_,_,_,_]) (M:=[_,_]) h6;have h8:=h7.cL (i:=4) rfl (Q:=fs (ps++[Value.pointer (some ⟨oX,0,none⟩)]) ((fds.take (k+1)).map λf=>Ty.den ts f.2)) (λ_ h=>by rw[HT.o,List.map_append];exact mY h);have H8:=qh h8;clear h5 h6 h7 h8 Bf;go_wp2_with fail;go_roundw
     case rel=>exact⟨k+1,.slice (some ⟨g4,0,none⟩) (ps.length+1) iq,ps++[Value.pointer (some ⟨oX,0,none⟩)],by go_num,by omega,by simp;omega,by simp;omega,H8.o⟩
     case measure=>simp[intOf];omega
   ·have qI:k=fds.length:=by omega
    have h2:=(hS.out.nil 107 1).iA (P:=fs [] []) (λ_=>by show bz _ [] [];rw[bz]);rw[qI,List.take_length]at h2
    have Ru:Hq ((fds.map Prod.fst).length=ps.length):=by show _= _;simp;omega
    have H2:=qh h2;have x0:=h2.cell 1 rfl 2 rfl;clear h2 qI hS;go_wp2_with fail;go_loopw [45] (λi wr=>∃(j:Nat)(lv:Value)(ls:List Value),i=.int .i64 j/\j<=EO.length/\ls.length<=j/\j<=ls.length/\Hq (Sat w wr [bG w,av w.heap.size (.cells #[.int .i64 kd,.slice fa fds.length fc,.slice la EO.length lc,.int .i64 of] 69 (0,0)),av (w.heap.size+1) (.cells #[.int .i64 (kd:Nat),.slice pa ps.length pc,lv,.pointer none] 219 (0,0)),Prt.row 221 2 (.slice pa ps.length pc) ps.length (cJ (fds.map Prod.fst) ps),fs ps (fds.map λf=>Ty.den ts f.2),Prt.row 107 1 lv ls.length ls,fs ls ((EO.take j).map (Ty.den ts))]))
     (λi _=>EO.length-(intOf i).toNat)
    case atStart=>exact⟨0,.slice none 0 0,[],rfl,by omega,by simp,by simp,H2.o⟩
    case round=>
     obtain⟨j,lv,ls,rfl,hj,abn,sX,hS⟩:=hrel;obtain⟨qa,qc,rfl⟩:=ag (hS.out.row 5 rfl);by_cases a_:j<EO.length
     ·have hb:=hS.out.bD;obtain⟨gl,jB,e,ku,d0⟩:=ints_at (ay c9.o hb) j a_;cases e;have QA:=Ez.o.list EO[j] (gM _);have HT:=qh (List.take_succ_eq_append_getElem a_);have tZ:=(Sj.o.below hb).below ((bR wr.heap.size wr).drew);have GJ:=qh (HC.o EO[j] QA _ tZ);generalize EO[j]=ix at*
      have x1:=hS.out.cell 2 rfl 2 rfl;have H0:=qh hS.out.drew;clear hb tZ hS;go_wp2_with fail;go_region_law(first|(go_simp;go_at_call 241;refine GJ.o _ (λp w2 h2=>?_);obtain⟨oX,rfl,_⟩:=fI (h2.tree 1 rfl);have h3:=H0.o.join h2;have x3:=h3.cell 2 rfl 2 rfl;have QV:=h3.aW (.cells #[.pointer (some ⟨oX,0,none⟩)] 107);have x4:=QV.cell 2 rfl 2 rfl;have H3:=qh h3;clear h2 h3 QV)|(go_loud(refine step_append_lies _ (by rfl) _ _ _ (by rfl) 0 107 j0 _ 1 8 underlying104 tj vI vJ vH rfl (by omega) (.slice qa ls.length qc) ls.length ls (by rfl) ((H3.o.row 5 rfl).alloc _) ⟨w2.heap.size,0,none⟩ 1 1 [.pointer (some ⟨oX,0,none⟩)] (by rfl) (by rfl) (World.news_of_block (cs:=#[.pointer (some ⟨oX,0,none⟩)]) (t:=107) (fr:=(0,0)) (aR _ _ _ (by simp))) (by simp[Value.oneCell']) (by omega) (by unfold maxLen;omega) (by omega) (by simp) (w2.heap.size+1) (by simp) ?_);intro g4 iq w4 dE cO jY vy;have h4:=Sat.grow (H3.o.aW _) 5 rfl cO dE (by simpa using jY);have x5:=h4.cell 2 rfl 2 rfl;have f5:=h4.free 2 rfl 2;have H4:=qh h4;clear h4))
      all_goals
       clear dE cO;have h5:=(H4.o.store 2 rfl 2 (.slice (some ⟨g4,0,none⟩) (ls.length+1) iq))
       have h6:=h5.cL (i:=5) rfl (Q:=Prt.row 107 1 (.slice (some ⟨g4,0,none⟩) (ls.length+1) iq) (ls++[Value.pointer (some ⟨oX,0,none⟩)]).length (ls++[Value.pointer (some ⟨oX,0,none⟩)])) (λ_ h=>ja h);have h7:=Sat.pack (L:=[_,_,_,_,_,_]) (M:=[_,_]) h6;have h8:=h7.cL (i:=6) rfl (Q:=fs (ls++[Value.pointer (some ⟨oX,0,none⟩)]) ((EO.take (j+1)).map (Ty.den ts))) (λ_ h=>by rw[HT.o,List.map_append];exact mY h);have H8:=qh h8;clear h5 h6 h7 h8;go_wp2_with fail;go_roundw
       case rel=>exact⟨j+1,.slice (some ⟨g4,0,none⟩) (ls.length+1) iq,ls++[Value.pointer (some ⟨oX,0,none⟩)],by go_num,by omega,by simp;omega,by simp;omega,H8.o⟩
       case measure=>simp[intOf];omega
     ·have qI:j=EO.length:=by omega
      have h2:=hS.out;rw[qI,List.take_length]at h2
      have H2:=qh h2;have x0:=h2.cell 1 rfl 0 rfl;have x3:=h2.cell 1 rfl 3 rfl;have hb:=h2.bD;have tZ:=Sj.o.below hb;clear h2 qI hS;have Hb: ((kd:Int)==8)=true\/((kd:Int)==8)=false/\((kd:Int)==9)=true\/(((kd:Int)==8)=false/\((kd:Int)==9)=false)/\¬(kd=8\/kd=9):=by
       by_cases e8:kd=8
       ·left;simp[e8]
       ·by_cases e9:kd=9
        ·right;left;simp[e9]
        ·right;right;simp;omega
      rcases Hb with k8|⟨k8,k9⟩|⟨⟨k8,k9⟩,e_⟩
      ·have kI:kd=8\/kd=9:=.inl (by have:=beq_iff_eq.1 k8;omega);have GJ:=qh (HC.o of (Ez.o.of kI) wr tZ);have HK:=qh kI;clear kI hb tZ;go_wp2_with fail;refine GJ.o _ (λp w2 h3=>?_);obtain⟨oX,rfl,_⟩:=fI (h3.tree 1 rfl);have h4:=H2.o.join h3;have f4:=h4.free 2 rfl;have z4:=h4.cell 2 rfl 3 rfl;have H4:=qh h4;clear h3 h4;go_wp2_with fail;have h5:=(H4.o.store 2 rfl 3 (.pointer (some ⟨oX,0,none⟩))).cL (i:=7) rfl (Q:=fs [Value.pointer (some ⟨oX,0,none⟩)] [Ty.den ts of]) (λ_ h=>by show bz _ [_] [_];rw[bz];exact⟨_,[],rfl,h,by rw[bz]⟩);have h6:=Sat.pack (L:=[_]) (M:=[_,_,_,_,_,_]) (h5.pick [0,2,3,4,5,6,7]);refine HR.o _ _ (h6.cL (i:=1) rfl λ_ h=>?_);rw[QH.o,if_pos HK.o];exact yH Ru.out (.inr rfl) h
      ·have kI:kd=8\/kd=9:=.inr (by have:=beq_iff_eq.1 k9;omega);have GJ:=qh (HC.o of (Ez.o.of kI) wr tZ);have HK:=qh kI;clear kI hb tZ;go_wp2_with fail;refine GJ.o _ (λp w2 h3=>?_);obtain⟨oX,rfl,_⟩:=fI (h3.tree 1 rfl);have h4:=H2.o.join h3;have f4:=h4.free 2 rfl;have z4:=h4.cell 2 rfl 3 rfl;have H4:=qh h4;clear h3 h4;go_wp2_with fail;have h5:=(H4.o.store 2 rfl 3 (.pointer (some ⟨oX,0,none⟩))).cL (i:=7) rfl (Q:=fs [Value.pointer (some ⟨oX,0,none⟩)] [Ty.den ts of]) (λ_ h=>by show bz _ [_] [_];rw[bz];exact⟨_,[],rfl,h,by rw[bz]⟩);have h6:=Sat.pack (L:=[_]) (M:=[_,_,_,_,_,_]) (h5.pick [0,2,3,4,5,6,7]);refine HR.o _ _ (h6.cL (i:=1) rfl λ_ h=>?_);rw[QH.o,if_pos HK.o];exact yH Ru.out (.inr rfl) h
      ·have HK:=qh e_;clear hb tZ e_;go_wp2_with fail;have h5:=H2.o.iA (P:=fs [] []) (λ_=>by show bz _ [] [];rw[bz]);have h6:=Sat.pack (L:=[_]) (M:=[_,_,_,_,_,_]) (h5.pick [0,2,3,4,5,6,7]);refine HR.o _ _ (h6.cL (i:=1) rfl λ_ h=>?_);rw[QH.o,if_neg HK.o];exact yH Ru.out (.inl ⟨rfl,rfl⟩) h
theorem i'{w:World}{k:Nat}{names:List BA}{parts list of:List Tr}{p:Value}(h:rep (Prt.hp w) (.mk k names parts list of) p):
  ∃(b:Nat)(pv lv ov:Value)(ps ls os:List Value),p=.pointer (some ⟨b,0,none⟩)/\b<w.heap.size/\w.cell? ⟨b,0,none⟩=some (.int .i64 (k:Nat))/\w.cell? ⟨b,1,none⟩=some pv/\w.cell? ⟨b,2,none⟩=some lv/\w.cell? ⟨b,3,none⟩=some ov/\
   w.ownsRow 0 221 2 pv ps.length (cJ names ps)/\names.length=ps.length/\bz (Prt.hp w) parts ps/\w.ownsRow 0 107 1 lv ls.length ls/\bz (Prt.hp w) list ls/\bz (Prt.hp w) of os/\(os=[]/\ov=.pointer none\/os=[ov]):=by
 rw[rep]at h
 obtain⟨b,pv,lv,ov,ps,ls,os,h1,h2,h3,h4,h5,h6,h7,h8,h9⟩:=h;have hb:w.heap[b]?=some (.cells #[.int .i64 (k:Nat),pv,lv,ov] 219 (0,0)):=h2;exact⟨b,pv,lv,ov,ps,ls,os,h1,(Array.getElem?_eq_some_iff.1 hb).1,by rw[cell_of_block hb];rfl,by rw[cell_of_block hb];rfl,by rw[cell_of_block hb];rfl,by rw[cell_of_block hb];rfl,iv h3,h4,h5,iv h6,h7,h8,h9⟩
theorem fF{w:World}{v:Value}{ls:List Value}(h:w.ownsRow 0 107 1 v ls.length ls)(k:Nat)(hk:k<ls.length):∃g cap:Nat,v=.slice (some ⟨g,0,none⟩) ls.length cap/\g<w.heap.size/\w.cell? ⟨g,k,none⟩=some ls[k]:=by
 obtain⟨g,cap,rfl,_,hg⟩:=h.form (by omega);refine⟨g,cap,rfl,hg,?_⟩;have:=World.ownsRow.cells h (g:=g) rfl k ls[k] (by simp[hk]);rwa [Addr.add_lit,Nat.zero_add]at this
theorem PK:∀a b:Fin 128,bits BinOp.or IntKind.i64 ((a.1:Nat):Int) ((b.1:Nat):Int)=((a.1|||b.1:Nat):Int):=by decide+kernel
theorem O5(a b:Nat)(ha:a<128)(hb:b<128):bits BinOp.or IntKind.i64 (a:Int) (b:Int)=((a|||b:Nat):Int):=PK ⟨a,ha⟩ ⟨b,hb⟩
theorem Cn(w:World):∀(N:Nat)(t:Tr),sz t<N->dX t->∀p,rep (Prt.hp w) t p->∀R:EW,R (.returned (.int .i64 (Ty.tags t:Nat))) w->Calls prog 250 #[p] w R:=by
 intro N;induction N with
 |zero=>intro t h;omega
 |succ N ih=>
  intro t hN aH p mS R hR;obtain⟨k,names,parts,list,of⟩:=t;obtain⟨b,pv,lv,ov,ps,ls,os,rfl,hb,c0,c1,c2,c3,_,_,_,bm,yK,_⟩:=i' mS;rw[dX]at aH
  obtain⟨hk,_,_,_,_,_,hlen,_,GF,_⟩:=aH;rw[Ty.tags]at hR
  have hle:=cd yK;have HR:=qh hR;have du:=qh bm;obtain⟨la,lc,rfl⟩:=ag bm;have GJ:Hq (∀j(hj:j<list.length)(eF:j<ls.length),∀R:EW,R (.returned (.int .i64 (Ty.tags list[j]:Nat))) w->Calls prog 250 #[ls[j]] w R):=λj hj eF R hR=>
   ih list[j] (by have:=tJ (gM hj) k names parts of;omega) (fJ GF _ (gM hj)) ls[j] (dh yK j hj eF) R hR
  have aX:=qh GF;have oW:ls.length<=1000000:=by omega
  have zl:=qh hle;clear hR bm hN mS ih GF yK hle;by_cases Qy:k=10
  ·subst Qy;rw[if_pos rfl]at HR
   go_in;go_wp2_with fail;go_loop [3,17] (λv i=>∃j:Nat,j<=ls.length/\i=.int .i64 j/\v=.int .i64 (kj (list.take j):Nat)) (λ_ i=>ls.length-(intOf i).toNat)
   case atStart=>exact⟨0,by omega,rfl,by simp[kj]⟩
   case round=>
    obtain⟨j,hj,rfl,rfl⟩:=hrel;by_cases a_:j<ls.length
    ·obtain⟨gl,jB,e,ku,d0⟩:=fF du.o j a_;cases e;have eF:j<list.length:=by have:=zl.o;omega
     have HI:=qh (GJ.o j eF a_);have HT:=qh (List.take_succ_eq_append_getElem eF);have qO:=uq (list.take j) (vw λt ht=>fJ aX.o t (List.mem_of_mem_take ht));have CW:=zc list[j] (fJ aX.o _ (gM eF));have HS:=qh (C1 (list.take j) list[j]);generalize kj (list.take j)=ta at*
     generalize list[j]=tj at*
     generalize ls[j]=pj at*
     generalize Ty.tags tj=tb at*
     clear eF;go_wp2_with fail;refine HI.o _ ?_;go_wp2_with fail;go_round
     case rel=>exact⟨j+1,by omega,by go_num,by rw[HT.o,HS.o,O5 ta tb qO CW]⟩
     case measure=>simp[intOf];omega
    ·have gO:j=list.length:=by have:=zl.o;omega
     have HT:Hq (kj (list.take j)=kj list):=by rw[gO,List.take_length];rfl
     clear gO;go_wp2_with fail;exact jc HR.o (by rw[HT.o])
  ·rw[if_neg Qy]at HR
   have ab4:k=1\/k=2\/k=3\/k=4\/k=5\/k=6\/k=7\/k=8\/k=9:=by omega
   clear Qy;rcases ab4 with rfl|rfl|rfl|rfl|rfl|rfl|rfl|rfl|rfl;all_goals
    go_in;go_wp2_with fail;exact jc HR.o (congrArg (Value.int .i64) (by decide))
end
section
open Ty (Tr br bI bg)
theorem JI(w:World)(v:Value)(ls:List Value)(bm:w.ownsRow 0 107 1 v ls.length ls)(hl:ls.length<=1000000)(F:FuncId)(c:Value)(hc:∀(args:Array Value)(w:World),(callFunc F args).run prog w=.ok (.enter F args) w)
  (f:Nat->Bool) (hU:∀j(hj:j<ls.length) w1,Below w.heap.size w w1->∀R:EW,(∀w2,Below w1.heap.size w1 w2->R (.returned (.bool (f j))) w2)->Calls prog F #[ls[j],c] w1 R) {R:EW}
  (lZ:∀(r:Nat) w',Below w.heap.size w w'->br f ls.length=true->r<=1000000->R (.returned (.int .i64 r)) w') (e_:∀w',Below w.heap.size w w'->br f ls.length=false->R (.returned (.int .i64 (-1))) w'):
  Calls prog 326 #[v,.func (.func F) #[] #[c]] w R:=by
 have HY:=qh lZ;have wA:=qh e_;have HC:=qh hU;have du:=qh bm;obtain⟨la,lc,rfl⟩:=ag bm;clear lZ e_ hU bm;go_in;go_wp2_with fail;go_loopw [8] (λi wr=>∃k:Nat,k<=ls.length/\i=.int .i64 k/\Hq (Below w.heap.size w wr)/\Hq (∀j,j<k->f j=false)) (λi _=>ls.length-(intOf i).toNat)
 case atStart=>exact⟨0,by omega,rfl,bR _ _,λj hj=>by omega⟩
 case round=>
  obtain⟨k,hk,rfl,hb,hf⟩:=hrel;by_cases a_:k<ls.length
  ·obtain⟨gl,jB,e,ku,d0⟩:=fF (ay du.o hb.out) k a_;cases e;have HI:=qh (HC.o k a_ wr hb.out);have HT:=qh (λh:f k=true=>(bI (f:=f)).2 ⟨k,a_,h⟩);have HN:Hq (f k=false->∀j,j<k+1->f j=false):=λh j hj=>by
    by_cases Ih:j=k
    ·subst Ih;exact h
    ·exact hf.out j (by omega)
   generalize f k=fk at*
   generalize ls[k]=p at*
   go_wp2_with fail;refine HI.o _ (λw2 aD=>?_);have c9:=qh (hb.out.trans (aD.mono hb.out.size));clear aD;cases fk
   ·have IH:=qh (HN.o rfl);go_wp2_with fail;go_roundw
    case rel=>exact⟨k+1,by omega,by go_num,c9,IH⟩
    case measure=>simp[intOf];omega
   ·have Gl:=qh (HT.o rfl);go_wp2_with fail;exact HY.o k _ c9.o Gl.o (by omega)
  ·have qI:k=ls.length:=by omega
   have HN:Hq (br f ls.length=false):=bg.2 (by rw[<-qI];exact hf.out);clear qI;go_wp2_with fail;exact wA.o _ hb.out HN.o
theorem vb(w:World)(v:Value)(ls:List Value)(bm:w.ownsRow 0 107 1 v ls.length ls)(hl:ls.length<=1000000)(F:FuncId)(c:Value)(hc:∀(args:Array Value)(w:World),(callFunc F args).run prog w=.ok (.enter F args) w)
  (f:Nat->Bool) (hU:∀j(hj:j<ls.length) w1,Below w.heap.size w w1->∀R:EW,(∀w2,Below w1.heap.size w1 w2->R (.returned (.bool (f j))) w2)->Calls prog F #[ls[j],c] w1 R) {R:EW}
  (hR:∀w',Below w.heap.size w w'->R (.returned (.bool (br f ls.length))) w'):
  Calls prog 299 #[v,.func (.func F) #[] #[c]] w R:=by
 have HR:=qh hR;clear hR;have HX:=qh (λR h1 h2=>@JI w v ls bm hl F c hc f hU R h1 h2);clear hU bm;go_in;go_wp2_with fail;refine HX.o _ (λr w1 hb ha hr=>?_) (λw1 hb ha=>?_)
 ·rw[ha]at HR
  have HB:=qh hb;clear ha hb;go_wp2_with fail;exact HR.o _ HB.o
 ·rw[ha]at HR
  have HB:=qh hb;clear ha hb;go_wp2_with fail;exact HR.o _ HB.o
theorem Ea:∀(ns:List BA)(ps:List Value)(k:Nat)(h1:k<ns.length)(h2:k<ps.length),(cJ ns ps)[k*2]?=some (.string ns[k])/\(cJ ns ps)[k*2+1]?=some ps[k]
 |[],_,k,h1,_=>by simp at h1
 | _:: _,[],k,_,h2=>by simp at h2
 |n::ns,p::ps,0,_,_=>by simp[cJ]
 |n::ns,p::ps,k+1,h1,h2=>by
  have:=Ea ns ps k (by simpa using h1) (by simpa using h2);simp only[cJ,List.getElem_cons_succ];rw[show(k+1)*2=k*2+1+1 by omega,show k*2+1+1+1=(k*2+1)+1+1 by omega]
  simpa using this
theorem yV{w:World}{v:Value}{ns:List BA}{ps:List Value}(h:w.ownsRow 0 221 2 v ps.length (cJ ns ps))(hn:ns.length=ps.length)(k:Nat)(hk:k<ps.length):∃g cap:Nat,v=.slice (some ⟨g,0,none⟩) ps.length cap/\g<w.heap.size/\w.cell? ⟨g,k*2,none⟩=some (.string (ns[k]'(by omega)))/\w.cell? ⟨g,k*2+1,none⟩=some ps[k]:=by
 obtain⟨g,cap,rfl,_,hg⟩:=h.form (by omega);obtain⟨k1,k2⟩:=Ea ns ps k (by omega) hk;refine⟨g,cap,rfl,hg,?_,?_⟩
 ·have:=World.ownsRow.cells h (g:=g) rfl _ _ k1;rwa [Addr.add_lit,Nat.zero_add]at this
 ·have:=World.ownsRow.cells h (g:=g) rfl _ _ k2;rwa [Addr.add_lit,Nat.zero_add]at this
theorem JV(w:World)(v:Value)(ns:List BA)(ps:List Value)(bm:w.ownsRow 0 221 2 v ps.length (cJ ns ps))(hn:ns.length=ps.length)(hl:ps.length<=1000000)(F:FuncId)(c:Value)(hc:∀(args:Array Value)(w:World),(callFunc F args).run prog w=.ok (.enter F args) w)
  (f:Nat->Bool) (hU:∀j(hj:j<ps.length) w1,Below w.heap.size w w1->∀R:EW,(∀w2,Below w1.heap.size w1 w2->R (.returned (.bool (f j))) w2)->Calls prog F #[.agg #[.string (ns[j]'(by omega)),ps[j]],c] w1 R) {R:EW}
  (lZ:∀(r:Nat) w',Below w.heap.size w w'->br f ps.length=true->r<=1000000->R (.returned (.int .i64 r)) w') (e_:∀w',Below w.heap.size w w'->br f ps.length=false->R (.returned (.int .i64 (-1))) w'):
  Calls prog 327 #[v,.func (.func F) #[] #[c]] w R:=by
 have HY:=qh lZ;have wA:=qh e_;have HC:=qh hU;have du:=qh bm;have vK:=qh hn;obtain⟨la,lc,rfl⟩:=ag bm;clear lZ e_ hU bm;go_in;go_wp2_with fail;go_loopw [8] (λi wr=>∃k:Nat,k<=ps.length/\i=.int .i64 k/\Hq (Below w.heap.size w wr)/\Hq (∀j,j<k->f j=false)) (λi _=>ps.length-(intOf i).toNat)
 case atStart=>exact⟨0,by omega,rfl,bR _ _,λj hj=>by omega⟩
 case round=>
  obtain⟨k,hk,rfl,hb,hf⟩:=hrel;by_cases a_:k<ps.length
  ·obtain⟨gl,jB,e,ku,d0,d1⟩:=yV (ay du.o hb.out) vK.o k a_;cases e;have HI:=qh (HC.o k a_ wr hb.out);have HT:=qh (λh:f k=true=>(bI (f:=f)).2 ⟨k,a_,h⟩);have HN:Hq (f k=false->∀j,j<k+1->f j=false):=λh j hj=>by
    by_cases Ih:j=k
    ·subst Ih;exact h
    ·exact hf.out j (by omega)
   generalize f k=fk at*
   generalize ps[k]=p at*
   have k_:k<ns.length:=by have:=vK.o;omega
   obtain⟨nm,sO⟩:∃x,x=ns[k]'k_:=⟨_,rfl⟩
   rw[<-sO]at d0 HI
   clear sO HC hn;go_wp2_with fail;refine HI.o _ (λw2 aD=>?_);have c9:=qh (hb.out.trans (aD.mono hb.out.size));clear aD;cases fk
   ·have IH:=qh (HN.o rfl);go_wp2_with fail;go_roundw
    case rel=>exact⟨k+1,by omega,by go_num,c9,IH⟩
    case measure=>simp[intOf];omega
   ·have Gl:=qh (HT.o rfl);go_wp2_with fail;exact HY.o k _ c9.o Gl.o (by omega)
  ·have qI:k=ps.length:=by omega
   have HN:Hq (br f ps.length=false):=bg.2 (by rw[<-qI];exact hf.out);clear qI;go_wp2_with fail;exact wA.o _ hb.out HN.o
theorem JP(w:World)(v:Value)(ns:List BA)(ps:List Value)(bm:w.ownsRow 0 221 2 v ps.length (cJ ns ps))(hn:ns.length=ps.length)(hl:ps.length<=1000000)(F:FuncId)(c:Value)(hc:∀(args:Array Value)(w:World),(callFunc F args).run prog w=.ok (.enter F args) w)
  (f:Nat->Bool) (hU:∀j(hj:j<ps.length) w1,Below w.heap.size w w1->∀R:EW,(∀w2,Below w1.heap.size w1 w2->R (.returned (.bool (f j))) w2)->Calls prog F #[.agg #[.string (ns[j]'(by omega)),ps[j]],c] w1 R) {R:EW}
  (hR:∀w',Below w.heap.size w w'->R (.returned (.bool (br f ps.length))) w'):
  Calls prog 305 #[v,.func (.func F) #[] #[c]] w R:=by
 have HR:=qh hR;clear hR;have HX:=qh (λR h1 h2=>@JV w v ns ps bm hn hl F c hc f hU R h1 h2);clear hU bm;go_in;go_wp2_with fail;refine HX.o _ (λr w1 hb ha hr=>?_) (λw1 hb ha=>?_)
 ·rw[ha]at HR
  have HB:=qh hb;clear ha hb;go_wp2_with fail;exact HR.o _ HB.o
 ·rw[ha]at HR
  have HB:=qh hb;clear ha hb;go_wp2_with fail;exact HR.o _ HB.o
theorem Ag{h:Prt.Hp}(x:BA):∀{parts:List Tr}{ps:List Value}(names:List BA),bz h parts ps->match Ty.part names parts x with
  |none=>Ty.part names ps x=none
  |some t=>∃q,Ty.part names ps x=some q/\rep h t q
 |[],ps,names,hr=>by
  rw[bz]at hr;subst hr
  cases names<;>rfl
 |t::parts,ps,[],hr=>by
  rw[bz]at hr
  obtain⟨p,CD,rfl,h1,h2⟩:=hr;rfl
 |t::parts,ps,n::names,hr=>by
  rw[bz]at hr
  obtain⟨p,CD,rfl,h1,h2⟩:=hr;rw[Ty.part,Ty.part];by_cases pJ:n=x
  ·rw[if_pos pJ,if_pos pJ];exact⟨p,rfl,h1⟩
  ·rw[if_neg pJ,if_neg pJ];exact Ag x names h2
theorem Gs{α:Type}(names:List BA)(l:List α)(x:BA)(k:Nat)(h1:k<names.length)(h2:k<l.length):Ty.part (names.drop k) (l.drop k) x=if names[k]=x then some l[k]else Ty.part (names.drop (k+1)) (l.drop (k+1)) x:=by
 rw[List.drop_eq_getElem_cons h1,List.drop_eq_getElem_cons h2,Ty.part]
theorem mB{w:World}{h0:Prt.Hp}(hle:Prt.le h0 (Prt.hp w)){k:Nat}{names:List BA}{parts list of:List Tr}{p:Value}(h:rep h0 (.mk k names parts list of) p):
  ∃(b:Nat)(pv lv ov:Value)(ps ls os:List Value),p=.pointer (some ⟨b,0,none⟩)/\b<w.heap.size/\w.cell? ⟨b,0,none⟩=some (.int .i64 (k:Nat))/\w.cell? ⟨b,1,none⟩=some pv/\w.cell? ⟨b,2,none⟩=some lv/\w.cell? ⟨b,3,none⟩=some ov/\
   w.ownsRow 0 221 2 pv ps.length (cJ names ps)/\names.length=ps.length/\bz h0 parts ps/\w.ownsRow 0 107 1 lv ls.length ls/\bz h0 list ls/\bz h0 of os/\(os=[]/\ov=.pointer none\/os=[ov]):=by
 rw[rep]at h
 obtain⟨b,pv,lv,ov,ps,ls,os,h1,h2,h3,h4,h5,h6,h7,h8,h9⟩:=h;have hb:w.heap[b]?=some (.cells #[.int .i64 (k:Nat),pv,lv,ov] 219 (0,0)):=hle _ _ h2;exact⟨b,pv,lv,ov,ps,ls,os,h1,(Array.getElem?_eq_some_iff.1 hb).1,by rw[cell_of_block hb];rfl,by rw[cell_of_block hb];rfl,by rw[cell_of_block hb];rfl,by rw[cell_of_block hb];rfl,iv (iX h3 hle),h4,h5,iv (iX h6 hle),h7,h8,h9⟩
theorem ry(w0 w:World){h0:Prt.Hp}(vY:Prt.le h0 (Prt.hp w0))(uC:Below w0.heap.size w0 w)(t:Tr)(p:Value)(mS:rep h0 t p)(aH:dX t)(x:BA){R:EW}
  (hR:∀q w',Below w.heap.size w w'->(match t with| .mk _ names parts _ _=>match Ty.part names parts x with|none=>q=.pointer none|some u=>rep h0 u q)->R (.returned q) w'):
  Calls prog 297 #[p,.string x] w R:=by
 obtain⟨k,names,parts,list,of⟩:=t;obtain⟨b,pv,lv,ov,ps,ls,os,rfl,hb,c0,c1,c2,c3,bm,hn,kM,_⟩:=mB vY mS;have hlen:=cd kM;replace c0:=(uC.cell (p:=⟨b,0,none⟩) hb).trans c0;replace c1:=(uC.cell (p:=⟨b,1,none⟩) hb).trans c1;replace c2:=(uC.cell (p:=⟨b,2,none⟩) hb).trans c2;replace c3:=(uC.cell (p:=⟨b,3,none⟩) hb).trans c3;replace hb:b<w.heap.size:=nL hb uC.size;replace bm:=ay bm uC;clear uC vY;rw[dX]at aH
 have cu:ps.length<=1000000:=by have:=aH.2.2.2.2.2.2.1.1;omega
 obtain⟨la,lc,rfl⟩:=ag bm;have du:=qh bm;have vK:=qh hn;have uY:Hq (∀j(hj:j<ps.length),∃pb,ps[j]=.pointer (some ⟨pb,0,none⟩)):=λj hj=>by
  obtain⟨pb,e,_⟩:=fI (dh kM j (by omega) hj);exact⟨pb,e⟩
 have Um:=qh (λq w'(hb:Below w.heap.size w w')(h: (match Ty.part names ps x with|none=>q=.pointer none|some u=>q=u))=>hR q w' hb (by
  have h2:=Ag x names kM;dsimp only;cases hp:Ty.part names parts x with
  |none=>rw[hp]at h2;rw[h2]at h;exact h
  |some u=>
   rw[hp]at h2
   obtain⟨q',h3,h4⟩:=h2;rw[h3]at h
   dsimp only at h⊢;rw[h];exact h4))
 clear hR bm mS aH kM hlen;go_in;go_wp2_with fail;go_loopw [12] (λi wr=>∃k:Nat,k<=ps.length/\i=.int .i64 k/\Hq (Below w.heap.size w wr)/\Hq (Ty.part names ps x=Ty.part (names.drop k) (ps.drop k) x)) (λi _=>ps.length-(intOf i).toNat)
 case atStart=>exact⟨0,by omega,rfl,bR _ _,rfl⟩
 case round=>
  obtain⟨k,hk,rfl,hb,hE⟩:=hrel;by_cases a_:k<ps.length
  ·obtain⟨gl,jB,e,ku,d0,d1⟩:=yV (ay du.o hb.out) vK.o k a_;cases e;have k_:k<names.length:=by have:=vK.o;omega
   have fR:Hq (Ty.part names ps x=if names[k]=x then some ps[k]else Ty.part (names.drop (k+1)) (ps.drop (k+1)) x):=by show _= _;rw[hE.out,Gs names ps x k k_ a_]
   obtain⟨pb,jJ⟩:=uY.o k a_;rw[jJ]at d1 fR
   clear jJ;generalize names[k]=nm at*
   clear hn;go_wp2_with fail
   ·have h: (nm.toList==x.toList)=true:=by assumption
    refine Um.o _ _ (hb.out.trans ((bR wr.heap.size wr).alloc (nR _) _|>.mono hb.out.size)) ?_;rw[fR.o,if_pos ((xq _ _).1 h)];rfl
   ·have h: (nm.toList==x.toList)=false:=by assumption
    have jl:Hq (Ty.part names ps x=Ty.part (names.drop (k+1)) (ps.drop (k+1)) x):=by show _= _;rw[fR.o,if_neg (IP _ _ h)]
    go_roundw
    case rel=>exact⟨k+1,by omega,by go_num,hb.out.trans ((bR wr.heap.size wr).alloc (nR _) _|>.mono hb.out.size),jl⟩
    case measure=>simp[intOf];omega
  ·have fR:Hq (Ty.part names ps x=none):=by show _= _;rw[hE.out,List.drop_eq_nil_of_le (by omega:ps.length<=k)];cases names.drop k<;>rfl
   go_wp2_with fail;refine Um.o _ _ hb.out ?_;rw[fR.o];rfl
theorem AR(w0 w:World)(uC:Below w0.heap.size w0 w)(t:Tr)(p:Value)(mS:rep (Prt.hp w0) t p)(aH:dX t)(x:BA){R:EW}
  (hR:∀q w',Below w.heap.size w w'->(match t with| .mk _ names parts _ _=>match Ty.part names parts x with|none=>q=.pointer none|some u=>rep (Prt.hp w0) u q)->R (.returned q) w'):
  Calls prog 297 #[p,.string x] w R:=
 ry w0 w (Prt.le_refl _) uC t p mS aH x hR
theorem Ak(w:World)(v1 v2:Value)(l1 l2:List Value)(h1:w.ownsRow 0 107 1 v1 l1.length l1)(h2:w.ownsRow 0 107 1 v2 l2.length l2)(hl:l1.length<=1000000)(F:FuncId)(hc:∀(args:Array Value)(w:World),(callFunc F args).run prog w=.ok (.enter F args) w)
  (f:Nat->Bool) (hU:∀j(hj:j<l1.length)(eF:j<l2.length) w1,Below w.heap.size w w1->∀R:EW,(∀w2,Below w1.heap.size w1 w2->R (.returned (.bool (f j))) w2)->Calls prog F #[l1[j],l2[j]] w1 R) {R:EW}
  (hR:∀w',Below w.heap.size w w'->R (.returned (.bool (decide (l1.length=l2.length)&&!br (λj=>!f j) l1.length))) w'):
  Calls prog 308 #[v1,v2,.func (.func F) #[] #[]] w R:=by
 have HR:=qh hR;have HC:=qh hU;have H1:=qh h1;have H2:=qh h2;obtain⟨a1,c1,rfl⟩:=ag h1;obtain⟨a2,c2,rfl⟩:=ag h2;clear hR hU h1 h2;by_cases bT:l1.length=l2.length
 ·have k1: ((l1.length:Int) !=l2.length)=false:=by simp[bT]
  have jT:=qh bT;rw[decide_eq_true bT,Bool.true_and]at HR
  clear bT;go_in;go_wp2_with fail;go_loopw [15] (λi wr=>∃k:Nat,k<=l1.length/\i=.int .i64 k/\Hq (Below w.heap.size w wr)/\Hq (∀j,j<k->f j=true)) (λi _=>l1.length-(intOf i).toNat)
  case atStart=>exact⟨0,by omega,rfl,bR _ _,λj hj=>by omega⟩
  case round=>
   obtain⟨k,hk,rfl,hb,hf⟩:=hrel;by_cases a_:k<l1.length
   ·have kP:k<l2.length:=by have:=jT.o;omega
    obtain⟨g1,Xy,e,R7,d1⟩:=fF (ay H1.o hb.out) k a_;cases e;obtain⟨g2,sY,e,Dj,d2⟩:=fF (ay H2.o hb.out) k kP;cases e;have HI:=qh (HC.o k a_ kP wr.drew (hb.out.drew));have HT:Hq (f k=false->br (λj=>!f j) l1.length=true):=λh=>bI.2 ⟨k,a_,by simp[h]⟩
    have HN:Hq (f k=true->∀j,j<k+1->f j=true):=λh j hj=>by
     by_cases Ih:j=k
     ·subst Ih;exact h
     ·exact hf.out j (by omega)
    generalize f k=fk at*
    generalize l1[k]=p1 at*
    generalize l2[k]=p2 at*
    go_wp2_with fail;go_region_law(first|(go_simp;refine HI.o _ (λw2 aD=>?_);have c9:=qh ((hb.out.drew).trans (aD.mono (by have:=hb.out.size;simp;omega)));clear aD))
    all_goals
     cases fk
     ·have Gl:=qh (HT.o rfl);rw[Gl.o]at HR
      go_wp2_with fail;exact HR.o _ c9.o
     ·have IH:=qh (HN.o rfl);go_wp2_with fail;go_roundw
      case rel=>exact⟨k+1,by omega,by go_num,c9,IH⟩
      case measure=>simp[intOf];omega
   ·have qI:k=l1.length:=by omega
    have HN:Hq (br (λj=>!f j) l1.length=false):=bg.2 (λj hj=>by rw[hf.out j (by omega)];rfl);rw[HN.o]at HR
    clear qI;go_wp2_with fail;exact HR.o _ hb.out
 ·have k1: ((l1.length:Int) !=l2.length)=true:=by simp;omega
  rw[decide_eq_false bT,Bool.false_and]at HR
  clear bT;go_in;go_wp2_with fail;exact HR.o _ (bR _ _)
theorem Fl{w:World}{B:Nat}{e:TypeId}{a:Option Addr}{n m cap:Nat}{xs:List Value}(h:w.ownsRow B e 1 (.slice a m cap) m xs)(hn:n<=m):w.ownsRow B e 1 (.slice a n cap) n (xs.take n):=by
 obtain⟨h1,h2⟩:=h;refine⟨by simp;omega,?_⟩;rcases h2 with⟨h2,h3⟩|⟨g,DK,cur,h2,h3,h4,h5,h6,h7,h8⟩
 ·cases h2;obtain rfl:n=0:=by omega
  exact .inl ⟨rfl,rfl⟩
 ·cases h2;exact .inr ⟨g,cap,cur,rfl,h3,h4,by omega,h6,h7,by rw[<-h8,List.take_take];congr 1;omega⟩
def oQ(p q:Value)(w:World)(r:Bool):Prop:=∀w1,Below w.heap.size w w1->∀R:EW,(∀w2,Below w1.heap.size w1 w2->R (.returned (.bool r)) w2)->Calls prog 249 #[p,q] w1 R
theorem KS(w w1:World)(bb:Nat)(x q:Value)(r:Bool)(hq:w1.cell? ⟨bb,0,none⟩=some q)(hf:oQ x q w r)(hb:Below w.heap.size w w1){R:EW}(hR:∀w2,Below w1.heap.size w1 w2->R (.returned (.bool (!r))) w2):
  Calls prog 303 #[x,.pointer (some ⟨bb,0,none⟩)] w1 R:=by
 have HR:=qh hR;have HF:=qh (hf w1 hb);clear hR hf hb;go_in;go_wp2_with fail;refine HF.o _ (λw2 aD=>?_);have HB:=qh aD;clear aD;go_wp2_with fail;exact HR.o _ HB.o
theorem J0(w w1:World)(bb:Nat)(x q:Value)(r:Bool)(hq:w1.cell? ⟨bb,0,none⟩=some q)(hf:oQ q x w r)(hb:Below w.heap.size w w1){R:EW}(hR:∀w2,Below w1.heap.size w1 w2->R (.returned (.bool r)) w2):
  Calls prog 304 #[x,.pointer (some ⟨bb,0,none⟩)] w1 R:=by
 have HR:=qh hR;have HF:=qh (hf w1 hb);clear hR hf hb;go_in;go_wp2_with fail;refine HF.o _ (λw2 aD=>?_);have HB:=qh aD;clear aD;go_wp2_with fail;exact HR.o _ HB.o
theorem Jz(w w1:World)(x y:Value)(r1 r2:Bool)(h1:oQ x y w r1)(h2:oQ y x w r2)(hb:Below w.heap.size w w1){R:EW}(hR:∀w2,Below w1.heap.size w1 w2->R (.returned (.bool (r1||r2))) w2):
  Calls prog 307 #[x,y] w1 R:=by
 have HR:=qh hR;have HF:=qh (h1 w1 hb);have HG:=qh (λw2(aD:Below w1.heap.size w1 w2)=>h2 w2 (hb.trans (aD.mono hb.size)));clear hR h1 h2 hb;go_in;go_wp2_with fail;refine HF.o _ (λw2 aD=>?_);have HB:=qh aD;cases r1
 ·clear aD;go_wp2_with fail;refine HG.o _ HB.o _ (λw3 dF=>?_);have cU:=qh (HB.o.trans (dF.mono HB.o.size));clear dF;go_wp2_with fail;exact HR.o _ cU.o
 ·clear aD;go_wp2_with fail;exact HR.o _ HB.o
theorem Ip(w w1:World)(bb:Nat)(t:Tr)(p:Value)(nm:BA)(pq:Nat)(r:Tr->Bool)(hq:w1.cell? ⟨bb,0,none⟩=some p)(gQ:bb<w1.heap.size)(mS:rep (Prt.hp w) t p)(aH:dX t)(hf:∀u q,Ty.part (bY t) (Ty.partsOf t) nm=some u->rep (Prt.hp w) u q->oQ q (.pointer (some ⟨pq,0,none⟩)) w (r u))(hb:Below w.heap.size w w1){R:EW}
  (hR:∀w2,Below w1.heap.size w1 w2->R (.returned (.bool (match Ty.part (bY t) (Ty.partsOf t) nm with|none=>true|some u=>!r u))) w2):
  Calls prog 306 #[.agg #[.string nm,.pointer (some ⟨pq,0,none⟩)],.pointer (some ⟨bb,0,none⟩)] w1 R:=by
 have HR:=qh hR;have HF:=qh hf;have HB:=qh hb;have cQ:=hb.trans ((bR w1.heap.size w1).alloc (nR _) (.cells #[.string nm,.pointer (some ⟨pq,0,none⟩)] 221)|>.mono hb.size);have kH:=qh cQ;have Pd:=qh mS;have aX:=qh aH;obtain⟨k,names,parts,list,of⟩:=t;have hz:=hb.size;clear hR hf hb cQ mS aH;go_in;go_wp2_with fail;refine AR w _ kH.o _ p Pd.o aX.o nm (λq w2 aD sX=>?_);dsimp only[bY,Ty.partsOf]at HR HF sX;have d0:w2.cell? ⟨w1.heap.size,1,none⟩=some (.pointer (some ⟨pq,0,none⟩)):=by
  rw[aD.cell (p:=⟨w1.heap.size,1,none⟩) (by simp),cell_of_block (heap_alloc_new w1 _)];rfl
 have dF:Below w1.heap.size w1 w2:=((bR w1.heap.size w1).alloc (nR _) _).trans (aD.mono (by simp));have cU:=qh dF;cases hp:Ty.part names parts nm with
 |none=>
  rw[hp]at sX HR
  dsimp only at sX HR;subst sX;clear aD dF hp;go_wp2_with fail;exact HR.o _ cU.o
 |some u=>
  rw[hp]at sX HR
  dsimp only at sX HR;obtain⟨pu,rfl,_⟩:=fI sX;have vR:=kH.o.trans (aD.mono (by simp;omega))
  --the part's tree was there ahead of the call
  have hold:=sX;have HC:=qh (HF.o u _ hp hold w2 vR);clear aD dF hp vR hold sX;go_wp2_with fail;refine HC.o _ (λw5 dM=>?_);have kt:=qh (cU.o.trans (dM.mono cU.o.size));clear dM;go_wp2_with fail;exact HR.o _ kt.o
theorem bL(w:World)(x y:Obj):Below w.heap.size w ((w.alloc x).alloc y):=((bR w.heap.size w).alloc (nR _) x).alloc (by simp) y
abbrev vk(p q:Value)(w:World)(R:EW):Prop:=Calls prog 249 #[p,q] w R
def ng(w:World)(r:Bool)(R:EW):Prop:=∀w',Below w.heap.size w w'->R (.returned (.bool r)) w'
def cY(w:World)(b k:Nat):Prop:=b<w.heap.size/\w.cell? ⟨b,0,none⟩=some (.int .i64 (k:Nat))
theorem int_ne{a b:Nat}(h:a≠b): ((a:Int)==(b:Int))=false:=by simp;omega
theorem MQ(w:World)(ba bb ka kb:Nat)(hA:cY w ba ka)(hB:cY w bb kb)(h:ka=5\/kb=5\/kb=6){R:EW}(hR:ng w true R):
  vk (.pointer (some ⟨ba,0,none⟩)) (.pointer (some ⟨bb,0,none⟩)) w R:=by
 have HR:=qh hR;obtain⟨vX,c0⟩:=hA;obtain⟨gQ,e0⟩:=hB;clear hR;by_cases h1:ka=5
 ·subst h1;clear h;go_enter func249,ntmps249;go_wp2_with fail;exact HR.o _ (bL w _ _)
 ·have n1: ((ka:Int)==5)=false:=int_ne h1;by_cases h2:kb=5
  ·subst h2;clear h h1;go_enter func249,ntmps249;go_wp2_with fail;exact HR.o _ (bL w _ _)
  ·obtain rfl:kb=6:=by omega
   clear h h1 h2;go_enter func249,ntmps249;go_wp2_with fail;exact HR.o _ (bL w _ _)
theorem QN(w:World)(ba bb kb:Nat)(hA:cY w ba 10)(hB:cY w bb kb)(h5:kb≠5)(h6:kb≠6)(lv:Value)(c2:w.cell? ⟨ba,2,none⟩=some lv)(r:Bool)
  (hx:∀w2,w2.cell? ⟨w.heap.size+1,0,none⟩=some (.pointer (some ⟨bb,0,none⟩))->Below w.heap.size w w2->∀R:EW,(∀w',Below w2.heap.size w2 w'->R (.returned (.bool r)) w')->Calls prog 299 #[lv,.func (.func 303) #[] #[.pointer (some ⟨w.heap.size+1,0,none⟩)]] w2 R)
  {R:EW} (hR:ng w (!r) R):
  vk (.pointer (some ⟨ba,0,none⟩)) (.pointer (some ⟨bb,0,none⟩)) w R:=by
 have HR:=qh hR;have HX:=qh hx;obtain⟨vX,c0⟩:=hA;obtain⟨gQ,e0⟩:=hB;have n1: ((kb:Int)==5)=false:=int_ne h5;have n2: ((kb:Int)==6)=false:=int_ne h6;clear hR hx h5 h6;go_enter func249,ntmps249;go_wp2_with fail;refine HX.o _ (by rw[cell_of_block (aR _ _ _ (by simp))];rfl) (bL w _ _) _ (λw3 dF=>?_);have HB:=qh ((bL w _ _).trans (dF.mono (by simp;omega)));clear dF;go_wp2_with fail;exact HR.o _ HB.o
theorem Qr(w:World)(ba bb ka:Nat)(hA:cY w ba ka)(hB:cY w bb 10)(h5:ka≠5)(dG:ka≠10)(lv:Value)(c2:w.cell? ⟨bb,2,none⟩=some lv)(r:Bool)
  (hx:∀w2,w2.cell? ⟨w.heap.size,0,none⟩=some (.pointer (some ⟨ba,0,none⟩))->Below w.heap.size w w2->∀R:EW,(∀w',Below w2.heap.size w2 w'->R (.returned (.bool r)) w')->Calls prog 299 #[lv,.func (.func 304) #[] #[.pointer (some ⟨w.heap.size,0,none⟩)]] w2 R)
  {R:EW} (hR:ng w r R):
  vk (.pointer (some ⟨ba,0,none⟩)) (.pointer (some ⟨bb,0,none⟩)) w R:=by
 have HR:=qh hR;have HX:=qh hx;obtain⟨vX,c0⟩:=hA;obtain⟨gQ,e0⟩:=hB;have n1: ((ka:Int)==5)=false:=int_ne h5;have n2: ((ka:Int)==10)=false:=int_ne dG;clear hR hx h5 dG;go_enter func249,ntmps249;go_wp2_with fail;refine HX.o _ (by rw[cell_of_block ((heap_alloc_old _ _ (by simp)).trans (heap_alloc_new w _))];rfl) (bL w _ _) _ (λw3 dF=>?_);have HB:=qh ((bL w _ _).trans (dF.mono (by simp;omega)));clear dF;go_wp2_with fail;exact HR.o _ HB.o
def Deep(k:Nat):Prop:=k≠5/\k≠6/\k≠10
theorem RR(w:World)(ba bb ka kb:Nat)(hA:cY w ba ka)(hB:cY w bb kb)(h1:ka≠5)(h2:ka≠10)(h3:Deep kb)(bT:ka≠kb){R:EW}(hR:ng w false R):
  vk (.pointer (some ⟨ba,0,none⟩)) (.pointer (some ⟨bb,0,none⟩)) w R:=by
 have HR:=qh hR;obtain⟨vX,c0⟩:=hA;obtain⟨gQ,e0⟩:=hB;have n1: ((ka:Int)==5)=false:=int_ne h1;have n2: ((ka:Int)==10)=false:=int_ne h2;have n3: ((kb:Int)==5)=false:=int_ne h3.1;have n4: ((kb:Int)==6)=false:=int_ne h3.2.1;have n5: ((kb:Int)==10)=false:=int_ne h3.2.2;have n6: ((ka:Int) !=kb)=true:=by simp;omega
 clear hR h1 h2 h3 bT;go_enter func249,ntmps249;go_wp2_with fail
 go_region
 all_goals
  go_wp2_with fail;exact HR.o _ (by first|exact bL w _ _|exact(bL w _ _).drew)
theorem OZ(w:World)(ba bb k:Nat)(hA:cY w ba k)(hB:cY w bb k)(h1:Deep k)(h2:k≠7/\k≠8/\k≠9){R:EW}(hR:ng w true R):
  vk (.pointer (some ⟨ba,0,none⟩)) (.pointer (some ⟨bb,0,none⟩)) w R:=by
 have HR:=qh hR;obtain⟨vX,c0⟩:=hA;obtain⟨gQ,e0⟩:=hB;have n1: ((k:Int)==5)=false:=int_ne h1.1;have n4: ((k:Int)==6)=false:=int_ne h1.2.1;have n5: ((k:Int)==10)=false:=int_ne h1.2.2;have n6: ((k:Int) !=k)=false:=by simp
 have n7: ((k:Int)==7)=false:=int_ne h2.1;have n8: ((k:Int)==8)=false:=int_ne h2.2.1;have n9: ((k:Int)==9)=false:=int_ne h2.2.2;clear hR h1 h2;go_enter func249,ntmps249;go_wp2_with fail
 go_region
 all_goals
  go_wp2_with fail;exact HR.o _ (by first|exact bL w _ _|exact(bL w _ _).drew)
theorem WW(w:World)(ba bb:Nat)(hA:cY w ba 7)(hB:cY w bb 7)(pv:Value)(c1:w.cell? ⟨bb,1,none⟩=some pv)(r:Bool)
  (hx:∀w2,w2.cell? ⟨w.heap.size,0,none⟩=some (.pointer (some ⟨ba,0,none⟩))->Below w.heap.size w w2->∀R:EW,(∀w',Below w2.heap.size w2 w'->R (.returned (.bool r)) w')->Calls prog 305 #[pv,.func (.func 306) #[] #[.pointer (some ⟨w.heap.size,0,none⟩)]] w2 R)
  {R:EW} (hR:ng w (!r) R):
  vk (.pointer (some ⟨ba,0,none⟩)) (.pointer (some ⟨bb,0,none⟩)) w R:=by
 have HR:=qh hR;have HX:=qh hx;obtain⟨vX,c0⟩:=hA;obtain⟨gQ,e0⟩:=hB;clear hR hx;go_enter func249,ntmps249;go_wp2_with fail
 go_region
 all_goals
  go_wp2_with fail;refine HX.o _ (by rw[cell_of_block (d_ ((heap_alloc_old _ _ (by simp)).trans (heap_alloc_new w _)))];rfl) (bL w _ _).drew _ (λw3 dF=>?_);have HB:=qh ((bL w _ _).drew.trans (dF.mono (by simp;omega)));clear dF;go_wp2_with fail;exact HR.o _ HB.o
theorem XD(w:World)(ba bb:Nat)(hA:cY w ba 8)(hB:cY w bb 8)(x y:Value)(c3:w.cell? ⟨ba,3,none⟩=some x)(e3:w.cell? ⟨bb,3,none⟩=some y)(r:Bool)(hx:oQ x y w r)
  {R:EW} (hR:ng w r R):
  vk (.pointer (some ⟨ba,0,none⟩)) (.pointer (some ⟨bb,0,none⟩)) w R:=by
 have HR:=qh hR;have HX:=qh hx;obtain⟨vX,c0⟩:=hA;obtain⟨gQ,e0⟩:=hB;clear hR hx;go_enter func249,ntmps249;go_wp2_with fail
 go_region
 all_goals go_wp2_with fail
 all_goals
  go_region_law(first|(go_simp;refine HX.o _ (by first|exact bL w _ _|exact(bL w _ _).drew|exact(bL w _ _).drew.drew) _ (λw2 aD=>?_);have c9:=qh (Below.trans (by first|exact bL w _ _|exact(bL w _ _).drew|exact(bL w _ _).drew.drew) (aD.mono (by simp;omega)));clear aD))
 all_goals
  go_wp2_with fail;refine bodyPost_ret ?_ ?_ (HR.o _ c9.o)
  ·simp[results,results249,go_sem]
  ·rfl
theorem Sk(w:World)(ba bb:Nat)(hA:cY w ba 9)(hB:cY w bb 9)(a1 a2:Option Addr)(n1 n2 kZ mz:Nat)(c2:w.cell? ⟨ba,2,none⟩=some (.slice a1 n1 kZ))(e2:w.cell? ⟨bb,2,none⟩=some (.slice a2 n2 mz))(a_:n2<n1)
  {R:EW} (hR:ng w false R):
  vk (.pointer (some ⟨ba,0,none⟩)) (.pointer (some ⟨bb,0,none⟩)) w R:=by
 have HR:=qh hR;obtain⟨vX,c0⟩:=hA;obtain⟨gQ,e0⟩:=hB;have k1:decide ((n1:Int)<=n2)=false:=by simp;omega
 have k2:decide (n1<=n2)=false:=by simp;omega
 clear hR;go_enter func249,ntmps249;go_wp2_with fail
 go_region
 all_goals go_wp2_with fail
 all_goals go_region
 all_goals
  go_wp2_with fail;refine HR.o _ ?_;first|exact bL w _ _|exact(bL w _ _).drew|exact(bL w _ _).drew.drew
end
end Go.Proofs.YtdlbhiaceheffabGreatDoor
