/- Walks of types.Plain and types.Of. -/
import Derived.Deep.RegionHeld3
import Derived.Test.YtdlbhiaceheffabGreatDoorP12
import Derived.Test.YtdlbhiaceheffabGreatDoorP04
set_option linter.all false
set_option maxRecDepth 100000
set_option maxHeartbeats 2000000
namespace Go.Proofs.YtdlbhiaceheffabGreatDoor
open Go Go.RowKit Ty Tok ak Tryz Proofs.Tryz
section
open Ty (Tr)
theorem lO(w:World)(k:Int){R:EW}(hR:R (.returned (.pointer (some ⟨w.heap.size,0,none⟩))) (w.alloc (.cells #[.int .i64 k,.slice none 0 0,.slice none 0 0,.pointer none] 219))):
  Calls prog 295 #[.int .i64 k] w R:=by
 have HR:=qh hR;clear hR;go_in;go_wp2_with fail;exact HR.o
theorem Jh: (prog.info? 221).map (λi=>(i.zero,i.size,i.bytes))=some (some (.agg #[.string ⟨#[]⟩,.pointer none]),2,24):=by kernel_rfl
theorem pD: (prog.info? 107).map (λi=>(i.zero,i.size,i.bytes))=some (some (.pointer none),1,8):=by kernel_rfl
def I7(v:Value)(rows:List TyRow)(ts:List Ty.Ty)(n:Nat):Prop:=
 ∀(w:World),TyRd w v rows→∀R:EW,
  (∀p w',Sat w w' [bE w,pM p (Ty.den ts n)]→R (.returned p) w')→Calls prog 241 #[v,.int .i64 (n:Nat)] w R
theorem oo{ps:List Value}{l:List Tr}{p:Value}{t:Tr}{a:ak.Hp}(h:ah [fI ps l,pM p t] a):fI (ps++[p]) (l++[t]) a:=by
 obtain⟨x,y,_,hx,hy,h1,z,u,_,hz,_,h2,_⟩:=h;exact lT (jq hx _ _ h1) (bL (ak.le_trans hz hy) _ _ h2)
theorem u3{v:Value}{ns:List BA}{ps:List Value}{n:BA}{p:Value}{a:ak.Hp}(hl:ns.length=ps.length)(h:ak.row 221 2 v (ps.length+1) (cN ns ps++[.string n,p]) a):ak.row 221 2 v (ps++[p]).length (cN (ns++[n]) (ps++[p])) a:=by
 rw[ql ns ps n p hl,List.length_append];exact h
theorem jc{v:Value}{ps:List Value}{p:Value}{a:ak.Hp}(h:ak.row 107 1 v (ps.length+1) (ps++[p]) a):ak.row 107 1 v (ps++[p]).length (ps++[p]) a:=by
 rw[List.length_append];exact h
theorem y9{b:Nat}{kd:Nat}{pv lv ov:Value}{ps ls os:List Value}{names:List BA}{parts list of:List Tr}{a:ak.Hp}(hn:names.length=ps.length)(ho:os=[]∧ov=.pointer none∨os=[ov])
  (h:ah [ay b (.cells #[.int .i64 (kd:Nat),pv,lv,ov] 219 (0,0)),ak.row 221 2 pv ps.length (cN names ps),fI ps parts,ak.row 107 1 lv ls.length ls,fI ls list,fI os of] a):pM (.pointer (some ⟨b,0,none⟩)) (.mk kd names parts list of) a:=by
 obtain⟨a1,r1,_,l1,m1,h1,a2,r2,_,l2,m2,h2,a3,r3,_,l3,m3,h3,a4,r4,_,l4,m4,h4,a5,r5,_,l5,m5,h5,a6,r6,_,l6,m6,h6,_⟩:=h;show rep a (.mk kd names parts list of) _;rw[rep];have k2:=ak.le_trans l2 m1;have n2:=ak.le_trans m2 m1;have k3:=ak.le_trans l3 n2;have n3:=ak.le_trans m3 n2;have k4:=ak.le_trans l4 n3;have n4:=ak.le_trans m4 n3;have k5:=ak.le_trans l5 n4;have n5:=ak.le_trans m5 n4;have k6:=ak.le_trans l6 n5;exact⟨b,pv,lv,ov,ps,ls,os,rfl,l1 _ _ h1,iC h2 k2,hn,jq k3 _ _ h3,iC h4 k4,jq k5 _ _ h5,jq k6 _ _ h6,ho⟩
theorem J0{w:World}{v:Value}{l:List (BA×Nat)}(h:w.ownsRow 0 141 2 v l.length (l.flatMap cQ))(k:Nat)(hk:k<l.length):∃g cap:Nat,v=.slice (some ⟨g,0,none⟩) l.length cap∧g<w.heap.size∧w.cell? ⟨g,k*2,none⟩=some (.string l[k].1)∧w.cell? ⟨g,k*2+1,none⟩=some (.int .i64 (l[k].2:Nat)):=by
 obtain⟨g,cap,rfl,_,hg⟩:=h.form (by omega);have key:∀(l:List (BA×Nat))(k:Nat)(hk:k<l.length),(l.flatMap cQ)[k*2]?=some (.string l[k].1)∧(l.flatMap cQ)[k*2+1]?=some (.int .i64 (l[k].2:Nat)):=by
  intro l;induction l with
  |nil=>intro k hk;simp at hk
  |cons a l ih=>
   intro k hk;cases k with
   |zero=>simp[cQ]
   |succ k=>
    have:=ih k (by simpa using hk);simp only[List.flatMap_cons,List.getElem_cons_succ];refine⟨?_,?_⟩
    ·rw[List.getElem?_append_right (by simp[cQ];omega),show(k+1)*2-(cQ a).length=k*2 by simp[cQ];omega];exact this.1
    ·rw[List.getElem?_append_right (by simp[cQ];omega),show(k+1)*2+1-(cQ a).length=k*2+1 by simp[cQ];omega];exact this.2
 obtain⟨k1,k2⟩:=key l k hk;refine⟨g,cap,rfl,hg,?_,?_⟩
 ·have:=World.ownsRow.cells h (g:=g) rfl _ _ k1;rwa [Addr.add_lit,Nat.zero_add]at this
 ·have:=World.ownsRow.cells h (g:=g) rfl _ _ k2;rwa [Addr.add_lit,Nat.zero_add]at this
theorem QY(v:Value)(rows:List TyRow)(ts:List Ty.Ty)(zi:rows.map TyRow.t=ts)(hw:Wf ts)(hlen:ts.length≤300):∀N n,n<N→n<ts.length→I7 v rows ts n:=by
 intro N;induction N with
 |zero=>intro n h;omega
 |succ N ih=>
  intro n hN hn w DL R hR;have abW:rows.length=ts.length:=by rw[←zi];simp
  obtain⟨g,cap,rfl,hg,hcap,Hl,hcells⟩:=DL.at (by omega);obtain⟨q0,q1,q2,q3⟩:=hcells n (by omega);have Dy: (rows.map TyRow.t)[n]?=some rows[n].t:=by rw[List.getElem?_map,List.getElem?_eq_getElem (by omega)];rfl
  rw[zi]at Dy
  have qH:=DL.bits rows[n] (gM _);have od:=hw n _ Dy;have Bo:=qO hw Dy;have Ua:∀j,j<n→I7 (.slice (some ⟨g,0,none⟩) rows.length cap) rows ts j:=λj hj=>ih j (by omega) (by omega)
  have HC:=qh Ua;have SQ:=qh DL;generalize rows[n]=r at*
  obtain⟨⟨kd,fds,bU,of⟩,fv,lv⟩:=r;dsimp only at q0 q1 q2 q3 qH od Bo;obtain⟨df,aI⟩:=qH;obtain⟨fa,fc,rfl⟩:=ag df;obtain⟨la,lc,rfl⟩:=ag aI;have ll:=qh df;have c8:=qh aI;have E7:=qh od;have PF:=qh Bo;have HR:=qh hR;have Rj:rows.length≤300:=by omega
  have SM:n<rows.length:=by omega
  obtain⟨i0,ti,mx,mu,mw⟩:=info_parts Jh;obtain⟨j0,tj,qP,rJ,rI⟩:=info_parts pD;clear ih hcells Dy od Bo Ua DL hR df aI abW zi hw;go_enter func241,ntmps241;go_wp2_with fail;have h1:=((Sat.fw w).aj (.cells #[.int .i64 kd,.slice fa fds.length fc,.slice la bU.length lc,.int .i64 of] 69) w.heap.size).aj (.cells #[.int .i64 (kd:Nat),.slice none 0 0,.slice none 0 0,.pointer none] 219) (w.heap.size+1);have h2:=(h1.nil 221 2).hZ (P:=fI [] []) (λ_=>by show bz _ [] [];rw[bz]);have H2:=qh h2;clear h1 h2;refine lO _ kd ?_;go_wp2_with fail;have Rp:=E7.o.lens.1;have oV:=E7.o.lens.2;dsimp only at Rp oV;go_loopw [21] (λi wr=>∃(k:Nat)(pv:Value)(ps:List Value),i=.int .i64 k∧k≤fds.length∧ps.length≤k∧k≤ps.length∧Hq (Sat w wr [bE w,ay w.heap.size (.cells #[.int .i64 kd,.slice fa fds.length fc,.slice la bU.length lc,.int .i64 of] 69 (0,0)),ay (w.heap.size+1) (.cells #[.int .i64 (kd:Nat),pv,.slice none 0 0,.pointer none] 219 (0,0)),ak.row 221 2 pv ps.length (cN ((fds.take k).map Prod.fst) ps),fI ps ((fds.take k).map λf=>Ty.den ts f.2)]))
   (λi _=>fds.length-(intOf i).toNat)
  case atStart=>exact⟨0,.slice none 0 0,[],rfl,by omega,by simp,by simp,H2.o⟩
  case round=>
   obtain⟨k,pv,ps,rfl,hk,uh,sE,hS⟩:=hrel;obtain⟨pa,pc,rfl⟩:=ag (hS.out.row 3 rfl);by_cases bm:k<fds.length
   ·have hb:=hS.out.aW;obtain⟨gf,QR,e,Vt,d0,d1⟩:=J0 (az ll.o hb) k bm;cases e;have PK:=E7.o.fields fds[k] (gM _);have HT:=qh (List.take_succ_eq_append_getElem bm);have tQ:=(SQ.o.below hb).below (((bR wr.heap.size wr).alloc (nR _) (.cells #[.string fds[k].1,.int .i64 (fds[k].2:Nat)] 141)).drew);have A6:=qh (HC.o fds[k].2 PK _ tQ);have h0:=(hS.out.aj (.cells #[.string fds[k].1,.int .i64 (fds[k].2:Nat)] 141) wr.heap.size)
    generalize fds[k]=fd at*
    obtain⟨nm,ix⟩:=fd;dsimp only at d0 d1 PK;have x1:=h0.cell 2 rfl 1 rfl;have y0:=h0.cell 5 rfl 0 rfl;have y1:=h0.cell 5 rfl 1 rfl;have H0:=qh h0.drew;clear hb tQ h0 hS;go_wp2_with fail;go_region_law(first|(go_simp;go_at_call 241;refine A6.o _ (λp w2 h2=>?_);obtain⟨oZ,rfl,_⟩:=eQ (h2.tree 1 rfl);have h3:=H0.o.join h2;have x3:=h3.cell 2 rfl 1 rfl;have y3:=h3.cell 5 rfl 0 rfl;have Q9:=h3.aU (.cells #[.string nm,.pointer (some ⟨oZ,0,none⟩)] 221);have x4:=Q9.cell 2 rfl 1 rfl;have y4:=Q9.cell 5 rfl 0 rfl;have H3:=qh h3;clear h2 h3 Q9)|(go_loud(refine step_append_lies _ (by rfl) _ _ _ (by rfl) 0 221 i0 _ 2 24 underlying217 ti mx mu mw rfl (by omega) (.slice pa ps.length pc) ps.length (cN ((fds.take k).map Prod.fst) ps) (by rfl) ((H3.o.row 3 rfl).alloc _) ⟨w2.heap.size,0,none⟩ 1 1 [.string nm,.pointer (some ⟨oZ,0,none⟩)] (by rfl) (by rfl) (World.news_of_block (cs:=#[.string nm,.pointer (some ⟨oZ,0,none⟩)]) (t:=221) (fr:=(0,0)) (aH _ _ _ (by simp))) (by simp[Value.oneCell']) (by omega) (by unfold maxLen;omega) (by omega) (by simp) (w2.heap.size+1) (by simp) ?_);intro g4 eJ w4 cq bC ga mY;have h4:=Sat.grow (H3.o.aU _) 3 rfl bC cq (by simpa using ga);have x5:=h4.cell 2 rfl 1 rfl;have f5:=h4.free 2 rfl 1;have H4:=qh h4;clear h4))
    all_goals
     clear cq bC;have AF: ((fds.take k).map Prod.fst).length=ps.length:=by simp;omega
     have h5:=(H4.o.store 2 rfl 1 (.slice (some ⟨g4,0,none⟩) (ps.length+1) eJ)).pick [0,1,2,3,4,6];have h6:=h5.cG (i:=3) rfl (Q:=ak.row 221 2 (.slice (some ⟨g4,0,none⟩) (ps.length+1) eJ) (ps++[Value.pointer (some ⟨oZ,0,none⟩)]).length (cN ((fds.take (k+1)).map Prod.fst) (ps++[Value.pointer (some ⟨oZ,0,none⟩)]))) (λ_ h=>by rw[HT.o,List.map_append];exact u3 AF h);have h7:=Sat.pack (L:=[_,_,_,_]) (M:=[_,_]) h6;have h8:=h7.cG (i:=4) rfl (Q:=fI (ps++[Value.pointer (some ⟨oZ,0,none⟩)]) ((fds.take (k+1)).map λf=>Ty.den ts f.2)) (λ_ h=>by rw[HT.o,List.map_append];exact oo h);have H8:=qh h8;clear h5 h6 h7 h8 AF;go_wp2_with fail;go_roundw
     case rel=>exact⟨k+1,.slice (some ⟨g4,0,none⟩) (ps.length+1) eJ,ps++[Value.pointer (some ⟨oZ,0,none⟩)],by go_num,by omega,by simp;omega,by simp;omega,H8.o⟩
     case measure=>simp[intOf];omega
   ·have nn:k=fds.length:=by omega
    have h2:=(hS.out.nil 107 1).hZ (P:=fI [] []) (λ_=>by show bz _ [] [];rw[bz]);rw[nn,List.take_length]at h2
    have Rc:Hq ((fds.map Prod.fst).length=ps.length):=by show _= _;simp;omega
    have H2:=qh h2;have x0:=h2.cell 1 rfl 2 rfl;clear h2 nn hS;go_wp2_with fail;go_loopw [45] (λi wr=>∃(j:Nat)(lv:Value)(ls:List Value),i=.int .i64 j∧j≤bU.length∧ls.length≤j∧j≤ls.length∧Hq (Sat w wr [bE w,ay w.heap.size (.cells #[.int .i64 kd,.slice fa fds.length fc,.slice la bU.length lc,.int .i64 of] 69 (0,0)),ay (w.heap.size+1) (.cells #[.int .i64 (kd:Nat),.slice pa ps.length pc,lv,.pointer none] 219 (0,0)),ak.row 221 2 (.slice pa ps.length pc) ps.length (cN (fds.map Prod.fst) ps),fI ps (fds.map λf=>Ty.den ts f.2),ak.row 107 1 lv ls.length ls,fI ls ((bU.take j).map (Ty.den ts))]))
     (λi _=>bU.length-(intOf i).toNat)
    case atStart=>exact⟨0,.slice none 0 0,[],rfl,by omega,by simp,by simp,H2.o⟩
    case round=>
     obtain⟨j,lv,ls,rfl,hj,acb,vm,hS⟩:=hrel;obtain⟨qa,qc,rfl⟩:=ag (hS.out.row 5 rfl);by_cases bm:j<bU.length
     ·have hb:=hS.out.aW;obtain⟨gl,j9,e,mW,d0⟩:=ints_at (az c8.o hb) j bm;cases e;have PK:=E7.o.list bU[j] (gM _);have HT:=qh (List.take_succ_eq_append_getElem bm);have tQ:=(SQ.o.below hb).below ((bR wr.heap.size wr).drew);have A6:=qh (HC.o bU[j] PK _ tQ);generalize bU[j]=ix at*
      have x1:=hS.out.cell 2 rfl 2 rfl;have H0:=qh hS.out.drew;clear hb tQ hS;go_wp2_with fail;go_region_law(first|(go_simp;go_at_call 241;refine A6.o _ (λp w2 h2=>?_);obtain⟨oZ,rfl,_⟩:=eQ (h2.tree 1 rfl);have h3:=H0.o.join h2;have x3:=h3.cell 2 rfl 2 rfl;have Q9:=h3.aU (.cells #[.pointer (some ⟨oZ,0,none⟩)] 107);have x4:=Q9.cell 2 rfl 2 rfl;have H3:=qh h3;clear h2 h3 Q9)|(go_loud(refine step_append_lies _ (by rfl) _ _ _ (by rfl) 0 107 j0 _ 1 8 underlying104 tj qP rJ rI rfl (by omega) (.slice qa ls.length qc) ls.length ls (by rfl) ((H3.o.row 5 rfl).alloc _) ⟨w2.heap.size,0,none⟩ 1 1 [.pointer (some ⟨oZ,0,none⟩)] (by rfl) (by rfl) (World.news_of_block (cs:=#[.pointer (some ⟨oZ,0,none⟩)]) (t:=107) (fr:=(0,0)) (aH _ _ _ (by simp))) (by simp[Value.oneCell']) (by omega) (by unfold maxLen;omega) (by omega) (by simp) (w2.heap.size+1) (by simp) ?_);intro g4 eJ w4 cq bC ga mY;have h4:=Sat.grow (H3.o.aU _) 5 rfl bC cq (by simpa using ga);have x5:=h4.cell 2 rfl 2 rfl;have f5:=h4.free 2 rfl 2;have H4:=qh h4;clear h4))
      all_goals
       clear cq bC;have h5:=(H4.o.store 2 rfl 2 (.slice (some ⟨g4,0,none⟩) (ls.length+1) eJ))
       have h6:=h5.cG (i:=5) rfl (Q:=ak.row 107 1 (.slice (some ⟨g4,0,none⟩) (ls.length+1) eJ) (ls++[Value.pointer (some ⟨oZ,0,none⟩)]).length (ls++[Value.pointer (some ⟨oZ,0,none⟩)])) (λ_ h=>jc h);have h7:=Sat.pack (L:=[_,_,_,_,_,_]) (M:=[_,_]) h6;have h8:=h7.cG (i:=6) rfl (Q:=fI (ls++[Value.pointer (some ⟨oZ,0,none⟩)]) ((bU.take (j+1)).map (Ty.den ts))) (λ_ h=>by rw[HT.o,List.map_append];exact oo h);have H8:=qh h8;clear h5 h6 h7 h8;go_wp2_with fail;go_roundw
       case rel=>exact⟨j+1,.slice (some ⟨g4,0,none⟩) (ls.length+1) eJ,ls++[Value.pointer (some ⟨oZ,0,none⟩)],by go_num,by omega,by simp;omega,by simp;omega,H8.o⟩
       case measure=>simp[intOf];omega
     ·have nn:j=bU.length:=by omega
      have h2:=hS.out;rw[nn,List.take_length]at h2
      have H2:=qh h2;have x0:=h2.cell 1 rfl 0 rfl;have x3:=h2.cell 1 rfl 3 rfl;have hb:=h2.aW;have tQ:=SQ.o.below hb;clear h2 nn hS;have BJ: ((kd:Int)==8)=true∨((kd:Int)==8)=false∧((kd:Int)==9)=true∨(((kd:Int)==8)=false∧((kd:Int)==9)=false)∧¬(kd=8∨kd=9):=by
       by_cases e8:kd=8
       ·left;simp[e8]
       ·by_cases e9:kd=9
        ·right;left;simp[e9]
        ·right;right;simp;omega
      rcases BJ with k8|⟨k8,k9⟩|⟨⟨k8,k9⟩,fV⟩
      ·have kK:kd=8∨kd=9:=.inl (by have:=beq_iff_eq.1 k8;omega);have A6:=qh (HC.o of (E7.o.of kK) wr tQ);have HK:=qh kK;clear kK hb tQ;go_wp2_with fail;refine A6.o _ (λp w2 h3=>?_);obtain⟨oZ,rfl,_⟩:=eQ (h3.tree 1 rfl);have h4:=H2.o.join h3;have f4:=h4.free 2 rfl;have z4:=h4.cell 2 rfl 3 rfl;have H4:=qh h4;clear h3 h4;go_wp2_with fail;have h5:=(H4.o.store 2 rfl 3 (.pointer (some ⟨oZ,0,none⟩))).cG (i:=7) rfl (Q:=fI [Value.pointer (some ⟨oZ,0,none⟩)] [Ty.den ts of]) (λ_ h=>by show bz _ [_] [_];rw[bz];exact⟨_,[],rfl,h,by rw[bz]⟩);have h6:=Sat.pack (L:=[_]) (M:=[_,_,_,_,_,_]) (h5.pick [0,2,3,4,5,6,7]);refine HR.o _ _ (h6.cG (i:=1) rfl λ_ h=>?_);rw[PF.o,if_pos HK.o];exact y9 Rc.out (.inr rfl) h
      ·have kK:kd=8∨kd=9:=.inr (by have:=beq_iff_eq.1 k9;omega);have A6:=qh (HC.o of (E7.o.of kK) wr tQ);have HK:=qh kK;clear kK hb tQ;go_wp2_with fail;refine A6.o _ (λp w2 h3=>?_);obtain⟨oZ,rfl,_⟩:=eQ (h3.tree 1 rfl);have h4:=H2.o.join h3;have f4:=h4.free 2 rfl;have z4:=h4.cell 2 rfl 3 rfl;have H4:=qh h4;clear h3 h4;go_wp2_with fail;have h5:=(H4.o.store 2 rfl 3 (.pointer (some ⟨oZ,0,none⟩))).cG (i:=7) rfl (Q:=fI [Value.pointer (some ⟨oZ,0,none⟩)] [Ty.den ts of]) (λ_ h=>by show bz _ [_] [_];rw[bz];exact⟨_,[],rfl,h,by rw[bz]⟩);have h6:=Sat.pack (L:=[_]) (M:=[_,_,_,_,_,_]) (h5.pick [0,2,3,4,5,6,7]);refine HR.o _ _ (h6.cG (i:=1) rfl λ_ h=>?_);rw[PF.o,if_pos HK.o];exact y9 Rc.out (.inr rfl) h
      ·have HK:=qh fV;clear hb tQ fV;go_wp2_with fail;have h5:=H2.o.hZ (P:=fI [] []) (λ_=>by show bz _ [] [];rw[bz]);have h6:=Sat.pack (L:=[_]) (M:=[_,_,_,_,_,_]) (h5.pick [0,2,3,4,5,6,7]);refine HR.o _ _ (h6.cG (i:=1) rfl λ_ h=>?_);rw[PF.o,if_neg HK.o];exact y9 Rc.out (.inl ⟨rfl,rfl⟩) h
def vj(w:World)(v:Value)(l:List BA):Prop:=(∃a cap,v=.slice a 0 cap∧l=[])∨∃b o cap,v=.slice (some ⟨b,o,none⟩) l.length cap∧∀k(hk:k<l.length),w.cell? ⟨b,o+k,none⟩=some (.string l[k])
theorem vj.slice{w:World}{v:Value}{l:List BA}(h:vj w v l):∃a cap,v=.slice a l.length cap:=by
 rcases h with⟨a,cap,rfl,rfl⟩|⟨b,o,cap,rfl,_⟩
 ·exact⟨a,cap,rfl⟩
 ·exact⟨_,cap,rfl⟩
theorem D5{w:World}{b o:Nat}{x:Value}(h:w.cell? ⟨b,o,none⟩=some x):b<w.heap.size:=by
 refine Nat.lt_of_not_le λhb=>?_
 unfold World.cell? at h;rw[show w.heap[(⟨b,o,none⟩:Addr).block]?=none from Array.getElem?_eq_none hb]at h
 simp at h
theorem vj.at{w:World}{v:Value}{l:List BA}(h:vj w v l)(k:Nat)(hk:k<l.length):∃b o cap:Nat,v=.slice (some ⟨b,o,none⟩) l.length cap∧b<w.heap.size∧w.cell? ⟨b,o+k,none⟩=some (.string l[k]):=by
 rcases h with⟨a,cap,rfl,rfl⟩|⟨b,o,cap,rfl,h⟩
 ·simp at hk
 ·exact⟨b,o,cap,rfl,D5 (h k hk),h k hk⟩
theorem vj.below{w w':World}{v:Value}{l:List BA}(h:vj w v l)(hb:Below w.heap.size w w'):vj w' v l:=by
 rcases h with h|⟨b,o,cap,rfl,h⟩
 ·exact .inl h
 ·exact .inr ⟨b,o,cap,rfl,λk hk=>(hb.cell (p:=⟨b,o+k,none⟩) (D5 (h k hk))).trans (h k hk)⟩
theorem h_{w:World}{k:Nat}{names:List BA}{parts list of:List Tr}{p:Value}(h:rep (ak.hp w) (.mk k names parts list of) p):
  ∃(b:Nat)(pv lv ov:Value)(ps ls os:List Value),p=.pointer (some ⟨b,0,none⟩)∧b<w.heap.size∧w.cell? ⟨b,0,none⟩=some (.int .i64 (k:Nat))∧w.cell? ⟨b,1,none⟩=some pv∧w.cell? ⟨b,2,none⟩=some lv∧w.cell? ⟨b,3,none⟩=some ov∧
   w.ownsRow 0 221 2 pv ps.length (cN names ps)∧names.length=ps.length∧bz (ak.hp w) parts ps∧w.ownsRow 0 107 1 lv ls.length ls∧bz (ak.hp w) list ls∧bz (ak.hp w) of os∧(os=[]∧ov=.pointer none∨os=[ov]):=by
 rw[rep]at h
 obtain⟨b,pv,lv,ov,ps,ls,os,h1,h2,h3,h4,h5,h6,h7,h8,h9⟩:=h;have hb:w.heap[b]?=some (.cells #[.int .i64 (k:Nat),pv,lv,ov] 219 (0,0)):=h2;exact⟨b,pv,lv,ov,ps,ls,os,h1,(Array.getElem?_eq_some_iff.1 hb).1,by rw[cell_of_block hb];rfl,by rw[cell_of_block hb];rfl,by rw[cell_of_block hb];rfl,by rw[cell_of_block hb];rfl,iF h3,h4,h5,iF h6,h7,h8,h9⟩
theorem fD{w:World}{v:Value}{ls:List Value}(h:w.ownsRow 0 107 1 v ls.length ls)(k:Nat)(hk:k<ls.length):∃g cap:Nat,v=.slice (some ⟨g,0,none⟩) ls.length cap∧g<w.heap.size∧w.cell? ⟨g,k,none⟩=some ls[k]:=by
 obtain⟨g,cap,rfl,_,hg⟩:=h.form (by omega);refine⟨g,cap,rfl,hg,?_⟩;have:=World.ownsRow.cells h (g:=g) rfl k ls[k] (by simp[hk]);rwa [Addr.add_lit,Nat.zero_add]at this
theorem PW:∀a b:Fin 128,bits BinOp.or IntKind.i64 ((a.1:Nat):Int) ((b.1:Nat):Int)=((a.1|||b.1:Nat):Int):=by decide+kernel
theorem Qq(a b:Nat)(ha:a<128)(hb:b<128):bits BinOp.or IntKind.i64 (a:Int) (b:Int)=((a|||b:Nat):Int):=PW ⟨a,ha⟩ ⟨b,hb⟩
theorem Cw(w:World):∀(N:Nat)(t:Tr),sz t<N→dP t→∀p,rep (ak.hp w) t p→∀R:EW,R (.returned (.int .i64 (Ty.tags t:Nat))) w→Calls prog 250 #[p] w R:=by
 intro N;induction N with
 |zero=>intro t h;omega
 |succ N ih=>
  intro t hN aF p lA R hR;obtain⟨k,names,parts,list,of⟩:=t;obtain⟨b,pv,lv,ov,ps,ls,os,rfl,hb,c0,c1,c2,c3,_,_,_,bJ,uI,_⟩:=h_ lA;rw[dP]at aF
  obtain⟨hk,_,_,_,_,_,hlen,_,Ha,_⟩:=aF;rw[Ty.tags]at hR
  have hle:=bV uI;have HR:=qh hR;have dG:=qh bJ;obtain⟨la,lc,rfl⟩:=ag bJ;have A6:Hq (∀j(hj:j<list.length)(eh:j<ls.length),∀R:EW,R (.returned (.int .i64 (Ty.tags list[j]:Nat))) w→Calls prog 250 #[ls[j]] w R):=λj hj eh R hR=>
   ih list[j] (by have:=qz (gM hj) k names parts of;omega) (eS Ha _ (gM hj)) ls[j] (cS uI j hj eh) R hR
  have aY:=qh Ha;have oV:ls.length≤1000000:=by omega
  have zk:=qh hle;clear hR bJ hN lA ih Ha uI hle;by_cases Pe:k=10
  ·subst Pe;rw[if_pos rfl]at HR
   go_in;go_wp2_with fail;go_loop [3,17] (λv i=>∃j:Nat,j≤ls.length∧i=.int .i64 j∧v=.int .i64 (kA (list.take j):Nat)) (λ_ i=>ls.length-(intOf i).toNat)
   case atStart=>exact⟨0,by omega,rfl,by simp[kA]⟩
   case round=>
    obtain⟨j,hj,rfl,rfl⟩:=hrel;by_cases bm:j<ls.length
    ·obtain⟨gl,j9,e,mW,d0⟩:=fD dG.o j bm;cases e;have eh:j<list.length:=by have:=zk.o;omega
     have HI:=qh (A6.o j eh bm);have HT:=qh (List.take_succ_eq_append_getElem eh);have qM:=tY (list.take j) (vn λt ht=>eS aY.o t (List.mem_of_mem_take ht));have Cf:=yl list[j] (eS aY.o _ (gM eh));have HS:=qh (CF (list.take j) list[j]);generalize kA (list.take j)=ta at*
     generalize list[j]=tj at*
     generalize ls[j]=pj at*
     generalize Ty.tags tj=tb at*
     clear eh;go_wp2_with fail;refine HI.o _ ?_;go_wp2_with fail;go_round
     case rel=>exact⟨j+1,by omega,by go_num,by rw[HT.o,HS.o,Qq ta tb qM Cf]⟩
     case measure=>simp[intOf];omega
    ·have ju:j=list.length:=by have:=zk.o;omega
     have HT:Hq (kA (list.take j)=kA list):=by rw[ju,List.take_length];rfl
     clear ju;go_wp2_with fail;exact jd HR.o (by rw[HT.o])
  ·rw[if_neg Pe]at HR
   have abj:k=1∨k=2∨k=3∨k=4∨k=5∨k=6∨k=7∨k=8∨k=9:=by omega
   clear Pe;rcases abj with rfl|rfl|rfl|rfl|rfl|rfl|rfl|rfl|rfl;all_goals
    go_in;go_wp2_with fail;exact jd HR.o (congrArg (Value.int .i64) (by decide))
end
section
open Ty (Tr br bI bh)
theorem I1(w:World)(v:Value)(ls:List Value)(bJ:w.ownsRow 0 107 1 v ls.length ls)(hl:ls.length≤1000000)(F:FuncId)(c:Value)(hc:∀(args:Array Value)(w:World),(callFunc F args).run prog w=.ok (.enter F args) w)
  (f:Nat→Bool) (ie:∀j(hj:j<ls.length) w1,Below w.heap.size w w1→∀R:EW,(∀w2,Below w1.heap.size w1 w2→R (.returned (.bool (f j))) w2)→Calls prog F #[ls[j],c] w1 R) {R:EW}
  (oq:∀(r:Nat) w',Below w.heap.size w w'→br f ls.length=true→r≤1000000→R (.returned (.int .i64 r)) w') (fV:∀w',Below w.heap.size w w'→br f ls.length=false→R (.returned (.int .i64 (-1))) w'):
  Calls prog 326 #[v,.func (.func F) #[] #[c]] w R:=by
 have HY:=qh oq;have yA:=qh fV;have HC:=qh ie;have dG:=qh bJ;obtain⟨la,lc,rfl⟩:=ag bJ;clear oq fV ie bJ;go_in;go_wp2_with fail;go_loopw [8] (λi wr=>∃k:Nat,k≤ls.length∧i=.int .i64 k∧Hq (Below w.heap.size w wr)∧Hq (∀j,j<k→f j=false)) (λi _=>ls.length-(intOf i).toNat)
 case atStart=>exact⟨0,by omega,rfl,bR _ _,λj hj=>by omega⟩
 case round=>
  obtain⟨k,hk,rfl,hb,hf⟩:=hrel;by_cases bm:k<ls.length
  ·obtain⟨gl,j9,e,mW,d0⟩:=fD (az dG.o hb.out) k bm;cases e;have HI:=qh (HC.o k bm wr hb.out);have HT:=qh (λh:f k=true=>(bI (f:=f)).2 ⟨k,bm,h⟩);have HN:Hq (f k=false→∀j,j<k+1→f j=false):=λh j hj=>by
    by_cases Hx:j=k
    ·subst Hx;exact h
    ·exact hf.out j (by omega)
   generalize f k=fk at*
   generalize ls[k]=p at*
   go_wp2_with fail;refine HI.o _ (λw2 aI=>?_);have c8:=qh (hb.out.trans (aI.mono hb.out.size));clear aI;cases fk
   ·have J6:=qh (HN.o rfl);go_wp2_with fail;go_roundw
    case rel=>exact⟨k+1,by omega,by go_num,c8,J6⟩
    case measure=>simp[intOf];omega
   ·have FJ:=qh (HT.o rfl);go_wp2_with fail;exact HY.o k _ c8.o FJ.o (by omega)
  ·have nn:k=ls.length:=by omega
   have HN:Hq (br f ls.length=false):=bh.2 (by rw[←nn];exact hf.out);clear nn;go_wp2_with fail;exact yA.o _ hb.out HN.o
theorem uQ(w:World)(v:Value)(ls:List Value)(bJ:w.ownsRow 0 107 1 v ls.length ls)(hl:ls.length≤1000000)(F:FuncId)(c:Value)(hc:∀(args:Array Value)(w:World),(callFunc F args).run prog w=.ok (.enter F args) w)
  (f:Nat→Bool) (ie:∀j(hj:j<ls.length) w1,Below w.heap.size w w1→∀R:EW,(∀w2,Below w1.heap.size w1 w2→R (.returned (.bool (f j))) w2)→Calls prog F #[ls[j],c] w1 R) {R:EW}
  (hR:∀w',Below w.heap.size w w'→R (.returned (.bool (br f ls.length))) w'):
  Calls prog 299 #[v,.func (.func F) #[] #[c]] w R:=by
 have HR:=qh hR;clear hR;have HX:=qh (λR h1 h2=>@I1 w v ls bJ hl F c hc f ie R h1 h2);clear ie bJ;go_in;go_wp2_with fail;refine HX.o _ (λr w1 hb ha hr=>?_) (λw1 hb ha=>?_)
 ·rw[ha]at HR
  have HB:=qh hb;clear ha hb;go_wp2_with fail;exact HR.o _ HB.o
 ·rw[ha]at HR
  have HB:=qh hb;clear ha hb;go_wp2_with fail;exact HR.o _ HB.o
theorem EO:∀(ns:List BA)(ps:List Value)(k:Nat)(h1:k<ns.length)(h2:k<ps.length),(cN ns ps)[k*2]?=some (.string ns[k])∧(cN ns ps)[k*2+1]?=some ps[k]
 |[],_,k,h1,_=>by simp at h1
 | _:: _,[],k,_,h2=>by simp at h2
 |n::ns,p::ps,0,_,_=>by simp[cN]
 |n::ns,p::ps,k+1,h1,h2=>by
  have:=EO ns ps k (by simpa using h1) (by simpa using h2);simp only[cN,List.getElem_cons_succ];rw[show(k+1)*2=k*2+1+1 by omega,show k*2+1+1+1=(k*2+1)+1+1 by omega]
  simpa using this
theorem tS{w:World}{v:Value}{ns:List BA}{ps:List Value}(h:w.ownsRow 0 221 2 v ps.length (cN ns ps))(hn:ns.length=ps.length)(k:Nat)(hk:k<ps.length):∃g cap:Nat,v=.slice (some ⟨g,0,none⟩) ps.length cap∧g<w.heap.size∧w.cell? ⟨g,k*2,none⟩=some (.string (ns[k]'(by omega)))∧w.cell? ⟨g,k*2+1,none⟩=some ps[k]:=by
 obtain⟨g,cap,rfl,_,hg⟩:=h.form (by omega);obtain⟨k1,k2⟩:=EO ns ps k (by omega) hk;refine⟨g,cap,rfl,hg,?_,?_⟩
 ·have:=World.ownsRow.cells h (g:=g) rfl _ _ k1;rwa [Addr.add_lit,Nat.zero_add]at this
 ·have:=World.ownsRow.cells h (g:=g) rfl _ _ k2;rwa [Addr.add_lit,Nat.zero_add]at this
theorem Ic(w:World)(v:Value)(ns:List BA)(ps:List Value)(bJ:w.ownsRow 0 221 2 v ps.length (cN ns ps))(hn:ns.length=ps.length)(hl:ps.length≤1000000)(F:FuncId)(c:Value)(hc:∀(args:Array Value)(w:World),(callFunc F args).run prog w=.ok (.enter F args) w)
  (f:Nat→Bool) (ie:∀j(hj:j<ps.length) w1,Below w.heap.size w w1→∀R:EW,(∀w2,Below w1.heap.size w1 w2→R (.returned (.bool (f j))) w2)→Calls prog F #[.agg #[.string (ns[j]'(by omega)),ps[j]],c] w1 R) {R:EW}
  (oq:∀(r:Nat) w',Below w.heap.size w w'→br f ps.length=true→r≤1000000→R (.returned (.int .i64 r)) w') (fV:∀w',Below w.heap.size w w'→br f ps.length=false→R (.returned (.int .i64 (-1))) w'):
  Calls prog 327 #[v,.func (.func F) #[] #[c]] w R:=by
 have HY:=qh oq;have yA:=qh fV;have HC:=qh ie;have dG:=qh bJ;have vy:=qh hn;obtain⟨la,lc,rfl⟩:=ag bJ;clear oq fV ie bJ;go_in;go_wp2_with fail;go_loopw [8] (λi wr=>∃k:Nat,k≤ps.length∧i=.int .i64 k∧Hq (Below w.heap.size w wr)∧Hq (∀j,j<k→f j=false)) (λi _=>ps.length-(intOf i).toNat)
 case atStart=>exact⟨0,by omega,rfl,bR _ _,λj hj=>by omega⟩
 case round=>
  obtain⟨k,hk,rfl,hb,hf⟩:=hrel;by_cases bm:k<ps.length
  ·obtain⟨gl,j9,e,mW,d0,d1⟩:=tS (az dG.o hb.out) vy.o k bm;cases e;have HI:=qh (HC.o k bm wr hb.out);have HT:=qh (λh:f k=true=>(bI (f:=f)).2 ⟨k,bm,h⟩);have HN:Hq (f k=false→∀j,j<k+1→f j=false):=λh j hj=>by
    by_cases Hx:j=k
    ·subst Hx;exact h
    ·exact hf.out j (by omega)
   generalize f k=fk at*
   generalize ps[k]=p at*
   have kN:k<ns.length:=by have:=vy.o;omega
   obtain⟨nm,sL⟩:∃x,x=ns[k]'kN:=⟨_,rfl⟩
   rw[←sL]at d0 HI
   clear sL HC hn;go_wp2_with fail;refine HI.o _ (λw2 aI=>?_);have c8:=qh (hb.out.trans (aI.mono hb.out.size));clear aI;cases fk
   ·have J6:=qh (HN.o rfl);go_wp2_with fail;go_roundw
    case rel=>exact⟨k+1,by omega,by go_num,c8,J6⟩
    case measure=>simp[intOf];omega
   ·have FJ:=qh (HT.o rfl);go_wp2_with fail;exact HY.o k _ c8.o FJ.o (by omega)
  ·have nn:k=ps.length:=by omega
   have HN:Hq (br f ps.length=false):=bh.2 (by rw[←nn];exact hf.out);clear nn;go_wp2_with fail;exact yA.o _ hb.out HN.o
theorem JO(w:World)(v:Value)(ns:List BA)(ps:List Value)(bJ:w.ownsRow 0 221 2 v ps.length (cN ns ps))(hn:ns.length=ps.length)(hl:ps.length≤1000000)(F:FuncId)(c:Value)(hc:∀(args:Array Value)(w:World),(callFunc F args).run prog w=.ok (.enter F args) w)
  (f:Nat→Bool) (ie:∀j(hj:j<ps.length) w1,Below w.heap.size w w1→∀R:EW,(∀w2,Below w1.heap.size w1 w2→R (.returned (.bool (f j))) w2)→Calls prog F #[.agg #[.string (ns[j]'(by omega)),ps[j]],c] w1 R) {R:EW}
  (hR:∀w',Below w.heap.size w w'→R (.returned (.bool (br f ps.length))) w'):
  Calls prog 305 #[v,.func (.func F) #[] #[c]] w R:=by
 have HR:=qh hR;clear hR;have HX:=qh (λR h1 h2=>@Ic w v ns ps bJ hn hl F c hc f ie R h1 h2);clear ie bJ;go_in;go_wp2_with fail;refine HX.o _ (λr w1 hb ha hr=>?_) (λw1 hb ha=>?_)
 ·rw[ha]at HR
  have HB:=qh hb;clear ha hb;go_wp2_with fail;exact HR.o _ HB.o
 ·rw[ha]at HR
  have HB:=qh hb;clear ha hb;go_wp2_with fail;exact HR.o _ HB.o
theorem AH{h:ak.Hp}(x:BA):∀{parts:List Tr}{ps:List Value}(names:List BA),bz h parts ps→match Ty.part names parts x with
  |none=>Ty.part names ps x=none
  |some t=>∃q,Ty.part names ps x=some q∧rep h t q
 |[],ps,names,hr=>by
  rw[bz]at hr;subst hr
  cases names<;>rfl
 |t::parts,ps,[],hr=>by
  rw[bz]at hr
  obtain⟨p,BZ,rfl,h1,h2⟩:=hr;rfl
 |t::parts,ps,n::names,hr=>by
  rw[bz]at hr
  obtain⟨p,BZ,rfl,h1,h2⟩:=hr;rw[Ty.part,Ty.part];by_cases vo:n=x
  ·rw[if_pos vo,if_pos vo];exact⟨p,rfl,h1⟩
  ·rw[if_neg vo,if_neg vo];exact AH x names h2
theorem Gj{α:Type}(names:List BA)(l:List α)(x:BA)(k:Nat)(h1:k<names.length)(h2:k<l.length):Ty.part (names.drop k) (l.drop k) x=if names[k]=x then some l[k]else Ty.part (names.drop (k+1)) (l.drop (k+1)) x:=by
 rw[List.drop_eq_getElem_cons h1,List.drop_eq_getElem_cons h2,Ty.part]
theorem mK{w:World}{h0:ak.Hp}(hle:ak.le h0 (ak.hp w)){k:Nat}{names:List BA}{parts list of:List Tr}{p:Value}(h:rep h0 (.mk k names parts list of) p):
  ∃(b:Nat)(pv lv ov:Value)(ps ls os:List Value),p=.pointer (some ⟨b,0,none⟩)∧b<w.heap.size∧w.cell? ⟨b,0,none⟩=some (.int .i64 (k:Nat))∧w.cell? ⟨b,1,none⟩=some pv∧w.cell? ⟨b,2,none⟩=some lv∧w.cell? ⟨b,3,none⟩=some ov∧
   w.ownsRow 0 221 2 pv ps.length (cN names ps)∧names.length=ps.length∧bz h0 parts ps∧w.ownsRow 0 107 1 lv ls.length ls∧bz h0 list ls∧bz h0 of os∧(os=[]∧ov=.pointer none∨os=[ov]):=by
 rw[rep]at h
 obtain⟨b,pv,lv,ov,ps,ls,os,h1,h2,h3,h4,h5,h6,h7,h8,h9⟩:=h;have hb:w.heap[b]?=some (.cells #[.int .i64 (k:Nat),pv,lv,ov] 219 (0,0)):=hle _ _ h2;exact⟨b,pv,lv,ov,ps,ls,os,h1,(Array.getElem?_eq_some_iff.1 hb).1,by rw[cell_of_block hb];rfl,by rw[cell_of_block hb];rfl,by rw[cell_of_block hb];rfl,by rw[cell_of_block hb];rfl,iF (iC h3 hle),h4,h5,iF (iC h6 hle),h7,h8,h9⟩
theorem rD(w0 w:World){h0:ak.Hp}(vF:ak.le h0 (ak.hp w0))(uP:Below w0.heap.size w0 w)(t:Tr)(p:Value)(lA:rep h0 t p)(aF:dP t)(x:BA){R:EW}
  (hR:∀q w',Below w.heap.size w w'→(match t with| .mk _ names parts _ _=>match Ty.part names parts x with|none=>q=.pointer none|some u=>rep h0 u q)→R (.returned q) w'):
  Calls prog 297 #[p,.string x] w R:=by
 obtain⟨k,names,parts,list,of⟩:=t;obtain⟨b,pv,lv,ov,ps,ls,os,rfl,hb,c0,c1,c2,c3,bJ,hn,jQ,_⟩:=mK vF lA;have hlen:=bV jQ;replace c0:=(uP.cell (p:=⟨b,0,none⟩) hb).trans c0;replace c1:=(uP.cell (p:=⟨b,1,none⟩) hb).trans c1;replace c2:=(uP.cell (p:=⟨b,2,none⟩) hb).trans c2;replace c3:=(uP.cell (p:=⟨b,3,none⟩) hb).trans c3;replace hb:b<w.heap.size:=nL hb uP.size;replace bJ:=az bJ uP;clear uP vF;rw[dP]at aF
 have cI:ps.length≤1000000:=by have:=aF.2.2.2.2.2.2.1.1;omega
 obtain⟨la,lc,rfl⟩:=ag bJ;have dG:=qh bJ;have vy:=qh hn;have sJ:Hq (∀j(hj:j<ps.length),∃pb,ps[j]=.pointer (some ⟨pb,0,none⟩)):=λj hj=>by
  obtain⟨pb,e,_⟩:=eQ (cS jQ j (by omega) hj);exact⟨pb,e⟩
 have UF:=qh (λq w'(hb:Below w.heap.size w w')(h: (match Ty.part names ps x with|none=>q=.pointer none|some u=>q=u))=>hR q w' hb (by
  have h2:=AH x names jQ;dsimp only;cases hp:Ty.part names parts x with
  |none=>rw[hp]at h2;rw[h2]at h;exact h
  |some u=>
   rw[hp]at h2
   obtain⟨q',h3,h4⟩:=h2;rw[h3]at h
   dsimp only at h⊢;rw[h];exact h4))
 clear hR bJ lA aF jQ hlen;go_in;go_wp2_with fail;go_loopw [12] (λi wr=>∃k:Nat,k≤ps.length∧i=.int .i64 k∧Hq (Below w.heap.size w wr)∧Hq (Ty.part names ps x=Ty.part (names.drop k) (ps.drop k) x)) (λi _=>ps.length-(intOf i).toNat)
 case atStart=>exact⟨0,by omega,rfl,bR _ _,rfl⟩
 case round=>
  obtain⟨k,hk,rfl,hb,hE⟩:=hrel;by_cases bm:k<ps.length
  ·obtain⟨gl,j9,e,mW,d0,d1⟩:=tS (az dG.o hb.out) vy.o k bm;cases e;have kN:k<names.length:=by have:=vy.o;omega
   have fZ:Hq (Ty.part names ps x=if names[k]=x then some ps[k]else Ty.part (names.drop (k+1)) (ps.drop (k+1)) x):=by show _= _;rw[hE.out,Gj names ps x k kN bm]
   obtain⟨pb,jS⟩:=sJ.o k bm;rw[jS]at d1 fZ
   clear jS;generalize names[k]=nm at*
   clear hn;go_wp2_with fail
   ·have h: (nm.toList==x.toList)=true:=by assumption
    refine UF.o _ _ (hb.out.trans ((bR wr.heap.size wr).alloc (nR _) _|>.mono hb.out.size)) ?_;rw[fZ.o,if_pos ((wK _ _).1 h)];rfl
   ·have h: (nm.toList==x.toList)=false:=by assumption
    have jB:Hq (Ty.part names ps x=Ty.part (names.drop (k+1)) (ps.drop (k+1)) x):=by show _= _;rw[fZ.o,if_neg (KS _ _ h)]
    go_roundw
    case rel=>exact⟨k+1,by omega,by go_num,hb.out.trans ((bR wr.heap.size wr).alloc (nR _) _|>.mono hb.out.size),jB⟩
    case measure=>simp[intOf];omega
  ·have fZ:Hq (Ty.part names ps x=none):=by show _= _;rw[hE.out,List.drop_eq_nil_of_le (by omega:ps.length≤k)];cases names.drop k<;>rfl
   go_wp2_with fail;refine UF.o _ _ hb.out ?_;rw[fZ.o];rfl
theorem Ax(w0 w:World)(uP:Below w0.heap.size w0 w)(t:Tr)(p:Value)(lA:rep (ak.hp w0) t p)(aF:dP t)(x:BA){R:EW}
  (hR:∀q w',Below w.heap.size w w'→(match t with| .mk _ names parts _ _=>match Ty.part names parts x with|none=>q=.pointer none|some u=>rep (ak.hp w0) u q)→R (.returned q) w'):
  Calls prog 297 #[p,.string x] w R:=
 rD w0 w (ak.le_refl _) uP t p lA aF x hR
theorem AL(w:World)(v1 v2:Value)(l1 l2:List Value)(h1:w.ownsRow 0 107 1 v1 l1.length l1)(h2:w.ownsRow 0 107 1 v2 l2.length l2)(hl:l1.length≤1000000)(F:FuncId)(hc:∀(args:Array Value)(w:World),(callFunc F args).run prog w=.ok (.enter F args) w)
  (f:Nat→Bool) (ie:∀j(hj:j<l1.length)(eh:j<l2.length) w1,Below w.heap.size w w1→∀R:EW,(∀w2,Below w1.heap.size w1 w2→R (.returned (.bool (f j))) w2)→Calls prog F #[l1[j],l2[j]] w1 R) {R:EW}
  (hR:∀w',Below w.heap.size w w'→R (.returned (.bool (decide (l1.length=l2.length)&&!br (λj=>!f j) l1.length))) w'):
  Calls prog 308 #[v1,v2,.func (.func F) #[] #[]] w R:=by
 have HR:=qh hR;have HC:=qh ie;have H1:=qh h1;have H2:=qh h2;obtain⟨a1,c1,rfl⟩:=ag h1;obtain⟨a2,c2,rfl⟩:=ag h2;clear hR ie h1 h2;by_cases bZ:l1.length=l2.length
 ·have k1: ((l1.length:Int) !=l2.length)=false:=by simp[bZ]
  have j7:=qh bZ;rw[decide_eq_true bZ,Bool.true_and]at HR
  clear bZ;go_in;go_wp2_with fail;go_loopw [15] (λi wr=>∃k:Nat,k≤l1.length∧i=.int .i64 k∧Hq (Below w.heap.size w wr)∧Hq (∀j,j<k→f j=true)) (λi _=>l1.length-(intOf i).toNat)
  case atStart=>exact⟨0,by omega,rfl,bR _ _,λj hj=>by omega⟩
  case round=>
   obtain⟨k,hk,rfl,hb,hf⟩:=hrel;by_cases bm:k<l1.length
   ·have kL:k<l2.length:=by have:=j7.o;omega
    obtain⟨g1,abI,e,Un,d1⟩:=fD (az H1.o hb.out) k bm;cases e;obtain⟨g2,qf,e,DX,d2⟩:=fD (az H2.o hb.out) k kL;cases e;have HI:=qh (HC.o k bm kL wr.drew (hb.out.drew));have HT:Hq (f k=false→br (λj=>!f j) l1.length=true):=λh=>bI.2 ⟨k,bm,by simp[h]⟩
    have HN:Hq (f k=true→∀j,j<k+1→f j=true):=λh j hj=>by
     by_cases Hx:j=k
     ·subst Hx;exact h
     ·exact hf.out j (by omega)
    generalize f k=fk at*
    generalize l1[k]=p1 at*
    generalize l2[k]=p2 at*
    go_wp2_with fail;go_region_law(first|(go_simp;refine HI.o _ (λw2 aI=>?_);have c8:=qh ((hb.out.drew).trans (aI.mono (by have:=hb.out.size;simp;omega)));clear aI))
    all_goals
     cases fk
     ·have FJ:=qh (HT.o rfl);rw[FJ.o]at HR
      go_wp2_with fail;exact HR.o _ c8.o
     ·have J6:=qh (HN.o rfl);go_wp2_with fail;go_roundw
      case rel=>exact⟨k+1,by omega,by go_num,c8,J6⟩
      case measure=>simp[intOf];omega
   ·have nn:k=l1.length:=by omega
    have HN:Hq (br (λj=>!f j) l1.length=false):=bh.2 (λj hj=>by rw[hf.out j (by omega)];rfl);rw[HN.o]at HR
    clear nn;go_wp2_with fail;exact HR.o _ hb.out
 ·have k1: ((l1.length:Int) !=l2.length)=true:=by simp;omega
  rw[decide_eq_false bZ,Bool.false_and]at HR
  clear bZ;go_in;go_wp2_with fail;exact HR.o _ (bR _ _)
theorem E'{w:World}{B:Nat}{e:TypeId}{a:Option Addr}{n m cap:Nat}{xs:List Value}(h:w.ownsRow B e 1 (.slice a m cap) m xs)(hn:n≤m):w.ownsRow B e 1 (.slice a n cap) n (xs.take n):=by
 obtain⟨h1,h2⟩:=h;refine⟨by simp;omega,?_⟩;rcases h2 with⟨h2,h3⟩|⟨g,Ao,cur,h2,h3,h4,h5,h6,h7,h8⟩
 ·cases h2;obtain rfl:n=0:=by omega
  exact .inl ⟨rfl,rfl⟩
 ·cases h2;exact .inr ⟨g,cap,cur,rfl,h3,h4,by omega,h6,h7,by rw[←h8,List.take_take];congr 1;omega⟩
def oQ(p q:Value)(w:World)(r:Bool):Prop:=∀w1,Below w.heap.size w w1→∀R:EW,(∀w2,Below w1.heap.size w1 w2→R (.returned (.bool r)) w2)→Calls prog 249 #[p,q] w1 R
theorem Ii(w w1:World)(bb:Nat)(x q:Value)(r:Bool)(hq:w1.cell? ⟨bb,0,none⟩=some q)(hf:oQ x q w r)(hb:Below w.heap.size w w1){R:EW}(hR:∀w2,Below w1.heap.size w1 w2→R (.returned (.bool (!r))) w2):
  Calls prog 303 #[x,.pointer (some ⟨bb,0,none⟩)] w1 R:=by
 have HR:=qh hR;have HF:=qh (hf w1 hb);clear hR hf hb;go_in;go_wp2_with fail;refine HF.o _ (λw2 aI=>?_);have HB:=qh aI;clear aI;go_wp2_with fail;exact HR.o _ HB.o
theorem KD(w w1:World)(bb:Nat)(x q:Value)(r:Bool)(hq:w1.cell? ⟨bb,0,none⟩=some q)(hf:oQ q x w r)(hb:Below w.heap.size w w1){R:EW}(hR:∀w2,Below w1.heap.size w1 w2→R (.returned (.bool r)) w2):
  Calls prog 304 #[x,.pointer (some ⟨bb,0,none⟩)] w1 R:=by
 have HR:=qh hR;have HF:=qh (hf w1 hb);clear hR hf hb;go_in;go_wp2_with fail;refine HF.o _ (λw2 aI=>?_);have HB:=qh aI;clear aI;go_wp2_with fail;exact HR.o _ HB.o
theorem Li(w w1:World)(x y:Value)(r1 r2:Bool)(h1:oQ x y w r1)(h2:oQ y x w r2)(hb:Below w.heap.size w w1){R:EW}(hR:∀w2,Below w1.heap.size w1 w2→R (.returned (.bool (r1||r2))) w2):
  Calls prog 307 #[x,y] w1 R:=by
 have HR:=qh hR;have HF:=qh (h1 w1 hb);have HG:=qh (λw2(aI:Below w1.heap.size w1 w2)=>h2 w2 (hb.trans (aI.mono hb.size)));clear hR h1 h2 hb;go_in;go_wp2_with fail;refine HF.o _ (λw2 aI=>?_);have HB:=qh aI;cases r1
 ·clear aI;go_wp2_with fail;refine HG.o _ HB.o _ (λw3 dD=>?_);have cU:=qh (HB.o.trans (dD.mono HB.o.size));clear dD;go_wp2_with fail;exact HR.o _ cU.o
 ·clear aI;go_wp2_with fail;exact HR.o _ HB.o
theorem Ke(w w1:World)(bb:Nat)(t:Tr)(p:Value)(nm:BA)(pq:Nat)(r:Tr→Bool)(hq:w1.cell? ⟨bb,0,none⟩=some p)(gB:bb<w1.heap.size)(lA:rep (ak.hp w) t p)(aF:dP t)(hf:∀u q,Ty.part (cg t) (Ty.partsOf t) nm=some u→rep (ak.hp w) u q→oQ q (.pointer (some ⟨pq,0,none⟩)) w (r u))(hb:Below w.heap.size w w1){R:EW}
  (hR:∀w2,Below w1.heap.size w1 w2→R (.returned (.bool (match Ty.part (cg t) (Ty.partsOf t) nm with|none=>true|some u=>!r u))) w2):
  Calls prog 306 #[.agg #[.string nm,.pointer (some ⟨pq,0,none⟩)],.pointer (some ⟨bb,0,none⟩)] w1 R:=by
 have HR:=qh hR;have HF:=qh hf;have HB:=qh hb;have df:=hb.trans ((bR w1.heap.size w1).alloc (nR _) (.cells #[.string nm,.pointer (some ⟨pq,0,none⟩)] 221)|>.mono hb.size);have ll:=qh df;have PI:=qh lA;have aY:=qh aF;obtain⟨k,names,parts,list,of⟩:=t;have hz:=hb.size;clear hR hf hb df lA aF;go_in;go_wp2_with fail;refine Ax w _ ll.o _ p PI.o aY.o nm (λq w2 aI vm=>?_);dsimp only[cg,Ty.partsOf]at HR HF vm;have d0:w2.cell? ⟨w1.heap.size,1,none⟩=some (.pointer (some ⟨pq,0,none⟩)):=by
  rw[aI.cell (p:=⟨w1.heap.size,1,none⟩) (by simp),cell_of_block (heap_alloc_new w1 _)];rfl
 have dD:Below w1.heap.size w1 w2:=((bR w1.heap.size w1).alloc (nR _) _).trans (aI.mono (by simp));have cU:=qh dD;cases hp:Ty.part names parts nm with
 |none=>
  rw[hp]at vm HR
  dsimp only at vm HR;subst vm;clear aI dD hp;go_wp2_with fail;exact HR.o _ cU.o
 |some u=>
  rw[hp]at vm HR
  dsimp only at vm HR;obtain⟨pu,rfl,_⟩:=eQ vm;have yG:=ll.o.trans (aI.mono (by simp;omega))
  --the part's tree was there ahead of the call
  have hold:=vm;have HC:=qh (HF.o u _ hp hold w2 yG);clear aI dD hp yG hold vm;go_wp2_with fail;refine HC.o _ (λw5 dW=>?_);have lh:=qh (cU.o.trans (dW.mono cU.o.size));clear dW;go_wp2_with fail;exact HR.o _ lh.o
theorem bM(w:World)(x y:Obj):Below w.heap.size w ((w.alloc x).alloc y):=((bR w.heap.size w).alloc (nR _) x).alloc (by simp) y
abbrev uU(p q:Value)(w:World)(R:EW):Prop:=Calls prog 249 #[p,q] w R
def nE(w:World)(r:Bool)(R:EW):Prop:=∀w',Below w.heap.size w w'→R (.returned (.bool r)) w'
def cW(w:World)(b k:Nat):Prop:=b<w.heap.size∧w.cell? ⟨b,0,none⟩=some (.int .i64 (k:Nat))
theorem int_ne{a b:Nat}(h:a≠b): ((a:Int)==(b:Int))=false:=by simp;omega
theorem LR(w:World)(ba bb ka kb:Nat)(hA:cW w ba ka)(hB:cW w bb kb)(h:ka=5∨kb=5∨kb=6){R:EW}(hR:nE w true R):
  uU (.pointer (some ⟨ba,0,none⟩)) (.pointer (some ⟨bb,0,none⟩)) w R:=by
 have HR:=qh hR;obtain⟨vX,c0⟩:=hA;obtain⟨gB,e0⟩:=hB;clear hR;by_cases h1:ka=5
 ·subst h1;clear h;go_enter func249,ntmps249;go_wp2_with fail;exact HR.o _ (bM w _ _)
 ·have n1: ((ka:Int)==5)=false:=int_ne h1;by_cases h2:kb=5
  ·subst h2;clear h h1;go_enter func249,ntmps249;go_wp2_with fail;exact HR.o _ (bM w _ _)
  ·obtain rfl:kb=6:=by omega
   clear h h1 h2;go_enter func249,ntmps249;go_wp2_with fail;exact HR.o _ (bM w _ _)
theorem Pa(w:World)(ba bb kb:Nat)(hA:cW w ba 10)(hB:cW w bb kb)(h5:kb≠5)(h6:kb≠6)(lv:Value)(c2:w.cell? ⟨ba,2,none⟩=some lv)(r:Bool)
  (hx:∀w2,w2.cell? ⟨w.heap.size+1,0,none⟩=some (.pointer (some ⟨bb,0,none⟩))→Below w.heap.size w w2→∀R:EW,(∀w',Below w2.heap.size w2 w'→R (.returned (.bool r)) w')→Calls prog 299 #[lv,.func (.func 303) #[] #[.pointer (some ⟨w.heap.size+1,0,none⟩)]] w2 R)
  {R:EW} (hR:nE w (!r) R):
  uU (.pointer (some ⟨ba,0,none⟩)) (.pointer (some ⟨bb,0,none⟩)) w R:=by
 have HR:=qh hR;have HX:=qh hx;obtain⟨vX,c0⟩:=hA;obtain⟨gB,e0⟩:=hB;have n1: ((kb:Int)==5)=false:=int_ne h5;have n2: ((kb:Int)==6)=false:=int_ne h6;clear hR hx h5 h6;go_enter func249,ntmps249;go_wp2_with fail;refine HX.o _ (by rw[cell_of_block (aH _ _ _ (by simp))];rfl) (bM w _ _) _ (λw3 dD=>?_);have HB:=qh ((bM w _ _).trans (dD.mono (by simp;omega)));clear dD;go_wp2_with fail;exact HR.o _ HB.o
theorem Pu(w:World)(ba bb ka:Nat)(hA:cW w ba ka)(hB:cW w bb 10)(h5:ka≠5)(dS:ka≠10)(lv:Value)(c2:w.cell? ⟨bb,2,none⟩=some lv)(r:Bool)
  (hx:∀w2,w2.cell? ⟨w.heap.size,0,none⟩=some (.pointer (some ⟨ba,0,none⟩))→Below w.heap.size w w2→∀R:EW,(∀w',Below w2.heap.size w2 w'→R (.returned (.bool r)) w')→Calls prog 299 #[lv,.func (.func 304) #[] #[.pointer (some ⟨w.heap.size,0,none⟩)]] w2 R)
  {R:EW} (hR:nE w r R):
  uU (.pointer (some ⟨ba,0,none⟩)) (.pointer (some ⟨bb,0,none⟩)) w R:=by
 have HR:=qh hR;have HX:=qh hx;obtain⟨vX,c0⟩:=hA;obtain⟨gB,e0⟩:=hB;have n1: ((ka:Int)==5)=false:=int_ne h5;have n2: ((ka:Int)==10)=false:=int_ne dS;clear hR hx h5 dS;go_enter func249,ntmps249;go_wp2_with fail;refine HX.o _ (by rw[cell_of_block ((heap_alloc_old _ _ (by simp)).trans (heap_alloc_new w _))];rfl) (bM w _ _) _ (λw3 dD=>?_);have HB:=qh ((bM w _ _).trans (dD.mono (by simp;omega)));clear dD;go_wp2_with fail;exact HR.o _ HB.o
def Deep(k:Nat):Prop:=k≠5∧k≠6∧k≠10
theorem Ta(w:World)(ba bb ka kb:Nat)(hA:cW w ba ka)(hB:cW w bb kb)(h1:ka≠5)(h2:ka≠10)(h3:Deep kb)(bZ:ka≠kb){R:EW}(hR:nE w false R):
  uU (.pointer (some ⟨ba,0,none⟩)) (.pointer (some ⟨bb,0,none⟩)) w R:=by
 have HR:=qh hR;obtain⟨vX,c0⟩:=hA;obtain⟨gB,e0⟩:=hB;have n1: ((ka:Int)==5)=false:=int_ne h1;have n2: ((ka:Int)==10)=false:=int_ne h2;have n3: ((kb:Int)==5)=false:=int_ne h3.1;have n4: ((kb:Int)==6)=false:=int_ne h3.2.1;have n5: ((kb:Int)==10)=false:=int_ne h3.2.2;have n6: ((ka:Int) !=kb)=true:=by simp;omega
 clear hR h1 h2 h3 bZ;go_enter func249,ntmps249;go_wp2_with fail
 go_region
 all_goals
  go_wp2_with fail;exact HR.o _ (by first|exact bM w _ _|exact(bM w _ _).drew)
theorem Pv(w:World)(ba bb k:Nat)(hA:cW w ba k)(hB:cW w bb k)(h1:Deep k)(h2:k≠7∧k≠8∧k≠9){R:EW}(hR:nE w true R):
  uU (.pointer (some ⟨ba,0,none⟩)) (.pointer (some ⟨bb,0,none⟩)) w R:=by
 have HR:=qh hR;obtain⟨vX,c0⟩:=hA;obtain⟨gB,e0⟩:=hB;have n1: ((k:Int)==5)=false:=int_ne h1.1;have n4: ((k:Int)==6)=false:=int_ne h1.2.1;have n5: ((k:Int)==10)=false:=int_ne h1.2.2;have n6: ((k:Int) !=k)=false:=by simp
 have n7: ((k:Int)==7)=false:=int_ne h2.1;have n8: ((k:Int)==8)=false:=int_ne h2.2.1;have n9: ((k:Int)==9)=false:=int_ne h2.2.2;clear hR h1 h2;go_enter func249,ntmps249;go_wp2_with fail
 go_region
 all_goals
  go_wp2_with fail;exact HR.o _ (by first|exact bM w _ _|exact(bM w _ _).drew)
theorem VR(w:World)(ba bb:Nat)(hA:cW w ba 7)(hB:cW w bb 7)(pv:Value)(c1:w.cell? ⟨bb,1,none⟩=some pv)(r:Bool)
  (hx:∀w2,w2.cell? ⟨w.heap.size,0,none⟩=some (.pointer (some ⟨ba,0,none⟩))→Below w.heap.size w w2→∀R:EW,(∀w',Below w2.heap.size w2 w'→R (.returned (.bool r)) w')→Calls prog 305 #[pv,.func (.func 306) #[] #[.pointer (some ⟨w.heap.size,0,none⟩)]] w2 R)
  {R:EW} (hR:nE w (!r) R):
  uU (.pointer (some ⟨ba,0,none⟩)) (.pointer (some ⟨bb,0,none⟩)) w R:=by
 have HR:=qh hR;have HX:=qh hx;obtain⟨vX,c0⟩:=hA;obtain⟨gB,e0⟩:=hB;clear hR hx;go_enter func249,ntmps249;go_wp2_with fail
 go_region
 all_goals
  go_wp2_with fail;refine HX.o _ (by rw[cell_of_block (ey ((heap_alloc_old _ _ (by simp)).trans (heap_alloc_new w _)))];rfl) (bM w _ _).drew _ (λw3 dD=>?_);have HB:=qh ((bM w _ _).drew.trans (dD.mono (by simp;omega)));clear dD;go_wp2_with fail;exact HR.o _ HB.o
theorem XD(w:World)(ba bb:Nat)(hA:cW w ba 8)(hB:cW w bb 8)(x y:Value)(c3:w.cell? ⟨ba,3,none⟩=some x)(e3:w.cell? ⟨bb,3,none⟩=some y)(r:Bool)(hx:oQ x y w r)
  {R:EW} (hR:nE w r R):
  uU (.pointer (some ⟨ba,0,none⟩)) (.pointer (some ⟨bb,0,none⟩)) w R:=by
 have HR:=qh hR;have HX:=qh hx;obtain⟨vX,c0⟩:=hA;obtain⟨gB,e0⟩:=hB;clear hR hx;go_enter func249,ntmps249;go_wp2_with fail
 go_region
 all_goals go_wp2_with fail
 all_goals
  go_region_law(first|(go_simp;refine HX.o _ (by first|exact bM w _ _|exact(bM w _ _).drew|exact(bM w _ _).drew.drew) _ (λw2 aI=>?_);have c8:=qh (Below.trans (by first|exact bM w _ _|exact(bM w _ _).drew|exact(bM w _ _).drew.drew) (aI.mono (by simp;omega)));clear aI))
 all_goals
  go_wp2_with fail;refine bodyPost_ret ?_ ?_ (HR.o _ c8.o)
  ·simp[results,results249,go_sem]
  ·rfl
theorem SX(w:World)(ba bb:Nat)(hA:cW w ba 9)(hB:cW w bb 9)(a1 a2:Option Addr)(n1 n2 lC mG:Nat)(c2:w.cell? ⟨ba,2,none⟩=some (.slice a1 n1 lC))(e2:w.cell? ⟨bb,2,none⟩=some (.slice a2 n2 mG))(bm:n2<n1)
  {R:EW} (hR:nE w false R):
  uU (.pointer (some ⟨ba,0,none⟩)) (.pointer (some ⟨bb,0,none⟩)) w R:=by
 have HR:=qh hR;obtain⟨vX,c0⟩:=hA;obtain⟨gB,e0⟩:=hB;have k1:decide ((n1:Int)≤n2)=false:=by simp;omega
 have k2:decide (n1≤n2)=false:=by simp;omega
 clear hR;go_enter func249,ntmps249;go_wp2_with fail
 go_region
 all_goals go_wp2_with fail
 all_goals go_region
 all_goals
  go_wp2_with fail;refine HR.o _ ?_;first|exact bM w _ _|exact(bM w _ _).drew|exact(bM w _ _).drew.drew
end
end Go.Proofs.YtdlbhiaceheffabGreatDoor
