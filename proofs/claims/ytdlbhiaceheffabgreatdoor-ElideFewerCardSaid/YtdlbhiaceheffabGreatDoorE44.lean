/- Walk of check.Open. -/
import Derived.Laws.Concat
import Derived.Deep.DeepCutAuto
import Derived.Deep.CutBlock
import Derived.Test.YtdlbhiaceheffabGreatDoorE43
set_option linter.all false
set_option maxRecDepth 100000
set_option maxHeartbeats 8000000
namespace Go.Proofs.YtdlbhiaceheffabGreatDoor
open Go Go.RowKit Ty Tok Prt Tryz Proofs.Tryz
section
open Ty (Tr Ck aN aJ dU)
abbrev XA:Ck:=⟨λ_=>none,λ_=>none⟩
theorem DS{w0 w:World}{Fr:As}(H:Sat w0 w [Fr])(s:BA)(hw:Words w)(hm:s.size<=maxLen){l:List Ty.Sm}(hl:∀pg:Ty.Pg,Ty.parse s=.ok pg->eu 0 l []=(pg.ns,pg.main)){R:EW}
  (aH:∀(pg:Ty.Pg)(X:Cx) cb ca v d nc s' w',Ty.parse s=.ok pg->jC l=.ok v->d.Perm v.out->d.Pairwise (λx y=>x.1<=y.1)->X.wi=jD d->Ic pg X.aK l=.ok s'->X.cav=.map (some ca)->X.main=(pg.main:Nat)->
   Sat w0 w' [Fr,vW X.nv pg.ns,xV X.tv pg.ts,mapA 3 4 ca nc (cS v.ca),mf cb X 10000 s' []]->R (.returned (.tuple #[.pointer (some ⟨cb,0,none⟩),bO (0,0)])) w')
  (au:∀f w',(Ty.parse s=.error f\/∃pg:Ty.Pg,Ty.parse s=.ok pg/\(jC l=.error f\/∃v d,jC l=.ok v/\d.Perm v.out/\d.Pairwise (λx y=>x.1<=y.1)/\Ic pg (λn=>((jD d n).getD 0).toNat) l=.error f))->Sat w0 w' [Fr]->R (.returned (.tuple #[.pointer none,bO f])) w'):
  Calls prog 48 #[.string s] w R:=by
 have aX:=qh aH;have aB:=qh au;have HL:=qh hl;have Ii:∀(fn:Fn)(first cap:Array Value)(w:World),(Instr.makeFunc fn first cap).run prog w=.ok (.func fn first cap) w:=λ_ _ _ _=>rfl
 have Hv:=@run_makeMap prog;have h1:=(H.aj (.cells #[.pointer none] 99) w.heap.size).aj (.cells #[.int .i64 0,.int .i64 0] 25) (w.heap.size+1) (by simp);have H1:=qh (Sat.pack (L:=[]) h1);have HW:=qh (hw.below (((bR _ _).alloc (nR _) (.cells #[.pointer none] 99)).alloc (by simp) (.cells #[.int .i64 0,.int .i64 0] 25)));have Co:=qh hm;clear aH au hw hm hl H h1
 go_enter_defers func48,ntmps48
 go_wp2_with fail;refine I_ H1.o s HW.o Co.o HL.o (λpg nv tv ov ca v d nc w1 ht hv pe hs we UK h2=>?_) (λf w1 hf h2=>?_)
 ·have h3:=(h2.unpack (i:=0) rfl).pick [4,5,6,0,1,2,3];have fa:=h3.free 1 rfl;have fd:=h3.free 2 rfl;have la:=h3.lt 1 rfl;have ld:=h3.lt 2 rfl;have Wr:w.heap.size<w1.heap.size+1:=by omega
  have rL:w.heap.size<w1.heap.size+1+1:=by omega
  have aaf:w.heap.size<w1.heap.size+1+1+1:=by omega
  have abG:w.heap.size<w1.heap.size+1+1+1+1:=by omega
  have a0:=h3.cell 1 rfl 0 rfl;have d0:=h3.cell 2 rfl 0 rfl;have d1:=h3.cell 2 rfl 1 rfl;have n12:=h3.ne 1 2 (by decide) rfl rfl;obtain⟨nr,B_,ni⟩:=h3.mF 3 rfl;obtain⟨tr,C7,mX⟩:=h3.F2 4 rfl;obtain⟨na,lu,en⟩:=ag ni.row;obtain⟨ta,tc,et⟩:=ag mX.row;obtain⟨oa,oc,eo⟩:=ag (h3.row 5 rfl);have H3:=qh h3;clear h2 h3 B_ ni C7 mX;subst en et eo;generalize nr.length=NN at*
  generalize tr.length=TN at*
  dsimp only[bO];go_wp2_with fail;have h4:=((H3.o.store 2 rfl 0 (.int .i64 0)).store 2 rfl 1 (.int .i64 0)).store 1 rfl 0 (.pointer (some ⟨w1.heap.size+1+1+1+1,0,none⟩));have hz: (((w1.setCell ⟨w.heap.size+1,0,none⟩ (.int .i64 0)).setCell ⟨w.heap.size+1,1,none⟩ (.int .i64 0)).setCell ⟨w.heap.size,0,none⟩ (.pointer (some ⟨w1.heap.size+1+1+1+1,0,none⟩))).heap.size=w1.heap.size:=by simp
  clear a0 d0 d1 fa fd n12 la ld Wr rL aaf abG;generalize((w1.setCell ⟨w.heap.size+1,0,none⟩ (.int .i64 0)).setCell ⟨w.heap.size+1,1,none⟩ (.int .i64 0)).setCell ⟨w.heap.size,0,none⟩ (.pointer (some ⟨w1.heap.size+1+1+1+1,0,none⟩))=W2 at h4 hz⊢;generalize w1.heap.size=n1 at*
  have h5:=h4.aj (.cells #[.slice na NN lu,.slice ta TN tc,.int .i64 (pg.main:Nat)] 31) n1 hz.symm;have Ib: (W2.alloc (.cells #[.slice na NN lu,.slice ta TN tc,.int .i64 (pg.main:Nat)] 31)).heap.size=n1+1:=by simp[hz]
  have H5:Hq (Sat w0 (W2.alloc (.cells #[.slice na NN lu,.slice ta TN tc,.int .i64 (pg.main:Nat)] 31)) [Fr,av w.heap.size (.cells #[.pointer (some ⟨n1+1+1+1+1,0,none⟩)] 99 (0,0)),av (w.heap.size+1) (.cells #[.int .i64 0,.int .i64 0] 25 (0,0)),vW (.slice na NN lu) pg.ns,xV (.slice ta TN tc) pg.ts,vC (.slice oa d.length oc) d,mapA 3 4 ca nc (cS v.ca),av n1 (.cells #[.slice na NN lu,.slice ta TN tc,.int .i64 (pg.main:Nat)] 31 (0,0))]):=h5;clear h4 h5 hz H3;generalize W2.alloc (.cells #[.slice na NN lu,.slice ta TN tc,.int .i64 (pg.main:Nat)] 31)=wB at*
  have hk:=SQ (wB:=wB) (nv:=.slice na NN lu) (tv:=.slice ta TN tc) (cav:=.map (some ca)) (main:=(pg.main:Nat)) (n1+1) Ib.symm;have HK:=qh hk;have HD:=qh (H5.o.row 5 rfl);have abI:=qh (H5.o.cell 1 rfl 0 rfl);have RD:=qh (H5.o.lt 1 rfl);have V6:=qh UK;have XP:=qh (H5.o.cell 7 rfl 2 rfl);have ZO:=qh (H5.o.lt 7 rfl);have Bi:=lN ht;obtain⟨LR,AL,Ji,k_⟩:=o8 (HL.o pg ht);have QY:=Bi.ju;have yU:Hq (∀p∈d,p.1<=100000/\p.2<=100000):=λp hp=>by have:=PS hv p (pe.mem_iff.1 hp);omega
  obtain⟨Ww,B_,ni⟩:=H5.o.mF 3 rfl;obtain⟨VX,C7,mX⟩:=H5.o.F2 4 rfl;have hP:PB wB (.slice na NN lu) (.slice ta TN tc) pg:=⟨⟨Ww,B_,ni⟩,⟨VX,C7,mX⟩,Bi⟩
  have wF:∀p∈v.out,((jD d p.1).getD 0).toNat=p.2:=λp hp=>by
   rw[qy (((pe.map Prod.fst).nodup_iff).2 (oG hv)) (pe.mem_iff.2 hp)];rfl
  have Q':=qh (@IZ _ Bi (λn=>((jD d n).getD 0).toNat) _ LR _ hv wF);have HC:=qh (λX cb(h1:X.nv=.slice na NN lu)(h2:X.tv=.slice ta TN tc)=>(show pF wB X cb pg.main (3*aJ l+1) (λbk s=>Ty.j4 pg X.aK l 0 bk s)from by
   have h:=xr (X:=X) (cb:=cb) (by rw[h1,h2];exact hP) (b:=l) (a:=0) (by rw[Nat.zero_add];exact AL) LR (vj (by rw[h1,h2];exact hP) l 0 LR) (K:=3*aJ l+1) (by rw[kp];exact nR _) (λbk s=>j6 l 0 bk s);rw[Nat.zero_add]at h
   rw[Ji];exact h))
  have Ia:Hq (aJ l<=1200):=by show _<=_;omega
  clear Bi LR AL Ji k_ QY B_ ni C7 mX hP wF;clear hk Ib Ii Hv;go_loopw [30] (λi wr=>∃(j:Nat),i=.int .i64 j/\j<=d.length/\Hq (Sat wB wr [bG wB,av (n1+1+1+1+1) (.cells #[.slice na NN lu,.slice ta TN tc,.int .i64 (pg.main:Nat),.map (some (n1+1)),.map (some ca),.map (some (n1+1+1)),.map (some (n1+1+1+1)),.slice none 0 0] 106 (0,0)),mapA 3 3 (n1+1) j (cF (jD (d.take j))),jk 3 (n1+1+1) 0 (gd λ_=>none),jk 3 (n1+1+1+1) 0 (gd λ_=>none),Prt.row 107 1 (.slice none 0 0) 0 [],Fs (λ_=>none)])) (λi _=>d.length-(intOf i).toNat)
  case atStart=>exact⟨0,rfl,Nat.zero_le _,HK.o⟩
  case round=>
   obtain⟨j,rfl,hj,hS⟩:=hrel;have hB:=(gR.fO wB) wr _ 0 hS.out rfl;have pa:=ak hB abI.o;have mI:=nL RD.o hB.size;have aa4:w.heap.size<wr.heap.size+1:=by omega
   by_cases a_:j<d.length
   ·obtain⟨gb,Tf,e,Yk,d0,d1⟩:=V0 (ay HD.o hB) j a_;cases e;have g:=hS.out;have k3:=g.cell 1 rfl 3 rfl;have gh:=g.lt 1 rfl;have OQ:n1+1+1+1+1<wr.heap.size+1:=by omega
    obtain⟨q1,q2⟩:=yU.o d[j] (gM a_);have pK:Hq (jD (d.take (j+1))=λk=>if k=d[j].1 then some ((d[j].2:Nat):Int)else jD (d.take j) k):=by show _= _;rw[List.take_succ_eq_append_getElem a_,FC]
    generalize d[j]=q at*
    have HJ:=V6.o;have g1:=(g.aW (.cells #[.int .i64 (q.1:Nat),.int .i64 (q.2:Nat)] 43)).drew;obtain⟨D,hD,mg⟩:=g1.fi 2 rfl;obtain⟨w6,sk,fC,dQ⟩:=hD.update cy underlying102 (by unfold maxLen;omega) (Maps.keyOf_int_mk underlying3 (zn q.1 q1)) (plainElem_int underlying3 (zn q.2 q2));have h6:=g1.ml 2 rfl dQ fC (Ψ:=cF (λk=>if k=q.1 then some ((q.2:Nat):Int)else jD (d.take j) k)) (se mg q.1 q.2);have H6:=qh h6;clear g g1 hD mg fC dQ h6 hS hB q1 q2;go_wp2_with fail
    go_region
    all_goals
     go_wp2_with fail;go_roundw
     case rel=>exact⟨j+1,by go_num,by omega,by show Sat _ _ _;rw[pK.o];exact H6.o⟩
     case measure=>simp[intOf];omega
   ·have gO:j=d.length:=by omega
    subst gO;have h6:=hS.out;rw[List.take_length]at h6
    have pm:=ak hB XP.o;have Y2:=nL ZO.o hB.size;obtain⟨X,hX⟩:∃X:Cx,X=⟨.slice na NN lu,.slice ta TN tc,(pg.main:Nat),n1+1,d.length,jD d,.map (some ca)⟩:=⟨_,rfl⟩
    have h7:Sat wB wr [bG wB,mf (n1+1+1+1+1) X 0 XA []]:=by
     subst hX;exact Sat.jF (ofb:=n1+1+1) (hasb:=n1+1+1+1) (bkv:=.slice none 0 0) (no:=0) (nh:=0) (fo:=λ_=>none) (fh:=λ_=>none) (bl:=[]) (h0:=λ_=>none) ⟨nR _,nR _,λn=>⟨λ_=>rfl,λt e=>(by cases e)⟩,λn t e=>(by cases e),rfl,λi h=>absurd h (by simp),Nat.zero_le _,FineS.nil,λn=>M8 (λp hp=>(yU.o p hp).2) n⟩ h6
    have I6:X.nv=.slice na NN lu:=by rw[hX]
    have LO:X.tv=.slice ta TN tc:=by rw[hX]
    have Il:X.aK=λn=>((jD d n).getD 0).toNat:=by rw[hX];rfl
    have HX:=qh hX;have bT:Ty.j4 pg X.aK l 0 [] XA≠.error Ty.stuck:=by rw[Il];exact Q'.o.1
    have HV:=qh (HC.o X (n1+1+1+1+1) I6 LO [] XA 0 wr _ (gR.fO wB) h7 (by have:=Ia.o;omega) bT);have HT:=qh ht;have ZL:=qh hv;have KV:=qh pe;have Zw:=qh hs;have SJ:=qh Il;clear h6 h7 hX I6 LO Il bT HC Q' hS hj ht hv pe hs;go_wp2_with fail;refine HV.o _ (λs' w8 hq h8=>?_) (λf w8 hq h8=>?_)
    ·have h9:=H5.o.join (h8.uT (d:=10000) (by have:=Ia.o;omega));have a0:=h9.cell 1 rfl 0 rfl;have d0:=h9.cell 2 rfl 0 rfl;have d1:=h9.cell 2 rfl 1 rfl;have fa:=h9.free 1 rfl;have fd:=h9.free 2 rfl;have la:=h9.lt 1 rfl;have ld:=h9.lt 2 rfl;have n12:=h9.ne 1 2 (by decide) rfl rfl;have H9:=qh h9;have HQ:=qh hq;clear h8 h9 hq HV HK;have n21:w.heap.size+1≠w.heap.size:=by omega
     go_wp2_with fail
     go_region
     all_goals
      have dG:=(((H9.o.store 1 rfl 0 (.pointer (some ⟨n1+1+1+1+1,0,none⟩))).store 2 rfl 0 (.int .i64 0)).store 2 rfl 1 (.int .i64 0)).drew;have pL:=qh dG;clear dG H9 a0 d0 d1 fa fd la ld n12 n21;go_wp2_with fail;refine leaves_cons (f:=92) (args:=#[.pointer (some ⟨w.heap.size,0,none⟩),.pointer (some ⟨w.heap.size+1,0,none⟩)]) (by simp) (by simp[go_sem]) ?_;refine(M6 _ _ _).mono ?_
      rintro e u' Nj ⟨rfl,rfl,rfl⟩
      have a0:=pL.o.cell 1 rfl 0 rfl;have d0:=pL.o.cell 2 rfl 0 rfl;have d1:=pL.o.cell 2 rfl 1 rfl;simp[Leaves,settle,results,results48,go_sem,a0,d0,d1];have hX:=HX.o;exact aX.o pg X _ ca v d nc s' _ HT.o ZL.o KV.o Zw.o (by rw[hX]) HQ.o (by rw[hX]) (by rw[hX]) (by
       have jE:=pL.o.pick [0,3,4,6,8];rw[show X.nv=.slice na NN lu by rw[hX],show X.tv=.slice ta TN tc by rw[hX]];exact jE)
    ·have h9:=H5.o.join h8;have HQ:=qh hq;clear h8 hq HV HK;refine leaves_cons (f:=92) (args:=#[.pointer (some ⟨w.heap.size,0,none⟩),.pointer (some ⟨w.heap.size+1,0,none⟩)]) (by simp) (by simp[go_sem]) ?_;refine(Nw h9 f).mono ?_
     rintro e u' Nj ⟨rfl,rfl,dG⟩
     have a0:=dG.cell 1 rfl 0 rfl;have d0:=dG.cell 2 rfl 0 rfl;have d1:=dG.cell 2 rfl 1 rfl;simp[Leaves,settle,results,results48,go_sem,a0,d0,d1];exact aB.o f _ (.inr ⟨pg,HT.o,.inr ⟨v,d,ZL.o,KV.o,Zw.o,by rw[<-SJ.o];exact HQ.o⟩⟩) (dG.pick [0])
 ·have Ie:f.1≠0:=by
   rcases hf with h|⟨pg,_,h⟩
   ·exact lF h
   ·exact A5 h
  have HF:=qh (show(Ty.parse s=.error f\/∃pg:Ty.Pg,Ty.parse s=.ok pg/\(jC l=.error f\/∃v d,jC l=.ok v/\d.Perm v.out/\d.Pairwise (λx y=>x.1<=y.1)/\Ic pg (λn=>((jD d n).getD 0).toNat) l=.error f))from hf.imp id λ⟨pg,h1,h2⟩=>⟨pg,h1,.inl h2⟩);obtain⟨fe,fp⟩:=f;dsimp only at Ie;have e2: ((fe:Int) !=0)=true:=by simp;omega
  have h3:Sat w0 w1 [Fr,av w.heap.size (.cells #[.pointer none] 99 (0,0)),av (w.heap.size+1) (.cells #[.int .i64 0,.int .i64 0] 25 (0,0))]:=(h2.unpack (i:=0) rfl).pick [0,1,2];have a0:=h3.cell 1 rfl 0 rfl;have d0:=h3.cell 2 rfl 0 rfl;have d1:=h3.cell 2 rfl 1 rfl;have fa:=h3.free 1 rfl;have fd:=h3.free 2 rfl;have la:=h3.lt 1 rfl;have ld:=h3.lt 2 rfl;have n12:=h3.ne 1 2 (by decide) rfl rfl;have n21:w.heap.size+1≠w.heap.size:=by omega
  have Wr:w.heap.size<w1.heap.size+1:=by omega
  have ld1:w.heap.size+1<w1.heap.size+1:=by omega
  have H3:=qh h3;clear h2 h3 hf Ie Hv Ii;dsimp only[bO];go_wp2_with fail
  go_region
  all_goals
   have h9:=((((((H3.o.store 2 rfl 0 (.int .i64 (fe:Nat))).store 2 rfl 1 (.int .i64 (fp:Nat))).store 1 rfl 0 (.pointer none)).store 2 rfl 0 (.int .i64 (fe:Nat))).store 2 rfl 1 (.int .i64 (fp:Nat))).aW (.cells #[.slice none 0 0,.slice none 0 0,.int .i64 0] 31)).drew;have a0:=h9.cell 1 rfl 0 rfl;have d0:=h9.cell 2 rfl 0 rfl;have d1:=h9.cell 2 rfl 1 rfl;have H9:=qh h9;clear h9 fa fd la ld n12 n21 Wr ld1;go_wp2_with fail;simp[bodyPostD,Leaves,results,results48,go_sem,a0,d0,d1];exact aB.o (fe,fp) _ HF.o (H9.o.pick [0])
end
section
open Ty (Tr Ck)
theorem Ba{w0 w:World}{Fr:As}(H:Sat w0 w [Fr])(s:BA)(hw:Words w)(hm:s.size<=maxLen){l:List Ty.Sm}(hl:∀pg:Ty.Pg,Ty.parse s=.ok pg->eu 0 l []=(pg.ns,pg.main)){R:EW}
  (aH:∀(pg:Ty.Pg)(X:Cx) cb ca v nc c w',xi s l=.ok (pg,v,c)->X.aK=qN v->X.cav=.map (some ca)->X.main=(pg.main:Nat)->
   Sat w0 w' [Fr,vW X.nv pg.ns,xV X.tv pg.ts,mapA 3 4 ca nc (cS v.ca),mf cb X 10000 c []]->R (.returned (.tuple #[.pointer (some ⟨cb,0,none⟩),bO (0,0)])) w')
  (au:∀f w',xi s l=.error f->Sat w0 w' [Fr]->R (.returned (.tuple #[.pointer none,bO f])) w'):
  Calls prog 48 #[.string s] w R:=by
 refine DS H s hw hm hl (λpg X cb ca v d nc c w' h1 h2 h3 h4 h5 h6 h7 h8 h9=>?_) (λf w' h1 h2=>au f w' (NT h1) h2);have e:X.aK=qN v:=by
  funext n;show((X.wi n).getD 0).toNat= _;rw[h5,wL h3 (oG h2)];rfl
 exact aH pg X cb ca v nc c w' (yu.2 ⟨h1,h2,by rw[<-e];exact h6⟩) e h7 h8 h9
end
section
open Go Go.RowKit Go.Sort
open Ty (Tr Ck il aJ dU)
namespace Ty
theorem yG{pg:Pg}{tq:Nat->Nat}{l:List Sm}{c:Ck}(hl:eu 0 l []=(pg.ns,pg.main))(h:Ic pg tq l=.ok c): (∀n nd,pg.ns[n]?=some nd->NdQ pg tq c n nd)/\(∃lo,Lt pg.ns lo pg.main)/\Vis pg.ns false pg.main:=by
 obtain⟨LR,AL,hm,k_⟩:=o8 hl;have h1:=C4 l 0 [] _ _ LR h;rw[Nat.zero_add]at h1
 have h2:=h1.still (q:=false) AL (by rfl) (.inr rfl) rfl (hi:=aJ l+1) rfl rfl;rw[Nat.add_sub_cancel]at h2
 refine⟨λn nd hn=>h2.nd n nd (Nat.zero_le _) (by have:=cX hn;omega) hn,?_,?_⟩
 ·obtain⟨_,lo,_,h3⟩:=h2.lt.mem (aJ l) (by simp);exact⟨lo,by rw[hm];exact h3⟩
 ·have h3:=h2.ret (aJ l) (by simp) (by rw[bw AL];show(26:Nat)≠16;decide);rw[hm];exact h3
end Ty
section
variable {wB:World} {pb cb ofb hasb:Nat} {X:Cx} {s:Ck} {h0:Prt.Hp} {pg:Ty.Pg}
theorem JF(E:PlE wB X pg cb ofb hasb s h0):∀(N n lo:Nat),n<N->Lt pg.ns lo n->AB wB X pg s pb cb n
 |0,n,lo,h,_=>absurd h (Nat.not_lt_zero _)
 |N+1,n,lo,h,ht=>by
  cases ht with
  |mk hn hL=>
   rename_i nd;have hC:∀m∈ck nd,m<n/\(m<n->AB wB X pg s pb cb m):=λm hm=>by
    obtain⟨a,k,_,b⟩:=hL.mem m hm;exact⟨a,λ_=>JF E N m k (by omega) b⟩
   by_cases h6:nd.kind=6
   ·exact OX E hn h6 hC
   by_cases qM:nd.kind=22
   ·by_cases hc:nd.c<0
    ·exact Ny E hn qM hc hC
    ·exact MT E hn qM hc hC
   by_cases vQ:nd.kind=26
   ·exact Gw E hn vQ hC
   exact FI E hn ⟨h6,qM,vQ⟩ hC
end
abbrev A3(x y:Bq):Int:=Lib.compareInt x.1.1 y.1.1
theorem TA(x y:Bq):ltOf A3 x y=decide (x.1.1<y.1.1):=by
 unfold ltOf A3 Lib.compareInt;by_cases h:x.1.1<y.1.1
 ·simp[h]
 ·by_cases h2:y.1.1<x.1.1
  ·simp[h,h2];try omega
  ·simp[h,h2];try omega
theorem FF(x y:Bq)(W:World):Calls prog 97 #[.agg #[.int .i64 (x.1.1:Nat),.int .i64 (x.1.2:Nat)],.agg #[.int .i64 (y.1.1:Nat),.int .i64 (y.1.2:Nat)]] W λe w'=>e=.returned (.int .i64 (A3 x y))/\∃q Sl,w'=grow (W.drewN q) Sl:=by
 unfold A3;obtain⟨⟨a,b⟩,ha⟩:=x;obtain⟨⟨c,d⟩,hc⟩:=y;dsimp only at*
 go_in;go_wp2_with fail;refine(Tryz.cmp_Compare_int _ _ _).mono ?_
 rintro e w' ⟨rfl,rfl⟩
 go_wp2_with fail
 go_ret
 refine⟨rfl,0,_,by rw[alloc_eq_grow,alloc_eq_grow,grow_grow];rfl⟩
theorem CH{w0 w:World}{L:List As}{ov:Value}{out:il}(H:Sat w0 w L)(i:Nat)(hi:L[i]?=some (oJ ov out))(hn:∀p∈out,p.1<=1000000)(hl:out.length<=1000000){R:EW}
  (hR:∀w' d,d.Perm out->d.Pairwise (λx y=>x.1<=y.1)->Sat w0 w' (L.set i (oJ ov d))->R (.returned (.tuple #[])) w'):
  Calls prog 96 #[ov,.func (.func 97) #[] #[]] w R:=
 u_ sortGd 62 isAgg62 sizeOf62 A3 TA 97 (enters_of func97 (by kernel_rfl) rfl) FF H i hi hn hl hR
end
section
open Ty (Tr Ck il)
namespace Ty
theorem oo:∀(N:Nat)(l:List Nat),l.Nodup->(∀x∈l,x<N)->l.length<=N
 |0,l,_,h=>by
  cases l with
  |nil=>simp
  |cons a l=>have:=h a (by simp);omega
 |N+1,l,hn,h=>by
  by_cases hm:N∈l
  ·have h1:=oo N (l.erase N) (hn.erase N) λx hx=>by
    have h2:=(hn.mem_erase_iff).1 hx;have:=h x h2.2;omega
   rw[List.length_erase_of_mem hm]at h1
   omega
  ·have:=oo N l hn λx hx=>by
    have:=h x hx;have:x≠N:=λe=>hm (e▸hx)
    omega
   omega
theorem zL.len{lo hi:Nat}{L:il}(h:zL lo hi L):L.length<=hi:=by
 have:=oo hi (L.map Prod.fst) h.2 λx hx=>by
  obtain⟨p,hp,rfl⟩:=List.mem_map.1 hx;exact(h.1 p hp).2
 rwa [List.length_map]at this
end Ty
theorem uL{w0 w:World}{Fr:As}(H:Sat w0 w [Fr])(s:BA)(hw:Words w)(hm:s.size<=maxLen){l:List Ty.Sm}(hl:∀pg:Ty.Pg,Ty.parse s=.ok pg->eu 0 l []=(pg.ns,pg.main)){R:EW}
  (aH:∀(pg:Ty.Pg)(X:Cx) cb ca v nc c ov gs w',xi s l=.ok (pg,v,c)->X.aK=qN v->X.cav=.map (some ca)->X.main=(pg.main:Nat)->gs.Perm (gC pg (qN v) c (pg.main+1) pg.main [])->gs.Pairwise (λx y=>x.1<=y.1)->
   Sat w0 w' [Fr,vW X.nv pg.ns,xV X.tv pg.ts,mapA 3 4 ca nc (cS v.ca),mf cb X 10000 c [],oJ ov gs]->R (.returned (.tuple #[.pointer (some ⟨cb,0,none⟩),ov,bO (0,0)])) w')
  (au:∀f w',xi s l=.error f->Sat w0 w' [Fr]->R (.returned (.tuple #[.pointer none,.slice none 0 0,bO f])) w'):
  Calls prog 51 #[.string s] w R:=by
 have aX:=qh aH;have aB:=qh au;have HW:=qh hw;have Co:=qh hm;have HL:=qh hl;have H1:=qh (Sat.pack (L:=[]) (H.aj (.cells #[.int .i64 0,.int .i64 0] 25) w.heap.size));clear aH au hw hm hl H;go_in;go_wp2_with fail;refine Ba H1.o s (HW.o.below ((bR _ _).alloc (nR _) _)) Co.o HL.o (λpg X cb ca v nc c w1 hq I6 LO Il h2=>?_) (λf w1 hq h2=>?_)
 ·have h5:=h2.aj (.cells #[.int .i64 0,.int .i64 0] 25) w1.heap.size;have hz: (w1.alloc (.cells #[.int .i64 0,.int .i64 0] 25)).heap.size=w1.heap.size+1:=by simp
  obtain⟨nr,B_,ni⟩:=h5.mF 1 rfl;obtain⟨tr,C7,mX⟩:=h5.F2 2 rfl;obtain⟨qK,pe,QD⟩:=yu.1 hq;have N2:=lN qK;have hP:PB (w1.alloc (.cells #[.int .i64 0,.int .i64 0] 25)) X.nv X.tv pg:=⟨⟨nr,B_,ni⟩,⟨tr,C7,mX⟩,N2⟩
  obtain⟨ofb,hasb,bkv,no,nh,fo,fh,bl,h0,hI,h6⟩:=(h5.at 4 rfl).eJ;have TI:=h6.NC hI;obtain⟨hQ,⟨lo,wq⟩,JD⟩:=yG (HL.o pg qK) QD;have hE:PlE (w1.alloc (.cells #[.int .i64 0,.int .i64 0] 25)) X pg cb ofb hasb c h0:=⟨hP,TI,by rw[I6];exact hQ⟩
  have hG:=ym (pg:=pg) (tq:=qN v) (s:=c) (pg.main+1) pg.main lo [] wq (by omega);have X2:=hG.1.len;have B4:pg.main<pg.ns.length:=by obtain⟨_,AL,BM,_⟩:=o8 (HL.o pg qK);rw[BM];exact cX AL
  have QY:=N2.ju;have hC:=λpb=>JF (pb:=pb) hE (pg.main+1) pg.main lo (by omega) wq (pg.main+1) (by omega) [] []
  obtain⟨_,_,_,_,_,_,_,_,_,_,g⟩:=(h2.at 4 rfl).eJ;have c2:=g.cell 1 rfl 2 rfl;have M4:w1.cell? ⟨cb,2,none⟩=some (.int .i64 (pg.main:Nat)):=by rw[c2,<-Il];rfl
  have gh:=g.lt 1 rfl;have OQ:cb<w1.heap.size+1:=by omega
  have HC:=qh hC;have H5:=qh h5;have HQ:=qh hq;have UW:=qh I6;have Ra:=qh LO;have SJ:=qh Il;have aaR:=qh hG;have MZ:=qh JD;clear h2 h5 B_ ni C7 mX qK pe QD N2 hP h6 hI TI hQ wq hE hG hC c2 g hq I6 LO Il H1 JD;rw[show bO (0,0)=Value.agg #[.int .i64 0,.int .i64 0]from rfl];go_wp2_with fail;have h8:=(((((Sat.fO (w1.alloc (.cells #[.int .i64 0,.int .i64 0] 25))).aj (.cells #[.pointer (some ⟨cb,0,none⟩),.slice none 0 0,.slice none 0 0] 164) (w1.heap.size+1) hz.symm).nil 62 2).nil 107 1).iA (P:=Fs λ_=>none) λ_ _ _ e=>(by cases e))
  have h9:=Sat.kW (pb:=w1.heap.size+1) (cb:=cb) (ov:=.slice none 0 0) (bv:=.slice none 0 0) (o:=[]) (bl:=[]) (h1:=λ_=>none) (bk:=[]) ⟨rfl,λi h=>absurd h (by simp),λt h=>(by cases h),by simp⟩ h8;rw[UW.o]at HC
  refine HC.o _ _ _ (gR.fO _) h9 MZ.o (by simp only[List.length_nil];omega) (by simp only[List.length_nil];omega) _ (λw8 dG=>?_);obtain⟨ov,bv,FT,je,Kk,g⟩:=dG.my;obtain⟨oa,oc,rfl⟩:=ag (g.row 2 rfl);have jE:=H5.o.join g;have p1:=jE.cell 6 rfl 1 rfl;have jJ:=jE.lt 6 rfl;have LI:=qh jE;clear h8 h9 dG jE g Kk HC MZ M4 gh OQ H5 hz;go_wp2_with fail;refine CH LI.o 7 rfl (λp hp=>by have:=aaR.o.1.1 p hp;omega) (by simp only[List.nil_append];omega) (λw9 gs hp hs je=>?_);have ku:=hp.length_eq;rw[List.nil_append]at hp ku
  have mO:Sat w0 w9 [ah [Fr,av w.heap.size (.cells #[.int .i64 0,.int .i64 0] 25 (0,0))],vW X.nv pg.ns,xV X.tv pg.ts,mapA 3 4 ca nc (cS v.ca),mf cb X 10000 c [],av w1.heap.size (.cells #[.int .i64 0,.int .i64 0] 25 (0,0)),av (w1.heap.size+1) (Ur cb (.slice oa gs.length oc) bv),oJ (.slice oa gs.length oc) gs]:=by
   have:=je.pick [0,1,2,3,4,5,6,7];rw[ku];exact this
  have z:=(mO.unpack (i:=0) rfl).pick [8,7,0,1,2,3,4,5,6];have z':Sat w0 w9 [av w.heap.size (.cells #[.int .i64 0,.int .i64 0] 25 (0,0)),Fr,vW X.nv pg.ns,xV X.tv pg.ts,mapA 3 4 ca nc (cS v.ca),mf cb X 10000 c [],av w1.heap.size (.cells #[.int .i64 0,.int .i64 0] 25 (0,0)),av (w1.heap.size+1) (Ur cb (.slice oa gs.length oc) bv),oJ (.slice oa gs.length oc) gs]:=z;have a0:=z'.cell 0 rfl 0 rfl;have a1:=z'.cell 0 rfl 1 rfl;have fa:=z'.free 0 rfl;have la:=z'.lt 0 rfl;have y0:=z'.cell 6 rfl 0 rfl;have y1:=z'.cell 6 rfl 1 rfl;have ly:=z'.lt 6 rfl;have p1:=z'.cell 7 rfl 1 rfl;have jJ:=z'.lt 7 rfl;have n1:=z'.ne 0 6 (by decide) rfl rfl;have n2:=z'.ne 0 7 (by decide) rfl rfl;have n3:=z'.ne 6 7 (by decide) rfl rfl;have HG:=qh (λw'(h:Sat w0 w' [Fr,vW X.nv pg.ns,xV X.tv pg.ts,mapA 3 4 ca nc (cS v.ca),mf cb X 10000 c [],oJ (.slice oa gs.length oc) gs])=>aX.o pg X cb ca v nc c (.slice oa gs.length oc) gs w' HQ.o UW.o Ra.o SJ.o hp hs h);rw[<-ku]at*
  have HZ:=qh z';generalize gs.length=GL at*
  clear je mO z z' hp hs ku LI;go_wp2_with fail
  go_region
  all_goals
   go_wp2_with fail;refine bodyPost_ret ?_ rfl (HG.o _ ?_)
   ·simp[results,results51,go_sem,bO,a0,a1]
   ·exact(((HZ.o.store 0 rfl 0 _).store 0 rfl 1 _).drew.pick [1,2,3,4,5,8])
 ·have Ie:=EI HL.o hq;obtain⟨fe,fp⟩:=f;dsimp only at Ie;have e2: ((fe:Int) !=0)=true:=by simp;omega
  have h4:=((h2.unpack (i:=0) rfl).pick [0,1])
  have z0:=h4.cell 1 rfl 0 rfl;have z1:=h4.cell 1 rfl 1 rfl;have fz:=h4.free 1 rfl;have hz:=h4.lt 1 rfl;have Ep:w.heap.size<w1.heap.size+1:=by omega
  have H4:=qh h4;have HQ:=qh hq;clear h2 h4 hq H1 Ie;dsimp only[bO];go_wp2_with fail
  go_region
  all_goals
   go_wp2_with fail;refine bodyPost_ret ?_ rfl (aB.o (fe,fp) _ HQ.o ?_)
   ·simp[results,results51,go_sem,bO,hz,z0,z1]
   ·exact((((H4.o.store 1 rfl 0 _).store 1 rfl 1 _).aW _).drew.pick [0])
end
section
open Go.WideElems (Fit rg)
def fT(N:Nat)(D:Dm):Prop:=∃es,D=.map es/\∀p∈es,∃m:Nat,m<N/\p.1=.int .i64 (m:Nat)
theorem fT.put{N:Nat}{D:Dm}(h:fT N D){n:Nat}(hn:n<N)(d:Dm):fT N (D.put (.int .i64 (n:Nat)) d):=by
 obtain⟨es,rfl,g⟩:=h;refine⟨_,rfl,λp hp=>?_⟩;rcases List.mem_cons.1 ((WideShapes.insert_perm _ _).mem_iff.1 hp)with rfl|hp
 ·exact⟨n,hn,rfl⟩
 ·exact g p (List.mem_filter.1 hp).1
theorem fT.del{N:Nat}{D:Dm}(h:fT N D)(k:Lit):fT N (D.del k):=by
 obtain⟨es,rfl,g⟩:=h;exact⟨_,rfl,λp hp=>g p (List.mem_filter.1 hp).1⟩
theorem fT.nil(N:Nat):fT N (.map []):=⟨[],rfl,λp hp=>(by cases hp)⟩
theorem fT.fit{w:World}{e:TypeId}{b n N:Nat}{D:Dm}(h:w.ownsMap prog 3 (plainElem prog e) b n D)(g:fT N D):w.ownsMap prog 3 (plainElem prog e) b N D:=by
 obtain⟨es,clock,g1,g2,g3,rfl⟩:=h;refine⟨es,clock,g1,g2,?_,rfl⟩;obtain⟨l,e1,g4⟩:=g;have hl: ((es.toList.map (rg prog 3 (plainElem (H:=Unit) prog e))).foldr DataW.insert []).length=es.size:=by rw[(WideShapes.sorted_perm _).length_eq];simp
 have hp:=WideShapes.sorted_perm (es.toList.map (rg prog 3 (plainElem (H:=Unit) prog e)));have hr:=(hp.pairwise_iff λh=>Ne.symm h).2 (WideShapes.apart_of_rising _ (Maps.fit_rising cy g2));cases e1;rw[<-hl];have hk: ((List.foldr DataW.insert [] (es.toList.map (rg prog 3 (plainElem (H:=Unit) prog e)))).map λp=>match p.1 with| .int _ z=>z.toNat| _=>0).Nodup:=by
  rw[List.nodup_iff_pairwise_ne,List.pairwise_map];refine List.Pairwise.imp_of_mem ?_ hr;intro p q hp hq bT e;obtain⟨m,_,e1⟩:=g4 p hp;obtain⟨m2,_,e2⟩:=g4 q hq;rw[e1,e2]at e bT
  simp only[Int.toNat_natCast]at e;exact bT (by rw[e])
 have:=oo N _ hk λx hx=>by
  obtain⟨p,hp,rfl⟩:=List.mem_map.1 hx;obtain⟨m,hm,e1⟩:=g4 p hp;rw[e1];simpa using hm
 rwa [List.length_map]at this
def kD(N:Nat)(K:Kt)(D:Dm):Prop:=fT N D/\(∀m:Nat,Maps.has D (.int .i64 (m:Nat))=(K m).isSome)/\(∀m:Nat,D.atKey (.int .i64 (m:Nat)) (.lit (.int .i64 0))=.lit (.int .i64 ((K m).getD 0:Nat)))/\∀m t,K m=some t->t<=127
def NY(N:Nat)(g:Nat->Bool)(D:Dm):Prop:=fT N D/\∀m:Nat,D.atKey (.int .i64 (m:Nat)) (.lit (.bool false))=.lit (.bool (g m))
theorem fT.map{N:Nat}{D:Dm}(h:fT N D):Maps.IsMap D:=by obtain⟨es,rfl,_⟩:=h;exact⟨es,rfl⟩
theorem kD.nil(N:Nat):kD N (λ_=>none) (.map []):=⟨fT.nil N,λ_=>rfl,λ_=>rfl,λ_ _ h=>by cases h⟩
theorem NY.nil(N:Nat):NY N (λ_=>false) (.map []):=⟨fT.nil N,λ_=>rfl⟩
theorem kD.put{N:Nat}{K:Kt}{D:Dm}(h:kD N K D){n:Nat}(hn:n<N){t:Nat}(ht:t<=127):kD N (nD K n (some t)) (D.put (.int .i64 (n:Nat)) (.lit (.int .i64 (t:Nat)))):=by
 refine⟨h.1.put hn _,λm=>?_,λm=>?_,λm u hu=>?_⟩;rotate_right
 ·unfold nD at hu;split at hu
  ·cases hu;exact ht
  ·exact h.2.2.2 m u hu
 all_goals unfold nD;by_cases hx:m=n
 ·subst hx;rw[if_pos rfl,Maps.has_put_same h.1.map (show WideAt.IsKeyLit (.int _ _)from trivial)];rfl
 ·rw[if_neg hx,Maps.has_put_other (fM hx)];exact h.2.1 m
 ·subst hx;rw[if_pos rfl,Maps.atKey_put_same h.1.map (show WideAt.IsKeyLit (.int _ _)from trivial)];rfl
 ·rw[if_neg hx,Maps.atKey_put_other (fM hx)];exact h.2.2.1 m
theorem NY.put{N:Nat}{g:Nat->Bool}{D:Dm}(h:NY N g D){n:Nat}(hn:n<N)(t:Bool):NY N (nD g n t) (D.put (.int .i64 (n:Nat)) (.lit (.bool t))):=by
 refine⟨h.1.put hn _,λm=>?_⟩;unfold nD;by_cases hx:m=n
 ·subst hx;rw[if_pos rfl,Maps.atKey_put_same h.1.map (show WideAt.IsKeyLit (.int _ _)from trivial)]
 ·rw[if_neg hx,Maps.atKey_put_other (fM hx)];exact h.2 m
theorem kD.del{N:Nat}{K:Kt}{D:Dm}(h:kD N K D)(n:Nat):kD N (λk=>if k=n then none else K k) (D.del (.int .i64 (n:Nat))):=by
 refine⟨h.1.del _,λm=>?_,λm=>?_,λm u hu=>?_⟩;rotate_right
 ·dsimp only at hu;split at hu
  ·cases hu
  ·exact h.2.2.2 m u hu
 all_goals dsimp only;by_cases hx:m=n
 ·subst hx;rw[if_pos rfl,Maps.has_del_same];rfl
 ·rw[if_neg hx,Maps.has_del_other (fM hx)];exact h.2.1 m
 ·subst hx;rw[if_pos rfl,Maps.atKey_del_same];rfl
 ·rw[if_neg hx,Maps.atKey_del_other (fM hx)];exact h.2.2.1 m
section
variable {wB w:World} {L:List As} {b:Nat}
abbrev kA(b:Nat)(K:Kt):As:=mapA 3 3 b 100001 (kD 100001 K)
abbrev Oo(b:Nat)(g:Nat->Bool):As:=mapA 3 4 b 100001 (NY 100001 g)
theorem Vc{n:Nat}(hn:n<=100000): (Lit.int .i64 (n:Nat)).wf=true:=WalkArith.wf_i64 (by omega)
theorem Prt.Sat.JH{K:Kt}(H:Sat wB w L)(i:Nat)(hi:L[i]?=some (kA b K)){t:TypeId}(ht:prog.underlying t=some (.map 3 3)){n v:Nat}(hn:n<=100000)(hv:v<=127):
  ∃w',(Instr.mapUpdate t (.map (some b)) (.int .i64 (n:Nat)) (.int .i64 (v:Nat))).run prog w=.ok () w'/\Sat wB w' (L.set i (kA b (nD K n (some v)))):=by
 obtain⟨D,h1,h2⟩:=H.fi i hi;obtain⟨w',lx,sT,iI⟩:=h1.update cy ht (by unfold maxLen;omega) (Maps.keyOf_int_mk underlying3 (Vc hn)) (plainElem_int underlying3 (Vc (show v<=100000 by omega)));have h3:=h2.put (show n<100001 by omega) hv;exact⟨w',lx,H.ml i hi iI (fT.fit sT h3.1) h3⟩
theorem Prt.Sat.Tn{g:Nat->Bool}(H:Sat wB w L)(i:Nat)(hi:L[i]?=some (Oo b g)){n:Nat}(v:Bool)(hn:n<=100000):
  ∃w',(Instr.mapUpdate 89 (.map (some b)) (.int .i64 (n:Nat)) (.bool v)).run prog w=.ok () w'/\Sat wB w' (L.set i (Oo b (nD g n v))):=by
 obtain⟨D,h1,h2⟩:=H.fi i hi;obtain⟨w',lx,sT,iI⟩:=h1.update cy underlying89 (by unfold maxLen;omega) (Maps.keyOf_int_mk underlying3 (Vc hn)) (plainElem_bool underlying4 v);have h3:=h2.put (show n<100001 by omega) v;exact⟨w',lx,H.ml i hi iI (fT.fit sT h3.1) h3⟩
end
end
theorem yN{t:TypeId}(ht:prog.underlying t=some (.map 3 3)){w:World}{b n m:Nat}{K:Kt}{D:Dm}(h:w.ownsMap prog 3 (plainElem prog 3) b n D)(hD:kD 100001 K D)(hm:m<=100000):
  (Instr.lookup t (.map (some b)) (.int .i64 (m:Nat)) true).run prog w=.ok (.tuple #[.int .i64 ((K m).getD 0:Nat),.bool (K m).isSome]) w:=by
 have oj: (Lit.int .i64 (m:Nat)).wf=true:=WalkArith.wf_i64 (by omega);obtain⟨v,ps,lx,hv⟩:=h.look_ok cy ht (ye w) (zd:=.lit (.int .i64 0)) (zp:=[]) (by kernel_rfl) (Maps.keyOf_int_mk underlying3 oj);obtain⟨c,rfl,e,_⟩:=plainElem_int_inv underlying3 hv;rw[hD.2.2.1 m]at e
 simp only[Prod.mk.injEq,DataW.lit.injEq,Lit.int.injEq,true_and]at e;rw[lx,hD.2.1 m,<-e.1]
theorem G3{P:Program}{e:TypeId}(he:P.underlying e=some .bool){v:Value}{z:Dm×List MemPlace}(h:plainElem P e v=some z):∃c,v=.bool c/\z=(.lit (.bool c),[]):=by
 unfold plainElem at h;rw[he]at h
 cases v<;>simp at h
 exact⟨_,rfl,h.symm⟩
theorem KT(W:World): (zeroValue 4).run prog W=.ok (.bool false) W:=by simp[zeroValue,go_sem];rfl
theorem KN{w:World}{b n m:Nat}{D:Dm}(h:w.ownsMap prog 3 (plainElem prog 4) b n D)(hm:m<=100000):∃c,D.atKey (.int .i64 (m:Nat)) (.lit (.bool false))=.lit (.bool c)/\
  (Instr.lookup 89 (.map (some b)) (.int .i64 (m:Nat)) false).run prog w=.ok (.bool c) w:=by
 have oj: (Lit.int .i64 (m:Nat)).wf=true:=WalkArith.wf_i64 (by omega);obtain⟨v,ps,lx,hv⟩:=h.lookup cy underlying89 (KT w) (zd:=.lit (.bool false)) (zp:=[]) (by kernel_rfl) (Maps.keyOf_int_mk underlying3 oj);obtain⟨c,rfl,e⟩:=G3 underlying4 hv;exact⟨c,congrArg Prod.fst e,lx⟩
abbrev Rj(cb gb kb nb:Nat):Obj:=.cells #[.pointer (some ⟨cb,0,none⟩),.map (some gb),.map (some kb),.map (some nb)] 176 (0,0)
def BQ(fb cb gb kb nb:Nat)(G K:Kt)(g:Nat->Bool):List As:=[av fb (Rj cb gb kb nb),kA gb G,kA kb K,Oo nb g]
def mV(fb cb gb nb:Nat)(G K:Kt)(g:Nat->Bool):As:=cm λkb=>ah (BQ fb cb gb kb nb G K g)
structure ElE(wB:World)(X:Cx)(pg:Ty.Pg)(cb ca:Nat)(cv:Nat->Bool):Prop where
 P:PB wB X.nv X.tv pg
 W:∃ofb hasb s h0,CkW wB cb X ofb hasb s h0
 lay:∀(n:Nat)(nd:Nd),pg.ns[n]?=some nd->(nd.kind=20->0<=nd.c)/\nd.list.length<=n
 c4:wB.cell? ⟨cb,4,none⟩=some (.map (some ca))
 ZN:∃(n:Nat)(D:Dm),wB.ownsMap prog 3 (plainElem prog 4) ca n D/\∀(m:Nat) c,D.atKey (.int .i64 (m:Nat)) (.lit (.bool false))=.lit (.bool c)->c=cv m
section
variable {wB w:World} {Fr:As} {X:Cx} {pg:Ty.Pg} {fb cb ca gb kb nb:Nat} {cv:Nat->Bool} {G K:Kt} {g:Nat->Bool}
theorem Prt.Sat.jZ(h:Sat wB w [Fr,mV fb cb gb nb G K g]):∃kb,Sat wB w (Fr::BQ fb cb gb kb nb G K g):=by
 obtain⟨kb,g1⟩:=h.ex (i:=1) rfl;exact⟨kb,g1.unpack (i:=1) rfl⟩
theorem Prt.Sat.nH(h:Sat wB w (Fr::BQ fb cb gb kb nb G K g)):Sat wB w [Fr,mV fb cb gb nb G K g]:=
 (Sat.pack (L:=[Fr]) h).cL (i:=1) rfl λ_ ha=>⟨kb,ha⟩
theorem ElE.oL(h:ElE wB X pg cb ca cv)(hb:Below wB.heap.size wB w){n:Nat}(hn:n<=100000):w.cell? ⟨cb,3,none⟩=some (.map (some X.nV))/\(Instr.lookup 102 (.map (some X.nV)) (.int .i64 (n:Nat)) false).run prog w=.ok (.int .i64 (X.aK n:Nat)) w/\X.aK n<=100000:=by
 obtain⟨_,_,_,_,h1⟩:=h.W;have h2:=h1.below hb;exact⟨h2.c3,h2.oL hn⟩
theorem ElE.S0(h:ElE wB X pg cb ca cv)(hb:Below wB.heap.size wB w){n:Nat}(hn:n<=100000):w.cell? ⟨cb,4,none⟩=some (.map (some ca))/\(Instr.lookup 89 (.map (some ca)) (.int .i64 (n:Nat)) false).run prog w=.ok (.bool (cv n)) w:=by
 obtain⟨_,D,h1,h2⟩:=h.ZN;obtain⟨c,e,h3⟩:=KN (fQ h1 hb) hn;rw[h2 n c e]at h3
 exact⟨ak hb h.c4,h3⟩
theorem ElE.Rk(h:ElE wB X pg cb ca cv)(hb:Below wB.heap.size wB w):w.cell? ⟨cb,0,none⟩=some X.nv/\cb<w.heap.size:=by
 obtain⟨_,_,_,_,h1⟩:=h.W;have h2:=h1.below hb;exact⟨h2.c0,h2.lt⟩
theorem o7(hE:ElE wB X pg cb ca cv)(hb:Below wB.heap.size wB w){id:Nat}{nd:Nd}(hn:pg.ns[id]?=some nd)(f0:w.cell? ⟨fb,0,none⟩=some (.pointer (some ⟨cb,0,none⟩)))(CB:fb<w.heap.size){R:EW}
  (hR:∀lv w',Below w.heap.size w w'->wB.ownsRow 0 3 1 lv nd.list.length (nd.list.map aO)->R (.returned (aG nd lv)) w'):
  Calls prog 171 #[.pointer (some ⟨fb,0,none⟩),.int .i64 (id:Nat)] w R:=by
 obtain⟨c0,gh⟩:=hE.Rk hb;obtain⟨g1,cap,lv,e,k_,hg,kK,Dt,hA,hl,_,hN⟩:=hE.P.look hn;rw[e]at c0
 obtain⟨q0,q1,q2,q3,q4,q5,q6,q7,q8⟩:=hA.below hb;have U5:g1<w.heap.size:=nL hg hb.size;obtain⟨la,lc,rfl⟩:=ag hl;have HR:=qh (λw' ff=>hR (.slice la nd.list.length lc) w' ff hl);unfold maxLen at Dt;clear hR hA hl hb hE hn e;generalize pg.ns.length=N at*
 go_in;go_wp2_with fail;refine bodyPost_ret ?_ rfl (HR.o _ ?_)
 ·simp[results,results171,go_sem,aG]
 ·exact(bR _ _).alloc (nR _) _
theorem AZ(hE:ElE wB X pg cb ca cv)(hF:gR wB Fr)(H:Sat wB w (Fr::BQ fb cb gb kb nb G K g)){n:Nat}(hn:n<=100000){R:EW}
  (hR:R (.returned (.int .i64 (Oy K cv n:Nat))) w):
  Calls prog 262 #[.pointer (some ⟨fb,0,none⟩),.int .i64 (n:Nat)] w R:=by
 have hb:=hF w _ 0 H rfl;obtain⟨c0,gh⟩:=hE.Rk hb;obtain⟨c4,Qa⟩:=hE.S0 hb hn;obtain⟨D,tG,pD⟩:=H.fi 3 rfl;have bu:=yN underlying174 tG pD hn;have f0:=H.cell 1 rfl 0 rfl;have f2:=H.cell 1 rfl 2 rfl;have CB:=H.lt 1 rfl;have HR:=qh hR;clear hE hF H hb tG pD hR;unfold Oy at HR;cases hK:K n with
 |none=>
  rw[hK]at bu
  simp only[hK,Option.getD_none]at HR;simp only[Option.getD_none,Option.isSome_none]at bu;rw[ite_self]at HR
  clear Qa c4;go_in;go_wp2_with fail;exact HR.o
 |some t=>
  rw[hK]at bu
  simp only[hK,Option.getD_some]at HR;simp only[Option.getD_some,Option.isSome_some]at bu;cases hc:cv n with
  |true=>
   rw[hc]at Qa
   rw[hc,if_pos rfl]at HR
   go_in;go_wp2_with fail;exact HR.o
  |false=>
   rw[hc]at Qa
   rw[hc,if_neg (by simp)]at HR
   go_in;go_wp2_with fail;exact HR.o
end
theorem Ph(x:BA)(l:Array UInt8):x=⟨l⟩↔x.toList=l.toList:=by
 rw[ByteArray.toList_eq];constructor
 ·intro h;rw[h]
 ·intro h;exact ByteArray.ext (Array.ext' h)
theorem Ch{w:World}(nd:Nd)(lv:Value){R:EW}(hR:∀w',Below w.heap.size w w'->R (.returned (.tuple #[.int .i64 ((AP nd).getD 0:Nat),.bool (AP nd).isSome])) w'):
  Calls prog 263 #[aG nd lv] w R:=by
 have HR:=qh (λ(w':World)(o:Option Nat)(e:AP nd=o)(h:Below w.heap.size w w')=>(show R (.returned (.tuple #[.int .i64 (o.getD 0:Nat),.bool o.isSome])) w' from e▸hR w' h));clear hR;unfold AP at HR;unfold aG;simp only[Ph]at HR;cases J8: ((nd.kind:Int) !=13)<;>cases TF: ((nd.kind:Int) !=12)
 rotate_right
 ·have hk:¬(nd.kind=13\/nd.kind=12):=by simp at J8 TF;omega
  rw[if_neg hk]at HR
  have HG:=qh (λw'=>HR.o w' none rfl);clear HR hk;go_in;go_wp2_with fail;exact HG.o _ ((bR _ _).alloc (nR _) _)
 all_goals
  rw[if_pos (by simp at J8 TF;omega)]at HR
  go_in;go_wp2_with fail;all_goals first
   |exact HR.o _ (some 2) (by simp_all) ((bR _ _).alloc (nR _) _)
   |exact HR.o _ (some 1) (by simp_all) ((bR _ _).alloc (nR _) _)
   |exact HR.o _ (some 4) (by simp_all) ((bR _ _).alloc (nR _) _)
   |exact HR.o _ none (by simp_all) ((bR _ _).alloc (nR _) _)
   |(exfalso;simp_all;done)
section
variable {wB w:World} {Fr:As} {X:Cx} {pg:Ty.Pg} {fb cb ca gb kb nb:Nat} {cv:Nat->Bool} {G K:Kt} {g:Nat->Bool}
theorem uZ(hE:ElE wB X pg cb ca cv)(hF:gR wB Fr){id:Nat}{nd:Nd}(hn:pg.ns[id]?=some nd)(hid:id<=100000)(H:Sat wB w (Fr::BQ fb cb gb kb nb G K g)){R:EW}
  (hR:∀w',Below w.heap.size w w'->R (.returned (.int .i64 (vt pg X.aK cv G K id:Nat))) w'):
  Calls prog 175 #[.pointer (some ⟨fb,0,none⟩),.int .i64 (id:Nat)] w R:=by
 have dO:=qh (λR=>o7 (R:=R) hE (hF _ _ 0 H rfl) hn (H.cell 1 rfl 0 rfl) (H.lt 1 rfl));have HR:=qh (λ(w':World)(t:Nat)(e:vt pg X.aK cv G K id=t)(h:Below w.heap.size w w')=>(show R (.returned (.int .i64 (t:Nat))) w' from e▸hR w' h));have HH:=qh H;have HE:=qh hE;have HF:=qh hF;have HI:=qh hid;unfold vt at HR;rw[bw hn]at HR
 clear hR H hE hF hn hid;obtain⟨k,a,b,c,ls,tx,n,ty,ps⟩:=nd;dsimp only at HR dO;by_cases hk:k=1\/k=2\/k=3\/k=4\/k=6\/k=10\/k=11
 ·rcases hk with rfl|rfl|rfl|rfl|rfl|rfl|rfl;all_goals
   go_in;go_wp2_with fail;refine dO.o _ (λlv w2 aD hl=>?_);obtain⟨la,lc,rfl⟩:=ag hl;clear hl;dsimp only[aG];go_wp2_with fail;first
   |exact HR.o _ 1 (by simp) (aD.alloc aD.size _)
   |exact HR.o _ 4 (by simp) (aD.alloc aD.size _)
   |exact HR.o _ 2 (by simp) (aD.alloc aD.size _)
   |exact HR.o _ 8 (by simp) (aD.alloc aD.size _)
   |exact HR.o _ 64 (by simp) (aD.alloc aD.size _)
   |exact HR.o _ 16 (by simp) (aD.alloc aD.size _)
   |exact HR.o _ 32 (by simp) (aD.alloc aD.size _)
 by_cases h5:k=5
 ·subst h5;clear hk;go_in;go_wp2_with fail;refine dO.o _ (λlv w2 aD hl=>?_);obtain⟨la,lc,rfl⟩:=ag hl;have H2:=HH.o.below aD;have f0:=H2.cell 1 rfl 0 rfl;have CB:=H2.lt 1 rfl;have Q8:=HF.o _ _ 0 H2 rfl;have c3:=(HE.o.oL Q8 HI.o).1;have lR:=λo=>(HE.o.oL (Q8.alloc Q8.size o) HI.o).2.1
  have gh:=(HE.o.Rk Q8).2;have Kd:=qh (λR o=>AZ (R:=R) HE.o HF.o (H2.below ((bR _ w2).alloc (nR _) o)) (HE.o.oL Q8 HI.o).2.2);have abA:fb<w2.heap.size+1:=by omega
  have OQ:cb<w2.heap.size+1:=by omega
  have cU:=qh (λo=>aD.alloc aD.size o);clear hl aD H2 Q8;dsimp only[aG];go_wp2_with fail;refine Kd.o _ _ ?_;go_wp2_with fail;exact HR.o _ _ (by simp) (cU.o _)
 have HS:=qh (λlv w=>@Ch w ⟨k,a,b,c,ls,tx,n,ty,ps⟩ lv);have e1: ((k:Int)==1)=false:=beq_eq_false_iff_ne.2 (by omega);have e2: ((k:Int)==2)=false:=beq_eq_false_iff_ne.2 (by omega);have e3: ((k:Int)==3)=false:=beq_eq_false_iff_ne.2 (by omega);have e4: ((k:Int)==4)=false:=beq_eq_false_iff_ne.2 (by omega);have e5: ((k:Int)==5)=false:=beq_eq_false_iff_ne.2 (by omega);have e6: ((k:Int)==6)=false:=beq_eq_false_iff_ne.2 (by omega);have tk: ((k:Int)==10)=false:=beq_eq_false_iff_ne.2 (by omega);have LN: ((k:Int)==11)=false:=beq_eq_false_iff_ne.2 (by omega);rw[if_neg (by omega),if_neg (by omega),if_neg (by omega),if_neg (by omega),if_neg (by omega),if_neg (by omega),if_neg (by omega),if_neg h5]at HR
 generalize AP ⟨k,a,b,c,ls,tx,n,ty,ps⟩=sg at*
 clear hk h5;go_in;go_wp2_with fail;refine dO.o _ (λlv w2 aD hl=>?_);obtain⟨la,lc,rfl⟩:=ag hl;clear hl;dsimp only[aG];go_wp2_with fail;refine HS.o _ _ (λw4 vR=>?_);have dM:=(aD.alloc aD.size _).trans (vR.mono (aD.alloc aD.size _).size);have H5:=HH.o.below dM;obtain⟨D,tG,pD⟩:=H5.fi 2 rfl;have bu:=yN underlying102 tG pD HI.o;have f1:=H5.cell 1 rfl 1 rfl;have CB:=H5.lt 1 rfl;have kt:=qh dM;clear aD vR dM H5 tG pD;cases sg with
 |some t=>
  go_wp2_with fail;exact HR.o _ _ (by simp) kt.o
 |none=>
  cases hG:G id with
  |some t=>
   rw[hG]at bu
   go_wp2_with fail;exact HR.o _ _ (by simp[hG]) kt.o
  |none=>
   rw[hG]at bu
   go_wp2_with fail;exact HR.o _ 127 (by simp[hG]) kt.o
end
theorem LZ:∀a b:Fin 128,bits BinOp.and IntKind.i64 ((a.1:Nat):Int) ((b.1:Nat):Int)=((a.1&&&b.1:Nat):Int)/\(bits BinOp.andNot IntKind.i64 ((a.1:Nat):Int) ((b.1:Nat):Int)==0)=(a.1&&&(127-b.1)==0):=by decide+kernel
theorem Nv(a b:Nat)(ha:a<=127)(hb:b<=127):bits BinOp.and IntKind.i64 (a:Int) (b:Int)=((a&&&b:Nat):Int)/\(bits BinOp.andNot IntKind.i64 (a:Int) (b:Int)==0)=(a&&&(127-b)==0):=LZ ⟨a,by omega⟩ ⟨b,by omega⟩
theorem Lc{K:Kt}(h:∀m t,K m=some t->t<=127)(ca:Nat->Bool)(n:Nat):Oy K ca n<=127:=by
 unfold Oy;split
 ·omega
 ·cases hk:K n with
  |none=>simp
  |some t=>exact h n t hk
section
variable {wB w:World} {Fr:As} {X:Cx} {pg:Ty.Pg} {fb cb ca gb kb nb:Nat} {cv:Nat->Bool} {G K:Kt} {g:Nat->Bool}
theorem Cz(hE:ElE wB X pg cb ca cv)(hF:gR wB Fr){id:Nat}(hid:id<=100000)(H:Sat wB w (Fr::BQ fb cb gb kb nb G K g)){R:EW}
  (hR:∀w',Sat wB w' (Fr::BQ fb cb gb kb nb G (E3 X.aK cv G id (K,g)).1 (E3 X.aK cv G id (K,g)).2)->R (.returned (.tuple #[])) w'):
  Calls prog 173 #[.pointer (some ⟨fb,0,none⟩),.int .i64 (id:Nat)] w R:=by
 have hb:=hF w _ 0 H rfl;obtain⟨c3,lR,Ui⟩:=hE.oL hb hid;have gh:=(hE.Rk hb).2;have f0:=H.cell 1 rfl 0 rfl;have f1:=H.cell 1 rfl 1 rfl;have f2:=H.cell 1 rfl 2 rfl;have f3:=H.cell 1 rfl 3 rfl;have CB:=H.lt 1 rfl;obtain⟨D,tG,pD⟩:=H.fi 2 rfl;have bu:=yN underlying102 tG pD hid;have Kd:=qh (λR=>AZ (R:=R) hE hF H Ui);have HR:=qh hR;have HH:=qh H;unfold E3 at HR;have LB:=qh (Lc (H.fi 3 rfl).choose_spec.2.2.2.2 cv (X.aK id));have HT:=qh pD.2.2.2;clear hE hF H hb hR tG pD;cases hG:G id with
 |none=>
  rw[hG]at bu
  simp only[hG]at HR;go_in;go_wp2_with fail;go_end0;exact HR.o _ HH.o
 |some t=>
  rw[hG]at bu
  simp only[hG]at HR;go_in;go_wp2_with fail;refine Kd.o _ ?_;generalize Oy K cv (X.aK id)=is at*
  obtain⟨a1,a2⟩:=Nv is t LB.o (HT.o id t hG);obtain⟨w6,r6,h6⟩:=HH.o.Tn 4 rfl (is&&&(127-t)==0) hid;obtain⟨w7,r7,h7⟩:=h6.JH 3 rfl underlying174 Ui (show is&&&t<=127 from nT Nat.and_le_left LB.o);have f2:=h6.cell 1 rfl 2 rfl;have acB:=h6.lt 1 rfl;have H7:=qh h7;clear h6 h7 HH Kd;go_wp2_with fail;go_end0;exact HR.o _ H7.o
end
theorem FH(K:Kt){l:List Nat}{j:Nat}(h:j<l.length):ll K (l.take (j+1))=λk=>if k=l[j]then none else ll K (l.take j) k:=by
 funext k;unfold ll;rw[List.take_succ_eq_append_getElem h];by_cases hk:k=l[j]
 ·rw[if_pos hk,if_pos (List.mem_append.2 (.inr (List.mem_singleton.2 hk)))]
 ·rw[if_neg hk];by_cases hm:k∈l.take j
  ·rw[if_pos hm,if_pos (List.mem_append.2 (.inl hm))]
  ·rw[if_neg hm,if_neg λe=>(List.mem_append.1 e).elim hm λe=>hk (List.mem_singleton.1 e)]
section
variable {wB w:World} {Fr:As} {fb cb gb kb nb:Nat} {G K:Kt} {g:Nat->Bool}
theorem y_{l:List Nat}{lv:Value}(hl:∀m∈l,m<=100000)(bm:∀(w1:World)(L:List As)(i:Nat),Sat wB w1 L->L[i]?=some Fr->w1.ownsRow 0 3 1 lv l.length (l.map aO))(hn:l.length<=1000000)(H:Sat wB w (Fr::BQ fb cb gb kb nb G K g)){R:EW}
  (hR:∀w',Sat wB w' (Fr::BQ fb cb gb kb nb G (ll K l) g)->R (.returned (.tuple #[])) w'):
  Calls prog 179 #[.pointer (some ⟨fb,0,none⟩),lv] w R:=by
 have HR:=qh hR;have HL:=qh hl;have du:=qh bm;have H1:=qh H;obtain⟨la,lc,rfl⟩:=ag (bm w _ 0 H rfl);clear hR hl bm H;go_in;go_wp2_with fail;go_loopw [8] (λi wr=>∃(j:Nat),i=.int .i64 j/\j<=l.length/\Hq (Sat wB wr (Fr::BQ fb cb gb kb nb G (ll K (l.take j)) g))) (λi _=>l.length-(intOf i).toNat)
 case atStart=>exact⟨0,rfl,Nat.zero_le _,by show Sat _ _ _;rw[show ll K (l.take 0)=K from by funext k;simp[ll]];exact H1.o⟩
 case round=>
  obtain⟨j,rfl,hj,hS⟩:=hrel;by_cases a_:j<l.length
  ·obtain⟨gl,jB,e,ku,d0⟩:=ints_at (du.o wr _ 0 hS.out rfl) j a_;cases e;have pK:=qh (FH K a_);have hm:=HL.o _ (gM a_);generalize l[j]=ij at*
   have f2:=hS.out.cell 1 rfl 2 rfl;have CB:=hS.out.lt 1 rfl;obtain⟨D,tG,pD⟩:=hS.out.fi 3 rfl;have Sh:=qh tG;have Uj:=qh pD;clear tG pD;go_wp2_with(at_delete;go_loud(refine wpList_delete_own _ rfl _ _ 174 3 rfl 3 cy underlying174 _ kb _ D rfl Sh.o _ _ rfl (Maps.keyOf_int_mk underlying3 (Vc hm)) ?_));intro w4 dE Kx;have H4:=qh (hS.out.ml 3 rfl Kx.grown dE (Uj.o.del ij));clear dE Kx;go_wp2_with fail;go_roundw
   case rel=>exact⟨j+1,by go_num,by omega,by show Sat _ _ _;rw[pK.o];exact H4.o⟩
   case measure=>simp[intOf];omega
  ·have gO:j=l.length:=by omega
   have h6:=hS.out;rw[gO,List.take_length]at h6
   have H6:=qh h6;clear h6 gO;go_wp2_with fail;go_end0;exact HR.o _ H6.o
end
namespace Ty
theorem nY{ns:List Nd}{F:Nat->List Nat}:∀{ks:List Nat}{lo hi:Nat},LtL ns ks lo hi->(∀k∈ks,∀l,Lt ns l k->(F k).length+l<=k+1)->(ks.flatMap F).length+lo<=hi
 |[],lo,hi,h,_=>by cases h;simp
 |k::ks,lo,hi,h,g=>by
  cases h with
  |cons h1 h2=>
   have:=g k (by simp) lo h1;have:=nY h2 λj hj=>g j (by simp[hj])
   rw[List.flatMap_cons,List.length_append];omega
theorem qk{pg:Pg}{tq:Nat->Nat}:∀(f n lo:Nat),Lt pg.ns lo n->(cK pg tq f n).length+lo<=n+1
 |0,n,lo,h=>by rw[cK];have:=h.le;simp;omega
 |f+1,n,lo,h=>by
  have hle:=h.le;cases h with
  |mk e1 e2=>
   rename_i x;rw[cK,bw e1];split
   ·simp;omega
   ·rename_i h6;unfold ck at e2;rw[if_neg h6]at e2
    have:=nY e2 λk _ l hl=>qk (pg:=pg) (tq:=tq) f k l hl
    rw[List.length_append];split
    ·rw[List.length_singleton];omega
    ·rw[List.length_nil];omega
theorem E0{pg:Pg}{tq:Nat->Nat}{B:Nat}(hB:∀n,n<=100000->tq n<=B)(hN:pg.ns.length<=100000):∀(f n lo:Nat),Lt pg.ns lo n->∀m∈cK pg tq f n,m<=B
 |0,n,lo,h,m,hm=>by rw[cK]at hm;cases hm
 |f+1,n,lo,h,m,hm=>by
  cases h with
  |mk e1 e2=>
   rename_i x;have hn:=(List.getElem?_eq_some_iff.1 e1).1;rw[cK,bw e1]at hm
   split at hm
   ·cases hm
   ·rename_i h6;unfold ck at e2;rw[if_neg h6]at e2
    rcases List.mem_append.1 hm with hm|hm
    ·split at hm
     ·rw[List.mem_singleton.1 hm];exact hB n (by omega)
     ·cases hm
    ·obtain⟨k,hk,hm⟩:=List.mem_flatMap.1 hm;obtain⟨_,l,_,hl⟩:=e2.mem k hk;exact E0 hB hN f k l hl m hm
end Ty
abbrev lL(v:Value)(l:List Nat):As:=Prt.row 3 1 v l.length (l.map aO)
theorem gX{P:Program}{ops:Array Oper}{rest:List Oper}{o:Oper}{a:Act}{w w3:World}{Q:Exit->Act->World->Prop}(abH:o.guard=none)(s x:Operand)(t:TypeId)(ho:o.op=.call {callee:=.builtin .append,args:=#[s,x],argTypes:=#[t,t]})
  {v v2 v3:Value} (hs:a.eval s=v) (hx:a.eval x=v2) (hr: (Builtin.append_ #[t,t] o.type #[v,v2]).run P w=.ok v3 w3) (h:wpList P ops Q rest (a.put o.dst v3) w3):wpList P ops Q (o::rest) a w:=
 wpList_plain abH λ_ hK=>by
  unfold Oper.wp execOp;simp only[ho,resolve,invoke,builtin,Sem.run_bind,Sem.run_pure,Result.andThen_ok,List.map_toArray,List.map_cons,List.map_nil,hs,hx,hr];exact hK _ _ h
theorem Ai{w:World}{ty:TypeId}{b a:Option Addr}{n cap c:Nat}(h:n<=cap): (Builtin.append_ #[39,39] ty #[.slice b n cap,.slice a 0 c]).run prog w=.ok (.slice b n cap) w:=by
 obtain⟨j0,tj,vI,vJ,vH⟩:=info_parts iu;cases a<;>cases b<;>simp[Builtin.append_,run_underlying underlying39,sizeOf,typeInfo,tj,Builtin.lenOf,h,Builtin.firstCells,loadCells,loadCellsFrom,storeCells]
theorem Jp{α:Type}{L:List α}{i:Nat}{x:α}(h:L[i]?=some x):L.set i x=L:=by
 apply List.ext_getElem?;intro k;rw[List.getElem?_set];split
 ·rename_i e;subst e;split
  ·rw[h]
  ·rename_i g;rw[List.getElem?_eq_none (by omega)]
 ·rfl
theorem Prt.Sat.K1{w0 w:World}{L:List As}(H:Sat w0 w L){i j:Nat}{v v2:Value}{l l2:List Nat}(hi:L[i]?=some (lL v l))(hj:L[j]?=some (lL v2 l2))(hn:l.length+l2.length<=1000000)(ty:TypeId):
  ∃v3 w3,(Builtin.append_ #[39,39] ty #[v,v2]).run prog w=.ok v3 w3/\Sat w0 w3 (L.set i (lL v3 (l++l2))):=by
 obtain⟨j0,tj,vI,vJ,vH⟩:=info_parts iu;have h1:=H.row i hi;have h2:=H.row j hj;cases l2 with
 |nil=>
  obtain⟨b,cap,rfl⟩:=ag h1;obtain⟨a,c,rfl⟩:=ag h2;refine⟨_,_,Ai ?_,?_⟩
  ·rcases h1.2 with⟨e,e2⟩|⟨g,cp,cur,e,_,_,h,_⟩
   ·rw[e2];exact Nat.zero_le _
   ·simp only[Value.slice.injEq]at e;rw[e.2.2];exact h
  ·rw[List.append_nil];rw[Jp hi];exact H
 |cons a l2=>
  obtain⟨g2,c2,rfl,_,Dj⟩:=h2.form (by simp);obtain⟨g,cap,w3,hr,r1,r2,r3,r4⟩:=run_append_lies (P:=prog) w 39 ty 0 3 j0 _ 1 8 underlying39 tj vI vJ vH rfl (by decide) v l.length (l.map aO) h1 ⟨g2,0,none⟩ (a::l2).length c2 ((a::l2).map aO) (by simp) (World.ownsRow.cells h2 rfl) (by simp[aO,Value.oneCell']) (by simp) (by unfold maxLen;omega) (by omega) (Nat.zero_le _) _ rfl;have:=Sat.grow H i hi r2 r1 r3;refine⟨_,_,hr,?_⟩;have e:Prt.row 3 1 (.slice (some ⟨g,0,none⟩) (l.length+(a::l2).length) cap) (l.length+(a::l2).length) (l.map aO++(a::l2).map aO)=lL (.slice (some ⟨g,0,none⟩) (l.length+(a::l2).length) cap) (l++a::l2):=by
   unfold lL;rw[List.length_append,List.map_append]
  rw[<-e];exact this
end Go.Proofs.YtdlbhiaceheffabGreatDoor
