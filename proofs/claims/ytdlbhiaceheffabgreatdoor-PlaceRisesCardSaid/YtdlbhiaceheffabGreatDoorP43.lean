/- Walk of check.Open. -/
import Derived.Test.YtdlbhiaceheffabGreatDoorP42
set_option linter.all false
set_option maxRecDepth 100000
set_option maxHeartbeats 8000000
namespace Go.Proofs.YtdlbhiaceheffabGreatDoor
open Go Go.RowKit Ty Tok ak Tryz Proofs.Tryz
section
open Ty (Tr Ck aO aL dX)
abbrev WE:Ck:=⟨λ_=>none,λ_=>none⟩
theorem DI{w0 w:World}{Fr:As}(H:Sat w0 w [Fr])(s:BA)(hw:Words w)(hm:s.size≤maxLen){l:List Ty.Sm}(hl:∀pg:Ty.Pg,Ty.parse s=.ok pg→eg 0 l []=(pg.ns,pg.main)){R:EW}
  (aF:∀(pg:Ty.Pg)(X:Cx) cb ca v d nc s' w',Ty.parse s=.ok pg→jv l=.ok v→d.Perm v.out→d.Pairwise (λx y=>x.1≤y.1)→X.wi=jO d→Hh pg X.a_ l=.ok s'→X.cav=.map (some ca)→X.main=(pg.main:Nat)→
   Sat w0 w' [Fr,vV X.nv pg.ns,oS X.tv pg.ts,mapA 3 4 ca nc (cZ v.ca),mr cb X 10000 s' []]→R (.returned (.tuple #[.pointer (some ⟨cb,0,none⟩),bY (0,0)])) w')
  (av:∀f w',(Ty.parse s=.error f∨∃pg:Ty.Pg,Ty.parse s=.ok pg∧(jv l=.error f∨∃v d,jv l=.ok v∧d.Perm v.out∧d.Pairwise (λx y=>x.1≤y.1)∧Hh pg (λn=>((jO d n).getD 0).toNat) l=.error f))→Sat w0 w' [Fr]→R (.returned (.tuple #[.pointer none,bY f])) w'):
  Calls prog 48 #[.string s] w R:=by
 have aY:=qh aF;have aB:=qh av;have HL:=qh hl;have Hu:∀(fn:Fn)(first cap:Array Value)(w:World),(Instr.makeFunc fn first cap).run prog w=.ok (.func fn first cap) w:=λ_ _ _ _=>rfl
 have Ll:=@run_makeMap prog;have h1:=(H.aj (.cells #[.pointer none] 99) w.heap.size).aj (.cells #[.int .i64 0,.int .i64 0] 25) (w.heap.size+1) (by simp);have H1:=qh (Sat.pack (L:=[]) h1);have HW:=qh (hw.below (((bR _ _).alloc (nR _) (.cells #[.pointer none] 99)).alloc (by simp) (.cells #[.int .i64 0,.int .i64 0] 25)));have F6:=qh hm;clear aF av hw hm hl H h1
 go_enter_defers func48,ntmps48
 go_wp2_with fail;refine IQ H1.o s HW.o F6.o HL.o (λpg nv tv ov ca v d nc w1 ht hv sE hs vP Uq h2=>?_) (λf w1 hf h2=>?_)
 ·have h3:=(h2.unpack (i:=0) rfl).pick [4,5,6,0,1,2,3];have fa:=h3.free 1 rfl;have fd:=h3.free 2 rfl;have la:=h3.lt 1 rfl;have ld:=h3.lt 2 rfl;have Xz:w.heap.size<w1.heap.size+1:=by omega
  have qT:w.heap.size<w1.heap.size+1+1:=by omega
  have aau:w.heap.size<w1.heap.size+1+1+1:=by omega
  have acN:w.heap.size<w1.heap.size+1+1+1+1:=by omega
  have a0:=h3.cell 1 rfl 0 rfl;have d0:=h3.cell 2 rfl 0 rfl;have d1:=h3.cell 2 rfl 1 rfl;have n12:=h3.ne 1 2 (by decide) rfl rfl;obtain⟨nr,Dq,nP⟩:=h3.mM 3 rfl;obtain⟨tr,Hk,qn⟩:=h3.F' 4 rfl;obtain⟨na,mV,en⟩:=ag nP.row;obtain⟨ta,tc,et⟩:=ag qn.row;obtain⟨oa,oc,eo⟩:=ag (h3.row 5 rfl);have H3:=qh h3;clear h2 h3 Dq nP Hk qn;subst en et eo;generalize nr.length=NN at*
  generalize tr.length=TN at*
  dsimp only[bY];go_wp2_with fail;have h4:=((H3.o.store 2 rfl 0 (.int .i64 0)).store 2 rfl 1 (.int .i64 0)).store 1 rfl 0 (.pointer (some ⟨w1.heap.size+1+1+1+1,0,none⟩));have hz: (((w1.setCell ⟨w.heap.size+1,0,none⟩ (.int .i64 0)).setCell ⟨w.heap.size+1,1,none⟩ (.int .i64 0)).setCell ⟨w.heap.size,0,none⟩ (.pointer (some ⟨w1.heap.size+1+1+1+1,0,none⟩))).heap.size=w1.heap.size:=by simp
  clear a0 d0 d1 fa fd n12 la ld Xz qT aau acN;generalize((w1.setCell ⟨w.heap.size+1,0,none⟩ (.int .i64 0)).setCell ⟨w.heap.size+1,1,none⟩ (.int .i64 0)).setCell ⟨w.heap.size,0,none⟩ (.pointer (some ⟨w1.heap.size+1+1+1+1,0,none⟩))=W2 at h4 hz⊢;generalize w1.heap.size=n1 at*
  have h5:=h4.aj (.cells #[.slice na NN mV,.slice ta TN tc,.int .i64 (pg.main:Nat)] 31) n1 hz.symm;have Hm: (W2.alloc (.cells #[.slice na NN mV,.slice ta TN tc,.int .i64 (pg.main:Nat)] 31)).heap.size=n1+1:=by simp[hz]
  have H5:Hq (Sat w0 (W2.alloc (.cells #[.slice na NN mV,.slice ta TN tc,.int .i64 (pg.main:Nat)] 31)) [Fr,ay w.heap.size (.cells #[.pointer (some ⟨n1+1+1+1+1,0,none⟩)] 99 (0,0)),ay (w.heap.size+1) (.cells #[.int .i64 0,.int .i64 0] 25 (0,0)),vV (.slice na NN mV) pg.ns,oS (.slice ta TN tc) pg.ts,sY (.slice oa d.length oc) d,mapA 3 4 ca nc (cZ v.ca),ay n1 (.cells #[.slice na NN mV,.slice ta TN tc,.int .i64 (pg.main:Nat)] 31 (0,0))]):=h5;clear h4 h5 hz H3;generalize W2.alloc (.cells #[.slice na NN mV,.slice ta TN tc,.int .i64 (pg.main:Nat)] 31)=wB at*
  have hk:=SD (wB:=wB) (nv:=.slice na NN mV) (tv:=.slice ta TN tc) (cav:=.map (some ca)) (main:=(pg.main:Nat)) (n1+1) Hm.symm;have HK:=qh hk;have HD:=qh (H5.o.row 5 rfl);have acA:=qh (H5.o.cell 1 rfl 0 rfl);have acm:=qh (H5.o.lt 1 rfl);have WU:=qh Uq;have Vr:=qh (H5.o.cell 7 rfl 2 rfl);have aa0:=qh (H5.o.lt 7 rfl);have A8:=l7 ht;obtain⟨LA,C4,IP,kN⟩:=qW (HL.o pg ht);have TH:=A8.kO;have xF:Hq (∀p∈d,p.1≤100000∧p.2≤100000):=λp hp=>by have:=Qh hv p (sE.mem_iff.1 hp);omega
  obtain⟨U6,Dq,nP⟩:=H5.o.mM 3 rfl;obtain⟨XJ,Hk,qn⟩:=H5.o.F' 4 rfl;have hP:PB wB (.slice na NN mV) (.slice ta TN tc) pg:=⟨⟨U6,Dq,nP⟩,⟨XJ,Hk,qn⟩,A8⟩
  have xv:∀p∈v.out,((jO d p.1).getD 0).toNat=p.2:=λp hp=>by
   rw[qe (((sE.map Prod.fst).nodup_iff).2 (oI hv)) (sE.mem_iff.2 hp)];rfl
  have U2:=qh (@J7 _ A8 (λn=>((jO d n).getD 0).toNat) _ LA _ hv xv);have HC:=qh (λX cb(h1:X.nv=.slice na NN mV)(h2:X.tv=.slice ta TN tc)=>(show pe wB X cb pg.main (3*aL l+1) (λbk s=>Ty.ku pg X.a_ l 0 bk s)from by
   have h:=wg (X:=X) (cb:=cb) (by rw[h1,h2];exact hP) (b:=l) (a:=0) (by rw[Nat.zero_add];exact C4) LA (uo (by rw[h1,h2];exact hP) l 0 LA) (K:=3*aL l+1) (by rw[kE];exact nR _) (λbk s=>kh l 0 bk s);rw[Nat.zero_add]at h
   rw[IP];exact h))
  have Lz:Hq (aL l≤1200):=by show _≤_;omega
  clear A8 LA C4 IP kN TH Dq nP Hk qn hP xv;clear hk Hm Hu Ll;go_loopw [30] (λi wr=>∃(j:Nat),i=.int .i64 j∧j≤d.length∧Hq (Sat wB wr [bE wB,ay (n1+1+1+1+1) (.cells #[.slice na NN mV,.slice ta TN tc,.int .i64 (pg.main:Nat),.map (some (n1+1)),.map (some ca),.map (some (n1+1+1)),.map (some (n1+1+1+1)),.slice none 0 0] 106 (0,0)),mapA 3 3 (n1+1) j (cH (jO (d.take j))),jz 3 (n1+1+1) 0 (f_ λ_=>none),jz 3 (n1+1+1+1) 0 (f_ λ_=>none),ak.row 107 1 (.slice none 0 0) 0 [],FR (λ_=>none)])) (λi _=>d.length-(intOf i).toNat)
  case atStart=>exact⟨0,rfl,Nat.zero_le _,HK.o⟩
  case round=>
   obtain⟨j,rfl,hj,hS⟩:=hrel;have hB:=(jH.fw wB) wr _ 0 hS.out rfl;have pa:=aq hB acA.o;have mS:=nL acm.o hB.size;have aaW:w.heap.size<wr.heap.size+1:=by omega
   by_cases bm:j<d.length
   ·obtain⟨gb,SG,e,Zn,d0,d1⟩:=WJ (az HD.o hB) j bm;cases e;have g:=hS.out;have k3:=g.cell 1 rfl 3 rfl;have gU:=g.lt 1 rfl;have SR:n1+1+1+1+1<wr.heap.size+1:=by omega
    obtain⟨q1,q2⟩:=xF.o d[j] (gM bm);have zm:Hq (jO (d.take (j+1))=λk=>if k=d[j].1 then some ((d[j].2:Nat):Int)else jO (d.take j) k):=by show _= _;rw[List.take_succ_eq_append_getElem bm,G8]
    generalize d[j]=q at*
    have HJ:=WU.o;have g1:=(g.aU (.cells #[.int .i64 (q.1:Nat),.int .i64 (q.2:Nat)] 43)).drew;obtain⟨D,hD,mF⟩:=g1.nZ 2 rfl;obtain⟨w6,sg,eD,dh⟩:=hD.update dn underlying102 (by unfold maxLen;omega) (Maps.keyOf_int_mk underlying3 (zl q.1 q1)) (plainElem_int underlying3 (zl q.2 q2));have h6:=g1.tF 2 rfl dh eD (Ψ:=cH (λk=>if k=q.1 then some ((q.2:Nat):Int)else jO (d.take j) k)) (r' mF q.1 q.2);have H6:=qh h6;clear g g1 hD mF eD dh h6 hS hB q1 q2;go_wp2_with fail
    go_region
    all_goals
     go_wp2_with fail;go_roundw
     case rel=>exact⟨j+1,by go_num,by omega,by show Sat _ _ _;rw[zm.o];exact H6.o⟩
     case measure=>simp[intOf];omega
   ·have ju:j=d.length:=by omega
    subst ju;have h6:=hS.out;rw[List.take_length]at h6
    have pm:=aq hB Vr.o;have Zs:=nL aa0.o hB.size;obtain⟨X,hX⟩:∃X:Cx,X=⟨.slice na NN mV,.slice ta TN tc,(pg.main:Nat),n1+1,d.length,jO d,.map (some ca)⟩:=⟨_,rfl⟩
    have h7:Sat wB wr [bE wB,mr (n1+1+1+1+1) X 0 WE []]:=by
     subst hX;exact Sat.jN (ofb:=n1+1+1) (hasb:=n1+1+1+1) (bkv:=.slice none 0 0) (no:=0) (nh:=0) (fo:=λ_=>none) (fh:=λ_=>none) (bl:=[]) (h0:=λ_=>none) ⟨nR _,nR _,λn=>⟨λ_=>rfl,λt e=>(by cases e)⟩,λn t e=>(by cases e),rfl,λi h=>absurd h (by simp),Nat.zero_le _,FineS.nil,λn=>Mj (λp hp=>(xF.o p hp).2) n⟩ h6
    have Lw:X.nv=.slice na NN mV:=by rw[hX]
    have Ny:X.tv=.slice ta TN tc:=by rw[hX]
    have K2:X.a_=λn=>((jO d n).getD 0).toNat:=by rw[hX];rfl
    have HX:=qh hX;have bZ:Ty.ku pg X.a_ l 0 [] WE≠.error Ty.stuck:=by rw[K2];exact U2.o.1
    have HV:=qh (HC.o X (n1+1+1+1+1) Lw Ny [] WE 0 wr _ (jH.fw wB) h7 (by have:=Lz.o;omega) bZ);have HT:=qh ht;have Zy:=qh hv;have PO:=qh sE;have X4:=qh hs;have TU:=qh K2;clear h6 h7 hX Lw Ny K2 bZ HC U2 hS hj ht hv sE hs;go_wp2_with fail;refine HV.o _ (λs' w8 hq h8=>?_) (λf w8 hq h8=>?_)
    ·have h9:=H5.o.join (h8.uM (d:=10000) (by have:=Lz.o;omega));have a0:=h9.cell 1 rfl 0 rfl;have d0:=h9.cell 2 rfl 0 rfl;have d1:=h9.cell 2 rfl 1 rfl;have fa:=h9.free 1 rfl;have fd:=h9.free 2 rfl;have la:=h9.lt 1 rfl;have ld:=h9.lt 2 rfl;have n12:=h9.ne 1 2 (by decide) rfl rfl;have H9:=qh h9;have HQ:=qh hq;clear h8 h9 hq HV HK;have n21:w.heap.size+1≠w.heap.size:=by omega
     go_wp2_with fail
     go_region
     all_goals
      have dS:=(((H9.o.store 1 rfl 0 (.pointer (some ⟨n1+1+1+1+1,0,none⟩))).store 2 rfl 0 (.int .i64 0)).store 2 rfl 1 (.int .i64 0)).drew;have sr:=qh dS;clear dS H9 a0 d0 d1 fa fd la ld n12 n21;go_wp2_with fail;refine leaves_cons (f:=92) (args:=#[.pointer (some ⟨w.heap.size,0,none⟩),.pointer (some ⟨w.heap.size+1,0,none⟩)]) (by simp) (by simp[go_sem]) ?_;refine(LS _ _ _).mono ?_
      rintro e u' Mq ⟨rfl,rfl,rfl⟩
      have a0:=sr.o.cell 1 rfl 0 rfl;have d0:=sr.o.cell 2 rfl 0 rfl;have d1:=sr.o.cell 2 rfl 1 rfl;simp[Leaves,settle,results,results48,go_sem,a0,d0,d1];have hX:=HX.o;exact aY.o pg X _ ca v d nc s' _ HT.o Zy.o PO.o X4.o (by rw[hX]) HQ.o (by rw[hX]) (by rw[hX]) (by
       have ln:=sr.o.pick [0,3,4,6,8];rw[show X.nv=.slice na NN mV by rw[hX],show X.tv=.slice ta TN tc by rw[hX]];exact ln)
    ·have h9:=H5.o.join h8;have HQ:=qh hq;clear h8 hq HV HK;refine leaves_cons (f:=92) (args:=#[.pointer (some ⟨w.heap.size,0,none⟩),.pointer (some ⟨w.heap.size+1,0,none⟩)]) (by simp) (by simp[go_sem]) ?_;refine(L9 h9 f).mono ?_
     rintro e u' Mq ⟨rfl,rfl,dS⟩
     have a0:=dS.cell 1 rfl 0 rfl;have d0:=dS.cell 2 rfl 0 rfl;have d1:=dS.cell 2 rfl 1 rfl;simp[Leaves,settle,results,results48,go_sem,a0,d0,d1];exact aB.o f _ (.inr ⟨pg,HT.o,.inr ⟨v,d,Zy.o,PO.o,X4.o,by rw[←TU.o];exact HQ.o⟩⟩) (dS.pick [0])
 ·have Gk:f.1≠0:=by
   rcases hf with h|⟨pg,_,h⟩
   ·exact lE h
   ·exact zI h
  have HF:=qh (show(Ty.parse s=.error f∨∃pg:Ty.Pg,Ty.parse s=.ok pg∧(jv l=.error f∨∃v d,jv l=.ok v∧d.Perm v.out∧d.Pairwise (λx y=>x.1≤y.1)∧Hh pg (λn=>((jO d n).getD 0).toNat) l=.error f))from hf.imp id λ⟨pg,h1,h2⟩=>⟨pg,h1,.inl h2⟩);obtain⟨fe,fp⟩:=f;dsimp only at Gk;have e2: ((fe:Int) !=0)=true:=by simp;omega
  have h3:Sat w0 w1 [Fr,ay w.heap.size (.cells #[.pointer none] 99 (0,0)),ay (w.heap.size+1) (.cells #[.int .i64 0,.int .i64 0] 25 (0,0))]:=(h2.unpack (i:=0) rfl).pick [0,1,2];have a0:=h3.cell 1 rfl 0 rfl;have d0:=h3.cell 2 rfl 0 rfl;have d1:=h3.cell 2 rfl 1 rfl;have fa:=h3.free 1 rfl;have fd:=h3.free 2 rfl;have la:=h3.lt 1 rfl;have ld:=h3.lt 2 rfl;have n12:=h3.ne 1 2 (by decide) rfl rfl;have n21:w.heap.size+1≠w.heap.size:=by omega
  have Xz:w.heap.size<w1.heap.size+1:=by omega
  have ld1:w.heap.size+1<w1.heap.size+1:=by omega
  have H3:=qh h3;clear h2 h3 hf Gk Ll Hu;dsimp only[bY];go_wp2_with fail
  go_region
  all_goals
   have h9:=((((((H3.o.store 2 rfl 0 (.int .i64 (fe:Nat))).store 2 rfl 1 (.int .i64 (fp:Nat))).store 1 rfl 0 (.pointer none)).store 2 rfl 0 (.int .i64 (fe:Nat))).store 2 rfl 1 (.int .i64 (fp:Nat))).aU (.cells #[.slice none 0 0,.slice none 0 0,.int .i64 0] 31)).drew;have a0:=h9.cell 1 rfl 0 rfl;have d0:=h9.cell 2 rfl 0 rfl;have d1:=h9.cell 2 rfl 1 rfl;have H9:=qh h9;clear h9 fa fd la ld n12 n21 Xz ld1;go_wp2_with fail;simp[bodyPostD,Leaves,results,results48,go_sem,a0,d0,d1];exact aB.o (fe,fp) _ HF.o (H9.o.pick [0])
end
namespace Ty
def BK(v:Vg)(n:Nat):Nat:=((jO v.out n).getD 0).toNat
theorem wW{d e:List (Nat×Nat)}(h:d.Perm e)(hn: (e.map Prod.fst).Nodup):jO d=jO e:=by
 funext k;have hd: (d.map Prod.fst).Nodup:=((h.map Prod.fst).nodup_iff).2 hn;cases hk:e.find? λp=>p.1==k with
 |some p=>
  have h1:p.1=k:=beq_iff_eq.1 (List.find?_some (p:=λp:Nat×Nat=>p.1==k) hk);have h2:=List.mem_of_find?_eq_some hk;rw[←h1,qe hd (h.mem_iff.2 h2),qe hn h2]
 |none=>
  have h3:=List.find?_eq_none.1 hk;have n1:∀l:List (Nat×Nat),(∀p∈l,p∈e)→jO l k=none:=λl hl=>by
   unfold jO;rw[List.find?_eq_none.2 λp hp=>h3 p (hl p (List.mem_reverse.1 hp))];rfl
  rw[n1 d λp hp=>h.mem_iff.1 hp,n1 e λp hp=>hp]
def vT(s:BA)(l:List Sm):Except Ft (Pg×Vg×Ck):=match parse s with
 | .error f=>.error f
 | .ok pg=>match jv l with
  | .error f=>.error f
  | .ok v=>match Hh pg (BK v) l with
   | .error f=>.error f
   | .ok c=>.ok (pg,v,c)
theorem yI{s:BA}{l:List Sm}{pg:Pg}{v:Vg}{c:Ck}:vT s l=.ok (pg,v,c)↔parse s=.ok pg∧jv l=.ok v∧Hh pg (BK v) l=.ok c:=by
 unfold vT;constructor
 ·intro h;split at h
  ·cases h
  ·rename_i acV h1;split at h
   ·cases h
   ·rename_i v' h2;split at h
    ·cases h
    ·rename_i c' h3;cases h;exact⟨h1,h2,h3⟩
 ·rintro⟨h1,h2,h3⟩
  rw[h1];dsimp only;rw[h2];dsimp only;rw[h3]
theorem NZ{s:BA}{l:List Sm}{f:Ft}(h:parse s=.error f∨∃pg:Pg,parse s=.ok pg∧(jv l=.error f∨∃v d,jv l=.ok v∧d.Perm v.out∧d.Pairwise (λx y=>x.1≤y.1)∧Hh pg (λn=>((jO d n).getD 0).toNat) l=.error f)):vT s l=.error f:=by
 unfold vT;rcases h with h|⟨pg,h1,h|⟨v,d,h2,h3,_,h4⟩⟩
 ·rw[h]
 ·rw[h1];dsimp only;rw[h]
 ·rw[h1];dsimp only;rw[h2];dsimp only;rw[wW h3 (oI h2)]at h4
  rw[show Hh pg (BK v) l=.error f from h4]
theorem Em{s:BA}{l:List Sm}{f:Ft}(hl:∀pg,parse s=.ok pg→eg 0 l []=(pg.ns,pg.main))(h:vT s l=.error f):f.1≠0:=by
 unfold vT at h;split at h
 ·rename_i f' h1;cases h;exact lE h1
 ·rename_i pg h1;split at h
  ·rename_i f' h2;cases h;exact zI h2
  ·rename_i v h2;split at h
   ·rename_i f' h3;cases h;refine LO (tq:=BK v) ?_ h3;exact(J7 (l7 h1) (tq:=BK v) (qW (hl pg h1)).1 h2 λp hp=>by
     unfold BK;rw[qe (oI h2) hp];rfl).1
   ·cases h
end Ty
section
open Ty (Tr)
theorem Ix(w:World)(t:Tr)(p:Value)(hr:rep (ak.hp w) t p)(aF:dP t)(hu:iW t)(hs:dH t)(hc:dw t≤1000000){R:EW}
  (hR:∀w',Below w.heap.size w w'→R (.returned (.string (bs (Ty.text t)))) w'):
  Calls prog 49 #[p] w R:=by
 have HR:=qh hR;have hlen:=E2 t [];have mf:=xC t [];have Bo:=DV t [] aF;have od:=K9 t [] aF hu Wf.nil;rw[List.length_nil,Nat.zero_add]at hlen
 have aaY:Hq (∀R:EW,(∀MA w' n,Below w.heap.size w w'→sK MA w' n (Ty.text t)→R (.returned (.tuple #[MA,.int .i64 (n:Nat)])) w')→Calls prog 94 #[.slice none 0 0,p] w R):=λR2 h2=>by
  refine FY w _ t (Nat.lt_succ_self _) aF p hr w w (λ_=>True) (.slice none 0 0) [] ((((Sat.fw w).hZ (P:=oS (.slice none 0 0) []) (λ_=>EY _)).hZ (P:=λ_=>True) (λ_=>trivial)).pick [2,0,1]) (by simp;omega) R2 (λMA w' h3=>?_);obtain⟨rows,zi,DL⟩:=h3.F' 2 rfl;have ht:=yn w' MA rows _ zi od (by omega) DL _ (Ty.put t []).2 (Nat.lt_succ_self _) (by omega) (by rw[Bo];exact hs) (by rw[Bo];exact hc);rw[Bo]at ht
  exact h2 MA w' _ (h3.pick [1]).aW ht
 obtain⟨pb,rfl,_⟩:=eQ hr;clear hR hr hlen mf Bo od;go_in;go_wp2_with fail;refine aaY.o _ (λMA w1 n df ht=>?_);have HT:=qh ht;have ll:=qh df;clear df ht;go_wp2_with fail;refine HT.o _ (bR _ _) _ (λw2 aI=>?_);have c8:=qh (ll.o.trans (aI.mono ll.o.size));clear aI;go_wp2_with fail;exact HR.o _ c8.o
end
section
open Ty (Tr Ck)
def kV(p:Nat×BA):List Value:=[.int .i64 p.1,.string p.2]
def LD(v:Value)(l:List (Nat×BA)):As:=ak.row 51 2 v l.length (l.flatMap kV)
theorem QP: (prog.info? 51).map (λi=>(i.zero,i.size,i.bytes))=some (some (.agg #[.int .i64 0,.string ⟨#[]⟩]),2,24):=by kernel_rfl
theorem KW{v:Value}{l:List (Nat×BA)}{p:Nat×BA}{a:ak.Hp}(h:ak.row 51 2 v (l.length+1) (l.flatMap kV++kV p) a):LD v (l++[p]) a:=by
 unfold LD;rw[List.length_append,List.flatMap_append,List.flatMap_singleton];exact h
def wC(c:Ck)(l:List Nat):List (Nat×BA):=l.filterMap λn=>(c.of n).map λt=>(n,bs (Ty.text t))
theorem LU(c:Ck)(l:List Nat): (wC c l).length≤l.length:=List.length_filterMap_le _ _
theorem Iw(c:Ck)(j:Nat):wC c (List.range (j+1))=wC c (List.range j)++(match c.of j with
  |none=>[]
  |some t=>[(j,bs (Ty.text t))]):=by
 unfold wC;rw[List.range_succ,List.filterMap_append];cases h:c.of j<;>simp[h]
theorem r0{w0 w:World}{Fr:As}(H:Sat w0 w [Fr])(s:BA)(hw:Words w)(hm:s.size≤maxLen){l:List Ty.Sm}(hl:∀pg:Ty.Pg,Ty.parse s=.ok pg→eg 0 l []=(pg.ns,pg.main)){R:EW}
  (aF:∀(pg:Ty.Pg)(X:Cx) cb ca v nc c w',vT s l=.ok (pg,v,c)→X.a_=BK v→X.cav=.map (some ca)→X.main=(pg.main:Nat)→
   Sat w0 w' [Fr,vV X.nv pg.ns,oS X.tv pg.ts,mapA 3 4 ca nc (cZ v.ca),mr cb X 10000 c []]→R (.returned (.tuple #[.pointer (some ⟨cb,0,none⟩),bY (0,0)])) w')
  (av:∀f w',vT s l=.error f→Sat w0 w' [Fr]→R (.returned (.tuple #[.pointer none,bY f])) w'):
  Calls prog 48 #[.string s] w R:=by
 refine DI H s hw hm hl (λpg X cb ca v d nc c w' h1 h2 h3 h4 h5 h6 h7 h8 h9=>?_) (λf w' h1 h2=>av f w' (NZ h1) h2);have e:X.a_=BK v:=by
  funext n;show((X.wi n).getD 0).toNat= _;rw[h5,wW h3 (oI h2)];rfl
 exact aF pg X cb ca v nc c w' (yI.2 ⟨h1,h2,by rw[←e];exact h6⟩) e h7 h8 h9
theorem lg{w0 w:World}{Fr:As}(H:Sat w0 w [Fr])(s:BA)(hw:Words w)(hm:s.size≤maxLen){l:List Ty.Sm}(hl:∀pg:Ty.Pg,Ty.parse s=.ok pg→eg 0 l []=(pg.ns,pg.main)){R:EW}
  (aF:∀pg v c ov w',vT s l=.ok (pg,v,c)→Sat w0 w' [Fr,LD ov (wC c (List.range pg.ns.length))]→R (.returned (.tuple #[ov,bY (0,0)])) w')
  (av:∀f w',vT s l=.error f→Sat w0 w' [Fr]→R (.returned (.tuple #[.slice none 0 0,bY f])) w'):
  Calls prog 22 #[.string s] w R:=by
 have aY:=qh aF;have aB:=qh av;have HW:=qh hw;have F6:=qh hm;have HL:=qh hl;obtain⟨i0,ti,mx,mu,mw⟩:=info_parts QP;have H1:=qh (Sat.pack (L:=[]) (H.aj (.cells #[.int .i64 0,.int .i64 0] 25) w.heap.size));clear aF av hw hm hl H;go_in;go_wp2_with fail;refine r0 H1.o s (HW.o.below ((bR _ _).alloc (nR _) _)) F6.o HL.o (λpg X cb ca v nc c w1 hq Lw Ny K2 h2=>?_) (λf w1 hq h2=>?_)
 ·have h3:=(h2.unpack (i:=0) rfl).pick [4,5,0,1,3];obtain⟨nr,Dq,nP⟩:=h3.mM 2 rfl;obtain⟨na,adg,en⟩:=ag nP.row;have kN:nr.length=pg.ns.length:=by rw[←Dq,List.length_map]
  have hN:=(l7 (yI.1 hq).1).kO;have h4:=h3.at 4 rfl;obtain⟨ofb,hasb,bkv,no,nh,fo,fh,bl,h0,hI,h5⟩:=h4.eV;have h6:=h5.aU (.cells #[.int .i64 0,.int .i64 0] 25);have Og:=h6.MS hI;obtain⟨D,YJ,RY⟩:=h6.fT 3 rfl;have c0:=Og.c0;have c5:=Og.c5;have gU:=Og.lt;rw[en,kN]at c0
  have h7:=h5.aj (.cells #[.int .i64 0,.int .i64 0] 25) w1.heap.size;have HZ:=qh ((h7.unpack (i:=0) rfl).pick [7,8,6]);have HQ:=qh hq;have YZ:=qh hI.fo;have OV:=qh hI.fK.of;have Yd:=qh Og;have Zh:=qh (And.intro YJ RY);have RR:=qh c5;clear h2 h3 h4 h5 h6 h7 Dq nP Og hq hI YJ RY H1 Lw Ny K2 kN;generalize Z3:pg.ns.length=NN at*
  rw[show bY (0,0)=Value.agg #[.int .i64 0,.int .i64 0]from rfl];go_wp2_with fail;have h8:=(Sat.fw (w1.alloc (.cells #[.int .i64 0,.int .i64 0] 25))).nil 51 2;have H8:=qh h8;clear h8 c0 c5 gU;generalize w1.alloc (.cells #[.int .i64 0,.int .i64 0] 25)=W2 at*
  go_loopw [6,25] (λo i wr=>∃(j k:Nat)(oa:Option Addr)(oc:Nat),k=(wC c (List.range j)).length∧o=.slice oa k oc∧i=.int .i64 j∧j≤NN∧Hq (Sat W2 wr [bE W2,LD (.slice oa k oc) (wC c (List.range j))])) (λ_ i _=>NN-(intOf i).toNat)
  case atStart=>exact⟨0,0,none,0,rfl,rfl,rfl,Nat.zero_le _,H8.o⟩
  case round=>
   obtain⟨j,k,oa,oc,hk,rfl,rfl,hj,hS⟩:=hrel;have hB:=(jH.fw W2) wr _ 0 hS.out rfl;have UU:=LU c (List.range j);rw[List.length_range]at UU
   have gU:=(Yd.o.below hB).lt;have c5:=aq hB RR.o;by_cases bm:j<NN
   ·have bD:=zP (fY Zh.o.1 hB) Zh.o.2 (m:=j) (by omega);have LL:=Iw c j;cases QJ:c.of j with
    |none=>
     rw[(YZ.o j).1 QJ]at bD
     rw[QJ]at LL
     have OP:Hq (k=(wC c (List.range (j+1))).length∧Sat W2 wr [bE W2,LD (.slice oa k oc) (wC c (List.range (j+1)))]):=by
      show _∧_;rw[LL,List.append_nil];exact⟨hk,hS.out⟩
     dsimp only[Option.getD,Option.isSome]at bD;clear hS hB hk UU LL QJ;go_wp2_with fail;go_roundw
     case rel=>exact⟨j+1,k,oa,oc,OP.o.1,rfl,by go_num,by omega,OP.o.2⟩
     case measure=>simp[intOf];omega
    |some t=>
     obtain⟨p,hp,hr⟩:=(YZ.o j).2 t QJ;rw[hp]at bD
     rw[QJ]at LL
     obtain⟨bp,rfl⟩:=aP hr;have zg:=OV.o j t QJ;have abC:=qh (λ(R:EW)=>Ix (R:=R) wr t (.pointer (some ⟨bp,0,none⟩)) (bL (Yd.o.below hB).le _ _ hr) zg.1.ok zg.1.tJ zg.1.short (nT zg.2 (by omega)));dsimp only at LL;have Wx:=qh LL;have HK:=qh hk;have ZP:k≤100000:=by omega
     dsimp only[Option.getD,Option.isSome]at bD;clear hB LL QJ hk UU zg hr hp;generalize bs (Ty.text t)=tx at*
     go_wp2_with fail;refine abC.o _ (λw5 dW=>?_);have h9:=hS.out.below dW;have H9:=qh h9;clear h9 dW hS;go_wp2_with(at_builtin;go_loud(refine wpList_append_lies _ rfl (.tmp 38) (.tmp 43) 47 rfl 0 51 i0 _ 2 24 underlying47 ti mx mu mw rfl (by decide) (.slice oa k oc) k ((wC c (List.range j)).flatMap kV) (by rfl) ((by have h:=H9.o;unfold LD at h;rw[←HK.o]at h;exact(h.row 1 rfl).alloc _)) ⟨w5.heap.size,0,none⟩ 1 1 [.int .i64 (j:Nat),.string tx] (by rfl) (by rfl) (World.news_of_block (cs:=#[.int .i64 (j:Nat),.string tx]) (t:=51) (fr:=(0,0)) (aH _ _ _ (by simp))) (by simp[Value.oneCell']) (by omega) (by unfold maxLen;omega) (by omega) (by simp) (w5.heap.size+1) (by simp) ?_));intro g8 mX w8 kT hV yW L3;have h8:Sat W2 w8 [bE W2,ak.row 51 2 (.slice (some ⟨g8,0,none⟩) (k+1) mX) (k+1) ((wC c (List.range j)).flatMap kV++kV (j,tx))]:=by
      have h:=H9.o;unfold LD at h;rw[←HK.o]at h
      exact Sat.grow (h.aU _) 1 rfl hV kT (by simpa using yW)
     rw[HK.o]at h8
     have h9:=h8.cG (i:=1) rfl (Q:=LD (.slice (some ⟨g8,0,none⟩) ((wC c (List.range j)).length+1) mX) (wC c (List.range j)++[(j,tx)])) (λ_ h=>KW h);rw[←HK.o]at h9
     have HE:Hq (k+1=(wC c (List.range (j+1))).length∧Sat W2 w8 [bE W2,LD (.slice (some ⟨g8,0,none⟩) (k+1) mX) (wC c (List.range (j+1)))]):=by
      show _∧_;rw[Wx.o];exact⟨by rw[List.length_append,HK.o];rfl,h9⟩
     clear h8 h9 kT hV yW L3;go_wp2_with fail;go_roundw
     case rel=>exact⟨j+1,k+1,some ⟨g8,0,none⟩,mX,HE.o.1,rfl,by go_num,by omega,HE.o.2⟩
     case measure=>simp[intOf];omega
   ·have ju:j=NN:=by omega
    subst ju;have h9:=HZ.o.join hS.out;have z0:=h9.cell 1 rfl 0 rfl;have z1:=h9.cell 1 rfl 1 rfl;have y0:=h9.cell 2 rfl 0 rfl;have y1:=h9.cell 2 rfl 1 rfl;have fz:=h9.free 1 rfl;have hz:=h9.lt 1 rfl;have hy:=h9.lt 2 rfl;have n12:=h9.ne 1 2 (by decide) rfl rfl;have H9:=qh h9;have HG:=qh (λw'(h:Sat w0 w' [Fr,LD (.slice oa k oc) (wC c (List.range j))])=>aY.o pg v c (.slice oa k oc) w' HQ.o (by rw[Z3];exact h));clear h9 hS hB hk UU gU c5 bm hj;go_wp2_with fail
    go_region
    all_goals
     go_wp2_with fail;refine bodyPost_ret ?_ rfl (HG.o _ ?_)
     ·simp[results,results22,go_sem,bY,z0,z1]
     ·exact((H9.o.store 1 rfl 0 _).store 1 rfl 1 _).drew.pick [0,3]
 ·have Gk:=Em HL.o hq;obtain⟨fe,fp⟩:=f;dsimp only at Gk;have e2: ((fe:Int) !=0)=true:=by simp;omega
  have h4:=((h2.unpack (i:=0) rfl).pick [0,1])
  have z0:=h4.cell 1 rfl 0 rfl;have z1:=h4.cell 1 rfl 1 rfl;have fz:=h4.free 1 rfl;have hz:=h4.lt 1 rfl;have Hz:w.heap.size<w1.heap.size+1:=by omega
  have H4:=qh h4;have HQ:=qh hq;clear h2 h4 hq H1 Gk;dsimp only[bY];go_wp2_with fail
  go_region
  all_goals
   go_wp2_with fail;refine bodyPost_ret ?_ rfl (aB.o (fe,fp) _ HQ.o ?_)
   ·simp[results,results22,go_sem,bY,hz,z0,z1]
   ·exact((((H4.o.store 1 rfl 0 _).store 1 rfl 1 _).aU _).drew.pick [0])
end
section
open Go Go.RowKit Go.Sort
open Ty (Tr Ck lD aL dX)
namespace Ty
theorem D6{pg:Pg}{tq:Nat→Nat}{l:List Sm}{c:Ck}(hl:eg 0 l []=(pg.ns,pg.main))(h:Hh pg tq l=.ok c): (∀n nd,pg.ns[n]?=some nd→NdQ pg tq c n nd)∧(∃lo,Lt pg.ns lo pg.main)∧Vis pg.ns false pg.main:=by
 obtain⟨LA,C4,hm,kN⟩:=qW hl;have h1:=De l 0 [] _ _ LA h;rw[Nat.zero_add]at h1
 have h2:=h1.still (q:=false) C4 (by rfl) (.inr rfl) rfl (hi:=aL l+1) rfl rfl;rw[Nat.add_sub_cancel]at h2
 refine⟨λn nd hn=>h2.nd n nd (Nat.zero_le _) (by have:=dA hn;omega) hn,?_,?_⟩
 ·obtain⟨_,lo,_,h3⟩:=h2.lt.mem (aL l) (by simp);exact⟨lo,by rw[hm];exact h3⟩
 ·have h3:=h2.ret (aL l) (by simp) (by rw[cj C4];show(26:Nat)≠16;decide);rw[hm];exact h3
end Ty
section
variable {wB:World} {pb cb ofb hasb:Nat} {X:Cx} {s:Ck} {h0:ak.Hp} {pg:Ty.Pg}
theorem Io(E:PlE wB X pg cb ofb hasb s h0):∀(N n lo:Nat),n<N→Lt pg.ns lo n→zT wB X pg s pb cb n
 |0,n,lo,h,_=>absurd h (Nat.not_lt_zero _)
 |N+1,n,lo,h,ht=>by
  cases ht with
  |mk hn hL=>
   rename_i nd;have hC:∀m∈cX nd,m<n∧(m<n→zT wB X pg s pb cb m):=λm hm=>by
    obtain⟨a,k,_,b⟩:=hL.mem m hm;exact⟨a,λ_=>Io E N m k (by omega) b⟩
   by_cases h6:nd.kind=6
   ·exact Qe E hn h6 hC
   by_cases Vd:nd.kind=22
   ·by_cases hc:nd.c<0
    ·exact MW E hn Vd hc hC
    ·exact L1 E hn Vd hc hC
   by_cases ZH:nd.kind=26
   ·exact G' E hn ZH hC
   exact FW E hn ⟨h6,Vd,ZH⟩ hC
end
abbrev Ae(x y:Bq):Int:=Lib.compareInt x.1.1 y.1.1
theorem S5(x y:Bq):ltOf Ae x y=decide (x.1.1<y.1.1):=by
 unfold ltOf Ae Lib.compareInt;by_cases h:x.1.1<y.1.1
 ·simp[h]
 ·by_cases h2:y.1.1<x.1.1
  ·simp[h,h2];try omega
  ·simp[h,h2];try omega
theorem F4(x y:Bq)(W:World):Calls prog 97 #[.agg #[.int .i64 (x.1.1:Nat),.int .i64 (x.1.2:Nat)],.agg #[.int .i64 (y.1.1:Nat),.int .i64 (y.1.2:Nat)]] W λe w'=>e=.returned (.int .i64 (Ae x y))∧∃q R7,w'=grow (W.drewN q) R7:=by
 unfold Ae;obtain⟨⟨a,b⟩,ha⟩:=x;obtain⟨⟨c,d⟩,hc⟩:=y;dsimp only at*
 go_in;go_wp2_with fail;refine(Tryz.cmp_Compare_int _ _ _).mono ?_
 rintro e w' ⟨rfl,rfl⟩
 go_wp2_with fail
 go_ret
 refine⟨rfl,0,_,by rw[alloc_eq_grow,alloc_eq_grow,grow_grow];rfl⟩
theorem Ds{w0 w:World}{L:List As}{ov:Value}{out:lD}(H:Sat w0 w L)(i:Nat)(hi:L[i]?=some (CR ov out))(hn:∀p∈out,p.1≤1000000)(hl:out.length≤1000000){R:EW}
  (hR:∀w' d,d.Perm out→d.Pairwise (λx y=>x.1≤y.1)→Sat w0 w' (L.set i (CR ov d))→R (.returned (.tuple #[])) w'):
  Calls prog 96 #[ov,.func (.func 97) #[] #[]] w R:=
 uE sortGd 62 isAgg62 sizeOf62 Ae S5 97 (enters_of func97 (by kernel_rfl) rfl) F4 H i hi hn hl hR
end
section
open Ty (Tr Ck lD)
namespace Ty
theorem ry:∀(N:Nat)(l:List Nat),l.Nodup→(∀x∈l,x<N)→l.length≤N
 |0,l,_,h=>by
  cases l with
  |nil=>simp
  |cons a l=>have:=h a (by simp);omega
 |N+1,l,hn,h=>by
  by_cases hm:N∈l
  ·have h1:=ry N (l.erase N) (hn.erase N) λx hx=>by
    have h2:=(hn.mem_erase_iff).1 hx;have:=h x h2.2;omega
   rw[List.length_erase_of_mem hm]at h1
   omega
  ·have:=ry N l hn λx hx=>by
    have:=h x hx;have:x≠N:=λe=>hm (e▸hx)
    omega
   omega
theorem Ap.len{lo hi:Nat}{L:lD}(h:Ap lo hi L):L.length≤hi:=by
 have:=ry hi (L.map Prod.fst) h.2 λx hx=>by
  obtain⟨p,hp,rfl⟩:=List.mem_map.1 hx;exact(h.1 p hp).2
 rwa [List.length_map]at this
end Ty
theorem CB{w0 w:World}{Fr:As}(H:Sat w0 w [Fr])(s:BA)(hw:Words w)(hm:s.size≤maxLen){l:List Ty.Sm}(hl:∀pg:Ty.Pg,Ty.parse s=.ok pg→eg 0 l []=(pg.ns,pg.main)){R:EW}
  (aF:∀(pg:Ty.Pg)(X:Cx) cb ca v nc c ov gs w',vT s l=.ok (pg,v,c)→X.a_=BK v→X.cav=.map (some ca)→X.main=(pg.main:Nat)→gs.Perm (gS pg (BK v) c (pg.main+1) pg.main [])→gs.Pairwise (λx y=>x.1≤y.1)→
   Sat w0 w' [Fr,vV X.nv pg.ns,oS X.tv pg.ts,mapA 3 4 ca nc (cZ v.ca),mr cb X 10000 c [],CR ov gs]→R (.returned (.tuple #[.pointer (some ⟨cb,0,none⟩),ov,bY (0,0)])) w')
  (av:∀f w',vT s l=.error f→Sat w0 w' [Fr]→R (.returned (.tuple #[.pointer none,.slice none 0 0,bY f])) w'):
  Calls prog 51 #[.string s] w R:=by
 have aY:=qh aF;have aB:=qh av;have HW:=qh hw;have F6:=qh hm;have HL:=qh hl;have H1:=qh (Sat.pack (L:=[]) (H.aj (.cells #[.int .i64 0,.int .i64 0] 25) w.heap.size));clear aF av hw hm hl H;go_in;go_wp2_with fail;refine r0 H1.o s (HW.o.below ((bR _ _).alloc (nR _) _)) F6.o HL.o (λpg X cb ca v nc c w1 hq Lw Ny K2 h2=>?_) (λf w1 hq h2=>?_)
 ·have h5:=h2.aj (.cells #[.int .i64 0,.int .i64 0] 25) w1.heap.size;have hz: (w1.alloc (.cells #[.int .i64 0,.int .i64 0] 25)).heap.size=w1.heap.size+1:=by simp
  obtain⟨nr,Dq,nP⟩:=h5.mM 1 rfl;obtain⟨tr,Hk,qn⟩:=h5.F' 2 rfl;obtain⟨uh,sE,UY⟩:=yI.1 hq;have Uo:=l7 uh;have hP:PB (w1.alloc (.cells #[.int .i64 0,.int .i64 0] 25)) X.nv X.tv pg:=⟨⟨nr,Dq,nP⟩,⟨tr,Hk,qn⟩,Uo⟩
  obtain⟨ofb,hasb,bkv,no,nh,fo,fh,bl,h0,hI,h6⟩:=(h5.at 4 rfl).eV;have Og:=h6.MS hI;obtain⟨hQ,⟨lo,SV⟩,S2⟩:=D6 (HL.o pg uh) UY;have hE:PlE (w1.alloc (.cells #[.int .i64 0,.int .i64 0] 25)) X pg cb ofb hasb c h0:=⟨hP,Og,by rw[Lw];exact hQ⟩
  have hG:=C0 (pg:=pg) (tq:=BK v) (s:=c) (pg.main+1) pg.main lo [] SV (by omega);have ac6:=hG.1.len;have xZ:pg.main<pg.ns.length:=by obtain⟨_,C4,E6,_⟩:=qW (HL.o pg uh);rw[E6];exact dA C4
  have TH:=Uo.kO;have hC:=λpb=>Io (pb:=pb) hE (pg.main+1) pg.main lo (by omega) SV (pg.main+1) (by omega) [] []
  obtain⟨_,_,_,_,_,_,_,_,_,_,g⟩:=(h2.at 4 rfl).eV;have c2:=g.cell 1 rfl 2 rfl;have Nv:w1.cell? ⟨cb,2,none⟩=some (.int .i64 (pg.main:Nat)):=by rw[c2,←K2];rfl
  have gU:=g.lt 1 rfl;have SR:cb<w1.heap.size+1:=by omega
  have HC:=qh hC;have H5:=qh h5;have HQ:=qh hq;have YT:=qh Lw;have Q0:=qh Ny;have TU:=qh K2;have abU:=qh hG;have TQ:=qh S2;clear h2 h5 Dq nP Hk qn uh sE UY Uo hP h6 hI Og hQ SV hE hG hC c2 g hq Lw Ny K2 H1 S2;rw[show bY (0,0)=Value.agg #[.int .i64 0,.int .i64 0]from rfl];go_wp2_with fail;have h8:=(((((Sat.fw (w1.alloc (.cells #[.int .i64 0,.int .i64 0] 25))).aj (.cells #[.pointer (some ⟨cb,0,none⟩),.slice none 0 0,.slice none 0 0] 164) (w1.heap.size+1) hz.symm).nil 62 2).nil 107 1).hZ (P:=FR λ_=>none) λ_ _ _ e=>(by cases e))
  have h9:=Sat.lr (pb:=w1.heap.size+1) (cb:=cb) (ov:=.slice none 0 0) (bv:=.slice none 0 0) (o:=[]) (bl:=[]) (h1:=λ_=>none) (bk:=[]) ⟨rfl,λi h=>absurd h (by simp),λt h=>(by cases h),by simp⟩ h8;rw[YT.o]at HC
  refine HC.o _ _ _ (jH.fw _) h9 TQ.o (by simp only[List.length_nil];omega) (by simp only[List.length_nil];omega) _ (λw8 dS=>?_);obtain⟨ov,bv,Gl,jj,I5,g⟩:=dS.mR;obtain⟨oa,oc,rfl⟩:=ag (g.row 2 rfl);have ln:=H5.o.join g;have p1:=ln.cell 6 rfl 1 rfl;have jS:=ln.lt 6 rfl;have LC:=qh ln;clear h8 h9 dS ln g I5 HC TQ Nv gU SR H5 hz;go_wp2_with fail;refine Ds LC.o 7 rfl (λp hp=>by have:=abU.o.1.1 p hp;omega) (by simp only[List.nil_append];omega) (λw9 gs hp hs jj=>?_);have mW:=hp.length_eq;rw[List.nil_append]at hp mW
  have oP:Sat w0 w9 [ah [Fr,ay w.heap.size (.cells #[.int .i64 0,.int .i64 0] 25 (0,0))],vV X.nv pg.ns,oS X.tv pg.ts,mapA 3 4 ca nc (cZ v.ca),mr cb X 10000 c [],ay w1.heap.size (.cells #[.int .i64 0,.int .i64 0] 25 (0,0)),ay (w1.heap.size+1) (UI cb (.slice oa gs.length oc) bv),CR (.slice oa gs.length oc) gs]:=by
   have:=jj.pick [0,1,2,3,4,5,6,7];rw[mW];exact this
  have z:=(oP.unpack (i:=0) rfl).pick [8,7,0,1,2,3,4,5,6];have z':Sat w0 w9 [ay w.heap.size (.cells #[.int .i64 0,.int .i64 0] 25 (0,0)),Fr,vV X.nv pg.ns,oS X.tv pg.ts,mapA 3 4 ca nc (cZ v.ca),mr cb X 10000 c [],ay w1.heap.size (.cells #[.int .i64 0,.int .i64 0] 25 (0,0)),ay (w1.heap.size+1) (UI cb (.slice oa gs.length oc) bv),CR (.slice oa gs.length oc) gs]:=z;have a0:=z'.cell 0 rfl 0 rfl;have a1:=z'.cell 0 rfl 1 rfl;have fa:=z'.free 0 rfl;have la:=z'.lt 0 rfl;have y0:=z'.cell 6 rfl 0 rfl;have y1:=z'.cell 6 rfl 1 rfl;have ly:=z'.lt 6 rfl;have p1:=z'.cell 7 rfl 1 rfl;have jS:=z'.lt 7 rfl;have n1:=z'.ne 0 6 (by decide) rfl rfl;have n2:=z'.ne 0 7 (by decide) rfl rfl;have n3:=z'.ne 6 7 (by decide) rfl rfl;have HG:=qh (λw'(h:Sat w0 w' [Fr,vV X.nv pg.ns,oS X.tv pg.ts,mapA 3 4 ca nc (cZ v.ca),mr cb X 10000 c [],CR (.slice oa gs.length oc) gs])=>aY.o pg X cb ca v nc c (.slice oa gs.length oc) gs w' HQ.o YT.o Q0.o TU.o hp hs h);rw[←mW]at*
  have HZ:=qh z';generalize gs.length=GL at*
  clear jj oP z z' hp hs mW LC;go_wp2_with fail
  go_region
  all_goals
   go_wp2_with fail;refine bodyPost_ret ?_ rfl (HG.o _ ?_)
   ·simp[results,results51,go_sem,bY,a0,a1]
   ·exact(((HZ.o.store 0 rfl 0 _).store 0 rfl 1 _).drew.pick [1,2,3,4,5,8])
 ·have Gk:=Em HL.o hq;obtain⟨fe,fp⟩:=f;dsimp only at Gk;have e2: ((fe:Int) !=0)=true:=by simp;omega
  have h4:=((h2.unpack (i:=0) rfl).pick [0,1])
  have z0:=h4.cell 1 rfl 0 rfl;have z1:=h4.cell 1 rfl 1 rfl;have fz:=h4.free 1 rfl;have hz:=h4.lt 1 rfl;have Hz:w.heap.size<w1.heap.size+1:=by omega
  have H4:=qh h4;have HQ:=qh hq;clear h2 h4 hq H1 Gk;dsimp only[bY];go_wp2_with fail
  go_region
  all_goals
   go_wp2_with fail;refine bodyPost_ret ?_ rfl (aB.o (fe,fp) _ HQ.o ?_)
   ·simp[results,results51,go_sem,bY,hz,z0,z1]
   ·exact((((H4.o.store 1 rfl 0 _).store 1 rfl 1 _).aU _).drew.pick [0])
end
namespace Ty
def N5(ks:List Key)(m:Nat)(r:Except Ft Pg):Bool:=match r with
 | .ok p=>decide (p.ns.map key=ks)&&(p.main==m)
 | .error _=>false
theorem CS{s:BA}{l:List Sm}{ks:List Key}{m:Nat}(h:N5 ks m (parse s)=true)(g: (eg 0 l []).1.map key=ks∧(eg 0 l []).2=m)(pg:Pg)(hp:parse s=.ok pg):eg 0 l []=(pg.ns,pg.main):=by
 unfold N5 at h;rw[hp]at h
 simp only[Bool.and_eq_true,decide_eq_true_eq,beq_iff_eq]at h;exact Prod.ext (zW (g.1.trans h.1.symm)) (g.2.trans h.2.symm)
def NJ:BA:=⟨#[112,114,105,110,116,32,91,49,44,32,116,114,117,101,93,59]⟩
def ED:List Sm:=[.print 0 (.arr 6 [.num 7 1,.bool 10 1])]
def M8:BA:=⟨#[112,114,105,110,116,32,49,32,43,32,116,114,117,101,59]⟩
def E8:List Sm:=[.print 0 (.two 6 ⟨#[43]⟩ (.num 6 1) (.bool 10 1))]
def Mh:BA:=⟨#[108,101,116,32,102,32,61,32,102,110,40,120,58,32,110,117,109,41,32,123,32,112,114,105,110,116,32,120,59,32,125,59]⟩
def EK:List Sm:=[.kj 0 ⟨#[102]⟩ (-1) (.fn 8 [⟨11,⟨#[120]⟩,0⟩] (-1) 19 [.print 21 (.var 27 ⟨#[120]⟩)])]
def Ox:List Key:=[([1,0,0,1,7],[0,-1],[],[]),([3,0,0,1,10],[0,-1],[],[]),([11,0,0,0,6],[0,-1],[0,1],[]),([21,2,0,0,0],[0,-1],[],[]),([26,0,0,0,0],[0,-1],[3],[])]
def Om:List Key:=[([1,0,0,1,6],[0,-1],[],[]),([3,0,0,1,10],[0,-1],[],[]),([12,0,1,0,6],[0,-1],[],[43]),([21,2,0,0,0],[0,-1],[],[]),([26,0,0,0,0],[0,-1],[3],[])]
def Ow:List Key:=[([16,0,0,0,11],[0,0],[],[120]),([5,0,0,0,27],[0,-1],[],[120]),([21,1,0,0,21],[0,-1],[],[]),([26,0,0,0,19],[0,-1],[2],[]),([6,3,0,0,8],[0,-1],[0],[]),([17,4,0,0,0],[0,-1],[],[102]),([26,0,0,0,0],[0,-1],[5],[])]
theorem NG(pg:Pg)(hp:parse NJ=.ok pg):eg 0 ED []=(pg.ns,pg.main):=CS (ks:=Ox) (m:=4) (by decide+kernel) (by simp[ED,Ox,eg,eM,dL,aT,ir,key,af]) pg hp
theorem NV(pg:Pg)(hp:parse M8=.ok pg):eg 0 E8 []=(pg.ns,pg.main):=CS (ks:=Om) (m:=4) (by decide+kernel) (by simp[E8,Om,eg,eM,dL,aT,key,af]) pg hp
theorem MU(pg:Pg)(hp:parse Mh=.ok pg):eg 0 EK []=(pg.ns,pg.main):=CS (ks:=Ow) (m:=6) (by decide+kernel) (by simp[EK,Ow,eg,eM,dL,aT,il,key,af]) pg hp
theorem DZ: (match vT NJ ED with| .ok (pg,_,c)=>decide ((List.range pg.ns.length).filterMap (λn=>(c.of n).map λt=>(n,text t))=[(0,[110,117,109]),(1,[98,111,111,108]),(2,[91,110,117,109,32,124,32,98,111,111,108,93])])| .error _=>false)=true:=by decide+kernel
theorem D': (match vT M8 E8 with| .ok _=>false| .error f=>decide (f=(9,6)))=true:=by decide+kernel
theorem Ej: (match vT Mh EK with| .ok (pg,v,c)=>decide (gS pg (BK v) c (pg.main+1) pg.main []=[(0,1)])| .error _=>false)=true:=by decide+kernel
end Ty
section
open Ty (Tr Ck lD)
theorem qt{w0 w:World}{Fr:As}(H:Sat w0 w [Fr])(s:BA)(hw:Words w)(hm:s.size≤maxLen){l:List Ty.Sm}(hl:∀pg:Ty.Pg,Ty.parse s=.ok pg→eg 0 l []=(pg.ns,pg.main)){R:EW}
  (aF:∀(pg:Ty.Pg) v c ov gs w',vT s l=.ok (pg,v,c)→gs.Perm (gS pg (BK v) c (pg.main+1) pg.main [])→gs.Pairwise (λx y=>x.1≤y.1)→Sat w0 w' [Fr,CR ov gs]→R (.returned (.tuple #[ov,bY (0,0)])) w')
  (av:∀f w',vT s l=.error f→Sat w0 w' [Fr]→R (.returned (.tuple #[.slice none 0 0,bY f])) w'):
  Calls prog 25 #[.string s] w R:=by
 have aY:=qh aF;have aB:=qh av;have HW:=qh hw;have F6:=qh hm;have HL:=qh hl;have H1:=qh (Sat.pack (L:=[]) (H.aj (.cells #[.int .i64 0,.int .i64 0] 25) w.heap.size));clear aF av hw hm hl H;go_in;go_wp2_with fail;refine CB H1.o s (HW.o.below ((bR _ _).alloc (nR _) _)) F6.o HL.o (λpg X cb ca v nc c ov gs w1 hq Lw Ny K2 hp hs h2=>?_) (λf w1 hq h2=>?_)
 ·obtain⟨oa,oc,rfl⟩:=ag (h2.row 5 rfl);have h4:Sat w0 w1 [Fr,ay w.heap.size (.cells #[.int .i64 0,.int .i64 0] 25 (0,0)),CR (.slice oa gs.length oc) gs]:=(h2.unpack (i:=0) rfl).pick [5,6,4];have z0:=h4.cell 1 rfl 0 rfl;have z1:=h4.cell 1 rfl 1 rfl;have fz:=h4.free 1 rfl;have hz:=h4.lt 1 rfl;have Hz:w.heap.size<w1.heap.size+1:=by omega
  have HG:=qh (aY.o pg v c (.slice oa gs.length oc) gs · hq hp hs);have H4:=qh h4;clear h2 h4 hq Lw Ny K2 hp hs H1;generalize gs.length=GL at*
  rw[show bY (0,0)=Value.agg #[.int .i64 0,.int .i64 0]from rfl];go_wp2_with fail
  go_region
  all_goals
   go_wp2_with fail;refine bodyPost_ret ?_ rfl (HG.o _ ?_)
   ·simp[results,results25,go_sem,bY,hz,z0,z1]
   ·exact((((H4.o.store 1 rfl 0 _).store 1 rfl 1 _).aU _).drew).pick [0,2]
 ·have h4:=(h2.unpack (i:=0) rfl).pick [0,1];obtain⟨fe,fp⟩:=f;have z0:=h4.cell 1 rfl 0 rfl;have z1:=h4.cell 1 rfl 1 rfl;have fz:=h4.free 1 rfl;have hz:=h4.lt 1 rfl;have Hz:w.heap.size<w1.heap.size+1:=by omega
  have H4:=qh h4;have HQ:=qh hq;clear h2 h4 hq H1;dsimp only[bY];go_wp2_with fail
  go_region
  all_goals
   go_wp2_with fail;refine bodyPost_ret ?_ rfl (aB.o (fe,fp) _ HQ.o ?_)
   ·simp[results,results25,go_sem,bY,hz,z0,z1]
   ·exact((((H4.o.store 1 rfl 0 _).store 1 rfl 1 _).aU _).drew).pick [0]
theorem V_{w:World}{v:Value}{l:List (Nat×BA)}(h:w.ownsRow 0 51 2 v l.length (l.flatMap kV))(k:Nat)(hk:k<l.length):
  ∃g cap:Nat,v=.slice (some ⟨g,0,none⟩) l.length cap∧g<w.heap.size∧w.cell? ⟨g,k*2,none⟩=some (.int .i64 (l[k].1:Nat))∧w.cell? ⟨g,k*2+1,none⟩=some (.string l[k].2):=by
 obtain⟨g,cap,rfl,_,hg⟩:=h.form (by omega);have hc:=λj u hj=>World.ownsRow.cells h (g:=g) rfl j u hj
 have hf:=jD kV 2 (λ_=>rfl) l k hk;refine⟨g,cap,rfl,hg,?_,?_⟩
 ·have:=hc (k*2+0) _ (by rw[hf 0 (by omega)];rfl);rwa [Addr.add_lit,Nat.zero_add]at this
 ·have:=hc (k*2+1) _ (by rw[hf 1 (by omega)];rfl);rwa [Addr.add_lit,Nat.zero_add]at this
theorem Qo{w:World}{v:Value}{l:lD}(h:w.ownsRow 0 62 2 v l.length (l.flatMap dY))(k:Nat)(hk:k<l.length):
  ∃g cap:Nat,v=.slice (some ⟨g,0,none⟩) l.length cap∧g<w.heap.size∧w.cell? ⟨g,k*2,none⟩=some (.int .i64 (l[k].1:Nat))∧w.cell? ⟨g,k*2+1,none⟩=some (.int .i64 (l[k].2:Nat)):=by
 obtain⟨g,cap,rfl,_,hg⟩:=h.form (by omega);have hc:=λj u hj=>World.ownsRow.cells h (g:=g) rfl j u hj
 have hf:=jD dY 2 (λ_=>rfl) l k hk;refine⟨g,cap,rfl,hg,?_,?_⟩
 ·have:=hc (k*2+0) _ (by rw[hf 0 (by omega)];rfl);rwa [Addr.add_lit,Nat.zero_add]at this
 ·have:=hc (k*2+1) _ (by rw[hf 1 (by omega)];rfl);rwa [Addr.add_lit,Nat.zero_add]at this
theorem K_(c:Ck)(l:List Nat):wC c l=(l.filterMap λn=>(c.of n).map λt=>(n,Ty.text t)).map λp=>(p.1,bs p.2):=by
 unfold wC;rw[List.map_filterMap];congr 1;funext n;cases c.of n<;>rfl
theorem J4{pg:Ty.Pg}{v:Ty.Vg}{c:Ck}(h:vT NJ ED=.ok (pg,v,c)):wC c (List.range pg.ns.length)=[(0,⟨#[110,117,109]⟩),(1,⟨#[98,111,111,108]⟩),(2,⟨#[91,110,117,109,32,124,32,98,111,111,108,93]⟩)]:=by
 have e:=DZ;rw[h]at e
 dsimp only at e;rw[K_,of_decide_eq_true e];rfl
theorem J_{f:Ty.Ft}(h:vT M8 E8=.error f):f=(9,6):=by
 have e:=D';rw[h]at e
 exact of_decide_eq_true e
theorem Lb{pg:Ty.Pg}{v:Ty.Vg}{c:Ck}(h:vT Mh EK=.ok (pg,v,c)):gS pg (BK v) c (pg.main+1) pg.main []=[(0,1)]:=by
 have e:=Ej;rw[h]at e
 exact of_decide_eq_true e
theorem ur(w:World)(hw:Words w){R:EW}(hR:∀w',Below w.heap.size w w'→R (.returned (.bool true)) w'):
  Calls prog 24 #[] w R:=by
 have HR:=qh hR;have HW:=qh hw;clear hR hw;go_in;go_wp2_with fail;refine lg (Sat.fw w) NJ HW.o (by decide) NG (λpg v c ov w1 hq h1=>?_) (λf w1 hq h1=>?_);rotate_left
 ·have e:=DZ;rw[hq]at e;cases e
 rw[J4 hq]at h1
 obtain⟨oa,oc,rfl⟩:=ag (h1.row 1 rfl);have h2:=h1.aj (.cells #[.int .i64 0,.int .i64 0] 25) w1.heap.size;have H2:=qh h2;clear hq h1 h2;rw[show bY (0,0)=Value.agg #[.int .i64 0,.int .i64 0]from rfl];go_wp2_with fail;refine lg (Sat.pack (L:=[]) H2.o) M8 (HW.o.below H2.o.aW) (by decide) NV (λpg v c ov w2 hq h3=>?_) (λf w2 hq h3=>?_)
 ·have e:=D';rw[hq]at e;cases e
 have hf:=J_ hq;subst hf;have h4:=(h3.unpack (i:=0) rfl).aj (.cells #[.int .i64 9,.int .i64 6] 25) w2.heap.size;obtain⟨og,Xe,e,Z7,d0,d1⟩:=V_ (h4.row 1 rfl) 2 (by simp);cases e;have x0:=h4.cell 2 rfl 0 rfl;have x1:=h4.cell 2 rfl 1 rfl;have y0:=h4.cell 3 rfl 0 rfl;have y1:=h4.cell 3 rfl 1 rfl;have H4:=qh h4;clear hq h3 h4;rw[show bY (9,6)=Value.agg #[.int .i64 9,.int .i64 6]from rfl];go_wp2_with fail;exact HR.o _ H4.o.aW
theorem tV(w:World)(hw:Words w){R:EW}(hR:∀w',Below w.heap.size w w'→R (.returned (.bool true)) w'):
  Calls prog 27 #[] w R:=by
 have HR:=qh hR;have HW:=qh hw;clear hR hw;go_in;go_wp2_with fail;refine qt (Sat.fw w) Mh HW.o (by decide) MU (λpg v c ov gs w1 hq hp hs h1=>?_) (λf w1 hq h1=>?_);rotate_left
 ·have e:=Ej;rw[hq]at e;cases e
 rw[Lb hq]at hp
 have hd:=List.perm_singleton.1 hp;subst hd;obtain⟨oa,oc,rfl⟩:=ag (h1.row 1 rfl);have h2:=h1.aj (.cells #[.int .i64 0,.int .i64 0] 25) w1.heap.size;obtain⟨og,Xe,e,Z7,d0,d1⟩:=Qo (h2.row 1 rfl) 0 (by simp);cases e;have x0:=h2.cell 2 rfl 0 rfl;have x1:=h2.cell 2 rfl 1 rfl;have H2:=qh h2;clear hq h1 h2 hp hs;rw[show bY (0,0)=Value.agg #[.int .i64 0,.int .i64 0]from rfl];go_wp2_with fail;exact HR.o _ H2.o.aW
end
end Go.Proofs.YtdlbhiaceheffabGreatDoor
