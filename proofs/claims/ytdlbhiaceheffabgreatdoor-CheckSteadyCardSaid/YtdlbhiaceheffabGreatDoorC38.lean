/- Walk of check.Open. -/
import Derived.Shelf.SlGeneric
import Derived.Shelf.SlSortCmp.WholeK
import Derived.Ground.SlsfProg
import Derived.Test.YtdlbhiaceheffabGreatDoorProg
import Derived.Test.YtdlbhiaceheffabGreatDoorC37
set_option linter.all false
set_option maxRecDepth 100000
set_option maxHeartbeats 8000000
namespace Go.Proofs.YtdlbhiaceheffabGreatDoor
open Go Go.RowKit Ty Tok Prt Tryz Proofs.Tryz
section
open Ty (Tr Ck aK aI eP)
abbrev ZB:Ck:=⟨λ_=>none,λ_=>none⟩
theorem Gl{w0 w:World}{Fr:As}(H:Sat w0 w [Fr])(s:BA)(hw:Words w)(hm:s.size<=maxLen){l:List Ty.Sm}(hl:∀pg:Ty.Pg,Ty.parse s=.ok pg->dm 0 l []=(pg.ns,pg.main)){R:EW}
  (aD:∀(pg:Ty.Pg)(X:Cx) cb ca v d nc s' w',Ty.parse s=.ok pg->lz l=.ok v->d.Perm v.out->d.Pairwise (λx y=>x.1<=y.1)->X.wi=jW d->MY pg X.kv l=.ok s'->X.cav=.map (some ca)->X.main=(pg.main:Nat)->
   Sat w0 w' [Fr,C8 X.nv pg.ns,sA X.tv pg.ts,mapA 3 4 ca nc (dL v.ca),uK cb X 10000 s' []]->R (.returned (.tuple #[.pointer (some ⟨cb,0,none⟩),bm (0,0)])) w')
  (au:∀f w',(Ty.parse s=.error f\/∃pg:Ty.Pg,Ty.parse s=.ok pg/\(lz l=.error f\/∃v d,lz l=.ok v/\d.Perm v.out/\d.Pairwise (λx y=>x.1<=y.1)/\MY pg (λn=>((jW d n).getD 0).toNat) l=.error f))->Sat w0 w' [Fr]->R (.returned (.tuple #[.pointer none,bm f])) w'):
  Calls prog 48 #[.string s] w R:=by
 have fL:=qh aD;have bX:=qh au;have HL:=qh hl;have S6:=@run_makeMap prog;have h1:=(H.ar (.cells #[.pointer none] 99) w.heap.size).ar (.cells #[.int .i64 0,.int .i64 0] 25) (w.heap.size+1) (by simp);have H1:=qh (Sat.pack (L:=[]) h1);have HW:=qh (hw.below (((bR _ _).alloc (nR _) (.cells #[.pointer none] 99)).alloc (by simp) (.cells #[.int .i64 0,.int .i64 0] 25)));have VZ:=qh hm;clear aD au hw hm hl H h1
 go_enter_defers func48,ntmps48
 go_wp2_with fail;refine LN H1.o s HW.o VZ.o HL.o (λpg nv tv ov ca v d nc w1 ht hv vJ hs D6 UK h2=>?_) (λf w1 hf h2=>?_)
 ·have h3:=(h2.unpack 0 rfl).pick [4,5,6,0,1,2,3];have fa:=h3.free 1 rfl;have fd:=h3.free 2 rfl;have la:=h3.lt 1;have ld:=h3.lt 2;have Zk:w.heap.size<w1.heap.size+1:=by omega
  have D':w.heap.size<w1.heap.size+1+1:=by omega
  have aeo:w.heap.size<w1.heap.size+1+1+1:=by omega
  have afF:w.heap.size<w1.heap.size+1+1+1+1:=by omega
  have a0:=h3.cell 1 0;have d0:=h3.cell 2 0;have d1:=h3.cell 2 1;obtain⟨nr,G2,qo⟩:=h3.ng 3 rfl;obtain⟨tr,LJ,rN⟩:=h3.F5 4 rfl;obtain⟨na,oz,en⟩:=ag qo.row;obtain⟨ta,tc,et⟩:=ag rN.row;obtain⟨oa,oc,eo⟩:=ag (h3.row 5);have H3:=qh h3;clear h2 h3 G2 qo LJ rN;subst en et eo;generalize nr.length=NN at*
  generalize tr.length=TN at*
  dsimp only[bm];go_wp2_with fail;have h4:=((H3.o.store 2 rfl 0 (.int .i64 0)).store 2 rfl 1 (.int .i64 0)).store 1 rfl 0 (.pointer (some ⟨w1.heap.size+1+1+1+1,0,none⟩));have hz: (((w1.setCell ⟨w.heap.size+1,0,none⟩ (.int .i64 0)).setCell ⟨w.heap.size+1,1,none⟩ (.int .i64 0)).setCell ⟨w.heap.size,0,none⟩ (.pointer (some ⟨w1.heap.size+1+1+1+1,0,none⟩))).heap.size=w1.heap.size:=by simp
  clear a0 d0 d1 fa fd la ld Zk D' aeo afF;generalize((w1.setCell ⟨w.heap.size+1,0,none⟩ (.int .i64 0)).setCell ⟨w.heap.size+1,1,none⟩ (.int .i64 0)).setCell ⟨w.heap.size,0,none⟩ (.pointer (some ⟨w1.heap.size+1+1+1+1,0,none⟩))=W2 at h4 hz⊢;generalize w1.heap.size=n1 at*
  have h5:=h4.ar (.cells #[.slice na NN oz,.slice ta TN tc,.int .i64 (pg.main:Nat)] 31) n1 hz.symm;have Lb: (W2.alloc (.cells #[.slice na NN oz,.slice ta TN tc,.int .i64 (pg.main:Nat)] 31)).heap.size=n1+1:=by simp[hz]
  have H5:Hq (Sat w0 (W2.alloc (.cells #[.slice na NN oz,.slice ta TN tc,.int .i64 (pg.main:Nat)] 31)) [Fr,ax w.heap.size (.cells #[.pointer (some ⟨n1+1+1+1+1,0,none⟩)] 99 (0,0)),ax (w.heap.size+1) (.cells #[.int .i64 0,.int .i64 0] 25 (0,0)),C8 (.slice na NN oz) pg.ns,sA (.slice ta TN tc) pg.ts,wj (.slice oa d.length oc) d,mapA 3 4 ca nc (dL v.ca),ax n1 (.cells #[.slice na NN oz,.slice ta TN tc,.int .i64 (pg.main:Nat)] 31 (0,0))]):=h5;clear h4 h5 hz H3;generalize W2.alloc (.cells #[.slice na NN oz,.slice ta TN tc,.int .i64 (pg.main:Nat)] 31)=wB at*
  have hk:=XO (wB:=wB) (nv:=.slice na NN oz) (tv:=.slice ta TN tc) (cav:=.map (some ca)) (main:=(pg.main:Nat)) (n1+1) Lb.symm;have HK:=qh hk;have HD:=qh (H5.o.row 5);have afI:=qh (H5.o.cell 1 0);have aej:=qh (H5.o.lt 1);have adu:=qh UK;have Zy:=qh (H5.o.cell 7 2);have ahR:=qh (H5.o.lt 7);have DK:=lD ht;obtain⟨Ry,Iq,OI,lW⟩:=EZ (HL.o pg ht);have abR:=DK.o7;have zW:Hq (∀p∈d,p.1<=100000/\p.2<=100000):=λp hp=>by have:=MX hv p (vJ.mem_iff.1 hp);omega
  obtain⟨ZK,G2,qo⟩:=H5.o.ng 3 rfl;obtain⟨abl,LJ,rN⟩:=H5.o.F5 4 rfl;have hP:PB wB (.slice na NN oz) (.slice ta TN tc) pg:=⟨⟨ZK,G2,qo⟩,⟨abl,LJ,rN⟩,DK⟩
  have Ew:∀p∈v.out,((jW d p.1).getD 0).toNat=p.2:=λp hp=>by
   rw[rA (((vJ.map Prod.fst).nodup_iff).2 (pQ hv)) (vJ.mem_iff.2 hp)];rfl
  have YH:=qh (@Mg _ DK (λn=>((jW d n).getD 0).toNat) _ Ry _ hv Ew);have HC:=qh (λX cb(h1:X.nv=.slice na NN oz)(h2:X.tv=.slice ta TN tc)=>(show Ax wB X cb pg.main (3*aI l+1) (λbk s=>Ty.j_ pg X.kv l 0 bk s)from by
   have h:=zt (X:=X) (cb:=cb) (by rw[h1,h2];exact hP) (b:=l) (a:=0) (by rw[Nat.zero_add];exact Iq) Ry (vW (by rw[h1,h2];exact hP) l 0 Ry) (K:=3*aI l+1) (by rw[lh];exact nR _) (λbk s=>k_ l 0 bk s);rw[Nat.zero_add]at h
   rw[OI];exact h))
  have Cs:Hq (aI l<=1200):=by show _<=_;omega
  clear DK Ry Iq OI lW abR G2 qo LJ rN hP Ew;clear hk Lb S6;go_loopw [30] (λi wr=>∃(j:Nat),i=.int .i64 j/\j<=d.length/\Hq (Sat wB wr [bY wB,ax (n1+1+1+1+1) (.cells #[.slice na NN oz,.slice ta TN tc,.int .i64 (pg.main:Nat),.map (some (n1+1)),.map (some ca),.map (some (n1+1+1)),.map (some (n1+1+1+1)),.slice none 0 0] 106 (0,0)),mapA 3 3 (n1+1) j (cY (jW (d.take j))),lP 3 (n1+1+1) 0 (iH λ_=>none),lP 3 (n1+1+1+1) 0 (iH λ_=>none),Prt.row 107 1 (.slice none 0 0) 0 [],Pt (λ_=>none)])) (λi _=>d.length-(intOf i).toNat)
  case atStart=>exact⟨0,rfl,Nat.zero_le _,HK.o⟩
  case round=>
   obtain⟨j,rfl,hj,hS⟩:=hrel;have hB:=(ju.iN wB) wr _ 0 hS.out rfl;have pa:=av hB afI.o;have lR:=nL aej.o hB.size;by_cases bz:j<d.length
   ·obtain⟨gb,ahT,e,afK,d0,d1⟩:=abw (ay HD.o hB) j bz;cases e;have g:=hS.out;have k3:=g.cell 1 3;have DV:=g.lt 1;obtain⟨q1,q2⟩:=zW.o d[j] (gM bz);have Jd:Hq (jW (d.take (j+1))=λk=>if k=d[j].1 then some ((d[j].2:Nat):Int)else jW (d.take j) k):=by show _= _;rw[List.take_succ_eq_append_getElem bz,K8]
    generalize d[j]=q at*
    have g1:=(g.aU (.cells #[.int .i64 (q.1:Nat),.int .i64 (q.2:Nat)] 43)).drew;obtain⟨D,hD,qx⟩:=g1.oY 2 rfl;obtain⟨w6,yX,gg,dZ⟩:=hD.update dR underlying102 (by unfold maxLen;omega) (Maps.keyOf_int_mk underlying3 (Gr q.1 q1)) (plainElem_int underlying3 (Gr q.2 q2));have h6:=g1.uZ 2 rfl dZ gg (Ψ:=cY (λk=>if k=q.1 then some ((q.2:Nat):Int)else jW (d.take j) k)) (uk qx q.1 q.2);have H6:=qh h6;clear g g1 hD qx gg dZ h6 hS hB q1 q2;go_wp2_with fail
    go_region
    all_goals
     go_wp2_with fail;go_roundw
     case rel=>exact⟨j+1,by go_num,by omega,by show Sat _ _ _;rw[Jd.o];exact H6.o⟩
     case measure=>simp[intOf];omega
   ·have oE:j=d.length:=by omega
    subst oE;have h6:=hS.out;rw[List.take_length]at h6
    have pm:=av hB Zy.o;obtain⟨X,hX⟩:∃X:Cx,X=⟨.slice na NN oz,.slice ta TN tc,(pg.main:Nat),n1+1,d.length,jW d,.map (some ca)⟩:=⟨_,rfl⟩
    have h7:Sat wB wr [bY wB,uK (n1+1+1+1+1) X 0 ZB []]:=by
     subst hX;exact Sat.mr (ofb:=n1+1+1) (hasb:=n1+1+1+1) (bkv:=.slice none 0 0) (no:=0) (nh:=0) (fo:=λ_=>none) (fh:=λ_=>none) (bl:=[]) (h0:=λ_=>none) ⟨nR _,nR _,λn=>⟨λ_=>rfl,λt e=>(by cases e)⟩,λn t e=>(by cases e),rfl,λi h=>absurd h (by simp),Nat.zero_le _,FineS.nil,λn=>Qy (λp hp=>(zW.o p hp).2) n⟩ h6
    have Zr:X.nv=.slice na NN oz:=by rw[hX]
    have abm:X.tv=.slice ta TN tc:=by rw[hX]
    have YR:X.kv=λn=>((jW d n).getD 0).toNat:=by rw[hX];rfl
    have HX:=qh hX;have eR:Ty.j_ pg X.kv l 0 [] ZB≠.error Ty.stuck:=by rw[YR];exact YH.o.1
    have HV:=qh (HC.o X (n1+1+1+1+1) Zr abm [] ZB 0 wr _ (ju.iN wB) h7 (by have:=Cs.o;omega) eR);have HT:=qh ht;have acK:=qh hv;have Sv:=qh vJ;have ab2:=qh hs;have Zf:=qh YR;clear h6 h7 hX Zr abm YR eR HC YH hS hj ht hv vJ hs;go_wp2_with fail;refine HV.o _ (λs' w8 hq h8=>?_) (λf w8 hq h8=>?_)
    ·have h9:=H5.o.join (h8.v_ (d:=10000) (by have:=Cs.o;omega));have a0:=h9.cell 1 0;have d0:=h9.cell 2 0;have d1:=h9.cell 2 1;have fa:=h9.free 1 rfl;have fd:=h9.free 2 rfl;have la:=h9.lt 1;have ld:=h9.lt 2;have H9:=qh h9;have HQ:=qh hq;clear h8 h9 hq HV HK;go_wp2_with fail
     go_region
     all_goals
      have fs:=(((H9.o.store 1 rfl 0 (.pointer (some ⟨n1+1+1+1+1,0,none⟩))).store 2 rfl 0 (.int .i64 0)).store 2 rfl 1 (.int .i64 0)).drew;have Az:=qh fs;clear fs H9 a0 d0 d1 fa fd la ld;go_wp2_with fail;refine leaves_cons (f:=92) (args:=#[.pointer (some ⟨w.heap.size,0,none⟩),.pointer (some ⟨w.heap.size+1,0,none⟩)]) (by simp) (by simp[go_sem]) ?_;refine(QT _ _ _).mono ?_
      rintro e u' KY ⟨rfl,rfl,rfl⟩
      have a0:=Az.o.cell 1 0;have d0:=Az.o.cell 2 0;have d1:=Az.o.cell 2 1;simp[Leaves,settle,results,results48,go_sem,a0,d0,d1];have hX:=HX.o;exact fL.o pg X _ ca v d nc s' _ HT.o acK.o Sv.o ab2.o (by rw[hX]) HQ.o (by rw[hX]) (by rw[hX]) (by
       have pY:=Az.o.pick [0,3,4,6,8];rw[show X.nv=.slice na NN oz by rw[hX],show X.tv=.slice ta TN tc by rw[hX]];exact pY)
    ·have h9:=H5.o.join h8;have HQ:=qh hq;clear h8 hq HV HK;refine leaves_cons (f:=92) (args:=#[.pointer (some ⟨w.heap.size,0,none⟩),.pointer (some ⟨w.heap.size+1,0,none⟩)]) (by simp) (by simp[go_sem]) ?_;refine(QF h9 f).mono ?_
     rintro e u' KY ⟨rfl,rfl,fs⟩
     have a0:=fs.cell 1 0;have d0:=fs.cell 2 0;have d1:=fs.cell 2 1;simp[Leaves,settle,results,results48,go_sem,a0,d0,d1];exact bX.o f _ (.inr ⟨pg,HT.o,.inr ⟨v,d,acK.o,Sv.o,ab2.o,by rw[<-Zf.o];exact HQ.o⟩⟩) (fs.pick [0])
 ·have yg:f.1≠0:=by
   rcases hf with h|⟨pg,_,h⟩
   ·exact ku h
   ·exact BD h
  have HF:=qh (show(Ty.parse s=.error f\/∃pg:Ty.Pg,Ty.parse s=.ok pg/\(lz l=.error f\/∃v d,lz l=.ok v/\d.Perm v.out/\d.Pairwise (λx y=>x.1<=y.1)/\MY pg (λn=>((jW d n).getD 0).toNat) l=.error f))from hf.imp id λ⟨pg,h1,h2⟩=>⟨pg,h1,.inl h2⟩);obtain⟨fe,fp⟩:=f;dsimp only at yg;have e2: ((fe:Int) !=0)=true:=by simp;omega
  have h3:Sat w0 w1 [Fr,ax w.heap.size (.cells #[.pointer none] 99 (0,0)),ax (w.heap.size+1) (.cells #[.int .i64 0,.int .i64 0] 25 (0,0))]:=(h2.unpack 0 rfl).pick [0,1,2];have a0:=h3.cell 1 0;have d0:=h3.cell 2 0;have d1:=h3.cell 2 1;have fa:=h3.free 1 rfl;have fd:=h3.free 2 rfl;have la:=h3.lt 1;have ld:=h3.lt 2;have Zk:w.heap.size<w1.heap.size+1:=by omega
  have H3:=qh h3;clear h2 h3 hf yg S6;dsimp only[bm];go_wp2_with fail
  go_region
  all_goals
   have h9:=((((((H3.o.store 2 rfl 0 (.int .i64 (fe:Nat))).store 2 rfl 1 (.int .i64 (fp:Nat))).store 1 rfl 0 (.pointer none)).store 2 rfl 0 (.int .i64 (fe:Nat))).store 2 rfl 1 (.int .i64 (fp:Nat))).aU (.cells #[.slice none 0 0,.slice none 0 0,.int .i64 0] 31)).drew;have a0:=h9.cell 1 0;have d0:=h9.cell 2 0;have d1:=h9.cell 2 1;have H9:=qh h9;clear h9 fa fd la ld Zk;go_wp2_with fail;simp[bodyPostD,Leaves,results,results48,go_sem,a0,d0,d1];exact bX.o (fe,fp) _ HF.o (H9.o.pick [0])
end
namespace Ty
def RB(v:Vg)(n:Nat):Nat:=((jW v.out n).getD 0).toNat
theorem yW{d e:List (Nat×Nat)}(h:d.Perm e)(hn: (e.map Prod.fst).Nodup):jW d=jW e:=by
 funext k;have hd: (d.map Prod.fst).Nodup:=((h.map Prod.fst).nodup_iff).2 hn;cases hk:e.find? λp=>p.1==k with
 |some p=>
  have h1:p.1=k:=beq_iff_eq.1 (List.find?_some (p:=λp:Nat×Nat=>p.1==k) hk);have h2:=List.mem_of_find?_eq_some hk;rw[<-h1,rA hd (h.mem_iff.2 h2),rA hn h2]
 |none=>
  have h3:=List.find?_eq_none.1 hk;have n1:∀l:List (Nat×Nat),(∀p∈l,p∈e)->jW l k=none:=λl hl=>by
   unfold jW;rw[List.find?_eq_none.2 λp hp=>h3 p (hl p (List.mem_reverse.1 hp))];rfl
  rw[n1 d λp hp=>h.mem_iff.1 hp,n1 e λp hp=>hp]
def BB(s:BA)(l:List Sm):Except Ft (Pg×Vg×Ck):=match parse s with
 | .error f=>.error f
 | .ok pg=>match lz l with
  | .error f=>.error f
  | .ok v=>match MY pg (RB v) l with
   | .error f=>.error f
   | .ok c=>.ok (pg,v,c)
theorem qT{s:BA}{l:List Sm}{pg:Pg}{v:Vg}{c:Ck}:BB s l=.ok (pg,v,c)↔parse s=.ok pg/\lz l=.ok v/\MY pg (RB v) l=.ok c:=by
 unfold BB;constructor
 ·intro h;split at h
  ·cases h
  ·rename_i VN h1;split at h
   ·cases h
   ·rename_i v' h2;split at h
    ·cases h
    ·rename_i c' h3;cases h;exact⟨h1,h2,h3⟩
 ·rintro⟨h1,h2,h3⟩
  rw[h1];dsimp only;rw[h2];dsimp only;rw[h3]
theorem Ra{s:BA}{l:List Sm}{f:Ft}(h:parse s=.error f\/∃pg:Pg,parse s=.ok pg/\(lz l=.error f\/∃v d,lz l=.ok v/\d.Perm v.out/\d.Pairwise (λx y=>x.1<=y.1)/\MY pg (λn=>((jW d n).getD 0).toNat) l=.error f)):BB s l=.error f:=by
 unfold BB;rcases h with h|⟨pg,h1,h|⟨v,d,h2,h3,_,h4⟩⟩
 ·rw[h]
 ·rw[h1];dsimp only;rw[h]
 ·rw[h1];dsimp only;rw[h2];dsimp only;rw[yW h3 (pQ h2)]at h4
  rw[show MY pg (RB v) l=.error f from h4]
theorem Hu{s:BA}{l:List Sm}{f:Ft}(hl:∀pg,parse s=.ok pg->dm 0 l []=(pg.ns,pg.main))(h:BB s l=.error f):f.1≠0:=by
 unfold BB at h;split at h
 ·rename_i f' h1;cases h;exact ku h1
 ·rename_i pg h1;split at h
  ·rename_i f' h2;cases h;exact BD h2
  ·rename_i v h2;split at h
   ·rename_i f' h3;cases h;refine QA (tq:=RB v) ?_ h3;exact(Mg (lD h1) (tq:=RB v) (EZ (hl pg h1)).1 h2 λp hp=>by
     unfold RB;rw[rA (pQ h2) hp];rfl).1
   ·cases h
end Ty
section
open Ty (Tr)
theorem NR(w:World)(t:Tr)(p:Value)(hr:rep (Prt.hp w) t p)(aD:eu t)(hu:kM t)(hs:dX t)(hc:dK t<=1000000){R:EW}
  (hR:∀w',Below w.heap.size w w'->R (.returned (.string (bs (Ty.text t)))) w'):
  Calls prog 49 #[p] w R:=by
 have HR:=qh hR;have hlen:=GO t [];have jU:=zJ t [];have py:=Ip t [] aD;have oD:=Oq t [] aD hu Wf.nil;rw[List.length_nil,Nat.zero_add]at hlen
 have afw:Hq (∀R:EW,(∀uL w' n,Below w.heap.size w w'->r9 uL w' n (Ty.text t)->R (.returned (.tuple #[uL,.int .i64 (n:Nat)])) w')->Calls prog 94 #[.slice none 0 0,p] w R):=λR2 h2=>by
  refine IY w _ t (Nat.lt_succ_self _) aD p hr w w (λ_=>True) (.slice none 0 0) [] ((((Sat.iN w).jR (P:=sA (.slice none 0 0) []) (λ_=>GR _)).jR (P:=λ_=>True) (λ_=>trivial)).pick [2,0,1]) (by simp;omega) R2 (λuL w' h3=>?_);obtain⟨rows,ow,xK⟩:=h3.F5 2 rfl;have ht:=nM w' uL rows _ ow oD (by omega) xK _ (Ty.put t []).2 (Nat.lt_succ_self _) (by omega) (by rw[py];exact hs) (by rw[py];exact hc);rw[py]at ht
  exact h2 uL w' _ (h3.pick [1]).aS ht
 obtain⟨pb,rfl,_⟩:=e_ hr;clear hR hr hlen jU py oD;go_in;go_wp2_with fail;refine afw.o _ (λuL w1 n cd ht=>?_);have HT:=qh ht;have Lt:=qh cd;clear cd ht;go_wp2_with fail;refine HT.o _ (bR _ _) _ (λw2 aW=>?_);have fG:=qh (Lt.o.trans (aW.mono Lt.o.size));clear aW;go_wp2_with fail;exact HR.o _ fG.o
end
section
open Ty (Tr Ck)
def lX(p:Nat×BA):List Value:=[.int .i64 p.1,.string p.2]
def Ld(v:Value)(l:List (Nat×BA)):As:=Prt.row 51 2 v l.length (l.flatMap lX)
theorem SP: (prog.info? 51).map (λi=>(i.zero,i.size,i.bytes))=some (some (.agg #[.int .i64 0,.string ⟨#[]⟩]),2,24):=by kernel_rfl
theorem Mt{v:Value}{l:List (Nat×BA)}{p:Nat×BA}{a:Prt.Hp}(h:Prt.row 51 2 v (l.length+1) (l.flatMap lX++lX p) a):Ld v (l++[p]) a:=by
 unfold Ld;rw[List.length_append,List.flatMap_append,List.flatMap_singleton];exact h
def yn(c:Ck)(l:List Nat):List (Nat×BA):=l.filterMap λn=>(c.of n).map λt=>(n,bs (Ty.text t))
theorem Qe(c:Ck)(l:List Nat): (yn c l).length<=l.length:=List.length_filterMap_le _ _
theorem LM(c:Ck)(j:Nat):yn c (List.range (j+1))=yn c (List.range j)++(match c.of j with
  |none=>[]
  |some t=>[(j,bs (Ty.text t))]):=by
 unfold yn;rw[List.range_succ,List.filterMap_append];cases h:c.of j<;>simp[h]
theorem B'{w0 w:World}{Fr:As}(H:Sat w0 w [Fr])(s:BA)(hw:Words w)(hm:s.size<=maxLen){l:List Ty.Sm}(hl:∀pg:Ty.Pg,Ty.parse s=.ok pg->dm 0 l []=(pg.ns,pg.main)){R:EW}
  (aD:∀(pg:Ty.Pg)(X:Cx) cb ca v nc c w',BB s l=.ok (pg,v,c)->X.kv=RB v->X.cav=.map (some ca)->X.main=(pg.main:Nat)->
   Sat w0 w' [Fr,C8 X.nv pg.ns,sA X.tv pg.ts,mapA 3 4 ca nc (dL v.ca),uK cb X 10000 c []]->R (.returned (.tuple #[.pointer (some ⟨cb,0,none⟩),bm (0,0)])) w')
  (au:∀f w',BB s l=.error f->Sat w0 w' [Fr]->R (.returned (.tuple #[.pointer none,bm f])) w'):
  Calls prog 48 #[.string s] w R:=by
 refine Gl H s hw hm hl (λpg X cb ca v d nc c w' h1 h2 h3 h4 h5 h6 h7 h8 h9=>?_) (λf w' h1 h2=>au f w' (Ra h1) h2);have e:X.kv=RB v:=by
  funext n;show((X.wi n).getD 0).toNat= _;rw[h5,yW h3 (pQ h2)];rfl
 exact aD pg X cb ca v nc c w' (qT.2 ⟨h1,h2,by rw[<-e];exact h6⟩) e h7 h8 h9
theorem me{w0 w:World}{Fr:As}(H:Sat w0 w [Fr])(s:BA)(hw:Words w)(hm:s.size<=maxLen){l:List Ty.Sm}(hl:∀pg:Ty.Pg,Ty.parse s=.ok pg->dm 0 l []=(pg.ns,pg.main)){R:EW}
  (aD:∀pg v c ov w',BB s l=.ok (pg,v,c)->Sat w0 w' [Fr,Ld ov (yn c (List.range pg.ns.length))]->R (.returned (.tuple #[ov,bm (0,0)])) w')
  (au:∀f w',BB s l=.error f->Sat w0 w' [Fr]->R (.returned (.tuple #[.slice none 0 0,bm f])) w'):
  Calls prog 22 #[.string s] w R:=by
 obtain⟨i0,ti,oB,oA,oy⟩:=info_parts SP;have H1:=qh (Sat.pack (L:=[]) (H.ar (.cells #[.int .i64 0,.int .i64 0] 25) w.heap.size));go_in;go_wp2_with fail;refine B' H1.o s (hw.below ((bR _ _).alloc (nR _) _)) hm hl (λpg X cb ca v nc c w1 hq Zr abm YR h2=>?_) (λf w1 hq h2=>?_)
 ·have h3:=(h2.unpack 0 rfl).pick [4,5,0,1,3];obtain⟨nr,G2,qo⟩:=h3.ng 2 rfl;obtain⟨na,ahi,en⟩:=ag qo.row;have lW:nr.length=pg.ns.length:=by rw[<-G2,List.length_map]
  have hN:=(lD (qT.1 hq).1).o7;have h4:=h3.at 4 rfl;obtain⟨ofb,hasb,bkv,no,nh,fo,fh,bl,h0,hI,h5⟩:=h4.nV;have h6:=h5.aU (.cells #[.int .i64 0,.int .i64 0] 25);have aaH:=h6.UG hI;obtain⟨D,agh,Ys⟩:=h6.iC 3 rfl;have c0:=aaH.c0;have Xz:=aaH.c5;rw[en,lW]at c0
  have h7:=h5.ar (.cells #[.int .i64 0,.int .i64 0] 25) w1.heap.size;have HZ:=qh ((h7.unpack 0 rfl).pick [7,8,6]);have HQ:=qh hq;have ab1:=qh hI.fo;have agS:=qh hI.oN.of;have abV:=qh (And.intro agh Ys);generalize adr:pg.ns.length=NN at*
  rw[show bm (0,0)=Value.agg #[.int .i64 0,.int .i64 0]from rfl];go_wp2_with fail;have H8:=(Sat.iN (w1.alloc (.cells #[.int .i64 0,.int .i64 0] 25))).nil 51 2;generalize w1.alloc (.cells #[.int .i64 0,.int .i64 0] 25)=W2 at*
  go_loopw [6,25] (λo i wr=>∃(j k:Nat)(oa:Option Addr)(oc:Nat),k=(yn c (List.range j)).length/\o=.slice oa k oc/\i=.int .i64 j/\j<=NN/\Hq (Sat W2 wr [bY W2,Ld (.slice oa k oc) (yn c (List.range j))])) (λ_ i _=>NN-(intOf i).toNat)
  case atStart=>exact⟨0,0,none,0,rfl,rfl,rfl,Nat.zero_le _,H8⟩
  case round=>
   obtain⟨j,k,oa,oc,hk,rfl,rfl,hj,hS⟩:=hrel;have hB:=(ju.iN W2) wr _ 0 hS.out rfl;have Z4:=Qe c (List.range j);rw[List.length_range]at Z4
   have c5:=av hB Xz;by_cases bz:j<NN
   ·have cm:=BG (gE abV.o.1 hB) abV.o.2 (m:=j) (by omega);have Se:=LM c j;cases UL:c.of j with
    |none=>
     rw[(ab1.o j).1 UL]at cm
     rw[UL]at Se
     have RW:Hq (k=(yn c (List.range (j+1))).length/\Sat W2 wr [bY W2,Ld (.slice oa k oc) (yn c (List.range (j+1)))]):=by
      show _/\_;rw[Se,List.append_nil];exact⟨hk,hS.out⟩
     dsimp only[Option.getD,Option.isSome]at cm;go_wp2;go_roundw
     case rel=>exact⟨j+1,k,oa,oc,RW.o.1,rfl,by go_num,by omega,RW.o.2⟩
     case measure=>simp[intOf];omega
    |some t=>
     obtain⟨p,hp,hr⟩:=(ab1.o j).2 t UL;rw[hp]at cm
     rw[UL]at Se
     obtain⟨bp,rfl⟩:=cK hr;have Wh:=agS.o j t UL;have adS:=qh (λ(R:EW)=>NR (R:=R) wr t (.pointer (some ⟨bp,0,none⟩)) (dp (aaH.below hB).le _ _ hr) Wh.1.ok Wh.1.xN Wh.1.short (nT Wh.2 (by omega)));dsimp only at Se;have HK:=qh hk;have agU:k<=100000:=by omega
     dsimp only[Option.getD,Option.isSome]at cm;clear hB UL hk Z4 Wh hr hp;generalize bs (Ty.text t)=tx at*
     go_wp2_with fail;refine adS.o _ (λw5 od=>?_);have h9:=hS.out.below od;have H9:=qh h9;clear h9 od hS;go_wp2_with(at_builtin;go_loud(refine wpList_append_lies _ rfl (.tmp 38) (.tmp 43) 47 rfl 0 51 i0 _ 2 24 underlying47 ti oB oA oy rfl (by decide) (.slice oa k oc) k ((yn c (List.range j)).flatMap lX) (by rfl) ((by have h:=H9.o;unfold Ld at h;rw[<-HK.o]at h;exact(h.row 1).alloc _)) ⟨w5.heap.size,0,none⟩ 1 1 [.int .i64 (j:Nat),.string tx] (by rfl) (by rfl) (World.news_of_block (cs:=#[.int .i64 (j:Nat),.string tx]) (t:=51) (fr:=(0,0)) (aC _ _ _ (by simp))) (by simp[Value.oneCell']) (by omega) (by unfold maxLen;omega) (by omega) (by simp) (w5.heap.size+1) (by simp) ?_));intro g8 qJ w8 qt kD E8 SX;have h8:Sat W2 w8 [bY W2,Prt.row 51 2 (.slice (some ⟨g8,0,none⟩) (k+1) qJ) (k+1) ((yn c (List.range j)).flatMap lX++lX (j,tx))]:=by
      have h:=H9.o;unfold Ld at h;rw[<-HK.o]at h
      exact Sat.grow (h.aU _) 1 rfl kD qt (by simpa using E8)
     rw[HK.o]at h8
     have h9:=h8.cQ (i:=1) rfl (Q:=Ld (.slice (some ⟨g8,0,none⟩) ((yn c (List.range j)).length+1) qJ) (yn c (List.range j)++[(j,tx)])) (λ_ h=>Mt h);rw[<-HK.o]at h9
     have HE:Hq (k+1=(yn c (List.range (j+1))).length/\Sat W2 w8 [bY W2,Ld (.slice (some ⟨g8,0,none⟩) (k+1) qJ) (yn c (List.range (j+1)))]):=by
      show _/\_;rw[Se];exact⟨by rw[List.length_append,HK.o];rfl,h9⟩
     clear h8 h9 qt kD E8 SX;go_wp2_with fail;go_roundw
     case rel=>exact⟨j+1,k+1,some ⟨g8,0,none⟩,qJ,HE.o.1,rfl,by go_num,by omega,HE.o.2⟩
     case measure=>simp[intOf];omega
   ·have oE:j=NN:=by omega
    subst oE;have h9:=HZ.o.join hS.out;have z0:=h9.cell 1 0;have z1:=h9.cell 1 1;have y0:=h9.cell 2 0;have y1:=h9.cell 2 1;have fz:=h9.free 1 rfl;have hz:=h9.lt 1;have H9:=qh h9;have HG:=qh (λw'(h:Sat w0 w' [Fr,Ld (.slice oa k oc) (yn c (List.range j))])=>aD pg v c (.slice oa k oc) w' HQ.o (by rw[adr];exact h));clear h9 hS hB hk Z4 c5 bz hj;go_wp2_with fail
    go_region
    all_goals
     go_wp2_with fail;refine bodyPost_ret ?_ rfl (HG.o _ ?_)
     ·simp[results,results22,go_sem,bm,z0,z1]
     ·exact((H9.o.store 1 rfl 0 _).store 1 rfl 1 _).drew.pick [0,3]
 ·have yg:=Hu hl hq;obtain⟨fe,fp⟩:=f;dsimp only at yg;have e2: ((fe:Int) !=0)=true:=by simp;omega
  have h4:=((h2.unpack 0 rfl).pick [0,1])
  have z0:=h4.cell 1 0;have z1:=h4.cell 1 1;have fz:=h4.free 1 rfl;have hz:=h4.lt 1;have H4:=qh h4;have HQ:=qh hq;clear h2 h4 hq H1 yg;dsimp only[bm];go_wp2_with fail
  go_region
  all_goals
   go_wp2_with fail;refine bodyPost_ret ?_ rfl (au (fe,fp) _ HQ.o ?_)
   ·simp[results,results22,go_sem,bm,hz,z0,z1]
   ·exact((((H4.o.store 1 rfl 0 _).store 1 rfl 1 _).aU _).drew.pick [0])
end
namespace Ty
def RM(ks:List Key)(m:Nat)(r:Except Ft Pg):Bool:=match r with
 | .ok p=>decide (p.ns.map key=ks)&&(p.main==m)
 | .error _=>false
theorem MI{s:BA}{l:List Sm}{ks:List Key}{m:Nat}(h:RM ks m (parse s)=true)(g: (dm 0 l []).1.map key=ks/\(dm 0 l []).2=m)(pg:Pg)(hp:parse s=.ok pg):dm 0 l []=(pg.ns,pg.main):=by
 unfold RM at h;rw[hp]at h
 simp only[Bool.and_eq_true,decide_eq_true_eq,beq_iff_eq]at h;exact Prod.ext (xC (g.1.trans h.1.symm)) (g.2.trans h.2.symm)
def Q_:BA:=⟨#[112,114,105,110,116,32,91,49,44,32,116,114,117,101,93,59]⟩
def GU:List Sm:=[.print 0 (.arr 6 [.num 7 1,.bool 10 1])]
def Re:BA:=⟨#[112,114,105,110,116,32,49,32,43,32,116,114,117,101,59]⟩
def Hs:List Sm:=[.print 0 (.two 6 ⟨#[43]⟩ (.num 6 1) (.bool 10 1))]
def R0:List Key:=[([1,0,0,1,7],[0,-1],[],[]),([3,0,0,1,10],[0,-1],[],[]),([11,0,0,0,6],[0,-1],[0,1],[]),([21,2,0,0,0],[0,-1],[],[]),([26,0,0,0,0],[0,-1],[3],[])]
def RD:List Key:=[([1,0,0,1,6],[0,-1],[],[]),([3,0,0,1,10],[0,-1],[],[]),([12,0,1,0,6],[0,-1],[],[43]),([21,2,0,0,0],[0,-1],[],[]),([26,0,0,0,0],[0,-1],[3],[])]
theorem QQ(pg:Pg)(hp:parse Q_=.ok pg):dm 0 GU []=(pg.ns,pg.main):=MI (ks:=R0) (m:=4) (by decide+kernel) (by simp[GU,R0,dm,dQ,cN,aF,gL,key,af]) pg hp
theorem QC(pg:Pg)(hp:parse Re=.ok pg):dm 0 Hs []=(pg.ns,pg.main):=MI (ks:=RD) (m:=4) (by decide+kernel) (by simp[Hs,RD,dm,dQ,cN,aF,key,af]) pg hp
theorem G5: (match BB Q_ GU with| .ok (pg,_,c)=>decide ((List.range pg.ns.length).filterMap (λn=>(c.of n).map λt=>(n,text t))=[(0,[110,117,109]),(1,[98,111,111,108]),(2,[91,110,117,109,32,124,32,98,111,111,108,93])])| .error _=>false)=true:=by decide+kernel
theorem Io: (match BB Re Hs with| .ok _=>false| .error f=>decide (f=(9,6)))=true:=by decide+kernel
end Ty
section
open Ty (Tr Ck Ls)
theorem Uk{w:World}{v:Value}{l:List (Nat×BA)}(h:w.ownsRow 0 51 2 v l.length (l.flatMap lX))(k:Nat)(hk:k<l.length):
  ∃g cap:Nat,v=.slice (some ⟨g,0,none⟩) l.length cap/\g<w.heap.size/\w.cell? ⟨g,k*2,none⟩=some (.int .i64 (l[k].1:Nat))/\w.cell? ⟨g,k*2+1,none⟩=some (.string l[k].2):=by
 obtain⟨g,cap,rfl,_,hg⟩:=h.form (by omega);have hc:=λj u hj=>World.ownsRow.cells h (g:=g) rfl j u hj
 have hf:=kU lX 2 (λ_=>rfl) l k hk;refine⟨g,cap,rfl,hg,?_,?_⟩
 ·have:=hc (k*2+0) _ (by rw[hf 0 (by omega)];rfl);rwa [Addr.add_lit,Nat.zero_add]at this
 ·have:=hc (k*2+1) _ (by rw[hf 1 (by omega)];rfl);rwa [Addr.add_lit,Nat.zero_add]at this
theorem ML(c:Ck)(l:List Nat):yn c l=(l.filterMap λn=>(c.of n).map λt=>(n,Ty.text t)).map λp=>(p.1,bs p.2):=by
 unfold yn;rw[List.map_filterMap];congr 1;funext n;cases c.of n<;>rfl
theorem O6{pg:Ty.Pg}{v:Ty.Vg}{c:Ck}(h:BB Q_ GU=.ok (pg,v,c)):yn c (List.range pg.ns.length)=[(0,⟨#[110,117,109]⟩),(1,⟨#[98,111,111,108]⟩),(2,⟨#[91,110,117,109,32,124,32,98,111,111,108,93]⟩)]:=by
 have e:=G5;rw[h]at e
 dsimp only at e;rw[ML,of_decide_eq_true e];rfl
theorem Nk{f:Ty.Ft}(h:BB Re Hs=.error f):f=(9,6):=by
 have e:=Io;rw[h]at e
 exact of_decide_eq_true e
theorem vI(w:World)(hw:Words w){R:EW}(hR:∀w',Below w.heap.size w w'->R (.returned (.bool true)) w'):
  Calls prog 24 #[] w R:=by
 have HR:=qh hR;clear hR;go_in;go_wp2_with fail;refine me (Sat.iN w) Q_ hw (by decide) QQ (λpg v c ov w1 hq h1=>?_) (λf w1 hq h1=>?_);rotate_left
 ·have e:=G5;rw[hq]at e;cases e
 rw[O6 hq]at h1
 obtain⟨oa,oc,rfl⟩:=ag (h1.row 1);have h2:=h1.ar (.cells #[.int .i64 0,.int .i64 0] 25) w1.heap.size;have H2:=qh h2;clear hq h1 h2;rw[show bm (0,0)=Value.agg #[.int .i64 0,.int .i64 0]from rfl];go_wp2_with fail;refine me (Sat.pack (L:=[]) H2.o) Re (hw.below H2.o.aS) (by decide) QC (λpg v c ov w2 hq h3=>?_) (λf w2 hq h3=>?_)
 ·have e:=Io;rw[hq]at e;cases e
 have hf:=Nk hq;subst hf;have h4:=(h3.unpack 0 rfl).ar (.cells #[.int .i64 9,.int .i64 6] 25) w2.heap.size;obtain⟨og,aeq,e,ag9,d0,d1⟩:=Uk (h4.row 1) 2 (by simp);cases e;have x0:=h4.cell 2 0;have y0:=h4.cell 3 0;have y1:=h4.cell 3 1;have H4:=qh h4;clear hq h3 h4;rw[show bm (9,6)=Value.agg #[.int .i64 9,.int .i64 6]from rfl];go_wp2_with fail;exact HR.o _ H4.o.aS
end
section
variable {wB:World} {nv tv:Value} {pg:Ty.Pg} {wb:Nat} {main:Int}
theorem Ms(hP:PB wB nv tv pg)(hW:Pow wB){p k:Nat}:sy 127 wB nv tv pg wb main (.num p k):=by
 intro n nd lv hd hn hl ind out w Fr hF H dU hlen R hR;rw[aG,hn]at hd
 cases hd;rw[wE]at hlen hR
 have hk:=(hP.ok.ns _ (List.mem_of_getElem? hn)).VB;dsimp only at hk;obtain⟨la,lc,rfl⟩:=ag hl;have h1:=ja H {Ty.af 1 p with n:=k} (.slice la 0 lc);have SI:=qh (hW.below (hF _ _ 0 H rfl));have Lt:=qh (((bR w.heap.size w).alloc (nR _) (.cells #[.pointer (some ⟨wb,0,none⟩)] 70)).alloc (by simp) (cj {Ty.af 1 p with n:=k} (.slice la 0 lc))).drew;obtain⟨c,d0,d1,d2,d3,d4,d5,d6,d7,d8⟩:=df h1;dsimp only[aH,Ty.af]at*
 go_enter func127,ntmps127;go_wp2;go_region_held3(λw'=>w'.cell? ⟨w.heap.size,0,none⟩=some (.pointer (some ⟨wb,0,none⟩))/\w'.cell? ⟨w.heap.size+1,6,none⟩=some (.int .i64 (k:Nat))) (go_keep)
  (first|(go_at_call 193;refine OC _ (SI.o.below Lt.o) k hk (λw2 aW=>?_);have h2:=h1.drew.below aW;have s0:=(df h2).c;have s1:=(df h2).d6;have H2:=qh h2;clear aW h2)|(go_at_call 67;refine dH H2.o _ (Lib.itoa k) rfl (by have:=hlen;omega) _ (by simp) (λw3 h3=>?_);have s0:=(df h3).c;have s1:=(df h3).d6;have H3:=qh h3;clear h3))
 all_goals
  go_wp2;go_end0;exact hR _ (gy H3.o)
theorem Ka(hP:PB wB nv tv pg){p k:Nat}:sy 127 wB nv tv pg wb main (.bool p k):=by
 intro n nd lv hd hn hl ind out w Fr hF H dU hlen R hR;rw[aG,hn]at hd
 cases hd;rw[wE]at hlen hR
 have hk:=(hP.ok.ns _ (List.mem_of_getElem? hn)).small (by simp[Ty.af]);dsimp only at hk;obtain⟨la,lc,rfl⟩:=ag hl;have h1:=ja H {Ty.af 3 p with n:=k} (.slice la 0 lc);obtain⟨c,d0,d1,d2,d3,d4,d5,d6,d7,d8⟩:=df h1;have H1:=qh h1;dsimp only[aH,Ty.af]at*
 have hk:k=0\/k=1:=by omega
 rcases hk with rfl|rfl
 ·have HR:=qh hR;have oJ:=qh (nT (Nat.le_add_right _ _) hlen);clear hR hlen;go_enter func127,ntmps127;go_wp2_with fail;go_region_held3(λw'=>w'.cell? ⟨w.heap.size,0,none⟩=some (.pointer (some ⟨wb,0,none⟩))/\w'.cell? ⟨w.heap.size+1,6,none⟩=some (.int .i64 (0:Nat))) (go_keep)
   (first|(go_at_call 194;refine o0 _ false ?_;have s0:=(df H1.o.drew).c;have s1:=(df H1.o.drew).d6;have H2:=qh H1.o.drew)|(go_at_call 67;refine dH H2.o _ (if false=true then [116,114,117,101]else [102,97,108,115,101]) rfl (by have:=oJ.o;simp;omega) _ (by simp) (λw3 h3=>?_);have s0:=(df h3).c;have s1:=(df h3).d6;have H3:=qh h3;clear h3))
  all_goals
   go_wp2_with fail;go_end0;exact HR.o _ (gy H3.o)
 ·have HR:=qh hR;have oJ:=qh (nT (Nat.le_add_right _ _) hlen);clear hR hlen;go_enter func127,ntmps127;go_wp2_with fail;go_region_held3(λw'=>w'.cell? ⟨w.heap.size,0,none⟩=some (.pointer (some ⟨wb,0,none⟩))/\w'.cell? ⟨w.heap.size+1,6,none⟩=some (.int .i64 (1:Nat))) (go_keep)
   (first|(go_at_call 194;refine o0 _ true ?_;have s0:=(df H1.o.drew).c;have s1:=(df H1.o.drew).d6;have H2:=qh H1.o.drew)|(go_at_call 67;refine dH H2.o _ (if true=true then [116,114,117,101]else [102,97,108,115,101]) rfl (by have:=oJ.o;simp;omega) _ (by simp) (λw3 h3=>?_);have s0:=(df h3).c;have s1:=(df h3).d6;have H3:=qh h3;clear h3))
  all_goals
   go_wp2_with fail;go_end0;exact HR.o _ (gy H3.o)
theorem NG{p:Nat}{l:List Ty.Ex}(hE:∀e∈l,qK wB nv tv pg wb main e):sy 127 wB nv tv pg wb main (.arr p l):=by
 intro n nd lv hd hn hl ind out w Fr hF H dU hlen R hR;rw[aG]at hd
 obtain⟨nl,h1,hd⟩:=hd;rw[hn]at h1
 cases h1;rw[Ty.aw]at dU
 rw[wE]at hlen hR
 have HL:=qh (λ(o:List UInt8)(w1:World) F'(fW:ju wB F')(h:Sat wB w1 [F',gu wb nv tv main ind o]) ho(R:EW)=>xo (R:=R) hE hd lv hl fW h (by omega) ho);obtain⟨la,lc,rfl⟩:=ag hl;generalize cr [44,32] (um pg.ts ind l)=pl at*
 simp only[lzA,lzC,lzN]at hlen;have HF:=qh (λbw nd lv=>kg (wb:=wb) hF bw nd lv);have h1:=ja H {Ty.af 11 p with list:=nl} (.slice la nl.length lc);obtain⟨c,d0,d1,d2,d3,d4,d5,d6,d7,d8⟩:=df h1;dsimp only[aH,Ty.af]at*
 go_enter func127,ntmps127;go_wp2_with fail;refine dH h1 _ [91] rfl (by have:=hlen;(try simp only[List.length_cons,List.length_nil]at this⊢);omega) _ (by simp) (λw2 h2=>?_);have q:=df h2;have q0:=q.c;have q4:=q.d4;go_wp2_with fail;refine HL.o _ _ _ (HF.o _ _ _) h2 (by have:=hlen;(try simp only[lzA,lzC,lzN]at this⊢);omega) _ (λw3 h3=>?_);have q:=(df h3).c;go_wp2_with fail;refine dH h3 _ [93] rfl (by have:=hlen;(try simp only[lzA,lzC,lzN]at this⊢);omega) _ (by simp) (λw4 h4=>?_);go_wp2;go_end0;refine hR _ ?_;rw[show out++([91]++pl++[93])=out++[91]++pl++[93]by simp];exact gy h4
theorem N8{p:Nat}{l:List (Nat×BA×Ty.Ex)}(hO:sy 198 wB nv tv pg wb main (.obj p l)):sy 127 wB nv tv pg wb main (.obj p l):=by
 intro n nd lv hd hn hl ind out w Fr hF H dU hlen R hR;have yl:=hd;rw[aG]at hd
 obtain⟨nl,h1,hd⟩:=hd;rw[hn]at h1
 cases h1;have HO:=qh (λw1 F' fW h=>hO n _ lv yl hn hl ind out w1 F' fW h dU hlen);obtain⟨la,lc,rfl⟩:=ag hl;have HF:=qh (λbw nd lv=>kg (wb:=wb) hF bw nd lv);have h1:=ja H {Ty.af 10 p with list:=nl} (.slice la nl.length lc);obtain⟨c,d0,d1,d2,d3,d4,d5,d6,d7,d8⟩:=df h1;dsimp only[aH,Ty.af]at*
 go_enter func127,ntmps127;go_wp2_with fail;refine HO.o _ _ (HF.o _ _ _) h1 _ (λw2 h2=>?_);go_wp2;go_end0;exact hR _ (gy h2)
theorem LI{p:Nat}{x:BA}{a b:Ty.Ex}(hO:sy 199 wB nv tv pg wb main (.two p x a b)):sy 127 wB nv tv pg wb main (.two p x a b):=by
 intro n nd lv hd hn hl ind out w Fr hF H dU hlen R hR;have yl:=hd;rw[aG]at hd
 obtain⟨na,nb,h1,ml,uE⟩:=hd;rw[hn]at h1
 cases h1;have HO:=qh (λw1 F' fW h=>hO n _ lv yl hn hl ind out w1 F' fW h dU hlen);obtain⟨la,lc,rfl⟩:=ag hl;have HF:=qh (λbw nd lv=>kg (wb:=wb) hF bw nd lv);have h1:=ja H {Ty.af 12 p with text:=x,a:=na,b:=nb} (.slice la 0 lc);obtain⟨c,d0,d1,d2,d3,d4,d5,d6,d7,d8⟩:=df h1;dsimp only[aH,Ty.af]at*
 go_enter func127,ntmps127;go_wp2_with fail;refine HO.o _ _ (HF.o _ _ _) h1 _ (λw2 h2=>?_);go_wp2;go_end0;exact hR _ (gy h2)
theorem LO{p:Nat}{x:BA}{a:Ty.Ex}(hO:sy 199 wB nv tv pg wb main (.one p x a)):sy 127 wB nv tv pg wb main (.one p x a):=by
 intro n nd lv hd hn hl ind out w Fr hF H dU hlen R hR;have yl:=hd;rw[aG]at hd
 obtain⟨na,h1,ml⟩:=hd;rw[hn]at h1
 cases h1;have HO:=qh (λw1 F' fW h=>hO n _ lv yl hn hl ind out w1 F' fW h dU hlen);obtain⟨la,lc,rfl⟩:=ag hl;have HF:=qh (λbw nd lv=>kg (wb:=wb) hF bw nd lv);have h1:=ja H {Ty.af 13 p with text:=x,a:=na} (.slice la 0 lc);obtain⟨c,d0,d1,d2,d3,d4,d5,d6,d7,d8⟩:=df h1;dsimp only[aH,Ty.af]at*
 go_enter func127,ntmps127;go_wp2_with fail;refine HO.o _ _ (HF.o _ _ _) h1 _ (λw2 h2=>?_);go_wp2;go_end0;exact hR _ (gy h2)
theorem JA{p:Nat}{a:Ty.Ex}{l:List Ty.Ex}(hO:sy 199 wB nv tv pg wb main (.call p a l)):sy 127 wB nv tv pg wb main (.call p a l):=by
 intro n nd lv hd hn hl ind out w Fr hF H dU hlen R hR;have yl:=hd;rw[aG]at hd
 obtain⟨na,nl,h1,ml,uE⟩:=hd;rw[hn]at h1
 cases h1;have HO:=qh (λw1 F' fW h=>hO n _ lv yl hn hl ind out w1 F' fW h dU hlen);obtain⟨la,lc,rfl⟩:=ag hl;have HF:=qh (λbw nd lv=>kg (wb:=wb) hF bw nd lv);have h1:=ja H {Ty.af 7 p with a:=na,list:=nl} (.slice la nl.length lc);obtain⟨c,d0,d1,d2,d3,d4,d5,d6,d7,d8⟩:=df h1;dsimp only[aH,Ty.af]at*
 go_enter func127,ntmps127;go_wp2_with fail;refine HO.o _ _ (HF.o _ _ _) h1 _ (λw2 h2=>?_);go_wp2;go_end0;exact hR _ (gy h2)
theorem NJ{p:Nat}{a:Ty.Ex}{x:BA}(hO:sy 199 wB nv tv pg wb main (.get p a x)):sy 127 wB nv tv pg wb main (.get p a x):=by
 intro n nd lv hd hn hl ind out w Fr hF H dU hlen R hR;have yl:=hd;rw[aG]at hd
 obtain⟨na,h1,ml⟩:=hd;rw[hn]at h1
 cases h1;have HO:=qh (λw1 F' fW h=>hO n _ lv yl hn hl ind out w1 F' fW h dU hlen);obtain⟨la,lc,rfl⟩:=ag hl;have HF:=qh (λbw nd lv=>kg (wb:=wb) hF bw nd lv);have h1:=ja H {Ty.af 8 p with a:=na,text:=x} (.slice la 0 lc);obtain⟨c,d0,d1,d2,d3,d4,d5,d6,d7,d8⟩:=df h1;dsimp only[aH,Ty.af]at*
 go_enter func127,ntmps127;go_wp2_with fail;refine HO.o _ _ (HF.o _ _ _) h1 _ (λw2 h2=>?_);go_wp2;go_end0;exact hR _ (gy h2)
theorem QW{p:Nat}{a b:Ty.Ex}(hO:sy 199 wB nv tv pg wb main (.atX p a b)):sy 127 wB nv tv pg wb main (.atX p a b):=by
 intro n nd lv hd hn hl ind out w Fr hF H dU hlen R hR;have yl:=hd;rw[aG]at hd
 obtain⟨na,nb,h1,ml,uE⟩:=hd;rw[hn]at h1
 cases h1;have HO:=qh (λw1 F' fW h=>hO n _ lv yl hn hl ind out w1 F' fW h dU hlen);obtain⟨la,lc,rfl⟩:=ag hl;have HF:=qh (λbw nd lv=>kg (wb:=wb) hF bw nd lv);have h1:=ja H {Ty.af 9 p with a:=na,b:=nb} (.slice la 0 lc);obtain⟨c,d0,d1,d2,d3,d4,d5,d6,d7,d8⟩:=df h1;dsimp only[aH,Ty.af]at*
 go_enter func127,ntmps127;go_wp2_with fail;refine HO.o _ _ (HF.o _ _ _) h1 _ (λw2 h2=>?_);go_wp2;go_end0;exact hR _ (gy h2)
theorem PC{p:Nat}{a:Ty.Ex}{ty:Int}(hO:sy 199 wB nv tv pg wb main (.asX p a ty)):sy 127 wB nv tv pg wb main (.asX p a ty):=by
 intro n nd lv hd hn hl ind out w Fr hF H dU hlen R hR;have yl:=hd;rw[aG]at hd
 obtain⟨na,h1,ml⟩:=hd;rw[hn]at h1
 cases h1;have HO:=qh (λw1 F' fW h=>hO n _ lv yl hn hl ind out w1 F' fW h dU hlen);obtain⟨la,lc,rfl⟩:=ag hl;have HF:=qh (λbw nd lv=>kg (wb:=wb) hF bw nd lv);have h1:=ja H {Ty.af 14 p with a:=na,ty:=ty} (.slice la 0 lc);obtain⟨c,d0,d1,d2,d3,d4,d5,d6,d7,d8⟩:=df h1;dsimp only[aH,Ty.af]at*
 go_enter func127,ntmps127;go_wp2_with fail;refine HO.o _ _ (HF.o _ _ _) h1 _ (λw2 h2=>?_);go_wp2;go_end0;exact hR _ (gy h2)
end
namespace Ty
theorem iy.len{ns:List Nd}:∀{l:List Par}{nl:List Nat},iy ns l nl->nl.length=l.length
 |[],_,h=>by rw[show _=[]from h];rfl
 |q::l,_,⟨n,t,e,_,h2⟩=>by subst e;simp[iy.len h2]
theorem iy.get{ns:List Nd}:∀{l:List Par}{nl:List Nat},iy ns l nl->∀k(h1:k<l.length)(h2:k<nl.length),ns[nl[k]]?=some {af 16 l[k].pos with text:=l[k].text,ty:=l[k].ty}
 |[],_,_,k,h1,_=>by simp at h1
 |q::l,_,⟨n,t,e,h3,h4⟩,k,h1,h2=>by
  subst e;cases k with
  |zero=>exact h3
  |succ k=>exact iy.get h4 k (by simpa using h1) (by simpa using h2)
end Ty
def UW(wB:World)(nv tv:Value)(pg:Ty.Pg)(wb:Nat)(main:Int)(l:List Ty.Sm):Prop:=
 ∀(bp n:Nat),fM pg.ns bp l n->∀(ind:Nat)(out:List UInt8)(w:World)(Fr:As),ju wB Fr->Sat wB w [Fr,gu wb nv tv main ind out]->ind+Ty.aI l+1<=1300->
  out.length+(Ty.wB pg.ts ind l).length<=900000000->∀R:EW,(∀w',Sat wB w' [Fr,gu wb nv tv main ind (out++Ty.wB pg.ts ind l)]->R (.returned (.tuple #[])) w')->
  Calls prog 128 #[.pointer (some ⟨wb,0,none⟩),.int .i64 (n:Nat)] w R
section
variable {wB w:World} {Fr:As} {wb:Nat} {nv tv:Value} {pg:Ty.Pg} {main:Int} {ind:Nat} {out:List UInt8}
theorem Ki(hP:PB wB nv tv pg){ps:Nat}{x:BA}{ty:Int}{n:Nat}(hn:pg.ns[n]?=some {Ty.af 16 ps with text:=x,ty:=ty})(hF:ju wB Fr){bw:Nat}(H:Sat wB w [aq [Fr,R9 bw wb],gu wb nv tv main ind out])
  (hlen:out.length+(sJ pg.ts ⟨ps,x,ty⟩).length<=900000000) {R:EW}
  (hR:∀w',Sat wB w' [aq [Fr,R9 bw wb],gu wb nv tv main ind (out++sJ pg.ts ⟨ps,x,ty⟩)]->R (.returned (.tuple #[])) w'):
  Calls prog 196 #[.int .i64 (n:Nat),.pointer (some ⟨bw,0,none⟩)] w R:=by
 have WT:=hF.aq (M:=[R9 bw wb]);have HC:=qh (λ(w1:World)(o:List UInt8)(h:Sat wB w1 [aq [Fr,R9 bw wb],gu wb nv tv main ind o])=>(h.bA.cell 2 0:w1.cell? ⟨bw,0,none⟩=some (.pointer (some ⟨wb,0,none⟩))));have c0:=HC.o _ _ H;have Ez:wh ty pg.ts:=(hP.ok.ns _ (List.mem_of_getElem? hn)).ty;have oG:=qh (λ(w1:World)(o:List UInt8)(h:Sat wB w1 [aq [Fr,R9 bw wb],gu wb nv tv main ind o])(R:EW)=>eh (R:=R) hP WT h hn);have HX:=qh (λ(w1:World)(o:List UInt8)(h:Sat wB w1 [aq [Fr,R9 bw wb],gu wb nv tv main ind o]) ho(R:EW)=>sV (R:=R) hP WT h Ez ho);unfold sJ at hR hlen;dsimp only at hR hlen;generalize nQ pg.ts ty=ct at*
 rw[List.length_append]at hlen
 have aha:=K4;have afL:=yI;go_in;go_wp2;go_region_held3(λw'=>w'.cell? ⟨bw,0,none⟩=some (.pointer (some ⟨wb,0,none⟩))) (go_keep)
  (first|(go_at_call 66;refine oG.o _ _ H.drew _ (λw1 lv hl cd=>?_);obtain⟨la,lc,rfl⟩:=ag hl;have h1:=H.drew.below cd;have s0:=HC.o _ _ h1;have H1:=qh h1;clear hl cd h1;dsimp only[aH])|(go_at_call 67;refine dH H1.o _ x.data.toList (lZ x).symm (by have:=hlen;omega) _ (by simp) (λw2 h2=>?_);have s0:=HC.o _ _ h2;have H2:=qh h2;clear h2))
 all_goals
  go_wp2;go_region_held3(λw'=>w'.cell? ⟨bw,0,none⟩=some (.pointer (some ⟨wb,0,none⟩))) (go_keep)
   (first|(go_at_call 66;refine oG.o _ _ H2.o.drew _ (λw3 lv hl cd=>?_);obtain⟨D',Iu,rfl⟩:=ag hl;have h1:=H2.o.drew.below cd;have s0:=HC.o _ _ h1;have H3:=qh h1;clear hl cd h1;dsimp only[aH])|(go_at_call 69;refine HX.o _ _ H3.o (by have:=hlen;rw[List.length_append];omega) _ (λw4 h4=>?_);have s0:=HC.o _ _ h4;have H4:=qh h4;clear h4))
  all_goals
   go_wp2;go_end0;refine hR _ ?_;rw[<-List.append_assoc];exact H4.o
theorem Rn(hP:PB wB nv tv pg){p bp:Nat}{ps:List Ty.Par}{ty:Int}{body:List Ty.Sm}(hB:UW wB nv tv pg wb main body):sy 127 wB nv tv pg wb main (.fn p ps ty bp body):=by
 intro n nd lv hd hn hl ind out w Fr hF H dU hlen R hR;rw[aG]at hd
 obtain⟨nl,nb,h1,abB,uE⟩:=hd;rw[hn]at h1
 cases h1;have Ez:wh ty pg.ts:=(hP.ok.ns _ (List.mem_of_getElem? hn)).ty;rw[Ty.aw]at dU
 have e:wE pg.ts ind (.fn p ps ty bp body)=[102,110,40]++cr [44,32] (ps.map (sJ pg.ts))++[41]++nQ pg.ts ty++[32]++Ty.wB pg.ts ind body:=by rw[wE];rfl
 rw[e]at hlen hR
 have pG:=abB.len;have HL:=qh (λ(o:List UInt8)(w1:World) F'(fW:ju wB F') bw(h:Sat wB w1 [aq [F',R9 bw wb],gu wb nv tv main ind o]) ho(R:EW)=>
  tg (R:=R) nl lv hl (by omega) (ps.map (sJ pg.ts)) (by simp;omega) (fW.aq (M:=[_])) h 196 (.pointer (some ⟨bw,0,none⟩)) Tryz.call196
   (λk hk qR o w1 hs ho R hR=>by
    have u_:k<ps.length:=by omega
    have e: (ps.map (sJ pg.ts))[k]=sJ pg.ts ⟨ps[k].pos,ps[k].text,ps[k].ty⟩:=by simp
    rw[e]at ho hR
    exact Ki hP (abB.get k u_ hk) fW hs ho hR) ho)
 have HT:=qh (λ(o:List UInt8)(w1:World) F'(fW:ju wB F')(h:Sat wB w1 [F',gu wb nv tv main ind o]) ho(R:EW)=>sV (R:=R) hP fW h Ez ho);have aak:=qh (λ(o:List UInt8)(w1:World) F'(fW:ju wB F') h ho=>hB bp nb uE ind o w1 F' fW h (by omega) ho);obtain⟨la,lc,rfl⟩:=ag hl;generalize cr [44,32] (ps.map (sJ pg.ts))=pl at*
 generalize nQ pg.ts ty=pc at*
 generalize Ty.wB pg.ts ind body=pb at*
 simp only[lzA,lzC,lzN]at hlen;have HF:=qh (λbw nd lv=>kg (wb:=wb) hF bw nd lv);have afW:=qh (hF.aq (M:=[ax (w.heap.size+1) (cj {Ty.af 6 p with list:=nl,ty:=ty,a:=nb} (.slice la nl.length lc))]));have h1:=ja H {Ty.af 6 p with list:=nl,ty:=ty,a:=nb} (.slice la nl.length lc);obtain⟨c,d0,d1,d2,d3,d4,d5,d6,d7,d8⟩:=df h1;clear H hF hn hl dU hB uE abB hP Ez e pG;dsimp only[aH,Ty.af]at*
 go_enter func127,ntmps127;go_wp2_with fail;refine dH h1 _ [102,110,40] rfl (by have:=hlen;simp only[List.length_cons,List.length_nil]at this⊢;omega) _ (by simp) (λw2 h2=>?_);have q:=df h2;have q0:=q.c;have q4:=q.d4;have H2:=qh h2;clear h2 q c d0 d1 d2 d3 d4 d5 d6 d7 d8;go_wp2_with fail;refine HL.o _ _ _ afW.o _ H2.o (by have:=hlen;simp only[lzA,lzC,lzN]at this⊢;omega) _ (λw3 h3=>?_);have q:=df h3;have q0:=q.c;have H3:=qh h3;clear h3 q q4;go_wp2_with fail;refine dH H3.o _ [41] rfl (by have:=hlen;simp only[lzA,lzC,lzN]at this⊢;omega) _ (by simp) (λw4 h4=>?_);have q:=df h4;have q0:=q.c;have q7:=q.d7;have H4:=qh h4;clear h4 q;go_wp2_with fail;refine HT.o _ _ _ (HF.o _ _ _) H4.o (by have:=hlen;simp only[lzA,lzC,lzN]at this⊢;omega) _ (λw5 h5=>?_);have q:=df h5;have q0:=q.c;have H5:=qh h5;clear h5 q q7;go_wp2_with fail;refine dH H5.o _ [32] rfl (by have:=hlen;simp only[lzA,lzC,lzN]at this⊢;omega) _ (by simp) (λw6 h6=>?_);have q:=df h6;have q0:=q.c;have q1:=q.d1;have H6:=qh h6;clear h6 q;go_wp2_with fail;refine aak.o _ _ _ (HF.o _ _ _) H6.o (by have:=hlen;simp only[lzA,lzC,lzN]at this⊢;omega) _ (λw7 h7=>?_);have H7:=qh h7;clear h7;go_wp2_with fail;go_end0;refine hR _ ?_;rw[show out++([102,110,40]++pl++[41]++pc++[32]++pb)=out++[102,110,40]++pl++[41]++pc++[32]++pb by simp];exact gy H7.o
end
namespace Ty
theorem eL.len{ns:List Nd}:∀{l:List Sm}{nl:List Nat},eL ns l nl->nl.length=l.length
 |[],_,h=>by rw[eL]at h;rw[h];rfl
 |e::l,_,h=>by rw[eL]at h;obtain⟨n,t,rfl,_,h2⟩:=h;simp[h2.len]
theorem eL.get{ns:List Nd}:∀{l:List Sm}{nl:List Nat},eL ns l nl->∀k(h1:k<l.length)(h2:k<nl.length),bK ns l[k] nl[k]
 |[],_,_,k,h1,_=>by simp at h1
 |e::l,_,h,k,h1,h2=>by
  rw[eL]at h
  obtain⟨n,t,rfl,h3,h4⟩:=h;cases k with
  |zero=>exact h3
  |succ k=>exact h4.get k (by simpa using h1) (by simpa using h2)
theorem p'(ts:List Ty)(ind:Nat):∀l:List Sm,ki ts ind l=(l.map (wS ts ind)).flatten
 |[]=>by rw[ki];rfl
 |e::l=>by rw[ki,p' ts ind l];rfl
theorem Ds(ts:List Ty)(ind:Nat)(l:List Sm)(k:Nat)(hk:k<l.length):ki ts ind (l.take (k+1))=ki ts ind (l.take k)++wS ts ind l[k]:=by
 rw[p',p',List.take_succ_eq_append_getElem hk,List.map_append,List.flatten_append];simp
theorem Dl(ts:List Ty)(ind:Nat)(l:List Sm)(k:Nat): (ki ts ind (l.take k)).length<=(ki ts ind l).length:=by
 have e:ki ts ind l=ki ts ind (l.take k)++ki ts ind (l.drop k):=by rw[p',p',p',<-List.flatten_append,<-List.map_append,List.take_append_drop]
 rw[e,List.length_append];omega
theorem z6:∀{l:List Sm}{e:Sm},e∈l->cE e<=aI l
 |[],_,h=>by simp at h
 |a::l,e,h=>by
  rw[aI];rcases List.mem_cons.1 h with rfl|h
  ·omega
  ·have:=z6 h;omega
theorem vU:∀l:List Sm,l.length<=aI l
 |[]=>by simp
 |e::l=>by
  have:=vU l;have h1:1<=cE e:=by
   cases e with
   |if_ p a bp b c=>cases c with
    |none=>simp[cE]
    |some c=>obtain⟨cp,c⟩:=c;simp[cE]
   | _=>simp[cE]
  rw[aI];simp;omega
end Ty
def J7(wB:World)(nv tv:Value)(pg:Ty.Pg)(wb:Nat)(main:Int)(s:Ty.Sm):Prop:=
 ∀(n:Nat),bK pg.ns s n->∀(ind:Nat)(out:List UInt8)(w:World)(Fr:As),ju wB Fr->Sat wB w [Fr,gu wb nv tv main ind out]->ind+Ty.cE s<=1300->
  out.length+(wS pg.ts ind s).length<=900000000->∀R:EW,(∀w',Sat wB w' [Fr,gu wb nv tv main ind (out++wS pg.ts ind s)]->R (.returned (.tuple #[])) w')->
  Calls prog 36 #[.pointer (some ⟨wb,0,none⟩),.int .i64 (n:Nat)] w R
section
variable {wB w:World} {Fr:As} {wb:Nat} {nv tv:Value} {pg:Ty.Pg} {main:Int} {ind:Nat} {out:List UInt8}
theorem IZ(a b c d e f g h i:Value)(w:World): (Instr.field 66 (.agg #[a,b,c,d,e,f,g,h,i]) 4).run prog w=.ok e w:=by kernel_rfl
theorem ic(H:Sat wB w [Fr,gu wb nv tv main ind out]):w.cell? ⟨wb,5,none⟩=some (.int .i64 (ind:Nat))/\(∀o,w.frozen? ⟨wb,o,none⟩=false)/\wb<w.heap.size:=by
 obtain⟨p,v,h⟩:=H.oP;exact⟨h.cell 2 5,h.free 2 rfl,h.lt 2⟩
theorem DG(H:Sat wB w [Fr,gu wb nv tv main ind out])(j:Nat):Sat wB (w.setCell ⟨wb,5,none⟩ (.int .i64 (j:Nat))) [Fr,gu wb nv tv main j out]:=by
 obtain⟨p,v,h⟩:=H.oP;exact Sat.Fs (q:=(p,v)) (h.store 2 rfl 5 (.int .i64 (j:Nat)))
theorem kX(hP:PB wB nv tv pg){l:List Ty.Sm}(hS:∀e∈l,J7 wB nv tv pg wb main e):UW wB nv tv pg wb main l:=by
 intro bp n hd ind out w Fr hF H dU hlen R hR;rw[fM]at hd
 obtain⟨nl,hn,hd⟩:=hd;have pG:=hd.len;have Eh:=vU l;have oG:=qh (λ(w1:World)(i:Nat)(o:List UInt8)(h:Sat wB w1 [Fr,gu wb nv tv main i o])(R:EW)=>eh (R:=R) hP hF h hn);unfold Ty.wB at hlen hR;have F9:=qh (λ(k:Nat)(hk:k<l.length)(qR:k<nl.length)(o:List UInt8)(w1:World)(h:Sat wB w1 [Fr,gu wb nv tv main (ind+1) o])(ho:o.length+(wS pg.ts (ind+1) l[k]).length<=900000000)=>hS l[k] (gM hk) nl[k] (hd.get k hk qR) (ind+1) o w1 Fr hF h (by have:=z6 (gM hk);omega) ho);have HF:=qh hF;have Iv:=qh pG;have HS:=qh H;have Pl:ind<=1300:=by omega
 simp only[lzA,lzC,lzN]at hlen;have oJ:=qh hlen;have lW:nl.length<=1300:=by omega
 have ag1:=IZ;clear hlen H hF hS hd hn hP pG Eh dU;go_enter func128,ntmps128;go_wp2_with fail;refine dH HS.o _ [123,10] rfl (by have:=oJ.o;simp only[List.length_cons,List.length_nil]at this⊢;omega) _ (by simp) (λw1 h1=>?_);obtain⟨q5,qf,ql⟩:=ic h1;have h2:=DG h1 (ind+1);rw[show((ind+1:Nat):Int)=(ind:Int)+1 by omega]at h2
 have H2:=qh h2;clear h1 h2;go_wp2_with fail;refine oG.o _ _ _ H2.o _ (λw2 lv hl aW=>?_);obtain⟨la,lc,rfl⟩:=ag hl;have HL:=qh hl;have h3:=H2.o.below aW;have H3:=qh h3;clear aW h3 hl q5 qf ql;dsimp only[aH];go_wp2_with fail;go_loopw [21] (λi wr=>∃k:Nat,k<=nl.length/\i=.int .i64 k/\Hq (Sat wB wr [Fr,gu wb nv tv main (ind+1) (out++[123,10]++ki pg.ts (ind+1) (l.take k))])) (λi _=>nl.length-(intOf i).toNat)
 case atStart=>exact⟨0,by omega,rfl,by rw[List.take_zero,ki,List.append_nil];exact H3.o⟩
 case round=>
  obtain⟨k,hk,rfl,Si⟩:=hrel;by_cases bz:k<nl.length
  ·have hb:=HF.o wr _ 0 Si.out rfl;obtain⟨g,ni,e,hg,d0⟩:=ints_at (ay HL.o hb) k bz;cases e;have u_:k<l.length:=by have:=Iv.o;omega
   have fY:=Ds pg.ts (ind+1) l k u_;have Mh:=Dl pg.ts (ind+1) l (k+1);have HD:=qh (F9.o k u_ bz);rw[fY,List.length_append]at Mh
   have KQ:=qh Mh;have T9:=qh fY;generalize l[k]=s at*
   generalize nl[k]=m at*
   clear fY Mh hb u_;go_wp2_with fail;refine HD.o _ _ Si.out (by have:=oJ.o;have:=KQ.o;simp only[lzA,lzC,lzN];omega) _ (λw4 h4=>?_);have h5:Sat wB w4 [Fr,gu wb nv tv main (ind+1) (out++[123,10]++ki pg.ts (ind+1) (l.take (k+1)))]:=by rw[T9.o,<-List.append_assoc];exact h4
   have H5:=qh h5;clear h4 h5;go_wp2_with fail;go_roundw
   case rel=>exact⟨k+1,by omega,by go_num,H5.o⟩
   case measure=>simp[intOf];omega
  ·have e:k=nl.length:=by omega
   subst e;have h1:=Si.out;rw[Iv.o,List.take_length]at h1
   obtain⟨q5,qf,ql⟩:=ic h1;rw[show((ind+1:Nat):Int)=(ind:Int)+1 by omega]at q5
   have h2:=DG h1 ind;have ahL:=(ic h2).1;have H2:=qh h2;clear h1 h2;go_wp2_with fail;refine eV _ ind (by omega) (λw6 Ev=>?_);have H6:=qh (H2.o.below Ev);clear Ev;go_wp2_with fail;refine FG H6.o _ _ (Ty.aM ind) [125] rfl rfl (by have:=oJ.o;simp only[lzA,lzC,lzN];omega) _ (by simp) (λw7 h7=>?_);have H7:=qh h7;clear h7;go_wp2_with fail;go_end0;refine hR _ ?_;rw[show out++([123,10]++ki pg.ts (ind+1) l++Ty.aM ind++[125])=out++[123,10]++ki pg.ts (ind+1) l++(Ty.aM ind++[125])by simp];exact H7.o
end
end Go.Proofs.YtdlbhiaceheffabGreatDoor
