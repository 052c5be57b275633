/- Walk of the law CheckSteady. -/
import Derived.BigQuiet
import Derived.Test.YtdlbhiaceheffabGreatDoorC45
set_option linter.all false
set_option maxRecDepth 100000
set_option maxHeartbeats 8000000
namespace Go.Proofs.YtdlbhiaceheffabGreatDoor
open Go Go.RowKit Ty Tok Prt Tryz Proofs.Tryz
theorem RC(s:BA):∃l:List Ty.Sm,∀pg:Ty.Pg,Ty.parse s=.ok pg->dm 0 l []=(pg.ns,pg.main):=by
 cases hp:Ty.parse s with
 |error f=>exact⟨[],λpg h=>by cases h⟩
 |ok pg=>
  obtain⟨l,hl,_⟩:=Kk hp;exact⟨l,λjC h=>by cases h;exact hl⟩
abbrev fO(a b:Int):Obj:=.cells #[.int .i64 a,.int .i64 b] 25 (0,0)
theorem td(s:BA)(w:World)(hw:Words w)(Pz:Pow w)(hm:s.size<=maxLen){R:EW}(hR:∀w',Below w.heap.size w w'->R (.returned (.bool true)) w'):
  Calls prog 11 #[.string s] w R:=by
 obtain⟨l,hl⟩:=RC s;have HR:=qh hR;have HW:=qh hw;have SI:=qh Pz;have HM:=qh hm;have HL:=qh hl;clear hR hw Pz hm hl;go_in;go_wp2_with fail;refine vI w HW.o (λw1 cd=>?_);have Lt:=qh cd;clear cd;go_wp2_with fail;refine xR _ (HW.o.below Lt.o) (SI.o.below Lt.o) (λw2 aW=>?_);have H2:=qh (((Sat.iN w).below Lt.o).below aW);clear aW Lt;go_wp2_with fail;refine me H2.o s (HW.o.below H2.o.aS) HM.o HL.o (λpg v c ov w3 hq h3=>?_) (λf w3 hq h3=>?_)
 ·obtain⟨oa,oc,rfl⟩:=ag (h3.row 1);have h4:=h3.ar (fO 0 0) w3.heap.size;have H4:=qh h4;have HQ:=qh hq;clear h3 h4 hq;rw[show bm (0,0)=Value.agg #[.int .i64 0,.int .i64 0]from rfl];go_wp2_with fail;refine tG (ju.aq (ju.iN w)) (Sat.pack (L:=[]) H4.o) s HW.o SI.o HM.o l HL.o (λVN w5 hp hlen h5=>?_) (λVN w5 hp hlen h5=>?_) (λf w5 hp h5=>?_);rotate_left
  ·have h6:=(h5.unpack 0 rfl).ar (fO 2 0) w5.heap.size;have x0:=h6.cell 2 0;have y0:=h6.cell 3 0;have HB:=qh h6.aS;clear h5 h6 hp hlen;rw[show bm (2,0)=Value.agg #[.int .i64 2,.int .i64 0]from rfl];go_wp2_with fail;exact HR.o _ HB.o
  ·rw[(qT.1 HQ.o).1]at hp;cases hp
  have e:=(qT.1 HQ.o).1;rw[hp]at e
  cases e;obtain⟨jC,vJ,t1,t2,t3⟩:=JG hp (HL.o pg hp) hlen;obtain⟨l2,gR⟩:=RC (bs (ki pg.ts 0 l));have acL:=Oo HQ.o vJ t1 t2 t3 (HL.o pg hp) (gR jC vJ);have lW:jC.ns.length=pg.ns.length:=by have:=congrArg List.length t3;simpa using this
  have Cs:Hq ((bs (ki pg.ts 0 l)).size<=maxLen):=by show _<=_;rw[uY];unfold maxLen;omega
  have UR:=qh gR;have abQ:Hq (BB (bs (ki pg.ts 0 l)) l2=.ok (jC,v,c)):=acL;have Vh:=qh lW;generalize bs (ki pg.ts 0 l)=tx at*
  have h6:=(h5.unpack 0 rfl).ar (fO 0 0) w5.heap.size;have x0:=h6.cell 2 0;have y0:=h6.cell 3 0;have H6:=qh h6;clear h5 h6 hp vJ t1 t2 t3 acL lW gR hlen;rw[show bm (0,0)=Value.agg #[.int .i64 0,.int .i64 0]from rfl];go_wp2_with fail;refine me (Sat.pack (L:=[]) H6.o) tx (HW.o.below H6.o.aS) Cs.o UR.o (λag4 v3 c3 mv w7 XY h7=>?_) (λf w7 XY h7=>?_);rotate_left
  ·rw[abQ.o]at XY;cases XY
  rw[abQ.o]at XY
  cases XY;rw[Vh.o]at h7
  generalize hg:yn c (List.range pg.ns.length)=q at*
  have Py:q.length<=100000:=by
   rw[<-hg];have:=lD (qT.1 HQ.o).1;have h2:=this.o7;unfold yn;have h3:=List.length_filterMap_le (λn=>(c.of n).map λt=>(n,bs (Ty.text t))) (List.range pg.ns.length);rw[List.length_range]at h3
   omega
  obtain⟨ma,mc,rfl⟩:=ag (h7.row 1);have h8:=(h7.unpack 0 rfl).pick [1,2,0,3,4];have x0:=h8.cell 3 0;have y0:=h8.cell 4 0;have y1:=h8.cell 4 1;have afT:=h8.free 4 rfl 0;have afX:=h8.free 4 rfl 1;have H8:=qh (((h8.store 4 rfl 0 (.int .i64 0)).store 4 rfl 1 (.int .i64 0)).pick [0,1,2]);clear h7 h8 hg abQ HQ H6 H4 Vh;rw[show bm (0,0)=Value.agg #[.int .i64 0,.int .i64 0]from rfl];go_wp2_with fail;generalize((w7.setCell ⟨w5.heap.size,0,none⟩ (.int .i64 0)).setCell ⟨w5.heap.size,1,none⟩ (.int .i64 0))=w8 at*
  go_loopw [8] (λi wr=>∃(k:Nat),i=.int .i64 k/\k<=q.length/\Hq (Sat w wr [bY w,Ld (.slice oa q.length oc) q,Ld (.slice ma q.length mc) q])) (λi _=>q.length-(intOf i).toNat)
  case atStart=>exact⟨0,rfl,Nat.zero_le _,H8.o⟩
  case round=>
   obtain⟨k,rfl,hk,hS⟩:=hrel;clear x0 y0 y1 afT afX H8;by_cases bz:k<q.length
   ·obtain⟨g1,aay,e,UO,d0,d1⟩:=Uk (hS.out.row 1) k bz;cases e;obtain⟨g2,ni,e,Kq,b0,b1⟩:=Uk (hS.out.row 2) k bz;cases e;have YG:=qh hS.out;clear hS;generalize q[k]=p at*
    go_wp2_with fail
    go_quiet (fail)
    go_wp2_with fail;go_roundw
    case rel=>exact⟨k+1,by go_num,by omega,YG.o.below (Go.below_drewN (bR _ _) _)⟩
    case measure=>simp[intOf];omega
   ·have pw:k=q.length:=by omega
    have HB:=qh hS.out.aS;clear hS;go_wp2_with fail;exact HR.o _ HB.o
 ·have yg:=Hu HL.o hq;obtain⟨fe,fp⟩:=f;have e2: ((fe:Int) !=0)=true:=by simp at yg⊢;omega
  have H4:=qh (h3.ar (fO fe fp) w3.heap.size);clear h3 hq yg;rw[show bm (fe,fp)=Value.agg #[.int .i64 (fe:Nat),.int .i64 (fp:Nat)]from rfl];go_wp2_with fail;refine tG (ju.aq (ju.iN w)) (Sat.pack (L:=[]) H4.o) s HW.o SI.o HM.o l HL.o (λVN w5 hp hlen h5=>?_) (λVN w5 hp hlen h5=>?_) (λf w5 hp h5=>?_);rotate_right
  ·obtain⟨ge,gp⟩:=f;have h6:=(h5.unpack 0 rfl).ar (fO ge gp) w5.heap.size;have x0:=h6.cell 1 0;have y0:=h6.cell 2 0;have HB:=qh h6.aS;clear h5 h6 hp;rw[show bm (ge,gp)=Value.agg #[.int .i64 (ge:Nat),.int .i64 (gp:Nat)]from rfl];go_wp2_with fail;exact HR.o _ HB.o
  ·have h6:=(h5.unpack 0 rfl).ar (fO 0 0) w5.heap.size;have x0:=h6.cell 1 0;have y0:=h6.cell 2 0;have HB:=qh h6.aS;clear h5 h6 hp;generalize bs (ki VN.ts 0 l)=tx at*
   rw[show bm (0,0)=Value.agg #[.int .i64 0,.int .i64 0]from rfl];go_wp2_with fail;exact HR.o _ HB.o
  ·have h6:=(h5.unpack 0 rfl).ar (fO 2 0) w5.heap.size;have x0:=h6.cell 1 0;have y0:=h6.cell 2 0;have HB:=qh h6.aS;clear h5 h6 hp;rw[show bm (2,0)=Value.agg #[.int .i64 2,.int .i64 0]from rfl];go_wp2_with fail;exact HR.o _ HB.o
end Go.Proofs.YtdlbhiaceheffabGreatDoor
