/- The law. -/
import Derived.BigQuiet
import Derived.Test.YtdlbhiaceheffabGreatDoorE47
set_option linter.all false
set_option maxRecDepth 100000
set_option maxHeartbeats 8000000
namespace Go.Proofs.YtdlbhiaceheffabGreatDoor
open Go Go.RowKit Ty Tok Prt Tryz Proofs.Tryz
section
open Ty (il)
theorem Sc(s:BA):∃l:List Ty.Sm,∀pg:Ty.Pg,Ty.parse s=.ok pg->eu 0 l []=(pg.ns,pg.main):=by
 cases hp:Ty.parse s with
 |error f=>exact⟨[],λpg h=>by cases h⟩
 |ok pg=>
  obtain⟨l,hl,_⟩:=F_ hp;exact⟨l,λVs h=>by cases h;exact hl⟩
theorem RC{s:BA}{l:List Ty.Sm}(hl:∀pg:Ty.Pg,Ty.parse s=.ok pg->eu 0 l []=(pg.ns,pg.main)){pg:Ty.Pg}{v:Ty.Vg}{c:Ty.Ck}(h:xi s l=.ok (pg,v,c)){gs:il}(hp:gs.Perm (gC pg (qN v) c (pg.main+1) pg.main []))(hs:gs.Pairwise λx y=>x.1<=y.1):
  gs.length<=100000/\∀qJ:il,qJ.Perm (gC pg (qN v) c (pg.main+1) pg.main [])->(qJ.Pairwise λx y=>x.1<=y.1)->qJ=gs:=by
 obtain⟨qK,_,QD⟩:=yu.1 h;obtain⟨_,⟨lo,wq⟩,_⟩:=yG (hl pg qK) QD;have hG:=ym (pg:=pg) (tq:=qN v) (s:=c) (pg.main+1) pg.main lo [] wq (by omega);have hlen:=hG.1.len;have N2:=(lN qK).ju;obtain⟨_,AL,BM,_⟩:=o8 (hl pg qK);have B4:=cX AL;have hn:gs.Pairwise λx y=>x.1≠y.1:=List.pairwise_map.1 (((hp.map Prod.fst).nodup_iff).2 hG.1.2)
 refine⟨by rw[hp.length_eq];omega,λqJ h2 Ol=>rl (h2.trans hp.symm) Ol (List.pairwise_iff_getElem.2 λi j hi hj Hh=>?_)⟩;have h1:=List.pairwise_iff_getElem.1 hs i j hi hj Hh;have h2:=List.pairwise_iff_getElem.1 hn i j hi hj Hh;omega
theorem K0{x y:Nat×Nat}{m l:il}(h: (x::m).Sublist (y::l))(bT:y≠x): (x::m).Sublist l:=by
 cases h with
 |cons _ h=>exact h
 |cons_cons _ _=>exact absurd rfl bT
theorem sI(s:BA)(w:World)(hw:Words w)(hm:s.size<=maxLen){R:EW}(hR:∀w',Below w.heap.size w w'->R (.returned (.bool true)) w'):
  Calls prog 10 #[.string s] w R:=by
 obtain⟨l,hl⟩:=Sc s;have HR:=qh hR;have HW:=qh hw;have HM:=qh hm;have HL:=qh hl;clear hR hw hm hl;go_in;go_wp2_with fail;refine tV w HW.o (λw1 cQ=>?_);have h2:=(Sat.fO w).below cQ;have H2:=qh h2;clear cQ h2;go_wp2_with fail;refine qB H2.o s (HW.o.below H2.o.bD) HM.o HL.o (λpg v c ov gs w3 hq hp hs h3=>?_) (λf w3 hq h3=>?_)
 ·obtain⟨ku,Ig⟩:=RC HL.o hq hp hs;obtain⟨oa,oc,rfl⟩:=ag (h3.row 1 rfl);have h4:=h3.aj xm w3.heap.size;have H4:=qh h4;have HQ:=qh hq;have HU:=qh Ig;clear h3 h4 hq hp hs Ig;rw[show bO (0,0)=Value.agg #[.int .i64 0,.int .i64 0]from rfl];go_wp2_with fail;refine mw (Sat.pack (L:=[]) H4.o) s (HW.o.below H4.o.bD) HM.o HL.o (λVs v2 c2 cv qJ lv w5 sX _ pe Ol h5=>?_) (λf w5 sX h5=>?_);rotate_left
  ·rw[HQ.o]at sX;cases sX
  obtain⟨rfl,rfl,rfl⟩:pg=Vs/\v=v2/\c=c2:=by rw[HQ.o]at sX;cases sX;exact⟨rfl,rfl,rfl⟩
  have e2:=HU.o qJ pe Ol;subst e2;have D0: (sy pg (qN v) cv qJ).Sublist qJ:=List.filter_sublist;generalize sy pg (qN v) cv qJ=m at*
  have B4:=D0.length_le;obtain⟨ta,tc,rfl⟩:=ag (h5.row 1 rfl);have h6:=((h5.unpack (i:=0) rfl).pick [1,2,0,3]).aj xm w5.heap.size;have h7:Sat w _ [bG w,oJ (.slice oa qJ.length oc) qJ,oJ (.slice ta m.length tc) m,av w3.heap.size xm,av w5.heap.size xm]:=h6;have x0:=h7.cell 3 rfl 0 rfl;have x1:=h7.cell 3 rfl 1 rfl;have y0:=h7.cell 4 rfl 0 rfl;have y1:=h7.cell 4 rfl 1 rfl;have hx:=h7.lt 3 rfl;have H7:=qh (h7.pick [0,1,2]);have Oq:=qh D0;clear h5 h6 h7 sX HQ H4 pe Ol HU D0;rw[show bO (0,0)=Value.agg #[.int .i64 0,.int .i64 0]from rfl];go_wp2_with fail;generalize w5.alloc xm=w6 at*
  generalize w5.heap.size=n5 at*
  go_loopw [7,8] (λk i wr=>∃(a b:Nat),k=.int .i64 a/\i=.int .i64 b/\a<=qJ.length/\b<=m.length/\Hq ((m.drop b).Sublist (qJ.drop a)/\Sat w wr [bG w,oJ (.slice oa qJ.length oc) qJ,oJ (.slice ta m.length tc) m])) (λ_ i _=>m.length-(intOf i).toNat)
  case atStart=>exact⟨0,0,rfl,rfl,Nat.zero_le _,Nat.zero_le _,Oq.o,H7.o⟩
  case round=>
   obtain⟨a,b,rfl,rfl,ha,hb,hS⟩:=hrel;clear x0 x1 y0 y1 hx H7 Oq;by_cases BR:b<m.length
   ·go_wp2;go_loopw [7] (λk wr=>∃(a:Nat),k=.int .i64 a/\a<=qJ.length/\Hq ((m.drop b).Sublist (qJ.drop a)/\Sat w wr [bG w,oJ (.slice oa qJ.length oc) qJ,oJ (.slice ta m.length tc) m])) (λk _=>qJ.length-(intOf k).toNat)
    case atStart=>exact⟨a,rfl,ha,hS.out⟩
    case round=>
     clear hS ha;obtain⟨c,rfl,ha,hS⟩:=hrel;have Iu:c<qJ.length:=by
      have:=hS.out.1.length_le;simp only[List.length_drop]at this;omega
     obtain⟨g1,Xy,e,R7,d0,d1⟩:=M7 (hS.out.2.row 1 rfl) c Iu;cases e;obtain⟨g2,sY,e,Dj,b0,b1⟩:=M7 (hS.out.2.row 2 rfl) b BR;cases e;have Wz:=λ(h:qJ[c]≠m[b])=>K0 (x:=m[b]) (y:=qJ[c]) (by have:=hS.out.1;rwa [List.drop_eq_getElem_cons Iu,List.drop_eq_getElem_cons BR]at this) h
     rw[<-List.drop_eq_getElem_cons BR]at Wz
     have lR: (m.drop (b+1)).Sublist (qJ.drop c):=by
      have:=hS.out.1;rw[List.drop_eq_getElem_cons BR]at this
      exact List.sublist_of_cons_sublist this
     have k1:decide ((c:Int)<(qJ.length:Int))=true:=decide_eq_true (by omega);have k2: ((c:Int)==(qJ.length:Int))=false:=beq_eq_false_iff_ne.2 (by omega);have Zz:=qh hS.out.2;have abr:=qh Wz;have Pu:=qh lR;clear hS Wz lR;generalize qJ[c]=p at*
     generalize m[b]=q at*
     obtain⟨p1,p2⟩:=p;obtain⟨q1,q2⟩:=q;dsimp only at d0 d1 b0 b1;by_cases bT: (p1,p2)=(q1,q2)
     ·cases bT;go_wp2
      go_quiet (fail)
      go_wp2;go_roundw
      case rel=>exact⟨c,b+1,rfl,by go_num,ha,by omega,Pu.o,Zz.o.below (Go.below_drewN (bR _ _) _)⟩
      case measure=>simp[intOf];omega
     ·have HN:=qh (abr.o bT);have Qj: (((p1:Nat):Int)==((q1:Nat):Int)&&((p2:Nat):Int)==((q2:Nat):Int))=false:=by
       by_cases h1:p1=q1
       ·have h2:p2≠q2:=λh2=>bT (by rw[h1,h2])
        rw[Bool.and_eq_false_iff];right;exact beq_eq_false_iff_ne.2 (by omega)
       ·rw[Bool.and_eq_false_iff];left;exact beq_eq_false_iff_ne.2 (by omega)
      clear bT;cases h1: ((p1:Nat):Int)==((q1:Nat):Int)<;>cases h2: ((p2:Nat):Int)==((q2:Nat):Int)
      rotate_right
      ·rw[h1,h2]at Qj;cases Qj
      all_goals
       clear Qj;go_wp2
       go_quiet (fail)
       go_wp2;go_roundw
       case rel=>exact⟨c+1,by go_num,by omega,HN.o,Zz.o.below (Go.below_drewN (bR _ _) _)⟩
       case measure=>simp[intOf];omega
   ·have Rc:b=m.length:=by omega
    have HB:=qh hS.out.2.bD;clear hS;go_wp2;exact HR.o _ HB.o
 ·obtain⟨fe,fp⟩:=f;have h4:=h3.aj (.cells #[.int .i64 (fe:Nat),.int .i64 (fp:Nat)] 25) w3.heap.size;have H4:=qh h4;have HQ:=qh hq;clear h3 h4 hq;rw[show bO (fe,fp)=Value.agg #[.int .i64 (fe:Nat),.int .i64 (fp:Nat)]from rfl];go_wp2_with fail;refine mw (Sat.pack (L:=[]) H4.o) s (HW.o.below H4.o.bD) HM.o HL.o (λVs v2 c2 cv qJ lv w5 sX _ pe Ol h5=>?_) (λf w5 sX h5=>?_)
  ·rw[HQ.o]at sX;cases sX
  have hf:f=(fe,fp):=by rw[HQ.o]at sX;cases sX;rfl
  subst hf;have h6:=((h5.unpack (i:=0) rfl).pick [0,1]).aj (.cells #[.int .i64 (fe:Nat),.int .i64 (fp:Nat)] 25) w5.heap.size;have h7:Sat w _ [bG w,av w3.heap.size (.cells #[.int .i64 (fe:Nat),.int .i64 (fp:Nat)] 25 (0,0)),av w5.heap.size (.cells #[.int .i64 (fe:Nat),.int .i64 (fp:Nat)] 25 (0,0))]:=h6;have x0:=h7.cell 1 rfl 0 rfl;have x1:=h7.cell 1 rfl 1 rfl;have y0:=h7.cell 2 rfl 0 rfl;have y1:=h7.cell 2 rfl 1 rfl;have hx:=h7.lt 1 rfl;have HB:=qh h7.bD;clear h5 h6 h7 sX HQ H4;rw[show bO (fe,fp)=Value.agg #[.int .i64 (fe:Nat),.int .i64 (fp:Nat)]from rfl];go_wp2_with fail;generalize w5.alloc (.cells #[.int .i64 (fe:Nat),.int .i64 (fp:Nat)] 25)=w6 at*
  generalize w5.heap.size=n5 at*
  go_loopw [7,8] (λk i wr=>wr=w6/\k=.int .i64 0/\i=.int .i64 0) (λ_ _ _=>0)
  case atStart=>exact⟨rfl,rfl,rfl⟩
  case round=>
   obtain⟨rfl,rfl,rfl⟩:=hrel;go_wp2;exact HR.o _ HB.o
end
end Go.Proofs.YtdlbhiaceheffabGreatDoor
