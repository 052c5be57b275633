/- Walk of the law PlaceRises. -/
import Derived.BigQuiet
import Derived.Test.YtdlbhiaceheffabGreatDoorP43
set_option linter.all false
set_option maxRecDepth 100000
set_option maxHeartbeats 4000000
namespace Go.Proofs.YtdlbhiaceheffabGreatDoor
open Go Go.RowKit Ty Tok ak Tryz Proofs.Tryz
section
open Ty (lD)
theorem Sj(s:BA):∃l:List Ty.Sm,∀pg:Ty.Pg,Ty.parse s=.ok pg→eg 0 l []=(pg.ns,pg.main):=by
 cases hp:Ty.parse s with
 |error f=>exact⟨[],λpg h=>by cases h⟩
 |ok pg=>
  obtain⟨l,hl,_⟩:=GD hp;exact⟨l,λVZ h=>by cases h;exact hl⟩
theorem Se{s:BA}{l:List Ty.Sm}(hl:∀pg:Ty.Pg,Ty.parse s=.ok pg→eg 0 l []=(pg.ns,pg.main)){pg:Ty.Pg}{v:Ty.Vg}{c:Ty.Ck}(h:vT s l=.ok (pg,v,c)){gs:lD}(hp:gs.Perm (gS pg (BK v) c (pg.main+1) pg.main []))(hs:gs.Pairwise λx y=>x.1≤y.1):
  (∀k(h:k<gs.length),1≤gs[k].2∧gs[k].2<127)∧gs.length≤100000∧∀k(h:k+1<gs.length),gs[k].1<gs[k+1].1:=by
 obtain⟨uh,_,UY⟩:=yI.1 h;obtain⟨_,⟨lo,SV⟩,_⟩:=D6 (hl pg uh) UY;have hG:=C0 (pg:=pg) (tq:=BK v) (s:=c) (pg.main+1) pg.main lo [] SV (by omega);have hlen:=hG.1.len;have Uo:=(l7 uh).kO;obtain⟨_,C4,E6,_⟩:=qW (hl pg uh);have xZ:=dA C4;refine⟨λk hk=>hG.2.2 _ (hp.mem_iff.1 (gM hk)),by rw[hp.length_eq];omega,λk hk=>?_⟩;have h1:=List.pairwise_iff_getElem.1 hs k (k+1) (by omega) hk (by omega);have hn:=((hp.map Prod.fst).nodup_iff).2 hG.1.2;have h2:=List.pairwise_iff_getElem.1 (List.pairwise_map.1 hn) k (k+1) (by omega) hk (by omega);omega
theorem sT(s:BA)(w:World)(hw:Words w)(hm:s.size≤maxLen){R:EW}(hR:∀w',Below w.heap.size w w'→R (.returned (.bool true)) w'):
  Calls prog 8 #[.string s] w R:=by
 obtain⟨l,hl⟩:=Sj s;have HR:=qh hR;have HW:=qh hw;have HM:=qh hm;have HL:=qh hl;clear hR hw hm hl;go_in;go_wp2_with fail;refine tV w HW.o (λw1 df=>?_);have ll:=qh df;clear df;go_wp2_with fail;refine ur w1 (HW.o.below ll.o) (λw2 aI=>?_);have h2:=((Sat.fw w).below ll.o).below aI;have H2:=qh h2;clear aI h2;go_wp2_with fail;refine qt H2.o s (HW.o.below H2.o.aW) HM.o HL.o (λpg v c ov gs w3 hq hp hs h3=>?_) (λf w3 hq h3=>?_)
 ·obtain⟨m_,sU,Rj⟩:=Se HL.o hq hp hs;obtain⟨oa,oc,rfl⟩:=ag (h3.row 1 rfl);have h4:=h3.aj (.cells #[.int .i64 0,.int .i64 0] 25) w3.heap.size;have H4:=qh h4;have HQ:=qh hq;have yT:=qh m_;have aci:=qh Rj;clear h3 h4 hq hp hs m_ Rj;rw[show bY (0,0)=Value.agg #[.int .i64 0,.int .i64 0]from rfl];go_wp2_with fail;refine lg (Sat.pack (L:=[]) H4.o) s (HW.o.below H4.o.aW) HM.o HL.o (λVZ v2 c2 qR w5 vm h5=>?_) (λf w5 vm h5=>?_);rotate_left
  ·rw[HQ.o]at vm;cases vm
  obtain⟨ta,tc,rfl⟩:=ag (h5.row 1 rfl);have h6:=((h5.unpack (i:=0) rfl).pick [1,2,3]).aj (.cells #[.int .i64 0,.int .i64 0] 25) w5.heap.size;have h7:Sat w _ [bE w,CR (.slice oa gs.length oc) gs,ay w3.heap.size (.cells #[.int .i64 0,.int .i64 0] 25 (0,0)),ay w5.heap.size (.cells #[.int .i64 0,.int .i64 0] 25 (0,0))]:=h6;have H7:=qh h7;generalize(wC c2 (List.range VZ.ns.length)).length=TL at*
  clear h5 h6 h7 vm HQ H4;rw[show bY (0,0)=Value.agg #[.int .i64 0,.int .i64 0]from rfl];go_wp2_with fail;generalize w5.alloc (.cells #[.int .i64 0,.int .i64 0] 25)=w6 at*
  generalize w5.heap.size=n5 at*
  go_loopw [7] (λi wr=>∃(k:Nat),i=.int .i64 k∧k≤gs.length∧Hq (Sat w wr [bE w,CR (.slice oa gs.length oc) gs,ay w3.heap.size (.cells #[.int .i64 0,.int .i64 0] 25 (0,0)),ay n5 (.cells #[.int .i64 0,.int .i64 0] 25 (0,0))])) (λi _=>gs.length-(intOf i).toNat)
  case atStart=>exact⟨0,rfl,Nat.zero_le _,H7.o⟩
  case round=>
   obtain⟨k,rfl,hk,hS⟩:=hrel;by_cases bm:k<gs.length
   ·obtain⟨g,cap,e,hg,d0,d1⟩:=Qo (hS.out.row 1 rfl) k bm;cases e;obtain⟨t1,t2⟩:=yT.o k bm;have k1:decide ((gs[k].2:Int)<1)=false:=decide_eq_false (by omega);have k2:decide ((127:Int)≤(gs[k].2:Int))=false:=decide_eq_false (by omega);cases k with
    |zero=>
     generalize gs[0]=q at*
     have Rb:=qh hS.out;clear hS;go_wp2_with fail
     go_quiet (fail)
     go_wp2_with fail;go_roundw
     case rel=>exact⟨1,rfl,by omega,Rb.o.below (Go.below_drewN (bR _ _) _)⟩
     case measure=>simp[intOf];omega
    |succ j=>
     obtain⟨g2,qf,e,_,d2,_⟩:=Qo (hS.out.row 1 rfl) j (by omega);cases e;have h1:=aci.o j bm;have hw:=IntWalk.i64_in (n:=(j:Int)) (by omega);have hs:IntKind.i64.wrap (((j+1:Nat):Int)-1)=(j:Int):=by rw[show((j+1:Nat):Int)-1=(j:Int)by omega];exact hw
     have VP:IntKind.i64.wrap ((j:Int)+1-1)=(j:Int):=by rw[show(j:Int)+1-1=(j:Int)by omega];exact hw
     have k3:decide ((0:Int)<((j+1:Nat):Int))=true:=decide_eq_true (by omega);have k4:decide ((gs[j+1].1:Int)≤(gs[j].1:Int))=false:=decide_eq_false (by omega);have k5:decide (gs[j+1].1≤gs[j].1)=false:=decide_eq_false (by omega);have i1: (0:Int)≤(j:Int):=by omega
     have i2: (j:Int)<(gs.length:Int):=by omega
     have i3: ((j+1:Nat):Int)<(gs.length:Int):=by omega
     generalize gs[j+1]=q at*
     generalize gs[j]=p at*
     have Rb:=qh hS.out;clear hS h1;go_wp2_with fail
     go_quiet (fail)
     go_wp2_with fail;go_roundw
     case rel=>exact⟨j+1+1,by go_num,by omega,Rb.o.below (Go.below_drewN (bR _ _) _)⟩
     case measure=>simp[intOf];omega
   ·have ju:k=gs.length:=by omega
    subst ju;have x0:=hS.out.cell 2 rfl 0 rfl;have x1:=hS.out.cell 2 rfl 1 rfl;have y0:=hS.out.cell 3 rfl 0 rfl;have y1:=hS.out.cell 3 rfl 1 rfl;have HB:=qh hS.out.aW;clear hS bm hk;go_wp2_with fail;exact HR.o _ HB.o
 ·obtain⟨fe,fp⟩:=f;have h4:=h3.aj (.cells #[.int .i64 (fe:Nat),.int .i64 (fp:Nat)] 25) w3.heap.size;have H4:=qh h4;have HQ:=qh hq;clear h3 h4 hq;rw[show bY (fe,fp)=Value.agg #[.int .i64 (fe:Nat),.int .i64 (fp:Nat)]from rfl];go_wp2_with fail;refine lg (Sat.pack (L:=[]) H4.o) s (HW.o.below H4.o.aW) HM.o HL.o (λVZ v2 c2 qR w5 vm h5=>?_) (λf w5 vm h5=>?_)
  ·rw[HQ.o]at vm;cases vm
  have hf:f=(fe,fp):=by rw[HQ.o]at vm;cases vm;rfl
  subst hf;have h6:=((h5.unpack (i:=0) rfl).pick [0,1]).aj (.cells #[.int .i64 (fe:Nat),.int .i64 (fp:Nat)] 25) w5.heap.size;have h7:Sat w _ [bE w,ay w3.heap.size (.cells #[.int .i64 (fe:Nat),.int .i64 (fp:Nat)] 25 (0,0)),ay w5.heap.size (.cells #[.int .i64 (fe:Nat),.int .i64 (fp:Nat)] 25 (0,0))]:=h6;have x0:=h7.cell 1 rfl 0 rfl;have x1:=h7.cell 1 rfl 1 rfl;have y0:=h7.cell 2 rfl 0 rfl;have y1:=h7.cell 2 rfl 1 rfl;have HB:=qh h7.aW;clear h5 h6 h7 vm HQ H4;rw[show bY (fe,fp)=Value.agg #[.int .i64 (fe:Nat),.int .i64 (fp:Nat)]from rfl];go_wp2_with fail;generalize w5.alloc (.cells #[.int .i64 (fe:Nat),.int .i64 (fp:Nat)] 25)=w6 at*
  generalize w5.heap.size=n5 at*
  go_loopw [7] (λi wr=>wr=w6∧i=.int .i64 0) (λ_ _=>0)
  case atStart=>exact⟨rfl,rfl⟩
  case round=>
   obtain⟨rfl,rfl⟩:=hrel;go_wp2_with fail;exact HR.o _ HB.o
end
end Go.Proofs.YtdlbhiaceheffabGreatDoor
