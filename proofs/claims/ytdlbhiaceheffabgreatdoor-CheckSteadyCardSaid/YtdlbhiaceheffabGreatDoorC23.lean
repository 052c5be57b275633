/- Walk of check: expr, at arrays and objects. -/
import Derived.Test.YtdlbhiaceheffabGreatDoorC22
set_option linter.all false
set_option maxRecDepth 100000
set_option maxHeartbeats 8000000
namespace Go.Proofs.YtdlbhiaceheffabGreatDoor
open Go Go.RowKit Ty Tok Prt Tryz Proofs.Tryz
section
open Ty (Tr Ck)
theorem Qt{h:Prt.Hp}{b:Nat}{p:Value}{t:Tr}(hb:h b=some (.cells #[.int .i64 (8:Nat),.slice none 0 0,.slice none 0 0,p] 219 (0,0)))(hr:rep h t p):rep h (.mk 8 [] [] [] [t]) (.pointer (some ⟨b,0,none⟩)):=by
 rw[rep];exact⟨b,_,_,_,[],[],[p],rfl,hb,⟨by simp[cP],.inl ⟨rfl,rfl⟩⟩,rfl,by rw[br],⟨by simp,.inl ⟨rfl,rfl⟩⟩,by rw[br],by rw[br];exact⟨p,[],rfl,hr,by rw[br]⟩,.inr rfl⟩
theorem Q'{h:Prt.Hp}{b:Nat}{pv:Value}{names:List BA}{ps:List Value}{types:List Tr}(hb:h b=some (.cells #[.int .i64 (7:Nat),pv,.slice none 0 0,.pointer none] 219 (0,0)))(hp:Prt.row 221 2 pv ps.length (cP names ps) h)(hn:names.length=ps.length)(hr:br h types ps):rep h (.mk 7 names types [] []) (.pointer (some ⟨b,0,none⟩)):=by
 rw[rep];exact⟨b,_,_,_,ps,[],[],rfl,hb,hp,hn,hr,⟨by simp,.inl ⟨rfl,rfl⟩⟩,by rw[br],by rw[br],.inl ⟨rfl,rfl⟩⟩
section
variable {wB w:World} {cb ofb hasb:Nat} {X:Cx} {s:Ck} {h0:Prt.Hp} {pg:Ty.Pg}
theorem PO(hP:PB wB X.nv X.tv pg)(hb:Below wB.heap.size wB w){id:Nat}{nd:Nd}(hn:pg.ns[id]?=some nd)(hk:nd.kind=11)(hW:CkW w cb X ofb hasb s h0)(hI:NdW pg nd)(eR:qB pg X.kv s id nd≠.error Ty.stuck){R:EW}
  (aD:∀t q w',qB pg X.kv s id nd=.ok t->Sat w w' [bY w,iq h0 t q]->R (.returned q) w'):
  Calls prog 159 #[.pointer (some ⟨cb,0,none⟩),.int .i64 (id:Nat)] w R:=by
 have Ee:=qh (λR=>fE (R:=R) hP hb hn hW.c0 hW.lt);have DV:=hW.lt;obtain⟨eB,hex⟩:=zM eR;have hx:qB pg X.kv s id nd=.ok (.mk 8 [] [] [] [qz (nd.list.map (tO s.of))]):=by rw[hex];unfold AA;simp only[hk];rfl
 have sB:iU pg nd=nd.list:=by unfold iU;simp[hk]
 rw[sB]at eB
 have fL:=qh (λq w'=>aD _ q w' hx);have WW:Hq (∀j(h:j<nd.list.length),s.of nd.list[j]=some (tO s.of nd.list[j])/\nd.list[j]<=100000):=λj h=>⟨cO eB (gM h),hI.l _ (gM h)⟩
 have hm:∀t∈nd.list.map (tO s.of),Fine t/\dK t<=300:=λt ht=>by
  obtain⟨p,hp,rfl⟩:=List.mem_map.1 ht;exact hW.oN.of _ _ (cO eB hp)
 have uQ:=hI.len;have ik:=qh (λlv(hl:wB.ownsRow 0 3 1 lv nd.list.length (nd.list.map aQ)) w1(h:Below w.heap.size w w1)=>ay hl (hb.trans (h.mono hb.size)));obtain⟨j0,tj,uA,uI,uy⟩:=info_parts tM;have e1:=kF hk 1;have e2:=kF hk 2;have e3:=kF hk 3;have e4:=kF hk 4;have e5:=kF hk 5;have e6:=kF hk 6;have e7:=kF hk 7;have e8:=kF hk 8;have e9:=kF hk 9;have UJ:=kT hk 11;clear aD hP hb hn eR eB hex hI hk hx sB;go_in;go_wp2_with fail;refine Ee.o _ (λlv w2 aW hl=>?_);have HL:=qh (ik.o lv hl);obtain⟨la,lc,rfl⟩:=ag hl;unfold aH;have VG:Below w.heap.size w (w2.alloc (cz nd (.slice la nd.list.length lc))):=aW.alloc aW.size _;have h3:=((Sat.iN w).below aW).ar (cz nd (.slice la nd.list.length lc)) w2.heap.size;have x0:=h3.cell 1 0;have x4:=h3.cell 1 4;have qd:=qh VG;have H1:=qh (((Sat.iN w).below VG).nil 107 1);clear h3 aW hl VG;go_wp2_with fail;go_loopw [6,89] (λv i wr=>∃(j:Nat)(qs:List Value),i=.int .i64 j/\j<=nd.list.length/\Hq (Sat w wr [bY w,Prt.row 107 1 v qs.length qs])/\Hq (br h0 ((nd.list.take j).map (tO s.of)) qs)) (λ_ i _=>nd.list.length-(intOf i).toNat)
 case atStart=>exact⟨0,[],rfl,Nat.zero_le _,H1.o,by show br _ [] [];rw[br]⟩
 case round=>
  obtain⟨j,qs,rfl,hj,hS,hQ⟩:=hrel;obtain⟨qa,qc,rfl⟩:=ag (hS.out.row 1);by_cases bz:j<nd.list.length
  ·have RE:=hS.out.aS;obtain⟨gl,nK,e,rE,d0⟩:=ints_at (HL.o wr RE) j bz;cases e;obtain⟨Ew,lW⟩:=WW.o j bz;obtain⟨pj,cm,Hn⟩:=hW.L2 lW Ew;obtain⟨bj,rfl⟩:=cK Hn;have By:=cm wr RE;have c5:=av RE hW.c5;have HT:=qh (List.take_succ_eq_append_getElem bz);have Py:=db hQ.out;have ae1:qs.length+1<=1000000:=by rw[<-Py];simp;omega
   have abf:=qh Hn;generalize nd.list[j]=nj at*
   clear Ew lW cm Hn RE Py;go_wp2_with(at_builtin;go_loud(refine wpList_append_lies _ rfl (.tmp 93) (.tmp 100) 104 rfl 0 107 j0 _ 1 8 underlying104 tj uA uI uy rfl (by decide) _ _ qs (by rfl) ((hS.out.row 1).alloc _) ⟨wr.heap.size,0,none⟩ 1 1 [.pointer (some ⟨bj,0,none⟩)] (by rfl) (by rfl) (World.news_of_block (cs:=#[.pointer (some ⟨bj,0,none⟩)]) (t:=107) (fr:=(0,0)) (aC _ _ _ (by simp))) (by simp[Value.oneCell']) (by omega) (by unfold maxLen;omega) (by omega) (by simp) (wr.heap.size+1) (by simp) ?_));intro g4 fH w4 cy bD gV o_;have h8:=(Sat.grow (hS.out.aU _) 1 rfl bD cy (by simpa using gV)).pick [0,1];have h9:=h8.cQ (i:=1) rfl (Q:=Prt.row 107 1 (.slice (some ⟨g4,0,none⟩) (qs.length+1) fH) (qs++[Value.pointer (some ⟨bj,0,none⟩)]).length (qs++[Value.pointer (some ⟨bj,0,none⟩)])) (λ_ h=>kR h);have H9:=qh h9;have P8:Hq (br h0 ((nd.list.take (j+1)).map (tO s.of)) (qs++[Value.pointer (some ⟨bj,0,none⟩)])):=by show br _ _ _;rw[HT.o,List.map_append];exact mZ hQ.out abf.o
   clear h8 h9 cy bD;go_wp2_with fail;go_roundw
   case rel=>exact⟨j+1,qs++[Value.pointer (some ⟨bj,0,none⟩)],by go_num,by omega,H9.o,P8.o⟩
   case measure=>simp[intOf];omega
  ·have oE:j=nd.list.length:=by omega
   have hq:=hQ.out;rw[oE,List.take_length]at hq
   have yf:=oV λt ht=>(hm t ht).1
   have XI:=mW λt ht=>(hm t ht).1
   have JT:=rO (m:=300) λt ht=>(hm t ht).2
   rw[List.length_map]at JT
   have HJ:=qh (λR=>I7 (R:=R) w wr hW.le hS.out.aS _ qs yf XI (by omega) hq _ (hS.out.row 1));clear oE hq yf XI JT;go_wp2_with fail;refine HJ.o _ (λp w5 h5=>?_);obtain⟨bp,rfl⟩:=cK (wZ hW.le hS.out.aS h5);have h6:=Sat.pack (L:=[bY w]) ((((Sat.iN w).below hS.out.aS).join h5).ar (.cells #[.int .i64 (8:Nat),.slice none 0 0,.slice none 0 0,.pointer (some ⟨bp,0,none⟩)] 219) _ rfl);have HG:=qh (fL.o _ _ (h6.cQ (i:=1) rfl λa ha h xV lR=>by
    obtain⟨y,z,_,hy,hz,g1,u,v,_,hu,_,g2,_⟩:=ha;exact Qt (lR _ _ (Prt.le_trans hu hz _ _ g2)) (g1 h xV (Prt.le_trans hy lR))))
   clear h5 h6;go_wp2_with fail;exact HG.o
end
end
end Go.Proofs.YtdlbhiaceheffabGreatDoor
