/- Parts of memory: a string's bytes appended to a row of bytes; a row that is frozen. -/
import Derived.Lib.AppendStr
import Derived.Lib.Builder
import Derived.Deep.RegionHeld3
import Derived.Test.YtdlbhiaceheffabGreatDoorC07
import Derived.Test.YtdlbhiaceheffabGreatDoorC08
set_option linter.all false
set_option maxRecDepth 100000
set_option maxHeartbeats 2000000
namespace Go.Proofs.YtdlbhiaceheffabGreatDoor
open Go Go.RowKit Ty Tok Prt Tryz Proofs.Tryz
theorem rT{P:Program}(w:World)(t u ty e:TypeId)(i:TypeInfo)(ht:P.underlying t=some (.slice e))(hu:P.underlying u=some .string)(hi:P.info? e=some i)(hz:i.zero=some (.int .u8 0))
  (yY:i.size=1) (Wj:i.bytes=1) (v:Value) (n:Nat) (xs:List Value) (jV:w.ownsRow 0 e 1 v n xs) (s:BA) (YF:n+s.size<=maxLen) (zU:n+s.size<=140737488355328):
  ∃v' w',(Builtin.append_ #[t,u] ty #[v,.string s]).run P w=.ok v' w'/\w'.ownsRow 0 e 1 v' (n+s.size) (xs++Lib.strCells s)/\w.grownBy w' v.ownBlock/\(∀g,v'.ownBlock=some g->v.ownBlock=some g\/w.heap.size<=g):=by
 obtain⟨v',w',hr,h2,h3,_⟩:=Lib.run_append_own_string (P:=P) w 0 t u ty e i ht hu hi hz yY Wj v n xs jV s YF zU (Nat.zero_le _);refine⟨v',w',hr,h2,h3,λg hg=>?_⟩;have aeh:xs.length=n:=by simpa using jV.1
 rcases jV.2 with⟨rfl,rfl⟩|⟨g0,cap,cur,rfl,_,ZC,D6,E',U3,Sc⟩
 ·obtain⟨v2,w2,om,k2,_,_⟩:=Lib.run_append_own_string (P:=P) w w.heap.size t u ty e i ht hu hi hz yY Wj _ 0 xs ⟨jV.1,.inl ⟨rfl,rfl⟩⟩ s YF zU (nR _);rw[hr]at om
  cases om;right;rcases k2.2 with⟨rfl,_⟩|⟨g2,_,_,rfl,hb,_⟩
  ·cases hg
  ·simp[Value.ownBlock]at hg;omega
 ·by_cases WM:n+s.size<=cap
  ·have om:=Lib.run_append_room_string (P:=P) w t u ty e i ht hu hi yY g0 n cap cur ZC s WM (by omega);rw[hr]at om
   cases om;exact .inl hg
  ·have holds:∀j u,xs[j]?=some u->w.cell? ((⟨g0,0,none⟩:Addr).add j)=some u:=jV.cells (g:=g0) rfl;have om:=Lib.run_append_grow_string (P:=P) w t u ty e i (.int .u8 0) ht hu hi hz ⟨g0,0,none⟩ n cap xs (by rw[yY];simpa using aeh) holds s (by omega) (by omega) (by rw[Wj];exact growslice_fits (by omega) (by omega));rw[hr]at om
   cases om;right;simp[Value.ownBlock]at hg;omega
theorem rZ{P:Program}{w:World}{ops:Array Oper}{rest:List Oper}{o:Oper}{a:Act}{Q:Exit->Act->World->Prop}(afO:o.guard=none)(sl x:Operand)(t u:TypeId)
  (ho:o.op=.call {callee:=.builtin .append,args:=#[sl,x],argTypes:=#[t,u]}) (e:TypeId) (i:TypeInfo) (ht:P.underlying t=some (.slice e)) (hu:P.underlying u=some .string) (hi:P.info? e=some i) (hz:i.zero=some (.int .u8 0))
  (yY:i.size=1) (Wj:i.bytes=1) (v:Value) (n:Nat) (xs:List Value) (hs:a.eval sl=v) (jV:w.ownsRow 0 e 1 v n xs) (s:BA) (hx:a.eval x=.string s) (YF:n+s.size<=maxLen) (zU:n+s.size<=140737488355328)
  (h:∀v' w',w'.ownsRow 0 e 1 v' (n+s.size) (xs++Lib.strCells s)->w.grownBy w' v.ownBlock->(∀g,v'.ownBlock=some g->v.ownBlock=some g\/w.heap.size<=g)->wpList P ops Q rest (a.put o.dst v') w'):wpList P ops Q (o::rest) a w:=by
 refine wpList_plain afO λK hK=>?_
 obtain⟨v',w',hr,h2,h3,h4⟩:=rT (P:=P) w t u o.type e i ht hu hi hz yY Wj v n xs jV s YF zU;unfold Oper.wp execOp;simp only[ho,resolve,invoke,builtin,Sem.run_bind,Sem.run_pure,Result.andThen_ok,List.map_toArray,List.map_cons,List.map_nil,hs,hx,hr];exact hK _ _ (h v' w' h2 h3 h4)
namespace Prt
section
variable {w0 w w':World} {L:List As}
theorem Sat.Wx(h:Sat w0 w L)(i:Nat){e:TypeId}{size:Nat}{v v':Value}{n m:Nat}{xs ys:List Value}(hi:L[i]?=some (Prt.row e size v n xs))
  (hg:w.grownBy w' v.ownBlock) (ho:w'.ownsRow 0 e size v' m ys) (sX:∀g,v'.ownBlock=some g->v.ownBlock=some g\/w.heap.size<=g):Sat w0 w' (L.set i (Prt.row e size v' m ys)):=by
 refine h.UM hi hg.os hg.tape hg.output λa ha hl=>?_
 have hv:∀k,a k=none->v.ownBlock≠some k:=λk hk ev=>by
  rcases ha.2 with⟨rfl,_⟩|⟨g2,ni,XJ,rfl,e2,_⟩
  ·simp[Value.ownBlock]at ev
  ·simp[Value.ownBlock]at ev;subst ev;rw[hk]at e2;cases e2
 obtain⟨h1,h2⟩:=ho;rcases h2 with⟨rfl,rfl⟩|⟨g',x9,cur,rfl,_,h4,h5,h6,h7,h8⟩
 ·exact⟨λ_=>none,⟨h1,.inl ⟨rfl,rfl⟩⟩,λ_ _ e=>(by cases e),λk hk bz=>⟨rfl,hg.block k bz λev=>hv k hk ev.symm⟩⟩
 ·refine⟨λk=>if k=g' then some (.cells cur e (0,0))else none,⟨h1,.inr ⟨g',x9,cur,rfl,if_pos rfl,h5,h6,h7,h8⟩⟩,λk x ex=>?_,λk hk bz=>⟨?_,hg.block k bz λev=>hv k hk ev.symm⟩⟩
  ·dsimp only at ex;split at ex
   ·rename_i VX;subst VX;cases ex;exact h4
   ·cases ex
  ·dsimp only;rw[if_neg]
   rintro rfl
   rcases sX k rfl with sX|sX
   ·exact hv k hk sX
   ·omega
theorem Sat.freeze(h:Sat w0 w L)(i:Nat){e:TypeId}{size g n cap m:Nat}{xs:List Value}(hi:L[i]?=some (Prt.row e size (.slice (some ⟨g,0,none⟩) n cap) n xs)):Sat w0 (w.freeze ⟨g,0,none⟩ m) (L.set i λ_=>True):=by
 have hz: (w.freeze ⟨g,0,none⟩ m).os=w.os/\(w.freeze ⟨g,0,none⟩ m).tape=w.tape/\(w.freeze ⟨g,0,none⟩ m).output=w.output:=by unfold World.freeze;split<;>exact⟨rfl,rfl,rfl⟩
 refine h.UM hi hz.1 hz.2.1 hz.2.2 λa ha hl=>⟨λ_=>none,trivial,λ_ _ e=>(by cases e),λk hk _=>⟨rfl,?_⟩⟩
 have eR:k≠g:=by
  rintro rfl
  rcases ha.2 with⟨h1,_⟩|⟨g2,ni,XJ,h1,e2,_⟩
  ·cases h1
  ·cases h1;rw[hk]at e2;cases e2
 unfold World.freeze;split
 ·rfl
 ·simp[Array.getElem?_modify,Ne.symm eR]
end
end Prt
section
open Ty (Tr)
theorem pZ(w:World)(k:Int){R:EW}(hR:R (.returned (.pointer (some ⟨w.heap.size,0,none⟩))) (w.alloc (.cells #[.int .i64 k,.slice none 0 0,.slice none 0 0,.pointer none] 219))):
  Calls prog 295 #[.int .i64 k] w R:=by
 have HR:=qh hR;clear hR;go_in;go_wp2_with fail;exact HR.o
theorem Mj: (prog.info? 221).map (λi=>(i.zero,i.size,i.bytes))=some (some (.agg #[.string ⟨#[]⟩,.pointer none]),2,24):=by kernel_rfl
theorem tM: (prog.info? 107).map (λi=>(i.zero,i.size,i.bytes))=some (some (.pointer none),1,8):=by kernel_rfl
def MF(v:Value)(rows:List TyRow)(ts:List Ty.Ty)(n:Nat):Prop:=
 ∀(w:World),TyRd w v rows->∀R:EW,
  (∀p w',Sat w w' [bY w,qp p (Ty.den ts n)]->R (.returned p) w')->Calls prog 241 #[v,.int .i64 (n:Nat)] w R
theorem pz{ps:List Value}{l:List Tr}{p:Value}{t:Tr}{a:Prt.Hp}(h:aq [fQ ps l,qp p t] a):fQ (ps++[p]) (l++[t]) a:=by
 obtain⟨x,y,_,hx,hy,h1,z,u,_,hz,_,h2,_⟩:=h;exact mZ (jB hx _ _ h1) (dp (Prt.le_trans hz hy) _ _ h2)
theorem w_{v:Value}{ns:List BA}{ps:List Value}{n:BA}{p:Value}{a:Prt.Hp}(hl:ns.length=ps.length)(h:Prt.row 221 2 v (ps.length+1) (cP ns ps++[.string n,p]) a):Prt.row 221 2 v (ps++[p]).length (cP (ns++[n]) (ps++[p])) a:=by
 rw[rL ns ps n p hl,List.length_append];exact h
theorem kR{v:Value}{ps:List Value}{p:Value}{a:Prt.Hp}(h:Prt.row 107 1 v (ps.length+1) (ps++[p]) a):Prt.row 107 1 v (ps++[p]).length (ps++[p]) a:=by
 rw[List.length_append];exact h
theorem Bi{b:Nat}{kd:Nat}{pv lv ov:Value}{ps ls os:List Value}{names:List BA}{parts list of:List Tr}{a:Prt.Hp}(hn:names.length=ps.length)(ho:os=[]/\ov=.pointer none\/os=[ov])
  (h:aq [ax b (.cells #[.int .i64 (kd:Nat),pv,lv,ov] 219 (0,0)),Prt.row 221 2 pv ps.length (cP names ps),fQ ps parts,Prt.row 107 1 lv ls.length ls,fQ ls list,fQ os of] a):qp (.pointer (some ⟨b,0,none⟩)) (.mk kd names parts list of) a:=by
 obtain⟨a1,r1,_,l1,m1,h1,a2,r2,_,l2,m2,h2,a3,r3,_,l3,m3,h3,a4,r4,_,l4,m4,h4,a5,r5,_,l5,m5,h5,a6,r6,_,l6,m6,h6,_⟩:=h;show rep a (.mk kd names parts list of) _;rw[rep];have k2:=Prt.le_trans l2 m1;have n2:=Prt.le_trans m2 m1;have k3:=Prt.le_trans l3 n2;have n3:=Prt.le_trans m3 n2;have k4:=Prt.le_trans l4 n3;have n4:=Prt.le_trans m4 n3;have k5:=Prt.le_trans l5 n4;have n5:=Prt.le_trans m5 n4;have k6:=Prt.le_trans l6 n5;exact⟨b,pv,lv,ov,ps,ls,os,rfl,l1 _ _ h1,iQ h2 k2,hn,jB k3 _ _ h3,iQ h4 k4,jB k5 _ _ h5,jB k6 _ _ h6,ho⟩
theorem Mv{w:World}{v:Value}{l:List (BA×Nat)}(h:w.ownsRow 0 141 2 v l.length (l.flatMap c9))(k:Nat)(hk:k<l.length):∃g cap:Nat,v=.slice (some ⟨g,0,none⟩) l.length cap/\g<w.heap.size/\w.cell? ⟨g,k*2,none⟩=some (.string l[k].1)/\w.cell? ⟨g,k*2+1,none⟩=some (.int .i64 (l[k].2:Nat)):=by
 obtain⟨g,cap,rfl,_,hg⟩:=h.form (by omega);have key:∀(l:List (BA×Nat))(k:Nat)(hk:k<l.length),(l.flatMap c9)[k*2]?=some (.string l[k].1)/\(l.flatMap c9)[k*2+1]?=some (.int .i64 (l[k].2:Nat)):=by
  intro l;induction l with
  |nil=>intro k hk;simp at hk
  |cons a l ih=>
   intro k hk;cases k with
   |zero=>simp[c9]
   |succ k=>
    have:=ih k (by simpa using hk);simp only[List.flatMap_cons,List.getElem_cons_succ];refine⟨?_,?_⟩
    ·rw[List.getElem?_append_right (by simp[c9];omega),show(k+1)*2-(c9 a).length=k*2 by simp[c9];omega];exact this.1
    ·rw[List.getElem?_append_right (by simp[c9];omega),show(k+1)*2+1-(c9 a).length=k*2+1 by simp[c9];omega];exact this.2
 obtain⟨k1,k2⟩:=key l k hk;refine⟨g,cap,rfl,hg,?_,?_⟩
 ·have:=World.ownsRow.cells h (g:=g) rfl _ _ k1;rwa [Addr.add_lit,Nat.zero_add]at this
 ·have:=World.ownsRow.cells h (g:=g) rfl _ _ k2;rwa [Addr.add_lit,Nat.zero_add]at this
theorem S_(v:Value)(rows:List TyRow)(ts:List Ty.Ty)(ow:rows.map TyRow.t=ts)(hw:Wf ts)(hlen:ts.length<=300):∀N n,n<N->n<ts.length->MF v rows ts n:=by
 intro N;induction N with
 |zero=>intro n h;omega
 |succ N ih=>
  intro n hN hn w xK R hR;have YD:rows.length=ts.length:=by rw[<-ow];simp
  obtain⟨g,cap,rfl,hg,hcap,E',hcells⟩:=xK.at (by omega);obtain⟨q0,q1,q2,q3⟩:=hcells n (by omega);have FW: (rows.map TyRow.t)[n]?=some rows[n].t:=by rw[List.getElem?_map,List.getElem?_eq_getElem (by omega)];rfl
  rw[ow]at FW
  have rF:=xK.bits rows[n] (gM _);have oD:=hw n _ FW;have py:=nO hw FW;have Pr:∀j,j<n->MF (.slice (some ⟨g,0,none⟩) rows.length cap) rows ts j:=λj hj=>ih j (by omega) (by omega)
  have HC:=qh Pr;have XW:=qh xK;generalize rows[n]=r at*
  obtain⟨⟨kd,fds,bS,of⟩,fv,lv⟩:=r;dsimp only at q0 q1 q2 q3 rF oD py;obtain⟨cd,aW⟩:=rF;obtain⟨fa,fc,rfl⟩:=ag cd;obtain⟨la,lc,rfl⟩:=ag aW;have Lt:=qh cd;have fG:=qh aW;have Ll:=qh oD;have TA:=qh py;have HR:=qh hR;have VK:n<rows.length:=by omega
  obtain⟨i0,ti,oB,oA,oy⟩:=info_parts Mj;obtain⟨j0,tj,uA,uI,uy⟩:=info_parts tM;clear ih hcells FW oD py Pr xK hR cd aW YD ow hw;go_enter func241,ntmps241;go_wp2_with fail;have h1:=((Sat.iN w).ar (.cells #[.int .i64 kd,.slice fa fds.length fc,.slice la bS.length lc,.int .i64 of] 69) w.heap.size).ar (.cells #[.int .i64 (kd:Nat),.slice none 0 0,.slice none 0 0,.pointer none] 219) (w.heap.size+1);have h2:=(h1.nil 221 2).jR (P:=fQ [] []) (λ_=>by show br _ [] [];rw[br]);have H2:=qh h2;clear h1 h2;refine pZ _ kd ?_;go_wp2_with fail;have WO:=Ll.o.lens.1;have pG:=Ll.o.lens.2;dsimp only at WO pG;go_loopw [21] (λi wr=>∃(k:Nat)(pv:Value)(ps:List Value),i=.int .i64 k/\k<=fds.length/\ps.length<=k/\k<=ps.length/\Hq (Sat w wr [bY w,ax w.heap.size (.cells #[.int .i64 kd,.slice fa fds.length fc,.slice la bS.length lc,.int .i64 of] 69 (0,0)),ax (w.heap.size+1) (.cells #[.int .i64 (kd:Nat),pv,.slice none 0 0,.pointer none] 219 (0,0)),Prt.row 221 2 pv ps.length (cP ((fds.take k).map Prod.fst) ps),fQ ps ((fds.take k).map λf=>Ty.den ts f.2)]))
   (λi _=>fds.length-(intOf i).toNat)
  case atStart=>exact⟨0,.slice none 0 0,[],rfl,by omega,by simp,by simp,H2.o⟩
  case round=>
   obtain⟨k,pv,ps,rfl,hk,Ko,vJ,hS⟩:=hrel;obtain⟨pa,pc,rfl⟩:=ag (hS.out.row 3);by_cases bz:k<fds.length
   ·have hb:=hS.out.aS;obtain⟨gf,Tt,e,aac,d0,d1⟩:=Mv (ay Lt.o hb) k bz;cases e;have TE:=Ll.o.fields fds[k] (gM _);have HT:=qh (List.take_succ_eq_append_getElem bz);have xp:=(XW.o.below hb).below (((bR wr.heap.size wr).alloc (nR _) (.cells #[.string fds[k].1,.int .i64 (fds[k].2:Nat)] 141)).drew);have ER:=qh (HC.o fds[k].2 TE _ xp);have h0:=(hS.out.ar (.cells #[.string fds[k].1,.int .i64 (fds[k].2:Nat)] 141) wr.heap.size)
    generalize fds[k]=fd at*
    obtain⟨nm,ix⟩:=fd;dsimp only at d0 d1 TE;have x1:=h0.cell 2 1;have y0:=h0.cell 5 0;have y1:=h0.cell 5 1;have H0:=qh h0.drew;clear hb xp h0 hS;go_wp2_with fail;go_region_law(first|(go_simp;go_at_call 241;refine ER.o _ (λp w2 h2=>?_);obtain⟨qw,rfl,_⟩:=e_ (h2.tree 1 rfl);have h3:=H0.o.join h2;have x3:=h3.cell 2 1;have y3:=h3.cell 5 0;have Vb:=h3.aU (.cells #[.string nm,.pointer (some ⟨qw,0,none⟩)] 221);have x4:=Vb.cell 2 1;have y4:=Vb.cell 5 0;have H3:=qh h3;clear h2 h3 Vb)|(go_loud(refine step_append_lies _ (by rfl) _ _ _ (by rfl) 0 221 i0 _ 2 24 underlying217 ti oB oA oy rfl (by omega) (.slice pa ps.length pc) ps.length (cP ((fds.take k).map Prod.fst) ps) (by rfl) ((H3.o.row 3).alloc _) ⟨w2.heap.size,0,none⟩ 1 1 [.string nm,.pointer (some ⟨qw,0,none⟩)] (by rfl) (by rfl) (World.news_of_block (cs:=#[.string nm,.pointer (some ⟨qw,0,none⟩)]) (t:=221) (fr:=(0,0)) (aC _ _ _ (by simp))) (by simp[Value.oneCell']) (by omega) (by unfold maxLen;omega) (by omega) (by simp) (w2.heap.size+1) (by simp) ?_);intro g4 fH w4 cy bD gV o_;have h4:=Sat.grow (H3.o.aU _) 3 rfl bD cy (by simpa using gV);have x5:=h4.cell 2 1;have f5:=h4.free 2 rfl 1;have H4:=qh h4;clear h4))
    all_goals
     clear cy bD;have BP: ((fds.take k).map Prod.fst).length=ps.length:=by simp;omega
     have h5:=(H4.o.store 2 rfl 1 (.slice (some ⟨g4,0,none⟩) (ps.length+1) fH)).pick [0,1,2,3,4,6];have h6:=h5.cQ (i:=3) rfl (Q:=Prt.row 221 2 (.slice (some ⟨g4,0,none⟩) (ps.length+1) fH) (ps++[Value.pointer (some ⟨qw,0,none⟩)]).length (cP ((fds.take (k+1)).map Prod.fst) (ps++[Value.pointer (some ⟨qw,0,none⟩)]))) (λ_ h=>by rw[HT.o,List.map_append];exact w_ BP h);have h7:=Sat.pack (L:=[_,_,_,_]) (M:=[_,_]) h6;have h8:=h7.cQ (i:=4) rfl (Q:=fQ (ps++[Value.pointer (some ⟨qw,0,none⟩)]) ((fds.take (k+1)).map λf=>Ty.den ts f.2)) (λ_ h=>by rw[HT.o,List.map_append];exact pz h);have H8:=qh h8;clear h5 h6 h7 h8 BP;go_wp2_with fail;go_roundw
     case rel=>exact⟨k+1,.slice (some ⟨g4,0,none⟩) (ps.length+1) fH,ps++[Value.pointer (some ⟨qw,0,none⟩)],by go_num,by omega,by simp;omega,by simp;omega,H8.o⟩
     case measure=>simp[intOf];omega
   ·have pw:k=fds.length:=by omega
    have h2:=(hS.out.nil 107 1).jR (P:=fQ [] []) (λ_=>by show br _ [] [];rw[br]);rw[pw,List.take_length]at h2
    have U9:Hq ((fds.map Prod.fst).length=ps.length):=by show _= _;simp;omega
    have H2:=qh h2;have x0:=h2.cell 1 2;clear h2 pw hS;go_wp2_with fail;go_loopw [45] (λi wr=>∃(j:Nat)(lv:Value)(ls:List Value),i=.int .i64 j/\j<=bS.length/\ls.length<=j/\j<=ls.length/\Hq (Sat w wr [bY w,ax w.heap.size (.cells #[.int .i64 kd,.slice fa fds.length fc,.slice la bS.length lc,.int .i64 of] 69 (0,0)),ax (w.heap.size+1) (.cells #[.int .i64 (kd:Nat),.slice pa ps.length pc,lv,.pointer none] 219 (0,0)),Prt.row 221 2 (.slice pa ps.length pc) ps.length (cP (fds.map Prod.fst) ps),fQ ps (fds.map λf=>Ty.den ts f.2),Prt.row 107 1 lv ls.length ls,fQ ls ((bS.take j).map (Ty.den ts))]))
     (λi _=>bS.length-(intOf i).toNat)
    case atStart=>exact⟨0,.slice none 0 0,[],rfl,by omega,by simp,by simp,H2.o⟩
    case round=>
     obtain⟨j,lv,ls,rfl,hj,aeV,LZ,hS⟩:=hrel;obtain⟨qa,qc,rfl⟩:=ag (hS.out.row 5);by_cases bz:j<bS.length
     ·have hb:=hS.out.aS;obtain⟨gl,nK,e,rE,d0⟩:=ints_at (ay fG.o hb) j bz;cases e;have TE:=Ll.o.list bS[j] (gM _);have HT:=qh (List.take_succ_eq_append_getElem bz);have xp:=(XW.o.below hb).below ((bR wr.heap.size wr).drew);have ER:=qh (HC.o bS[j] TE _ xp);generalize bS[j]=ix at*
      have x1:=hS.out.cell 2 2;have H0:=qh hS.out.drew;clear hb xp hS;go_wp2_with fail;go_region_law(first|(go_simp;go_at_call 241;refine ER.o _ (λp w2 h2=>?_);obtain⟨qw,rfl,_⟩:=e_ (h2.tree 1 rfl);have h3:=H0.o.join h2;have x3:=h3.cell 2 2;have Vb:=h3.aU (.cells #[.pointer (some ⟨qw,0,none⟩)] 107);have x4:=Vb.cell 2 2;have H3:=qh h3;clear h2 h3 Vb)|(go_loud(refine step_append_lies _ (by rfl) _ _ _ (by rfl) 0 107 j0 _ 1 8 underlying104 tj uA uI uy rfl (by omega) (.slice qa ls.length qc) ls.length ls (by rfl) ((H3.o.row 5).alloc _) ⟨w2.heap.size,0,none⟩ 1 1 [.pointer (some ⟨qw,0,none⟩)] (by rfl) (by rfl) (World.news_of_block (cs:=#[.pointer (some ⟨qw,0,none⟩)]) (t:=107) (fr:=(0,0)) (aC _ _ _ (by simp))) (by simp[Value.oneCell']) (by omega) (by unfold maxLen;omega) (by omega) (by simp) (w2.heap.size+1) (by simp) ?_);intro g4 fH w4 cy bD gV o_;have h4:=Sat.grow (H3.o.aU _) 5 rfl bD cy (by simpa using gV);have x5:=h4.cell 2 2;have f5:=h4.free 2 rfl 2;have H4:=qh h4;clear h4))
      all_goals
       clear cy bD;have h5:=(H4.o.store 2 rfl 2 (.slice (some ⟨g4,0,none⟩) (ls.length+1) fH))
       have h6:=h5.cQ (i:=5) rfl (Q:=Prt.row 107 1 (.slice (some ⟨g4,0,none⟩) (ls.length+1) fH) (ls++[Value.pointer (some ⟨qw,0,none⟩)]).length (ls++[Value.pointer (some ⟨qw,0,none⟩)])) (λ_ h=>kR h);have h7:=Sat.pack (L:=[_,_,_,_,_,_]) (M:=[_,_]) h6;have h8:=h7.cQ (i:=6) rfl (Q:=fQ (ls++[Value.pointer (some ⟨qw,0,none⟩)]) ((bS.take (j+1)).map (Ty.den ts))) (λ_ h=>by rw[HT.o,List.map_append];exact pz h);have H8:=qh h8;clear h5 h6 h7 h8;go_wp2_with fail;go_roundw
       case rel=>exact⟨j+1,.slice (some ⟨g4,0,none⟩) (ls.length+1) fH,ls++[Value.pointer (some ⟨qw,0,none⟩)],by go_num,by omega,by simp;omega,by simp;omega,H8.o⟩
       case measure=>simp[intOf];omega
     ·have pw:j=bS.length:=by omega
      have h2:=hS.out;rw[pw,List.take_length]at h2
      have H2:=qh h2;have x0:=h2.cell 1 0;have x3:=h2.cell 1 3;have hb:=h2.aS;have xp:=XW.o.below hb;clear h2 pw hS;have Kj: ((kd:Int)==8)=true\/((kd:Int)==8)=false/\((kd:Int)==9)=true\/(((kd:Int)==8)=false/\((kd:Int)==9)=false)/\¬(kd=8\/kd=9):=by
       by_cases e8:kd=8
       ·left;simp[e8]
       ·by_cases e9:kd=9
        ·right;left;simp[e9]
        ·right;right;simp;omega
      rcases Kj with k8|⟨k8,k9⟩|⟨⟨k8,k9⟩,qq⟩
      ·have sB:kd=8\/kd=9:=.inl (by have:=beq_iff_eq.1 k8;omega);have ER:=qh (HC.o of (Ll.o.of sB) wr xp);have HK:=qh sB;clear sB hb xp;go_wp2_with fail;refine ER.o _ (λp w2 h3=>?_);obtain⟨qw,rfl,_⟩:=e_ (h3.tree 1 rfl);have h4:=H2.o.join h3;have f4:=h4.free 2 rfl;have z4:=h4.cell 2 3;have H4:=qh h4;clear h3 h4;go_wp2_with fail;have h5:=(H4.o.store 2 rfl 3 (.pointer (some ⟨qw,0,none⟩))).cQ (i:=7) rfl (Q:=fQ [Value.pointer (some ⟨qw,0,none⟩)] [Ty.den ts of]) (λ_ h=>by show br _ [_] [_];rw[br];exact⟨_,[],rfl,h,by rw[br]⟩);have h6:=Sat.pack (L:=[_]) (M:=[_,_,_,_,_,_]) (h5.pick [0,2,3,4,5,6,7]);refine HR.o _ _ (h6.cQ (i:=1) rfl λ_ h=>?_);rw[TA.o,if_pos HK.o];exact Bi U9.out (.inr rfl) h
      ·have sB:kd=8\/kd=9:=.inr (by have:=beq_iff_eq.1 k9;omega);have ER:=qh (HC.o of (Ll.o.of sB) wr xp);have HK:=qh sB;clear sB hb xp;go_wp2_with fail;refine ER.o _ (λp w2 h3=>?_);obtain⟨qw,rfl,_⟩:=e_ (h3.tree 1 rfl);have h4:=H2.o.join h3;have f4:=h4.free 2 rfl;have z4:=h4.cell 2 3;have H4:=qh h4;clear h3 h4;go_wp2_with fail;have h5:=(H4.o.store 2 rfl 3 (.pointer (some ⟨qw,0,none⟩))).cQ (i:=7) rfl (Q:=fQ [Value.pointer (some ⟨qw,0,none⟩)] [Ty.den ts of]) (λ_ h=>by show br _ [_] [_];rw[br];exact⟨_,[],rfl,h,by rw[br]⟩);have h6:=Sat.pack (L:=[_]) (M:=[_,_,_,_,_,_]) (h5.pick [0,2,3,4,5,6,7]);refine HR.o _ _ (h6.cQ (i:=1) rfl λ_ h=>?_);rw[TA.o,if_pos HK.o];exact Bi U9.out (.inr rfl) h
      ·have HK:=qh qq;clear hb xp qq;go_wp2_with fail;have h5:=H2.o.jR (P:=fQ [] []) (λ_=>by show br _ [] [];rw[br]);have h6:=Sat.pack (L:=[_]) (M:=[_,_,_,_,_,_]) (h5.pick [0,2,3,4,5,6,7]);refine HR.o _ _ (h6.cQ (i:=1) rfl λ_ h=>?_);rw[TA.o,if_neg HK.o];exact Bi U9.out (.inl ⟨rfl,rfl⟩) h
theorem TP{w:World}{v:Value}{l:List BA}(h:w.ownsRow 0 9 1 v l.length (l.map Value.string))(k:Nat)(hk:k<l.length):∃g cap:Nat,v=.slice (some ⟨g,0,none⟩) l.length cap/\g<w.heap.size/\w.cell? ⟨g,k,none⟩=some (.string l[k]):=by
 obtain⟨g,cap,rfl,_,hg⟩:=h.form (by omega);refine⟨g,cap,rfl,hg,?_⟩;have:=World.ownsRow.cells h (g:=g) rfl k (.string l[k]) (by simp[hk]);rwa [Addr.add_lit,Nat.zero_add]at this
theorem js{w:World}{k:Nat}{names:List BA}{parts list of:List Tr}{p:Value}(h:rep (Prt.hp w) (.mk k names parts list of) p):
  ∃(b:Nat)(pv lv ov:Value)(ps ls os:List Value),p=.pointer (some ⟨b,0,none⟩)/\b<w.heap.size/\w.cell? ⟨b,0,none⟩=some (.int .i64 (k:Nat))/\w.cell? ⟨b,1,none⟩=some pv/\w.cell? ⟨b,2,none⟩=some lv/\w.cell? ⟨b,3,none⟩=some ov/\
   w.ownsRow 0 221 2 pv ps.length (cP names ps)/\names.length=ps.length/\br (Prt.hp w) parts ps/\w.ownsRow 0 107 1 lv ls.length ls/\br (Prt.hp w) list ls/\br (Prt.hp w) of os/\(os=[]/\ov=.pointer none\/os=[ov]):=by
 rw[rep]at h
 obtain⟨b,pv,lv,ov,ps,ls,os,h1,h2,h3,h4,h5,h6,h7,h8,h9⟩:=h;have hb:w.heap[b]?=some (.cells #[.int .i64 (k:Nat),pv,lv,ov] 219 (0,0)):=h2;exact⟨b,pv,lv,ov,ps,ls,os,h1,(Array.getElem?_eq_some_iff.1 hb).1,by rw[cell_of_block hb];rfl,by rw[cell_of_block hb];rfl,by rw[cell_of_block hb];rfl,by rw[cell_of_block hb];rfl,iR h3,h4,h5,iR h6,h7,h8,h9⟩
theorem iD{w:World}{v:Value}{ls:List Value}(h:w.ownsRow 0 107 1 v ls.length ls)(k:Nat)(hk:k<ls.length):∃g cap:Nat,v=.slice (some ⟨g,0,none⟩) ls.length cap/\g<w.heap.size/\w.cell? ⟨g,k,none⟩=some ls[k]:=by
 obtain⟨g,cap,rfl,_,hg⟩:=h.form (by omega);refine⟨g,cap,rfl,hg,?_⟩;have:=World.ownsRow.cells h (g:=g) rfl k ls[k] (by simp[hk]);rwa [Addr.add_lit,Nat.zero_add]at this
end
section
open Ty (Tr bn bE bg)
theorem Nj(w:World)(v:Value)(ls:List Value)(cg:w.ownsRow 0 107 1 v ls.length ls)(hl:ls.length<=1000000)(F:FuncId)(c:Value)(hc:∀(args:Array Value)(w:World),(callFunc F args).run prog w=.ok (.enter F args) w)
  (f:Nat->Bool) (mf:∀j(hj:j<ls.length) w1,Below w.heap.size w w1->∀R:EW,(∀w2,Below w1.heap.size w1 w2->R (.returned (.bool (f j))) w2)->Calls prog F #[ls[j],c] w1 R) {R:EW}
  (vK:∀(r:Nat) w',Below w.heap.size w w'->bn f ls.length=true->r<=1000000->R (.returned (.int .i64 r)) w') (qq:∀w',Below w.heap.size w w'->bn f ls.length=false->R (.returned (.int .i64 (-1))) w'):
  Calls prog 326 #[v,.func (.func F) #[] #[c]] w R:=by
 obtain⟨la,lc,rfl⟩:=ag cg;go_in;go_wp2;go_loopw [8] (λi wr=>∃k:Nat,k<=ls.length/\i=.int .i64 k/\Hq (Below w.heap.size w wr)/\Hq (∀j,j<k->f j=false)) (λi _=>ls.length-(intOf i).toNat)
 case atStart=>exact⟨0,by omega,rfl,bR _ _,λj hj=>by omega⟩
 case round=>
  obtain⟨k,hk,rfl,hb,hf⟩:=hrel;by_cases bz:k<ls.length
  ·obtain⟨gl,nK,e,rE,d0⟩:=iD (ay cg hb.out) k bz;cases e;have HI:=qh (mf k bz wr hb.out);have HT:=qh (λh:f k=true=>(bE (f:=f)).2 ⟨k,bz,h⟩);have HN:Hq (f k=false->∀j,j<k+1->f j=false):=λh j hj=>by
    by_cases Lj:j=k
    ·subst Lj;exact h
    ·exact hf.out j (by omega)
   generalize f k=fk at*
   generalize ls[k]=p at*
   go_wp2_with fail;refine HI.o _ (λw2 aW=>?_);have fG:=qh (hb.out.trans (aW.mono hb.out.size));cases fk
   ·have LG:=qh (HN.o rfl);go_wp2;go_roundw
    case rel=>exact⟨k+1,by omega,by go_num,fG,LG⟩
    case measure=>simp[intOf];omega
   ·have KJ:=qh (HT.o rfl);go_wp2;exact vK k _ fG.o KJ.o (by omega)
  ·have pw:k=ls.length:=by omega
   have HN:Hq (bn f ls.length=false):=bg.2 (by rw[<-pw];exact hf.out);go_wp2;exact qq _ hb.out HN.o
theorem we(w:World)(v:Value)(ls:List Value)(cg:w.ownsRow 0 107 1 v ls.length ls)(hl:ls.length<=1000000)(F:FuncId)(c:Value)(hc:∀(args:Array Value)(w:World),(callFunc F args).run prog w=.ok (.enter F args) w)
  (f:Nat->Bool) (mf:∀j(hj:j<ls.length) w1,Below w.heap.size w w1->∀R:EW,(∀w2,Below w1.heap.size w1 w2->R (.returned (.bool (f j))) w2)->Calls prog F #[ls[j],c] w1 R) {R:EW}
  (hR:∀w',Below w.heap.size w w'->R (.returned (.bool (bn f ls.length))) w'):
  Calls prog 299 #[v,.func (.func F) #[] #[c]] w R:=by
 have HR:=qh hR;have HX:=qh (λR h1 h2=>@Nj w v ls cg hl F c hc f mf R h1 h2);go_in;go_wp2_with fail;refine HX.o _ (λr w1 hb ha hr=>?_) (λw1 hb ha=>?_)
 ·rw[ha]at HR
  have HB:=qh hb;clear ha hb;go_wp2_with fail;exact HR.o _ HB.o
 ·rw[ha]at HR
  have HB:=qh hb;clear ha hb;go_wp2_with fail;exact HR.o _ HB.o
theorem Ij:∀(ns:List BA)(ps:List Value)(k:Nat)(h1:k<ns.length)(h2:k<ps.length),(cP ns ps)[k*2]?=some (.string ns[k])/\(cP ns ps)[k*2+1]?=some ps[k]
 |[],_,k,h1,_=>by simp at h1
 | _:: _,[],k,_,h2=>by simp at h2
 |n::ns,p::ps,0,_,_=>by simp[cP]
 |n::ns,p::ps,k+1,h1,h2=>by
  have:=Ij ns ps k (by simpa using h1) (by simpa using h2);simp only[cP,List.getElem_cons_succ];rw[show(k+1)*2=k*2+1+1 by omega,show k*2+1+1+1=(k*2+1)+1+1 by omega]
  simpa using this
theorem xq{w:World}{v:Value}{ns:List BA}{ps:List Value}(h:w.ownsRow 0 221 2 v ps.length (cP ns ps))(hn:ns.length=ps.length)(k:Nat)(hk:k<ps.length):∃g cap:Nat,v=.slice (some ⟨g,0,none⟩) ps.length cap/\g<w.heap.size/\w.cell? ⟨g,k*2,none⟩=some (.string (ns[k]'(by omega)))/\w.cell? ⟨g,k*2+1,none⟩=some ps[k]:=by
 obtain⟨g,cap,rfl,_,hg⟩:=h.form (by omega);obtain⟨k1,k2⟩:=Ij ns ps k (by omega) hk;refine⟨g,cap,rfl,hg,?_,?_⟩
 ·have:=World.ownsRow.cells h (g:=g) rfl _ _ k1;rwa [Addr.add_lit,Nat.zero_add]at this
 ·have:=World.ownsRow.cells h (g:=g) rfl _ _ k2;rwa [Addr.add_lit,Nat.zero_add]at this
theorem MG(w:World)(v:Value)(ns:List BA)(ps:List Value)(cg:w.ownsRow 0 221 2 v ps.length (cP ns ps))(hn:ns.length=ps.length)(hl:ps.length<=1000000)(F:FuncId)(c:Value)(hc:∀(args:Array Value)(w:World),(callFunc F args).run prog w=.ok (.enter F args) w)
  (f:Nat->Bool) (mf:∀j(hj:j<ps.length) w1,Below w.heap.size w w1->∀R:EW,(∀w2,Below w1.heap.size w1 w2->R (.returned (.bool (f j))) w2)->Calls prog F #[.agg #[.string (ns[j]'(by omega)),ps[j]],c] w1 R) {R:EW}
  (vK:∀(r:Nat) w',Below w.heap.size w w'->bn f ps.length=true->r<=1000000->R (.returned (.int .i64 r)) w') (qq:∀w',Below w.heap.size w w'->bn f ps.length=false->R (.returned (.int .i64 (-1))) w'):
  Calls prog 327 #[v,.func (.func F) #[] #[c]] w R:=by
 obtain⟨la,lc,rfl⟩:=ag cg;go_in;go_wp2;go_loopw [8] (λi wr=>∃k:Nat,k<=ps.length/\i=.int .i64 k/\Hq (Below w.heap.size w wr)/\Hq (∀j,j<k->f j=false)) (λi _=>ps.length-(intOf i).toNat)
 case atStart=>exact⟨0,by omega,rfl,bR _ _,λj hj=>by omega⟩
 case round=>
  obtain⟨k,hk,rfl,hb,hf⟩:=hrel;by_cases bz:k<ps.length
  ·obtain⟨gl,nK,e,rE,d0,d1⟩:=xq (ay cg hb.out) hn k bz;cases e;have HI:=qh (mf k bz wr hb.out);have HT:=qh (λh:f k=true=>(bE (f:=f)).2 ⟨k,bz,h⟩);have HN:Hq (f k=false->∀j,j<k+1->f j=false):=λh j hj=>by
    by_cases Lj:j=k
    ·subst Lj;exact h
    ·exact hf.out j (by omega)
   generalize f k=fk at*
   generalize ps[k]=p at*
   have lW:k<ns.length:=by have:=hn;omega
   obtain⟨nm,xM⟩:∃x,x=ns[k]'lW:=⟨_,rfl⟩
   rw[<-xM]at d0 HI
   clear xM;go_wp2_with fail;refine HI.o _ (λw2 aW=>?_);have fG:=qh (hb.out.trans (aW.mono hb.out.size));clear aW;cases fk
   ·have LG:=qh (HN.o rfl);go_wp2_with fail;go_roundw
    case rel=>exact⟨k+1,by omega,by go_num,fG,LG⟩
    case measure=>simp[intOf];omega
   ·have KJ:=qh (HT.o rfl);go_wp2_with fail;exact vK k _ fG.o KJ.o (by omega)
  ·have pw:k=ps.length:=by omega
   have HN:Hq (bn f ps.length=false):=bg.2 (by rw[<-pw];exact hf.out);clear pw;go_wp2_with fail;exact qq _ hb.out HN.o
theorem My(w:World)(v:Value)(ns:List BA)(ps:List Value)(cg:w.ownsRow 0 221 2 v ps.length (cP ns ps))(hn:ns.length=ps.length)(hl:ps.length<=1000000)(F:FuncId)(c:Value)(hc:∀(args:Array Value)(w:World),(callFunc F args).run prog w=.ok (.enter F args) w)
  (f:Nat->Bool) (mf:∀j(hj:j<ps.length) w1,Below w.heap.size w w1->∀R:EW,(∀w2,Below w1.heap.size w1 w2->R (.returned (.bool (f j))) w2)->Calls prog F #[.agg #[.string (ns[j]'(by omega)),ps[j]],c] w1 R) {R:EW}
  (hR:∀w',Below w.heap.size w w'->R (.returned (.bool (bn f ps.length))) w'):
  Calls prog 305 #[v,.func (.func F) #[] #[c]] w R:=by
 have HR:=qh hR;have HX:=qh (λR h1 h2=>@MG w v ns ps cg hn hl F c hc f mf R h1 h2);go_in;go_wp2_with fail;refine HX.o _ (λr w1 hb ha hr=>?_) (λw1 hb ha=>?_)
 ·rw[ha]at HR
  have HB:=qh hb;clear ha hb;go_wp2_with fail;exact HR.o _ HB.o
 ·rw[ha]at HR
  have HB:=qh hb;clear ha hb;go_wp2_with fail;exact HR.o _ HB.o
theorem BM{h:Prt.Hp}(x:BA):∀{parts:List Tr}{ps:List Value}(names:List BA),br h parts ps->match Ty.part names parts x with
  |none=>Ty.part names ps x=none
  |some t=>∃q,Ty.part names ps x=some q/\rep h t q
 |[],ps,names,hr=>by
  rw[br]at hr;subst hr
  cases names<;>rfl
 |t::parts,ps,[],hr=>by
  rw[br]at hr
  obtain⟨p,Fy,rfl,h1,h2⟩:=hr;rfl
 |t::parts,ps,n::names,hr=>by
  rw[br]at hr
  obtain⟨p,Fy,rfl,h1,h2⟩:=hr;rw[Ty.part,Ty.part];by_cases yZ:n=x
  ·rw[if_pos yZ,if_pos yZ];exact⟨p,rfl,h1⟩
  ·rw[if_neg yZ,if_neg yZ];exact BM x names h2
theorem JL{α:Type}(names:List BA)(l:List α)(x:BA)(k:Nat)(h1:k<names.length)(h2:k<l.length):Ty.part (names.drop k) (l.drop k) x=if names[k]=x then some l[k]else Ty.part (names.drop (k+1)) (l.drop (k+1)) x:=by
 rw[List.drop_eq_getElem_cons h1,List.drop_eq_getElem_cons h2,Ty.part]
theorem ny{w:World}{h0:Prt.Hp}(hle:Prt.le h0 (Prt.hp w)){k:Nat}{names:List BA}{parts list of:List Tr}{p:Value}(h:rep h0 (.mk k names parts list of) p):
  ∃(b:Nat)(pv lv ov:Value)(ps ls os:List Value),p=.pointer (some ⟨b,0,none⟩)/\b<w.heap.size/\w.cell? ⟨b,0,none⟩=some (.int .i64 (k:Nat))/\w.cell? ⟨b,1,none⟩=some pv/\w.cell? ⟨b,2,none⟩=some lv/\w.cell? ⟨b,3,none⟩=some ov/\
   w.ownsRow 0 221 2 pv ps.length (cP names ps)/\names.length=ps.length/\br h0 parts ps/\w.ownsRow 0 107 1 lv ls.length ls/\br h0 list ls/\br h0 of os/\(os=[]/\ov=.pointer none\/os=[ov]):=by
 rw[rep]at h
 obtain⟨b,pv,lv,ov,ps,ls,os,h1,h2,h3,h4,h5,h6,h7,h8,h9⟩:=h;have hb:w.heap[b]?=some (.cells #[.int .i64 (k:Nat),pv,lv,ov] 219 (0,0)):=hle _ _ h2;exact⟨b,pv,lv,ov,ps,ls,os,h1,(Array.getElem?_eq_some_iff.1 hb).1,by rw[cell_of_block hb];rfl,by rw[cell_of_block hb];rfl,by rw[cell_of_block hb];rfl,by rw[cell_of_block hb];rfl,iR (iQ h3 hle),h4,h5,iR (iQ h6 hle),h7,h8,h9⟩
theorem zF(w0 w:World){h0:Prt.Hp}(Ab:Prt.le h0 (Prt.hp w0))(xO:Below w0.heap.size w0 w)(t:Tr)(p:Value)(qj:rep h0 t p)(aD:eu t)(x:BA){R:EW}
  (hR:∀q w',Below w.heap.size w w'->(match t with| .mk _ names parts _ _=>match Ty.part names parts x with|none=>q=.pointer none|some u=>rep h0 u q)->R (.returned q) w'):
  Calls prog 297 #[p,.string x] w R:=by
 obtain⟨k,names,parts,list,of⟩:=t;obtain⟨b,pv,lv,ov,ps,ls,os,rfl,hb,c0,c1,c2,c3,cg,hn,kp,_⟩:=ny Ab qj;replace c0:=(xO.cell (p:=⟨b,0,none⟩) hb).trans c0;replace c1:=(xO.cell (p:=⟨b,1,none⟩) hb).trans c1;replace c2:=(xO.cell (p:=⟨b,2,none⟩) hb).trans c2;replace c3:=(xO.cell (p:=⟨b,3,none⟩) hb).trans c3;replace hb:b<w.heap.size:=nL hb xO.size;replace cg:=ay cg xO;rw[eu]at aD
 obtain⟨la,lc,rfl⟩:=ag cg;have KQ:Hq (∀j(hj:j<ps.length),∃pb,ps[j]=.pointer (some ⟨pb,0,none⟩)):=λj hj=>by
  obtain⟨pb,e,_⟩:=e_ (dn kp j (by omega) hj);exact⟨pb,e⟩
 have Yj:=qh (λq w'(hb:Below w.heap.size w w')(h: (match Ty.part names ps x with|none=>q=.pointer none|some u=>q=u))=>hR q w' hb (by
  have h2:=BM x names kp;dsimp only;cases hp:Ty.part names parts x with
  |none=>rw[hp]at h2;rw[h2]at h;exact h
  |some u=>
   rw[hp]at h2
   obtain⟨q',h3,h4⟩:=h2;rw[h3]at h
   dsimp only at h⊢;rw[h];exact h4))
 go_in;go_wp2;go_loopw [12] (λi wr=>∃k:Nat,k<=ps.length/\i=.int .i64 k/\Hq (Below w.heap.size w wr)/\Hq (Ty.part names ps x=Ty.part (names.drop k) (ps.drop k) x)) (λi _=>ps.length-(intOf i).toNat)
 case atStart=>exact⟨0,by omega,rfl,bR _ _,rfl⟩
 case round=>
  obtain⟨k,hk,rfl,hb,hE⟩:=hrel;by_cases bz:k<ps.length
  ·obtain⟨gl,nK,e,rE,d0,d1⟩:=xq (ay cg hb.out) hn k bz;cases e;have lW:k<names.length:=by have:=hn;omega
   have ia:Hq (Ty.part names ps x=if names[k]=x then some ps[k]else Ty.part (names.drop (k+1)) (ps.drop (k+1)) x):=by show _= _;rw[hE.out,JL names ps x k lW bz]
   obtain⟨pb,TT⟩:=KQ.o k bz;rw[TT]at d1 ia
   generalize names[k]=nm at*
   go_wp2_with fail
   ·have h: (nm.toList==x.toList)=true:=by assumption
    refine Yj.o _ _ (hb.out.trans ((bR wr.heap.size wr).alloc (nR _) _|>.mono hb.out.size)) ?_;rw[ia.o,if_pos ((yJ _ _).1 h)];rfl
   ·have h: (nm.toList==x.toList)=false:=by assumption
    have jK:Hq (Ty.part names ps x=Ty.part (names.drop (k+1)) (ps.drop (k+1)) x):=by show _= _;rw[ia.o,if_neg (MC _ _ h)]
    go_roundw
    case rel=>exact⟨k+1,by omega,by go_num,hb.out.trans ((bR wr.heap.size wr).alloc (nR _) _|>.mono hb.out.size),jK⟩
    case measure=>simp[intOf];omega
  ·have ia:Hq (Ty.part names ps x=none):=by show _= _;rw[hE.out,List.drop_eq_nil_of_le (by omega:ps.length<=k)];cases names.drop k<;>rfl
   go_wp2_with fail;refine Yj.o _ _ hb.out ?_;rw[ia.o];rfl
theorem DQ(w0 w:World)(xO:Below w0.heap.size w0 w)(t:Tr)(p:Value)(qj:rep (Prt.hp w0) t p)(aD:eu t)(x:BA){R:EW}
  (hR:∀q w',Below w.heap.size w w'->(match t with| .mk _ names parts _ _=>match Ty.part names parts x with|none=>q=.pointer none|some u=>rep (Prt.hp w0) u q)->R (.returned q) w'):
  Calls prog 297 #[p,.string x] w R:=
 zF w0 w (Prt.le_refl _) xO t p qj aD x hR
theorem CM(w:World)(v1 v2:Value)(l1 l2:List Value)(h1:w.ownsRow 0 107 1 v1 l1.length l1)(h2:w.ownsRow 0 107 1 v2 l2.length l2)(hl:l1.length<=1000000)(F:FuncId)(hc:∀(args:Array Value)(w:World),(callFunc F args).run prog w=.ok (.enter F args) w)
  (f:Nat->Bool) (mf:∀j(hj:j<l1.length)(fK:j<l2.length) w1,Below w.heap.size w w1->∀R:EW,(∀w2,Below w1.heap.size w1 w2->R (.returned (.bool (f j))) w2)->Calls prog F #[l1[j],l2[j]] w1 R) {R:EW}
  (hR:∀w',Below w.heap.size w w'->R (.returned (.bool (decide (l1.length=l2.length)&&!bn (λj=>!f j) l1.length))) w'):
  Calls prog 308 #[v1,v2,.func (.func F) #[] #[]] w R:=by
 have HR:=qh hR;have HC:=qh mf;have H1:=qh h1;have H2:=qh h2;obtain⟨a1,c1,rfl⟩:=ag h1;obtain⟨a2,c2,rfl⟩:=ag h2;clear hR mf h1 h2;by_cases eR:l1.length=l2.length
 ·have k1: ((l1.length:Int) !=l2.length)=false:=by simp[eR]
  have xP:=qh eR;rw[decide_eq_true eR,Bool.true_and]at HR
  clear eR;go_in;go_wp2_with fail;go_loopw [15] (λi wr=>∃k:Nat,k<=l1.length/\i=.int .i64 k/\Hq (Below w.heap.size w wr)/\Hq (∀j,j<k->f j=true)) (λi _=>l1.length-(intOf i).toNat)
  case atStart=>exact⟨0,by omega,rfl,bR _ _,λj hj=>by omega⟩
  case round=>
   obtain⟨k,hk,rfl,hb,hf⟩:=hrel;by_cases bz:k<l1.length
   ·have mV:k<l2.length:=by have:=xP.o;omega
    obtain⟨g1,aay,e,UO,d1⟩:=iD (ay H1.o hb.out) k bz;cases e;obtain⟨g2,ni,e,Kq,d2⟩:=iD (ay H2.o hb.out) k mV;cases e;have HI:=qh (HC.o k bz mV wr.drew (hb.out.drew));have HT:Hq (f k=false->bn (λj=>!f j) l1.length=true):=λh=>bE.2 ⟨k,bz,by simp[h]⟩
    have HN:Hq (f k=true->∀j,j<k+1->f j=true):=λh j hj=>by
     by_cases Lj:j=k
     ·subst Lj;exact h
     ·exact hf.out j (by omega)
    generalize f k=fk at*
    generalize l1[k]=p1 at*
    generalize l2[k]=p2 at*
    go_wp2_with fail;go_region_law(first|(go_simp;refine HI.o _ (λw2 aW=>?_);have fG:=qh ((hb.out.drew).trans (aW.mono (by have:=hb.out.size;simp;omega)));clear aW))
    all_goals
     cases fk
     ·have KJ:=qh (HT.o rfl);rw[KJ.o]at HR
      go_wp2_with fail;exact HR.o _ fG.o
     ·have LG:=qh (HN.o rfl);go_wp2_with fail;go_roundw
      case rel=>exact⟨k+1,by omega,by go_num,fG,LG⟩
      case measure=>simp[intOf];omega
   ·have pw:k=l1.length:=by omega
    have HN:Hq (bn (λj=>!f j) l1.length=false):=bg.2 (λj hj=>by rw[hf.out j (by omega)];rfl);rw[HN.o]at HR
    clear pw;go_wp2_with fail;exact HR.o _ hb.out
 ·have k1: ((l1.length:Int) !=l2.length)=true:=by simp;omega
  rw[decide_eq_false eR,Bool.false_and]at HR
  clear eR;go_in;go_wp2_with fail;exact HR.o _ (bR _ _)
theorem KL{w:World}{B:Nat}{e:TypeId}{a:Option Addr}{n m cap:Nat}{xs:List Value}(h:w.ownsRow B e 1 (.slice a m cap) m xs)(hn:n<=m):w.ownsRow B e 1 (.slice a n cap) n (xs.take n):=by
 obtain⟨h1,h2⟩:=h;refine⟨by simp;omega,?_⟩;rcases h2 with⟨h2,h3⟩|⟨g,x9,cur,h2,h3,h4,h5,h6,h7,h8⟩
 ·cases h2;obtain rfl:n=0:=by omega
  exact .inl ⟨rfl,rfl⟩
 ·cases h2;exact .inr ⟨g,cap,cur,rfl,h3,h4,by omega,h6,h7,by rw[<-h8,List.take_take];congr 1;omega⟩
def qi(p q:Value)(w:World)(r:Bool):Prop:=∀w1,Below w.heap.size w w1->∀R:EW,(∀w2,Below w1.heap.size w1 w2->R (.returned (.bool r)) w2)->Calls prog 249 #[p,q] w1 R
theorem Nb(w w1:World)(bb:Nat)(x q:Value)(r:Bool)(hq:w1.cell? ⟨bb,0,none⟩=some q)(hf:qi x q w r)(hb:Below w.heap.size w w1){R:EW}(hR:∀w2,Below w1.heap.size w1 w2->R (.returned (.bool (!r))) w2):
  Calls prog 303 #[x,.pointer (some ⟨bb,0,none⟩)] w1 R:=by
 have HR:=qh hR;have HF:=qh (hf w1 hb);clear hR hf hb;go_in;go_wp2_with fail;refine HF.o _ (λw2 aW=>?_);go_wp2;exact HR.o _ aW
theorem OT(w w1:World)(bb:Nat)(x q:Value)(r:Bool)(hq:w1.cell? ⟨bb,0,none⟩=some q)(hf:qi q x w r)(hb:Below w.heap.size w w1){R:EW}(hR:∀w2,Below w1.heap.size w1 w2->R (.returned (.bool r)) w2):
  Calls prog 304 #[x,.pointer (some ⟨bb,0,none⟩)] w1 R:=by
 have HR:=qh hR;have HF:=qh (hf w1 hb);clear hR hf hb;go_in;go_wp2_with fail;refine HF.o _ (λw2 aW=>?_);go_wp2;exact HR.o _ aW
theorem LL(w w1:World)(x y:Value)(r1 r2:Bool)(h1:qi x y w r1)(h2:qi y x w r2)(hb:Below w.heap.size w w1){R:EW}(hR:∀w2,Below w1.heap.size w1 w2->R (.returned (.bool (r1||r2))) w2):
  Calls prog 307 #[x,y] w1 R:=by
 have HR:=qh hR;have HF:=qh (h1 w1 hb);have HG:=qh (λw2(aW:Below w1.heap.size w1 w2)=>h2 w2 (hb.trans (aW.mono hb.size)));clear hR h1 h2 hb;go_in;go_wp2_with fail;refine HF.o _ (λw2 aW=>?_);cases r1
 ·skip
  go_wp2_with fail;refine HG.o _ aW _ (λw3 cZ=>?_);have qd:=qh (aW.trans (cZ.mono aW.size));clear cZ;go_wp2_with fail;exact HR.o _ qd.o
 ·skip
  go_wp2_with fail;exact HR.o _ aW
theorem Mq(w w1:World)(bb:Nat)(t:Tr)(p:Value)(nm:BA)(pq:Nat)(r:Tr->Bool)(hq:w1.cell? ⟨bb,0,none⟩=some p)(fF:bb<w1.heap.size)(qj:rep (Prt.hp w) t p)(aD:eu t)(hf:∀u q,Ty.part (cC t) (Ty.partsOf t) nm=some u->rep (Prt.hp w) u q->qi q (.pointer (some ⟨pq,0,none⟩)) w (r u))(hb:Below w.heap.size w w1){R:EW}
  (hR:∀w2,Below w1.heap.size w1 w2->R (.returned (.bool (match Ty.part (cC t) (Ty.partsOf t) nm with|none=>true|some u=>!r u))) w2):
  Calls prog 306 #[.agg #[.string nm,.pointer (some ⟨pq,0,none⟩)],.pointer (some ⟨bb,0,none⟩)] w1 R:=by
 have HR:=qh hR;have cd:=hb.trans ((bR w1.heap.size w1).alloc (nR _) (.cells #[.string nm,.pointer (some ⟨pq,0,none⟩)] 221)|>.mono hb.size);obtain⟨k,names,parts,list,of⟩:=t;have hz:=hb.size;clear hR;go_in;go_wp2_with fail;refine DQ w _ cd _ p qj aD nm (λq w2 aW LZ=>?_);dsimp only[cC,Ty.partsOf]at HR hf LZ;have d0:w2.cell? ⟨w1.heap.size,1,none⟩=some (.pointer (some ⟨pq,0,none⟩)):=by
  rw[aW.cell (p:=⟨w1.heap.size,1,none⟩) (by simp),cell_of_block (heap_alloc_new w1 _)];rfl
 have cZ:Below w1.heap.size w1 w2:=((bR w1.heap.size w1).alloc (nR _) _).trans (aW.mono (by simp));have qd:=qh cZ;cases hp:Ty.part names parts nm with
 |none=>
  rw[hp]at LZ HR
  dsimp only at LZ HR;subst LZ;clear aW cZ hp;go_wp2_with fail;exact HR.o _ qd.o
 |some u=>
  rw[hp]at LZ HR
  dsimp only at LZ HR;obtain⟨pu,rfl,_⟩:=e_ LZ;have qW:=cd.trans (aW.mono (by simp;omega))
  --the part's tree was there ahead of the call
  have hold:=LZ;have HC:=qh (hf u _ hp hold w2 qW);clear aW cZ hp qW hold LZ;go_wp2_with fail;refine HC.o _ (λw5 od=>?_);have Up:=qh (qd.o.trans (od.mono qd.o.size));clear od;go_wp2_with fail;exact HR.o _ Up.o
theorem bG(w:World)(x y:Obj):Below w.heap.size w ((w.alloc x).alloc y):=((bR w.heap.size w).alloc (nR _) x).alloc (by simp) y
abbrev wv(p q:Value)(w:World)(R:EW):Prop:=Calls prog 249 #[p,q] w R
def ph(w:World)(r:Bool)(R:EW):Prop:=∀w',Below w.heap.size w w'->R (.returned (.bool r)) w'
def cX(w:World)(b k:Nat):Prop:=b<w.heap.size/\w.cell? ⟨b,0,none⟩=some (.int .i64 (k:Nat))
theorem int_ne{a b:Nat}(h:a≠b): ((a:Int)==(b:Int))=false:=by simp;omega
theorem Qj(w:World)(ba bb ka kb:Nat)(hA:cX w ba ka)(hB:cX w bb kb)(h:ka=5\/kb=5\/kb=6){R:EW}(hR:ph w true R):
  wv (.pointer (some ⟨ba,0,none⟩)) (.pointer (some ⟨bb,0,none⟩)) w R:=by
 have HR:=qh hR;obtain⟨yj,c0⟩:=hA;obtain⟨fF,e0⟩:=hB;clear hR;by_cases h1:ka=5
 ·subst h1;clear h;go_enter func249,ntmps249;go_wp2_with fail;exact HR.o _ (bG w _ _)
 ·have n1: ((ka:Int)==5)=false:=int_ne h1;by_cases h2:kb=5
  ·subst h2;clear h h1;go_enter func249,ntmps249;go_wp2_with fail;exact HR.o _ (bG w _ _)
  ·obtain rfl:kb=6:=by omega
   clear h h1 h2;go_enter func249,ntmps249;go_wp2_with fail;exact HR.o _ (bG w _ _)
theorem Ts(w:World)(ba bb kb:Nat)(hA:cX w ba 10)(hB:cX w bb kb)(h5:kb≠5)(h6:kb≠6)(lv:Value)(c2:w.cell? ⟨ba,2,none⟩=some lv)(r:Bool)
  (hx:∀w2,w2.cell? ⟨w.heap.size+1,0,none⟩=some (.pointer (some ⟨bb,0,none⟩))->Below w.heap.size w w2->∀R:EW,(∀w',Below w2.heap.size w2 w'->R (.returned (.bool r)) w')->Calls prog 299 #[lv,.func (.func 303) #[] #[.pointer (some ⟨w.heap.size+1,0,none⟩)]] w2 R)
  {R:EW} (hR:ph w (!r) R):
  wv (.pointer (some ⟨ba,0,none⟩)) (.pointer (some ⟨bb,0,none⟩)) w R:=by
 have HR:=qh hR;have HX:=qh hx;obtain⟨yj,c0⟩:=hA;obtain⟨fF,e0⟩:=hB;have n1: ((kb:Int)==5)=false:=int_ne h5;have n2: ((kb:Int)==6)=false:=int_ne h6;clear hR hx h5 h6;go_enter func249,ntmps249;go_wp2_with fail;refine HX.o _ (by rw[cell_of_block (aC _ _ _ (by simp))];rfl) (bG w _ _) _ (λw3 cZ=>?_);have HB:=qh ((bG w _ _).trans (cZ.mono (by simp;omega)));clear cZ;go_wp2_with fail;exact HR.o _ HB.o
theorem TI(w:World)(ba bb ka:Nat)(hA:cX w ba ka)(hB:cX w bb 10)(h5:ka≠5)(fs:ka≠10)(lv:Value)(c2:w.cell? ⟨bb,2,none⟩=some lv)(r:Bool)
  (hx:∀w2,w2.cell? ⟨w.heap.size,0,none⟩=some (.pointer (some ⟨ba,0,none⟩))->Below w.heap.size w w2->∀R:EW,(∀w',Below w2.heap.size w2 w'->R (.returned (.bool r)) w')->Calls prog 299 #[lv,.func (.func 304) #[] #[.pointer (some ⟨w.heap.size,0,none⟩)]] w2 R)
  {R:EW} (hR:ph w r R):
  wv (.pointer (some ⟨ba,0,none⟩)) (.pointer (some ⟨bb,0,none⟩)) w R:=by
 have HR:=qh hR;have HX:=qh hx;obtain⟨yj,c0⟩:=hA;obtain⟨fF,e0⟩:=hB;have n1: ((ka:Int)==5)=false:=int_ne h5;have n2: ((ka:Int)==10)=false:=int_ne fs;clear hR hx h5 fs;go_enter func249,ntmps249;go_wp2_with fail;refine HX.o _ (by rw[cell_of_block ((heap_alloc_old _ _ (by simp)).trans (heap_alloc_new w _))];rfl) (bG w _ _) _ (λw3 cZ=>?_);have HB:=qh ((bG w _ _).trans (cZ.mono (by simp;omega)));clear cZ;go_wp2_with fail;exact HR.o _ HB.o
def Deep(k:Nat):Prop:=k≠5/\k≠6/\k≠10
theorem X4(w:World)(ba bb ka kb:Nat)(hA:cX w ba ka)(hB:cX w bb kb)(h1:ka≠5)(h2:ka≠10)(h3:Deep kb)(eR:ka≠kb){R:EW}(hR:ph w false R):
  wv (.pointer (some ⟨ba,0,none⟩)) (.pointer (some ⟨bb,0,none⟩)) w R:=by
 have HR:=qh hR;obtain⟨yj,c0⟩:=hA;obtain⟨fF,e0⟩:=hB;have n1: ((ka:Int)==5)=false:=int_ne h1;have n2: ((ka:Int)==10)=false:=int_ne h2;have n3: ((kb:Int)==5)=false:=int_ne h3.1;have n4: ((kb:Int)==6)=false:=int_ne h3.2.1;have n5: ((kb:Int)==10)=false:=int_ne h3.2.2;have n6: ((ka:Int) !=kb)=true:=by simp;omega
 clear hR h1 h2 h3 eR;go_enter func249,ntmps249;go_wp2_with fail
 go_region
 all_goals
  go_wp2_with fail;exact HR.o _ (by first|exact bG w _ _|exact(bG w _ _).drew)
theorem S1(w:World)(ba bb k:Nat)(hA:cX w ba k)(hB:cX w bb k)(h1:Deep k)(h2:k≠7/\k≠8/\k≠9){R:EW}(hR:ph w true R):
  wv (.pointer (some ⟨ba,0,none⟩)) (.pointer (some ⟨bb,0,none⟩)) w R:=by
 have HR:=qh hR;obtain⟨yj,c0⟩:=hA;obtain⟨fF,e0⟩:=hB;have n1: ((k:Int)==5)=false:=int_ne h1.1;have n4: ((k:Int)==6)=false:=int_ne h1.2.1;have n5: ((k:Int)==10)=false:=int_ne h1.2.2;have n7: ((k:Int)==7)=false:=int_ne h2.1;have n8: ((k:Int)==8)=false:=int_ne h2.2.1;have n9: ((k:Int)==9)=false:=int_ne h2.2.2;clear hR h1 h2;go_enter func249,ntmps249;go_wp2_with fail
 go_region
 all_goals
  go_wp2_with fail;exact HR.o _ (by first|exact bG w _ _|exact(bG w _ _).drew)
theorem aai(w:World)(ba bb:Nat)(hA:cX w ba 7)(hB:cX w bb 7)(pv:Value)(c1:w.cell? ⟨bb,1,none⟩=some pv)(r:Bool)
  (hx:∀w2,w2.cell? ⟨w.heap.size,0,none⟩=some (.pointer (some ⟨ba,0,none⟩))->Below w.heap.size w w2->∀R:EW,(∀w',Below w2.heap.size w2 w'->R (.returned (.bool r)) w')->Calls prog 305 #[pv,.func (.func 306) #[] #[.pointer (some ⟨w.heap.size,0,none⟩)]] w2 R)
  {R:EW} (hR:ph w (!r) R):
  wv (.pointer (some ⟨ba,0,none⟩)) (.pointer (some ⟨bb,0,none⟩)) w R:=by
 have HR:=qh hR;have HX:=qh hx;obtain⟨yj,c0⟩:=hA;obtain⟨fF,e0⟩:=hB;clear hR hx;go_enter func249,ntmps249;go_wp2_with fail
 go_region
 all_goals
  go_wp2_with fail;refine HX.o _ (by rw[cell_of_block (eK ((heap_alloc_old _ _ (by simp)).trans (heap_alloc_new w _)))];rfl) (bG w _ _).drew _ (λw3 cZ=>?_);have HB:=qh ((bG w _ _).drew.trans (cZ.mono (by simp;omega)));clear cZ;go_wp2_with fail;exact HR.o _ HB.o
theorem aa0(w:World)(ba bb:Nat)(hA:cX w ba 8)(hB:cX w bb 8)(x y:Value)(c3:w.cell? ⟨ba,3,none⟩=some x)(e3:w.cell? ⟨bb,3,none⟩=some y)(r:Bool)(hx:qi x y w r)
  {R:EW} (hR:ph w r R):
  wv (.pointer (some ⟨ba,0,none⟩)) (.pointer (some ⟨bb,0,none⟩)) w R:=by
 have HR:=qh hR;have HX:=qh hx;obtain⟨yj,c0⟩:=hA;obtain⟨fF,e0⟩:=hB;clear hR hx;go_enter func249,ntmps249;go_wp2_with fail
 go_region
 all_goals go_wp2_with fail
 all_goals
  go_region_law(first|(go_simp;refine HX.o _ (by first|exact bG w _ _|exact(bG w _ _).drew|exact(bG w _ _).drew.drew) _ (λw2 aW=>?_);have fG:=qh (Below.trans (by first|exact bG w _ _|exact(bG w _ _).drew|exact(bG w _ _).drew.drew) (aW.mono (by simp;omega)));clear aW))
 all_goals
  go_wp2_with fail;refine bodyPost_ret ?_ ?_ (HR.o _ fG.o)
  ·simp[results,results249,go_sem]
  ·rfl
theorem W_(w:World)(ba bb:Nat)(hA:cX w ba 9)(hB:cX w bb 9)(a1 a2:Option Addr)(n1 n2 mu m_:Nat)(c2:w.cell? ⟨ba,2,none⟩=some (.slice a1 n1 mu))(e2:w.cell? ⟨bb,2,none⟩=some (.slice a2 n2 m_))(bz:n2<n1)
  {R:EW} (hR:ph w false R):
  wv (.pointer (some ⟨ba,0,none⟩)) (.pointer (some ⟨bb,0,none⟩)) w R:=by
 have HR:=qh hR;obtain⟨yj,c0⟩:=hA;obtain⟨fF,e0⟩:=hB;have k2:decide (n1<=n2)=false:=by simp;omega
 clear hR;go_enter func249,ntmps249;go_wp2_with fail
 go_region
 all_goals go_wp2_with fail
 all_goals go_region
 all_goals
  go_wp2_with fail;refine HR.o _ ?_;first|exact bG w _ _|exact(bG w _ _).drew|exact(bG w _ _).drew.drew
end
end Go.Proofs.YtdlbhiaceheffabGreatDoor
