/- Elide: names that are set. -/
import Derived.Test.YtdlbhiaceheffabGreatDoorE44
set_option linter.all false
set_option maxRecDepth 100000
set_option maxHeartbeats 8000000
namespace Go.Proofs.YtdlbhiaceheffabGreatDoor
open Go Go.RowKit Ty Tok Prt Tryz Proofs.Tryz
structure ElF(wB:World)(Fq:As)(fb cb:Nat):Prop where
 b:gR wB Fq
 c:∀(w:World)(L:List As)(i:Nat),Sat wB w L->L[i]?=some Fq->w.cell? ⟨fb,0,none⟩=some (.pointer (some ⟨cb,0,none⟩))/\fb<w.heap.size
def kL(wB:World)(Fq:As)(v:Value)(l:List Nat):Prop:=∀(w:World)(L:List As)(i:Nat),Sat wB w L->L[i]?=some Fq->w.ownsRow 0 3 1 v l.length (l.map aO)
def MF(wB:World)(X:Cx)(pg:Ty.Pg)(fb cb f:Nat):Prop:=∀(ids:List Nat)(lo hi:Nat),LtL pg.ns ids lo hi->hi<=f->hi<=pg.ns.length->(∀m∈ids,∃r,Vis pg.ns r m)->∀(w:World)(Fq:As)(lv:Value),ElF wB Fq fb cb->kL wB Fq lv ids->Sat wB w [Fq]->
  ∀R:EW,(∀v w',Sat wB w' [Fq,lL v (ids.flatMap (cK pg X.aK f))]->R (.returned v) w')->Calls prog 180 #[.pointer (some ⟨fb,0,none⟩),lv] w R
theorem n_(nd:Nd)(k:Nat)(z:Int)(h:z=k:=by rfl): (((nd.kind:Nat):Int)==z)=decide (nd.kind=k):=by
 subst h;by_cases e:nd.kind=k
 ·rw[decide_eq_true e,e];simp
 ·rw[decide_eq_false e];exact beq_eq_false_iff_ne.2 (by omega)
section
variable {wB:World} {Fq:As} {X:Cx} {pg:Ty.Pg} {fb cb ca:Nat} {cv:Nat->Bool}
theorem ElF.st{M:List As}(h:ElF wB Fq fb cb):ElF wB (ah (Fq::M)) fb cb:=
 ⟨h.b.ah,λw L i hs hi=>h.c w _ ((L.eraseIdx i).length) (hs.unpack hi) (by rw[List.getElem?_append_right (by omega),Nat.sub_self];rfl)⟩
theorem ElF.row{v:Value}{l:List Nat}(h:ElF wB Fq fb cb)(hl:wB.ownsRow 0 3 1 v l.length (l.map aO)):kL wB Fq v l:=λw L i hs hi=>ay hl (h.b w L i hs hi)
theorem kL.at{v:Value}{l:List Nat}{M:List As}{k:Nat}(hk:M[k]?=some (lL v l)):kL wB (ah M) v l:=λw L i hs hi=>
 (hs.unpack hi).row ((L.eraseIdx i).length+k) (by rw[List.getElem?_append_right (by omega),show(L.eraseIdx i).length+k-(L.eraseIdx i).length=k by omega];exact hk)
theorem kL.po(hF:gR wB Fq){nd:Nd}{lv v:Value}{ids:List Nat}(hl:wB.ownsRow 0 3 1 lv nd.list.length (nd.list.map aO)){M:List As}{k:Nat}(hk: (Fq::M)[k]?=some (jo nd lv v ids)):kL wB (ah (Fq::M)) v ids:=λw L i hs hi=>
 jN (hs.unpack hi) ((L.eraseIdx i).length+k) (by rw[List.getElem?_append_right (by omega),show(L.eraseIdx i).length+k-(L.eraseIdx i).length=k by omega];exact hk) (ay hl (hF.ah w L i hs hi))
theorem oC{f:Nat}(hI:MF wB X pg fb cb f)(hF:ElF wB Fq fb cb){M:List As}{w:World}{v lv:Value}{L ks:List Nat}{lo hi:Nat}(H:Sat wB w (Fq::lL v L::M))(bm:kL wB (ah (Fq::lL v L::M)) lv ks)(wq:LtL pg.ns ks lo hi)(h1:hi<=f)(h2:hi<=pg.ns.length)(hN:pg.ns.length<=100000)(hV:∀m∈ks,∃r,Vis pg.ns r m)(hL:L.length<=100000){R:EW}
  (hR:∀v2 w5 v3 w3,(Builtin.append_ #[39,39] 39 #[v,v2]).run prog w5=.ok v3 w3->Sat wB w3 (Fq::lL v3 (L++ks.flatMap (cK pg X.aK f))::M)->R (.returned v2) w5):
  Calls prog 180 #[.pointer (some ⟨fb,0,none⟩),lv] w R:=by
 have hlen:=nY wq λk _ l hl=>qk (pg:=pg) (tq:=X.aK) f k l hl
 refine hI ks lo hi wq h1 h2 hV w _ lv hF.st bm (Sat.pack (L:=[]) H) R (λv2 w5 h5=>?_);obtain⟨v3,w3,hr,h7⟩:=(h5.unpack (i:=0) rfl).K1 (i:=2) (j:=0) rfl rfl (by omega) 39;exact hR v2 w5 v3 w3 hr ((Sat.left (L:=[_]) (h7.at 0 rfl)).unpack (i:=0) rfl)
theorem Bl(hE:ElE wB X pg cb ca cv){f:Nat}(hI:∀g,f=g+1->MF wB X pg fb cb g):MF wB X pg fb cb f:=by
 intro ids lo hi wq YN ad1 hV w Fq lv hF bm H R hR;have HR:=qh hR;have HF:=qh hF;have du:=qh bm;have HV:=qh hV;have GJ:=qh hI;have RD:=qh wq;have oW:=wq.len;have ads:=hE.P.ok.ju;have hlen:=nY wq λk _ l hl=>qk (pg:=pg) (tq:=X.aK) f k l hl
 have T5:=qh hlen;obtain⟨la,lc,rfl⟩:=ag (bm w _ 0 H rfl);have h1:=H.nil 3 1;have H1:=qh h1;clear hR hF bm hV hI wq H h1 hlen;go_enter func180,ntmps180;go_wp2;go_loopw [5,11] (λv i wr=>∃(j:Nat),i=.int .i64 j/\j<=ids.length/\Hq (Sat wB wr [Fq,lL v ((ids.take j).flatMap (cK pg X.aK f))])) (λ_ i _=>ids.length-(intOf i).toNat)
 case atStart=>exact⟨0,rfl,Nat.zero_le _,H1.o⟩
 case round=>
  obtain⟨j,rfl,hj,hS⟩:=hrel;by_cases a_:j<ids.length
  ·obtain⟨gl,jB,e,ku,d0⟩:=ints_at (du.o wr _ 0 hS.out rfl) j a_;cases e;have qp: (ids.take (j+1)).flatMap (cK pg X.aK f)=(ids.take j).flatMap (cK pg X.aK f)++cK pg X.aK f ids[j]:=by
    rw[List.take_succ_eq_append_getElem a_,List.flatMap_append,List.flatMap_singleton]
   have hle: ((ids.take (j+1)).flatMap (cK pg X.aK f)).length<=(ids.flatMap (cK pg X.aK f)).length:=by
    have h2:ids.flatMap (cK pg X.aK f)=(ids.take (j+1)).flatMap (cK pg X.aK f)++(ids.drop (j+1)).flatMap (cK pg X.aK f):=by rw[<-List.flatMap_append,List.take_append_drop]
    rw[h2,List.length_append];omega
   obtain⟨ac0,l,_,aat⟩:=RD.o.mem _ (gM a_);obtain⟨rr,YC⟩:=HV.o _ (gM a_);rw[qp,List.length_append]at hle
   have Yq:=qh (show((ids.take j).flatMap (cK pg X.aK f)).length+(cK pg X.aK f ids[j]).length<=100000 by have:=T5.o;omega);have pK:=qh qp;have U3: ((ids.take j).flatMap (cK pg X.aK f)).length<=100000:=by have:=T5.o;omega
   generalize ids[j]=m at*
   generalize(ids.take j).flatMap (cK pg X.aK f)=L at*
   obtain⟨f,rfl⟩:∃g,f=g+1:=⟨f-1,by omega⟩
   have HI:=qh (GJ.o f rfl);cases aat with
   |mk hn KL=>
    rename_i nd;obtain⟨Dd,_,zm,_⟩:=Vis.inv hn YC;have R_:cK pg X.aK (f+1) m=if nd.kind=6 then []else(if nd.kind=18 then [X.aK m]else [])++(bH nd).flatMap (cK pg X.aK f):=by rw[cK,bw hn]
    obtain⟨f0,CB⟩:=HF.o.c wr _ 0 hS.out rfl;have dO:=qh (λR=>o7 (R:=R) hE (HF.o.b _ _ 0 hS.out rfl) hn f0 CB);have adx:=cX hn;have k_:=(hE.lay m nd hn).2;have Is:=(hE.lay m nd hn).1;have QS:=qh (λ(h:nd.kind≠6)=>(show LtL pg.ns (bH nd) l m from by unfold ck at KL;rwa [if_neg h]at KL));have Td:=qh (λ(h:nd.kind≠6)=>(show∀k∈bH nd,∃r,Vis pg.ns r k from λk hk=>⟨rr,zm h k (by unfold ck;rwa [if_neg h])⟩));have F6:=qh R_;have Qh:=qh Is;clear f0 CB zm KL R_ hle qp YC Is;go_wp2_with fail;refine dO.o _ (λlv w2 aD cu=>?_);obtain⟨xa,xc,rfl⟩:=ag cu;dsimp only[aG];have h3:=(hS.out.below aD).aj (az nd (.slice xa nd.list.length xc)) w2.heap.size;have x0:=h3.cell 2 rfl 0 rfl;have x1:=h3.cell 2 rfl 1 rfl;have x2:=h3.cell 2 rfl 2 rfl;have x3:=h3.cell 2 rfl 3 rfl;have x4:=h3.cell 2 rfl 4 rfl;have iL:=qh cu;have H3:Hq (Sat wB (w2.alloc (az nd (.slice xa nd.list.length xc))) [Fq,lL u5 L,av w2.heap.size (az nd (.slice xa nd.list.length xc))]):=h3;clear aD cu;have e6:=n_ nd 6 6;have N8:=n_ nd 26 26;have FW:=n_ nd 22 22;have tD:=n_ nd 18 18;by_cases h6:nd.kind=6
    ·have o':=qh (F6.o.trans (if_pos h6));rw[decide_eq_true h6]at e6
     clear h3 h6 N8 FW tD;go_wp2;go_roundw
     case rel=>exact⟨j+1,by go_num,by omega,by show Sat _ _ _;rw[pK.o,o'.o,List.append_nil];exact H3.o.pick [0,1]⟩
     case measure=>simp[intOf];omega
    rw[decide_eq_false h6]at e6
    by_cases vQ:nd.kind=26
    ·have hp:bH nd=nd.list:=by unfold bH;rw[if_neg (by omega),if_pos (by omega)]
     have o':=qh (show cK pg X.aK (f+1) m=nd.list.flatMap (cK pg X.aK f)by rw[F6.o,if_neg h6,if_neg (by omega),hp];rfl);have pI:=qh (λR hR=>oC (R:=R) HI.o HF.o H3.o (HF.o.st.row iL.o) (hp▸QS.o h6) (by omega) (by omega) (by omega) (hp▸Td.o h6) U3 hR);rw[decide_eq_true vQ]at N8
     clear h3 h6 vQ FW tD hp;go_wp2_with fail;refine pI.o _ (λv2 w5 v3 w6 hr h6=>?_);have H6:=qh h6;clear h6;go_wp2_with(at_builtin;go_loud(refine gX rfl (.tmp 30) (.tmp 34) 39 rfl rfl rfl hr ?_));go_wp2;go_roundw
     case rel=>exact⟨j+1,by go_num,by omega,by show Sat _ _ _;rw[pK.o,o'.o];exact H6.o.pick [0,1]⟩
     case measure=>simp[intOf];omega
    rw[decide_eq_false vQ]at N8
    by_cases qM:nd.kind=22
    ·have h5:=h3.aj (.cells #[.int .i64 (nd.a:Nat),.int .i64 (nd.b:Nat)] 3) (w2.heap.size+1) (by simp);have O4:Sat wB _ [Fq,lL u5 L,av w2.heap.size (az nd (.slice xa nd.list.length xc)),lL (.slice (some ⟨w2.heap.size+1,0,none⟩) 2 2) [nd.a,nd.b]]:=h5.cL (i:=3) rfl (λ_ h=>bn h rfl (by simp[maxLen]) (by simp[aO]));by_cases hc:nd.c<0
     ·have hp:bH nd=[nd.a,nd.b]:=by unfold bH;rw[if_neg (by omega),if_neg (by omega),if_neg (by omega),if_neg (by omega),if_pos qM,if_pos hc]
      have o':=qh (show cK pg X.aK (f+1) m=[nd.a,nd.b].flatMap (cK pg X.aK f)by rw[F6.o,if_neg h6,if_neg (by omega),hp];rfl);have pI:=qh (λR hR=>oC (R:=R) HI.o HF.o O4 (kL.at (k:=3) rfl) (hp▸QS.o h6) (by omega) (by omega) (by omega) (hp▸Td.o h6) U3 hR);have kc:decide ((0:Int)<=nd.c)=false:=decide_eq_false (by omega);rw[decide_eq_true qM]at FW
      clear h3 h6 vQ qM tD hp h5 O4;go_wp2_with fail;refine pI.o _ (λv2 w5 v3 w6 hr h6=>?_);have x3:=h6.cell 2 rfl 3 rfl;have H6:=qh h6;clear h6;go_wp2_with(at_builtin;go_loud(refine gX rfl (.tmp 38) (.tmp 45) 39 rfl rfl rfl hr ?_));go_wp2;go_roundw
      case rel=>exact⟨j+1,by go_num,by omega,by show Sat _ _ _;rw[pK.o,o'.o];exact H6.o.pick [0,1]⟩
      case measure=>simp[intOf];omega
     ·have hp:bH nd=[nd.a,nd.b,nd.c.toNat]:=by unfold bH;rw[if_neg (by omega),if_neg (by omega),if_neg (by omega),if_neg (by omega),if_pos qM,if_neg hc]
      have o':=qh (show cK pg X.aK (f+1) m=[nd.a,nd.b].flatMap (cK pg X.aK f)++[nd.c.toNat].flatMap (cK pg X.aK f)by rw[F6.o,if_neg h6,if_neg (by omega),hp];simp);have KL:=hp▸QS.o h6;have zm:=hp▸Td.o h6;cases KL with|cons k1 k2=>cases k2 with|cons k2 k3=>
      have aa7:=k3.len;have Z1:=k1.le;have aaP:=k2.le;have k4:=k3.mem nd.c.toNat (by simp);have Iq: (L++[nd.a,nd.b].flatMap (cK pg X.aK f)).length<=100000:=by
       have h1:=Yq.o;rw[o'.o,List.length_append]at h1
       rw[List.length_append];omega
      have pI:=qh (λR hR=>oC (R:=R) HI.o HF.o O4 (kL.at (k:=3) rfl) (.cons k1 (.cons k2 .nil)) (by omega) (by omega) (by omega) (λk hk=>zm k (by simp at hk⊢;omega)) U3 hR);have kc:decide ((0:Int)<=nd.c)=true:=decide_eq_true (by omega);have xP: ((nd.c.toNat:Nat):Int)=nd.c:=by omega
      rw[decide_eq_true qM]at FW
      have K3:=qh k3;have Kr:=qh zm;clear h3 h6 vQ qM tD hp h5 O4 zm k3 k1 k2;go_wp2_with fail;refine pI.o _ (λv2 w5 v3 w6 hr h6=>?_);have x3:=h6.cell 2 rfl 3 rfl;have H6:=qh h6;clear h6;go_wp2_with(at_builtin;go_loud(refine gX rfl (.tmp 38) (.tmp 45) 39 rfl rfl rfl hr ?_));go_wp2_with fail;have h7:=H6.o.aj (.cells #[.int .i64 nd.c] 3) w6.heap.size;have h8:Sat wB _ [Fq,lL v3 (L++[nd.a,nd.b].flatMap (cK pg X.aK f)),av w2.heap.size (az nd (.slice xa nd.list.length xc)),lL (.slice (some ⟨w2.heap.size+1,0,none⟩) 2 2) [nd.a,nd.b],lL (.slice (some ⟨w6.heap.size,0,none⟩) 1 1) [nd.c.toNat]]:=h7.cL (i:=4) rfl (λ_ h=>bn h rfl (by simp[maxLen]) (by simp[aO,xP]));refine oC HI.o HF.o h8 (kL.at (k:=4) rfl) K3.out (by omega) (by omega) (by omega) (λk hk=>Kr.o k (by simp at hk⊢;omega)) Iq (λv4 w9 v5 l_ hr h9=>?_);have H9:=qh h9;clear h7 h8 h9;go_wp2_with(at_builtin;go_loud(refine gX rfl (.tmp 50) (.tmp 55) 39 rfl rfl rfl hr ?_));go_wp2;go_roundw
      case rel=>exact⟨j+1,by go_num,by omega,by show Sat _ _ _;rw[pK.o,o'.o,<-List.append_assoc];exact H9.o.pick [0,1]⟩
      case measure=>simp[intOf];omega
    rw[decide_eq_false qM]at FW
    have I0:=HF.o.b _ _ 0 h3 rfl;by_cases me:nd.kind=18
    ·have hp:bH nd=[nd.a]:=by unfold bH;rw[if_neg (by omega),if_neg (by omega),if_neg (by omega),if_neg (by omega),if_neg (by omega),if_neg (by omega)]
     have o':=qh (show cK pg X.aK (f+1) m=[X.aK m]++[nd.a].flatMap (cK pg X.aK f)by rw[F6.o,if_neg h6,if_pos me,hp]);obtain⟨f0,CB⟩:=HF.o.c _ _ 0 h3 rfl;obtain⟨c3,bu,Ui⟩:=hE.oL I0 (n:=m) (by omega);have gh:=(hE.Rk I0).2;have h5:=h3.aj (.cells #[.int .i64 (X.aK m:Nat)] 3) (w2.heap.size+1) (by simp);have O4:Sat wB _ [Fq,lL u5 L,av w2.heap.size (az nd (.slice xa nd.list.length xc)),lL (.slice (some ⟨w2.heap.size+1,0,none⟩) 1 1) [X.aK m]]:=h5.cL (i:=3) rfl (λ_ h=>bn h rfl (by simp[maxLen]) (by simp[aO]));obtain⟨v3,w6,hr,h7⟩:=O4.K1 (i:=1) (j:=3) rfl rfl (by simp;omega) 39;have h8:Sat wB w6 [Fq,lL v3 (L++[X.aK m]),av w2.heap.size (az nd (.slice xa nd.list.length xc)),lL (.slice (some ⟨w2.heap.size+1,0,none⟩) 1 1) [X.aK m]]:=h7;have y1:=h8.cell 2 rfl 1 rfl;have Iq: (L++[X.aK m]).length<=100000:=by
      have h1:=Yq.o;rw[o'.o,List.length_append]at h1
      rw[List.length_append];omega
     have K3:=qh (hp▸QS.o h6);have Kr:=qh (hp▸Td.o h6);have H8:=qh h8;rw[decide_eq_true me]at tD
     clear h3 h6 vQ qM me hp h5 O4 h7 h8 I0;go_wp2_with(at_builtin;go_loud(refine gX rfl (.tmp 59) (.tmp 69) 39 rfl rfl rfl hr ?_));go_wp2_with fail;have h9:=H8.o.aj (.cells #[.int .i64 (nd.a:Nat)] 3) w6.heap.size;have dG:Sat wB _ [Fq,lL v3 (L++[X.aK m]),av w2.heap.size (az nd (.slice xa nd.list.length xc)),lL (.slice (some ⟨w2.heap.size+1,0,none⟩) 1 1) [X.aK m],lL (.slice (some ⟨w6.heap.size,0,none⟩) 1 1) [nd.a]]:=h9.cL (i:=4) rfl (λ_ h=>bn h rfl (by simp[maxLen]) (by simp[aO]));refine oC HI.o HF.o dG (kL.at (k:=4) rfl) K3.out (by omega) (by omega) (by omega) Kr.o Iq (λv4 w9 v5 l_ hr h9=>?_);have H9:=qh h9;clear h9 dG;go_wp2_with(at_builtin;go_loud(refine gX rfl (.tmp 71) (.tmp 76) 39 rfl rfl rfl hr ?_));go_wp2;go_roundw
     case rel=>exact⟨j+1,by go_num,by omega,by show Sat _ _ _;rw[pK.o,o'.o,<-List.append_assoc];exact H9.o.pick [0,1]⟩
     case measure=>simp[intOf];omega
    rw[decide_eq_false me]at tD
    have x5:=h3.cell 2 rfl 5 rfl;have x6:=h3.cell 2 rfl 6 rfl;have x7:=h3.cell 2 rfl 7 rfl;have x8:=h3.cell 2 rfl 8 rfl;have o':=qh (show cK pg X.aK (f+1) m=(bH nd).flatMap (cK pg X.aK f)by rw[F6.o,if_neg h6,if_neg me];rfl);have mJ:=qh (λR hR=>nn (w:=w2.alloc (az nd (.slice xa nd.list.length xc))) (nd:=nd) (lv:=.slice xa nd.list.length xc) (R:=R) ⟨h6,Dd.1,qM,vQ⟩ Dd.2 Qh.o (ay iL.o I0) (by omega) hR);have K3:=qh (QS.o h6);have Kr:=qh (Td.o h6);clear h3 h6 vQ qM me I0;go_wp2_with fail;refine mJ.o _ (λv3 w3 h4=>?_);have H5:=qh (H3.o.join h4);clear h4 H3;go_wp2_with fail;refine oC HI.o HF.o H5.o (kL.po (k:=3) HF.o.b iL.o rfl) K3.out (by omega) (by omega) (by omega) Kr.o U3 (λv4 w9 v5 l_ hr h9=>?_);have H9:=qh h9;clear h9;go_wp2_with(at_builtin;go_loud(refine gX rfl (.tmp 20) (.tmp 24) 39 rfl rfl rfl hr ?_));go_wp2;go_roundw
    case rel=>exact⟨j+1,by go_num,by omega,by show Sat _ _ _;rw[pK.o,o'.o];exact H9.o.pick [0,1]⟩
    case measure=>simp[intOf];omega
  ·have gO:j=ids.length:=by omega
   have h6:=hS.out;rw[gO,List.take_length]at h6
   have H6:=qh h6;clear h6 gO;go_wp2;exact HR.o _ _ H6.o
theorem E2(hE:ElE wB X pg cb ca cv):∀f,MF wB X pg fb cb f
 |0=>Bl (f:=0) hE λg e=>by omega
 |f+1=>Bl (f:=f+1) hE λg e=>(Nat.succ.inj e)▸E2 hE f
end
theorem Prt.Sat.O2{w0 w:World}{L:List As}(H:Sat w0 w L)(b:Nat)(hb:b=w.heap.size:=by simp):Sat w0 (w.alloc (.map #[] 0)) (L++[kA b λ_=>none]):=by
 subst hb;refine H.new ((bR _ _).alloc (nR _) _) ⟨λj=>if j=w.heap.size then some (.map #[] 0)else none,⟨#[],0,by simp,⟨by simp,MapKept.stamped_empty 0,by simp⟩,by simp,kD.nil _⟩,λj x ex=>?_,λj hj=>?_⟩
 ·dsimp only at ex;split at ex
  ·rename_i hk;subst hk;cases ex;exact heap_alloc_new w _
  ·cases ex
 ·dsimp only;rw[if_neg (by omega)]
theorem Prt.Sat.OO{w0 w:World}{L:List As}{b:Nat}{K:Kt}(H:Sat w0 w L)(i:Nat)(hi:L[i]?=some (kA b K)):∃es clock,w.heap[b]?=some (.map es clock)/\Sat w0 (w.alloc (.map es clock)) (L++[kA w.heap.size K]):=by
 obtain⟨a,b',_,h2,_,h4,_⟩:=eQ H.mem hi;obtain⟨es,clock,g1,g2,g3,g4⟩:=h4;refine⟨es,clock,h2 b _ g1,H.new ((bR _ _).alloc (nR _) _) ⟨λj=>if j=w.heap.size then some (.map es clock)else none,⟨es,clock,by simp,g2,g3,g4⟩,λj x ex=>?_,λj hj=>?_⟩⟩
 ·dsimp only at ex;split at ex
  ·rename_i hk;subst hk;cases ex;exact heap_alloc_new w _
  ·cases ex
 ·dsimp only;rw[if_neg (by omega)]
def Hw(wB:World)(X:Cx)(pg:Ty.Pg)(cv:Nat->Bool)(fb cb gb nb:Nat)(G:Kt)(id:Nat):Prop:=
 ∀f,id<f->∀(q:LQ)(w:World)(Fr:As),gR wB Fr->Sat wB w [Fr,mV fb cb gb nb G q.1 q.2]->(∃r,Vis pg.ns r id)->∀R:EW,
  (∀w',Sat wB w' [Fr,mV fb cb gb nb G (fA pg X.aK cv G f id q).1 (fA pg X.aK cv G f id q).2]->R (.returned (.tuple #[])) w')->
  Calls prog 108 #[.pointer (some ⟨fb,0,none⟩),.int .i64 (id:Nat)] w R
section
variable {wB w:World} {Fr:As} {X:Cx} {pg:Ty.Pg} {fb cb ca gb nb:Nat} {cv:Nat->Bool} {G K:Kt} {g:Nat->Bool}
theorem j'(F:FuncId)(ya:Array Value)(hc:∀(args:Array Value)(w:World),(callFunc F args).run prog w=.ok (.enter F args) w){g2:Nat->Bool}(H:Sat wB w [Fr,mV fb cb gb nb G K g])
  (vM:∀vA w1,Sat wB w1 [ah [Fr,kA vA K],mV fb cb gb nb G K g]->∀R:EW,(∀K2 w2,Sat wB w2 [ah [Fr,kA vA K],mV fb cb gb nb G K2 g2]->R (.returned (.tuple #[])) w2)->Calls prog F ya w1 R)
  {R:EW} (hR:∀w2,Sat wB w2 [Fr,mV fb cb gb nb G K g2]->R (.returned (.tuple #[])) w2):
  Calls prog 176 #[.pointer (some ⟨fb,0,none⟩),.func (.func F) #[] ya] w R:=by
 have HR:=qh hR;have BN:=qh vM;obtain⟨kb,h1⟩:=H.jZ;obtain⟨es,clock,Yz,h2⟩:=h1.OO 3 rfl;have f2:=h1.cell 1 rfl 2 rfl;have CB:=h1.lt 1 rfl;have h3:=(((Sat.pack (L:=BQ fb cb gb kb nb G K g) (M:=[Fr,kA w.heap.size K]) (h2.pick [1,2,3,4,0,5])).pick [4,0,1,2,3]:Sat wB _ (ah [Fr,kA w.heap.size K]::BQ fb cb gb kb nb G K g))).nH;have H3:=qh h3;clear hR vM H h1 h2 h3;go_in;go_wp2_with fail;refine(AnyW.maps_Clone cloneMp kb es clock w Yz).mono ?_
 rintro e w' ⟨rfl,rfl⟩
 go_wp2_with fail;refine BN.o _ _ H3.o _ (λK2 w2 h4=>?_);obtain⟨aaO,h5⟩:=h4.jZ;have h6:=h5.unpack (i:=0) rfl;have c2:=h6.cell 0 rfl 2 rfl;have uf:=h6.free 0 rfl 2;have ZW:=h6.lt 0 rfl;have H6:=qh h6;clear h4 h5 h6 H3 f2 CB Yz;go_wp2;go_end0;exact HR.o _ (((H6.o.store 0 rfl 2 (.map (some w.heap.size))).pick [4,0,1,5,3]).nH)
theorem xg(hF:gR wB Fr){ids:List Nat}{lv:Value}{f:Nat}(hC:∀m∈ids,Hw wB X pg cv fb cb gb nb G m/\m<f/\∃r,Vis pg.ns r m)(bm:kL wB Fr lv ids)(hn:ids.length<=1000000){q:LQ}(H:Sat wB w [Fr,mV fb cb gb nb G q.1 q.2]){R:EW}
  (hR:∀w',Sat wB w' [Fr,mV fb cb gb nb G (ids.foldl (λq m=>fA pg X.aK cv G f m q) q).1 (ids.foldl (λq m=>fA pg X.aK cv G f m q) q).2]->R (.returned (.tuple #[])) w'):
  Calls prog 174 #[.pointer (some ⟨fb,0,none⟩),lv] w R:=by
 have HR:=qh hR;have HF:=qh hF;have HC:=qh hC;have du:=qh bm;have H1:=qh H;obtain⟨la,lc,rfl⟩:=ag (bm w _ 0 H rfl);clear hR hF hC bm H;go_in;go_wp2;go_loopw [8] (λi wr=>∃(j:Nat),i=.int .i64 j/\j<=ids.length/\Hq (Sat wB wr [Fr,mV fb cb gb nb G ((ids.take j).foldl (λq m=>fA pg X.aK cv G f m q) q).1 ((ids.take j).foldl (λq m=>fA pg X.aK cv G f m q) q).2])) (λi _=>ids.length-(intOf i).toNat)
 case atStart=>exact⟨0,rfl,Nat.zero_le _,H1.o⟩
 case round=>
  obtain⟨j,rfl,hj,hS⟩:=hrel;by_cases a_:j<ids.length
  ·obtain⟨gl,jB,e,ku,d0⟩:=ints_at (du.o wr _ 0 hS.out rfl) j a_;cases e;have qp: (ids.take (j+1)).foldl (λq m=>fA pg X.aK cv G f m q) q=fA pg X.aK cv G f ids[j] ((ids.take j).foldl (λq m=>fA pg X.aK cv G f m q) q):=by
    rw[List.take_succ_eq_append_getElem a_,List.foldl_append];rfl
   obtain⟨c1,c2,c3⟩:=HC.o ids[j] (gM a_);have pI:=qh (c1 f c2 _ wr _ HF.o hS.out c3);have pK:=qh qp;clear qp c1 c2 c3;generalize ids[j]=ij at*
   go_wp2_with fail;refine pI.o _ (λw4 h4=>?_);have H4:=qh h4;clear h4;go_wp2;go_roundw
   case rel=>exact⟨j+1,by go_num,by omega,by show Sat _ _ _;rw[pK.o];exact H4.o⟩
   case measure=>simp[intOf];omega
  ·have gO:j=ids.length:=by omega
   have h6:=hS.out;rw[gO,List.take_length]at h6
   have H6:=qh h6;clear h6 gO;go_wp2;go_end0;exact HR.o _ H6.o
theorem OA(hF:gR wB Fr){m f:Nat}(hC:Hw wB X pg cv fb cb gb nb G m)(hm:m<f)(hv:∃r,Vis pg.ns r m){q:LQ}{bx nx:Nat}(H:Sat wB w [Fr,mV fb cb gb nb G q.1 q.2])(hx:w.cell? ⟨bx,0,none⟩=some (.pointer (some ⟨fb,0,none⟩)))(wR:bx<w.heap.size){z:Int}(hn:w.cell? ⟨nx,2,none⟩=some (.int .i64 z))(hz:z=(m:Nat))(pJ:nx<w.heap.size){R:EW}
  (hR:∀w',Sat wB w' [Fr,mV fb cb gb nb G (fA pg X.aK cv G f m q).1 (fA pg X.aK cv G f m q).2]->R (.returned (.tuple #[])) w'):Calls prog 177 #[.pointer (some ⟨bx,0,none⟩),.pointer (some ⟨nx,0,none⟩)] w R:=by
 subst hz;have HC:=qh (hC f hm q w Fr hF H hv);have HR:=qh hR;clear hC hR H hv hF;go_in;go_wp2_with fail;refine HC.o _ (λw' h=>?_);have HE:=qh (HR.o w' h);clear h;go_wp2;go_end0;exact HE.o
theorem SB(hF:gR wB Fr){m f:Nat}(hC:Hw wB X pg cv fb cb gb nb G m)(hm:m<f)(hv:∃r,Vis pg.ns r m){q:LQ}{bx nx:Nat}(H:Sat wB w [Fr,mV fb cb gb nb G q.1 q.2])(hx:w.cell? ⟨bx,0,none⟩=some (.pointer (some ⟨fb,0,none⟩)))(wR:bx<w.heap.size){z:Int}(hn:w.cell? ⟨nx,3,none⟩=some (.int .i64 z))(hz:z=(m:Nat))(pJ:nx<w.heap.size){R:EW}
  (hR:∀w',Sat wB w' [Fr,mV fb cb gb nb G (fA pg X.aK cv G f m q).1 (fA pg X.aK cv G f m q).2]->R (.returned (.tuple #[])) w'):Calls prog 178 #[.pointer (some ⟨bx,0,none⟩),.pointer (some ⟨nx,0,none⟩)] w R:=by
 subst hz;have HC:=qh (hC f hm q w Fr hF H hv);have HR:=qh hR;clear hC hR H hv hF;go_in;go_wp2_with fail;refine HC.o _ (λw' h=>?_);have HE:=qh (HR.o w' h);clear h;go_wp2;go_end0;exact HE.o
end
namespace Ty
theorem Fx{G:Kt}{l:List Nat}{j:Nat}(h:j<l.length){t:Nat}(hG:G l[j]=some t):nD (pT G (l.take j)) l[j] (some t)=pT G (l.take (j+1)):=by
 funext k;unfold nD pT;rw[List.take_succ_eq_append_getElem h];by_cases hk:k=l[j]
 ·rw[if_pos hk,if_pos (List.mem_append.2 (.inr (List.mem_singleton.2 hk))),hk,hG]
 ·rw[if_neg hk];by_cases hm:k∈l.take j
  ·rw[if_pos hm,if_pos (List.mem_append.2 (.inl hm))]
  ·rw[if_neg hm,if_neg λe=>(List.mem_append.1 e).elim hm λe=>hk (List.mem_singleton.1 e)]
theorem FN{G:Kt}{l:List Nat}{j:Nat}(h:j<l.length)(hG:G l[j]=none):pT G (l.take j)=pT G (l.take (j+1)):=by
 funext k;unfold pT;rw[List.take_succ_eq_append_getElem h];by_cases hm:k∈l.take j
 ·rw[if_pos hm,if_pos (List.mem_append.2 (.inl hm))]
 ·rw[if_neg hm];split
  ·rename_i e;rcases List.mem_append.1 e with e|e
   ·exact absurd e hm
   ·rw[List.mem_singleton.1 e,hG]
  ·rfl
theorem NH{x:Nd}{t:Nat}(h:AP x=some t):t<=127:=by
 unfold AP at h;repeat' split at h
 all_goals first|(cases h;omega)|cases h
theorem SI{a b:Option Nat}(ha:∀t,a=some t->t<=127)(hb:∀t,b=some t->t<=127): (a.or b).getD 127<=127:=by
 cases a with
 |some t=>exact ha t rfl
 |none=>
  cases b with
  |some t=>exact hb t rfl
  |none=>simp
theorem A'{pg:Pg}{tq:Nat->Nat}{ca:Nat->Bool}{G K:Kt}(hG:∀m t,G m=some t->t<=127)(hK:∀m t,K m=some t->t<=127)(n:Nat):vt pg tq ca G K n<=127:=by
 unfold vt;repeat' split
 all_goals first|omega|exact Lc hK ca _|exact SI (λt h=>NH h) (hG n)
end Ty
section
variable {wB w:World} {Fr:As} {X:Cx} {pg:Ty.Pg} {fb cb ca gb nb:Nat} {cv:Nat->Bool} {G K:Kt} {g:Nat->Bool}
theorem ElF.el(h:gR wB Fr){M:List As}:ElF wB (ah (Fr::mV fb cb gb nb G K g::M)) fb cb:=by
 refine⟨h.ah,λw L i hs hi=>?_⟩;have h1:=(hs.unpack hi).at ((L.eraseIdx i).length+1) (P:=mV fb cb gb nb G K g) (by rw[List.getElem?_append_right (by omega),show(L.eraseIdx i).length+1-(L.eraseIdx i).length=1 by omega];rfl);obtain⟨kb,h2⟩:=h1.jZ;exact⟨h2.cell 1 rfl 0 rfl,h2.lt 1 rfl⟩
theorem j5{l:List Nat}{lv:Value}(hl:∀m∈l,m<=100000)(bm:kL wB Fr lv l)(hn:l.length<=1000000)(H:Sat wB w [Fr,mV fb cb gb nb G K g]){R:EW}
  (hR:∀w',Sat wB w' [Fr,mV fb cb gb nb G (ll K l) g]->R (.returned (.tuple #[])) w'):Calls prog 179 #[.pointer (some ⟨fb,0,none⟩),lv] w R:=by
 obtain⟨kb,h1⟩:=H.jZ;exact y_ hl bm hn h1 λw' h=>hR w' h.nH
theorem mo(hE:ElE wB X pg cb ca cv)(hF:gR wB Fr){f:Nat}{ids:List Nat}{lo hi:Nat}(wq:LtL pg.ns ids lo hi)(h1:hi<=f)(h2:hi<=pg.ns.length)(hV:∀m∈ids,∃r,Vis pg.ns r m){lv:Value}(H:Sat wB w [Fr,mV fb cb gb nb G K g,lL lv ids]){R:EW}
  (hR:∀v w',(∀m∈ids.flatMap (cK pg X.aK f),m<=100000)->(ids.flatMap (cK pg X.aK f)).length<=1000000->Sat wB w' [ah [Fr,lL lv ids,lL v (ids.flatMap (cK pg X.aK f))],mV fb cb gb nb G K g]->R (.returned v) w'):Calls prog 180 #[.pointer (some ⟨fb,0,none⟩),lv] w R:=by
 have hlen:=nY wq λk _ l hl=>qk (pg:=pg) (tq:=X.aK) f k l hl
 have hN:=hE.P.ok.ju;refine E2 hE f ids lo hi wq h1 h2 hV w _ lv (ElF.el hF) (kL.at (k:=2) rfl) (Sat.pack (L:=[]) H) R λv w' h=>hR v w' (λm hm=>?_) (by omega) ?_
 ·obtain⟨k,hk,hm⟩:=List.mem_flatMap.1 hm;obtain⟨_,l,_,hl⟩:=wq.mem k hk;exact E0 (λn hn=>(hE.oL (bR _ _) hn).2.2) (by omega) f k l hl m hm
 ·have h3:Sat wB w' [lL v (ids.flatMap (cK pg X.aK f)),Fr,mV fb cb gb nb G K g,lL lv ids]:=h.unpack (i:=0) rfl;exact(Sat.pack (L:=[_]) (M:=[Fr,lL lv ids,lL v (ids.flatMap (cK pg X.aK f))]) (h3.pick [2,1,3,0])).pick [1,0]
theorem RV(hF:gR wB Fr){a b f:Nat}(YJ:Hw wB X pg cv fb cb gb nb G a)(Y':Hw wB X pg cv fb cb gb nb G b)(ha:a<f)(hb:b<f)(Yv:∃r,Vis pg.ns r a)(Yu:∃r,Vis pg.ns r b){l:List Nat}{sv:Value}(hl:∀m∈l,m<=100000)(bm:kL wB Fr sv l)(hn:l.length<=1000000){bx sx nx:Nat}
  (hx:∀(w':World)(L:List As)(i:Nat),Sat wB w' L->L[i]?=some Fr->(w'.cell? ⟨bx,0,none⟩=some (.pointer (some ⟨fb,0,none⟩))/\bx<w'.heap.size)/\(w'.cell? ⟨sx,0,none⟩=some sv/\sx<w'.heap.size)/\w'.cell? ⟨nx,1,none⟩=some (.int .i64 (a:Nat))/\w'.cell? ⟨nx,2,none⟩=some (.int .i64 (b:Nat))/\nx<w'.heap.size)
  (H:Sat wB w [Fr,mV fb cb gb nb G K g]) {R:EW}
  (hR:∀K2 w',Sat wB w' [Fr,mV fb cb gb nb G K2 (fA pg X.aK cv G f b (fA pg X.aK cv G f a (ll K l,g))).2]->R (.returned (.tuple #[])) w'):Calls prog 181 #[.pointer (some ⟨bx,0,none⟩),.pointer (some ⟨sx,0,none⟩),.pointer (some ⟨nx,0,none⟩)] w R:=by
 obtain⟨⟨x0,wR⟩,⟨s0,aad⟩,_,_,_⟩:=hx w _ 0 H rfl;obtain⟨va,vc,rfl⟩:=ag (bm w _ 0 H rfl);have HX:=qh hx;have HR:=qh hR;have HA:=qh (λw h R hR=>YJ f ha (ll K l,g) w Fr hF h Yv R hR);have HB:=qh (λq w h R hR=>Y' f hb q w Fr hF h Yu R hR);have HG:=qh (λR=>j5 (R:=R) hl bm hn H);clear hR YJ Y' hx Yv Yu hF bm H;go_in;go_wp2_with fail;refine HG.o _ (λw3 h3=>?_);obtain⟨⟨x0,wR⟩,_,n1,_,pJ⟩:=HX.o w3 _ 0 h3 rfl;have H3:=qh h3;clear h3 s0 aad;go_wp2_with fail;refine HA.o w3 H3.o _ (λw4 h4=>?_);obtain⟨⟨x0,wR⟩,_,_,n2,pJ⟩:=HX.o w4 _ 0 h4 rfl;have H4:=qh h4;clear h4 n1;go_wp2_with fail;refine HB.o _ w4 H4.o _ (λw5 h5=>?_);have HE:=qh (HR.o _ w5 h5);clear h5;go_wp2;go_end0;exact HE.o
theorem G9(hF:gR wB Fr){nd:Nd}{lv:Value}{f:Nat}(hC:Hw wB X pg cv fb cb gb nb G nd.a)(hm:nd.a<f)(hv:∃r,Vis pg.ns r nd.a)(bm:kL wB Fr lv nd.list)(wg:∀p∈nd.list,p<=100000)(hn:nd.list.length<=1000000){bx nx:Nat}(adV:bx≠fb)(adj:nx≠fb)
  (hx:∀(w':World)(L:List As)(i:Nat),Sat wB w' L->L[i]?=some Fr->(w'.cell? ⟨bx,0,none⟩=some (.pointer (some ⟨fb,0,none⟩))/\bx<w'.heap.size)/\w'.cell? ⟨nx,1,none⟩=some (.int .i64 (nd.a:Nat))/\w'.cell? ⟨nx,4,none⟩=some lv/\nx<w'.heap.size)
  (H:Sat wB w [Fr,mV fb cb gb nb G K g]) {R:EW}
  (hR:∀K2 w',Sat wB w' [Fr,mV fb cb gb nb G K2 (fA pg X.aK cv G f nd.a (pT G nd.list,g)).2]->R (.returned (.tuple #[])) w'):Calls prog 261 #[.pointer (some ⟨bx,0,none⟩),.pointer (some ⟨nx,0,none⟩)] w R:=by
 obtain⟨⟨x0,wR⟩,n1,n4,pJ⟩:=hx w _ 0 H rfl;obtain⟨va,vc,rfl⟩:=ag (bm w _ 0 H rfl);obtain⟨kb,h1⟩:=H.jZ;have f2:=h1.cell 1 rfl 2 rfl;have ZU:=h1.free 1 rfl 2;have CB:=h1.lt 1 rfl;have h2:=(((h1.store 1 rfl 2 (.map (some w.heap.size))).O2 w.heap.size).pick [0,1,2,5,4]:Sat wB _ (Fr::BQ fb cb gb w.heap.size nb G (λ_=>none) g))
 have Hv:=@run_makeMap prog;have HX:=qh hx;have HR:=qh hR;have HC:=qh (λw h R hR=>hC f hm (pT G nd.list,g) w Fr hF h hv R hR);have du:=qh bm;have Tw:=qh wg;have H2:=qh h2;clear hR hC hx hv hF bm wg H h1 h2;go_in;go_wp2_with fail;generalize w.heap.size=vA at*
 go_loopw [13] (λi wr=>∃(j:Nat),i=.int .i64 j/\j<=nd.list.length/\Hq (Sat wB wr (Fr::BQ fb cb gb vA nb G (pT G (nd.list.take j)) g))) (λi _=>nd.list.length-(intOf i).toNat)
 case atStart=>exact⟨0,rfl,Nat.zero_le _,by show Sat _ _ _;rw[show pT G (nd.list.take 0)=λ_=>none from by funext k;simp[pT]];exact H2.o⟩
 case round=>
  obtain⟨j,rfl,hj,hS⟩:=hrel;clear n1 n4 pJ x0 wR f2 ZU CB H2;obtain⟨⟨x0,wR⟩,n1,_,pJ⟩:=HX.o wr _ 0 hS.out rfl;by_cases a_:j<nd.list.length
  ·obtain⟨gl,jB,e,ku,d0⟩:=ints_at (du.o wr _ 0 hS.out rfl) j a_;cases e;have f1:=hS.out.cell 1 rfl 1 rfl;have f2:=hS.out.cell 1 rfl 2 rfl;have CB:=hS.out.lt 1 rfl;obtain⟨D,tG,pD⟩:=hS.out.fi 2 rfl;have hp:=Tw.o _ (gM a_);have bu:=yN underlying102 tG pD hp;have HT:=qh pD.2.2.2;have UA:=qh (λt=>Fx (G:=G) a_ (t:=t));have Vx:=qh (FN (G:=G) a_);generalize nd.list[j]=p at*
   clear tG pD;cases hG:G p with
   |none=>
    rw[hG]at bu
    have KV:=qh (Vx.o hG);go_wp2;go_roundw
    case rel=>exact⟨j+1,by go_num,by omega,by show Sat _ _ _;rw[<-KV.o];exact hS.out⟩
    case measure=>simp[intOf];omega
   |some t=>
    rw[hG]at bu
    have KV:=qh (UA.o t hG);obtain⟨w7,r7,h7⟩:=hS.out.JH 3 rfl underlying174 hp (HT.o p t hG);have H7:=qh h7;clear h7;go_wp2;go_roundw
    case rel=>exact⟨j+1,by go_num,by omega,by show Sat _ _ _;rw[<-KV.o];exact H7.o⟩
    case measure=>simp[intOf];omega
  ·have gO:j=nd.list.length:=by omega
   have h6:=hS.out;rw[gO,List.take_length]at h6
   have H6:=qh h6.nH;clear h6 gO hS;go_wp2_with fail;refine HC.o _ H6.o _ (λw5 h5=>?_);have HE:=qh (HR.o _ w5 h5);clear h5;go_wp2;go_end0;exact HE.o
abbrev vZ(fb:Nat):Obj:=.cells #[.pointer (some ⟨fb,0,none⟩)] 173 (0,0)
theorem Kp(hF:gR wB Fr){nd:Nd}{lv:Value}{f:Nat}(hC:Hw wB X pg cv fb cb gb nb G nd.a)(hm:nd.a<f)(hv:∃r,Vis pg.ns r nd.a)(bm:wB.ownsRow 0 3 1 lv nd.list.length (nd.list.map aO))(wg:∀p∈nd.list,p<=100000)(hn:nd.list.length<=1000000)
  (H:Sat wB w [Fr,mV fb cb gb nb G K g]) {R:EW}
  (hR:∀w',Sat wB w' [Fr,mV fb cb gb nb G K (fA pg X.aK cv G f nd.a (pT G nd.list,g)).2]->R (.returned (.tuple #[])) w'):Calls prog 172 #[.pointer (some ⟨fb,0,none⟩),aG nd lv] w R:=by
 have h1:=(H.aj (vZ fb) w.heap.size).aj (az nd lv) (w.heap.size+1);have h2:=(Sat.pack (L:=[_]) (M:=[Fr,av w.heap.size (vZ fb),av (w.heap.size+1) (az nd lv)]) (h1.pick [1,0,2,3])).pick [1,0];obtain⟨la,lc,rfl⟩:=ag bm;have H2:=qh h2;have HR:=qh hR;have HF:=qh hF;have HC:=qh hC;have du:=qh bm;have Tw:=qh wg;have HV:=qh hv;have HH:=qh h1;have Hu:∀(fn:Fn)(first cap:Array Value)(w:World),(Instr.makeFunc fn first cap).run prog w=.ok (.func fn first cap) w:=λ_ _ _ _=>rfl
 clear hR hC hv hF bm wg H h1 h2;dsimp only[aG];go_in;go_wp2_with fail;refine j' 261 _ Tryz.call261 (g2:=(fA pg X.aK cv G f nd.a (pT G nd.list,g)).2) H2.o (λvA w1 h R' sj=>?_) (λw8 h8=>?_)
 ·obtain⟨aaO,g1⟩:=HH.o.at 1 rfl|>.jZ;have g2:=g1.unpack (i:=0) rfl;refine G9 HF.o.ah.ah HC.o hm HV.o (λw' L i hs hi=>ay du.o (HF.o.ah.ah w' L i hs hi)) Tw.o hn (g2.ne 5 0 (by decide) rfl rfl) (g2.ne 6 0 (by decide) rfl rfl) (λw' L i hs hi=>?_) h (λK2 w' h'=>sj K2 w' h');have u1:=(hs.unpack hi).at ((L.eraseIdx i).length) (by rw[List.getElem?_append_right (by omega),Nat.sub_self];rfl);have u2:=u1.unpack (i:=1) rfl;exact⟨⟨u2.cell 2 rfl 0 rfl,u2.lt 2 rfl⟩,u2.cell 3 rfl 1 rfl,u2.cell 3 rfl 4 rfl,u2.lt 3 rfl⟩
 ·have HE:=qh (HR.o w8 ((h8.unpack (i:=0) rfl).pick [1,0]));clear h8;go_wp2;go_end0;exact HE.o
end
section
open Ty (Tr Ck il)
theorem qB{w0 w:World}{Fr:As}(H:Sat w0 w [Fr])(s:BA)(hw:Words w)(hm:s.size<=maxLen){l:List Ty.Sm}(hl:∀pg:Ty.Pg,Ty.parse s=.ok pg->eu 0 l []=(pg.ns,pg.main)){R:EW}
  (aH:∀(pg:Ty.Pg) v c ov gs w',xi s l=.ok (pg,v,c)->gs.Perm (gC pg (qN v) c (pg.main+1) pg.main [])->gs.Pairwise (λx y=>x.1<=y.1)->Sat w0 w' [Fr,oJ ov gs]->R (.returned (.tuple #[ov,bO (0,0)])) w')
  (au:∀f w',xi s l=.error f->Sat w0 w' [Fr]->R (.returned (.tuple #[.slice none 0 0,bO f])) w'):
  Calls prog 25 #[.string s] w R:=by
 have aX:=qh aH;have aB:=qh au;have HW:=qh hw;have Co:=qh hm;have HL:=qh hl;have H1:=qh (Sat.pack (L:=[]) (H.aj (.cells #[.int .i64 0,.int .i64 0] 25) w.heap.size));clear aH au hw hm hl H;go_in;go_wp2_with fail;refine uL H1.o s (HW.o.below ((bR _ _).alloc (nR _) _)) Co.o HL.o (λpg X cb ca v nc c ov gs w1 hq I6 LO Il hp hs h2=>?_) (λf w1 hq h2=>?_)
 ·obtain⟨oa,oc,rfl⟩:=ag (h2.row 5 rfl);have h4:Sat w0 w1 [Fr,av w.heap.size (.cells #[.int .i64 0,.int .i64 0] 25 (0,0)),oJ (.slice oa gs.length oc) gs]:=(h2.unpack (i:=0) rfl).pick [5,6,4];have z0:=h4.cell 1 rfl 0 rfl;have z1:=h4.cell 1 rfl 1 rfl;have fz:=h4.free 1 rfl;have hz:=h4.lt 1 rfl;have Ep:w.heap.size<w1.heap.size+1:=by omega
  have HG:=qh (aX.o pg v c (.slice oa gs.length oc) gs · hq hp hs);have H4:=qh h4;clear h2 h4 hq I6 LO Il hp hs H1;generalize gs.length=GL at*
  rw[show bO (0,0)=Value.agg #[.int .i64 0,.int .i64 0]from rfl];go_wp2
  go_region
  all_goals
   go_wp2;refine bodyPost_ret ?_ rfl (HG.o _ ?_)
   ·simp[results,results25,go_sem,bO,hz,z0,z1]
   ·exact((((H4.o.store 1 rfl 0 _).store 1 rfl 1 _).aW _).drew).pick [0,2]
 ·have h4:=(h2.unpack (i:=0) rfl).pick [0,1];obtain⟨fe,fp⟩:=f;have z0:=h4.cell 1 rfl 0 rfl;have z1:=h4.cell 1 rfl 1 rfl;have fz:=h4.free 1 rfl;have hz:=h4.lt 1 rfl;have Ep:w.heap.size<w1.heap.size+1:=by omega
  have H4:=qh h4;have HQ:=qh hq;clear h2 h4 hq H1;dsimp only[bO];go_wp2
  go_region
  all_goals
   go_wp2;refine bodyPost_ret ?_ rfl (aB.o (fe,fp) _ HQ.o ?_)
   ·simp[results,results25,go_sem,bO,hz,z0,z1]
   ·exact((((H4.o.store 1 rfl 0 _).store 1 rfl 1 _).aW _).drew).pick [0]
theorem M7{w:World}{v:Value}{l:il}(h:w.ownsRow 0 62 2 v l.length (l.flatMap cH))(k:Nat)(hk:k<l.length):
  ∃g cap:Nat,v=.slice (some ⟨g,0,none⟩) l.length cap/\g<w.heap.size/\w.cell? ⟨g,k*2,none⟩=some (.int .i64 (l[k].1:Nat))/\w.cell? ⟨g,k*2+1,none⟩=some (.int .i64 (l[k].2:Nat)):=by
 obtain⟨g,cap,rfl,_,hg⟩:=h.form (by omega);have hc:=λj u hj=>World.ownsRow.cells h (g:=g) rfl j u hj
 have hf:=jn cH 2 (λ_=>rfl) l k hk;refine⟨g,cap,rfl,hg,?_,?_⟩
 ·have:=hc (k*2+0) _ (by rw[hf 0 (by omega)];rfl);rwa [Addr.add_lit,Nat.zero_add]at this
 ·have:=hc (k*2+1) _ (by rw[hf 1 (by omega)];rfl);rwa [Addr.add_lit,Nat.zero_add]at this
end
end Go.Proofs.YtdlbhiaceheffabGreatDoor
