/- Walk of the parser's object. -/
import Derived.Defers
import Derived.Recover
import Derived.Test.YtdlbhiaceheffabGreatDoorC04
set_option linter.all false
set_option maxRecDepth 100000
set_option maxHeartbeats 2000000
namespace Go.Proofs.YtdlbhiaceheffabGreatDoor
open Go Go.RowKit Ty Tok Prt Tryz Proofs.Tryz
theorem uW: (prog.info? 9).map (λi=>(i.zero,i.size,i.bytes))=some (some (.string ⟨#[]⟩),1,16):=by kernel_rfl
theorem NA: (prog.info? 141).map (λi=>(i.zero,i.size,i.bytes))=some (some (.agg #[.string ⟨#[]⟩,.int .i64 0]),2,24):=by kernel_rfl
theorem sF{v:Value}{l:List BA}{x:BA}{a:Prt.Hp}(h:Prt.row 9 1 v (l.length+1) (l.map Value.string++[.string x]) a):pB v (l++[x]) a:=by
 unfold pB;rw[List.length_append,List.map_append];exact h
theorem Md{v:Value}{l:List (BA×Nat)}{x:BA}{n:Nat}{a:Prt.Hp}(h:Prt.row 141 2 v (l.length+1) (l.flatMap c9++[.string x,.int .i64 (n:Nat)]) a):Cf v (l++[(x,n)]) a:=by
 unfold Cf;rw[List.length_append,List.flatMap_append];exact h
theorem E_{ad:List Tok.Tk}{d:Nat}{T:Ty.M Nat}(fR:eO 120 ad d T)(hT:bh 1 0 0 T):eO 266 ad d (Ty.object ad T):=by
 intro w0 w Fr pb st H R aD au;have cm:=H.look;have ig:=cm.fits.1;have kG:=cm.wf.1;obtain⟨i0,ti,oB,oA,oy⟩:=info_parts uW;obtain⟨j0,tj,uA,uI,uy⟩:=info_parts NA;go_enter func266,ntmps266;go_wp2;go_loopw [3,4] (λv u wr=>∃(f:Nat)(l:List (BA×Nat))(ns:List BA)(s:Ty.St),s.pos<ad.length/\ad.length<s.pos+f/\l.length<=s.pos/\ns.length<=s.pos/\Hq (ns=l.map Prod.fst)/\Hq (Sat w0 wr [Fr,aT pb d ad s,Cf v l,pB u ns])/\Hq (Ty.object ad T st=Ty.ak (Ty.fields ad T f l) (λl=>Ty.aP ⟨7,l,[],0⟩) s))
  (λ_ _ wr=>ad.length-posOf pb wr)
 case atStart=>exact⟨ad.length+1,[],[],st,ig,by omega,by simp,by simp,rfl,(H.nil _ _).nil _ _,rfl⟩
 case round=>
  obtain⟨f,l,ns,s,Ko,Uc,pG,Zz,yo,hS,hE⟩:=hrel;obtain⟨f,rfl⟩:∃g,f=g+1:=⟨f-1,by omega⟩
  obtain⟨a3,c3,rfl⟩:=ag (hS.out.row 2);obtain⟨a4,c4,rfl⟩:=ag (hS.out.row 3);have abL:=dq (hS.out.pick [0,1]).look;go_wp2_with fail;refine cB (hS.out.at 1 rfl) ⟨#[125]⟩ (λw1 hi h1=>?_) (λw1 hi h1=>?_)
  ·have H1:=qh h1.oH;have D_:Hq (Ty.object ad T st=Ty.aP ⟨7,l,[],0⟩ {s with pos:=s.pos+1}):=by
    rw[hE.out,Ty.fields];unfold Ty.ak;rw[hi];rfl
   have WE:s.ts.length<=s.pos:=(hS.out.pick [0,1]).look.fits.2.2.1;go_wp2_with fail;refine jP ⟨7,l,[],0⟩ _ (.slice none 0 0) ((H1.o.nil 3 1).pick [0,1,2,4]) (by show s.ts.length+1<=s.pos+1;omega) (λw2 h2=>?_);have H2:=qh h2;go_wp2;exact aD _ _ _ D_.o H2.o
  ·have H1:=qh h1.oH;have D_:Hq (Ty.object ad T st=Ty.ak (Ty.ak (Ty.name ad ns) λx=>Ty.ak (Ty.need ad [58]) λ_=>Ty.ak T λn=>Ty.ak (Ty.need ad [59]) λ_=>Ty.fields ad T f (l++[(x,n)])) (λl=>Ty.aP ⟨7,l,[],0⟩) s):=by
    rw[hE.out,Ty.fields,yo.out];unfold Ty.ak;rw[hi];rfl
   go_wp2_with fail;refine mY (H1.o.at 1 rfl) _ ns (H1.o.row 3) (by omega) (λx w2 hn h2=>?_) (λx w2 hn h2=>?_)
   ·have mV:=h2.look.fits.1;have H2:=qh h2.oH;have qn:Hq (Ty.object ad T st=Ty.ak (Ty.ak (Ty.need ad [58]) λ_=>Ty.ak T λn=>Ty.ak (Ty.need ad [59]) λ_=>Ty.fields ad T f (l++[(x,n)])) (λl=>Ty.aP ⟨7,l,[],0⟩) {s with pos:=s.pos+1}):=by
     rw[D_.o];unfold Ty.ak;rw[hn];rfl
    dsimp only at mV;go_wp2_with(at_builtin;go_loud(refine wpList_append_lies _ rfl (.tmp 13) (.tmp 15) 161 rfl 0 9 i0 _ 1 16 underlying161 ti oB oA oy rfl (by decide) _ _ (ns.map Value.string) (by rfl) ((H2.o.row 3).alloc _) ⟨w2.heap.size,0,none⟩ 1 1 [.string x] (by rfl) (by rfl) (World.news_of_block (cs:=#[.string x]) (t:=9) (fr:=(0,0)) (aC _ _ _ (by simp))) (by simp[Value.oneCell']) (by omega) (by unfold maxLen;omega) (by omega) (by simp) (w2.heap.size+1) (by simp) ?_));intro g cap w3 ga fm qO A9;have h3:=Sat.grow (H2.o.aU _) 3 rfl fm ga (by simpa using qO);have h3:=h3.cQ (i:=3) rfl (Q:=pB _ (ns++[x])) (λ_ h=>sF h);go_wp2_with fail;refine cS (h3.at 1 rfl) ⟨#[58]⟩ (λw4 hn h4=>?_) (λe w4 hn h4=>?_)
    ·have H4:=qh h4.oH;have vD:Hq (Ty.object ad T st=Ty.ak (Ty.ak T λn=>Ty.ak (Ty.need ad [59]) λ_=>Ty.fields ad T f (l++[(x,n)])) (λl=>Ty.aP ⟨7,l,[],0⟩) {s with pos:=s.pos+2}):=by
      rw[qn.o];unfold Ty.ak;rw[hn];rfl
     go_wp2_with fail;refine fR _ _ _ pb _ (H4.o.at 1 rfl) _ (λn s5 w5 hm h5=>?_) (λe w5 hm h5=>?_)
     ·have ae4:s.pos+2<s5.pos:=by have:=hT _ _ _ hm;dsimp only at this;omega
      have H5:=qh h5.oH;have Xf:Hq (Ty.object ad T st=Ty.ak (Ty.ak (Ty.need ad [59]) λ_=>Ty.fields ad T f (l++[(x,n)])) (λl=>Ty.aP ⟨7,l,[],0⟩) s5):=by
       rw[vD.o];unfold Ty.ak;rw[show T {s with pos:=s.pos+2}= _ from hm];rfl
      go_wp2_with fail;refine cS (H5.o.at 1 rfl) ⟨#[59]⟩ (λw6 hn h6=>?_) (λe w6 hn h6=>?_)
      ·have QR:=h6.look.fits.1;have H6:=qh h6.oH;have Au:Hq (Ty.object ad T st=Ty.ak (Ty.fields ad T f (l++[(x,n)])) (λl=>Ty.aP ⟨7,l,[],0⟩) {s5 with pos:=s5.pos+1}):=by
        rw[Xf.o];unfold Ty.ak;rw[show Ty.need ad [59] s5= _ from hn];rfl
       dsimp only at QR;go_wp2_with(at_builtin;go_loud(refine wpList_append_lies _ rfl (.tmp 23) (.tmp 27) 67 rfl 0 141 j0 _ 2 24 underlying67 tj uA uI uy rfl (by decide) _ _ (l.flatMap c9) (by rfl) ((H6.o.row 2).alloc _) ⟨w6.heap.size,0,none⟩ 1 1 [.string x,.int .i64 (n:Nat)] (by rfl) (by rfl) (World.news_of_block (cs:=#[.string x,.int .i64 (n:Nat)]) (t:=141) (fr:=(0,0)) (aC _ _ _ (by simp))) (by simp[Value.oneCell']) (by omega) (by unfold maxLen;omega) (by omega) (by simp) (w6.heap.size+1) (by simp) ?_));intro g7 Z6 w7 X0 SC abG ad2;have h7:=Sat.grow (H6.o.aU _) 2 rfl SC X0 (by simpa using abG);have h7:=h7.cQ (i:=2) rfl (Q:=Cf _ (l++[(x,n)])) (λ_ h=>Md h);have h7:Sat w0 w7 [Fr,aT pb d ad {s5 with pos:=s5.pos+1},Cf (.slice (some ⟨g7,0,none⟩) (l.length+1) Z6) (l++[(x,n)]),pB (.slice (some ⟨g,0,none⟩) (ns.length+1) cap) (ns++[x])]:=h7;have Tj:=dq (h7.pick [0,1]).look;go_wp2;go_roundw
       case rel=>exact⟨f,l++[(x,n)],ns++[x],{s5 with pos:=s5.pos+1},QR,by dsimp only;omega,by simp;omega,by simp;omega,by rw[yo.out,List.map_append];rfl,h7,Au.o⟩
       case measure=>rw[abL,Tj];dsimp only;omega
      ·have Au:Hq (Ty.object ad T st=.error e):=by
        rw[Xf.o];unfold Ty.ak;rw[show Ty.need ad [59] s5= _ from hn];rfl
       have H6:=qh h6.out;go_wp2_with fail;exact⟨rfl,au _ _ Au.o H6.o⟩
     ·have Au:Hq (Ty.object ad T st=.error e):=by
       rw[vD.o];unfold Ty.ak;rw[show T {s with pos:=s.pos+2}= _ from hm];rfl
      have H5:=qh h5.out;go_wp2_with fail;exact⟨rfl,au _ _ Au.o H5.o⟩
    ·have Au:Hq (Ty.object ad T st=.error e):=by
      rw[qn.o];unfold Ty.ak;rw[hn];rfl
     have H5:=qh h4.out;go_wp2_with fail;exact⟨rfl,au _ _ Au.o H5.o⟩
   ·have Au:Hq (Ty.object ad T st=.error x):=by
     rw[D_.o];unfold Ty.ak;rw[hn];rfl
    have H5:=qh h2.out;go_wp2_with fail;exact⟨rfl,au _ _ Au.o H5.o⟩
def fU:List BA:=[⟨#[]⟩,⟨#[110,117,109]⟩,⟨#[98,111,111,108]⟩,⟨#[116,101,120,116]⟩,⟨#[110,117,108,108]⟩,⟨#[97,110,121]⟩,⟨#[117,110,107,110,111,119,110]⟩]
theorem OA(x:BA): (0<bI x->Lib.idxOfS fU x=bI x/\bI x<=6)/\(bI x=0->Lib.idxOfS fU x<=0/\-1<=Lib.idxOfS fU x):=by
 obtain⟨⟨l⟩⟩:=x;by_cases h1:l=[110,117,109]
 ·subst h1;decide
 by_cases h2:l=[98,111,111,108]
 ·subst h2;decide
 by_cases h3:l=[116,101,120,116]
 ·subst h3;decide
 by_cases h4:l=[110,117,108,108]
 ·subst h4;decide
 by_cases h5:l=[97,110,121]
 ·subst h5;decide
 by_cases h6:l=[117,110,107,110,111,119,110]
 ·subst h6;decide
 have e1:bI ⟨⟨l⟩⟩=0:=by
  simp[bI,v8,List.idxOf?_cons,Ne.symm h1,Ne.symm h2,Ne.symm h3,Ne.symm h4,Ne.symm h5,Ne.symm h6]
 have e2:Lib.idxOfS fU ⟨⟨l⟩⟩= -1\/Lib.idxOfS fU ⟨⟨l⟩⟩=0:=by
  by_cases h0:l=[]
  ·subst h0;decide
  ·left;simp[Lib.idxOfS,Lib.idxFromS,fU,Ne.symm h0,Ne.symm h1,Ne.symm h2,Ne.symm h3,Ne.symm h4,Ne.symm h5,Ne.symm h6]
 exact⟨λh=>absurd h (by omega),λ_=>by omega⟩
theorem pR(a b c:Value)(w:World): (Instr.field 138 (.agg #[a,b,c]) 0).run prog w=.ok a w:=by kernel_rfl
theorem pP(a b c:Value)(w:World): (Instr.field 138 (.agg #[a,b,c]) 1).run prog w=.ok b w:=by kernel_rfl
def vX:Array Value:=#[.string ⟨#[]⟩,.string ⟨#[110,117,109]⟩,.string ⟨#[98,111,111,108]⟩,.string ⟨#[116,101,120,116]⟩,.string ⟨#[110,117,108,108]⟩,.string ⟨#[97,110,121]⟩,.string ⟨#[117,110,107,110,111,119,110]⟩]
theorem Ha(w:World)(b:Nat)(hb:w.heap[b]?=some (.cells vX 9 (0,0)))(x:BA){R:EW}(hR:R (.returned (.int .i64 (Lib.idxOfS fU x))) w):
  Calls prog 265 #[.slice (some ⟨b,0,none⟩) 7 7,.string x] w R:=by
 refine(Tryz.slices_Index_string b 0 7 7 fU x w (by decide) (by omega) (λj hj=>?_)).mono ?_
 ·rw[cell_of_block hb]
  match j,hj with
  |0,_=>rfl
  |1,_=>rfl
  |2,_=>rfl
  |3,_=>rfl
  |4,_=>rfl
  |5,_=>rfl
  |6,_=>rfl
 ·rintro e w' ⟨rfl,rfl⟩
  exact hR
theorem Fi{ad:List Tok.Tk}{d:Nat}{T:Ty.M Nat}(fR:eO 120 ad d T)(hT:bh 1 0 0 T):eO 185 ad d (Ty.single ad T):=by
 intro w0 w Fr pb st H R aD au;have cm:=H.look;have qL:=cm.fits.2.2.1;have kG:=cm.wf.1;have bz:=λh1: (Ty.cur ad st.pos).kind=2=>ve cm.fits.1 cm.wf (by omega)
 have HN:=qh (λw1(hb:PRd w1 pb d ad st) R=>@gP w1 pb d ad st hb R);have XW:=qh (KC fR hT);have afx:=qh (E_ fR hT);unfold Ty.single at aD au;generalize Ty.cur ad st.pos=t at*
 obtain⟨kd,tx,ps⟩:=t;have hk:=OA tx;dsimp only at aD au bz;have zk: (kd=2/\0<bI tx)\/(kd=2/\bI tx=0)\/kd≠2:=by omega
 rcases zk with⟨sB,Ws⟩|XG
 ·obtain⟨CZ,qR⟩:=hk.1 Ws;have gR:=bz sB;have k1: ((kd:Int)==2)=true:=by simp[sB]
  have ZU:=pR;have Uc:=pP;go_enter func185,ntmps185;go_wp2_with fail;refine HN.o _ (H.aU _).look _ (λw1 cd=>?_);dsimp only[bV];have hv:w1.heap[w.heap.size]?=some (.cells vX 9 (0,0)):=(cd.block _ (by simp)).trans (heap_alloc_new w _);have HV:=qh hv;have H1:=qh ((H.aU _).below cd);go_wp2_with fail;refine Ha w1 _ HV.o tx ?_;rw[CZ];go_wp2_with fail;refine HN.o _ H1.o.look _ (λw2 aW=>?_);dsimp only[bV];have h2:=H1.o.below aW;obtain⟨c1,_,f0⟩:=h2.look.cells;have H2:=qh h2;go_wp2_with fail;have h3:=H2.o.setPos (st.pos+1) gR (by omega);refine jP ⟨bI tx,[],[],0⟩ (.slice none 0 0) (.slice none 0 0) ((h3.nil 141 2).nil 3 1) (by dsimp only;omega) (λw3 h4=>?_);have H4:=qh h4;go_wp2;exact aD _ _ _ (by rw[if_pos ⟨sB,Ws⟩];rfl) H4.o
 ·have HK:Hq (Lib.idxOfS fU tx=Lib.idxOfS fU tx):=rfl;generalize Bo:Lib.idxOfS fU tx=k at*
  have aek:=hk.2;have DO:Hq (¬(kd=2/\bI tx>0)):=by show¬_;omega
  have zk: (((kd:Int)==2)=true/\decide (0<k)=false)\/((kd:Int)==2)=false:=by
   rcases XG with⟨h1,h2⟩|h1
   ·exact .inl ⟨by simp[h1],by have:=aek h2;simp;omega⟩
   ·right;simp;omega
  have ZU:=pR;have Uc:=pP;go_enter func185,ntmps185;go_wp2_with fail;refine HN.o _ (H.aU _).look _ (λw1 cd=>?_);dsimp only[bV];have hv:w1.heap[w.heap.size]?=some (.cells vX 9 (0,0)):=(cd.block _ (by simp)).trans (heap_alloc_new w _);have HV:=qh hv;have H1:=qh ((H.aU _).below cd);go_wp2_with fail;refine Ha w1 _ HV.o tx ?_;rw[Bo];go_wp2_with fail;refine HN.o _ H1.o.look _ (λw2 aW=>?_);dsimp only[bV];have H2:=qh (H1.o.below aW);rcases zk with⟨k1,k2⟩|k1;all_goals
   go_wp2_with fail;refine cB H2.o ⟨#[123]⟩ (λw3 hi h3=>?_) (λw3 hi h3=>?_)
   ·have H3:=qh h3;have HI:=qh hi;go_wp2_with fail;refine afx.o _ _ _ pb _ H3.o _ (λn s4 w4 hm h4=>?_) (λe w4 hm h4=>?_)
    ·have H4:=qh h4;have HM:=qh hm;go_wp2;exact aD _ _ _ (by rw[if_neg DO.o,aj HI.o,if_pos rfl];exact HM.o) H4.o
    ·have H4:=qh h4;have HM:=qh hm;go_wp2_with fail;exact⟨rfl,au _ _ (by rw[if_neg DO.o,aj HI.o,if_pos rfl];exact HM.o) H4.o⟩
   ·have H3:=qh h3;have HI:=qh hi;go_wp2_with fail;refine cB H3.o ⟨#[91]⟩ (λw4 hj h4=>?_) (λw4 hj h4=>?_)
    ·have H4:=qh h4;have HJ:=qh hj;go_wp2_with fail;refine fR _ _ _ pb _ H4.o _ (λn s5 w5 hm h5=>?_) (λe w5 hm h5=>?_)
     ·have qZ:=hT _ _ _ hm;have H5:=qh h5;have HM:=qh hm;go_wp2_with fail;refine cS H5.o ⟨#[93]⟩ (λw6 hn h6=>?_) (λe w6 hn h6=>?_)
      ·have H6:=qh h6;have xP:=qh hn;go_wp2_with fail;refine jP ⟨8,[],[],n⟩ (.slice none 0 0) (.slice none 0 0) ((H6.o.nil 141 2).nil 3 1) (by dsimp only at*;omega) (λw7 h7=>?_);go_wp2;exact aD _ _ _ (by rw[if_neg DO.o,aj HI.o,if_neg (by simp),aj HJ.o,if_pos rfl,aj HM.o,aj xP.o];rfl) h7
      ·have H6:=qh h6;have xP:=qh hn;go_wp2_with fail;exact⟨rfl,au _ _ (by rw[if_neg DO.o,aj HI.o,if_neg (by simp),aj HJ.o,if_pos rfl,aj HM.o,aL xP.o]) H6.o⟩
     ·have H5:=qh h5;have HM:=qh hm;go_wp2_with fail;exact⟨rfl,au _ _ (by rw[if_neg DO.o,aj HI.o,if_neg (by simp),aj HJ.o,if_pos rfl,aL HM.o]) H5.o⟩
    ·have H4:=qh h4;have HJ:=qh hj;go_wp2_with fail;refine cS H4.o ⟨#[40]⟩ (λw5 hn h5=>?_) (λe w5 hn h5=>?_)
     ·have H5:=qh h5;have xP:=qh hn;go_wp2_with fail;refine XW.o _ _ _ pb _ H5.o _ (λn s6 w6 hm h6=>?_) (λe w6 hm h6=>?_)
      ·have H6:=qh h6;have HM:=qh hm;go_wp2;exact aD _ _ _ (by rw[if_neg DO.o,aj HI.o,if_neg (by simp),aj HJ.o,if_neg (by simp),aj xP.o];exact HM.o) H6.o
      ·have H6:=qh h6;have HM:=qh hm;go_wp2_with fail;exact⟨rfl,au _ _ (by rw[if_neg DO.o,aj HI.o,if_neg (by simp),aj HJ.o,if_neg (by simp),aj xP.o];exact HM.o) H6.o⟩
     ·have H5:=qh h5;have xP:=qh hn;go_wp2_with fail;exact⟨rfl,au _ _ (by rw[if_neg DO.o,aj HI.o,if_neg (by simp),aj HJ.o,if_neg (by simp),aL xP.o]) H5.o⟩
theorem Pb{ad:List Tok.Tk}{d:Nat}{S:Ty.M Nat}(fR:eO 185 ad d S)(hS:bh 1 0 0 S)(w0 w:World)(Fr:As)(pb xb:Nat)(st:Ty.St)(H:Sat w0 w [Fr,aT pb d ad st])(hx:∀w',Sat w0 w' [Fr]->w'.cell? ⟨xb,0,none⟩=some (.pointer (some ⟨pb,0,none⟩))){R:EW}
  (aD:∀n st2 w2,Ty.union ad S st=.ok (n,st2)->Sat w0 w2 [Fr,aT pb d ad st2]->R (.returned (.int .i64 (n:Nat))) w2)
  (au:∀f w2,Ty.union ad S st=.error f->Sat w0 w2 [Fr]->R (.panicked (aO f)) w2):Calls prog 184 #[.pointer (some ⟨xb,0,none⟩)] w R:=by
 have HA:=qh hS;have cm:=H.look;have qL:=cm.fits.2.2.1;have kG:=cm.wf.1;have x0:=hx w (H.pick [0]);obtain⟨i0,ti,oB,oA,oy⟩:=info_parts jA;go_in;go_wp2_with fail;refine fR _ _ _ pb _ H _ (λn s1 w1 hm h1=>?_) (λe w1 hm h1=>?_)
 ·have qZ:=HA.o _ _ _ hm;have jH:=h1.look.fits.1;have h2:=h1.ar (.cells #[.int .i64 (n:Nat)] 3) w1.heap.size;have h3:=h2.cQ (i:=2) rfl (Q:=gi (.slice (some ⟨w1.heap.size,0,none⟩) 1 1) [n]) (λ_ h=>lH h (by decide) rfl rfl);have H3:=qh h3;have D_:Hq (Ty.union ad S st=Ty.ak (Ty.bars ad S (ad.length+1) [n]) (λl=>if l.length=1 then Ty.ret (l.headD 0)else Ty.aP ⟨10,[],l,0⟩) s1):=by
   rw[Ty.union,aj hm];rfl
  go_wp2;go_loopw [2] (λv wr=>∃(f:Nat)(l:List Nat)(s:Ty.St),s.pos<ad.length/\ad.length<s.pos+f/\s.ts.length+l.length<=s.pos+1/\1<=l.length/\Hq (Sat w0 wr [Fr,aT pb d ad s,gi v l])/\Hq (Ty.union ad S st=Ty.ak (Ty.bars ad S f l) (λl=>if l.length=1 then Ty.ret (l.headD 0)else Ty.aP ⟨10,[],l,0⟩) s))
   (λ_ wr=>ad.length-posOf pb wr)
  case atStart=>exact⟨ad.length+1,[n],s1,jH,by omega,by simp;omega,by simp,H3.o,D_.o⟩
  case round=>
   obtain⟨f,l,s,Ko,Uc,pG,By,hS,hE⟩:=hrel;obtain⟨f,rfl⟩:∃g,f=g+1:=⟨f-1,by omega⟩
   obtain⟨a,dt,rfl⟩:=ag (hS.out.row 2);have abL:=dq (hS.out.pick [0,1]).look;have x1:=hx _ (hS.out.pick [0]);go_wp2_with fail;refine cB (hS.out.at 1 rfl) ⟨#[124]⟩ (λw2 hi h2=>?_) (λw2 hi h2=>?_)
   ·have H2:=qh h2.km;have qn:Hq (Ty.union ad S st=Ty.ak (Ty.ak S λn=>Ty.bars ad S f (l++[n])) (λl=>if l.length=1 then Ty.ret (l.headD 0)else Ty.aP ⟨10,[],l,0⟩) {s with pos:=s.pos+1}):=by
     rw[hE.out,Ty.bars];unfold Ty.ak;rw[hi];rfl
    have x2:=hx _ (H2.o.pick [0]);go_wp2_with fail;refine fR _ _ _ pb _ (H2.o.at 1 rfl) _ (λn s3 w3 hm h3=>?_) (λe w3 hm h3=>?_)
    ·have XL:=HA.o _ _ _ hm;have A9:=h3.look.fits.1;have H3:=qh h3.km;have vD:Hq (Ty.union ad S st=Ty.ak (Ty.bars ad S f (l++[n])) (λl=>if l.length=1 then Ty.ret (l.headD 0)else Ty.aP ⟨10,[],l,0⟩) s3):=by
      rw[qn.o];unfold Ty.ak;rw[hm];rfl
     dsimp only at XL;go_wp2_with(at_builtin;go_loud(refine wpList_append_lies _ rfl (.tmp 8) (.tmp 11) 39 rfl 0 3 i0 _ 1 8 underlying39 ti oB oA oy rfl (by decide) _ _ (l.map aQ) (by rfl) ((H3.o.row 2).alloc _) ⟨w3.heap.size,0,none⟩ 1 1 [.int .i64 (n:Nat)] (by rfl) (by rfl) (World.news_of_block (cs:=#[.int .i64 (n:Nat)]) (t:=3) (fr:=(0,0)) (aC _ _ _ (by simp))) (by simp[Value.oneCell']) (by omega) (by unfold maxLen;omega) (by omega) (by simp) (w3.heap.size+1) (by simp) ?_));intro g cap w4 cy bD gV o_;have h4:=Sat.grow (H3.o.aU _) 2 rfl bD cy (by simpa using gV);have h4:=h4.cQ (i:=2) rfl (Q:=gi _ (l++[n])) (λ_ h=>jd h);have h4:Sat w0 w4 [Fr,aT pb d ad s3,gi (.slice (some ⟨g,0,none⟩) (l.length+1) cap) (l++[n])]:=h4;have Tj:=dq (h4.pick [0,1]).look;go_wp2;go_roundw
     case rel=>exact⟨f,l++[n],s3,A9,by omega,by simp;omega,by simp,h4,vD.o⟩
     case measure=>rw[abL,Tj];omega
    ·have vD:Hq (Ty.union ad S st=.error e):=by
      rw[qn.o];unfold Ty.ak;rw[hm];rfl
     have H3:=qh h3.out;go_wp2_with fail;exact⟨rfl,au _ _ vD.o H3.o⟩
   ·have H2:=qh h2.km;have qn:Hq (Ty.union ad S st=(if l.length=1 then Ty.ret (l.headD 0)else Ty.aP ⟨10,[],l,0⟩:Ty.M Nat) s):=by
     rw[hE.out,Ty.bars];unfold Ty.ak;rw[hi];rfl
    have x2:=hx _ (H2.o.pick [0]);by_cases hl:l.length=1
    ·obtain⟨n,rfl⟩:=List.length_eq_one_iff.1 hl;have hn:=H2.o.row 2;obtain⟨g,cap,e,_,_⟩:=hn.form (by simp);cases e;have z2:w2.cell? ⟨g,0,none⟩=some (.int .i64 n):=by have:=World.ownsRow.cells hn (g:=g) rfl 0 _ rfl;rwa [Addr.add_lit]at this
     go_wp2;exact aD _ _ _ (by rw[qn.o];rfl) (H2.o.pick [0,1])
    ·have gR: ((l.length:Int)==1)=false:=by simp;omega
     have Kv:2<=l.length:=by omega
     go_wp2_with fail;refine jP ⟨10,[],l,0⟩ (.slice none 0 0) _ ((H2.o.nil 141 2).pick [0,1,3,2]) (by omega) (λw3 h3=>?_);have H3:=qh h3;go_wp2;exact aD _ _ _ (by rw[qn.o,if_neg hl];rfl) H3.o
 ·have HM:=qh hm;go_wp2_with fail;exact⟨rfl,au _ _ (by rw[Ty.union,aL HM.o]) h1⟩
theorem Iz(ad:List Tok.Tk):∀r,r<=20->eO 120 ad (20-r) (Ty.eJ ad r):=by
 intro r;induction r with
 |zero=>
  intro _ w0 w Fr pb st H R aD au;have fL:=qh aD;have bX:=qh au;have HS:=qh H;go_enter func120,ntmps120;go_wp2_with fail;refine AP (HS.o.aU _) 184 _ Tryz.call184 (Ty.fail ad 8) (λh=>absurd h (by omega)) (λn st2 w2 h=>absurd h (by omega)) (λf w2 _ he h2=>?_);have hf:=he rfl;have HF:=qh hf;have H2:=qh h2;clear he hf h2;go_wp2_with fail;exact⟨rfl,bX.o _ _ (by rw[HF.o];rfl) H2.o⟩
 |succ r ih=>
  intro hr w0 w Fr pb st H R aD au;have ab6:20-(r+1)+1=20-r:=by omega
  have abb:=Fi (ih (by omega)) (rG ad r);rw[<-ab6]at abb
  have YV:=qh abb;have fL:=qh aD;have bX:=qh au;have HS:=qh H;have hd:20-(r+1)<20:=by omega
  generalize 20-(r+1)=d at*
  clear aD au H ih ab6 abb;go_enter func120,ntmps120;go_wp2_with fail;have h1:=(HS.o.ar (.cells #[.pointer (some ⟨pb,0,none⟩)] 80) w.heap.size)
  refine AP (h1.at 1 rfl) 184 _ Tryz.call184 (Ty.eJ ad (r+1)) (λh w1 h2 R2 yf xA=>?_) (λn st2 w2 _ hm h2=>?_) (λf w2 he _ h2=>?_)
  ·exact Pb YV.o (xr (rG ad r)) w0 w1 _ pb w.heap.size st h2 (λw' h'=>(h'.unpack 0 rfl).cell 1 0) yf xA
  ·have HM:=qh hm;have H2:=qh (h2.km.pick [0,1]);clear hm h2 h1;go_wp2_with fail;exact fL.o _ _ _ HM.o H2.o
  ·have hf:=he hd;have HF:=qh hf;have H2:=qh h2.out;clear he hf h2 h1;go_wp2_with fail;exact⟨rfl,bX.o _ _ HF.o H2.o⟩
def bm(f:Ty.Ft):Value:=.agg #[.int .i64 f.1,.int .i64 f.2]
theorem NF{w0 w:World}{Fr:As}{pb d:Nat}{ad:List Tok.Tk}{st:Ty.St}(H:Sat w0 w [Fr,aT pb d ad st]){R:EW}
  (hR:∀w',Sat w0 w' [Fr,aT pb d ad st]->R (.returned (bm (if st.ts.length>300 then(2,0)else(0,0)))) w'):
  Calls prog 78 #[.pointer (some ⟨pb,0,none⟩)] w R:=by
 have cm:=H.look;obtain⟨⟨lv,nv,tv,main⟩,h⟩:=H.nf;have hn:st.ns.length<=1002:=by have:=cm.fits;have:=cm.wf.1;omega
 have ht:st.ts.length<=1002:=by have:=cm.fits;have:=cm.wf.1;omega
 obtain⟨rows,h⟩:=h.ex (i:=4) rfl;have h:=h.unpack 4 rfl;obtain⟨uu,h⟩:=h.ex (i:=4) rfl;have h:=h.unpack 4 rfl;obtain⟨a3,c3,e3⟩:=ag (h.row 5);obtain⟨a4,c4,e4⟩:=ag (h.row 8);dsimp only at e3 e4;subst e3 e4;have k3:=h.cell 2 3;have k4:=h.cell 2 4;have bz:=h.lt 2;have k1:decide ((1200:Int)<st.ns.length)=false:=by simp;omega
 by_cases h3:300<st.ts.length
 ·have k2:decide ((300:Int)<st.ts.length)=true:=by simp;omega
  rw[if_pos h3]at hR
  go_in;go_wp2;refine bodyPost_ret ?_ rfl (hR _ ?_)
  ·simp[results,results78,go_sem,bm]
  ·exact H.aU _
 ·have k2:decide ((300:Int)<st.ts.length)=false:=by simp;omega
  rw[if_neg h3]at hR
  go_in;go_wp2;refine bodyPost_ret ?_ rfl (hR _ ?_)
  ·simp[results,results78,go_sem,bm]
  ·exact H.aU _
theorem sq(a b:Int)(w:World): (Instr.typeAssert (.iface 25 (.agg #[.int .i64 a,.int .i64 b])) 20 25 false).run prog w=.ok (.agg #[.int .i64 a,.int .i64 b]) w:=by kernel_rfl
theorem Mi(p:Nat)(f:Ty.Ft)(x y:Value)(w:World)(hx:w.heap[p]?=some (.cells #[x,y] 25 (0,0))):
  CallsD prog 119 #[.pointer (some ⟨p,0,none⟩)] (.panicking (aO f)) w λe u' w'=>
   e=.returned (.tuple #[])/\u'=.panicking [{v:=.iface 25 (bm f),recovered:=true}]/\w'=(w.setCell ⟨p,0,none⟩ (.int .i64 f.1)).setCell ⟨p,1,none⟩ (.int .i64 f.2):=by
 have c0:w.cell? ⟨p,0,none⟩=some x:=by rw[cell_of_block hx];rfl
 have c1:w.cell? ⟨p,1,none⟩=some y:=by rw[cell_of_block hx];rfl
 have hf:∀o,w.frozen? ⟨p,o,none⟩=false:=λo=>bZ hx o
 refine callsD_of_wpS func119 rfl λvx cs hu=>?_
 unfold aO at hu;apply wpS_seq;apply wpS_region;simp[wpOpsS,go_sem,recoverD,hu,ntmps119,Exit.thenS];apply wpS_seq;apply wpS_region;simp[wpOpsS,go_sem,Exit.thenS];refine wpS_cond (t:=true) (by simp[Act.eval,Array.replicate]) ?_;simp only[if_true];apply wpS_region;simp[wpOpsS,go_sem,c0,c1,hf,bodyPostS,results,results119,bm,sq]
theorem Oy(p:Nat)(w:World):
  CallsD prog 119 #[.pointer (some ⟨p,0,none⟩)] .returning w λe u' w'=>e=.returned (.tuple #[])/\u'=.returning/\w'=w:=by
 refine callsD_of_wpS func119 rfl λvx cs hu=>?_
 apply wpS_seq;apply wpS_region;simp[wpOpsS,go_sem,recoverD,hu,ntmps119,Exit.thenS];apply wpS_seq;apply wpS_region;simp[wpOpsS,go_sem,Exit.thenS];refine wpS_cond (t:=false) (by simp[Act.eval,Array.replicate]) ?_;simp only[Bool.false_eq_true,if_false];refine wpS_of_wp (wp_skip ?_);cases vx;simp_all[bodyPostS,results,results119]
def kI(ad:List Tok.Tk)(st:Ty.St):Except Ty.Ft Ty.St:=
 match Ty.eJ ad 20 st with
 | .error f=>.error f
 | .ok (_,s)=>if(Ty.cur ad s.pos).kind≠6 then .error (Ty.here ad 1 s.pos)else if s.ts.length>300 then .error (2,0)else .ok s
theorem KK{w0 w:World}{Fr:As}{pb:Nat}{ad:List Tok.Tk}{st:Ty.St}(H:Sat w0 w [Fr,aT pb 0 ad st]){R:EW}
  (aD:∀s w',kI ad st=.ok s->Sat w0 w' [Fr,aT pb 0 ad s]->R (.returned (bm (0,0))) w')
  (au:∀f w',kI ad st=.error f->Sat w0 w' [Fr]->R (.returned (bm f)) w'):
  Calls prog 65 #[.pointer (some ⟨pb,0,none⟩)] w R:=by
 have ZU:=pR
 go_enter_defers func65,ntmps65
 go_wp2_with fail;have h1:=H.ar (.cells #[.int .i64 0,.int .i64 0] 25) w.heap.size;refine Iz ad 20 (by omega) _ _ _ pb _ (h1.at 1 rfl) _ (λn s2 w2 hm h2=>?_) (λf w2 hm h2=>?_)
 ·have H2:=qh h2.km;have HM:=qh hm;go_wp2_with fail;refine gP _ pb _ ad s2 (H2.o.pick [0,1]).look (λw3 cZ=>?_);have H3:=qh (H2.o.below cZ);have cm:=H3.o.pick [0,1]|>.look;by_cases hk: (Ty.cur ad s2.pos).kind=6
  ·have HE:Hq (kI ad st=if s2.ts.length>300 then .error (2,0)else .ok s2):=by
    unfold kI;rw[HM.o];show(if _ then _ else _)= _;rw[if_neg (by rw[hk];simp)]
   generalize Ty.cur ad s2.pos=t at*
   obtain⟨kd,tx,ps⟩:=t;obtain rfl:kd=6:=hk;dsimp only[bV];go_wp2_with fail;refine NF (H3.o.at 1 rfl) (λw4 h4=>?_);have H5:=h4.km;have h6:=H5.heap 2 rfl;have c0:w4.cell? ⟨w.heap.size,0,none⟩=some (.int .i64 0):=by rw[cell_of_block h6];rfl
   have c1:w4.cell? ⟨w.heap.size,1,none⟩=some (.int .i64 0):=by rw[cell_of_block h6];rfl
   have f0:∀o,w4.frozen? ⟨w.heap.size,o,none⟩=false:=λo=>bZ h6 o
   by_cases ow:s2.ts.length>300
   ·rw[if_pos ow]at HE
    simp only[if_pos ow,bm];go_wp2_with fail;refine leaves_cons (f:=119) (args:=#[.pointer (some ⟨w.heap.size,0,none⟩)]) (by simp) (by simp[go_sem]) ?_;refine(Oy w.heap.size _).mono ?_
    rintro e u' KY ⟨rfl,rfl,rfl⟩
    have hp:=(H5.store 2 rfl 0 (.int .i64 2)).store 2 rfl 1 (.int .i64 0);simp[Leaves,settle,results,results65,go_sem,c0,c1];exact au (2,0) _ HE.o (hp.pick [0])
   ·rw[if_neg ow]at HE
    simp only[if_neg ow,bm];go_wp2_with fail;refine leaves_cons (f:=119) (args:=#[.pointer (some ⟨w.heap.size,0,none⟩)]) (by simp) (by simp[go_sem]) ?_;refine(Oy w.heap.size _).mono ?_
    rintro e u' KY ⟨rfl,rfl,rfl⟩
    have hp:=(H5.store 2 rfl 0 (.int .i64 0)).store 2 rfl 1 (.int .i64 0);simp[Leaves,settle,results,results65,go_sem,c0,c1];exact aD s2 _ HE.o (hp.pick [0,1])
  ·have HE:Hq (kI ad st=.error (Ty.here ad 1 s2.pos)):=by
    unfold kI;rw[HM.o];show(if _ then _ else _)= _;rw[if_pos hk]
   have HF:=qh (λw1 h R=>@kK w1 pb 0 ad s2 h 1 R);have CZ: (((Ty.cur ad s2.pos).kind:Int) !=6)=true:=by simp;omega
   generalize Ty.here ad 1 s2.pos=ft at*
   generalize Ty.cur ad s2.pos=t at*
   obtain⟨kd,tx,ps⟩:=t;dsimp only[bV];dsimp only at CZ;go_wp2_with fail;refine HF.o _ cm _ (λw4 qW=>?_);have h4:=H3.o.below qW;have h5:=h4.heap 2 rfl;go_wp2_with fail;refine leaves_cons (f:=119) (args:=#[.pointer (some ⟨w.heap.size,0,none⟩)]) (by simp) (by simp[go_sem]) ?_;refine(Mi w.heap.size ft _ _ _ h5).mono ?_
   rintro e u' KY ⟨rfl,rfl,rfl⟩
   have hp:=(h4.store 2 rfl 0 (.int .i64 ft.1)).store 2 rfl 1 (.int .i64 ft.2);have d0:=hp.cell 2 0;have d1:=hp.cell 2 1;simp[Leaves,settle,results,results65,go_sem,d0,d1];exact au ft _ HE.o (hp.pick [0])
 ·have HM:=qh hm;have H2:=qh (h2.unpack 0 rfl);go_wp2_with fail;have h3:=H2.o.heap 1 rfl;refine leaves_cons (f:=119) (args:=#[.pointer (some ⟨w.heap.size,0,none⟩)]) (by simp) (by simp[go_sem]) ?_;refine(Mi w.heap.size f _ _ _ h3).mono ?_
  rintro e u' KY ⟨rfl,rfl,rfl⟩
  have hp:=(H2.o.store 1 rfl 0 (.int .i64 f.1)).store 1 rfl 1 (.int .i64 f.2);have d0:=hp.cell 1 0;have d1:=hp.cell 1 1;simp[Leaves,settle,results,results65,go_sem,d0,d1];exact au f _ (by unfold kI;rw[HM.o]) (hp.pick [0])
theorem C5{w0 w:World}{Fr:As}(H:Sat w0 w [Fr])(s:BA)(hw:Words w)(hm:s.size<=maxLen){R:EW}
  (aD:∀ad pb w',Tok.scan s=.ok ad->Sat w0 w' [Fr,aT pb 0 ad ⟨0,[],[]⟩]->R (.returned (.tuple #[.pointer (some ⟨pb,0,none⟩),bm (0,0)])) w')
  (au:∀f pb w',Tok.scan s=.error f->Sat w0 w' [Fr]->R (.returned (.tuple #[.pointer (some ⟨pb,0,none⟩),bm f])) w'):
  Calls prog 39 #[.string s] w R:=by
 go_in;go_wp2_with fail;have h1:=H.ar (.cells #[.int .i64 0,.int .i64 0] 25) w.heap.size;refine O8 s _ (hw.below ((bR _ _).alloc (nR _) _)) hm (λl v w1 hl hb ho=>?_) (λe p w1 hl hb=>?_)
 ·have h2:=(h1.newRow hb ho (by omega)).ar (.cells #[.int .i64 0,.int .i64 0] 25) w1.heap.size;have xV:=qe s l hl;have pG:=zi hl;have k0:=h2.cell 1 0;have kf:=h2.free 1 rfl;have kz:=h2.lt 1;have hz:=hb.size;simp at kz hz;have P3:w.heap.size<w1.heap.size:=by omega
  have Lb:w.heap.size<w1.heap.size+1:=by omega
  have c0:w1.cell? ⟨w.heap.size,0,none⟩=some (.int .i64 0):=(h1.newRow hb ho (by omega)).cell 1 0;have c1:w1.cell? ⟨w.heap.size,1,none⟩=some (.int .i64 0):=(h1.newRow hb ho (by omega)).cell 1 1;have f0:∀o,w1.frozen? ⟨w.heap.size,o,none⟩=false:=(h1.newRow hb ho (by omega)).free 1 rfl;obtain⟨a,cap,rfl⟩:=ag ho;have H1:=qh (h1.newRow hb ho (by omega));have HL:=qh hl;have HT:Hq (tE l/\0<l.length):=⟨⟨xV.2.1,pG⟩,List.length_pos_iff.2 xV.1⟩
  go_wp2
  go_region
  all_goals
   go_wp2;refine bodyPost_ret ?_ rfl (aD l (w1.heap.size+1) _ HL.o ?_)
   ·simp[results,results39,go_sem,bm,P3,Lb,c0,c1]
   ·have h:=(((H1.o.store 1 rfl 0 (.int .i64 0)).store 1 rfl 1 (.int .i64 0)).aU (.cells #[.int .i64 0,.int .i64 0] 25)).ar (.cells #[.slice a l.length cap,.int .i64 0,.int .i64 0,.slice none 0 0,.slice none 0 0,.int .i64 0] 86) (w1.heap.size+1);exact Sat.T' HT.o (h.drew.pick [0,2,3])
 ·have hz:=hb.size;have h2:=h1.below hb;have c0:=h2.cell 1 0;have c1:=h2.cell 1 1;have f0:=h2.free 1 rfl;simp at hz;have P3:w.heap.size<w1.heap.size:=by omega
  have Lb:w.heap.size<w1.heap.size+1:=by omega
  have H1:=qh h2;have HL:=qh hl;go_wp2
  go_region
  all_goals
   go_wp2;refine bodyPost_ret ?_ rfl (au (e,p) (w1.heap.size+1) _ HL.o ?_)
   ·simp[results,results39,go_sem,bm,P3,Lb,c0,c1]
   ·have h:=(((H1.o.store 1 rfl 0 (.int .i64 e)).store 1 rfl 1 (.int .i64 p)).aU (.cells #[.int .i64 e,.int .i64 p] 25)).aU (.cells #[.slice none 0 0,.int .i64 0,.int .i64 0,.slice none 0 0,.slice none 0 0,.int .i64 0] 86);exact h.drew.pick [0]
theorem JU{s:BA}{ad:List Tok.Tk}{st:Ty.St}(h1:Tok.scan s=.ok ad)(h2:kI ad ⟨0,[],[]⟩=.ok st):Ty.typeOf s=.ok st.ts:=by
 unfold Ty.typeOf;rw[h1];unfold kI at h2;dsimp only;cases h:Ty.eJ ad 20 ⟨0,[],[]⟩with
 |error f=>rw[h]at h2;cases h2
 |ok p=>
  obtain⟨n,s'⟩:=p;rw[h]at h2
  dsimp only at h2⊢;split at h2
  ·cases h2
  ·rename_i h3;rw[if_neg h3];split at h2
   ·cases h2
   ·rename_i h4;rw[if_neg h4];cases h2;rfl
theorem FD{s:BA}{ad:List Tok.Tk}{f:Ty.Ft}(h1:Tok.scan s=.ok ad)(h2:kI ad ⟨0,[],[]⟩=.error f):Ty.typeOf s=.error f:=by
 unfold Ty.typeOf;rw[h1];unfold kI at h2;dsimp only;cases h:Ty.eJ ad 20 ⟨0,[],[]⟩with
 |error g=>rw[h]at h2;cases h2;rfl
 |ok p=>
  obtain⟨n,s'⟩:=p;rw[h]at h2
  dsimp only at h2⊢;split at h2
  ·rename_i h3;rw[if_pos h3];cases h2;rfl
  ·rename_i h3;rw[if_neg h3];split at h2
   ·rename_i h4;rw[if_pos h4];cases h2;rfl
   ·cases h2
theorem M7{w0 w:World}{Fr:As}(H:Sat w0 w [Fr])(s:BA)(hw:Words w)(hm:s.size<=maxLen){R:EW}
  (aD:∀ts v w',Ty.typeOf s=.ok ts->Sat w0 w' [Fr,sA v ts]->R (.returned (.tuple #[v,bm (0,0)])) w')
  (au:∀f w',Ty.typeOf s=.error f->Sat w0 w' [Fr]->R (.returned (.tuple #[.slice none 0 0,bm f])) w'):
  Calls prog 35 #[.string s] w R:=by
 go_in;go_wp2_with fail;have h1:=H.ar (.cells #[.int .i64 0,.int .i64 0] 25) w.heap.size;have h1:Sat w0 _ [aq [Fr,ax w.heap.size (.cells #[.int .i64 0,.int .i64 0] 25)]]:=Sat.pack (L:=[]) h1;refine C5 h1 s (hw.below ((bR _ _).alloc (nR _) _)) hm (λad pb w1 hl h2=>?_) (λf pb w1 hl h2=>?_)
 ·have h3:=h2.km.ar (.cells #[.int .i64 0,.int .i64 0] 25) w1.heap.size;dsimp only[bm];go_wp2_with fail;refine KK (h3.at 1 rfl) (λst w2 hs h4=>?_) (λf w2 hs h4=>?_)
  ·have h5:=h4.oH;obtain⟨⟨lv,nv,tv,main⟩,h6⟩:=h5.ex (i:=1) rfl;have h7:=h6.unpack 1 rfl;have x0:=h7.cell 1 0;have x1:=h7.cell 1 1;have fx:=h7.free 1 rfl;have y0:=h7.cell 2 0;have y1:=h7.cell 2 1;have fy:=h7.free 2 rfl;have z4:=h7.cell 4 4;have W9:=h7.ne 1 2 (by decide) rfl rfl;have agb:=h7.ne 1 4 (by decide) rfl rfl;have agK:=h7.ne 2 4 (by decide) rfl rfl;have hx:=h7.lt 1;dsimp only[bm]at*
   go_wp2
   go_region
   all_goals
    go_wp2;refine bodyPost_ret ?_ rfl (aD st.ts tv _ (JU hl hs) ?_)
    ·simp[results,results35,go_sem,x0,x1]
    ·exact((((h7.store 2 rfl 0 (.int .i64 0)).store 2 rfl 1 (.int .i64 0)).store 1 rfl 0 (.int .i64 0)).store 1 rfl 1 (.int .i64 0)).drew.pick [0,7]
  ·have h5:=h4.unpack 0 rfl;have x0:=h5.cell 1 0;have x1:=h5.cell 1 1;have fx:=h5.free 1 rfl;have y0:=h5.cell 2 0;have y1:=h5.cell 2 1;have fy:=h5.free 2 rfl;have W9:=h5.ne 1 2 (by decide) rfl rfl;have hx:=h5.lt 1;have hE:=FD hl hs;have hb:=qG hE;obtain⟨fe,fp⟩:=f;dsimp only at hb;have e1: ((fe:Int)==0)=false:=by simp;omega
   have e2: ((fe:Int) !=0)=true:=by simp;omega
   have HE:=qh hE;dsimp only[bm]at*
   go_wp2
   go_region
   all_goals
    go_wp2;refine bodyPost_ret ?_ rfl (au (fe,fp) _ HE.o ?_)
    ·simp[results,results35,go_sem,x0,x1]
    ·exact((((h5.store 2 rfl 0 (.int .i64 fe)).store 2 rfl 1 (.int .i64 fp)).store 1 rfl 0 (.int .i64 fe)).store 1 rfl 1 (.int .i64 fp)).drew.pick [0]
 ·have h6:=h2.unpack 0 rfl;have x0:=h6.cell 1 0;have x1:=h6.cell 1 1;have fx:=h6.free 1 rfl;have hx:=h6.lt 1;have hE:Ty.typeOf s=.error f:=by unfold Ty.typeOf;rw[hl]
  have hb:=qG hE;obtain⟨fe,fp⟩:=f;dsimp only at hb;have e1: ((fe:Int)==0)=false:=by simp;omega
  have e2: ((fe:Int) !=0)=true:=by simp;omega
  have HE:=qh hE;have W9:w.heap.size≠w1.heap.size:=by omega
  dsimp only[bm]at*
  go_wp2
  go_region
  all_goals
   go_wp2;refine bodyPost_ret ?_ rfl (au (fe,fp) _ HE.o ?_)
   ·simp[results,results35,go_sem,hx,x0,x1]
   ·exact((((h6.store 1 rfl 0 (.int .i64 fe)).store 1 rfl 1 (.int .i64 fp))).aU _).drew.pick [0]
end Go.Proofs.YtdlbhiaceheffabGreatDoor
