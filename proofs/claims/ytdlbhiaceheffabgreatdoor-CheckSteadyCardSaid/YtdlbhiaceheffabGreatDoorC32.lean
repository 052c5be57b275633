/- Walks of what gathers parts and params; of the parser's block. -/
import Derived.Lib.SmallJoins
import Derived.Test.YtdlbhiaceheffabGreatDoorC12
import Derived.Test.YtdlbhiaceheffabGreatDoorC08
set_option linter.all false
set_option maxRecDepth 100000
set_option maxHeartbeats 8000000
namespace Go.Proofs.YtdlbhiaceheffabGreatDoor
open Go Go.RowKit Ty Tok Prt Tryz Proofs.Tryz
def Qr(pb nb xb mb:Nat)(k a p:Int)(l:List (BA×Nat)):As:=cn λv:Value=>aq [ax nb (sW k a p v),gi v (l.map Prod.snd),qX pb xb,Lu mb (l.map Prod.fst)]
theorem Prt.Sat.zH{w0 w:World}{A B:As}{pb nb xb mb:Nat}{k a p:Int}{l:List (BA×Nat)}(H:Sat w0 w [A,B,Qr pb nb xb mb k a p l]):∃v,Sat w0 w [A,B,ax nb (sW k a p v),gi v (l.map Prod.snd),qX pb xb,Lu mb (l.map Prod.fst)]:=by
 obtain⟨v,hs⟩:=H.ex (i:=2) rfl;exact⟨v,hs.unpack 2 rfl⟩
theorem Prt.Sat.AJ{w0 w:World}{A B:As}{pb nb xb mb:Nat}{k a p:Int}{v:Value}{l:List (BA×Nat)}{ns:List Nat}{ms:List BA}(h1:l.map Prod.snd=ns)(h2:l.map Prod.fst=ms)(H:Sat w0 w [A,B,ax nb (sW k a p v),gi v ns,qX pb xb,Lu mb ms]):Sat w0 w [A,B,Qr pb nb xb mb k a p l]:=by
 subst h1 h2;exact(Sat.pack (L:=[_,_]) H).cQ (i:=2) rfl (λ_ h=>⟨_,h⟩)
theorem Oz(w0 w:World)(Fr:As)(pb nb xb mb d:Nat)(ad:List Tok.Tk)(M:List BA->Ty.M (BA×Nat))(fR:Is 349 ad d M)(k0 a0 p0:Int)
  (l:List (BA×Nat)) (s:Ty.St) (H:Sat w0 w [Fr,aT pb d ad s,Qr pb nb xb mb k0 a0 p0 l]) (hl:l.length<=s.pos) {R:EW}
  (aD:∀n s2 w2,M (l.map Prod.fst) s=.ok (n,s2)->Sat w0 w2 [Fr,aT pb d ad s2,Qr pb nb xb mb k0 a0 p0 (l++[n])]->R (.returned (.tuple #[])) w2)
  (au:∀f w2,M (l.map Prod.fst) s=.error f->Sat w0 w2 [Fr]->R (.panicked (aO f)) w2):
  Calls prog 348 #[.pointer (some ⟨nb,0,none⟩),.pointer (some ⟨xb,0,none⟩),.pointer (some ⟨mb,0,none⟩)] w R:=by
 have cm:=(H.pick [0,1]).look;have ig:=cm.fits.1;have kG:=cm.wf.1;obtain⟨v,hs⟩:=H.zH;obtain⟨ns,yo⟩:∃ns,l.map Prod.snd=ns:=⟨_,rfl⟩
 obtain⟨ms,jE⟩:∃ms,l.map Prod.fst=ms:=⟨_,rfl⟩
 have lW:ns.length<=s.pos:=by rw[<-yo,List.length_map];exact hl
 have BQ:ms.length<=s.pos:=by rw[<-jE,List.length_map];exact hl
 have Za:Hq (∀n:BA×Nat,(l++[n]).map Prod.snd=ns++[n.2]):=λn=>by rw[List.map_append,yo];rfl
 have ZG:Hq (∀n:BA×Nat,(l++[n]).map Prod.fst=ms++[n.1]):=λn=>by rw[List.map_append,jE];rfl
 rw[yo,jE]at hs
 rw[jE]at aD au
 obtain⟨a,dt,rfl⟩:=ag (hs.row 3);have c1:=hs.cell 2 4;have c2:=hs.cell 4 0;have HS:=qh (fR w0 w.drew _ pb mb s ms ((Sat.pack (L:=[_,_]) (M:=[_,_,_,_]) (hs.drew.pick [1,5,0,2,3,4])).pick [2,0,1]) BQ);obtain⟨i0,ti,oB,oA,oy⟩:=info_parts jA;go_in;go_wp2;go_region_law(first|(go_simp;go_at_call 349;refine HS.o _ (λx n s2 w2 hm h2=>?_) (λf w2 hm h2=>⟨rfl,au _ _ hm ((h2.unpack 0 rfl).pick [0])⟩);have h3:Sat w0 w2 [Fr,aT pb d ad s2,ax nb (sW k0 a0 p0 (.slice a ns.length dt)),gi (.slice a ns.length dt) ns,qX pb xb,Lu mb (ms++[x])]:=(h2.unpack 0 rfl).pick [2,0,3,4,5,1];have d1:=h3.cell 2 4;have d2:=(h3.aU (.cells #[.int .i64 n] 3)).cell 2 4;have H3:=qh h3;clear h2 h3)|(go_loud(refine step_append_lies _ (by rfl) _ _ _ (by rfl) 0 3 i0 _ 1 8 underlying39 ti oB oA oy rfl (by omega) (.slice a ns.length dt) ns.length (ns.map aQ) (by rfl) ((H3.o.row 3).alloc _) ⟨w2.heap.size,0,none⟩ 1 1 [.int .i64 n] (by rfl) (by rfl) (World.news_of_block (cs:=#[.int .i64 n]) (t:=3) (fr:=(0,0)) (aC _ _ _ (by simp))) (by simp[Value.oneCell']) (by omega) (by unfold maxLen;omega) (by omega) (by simp) (w2.heap.size+1) (by simp) ?_);intro g cap w3 ga fm qO A9;have h4:=Sat.grow (H3.o.aU _) 3 rfl fm ga (by simpa using qO);have d3:=h4.cell 2 4;have f3:=h4.free 2 rfl 4;have H4:=qh h4;clear h4))
 all_goals
  go_wp2;go_end0;exact aD (x,n) s2 _ hm (Sat.AJ (Za.o (x,n)) (ZG.o (x,n)) ((H4.o.store 2 rfl 4 _).cQ (i:=3) rfl (Q:=gi (.slice (some ⟨g,0,none⟩) (ns.length+1) cap) (ns++[n])) (λ_ h=>jd h)))
theorem J5(w0 w:World)(Fr:As)(pb nb xb mb d:Nat)(ad:List Tok.Tk)(M:List BA->Ty.M (BA×Nat))(fR:Is 357 ad d M)(k0 a0 p0:Int)
  (l:List (BA×Nat)) (s:Ty.St) (H:Sat w0 w [Fr,aT pb d ad s,Qr pb nb xb mb k0 a0 p0 l]) (hl:l.length<=s.pos) {R:EW}
  (aD:∀n s2 w2,M (l.map Prod.fst) s=.ok (n,s2)->Sat w0 w2 [Fr,aT pb d ad s2,Qr pb nb xb mb k0 a0 p0 (l++[n])]->R (.returned (.tuple #[])) w2)
  (au:∀f w2,M (l.map Prod.fst) s=.error f->Sat w0 w2 [Fr]->R (.panicked (aO f)) w2):
  Calls prog 356 #[.pointer (some ⟨nb,0,none⟩),.pointer (some ⟨xb,0,none⟩),.pointer (some ⟨mb,0,none⟩)] w R:=by
 have cm:=(H.pick [0,1]).look;have ig:=cm.fits.1;have kG:=cm.wf.1;obtain⟨v,hs⟩:=H.zH;obtain⟨ns,yo⟩:∃ns,l.map Prod.snd=ns:=⟨_,rfl⟩
 obtain⟨ms,jE⟩:∃ms,l.map Prod.fst=ms:=⟨_,rfl⟩
 have lW:ns.length<=s.pos:=by rw[<-yo,List.length_map];exact hl
 have BQ:ms.length<=s.pos:=by rw[<-jE,List.length_map];exact hl
 have Za:Hq (∀n:BA×Nat,(l++[n]).map Prod.snd=ns++[n.2]):=λn=>by rw[List.map_append,yo];rfl
 have ZG:Hq (∀n:BA×Nat,(l++[n]).map Prod.fst=ms++[n.1]):=λn=>by rw[List.map_append,jE];rfl
 rw[yo,jE]at hs
 rw[jE]at aD au
 obtain⟨a,dt,rfl⟩:=ag (hs.row 3);have c1:=hs.cell 2 4;have c2:=hs.cell 4 0;have HS:=qh (fR w0 w.drew _ pb mb s ms ((Sat.pack (L:=[_,_]) (M:=[_,_,_,_]) (hs.drew.pick [1,5,0,2,3,4])).pick [2,0,1]) BQ);obtain⟨i0,ti,oB,oA,oy⟩:=info_parts jA;go_in;go_wp2;go_region_law(first|(go_simp;go_at_call 357;refine HS.o _ (λx n s2 w2 hm h2=>?_) (λf w2 hm h2=>⟨rfl,au _ _ hm ((h2.unpack 0 rfl).pick [0])⟩);have h3:Sat w0 w2 [Fr,aT pb d ad s2,ax nb (sW k0 a0 p0 (.slice a ns.length dt)),gi (.slice a ns.length dt) ns,qX pb xb,Lu mb (ms++[x])]:=(h2.unpack 0 rfl).pick [2,0,3,4,5,1];have d1:=h3.cell 2 4;have d2:=(h3.aU (.cells #[.int .i64 n] 3)).cell 2 4;have H3:=qh h3;clear h2 h3)|(go_loud(refine step_append_lies _ (by rfl) _ _ _ (by rfl) 0 3 i0 _ 1 8 underlying39 ti oB oA oy rfl (by omega) (.slice a ns.length dt) ns.length (ns.map aQ) (by rfl) ((H3.o.row 3).alloc _) ⟨w2.heap.size,0,none⟩ 1 1 [.int .i64 n] (by rfl) (by rfl) (World.news_of_block (cs:=#[.int .i64 n]) (t:=3) (fr:=(0,0)) (aC _ _ _ (by simp))) (by simp[Value.oneCell']) (by omega) (by unfold maxLen;omega) (by omega) (by simp) (w2.heap.size+1) (by simp) ?_);intro g cap w3 ga fm qO A9;have h4:=Sat.grow (H3.o.aU _) 3 rfl fm ga (by simpa using qO);have d3:=h4.cell 2 4;have f3:=h4.free 2 rfl 4;have H4:=qh h4;clear h4))
 all_goals
  go_wp2;go_end0;exact aD (x,n) s2 _ hm (Sat.AJ (Za.o (x,n)) (ZG.o (x,n)) ((H4.o.store 2 rfl 4 _).cQ (i:=3) rfl (Q:=gi (.slice (some ⟨g,0,none⟩) (ns.length+1) cap) (ns++[n])) (λ_ h=>jd h)))
namespace Ty
theorem EC{ad:List Tok.Tk}{S:M Nat}{f:Nat}{l:List Nat}{s s1:St}(h:take ad [125] s=.ok (true,s1)):stmts ad S (f+1) l s=.ok (l,s1):=by
 rw[stmts];rw[aj h];rfl
theorem O'{ad:List Tok.Tk}{S:M Nat}{f:Nat}{l:List Nat}{s s1:St}(h:take ad [125] s=.ok (false,s1)):stmts ad S (f+1) l s=ak S (λn=>stmts ad S f (l++[n])) s1:=by
 rw[stmts];rw[aj h];rfl
end Ty
theorem pM{ad:List Tok.Tk}{d:Nat}{T E O S:Ty.M Nat}(L:Lo ad d T E O S):eO 283 ad d (di ad S):=by
 intro w0 w Fr pb st H R aD au;have fL:=qh aD;have bX:=qh au;have HL:=qh L;have cm:=H.look;have kG:=cm.wf.1;have qL:=cm.fits.2.2.2;have HN:=qh (λR hR=>@gP w pb d ad st cm R hR);obtain⟨i0,ti,oB,oA,oy⟩:=info_parts jA;obtain⟨ps,kp⟩:∃ps,(Ty.cur ad st.pos).pos=ps:=⟨_,rfl⟩
 have vS:Hq (∀r,(Ty.ak (Ty.need ad [123]) λ_=>Ty.ak (Ty.stmts ad S (ad.length+1) []) λl=>Ty.addNode {Ty.af 26 ps with list:=l}) st=r->di ad S st=r):=λr h=>by rw[<-h,<-kp];rfl
 generalize Ty.cur ad st.pos=t at*
 obtain⟨kd,tx,tp⟩:=t;dsimp only at kp;subst kp;have Ea:=kA;go_enter func283,ntmps283;go_wp2_with fail;refine HN.o _ (λw1 cd=>?_);dsimp only[bV];have H1:=qh (H.below cd);go_wp2_with fail;refine lG w1 26 tp (λw2 aW=>?_);have h2:=(H1.o.below aW).ar (.cells #[.int .i64 26,.int .i64 0,.int .i64 0,.int .i64 0,.slice none 0 0,.string ⟨#[]⟩,.int .i64 0,.int .i64 (-1),.int .i64 tp] 66) w2.heap.size;go_wp2_with fail;refine cS (h2.at 1 rfl) ⟨#[123]⟩ (λw3 hm h3=>?_) (λe w3 hm h3=>?_);rotate_left
 ·have tT:Hq (di ad S st=.error e):=vS.o _ (by rw[aL hm]);have H3:=qh (h3.unpack 0 rfl);go_wp2_with fail;exact⟨rfl,bX.o _ _ tT.o (H3.o.pick [0])⟩
 have tT:Hq (∀r,(Ty.ak (Ty.stmts ad S (ad.length+1) []) λl=>Ty.addNode {Ty.af 26 tp with list:=l}) {st with pos:=st.pos+1}=r->di ad S st=r):=λr h=>vS.o r (by rw[aj hm];exact h)
 have h4:Sat w0 w3 [Fr,aT pb d ad {st with pos:=st.pos+1},ax w2.heap.size (sW 26 0 tp (.slice none 0 0)),gi (.slice none 0 0) []]:=h3.km.nil 3 1;have adn:=(h4.pick [0,1]).look.fits.1;dsimp only at adn;go_wp2;go_loopw [10] (λ_ wr=>∃(f:Nat)(l:List Nat)(s:Ty.St)(v:Value),s.pos<ad.length/\ad.length<s.pos+f/\l.length<=s.pos/\s.ns.length<=s.pos/\Hq (Sat w0 wr [Fr,aT pb d ad s,ax w2.heap.size (sW 26 0 tp v),gi v l])/\Hq (∀r,(Ty.ak (Ty.stmts ad S f l) λl=>Ty.addNode {Ty.af 26 tp with list:=l}) s=r->di ad S st=r))
  (λ_ wr=>ad.length-posOf pb wr)
 case atStart=>exact⟨ad.length+1,[],{st with pos:=st.pos+1},.slice none 0 0,adn,by dsimp only;omega,by simp,by dsimp only;omega,h4,tT.o⟩
 case round=>
  obtain⟨f,l,s,v,hp,hf,pG,Zz,hS,hE⟩:=hrel;obtain⟨f,rfl⟩:∃g,f=g+1:=⟨f-1,by omega⟩
  obtain⟨a,dt,rfl⟩:=ag (hS.out.row 3);have wQ:=qh (dq (hS.out.pick [0,1]).look);go_wp2_with fail;refine cB (hS.out.at 1 rfl) ⟨#[125]⟩ (λw4 hi h5=>?_) (λw4 hi h5=>?_)
  ·have ia:Hq (di ad S st=.ok (s.ns.length,{s with pos:=s.pos+1,ns:=s.ns++[{Ty.af 26 tp with list:=l}]})):=hE.out _ (by rw[aj (EC hi)];rfl);have h6:Sat w0 w4 [Fr,aT pb d ad {s with pos:=s.pos+1},ax w2.heap.size (sW 26 0 tp (.slice a l.length dt)),gi (.slice a l.length dt) l]:=h5.oH;have q0:=h6.cell 2 0;have q1:=h6.cell 2 1;have q2:=h6.cell 2 2;have q3:=h6.cell 2 3;have q4:=h6.cell 2 4;have q5:=h6.cell 2 5;have q6:=h6.cell 2 6;have q7:=h6.cell 2 7;have q8:=h6.cell 2 8;have H6:=qh h6;clear hi h5 h6 hE;go_wp2_with fail;refine bT {Ty.af 26 tp with list:=l} (.slice a l.length dt) ((Sat.pack (L:=[_,_]) (M:=[_,_]) (H6.o.pick [1,3,0,2])).pick [2,0,1]) (by dsimp only;omega) (λw5 h8=>?_);have H8:=qh (h8.unpack 0 rfl);clear h8;go_wp2_with fail;exact fL.o _ _ _ ia.o (H8.o.pick [1,0])
  ·have ia:Hq (∀r,(Ty.ak S λn=>Ty.ak (Ty.stmts ad S f (l++[n])) λl=>Ty.addNode {Ty.af 26 tp with list:=l}) s=r->di ad S st=r):=λr h=>hE.out r (by
    have e: (Ty.ak (Ty.stmts ad S (f+1) l) λl=>Ty.addNode {Ty.af 26 tp with list:=l}) s=(Ty.ak (Ty.ak S λn=>Ty.stmts ad S f (l++[n])) λl=>Ty.addNode {Ty.af 26 tp with list:=l}) s:=by
     unfold Ty.ak;rw[O' hi];rfl
    rw[e,<-h];unfold Ty.ak;cases S s with
    |error x=>rfl
    |ok x=>rfl)
   have h6:Sat w0 w4 [Fr,aT pb d ad s,ax w2.heap.size (sW 26 0 tp (.slice a l.length dt)),gi (.slice a l.length dt) l]:=h5.oH;have c1:=h6.cell 2 4;have abv:=qh (HL.o.s w0 w4.drew _ pb s (h6.drew.at 1 rfl));clear hi h5 hE h6;go_wp2_with fail;go_region_law(first|(go_simp;go_at_call 76;refine abv.o _ (λn s2 w5 hm h2=>?_) (λe w5 hm h2=>?_);rotate_left;(exact⟨rfl,bX.o _ _ (ia.o _ (by rw[aL hm])) ((h2.unpack 0 rfl).pick [0])⟩);have h3:Sat w0 w5 [Fr,aT pb d ad s2,ax w2.heap.size (sW 26 0 tp (.slice a l.length dt)),gi (.slice a l.length dt) l]:=(Sat.uj (L:=[Fr,aT pb d ad s,ax w2.heap.size (sW 26 0 tp (.slice a l.length dt)),gi (.slice a l.length dt) l]) (i:=1) (by simp) h2);have d1:=h3.cell 2 4;have d2:=(h3.aU (.cells #[.int .i64 n] 3)).cell 2 4;have qZ:=HL.o.TR _ _ _ hm;have H3:=qh h3;have HM:=qh hm;clear h2 h3 hm)|(go_loud(refine step_append_lies _ (by rfl) _ _ _ (by rfl) 0 3 i0 _ 1 8 underlying39 ti oB oA oy rfl (by omega) (.slice a l.length dt) l.length (l.map aQ) (by rfl) ((H3.o.row 3).alloc _) ⟨w5.heap.size,0,none⟩ 1 1 [.int .i64 n] (by rfl) (by rfl) (World.news_of_block (cs:=#[.int .i64 n]) (t:=3) (fr:=(0,0)) (aC _ _ _ (by simp))) (by simp[Value.oneCell']) (by omega) (by unfold maxLen;omega) (by omega) (by simp) (w5.heap.size+1) (by simp) ?_);intro g cap w6 ga fm qO A9;have h4:=Sat.grow (H3.o.aU _) 3 rfl fm ga (by simpa using qO);have d3:=h4.cell 2 4;have f3:=h4.free 2 rfl 4;have H4:=qh h4;clear h4))
   all_goals
    clear ga fm;have h7:=(H4.o.store 2 rfl 4 (.slice (some ⟨g,0,none⟩) (l.length+1) cap)).cQ (i:=3) rfl (Q:=gi (.slice (some ⟨g,0,none⟩) (l.length+1) cap) (l++[n])) (λ_ h=>jd h);have h7:Sat w0 _ [Fr,aT pb d ad s2,ax w2.heap.size (sW 26 0 tp (.slice (some ⟨g,0,none⟩) (l.length+1) cap)),gi (.slice (some ⟨g,0,none⟩) (l.length+1) cap) (l++[n])]:=h7;have abg:=(h7.pick [0,1]).look.fits.1;have SZ:=qh (dq (h7.pick [0,1]).look);have H7:=qh h7;have jK:Hq (∀r,(Ty.ak (Ty.stmts ad S f (l++[n])) λl=>Ty.addNode {Ty.af 26 tp with list:=l}) s2=r->di ad S st=r):=λr h=>ia.o r (by rw[aj HM.o];exact h)
    clear h7;go_wp2_with fail;go_roundw
    case rel=>exact⟨f,l++[n],s2,_,abg,by omega,by simp;omega,by omega,H7,jK⟩
    case measure=>rw[wQ.o,SZ.o];omega
theorem Prt.Sat.GD{w0 w:World}{Fr P B A X M:As}(h:Sat w0 w [Fr,P,B,A,X,M]):Sat w0 w [aq [Fr,B,X,M],P,A]:=(Sat.pack (L:=[_,_]) (M:=[_,_,_,_]) (h.pick [1,3,0,2,4,5])).pick [2,0,1]
theorem GY{w0 w:World}{A B:As}{mb:Nat}(h:Sat w0 w [A,B,ax mb (.cells #[.slice none 0 0] 161 (0,0))]):Sat w0 w [A,B,Lu mb []]:=
 Sat.EX (mv:=.slice none 0 0) (h.nil 9 1)
theorem zV{w0 w:World}{Fr:As}{pb d:Nat}{ad:List Tok.Tk}{st:Ty.St}{T E O S:Ty.M Nat}(L:Lo ad d T E O S)(H:Sat w0 w [Fr,aT pb d ad st])(ps:Nat)(yo:st.ns.length<=st.pos){R:EW}
  (aD:∀n s2 w2,bH ad T S ps st=.ok (n,s2)->Sat w0 w2 [Fr,aT pb d ad s2]->R (.returned (.int .i64 (n:Nat))) w2)
  (au:∀f w2,bH ad T S ps st=.error f->Sat w0 w2 [Fr]->R (.panicked (aO f)) w2):
  Calls prog 346 #[.pointer (some ⟨pb,0,none⟩),.int .i64 (ps:Nat)] w R:=by
 have fL:=qh aD;have bX:=qh au;have cm:=H.look;have kG:=cm.wf.1;have h1:Sat w0 _ [Fr,aT pb d ad st,qX pb w.heap.size]:=H.ar (.cells #[.pointer (some ⟨pb,0,none⟩)] 80) w.heap.size;go_in;go_wp2_with fail;refine lG _ 6 ps (λw1 cd=>?_);have h2:=(((h1.below cd).ar (.cells #[.int .i64 6,.int .i64 0,.int .i64 0,.int .i64 0,.slice none 0 0,.string ⟨#[]⟩,.int .i64 0,.int .i64 (-1),.int .i64 ps] 66) w1.heap.size).ar (.cells #[.slice none 0 0] 161) (w1.heap.size+1))
 have x2:=h2.cell 2 0;go_wp2_with fail;refine cS (h2.at 1 rfl) ⟨#[40]⟩ (λw3 hm h3=>?_) (λe w3 hm h3=>?_);rotate_left
 ·have tT:Hq (bH ad T S ps st=.error e):=by show _= _;rw[bH,aL hm]
  have H3:=qh (h3.unpack 0 rfl);go_wp2_with fail;exact⟨rfl,bX.o _ _ tT.o (H3.o.pick [0])⟩
 have tT:Hq (∀r,(Ty.ak (Ty.list ad [41] (λl=>Ty.fC ad T (l.map Prod.fst)) (ad.length+1) []) λl=>Ty.ak (Ty.written ad T) λt=>Ty.ak (di ad S) λa=>Ty.addNode {Ty.af 6 ps with list:=l.map Prod.snd,ty:=t,a:=a}) {st with pos:=st.pos+1}=r->bH ad T S ps st=r):=λr h=>by rw[bH,aj hm];exact h
 have h4:=(h3.uc).nil 3 1;have x3:=h4.cell 2 0;have h5:Sat w0 w3 [aq [Fr,aT pb d ad {st with pos:=st.pos+1},ax w1.heap.size (sW 6 0 ps (.slice none 0 0)),gi (.slice none 0 0) [],qX pb w.heap.size],ax (w1.heap.size+1) (.cells #[.slice none 0 0] 161 (0,0))]:=(Sat.pack (L:=[_]) (M:=[_,_,_,_,_]) (h4.pick [4,0,1,3,5,2])).pick [1,0];have h6:Sat w0 w3 [Fr,aT pb d ad {st with pos:=st.pos+1},ax w1.heap.size (sW 6 0 ps (.slice none 0 0)),gi (.slice none 0 0) [],qX pb w.heap.size,Lu (w1.heap.size+1) []]:=((GY (A:=aq [Fr,aT pb d ad {st with pos:=st.pos+1},ax w1.heap.size (sW 6 0 ps (.slice none 0 0)),gi (.slice none 0 0) [],qX pb w.heap.size]) (B:=λ_=>True) ((h5.jR (P:=λ_=>True) (λ_=>trivial)).pick [0,2,1])).unpack 0 rfl).pick [2,3,4,5,6,1];go_wp2_with fail;refine o9 w0 _ Fr pb d ad _ (Qr pb w1.heap.size w.heap.size (w1.heap.size+1) 6 0 ps) (Sat.AJ (l:=[]) rfl rfl h6) ⟨#[41]⟩ 356 _ Tryz.call356 (λl=>Ty.fC ad T (l.map Prod.fst)) (λ_=>qC L.at' _) (λl s w1 h hl R aD au=>J5 w0 w1 Fr pb _ _ _ d ad (Ty.fC ad T) (I1 L) 6 0 ps l s h hl aD au) (λl s4 w4 hm YZ h7=>?_) (λe w4 hm h7=>?_);rotate_left
 ·have ia:Hq (bH ad T S ps st=.error e):=tT.o _ (by rw[aL hm]);go_wp2_with fail;exact⟨rfl,bX.o _ _ ia.o h7⟩
 have qZ:=hU (λl=>qC L.at' (l.map Prod.fst)) _ _ _ _ _ hm;dsimp only at qZ;have ia:Hq (∀r,(Ty.ak (Ty.written ad T) λt=>Ty.ak (di ad S) λa=>Ty.addNode {Ty.af 6 ps with list:=l.map Prod.snd,ty:=t,a:=a}) s4=r->bH ad T S ps st=r):=λr h=>tT.o r (by rw[aj hm];exact h)
 obtain⟨v,h8⟩:=h7.zH;generalize l.map Prod.snd=ns at*
 obtain⟨va,vc,rfl⟩:=ag (h8.row 3);have x8:=h8.cell 4 0;go_wp2_with fail;refine pD L (h8.at 1 rfl) (λt s5 w5 hm h9=>?_) (λe w5 hm h9=>?_);rotate_left
 ·have jK:Hq (bH ad T S ps st=.error e):=ia.o _ (by rw[aL hm]);have H9:=qh (h9.unpack 0 rfl);go_wp2_with fail;exact⟨rfl,bX.o _ _ jK.o (H9.o.pick [0])⟩
 have VF:=iL L.at' _ _ _ hm;have jK:Hq (∀r,(Ty.ak (di ad S) λa=>Ty.addNode {Ty.af 6 ps with list:=ns,ty:=t,a:=a}) s5=r->bH ad T S ps st=r):=λr h=>ia.o r (by rw[aj hm];exact h)
 have fs:=h9.adm;have y7:=fs.cell 2 7;have f7:=fs.free 2 rfl;have pY:=fs.store 2 rfl 7 (.int .i64 t);have ad4:=pY.cell 4 0;go_wp2_with fail;refine pM L _ _ _ pb _ (pY.at 1 rfl) _ (λa s6 w6 hm kn=>?_) (λe w6 hm kn=>?_);rotate_left
 ·have uJ:Hq (bH ad T S ps st=.error e):=jK.o _ (by rw[aL hm]);have wW:=qh (kn.unpack 0 rfl);go_wp2_with fail;exact⟨rfl,bX.o _ _ uJ.o (wW.o.pick [0])⟩
 have XL:=iG L.TR _ _ _ hm;have uJ:Hq (bH ad T S ps st=.ok (s6.ns.length,{s6 with ns:=s6.ns++[{Ty.af 6 ps with list:=ns,ty:=t,a:=a}]})):=jK.o _ (by rw[aj hm];rfl);have tQ:=kn.adm;have y1:=tQ.cell 2 1;have f1:=tQ.free 2 rfl;have q0:=tQ.cell 2 0;have q2:=tQ.cell 2 2;have q3:=tQ.cell 2 3;have q4:=tQ.cell 2 4;have q5:=tQ.cell 2 5;have q6:=tQ.cell 2 6;have q7:=tQ.cell 2 7;have q8:=tQ.cell 2 8;have Pw:=tQ.store 2 rfl 1 (.int .i64 (a:Nat));have ag6:=Pw.cell 4 0;have adT:=qh Pw;clear hm kn tQ Pw ad4 y7 f7;go_wp2_with fail;refine bT {Ty.af 6 ps with list:=ns,ty:=t,a:=a} (.slice va ns.length vc) (adT.o.GD) (by omega) (λw7 adx=>?_);have aeE:=qh ((adx.unpack 0 rfl).pick [1,0]);clear adx;go_wp2_with fail;exact fL.o _ _ _ uJ.o aeE.o
namespace Ty
def Wq(ad:List Tok.Tk)(E:M Nat):M Nat:=ak (need ad [40]) λ_=>ak E λa=>ak (need ad [41]) λ_=>ret a
def Xr(ad:List Tok.Tk)(E:M Nat)(tp:Nat):M Nat:=ak (list ad [125] (λl=>fV ad E (l.map Prod.fst)) (ad.length+1) []) λl=>addNode {af 10 tp with list:=l.map Prod.snd}
def Wd(ad:List Tok.Tk)(E:M Nat)(tp:Nat):M Nat:=ak (list ad [93] (λ_=>E) (ad.length+1) []) λl=>addNode {af 11 tp with list:=l}
def Ed(ad:List Tok.Tk)(T E S:M Nat)(tp:Nat):M Nat:=
 ak (take ad [116,114,117,101]) λb=>if b then addNode {af 3 tp with n:=1}else
 ak (take ad [102,97,108,115,101]) λb=>if b then addNode (af 3 tp)else
 ak (take ad [110,117,108,108]) λb=>if b then addNode (af 4 tp)else
 ak (take ad [102,110]) λb=>if b then bH ad T S tp else
 ak (take ad [91]) λb=>if b then Wd ad E tp else
 ak (take ad [123]) λb=>if b then Xr ad E tp else Wq ad E
def Zu(ad:List Tok.Tk)(T E S:M Nat)(kd:Nat)(tx:BA)(tp:Nat):M Nat:=
 if kd=3 then ak step λ_=>addNode {af 1 tp with n:=value tx}else
 if kd=4 then ak step λ_=>addNode {af 2 tp with text:=tx}else
 if kd=1 then ak step λ_=>addNode {af 5 tp with text:=tx}else Ed ad T E S tp
theorem EV(ad:List Tok.Tk)(T E S:M Nat)(st:St):bO ad T E S st=Zu ad T E S (cur ad st.pos).kind (cur ad st.pos).text (cur ad st.pos).pos st:=rfl
section
variable {ad:List Tok.Tk} {T E S:M Nat} {tp:Nat} {s s1:St}
theorem aaK(h:take ad [116,114,117,101] s=.ok (true,s1)):Ed ad T E S tp s=addNode {af 3 tp with n:=1} s1:=by
 unfold Ed;show ak _ _ s= _;rw[aj h];rfl
theorem abr(h0:take ad [116,114,117,101] s=.ok (false,s))(h:take ad [102,97,108,115,101] s=.ok (true,s1)):Ed ad T E S tp s=addNode (af 3 tp) s1:=by
 unfold Ed;show ak _ _ s= _;rw[aj h0];show ak _ _ s= _;rw[aj h];rfl
theorem Zm(h0:take ad [116,114,117,101] s=.ok (false,s))(h1:take ad [102,97,108,115,101] s=.ok (false,s))(h:take ad [110,117,108,108] s=.ok (true,s1)):Ed ad T E S tp s=addNode (af 4 tp) s1:=by
 unfold Ed;show ak _ _ s= _;rw[aj h0];show ak _ _ s= _;rw[aj h1];show ak _ _ s= _;rw[aj h];rfl
theorem aaB(h0:take ad [116,114,117,101] s=.ok (false,s))(h1:take ad [102,97,108,115,101] s=.ok (false,s))(h2:take ad [110,117,108,108] s=.ok (false,s))(h:take ad [102,110] s=.ok (true,s1)):Ed ad T E S tp s=bH ad T S tp s1:=by
 unfold Ed;show ak _ _ s= _;rw[aj h0];show ak _ _ s= _;rw[aj h1];show ak _ _ s= _;rw[aj h2];show ak _ _ s= _;rw[aj h];rfl
theorem aaY(h0:take ad [116,114,117,101] s=.ok (false,s))(h1:take ad [102,97,108,115,101] s=.ok (false,s))(h2:take ad [110,117,108,108] s=.ok (false,s))(h3:take ad [102,110] s=.ok (false,s))(h:take ad [91] s=.ok (true,s1)):Ed ad T E S tp s=Wd ad E tp s1:=by
 unfold Ed;show ak _ _ s= _;rw[aj h0];show ak _ _ s= _;rw[aj h1];show ak _ _ s= _;rw[aj h2];show ak _ _ s= _;rw[aj h3];show ak _ _ s= _;rw[aj h];rfl
theorem Zt(h0:take ad [116,114,117,101] s=.ok (false,s))(h1:take ad [102,97,108,115,101] s=.ok (false,s))(h2:take ad [110,117,108,108] s=.ok (false,s))(h3:take ad [102,110] s=.ok (false,s))(h4:take ad [91] s=.ok (false,s))(h:take ad [123] s=.ok (true,s1)):Ed ad T E S tp s=Xr ad E tp s1:=by
 unfold Ed;show ak _ _ s= _;rw[aj h0];show ak _ _ s= _;rw[aj h1];show ak _ _ s= _;rw[aj h2];show ak _ _ s= _;rw[aj h3];show ak _ _ s= _;rw[aj h4];show ak _ _ s= _;rw[aj h];rfl
theorem aan(h0:take ad [116,114,117,101] s=.ok (false,s))(h1:take ad [102,97,108,115,101] s=.ok (false,s))(h2:take ad [110,117,108,108] s=.ok (false,s))(h3:take ad [102,110] s=.ok (false,s))(h4:take ad [91] s=.ok (false,s))(h5:take ad [123] s=.ok (false,s)):Ed ad T E S tp s=Wq ad E s:=by
 unfold Ed;show ak _ _ s= _;rw[aj h0];show ak _ _ s= _;rw[aj h1];show ak _ _ s= _;rw[aj h2];show ak _ _ s= _;rw[aj h3];show ak _ _ s= _;rw[aj h4];show ak _ _ s= _;rw[aj h5];rfl
end
end Ty
theorem Jt{kd:Nat}(h3:kd≠3)(h4:kd≠4)(h1:kd≠1)(ad:List Tok.Tk)(T E S:Ty.M Nat)(tx:BA)(tp:Nat):Zu ad T E S kd tx tp=Ed ad T E S tp:=by
 unfold Zu;rw[if_neg h3,if_neg h4,if_neg h1]
theorem Fm{ad:List Tok.Tk}{d:Nat}{T E O S:Ty.M Nat}(L:Lo ad d T E O S)(jU:EH ad):eO 336 ad d (bO ad T E S):=by
 intro w0 w Fr pb st H R aD au;have fL:=qh aD;have bX:=qh au;have HL:=qh L;have cm:=H.look;have kG:=cm.wf.1;have ig:=cm.fits.1;have qL:=cm.fits.2.2.2;have bz:=λh1: (Ty.cur ad st.pos).kind≠6=>ve cm.fits.1 cm.wf h1
 have xM:=jU (Ty.cur ad st.pos) (by rw[Ej ad _ ig];exact gM _);have h1:Sat w0 _ [Fr,aT pb d ad st,qX pb w.heap.size]:=H.ar (.cells #[.pointer (some ⟨pb,0,none⟩)] 80) w.heap.size;have H1:=qh h1;have HN:=qh (λR hR=>@gP _ pb d ad st (h1.pick [0,1]).look R hR);have zW:=qh (EV ad T E S st);generalize Ty.cur ad st.pos=t at*
 obtain⟨kd,tx,tp⟩:=t;dsimp only at bz xM zW;clear aD au H L cm h1 jU;go_enter func336,ntmps336;go_wp2_with fail;refine HN.o _ (λw1 cd=>?_);dsimp only[bV];have h2:=(H1.o.below cd).ar (.cells #[.int .i64 kd,.string tx,.int .i64 tp] 138) w1.heap.size;have x2:=h2.cell 3 2;have H2:=qh h2;clear cd h2;go_wp2_with fail;refine lG _ 0 tp (λw2 aW=>?_);have Vz:=H2.o.below aW;have ahp:=Vz.cell 3 1;have ZR:=Vz.lt 3;have HW:=qh Vz;have h3:=Vz.ar (.cells #[.int .i64 0,.int .i64 0,.int .i64 0,.int .i64 0,.slice none 0 0,.string ⟨#[]⟩,.int .i64 0,.int .i64 (-1),.int .i64 tp] 66) w2.heap.size;have t0:=h3.cell 3 0;have t1:=h3.cell 3 1;have xx:=h3.cell 2 0;have fz:=h3.free 4 rfl;have H3:=qh h3;clear aW Vz h3 x2;by_cases NC:kd=3
 ·subst NC;have jH:=bz (by decide);have hn:=xM rfl;have dU:tx.size<=18:=by have:=hn.size;omega
  have Z3:=qh (λw=>Tryz.strconv_Atoi tx (Ty.value tx:Nat) dU (F6 hn) w);have HE:Hq (bO ad T E S st=.ok (st.ns.length,{st with pos:=st.pos+1,ns:=st.ns++[{Ty.af 1 tp with n:=Ty.value tx}]})):=zW.o;have h4:=HW.o.ar (.cells #[.int .i64 1,.int .i64 0,.int .i64 0,.int .i64 0,.slice none 0 0,.string ⟨#[]⟩,.int .i64 0,.int .i64 (-1),.int .i64 tp] 66) w2.heap.size;have aew:=h4.cell 3 1;generalize Ty.value tx=vl at*
  have H4:=qh h4;clear bz xM hn h4 dU;go_wp2_with fail;refine(Z3.o _).mono ?_
  rintro e w3 ⟨rfl,tt,PS⟩
  have h5:=H4.o.below (w':=w3) (by rw[PS];exact Joins.below_bytesWorld _ _ _ _ (nR _));clear PS;have y6:=h5.cell 4 6;have ag3:=h5.free 4 rfl;have h6:=h5.store 4 rfl 6 (.int .i64 (vl:Nat));have ac6:=h6.cell 2 0;obtain⟨c1,_,f0⟩:=(h6.pick [0,1]).look.cells;have h7:=((h6.at 1 rfl).setPos (st.pos+1) jH (by omega)).uc;rw[show((st.pos+1:Nat):Int)=(st.pos:Int)+1 from rfl]at h7
  have adE:=h7.cell 2 0;have q0:=h7.cell 4 0;have q1:=h7.cell 4 1;have q2:=h7.cell 4 2;have q3:=h7.cell 4 3;have q4:=h7.cell 4 4;have q5:=h7.cell 4 5;have q6:=h7.cell 4 6;have q7:=h7.cell 4 7;have q8:=h7.cell 4 8;have H7:=qh (h7.nil 3 1);clear h5 h6 h7 t0 t1 aew xx fz;go_wp2_with fail;refine bT {Ty.af 1 tp with n:=vl} (.slice none 0 0) H7.o.lU (by dsimp only;omega) (λw7 h8=>?_);have H8:=qh ((h8.unpack 0 rfl).pick [1,0]);clear h8;go_wp2_with fail;exact fL.o _ _ _ HE.o H8.o
 by_cases Ku:kd=4
 ·subst Ku;have jH:=bz (by decide);have HE:Hq (bO ad T E S st=.ok (st.ns.length,{st with pos:=st.pos+1,ns:=st.ns++[{Ty.af 2 tp with text:=tx}]})):=zW.o;clear bz xM;go_wp2_with fail
  go_region
  all_goals
   have h5:=HW.o.ar (.cells #[.int .i64 2,.int .i64 0,.int .i64 0,.int .i64 0,.slice none 0 0,.string tx,.int .i64 0,.int .i64 (-1),.int .i64 tp] 66) w2.heap.size;have h6:=h5;have ac6:=h6.cell 2 0;obtain⟨c1,_,f0⟩:=(h6.pick [0,1]).look.cells;have h7:=((h6.at 1 rfl).setPos (st.pos+1) jH (by omega)).uc;rw[show((st.pos+1:Nat):Int)=(st.pos:Int)+1 from rfl]at h7
   have adE:=h7.cell 2 0;have q0:=h7.cell 4 0;have q1:=h7.cell 4 1;have q2:=h7.cell 4 2;have q3:=h7.cell 4 3;have q4:=h7.cell 4 4;have q5:=h7.cell 4 5;have q6:=h7.cell 4 6;have q7:=h7.cell 4 7;have q8:=h7.cell 4 8;have H7:=qh (h7.drew.nil 3 1);clear h5 h6 h7 t0 t1 xx fz;go_wp2_with fail;refine bT {Ty.af 2 tp with text:=tx} (.slice none 0 0) H7.o.lU (by dsimp only;omega) (λw7 h8=>?_);have H8:=qh ((h8.unpack 0 rfl).pick [1,0]);clear h8;go_wp2_with fail;exact fL.o _ _ _ HE.o H8.o
 by_cases CZ:kd=1
 ·subst CZ;have jH:=bz (by decide);have HE:Hq (bO ad T E S st=.ok (st.ns.length,{st with pos:=st.pos+1,ns:=st.ns++[{Ty.af 5 tp with text:=tx}]})):=zW.o;clear bz xM;go_wp2_with fail
  go_region
  all_goals
   have h5:=HW.o.ar (.cells #[.int .i64 5,.int .i64 0,.int .i64 0,.int .i64 0,.slice none 0 0,.string tx,.int .i64 0,.int .i64 (-1),.int .i64 tp] 66) w2.heap.size;have h6:=h5;have ac6:=h6.cell 2 0;obtain⟨c1,_,f0⟩:=(h6.pick [0,1]).look.cells;have h7:=((h6.at 1 rfl).setPos (st.pos+1) jH (by omega)).uc;rw[show((st.pos+1:Nat):Int)=(st.pos:Int)+1 from rfl]at h7
   have adE:=h7.cell 2 0;have q0:=h7.cell 4 0;have q1:=h7.cell 4 1;have q2:=h7.cell 4 2;have q3:=h7.cell 4 3;have q4:=h7.cell 4 4;have q5:=h7.cell 4 5;have q6:=h7.cell 4 6;have q7:=h7.cell 4 7;have q8:=h7.cell 4 8;have H7:=qh (h7.drew.nil 3 1);clear h5 h6 h7 t0 t1 xx fz;go_wp2_with fail;refine bT {Ty.af 5 tp with text:=tx} (.slice none 0 0) H7.o.lU (by dsimp only;omega) (λw7 h8=>?_);have H8:=qh ((h8.unpack 0 rfl).pick [1,0]);clear h8;go_wp2_with fail;exact fL.o _ _ _ HE.o H8.o
 have k3:=kN kd 3 3;have k4:=kN kd 4 4;have k1:=kN kd 1 1;rw[Jt NC Ku CZ]at zW
 clear xM bz NC Ku CZ;go_wp2_with fail;refine cB (H3.o.at 1 rfl) ⟨#[116,114,117,101]⟩ (λwa hi ha=>?_) (λNw hi ha=>?_)
 ·have h4:=ha.uc;have X7:=h4.free 4 rfl;have Tl:=h4.cell 2 0;have y0:=h4.cell 4 0;have y6:=h4.cell 4 6;have h5:=((h4.store 4 rfl 0 (.int .i64 3)).store 4 rfl 6 (.int .i64 1))
  have XR:=h5.cell 2 0;have q0:=h5.cell 4 0;have q1:=h5.cell 4 1;have q2:=h5.cell 4 2;have q3:=h5.cell 4 3;have q4:=h5.cell 4 4;have q5:=h5.cell 4 5;have q6:=h5.cell 4 6;have q7:=h5.cell 4 7;have q8:=h5.cell 4 8;have HE:Hq (bO ad T E S st=.ok (st.ns.length,{st with pos:=st.pos+1,ns:=st.ns++[{Ty.af 3 tp with n:=1}]})):=zW.o.trans (aaK hi);have H5:=qh (h5.nil 3 1);clear hi ha h4 h5 xx t0 t1 fz;go_wp2_with fail;refine bT {Ty.af 3 tp with n:=1} (.slice none 0 0) H5.o.lU (by dsimp only;omega) (λw7 h8=>?_);have H8:=qh ((h8.unpack 0 rfl).pick [1,0]);clear h8;go_wp2_with fail;exact fL.o _ _ _ HE.o H8.o
 have RN:=qh hi;have h4:=ha.uc;have xx:=h4.cell 2 0;have fz:=h4.free 4 rfl;have KH:=qh h4;clear hi ha h4;go_wp2_with fail;refine cB (KH.o.at 1 rfl) ⟨#[102,97,108,115,101]⟩ (λwa hi ha=>?_) (λady hi ha=>?_)
 ·have h4:=ha.uc;have X7:=h4.free 4 rfl;have Tl:=h4.cell 2 0;have y0:=h4.cell 4 0;have h5:=(h4.store 4 rfl 0 (.int .i64 3))
  have XR:=h5.cell 2 0;have q0:=h5.cell 4 0;have q1:=h5.cell 4 1;have q2:=h5.cell 4 2;have q3:=h5.cell 4 3;have q4:=h5.cell 4 4;have q5:=h5.cell 4 5;have q6:=h5.cell 4 6;have q7:=h5.cell 4 7;have q8:=h5.cell 4 8;have HE:Hq (bO ad T E S st=.ok (st.ns.length,{st with pos:=st.pos+1,ns:=st.ns++[Ty.af 3 tp]})):=zW.o.trans (abr RN.o hi);have H5:=qh (h5.nil 3 1);clear hi ha h4 h5 xx t0 t1 fz;go_wp2_with fail;refine bT (Ty.af 3 tp) (.slice none 0 0) H5.o.lU (by dsimp only;omega) (λw7 h8=>?_);have H8:=qh ((h8.unpack 0 rfl).pick [1,0]);clear h8;go_wp2_with fail;exact fL.o _ _ _ HE.o H8.o
 have SK:=qh hi;have h4:=ha.uc;have xx:=h4.cell 2 0;have fz:=h4.free 4 rfl;have ae0:=qh h4;clear hi ha h4;go_wp2_with fail;refine cB (ae0.o.at 1 rfl) ⟨#[110,117,108,108]⟩ (λwa hi ha=>?_) (λTM hi ha=>?_)
 ·have h4:=ha.uc;have X7:=h4.free 4 rfl;have Tl:=h4.cell 2 0;have y0:=h4.cell 4 0;have h5:=(h4.store 4 rfl 0 (.int .i64 4))
  have XR:=h5.cell 2 0;have q0:=h5.cell 4 0;have q1:=h5.cell 4 1;have q2:=h5.cell 4 2;have q3:=h5.cell 4 3;have q4:=h5.cell 4 4;have q5:=h5.cell 4 5;have q6:=h5.cell 4 6;have q7:=h5.cell 4 7;have q8:=h5.cell 4 8;have HE:Hq (bO ad T E S st=.ok (st.ns.length,{st with pos:=st.pos+1,ns:=st.ns++[Ty.af 4 tp]})):=zW.o.trans (Zm RN.o SK.o hi);have H5:=qh (h5.nil 3 1);clear hi ha h4 h5 xx t0 t1 fz;go_wp2_with fail;refine bT (Ty.af 4 tp) (.slice none 0 0) H5.o.lU (by dsimp only;omega) (λw7 h8=>?_);have H8:=qh ((h8.unpack 0 rfl).pick [1,0]);clear h8;go_wp2_with fail;exact fL.o _ _ _ HE.o H8.o
 have MQ:=qh hi;have h4:=ha.uc;have xx:=h4.cell 2 0;have fz:=h4.free 4 rfl;have ad5:=qh h4;clear hi ha h4;go_wp2_with fail;refine cB (ad5.o.at 1 rfl) ⟨#[102,110]⟩ (λwa hi ha=>?_) (λagv hi ha=>?_)
 ·have h4:=ha.uc;have X7:=h4.free 4 rfl;have Tl:=h4.cell 2 0;have t2:=h4.cell 3 2;have HE:=qh (zW.o.trans (aaB RN.o SK.o MQ.o hi));have H4:=qh h4;clear hi ha h4 xx t0 t1 fz;go_wp2_with fail;refine zV HL.o (H4.o.at 1 rfl) tp (by dsimp only;omega) (λn s5 w5 hm h5=>?_) (λe w5 hm h5=>?_)
  ·have HM:=qh hm;have H5:=qh h5.uc;clear hm h5;go_wp2_with fail;exact fL.o _ _ _ (HE.o.trans HM.o) (H5.o.pick [0,1])
  ·have HM:=qh hm;have H5:=qh (h5.unpack 0 rfl);clear hm h5;go_wp2_with fail;exact⟨rfl,bX.o _ _ (HE.o.trans HM.o) (H5.o.pick [0])⟩
 have U8:=qh hi;have h4:=ha.uc;have xx:=h4.cell 2 0;have fz:=h4.free 4 rfl;have afQ:=qh h4;clear hi ha h4;go_wp2_with fail;refine cB (afQ.o.at 1 rfl) ⟨#[91]⟩ (λwa hi ha=>?_) (λahx hi ha=>?_)
 ·have h4:=ha.uc;have X7:=h4.free 4 rfl;have Tl:=h4.cell 2 0;have y0:=h4.cell 4 0;have h5:=h4.store 4 rfl 0 (.int .i64 11);have XR:=h5.cell 2 0;have HE:Hq (bO ad T E S st=Wd ad E tp {st with pos:=st.pos+1}):=zW.o.trans (aaY RN.o SK.o MQ.o U8.o hi);have h6:Sat w0 _ [Fr,ax w1.heap.size (.cells #[.int .i64 kd,.string tx,.int .i64 tp] 138 (0,0)),aT pb d ad {st with pos:=st.pos+1},Pm pb w2.heap.size w.heap.size 11 0 tp []]:=(Sat.pack (L:=[_,_,_]) (M:=[_,_,_]) ((h5.nil 3 1).pick [0,3,1,4,5,2])).cQ (i:=3) rfl (λ_ h=>⟨_,h⟩);have h7:Sat w0 _ [aq [Fr,ax w1.heap.size (.cells #[.int .i64 kd,.string tx,.int .i64 tp] 138 (0,0))],aT pb d ad {st with pos:=st.pos+1},Pm pb w2.heap.size w.heap.size 11 0 tp []]:=(Sat.pack (L:=[_,_]) (M:=[_,_]) (h6.pick [2,3,0,1])).pick [2,0,1];have H7:=qh h7;clear hi ha h4 h5 h6 h7 xx t0 t1 fz;go_wp2_with fail;refine o9 w0 _ _ pb d ad _ (Pm pb w2.heap.size w.heap.size 11 0 tp) H7.o ⟨#[93]⟩ 347 _ Tryz.call347 (λ_=>E) (λ_=>HL.o.ae) (λl s w1 h hl R aD au=>CW w0 w1 _ pb _ _ d ad E HL.o.e 11 0 tp l s h hl aD au) (λl s4 w4 hm YZ h8=>?_) (λe w4 hm h8=>?_)
  ·have qZ:=hU (λ_=>HL.o.ae) _ _ _ _ _ hm;dsimp only at qZ;obtain⟨v,h9⟩:=h8.AU;obtain⟨va,vc,rfl⟩:=ag (h9.row 3);have q0:=h9.cell 2 0;have q1:=h9.cell 2 1;have q2:=h9.cell 2 2;have q3:=h9.cell 2 3;have q4:=h9.cell 2 4;have q5:=h9.cell 2 5;have q6:=h9.cell 2 6;have q7:=h9.cell 2 7;have q8:=h9.cell 2 8;have adY:=h9.cell 4 0;have ia:Hq (bO ad T E S st=.ok (s4.ns.length,{s4 with ns:=s4.ns++[{Ty.af 11 tp with list:=l}]})):=HE.o.trans (by rw[Wd,aj hm];rfl);have H9:=qh h9;clear hm h8 h9;go_wp2_with fail;refine bT {Ty.af 11 tp with list:=l} (.slice va l.length vc) ((H9.o.pick [0,1,4,2,3]).tI) (by omega) (λw5 fs=>?_);have Az:=qh ((((fs.vZ).unpack 0 rfl)).pick [2,0]);clear fs;go_wp2_with fail;exact fL.o _ _ _ ia.o Az.o
  ·have ia:Hq (bO ad T E S st=.error e):=HE.o.trans (by rw[Wd,aL hm]);have H8:=qh (h8.unpack 0 rfl);clear hm h8;go_wp2_with fail;exact⟨rfl,bX.o _ _ ia.o (H8.o.pick [0])⟩
 have acJ:=qh hi;have h4:=ha.uc;have xx:=h4.cell 2 0;have fz:=h4.free 4 rfl;have afR:=qh h4;clear hi ha h4;go_wp2_with fail;refine cB (afR.o.at 1 rfl) ⟨#[123]⟩ (λwa hi ha=>?_) (λahc hi ha=>?_)
 ·have h4:=ha.uc;have X7:=h4.free 4 rfl;have Tl:=h4.cell 2 0;have y0:=h4.cell 4 0;have h5:=(h4.store 4 rfl 0 (.int .i64 10)).ar (.cells #[.slice none 0 0] 161) wa.heap.size;have XR:=h5.cell 2 0;have HE:Hq (bO ad T E S st=Xr ad E tp {st with pos:=st.pos+1}):=zW.o.trans (Zt RN.o SK.o MQ.o U8.o acJ.o hi);have h6:=(Sat.pack (L:=[_]) (M:=[_,_,_,_,_,_]) ((h5.nil 3 1).pick [5,0,1,4,6,2,3])).pick [1,0];have h7:Sat w0 _ [Fr,aT pb d ad {st with pos:=st.pos+1},ax w2.heap.size (sW 10 0 tp (.slice none 0 0)),gi (.slice none 0 0) [],qX pb w.heap.size,ax w1.heap.size (.cells #[.int .i64 kd,.string tx,.int .i64 tp] 138 (0,0)),Lu wa.heap.size []]:=((GY (B:=λ_=>True) ((h6.jR (P:=λ_=>True) (λ_=>trivial)).pick [0,2,1])).unpack 0 rfl).pick [2,3,4,5,6,7,1];have h8:Sat w0 _ [aq [Fr,ax w1.heap.size (.cells #[.int .i64 kd,.string tx,.int .i64 tp] 138 (0,0))],aT pb d ad {st with pos:=st.pos+1},Qr pb w2.heap.size w.heap.size wa.heap.size 10 0 tp []]:=Sat.AJ (l:=[]) rfl rfl ((Sat.pack (L:=[_,_,_,_,_]) (M:=[_,_]) (h7.pick [1,2,3,4,6,0,5])).pick [5,0,1,2,3,4]);have H8:=qh h8;clear hi ha h4 h5 h6 h7 h8 xx t0 t1 fz;go_wp2_with fail;refine o9 w0 _ _ pb d ad _ (Qr pb w2.heap.size w.heap.size wa.heap.size 10 0 tp) H8.o ⟨#[125]⟩ 348 _ Tryz.call348 (λl=>Ty.fV ad E (l.map Prod.fst)) (λ_=>tJ HL.o.ae _) (λl s w1 h hl R aD au=>Oz w0 w1 _ pb _ _ _ d ad (Ty.fV ad E) (L5 HL.o) 10 0 tp l s h hl aD au) (λl s4 w4 hm YZ h9=>?_) (λe w4 hm h9=>?_)
  ·have qZ:=hU (λl=>tJ HL.o.ae (l.map Prod.fst)) _ _ _ _ _ hm;dsimp only at qZ;obtain⟨v,fs⟩:=h9.zH;have ia:Hq (bO ad T E S st=.ok (s4.ns.length,{s4 with ns:=s4.ns++[{Ty.af 10 tp with list:=l.map Prod.snd}]})):=HE.o.trans (by rw[Xr,aj hm];rfl);generalize l.map Prod.snd=ns at*
   obtain⟨va,vc,rfl⟩:=ag (fs.row 3);have q0:=fs.cell 2 0;have q1:=fs.cell 2 1;have q2:=fs.cell 2 2;have q3:=fs.cell 2 3;have q4:=fs.cell 2 4;have q5:=fs.cell 2 5;have q6:=fs.cell 2 6;have q7:=fs.cell 2 7;have q8:=fs.cell 2 8;have adY:=fs.cell 4 0;have Az:=qh fs;clear hm h9 fs;go_wp2_with fail;refine bT {Ty.af 10 tp with list:=ns} (.slice va ns.length vc) (Az.o.GD) (by omega) (λw5 pY=>?_);have W0:=qh (((((pY.unpack 0 rfl).pick [1,0])).unpack 0 rfl).pick [1,0]);clear pY;go_wp2_with fail;exact fL.o _ _ _ ia.o W0.o
  ·have ia:Hq (bO ad T E S st=.error e):=HE.o.trans (by rw[Xr,aL hm]);have H9:=qh (h9.unpack 0 rfl);clear hm h9;go_wp2_with fail;exact⟨rfl,bX.o _ _ ia.o (H9.o.pick [0])⟩
 have adO:=qh hi;have h4:=ha.uc;have xx:=h4.cell 2 0;have fz:=h4.free 4 rfl;have aeX:=qh h4;clear hi ha h4;go_wp2_with fail;have HE:Hq (bO ad T E S st=Wq ad E st):=zW.o.trans (aan RN.o SK.o MQ.o U8.o acJ.o adO.o);refine cS (aeX.o.at 1 rfl) ⟨#[40]⟩ (λw3 hm h4=>?_) (λe w3 hm h4=>?_);rotate_left
 ·have ia:Hq (bO ad T E S st=.error e):=HE.o.trans (by rw[Wq,aL hm]);have H4:=qh (h4.unpack 0 rfl);clear hm h4;go_wp2_with fail;exact⟨rfl,bX.o _ _ ia.o (H4.o.pick [0])⟩
 have ia:Hq (bO ad T E S st=(Ty.ak E λa=>Ty.ak (Ty.need ad [41]) λ_=>Ty.ret a) {st with pos:=st.pos+1}):=HE.o.trans (by rw[Wq,aj hm]);have h5:=h4.uc;have Tl:=h5.cell 2 0;have H4:=qh h5;clear hm h4 h5 xx;go_wp2_with fail;refine HL.o.e _ _ _ pb _ (H4.o.at 1 rfl) _ (λn s5 w5 hm h5=>?_) (λe w5 hm h5=>?_);rotate_left
 ·have jK:Hq (bO ad T E S st=.error e):=ia.o.trans (by rw[aL hm]);have H5:=qh (h5.unpack 0 rfl);clear hm h5;go_wp2_with fail;exact⟨rfl,bX.o _ _ jK.o (H5.o.pick [0])⟩
 have jK:Hq (bO ad T E S st=(Ty.ak (Ty.need ad [41]) λ_=>Ty.ret n) s5):=ia.o.trans (by rw[aj hm]);have h6:=h5.uc;have XR:=h6.cell 2 0;have H5:=qh h6;clear hm h5 h6 Tl;go_wp2_with fail;refine cS (H5.o.at 1 rfl) ⟨#[41]⟩ (λw6 hm h6=>?_) (λe w6 hm h6=>?_)
 ·have uJ:Hq (bO ad T E S st=.ok (n,{s5 with pos:=s5.pos+1})):=jK.o.trans (by rw[aj hm];rfl);have H6:=qh h6.uc;clear hm h6;go_wp2_with fail;exact fL.o _ _ _ uJ.o (H6.o.pick [0,1])
 ·have uJ:Hq (bO ad T E S st=.error e):=jK.o.trans (by rw[aL hm]);have H6:=qh (h6.unpack 0 rfl);clear hm h6;go_wp2_with fail;exact⟨rfl,bX.o _ _ uJ.o (H6.o.pick [0])⟩
section
variable {w0 w:World} {Fr:As} {pb d:Nat} {ad:List Tok.Tk} {st:Ty.St}
theorem vb(H:Sat w0 w [Fr,aT pb d ad st])(F:FuncId)(c:Value)(hc:∀(args:Array Value)(w:World),(callFunc F args).run prog w=.ok (.enter F args) w)
  (m:Ty.M Nat)
  (Bj:d<20->∀w1,Sat w0 w1 [Fr,aT pb (d+1) ad st]->∀R:EW,
   (∀n st2 w2,m st=.ok (n,st2)->Sat w0 w2 [Fr,aT pb (d+1) ad st2]->R (.returned (.int .i64 (n:Nat))) w2)->
   (∀f w2,m st=.error f->Sat w0 w2 [Fr]->R (.panicked (aO f)) w2)->Calls prog F #[c] w1 R)
  {R:EW}
  (aD:∀n st2 w2,d<20->m st=.ok (n,st2)->Sat w0 w2 [Fr,aT pb d ad st2]->R (.returned (.int .i64 (n:Nat))) w2)
  (au:∀f w2,(d<20->m st=.error f)->(d=20->f=Ty.here ad 8 st.pos)->Sat w0 w2 [Fr]->R (.panicked (aO f)) w2):
  Calls prog 130 #[.pointer (some ⟨pb,0,none⟩),.func (.func F) #[c] #[]] w R:=by
 have cm:=H.look;have hd:=cm.fits.2.1;obtain⟨_,c2,f0⟩:=cm.cells;by_cases Lh:d=20
 ·have d1: ((d:Int)==20)=true:=by simp[Lh]
  go_in;go_wp2_with fail;refine kK w pb d ad st cm 8 (λw1 cd=>?_);go_wp2_with fail;exact⟨rfl,au _ _ (λh=>by have:=Lh;omega) (λ_=>rfl) ((H.below cd).pick [0])⟩
 ·have d1: ((d:Int)==20)=false:=by simp;omega
  have bz:d<20:=by omega
  go_in;go_wp2_with fail;refine Bj bz _ (H.uV (d+1) (by omega)) _ (λn st2 w2 hm h2=>?_) (λf w2 hm h2=>?_)
  ·obtain⟨_,Sw,afs⟩:=h2.look.cells;have H2:=qh h2;have HM:=qh hm;go_wp2;exact aD n st2 _ bz HM.o (H2.o.uV _ (by omega))
  ·have H2:=qh h2;have HM:=qh hm;go_wp2_with fail;exact⟨rfl,au f w2 (λ_=>HM.o) (λh=>absurd h (by omega)) H2.o⟩
end
def preB:List BA:=[⟨#[33]⟩,⟨#[45]⟩,⟨#[116,121,112,101,111,102]⟩]
def Hh:Array Value:=#[.string ⟨#[33]⟩,.string ⟨#[45]⟩,.string ⟨#[116,121,112,101,111,102]⟩]
theorem Q0{ad:List Tok.Tk}{x:List UInt8}{s s':Ty.St}(h:Ty.take ad x s=.ok (true,s')):Ty.is ad x s.pos=true:=by
 unfold Ty.take at h;split at h
 ·assumption
 ·cases h
theorem L4{ad:List Tok.Tk}{x:List UInt8}{s s':Ty.St}(h:Ty.take ad x s=.ok (false,s')):Ty.is ad x s.pos=false:=by
 unfold Ty.take at h;split at h
 ·cases h
 ·simpa using‹¬Ty.is ad x s.pos=true›
theorem AH{ad:List Tok.Tk}{x:BA}{p:Nat}(h:Ty.is ad x.data.toList p=true): (Ty.cur ad p).text=x:=by
 unfold Ty.is at h;simp at h;apply ByteArray.ext;exact h.2
theorem Pe{ad:List Tok.Tk}{d:Nat}{T E O S:Ty.M Nat}(L:Lo ad d T E O S)(jU:EH ad):eO 319 ad d (oI ad T E O S):=by
 intro w0 w Fr pb st H R aD au;have fL:=qh aD;have bX:=qh au;have HL:=qh L;have cm:=H.look;have qL:=cm.fits.2.2.2;have HN:=qh (λR hR=>@gP _ pb d ad st cm R hR);have agt:=qh (Fm L jU);have afz:=qh (xn L.pt L.ne L.ns.pre (ad:=ad));have QX:Hq (∀x∈preB,Ty.is ad x.data.toList st.pos=true->oI ad T E O S st=Ty.ak O (λa=>Ty.addNode {Ty.af 13 (Ty.cur ad st.pos).pos with text:=x,a:=a}) {st with pos:=st.pos+1}):=λx hx hi=>by
  show oI ad T E O S st= _;rw[<-AH hi];show(if dc.any (λx=>Ty.is ad x st.pos)=true then _ else _:Ty.M Nat) st= _;rw[if_pos (List.any_eq_true.2 ⟨x.data.toList,by simp[preB]at hx;rcases hx with rfl|rfl|rfl<;>simp[dc],hi⟩)];rfl
 have oG:Hq ((∀j(hj:j<preB.length),Ty.is ad preB[j].data.toList st.pos=false)->oI ad T E O S st=Ty.ak (bO ad T E S) (λa=>Ty.behind ad T E (ad.length+1) a) st):=λh=>by
  show(if dc.any (λx=>Ty.is ad x st.pos)=true then _ else _:Ty.M Nat) st= _;have h0:=h 0 (by decide);have h1:=h 1 (by decide);have h2:=h 2 (by decide);have e:¬dc.any (λx=>Ty.is ad x st.pos)=true:=by
   simp only[dc,List.any_cons,List.any_nil];intro e;simp only[preB,List.getElem_cons_zero,List.getElem_cons_succ]at h0 h1 h2;rw[h0,h1,h2]at e;simp at e
  rw[if_neg e]
 obtain⟨ps,kp⟩:∃ps,(Ty.cur ad st.pos).pos=ps:=⟨_,rfl⟩
 rw[kp]at QX
 generalize Ty.cur ad st.pos=t at*
 obtain⟨kd,tx,tp⟩:=t;dsimp only at kp;subst kp;have HS:=qh H;have Ea:=kA;clear aD au H L cm jU;go_enter func319,ntmps319;go_wp2_with fail;refine HN.o _ (λw1 cd=>?_);dsimp only[bV];have h2:=(HS.o.below cd).ar (.cells Hh 9) w1.heap.size;have H2:=qh h2;clear cd h2;go_wp2_with fail;go_loopw [12] (λi wr=>∃k:Nat,k<=3/\i=.int .i64 k/\Hq (Sat w0 wr [Fr,aT pb d ad st,ax w1.heap.size (.cells Hh 9 (0,0))])/\Hq (∀j(hj:j<preB.length),j<k->Ty.is ad preB[j].data.toList st.pos=false)) (λi _=>3-(intOf i).toNat)
 case atStart=>exact⟨0,by omega,rfl,H2.o,λj hj h=>by omega⟩
 case round=>
  obtain⟨k,hk,rfl,hS,Gw⟩:=hrel;by_cases bz:k<3
  ·have u_:k<preB.length:=bz;have d0:wr.cell? ⟨w1.heap.size,k,none⟩=some (.string preB[k]):=hS.out.cell 2 k rfl (by
    match k,bz with
    |0,_=>rfl
    |1,_=>rfl
    |2,_=>rfl)
   have B2:=gM u_;have HX:Hq (Ty.is ad preB[k].data.toList st.pos=false->∀j(hj:j<preB.length),j<k+1->Ty.is ad preB[j].data.toList st.pos=false):=λh j hj Lj=>by
    by_cases e:j=k
    ·subst e;exact h
    ·exact Gw.out j hj (by omega)
   generalize preB[k]=x at*
   have aaR:=qh B2;clear B2 u_;go_wp2_with fail;refine cB (hS.out.at 1 rfl) x (λw2 hi h3=>?_) (λw2 hi h3=>?_)
   ·have HE:=qh (QX.o x aaR.o (Q0 hi));have H3:=qh h3.km;clear hi h3;go_wp2_with fail;refine lG _ 13 tp (λw3 cZ=>?_);have h4:=(H3.o.below cZ).ar (.cells #[.int .i64 13,.int .i64 0,.int .i64 0,.int .i64 0,.slice none 0 0,.string x,.int .i64 0,.int .i64 (-1),.int .i64 tp] 66) w3.heap.size;have H4:=qh h4;clear cZ h4;go_wp2_with fail;refine HL.o.o _ _ _ pb _ (H4.o.at 1 rfl) _ (λn s5 w5 hm h5=>?_) (λe w5 hm h5=>?_)
    ·have qZ:=HL.o.ao _ _ _ hm;dsimp only at qZ;have ia:Hq (oI ad T E O S st=.ok (s5.ns.length,{s5 with ns:=s5.ns++[{Ty.af 13 tp with text:=x,a:=n}]})):=HE.o.trans (by rw[aj hm];rfl);have h6:=h5.oH;have y1:=h6.cell 3 1;have f6:=h6.free 3 rfl;have h7:=h6.store 3 rfl 1 (.int .i64 (n:Nat));have q0:=h6.cell 3 0;have q2:=h6.cell 3 2;have q3:=h6.cell 3 3;have q4:=h6.cell 3 4;have q5:=h6.cell 3 5;have q6:=h6.cell 3 6;have q7:=h6.cell 3 7;have q8:=h6.cell 3 8;have H7:=qh (h7.nil 3 1);clear hm h5 h6 h7;go_wp2_with fail;refine bT {Ty.af 13 tp with text:=x,a:=n} (.slice none 0 0) H7.o.tI (by omega) (λw7 h8=>?_);have H8:=qh ((h8.unpack 0 rfl).pick [1,0]);clear h8;go_wp2_with fail;exact fL.o _ _ _ ia.o H8.o
    ·have ia:Hq (oI ad T E O S st=.error e):=HE.o.trans (by rw[aL hm]);have H5:=qh (h5.unpack 0 rfl);clear hm h5;go_wp2_with fail;exact⟨rfl,bX.o _ _ ia.o (H5.o.pick [0])⟩
   ·have Ze:=qh (HX.o (L4 hi));have H3:=qh h3.km;clear hi h3 HX;go_wp2_with fail;go_roundw
    case rel=>exact⟨k+1,by omega,by go_num,H3,Ze⟩
    case measure=>simp[intOf];omega
  ·have pw:k=3:=by omega
   subst pw;have HE:=qh (oG.o (λj hj=>Gw.out j hj hj));clear Gw;go_wp2_with fail;refine agt.o _ _ _ pb _ (hS.out.at 1 rfl) _ (λn s5 w5 hm h5=>?_) (λe w5 hm h5=>?_)
   ·have yZ:=(afz.o _ _ _ hm).2.1;have ia:Hq (oI ad T E O S st=Ty.behind ad T E (ad.length+1) n s5):=HE.o.trans (by rw[aj hm]);have H5:=qh h5.km;clear hm h5;go_wp2_with fail;refine F3 HL.o (H5.o.at 1 rfl) yZ (λm s6 w6 hm h6=>?_) (λe w6 hm h6=>?_)
    ·have HM:=qh (ia.o.trans hm);have H6:=qh h6.km;clear hm h6;go_wp2_with fail;exact fL.o _ _ _ HM.o (H6.o.pick [0,1])
    ·have HM:=qh (ia.o.trans hm);have H6:=qh (h6.unpack 0 rfl);clear hm h6;go_wp2_with fail;exact⟨rfl,bX.o _ _ HM.o (H6.o.pick [0])⟩
   ·have ia:Hq (oI ad T E O S st=.error e):=HE.o.trans (by rw[aL hm]);have H5:=qh (h5.unpack 0 rfl);clear hm h5;go_wp2_with fail;exact⟨rfl,bX.o _ _ ia.o (H5.o.pick [0])⟩
section
variable {ad:List Tok.Tk} {d:Nat} {ONE:Ty.M Nat}
theorem NT(xh:eO 319 ad d ONE)(hA:bh 1 0 0 ONE)(hN:Nx ONE)(w0 w:World)(Fr:As)(pb xb:Nat)(st:Ty.St)(H:Sat w0 w [Fr,aT pb d ad st])(hx:∀w1,Sat w0 w1 [Fr]->w1.cell? ⟨xb,0,none⟩=some (.pointer (some ⟨pb,0,none⟩))){R:EW}
  (aD:∀n s2 w2,gU ad ONE st=.ok (n,s2)->Sat w0 w2 [Fr,aT pb d ad s2]->R (.returned (.int .i64 (n:Nat))) w2)
  (au:∀f w2,gU ad ONE st=.error f->Sat w0 w2 [Fr]->R (.panicked (aO f)) w2):
  Calls prog 318 #[.pointer (some ⟨xb,0,none⟩)] w R:=by
 have fL:=qh aD;have bX:=qh au;have x0:=hx w (H.pick [0]);have h1:=H.ar (.cells #[.string ⟨#[42]⟩] 9) w.heap.size;go_in;go_wp2_with fail;refine TW w0 _ _ pb d w.heap.size ad st ONE hA hN [⟨#[42]⟩] (by decide) 319 _ Tryz.call319 (λw1 h=>⟨(h.unpack 0 rfl).lt 1,λj hj=>(h.unpack 0 rfl).cell 1 j rfl (by
   match j,hj with
   |0,_=>rfl)⟩) (λs w1 h R aD au=>xh w0 w1 _ pb s h R aD au) (h1.at 1 rfl) (λn s2 w2 hm h2=>?_) (λf w2 hm h2=>?_)
 ·have HM:Hq (gU ad ONE st=.ok (n,s2)):=hm;have H2:=qh h2.km;go_wp2;exact fL.o _ _ _ HM.o (H2.o.pick [0,1])
 ·have HM:Hq (gU ad ONE st=.error f):=hm;have H2:=qh (h2.unpack 0 rfl);go_wp2_with fail;exact⟨rfl,bX.o _ _ HM.o (H2.o.pick [0])⟩
theorem PD(xh:eO 319 ad d ONE)(hA:bh 1 0 0 ONE)(hN:Nx ONE):eO 281 ad d (Ty.mq ad ONE):=by
 intro w0 w Fr pb st H R aD au;have fL:=qh aD;have bX:=qh au;have h1:=(H.ar (.cells #[.pointer (some ⟨pb,0,none⟩)] 80) w.heap.size).ar (.cells #[.string ⟨#[43]⟩,.string ⟨#[45]⟩] 9) (w.heap.size+1);go_enter func281,ntmps281;go_wp2_with fail;refine TU w0 _ _ pb d (w.heap.size+1) ad st (gU ad ONE) (vo hA) (AE hN) [⟨#[43]⟩,⟨#[45]⟩] (by decide) 318 _ Tryz.call318 (λw1 h=>⟨(h.unpack 0 rfl).lt 2,λj hj=>(h.unpack 0 rfl).cell 2 j rfl (by
   match j,hj with
   |0,_=>rfl
   |1,_=>rfl)⟩) (λs w1 h R aD au=>NT xh hA hN w0 w1 _ pb w.heap.size s h (λw' h'=>(h'.unpack 0 rfl).cell 1 0) aD au) (h1.at 1 rfl) (λn s2 w2 hm h2=>?_) (λf w2 hm h2=>?_)
 ·have HM:Hq (Ty.mq ad ONE st=.ok (n,s2)):=hm;have H2:=qh h2.oH;go_wp2;exact fL.o _ _ _ HM.o (H2.o.pick [0,1])
 ·have HM:Hq (Ty.mq ad ONE st=.error f):=hm;have H2:=qh (h2.unpack 0 rfl);go_wp2_with fail;exact⟨rfl,bX.o _ _ HM.o (H2.o.pick [0])⟩
def Fh:List BA:=[⟨#[61,61]⟩,⟨#[60]⟩]
def Ou:Array Value:=#[.string ⟨#[61,61]⟩,.string ⟨#[60]⟩]
theorem Kp(xh:eO 319 ad d ONE)(hA:bh 1 0 0 ONE)(hN:Nx ONE)(w0 w:World)(Fr:As)(pb xb:Nat)(st:Ty.St)(H:Sat w0 w [Fr,aT pb d ad st])(hx:∀w1,Sat w0 w1 [Fr]->w1.cell? ⟨xb,0,none⟩=some (.pointer (some ⟨pb,0,none⟩))){R:EW}
  (aD:∀n s2 w2,gW ad ONE st=.ok (n,s2)->Sat w0 w2 [Fr,aT pb d ad s2]->R (.returned (.int .i64 (n:Nat))) w2)
  (au:∀f w2,gW ad ONE st=.error f->Sat w0 w2 [Fr]->R (.panicked (aO f)) w2):
  Calls prog 280 #[.pointer (some ⟨xb,0,none⟩)] w R:=by
 have V9:=qh (PD xh hA hN);have HA:=qh (rm (ad:=ad) hA);have HN:=qh (u7 (ad:=ad) hN);have x0:=hx w (H.pick [0]);go_in;go_wp2_with fail;refine V9.o _ _ _ pb _ H _ (λn s1 w1 hm h1=>?_) (λe w1 hm h1=>?_);rotate_left
 ·have HE:Hq (gW ad ONE st=.error e):=by show _= _;rw[gW,aL hm]
  have H1:=qh h1;go_wp2_with fail;exact⟨rfl,au _ _ HE.o H1.o⟩
 have lW:=(HN.o _ _ _ hm).2.1;have QX:Hq (∀k(hk:k<Fh.length) s',(∀j(hj:j<Fh.length),j<k->Ty.take ad Fh[j].data.toList s1=.ok (false,s1))->Ty.take ad Fh[k].data.toList s1=.ok (true,s')->gW ad ONE st=Ty.ak (Ty.mq ad ONE) (λm=>Ty.two Fh[k] n m) s'):=λk hk s' h0 h1=>by
  rw[gW,aj hm]
  match k,hk with
  |0,_=>rw[aj (show Ty.take ad [61,61] s1= _ from h1)];rfl
  |1,_=>rw[aj (show Ty.take ad [61,61] s1= _ from h0 0 (by decide) (by decide))];show Ty.ak _ _ s1= _;rw[aj (show Ty.take ad [60] s1= _ from h1)];rfl
 have oG:Hq ((∀j(hj:j<Fh.length),Ty.take ad Fh[j].data.toList s1=.ok (false,s1))->gW ad ONE st=.ok (n,s1)):=λh0=>by
  rw[gW,aj hm,aj (show Ty.take ad [61,61] s1= _ from h0 0 (by decide))];show Ty.ak _ _ s1= _;rw[aj (show Ty.take ad [60] s1= _ from h0 1 (by decide))];rfl
 have h2:=h1.ar (.cells Ou 9) w1.heap.size;have qL:=h1.look.fits.2.2.2;go_wp2;go_loopw [9] (λi wr=>∃k:Nat,k<=2/\i=.int .i64 k/\Hq (Sat w0 wr [Fr,aT pb d ad s1,ax w1.heap.size (.cells Ou 9 (0,0))])/\Hq (∀j(hj:j<Fh.length),j<k->Ty.take ad Fh[j].data.toList s1=.ok (false,s1))) (λi _=>2-(intOf i).toNat)
 case atStart=>exact⟨0,by omega,rfl,h2,λj hj h=>by omega⟩
 case round=>
  obtain⟨k,hk,rfl,hS,Gw⟩:=hrel;have x1:=hx wr (hS.out.pick [0]);by_cases bz:k<2
  ·have u_:k<Fh.length:=bz;have d0:wr.cell? ⟨w1.heap.size,k,none⟩=some (.string Fh[k]):=hS.out.cell 2 k rfl (by
    match k,bz with
    |0,_=>rfl
    |1,_=>rfl)
   have HY:=qh (λs'=>QX.o k u_ s' Gw.out);have Ze:Hq (Ty.take ad Fh[k].data.toList s1=.ok (false,s1)->∀j(hj:j<Fh.length),j<k+1->Ty.take ad Fh[j].data.toList s1=.ok (false,s1)):=λh j hj Lj=>by
    by_cases e:j=k
    ·subst e;exact h
    ·exact Gw.out j hj (by omega)
   generalize Fh[k]=x at*
   go_wp2_with fail;refine cB (hS.out.at 1 rfl) x (λw2 hi h3=>?_) (λw2 hi h3=>?_)
   ·have HE:=qh (HY.o _ hi);have h4:=h3.km;have x2:=hx w2 (h4.pick [0]);have H5:=qh (V9.o w0 w2.drew _ pb _ (h4.drew.at 1 rfl));go_wp2;go_region_law(first|(go_simp;go_at_call 281;refine H5.o _ (λm s3 w3 LQ h6=>?_) (λf w3 LQ h6=>?_);rotate_left;(exact⟨rfl,au _ _ (HE.o.trans (by rw[aL LQ])) ((h6.unpack 0 rfl).pick [0])⟩);have qZ:=HA.o _ _ _ LQ;have BN:=(HN.o _ _ _ LQ).1.length_le;dsimp only at qZ BN;have H7:=qh h6.km;have x3:=hx w3 (H7.o.pick [0]);have YB:=qh LQ;clear h6 LQ)|(go_simp;go_at_call 282;refine AY (H7.o.at 1 rfl) x (by omega) (by omega) (λq s4 w4 abO h8=>?_)))
    all_goals
     have H8:=qh h8.km;go_simp;go_wp2;exact aD _ _ _ (HE.o.trans (by rw[aj YB.o];exact abO)) (H8.o.pick [0,1])
   ·have Zf:=qh (Ze.o hi);have H3:=qh h3.km;go_wp2;go_roundw
    case rel=>exact⟨k+1,by omega,by go_num,H3,Zf⟩
    case measure=>simp[intOf];omega
  ·have pw:k=2:=by omega
   subst pw;have HE:=qh (oG.o (λj hj=>Gw.out j hj hj));go_wp2;exact aD _ _ _ HE.o (hS.out.pick [0,1])
end
end Go.Proofs.YtdlbhiaceheffabGreatDoor
