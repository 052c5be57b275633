/- Walks of what gathers parts and params; of the parser's block. -/
import Derived.Lib.SmallJoins
import Derived.Test.YtdlbhiaceheffabGreatDoorE16
import Derived.Test.YtdlbhiaceheffabGreatDoorE04
set_option linter.all false
set_option maxRecDepth 100000
set_option maxHeartbeats 8000000
namespace Go.Proofs.YtdlbhiaceheffabGreatDoor
open Go Go.RowKit Ty Tok Prt Tryz Proofs.Tryz
def NG(pb nb xb mb:Nat)(k a p:Int)(l:List (BA×Nat)):As:=cm λv:Value=>ah [av nb (rv k a p v),eY v (l.map Prod.snd),pH pb xb,H' mb (l.map Prod.fst)]
theorem Prt.Sat.yc{w0 w:World}{A B:As}{pb nb xb mb:Nat}{k a p:Int}{l:List (BA×Nat)}(H:Sat w0 w [A,B,NG pb nb xb mb k a p l]):∃v,Sat w0 w [A,B,av nb (rv k a p v),eY v (l.map Prod.snd),pH pb xb,H' mb (l.map Prod.fst)]:=by
 obtain⟨v,hs⟩:=H.ex (i:=2) rfl;exact⟨v,hs.unpack (i:=2) rfl⟩
theorem Prt.Sat.xO{w0 w:World}{A B:As}{pb nb xb mb:Nat}{k a p:Int}{v:Value}{l:List (BA×Nat)}{ns:List Nat}{ms:List BA}(h1:l.map Prod.snd=ns)(h2:l.map Prod.fst=ms)(H:Sat w0 w [A,B,av nb (rv k a p v),eY v ns,pH pb xb,H' mb ms]):Sat w0 w [A,B,NG pb nb xb mb k a p l]:=by
 subst h1 h2;exact(Sat.pack (L:=[_,_]) H).cL (i:=2) rfl (λ_ h=>⟨_,h⟩)
theorem JU(w0 w:World)(Fr:As)(pb nb xb mb d:Nat)(ad:List Tok.Tk)(M:List BA->Ty.M (BA×Nat))(eV:EG 349 ad d M)(k0 a0 p0:Int)
  (l:List (BA×Nat)) (s:Ty.St) (H:Sat w0 w [Fr,aV pb d ad s,NG pb nb xb mb k0 a0 p0 l]) (hl:l.length<=s.pos) {R:EW}
  (aH:∀n s2 w2,M (l.map Prod.fst) s=.ok (n,s2)->Sat w0 w2 [Fr,aV pb d ad s2,NG pb nb xb mb k0 a0 p0 (l++[n])]->R (.returned (.tuple #[])) w2)
  (au:∀f w2,M (l.map Prod.fst) s=.error f->Sat w0 w2 [Fr]->R (.panicked (aI f)) w2):
  Calls prog 348 #[.pointer (some ⟨nb,0,none⟩),.pointer (some ⟨xb,0,none⟩),.pointer (some ⟨mb,0,none⟩)] w R:=by
 have aX:=qh aH;have aB:=qh au;have bu:=(H.pick [0,1]).look;have eS:=bu.fits.1;have lR:=bu.wf.1;obtain⟨v,hs⟩:=H.yc;obtain⟨ns,xd⟩:∃ns,l.map Prod.snd=ns:=⟨_,rfl⟩
 obtain⟨ms,gS⟩:∃ms,l.map Prod.fst=ms:=⟨_,rfl⟩
 have k_:ns.length<=s.pos:=by rw[<-xd,List.length_map];exact hl
 have B4:ms.length<=s.pos:=by rw[<-gS,List.length_map];exact hl
 have XW:Hq (∀n:BA×Nat,(l++[n]).map Prod.snd=ns++[n.2]):=λn=>by rw[List.map_append,xd];rfl
 have LP:Hq (∀n:BA×Nat,(l++[n]).map Prod.fst=ms++[n.1]):=λn=>by rw[List.map_append,gS];rfl
 rw[xd,gS]at hs
 rw[gS]at aX aB
 obtain⟨a,dm,rfl⟩:=ag (hs.row 3 rfl);have c1:=hs.cell 2 rfl 4 rfl;have c2:=hs.cell 4 rfl 0 rfl;have HS:=qh (eV w0 w.drew _ pb mb s ms ((Sat.pack (L:=[_,_]) (M:=[_,_,_,_]) (hs.drew.pick [1,5,0,2,3,4])).pick [2,0,1]) B4);obtain⟨i0,ti,mM,mL,mK⟩:=info_parts iu;clear aH au eV H bu hs xd gS;go_in;go_wp2_with fail;go_region_law(first|(go_simp;go_at_call 349;refine HS.o _ (λx n s2 w2 hm h2=>?_) (λf w2 hm h2=>⟨rfl,aB.o _ _ hm ((h2.unpack (i:=0) rfl).pick [0])⟩);have h3:Sat w0 w2 [Fr,aV pb d ad s2,av nb (rv k0 a0 p0 (.slice a ns.length dm)),eY (.slice a ns.length dm) ns,pH pb xb,H' mb (ms++[x])]:=(h2.unpack (i:=0) rfl).pick [2,0,3,4,5,1];have d1:=h3.cell 2 rfl 4 rfl;have d2:=(h3.aW (.cells #[.int .i64 n] 3)).cell 2 rfl 4 rfl;have H3:=qh h3;clear h2 h3)|(go_loud(refine step_append_lies _ (by rfl) _ _ _ (by rfl) 0 3 i0 _ 1 8 underlying39 ti mM mL mK rfl (by omega) (.slice a ns.length dm) ns.length (ns.map aO) (by rfl) ((H3.o.row 3 rfl).alloc _) ⟨w2.heap.size,0,none⟩ 1 1 [.int .i64 n] (by rfl) (by rfl) (World.news_of_block (cs:=#[.int .i64 n]) (t:=3) (fr:=(0,0)) (aR _ _ _ (by simp))) (by simp[Value.oneCell']) (by omega) (by unfold maxLen;omega) (by omega) (by simp) (w2.heap.size+1) (by simp) ?_);intro g cap w3 eg dR o_ yL;have h4:=Sat.grow (H3.o.aW _) 3 rfl dR eg (by simpa using o_);have d3:=h4.cell 2 rfl 4 rfl;have f3:=h4.free 2 rfl 4;have H4:=qh h4;clear h4))
 all_goals
  clear eg dR;go_wp2_with fail;go_end0;exact aX.o (x,n) s2 _ hm (Sat.xO (XW.o (x,n)) (LP.o (x,n)) ((H4.o.store 2 rfl 4 _).cL (i:=3) rfl (Q:=eY (.slice (some ⟨g,0,none⟩) (ns.length+1) cap) (ns++[n])) (λ_ h=>js h)))
theorem G4(w0 w:World)(Fr:As)(pb nb xb mb d:Nat)(ad:List Tok.Tk)(M:List BA->Ty.M (BA×Nat))(eV:EG 357 ad d M)(k0 a0 p0:Int)
  (l:List (BA×Nat)) (s:Ty.St) (H:Sat w0 w [Fr,aV pb d ad s,NG pb nb xb mb k0 a0 p0 l]) (hl:l.length<=s.pos) {R:EW}
  (aH:∀n s2 w2,M (l.map Prod.fst) s=.ok (n,s2)->Sat w0 w2 [Fr,aV pb d ad s2,NG pb nb xb mb k0 a0 p0 (l++[n])]->R (.returned (.tuple #[])) w2)
  (au:∀f w2,M (l.map Prod.fst) s=.error f->Sat w0 w2 [Fr]->R (.panicked (aI f)) w2):
  Calls prog 356 #[.pointer (some ⟨nb,0,none⟩),.pointer (some ⟨xb,0,none⟩),.pointer (some ⟨mb,0,none⟩)] w R:=by
 have aX:=qh aH;have aB:=qh au;have bu:=(H.pick [0,1]).look;have eS:=bu.fits.1;have lR:=bu.wf.1;obtain⟨v,hs⟩:=H.yc;obtain⟨ns,xd⟩:∃ns,l.map Prod.snd=ns:=⟨_,rfl⟩
 obtain⟨ms,gS⟩:∃ms,l.map Prod.fst=ms:=⟨_,rfl⟩
 have k_:ns.length<=s.pos:=by rw[<-xd,List.length_map];exact hl
 have B4:ms.length<=s.pos:=by rw[<-gS,List.length_map];exact hl
 have XW:Hq (∀n:BA×Nat,(l++[n]).map Prod.snd=ns++[n.2]):=λn=>by rw[List.map_append,xd];rfl
 have LP:Hq (∀n:BA×Nat,(l++[n]).map Prod.fst=ms++[n.1]):=λn=>by rw[List.map_append,gS];rfl
 rw[xd,gS]at hs
 rw[gS]at aX aB
 obtain⟨a,dm,rfl⟩:=ag (hs.row 3 rfl);have c1:=hs.cell 2 rfl 4 rfl;have c2:=hs.cell 4 rfl 0 rfl;have HS:=qh (eV w0 w.drew _ pb mb s ms ((Sat.pack (L:=[_,_]) (M:=[_,_,_,_]) (hs.drew.pick [1,5,0,2,3,4])).pick [2,0,1]) B4);obtain⟨i0,ti,mM,mL,mK⟩:=info_parts iu;clear aH au eV H bu hs xd gS;go_in;go_wp2_with fail;go_region_law(first|(go_simp;go_at_call 357;refine HS.o _ (λx n s2 w2 hm h2=>?_) (λf w2 hm h2=>⟨rfl,aB.o _ _ hm ((h2.unpack (i:=0) rfl).pick [0])⟩);have h3:Sat w0 w2 [Fr,aV pb d ad s2,av nb (rv k0 a0 p0 (.slice a ns.length dm)),eY (.slice a ns.length dm) ns,pH pb xb,H' mb (ms++[x])]:=(h2.unpack (i:=0) rfl).pick [2,0,3,4,5,1];have d1:=h3.cell 2 rfl 4 rfl;have d2:=(h3.aW (.cells #[.int .i64 n] 3)).cell 2 rfl 4 rfl;have H3:=qh h3;clear h2 h3)|(go_loud(refine step_append_lies _ (by rfl) _ _ _ (by rfl) 0 3 i0 _ 1 8 underlying39 ti mM mL mK rfl (by omega) (.slice a ns.length dm) ns.length (ns.map aO) (by rfl) ((H3.o.row 3 rfl).alloc _) ⟨w2.heap.size,0,none⟩ 1 1 [.int .i64 n] (by rfl) (by rfl) (World.news_of_block (cs:=#[.int .i64 n]) (t:=3) (fr:=(0,0)) (aR _ _ _ (by simp))) (by simp[Value.oneCell']) (by omega) (by unfold maxLen;omega) (by omega) (by simp) (w2.heap.size+1) (by simp) ?_);intro g cap w3 eg dR o_ yL;have h4:=Sat.grow (H3.o.aW _) 3 rfl dR eg (by simpa using o_);have d3:=h4.cell 2 rfl 4 rfl;have f3:=h4.free 2 rfl 4;have H4:=qh h4;clear h4))
 all_goals
  clear eg dR;go_wp2_with fail;go_end0;exact aX.o (x,n) s2 _ hm (Sat.xO (XW.o (x,n)) (LP.o (x,n)) ((H4.o.store 2 rfl 4 _).cL (i:=3) rfl (Q:=eY (.slice (some ⟨g,0,none⟩) (ns.length+1) cap) (ns++[n])) (λ_ h=>js h)))
namespace Ty
theorem Dk{ad:List Tok.Tk}{S:M Nat}{f:Nat}{l:List Nat}{s s1:St}(h:take ad [125] s=.ok (true,s1)):stmts ad S (f+1) l s=.ok (l,s1):=by
 rw[stmts];rw[aw h];rfl
theorem IL{ad:List Tok.Tk}{S:M Nat}{f:Nat}{l:List Nat}{s s1:St}(h:take ad [125] s=.ok (false,s1)):stmts ad S (f+1) l s=aq S (λn=>stmts ad S f (l++[n])) s1:=by
 rw[stmts];rw[aw h];rfl
end Ty
theorem oq{ad:List Tok.Tk}{d:Nat}{T E O S:Ty.M Nat}(L:Lo ad d T E O S):eh 283 ad d (dW ad S):=by
 intro w0 w Fr pb st H R aH au;have aX:=qh aH;have aB:=qh au;have HL:=qh L;have bu:=H.look;have lR:=bu.wf.1;have eS:=bu.fits.1;have oP:=bu.fits.2.2.2;have HS:=qh H;have HN:=qh (λR hR=>@gE w pb d ad st bu R hR);obtain⟨i0,ti,mM,mL,mK⟩:=info_parts iu;obtain⟨ps,kM⟩:∃ps,(Ty.cur ad st.pos).pos=ps:=⟨_,rfl⟩
 have sU:Hq (∀r,(Ty.aq (Ty.need ad [123]) λ_=>Ty.aq (Ty.stmts ad S (ad.length+1) []) λl=>Ty.addNode {Ty.af 26 ps with list:=l}) st=r->dW ad S st=r):=λr h=>by rw[<-h,<-kM];rfl
 generalize Ty.cur ad st.pos=t at*
 obtain⟨kd,tx,tp⟩:=t;dsimp only at kM;subst kM;have Va:=jV;clear aH au H L bu;go_enter func283,ntmps283;go_wp2_with fail;refine HN.o _ (λw1 cQ=>?_);dsimp only[cj];have H1:=qh (HS.o.below cQ);clear cQ;go_wp2_with fail;refine ke w1 26 tp (λw2 aD=>?_);have h2:=(H1.o.below aD).aj (.cells #[.int .i64 26,.int .i64 0,.int .i64 0,.int .i64 0,.slice none 0 0,.string ⟨#[]⟩,.int .i64 0,.int .i64 (-1),.int .i64 tp] 66) w2.heap.size;have H2:=qh h2;clear aD h2;go_wp2_with fail;refine cN (H2.o.at 1 rfl) ⟨#[123]⟩ (λw3 hm h3=>?_) (λe w3 hm h3=>?_);rotate_left
 ·have ru:Hq (dW ad S st=.error e):=sU.o _ (by rw[aP hm]);have H3:=qh (h3.unpack (i:=0) rfl);clear hm h3;go_wp2_with fail;exact⟨rfl,aB.o _ _ ru.o (H3.o.pick [0])⟩
 have ru:Hq (∀r,(Ty.aq (Ty.stmts ad S (ad.length+1) []) λl=>Ty.addNode {Ty.af 26 tp with list:=l}) {st with pos:=st.pos+1}=r->dW ad S st=r):=λr h=>sU.o r (by rw[aw hm];exact h)
 have h4:Sat w0 w3 [Fr,aV pb d ad {st with pos:=st.pos+1},av w2.heap.size (rv 26 0 tp (.slice none 0 0)),eY (.slice none 0 0) []]:=h3.kJ.nil 3 1;have Yj:=(h4.pick [0,1]).look.fits.1;have H4:=qh h4;clear hm h3 h4;dsimp only at Yj;go_wp2_with fail;go_loopw [10] (λ_ wr=>∃(f:Nat)(l:List Nat)(s:Ty.St)(v:Value),s.pos<ad.length/\ad.length<s.pos+f/\l.length<=s.pos/\s.ns.length<=s.pos/\Hq (Sat w0 wr [Fr,aV pb d ad s,av w2.heap.size (rv 26 0 tp v),eY v l])/\Hq (∀r,(Ty.aq (Ty.stmts ad S f l) λl=>Ty.addNode {Ty.af 26 tp with list:=l}) s=r->dW ad S st=r))
  (λ_ wr=>ad.length-posOf pb wr)
 case atStart=>exact⟨ad.length+1,[],{st with pos:=st.pos+1},.slice none 0 0,Yj,by dsimp only;omega,by simp,by dsimp only;omega,H4.o,ru.o⟩
 case round=>
  obtain⟨f,l,s,v,hp,hf,oW,Vj,hS,hE⟩:=hrel;obtain⟨f,rfl⟩:∃g,f=g+1:=⟨f-1,by omega⟩
  obtain⟨a,dm,rfl⟩:=ag (hS.out.row 3 rfl);have mJ:=qh (de (hS.out.pick [0,1]).look);go_wp2_with fail;refine cx (hS.out.at 1 rfl) ⟨#[125]⟩ (λw4 hi h5=>?_) (λw4 hi h5=>?_)
  ·have fR:Hq (dW ad S st=.ok (s.ns.length,{s with pos:=s.pos+1,ns:=s.ns++[{Ty.af 26 tp with list:=l}]})):=hE.out _ (by rw[aw (Dk hi)];rfl);have h6:Sat w0 w4 [Fr,aV pb d ad {s with pos:=s.pos+1},av w2.heap.size (rv 26 0 tp (.slice a l.length dm)),eY (.slice a l.length dm) l]:=h5.mW;have q0:=h6.cell 2 rfl 0 rfl;have q1:=h6.cell 2 rfl 1 rfl;have q2:=h6.cell 2 rfl 2 rfl;have q3:=h6.cell 2 rfl 3 rfl;have q4:=h6.cell 2 rfl 4 rfl;have q5:=h6.cell 2 rfl 5 rfl;have q6:=h6.cell 2 rfl 6 rfl;have q7:=h6.cell 2 rfl 7 rfl;have q8:=h6.cell 2 rfl 8 rfl;have H6:=qh h6;clear hi h5 h6 hE;go_wp2_with fail;refine bZ {Ty.af 26 tp with list:=l} (.slice a l.length dm) ((Sat.pack (L:=[_,_]) (M:=[_,_]) (H6.o.pick [1,3,0,2])).pick [2,0,1]) (by dsimp only;omega) (λw5 h8=>?_);have H8:=qh (h8.unpack (i:=0) rfl);clear h8;go_wp2_with fail;exact aX.o _ _ _ fR.o (H8.o.pick [1,0])
  ·have fR:Hq (∀r,(Ty.aq S λn=>Ty.aq (Ty.stmts ad S f (l++[n])) λl=>Ty.addNode {Ty.af 26 tp with list:=l}) s=r->dW ad S st=r):=λr h=>hE.out r (by
    have e: (Ty.aq (Ty.stmts ad S (f+1) l) λl=>Ty.addNode {Ty.af 26 tp with list:=l}) s=(Ty.aq (Ty.aq S λn=>Ty.stmts ad S f (l++[n])) λl=>Ty.addNode {Ty.af 26 tp with list:=l}) s:=by
     unfold Ty.aq;rw[IL hi];rfl
    rw[e,<-h];unfold Ty.aq;cases S s with
    |error x=>rfl
    |ok x=>rfl)
   have h6:Sat w0 w4 [Fr,aV pb d ad s,av w2.heap.size (rv 26 0 tp (.slice a l.length dm)),eY (.slice a l.length dm) l]:=h5.mW;have c1:=h6.cell 2 rfl 4 rfl;have Xc:=qh (HL.o.s w0 w4.drew _ pb s (h6.drew.at 1 rfl));clear hi h5 hE h6;go_wp2_with fail;go_region_law(first|(go_simp;go_at_call 76;refine Xc.o _ (λn s2 w5 hm h2=>?_) (λe w5 hm h2=>?_);rotate_left;(exact⟨rfl,aB.o _ _ (fR.o _ (by rw[aP hm])) ((h2.unpack (i:=0) rfl).pick [0])⟩);have h3:Sat w0 w5 [Fr,aV pb d ad s2,av w2.heap.size (rv 26 0 tp (.slice a l.length dm)),eY (.slice a l.length dm) l]:=(Sat.vh (L:=[Fr,aV pb d ad s,av w2.heap.size (rv 26 0 tp (.slice a l.length dm)),eY (.slice a l.length dm) l]) (i:=1) (by simp) h2);have d1:=h3.cell 2 rfl 4 rfl;have d2:=(h3.aW (.cells #[.int .i64 n] 3)).cell 2 rfl 4 rfl;have pd:=HL.o.Pt _ _ _ hm;have H3:=qh h3;have HM:=qh hm;clear h2 h3 hm)|(go_loud(refine step_append_lies _ (by rfl) _ _ _ (by rfl) 0 3 i0 _ 1 8 underlying39 ti mM mL mK rfl (by omega) (.slice a l.length dm) l.length (l.map aO) (by rfl) ((H3.o.row 3 rfl).alloc _) ⟨w5.heap.size,0,none⟩ 1 1 [.int .i64 n] (by rfl) (by rfl) (World.news_of_block (cs:=#[.int .i64 n]) (t:=3) (fr:=(0,0)) (aR _ _ _ (by simp))) (by simp[Value.oneCell']) (by omega) (by unfold maxLen;omega) (by omega) (by simp) (w5.heap.size+1) (by simp) ?_);intro g cap w6 eg dR o_ yL;have h4:=Sat.grow (H3.o.aW _) 3 rfl dR eg (by simpa using o_);have d3:=h4.cell 2 rfl 4 rfl;have f3:=h4.free 2 rfl 4;have H4:=qh h4;clear h4))
   all_goals
    clear eg dR;have h7:=(H4.o.store 2 rfl 4 (.slice (some ⟨g,0,none⟩) (l.length+1) cap)).cL (i:=3) rfl (Q:=eY (.slice (some ⟨g,0,none⟩) (l.length+1) cap) (l++[n])) (λ_ h=>js h);have h7:Sat w0 _ [Fr,aV pb d ad s2,av w2.heap.size (rv 26 0 tp (.slice (some ⟨g,0,none⟩) (l.length+1) cap)),eY (.slice (some ⟨g,0,none⟩) (l.length+1) cap) (l++[n])]:=h7;have Vd:=(h7.pick [0,1]).look.fits.1;have QT:=qh (de (h7.pick [0,1]).look);have H7:=qh h7;have jl:Hq (∀r,(Ty.aq (Ty.stmts ad S f (l++[n])) λl=>Ty.addNode {Ty.af 26 tp with list:=l}) s2=r->dW ad S st=r):=λr h=>fR.o r (by rw[aw HM.o];exact h)
    clear h7;go_wp2_with fail;go_roundw
    case rel=>exact⟨f,l++[n],s2,_,Vd,by omega,by simp;omega,by omega,H7,jl⟩
    case measure=>rw[mJ.o,QT.o];omega
theorem Prt.Sat.EM{w0 w:World}{Fr P B A X M:As}(h:Sat w0 w [Fr,P,B,A,X,M]):Sat w0 w [ah [Fr,B,X,M],P,A]:=(Sat.pack (L:=[_,_]) (M:=[_,_,_,_]) (h.pick [1,3,0,2,4,5])).pick [2,0,1]
theorem ER{w0 w:World}{A B:As}{mb:Nat}(h:Sat w0 w [A,B,av mb (.cells #[.slice none 0 0] 161 (0,0))]):Sat w0 w [A,B,H' mb []]:=
 Sat.Ci (mv:=.slice none 0 0) (h.nil 9 1)
theorem xM{w0 w:World}{Fr:As}{pb d:Nat}{ad:List Tok.Tk}{st:Ty.St}{T E O S:Ty.M Nat}(L:Lo ad d T E O S)(H:Sat w0 w [Fr,aV pb d ad st])(ps:Nat)(xd:st.ns.length<=st.pos){R:EW}
  (aH:∀n s2 w2,cA ad T S ps st=.ok (n,s2)->Sat w0 w2 [Fr,aV pb d ad s2]->R (.returned (.int .i64 (n:Nat))) w2)
  (au:∀f w2,cA ad T S ps st=.error f->Sat w0 w2 [Fr]->R (.panicked (aI f)) w2):
  Calls prog 346 #[.pointer (some ⟨pb,0,none⟩),.int .i64 (ps:Nat)] w R:=by
 have aX:=qh aH;have aB:=qh au;have HL:=qh L;have bu:=H.look;have lR:=bu.wf.1;have eS:=bu.fits.1;have h1:Sat w0 _ [Fr,aV pb d ad st,pH pb w.heap.size]:=H.aj (.cells #[.pointer (some ⟨pb,0,none⟩)] 80) w.heap.size;have H1:=qh h1;clear aH au H L bu h1;go_in;go_wp2_with fail;refine ke _ 6 ps (λw1 cQ=>?_);have h2:=(((H1.o.below cQ).aj (.cells #[.int .i64 6,.int .i64 0,.int .i64 0,.int .i64 0,.slice none 0 0,.string ⟨#[]⟩,.int .i64 0,.int .i64 (-1),.int .i64 ps] 66) w1.heap.size).aj (.cells #[.slice none 0 0] 161) (w1.heap.size+1))
 have x2:=h2.cell 2 rfl 0 rfl;have H2:=qh h2;clear cQ h2;go_wp2_with fail;refine cN (H2.o.at 1 rfl) ⟨#[40]⟩ (λw3 hm h3=>?_) (λe w3 hm h3=>?_);rotate_left
 ·have ru:Hq (cA ad T S ps st=.error e):=by show _= _;rw[cA,aP hm]
  have H3:=qh (h3.unpack (i:=0) rfl);clear hm h3;go_wp2_with fail;exact⟨rfl,aB.o _ _ ru.o (H3.o.pick [0])⟩
 have ru:Hq (∀r,(Ty.aq (Ty.list ad [41] (λl=>Ty.gB ad T (l.map Prod.fst)) (ad.length+1) []) λl=>Ty.aq (Ty.written ad T) λt=>Ty.aq (dW ad S) λa=>Ty.addNode {Ty.af 6 ps with list:=l.map Prod.snd,ty:=t,a:=a}) {st with pos:=st.pos+1}=r->cA ad T S ps st=r):=λr h=>by rw[cA,aw hm];exact h
 have h4:=(h3.su).nil 3 1;have x3:=h4.cell 2 rfl 0 rfl;have h5:Sat w0 w3 [ah [Fr,aV pb d ad {st with pos:=st.pos+1},av w1.heap.size (rv 6 0 ps (.slice none 0 0)),eY (.slice none 0 0) [],pH pb w.heap.size],av (w1.heap.size+1) (.cells #[.slice none 0 0] 161 (0,0))]:=(Sat.pack (L:=[_]) (M:=[_,_,_,_,_]) (h4.pick [4,0,1,3,5,2])).pick [1,0];have h6:Sat w0 w3 [Fr,aV pb d ad {st with pos:=st.pos+1},av w1.heap.size (rv 6 0 ps (.slice none 0 0)),eY (.slice none 0 0) [],pH pb w.heap.size,H' (w1.heap.size+1) []]:=((ER (A:=ah [Fr,aV pb d ad {st with pos:=st.pos+1},av w1.heap.size (rv 6 0 ps (.slice none 0 0)),eY (.slice none 0 0) [],pH pb w.heap.size]) (B:=λ_=>True) ((h5.iA (P:=λ_=>True) (λ_=>trivial)).pick [0,2,1])).unpack (i:=0) rfl).pick [2,3,4,5,6,1];have H6:=qh h6;clear hm h3 h4 h5 h6 x2;go_wp2_with fail;refine nO w0 _ Fr pb d ad _ (NG pb w1.heap.size w.heap.size (w1.heap.size+1) 6 0 ps) (Sat.xO (l:=[]) rfl rfl H6.o) ⟨#[41]⟩ 356 _ Tryz.call356 (λl=>Ty.gB ad T (l.map Prod.fst)) (λ_=>pE HL.o.at' _) (λl s w1 h hl R aH au=>G4 w0 w1 Fr pb _ _ _ d ad (Ty.gB ad T) (GB HL.o) 6 0 ps l s h hl aH au) (λl s4 w4 hm Up h7=>?_) (λe w4 hm h7=>?_);rotate_left
 ·have fR:Hq (cA ad T S ps st=.error e):=ru.o _ (by rw[aP hm]);have H7:=qh h7;clear hm h7;go_wp2_with fail;exact⟨rfl,aB.o _ _ fR.o H7.o⟩
 have pd:=gj (λl=>pE HL.o.at' (l.map Prod.fst)) _ _ _ _ _ hm;dsimp only at pd;have fR:Hq (∀r,(Ty.aq (Ty.written ad T) λt=>Ty.aq (dW ad S) λa=>Ty.addNode {Ty.af 6 ps with list:=l.map Prod.snd,ty:=t,a:=a}) s4=r->cA ad T S ps st=r):=λr h=>ru.o r (by rw[aw hm];exact h)
 obtain⟨v,h8⟩:=h7.yc;have Y2: (l.map Prod.snd).length<=1001:=by have:=(h8.pick [0,1]).look.fits.1;rw[List.length_map];omega
 generalize l.map Prod.snd=ns at*
 obtain⟨va,vc,rfl⟩:=ag (h8.row 3 rfl);have x8:=h8.cell 4 rfl 0 rfl;have H8:=qh h8;clear hm h7 h8 x3;go_wp2_with fail;refine nE HL.o (H8.o.at 1 rfl) (λt s5 w5 hm h9=>?_) (λe w5 hm h9=>?_);rotate_left
 ·have jl:Hq (cA ad T S ps st=.error e):=fR.o _ (by rw[aP hm]);have H9:=qh (h9.unpack (i:=0) rfl);clear hm h9;go_wp2_with fail;exact⟨rfl,aB.o _ _ jl.o (H9.o.pick [0])⟩
 have RG:=hJ HL.o.at' _ _ _ hm;have jl:Hq (∀r,(Ty.aq (dW ad S) λa=>Ty.addNode {Ty.af 6 ps with list:=ns,ty:=t,a:=a}) s5=r->cA ad T S ps st=r):=λr h=>fR.o r (by rw[aw hm];exact h)
 have dG:=h9.Yh;have y7:=dG.cell 2 rfl 7 rfl;have f7:=dG.free 2 rfl;have acg:=dG.lt 2 rfl;have jE:=dG.store 2 rfl 7 (.int .i64 t);have ab6:=jE.cell 4 rfl 0 rfl;have LI:=qh jE;clear hm h9 dG jE x8;go_wp2_with fail;refine oq HL.o _ _ _ pb _ (LI.o.at 1 rfl) _ (λa s6 w6 hm je=>?_) (λe w6 hm je=>?_);rotate_left
 ·have sV:Hq (cA ad T S ps st=.error e):=jl.o _ (by rw[aP hm]);have rY:=qh (je.unpack (i:=0) rfl);clear hm je;go_wp2_with fail;exact⟨rfl,aB.o _ _ sV.o (rY.o.pick [0])⟩
 have RM:=gY HL.o.Pt _ _ _ hm;have sV:Hq (cA ad T S ps st=.ok (s6.ns.length,{s6 with ns:=s6.ns++[{Ty.af 6 ps with list:=ns,ty:=t,a:=a}]})):=jl.o _ (by rw[aw hm];rfl);have mO:=je.Yh;have y1:=mO.cell 2 rfl 1 rfl;have f1:=mO.free 2 rfl;have Ep:=mO.lt 2 rfl;have q0:=mO.cell 2 rfl 0 rfl;have q2:=mO.cell 2 rfl 2 rfl;have q3:=mO.cell 2 rfl 3 rfl;have q4:=mO.cell 2 rfl 4 rfl;have q5:=mO.cell 2 rfl 5 rfl;have q6:=mO.cell 2 rfl 6 rfl;have q7:=mO.cell 2 rfl 7 rfl;have q8:=mO.cell 2 rfl 8 rfl;have zP:=mO.store 2 rfl 1 (.int .i64 (a:Nat));have adv:=zP.cell 4 rfl 0 rfl;have abQ:=qh zP;clear hm je mO zP ab6 y7 f7 acg;go_wp2_with fail;refine bZ {Ty.af 6 ps with list:=ns,ty:=t,a:=a} (.slice va ns.length vc) (abQ.o.EM) (by omega) (λw7 UH=>?_);have acp:=qh ((UH.unpack (i:=0) rfl).pick [1,0]);clear UH;go_wp2_with fail;exact aX.o _ _ _ sV.o acp.o
namespace Ty
def TK(ad:List Tok.Tk)(E:M Nat):M Nat:=aq (need ad [40]) λ_=>aq E λa=>aq (need ad [41]) λ_=>ret a
def Ti(ad:List Tok.Tk)(E:M Nat)(tp:Nat):M Nat:=aq (list ad [125] (λl=>hZ ad E (l.map Prod.fst)) (ad.length+1) []) λl=>addNode {af 10 tp with list:=l.map Prod.snd}
def SA(ad:List Tok.Tk)(E:M Nat)(tp:Nat):M Nat:=aq (list ad [93] (λ_=>E) (ad.length+1) []) λl=>addNode {af 11 tp with list:=l}
def BW(ad:List Tok.Tk)(T E S:M Nat)(tp:Nat):M Nat:=
 aq (take ad [116,114,117,101]) λb=>if b then addNode {af 3 tp with n:=1}else
 aq (take ad [102,97,108,115,101]) λb=>if b then addNode (af 3 tp)else
 aq (take ad [110,117,108,108]) λb=>if b then addNode (af 4 tp)else
 aq (take ad [102,110]) λb=>if b then cA ad T S tp else
 aq (take ad [91]) λb=>if b then SA ad E tp else
 aq (take ad [123]) λb=>if b then Ti ad E tp else TK ad E
def WZ(ad:List Tok.Tk)(T E S:M Nat)(kd:Nat)(tx:BA)(tp:Nat):M Nat:=
 if kd=3 then aq step λ_=>addNode {af 1 tp with n:=value tx}else
 if kd=4 then aq step λ_=>addNode {af 2 tp with text:=tx}else
 if kd=1 then aq step λ_=>addNode {af 5 tp with text:=tx}else BW ad T E S tp
theorem C6(ad:List Tok.Tk)(T E S:M Nat)(st:St):cD ad T E S st=WZ ad T E S (cur ad st.pos).kind (cur ad st.pos).text (cur ad st.pos).pos st:=rfl
section
variable {ad:List Tok.Tk} {T E S:M Nat} {tp:Nat} {s s1:St}
theorem XM(h:take ad [116,114,117,101] s=.ok (true,s1)):BW ad T E S tp s=addNode {af 3 tp with n:=1} s1:=by
 unfold BW;show aq _ _ s= _;rw[aw h];rfl
theorem Xi(h0:take ad [116,114,117,101] s=.ok (false,s))(h:take ad [102,97,108,115,101] s=.ok (true,s1)):BW ad T E S tp s=addNode (af 3 tp) s1:=by
 unfold BW;show aq _ _ s= _;rw[aw h0];show aq _ _ s= _;rw[aw h];rfl
theorem XK(h0:take ad [116,114,117,101] s=.ok (false,s))(h1:take ad [102,97,108,115,101] s=.ok (false,s))(h:take ad [110,117,108,108] s=.ok (true,s1)):BW ad T E S tp s=addNode (af 4 tp) s1:=by
 unfold BW;show aq _ _ s= _;rw[aw h0];show aq _ _ s= _;rw[aw h1];show aq _ _ s= _;rw[aw h];rfl
theorem W7(h0:take ad [116,114,117,101] s=.ok (false,s))(h1:take ad [102,97,108,115,101] s=.ok (false,s))(h2:take ad [110,117,108,108] s=.ok (false,s))(h:take ad [102,110] s=.ok (true,s1)):BW ad T E S tp s=cA ad T S tp s1:=by
 unfold BW;show aq _ _ s= _;rw[aw h0];show aq _ _ s= _;rw[aw h1];show aq _ _ s= _;rw[aw h2];show aq _ _ s= _;rw[aw h];rfl
theorem Vp(h0:take ad [116,114,117,101] s=.ok (false,s))(h1:take ad [102,97,108,115,101] s=.ok (false,s))(h2:take ad [110,117,108,108] s=.ok (false,s))(h3:take ad [102,110] s=.ok (false,s))(h:take ad [91] s=.ok (true,s1)):BW ad T E S tp s=SA ad E tp s1:=by
 unfold BW;show aq _ _ s= _;rw[aw h0];show aq _ _ s= _;rw[aw h1];show aq _ _ s= _;rw[aw h2];show aq _ _ s= _;rw[aw h3];show aq _ _ s= _;rw[aw h];rfl
theorem XU(h0:take ad [116,114,117,101] s=.ok (false,s))(h1:take ad [102,97,108,115,101] s=.ok (false,s))(h2:take ad [110,117,108,108] s=.ok (false,s))(h3:take ad [102,110] s=.ok (false,s))(h4:take ad [91] s=.ok (false,s))(h:take ad [123] s=.ok (true,s1)):BW ad T E S tp s=Ti ad E tp s1:=by
 unfold BW;show aq _ _ s= _;rw[aw h0];show aq _ _ s= _;rw[aw h1];show aq _ _ s= _;rw[aw h2];show aq _ _ s= _;rw[aw h3];show aq _ _ s= _;rw[aw h4];show aq _ _ s= _;rw[aw h];rfl
theorem WV(h0:take ad [116,114,117,101] s=.ok (false,s))(h1:take ad [102,97,108,115,101] s=.ok (false,s))(h2:take ad [110,117,108,108] s=.ok (false,s))(h3:take ad [102,110] s=.ok (false,s))(h4:take ad [91] s=.ok (false,s))(h5:take ad [123] s=.ok (false,s)):BW ad T E S tp s=TK ad E s:=by
 unfold BW;show aq _ _ s= _;rw[aw h0];show aq _ _ s= _;rw[aw h1];show aq _ _ s= _;rw[aw h2];show aq _ _ s= _;rw[aw h3];show aq _ _ s= _;rw[aw h4];show aq _ _ s= _;rw[aw h5];rfl
end
end Ty
theorem Fe{kd:Nat}(h3:kd≠3)(h4:kd≠4)(h1:kd≠1)(ad:List Tok.Tk)(T E S:Ty.M Nat)(tx:BA)(tp:Nat):WZ ad T E S kd tx tp=BW ad T E S tp:=by
 unfold WZ;rw[if_neg h3,if_neg h4,if_neg h1]
theorem DU{ad:List Tok.Tk}{d:Nat}{T E O S:Ty.M Nat}(L:Lo ad d T E O S)(vd:C0 ad):eh 336 ad d (cD ad T E S):=by
 intro w0 w Fr pb st H R aH au;have aX:=qh aH;have aB:=qh au;have HL:=qh L;have bu:=H.look;have lR:=bu.wf.1;have eS:=bu.fits.1;have oP:=bu.fits.2.2.2;have a_:=λh1: (Ty.cur ad st.pos).kind≠6=>tL bu.fits.1 bu.wf h1
 have sO:=vd (Ty.cur ad st.pos) (by rw[CP ad _ eS];exact gM _);have h1:Sat w0 _ [Fr,aV pb d ad st,pH pb w.heap.size]:=H.aj (.cells #[.pointer (some ⟨pb,0,none⟩)] 80) w.heap.size;have H1:=qh h1;have HN:=qh (λR hR=>@gE _ pb d ad st (h1.pick [0,1]).look R hR);have yU:=qh (C6 ad T E S st);generalize Ty.cur ad st.pos=t at*
 obtain⟨kd,tx,tp⟩:=t;dsimp only at a_ sO yU;clear aH au H L bu h1 vd;go_enter func336,ntmps336;go_wp2_with fail;refine HN.o _ (λw1 cQ=>?_);dsimp only[cj];have h2:=(H1.o.below cQ).aj (.cells #[.int .i64 kd,.string tx,.int .i64 tp] 138) w1.heap.size;have x2:=h2.cell 3 rfl 2 rfl;have H2:=qh h2;clear cQ h2;go_wp2_with fail;refine ke _ 0 tp (λw2 aD=>?_);have Qu:=H2.o.below aD;have xw:=Qu.cell 2 rfl 0 rfl;have ady:=Qu.cell 3 rfl 1 rfl;have CW:=Qu.lt 3 rfl;have OU:=Qu.lt 2 rfl;have HW:=qh Qu;have h3:=Qu.aj (.cells #[.int .i64 0,.int .i64 0,.int .i64 0,.int .i64 0,.slice none 0 0,.string ⟨#[]⟩,.int .i64 0,.int .i64 (-1),.int .i64 tp] 66) w2.heap.size;have t0:=h3.cell 3 rfl 0 rfl;have t1:=h3.cell 3 rfl 1 rfl;have xx:=h3.cell 2 rfl 0 rfl;have fz:=h3.free 4 rfl;have hz:=h3.lt 4 rfl;have acX:=h3.ne 2 3 (by decide) rfl rfl;have adl:=h3.ne 2 4 (by decide) rfl rfl;have Ui:=h3.ne 3 4 (by decide) rfl rfl;have H3:=qh h3;clear aD Qu h3 x2;by_cases Oi:kd=3
 ·subst Oi;have jm:=a_ (by decide);have hn:=sO rfl;have Jl:tx.size<=18:=by have:=hn.size;omega
  have acQ:=qh (λw=>Tryz.strconv_Atoi tx (Ty.value tx:Nat) Jl (DC hn) w);have HE:Hq (cD ad T E S st=.ok (st.ns.length,{st with pos:=st.pos+1,ns:=st.ns++[{Ty.af 1 tp with n:=Ty.value tx}]})):=yU.o;have h4:=HW.o.aj (.cells #[.int .i64 1,.int .i64 0,.int .i64 0,.int .i64 0,.slice none 0 0,.string ⟨#[]⟩,.int .i64 0,.int .i64 (-1),.int .i64 tp] 66) w2.heap.size;have ZP:=h4.cell 3 rfl 1 rfl;generalize Ty.value tx=vl at*
  have H4:=qh h4;clear a_ sO hn h4 Jl;go_wp2_with fail;refine(acQ.o _).mono ?_
  rintro e w3 ⟨rfl,tt,ZF⟩
  have h5:=H4.o.below (w':=w3) (by rw[ZF];exact Joins.below_bytesWorld _ _ _ _ (nR _));clear ZF;have y6:=h5.cell 4 rfl 6 rfl;have ado:=h5.free 4 rfl;have adw:=h5.lt 4 rfl;have h6:=h5.store 4 rfl 6 (.int .i64 (vl:Nat));have YM:=h6.cell 2 rfl 0 rfl;obtain⟨c1,_,f0⟩:=(h6.pick [0,1]).look.cells;have jJ:=(h6.pick [0,1]).look.lt;have h7:=((h6.at 1 rfl).setPos (st.pos+1) jm (by omega)).su;rw[show((st.pos+1:Nat):Int)=(st.pos:Int)+1 from rfl]at h7
  have YR:=h7.cell 2 rfl 0 rfl;have q0:=h7.cell 4 rfl 0 rfl;have q1:=h7.cell 4 rfl 1 rfl;have q2:=h7.cell 4 rfl 2 rfl;have q3:=h7.cell 4 rfl 3 rfl;have q4:=h7.cell 4 rfl 4 rfl;have q5:=h7.cell 4 rfl 5 rfl;have q6:=h7.cell 4 rfl 6 rfl;have q7:=h7.cell 4 rfl 7 rfl;have q8:=h7.cell 4 rfl 8 rfl;have H7:=qh (h7.nil 3 1);clear h5 h6 h7 t0 t1 ZP xx fz hz;go_wp2_with fail;refine bZ {Ty.af 1 tp with n:=vl} (.slice none 0 0) H7.o.kU (by dsimp only;omega) (λw7 h8=>?_);have H8:=qh ((h8.unpack (i:=0) rfl).pick [1,0]);clear h8;go_wp2_with fail;exact aX.o _ _ _ HE.o H8.o
 by_cases QW:kd=4
 ·subst QW;have jm:=a_ (by decide);have HE:Hq (cD ad T E S st=.ok (st.ns.length,{st with pos:=st.pos+1,ns:=st.ns++[{Ty.af 2 tp with text:=tx}]})):=yU.o;clear a_ sO;go_wp2_with fail
  go_region
  all_goals
   have h5:=HW.o.aj (.cells #[.int .i64 2,.int .i64 0,.int .i64 0,.int .i64 0,.slice none 0 0,.string tx,.int .i64 0,.int .i64 (-1),.int .i64 tp] 66) w2.heap.size;have h6:=h5;have YM:=h6.cell 2 rfl 0 rfl;obtain⟨c1,_,f0⟩:=(h6.pick [0,1]).look.cells;have jJ:=(h6.pick [0,1]).look.lt;have h7:=((h6.at 1 rfl).setPos (st.pos+1) jm (by omega)).su;rw[show((st.pos+1:Nat):Int)=(st.pos:Int)+1 from rfl]at h7
   have YR:=h7.cell 2 rfl 0 rfl;have q0:=h7.cell 4 rfl 0 rfl;have q1:=h7.cell 4 rfl 1 rfl;have q2:=h7.cell 4 rfl 2 rfl;have q3:=h7.cell 4 rfl 3 rfl;have q4:=h7.cell 4 rfl 4 rfl;have q5:=h7.cell 4 rfl 5 rfl;have q6:=h7.cell 4 rfl 6 rfl;have q7:=h7.cell 4 rfl 7 rfl;have q8:=h7.cell 4 rfl 8 rfl;have H7:=qh (h7.drew.nil 3 1);clear h5 h6 h7 t0 t1 xx fz hz;go_wp2_with fail;refine bZ {Ty.af 2 tp with text:=tx} (.slice none 0 0) H7.o.kU (by dsimp only;omega) (λw7 h8=>?_);have H8:=qh ((h8.unpack (i:=0) rfl).pick [1,0]);clear h8;go_wp2_with fail;exact aX.o _ _ _ HE.o H8.o
 by_cases Eh:kd=1
 ·subst Eh;have jm:=a_ (by decide);have HE:Hq (cD ad T E S st=.ok (st.ns.length,{st with pos:=st.pos+1,ns:=st.ns++[{Ty.af 5 tp with text:=tx}]})):=yU.o;clear a_ sO;go_wp2_with fail
  go_region
  all_goals
   have h5:=HW.o.aj (.cells #[.int .i64 5,.int .i64 0,.int .i64 0,.int .i64 0,.slice none 0 0,.string tx,.int .i64 0,.int .i64 (-1),.int .i64 tp] 66) w2.heap.size;have h6:=h5;have YM:=h6.cell 2 rfl 0 rfl;obtain⟨c1,_,f0⟩:=(h6.pick [0,1]).look.cells;have jJ:=(h6.pick [0,1]).look.lt;have h7:=((h6.at 1 rfl).setPos (st.pos+1) jm (by omega)).su;rw[show((st.pos+1:Nat):Int)=(st.pos:Int)+1 from rfl]at h7
   have YR:=h7.cell 2 rfl 0 rfl;have q0:=h7.cell 4 rfl 0 rfl;have q1:=h7.cell 4 rfl 1 rfl;have q2:=h7.cell 4 rfl 2 rfl;have q3:=h7.cell 4 rfl 3 rfl;have q4:=h7.cell 4 rfl 4 rfl;have q5:=h7.cell 4 rfl 5 rfl;have q6:=h7.cell 4 rfl 6 rfl;have q7:=h7.cell 4 rfl 7 rfl;have q8:=h7.cell 4 rfl 8 rfl;have H7:=qh (h7.drew.nil 3 1);clear h5 h6 h7 t0 t1 xx fz hz;go_wp2_with fail;refine bZ {Ty.af 5 tp with text:=tx} (.slice none 0 0) H7.o.kU (by dsimp only;omega) (λw7 h8=>?_);have H8:=qh ((h8.unpack (i:=0) rfl).pick [1,0]);clear h8;go_wp2_with fail;exact aX.o _ _ _ HE.o H8.o
 have k3: ((kd:Int)==3)=false:=beq_eq_false_iff_ne.2 (by omega);have k4: ((kd:Int)==4)=false:=beq_eq_false_iff_ne.2 (by omega);have k1: ((kd:Int)==1)=false:=beq_eq_false_iff_ne.2 (by omega);rw[Fe Oi QW Eh]at yU
 clear sO a_ Oi QW Eh;go_wp2_with fail;refine cx (H3.o.at 1 rfl) ⟨#[116,114,117,101]⟩ (λwa hi ha=>?_) (λl_ hi ha=>?_)
 ·have h4:=ha.su;have S3:=h4.free 4 rfl;have S7:=h4.lt 4 rfl;have Qz:=h4.cell 2 rfl 0 rfl;have y0:=h4.cell 4 rfl 0 rfl;have y6:=h4.cell 4 rfl 6 rfl;have h5:=((h4.store 4 rfl 0 (.int .i64 3)).store 4 rfl 6 (.int .i64 1))
  have Tm:=h5.cell 2 rfl 0 rfl;have q0:=h5.cell 4 rfl 0 rfl;have q1:=h5.cell 4 rfl 1 rfl;have q2:=h5.cell 4 rfl 2 rfl;have q3:=h5.cell 4 rfl 3 rfl;have q4:=h5.cell 4 rfl 4 rfl;have q5:=h5.cell 4 rfl 5 rfl;have q6:=h5.cell 4 rfl 6 rfl;have q7:=h5.cell 4 rfl 7 rfl;have q8:=h5.cell 4 rfl 8 rfl;have HE:Hq (cD ad T E S st=.ok (st.ns.length,{st with pos:=st.pos+1,ns:=st.ns++[{Ty.af 3 tp with n:=1}]})):=yU.o.trans (XM hi);have H5:=qh (h5.nil 3 1);clear hi ha h4 h5 xx t0 t1 fz hz;go_wp2_with fail;refine bZ {Ty.af 3 tp with n:=1} (.slice none 0 0) H5.o.kU (by dsimp only;omega) (λw7 h8=>?_);have H8:=qh ((h8.unpack (i:=0) rfl).pick [1,0]);clear h8;go_wp2_with fail;exact aX.o _ _ _ HE.o H8.o
 have Rr:=qh hi;have h4:=ha.su;have xx:=h4.cell 2 rfl 0 rfl;have fz:=h4.free 4 rfl;have hz:=h4.lt 4 rfl;have QG:=qh h4;clear hi ha h4;go_wp2_with fail;refine cx (QG.o.at 1 rfl) ⟨#[102,97,108,115,101]⟩ (λwa hi ha=>?_) (λUg hi ha=>?_)
 ·have h4:=ha.su;have S3:=h4.free 4 rfl;have S7:=h4.lt 4 rfl;have Qz:=h4.cell 2 rfl 0 rfl;have y0:=h4.cell 4 rfl 0 rfl;have h5:=(h4.store 4 rfl 0 (.int .i64 3))
  have Tm:=h5.cell 2 rfl 0 rfl;have q0:=h5.cell 4 rfl 0 rfl;have q1:=h5.cell 4 rfl 1 rfl;have q2:=h5.cell 4 rfl 2 rfl;have q3:=h5.cell 4 rfl 3 rfl;have q4:=h5.cell 4 rfl 4 rfl;have q5:=h5.cell 4 rfl 5 rfl;have q6:=h5.cell 4 rfl 6 rfl;have q7:=h5.cell 4 rfl 7 rfl;have q8:=h5.cell 4 rfl 8 rfl;have HE:Hq (cD ad T E S st=.ok (st.ns.length,{st with pos:=st.pos+1,ns:=st.ns++[Ty.af 3 tp]})):=yU.o.trans (Xi Rr.o hi);have H5:=qh (h5.nil 3 1);clear hi ha h4 h5 xx t0 t1 fz hz;go_wp2_with fail;refine bZ (Ty.af 3 tp) (.slice none 0 0) H5.o.kU (by dsimp only;omega) (λw7 h8=>?_);have H8:=qh ((h8.unpack (i:=0) rfl).pick [1,0]);clear h8;go_wp2_with fail;exact aX.o _ _ _ HE.o H8.o
 have R9:=qh hi;have h4:=ha.su;have xx:=h4.cell 2 rfl 0 rfl;have fz:=h4.free 4 rfl;have hz:=h4.lt 4 rfl;have aas:=qh h4;clear hi ha h4;go_wp2_with fail;refine cx (aas.o.at 1 rfl) ⟨#[110,117,108,108]⟩ (λwa hi ha=>?_) (λLk hi ha=>?_)
 ·have h4:=ha.su;have S3:=h4.free 4 rfl;have S7:=h4.lt 4 rfl;have Qz:=h4.cell 2 rfl 0 rfl;have y0:=h4.cell 4 rfl 0 rfl;have h5:=(h4.store 4 rfl 0 (.int .i64 4))
  have Tm:=h5.cell 2 rfl 0 rfl;have q0:=h5.cell 4 rfl 0 rfl;have q1:=h5.cell 4 rfl 1 rfl;have q2:=h5.cell 4 rfl 2 rfl;have q3:=h5.cell 4 rfl 3 rfl;have q4:=h5.cell 4 rfl 4 rfl;have q5:=h5.cell 4 rfl 5 rfl;have q6:=h5.cell 4 rfl 6 rfl;have q7:=h5.cell 4 rfl 7 rfl;have q8:=h5.cell 4 rfl 8 rfl;have HE:Hq (cD ad T E S st=.ok (st.ns.length,{st with pos:=st.pos+1,ns:=st.ns++[Ty.af 4 tp]})):=yU.o.trans (XK Rr.o R9.o hi);have H5:=qh (h5.nil 3 1);clear hi ha h4 h5 xx t0 t1 fz hz;go_wp2_with fail;refine bZ (Ty.af 4 tp) (.slice none 0 0) H5.o.kU (by dsimp only;omega) (λw7 h8=>?_);have H8:=qh ((h8.unpack (i:=0) rfl).pick [1,0]);clear h8;go_wp2_with fail;exact aX.o _ _ _ HE.o H8.o
 have N7:=qh hi;have h4:=ha.su;have xx:=h4.cell 2 rfl 0 rfl;have fz:=h4.free 4 rfl;have hz:=h4.lt 4 rfl;have aaW:=qh h4;clear hi ha h4;go_wp2_with fail;refine cx (aaW.o.at 1 rfl) ⟨#[102,110]⟩ (λwa hi ha=>?_) (λabf hi ha=>?_)
 ·have h4:=ha.su;have S3:=h4.free 4 rfl;have S7:=h4.lt 4 rfl;have Qz:=h4.cell 2 rfl 0 rfl;have t2:=h4.cell 3 rfl 2 rfl;have HE:=qh (yU.o.trans (W7 Rr.o R9.o N7.o hi));have H4:=qh h4;clear hi ha h4 xx t0 t1 fz hz;go_wp2_with fail;refine xM HL.o (H4.o.at 1 rfl) tp (by dsimp only;omega) (λn s5 w5 hm h5=>?_) (λe w5 hm h5=>?_)
  ·have HM:=qh hm;have H5:=qh h5.su;clear hm h5;go_wp2_with fail;exact aX.o _ _ _ (HE.o.trans HM.o) (H5.o.pick [0,1])
  ·have HM:=qh hm;have H5:=qh (h5.unpack (i:=0) rfl);clear hm h5;go_wp2_with fail;exact⟨rfl,aB.o _ _ (HE.o.trans HM.o) (H5.o.pick [0])⟩
 have Rf:=qh hi;have h4:=ha.su;have xx:=h4.cell 2 rfl 0 rfl;have fz:=h4.free 4 rfl;have hz:=h4.lt 4 rfl;have aa5:=qh h4;clear hi ha h4;go_wp2_with fail;refine cx (aa5.o.at 1 rfl) ⟨#[91]⟩ (λwa hi ha=>?_) (λadT hi ha=>?_)
 ·have h4:=ha.su;have S3:=h4.free 4 rfl;have S7:=h4.lt 4 rfl;have Qz:=h4.cell 2 rfl 0 rfl;have y0:=h4.cell 4 rfl 0 rfl;have h5:=h4.store 4 rfl 0 (.int .i64 11);have Tm:=h5.cell 2 rfl 0 rfl;have HE:Hq (cD ad T E S st=SA ad E tp {st with pos:=st.pos+1}):=yU.o.trans (Vp Rr.o R9.o N7.o Rf.o hi);have h6:Sat w0 _ [Fr,av w1.heap.size (.cells #[.int .i64 kd,.string tx,.int .i64 tp] 138 (0,0)),aV pb d ad {st with pos:=st.pos+1},LG pb w2.heap.size w.heap.size 11 0 tp []]:=(Sat.pack (L:=[_,_,_]) (M:=[_,_,_]) ((h5.nil 3 1).pick [0,3,1,4,5,2])).cL (i:=3) rfl (λ_ h=>⟨_,h⟩);have h7:Sat w0 _ [ah [Fr,av w1.heap.size (.cells #[.int .i64 kd,.string tx,.int .i64 tp] 138 (0,0))],aV pb d ad {st with pos:=st.pos+1},LG pb w2.heap.size w.heap.size 11 0 tp []]:=(Sat.pack (L:=[_,_]) (M:=[_,_]) (h6.pick [2,3,0,1])).pick [2,0,1];have H7:=qh h7;clear hi ha h4 h5 h6 h7 xx t0 t1 fz hz;go_wp2_with fail;refine nO w0 _ _ pb d ad _ (LG pb w2.heap.size w.heap.size 11 0 tp) H7.o ⟨#[93]⟩ 347 _ Tryz.call347 (λ_=>E) (λ_=>HL.o.ae) (λl s w1 h hl R aH au=>Be w0 w1 _ pb _ _ d ad E HL.o.e 11 0 tp l s h hl aH au) (λl s4 w4 hm Up h8=>?_) (λe w4 hm h8=>?_)
  ·have pd:=gj (λ_=>HL.o.ae) _ _ _ _ _ hm;dsimp only at pd;obtain⟨v,h9⟩:=h8.yi;obtain⟨va,vc,rfl⟩:=ag (h9.row 3 rfl);have q0:=h9.cell 2 rfl 0 rfl;have q1:=h9.cell 2 rfl 1 rfl;have q2:=h9.cell 2 rfl 2 rfl;have q3:=h9.cell 2 rfl 3 rfl;have q4:=h9.cell 2 rfl 4 rfl;have q5:=h9.cell 2 rfl 5 rfl;have q6:=h9.cell 2 rfl 6 rfl;have q7:=h9.cell 2 rfl 7 rfl;have q8:=h9.cell 2 rfl 8 rfl;have aaV:=h9.cell 4 rfl 0 rfl;have fR:Hq (cD ad T E S st=.ok (s4.ns.length,{s4 with ns:=s4.ns++[{Ty.af 11 tp with list:=l}]})):=HE.o.trans (by rw[SA,aw hm];rfl);have H9:=qh h9;clear hm h8 h9;go_wp2_with fail;refine bZ {Ty.af 11 tp with list:=l} (.slice va l.length vc) ((H9.o.pick [0,1,4,2,3]).rP) (by omega) (λw5 dG=>?_);have pL:=qh ((((dG.tQ).unpack (i:=0) rfl)).pick [2,0]);clear dG;go_wp2_with fail;exact aX.o _ _ _ fR.o pL.o
  ·have fR:Hq (cD ad T E S st=.error e):=HE.o.trans (by rw[SA,aP hm]);have H8:=qh (h8.unpack (i:=0) rfl);clear hm h8;go_wp2_with fail;exact⟨rfl,aB.o _ _ fR.o (H8.o.pick [0])⟩
 have X7:=qh hi;have h4:=ha.su;have xx:=h4.cell 2 rfl 0 rfl;have fz:=h4.free 4 rfl;have hz:=h4.lt 4 rfl;have acT:=qh h4;clear hi ha h4;go_wp2_with fail;refine cx (acT.o.at 1 rfl) ⟨#[123]⟩ (λwa hi ha=>?_) (λadg hi ha=>?_)
 ·have h4:=ha.su;have S3:=h4.free 4 rfl;have S7:=h4.lt 4 rfl;have Qz:=h4.cell 2 rfl 0 rfl;have y0:=h4.cell 4 rfl 0 rfl;have h5:=(h4.store 4 rfl 0 (.int .i64 10)).aj (.cells #[.slice none 0 0] 161) wa.heap.size;have Tm:=h5.cell 2 rfl 0 rfl;have HE:Hq (cD ad T E S st=Ti ad E tp {st with pos:=st.pos+1}):=yU.o.trans (XU Rr.o R9.o N7.o Rf.o X7.o hi);have h6:=(Sat.pack (L:=[_]) (M:=[_,_,_,_,_,_]) ((h5.nil 3 1).pick [5,0,1,4,6,2,3])).pick [1,0];have h7:Sat w0 _ [Fr,aV pb d ad {st with pos:=st.pos+1},av w2.heap.size (rv 10 0 tp (.slice none 0 0)),eY (.slice none 0 0) [],pH pb w.heap.size,av w1.heap.size (.cells #[.int .i64 kd,.string tx,.int .i64 tp] 138 (0,0)),H' wa.heap.size []]:=((ER (B:=λ_=>True) ((h6.iA (P:=λ_=>True) (λ_=>trivial)).pick [0,2,1])).unpack (i:=0) rfl).pick [2,3,4,5,6,7,1];have h8:Sat w0 _ [ah [Fr,av w1.heap.size (.cells #[.int .i64 kd,.string tx,.int .i64 tp] 138 (0,0))],aV pb d ad {st with pos:=st.pos+1},NG pb w2.heap.size w.heap.size wa.heap.size 10 0 tp []]:=Sat.xO (l:=[]) rfl rfl ((Sat.pack (L:=[_,_,_,_,_]) (M:=[_,_]) (h7.pick [1,2,3,4,6,0,5])).pick [5,0,1,2,3,4]);have H8:=qh h8;clear hi ha h4 h5 h6 h7 h8 xx t0 t1 fz hz;go_wp2_with fail;refine nO w0 _ _ pb d ad _ (NG pb w2.heap.size w.heap.size wa.heap.size 10 0 tp) H8.o ⟨#[125]⟩ 348 _ Tryz.call348 (λl=>Ty.hZ ad E (l.map Prod.fst)) (λ_=>rM HL.o.ae _) (λl s w1 h hl R aH au=>JU w0 w1 _ pb _ _ _ d ad (Ty.hZ ad E) (KI HL.o) 10 0 tp l s h hl aH au) (λl s4 w4 hm Up h9=>?_) (λe w4 hm h9=>?_)
  ·have pd:=gj (λl=>rM HL.o.ae (l.map Prod.fst)) _ _ _ _ _ hm;dsimp only at pd;obtain⟨v,dG⟩:=h9.yc;have fR:Hq (cD ad T E S st=.ok (s4.ns.length,{s4 with ns:=s4.ns++[{Ty.af 10 tp with list:=l.map Prod.snd}]})):=HE.o.trans (by rw[Ti,aw hm];rfl);have Y2: (l.map Prod.snd).length<=1001:=by have:=(dG.pick [0,1]).look.fits.1;rw[List.length_map];omega
   generalize l.map Prod.snd=ns at*
   obtain⟨va,vc,rfl⟩:=ag (dG.row 3 rfl);have q0:=dG.cell 2 rfl 0 rfl;have q1:=dG.cell 2 rfl 1 rfl;have q2:=dG.cell 2 rfl 2 rfl;have q3:=dG.cell 2 rfl 3 rfl;have q4:=dG.cell 2 rfl 4 rfl;have q5:=dG.cell 2 rfl 5 rfl;have q6:=dG.cell 2 rfl 6 rfl;have q7:=dG.cell 2 rfl 7 rfl;have q8:=dG.cell 2 rfl 8 rfl;have aaV:=dG.cell 4 rfl 0 rfl;have pL:=qh dG;clear hm h9 dG;go_wp2_with fail;refine bZ {Ty.af 10 tp with list:=ns} (.slice va ns.length vc) (pL.o.EM) (by omega) (λw5 jE=>?_);have LI:=qh (((((jE.unpack (i:=0) rfl).pick [1,0])).unpack (i:=0) rfl).pick [1,0]);clear jE;go_wp2_with fail;exact aX.o _ _ _ fR.o LI.o
  ·have fR:Hq (cD ad T E S st=.error e):=HE.o.trans (by rw[Ti,aP hm]);have H9:=qh (h9.unpack (i:=0) rfl);clear hm h9;go_wp2_with fail;exact⟨rfl,aB.o _ _ fR.o (H9.o.pick [0])⟩
 have acH:=qh hi;have h4:=ha.su;have xx:=h4.cell 2 rfl 0 rfl;have fz:=h4.free 4 rfl;have hz:=h4.lt 4 rfl;have ab5:=qh h4;clear hi ha h4;go_wp2_with fail;have HE:Hq (cD ad T E S st=TK ad E st):=yU.o.trans (WV Rr.o R9.o N7.o Rf.o X7.o acH.o);refine cN (ab5.o.at 1 rfl) ⟨#[40]⟩ (λw3 hm h4=>?_) (λe w3 hm h4=>?_);rotate_left
 ·have fR:Hq (cD ad T E S st=.error e):=HE.o.trans (by rw[TK,aP hm]);have H4:=qh (h4.unpack (i:=0) rfl);clear hm h4;go_wp2_with fail;exact⟨rfl,aB.o _ _ fR.o (H4.o.pick [0])⟩
 have fR:Hq (cD ad T E S st=(Ty.aq E λa=>Ty.aq (Ty.need ad [41]) λ_=>Ty.ret a) {st with pos:=st.pos+1}):=HE.o.trans (by rw[TK,aw hm]);have h5:=h4.su;have Qz:=h5.cell 2 rfl 0 rfl;have H4:=qh h5;clear hm h4 h5 xx;go_wp2_with fail;refine HL.o.e _ _ _ pb _ (H4.o.at 1 rfl) _ (λn s5 w5 hm h5=>?_) (λe w5 hm h5=>?_);rotate_left
 ·have jl:Hq (cD ad T E S st=.error e):=fR.o.trans (by rw[aP hm]);have H5:=qh (h5.unpack (i:=0) rfl);clear hm h5;go_wp2_with fail;exact⟨rfl,aB.o _ _ jl.o (H5.o.pick [0])⟩
 have jl:Hq (cD ad T E S st=(Ty.aq (Ty.need ad [41]) λ_=>Ty.ret n) s5):=fR.o.trans (by rw[aw hm]);have h6:=h5.su;have Tm:=h6.cell 2 rfl 0 rfl;have H5:=qh h6;clear hm h5 h6 Qz;go_wp2_with fail;refine cN (H5.o.at 1 rfl) ⟨#[41]⟩ (λw6 hm h6=>?_) (λe w6 hm h6=>?_)
 ·have sV:Hq (cD ad T E S st=.ok (n,{s5 with pos:=s5.pos+1})):=jl.o.trans (by rw[aw hm];rfl);have H6:=qh h6.su;clear hm h6;go_wp2_with fail;exact aX.o _ _ _ sV.o (H6.o.pick [0,1])
 ·have sV:Hq (cD ad T E S st=.error e):=jl.o.trans (by rw[aP hm]);have H6:=qh (h6.unpack (i:=0) rfl);clear hm h6;go_wp2_with fail;exact⟨rfl,aB.o _ _ sV.o (H6.o.pick [0])⟩
section
variable {w0 w:World} {Fr:As} {pb d:Nat} {ad:List Tok.Tk} {st:Ty.St}
theorem td(H:Sat w0 w [Fr,aV pb d ad st])(F:FuncId)(c:Value)(hc:∀(args:Array Value)(w:World),(callFunc F args).run prog w=.ok (.enter F args) w)
  (m:Ty.M Nat)
  (vM:d<20->∀w1,Sat w0 w1 [Fr,aV pb (d+1) ad st]->∀R:EW,
   (∀n st2 w2,m st=.ok (n,st2)->Sat w0 w2 [Fr,aV pb (d+1) ad st2]->R (.returned (.int .i64 (n:Nat))) w2)->
   (∀f w2,m st=.error f->Sat w0 w2 [Fr]->R (.panicked (aI f)) w2)->Calls prog F #[c] w1 R)
  {R:EW}
  (aH:∀n st2 w2,d<20->m st=.ok (n,st2)->Sat w0 w2 [Fr,aV pb d ad st2]->R (.returned (.int .i64 (n:Nat))) w2)
  (au:∀f w2,(d<20->m st=.error f)->(d=20->f=Ty.here ad 8 st.pos)->Sat w0 w2 [Fr]->R (.panicked (aI f)) w2):
  Calls prog 130 #[.pointer (some ⟨pb,0,none⟩),.func (.func F) #[c] #[]] w R:=by
 have aX:=qh aH;have aB:=qh au;have BN:=qh vM;have HS:=qh H;have bu:=H.look;have hd:=bu.fits.2.1;obtain⟨_,c2,f0⟩:=bu.cells;have HL:=qh bu;clear aH au vM H bu;by_cases Mi:d=20
 ·have d1: ((d:Int)==20)=true:=by simp[Mi]
  have HD:=qh Mi;clear Mi hd;go_in;go_wp2_with fail;refine lE w pb d ad st HL.o 8 (λw1 cQ=>?_);have HB:=qh cQ;clear cQ;go_wp2_with fail;exact⟨rfl,aB.o _ _ (λh=>by have:=HD.o;omega) (λ_=>rfl) ((HS.o.below HB.o).pick [0])⟩
 ·have d1: ((d:Int)==20)=false:=by simp;omega
  have a_:d<20:=by omega
  clear Mi;go_in;go_wp2_with fail;refine BN.o a_ _ (HS.o.tA (d+1) (by omega)) _ (λn st2 w2 hm h2=>?_) (λf w2 hm h2=>?_)
  ·obtain⟨_,M4,aaY⟩:=h2.look.cells;have H2:=qh h2;have HM:=qh hm;clear h2 hm;go_wp2_with fail;exact aX.o n st2 _ a_ HM.o (H2.o.tA _ (by omega))
  ·have H2:=qh h2;have HM:=qh hm;clear h2 hm;go_wp2_with fail;exact⟨rfl,aB.o f w2 (λ_=>HM.o) (λh=>absurd h (by omega)) H2.o⟩
end
def preB:List BA:=[⟨#[33]⟩,⟨#[45]⟩,⟨#[116,121,112,101,111,102]⟩]
def EN:Array Value:=#[.string ⟨#[33]⟩,.string ⟨#[45]⟩,.string ⟨#[116,121,112,101,111,102]⟩]
theorem Nk{ad:List Tok.Tk}{x:List UInt8}{s s':Ty.St}(h:Ty.take ad x s=.ok (true,s')):Ty.is ad x s.pos=true:=by
 unfold Ty.take at h;split at h
 ·assumption
 ·cases h
theorem IE{ad:List Tok.Tk}{x:List UInt8}{s s':Ty.St}(h:Ty.take ad x s=.ok (false,s')):Ty.is ad x s.pos=false:=by
 unfold Ty.take at h;split at h
 ·cases h
 ·simpa using‹¬Ty.is ad x s.pos=true›
theorem yY{ad:List Tok.Tk}{x:BA}{p:Nat}(h:Ty.is ad x.data.toList p=true): (Ty.cur ad p).text=x:=by
 unfold Ty.is at h;simp at h;apply ByteArray.ext;exact h.2
theorem JB{ad:List Tok.Tk}{d:Nat}{T E O S:Ty.M Nat}(L:Lo ad d T E O S)(vd:C0 ad):eh 319 ad d (pw ad T E O S):=by
 intro w0 w Fr pb st H R aH au;have aX:=qh aH;have aB:=qh au;have HL:=qh L;have bu:=H.look;have lR:=bu.wf.1;have eS:=bu.fits.1;have oP:=bu.fits.2.2.2;have HN:=qh (λR hR=>@gE _ pb d ad st bu R hR);have acJ:=qh (DU L vd);have acu:=qh (tM L.pt L.ne L.ns.pre (ad:=ad));have FY:Hq (∀x∈preB,Ty.is ad x.data.toList st.pos=true->pw ad T E O S st=Ty.aq O (λa=>Ty.addNode {Ty.af 13 (Ty.cur ad st.pos).pos with text:=x,a:=a}) {st with pos:=st.pos+1}):=λx hx hi=>by
  show pw ad T E O S st= _;rw[<-yY hi];show(if gW.any (λx=>Ty.is ad x st.pos)=true then _ else _:Ty.M Nat) st= _;rw[if_pos (List.any_eq_true.2 ⟨x.data.toList,by simp[preB]at hx;rcases hx with rfl|rfl|rfl<;>simp[gW],hi⟩)];rfl
 have wA:Hq ((∀j(hj:j<preB.length),Ty.is ad preB[j].data.toList st.pos=false)->pw ad T E O S st=Ty.aq (cD ad T E S) (λa=>Ty.behind ad T E (ad.length+1) a) st):=λh=>by
  show(if gW.any (λx=>Ty.is ad x st.pos)=true then _ else _:Ty.M Nat) st= _;have h0:=h 0 (by decide);have h1:=h 1 (by decide);have h2:=h 2 (by decide);have e:¬gW.any (λx=>Ty.is ad x st.pos)=true:=by
   simp only[gW,List.any_cons,List.any_nil];intro e;simp only[preB,List.getElem_cons_zero,List.getElem_cons_succ]at h0 h1 h2;rw[h0,h1,h2]at e;simp at e
  rw[if_neg e]
 obtain⟨ps,kM⟩:∃ps,(Ty.cur ad st.pos).pos=ps:=⟨_,rfl⟩
 rw[kM]at FY
 generalize Ty.cur ad st.pos=t at*
 obtain⟨kd,tx,tp⟩:=t;dsimp only at kM;subst kM;have HS:=qh H;have Va:=jV;clear aH au H L bu vd;go_enter func319,ntmps319;go_wp2_with fail;refine HN.o _ (λw1 cQ=>?_);dsimp only[cj];have h2:=(HS.o.below cQ).aj (.cells EN 9) w1.heap.size;have H2:=qh h2;clear cQ h2;go_wp2_with fail;go_loopw [12] (λi wr=>∃k:Nat,k<=3/\i=.int .i64 k/\Hq (Sat w0 wr [Fr,aV pb d ad st,av w1.heap.size (.cells EN 9 (0,0))])/\Hq (∀j(hj:j<preB.length),j<k->Ty.is ad preB[j].data.toList st.pos=false)) (λi _=>3-(intOf i).toNat)
 case atStart=>exact⟨0,by omega,rfl,H2.o,λj hj h=>by omega⟩
 case round=>
  obtain⟨k,hk,rfl,hS,Bz⟩:=hrel;by_cases a_:k<3
  ·have Cl:k<preB.length:=a_;have d0:wr.cell? ⟨w1.heap.size,k,none⟩=some (.string preB[k]):=hS.out.cell 2 rfl k (by
    match k,a_ with
    |0,_=>rfl
    |1,_=>rfl
    |2,_=>rfl)
   have T7:=gM Cl;have HX:Hq (Ty.is ad preB[k].data.toList st.pos=false->∀j(hj:j<preB.length),j<k+1->Ty.is ad preB[j].data.toList st.pos=false):=λh j hj Ih=>by
    by_cases e:j=k
    ·subst e;exact h
    ·exact Bz.out j hj (by omega)
   have ZR:=hS.out.lt 2 rfl;generalize preB[k]=x at*
   have Vy:=qh T7;clear T7 Cl;go_wp2_with fail;refine cx (hS.out.at 1 rfl) x (λw2 hi h3=>?_) (λw2 hi h3=>?_)
   ·have HE:=qh (FY.o x Vy.o (Nk hi));have H3:=qh h3.kJ;clear hi h3;go_wp2_with fail;refine ke _ 13 tp (λw3 dF=>?_);have h4:=(H3.o.below dF).aj (.cells #[.int .i64 13,.int .i64 0,.int .i64 0,.int .i64 0,.slice none 0 0,.string x,.int .i64 0,.int .i64 (-1),.int .i64 tp] 66) w3.heap.size;have H4:=qh h4;clear dF h4;go_wp2_with fail;refine HL.o.o _ _ _ pb _ (H4.o.at 1 rfl) _ (λn s5 w5 hm h5=>?_) (λe w5 hm h5=>?_)
    ·have pd:=HL.o.ao _ _ _ hm;dsimp only at pd;have fR:Hq (pw ad T E O S st=.ok (s5.ns.length,{s5 with ns:=s5.ns++[{Ty.af 13 tp with text:=x,a:=n}]})):=HE.o.trans (by rw[aw hm];rfl);have h6:=h5.mW;have y1:=h6.cell 3 rfl 1 rfl;have f6:=h6.free 3 rfl;have adF:=h6.lt 3 rfl;have h7:=h6.store 3 rfl 1 (.int .i64 (n:Nat));have q0:=h6.cell 3 rfl 0 rfl;have q2:=h6.cell 3 rfl 2 rfl;have q3:=h6.cell 3 rfl 3 rfl;have q4:=h6.cell 3 rfl 4 rfl;have q5:=h6.cell 3 rfl 5 rfl;have q6:=h6.cell 3 rfl 6 rfl;have q7:=h6.cell 3 rfl 7 rfl;have q8:=h6.cell 3 rfl 8 rfl;have H7:=qh (h7.nil 3 1);clear hm h5 h6 h7;go_wp2_with fail;refine bZ {Ty.af 13 tp with text:=x,a:=n} (.slice none 0 0) H7.o.rP (by omega) (λw7 h8=>?_);have H8:=qh ((h8.unpack (i:=0) rfl).pick [1,0]);clear h8;go_wp2_with fail;exact aX.o _ _ _ fR.o H8.o
    ·have fR:Hq (pw ad T E O S st=.error e):=HE.o.trans (by rw[aP hm]);have H5:=qh (h5.unpack (i:=0) rfl);clear hm h5;go_wp2_with fail;exact⟨rfl,aB.o _ _ fR.o (H5.o.pick [0])⟩
   ·have Ra:=qh (HX.o (IE hi));have H3:=qh h3.kJ;clear hi h3 HX;go_wp2_with fail;go_roundw
    case rel=>exact⟨k+1,by omega,by go_num,H3,Ra⟩
    case measure=>simp[intOf];omega
  ·have qI:k=3:=by omega
   subst qI;have HE:=qh (wA.o (λj hj=>Bz.out j hj hj));clear Bz;go_wp2_with fail;refine acJ.o _ _ _ pb _ (hS.out.at 1 rfl) _ (λn s5 w5 hm h5=>?_) (λe w5 hm h5=>?_)
   ·have pJ:=(acu.o _ _ _ hm).2.1;have fR:Hq (pw ad T E O S st=Ty.behind ad T E (ad.length+1) n s5):=HE.o.trans (by rw[aw hm]);have H5:=qh h5.kJ;clear hm h5;go_wp2_with fail;refine C_ HL.o (H5.o.at 1 rfl) pJ (λm s6 w6 hm h6=>?_) (λe w6 hm h6=>?_)
    ·have HM:=qh (fR.o.trans hm);have H6:=qh h6.kJ;clear hm h6;go_wp2_with fail;exact aX.o _ _ _ HM.o (H6.o.pick [0,1])
    ·have HM:=qh (fR.o.trans hm);have H6:=qh (h6.unpack (i:=0) rfl);clear hm h6;go_wp2_with fail;exact⟨rfl,aB.o _ _ HM.o (H6.o.pick [0])⟩
   ·have fR:Hq (pw ad T E O S st=.error e):=HE.o.trans (by rw[aP hm]);have H5:=qh (h5.unpack (i:=0) rfl);clear hm h5;go_wp2_with fail;exact⟨rfl,aB.o _ _ fR.o (H5.o.pick [0])⟩
end Go.Proofs.YtdlbhiaceheffabGreatDoor
