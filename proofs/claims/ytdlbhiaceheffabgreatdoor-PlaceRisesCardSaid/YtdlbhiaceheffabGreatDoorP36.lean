/- Walks of what gathers parts and params; of the parser's block. -/
import Derived.Lib.SmallJoins
import Derived.Test.YtdlbhiaceheffabGreatDoorP13
import Derived.Test.YtdlbhiaceheffabGreatDoorP04
set_option linter.all false
set_option maxRecDepth 100000
set_option maxHeartbeats 8000000
namespace Go.Proofs.YtdlbhiaceheffabGreatDoor
open Go Go.RowKit Ty Tok ak Tryz Proofs.Tryz
def L2(pb nb xb mb:Nat)(k a p:Int)(l:List (BA×Nat)):As:=cA λv:Value=>ah [ay nb (rh k a p v),eZ v (l.map Prod.snd),pL pb xb,Ht mb (l.map Prod.fst)]
theorem ak.Sat.xB{w0 w:World}{A B:As}{pb nb xb mb:Nat}{k a p:Int}{l:List (BA×Nat)}(H:Sat w0 w [A,B,L2 pb nb xb mb k a p l]):∃v,Sat w0 w [A,B,ay nb (rh k a p v),eZ v (l.map Prod.snd),pL pb xb,Ht mb (l.map Prod.fst)]:=by
 obtain⟨v,hs⟩:=H.ex (i:=2) rfl;exact⟨v,hs.unpack (i:=2) rfl⟩
theorem ak.Sat.yh{w0 w:World}{A B:As}{pb nb xb mb:Nat}{k a p:Int}{v:Value}{l:List (BA×Nat)}{ns:List Nat}{ms:List BA}(h1:l.map Prod.snd=ns)(h2:l.map Prod.fst=ms)(H:Sat w0 w [A,B,ay nb (rh k a p v),eZ v ns,pL pb xb,Ht mb ms]):Sat w0 w [A,B,L2 pb nb xb mb k a p l]:=by
 subst h1 h2;exact(Sat.pack (L:=[_,_]) H).cG (i:=2) rfl (λ_ h=>⟨_,h⟩)
theorem K8(w0 w:World)(Fr:As)(pb nb xb mb d:Nat)(ad:List Tok.Tk)(M:List BA→Ty.M (BA×Nat))(eO:E4 349 ad d M)(k0 a0 p0:Int)
  (l:List (BA×Nat)) (s:Ty.St) (H:Sat w0 w [Fr,aX pb d ad s,L2 pb nb xb mb k0 a0 p0 l]) (hl:l.length≤s.pos) {R:EW}
  (aF:∀n s2 w2,M (l.map Prod.fst) s=.ok (n,s2)→Sat w0 w2 [Fr,aX pb d ad s2,L2 pb nb xb mb k0 a0 p0 (l++[n])]→R (.returned (.tuple #[])) w2)
  (av:∀f w2,M (l.map Prod.fst) s=.error f→Sat w0 w2 [Fr]→R (.panicked (aJ f)) w2):
  Calls prog 348 #[.pointer (some ⟨nb,0,none⟩),.pointer (some ⟨xb,0,none⟩),.pointer (some ⟨mb,0,none⟩)] w R:=by
 have aY:=qh aF;have aB:=qh av;have bD:=(H.pick [0,1]).look;have fs:=bD.fits.1;have jK:=bD.wf.1;obtain⟨v,hs⟩:=H.xB;obtain⟨ns,xm⟩:∃ns,l.map Prod.snd=ns:=⟨_,rfl⟩
 obtain⟨ms,gT⟩:∃ms,l.map Prod.fst=ms:=⟨_,rfl⟩
 have kN:ns.length≤s.pos:=by rw[←xm,List.length_map];exact hl
 have xZ:ms.length≤s.pos:=by rw[←gT,List.length_map];exact hl
 have Xo:Hq (∀n:BA×Nat,(l++[n]).map Prod.snd=ns++[n.2]):=λn=>by rw[List.map_append,xm];rfl
 have Ls:Hq (∀n:BA×Nat,(l++[n]).map Prod.fst=ms++[n.1]):=λn=>by rw[List.map_append,gT];rfl
 rw[xm,gT]at hs
 rw[gT]at aY aB
 obtain⟨a,dr,rfl⟩:=ag (hs.row 3 rfl);have c1:=hs.cell 2 rfl 4 rfl;have c2:=hs.cell 4 rfl 0 rfl;have HS:=qh (eO w0 w.drew _ pb mb s ms ((Sat.pack (L:=[_,_]) (M:=[_,_,_,_]) (hs.drew.pick [1,5,0,2,3,4])).pick [2,0,1]) xZ);obtain⟨i0,ti,mx,mu,mw⟩:=info_parts jo;clear aF av eO H bD hs xm gT;go_in;go_wp2_with fail;go_region_law(first|(go_simp;go_at_call 349;refine HS.o _ (λx n s2 w2 hm h2=>?_) (λf w2 hm h2=>⟨rfl,aB.o _ _ hm ((h2.unpack (i:=0) rfl).pick [0])⟩);have h3:Sat w0 w2 [Fr,aX pb d ad s2,ay nb (rh k0 a0 p0 (.slice a ns.length dr)),eZ (.slice a ns.length dr) ns,pL pb xb,Ht mb (ms++[x])]:=(h2.unpack (i:=0) rfl).pick [2,0,3,4,5,1];have d1:=h3.cell 2 rfl 4 rfl;have d2:=(h3.aU (.cells #[.int .i64 n] 3)).cell 2 rfl 4 rfl;have H3:=qh h3;clear h2 h3)|(go_loud(refine step_append_lies _ (by rfl) _ _ _ (by rfl) 0 3 i0 _ 1 8 underlying39 ti mx mu mw rfl (by omega) (.slice a ns.length dr) ns.length (ns.map aS) (by rfl) ((H3.o.row 3 rfl).alloc _) ⟨w2.heap.size,0,none⟩ 1 1 [.int .i64 n] (by rfl) (by rfl) (World.news_of_block (cs:=#[.int .i64 n]) (t:=3) (fr:=(0,0)) (aH _ _ _ (by simp))) (by simp[Value.oneCell']) (by omega) (by unfold maxLen;omega) (by omega) (by simp) (w2.heap.size+1) (by simp) ?_);intro g cap w3 eA dU pw yR;have h4:=Sat.grow (H3.o.aU _) 3 rfl dU eA (by simpa using pw);have d3:=h4.cell 2 rfl 4 rfl;have f3:=h4.free 2 rfl 4;have H4:=qh h4;clear h4))
 all_goals
  clear eA dU;go_wp2_with fail;go_end0;exact aY.o (x,n) s2 _ hm (Sat.yh (Xo.o (x,n)) (Ls.o (x,n)) ((H4.o.store 2 rfl 4 _).cG (i:=3) rfl (Q:=eZ (.slice (some ⟨g,0,none⟩) (ns.length+1) cap) (ns++[n])) (λ_ h=>iJ h)))
theorem G6(w0 w:World)(Fr:As)(pb nb xb mb d:Nat)(ad:List Tok.Tk)(M:List BA→Ty.M (BA×Nat))(eO:E4 357 ad d M)(k0 a0 p0:Int)
  (l:List (BA×Nat)) (s:Ty.St) (H:Sat w0 w [Fr,aX pb d ad s,L2 pb nb xb mb k0 a0 p0 l]) (hl:l.length≤s.pos) {R:EW}
  (aF:∀n s2 w2,M (l.map Prod.fst) s=.ok (n,s2)→Sat w0 w2 [Fr,aX pb d ad s2,L2 pb nb xb mb k0 a0 p0 (l++[n])]→R (.returned (.tuple #[])) w2)
  (av:∀f w2,M (l.map Prod.fst) s=.error f→Sat w0 w2 [Fr]→R (.panicked (aJ f)) w2):
  Calls prog 356 #[.pointer (some ⟨nb,0,none⟩),.pointer (some ⟨xb,0,none⟩),.pointer (some ⟨mb,0,none⟩)] w R:=by
 have aY:=qh aF;have aB:=qh av;have bD:=(H.pick [0,1]).look;have fs:=bD.fits.1;have jK:=bD.wf.1;obtain⟨v,hs⟩:=H.xB;obtain⟨ns,xm⟩:∃ns,l.map Prod.snd=ns:=⟨_,rfl⟩
 obtain⟨ms,gT⟩:∃ms,l.map Prod.fst=ms:=⟨_,rfl⟩
 have kN:ns.length≤s.pos:=by rw[←xm,List.length_map];exact hl
 have xZ:ms.length≤s.pos:=by rw[←gT,List.length_map];exact hl
 have Xo:Hq (∀n:BA×Nat,(l++[n]).map Prod.snd=ns++[n.2]):=λn=>by rw[List.map_append,xm];rfl
 have Ls:Hq (∀n:BA×Nat,(l++[n]).map Prod.fst=ms++[n.1]):=λn=>by rw[List.map_append,gT];rfl
 rw[xm,gT]at hs
 rw[gT]at aY aB
 obtain⟨a,dr,rfl⟩:=ag (hs.row 3 rfl);have c1:=hs.cell 2 rfl 4 rfl;have c2:=hs.cell 4 rfl 0 rfl;have HS:=qh (eO w0 w.drew _ pb mb s ms ((Sat.pack (L:=[_,_]) (M:=[_,_,_,_]) (hs.drew.pick [1,5,0,2,3,4])).pick [2,0,1]) xZ);obtain⟨i0,ti,mx,mu,mw⟩:=info_parts jo;clear aF av eO H bD hs xm gT;go_in;go_wp2_with fail;go_region_law(first|(go_simp;go_at_call 357;refine HS.o _ (λx n s2 w2 hm h2=>?_) (λf w2 hm h2=>⟨rfl,aB.o _ _ hm ((h2.unpack (i:=0) rfl).pick [0])⟩);have h3:Sat w0 w2 [Fr,aX pb d ad s2,ay nb (rh k0 a0 p0 (.slice a ns.length dr)),eZ (.slice a ns.length dr) ns,pL pb xb,Ht mb (ms++[x])]:=(h2.unpack (i:=0) rfl).pick [2,0,3,4,5,1];have d1:=h3.cell 2 rfl 4 rfl;have d2:=(h3.aU (.cells #[.int .i64 n] 3)).cell 2 rfl 4 rfl;have H3:=qh h3;clear h2 h3)|(go_loud(refine step_append_lies _ (by rfl) _ _ _ (by rfl) 0 3 i0 _ 1 8 underlying39 ti mx mu mw rfl (by omega) (.slice a ns.length dr) ns.length (ns.map aS) (by rfl) ((H3.o.row 3 rfl).alloc _) ⟨w2.heap.size,0,none⟩ 1 1 [.int .i64 n] (by rfl) (by rfl) (World.news_of_block (cs:=#[.int .i64 n]) (t:=3) (fr:=(0,0)) (aH _ _ _ (by simp))) (by simp[Value.oneCell']) (by omega) (by unfold maxLen;omega) (by omega) (by simp) (w2.heap.size+1) (by simp) ?_);intro g cap w3 eA dU pw yR;have h4:=Sat.grow (H3.o.aU _) 3 rfl dU eA (by simpa using pw);have d3:=h4.cell 2 rfl 4 rfl;have f3:=h4.free 2 rfl 4;have H4:=qh h4;clear h4))
 all_goals
  clear eA dU;go_wp2_with fail;go_end0;exact aY.o (x,n) s2 _ hm (Sat.yh (Xo.o (x,n)) (Ls.o (x,n)) ((H4.o.store 2 rfl 4 _).cG (i:=3) rfl (Q:=eZ (.slice (some ⟨g,0,none⟩) (ns.length+1) cap) (ns++[n])) (λ_ h=>iJ h)))
namespace Ty
theorem CI{ad:List Tok.Tk}{S:M Nat}{f:Nat}{l:List Nat}{s s1:St}(h:take ad [125] s=.ok (true,s1)):stmts ad S (f+1) l s=.ok (l,s1):=by
 rw[stmts];rw[aw h];rfl
theorem J3{ad:List Tok.Tk}{S:M Nat}{f:Nat}{l:List Nat}{s s1:St}(h:take ad [125] s=.ok (false,s1)):stmts ad S (f+1) l s=ar S (λn=>stmts ad S f (l++[n])) s1:=by
 rw[stmts];rw[aw h];rfl
end Ty
theorem oA{ad:List Tok.Tk}{d:Nat}{T E O S:Ty.M Nat}(L:Lo ad d T E O S):eB 283 ad d (ef ad S):=by
 intro w0 w Fr pb st H R aF av;have aY:=qh aF;have aB:=qh av;have HL:=qh L;have bD:=H.look;have jK:=bD.wf.1;have fs:=bD.fits.1;have oY:=bD.fits.2.2.2;have HS:=qh H;have HN:=qh (λR hR=>@gN w pb d ad st bD R hR);obtain⟨i0,ti,mx,mu,mw⟩:=info_parts jo;obtain⟨ps,jQ⟩:∃ps,(Ty.cur ad st.pos).pos=ps:=⟨_,rfl⟩
 have sW:Hq (∀r,(Ty.ar (Ty.need ad [123]) λ_=>Ty.ar (Ty.stmts ad S (ad.length+1) []) λl=>Ty.addNode {Ty.af 26 ps with list:=l}) st=r→ef ad S st=r):=λr h=>by rw[←h,←jQ];rfl
 generalize Ty.cur ad st.pos=t at*
 obtain⟨kd,tx,tp⟩:=t;dsimp only at jQ;subst jQ;have Uh:=j6;clear aF av H L bD;go_enter func283,ntmps283;go_wp2_with fail;refine HN.o _ (λw1 df=>?_);dsimp only[cr];have H1:=qh (HS.o.below df);clear df;go_wp2_with fail;refine kn w1 26 tp (λw2 aI=>?_);have h2:=(H1.o.below aI).aj (.cells #[.int .i64 26,.int .i64 0,.int .i64 0,.int .i64 0,.slice none 0 0,.string ⟨#[]⟩,.int .i64 0,.int .i64 (-1),.int .i64 tp] 66) w2.heap.size;have H2:=qh h2;clear aI h2;go_wp2_with fail;refine cP (H2.o.at 1 rfl) ⟨#[123]⟩ (λw3 hm h3=>?_) (λe w3 hm h3=>?_);rotate_left
 ·have rV:Hq (ef ad S st=.error e):=sW.o _ (by rw[aQ hm]);have H3:=qh (h3.unpack (i:=0) rfl);clear hm h3;go_wp2_with fail;exact⟨rfl,aB.o _ _ rV.o (H3.o.pick [0])⟩
 have rV:Hq (∀r,(Ty.ar (Ty.stmts ad S (ad.length+1) []) λl=>Ty.addNode {Ty.af 26 tp with list:=l}) {st with pos:=st.pos+1}=r→ef ad S st=r):=λr h=>sW.o r (by rw[aw hm];exact h)
 have h4:Sat w0 w3 [Fr,aX pb d ad {st with pos:=st.pos+1},ay w2.heap.size (rh 26 0 tp (.slice none 0 0)),eZ (.slice none 0 0) []]:=h3.kJ.nil 3 1;have ZM:=(h4.pick [0,1]).look.fits.1;have H4:=qh h4;clear hm h3 h4;dsimp only at ZM;go_wp2_with fail;go_loopw [10] (λ_ wr=>∃(f:Nat)(l:List Nat)(s:Ty.St)(v:Value),s.pos<ad.length∧ad.length<s.pos+f∧l.length≤s.pos∧s.ns.length≤s.pos∧Hq (Sat w0 wr [Fr,aX pb d ad s,ay w2.heap.size (rh 26 0 tp v),eZ v l])∧Hq (∀r,(Ty.ar (Ty.stmts ad S f l) λl=>Ty.addNode {Ty.af 26 tp with list:=l}) s=r→ef ad S st=r))
  (λ_ wr=>ad.length-posOf pb wr)
 case atStart=>exact⟨ad.length+1,[],{st with pos:=st.pos+1},.slice none 0 0,ZM,by dsimp only;omega,by simp,by dsimp only;omega,H4.o,rV.o⟩
 case round=>
  obtain⟨f,l,s,v,hp,hf,oV,Xl,hS,hE⟩:=hrel;obtain⟨f,rfl⟩:∃g,f=g+1:=⟨f-1,by omega⟩
  obtain⟨a,dr,rfl⟩:=ag (hS.out.row 3 rfl);have oH:=qh (dm (hS.out.pick [0,1]).look);go_wp2_with fail;refine cD (hS.out.at 1 rfl) ⟨#[125]⟩ (λw4 hi h5=>?_) (λw4 hi h5=>?_)
  ·have fZ:Hq (ef ad S st=.ok (s.ns.length,{s with pos:=s.pos+1,ns:=s.ns++[{Ty.af 26 tp with list:=l}]})):=hE.out _ (by rw[aw (CI hi)];rfl);have h6:Sat w0 w4 [Fr,aX pb d ad {s with pos:=s.pos+1},ay w2.heap.size (rh 26 0 tp (.slice a l.length dr)),eZ (.slice a l.length dr) l]:=h5.ny;have q0:=h6.cell 2 rfl 0 rfl;have q1:=h6.cell 2 rfl 1 rfl;have q2:=h6.cell 2 rfl 2 rfl;have q3:=h6.cell 2 rfl 3 rfl;have q4:=h6.cell 2 rfl 4 rfl;have q5:=h6.cell 2 rfl 5 rfl;have q6:=h6.cell 2 rfl 6 rfl;have q7:=h6.cell 2 rfl 7 rfl;have q8:=h6.cell 2 rfl 8 rfl;have H6:=qh h6;clear hi h5 h6 hE;go_wp2_with fail;refine cd {Ty.af 26 tp with list:=l} (.slice a l.length dr) ((Sat.pack (L:=[_,_]) (M:=[_,_]) (H6.o.pick [1,3,0,2])).pick [2,0,1]) (by dsimp only;omega) (λw5 h8=>?_);have H8:=qh (h8.unpack (i:=0) rfl);clear h8;go_wp2_with fail;exact aY.o _ _ _ fZ.o (H8.o.pick [1,0])
  ·have fZ:Hq (∀r,(Ty.ar S λn=>Ty.ar (Ty.stmts ad S f (l++[n])) λl=>Ty.addNode {Ty.af 26 tp with list:=l}) s=r→ef ad S st=r):=λr h=>hE.out r (by
    have e: (Ty.ar (Ty.stmts ad S (f+1) l) λl=>Ty.addNode {Ty.af 26 tp with list:=l}) s=(Ty.ar (Ty.ar S λn=>Ty.stmts ad S f (l++[n])) λl=>Ty.addNode {Ty.af 26 tp with list:=l}) s:=by
     unfold Ty.ar;rw[J3 hi];rfl
    rw[e,←h];unfold Ty.ar;cases S s with
    |error x=>rfl
    |ok x=>rfl)
   have h6:Sat w0 w4 [Fr,aX pb d ad s,ay w2.heap.size (rh 26 0 tp (.slice a l.length dr)),eZ (.slice a l.length dr) l]:=h5.ny;have c1:=h6.cell 2 rfl 4 rfl;have V4:=qh (HL.o.s w0 w4.drew _ pb s (h6.drew.at 1 rfl));clear hi h5 hE h6;go_wp2_with fail;go_region_law(first|(go_simp;go_at_call 76;refine V4.o _ (λn s2 w5 hm h2=>?_) (λe w5 hm h2=>?_);rotate_left;(exact⟨rfl,aB.o _ _ (fZ.o _ (by rw[aQ hm])) ((h2.unpack (i:=0) rfl).pick [0])⟩);have h3:Sat w0 w5 [Fr,aX pb d ad s2,ay w2.heap.size (rh 26 0 tp (.slice a l.length dr)),eZ (.slice a l.length dr) l]:=(Sat.tR (L:=[Fr,aX pb d ad s,ay w2.heap.size (rh 26 0 tp (.slice a l.length dr)),eZ (.slice a l.length dr) l]) (i:=1) (by simp) h2);have d1:=h3.cell 2 rfl 4 rfl;have d2:=(h3.aU (.cells #[.int .i64 n] 3)).cell 2 rfl 4 rfl;have pz:=HL.o.O2 _ _ _ hm;have H3:=qh h3;have HM:=qh hm;clear h2 h3 hm)|(go_loud(refine step_append_lies _ (by rfl) _ _ _ (by rfl) 0 3 i0 _ 1 8 underlying39 ti mx mu mw rfl (by omega) (.slice a l.length dr) l.length (l.map aS) (by rfl) ((H3.o.row 3 rfl).alloc _) ⟨w5.heap.size,0,none⟩ 1 1 [.int .i64 n] (by rfl) (by rfl) (World.news_of_block (cs:=#[.int .i64 n]) (t:=3) (fr:=(0,0)) (aH _ _ _ (by simp))) (by simp[Value.oneCell']) (by omega) (by unfold maxLen;omega) (by omega) (by simp) (w5.heap.size+1) (by simp) ?_);intro g cap w6 eA dU pw yR;have h4:=Sat.grow (H3.o.aU _) 3 rfl dU eA (by simpa using pw);have d3:=h4.cell 2 rfl 4 rfl;have f3:=h4.free 2 rfl 4;have H4:=qh h4;clear h4))
   all_goals
    clear eA dU;have h7:=(H4.o.store 2 rfl 4 (.slice (some ⟨g,0,none⟩) (l.length+1) cap)).cG (i:=3) rfl (Q:=eZ (.slice (some ⟨g,0,none⟩) (l.length+1) cap) (l++[n])) (λ_ h=>iJ h);have h7:Sat w0 _ [Fr,aX pb d ad s2,ay w2.heap.size (rh 26 0 tp (.slice (some ⟨g,0,none⟩) (l.length+1) cap)),eZ (.slice (some ⟨g,0,none⟩) (l.length+1) cap) (l++[n])]:=h7;have U':=(h7.pick [0,1]).look.fits.1;have Qr:=qh (dm (h7.pick [0,1]).look);have H7:=qh h7;have jB:Hq (∀r,(Ty.ar (Ty.stmts ad S f (l++[n])) λl=>Ty.addNode {Ty.af 26 tp with list:=l}) s2=r→ef ad S st=r):=λr h=>fZ.o r (by rw[aw HM.o];exact h)
    clear h7;go_wp2_with fail;go_roundw
    case rel=>exact⟨f,l++[n],s2,_,U',by omega,by simp;omega,by omega,H7,jB⟩
    case measure=>rw[oH.o,Qr.o];omega
theorem ak.Sat.EG{w0 w:World}{Fr P B A X M:As}(h:Sat w0 w [Fr,P,B,A,X,M]):Sat w0 w [ah [Fr,B,X,M],P,A]:=(Sat.pack (L:=[_,_]) (M:=[_,_,_,_]) (h.pick [1,3,0,2,4,5])).pick [2,0,1]
theorem En{w0 w:World}{A B:As}{mb:Nat}(h:Sat w0 w [A,B,ay mb (.cells #[.slice none 0 0] 161 (0,0))]):Sat w0 w [A,B,Ht mb []]:=
 Sat.B8 (mv:=.slice none 0 0) (h.nil 9 1)
theorem xI{w0 w:World}{Fr:As}{pb d:Nat}{ad:List Tok.Tk}{st:Ty.St}{T E O S:Ty.M Nat}(L:Lo ad d T E O S)(H:Sat w0 w [Fr,aX pb d ad st])(ps:Nat)(xm:st.ns.length≤st.pos){R:EW}
  (aF:∀n s2 w2,cF ad T S ps st=.ok (n,s2)→Sat w0 w2 [Fr,aX pb d ad s2]→R (.returned (.int .i64 (n:Nat))) w2)
  (av:∀f w2,cF ad T S ps st=.error f→Sat w0 w2 [Fr]→R (.panicked (aJ f)) w2):
  Calls prog 346 #[.pointer (some ⟨pb,0,none⟩),.int .i64 (ps:Nat)] w R:=by
 have aY:=qh aF;have aB:=qh av;have HL:=qh L;have bD:=H.look;have jK:=bD.wf.1;have fs:=bD.fits.1;have h1:Sat w0 _ [Fr,aX pb d ad st,pL pb w.heap.size]:=H.aj (.cells #[.pointer (some ⟨pb,0,none⟩)] 80) w.heap.size;have H1:=qh h1;clear aF av H L bD h1;go_in;go_wp2_with fail;refine kn _ 6 ps (λw1 df=>?_);have h2:=(((H1.o.below df).aj (.cells #[.int .i64 6,.int .i64 0,.int .i64 0,.int .i64 0,.slice none 0 0,.string ⟨#[]⟩,.int .i64 0,.int .i64 (-1),.int .i64 ps] 66) w1.heap.size).aj (.cells #[.slice none 0 0] 161) (w1.heap.size+1))
 have x2:=h2.cell 2 rfl 0 rfl;have H2:=qh h2;clear df h2;go_wp2_with fail;refine cP (H2.o.at 1 rfl) ⟨#[40]⟩ (λw3 hm h3=>?_) (λe w3 hm h3=>?_);rotate_left
 ·have rV:Hq (cF ad T S ps st=.error e):=by show _= _;rw[cF,aQ hm]
  have H3:=qh (h3.unpack (i:=0) rfl);clear hm h3;go_wp2_with fail;exact⟨rfl,aB.o _ _ rV.o (H3.o.pick [0])⟩
 have rV:Hq (∀r,(Ty.ar (Ty.list ad [41] (λl=>Ty.gE ad T (l.map Prod.fst)) (ad.length+1) []) λl=>Ty.ar (Ty.written ad T) λt=>Ty.ar (ef ad S) λa=>Ty.addNode {Ty.af 6 ps with list:=l.map Prod.snd,ty:=t,a:=a}) {st with pos:=st.pos+1}=r→cF ad T S ps st=r):=λr h=>by rw[cF,aw hm];exact h
 have h4:=(h3.sj).nil 3 1;have x3:=h4.cell 2 rfl 0 rfl;have h5:Sat w0 w3 [ah [Fr,aX pb d ad {st with pos:=st.pos+1},ay w1.heap.size (rh 6 0 ps (.slice none 0 0)),eZ (.slice none 0 0) [],pL pb w.heap.size],ay (w1.heap.size+1) (.cells #[.slice none 0 0] 161 (0,0))]:=(Sat.pack (L:=[_]) (M:=[_,_,_,_,_]) (h4.pick [4,0,1,3,5,2])).pick [1,0];have h6:Sat w0 w3 [Fr,aX pb d ad {st with pos:=st.pos+1},ay w1.heap.size (rh 6 0 ps (.slice none 0 0)),eZ (.slice none 0 0) [],pL pb w.heap.size,Ht (w1.heap.size+1) []]:=((En (A:=ah [Fr,aX pb d ad {st with pos:=st.pos+1},ay w1.heap.size (rh 6 0 ps (.slice none 0 0)),eZ (.slice none 0 0) [],pL pb w.heap.size]) (B:=λ_=>True) ((h5.hZ (P:=λ_=>True) (λ_=>trivial)).pick [0,2,1])).unpack (i:=0) rfl).pick [2,3,4,5,6,1];have H6:=qh h6;clear hm h3 h4 h5 h6 x2;go_wp2_with fail;refine nG w0 _ Fr pb d ad _ (L2 pb w1.heap.size w.heap.size (w1.heap.size+1) 6 0 ps) (Sat.yh (l:=[]) rfl rfl H6.o) ⟨#[41]⟩ 356 _ Tryz.call356 (λl=>Ty.gE ad T (l.map Prod.fst)) (λ_=>pG HL.o.at' _) (λl s w1 h hl R aF av=>G6 w0 w1 Fr pb _ _ _ d ad (Ty.gE ad T) (Fj HL.o) 6 0 ps l s h hl aF av) (λl s4 w4 hm T' h7=>?_) (λe w4 hm h7=>?_);rotate_left
 ·have fZ:Hq (cF ad T S ps st=.error e):=rV.o _ (by rw[aQ hm]);have H7:=qh h7;clear hm h7;go_wp2_with fail;exact⟨rfl,aB.o _ _ fZ.o H7.o⟩
 have pz:=gA (λl=>pG HL.o.at' (l.map Prod.fst)) _ _ _ _ _ hm;dsimp only at pz;have fZ:Hq (∀r,(Ty.ar (Ty.written ad T) λt=>Ty.ar (ef ad S) λa=>Ty.addNode {Ty.af 6 ps with list:=l.map Prod.snd,ty:=t,a:=a}) s4=r→cF ad T S ps st=r):=λr h=>rV.o r (by rw[aw hm];exact h)
 obtain⟨v,h8⟩:=h7.xB;have Zs: (l.map Prod.snd).length≤1001:=by have:=(h8.pick [0,1]).look.fits.1;rw[List.length_map];omega
 generalize l.map Prod.snd=ns at*
 obtain⟨va,vc,rfl⟩:=ag (h8.row 3 rfl);have x8:=h8.cell 4 rfl 0 rfl;have H8:=qh h8;clear hm h7 h8 x3;go_wp2_with fail;refine nI HL.o (H8.o.at 1 rfl) (λt s5 w5 hm h9=>?_) (λe w5 hm h9=>?_);rotate_left
 ·have jB:Hq (cF ad T S ps st=.error e):=fZ.o _ (by rw[aQ hm]);have H9:=qh (h9.unpack (i:=0) rfl);clear hm h9;go_wp2_with fail;exact⟨rfl,aB.o _ _ jB.o (H9.o.pick [0])⟩
 have TK:=iq HL.o.at' _ _ _ hm;have jB:Hq (∀r,(Ty.ar (ef ad S) λa=>Ty.addNode {Ty.af 6 ps with list:=ns,ty:=t,a:=a}) s5=r→cF ad T S ps st=r):=λr h=>fZ.o r (by rw[aw hm];exact h)
 have dS:=h9.Y6;have y7:=dS.cell 2 rfl 7 rfl;have f7:=dS.free 2 rfl;have abi:=dS.lt 2 rfl;have ln:=dS.store 2 rfl 7 (.int .i64 t);have abA:=ln.cell 4 rfl 0 rfl;have LC:=qh ln;clear hm h9 dS ln x8;go_wp2_with fail;refine oA HL.o _ _ _ pb _ (LC.o.at 1 rfl) _ (λa s6 w6 hm jj=>?_) (λe w6 hm jj=>?_);rotate_left
 ·have sN:Hq (cF ad T S ps st=.error e):=jB.o _ (by rw[aQ hm]);have vg:=qh (jj.unpack (i:=0) rfl);clear hm jj;go_wp2_with fail;exact⟨rfl,aB.o _ _ sN.o (vg.o.pick [0])⟩
 have RL:=hU HL.o.O2 _ _ _ hm;have sN:Hq (cF ad T S ps st=.ok (s6.ns.length,{s6 with ns:=s6.ns++[{Ty.af 6 ps with list:=ns,ty:=t,a:=a}]})):=jB.o _ (by rw[aw hm];rfl);have oP:=jj.Y6;have y1:=oP.cell 2 rfl 1 rfl;have f1:=oP.free 2 rfl;have Hz:=oP.lt 2 rfl;have q0:=oP.cell 2 rfl 0 rfl;have q2:=oP.cell 2 rfl 2 rfl;have q3:=oP.cell 2 rfl 3 rfl;have q4:=oP.cell 2 rfl 4 rfl;have q5:=oP.cell 2 rfl 5 rfl;have q6:=oP.cell 2 rfl 6 rfl;have q7:=oP.cell 2 rfl 7 rfl;have q8:=oP.cell 2 rfl 8 rfl;have yp:=oP.store 2 rfl 1 (.int .i64 (a:Nat));have adq:=yp.cell 4 rfl 0 rfl;have acE:=qh yp;clear hm jj oP yp abA y7 f7 abi;go_wp2_with fail;refine cd {Ty.af 6 ps with list:=ns,ty:=t,a:=a} (.slice va ns.length vc) (acE.o.EG) (by omega) (λw7 Uv=>?_);have aaS:=qh ((Uv.unpack (i:=0) rfl).pick [1,0]);clear Uv;go_wp2_with fail;exact aY.o _ _ _ sN.o aaS.o
namespace Ty
def SE(ad:List Tok.Tk)(E:M Nat):M Nat:=ar (need ad [40]) λ_=>ar E λa=>ar (need ad [41]) λ_=>ret a
def Ss(ad:List Tok.Tk)(E:M Nat)(tp:Nat):M Nat:=ar (list ad [125] (λl=>ia ad E (l.map Prod.fst)) (ad.length+1) []) λl=>addNode {af 10 tp with list:=l.map Prod.snd}
def To(ad:List Tok.Tk)(E:M Nat)(tp:Nat):M Nat:=ar (list ad [93] (λ_=>E) (ad.length+1) []) λl=>addNode {af 11 tp with list:=l}
def BD(ad:List Tok.Tk)(T E S:M Nat)(tp:Nat):M Nat:=
 ar (take ad [116,114,117,101]) λb=>if b then addNode {af 3 tp with n:=1}else
 ar (take ad [102,97,108,115,101]) λb=>if b then addNode (af 3 tp)else
 ar (take ad [110,117,108,108]) λb=>if b then addNode (af 4 tp)else
 ar (take ad [102,110]) λb=>if b then cF ad T S tp else
 ar (take ad [91]) λb=>if b then To ad E tp else
 ar (take ad [123]) λb=>if b then Ss ad E tp else SE ad E
def WR(ad:List Tok.Tk)(T E S:M Nat)(kd:Nat)(tx:BA)(tp:Nat):M Nat:=
 if kd=3 then ar step λ_=>addNode {af 1 tp with n:=value tx}else
 if kd=4 then ar step λ_=>addNode {af 2 tp with text:=tx}else
 if kd=1 then ar step λ_=>addNode {af 5 tp with text:=tx}else BD ad T E S tp
theorem DC(ad:List Tok.Tk)(T E S:M Nat)(st:St):cM ad T E S st=WR ad T E S (cur ad st.pos).kind (cur ad st.pos).text (cur ad st.pos).pos st:=rfl
section
variable {ad:List Tok.Tk} {T E S:M Nat} {tp:Nat} {s s1:St}
theorem WN(h:take ad [116,114,117,101] s=.ok (true,s1)):BD ad T E S tp s=addNode {af 3 tp with n:=1} s1:=by
 unfold BD;show ar _ _ s= _;rw[aw h];rfl
theorem Wh(h0:take ad [116,114,117,101] s=.ok (false,s))(h:take ad [102,97,108,115,101] s=.ok (true,s1)):BD ad T E S tp s=addNode (af 3 tp) s1:=by
 unfold BD;show ar _ _ s= _;rw[aw h0];show ar _ _ s= _;rw[aw h];rfl
theorem U7(h0:take ad [116,114,117,101] s=.ok (false,s))(h1:take ad [102,97,108,115,101] s=.ok (false,s))(h:take ad [110,117,108,108] s=.ok (true,s1)):BD ad T E S tp s=addNode (af 4 tp) s1:=by
 unfold BD;show ar _ _ s= _;rw[aw h0];show ar _ _ s= _;rw[aw h1];show ar _ _ s= _;rw[aw h];rfl
theorem W7(h0:take ad [116,114,117,101] s=.ok (false,s))(h1:take ad [102,97,108,115,101] s=.ok (false,s))(h2:take ad [110,117,108,108] s=.ok (false,s))(h:take ad [102,110] s=.ok (true,s1)):BD ad T E S tp s=cF ad T S tp s1:=by
 unfold BD;show ar _ _ s= _;rw[aw h0];show ar _ _ s= _;rw[aw h1];show ar _ _ s= _;rw[aw h2];show ar _ _ s= _;rw[aw h];rfl
theorem XG(h0:take ad [116,114,117,101] s=.ok (false,s))(h1:take ad [102,97,108,115,101] s=.ok (false,s))(h2:take ad [110,117,108,108] s=.ok (false,s))(h3:take ad [102,110] s=.ok (false,s))(h:take ad [91] s=.ok (true,s1)):BD ad T E S tp s=To ad E tp s1:=by
 unfold BD;show ar _ _ s= _;rw[aw h0];show ar _ _ s= _;rw[aw h1];show ar _ _ s= _;rw[aw h2];show ar _ _ s= _;rw[aw h3];show ar _ _ s= _;rw[aw h];rfl
theorem VN(h0:take ad [116,114,117,101] s=.ok (false,s))(h1:take ad [102,97,108,115,101] s=.ok (false,s))(h2:take ad [110,117,108,108] s=.ok (false,s))(h3:take ad [102,110] s=.ok (false,s))(h4:take ad [91] s=.ok (false,s))(h:take ad [123] s=.ok (true,s1)):BD ad T E S tp s=Ss ad E tp s1:=by
 unfold BD;show ar _ _ s= _;rw[aw h0];show ar _ _ s= _;rw[aw h1];show ar _ _ s= _;rw[aw h2];show ar _ _ s= _;rw[aw h3];show ar _ _ s= _;rw[aw h4];show ar _ _ s= _;rw[aw h];rfl
theorem VT(h0:take ad [116,114,117,101] s=.ok (false,s))(h1:take ad [102,97,108,115,101] s=.ok (false,s))(h2:take ad [110,117,108,108] s=.ok (false,s))(h3:take ad [102,110] s=.ok (false,s))(h4:take ad [91] s=.ok (false,s))(h5:take ad [123] s=.ok (false,s)):BD ad T E S tp s=SE ad E s:=by
 unfold BD;show ar _ _ s= _;rw[aw h0];show ar _ _ s= _;rw[aw h1];show ar _ _ s= _;rw[aw h2];show ar _ _ s= _;rw[aw h3];show ar _ _ s= _;rw[aw h4];show ar _ _ s= _;rw[aw h5];rfl
end
end Ty
theorem Hd{kd:Nat}(h3:kd≠3)(h4:kd≠4)(h1:kd≠1)(ad:List Tok.Tk)(T E S:Ty.M Nat)(tx:BA)(tp:Nat):WR ad T E S kd tx tp=BD ad T E S tp:=by
 unfold WR;rw[if_neg h3,if_neg h4,if_neg h1]
theorem BM{ad:List Tok.Tk}{d:Nat}{T E O S:Ty.M Nat}(L:Lo ad d T E O S)(mf:C9 ad):eB 336 ad d (cM ad T E S):=by
 intro w0 w Fr pb st H R aF av;have aY:=qh aF;have aB:=qh av;have HL:=qh L;have bD:=H.look;have jK:=bD.wf.1;have fs:=bD.fits.1;have oY:=bD.fits.2.2.2;have bm:=λh1: (Ty.cur ad st.pos).kind≠6=>mC bD.fits.1 bD.wf h1
 have sL:=mf (Ty.cur ad st.pos) (by rw[yO ad _ fs];exact gM _);have h1:Sat w0 _ [Fr,aX pb d ad st,pL pb w.heap.size]:=H.aj (.cells #[.pointer (some ⟨pb,0,none⟩)] 80) w.heap.size;have H1:=qh h1;have HN:=qh (λR hR=>@gN _ pb d ad st (h1.pick [0,1]).look R hR);have xF:=qh (DC ad T E S st);generalize Ty.cur ad st.pos=t at*
 obtain⟨kd,tx,tp⟩:=t;dsimp only at bm sL xF;clear aF av H L bD h1 mf;go_enter func336,ntmps336;go_wp2_with fail;refine HN.o _ (λw1 df=>?_);dsimp only[cr];have h2:=(H1.o.below df).aj (.cells #[.int .i64 kd,.string tx,.int .i64 tp] 138) w1.heap.size;have x2:=h2.cell 3 rfl 2 rfl;have H2:=qh h2;clear df h2;go_wp2_with fail;refine kn _ 0 tp (λw2 aI=>?_);have O8:=H2.o.below aI;have xw:=O8.cell 2 rfl 0 rfl;have adR:=O8.cell 3 rfl 1 rfl;have Cf:=O8.lt 3 rfl;have PN:=O8.lt 2 rfl;have HW:=qh O8;have h3:=O8.aj (.cells #[.int .i64 0,.int .i64 0,.int .i64 0,.int .i64 0,.slice none 0 0,.string ⟨#[]⟩,.int .i64 0,.int .i64 (-1),.int .i64 tp] 66) w2.heap.size;have t0:=h3.cell 3 rfl 0 rfl;have t1:=h3.cell 3 rfl 1 rfl;have xx:=h3.cell 2 rfl 0 rfl;have fz:=h3.free 4 rfl;have hz:=h3.lt 4 rfl;have ads:=h3.ne 2 3 (by decide) rfl rfl;have ade:=h3.ne 2 4 (by decide) rfl rfl;have adF:=h3.ne 3 4 (by decide) rfl rfl;have H3:=qh h3;clear aI O8 h3 x2;by_cases OE:kd=3
 ·subst OE;have jE:=bm (by decide);have hn:=sL rfl;have vE:tx.size≤18:=by have:=hn.size;omega
  have aas:=qh (λw=>Tryz.strconv_Atoi tx (Ty.value tx:Nat) vE (Cv hn) w);have HE:Hq (cM ad T E S st=.ok (st.ns.length,{st with pos:=st.pos+1,ns:=st.ns++[{Ty.af 1 tp with n:=Ty.value tx}]})):=xF.o;have h4:=HW.o.aj (.cells #[.int .i64 1,.int .i64 0,.int .i64 0,.int .i64 0,.slice none 0 0,.string ⟨#[]⟩,.int .i64 0,.int .i64 (-1),.int .i64 tp] 66) w2.heap.size;have acB:=h4.cell 3 rfl 1 rfl;generalize Ty.value tx=vl at*
  have H4:=qh h4;clear bm sL hn h4 vE;go_wp2_with fail;refine(aas.o _).mono ?_
  rintro e w3 ⟨rfl,tt,Yi⟩
  have h5:=H4.o.below (w':=w3) (by rw[Yi];exact Joins.below_bytesWorld _ _ _ _ (nR _));clear Yi;have y6:=h5.cell 4 rfl 6 rfl;have ado:=h5.free 4 rfl;have aaw:=h5.lt 4 rfl;have h6:=h5.store 4 rfl 6 (.int .i64 (vl:Nat));have YB:=h6.cell 2 rfl 0 rfl;obtain⟨c1,_,f0⟩:=(h6.pick [0,1]).look.cells;have jS:=(h6.pick [0,1]).look.lt;have h7:=((h6.at 1 rfl).setPos (st.pos+1) jE (by omega)).sj;rw[show((st.pos+1:Nat):Int)=(st.pos:Int)+1 from rfl]at h7
  have ZI:=h7.cell 2 rfl 0 rfl;have q0:=h7.cell 4 rfl 0 rfl;have q1:=h7.cell 4 rfl 1 rfl;have q2:=h7.cell 4 rfl 2 rfl;have q3:=h7.cell 4 rfl 3 rfl;have q4:=h7.cell 4 rfl 4 rfl;have q5:=h7.cell 4 rfl 5 rfl;have q6:=h7.cell 4 rfl 6 rfl;have q7:=h7.cell 4 rfl 7 rfl;have q8:=h7.cell 4 rfl 8 rfl;have H7:=qh (h7.nil 3 1);clear h5 h6 h7 t0 t1 acB xx fz hz;go_wp2_with fail;refine cd {Ty.af 1 tp with n:=vl} (.slice none 0 0) H7.o.kR (by dsimp only;omega) (λw7 h8=>?_);have H8:=qh ((h8.unpack (i:=0) rfl).pick [1,0]);clear h8;go_wp2_with fail;exact aY.o _ _ _ HE.o H8.o
 by_cases Rl:kd=4
 ·subst Rl;have jE:=bm (by decide);have HE:Hq (cM ad T E S st=.ok (st.ns.length,{st with pos:=st.pos+1,ns:=st.ns++[{Ty.af 2 tp with text:=tx}]})):=xF.o;clear bm sL;go_wp2_with fail
  go_region
  all_goals
   have h5:=HW.o.aj (.cells #[.int .i64 2,.int .i64 0,.int .i64 0,.int .i64 0,.slice none 0 0,.string tx,.int .i64 0,.int .i64 (-1),.int .i64 tp] 66) w2.heap.size;have h6:=h5;have YB:=h6.cell 2 rfl 0 rfl;obtain⟨c1,_,f0⟩:=(h6.pick [0,1]).look.cells;have jS:=(h6.pick [0,1]).look.lt;have h7:=((h6.at 1 rfl).setPos (st.pos+1) jE (by omega)).sj;rw[show((st.pos+1:Nat):Int)=(st.pos:Int)+1 from rfl]at h7
   have ZI:=h7.cell 2 rfl 0 rfl;have q0:=h7.cell 4 rfl 0 rfl;have q1:=h7.cell 4 rfl 1 rfl;have q2:=h7.cell 4 rfl 2 rfl;have q3:=h7.cell 4 rfl 3 rfl;have q4:=h7.cell 4 rfl 4 rfl;have q5:=h7.cell 4 rfl 5 rfl;have q6:=h7.cell 4 rfl 6 rfl;have q7:=h7.cell 4 rfl 7 rfl;have q8:=h7.cell 4 rfl 8 rfl;have H7:=qh (h7.drew.nil 3 1);clear h5 h6 h7 t0 t1 xx fz hz;go_wp2_with fail;refine cd {Ty.af 2 tp with text:=tx} (.slice none 0 0) H7.o.kR (by dsimp only;omega) (λw7 h8=>?_);have H8:=qh ((h8.unpack (i:=0) rfl).pick [1,0]);clear h8;go_wp2_with fail;exact aY.o _ _ _ HE.o H8.o
 by_cases Fx:kd=1
 ·subst Fx;have jE:=bm (by decide);have HE:Hq (cM ad T E S st=.ok (st.ns.length,{st with pos:=st.pos+1,ns:=st.ns++[{Ty.af 5 tp with text:=tx}]})):=xF.o;clear bm sL;go_wp2_with fail
  go_region
  all_goals
   have h5:=HW.o.aj (.cells #[.int .i64 5,.int .i64 0,.int .i64 0,.int .i64 0,.slice none 0 0,.string tx,.int .i64 0,.int .i64 (-1),.int .i64 tp] 66) w2.heap.size;have h6:=h5;have YB:=h6.cell 2 rfl 0 rfl;obtain⟨c1,_,f0⟩:=(h6.pick [0,1]).look.cells;have jS:=(h6.pick [0,1]).look.lt;have h7:=((h6.at 1 rfl).setPos (st.pos+1) jE (by omega)).sj;rw[show((st.pos+1:Nat):Int)=(st.pos:Int)+1 from rfl]at h7
   have ZI:=h7.cell 2 rfl 0 rfl;have q0:=h7.cell 4 rfl 0 rfl;have q1:=h7.cell 4 rfl 1 rfl;have q2:=h7.cell 4 rfl 2 rfl;have q3:=h7.cell 4 rfl 3 rfl;have q4:=h7.cell 4 rfl 4 rfl;have q5:=h7.cell 4 rfl 5 rfl;have q6:=h7.cell 4 rfl 6 rfl;have q7:=h7.cell 4 rfl 7 rfl;have q8:=h7.cell 4 rfl 8 rfl;have H7:=qh (h7.drew.nil 3 1);clear h5 h6 h7 t0 t1 xx fz hz;go_wp2_with fail;refine cd {Ty.af 5 tp with text:=tx} (.slice none 0 0) H7.o.kR (by dsimp only;omega) (λw7 h8=>?_);have H8:=qh ((h8.unpack (i:=0) rfl).pick [1,0]);clear h8;go_wp2_with fail;exact aY.o _ _ _ HE.o H8.o
 have k3: ((kd:Int)==3)=false:=beq_eq_false_iff_ne.2 (by omega);have k4: ((kd:Int)==4)=false:=beq_eq_false_iff_ne.2 (by omega);have k1: ((kd:Int)==1)=false:=beq_eq_false_iff_ne.2 (by omega);rw[Hd OE Rl Fx]at xF
 clear sL bm OE Rl Fx;go_wp2_with fail;refine cD (H3.o.at 1 rfl) ⟨#[116,114,117,101]⟩ (λwa hi ha=>?_) (λvQ hi ha=>?_)
 ·have h4:=ha.sj;have S7:=h4.free 4 rfl;have OW:=h4.lt 4 rfl;have QN:=h4.cell 2 rfl 0 rfl;have y0:=h4.cell 4 rfl 0 rfl;have y6:=h4.cell 4 rfl 6 rfl;have h5:=((h4.store 4 rfl 0 (.int .i64 3)).store 4 rfl 6 (.int .i64 1))
  have Sy:=h5.cell 2 rfl 0 rfl;have q0:=h5.cell 4 rfl 0 rfl;have q1:=h5.cell 4 rfl 1 rfl;have q2:=h5.cell 4 rfl 2 rfl;have q3:=h5.cell 4 rfl 3 rfl;have q4:=h5.cell 4 rfl 4 rfl;have q5:=h5.cell 4 rfl 5 rfl;have q6:=h5.cell 4 rfl 6 rfl;have q7:=h5.cell 4 rfl 7 rfl;have q8:=h5.cell 4 rfl 8 rfl;have HE:Hq (cM ad T E S st=.ok (st.ns.length,{st with pos:=st.pos+1,ns:=st.ns++[{Ty.af 3 tp with n:=1}]})):=xF.o.trans (WN hi);have H5:=qh (h5.nil 3 1);clear hi ha h4 h5 xx t0 t1 fz hz;go_wp2_with fail;refine cd {Ty.af 3 tp with n:=1} (.slice none 0 0) H5.o.kR (by dsimp only;omega) (λw7 h8=>?_);have H8:=qh ((h8.unpack (i:=0) rfl).pick [1,0]);clear h8;go_wp2_with fail;exact aY.o _ _ _ HE.o H8.o
 have N3:=qh hi;have h4:=ha.sj;have xx:=h4.cell 2 rfl 0 rfl;have fz:=h4.free 4 rfl;have hz:=h4.lt 4 rfl;have Ql:=qh h4;clear hi ha h4;go_wp2_with fail;refine cD (Ql.o.at 1 rfl) ⟨#[102,97,108,115,101]⟩ (λwa hi ha=>?_) (λUH hi ha=>?_)
 ·have h4:=ha.sj;have S7:=h4.free 4 rfl;have OW:=h4.lt 4 rfl;have QN:=h4.cell 2 rfl 0 rfl;have y0:=h4.cell 4 rfl 0 rfl;have h5:=(h4.store 4 rfl 0 (.int .i64 3))
  have Sy:=h5.cell 2 rfl 0 rfl;have q0:=h5.cell 4 rfl 0 rfl;have q1:=h5.cell 4 rfl 1 rfl;have q2:=h5.cell 4 rfl 2 rfl;have q3:=h5.cell 4 rfl 3 rfl;have q4:=h5.cell 4 rfl 4 rfl;have q5:=h5.cell 4 rfl 5 rfl;have q6:=h5.cell 4 rfl 6 rfl;have q7:=h5.cell 4 rfl 7 rfl;have q8:=h5.cell 4 rfl 8 rfl;have HE:Hq (cM ad T E S st=.ok (st.ns.length,{st with pos:=st.pos+1,ns:=st.ns++[Ty.af 3 tp]})):=xF.o.trans (Wh N3.o hi);have H5:=qh (h5.nil 3 1);clear hi ha h4 h5 xx t0 t1 fz hz;go_wp2_with fail;refine cd (Ty.af 3 tp) (.slice none 0 0) H5.o.kR (by dsimp only;omega) (λw7 h8=>?_);have H8:=qh ((h8.unpack (i:=0) rfl).pick [1,0]);clear h8;go_wp2_with fail;exact aY.o _ _ _ HE.o H8.o
 have OY:=qh hi;have h4:=ha.sj;have xx:=h4.cell 2 rfl 0 rfl;have fz:=h4.free 4 rfl;have hz:=h4.lt 4 rfl;have ZZ:=qh h4;clear hi ha h4;go_wp2_with fail;refine cD (ZZ.o.at 1 rfl) ⟨#[110,117,108,108]⟩ (λwa hi ha=>?_) (λQx hi ha=>?_)
 ·have h4:=ha.sj;have S7:=h4.free 4 rfl;have OW:=h4.lt 4 rfl;have QN:=h4.cell 2 rfl 0 rfl;have y0:=h4.cell 4 rfl 0 rfl;have h5:=(h4.store 4 rfl 0 (.int .i64 4))
  have Sy:=h5.cell 2 rfl 0 rfl;have q0:=h5.cell 4 rfl 0 rfl;have q1:=h5.cell 4 rfl 1 rfl;have q2:=h5.cell 4 rfl 2 rfl;have q3:=h5.cell 4 rfl 3 rfl;have q4:=h5.cell 4 rfl 4 rfl;have q5:=h5.cell 4 rfl 5 rfl;have q6:=h5.cell 4 rfl 6 rfl;have q7:=h5.cell 4 rfl 7 rfl;have q8:=h5.cell 4 rfl 8 rfl;have HE:Hq (cM ad T E S st=.ok (st.ns.length,{st with pos:=st.pos+1,ns:=st.ns++[Ty.af 4 tp]})):=xF.o.trans (U7 N3.o OY.o hi);have H5:=qh (h5.nil 3 1);clear hi ha h4 h5 xx t0 t1 fz hz;go_wp2_with fail;refine cd (Ty.af 4 tp) (.slice none 0 0) H5.o.kR (by dsimp only;omega) (λw7 h8=>?_);have H8:=qh ((h8.unpack (i:=0) rfl).pick [1,0]);clear h8;go_wp2_with fail;exact aY.o _ _ _ HE.o H8.o
 have Kf:=qh hi;have h4:=ha.sj;have xx:=h4.cell 2 rfl 0 rfl;have fz:=h4.free 4 rfl;have hz:=h4.lt 4 rfl;have aaK:=qh h4;clear hi ha h4;go_wp2_with fail;refine cD (aaK.o.at 1 rfl) ⟨#[102,110]⟩ (λwa hi ha=>?_) (λaaG hi ha=>?_)
 ·have h4:=ha.sj;have S7:=h4.free 4 rfl;have OW:=h4.lt 4 rfl;have QN:=h4.cell 2 rfl 0 rfl;have t2:=h4.cell 3 rfl 2 rfl;have HE:=qh (xF.o.trans (W7 N3.o OY.o Kf.o hi));have H4:=qh h4;clear hi ha h4 xx t0 t1 fz hz;go_wp2_with fail;refine xI HL.o (H4.o.at 1 rfl) tp (by dsimp only;omega) (λn s5 w5 hm h5=>?_) (λe w5 hm h5=>?_)
  ·have HM:=qh hm;have H5:=qh h5.sj;clear hm h5;go_wp2_with fail;exact aY.o _ _ _ (HE.o.trans HM.o) (H5.o.pick [0,1])
  ·have HM:=qh hm;have H5:=qh (h5.unpack (i:=0) rfl);clear hm h5;go_wp2_with fail;exact⟨rfl,aB.o _ _ (HE.o.trans HM.o) (H5.o.pick [0])⟩
 have Ro:=qh hi;have h4:=ha.sj;have xx:=h4.cell 2 rfl 0 rfl;have fz:=h4.free 4 rfl;have hz:=h4.lt 4 rfl;have abu:=qh h4;clear hi ha h4;go_wp2_with fail;refine cD (abu.o.at 1 rfl) ⟨#[91]⟩ (λwa hi ha=>?_) (λacZ hi ha=>?_)
 ·have h4:=ha.sj;have S7:=h4.free 4 rfl;have OW:=h4.lt 4 rfl;have QN:=h4.cell 2 rfl 0 rfl;have y0:=h4.cell 4 rfl 0 rfl;have h5:=h4.store 4 rfl 0 (.int .i64 11);have Sy:=h5.cell 2 rfl 0 rfl;have HE:Hq (cM ad T E S st=To ad E tp {st with pos:=st.pos+1}):=xF.o.trans (XG N3.o OY.o Kf.o Ro.o hi);have h6:Sat w0 _ [Fr,ay w1.heap.size (.cells #[.int .i64 kd,.string tx,.int .i64 tp] 138 (0,0)),aX pb d ad {st with pos:=st.pos+1},LI pb w2.heap.size w.heap.size 11 0 tp []]:=(Sat.pack (L:=[_,_,_]) (M:=[_,_,_]) ((h5.nil 3 1).pick [0,3,1,4,5,2])).cG (i:=3) rfl (λ_ h=>⟨_,h⟩);have h7:Sat w0 _ [ah [Fr,ay w1.heap.size (.cells #[.int .i64 kd,.string tx,.int .i64 tp] 138 (0,0))],aX pb d ad {st with pos:=st.pos+1},LI pb w2.heap.size w.heap.size 11 0 tp []]:=(Sat.pack (L:=[_,_]) (M:=[_,_]) (h6.pick [2,3,0,1])).pick [2,0,1];have H7:=qh h7;clear hi ha h4 h5 h6 h7 xx t0 t1 fz hz;go_wp2_with fail;refine nG w0 _ _ pb d ad _ (LI pb w2.heap.size w.heap.size 11 0 tp) H7.o ⟨#[93]⟩ 347 _ Tryz.call347 (λ_=>E) (λ_=>HL.o.ae) (λl s w1 h hl R aF av=>zn w0 w1 _ pb _ _ d ad E HL.o.e 11 0 tp l s h hl aF av) (λl s4 w4 hm T' h8=>?_) (λe w4 hm h8=>?_)
  ·have pz:=gA (λ_=>HL.o.ae) _ _ _ _ _ hm;dsimp only at pz;obtain⟨v,h9⟩:=h8.yr;obtain⟨va,vc,rfl⟩:=ag (h9.row 3 rfl);have q0:=h9.cell 2 rfl 0 rfl;have q1:=h9.cell 2 rfl 1 rfl;have q2:=h9.cell 2 rfl 2 rfl;have q3:=h9.cell 2 rfl 3 rfl;have q4:=h9.cell 2 rfl 4 rfl;have q5:=h9.cell 2 rfl 5 rfl;have q6:=h9.cell 2 rfl 6 rfl;have q7:=h9.cell 2 rfl 7 rfl;have q8:=h9.cell 2 rfl 8 rfl;have aap:=h9.cell 4 rfl 0 rfl;have fZ:Hq (cM ad T E S st=.ok (s4.ns.length,{s4 with ns:=s4.ns++[{Ty.af 11 tp with list:=l}]})):=HE.o.trans (by rw[To,aw hm];rfl);have H9:=qh h9;clear hm h8 h9;go_wp2_with fail;refine cd {Ty.af 11 tp with list:=l} (.slice va l.length vc) ((H9.o.pick [0,1,4,2,3]).rE) (by omega) (λw5 dS=>?_);have sr:=qh ((((dS.uv).unpack (i:=0) rfl)).pick [2,0]);clear dS;go_wp2_with fail;exact aY.o _ _ _ fZ.o sr.o
  ·have fZ:Hq (cM ad T E S st=.error e):=HE.o.trans (by rw[To,aQ hm]);have H8:=qh (h8.unpack (i:=0) rfl);clear hm h8;go_wp2_with fail;exact⟨rfl,aB.o _ _ fZ.o (H8.o.pick [0])⟩
 have Yw:=qh hi;have h4:=ha.sj;have xx:=h4.cell 2 rfl 0 rfl;have fz:=h4.free 4 rfl;have hz:=h4.lt 4 rfl;have acx:=qh h4;clear hi ha h4;go_wp2_with fail;refine cD (acx.o.at 1 rfl) ⟨#[123]⟩ (λwa hi ha=>?_) (λadI hi ha=>?_)
 ·have h4:=ha.sj;have S7:=h4.free 4 rfl;have OW:=h4.lt 4 rfl;have QN:=h4.cell 2 rfl 0 rfl;have y0:=h4.cell 4 rfl 0 rfl;have h5:=(h4.store 4 rfl 0 (.int .i64 10)).aj (.cells #[.slice none 0 0] 161) wa.heap.size;have Sy:=h5.cell 2 rfl 0 rfl;have HE:Hq (cM ad T E S st=Ss ad E tp {st with pos:=st.pos+1}):=xF.o.trans (VN N3.o OY.o Kf.o Ro.o Yw.o hi);have h6:=(Sat.pack (L:=[_]) (M:=[_,_,_,_,_,_]) ((h5.nil 3 1).pick [5,0,1,4,6,2,3])).pick [1,0];have h7:Sat w0 _ [Fr,aX pb d ad {st with pos:=st.pos+1},ay w2.heap.size (rh 10 0 tp (.slice none 0 0)),eZ (.slice none 0 0) [],pL pb w.heap.size,ay w1.heap.size (.cells #[.int .i64 kd,.string tx,.int .i64 tp] 138 (0,0)),Ht wa.heap.size []]:=((En (B:=λ_=>True) ((h6.hZ (P:=λ_=>True) (λ_=>trivial)).pick [0,2,1])).unpack (i:=0) rfl).pick [2,3,4,5,6,7,1];have h8:Sat w0 _ [ah [Fr,ay w1.heap.size (.cells #[.int .i64 kd,.string tx,.int .i64 tp] 138 (0,0))],aX pb d ad {st with pos:=st.pos+1},L2 pb w2.heap.size w.heap.size wa.heap.size 10 0 tp []]:=Sat.yh (l:=[]) rfl rfl ((Sat.pack (L:=[_,_,_,_,_]) (M:=[_,_]) (h7.pick [1,2,3,4,6,0,5])).pick [5,0,1,2,3,4]);have H8:=qh h8;clear hi ha h4 h5 h6 h7 h8 xx t0 t1 fz hz;go_wp2_with fail;refine nG w0 _ _ pb d ad _ (L2 pb w2.heap.size w.heap.size wa.heap.size 10 0 tp) H8.o ⟨#[125]⟩ 348 _ Tryz.call348 (λl=>Ty.ia ad E (l.map Prod.fst)) (λ_=>rf HL.o.ae _) (λl s w1 h hl R aF av=>K8 w0 w1 _ pb _ _ _ d ad (Ty.ia ad E) (Lf HL.o) 10 0 tp l s h hl aF av) (λl s4 w4 hm T' h9=>?_) (λe w4 hm h9=>?_)
  ·have pz:=gA (λl=>rf HL.o.ae (l.map Prod.fst)) _ _ _ _ _ hm;dsimp only at pz;obtain⟨v,dS⟩:=h9.xB;have fZ:Hq (cM ad T E S st=.ok (s4.ns.length,{s4 with ns:=s4.ns++[{Ty.af 10 tp with list:=l.map Prod.snd}]})):=HE.o.trans (by rw[Ss,aw hm];rfl);have Zs: (l.map Prod.snd).length≤1001:=by have:=(dS.pick [0,1]).look.fits.1;rw[List.length_map];omega
   generalize l.map Prod.snd=ns at*
   obtain⟨va,vc,rfl⟩:=ag (dS.row 3 rfl);have q0:=dS.cell 2 rfl 0 rfl;have q1:=dS.cell 2 rfl 1 rfl;have q2:=dS.cell 2 rfl 2 rfl;have q3:=dS.cell 2 rfl 3 rfl;have q4:=dS.cell 2 rfl 4 rfl;have q5:=dS.cell 2 rfl 5 rfl;have q6:=dS.cell 2 rfl 6 rfl;have q7:=dS.cell 2 rfl 7 rfl;have q8:=dS.cell 2 rfl 8 rfl;have aap:=dS.cell 4 rfl 0 rfl;have sr:=qh dS;clear hm h9 dS;go_wp2_with fail;refine cd {Ty.af 10 tp with list:=ns} (.slice va ns.length vc) (sr.o.EG) (by omega) (λw5 ln=>?_);have LC:=qh (((((ln.unpack (i:=0) rfl).pick [1,0])).unpack (i:=0) rfl).pick [1,0]);clear ln;go_wp2_with fail;exact aY.o _ _ _ fZ.o LC.o
  ·have fZ:Hq (cM ad T E S st=.error e):=HE.o.trans (by rw[Ss,aQ hm]);have H9:=qh (h9.unpack (i:=0) rfl);clear hm h9;go_wp2_with fail;exact⟨rfl,aB.o _ _ fZ.o (H9.o.pick [0])⟩
 have Z2:=qh hi;have h4:=ha.sj;have xx:=h4.cell 2 rfl 0 rfl;have fz:=h4.free 4 rfl;have hz:=h4.lt 4 rfl;have aay:=qh h4;clear hi ha h4;go_wp2_with fail;have HE:Hq (cM ad T E S st=SE ad E st):=xF.o.trans (VT N3.o OY.o Kf.o Ro.o Yw.o Z2.o);refine cP (aay.o.at 1 rfl) ⟨#[40]⟩ (λw3 hm h4=>?_) (λe w3 hm h4=>?_);rotate_left
 ·have fZ:Hq (cM ad T E S st=.error e):=HE.o.trans (by rw[SE,aQ hm]);have H4:=qh (h4.unpack (i:=0) rfl);clear hm h4;go_wp2_with fail;exact⟨rfl,aB.o _ _ fZ.o (H4.o.pick [0])⟩
 have fZ:Hq (cM ad T E S st=(Ty.ar E λa=>Ty.ar (Ty.need ad [41]) λ_=>Ty.ret a) {st with pos:=st.pos+1}):=HE.o.trans (by rw[SE,aw hm]);have h5:=h4.sj;have QN:=h5.cell 2 rfl 0 rfl;have H4:=qh h5;clear hm h4 h5 xx;go_wp2_with fail;refine HL.o.e _ _ _ pb _ (H4.o.at 1 rfl) _ (λn s5 w5 hm h5=>?_) (λe w5 hm h5=>?_);rotate_left
 ·have jB:Hq (cM ad T E S st=.error e):=fZ.o.trans (by rw[aQ hm]);have H5:=qh (h5.unpack (i:=0) rfl);clear hm h5;go_wp2_with fail;exact⟨rfl,aB.o _ _ jB.o (H5.o.pick [0])⟩
 have jB:Hq (cM ad T E S st=(Ty.ar (Ty.need ad [41]) λ_=>Ty.ret n) s5):=fZ.o.trans (by rw[aw hm]);have h6:=h5.sj;have Sy:=h6.cell 2 rfl 0 rfl;have H5:=qh h6;clear hm h5 h6 QN;go_wp2_with fail;refine cP (H5.o.at 1 rfl) ⟨#[41]⟩ (λw6 hm h6=>?_) (λe w6 hm h6=>?_)
 ·have sN:Hq (cM ad T E S st=.ok (n,{s5 with pos:=s5.pos+1})):=jB.o.trans (by rw[aw hm];rfl);have H6:=qh h6.sj;clear hm h6;go_wp2_with fail;exact aY.o _ _ _ sN.o (H6.o.pick [0,1])
 ·have sN:Hq (cM ad T E S st=.error e):=jB.o.trans (by rw[aQ hm]);have H6:=qh (h6.unpack (i:=0) rfl);clear hm h6;go_wp2_with fail;exact⟨rfl,aB.o _ _ sN.o (H6.o.pick [0])⟩
section
variable {w0 w:World} {Fr:As} {pb d:Nat} {ad:List Tok.Tk} {st:Ty.St}
theorem tD(H:Sat w0 w [Fr,aX pb d ad st])(F:FuncId)(c:Value)(hc:∀(args:Array Value)(w:World),(callFunc F args).run prog w=.ok (.enter F args) w)
  (m:Ty.M Nat)
  (yq:d<20→∀w1,Sat w0 w1 [Fr,aX pb (d+1) ad st]→∀R:EW,
   (∀n st2 w2,m st=.ok (n,st2)→Sat w0 w2 [Fr,aX pb (d+1) ad st2]→R (.returned (.int .i64 (n:Nat))) w2)→
   (∀f w2,m st=.error f→Sat w0 w2 [Fr]→R (.panicked (aJ f)) w2)→Calls prog F #[c] w1 R)
  {R:EW}
  (aF:∀n st2 w2,d<20→m st=.ok (n,st2)→Sat w0 w2 [Fr,aX pb d ad st2]→R (.returned (.int .i64 (n:Nat))) w2)
  (av:∀f w2,(d<20→m st=.error f)→(d=20→f=Ty.here ad 8 st.pos)→Sat w0 w2 [Fr]→R (.panicked (aJ f)) w2):
  Calls prog 130 #[.pointer (some ⟨pb,0,none⟩),.func (.func F) #[c] #[]] w R:=by
 have aY:=qh aF;have aB:=qh av;have Eb:=qh yq;have HS:=qh H;have bD:=H.look;have hd:=bD.fits.2.1;obtain⟨_,c2,f0⟩:=bD.cells;have HL:=qh bD;clear aF av yq H bD;by_cases N0:d=20
 ·have d1: ((d:Int)==20)=true:=by simp[N0]
  have HD:=qh N0;clear N0 hd;go_in;go_wp2_with fail;refine ml w pb d ad st HL.o 8 (λw1 df=>?_);have HB:=qh df;clear df;go_wp2_with fail;exact⟨rfl,aB.o _ _ (λh=>by have:=HD.o;omega) (λ_=>rfl) ((HS.o.below HB.o).pick [0])⟩
 ·have d1: ((d:Int)==20)=false:=by simp;omega
  have bm:d<20:=by omega
  clear N0;go_in;go_wp2_with fail;refine Eb.o bm _ (HS.o.tC (d+1) (by omega)) _ (λn st2 w2 hm h2=>?_) (λf w2 hm h2=>?_)
  ·obtain⟨_,Nv,abT⟩:=h2.look.cells;have H2:=qh h2;have HM:=qh hm;clear h2 hm;go_wp2_with fail;exact aY.o n st2 _ bm HM.o (H2.o.tC _ (by omega))
  ·have H2:=qh h2;have HM:=qh hm;clear h2 hm;go_wp2_with fail;exact⟨rfl,aB.o f w2 (λ_=>HM.o) (λh=>absurd h (by omega)) H2.o⟩
end
def preB:List BA:=[⟨#[33]⟩,⟨#[45]⟩,⟨#[116,121,112,101,111,102]⟩]
def Ea:Array Value:=#[.string ⟨#[33]⟩,.string ⟨#[45]⟩,.string ⟨#[116,121,112,101,111,102]⟩]
theorem MB{ad:List Tok.Tk}{x:List UInt8}{s s':Ty.St}(h:Ty.take ad x s=.ok (true,s')):Ty.is ad x s.pos=true:=by
 unfold Ty.take at h;split at h
 ·assumption
 ·cases h
theorem Ka{ad:List Tok.Tk}{x:List UInt8}{s s':Ty.St}(h:Ty.take ad x s=.ok (false,s')):Ty.is ad x s.pos=false:=by
 unfold Ty.take at h;split at h
 ·cases h
 ·simpa using‹¬Ty.is ad x s.pos=true›
theorem xU{ad:List Tok.Tk}{x:BA}{p:Nat}(h:Ty.is ad x.data.toList p=true): (Ty.cur ad p).text=x:=by
 unfold Ty.is at h;simp at h;apply ByteArray.ext;exact h.2
theorem IB{ad:List Tok.Tk}{d:Nat}{T E O S:Ty.M Nat}(L:Lo ad d T E O S)(mf:C9 ad):eB 319 ad d (pH ad T E O S):=by
 intro w0 w Fr pb st H R aF av;have aY:=qh aF;have aB:=qh av;have HL:=qh L;have bD:=H.look;have jK:=bD.wf.1;have fs:=bD.fits.1;have oY:=bD.fits.2.2.2;have HN:=qh (λR hR=>@gN _ pb d ad st bD R hR);have acG:=qh (BM L mf);have Wx:=qh (u5 L.pt L.ne L.ns.pre (ad:=ad));have M7:Hq (∀x∈preB,Ty.is ad x.data.toList st.pos=true→pH ad T E O S st=Ty.ar O (λa=>Ty.addNode {Ty.af 13 (Ty.cur ad st.pos).pos with text:=x,a:=a}) {st with pos:=st.pos+1}):=λx hx hi=>by
  show pH ad T E O S st= _;rw[←xU hi];show(if gW.any (λx=>Ty.is ad x st.pos)=true then _ else _:Ty.M Nat) st= _;rw[if_pos (List.any_eq_true.2 ⟨x.data.toList,by simp[preB]at hx;rcases hx with rfl|rfl|rfl<;>simp[gW],hi⟩)];rfl
 have yA:Hq ((∀j(hj:j<preB.length),Ty.is ad preB[j].data.toList st.pos=false)→pH ad T E O S st=Ty.ar (cM ad T E S) (λa=>Ty.behind ad T E (ad.length+1) a) st):=λh=>by
  show(if gW.any (λx=>Ty.is ad x st.pos)=true then _ else _:Ty.M Nat) st= _;have h0:=h 0 (by decide);have h1:=h 1 (by decide);have h2:=h 2 (by decide);have e:¬gW.any (λx=>Ty.is ad x st.pos)=true:=by
   simp only[gW,List.any_cons,List.any_nil];intro e;simp only[preB,List.getElem_cons_zero,List.getElem_cons_succ]at h0 h1 h2;rw[h0,h1,h2]at e;simp at e
  rw[if_neg e]
 obtain⟨ps,jQ⟩:∃ps,(Ty.cur ad st.pos).pos=ps:=⟨_,rfl⟩
 rw[jQ]at M7
 generalize Ty.cur ad st.pos=t at*
 obtain⟨kd,tx,tp⟩:=t;dsimp only at jQ;subst jQ;have HS:=qh H;have Uh:=j6;clear aF av H L bD mf;go_enter func319,ntmps319;go_wp2_with fail;refine HN.o _ (λw1 df=>?_);dsimp only[cr];have h2:=(HS.o.below df).aj (.cells Ea 9) w1.heap.size;have H2:=qh h2;clear df h2;go_wp2_with fail;go_loopw [12] (λi wr=>∃k:Nat,k≤3∧i=.int .i64 k∧Hq (Sat w0 wr [Fr,aX pb d ad st,ay w1.heap.size (.cells Ea 9 (0,0))])∧Hq (∀j(hj:j<preB.length),j<k→Ty.is ad preB[j].data.toList st.pos=false)) (λi _=>3-(intOf i).toNat)
 case atStart=>exact⟨0,by omega,rfl,H2.o,λj hj h=>by omega⟩
 case round=>
  obtain⟨k,hk,rfl,hS,Bp⟩:=hrel;by_cases bm:k<3
  ·have Dx:k<preB.length:=bm;have d0:wr.cell? ⟨w1.heap.size,k,none⟩=some (.string preB[k]):=hS.out.cell 2 rfl k (by
    match k,bm with
    |0,_=>rfl
    |1,_=>rfl
    |2,_=>rfl)
   have TJ:=gM Dx;have HX:Hq (Ty.is ad preB[k].data.toList st.pos=false→∀j(hj:j<preB.length),j<k+1→Ty.is ad preB[j].data.toList st.pos=false):=λh j hj Hx=>by
    by_cases e:j=k
    ·subst e;exact h
    ·exact Bp.out j hj (by omega)
   have aax:=hS.out.lt 2 rfl;generalize preB[k]=x at*
   have Xj:=qh TJ;clear TJ Dx;go_wp2_with fail;refine cD (hS.out.at 1 rfl) x (λw2 hi h3=>?_) (λw2 hi h3=>?_)
   ·have HE:=qh (M7.o x Xj.o (MB hi));have H3:=qh h3.kJ;clear hi h3;go_wp2_with fail;refine kn _ 13 tp (λw3 dD=>?_);have h4:=(H3.o.below dD).aj (.cells #[.int .i64 13,.int .i64 0,.int .i64 0,.int .i64 0,.slice none 0 0,.string x,.int .i64 0,.int .i64 (-1),.int .i64 tp] 66) w3.heap.size;have H4:=qh h4;clear dD h4;go_wp2_with fail;refine HL.o.o _ _ _ pb _ (H4.o.at 1 rfl) _ (λn s5 w5 hm h5=>?_) (λe w5 hm h5=>?_)
    ·have pz:=HL.o.ao _ _ _ hm;dsimp only at pz;have fZ:Hq (pH ad T E O S st=.ok (s5.ns.length,{s5 with ns:=s5.ns++[{Ty.af 13 tp with text:=x,a:=n}]})):=HE.o.trans (by rw[aw hm];rfl);have h6:=h5.ny;have y1:=h6.cell 3 rfl 1 rfl;have f6:=h6.free 3 rfl;have adP:=h6.lt 3 rfl;have h7:=h6.store 3 rfl 1 (.int .i64 (n:Nat));have q0:=h6.cell 3 rfl 0 rfl;have q2:=h6.cell 3 rfl 2 rfl;have q3:=h6.cell 3 rfl 3 rfl;have q4:=h6.cell 3 rfl 4 rfl;have q5:=h6.cell 3 rfl 5 rfl;have q6:=h6.cell 3 rfl 6 rfl;have q7:=h6.cell 3 rfl 7 rfl;have q8:=h6.cell 3 rfl 8 rfl;have H7:=qh (h7.nil 3 1);clear hm h5 h6 h7;go_wp2_with fail;refine cd {Ty.af 13 tp with text:=x,a:=n} (.slice none 0 0) H7.o.rE (by omega) (λw7 h8=>?_);have H8:=qh ((h8.unpack (i:=0) rfl).pick [1,0]);clear h8;go_wp2_with fail;exact aY.o _ _ _ fZ.o H8.o
    ·have fZ:Hq (pH ad T E O S st=.error e):=HE.o.trans (by rw[aQ hm]);have H5:=qh (h5.unpack (i:=0) rfl);clear hm h5;go_wp2_with fail;exact⟨rfl,aB.o _ _ fZ.o (H5.o.pick [0])⟩
   ·have Q0:=qh (HX.o (Ka hi));have H3:=qh h3.kJ;clear hi h3 HX;go_wp2_with fail;go_roundw
    case rel=>exact⟨k+1,by omega,by go_num,H3,Q0⟩
    case measure=>simp[intOf];omega
  ·have nn:k=3:=by omega
   subst nn;have HE:=qh (yA.o (λj hj=>Bp.out j hj hj));clear Bp;go_wp2_with fail;refine acG.o _ _ _ pb _ (hS.out.at 1 rfl) _ (λn s5 w5 hm h5=>?_) (λe w5 hm h5=>?_)
   ·have vo:=(Wx.o _ _ _ hm).2.1;have fZ:Hq (pH ad T E O S st=Ty.behind ad T E (ad.length+1) n s5):=HE.o.trans (by rw[aw hm]);have H5:=qh h5.kJ;clear hm h5;go_wp2_with fail;refine Dl HL.o (H5.o.at 1 rfl) vo (λm s6 w6 hm h6=>?_) (λe w6 hm h6=>?_)
    ·have HM:=qh (fZ.o.trans hm);have H6:=qh h6.kJ;clear hm h6;go_wp2_with fail;exact aY.o _ _ _ HM.o (H6.o.pick [0,1])
    ·have HM:=qh (fZ.o.trans hm);have H6:=qh (h6.unpack (i:=0) rfl);clear hm h6;go_wp2_with fail;exact⟨rfl,aB.o _ _ HM.o (H6.o.pick [0])⟩
   ·have fZ:Hq (pH ad T E O S st=.error e):=HE.o.trans (by rw[aQ hm]);have H5:=qh (h5.unpack (i:=0) rfl);clear hm h5;go_wp2_with fail;exact⟨rfl,aB.o _ _ fZ.o (H5.o.pick [0])⟩
end Go.Proofs.YtdlbhiaceheffabGreatDoor
