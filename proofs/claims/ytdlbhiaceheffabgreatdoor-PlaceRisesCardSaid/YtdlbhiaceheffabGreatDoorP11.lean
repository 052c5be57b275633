/- Walks of the parser's round. -/
import Derived.Outline
import Derived.Defers
import Derived.Recover
import Derived.Test.YtdlbhiaceheffabGreatDoorP08
set_option linter.all false
set_option maxRecDepth 100000
set_option maxHeartbeats 2000000
namespace Go.Proofs.YtdlbhiaceheffabGreatDoor
open Go Go.RowKit Ty Tok ak Tryz Proofs.Tryz
theorem ak.Sat.Jg{w0 w:World}{A B:As}{pb lb xb:Nat}{l:List Nat}(H:Sat w0 w [A,B,KI pb lb xb l]):∃v,Sat w0 w [A,B,Je lb v,eZ v l,pL pb xb]:=by
 obtain⟨v,hs⟩:=H.ex (i:=2) rfl;exact⟨v,hs.unpack (i:=2) rfl⟩
theorem GF{ad:List Tok.Tk}{d:Nat}{T:Ty.M Nat}(eO:eB 120 ad d T)(hT:bg 1 0 0 T):eB 267 ad d (Ty.round ad T):=by
 intro w0 w Fr pb st H R aF av;have aY:=qh aF;have aB:=qh av;have Da:=qh eO;have HT:=qh hT;have bD:=H.look;have fs:=bD.fits.1;have oY:=bD.fits.2.2.1;have jK:=bD.wf.1;have HS:=qh H;clear aF av eO hT H bD;go_enter func267,ntmps267;go_wp2_with fail;have h1:=((HS.o.aj (.cells #[.pointer (some ⟨pb,0,none⟩)] 80) w.heap.size).aj (.cells #[.slice none 0 0] 39) (w.heap.size+1)).nil 3 1;have h2:Sat w0 _ [Fr,aX pb d ad st,KI pb (w.heap.size+1) w.heap.size []]:=(Sat.pack (L:=[Fr,aX pb d ad st]) (h1.pick [0,1,3,4,2])).cG (i:=2) rfl (λ_ h=>⟨_,h⟩);refine nG w0 _ Fr pb d ad st (KI pb (w.heap.size+1) w.heap.size) h2 ⟨#[41]⟩ 314 _ Tryz.call314 (λ_=>T) (λ_=>HT.o)
  (λl s w1 h hl R aF av=>Cr w0 w1 Fr pb _ _ d ad T Da.o HT.o l s h hl aF av) (λl s1 w1 Rh pK h3=>?_) (λf w1 Rh h3=>?_)
 ·clear h1 h2;have pz:=gA (λ_=>HT.o) _ _ _ _ _ Rh;obtain⟨v,h3⟩:=h3.Jg;obtain⟨a,dr,rfl⟩:=ag (h3.row 3 rfl);have bD:=h3.pick [0,1]|>.look;have uh:=bD.fits.1;have x1:=h3.cell 4 rfl 0 rfl;have Rn:=qh Rh;have H3:=qh h3;have Z6:=qh pz;clear Rh h3 bD pz;go_wp2_with fail;refine cD (H3.o.at 1 rfl) ⟨#[61,62]⟩ (λw2 E6 h4=>?_) (λw2 E6 h4=>?_)
  ·have h5:Sat w0 w2 [Fr,aX pb d ad {s1 with pos:=s1.pos+1},Je (w.heap.size+1) (.slice a l.length dr),eZ (.slice a l.length dr) l,pL pb w.heap.size]:=Sat.tR (L:=[Fr,aX pb d ad s1,Je (w.heap.size+1) (.slice a l.length dr),eZ (.slice a l.length dr) l,pL pb w.heap.size]) (i:=1) (by simp) h4;have x2:=h5.cell 4 rfl 0 rfl;have y2:=h5.cell 2 rfl 0 rfl;have H5:=qh (Da.o w0 w2.drew _ pb _ (h5.drew.at 1 rfl));have TE:=qh E6;clear h4 h5 E6;go_wp2_with fail;go_region_law(first|(go_simp;go_at_call 120;refine H5.o _ (λn s3 w3 Kh h6=>?_) (λf w3 Kh h6=>?_);rotate_left;(exact⟨rfl,aB.o _ _ (by rw[Ty.round,aw Rn.o,aw TE.o,if_pos rfl,aQ Kh]) ((h6.unpack (i:=0) rfl).pick [0])⟩);have h7:Sat w0 w3 [Fr,aX pb d ad s3,Je (w.heap.size+1) (.slice a l.length dr),eZ (.slice a l.length dr) l,pL pb w.heap.size]:=Sat.tR (L:=[Fr,aX pb d ad s1,Je (w.heap.size+1) (.slice a l.length dr),eZ (.slice a l.length dr) l,pL pb w.heap.size]) (i:=1) (by simp) h6;have x3:=h7.cell 4 rfl 0 rfl;have y3:=h7.cell 2 rfl 0 rfl;have H7:=qh h7;have T9:=qh Kh;clear h6 h7 Kh)|(go_simp;go_at_call 187;refine jy ⟨9,[],l,n⟩ (.slice none 0 0) (.slice a l.length dr) ((H7.o.nil 141 2).pick [0,1,5,3]) (by have:=Z6.o;have:=HT.o _ _ _ T9.o;dsimp only at*;omega) (λw4 h8=>?_)))
   all_goals
    go_wp2_with fail;exact aY.o _ _ _ (by rw[Ty.round,aw Rn.o,aw TE.o,if_pos rfl,aw T9.o];rfl) h8
  ·have h5:Sat w0 w2 [Fr,aX pb d ad s1,Je (w.heap.size+1) (.slice a l.length dr),eZ (.slice a l.length dr) l,pL pb w.heap.size]:=Sat.tR (L:=[Fr,aX pb d ad s1,Je (w.heap.size+1) (.slice a l.length dr),eZ (.slice a l.length dr) l,pL pb w.heap.size]) (i:=1) (by simp) h4;have x2:=h5.cell 4 rfl 0 rfl;have y2:=h5.cell 2 rfl 0 rfl;have H5:=qh h5;have TE:=qh E6;clear h4 h5 E6;by_cases hl:l.length=1
   ·obtain⟨n,rfl⟩:=List.length_eq_one_iff.1 hl;have hn:=H5.o.row 3 rfl;obtain⟨g,cap,e,_,_⟩:=hn.form (by simp);cases e;have z2:w2.cell? ⟨g,0,none⟩=some (.int .i64 n):=by have:=World.ownsRow.cells hn (g:=g) rfl 0 _ rfl;rwa [Addr.add_lit]at this
    clear hn hl;go_wp2_with fail;exact aY.o _ _ _ (by rw[Ty.round,aw Rn.o,aw TE.o];rfl) (H5.o.pick [0,1])
   ·have cI: ((l.length:Int) !=1)=true:=by simp;omega
    have HL:=qh hl;clear hl;go_wp2_with fail;refine ml w2 pb d ad s1 (H5.o.pick [0,1]).look 1 (λw3 hb=>?_);have HB:=qh (H5.o.below hb);clear hb;go_wp2_with fail;exact⟨rfl,aB.o _ _ (by rw[Ty.round,aw Rn.o,aw TE.o,if_neg (by simp),if_neg HL.o];rfl) (HB.o.pick [0])⟩
 ·clear h1 h2;have Rn:=qh Rh;have H3:=qh h3;clear Rh h3;go_wp2_with fail;exact⟨rfl,aB.o _ _ (by rw[Ty.round,aQ Rn.o]) H3.o⟩
theorem s_: (prog.info? 9).map (λi=>(i.zero,i.size,i.bytes))=some (some (.string ⟨#[]⟩),1,16):=by kernel_rfl
theorem IA: (prog.info? 141).map (λi=>(i.zero,i.size,i.bytes))=some (some (.agg #[.string ⟨#[]⟩,.int .i64 0]),2,24):=by kernel_rfl
theorem rl{v:Value}{l:List BA}{x:BA}{a:ak.Hp}(h:ak.row 9 1 v (l.length+1) (l.map Value.string++[.string x]) a):vM v (l++[x]) a:=by
 unfold vM;rw[List.length_append,List.map_append];exact h
theorem J1{v:Value}{l:List (BA×Nat)}{x:BA}{n:Nat}{a:ak.Hp}(h:ak.row 141 2 v (l.length+1) (l.flatMap cQ++[.string x,.int .i64 (n:Nat)]) a):zw v (l++[(x,n)]) a:=by
 unfold zw;rw[List.length_append,List.flatMap_append];exact h
theorem Ch{ad:List Tok.Tk}{d:Nat}{T:Ty.M Nat}(eO:eB 120 ad d T)(hT:bg 1 0 0 T):eB 266 ad d (Ty.object ad T):=by
 intro w0 w Fr pb st H R aF av;have aY:=qh aF;have aB:=qh av;have Da:=qh eO;have HT:=qh hT;have bD:=H.look;have fs:=bD.fits.1;have oY:=bD.fits.2.2.1;have jK:=bD.wf.1;have HS:=qh H;obtain⟨i0,ti,mx,mu,mw⟩:=info_parts s_;obtain⟨j0,tj,qP,rJ,rI⟩:=info_parts IA;clear aF av eO hT H bD;go_enter func266,ntmps266;go_wp2_with fail;go_loopw [3,4] (λv u wr=>∃(f:Nat)(l:List (BA×Nat))(ns:List BA)(s:Ty.St),s.pos<ad.length∧ad.length<s.pos+f∧l.length≤s.pos∧ns.length≤s.pos∧Hq (ns=l.map Prod.fst)∧Hq (Sat w0 wr [Fr,aX pb d ad s,zw v l,vM u ns])∧Hq (Ty.object ad T st=Ty.ar (Ty.fields ad T f l) (λl=>Ty.aZ ⟨7,l,[],0⟩) s))
  (λ_ _ wr=>ad.length-posOf pb wr)
 case atStart=>exact⟨ad.length+1,[],[],st,fs,by omega,by simp,by simp,rfl,(HS.o.nil _ _).nil _ _,rfl⟩
 case round=>
  obtain⟨f,l,ns,s,uh,Q6,oV,Xl,xm,hS,hE⟩:=hrel;obtain⟨f,rfl⟩:∃g,f=g+1:=⟨f-1,by omega⟩
  obtain⟨a3,c3,rfl⟩:=ag (hS.out.row 2 rfl);obtain⟨a4,c4,rfl⟩:=ag (hS.out.row 3 rfl);have Ru:=dm (hS.out.pick [0,1]).look;have oH:=qh Ru;clear Ru;go_wp2_with fail;refine cD (hS.out.at 1 rfl) ⟨#[125]⟩ (λw1 hi h1=>?_) (λw1 hi h1=>?_)
  ·have H1:=qh h1.ny;have v_:Hq (Ty.object ad T st=Ty.aZ ⟨7,l,[],0⟩ {s with pos:=s.pos+1}):=by
    rw[hE.out,Ty.fields];unfold Ty.ar;rw[hi];rfl
   have S3:s.ts.length≤s.pos:=(hS.out.pick [0,1]).look.fits.2.2.1;clear hi h1 hE hS;go_wp2_with fail;refine jy ⟨7,l,[],0⟩ _ (.slice none 0 0) ((H1.o.nil 3 1).pick [0,1,2,4]) (by show s.ts.length+1≤s.pos+1;omega) (λw2 h2=>?_);have H2:=qh h2;clear h2;go_wp2_with fail;exact aY.o _ _ _ v_.o H2.o
  ·have H1:=qh h1.ny;have v_:Hq (Ty.object ad T st=Ty.ar (Ty.ar (Ty.name ad ns) λx=>Ty.ar (Ty.need ad [58]) λ_=>Ty.ar T λn=>Ty.ar (Ty.need ad [59]) λ_=>Ty.fields ad T f (l++[(x,n)])) (λl=>Ty.aZ ⟨7,l,[],0⟩) s):=by
    rw[hE.out,Ty.fields,xm.out];unfold Ty.ar;rw[hi];rfl
   clear hi h1 hE hS;go_wp2_with fail;refine lN (H1.o.at 1 rfl) _ ns (H1.o.row 3 rfl) (by omega) (λx w2 hn h2=>?_) (λx w2 hn h2=>?_)
   ·have kL:=h2.look.fits.1;have H2:=qh h2.ny;have oj:Hq (Ty.object ad T st=Ty.ar (Ty.ar (Ty.need ad [58]) λ_=>Ty.ar T λn=>Ty.ar (Ty.need ad [59]) λ_=>Ty.fields ad T f (l++[(x,n)])) (λl=>Ty.aZ ⟨7,l,[],0⟩) {s with pos:=s.pos+1}):=by
     rw[v_.o];unfold Ty.ar;rw[hn];rfl
    clear hn h2 v_;dsimp only at kL;go_wp2_with(at_builtin;go_loud(refine wpList_append_lies _ rfl (.tmp 13) (.tmp 15) 161 rfl 0 9 i0 _ 1 16 underlying161 ti mx mu mw rfl (by decide) _ _ (ns.map Value.string) (by rfl) ((H2.o.row 3 rfl).alloc _) ⟨w2.heap.size,0,none⟩ 1 1 [.string x] (by rfl) (by rfl) (World.news_of_block (cs:=#[.string x]) (t:=9) (fr:=(0,0)) (aH _ _ _ (by simp))) (by simp[Value.oneCell']) (by omega) (by unfold maxLen;omega) (by omega) (by simp) (w2.heap.size+1) (by simp) ?_));intro g cap w3 eA dU pw yR;have h3:=Sat.grow (H2.o.aU _) 3 rfl dU eA (by simpa using pw);have h3:=h3.cG (i:=3) rfl (Q:=vM _ (ns++[x])) (λ_ h=>rl h);have H3:=qh h3;clear h3 eA dU;go_wp2_with fail;refine cP (H3.o.at 1 rfl) ⟨#[58]⟩ (λw4 hn h4=>?_) (λe w4 hn h4=>?_)
    ·have H4:=qh h4.ny;have sH:Hq (Ty.object ad T st=Ty.ar (Ty.ar T λn=>Ty.ar (Ty.need ad [59]) λ_=>Ty.fields ad T f (l++[(x,n)])) (λl=>Ty.aZ ⟨7,l,[],0⟩) {s with pos:=s.pos+2}):=by
      rw[oj.o];unfold Ty.ar;rw[hn];rfl
     clear hn h4 oj;go_wp2_with fail;refine Da.o _ _ _ pb _ (H4.o.at 1 rfl) _ (λn s5 w5 hm h5=>?_) (λe w5 hm h5=>?_)
     ·have acJ:s.pos+2<s5.pos:=by have:=HT.o _ _ _ hm;dsimp only at this;omega
      have H5:=qh h5.ny;have QB:Hq (Ty.object ad T st=Ty.ar (Ty.ar (Ty.need ad [59]) λ_=>Ty.fields ad T f (l++[(x,n)])) (λl=>Ty.aZ ⟨7,l,[],0⟩) s5):=by
       rw[sH.o];unfold Ty.ar;rw[show T {s with pos:=s.pos+2}= _ from hm];rfl
      clear hm h5 sH H4 H3;go_wp2_with fail;refine cP (H5.o.at 1 rfl) ⟨#[59]⟩ (λw6 hn h6=>?_) (λe w6 hn h6=>?_)
      ·have NU:=h6.look.fits.1;have H6:=qh h6.ny;have x_:Hq (Ty.object ad T st=Ty.ar (Ty.fields ad T f (l++[(x,n)])) (λl=>Ty.aZ ⟨7,l,[],0⟩) {s5 with pos:=s5.pos+1}):=by
        rw[QB.o];unfold Ty.ar;rw[show Ty.need ad [59] s5= _ from hn];rfl
       clear hn h6 QB H5;dsimp only at NU;go_wp2_with(at_builtin;go_loud(refine wpList_append_lies _ rfl (.tmp 23) (.tmp 27) 67 rfl 0 141 j0 _ 2 24 underlying67 tj qP rJ rI rfl (by decide) _ _ (l.flatMap cQ) (by rfl) ((H6.o.row 2 rfl).alloc _) ⟨w6.heap.size,0,none⟩ 1 1 [.string x,.int .i64 (n:Nat)] (by rfl) (by rfl) (World.news_of_block (cs:=#[.string x,.int .i64 (n:Nat)]) (t:=141) (fr:=(0,0)) (aH _ _ _ (by simp))) (by simp[Value.oneCell']) (by omega) (by unfold maxLen;omega) (by omega) (by simp) (w6.heap.size+1) (by simp) ?_));intro g7 Wn w7 OD Iv Wv Z1;have h7:=Sat.grow (H6.o.aU _) 2 rfl Iv OD (by simpa using Wv);have h7:=h7.cG (i:=2) rfl (Q:=zw _ (l++[(x,n)])) (λ_ h=>J1 h);have h7:Sat w0 w7 [Fr,aX pb d ad {s5 with pos:=s5.pos+1},zw (.slice (some ⟨g7,0,none⟩) (l.length+1) Wn) (l++[(x,n)]),vM (.slice (some ⟨g,0,none⟩) (ns.length+1) cap) (ns++[x])]:=h7;have Ku:=dm (h7.pick [0,1]).look;have Ce:=qh Ku;have H7:=qh h7;clear h7 OD Iv Ku H6;go_wp2_with fail;go_roundw
       case rel=>exact⟨f,l++[(x,n)],ns++[x],{s5 with pos:=s5.pos+1},NU,by dsimp only;omega,by simp;omega,by simp;omega,by rw[xm.out,List.map_append];rfl,H7.o,x_.o⟩
       case measure=>rw[oH.o,Ce.o];dsimp only;omega
      ·have x_:Hq (Ty.object ad T st=.error e):=by
        rw[QB.o];unfold Ty.ar;rw[show Ty.need ad [59] s5= _ from hn];rfl
       have H6:=qh h6.out;clear hn h6;go_wp2_with fail;exact⟨rfl,aB.o _ _ x_.o H6.o⟩
     ·have x_:Hq (Ty.object ad T st=.error e):=by
       rw[sH.o];unfold Ty.ar;rw[show T {s with pos:=s.pos+2}= _ from hm];rfl
      have H5:=qh h5.out;clear hm h5;go_wp2_with fail;exact⟨rfl,aB.o _ _ x_.o H5.o⟩
    ·have x_:Hq (Ty.object ad T st=.error e):=by
      rw[oj.o];unfold Ty.ar;rw[hn];rfl
     have H5:=qh h4.out;clear hn h4;go_wp2_with fail;exact⟨rfl,aB.o _ _ x_.o H5.o⟩
   ·have x_:Hq (Ty.object ad T st=.error x):=by
     rw[v_.o];unfold Ty.ar;rw[hn];rfl
    have H5:=qh h2.out;clear hn h2;go_wp2_with fail;exact⟨rfl,aB.o _ _ x_.o H5.o⟩
def fH:List BA:=[⟨#[]⟩,⟨#[110,117,109]⟩,⟨#[98,111,111,108]⟩,⟨#[116,101,120,116]⟩,⟨#[110,117,108,108]⟩,⟨#[97,110,121]⟩,⟨#[117,110,107,110,111,119,110]⟩]
theorem Jm(x:BA): (0<Ty.bS x→Lib.idxOfS fH x=Ty.bS x∧Ty.bS x≤6)∧(Ty.bS x=0→Lib.idxOfS fH x≤0∧-1≤Lib.idxOfS fH x):=by
 obtain⟨⟨l⟩⟩:=x;by_cases h1:l=[110,117,109]
 ·subst h1;decide
 by_cases h2:l=[98,111,111,108]
 ·subst h2;decide
 by_cases h3:l=[116,101,120,116]
 ·subst h3;decide
 by_cases h4:l=[110,117,108,108]
 ·subst h4;decide
 by_cases h5:l=[97,110,121]
 ·subst h5;decide
 by_cases h6:l=[117,110,107,110,111,119,110]
 ·subst h6;decide
 have e1:Ty.bS ⟨⟨l⟩⟩=0:=by
  simp[Ty.bS,xE,List.idxOf?_cons,Ne.symm h1,Ne.symm h2,Ne.symm h3,Ne.symm h4,Ne.symm h5,Ne.symm h6]
 have e2:Lib.idxOfS fH ⟨⟨l⟩⟩= -1∨Lib.idxOfS fH ⟨⟨l⟩⟩=0:=by
  by_cases h0:l=[]
  ·subst h0;decide
  ·left;simp[Lib.idxOfS,Lib.idxFromS,fH,Ne.symm h0,Ne.symm h1,Ne.symm h2,Ne.symm h3,Ne.symm h4,Ne.symm h5,Ne.symm h6]
 exact⟨λh=>absurd h (by omega),λ_=>by omega⟩
theorem rj(a b c:Value)(w:World): (Instr.field 138 (.agg #[a,b,c]) 0).run prog w=.ok a w:=by kernel_rfl
theorem oF(a b c:Value)(w:World): (Instr.field 138 (.agg #[a,b,c]) 1).run prog w=.ok b w:=by kernel_rfl
def uX:Array Value:=#[.string ⟨#[]⟩,.string ⟨#[110,117,109]⟩,.string ⟨#[98,111,111,108]⟩,.string ⟨#[116,101,120,116]⟩,.string ⟨#[110,117,108,108]⟩,.string ⟨#[97,110,121]⟩,.string ⟨#[117,110,107,110,111,119,110]⟩]
theorem Ef(w:World)(b:Nat)(hb:w.heap[b]?=some (.cells uX 9 (0,0)))(x:BA){R:EW}(hR:R (.returned (.int .i64 (Lib.idxOfS fH x))) w):
  Calls prog 265 #[.slice (some ⟨b,0,none⟩) 7 7,.string x] w R:=by
 refine(Tryz.slices_Index_string b 0 7 7 fH x w (by decide) (by omega) (λj hj=>?_)).mono ?_
 ·rw[cell_of_block hb]
  match j,hj with
  |0,_=>rfl
  |1,_=>rfl
  |2,_=>rfl
  |3,_=>rfl
  |4,_=>rfl
  |5,_=>rfl
  |6,_=>rfl
 ·rintro e w' ⟨rfl,rfl⟩
  exact hR
theorem BQ{ad:List Tok.Tk}{d:Nat}{T:Ty.M Nat}(eO:eB 120 ad d T)(hT:bg 1 0 0 T):eB 185 ad d (Ty.single ad T):=by
 intro w0 w Fr pb st H R aF av;have aY:=qh aF;have aB:=qh av;have Da:=qh eO;have HT:=qh hT;have bD:=H.look;have fs:=bD.fits.1;have oY:=bD.fits.2.2.1;have jK:=bD.wf.1;have HS:=qh H;have bm:=λh1: (Ty.cur ad st.pos).kind=2=>mC bD.fits.1 bD.wf (by omega)
 have HN:=qh (λw1(hb:PRd w1 pb d ad st) R=>@gN w1 pb d ad st hb R);have SQ:=qh (GF eO hT);have abQ:=qh (Ch eO hT);unfold Ty.single at aY aB;generalize Ty.cur ad st.pos=t at*
 obtain⟨kd,tx,ps⟩:=t;have hk:=Jm tx;dsimp only at aY aB bm;clear aF av eO hT H bD;have xg: (kd=2∧0<Ty.bS tx)∨(kd=2∧Ty.bS tx=0)∨kd≠2:=by omega
 rcases xg with⟨kK,Yo⟩|Oz
 ·obtain⟨Fx,wG⟩:=hk.1 Yo;have cI:=bm kK;have k1: ((kd:Int)==2)=true:=by simp[kK]
  have acj:=qh Fx;have Hy:=qh kK;clear hk bm kK Fx;have Yt:=rj;have Q6:=oF;go_enter func185,ntmps185;go_wp2_with fail;refine HN.o _ (HS.o.aU _).look _ (λw1 df=>?_);dsimp only[cr];have hv:w1.heap[w.heap.size]?=some (.cells uX 9 (0,0)):=(df.block _ (by simp)).trans (heap_alloc_new w _);have HV:=qh hv;have H1:=qh ((HS.o.aU _).below df);clear hv df;go_wp2_with fail;refine Ef w1 _ HV.o tx ?_;rw[acj.o];go_wp2_with fail;refine HN.o _ H1.o.look _ (λw2 aI=>?_);dsimp only[cr];have h2:=H1.o.below aI;obtain⟨c1,_,f0⟩:=h2.look.cells;have H2:=qh h2;clear aI h2;go_wp2_with fail;have h3:=H2.o.setPos (st.pos+1) cI (by omega);refine jy ⟨Ty.bS tx,[],[],0⟩ (.slice none 0 0) (.slice none 0 0) ((h3.nil 141 2).nil 3 1) (by dsimp only;omega) (λw3 h4=>?_);have H4:=qh h4;clear h3 h4;go_wp2_with fail;exact aY.o _ _ _ (by rw[if_pos ⟨Hy.o,Yo⟩];rfl) H4.o
 ·have HK:Hq (Lib.idxOfS fH tx=Lib.idxOfS fH tx):=rfl;generalize MP:Lib.idxOfS fH tx=k at*
  have Zo:=hk.2;have An:Hq (¬(kd=2∧Ty.bS tx>0)):=by show¬_;omega
  have xg: (((kd:Int)==2)=true∧decide (0<k)=false)∨((kd:Int)==2)=false:=by
   rcases Oz with⟨h1,h2⟩|h1
   ·exact .inl ⟨by simp[h1],by have:=Zo h2;simp;omega⟩
   ·right;simp;omega
  have Fh:=qh MP;clear hk Zo Oz bm HK MP;have Yt:=rj;have Q6:=oF;go_enter func185,ntmps185;go_wp2_with fail;refine HN.o _ (HS.o.aU _).look _ (λw1 df=>?_);dsimp only[cr];have hv:w1.heap[w.heap.size]?=some (.cells uX 9 (0,0)):=(df.block _ (by simp)).trans (heap_alloc_new w _);have HV:=qh hv;have H1:=qh ((HS.o.aU _).below df);clear hv df;go_wp2_with fail;refine Ef w1 _ HV.o tx ?_;rw[Fh.o];go_wp2_with fail;refine HN.o _ H1.o.look _ (λw2 aI=>?_);dsimp only[cr];have H2:=qh (H1.o.below aI);clear aI;rcases xg with⟨k1,k2⟩|k1;all_goals
   go_wp2_with fail;refine cD H2.o ⟨#[123]⟩ (λw3 hi h3=>?_) (λw3 hi h3=>?_)
   ·have H3:=qh h3;have HI:=qh hi;clear hi h3;go_wp2_with fail;refine abQ.o _ _ _ pb _ H3.o _ (λn s4 w4 hm h4=>?_) (λe w4 hm h4=>?_)
    ·have H4:=qh h4;have HM:=qh hm;clear hm h4;go_wp2_with fail;exact aY.o _ _ _ (by rw[if_neg An.o,aw HI.o,if_pos rfl];exact HM.o) H4.o
    ·have H4:=qh h4;have HM:=qh hm;clear hm h4;go_wp2_with fail;exact⟨rfl,aB.o _ _ (by rw[if_neg An.o,aw HI.o,if_pos rfl];exact HM.o) H4.o⟩
   ·have H3:=qh h3;have HI:=qh hi;clear hi h3;go_wp2_with fail;refine cD H3.o ⟨#[91]⟩ (λw4 hj h4=>?_) (λw4 hj h4=>?_)
    ·have H4:=qh h4;have HJ:=qh hj;clear hj h4;go_wp2_with fail;refine Da.o _ _ _ pb _ H4.o _ (λn s5 w5 hm h5=>?_) (λe w5 hm h5=>?_)
     ·have pz:=HT.o _ _ _ hm;have H5:=qh h5;have HM:=qh hm;clear hm h5;go_wp2_with fail;refine cP H5.o ⟨#[93]⟩ (λw6 hn h6=>?_) (λe w6 hn h6=>?_)
      ·have H6:=qh h6;have j7:=qh hn;clear hn h6;go_wp2_with fail;refine jy ⟨8,[],[],n⟩ (.slice none 0 0) (.slice none 0 0) ((H6.o.nil 141 2).nil 3 1) (by dsimp only at*;omega) (λw7 h7=>?_);have H7:=qh h7;clear h7;go_wp2_with fail;exact aY.o _ _ _ (by rw[if_neg An.o,aw HI.o,if_neg (by simp),aw HJ.o,if_pos rfl,aw HM.o,aw j7.o];rfl) H7.o
      ·have H6:=qh h6;have j7:=qh hn;clear hn h6;go_wp2_with fail;exact⟨rfl,aB.o _ _ (by rw[if_neg An.o,aw HI.o,if_neg (by simp),aw HJ.o,if_pos rfl,aw HM.o,aQ j7.o]) H6.o⟩
     ·have H5:=qh h5;have HM:=qh hm;clear hm h5;go_wp2_with fail;exact⟨rfl,aB.o _ _ (by rw[if_neg An.o,aw HI.o,if_neg (by simp),aw HJ.o,if_pos rfl,aQ HM.o]) H5.o⟩
    ·have H4:=qh h4;have HJ:=qh hj;clear hj h4;go_wp2_with fail;refine cP H4.o ⟨#[40]⟩ (λw5 hn h5=>?_) (λe w5 hn h5=>?_)
     ·have H5:=qh h5;have j7:=qh hn;clear hn h5;go_wp2_with fail;refine SQ.o _ _ _ pb _ H5.o _ (λn s6 w6 hm h6=>?_) (λe w6 hm h6=>?_)
      ·have H6:=qh h6;have HM:=qh hm;clear hm h6;go_wp2_with fail;exact aY.o _ _ _ (by rw[if_neg An.o,aw HI.o,if_neg (by simp),aw HJ.o,if_neg (by simp),aw j7.o];exact HM.o) H6.o
      ·have H6:=qh h6;have HM:=qh hm;clear hm h6;go_wp2_with fail;exact⟨rfl,aB.o _ _ (by rw[if_neg An.o,aw HI.o,if_neg (by simp),aw HJ.o,if_neg (by simp),aw j7.o];exact HM.o) H6.o⟩
     ·have H5:=qh h5;have j7:=qh hn;clear hn h5;go_wp2_with fail;exact⟨rfl,aB.o _ _ (by rw[if_neg An.o,aw HI.o,if_neg (by simp),aw HJ.o,if_neg (by simp),aQ j7.o]) H5.o⟩
theorem IU{ad:List Tok.Tk}{d:Nat}{S:Ty.M Nat}(eO:eB 185 ad d S)(hS:bg 1 0 0 S)(w0 w:World)(Fr:As)(pb xb:Nat)(st:Ty.St)(H:Sat w0 w [Fr,aX pb d ad st])(hx:∀w',Sat w0 w' [Fr]→w'.cell? ⟨xb,0,none⟩=some (.pointer (some ⟨pb,0,none⟩))){R:EW}
  (aF:∀n st2 w2,Ty.union ad S st=.ok (n,st2)→Sat w0 w2 [Fr,aX pb d ad st2]→R (.returned (.int .i64 (n:Nat))) w2)
  (av:∀f w2,Ty.union ad S st=.error f→Sat w0 w2 [Fr]→R (.panicked (aJ f)) w2):Calls prog 184 #[.pointer (some ⟨xb,0,none⟩)] w R:=by
 have aY:=qh aF;have aB:=qh av;have Da:=qh eO;have HA:=qh hS;have bD:=H.look;have fs:=bD.fits.1;have oY:=bD.fits.2.2.1;have jK:=bD.wf.1;have x0:=hx w (H.pick [0]);have HX:=qh hx;have HS:=qh H;obtain⟨i0,ti,mx,mu,mw⟩:=info_parts jo;clear aF av eO hS H bD hx;go_in;go_wp2_with fail;refine Da.o _ _ _ pb _ HS.o _ (λn s1 w1 hm h1=>?_) (λe w1 hm h1=>?_)
 ·have pz:=HA.o _ _ _ hm;have jE:=h1.look.fits.1;have h2:=h1.aj (.cells #[.int .i64 (n:Nat)] 3) w1.heap.size;have h3:=h2.cG (i:=2) rfl (Q:=eZ (.slice (some ⟨w1.heap.size,0,none⟩) 1 1) [n]) (λ_ h=>my h (by decide) rfl rfl);have H3:=qh h3;have v_:Hq (Ty.union ad S st=Ty.ar (Ty.bars ad S (ad.length+1) [n]) (λl=>if l.length=1 then Ty.ret (l.headD 0)else Ty.aZ ⟨10,[],l,0⟩) s1):=by
   rw[Ty.union,aw hm];rfl
  clear hm h1 h2 h3 x0;go_wp2_with fail;go_loopw [2] (λv wr=>∃(f:Nat)(l:List Nat)(s:Ty.St),s.pos<ad.length∧ad.length<s.pos+f∧s.ts.length+l.length≤s.pos+1∧1≤l.length∧Hq (Sat w0 wr [Fr,aX pb d ad s,eZ v l])∧Hq (Ty.union ad S st=Ty.ar (Ty.bars ad S f l) (λl=>if l.length=1 then Ty.ret (l.headD 0)else Ty.aZ ⟨10,[],l,0⟩) s))
   (λ_ wr=>ad.length-posOf pb wr)
  case atStart=>exact⟨ad.length+1,[n],s1,jE,by omega,by simp;omega,by simp,H3.o,v_.o⟩
  case round=>
   obtain⟨f,l,s,uh,Q6,oV,pK,hS,hE⟩:=hrel;obtain⟨f,rfl⟩:∃g,f=g+1:=⟨f-1,by omega⟩
   obtain⟨a,dr,rfl⟩:=ag (hS.out.row 2 rfl);have Ru:=dm (hS.out.pick [0,1]).look;have oH:=qh Ru;have x1:=HX.o _ (hS.out.pick [0]);clear Ru;go_wp2_with fail;refine cD (hS.out.at 1 rfl) ⟨#[124]⟩ (λw2 hi h2=>?_) (λw2 hi h2=>?_)
   ·have H2:=qh h2.kJ;have oj:Hq (Ty.union ad S st=Ty.ar (Ty.ar S λn=>Ty.bars ad S f (l++[n])) (λl=>if l.length=1 then Ty.ret (l.headD 0)else Ty.aZ ⟨10,[],l,0⟩) {s with pos:=s.pos+1}):=by
     rw[hE.out,Ty.bars];unfold Ty.ar;rw[hi];rfl
    have x2:=HX.o _ (H2.o.pick [0]);clear hi h2 hE hS x1 v_;go_wp2_with fail;refine Da.o _ _ _ pb _ (H2.o.at 1 rfl) _ (λn s3 w3 hm h3=>?_) (λe w3 hm h3=>?_)
    ·have RL:=HA.o _ _ _ hm;have yR:=h3.look.fits.1;have H3:=qh h3.kJ;have sH:Hq (Ty.union ad S st=Ty.ar (Ty.bars ad S f (l++[n])) (λl=>if l.length=1 then Ty.ret (l.headD 0)else Ty.aZ ⟨10,[],l,0⟩) s3):=by
      rw[oj.o];unfold Ty.ar;rw[hm];rfl
     clear hm h3 x2 H2;dsimp only at RL;go_wp2_with(at_builtin;go_loud(refine wpList_append_lies _ rfl (.tmp 8) (.tmp 11) 39 rfl 0 3 i0 _ 1 8 underlying39 ti mx mu mw rfl (by decide) _ _ (l.map aS) (by rfl) ((H3.o.row 2 rfl).alloc _) ⟨w3.heap.size,0,none⟩ 1 1 [.int .i64 (n:Nat)] (by rfl) (by rfl) (World.news_of_block (cs:=#[.int .i64 (n:Nat)]) (t:=3) (fr:=(0,0)) (aH _ _ _ (by simp))) (by simp[Value.oneCell']) (by omega) (by unfold maxLen;omega) (by omega) (by simp) (w3.heap.size+1) (by simp) ?_));intro g cap w4 cq bC ga mY;have h4:=Sat.grow (H3.o.aU _) 2 rfl bC cq (by simpa using ga);have h4:=h4.cG (i:=2) rfl (Q:=eZ _ (l++[n])) (λ_ h=>iJ h);have h4:Sat w0 w4 [Fr,aX pb d ad s3,eZ (.slice (some ⟨g,0,none⟩) (l.length+1) cap) (l++[n])]:=h4;have Ku:=dm (h4.pick [0,1]).look;have Ce:=qh Ku;have H4:=qh h4;clear h4 cq bC Ku H3;go_wp2_with fail;go_roundw
     case rel=>exact⟨f,l++[n],s3,yR,by omega,by simp;omega,by simp,H4.o,sH.o⟩
     case measure=>rw[oH.o,Ce.o];omega
    ·have sH:Hq (Ty.union ad S st=.error e):=by
      rw[oj.o];unfold Ty.ar;rw[hm];rfl
     have H3:=qh h3.out;clear hm h3;go_wp2_with fail;exact⟨rfl,aB.o _ _ sH.o H3.o⟩
   ·have H2:=qh h2.kJ;have oj:Hq (Ty.union ad S st=(if l.length=1 then Ty.ret (l.headD 0)else Ty.aZ ⟨10,[],l,0⟩:Ty.M Nat) s):=by
     rw[hE.out,Ty.bars];unfold Ty.ar;rw[hi];rfl
    have x2:=HX.o _ (H2.o.pick [0]);clear hi h2 hE hS x1 v_;by_cases hl:l.length=1
    ·obtain⟨n,rfl⟩:=List.length_eq_one_iff.1 hl;have hn:=H2.o.row 2 rfl;obtain⟨g,cap,e,_,_⟩:=hn.form (by simp);cases e;have z2:w2.cell? ⟨g,0,none⟩=some (.int .i64 n):=by have:=World.ownsRow.cells hn (g:=g) rfl 0 _ rfl;rwa [Addr.add_lit]at this
     clear hn hl;go_wp2_with fail;exact aY.o _ _ _ (by rw[oj.o];rfl) (H2.o.pick [0,1])
    ·have cI: ((l.length:Int)==1)=false:=by simp;omega
     have HL:=qh hl;have vu:2≤l.length:=by omega
     clear hl;go_wp2_with fail;refine jy ⟨10,[],l,0⟩ (.slice none 0 0) _ ((H2.o.nil 141 2).pick [0,1,3,2]) (by omega) (λw3 h3=>?_);have H3:=qh h3;clear h3;go_wp2_with fail;exact aY.o _ _ _ (by rw[oj.o,if_neg HL.o];rfl) H3.o
 ·have HM:=qh hm;have H1:=qh h1;clear hm h1;go_wp2_with fail;exact⟨rfl,aB.o _ _ (by rw[Ty.union,aQ HM.o]) H1.o⟩
theorem Mi(ad:List Tok.Tk):∀r,r≤20→eB 120 ad (20-r) (Ty.sy ad r):=by
 intro r;induction r with
 |zero=>
  intro _ w0 w Fr pb st H R aF av;have aY:=qh aF;have aB:=qh av;have HS:=qh H;clear aF av H;go_enter func120,ntmps120;go_wp2_with fail;refine xV (HS.o.aU _) 184 _ Tryz.call184 (Ty.fail ad 8) (λh=>absurd h (by omega)) (λn st2 w2 h=>absurd h (by omega)) (λf w2 _ he h2=>?_);have hf:=he rfl;have HF:=qh hf;have H2:=qh h2;clear he hf h2;go_wp2_with fail;exact⟨rfl,aB.o _ _ (by rw[HF.o];rfl) H2.o⟩
 |succ r ih=>
  intro hr w0 w Fr pb st H R aF av;have MO:20-(r+1)+1=20-r:=by omega
  have XI:=BQ (ih (by omega)) (p3 ad r);rw[←MO]at XI
  have Da:=qh XI;have aY:=qh aF;have aB:=qh av;have HS:=qh H;have hd:20-(r+1)<20:=by omega
  generalize 20-(r+1)=d at*
  clear aF av H ih MO XI;go_enter func120,ntmps120;go_wp2_with fail;have h1:=(HS.o.aj (.cells #[.pointer (some ⟨pb,0,none⟩)] 80) w.heap.size)
  refine xV (h1.at 1 rfl) 184 _ Tryz.call184 (Ty.sy ad (r+1)) (λh w1 h2 R2 oR l9=>?_) (λn st2 w2 _ hm h2=>?_) (λf w2 he _ h2=>?_)
  ·exact IU Da.o (u4 (p3 ad r)) w0 w1 _ pb w.heap.size st h2 (λw' h'=>(h'.unpack (i:=0) rfl).cell 1 rfl 0 rfl) oR l9
  ·have HM:=qh hm;have H2:=qh (h2.kJ.pick [0,1]);clear hm h2 h1;go_wp2_with fail;exact aY.o _ _ _ HM.o H2.o
  ·have hf:=he hd;have HF:=qh hf;have H2:=qh h2.out;clear he hf h2 h1;go_wp2_with fail;exact⟨rfl,aB.o _ _ HF.o H2.o⟩
def bY(f:Ty.Ft):Value:=.agg #[.int .i64 f.1,.int .i64 f.2]
theorem tL(a b:Int)(w:World): (Instr.typeAssert (.iface 25 (.agg #[.int .i64 a,.int .i64 b])) 20 25 false).run prog w=.ok (.agg #[.int .i64 a,.int .i64 b]) w:=by kernel_rfl
theorem Ir{w0 w:World}{Fr:As}(H:Sat w0 w [Fr])(s:BA)(hw:Words w)(hm:s.size≤maxLen){R:EW}
  (aF:∀ad pb w',Tok.scan s=.ok ad→Sat w0 w' [Fr,aX pb 0 ad ⟨0,[],[]⟩]→R (.returned (.tuple #[.pointer (some ⟨pb,0,none⟩),bY (0,0)])) w')
  (av:∀f pb w',Tok.scan s=.error f→Sat w0 w' [Fr]→R (.returned (.tuple #[.pointer (some ⟨pb,0,none⟩),bY f])) w'):
  Calls prog 39 #[.string s] w R:=by
 have aY:=qh aF;have aB:=qh av;have HS:=qh H;have HW:=qh hw;have F6:=qh hm;clear aF av H hw hm;go_in;go_wp2_with fail;have h1:=HS.o.aj (.cells #[.int .i64 0,.int .i64 0] 25) w.heap.size;refine IH s _ (HW.o.below ((bR _ _).alloc (nR _) _)) F6.o (λl v w1 hl hb ho=>?_) (λe p w1 hl hb=>?_)
 ·have h2:=(h1.newRow hb ho (by omega)).aj (.cells #[.int .i64 0,.int .i64 0] 25) w1.heap.size;have yS:=DU s l hl;have oV:=GB hl;have k0:=h2.cell 1 rfl 0 rfl;have k1:=h2.cell 1 rfl 1 rfl;have kf:=h2.free 1 rfl;have kz:=h2.lt 1 rfl;have hz:=hb.size;simp at kz hz;have Hz:w.heap.size<w1.heap.size:=by omega
  have Hm:w.heap.size<w1.heap.size+1:=by omega
  have c0:w1.cell? ⟨w.heap.size,0,none⟩=some (.int .i64 0):=(h1.newRow hb ho (by omega)).cell 1 rfl 0 rfl;have c1:w1.cell? ⟨w.heap.size,1,none⟩=some (.int .i64 0):=(h1.newRow hb ho (by omega)).cell 1 rfl 1 rfl;have f0:∀o,w1.frozen? ⟨w.heap.size,o,none⟩=false:=(h1.newRow hb ho (by omega)).free 1 rfl;obtain⟨a,cap,rfl⟩:=ag ho;have H1:=qh (h1.newRow hb ho (by omega));have HL:=qh hl;have HT:Hq (pQ l∧0<l.length):=⟨⟨yS.2.1,oV⟩,List.length_pos_iff.2 yS.1⟩
  clear hl hb ho h1 h2 yS oV k0 k1 kf kz;go_wp2_with fail
  go_region
  all_goals
   go_wp2_with fail;refine bodyPost_ret ?_ rfl (aY.o l (w1.heap.size+1) _ HL.o ?_)
   ·simp[results,results39,go_sem,bY,Hz,Hm,c0,c1]
   ·have h:=(((H1.o.store 1 rfl 0 (.int .i64 0)).store 1 rfl 1 (.int .i64 0)).aU (.cells #[.int .i64 0,.int .i64 0] 25)).aj (.cells #[.slice a l.length cap,.int .i64 0,.int .i64 0,.slice none 0 0,.slice none 0 0,.int .i64 0] 86) (w1.heap.size+1);exact Sat.Pj HT.o (h.drew.pick [0,2,3])
 ·have hz:=hb.size;have h2:=h1.below hb;have c0:=h2.cell 1 rfl 0 rfl;have c1:=h2.cell 1 rfl 1 rfl;have f0:=h2.free 1 rfl;simp at hz;have Hz:w.heap.size<w1.heap.size:=by omega
  have Hm:w.heap.size<w1.heap.size+1:=by omega
  have H1:=qh h2;have HL:=qh hl;clear hl hb h1 h2;go_wp2_with fail
  go_region
  all_goals
   go_wp2_with fail;refine bodyPost_ret ?_ rfl (aB.o (e,p) (w1.heap.size+1) _ HL.o ?_)
   ·simp[results,results39,go_sem,bY,Hz,Hm,c0,c1]
   ·have h:=(((H1.o.store 1 rfl 0 (.int .i64 e)).store 1 rfl 1 (.int .i64 p)).aU (.cells #[.int .i64 e,.int .i64 p] 25)).aU (.cells #[.slice none 0 0,.int .i64 0,.int .i64 0,.slice none 0 0,.slice none 0 0,.int .i64 0] 86);exact h.drew.pick [0]
end Go.Proofs.YtdlbhiaceheffabGreatDoor
