/- Walks of the parser's round. -/
import Derived.Outline
import Derived.Defers
import Derived.Recover
import Derived.Test.YtdlbhiaceheffabGreatDoorE10
import Derived.Test.YtdlbhiaceheffabGreatDoorE13
set_option linter.all false
set_option maxRecDepth 100000
set_option maxHeartbeats 2000000
namespace Go.Proofs.YtdlbhiaceheffabGreatDoor
open Go Go.RowKit Ty Tok Prt Tryz Proofs.Tryz
theorem Prt.Sat.JW{w0 w:World}{A B:As}{pb lb xb:Nat}{l:List Nat}(H:Sat w0 w [A,B,Kj pb lb xb l]):∃v,Sat w0 w [A,B,Ki lb v,eY v l,pH pb xb]:=by
 obtain⟨v,hs⟩:=H.ex (i:=2) rfl;exact⟨v,hs.unpack (i:=2) rfl⟩
theorem Hi{ad:List Tok.Tk}{d:Nat}{T:Ty.M Nat}(eV:eh 120 ad d T)(hT:bf 1 0 0 T):eh 267 ad d (Ty.round ad T):=by
 intro w0 w Fr pb st H R aH au;have aX:=qh aH;have aB:=qh au;have B8:=qh eV;have HT:=qh hT;have bu:=H.look;have eS:=bu.fits.1;have oP:=bu.fits.2.2.1;have lR:=bu.wf.1;have HS:=qh H;clear aH au eV hT H bu;go_enter func267,ntmps267;go_wp2_with fail;have h1:=((HS.o.aj (.cells #[.pointer (some ⟨pb,0,none⟩)] 80) w.heap.size).aj (.cells #[.slice none 0 0] 39) (w.heap.size+1)).nil 3 1;have h2:Sat w0 _ [Fr,aV pb d ad st,Kj pb (w.heap.size+1) w.heap.size []]:=(Sat.pack (L:=[Fr,aV pb d ad st]) (h1.pick [0,1,3,4,2])).cL (i:=2) rfl (λ_ h=>⟨_,h⟩);refine nO w0 _ Fr pb d ad st (Kj pb (w.heap.size+1) w.heap.size) h2 ⟨#[41]⟩ 314 _ Tryz.call314 (λ_=>T) (λ_=>HT.o)
  (λl s w1 h hl R aH au=>De w0 w1 Fr pb _ _ d ad T B8.o HT.o l s h hl aH au) (λl s1 w1 Q9 pM h3=>?_) (λf w1 Q9 h3=>?_)
 ·clear h1 h2;have pd:=gj (λ_=>HT.o) _ _ _ _ _ Q9;obtain⟨v,h3⟩:=h3.JW;obtain⟨a,dm,rfl⟩:=ag (h3.row 3 rfl);have bu:=h3.pick [0,1]|>.look;have qK:=bu.fits.1;have x1:=h3.cell 4 rfl 0 rfl;have Re:=qh Q9;have H3:=qh h3;have ab3:=qh pd;clear Q9 h3 bu pd;go_wp2_with fail;refine cx (H3.o.at 1 rfl) ⟨#[61,62]⟩ (λw2 BM h4=>?_) (λw2 BM h4=>?_)
  ·have h5:Sat w0 w2 [Fr,aV pb d ad {s1 with pos:=s1.pos+1},Ki (w.heap.size+1) (.slice a l.length dm),eY (.slice a l.length dm) l,pH pb w.heap.size]:=Sat.vh (L:=[Fr,aV pb d ad s1,Ki (w.heap.size+1) (.slice a l.length dm),eY (.slice a l.length dm) l,pH pb w.heap.size]) (i:=1) (by simp) h4;have x2:=h5.cell 4 rfl 0 rfl;have y2:=h5.cell 2 rfl 0 rfl;have H5:=qh (B8.o w0 w2.drew _ pb _ (h5.drew.at 1 rfl));have Tj:=qh BM;clear h4 h5 BM;go_wp2_with fail;go_region_law(first|(go_simp;go_at_call 120;refine H5.o _ (λn s3 w3 Jc h6=>?_) (λf w3 Jc h6=>?_);rotate_left;(exact⟨rfl,aB.o _ _ (by rw[Ty.round,aw Re.o,aw Tj.o,if_pos rfl,aP Jc]) ((h6.unpack (i:=0) rfl).pick [0])⟩);have h7:Sat w0 w3 [Fr,aV pb d ad s3,Ki (w.heap.size+1) (.slice a l.length dm),eY (.slice a l.length dm) l,pH pb w.heap.size]:=Sat.vh (L:=[Fr,aV pb d ad s1,Ki (w.heap.size+1) (.slice a l.length dm),eY (.slice a l.length dm) l,pH pb w.heap.size]) (i:=1) (by simp) h6;have x3:=h7.cell 4 rfl 0 rfl;have y3:=h7.cell 2 rfl 0 rfl;have H7:=qh h7;have U0:=qh Jc;clear h6 h7 Jc)|(go_simp;go_at_call 187;refine jx ⟨9,[],l,n⟩ (.slice none 0 0) (.slice a l.length dm) ((H7.o.nil 141 2).pick [0,1,5,3]) (by have:=ab3.o;have:=HT.o _ _ _ U0.o;dsimp only at*;omega) (λw4 h8=>?_)))
   all_goals
    go_wp2_with fail;exact aX.o _ _ _ (by rw[Ty.round,aw Re.o,aw Tj.o,if_pos rfl,aw U0.o];rfl) h8
  ·have h5:Sat w0 w2 [Fr,aV pb d ad s1,Ki (w.heap.size+1) (.slice a l.length dm),eY (.slice a l.length dm) l,pH pb w.heap.size]:=Sat.vh (L:=[Fr,aV pb d ad s1,Ki (w.heap.size+1) (.slice a l.length dm),eY (.slice a l.length dm) l,pH pb w.heap.size]) (i:=1) (by simp) h4;have x2:=h5.cell 4 rfl 0 rfl;have y2:=h5.cell 2 rfl 0 rfl;have H5:=qh h5;have Tj:=qh BM;clear h4 h5 BM;by_cases hl:l.length=1
   ·obtain⟨n,rfl⟩:=List.length_eq_one_iff.1 hl;have hn:=H5.o.row 3 rfl;obtain⟨g,cap,e,_,_⟩:=hn.form (by simp);cases e;have z2:w2.cell? ⟨g,0,none⟩=some (.int .i64 n):=by have:=World.ownsRow.cells hn (g:=g) rfl 0 _ rfl;rwa [Addr.add_lit]at this
    clear hn hl;go_wp2_with fail;exact aX.o _ _ _ (by rw[Ty.round,aw Re.o,aw Tj.o];rfl) (H5.o.pick [0,1])
   ·have cu: ((l.length:Int) !=1)=true:=by simp;omega
    have HL:=qh hl;clear hl;go_wp2_with fail;refine lE w2 pb d ad s1 (H5.o.pick [0,1]).look 1 (λw3 hb=>?_);have HB:=qh (H5.o.below hb);clear hb;go_wp2_with fail;exact⟨rfl,aB.o _ _ (by rw[Ty.round,aw Re.o,aw Tj.o,if_neg (by simp),if_neg HL.o];rfl) (HB.o.pick [0])⟩
 ·clear h1 h2;have Re:=qh Q9;have H3:=qh h3;clear Q9 h3;go_wp2_with fail;exact⟨rfl,aB.o _ _ (by rw[Ty.round,aP Re.o]) H3.o⟩
theorem yn: (prog.info? 9).map (λi=>(i.zero,i.size,i.bytes))=some (some (.string ⟨#[]⟩),1,16):=by kernel_rfl
theorem Qx: (prog.info? 141).map (λi=>(i.zero,i.size,i.bytes))=some (some (.agg #[.string ⟨#[]⟩,.int .i64 0]),2,24):=by kernel_rfl
theorem rf{v:Value}{l:List BA}{x:BA}{a:Prt.Hp}(h:Prt.row 9 1 v (l.length+1) (l.map Value.string++[.string x]) a):wD v (l++[x]) a:=by
 unfold wD;rw[List.length_append,List.map_append];exact h
theorem I2{v:Value}{l:List (BA×Nat)}{x:BA}{n:Nat}{a:Prt.Hp}(h:Prt.row 141 2 v (l.length+1) (l.flatMap f_++[.string x,.int .i64 (n:Nat)]) a):LJ v (l++[(x,n)]) a:=by
 unfold LJ;rw[List.length_append,List.flatMap_append];exact h
theorem B9{ad:List Tok.Tk}{d:Nat}{T:Ty.M Nat}(eV:eh 120 ad d T)(hT:bf 1 0 0 T):eh 266 ad d (Ty.object ad T):=by
 intro w0 w Fr pb st H R aH au;have aX:=qh aH;have aB:=qh au;have B8:=qh eV;have HT:=qh hT;have bu:=H.look;have eS:=bu.fits.1;have oP:=bu.fits.2.2.1;have lR:=bu.wf.1;have HS:=qh H;obtain⟨i0,ti,mM,mL,mK⟩:=info_parts yn;obtain⟨j0,tj,vI,vJ,vH⟩:=info_parts Qx;clear aH au eV hT H bu;go_enter func266,ntmps266;go_wp2_with fail;go_loopw [3,4] (λv u wr=>∃(f:Nat)(l:List (BA×Nat))(ns:List BA)(s:Ty.St),s.pos<ad.length/\ad.length<s.pos+f/\l.length<=s.pos/\ns.length<=s.pos/\Hq (ns=l.map Prod.fst)/\Hq (Sat w0 wr [Fr,aV pb d ad s,LJ v l,wD u ns])/\Hq (Ty.object ad T st=Ty.aq (Ty.fields ad T f l) (λl=>Ty.aY ⟨7,l,[],0⟩) s))
  (λ_ _ wr=>ad.length-posOf pb wr)
 case atStart=>exact⟨ad.length+1,[],[],st,eS,by omega,by simp,by simp,rfl,(HS.o.nil _ _).nil _ _,rfl⟩
 case round=>
  obtain⟨f,l,ns,s,qK,QZ,oW,Vj,xd,hS,hE⟩:=hrel;obtain⟨f,rfl⟩:∃g,f=g+1:=⟨f-1,by omega⟩
  obtain⟨a3,c3,rfl⟩:=ag (hS.out.row 2 rfl);obtain⟨a4,c4,rfl⟩:=ag (hS.out.row 3 rfl);have Tp:=de (hS.out.pick [0,1]).look;have mJ:=qh Tp;clear Tp;go_wp2_with fail;refine cx (hS.out.at 1 rfl) ⟨#[125]⟩ (λw1 hi h1=>?_) (λw1 hi h1=>?_)
  ·have H1:=qh h1.mW;have wy:Hq (Ty.object ad T st=Ty.aY ⟨7,l,[],0⟩ {s with pos:=s.pos+1}):=by
    rw[hE.out,Ty.fields];unfold Ty.aq;rw[hi];rfl
   have Ry:s.ts.length<=s.pos:=(hS.out.pick [0,1]).look.fits.2.2.1;clear hi h1 hE hS;go_wp2_with fail;refine jx ⟨7,l,[],0⟩ _ (.slice none 0 0) ((H1.o.nil 3 1).pick [0,1,2,4]) (by show s.ts.length+1<=s.pos+1;omega) (λw2 h2=>?_);have H2:=qh h2;clear h2;go_wp2_with fail;exact aX.o _ _ _ wy.o H2.o
  ·have H1:=qh h1.mW;have wy:Hq (Ty.object ad T st=Ty.aq (Ty.aq (Ty.name ad ns) λx=>Ty.aq (Ty.need ad [58]) λ_=>Ty.aq T λn=>Ty.aq (Ty.need ad [59]) λ_=>Ty.fields ad T f (l++[(x,n)])) (λl=>Ty.aY ⟨7,l,[],0⟩) s):=by
    rw[hE.out,Ty.fields,xd.out];unfold Ty.aq;rw[hi];rfl
   clear hi h1 hE hS;go_wp2_with fail;refine lg (H1.o.at 1 rfl) _ ns (H1.o.row 3 rfl) (by omega) (λx w2 hn h2=>?_) (λx w2 hn h2=>?_)
   ·have kP:=h2.look.fits.1;have H2:=qh h2.mW;have nZ:Hq (Ty.object ad T st=Ty.aq (Ty.aq (Ty.need ad [58]) λ_=>Ty.aq T λn=>Ty.aq (Ty.need ad [59]) λ_=>Ty.fields ad T f (l++[(x,n)])) (λl=>Ty.aY ⟨7,l,[],0⟩) {s with pos:=s.pos+1}):=by
     rw[wy.o];unfold Ty.aq;rw[hn];rfl
    clear hn h2 wy;dsimp only at kP;go_wp2_with(at_builtin;go_loud(refine wpList_append_lies _ rfl (.tmp 13) (.tmp 15) 161 rfl 0 9 i0 _ 1 16 underlying161 ti mM mL mK rfl (by decide) _ _ (ns.map Value.string) (by rfl) ((H2.o.row 3 rfl).alloc _) ⟨w2.heap.size,0,none⟩ 1 1 [.string x] (by rfl) (by rfl) (World.news_of_block (cs:=#[.string x]) (t:=9) (fr:=(0,0)) (aR _ _ _ (by simp))) (by simp[Value.oneCell']) (by omega) (by unfold maxLen;omega) (by omega) (by simp) (w2.heap.size+1) (by simp) ?_));intro g cap w3 eg dR o_ yL;have h3:=Sat.grow (H2.o.aW _) 3 rfl dR eg (by simpa using o_);have h3:=h3.cL (i:=3) rfl (Q:=wD _ (ns++[x])) (λ_ h=>rf h);have H3:=qh h3;clear h3 eg dR;go_wp2_with fail;refine cN (H3.o.at 1 rfl) ⟨#[58]⟩ (λw4 hn h4=>?_) (λe w4 hn h4=>?_)
    ·have H4:=qh h4.mW;have sW:Hq (Ty.object ad T st=Ty.aq (Ty.aq T λn=>Ty.aq (Ty.need ad [59]) λ_=>Ty.fields ad T f (l++[(x,n)])) (λl=>Ty.aY ⟨7,l,[],0⟩) {s with pos:=s.pos+2}):=by
      rw[nZ.o];unfold Ty.aq;rw[hn];rfl
     clear hn h4 nZ;go_wp2_with fail;refine B8.o _ _ _ pb _ (H4.o.at 1 rfl) _ (λn s5 w5 hm h5=>?_) (λe w5 hm h5=>?_)
     ·have ab9:s.pos+2<s5.pos:=by have:=HT.o _ _ _ hm;dsimp only at this;omega
      have H5:=qh h5.mW;have OM:Hq (Ty.object ad T st=Ty.aq (Ty.aq (Ty.need ad [59]) λ_=>Ty.fields ad T f (l++[(x,n)])) (λl=>Ty.aY ⟨7,l,[],0⟩) s5):=by
       rw[sW.o];unfold Ty.aq;rw[show T {s with pos:=s.pos+2}= _ from hm];rfl
      clear hm h5 sW H4 H3;go_wp2_with fail;refine cN (H5.o.at 1 rfl) ⟨#[59]⟩ (λw6 hn h6=>?_) (λe w6 hn h6=>?_)
      ·have T8:=h6.look.fits.1;have H6:=qh h6.mW;have yz:Hq (Ty.object ad T st=Ty.aq (Ty.fields ad T f (l++[(x,n)])) (λl=>Ty.aY ⟨7,l,[],0⟩) {s5 with pos:=s5.pos+1}):=by
        rw[OM.o];unfold Ty.aq;rw[show Ty.need ad [59] s5= _ from hn];rfl
       clear hn h6 OM H5;dsimp only at T8;go_wp2_with(at_builtin;go_loud(refine wpList_append_lies _ rfl (.tmp 23) (.tmp 27) 67 rfl 0 141 j0 _ 2 24 underlying67 tj vI vJ vH rfl (by decide) _ _ (l.flatMap f_) (by rfl) ((H6.o.row 2 rfl).alloc _) ⟨w6.heap.size,0,none⟩ 1 1 [.string x,.int .i64 (n:Nat)] (by rfl) (by rfl) (World.news_of_block (cs:=#[.string x,.int .i64 (n:Nat)]) (t:=141) (fr:=(0,0)) (aR _ _ _ (by simp))) (by simp[Value.oneCell']) (by omega) (by unfold maxLen;omega) (by omega) (by simp) (w6.heap.size+1) (by simp) ?_));intro g7 Xp w7 Ow JG WX abK;have h7:=Sat.grow (H6.o.aW _) 2 rfl JG Ow (by simpa using WX);have h7:=h7.cL (i:=2) rfl (Q:=LJ _ (l++[(x,n)])) (λ_ h=>I2 h);have h7:Sat w0 w7 [Fr,aV pb d ad {s5 with pos:=s5.pos+1},LJ (.slice (some ⟨g7,0,none⟩) (l.length+1) Xp) (l++[(x,n)]),wD (.slice (some ⟨g,0,none⟩) (ns.length+1) cap) (ns++[x])]:=h7;have KM:=de (h7.pick [0,1]).look;have DQ:=qh KM;have H7:=qh h7;clear h7 Ow JG KM H6;go_wp2_with fail;go_roundw
       case rel=>exact⟨f,l++[(x,n)],ns++[x],{s5 with pos:=s5.pos+1},T8,by dsimp only;omega,by simp;omega,by simp;omega,by rw[xd.out,List.map_append];rfl,H7.o,yz.o⟩
       case measure=>rw[mJ.o,DQ.o];dsimp only;omega
      ·have yz:Hq (Ty.object ad T st=.error e):=by
        rw[OM.o];unfold Ty.aq;rw[show Ty.need ad [59] s5= _ from hn];rfl
       have H6:=qh h6.out;clear hn h6;go_wp2_with fail;exact⟨rfl,aB.o _ _ yz.o H6.o⟩
     ·have yz:Hq (Ty.object ad T st=.error e):=by
       rw[sW.o];unfold Ty.aq;rw[show T {s with pos:=s.pos+2}= _ from hm];rfl
      have H5:=qh h5.out;clear hm h5;go_wp2_with fail;exact⟨rfl,aB.o _ _ yz.o H5.o⟩
    ·have yz:Hq (Ty.object ad T st=.error e):=by
      rw[nZ.o];unfold Ty.aq;rw[hn];rfl
     have H5:=qh h4.out;clear hn h4;go_wp2_with fail;exact⟨rfl,aB.o _ _ yz.o H5.o⟩
   ·have yz:Hq (Ty.object ad T st=.error x):=by
     rw[wy.o];unfold Ty.aq;rw[hn];rfl
    have H5:=qh h2.out;clear hn h2;go_wp2_with fail;exact⟨rfl,aB.o _ _ yz.o H5.o⟩
def ft:List BA:=[⟨#[]⟩,⟨#[110,117,109]⟩,⟨#[98,111,111,108]⟩,⟨#[116,101,120,116]⟩,⟨#[110,117,108,108]⟩,⟨#[97,110,121]⟩,⟨#[117,110,107,110,111,119,110]⟩]
theorem I8(x:BA): (0<cB x->Lib.idxOfS ft x=cB x/\cB x<=6)/\(cB x=0->Lib.idxOfS ft x<=0/\-1<=Lib.idxOfS ft x):=by
 obtain⟨⟨l⟩⟩:=x;by_cases h1:l=[110,117,109]
 ·subst h1;decide
 by_cases h2:l=[98,111,111,108]
 ·subst h2;decide
 by_cases h3:l=[116,101,120,116]
 ·subst h3;decide
 by_cases h4:l=[110,117,108,108]
 ·subst h4;decide
 by_cases h5:l=[97,110,121]
 ·subst h5;decide
 by_cases h6:l=[117,110,107,110,111,119,110]
 ·subst h6;decide
 have e1:cB ⟨⟨l⟩⟩=0:=by
  simp[cB,xN,List.idxOf?_cons,Ne.symm h1,Ne.symm h2,Ne.symm h3,Ne.symm h4,Ne.symm h5,Ne.symm h6]
 have e2:Lib.idxOfS ft ⟨⟨l⟩⟩= -1\/Lib.idxOfS ft ⟨⟨l⟩⟩=0:=by
  by_cases h0:l=[]
  ·subst h0;decide
  ·left;simp[Lib.idxOfS,Lib.idxFromS,ft,Ne.symm h0,Ne.symm h1,Ne.symm h2,Ne.symm h3,Ne.symm h4,Ne.symm h5,Ne.symm h6]
 exact⟨λh=>absurd h (by omega),λ_=>by omega⟩
theorem rp(a b c:Value)(w:World): (Instr.field 138 (.agg #[a,b,c]) 0).run prog w=.ok a w:=by kernel_rfl
theorem oe(a b c:Value)(w:World): (Instr.field 138 (.agg #[a,b,c]) 1).run prog w=.ok b w:=by kernel_rfl
def uV:Array Value:=#[.string ⟨#[]⟩,.string ⟨#[110,117,109]⟩,.string ⟨#[98,111,111,108]⟩,.string ⟨#[116,101,120,116]⟩,.string ⟨#[110,117,108,108]⟩,.string ⟨#[97,110,121]⟩,.string ⟨#[117,110,107,110,111,119,110]⟩]
theorem Em(w:World)(b:Nat)(hb:w.heap[b]?=some (.cells uV 9 (0,0)))(x:BA){R:EW}(hR:R (.returned (.int .i64 (Lib.idxOfS ft x))) w):
  Calls prog 265 #[.slice (some ⟨b,0,none⟩) 7 7,.string x] w R:=by
 refine(Tryz.slices_Index_string b 0 7 7 ft x w (by decide) (by omega) (λj hj=>?_)).mono ?_
 ·rw[cell_of_block hb]
  match j,hj with
  |0,_=>rfl
  |1,_=>rfl
  |2,_=>rfl
  |3,_=>rfl
  |4,_=>rfl
  |5,_=>rfl
  |6,_=>rfl
 ·rintro e w' ⟨rfl,rfl⟩
  exact hR
theorem CG{ad:List Tok.Tk}{d:Nat}{T:Ty.M Nat}(eV:eh 120 ad d T)(hT:bf 1 0 0 T):eh 185 ad d (Ty.single ad T):=by
 intro w0 w Fr pb st H R aH au;have aX:=qh aH;have aB:=qh au;have B8:=qh eV;have HT:=qh hT;have bu:=H.look;have eS:=bu.fits.1;have oP:=bu.fits.2.2.1;have lR:=bu.wf.1;have HS:=qh H;have a_:=λh1: (Ty.cur ad st.pos).kind=2=>tL bu.fits.1 bu.wf (by omega)
 have HN:=qh (λw1(hb:PRd w1 pb d ad st) R=>@gE w1 pb d ad st hb R);have Sj:=qh (Hi eV hT);have abe:=qh (B9 eV hT);unfold Ty.single at aX aB;generalize Ty.cur ad st.pos=t at*
 obtain⟨kd,tx,ps⟩:=t;have hk:=I8 tx;dsimp only at aX aB a_;clear aH au eV hT H bu;have K5: (kd=2/\0<cB tx)\/(kd=2/\cB tx=0)\/kd≠2:=by omega
 rcases K5 with⟨kI,TG⟩|Ou
 ·obtain⟨Eh,wY⟩:=hk.1 TG;have cu:=a_ kI;have k1: ((kd:Int)==2)=true:=by simp[kI]
  have Z7:=qh Eh;have Hy:=qh kI;clear hk a_ kI Eh;have Y8:=rp;have QZ:=oe;go_enter func185,ntmps185;go_wp2_with fail;refine HN.o _ (HS.o.aW _).look _ (λw1 cQ=>?_);dsimp only[cj];have hv:w1.heap[w.heap.size]?=some (.cells uV 9 (0,0)):=(cQ.block _ (by simp)).trans (heap_alloc_new w _);have HV:=qh hv;have H1:=qh ((HS.o.aW _).below cQ);clear hv cQ;go_wp2_with fail;refine Em w1 _ HV.o tx ?_;rw[Z7.o];go_wp2_with fail;refine HN.o _ H1.o.look _ (λw2 aD=>?_);dsimp only[cj];have h2:=H1.o.below aD;obtain⟨c1,_,f0⟩:=h2.look.cells;have H2:=qh h2;clear aD h2;go_wp2_with fail;have h3:=H2.o.setPos (st.pos+1) cu (by omega);refine jx ⟨cB tx,[],[],0⟩ (.slice none 0 0) (.slice none 0 0) ((h3.nil 141 2).nil 3 1) (by dsimp only;omega) (λw3 h4=>?_);have H4:=qh h4;clear h3 h4;go_wp2_with fail;exact aX.o _ _ _ (by rw[if_pos ⟨Hy.o,TG⟩];rfl) H4.o
 ·have HK:Hq (Lib.idxOfS ft tx=Lib.idxOfS ft tx):=rfl;generalize Mz:Lib.idxOfS ft tx=k at*
  have Ym:=hk.2;have A2:Hq (¬(kd=2/\cB tx>0)):=by show¬_;omega
  have K5: (((kd:Int)==2)=true/\decide (0<k)=false)\/((kd:Int)==2)=false:=by
   rcases Ou with⟨h1,h2⟩|h1
   ·exact .inl ⟨by simp[h1],by have:=Ym h2;simp;omega⟩
   ·right;simp;omega
  have Hd:=qh Mz;clear hk Ym Ou a_ HK Mz;have Y8:=rp;have QZ:=oe;go_enter func185,ntmps185;go_wp2_with fail;refine HN.o _ (HS.o.aW _).look _ (λw1 cQ=>?_);dsimp only[cj];have hv:w1.heap[w.heap.size]?=some (.cells uV 9 (0,0)):=(cQ.block _ (by simp)).trans (heap_alloc_new w _);have HV:=qh hv;have H1:=qh ((HS.o.aW _).below cQ);clear hv cQ;go_wp2_with fail;refine Em w1 _ HV.o tx ?_;rw[Hd.o];go_wp2_with fail;refine HN.o _ H1.o.look _ (λw2 aD=>?_);dsimp only[cj];have H2:=qh (H1.o.below aD);clear aD;rcases K5 with⟨k1,k2⟩|k1;all_goals
   go_wp2_with fail;refine cx H2.o ⟨#[123]⟩ (λw3 hi h3=>?_) (λw3 hi h3=>?_)
   ·have H3:=qh h3;have HI:=qh hi;clear hi h3;go_wp2_with fail;refine abe.o _ _ _ pb _ H3.o _ (λn s4 w4 hm h4=>?_) (λe w4 hm h4=>?_)
    ·have H4:=qh h4;have HM:=qh hm;clear hm h4;go_wp2_with fail;exact aX.o _ _ _ (by rw[if_neg A2.o,aw HI.o,if_pos rfl];exact HM.o) H4.o
    ·have H4:=qh h4;have HM:=qh hm;clear hm h4;go_wp2_with fail;exact⟨rfl,aB.o _ _ (by rw[if_neg A2.o,aw HI.o,if_pos rfl];exact HM.o) H4.o⟩
   ·have H3:=qh h3;have HI:=qh hi;clear hi h3;go_wp2_with fail;refine cx H3.o ⟨#[91]⟩ (λw4 hj h4=>?_) (λw4 hj h4=>?_)
    ·have H4:=qh h4;have HJ:=qh hj;clear hj h4;go_wp2_with fail;refine B8.o _ _ _ pb _ H4.o _ (λn s5 w5 hm h5=>?_) (λe w5 hm h5=>?_)
     ·have pd:=HT.o _ _ _ hm;have H5:=qh h5;have HM:=qh hm;clear hm h5;go_wp2_with fail;refine cN H5.o ⟨#[93]⟩ (λw6 hn h6=>?_) (λe w6 hn h6=>?_)
      ·have H6:=qh h6;have jT:=qh hn;clear hn h6;go_wp2_with fail;refine jx ⟨8,[],[],n⟩ (.slice none 0 0) (.slice none 0 0) ((H6.o.nil 141 2).nil 3 1) (by dsimp only at*;omega) (λw7 h7=>?_);have H7:=qh h7;clear h7;go_wp2_with fail;exact aX.o _ _ _ (by rw[if_neg A2.o,aw HI.o,if_neg (by simp),aw HJ.o,if_pos rfl,aw HM.o,aw jT.o];rfl) H7.o
      ·have H6:=qh h6;have jT:=qh hn;clear hn h6;go_wp2_with fail;exact⟨rfl,aB.o _ _ (by rw[if_neg A2.o,aw HI.o,if_neg (by simp),aw HJ.o,if_pos rfl,aw HM.o,aP jT.o]) H6.o⟩
     ·have H5:=qh h5;have HM:=qh hm;clear hm h5;go_wp2_with fail;exact⟨rfl,aB.o _ _ (by rw[if_neg A2.o,aw HI.o,if_neg (by simp),aw HJ.o,if_pos rfl,aP HM.o]) H5.o⟩
    ·have H4:=qh h4;have HJ:=qh hj;clear hj h4;go_wp2_with fail;refine cN H4.o ⟨#[40]⟩ (λw5 hn h5=>?_) (λe w5 hn h5=>?_)
     ·have H5:=qh h5;have jT:=qh hn;clear hn h5;go_wp2_with fail;refine Sj.o _ _ _ pb _ H5.o _ (λn s6 w6 hm h6=>?_) (λe w6 hm h6=>?_)
      ·have H6:=qh h6;have HM:=qh hm;clear hm h6;go_wp2_with fail;exact aX.o _ _ _ (by rw[if_neg A2.o,aw HI.o,if_neg (by simp),aw HJ.o,if_neg (by simp),aw jT.o];exact HM.o) H6.o
      ·have H6:=qh h6;have HM:=qh hm;clear hm h6;go_wp2_with fail;exact⟨rfl,aB.o _ _ (by rw[if_neg A2.o,aw HI.o,if_neg (by simp),aw HJ.o,if_neg (by simp),aw jT.o];exact HM.o) H6.o⟩
     ·have H5:=qh h5;have jT:=qh hn;clear hn h5;go_wp2_with fail;exact⟨rfl,aB.o _ _ (by rw[if_neg A2.o,aw HI.o,if_neg (by simp),aw HJ.o,if_neg (by simp),aP jT.o]) H5.o⟩
theorem IF{ad:List Tok.Tk}{d:Nat}{S:Ty.M Nat}(eV:eh 185 ad d S)(hS:bf 1 0 0 S)(w0 w:World)(Fr:As)(pb xb:Nat)(st:Ty.St)(H:Sat w0 w [Fr,aV pb d ad st])(hx:∀w',Sat w0 w' [Fr]->w'.cell? ⟨xb,0,none⟩=some (.pointer (some ⟨pb,0,none⟩))){R:EW}
  (aH:∀n st2 w2,Ty.union ad S st=.ok (n,st2)->Sat w0 w2 [Fr,aV pb d ad st2]->R (.returned (.int .i64 (n:Nat))) w2)
  (au:∀f w2,Ty.union ad S st=.error f->Sat w0 w2 [Fr]->R (.panicked (aI f)) w2):Calls prog 184 #[.pointer (some ⟨xb,0,none⟩)] w R:=by
 have aX:=qh aH;have aB:=qh au;have B8:=qh eV;have HA:=qh hS;have bu:=H.look;have eS:=bu.fits.1;have oP:=bu.fits.2.2.1;have lR:=bu.wf.1;have x0:=hx w (H.pick [0]);have HX:=qh hx;have HS:=qh H;obtain⟨i0,ti,mM,mL,mK⟩:=info_parts iu;clear aH au eV hS H bu hx;go_in;go_wp2_with fail;refine B8.o _ _ _ pb _ HS.o _ (λn s1 w1 hm h1=>?_) (λe w1 hm h1=>?_)
 ·have pd:=HA.o _ _ _ hm;have jm:=h1.look.fits.1;have h2:=h1.aj (.cells #[.int .i64 (n:Nat)] 3) w1.heap.size;have h3:=h2.cL (i:=2) rfl (Q:=eY (.slice (some ⟨w1.heap.size,0,none⟩) 1 1) [n]) (λ_ h=>mx h (by decide) rfl rfl);have H3:=qh h3;have wy:Hq (Ty.union ad S st=Ty.aq (Ty.bars ad S (ad.length+1) [n]) (λl=>if l.length=1 then Ty.ret (l.headD 0)else Ty.aY ⟨10,[],l,0⟩) s1):=by
   rw[Ty.union,aw hm];rfl
  clear hm h1 h2 h3 x0;go_wp2_with fail;go_loopw [2] (λv wr=>∃(f:Nat)(l:List Nat)(s:Ty.St),s.pos<ad.length/\ad.length<s.pos+f/\s.ts.length+l.length<=s.pos+1/\1<=l.length/\Hq (Sat w0 wr [Fr,aV pb d ad s,eY v l])/\Hq (Ty.union ad S st=Ty.aq (Ty.bars ad S f l) (λl=>if l.length=1 then Ty.ret (l.headD 0)else Ty.aY ⟨10,[],l,0⟩) s))
   (λ_ wr=>ad.length-posOf pb wr)
  case atStart=>exact⟨ad.length+1,[n],s1,jm,by omega,by simp;omega,by simp,H3.o,wy.o⟩
  case round=>
   obtain⟨f,l,s,qK,QZ,oW,pM,hS,hE⟩:=hrel;obtain⟨f,rfl⟩:∃g,f=g+1:=⟨f-1,by omega⟩
   obtain⟨a,dm,rfl⟩:=ag (hS.out.row 2 rfl);have Tp:=de (hS.out.pick [0,1]).look;have mJ:=qh Tp;have x1:=HX.o _ (hS.out.pick [0]);clear Tp;go_wp2_with fail;refine cx (hS.out.at 1 rfl) ⟨#[124]⟩ (λw2 hi h2=>?_) (λw2 hi h2=>?_)
   ·have H2:=qh h2.kJ;have nZ:Hq (Ty.union ad S st=Ty.aq (Ty.aq S λn=>Ty.bars ad S f (l++[n])) (λl=>if l.length=1 then Ty.ret (l.headD 0)else Ty.aY ⟨10,[],l,0⟩) {s with pos:=s.pos+1}):=by
     rw[hE.out,Ty.bars];unfold Ty.aq;rw[hi];rfl
    have x2:=HX.o _ (H2.o.pick [0]);clear hi h2 hE hS x1 wy;go_wp2_with fail;refine B8.o _ _ _ pb _ (H2.o.at 1 rfl) _ (λn s3 w3 hm h3=>?_) (λe w3 hm h3=>?_)
    ·have RM:=HA.o _ _ _ hm;have yL:=h3.look.fits.1;have H3:=qh h3.kJ;have sW:Hq (Ty.union ad S st=Ty.aq (Ty.bars ad S f (l++[n])) (λl=>if l.length=1 then Ty.ret (l.headD 0)else Ty.aY ⟨10,[],l,0⟩) s3):=by
      rw[nZ.o];unfold Ty.aq;rw[hm];rfl
     clear hm h3 x2 H2;dsimp only at RM;go_wp2_with(at_builtin;go_loud(refine wpList_append_lies _ rfl (.tmp 8) (.tmp 11) 39 rfl 0 3 i0 _ 1 8 underlying39 ti mM mL mK rfl (by decide) _ _ (l.map aO) (by rfl) ((H3.o.row 2 rfl).alloc _) ⟨w3.heap.size,0,none⟩ 1 1 [.int .i64 (n:Nat)] (by rfl) (by rfl) (World.news_of_block (cs:=#[.int .i64 (n:Nat)]) (t:=3) (fr:=(0,0)) (aR _ _ _ (by simp))) (by simp[Value.oneCell']) (by omega) (by unfold maxLen;omega) (by omega) (by simp) (w3.heap.size+1) (by simp) ?_));intro g cap w4 dE cO jY vy;have h4:=Sat.grow (H3.o.aW _) 2 rfl cO dE (by simpa using jY);have h4:=h4.cL (i:=2) rfl (Q:=eY _ (l++[n])) (λ_ h=>js h);have h4:Sat w0 w4 [Fr,aV pb d ad s3,eY (.slice (some ⟨g,0,none⟩) (l.length+1) cap) (l++[n])]:=h4;have KM:=de (h4.pick [0,1]).look;have DQ:=qh KM;have H4:=qh h4;clear h4 dE cO KM H3;go_wp2_with fail;go_roundw
     case rel=>exact⟨f,l++[n],s3,yL,by omega,by simp;omega,by simp,H4.o,sW.o⟩
     case measure=>rw[mJ.o,DQ.o];omega
    ·have sW:Hq (Ty.union ad S st=.error e):=by
      rw[nZ.o];unfold Ty.aq;rw[hm];rfl
     have H3:=qh h3.out;clear hm h3;go_wp2_with fail;exact⟨rfl,aB.o _ _ sW.o H3.o⟩
   ·have H2:=qh h2.kJ;have nZ:Hq (Ty.union ad S st=(if l.length=1 then Ty.ret (l.headD 0)else Ty.aY ⟨10,[],l,0⟩:Ty.M Nat) s):=by
     rw[hE.out,Ty.bars];unfold Ty.aq;rw[hi];rfl
    have x2:=HX.o _ (H2.o.pick [0]);clear hi h2 hE hS x1 wy;by_cases hl:l.length=1
    ·obtain⟨n,rfl⟩:=List.length_eq_one_iff.1 hl;have hn:=H2.o.row 2 rfl;obtain⟨g,cap,e,_,_⟩:=hn.form (by simp);cases e;have z2:w2.cell? ⟨g,0,none⟩=some (.int .i64 n):=by have:=World.ownsRow.cells hn (g:=g) rfl 0 _ rfl;rwa [Addr.add_lit]at this
     clear hn hl;go_wp2_with fail;exact aX.o _ _ _ (by rw[nZ.o];rfl) (H2.o.pick [0,1])
    ·have cu: ((l.length:Int)==1)=false:=by simp;omega
     have HL:=qh hl;have tP:2<=l.length:=by omega
     clear hl;go_wp2_with fail;refine jx ⟨10,[],l,0⟩ (.slice none 0 0) _ ((H2.o.nil 141 2).pick [0,1,3,2]) (by omega) (λw3 h3=>?_);have H3:=qh h3;clear h3;go_wp2_with fail;exact aX.o _ _ _ (by rw[nZ.o,if_neg HL.o];rfl) H3.o
 ·have HM:=qh hm;have H1:=qh h1;clear hm h1;go_wp2_with fail;exact⟨rfl,aB.o _ _ (by rw[Ty.union,aP HM.o]) H1.o⟩
theorem LV(ad:List Tok.Tk):∀r,r<=20->eh 120 ad (20-r) (Ty.r' ad r):=by
 intro r;induction r with
 |zero=>
  intro _ w0 w Fr pb st H R aH au;have aX:=qh aH;have aB:=qh au;have HS:=qh H;clear aH au H;go_enter func120,ntmps120;go_wp2_with fail;refine yW (HS.o.aW _) 184 _ Tryz.call184 (Ty.fail ad 8) (λh=>absurd h (by omega)) (λn st2 w2 h=>absurd h (by omega)) (λf w2 _ he h2=>?_);have hf:=he rfl;have HF:=qh hf;have H2:=qh h2;clear he hf h2;go_wp2_with fail;exact⟨rfl,aB.o _ _ (by rw[HF.o];rfl) H2.o⟩
 |succ r ih=>
  intro hr w0 w Fr pb st H R aH au;have NM:20-(r+1)+1=20-r:=by omega
  have Xo:=CG (ih (by omega)) (p_ ad r);rw[<-NM]at Xo
  have B8:=qh Xo;have aX:=qh aH;have aB:=qh au;have HS:=qh H;have hd:20-(r+1)<20:=by omega
  generalize 20-(r+1)=d at*
  clear aH au H ih NM Xo;go_enter func120,ntmps120;go_wp2_with fail;have h1:=(HS.o.aj (.cells #[.pointer (some ⟨pb,0,none⟩)] 80) w.heap.size)
  refine yW (h1.at 1 rfl) 184 _ Tryz.call184 (Ty.r' ad (r+1)) (λh w1 h2 R2 oO lX=>?_) (λn st2 w2 _ hm h2=>?_) (λf w2 he _ h2=>?_)
  ·exact IF B8.o (vi (p_ ad r)) w0 w1 _ pb w.heap.size st h2 (λw' h'=>(h'.unpack (i:=0) rfl).cell 1 rfl 0 rfl) oO lX
  ·have HM:=qh hm;have H2:=qh (h2.kJ.pick [0,1]);clear hm h2 h1;go_wp2_with fail;exact aX.o _ _ _ HM.o H2.o
  ·have hf:=he hd;have HF:=qh hf;have H2:=qh h2.out;clear he hf h2 h1;go_wp2_with fail;exact⟨rfl,aB.o _ _ HF.o H2.o⟩
def bO(f:Ty.Ft):Value:=.agg #[.int .i64 f.1,.int .i64 f.2]
theorem uj(a b:Int)(w:World): (Instr.typeAssert (.iface 25 (.agg #[.int .i64 a,.int .i64 b])) 20 25 false).run prog w=.ok (.agg #[.int .i64 a,.int .i64 b]) w:=by kernel_rfl
theorem JX{w0 w:World}{Fr:As}(H:Sat w0 w [Fr])(s:BA)(hw:Words w)(hm:s.size<=maxLen){R:EW}
  (aH:∀ad pb w',Tok.scan s=.ok ad->Sat w0 w' [Fr,aV pb 0 ad ⟨0,[],[]⟩]->R (.returned (.tuple #[.pointer (some ⟨pb,0,none⟩),bO (0,0)])) w')
  (au:∀f pb w',Tok.scan s=.error f->Sat w0 w' [Fr]->R (.returned (.tuple #[.pointer (some ⟨pb,0,none⟩),bO f])) w'):
  Calls prog 39 #[.string s] w R:=by
 have aX:=qh aH;have aB:=qh au;have HS:=qh H;have HW:=qh hw;have Co:=qh hm;clear aH au H hw hm;go_in;go_wp2_with fail;have h1:=HS.o.aj (.cells #[.int .i64 0,.int .i64 0] 25) w.heap.size;refine Jk s _ (HW.o.below ((bR _ _).alloc (nR _) _)) Co.o (λl v w1 hl hb ho=>?_) (λe p w1 hl hb=>?_)
 ·have h2:=(h1.newRow hb ho (by omega)).aj (.cells #[.int .i64 0,.int .i64 0] 25) w1.heap.size;have yP:=ED s l hl;have oW:=GV hl;have k0:=h2.cell 1 rfl 0 rfl;have k1:=h2.cell 1 rfl 1 rfl;have kf:=h2.free 1 rfl;have kz:=h2.lt 1 rfl;have hz:=hb.size;simp at kz hz;have Ep:w.heap.size<w1.heap.size:=by omega
  have Ib:w.heap.size<w1.heap.size+1:=by omega
  have c0:w1.cell? ⟨w.heap.size,0,none⟩=some (.int .i64 0):=(h1.newRow hb ho (by omega)).cell 1 rfl 0 rfl;have c1:w1.cell? ⟨w.heap.size,1,none⟩=some (.int .i64 0):=(h1.newRow hb ho (by omega)).cell 1 rfl 1 rfl;have f0:∀o,w1.frozen? ⟨w.heap.size,o,none⟩=false:=(h1.newRow hb ho (by omega)).free 1 rfl;obtain⟨a,cap,rfl⟩:=ag ho;have H1:=qh (h1.newRow hb ho (by omega));have HL:=qh hl;have HT:Hq (qU l/\0<l.length):=⟨⟨yP.2.1,oW⟩,List.length_pos_iff.2 yP.1⟩
  clear hl hb ho h1 h2 yP oW k0 k1 kf kz;go_wp2_with fail
  go_region
  all_goals
   go_wp2_with fail;refine bodyPost_ret ?_ rfl (aX.o l (w1.heap.size+1) _ HL.o ?_)
   ·simp[results,results39,go_sem,bO,Ep,Ib,c0,c1]
   ·have h:=(((H1.o.store 1 rfl 0 (.int .i64 0)).store 1 rfl 1 (.int .i64 0)).aW (.cells #[.int .i64 0,.int .i64 0] 25)).aj (.cells #[.slice a l.length cap,.int .i64 0,.int .i64 0,.slice none 0 0,.slice none 0 0,.int .i64 0] 86) (w1.heap.size+1);exact Sat.P3 HT.o (h.drew.pick [0,2,3])
 ·have hz:=hb.size;have h2:=h1.below hb;have c0:=h2.cell 1 rfl 0 rfl;have c1:=h2.cell 1 rfl 1 rfl;have f0:=h2.free 1 rfl;simp at hz;have Ep:w.heap.size<w1.heap.size:=by omega
  have Ib:w.heap.size<w1.heap.size+1:=by omega
  have H1:=qh h2;have HL:=qh hl;clear hl hb h1 h2;go_wp2_with fail
  go_region
  all_goals
   go_wp2_with fail;refine bodyPost_ret ?_ rfl (aB.o (e,p) (w1.heap.size+1) _ HL.o ?_)
   ·simp[results,results39,go_sem,bO,Ep,Ib,c0,c1]
   ·have h:=(((H1.o.store 1 rfl 0 (.int .i64 e)).store 1 rfl 1 (.int .i64 p)).aW (.cells #[.int .i64 e,.int .i64 p] 25)).aW (.cells #[.slice none 0 0,.int .i64 0,.int .i64 0,.slice none 0 0,.slice none 0 0,.int .i64 0] 86);exact h.drew.pick [0]
end Go.Proofs.YtdlbhiaceheffabGreatDoor
