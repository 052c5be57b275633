/- The parser's last nodes are cut off; walk of the parser's plain. -/
import Derived.Test.YtdlbhiaceheffabGreatDoorE38
set_option linter.all false
set_option maxRecDepth 100000
set_option maxHeartbeats 8000000
namespace Go.Proofs.YtdlbhiaceheffabGreatDoor
open Go Go.RowKit Ty Tok Prt Tryz Proofs.Tryz
theorem J'{e:TypeId}{size g n cap m:Nat}{xs:List Value}{a:Prt.Hp}(hm:m<=n)(h:Prt.row e size (.slice (some ⟨g,0,none⟩) n cap) n xs a):Prt.row e size (.slice (some ⟨g,0,none⟩) m cap) m (xs.take (m*size)) a:=by
 obtain⟨h1,h2⟩:=h;have gS:m*size<=n*size:=Nat.mul_le_mul_right _ hm;refine⟨by rw[List.length_take];omega,?_⟩;rcases h2 with⟨h2,_⟩|⟨g',DK,cur,e2,h3,h4,h5,h6,h7⟩
 ·cases h2
 ·cases e2;exact .inr ⟨g,cap,cur,rfl,h3,by omega,h5,h6,by rw[<-h7,List.take_take,Nat.min_eq_left gS]⟩
theorem wM{α:Type}(f:α->List Value)(m:Nat)(hf:∀x,(f x).length=m):∀(l:List α)(n:Nat),(l.flatMap f).take (n*m)=(l.take n).flatMap f
 |[],n=>by simp
 |a::l,0=>by simp
 |a::l,n+1=>by
  rw[List.flatMap_cons,List.take_succ_cons,List.flatMap_cons,List.take_append,hf,List.take_of_length_le (by rw[hf,Nat.succ_mul];omega),show(n+1)*m-m=n*m by rw[Nat.succ_mul];omega,wM f m hf l n]
theorem Cu{L:List As}{a:Prt.Hp}(m:Nat)(h:ah L a):ah (L.take m) a:=by
 rw[<-List.take_append_drop m L]at h
 obtain⟨x,y,_,hx,_,h1,_⟩:=jz h;exact j8 h1 hx
theorem Prt.Sat.gi{w0 w:World}{Fr:As}{pb d:Nat}{ad:List Tok.Tk}{st:Ty.St}(h:Sat w0 w [Fr,aV pb d ad st]){n:Nat}(hn:n<st.ns.length):
  ∃g cap,w.cell? ⟨pb,3,none⟩=some (.slice (some ⟨g,0,none⟩) st.ns.length cap)/\st.ns.length<=cap/\cap<=maxLen/\Sat w0 (w.setCell ⟨pb,3,none⟩ (.slice (some ⟨g,0,none⟩) n cap)) [Fr,aV pb d ad {st with ns:=st.ns.take n}]:=by
 obtain⟨g,cap,lv,c3,hg,h2,h3,_,_⟩:=h.yx hn;obtain⟨⟨MD,nv,tv,main⟩,rows,hs⟩:=(h.iA (P:=λ_=>True) (λ_=>trivial)).KB;have hs:Sat w0 w (Fr:: (λ_=>True)::E5 pb d ad st (MD,nv,tv,main) st.ns.length (rows.flatMap eD) rows st.ns):=hs;have hq:=hs.pure 2 rfl;have hr:=hs.pure 6 rfl;have hl: (st.ns.take n).length=n:=by rw[List.length_take];omega
 have e3:=hs.cell 3 rfl 3 rfl;rw[c3]at e3
 dsimp only at e3;obtain rfl:=Option.some.inj e3;refine⟨g,cap,c3,h2,h3,?_⟩;have h:=hs.store 3 rfl 3 (.slice (some ⟨g,0,none⟩) n cap);have h:=h.cL (i:=7) rfl (Q:=Prt.row 66 9 (.slice (some ⟨g,0,none⟩) n cap) (st.ns.take n).length ((rows.take n).flatMap eD)) (λa ha=>by rw[hl,<-wM eD 9 (λ_=>rfl)];exact J' (by omega) ha);have h:=h.cL (i:=6) rfl (Q:=bX ((rows.take n).map NdRow.t=st.ns.take n)) (λa _=>by show _= _;rw[List.map_take,hr]);have h:=h.cL (i:=8) rfl (Q:=ah ((rows.take n).map rT)) (λa ha=>by rw[List.map_take];exact Cu n ha);have h:=h.cL (i:=2) rfl (Q:=bX (qU ad/\st.pos<ad.length/\d<=20/\st.ts.length<=st.pos/\(st.ns.take n).length<=st.pos+1)) (λa _=>⟨hq.1,hq.2.1,hq.2.2.1,hq.2.2.2.1,by omega⟩);have h:=Sat.pack (L:=[Fr,_,_,_,_]) (M:=[_,_,_]) (h.pick [0,2,3,4,5,6,7,8]);have h:=h.cL (i:=5) rfl (Q:=vW (.slice (some ⟨g,0,none⟩) n cap) (st.ns.take n)) (λa ha=>⟨_,ha⟩);exact Sat.mh (st:={st with ns:=st.ns.take n}) (p:=(MD,.slice (some ⟨g,0,none⟩) n cap,tv,main)) (h.pick [0,1,2,3,5,4])
namespace Ty
def Rn(ad:List Tok.Tk)(n:Nd):M Nat:=aq (need ad [59]) λ_=>addNode n
def Ij(ad:List Tok.Tk)(E:M Nat)(f:Nat->Nd):M Nat:=aq E λv=>Rn ad (f v)
def J4(tx:BA)(ps v:Nat):Nd:={af 18 ps with text:=tx,a:=v}
def I3(tx:BA)(ps a v:Nat):Nd:={af 19 ps with text:=tx,a:=a,b:=v}
def IW(ps a b v:Nat):Nd:={af 20 ps with a:=a,b:=b,c:=(v:Int)}
def Mu(ps a:Nat):Nd:={af 25 ps with a:=a}
def zh(ad:List Tok.Tk)(E:M Nat)(a kd fa fb:Nat)(tx:BA)(ps:Nat):M Nat:=λs=>
 if is ad [61] s.pos then
  if kd=5 then Ij ad E (J4 tx ps) {s with ns:=s.ns.take a,pos:=s.pos+1}
  else if kd=8 then Ij ad E (I3 tx ps fa) {s with ns:=s.ns.take a,pos:=s.pos+1}
  else if kd=9 then Ij ad E (IW ps fa fb) {s with ns:=s.ns.take a,pos:=s.pos+1}
  else .error (here ad 1 s.pos)
 else Rn ad (Mu ps a) s
theorem Gt{ad:List Tok.Tk}{E:M Nat}{st s:St}{a:Nat}(h:E st=.ok (a,s)):dc ad E st=zh ad E a (cG s a).kind (cG s a).a (cG s a).b (cG s a).text (cG s a).pos s:=by
 unfold dc;rw[aw h];show(if is ad [61] s.pos=true then _ else _:M Nat) s= _;unfold zh;by_cases h1:is ad [61] s.pos=true
 ·rw[if_pos h1,if_pos h1];by_cases h5: (cG s a).kind=5
  ·rw[if_pos h5,if_pos h5];rfl
  ·rw[if_neg h5,if_neg h5];by_cases h8: (cG s a).kind=8
   ·rw[if_pos h8,if_pos h8];rfl
   ·rw[if_neg h8,if_neg h8];by_cases h9: (cG s a).kind=9
    ·rw[if_pos h9,if_pos h9];rfl
    ·rw[if_neg h9,if_neg h9];rfl
 ·rw[if_neg h1,if_neg h1];rfl
end Ty
theorem Hn{w0 w:World}{Fr:As}{pb d:Nat}{ad:List Tok.Tk}{st:Ty.St}{T E O S:Ty.M Nat}(L:Lo ad d T E O S)(H:Sat w0 w [Fr,aV pb d ad st]){R:EW}
  (aH:∀n s2 w2,dc ad E st=.ok (n,s2)->Sat w0 w2 [Fr,aV pb d ad s2]->R (.returned (.int .i64 (n:Nat))) w2)
  (au:∀f w2,dc ad E st=.error f->Sat w0 w2 [Fr]->R (.panicked (aI f)) w2):
  Calls prog 212 #[.pointer (some ⟨pb,0,none⟩)] w R:=by
 have aX:=qh aH;have aB:=qh au;have HL:=qh L;have bu:=H.look;have lR:=bu.wf.1;have HS:=qh H;clear aH au H L bu;go_in;go_wp2_with fail;refine HL.o.e _ _ _ pb _ HS.o _ (λa s1 w1 hm h1=>?_) (λe w1 hm h1=>?_);rotate_left
 ·have HX:Hq (dc ad E st=.error e):=aP hm;have HZ:=qh h1;clear hm h1;go_wp2_with fail;exact⟨rfl,aB.o _ _ HX.o HZ.o⟩
 have pd:=HL.o.ae _ _ _ hm;obtain⟨_,pJ,_⟩:=HL.o.ne _ _ _ hm;have bu:=h1.look;have eS:=bu.fits.1;have oP:=bu.fits.2.2.2;have jJ:=bu.lt;have U7:a<s1.ns.length:=by omega
 obtain⟨g,cap,lv,c3,hg,acU,TL,hA,qF⟩:=h1.yx U7;obtain⟨la,lc,rfl⟩:=ag qF;obtain⟨q0,q1,q2,q3,q4,q5,q6,q7,q8⟩:=hA;have HE:=qh ((Gt hm:dc ad E st= _));generalize cG s1 a=t at*
 obtain⟨kd,fa,fb,fc,fl,tx,fn,aaQ,ps⟩:=t;clear qF;dsimp only at q0 q1 q2 q3 q4 q5 q6 q7 q8 HE;have H1:=qh h1;clear hm h1 bu;go_wp2_with fail;clear c3 q0 q1 q2 q3 q4 q5 q6 q7 q8 hg;refine ke _ 25 ps (λw2 aD=>?_);have h2:=(((H1.o.aj (.cells #[.int .i64 kd,.int .i64 fa,.int .i64 fb,.int .i64 fc,.slice la fl.length lc,.string tx,.int .i64 fn,.int .i64 aaQ,.int .i64 ps] 66) w1.heap.size).below aD).aj (.cells #[.int .i64 25,.int .i64 a,.int .i64 0,.int .i64 0,.slice none 0 0,.string ⟨#[]⟩,.int .i64 0,.int .i64 (-1),.int .i64 ps] 66) w2.heap.size)
 have LB:=qh (λR hR=>nU _ pb d ad s1 (h2.pick [0,1]).look ⟨#[61]⟩ (R:=R) hR);have Wt:Hq (Ty.is ad (⟨#[61]⟩:BA).data.toList s1.pos=true->s1.pos+1<ad.length):=is_lt (h2.pick [0,1]).look.fits.1 (h2.pick [0,1]).look.wf;have zB:Hq (dc ad E st=if Ty.is ad (⟨#[61]⟩:BA).data.toList s1.pos then
  if kd=5 then Ty.Ij ad E (J4 tx ps) {s1 with ns:=s1.ns.take a,pos:=s1.pos+1}
  else if kd=8 then Ty.Ij ad E (I3 tx ps fa) {s1 with ns:=s1.ns.take a,pos:=s1.pos+1}
  else if kd=9 then Ty.Ij ad E (IW ps fa fb) {s1 with ns:=s1.ns.take a,pos:=s1.pos+1}
  else .error (Ty.here ad 1 s1.pos)
 else Rn ad (Mu ps a) s1):=HE.o
 have H2:=qh h2;clear aD h2 HE;go_wp2_with fail;refine LB.o _ (λw3 dF=>?_);have H3:=qh (H2.o.below dF);generalize Ty.is ad (⟨#[61]⟩:BA).data.toList s1.pos=b at*
 clear dF;have UE: (s1.ns.take a).length=a:=by rw[List.length_take];omega
 cases b
 ·rw[if_neg (by simp)]at zB
  go_wp2_with fail;refine cN (H3.o.at 1 rfl) ⟨#[59]⟩ (λw4 hm h4=>?_) (λe w4 hm h4=>?_);rotate_left
  ·have HX:Hq (dc ad E st=.error e):=zB.o.trans (aP hm);have HZ:=qh (h4.unpack (i:=0) rfl);clear hm h4;go_wp2_with fail;exact⟨rfl,aB.o _ _ HX.o (HZ.o.pick [0])⟩
  have HX:Hq (dc ad E st=.ok (s1.ns.length,{s1 with pos:=s1.pos+1,ns:=s1.ns++[Mu ps a]})):=zB.o.trans ((aw hm).trans rfl);have k4:=h4.mW;have q0:=k4.cell 3 rfl 0 rfl;have q1:=k4.cell 3 rfl 1 rfl;have q2:=k4.cell 3 rfl 2 rfl;have q3:=k4.cell 3 rfl 3 rfl;have q4:=k4.cell 3 rfl 4 rfl;have q5:=k4.cell 3 rfl 5 rfl;have q6:=k4.cell 3 rfl 6 rfl;have q7:=k4.cell 3 rfl 7 rfl;have q8:=k4.cell 3 rfl 8 rfl;have z4:=k4.lt 3 rfl;have H4:=qh (k4.nil 3 1);clear hm h4 k4;go_wp2_with fail;refine bZ (Mu ps a) (.slice none 0 0) (H4.o.pick [0,1,4]) (by dsimp only;omega) (λLk je=>?_);have rY:=qh je;clear je;go_wp2_with fail;exact aX.o _ _ _ HX.o rY.o
 ·rw[if_pos rfl]at zB
  have jm:=Wt.o rfl;by_cases Vk:kd=5
  ·subst Vk;rw[if_pos rfl]at zB
   obtain⟨g5,L6,c3,Y3,ZI,h5⟩:=(H3.o.at 1 rfl).gi U7;have H5:=qh (h5.mW);obtain⟨_,_,f3⟩:=(H3.o.pick [0,1]).look.cells;have x0:=H3.o.cell 2 rfl 0 rfl;have y0:=H3.o.cell 3 rfl 0 rfl;have x1:=H3.o.cell 2 rfl 1 rfl;have y1:=H3.o.cell 3 rfl 1 rfl;have x2:=H3.o.cell 2 rfl 2 rfl;have y2:=H3.o.cell 3 rfl 2 rfl;have x5:=H3.o.cell 2 rfl 5 rfl;have y5:=H3.o.cell 3 rfl 5 rfl;have fz:=H3.o.free 3 rfl;have hz:=H3.o.lt 3 rfl;have Ib:=H3.o.lt 2 rfl;clear h5;go_wp2_with fail
   go_region
   have h6:=(((H5.o.store 3 rfl 0 (.int .i64 18)).store 3 rfl 5 (.string tx)).store 3 rfl 1 (.int .i64 0)).drew;obtain⟨c1,_,f0⟩:=(h6.pick [0,1]).look.cells;have h7:=((h6.at 1 rfl).setPos (s1.pos+1) jm (Nat.le_succ _)).mW;rw[show((s1.pos+1:Nat):Int)=(s1.pos:Int)+1 from rfl]at h7
   obtain⟨s7,tI⟩:∃s':Ty.St,s'={s1 with ns:=s1.ns.take a,pos:=s1.pos+1}:=⟨_,rfl⟩
   have p7:s7.pos=s1.pos+1:=by rw[tI]
   have n7:s7.ns.length=a:=by rw[tI];exact UE
   have e7: ({pos:=s1.pos+1,ts:=s1.ts,ns:=s1.ns.take a}:Ty.St)=s7:=tI.symm;have IY:=zB.o;rw[e7]at IY
   have h7:Sat w0 _ [Fr,aV pb d ad s7,_,_]:=e7▸h7;have xW:=qh IY;have H7:=qh h7;clear h6 h7 e7 tI IY zB c3 fz;dsimp only at c1;go_wp2_with fail;clear c1 f0;refine HL.o.e _ _ _ pb _ (H7.o.at 1 rfl) _ (λv s8 w8 hm h8=>?_) (λe w8 hm h8=>?_);rotate_left
   ·have HX:Hq (dc ad E st=.error e):=xW.o.trans (aP hm);have HZ:=qh (h8.unpack (i:=0) rfl);clear hm h8;go_wp2_with fail;exact⟨rfl,aB.o _ _ HX.o (HZ.o.pick [0])⟩
   have ND:=HL.o.ae _ _ _ hm;have Gh:Hq (dc ad E st=Rn ad (J4 tx ps v) s8):=xW.o.trans (aw hm);have k8:=h8.mW;have u0:=k8.cell 3 rfl 0 rfl;have u1:=k8.cell 3 rfl 1 rfl;have f8:=k8.free 3 rfl;have z8:=k8.lt 3 rfl;have m8:=k8.store 3 rfl 1 (.int .i64 (v:Nat));have H8:=qh m8;clear hm h8 k8 m8;go_wp2_with fail;clear u0 u1 f8;refine cN (H8.o.at 1 rfl) ⟨#[59]⟩ (λw9 hm h9=>?_) (λe w9 hm h9=>?_);rotate_left
   ·have HX:Hq (dc ad E st=.error e):=Gh.o.trans (aP hm);have HZ:=qh (h9.unpack (i:=0) rfl);clear hm h9;go_wp2_with fail;exact⟨rfl,aB.o _ _ HX.o (HZ.o.pick [0])⟩
   have HX:Hq (dc ad E st=.ok (s8.ns.length,{s8 with pos:=s8.pos+1,ns:=s8.ns++[J4 tx ps v]})):=Gh.o.trans ((aw hm).trans rfl);have k9:=h9.mW;have q0:=k9.cell 3 rfl 0 rfl;have q1:=k9.cell 3 rfl 1 rfl;have q2:=k9.cell 3 rfl 2 rfl;have q3:=k9.cell 3 rfl 3 rfl;have q4:=k9.cell 3 rfl 4 rfl;have q5:=k9.cell 3 rfl 5 rfl;have q6:=k9.cell 3 rfl 6 rfl;have q7:=k9.cell 3 rfl 7 rfl;have q8:=k9.cell 3 rfl 8 rfl;have z9:=k9.lt 3 rfl;have H9:=qh (k9.nil 3 1);clear hm h9 k9;go_wp2_with fail;refine bZ (J4 tx ps v) (.slice none 0 0) (H9.o.pick [0,1,4]) (by dsimp only;omega) (λLk je=>?_);have rY:=qh je;clear je;go_wp2_with fail;exact aX.o _ _ _ HX.o rY.o
  rw[if_neg Vk]at zB
  have b5: ((kd:Int)==5)=false:=beq_eq_false_iff_ne.2 (by omega);by_cases Nb:kd=8
  ·subst Nb;rw[if_pos rfl]at zB
   obtain⟨g5,L6,c3,Y3,ZI,h5⟩:=(H3.o.at 1 rfl).gi U7;have H5:=qh (h5.mW);obtain⟨_,_,f3⟩:=(H3.o.pick [0,1]).look.cells;have x0:=H3.o.cell 2 rfl 0 rfl;have y0:=H3.o.cell 3 rfl 0 rfl;have x1:=H3.o.cell 2 rfl 1 rfl;have y1:=H3.o.cell 3 rfl 1 rfl;have x2:=H3.o.cell 2 rfl 2 rfl;have y2:=H3.o.cell 3 rfl 2 rfl;have x5:=H3.o.cell 2 rfl 5 rfl;have y5:=H3.o.cell 3 rfl 5 rfl;have fz:=H3.o.free 3 rfl;have hz:=H3.o.lt 3 rfl;have Ib:=H3.o.lt 2 rfl;clear h5;go_wp2_with fail
   go_region
   have h6:=(((H5.o.store 3 rfl 0 (.int .i64 19)).store 3 rfl 5 (.string tx)).store 3 rfl 1 (.int .i64 fa)).drew;obtain⟨c1,_,f0⟩:=(h6.pick [0,1]).look.cells;have h7:=((h6.at 1 rfl).setPos (s1.pos+1) jm (Nat.le_succ _)).mW;rw[show((s1.pos+1:Nat):Int)=(s1.pos:Int)+1 from rfl]at h7
   obtain⟨s7,tI⟩:∃s':Ty.St,s'={s1 with ns:=s1.ns.take a,pos:=s1.pos+1}:=⟨_,rfl⟩
   have p7:s7.pos=s1.pos+1:=by rw[tI]
   have n7:s7.ns.length=a:=by rw[tI];exact UE
   have e7: ({pos:=s1.pos+1,ts:=s1.ts,ns:=s1.ns.take a}:Ty.St)=s7:=tI.symm;have IY:=zB.o;rw[e7]at IY
   have h7:Sat w0 _ [Fr,aV pb d ad s7,_,_]:=e7▸h7;have xW:=qh IY;have H7:=qh h7;clear h6 h7 e7 tI IY zB c3 fz;dsimp only at c1;go_wp2_with fail;clear c1 f0;refine HL.o.e _ _ _ pb _ (H7.o.at 1 rfl) _ (λv s8 w8 hm h8=>?_) (λe w8 hm h8=>?_);rotate_left
   ·have HX:Hq (dc ad E st=.error e):=xW.o.trans (aP hm);have HZ:=qh (h8.unpack (i:=0) rfl);clear hm h8;go_wp2_with fail;exact⟨rfl,aB.o _ _ HX.o (HZ.o.pick [0])⟩
   have ND:=HL.o.ae _ _ _ hm;have Gh:Hq (dc ad E st=Rn ad (I3 tx ps fa v) s8):=xW.o.trans (aw hm);have k8:=h8.mW;have u0:=k8.cell 3 rfl 0 rfl;have u1:=k8.cell 3 rfl 2 rfl;have f8:=k8.free 3 rfl;have z8:=k8.lt 3 rfl;have m8:=k8.store 3 rfl 2 (.int .i64 (v:Nat));have H8:=qh m8;clear hm h8 k8 m8;go_wp2_with fail;clear u0 u1 f8;refine cN (H8.o.at 1 rfl) ⟨#[59]⟩ (λw9 hm h9=>?_) (λe w9 hm h9=>?_);rotate_left
   ·have HX:Hq (dc ad E st=.error e):=Gh.o.trans (aP hm);have HZ:=qh (h9.unpack (i:=0) rfl);clear hm h9;go_wp2_with fail;exact⟨rfl,aB.o _ _ HX.o (HZ.o.pick [0])⟩
   have HX:Hq (dc ad E st=.ok (s8.ns.length,{s8 with pos:=s8.pos+1,ns:=s8.ns++[I3 tx ps fa v]})):=Gh.o.trans ((aw hm).trans rfl);have k9:=h9.mW;have q0:=k9.cell 3 rfl 0 rfl;have q1:=k9.cell 3 rfl 1 rfl;have q2:=k9.cell 3 rfl 2 rfl;have q3:=k9.cell 3 rfl 3 rfl;have q4:=k9.cell 3 rfl 4 rfl;have q5:=k9.cell 3 rfl 5 rfl;have q6:=k9.cell 3 rfl 6 rfl;have q7:=k9.cell 3 rfl 7 rfl;have q8:=k9.cell 3 rfl 8 rfl;have z9:=k9.lt 3 rfl;have H9:=qh (k9.nil 3 1);clear hm h9 k9;go_wp2_with fail;refine bZ (I3 tx ps fa v) (.slice none 0 0) (H9.o.pick [0,1,4]) (by dsimp only;omega) (λLk je=>?_);have rY:=qh je;clear je;go_wp2_with fail;exact aX.o _ _ _ HX.o rY.o
  rw[if_neg Nb]at zB
  have b8: ((kd:Int)==8)=false:=beq_eq_false_iff_ne.2 (by omega);by_cases Md:kd=9
  ·subst Md;rw[if_pos rfl]at zB
   obtain⟨g5,L6,c3,Y3,ZI,h5⟩:=(H3.o.at 1 rfl).gi U7;have H5:=qh (h5.mW);obtain⟨_,_,f3⟩:=(H3.o.pick [0,1]).look.cells;have x0:=H3.o.cell 2 rfl 0 rfl;have y0:=H3.o.cell 3 rfl 0 rfl;have x1:=H3.o.cell 2 rfl 1 rfl;have y1:=H3.o.cell 3 rfl 1 rfl;have x2:=H3.o.cell 2 rfl 2 rfl;have y2:=H3.o.cell 3 rfl 2 rfl;have x5:=H3.o.cell 2 rfl 5 rfl;have y5:=H3.o.cell 3 rfl 5 rfl;have fz:=H3.o.free 3 rfl;have hz:=H3.o.lt 3 rfl;have Ib:=H3.o.lt 2 rfl;clear h5;go_wp2_with fail
   go_region
   have h6:=(((H5.o.store 3 rfl 0 (.int .i64 20)).store 3 rfl 1 (.int .i64 fa)).store 3 rfl 2 (.int .i64 fb)).drew;obtain⟨c1,_,f0⟩:=(h6.pick [0,1]).look.cells;have h7:=((h6.at 1 rfl).setPos (s1.pos+1) jm (Nat.le_succ _)).mW;rw[show((s1.pos+1:Nat):Int)=(s1.pos:Int)+1 from rfl]at h7
   obtain⟨s7,tI⟩:∃s':Ty.St,s'={s1 with ns:=s1.ns.take a,pos:=s1.pos+1}:=⟨_,rfl⟩
   have p7:s7.pos=s1.pos+1:=by rw[tI]
   have n7:s7.ns.length=a:=by rw[tI];exact UE
   have e7: ({pos:=s1.pos+1,ts:=s1.ts,ns:=s1.ns.take a}:Ty.St)=s7:=tI.symm;have IY:=zB.o;rw[e7]at IY
   have h7:Sat w0 _ [Fr,aV pb d ad s7,_,_]:=e7▸h7;have xW:=qh IY;have H7:=qh h7;clear h6 h7 e7 tI IY zB c3 fz;dsimp only at c1;go_wp2_with fail;clear c1 f0;refine HL.o.e _ _ _ pb _ (H7.o.at 1 rfl) _ (λv s8 w8 hm h8=>?_) (λe w8 hm h8=>?_);rotate_left
   ·have HX:Hq (dc ad E st=.error e):=xW.o.trans (aP hm);have HZ:=qh (h8.unpack (i:=0) rfl);clear hm h8;go_wp2_with fail;exact⟨rfl,aB.o _ _ HX.o (HZ.o.pick [0])⟩
   have ND:=HL.o.ae _ _ _ hm;have Gh:Hq (dc ad E st=Rn ad (IW ps fa fb v) s8):=xW.o.trans (aw hm);have k8:=h8.mW;have u0:=k8.cell 3 rfl 0 rfl;have u1:=k8.cell 3 rfl 3 rfl;have f8:=k8.free 3 rfl;have z8:=k8.lt 3 rfl;have m8:=k8.store 3 rfl 3 (.int .i64 (v:Nat));have H8:=qh m8;clear hm h8 k8 m8;go_wp2_with fail;clear u0 u1 f8;refine cN (H8.o.at 1 rfl) ⟨#[59]⟩ (λw9 hm h9=>?_) (λe w9 hm h9=>?_);rotate_left
   ·have HX:Hq (dc ad E st=.error e):=Gh.o.trans (aP hm);have HZ:=qh (h9.unpack (i:=0) rfl);clear hm h9;go_wp2_with fail;exact⟨rfl,aB.o _ _ HX.o (HZ.o.pick [0])⟩
   have HX:Hq (dc ad E st=.ok (s8.ns.length,{s8 with pos:=s8.pos+1,ns:=s8.ns++[IW ps fa fb v]})):=Gh.o.trans ((aw hm).trans rfl);have k9:=h9.mW;have q0:=k9.cell 3 rfl 0 rfl;have q1:=k9.cell 3 rfl 1 rfl;have q2:=k9.cell 3 rfl 2 rfl;have q3:=k9.cell 3 rfl 3 rfl;have q4:=k9.cell 3 rfl 4 rfl;have q5:=k9.cell 3 rfl 5 rfl;have q6:=k9.cell 3 rfl 6 rfl;have q7:=k9.cell 3 rfl 7 rfl;have q8:=k9.cell 3 rfl 8 rfl;have z9:=k9.lt 3 rfl;have H9:=qh (k9.nil 3 1);clear hm h9 k9;go_wp2_with fail;refine bZ (IW ps fa fb v) (.slice none 0 0) (H9.o.pick [0,1,4]) (by dsimp only;omega) (λLk je=>?_);have rY:=qh je;clear je;go_wp2_with fail;exact aX.o _ _ _ HX.o rY.o
  rw[if_neg Md]at zB
  have b9: ((kd:Int)==9)=false:=beq_eq_false_iff_ne.2 (by omega);have x0:=H3.o.cell 2 rfl 0 rfl;clear Vk Nb Md;go_wp2_with fail;refine lE w3 pb d ad s1 (H3.o.pick [0,1]).look 1 (λw4 vR=>?_);have H4:=qh (H3.o.below vR);clear vR;go_wp2_with fail;exact⟨rfl,aB.o _ _ zB.o (H4.o.pick [0])⟩
end Go.Proofs.YtdlbhiaceheffabGreatDoor
