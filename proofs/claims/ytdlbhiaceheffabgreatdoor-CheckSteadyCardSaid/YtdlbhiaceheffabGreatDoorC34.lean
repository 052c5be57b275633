/- The parser's last nodes are cut off; walk of the parser's plain. -/
import Derived.Test.YtdlbhiaceheffabGreatDoorC33
set_option linter.all false
set_option maxRecDepth 100000
set_option maxHeartbeats 8000000
namespace Go.Proofs.YtdlbhiaceheffabGreatDoor
open Go Go.RowKit Ty Tok Prt Tryz Proofs.Tryz
theorem M'{e:TypeId}{size g n cap m:Nat}{xs:List Value}{a:Prt.Hp}(hm:m<=n)(h:Prt.row e size (.slice (some ⟨g,0,none⟩) n cap) n xs a):Prt.row e size (.slice (some ⟨g,0,none⟩) m cap) m (xs.take (m*size)) a:=by
 obtain⟨h1,h2⟩:=h;have jE:m*size<=n*size:=Nat.mul_le_mul_right _ hm;refine⟨by rw[List.length_take];omega,?_⟩;rcases h2 with⟨h2,_⟩|⟨g',x9,cur,e2,h3,h4,h5,h6,h7⟩
 ·cases h2
 ·cases e2;exact .inr ⟨g,cap,cur,rfl,h3,by omega,h5,h6,by rw[<-h7,List.take_take,Nat.min_eq_left jE]⟩
theorem zu{α:Type}(f:α->List Value)(m:Nat)(hf:∀x,(f x).length=m):∀(l:List α)(n:Nat),(l.flatMap f).take (n*m)=(l.take n).flatMap f
 |[],n=>by simp
 |a::l,0=>by simp
 |a::l,n+1=>by
  rw[List.flatMap_cons,List.take_succ_cons,List.flatMap_cons,List.take_append,hf,List.take_of_length_le (by rw[hf,Nat.succ_mul];omega),show(n+1)*m-m=n*m by rw[Nat.succ_mul];omega,zu f m hf l n]
theorem EY{L:List As}{a:Prt.Hp}(m:Nat)(h:aq L a):aq (L.take m) a:=by
 rw[<-List.take_append_drop m L]at h
 obtain⟨x,y,_,hx,_,h1,_⟩:=jQ h;exact kB h1 hx
theorem Prt.Sat.ef{w0 w:World}{Fr:As}{pb d:Nat}{ad:List Tok.Tk}{st:Ty.St}(h:Sat w0 w [Fr,aT pb d ad st]){n:Nat}(hn:n<st.ns.length):
  ∃g cap,w.cell? ⟨pb,3,none⟩=some (.slice (some ⟨g,0,none⟩) st.ns.length cap)/\st.ns.length<=cap/\cap<=maxLen/\Sat w0 (w.setCell ⟨pb,3,none⟩ (.slice (some ⟨g,0,none⟩) n cap)) [Fr,aT pb d ad {st with ns:=st.ns.take n}]:=by
 obtain⟨g,cap,lv,c3,hg,h2,h3,_,_⟩:=h.Ah hn;obtain⟨⟨PY,nv,tv,main⟩,rows,hs⟩:=(h.jR (P:=λ_=>True) (λ_=>trivial)).Ow;have hs:Sat w0 w (Fr:: (λ_=>True)::Hg pb d ad st (PY,nv,tv,main) st.ns.length (rows.flatMap fi) rows st.ns):=hs;have hq:=hs.pure 2 rfl;have hr:=hs.pure 6 rfl;have hl: (st.ns.take n).length=n:=by rw[List.length_take];omega
 have e3:=hs.cell 3 3;rw[c3]at e3
 dsimp only at e3;obtain rfl:=Option.some.inj e3;refine⟨g,cap,c3,h2,h3,?_⟩;have h:=hs.store 3 rfl 3 (.slice (some ⟨g,0,none⟩) n cap);have h:=h.cQ (i:=7) rfl (Q:=Prt.row 66 9 (.slice (some ⟨g,0,none⟩) n cap) (st.ns.take n).length ((rows.take n).flatMap fi)) (λa ha=>by rw[hl,<-zu fi 9 (λ_=>rfl)];exact M' (by omega) ha);have h:=h.cQ (i:=6) rfl (Q:=bU ((rows.take n).map NdRow.t=st.ns.take n)) (λa _=>by show _= _;rw[List.map_take,hr]);have h:=h.cQ (i:=8) rfl (Q:=aq ((rows.take n).map tF)) (λa ha=>by rw[List.map_take];exact EY n ha);have h:=h.cQ (i:=2) rfl (Q:=bU (tE ad/\st.pos<ad.length/\d<=20/\st.ts.length<=st.pos/\(st.ns.take n).length<=st.pos+1)) (λa _=>⟨hq.1,hq.2.1,hq.2.2.1,hq.2.2.2.1,by omega⟩);have h:=Sat.pack (L:=[Fr,_,_,_,_]) (M:=[_,_,_]) (h.pick [0,2,3,4,5,6,7,8]);have h:=h.cQ (i:=5) rfl (Q:=C8 (.slice (some ⟨g,0,none⟩) n cap) (st.ns.take n)) (λa ha=>⟨_,ha⟩);exact Sat.nZ (st:={st with ns:=st.ns.take n}) (p:=(PY,.slice (some ⟨g,0,none⟩) n cap,tv,main)) (h.pick [0,1,2,3,5,4])
namespace Ty
def U_(ad:List Tok.Tk)(n:Nd):M Nat:=ak (need ad [59]) λ_=>addNode n
def UU(ad:List Tok.Tk)(E:M Nat)(f:Nat->Nd):M Nat:=ak E λv=>U_ ad (f v)
def O5(tx:BA)(ps v:Nat):Nd:={af 18 ps with text:=tx,a:=v}
def Mk(tx:BA)(ps a v:Nat):Nd:={af 19 ps with text:=tx,a:=a,b:=v}
def NZ(ps a b v:Nat):Nd:={af 20 ps with a:=a,b:=b,c:=(v:Int)}
def PF(ps a:Nat):Nd:={af 25 ps with a:=a}
def acr(ad:List Tok.Tk)(E:M Nat)(a kd fa fb:Nat)(tx:BA)(ps:Nat):M Nat:=λs=>
 if is ad [61] s.pos then
  if kd=5 then UU ad E (O5 tx ps) {s with ns:=s.ns.take a,pos:=s.pos+1}
  else if kd=8 then UU ad E (Mk tx ps fa) {s with ns:=s.ns.take a,pos:=s.pos+1}
  else if kd=9 then UU ad E (NZ ps fa fb) {s with ns:=s.ns.take a,pos:=s.pos+1}
  else .error (here ad 1 s.pos)
 else U_ ad (PF ps a) s
theorem I9{ad:List Tok.Tk}{E:M Nat}{st s:St}{a:Nat}(h:E st=.ok (a,s)):cq ad E st=acr ad E a (aY s a).kind (aY s a).a (aY s a).b (aY s a).text (aY s a).pos s:=by
 unfold cq;rw[aj h];show(if is ad [61] s.pos=true then _ else _:M Nat) s= _;unfold acr;by_cases h1:is ad [61] s.pos=true
 ·rw[if_pos h1,if_pos h1];by_cases h5: (aY s a).kind=5
  ·rw[if_pos h5,if_pos h5];rfl
  ·rw[if_neg h5,if_neg h5];by_cases h8: (aY s a).kind=8
   ·rw[if_pos h8,if_pos h8];rfl
   ·rw[if_neg h8,if_neg h8];by_cases h9: (aY s a).kind=9
    ·rw[if_pos h9,if_pos h9];rfl
    ·rw[if_neg h9,if_neg h9];rfl
 ·rw[if_neg h1,if_neg h1];rfl
end Ty
theorem Jr{w0 w:World}{Fr:As}{pb d:Nat}{ad:List Tok.Tk}{st:Ty.St}{T E O S:Ty.M Nat}(L:Lo ad d T E O S)(H:Sat w0 w [Fr,aT pb d ad st]){R:EW}
  (aD:∀n s2 w2,cq ad E st=.ok (n,s2)->Sat w0 w2 [Fr,aT pb d ad s2]->R (.returned (.int .i64 (n:Nat))) w2)
  (au:∀f w2,cq ad E st=.error f->Sat w0 w2 [Fr]->R (.panicked (aO f)) w2):
  Calls prog 212 #[.pointer (some ⟨pb,0,none⟩)] w R:=by
 have fL:=qh aD;have bX:=qh au;have HL:=qh L;have cm:=H.look;have kG:=cm.wf.1;have HS:=qh H;clear aD au H L cm;go_in;go_wp2_with fail;refine HL.o.e _ _ _ pb _ HS.o _ (λa s1 w1 hm h1=>?_) (λe w1 hm h1=>?_);rotate_left
 ·have HX:Hq (cq ad E st=.error e):=aL hm;have HZ:=qh h1;clear hm h1;go_wp2_with fail;exact⟨rfl,bX.o _ _ HX.o HZ.o⟩
 obtain⟨_,yZ,_⟩:=HL.o.ne _ _ _ hm;have cm:=h1.look;have qL:=cm.fits.2.2.2;have Yp:a<s1.ns.length:=by omega
 obtain⟨g,cap,lv,c3,hg,U1,Yt,hA,rF⟩:=h1.Ah Yp;obtain⟨la,lc,rfl⟩:=ag rF;obtain⟨q0,q1,q2,q3,q4,q5,q6,q7,q8⟩:=hA;have HE:=qh ((I9 hm:cq ad E st= _));generalize aY s1 a=t at*
 obtain⟨kd,fa,fb,fc,fl,tx,fn,abu,ps⟩:=t;clear rF;dsimp only at q0 q1 q2 q3 q4 q5 q6 q7 q8 HE;have H1:=qh h1;clear hm h1 cm;go_wp2_with fail;clear c3 q0 q1 q2 q3 q4 q5 q6 q7 q8 hg;refine lG _ 25 ps (λw2 aW=>?_);have h2:=(((H1.o.ar (.cells #[.int .i64 kd,.int .i64 fa,.int .i64 fb,.int .i64 fc,.slice la fl.length lc,.string tx,.int .i64 fn,.int .i64 abu,.int .i64 ps] 66) w1.heap.size).below aW).ar (.cells #[.int .i64 25,.int .i64 a,.int .i64 0,.int .i64 0,.slice none 0 0,.string ⟨#[]⟩,.int .i64 0,.int .i64 (-1),.int .i64 ps] 66) w2.heap.size)
 have Tv:=qh (λR hR=>pk _ pb d ad s1 (h2.pick [0,1]).look ⟨#[61]⟩ (R:=R) hR);have abp:Hq (Ty.is ad (⟨#[61]⟩:BA).data.toList s1.pos=true->s1.pos+1<ad.length):=is_lt (h2.pick [0,1]).look.fits.1 (h2.pick [0,1]).look.wf;have C7:Hq (cq ad E st=if Ty.is ad (⟨#[61]⟩:BA).data.toList s1.pos then
  if kd=5 then UU ad E (O5 tx ps) {s1 with ns:=s1.ns.take a,pos:=s1.pos+1}
  else if kd=8 then UU ad E (Mk tx ps fa) {s1 with ns:=s1.ns.take a,pos:=s1.pos+1}
  else if kd=9 then UU ad E (NZ ps fa fb) {s1 with ns:=s1.ns.take a,pos:=s1.pos+1}
  else .error (Ty.here ad 1 s1.pos)
 else U_ ad (PF ps a) s1):=HE.o
 have H2:=qh h2;clear aW h2 HE;go_wp2_with fail;refine Tv.o _ (λw3 cZ=>?_);have H3:=qh (H2.o.below cZ);generalize Ty.is ad (⟨#[61]⟩:BA).data.toList s1.pos=b at*
 clear cZ;have YC: (s1.ns.take a).length=a:=by rw[List.length_take];omega
 cases b
 ·rw[if_neg (by simp)]at C7
  go_wp2_with fail;refine cS (H3.o.at 1 rfl) ⟨#[59]⟩ (λw4 hm h4=>?_) (λe w4 hm h4=>?_);rotate_left
  ·have HX:Hq (cq ad E st=.error e):=C7.o.trans (aL hm);have HZ:=qh (h4.unpack 0 rfl);clear hm h4;go_wp2_with fail;exact⟨rfl,bX.o _ _ HX.o (HZ.o.pick [0])⟩
  have HX:Hq (cq ad E st=.ok (s1.ns.length,{s1 with pos:=s1.pos+1,ns:=s1.ns++[PF ps a]})):=C7.o.trans ((aj hm).trans rfl);have k4:=h4.oH;have q0:=k4.cell 3 0;have q1:=k4.cell 3 1;have q2:=k4.cell 3 2;have q3:=k4.cell 3 3;have q4:=k4.cell 3 4;have q5:=k4.cell 3 5;have q6:=k4.cell 3 6;have q7:=k4.cell 3 7;have q8:=k4.cell 3 8;have H4:=qh (k4.nil 3 1);clear hm h4 k4;go_wp2_with fail;refine bT (PF ps a) (.slice none 0 0) (H4.o.pick [0,1,4]) (by dsimp only;omega) (λTM kn=>?_);have wW:=qh kn;clear kn;go_wp2_with fail;exact fL.o _ _ _ HX.o wW.o
 ·rw[if_pos rfl]at C7
  have jH:=abp.o rfl;by_cases U0:kd=5
  ·subst U0;rw[if_pos rfl]at C7
   obtain⟨g5,Qs,c3,acB,acY,h5⟩:=(H3.o.at 1 rfl).ef Yp;have H5:=qh (h5.oH);obtain⟨_,_,f3⟩:=(H3.o.pick [0,1]).look.cells;have x0:=H3.o.cell 2 0;have y0:=H3.o.cell 3 0;have x1:=H3.o.cell 2 1;have y1:=H3.o.cell 3 1;have x2:=H3.o.cell 2 2;have y2:=H3.o.cell 3 2;have x5:=H3.o.cell 2 5;have y5:=H3.o.cell 3 5;have fz:=H3.o.free 3 rfl;clear h5;go_wp2_with fail
   go_region
   have h6:=(((H5.o.store 3 rfl 0 (.int .i64 18)).store 3 rfl 5 (.string tx)).store 3 rfl 1 (.int .i64 0)).drew;obtain⟨c1,_,f0⟩:=(h6.pick [0,1]).look.cells;have h7:=((h6.at 1 rfl).setPos (s1.pos+1) jH (Nat.le_succ _)).oH;rw[show((s1.pos+1:Nat):Int)=(s1.pos:Int)+1 from rfl]at h7
   obtain⟨s7,uS⟩:∃s':Ty.St,s'={s1 with ns:=s1.ns.take a,pos:=s1.pos+1}:=⟨_,rfl⟩
   have p7:s7.pos=s1.pos+1:=by rw[uS]
   have n7:s7.ns.length=a:=by rw[uS];exact YC
   have e7: ({pos:=s1.pos+1,ts:=s1.ts,ns:=s1.ns.take a}:Ty.St)=s7:=uS.symm;have OE:=C7.o;rw[e7]at OE
   have h7:Sat w0 _ [Fr,aT pb d ad s7,_,_]:=e7▸h7;have zR:=qh OE;have H7:=qh h7;clear h6 h7 e7 uS OE C7 c3 fz;dsimp only at c1;go_wp2_with fail;clear c1 f0;refine HL.o.e _ _ _ pb _ (H7.o.at 1 rfl) _ (λv s8 w8 hm h8=>?_) (λe w8 hm h8=>?_);rotate_left
   ·have HX:Hq (cq ad E st=.error e):=zR.o.trans (aL hm);have HZ:=qh (h8.unpack 0 rfl);clear hm h8;go_wp2_with fail;exact⟨rfl,bX.o _ _ HX.o (HZ.o.pick [0])⟩
   have Qp:=HL.o.ae _ _ _ hm;have JO:Hq (cq ad E st=U_ ad (O5 tx ps v) s8):=zR.o.trans (aj hm);have k8:=h8.oH;have u0:=k8.cell 3 0;have u1:=k8.cell 3 1;have f8:=k8.free 3 rfl;have m8:=k8.store 3 rfl 1 (.int .i64 (v:Nat));have H8:=qh m8;clear hm h8 k8 m8;go_wp2_with fail;clear u0 u1 f8;refine cS (H8.o.at 1 rfl) ⟨#[59]⟩ (λw9 hm h9=>?_) (λe w9 hm h9=>?_);rotate_left
   ·have HX:Hq (cq ad E st=.error e):=JO.o.trans (aL hm);have HZ:=qh (h9.unpack 0 rfl);clear hm h9;go_wp2_with fail;exact⟨rfl,bX.o _ _ HX.o (HZ.o.pick [0])⟩
   have HX:Hq (cq ad E st=.ok (s8.ns.length,{s8 with pos:=s8.pos+1,ns:=s8.ns++[O5 tx ps v]})):=JO.o.trans ((aj hm).trans rfl);have k9:=h9.oH;have q0:=k9.cell 3 0;have q1:=k9.cell 3 1;have q2:=k9.cell 3 2;have q3:=k9.cell 3 3;have q4:=k9.cell 3 4;have q5:=k9.cell 3 5;have q6:=k9.cell 3 6;have q7:=k9.cell 3 7;have q8:=k9.cell 3 8;have H9:=qh (k9.nil 3 1);clear hm h9 k9;go_wp2_with fail;refine bT (O5 tx ps v) (.slice none 0 0) (H9.o.pick [0,1,4]) (by dsimp only;omega) (λTM kn=>?_);have wW:=qh kn;clear kn;go_wp2_with fail;exact fL.o _ _ _ HX.o wW.o
  rw[if_neg U0]at C7
  have b5:=kN kd 5 5;by_cases Im:kd=8
  ·subst Im;rw[if_pos rfl]at C7
   obtain⟨g5,Qs,c3,acB,acY,h5⟩:=(H3.o.at 1 rfl).ef Yp;have H5:=qh (h5.oH);obtain⟨_,_,f3⟩:=(H3.o.pick [0,1]).look.cells;have x0:=H3.o.cell 2 0;have y0:=H3.o.cell 3 0;have x1:=H3.o.cell 2 1;have y1:=H3.o.cell 3 1;have x2:=H3.o.cell 2 2;have y2:=H3.o.cell 3 2;have x5:=H3.o.cell 2 5;have y5:=H3.o.cell 3 5;have fz:=H3.o.free 3 rfl;clear h5;go_wp2_with fail
   go_region
   have h6:=(((H5.o.store 3 rfl 0 (.int .i64 19)).store 3 rfl 5 (.string tx)).store 3 rfl 1 (.int .i64 fa)).drew;obtain⟨c1,_,f0⟩:=(h6.pick [0,1]).look.cells;have h7:=((h6.at 1 rfl).setPos (s1.pos+1) jH (Nat.le_succ _)).oH;rw[show((s1.pos+1:Nat):Int)=(s1.pos:Int)+1 from rfl]at h7
   obtain⟨s7,uS⟩:∃s':Ty.St,s'={s1 with ns:=s1.ns.take a,pos:=s1.pos+1}:=⟨_,rfl⟩
   have p7:s7.pos=s1.pos+1:=by rw[uS]
   have n7:s7.ns.length=a:=by rw[uS];exact YC
   have e7: ({pos:=s1.pos+1,ts:=s1.ts,ns:=s1.ns.take a}:Ty.St)=s7:=uS.symm;have OE:=C7.o;rw[e7]at OE
   have h7:Sat w0 _ [Fr,aT pb d ad s7,_,_]:=e7▸h7;have zR:=qh OE;have H7:=qh h7;clear h6 h7 e7 uS OE C7 c3 fz;dsimp only at c1;go_wp2_with fail;clear c1 f0;refine HL.o.e _ _ _ pb _ (H7.o.at 1 rfl) _ (λv s8 w8 hm h8=>?_) (λe w8 hm h8=>?_);rotate_left
   ·have HX:Hq (cq ad E st=.error e):=zR.o.trans (aL hm);have HZ:=qh (h8.unpack 0 rfl);clear hm h8;go_wp2_with fail;exact⟨rfl,bX.o _ _ HX.o (HZ.o.pick [0])⟩
   have Qp:=HL.o.ae _ _ _ hm;have JO:Hq (cq ad E st=U_ ad (Mk tx ps fa v) s8):=zR.o.trans (aj hm);have k8:=h8.oH;have u0:=k8.cell 3 0;have u1:=k8.cell 3 2;have f8:=k8.free 3 rfl;have m8:=k8.store 3 rfl 2 (.int .i64 (v:Nat));have H8:=qh m8;clear hm h8 k8 m8;go_wp2_with fail;clear u0 u1 f8;refine cS (H8.o.at 1 rfl) ⟨#[59]⟩ (λw9 hm h9=>?_) (λe w9 hm h9=>?_);rotate_left
   ·have HX:Hq (cq ad E st=.error e):=JO.o.trans (aL hm);have HZ:=qh (h9.unpack 0 rfl);clear hm h9;go_wp2_with fail;exact⟨rfl,bX.o _ _ HX.o (HZ.o.pick [0])⟩
   have HX:Hq (cq ad E st=.ok (s8.ns.length,{s8 with pos:=s8.pos+1,ns:=s8.ns++[Mk tx ps fa v]})):=JO.o.trans ((aj hm).trans rfl);have k9:=h9.oH;have q0:=k9.cell 3 0;have q1:=k9.cell 3 1;have q2:=k9.cell 3 2;have q3:=k9.cell 3 3;have q4:=k9.cell 3 4;have q5:=k9.cell 3 5;have q6:=k9.cell 3 6;have q7:=k9.cell 3 7;have q8:=k9.cell 3 8;have H9:=qh (k9.nil 3 1);clear hm h9 k9;go_wp2_with fail;refine bT (Mk tx ps fa v) (.slice none 0 0) (H9.o.pick [0,1,4]) (by dsimp only;omega) (λTM kn=>?_);have wW:=qh kn;clear kn;go_wp2_with fail;exact fL.o _ _ _ HX.o wW.o
  rw[if_neg Im]at C7
  have b8:=kN kd 8 8;by_cases Lr:kd=9
  ·subst Lr;rw[if_pos rfl]at C7
   obtain⟨g5,Qs,c3,acB,acY,h5⟩:=(H3.o.at 1 rfl).ef Yp;have H5:=qh (h5.oH);obtain⟨_,_,f3⟩:=(H3.o.pick [0,1]).look.cells;have x0:=H3.o.cell 2 0;have y0:=H3.o.cell 3 0;have x1:=H3.o.cell 2 1;have y1:=H3.o.cell 3 1;have x2:=H3.o.cell 2 2;have y2:=H3.o.cell 3 2;have x5:=H3.o.cell 2 5;have y5:=H3.o.cell 3 5;have fz:=H3.o.free 3 rfl;clear h5;go_wp2_with fail
   go_region
   have h6:=(((H5.o.store 3 rfl 0 (.int .i64 20)).store 3 rfl 1 (.int .i64 fa)).store 3 rfl 2 (.int .i64 fb)).drew;obtain⟨c1,_,f0⟩:=(h6.pick [0,1]).look.cells;have h7:=((h6.at 1 rfl).setPos (s1.pos+1) jH (Nat.le_succ _)).oH;rw[show((s1.pos+1:Nat):Int)=(s1.pos:Int)+1 from rfl]at h7
   obtain⟨s7,uS⟩:∃s':Ty.St,s'={s1 with ns:=s1.ns.take a,pos:=s1.pos+1}:=⟨_,rfl⟩
   have p7:s7.pos=s1.pos+1:=by rw[uS]
   have n7:s7.ns.length=a:=by rw[uS];exact YC
   have e7: ({pos:=s1.pos+1,ts:=s1.ts,ns:=s1.ns.take a}:Ty.St)=s7:=uS.symm;have OE:=C7.o;rw[e7]at OE
   have h7:Sat w0 _ [Fr,aT pb d ad s7,_,_]:=e7▸h7;have zR:=qh OE;have H7:=qh h7;clear h6 h7 e7 uS OE C7 c3 fz;dsimp only at c1;go_wp2_with fail;clear c1 f0;refine HL.o.e _ _ _ pb _ (H7.o.at 1 rfl) _ (λv s8 w8 hm h8=>?_) (λe w8 hm h8=>?_);rotate_left
   ·have HX:Hq (cq ad E st=.error e):=zR.o.trans (aL hm);have HZ:=qh (h8.unpack 0 rfl);clear hm h8;go_wp2_with fail;exact⟨rfl,bX.o _ _ HX.o (HZ.o.pick [0])⟩
   have Qp:=HL.o.ae _ _ _ hm;have JO:Hq (cq ad E st=U_ ad (NZ ps fa fb v) s8):=zR.o.trans (aj hm);have k8:=h8.oH;have u0:=k8.cell 3 0;have u1:=k8.cell 3 3;have f8:=k8.free 3 rfl;have m8:=k8.store 3 rfl 3 (.int .i64 (v:Nat));have H8:=qh m8;clear hm h8 k8 m8;go_wp2_with fail;clear u0 u1 f8;refine cS (H8.o.at 1 rfl) ⟨#[59]⟩ (λw9 hm h9=>?_) (λe w9 hm h9=>?_);rotate_left
   ·have HX:Hq (cq ad E st=.error e):=JO.o.trans (aL hm);have HZ:=qh (h9.unpack 0 rfl);clear hm h9;go_wp2_with fail;exact⟨rfl,bX.o _ _ HX.o (HZ.o.pick [0])⟩
   have HX:Hq (cq ad E st=.ok (s8.ns.length,{s8 with pos:=s8.pos+1,ns:=s8.ns++[NZ ps fa fb v]})):=JO.o.trans ((aj hm).trans rfl);have k9:=h9.oH;have q0:=k9.cell 3 0;have q1:=k9.cell 3 1;have q2:=k9.cell 3 2;have q3:=k9.cell 3 3;have q4:=k9.cell 3 4;have q5:=k9.cell 3 5;have q6:=k9.cell 3 6;have q7:=k9.cell 3 7;have q8:=k9.cell 3 8;have H9:=qh (k9.nil 3 1);clear hm h9 k9;go_wp2_with fail;refine bT (NZ ps fa fb v) (.slice none 0 0) (H9.o.pick [0,1,4]) (by dsimp only;omega) (λTM kn=>?_);have wW:=qh kn;clear kn;go_wp2_with fail;exact fL.o _ _ _ HX.o wW.o
  rw[if_neg Lr]at C7
  have b9:=kN kd 9 9;have x0:=H3.o.cell 2 0;clear U0 Im Lr;go_wp2_with fail;refine kK w3 pb d ad s1 (H3.o.pick [0,1]).look 1 (λw4 qW=>?_);have H4:=qh (H3.o.below qW);clear qW;go_wp2_with fail;exact⟨rfl,bX.o _ _ C7.o (H4.o.pick [0])⟩
end Go.Proofs.YtdlbhiaceheffabGreatDoor
