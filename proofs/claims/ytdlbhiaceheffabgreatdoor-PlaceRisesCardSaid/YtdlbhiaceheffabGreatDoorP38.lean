/- The parser's last nodes are cut off; walk of the parser's plain. -/
import Derived.Test.YtdlbhiaceheffabGreatDoorP37
set_option linter.all false
set_option maxRecDepth 100000
set_option maxHeartbeats 8000000
namespace Go.Proofs.YtdlbhiaceheffabGreatDoor
open Go Go.RowKit Ty Tok ak Tryz Proofs.Tryz
theorem Kg{e:TypeId}{size g n cap m:Nat}{xs:List Value}{a:ak.Hp}(hm:m≤n)(h:ak.row e size (.slice (some ⟨g,0,none⟩) n cap) n xs a):ak.row e size (.slice (some ⟨g,0,none⟩) m cap) m (xs.take (m*size)) a:=by
 obtain⟨h1,h2⟩:=h;have gT:m*size≤n*size:=Nat.mul_le_mul_right _ hm;refine⟨by rw[List.length_take];omega,?_⟩;rcases h2 with⟨h2,_⟩|⟨g',Ao,cur,e2,h3,h4,h5,h6,h7⟩
 ·cases h2
 ·cases e2;exact .inr ⟨g,cap,cur,rfl,h3,by omega,h5,h6,by rw[←h7,List.take_take,Nat.min_eq_left gT]⟩
theorem xr{α:Type}(f:α→List Value)(m:Nat)(hf:∀x,(f x).length=m):∀(l:List α)(n:Nat),(l.flatMap f).take (n*m)=(l.take n).flatMap f
 |[],n=>by simp
 |a::l,0=>by simp
 |a::l,n+1=>by
  rw[List.flatMap_cons,List.take_succ_cons,List.flatMap_cons,List.take_append,hf,List.take_of_length_le (by rw[hf,Nat.succ_mul];omega),show(n+1)*m-m=n*m by rw[Nat.succ_mul];omega,xr f m hf l n]
theorem Cs{L:List As}{a:ak.Hp}(m:Nat)(h:ah L a):ah (L.take m) a:=by
 rw[←List.take_append_drop m L]at h
 obtain⟨x,y,_,hx,_,h1,_⟩:=jw h;exact iX h1 hx
theorem ak.Sat.gG{w0 w:World}{Fr:As}{pb d:Nat}{ad:List Tok.Tk}{st:Ty.St}(h:Sat w0 w [Fr,aX pb d ad st]){n:Nat}(hn:n<st.ns.length):
  ∃g cap,w.cell? ⟨pb,3,none⟩=some (.slice (some ⟨g,0,none⟩) st.ns.length cap)∧st.ns.length≤cap∧cap≤maxLen∧Sat w0 (w.setCell ⟨pb,3,none⟩ (.slice (some ⟨g,0,none⟩) n cap)) [Fr,aX pb d ad {st with ns:=st.ns.take n}]:=by
 obtain⟨g,cap,lv,c3,hg,h2,h3,_,_⟩:=h.yP hn;obtain⟨⟨Nq,nv,tv,main⟩,rows,hs⟩:=(h.hZ (P:=λ_=>True) (λ_=>trivial)).Jj;have hs:Sat w0 w (Fr:: (λ_=>True)::Eo pb d ad st (Nq,nv,tv,main) st.ns.length (rows.flatMap eR) rows st.ns):=hs;have hq:=hs.pure 2 rfl;have hr:=hs.pure 6 rfl;have hl: (st.ns.take n).length=n:=by rw[List.length_take];omega
 have e3:=hs.cell 3 rfl 3 rfl;rw[c3]at e3
 dsimp only at e3;obtain rfl:=Option.some.inj e3;refine⟨g,cap,c3,h2,h3,?_⟩;have h:=hs.store 3 rfl 3 (.slice (some ⟨g,0,none⟩) n cap);have h:=h.cG (i:=7) rfl (Q:=ak.row 66 9 (.slice (some ⟨g,0,none⟩) n cap) (st.ns.take n).length ((rows.take n).flatMap eR)) (λa ha=>by rw[hl,←xr eR 9 (λ_=>rfl)];exact Kg (by omega) ha);have h:=h.cG (i:=6) rfl (Q:=cn ((rows.take n).map NdRow.t=st.ns.take n)) (λa _=>by show _= _;rw[List.map_take,hr]);have h:=h.cG (i:=8) rfl (Q:=ah ((rows.take n).map ru)) (λa ha=>by rw[List.map_take];exact Cs n ha);have h:=h.cG (i:=2) rfl (Q:=cn (pQ ad∧st.pos<ad.length∧d≤20∧st.ts.length≤st.pos∧(st.ns.take n).length≤st.pos+1)) (λa _=>⟨hq.1,hq.2.1,hq.2.2.1,hq.2.2.2.1,by omega⟩);have h:=Sat.pack (L:=[Fr,_,_,_,_]) (M:=[_,_,_]) (h.pick [0,2,3,4,5,6,7,8]);have h:=h.cG (i:=5) rfl (Q:=vV (.slice (some ⟨g,0,none⟩) n cap) (st.ns.take n)) (λa ha=>⟨_,ha⟩);exact Sat.mP (st:={st with ns:=st.ns.take n}) (p:=(Nq,.slice (some ⟨g,0,none⟩) n cap,tv,main)) (h.pick [0,1,2,3,5,4])
namespace Ty
def Q5(ad:List Tok.Tk)(n:Nd):M Nat:=ar (need ad [59]) λ_=>addNode n
def Hs(ad:List Tok.Tk)(E:M Nat)(f:Nat→Nd):M Nat:=ar E λv=>Q5 ad (f v)
def J8(tx:BA)(ps v:Nat):Nd:={af 18 ps with text:=tx,a:=v}
def IX(tx:BA)(ps a v:Nat):Nd:={af 19 ps with text:=tx,a:=a,b:=v}
def KN(ps a b v:Nat):Nd:={af 20 ps with a:=a,b:=b,c:=(v:Int)}
def LW(ps a:Nat):Nd:={af 25 ps with a:=a}
def xH(ad:List Tok.Tk)(E:M Nat)(a kd fa fb:Nat)(tx:BA)(ps:Nat):M Nat:=λs=>
 if is ad [61] s.pos then
  if kd=5 then Hs ad E (J8 tx ps) {s with ns:=s.ns.take a,pos:=s.pos+1}
  else if kd=8 then Hs ad E (IX tx ps fa) {s with ns:=s.ns.take a,pos:=s.pos+1}
  else if kd=9 then Hs ad E (KN ps fa fb) {s with ns:=s.ns.take a,pos:=s.pos+1}
  else .error (here ad 1 s.pos)
 else Q5 ad (LW ps a) s
theorem Gc{ad:List Tok.Tk}{E:M Nat}{st s:St}{a:Nat}(h:E st=.ok (a,s)):di ad E st=xH ad E a (cL s a).kind (cL s a).a (cL s a).b (cL s a).text (cL s a).pos s:=by
 unfold di;rw[aw h];show(if is ad [61] s.pos=true then _ else _:M Nat) s= _;unfold xH;by_cases h1:is ad [61] s.pos=true
 ·rw[if_pos h1,if_pos h1];by_cases h5: (cL s a).kind=5
  ·rw[if_pos h5,if_pos h5];rfl
  ·rw[if_neg h5,if_neg h5];by_cases h8: (cL s a).kind=8
   ·rw[if_pos h8,if_pos h8];rfl
   ·rw[if_neg h8,if_neg h8];by_cases h9: (cL s a).kind=9
    ·rw[if_pos h9,if_pos h9];rfl
    ·rw[if_neg h9,if_neg h9];rfl
 ·rw[if_neg h1,if_neg h1];rfl
end Ty
theorem FF{w0 w:World}{Fr:As}{pb d:Nat}{ad:List Tok.Tk}{st:Ty.St}{T E O S:Ty.M Nat}(L:Lo ad d T E O S)(H:Sat w0 w [Fr,aX pb d ad st]){R:EW}
  (aF:∀n s2 w2,di ad E st=.ok (n,s2)→Sat w0 w2 [Fr,aX pb d ad s2]→R (.returned (.int .i64 (n:Nat))) w2)
  (av:∀f w2,di ad E st=.error f→Sat w0 w2 [Fr]→R (.panicked (aJ f)) w2):
  Calls prog 212 #[.pointer (some ⟨pb,0,none⟩)] w R:=by
 have aY:=qh aF;have aB:=qh av;have HL:=qh L;have bD:=H.look;have jK:=bD.wf.1;have HS:=qh H;clear aF av H L bD;go_in;go_wp2_with fail;refine HL.o.e _ _ _ pb _ HS.o _ (λa s1 w1 hm h1=>?_) (λe w1 hm h1=>?_);rotate_left
 ·have HX:Hq (di ad E st=.error e):=aQ hm;have HZ:=qh h1;clear hm h1;go_wp2_with fail;exact⟨rfl,aB.o _ _ HX.o HZ.o⟩
 have pz:=HL.o.ae _ _ _ hm;obtain⟨_,vo,_⟩:=HL.o.ne _ _ _ hm;have bD:=h1.look;have fs:=bD.fits.1;have oY:=bD.fits.2.2.2;have jS:=bD.lt;have UT:a<s1.ns.length:=by omega
 obtain⟨g,cap,lv,c3,hg,ab8,TB,hA,qH⟩:=h1.yP UT;obtain⟨la,lc,rfl⟩:=ag qH;obtain⟨q0,q1,q2,q3,q4,q5,q6,q7,q8⟩:=hA;have HE:=qh ((Gc hm:di ad E st= _));generalize cL s1 a=t at*
 obtain⟨kd,fa,fb,fc,fl,tx,fn,aaU,ps⟩:=t;clear qH;dsimp only at q0 q1 q2 q3 q4 q5 q6 q7 q8 HE;have H1:=qh h1;clear hm h1 bD;go_wp2_with fail;clear c3 q0 q1 q2 q3 q4 q5 q6 q7 q8 hg;refine kn _ 25 ps (λw2 aI=>?_);have h2:=(((H1.o.aj (.cells #[.int .i64 kd,.int .i64 fa,.int .i64 fb,.int .i64 fc,.slice la fl.length lc,.string tx,.int .i64 fn,.int .i64 aaU,.int .i64 ps] 66) w1.heap.size).below aI).aj (.cells #[.int .i64 25,.int .i64 a,.int .i64 0,.int .i64 0,.slice none 0 0,.string ⟨#[]⟩,.int .i64 0,.int .i64 (-1),.int .i64 ps] 66) w2.heap.size)
 have Qp:=qh (λR hR=>nU _ pb d ad s1 (h2.pick [0,1]).look ⟨#[61]⟩ (R:=R) hR);have VW:Hq (Ty.is ad (⟨#[61]⟩:BA).data.toList s1.pos=true→s1.pos+1<ad.length):=is_lt (h2.pick [0,1]).look.fits.1 (h2.pick [0,1]).look.wf;have A4:Hq (di ad E st=if Ty.is ad (⟨#[61]⟩:BA).data.toList s1.pos then
  if kd=5 then Ty.Hs ad E (J8 tx ps) {s1 with ns:=s1.ns.take a,pos:=s1.pos+1}
  else if kd=8 then Ty.Hs ad E (IX tx ps fa) {s1 with ns:=s1.ns.take a,pos:=s1.pos+1}
  else if kd=9 then Ty.Hs ad E (KN ps fa fb) {s1 with ns:=s1.ns.take a,pos:=s1.pos+1}
  else .error (Ty.here ad 1 s1.pos)
 else Q5 ad (LW ps a) s1):=HE.o
 have H2:=qh h2;clear aI h2 HE;go_wp2_with fail;refine Qp.o _ (λw3 dD=>?_);have H3:=qh (H2.o.below dD);generalize Ty.is ad (⟨#[61]⟩:BA).data.toList s1.pos=b at*
 clear dD;have UR: (s1.ns.take a).length=a:=by rw[List.length_take];omega
 cases b
 ·rw[if_neg (by simp)]at A4
  go_wp2_with fail;refine cP (H3.o.at 1 rfl) ⟨#[59]⟩ (λw4 hm h4=>?_) (λe w4 hm h4=>?_);rotate_left
  ·have HX:Hq (di ad E st=.error e):=A4.o.trans (aQ hm);have HZ:=qh (h4.unpack (i:=0) rfl);clear hm h4;go_wp2_with fail;exact⟨rfl,aB.o _ _ HX.o (HZ.o.pick [0])⟩
  have HX:Hq (di ad E st=.ok (s1.ns.length,{s1 with pos:=s1.pos+1,ns:=s1.ns++[LW ps a]})):=A4.o.trans ((aw hm).trans rfl);have k4:=h4.ny;have q0:=k4.cell 3 rfl 0 rfl;have q1:=k4.cell 3 rfl 1 rfl;have q2:=k4.cell 3 rfl 2 rfl;have q3:=k4.cell 3 rfl 3 rfl;have q4:=k4.cell 3 rfl 4 rfl;have q5:=k4.cell 3 rfl 5 rfl;have q6:=k4.cell 3 rfl 6 rfl;have q7:=k4.cell 3 rfl 7 rfl;have q8:=k4.cell 3 rfl 8 rfl;have z4:=k4.lt 3 rfl;have H4:=qh (k4.nil 3 1);clear hm h4 k4;go_wp2_with fail;refine cd (LW ps a) (.slice none 0 0) (H4.o.pick [0,1,4]) (by dsimp only;omega) (λQx jj=>?_);have vg:=qh jj;clear jj;go_wp2_with fail;exact aY.o _ _ _ HX.o vg.o
 ·rw[if_pos rfl]at A4
  have jE:=VW.o rfl;by_cases WK:kd=5
  ·subst WK;rw[if_pos rfl]at A4
   obtain⟨g5,NF,c3,YV,Y2,h5⟩:=(H3.o.at 1 rfl).gG UT;have H5:=qh (h5.ny);obtain⟨_,_,f3⟩:=(H3.o.pick [0,1]).look.cells;have x0:=H3.o.cell 2 rfl 0 rfl;have y0:=H3.o.cell 3 rfl 0 rfl;have x1:=H3.o.cell 2 rfl 1 rfl;have y1:=H3.o.cell 3 rfl 1 rfl;have x2:=H3.o.cell 2 rfl 2 rfl;have y2:=H3.o.cell 3 rfl 2 rfl;have x5:=H3.o.cell 2 rfl 5 rfl;have y5:=H3.o.cell 3 rfl 5 rfl;have fz:=H3.o.free 3 rfl;have hz:=H3.o.lt 3 rfl;have Hm:=H3.o.lt 2 rfl;clear h5;go_wp2_with fail
   go_region
   have h6:=(((H5.o.store 3 rfl 0 (.int .i64 18)).store 3 rfl 5 (.string tx)).store 3 rfl 1 (.int .i64 0)).drew;obtain⟨c1,_,f0⟩:=(h6.pick [0,1]).look.cells;have h7:=((h6.at 1 rfl).setPos (s1.pos+1) jE (Nat.le_succ _)).ny;rw[show((s1.pos+1:Nat):Int)=(s1.pos:Int)+1 from rfl]at h7
   obtain⟨s7,tu⟩:∃s':Ty.St,s'={s1 with ns:=s1.ns.take a,pos:=s1.pos+1}:=⟨_,rfl⟩
   have p7:s7.pos=s1.pos+1:=by rw[tu]
   have n7:s7.ns.length=a:=by rw[tu];exact UR
   have e7: ({pos:=s1.pos+1,ts:=s1.ts,ns:=s1.ns.take a}:Ty.St)=s7:=tu.symm;have IF:=A4.o;rw[e7]at IF
   have h7:Sat w0 _ [Fr,aX pb d ad s7,_,_]:=e7▸h7;have xO:=qh IF;have H7:=qh h7;clear h6 h7 e7 tu IF A4 c3 fz;dsimp only at c1;go_wp2_with fail;clear c1 f0;refine HL.o.e _ _ _ pb _ (H7.o.at 1 rfl) _ (λv s8 w8 hm h8=>?_) (λe w8 hm h8=>?_);rotate_left
   ·have HX:Hq (di ad E st=.error e):=xO.o.trans (aQ hm);have HZ:=qh (h8.unpack (i:=0) rfl);clear hm h8;go_wp2_with fail;exact⟨rfl,aB.o _ _ HX.o (HZ.o.pick [0])⟩
   have Nz:=HL.o.ae _ _ _ hm;have FO:Hq (di ad E st=Q5 ad (J8 tx ps v) s8):=xO.o.trans (aw hm);have k8:=h8.ny;have u0:=k8.cell 3 rfl 0 rfl;have u1:=k8.cell 3 rfl 1 rfl;have f8:=k8.free 3 rfl;have z8:=k8.lt 3 rfl;have m8:=k8.store 3 rfl 1 (.int .i64 (v:Nat));have H8:=qh m8;clear hm h8 k8 m8;go_wp2_with fail;clear u0 u1 f8;refine cP (H8.o.at 1 rfl) ⟨#[59]⟩ (λw9 hm h9=>?_) (λe w9 hm h9=>?_);rotate_left
   ·have HX:Hq (di ad E st=.error e):=FO.o.trans (aQ hm);have HZ:=qh (h9.unpack (i:=0) rfl);clear hm h9;go_wp2_with fail;exact⟨rfl,aB.o _ _ HX.o (HZ.o.pick [0])⟩
   have HX:Hq (di ad E st=.ok (s8.ns.length,{s8 with pos:=s8.pos+1,ns:=s8.ns++[J8 tx ps v]})):=FO.o.trans ((aw hm).trans rfl);have k9:=h9.ny;have q0:=k9.cell 3 rfl 0 rfl;have q1:=k9.cell 3 rfl 1 rfl;have q2:=k9.cell 3 rfl 2 rfl;have q3:=k9.cell 3 rfl 3 rfl;have q4:=k9.cell 3 rfl 4 rfl;have q5:=k9.cell 3 rfl 5 rfl;have q6:=k9.cell 3 rfl 6 rfl;have q7:=k9.cell 3 rfl 7 rfl;have q8:=k9.cell 3 rfl 8 rfl;have z9:=k9.lt 3 rfl;have H9:=qh (k9.nil 3 1);clear hm h9 k9;go_wp2_with fail;refine cd (J8 tx ps v) (.slice none 0 0) (H9.o.pick [0,1,4]) (by dsimp only;omega) (λQx jj=>?_);have vg:=qh jj;clear jj;go_wp2_with fail;exact aY.o _ _ _ HX.o vg.o
  rw[if_neg WK]at A4
  have b5: ((kd:Int)==5)=false:=beq_eq_false_iff_ne.2 (by omega);by_cases JW:kd=8
  ·subst JW;rw[if_pos rfl]at A4
   obtain⟨g5,NF,c3,YV,Y2,h5⟩:=(H3.o.at 1 rfl).gG UT;have H5:=qh (h5.ny);obtain⟨_,_,f3⟩:=(H3.o.pick [0,1]).look.cells;have x0:=H3.o.cell 2 rfl 0 rfl;have y0:=H3.o.cell 3 rfl 0 rfl;have x1:=H3.o.cell 2 rfl 1 rfl;have y1:=H3.o.cell 3 rfl 1 rfl;have x2:=H3.o.cell 2 rfl 2 rfl;have y2:=H3.o.cell 3 rfl 2 rfl;have x5:=H3.o.cell 2 rfl 5 rfl;have y5:=H3.o.cell 3 rfl 5 rfl;have fz:=H3.o.free 3 rfl;have hz:=H3.o.lt 3 rfl;have Hm:=H3.o.lt 2 rfl;clear h5;go_wp2_with fail
   go_region
   have h6:=(((H5.o.store 3 rfl 0 (.int .i64 19)).store 3 rfl 5 (.string tx)).store 3 rfl 1 (.int .i64 fa)).drew;obtain⟨c1,_,f0⟩:=(h6.pick [0,1]).look.cells;have h7:=((h6.at 1 rfl).setPos (s1.pos+1) jE (Nat.le_succ _)).ny;rw[show((s1.pos+1:Nat):Int)=(s1.pos:Int)+1 from rfl]at h7
   obtain⟨s7,tu⟩:∃s':Ty.St,s'={s1 with ns:=s1.ns.take a,pos:=s1.pos+1}:=⟨_,rfl⟩
   have p7:s7.pos=s1.pos+1:=by rw[tu]
   have n7:s7.ns.length=a:=by rw[tu];exact UR
   have e7: ({pos:=s1.pos+1,ts:=s1.ts,ns:=s1.ns.take a}:Ty.St)=s7:=tu.symm;have IF:=A4.o;rw[e7]at IF
   have h7:Sat w0 _ [Fr,aX pb d ad s7,_,_]:=e7▸h7;have xO:=qh IF;have H7:=qh h7;clear h6 h7 e7 tu IF A4 c3 fz;dsimp only at c1;go_wp2_with fail;clear c1 f0;refine HL.o.e _ _ _ pb _ (H7.o.at 1 rfl) _ (λv s8 w8 hm h8=>?_) (λe w8 hm h8=>?_);rotate_left
   ·have HX:Hq (di ad E st=.error e):=xO.o.trans (aQ hm);have HZ:=qh (h8.unpack (i:=0) rfl);clear hm h8;go_wp2_with fail;exact⟨rfl,aB.o _ _ HX.o (HZ.o.pick [0])⟩
   have Nz:=HL.o.ae _ _ _ hm;have FO:Hq (di ad E st=Q5 ad (IX tx ps fa v) s8):=xO.o.trans (aw hm);have k8:=h8.ny;have u0:=k8.cell 3 rfl 0 rfl;have u1:=k8.cell 3 rfl 2 rfl;have f8:=k8.free 3 rfl;have z8:=k8.lt 3 rfl;have m8:=k8.store 3 rfl 2 (.int .i64 (v:Nat));have H8:=qh m8;clear hm h8 k8 m8;go_wp2_with fail;clear u0 u1 f8;refine cP (H8.o.at 1 rfl) ⟨#[59]⟩ (λw9 hm h9=>?_) (λe w9 hm h9=>?_);rotate_left
   ·have HX:Hq (di ad E st=.error e):=FO.o.trans (aQ hm);have HZ:=qh (h9.unpack (i:=0) rfl);clear hm h9;go_wp2_with fail;exact⟨rfl,aB.o _ _ HX.o (HZ.o.pick [0])⟩
   have HX:Hq (di ad E st=.ok (s8.ns.length,{s8 with pos:=s8.pos+1,ns:=s8.ns++[IX tx ps fa v]})):=FO.o.trans ((aw hm).trans rfl);have k9:=h9.ny;have q0:=k9.cell 3 rfl 0 rfl;have q1:=k9.cell 3 rfl 1 rfl;have q2:=k9.cell 3 rfl 2 rfl;have q3:=k9.cell 3 rfl 3 rfl;have q4:=k9.cell 3 rfl 4 rfl;have q5:=k9.cell 3 rfl 5 rfl;have q6:=k9.cell 3 rfl 6 rfl;have q7:=k9.cell 3 rfl 7 rfl;have q8:=k9.cell 3 rfl 8 rfl;have z9:=k9.lt 3 rfl;have H9:=qh (k9.nil 3 1);clear hm h9 k9;go_wp2_with fail;refine cd (IX tx ps fa v) (.slice none 0 0) (H9.o.pick [0,1,4]) (by dsimp only;omega) (λQx jj=>?_);have vg:=qh jj;clear jj;go_wp2_with fail;exact aY.o _ _ _ HX.o vg.o
  rw[if_neg JW]at A4
  have b8: ((kd:Int)==8)=false:=beq_eq_false_iff_ne.2 (by omega);by_cases Ns:kd=9
  ·subst Ns;rw[if_pos rfl]at A4
   obtain⟨g5,NF,c3,YV,Y2,h5⟩:=(H3.o.at 1 rfl).gG UT;have H5:=qh (h5.ny);obtain⟨_,_,f3⟩:=(H3.o.pick [0,1]).look.cells;have x0:=H3.o.cell 2 rfl 0 rfl;have y0:=H3.o.cell 3 rfl 0 rfl;have x1:=H3.o.cell 2 rfl 1 rfl;have y1:=H3.o.cell 3 rfl 1 rfl;have x2:=H3.o.cell 2 rfl 2 rfl;have y2:=H3.o.cell 3 rfl 2 rfl;have x5:=H3.o.cell 2 rfl 5 rfl;have y5:=H3.o.cell 3 rfl 5 rfl;have fz:=H3.o.free 3 rfl;have hz:=H3.o.lt 3 rfl;have Hm:=H3.o.lt 2 rfl;clear h5;go_wp2_with fail
   go_region
   have h6:=(((H5.o.store 3 rfl 0 (.int .i64 20)).store 3 rfl 1 (.int .i64 fa)).store 3 rfl 2 (.int .i64 fb)).drew;obtain⟨c1,_,f0⟩:=(h6.pick [0,1]).look.cells;have h7:=((h6.at 1 rfl).setPos (s1.pos+1) jE (Nat.le_succ _)).ny;rw[show((s1.pos+1:Nat):Int)=(s1.pos:Int)+1 from rfl]at h7
   obtain⟨s7,tu⟩:∃s':Ty.St,s'={s1 with ns:=s1.ns.take a,pos:=s1.pos+1}:=⟨_,rfl⟩
   have p7:s7.pos=s1.pos+1:=by rw[tu]
   have n7:s7.ns.length=a:=by rw[tu];exact UR
   have e7: ({pos:=s1.pos+1,ts:=s1.ts,ns:=s1.ns.take a}:Ty.St)=s7:=tu.symm;have IF:=A4.o;rw[e7]at IF
   have h7:Sat w0 _ [Fr,aX pb d ad s7,_,_]:=e7▸h7;have xO:=qh IF;have H7:=qh h7;clear h6 h7 e7 tu IF A4 c3 fz;dsimp only at c1;go_wp2_with fail;clear c1 f0;refine HL.o.e _ _ _ pb _ (H7.o.at 1 rfl) _ (λv s8 w8 hm h8=>?_) (λe w8 hm h8=>?_);rotate_left
   ·have HX:Hq (di ad E st=.error e):=xO.o.trans (aQ hm);have HZ:=qh (h8.unpack (i:=0) rfl);clear hm h8;go_wp2_with fail;exact⟨rfl,aB.o _ _ HX.o (HZ.o.pick [0])⟩
   have Nz:=HL.o.ae _ _ _ hm;have FO:Hq (di ad E st=Q5 ad (KN ps fa fb v) s8):=xO.o.trans (aw hm);have k8:=h8.ny;have u0:=k8.cell 3 rfl 0 rfl;have u1:=k8.cell 3 rfl 3 rfl;have f8:=k8.free 3 rfl;have z8:=k8.lt 3 rfl;have m8:=k8.store 3 rfl 3 (.int .i64 (v:Nat));have H8:=qh m8;clear hm h8 k8 m8;go_wp2_with fail;clear u0 u1 f8;refine cP (H8.o.at 1 rfl) ⟨#[59]⟩ (λw9 hm h9=>?_) (λe w9 hm h9=>?_);rotate_left
   ·have HX:Hq (di ad E st=.error e):=FO.o.trans (aQ hm);have HZ:=qh (h9.unpack (i:=0) rfl);clear hm h9;go_wp2_with fail;exact⟨rfl,aB.o _ _ HX.o (HZ.o.pick [0])⟩
   have HX:Hq (di ad E st=.ok (s8.ns.length,{s8 with pos:=s8.pos+1,ns:=s8.ns++[KN ps fa fb v]})):=FO.o.trans ((aw hm).trans rfl);have k9:=h9.ny;have q0:=k9.cell 3 rfl 0 rfl;have q1:=k9.cell 3 rfl 1 rfl;have q2:=k9.cell 3 rfl 2 rfl;have q3:=k9.cell 3 rfl 3 rfl;have q4:=k9.cell 3 rfl 4 rfl;have q5:=k9.cell 3 rfl 5 rfl;have q6:=k9.cell 3 rfl 6 rfl;have q7:=k9.cell 3 rfl 7 rfl;have q8:=k9.cell 3 rfl 8 rfl;have z9:=k9.lt 3 rfl;have H9:=qh (k9.nil 3 1);clear hm h9 k9;go_wp2_with fail;refine cd (KN ps fa fb v) (.slice none 0 0) (H9.o.pick [0,1,4]) (by dsimp only;omega) (λQx jj=>?_);have vg:=qh jj;clear jj;go_wp2_with fail;exact aY.o _ _ _ HX.o vg.o
  rw[if_neg Ns]at A4
  have b9: ((kd:Int)==9)=false:=beq_eq_false_iff_ne.2 (by omega);have x0:=H3.o.cell 2 rfl 0 rfl;clear WK JW Ns;go_wp2_with fail;refine ml w3 pb d ad s1 (H3.o.pick [0,1]).look 1 (λw4 yG=>?_);have H4:=qh (H3.o.below yG);clear yG;go_wp2_with fail;exact⟨rfl,aB.o _ _ A4.o (H4.o.pick [0])⟩
end Go.Proofs.YtdlbhiaceheffabGreatDoor
