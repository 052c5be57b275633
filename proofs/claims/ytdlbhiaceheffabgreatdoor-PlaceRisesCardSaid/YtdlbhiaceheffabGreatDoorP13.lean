/- Nodes that are read; walks of the parser's of, start, two. -/
import Derived.Test.YtdlbhiaceheffabGreatDoorP10
import Derived.Test.YtdlbhiaceheffabGreatDoorP12
set_option linter.all false
set_option maxRecDepth 100000
set_option maxHeartbeats 4000000
namespace Go.Proofs.YtdlbhiaceheffabGreatDoor
open Go Go.RowKit Ty Tok ak Tryz Proofs.Tryz
theorem jD{α:Type}(f:α→List Value)(m:Nat)(hf:∀x,(f x).length=m):∀(l:List α)(n:Nat)(hn:n<l.length)(i:Nat),i<m→(l.flatMap f)[n*m+i]?=(f l[n])[i]?
 |[],n,hn,_,_=>by simp at hn
 |a::l,0,_,i,hi=>by
  rw[List.flatMap_cons,List.getElem?_append_left (by rw[hf];omega)];simp
 |a::l,n+1,hn,i,hi=>by
  have e: (n+1)*m+i-m=n*m+i:=by rw[Nat.succ_mul];omega
  rw[List.flatMap_cons,List.getElem?_append_right (by rw[hf,Nat.succ_mul];omega),hf,e];exact jD f m hf l n (by simpa using hn) i hi
structure NRd(w:World)(v:Value)(rows:List NdRow):Prop where
 row:w.ownsRow 0 66 9 v rows.length (rows.flatMap eR)
 bits:∀r∈rows,w.ownsRow 0 3 1 r.lv r.t.list.length (r.t.list.map aS)
theorem NRd.below{w w':World}{v:Value}{rows:List NdRow}(h:NRd w v rows)(hb:Below w.heap.size w w'):NRd w' v rows:=
 ⟨az h.row hb,λr hr=>az (h.bits r hr) hb⟩
structure NdAt(w:World)(g n:Nat)(t:Ty.Nd)(lv:Value):Prop where
 q0:w.cell? ⟨g,n*9,none⟩=some (.int .i64 t.kind)
 q1:w.cell? ⟨g,n*9+1,none⟩=some (.int .i64 t.a)
 q2:w.cell? ⟨g,n*9+2,none⟩=some (.int .i64 t.b)
 q3:w.cell? ⟨g,n*9+3,none⟩=some (.int .i64 t.c)
 q4:w.cell? ⟨g,n*9+4,none⟩=some lv
 q5:w.cell? ⟨g,n*9+5,none⟩=some (.string t.text)
 q6:w.cell? ⟨g,n*9+6,none⟩=some (.int .i64 t.n)
 q7:w.cell? ⟨g,n*9+7,none⟩=some (.int .i64 t.ty)
 q8:w.cell? ⟨g,n*9+8,none⟩=some (.int .i64 t.pos)
theorem NRd.look{w:World}{v:Value}{rows:List NdRow}{ns:List Ty.Nd}(h:NRd w v rows)(xm:rows.map NdRow.t=ns){n:Nat}(hn:n<ns.length):
  ∃(g cap:Nat)(lv:Value),v=.slice (some ⟨g,0,none⟩) ns.length cap∧g<w.heap.size∧ns.length≤cap∧cap≤maxLen∧NdAt w g n ns[n] lv∧w.ownsRow 0 3 1 lv ns[n].list.length (ns[n].list.map aS):=by
 have hl:rows.length=ns.length:=by rw[←xm];simp
 have A':n<rows.length:=by omega
 obtain⟨g,cap,hv,_,hg⟩:=h.row.form (by omega);have hc:=World.ownsRow.cells h.row (g:=g) (by rw[hv];rfl);have hcap:rows.length≤cap∧cap≤maxLen:=by
  rcases h.row.2 with⟨_,h0⟩|⟨g',Ao,cur,e4,_,_,h5,h6,_⟩
  ·omega
  ·rw[hv]at e4;cases e4;exact⟨h5,h6⟩
 have ht:rows[n].t=ns[n]:=by subst xm;simp
 have key:∀i,i<9→∀x,(eR rows[n])[i]?=some x→w.cell? ⟨g,n*9+i,none⟩=some x:=λi hi x hx=>by
  have:=hc (n*9+i) x (by rw[jD eR 9 (λ_=>rfl) rows n A' i hi];exact hx);rwa [Addr.add_lit,Nat.zero_add]at this
 refine⟨g,cap,rows[n].lv,by rw[hv,hl],hg,by omega,hcap.2,⟨?_,?_,?_,?_,?_,?_,?_,?_,?_⟩,?_⟩
 ·exact key 0 (by omega) _ (by rw[←ht];rfl)
 ·exact key 1 (by omega) _ (by rw[←ht];rfl)
 ·exact key 2 (by omega) _ (by rw[←ht];rfl)
 ·exact key 3 (by omega) _ (by rw[←ht];rfl)
 ·exact key 4 (by omega) _ rfl
 ·exact key 5 (by omega) _ (by rw[←ht];rfl)
 ·exact key 6 (by omega) _ (by rw[←ht];rfl)
 ·exact key 7 (by omega) _ (by rw[←ht];rfl)
 ·exact key 8 (by omega) _ (by rw[←ht];rfl)
 ·rw[←ht];exact h.bits _ (gM _)
theorem ak.Sat.mM{w0 w:World}{L:List As}(h:Sat w0 w L)(i:Nat){v:Value}{ns:List Ty.Nd}(hi:L[i]?=some (vV v ns)):∃rows,rows.map NdRow.t=ns∧NRd w v rows:=by
 refine h.get hi λa ha hl=>?_
 obtain⟨rows,x,y,_,_,hy,hp,z,u,_,hz,hu,h1,q,_,_,hq,_,qH,_⟩:=ha;have e:ns.length=rows.length:=by have:=congrArg List.length (show rows.map NdRow.t=ns from hp);simpa using this.symm
 have Zu:ak.le y (ak.hp w):=ak.le_trans hy hl;refine⟨rows,hp,⟨?_,λr hr=>?_⟩⟩
 ·rw[←e];exact iF (iC h1 (ak.le_trans hz Zu))
 ·obtain⟨b,hb,sE⟩:=wm qH _ (List.mem_map_of_mem (f:=λr:NdRow=>eZ r.lv r.t.list) hr);exact iF (iC sE (ak.le_trans hb (ak.le_trans hq (ak.le_trans hu Zu))))
theorem N2{st:Ty.St}{n:Nat}(hn:n<st.ns.length):cL st n=st.ns[n]:=by unfold cL;rw[List.getElem?_eq_getElem hn];rfl
section
variable {w0 w:World} {Fr:As} {pb d:Nat} {ad:List Tok.Tk} {st:Ty.St}
theorem ak.Sat.yP(h:Sat w0 w [Fr,aX pb d ad st]){n:Nat}(hn:n<st.ns.length):∃(g cap:Nat)(lv:Value),w.cell? ⟨pb,3,none⟩=some (.slice (some ⟨g,0,none⟩) st.ns.length cap)∧g<w.heap.size∧st.ns.length≤cap∧cap≤maxLen∧NdAt w g n (cL st n) lv∧w.ownsRow 0 3 1 lv (cL st n).list.length ((cL st n).list.map aS):=by
 obtain⟨⟨Nq,nv,tv,main⟩,h⟩:=h.oM;obtain⟨rows,hr,DL⟩:=h.mM 4 rfl;obtain⟨g,cap,lv,e,h1,h2,h3,h4,h5⟩:=DL.look hr hn;have c3:=h.cell 2 rfl 3 rfl;dsimp only at e c3;subst e;rw[N2 hn];exact⟨g,cap,lv,c3,h1,h2,h3,h4,h5⟩
theorem kn(w:World)(kind pos:Nat){R:EW}(hR:∀w',Below w.heap.size w w'→R (.returned (.agg #[.int .i64 kind,.int .i64 0,.int .i64 0,.int .i64 0,.slice none 0 0,.string ⟨#[]⟩,.int .i64 0,.int .i64 (-1),.int .i64 pos])) w'):
  Calls prog 74 #[.int .i64 kind,.int .i64 pos] w R:=by
 have HR:=qh hR;clear hR;go_in;go_wp2_with fail;refine bodyPost_ret ?_ rfl (HR.o _ ?_)
 ·simp[results,results74,go_sem]
 ·first|exact(bR _ _).alloc (nR _) _|(repeat' (first|exact bR _ _|apply Below.drew|apply Below.setCell|apply Below.alloc|(simp;done)|(simp;omega)|omega))
theorem wy(H:Sat w0 w [Fr,aX pb d ad st]){n:Nat}(hn:n<st.ns.length){R:EW}(hR:R (.returned (.int .i64 (cL st n).pos)) w):
  Calls prog 320 #[.pointer (some ⟨pb,0,none⟩),.int .i64 (n:Nat)] w R:=by
 have HR:=qh hR;have bD:=H.look;have bm:=bD.lt;have xm:st.ns.length≤1002:=by have:=bD.fits;have:=bD.wf.1;omega
 obtain⟨g,cap,lv,c3,hg,h2,h3,hA,_⟩:=H.yP hn;obtain⟨_,_,_,_,_,_,_,_,q8⟩:=hA;generalize cL st n=t at*
 clear hR H bD;go_in;go_wp2_with fail;exact HR.o
theorem yy(H:Sat w0 w [Fr,aX pb d ad st])(x:BA){a b:Nat}(ha:a<st.ns.length)(hb:st.ns.length≤st.pos){R:EW}
  (hR:∀n s2 w',Ty.two x a b st=.ok (n,s2)→Sat w0 w' [Fr,aX pb d ad s2]→R (.returned (.int .i64 (n:Nat))) w'):
  Calls prog 282 #[.pointer (some ⟨pb,0,none⟩),.string x,.int .i64 (a:Nat),.int .i64 (b:Nat)] w R:=by
 have HR:=qh hR;have HS:=qh H;have HA:=qh ha;have HB:=qh hb;clear hR H ha hb;go_in;go_wp2_with fail;refine wy HS.o HA.o ?_;have HE:Hq (Ty.two x a b st=.ok (st.ns.length,{st with ns:=st.ns++[{Ty.af 12 (cL st a).pos with text:=x,a:=a,b:=b}]})):=rfl;generalize(cL st a).pos=ps at*
 go_wp2_with fail;refine kn w 12 ps (λw1 df=>?_);have H1:=qh (HS.o.below df);clear df;go_wp2_with fail;refine cd {Ty.af 12 ps with text:=x,a:=a,b:=b} (.slice none 0 0) ((H1.o.aU _).nil 3 1) HB.o (λw2 h2=>?_);have H2:=qh h2;clear h2;go_wp2_with fail;exact HR.o _ _ _ HE.o H2.o
end
def lZ(ad:List Tok.Tk)(l:List BA)(pos:Nat):Bool:=l.any λx=>Ty.is ad x.data.toList pos
theorem F7(w:World)(pb d:Nat)(ad:List Tok.Tk)(st:Ty.St)(h:PRd w pb d ad st)(g:Nat)(l:List BA)(hl:l.length≤10)(hg:g<w.heap.size)(tW:∀j(hj:j<l.length),w.cell? ⟨g,j,none⟩=some (.string l[j])){R:EW}
  (oq:∀(r:Nat) w',Below w.heap.size w w'→lZ ad l st.pos=true→r≤10→R (.returned (.int .i64 r)) w') (fV:∀w',Below w.heap.size w w'→lZ ad l st.pos=false→R (.returned (.int .i64 (-1))) w'):
  Calls prog 343 #[.slice (some ⟨g,0,none⟩) l.length l.length,.func (.func 210) #[.pointer (some ⟨pb,0,none⟩)] #[]] w R:=by
 have HY:=qh oq;have yA:=qh fV;have HC:=qh tW;have HP:=qh h;have hc:=Tryz.call210;clear oq fV tW h;go_in;go_wp2_with fail;go_loopw [8] (λi wr=>∃k:Nat,k≤l.length∧i=.int .i64 k∧Hq (Below w.heap.size w wr)∧Hq (∀j(hj:j<l.length),j<k→Ty.is ad l[j].data.toList st.pos=false)) (λi _=>l.length-(intOf i).toNat)
 case atStart=>exact⟨0,by omega,rfl,bR _ _,λj hj h=>by omega⟩
 case round=>
  obtain⟨k,hk,rfl,hb,hf⟩:=hrel;have ac1:g<wr.heap.size:=nL hg hb.out.size;by_cases bm:k<l.length
  ·have d0:=(hb.out.cell (p:=⟨g,k,none⟩) hg).trans (HC.o k bm);have HT:Hq (Ty.is ad l[k].data.toList st.pos=true→lZ ad l st.pos=true):=λh=>List.any_eq_true.2 ⟨l[k],gM bm,h⟩
   have HN:Hq (Ty.is ad l[k].data.toList st.pos=false→∀j(hj:j<l.length),j<k+1→Ty.is ad l[j].data.toList st.pos=false):=λh j hj Hx=>by
    by_cases e:j=k
    ·subst e;exact h
    ·exact hf.out j hj (by omega)
   generalize l[k]=x at*
   go_wp2_with fail;refine nU wr pb d ad st (HP.o.below hb.out) x (λw2 aI=>?_);have c8:=qh (hb.out.trans (aI.mono hb.out.size));clear aI;generalize Ty.is ad x.data.toList st.pos=fk at*
   cases fk
   ·have J6:=qh (HN.o rfl);go_wp2_with fail;go_roundw
    case rel=>exact⟨k+1,by omega,by go_num,c8,J6⟩
    case measure=>simp[intOf];omega
   ·have FJ:=qh (HT.o rfl);go_wp2_with fail;exact HY.o k _ c8.o FJ.o (by omega)
  ·have nn:k=l.length:=by omega
   have HN:Hq (lZ ad l st.pos=false):=by
    show _= _;unfold lZ;rw[List.any_eq_false];intro x hx;obtain⟨j,hj,rfl⟩:=List.mem_iff_getElem.1 hx;rw[hf.out j hj (by omega)];simp
   clear nn;go_wp2_with fail;exact yA.o _ hb.out HN.o
theorem wk(w:World)(pb d:Nat)(ad:List Tok.Tk)(st:Ty.St)(h:PRd w pb d ad st)(g:Nat)(l:List BA)(hl:l.length≤10)(hg:g<w.heap.size)(tW:∀j(hj:j<l.length),w.cell? ⟨g,j,none⟩=some (.string l[j])){R:EW}
  (hR:∀w',Below w.heap.size w w'→R (.returned (.bool (lZ ad l st.pos))) w'):
  Calls prog 334 #[.slice (some ⟨g,0,none⟩) l.length l.length,.func (.func 210) #[.pointer (some ⟨pb,0,none⟩)] #[]] w R:=by
 have HR:=qh hR;clear hR;have HX:=qh (λR h1 h2=>@F7 w pb d ad st h g l hl hg tW R h1 h2);clear tW h hg;go_in;go_wp2_with fail;refine HX.o _ (λr w1 hb ha hr=>?_) (λw1 hb ha=>?_)
 ·rw[ha]at HR
  have HB:=qh hb;clear ha hb;go_wp2_with fail;exact HR.o _ HB.o
 ·rw[ha]at HR
  have HB:=qh hb;clear ha hb;go_wp2_with fail;exact HR.o _ HB.o
theorem zR{ad:List Tok.Tk}{l:List BA}{pos:Nat}(hp:pos<ad.length)(hl:pQ ad)(h:lZ ad l pos=true):pos+1<ad.length:=by
 obtain⟨x,_,hx⟩:=List.any_eq_true.1 h;exact is_lt hp hl hx
theorem xd(ad:List Tok.Tk)(l:List BA)(pos:Nat): (l.map λx=>x.data.toList).any (λx=>Ty.is ad x pos)=lZ ad l pos:=by
 unfold lZ;rw[List.any_map];rfl
theorem Pk(w0 w:World)(Fr:As)(pb d sb:Nat)(ad:List Tok.Tk)(st:Ty.St)(one:Ty.M Nat)(hA:bg 1 0 0 one)(hN:Nx one)(bn:List BA)(H':bn.length≤10)(F:FuncId)(c:Value)
  (hc:∀(args:Array Value)(w:World),(callFunc F args).run prog w=.ok (.enter F args) w)
  (LK:∀w1,Sat w0 w1 [Fr]→sb<w1.heap.size∧∀j(hj:j<bn.length),w1.cell? ⟨sb,j,none⟩=some (.string bn[j]))
  (yq:∀s w1,Sat w0 w1 [Fr,aX pb d ad s]→∀R:EW,
   (∀n s2 w2,one s=.ok (n,s2)→Sat w0 w2 [Fr,aX pb d ad s2]→R (.returned (.int .i64 (n:Nat))) w2)→
   (∀f w2,one s=.error f→Sat w0 w2 [Fr]→R (.panicked (aJ f)) w2)→Calls prog F #[c] w1 R)
  (H:Sat w0 w [Fr,aX pb d ad st]) {R:EW}
  (aF:∀n s2 w2,Ty.left ad one (bn.map λx=>x.data.toList) st=.ok (n,s2)→Sat w0 w2 [Fr,aX pb d ad s2]→R (.returned (.int .i64 (n:Nat))) w2)
  (av:∀f w2,Ty.left ad one (bn.map λx=>x.data.toList) st=.error f→Sat w0 w2 [Fr]→R (.panicked (aJ f)) w2):
  Calls prog 317 #[.pointer (some ⟨pb,0,none⟩),.func (.func F) #[] #[c],.slice (some ⟨sb,0,none⟩) bn.length bn.length] w R:=by
 have aY:=qh aF;have aB:=qh av;have Eb:=qh yq;have XX:=qh LK;have HA:=qh hA;have vh:=qh hN;have bD:=H.look;have jK:=bD.wf.1;have E7:=qh bD.wf;have HS:=qh H;clear aF av yq LK hA hN H bD;go_in;go_wp2_with fail;refine Eb.o _ _ HS.o _ (λn s1 w1 hm h1=>?_) (λe w1 hm h1=>?_);rotate_left
 ·have HM:=qh hm;have H1:=qh h1;clear hm h1;go_wp2_with fail;exact⟨rfl,aB.o _ _ (by rw[Ty.left,aQ HM.o]) H1.o⟩
 have kN:=(vh.o _ _ _ hm).2.1;have pK:=h1.look.fits.1;have v_:Hq (Ty.left ad one (bn.map λx=>x.data.toList) st=cV ad one (bn.map λx=>x.data.toList) (ad.length+1) n s1):=by show _= _;rw[Ty.left,aw hm]
 have H1:=qh h1;clear hm h1;go_wp2_with fail;go_loopw [7] (λv wr=>∃(f n:Nat)(s:Ty.St),v=.int .i64 n∧s.pos<ad.length∧ad.length<s.pos+f∧n+1=s.ns.length∧Hq (Sat w0 wr [Fr,aX pb d ad s])∧Hq (Ty.left ad one (bn.map λx=>x.data.toList) st=cV ad one (bn.map λx=>x.data.toList) f n s))
  (λ_ wr=>ad.length-posOf pb wr)
 case atStart=>exact⟨ad.length+1,n,s1,rfl,pK,by omega,kN,H1.o,v_.o⟩
 case round=>
  obtain⟨f,n,s,rfl,hp,hf,hn,hS,hE⟩:=hrel;obtain⟨f,rfl⟩:∃g,f=g+1:=⟨f-1,by omega⟩
  have oH:=qh (dm hS.out.look);have oY:=hS.out.look.fits.2.2.2;obtain⟨SP,OC⟩:=XX.o wr (hS.out.pick [0]);have HL:=qh hS.out.look;have Dw:Ty.left ad one (bn.map λx=>x.data.toList) st=if lZ ad bn s.pos=true then(Ty.ar one λb=>Ty.ar (Ty.two (Ty.cur ad s.pos).text n b) λm=>cV ad one (bn.map λx=>x.data.toList) f m) {s with pos:=s.pos+1}else .ok (n,s):=by
   rw[hE.out,cV,Ty.look,xd];split<;>rfl
  have WZ:=qh (λw1(hb:Below wr.heap.size wr w1) R hR=>@wk w1 pb d ad s (HL.o.below hb) sb bn H' (nL SP hb.size) (λj hj=>(hb.cell (p:=⟨sb,j,none⟩) SP).trans (OC j hj)) R hR);have bm:=λh=>zR (l:=bn) hp E7.o h
  have HN:=qh (λR hR=>@gN wr pb d ad s HL.o R hR);generalize lZ ad bn s.pos=ai at*
  generalize Ty.cur ad s.pos=t at*
  obtain⟨kd,tx,ps⟩:=t;dsimp only at Dw;have fZ:=qh Dw;have Q6:=oF;clear Dw hE OC;go_wp2_with fail;refine HN.o _ (λw2 aI=>?_);dsimp only[cr];have c8:=qh aI;clear aI;go_wp2_with fail;refine WZ.o w2 c8.o _ (λw3 dD=>?_);have cU:=qh (c8.o.trans (dD.mono c8.o.size));clear dD;cases ai
  ·have jB:Hq (Ty.left ad one (bn.map λx=>x.data.toList) st=.ok (n,s)):=by show _= _;rw[fZ.o];rfl
   go_wp2_with fail;exact aY.o _ _ _ jB.o (hS.out.below cU.o)
  ·have jE:=bm rfl;have jB:Hq (Ty.left ad one (bn.map λx=>x.data.toList) st=(Ty.ar one λb=>Ty.ar (Ty.two tx n b) λm=>cV ad one (bn.map λx=>x.data.toList) f m) {s with pos:=s.pos+1}):=by show _= _;rw[fZ.o];rfl
   have h3:=hS.out.below cU.o;obtain⟨c1,_,f0⟩:=h3.look.cells;have Ys:=h3.look.lt;have H3:=qh (h3.setPos (s.pos+1) jE (by omega));clear bm h3;go_wp2_with fail;refine Eb.o _ _ H3.o _ (λb s4 w4 hm h4=>?_) (λe w4 hm h4=>?_)
   ·have pz:=HA.o _ _ _ hm;have vo:=vh.o _ _ _ hm;have v7:=vo.1.length_le;have sN:Hq (Ty.left ad one (bn.map λx=>x.data.toList) st=(Ty.ar (Ty.two tx n b) λm=>cV ad one (bn.map λx=>x.data.toList) f m) s4):=by show _= _;rw[jB.o,aw hm]
    have H4:=qh h4;dsimp only at pz v7;clear hm h4 vo;go_wp2_with fail;refine yy H4.o tx (by omega) (by omega) (λm s5 w5 hm h5=>?_);have qU:Hq (Ty.left ad one (bn.map λx=>x.data.toList) st=cV ad one (bn.map λx=>x.data.toList) f m s5):=by show _= _;rw[sN.o,aw hm]
    have E6:=(Nx.two tx n b _ _ _ hm).2.1;have TK:=bg.two tx n b _ _ _ hm;have R_:=h5.look.fits.1;have PL:=qh (dm h5.look);have H5:=qh h5;clear hm h5;go_wp2_with fail;go_roundw
    case rel=>exact⟨f,m,s5,rfl,R_,by omega,E6,H5.o,qU.o⟩
    case measure=>rw[oH.o,PL.o];omega
   ·have sN:Hq (Ty.left ad one (bn.map λx=>x.data.toList) st=.error e):=by show _= _;rw[jB.o,aQ hm]
    have H4:=qh h4;clear hm h4;go_wp2_with fail;exact⟨rfl,aB.o _ _ sN.o H4.o⟩
theorem O0(w0 w:World)(Fr:As)(pb d sb:Nat)(ad:List Tok.Tk)(st:Ty.St)(one:Ty.M Nat)(hA:bg 1 0 0 one)(hN:Nx one)(bn:List BA)(H':bn.length≤10)(F:FuncId)(c:Value)
  (hc:∀(args:Array Value)(w:World),(callFunc F args).run prog w=.ok (.enter F args) w)
  (LK:∀w1,Sat w0 w1 [Fr]→sb<w1.heap.size∧∀j(hj:j<bn.length),w1.cell? ⟨sb,j,none⟩=some (.string bn[j]))
  (yq:∀s w1,Sat w0 w1 [Fr,aX pb d ad s]→∀R:EW,
   (∀n s2 w2,one s=.ok (n,s2)→Sat w0 w2 [Fr,aX pb d ad s2]→R (.returned (.int .i64 (n:Nat))) w2)→
   (∀f w2,one s=.error f→Sat w0 w2 [Fr]→R (.panicked (aJ f)) w2)→Calls prog F #[c] w1 R)
  (H:Sat w0 w [Fr,aX pb d ad st]) {R:EW}
  (aF:∀n s2 w2,Ty.left ad one (bn.map λx=>x.data.toList) st=.ok (n,s2)→Sat w0 w2 [Fr,aX pb d ad s2]→R (.returned (.int .i64 (n:Nat))) w2)
  (av:∀f w2,Ty.left ad one (bn.map λx=>x.data.toList) st=.error f→Sat w0 w2 [Fr]→R (.panicked (aJ f)) w2):
  Calls prog 317 #[.pointer (some ⟨pb,0,none⟩),.func (.func F) #[c] #[],.slice (some ⟨sb,0,none⟩) bn.length bn.length] w R:=by
 have aY:=qh aF;have aB:=qh av;have Eb:=qh yq;have XX:=qh LK;have HA:=qh hA;have vh:=qh hN;have bD:=H.look;have jK:=bD.wf.1;have E7:=qh bD.wf;have HS:=qh H;clear aF av yq LK hA hN H bD;go_in;go_wp2_with fail;refine Eb.o _ _ HS.o _ (λn s1 w1 hm h1=>?_) (λe w1 hm h1=>?_);rotate_left
 ·have HM:=qh hm;have H1:=qh h1;clear hm h1;go_wp2_with fail;exact⟨rfl,aB.o _ _ (by rw[Ty.left,aQ HM.o]) H1.o⟩
 have kN:=(vh.o _ _ _ hm).2.1;have pK:=h1.look.fits.1;have v_:Hq (Ty.left ad one (bn.map λx=>x.data.toList) st=cV ad one (bn.map λx=>x.data.toList) (ad.length+1) n s1):=by show _= _;rw[Ty.left,aw hm]
 have H1:=qh h1;clear hm h1;go_wp2_with fail;go_loopw [7] (λv wr=>∃(f n:Nat)(s:Ty.St),v=.int .i64 n∧s.pos<ad.length∧ad.length<s.pos+f∧n+1=s.ns.length∧Hq (Sat w0 wr [Fr,aX pb d ad s])∧Hq (Ty.left ad one (bn.map λx=>x.data.toList) st=cV ad one (bn.map λx=>x.data.toList) f n s))
  (λ_ wr=>ad.length-posOf pb wr)
 case atStart=>exact⟨ad.length+1,n,s1,rfl,pK,by omega,kN,H1.o,v_.o⟩
 case round=>
  obtain⟨f,n,s,rfl,hp,hf,hn,hS,hE⟩:=hrel;obtain⟨f,rfl⟩:∃g,f=g+1:=⟨f-1,by omega⟩
  have oH:=qh (dm hS.out.look);have oY:=hS.out.look.fits.2.2.2;obtain⟨SP,OC⟩:=XX.o wr (hS.out.pick [0]);have HL:=qh hS.out.look;have Dw:Ty.left ad one (bn.map λx=>x.data.toList) st=if lZ ad bn s.pos=true then(Ty.ar one λb=>Ty.ar (Ty.two (Ty.cur ad s.pos).text n b) λm=>cV ad one (bn.map λx=>x.data.toList) f m) {s with pos:=s.pos+1}else .ok (n,s):=by
   rw[hE.out,cV,Ty.look,xd];split<;>rfl
  have WZ:=qh (λw1(hb:Below wr.heap.size wr w1) R hR=>@wk w1 pb d ad s (HL.o.below hb) sb bn H' (nL SP hb.size) (λj hj=>(hb.cell (p:=⟨sb,j,none⟩) SP).trans (OC j hj)) R hR);have bm:=λh=>zR (l:=bn) hp E7.o h
  have HN:=qh (λR hR=>@gN wr pb d ad s HL.o R hR);generalize lZ ad bn s.pos=ai at*
  generalize Ty.cur ad s.pos=t at*
  obtain⟨kd,tx,ps⟩:=t;dsimp only at Dw;have fZ:=qh Dw;have Q6:=oF;clear Dw hE OC;go_wp2_with fail;refine HN.o _ (λw2 aI=>?_);dsimp only[cr];have c8:=qh aI;clear aI;go_wp2_with fail;refine WZ.o w2 c8.o _ (λw3 dD=>?_);have cU:=qh (c8.o.trans (dD.mono c8.o.size));clear dD;cases ai
  ·have jB:Hq (Ty.left ad one (bn.map λx=>x.data.toList) st=.ok (n,s)):=by show _= _;rw[fZ.o];rfl
   go_wp2_with fail;exact aY.o _ _ _ jB.o (hS.out.below cU.o)
  ·have jE:=bm rfl;have jB:Hq (Ty.left ad one (bn.map λx=>x.data.toList) st=(Ty.ar one λb=>Ty.ar (Ty.two tx n b) λm=>cV ad one (bn.map λx=>x.data.toList) f m) {s with pos:=s.pos+1}):=by show _= _;rw[fZ.o];rfl
   have h3:=hS.out.below cU.o;obtain⟨c1,_,f0⟩:=h3.look.cells;have Ys:=h3.look.lt;have H3:=qh (h3.setPos (s.pos+1) jE (by omega));clear bm h3;go_wp2_with fail;refine Eb.o _ _ H3.o _ (λb s4 w4 hm h4=>?_) (λe w4 hm h4=>?_)
   ·have pz:=HA.o _ _ _ hm;have vo:=vh.o _ _ _ hm;have v7:=vo.1.length_le;have sN:Hq (Ty.left ad one (bn.map λx=>x.data.toList) st=(Ty.ar (Ty.two tx n b) λm=>cV ad one (bn.map λx=>x.data.toList) f m) s4):=by show _= _;rw[jB.o,aw hm]
    have H4:=qh h4;dsimp only at pz v7;clear hm h4 vo;go_wp2_with fail;refine yy H4.o tx (by omega) (by omega) (λm s5 w5 hm h5=>?_);have qU:Hq (Ty.left ad one (bn.map λx=>x.data.toList) st=cV ad one (bn.map λx=>x.data.toList) f m s5):=by show _= _;rw[sN.o,aw hm]
    have E6:=(Nx.two tx n b _ _ _ hm).2.1;have TK:=bg.two tx n b _ _ _ hm;have R_:=h5.look.fits.1;have PL:=qh (dm h5.look);have H5:=qh h5;clear hm h5;go_wp2_with fail;go_roundw
    case rel=>exact⟨f,m,s5,rfl,R_,by omega,E6,H5.o,qU.o⟩
    case measure=>rw[oH.o,PL.o];omega
   ·have sN:Hq (Ty.left ad one (bn.map λx=>x.data.toList) st=.error e):=by show _= _;rw[jB.o,aQ hm]
    have H4:=qh h4;clear hm h4;go_wp2_with fail;exact⟨rfl,aB.o _ _ sN.o H4.o⟩
def Ul(ad:List Tok.Tk)(d:Nat)(O:Ty.M Nat):Prop:=
 ∀(w0 w:World)(Fr:As)(pb:Nat)(st:Ty.St),Sat w0 w [Fr,aX pb d ad st]→∀R:EW,
  (∀n st2 w2,O st=.ok (n,st2)→Sat w0 w2 [Fr,aX pb d ad st2]→R (.returned (.int .i64 (n:Nat))) w2)→
  (∀f w2,O st=.error f→Sat w0 w2 [Fr]→R (.panicked (aJ f)) w2)→Calls prog 130 #[.pointer (some ⟨pb,0,none⟩),.func (.func 319) #[.pointer (some ⟨pb,0,none⟩)] #[]] w R
structure Lo(ad:List Tok.Tk)(d:Nat)(T E O S:Ty.M Nat):Prop where
 t:eB 120 ad d T
 e:eB 209 ad d E
 o:Ul ad d O
 s:eB 76 ad d S
 at':bg 1 0 0 T
 ae:bg 1 0 0 E
 ao:bg 1 0 0 O
 O2:bg 1 0 0 S
 pt:bW T
 ne:Nx E
 no:Nx O
 ns:Nx S
section
variable {w0 w:World} {Fr:As} {pb d:Nat} {ad:List Tok.Tk} {st:Ty.St} {T E O S:Ty.M Nat}
theorem nI(L:Lo ad d T E O S)(H:Sat w0 w [Fr,aX pb d ad st]){R:EW}
  (aF:∀(n:Int) s2 w2,Ty.written ad T st=.ok (n,s2)→Sat w0 w2 [Fr,aX pb d ad s2]→R (.returned (.int .i64 n)) w2)
  (av:∀f w2,Ty.written ad T st=.error f→Sat w0 w2 [Fr]→R (.panicked (aJ f)) w2):
  Calls prog 207 #[.pointer (some ⟨pb,0,none⟩)] w R:=by
 have aY:=qh aF;have aB:=qh av;have HS:=qh H;have HT:=qh L.t;clear aF av H L;go_in;go_wp2_with fail;refine cD HS.o ⟨#[58]⟩ (λw1 hi h1=>?_) (λw1 hi h1=>?_)
 ·have HI:=qh hi;have H1:=qh h1;clear hi h1;go_wp2_with fail;refine HT.o _ _ _ pb _ H1.o _ (λn s2 w2 hm h2=>?_) (λe w2 hm h2=>?_)
  ·have HM:=qh hm;have H2:=qh h2;clear hm h2;go_wp2_with fail;exact aY.o _ _ _ (by rw[Ty.written,aw HI.o,if_pos rfl,aw HM.o];rfl) H2.o
  ·have HM:=qh hm;have H2:=qh h2;clear hm h2;go_wp2_with fail;exact⟨rfl,aB.o _ _ (by rw[Ty.written,aw HI.o,if_pos rfl,aQ HM.o]) H2.o⟩
 ·have HI:=qh hi;have H1:=qh h1;clear hi h1;go_wp2_with fail;exact aY.o (-1) _ _ (by rw[Ty.written,aw HI.o,if_neg (by simp)];rfl) H1.o
end
def rh(k a p:Int)(lv:Value):Obj:=.cells #[.int .i64 k,.int .i64 a,.int .i64 0,.int .i64 0,lv,.string ⟨#[]⟩,.int .i64 0,.int .i64 (-1),.int .i64 p] 66 (0,0)
def LI(pb nb xb:Nat)(k a p:Int)(l:List Nat):As:=cA λv:Value=>ah [ay nb (rh k a p v),eZ v l,pL pb xb]
theorem ak.Sat.yr{w0 w:World}{A B:As}{pb nb xb:Nat}{k a p:Int}{l:List Nat}(H:Sat w0 w [A,B,LI pb nb xb k a p l]):∃v,Sat w0 w [A,B,ay nb (rh k a p v),eZ v l,pL pb xb]:=by
 obtain⟨v,hs⟩:=H.ex (i:=2) rfl;exact⟨v,hs.unpack (i:=2) rfl⟩
theorem Av(w0 w:World)(Fr:As)(pb nb xb d:Nat)(ad:List Tok.Tk)(E:Ty.M Nat)(eO:eB 209 ad d E)(k0 a0 p0:Int)
  (l:List Nat) (s:Ty.St) (H:Sat w0 w [Fr,aX pb d ad s,LI pb nb xb k0 a0 p0 l]) (hl:l.length≤s.pos) {R:EW}
  (aF:∀n s2 w2,E s=.ok (n,s2)→Sat w0 w2 [Fr,aX pb d ad s2,LI pb nb xb k0 a0 p0 (l++[n])]→R (.returned (.tuple #[])) w2)
  (av:∀f w2,E s=.error f→Sat w0 w2 [Fr]→R (.panicked (aJ f)) w2):
  Calls prog 344 #[.pointer (some ⟨nb,0,none⟩),.pointer (some ⟨xb,0,none⟩)] w R:=by
 have aY:=qh aF;have aB:=qh av;have bD:=H.pO;have fs:=bD.fits.1;have jK:=bD.wf.1;obtain⟨v,hs⟩:=H.yr;obtain⟨a,dr,rfl⟩:=ag (hs.row 3 rfl);have c1:=hs.cell 2 rfl 4 rfl;have c2:=hs.cell 4 rfl 0 rfl;have HS:=qh (eO w0 w.drew _ pb s (hs.drew.at 1 rfl));obtain⟨i0,ti,mx,mu,mw⟩:=info_parts jo;clear aF av eO H bD hs;go_in;go_wp2_with fail;go_region_law(first|(go_simp;go_at_call 209;refine HS.o _ (λn s2 w2 hm h2=>?_) (λf w2 hm h2=>⟨rfl,aB.o _ _ hm ((h2.unpack (i:=0) rfl).pick [0])⟩);have h3:Sat w0 w2 [Fr,aX pb d ad s2,ay nb (rh k0 a0 p0 (.slice a l.length dr)),eZ (.slice a l.length dr) l,pL pb xb]:=(Sat.tR (L:=[Fr,aX pb d ad s,ay nb (rh k0 a0 p0 (.slice a l.length dr)),eZ (.slice a l.length dr) l,pL pb xb]) (i:=1) (by simp) h2);have d1:=h3.cell 2 rfl 4 rfl;have d2:=(h3.aU (.cells #[.int .i64 n] 3)).cell 2 rfl 4 rfl;have H3:=qh h3;clear h2 h3)|(go_loud(refine step_append_lies _ (by rfl) _ _ _ (by rfl) 0 3 i0 _ 1 8 underlying39 ti mx mu mw rfl (by omega) (.slice a l.length dr) l.length (l.map aS) (by rfl) ((H3.o.row 3 rfl).alloc _) ⟨w2.heap.size,0,none⟩ 1 1 [.int .i64 n] (by rfl) (by rfl) (World.news_of_block (cs:=#[.int .i64 n]) (t:=3) (fr:=(0,0)) (aH _ _ _ (by simp))) (by simp[Value.oneCell']) (by omega) (by unfold maxLen;omega) (by omega) (by simp) (w2.heap.size+1) (by simp) ?_);intro g cap w3 eA dU pw yR;have h4:=Sat.grow (H3.o.aU _) 3 rfl dU eA (by simpa using pw);have d3:=h4.cell 2 rfl 4 rfl;have f3:=h4.free 2 rfl 4;have H4:=qh h4;clear h4))
 all_goals
  clear eA dU;go_wp2_with fail;go_end0;exact aY.o n s2 _ hm (((H4.o.store 2 rfl 4 _).cG (i:=3) rfl (Q:=eZ (.slice (some ⟨g,0,none⟩) (l.length+1) cap) (l++[n])) (λ_ h=>iJ h)|>Sat.pack (L:=[Fr,aX pb d ad s2])).cG (i:=2) rfl (λ_ h=>⟨_,h⟩))
theorem zn(w0 w:World)(Fr:As)(pb nb xb d:Nat)(ad:List Tok.Tk)(E:Ty.M Nat)(eO:eB 209 ad d E)(k0 a0 p0:Int)
  (l:List Nat) (s:Ty.St) (H:Sat w0 w [Fr,aX pb d ad s,LI pb nb xb k0 a0 p0 l]) (hl:l.length≤s.pos) {R:EW}
  (aF:∀n s2 w2,E s=.ok (n,s2)→Sat w0 w2 [Fr,aX pb d ad s2,LI pb nb xb k0 a0 p0 (l++[n])]→R (.returned (.tuple #[])) w2)
  (av:∀f w2,E s=.error f→Sat w0 w2 [Fr]→R (.panicked (aJ f)) w2):
  Calls prog 347 #[.pointer (some ⟨nb,0,none⟩),.pointer (some ⟨xb,0,none⟩)] w R:=by
 have aY:=qh aF;have aB:=qh av;have bD:=H.pO;have fs:=bD.fits.1;have jK:=bD.wf.1;obtain⟨v,hs⟩:=H.yr;obtain⟨a,dr,rfl⟩:=ag (hs.row 3 rfl);have c1:=hs.cell 2 rfl 4 rfl;have c2:=hs.cell 4 rfl 0 rfl;have HS:=qh (eO w0 w.drew _ pb s (hs.drew.at 1 rfl));obtain⟨i0,ti,mx,mu,mw⟩:=info_parts jo;clear aF av eO H bD hs;go_in;go_wp2_with fail;go_region_law(first|(go_simp;go_at_call 209;refine HS.o _ (λn s2 w2 hm h2=>?_) (λf w2 hm h2=>⟨rfl,aB.o _ _ hm ((h2.unpack (i:=0) rfl).pick [0])⟩);have h3:Sat w0 w2 [Fr,aX pb d ad s2,ay nb (rh k0 a0 p0 (.slice a l.length dr)),eZ (.slice a l.length dr) l,pL pb xb]:=(Sat.tR (L:=[Fr,aX pb d ad s,ay nb (rh k0 a0 p0 (.slice a l.length dr)),eZ (.slice a l.length dr) l,pL pb xb]) (i:=1) (by simp) h2);have d1:=h3.cell 2 rfl 4 rfl;have d2:=(h3.aU (.cells #[.int .i64 n] 3)).cell 2 rfl 4 rfl;have H3:=qh h3;clear h2 h3)|(go_loud(refine step_append_lies _ (by rfl) _ _ _ (by rfl) 0 3 i0 _ 1 8 underlying39 ti mx mu mw rfl (by omega) (.slice a l.length dr) l.length (l.map aS) (by rfl) ((H3.o.row 3 rfl).alloc _) ⟨w2.heap.size,0,none⟩ 1 1 [.int .i64 n] (by rfl) (by rfl) (World.news_of_block (cs:=#[.int .i64 n]) (t:=3) (fr:=(0,0)) (aH _ _ _ (by simp))) (by simp[Value.oneCell']) (by omega) (by unfold maxLen;omega) (by omega) (by simp) (w2.heap.size+1) (by simp) ?_);intro g cap w3 eA dU pw yR;have h4:=Sat.grow (H3.o.aU _) 3 rfl dU eA (by simpa using pw);have d3:=h4.cell 2 rfl 4 rfl;have f3:=h4.free 2 rfl 4;have H4:=qh h4;clear h4))
 all_goals
  clear eA dU;go_wp2_with fail;go_end0;exact aY.o n s2 _ hm (((H4.o.store 2 rfl 4 _).cG (i:=3) rfl (Q:=eZ (.slice (some ⟨g,0,none⟩) (l.length+1) cap) (l++[n])) (λ_ h=>iJ h)|>Sat.pack (L:=[Fr,aX pb d ad s2])).cG (i:=2) rfl (λ_ h=>⟨_,h⟩))
namespace Ty
def Up(ad:List Tok.Tk)(T E:M Nat)(f a p:Nat):M Nat:=ar (list ad [41] (λ_=>E) (ad.length+1) []) λl=>ar (addNode {af 7 p with a:=a,list:=l}) λm=>behind ad T E f m
def UN(ad:List Tok.Tk)(T E:M Nat)(f a p:Nat):M Nat:=ar (name ad []) λx=>ar (addNode {af 8 p with a:=a,text:=x}) λm=>behind ad T E f m
def Uf(ad:List Tok.Tk)(T E:M Nat)(f a p:Nat):M Nat:=ar E λc=>ar (need ad [93]) λ_=>ar (addNode {af 9 p with a:=a,b:=c}) λm=>behind ad T E f m
def T5(ad:List Tok.Tk)(T E:M Nat)(f a p:Nat):M Nat:=ar T λt=>ar (addNode {af 14 p with a:=a,ty:=(t:Int)}) λm=>behind ad T E f m
section
variable {ad:List Tok.Tk} {T E:M Nat} {f a:Nat} {s s1:St}
theorem XY(h:take ad [40] s=.ok (true,s1)):behind ad T E (f+1) a s=Up ad T E f a (cL s a).pos s1:=by
 rw[behind];show ar _ _ s= _;rw[aw h];rfl
theorem U8(h0:take ad [40] s=.ok (false,s))(h:take ad [46] s=.ok (true,s1)):behind ad T E (f+1) a s=UN ad T E f a (cL s a).pos s1:=by
 rw[behind];show ar _ _ s= _;rw[aw h0];show ar _ _ s= _;rw[aw h];rfl
theorem Vo(h0:take ad [40] s=.ok (false,s))(h1:take ad [46] s=.ok (false,s))(h:take ad [91] s=.ok (true,s1)):behind ad T E (f+1) a s=Uf ad T E f a (cL s a).pos s1:=by
 rw[behind];show ar _ _ s= _;rw[aw h0];show ar _ _ s= _;rw[aw h1];show ar _ _ s= _;rw[aw h];rfl
theorem VK(h0:take ad [40] s=.ok (false,s))(h1:take ad [46] s=.ok (false,s))(h2:take ad [91] s=.ok (false,s))(h:take ad [97,115] s=.ok (true,s1)):behind ad T E (f+1) a s=T5 ad T E f a (cL s a).pos s1:=by
 rw[behind];show ar _ _ s= _;rw[aw h0];show ar _ _ s= _;rw[aw h1];show ar _ _ s= _;rw[aw h2];show ar _ _ s= _;rw[aw h];rfl
theorem VF(h0:take ad [40] s=.ok (false,s))(h1:take ad [46] s=.ok (false,s))(h2:take ad [91] s=.ok (false,s))(h3:take ad [97,115] s=.ok (false,s)):behind ad T E (f+1) a s=.ok (a,s):=by
 rw[behind];show ar _ _ s= _;rw[aw h0];show ar _ _ s= _;rw[aw h1];show ar _ _ s= _;rw[aw h2];show ar _ _ s= _;rw[aw h3];rfl
end
end Ty
theorem I6(w:World):w.ownsRow 0 9 1 (.slice none 0 0) ([]:List BA).length (([]:List BA).map Value.string):=⟨rfl,.inl ⟨rfl,rfl⟩⟩
theorem ak.Sat.rE{w0 w:World}{Fr P X B A:As}(h:Sat w0 w [Fr,P,X,B,A]):Sat w0 w [ah [Fr,X,B],P,A]:=(Sat.pack (L:=[_,_]) (M:=[_,_,_]) (h.pick [1,4,0,2,3])).pick [2,0,1]
theorem ak.Sat.uv{w0 w:World}{Fr P X B:As}(h:Sat w0 w [ah [Fr,X,B],P]):Sat w0 w [Fr,P,X]:=(h.unpack (i:=0) rfl).pick [1,0,2]
theorem Dl{w0 w:World}{Fr:As}{pb d:Nat}{ad:List Tok.Tk}{st:Ty.St}{T E O S:Ty.M Nat}(L:Lo ad d T E O S)(H:Sat w0 w [Fr,aX pb d ad st]){a0:Nat}(ha:a0+1=st.ns.length){R:EW}
  (aF:∀n s2 w2,Ty.behind ad T E (ad.length+1) a0 st=.ok (n,s2)→Sat w0 w2 [Fr,aX pb d ad s2]→R (.returned (.int .i64 (n:Nat))) w2)
  (av:∀f w2,Ty.behind ad T E (ad.length+1) a0 st=.error f→Sat w0 w2 [Fr]→R (.panicked (aJ f)) w2):
  Calls prog 335 #[.pointer (some ⟨pb,0,none⟩),.int .i64 (a0:Nat)] w R:=by
 have aY:=qh aF;have aB:=qh av;have HL:=qh L;have bD:=H.look;have jK:=bD.wf.1;have fs:=bD.fits.1;have h1:Sat w0 _ [Fr,aX pb d ad st,pL pb w.heap.size]:=H.aj (.cells #[.pointer (some ⟨pb,0,none⟩)] 80) w.heap.size;have H1:=qh h1;clear aF av H L bD h1;go_in;go_wp2_with fail;go_loopw [1] (λv wr=>∃(f a:Nat)(s:Ty.St),v=.int .i64 a∧s.pos<ad.length∧ad.length<s.pos+f∧a+1=s.ns.length∧Hq (Sat w0 wr [Fr,aX pb d ad s,pL pb w.heap.size])∧Hq (∀r,Ty.behind ad T E f a s=r→Ty.behind ad T E (ad.length+1) a0 st=r))
  (λ_ wr=>ad.length-posOf pb wr)
 case atStart=>exact⟨ad.length+1,a0,st,rfl,fs,by omega,ha,H1.o,λr h=>h⟩
 case round=>
  obtain⟨f,a,s,rfl,hp,hf,hn,hS,hE⟩:=hrel;obtain⟨f,rfl⟩:∃g,f=g+1:=⟨f-1,by omega⟩
  have oH:=qh (dm (hS.out.pick [0,1]).look);have oY:=(hS.out.pick [0,1]).look.fits.2.2;have x0:=hS.out.cell 2 rfl 0 rfl;go_wp2_with fail;refine wy (hS.out.at 1 rfl) (by omega) ?_;have HB:=qh hE.out;obtain⟨ps,jQ⟩:∃ps,(cL s a).pos=ps:=⟨_,rfl⟩
  rw[jQ];have F8:=qh jQ;clear jQ hE;go_wp2_with fail;refine kn wr 0 ps (λw1 df=>?_);have h1:=(hS.out.below df).aj (.cells #[.int .i64 0,.int .i64 a,.int .i64 0,.int .i64 0,.slice none 0 0,.string ⟨#[]⟩,.int .i64 0,.int .i64 (-1),.int .i64 ps] 66) w1.heap.size;have x1:=(hS.out.below df).cell 2 rfl 0 rfl;have z1:=h1.cell 2 rfl 0 rfl;have bZ:=h1.ne 2 3 (by decide) rfl rfl;have H1:=qh h1;clear df x0 h1;go_wp2_with fail;refine cD (H1.o.at 1 rfl) ⟨#[40]⟩ (λw2 hi h2=>?_) (λw2 hi h2=>?_)
  ·have h3:=h2.ny;have y0:=h3.cell 3 rfl 0 rfl;have fz:=h3.free 3 rfl;have hz:=h3.lt 3 rfl;have z2:=h3.cell 2 rfl 0 rfl;have fZ:Hq (Ty.behind ad T E (ad.length+1) a0 st=Up ad T E f a ps {s with pos:=s.pos+1}):=HB.o _ (by rw[XY hi,F8.o]);have H3:=qh h3;clear hi h2 h3 z1;go_wp2_with fail;have h4:=H3.o.store 3 rfl 0 (.int .i64 7);have h5:Sat w0 _ [Fr,aX pb d ad {s with pos:=s.pos+1},LI pb w1.heap.size w.heap.size 7 a ps []]:=(Sat.pack (L:=[_,_]) (M:=[_,_,_]) ((h4.nil 3 1).pick [0,1,3,4,2])).cG (i:=2) rfl (λ_ h=>⟨_,h⟩);refine nG w0 _ Fr pb d ad _ (LI pb w1.heap.size w.heap.size 7 a ps) h5 ⟨#[41]⟩ 344 _ Tryz.call344 (λ_=>E) (λ_=>HL.o.ae) (λl s w1 h hl R aF av=>Av w0 w1 Fr pb _ _ d ad E HL.o.e 7 a ps l s h hl aF av) (λl s4 w4 hm T' h6=>?_) (λe w4 hm h6=>?_)
   ·have pz:=gA (λ_=>HL.o.ae) _ _ _ _ _ hm;dsimp only at pz;obtain⟨v,h7⟩:=h6.yr;obtain⟨va,vc,rfl⟩:=ag (h7.row 3 rfl);have q0:=h7.cell 2 rfl 0 rfl;have q1:=h7.cell 2 rfl 1 rfl;have q2:=h7.cell 2 rfl 2 rfl;have q3:=h7.cell 2 rfl 3 rfl;have q4:=h7.cell 2 rfl 4 rfl;have q5:=h7.cell 2 rfl 5 rfl;have q6:=h7.cell 2 rfl 6 rfl;have q7:=h7.cell 2 rfl 7 rfl;have q8:=h7.cell 2 rfl 8 rfl;have zx:=h7.cell 4 rfl 0 rfl;have jB:Hq (Ty.behind ad T E (ad.length+1) a0 st=Ty.ar (Ty.addNode {Ty.af 7 ps with a:=a,list:=l}) (λm=>Ty.behind ad T E f m) s4):=fZ.o.trans (by rw[Up,aw hm]);have H7:=qh h7;clear hm h6 h7 h4 h5 z2 y0 fz hz;go_wp2_with fail;refine cd {Ty.af 7 ps with a:=a,list:=l} (.slice va l.length vc) ((H7.o.pick [0,1,4,2,3]).rE) (by omega) (λw5 h8=>?_);have h6:=h8.uv;have Oo:=(h6.pick [0,1]).look.fits.1;have B0:=qh (dm (h6.pick [0,1]).look);have H6:=qh h6;have yf:Hq (∀r,Ty.behind ad T E f s4.ns.length {s4 with ns:=s4.ns++[{Ty.af 7 ps with a:=a,list:=l}]}=r→Ty.behind ad T E (ad.length+1) a0 st=r):=λr h=>jB.o.trans h
    clear h8 h6;go_wp2_with fail;go_roundw
    case rel=>exact⟨f,s4.ns.length,{s4 with ns:=s4.ns++[{Ty.af 7 ps with a:=a,list:=l}]},rfl,Oo,by first|omega|(dsimp only;omega),by simp,H6,yf⟩
    case measure=>rw[oH.o,B0.o];first|omega|(dsimp only;omega)|(dsimp only at*;omega)
   ·have jB:Hq (Ty.behind ad T E (ad.length+1) a0 st=.error e):=fZ.o.trans (by rw[Up,aQ hm]);have H6:=qh h6;clear hm h6 h4 h5;go_wp2_with fail;exact⟨rfl,aB.o _ _ jB.o H6.o⟩
  ·have h3:=h2.ny;have z2:=h3.cell 2 rfl 0 rfl;have HA:=qh hi;have H3:=qh h3;clear hi h2 h3 z1;go_wp2_with fail;refine cD (H3.o.at 1 rfl) ⟨#[46]⟩ (λw3 hi h2=>?_) (λw3 hi h2=>?_)
   ·have h3:=h2.ny;have z3:=h3.cell 2 rfl 0 rfl;have fZ:Hq (Ty.behind ad T E (ad.length+1) a0 st=UN ad T E f a ps {s with pos:=s.pos+1}):=HB.o _ (by rw[U8 HA.o hi,F8.o]);have H4:=qh h3;clear hi h2 h3 z2;go_wp2_with fail;refine lN (H4.o.at 1 rfl) _ [] (I6 _) (by simp) (λx w4 hm h5=>?_) (λe w4 hm h5=>?_)
    ·have h7:=h5.ny;have y0:=h7.cell 3 rfl 0 rfl;have y5:=h7.cell 3 rfl 5 rfl;have fz:=h7.free 3 rfl;have hz:=h7.lt 3 rfl;have q1:=h7.cell 3 rfl 1 rfl;have q2:=h7.cell 3 rfl 2 rfl;have q3:=h7.cell 3 rfl 3 rfl;have q4:=h7.cell 3 rfl 4 rfl;have q6:=h7.cell 3 rfl 6 rfl;have q7:=h7.cell 3 rfl 7 rfl;have q8:=h7.cell 3 rfl 8 rfl;have zx:=h7.cell 2 rfl 0 rfl;have jB:Hq (Ty.behind ad T E (ad.length+1) a0 st=Ty.ar (Ty.addNode {Ty.af 8 ps with a:=a,text:=x}) (λm=>Ty.behind ad T E f m) {s with pos:=s.pos+1+1}):=fZ.o.trans (by rw[UN,aw hm]);have H7:=qh (((h7.store 3 rfl 0 (.int .i64 8)).store 3 rfl 5 (.string x)).nil 3 1);clear hm h5 h7 z3;go_wp2_with fail;refine cd {Ty.af 8 ps with a:=a,text:=x} (.slice none 0 0) (H7.o.rE) (by first|omega|(dsimp only;omega)) (λw5 h8=>?_);have h6:=h8.uv;have Oo:=(h6.pick [0,1]).look.fits.1;have B0:=qh (dm (h6.pick [0,1]).look);have H6:=qh h6;have yf:Hq (∀r,Ty.behind ad T E f s.ns.length {s with pos:=s.pos+1+1,ns:=s.ns++[{Ty.af 8 ps with a:=a,text:=x}]}=r→Ty.behind ad T E (ad.length+1) a0 st=r):=λr h=>jB.o.trans h
     clear h8 h6;go_wp2_with fail;go_roundw
     case rel=>exact⟨f,s.ns.length,{s with pos:=s.pos+1+1,ns:=s.ns++[{Ty.af 8 ps with a:=a,text:=x}]},rfl,Oo,by first|omega|(dsimp only;omega),by simp,H6,yf⟩
     case measure=>rw[oH.o,B0.o];first|omega|(dsimp only;omega)|(dsimp only at*;omega)
    ·have jB:Hq (Ty.behind ad T E (ad.length+1) a0 st=.error e):=fZ.o.trans (by rw[UN,aQ hm]);have H6:=qh (h5.unpack (i:=0) rfl);clear hm h5;go_wp2_with fail;exact⟨rfl,aB.o _ _ jB.o (H6.o.pick [0])⟩
   ·have h3:=h2.ny;have z3:=h3.cell 2 rfl 0 rfl;have Kf:=qh hi;have H4:=qh h3;clear hi h2 h3 z2;go_wp2_with fail;refine cD (H4.o.at 1 rfl) ⟨#[91]⟩ (λw4 hi h2=>?_) (λw4 hi h2=>?_)
    ·have h3:=h2.ny;have z4:=h3.cell 2 rfl 0 rfl;have fZ:Hq (Ty.behind ad T E (ad.length+1) a0 st=Uf ad T E f a ps {s with pos:=s.pos+1}):=HB.o _ (by rw[Vo HA.o Kf.o hi,F8.o]);have H5:=qh h3;clear hi h2 h3 z3;go_wp2_with fail;refine HL.o.e _ _ _ pb _ (H5.o.at 1 rfl) _ (λc s5 w5 hm h5=>?_) (λe w5 hm h5=>?_)
     ·have pz:=HL.o.ae _ _ _ hm;dsimp only at pz;have h7:=h5.ny;have y0:=h7.cell 3 rfl 0 rfl;have y2:=h7.cell 3 rfl 2 rfl;have fz:=h7.free 3 rfl;have hz:=h7.lt 3 rfl;have zx:=h7.cell 2 rfl 0 rfl;have jB:Hq (Ty.behind ad T E (ad.length+1) a0 st=Ty.ar (Ty.need ad [93]) (λ_=>Ty.ar (Ty.addNode {Ty.af 9 ps with a:=a,b:=c}) λm=>Ty.behind ad T E f m) s5):=fZ.o.trans (by rw[Uf,aw hm]);have H7:=qh ((h7.store 3 rfl 0 (.int .i64 9)).store 3 rfl 2 (.int .i64 (c:Nat)));clear hm h5 h7 z4;go_wp2_with fail;refine cP (H7.o.at 1 rfl) ⟨#[93]⟩ (λw6 hi h2=>?_) (λe w6 hi h2=>?_)
      ·have h7:=(h2.ny).nil 3 1;have q0:=h7.cell 3 rfl 0 rfl;have q1:=h7.cell 3 rfl 1 rfl;have q2:=h7.cell 3 rfl 2 rfl;have q3:=h7.cell 3 rfl 3 rfl;have q4:=h7.cell 3 rfl 4 rfl;have q5:=h7.cell 3 rfl 5 rfl;have q6:=h7.cell 3 rfl 6 rfl;have q7:=h7.cell 3 rfl 7 rfl;have q8:=h7.cell 3 rfl 8 rfl;have zx:=h7.cell 2 rfl 0 rfl;have sN:Hq (Ty.behind ad T E (ad.length+1) a0 st=Ty.ar (Ty.addNode {Ty.af 9 ps with a:=a,b:=c}) (λm=>Ty.behind ad T E f m) {s5 with pos:=s5.pos+1}):=jB.o.trans (by rw[aw hi]);have H8:=qh h7;clear hi h2 h7 y0 y2 fz hz;go_wp2_with fail;refine cd {Ty.af 9 ps with a:=a,b:=c} (.slice none 0 0) (H8.o.rE) (by first|omega|(dsimp only;omega)) (λw5 h8=>?_);have h6:=h8.uv;have Oo:=(h6.pick [0,1]).look.fits.1;have B0:=qh (dm (h6.pick [0,1]).look);have H6:=qh h6;have yf:Hq (∀r,Ty.behind ad T E f s5.ns.length {s5 with pos:=s5.pos+1,ns:=s5.ns++[{Ty.af 9 ps with a:=a,b:=c}]}=r→Ty.behind ad T E (ad.length+1) a0 st=r):=λr h=>sN.o.trans h
       clear h8 h6;go_wp2_with fail;go_roundw
       case rel=>exact⟨f,s5.ns.length,{s5 with pos:=s5.pos+1,ns:=s5.ns++[{Ty.af 9 ps with a:=a,b:=c}]},rfl,Oo,by first|omega|(dsimp only;omega),by simp,H6,yf⟩
       case measure=>rw[oH.o,B0.o];first|omega|(dsimp only;omega)|(dsimp only at*;omega)
      ·have sN:Hq (Ty.behind ad T E (ad.length+1) a0 st=.error e):=jB.o.trans (by rw[aQ hi]);have H6:=qh (h2.unpack (i:=0) rfl);clear hi h2;go_wp2_with fail;exact⟨rfl,aB.o _ _ sN.o (H6.o.pick [0])⟩
     ·have jB:Hq (Ty.behind ad T E (ad.length+1) a0 st=.error e):=fZ.o.trans (by rw[Uf,aQ hm]);have H6:=qh (h5.unpack (i:=0) rfl);clear hm h5;go_wp2_with fail;exact⟨rfl,aB.o _ _ jB.o (H6.o.pick [0])⟩
    ·have h3:=h2.ny;have z4:=h3.cell 2 rfl 0 rfl;have Ro:=qh hi;have H5:=qh h3;clear hi h2 h3 z3;go_wp2_with fail;refine cD (H5.o.at 1 rfl) ⟨#[97,115]⟩ (λw5 hi h2=>?_) (λw5 hi h2=>?_)
     ·have h3:=h2.ny;have z5:=h3.cell 2 rfl 0 rfl;have fZ:Hq (Ty.behind ad T E (ad.length+1) a0 st=T5 ad T E f a ps {s with pos:=s.pos+1}):=HB.o _ (by rw[VK HA.o Kf.o Ro.o hi,F8.o]);have H6:=qh h3;clear hi h2 h3 z4;go_wp2_with fail;refine HL.o.t _ _ _ pb _ (H6.o.at 1 rfl) _ (λc s6 w6 hm h5=>?_) (λe w6 hm h5=>?_)
      ·have pz:=HL.o.at' _ _ _ hm;dsimp only at pz;have h7:=h5.ny;have y0:=h7.cell 3 rfl 0 rfl;have y7:=h7.cell 3 rfl 7 rfl;have fz:=h7.free 3 rfl;have hz:=h7.lt 3 rfl;have q1:=h7.cell 3 rfl 1 rfl;have q2:=h7.cell 3 rfl 2 rfl;have q3:=h7.cell 3 rfl 3 rfl;have q4:=h7.cell 3 rfl 4 rfl;have q5:=h7.cell 3 rfl 5 rfl;have q6:=h7.cell 3 rfl 6 rfl;have q8:=h7.cell 3 rfl 8 rfl;have zx:=h7.cell 2 rfl 0 rfl;have jB:Hq (Ty.behind ad T E (ad.length+1) a0 st=Ty.ar (Ty.addNode {Ty.af 14 ps with a:=a,ty:=(c:Int)}) (λm=>Ty.behind ad T E f m) s6):=fZ.o.trans (by rw[T5,aw hm]);have H7:=qh (((h7.store 3 rfl 0 (.int .i64 14)).store 3 rfl 7 (.int .i64 (c:Nat))).nil 3 1);clear hm h5 h7 z5;go_wp2_with fail;refine cd {Ty.af 14 ps with a:=a,ty:=(c:Int)} (.slice none 0 0) (H7.o.rE) (by first|omega|(dsimp only;omega)) (λw5 h8=>?_);have h6:=h8.uv;have Oo:=(h6.pick [0,1]).look.fits.1;have B0:=qh (dm (h6.pick [0,1]).look);have H6:=qh h6;have yf:Hq (∀r,Ty.behind ad T E f s6.ns.length {s6 with ns:=s6.ns++[{Ty.af 14 ps with a:=a,ty:=(c:Int)}]}=r→Ty.behind ad T E (ad.length+1) a0 st=r):=λr h=>jB.o.trans h
       clear h8 h6;go_wp2_with fail;go_roundw
       case rel=>exact⟨f,s6.ns.length,{s6 with ns:=s6.ns++[{Ty.af 14 ps with a:=a,ty:=(c:Int)}]},rfl,Oo,by first|omega|(dsimp only;omega),by simp,H6,yf⟩
       case measure=>rw[oH.o,B0.o];first|omega|(dsimp only;omega)|(dsimp only at*;omega)
      ·have jB:Hq (Ty.behind ad T E (ad.length+1) a0 st=.error e):=fZ.o.trans (by rw[T5,aQ hm]);have H6:=qh (h5.unpack (i:=0) rfl);clear hm h5;go_wp2_with fail;exact⟨rfl,aB.o _ _ jB.o (H6.o.pick [0])⟩
     ·have fZ:Hq (Ty.behind ad T E (ad.length+1) a0 st=.ok (a,s)):=HB.o _ (VF HA.o Kf.o Ro.o hi);have H6:=qh h2.ny;clear hi h2;go_wp2_with fail;exact aY.o _ _ _ fZ.o (H6.o.pick [0,1])
def Ht(mb:Nat)(names:List BA):As:=cA λmv:Value=>ah [ay mb (.cells #[mv] 161 (0,0)),vM mv names]
theorem ak.Sat.IG{w0 w:World}{A B:As}{mb:Nat}{l:List BA}(H:Sat w0 w [A,B,Ht mb l]):∃mv,Sat w0 w [A,B,ay mb (.cells #[mv] 161 (0,0)),vM mv l]:=by
 obtain⟨v,hs⟩:=H.ex (i:=2) rfl;exact⟨v,hs.unpack (i:=2) rfl⟩
theorem ak.Sat.B8{w0 w:World}{A B:As}{mb:Nat}{l:List BA}{mv:Value}(H:Sat w0 w [A,B,ay mb (.cells #[mv] 161 (0,0)),vM mv l]):Sat w0 w [A,B,Ht mb l]:=
 (Sat.pack (L:=[_,_]) H).cG (i:=2) rfl (λ_ h=>⟨_,h⟩)
def E4(F:FuncId)(ad:List Tok.Tk)(d:Nat)(M:List BA→Ty.M (BA×Nat)):Prop:=
 ∀(w0 w:World)(Fr:As)(pb mb:Nat)(st:Ty.St)(names:List BA),Sat w0 w [Fr,aX pb d ad st,Ht mb names]→names.length≤st.pos→∀R:EW,
  (∀x n s2 w2,M names st=.ok ((x,n),s2)→Sat w0 w2 [Fr,aX pb d ad s2,Ht mb (names++[x])]→R (.returned (.int .i64 (n:Nat))) w2)→
  (∀f w2,M names st=.error f→Sat w0 w2 [Fr]→R (.panicked (aJ f)) w2)→Calls prog F #[.pointer (some ⟨pb,0,none⟩),.pointer (some ⟨mb,0,none⟩)] w R
theorem ak.Sat.kR{w0 w:World}{Fr P M B N A:As}(h:Sat w0 w [Fr,P,M,B,N,A]):Sat w0 w [ah [Fr,M,N,B],P,A]:=(Sat.pack (L:=[_,_]) (M:=[_,_,_,_]) (h.pick [1,5,0,2,4,3])).pick [2,0,1]
theorem ak.Sat.Ee{w0 w:World}{Fr P M N B:As}(h:Sat w0 w [ah [Fr,M,N,B],P]):Sat w0 w [Fr,P,M,N]:=(h.unpack (i:=0) rfl).pick [1,0,2,3]
theorem Lf{ad:List Tok.Tk}{d:Nat}{T E O S:Ty.M Nat}(L:Lo ad d T E O S):E4 349 ad d (Ty.ia ad E):=by
 intro w0 w Fr pb mb st names H kN R aF av;have aY:=qh aF;have aB:=qh av;have HL:=qh L;have bD:=(H.pick [0,1]).look;have jK:=bD.wf.1;have fs:=bD.fits.1;have oY:=bD.fits.2.2.2;obtain⟨mv,h0⟩:=H.IG;obtain⟨ma,mc,rfl⟩:=ag (h0.row 3 rfl);have HS:=qh h0;have HN:=qh (λR hR=>@gN w pb d ad st bD R hR);obtain⟨i0,ti,mx,mu,mw⟩:=info_parts s_;obtain⟨ps,jQ⟩:∃ps,(Ty.cur ad st.pos).pos=ps:=⟨_,rfl⟩
 have sW:Hq (∀r,(Ty.ar (Ty.name ad names) λx=>Ty.ar (Ty.need ad [58]) λ_=>Ty.ar E λa=>Ty.ar (Ty.addNode {Ty.af 15 ps with text:=x,a:=a}) λn=>Ty.ret (x,n)) st=r→Ty.ia ad E names st=r):=λr h=>by rw[←h,←jQ];rfl
 generalize Ty.cur ad st.pos=t at*
 obtain⟨kd,tx,tp⟩:=t;dsimp only at jQ;subst jQ;have Uh:=j6;clear aF av H L bD h0;go_enter func349,ntmps349;go_wp2_with fail;refine HN.o _ (λw1 df=>?_);dsimp only[cr];have H1:=qh (HS.o.below df);clear df;go_wp2_with fail;refine kn w1 15 tp (λw2 aI=>?_);have h2:=(H1.o.below aI).aj (.cells #[.int .i64 15,.int .i64 0,.int .i64 0,.int .i64 0,.slice none 0 0,.string ⟨#[]⟩,.int .i64 0,.int .i64 (-1),.int .i64 tp] 66) w2.heap.size;have x2:=h2.cell 2 rfl 0 rfl;have bZ:=h2.ne 2 4 (by decide) rfl rfl;have E6:=h2.lt 2 rfl;have H2:=qh h2;clear aI h2;go_wp2_with fail;refine lN (H2.o.at 1 rfl) _ names (H2.o.row 3 rfl) (by omega) (λx w3 hm h3=>?_) (λe w3 hm h3=>?_);rotate_left
 ·have rV:Hq (Ty.ia ad E names st=.error e):=sW.o _ (by rw[aQ hm]);have H3:=qh (h3.unpack (i:=0) rfl);clear hm h3;go_wp2_with fail;exact⟨rfl,aB.o _ _ rV.o (H3.o.pick [0])⟩
 have rV:Hq (∀r,(Ty.ar (Ty.need ad [58]) λ_=>Ty.ar E λa=>Ty.ar (Ty.addNode {Ty.af 15 tp with text:=x,a:=a}) λn=>Ty.ret (x,n)) {st with pos:=st.pos+1}=r→Ty.ia ad E names st=r):=λr h=>sW.o r (by rw[aw hm];exact h)
 have h4:=h3.sj;have y5:=h4.cell 4 rfl 5 rfl;have f5:=h4.free 4 rfl;have hz:=h4.lt 4 rfl;have UQ:=h4.lt 2 rfl;have x3:=h4.cell 2 rfl 0 rfl;have fm:=h4.free 2 rfl 0;have h5:=h4.store 4 rfl 5 (.string x);have x4:=h5.cell 2 rfl 0 rfl;have y4:=h5.cell 4 rfl 5 rfl;have dG:=qh (h5.row 3 rfl);have H5:=qh h5;clear hm h3 h4 h5 x2;go_wp2_with fail;go_region_law(first|(go_loud(refine step_append_lies _ (by rfl) _ _ _ (by rfl) 0 9 i0 _ 1 16 underlying161 ti mx mu mw rfl (by omega) (.slice ma names.length mc) names.length (names.map Value.string) (by rfl) ((dG.o.alloc _).drew) ⟨w3.heap.size,0,none⟩ 1 1 [.string x] (by rfl) (by rfl) (World.news_of_block (cs:=#[.string x]) (t:=9) (fr:=(0,0)) (ey (aH _ _ _ (by simp)))) (by simp[Value.oneCell']) (by omega) (by unfold maxLen;omega) (by omega) (by simp) (w3.heap.size+1) (by simp) ?_);intro g cap w4 cq bC ga mY;have h6:=Sat.grow (m:=names.length+1) ((H5.o.aU _).drew) 3 rfl bC cq (by simpa using ga);have x5:=h6.cell 2 rfl 0 rfl;have f6:=h6.free 2 rfl 0;have abg:=h6.lt 2 rfl;have H6:=qh h6;clear h6))
 all_goals
  clear cq bC;have h7:=(H6.o.store 2 rfl 0 (.slice (some ⟨g,0,none⟩) (names.length+1) cap)).cG (i:=3) rfl (Q:=vM (.slice (some ⟨g,0,none⟩) (names.length+1) cap) (names++[x])) (λ_ h=>rl h);have H7:=qh h7;clear h7;go_wp2_with fail;refine cP (H7.o.at 1 rfl) ⟨#[58]⟩ (λw5 hm h8=>?_) (λe w5 hm h8=>?_);rotate_left
  ·have fZ:Hq (Ty.ia ad E names st=.error e):=rV.o _ (by rw[aQ hm]);have H8:=qh (h8.unpack (i:=0) rfl);clear hm h8;go_wp2_with fail;exact⟨rfl,aB.o _ _ fZ.o (H8.o.pick [0])⟩
  have fZ:Hq (∀r,(Ty.ar E λa=>Ty.ar (Ty.addNode {Ty.af 15 tp with text:=x,a:=a}) λn=>Ty.ret (x,n)) {st with pos:=st.pos+1+1}=r→Ty.ia ad E names st=r):=λr h=>rV.o r (by rw[aw hm];exact h)
  have H8:=qh h8.sj;clear hm h8;go_wp2_with fail;refine HL.o.e _ _ _ pb _ (H8.o.at 1 rfl) _ (λn s6 w6 hm h9=>?_) (λe w6 hm h9=>?_);rotate_left
  ·have jB:Hq (Ty.ia ad E names st=.error e):=fZ.o _ (by rw[aQ hm]);have H9:=qh (h9.unpack (i:=0) rfl);clear hm h9;go_wp2_with fail;exact⟨rfl,aB.o _ _ jB.o (H9.o.pick [0])⟩
  have pz:=HL.o.ae _ _ _ hm;dsimp only at pz;have jB:Hq (Ty.ia ad E names st=.ok ((x,s6.ns.length),{s6 with ns:=s6.ns++[{Ty.af 15 tp with text:=x,a:=n}]})):=fZ.o _ (by rw[aw hm];rfl);have dS:=h9.sj;have y1:=dS.cell 4 rfl 1 rfl;have f1:=dS.free 4 rfl;have XU:=dS.lt 4 rfl;have ln:=dS.store 4 rfl 1 (.int .i64 (n:Nat));have q0:=dS.cell 4 rfl 0 rfl;have q2:=dS.cell 4 rfl 2 rfl;have q3:=dS.cell 4 rfl 3 rfl;have q4:=dS.cell 4 rfl 4 rfl;have q5:=dS.cell 4 rfl 5 rfl;have q6:=dS.cell 4 rfl 6 rfl;have q7:=dS.cell 4 rfl 7 rfl;have q8:=dS.cell 4 rfl 8 rfl;have LC:=qh (ln.nil 3 1);clear hm h9 dS ln;go_wp2_with fail;refine cd {Ty.af 15 tp with text:=x,a:=n} (.slice none 0 0) ((LC.o.pick [0,1,2,4,3,5]).kR) (by omega) (λw7 jj=>?_);have vg:=qh jj.Ee;clear jj;go_wp2_with fail;exact aY.o _ _ _ _ jB.o vg.o.B8
theorem Fj{ad:List Tok.Tk}{d:Nat}{T E O S:Ty.M Nat}(L:Lo ad d T E O S):E4 357 ad d (Ty.gE ad T):=by
 intro w0 w Fr pb mb st names H kN R aF av;have aY:=qh aF;have aB:=qh av;have HL:=qh L;have bD:=(H.pick [0,1]).look;have jK:=bD.wf.1;have fs:=bD.fits.1;have oY:=bD.fits.2.2.2;obtain⟨mv,h0⟩:=H.IG;obtain⟨ma,mc,rfl⟩:=ag (h0.row 3 rfl);have HS:=qh h0;have HN:=qh (λR hR=>@gN w pb d ad st bD R hR);obtain⟨i0,ti,mx,mu,mw⟩:=info_parts s_;obtain⟨ps,jQ⟩:∃ps,(Ty.cur ad st.pos).pos=ps:=⟨_,rfl⟩
 have sW:Hq (∀r,(Ty.ar (Ty.name ad names) λx=>Ty.ar (Ty.written ad T) λt=>Ty.ar (Ty.addNode {Ty.af 16 ps with text:=x,ty:=t}) λn=>Ty.ret (x,n)) st=r→Ty.gE ad T names st=r):=λr h=>by rw[←h,←jQ];rfl
 generalize Ty.cur ad st.pos=t at*
 obtain⟨kd,tx,tp⟩:=t;dsimp only at jQ;subst jQ;have Uh:=j6;clear aF av H L bD h0;go_enter func357,ntmps357;go_wp2_with fail;refine HN.o _ (λw1 df=>?_);dsimp only[cr];have H1:=qh (HS.o.below df);clear df;go_wp2_with fail;refine kn w1 16 tp (λw2 aI=>?_);have h2:=(H1.o.below aI).aj (.cells #[.int .i64 16,.int .i64 0,.int .i64 0,.int .i64 0,.slice none 0 0,.string ⟨#[]⟩,.int .i64 0,.int .i64 (-1),.int .i64 tp] 66) w2.heap.size;have x2:=h2.cell 2 rfl 0 rfl;have bZ:=h2.ne 2 4 (by decide) rfl rfl;have E6:=h2.lt 2 rfl;have H2:=qh h2;clear aI h2;go_wp2_with fail;refine lN (H2.o.at 1 rfl) _ names (H2.o.row 3 rfl) (by omega) (λx w3 hm h3=>?_) (λe w3 hm h3=>?_);rotate_left
 ·have rV:Hq (Ty.gE ad T names st=.error e):=sW.o _ (by rw[aQ hm]);have H3:=qh (h3.unpack (i:=0) rfl);clear hm h3;go_wp2_with fail;exact⟨rfl,aB.o _ _ rV.o (H3.o.pick [0])⟩
 have rV:Hq (∀r,(Ty.ar (Ty.written ad T) λt=>Ty.ar (Ty.addNode {Ty.af 16 tp with text:=x,ty:=t}) λn=>Ty.ret (x,n)) {st with pos:=st.pos+1}=r→Ty.gE ad T names st=r):=λr h=>sW.o r (by rw[aw hm];exact h)
 have h4:=h3.sj;have y5:=h4.cell 4 rfl 5 rfl;have f5:=h4.free 4 rfl;have hz:=h4.lt 4 rfl;have UQ:=h4.lt 2 rfl;have x3:=h4.cell 2 rfl 0 rfl;have fm:=h4.free 2 rfl 0;have h5:=h4.store 4 rfl 5 (.string x);have x4:=h5.cell 2 rfl 0 rfl;have y4:=h5.cell 4 rfl 5 rfl;have dG:=qh (h5.row 3 rfl);have H5:=qh h5;clear hm h3 h4 h5 x2;go_wp2_with fail;go_region_law(first|(go_loud(refine step_append_lies _ (by rfl) _ _ _ (by rfl) 0 9 i0 _ 1 16 underlying161 ti mx mu mw rfl (by omega) (.slice ma names.length mc) names.length (names.map Value.string) (by rfl) ((dG.o.alloc _).drew) ⟨w3.heap.size,0,none⟩ 1 1 [.string x] (by rfl) (by rfl) (World.news_of_block (cs:=#[.string x]) (t:=9) (fr:=(0,0)) (ey (aH _ _ _ (by simp)))) (by simp[Value.oneCell']) (by omega) (by unfold maxLen;omega) (by omega) (by simp) (w3.heap.size+1) (by simp) ?_);intro g cap w4 cq bC ga mY;have h6:=Sat.grow (m:=names.length+1) ((H5.o.aU _).drew) 3 rfl bC cq (by simpa using ga);have x5:=h6.cell 2 rfl 0 rfl;have f6:=h6.free 2 rfl 0;have abg:=h6.lt 2 rfl;have H6:=qh h6;clear h6))
 all_goals
  clear cq bC;have h7:=(H6.o.store 2 rfl 0 (.slice (some ⟨g,0,none⟩) (names.length+1) cap)).cG (i:=3) rfl (Q:=vM (.slice (some ⟨g,0,none⟩) (names.length+1) cap) (names++[x])) (λ_ h=>rl h);have H7:=qh h7;clear h7;go_wp2_with fail;refine nI HL.o (H7.o.at 1 rfl) (λn s6 w6 hm h9=>?_) (λe w6 hm h9=>?_);rotate_left
  ·have jB:Hq (Ty.gE ad T names st=.error e):=rV.o _ (by rw[aQ hm]);have H9:=qh (h9.unpack (i:=0) rfl);clear hm h9;go_wp2_with fail;exact⟨rfl,aB.o _ _ jB.o (H9.o.pick [0])⟩
  have pz:=iq HL.o.at' _ _ _ hm;dsimp only at pz;have jB:Hq (Ty.gE ad T names st=.ok ((x,s6.ns.length),{s6 with ns:=s6.ns++[{Ty.af 16 tp with text:=x,ty:=n}]})):=rV.o _ (by rw[aw hm];rfl);have dS:=h9.sj;have y1:=dS.cell 4 rfl 7 rfl;have f1:=dS.free 4 rfl;have XU:=dS.lt 4 rfl;have ln:=dS.store 4 rfl 7 (.int .i64 n);have q0:=dS.cell 4 rfl 0 rfl;have q1:=dS.cell 4 rfl 1 rfl;have q2:=dS.cell 4 rfl 2 rfl;have q3:=dS.cell 4 rfl 3 rfl;have q4:=dS.cell 4 rfl 4 rfl;have q5:=dS.cell 4 rfl 5 rfl;have q6:=dS.cell 4 rfl 6 rfl;have q8:=dS.cell 4 rfl 8 rfl;have LC:=qh (ln.nil 3 1);clear hm h9 dS ln;go_wp2_with fail;refine cd {Ty.af 16 tp with text:=x,ty:=n} (.slice none 0 0) ((LC.o.pick [0,1,2,4,3,5]).kR) (by omega) (λw7 jj=>?_);have vg:=qh jj.Ee;clear jj;go_wp2_with fail;exact aY.o _ _ _ _ jB.o vg.o.B8
end Go.Proofs.YtdlbhiaceheffabGreatDoor
