/- Nodes that are read; walks of the parser's of, start, two. -/
import Derived.Test.YtdlbhiaceheffabGreatDoorC11
import Derived.Test.YtdlbhiaceheffabGreatDoorC07
set_option linter.all false
set_option maxRecDepth 100000
set_option maxHeartbeats 4000000
namespace Go.Proofs.YtdlbhiaceheffabGreatDoor
open Go Go.RowKit Ty Tok Prt Tryz Proofs.Tryz
theorem kU{α:Type}(f:α->List Value)(m:Nat)(hf:∀x,(f x).length=m):∀(l:List α)(n:Nat)(hn:n<l.length)(i:Nat),i<m->(l.flatMap f)[n*m+i]?=(f l[n])[i]?
 |[],n,hn,_,_=>by simp at hn
 |a::l,0,_,i,hi=>by
  rw[List.flatMap_cons,List.getElem?_append_left (by rw[hf];omega)];simp
 |a::l,n+1,hn,i,hi=>by
  have e: (n+1)*m+i-m=n*m+i:=by rw[Nat.succ_mul];omega
  rw[List.flatMap_cons,List.getElem?_append_right (by rw[hf,Nat.succ_mul];omega),hf,e];exact kU f m hf l n (by simpa using hn) i hi
structure NRd(w:World)(v:Value)(rows:List NdRow):Prop where
 row:w.ownsRow 0 66 9 v rows.length (rows.flatMap fi)
 bits:∀r∈rows,w.ownsRow 0 3 1 r.lv r.t.list.length (r.t.list.map aQ)
theorem NRd.below{w w':World}{v:Value}{rows:List NdRow}(h:NRd w v rows)(hb:Below w.heap.size w w'):NRd w' v rows:=
 ⟨ay h.row hb,λr hr=>ay (h.bits r hr) hb⟩
structure NdAt(w:World)(g n:Nat)(t:Nd)(lv:Value):Prop where
 q0:w.cell? ⟨g,n*9,none⟩=some (.int .i64 t.kind)
 q1:w.cell? ⟨g,n*9+1,none⟩=some (.int .i64 t.a)
 q2:w.cell? ⟨g,n*9+2,none⟩=some (.int .i64 t.b)
 q3:w.cell? ⟨g,n*9+3,none⟩=some (.int .i64 t.c)
 q4:w.cell? ⟨g,n*9+4,none⟩=some lv
 q5:w.cell? ⟨g,n*9+5,none⟩=some (.string t.text)
 q6:w.cell? ⟨g,n*9+6,none⟩=some (.int .i64 t.n)
 q7:w.cell? ⟨g,n*9+7,none⟩=some (.int .i64 t.ty)
 q8:w.cell? ⟨g,n*9+8,none⟩=some (.int .i64 t.pos)
theorem NRd.look{w:World}{v:Value}{rows:List NdRow}{ns:List Nd}(h:NRd w v rows)(yo:rows.map NdRow.t=ns){n:Nat}(hn:n<ns.length):
  ∃(g cap:Nat)(lv:Value),v=.slice (some ⟨g,0,none⟩) ns.length cap/\g<w.heap.size/\ns.length<=cap/\cap<=maxLen/\NdAt w g n ns[n] lv/\w.ownsRow 0 3 1 lv ns[n].list.length (ns[n].list.map aQ):=by
 have hl:rows.length=ns.length:=by rw[<-yo];simp
 have CK:n<rows.length:=by omega
 obtain⟨g,cap,hv,_,hg⟩:=h.row.form (by omega);have hc:=World.ownsRow.cells h.row (g:=g) (by rw[hv];rfl);have hcap:rows.length<=cap/\cap<=maxLen:=by
  rcases h.row.2 with⟨_,h0⟩|⟨g',x9,cur,e4,_,_,h5,h6,_⟩
  ·omega
  ·rw[hv]at e4;cases e4;exact⟨h5,h6⟩
 have ht:rows[n].t=ns[n]:=by subst yo;simp
 have key:∀i,i<9->∀x,(fi rows[n])[i]?=some x->w.cell? ⟨g,n*9+i,none⟩=some x:=λi hi x hx=>by
  have:=hc (n*9+i) x (by rw[kU fi 9 (λ_=>rfl) rows n CK i hi];exact hx);rwa [Addr.add_lit,Nat.zero_add]at this
 refine⟨g,cap,rows[n].lv,by rw[hv,hl],hg,by omega,hcap.2,⟨?_,?_,?_,?_,?_,?_,?_,?_,?_⟩,?_⟩
 ·exact key 0 (by omega) _ (by rw[<-ht];rfl)
 ·exact key 1 (by omega) _ (by rw[<-ht];rfl)
 ·exact key 2 (by omega) _ (by rw[<-ht];rfl)
 ·exact key 3 (by omega) _ (by rw[<-ht];rfl)
 ·exact key 4 (by omega) _ rfl
 ·exact key 5 (by omega) _ (by rw[<-ht];rfl)
 ·exact key 6 (by omega) _ (by rw[<-ht];rfl)
 ·exact key 7 (by omega) _ (by rw[<-ht];rfl)
 ·exact key 8 (by omega) _ (by rw[<-ht];rfl)
 ·rw[<-ht];exact h.bits _ (gM _)
theorem Prt.Sat.ng{w0 w:World}{L:List As}(h:Sat w0 w L)(i:Nat){v:Value}{ns:List Nd}(hi:L[i]?=some (C8 v ns)):∃rows,rows.map NdRow.t=ns/\NRd w v rows:=by
 refine h.get hi λa ha hl=>?_
 obtain⟨rows,x,y,_,_,hy,hp,z,u,_,hz,hu,h1,q,_,_,hq,_,rF,_⟩:=ha;have e:ns.length=rows.length:=by have:=congrArg List.length (show rows.map NdRow.t=ns from hp);simpa using this.symm
 have acE:Prt.le y (Prt.hp w):=Prt.le_trans hy hl;refine⟨rows,hp,⟨?_,λr hr=>?_⟩⟩
 ·rw[<-e];exact iR (iQ h1 (Prt.le_trans hz acE))
 ·obtain⟨b,hb,vJ⟩:=yz rF _ (List.mem_map_of_mem (f:=λr:NdRow=>gi r.lv r.t.list) hr);exact iR (iQ vJ (Prt.le_trans hb (Prt.le_trans hq (Prt.le_trans hu acE))))
theorem QZ{st:Ty.St}{n:Nat}(hn:n<st.ns.length):aY st n=st.ns[n]:=by unfold aY;rw[List.getElem?_eq_getElem hn];rfl
section
variable {w0 w:World} {Fr:As} {pb d:Nat} {ad:List Tok.Tk} {st:Ty.St}
theorem Prt.Sat.Ah(h:Sat w0 w [Fr,aT pb d ad st]){n:Nat}(hn:n<st.ns.length):∃(g cap:Nat)(lv:Value),w.cell? ⟨pb,3,none⟩=some (.slice (some ⟨g,0,none⟩) st.ns.length cap)/\g<w.heap.size/\st.ns.length<=cap/\cap<=maxLen/\NdAt w g n (aY st n) lv/\w.ownsRow 0 3 1 lv (aY st n).list.length ((aY st n).list.map aQ):=by
 obtain⟨⟨PY,nv,tv,main⟩,h⟩:=h.nf;obtain⟨rows,hr,xK⟩:=h.ng 4 rfl;obtain⟨g,cap,lv,e,h1,h2,h3,h4,h5⟩:=xK.look hr hn;have c3:=h.cell 2 3;dsimp only at e c3;subst e;rw[QZ hn];exact⟨g,cap,lv,c3,h1,h2,h3,h4,h5⟩
theorem lG(w:World)(kind pos:Nat){R:EW}(hR:∀w',Below w.heap.size w w'->R (.returned (.agg #[.int .i64 kind,.int .i64 0,.int .i64 0,.int .i64 0,.slice none 0 0,.string ⟨#[]⟩,.int .i64 0,.int .i64 (-1),.int .i64 pos])) w'):
  Calls prog 74 #[.int .i64 kind,.int .i64 pos] w R:=by
 go_in;go_wp2;refine bodyPost_ret ?_ rfl (hR _ ?_)
 ·simp[results,results74,go_sem]
 ·first|exact(bR _ _).alloc (nR _) _|(repeat' (first|exact bR _ _|apply Below.drew|apply Below.setCell|apply Below.alloc|(simp;done)|(simp;omega)|omega))
theorem zo(H:Sat w0 w [Fr,aT pb d ad st]){n:Nat}(hn:n<st.ns.length){R:EW}(hR:R (.returned (.int .i64 (aY st n).pos)) w):
  Calls prog 320 #[.pointer (some ⟨pb,0,none⟩),.int .i64 (n:Nat)] w R:=by
 have cm:=H.look;obtain⟨g,cap,lv,c3,hg,h2,h3,hA,_⟩:=H.Ah hn;obtain⟨_,_,_,_,_,_,_,_,q8⟩:=hA;generalize aY st n=t at*
 go_in;go_wp2;exact hR
theorem AY(H:Sat w0 w [Fr,aT pb d ad st])(x:BA){a b:Nat}(ha:a<st.ns.length)(hb:st.ns.length<=st.pos){R:EW}
  (hR:∀n s2 w',Ty.two x a b st=.ok (n,s2)->Sat w0 w' [Fr,aT pb d ad s2]->R (.returned (.int .i64 (n:Nat))) w'):
  Calls prog 282 #[.pointer (some ⟨pb,0,none⟩),.string x,.int .i64 (a:Nat),.int .i64 (b:Nat)] w R:=by
 go_in;go_wp2_with fail;refine zo H ha ?_;have HE:Hq (Ty.two x a b st=.ok (st.ns.length,{st with ns:=st.ns++[{Ty.af 12 (aY st a).pos with text:=x,a:=a,b:=b}]})):=rfl;generalize(aY st a).pos=ps at*
 go_wp2_with fail;refine lG w 12 ps (λw1 cd=>?_);have H1:=qh (H.below cd);go_wp2_with fail;refine bT {Ty.af 12 ps with text:=x,a:=a,b:=b} (.slice none 0 0) ((H1.o.aU _).nil 3 1) hb (λw2 h2=>?_);go_wp2;exact hR _ _ _ HE.o h2
end
def mA(ad:List Tok.Tk)(l:List BA)(pos:Nat):Bool:=l.any λx=>Ty.is ad x.data.toList pos
theorem Jj(w:World)(pb d:Nat)(ad:List Tok.Tk)(st:Ty.St)(h:PRd w pb d ad st)(g:Nat)(l:List BA)(hl:l.length<=10)(hg:g<w.heap.size)(Dx:∀j(hj:j<l.length),w.cell? ⟨g,j,none⟩=some (.string l[j])){R:EW}
  (vK:∀(r:Nat) w',Below w.heap.size w w'->mA ad l st.pos=true->r<=10->R (.returned (.int .i64 r)) w') (qq:∀w',Below w.heap.size w w'->mA ad l st.pos=false->R (.returned (.int .i64 (-1))) w'):
  Calls prog 343 #[.slice (some ⟨g,0,none⟩) l.length l.length,.func (.func 210) #[.pointer (some ⟨pb,0,none⟩)] #[]] w R:=by
 have HP:=qh h;have hc:=Tryz.call210;go_in;go_wp2;go_loopw [8] (λi wr=>∃k:Nat,k<=l.length/\i=.int .i64 k/\Hq (Below w.heap.size w wr)/\Hq (∀j(hj:j<l.length),j<k->Ty.is ad l[j].data.toList st.pos=false)) (λi _=>l.length-(intOf i).toNat)
 case atStart=>exact⟨0,by omega,rfl,bR _ _,λj hj h=>by omega⟩
 case round=>
  obtain⟨k,hk,rfl,hb,hf⟩:=hrel;by_cases bz:k<l.length
  ·have d0:=(hb.out.cell (p:=⟨g,k,none⟩) hg).trans (Dx k bz);have HT:Hq (Ty.is ad l[k].data.toList st.pos=true->mA ad l st.pos=true):=λh=>List.any_eq_true.2 ⟨l[k],gM bz,h⟩
   have HN:Hq (Ty.is ad l[k].data.toList st.pos=false->∀j(hj:j<l.length),j<k+1->Ty.is ad l[j].data.toList st.pos=false):=λh j hj Lj=>by
    by_cases e:j=k
    ·subst e;exact h
    ·exact hf.out j hj (by omega)
   generalize l[k]=x at*
   go_wp2_with fail;refine pk wr pb d ad st (HP.o.below hb.out) x (λw2 aW=>?_);have fG:=qh (hb.out.trans (aW.mono hb.out.size));generalize Ty.is ad x.data.toList st.pos=fk at*
   cases fk
   ·have LG:=qh (HN.o rfl);go_wp2;go_roundw
    case rel=>exact⟨k+1,by omega,by go_num,fG,LG⟩
    case measure=>simp[intOf];omega
   ·have KJ:=qh (HT.o rfl);go_wp2;exact vK k _ fG.o KJ.o (by omega)
  ·have pw:k=l.length:=by omega
   have HN:Hq (mA ad l st.pos=false):=by
    show _= _;unfold mA;rw[List.any_eq_false];intro x hx;obtain⟨j,hj,rfl⟩:=List.mem_iff_getElem.1 hx;rw[hf.out j hj (by omega)];simp
   go_wp2;exact qq _ hb.out HN.o
theorem zA(w:World)(pb d:Nat)(ad:List Tok.Tk)(st:Ty.St)(h:PRd w pb d ad st)(g:Nat)(l:List BA)(hl:l.length<=10)(hg:g<w.heap.size)(Dx:∀j(hj:j<l.length),w.cell? ⟨g,j,none⟩=some (.string l[j])){R:EW}
  (hR:∀w',Below w.heap.size w w'->R (.returned (.bool (mA ad l st.pos))) w'):
  Calls prog 334 #[.slice (some ⟨g,0,none⟩) l.length l.length,.func (.func 210) #[.pointer (some ⟨pb,0,none⟩)] #[]] w R:=by
 have HR:=qh hR;have HX:=qh (λR h1 h2=>@Jj w pb d ad st h g l hl hg Dx R h1 h2);go_in;go_wp2_with fail;refine HX.o _ (λr w1 hb ha hr=>?_) (λw1 hb ha=>?_)
 ·rw[ha]at HR
  have HB:=qh hb;clear ha hb;go_wp2_with fail;exact HR.o _ HB.o
 ·rw[ha]at HR
  have HB:=qh hb;clear ha hb;go_wp2_with fail;exact HR.o _ HB.o
theorem CI{ad:List Tok.Tk}{l:List BA}{pos:Nat}(hp:pos<ad.length)(hl:tE ad)(h:mA ad l pos=true):pos+1<ad.length:=by
 obtain⟨x,_,hx⟩:=List.any_eq_true.1 h;exact is_lt hp hl hx
theorem yw(ad:List Tok.Tk)(l:List BA)(pos:Nat): (l.map λx=>x.data.toList).any (λx=>Ty.is ad x pos)=mA ad l pos:=by
 unfold mA;rw[List.any_map];rfl
theorem TU(w0 w:World)(Fr:As)(pb d sb:Nat)(ad:List Tok.Tk)(st:Ty.St)(one:Ty.M Nat)(hA:bh 1 0 0 one)(hN:Nx one)(aJ:List BA)(Eh:aJ.length<=10)(F:FuncId)(c:Value)
  (hc:∀(args:Array Value)(w:World),(callFunc F args).run prog w=.ok (.enter F args) w)
  (OQ:∀w1,Sat w0 w1 [Fr]->sb<w1.heap.size/\∀j(hj:j<aJ.length),w1.cell? ⟨sb,j,none⟩=some (.string aJ[j]))
  (Bj:∀s w1,Sat w0 w1 [Fr,aT pb d ad s]->∀R:EW,
   (∀n s2 w2,one s=.ok (n,s2)->Sat w0 w2 [Fr,aT pb d ad s2]->R (.returned (.int .i64 (n:Nat))) w2)->
   (∀f w2,one s=.error f->Sat w0 w2 [Fr]->R (.panicked (aO f)) w2)->Calls prog F #[c] w1 R)
  (H:Sat w0 w [Fr,aT pb d ad st]) {R:EW}
  (aD:∀n s2 w2,Ty.left ad one (aJ.map λx=>x.data.toList) st=.ok (n,s2)->Sat w0 w2 [Fr,aT pb d ad s2]->R (.returned (.int .i64 (n:Nat))) w2)
  (au:∀f w2,Ty.left ad one (aJ.map λx=>x.data.toList) st=.error f->Sat w0 w2 [Fr]->R (.panicked (aO f)) w2):
  Calls prog 317 #[.pointer (some ⟨pb,0,none⟩),.func (.func F) #[] #[c],.slice (some ⟨sb,0,none⟩) aJ.length aJ.length] w R:=by
 have cm:=H.look;have kG:=cm.wf.1;have Ll:=qh cm.wf;go_in;go_wp2_with fail;refine Bj _ _ H _ (λn s1 w1 hm h1=>?_) (λe w1 hm h1=>?_);rotate_left
 ·have HM:=qh hm;have H1:=qh h1;go_wp2_with fail;exact⟨rfl,au _ _ (by rw[Ty.left,aL HM.o]) H1.o⟩
 have lW:=(hN _ _ _ hm).2.1;have By:=h1.look.fits.1;have D_:Hq (Ty.left ad one (aJ.map λx=>x.data.toList) st=bM ad one (aJ.map λx=>x.data.toList) (ad.length+1) n s1):=by show _= _;rw[Ty.left,aj hm]
 have H1:=qh h1;go_wp2;go_loopw [7] (λv wr=>∃(f n:Nat)(s:Ty.St),v=.int .i64 n/\s.pos<ad.length/\ad.length<s.pos+f/\n+1=s.ns.length/\Hq (Sat w0 wr [Fr,aT pb d ad s])/\Hq (Ty.left ad one (aJ.map λx=>x.data.toList) st=bM ad one (aJ.map λx=>x.data.toList) f n s))
  (λ_ wr=>ad.length-posOf pb wr)
 case atStart=>exact⟨ad.length+1,n,s1,rfl,By,by omega,lW,H1.o,D_.o⟩
 case round=>
  obtain⟨f,n,s,rfl,hp,hf,hn,hS,hE⟩:=hrel;obtain⟨f,rfl⟩:∃g,f=g+1:=⟨f-1,by omega⟩
  have wQ:=qh (dq hS.out.look);have qL:=hS.out.look.fits.2.2.2;obtain⟨Vt,CS⟩:=OQ wr (hS.out.pick [0]);have HL:=qh hS.out.look;have Eo:Ty.left ad one (aJ.map λx=>x.data.toList) st=if mA ad aJ s.pos=true then(Ty.ak one λb=>Ty.ak (Ty.two (Ty.cur ad s.pos).text n b) λm=>bM ad one (aJ.map λx=>x.data.toList) f m) {s with pos:=s.pos+1}else .ok (n,s):=by
   rw[hE.out,bM,Ty.look,yw];split<;>rfl
  have abj:=qh (λw1(hb:Below wr.heap.size wr w1) R hR=>@zA w1 pb d ad s (HL.o.below hb) sb aJ Eh (nL Vt hb.size) (λj hj=>(hb.cell (p:=⟨sb,j,none⟩) Vt).trans (CS j hj)) R hR);have bz:=λh=>CI (l:=aJ) hp Ll.o h
  have HN:=qh (λR hR=>@gP wr pb d ad s HL.o R hR);generalize mA ad aJ s.pos=ai at*
  generalize Ty.cur ad s.pos=t at*
  obtain⟨kd,tx,ps⟩:=t;dsimp only at Eo;have Uc:=pP;go_wp2_with fail;refine HN.o _ (λw2 aW=>?_);dsimp only[bV];go_wp2_with fail;refine abj.o w2 aW _ (λw3 cZ=>?_);have qd:=qh (aW.trans (cZ.mono aW.size));cases ai
  ·have jK:Hq (Ty.left ad one (aJ.map λx=>x.data.toList) st=.ok (n,s)):=by show _= _;rw[Eo];rfl
   go_wp2;exact aD _ _ _ jK.o (hS.out.below qd.o)
  ·have jH:=bz rfl;have jK:Hq (Ty.left ad one (aJ.map λx=>x.data.toList) st=(Ty.ak one λb=>Ty.ak (Ty.two tx n b) λm=>bM ad one (aJ.map λx=>x.data.toList) f m) {s with pos:=s.pos+1}):=by show _= _;rw[Eo];rfl
   have h3:=hS.out.below qd.o;obtain⟨c1,_,f0⟩:=h3.look.cells;have H3:=qh (h3.setPos (s.pos+1) jH (by omega));go_wp2_with fail;refine Bj _ _ H3.o _ (λb s4 w4 hm h4=>?_) (λe w4 hm h4=>?_)
   ·have qZ:=hA _ _ _ hm;have yZ:=hN _ _ _ hm;have BN:=yZ.1.length_le;have uJ:Hq (Ty.left ad one (aJ.map λx=>x.data.toList) st=(Ty.ak (Ty.two tx n b) λm=>bM ad one (aJ.map λx=>x.data.toList) f m) s4):=by show _= _;rw[jK.o,aj hm]
    have H4:=qh h4;dsimp only at qZ BN;go_wp2_with fail;refine AY H4.o tx (by omega) (by omega) (λm s5 w5 hm h5=>?_);have tD:Hq (Ty.left ad one (aJ.map λx=>x.data.toList) st=bM ad one (aJ.map λx=>x.data.toList) f m s5):=by show _= _;rw[uJ.o,aj hm]
    have PQ:=(Nx.two tx n b _ _ _ hm).2.1;have VF:=bh.two tx n b _ _ _ hm;have XU:=h5.look.fits.1;have Sn:=qh (dq h5.look);go_wp2;go_roundw
    case rel=>exact⟨f,m,s5,rfl,XU,by omega,PQ,h5,tD.o⟩
    case measure=>rw[wQ.o,Sn.o];omega
   ·have uJ:Hq (Ty.left ad one (aJ.map λx=>x.data.toList) st=.error e):=by show _= _;rw[jK.o,aL hm]
    have H4:=qh h4;go_wp2_with fail;exact⟨rfl,au _ _ uJ.o H4.o⟩
theorem TW(w0 w:World)(Fr:As)(pb d sb:Nat)(ad:List Tok.Tk)(st:Ty.St)(one:Ty.M Nat)(hA:bh 1 0 0 one)(hN:Nx one)(aJ:List BA)(Eh:aJ.length<=10)(F:FuncId)(c:Value)
  (hc:∀(args:Array Value)(w:World),(callFunc F args).run prog w=.ok (.enter F args) w)
  (OQ:∀w1,Sat w0 w1 [Fr]->sb<w1.heap.size/\∀j(hj:j<aJ.length),w1.cell? ⟨sb,j,none⟩=some (.string aJ[j]))
  (Bj:∀s w1,Sat w0 w1 [Fr,aT pb d ad s]->∀R:EW,
   (∀n s2 w2,one s=.ok (n,s2)->Sat w0 w2 [Fr,aT pb d ad s2]->R (.returned (.int .i64 (n:Nat))) w2)->
   (∀f w2,one s=.error f->Sat w0 w2 [Fr]->R (.panicked (aO f)) w2)->Calls prog F #[c] w1 R)
  (H:Sat w0 w [Fr,aT pb d ad st]) {R:EW}
  (aD:∀n s2 w2,Ty.left ad one (aJ.map λx=>x.data.toList) st=.ok (n,s2)->Sat w0 w2 [Fr,aT pb d ad s2]->R (.returned (.int .i64 (n:Nat))) w2)
  (au:∀f w2,Ty.left ad one (aJ.map λx=>x.data.toList) st=.error f->Sat w0 w2 [Fr]->R (.panicked (aO f)) w2):
  Calls prog 317 #[.pointer (some ⟨pb,0,none⟩),.func (.func F) #[c] #[],.slice (some ⟨sb,0,none⟩) aJ.length aJ.length] w R:=by
 have cm:=H.look;have kG:=cm.wf.1;have Ll:=qh cm.wf;go_in;go_wp2_with fail;refine Bj _ _ H _ (λn s1 w1 hm h1=>?_) (λe w1 hm h1=>?_);rotate_left
 ·have HM:=qh hm;have H1:=qh h1;go_wp2_with fail;exact⟨rfl,au _ _ (by rw[Ty.left,aL HM.o]) H1.o⟩
 have lW:=(hN _ _ _ hm).2.1;have By:=h1.look.fits.1;have D_:Hq (Ty.left ad one (aJ.map λx=>x.data.toList) st=bM ad one (aJ.map λx=>x.data.toList) (ad.length+1) n s1):=by show _= _;rw[Ty.left,aj hm]
 have H1:=qh h1;go_wp2;go_loopw [7] (λv wr=>∃(f n:Nat)(s:Ty.St),v=.int .i64 n/\s.pos<ad.length/\ad.length<s.pos+f/\n+1=s.ns.length/\Hq (Sat w0 wr [Fr,aT pb d ad s])/\Hq (Ty.left ad one (aJ.map λx=>x.data.toList) st=bM ad one (aJ.map λx=>x.data.toList) f n s))
  (λ_ wr=>ad.length-posOf pb wr)
 case atStart=>exact⟨ad.length+1,n,s1,rfl,By,by omega,lW,H1.o,D_.o⟩
 case round=>
  obtain⟨f,n,s,rfl,hp,hf,hn,hS,hE⟩:=hrel;obtain⟨f,rfl⟩:∃g,f=g+1:=⟨f-1,by omega⟩
  have wQ:=qh (dq hS.out.look);have qL:=hS.out.look.fits.2.2.2;obtain⟨Vt,CS⟩:=OQ wr (hS.out.pick [0]);have HL:=qh hS.out.look;have Eo:Ty.left ad one (aJ.map λx=>x.data.toList) st=if mA ad aJ s.pos=true then(Ty.ak one λb=>Ty.ak (Ty.two (Ty.cur ad s.pos).text n b) λm=>bM ad one (aJ.map λx=>x.data.toList) f m) {s with pos:=s.pos+1}else .ok (n,s):=by
   rw[hE.out,bM,Ty.look,yw];split<;>rfl
  have abj:=qh (λw1(hb:Below wr.heap.size wr w1) R hR=>@zA w1 pb d ad s (HL.o.below hb) sb aJ Eh (nL Vt hb.size) (λj hj=>(hb.cell (p:=⟨sb,j,none⟩) Vt).trans (CS j hj)) R hR);have bz:=λh=>CI (l:=aJ) hp Ll.o h
  have HN:=qh (λR hR=>@gP wr pb d ad s HL.o R hR);generalize mA ad aJ s.pos=ai at*
  generalize Ty.cur ad s.pos=t at*
  obtain⟨kd,tx,ps⟩:=t;dsimp only at Eo;have Uc:=pP;go_wp2_with fail;refine HN.o _ (λw2 aW=>?_);dsimp only[bV];go_wp2_with fail;refine abj.o w2 aW _ (λw3 cZ=>?_);have qd:=qh (aW.trans (cZ.mono aW.size));cases ai
  ·have jK:Hq (Ty.left ad one (aJ.map λx=>x.data.toList) st=.ok (n,s)):=by show _= _;rw[Eo];rfl
   go_wp2;exact aD _ _ _ jK.o (hS.out.below qd.o)
  ·have jH:=bz rfl;have jK:Hq (Ty.left ad one (aJ.map λx=>x.data.toList) st=(Ty.ak one λb=>Ty.ak (Ty.two tx n b) λm=>bM ad one (aJ.map λx=>x.data.toList) f m) {s with pos:=s.pos+1}):=by show _= _;rw[Eo];rfl
   have h3:=hS.out.below qd.o;obtain⟨c1,_,f0⟩:=h3.look.cells;have H3:=qh (h3.setPos (s.pos+1) jH (by omega));go_wp2_with fail;refine Bj _ _ H3.o _ (λb s4 w4 hm h4=>?_) (λe w4 hm h4=>?_)
   ·have qZ:=hA _ _ _ hm;have yZ:=hN _ _ _ hm;have BN:=yZ.1.length_le;have uJ:Hq (Ty.left ad one (aJ.map λx=>x.data.toList) st=(Ty.ak (Ty.two tx n b) λm=>bM ad one (aJ.map λx=>x.data.toList) f m) s4):=by show _= _;rw[jK.o,aj hm]
    have H4:=qh h4;dsimp only at qZ BN;go_wp2_with fail;refine AY H4.o tx (by omega) (by omega) (λm s5 w5 hm h5=>?_);have tD:Hq (Ty.left ad one (aJ.map λx=>x.data.toList) st=bM ad one (aJ.map λx=>x.data.toList) f m s5):=by show _= _;rw[uJ.o,aj hm]
    have PQ:=(Nx.two tx n b _ _ _ hm).2.1;have VF:=bh.two tx n b _ _ _ hm;have XU:=h5.look.fits.1;have Sn:=qh (dq h5.look);go_wp2;go_roundw
    case rel=>exact⟨f,m,s5,rfl,XU,by omega,PQ,h5,tD.o⟩
    case measure=>rw[wQ.o,Sn.o];omega
   ·have uJ:Hq (Ty.left ad one (aJ.map λx=>x.data.toList) st=.error e):=by show _= _;rw[jK.o,aL hm]
    have H4:=qh h4;go_wp2_with fail;exact⟨rfl,au _ _ uJ.o H4.o⟩
def YK(ad:List Tok.Tk)(d:Nat)(O:Ty.M Nat):Prop:=
 ∀(w0 w:World)(Fr:As)(pb:Nat)(st:Ty.St),Sat w0 w [Fr,aT pb d ad st]->∀R:EW,
  (∀n st2 w2,O st=.ok (n,st2)->Sat w0 w2 [Fr,aT pb d ad st2]->R (.returned (.int .i64 (n:Nat))) w2)->
  (∀f w2,O st=.error f->Sat w0 w2 [Fr]->R (.panicked (aO f)) w2)->Calls prog 130 #[.pointer (some ⟨pb,0,none⟩),.func (.func 319) #[.pointer (some ⟨pb,0,none⟩)] #[]] w R
structure Lo(ad:List Tok.Tk)(d:Nat)(T E O S:Ty.M Nat):Prop where
 t:eO 120 ad d T
 e:eO 209 ad d E
 o:YK ad d O
 s:eO 76 ad d S
 at':bh 1 0 0 T
 ae:bh 1 0 0 E
 ao:bh 1 0 0 O
 TR:bh 1 0 0 S
 pt:bP T
 ne:Nx E
 no:Nx O
 ns:Nx S
section
variable {w0 w:World} {Fr:As} {pb d:Nat} {ad:List Tok.Tk} {st:Ty.St} {T E O S:Ty.M Nat}
theorem pD(L:Lo ad d T E O S)(H:Sat w0 w [Fr,aT pb d ad st]){R:EW}
  (aD:∀(n:Int) s2 w2,Ty.written ad T st=.ok (n,s2)->Sat w0 w2 [Fr,aT pb d ad s2]->R (.returned (.int .i64 n)) w2)
  (au:∀f w2,Ty.written ad T st=.error f->Sat w0 w2 [Fr]->R (.panicked (aO f)) w2):
  Calls prog 207 #[.pointer (some ⟨pb,0,none⟩)] w R:=by
 have fL:=qh aD;have bX:=qh au;have HS:=qh H;have HT:=qh L.t;clear aD au H L;go_in;go_wp2_with fail;refine cB HS.o ⟨#[58]⟩ (λw1 hi h1=>?_) (λw1 hi h1=>?_)
 ·have HI:=qh hi;have H1:=qh h1;clear hi h1;go_wp2_with fail;refine HT.o _ _ _ pb _ H1.o _ (λn s2 w2 hm h2=>?_) (λe w2 hm h2=>?_)
  ·have HM:=qh hm;have H2:=qh h2;clear hm h2;go_wp2_with fail;exact fL.o _ _ _ (by rw[Ty.written,aj HI.o,if_pos rfl,aj HM.o];rfl) H2.o
  ·have HM:=qh hm;have H2:=qh h2;clear hm h2;go_wp2_with fail;exact⟨rfl,bX.o _ _ (by rw[Ty.written,aj HI.o,if_pos rfl,aL HM.o]) H2.o⟩
 ·have HI:=qh hi;have H1:=qh h1;clear hi h1;go_wp2_with fail;exact fL.o (-1) _ _ (by rw[Ty.written,aj HI.o,if_neg (by simp)];rfl) H1.o
end
def sW(k a p:Int)(lv:Value):Obj:=.cells #[.int .i64 k,.int .i64 a,.int .i64 0,.int .i64 0,lv,.string ⟨#[]⟩,.int .i64 0,.int .i64 (-1),.int .i64 p] 66 (0,0)
def Pm(pb nb xb:Nat)(k a p:Int)(l:List Nat):As:=cn λv:Value=>aq [ax nb (sW k a p v),gi v l,qX pb xb]
theorem Prt.Sat.AU{w0 w:World}{A B:As}{pb nb xb:Nat}{k a p:Int}{l:List Nat}(H:Sat w0 w [A,B,Pm pb nb xb k a p l]):∃v,Sat w0 w [A,B,ax nb (sW k a p v),gi v l,qX pb xb]:=by
 obtain⟨v,hs⟩:=H.ex (i:=2) rfl;exact⟨v,hs.unpack 2 rfl⟩
theorem Ci(w0 w:World)(Fr:As)(pb nb xb d:Nat)(ad:List Tok.Tk)(E:Ty.M Nat)(fR:eO 209 ad d E)(k0 a0 p0:Int)
  (l:List Nat) (s:Ty.St) (H:Sat w0 w [Fr,aT pb d ad s,Pm pb nb xb k0 a0 p0 l]) (hl:l.length<=s.pos) {R:EW}
  (aD:∀n s2 w2,E s=.ok (n,s2)->Sat w0 w2 [Fr,aT pb d ad s2,Pm pb nb xb k0 a0 p0 (l++[n])]->R (.returned (.tuple #[])) w2)
  (au:∀f w2,E s=.error f->Sat w0 w2 [Fr]->R (.panicked (aO f)) w2):
  Calls prog 344 #[.pointer (some ⟨nb,0,none⟩),.pointer (some ⟨xb,0,none⟩)] w R:=by
 have fL:=qh aD;have bX:=qh au;have cm:=H.se;have ig:=cm.fits.1;have kG:=cm.wf.1;obtain⟨v,hs⟩:=H.AU;obtain⟨a,dt,rfl⟩:=ag (hs.row 3);have c1:=hs.cell 2 4;have c2:=hs.cell 4 0;have HS:=qh (fR w0 w.drew _ pb s (hs.drew.at 1 rfl));obtain⟨i0,ti,oB,oA,oy⟩:=info_parts jA;clear aD au fR H cm hs;go_in;go_wp2_with fail;go_region_law(first|(go_simp;go_at_call 209;refine HS.o _ (λn s2 w2 hm h2=>?_) (λf w2 hm h2=>⟨rfl,bX.o _ _ hm ((h2.unpack 0 rfl).pick [0])⟩);have h3:Sat w0 w2 [Fr,aT pb d ad s2,ax nb (sW k0 a0 p0 (.slice a l.length dt)),gi (.slice a l.length dt) l,qX pb xb]:=(Sat.uj (L:=[Fr,aT pb d ad s,ax nb (sW k0 a0 p0 (.slice a l.length dt)),gi (.slice a l.length dt) l,qX pb xb]) (i:=1) (by simp) h2);have d1:=h3.cell 2 4;have d2:=(h3.aU (.cells #[.int .i64 n] 3)).cell 2 4;have H3:=qh h3;clear h2 h3)|(go_loud(refine step_append_lies _ (by rfl) _ _ _ (by rfl) 0 3 i0 _ 1 8 underlying39 ti oB oA oy rfl (by omega) (.slice a l.length dt) l.length (l.map aQ) (by rfl) ((H3.o.row 3).alloc _) ⟨w2.heap.size,0,none⟩ 1 1 [.int .i64 n] (by rfl) (by rfl) (World.news_of_block (cs:=#[.int .i64 n]) (t:=3) (fr:=(0,0)) (aC _ _ _ (by simp))) (by simp[Value.oneCell']) (by omega) (by unfold maxLen;omega) (by omega) (by simp) (w2.heap.size+1) (by simp) ?_);intro g cap w3 ga fm qO A9;have h4:=Sat.grow (H3.o.aU _) 3 rfl fm ga (by simpa using qO);have d3:=h4.cell 2 4;have f3:=h4.free 2 rfl 4;have H4:=qh h4;clear h4))
 all_goals
  clear ga fm;go_wp2_with fail;go_end0;exact fL.o n s2 _ hm (((H4.o.store 2 rfl 4 _).cQ (i:=3) rfl (Q:=gi (.slice (some ⟨g,0,none⟩) (l.length+1) cap) (l++[n])) (λ_ h=>jd h)|>Sat.pack (L:=[Fr,aT pb d ad s2])).cQ (i:=2) rfl (λ_ h=>⟨_,h⟩))
theorem CW(w0 w:World)(Fr:As)(pb nb xb d:Nat)(ad:List Tok.Tk)(E:Ty.M Nat)(fR:eO 209 ad d E)(k0 a0 p0:Int)
  (l:List Nat) (s:Ty.St) (H:Sat w0 w [Fr,aT pb d ad s,Pm pb nb xb k0 a0 p0 l]) (hl:l.length<=s.pos) {R:EW}
  (aD:∀n s2 w2,E s=.ok (n,s2)->Sat w0 w2 [Fr,aT pb d ad s2,Pm pb nb xb k0 a0 p0 (l++[n])]->R (.returned (.tuple #[])) w2)
  (au:∀f w2,E s=.error f->Sat w0 w2 [Fr]->R (.panicked (aO f)) w2):
  Calls prog 347 #[.pointer (some ⟨nb,0,none⟩),.pointer (some ⟨xb,0,none⟩)] w R:=by
 have fL:=qh aD;have bX:=qh au;have cm:=H.se;have ig:=cm.fits.1;have kG:=cm.wf.1;obtain⟨v,hs⟩:=H.AU;obtain⟨a,dt,rfl⟩:=ag (hs.row 3);have c1:=hs.cell 2 4;have c2:=hs.cell 4 0;have HS:=qh (fR w0 w.drew _ pb s (hs.drew.at 1 rfl));obtain⟨i0,ti,oB,oA,oy⟩:=info_parts jA;clear aD au fR H cm hs;go_in;go_wp2_with fail;go_region_law(first|(go_simp;go_at_call 209;refine HS.o _ (λn s2 w2 hm h2=>?_) (λf w2 hm h2=>⟨rfl,bX.o _ _ hm ((h2.unpack 0 rfl).pick [0])⟩);have h3:Sat w0 w2 [Fr,aT pb d ad s2,ax nb (sW k0 a0 p0 (.slice a l.length dt)),gi (.slice a l.length dt) l,qX pb xb]:=(Sat.uj (L:=[Fr,aT pb d ad s,ax nb (sW k0 a0 p0 (.slice a l.length dt)),gi (.slice a l.length dt) l,qX pb xb]) (i:=1) (by simp) h2);have d1:=h3.cell 2 4;have d2:=(h3.aU (.cells #[.int .i64 n] 3)).cell 2 4;have H3:=qh h3;clear h2 h3)|(go_loud(refine step_append_lies _ (by rfl) _ _ _ (by rfl) 0 3 i0 _ 1 8 underlying39 ti oB oA oy rfl (by omega) (.slice a l.length dt) l.length (l.map aQ) (by rfl) ((H3.o.row 3).alloc _) ⟨w2.heap.size,0,none⟩ 1 1 [.int .i64 n] (by rfl) (by rfl) (World.news_of_block (cs:=#[.int .i64 n]) (t:=3) (fr:=(0,0)) (aC _ _ _ (by simp))) (by simp[Value.oneCell']) (by omega) (by unfold maxLen;omega) (by omega) (by simp) (w2.heap.size+1) (by simp) ?_);intro g cap w3 ga fm qO A9;have h4:=Sat.grow (H3.o.aU _) 3 rfl fm ga (by simpa using qO);have d3:=h4.cell 2 4;have f3:=h4.free 2 rfl 4;have H4:=qh h4;clear h4))
 all_goals
  clear ga fm;go_wp2_with fail;go_end0;exact fL.o n s2 _ hm (((H4.o.store 2 rfl 4 _).cQ (i:=3) rfl (Q:=gi (.slice (some ⟨g,0,none⟩) (l.length+1) cap) (l++[n])) (λ_ h=>jd h)|>Sat.pack (L:=[Fr,aT pb d ad s2])).cQ (i:=2) rfl (λ_ h=>⟨_,h⟩))
namespace Ty
def YL(ad:List Tok.Tk)(T E:M Nat)(f a p:Nat):M Nat:=ak (list ad [41] (λ_=>E) (ad.length+1) []) λl=>ak (addNode {af 7 p with a:=a,list:=l}) λm=>behind ad T E f m
def Yf(ad:List Tok.Tk)(T E:M Nat)(f a p:Nat):M Nat:=ak (name ad []) λx=>ak (addNode {af 8 p with a:=a,text:=x}) λm=>behind ad T E f m
def Y1(ad:List Tok.Tk)(T E:M Nat)(f a p:Nat):M Nat:=ak E λc=>ak (need ad [93]) λ_=>ak (addNode {af 9 p with a:=a,b:=c}) λm=>behind ad T E f m
def Yh(ad:List Tok.Tk)(T E:M Nat)(f a p:Nat):M Nat:=ak T λt=>ak (addNode {af 14 p with a:=a,ty:=(t:Int)}) λm=>behind ad T E f m
section
variable {ad:List Tok.Tk} {T E:M Nat} {f a:Nat} {s s1:St}
theorem ZA(h:take ad [40] s=.ok (true,s1)):behind ad T E (f+1) a s=YL ad T E f a (aY s a).pos s1:=by
 rw[behind];show ak _ _ s= _;rw[aj h];rfl
theorem Zg(h0:take ad [40] s=.ok (false,s))(h:take ad [46] s=.ok (true,s1)):behind ad T E (f+1) a s=Yf ad T E f a (aY s a).pos s1:=by
 rw[behind];show ak _ _ s= _;rw[aj h0];show ak _ _ s= _;rw[aj h];rfl
theorem abn(h0:take ad [40] s=.ok (false,s))(h1:take ad [46] s=.ok (false,s))(h:take ad [91] s=.ok (true,s1)):behind ad T E (f+1) a s=Y1 ad T E f a (aY s a).pos s1:=by
 rw[behind];show ak _ _ s= _;rw[aj h0];show ak _ _ s= _;rw[aj h1];show ak _ _ s= _;rw[aj h];rfl
theorem Y'(h0:take ad [40] s=.ok (false,s))(h1:take ad [46] s=.ok (false,s))(h2:take ad [91] s=.ok (false,s))(h:take ad [97,115] s=.ok (true,s1)):behind ad T E (f+1) a s=Yh ad T E f a (aY s a).pos s1:=by
 rw[behind];show ak _ _ s= _;rw[aj h0];show ak _ _ s= _;rw[aj h1];show ak _ _ s= _;rw[aj h2];show ak _ _ s= _;rw[aj h];rfl
theorem ZF(h0:take ad [40] s=.ok (false,s))(h1:take ad [46] s=.ok (false,s))(h2:take ad [91] s=.ok (false,s))(h3:take ad [97,115] s=.ok (false,s)):behind ad T E (f+1) a s=.ok (a,s):=by
 rw[behind];show ak _ _ s= _;rw[aj h0];show ak _ _ s= _;rw[aj h1];show ak _ _ s= _;rw[aj h2];show ak _ _ s= _;rw[aj h3];rfl
end
end Ty
theorem OP(w:World):w.ownsRow 0 9 1 (.slice none 0 0) ([]:List BA).length (([]:List BA).map Value.string):=⟨rfl,.inl ⟨rfl,rfl⟩⟩
theorem Prt.Sat.tI{w0 w:World}{Fr P X B A:As}(h:Sat w0 w [Fr,P,X,B,A]):Sat w0 w [aq [Fr,X,B],P,A]:=(Sat.pack (L:=[_,_]) (M:=[_,_,_]) (h.pick [1,4,0,2,3])).pick [2,0,1]
theorem Prt.Sat.vZ{w0 w:World}{Fr P X B:As}(h:Sat w0 w [aq [Fr,X,B],P]):Sat w0 w [Fr,P,X]:=(h.unpack 0 rfl).pick [1,0,2]
theorem F3{w0 w:World}{Fr:As}{pb d:Nat}{ad:List Tok.Tk}{st:Ty.St}{T E O S:Ty.M Nat}(L:Lo ad d T E O S)(H:Sat w0 w [Fr,aT pb d ad st]){a0:Nat}(ha:a0+1=st.ns.length){R:EW}
  (aD:∀n s2 w2,Ty.behind ad T E (ad.length+1) a0 st=.ok (n,s2)->Sat w0 w2 [Fr,aT pb d ad s2]->R (.returned (.int .i64 (n:Nat))) w2)
  (au:∀f w2,Ty.behind ad T E (ad.length+1) a0 st=.error f->Sat w0 w2 [Fr]->R (.panicked (aO f)) w2):
  Calls prog 335 #[.pointer (some ⟨pb,0,none⟩),.int .i64 (a0:Nat)] w R:=by
 have fL:=qh aD;have bX:=qh au;have HL:=qh L;have cm:=H.look;have ig:=cm.fits.1;have h1:Sat w0 _ [Fr,aT pb d ad st,qX pb w.heap.size]:=H.ar (.cells #[.pointer (some ⟨pb,0,none⟩)] 80) w.heap.size;have H1:=qh h1;clear aD au H L cm h1;go_in;go_wp2_with fail;go_loopw [1] (λv wr=>∃(f a:Nat)(s:Ty.St),v=.int .i64 a/\s.pos<ad.length/\ad.length<s.pos+f/\a+1=s.ns.length/\Hq (Sat w0 wr [Fr,aT pb d ad s,qX pb w.heap.size])/\Hq (∀r,Ty.behind ad T E f a s=r->Ty.behind ad T E (ad.length+1) a0 st=r))
  (λ_ wr=>ad.length-posOf pb wr)
 case atStart=>exact⟨ad.length+1,a0,st,rfl,ig,by omega,ha,H1.o,λr h=>h⟩
 case round=>
  obtain⟨f,a,s,rfl,hp,hf,hn,hS,hE⟩:=hrel;obtain⟨f,rfl⟩:∃g,f=g+1:=⟨f-1,by omega⟩
  have wQ:=qh (dq (hS.out.pick [0,1]).look);have qL:=(hS.out.pick [0,1]).look.fits.2.2;have x0:=hS.out.cell 2 0;go_wp2_with fail;refine zo (hS.out.at 1 rfl) (by omega) ?_;have HB:=qh hE.out;obtain⟨ps,kp⟩:∃ps,(aY s a).pos=ps:=⟨_,rfl⟩
  rw[kp];have RI:=qh kp;clear kp hE;go_wp2_with fail;refine lG wr 0 ps (λw1 cd=>?_);have h1:=(hS.out.below cd).ar (.cells #[.int .i64 0,.int .i64 a,.int .i64 0,.int .i64 0,.slice none 0 0,.string ⟨#[]⟩,.int .i64 0,.int .i64 (-1),.int .i64 ps] 66) w1.heap.size;have z1:=h1.cell 2 0;have eR:=h1.ne 2 3 (by decide) rfl rfl;have H1:=qh h1;clear cd x0 h1;go_wp2_with fail;refine cB (H1.o.at 1 rfl) ⟨#[40]⟩ (λw2 hi h2=>?_) (λw2 hi h2=>?_)
  ·have h3:=h2.oH;have y0:=h3.cell 3 0;have fz:=h3.free 3 rfl;have z2:=h3.cell 2 0;have ia:Hq (Ty.behind ad T E (ad.length+1) a0 st=YL ad T E f a ps {s with pos:=s.pos+1}):=HB.o _ (by rw[ZA hi,RI.o]);have H3:=qh h3;clear hi h2 h3 z1;go_wp2_with fail;have h4:=H3.o.store 3 rfl 0 (.int .i64 7);have h5:Sat w0 _ [Fr,aT pb d ad {s with pos:=s.pos+1},Pm pb w1.heap.size w.heap.size 7 a ps []]:=(Sat.pack (L:=[_,_]) (M:=[_,_,_]) ((h4.nil 3 1).pick [0,1,3,4,2])).cQ (i:=2) rfl (λ_ h=>⟨_,h⟩);refine o9 w0 _ Fr pb d ad _ (Pm pb w1.heap.size w.heap.size 7 a ps) h5 ⟨#[41]⟩ 344 _ Tryz.call344 (λ_=>E) (λ_=>HL.o.ae) (λl s w1 h hl R aD au=>Ci w0 w1 Fr pb _ _ d ad E HL.o.e 7 a ps l s h hl aD au) (λl s4 w4 hm YZ h6=>?_) (λe w4 hm h6=>?_)
   ·have qZ:=hU (λ_=>HL.o.ae) _ _ _ _ _ hm;dsimp only at qZ;obtain⟨v,h7⟩:=h6.AU;obtain⟨va,vc,rfl⟩:=ag (h7.row 3);have q0:=h7.cell 2 0;have q1:=h7.cell 2 1;have q2:=h7.cell 2 2;have q3:=h7.cell 2 3;have q4:=h7.cell 2 4;have q5:=h7.cell 2 5;have q6:=h7.cell 2 6;have q7:=h7.cell 2 7;have q8:=h7.cell 2 8;have zx:=h7.cell 4 0;have jK:Hq (Ty.behind ad T E (ad.length+1) a0 st=Ty.ak (Ty.addNode {Ty.af 7 ps with a:=a,list:=l}) (λm=>Ty.behind ad T E f m) s4):=ia.o.trans (by rw[YL,aj hm]);have H7:=qh h7;clear hm h6 h7 h4 h5 z2 y0 fz;go_wp2_with fail;refine bT {Ty.af 7 ps with a:=a,list:=l} (.slice va l.length vc) ((H7.o.pick [0,1,4,2,3]).tI) (by omega) (λw5 h8=>?_);have h6:=h8.vZ;have RA:=(h6.pick [0,1]).look.fits.1;have Fg:=qh (dq (h6.pick [0,1]).look);have H6:=qh h6;have AV:Hq (∀r,Ty.behind ad T E f s4.ns.length {s4 with ns:=s4.ns++[{Ty.af 7 ps with a:=a,list:=l}]}=r->Ty.behind ad T E (ad.length+1) a0 st=r):=λr h=>jK.o.trans h
    clear h8 h6;go_wp2_with fail;go_roundw
    case rel=>exact⟨f,s4.ns.length,{s4 with ns:=s4.ns++[{Ty.af 7 ps with a:=a,list:=l}]},rfl,RA,by first|omega|(dsimp only;omega),by simp,H6,AV⟩
    case measure=>rw[wQ.o,Fg.o];first|omega|(dsimp only;omega)|(dsimp only at*;omega)
   ·have jK:Hq (Ty.behind ad T E (ad.length+1) a0 st=.error e):=ia.o.trans (by rw[YL,aL hm]);have H6:=qh h6;clear hm h6 h4 h5;go_wp2_with fail;exact⟨rfl,bX.o _ _ jK.o H6.o⟩
  ·have h3:=h2.oH;have z2:=h3.cell 2 0;have HA:=qh hi;have H3:=qh h3;clear hi h2 h3 z1;go_wp2_with fail;refine cB (H3.o.at 1 rfl) ⟨#[46]⟩ (λw3 hi h2=>?_) (λw3 hi h2=>?_)
   ·have h3:=h2.oH;have z3:=h3.cell 2 0;have ia:Hq (Ty.behind ad T E (ad.length+1) a0 st=Yf ad T E f a ps {s with pos:=s.pos+1}):=HB.o _ (by rw[Zg HA.o hi,RI.o]);have H4:=qh h3;clear hi h2 h3 z2;go_wp2_with fail;refine mY (H4.o.at 1 rfl) _ [] (OP _) (by simp) (λx w4 hm h5=>?_) (λe w4 hm h5=>?_)
    ·have h7:=h5.oH;have y0:=h7.cell 3 0;have y5:=h7.cell 3 5;have fz:=h7.free 3 rfl;have q1:=h7.cell 3 1;have q2:=h7.cell 3 2;have q3:=h7.cell 3 3;have q4:=h7.cell 3 4;have q6:=h7.cell 3 6;have q7:=h7.cell 3 7;have q8:=h7.cell 3 8;have zx:=h7.cell 2 0;have jK:Hq (Ty.behind ad T E (ad.length+1) a0 st=Ty.ak (Ty.addNode {Ty.af 8 ps with a:=a,text:=x}) (λm=>Ty.behind ad T E f m) {s with pos:=s.pos+1+1}):=ia.o.trans (by rw[Yf,aj hm]);have H7:=qh (((h7.store 3 rfl 0 (.int .i64 8)).store 3 rfl 5 (.string x)).nil 3 1);clear hm h5 h7 z3;go_wp2_with fail;refine bT {Ty.af 8 ps with a:=a,text:=x} (.slice none 0 0) (H7.o.tI) (by first|omega|(dsimp only;omega)) (λw5 h8=>?_);have h6:=h8.vZ;have RA:=(h6.pick [0,1]).look.fits.1;have Fg:=qh (dq (h6.pick [0,1]).look);have H6:=qh h6;have AV:Hq (∀r,Ty.behind ad T E f s.ns.length {s with pos:=s.pos+1+1,ns:=s.ns++[{Ty.af 8 ps with a:=a,text:=x}]}=r->Ty.behind ad T E (ad.length+1) a0 st=r):=λr h=>jK.o.trans h
     clear h8 h6;go_wp2_with fail;go_roundw
     case rel=>exact⟨f,s.ns.length,{s with pos:=s.pos+1+1,ns:=s.ns++[{Ty.af 8 ps with a:=a,text:=x}]},rfl,RA,by first|omega|(dsimp only;omega),by simp,H6,AV⟩
     case measure=>rw[wQ.o,Fg.o];first|omega|(dsimp only;omega)|(dsimp only at*;omega)
    ·have jK:Hq (Ty.behind ad T E (ad.length+1) a0 st=.error e):=ia.o.trans (by rw[Yf,aL hm]);have H6:=qh (h5.unpack 0 rfl);clear hm h5;go_wp2_with fail;exact⟨rfl,bX.o _ _ jK.o (H6.o.pick [0])⟩
   ·have h3:=h2.oH;have z3:=h3.cell 2 0;have MQ:=qh hi;have H4:=qh h3;clear hi h2 h3 z2;go_wp2_with fail;refine cB (H4.o.at 1 rfl) ⟨#[91]⟩ (λw4 hi h2=>?_) (λw4 hi h2=>?_)
    ·have h3:=h2.oH;have z4:=h3.cell 2 0;have ia:Hq (Ty.behind ad T E (ad.length+1) a0 st=Y1 ad T E f a ps {s with pos:=s.pos+1}):=HB.o _ (by rw[abn HA.o MQ.o hi,RI.o]);have H5:=qh h3;clear hi h2 h3 z3;go_wp2_with fail;refine HL.o.e _ _ _ pb _ (H5.o.at 1 rfl) _ (λc s5 w5 hm h5=>?_) (λe w5 hm h5=>?_)
     ·have qZ:=HL.o.ae _ _ _ hm;dsimp only at qZ;have h7:=h5.oH;have y0:=h7.cell 3 0;have y2:=h7.cell 3 2;have fz:=h7.free 3 rfl;have zx:=h7.cell 2 0;have jK:Hq (Ty.behind ad T E (ad.length+1) a0 st=Ty.ak (Ty.need ad [93]) (λ_=>Ty.ak (Ty.addNode {Ty.af 9 ps with a:=a,b:=c}) λm=>Ty.behind ad T E f m) s5):=ia.o.trans (by rw[Y1,aj hm]);have H7:=qh ((h7.store 3 rfl 0 (.int .i64 9)).store 3 rfl 2 (.int .i64 (c:Nat)));clear hm h5 h7 z4;go_wp2_with fail;refine cS (H7.o.at 1 rfl) ⟨#[93]⟩ (λw6 hi h2=>?_) (λe w6 hi h2=>?_)
      ·have h7:=(h2.oH).nil 3 1;have q0:=h7.cell 3 0;have q1:=h7.cell 3 1;have q2:=h7.cell 3 2;have q3:=h7.cell 3 3;have q4:=h7.cell 3 4;have q5:=h7.cell 3 5;have q6:=h7.cell 3 6;have q7:=h7.cell 3 7;have q8:=h7.cell 3 8;have zx:=h7.cell 2 0;have uJ:Hq (Ty.behind ad T E (ad.length+1) a0 st=Ty.ak (Ty.addNode {Ty.af 9 ps with a:=a,b:=c}) (λm=>Ty.behind ad T E f m) {s5 with pos:=s5.pos+1}):=jK.o.trans (by rw[aj hi]);have H8:=qh h7;clear hi h2 h7 y0 y2 fz;go_wp2_with fail;refine bT {Ty.af 9 ps with a:=a,b:=c} (.slice none 0 0) (H8.o.tI) (by first|omega|(dsimp only;omega)) (λw5 h8=>?_);have h6:=h8.vZ;have RA:=(h6.pick [0,1]).look.fits.1;have Fg:=qh (dq (h6.pick [0,1]).look);have H6:=qh h6;have AV:Hq (∀r,Ty.behind ad T E f s5.ns.length {s5 with pos:=s5.pos+1,ns:=s5.ns++[{Ty.af 9 ps with a:=a,b:=c}]}=r->Ty.behind ad T E (ad.length+1) a0 st=r):=λr h=>uJ.o.trans h
       clear h8 h6;go_wp2_with fail;go_roundw
       case rel=>exact⟨f,s5.ns.length,{s5 with pos:=s5.pos+1,ns:=s5.ns++[{Ty.af 9 ps with a:=a,b:=c}]},rfl,RA,by first|omega|(dsimp only;omega),by simp,H6,AV⟩
       case measure=>rw[wQ.o,Fg.o];first|omega|(dsimp only;omega)|(dsimp only at*;omega)
      ·have uJ:Hq (Ty.behind ad T E (ad.length+1) a0 st=.error e):=jK.o.trans (by rw[aL hi]);have H6:=qh (h2.unpack 0 rfl);clear hi h2;go_wp2_with fail;exact⟨rfl,bX.o _ _ uJ.o (H6.o.pick [0])⟩
     ·have jK:Hq (Ty.behind ad T E (ad.length+1) a0 st=.error e):=ia.o.trans (by rw[Y1,aL hm]);have H6:=qh (h5.unpack 0 rfl);clear hm h5;go_wp2_with fail;exact⟨rfl,bX.o _ _ jK.o (H6.o.pick [0])⟩
    ·have h3:=h2.oH;have z4:=h3.cell 2 0;have U8:=qh hi;have H5:=qh h3;clear hi h2 h3 z3;go_wp2_with fail;refine cB (H5.o.at 1 rfl) ⟨#[97,115]⟩ (λw5 hi h2=>?_) (λw5 hi h2=>?_)
     ·have h3:=h2.oH;have z5:=h3.cell 2 0;have ia:Hq (Ty.behind ad T E (ad.length+1) a0 st=Yh ad T E f a ps {s with pos:=s.pos+1}):=HB.o _ (by rw[Y' HA.o MQ.o U8.o hi,RI.o]);have H6:=qh h3;clear hi h2 h3 z4;go_wp2_with fail;refine HL.o.t _ _ _ pb _ (H6.o.at 1 rfl) _ (λc s6 w6 hm h5=>?_) (λe w6 hm h5=>?_)
      ·have qZ:=HL.o.at' _ _ _ hm;dsimp only at qZ;have h7:=h5.oH;have y0:=h7.cell 3 0;have y7:=h7.cell 3 7;have fz:=h7.free 3 rfl;have q1:=h7.cell 3 1;have q2:=h7.cell 3 2;have q3:=h7.cell 3 3;have q4:=h7.cell 3 4;have q5:=h7.cell 3 5;have q6:=h7.cell 3 6;have q8:=h7.cell 3 8;have zx:=h7.cell 2 0;have jK:Hq (Ty.behind ad T E (ad.length+1) a0 st=Ty.ak (Ty.addNode {Ty.af 14 ps with a:=a,ty:=(c:Int)}) (λm=>Ty.behind ad T E f m) s6):=ia.o.trans (by rw[Yh,aj hm]);have H7:=qh (((h7.store 3 rfl 0 (.int .i64 14)).store 3 rfl 7 (.int .i64 (c:Nat))).nil 3 1);clear hm h5 h7 z5;go_wp2_with fail;refine bT {Ty.af 14 ps with a:=a,ty:=(c:Int)} (.slice none 0 0) (H7.o.tI) (by first|omega|(dsimp only;omega)) (λw5 h8=>?_);have h6:=h8.vZ;have RA:=(h6.pick [0,1]).look.fits.1;have Fg:=qh (dq (h6.pick [0,1]).look);have H6:=qh h6;have AV:Hq (∀r,Ty.behind ad T E f s6.ns.length {s6 with ns:=s6.ns++[{Ty.af 14 ps with a:=a,ty:=(c:Int)}]}=r->Ty.behind ad T E (ad.length+1) a0 st=r):=λr h=>jK.o.trans h
       clear h8 h6;go_wp2_with fail;go_roundw
       case rel=>exact⟨f,s6.ns.length,{s6 with ns:=s6.ns++[{Ty.af 14 ps with a:=a,ty:=(c:Int)}]},rfl,RA,by first|omega|(dsimp only;omega),by simp,H6,AV⟩
       case measure=>rw[wQ.o,Fg.o];first|omega|(dsimp only;omega)|(dsimp only at*;omega)
      ·have jK:Hq (Ty.behind ad T E (ad.length+1) a0 st=.error e):=ia.o.trans (by rw[Yh,aL hm]);have H6:=qh (h5.unpack 0 rfl);clear hm h5;go_wp2_with fail;exact⟨rfl,bX.o _ _ jK.o (H6.o.pick [0])⟩
     ·have ia:Hq (Ty.behind ad T E (ad.length+1) a0 st=.ok (a,s)):=HB.o _ (ZF HA.o MQ.o U8.o hi);have H6:=qh h2.oH;clear hi h2;go_wp2_with fail;exact fL.o _ _ _ ia.o (H6.o.pick [0,1])
def Lu(mb:Nat)(names:List BA):As:=cn λmv:Value=>aq [ax mb (.cells #[mv] 161 (0,0)),pB mv names]
theorem Prt.Sat.NS{w0 w:World}{A B:As}{mb:Nat}{l:List BA}(H:Sat w0 w [A,B,Lu mb l]):∃mv,Sat w0 w [A,B,ax mb (.cells #[mv] 161 (0,0)),pB mv l]:=by
 obtain⟨v,hs⟩:=H.ex (i:=2) rfl;exact⟨v,hs.unpack 2 rfl⟩
theorem Prt.Sat.EX{w0 w:World}{A B:As}{mb:Nat}{l:List BA}{mv:Value}(H:Sat w0 w [A,B,ax mb (.cells #[mv] 161 (0,0)),pB mv l]):Sat w0 w [A,B,Lu mb l]:=
 (Sat.pack (L:=[_,_]) H).cQ (i:=2) rfl (λ_ h=>⟨_,h⟩)
def Is(F:FuncId)(ad:List Tok.Tk)(d:Nat)(M:List BA->Ty.M (BA×Nat)):Prop:=
 ∀(w0 w:World)(Fr:As)(pb mb:Nat)(st:Ty.St)(names:List BA),Sat w0 w [Fr,aT pb d ad st,Lu mb names]->names.length<=st.pos->∀R:EW,
  (∀x n s2 w2,M names st=.ok ((x,n),s2)->Sat w0 w2 [Fr,aT pb d ad s2,Lu mb (names++[x])]->R (.returned (.int .i64 (n:Nat))) w2)->
  (∀f w2,M names st=.error f->Sat w0 w2 [Fr]->R (.panicked (aO f)) w2)->Calls prog F #[.pointer (some ⟨pb,0,none⟩),.pointer (some ⟨mb,0,none⟩)] w R
theorem Prt.Sat.lU{w0 w:World}{Fr P M B N A:As}(h:Sat w0 w [Fr,P,M,B,N,A]):Sat w0 w [aq [Fr,M,N,B],P,A]:=(Sat.pack (L:=[_,_]) (M:=[_,_,_,_]) (h.pick [1,5,0,2,4,3])).pick [2,0,1]
theorem Prt.Sat.Ic{w0 w:World}{Fr P M N B:As}(h:Sat w0 w [aq [Fr,M,N,B],P]):Sat w0 w [Fr,P,M,N]:=(h.unpack 0 rfl).pick [1,0,2,3]
theorem L5{ad:List Tok.Tk}{d:Nat}{T E O S:Ty.M Nat}(L:Lo ad d T E O S):Is 349 ad d (Ty.fV ad E):=by
 intro w0 w Fr pb mb st names H lW R aD au;have fL:=qh aD;have HL:=qh L;have cm:=(H.pick [0,1]).look;have kG:=cm.wf.1;have ig:=cm.fits.1;have qL:=cm.fits.2.2.2;obtain⟨mv,h0⟩:=H.NS;obtain⟨ma,mc,rfl⟩:=ag (h0.row 3);have HS:=qh h0;have HN:=qh (λR hR=>@gP w pb d ad st cm R hR);obtain⟨i0,ti,oB,oA,oy⟩:=info_parts uW;obtain⟨ps,kp⟩:∃ps,(Ty.cur ad st.pos).pos=ps:=⟨_,rfl⟩
 have vS:Hq (∀r,(Ty.ak (Ty.name ad names) λx=>Ty.ak (Ty.need ad [58]) λ_=>Ty.ak E λa=>Ty.ak (Ty.addNode {Ty.af 15 ps with text:=x,a:=a}) λn=>Ty.ret (x,n)) st=r->Ty.fV ad E names st=r):=λr h=>by rw[<-h,<-kp];rfl
 generalize Ty.cur ad st.pos=t at*
 obtain⟨kd,tx,tp⟩:=t;dsimp only at kp;subst kp;have Ea:=kA;clear aD H L cm h0;go_enter func349,ntmps349;go_wp2_with fail;refine HN.o _ (λw1 cd=>?_);dsimp only[bV];have H1:=qh (HS.o.below cd);clear cd;go_wp2_with fail;refine lG w1 15 tp (λw2 aW=>?_);have h2:=(H1.o.below aW).ar (.cells #[.int .i64 15,.int .i64 0,.int .i64 0,.int .i64 0,.slice none 0 0,.string ⟨#[]⟩,.int .i64 0,.int .i64 (-1),.int .i64 tp] 66) w2.heap.size;have x2:=h2.cell 2 0;have H2:=qh h2;clear aW h2;go_wp2_with fail;refine mY (H2.o.at 1 rfl) _ names (H2.o.row 3) (by omega) (λx w3 hm h3=>?_) (λe w3 hm h3=>?_);rotate_left
 ·have tT:Hq (Ty.fV ad E names st=.error e):=vS.o _ (by rw[aL hm]);have H3:=qh (h3.unpack 0 rfl);clear hm h3;go_wp2_with fail;exact⟨rfl,au _ _ tT.o (H3.o.pick [0])⟩
 have tT:Hq (∀r,(Ty.ak (Ty.need ad [58]) λ_=>Ty.ak E λa=>Ty.ak (Ty.addNode {Ty.af 15 tp with text:=x,a:=a}) λn=>Ty.ret (x,n)) {st with pos:=st.pos+1}=r->Ty.fV ad E names st=r):=λr h=>vS.o r (by rw[aj hm];exact h)
 have h4:=h3.uc;have y5:=h4.cell 4 5;have f5:=h4.free 4 rfl;have abO:=h4.lt 2;have h5:=h4.store 4 rfl 5 (.string x);have x4:=h5.cell 2 0;have y4:=h5.cell 4 5;have ik:=qh (h5.row 3);have H5:=qh h5;clear hm h3 h4 h5 x2;go_wp2_with fail;go_region_law(first|(go_loud(refine step_append_lies _ (by rfl) _ _ _ (by rfl) 0 9 i0 _ 1 16 underlying161 ti oB oA oy rfl (by omega) (.slice ma names.length mc) names.length (names.map Value.string) (by rfl) ((ik.o.alloc _).drew) ⟨w3.heap.size,0,none⟩ 1 1 [.string x] (by rfl) (by rfl) (World.news_of_block (cs:=#[.string x]) (t:=9) (fr:=(0,0)) (eK (aC _ _ _ (by simp)))) (by simp[Value.oneCell']) (by omega) (by unfold maxLen;omega) (by omega) (by simp) (w3.heap.size+1) (by simp) ?_);intro g cap w4 cy bD gV o_;have h6:=Sat.grow (m:=names.length+1) ((H5.o.aU _).drew) 3 rfl bD cy (by simpa using gV);have x5:=h6.cell 2 0;have f6:=h6.free 2 rfl 0;have ad1:=h6.lt 2;have H6:=qh h6;clear h6))
 all_goals
  clear cy bD;have h7:=(H6.o.store 2 rfl 0 (.slice (some ⟨g,0,none⟩) (names.length+1) cap)).cQ (i:=3) rfl (Q:=pB (.slice (some ⟨g,0,none⟩) (names.length+1) cap) (names++[x])) (λ_ h=>sF h);have H7:=qh h7;clear h7;go_wp2_with fail;refine cS (H7.o.at 1 rfl) ⟨#[58]⟩ (λw5 hm h8=>?_) (λe w5 hm h8=>?_);rotate_left
  ·have ia:Hq (Ty.fV ad E names st=.error e):=tT.o _ (by rw[aL hm]);have H8:=qh (h8.unpack 0 rfl);clear hm h8;go_wp2_with fail;exact⟨rfl,au _ _ ia.o (H8.o.pick [0])⟩
  have ia:Hq (∀r,(Ty.ak E λa=>Ty.ak (Ty.addNode {Ty.af 15 tp with text:=x,a:=a}) λn=>Ty.ret (x,n)) {st with pos:=st.pos+1+1}=r->Ty.fV ad E names st=r):=λr h=>tT.o r (by rw[aj hm];exact h)
  have H8:=qh h8.uc;clear hm h8;go_wp2_with fail;refine HL.o.e _ _ _ pb _ (H8.o.at 1 rfl) _ (λn s6 w6 hm h9=>?_) (λe w6 hm h9=>?_);rotate_left
  ·have jK:Hq (Ty.fV ad E names st=.error e):=ia.o _ (by rw[aL hm]);have H9:=qh (h9.unpack 0 rfl);clear hm h9;go_wp2_with fail;exact⟨rfl,au _ _ jK.o (H9.o.pick [0])⟩
  have qZ:=HL.o.ae _ _ _ hm;dsimp only at qZ;have jK:Hq (Ty.fV ad E names st=.ok ((x,s6.ns.length),{s6 with ns:=s6.ns++[{Ty.af 15 tp with text:=x,a:=n}]})):=ia.o _ (by rw[aj hm];rfl);have fs:=h9.uc;have y1:=fs.cell 4 1;have f1:=fs.free 4 rfl;have pY:=fs.store 4 rfl 1 (.int .i64 (n:Nat));have q0:=fs.cell 4 0;have q2:=fs.cell 4 2;have q3:=fs.cell 4 3;have q4:=fs.cell 4 4;have q5:=fs.cell 4 5;have q6:=fs.cell 4 6;have q7:=fs.cell 4 7;have q8:=fs.cell 4 8;have W0:=qh (pY.nil 3 1);clear hm h9 fs pY;go_wp2_with fail;refine bT {Ty.af 15 tp with text:=x,a:=n} (.slice none 0 0) ((W0.o.pick [0,1,2,4,3,5]).lU) (by omega) (λw7 kn=>?_);have wW:=qh kn.Ic;clear kn;go_wp2_with fail;exact fL.o _ _ _ _ jK.o wW.o.EX
theorem I1{ad:List Tok.Tk}{d:Nat}{T E O S:Ty.M Nat}(L:Lo ad d T E O S):Is 357 ad d (Ty.fC ad T):=by
 intro w0 w Fr pb mb st names H lW R aD au;have fL:=qh aD;have HL:=qh L;have cm:=(H.pick [0,1]).look;have kG:=cm.wf.1;have ig:=cm.fits.1;have qL:=cm.fits.2.2.2;obtain⟨mv,h0⟩:=H.NS;obtain⟨ma,mc,rfl⟩:=ag (h0.row 3);have HS:=qh h0;have HN:=qh (λR hR=>@gP w pb d ad st cm R hR);obtain⟨i0,ti,oB,oA,oy⟩:=info_parts uW;obtain⟨ps,kp⟩:∃ps,(Ty.cur ad st.pos).pos=ps:=⟨_,rfl⟩
 have vS:Hq (∀r,(Ty.ak (Ty.name ad names) λx=>Ty.ak (Ty.written ad T) λt=>Ty.ak (Ty.addNode {Ty.af 16 ps with text:=x,ty:=t}) λn=>Ty.ret (x,n)) st=r->Ty.fC ad T names st=r):=λr h=>by rw[<-h,<-kp];rfl
 generalize Ty.cur ad st.pos=t at*
 obtain⟨kd,tx,tp⟩:=t;dsimp only at kp;subst kp;have Ea:=kA;clear aD H L cm h0;go_enter func357,ntmps357;go_wp2_with fail;refine HN.o _ (λw1 cd=>?_);dsimp only[bV];have H1:=qh (HS.o.below cd);clear cd;go_wp2_with fail;refine lG w1 16 tp (λw2 aW=>?_);have h2:=(H1.o.below aW).ar (.cells #[.int .i64 16,.int .i64 0,.int .i64 0,.int .i64 0,.slice none 0 0,.string ⟨#[]⟩,.int .i64 0,.int .i64 (-1),.int .i64 tp] 66) w2.heap.size;have x2:=h2.cell 2 0;have H2:=qh h2;clear aW h2;go_wp2_with fail;refine mY (H2.o.at 1 rfl) _ names (H2.o.row 3) (by omega) (λx w3 hm h3=>?_) (λe w3 hm h3=>?_);rotate_left
 ·have tT:Hq (Ty.fC ad T names st=.error e):=vS.o _ (by rw[aL hm]);have H3:=qh (h3.unpack 0 rfl);clear hm h3;go_wp2_with fail;exact⟨rfl,au _ _ tT.o (H3.o.pick [0])⟩
 have tT:Hq (∀r,(Ty.ak (Ty.written ad T) λt=>Ty.ak (Ty.addNode {Ty.af 16 tp with text:=x,ty:=t}) λn=>Ty.ret (x,n)) {st with pos:=st.pos+1}=r->Ty.fC ad T names st=r):=λr h=>vS.o r (by rw[aj hm];exact h)
 have h4:=h3.uc;have y5:=h4.cell 4 5;have f5:=h4.free 4 rfl;have abO:=h4.lt 2;have h5:=h4.store 4 rfl 5 (.string x);have x4:=h5.cell 2 0;have y4:=h5.cell 4 5;have ik:=qh (h5.row 3);have H5:=qh h5;clear hm h3 h4 h5 x2;go_wp2_with fail;go_region_law(first|(go_loud(refine step_append_lies _ (by rfl) _ _ _ (by rfl) 0 9 i0 _ 1 16 underlying161 ti oB oA oy rfl (by omega) (.slice ma names.length mc) names.length (names.map Value.string) (by rfl) ((ik.o.alloc _).drew) ⟨w3.heap.size,0,none⟩ 1 1 [.string x] (by rfl) (by rfl) (World.news_of_block (cs:=#[.string x]) (t:=9) (fr:=(0,0)) (eK (aC _ _ _ (by simp)))) (by simp[Value.oneCell']) (by omega) (by unfold maxLen;omega) (by omega) (by simp) (w3.heap.size+1) (by simp) ?_);intro g cap w4 cy bD gV o_;have h6:=Sat.grow (m:=names.length+1) ((H5.o.aU _).drew) 3 rfl bD cy (by simpa using gV);have x5:=h6.cell 2 0;have f6:=h6.free 2 rfl 0;have ad1:=h6.lt 2;have H6:=qh h6;clear h6))
 all_goals
  clear cy bD;have h7:=(H6.o.store 2 rfl 0 (.slice (some ⟨g,0,none⟩) (names.length+1) cap)).cQ (i:=3) rfl (Q:=pB (.slice (some ⟨g,0,none⟩) (names.length+1) cap) (names++[x])) (λ_ h=>sF h);have H7:=qh h7;clear h7;go_wp2_with fail;refine pD HL.o (H7.o.at 1 rfl) (λn s6 w6 hm h9=>?_) (λe w6 hm h9=>?_);rotate_left
  ·have jK:Hq (Ty.fC ad T names st=.error e):=tT.o _ (by rw[aL hm]);have H9:=qh (h9.unpack 0 rfl);clear hm h9;go_wp2_with fail;exact⟨rfl,au _ _ jK.o (H9.o.pick [0])⟩
  have qZ:=iL HL.o.at' _ _ _ hm;dsimp only at qZ;have jK:Hq (Ty.fC ad T names st=.ok ((x,s6.ns.length),{s6 with ns:=s6.ns++[{Ty.af 16 tp with text:=x,ty:=n}]})):=tT.o _ (by rw[aj hm];rfl);have fs:=h9.uc;have y1:=fs.cell 4 7;have f1:=fs.free 4 rfl;have pY:=fs.store 4 rfl 7 (.int .i64 n);have q0:=fs.cell 4 0;have q1:=fs.cell 4 1;have q2:=fs.cell 4 2;have q3:=fs.cell 4 3;have q4:=fs.cell 4 4;have q5:=fs.cell 4 5;have q6:=fs.cell 4 6;have q8:=fs.cell 4 8;have W0:=qh (pY.nil 3 1);clear hm h9 fs pY;go_wp2_with fail;refine bT {Ty.af 16 tp with text:=x,ty:=n} (.slice none 0 0) ((W0.o.pick [0,1,2,4,3,5]).lU) (by omega) (λw7 kn=>?_);have wW:=qh kn.Ic;clear kn;go_wp2_with fail;exact fL.o _ _ _ _ jK.o wW.o.EX
end Go.Proofs.YtdlbhiaceheffabGreatDoor
