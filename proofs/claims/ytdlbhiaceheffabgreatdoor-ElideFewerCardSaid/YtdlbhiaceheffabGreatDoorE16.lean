/- Nodes that are read; walks of the parser's of, start, two. -/
import Derived.Test.YtdlbhiaceheffabGreatDoorE12
import Derived.Test.YtdlbhiaceheffabGreatDoorE15
set_option linter.all false
set_option maxRecDepth 100000
set_option maxHeartbeats 4000000
namespace Go.Proofs.YtdlbhiaceheffabGreatDoor
open Go Go.RowKit Ty Tok Prt Tryz Proofs.Tryz
theorem jn{α:Type}(f:α->List Value)(m:Nat)(hf:∀x,(f x).length=m):∀(l:List α)(n:Nat)(hn:n<l.length)(i:Nat),i<m->(l.flatMap f)[n*m+i]?=(f l[n])[i]?
 |[],n,hn,_,_=>by simp at hn
 |a::l,0,_,i,hi=>by
  rw[List.flatMap_cons,List.getElem?_append_left (by rw[hf];omega)];simp
 |a::l,n+1,hn,i,hi=>by
  have e: (n+1)*m+i-m=n*m+i:=by rw[Nat.succ_mul];omega
  rw[List.flatMap_cons,List.getElem?_append_right (by rw[hf,Nat.succ_mul];omega),hf,e];exact jn f m hf l n (by simpa using hn) i hi
structure NRd(w:World)(v:Value)(rows:List NdRow):Prop where
 row:w.ownsRow 0 66 9 v rows.length (rows.flatMap eD)
 bits:∀r∈rows,w.ownsRow 0 3 1 r.lv r.t.list.length (r.t.list.map aO)
structure NdAt(w:World)(g n:Nat)(t:Nd)(lv:Value):Prop where
 q0:w.cell? ⟨g,n*9,none⟩=some (.int .i64 t.kind)
 q1:w.cell? ⟨g,n*9+1,none⟩=some (.int .i64 t.a)
 q2:w.cell? ⟨g,n*9+2,none⟩=some (.int .i64 t.b)
 q3:w.cell? ⟨g,n*9+3,none⟩=some (.int .i64 t.c)
 q4:w.cell? ⟨g,n*9+4,none⟩=some lv
 q5:w.cell? ⟨g,n*9+5,none⟩=some (.string t.text)
 q6:w.cell? ⟨g,n*9+6,none⟩=some (.int .i64 t.n)
 q7:w.cell? ⟨g,n*9+7,none⟩=some (.int .i64 t.ty)
 q8:w.cell? ⟨g,n*9+8,none⟩=some (.int .i64 t.pos)
theorem NRd.look{w:World}{v:Value}{rows:List NdRow}{ns:List Nd}(h:NRd w v rows)(xd:rows.map NdRow.t=ns){n:Nat}(hn:n<ns.length):
  ∃(g cap:Nat)(lv:Value),v=.slice (some ⟨g,0,none⟩) ns.length cap/\g<w.heap.size/\ns.length<=cap/\cap<=maxLen/\NdAt w g n ns[n] lv/\w.ownsRow 0 3 1 lv ns[n].list.length (ns[n].list.map aO):=by
 have hl:rows.length=ns.length:=by rw[<-xd];simp
 have zG:n<rows.length:=by omega
 obtain⟨g,cap,hv,_,hg⟩:=h.row.form (by omega);have hc:=World.ownsRow.cells h.row (g:=g) (by rw[hv];rfl);have kK:rows.length<=cap/\cap<=maxLen:=by
  rcases h.row.2 with⟨_,h0⟩|⟨g',DK,cur,e4,_,_,h5,h6,_⟩
  ·omega
  ·rw[hv]at e4;cases e4;exact⟨h5,h6⟩
 have ht:rows[n].t=ns[n]:=by subst xd;simp
 have key:∀i,i<9->∀x,(eD rows[n])[i]?=some x->w.cell? ⟨g,n*9+i,none⟩=some x:=λi hi x hx=>by
  have:=hc (n*9+i) x (by rw[jn eD 9 (λ_=>rfl) rows n zG i hi];exact hx);rwa [Addr.add_lit,Nat.zero_add]at this
 refine⟨g,cap,rows[n].lv,by rw[hv,hl],hg,by omega,kK.2,⟨?_,?_,?_,?_,?_,?_,?_,?_,?_⟩,?_⟩
 ·exact key 0 (by omega) _ (by rw[<-ht];rfl)
 ·exact key 1 (by omega) _ (by rw[<-ht];rfl)
 ·exact key 2 (by omega) _ (by rw[<-ht];rfl)
 ·exact key 3 (by omega) _ (by rw[<-ht];rfl)
 ·exact key 4 (by omega) _ rfl
 ·exact key 5 (by omega) _ (by rw[<-ht];rfl)
 ·exact key 6 (by omega) _ (by rw[<-ht];rfl)
 ·exact key 7 (by omega) _ (by rw[<-ht];rfl)
 ·exact key 8 (by omega) _ (by rw[<-ht];rfl)
 ·rw[<-ht];exact h.bits _ (gM _)
theorem Prt.Sat.mF{w0 w:World}{L:List As}(h:Sat w0 w L)(i:Nat){v:Value}{ns:List Nd}(hi:L[i]?=some (vW v ns)):∃rows,rows.map NdRow.t=ns/\NRd w v rows:=by
 refine h.get hi λa ha hl=>?_
 obtain⟨rows,x,y,_,_,hy,hp,z,u,_,hz,hu,h1,q,_,_,hq,_,qF,_⟩:=ha;have e:ns.length=rows.length:=by have:=congrArg List.length (show rows.map NdRow.t=ns from hp);simpa using this.symm
 have YW:Prt.le y (Prt.hp w):=Prt.le_trans hy hl;refine⟨rows,hp,⟨?_,λr hr=>?_⟩⟩
 ·rw[<-e];exact iv (iX h1 (Prt.le_trans hz YW))
 ·obtain⟨b,hb,pe⟩:=xv qF _ (List.mem_map_of_mem (f:=λr:NdRow=>eY r.lv r.t.list) hr);exact iv (iX pe (Prt.le_trans hb (Prt.le_trans hq (Prt.le_trans hu YW))))
theorem NW{st:Ty.St}{n:Nat}(hn:n<st.ns.length):cG st n=st.ns[n]:=by unfold cG;rw[List.getElem?_eq_getElem hn];rfl
section
variable {w0 w:World} {Fr:As} {pb d:Nat} {ad:List Tok.Tk} {st:Ty.St}
theorem Prt.Sat.yx(h:Sat w0 w [Fr,aV pb d ad st]){n:Nat}(hn:n<st.ns.length):∃(g cap:Nat)(lv:Value),w.cell? ⟨pb,3,none⟩=some (.slice (some ⟨g,0,none⟩) st.ns.length cap)/\g<w.heap.size/\st.ns.length<=cap/\cap<=maxLen/\NdAt w g n (cG st n) lv/\w.ownsRow 0 3 1 lv (cG st n).list.length ((cG st n).list.map aO):=by
 obtain⟨⟨MD,nv,tv,main⟩,h⟩:=h.oA;obtain⟨rows,hr,II⟩:=h.mF 4 rfl;obtain⟨g,cap,lv,e,h1,h2,h3,h4,h5⟩:=II.look hr hn;have c3:=h.cell 2 rfl 3 rfl;dsimp only at e c3;subst e;rw[NW hn];exact⟨g,cap,lv,c3,h1,h2,h3,h4,h5⟩
theorem ke(w:World)(kind pos:Nat){R:EW}(hR:∀w',Below w.heap.size w w'->R (.returned (.agg #[.int .i64 kind,.int .i64 0,.int .i64 0,.int .i64 0,.slice none 0 0,.string ⟨#[]⟩,.int .i64 0,.int .i64 (-1),.int .i64 pos])) w'):
  Calls prog 74 #[.int .i64 kind,.int .i64 pos] w R:=by
 have HR:=qh hR;clear hR;go_in;go_wp2_with fail;refine bodyPost_ret ?_ rfl (HR.o _ ?_)
 ·simp[results,results74,go_sem]
 ·first|exact(bR _ _).alloc (nR _) _|(repeat' (first|exact bR _ _|apply Below.drew|apply Below.setCell|apply Below.alloc|(simp;done)|(simp;omega)|omega))
theorem xy(H:Sat w0 w [Fr,aV pb d ad st]){n:Nat}(hn:n<st.ns.length){R:EW}(hR:R (.returned (.int .i64 (cG st n).pos)) w):
  Calls prog 320 #[.pointer (some ⟨pb,0,none⟩),.int .i64 (n:Nat)] w R:=by
 have HR:=qh hR;have bu:=H.look;have a_:=bu.lt;have xd:st.ns.length<=1002:=by have:=bu.fits;have:=bu.wf.1;omega
 obtain⟨g,cap,lv,c3,hg,h2,h3,hA,_⟩:=H.yx hn;obtain⟨_,_,_,_,_,_,_,_,q8⟩:=hA;generalize cG st n=t at*
 clear hR H bu;go_in;go_wp2_with fail;exact HR.o
theorem yS(H:Sat w0 w [Fr,aV pb d ad st])(x:BA){a b:Nat}(ha:a<st.ns.length)(hb:st.ns.length<=st.pos){R:EW}
  (hR:∀n s2 w',Ty.two x a b st=.ok (n,s2)->Sat w0 w' [Fr,aV pb d ad s2]->R (.returned (.int .i64 (n:Nat))) w'):
  Calls prog 282 #[.pointer (some ⟨pb,0,none⟩),.string x,.int .i64 (a:Nat),.int .i64 (b:Nat)] w R:=by
 have HR:=qh hR;have HS:=qh H;have HA:=qh ha;have HB:=qh hb;clear hR H ha hb;go_in;go_wp2_with fail;refine xy HS.o HA.o ?_;have HE:Hq (Ty.two x a b st=.ok (st.ns.length,{st with ns:=st.ns++[{Ty.af 12 (cG st a).pos with text:=x,a:=a,b:=b}]})):=rfl;generalize(cG st a).pos=ps at*
 go_wp2_with fail;refine ke w 12 ps (λw1 cQ=>?_);have H1:=qh (HS.o.below cQ);clear cQ;go_wp2_with fail;refine bZ {Ty.af 12 ps with text:=x,a:=a,b:=b} (.slice none 0 0) ((H1.o.aW _).nil 3 1) HB.o (λw2 h2=>?_);have H2:=qh h2;clear h2;go_wp2_with fail;exact HR.o _ _ _ HE.o H2.o
end
def lV(ad:List Tok.Tk)(l:List BA)(pos:Nat):Bool:=l.any λx=>Ty.is ad x.data.toList pos
theorem F'(w:World)(pb d:Nat)(ad:List Tok.Tk)(st:Ty.St)(h:PRd w pb d ad st)(g:Nat)(l:List BA)(hl:l.length<=10)(hg:g<w.heap.size)(tX:∀j(hj:j<l.length),w.cell? ⟨g,j,none⟩=some (.string l[j])){R:EW}
  (lZ:∀(r:Nat) w',Below w.heap.size w w'->lV ad l st.pos=true->r<=10->R (.returned (.int .i64 r)) w') (e_:∀w',Below w.heap.size w w'->lV ad l st.pos=false->R (.returned (.int .i64 (-1))) w'):
  Calls prog 343 #[.slice (some ⟨g,0,none⟩) l.length l.length,.func (.func 210) #[.pointer (some ⟨pb,0,none⟩)] #[]] w R:=by
 have HY:=qh lZ;have wA:=qh e_;have HC:=qh tX;have HP:=qh h;have hc:=Tryz.call210;clear lZ e_ tX h;go_in;go_wp2_with fail;go_loopw [8] (λi wr=>∃k:Nat,k<=l.length/\i=.int .i64 k/\Hq (Below w.heap.size w wr)/\Hq (∀j(hj:j<l.length),j<k->Ty.is ad l[j].data.toList st.pos=false)) (λi _=>l.length-(intOf i).toNat)
 case atStart=>exact⟨0,by omega,rfl,bR _ _,λj hj h=>by omega⟩
 case round=>
  obtain⟨k,hk,rfl,hb,hf⟩:=hrel;have UG:g<wr.heap.size:=nL hg hb.out.size;by_cases a_:k<l.length
  ·have d0:=(hb.out.cell (p:=⟨g,k,none⟩) hg).trans (HC.o k a_);have HT:Hq (Ty.is ad l[k].data.toList st.pos=true->lV ad l st.pos=true):=λh=>List.any_eq_true.2 ⟨l[k],gM a_,h⟩
   have HN:Hq (Ty.is ad l[k].data.toList st.pos=false->∀j(hj:j<l.length),j<k+1->Ty.is ad l[j].data.toList st.pos=false):=λh j hj Ih=>by
    by_cases e:j=k
    ·subst e;exact h
    ·exact hf.out j hj (by omega)
   generalize l[k]=x at*
   go_wp2_with fail;refine nU wr pb d ad st (HP.o.below hb.out) x (λw2 aD=>?_);have c9:=qh (hb.out.trans (aD.mono hb.out.size));clear aD;generalize Ty.is ad x.data.toList st.pos=fk at*
   cases fk
   ·have IH:=qh (HN.o rfl);go_wp2_with fail;go_roundw
    case rel=>exact⟨k+1,by omega,by go_num,c9,IH⟩
    case measure=>simp[intOf];omega
   ·have Gl:=qh (HT.o rfl);go_wp2_with fail;exact HY.o k _ c9.o Gl.o (by omega)
  ·have qI:k=l.length:=by omega
   have HN:Hq (lV ad l st.pos=false):=by
    show _= _;unfold lV;rw[List.any_eq_false];intro x hx;obtain⟨j,hj,rfl⟩:=List.mem_iff_getElem.1 hx;rw[hf.out j hj (by omega)];simp
   clear qI;go_wp2_with fail;exact wA.o _ hb.out HN.o
theorem xB(w:World)(pb d:Nat)(ad:List Tok.Tk)(st:Ty.St)(h:PRd w pb d ad st)(g:Nat)(l:List BA)(hl:l.length<=10)(hg:g<w.heap.size)(tX:∀j(hj:j<l.length),w.cell? ⟨g,j,none⟩=some (.string l[j])){R:EW}
  (hR:∀w',Below w.heap.size w w'->R (.returned (.bool (lV ad l st.pos))) w'):
  Calls prog 334 #[.slice (some ⟨g,0,none⟩) l.length l.length,.func (.func 210) #[.pointer (some ⟨pb,0,none⟩)] #[]] w R:=by
 have HR:=qh hR;clear hR;have HX:=qh (λR h1 h2=>@F' w pb d ad st h g l hl hg tX R h1 h2);clear tX h hg;go_in;go_wp2_with fail;refine HX.o _ (λr w1 hb ha hr=>?_) (λw1 hb ha=>?_)
 ·rw[ha]at HR
  have HB:=qh hb;clear ha hb;go_wp2_with fail;exact HR.o _ HB.o
 ·rw[ha]at HR
  have HB:=qh hb;clear ha hb;go_wp2_with fail;exact HR.o _ HB.o
theorem Al{ad:List Tok.Tk}{l:List BA}{pos:Nat}(hp:pos<ad.length)(hl:qU ad)(h:lV ad l pos=true):pos+1<ad.length:=by
 obtain⟨x,_,hx⟩:=List.any_eq_true.1 h;exact is_lt hp hl hx
theorem wT(ad:List Tok.Tk)(l:List BA)(pos:Nat): (l.map λx=>x.data.toList).any (λx=>Ty.is ad x pos)=lV ad l pos:=by
 unfold lV;rw[List.any_map];rfl
theorem OS(w0 w:World)(Fr:As)(pb d sb:Nat)(ad:List Tok.Tk)(st:Ty.St)(one:Ty.M Nat)(hA:bf 1 0 0 one)(hN:Nx one)(bh:List BA)(Hz:bh.length<=10)(F:FuncId)(c:Value)
  (hc:∀(args:Array Value)(w:World),(callFunc F args).run prog w=.ok (.enter F args) w)
  (LH:∀w1,Sat w0 w1 [Fr]->sb<w1.heap.size/\∀j(hj:j<bh.length),w1.cell? ⟨sb,j,none⟩=some (.string bh[j]))
  (vM:∀s w1,Sat w0 w1 [Fr,aV pb d ad s]->∀R:EW,
   (∀n s2 w2,one s=.ok (n,s2)->Sat w0 w2 [Fr,aV pb d ad s2]->R (.returned (.int .i64 (n:Nat))) w2)->
   (∀f w2,one s=.error f->Sat w0 w2 [Fr]->R (.panicked (aI f)) w2)->Calls prog F #[c] w1 R)
  (H:Sat w0 w [Fr,aV pb d ad st]) {R:EW}
  (aH:∀n s2 w2,Ty.left ad one (bh.map λx=>x.data.toList) st=.ok (n,s2)->Sat w0 w2 [Fr,aV pb d ad s2]->R (.returned (.int .i64 (n:Nat))) w2)
  (au:∀f w2,Ty.left ad one (bh.map λx=>x.data.toList) st=.error f->Sat w0 w2 [Fr]->R (.panicked (aI f)) w2):
  Calls prog 317 #[.pointer (some ⟨pb,0,none⟩),.func (.func F) #[] #[c],.slice (some ⟨sb,0,none⟩) bh.length bh.length] w R:=by
 have aX:=qh aH;have aB:=qh au;have BN:=qh vM;have Ws:=qh LH;have HA:=qh hA;have vu:=qh hN;have bu:=H.look;have lR:=bu.wf.1;have Ez:=qh bu.wf;have HS:=qh H;clear aH au vM LH hA hN H bu;go_in;go_wp2_with fail;refine BN.o _ _ HS.o _ (λn s1 w1 hm h1=>?_) (λe w1 hm h1=>?_);rotate_left
 ·have HM:=qh hm;have H1:=qh h1;clear hm h1;go_wp2_with fail;exact⟨rfl,aB.o _ _ (by rw[Ty.left,aP HM.o]) H1.o⟩
 have k_:=(vu.o _ _ _ hm).2.1;have pM:=h1.look.fits.1;have wy:Hq (Ty.left ad one (bh.map λx=>x.data.toList) st=cW ad one (bh.map λx=>x.data.toList) (ad.length+1) n s1):=by show _= _;rw[Ty.left,aw hm]
 have H1:=qh h1;clear hm h1;go_wp2_with fail;go_loopw [7] (λv wr=>∃(f n:Nat)(s:Ty.St),v=.int .i64 n/\s.pos<ad.length/\ad.length<s.pos+f/\n+1=s.ns.length/\Hq (Sat w0 wr [Fr,aV pb d ad s])/\Hq (Ty.left ad one (bh.map λx=>x.data.toList) st=cW ad one (bh.map λx=>x.data.toList) f n s))
  (λ_ wr=>ad.length-posOf pb wr)
 case atStart=>exact⟨ad.length+1,n,s1,rfl,pM,by omega,k_,H1.o,wy.o⟩
 case round=>
  obtain⟨f,n,s,rfl,hp,hf,hn,hS,hE⟩:=hrel;obtain⟨f,rfl⟩:∃g,f=g+1:=⟨f-1,by omega⟩
  have mJ:=qh (de hS.out.look);have oP:=hS.out.look.fits.2.2.2;obtain⟨SV,N6⟩:=Ws.o wr (hS.out.pick [0]);have HL:=qh hS.out.look;have DE:Ty.left ad one (bh.map λx=>x.data.toList) st=if lV ad bh s.pos=true then(Ty.aq one λb=>Ty.aq (Ty.two (Ty.cur ad s.pos).text n b) λm=>cW ad one (bh.map λx=>x.data.toList) f m) {s with pos:=s.pos+1}else .ok (n,s):=by
   rw[hE.out,cW,Ty.look,wT];split<;>rfl
  have WL:=qh (λw1(hb:Below wr.heap.size wr w1) R hR=>@xB w1 pb d ad s (HL.o.below hb) sb bh Hz (nL SV hb.size) (λj hj=>(hb.cell (p:=⟨sb,j,none⟩) SV).trans (N6 j hj)) R hR);have a_:=λh=>Al (l:=bh) hp Ez.o h
  have HN:=qh (λR hR=>@gE wr pb d ad s HL.o R hR);generalize lV ad bh s.pos=ai at*
  generalize Ty.cur ad s.pos=t at*
  obtain⟨kd,tx,ps⟩:=t;dsimp only at DE;have fR:=qh DE;have QZ:=oe;clear DE hE N6;go_wp2_with fail;refine HN.o _ (λw2 aD=>?_);dsimp only[cj];have c9:=qh aD;clear aD;go_wp2_with fail;refine WL.o w2 c9.o _ (λw3 dF=>?_);have cU:=qh (c9.o.trans (dF.mono c9.o.size));clear dF;cases ai
  ·have jl:Hq (Ty.left ad one (bh.map λx=>x.data.toList) st=.ok (n,s)):=by show _= _;rw[fR.o];rfl
   go_wp2_with fail;exact aX.o _ _ _ jl.o (hS.out.below cU.o)
  ·have jm:=a_ rfl;have jl:Hq (Ty.left ad one (bh.map λx=>x.data.toList) st=(Ty.aq one λb=>Ty.aq (Ty.two tx n b) λm=>cW ad one (bh.map λx=>x.data.toList) f m) {s with pos:=s.pos+1}):=by show _= _;rw[fR.o];rfl
   have h3:=hS.out.below cU.o;obtain⟨c1,_,f0⟩:=h3.look.cells;have ZY:=h3.look.lt;have H3:=qh (h3.setPos (s.pos+1) jm (by omega));clear a_ h3;go_wp2_with fail;refine BN.o _ _ H3.o _ (λb s4 w4 hm h4=>?_) (λe w4 hm h4=>?_)
   ·have pd:=HA.o _ _ _ hm;have pJ:=vu.o _ _ _ hm;have wg:=pJ.1.length_le;have sV:Hq (Ty.left ad one (bh.map λx=>x.data.toList) st=(Ty.aq (Ty.two tx n b) λm=>cW ad one (bh.map λx=>x.data.toList) f m) s4):=by show _= _;rw[jl.o,aw hm]
    have H4:=qh h4;dsimp only at pd wg;clear hm h4 pJ;go_wp2_with fail;refine yS H4.o tx (by omega) (by omega) (λm s5 w5 hm h5=>?_);have rR:Hq (Ty.left ad one (bh.map λx=>x.data.toList) st=cW ad one (bh.map λx=>x.data.toList) f m s5):=by show _= _;rw[sV.o,aw hm]
    have BM:=(Nx.two tx n b _ _ _ hm).2.1;have RG:=bf.two tx n b _ _ _ hm;have Sw:=h5.look.fits.1;have Qv:=qh (de h5.look);have H5:=qh h5;clear hm h5;go_wp2_with fail;go_roundw
    case rel=>exact⟨f,m,s5,rfl,Sw,by omega,BM,H5.o,rR.o⟩
    case measure=>rw[mJ.o,Qv.o];omega
   ·have sV:Hq (Ty.left ad one (bh.map λx=>x.data.toList) st=.error e):=by show _= _;rw[jl.o,aP hm]
    have H4:=qh h4;clear hm h4;go_wp2_with fail;exact⟨rfl,aB.o _ _ sV.o H4.o⟩
theorem Qw(w0 w:World)(Fr:As)(pb d sb:Nat)(ad:List Tok.Tk)(st:Ty.St)(one:Ty.M Nat)(hA:bf 1 0 0 one)(hN:Nx one)(bh:List BA)(Hz:bh.length<=10)(F:FuncId)(c:Value)
  (hc:∀(args:Array Value)(w:World),(callFunc F args).run prog w=.ok (.enter F args) w)
  (LH:∀w1,Sat w0 w1 [Fr]->sb<w1.heap.size/\∀j(hj:j<bh.length),w1.cell? ⟨sb,j,none⟩=some (.string bh[j]))
  (vM:∀s w1,Sat w0 w1 [Fr,aV pb d ad s]->∀R:EW,
   (∀n s2 w2,one s=.ok (n,s2)->Sat w0 w2 [Fr,aV pb d ad s2]->R (.returned (.int .i64 (n:Nat))) w2)->
   (∀f w2,one s=.error f->Sat w0 w2 [Fr]->R (.panicked (aI f)) w2)->Calls prog F #[c] w1 R)
  (H:Sat w0 w [Fr,aV pb d ad st]) {R:EW}
  (aH:∀n s2 w2,Ty.left ad one (bh.map λx=>x.data.toList) st=.ok (n,s2)->Sat w0 w2 [Fr,aV pb d ad s2]->R (.returned (.int .i64 (n:Nat))) w2)
  (au:∀f w2,Ty.left ad one (bh.map λx=>x.data.toList) st=.error f->Sat w0 w2 [Fr]->R (.panicked (aI f)) w2):
  Calls prog 317 #[.pointer (some ⟨pb,0,none⟩),.func (.func F) #[c] #[],.slice (some ⟨sb,0,none⟩) bh.length bh.length] w R:=by
 have aX:=qh aH;have aB:=qh au;have BN:=qh vM;have Ws:=qh LH;have HA:=qh hA;have vu:=qh hN;have bu:=H.look;have lR:=bu.wf.1;have Ez:=qh bu.wf;have HS:=qh H;clear aH au vM LH hA hN H bu;go_in;go_wp2_with fail;refine BN.o _ _ HS.o _ (λn s1 w1 hm h1=>?_) (λe w1 hm h1=>?_);rotate_left
 ·have HM:=qh hm;have H1:=qh h1;clear hm h1;go_wp2_with fail;exact⟨rfl,aB.o _ _ (by rw[Ty.left,aP HM.o]) H1.o⟩
 have k_:=(vu.o _ _ _ hm).2.1;have pM:=h1.look.fits.1;have wy:Hq (Ty.left ad one (bh.map λx=>x.data.toList) st=cW ad one (bh.map λx=>x.data.toList) (ad.length+1) n s1):=by show _= _;rw[Ty.left,aw hm]
 have H1:=qh h1;clear hm h1;go_wp2_with fail;go_loopw [7] (λv wr=>∃(f n:Nat)(s:Ty.St),v=.int .i64 n/\s.pos<ad.length/\ad.length<s.pos+f/\n+1=s.ns.length/\Hq (Sat w0 wr [Fr,aV pb d ad s])/\Hq (Ty.left ad one (bh.map λx=>x.data.toList) st=cW ad one (bh.map λx=>x.data.toList) f n s))
  (λ_ wr=>ad.length-posOf pb wr)
 case atStart=>exact⟨ad.length+1,n,s1,rfl,pM,by omega,k_,H1.o,wy.o⟩
 case round=>
  obtain⟨f,n,s,rfl,hp,hf,hn,hS,hE⟩:=hrel;obtain⟨f,rfl⟩:∃g,f=g+1:=⟨f-1,by omega⟩
  have mJ:=qh (de hS.out.look);have oP:=hS.out.look.fits.2.2.2;obtain⟨SV,N6⟩:=Ws.o wr (hS.out.pick [0]);have HL:=qh hS.out.look;have DE:Ty.left ad one (bh.map λx=>x.data.toList) st=if lV ad bh s.pos=true then(Ty.aq one λb=>Ty.aq (Ty.two (Ty.cur ad s.pos).text n b) λm=>cW ad one (bh.map λx=>x.data.toList) f m) {s with pos:=s.pos+1}else .ok (n,s):=by
   rw[hE.out,cW,Ty.look,wT];split<;>rfl
  have WL:=qh (λw1(hb:Below wr.heap.size wr w1) R hR=>@xB w1 pb d ad s (HL.o.below hb) sb bh Hz (nL SV hb.size) (λj hj=>(hb.cell (p:=⟨sb,j,none⟩) SV).trans (N6 j hj)) R hR);have a_:=λh=>Al (l:=bh) hp Ez.o h
  have HN:=qh (λR hR=>@gE wr pb d ad s HL.o R hR);generalize lV ad bh s.pos=ai at*
  generalize Ty.cur ad s.pos=t at*
  obtain⟨kd,tx,ps⟩:=t;dsimp only at DE;have fR:=qh DE;have QZ:=oe;clear DE hE N6;go_wp2_with fail;refine HN.o _ (λw2 aD=>?_);dsimp only[cj];have c9:=qh aD;clear aD;go_wp2_with fail;refine WL.o w2 c9.o _ (λw3 dF=>?_);have cU:=qh (c9.o.trans (dF.mono c9.o.size));clear dF;cases ai
  ·have jl:Hq (Ty.left ad one (bh.map λx=>x.data.toList) st=.ok (n,s)):=by show _= _;rw[fR.o];rfl
   go_wp2_with fail;exact aX.o _ _ _ jl.o (hS.out.below cU.o)
  ·have jm:=a_ rfl;have jl:Hq (Ty.left ad one (bh.map λx=>x.data.toList) st=(Ty.aq one λb=>Ty.aq (Ty.two tx n b) λm=>cW ad one (bh.map λx=>x.data.toList) f m) {s with pos:=s.pos+1}):=by show _= _;rw[fR.o];rfl
   have h3:=hS.out.below cU.o;obtain⟨c1,_,f0⟩:=h3.look.cells;have ZY:=h3.look.lt;have H3:=qh (h3.setPos (s.pos+1) jm (by omega));clear a_ h3;go_wp2_with fail;refine BN.o _ _ H3.o _ (λb s4 w4 hm h4=>?_) (λe w4 hm h4=>?_)
   ·have pd:=HA.o _ _ _ hm;have pJ:=vu.o _ _ _ hm;have wg:=pJ.1.length_le;have sV:Hq (Ty.left ad one (bh.map λx=>x.data.toList) st=(Ty.aq (Ty.two tx n b) λm=>cW ad one (bh.map λx=>x.data.toList) f m) s4):=by show _= _;rw[jl.o,aw hm]
    have H4:=qh h4;dsimp only at pd wg;clear hm h4 pJ;go_wp2_with fail;refine yS H4.o tx (by omega) (by omega) (λm s5 w5 hm h5=>?_);have rR:Hq (Ty.left ad one (bh.map λx=>x.data.toList) st=cW ad one (bh.map λx=>x.data.toList) f m s5):=by show _= _;rw[sV.o,aw hm]
    have BM:=(Nx.two tx n b _ _ _ hm).2.1;have RG:=bf.two tx n b _ _ _ hm;have Sw:=h5.look.fits.1;have Qv:=qh (de h5.look);have H5:=qh h5;clear hm h5;go_wp2_with fail;go_roundw
    case rel=>exact⟨f,m,s5,rfl,Sw,by omega,BM,H5.o,rR.o⟩
    case measure=>rw[mJ.o,Qv.o];omega
   ·have sV:Hq (Ty.left ad one (bh.map λx=>x.data.toList) st=.error e):=by show _= _;rw[jl.o,aP hm]
    have H4:=qh h4;clear hm h4;go_wp2_with fail;exact⟨rfl,aB.o _ _ sV.o H4.o⟩
def UI(ad:List Tok.Tk)(d:Nat)(O:Ty.M Nat):Prop:=
 ∀(w0 w:World)(Fr:As)(pb:Nat)(st:Ty.St),Sat w0 w [Fr,aV pb d ad st]->∀R:EW,
  (∀n st2 w2,O st=.ok (n,st2)->Sat w0 w2 [Fr,aV pb d ad st2]->R (.returned (.int .i64 (n:Nat))) w2)->
  (∀f w2,O st=.error f->Sat w0 w2 [Fr]->R (.panicked (aI f)) w2)->Calls prog 130 #[.pointer (some ⟨pb,0,none⟩),.func (.func 319) #[.pointer (some ⟨pb,0,none⟩)] #[]] w R
structure Lo(ad:List Tok.Tk)(d:Nat)(T E O S:Ty.M Nat):Prop where
 t:eh 120 ad d T
 e:eh 209 ad d E
 o:UI ad d O
 s:eh 76 ad d S
 at':bf 1 0 0 T
 ae:bf 1 0 0 E
 ao:bf 1 0 0 O
 Pt:bf 1 0 0 S
 pt:bV T
 ne:Nx E
 no:Nx O
 ns:Nx S
section
variable {w0 w:World} {Fr:As} {pb d:Nat} {ad:List Tok.Tk} {st:Ty.St} {T E O S:Ty.M Nat}
theorem nE(L:Lo ad d T E O S)(H:Sat w0 w [Fr,aV pb d ad st]){R:EW}
  (aH:∀(n:Int) s2 w2,Ty.written ad T st=.ok (n,s2)->Sat w0 w2 [Fr,aV pb d ad s2]->R (.returned (.int .i64 n)) w2)
  (au:∀f w2,Ty.written ad T st=.error f->Sat w0 w2 [Fr]->R (.panicked (aI f)) w2):
  Calls prog 207 #[.pointer (some ⟨pb,0,none⟩)] w R:=by
 have aX:=qh aH;have aB:=qh au;have HS:=qh H;have HT:=qh L.t;clear aH au H L;go_in;go_wp2_with fail;refine cx HS.o ⟨#[58]⟩ (λw1 hi h1=>?_) (λw1 hi h1=>?_)
 ·have HI:=qh hi;have H1:=qh h1;clear hi h1;go_wp2_with fail;refine HT.o _ _ _ pb _ H1.o _ (λn s2 w2 hm h2=>?_) (λe w2 hm h2=>?_)
  ·have HM:=qh hm;have H2:=qh h2;clear hm h2;go_wp2_with fail;exact aX.o _ _ _ (by rw[Ty.written,aw HI.o,if_pos rfl,aw HM.o];rfl) H2.o
  ·have HM:=qh hm;have H2:=qh h2;clear hm h2;go_wp2_with fail;exact⟨rfl,aB.o _ _ (by rw[Ty.written,aw HI.o,if_pos rfl,aP HM.o]) H2.o⟩
 ·have HI:=qh hi;have H1:=qh h1;clear hi h1;go_wp2_with fail;exact aX.o (-1) _ _ (by rw[Ty.written,aw HI.o,if_neg (by simp)];rfl) H1.o
end
def rv(k a p:Int)(lv:Value):Obj:=.cells #[.int .i64 k,.int .i64 a,.int .i64 0,.int .i64 0,lv,.string ⟨#[]⟩,.int .i64 0,.int .i64 (-1),.int .i64 p] 66 (0,0)
def LG(pb nb xb:Nat)(k a p:Int)(l:List Nat):As:=cm λv:Value=>ah [av nb (rv k a p v),eY v l,pH pb xb]
theorem Prt.Sat.yi{w0 w:World}{A B:As}{pb nb xb:Nat}{k a p:Int}{l:List Nat}(H:Sat w0 w [A,B,LG pb nb xb k a p l]):∃v,Sat w0 w [A,B,av nb (rv k a p v),eY v l,pH pb xb]:=by
 obtain⟨v,hs⟩:=H.ex (i:=2) rfl;exact⟨v,hs.unpack (i:=2) rfl⟩
theorem zF(w0 w:World)(Fr:As)(pb nb xb d:Nat)(ad:List Tok.Tk)(E:Ty.M Nat)(eV:eh 209 ad d E)(k0 a0 p0:Int)
  (l:List Nat) (s:Ty.St) (H:Sat w0 w [Fr,aV pb d ad s,LG pb nb xb k0 a0 p0 l]) (hl:l.length<=s.pos) {R:EW}
  (aH:∀n s2 w2,E s=.ok (n,s2)->Sat w0 w2 [Fr,aV pb d ad s2,LG pb nb xb k0 a0 p0 (l++[n])]->R (.returned (.tuple #[])) w2)
  (au:∀f w2,E s=.error f->Sat w0 w2 [Fr]->R (.panicked (aI f)) w2):
  Calls prog 344 #[.pointer (some ⟨nb,0,none⟩),.pointer (some ⟨xb,0,none⟩)] w R:=by
 have aX:=qh aH;have aB:=qh au;have bu:=H.pZ;have eS:=bu.fits.1;have lR:=bu.wf.1;obtain⟨v,hs⟩:=H.yi;obtain⟨a,dm,rfl⟩:=ag (hs.row 3 rfl);have c1:=hs.cell 2 rfl 4 rfl;have c2:=hs.cell 4 rfl 0 rfl;have HS:=qh (eV w0 w.drew _ pb s (hs.drew.at 1 rfl));obtain⟨i0,ti,mM,mL,mK⟩:=info_parts iu;clear aH au eV H bu hs;go_in;go_wp2_with fail;go_region_law(first|(go_simp;go_at_call 209;refine HS.o _ (λn s2 w2 hm h2=>?_) (λf w2 hm h2=>⟨rfl,aB.o _ _ hm ((h2.unpack (i:=0) rfl).pick [0])⟩);have h3:Sat w0 w2 [Fr,aV pb d ad s2,av nb (rv k0 a0 p0 (.slice a l.length dm)),eY (.slice a l.length dm) l,pH pb xb]:=(Sat.vh (L:=[Fr,aV pb d ad s,av nb (rv k0 a0 p0 (.slice a l.length dm)),eY (.slice a l.length dm) l,pH pb xb]) (i:=1) (by simp) h2);have d1:=h3.cell 2 rfl 4 rfl;have d2:=(h3.aW (.cells #[.int .i64 n] 3)).cell 2 rfl 4 rfl;have H3:=qh h3;clear h2 h3)|(go_loud(refine step_append_lies _ (by rfl) _ _ _ (by rfl) 0 3 i0 _ 1 8 underlying39 ti mM mL mK rfl (by omega) (.slice a l.length dm) l.length (l.map aO) (by rfl) ((H3.o.row 3 rfl).alloc _) ⟨w2.heap.size,0,none⟩ 1 1 [.int .i64 n] (by rfl) (by rfl) (World.news_of_block (cs:=#[.int .i64 n]) (t:=3) (fr:=(0,0)) (aR _ _ _ (by simp))) (by simp[Value.oneCell']) (by omega) (by unfold maxLen;omega) (by omega) (by simp) (w2.heap.size+1) (by simp) ?_);intro g cap w3 eg dR o_ yL;have h4:=Sat.grow (H3.o.aW _) 3 rfl dR eg (by simpa using o_);have d3:=h4.cell 2 rfl 4 rfl;have f3:=h4.free 2 rfl 4;have H4:=qh h4;clear h4))
 all_goals
  clear eg dR;go_wp2_with fail;go_end0;exact aX.o n s2 _ hm (((H4.o.store 2 rfl 4 _).cL (i:=3) rfl (Q:=eY (.slice (some ⟨g,0,none⟩) (l.length+1) cap) (l++[n])) (λ_ h=>js h)|>Sat.pack (L:=[Fr,aV pb d ad s2])).cL (i:=2) rfl (λ_ h=>⟨_,h⟩))
theorem Be(w0 w:World)(Fr:As)(pb nb xb d:Nat)(ad:List Tok.Tk)(E:Ty.M Nat)(eV:eh 209 ad d E)(k0 a0 p0:Int)
  (l:List Nat) (s:Ty.St) (H:Sat w0 w [Fr,aV pb d ad s,LG pb nb xb k0 a0 p0 l]) (hl:l.length<=s.pos) {R:EW}
  (aH:∀n s2 w2,E s=.ok (n,s2)->Sat w0 w2 [Fr,aV pb d ad s2,LG pb nb xb k0 a0 p0 (l++[n])]->R (.returned (.tuple #[])) w2)
  (au:∀f w2,E s=.error f->Sat w0 w2 [Fr]->R (.panicked (aI f)) w2):
  Calls prog 347 #[.pointer (some ⟨nb,0,none⟩),.pointer (some ⟨xb,0,none⟩)] w R:=by
 have aX:=qh aH;have aB:=qh au;have bu:=H.pZ;have eS:=bu.fits.1;have lR:=bu.wf.1;obtain⟨v,hs⟩:=H.yi;obtain⟨a,dm,rfl⟩:=ag (hs.row 3 rfl);have c1:=hs.cell 2 rfl 4 rfl;have c2:=hs.cell 4 rfl 0 rfl;have HS:=qh (eV w0 w.drew _ pb s (hs.drew.at 1 rfl));obtain⟨i0,ti,mM,mL,mK⟩:=info_parts iu;clear aH au eV H bu hs;go_in;go_wp2_with fail;go_region_law(first|(go_simp;go_at_call 209;refine HS.o _ (λn s2 w2 hm h2=>?_) (λf w2 hm h2=>⟨rfl,aB.o _ _ hm ((h2.unpack (i:=0) rfl).pick [0])⟩);have h3:Sat w0 w2 [Fr,aV pb d ad s2,av nb (rv k0 a0 p0 (.slice a l.length dm)),eY (.slice a l.length dm) l,pH pb xb]:=(Sat.vh (L:=[Fr,aV pb d ad s,av nb (rv k0 a0 p0 (.slice a l.length dm)),eY (.slice a l.length dm) l,pH pb xb]) (i:=1) (by simp) h2);have d1:=h3.cell 2 rfl 4 rfl;have d2:=(h3.aW (.cells #[.int .i64 n] 3)).cell 2 rfl 4 rfl;have H3:=qh h3;clear h2 h3)|(go_loud(refine step_append_lies _ (by rfl) _ _ _ (by rfl) 0 3 i0 _ 1 8 underlying39 ti mM mL mK rfl (by omega) (.slice a l.length dm) l.length (l.map aO) (by rfl) ((H3.o.row 3 rfl).alloc _) ⟨w2.heap.size,0,none⟩ 1 1 [.int .i64 n] (by rfl) (by rfl) (World.news_of_block (cs:=#[.int .i64 n]) (t:=3) (fr:=(0,0)) (aR _ _ _ (by simp))) (by simp[Value.oneCell']) (by omega) (by unfold maxLen;omega) (by omega) (by simp) (w2.heap.size+1) (by simp) ?_);intro g cap w3 eg dR o_ yL;have h4:=Sat.grow (H3.o.aW _) 3 rfl dR eg (by simpa using o_);have d3:=h4.cell 2 rfl 4 rfl;have f3:=h4.free 2 rfl 4;have H4:=qh h4;clear h4))
 all_goals
  clear eg dR;go_wp2_with fail;go_end0;exact aX.o n s2 _ hm (((H4.o.store 2 rfl 4 _).cL (i:=3) rfl (Q:=eY (.slice (some ⟨g,0,none⟩) (l.length+1) cap) (l++[n])) (λ_ h=>js h)|>Sat.pack (L:=[Fr,aV pb d ad s2])).cL (i:=2) rfl (λ_ h=>⟨_,h⟩))
namespace Ty
def U8(ad:List Tok.Tk)(T E:M Nat)(f a p:Nat):M Nat:=aq (list ad [41] (λ_=>E) (ad.length+1) []) λl=>aq (addNode {af 7 p with a:=a,list:=l}) λm=>behind ad T E f m
def Ue(ad:List Tok.Tk)(T E:M Nat)(f a p:Nat):M Nat:=aq (name ad []) λx=>aq (addNode {af 8 p with a:=a,text:=x}) λm=>behind ad T E f m
def UJ(ad:List Tok.Tk)(T E:M Nat)(f a p:Nat):M Nat:=aq E λc=>aq (need ad [93]) λ_=>aq (addNode {af 9 p with a:=a,b:=c}) λm=>behind ad T E f m
def UO(ad:List Tok.Tk)(T E:M Nat)(f a p:Nat):M Nat:=aq T λt=>aq (addNode {af 14 p with a:=a,ty:=(t:Int)}) λm=>behind ad T E f m
section
variable {ad:List Tok.Tk} {T E:M Nat} {f a:Nat} {s s1:St}
theorem VG(h:take ad [40] s=.ok (true,s1)):behind ad T E (f+1) a s=U8 ad T E f a (cG s a).pos s1:=by
 rw[behind];show aq _ _ s= _;rw[aw h];rfl
theorem XJ(h0:take ad [40] s=.ok (false,s))(h:take ad [46] s=.ok (true,s1)):behind ad T E (f+1) a s=Ue ad T E f a (cG s a).pos s1:=by
 rw[behind];show aq _ _ s= _;rw[aw h0];show aq _ _ s= _;rw[aw h];rfl
theorem VT(h0:take ad [40] s=.ok (false,s))(h1:take ad [46] s=.ok (false,s))(h:take ad [91] s=.ok (true,s1)):behind ad T E (f+1) a s=UJ ad T E f a (cG s a).pos s1:=by
 rw[behind];show aq _ _ s= _;rw[aw h0];show aq _ _ s= _;rw[aw h1];show aq _ _ s= _;rw[aw h];rfl
theorem VC(h0:take ad [40] s=.ok (false,s))(h1:take ad [46] s=.ok (false,s))(h2:take ad [91] s=.ok (false,s))(h:take ad [97,115] s=.ok (true,s1)):behind ad T E (f+1) a s=UO ad T E f a (cG s a).pos s1:=by
 rw[behind];show aq _ _ s= _;rw[aw h0];show aq _ _ s= _;rw[aw h1];show aq _ _ s= _;rw[aw h2];show aq _ _ s= _;rw[aw h];rfl
theorem Vh(h0:take ad [40] s=.ok (false,s))(h1:take ad [46] s=.ok (false,s))(h2:take ad [91] s=.ok (false,s))(h3:take ad [97,115] s=.ok (false,s)):behind ad T E (f+1) a s=.ok (a,s):=by
 rw[behind];show aq _ _ s= _;rw[aw h0];show aq _ _ s= _;rw[aw h1];show aq _ _ s= _;rw[aw h2];show aq _ _ s= _;rw[aw h3];rfl
end
end Ty
theorem Lp(w:World):w.ownsRow 0 9 1 (.slice none 0 0) ([]:List BA).length (([]:List BA).map Value.string):=⟨rfl,.inl ⟨rfl,rfl⟩⟩
theorem Prt.Sat.rP{w0 w:World}{Fr P X B A:As}(h:Sat w0 w [Fr,P,X,B,A]):Sat w0 w [ah [Fr,X,B],P,A]:=(Sat.pack (L:=[_,_]) (M:=[_,_,_]) (h.pick [1,4,0,2,3])).pick [2,0,1]
theorem Prt.Sat.tQ{w0 w:World}{Fr P X B:As}(h:Sat w0 w [ah [Fr,X,B],P]):Sat w0 w [Fr,P,X]:=(h.unpack (i:=0) rfl).pick [1,0,2]
theorem C_{w0 w:World}{Fr:As}{pb d:Nat}{ad:List Tok.Tk}{st:Ty.St}{T E O S:Ty.M Nat}(L:Lo ad d T E O S)(H:Sat w0 w [Fr,aV pb d ad st]){a0:Nat}(ha:a0+1=st.ns.length){R:EW}
  (aH:∀n s2 w2,Ty.behind ad T E (ad.length+1) a0 st=.ok (n,s2)->Sat w0 w2 [Fr,aV pb d ad s2]->R (.returned (.int .i64 (n:Nat))) w2)
  (au:∀f w2,Ty.behind ad T E (ad.length+1) a0 st=.error f->Sat w0 w2 [Fr]->R (.panicked (aI f)) w2):
  Calls prog 335 #[.pointer (some ⟨pb,0,none⟩),.int .i64 (a0:Nat)] w R:=by
 have aX:=qh aH;have aB:=qh au;have HL:=qh L;have bu:=H.look;have lR:=bu.wf.1;have eS:=bu.fits.1;have h1:Sat w0 _ [Fr,aV pb d ad st,pH pb w.heap.size]:=H.aj (.cells #[.pointer (some ⟨pb,0,none⟩)] 80) w.heap.size;have H1:=qh h1;clear aH au H L bu h1;go_in;go_wp2_with fail;go_loopw [1] (λv wr=>∃(f a:Nat)(s:Ty.St),v=.int .i64 a/\s.pos<ad.length/\ad.length<s.pos+f/\a+1=s.ns.length/\Hq (Sat w0 wr [Fr,aV pb d ad s,pH pb w.heap.size])/\Hq (∀r,Ty.behind ad T E f a s=r->Ty.behind ad T E (ad.length+1) a0 st=r))
  (λ_ wr=>ad.length-posOf pb wr)
 case atStart=>exact⟨ad.length+1,a0,st,rfl,eS,by omega,ha,H1.o,λr h=>h⟩
 case round=>
  obtain⟨f,a,s,rfl,hp,hf,hn,hS,hE⟩:=hrel;obtain⟨f,rfl⟩:∃g,f=g+1:=⟨f-1,by omega⟩
  have mJ:=qh (de (hS.out.pick [0,1]).look);have oP:=(hS.out.pick [0,1]).look.fits.2.2;have x0:=hS.out.cell 2 rfl 0 rfl;go_wp2_with fail;refine xy (hS.out.at 1 rfl) (by omega) ?_;have HB:=qh hE.out;obtain⟨ps,kM⟩:∃ps,(cG s a).pos=ps:=⟨_,rfl⟩
  rw[kM];have FQ:=qh kM;clear kM hE;go_wp2_with fail;refine ke wr 0 ps (λw1 cQ=>?_);have h1:=(hS.out.below cQ).aj (.cells #[.int .i64 0,.int .i64 a,.int .i64 0,.int .i64 0,.slice none 0 0,.string ⟨#[]⟩,.int .i64 0,.int .i64 (-1),.int .i64 ps] 66) w1.heap.size;have x1:=(hS.out.below cQ).cell 2 rfl 0 rfl;have z1:=h1.cell 2 rfl 0 rfl;have bT:=h1.ne 2 3 (by decide) rfl rfl;have H1:=qh h1;clear cQ x0 h1;go_wp2_with fail;refine cx (H1.o.at 1 rfl) ⟨#[40]⟩ (λw2 hi h2=>?_) (λw2 hi h2=>?_)
  ·have h3:=h2.mW;have y0:=h3.cell 3 rfl 0 rfl;have fz:=h3.free 3 rfl;have hz:=h3.lt 3 rfl;have z2:=h3.cell 2 rfl 0 rfl;have fR:Hq (Ty.behind ad T E (ad.length+1) a0 st=U8 ad T E f a ps {s with pos:=s.pos+1}):=HB.o _ (by rw[VG hi,FQ.o]);have H3:=qh h3;clear hi h2 h3 z1;go_wp2_with fail;have h4:=H3.o.store 3 rfl 0 (.int .i64 7);have h5:Sat w0 _ [Fr,aV pb d ad {s with pos:=s.pos+1},LG pb w1.heap.size w.heap.size 7 a ps []]:=(Sat.pack (L:=[_,_]) (M:=[_,_,_]) ((h4.nil 3 1).pick [0,1,3,4,2])).cL (i:=2) rfl (λ_ h=>⟨_,h⟩);refine nO w0 _ Fr pb d ad _ (LG pb w1.heap.size w.heap.size 7 a ps) h5 ⟨#[41]⟩ 344 _ Tryz.call344 (λ_=>E) (λ_=>HL.o.ae) (λl s w1 h hl R aH au=>zF w0 w1 Fr pb _ _ d ad E HL.o.e 7 a ps l s h hl aH au) (λl s4 w4 hm Up h6=>?_) (λe w4 hm h6=>?_)
   ·have pd:=gj (λ_=>HL.o.ae) _ _ _ _ _ hm;dsimp only at pd;obtain⟨v,h7⟩:=h6.yi;obtain⟨va,vc,rfl⟩:=ag (h7.row 3 rfl);have q0:=h7.cell 2 rfl 0 rfl;have q1:=h7.cell 2 rfl 1 rfl;have q2:=h7.cell 2 rfl 2 rfl;have q3:=h7.cell 2 rfl 3 rfl;have q4:=h7.cell 2 rfl 4 rfl;have q5:=h7.cell 2 rfl 5 rfl;have q6:=h7.cell 2 rfl 6 rfl;have q7:=h7.cell 2 rfl 7 rfl;have q8:=h7.cell 2 rfl 8 rfl;have zx:=h7.cell 4 rfl 0 rfl;have jl:Hq (Ty.behind ad T E (ad.length+1) a0 st=Ty.aq (Ty.addNode {Ty.af 7 ps with a:=a,list:=l}) (λm=>Ty.behind ad T E f m) s4):=fR.o.trans (by rw[U8,aw hm]);have H7:=qh h7;clear hm h6 h7 h4 h5 z2 y0 fz hz;go_wp2_with fail;refine bZ {Ty.af 7 ps with a:=a,list:=l} (.slice va l.length vc) ((H7.o.pick [0,1,4,2,3]).rP) (by omega) (λw5 h8=>?_);have h6:=h8.tQ;have P_:=(h6.pick [0,1]).look.fits.1;have CQ:=qh (de (h6.pick [0,1]).look);have H6:=qh h6;have yJ:Hq (∀r,Ty.behind ad T E f s4.ns.length {s4 with ns:=s4.ns++[{Ty.af 7 ps with a:=a,list:=l}]}=r->Ty.behind ad T E (ad.length+1) a0 st=r):=λr h=>jl.o.trans h
    clear h8 h6;go_wp2_with fail;go_roundw
    case rel=>exact⟨f,s4.ns.length,{s4 with ns:=s4.ns++[{Ty.af 7 ps with a:=a,list:=l}]},rfl,P_,by first|omega|(dsimp only;omega),by simp,H6,yJ⟩
    case measure=>rw[mJ.o,CQ.o];first|omega|(dsimp only;omega)|(dsimp only at*;omega)
   ·have jl:Hq (Ty.behind ad T E (ad.length+1) a0 st=.error e):=fR.o.trans (by rw[U8,aP hm]);have H6:=qh h6;clear hm h6 h4 h5;go_wp2_with fail;exact⟨rfl,aB.o _ _ jl.o H6.o⟩
  ·have h3:=h2.mW;have z2:=h3.cell 2 rfl 0 rfl;have HA:=qh hi;have H3:=qh h3;clear hi h2 h3 z1;go_wp2_with fail;refine cx (H3.o.at 1 rfl) ⟨#[46]⟩ (λw3 hi h2=>?_) (λw3 hi h2=>?_)
   ·have h3:=h2.mW;have z3:=h3.cell 2 rfl 0 rfl;have fR:Hq (Ty.behind ad T E (ad.length+1) a0 st=Ue ad T E f a ps {s with pos:=s.pos+1}):=HB.o _ (by rw[XJ HA.o hi,FQ.o]);have H4:=qh h3;clear hi h2 h3 z2;go_wp2_with fail;refine lg (H4.o.at 1 rfl) _ [] (Lp _) (by simp) (λx w4 hm h5=>?_) (λe w4 hm h5=>?_)
    ·have h7:=h5.mW;have y0:=h7.cell 3 rfl 0 rfl;have y5:=h7.cell 3 rfl 5 rfl;have fz:=h7.free 3 rfl;have hz:=h7.lt 3 rfl;have q1:=h7.cell 3 rfl 1 rfl;have q2:=h7.cell 3 rfl 2 rfl;have q3:=h7.cell 3 rfl 3 rfl;have q4:=h7.cell 3 rfl 4 rfl;have q6:=h7.cell 3 rfl 6 rfl;have q7:=h7.cell 3 rfl 7 rfl;have q8:=h7.cell 3 rfl 8 rfl;have zx:=h7.cell 2 rfl 0 rfl;have jl:Hq (Ty.behind ad T E (ad.length+1) a0 st=Ty.aq (Ty.addNode {Ty.af 8 ps with a:=a,text:=x}) (λm=>Ty.behind ad T E f m) {s with pos:=s.pos+1+1}):=fR.o.trans (by rw[Ue,aw hm]);have H7:=qh (((h7.store 3 rfl 0 (.int .i64 8)).store 3 rfl 5 (.string x)).nil 3 1);clear hm h5 h7 z3;go_wp2_with fail;refine bZ {Ty.af 8 ps with a:=a,text:=x} (.slice none 0 0) (H7.o.rP) (by first|omega|(dsimp only;omega)) (λw5 h8=>?_);have h6:=h8.tQ;have P_:=(h6.pick [0,1]).look.fits.1;have CQ:=qh (de (h6.pick [0,1]).look);have H6:=qh h6;have yJ:Hq (∀r,Ty.behind ad T E f s.ns.length {s with pos:=s.pos+1+1,ns:=s.ns++[{Ty.af 8 ps with a:=a,text:=x}]}=r->Ty.behind ad T E (ad.length+1) a0 st=r):=λr h=>jl.o.trans h
     clear h8 h6;go_wp2_with fail;go_roundw
     case rel=>exact⟨f,s.ns.length,{s with pos:=s.pos+1+1,ns:=s.ns++[{Ty.af 8 ps with a:=a,text:=x}]},rfl,P_,by first|omega|(dsimp only;omega),by simp,H6,yJ⟩
     case measure=>rw[mJ.o,CQ.o];first|omega|(dsimp only;omega)|(dsimp only at*;omega)
    ·have jl:Hq (Ty.behind ad T E (ad.length+1) a0 st=.error e):=fR.o.trans (by rw[Ue,aP hm]);have H6:=qh (h5.unpack (i:=0) rfl);clear hm h5;go_wp2_with fail;exact⟨rfl,aB.o _ _ jl.o (H6.o.pick [0])⟩
   ·have h3:=h2.mW;have z3:=h3.cell 2 rfl 0 rfl;have N7:=qh hi;have H4:=qh h3;clear hi h2 h3 z2;go_wp2_with fail;refine cx (H4.o.at 1 rfl) ⟨#[91]⟩ (λw4 hi h2=>?_) (λw4 hi h2=>?_)
    ·have h3:=h2.mW;have z4:=h3.cell 2 rfl 0 rfl;have fR:Hq (Ty.behind ad T E (ad.length+1) a0 st=UJ ad T E f a ps {s with pos:=s.pos+1}):=HB.o _ (by rw[VT HA.o N7.o hi,FQ.o]);have H5:=qh h3;clear hi h2 h3 z3;go_wp2_with fail;refine HL.o.e _ _ _ pb _ (H5.o.at 1 rfl) _ (λc s5 w5 hm h5=>?_) (λe w5 hm h5=>?_)
     ·have pd:=HL.o.ae _ _ _ hm;dsimp only at pd;have h7:=h5.mW;have y0:=h7.cell 3 rfl 0 rfl;have y2:=h7.cell 3 rfl 2 rfl;have fz:=h7.free 3 rfl;have hz:=h7.lt 3 rfl;have zx:=h7.cell 2 rfl 0 rfl;have jl:Hq (Ty.behind ad T E (ad.length+1) a0 st=Ty.aq (Ty.need ad [93]) (λ_=>Ty.aq (Ty.addNode {Ty.af 9 ps with a:=a,b:=c}) λm=>Ty.behind ad T E f m) s5):=fR.o.trans (by rw[UJ,aw hm]);have H7:=qh ((h7.store 3 rfl 0 (.int .i64 9)).store 3 rfl 2 (.int .i64 (c:Nat)));clear hm h5 h7 z4;go_wp2_with fail;refine cN (H7.o.at 1 rfl) ⟨#[93]⟩ (λw6 hi h2=>?_) (λe w6 hi h2=>?_)
      ·have h7:=(h2.mW).nil 3 1;have q0:=h7.cell 3 rfl 0 rfl;have q1:=h7.cell 3 rfl 1 rfl;have q2:=h7.cell 3 rfl 2 rfl;have q3:=h7.cell 3 rfl 3 rfl;have q4:=h7.cell 3 rfl 4 rfl;have q5:=h7.cell 3 rfl 5 rfl;have q6:=h7.cell 3 rfl 6 rfl;have q7:=h7.cell 3 rfl 7 rfl;have q8:=h7.cell 3 rfl 8 rfl;have zx:=h7.cell 2 rfl 0 rfl;have sV:Hq (Ty.behind ad T E (ad.length+1) a0 st=Ty.aq (Ty.addNode {Ty.af 9 ps with a:=a,b:=c}) (λm=>Ty.behind ad T E f m) {s5 with pos:=s5.pos+1}):=jl.o.trans (by rw[aw hi]);have H8:=qh h7;clear hi h2 h7 y0 y2 fz hz;go_wp2_with fail;refine bZ {Ty.af 9 ps with a:=a,b:=c} (.slice none 0 0) (H8.o.rP) (by first|omega|(dsimp only;omega)) (λw5 h8=>?_);have h6:=h8.tQ;have P_:=(h6.pick [0,1]).look.fits.1;have CQ:=qh (de (h6.pick [0,1]).look);have H6:=qh h6;have yJ:Hq (∀r,Ty.behind ad T E f s5.ns.length {s5 with pos:=s5.pos+1,ns:=s5.ns++[{Ty.af 9 ps with a:=a,b:=c}]}=r->Ty.behind ad T E (ad.length+1) a0 st=r):=λr h=>sV.o.trans h
       clear h8 h6;go_wp2_with fail;go_roundw
       case rel=>exact⟨f,s5.ns.length,{s5 with pos:=s5.pos+1,ns:=s5.ns++[{Ty.af 9 ps with a:=a,b:=c}]},rfl,P_,by first|omega|(dsimp only;omega),by simp,H6,yJ⟩
       case measure=>rw[mJ.o,CQ.o];first|omega|(dsimp only;omega)|(dsimp only at*;omega)
      ·have sV:Hq (Ty.behind ad T E (ad.length+1) a0 st=.error e):=jl.o.trans (by rw[aP hi]);have H6:=qh (h2.unpack (i:=0) rfl);clear hi h2;go_wp2_with fail;exact⟨rfl,aB.o _ _ sV.o (H6.o.pick [0])⟩
     ·have jl:Hq (Ty.behind ad T E (ad.length+1) a0 st=.error e):=fR.o.trans (by rw[UJ,aP hm]);have H6:=qh (h5.unpack (i:=0) rfl);clear hm h5;go_wp2_with fail;exact⟨rfl,aB.o _ _ jl.o (H6.o.pick [0])⟩
    ·have h3:=h2.mW;have z4:=h3.cell 2 rfl 0 rfl;have Rf:=qh hi;have H5:=qh h3;clear hi h2 h3 z3;go_wp2_with fail;refine cx (H5.o.at 1 rfl) ⟨#[97,115]⟩ (λw5 hi h2=>?_) (λw5 hi h2=>?_)
     ·have h3:=h2.mW;have z5:=h3.cell 2 rfl 0 rfl;have fR:Hq (Ty.behind ad T E (ad.length+1) a0 st=UO ad T E f a ps {s with pos:=s.pos+1}):=HB.o _ (by rw[VC HA.o N7.o Rf.o hi,FQ.o]);have H6:=qh h3;clear hi h2 h3 z4;go_wp2_with fail;refine HL.o.t _ _ _ pb _ (H6.o.at 1 rfl) _ (λc s6 w6 hm h5=>?_) (λe w6 hm h5=>?_)
      ·have pd:=HL.o.at' _ _ _ hm;dsimp only at pd;have h7:=h5.mW;have y0:=h7.cell 3 rfl 0 rfl;have y7:=h7.cell 3 rfl 7 rfl;have fz:=h7.free 3 rfl;have hz:=h7.lt 3 rfl;have q1:=h7.cell 3 rfl 1 rfl;have q2:=h7.cell 3 rfl 2 rfl;have q3:=h7.cell 3 rfl 3 rfl;have q4:=h7.cell 3 rfl 4 rfl;have q5:=h7.cell 3 rfl 5 rfl;have q6:=h7.cell 3 rfl 6 rfl;have q8:=h7.cell 3 rfl 8 rfl;have zx:=h7.cell 2 rfl 0 rfl;have jl:Hq (Ty.behind ad T E (ad.length+1) a0 st=Ty.aq (Ty.addNode {Ty.af 14 ps with a:=a,ty:=(c:Int)}) (λm=>Ty.behind ad T E f m) s6):=fR.o.trans (by rw[UO,aw hm]);have H7:=qh (((h7.store 3 rfl 0 (.int .i64 14)).store 3 rfl 7 (.int .i64 (c:Nat))).nil 3 1);clear hm h5 h7 z5;go_wp2_with fail;refine bZ {Ty.af 14 ps with a:=a,ty:=(c:Int)} (.slice none 0 0) (H7.o.rP) (by first|omega|(dsimp only;omega)) (λw5 h8=>?_);have h6:=h8.tQ;have P_:=(h6.pick [0,1]).look.fits.1;have CQ:=qh (de (h6.pick [0,1]).look);have H6:=qh h6;have yJ:Hq (∀r,Ty.behind ad T E f s6.ns.length {s6 with ns:=s6.ns++[{Ty.af 14 ps with a:=a,ty:=(c:Int)}]}=r->Ty.behind ad T E (ad.length+1) a0 st=r):=λr h=>jl.o.trans h
       clear h8 h6;go_wp2_with fail;go_roundw
       case rel=>exact⟨f,s6.ns.length,{s6 with ns:=s6.ns++[{Ty.af 14 ps with a:=a,ty:=(c:Int)}]},rfl,P_,by first|omega|(dsimp only;omega),by simp,H6,yJ⟩
       case measure=>rw[mJ.o,CQ.o];first|omega|(dsimp only;omega)|(dsimp only at*;omega)
      ·have jl:Hq (Ty.behind ad T E (ad.length+1) a0 st=.error e):=fR.o.trans (by rw[UO,aP hm]);have H6:=qh (h5.unpack (i:=0) rfl);clear hm h5;go_wp2_with fail;exact⟨rfl,aB.o _ _ jl.o (H6.o.pick [0])⟩
     ·have fR:Hq (Ty.behind ad T E (ad.length+1) a0 st=.ok (a,s)):=HB.o _ (Vh HA.o N7.o Rf.o hi);have H6:=qh h2.mW;clear hi h2;go_wp2_with fail;exact aX.o _ _ _ fR.o (H6.o.pick [0,1])
def H'(mb:Nat)(names:List BA):As:=cm λmv:Value=>ah [av mb (.cells #[mv] 161 (0,0)),wD mv names]
theorem Prt.Sat.K4{w0 w:World}{A B:As}{mb:Nat}{l:List BA}(H:Sat w0 w [A,B,H' mb l]):∃mv,Sat w0 w [A,B,av mb (.cells #[mv] 161 (0,0)),wD mv l]:=by
 obtain⟨v,hs⟩:=H.ex (i:=2) rfl;exact⟨v,hs.unpack (i:=2) rfl⟩
theorem Prt.Sat.Ci{w0 w:World}{A B:As}{mb:Nat}{l:List BA}{mv:Value}(H:Sat w0 w [A,B,av mb (.cells #[mv] 161 (0,0)),wD mv l]):Sat w0 w [A,B,H' mb l]:=
 (Sat.pack (L:=[_,_]) H).cL (i:=2) rfl (λ_ h=>⟨_,h⟩)
def EG(F:FuncId)(ad:List Tok.Tk)(d:Nat)(M:List BA->Ty.M (BA×Nat)):Prop:=
 ∀(w0 w:World)(Fr:As)(pb mb:Nat)(st:Ty.St)(names:List BA),Sat w0 w [Fr,aV pb d ad st,H' mb names]->names.length<=st.pos->∀R:EW,
  (∀x n s2 w2,M names st=.ok ((x,n),s2)->Sat w0 w2 [Fr,aV pb d ad s2,H' mb (names++[x])]->R (.returned (.int .i64 (n:Nat))) w2)->
  (∀f w2,M names st=.error f->Sat w0 w2 [Fr]->R (.panicked (aI f)) w2)->Calls prog F #[.pointer (some ⟨pb,0,none⟩),.pointer (some ⟨mb,0,none⟩)] w R
theorem Prt.Sat.kU{w0 w:World}{Fr P M B N A:As}(h:Sat w0 w [Fr,P,M,B,N,A]):Sat w0 w [ah [Fr,M,N,B],P,A]:=(Sat.pack (L:=[_,_]) (M:=[_,_,_,_]) (h.pick [1,5,0,2,4,3])).pick [2,0,1]
theorem Prt.Sat.El{w0 w:World}{Fr P M N B:As}(h:Sat w0 w [ah [Fr,M,N,B],P]):Sat w0 w [Fr,P,M,N]:=(h.unpack (i:=0) rfl).pick [1,0,2,3]
theorem KI{ad:List Tok.Tk}{d:Nat}{T E O S:Ty.M Nat}(L:Lo ad d T E O S):EG 349 ad d (Ty.hZ ad E):=by
 intro w0 w Fr pb mb st names H k_ R aH au;have aX:=qh aH;have aB:=qh au;have HL:=qh L;have bu:=(H.pick [0,1]).look;have lR:=bu.wf.1;have eS:=bu.fits.1;have oP:=bu.fits.2.2.2;obtain⟨mv,h0⟩:=H.K4;obtain⟨ma,mc,rfl⟩:=ag (h0.row 3 rfl);have HS:=qh h0;have HN:=qh (λR hR=>@gE w pb d ad st bu R hR);obtain⟨i0,ti,mM,mL,mK⟩:=info_parts yn;obtain⟨ps,kM⟩:∃ps,(Ty.cur ad st.pos).pos=ps:=⟨_,rfl⟩
 have sU:Hq (∀r,(Ty.aq (Ty.name ad names) λx=>Ty.aq (Ty.need ad [58]) λ_=>Ty.aq E λa=>Ty.aq (Ty.addNode {Ty.af 15 ps with text:=x,a:=a}) λn=>Ty.ret (x,n)) st=r->Ty.hZ ad E names st=r):=λr h=>by rw[<-h,<-kM];rfl
 generalize Ty.cur ad st.pos=t at*
 obtain⟨kd,tx,tp⟩:=t;dsimp only at kM;subst kM;have Va:=jV;clear aH au H L bu h0;go_enter func349,ntmps349;go_wp2_with fail;refine HN.o _ (λw1 cQ=>?_);dsimp only[cj];have H1:=qh (HS.o.below cQ);clear cQ;go_wp2_with fail;refine ke w1 15 tp (λw2 aD=>?_);have h2:=(H1.o.below aD).aj (.cells #[.int .i64 15,.int .i64 0,.int .i64 0,.int .i64 0,.slice none 0 0,.string ⟨#[]⟩,.int .i64 0,.int .i64 (-1),.int .i64 tp] 66) w2.heap.size;have x2:=h2.cell 2 rfl 0 rfl;have bT:=h2.ne 2 4 (by decide) rfl rfl;have BM:=h2.lt 2 rfl;have H2:=qh h2;clear aD h2;go_wp2_with fail;refine lg (H2.o.at 1 rfl) _ names (H2.o.row 3 rfl) (by omega) (λx w3 hm h3=>?_) (λe w3 hm h3=>?_);rotate_left
 ·have ru:Hq (Ty.hZ ad E names st=.error e):=sU.o _ (by rw[aP hm]);have H3:=qh (h3.unpack (i:=0) rfl);clear hm h3;go_wp2_with fail;exact⟨rfl,aB.o _ _ ru.o (H3.o.pick [0])⟩
 have ru:Hq (∀r,(Ty.aq (Ty.need ad [58]) λ_=>Ty.aq E λa=>Ty.aq (Ty.addNode {Ty.af 15 tp with text:=x,a:=a}) λn=>Ty.ret (x,n)) {st with pos:=st.pos+1}=r->Ty.hZ ad E names st=r):=λr h=>sU.o r (by rw[aw hm];exact h)
 have h4:=h3.su;have y5:=h4.cell 4 rfl 5 rfl;have f5:=h4.free 4 rfl;have hz:=h4.lt 4 rfl;have Uw:=h4.lt 2 rfl;have x3:=h4.cell 2 rfl 0 rfl;have fm:=h4.free 2 rfl 0;have h5:=h4.store 4 rfl 5 (.string x);have x4:=h5.cell 2 rfl 0 rfl;have y4:=h5.cell 4 rfl 5 rfl;have du:=qh (h5.row 3 rfl);have H5:=qh h5;clear hm h3 h4 h5 x2;go_wp2_with fail;go_region_law(first|(go_loud(refine step_append_lies _ (by rfl) _ _ _ (by rfl) 0 9 i0 _ 1 16 underlying161 ti mM mL mK rfl (by omega) (.slice ma names.length mc) names.length (names.map Value.string) (by rfl) ((du.o.alloc _).drew) ⟨w3.heap.size,0,none⟩ 1 1 [.string x] (by rfl) (by rfl) (World.news_of_block (cs:=#[.string x]) (t:=9) (fr:=(0,0)) (d_ (aR _ _ _ (by simp)))) (by simp[Value.oneCell']) (by omega) (by unfold maxLen;omega) (by omega) (by simp) (w3.heap.size+1) (by simp) ?_);intro g cap w4 dE cO jY vy;have h6:=Sat.grow (m:=names.length+1) ((H5.o.aW _).drew) 3 rfl cO dE (by simpa using jY);have x5:=h6.cell 2 rfl 0 rfl;have f6:=h6.free 2 rfl 0;have ZT:=h6.lt 2 rfl;have H6:=qh h6;clear h6))
 all_goals
  clear dE cO;have h7:=(H6.o.store 2 rfl 0 (.slice (some ⟨g,0,none⟩) (names.length+1) cap)).cL (i:=3) rfl (Q:=wD (.slice (some ⟨g,0,none⟩) (names.length+1) cap) (names++[x])) (λ_ h=>rf h);have H7:=qh h7;clear h7;go_wp2_with fail;refine cN (H7.o.at 1 rfl) ⟨#[58]⟩ (λw5 hm h8=>?_) (λe w5 hm h8=>?_);rotate_left
  ·have fR:Hq (Ty.hZ ad E names st=.error e):=ru.o _ (by rw[aP hm]);have H8:=qh (h8.unpack (i:=0) rfl);clear hm h8;go_wp2_with fail;exact⟨rfl,aB.o _ _ fR.o (H8.o.pick [0])⟩
  have fR:Hq (∀r,(Ty.aq E λa=>Ty.aq (Ty.addNode {Ty.af 15 tp with text:=x,a:=a}) λn=>Ty.ret (x,n)) {st with pos:=st.pos+1+1}=r->Ty.hZ ad E names st=r):=λr h=>ru.o r (by rw[aw hm];exact h)
  have H8:=qh h8.su;clear hm h8;go_wp2_with fail;refine HL.o.e _ _ _ pb _ (H8.o.at 1 rfl) _ (λn s6 w6 hm h9=>?_) (λe w6 hm h9=>?_);rotate_left
  ·have jl:Hq (Ty.hZ ad E names st=.error e):=fR.o _ (by rw[aP hm]);have H9:=qh (h9.unpack (i:=0) rfl);clear hm h9;go_wp2_with fail;exact⟨rfl,aB.o _ _ jl.o (H9.o.pick [0])⟩
  have pd:=HL.o.ae _ _ _ hm;dsimp only at pd;have jl:Hq (Ty.hZ ad E names st=.ok ((x,s6.ns.length),{s6 with ns:=s6.ns++[{Ty.af 15 tp with text:=x,a:=n}]})):=fR.o _ (by rw[aw hm];rfl);have dG:=h9.su;have y1:=dG.cell 4 rfl 1 rfl;have f1:=dG.free 4 rfl;have V1:=dG.lt 4 rfl;have jE:=dG.store 4 rfl 1 (.int .i64 (n:Nat));have q0:=dG.cell 4 rfl 0 rfl;have q2:=dG.cell 4 rfl 2 rfl;have q3:=dG.cell 4 rfl 3 rfl;have q4:=dG.cell 4 rfl 4 rfl;have q5:=dG.cell 4 rfl 5 rfl;have q6:=dG.cell 4 rfl 6 rfl;have q7:=dG.cell 4 rfl 7 rfl;have q8:=dG.cell 4 rfl 8 rfl;have LI:=qh (jE.nil 3 1);clear hm h9 dG jE;go_wp2_with fail;refine bZ {Ty.af 15 tp with text:=x,a:=n} (.slice none 0 0) ((LI.o.pick [0,1,2,4,3,5]).kU) (by omega) (λw7 je=>?_);have rY:=qh je.El;clear je;go_wp2_with fail;exact aX.o _ _ _ _ jl.o rY.o.Ci
theorem GB{ad:List Tok.Tk}{d:Nat}{T E O S:Ty.M Nat}(L:Lo ad d T E O S):EG 357 ad d (Ty.gB ad T):=by
 intro w0 w Fr pb mb st names H k_ R aH au;have aX:=qh aH;have aB:=qh au;have HL:=qh L;have bu:=(H.pick [0,1]).look;have lR:=bu.wf.1;have eS:=bu.fits.1;have oP:=bu.fits.2.2.2;obtain⟨mv,h0⟩:=H.K4;obtain⟨ma,mc,rfl⟩:=ag (h0.row 3 rfl);have HS:=qh h0;have HN:=qh (λR hR=>@gE w pb d ad st bu R hR);obtain⟨i0,ti,mM,mL,mK⟩:=info_parts yn;obtain⟨ps,kM⟩:∃ps,(Ty.cur ad st.pos).pos=ps:=⟨_,rfl⟩
 have sU:Hq (∀r,(Ty.aq (Ty.name ad names) λx=>Ty.aq (Ty.written ad T) λt=>Ty.aq (Ty.addNode {Ty.af 16 ps with text:=x,ty:=t}) λn=>Ty.ret (x,n)) st=r->Ty.gB ad T names st=r):=λr h=>by rw[<-h,<-kM];rfl
 generalize Ty.cur ad st.pos=t at*
 obtain⟨kd,tx,tp⟩:=t;dsimp only at kM;subst kM;have Va:=jV;clear aH au H L bu h0;go_enter func357,ntmps357;go_wp2_with fail;refine HN.o _ (λw1 cQ=>?_);dsimp only[cj];have H1:=qh (HS.o.below cQ);clear cQ;go_wp2_with fail;refine ke w1 16 tp (λw2 aD=>?_);have h2:=(H1.o.below aD).aj (.cells #[.int .i64 16,.int .i64 0,.int .i64 0,.int .i64 0,.slice none 0 0,.string ⟨#[]⟩,.int .i64 0,.int .i64 (-1),.int .i64 tp] 66) w2.heap.size;have x2:=h2.cell 2 rfl 0 rfl;have bT:=h2.ne 2 4 (by decide) rfl rfl;have BM:=h2.lt 2 rfl;have H2:=qh h2;clear aD h2;go_wp2_with fail;refine lg (H2.o.at 1 rfl) _ names (H2.o.row 3 rfl) (by omega) (λx w3 hm h3=>?_) (λe w3 hm h3=>?_);rotate_left
 ·have ru:Hq (Ty.gB ad T names st=.error e):=sU.o _ (by rw[aP hm]);have H3:=qh (h3.unpack (i:=0) rfl);clear hm h3;go_wp2_with fail;exact⟨rfl,aB.o _ _ ru.o (H3.o.pick [0])⟩
 have ru:Hq (∀r,(Ty.aq (Ty.written ad T) λt=>Ty.aq (Ty.addNode {Ty.af 16 tp with text:=x,ty:=t}) λn=>Ty.ret (x,n)) {st with pos:=st.pos+1}=r->Ty.gB ad T names st=r):=λr h=>sU.o r (by rw[aw hm];exact h)
 have h4:=h3.su;have y5:=h4.cell 4 rfl 5 rfl;have f5:=h4.free 4 rfl;have hz:=h4.lt 4 rfl;have Uw:=h4.lt 2 rfl;have x3:=h4.cell 2 rfl 0 rfl;have fm:=h4.free 2 rfl 0;have h5:=h4.store 4 rfl 5 (.string x);have x4:=h5.cell 2 rfl 0 rfl;have y4:=h5.cell 4 rfl 5 rfl;have du:=qh (h5.row 3 rfl);have H5:=qh h5;clear hm h3 h4 h5 x2;go_wp2_with fail;go_region_law(first|(go_loud(refine step_append_lies _ (by rfl) _ _ _ (by rfl) 0 9 i0 _ 1 16 underlying161 ti mM mL mK rfl (by omega) (.slice ma names.length mc) names.length (names.map Value.string) (by rfl) ((du.o.alloc _).drew) ⟨w3.heap.size,0,none⟩ 1 1 [.string x] (by rfl) (by rfl) (World.news_of_block (cs:=#[.string x]) (t:=9) (fr:=(0,0)) (d_ (aR _ _ _ (by simp)))) (by simp[Value.oneCell']) (by omega) (by unfold maxLen;omega) (by omega) (by simp) (w3.heap.size+1) (by simp) ?_);intro g cap w4 dE cO jY vy;have h6:=Sat.grow (m:=names.length+1) ((H5.o.aW _).drew) 3 rfl cO dE (by simpa using jY);have x5:=h6.cell 2 rfl 0 rfl;have f6:=h6.free 2 rfl 0;have ZT:=h6.lt 2 rfl;have H6:=qh h6;clear h6))
 all_goals
  clear dE cO;have h7:=(H6.o.store 2 rfl 0 (.slice (some ⟨g,0,none⟩) (names.length+1) cap)).cL (i:=3) rfl (Q:=wD (.slice (some ⟨g,0,none⟩) (names.length+1) cap) (names++[x])) (λ_ h=>rf h);have H7:=qh h7;clear h7;go_wp2_with fail;refine nE HL.o (H7.o.at 1 rfl) (λn s6 w6 hm h9=>?_) (λe w6 hm h9=>?_);rotate_left
  ·have jl:Hq (Ty.gB ad T names st=.error e):=ru.o _ (by rw[aP hm]);have H9:=qh (h9.unpack (i:=0) rfl);clear hm h9;go_wp2_with fail;exact⟨rfl,aB.o _ _ jl.o (H9.o.pick [0])⟩
  have pd:=hJ HL.o.at' _ _ _ hm;dsimp only at pd;have jl:Hq (Ty.gB ad T names st=.ok ((x,s6.ns.length),{s6 with ns:=s6.ns++[{Ty.af 16 tp with text:=x,ty:=n}]})):=ru.o _ (by rw[aw hm];rfl);have dG:=h9.su;have y1:=dG.cell 4 rfl 7 rfl;have f1:=dG.free 4 rfl;have V1:=dG.lt 4 rfl;have jE:=dG.store 4 rfl 7 (.int .i64 n);have q0:=dG.cell 4 rfl 0 rfl;have q1:=dG.cell 4 rfl 1 rfl;have q2:=dG.cell 4 rfl 2 rfl;have q3:=dG.cell 4 rfl 3 rfl;have q4:=dG.cell 4 rfl 4 rfl;have q5:=dG.cell 4 rfl 5 rfl;have q6:=dG.cell 4 rfl 6 rfl;have q8:=dG.cell 4 rfl 8 rfl;have LI:=qh (jE.nil 3 1);clear hm h9 dG jE;go_wp2_with fail;refine bZ {Ty.af 16 tp with text:=x,ty:=n} (.slice none 0 0) ((LI.o.pick [0,1,2,4,3,5]).kU) (by omega) (λw7 je=>?_);have rY:=qh je.El;clear je;go_wp2_with fail;exact aX.o _ _ _ _ jl.o rY.o.Ci
end Go.Proofs.YtdlbhiaceheffabGreatDoor
