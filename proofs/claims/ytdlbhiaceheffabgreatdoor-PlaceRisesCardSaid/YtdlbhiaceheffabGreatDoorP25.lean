/- Walk of check: expr at all kinds; what must fit. -/
import Derived.Test.YtdlbhiaceheffabGreatDoorP23
import Derived.Test.YtdlbhiaceheffabGreatDoorP24
set_option linter.all false
set_option maxRecDepth 100000
set_option maxHeartbeats 8000000
namespace Go.Proofs.YtdlbhiaceheffabGreatDoor
open Go Go.RowKit Ty Tok ak Tryz Proofs.Tryz
section
open Ty (Tr Ck)
section
variable {wB w:World} {cb ofb hasb:Nat} {X:Cx} {s:Ck} {h0:ak.Hp} {pg:Ty.Pg}
theorem vv(hP:PB wB X.nv X.tv pg)(hb:Below wB.heap.size wB w){id:Nat}{nd:Ty.Nd}(hn:pg.ns[id]?=some nd)(hk:1≤nd.kind∧nd.kind≤14)(hW:CkW w cb X ofb hasb s h0)(hI:NdW pg nd)(hi:id≤100000)(bZ:fN pg X.a_ s id nd≠.error Ty.stuck){R:EW}
  (aF:∀t q w',fN pg X.a_ s id nd=.ok t→Sat w w' [bE w,de h0 t q]→R (.returned q) w') (av:∀f w',fN pg X.a_ s id nd=.error f→Below w.heap.size w w'→R (.panicked (aJ f)) w'):
  Calls prog 159 #[.pointer (some ⟨cb,0,none⟩),.int .i64 (id:Nat)] w R:=by
 have h:nd.kind=1∨nd.kind=2∨nd.kind=3∨nd.kind=4∨nd.kind=5∨nd.kind=6∨nd.kind=7∨nd.kind=8∨nd.kind=9∨nd.kind=10∨nd.kind=11∨nd.kind=12∨nd.kind=13∨nd.kind=14:=by omega
 rcases h with h|h|h|h|h|h|h|h|h|h|h|h|h|h
 ·exact QX hP hb hn h hW hI hi bZ aF av
 ·exact QK hP hb hn h hW hI hi bZ aF av
 ·exact Qu hP hb hn h hW hI hi bZ aF av
 ·exact Pr hP hb hn h hW hI hi bZ aF av
 ·exact OU hP hb hn h hW hI hi bZ aF av
 ·exact PC hP hb hn h hW hI hi bZ aF av
 ·exact PX hP hb hn h hW hI hi bZ aF av
 ·exact O5 hP hb hn h hW hI hi bZ aF av
 ·exact QL hP hb hn h hW hI hi bZ aF av
 ·exact NS hP hb hn h hW hI bZ aF
 ·exact Nb hP hb hn h hW hI bZ aF
 ·exact M4 hP hb hn h hW hI hi bZ aF av
 ·exact Mn hP hb hn h hW hI hi bZ aF av
 ·exact MR hP hb hn h hW hI hi bZ aF av
theorem gu(hP:PB wB X.nv X.tv pg)(hb:Below wB.heap.size wB w){id:Nat}{nd:Ty.Nd}(hn:pg.ns[id]?=some nd)(hW:CkW w cb X ofb hasb s h0){a:Nat}{ta tq:Tr}{q:Value}(qM:s.of a=some ta)(ha:a≤100000)(hq:rep h0 tq q)(SL:dP tq){b2 b3:Nat}(c2:w.cell? ⟨b2,0,none⟩=some (.pointer (some ⟨cb,0,none⟩)))(c3:w.cell? ⟨b3,0,none⟩=some (.int .i64 (id:Nat))){R:EW}
  (aF:Ty.fits ta tq=true→∀w',Below w.heap.size w w'→R (.returned (.tuple #[])) w') (av:Ty.fits ta tq=false→∀w',Below w.heap.size w w'→R (.panicked (aJ (9,nd.pos))) w'):
  Calls prog 248 #[.int .i64 (a:Nat),q,.pointer (some ⟨b2,0,none⟩),.pointer (some ⟨b3,0,none⟩)] w R:=by
 obtain⟨p,bD,hr⟩:=hW.gj ha qM;have Y_:=(hW.fK.of _ _ qM).1.ok;obtain⟨bp,rfl⟩:=aP hr;obtain⟨bq,rfl⟩:=aP hq;have HN:=qh (λw1(h:Below w.heap.size w w1)(ok:Bool)(R:EW)=>eL (R:=R) (b:=ok) (e:=9) hP (hb.trans (h.mono hb.size)) hn (aq h hW.c0) (nL hW.lt h.size));have sV:=qh (yE w _ ta tq _ _ (Nat.lt_succ_self _) Y_ SL (bL hW.le _ _ hr) (bL hW.le _ _ hq));have hS:w.drew.cell? ⟨b2,0,none⟩=some (.pointer (some ⟨cb,0,none⟩))∧w.drew.cell? ⟨b3,0,none⟩=some (.int .i64 (id:Nat))∧w.drew.cell? ⟨cb,5,none⟩=some (.map (some ofb))∧(Instr.lookup 103 (.map (some ofb)) (.int .i64 (a:Nat)) false).run prog w.drew=.ok (.pointer (some ⟨bp,0,none⟩)) w.drew:=⟨c2,c3,hW.c5,bD _ (Below.drew (bR _ _))⟩
 have np:=qh (λw5(h:Below w.drew.heap.size w.drew w5)=>And.intro (aq h hS.1) (And.intro (aq h hS.2.1) (And.intro (aq h hS.2.2.1) (bD w5 ((Below.drew (bR _ _)).trans h)))));have Ub:=qh (Below.drew (bR w.heap.size w));have gU:=hW.lt;have aY:=qh aF;have eH:=qh av;clear hP hb hn hW qM hq SL aF av bD hr Y_ c2 c3;generalize Ty.fits ta tq=f at*
 go_in;cases f with
 |true=>
  have HG:=qh (aY.o rfl);go_wp2_with fail;go_region_held3(λw'=>w'.cell? ⟨b2,0,none⟩=some (.pointer (some ⟨cb,0,none⟩))∧w'.cell? ⟨b3,0,none⟩=some (.int .i64 (id:Nat))∧w'.cell? ⟨cb,5,none⟩=some (.map (some ofb))∧(Instr.lookup 103 (.map (some ofb)) (.int .i64 (a:Nat)) false).run prog w'=.ok (.pointer (some ⟨bp,0,none⟩)) w') (first|exact hS|exact iv)
   (first
    |(go_at_call 249;refine sV.o _ Ub.o _ (λw5 dW=>?_);have iv:=np.o w5 dW;have lh:=qh (Ub.o.trans dW);clear dW)
    |(go_at_call 160;refine HN.o _ lh.o _ _ (λ_=>?_) (λh=>by cases h)))
  all_goals
   go_wp2_with fail;go_end0;exact HG.o _ lh.o
 |false=>
  have HG:=qh (eH.o rfl);go_wp2_with fail
  go_region_held (λw'=>w'.cell? ⟨b2,0,none⟩=some (.pointer (some ⟨cb,0,none⟩))∧w'.cell? ⟨b3,0,none⟩=some (.int .i64 (id:Nat))∧w'.cell? ⟨cb,5,none⟩=some (.map (some ofb))∧(Instr.lookup 103 (.map (some ofb)) (.int .i64 (a:Nat)) false).run prog w'=.ok (.pointer (some ⟨bp,0,none⟩)) w') (first|exact hS|exact iv)
   (first
    |(go_at_call 249;refine sV.o _ Ub.o _ (λw5 dW=>?_);have iv:=np.o w5 dW;have lh:=qh (Ub.o.trans dW);clear dW)
    |(go_at_call 160;refine HN.o _ lh.o _ _ (λfV=>?_) (λ_ w' fU=>⟨rfl,HG.o w' (lh.o.trans (fU.mono lh.o.size))⟩)))
  all_goals exact absurd fV (by decide)
end
def Rs(w:World)(cb:Nat)(bk:List (Option Tr))(h0:ak.Hp):Prop:=∃(v:Value)(bl:List Value),w.cell? ⟨cb,7,none⟩=some v∧w.ownsRow 0 107 1 v bl.length bl∧bl.length=bk.length∧bk.length≤1000000∧∀i(h:i<bk.length)(h2:i<bl.length),match bk[i]with
 |none=>bl[i]=.pointer none
 |some t=>rep h0 t bl[i]∧dP t
theorem oJ{pg:Ty.Pg}{tf:Nat→Nat}{bk:List (Option Tr)}{s:Ck}{n:Nat}{x:Ty.Nd}(h:iw pg tf bk n x s≠.error Ty.stuck):fM s.of (dx x)=true∧iw pg tf bk n x s=px pg tf bk n x s:=by
 by_cases hk:fM s.of (dx x)=true
 ·exact⟨hk,by unfold iw;rw[if_pos hk]⟩
 ·unfold iw at h;rw[if_neg hk]at h
  exact absurd rfl h
theorem pV{b:Bool}{e p:Nat}{s:Ck}(h:b=true):im b e p s=.ok s:=by unfold im;rw[if_pos h]
theorem qB{b:Bool}{e p:Nat}{s:Ck}(h:b=false):im b e p s=.error (e,p):=by unfold im;rw[h];rfl
theorem CkW.up{w:World}{cb ofb hasb:Nat}{X:Cx}{s:Ck}{h0:ak.Hp}(h:CkW w cb X ofb hasb s h0):CkW w cb X ofb hasb s (ak.hp w):=by
 obtain⟨n2,D2,f2,k2,k3,k4⟩:=h.of;obtain⟨n3,D3,f3,l2,l3,l4⟩:=h.has;exact⟨h.lt,ak.le_refl _,h.c0,h.c1,h.c3,h.c5,h.c6,h.Wo,⟨n2,D2,f2,k2,k3,λn t e=>by obtain⟨p,a,b⟩:=k4 n t e;exact⟨p,a,bL h.le _ _ b⟩⟩,⟨n3,D3,f3,l2,l3,λn t e=>by obtain⟨p,a,b⟩:=l4 n t e;exact⟨p,a,bL h.le _ _ b⟩⟩,h.fK,h.wi⟩
theorem RZ{u:Tr}(e:none=some u){F:FuncId}{args:Array Value}{w:World}{R:EW}(_:∀w',R (.returned (.tuple #[])) w'):Calls prog F args w R:=nomatch e
def FR(h0:ak.Hp):As:=λh=>ak.le h0 h
def Hi(cb:Nat)(X:Cx)(ofb hasb:Nat)(bkv:Value)(no nh:Nat)(fo fh:Nat→Option Value)(bl:List Value)(h0:ak.Hp):List As:=
 [ay cb (N1 X ofb hasb bkv),mapA 3 3 X.sO X.nt (cH X.wi),jz 3 ofb no (f_ fo),jz 3 hasb nh (f_ fh),ak.row 107 1 bkv bl.length bl,FR h0]
structure CkI(X:Cx)(c:Nat)(s:Ck)(bk:List (Option Tr))(no nh:Nat)(fo fh:Nat→Option Value)(bl:List Value)(h0:ak.Hp):Prop where
 no:no≤c
 nh:nh≤c
 fo:∀n,(s.of n=none→fo n=none)∧∀t,s.of n=some t→∃p,fo n=some p∧rep h0 t p
 fh:∀n t,s.has n=some t→∃p,fh n=some p∧rep h0 t p
 len:bl.length=bk.length
 bl:∀i(h:i<bk.length)(h2:i<bl.length),match bk[i]with
  |none=>bl[i]=.pointer none
  |some t=>rep h0 t bl[i]∧dP t
 nf:bk.length≤c
 fK:FineS s
 wi:Tx X.wi
def mr(cb:Nat)(X:Cx)(c:Nat)(s:Ck)(bk:List (Option Tr)):As:=λh=>∃ofb hasb bkv no nh fo fh bl h0,CkI X c s bk no nh fo fh bl h0∧ah (Hi cb X ofb hasb bkv no nh fo fh bl h0) h
section
variable {wB w:World} {Fr:As} {cb:Nat} {X:Cx} {c:Nat} {s:Ck} {bk:List (Option Tr)}
theorem ak.Sat.eV(h:Sat wB w [Fr,mr cb X c s bk]):∃ofb hasb bkv no nh fo fh bl h0,CkI X c s bk no nh fo fh bl h0∧Sat wB w (Fr::Hi cb X ofb hasb bkv no nh fo fh bl h0):=by
 obtain⟨⟨ofb,hasb,bkv,no,nh,fo,fh,bl,h0⟩,h1⟩:=(h.cG (i:=1) rfl (Q:=cA λ(q:Nat×Nat×Value×Nat×Nat×(Nat→Option Value)×(Nat→Option Value)×List Value×ak.Hp)=>ah [cn (CkI X c s bk q.2.2.2.1 q.2.2.2.2.1 q.2.2.2.2.2.1 q.2.2.2.2.2.2.1 q.2.2.2.2.2.2.2.1 q.2.2.2.2.2.2.2.2),ah (Hi cb X q.1 q.2.1 q.2.2.1 q.2.2.2.1 q.2.2.2.2.1 q.2.2.2.2.2.1 q.2.2.2.2.2.2.1 q.2.2.2.2.2.2.2.1 q.2.2.2.2.2.2.2.2)]) λa ha=>by
  obtain⟨ofb,hasb,bkv,no,nh,fo,fh,bl,h0,g1,g2⟩:=ha;exact⟨(ofb,hasb,bkv,no,nh,fo,fh,bl,h0),λ_=>none,a,λ_=>.inl rfl,λ_ _ e=>(by cases e),ak.le_refl _,g1,a,λ_=>none,λ_=>.inr rfl,ak.le_refl _,λ_ _ e=>(by cases e),g2,trivial⟩).ex (i:=1) rfl
 have h2:=h1.unpack (i:=1) rfl;have hi:=h2.get (i:=1) rfl λ_ ha _=>ha
 exact⟨ofb,hasb,bkv,no,nh,fo,fh,bl,h0,hi,(h2.pick [0,2]).unpack (i:=1) rfl⟩
theorem ak.Sat.jN{ofb hasb:Nat}{bkv:Value}{no nh:Nat}{fo fh:Nat→Option Value}{bl:List Value}{h0:ak.Hp}(hi:CkI X c s bk no nh fo fh bl h0)(h:Sat wB w (Fr::Hi cb X ofb hasb bkv no nh fo fh bl h0)):Sat wB w [Fr,mr cb X c s bk]:=
 (Sat.pack (L:=[Fr]) h).cG (i:=1) rfl λ_ ha=>⟨ofb,hasb,bkv,no,nh,fo,fh,bl,h0,hi,ha⟩
theorem CkI.mono{no nh:Nat}{fo fh:Nat→Option Value}{bl:List Value}{h0:ak.Hp}(h:CkI X c s bk no nh fo fh bl h0){d:Nat}(hd:c≤d):CkI X d s bk no nh fo fh bl h0:={h with no:=nT h.no hd,nh:=nT h.nh hd,nf:=nT h.nf hd}
theorem ak.Sat.uM(h:Sat wB w [Fr,mr cb X c s bk]){d:Nat}(hd:c≤d):Sat wB w [Fr,mr cb X d s bk]:=by
 obtain⟨ofb,hasb,bkv,no,nh,fo,fh,bl,h0,hi,h2⟩:=h.eV;exact h2.jN (hi.mono hd)
theorem ak.Sat.MS{ofb hasb:Nat}{bkv:Value}{no nh:Nat}{fo fh:Nat→Option Value}{bl:List Value}{h0:ak.Hp}(hi:CkI X c s bk no nh fo fh bl h0)(h:Sat wB w (Fr::Hi cb X ofb hasb bkv no nh fo fh bl h0)):CkW w cb X ofb hasb s h0:=by
 obtain⟨D1,g1,g2⟩:=h.nZ 2 rfl;obtain⟨D2,k1,k2⟩:=h.fT 3 rfl;obtain⟨D3,l1,l2⟩:=h.fT 4 rfl;exact⟨h.lt 1 rfl,h.get (i:=6) rfl λa ha hl=>ak.le_trans ha hl,h.cell 1 rfl 0 rfl,h.cell 1 rfl 1 rfl,h.cell 1 rfl 3 rfl,h.cell 1 rfl 5 rfl,h.cell 1 rfl 6 rfl,⟨_,D1,g1,g2⟩,⟨_,D2,fo,k1,k2,λn t e=>(hi.fo n).2 t e⟩,⟨_,D3,fh,l1,l2,hi.fh⟩,hi.fK,hi.wi⟩
theorem ak.Sat.aa2{ofb hasb:Nat}{bkv:Value}{no nh:Nat}{fo fh:Nat→Option Value}{bl:List Value}{h0:ak.Hp}(hi:CkI X c s bk no nh fo fh bl h0)(hc:c≤1000000)(h:Sat wB w (Fr::Hi cb X ofb hasb bkv no nh fo fh bl h0)):Rs w cb bk h0:=
 ⟨bkv,bl,h.cell 1 rfl 7 rfl,h.row 5 rfl,hi.len,nT hi.nf hc,hi.bl⟩
end
theorem ak.Sat.AG{w0 w:World}{L:List As}{h0:ak.Hp}{t:Tr}{p:Value}(h:Sat w0 w (L++[FR h0,de h0 t p])):∃h1,ak.le h0 h1∧rep h1 t p∧Sat w0 w (L++[FR h1]):=by
 obtain⟨a,b,d1,d2,d3,d4,d5⟩:=jw h.mem;obtain⟨x,y,_,hx,hy,g1,z,u,_,hz,_,g2,_⟩:=d5;refine⟨b,ak.le_trans g1 hx,g2 b (ak.le_trans g1 hx) (ak.le_trans hz hy),h.os,h.tape,h.output,?_⟩;exact eu d4 (b:=b) ⟨b,λ_=>none,λ_=>.inr rfl,ak.le_refl _,λ_ _ e=>(by cases e),ak.le_refl _,trivial⟩ d1 d2 d3
section
variable {X:Cx} {c:Nat} {s:Ck} {bk:List (Option Tr)} {no nh:Nat} {fo fh:Nat→Option Value} {bl:List Value} {h0 h1:ak.Hp}
theorem CkI.up(h:CkI X c s bk no nh fo fh bl h0)(hl:ak.le h0 h1):CkI X c s bk no nh fo fh bl h1:=
 ⟨h.no,h.nh,λn=>⟨(h.fo n).1,λt e=>by obtain⟨p,a,b⟩:=(h.fo n).2 t e;exact⟨p,a,bL hl _ _ b⟩⟩,λn t e=>by obtain⟨p,a,b⟩:=h.fh n t e;exact⟨p,a,bL hl _ _ b⟩,h.len,λi hi h2=>by
  have:=h.bl i hi h2;revert this;cases bk[i]with
  |none=>exact λh=>h
  |some t=>exact λh=>⟨bL hl _ _ h.1,h.2⟩,h.nf,h.fK,h.wi⟩
theorem CkI.vf(h:CkI X c s bk no nh fo fh bl h0)(n:Nat){t:Tr}{p:Value}(hr:rep h0 t p)(hf:Fine t∧dw t≤400000):CkI X (c+1) {s with has:=eX s.has n t} bk no (nh+1) fo (λk=>if k=n then some p else fh k) bl h0:=
 ⟨Nat.le_succ_of_le h.no,Nat.succ_le_succ h.nh,h.fo,λm u e=>by
  simp only[eX]at e;by_cases hm:m=n
  ·rw[if_pos hm]at e;cases e;exact⟨p,by rw[if_pos hm],hr⟩
  ·rw[if_neg hm]at e;obtain⟨q,a,b⟩:=h.fh m u e;exact⟨q,by rw[if_neg hm];exact a,b⟩,h.len,h.bl,Nat.le_succ_of_le h.nf,h.fK.xN n hf,h.wi⟩
theorem CkI.OQ(h:CkI X c s bk no nh fo fh bl h0)(n:Nat){t:Tr}{p:Value}(hr:rep h0 t p)(hf:Fine t∧dw t≤300):CkI X (c+1) {s with of:=eX s.of n t} bk (no+1) nh (λk=>if k=n then some p else fo k) fh bl h0:=
 ⟨Nat.succ_le_succ h.no,Nat.le_succ_of_le h.nh,λm=>by
  simp only[eX];by_cases hm:m=n
  ·rw[if_pos hm,if_pos hm];exact⟨λe=>(by cases e),λu e=>by cases e;exact⟨p,rfl,hr⟩⟩
  ·rw[if_neg hm,if_neg hm];exact h.fo m,h.fh,h.len,h.bl,Nat.le_succ_of_le h.nf,h.fK.setOf n hf,h.wi⟩
end
section
variable {wB w:World} {cb:Nat} {X:Cx} {c:Nat} {s:Ck} {pg:Ty.Pg} {bk:List (Option Tr)} {Fr:As}
theorem Ng(hP:PB wB X.nv X.tv pg)(hF:jH wB Fr){id:Nat}{nd:Ty.Nd}(hn:pg.ns[id]?=some nd)(hk:nd.kind=17)(H:Sat wB w [Fr,mr cb X c s bk])(hc:c+1≤100000)(hI:NdW pg nd)(hi:id≤100000)(bZ:iw pg X.a_ bk id nd s≠.error Ty.stuck){R:EW}
  (aF:∀s' w',iw pg X.a_ bk id nd s=.ok s'→Sat wB w' [Fr,mr cb X (c+1) s' bk]→R (.returned (.tuple #[])) w') (av:∀f w',iw pg X.a_ bk id nd s=.error f→Sat wB w' [Fr]→R (.panicked (aJ f)) w'):
  Calls prog 162 #[.pointer (some ⟨cb,0,none⟩),.int .i64 (id:Nat)] w R:=by
 obtain⟨ofb,hasb,bkv,no,nh,fo,fh,bl,h0,j5,g1⟩:=H.eV;have hW:=g1.MS j5;have hb:=hF w _ 0 g1 rfl;obtain⟨cy,hex⟩:=oJ bZ;have kK:dx nd=[nd.a]:=by unfold dx;simp[hk]
 rw[kK]at cy
 have qM:=cu cy (n:=nd.a) (by simp);have hx:iw pg X.a_ bk id nd s=Ty.aO (im (Ty.fits (tO s.of nd.a) ((ek pg.ts nd.ty).getD (tO s.of nd.a))) 9 nd.pos s) λs=>.ok {s with has:=eX s.has id ((ek pg.ts nd.ty).getD (tO s.of nd.a))}:=by rw[hex];unfold px;simp only[hk];rfl
 have aY:=qh (λw'(h:Ty.fits (tO s.of nd.a) ((ek pg.ts nd.ty).getD (tO s.of nd.a))=true)=>aF _ w' (by rw[hx,pV h];rfl));have eH:=qh (λw'(h:Ty.fits (tO s.of nd.a) ((ek pg.ts nd.ty).getD (tO s.of nd.a))=false)=>av (9,nd.pos) w' (by rw[hx,qB h];rfl));have HP:=qh hP;have HF:=qh hF;have jJ:=qh hn;have HI:=qh hI;have sh:=qh j5;have uS:=qh qM;have Ur:=qh (hW.fK.of _ _ qM);have Ei:=zl id hi;have ZG:nh<maxLen:=by have:=j5.nh;unfold maxLen;omega
 have Hu:∀(fn:Fn)(first cap:Array Value)(w:World),(Instr.makeFunc fn first cap).run prog w=.ok (.func fn first cap) w:=λ_ _ _ _=>rfl
 have g2:=(g1.aj (.cells #[.pointer (some ⟨cb,0,none⟩)] 99) w.heap.size).aj (.cells #[.int .i64 (id:Nat)] 3) (w.heap.size+1) (by simp);have eE:=qh (λR=>aR (R:=R) hP (hF _ _ 0 g2 rfl) hn (g2.cell 1 rfl 0 rfl) (g2.lt 1 rfl));have H2:=qh g2;have Ho: (((nd.kind:Nat):Int)==17)=true:=by rw[hk];rfl
 clear aF av hP hF hn hk H hI j5 bZ cy hex hx kK qM g1 g2 hW hb hi;go_in;go_wp2_with fail;refine eE.o _ (λlv w2 aI hl=>?_);obtain⟨la,lc,rfl⟩:=ag hl;unfold aK;have g3:=(H2.o.below aI).aj (aD nd (.slice la nd.list.length lc)) w2.heap.size;have y2:=g3.cell 7 rfl 0 rfl;have y3:=g3.cell 8 rfl 0 rfl;have x0:=g3.cell 9 rfl 0 rfl;have x1:=g3.cell 9 rfl 1 rfl;have x7:=g3.cell 9 rfl 7 rfl;have H3:=qh g3;clear aI hl g3;go_wp2_with fail;refine hJ HP.o (HF.o _ _ 0 H3.o rfl) (H3.o.cell 1 rfl 1 rfl) (H3.o.lt 1 rfl) HI.o.ty (λv w3 h3=>?_);have g4:=H3.o.join h3;have H4:=qh g4;clear h3 g4 x0 x1 x7 y2 y3;cases tw:ek pg.ts nd.ty with
 |none=>
  rw[tw]at H4 aY eH
  simp only[Option.getD_none]at aY eH;have hv:v=.pointer none:=H4.o.get (i:=10) rfl λ_ ha _=>ha
  subst hv;have Y0:=(H4.o.pick [0,1,2,3,4,5,6]).MS sh.o;obtain⟨p6,bD,XH⟩:=Y0.drew.FI HI.o.a uS.o;obtain⟨b6,rfl⟩:=aP XH;have hS:w3.drew.cell? ⟨w.heap.size,0,none⟩=some (.pointer (some ⟨cb,0,none⟩))∧w3.drew.cell? ⟨cb,5,none⟩=some (.map (some ofb))∧w3.drew.cell? ⟨w2.heap.size,1,none⟩=some (.int .i64 (nd.a:Nat)):=⟨H4.o.cell 7 rfl 0 rfl,H4.o.cell 1 rfl 5 rfl,H4.o.cell 9 rfl 1 rfl⟩
  have aah:=H4.o.lt 1 rfl;obtain⟨h1,hle,m_,g5⟩:=Sat.AG (L:=[Fr,ay cb (N1 X ofb hasb bkv),mapA 3 3 X.sO X.nt (cH X.wi),jz 3 ofb no (f_ fo),jz 3 hasb nh (f_ fh),ak.row 107 1 bkv bl.length bl,ay w.heap.size (.cells #[.pointer (some ⟨cb,0,none⟩)] 99 (0,0)),ay (w.heap.size+1) (.cells #[.int .i64 (id:Nat)] 3 (0,0)),ay w2.heap.size (aD nd (.slice la nd.list.length lc))]) (t:=tO s.of nd.a) (p:=.pointer (some ⟨b6,0,none⟩)) (((H4.o.drew.pick [0,1,2,3,4,5,7,8,9,6]).hZ (P:=de h0 (tO s.of nd.a) (.pointer (some ⟨b6,0,none⟩))) λa h hl _=>bL hl _ _ XH));have H5:=qh g5;have zk:=qh hle;have yT:=qh m_;have sV:=qh (show Fine (tO s.of nd.a)∧dw (tO s.of nd.a)≤400000 from⟨Ur.o.1,nT Ur.o.2 (by omega)⟩);clear XH g5 Y0 hle m_ tw;go_wp2_with fail;go_region_held3(λw'=>w'.cell? ⟨w.heap.size,0,none⟩=some (.pointer (some ⟨cb,0,none⟩))∧w'.cell? ⟨cb,5,none⟩=some (.map (some ofb))∧w'.cell? ⟨w2.heap.size,1,none⟩=some (.int .i64 (nd.a:Nat))) (exact hS) (fail)
  all_goals
   have g6:=H5.o.pick [0,1,2,3,4,5,9,6,7,8];have Qf:=sh.o.up zk.o;have RH:=(g6.pick [0,1,2,3,4,5,6]).MS Qf;have y2:=g6.cell 7 rfl 0 rfl;have y3:=g6.cell 8 rfl 0 rfl;have x1:=g6.cell 9 rfl 1 rfl;have b_:=qh (λR=>gu (R:=R) HP.o (HF.o _ _ 0 g6 rfl) jJ.o RH uS.o HI.o.a yT.o sV.o.1.ok (b2:=w.heap.size) (b3:=w.heap.size+1) y2 y3);have H6:=qh g6;have XW:=qh Qf;clear g6 Qf RH y2 y3;cases hf:Ty.fits (tO s.of nd.a) (tO s.of nd.a)with
   |false=>
    have HG:=qh (λw'=>eH.o w' hf);rw[hf]at b_
    clear hf;go_wp2_with fail;refine b_.o _ (λh=>by cases h) (λ_ w5 dW=>?_);exact⟨rfl,HG.o w5 ((H6.o.below dW).pick [0])⟩
   |true=>
    have HG:=qh (λw'=>aY.o w' hf);rw[hf]at b_
    clear hf;go_wp2_with fail;refine b_.o _ (λ_ w5 dW=>?_) (λh=>by cases h);have g7:=H6.o.below dW;obtain⟨D,hD,mF⟩:=g7.drew.fT 4 rfl;obtain⟨w6,sg,eD,dh⟩:=hD.update dn underlying103 ZG (Maps.keyOf_int_mk underlying3 Ei) (val:=.pointer (some ⟨b6,0,none⟩)) (d:=.held (.pointer (some ⟨b6,0,none⟩))) (ps:=[]) rfl;have g8:=g7.drew.jI 4 rfl dh eD (Ψ:=f_ (λk=>if k=id then some (.pointer (some ⟨b6,0,none⟩))else fh k)) (jx mF id _);have ze:w5.drew.cell? ⟨w.heap.size,0,none⟩=some (.pointer (some ⟨cb,0,none⟩))∧w5.drew.cell? ⟨w.heap.size+1,0,none⟩=some (.int .i64 (id:Nat))∧w5.drew.cell? ⟨cb,6,none⟩=some (.map (some hasb)):=⟨g7.cell 7 rfl 0 rfl,g7.cell 8 rfl 0 rfl,g7.cell 1 rfl 6 rfl⟩
    have py:w6.cell? ⟨w.heap.size,0,none⟩=some (.pointer (some ⟨cb,0,none⟩))∧w6.cell? ⟨w.heap.size+1,0,none⟩=some (.int .i64 (id:Nat))∧w6.cell? ⟨cb,6,none⟩=some (.map (some hasb)):=⟨g8.cell 7 rfl 0 rfl,g8.cell 8 rfl 0 rfl,g8.cell 1 rfl 6 rfl⟩
    have Pb:=g7.lt 1 rfl;have El:=qh (HG.o w6 ((g8.pick [0,1,2,3,4,5,6]).jN (XW.o.vf id yT.o sV.o)));clear dW g7 g8 hD mF eD dh;go_wp2_with fail;go_region_held3(λw'=>w'.cell? ⟨w.heap.size,0,none⟩=some (.pointer (some ⟨cb,0,none⟩))∧w'.cell? ⟨w.heap.size+1,0,none⟩=some (.int .i64 (id:Nat))∧w'.cell? ⟨cb,6,none⟩=some (.map (some hasb))) (first|exact ze|exact py) (fail)
    all_goals
     go_wp2_with fail;go_end0;exact El.o
 |some tv=>
  rw[tw]at H4 aY eH
  simp only[Option.getD_some]at aY eH;have Yn:rep (ak.hp w3) tv v:=H4.o.get (i:=10) rfl λ_ ha hl=>bL hl _ _ ha
  obtain⟨b6,rfl⟩:=aP Yn;have W0:=jZ HP.o.ok HI.o.ty tw;obtain⟨h1,hle,m_,g5⟩:=Sat.AG (L:=[Fr,ay cb (N1 X ofb hasb bkv),mapA 3 3 X.sO X.nt (cH X.wi),jz 3 ofb no (f_ fo),jz 3 hasb nh (f_ fh),ak.row 107 1 bkv bl.length bl,ay w.heap.size (.cells #[.pointer (some ⟨cb,0,none⟩)] 99 (0,0)),ay (w.heap.size+1) (.cells #[.int .i64 (id:Nat)] 3 (0,0)),ay w2.heap.size (aD nd (.slice la nd.list.length lc))]) (t:=tv) (p:=.pointer (some ⟨b6,0,none⟩)) ((H4.o.pick [0,1,2,3,4,5,7,8,9,6,10]).cG (i:=10) rfl λ_ ha _ _ mS=>bL mS _ _ ha);have H5:=qh g5;have zk:=qh hle;have yT:=qh m_;have sV:=qh (show Fine tv∧dw tv≤400000 from⟨W0.1,nT W0.2 (by omega)⟩);clear Yn g5 hle m_ W0 tw;have g6:=H5.o.pick [0,1,2,3,4,5,9,6,7,8];have Qf:=sh.o.up zk.o;have RH:=(g6.pick [0,1,2,3,4,5,6]).MS Qf;have y2:=g6.cell 7 rfl 0 rfl;have y3:=g6.cell 8 rfl 0 rfl;have x1:=g6.cell 9 rfl 1 rfl;have b_:=qh (λR=>gu (R:=R) HP.o (HF.o _ _ 0 g6 rfl) jJ.o RH uS.o HI.o.a yT.o sV.o.1.ok (b2:=w.heap.size) (b3:=w.heap.size+1) y2 y3);have H6:=qh g6;have XW:=qh Qf;clear g6 Qf RH y2 y3;cases hf:Ty.fits (tO s.of nd.a) tv with
  |false=>
   have HG:=qh (λw'=>eH.o w' hf);rw[hf]at b_
   clear hf;go_wp2_with fail;refine b_.o _ (λh=>by cases h) (λ_ w5 dW=>?_);exact⟨rfl,HG.o w5 ((H6.o.below dW).pick [0])⟩
  |true=>
   have HG:=qh (λw'=>aY.o w' hf);rw[hf]at b_
   clear hf;go_wp2_with fail;refine b_.o _ (λ_ w5 dW=>?_) (λh=>by cases h);have g7:=H6.o.below dW;obtain⟨D,hD,mF⟩:=g7.drew.fT 4 rfl;obtain⟨w6,sg,eD,dh⟩:=hD.update dn underlying103 ZG (Maps.keyOf_int_mk underlying3 Ei) (val:=.pointer (some ⟨b6,0,none⟩)) (d:=.held (.pointer (some ⟨b6,0,none⟩))) (ps:=[]) rfl;have g8:=g7.drew.jI 4 rfl dh eD (Ψ:=f_ (λk=>if k=id then some (.pointer (some ⟨b6,0,none⟩))else fh k)) (jx mF id _);have ze:w5.drew.cell? ⟨w.heap.size,0,none⟩=some (.pointer (some ⟨cb,0,none⟩))∧w5.drew.cell? ⟨w.heap.size+1,0,none⟩=some (.int .i64 (id:Nat))∧w5.drew.cell? ⟨cb,6,none⟩=some (.map (some hasb)):=⟨g7.cell 7 rfl 0 rfl,g7.cell 8 rfl 0 rfl,g7.cell 1 rfl 6 rfl⟩
   have py:w6.cell? ⟨w.heap.size,0,none⟩=some (.pointer (some ⟨cb,0,none⟩))∧w6.cell? ⟨w.heap.size+1,0,none⟩=some (.int .i64 (id:Nat))∧w6.cell? ⟨cb,6,none⟩=some (.map (some hasb)):=⟨g8.cell 7 rfl 0 rfl,g8.cell 8 rfl 0 rfl,g8.cell 1 rfl 6 rfl⟩
   have Pb:=g7.lt 1 rfl;have El:=qh (HG.o w6 ((g8.pick [0,1,2,3,4,5,6]).jN (XW.o.vf id yT.o sV.o)));clear dW g7 g8 hD mF eD dh;go_wp2_with fail;go_region_held3(λw'=>w'.cell? ⟨w.heap.size,0,none⟩=some (.pointer (some ⟨cb,0,none⟩))∧w'.cell? ⟨w.heap.size+1,0,none⟩=some (.int .i64 (id:Nat))∧w'.cell? ⟨cb,6,none⟩=some (.map (some hasb))) (first|exact ze|exact py) (fail)
   all_goals
    go_wp2_with fail;go_end0;exact El.o
end
end
end Go.Proofs.YtdlbhiaceheffabGreatDoor
