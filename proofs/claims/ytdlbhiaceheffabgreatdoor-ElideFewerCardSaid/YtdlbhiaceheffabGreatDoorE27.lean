/- Walk of check: expr at all kinds; what must fit. -/
import Derived.Test.YtdlbhiaceheffabGreatDoorE25
import Derived.Test.YtdlbhiaceheffabGreatDoorE26
set_option linter.all false
set_option maxRecDepth 100000
set_option maxHeartbeats 8000000
namespace Go.Proofs.YtdlbhiaceheffabGreatDoor
open Go Go.RowKit Ty Tok Prt Tryz Proofs.Tryz
section
open Ty (Tr Ck)
section
variable {wB w:World} {cb ofb hasb:Nat} {X:Cx} {s:Ck} {h0:Prt.Hp} {pg:Ty.Pg}
theorem tY(hP:PB wB X.nv X.tv pg)(hb:Below wB.heap.size wB w){id:Nat}{nd:Nd}(hn:pg.ns[id]?=some nd)(hk:1<=nd.kind/\nd.kind<=14)(hW:CkW w cb X ofb hasb s h0)(hI:NdW pg nd)(hi:id<=100000)(bT:fD pg X.aK s id nd≠.error Ty.stuck){R:EW}
  (aH:∀t q w',fD pg X.aK s id nd=.ok t->Sat w w' [bG w,db h0 t q]->R (.returned q) w') (au:∀f w',fD pg X.aK s id nd=.error f->Below w.heap.size w w'->R (.panicked (aI f)) w'):
  Calls prog 159 #[.pointer (some ⟨cb,0,none⟩),.int .i64 (id:Nat)] w R:=by
 have h:nd.kind=1\/nd.kind=2\/nd.kind=3\/nd.kind=4\/nd.kind=5\/nd.kind=6\/nd.kind=7\/nd.kind=8\/nd.kind=9\/nd.kind=10\/nd.kind=11\/nd.kind=12\/nd.kind=13\/nd.kind=14:=by omega
 rcases h with h|h|h|h|h|h|h|h|h|h|h|h|h|h
 ·exact Pj hP hb hn h hW hI hi bT aH au
 ·exact Pv hP hb hn h hW hI hi bT aH au
 ·exact Qo hP hb hn h hW hI hi bT aH au
 ·exact O0 hP hb hn h hW hI hi bT aH au
 ·exact Pc hP hb hn h hW hI hi bT aH au
 ·exact Qg hP hb hn h hW hI hi bT aH au
 ·exact P7 hP hb hn h hW hI hi bT aH au
 ·exact Pb hP hb hn h hW hI hi bT aH au
 ·exact OW hP hb hn h hW hI hi bT aH au
 ·exact MA hP hb hn h hW hI bT aH
 ·exact LU hP hb hn h hW hI bT aH
 ·exact L1 hP hb hn h hW hI hi bT aH au
 ·exact MX hP hb hn h hW hI hi bT aH au
 ·exact Nc hP hb hn h hW hI hi bT aH au
theorem gn(hP:PB wB X.nv X.tv pg)(hb:Below wB.heap.size wB w){id:Nat}{nd:Nd}(hn:pg.ns[id]?=some nd)(hW:CkW w cb X ofb hasb s h0){a:Nat}{ta tq:Tr}{q:Value}(qO:s.of a=some ta)(ha:a<=100000)(hq:rep h0 tq q)(TE:dX tq){b2 b3:Nat}(c2:w.cell? ⟨b2,0,none⟩=some (.pointer (some ⟨cb,0,none⟩)))(c3:w.cell? ⟨b3,0,none⟩=some (.int .i64 (id:Nat))){R:EW}
  (aH:Ty.fits ta tq=true->∀w',Below w.heap.size w w'->R (.returned (.tuple #[])) w') (au:Ty.fits ta tq=false->∀w',Below w.heap.size w w'->R (.panicked (aI (9,nd.pos))) w'):
  Calls prog 248 #[.int .i64 (a:Nat),q,.pointer (some ⟨b2,0,none⟩),.pointer (some ⟨b3,0,none⟩)] w R:=by
 obtain⟨p,bu,hr⟩:=hW.fW ha qO;have ZC:=(hW.fG.of _ _ qO).1.ok;obtain⟨bp,rfl⟩:=aS hr;obtain⟨bq,rfl⟩:=aS hq;have HN:=qh (λw1(h:Below w.heap.size w w1)(ok:Bool)(R:EW)=>eC (R:=R) (b:=ok) (e:=9) hP (hb.trans (h.mono hb.size)) hn (ak h hW.c0) (nL hW.lt h.size));have sQ:=qh (yT w _ ta tq _ _ (Nat.lt_succ_self _) ZC TE (bN hW.le _ _ hr) (bN hW.le _ _ hq));have hS:w.drew.cell? ⟨b2,0,none⟩=some (.pointer (some ⟨cb,0,none⟩))/\w.drew.cell? ⟨b3,0,none⟩=some (.int .i64 (id:Nat))/\w.drew.cell? ⟨cb,5,none⟩=some (.map (some ofb))/\(Instr.lookup 103 (.map (some ofb)) (.int .i64 (a:Nat)) false).run prog w.drew=.ok (.pointer (some ⟨bp,0,none⟩)) w.drew:=⟨c2,c3,hW.c5,bu _ (Below.drew (bR _ _))⟩
 have mU:=qh (λw5(h:Below w.drew.heap.size w.drew w5)=>And.intro (ak h hS.1) (And.intro (ak h hS.2.1) (And.intro (ak h hS.2.2.1) (bu w5 ((Below.drew (bR _ _)).trans h)))));have Uq:=qh (Below.drew (bR w.heap.size w));have gh:=hW.lt;have aX:=qh aH;have eB:=qh au;clear hP hb hn hW qO hq TE aH au bu hr ZC c2 c3;generalize Ty.fits ta tq=f at*
 go_in;cases f with
 |true=>
  have HG:=qh (aX.o rfl);go_wp2_with fail;go_region_held3(λw'=>w'.cell? ⟨b2,0,none⟩=some (.pointer (some ⟨cb,0,none⟩))/\w'.cell? ⟨b3,0,none⟩=some (.int .i64 (id:Nat))/\w'.cell? ⟨cb,5,none⟩=some (.map (some ofb))/\(Instr.lookup 103 (.map (some ofb)) (.int .i64 (a:Nat)) false).run prog w'=.ok (.pointer (some ⟨bp,0,none⟩)) w') (first|exact hS|exact ik)
   (first
    |(go_at_call 249;refine sQ.o _ Uq.o _ (λw5 dM=>?_);have ik:=mU.o w5 dM;have kt:=qh (Uq.o.trans dM);clear dM)
    |(go_at_call 160;refine HN.o _ kt.o _ _ (λ_=>?_) (λh=>by cases h)))
  all_goals
   go_wp2_with fail;go_end0;exact HG.o _ kt.o
 |false=>
  have HG:=qh (eB.o rfl);go_wp2_with fail
  go_region_held (λw'=>w'.cell? ⟨b2,0,none⟩=some (.pointer (some ⟨cb,0,none⟩))/\w'.cell? ⟨b3,0,none⟩=some (.int .i64 (id:Nat))/\w'.cell? ⟨cb,5,none⟩=some (.map (some ofb))/\(Instr.lookup 103 (.map (some ofb)) (.int .i64 (a:Nat)) false).run prog w'=.ok (.pointer (some ⟨bp,0,none⟩)) w') (first|exact hS|exact ik)
   (first
    |(go_at_call 249;refine sQ.o _ Uq.o _ (λw5 dM=>?_);have ik:=mU.o w5 dM;have kt:=qh (Uq.o.trans dM);clear dM)
    |(go_at_call 160;refine HN.o _ kt.o _ _ (λe_=>?_) (λ_ w' ff=>⟨rfl,HG.o w' (kt.o.trans (ff.mono kt.o.size))⟩)))
  all_goals exact absurd e_ (by decide)
end
def Rh(w:World)(cb:Nat)(bk:List (Option Tr))(h0:Prt.Hp):Prop:=∃(v:Value)(bl:List Value),w.cell? ⟨cb,7,none⟩=some v/\w.ownsRow 0 107 1 v bl.length bl/\bl.length=bk.length/\bk.length<=1000000/\∀i(h:i<bk.length)(h2:i<bl.length),match bk[i]with
 |none=>bl[i]=.pointer none
 |some t=>rep h0 t bl[i]/\dX t
theorem oD{pg:Ty.Pg}{tf:Nat->Nat}{bk:List (Option Tr)}{s:Ck}{n:Nat}{x:Nd}(h:im pg tf bk n x s≠.error Ty.stuck):fB s.of (dz x)=true/\im pg tf bk n x s=o0 pg tf bk n x s:=by
 by_cases hk:fB s.of (dz x)=true
 ·exact⟨hk,by unfold im;rw[if_pos hk]⟩
 ·unfold im at h;rw[if_neg hk]at h
  exact absurd rfl h
theorem pV{b:Bool}{e p:Nat}{s:Ck}(h:b=true):ib b e p s=.ok s:=by unfold ib;rw[if_pos h]
theorem pQ{b:Bool}{e p:Nat}{s:Ck}(h:b=false):ib b e p s=.error (e,p):=by unfold ib;rw[h];rfl
theorem CkW.up{w:World}{cb ofb hasb:Nat}{X:Cx}{s:Ck}{h0:Prt.Hp}(h:CkW w cb X ofb hasb s h0):CkW w cb X ofb hasb s (Prt.hp w):=by
 obtain⟨n2,D2,f2,k2,k3,k4⟩:=h.of;obtain⟨n3,D3,f3,l2,l3,l4⟩:=h.has;exact⟨h.lt,Prt.le_refl _,h.c0,h.c1,h.c3,h.c5,h.c6,h.Vq,⟨n2,D2,f2,k2,k3,λn t e=>by obtain⟨p,a,b⟩:=k4 n t e;exact⟨p,a,bN h.le _ _ b⟩⟩,⟨n3,D3,f3,l2,l3,λn t e=>by obtain⟨p,a,b⟩:=l4 n t e;exact⟨p,a,bN h.le _ _ b⟩⟩,h.fG,h.wi⟩
theorem SE{u:Tr}(e:none=some u){F:FuncId}{args:Array Value}{w:World}{R:EW}(_:∀w',R (.returned (.tuple #[])) w'):Calls prog F args w R:=nomatch e
def Fs(h0:Prt.Hp):As:=λh=>Prt.le h0 h
def Ho(cb:Nat)(X:Cx)(ofb hasb:Nat)(bkv:Value)(no nh:Nat)(fo fh:Nat->Option Value)(bl:List Value)(h0:Prt.Hp):List As:=
 [av cb (MI X ofb hasb bkv),mapA 3 3 X.nV X.nt (cF X.wi),jk 3 ofb no (gd fo),jk 3 hasb nh (gd fh),Prt.row 107 1 bkv bl.length bl,Fs h0]
structure CkI(X:Cx)(c:Nat)(s:Ck)(bk:List (Option Tr))(no nh:Nat)(fo fh:Nat->Option Value)(bl:List Value)(h0:Prt.Hp):Prop where
 no:no<=c
 nh:nh<=c
 fo:∀n,(s.of n=none->fo n=none)/\∀t,s.of n=some t->∃p,fo n=some p/\rep h0 t p
 fh:∀n t,s.has n=some t->∃p,fh n=some p/\rep h0 t p
 len:bl.length=bk.length
 bl:∀i(h:i<bk.length)(h2:i<bl.length),match bk[i]with
  |none=>bl[i]=.pointer none
  |some t=>rep h0 t bl[i]/\dX t
 mQ:bk.length<=c
 fG:FineS s
 wi:RI X.wi
def mf(cb:Nat)(X:Cx)(c:Nat)(s:Ck)(bk:List (Option Tr)):As:=λh=>∃ofb hasb bkv no nh fo fh bl h0,CkI X c s bk no nh fo fh bl h0/\ah (Ho cb X ofb hasb bkv no nh fo fh bl h0) h
section
variable {wB w:World} {Fr:As} {cb:Nat} {X:Cx} {c:Nat} {s:Ck} {bk:List (Option Tr)}
theorem Prt.Sat.eJ(h:Sat wB w [Fr,mf cb X c s bk]):∃ofb hasb bkv no nh fo fh bl h0,CkI X c s bk no nh fo fh bl h0/\Sat wB w (Fr::Ho cb X ofb hasb bkv no nh fo fh bl h0):=by
 obtain⟨⟨ofb,hasb,bkv,no,nh,fo,fh,bl,h0⟩,h1⟩:=(h.cL (i:=1) rfl (Q:=cm λ(q:Nat×Nat×Value×Nat×Nat×(Nat->Option Value)×(Nat->Option Value)×List Value×Prt.Hp)=>ah [bX (CkI X c s bk q.2.2.2.1 q.2.2.2.2.1 q.2.2.2.2.2.1 q.2.2.2.2.2.2.1 q.2.2.2.2.2.2.2.1 q.2.2.2.2.2.2.2.2),ah (Ho cb X q.1 q.2.1 q.2.2.1 q.2.2.2.1 q.2.2.2.2.1 q.2.2.2.2.2.1 q.2.2.2.2.2.2.1 q.2.2.2.2.2.2.2.1 q.2.2.2.2.2.2.2.2)]) λa ha=>by
  obtain⟨ofb,hasb,bkv,no,nh,fo,fh,bl,h0,g1,g2⟩:=ha;exact⟨(ofb,hasb,bkv,no,nh,fo,fh,bl,h0),λ_=>none,a,λ_=>.inl rfl,λ_ _ e=>(by cases e),Prt.le_refl _,g1,a,λ_=>none,λ_=>.inr rfl,Prt.le_refl _,λ_ _ e=>(by cases e),g2,trivial⟩).ex (i:=1) rfl
 have h2:=h1.unpack (i:=1) rfl;have hi:=h2.get (i:=1) rfl λ_ ha _=>ha
 exact⟨ofb,hasb,bkv,no,nh,fo,fh,bl,h0,hi,(h2.pick [0,2]).unpack (i:=1) rfl⟩
theorem Prt.Sat.jF{ofb hasb:Nat}{bkv:Value}{no nh:Nat}{fo fh:Nat->Option Value}{bl:List Value}{h0:Prt.Hp}(hi:CkI X c s bk no nh fo fh bl h0)(h:Sat wB w (Fr::Ho cb X ofb hasb bkv no nh fo fh bl h0)):Sat wB w [Fr,mf cb X c s bk]:=
 (Sat.pack (L:=[Fr]) h).cL (i:=1) rfl λ_ ha=>⟨ofb,hasb,bkv,no,nh,fo,fh,bl,h0,hi,ha⟩
theorem CkI.mono{no nh:Nat}{fo fh:Nat->Option Value}{bl:List Value}{h0:Prt.Hp}(h:CkI X c s bk no nh fo fh bl h0){d:Nat}(hd:c<=d):CkI X d s bk no nh fo fh bl h0:={h with no:=nT h.no hd,nh:=nT h.nh hd,mQ:=nT h.mQ hd}
theorem Prt.Sat.uT(h:Sat wB w [Fr,mf cb X c s bk]){d:Nat}(hd:c<=d):Sat wB w [Fr,mf cb X d s bk]:=by
 obtain⟨ofb,hasb,bkv,no,nh,fo,fh,bl,h0,hi,h2⟩:=h.eJ;exact h2.jF (hi.mono hd)
theorem Prt.Sat.NC{ofb hasb:Nat}{bkv:Value}{no nh:Nat}{fo fh:Nat->Option Value}{bl:List Value}{h0:Prt.Hp}(hi:CkI X c s bk no nh fo fh bl h0)(h:Sat wB w (Fr::Ho cb X ofb hasb bkv no nh fo fh bl h0)):CkW w cb X ofb hasb s h0:=by
 obtain⟨D1,g1,g2⟩:=h.fi 2 rfl;obtain⟨D2,k1,k2⟩:=h.fV 3 rfl;obtain⟨D3,l1,l2⟩:=h.fV 4 rfl;exact⟨h.lt 1 rfl,h.get (i:=6) rfl λa ha hl=>Prt.le_trans ha hl,h.cell 1 rfl 0 rfl,h.cell 1 rfl 1 rfl,h.cell 1 rfl 3 rfl,h.cell 1 rfl 5 rfl,h.cell 1 rfl 6 rfl,⟨_,D1,g1,g2⟩,⟨_,D2,fo,k1,k2,λn t e=>(hi.fo n).2 t e⟩,⟨_,D3,fh,l1,l2,hi.fh⟩,hi.fG,hi.wi⟩
theorem Prt.Sat.aca{ofb hasb:Nat}{bkv:Value}{no nh:Nat}{fo fh:Nat->Option Value}{bl:List Value}{h0:Prt.Hp}(hi:CkI X c s bk no nh fo fh bl h0)(hc:c<=1000000)(h:Sat wB w (Fr::Ho cb X ofb hasb bkv no nh fo fh bl h0)):Rh w cb bk h0:=
 ⟨bkv,bl,h.cell 1 rfl 7 rfl,h.row 5 rfl,hi.len,nT hi.mQ hc,hi.bl⟩
end
theorem Prt.Sat.Av{w0 w:World}{L:List As}{h0:Prt.Hp}{t:Tr}{p:Value}(h:Sat w0 w (L++[Fs h0,db h0 t p])):∃h1,Prt.le h0 h1/\rep h1 t p/\Sat w0 w (L++[Fs h1]):=by
 obtain⟨a,b,d1,d2,d3,d4,d5⟩:=jz h.mem;obtain⟨x,y,_,hx,hy,g1,z,u,_,hz,_,g2,_⟩:=d5;refine⟨b,Prt.le_trans g1 hx,g2 b (Prt.le_trans g1 hx) (Prt.le_trans hz hy),h.os,h.tape,h.output,?_⟩;exact eM d4 (b:=b) ⟨b,λ_=>none,λ_=>.inr rfl,Prt.le_refl _,λ_ _ e=>(by cases e),Prt.le_refl _,trivial⟩ d1 d2 d3
section
variable {X:Cx} {c:Nat} {s:Ck} {bk:List (Option Tr)} {no nh:Nat} {fo fh:Nat->Option Value} {bl:List Value} {h0 h1:Prt.Hp}
theorem CkI.up(h:CkI X c s bk no nh fo fh bl h0)(hl:Prt.le h0 h1):CkI X c s bk no nh fo fh bl h1:=
 ⟨h.no,h.nh,λn=>⟨(h.fo n).1,λt e=>by obtain⟨p,a,b⟩:=(h.fo n).2 t e;exact⟨p,a,bN hl _ _ b⟩⟩,λn t e=>by obtain⟨p,a,b⟩:=h.fh n t e;exact⟨p,a,bN hl _ _ b⟩,h.len,λi hi h2=>by
  have:=h.bl i hi h2;revert this;cases bk[i]with
  |none=>exact λh=>h
  |some t=>exact λh=>⟨bN hl _ _ h.1,h.2⟩,h.mQ,h.fG,h.wi⟩
theorem CkI.tT(h:CkI X c s bk no nh fo fh bl h0)(n:Nat){t:Tr}{p:Value}(hr:rep h0 t p)(hf:Fine t/\dS t<=400000):CkI X (c+1) {s with has:=eI s.has n t} bk no (nh+1) fo (λk=>if k=n then some p else fh k) bl h0:=
 ⟨Nat.le_succ_of_le h.no,Nat.succ_le_succ h.nh,h.fo,λm u e=>by
  simp only[eI]at e;by_cases hm:m=n
  ·rw[if_pos hm]at e;cases e;exact⟨p,by rw[if_pos hm],hr⟩
  ·rw[if_neg hm]at e;obtain⟨q,a,b⟩:=h.fh m u e;exact⟨q,by rw[if_neg hm];exact a,b⟩,h.len,h.bl,Nat.le_succ_of_le h.mQ,h.fG.xR n hf,h.wi⟩
theorem CkI.Ox(h:CkI X c s bk no nh fo fh bl h0)(n:Nat){t:Tr}{p:Value}(hr:rep h0 t p)(hf:Fine t/\dS t<=300):CkI X (c+1) {s with of:=eI s.of n t} bk (no+1) nh (λk=>if k=n then some p else fo k) fh bl h0:=
 ⟨Nat.succ_le_succ h.no,Nat.le_succ_of_le h.nh,λm=>by
  simp only[eI];by_cases hm:m=n
  ·rw[if_pos hm,if_pos hm];exact⟨λe=>(by cases e),λu e=>by cases e;exact⟨p,rfl,hr⟩⟩
  ·rw[if_neg hm,if_neg hm];exact h.fo m,h.fh,h.len,h.bl,Nat.le_succ_of_le h.mQ,h.fG.setOf n hf,h.wi⟩
end
section
variable {wB w:World} {cb:Nat} {X:Cx} {c:Nat} {s:Ck} {pg:Ty.Pg} {bk:List (Option Tr)} {Fr:As}
theorem Me(hP:PB wB X.nv X.tv pg)(hF:gR wB Fr){id:Nat}{nd:Nd}(hn:pg.ns[id]?=some nd)(hk:nd.kind=17)(H:Sat wB w [Fr,mf cb X c s bk])(hc:c+1<=100000)(hI:NdW pg nd)(hi:id<=100000)(bT:im pg X.aK bk id nd s≠.error Ty.stuck){R:EW}
  (aH:∀s' w',im pg X.aK bk id nd s=.ok s'->Sat wB w' [Fr,mf cb X (c+1) s' bk]->R (.returned (.tuple #[])) w') (au:∀f w',im pg X.aK bk id nd s=.error f->Sat wB w' [Fr]->R (.panicked (aI f)) w'):
  Calls prog 162 #[.pointer (some ⟨cb,0,none⟩),.int .i64 (id:Nat)] w R:=by
 obtain⟨ofb,hasb,bkv,no,nh,fo,fh,bl,h0,jW,g1⟩:=H.eJ;have hW:=g1.NC jW;have hb:=hF w _ 0 g1 rfl;obtain⟨ct,hex⟩:=oD bT;have kI:dz nd=[nd.a]:=by unfold dz;simp[hk]
 rw[kI]at ct
 have qO:=cn ct (n:=nd.a) (by simp);have hx:im pg X.aK bk id nd s=Ty.aN (ib (Ty.fits (tO s.of nd.a) ((dZ pg.ts nd.ty).getD (tO s.of nd.a))) 9 nd.pos s) λs=>.ok {s with has:=eI s.has id ((dZ pg.ts nd.ty).getD (tO s.of nd.a))}:=by rw[hex];unfold o0;simp only[hk];rfl
 have aX:=qh (λw'(h:Ty.fits (tO s.of nd.a) ((dZ pg.ts nd.ty).getD (tO s.of nd.a))=true)=>aH _ w' (by rw[hx,pV h];rfl));have eB:=qh (λw'(h:Ty.fits (tO s.of nd.a) ((dZ pg.ts nd.ty).getD (tO s.of nd.a))=false)=>au (9,nd.pos) w' (by rw[hx,pQ h];rfl));have HP:=qh hP;have HF:=qh hF;have gZ:=qh hn;have HI:=qh hI;have sr:=qh jW;have tU:=qh qO;have UM:=qh (hW.fG.of _ _ qO);have EJ:=zn id hi;have YD:nh<maxLen:=by have:=jW.nh;unfold maxLen;omega
 have Ii:∀(fn:Fn)(first cap:Array Value)(w:World),(Instr.makeFunc fn first cap).run prog w=.ok (.func fn first cap) w:=λ_ _ _ _=>rfl
 have g2:=(g1.aj (.cells #[.pointer (some ⟨cb,0,none⟩)] 99) w.heap.size).aj (.cells #[.int .i64 (id:Nat)] 3) (w.heap.size+1) (by simp);have dO:=qh (λR=>aQ (R:=R) hP (hF _ _ 0 g2 rfl) hn (g2.cell 1 rfl 0 rfl) (g2.lt 1 rfl));have H2:=qh g2;have zv: (((nd.kind:Nat):Int)==17)=true:=by rw[hk];rfl
 clear aH au hP hF hn hk H hI jW bT ct hex hx kI qO g1 g2 hW hb hi;go_in;go_wp2_with fail;refine dO.o _ (λlv w2 aD hl=>?_);obtain⟨la,lc,rfl⟩:=ag hl;unfold aG;have g3:=(H2.o.below aD).aj (az nd (.slice la nd.list.length lc)) w2.heap.size;have y2:=g3.cell 7 rfl 0 rfl;have y3:=g3.cell 8 rfl 0 rfl;have x0:=g3.cell 9 rfl 0 rfl;have x1:=g3.cell 9 rfl 1 rfl;have x7:=g3.cell 9 rfl 7 rfl;have H3:=qh g3;clear aD hl g3;go_wp2_with fail;refine gT HP.o (HF.o _ _ 0 H3.o rfl) (H3.o.cell 1 rfl 1 rfl) (H3.o.lt 1 rfl) HI.o.ty (λv w3 h3=>?_);have g4:=H3.o.join h3;have H4:=qh g4;clear h3 g4 x0 x1 x7 y2 y3;cases tu:dZ pg.ts nd.ty with
 |none=>
  rw[tu]at H4 aX eB
  simp only[Option.getD_none]at aX eB;have hv:v=.pointer none:=H4.o.get (i:=10) rfl λ_ ha _=>ha
  subst hv;have YG:=(H4.o.pick [0,1,2,3,4,5,6]).NC sr.o;obtain⟨p6,bu,Xs⟩:=YG.drew.Gb HI.o.a tU.o;obtain⟨b6,rfl⟩:=aS Xs;have hS:w3.drew.cell? ⟨w.heap.size,0,none⟩=some (.pointer (some ⟨cb,0,none⟩))/\w3.drew.cell? ⟨cb,5,none⟩=some (.map (some ofb))/\w3.drew.cell? ⟨w2.heap.size,1,none⟩=some (.int .i64 (nd.a:Nat)):=⟨H4.o.cell 7 rfl 0 rfl,H4.o.cell 1 rfl 5 rfl,H4.o.cell 9 rfl 1 rfl⟩
  have abB:=H4.o.lt 1 rfl;obtain⟨h1,hle,oz,g5⟩:=Sat.Av (L:=[Fr,av cb (MI X ofb hasb bkv),mapA 3 3 X.nV X.nt (cF X.wi),jk 3 ofb no (gd fo),jk 3 hasb nh (gd fh),Prt.row 107 1 bkv bl.length bl,av w.heap.size (.cells #[.pointer (some ⟨cb,0,none⟩)] 99 (0,0)),av (w.heap.size+1) (.cells #[.int .i64 (id:Nat)] 3 (0,0)),av w2.heap.size (az nd (.slice la nd.list.length lc))]) (t:=tO s.of nd.a) (p:=.pointer (some ⟨b6,0,none⟩)) (((H4.o.drew.pick [0,1,2,3,4,5,7,8,9,6]).iA (P:=db h0 (tO s.of nd.a) (.pointer (some ⟨b6,0,none⟩))) λa h hl _=>bN hl _ _ Xs));have H5:=qh g5;have zl:=qh hle;have Bh:=qh oz;have sQ:=qh (show Fine (tO s.of nd.a)/\dS (tO s.of nd.a)<=400000 from⟨UM.o.1,nT UM.o.2 (by omega)⟩);clear Xs g5 YG hle oz tu;go_wp2_with fail;go_region_held3(λw'=>w'.cell? ⟨w.heap.size,0,none⟩=some (.pointer (some ⟨cb,0,none⟩))/\w'.cell? ⟨cb,5,none⟩=some (.map (some ofb))/\w'.cell? ⟨w2.heap.size,1,none⟩=some (.int .i64 (nd.a:Nat))) (exact hS) (fail)
  all_goals
   have g6:=H5.o.pick [0,1,2,3,4,5,9,6,7,8];have QJ:=sr.o.up zl.o;have R6:=(g6.pick [0,1,2,3,4,5,6]).NC QJ;have y2:=g6.cell 7 rfl 0 rfl;have y3:=g6.cell 8 rfl 0 rfl;have x1:=g6.cell 9 rfl 1 rfl;have b_:=qh (λR=>gn (R:=R) HP.o (HF.o _ _ 0 g6 rfl) gZ.o R6 tU.o HI.o.a Bh.o sQ.o.1.ok (b2:=w.heap.size) (b3:=w.heap.size+1) y2 y3);have H6:=qh g6;have Wj:=qh QJ;clear g6 QJ R6 y2 y3;cases hf:Ty.fits (tO s.of nd.a) (tO s.of nd.a)with
   |false=>
    have HG:=qh (λw'=>eB.o w' hf);rw[hf]at b_
    clear hf;go_wp2_with fail;refine b_.o _ (λh=>by cases h) (λ_ w5 dM=>?_);exact⟨rfl,HG.o w5 ((H6.o.below dM).pick [0])⟩
   |true=>
    have HG:=qh (λw'=>aX.o w' hf);rw[hf]at b_
    clear hf;go_wp2_with fail;refine b_.o _ (λ_ w5 dM=>?_) (λh=>by cases h);have g7:=H6.o.below dM;obtain⟨D,hD,mg⟩:=g7.drew.fV 4 rfl;obtain⟨w6,sk,fC,dQ⟩:=hD.update cy underlying103 YD (Maps.keyOf_int_mk underlying3 EJ) (val:=.pointer (some ⟨b6,0,none⟩)) (d:=.held (.pointer (some ⟨b6,0,none⟩))) (ps:=[]) rfl;have g8:=g7.drew.jq 4 rfl dQ fC (Ψ:=gd (λk=>if k=id then some (.pointer (some ⟨b6,0,none⟩))else fh k)) (jt mg id _);have KU:w5.drew.cell? ⟨w.heap.size,0,none⟩=some (.pointer (some ⟨cb,0,none⟩))/\w5.drew.cell? ⟨w.heap.size+1,0,none⟩=some (.int .i64 (id:Nat))/\w5.drew.cell? ⟨cb,6,none⟩=some (.map (some hasb)):=⟨g7.cell 7 rfl 0 rfl,g7.cell 8 rfl 0 rfl,g7.cell 1 rfl 6 rfl⟩
    have sB:w6.cell? ⟨w.heap.size,0,none⟩=some (.pointer (some ⟨cb,0,none⟩))/\w6.cell? ⟨w.heap.size+1,0,none⟩=some (.int .i64 (id:Nat))/\w6.cell? ⟨cb,6,none⟩=some (.map (some hasb)):=⟨g8.cell 7 rfl 0 rfl,g8.cell 8 rfl 0 rfl,g8.cell 1 rfl 6 rfl⟩
    have Qi:=g7.lt 1 rfl;have AV:=qh (HG.o w6 ((g8.pick [0,1,2,3,4,5,6]).jF (Wj.o.tT id Bh.o sQ.o)));clear dM g7 g8 hD mg fC dQ;go_wp2_with fail;go_region_held3(λw'=>w'.cell? ⟨w.heap.size,0,none⟩=some (.pointer (some ⟨cb,0,none⟩))/\w'.cell? ⟨w.heap.size+1,0,none⟩=some (.int .i64 (id:Nat))/\w'.cell? ⟨cb,6,none⟩=some (.map (some hasb))) (first|exact KU|exact sB) (fail)
    all_goals
     go_wp2_with fail;go_end0;exact AV.o
 |some tv=>
  rw[tu]at H4 aX eB
  simp only[Option.getD_some]at aX eB;have Ya:rep (Prt.hp w3) tv v:=H4.o.get (i:=10) rfl λ_ ha hl=>bN hl _ _ ha
  obtain⟨b6,rfl⟩:=aS Ya;have Wb:=jP HP.o.ok HI.o.ty tu;obtain⟨h1,hle,oz,g5⟩:=Sat.Av (L:=[Fr,av cb (MI X ofb hasb bkv),mapA 3 3 X.nV X.nt (cF X.wi),jk 3 ofb no (gd fo),jk 3 hasb nh (gd fh),Prt.row 107 1 bkv bl.length bl,av w.heap.size (.cells #[.pointer (some ⟨cb,0,none⟩)] 99 (0,0)),av (w.heap.size+1) (.cells #[.int .i64 (id:Nat)] 3 (0,0)),av w2.heap.size (az nd (.slice la nd.list.length lc))]) (t:=tv) (p:=.pointer (some ⟨b6,0,none⟩)) ((H4.o.pick [0,1,2,3,4,5,7,8,9,6,10]).cL (i:=10) rfl λ_ ha _ _ mI=>bN mI _ _ ha);have H5:=qh g5;have zl:=qh hle;have Bh:=qh oz;have sQ:=qh (show Fine tv/\dS tv<=400000 from⟨Wb.1,nT Wb.2 (by omega)⟩);clear Ya g5 hle oz Wb tu;have g6:=H5.o.pick [0,1,2,3,4,5,9,6,7,8];have QJ:=sr.o.up zl.o;have R6:=(g6.pick [0,1,2,3,4,5,6]).NC QJ;have y2:=g6.cell 7 rfl 0 rfl;have y3:=g6.cell 8 rfl 0 rfl;have x1:=g6.cell 9 rfl 1 rfl;have b_:=qh (λR=>gn (R:=R) HP.o (HF.o _ _ 0 g6 rfl) gZ.o R6 tU.o HI.o.a Bh.o sQ.o.1.ok (b2:=w.heap.size) (b3:=w.heap.size+1) y2 y3);have H6:=qh g6;have Wj:=qh QJ;clear g6 QJ R6 y2 y3;cases hf:Ty.fits (tO s.of nd.a) tv with
  |false=>
   have HG:=qh (λw'=>eB.o w' hf);rw[hf]at b_
   clear hf;go_wp2_with fail;refine b_.o _ (λh=>by cases h) (λ_ w5 dM=>?_);exact⟨rfl,HG.o w5 ((H6.o.below dM).pick [0])⟩
  |true=>
   have HG:=qh (λw'=>aX.o w' hf);rw[hf]at b_
   clear hf;go_wp2_with fail;refine b_.o _ (λ_ w5 dM=>?_) (λh=>by cases h);have g7:=H6.o.below dM;obtain⟨D,hD,mg⟩:=g7.drew.fV 4 rfl;obtain⟨w6,sk,fC,dQ⟩:=hD.update cy underlying103 YD (Maps.keyOf_int_mk underlying3 EJ) (val:=.pointer (some ⟨b6,0,none⟩)) (d:=.held (.pointer (some ⟨b6,0,none⟩))) (ps:=[]) rfl;have g8:=g7.drew.jq 4 rfl dQ fC (Ψ:=gd (λk=>if k=id then some (.pointer (some ⟨b6,0,none⟩))else fh k)) (jt mg id _);have KU:w5.drew.cell? ⟨w.heap.size,0,none⟩=some (.pointer (some ⟨cb,0,none⟩))/\w5.drew.cell? ⟨w.heap.size+1,0,none⟩=some (.int .i64 (id:Nat))/\w5.drew.cell? ⟨cb,6,none⟩=some (.map (some hasb)):=⟨g7.cell 7 rfl 0 rfl,g7.cell 8 rfl 0 rfl,g7.cell 1 rfl 6 rfl⟩
   have sB:w6.cell? ⟨w.heap.size,0,none⟩=some (.pointer (some ⟨cb,0,none⟩))/\w6.cell? ⟨w.heap.size+1,0,none⟩=some (.int .i64 (id:Nat))/\w6.cell? ⟨cb,6,none⟩=some (.map (some hasb)):=⟨g8.cell 7 rfl 0 rfl,g8.cell 8 rfl 0 rfl,g8.cell 1 rfl 6 rfl⟩
   have Qi:=g7.lt 1 rfl;have AV:=qh (HG.o w6 ((g8.pick [0,1,2,3,4,5,6]).jF (Wj.o.tT id Bh.o sQ.o)));clear dM g7 g8 hD mg fC dQ;go_wp2_with fail;go_region_held3(λw'=>w'.cell? ⟨w.heap.size,0,none⟩=some (.pointer (some ⟨cb,0,none⟩))/\w'.cell? ⟨w.heap.size+1,0,none⟩=some (.int .i64 (id:Nat))/\w'.cell? ⟨cb,6,none⟩=some (.map (some hasb))) (first|exact KU|exact sB) (fail)
   all_goals
    go_wp2_with fail;go_end0;exact AV.o
end
end
end Go.Proofs.YtdlbhiaceheffabGreatDoor
