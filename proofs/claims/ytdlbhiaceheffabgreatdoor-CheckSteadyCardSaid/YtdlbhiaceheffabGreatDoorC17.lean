/- Walks of show.writer's exprs, object. -/
import Derived.Lib.AppendIntMem
import Derived.Test.YtdlbhiaceheffabGreatDoorC16
set_option linter.all false
set_option maxRecDepth 100000
set_option maxHeartbeats 4000000
namespace Go.Proofs.YtdlbhiaceheffabGreatDoor
open Go Go.RowKit Ty Tok Prt Tryz Proofs.Tryz
namespace Ty
theorem dS.len{ns:List Nd}:∀{l:List Ex}{nl:List Nat},dS ns l nl->nl.length=l.length
 |[],_,h=>by rw[dS]at h;rw[h];rfl
 |e::l,_,h=>by rw[dS]at h;obtain⟨n,t,rfl,_,h2⟩:=h;simp[h2.len]
theorem dS.get{ns:List Nd}:∀{l:List Ex}{nl:List Nat},dS ns l nl->∀k(h1:k<l.length)(h2:k<nl.length),aG ns l[k] nl[k]
 |[],_,_,k,h1,_=>by simp at h1
 |e::l,_,h,k,h1,h2=>by
  rw[dS]at h
  obtain⟨n,t,rfl,h3,h4⟩:=h;cases k with
  |zero=>exact h3
  |succ k=>exact h4.get k (by simpa using h1) (by simpa using h2)
theorem Aa(ts:List Ty)(ind:Nat):∀l:List Ex,um ts ind l=l.map (wE ts ind)
 |[]=>by rw[um];rfl
 |e::l=>by rw[um,Aa ts ind l];rfl
theorem Hy:∀{l:List Ex}{e:Ex},e∈l->aw e<=eD l
 |[],_,h=>by simp at h
 |a::l,e,h=>by
  rw[eD];rcases List.mem_cons.1 h with rfl|h
  ·omega
  ·have:=Hy h;omega
theorem Cu:∀l:List Ex,l.length<=eD l
 |[]=>by simp
 |e::l=>by
  have:=Cu l;have h1:1<=aw e:=by cases e<;>simp[aw]<;>omega
  rw[eD];simp;omega
structure DenO(ns:List Nd)(o:Nat×BA×Ex)(n a:Nat):Prop where
 nd:ns[n]?=some {af 15 o.1 with text:=o.2.1,a:=a}
 den:aG ns o.2.2 a
theorem eA.len{ns:List Nd}:∀{l:List (Nat×BA×Ex)}{nl:List Nat},eA ns l nl->nl.length=l.length
 |[],_,h=>by rw[eA]at h;rw[h];rfl
 |(p,x,e)::l,_,h=>by rw[eA]at h;obtain⟨n,a,t,rfl,_,_,h2⟩:=h;simp[h2.len]
theorem eA.get{ns:List Nd}:∀{l:List (Nat×BA×Ex)}{nl:List Nat},eA ns l nl->∀k(h1:k<l.length)(h2:k<nl.length),∃a,DenO ns l[k] nl[k] a
 |[],_,_,k,h1,_=>by simp at h1
 |(p,x,e)::l,_,h,k,h1,h2=>by
  rw[eA]at h
  obtain⟨n,a,t,rfl,h3,h4,h5⟩:=h;cases k with
  |zero=>exact⟨a,h3,h4⟩
  |succ k=>exact h5.get k (by simpa using h1) (by simpa using h2)
theorem Ao(ts:List Ty)(ind:Nat):∀l:List (Nat×BA×Ex),xB ts ind l=l.map λo=>o.2.1.data.toList++[58,32]++wE ts ind o.2.2
 |[]=>by rw[xB];rfl
 |(p,x,e)::l=>by rw[xB,Ao ts ind l];rfl
theorem Hj:∀{l:List (Nat×BA×Ex)}{o:Nat×BA×Ex},o∈l->aw o.2.2<=fu l
 |[],_,h=>by simp at h
 |(p,x,e)::l,o,h=>by
  rw[fu];rcases List.mem_cons.1 h with rfl|h
  ·dsimp only;omega
  ·have:=Hj h;omega
theorem Cm:∀l:List (Nat×BA×Ex),l.length<=fu l
 |[]=>by simp
 |(p,x,e)::l=>by
  have:=Cm l;rw[fu];simp;omega
end Ty
section
variable {wB w:World} {Fr:As} {wb:Nat} {nv tv:Value} {pg:Ty.Pg} {main:Int} {ind:Nat} {out:List UInt8}
theorem Fl{e:Ty.Ex}(hE:qK wB nv tv pg wb main e){n:Nat}(hd:aG pg.ns e n)(hF:ju wB Fr){bw:Nat}(H:Sat wB w [aq [Fr,ax bw (.cells #[.pointer (some ⟨wb,0,none⟩)] 70 (0,0))],gu wb nv tv main ind out])
  (dU:ind+Ty.aw e<=1300) (hlen:out.length+(wE pg.ts ind e).length<=900000000) {R:EW}
  (hR:∀w',Sat wB w' [aq [Fr,ax bw (.cells #[.pointer (some ⟨wb,0,none⟩)] 70 (0,0))],gu wb nv tv main ind (out++wE pg.ts ind e)]->R (.returned (.tuple #[])) w'):
  Calls prog 272 #[.int .i64 (n:Nat),.pointer (some ⟨bw,0,none⟩)] w R:=by
 have h1:=H.bA;have c0:=h1.cell 2 0;have hx:=hE n hd 0 ind out w _ (hF.aq (M:=[ax bw (.cells #[.pointer (some ⟨wb,0,none⟩)] 70 (0,0))])) H (by omega) dU (by rw[gw];exact hlen);rw[gw]at hx
 go_in;go_wp2_with fail;refine hx _ (λw1 h1=>?_);have H1:=qh h1;go_wp2;go_end0;exact hR _ H1.o
theorem xo{l:List Ty.Ex}(hE:∀e∈l,qK wB nv tv pg wb main e){nl:List Nat}(hd:dS pg.ns l nl)(lv:Value)(hl:wB.ownsRow 0 3 1 lv nl.length (nl.map aQ))(hF:ju wB Fr)(H:Sat wB w [Fr,gu wb nv tv main ind out])
  (dU:ind+Ty.eD l<=1300) (hlen:out.length+(cr [44,32] (um pg.ts ind l)).length<=900000000) {R:EW}
  (hR:∀w',Sat wB w' [Fr,gu wb nv tv main ind (out++cr [44,32] (um pg.ts ind l))]->R (.returned (.tuple #[])) w'):
  Calls prog 197 #[.pointer (some ⟨wb,0,none⟩),lv] w R:=by
 have HR:=qh hR;have pG:=hd.len;have Eh:=Cu l;have h1:=(H.ar (.cells #[.pointer (some ⟨wb,0,none⟩)] 70) w.heap.size).swap;have hw:=λ(R:EW)=>tg (R:=R) nl lv hl (by omega) (um pg.ts ind l) (by rw[Aa];simp;omega) (hF.aq (M:=[ax w.heap.size (.cells #[.pointer (some ⟨wb,0,none⟩)] 70 (0,0))])) h1 272 (.pointer (some ⟨w.heap.size,0,none⟩)) Tryz.call272
  (λk hk qR o w1 hs ho R hR=>by
   have u_:k<l.length:=by omega
   have e: (um pg.ts ind l)[k]=wE pg.ts ind l[k]:=by simp[Aa]
   rw[e]at ho hR
   have hm:l[k]∈l:=gM _;exact Fl (hE _ hm) (hd.get k u_ hk) hF hs (by have:=Hy hm;omega) ho hR) hlen
 obtain⟨la,lc,rfl⟩:=ag hl;clear hR H hE hd hl hF dU hlen pG Eh h1;go_in;go_wp2_with fail;refine hw _ (λw1 h1=>?_);have H1:=qh (h1.unpack 0 rfl);go_wp2;go_end0;exact HR.o _ (H1.o.pick [1,0])
theorem I'(a b c d e f g h i:Value)(w:World): (Instr.field 66 (.agg #[a,b,c,d,e,f,g,h,i]) 1).run prog w=.ok b w:=by kernel_rfl
theorem yI(a b c d e f g h i:Value)(w:World): (Instr.field 66 (.agg #[a,b,c,d,e,f,g,h,i]) 5).run prog w=.ok f w:=by kernel_rfl
theorem K4(a b c d e f g h i:Value)(w:World): (Instr.field 66 (.agg #[a,b,c,d,e,f,g,h,i]) 7).run prog w=.ok h w:=by kernel_rfl
theorem BU(hP:PB wB nv tv pg){p:Nat}{x:BA}{e:Ty.Ex}(hE:qK wB nv tv pg wb main e){n a:Nat}(hd:DenO pg.ns (p,x,e) n a)(hF:ju wB Fr){bw:Nat}(H:Sat wB w [aq [Fr,ax bw (.cells #[.pointer (some ⟨wb,0,none⟩)] 70 (0,0))],gu wb nv tv main ind out])
  (dU:ind+Ty.aw e<=1300) (hlen:out.length+(x.data.toList++[58,32]++wE pg.ts ind e).length<=900000000) {R:EW}
  (hR:∀w',Sat wB w' [aq [Fr,ax bw (.cells #[.pointer (some ⟨wb,0,none⟩)] 70 (0,0))],gu wb nv tv main ind (out++(x.data.toList++[58,32]++wE pg.ts ind e))]->R (.returned (.tuple #[])) w'):
  Calls prog 273 #[.int .i64 (n:Nat),.pointer (some ⟨bw,0,none⟩)] w R:=by
 have WT:=hF.aq (M:=[ax bw (.cells #[.pointer (some ⟨wb,0,none⟩)] 70 (0,0))]);have HC:=qh (λ(w1:World)(o:List UInt8)(h:Sat wB w1 [aq [Fr,ax bw (.cells #[.pointer (some ⟨wb,0,none⟩)] 70 (0,0))],gu wb nv tv main ind o])=>h.bA.cell 2 0);have c0:=HC.o _ _ H;have oG:=qh (λ(w1:World)(o:List UInt8)(h:Sat wB w1 [aq [Fr,ax bw (.cells #[.pointer (some ⟨wb,0,none⟩)] 70 (0,0))],gu wb nv tv main ind o])(R:EW)=>eh (R:=R) hP WT h hd.nd);have HX:=qh (λ(w1:World)(o:List UInt8) h ho=>hE a hd.den 0 ind o w1 _ WT h (by omega) dU ho);simp only[lzA,lzC,lzN]at hlen;have Uc:=I';have afL:=yI;rw[gw]at HX
 go_in;go_wp2;go_region_held3(λw'=>w'.cell? ⟨bw,0,none⟩=some (.pointer (some ⟨wb,0,none⟩))) (go_keep)
  (first|(go_at_call 66;refine oG.o _ _ H.drew _ (λw1 lv hl cd=>?_);obtain⟨la,lc,rfl⟩:=ag hl;have h1:=H.drew.below cd;have s0:=HC.o _ _ h1;have H1:=qh h1;clear hl cd h1;dsimp only[aH])|(go_at_call 67;refine FG H1.o _ _ x.data.toList [58,32] (lZ x).symm rfl (by have:=hlen;simp only[lzA,lzC,lzN];omega) _ (by simp) (λw2 h2=>?_);have s0:=HC.o _ _ h2;have H2:=qh h2;clear h2))
 all_goals
  go_wp2_with fail;go_region_held3(λw'=>w'.cell? ⟨bw,0,none⟩=some (.pointer (some ⟨wb,0,none⟩))) (go_keep)
   (first|(go_at_call 66;refine oG.o _ _ H2.o.drew _ (λw3 lv hl cd=>?_);obtain⟨D',Iu,rfl⟩:=ag hl;have h1:=H2.o.drew.below cd;have s0:=HC.o _ _ h1;have H3:=qh h1;clear hl cd h1;dsimp only[aH])|(go_at_call 70;refine HX.o _ _ H3.o (by have:=hlen;simp only[lzA,lzC,lzN];omega) _ (λw4 h4=>?_);have s0:=HC.o _ _ h4;have H4:=qh h4;clear h4))
  all_goals
   go_wp2_with fail;go_end0;refine hR _ ?_;rw[show out++(x.data.toList++[58,32]++wE pg.ts ind e)=out++(x.data.toList++[58,32])++wE pg.ts ind e by simp];exact H4.o
end
theorem Prt.Sat.Vv{w0 w:World}{Fr W A B:As}(h:Sat w0 w [Fr,W,A,B]):Sat w0 w [aq [aq [Fr,B],A],W]:=
 ((Sat.pack (L:=[W]) (M:=[aq [Fr,B],A]) ((Sat.pack (L:=[W,A]) (M:=[Fr,B]) (h.pick [1,2,0,3])).pick [0,2,1]))).pick [1,0]
theorem Prt.Sat.jf{w0 w:World}{Fr W A B:As}(h:Sat w0 w [aq [aq [Fr,B],A],W]):Sat w0 w [Fr,W,A,B]:=
 (Sat.unpack (h.unpack 0 rfl) 1 rfl).pick [2,0,1,3]
section
variable {wB:World} {nv tv:Value} {pg:Ty.Pg} {wb:Nat} {main:Int}
def R9(bw wb:Nat):As:=ax bw (.cells #[.pointer (some ⟨wb,0,none⟩)] 70 (0,0))
theorem Dw(hP:PB wB nv tv pg){p:Nat}{l:List (Nat×BA×Ty.Ex)}(hE:∀o∈l,qK wB nv tv pg wb main o.2.2):sy 198 wB nv tv pg wb main (.obj p l):=by
 intro n nd lv hd hn hl ind out w Fr hF H dU hlen R hR;rw[aG]at hd
 obtain⟨nl,h1,hd⟩:=hd;rw[hn]at h1
 cases h1;have pG:=hd.len;have Eh:=Cm l;rw[Ty.aw]at dU
 rw[wE]at hlen hR
 dsimp only at hl;have HR:=qh hR;obtain⟨la,lc,rfl⟩:=ag hl;by_cases h0:l.length=0
 ·have k0: ((nl.length:Int)==0)=true:=beq_iff_eq.2 (by omega);rw[if_pos h0]at HR hlen
  dsimp only[aH];go_enter func198,ntmps198;go_wp2_with fail;refine dH ((H.aU _).aU _) _ [123,125] rfl (by have:=hlen;omega) _ (by simp) (λw1 h1=>?_);have H1:=qh h1;go_wp2;go_end0;exact HR.o _ H1.o
 ·have k0:=kN nl.length 0 0;rw[if_neg h0]at HR hlen
  have uQ:=hlen;simp only[lzA,lzC,lzN]at uQ;have agA:ju wB (aq [aq [Fr,ax (w.heap.size+1) (cj {Ty.af 10 p with list:=nl} (.slice la nl.length lc))],ax w.heap.size (.cells #[.pointer (some ⟨wb,0,none⟩)] 70 (0,0))]):=(hF.aq (M:=[_])).aq (M:=[_]);have HW:=qh (λ(w1:World)(o:List UInt8)(h1:Sat wB w1 [aq [aq [Fr,ax (w.heap.size+1) (cj {Ty.af 10 p with list:=nl} (.slice la nl.length lc))],ax w.heap.size (.cells #[.pointer (some ⟨wb,0,none⟩)] 70 (0,0))],gu wb nv tv main ind o])(ho:o.length+(cr [44,32] (xB pg.ts ind l)).length<=900000000)(R:EW)=>
   tg (R:=R) nl (.slice la nl.length lc) hl (by omega) (xB pg.ts ind l) (by rw[Ao];simp;omega) agA h1 273 (.pointer (some ⟨w.heap.size,0,none⟩)) Tryz.call273
    (λk hk qR o w1 hs ho R hR=>by
     have u_:k<l.length:=by omega
     have e: (xB pg.ts ind l)[k]=l[k].2.1.data.toList++[58,32]++wE pg.ts ind l[k].2.2:=by simp[Ao]
     rw[e]at ho hR
     have hm:l[k]∈l:=gM _;obtain⟨a,ml⟩:=hd.get k u_ hk;exact BU hP (hE _ hm) ml (hF.aq (M:=[_])) hs (by have:=Hj hm;omega) ho hR) ho)
  have h2:=((H.ar (.cells #[.pointer (some ⟨wb,0,none⟩)] 70) w.heap.size).ar (cj {Ty.af 10 p with list:=nl} (.slice la nl.length lc)) (w.heap.size+1))
  have h3:=h2.Vv;clear hR hE hd hn hl pG Eh dU h0 h2 hP;dsimp only[aH];go_enter func198,ntmps198;go_wp2_with fail;refine dH h3 _ [123,32] rfl (by have:=uQ;simp only[List.length_cons,List.length_nil];omega) _ (by simp) (λw1 h1=>?_);have h4:=h1.jf;have c1:=h4.cell 2 0;have e4:=h4.cell 3 4;have H1:=qh h1;clear h1 h4;go_wp2_with fail;refine HW.o _ _ H1.o (by have:=uQ;simp only[lzA,lzC,lzN];omega) _ (λw2 h1=>?_);have h4:=h1.jf;have c2:=h4.cell 2 0;have H2:=qh h1;clear h1 h4;go_wp2_with fail;refine dH H2.o _ [32,125] rfl (by have:=uQ;simp only[lzA,lzC,lzN];omega) _ (by simp) (λw3 h1=>?_);have H4:=qh h1.jf;clear h1;go_wp2_with fail;go_end0;refine HR.o _ ?_;rw[show out++([123,32]++cr [44,32] (xB pg.ts ind l)++[32,125])=out++[123,32]++cr [44,32] (xB pg.ts ind l)++[32,125]by simp];exact H4.o.pick [0,1]
end
section
variable {wB:World} {nv tv:Value} {pg:Ty.Pg} {wb:Nat} {main:Int}
theorem Ar(x:BA):dI x=0\/dI x=1\/dI x=2:=by
 unfold dI;split
 ·exact .inr (.inr rfl)
 ·split
  ·exact .inr (.inl rfl)
  ·exact .inl rfl
theorem Mu(w:World)(nd:Nd)(lv:Value)(hl:∃a n c,lv=.slice a n c)(v:Nat)(hv:Q6 nd=v){R:EW}(hR:∀w',Below w.heap.size w w'->R (.returned (.int .i64 v)) w'):
  Calls prog 126 #[aH nd lv] w R:=zw w nd lv hl (hv▸hR)
theorem KV{p:Nat}{x:BA}{a b:Ty.Ex}(ha:qK wB nv tv pg wb main a)(hb:qK wB nv tv pg wb main b):sy 199 wB nv tv pg wb main (.two p x a b):=by
 intro n nd lv hd hn hl ind out w Fr hF H dU hlen R hR;rw[aG]at hd
 obtain⟨na,nb,h1,ml,uE⟩:=hd;rw[hn]at h1
 cases h1;rw[Ty.aw]at dU
 have e:wE pg.ts ind (.two p x a b)=wP pg.ts ind (max (dI x) 1) a++[32]++x.data.toList++[32]++wP pg.ts ind (dI x+1) b:=by rw[wE];rfl
 rw[e]at hlen hR
 have OQ:=Ar x;have HA:=qh (λo w1 F' fW h ho=>ha na ml (max (dI x) 1) ind o w1 F' fW h (by omega) (by omega) ho);have HB:=qh (λo w1 F' fW h ho=>hb nb uE (dI x+1) ind o w1 F' fW h (by omega) (by omega) ho);have HR:=qh hR;obtain⟨la,lc,rfl⟩:=ag hl;generalize wP pg.ts ind (max (dI x) 1) a=pa at*
 generalize wP pg.ts ind (dI x+1) b=pb at*
 simp only[lzA,lzC,lzN]at hlen;have oJ:=qh hlen;have HF:=qh (hF.aq (M:=[ax w.heap.size (cj {Ty.af 12 p with text:=x,a:=na,b:=nb} (.slice la 0 lc))]));have h1:=(H.ar (cj {Ty.af 12 p with text:=x,a:=na,b:=nb} (.slice la 0 lc)) w.heap.size)
 have H1:=qh h1;have HC:=qh (λ(w1:World)(o:List UInt8)(h:Sat wB w1 [aq [Fr,ax w.heap.size (cj {Ty.af 12 p with text:=x,a:=na,b:=nb} (.slice la 0 lc))],gu wb nv tv main ind o])=>(⟨h.bA.cell 2 1,h.bA.cell 2 2,h.bA.cell 2 5⟩:w1.cell? ⟨w.heap.size,1,none⟩=some (.int .i64 (na:Nat))/\w1.cell? ⟨w.heap.size,2,none⟩=some (.int .i64 (nb:Nat))/\w1.cell? ⟨w.heap.size,5,none⟩=some (.string x)));clear hR hlen H hF ha hb ml uE hn hl dU e h1;dsimp only[aH,Ty.af]at*
 go_enter func199,ntmps199;go_wp2_with fail;refine Mu _ {Ty.af 12 p with text:=x,a:=na,b:=nb} (.slice la 0 lc) ⟨_,_,_,rfl⟩ (dI x) rfl (λw2 aW=>?_);have h2:=(H1.o.below aW).swap;have q1:=(HC.o _ _ h2).1;have H2:=qh h2;clear aW h2;generalize dI x=sg at*
 rcases OQ with rfl|rfl|rfl
 ·go_wp2_with fail;refine HA.o _ _ _ HF.o H2.o (by have:=oJ.o;omega) _ (λw3 h3=>?_);have q5:=(HC.o _ _ h3).2.2;have H3:=qh h3;clear h3 q1;go_wp2_with fail;refine Ni H3.o _ _ _ [32] x.data.toList [32] rfl (lZ x).symm rfl (by have:=oJ.o;simp only[lzA,lzC,lzN];omega) _ (by simp) (λw4 h4=>?_);have q2:=(HC.o _ _ h4).2.1;have H4:=qh h4;clear h4 q5;go_wp2_with fail;refine HB.o _ _ _ HF.o H4.o (by have:=oJ.o;simp only[lzA,lzC,lzN];omega) _ (λw5 h5=>?_);have H5:=qh h5;clear h5 q2;go_wp2_with fail;go_end0;refine HR.o _ ?_;rw[show out++(pa++[32]++x.data.toList++[32]++pb)=out++pa++([32]++(x.data.toList++[32]))++pb by simp];exact H5.o.bA.pick [0,1]
 ·go_wp2_with fail;refine HA.o _ _ _ HF.o H2.o (by have:=oJ.o;omega) _ (λw3 h3=>?_);have q5:=(HC.o _ _ h3).2.2;have H3:=qh h3;clear h3 q1;go_wp2_with fail;refine Ni H3.o _ _ _ [32] x.data.toList [32] rfl (lZ x).symm rfl (by have:=oJ.o;simp only[lzA,lzC,lzN];omega) _ (by simp) (λw4 h4=>?_);have q2:=(HC.o _ _ h4).2.1;have H4:=qh h4;clear h4 q5;go_wp2_with fail;refine HB.o _ _ _ HF.o H4.o (by have:=oJ.o;simp only[lzA,lzC,lzN];omega) _ (λw5 h5=>?_);have H5:=qh h5;clear h5 q2;go_wp2_with fail;go_end0;refine HR.o _ ?_;rw[show out++(pa++[32]++x.data.toList++[32]++pb)=out++pa++([32]++(x.data.toList++[32]))++pb by simp];exact H5.o.bA.pick [0,1]
 ·go_wp2_with fail;refine HA.o _ _ _ HF.o H2.o (by have:=oJ.o;omega) _ (λw3 h3=>?_);have q5:=(HC.o _ _ h3).2.2;have H3:=qh h3;clear h3 q1;go_wp2_with fail;refine Ni H3.o _ _ _ [32] x.data.toList [32] rfl (lZ x).symm rfl (by have:=oJ.o;simp only[lzA,lzC,lzN];omega) _ (by simp) (λw4 h4=>?_);have q2:=(HC.o _ _ h4).2.1;have H4:=qh h4;clear h4 q5;go_wp2_with fail;refine HB.o _ _ _ HF.o H4.o (by have:=oJ.o;simp only[lzA,lzC,lzN];omega) _ (λw5 h5=>?_);have H5:=qh h5;clear h5 q2;go_wp2_with fail;go_end0;refine HR.o _ ?_;rw[show out++(pa++[32]++x.data.toList++[32]++pb)=out++pa++([32]++(x.data.toList++[32]))++pb by simp];exact H5.o.bA.pick [0,1]
theorem Kt{p:Nat}{x:BA}{a:Ty.Ex}(ha:qK wB nv tv pg wb main a):sy 199 wB nv tv pg wb main (.one p x a):=by
 intro n nd lv hd hn hl ind out w Fr hF H dU hlen R hR;rw[aG]at hd
 obtain⟨na,h1,ml⟩:=hd;rw[hn]at h1
 cases h1;rw[Ty.aw]at dU
 have e:wE pg.ts ind (.one p x a)=x.data.toList++(if x.data.toList=gJ then [32]else [])++wP pg.ts ind 3 a:=by rw[wE];rfl
 rw[e]at hlen hR
 have HA:=qh (λo w1 F' fW h ho=>ha na ml 3 ind o w1 F' fW h (by omega) (by omega) ho);obtain⟨la,lc,rfl⟩:=ag hl;generalize wP pg.ts ind 3 a=pa at*
 simp only[List.length_append]at hlen;have HF:=qh (hF.aq (M:=[ax w.heap.size (cj {Ty.af 13 p with text:=x,a:=na} (.slice la 0 lc))]));have h1:=(H.ar (cj {Ty.af 13 p with text:=x,a:=na} (.slice la 0 lc)) w.heap.size)
 have HC:=qh (λ(w1:World)(o:List UInt8)(h:Sat wB w1 [aq [Fr,ax w.heap.size (cj {Ty.af 13 p with text:=x,a:=na} (.slice la 0 lc))],gu wb nv tv main ind o])=>(⟨h.bA.cell 2 1,h.bA.cell 2 5⟩:w1.cell? ⟨w.heap.size,1,none⟩=some (.int .i64 (na:Nat))/\w1.cell? ⟨w.heap.size,5,none⟩=some (.string x)));have H1:=qh h1.swap;have hc: (x.toList==[116,121,112,101,111,102])=true/\x.data.toList=gJ\/(x.toList==[116,121,112,101,111,102])=false/\¬x.data.toList=gJ:=by
  rw[Lib.toList_data];by_cases h:x.data.toList=gJ
  ·left;exact⟨by rw[h];rfl,h⟩
  ·right;exact⟨beq_eq_false_iff_ne.2 h,h⟩
 dsimp only[aH,Ty.af]at*
 rcases hc with⟨k1,hk⟩|⟨k1,hk⟩
 ·rw[if_pos hk]at hR hlen
  go_enter func199,ntmps199;go_wp2_with fail;refine dH H1.o x x.data.toList (lZ x).symm (by have:=hlen;omega) _ (by simp) (λw2 h2=>?_);have q5:=(HC.o _ _ h2).2;have H2:=qh h2;go_wp2_with fail;refine dH H2.o _ [32] rfl (by have:=hlen;(try simp only[lzA,lzC,lzN]at this⊢);omega) _ (by simp) (λw3 h3=>?_);have q1:=(HC.o _ _ h3).1;go_wp2_with fail;refine HA.o _ _ _ HF.o h3 (by have:=hlen;(try simp only[lzA,lzC,lzN]at this⊢);omega) _ (λw4 h4=>?_);have H4:=qh h4;go_wp2;go_end0;exact hR _ (by rw[<-List.append_assoc,<-List.append_assoc];exact H4.o.bA.pick [0,1])
 ·rw[if_neg hk]at hR hlen
  rw[List.append_nil]at hR
  go_enter func199,ntmps199;go_wp2_with fail;refine dH H1.o x x.data.toList (lZ x).symm (by have:=hlen;omega) _ (by simp) (λw2 h2=>?_);have q5:=(HC.o _ _ h2).2;have q1:=(HC.o _ _ h2).1;have H2:=qh h2;go_wp2_with fail;refine HA.o _ _ _ HF.o H2.o (by have:=hlen;simp only[List.length_append,List.length_nil]at this⊢;omega) _ (λw4 h4=>?_);have H4:=qh h4;go_wp2;go_end0;exact hR _ (by rw[<-List.append_assoc];exact H4.o.bA.pick [0,1])
theorem Gc{p:Nat}{a:Ty.Ex}{l:List Ty.Ex}(ha:qK wB nv tv pg wb main a)(hE:∀e∈l,qK wB nv tv pg wb main e):sy 199 wB nv tv pg wb main (.call p a l):=by
 intro n nd lv hd hn hl ind out w Fr hF H dU hlen R hR;rw[aG]at hd
 obtain⟨na,nl,h1,ml,UK⟩:=hd;rw[hn]at h1
 cases h1;rw[Ty.aw]at dU
 have e:wE pg.ts ind (.call p a l)=wP pg.ts ind 4 a++[40]++cr [44,32] (um pg.ts ind l)++[41]:=by rw[wE];rfl
 rw[e]at hlen hR
 have HA:=qh (λo w1 F' fW h ho=>ha na ml 4 ind o w1 F' fW h (by omega) (by omega) ho);have HL:=qh (λ(o:List UInt8)(w1:World) F'(fW:ju wB F')(h:Sat wB w1 [F',gu wb nv tv main ind o]) ho(R:EW)=>xo (R:=R) hE UK lv hl fW h (by omega) ho);obtain⟨la,lc,rfl⟩:=ag hl;generalize wP pg.ts ind 4 a=pa at*
 generalize cr [44,32] (um pg.ts ind l)=pl at*
 simp only[lzA,lzC,lzN]at hlen;have HF:=qh (hF.aq (M:=[ax w.heap.size (cj {Ty.af 7 p with a:=na,list:=nl} (.slice la nl.length lc))]));have h1:=(H.ar (cj {Ty.af 7 p with a:=na,list:=nl} (.slice la nl.length lc)) w.heap.size)
 have HC:=qh (λ(w1:World)(o:List UInt8)(h:Sat wB w1 [aq [Fr,ax w.heap.size (cj {Ty.af 7 p with a:=na,list:=nl} (.slice la nl.length lc))],gu wb nv tv main ind o])=>(⟨h.bA.cell 2 0,h.bA.cell 2 1,h.bA.cell 2 4⟩:w1.cell? ⟨w.heap.size,0,none⟩=some (.int .i64 (7:Nat))/\w1.cell? ⟨w.heap.size,1,none⟩=some (.int .i64 (na:Nat))/\w1.cell? ⟨w.heap.size,4,none⟩=some (.slice la nl.length lc)));have q:=HC.o _ _ h1.swap;have H1:=qh h1.swap;dsimp only[aH,Ty.af]at*
 go_enter func199,ntmps199;go_wp2_with fail;refine HA.o _ _ _ HF.o H1.o (by have:=hlen;(try simp only[lzA,lzC,lzN]at this⊢);omega) _ (λw2 h2=>?_);have q:=HC.o _ _ h2;go_wp2_with fail;refine dH h2 _ [40] rfl (by have:=hlen;(try simp only[lzA,lzC,lzN]at this⊢);omega) _ (by simp) (λw3 h3=>?_);have q:=HC.o _ _ h3;go_wp2_with fail;refine HL.o _ _ _ HF.o h3 (by have:=hlen;(try simp only[lzA,lzC,lzN]at this⊢);omega) _ (λw4 h4=>?_);have q:=HC.o _ _ h4;go_wp2_with fail;refine dH h4 _ [41] rfl (by have:=hlen;(try simp only[lzA,lzC,lzN]at this⊢);omega) _ (by simp) (λw5 h5=>?_);have q:=HC.o _ _ h5;go_wp2;go_end0;refine hR _ ?_;rw[show out++(pa++[40]++pl++[41])=out++pa++[40]++pl++[41]by simp];exact h5.bA.pick [0,1]
theorem JW{p:Nat}{a:Ty.Ex}{x:BA}(ha:qK wB nv tv pg wb main a):sy 199 wB nv tv pg wb main (.get p a x):=by
 intro n nd lv hd hn hl ind out w Fr hF H dU hlen R hR;rw[aG]at hd
 obtain⟨na,h1,ml⟩:=hd;rw[hn]at h1
 cases h1;rw[Ty.aw]at dU
 have e:wE pg.ts ind (.get p a x)=wP pg.ts ind 4 a++[46]++x.data.toList:=by rw[wE];rfl
 rw[e]at hlen hR
 have HA:=qh (λo w1 F' fW h ho=>ha na ml 4 ind o w1 F' fW h (by omega) (by omega) ho);obtain⟨la,lc,rfl⟩:=ag hl;generalize wP pg.ts ind 4 a=pa at*
 simp only[lzA,lzC,lzN]at hlen;have HF:=qh (hF.aq (M:=[ax w.heap.size (cj {Ty.af 8 p with a:=na,text:=x} (.slice la 0 lc))]));have h1:=(H.ar (cj {Ty.af 8 p with a:=na,text:=x} (.slice la 0 lc)) w.heap.size)
 have HC:=qh (λ(w1:World)(o:List UInt8)(h:Sat wB w1 [aq [Fr,ax w.heap.size (cj {Ty.af 8 p with a:=na,text:=x} (.slice la 0 lc))],gu wb nv tv main ind o])=>(⟨h.bA.cell 2 0,h.bA.cell 2 1,h.bA.cell 2 5⟩:w1.cell? ⟨w.heap.size,0,none⟩=some (.int .i64 (8:Nat))/\w1.cell? ⟨w.heap.size,1,none⟩=some (.int .i64 (na:Nat))/\w1.cell? ⟨w.heap.size,5,none⟩=some (.string x)));have q:=HC.o _ _ h1.swap;have H1:=qh h1.swap;dsimp only[aH,Ty.af]at*
 go_enter func199,ntmps199;go_wp2_with fail;refine HA.o _ _ _ HF.o H1.o (by have:=hlen;(try simp only[lzA,lzC,lzN]at this⊢);omega) _ (λw2 h2=>?_);have q:=HC.o _ _ h2;go_wp2_with fail;refine FG h2 _ _ [46] x.data.toList rfl (lZ x).symm (by have:=hlen;(try simp only[lzA,lzC,lzN]at this⊢);omega) _ (by simp) (λw3 h3=>?_);have q:=HC.o _ _ h3;go_wp2;go_end0;refine hR _ ?_;rw[show out++(pa++[46]++x.data.toList)=out++pa++([46]++x.data.toList)by simp];exact h3.bA.pick [0,1]
theorem MK{p:Nat}{a b:Ty.Ex}(ha:qK wB nv tv pg wb main a)(hb:qK wB nv tv pg wb main b):sy 199 wB nv tv pg wb main (.atX p a b):=by
 intro n nd lv hd hn hl ind out w Fr hF H dU hlen R hR;rw[aG]at hd
 obtain⟨na,nb,h1,ml,uE⟩:=hd;rw[hn]at h1
 cases h1;rw[Ty.aw]at dU
 have e:wE pg.ts ind (.atX p a b)=wP pg.ts ind 4 a++[91]++wE pg.ts ind b++[93]:=by rw[wE];rfl
 rw[e]at hlen hR
 rw[<-gw pg.ts ind b]at hlen hR
 have HA:=qh (λo w1 F' fW h ho=>ha na ml 4 ind o w1 F' fW h (by omega) (by omega) ho);have HB:=qh (λo w1 F' fW h ho=>hb nb uE 0 ind o w1 F' fW h (by omega) (by omega) ho);obtain⟨la,lc,rfl⟩:=ag hl;generalize wP pg.ts ind 4 a=pa at*
 generalize wP pg.ts ind 0 b=pb at*
 simp only[lzA,lzC,lzN]at hlen;have HF:=qh (hF.aq (M:=[ax w.heap.size (cj {Ty.af 9 p with a:=na,b:=nb} (.slice la 0 lc))]));have h1:=(H.ar (cj {Ty.af 9 p with a:=na,b:=nb} (.slice la 0 lc)) w.heap.size)
 have HC:=qh (λ(w1:World)(o:List UInt8)(h:Sat wB w1 [aq [Fr,ax w.heap.size (cj {Ty.af 9 p with a:=na,b:=nb} (.slice la 0 lc))],gu wb nv tv main ind o])=>(⟨h.bA.cell 2 0,h.bA.cell 2 1,h.bA.cell 2 2⟩:w1.cell? ⟨w.heap.size,0,none⟩=some (.int .i64 (9:Nat))/\w1.cell? ⟨w.heap.size,1,none⟩=some (.int .i64 (na:Nat))/\w1.cell? ⟨w.heap.size,2,none⟩=some (.int .i64 (nb:Nat))));have q:=HC.o _ _ h1.swap;have H1:=qh h1.swap;dsimp only[aH,Ty.af]at*
 go_enter func199,ntmps199;go_wp2_with fail;refine HA.o _ _ _ HF.o H1.o (by have:=hlen;(try simp only[lzA,lzC,lzN]at this⊢);omega) _ (λw2 h2=>?_);have q:=HC.o _ _ h2;go_wp2_with fail;refine dH h2 _ [91] rfl (by have:=hlen;(try simp only[lzA,lzC,lzN]at this⊢);omega) _ (by simp) (λw3 h3=>?_);have q:=HC.o _ _ h3;go_wp2_with fail;refine HB.o _ _ _ HF.o h3 (by have:=hlen;(try simp only[lzA,lzC,lzN]at this⊢);omega) _ (λw4 h4=>?_);have q:=HC.o _ _ h4;go_wp2_with fail;refine dH h4 _ [93] rfl (by have:=hlen;(try simp only[lzA,lzC,lzN]at this⊢);omega) _ (by simp) (λw5 h5=>?_);have q:=HC.o _ _ h5;go_wp2;go_end0;refine hR _ ?_;rw[show out++(pa++[91]++pb++[93])=out++pa++[91]++pb++[93]by simp];exact h5.bA.pick [0,1]
theorem Lx(hP:PB wB nv tv pg){p:Nat}{a:Ty.Ex}{ty:Int}(ha:qK wB nv tv pg wb main a):sy 199 wB nv tv pg wb main (.asX p a ty):=by
 intro n nd lv hd hn hl ind out w Fr hF H dU hlen R hR;rw[aG]at hd
 obtain⟨na,h1,ml⟩:=hd;rw[hn]at h1
 cases h1;rw[Ty.aw]at dU
 have e:wE pg.ts ind (.asX p a ty)=wP pg.ts ind 4 a++[32,97,115,32]++Ty.text (Ty.den pg.ts ty.toNat):=by rw[wE];rfl
 rw[e]at hlen hR
 have aD:=hP.ok.ns _ (List.mem_of_getElem? hn);obtain⟨m,rfl,hm⟩:∃m:Nat,ty=(m:Int)/\TyIn m pg.ts:=by
  rcases aD.ty with h|h
  ·have:=aD.EK rfl;omega
  ·exact h
 rw[show((m:Int)).toNat=m by omega]at hlen hR
 have HT:=qh (hP.text hm).1;have HA:=qh (λo w1 F' fW h ho=>ha na ml 4 ind o w1 F' fW h (by omega) (by omega) ho);obtain⟨la,lc,rfl⟩:=ag hl;obtain⟨ta,tn,tc,rfl⟩:=hP.Iy;generalize wP pg.ts ind 4 a=pa at*
 generalize Ty.text (Ty.den pg.ts m)=tx at*
 simp only[lzA,lzC,lzN]at hlen;have HF:=qh (hF.aq (M:=[ax w.heap.size (cj {Ty.af 14 p with a:=na,ty:=(m:Int)} (.slice la 0 lc))]));have h1:=(H.ar (cj {Ty.af 14 p with a:=na,ty:=(m:Int)} (.slice la 0 lc)) w.heap.size)
 have HC:=qh (λ(w1:World)(o:List UInt8)(h:Sat wB w1 [aq [Fr,ax w.heap.size (cj {Ty.af 14 p with a:=na,ty:=(m:Int)} (.slice la 0 lc))],gu wb nv (.slice ta tn tc) main ind o])=>(⟨h.bA.cell 2 0,h.bA.cell 2 1,h.bA.cell 2 7,by obtain⟨p,v,hw⟩:=h.oP;exact⟨hw.cell 2 3,hw.lt 2⟩⟩:w1.cell? ⟨w.heap.size,0,none⟩=some (.int .i64 (14:Nat))/\w1.cell? ⟨w.heap.size,1,none⟩=some (.int .i64 (na:Nat))/\w1.cell? ⟨w.heap.size,7,none⟩=some (.int .i64 (m:Nat))/\w1.cell? ⟨wb,3,none⟩=some (.slice ta tn tc)/\wb<w1.heap.size));have H1:=qh h1.swap;dsimp only[aH,Ty.af]at*
 go_enter func199,ntmps199;go_wp2_with fail;refine HA.o _ _ _ HF.o H1.o (by have:=hlen;omega) _ (λw2 h2=>?_);obtain⟨z0,z1,z7,z3,zl⟩:=HC.o _ _ h2;have fG:=qh (HF.o w2 _ 0 h2 rfl);go_wp2;go_region_held3(λw'=>w'.cell? ⟨w.heap.size,7,none⟩=some (.int .i64 (m:Nat))/\w'.cell? ⟨wb,3,none⟩=some (.slice ta tn tc)) (go_keep)
  (first|(go_at_call 64;refine HT.o _ fG.o.drew _ (λw3 cZ=>?_);have h3:=h2.drew.below cZ;have s0:=(HC.o _ _ h3).2.2.1;have s1:=(HC.o _ _ h3).2.2.2.1;have H3:=qh h3;clear cZ h3)|(go_at_call 67;refine FG H3.o _ _ [32,97,115,32] tx rfl rfl (by have:=hlen;(try simp only[lzA,lzC,lzN]at this⊢);omega) _ (by simp) (λw4 h4=>?_);have s0:=(HC.o _ _ h4).2.2.1;have s1:=(HC.o _ _ h4).2.2.2.1;have H4:=qh h4;clear h4))
 all_goals
  go_wp2;go_end0;refine hR _ ?_;rw[show out++(pa++[32,97,115,32]++tx)=out++pa++([32,97,115,32]++tx)by simp];exact H4.o.bA.pick [0,1]
end
def Pow(w:World):Prop:=Lib.TabIs prog w "internal/strconv.uint64pow10" .u64 Lib.pow10Tab
theorem JF:prog.globalNamed "internal/strconv.uint64pow10" =some 2:=by kernel_rfl
theorem Pow.below{w w':World}(h:Pow w)(hb:Below w.heap.size w w'):Pow w':=by
 unfold Pow Lib.TabIs World.var? at h⊢;rw[JF]at h⊢
 simp only[Option.bind_some]at h⊢;rw[hb.block 2 (by
  rcases Nat.lt_or_ge 2 w.heap.size with h'|h'
  ·exact h'
  ·rw[Array.getElem?_eq_none h']at h;cases h)]
 exact h
theorem OC(w:World)(hw:Pow w)(n:Nat)(hn:n<=1000000000){R:EW}(hR:∀w',Below w.heap.size w w'->R (.returned (.string (bs (Lib.itoa n)))) w'):
  Calls prog 193 #[.int .i64 (n:Nat)] w R:=by
 refine(Tryz.strconv_Itoa n (by omega) (by omega) w hw).mono ?_
 rintro e w' ⟨rfl,k,os,rfl⟩
 exact hR _ (Lib.below_grow _ w (nR _) k os)
theorem qy:∀n,Lib.repeatL [32,32] n=Ty.aM n
 |0=>rfl
 |n+1=>by rw[Lib.repeatL,qy n];rfl
theorem eV(w:World)(n:Nat)(hn:n<=1000000){R:EW}(hR:∀w',Below w.heap.size w w'->R (.returned (.string (bs (Ty.aM n)))) w'):
  Calls prog 68 #[.string ⟨#[32,32]⟩,.int .i64 (n:Nat)] w R:=by
 refine(Tryz.strings_Repeat ⟨#[32,32]⟩ n w (by omega) (by show 2*n<=_;omega)).mono ?_
 rintro e w' ⟨rfl,hb⟩
 have h:=hR w' hb;rw[<-qy]at h
 exact h
theorem o0(w:World)(b:Bool){R:EW}(hR:R (.returned (.string (bs (if b then [116,114,117,101]else [102,97,108,115,101])))) w):
  Calls prog 194 #[.bool b] w R:=by
 refine(Tryz.strconv_FormatBool b w).mono ?_
 rintro e w' ⟨rfl,rfl⟩
 have h: (Lib.formatBool b).toArray=(if b then [116,114,117,101]else [102,97,108,115,101]:List UInt8).toArray:=by cases b<;>decide+kernel
 unfold bs at hR;rw[h];exact hR
def GX(Fr:As)(bw wb:Nat)(nd:Nd)(lv:Value):As:=aq [aq [Fr,ax (bw+1) (cj nd lv)],R9 bw wb]
section
variable {wB w:World} {nv tv:Value} {pg:Ty.Pg} {wb:Nat} {main:Int} {Fr:As} {ind:Nat} {out:List UInt8}
theorem ja(H:Sat wB w [Fr,gu wb nv tv main ind out])(nd:Nd)(lv:Value):
  Sat wB ((w.alloc (.cells #[.pointer (some ⟨wb,0,none⟩)] 70)).alloc (cj nd lv)) [GX Fr w.heap.size wb nd lv,gu wb nv tv main ind out]:=
 ((H.ar (.cells #[.pointer (some ⟨wb,0,none⟩)] 70) w.heap.size).ar (cj nd lv) (w.heap.size+1)).Vv
theorem gy{bw:Nat}{nd:Nd}{lv:Value}(H:Sat wB w [GX Fr bw wb nd lv,gu wb nv tv main ind out]):Sat wB w [Fr,gu wb nv tv main ind out]:=H.jf.pick [0,1]
structure BareRd(w:World)(bw wb:Nat)(nd:Nd)(lv:Value):Prop where
 c:w.cell? ⟨bw,0,none⟩=some (.pointer (some ⟨wb,0,none⟩))
 d0:w.cell? ⟨bw+1,0,none⟩=some (.int .i64 nd.kind)
 d1:w.cell? ⟨bw+1,1,none⟩=some (.int .i64 nd.a)
 d2:w.cell? ⟨bw+1,2,none⟩=some (.int .i64 nd.b)
 d3:w.cell? ⟨bw+1,3,none⟩=some (.int .i64 nd.c)
 d4:w.cell? ⟨bw+1,4,none⟩=some lv
 d5:w.cell? ⟨bw+1,5,none⟩=some (.string nd.text)
 d6:w.cell? ⟨bw+1,6,none⟩=some (.int .i64 nd.n)
 d7:w.cell? ⟨bw+1,7,none⟩=some (.int .i64 nd.ty)
 d8:w.cell? ⟨bw+1,8,none⟩=some (.int .i64 nd.pos)
theorem df{bw:Nat}{nd:Nd}{lv:Value}(H:Sat wB w [GX Fr bw wb nd lv,gu wb nv tv main ind out]):BareRd w bw wb nd lv:=
 ⟨H.jf.cell 2 0,H.jf.cell 3 0,H.jf.cell 3 1,H.jf.cell 3 2,H.jf.cell 3 3,H.jf.cell 3 4,H.jf.cell 3 5,H.jf.cell 3 6,H.jf.cell 3 7,H.jf.cell 3 8⟩
theorem kg(hF:ju wB Fr)(bw:Nat)(nd:Nd)(lv:Value):ju wB (GX Fr bw wb nd lv):=(hF.aq (M:=[_])).aq (M:=[_])
theorem J3{p:Nat}{x:BA}:sy 127 wB nv tv pg wb main (.text p x):=by
 intro n nd lv hd hn hl ind out w Fr hF H dU hlen R hR;rw[aG]at hd
 rw[hn]at hd
 cases hd;rw[wE]at hlen hR
 have HR:=qh hR;have oJ:=qh hlen;obtain⟨la,lc,rfl⟩:=ag hl;have h1:=ja H {Ty.af 2 p with text:=x} (.slice la 0 lc);obtain⟨c,d0,d1,d2,d3,d4,d5,d6,d7,d8⟩:=df h1;have H1:=qh h1;clear hR hlen H hF hn hl dU h1;dsimp only[aH,Ty.af]at*
 go_enter func127,ntmps127;go_wp2_with fail;refine Ni H1.o _ _ _ [34] x.data.toList [34] rfl (lZ x).symm rfl (by have:=oJ.o;(try simp only[lzA,lzC,lzN]at this⊢);omega) _ (by simp) (λw2 h2=>?_);have H2:=qh h2;clear h2;go_wp2_with fail;go_end0;refine HR.o _ ?_;have h3:=gy H2.o;first|exact h3|simpa using h3
theorem JS{p:Nat}:sy 127 wB nv tv pg wb main (.null p):=by
 intro n nd lv hd hn hl ind out w Fr hF H dU hlen R hR;rw[aG]at hd
 rw[hn]at hd
 cases hd;rw[wE]at hlen hR
 have HR:=qh hR;have oJ:=qh hlen;obtain⟨la,lc,rfl⟩:=ag hl;have h1:=ja H {Ty.af 4 p with a:=0} (.slice la 0 lc);obtain⟨c,d0,d1,d2,d3,d4,d5,d6,d7,d8⟩:=df h1;have H1:=qh h1;clear hR hlen H hF hn hl dU h1;dsimp only[aH,Ty.af]at*
 go_enter func127,ntmps127;go_wp2_with fail;refine dH H1.o _ [110,117,108,108] rfl (by have:=oJ.o;omega) _ (by simp) (λw2 h2=>?_);have H2:=qh h2;clear h2;go_wp2_with fail;go_end0;refine HR.o _ ?_;have h3:=gy H2.o;first|exact h3|simpa using h3
theorem Mc{p:Nat}{x:BA}:sy 127 wB nv tv pg wb main (.var p x):=by
 intro n nd lv hd hn hl ind out w Fr hF H dU hlen R hR;rw[aG]at hd
 rw[hn]at hd
 cases hd;rw[wE]at hlen hR
 have HR:=qh hR;have oJ:=qh hlen;obtain⟨la,lc,rfl⟩:=ag hl;have h1:=ja H {Ty.af 5 p with text:=x} (.slice la 0 lc);obtain⟨c,d0,d1,d2,d3,d4,d5,d6,d7,d8⟩:=df h1;have H1:=qh h1;clear hR hlen H hF hn hl dU h1;dsimp only[aH,Ty.af]at*
 go_enter func127,ntmps127;go_wp2_with fail;refine dH H1.o _ x.data.toList (lZ x).symm (by have:=oJ.o;omega) _ (by simp) (λw2 h2=>?_);have H2:=qh h2;clear h2;go_wp2_with fail;go_end0;refine HR.o _ ?_;have h3:=gy H2.o;first|exact h3|simpa using h3
end
section
open Go.ChangeShapes Go.WideShapes Go.ChangeAt Go.RowKit Go.Lib
theorem Bt:prog.globalNamed "internal/strconv.uint64pow10" =some 2:=by kernel_rfl
theorem FY: (prog.globals[2]?).map (·.type)=some 308:=by kernel_rfl
theorem Dj:prog.underlying 308=some (.array 20 211):=by kernel_rfl
theorem E1:prog.underlying 211=some (.int .u64):=by kernel_rfl
theorem DE:prog.cellsOf 308=20:=by kernel_rfl
theorem EA:prog.cellsOf 211=1:=by kernel_rfl
theorem N5: (Rows.laid_internal_strconv_uint64pow10:DataW Unit)=tabData .u64 pow10Tab:=by kernel_rfl
theorem Dy{W:World}(h:VarReads prog W "internal/strconv.uint64pow10" Rows.laid_internal_strconv_uint64pow10):Pow W:=by
 obtain⟨g',t',cs,fuel,p,hg,Ez,Uw,hd⟩:=h;obtain rfl:=Option.some.inj (Bt.symm.trans hg);obtain rfl:=Option.some.inj (FY.symm.trans Ez);rw[N5]at hd
 unfold Pow TabIs;rw[Uw,<-cells_of_tab Dj E1 EA DE hd]
end
namespace Ty
section
variable {P:Nat->Prop} {N a b c:Nat} {v v1 v2:Vg} {frs:List Frm} {fr:Frm}
def Vo(P:Nat->Prop)(a b:Nat)(v v':Vg):Prop:=∃k,v'.out=v.out++k/\(k.map Prod.fst).Nodup/\∀p∈k,a<=p.1/\p.1<b/\P p.2
theorem Vo.cat{a1 b1 a2 b2:Nat}(h:Vo P a1 b1 v v1)(g:Vo P a2 b2 v1 v2)(d:a<=a1/\b1<=c/\a<=a2/\b2<=c/\(b1<=a2\/b2<=a1)):Vo P a c v v2:=by
 obtain⟨k,h1,h2,h3⟩:=h;obtain⟨l,g1,g2,g3⟩:=g;refine⟨k++l,by grind,?_,λp hp=>?_⟩
 ·grind
 grind
def FB(P:Nat->Prop)(frs:List Frm):Prop:=∀fr∈frs,∀q∈fr.names,P q.2
theorem FB.cons(h:FB P [fr])(g:FB P frs):FB P (fr::frs):=λx hx=>(List.mem_cons.1 hx).elim (λe=>h x (by grind)) (g x)
theorem FB.add(h:FB P [fr]){n:Nat}(hn:P n)(x:BA):FB P [addN fr x n]:=λy hy q hq=>by
 rw[List.mem_singleton.1 hy]at hq
 rcases List.mem_append.1 hq with hq|hq
 ·exact h fr (by simp) q hq
 grind
theorem FB.new(o:Nat)(f:Int):FB P [⟨[],o,f⟩]:=λy hy q hq=>by grind
theorem FB.look:∀{frs:List Frm}{x:BA}{m:Nat},FB P frs->lg frs x=some m->P m
 |[],_,_,_,h=>by cases h
 |fr::frs,x,m,g,h=>by
  rw[lg]at h
  split at h
  ·rename_i n hn;cases h;obtain⟨q,hq,rfl⟩:=Option.map_eq_some_iff.1 hn;exact g fr (by simp) q (List.mem_reverse.1 (List.mem_of_find?_eq_some hq))
  ·exact FB.look (λy hy=>g y (by grind)) h
def q9(P:Nat->Prop)(a b:Nat)(v:Vg){α:Type}(o:α->Vg)(Q:α->Prop)(m:Except Ft α):Prop:=∀r,m=.ok r->Vo P a b v (o r)/\Q r
variable {α β:Type} {o:α->Vg} {o2:β->Vg} {Q:α->Prop} {Q2:β->Prop} {m:Except Ft α}
theorem q9.ok{r:α}(h: (o r).out=v.out)(hQ:Q r):q9 P a b v o Q (.ok r):=λx e=>by cases e;exact⟨⟨[],by grind,by simp,by simp⟩,hQ⟩
theorem q9.er{f:Ft}:q9 P a b v o Q (.error f):=λx e=>by cases e
theorem q9.and{a1 b1 a2 b2:Nat}{k:α->Except Ft β}(h:q9 P a1 b1 v o Q m)(g:∀r,Q r->q9 P a2 b2 (o r) o2 Q2 (k r))(d:a<=a1/\b1<=c/\a<=a2/\b2<=c/\(b1<=a2\/b2<=a1):=by omega):q9 P a c v o2 Q2 (aK m k):=λr e=>by
 cases m with
 |error f=>cases e
 |ok x=>
  obtain⟨h1,h2⟩:=h x rfl;obtain⟨g1,g2⟩:=g x h2 r e;exact⟨h1.cat g1 d,g2⟩
theorem q9.mono{a1 b1:Nat}(h:q9 P a1 b1 v o Q m){v':Vg}(e:v'.out=v.out:=by rfl)(d:a<=a1/\b1<=b:=by omega):q9 P a b v' o Q m:=λr hr=>by
 obtain⟨⟨k,h1,h2,h3⟩,h4⟩:=h r hr;exact⟨⟨k,by grind,h2,λp hp=>by grind⟩,h4⟩
abbrev YP(P:Nat->Prop)(a b:Nat)(v:Vg)(m:Except Ft Vg):Prop:=q9 P a b v id (λ_=>True) m
abbrev aap(P:Nat->Prop)(a b:Nat)(v:Vg)(m:Except Ft (Frm×Vg)):Prop:=q9 P a b v Prod.snd (λr=>FB P [r.1]) m
theorem q9.st(hf:FB P [fr])(s:Vg):aap P a a s (.ok (fr,s)):=q9.ok rfl hf
theorem OO(h:FB P frs)(p:Nat)(x:BA)(n:Nat)(s:Bool):YP P n (n+1) v (kZ p x n s frs v):=λr e=>by
 unfold kZ at e;split at e
 ·cases e
 ·rename_i m hm;cases e;exact⟨⟨[(n,m)],rfl,by simp,λp hp=>by rw[List.mem_singleton.1 hp];exact⟨nR _,Nat.lt_succ_self _,h.look hm⟩⟩,trivial⟩
theorem IF(hP:∀n,n<N->P n):∀(ps:List Par)(a:Nat)(fr:Frm)(v:Vg),FB P [fr]->a+ps.length<=N->FB P [(jm ps a fr v).1]/\(jm ps a fr v).2.out=v.out
 |[],_,_,_,h,_=>⟨h,rfl⟩
 |q::ps,a,fr,v,h,hN=>by rw[jm];rw[List.length_cons]at hN;exact IF hP ps (a+1) _ (v7 v a fr.of) (h.add (hP a (by omega)) _) (by omega)
end
section
variable {P:Nat->Prop} {N:Nat}
mutual
theorem fg(hP:∀n,n<N->P n):∀(e:Ex)(a:Nat)(frs:List Frm)(v:Vg),FB P frs->a+aw e<=N->YP P a (a+aw e) v (bQ e a frs v)
 | .num ..,a,frs,v,_,_| .text ..,a,frs,v,_,_| .bool ..,a,frs,v,_,_| .null ..,a,frs,v,_,_=>by grind [bQ,q9.ok]
 | .var p x,a,frs,v,h,_=>by grind [bQ,aw,OO]
 | .fn _ ps _ _ body,a,frs,v,h,hN=>by
  rw[aw]at hN⊢
  rw[bQ];obtain⟨h1,h2⟩:=IF hP ps a ⟨[],a+ps.length+aI body+1,((a+ps.length+aI body+1:Nat):Int)⟩ v (FB.new _ _) (by omega);have h3:=λs=>(kS hP body (a+ps.length) _ frs s h1 h (by omega)).and (a:=a) (c:=a+(ps.length+aI body+2)) (o2:=id) (Q2:=λ_=>True) (k:=λr=>.ok r.2) λr _=>q9.ok (a:=a) (b:=a) rfl trivial
  exact(h3 _).mono h2.symm
 | .call _ e l,a,frs,v,h,hN=>by rw[aw]at hN⊢;rw[bQ];exact(fg hP e a frs v h (by omega)).and λr _=>sh hP l _ frs r h (by omega)
 | .get _ e _,a,frs,v,h,hN| .one _ _ e,a,frs,v,h,hN| .asX _ e _,a,frs,v,h,hN=>by rw[aw]at hN⊢;rw[bQ];exact(fg hP e a frs v h (by omega)).mono
 | .atX _ e i,a,frs,v,h,hN| .two _ _ e i,a,frs,v,h,hN=>by rw[aw]at hN⊢;rw[bQ];exact(fg hP e a frs v h (by omega)).and λr _=>fg hP i _ frs r h (by omega)
 | .obj _ l,a,frs,v,h,hN=>by rw[aw]at hN⊢;rw[bQ];exact(wI hP l a frs v h (by omega)).mono
 | .arr _ l,a,frs,v,h,hN=>by rw[aw]at hN⊢;rw[bQ];exact(sh hP l a frs v h (by omega)).mono
theorem sh(hP:∀n,n<N->P n):∀(l:List Ex)(a:Nat)(frs:List Frm)(v:Vg),FB P frs->a+eD l<=N->YP P a (a+eD l) v (jc l a frs v)
 |[],a,frs,v,_,_=>by grind [jc,q9.ok]
 |e::l,a,frs,v,h,hN=>by rw[eD]at hN⊢;rw[jc];exact(fg hP e a frs v h (by omega)).and λr _=>sh hP l _ frs r h (by omega)
theorem wI(hP:∀n,n<N->P n):∀(l:List (Nat×BA×Ex))(a:Nat)(frs:List Frm)(v:Vg),FB P frs->a+fu l<=N->YP P a (a+fu l) v (jl l a frs v)
 |[],a,frs,v,_,_=>by grind [jl,q9.ok]
 |(_,_,e)::l,a,frs,v,h,hN=>by rw[fu]at hN⊢;rw[jl];exact(fg hP e a frs v h (by omega)).and λr _=>wI hP l _ frs r h (by omega)
theorem kS(hP:∀n,n<N->P n):∀(l:List Sm)(a:Nat)(fr:Frm)(frs:List Frm)(v:Vg),FB P [fr]->FB P frs->a+aI l<=N->aap P a (a+aI l) v (fJ l a fr frs v)
 |[],a,fr,frs,v,h,_,_=>by grind [fJ,q9.ok]
 |e::l,a,fr,frs,v,h,g,hN=>by rw[aI]at hN⊢;rw[fJ];exact(QB hP e a fr frs v h g (by omega)).and λr hr=>kS hP l _ r.1 frs r.2 hr g (by omega)
theorem QB(hP:∀n,n<N->P n):∀(e:Sm)(a:Nat)(fr:Frm)(frs:List Frm)(v:Vg),FB P [fr]->FB P frs->a+cE e<=N->aap P a (a+cE e) v (dY e a fr frs v)
 | .fZ p x _ e,a,fr,frs,v,h,g,hN=>by
  rw[cE]at hN⊢
  rw[dY];have hf:=h.add (hP (a+aw e) (by omega)) x;split
  ·exact q9.er
  ·split
   ·exact((fg hP e a _ (v7 v (a+aw e) fr.of) (hf.cons g) (by omega)).mono (v':=v) (a:=a) (b:=a+aw e)).and λr _=>q9.st (a:=a) hf r
   ·exact(fg hP e a _ v (h.cons g) (by omega)).and λr _=>q9.ok (a:=a) (b:=a) rfl hf
 | .set p x e,a,fr,frs,v,h,g,hN=>by rw[cE]at hN⊢;rw[dY];exact(OO (h.cons g) p x (a+aw e) true).and λr _=>((fg hP e a _ r (h.cons g) (by omega)).and (a:=a) (c:=a+aw e) λr _=>q9.st (a:=a) h r)
 | .put _ e _ w,a,fr,frs,v,h,g,hN=>by rw[cE]at hN⊢;rw[dY];exact(fg hP e a _ v (h.cons g) (by omega)).and λr _=>(fg hP w _ _ r (h.cons g) (by omega)).and (a:=a+aw e) (c:=a+aw e+aw w) λr _=>q9.st (a:=a+aw e) h r
 | .lay _ e i w,a,fr,frs,v,h,g,hN=>by rw[cE]at hN⊢;rw[dY];exact(fg hP e a _ v (h.cons g) (by omega)).and λr _=>(fg hP i _ _ r (h.cons g) (by omega)).and (a:=a+aw e) (c:=a+aw e+aw i+aw w) λr _=>(fg hP w _ _ r (h.cons g) (by omega)).and (a:=a+aw e+aw i) (c:=a+aw e+aw i+aw w) λr _=>q9.st (a:=a+aw e+aw i) h r
 | .print _ e,a,fr,frs,v,h,g,hN| .ret _ e,a,fr,frs,v,h,g,hN| .oL _ e,a,fr,frs,v,h,g,hN=>by rw[cE]at hN⊢;rw[dY];exact(fg hP e a _ v (h.cons g) (by omega)).and λr _=>q9.st (a:=a) h r
 | .if_ _ e _ b none,a,fr,frs,v,h,g,hN| .while_ _ e _ b,a,fr,frs,v,h,g,hN=>by rw[cE]at hN⊢;rw[dY];exact(fg hP e a _ v (h.cons g) (by omega)).and λr _=>(kS hP b _ _ _ r (FB.new _ _) (h.cons g) (by omega)).and (a:=a+aw e) (c:=a+aw e+aI b) λr _=>q9.st (a:=a+aw e) h r.2
 | .if_ _ e _ b (some (_,c)),a,fr,frs,v,h,g,hN=>by rw[cE]at hN⊢;rw[dY];exact(fg hP e a _ v (h.cons g) (by omega)).and λr _=>(kS hP b _ _ _ r (FB.new _ _) (h.cons g) (by omega)).and (a:=a+aw e) (c:=a+aw e+aI b+1+aI c) λr _=>(kS hP c _ _ _ r.2 (FB.new _ _) (h.cons g) (by omega)).and (a:=a+aw e+aI b) (c:=a+aw e+aI b+1+aI c) λr _=>q9.st (a:=a+aw e+aI b) h r.2
end
theorem Vo.out{a b:Nat}{v v':Vg}(h:Vo P a b v v'):∀p∈v.out,p∈v'.out:=λp hp=>by
 obtain⟨k,h1,_⟩:=h
 grind
theorem xg(frs:List Frm):FB (λ_=>True) frs:=λ_ _ _ _=>trivial
theorem kJ(e:Ex)(a:Nat)(frs:List Frm)(v v':Vg)(h:bQ e a frs v=.ok v'):∀p∈v.out,p∈v'.out:=((fg (λ_ _=>trivial) e a frs v (xg _) (nR _)) _ h).1.out
theorem yy(l:List Ex)(a:Nat)(frs:List Frm)(v v':Vg)(h:jc l a frs v=.ok v'):∀p∈v.out,p∈v'.out:=((sh (λ_ _=>trivial) l a frs v (xg _) (nR _)) _ h).1.out
theorem KA(l:List (Nat×BA×Ex))(a:Nat)(frs:List Frm)(v v':Vg)(h:jl l a frs v=.ok v'):∀p∈v.out,p∈v'.out:=((wI (λ_ _=>trivial) l a frs v (xg _) (nR _)) _ h).1.out
theorem kq(l:List Sm)(a:Nat)(fr:Frm)(frs:List Frm)(v:Vg)(r:Frm×Vg)(h:fJ l a fr frs v=.ok r):∀p∈v.out,p∈r.2.out:=((kS (λ_ _=>trivial) l a fr frs v (xg _) (xg _) (nR _)) _ h).1.out
end
end Ty
namespace Ty
def lz(l:List Sm):Except Ft Vg:=aK (fJ l 0 ⟨[],aI l,-1⟩ [] ⟨[],λ_=>none,λ_=>false⟩) λr=>.ok r.2
theorem GG{l:List Sm}{v:Vg}(h:lz l=.ok v):Vo (λn=>n<aI l+1) 0 (aI l+1) ⟨[],λ_=>none,λ_=>false⟩ v:=by
 unfold lz at h;exact(((kS (P:=λn=>n<aI l+1) (N:=aI l) (λn h=>by omega) l 0 _ [] _ (FB.new _ _) (λ_ h=>by cases h) (by omega)).and (a:=0) (c:=aI l+1) (o2:=id) (Q2:=λ_=>True) (k:=λr=>.ok r.2) λr _=>q9.ok (a:=0) (b:=0) rfl trivial) v h).1
theorem pQ{l:List Sm}{v:Vg}(h:lz l=.ok v): (v.out.map Prod.fst).Nodup:=by
 obtain⟨k,h1,h2,_⟩:=GG h;rw[h1];exact h2
theorem MX{l:List Sm}{v:Vg}(h:lz l=.ok v):∀p∈v.out,p.1<aI l+1/\p.2<aI l+1:=λp hp=>by
 obtain⟨k,h1,_,h3⟩:=GG h;rw[h1]at hp
 exact⟨(h3 p hp).2.1,(h3 p hp).2.2⟩
end Ty
namespace Ty
structure Ck where
 of:Nat->Option Tr
 has:Nat->Option Tr
def rD(k:Nat):Tr:=.mk k [] [] [] []
def l7(ts:List Ty)(z:Int):Option Tr:=if z<0 then none else some (den ts z.toNat)
def B7(t:Option Tr):Tr:=t.getD Fp
def iv(ns:List Nd)(n:Nat):Nd:=(ns[n]?).getD (af 0 0)
def Lw(pg:Pg)(x:Nd):Tr:=.mk 9 [] [] (x.list.map λp=>B7 (l7 pg.ts (iv pg.ns p).ty)) [B7 (l7 pg.ts x.ty)]
def mQ(f:Tr)(l:List Tr):Option Tr:=
 if kindOf f=5 then some f
 else if kindOf f=9/\(aN f).length=l.length then(if bn (λj=>!fits (l.getD j bJ) ((aN f).getD j bJ)) l.length then none else some (gv f))
 else none
def Qz:BA:=⟨#[108,101,110,103,116,104]⟩
def F1(t:Tr)(x:BA):Option Tr:=
 if kindOf t=5 then some t else if kindOf t=8/\x=Qz then some (rD 1)else if kindOf t=7 then part (cC t) (partsOf t) x else none
def qU(t a:Tr):Option Tr:=
 if fits a (rD 1)=true/\(kindOf t=5\/kindOf t=8)then some (if kindOf t=5 then t else gv t)else none
def abT:BA:=⟨#[61,61]⟩
def X1:BA:=⟨#[43]⟩
def RQ:BA:=⟨#[60]⟩
def X3:BA:=⟨#[33]⟩
def RG:BA:=⟨#[116,121,112,101,111,102]⟩
def wz(t:Tr):Bool:=decide (kindOf t=1\/kindOf t=5)
def JB(x:BA)(a b:Tr):Option Tr:=
 if x=abT then some (rD 2)
 else if x=X1 then(if kindOf a=5\/kindOf b=5 then some (rD 5)else if kindOf a=kindOf b/\(kindOf a=1\/kindOf a=3)then some (rD (kindOf a))else none)
 else if wz a&&wz b then some (rD (if x=RQ then 2 else 1))else none
def K_(x:BA)(a:Tr):Option Tr:=
 if x=X3 then some (rD 2)else if x=RG then some (rD 3)else if wz a then some (rD 1)else none
abbrev stuck:Ft:=(0,0)
def Ox(p:Nat)(o:Option Tr):Except Ft Tr:=match o with
 |none=>.error (9,p)
 |some t=>.ok t
def tO(f:Nat->Option Tr)(n:Nat):Tr:=(f n).getD bJ
def iU(pg:Pg)(x:Nd):List Nat:=
 if x.kind=7 then x.a::x.list else if x.kind=8\/x.kind=13 then [x.a]else if x.kind=9\/x.kind=12 then [x.a,x.b]
 else if x.kind=11 then x.list else if x.kind=10 then x.list.map λp=>(iv pg.ns p).a else []
def ji(f:Nat->Option Tr)(l:List Nat):Bool:=l.all λn=>(f n).isSome
def AA(pg:Pg)(tq:Nat->Nat)(s:Ck)(n:Nat)(x:Nd):Except Ft Tr:=
  if x.kind=1 then .ok (rD 1)else if x.kind=2 then .ok (rD 3)else if x.kind=3 then .ok (rD 2)else if x.kind=4 then .ok (rD 4)
  else if x.kind=5 then(match s.has (tq n)with
   |none=>.error stuck
   |some t=>.ok t)
  else if x.kind=6 then .ok (Lw pg x)
  else if x.kind=7 then Ox x.pos (mQ (tO s.of x.a) (x.list.map (tO s.of)))
  else if x.kind=8 then Ox x.pos (F1 (tO s.of x.a) x.text)
  else if x.kind=9 then Ox x.pos (qU (tO s.of x.a) (tO s.of x.b))
  else if x.kind=11 then .ok (.mk 8 [] [] [] [qz (x.list.map (tO s.of))])
  else if x.kind=10 then .ok (.mk 7 (x.list.map λp=>(iv pg.ns p).text) (x.list.map λp=>tO s.of (iv pg.ns p).a) [] [])
  else if x.kind=12 then Ox x.pos (JB x.text (tO s.of x.a) (tO s.of x.b))
  else if x.kind=13 then Ox x.pos (K_ x.text (tO s.of x.a))
  else(match l7 pg.ts x.ty with
   |none=>.error stuck
   |some t=>.ok t)
def qB(pg:Pg)(tq:Nat->Nat)(s:Ck)(n:Nat)(x:Nd):Except Ft Tr:=if ji s.of (iU pg x)then AA pg tq s n x else .error stuck
def iO(f:Nat->Option Tr)(n:Nat)(t:Tr):Nat->Option Tr:=λk=>if k=n then some t else f k
def FV(pg:Pg)(tq:Nat->Nat)(n:Nat)(x:Nd)(s:Ck):Except Ft Ck:=
 aK (qB pg tq s n x) λt=>if dK t<=300 then .ok {s with of:=iO s.of n t}else .error (2,x.pos)
def oe(x:Nd):List Nat:=
 if x.kind=17\/x.kind=18\/x.kind=24 then [x.a]else if x.kind=19 then [x.a,x.b]else if x.kind=20 then [x.a,x.b,x.c.toNat]else []
def jY(b:Bool)(e p:Nat)(s:Ck):Except Ft Ck:=if b then .ok s else .error (e,p)
def AZ(pg:Pg)(tq:Nat->Nat)(bk:List (Option Tr))(n:Nat)(x:Nd)(s:Ck):Except Ft Ck:=
  if x.kind=17 then aK (jY (fits (tO s.of x.a) ((l7 pg.ts x.ty).getD (tO s.of x.a))) 9 x.pos s) λs=>.ok {s with has:=iO s.has n ((l7 pg.ts x.ty).getD (tO s.of x.a))}
  else if x.kind=18 then(match s.has (tq n)with
   |none=>.error stuck
   |some t=>jY (fits (tO s.of x.a) t) 9 x.pos s)
  else if x.kind=19 then aK (Ox x.pos (F1 (tO s.of x.a) x.text)) λt=>jY (fits (tO s.of x.b) t) 9 x.pos s
  else if x.kind=20 then aK (Ox x.pos (qU (tO s.of x.a) (tO s.of x.b))) λt=>jY (fits (tO s.of x.c.toNat) t) 9 x.pos s
  else if x.kind=24 then(match bk.getLast? with
   |none=>.error (4,x.pos)
   |some none=>.ok s
   |some (some t)=>jY (fits (tO s.of x.a) t) 9 x.pos s)
  else .ok s
def wV(pg:Pg)(tq:Nat->Nat)(bk:List (Option Tr))(n:Nat)(x:Nd)(s:Ck):Except Ft Ck:=if ji s.of (oe x)then AZ pg tq bk n x s else .error stuck
def ky(pg:Pg)(tq:Nat->Nat)(n:Nat)(bk:List (Option Tr))(s:Ck):Except Ft Ck:=
 if 1<=(iv pg.ns n).kind/\(iv pg.ns n).kind<=14 then FV pg tq n (iv pg.ns n) s else wV pg tq bk n (iv pg.ns n) s
def iI(pg:Pg):List Nat->Ck->Ck
 |[],s=>s
 |p::l,s=>iI pg l {s with has:=iO s.has p (B7 (l7 pg.ts (iv pg.ns p).ty))}
def Gy(pg:Pg)(x:Nd):Tr:=(l7 pg.ts x.ty).getD (Lw pg (iv pg.ns x.a))
def px(pg:Pg)(n:Nat)(s:Ck):Ck:=if(iv pg.ns (iv pg.ns n).a).kind=6 then{s with has:=iO s.has n (Gy pg (iv pg.ns n))}else s
mutual
def fX(pg:Pg)(tq:Nat->Nat):Ex->Nat->List (Option Tr)->Ck->Except Ft Ck
 | .num ..,a,bk,s=>ky pg tq a bk s
 | .text ..,a,bk,s=>ky pg tq a bk s
 | .bool ..,a,bk,s=>ky pg tq a bk s
 | .null ..,a,bk,s=>ky pg tq a bk s
 | .var ..,a,bk,s=>ky pg tq a bk s
 | .fn _ ps ty _ body,a,bk,s=>aK (j_ pg tq body (a+ps.length) (bk++[l7 pg.ts ty]) (iI pg (fw ps a) s)) λs=>ky pg tq (a+ps.length+aI body+1) bk s
 | .call _ e l,a,bk,s=>aK (fX pg tq e a bk s) λs=>aK (oF pg tq l (a+aw e) bk s) λs=>ky pg tq (a+aw e+eD l) bk s
 | .get _ e _,a,bk,s=>aK (fX pg tq e a bk s) λs=>ky pg tq (a+aw e) bk s
 | .atX _ e i,a,bk,s=>aK (fX pg tq e a bk s) λs=>aK (fX pg tq i (a+aw e) bk s) λs=>ky pg tq (a+aw e+aw i) bk s
 | .obj _ l,a,bk,s=>aK (pE pg tq l a bk s) λs=>ky pg tq (a+fu l) bk s
 | .arr _ l,a,bk,s=>aK (oF pg tq l a bk s) λs=>ky pg tq (a+eD l) bk s
 | .two _ _ e i,a,bk,s=>aK (fX pg tq e a bk s) λs=>aK (fX pg tq i (a+aw e) bk s) λs=>ky pg tq (a+aw e+aw i) bk s
 | .one _ _ e,a,bk,s=>aK (fX pg tq e a bk s) λs=>ky pg tq (a+aw e) bk s
 | .asX _ e _,a,bk,s=>aK (fX pg tq e a bk s) λs=>ky pg tq (a+aw e) bk s
def oF(pg:Pg)(tq:Nat->Nat):List Ex->Nat->List (Option Tr)->Ck->Except Ft Ck
 |[],_,_,s=>.ok s
 |e::l,a,bk,s=>aK (fX pg tq e a bk s) λs=>oF pg tq l (a+aw e) bk s
def pE(pg:Pg)(tq:Nat->Nat):List (Nat×BA×Ex)->Nat->List (Option Tr)->Ck->Except Ft Ck
 |[],_,_,s=>.ok s
 |(_,_,e)::l,a,bk,s=>aK (aK (fX pg tq e a bk s) λs=>ky pg tq (a+aw e) bk s) λs=>pE pg tq l (a+aw e+1) bk s
def j_(pg:Pg)(tq:Nat->Nat):List Sm->Nat->List (Option Tr)->Ck->Except Ft Ck
 |[],_,_,s=>.ok s
 |e::l,a,bk,s=>aK (lN pg tq e a bk s) λs=>j_ pg tq l (a+cE e) bk s
def lN(pg:Pg)(tq:Nat->Nat):Sm->Nat->List (Option Tr)->Ck->Except Ft Ck
 | .fZ _ _ _ e,a,bk,s=>aK (fX pg tq e a bk (px pg (a+aw e) s)) λs=>ky pg tq (a+aw e) bk s
 | .set _ _ e,a,bk,s=>aK (fX pg tq e a bk s) λs=>ky pg tq (a+aw e) bk s
 | .put _ e _ v,a,bk,s=>aK (fX pg tq e a bk s) λs=>aK (fX pg tq v (a+aw e) bk s) λs=>ky pg tq (a+aw e+aw v) bk s
 | .lay _ e i v,a,bk,s=>aK (fX pg tq e a bk s) λs=>aK (fX pg tq i (a+aw e) bk s) λs=>aK (fX pg tq v (a+aw e+aw i) bk s) λs=>ky pg tq (a+aw e+aw i+aw v) bk s
 | .print _ e,a,bk,s=>aK (fX pg tq e a bk s) λs=>ky pg tq (a+aw e) bk s
 | .ret _ e,a,bk,s=>aK (fX pg tq e a bk s) λs=>ky pg tq (a+aw e) bk s
 | .oL _ e,a,bk,s=>aK (fX pg tq e a bk s) λs=>ky pg tq (a+aw e) bk s
 | .if_ _ e _ b none,a,bk,s=>aK (fX pg tq e a bk s) λs=>aK (j_ pg tq b (a+aw e) bk s) λs=>ky pg tq (a+aw e+aI b+1) bk s
 | .if_ _ e _ b (some (_,c)),a,bk,s=>aK (fX pg tq e a bk s) λs=>aK (j_ pg tq b (a+aw e) bk s) λs=>aK (j_ pg tq c (a+aw e+aI b+1) bk s) λs=>ky pg tq (a+aw e+aI b+1+aI c+1) bk s
 | .while_ _ e _ b,a,bk,s=>aK (fX pg tq e a bk s) λs=>aK (j_ pg tq b (a+aw e) bk s) λs=>ky pg tq (a+aw e+aI b+1) bk s
end
def MY(pg:Pg)(tq:Nat->Nat)(l:List Sm):Except Ft Ck:=j_ pg tq l 0 [] ⟨λ_=>none,λ_=>none⟩
end Ty
end Go.Proofs.YtdlbhiaceheffabGreatDoor
