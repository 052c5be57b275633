/- Walks of show.writer's branch and statement. -/
import Derived.Lib.UnsafeStr
import Derived.Test.YtdlbhiaceheffabGreatDoorC38
set_option linter.all false
set_option maxRecDepth 100000
set_option maxHeartbeats 4000000
namespace Go.Proofs.YtdlbhiaceheffabGreatDoor
open Go Go.RowKit Ty Tok Prt Tryz Proofs.Tryz
structure NdRd(w:World)(b:Nat)(nd:Nd)(lv:Value):Prop where
 d0:w.cell? ⟨b,0,none⟩=some (.int .i64 nd.kind)
 d1:w.cell? ⟨b,1,none⟩=some (.int .i64 nd.a)
 d2:w.cell? ⟨b,2,none⟩=some (.int .i64 nd.b)
 d3:w.cell? ⟨b,3,none⟩=some (.int .i64 nd.c)
 d4:w.cell? ⟨b,4,none⟩=some lv
 d5:w.cell? ⟨b,5,none⟩=some (.string nd.text)
 d6:w.cell? ⟨b,6,none⟩=some (.int .i64 nd.n)
 d7:w.cell? ⟨b,7,none⟩=some (.int .i64 nd.ty)
 d8:w.cell? ⟨b,8,none⟩=some (.int .i64 nd.pos)
section
variable {wB:World} {nv tv:Value} {pg:Ty.Pg} {wb:Nat} {main:Int}
theorem dw{w:World}{Fr:As}{ind:Nat}{out:List UInt8}{b:Nat}{nd:Nd}{lv:Value}(h:Sat wB w [aq [Fr,ax b (cj nd lv)],gu wb nv tv main ind out]):NdRd w b nd lv:=
 ⟨h.bA.cell 2 0,h.bA.cell 2 1,h.bA.cell 2 2,h.bA.cell 2 3,h.bA.cell 2 4,h.bA.cell 2 5,h.bA.cell 2 6,h.bA.cell 2 7,h.bA.cell 2 8⟩
def U4(wB:World)(nv tv:Value)(pg:Ty.Pg)(wb:Nat)(main:Int)(s:Ty.Sm):Prop:=
 ∀(n:Nat)(nd:Nd)(lv:Value),bK pg.ns s n->pg.ns[n]?=some nd->(∃a m c,lv=.slice a m c)->nd.list.length=0->
  ∀(ind:Nat)(x out:List UInt8)(w:World)(Fr:As),wS pg.ts ind s=Ty.aM ind++x++[10]->ju wB Fr->Sat wB w [Fr,gu wb nv tv main ind out]->ind+Ty.cE s<=1300->
  out.length+x.length<=900000000->∀R:EW,(∀w',Sat wB w' [Fr,gu wb nv tv main ind (out++x)]->R (.returned (.tuple #[])) w')->
  Calls prog 71 #[.pointer (some ⟨wb,0,none⟩),aH nd lv] w R
theorem Av{p bp:Nat}{a:Ty.Ex}{b:List Ty.Sm}(ha:qK wB nv tv pg wb main a)(hb:UW wB nv tv pg wb main b):U4 wB nv tv pg wb main (.while_ p a bp b):=by
 intro n nd lv hd hn xV By ind x out w Fr hx hF H dU hlen R hR;rw[bK]at hd
 obtain⟨na,nb,h1,ml,uE⟩:=hd;rw[hn]at h1
 cases h1;rw[Ty.cE]at dU
 have e:wS pg.ts ind (.while_ p a bp b)=Ty.aM ind++([119,104,105,108,101,32,40]++wE pg.ts ind a++[41,32]++Ty.wB pg.ts ind b)++[10]:=by rw[wS];unfold Ty.wB;simp
 rw[e]at hx
 have hx:=List.append_cancel_left (List.append_cancel_right hx);subst hx;have HA:=qh (λo w1 F' fW h ho=>ha na ml 0 ind o w1 F' fW h (by omega) (by omega) ho);have HB:=qh (λ(o:List UInt8)(w1:World) F'(fW:ju wB F') h ho=>hb bp nb uE ind o w1 F' fW h (by omega) ho);simp only[<-gw pg.ts ind a]at hlen hR;obtain⟨la,ln,lc,rfl⟩:=xV;generalize wP pg.ts ind 0 a=pa at*
 generalize Ty.wB pg.ts ind b=pb at*
 simp only[lzA,lzC,lzN]at hlen;have HF:=qh (hF.aq (M:=[ax w.heap.size (cj {Ty.af 23 p with a:=na,b:=nb} (.slice la ln lc))]));have h1:=(H.ar (cj {Ty.af 23 p with a:=na,b:=nb} (.slice la ln lc)) w.heap.size).swap;have q:=dw h1;have q0:=q.d0;have q1:=q.d1;have q2:=q.d2;dsimp only[aH,Ty.af]at*
 go_enter func71,ntmps71;go_wp2_with fail;refine dH h1 _ [119,104,105,108,101,32,40] rfl (by have:=hlen;(try simp only[List.length_cons,List.length_nil]at this⊢);omega) _ (by simp) (λw2 h2=>?_);have q:=dw h2;have q0:=q.d0;have q1:=q.d1;have q2:=q.d2;go_wp2_with fail;refine HA.o _ _ _ HF.o h2 (by have:=hlen;(try simp only[lzA,lzC,lzN]at this⊢);omega) _ (λw3 h3=>?_);have q:=dw h3;have q0:=q.d0;have q1:=q.d1;have q2:=q.d2;go_wp2_with fail;refine dH h3 _ [41,32] rfl (by have:=hlen;(try simp only[lzA,lzC,lzN]at this⊢);omega) _ (by simp) (λw4 h4=>?_);have q:=dw h4;have q0:=q.d0;have q1:=q.d1;have q2:=q.d2;go_wp2_with fail;refine HB.o _ _ _ HF.o h4 (by have:=hlen;(try simp only[lzA,lzC,lzN]at this⊢);omega) _ (λw5 h5=>?_);have q:=dw h5;have q0:=q.d0;have q1:=q.d1;have q2:=q.d2;go_wp2;go_end0;refine hR _ ?_;rw[show out++([119,104,105,108,101,32,40]++pa++[41,32]++pb)=out++[119,104,105,108,101,32,40]++pa++[41,32]++pb by simp];exact h5.bA.pick [0,1]
theorem JZ{p bp:Nat}{a:Ty.Ex}{b:List Ty.Sm}(ha:qK wB nv tv pg wb main a)(hb:UW wB nv tv pg wb main b):U4 wB nv tv pg wb main (.if_ p a bp b none):=by
 intro n nd lv hd hn xV By ind x out w Fr hx hF H dU hlen R hR;rw[bK]at hd
 obtain⟨na,nb,h1,ml,uE⟩:=hd;rw[hn]at h1
 cases h1;rw[Ty.cE]at dU
 have e:wS pg.ts ind (.if_ p a bp b none)=Ty.aM ind++([105,102,32,40]++wE pg.ts ind a++[41,32]++Ty.wB pg.ts ind b)++[10]:=by rw[wS];unfold Ty.wB;simp
 rw[e]at hx
 have hx:=List.append_cancel_left (List.append_cancel_right hx);subst hx;have HA:=qh (λo w1 F' fW h ho=>ha na ml 0 ind o w1 F' fW h (by omega) (by omega) ho);have HB:=qh (λ(o:List UInt8)(w1:World) F'(fW:ju wB F') h ho=>hb bp nb uE ind o w1 F' fW h (by omega) ho);simp only[<-gw pg.ts ind a]at hlen hR;obtain⟨la,ln,lc,rfl⟩:=xV;generalize wP pg.ts ind 0 a=pa at*
 generalize Ty.wB pg.ts ind b=pb at*
 simp only[lzA,lzC,lzN]at hlen;have HF:=qh (hF.aq (M:=[ax w.heap.size (cj {Ty.af 22 p with a:=na,b:=nb,c:= -1} (.slice la ln lc))]));have h1:=(H.ar (cj {Ty.af 22 p with a:=na,b:=nb,c:= -1} (.slice la ln lc)) w.heap.size).swap;have q:=dw h1;have q0:=q.d0;have q1:=q.d1;have q2:=q.d2;have q3:=q.d3;dsimp only[aH,Ty.af]at*
 go_enter func71,ntmps71;go_wp2_with fail;refine dH h1 _ [105,102,32,40] rfl (by have:=hlen;(try simp only[List.length_cons,List.length_nil]at this⊢);omega) _ (by simp) (λw2 h2=>?_);have q:=dw h2;have q0:=q.d0;have q1:=q.d1;have q2:=q.d2;have q3:=q.d3;go_wp2_with fail;refine HA.o _ _ _ HF.o h2 (by have:=hlen;(try simp only[lzA,lzC,lzN]at this⊢);omega) _ (λw3 h3=>?_);have q:=dw h3;have q0:=q.d0;have q1:=q.d1;have q2:=q.d2;have q3:=q.d3;go_wp2_with fail;refine dH h3 _ [41,32] rfl (by have:=hlen;(try simp only[lzA,lzC,lzN]at this⊢);omega) _ (by simp) (λw4 h4=>?_);have q:=dw h4;have q0:=q.d0;have q1:=q.d1;have q2:=q.d2;have q3:=q.d3;go_wp2_with fail;refine HB.o _ _ _ HF.o h4 (by have:=hlen;(try simp only[lzA,lzC,lzN]at this⊢);omega) _ (λw5 h5=>?_);have q:=dw h5;have q0:=q.d0;have q1:=q.d1;have q2:=q.d2;have q3:=q.d3;go_wp2;go_end0;refine hR _ ?_;rw[show out++([105,102,32,40]++pa++[41,32]++pb)=out++[105,102,32,40]++pa++[41,32]++pb by simp];exact h5.bA.pick [0,1]
theorem Dr{p bp cp:Nat}{a:Ty.Ex}{b c:List Ty.Sm}(ha:qK wB nv tv pg wb main a)(hb:UW wB nv tv pg wb main b)(hc:UW wB nv tv pg wb main c):U4 wB nv tv pg wb main (.if_ p a bp b (some (cp,c))):=by
 intro n nd lv hd hn xV By ind x out w Fr hx hF H dU hlen R hR;rw[bK]at hd
 obtain⟨na,nb,nc,h1,ml,uE,ac1⟩:=hd;rw[hn]at h1
 cases h1;rw[Ty.cE]at dU
 have e:wS pg.ts ind (.if_ p a bp b (some (cp,c)))=Ty.aM ind++([105,102,32,40]++wE pg.ts ind a++[41,32]++Ty.wB pg.ts ind b++[32,101,108,115,101,32]++Ty.wB pg.ts ind c)++[10]:=by rw[wS];unfold Ty.wB;simp
 rw[e]at hx
 have hx:=List.append_cancel_left (List.append_cancel_right hx);subst hx;have HA:=qh (λo w1 F' fW h ho=>ha na ml 0 ind o w1 F' fW h (by omega) (by omega) ho);have HB:=qh (λ(o:List UInt8)(w1:World) F'(fW:ju wB F') h ho=>hb bp nb uE ind o w1 F' fW h (by omega) ho);have HC:=qh (λ(o:List UInt8)(w1:World) F'(fW:ju wB F') h ho=>hc cp nc ac1 ind o w1 F' fW h (by omega) ho);simp only[<-gw pg.ts ind a]at hlen hR;obtain⟨la,ln,lc,rfl⟩:=xV;generalize wP pg.ts ind 0 a=pa at*
 generalize Ty.wB pg.ts ind b=pb at*
 generalize Ty.wB pg.ts ind c=pc at*
 simp only[lzA,lzC,lzN]at hlen;have HF:=qh (hF.aq (M:=[ax w.heap.size (cj {Ty.af 22 p with a:=na,b:=nb,c:=((nc:Nat):Int)} (.slice la ln lc))]));have h1:=(H.ar (cj {Ty.af 22 p with a:=na,b:=nb,c:=((nc:Nat):Int)} (.slice la ln lc)) w.heap.size).swap;have q:=dw h1;have q0:=q.d0;have q1:=q.d1;have q2:=q.d2;have q3:=q.d3;dsimp only[aH,Ty.af]at*
 go_enter func71,ntmps71;go_wp2_with fail;refine dH h1 _ [105,102,32,40] rfl (by have:=hlen;(try simp only[List.length_cons,List.length_nil]at this⊢);omega) _ (by simp) (λw2 h2=>?_);have q:=dw h2;have q0:=q.d0;have q1:=q.d1;have q2:=q.d2;have q3:=q.d3;go_wp2_with fail;refine HA.o _ _ _ HF.o h2 (by have:=hlen;(try simp only[lzA,lzC,lzN]at this⊢);omega) _ (λw3 h3=>?_);have q:=dw h3;have q0:=q.d0;have q1:=q.d1;have q2:=q.d2;have q3:=q.d3;go_wp2_with fail;refine dH h3 _ [41,32] rfl (by have:=hlen;(try simp only[lzA,lzC,lzN]at this⊢);omega) _ (by simp) (λw4 h4=>?_);have q:=dw h4;have q0:=q.d0;have q1:=q.d1;have q2:=q.d2;have q3:=q.d3;go_wp2_with fail;refine HB.o _ _ _ HF.o h4 (by have:=hlen;(try simp only[lzA,lzC,lzN]at this⊢);omega) _ (λw5 h5=>?_);have q:=dw h5;have q0:=q.d0;have q1:=q.d1;have q2:=q.d2;have q3:=q.d3;go_wp2_with fail;refine dH h5 _ [32,101,108,115,101,32] rfl (by have:=hlen;(try simp only[lzA,lzC,lzN]at this⊢);omega) _ (by simp) (λw6 h6=>?_);have q:=dw h6;have q0:=q.d0;have q1:=q.d1;have q2:=q.d2;have q3:=q.d3;go_wp2_with fail;refine HC.o _ _ _ HF.o h6 (by have:=hlen;(try simp only[lzA,lzC,lzN]at this⊢);omega) _ (λw7 h7=>?_);have q:=dw h7;have q0:=q.d0;have q1:=q.d1;have q2:=q.d2;have q3:=q.d3;go_wp2;go_end0;refine hR _ ?_;rw[show out++([105,102,32,40]++pa++[41,32]++pb++[32,101,108,115,101,32]++pc)=out++[105,102,32,40]++pa++[41,32]++pb++[32,101,108,115,101,32]++pc by simp];exact h7.bA.pick [0,1]
end
section
variable {wB:World} {nv tv:Value} {pg:Ty.Pg} {wb:Nat} {main:Int}
theorem OS(hP:PB wB nv tv pg){p:Nat}{x:BA}{ty:Int}{a:Ty.Ex}(ha:qK wB nv tv pg wb main a):J7 wB nv tv pg wb main (.fZ p x ty a):=by
 intro n hd ind out w Fr hF H dU hlen R hR;rw[bK]at hd
 obtain⟨na,h1,ml⟩:=hd;rw[Ty.cE]at dU
 have e:wS pg.ts ind (.fZ p x ty a)=Ty.aM ind++[108,101,116,32]++x.data.toList++nQ pg.ts ty++[32,61,32]++wE pg.ts ind a++[59,10]:=by rw[wS]<;>rfl
 rw[e]at hlen hR
 have oG:=qh (λ(R:EW)=>eh (R:=R) hP hF H h1);have Ez:wh ty pg.ts:=(hP.ok.ns _ (List.mem_of_getElem? h1)).ty;have HT:=qh (λ(o:List UInt8)(w1:World) F'(fW:ju wB F')(h:Sat wB w1 [F',gu wb nv tv main ind o]) ho(R:EW)=>sV (R:=R) hP fW h Ez ho);have HA:=qh (λo w1 F' fW h ho=>ha na ml 0 ind o w1 F' fW h (by omega) (by omega) ho);have ea:=gw pg.ts ind a;rw[<-ea]at hlen hR
 generalize nQ pg.ts ty=pc at*
 generalize wP pg.ts ind 0 a=pa at*
 simp only[lzA,lzC,lzN]at hlen;have Pl:ind<=1300:=by omega
 go_enter func36,ntmps36;go_wp2_with fail;refine oG.o _ (λw1 lv hl cd=>?_);obtain⟨la,lc,rfl⟩:=ag hl;have h2:=((H.below cd).ar (cj {Ty.af 17 p with text:=x,ty:=ty,a:=na} (.slice la ({Ty.af 17 p with text:=x,ty:=ty,a:=na}).list.length lc)) w1.heap.size).swap;have HF:=qh (hF.aq (M:=[ax w1.heap.size (cj {Ty.af 17 p with text:=x,ty:=ty,a:=na} (.slice la ({Ty.af 17 p with text:=x,ty:=ty,a:=na}).list.length lc))]));obtain⟨r5,rf,rl⟩:=ic (H.below cd);have q:=dw h2;have q0:=q.d0;have q1:=q.d1;have q5:=q.d5;have q7:=q.d7;dsimp only[aH,Ty.af,List.length_nil]at*
 go_wp2_with fail;refine eV _ ind (by omega) (λw3 cZ=>?_);have h3:=h2.below cZ;have q:=dw h3;have q0:=q.d0;have q1:=q.d1;have q5:=q.d5;have q7:=q.d7;go_wp2_with fail;refine dH h3 _ (Ty.aM ind) rfl (by have:=hlen;(try simp only[lzA,lzC,lzN]at this⊢);omega) _ (by simp) (λw4 h4=>?_);have q:=dw h4;have q0:=q.d0;have q1:=q.d1;have q5:=q.d5;have q7:=q.d7;go_wp2_with fail;refine FG h4 _ _ [108,101,116,32] x.data.toList rfl (lZ x).symm (by have:=hlen;(try simp only[lzA,lzC,lzN]at this⊢);omega) _ (by simp) (λw5 h5=>?_);have q:=dw h5;have q0:=q.d0;have q1:=q.d1;have q5:=q.d5;have q7:=q.d7;go_wp2_with fail;refine HT.o _ _ _ HF.o h5 (by have:=hlen;(try simp only[lzA,lzC,lzN]at this⊢);omega) _ (λw6 h6=>?_);have q:=dw h6;have q0:=q.d0;have q1:=q.d1;have q5:=q.d5;have q7:=q.d7;go_wp2_with fail;refine dH h6 _ [32,61,32] rfl (by have:=hlen;(try simp only[lzA,lzC,lzN]at this⊢);omega) _ (by simp) (λw7 h7=>?_);have q:=dw h7;have q0:=q.d0;have q1:=q.d1;have q5:=q.d5;have q7:=q.d7;go_wp2_with fail;refine HA.o _ _ _ HF.o h7 (by have:=hlen;(try simp only[lzA,lzC,lzN]at this⊢);omega) _ (λw8 h8=>?_);have q:=dw h8;have q0:=q.d0;have q1:=q.d1;have q5:=q.d5;have q7:=q.d7;go_wp2_with fail;refine dH h8 _ [59,10] rfl (by have:=hlen;(try simp only[lzA,lzC,lzN]at this⊢);omega) _ (by simp) (λw9 h9=>?_);go_wp2;go_end0;refine hR _ ?_;rw[show out++(Ty.aM ind++[108,101,116,32]++x.data.toList++pc++[32,61,32]++pa++[59,10])=out++Ty.aM ind++([108,101,116,32]++x.data.toList)++pc++[32,61,32]++pa++[59,10]by simp];exact h9.bA.pick [0,1]
theorem O4(hP:PB wB nv tv pg){p:Nat}{x:BA}{a:Ty.Ex}(ha:qK wB nv tv pg wb main a):J7 wB nv tv pg wb main (.set p x a):=by
 intro n hd ind out w Fr hF H dU hlen R hR;rw[bK]at hd
 obtain⟨na,h1,ml⟩:=hd;rw[Ty.cE]at dU
 have e:wS pg.ts ind (.set p x a)=Ty.aM ind++x.data.toList++[32,61,32]++wE pg.ts ind a++[59,10]:=by rw[wS]<;>rfl
 rw[e]at hlen hR
 have oG:=qh (λ(R:EW)=>eh (R:=R) hP hF H h1);have HA:=qh (λo w1 F' fW h ho=>ha na ml 0 ind o w1 F' fW h (by omega) (by omega) ho);have ea:=gw pg.ts ind a;rw[<-ea]at hlen hR
 generalize wP pg.ts ind 0 a=pa at*
 simp only[lzA,lzC,lzN]at hlen;have Pl:ind<=1300:=by omega
 go_enter func36,ntmps36;go_wp2_with fail;refine oG.o _ (λw1 lv hl cd=>?_);obtain⟨la,lc,rfl⟩:=ag hl;have h2:=((H.below cd).ar (cj {Ty.af 18 p with text:=x,a:=na} (.slice la ({Ty.af 18 p with text:=x,a:=na}).list.length lc)) w1.heap.size).swap;have HF:=qh (hF.aq (M:=[ax w1.heap.size (cj {Ty.af 18 p with text:=x,a:=na} (.slice la ({Ty.af 18 p with text:=x,a:=na}).list.length lc))]));obtain⟨r5,rf,rl⟩:=ic (H.below cd);have q:=dw h2;have q0:=q.d0;have q1:=q.d1;have q5:=q.d5;dsimp only[aH,Ty.af,List.length_nil]at*
 go_wp2_with fail;refine eV _ ind (by omega) (λw3 cZ=>?_);have h3:=h2.below cZ;have q:=dw h3;have q0:=q.d0;have q1:=q.d1;have q5:=q.d5;go_wp2_with fail;refine dH h3 _ (Ty.aM ind) rfl (by have:=hlen;(try simp only[lzA,lzC,lzN]at this⊢);omega) _ (by simp) (λw4 h4=>?_);have q:=dw h4;have q0:=q.d0;have q1:=q.d1;have q5:=q.d5;go_wp2_with fail;refine FG h4 _ _ x.data.toList [32,61,32] (lZ x).symm rfl (by have:=hlen;(try simp only[lzA,lzC,lzN]at this⊢);omega) _ (by simp) (λw5 h5=>?_);have q:=dw h5;have q0:=q.d0;have q1:=q.d1;have q5:=q.d5;go_wp2_with fail;refine HA.o _ _ _ HF.o h5 (by have:=hlen;(try simp only[lzA,lzC,lzN]at this⊢);omega) _ (λw6 h6=>?_);have q:=dw h6;have q0:=q.d0;have q1:=q.d1;have q5:=q.d5;go_wp2_with fail;refine dH h6 _ [59,10] rfl (by have:=hlen;(try simp only[lzA,lzC,lzN]at this⊢);omega) _ (by simp) (λw7 h7=>?_);go_wp2;go_end0;refine hR _ ?_;rw[show out++(Ty.aM ind++x.data.toList++[32,61,32]++pa++[59,10])=out++Ty.aM ind++(x.data.toList++[32,61,32])++pa++[59,10]by simp];exact h7.bA.pick [0,1]
theorem N0(hP:PB wB nv tv pg){p:Nat}{x:BA}{a v:Ty.Ex}(ha:qK wB nv tv pg wb main a)(hv:qK wB nv tv pg wb main v):J7 wB nv tv pg wb main (.put p a x v):=by
 intro n hd ind out w Fr hF H dU hlen R hR;rw[bK]at hd
 obtain⟨na,nb,h1,ml,Y_⟩:=hd;rw[Ty.cE]at dU
 have e:wS pg.ts ind (.put p a x v)=Ty.aM ind++wP pg.ts ind 4 a++[46]++x.data.toList++[32,61,32]++wE pg.ts ind v++[59,10]:=by rw[wS]<;>rfl
 rw[e]at hlen hR
 have oG:=qh (λ(R:EW)=>eh (R:=R) hP hF H h1);have HA:=qh (λo w1 F' fW h ho=>ha na ml 4 ind o w1 F' fW h (by omega) (by omega) ho);have HV:=qh (λo w1 F' fW h ho=>hv nb Y_ 0 ind o w1 F' fW h (by omega) (by omega) ho);have ev:=gw pg.ts ind v;rw[<-ev]at hlen hR
 generalize wP pg.ts ind 4 a=pa at*
 generalize wP pg.ts ind 0 v=pv at*
 simp only[lzA,lzC,lzN]at hlen;have Pl:ind<=1300:=by omega
 go_enter func36,ntmps36;go_wp2_with fail;refine oG.o _ (λw1 lv hl cd=>?_);obtain⟨la,lc,rfl⟩:=ag hl;have h2:=((H.below cd).ar (cj {Ty.af 19 p with text:=x,a:=na,b:=nb} (.slice la ({Ty.af 19 p with text:=x,a:=na,b:=nb}).list.length lc)) w1.heap.size).swap;have HF:=qh (hF.aq (M:=[ax w1.heap.size (cj {Ty.af 19 p with text:=x,a:=na,b:=nb} (.slice la ({Ty.af 19 p with text:=x,a:=na,b:=nb}).list.length lc))]));obtain⟨r5,rf,rl⟩:=ic (H.below cd);have q:=dw h2;have q0:=q.d0;have q1:=q.d1;have q2:=q.d2;have q5:=q.d5;dsimp only[aH,Ty.af,List.length_nil]at*
 go_wp2_with fail;refine eV _ ind (by omega) (λw3 cZ=>?_);have h3:=h2.below cZ;have q:=dw h3;have q0:=q.d0;have q1:=q.d1;have q2:=q.d2;have q5:=q.d5;go_wp2_with fail;refine dH h3 _ (Ty.aM ind) rfl (by have:=hlen;(try simp only[lzA,lzC,lzN]at this⊢);omega) _ (by simp) (λw4 h4=>?_);have q:=dw h4;have q0:=q.d0;have q1:=q.d1;have q2:=q.d2;have q5:=q.d5;go_wp2_with fail;refine HA.o _ _ _ HF.o h4 (by have:=hlen;(try simp only[List.length_append]at this⊢);omega) _ (λw5 h5=>?_);have q:=dw h5;have q0:=q.d0;have q1:=q.d1;have q2:=q.d2;have q5:=q.d5;go_wp2_with fail;refine Ni h5 _ _ _ [46] x.data.toList [32,61,32] rfl (lZ x).symm rfl (by have:=hlen;(try simp only[lzA,lzC,lzN]at this⊢);omega) _ (by simp) (λw6 h6=>?_);have q:=dw h6;have q0:=q.d0;have q1:=q.d1;have q2:=q.d2;have q5:=q.d5;go_wp2_with fail;refine HV.o _ _ _ HF.o h6 (by have:=hlen;(try simp only[lzA,lzC,lzN]at this⊢);omega) _ (λw7 h7=>?_);have q:=dw h7;have q0:=q.d0;have q1:=q.d1;have q2:=q.d2;have q5:=q.d5;go_wp2_with fail;refine dH h7 _ [59,10] rfl (by have:=hlen;(try simp only[lzA,lzC,lzN]at this⊢);omega) _ (by simp) (λw8 h8=>?_);go_wp2;go_end0;refine hR _ ?_;rw[show out++(Ty.aM ind++pa++[46]++x.data.toList++[32,61,32]++pv++[59,10])=out++Ty.aM ind++pa++([46]++(x.data.toList++[32,61,32]))++pv++[59,10]by simp];exact h8.bA.pick [0,1]
theorem OB(hP:PB wB nv tv pg){p:Nat}{a b v:Ty.Ex}(ha:qK wB nv tv pg wb main a)(hb:qK wB nv tv pg wb main b)(hv:qK wB nv tv pg wb main v):J7 wB nv tv pg wb main (.lay p a b v):=by
 intro n hd ind out w Fr hF H dU hlen R hR;rw[bK]at hd
 obtain⟨na,nb,nc,h1,ml,uE,Y_⟩:=hd;rw[Ty.cE]at dU
 have e:wS pg.ts ind (.lay p a b v)=Ty.aM ind++wP pg.ts ind 4 a++[91]++wE pg.ts ind b++[93,32,61,32]++wE pg.ts ind v++[59,10]:=by rw[wS]<;>rfl
 rw[e]at hlen hR
 have oG:=qh (λ(R:EW)=>eh (R:=R) hP hF H h1);have HA:=qh (λo w1 F' fW h ho=>ha na ml 4 ind o w1 F' fW h (by omega) (by omega) ho);have HB:=qh (λo w1 F' fW h ho=>hb nb uE 0 ind o w1 F' fW h (by omega) (by omega) ho);have HV:=qh (λo w1 F' fW h ho=>hv nc Y_ 0 ind o w1 F' fW h (by omega) (by omega) ho);have eb:=gw pg.ts ind b;have ev:=gw pg.ts ind v;simp only[<-eb,<-ev]at hlen hR;generalize wP pg.ts ind 4 a=pa at*
 generalize wP pg.ts ind 0 b=pb at*
 generalize wP pg.ts ind 0 v=pv at*
 simp only[lzA,lzC,lzN]at hlen;have Pl:ind<=1300:=by omega
 go_enter func36,ntmps36;go_wp2_with fail;refine oG.o _ (λw1 lv hl cd=>?_);obtain⟨la,lc,rfl⟩:=ag hl;have h2:=((H.below cd).ar (cj {Ty.af 20 p with a:=na,b:=nb,c:=((nc:Nat):Int)} (.slice la ({Ty.af 20 p with a:=na,b:=nb,c:=((nc:Nat):Int)}).list.length lc)) w1.heap.size).swap;have HF:=qh (hF.aq (M:=[ax w1.heap.size (cj {Ty.af 20 p with a:=na,b:=nb,c:=((nc:Nat):Int)} (.slice la ({Ty.af 20 p with a:=na,b:=nb,c:=((nc:Nat):Int)}).list.length lc))]));obtain⟨r5,rf,rl⟩:=ic (H.below cd);have q:=dw h2;have q0:=q.d0;have q1:=q.d1;have q2:=q.d2;have q3:=q.d3;dsimp only[aH,Ty.af,List.length_nil]at*
 go_wp2_with fail;refine eV _ ind (by omega) (λw3 cZ=>?_);have h3:=h2.below cZ;have q:=dw h3;have q0:=q.d0;have q1:=q.d1;have q2:=q.d2;have q3:=q.d3;go_wp2_with fail;refine dH h3 _ (Ty.aM ind) rfl (by have:=hlen;(try simp only[lzA,lzC,lzN]at this⊢);omega) _ (by simp) (λw4 h4=>?_);have q:=dw h4;have q0:=q.d0;have q1:=q.d1;have q2:=q.d2;have q3:=q.d3;go_wp2_with fail;refine HA.o _ _ _ HF.o h4 (by have:=hlen;(try simp only[List.length_append]at this⊢);omega) _ (λw5 h5=>?_);have q:=dw h5;have q0:=q.d0;have q1:=q.d1;have q2:=q.d2;have q3:=q.d3;go_wp2_with fail;refine dH h5 _ [91] rfl (by have:=hlen;(try simp only[lzA,lzC,lzN]at this⊢);omega) _ (by simp) (λw6 h6=>?_);have q:=dw h6;have q0:=q.d0;have q1:=q.d1;have q2:=q.d2;have q3:=q.d3;go_wp2_with fail;refine HB.o _ _ _ HF.o h6 (by have:=hlen;(try simp only[lzA,lzC,lzN]at this⊢);omega) _ (λw7 h7=>?_);have q:=dw h7;have q0:=q.d0;have q1:=q.d1;have q2:=q.d2;have q3:=q.d3;go_wp2_with fail;refine dH h7 _ [93,32,61,32] rfl (by have:=hlen;(try simp only[lzA,lzC,lzN]at this⊢);omega) _ (by simp) (λw8 h8=>?_);have q:=dw h8;have q0:=q.d0;have q1:=q.d1;have q2:=q.d2;have q3:=q.d3;go_wp2_with fail;refine HV.o _ _ _ HF.o h8 (by have:=hlen;(try simp only[lzA,lzC,lzN]at this⊢);omega) _ (λw9 h9=>?_);have q:=dw h9;have q0:=q.d0;have q1:=q.d1;have q2:=q.d2;have q3:=q.d3;go_wp2_with fail;refine dH h9 _ [59,10] rfl (by have:=hlen;(try simp only[lzA,lzC,lzN]at this⊢);omega) _ (by simp) (λNw fs=>?_);go_wp2;go_end0;refine hR _ ?_;rw[show out++(Ty.aM ind++pa++[91]++pb++[93,32,61,32]++pv++[59,10])=out++Ty.aM ind++pa++[91]++pb++[93,32,61,32]++pv++[59,10]by simp];exact fs.bA.pick [0,1]
theorem Et(hP:PB wB nv tv pg){p:Nat}{a:Ty.Ex}(ha:qK wB nv tv pg wb main a):J7 wB nv tv pg wb main (.print p a):=by
 intro n hd ind out w Fr hF H dU hlen R hR;rw[bK]at hd
 obtain⟨na,h1,ml⟩:=hd;rw[Ty.cE]at dU
 have e:wS pg.ts ind (.print p a)=Ty.aM ind++[112,114,105,110,116,32]++wE pg.ts ind a++[59,10]:=by rw[wS]<;>rfl
 rw[e]at hlen hR
 have oG:=qh (λ(R:EW)=>eh (R:=R) hP hF H h1);have HA:=qh (λo w1 F' fW h ho=>ha na ml 0 ind o w1 F' fW h (by omega) (by omega) ho);have ea:=gw pg.ts ind a;rw[<-ea]at hlen hR
 generalize wP pg.ts ind 0 a=pa at*
 simp only[lzA,lzC,lzN]at hlen;have Pl:ind<=1300:=by omega
 go_enter func36,ntmps36;go_wp2_with fail;refine oG.o _ (λw1 lv hl cd=>?_);obtain⟨la,lc,rfl⟩:=ag hl;have h2:=((H.below cd).ar (cj {Ty.af 21 p with a:=na} (.slice la ({Ty.af 21 p with a:=na}).list.length lc)) w1.heap.size).swap;have HF:=qh (hF.aq (M:=[ax w1.heap.size (cj {Ty.af 21 p with a:=na} (.slice la ({Ty.af 21 p with a:=na}).list.length lc))]));obtain⟨r5,rf,rl⟩:=ic (H.below cd);have q:=dw h2;have q0:=q.d0;have q1:=q.d1;dsimp only[aH,Ty.af,List.length_nil]at*
 go_wp2_with fail;refine eV _ ind (by omega) (λw3 cZ=>?_);have h3:=h2.below cZ;have q:=dw h3;have q0:=q.d0;have q1:=q.d1;go_wp2_with fail;refine dH h3 _ (Ty.aM ind) rfl (by have:=hlen;(try simp only[lzA,lzC,lzN]at this⊢);omega) _ (by simp) (λw4 h4=>?_);have q:=dw h4;have q0:=q.d0;have q1:=q.d1;go_wp2_with fail;refine dH h4 _ [112,114,105,110,116,32] rfl (by have:=hlen;(try simp only[lzA,lzC,lzN]at this⊢);omega) _ (by simp) (λw5 h5=>?_);have q:=dw h5;have q0:=q.d0;have q1:=q.d1;go_wp2_with fail;refine HA.o _ _ _ HF.o h5 (by have:=hlen;(try simp only[lzA,lzC,lzN]at this⊢);omega) _ (λw6 h6=>?_);have q:=dw h6;have q0:=q.d0;have q1:=q.d1;go_wp2_with fail;refine dH h6 _ [59,10] rfl (by have:=hlen;(try simp only[lzA,lzC,lzN]at this⊢);omega) _ (by simp) (λw7 h7=>?_);go_wp2;go_end0;refine hR _ ?_;rw[show out++(Ty.aM ind++[112,114,105,110,116,32]++pa++[59,10])=out++Ty.aM ind++[112,114,105,110,116,32]++pa++[59,10]by simp];exact h7.bA.pick [0,1]
theorem MP(hP:PB wB nv tv pg){p:Nat}{a:Ty.Ex}(ha:qK wB nv tv pg wb main a):J7 wB nv tv pg wb main (.ret p a):=by
 intro n hd ind out w Fr hF H dU hlen R hR;rw[bK]at hd
 obtain⟨na,h1,ml⟩:=hd;rw[Ty.cE]at dU
 have e:wS pg.ts ind (.ret p a)=Ty.aM ind++[114,101,116,117,114,110,32]++wE pg.ts ind a++[59,10]:=by rw[wS]<;>rfl
 rw[e]at hlen hR
 have oG:=qh (λ(R:EW)=>eh (R:=R) hP hF H h1);have HA:=qh (λo w1 F' fW h ho=>ha na ml 0 ind o w1 F' fW h (by omega) (by omega) ho);have ea:=gw pg.ts ind a;rw[<-ea]at hlen hR
 generalize wP pg.ts ind 0 a=pa at*
 simp only[lzA,lzC,lzN]at hlen;have Pl:ind<=1300:=by omega
 go_enter func36,ntmps36;go_wp2_with fail;refine oG.o _ (λw1 lv hl cd=>?_);obtain⟨la,lc,rfl⟩:=ag hl;have h2:=((H.below cd).ar (cj {Ty.af 24 p with a:=na} (.slice la ({Ty.af 24 p with a:=na}).list.length lc)) w1.heap.size).swap;have HF:=qh (hF.aq (M:=[ax w1.heap.size (cj {Ty.af 24 p with a:=na} (.slice la ({Ty.af 24 p with a:=na}).list.length lc))]));obtain⟨r5,rf,rl⟩:=ic (H.below cd);have q:=dw h2;have q0:=q.d0;have q1:=q.d1;dsimp only[aH,Ty.af,List.length_nil]at*
 go_wp2_with fail;refine eV _ ind (by omega) (λw3 cZ=>?_);have h3:=h2.below cZ;have q:=dw h3;have q0:=q.d0;have q1:=q.d1;go_wp2_with fail;refine dH h3 _ (Ty.aM ind) rfl (by have:=hlen;(try simp only[lzA,lzC,lzN]at this⊢);omega) _ (by simp) (λw4 h4=>?_);have q:=dw h4;have q0:=q.d0;have q1:=q.d1;go_wp2_with fail;refine dH h4 _ [114,101,116,117,114,110,32] rfl (by have:=hlen;(try simp only[lzA,lzC,lzN]at this⊢);omega) _ (by simp) (λw5 h5=>?_);have q:=dw h5;have q0:=q.d0;have q1:=q.d1;go_wp2_with fail;refine HA.o _ _ _ HF.o h5 (by have:=hlen;(try simp only[lzA,lzC,lzN]at this⊢);omega) _ (λw6 h6=>?_);have q:=dw h6;have q0:=q.d0;have q1:=q.d1;go_wp2_with fail;refine dH h6 _ [59,10] rfl (by have:=hlen;(try simp only[lzA,lzC,lzN]at this⊢);omega) _ (by simp) (λw7 h7=>?_);go_wp2;go_end0;refine hR _ ?_;rw[show out++(Ty.aM ind++[114,101,116,117,114,110,32]++pa++[59,10])=out++Ty.aM ind++[114,101,116,117,114,110,32]++pa++[59,10]by simp];exact h7.bA.pick [0,1]
theorem Q5(hP:PB wB nv tv pg){p:Nat}{a:Ty.Ex}(ha:qK wB nv tv pg wb main a):J7 wB nv tv pg wb main (.oL p a):=by
 intro n hd ind out w Fr hF H dU hlen R hR;rw[bK]at hd
 obtain⟨na,h1,ml⟩:=hd;rw[Ty.cE]at dU
 have e:wS pg.ts ind (.oL p a)=Ty.aM ind++wE pg.ts ind a++[59,10]:=by rw[wS]<;>rfl
 rw[e]at hlen hR
 have oG:=qh (λ(R:EW)=>eh (R:=R) hP hF H h1);have HA:=qh (λo w1 F' fW h ho=>ha na ml 0 ind o w1 F' fW h (by omega) (by omega) ho);have ea:=gw pg.ts ind a;rw[<-ea]at hlen hR
 generalize wP pg.ts ind 0 a=pa at*
 simp only[lzA,lzC,lzN]at hlen;have Pl:ind<=1300:=by omega
 go_enter func36,ntmps36;go_wp2_with fail;refine oG.o _ (λw1 lv hl cd=>?_);obtain⟨la,lc,rfl⟩:=ag hl;have h2:=((H.below cd).ar (cj {Ty.af 25 p with a:=na} (.slice la ({Ty.af 25 p with a:=na}).list.length lc)) w1.heap.size).swap;have HF:=qh (hF.aq (M:=[ax w1.heap.size (cj {Ty.af 25 p with a:=na} (.slice la ({Ty.af 25 p with a:=na}).list.length lc))]));obtain⟨r5,rf,rl⟩:=ic (H.below cd);have q:=dw h2;have q0:=q.d0;have q1:=q.d1;dsimp only[aH,Ty.af,List.length_nil]at*
 go_wp2_with fail;refine eV _ ind (by omega) (λw3 cZ=>?_);have h3:=h2.below cZ;have q:=dw h3;have q0:=q.d0;have q1:=q.d1;go_wp2_with fail;refine dH h3 _ (Ty.aM ind) rfl (by have:=hlen;(try simp only[lzA,lzC,lzN]at this⊢);omega) _ (by simp) (λw4 h4=>?_);have q:=dw h4;have q0:=q.d0;have q1:=q.d1;go_wp2_with fail;refine HA.o _ _ _ HF.o h4 (by have:=hlen;(try simp only[List.length_append]at this⊢);omega) _ (λw5 h5=>?_);have q:=dw h5;have q0:=q.d0;have q1:=q.d1;go_wp2_with fail;refine dH h5 _ [59,10] rfl (by have:=hlen;(try simp only[lzA,lzC,lzN]at this⊢);omega) _ (by simp) (λw6 h6=>?_);go_wp2;go_end0;refine hR _ ?_;rw[show out++(Ty.aM ind++pa++[59,10])=out++Ty.aM ind++pa++[59,10]by simp];exact h6.bA.pick [0,1]
end
section
variable {wB:World} {nv tv:Value} {pg:Ty.Pg} {wb:Nat} {main:Int}
theorem Ei(hP:PB wB nv tv pg){p bp:Nat}{a:Ty.Ex}{b:List Ty.Sm}(hB:U4 wB nv tv pg wb main (.while_ p a bp b)):J7 wB nv tv pg wb main (.while_ p a bp b):=by
 intro n hd ind out w Fr hF H dU hlen R hR;have yl:=hd;rw[bK]at hd
 obtain⟨na,nb,h1,ml,uE⟩:=hd;obtain⟨x,hx⟩:∃x:List UInt8,x=[119,104,105,108,101,32,40]++wE pg.ts ind a++[41,32]++Ty.wB pg.ts ind b:=⟨_,rfl⟩
 have e:wS pg.ts ind (.while_ p a bp b)=Ty.aM ind++x++[10]:=by rw[hx,wS];unfold Ty.wB;simp
 have VI:=qh (λ(lv:Value) hl(o:List UInt8) w1 F' fW h ho=>hB n _ lv yl h1 hl rfl ind x o w1 F' e fW h dU ho);rw[e]at hlen hR
 have oG:=qh (λ(R:EW)=>eh (R:=R) hP hF H h1);simp only[lzA,lzC,lzN]at hlen;have Pl:ind<=1300:=by omega
 go_enter func36,ntmps36;go_wp2_with fail;refine oG.o _ (λw1 lv hl cd=>?_);obtain⟨la,lc,rfl⟩:=ag hl;have h2:=((H.below cd).ar (cj {Ty.af 23 p with a:=na,b:=nb} (.slice la ({Ty.af 23 p with a:=na,b:=nb}).list.length lc)) w1.heap.size).swap;have HF:=qh (hF.aq (M:=[ax w1.heap.size (cj {Ty.af 23 p with a:=na,b:=nb} (.slice la ({Ty.af 23 p with a:=na,b:=nb}).list.length lc))]));have Ui:=qh (VI.o (.slice la ({Ty.af 23 p with a:=na,b:=nb}).list.length lc) ⟨_,_,_,rfl⟩);obtain⟨r5,rf,rl⟩:=ic (H.below cd);dsimp only[aH,Ty.af,List.length_nil]at*
 go_wp2_with fail;refine eV _ ind (by omega) (λw3 cZ=>?_);have H3:=qh (h2.below cZ);go_wp2_with fail;refine dH H3.o _ (Ty.aM ind) rfl (by have:=hlen;omega) _ (by simp) (λw4 h4=>?_);have q:=dw h4;have q0:=q.d0;have q1:=q.d1;have q2:=q.d2;have q3:=q.d3;have q4:=q.d4;have q5:=q.d5;have q6:=q.d6;have q7:=q.d7;have q8:=q.d8;go_wp2_with fail;refine Ui.o _ _ _ HF.o h4 (by have:=hlen;simp only[List.length_append];omega) _ (λw5 h5=>?_);go_wp2_with fail;refine dH h5 _ [10] rfl (by have:=hlen;simp only[lzA,lzC,lzN];omega) _ (by simp) (λw6 h6=>?_);go_wp2;go_end0;refine hR _ ?_;rw[show out++(Ty.aM ind++x++[10])=out++Ty.aM ind++x++[10]by simp];exact h6.bA.pick [0,1]
theorem QP(hP:PB wB nv tv pg){p bp:Nat}{a:Ty.Ex}{b:List Ty.Sm}(hB:U4 wB nv tv pg wb main (.if_ p a bp b none)):J7 wB nv tv pg wb main (.if_ p a bp b none):=by
 intro n hd ind out w Fr hF H dU hlen R hR;have yl:=hd;rw[bK]at hd
 obtain⟨na,nb,h1,ml,uE⟩:=hd;obtain⟨x,hx⟩:∃x:List UInt8,x=[105,102,32,40]++wE pg.ts ind a++[41,32]++Ty.wB pg.ts ind b:=⟨_,rfl⟩
 have e:wS pg.ts ind (.if_ p a bp b none)=Ty.aM ind++x++[10]:=by rw[hx,wS];unfold Ty.wB;simp
 have VI:=qh (λ(lv:Value) hl(o:List UInt8) w1 F' fW h ho=>hB n _ lv yl h1 hl rfl ind x o w1 F' e fW h dU ho);rw[e]at hlen hR
 have oG:=qh (λ(R:EW)=>eh (R:=R) hP hF H h1);simp only[lzA,lzC,lzN]at hlen;have Pl:ind<=1300:=by omega
 go_enter func36,ntmps36;go_wp2_with fail;refine oG.o _ (λw1 lv hl cd=>?_);obtain⟨la,lc,rfl⟩:=ag hl;have h2:=((H.below cd).ar (cj {Ty.af 22 p with a:=na,b:=nb,c:= -1} (.slice la ({Ty.af 22 p with a:=na,b:=nb,c:= -1}).list.length lc)) w1.heap.size).swap;have HF:=qh (hF.aq (M:=[ax w1.heap.size (cj {Ty.af 22 p with a:=na,b:=nb,c:= -1} (.slice la ({Ty.af 22 p with a:=na,b:=nb,c:= -1}).list.length lc))]));have Ui:=qh (VI.o (.slice la ({Ty.af 22 p with a:=na,b:=nb,c:= -1}).list.length lc) ⟨_,_,_,rfl⟩);obtain⟨r5,rf,rl⟩:=ic (H.below cd);dsimp only[aH,Ty.af,List.length_nil]at*
 go_wp2_with fail;refine eV _ ind (by omega) (λw3 cZ=>?_);have H3:=qh (h2.below cZ);go_wp2_with fail;refine dH H3.o _ (Ty.aM ind) rfl (by have:=hlen;omega) _ (by simp) (λw4 h4=>?_);have q:=dw h4;have q0:=q.d0;have q1:=q.d1;have q2:=q.d2;have q3:=q.d3;have q4:=q.d4;have q5:=q.d5;have q6:=q.d6;have q7:=q.d7;have q8:=q.d8;go_wp2_with fail;refine Ui.o _ _ _ HF.o h4 (by have:=hlen;simp only[List.length_append];omega) _ (λw5 h5=>?_);go_wp2_with fail;refine dH h5 _ [10] rfl (by have:=hlen;simp only[lzA,lzC,lzN];omega) _ (by simp) (λw6 h6=>?_);go_wp2;go_end0;refine hR _ ?_;rw[show out++(Ty.aM ind++x++[10])=out++Ty.aM ind++x++[10]by simp];exact h6.bA.pick [0,1]
theorem Kx(hP:PB wB nv tv pg){p bp cp:Nat}{a:Ty.Ex}{b c:List Ty.Sm}(hB:U4 wB nv tv pg wb main (.if_ p a bp b (some (cp,c)))):J7 wB nv tv pg wb main (.if_ p a bp b (some (cp,c))):=by
 intro n hd ind out w Fr hF H dU hlen R hR;have yl:=hd;rw[bK]at hd
 obtain⟨na,nb,nc,h1,ml,uE,ac1⟩:=hd;obtain⟨x,hx⟩:∃x:List UInt8,x=[105,102,32,40]++wE pg.ts ind a++[41,32]++Ty.wB pg.ts ind b++[32,101,108,115,101,32]++Ty.wB pg.ts ind c:=⟨_,rfl⟩
 have e:wS pg.ts ind (.if_ p a bp b (some (cp,c)))=Ty.aM ind++x++[10]:=by rw[hx,wS];unfold Ty.wB;simp
 have VI:=qh (λ(lv:Value) hl(o:List UInt8) w1 F' fW h ho=>hB n _ lv yl h1 hl rfl ind x o w1 F' e fW h dU ho);rw[e]at hlen hR
 have oG:=qh (λ(R:EW)=>eh (R:=R) hP hF H h1);simp only[lzA,lzC,lzN]at hlen;have Pl:ind<=1300:=by omega
 go_enter func36,ntmps36;go_wp2_with fail;refine oG.o _ (λw1 lv hl cd=>?_);obtain⟨la,lc,rfl⟩:=ag hl;have h2:=((H.below cd).ar (cj {Ty.af 22 p with a:=na,b:=nb,c:=((nc:Nat):Int)} (.slice la ({Ty.af 22 p with a:=na,b:=nb,c:=((nc:Nat):Int)}).list.length lc)) w1.heap.size).swap;have HF:=qh (hF.aq (M:=[ax w1.heap.size (cj {Ty.af 22 p with a:=na,b:=nb,c:=((nc:Nat):Int)} (.slice la ({Ty.af 22 p with a:=na,b:=nb,c:=((nc:Nat):Int)}).list.length lc))]));have Ui:=qh (VI.o (.slice la ({Ty.af 22 p with a:=na,b:=nb,c:=((nc:Nat):Int)}).list.length lc) ⟨_,_,_,rfl⟩);obtain⟨r5,rf,rl⟩:=ic (H.below cd);dsimp only[aH,Ty.af,List.length_nil]at*
 go_wp2_with fail;refine eV _ ind (by omega) (λw3 cZ=>?_);have H3:=qh (h2.below cZ);go_wp2_with fail;refine dH H3.o _ (Ty.aM ind) rfl (by have:=hlen;omega) _ (by simp) (λw4 h4=>?_);have q:=dw h4;have q0:=q.d0;have q1:=q.d1;have q2:=q.d2;have q3:=q.d3;have q4:=q.d4;have q5:=q.d5;have q6:=q.d6;have q7:=q.d7;have q8:=q.d8;go_wp2_with fail;refine Ui.o _ _ _ HF.o h4 (by have:=hlen;simp only[List.length_append];omega) _ (λw5 h5=>?_);go_wp2_with fail;refine dH h5 _ [10] rfl (by have:=hlen;simp only[lzA,lzC,lzN];omega) _ (by simp) (λw6 h6=>?_);go_wp2;go_end0;refine hR _ ?_;rw[show out++(Ty.aM ind++x++[10])=out++Ty.aM ind++x++[10]by simp];exact h6.bA.pick [0,1]
mutual
theorem eY(hP:PB wB nv tv pg)(hW:Pow wB):∀e:Ty.Ex,qK wB nv tv pg wb main e
 | .num _ _=>cL hP (Ms hP hW)
 | .text _ _=>cL hP J3
 | .bool _ _=>cL hP (Ka hP)
 | .null _=>cL hP JS
 | .var _ _=>cL hP Mc
 | .fn _ _ _ _ body=>cL hP (Rn hP (kX hP (pV hP hW body)))
 | .call _ a l=>cL hP (JA (Gc (eY hP hW a) (A5 hP hW l)))
 | .get _ a _=>cL hP (NJ (JW (eY hP hW a)))
 | .atX _ a b=>cL hP (QW (MK (eY hP hW a) (eY hP hW b)))
 | .obj _ l=>cL hP (N8 (Dw hP (CN hP hW l)))
 | .arr _ l=>cL hP (NG (A5 hP hW l))
 | .two _ _ a b=>cL hP (LI (KV (eY hP hW a) (eY hP hW b)))
 | .one _ _ a=>cL hP (LO (Kt (eY hP hW a)))
 | .asX _ a _=>cL hP (PC (Lx hP (eY hP hW a)))
theorem A5(hP:PB wB nv tv pg)(hW:Pow wB):∀(l:List Ty.Ex),∀e∈l,qK wB nv tv pg wb main e
 |[],_,h=>by cases h
 |a::l,e,h=>by
  rcases List.mem_cons.1 h with h1|h1
  ·rw[h1];exact eY hP hW a
  ·exact A5 hP hW l e h1
theorem CN(hP:PB wB nv tv pg)(hW:Pow wB):∀(l:List (Nat×BA×Ty.Ex)),∀o∈l,qK wB nv tv pg wb main o.2.2
 |[],_,h=>by cases h
 |(p,x,a)::l,o,h=>by
  rcases List.mem_cons.1 h with h1|h1
  ·rw[h1];exact eY hP hW a
  ·exact CN hP hW l o h1
theorem pV(hP:PB wB nv tv pg)(hW:Pow wB):∀(l:List Ty.Sm),∀e∈l,J7 wB nv tv pg wb main e
 |[],_,h=>by cases h
 |a::l,e,h=>by
  rcases List.mem_cons.1 h with h1|h1
  ·rw[h1];exact Ns hP hW a
  ·exact pV hP hW l e h1
theorem Ns(hP:PB wB nv tv pg)(hW:Pow wB):∀s:Ty.Sm,J7 wB nv tv pg wb main s
 | .fZ _ _ _ a=>OS hP (eY hP hW a)
 | .set _ _ a=>O4 hP (eY hP hW a)
 | .put _ a _ v=>N0 hP (eY hP hW a) (eY hP hW v)
 | .lay _ a b v=>OB hP (eY hP hW a) (eY hP hW b) (eY hP hW v)
 | .print _ a=>Et hP (eY hP hW a)
 | .ret _ a=>MP hP (eY hP hW a)
 | .oL _ a=>Q5 hP (eY hP hW a)
 | .if_ _ a _ b none=>QP hP (JZ (eY hP hW a) (kX hP (pV hP hW b)))
 | .if_ _ a _ b (some (_,c))=>Kx hP (Dr (eY hP hW a) (kX hP (pV hP hW b)) (kX hP (pV hP hW c)))
 | .while_ _ a _ b=>Ei hP (Av (eY hP hW a) (kX hP (pV hP hW b)))
end
end
section
variable {w0 w:World} {Fr:As} {wb:Nat} {nv tv:Value} {main:Int} {ind:Nat} {out:List UInt8}
theorem Oh(H:Sat w0 w [Fr,gu wb nv tv main ind out]){R:EW}(hR:R (.returned (.int .i64 (out.length:Nat))) w):
  Calls prog 37 #[.pointer (some ⟨wb,0,none⟩)] w R:=by
 obtain⟨p,v,h⟩:=H.oP;obtain⟨a,cap,e⟩:=ag (h.row 3);dsimp only at e;subst e;have c1:=h.cell 2 1;go_in;go_wp2;exact hR
theorem DW(H:Sat w0 w [Fr,gu wb nv tv main ind out]){R:EW}(hR:∀w',Sat w0 w' [Fr]->R (.returned (.string (bs out))) w'):
  Calls prog 38 #[.pointer (some ⟨wb,0,none⟩)] w R:=by
 have HR:=qh hR;obtain⟨p,v,h⟩:=H.oP;have cg:=h.row 3;dsimp only at cg;have jV:=cg;have Pr:=h.cell 2 1;dsimp only at Pr;rcases cg.2 with⟨rfl,h0⟩|⟨g,cap,cur,rfl,_,hg,D6,E',U3,Sc⟩
 ·have ho:out=[]:=List.eq_nil_of_length_eq_zero h0;subst ho;have adH:=λ(W:World)(q:Option Addr)=>Lib.run_unsafeString_none (P:=prog) W 133 3 9 q
  have aao: (Builtin.unsafeSliceData_ #[72] 133 #[.slice none 0 0]).run prog w.drew=.ok (.pointer none) w.drew:=rfl;have c1:w.drew.cell? ⟨wb,1,none⟩=some (.slice none 0 0):=Pr;clear hR H jV cg;go_in;go_wp2_with fail
  go_region
  all_goals
   go_wp2_with fail;exact HR.o _ (h.drew.pick [0])
 ·by_cases h0:out.length=0
  ·have ho:out=[]:=List.eq_nil_of_length_eq_zero h0;subst ho;have adH:=λ(W:World)(q:Option Addr)=>Lib.run_unsafeString_none (P:=prog) W 133 3 9 q
   by_cases aaG:cap=0
   ·subst aaG;have aao: (Builtin.unsafeSliceData_ #[72] 133 #[.slice (some ⟨g,0,none⟩) 0 0]).run prog w.drew=.ok (.pointer (some ⟨w.drew.heap.size,0,none⟩)) (w.drew.alloc (.view ⟨g,0,none⟩ 5)):=
     Lib.run_unsafeSliceData_zero w.drew _ _ 5 underlying133 ⟨g,0,none⟩ 0 (5,cur.size) (by have VH:w.drew.heap[g]?=some (.cells cur 5 (0,0)):=hg;simp[World.shape?,VH])
    have c1:w.drew.cell? ⟨wb,1,none⟩=some (.slice (some ⟨g,0,none⟩) 0 0):=Pr;have c2: (w.drew.alloc (.view ⟨g,0,none⟩ 5)).cell? ⟨wb,1,none⟩=some (.slice (some ⟨g,0,none⟩) 0 0):=(h.drew.aU _).cell 2 1;have c3: (w.alloc (.view ⟨g,0,none⟩ 5)).drew.cell? ⟨wb,1,none⟩=some (.slice (some ⟨g,0,none⟩) 0 0):=c2;clear hR H jV cg;go_in;go_wp2_with fail
    go_region
    all_goals
     go_wp2_with fail;exact HR.o _ ((h.aU _).drew.pick [0])
   ·have aao: (Builtin.unsafeSliceData_ #[72] 133 #[.slice (some ⟨g,0,none⟩) 0 cap]).run prog w.drew=.ok (.pointer (some ⟨g,0,none⟩)) w.drew:=
     Lib.run_unsafeSliceData_row _ _ _ _ _ _ aaG
    have c1:w.drew.cell? ⟨wb,1,none⟩=some (.slice (some ⟨g,0,none⟩) 0 cap):=Pr;clear hR H jV cg aaG;go_in;go_wp2_with fail
    go_region
    all_goals
     go_wp2_with fail;exact HR.o _ (h.drew.pick [0])
  ·have eR:out≠[]:=λe=>h0 (by rw[e];rfl)
   have aao: (Builtin.unsafeSliceData_ #[72] 133 #[.slice (some ⟨g,0,none⟩) out.length cap]).run prog w.drew=.ok (.pointer (some ⟨g,0,none⟩)) w.drew:=
    Lib.run_unsafeSliceData_row _ _ _ _ _ _ (by omega)
   have adH: (Builtin.unsafeString_ #[133,3] 9 #[.pointer (some ⟨g,0,none⟩),.int .i64 out.length]).run prog w.drew=.ok (.string (bs out)) (w.drew.freeze ⟨g,0,none⟩ out.length):=by
    refine Lib.run_unsafeString_row w.drew 133 3 9 5 underlying133 cellsByte g cur.size (by have VH:w.drew.heap[g]?=some (.cells cur 5 (0,0)):=hg;simp[World.shape?,VH]) out eR (by omega) (by unfold maxLen at E';omega) ?_;intro j x hx;exact jV.cells (g:=g) rfl j (.int .u8 x.toNat) (by simp[Lib.byteCells,hx])
   have c1:w.drew.cell? ⟨wb,1,none⟩=some (.slice (some ⟨g,0,none⟩) out.length cap):=Pr;clear hR H jV cg h0 eR Sc hg U3;generalize bs out=tx at*
   go_in;go_wp2_with fail
   go_region
   all_goals
    go_wp2_with fail;exact HR.o _ ((h.drew.freeze 3 rfl).pick [0])
end
theorem WI{wB:World}{nv tv:Value}{main:Int}(b:Nat)(hb:b=wB.heap.size):Sat wB (wB.alloc (.cells #[.pointer none,.slice none 0 0,nv,tv,.int .i64 main,.int .i64 0] 76)) [bY wB,gu b nv tv main 0 []]:=by
 have h:=(((Sat.iN wB).ar (.cells #[.pointer none,.slice none 0 0,nv,tv,.int .i64 main,.int .i64 0] 76) b hb).nil 5 1).jR (P:=bU ((Value.pointer none)=.pointer none\/(Value.pointer none)=.pointer (some ⟨b,0,none⟩))) (λ_=>.inl rfl);exact Sat.Fs (q:=(.pointer none,.slice none 0 0)) (h.pick [0,3,1,2])
theorem tG{w0 w:World}{Fr:As}(hF:ju w0 Fr)(H:Sat w0 w [Fr])(s:BA)(agx:Words w0)(Pz:Pow w0)(hm:s.size<=maxLen)(l:List Ty.Sm)(hl:∀pg,Ty.parse s=.ok pg->dm 0 l []=(pg.ns,pg.main)){R:EW}
  (aD:∀(pg:Ty.Pg) w',Ty.parse s=.ok pg->(ki pg.ts 0 l).length<=4000->Sat w0 w' [Fr]->R (.returned (.tuple #[.string (bs (ki pg.ts 0 l)),bm (0,0)])) w')
  (Xp:∀(pg:Ty.Pg) w',Ty.parse s=.ok pg->4000<(ki pg.ts 0 l).length->Sat w0 w' [Fr]->R (.returned (.tuple #[.string ⟨#[]⟩,bm (2,0)])) w')
  (au:∀f w',Ty.parse s=.error f->Sat w0 w' [Fr]->R (.returned (.tuple #[.string ⟨#[]⟩,bm f])) w'):
  Calls prog 14 #[.string s] w R:=by
 have fL:=qh aD;have hw:=agx.below (hF w _ 0 H rfl);have h1:=H.ar (.cells #[.int .i64 0,.int .i64 0] 25) w.heap.size;have cd:Below w.heap.size w (w.alloc (.cells #[.int .i64 0,.int .i64 0] 25)):=(bR _ _).alloc (nR _) _;have H1:=qh (Sat.pack (L:=[]) h1);go_in;go_wp2_with fail;refine yE H1.o s (hw.below cd) hm (λpg nv tv w1 ht h2=>?_) (λf w1 ht h2=>?_)
 ·have Sj:=hl pg ht;have aD:=lD ht;have uE:fM pg.ns 0 l pg.main:=by
   have:=(iA 0 l []).2;rw[Sj]at this;exact this
  have BN:=OW aD Sj uE;have dU:Ty.aI l+1<=1300:=by
   have h1:=fB l [];have h3: (dm 0 l []).1.length=pg.ns.length:=by rw[Sj]
   rw[dm]at h3
   simp at h1 h3;have:=aD.o7;omega
  rw[fM]at uE
  obtain⟨nl,Iq,ZT⟩:=uE;have pG:=ZT.len;have Eh:=vU l;obtain⟨nr,G2,qo⟩:=h2.ng 1 rfl;obtain⟨tr,LJ,rN⟩:=h2.F5 2 rfl;have h3:=(((h2.unpack 0 rfl).pick [2,3,0,1]).ar (.cells #[nv,tv,.int .i64 (pg.main:Nat)] 31) w1.heap.size).ar (.cells #[.int .i64 0,.int .i64 0] 25) (w1.heap.size+1);have Yw:Below w1.heap.size w1 ((w1.alloc (.cells #[nv,tv,.int .i64 (pg.main:Nat)] 31)).alloc (.cells #[.int .i64 0,.int .i64 0] 25)):=((bR _ _).alloc (nR _) _).alloc (by simp) _;have hP:PB ((w1.alloc (.cells #[nv,tv,.int .i64 (pg.main:Nat)] 31)).alloc (.cells #[.int .i64 0,.int .i64 0] 25)) nv tv pg:=⟨⟨nr,G2,qo.below Yw⟩,⟨tr,LJ,rN.below Yw⟩,aD⟩
  have Xy:Pow ((w1.alloc (.cells #[nv,tv,.int .i64 (pg.main:Nat)] 31)).alloc (.cells #[.int .i64 0,.int .i64 0] 25)):=Pz.below (hF _ _ 0 h3 rfl);have FM:=WI (wB:=(w1.alloc (.cells #[nv,tv,.int .i64 (pg.main:Nat)] 31)).alloc (.cells #[.int .i64 0,.int .i64 0] 25)) (nv:=nv) (tv:=tv) (main:=(pg.main:Nat)) (w1.heap.size+2) (by simp);have F9:=qh (λ(k:Nat)(hk:k<l.length)(qR:k<nl.length)(o:List UInt8)(w2:World)(h:Sat ((w1.alloc (.cells #[nv,tv,.int .i64 (pg.main:Nat)] 31)).alloc (.cells #[.int .i64 0,.int .i64 0] 25)) w2 [bY ((w1.alloc (.cells #[nv,tv,.int .i64 (pg.main:Nat)] 31)).alloc (.cells #[.int .i64 0,.int .i64 0] 25)),gu (w1.heap.size+2) nv tv (pg.main:Nat) 0 o])(ho:o.length+(wS pg.ts 0 l[k]).length<=900000000)=>Ns (wb:=w1.heap.size+2) (main:=(pg.main:Nat)) hP Xy l[k] nl[k] (ZT.get k hk qR) 0 o w2 _ (ju.iN _) h (by have:=z6 (gM hk);omega) ho);have Vr:pg.main<pg.ns.length:=by
   rcases Nat.lt_or_ge pg.main pg.ns.length with h|h
   ·exact h
   ·rw[List.getElem?_eq_none h]at Iq;cases Iq
  obtain⟨g,cap,lv,rfl,hg,hcap,E',hA,VY⟩:=qo.look G2 Vr;have G9:pg.ns[pg.main]={Ty.af 26 0 with list:=nl}:=by
   rw[List.getElem?_eq_getElem Vr]at Iq
   exact Option.some.inj Iq
  rw[G9]at hA VY
  have q4:=hA.q4;dsimp only at VY;obtain⟨la,lc,rfl⟩:=ag VY;obtain⟨ta,tc,rfl⟩:=ag rN.row;have aeO:=qh (ay VY Yw);have HT:=qh ht;have H3:=qh h3;have Vp:=qh FM;have lW:nl.length<=1300:=by omega
  have UO:g<w1.heap.size+1:=by omega
  have Kq:g<w1.heap.size+1+1:=by omega
  unfold maxLen at E';clear Sj aD h2 G2 qo LJ rN h3 Yw hP Xy FM hA VY G9 Iq ZT Eh dU ht;generalize acS:pg.main=mn at*
  generalize adr:pg.ns.length=N at*
  generalize tr.length=TL at*
  rw[show bm (0,0)=.agg #[.int .i64 0,.int .i64 0]from rfl];go_wp2_with fail;go_loopw [29] (λi wr=>∃k:Nat,k<=nl.length/\i=.int .i64 k/\Hq (Sat ((w1.alloc (.cells #[.slice (some ⟨g,0,none⟩) N cap,.slice ta TL tc,.int .i64 (mn:Nat)] 31)).alloc (.cells #[.int .i64 0,.int .i64 0] 25)) wr [bY ((w1.alloc (.cells #[.slice (some ⟨g,0,none⟩) N cap,.slice ta TL tc,.int .i64 (mn:Nat)] 31)).alloc (.cells #[.int .i64 0,.int .i64 0] 25)),gu (w1.heap.size+2) (.slice (some ⟨g,0,none⟩) N cap) (.slice ta TL tc) (mn:Nat) 0 (ki pg.ts 0 (l.take k))])) (λi _=>nl.length-(intOf i).toNat)
  case atStart=>exact⟨0,by omega,rfl,by rw[List.take_zero,ki];exact Vp.o⟩
  case round=>
   obtain⟨k,hk,rfl,Si⟩:=hrel;by_cases bz:k<nl.length
   ·have hb:=Si.out.aS;obtain⟨g2,ni,e,Kq,d0⟩:=ints_at (ay aeO.o hb) k bz;cases e;have u_:k<l.length:=by have:=pG;omega
    have fY:=Ds pg.ts 0 l k u_;have Mh:=Dl pg.ts 0 l (k+1);have HD:=qh (F9.o k u_ bz);rw[fY,List.length_append]at Mh
    have KQ:=qh Mh;have T9:=qh fY;generalize l[k]=st at*
    generalize nl[k]=m at*
    clear fY Mh hb u_;go_wp2_with fail;refine HD.o _ _ Si.out (by have:=BN;have:=KQ.o;omega) _ (λw4 h4=>?_);rw[<-T9.o]at h4
    have H5:=qh h4;clear h4;go_wp2_with fail;go_roundw
    case rel=>exact⟨k+1,by omega,by go_num,H5.o⟩
    case measure=>simp[intOf];omega
   ·have e:k=nl.length:=by omega
    subst e;have h1:=Si.out;rw[pG,List.take_length]at h1
    have h5:=H3.o.join h1;have h6:=(Sat.pack (L:=[_]) (M:=[_,_,_,_,_,_]) (h5.pick [6,0,1,2,3,4,5])).pick [1,0];have z0:=h5.cell 1 0;have z1:=h5.cell 1 1;have y0:=h5.cell 5 0;have y1:=h5.cell 5 1;have fz:=h5.free 1 rfl;have hz:=h5.lt 1;have H6:=qh h6;clear h1 h5 h6 Si;go_wp2_with fail;refine Oh H6.o ?_;by_cases hc:4000<(ki pg.ts 0 l).length
    ·have k1:decide ((4000:Int)<((ki pg.ts 0 l).length:Nat))=true:=decide_eq_true (by omega);have HC:=qh hc;have Ul:=qh (Xp pg);generalize(ki pg.ts 0 l).length=ln at*
     clear hc;go_wp2_with fail;refine bodyPost_ret ?_ rfl (Ul.o _ HT.o HC.o ?_)
     ·simp[results,results14,go_sem,bm,z0,z1]
     ·exact(((H6.o.unpack 0 rfl).store 2 rfl 0 (.int .i64 2)).store 2 rfl 1 (.int .i64 0)).pick [1]
    ·have k1:decide ((4000:Int)<((ki pg.ts 0 l).length:Nat))=false:=decide_eq_false (by omega);have HC:=qh hc;have Zq:=qh (fL.o pg);have Ui:=qh (λ(R:EW)=>DW (R:=R) H6.o.drew);generalize ahg: (ki pg.ts 0 l).length=ln at*
     generalize bs (ki pg.ts 0 l)=tx at*
     clear hc;go_wp2_with fail;go_region_law(first|(go_simp;refine Ui.o _ (λw6 h6=>?_);have h7:=h6.unpack 0 rfl;have y0:=h7.cell 5 0;have y1:=h7.cell 5 1;have z0:=h7.cell 1 0;have z1:=h7.cell 1 1;have fz:=h7.free 1 rfl;have hz:=h7.lt 1;have H7:=qh h7;clear h6 h7))
     all_goals
      go_wp2_with fail;refine bodyPost_ret ?_ rfl (Zq.o _ HT.o (by have:=HC.o;omega) ?_)
      ·simp[results,results14,go_sem,bm,z0,z1]
      ·exact((H7.o.store 1 rfl 0 (.int .i64 0)).store 1 rfl 1 (.int .i64 0)).pick [0]
 ·have yg:=ku ht;obtain⟨fe,fp⟩:=f;dsimp only at yg;have e2: ((fe:Int) !=0)=true:=by simp;omega
  have h4:=h2.unpack 0 rfl;have x0:=h4.cell 1 0;have x1:=h4.cell 1 1;have fx:=h4.free 1 rfl;have hx:=h4.lt 1;have F_:w.heap.size<w1.heap.size+1:=by omega
  have H4:=qh h4;have HT:=qh ht;clear h2 h4 ht yg;dsimp only[bm];go_wp2_with fail
  go_region
  all_goals
   go_wp2_with fail;refine bodyPost_ret ?_ rfl (au (fe,fp) _ HT.o ?_)
   ·simp[results,results14,go_sem,bm,hx,F_,x0,x1]
   ·exact((((H4.o.store 1 rfl 0 (.int .i64 fe)).store 1 rfl 1 (.int .i64 fp)).aU _).aU _).drew.pick [0]
theorem BR{s:BA}{ts:List Ty.Ty}(h:Ty.typeOf s=.ok ts):0<ts.length/\ts.length<=300/\Wf ts/\dX (Ty.den ts (ts.length-1))/\eu (Ty.den ts (ts.length-1))/\dK (Ty.den ts (ts.length-1))<=300:=by
 obtain⟨h1,h2,h3⟩:=yv h;have h4:=Fc h;have h5:=Kf h;exact⟨h2,h3,h1,rM _ (A8 h1 h5 _ _ (Nat.lt_succ_self _) (by omega)),qF h1 _ _ (Nat.lt_succ_self _) (by omega),by omega⟩
theorem A7{w0 w:World}{Fr:As}(H:Sat w0 w [Fr])(s:BA)(hw:Words w)(hm:s.size<=maxLen){R:EW}
  (aD:∀ts w',Ty.typeOf s=.ok ts->Sat w0 w' [Fr]->R (.returned (.tuple #[.string (bs (Ty.text (Ty.den ts (ts.length-1)))),bm (0,0)])) w')
  (au:∀f w',Ty.typeOf s=.error f->Sat w0 w' [Fr]->R (.returned (.tuple #[.string ⟨#[]⟩,bm f])) w'):
  Calls prog 34 #[.string s] w R:=by
 have fL:=qh aD;have h1:=H.ar (.cells #[.int .i64 0,.int .i64 0] 25) w.heap.size;have cd:Below w.heap.size w (w.alloc (.cells #[.int .i64 0,.int .i64 0] 25)):=(bR _ _).alloc (nR _) _;have H1:=qh (Sat.pack (L:=[]) h1);go_in;go_wp2_with fail;refine M7 H1.o s (hw.below cd) hm (λts v w1 ht h2=>?_) (λf w1 ht h2=>?_)
 ·obtain⟨By,gR,oD,GI,aD,JT⟩:=BR ht;obtain⟨rows,hr,xK⟩:=h2.F5 1 rfl;have YD:rows.length=ts.length:=by rw[<-hr];simp
  have HX:=nM w1 v rows ts hr oD (by omega) xK ts.length (ts.length-1) (by omega) (by omega) GI (by omega);obtain⟨a,c,rfl⟩:=ag xK.row;rw[YD]at HX h2
  unfold r9 at HX;rw[show((ts.length-1:Nat):Int)=(ts.length:Int)-1 by omega]at HX
  rw[YD];have h4:=(h2.unpack 0 rfl).ar (.cells #[.int .i64 0,.int .i64 0] 25) w1.heap.size;have fG:Hq (Below w1.heap.size w1 ((w1.alloc (.cells #[.int .i64 0,.int .i64 0] 25)).drew)):=((bR _ _).alloc (nR _) _).drew;have H4:=qh h4;have HT:=qh ht;have Zq:=qh (fL.o ts);have x0:=(h2.unpack 0 rfl).cell 2 0;have x1:=(h2.unpack 0 rfl).cell 2 1;have fx:=(h2.unpack 0 rfl).free 2 rfl;generalize Ty.text (Ty.den ts (ts.length-1))=tx at*
  generalize ts.length=N at*
  have afu:IntKind.i64.wrap ((N:Int)-1)=(N:Int)-1:=IntWalk.i64_in _ (by omega);rw[show bm (0,0)=.agg #[.int .i64 0,.int .i64 0]from rfl];go_wp2;go_region_law(first|(go_simp;refine HX _ fG.o _ (λw4 qW=>?_);have h6:=H4.o.drew.below qW;have y0:=h6.cell 3 0;have y1:=h6.cell 3 1;have z0:=h6.cell 2 0;have z1:=h6.cell 2 1;have fz:=h6.free 2 rfl;have hz:=h6.lt 2;have H6:=qh h6;clear qW h6))
  all_goals
   go_wp2;refine bodyPost_ret ?_ rfl (Zq.o _ HT.o ?_)
   ·simp[results,results34,go_sem,bm,z0,z1]
   ·exact((H6.o.store 2 rfl 0 (.int .i64 0)).store 2 rfl 1 (.int .i64 0)).pick [1]
 ·have yg:=qG ht;obtain⟨fe,fp⟩:=f;dsimp only at yg;have e2: ((fe:Int) !=0)=true:=by simp;omega
  have h4:=h2.unpack 0 rfl;have x0:=h4.cell 1 0;have x1:=h4.cell 1 1;have fx:=h4.free 1 rfl;have hx:=h4.lt 1;have H4:=qh h4;have HT:=qh ht;dsimp only[bm];go_wp2
  go_region
  all_goals
   go_wp2;refine bodyPost_ret ?_ rfl (au (fe,fp) _ HT.o ?_)
   ·simp[results,results34,go_sem,bm,hx,x0,x1]
   ·exact(((H4.o.store 1 rfl 0 (.int .i64 fe)).store 1 rfl 1 (.int .i64 fp)).aU _).drew.pick [0]
end Go.Proofs.YtdlbhiaceheffabGreatDoor
