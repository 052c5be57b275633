/- Walk of token.Scan. -/
import Derived.OwnWalk
import Derived.WalkSpells
import Derived.Deep.LoopGhost
import Derived.WalkSmall
import Derived.Shelf.SlSortCmp.WholeK
import Derived.Ground.SlsfProg
import Derived.Test.YtdlbhiaceheffabGreatDoorProg
import Derived.Test.YtdlbhiaceheffabGreatDoorC02
set_option linter.all false
set_option maxRecDepth 100000
set_option maxHeartbeats 1000000
namespace Go.Proofs.YtdlbhiaceheffabGreatDoor
open Go Go.RowKit Ty Tok Tryz Proofs.Tryz
def dT(t:Tok.Tk):List Value:=[.int .i64 t.kind,.string t.text,.int .i64 t.pos]
def lu(w:World)(base:Nat)(v:Value)(l:List Tok.Tk):Prop:=w.ownsRow base 138 3 v l.length (l.flatMap dT)
theorem Uh: (prog.info? 138).map (λi=>(i.zero,i.size,i.bytes))=some (some (.agg #[.int .i64 0,.string ⟨#[]⟩,.int .i64 0]),3,32):=by kernel_rfl
theorem zm(s:BA)(k:Nat)(h:k<s.size): (Tok.byte s k=32\/Tok.byte s k=10)↔((s[k].toNat:Int)=32\/(s[k].toNat:Int)=10):=by
 rw[<-ei s k h,aa3,aaA]
theorem ag{w:World}{base:Nat}{e:TypeId}{size:Nat}{v:Value}{n:Nat}{xs:List Value}(h:w.ownsRow base e size v n xs):∃(a:Option Addr)(cap:Nat),v=.slice a n cap:=by
 rcases h.2 with⟨rfl,rfl⟩|⟨g,cap,cur,rfl,_⟩
 ·exact⟨_,_,rfl⟩
 ·exact⟨_,_,rfl⟩
theorem ay{w w':World}{base:Nat}{e:TypeId}{size:Nat}{v:Value}{n:Nat}{xs:List Value}(h:w.ownsRow base e size v n xs)(hb:Below w.heap.size w w'):w'.ownsRow base e size v n xs:=
 h.kept (row:=none) ⟨hb.os,hb.tape,hb.output,hb.size,λk hk _=>hb.block k hk⟩ (by cases v.ownBlock<;>simp)
theorem I0(s:BA)(w:World)(hm:s.size<=maxLen)(hs:4000<s.size){R:EW}
  (hR:∀w',Below w.heap.size w w'->R (.returned (.tuple #[.slice none 0 0,.agg #[.int .i64 2,.int .i64 0]])) w'):
  Calls prog 72 #[.string s] w R:=by
 unfold maxLen at hm;go_in;go_wp2;refine bodyPost_ret ?_ rfl (hR _ ?_)
 ·simp[results,results72,go_sem]
 ·exact eM _ _
theorem Gu(s:BA)(w:World)(hw:Words w)(hs:s.size<=4000){R:EW}
  (aD:∀l v w',Tok.scan s=.ok l->Below w.heap.size w w'->lu w' (w.heap.size+1) v l->R (.returned (.tuple #[v,.agg #[.int .i64 0,.int .i64 0]])) w')
  (au:∀(e p:Nat) w',Tok.scan s=.error (e,p)->Below w.heap.size w w'->R (.returned (.tuple #[.slice none 0 0,.agg #[.int .i64 e,.int .i64 p]])) w'):
  Calls prog 72 #[.string s] w R:=by
 obtain⟨i0,ti,oB,oA,oy⟩:=info_parts Uh;have HE:bL s (s.size+1) 0 []=Tok.scan s:=by unfold Tok.scan;rw[if_neg (by omega)]
 go_in;go_wp2;go_loopw [4,5] (λv i wr=>∃(k f:Nat)(l:List Tok.Tk),i=.int .i64 k/\k<=s.size/\s.size<k+f/\Hq (bL s f k l=Tok.scan s)/\l.length<=1000/\lu wr (w.heap.size+1) v l/\Hq (Below w.heap.size w wr)/\w.heap.size<wr.heap.size/\Hq (wr.heap[w.heap.size]?=some (.cells #[.int .i64 0,.int .i64 0] 25 (0,0))))
  (λ_ i _=>s.size-(intOf i).toNat)
 case atStart=>
  exact⟨0,s.size+1,[],rfl,by omega,by omega,HE,by simp,World.ownsRow_nil _ _ _ _,eM _ _,by simp,heap_alloc_new w _⟩
 case round=>
  obtain⟨k,f,l,rfl,hk,hf,hE,hl,jV,E3,hz,Nt⟩:=hrel;by_cases bz:k<s.size
  ·by_cases hb:Tok.byte s k=32\/Tok.byte s k=10
   ·have hB:=hb;rw[zm s k bz]at hb
    have zh:Hq (bL s (f-1) (k+1) l=Tok.scan s):=by
     rw[<-hE.out];obtain⟨g,rfl⟩:∃g,f=g+1:=⟨f-1,by omega⟩
     simp only[Nat.add_sub_cancel];rw[bL,if_pos bz,if_pos hB];rfl
    rcases hb with hb|hb
    ·have cd: ((s[k].toNat:Int)==32)=true:=by simp[hb]
     go_wp2;go_roundw
     case rel=>exact⟨k+1,f-1,l,by go_num,by omega,by omega,zh,hl,jV,E3,hz,Nt⟩
     case measure=>simp[intOf];omega
    ·have xO: ((s[k].toNat:Int)==32)=false:=by simp[hb]
     have cd: ((s[k].toNat:Int)==10)=true:=by simp[hb]
     go_wp2;go_roundw
     case rel=>exact⟨k+1,f-1,l,by go_num,by omega,by omega,zh,hl,jV,E3,hz,Nt⟩
     case measure=>simp[intOf];omega
   ·have hB:=hb;rw[zm s k bz]at hb
    have xO: ((s[k].toNat:Int)==32)=false:=by simp;omega
    have cd: ((s[k].toNat:Int)==10)=false:=by simp;omega
    obtain⟨t,n,ok,yZ⟩:∃t n ok,Tok.next s k=(t,n,ok):=⟨_,_,_,rfl⟩
    obtain⟨kd,tx,ps⟩:=t;have zh:Hq (Tok.scan s=if ok=false then .error (1,k)else if l.length=1000 then .error (2,k)else bL s (f-1) (k+n) (l++[⟨kd,tx,ps⟩])):=by
     rw[<-hE.out];obtain⟨g,rfl⟩:∃g,f=g+1:=⟨f-1,by omega⟩
     rw[bL,if_pos bz,if_neg hB,yZ];rfl
    have hbound:ok=true->1<=n/\k+n<=s.size:=λh=>by
     have:=qS s k bz (by rw[yZ];exact h);rw[yZ]at this;exact this
    have HN:Hq (∀(w1:World)(R:EW),Below w.heap.size w w1->(∀w',Below w1.heap.size w1 w'->R (.returned (.tuple #[bV ⟨kd,tx,ps⟩,.int .i64 n,.bool ok])) w')->Calls prog 129 #[.string s,.int .i64 k] w1 R):=
     λw1 R hb h=>PE s k w1 (hw.below hb) hs bz (by rw[yZ];exact h)
    cases ok
    ·go_wp2_with fail;refine HN.o _ _ E3.out (λw1 cd=>?_);dsimp only[bV];have Ro:=qh (E3.out.trans (cd.mono (by omega)));have P3:w.heap.size<w1.heap.size:=by have:=cd.size;omega
     have hc:w1.heap[w.heap.size]?=some (.cells #[.int .i64 0,.int .i64 0] 25 (0,0)):=by
      rw[cd.block _ (by omega)];exact Nt.out
     have c0:w1.cell? ⟨w.heap.size,0,none⟩=some (.int .i64 0):=by rw[cell_of_block hc];rfl
     have c1:w1.cell? ⟨w.heap.size,1,none⟩=some (.int .i64 0):=by rw[cell_of_block hc];rfl
     have f0:∀o,w1.frozen? ⟨w.heap.size,o,none⟩=false:=λo=>bZ hc o
     go_wp2;refine bodyPost_ret ?_ rfl (au 1 k _ ?_ ?_)
     ·simp[results,results72,go_sem,c0,c1,P3]
     ·rw[zh.out];rfl
     ·repeat' (first|exact Ro.o|apply Below.drew|apply Below.setCell|apply Below.alloc|(simp;done)|(simp;omega))
    ·obtain⟨WZ,CK⟩:=hbound rfl;obtain⟨a,cap,rfl⟩:=ag jV;go_wp2_with fail;refine HN.o _ _ E3.out (λw1 cd=>?_);dsimp only[bV];have Ro:=qh (E3.out.trans (cd.mono (by omega)));have P3:w.heap.size<w1.heap.size:=by have:=cd.size;omega
     have vV:lu w1 (w.heap.size+1) (.slice a l.length cap) l:=ay jV cd;have HC:w1.heap[w.heap.size]?=some (.cells #[.int .i64 0,.int .i64 0] 25 (0,0)):=by
      rw[cd.block _ (by omega)];exact Nt.out
     have c0:w1.cell? ⟨w.heap.size,0,none⟩=some (.int .i64 0):=by rw[cell_of_block HC];rfl
     have c1:w1.cell? ⟨w.heap.size,1,none⟩=some (.int .i64 0):=by rw[cell_of_block HC];rfl
     have f0:∀o,w1.frozen? ⟨w.heap.size,o,none⟩=false:=λo=>bZ HC o
     have L_:=qh vV;by_cases gR:l.length=1000
     ·have Kv: ((l.length:Int)==1000)=true:=by simp[gR]
      go_wp2;refine bodyPost_ret ?_ rfl (au 2 k _ ?_ ?_)
      ·simp[results,results72,go_sem,c0,c1,P3]
      ·rw[zh.out,if_neg (by simp),if_pos gR]
      ·repeat' (first|exact Ro.o|apply Below.drew|apply Below.setCell|apply Below.alloc|(simp;done)|(simp;omega))
     ·have Kv: ((l.length:Int)==1000)=false:=by simp;omega
      have YZ:l.length<1000:=by omega
      go_wp2_with(at_builtin;go_loud(refine wpList_append_own _ rfl (.tmp 45) (.tmp 47) 84 rfl (w.heap.size+1) 138 i0 _ 3 32 underlying84 ti oB oA oy rfl (by decide) _ _ _ rfl ((L_.o.alloc _).alloc _) ⟨w1.heap.size+1,0,none⟩ 1 1 [.int .i64 kd,.string tx,.int .i64 ps] rfl rfl ?c1 ?c2 ?c3 ?c4 ?c5 ?_))
      case c1=>
       intro j u hj
       match j,hj with
       |0,hj=>simp at hj;subst hj;simp[Addr.add]
       |1,hj=>simp at hj;subst hj;simp[Addr.add]
       |2,hj=>simp at hj;subst hj;simp[Addr.add]
      case c2=>intro u hu;simp at hu;rcases hu with rfl|rfl|rfl<;>rfl
      case c3=>unfold maxLen;omega
      case c4=>omega
      case c5=>simp;omega
      intro v' w2 NH jZ _;have ga:lu w2 (w.heap.size+1) v' (l++[⟨kd,tx,ps⟩]):=by
       have e: (l++[(⟨kd,tx,ps⟩:Tok.Tk)]).flatMap dT=l.flatMap dT++[.int .i64 kd,.string tx,.int .i64 ps]:=by simp[dT]
       unfold lu;rw[e,List.length_append];exact NH
      have mV:=World.ownsRow.lt L_.o;have aW:Below w.heap.size w w2:=((((Ro.o).alloc (by omega) _).alloc (by simp;omega) _).grown jZ (by simp;omega) (λj hj=>by have:=(mV j hj).1;omega))
      have Lb:w.heap.size<w2.heap.size:=by have:=jZ.size;simp at this;omega
      have Yt:w2.heap[w.heap.size]?=some (.cells #[.int .i64 0,.int .i64 0] 25 (0,0)):=by
       rw[jZ.block _ (by simp;omega) (λe=>by have:=(mV _ e.symm).1;omega),heap_alloc_old _ _ (by simp;omega),heap_alloc_old _ _ (by omega)];exact HC
      have fY:Hq (bL s (f-1) (k+n) (l++[⟨kd,tx,ps⟩])=Tok.scan s):=by
       rw[zh.out,if_neg (by simp),if_neg (by omega)];rfl
      have fG:=qh aW;have ZJ:=qh ga;go_wp2;go_roundw
      case rel=>exact⟨k+n,f-1,l++[⟨kd,tx,ps⟩],by go_num,by omega,by omega,fY,by simp;omega,ZJ.o,fG,Lb,Yt⟩
      case measure=>simp[intOf];omega
  ·have Qc:Tok.scan s=.ok (l++[⟨6,⟨#[]⟩,s.size⟩]):=by
    rw[<-hE.out];obtain⟨g,rfl⟩:∃g,f=g+1:=⟨f-1,by omega⟩
    rw[bL,if_neg bz]
   obtain⟨a,cap,rfl⟩:=ag jV;have L_:=qh jV;go_wp2_with(at_builtin;go_loud(refine wpList_append_own _ rfl (.tmp 52) (.tmp 56) 84 rfl (w.heap.size+1) 138 i0 _ 3 32 underlying84 ti oB oA oy rfl (by decide) _ _ _ rfl (L_.o.alloc _) ⟨wr.heap.size,0,none⟩ 1 1 [.int .i64 6,.string ⟨#[]⟩,.int .i64 s.size] rfl rfl ?d1 ?d2 ?d3 ?d4 ?d5 ?_))
   case d1=>
    intro j u hj
    match j,hj with
    |0,hj=>simp at hj;subst hj;simp[Addr.add]
    |1,hj=>simp at hj;subst hj;simp[Addr.add]
    |2,hj=>simp at hj;subst hj;simp[Addr.add]
   case d2=>intro u hu;simp at hu;rcases hu with rfl|rfl|rfl<;>rfl
   case d3=>unfold maxLen;omega
   case d4=>omega
   case d5=>simp;omega
   intro v' w2 NH jZ _;have ga:lu w2 (w.heap.size+1) v' (l++[⟨6,⟨#[]⟩,s.size⟩]):=by
    have e: (l++[(⟨6,⟨#[]⟩,s.size⟩:Tok.Tk)]).flatMap dT=l.flatMap dT++[.int .i64 6,.string ⟨#[]⟩,.int .i64 s.size]:=by simp[dT]
    unfold lu;rw[e,List.length_append];exact NH
   have mV:=World.ownsRow.lt L_.o;have aW:Below w.heap.size w w2:=(((E3.out).alloc (by omega) _).grown jZ (by simp;omega) (λj hj=>by have:=(mV j hj).1;omega))
   have Lb:w.heap.size<w2.heap.size:=by have:=jZ.size;simp at this;omega
   have hc:w2.heap[w.heap.size]?=some (.cells #[.int .i64 0,.int .i64 0] 25 (0,0)):=by
    rw[jZ.block _ (by simp;omega) (λe=>by have:=(mV _ e.symm).1;omega),heap_alloc_old _ _ (by omega)];exact Nt.out
   have c0:w2.cell? ⟨w.heap.size,0,none⟩=some (.int .i64 0):=by rw[cell_of_block hc];rfl
   have c1:w2.cell? ⟨w.heap.size,1,none⟩=some (.int .i64 0):=by rw[cell_of_block hc];rfl
   have f0:∀o,w2.frozen? ⟨w.heap.size,o,none⟩=false:=λo=>bZ hc o
   have fG:=qh aW;have ZJ:=qh ga;go_wp2;refine bodyPost_ret ?_ rfl (aD _ v' _ Qc ?_ ?_)
   ·simp[results,results72,go_sem,c0,c1]
   ·repeat' (first|exact fG.o|apply Below.drew|apply Below.setCell|apply Below.alloc|(simp;done)|(simp;omega))
   ·repeat' (first|exact ZJ.o|apply ownsRow_setCell_below|(simp;done))
theorem aC(w:World)(o:Obj)(b:Nat)(h:b=w.heap.size): (w.alloc o).heap[b]?=some o:=by subst h;exact heap_alloc_new w o
theorem eK{w:World}{o:Obj}{b:Nat}(h:w.heap[b]?=some o):w.drew.heap[b]?=some o:=h
theorem yJ(a b:BA): (a.toList==b.toList)=true↔a=b:=by
 rw[ByteArray.toList_eq,ByteArray.toList_eq,beq_iff_eq];constructor
 ·intro h;exact ByteArray.ext (Array.ext' h)
 ·rintro rfl;rfl
theorem MC(a b:BA)(h: (a.toList==b.toList)=false):a≠b:=λe=>by
 rw[(yJ a b).2 e]at h;exact Bool.noConfusion h
theorem Qm(l:List Tok.Tk)(k:Nat)(h:k<l.length): (l.flatMap dT)[k*3]?=some (.int .i64 l[k].kind)/\(l.flatMap dT)[k*3+1]?=some (.string l[k].text)/\(l.flatMap dT)[k*3+2]?=some (.int .i64 l[k].pos):=by
 induction l generalizing k with
 |nil=>simp at h
 |cons a l ih=>
  cases k with
  |zero=>simp[dT]
  |succ k=>
   have:=ih k (by simpa using h);simp only[List.flatMap_cons,List.getElem_cons_succ];refine⟨?_,?_,?_⟩
   ·rw[List.getElem?_append_right (by simp[dT];omega)];rw[show(k+1)*3-(dT a).length=k*3 by simp[dT];omega];exact this.1
   ·rw[List.getElem?_append_right (by simp[dT];omega)];rw[show(k+1)*3+1-(dT a).length=k*3+1 by simp[dT];omega];exact this.2.1
   ·rw[List.getElem?_append_right (by simp[dT];omega)];rw[show(k+1)*3+2-(dT a).length=k*3+2 by simp[dT];omega];exact this.2.2
theorem lu.at{w:World}{B:Nat}{v:Value}{l:List Tok.Tk}(h:lu w B v l)(eR:l≠[]):
  ∃g cap:Nat,v=.slice (some ⟨g,0,none⟩) l.length cap/\B<=g/\g<w.heap.size/\l.length<=cap/\cap<=maxLen/\∀k(hk:k<l.length),w.cell? ⟨g,k*3,none⟩=some (.int .i64 l[k].kind)/\w.cell? ⟨g,k*3+1,none⟩=some (.string l[k].text)/\w.cell? ⟨g,k*3+2,none⟩=some (.int .i64 l[k].pos):=by
 have hc:=λg=>World.ownsRow.cells (g:=g) h
 have bz:=World.ownsRow.lt h;rcases h.2 with⟨_,h0⟩|⟨g,cap,cur,rfl,hg,hh,hn,hm,_⟩
 ·exact absurd (List.eq_nil_of_length_eq_zero h0) eR
 ·refine⟨g,cap,rfl,hg,(bz g rfl).2,hn,hm,λk hk=>?_⟩;obtain⟨a1,a2,a3⟩:=Qm l k hk;have e:∀j,(⟨g,0,none⟩:Addr).add j=⟨g,j,none⟩:=λj=>by unfold Addr.add;split<;>simp_all
  refine⟨?_,?_,?_⟩
  ·have:=hc g rfl _ _ a1;rwa [e]at this
  ·have:=hc g rfl _ _ a2;rwa [e]at this
  ·have:=hc g rfl _ _ a3;rwa [e]at this
theorem Kz(s:BA)(h:4000<s.size):Tok.scan s=.error (2,0):=by unfold Tok.scan;rw[if_pos h]
theorem O8(s:BA)(w:World)(hw:Words w)(hm:s.size<=maxLen){R:EW}
  (aD:∀l v w',Tok.scan s=.ok l->Below w.heap.size w w'->lu w' (w.heap.size+1) v l->R (.returned (.tuple #[v,.agg #[.int .i64 0,.int .i64 0]])) w')
  (au:∀(e p:Nat) w',Tok.scan s=.error (e,p)->Below w.heap.size w w'->R (.returned (.tuple #[.slice none 0 0,.agg #[.int .i64 e,.int .i64 p]])) w'):
  Calls prog 72 #[.string s] w R:=by
 by_cases hs:s.size<=4000
 ·exact Gu s w hw hs aD au
 ·exact I0 s w hm (by omega) (λw' hb=>au 2 0 w' (Kz s (by omega)) hb)
end Go.Proofs.YtdlbhiaceheffabGreatDoor
namespace Go.Proofs
open Go.Shelf
def Tryz.sortBd_ren:Go.Shelf.Ren:=⟨λ|6=>83|15=>91|14=>133|28=>150|29=>151|20=>219|21=>220|22=>221|23=>222|24=>223|25=>224|26=>225|27=>226|46=>288|47=>236|48=>237|49=>289|50=>290|57=>322|n=>n,λ|22=>36|24=>43|25=>149|3=>3|39=>158|0=>0|53=>209|55=>211|4=>4|46=>202|45=>201|50=>118|5=>5|9=>9|66=>248|70=>252|76=>279|77=>280|n=>n,λ|n=>n⟩
theorem Tryz.sortBd:Go.Proofs.SlLaysF0.n6 Tryz.prog Tryz.sortBd_ren:={
 mixed:=by kernel_rfl
 f6:=⟨Tryz.f83.name,by decide,Tryz.func83.trans (congrArg some (by kernel_rfl))⟩
 f14:=⟨Tryz.f133.name,by decide,Tryz.func133.trans (congrArg some (by kernel_rfl))⟩
 f15:=Tryz.func91.trans (congrArg some (by kernel_rfl))
 f20:=⟨Tryz.f219.name,by decide,Tryz.func219.trans (congrArg some (by kernel_rfl))⟩
 f21:=⟨Tryz.f220.name,by decide,Tryz.func220.trans (congrArg some (by kernel_rfl))⟩
 f22:=⟨Tryz.f221.name,by decide,Tryz.func221.trans (congrArg some (by kernel_rfl))⟩
 f23:=⟨Tryz.f222.name,by decide,Tryz.func222.trans (congrArg some (by kernel_rfl))⟩
 f24:=⟨Tryz.f223.name,by decide,Tryz.func223.trans (congrArg some (by kernel_rfl))⟩
 f25:=⟨Tryz.f224.name,by decide,Tryz.func224.trans (congrArg some (by kernel_rfl))⟩
 f26:=⟨Tryz.f225.name,by decide,Tryz.func225.trans (congrArg some (by kernel_rfl))⟩
 f27:=⟨Tryz.f226.name,by decide,Tryz.func226.trans (congrArg some (by kernel_rfl))⟩
 f28:=Tryz.func150.trans (congrArg some (by kernel_rfl))
 f29:=Tryz.func151.trans (congrArg some (by kernel_rfl))
 f46:=⟨Tryz.f288.name,by decide,Tryz.func288.trans (congrArg some (by kernel_rfl))⟩
 f47:=Tryz.func236.trans (congrArg some (by kernel_rfl))
 f48:=Tryz.func237.trans (congrArg some (by kernel_rfl))
 f49:=⟨Tryz.f289.name,by decide,Tryz.func289.trans (congrArg some (by kernel_rfl))⟩
 f50:=⟨Tryz.f290.name,by decide,Tryz.func290.trans (congrArg some (by kernel_rfl))⟩
 f57:=⟨Tryz.f322.name,by decide,Tryz.func322.trans (congrArg some (by kernel_rfl))⟩
 t0:=Tryz.underlying0
 a0:=Tryz.isAgg0
 z0:=Tryz.sizeOf0
 v0:=Tryz.zeroValue0
 t3:=Tryz.underlying3
 a3:=Tryz.isAgg3
 z3:=Tryz.sizeOf3
 v3:=Tryz.zeroValue3
 t4:=Tryz.underlying4
 a4:=Tryz.isAgg4
 z4:=Tryz.sizeOf4
 v4:=Tryz.zeroValue4
 t5:=Tryz.underlying5
 a5:=Tryz.isAgg5
 z5:=Tryz.sizeOf5
 v5:=Tryz.zeroValue5
 t9:=Tryz.underlying9
 a9:=Tryz.isAgg9
 z9:=Tryz.sizeOf9
 v9:=Tryz.zeroValue9
 t22:=Tryz.underlying36
 a22:=Tryz.isAgg36
 z22:=Tryz.sizeOf36
 v22:=Tryz.zeroValue36
 t25:=Tryz.underlying149
 a25:=Tryz.isAgg149
 z25:=Tryz.sizeOf149
 v25:=Tryz.zeroValue149
 t39:=Tryz.underlying158
 a39:=Tryz.isAgg158
 z39:=Tryz.sizeOf158
 v39:=Tryz.zeroValue158
 t45:=Tryz.underlying201
 a45:=Tryz.isAgg201
 z45:=Tryz.sizeOf201
 v45:=Tryz.zeroValue201
 t46:=Tryz.underlying202
 a46:=Tryz.isAgg202
 z46:=Tryz.sizeOf202
 v46:=Tryz.zeroValue202
 t50:=Tryz.underlying118
 a50:=Tryz.isAgg118
 z50:=Tryz.sizeOf118
 v50:=Tryz.zeroValue118
 t53:=Tryz.underlying209
 a53:=Tryz.isAgg209
 z53:=Tryz.sizeOf209
 v53:=Tryz.zeroValue209
 t55:=Tryz.underlying211
 a55:=Tryz.isAgg211
 z55:=Tryz.sizeOf211
 v55:=Tryz.zeroValue211
 t66:=Tryz.underlying248
 a66:=Tryz.isAgg248
 z66:=Tryz.sizeOf248
 v66:=Tryz.zeroValue248
 t70:=Tryz.underlying252
 a70:=Tryz.isAgg252
 z70:=Tryz.sizeOf252
 v70:=Tryz.zeroValue252
 t76:=Tryz.underlying279
 a76:=Tryz.isAgg279
 z76:=Tryz.sizeOf279
 v76:=Tryz.zeroValue279
 t77:=Tryz.underlying280
 a77:=Tryz.isAgg280
 z77:=Tryz.sizeOf280
 v77:=Tryz.zeroValue280}
end Go.Proofs
