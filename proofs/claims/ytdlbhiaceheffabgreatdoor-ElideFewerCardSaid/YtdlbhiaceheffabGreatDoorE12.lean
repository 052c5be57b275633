/- Walks of the parser's node, of, start, and of the reference's add, at: nodes in memory. -/
import Derived.BigQuiet
import Derived.Deep.QuietTactic
import Derived.Test.YtdlbhiaceheffabGreatDoorE11
import Derived.Test.YtdlbhiaceheffabGreatDoorE10
set_option linter.all false
set_option maxRecDepth 100000
set_option maxHeartbeats 1000000
namespace Go.Proofs.YtdlbhiaceheffabGreatDoor
open Go Go.RowKit Ty Tok Prt Tryz Proofs.Tryz
theorem P5: (prog.info? 66).map (λi=>(i.zero,i.size,i.bytes))=some (some (.agg #[.int .i64 0,.int .i64 0,.int .i64 0,.int .i64 0,.slice none 0 0,.string ⟨#[]⟩,.int .i64 0,.int .i64 0,.int .i64 0]),9,96):=by kernel_rfl
def aG(t:Nd)(lv:Value):Value:=.agg #[.int .i64 t.kind,.int .i64 t.a,.int .i64 t.b,.int .i64 t.c,lv,.string t.text,.int .i64 t.n,.int .i64 t.ty,.int .i64 t.pos]
def rT(r:NdRow):As:=eY r.lv r.t.list
section
variable {w0 w:World} {Fr:As} {pb d:Nat} {ad:List Tok.Tk}
theorem Prt.Sat.Py{A B C D:As}{rows:List NdRow}{ns:List Nd}{t:Nd}{v lv:Value}(h:Sat w0 w [Fr,A,B,C,D,bX (rows.map NdRow.t=ns),Prt.row 66 9 v (ns.length+1) (rows.flatMap eD++eD ⟨t,lv⟩),ah (rows.map rT),eY lv t.list]):
  Sat w0 w [Fr,A,B,C,D,vW v (ns++[t])]:=by
 have hr:=h.pure 5 rfl;have h:=Sat.pack (L:=[Fr,_,_,_,_,_,_]) (M:=[ah (rows.map rT),rT (NdRow.mk t lv)]) h;have h:=h.cL (i:=7) rfl (Q:=ah ((rows++[NdRow.mk t lv]).map rT)) (λa ha=>by rw[List.map_append];exact vG ha);have h:=h.cL (i:=5) rfl (Q:=bX ((rows++[NdRow.mk t lv]).map NdRow.t=ns++[t])) (λa _=>by show _= _;rw[List.map_append,hr];rfl);have h:=h.cL (i:=6) rfl (Q:=Prt.row 66 9 v (ns++[t]).length ((rows++[NdRow.mk t lv]).flatMap eD)) (λa ha=>by rw[List.flatMap_append,List.length_append];exact ha);have h:=Sat.pack (L:=[Fr,_,_,_,_]) (M:=[_,_,_]) h;exact h.cL (i:=5) rfl (Q:=vW v (ns++[t])) (λa ha=>⟨_,ha⟩)
def E5(pb d:Nat)(ad:List Tok.Tk)(st:Ty.St)(p:Value×Value×Value×Int)(n:Nat)(cells:List Value)(rows:List NdRow)(ns:List Nd):List As:=
 [bX (qU ad/\st.pos<ad.length/\d<=20/\st.ts.length<=st.pos/\st.ns.length<=st.pos+1),
 av pb (.cells #[p.1,.int .i64 st.pos,.int .i64 d,p.2.1,p.2.2.1,.int .i64 p.2.2.2] 86 (0,0)),UT p.1 ad,xV p.2.2.1 st.ts,
 bX (rows.map NdRow.t=ns),Prt.row 66 9 p.2.1 n cells,ah (rows.map rT)]
theorem Prt.Sat.KB{st:Ty.St}{A:As}(h:Sat w0 w [Fr,aV pb d ad st,A]):∃p rows,Sat w0 w (Fr::A::E5 pb d ad st p st.ns.length (rows.flatMap eD) rows st.ns):=by
 obtain⟨p,h⟩:=h.ex (i:=1) rfl;obtain⟨rows,h⟩:=(h.unpack (i:=1) rfl).ex (i:=5) rfl;exact⟨p,rows,h.unpack (i:=5) rfl⟩
theorem Prt.Sat.Pp{st:Ty.St}{p:Value×Value×Value×Int}{rows:List NdRow}{t:Nd}{lv:Value}(h:Sat w0 w (Fr::eY lv t.list::E5 pb d ad st p (st.ns.length+1) (rows.flatMap eD++eD ⟨t,lv⟩) rows st.ns))(hb:st.ns.length<=st.pos):
  Sat w0 w [Fr,aV pb d ad {st with ns:=st.ns++[t]}]:=by
 have hq:=h.pure 2 rfl;have h:=(Sat.Py (h.pick [0,2,3,4,5,6,7,8,1])).pick [0,1,2,3,5,4];have h:=h.cL (i:=1) rfl (Q:=bX (qU ad/\st.pos<ad.length/\d<=20/\st.ts.length<=st.pos/\(st.ns++[t]).length<=st.pos+1)) (λa _=>⟨hq.1,hq.2.1,hq.2.2.1,hq.2.2.2.1,by simpa using hb⟩);exact Sat.mh (st:={st with ns:=st.ns++[t]}) (p:=p) h
theorem bZ{st:Ty.St}(t:Nd)(lv:Value)(H:Sat w0 w [Fr,aV pb d ad st,eY lv t.list])(hb:st.ns.length<=st.pos)
  {R:EW} (hR:∀w',Sat w0 w' [Fr,aV pb d ad {st with ns:=st.ns++[t]}]->R (.returned (.int .i64 (st.ns.length:Nat))) w'):
  Calls prog 77 #[.pointer (some ⟨pb,0,none⟩),aG t lv] w R:=by
 have HR:=qh hR;obtain⟨i0,ti,mM,mL,mK⟩:=info_parts P5;obtain⟨⟨MD,nv,tv,main⟩,rows,hs⟩:=H.KB;have hs:Sat w0 w (Fr::eY lv t.list::E5 pb d ad st (MD,nv,tv,main) st.ns.length (rows.flatMap eD) rows st.ns):=hs;have hq:=hs.pure 2 rfl;have hlen:=hq.1.1;have eS:=hq.2.1;have xd:st.ns.length<=1001:=by omega
 have c4:=hs.cell 3 rfl 3 rfl;have f4:=hs.free 3 rfl 3;have a_:=hs.lt 3 rfl;have hr:=hs.row 7 rfl;obtain⟨a,dm,rfl⟩:=ag hr;obtain⟨la,lc,rfl⟩:=ag (hs.row 1 rfl);have du:=qh hr;have HS:=qh hs;have HB:=qh hb;clear hR H hs hq hr hb;dsimp only[aG];go_in;go_wp2_with fail;go_region_law(first
  |(go_loud(refine step_append_lies _ (by rfl) _ _ _ (by rfl) 0 66 i0 _ 9 96 underlying28 ti mM mL mK rfl (by omega) (.slice a st.ns.length dm) st.ns.length (rows.flatMap eD) (by rfl) (((du.o.alloc _).alloc _).drew) ⟨w.heap.size+1,0,none⟩ 1 1 (eD ⟨t,.slice la t.list.length lc⟩) (by rfl) (by rfl) (World.news_of_block (cs:=(eD ⟨t,.slice la t.list.length lc⟩).toArray) (t:=66) (fr:=(0,0)) (d_ (aR _ _ _ (by simp)))) (by simp[Value.oneCell',eD]) (by omega) (by have:=HB.o;unfold maxLen;omega) (by have:=HB.o;omega) (by simp) (w.heap.size+2) (by simp) ?_);intro g cap w1 r_ iI t_ jm;have h1:=Sat.grow ((HS.o.aW _).aW _).drew 7 rfl iI r_ (by simpa using t_);have d4:=h1.cell 3 rfl 3 rfl;have e4:=h1.free 3 rfl 3;have H1:=qh h1;clear h1))
 all_goals
  clear r_ iI;go_wp2_with fail;exact HR.o _ (Sat.Pp (p:=(MD,.slice (some ⟨g,0,none⟩) (st.ns.length+1) cap,tv,main)) (rows:=rows) (H1.o.store 3 rfl 3 _) HB.o)
end
end Go.Proofs.YtdlbhiaceheffabGreatDoor
