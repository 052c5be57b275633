/- Walks of the parser's node, of, start, and of the reference's add, at: nodes in memory. -/
import Derived.BigQuiet
import Derived.Deep.QuietTactic
import Derived.Test.YtdlbhiaceheffabGreatDoorC10
import Derived.Test.YtdlbhiaceheffabGreatDoorC04
set_option linter.all false
set_option maxRecDepth 100000
set_option maxHeartbeats 1000000
namespace Go.Proofs.YtdlbhiaceheffabGreatDoor
open Go Go.RowKit Ty Tok Prt Tryz Proofs.Tryz
theorem TS: (prog.info? 66).map (λi=>(i.zero,i.size,i.bytes))=some (some (.agg #[.int .i64 0,.int .i64 0,.int .i64 0,.int .i64 0,.slice none 0 0,.string ⟨#[]⟩,.int .i64 0,.int .i64 0,.int .i64 0]),9,96):=by kernel_rfl
def aH(t:Nd)(lv:Value):Value:=.agg #[.int .i64 t.kind,.int .i64 t.a,.int .i64 t.b,.int .i64 t.c,lv,.string t.text,.int .i64 t.n,.int .i64 t.ty,.int .i64 t.pos]
def tF(r:NdRow):As:=gi r.lv r.t.list
section
variable {w0 w:World} {Fr:As} {pb d:Nat} {ad:List Tok.Tk}
theorem Prt.Sat.S3{A B C D:As}{rows:List NdRow}{ns:List Nd}{t:Nd}{v lv:Value}(h:Sat w0 w [Fr,A,B,C,D,bU (rows.map NdRow.t=ns),Prt.row 66 9 v (ns.length+1) (rows.flatMap fi++fi ⟨t,lv⟩),aq (rows.map tF),gi lv t.list]):
  Sat w0 w [Fr,A,B,C,D,C8 v (ns++[t])]:=by
 have hr:=h.pure 5 rfl;have h:=Sat.pack (L:=[Fr,_,_,_,_,_,_]) (M:=[aq (rows.map tF),tF (NdRow.mk t lv)]) h;have h:=h.cQ (i:=7) rfl (Q:=aq ((rows++[NdRow.mk t lv]).map tF)) (λa ha=>by rw[List.map_append];exact wD ha);have h:=h.cQ (i:=5) rfl (Q:=bU ((rows++[NdRow.mk t lv]).map NdRow.t=ns++[t])) (λa _=>by show _= _;rw[List.map_append,hr];rfl);have h:=h.cQ (i:=6) rfl (Q:=Prt.row 66 9 v (ns++[t]).length ((rows++[NdRow.mk t lv]).flatMap fi)) (λa ha=>by rw[List.flatMap_append,List.length_append];exact ha);have h:=Sat.pack (L:=[Fr,_,_,_,_]) (M:=[_,_,_]) h;exact h.cQ (i:=5) rfl (Q:=C8 v (ns++[t])) (λa ha=>⟨_,ha⟩)
def Hg(pb d:Nat)(ad:List Tok.Tk)(st:Ty.St)(p:Value×Value×Value×Int)(n:Nat)(cells:List Value)(rows:List NdRow)(ns:List Nd):List As:=
 [bU (tE ad/\st.pos<ad.length/\d<=20/\st.ts.length<=st.pos/\st.ns.length<=st.pos+1),
 ax pb (.cells #[p.1,.int .i64 st.pos,.int .i64 d,p.2.1,p.2.2.1,.int .i64 p.2.2.2] 86 (0,0)),YI p.1 ad,sA p.2.2.1 st.ts,
 bU (rows.map NdRow.t=ns),Prt.row 66 9 p.2.1 n cells,aq (rows.map tF)]
theorem Prt.Sat.Ow{st:Ty.St}{A:As}(h:Sat w0 w [Fr,aT pb d ad st,A]):∃p rows,Sat w0 w (Fr::A::Hg pb d ad st p st.ns.length (rows.flatMap fi) rows st.ns):=by
 obtain⟨p,h⟩:=h.ex (i:=1) rfl;obtain⟨rows,h⟩:=(h.unpack 1 rfl).ex (i:=5) rfl;exact⟨p,rows,h.unpack 5 rfl⟩
theorem Prt.Sat.Uy{st:Ty.St}{p:Value×Value×Value×Int}{rows:List NdRow}{t:Nd}{lv:Value}(h:Sat w0 w (Fr::gi lv t.list::Hg pb d ad st p (st.ns.length+1) (rows.flatMap fi++fi ⟨t,lv⟩) rows st.ns))(hb:st.ns.length<=st.pos):
  Sat w0 w [Fr,aT pb d ad {st with ns:=st.ns++[t]}]:=by
 have hq:=h.pure 2 rfl;have h:=(Sat.S3 (h.pick [0,2,3,4,5,6,7,8,1])).pick [0,1,2,3,5,4];have h:=h.cQ (i:=1) rfl (Q:=bU (tE ad/\st.pos<ad.length/\d<=20/\st.ts.length<=st.pos/\(st.ns++[t]).length<=st.pos+1)) (λa _=>⟨hq.1,hq.2.1,hq.2.2.1,hq.2.2.2.1,by simpa using hb⟩);exact Sat.nZ (st:={st with ns:=st.ns++[t]}) (p:=p) h
theorem bT{st:Ty.St}(t:Nd)(lv:Value)(H:Sat w0 w [Fr,aT pb d ad st,gi lv t.list])(hb:st.ns.length<=st.pos)
  {R:EW} (hR:∀w',Sat w0 w' [Fr,aT pb d ad {st with ns:=st.ns++[t]}]->R (.returned (.int .i64 (st.ns.length:Nat))) w'):
  Calls prog 77 #[.pointer (some ⟨pb,0,none⟩),aH t lv] w R:=by
 have HR:=qh hR;obtain⟨i0,ti,oB,oA,oy⟩:=info_parts TS;obtain⟨⟨PY,nv,tv,main⟩,rows,hs⟩:=H.Ow;have hs:Sat w0 w (Fr::gi lv t.list::Hg pb d ad st (PY,nv,tv,main) st.ns.length (rows.flatMap fi) rows st.ns):=hs;have hq:=hs.pure 2 rfl;have hlen:=hq.1.1;have yo:st.ns.length<=1001:=by omega
 have c4:=hs.cell 3 3;have bz:=hs.lt 3;have hr:=hs.row 7;obtain⟨a,dt,rfl⟩:=ag hr;obtain⟨la,lc,rfl⟩:=ag (hs.row 1);have ik:=qh hr;have HS:=qh hs;have HB:=qh hb;clear hR H hs hq hr hb;dsimp only[aH];go_in;go_wp2_with fail;go_region_law(first
  |(go_loud(refine step_append_lies _ (by rfl) _ _ _ (by rfl) 0 66 i0 _ 9 96 underlying28 ti oB oA oy rfl (by omega) (.slice a st.ns.length dt) st.ns.length (rows.flatMap fi) (by rfl) (((ik.o.alloc _).alloc _).drew) ⟨w.heap.size+1,0,none⟩ 1 1 (fi ⟨t,.slice la t.list.length lc⟩) (by rfl) (by rfl) (World.news_of_block (cs:=(fi ⟨t,.slice la t.list.length lc⟩).toArray) (t:=66) (fr:=(0,0)) (eK (aC _ _ _ (by simp)))) (by simp[Value.oneCell',fi]) (by omega) (by have:=HB.o;unfold maxLen;omega) (by have:=HB.o;omega) (by simp) (w.heap.size+2) (by simp) ?_);intro g cap w1 vV jZ sX jH;have h1:=Sat.grow ((HS.o.aU _).aU _).drew 7 rfl jZ vV (by simpa using sX);have d4:=h1.cell 3 3;have e4:=h1.free 3 rfl 3;have H1:=qh h1;clear h1))
 all_goals
  clear vV jZ;go_wp2_with fail;exact HR.o _ (Sat.Uy (p:=(PY,.slice (some ⟨g,0,none⟩) (st.ns.length+1) cap,tv,main)) (rows:=rows) (H1.o.store 3 rfl 3 _) HB.o)
end
end Go.Proofs.YtdlbhiaceheffabGreatDoor
