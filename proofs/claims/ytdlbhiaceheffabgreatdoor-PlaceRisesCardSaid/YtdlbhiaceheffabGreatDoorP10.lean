/- Walks of the parser's node, of, start, and of the reference's add, at: nodes in memory. -/
import Derived.Test.YtdlbhiaceheffabGreatDoorP09
set_option linter.all false
set_option maxRecDepth 100000
set_option maxHeartbeats 1000000
namespace Go.Proofs.YtdlbhiaceheffabGreatDoor
open Go Go.RowKit Ty Tok ak Tryz Proofs.Tryz
theorem QG: (prog.info? 66).map (λi=>(i.zero,i.size,i.bytes))=some (some (.agg #[.int .i64 0,.int .i64 0,.int .i64 0,.int .i64 0,.slice none 0 0,.string ⟨#[]⟩,.int .i64 0,.int .i64 0,.int .i64 0]),9,96):=by kernel_rfl
def aK(t:Ty.Nd)(lv:Value):Value:=.agg #[.int .i64 t.kind,.int .i64 t.a,.int .i64 t.b,.int .i64 t.c,lv,.string t.text,.int .i64 t.n,.int .i64 t.ty,.int .i64 t.pos]
def ru(r:NdRow):As:=eZ r.lv r.t.list
section
variable {w0 w:World} {Fr:As} {pb d:Nat} {ad:List Tok.Tk}
theorem ak.Sat.PD{A B C D:As}{rows:List NdRow}{ns:List Ty.Nd}{t:Ty.Nd}{v lv:Value}(h:Sat w0 w [Fr,A,B,C,D,cn (rows.map NdRow.t=ns),ak.row 66 9 v (ns.length+1) (rows.flatMap eR++eR ⟨t,lv⟩),ah (rows.map ru),eZ lv t.list]):
  Sat w0 w [Fr,A,B,C,D,vV v (ns++[t])]:=by
 have hr:=h.pure 5 rfl;have h:=Sat.pack (L:=[Fr,_,_,_,_,_,_]) (M:=[ah (rows.map ru),ru (NdRow.mk t lv)]) h;have h:=h.cG (i:=7) rfl (Q:=ah ((rows++[NdRow.mk t lv]).map ru)) (λa ha=>by rw[List.map_append];exact t_ ha);have h:=h.cG (i:=5) rfl (Q:=cn ((rows++[NdRow.mk t lv]).map NdRow.t=ns++[t])) (λa _=>by show _= _;rw[List.map_append,hr];rfl);have h:=h.cG (i:=6) rfl (Q:=ak.row 66 9 v (ns++[t]).length ((rows++[NdRow.mk t lv]).flatMap eR)) (λa ha=>by rw[List.flatMap_append,List.length_append];exact ha);have h:=Sat.pack (L:=[Fr,_,_,_,_]) (M:=[_,_,_]) h;exact h.cG (i:=5) rfl (Q:=vV v (ns++[t])) (λa ha=>⟨_,ha⟩)
def Eo(pb d:Nat)(ad:List Tok.Tk)(st:Ty.St)(p:Value×Value×Value×Int)(n:Nat)(cells:List Value)(rows:List NdRow)(ns:List Ty.Nd):List As:=
 [cn (pQ ad∧st.pos<ad.length∧d≤20∧st.ts.length≤st.pos∧st.ns.length≤st.pos+1),
 ay pb (.cells #[p.1,.int .i64 st.pos,.int .i64 d,p.2.1,p.2.2.1,.int .i64 p.2.2.2] 86 (0,0)),Ut p.1 ad,oS p.2.2.1 st.ts,
 cn (rows.map NdRow.t=ns),ak.row 66 9 p.2.1 n cells,ah (rows.map ru)]
theorem ak.Sat.Jj{st:Ty.St}{A:As}(h:Sat w0 w [Fr,aX pb d ad st,A]):∃p rows,Sat w0 w (Fr::A::Eo pb d ad st p st.ns.length (rows.flatMap eR) rows st.ns):=by
 obtain⟨p,h⟩:=h.ex (i:=1) rfl;obtain⟨rows,h⟩:=(h.unpack (i:=1) rfl).ex (i:=5) rfl;exact⟨p,rows,h.unpack (i:=5) rfl⟩
theorem ak.Sat.Qb{st:Ty.St}{p:Value×Value×Value×Int}{rows:List NdRow}{t:Ty.Nd}{lv:Value}(h:Sat w0 w (Fr::eZ lv t.list::Eo pb d ad st p (st.ns.length+1) (rows.flatMap eR++eR ⟨t,lv⟩) rows st.ns))(hb:st.ns.length≤st.pos):
  Sat w0 w [Fr,aX pb d ad {st with ns:=st.ns++[t]}]:=by
 have hq:=h.pure 2 rfl;have h:=(Sat.PD (h.pick [0,2,3,4,5,6,7,8,1])).pick [0,1,2,3,5,4];have h:=h.cG (i:=1) rfl (Q:=cn (pQ ad∧st.pos<ad.length∧d≤20∧st.ts.length≤st.pos∧(st.ns++[t]).length≤st.pos+1)) (λa _=>⟨hq.1,hq.2.1,hq.2.2.1,hq.2.2.2.1,by simpa using hb⟩);exact Sat.mP (st:={st with ns:=st.ns++[t]}) (p:=p) h
theorem cd{st:Ty.St}(t:Ty.Nd)(lv:Value)(H:Sat w0 w [Fr,aX pb d ad st,eZ lv t.list])(hb:st.ns.length≤st.pos)
  {R:EW} (hR:∀w',Sat w0 w' [Fr,aX pb d ad {st with ns:=st.ns++[t]}]→R (.returned (.int .i64 (st.ns.length:Nat))) w'):
  Calls prog 77 #[.pointer (some ⟨pb,0,none⟩),aK t lv] w R:=by
 have HR:=qh hR;obtain⟨i0,ti,mx,mu,mw⟩:=info_parts QG;obtain⟨⟨Nq,nv,tv,main⟩,rows,hs⟩:=H.Jj;have hs:Sat w0 w (Fr::eZ lv t.list::Eo pb d ad st (Nq,nv,tv,main) st.ns.length (rows.flatMap eR) rows st.ns):=hs;have hq:=hs.pure 2 rfl;have hlen:=hq.1.1;have fs:=hq.2.1;have xm:st.ns.length≤1001:=by omega
 have c4:=hs.cell 3 rfl 3 rfl;have f4:=hs.free 3 rfl 3;have bm:=hs.lt 3 rfl;have hr:=hs.row 7 rfl;obtain⟨a,dr,rfl⟩:=ag hr;obtain⟨la,lc,rfl⟩:=ag (hs.row 1 rfl);have dG:=qh hr;have HS:=qh hs;have HB:=qh hb;clear hR H hs hq hr hb;dsimp only[aK];go_in;go_wp2_with fail;go_region_law(first
  |(go_loud(refine step_append_lies _ (by rfl) _ _ _ (by rfl) 0 66 i0 _ 9 96 underlying28 ti mx mu mw rfl (by omega) (.slice a st.ns.length dr) st.ns.length (rows.flatMap eR) (by rfl) (((dG.o.alloc _).alloc _).drew) ⟨w.heap.size+1,0,none⟩ 1 1 (eR ⟨t,.slice la t.list.length lc⟩) (by rfl) (by rfl) (World.news_of_block (cs:=(eR ⟨t,.slice la t.list.length lc⟩).toArray) (t:=66) (fr:=(0,0)) (ey (aH _ _ _ (by simp)))) (by simp[Value.oneCell',eR]) (by omega) (by have:=HB.o;unfold maxLen;omega) (by have:=HB.o;omega) (by simp) (w.heap.size+2) (by simp) ?_);intro g cap w1 sw kv vb jE;have h1:=Sat.grow ((HS.o.aU _).aU _).drew 7 rfl kv sw (by simpa using vb);have d4:=h1.cell 3 rfl 3 rfl;have e4:=h1.free 3 rfl 3;have H1:=qh h1;clear h1))
 all_goals
  clear sw kv;go_wp2_with fail;exact HR.o _ (Sat.Qb (p:=(Nq,.slice (some ⟨g,0,none⟩) (st.ns.length+1) cap,tv,main)) (rows:=rows) (H1.o.store 3 rfl 3 _) HB.o)
end
end Go.Proofs.YtdlbhiaceheffabGreatDoor
