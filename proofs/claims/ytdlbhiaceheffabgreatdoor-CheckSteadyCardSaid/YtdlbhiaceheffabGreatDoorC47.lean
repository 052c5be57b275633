/- The row and the card of CheckSteady, out of its walk: whatever text, the law answers true. -/
import Derived.Test.YtdlbhiaceheffabGreatDoorC46
set_option linter.all false
set_option maxRecDepth 100000
set_option maxHeartbeats 40000000
namespace Go.Proofs.YtdlbhiaceheffabGreatDoor.checkSteady
open Go.ChangeShapes Go.WideShapes Go.ChangeAt Go.RowKit Go.Lib
open Go.ChangeMaps (open_string shut_string)
theorem laid_met(os:Os)(args:Array Value):laidMet Tryz.prog Rows.checkSteadyRow.laid ((nY os).forCall (λ_ _=>0) ⟨#[],args,[]⟩).memory:=
 laidMet_of_run' 8 (by kernel_rfl) (by kernel_rfl)
theorem witness_row(os:Os){H:Type}(enc:TypeId×Value->H):
  (OpenSpec.ofChange Rows.checkSteadySpec).preRow enc Tryz.prog Tryz.f11 Rows.checkSteadyRow.domain false Rows.checkSteadyRow.laid ((nY os).forCall (λ_ _=>0) ⟨#[],#[.string ⟨#[]⟩],[]⟩).memory #[.string ⟨#[]⟩]:=by
 have hw: (DataW.whole enc Tryz.prog ((nY os).forCall (λ_ _=>0) ⟨#[],#[.string ⟨#[]⟩],[]⟩).memory Tryz.f11.params.toList Rows.checkSteadySpec.vars false #[Value.string ⟨#[]⟩].toList 8).map (λx=>(x.1,x.2.1))=
   some ([.lit (.string [])],[]):=by kernel_rfl
 obtain⟨⟨x1,x2,x3⟩,hx,Uo⟩:=Option.map_eq_some_iff.1 hw;simp only[Prod.mk.injEq]at Uo;obtain⟨rfl,rfl⟩:=Uo;exact OpenSpec.preRow_of_cond 8 hx (by kernel_rfl) (λk hk=>by cases hk) (by kernel_rfl) (laid_met os _)
theorem lifted(os:Os)(started:os.Started)(H:Type)(enc:TypeId×Value->H)(F:Stop.Interp):
  ReturnsInHanded {} Tryz.checked os 11 .any ((OpenSpec.ofChange Rows.checkSteadySpec).preRow enc Tryz.prog Tryz.f11 Rows.checkSteadyRow.domain false Rows.checkSteadyRow.laid) (((OpenSpec.ofChange Rows.checkSteadySpec).at F).post enc Tryz.prog Tryz.f11 false true false false):=by
 refine returnsInHanded_of_row (C:=Tryz.checked) (s:=OpenSpec.ofChange Rows.checkSteadySpec) Af started (by kernel_rfl) Tryz.func11
  (witness_row_atRef (enc:=enc) (C:=Tryz.checked) false (nY os) #[.string ⟨#[]⟩] rfl (by kernel_rfl) (by kernel_rfl) (by kernel_rfl) (witness_row os enc)) ?_
 intro W base args ds gs before R4 hW _ _ _ hL _ _;have V1:∀(j:Nat) t v,Tryz.f11.params[j]?=some t->args[j]?=some v->Value.okWide Tryz.prog W .any base t v:=R4;have aeJ:=hW;obtain⟨p,q,aca,ack,rfl,_,_⟩:=hW;have hA:DataW.TrodAll enc Tryz.prog W 0 (λ_=>true) true Tryz.f11.params.toList args.toList ds p:=aca;rw[Tryz.params11]at hA V1
 obtain⟨v0,d0,rfl,rfl,h0⟩:=trodAll_one hA;obtain⟨rfl,rfl⟩:=trodVars_none ack;obtain⟨s,rfl,rfl,rfl,ws⟩:=open_string Tryz.underlying9 (V1 0 9 v0 rfl rfl) h0;clear aca ack R4;have TQ:Words W:=xS (Lib.laidMet.reads hL (.tail _ (.tail _ (.tail _ (.tail _ (.tail _ (.head _)))))));have aax:Pow W:=Dy (Lib.laidMet.reads hL (.tail _ (.tail _ (.head _))));refine td s W TQ aax ws (λW' aeB=>?_);refine⟨_,rfl,_,_,_,[],[],[],aeJ,?_,?_,?_,aeB.frame _,λh=>by cases h⟩
 ·exact trodAll_mk1 (shut_bool Tryz.underlying4 _)
 ·exact trodAll_mk1 (shut_string Tryz.underlying9 ws)
 ·rfl
theorem closed:joinedFacts Tryz.pinned.checked.prog 11 Tryz.f11 (OpenSpec.ofChange Rows.checkSteadySpec).bare Rows.checkSteadyRow=true:=by
 unfold joinedFacts;simp only[Bool.and_eq_true];repeat' apply And.intro
 all_goals(as_aux_lemma=>kernel_rfl)
theorem said:Rows.CheckSteadySaid:=
 OpenClaim.holds_of_cond 11 Tryz.f11 rfl rfl rfl rfl rfl rfl rfl ⟨rfl,rfl,rfl,rfl,rfl⟩ rfl rfl rfl rfl rfl (by as_aux_lemma=>kernel_rfl) Tryz.func11 closed
  (of_decide_eq_true (by as_aux_lemma=>kernel_rfl)) (by unfold Func.isWrapper;first|(rw[if_pos (by decide+kernel)];as_aux_lemma=>kernel_rfl)|(rw[if_neg (by decide+kernel)];exact⟨rfl,rfl⟩))
  (λos started H enc _ F=>by rw[OpenClaim.pre_eq_preRow];exact lifted os started H enc F)
theorem plain(f:FuncId)(fn:Func)(hf:Tryz.pinned.checked.prog.funcNamed "guardrail/guardraillaw.CheckSteady" =some f) (qN:Tryz.pinned.checked.prog.funcs[f]?=some fn):
  true=Tryz.pinned.checked.prog.looks []/\∀(j:Nat) t,fn.params[j]?=some t->Tryz.pinned.checked.prog.wantsStandIn t=false:=by
 obtain rfl:f=11:=Option.some.inj ((show Tryz.prog.funcNamed "guardrail/guardraillaw.CheckSteady" =some 11 by kernel_rfl).symm.trans hf)|>.symm;obtain rfl:fn=Tryz.f11:=(Option.some.inj (Tryz.func11.symm.trans qN)).symm;refine⟨by kernel_rfl,λj t ht=>?_⟩;rw[Tryz.params11]at ht
 obtain rfl:t=9:=by simpa using Array.mem_of_getElem? ht
 exact(show Tryz.prog.wantsStandIn 9=false by kernel_rfl)
theorem card:Rows.CheckSteadyCardSaid:=
 Claim7.holds_tied_plain_at .later [] _ _ _ _ said (λ_ h=>by cases h) (by as_aux_lemma=>kernel_rfl) (λ_ h=>by cases h) checkSteady_row_tie rfl ⟨rfl,rfl⟩ (by as_aux_lemma=>kernel_rfl) rfl plain (by as_aux_lemma=>kernel_rfl)
end Go.Proofs.YtdlbhiaceheffabGreatDoor.checkSteady
