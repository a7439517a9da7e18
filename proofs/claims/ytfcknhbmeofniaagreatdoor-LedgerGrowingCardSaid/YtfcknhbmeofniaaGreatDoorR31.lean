/- The law LedgerGrowing answers true at every input: no condition. -/
import Derived.Test.YtfcknhbmeofniaaGreatDoorR30
set_option linter.all false
set_option maxRecDepth 100000
set_option maxHeartbeats 16000000
set_option linter.all false
namespace Go.Proofs.YtfcknhbmeofniaaGreatDoor.ledgerGrowing
open Go.RowKit Go.ChangeShapes Go.WideShapes Go.ChangeAt Go.Joins BT
set_option maxRecDepth 100000
theorem laidOut:laidOutB Tryz.prog=true:=by kernel_rfl
theorem reads (os:Os){H:Type}(enc:TypeId×Value→H):∃ places,DataW.whole enc Tryz.prog ((qgi os).forCall (fun _ _=>0) ⟨#[],#[.slice none 0 0],[]⟩).memory Tryz.f3.params.toList Rows.ledgerGrowingSpec.vars false #[Value.slice none 0 0].toList 8=some ([.nil],[],places):=
 ⟨[],by kernel_rfl⟩
theorem lifted (os:Os)(started:os.Started)(H:Type)(enc:TypeId×Value→H)(F:Stop.Interp) :
  ReturnsInHanded {} Tryz.checked os 3 .any ((OpenSpec.ofChange Rows.ledgerGrowingSpec).preRow enc Tryz.prog Tryz.f3 Rows.ledgerGrowingRow.domain false Rows.ledgerGrowingRow.laid) (((OpenSpec.ofChange Rows.ledgerGrowingSpec).at F).post enc Tryz.prog Tryz.f3 false true false false):=by
 obtain⟨places,hx⟩:=reads os enc;refine returnsInHanded_of_row (C:=Tryz.checked) (s:=OpenSpec.ofChange Rows.ledgerGrowingSpec) qlA started (by kernel_rfl) Tryz.func3
  (witness_row_atRef (enc:=enc) (C:=Tryz.checked) false (qgi os) #[.slice none 0 0] rfl (by kernel_rfl) (by kernel_rfl) (by kernel_rfl)
   (OpenSpec.preRow_of_cond 8 hx (by kernel_rfl) (fun k hk=>by cases hk) (by kernel_rfl) (led_met os _))) ?_
 intro W base args ds gs before hval0 hW _ _ hwt hL _ _;have Ha:∀ (j:Nat) t v,Tryz.f3.params[j]?=some t→args[j]?=some v→Value.okWide Tryz.prog W .any base t v:=hval0;have Hb:=hW;obtain⟨p,q,hA0,hV,rfl,hfz,hnd⟩:=hW;have hA:DataW.TrodAll enc Tryz.prog W 0 (fun _=>true) true Tryz.f3.params.toList args.toList ds p:=hA0;rw[Tryz.params3]at hA Ha;obtain⟨v0,vs0,d0,ds0,p0,q0,hargs0,rfl,rfl,h0,r0⟩:=trodAll_cons hA;obtain⟨rfl,rfl,rfl⟩:=trodAll_nil r0;obtain rfl:args=#[v0]:=by cases args;simp_all
 obtain⟨rfl,rfl⟩:=trodVars_none hV;have Hc:(DataW.weightsEach Tryz.prog [22] [d0]).all (·≤reachBytes)=true:=by
  have e:Tryz.f3.params.toList=[22]:=by rw[Tryz.params3]
  have h:=hwt;rw[e]at h;exact h
 obtain⟨A,cap,L,rfl,ho,hm⟩:=qkp (Ha 0 22 v0 rfl rfl) h0 (fun x hx=>of_decide_eq_true (zbq.1 Hc x (DataW.weights_mem_each (ts:=[22]) (ds:=[d0]) (j:=0) rfl rfl x hx)));obtain⟨hn,hkon⟩:=qmg hL;clear hA0 hval0;refine(qgW hn hkon ho rfl hm).mono fun e W' ⟨he,hg⟩=>?_;subst he;exact⟨_,rfl,qll laidOut Tryz.underlying4 (by kernel_rfl) rfl (by kernel_rfl) Hb rfl hg⟩
theorem closed:joinedFacts Tryz.prog 3 Tryz.f3 (OpenSpec.ofChange Rows.ledgerGrowingSpec).bare Rows.ledgerGrowingRow=true:=by
 unfold joinedFacts
 repeat' (with_reducible refine Bool.and_eq_true_iff.2 ⟨?_,?_⟩)
 all_goals (as_aux_lemma=>kernel_rfl)
theorem named:Tryz.pinned.checked.prog.funcNamed Rows.ledgerGrowingRow.func=some 3:=by kernel_rfl
theorem said:Rows.LedgerGrowingSaid:=
 OpenClaim.holds_of_cond 3 Tryz.f3 rfl rfl rfl rfl rfl rfl rfl ⟨rfl,rfl,rfl,rfl,rfl⟩ rfl rfl rfl rfl rfl named Tryz.func3 closed
  (of_decide_eq_true (by as_aux_lemma=>kernel_rfl)) (by unfold Func.isWrapper;first|(rw[zax (by decide +kernel)];as_aux_lemma=>kernel_rfl)|(rw[zaC (by decide +kernel)];exact⟨rfl,rfl⟩))
  (fun os started H enc _ F=>by rw[OpenClaim.pre_eq_preRow];exact lifted os started H enc F)
theorem plain (f:FuncId)(fn:Func)(hf:Tryz.pinned.checked.prog.funcNamed "muniment/munimentlaw19.LedgerGrowing"=some f)(hfn:Tryz.pinned.checked.prog.funcs[f]?=some fn) :
  false=Tryz.pinned.checked.prog.looks []∧∀ (j:Nat) t,fn.params[j]?=some t→Tryz.pinned.checked.prog.wantsStandIn t=false:=by
 obtain rfl:f=3:=zaG ((show Tryz.prog.funcNamed "muniment/munimentlaw19.LedgerGrowing"=some 3 by kernel_rfl).symm.trans hf) |>.symm
 obtain rfl:fn=Tryz.f3:=(zaG (Tryz.func3.symm.trans hfn)).symm;refine⟨by kernel_rfl,fun j t ht=>?_⟩;rw[Tryz.params3]at ht;have h2:=Array.mem_of_getElem? ht;simp only[List.mem_toArray,zaB,zch,or_false]at h2;subst h2;exact(show Tryz.prog.wantsStandIn 22=false by kernel_rfl)
theorem proved:Rows.LedgerGrowingCardSaid:=
 Claim7.holds_tied_plain_at .later [] _ _ _ _ said (fun _ h=>by cases h) (by kernel_rfl) (fun _ h=>by cases h) ledgerGrowing_row_tie rfl ⟨rfl,rfl⟩ (by kernel_rfl) rfl plain (by kernel_rfl)
end Go.Proofs.YtfcknhbmeofniaaGreatDoor.ledgerGrowing
