/-
What is proved: the statement FnExactWorldValidSaid: for every code the law returns true, and the code reads behind the call as it read before. No condition.
-/
import Derived.Test.YtlhohdjniaebbaaGreatRy27
import Derived.Test.YtlhohdjniaebbaaGreatRy50
import Derived.Test.YtlhohdjniaebbaaGreatRy53
import Derived.Test.YtlhohdjniaebbaaGreatRy51
import Derived.Conc.LeavingOf
set_option linter.unusedVariables false
set_option linter.unusedSimpArgs false
namespace Go.Proofs.YtlhohdjniaebbaaGreat.fnExactWorldValid
open Go.ChangeShapes Go.WideShapes Go.ChangeAt Go.RowKit Go.Conc Go.Joins
set_option maxRecDepth 100000 in
theorem lifted (os:Os)(started:os.Started)(H:Type)(enc:TypeId×Value→H):
  ReturnsInLeavingWide {} Tryz.checked os 3 .any (Rows.fnExactWorldValidSpec.pre6 enc Tryz.prog Tryz.f3 Rows.fnExactWorldValidRow.domain false) (Rows.fnExactWorldValidSpec.post enc Tryz.prog Tryz.f3 false true false false):=by
 refine returnsInLeavingWide_of_change_sized (C:=Tryz.checked) own started Tryz.func3
  (ChangeSpec.witness6 (enc:=enc) (C:=Tryz.checked) false ⟨#[],#[.agg #[.slice none 0 0,.slice none 0 0,.slice none 0 0,.slice none 0 0,.slice none 0 0]],[]⟩ 8 (by kernel_rfl) (by kernel_rfl) (by kernel_rfl) (by kernel_rfl)) ?_
 intro W base args ds gs before VQ hW _ _ _;have zy:∀(j:Nat) t v,Tryz.f3.params[j]?=some t→args[j]?=some v→Value.okWide Tryz.prog W .any base t v:=VQ
 have hW':=hW;obtain⟨p,q,hA0,hV,rfl,kH,S7⟩:=hW;have hA:DataW.TrodAll enc Tryz.prog W 0 (fun _=>true) true Tryz.f3.params.toList args.toList ds p:=hA0
 rw[Tryz.params3]at hA zy;obtain⟨v0,vs0,d0,ds0,p0,q0,sZ,rfl,rfl,h0,r0⟩:=trodAll_cons hA;obtain⟨rfl,rfl,rfl⟩:=trodAll_nil r0;obtain rfl:args= #[v0]:=by cases args;simp_all
 obtain⟨rfl,rfl⟩:=trodVars_none hV;have k0:=h0;have lt0:∀x∈p0,x.block<W.heap.size:=by obtain⟨m,hm⟩:=k0;exact DataW.trod_lt m _ _ _ hm
 have Er:=zy 0 28 v0 rfl rfl;obtain⟨r,hr⟩:=T.R6 Er h0;clear hA0 VQ;obtain⟨M,last,o,w',t',h1,h2,h3,h4⟩:=T.BJ (f:=3) (by decide+kernel) (by decide+kernel) hr (T.tC r)
 refine⟨M,last,o,w',t',h1,h2,h3,h4.mono fun v hF=>?_⟩
 obtain⟨rfl,bel⟩:v= .bool true∧Below W.heap.size W w':=hF;exact⟨_,_,_,[],_,[],hW',trodAll_mk1 (shut_bool Tryz.underlying4 _),(trodAll_cons_mk (Below.trod laidOut (by kernel_rfl) (of_decide_eq_true (by kernel_rfl)) k0 bel lt0) trodAll_mk0),rfl,bel.frame _,fun h=>by cases h⟩
theorem abV {a b:Bool}(h:a=true)(k:b=true):(a&&b)=true:=by rw[h,k];rfl
set_option maxHeartbeats 4000000 in
theorem closed:joinedFacts Tryz.pinned.checked.prog 3 Tryz.f3 Rows.fnExactWorldValidSpec Rows.fnExactWorldValidRow=true:=by
 unfold joinedFacts;repeat (with_reducible refine abV ?_ (by as_aux_lemma=>kernel_rfl))
 as_aux_lemma=>kernel_rfl
theorem named:Tryz.pinned.checked.prog.funcNamed Rows.fnExactWorldValidRow.func=some 3:=by kernel_rfl
theorem over:Rows.fnExactWorldValidRow.holds Tryz.pinned (OpenSpec.ofChange Rows.fnExactWorldValidSpec):=
 OpenClaim.holds_of_wide_leaving 3 Tryz.f3 rfl rfl rfl rfl rfl rfl rfl ⟨rfl,rfl,rfl,rfl,rfl⟩ rfl rfl rfl rfl rfl named Tryz.func3 closed
  (of_decide_eq_true (by kernel_rfl)) (by unfold Func.isWrapper;first|(rw[if_pos (by decide+kernel)];kernel_rfl)|(rw[if_neg (by decide+kernel)];exact⟨rfl,rfl⟩))
  (fun os started H enc _=>lifted os started H enc)
theorem proved:Rows.FnExactWorldValidSaid:=over
#print axioms proved
end Go.Proofs.YtlhohdjniaebbaaGreat.fnExactWorldValid
