/-
What is proved: the statement FnRecoverOthersSaid: for every code the law returns true, and the code reads behind the call as it read before. No condition.
-/
import Derived.Test.YtjklkppncmhehaaGreatRx26
import Derived.Test.YtjklkppncmhehaaGreatRx56
import Derived.Test.YtjklkppncmhehaaGreatRx48
import Derived.Conc.LeavingOf
set_option linter.unusedVariables false
set_option linter.unusedSimpArgs false
namespace Go.Proofs.YtjklkppncmhehaaGreat.fnRecoverOthers
open Go.ChangeShapes Go.WideShapes Go.ChangeAt Go.RowKit Go.Conc Go.Joins
set_option maxRecDepth 100000 in
theorem lifted (os:Os)(started:os.Started)(H:Type)(enc:TypeId×Value→H):
  ReturnsInLeavingWide {} Tryz.checked os 10 .any (Rows.fnRecoverOthersSpec.pre6 enc Tryz.prog Tryz.f10 Rows.fnRecoverOthersRow.domain false) (Rows.fnRecoverOthersSpec.post enc Tryz.prog Tryz.f10 false true false false):=by
 refine returnsInLeavingWide_of_change_sized (C:=Tryz.checked) own started Tryz.func10
  (ChangeSpec.witness6 (enc:=enc) (C:=Tryz.checked) false ⟨#[],#[.slice none 0 0],[]⟩ 8 (by kernel_rfl) (by kernel_rfl) (by kernel_rfl) (by kernel_rfl)) ?_
 intro W base args ds gs before iq hW _ _ _;have ia:∀(j:Nat) t v,Tryz.f10.params[j]?=some t→args[j]?=some v→Value.okWide Tryz.prog W .any base t v:=iq
 have A_:=hW;obtain⟨p,q,rH,hV,rfl,mu,TZ⟩:=hW;have hA:DataW.TrodAll enc Tryz.prog W 0 (fun _=>true) true Tryz.f10.params.toList args.toList ds p:=rH
 rw[Tryz.params10]at hA ia;obtain⟨v0,T0,d0,T3,p0,q0,lC,rfl,rfl,h0,r0⟩:=trodAll_cons hA;obtain⟨rfl,rfl,rfl⟩:=trodAll_nil r0;obtain rfl:args= #[v0]:=by cases args;simp_all
 obtain⟨rfl,rfl⟩:=trodVars_none hV;have k0:=h0;have Ba:∀x∈p0,x.block<W.heap.size:=by obtain⟨m,hm⟩:=k0;exact DataW.trod_lt m _ _ _ hm
 have ly:=ia 0 22 v0 rfl rfl;obtain⟨A,n,c,bs,rfl,hn,hc,hr,hb⟩:=kC ly h0;clear rH iq;obtain⟨M,last,o,w',t',h1,h2,h3,h4⟩:=Sr.iK (f:=10) (n:=n) (c:=c) (by decide+kernel) (by decide+kernel) (Sr.eK Tryz.underlying22 ly) (fun v cv hz=>T.jQ (Sr.eK Tryz.underlying22 ly) hn hc hr (T.sA bs hb) v cv hz)
 refine⟨M,last,o,w',t',h1,h2,h3,h4.mono fun v hF=>?_⟩
 obtain⟨rfl,qw⟩:v= .bool true∧Below W.heap.size W w':=hF;exact⟨_,_,_,[],_,[],A_,trodAll_mk1 (shut_bool Tryz.underlying4 _),(trodAll_cons_mk (Below.trod laidOut (by kernel_rfl) (of_decide_eq_true (by kernel_rfl)) k0 qw Ba) trodAll_mk0),rfl,qw.frame _,fun h=>by cases h⟩
theorem rJ {a b:Bool}(h:a=true)(k:b=true):(a&&b)=true:=by rw[h,k];rfl
set_option maxHeartbeats 4000000 in
theorem closed:joinedFacts Tryz.pinned.checked.prog 10 Tryz.f10 Rows.fnRecoverOthersSpec Rows.fnRecoverOthersRow=true:=by
 unfold joinedFacts;repeat (with_reducible refine rJ ?_ (by as_aux_lemma=>kernel_rfl))
 as_aux_lemma=>kernel_rfl
theorem named:Tryz.pinned.checked.prog.funcNamed Rows.fnRecoverOthersRow.func=some 10:=by kernel_rfl
theorem over:Rows.fnRecoverOthersRow.holds Tryz.pinned (OpenSpec.ofChange Rows.fnRecoverOthersSpec):=
 OpenClaim.holds_of_wide_leaving 10 Tryz.f10 rfl rfl rfl rfl rfl rfl rfl ⟨rfl,rfl,rfl,rfl,rfl⟩ rfl rfl rfl rfl rfl named Tryz.func10 closed
  (of_decide_eq_true (by kernel_rfl)) (by unfold Func.isWrapper;first|(rw[if_pos (by decide+kernel)];kernel_rfl)|(rw[if_neg (by decide+kernel)];exact⟨rfl,rfl⟩))
  (fun os started H enc _=>lifted os started H enc)
theorem proved:Rows.FnRecoverOthersSaid:=over
#print axioms proved
end Go.Proofs.YtjklkppncmhehaaGreat.fnRecoverOthers
