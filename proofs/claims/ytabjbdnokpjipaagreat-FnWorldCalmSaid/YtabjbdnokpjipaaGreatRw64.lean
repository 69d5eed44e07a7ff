/-
What is proved: the statement FnWorldCalmSaid: for every code the law returns true, and the code reads behind the call as it read before. No condition.
-/
import Derived.Test.YtabjbdnokpjipaaGreatRw27
import Derived.Test.YtabjbdnokpjipaaGreatRw63
import Derived.Test.YtabjbdnokpjipaaGreatRw50
import Derived.Conc.LeavingOf
import Derived.Conc.HoldsTime
set_option linter.unusedVariables false
set_option linter.unusedSimpArgs false
namespace Go.Proofs.YtabjbdnokpjipaaGreat.fnWorldCalm
open Go.ChangeShapes Go.WideShapes Go.ChangeAt Go.RowKit Go.Conc Go.Joins Go.ConcM
set_option maxRecDepth 100000 in
theorem lifted (os:Os)(started:os.Started)(H:Type)(enc:TypeId×Value→H)(F:Stop.Interp):
  ReturnsInLeavingWide Rows.fnWorldCalmRow.assume Tryz.checked os 9 .any (Rows.fnWorldCalmSpec.pre6 enc Tryz.prog Tryz.f9 Rows.fnWorldCalmRow.domain false) ((OpenSpec.ofChange Rows.fnWorldCalmSpec).postWith enc Tryz.prog Tryz.f9 F (outsideKept [.timePasses]) false true false):=by
 refine returnsInLeavingWide_of_change_time (C:=Tryz.checked) own started Tryz.func9
  (ChangeSpec.witness6c (enc:=enc) (C:=Tryz.checked) ⟨#[],#[.slice none 0 0],[]⟩ 8 (by kernel_rfl) (by kernel_rfl) (by kernel_rfl) (by kernel_rfl)) ?_
 intro W base args ds gs before gU hW _ _ _;have iJ:∀(j:Nat) t v,Tryz.f9.params[j]?=some t→args[j]?=some v→Value.okWide Tryz.prog W .any base t v:=gU
 have zQ:=hW;obtain⟨p,q,qM,hV,rfl,kh,CA⟩:=hW;have hA:DataW.TrodAll enc Tryz.prog W 0 (fun _=>true) true Tryz.f9.params.toList args.toList ds p:=qM
 rw[Tryz.params9]at hA iJ;obtain⟨v0,V6,d0,V7,p0,q0,lZ,rfl,rfl,h0,r0⟩:=trodAll_cons hA;obtain⟨rfl,rfl,rfl⟩:=trodAll_nil r0;obtain rfl:args= #[v0]:=by cases args;simp_all
 obtain⟨rfl,rfl⟩:=trodVars_none hV;have k0:=h0;have zR:∀x∈p0,x.block<W.heap.size:=by obtain⟨m,hm⟩:=k0;exact DataW.trod_lt m _ _ _ hm
 have jq:=iJ 0 22 v0 rfl rfl;obtain⟨A,n,c,bs,rfl,hn,hc,hr,hb⟩:=my jq h0;clear qM gU;obtain⟨M,last,o,w',t',h1,h2,h3,h4⟩:=Sr.fQ (f:=9) (n:=n) (c:=c) (by decide+kernel) (by decide+kernel) (Sr.fK Tryz.underlying22 jq) (fun v cO hz=>T.iF (Sr.fK Tryz.underlying22 jq) hn hc hr (T.BE bs hb) v cO hz)
 refine⟨M,last,o,w',t',h1,h2,h3,h4.mono fun v hF=>?_⟩
 obtain⟨rfl,qN⟩:v= .bool true∧Below W.heap.size W w':=hF;have hos:w'.os=W.os:=qN.os
 refine⟨?_,by rw[hos];exact OsLater.refl _⟩
 rw[show({w' with os:=W.os}:World)=w' by rw[←hos]]
 exact⟨_,_,_,[],_,[],zQ,trodAll_mk1 (shut_bool Tryz.underlying4 _),(trodAll_cons_mk (Below.trod laidOut (by kernel_rfl) (of_decide_eq_true (by kernel_rfl)) k0 qN zR) trodAll_mk0),rfl,qN.frame _,fun h=>by cases h⟩
theorem qO {a b:Bool}(h:a=true)(k:b=true):(a&&b)=true:=by rw[h,k];rfl
set_option maxHeartbeats 4000000 in
theorem closed:joinedFacts Tryz.pinned.checked.prog 9 Tryz.f9 Rows.fnWorldCalmSpec Rows.fnWorldCalmRow=true:=by
 unfold joinedFacts;repeat (with_reducible refine qO ?_ (by as_aux_lemma=>kernel_rfl))
 as_aux_lemma=>kernel_rfl
theorem named:Tryz.pinned.checked.prog.funcNamed Rows.fnWorldCalmRow.func=some 9:=by kernel_rfl
theorem over:Rows.fnWorldCalmRow.holds Tryz.pinned (OpenSpec.ofChange Rows.fnWorldCalmSpec):=
 OpenClaim.holds_of_wide_leaving_time 9 Tryz.f9 rfl rfl rfl rfl rfl rfl rfl ⟨rfl,rfl,rfl,rfl,rfl⟩ rfl rfl rfl rfl rfl named Tryz.func9 closed
  (of_decide_eq_true (by kernel_rfl)) (by unfold Func.isWrapper;first|(rw[if_pos (by decide+kernel)];kernel_rfl)|(rw[if_neg (by decide+kernel)];exact⟨rfl,rfl⟩))
  (fun os started H enc _ F=>lifted os started H enc F)
theorem proved:Rows.FnWorldCalmSaid:=over
#print axioms proved
end Go.Proofs.YtabjbdnokpjipaaGreat.fnWorldCalm
