/-
What is proved: the statement FnRecoverApartSaid: for every code the law returns true, and the code reads behind the call as it read before. No condition.
-/
import Derived.Test.YtjklkppncmhehaaGreatRx26
import Derived.Test.YtjklkppncmhehaaGreatRx59
import Derived.Test.YtjklkppncmhehaaGreatRx60
import Derived.Test.YtjklkppncmhehaaGreatRx48
import Derived.Conc.LeavingOf
set_option linter.unusedVariables false
set_option linter.unusedSimpArgs false
namespace Go.Proofs.YtjklkppncmhehaaGreat.fnRecoverApart
open Go.ChangeShapes Go.WideShapes Go.ChangeAt Go.RowKit Go.Conc Go.Joins
set_option maxRecDepth 100000 in
theorem lifted (os:Os)(started:os.Started)(H:Type)(enc:TypeId×Value→H):
  ReturnsInLeavingWide {} Tryz.checked os 9 .any (Rows.fnRecoverApartSpec.pre6 enc Tryz.prog Tryz.f9 Rows.fnRecoverApartRow.domain false) (Rows.fnRecoverApartSpec.post enc Tryz.prog Tryz.f9 false true false false):=by
 refine returnsInLeavingWide_of_change_sized (C:=Tryz.checked) own started Tryz.func9
  (ChangeSpec.witness6 (enc:=enc) (C:=Tryz.checked) false ⟨#[],#[.slice none 0 0,.slice none 0 0],[]⟩ 8 (by kernel_rfl) (by kernel_rfl) (by kernel_rfl) (by kernel_rfl)) ?_
 intro W base args ds gs before iq hW _ _ _;have ia:∀(j:Nat) t v,Tryz.f9.params[j]?=some t→args[j]?=some v→Value.okWide Tryz.prog W .any base t v:=iq
 have A_:=hW;obtain⟨p,q,rH,hV,rfl,mu,TZ⟩:=hW;have hA:DataW.TrodAll enc Tryz.prog W 0 (fun _=>true) true Tryz.f9.params.toList args.toList ds p:=rH
 rw[Tryz.params9]at hA ia;obtain⟨v0,T0,d0,T3,p0,q0,lC,rfl,rfl,h0,r0⟩:=trodAll_cons hA;obtain⟨v1,vs1,d1,ds1,p1,q1,rfl,rfl,rfl,js,r1⟩:=trodAll_cons r0;obtain⟨rfl,rfl,rfl⟩:=trodAll_nil r1;obtain rfl:args= #[v0,v1]:=by cases args;simp_all
 obtain⟨rfl,rfl⟩:=trodVars_none hV;have k0:=h0;have k1:=js;have lt1:∀x∈p1,x.block<W.heap.size:=by obtain⟨m,hm⟩:=k1;exact DataW.trod_lt m _ _ _ hm
 have Ba:∀x∈p0,x.block<W.heap.size:=by obtain⟨m,hm⟩:=k0;exact DataW.trod_lt m _ _ _ hm
 have ly:=ia 0 22 v0 rfl rfl;have tu:=ia 1 22 v1 rfl rfl;obtain⟨A,n,c,bs,rfl,hn,hc,hr,hb⟩:=kC ly h0;obtain⟨B,n2,c2,bs2,rfl,cI,fj,si, -⟩:=kC tu js;clear rH iq;obtain⟨M,last,o,w',t',h1,h2,h3,h4⟩:=Sr.Kc (f:=9) (n:=n) (c:=c) (k:=n2) (d:=c2) (by decide+kernel) (by decide+kernel) (Sr.eK Tryz.underlying22 ly) (Sr.eK Tryz.underlying22 tu)
  (fun v cv hz=>T.B7 (Sr.eK Tryz.underlying22 ly) hn hc hr (Sr.eK Tryz.underlying22 tu) cI fj si (T.um bs bs2 hb) v cv hz)
 refine⟨M,last,o,w',t',h1,h2,h3,h4.mono fun v hF=>?_⟩
 obtain⟨rfl,qw⟩:v= .bool true∧Below W.heap.size W w':=hF;exact⟨_,_,_,[],_,[],A_,trodAll_mk1 (shut_bool Tryz.underlying4 _),(trodAll_cons_mk (Below.trod laidOut (by kernel_rfl) (of_decide_eq_true (by kernel_rfl)) k0 qw Ba) (trodAll_cons_mk (Below.trod laidOut (by kernel_rfl) (of_decide_eq_true (by kernel_rfl)) k1 qw lt1) trodAll_mk0)),rfl,qw.frame _,fun h=>by cases h⟩
theorem rJ {a b:Bool}(h:a=true)(k:b=true):(a&&b)=true:=by rw[h,k];rfl
set_option maxHeartbeats 4000000 in
theorem closed:joinedFacts Tryz.pinned.checked.prog 9 Tryz.f9 Rows.fnRecoverApartSpec Rows.fnRecoverApartRow=true:=by
 unfold joinedFacts;repeat (with_reducible refine rJ ?_ (by as_aux_lemma=>kernel_rfl))
 as_aux_lemma=>kernel_rfl
theorem named:Tryz.pinned.checked.prog.funcNamed Rows.fnRecoverApartRow.func=some 9:=by kernel_rfl
theorem over:Rows.fnRecoverApartRow.holds Tryz.pinned (OpenSpec.ofChange Rows.fnRecoverApartSpec):=
 OpenClaim.holds_of_wide_leaving 9 Tryz.f9 rfl rfl rfl rfl rfl rfl rfl ⟨rfl,rfl,rfl,rfl,rfl⟩ rfl rfl rfl rfl rfl named Tryz.func9 closed
  (of_decide_eq_true (by kernel_rfl)) (by unfold Func.isWrapper;first|(rw[if_pos (by decide+kernel)];kernel_rfl)|(rw[if_neg (by decide+kernel)];exact⟨rfl,rfl⟩))
  (fun os started H enc _=>lifted os started H enc)
theorem proved:Rows.FnRecoverApartSaid:=over
#print axioms proved
end Go.Proofs.YtjklkppncmhehaaGreat.fnRecoverApart
