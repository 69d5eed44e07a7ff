/-
What is proved: a law whose lone run over the second program answers true over trees, or escapes, does so for every code that came in ('law_of_tree'). Conditions: those that the theorem states. the statement FnRecoverStampSaid: for every code the law returns true, and the code reads behind the call as it read before. No condition.
-/
import Derived.Test.YtjklkppncmhehaaGreatRs25
import Derived.Test.YtjklkppncmhehaaGreatRs40
import Derived.Test.YtjklkppncmhehaaGreatRs36
import Derived.Conc.LeavingOf
set_option linter.unusedVariables false
set_option linter.unusedSimpArgs false
namespace Go.Proofs.YtjklkppncmhehaaGreat.T
open Go Go.RowKit
theorem Jr {W v:World}{A:Option Addr}{n c:Nat}{bs:List Int}(hA:Sr.JH W A)(hn:n≤c)(hc:c≤maxLen)(hr:Reads W W.heap.size 1 A n (Jq bs))(hv:∀q k z,W.cell? q=some (.int k z)→v.cell? q=some (.int k z))(hz:v.heap.size=W.heap.size):
  cb v (fun b=>b<v.heap.size) (.slice A n c) (pw bs):=by
 obtain⟨hl,hr⟩:=hr;have hl:bs.length=n:=by simpa[Jq]using hl
 by_cases h0:n=0
 ·subst h0
  obtain rfl:bs=[]:=List.length_eq_zero_iff.1 hl
  exact .yA hc
 ·obtain⟨ad,rfl,aj,dq⟩:=hr (by omega)
  have eF:=(hA ad rfl).1;obtain⟨b,o,sp⟩:=ad;simp only at eF
  subst eF;have se:∀(i:Nat) (e:List RT),(bs.map fun b=>([.v (.int .u8 b)]:List RT))[i]?=some e→∃x,bs[i]?=some x∧e=[.v (.int .u8 x)]:=fun i e he=>by
   rw[List.getElem?_map,Option.map_eq_some_iff]at he;obtain⟨x,hx,rfl⟩:=he;exact⟨x,hx,rfl⟩
  have:=cb.sl (w:=v) (D:=fun b=>b<v.heap.size) (b:=b) (o:=o) (c:=c) (k:=1) (xs:=bs.map fun b=>[.v (.int .u8 b)]) (fun i _=> .int .u8 (bs.getD i 0)) (by simp;omega) hc (by rw[hz];exact aj) (fun i e he=>by obtain⟨x,_,rfl⟩:=se i e he;rfl)
   (fun i e he j r hj=>by
    obtain⟨x,hx,rfl⟩:=se i e he;rcases j with _|j
    ·have:=dq i (.int .u8 x) (by simp[Jq,hx])
     rw[add_lit]at this;rw[List.getD_eq_getElem?_getD,hx,show o+(i*1+0)=o+i by omega]
     exact hv _ _ _ this
    ·simp at hj)
   (fun i e he j r hj=>by
    obtain⟨x,hx,rfl⟩:=se i e he;rcases j with _|j
    ·cases hj
     rw[List.getD_eq_getElem?_getD,hx];exact .v rfl
    ·simp at hj)
  simpa[hl]using this
theorem Ck {f:FuncId}{W:World}{A:Option Addr}{n c:Nat}{bs:List Int}(hA:Sr.JH W A)(hn:n≤c)(hc:c≤maxLen)(hr:Reads W W.heap.size 1 A n (Jq bs))(hT:TC Tw.prog lQ f [gR (pw bs)] 0 [] (gB true) [])(v:World)(hv:∀q k z,W.cell? q=some (.int k z)→v.cell? q=some (.int k z))(hz:v.heap.size=W.heap.size):
  Calls Tw.prog f #[.slice A n c] v Sr.rS:=by
 refine(hT.2 v #[.slice A n c] (fun _=>none) (fun b=>b<v.heap.size) rfl (fun i g hg=>?_) (fun k h=>h) (fun b y h=>by cases h) (fun b y g h=>by cases h) (fun b y b' y' g h=>by cases h)).mono ?_
 ·rcases i with _|i
  ·cases hg
   exact .s (.r (Jr hA hn hc hr hv hz))
  ·simp at hg
 ·rintro e w' (⟨ch,rfl,hE⟩|⟨x,ρ',D',rfl,hx,_⟩)
  ·exact .inr hE
  ·left
   rw[pg hx]
end Go.Proofs.YtjklkppncmhehaaGreat.T
namespace Go.Proofs.YtjklkppncmhehaaGreat.fnRecoverStamp
open Go.ChangeShapes Go.WideShapes Go.ChangeAt Go.RowKit Go.Conc Go.Joins
set_option maxRecDepth 100000 in
theorem lifted (os:Os)(started:os.Started)(H:Type)(enc:TypeId×Value→H):
  ReturnsInLeavingWide {} Tryz.checked os 3 .any (Rows.fnRecoverStampSpec.pre6 enc Tryz.prog Tryz.f3 Rows.fnRecoverStampRow.domain false) (Rows.fnRecoverStampSpec.post enc Tryz.prog Tryz.f3 false true false false):=by
 refine returnsInLeavingWide_of_change_sized (C:=Tryz.checked) own started Tryz.func3
  (ChangeSpec.witness6 (enc:=enc) (C:=Tryz.checked) false ⟨#[],#[.slice none 0 0],[]⟩ 8 (by kernel_rfl) (by kernel_rfl) (by kernel_rfl) (by kernel_rfl)) ?_
 intro W base args ds gs before P_ hW _ _ _;have wX:∀(j:Nat) t v,Tryz.f3.params[j]?=some t→args[j]?=some v→Value.okWide Tryz.prog W .any base t v:=P_
 have hW':=hW;obtain⟨p,q,XD,hV,rfl,pA,hnd⟩:=hW;have hA:DataW.TrodAll enc Tryz.prog W 0 (fun _=>true) true Tryz.f3.params.toList args.toList ds p:=XD
 rw[Tryz.params3]at hA wX;obtain⟨v0,vs0,d0,ds0,p0,q0,qQ,rfl,rfl,h0,r0⟩:=trodAll_cons hA;obtain⟨rfl,rfl,rfl⟩:=trodAll_nil r0;obtain rfl:args= #[v0]:=by cases args;simp_all
 obtain⟨rfl,rfl⟩:=trodVars_none hV;have k0:=h0;have lt0:∀x∈p0,x.block<W.heap.size:=by obtain⟨m,hm⟩:=k0;exact DataW.trod_lt m _ _ _ hm
 have OS:=wX 0 22 v0 rfl rfl;obtain⟨A,n,c,bs,rfl,hn,hc,hr,hb⟩:=MU OS h0;clear XD P_;obtain⟨M,last,o,w',t',U,h2,h3,h4⟩:=Sr.yz (f:=3) (n:=n) (c:=c) (by decide+kernel) (by decide+kernel) (Sr.FG Tryz.underlying22 OS) (fun v dq hz=>T.Ck (Sr.FG Tryz.underlying22 OS) hn hc hr (T.re bs hb) v dq hz)
 refine⟨M,last,o,w',t',U,h2,h3,h4.mono fun v hF=>?_⟩
 obtain⟨rfl,XE⟩:v= .bool true∧Below W.heap.size W w':=hF;exact⟨_,_,_,[],_,[],hW',trodAll_mk1 (shut_bool Tryz.underlying4 _),(trodAll_cons_mk (Below.trod laidOut (by kernel_rfl) (of_decide_eq_true (by kernel_rfl)) k0 XE lt0) trodAll_mk0),rfl,XE.frame _,fun h=>by cases h⟩
theorem andT {a b:Bool}(h:a=true)(k:b=true):(a&&b)=true:=by rw[h,k];rfl
set_option maxHeartbeats 4000000 in
theorem closed:joinedFacts Tryz.pinned.checked.prog 3 Tryz.f3 Rows.fnRecoverStampSpec Rows.fnRecoverStampRow=true:=by
 unfold joinedFacts
 repeat (with_reducible refine andT ?_ (by as_aux_lemma=>kernel_rfl))
 as_aux_lemma=>kernel_rfl
theorem named:Tryz.pinned.checked.prog.funcNamed Rows.fnRecoverStampRow.func=some 3:=by kernel_rfl
theorem over:Rows.fnRecoverStampRow.holds Tryz.pinned (OpenSpec.ofChange Rows.fnRecoverStampSpec):=
 OpenClaim.holds_of_wide_leaving 3 Tryz.f3 rfl rfl rfl rfl rfl rfl rfl ⟨rfl,rfl,rfl,rfl,rfl⟩ rfl rfl rfl rfl rfl named Tryz.func3 closed
  (of_decide_eq_true (by kernel_rfl)) (by unfold Func.isWrapper;first|(rw[if_pos (by decide+kernel)];kernel_rfl)|(rw[if_neg (by decide+kernel)];exact⟨rfl,rfl⟩))
  (fun os started H enc _=>lifted os started H enc)
theorem proved:Rows.FnRecoverStampSaid:=over
#print axioms proved
end Go.Proofs.YtjklkppncmhehaaGreat.fnRecoverStamp
