/-
What is proved: how a code that a law takes reads: a slice of bytes and what rests on it. Conditions: as stated.
-/
import Derived.Test.YtabjbdnokpjipaaGreatRows
import Derived.Test.YtabjbdnokpjipaaGreatRw35
import Derived.WalkKit
import Derived.ProofKit
import Derived.OpenShut
import Derived.ChangeOld
import Derived.Lib.SmallJoins
import Derived.Test.YtabjbdnokpjipaaGreatRw27
import Derived.Test.YtabjbdnokpjipaaGreatRw42
import Derived.Test.YtabjbdnokpjipaaGreatRw40
set_option linter.unusedVariables false
set_option linter.unusedSimpArgs false
namespace Go.Proofs.YtabjbdnokpjipaaGreat
open Go.ChangeShapes Go.WideShapes Go.ChangeAt Go.RowKit Go.Joins
theorem own:ownKnob Tryz.prog.godebug=none:=by kernel_rfl
theorem laidOut:laidOutB Tryz.prog=true:=by kernel_rfl
def Ri (bs:List Int):List Value:=bs.map (Value.int .u8)
def Bytes (bs:List Int):Prop:=∀b∈bs,0≤b∧b≤255
theorem wf_u8 {n:Int}(h:(Lit.int .u8 n).wf=true):0≤n∧n≤255:=by
 have:=bounds_u8 h
 omega
set_option maxRecDepth 100000 in
theorem my {H:Type}{enc:TypeId×Value→H}{W:World}{r:Reach}{b0:Nat}{v:Value}{d:DataW H}{p:List MemPlace}
  (hv:Value.okWide Tryz.prog W r b0 22 v) (h:DataW.Trod enc Tryz.prog W 0 (fun _=>true) true 22 v d p):
  ∃A n c bs,v= .slice A n c∧n≤c∧c≤maxLen∧Reads W W.heap.size 1 A n (Ri bs)∧Bytes bs:=by
 obtain⟨A,n,c,rfl⟩:=okWide_slice Tryz.underlying22 hv;obtain⟨fuel,hf⟩:=h;rcases open_ints Tryz.underlying22 Tryz.underlying5 (by kernel_rfl) hf with⟨lF,_⟩|⟨a,l,c',zs,lF,_,hl,hm,hz,_,cO,hwf⟩
 ·simp[Value.cells]at lF
  obtain⟨rfl,rfl,rfl⟩:=lF;exact⟨none,0,0,[],rfl,Nat.le_refl _,Nat.zero_le _,Reads.none_,fun b hb=>by simp at hb⟩
 ·simp[Value.cells]at lF
  obtain⟨rfl,rfl,rfl⟩:=lF;have ER:zs.length=c:=by simpa using hz
  refine⟨some a,n,c,zs.take n,rfl,hl,hm,⟨?_,fun h0=>⟨a,rfl,?_,fun j u hu=>?_⟩⟩,fun b hb=>wf_u8 (hwf b (List.mem_of_mem_take hb))⟩
  ·simp[Ri];omega
  ·have h1:=cO 0 (by omega)
   have:=World.block_lt_of_cell? W (a.add 0) h1
   rwa[mE]at this
  ·unfold Ri at hu
   rw[List.getElem?_map]at hu;have hj:j<n:=by
    have:=(List.getElem?_eq_some_iff.1 (show(zs.take n)[j]?=some ((zs.take n)[j]?.getD 0)from by
     cases hq:(zs.take n)[j]? with
     |none=>rw[hq]at hu;cases hu
     |some z=>rfl)).1
    rw[List.length_take]at this;omega
   rw[List.getElem?_take,if_pos hj]at hu;rw[cO j (by omega),List.getD_eq_getElem?_getD]
   cases hq:zs[j]? with
   |none=>rw[hq]at hu;cases hu
   |some z=>rw[hq]at hu;exact hu
end Go.Proofs.YtabjbdnokpjipaaGreat
namespace Go.Proofs.YtabjbdnokpjipaaGreat.T
open Go Go.RowKit
theorem Rj {W v:World}{A:Option Addr}{n c:Nat}{bs:List Int}(hA:Sr.RH W A)(hn:n≤c)(hc:c≤maxLen)(hr:Reads W W.heap.size 1 A n (Ri bs))(hv:∀q k z,W.cell? q=some (.int k z)→v.cell? q=some (.int k z))(hz:v.heap.size=W.heap.size):
  dh v (fun b=>b<v.heap.size) (.slice A n c) (j5 bs):=by
 obtain⟨hl,hr⟩:=hr;have hl:bs.length=n:=by simpa[Ri]using hl
 by_cases h0:n=0
 ·subst h0
  obtain rfl:bs=[]:=List.length_eq_zero_iff.1 hl
  exact .EM hc
 ·obtain⟨ad,rfl,ak,cO⟩:=hr (by omega)
  have ko:=(hA ad rfl).1;obtain⟨b,o,sp⟩:=ad;simp only at ko
  subst ko;have wV:∀(i:Nat) (e:List RT),(bs.map fun b=>([.v (.int .u8 b)]:List RT))[i]?=some e→∃x,bs[i]?=some x∧e=[.v (.int .u8 x)]:=fun i e he=>by
   rw[List.getElem?_map,Option.map_eq_some_iff]at he;obtain⟨x,hx,rfl⟩:=he;exact⟨x,hx,rfl⟩
  have:=dh.sl (w:=v) (D:=fun b=>b<v.heap.size) (b:=b) (o:=o) (c:=c) (k:=1) (xs:=bs.map fun b=>[.v (.int .u8 b)]) (fun i _=> .int .u8 (bs.getD i 0)) (by simp;omega) hc (by rw[hz];exact ak) (fun i e he=>by obtain⟨x,_,rfl⟩:=wV i e he;rfl)
   (fun i e he j r hj=>by
    obtain⟨x,hx,rfl⟩:=wV i e he;rcases j with _|j
    ·have:=cO i (.int .u8 x) (by simp[Ri,hx])
     rw[add_lit]at this;rw[List.getD_eq_getElem?_getD,hx,show o+(i*1+0)=o+i by omega]
     exact hv _ _ _ this
    ·simp at hj)
   (fun i e he j r hj=>by
    obtain⟨x,hx,rfl⟩:=wV i e he;rcases j with _|j
    ·cases hj
     rw[List.getD_eq_getElem?_getD,hx];exact .v rfl
    ·simp at hj)
  simpa[hl]using this
theorem iF {f:FuncId}{W:World}{A:Option Addr}{n c:Nat}{bs:List Int}(hA:Sr.RH W A)(hn:n≤c)(hc:c≤maxLen)(hr:Reads W W.heap.size 1 A n (Ri bs))(hT:TC Tw.prog bq f [gR (j5 bs)] 0 [] (gB true) [])(v:World)(hv:∀q k z,W.cell? q=some (.int k z)→v.cell? q=some (.int k z))(hz:v.heap.size=W.heap.size):
  Calls Tw.prog f #[.slice A n c] v Sr.ig:=by
 refine(hT.2 v #[.slice A n c] (fun _=>none) (fun b=>b<v.heap.size) rfl (fun i g hg=>?_) (fun k h=>h) (fun b y h=>by cases h) (fun b y g h=>by cases h) (fun b y b' y' g h=>by cases h)).mono ?_
 ·rcases i with _|i
  ·cases hg
   exact .s (.r (Rj hA hn hc hr hv hz))
  ·simp at hg
 ·rintro e w' (⟨ch,rfl,hE⟩|⟨x,ρ',D',rfl,hx,_⟩)
  ·exact .inr hE
  ·left
   rw[uQ hx]
end Go.Proofs.YtabjbdnokpjipaaGreat.T
