/-
What is proved: a run that came in reads as a tree ('world_in'), and a law over it ends well at the machine where its lone run over the second program answers true over trees, or escapes ('law_of_world'). Conditions: those that the theorems state.
-/
import Derived.Test.YtlhohdjniaebbaaGreatRy52
set_option linter.unusedVariables false
set_option linter.unusedSimpArgs false
namespace Go.Proofs.YtlhohdjniaebbaaGreat.T
open Go Go.RowKit Go.Conc
section
variable {W:World}
theorem Kj:Rd Tryz.prog W 46 fun ts=>∃ns,ts=[bu ns]:=
 (iW (k:=1) Tryz.underlying46 (by kernel_rfl) (by omega) (km Tryz.underlying3)).mono fun ts ⟨xs,e,h⟩=>by
  obtain⟨ns,rfl⟩:=lz (f:=fun n=>[rI n]) h
  exact⟨ns,e⟩
theorem VO:Rd Tryz.prog W 22 fun ts=>∃ss,ts=[iH ss]:=
 (iW (k:=1) Tryz.underlying22 (by kernel_rfl) (by omega) Kj).mono fun ts ⟨xs,e,h⟩=>by
  obtain⟨ns,rfl⟩:=lz (f:=fun s=>[bu s]) h
  exact⟨ns,e⟩
theorem VP:Rd Tryz.prog W 25 fun ts=>∃ns,ts=[nA ns]:=
 (iW (k:=1) Tryz.underlying25 (by kernel_rfl) (by omega) (Ki Tryz.underlying4)).mono fun ts ⟨xs,e,h⟩=>by
  obtain⟨ns,rfl⟩:=lz (f:=fun b=>[rB b]) h
  exact⟨ns,e⟩
theorem wq:Rd Tryz.prog W 133 fun ts=>∃s,ts=gE s:=
 (aaz (c0:=1) (c1:=1) Tryz.underlying133 (by kernel_rfl) (by kernel_rfl) rfl rfl (by kernel_rfl) (km Tryz.underlying3) (km Tryz.underlying3)).mono fun ts ⟨a,b,⟨x,ha⟩,⟨y,hb⟩,e⟩=>⟨(x,y),by rw[e,ha,hb];rfl⟩
theorem NH:Rd Tryz.prog W 118 fun ts=>∃ns,ts=[m_ ns]:=
 (iW (k:=2) Tryz.underlying118 (by kernel_rfl) (by omega) wq).mono fun ts ⟨xs,e,h⟩=>by
  obtain⟨ns,rfl⟩:=lz (f:=gE) h;exact⟨ns,e⟩
theorem RX:Rd Tryz.prog W 201 fun ts=>∃s,ts=aF s:=
 (VM (c0:=1) (c1:=2) (c2:=1) Tryz.underlying201 (by kernel_rfl) (by kernel_rfl) (by kernel_rfl) rfl rfl rfl (by kernel_rfl) (km Tryz.underlying3) wq (Ki Tryz.underlying4)).mono
  fun ts ⟨a,b,c,⟨x,ha⟩,⟨y,hb⟩,⟨z,hc⟩,e⟩=>⟨⟨x,y.1,y.2,z⟩,by rw[e,ha,hb,hc];rfl⟩
theorem Kk:Rd Tryz.prog W 114 fun ts=>∃ns,ts=[c7 ns]:=
 (iW (k:=4) Tryz.underlying114 (by kernel_rfl) (by omega) RX).mono fun ts ⟨xs,e,h⟩=>by
  obtain⟨ns,rfl⟩:=lz (f:=aF) h;exact⟨ns,e⟩
theorem RY:Rd Tryz.prog W 116 fun ts=>∃s,ts=au s:=
 (VN (c0:=1) (c1:=1) (c2:=1) (c3:=1) Tryz.underlying116 (by kernel_rfl) (by kernel_rfl) (by kernel_rfl) (by kernel_rfl) rfl rfl rfl rfl (by kernel_rfl) (km Tryz.underlying3) (km Tryz.underlying3) Kk Kk).mono
  fun ts ⟨a,b,c,d,⟨x,ha⟩,⟨y,hb⟩,⟨z,hc⟩,⟨u,hd⟩,e⟩=>⟨⟨x,y,z,u⟩,by rw[e,ha,hb,hc,hd];rfl⟩
theorem NI:Rd Tryz.prog W 23 fun ts=>∃ns,ts=[eZ ns]:=
 (iW (k:=4) Tryz.underlying23 (by kernel_rfl) (by omega) RY).mono fun ts ⟨xs,e,h⟩=>by
  obtain⟨ns,rfl⟩:=lz (f:=au) h;exact⟨ns,e⟩
theorem RZ:Rd Tryz.prog W 120 fun ts=>∃s,ts=aX s:=
 (VM (c0:=1) (c1:=1) (c2:=1) Tryz.underlying120 (by kernel_rfl) (by kernel_rfl) (by kernel_rfl) rfl rfl rfl (by kernel_rfl) (km Tryz.underlying3) Kj NH).mono
  fun ts ⟨a,b,c,⟨x,ha⟩,⟨y,hb⟩,⟨z,hc⟩,e⟩=>⟨⟨x,y,z⟩,by rw[e,ha,hb,hc];rfl⟩
theorem NJ:Rd Tryz.prog W 24 fun ts=>∃ns,ts=[l9 ns]:=
 (iW (k:=3) Tryz.underlying24 (by kernel_rfl) (by omega) RZ).mono fun ts ⟨xs,e,h⟩=>by
  obtain⟨ns,rfl⟩:=lz (f:=aX) h;exact⟨ns,e⟩
theorem NK:Rd Tryz.prog W 135 fun ts=>∃s,ts=bP s:=
 (VN (c0:=1) (c1:=1) (c2:=1) (c3:=2) Tryz.underlying135 (by kernel_rfl) (by kernel_rfl) (by kernel_rfl) (by kernel_rfl) rfl rfl rfl rfl (by kernel_rfl) (km Tryz.underlying3) (km Tryz.underlying3) (km Tryz.underlying3) wq).mono
  fun ts ⟨a,b,c,d,⟨x,ha⟩,⟨y,hb⟩,⟨z,hc⟩,⟨u,hd⟩,e⟩=>⟨⟨x,y,z,u.1,u.2⟩,by rw[e,ha,hb,hc,hd];rfl⟩
theorem Kl:Rd Tryz.prog W 26 fun ts=>∃ns,ts=[qu ns]:=
 (iW (k:=5) Tryz.underlying26 (by kernel_rfl) (by omega) NK).mono fun ts ⟨xs,e,h⟩=>by
  obtain⟨ns,rfl⟩:=lz (f:=bP) h;exact⟨ns,e⟩
theorem R5:Rd Tryz.prog W 28 fun ts=>∃s,ts=wT s:=
 (aaA (c0:=1) (c1:=1) (c2:=1) (c3:=1) (c4:=1) Tryz.underlying28 (by kernel_rfl) (by kernel_rfl) (by kernel_rfl) (by kernel_rfl) (by kernel_rfl) rfl rfl rfl rfl rfl (by kernel_rfl) VO NI NJ VP Kl).mono
  fun ts ⟨a,b,c,d,g,⟨x,ha⟩,⟨y,hb⟩,⟨z,hc⟩,⟨u,hd⟩,⟨p,hg⟩,e⟩=>⟨⟨x,y,z,u,p⟩,by rw[e,ha,hb,hc,hd,hg];rfl⟩
end
def WIn (W:World)(v:Value)(w:az):Prop:=∃gs:List (Value×RT),v= .agg ⟨gs.map (·.1)⟩∧gs.map (·.2)=wT w∧∀x∈gs,LR W x.1 x.2
set_option maxRecDepth 100000 in
theorem R6 {H:Type}{enc:TypeId×Value→H}{W:World}{r:Reach}{b0:Nat}{v:Value}{d:DataW H}{p:List MemPlace}
  (hv:Value.okWide Tryz.prog W r b0 28 v) (h:DataW.Trod enc Tryz.prog W 0 (fun _=>true) true 28 v d p):∃w,WIn W v w:=by
 obtain⟨cs,rfl, -⟩:=WideShapes.okWide_struct Tryz.underlying28 hv;obtain⟨fuel,hf⟩:=h;obtain⟨ts,⟨w,rfl⟩,hl,hr⟩:=R5 H enc _ _ _ hf;have hl:(wT w).length=cs.toList.length:=hl
 have hr:∀(i:Nat) (v:Value) (r:RT),cs.toList[i]?=some v→(wT w)[i]?=some r→LR W v r:=hr
 refine⟨w,cs.toList.zip (wT w),?_,?_,fun x hx=>?_⟩
 ·rw[List.map_fst_zip (by omega)]
 ·rw[List.map_snd_zip (by omega)]
 ·obtain⟨i,hi⟩:=List.getElem?_of_mem hx
  obtain⟨h1,h2⟩:=List.getElem?_zip_eq_some.1 hi;exact hr i _ _ h1 h2
set_option maxRecDepth 100000 in
theorem BJ {f:FuncId}{W:World}{u:Value}{w:az}(Mj:Sr.iE f=true)(Mk:Sr.qf f=false)(hu:WIn W u w)(hT:TC Tw.prog na f [gW w] 0 [] (gB true) []):
  ∃M last o w' t',runNT Tryz.prog (M+1) (solo (G (Frame.enter Tryz.prog f #[u] .normal) []) W) #[]=(.ended o w',t')∧runN Tryz.prog M (solo (G (Frame.enter Tryz.prog f #[u] .normal) []) W)= .next last∧step Tryz.prog last= .ended o w'∧
   Go.Conc.Good Tryz.prog (fun x W'=>x= .bool true∧Go.RowKit.Below W.heap.size W W') last o w' t':=by
 obtain⟨gs,rfl,he,hg⟩:=hu;refine Kh Mj Mk (fun i h=>?_) fun v hc hz=>?_
 ·obtain rfl:i=0:=by simp at h;omega
  exact⟨gs,rfl,hg⟩
 ·have aj:∀b,Cl W b→b<v.heap.size:=fun b ⟨_,_,_,h⟩=>by rw[hz];exact(Array.getElem?_eq_some_iff.1 h).1
  refine(hT.2 v #[.agg ⟨gs.map (·.1)⟩] (fun _=>none) (fun b=>b<v.heap.size) rfl (fun i g bf=>?_) (fun k h=>h) (fun b y h=>by cases h) (fun b y g h=>by cases h) (fun b y b' y' g h=>by cases h)).mono ?_
  ·rcases i with _|i
   ·cases bf
    refine .a (by rw[←he];simp) fun j t ht=>?_
    rw[←he,List.map_map,List.getElem?_map,Option.map_eq_some_iff]at ht;obtain⟨x,hx,rfl⟩:=ht;have:=(hg x (List.mem_of_getElem? hx)).rep hc aj
    have e:(⟨gs.map (·.1)⟩:Array Value).getD j undef=x.1:=by simp[Array.getD_eq_getD_getElem?,hx]
    rw[e];exact .r this
   ·simp at bf
  ·rintro e w' (⟨ch,rfl,hE⟩|⟨x,ρ',D',rfl,hx,_⟩)
   ·exact .inr hE
   ·left
    rw[qL hx]
end Go.Proofs.YtlhohdjniaebbaaGreat.T
