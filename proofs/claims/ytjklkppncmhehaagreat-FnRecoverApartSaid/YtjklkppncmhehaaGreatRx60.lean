/-
What is proved: a law over two slices of numbers, whose lone run over the second program answers true over trees, or escapes, ends well at the machine ('law_of_two', 'law_of_tree2'). Conditions: those that the theorems state.
-/
import Derived.Test.YtjklkppncmhehaaGreatRx48
set_option linter.unusedVariables false
set_option linter.unusedSimpArgs false
namespace Go.Proofs.YtjklkppncmhehaaGreat.Sr
open Go Go.Conc
theorem Kc {f:FuncId}{A B:Option Addr}{n c k d:Nat}{W:World}(BI:lz f=true)(L3:qW f=false)(hA:uR W A)(hB:uR W B)
  (zI:∀v:World,(∀q k z,W.cell? q=some (.int k z)→v.cell? q=some (.int k z))→v.heap.size=W.heap.size→Calls Tw.prog f #[.slice A n c,.slice B k d] v qU):
  ∃M last o w' t',runNT Tryz.prog (M+1) (solo (G (Frame.enter Tryz.prog f #[.slice A n c,.slice B k d] .normal) []) W) #[]=(.ended o w',t')∧runN Tryz.prog M (solo (G (Frame.enter Tryz.prog f #[.slice A n c,.slice B k d] .normal) []) W)= .next last∧step Tryz.prog last= .ended o w'∧
   Go.Conc.Good Tryz.prog (fun x W'=>x= .bool true∧Go.RowKit.Below W.heap.size W W') last o w' t':=by
 obtain⟨v,m,hm,hS,hw,mu,hc,hz⟩:=zJ lz W (fun b=>(∃a,A=some a∧a.block=b)∨∃a,B=some a∧a.block=b) (by rintro b (⟨a,ha,rfl⟩|⟨a,ha,rfl⟩);exact(hA a ha).2;exact(hB a ha).2)
 have one:∀(X:Option Addr) (x y:Nat),uR W X→(∀a,X=some a→m a.block=some a.block)→VR m (.slice X x y) (.slice X x y):=fun X x y hX ZZ=>by
  cases hx:X with
  |none=>exact .cn x y
  |some a=>exact .slice x y ⟨ZZ a hx,rfl,(hX a hx).1,(hX a hx).1⟩
 refine Cw (us:= #[.slice A n c,.slice B k d]) BI L3 hm ⟨rfl,fun i h1 h2=>?_⟩ hw mu fun T=>zI (v.on T 0) hc hz
 have hi:i=0∨i=1:=by simp at h1;omega
 rcases hi with rfl|rfl
 ·exact one A n c hA fun a ha=>hS _ (.inl ⟨a,ha,rfl⟩)
 ·exact one B k d hB fun a ha=>hS _ (.inr ⟨a,ha,rfl⟩)
end Go.Proofs.YtjklkppncmhehaaGreat.Sr
namespace Go.Proofs.YtjklkppncmhehaaGreat.T
open Go Go.RowKit
theorem B7 {f:FuncId}{W:World}{A B:Option Addr}{n c k d:Nat}{bs cs:List Int}(hA:Sr.uR W A)(hn:n≤c)(hc:c≤maxLen)(hr:Reads W W.heap.size 1 A n (FG bs))(hB:Sr.uR W B)(vV:k≤d)(cY:d≤maxLen)(eH:Reads W W.heap.size 1 B k (FG cs))
  (hT:TC Tw.prog cf f [gR (eL bs),gR (eL cs)] 0 [] (gB true) []) (v:World) (hv:∀q k z,W.cell? q=some (.int k z)→v.cell? q=some (.int k z)) (hz:v.heap.size=W.heap.size):
  Calls Tw.prog f #[.slice A n c,.slice B k d] v Sr.qU:=by
 refine(hT.2 v #[.slice A n c,.slice B k d] (fun _=>none) (fun b=>b<v.heap.size) rfl (fun i g hg=>?_) (fun k h=>h) (fun b y h=>by cases h) (fun b y g h=>by cases h) (fun b y b' y' g h=>by cases h)).mono ?_
 ·rcases i with _|_|i
  ·cases hg
   exact .s (.r (ui hA hn hc hr hv hz))
  ·cases hg
   exact .s (.r (ui hB vV cY eH hv hz))
  ·simp at hg
 ·rintro e w' (⟨ch,rfl,hE⟩|⟨x,ρ',D',rfl,hx,_⟩)
  ·exact .inr hE
  ·left
   rw[pq hx]
end Go.Proofs.YtjklkppncmhehaaGreat.T
