/-
What is proved: what the draw of a world does to trees. No condition but the ranges that each states.
-/
import Derived.Test.YtjklkppncmhehaaGreatRx41
set_option linter.unusedVariables false
set_option linter.unusedSimpArgs false
namespace Go.Proofs.YtjklkppncmhehaaGreat.T
open Go Go.RowKit
set_option maxRecDepth 100000
set_option maxHeartbeats 4000000
variable {E:List PanicEntry→World→Prop}
def gS (o:Int→Int→Int):Nat→Nat→Int→aL→aL×Int
 |0,_,p,w=>(w,p+1)
 |n+1,i,p,w=>if(i:Int)<o p 70 then gS o n (i+1) (dz o (p+1) w).2.2 (MC w (dz o (p+1) w).1 (dz o (p+1) w).2.1)else(w,p+1)
def dA (o:Int→Int→Int)(p:Int):aL×Int:=gS o 70 0 (p+1) (m_ oM (1+o p 31))
theorem AN (o:Int→Int→Int):∀(n i:Nat) (p:Int) (w:aL) (N:Nat),dy N w→p+1≤(gS o n i p w).2∧(gS o n i p w).2≤p+1+7*n∧dy (N+5*n) (gS o n i p w).1
 |0,i,p,w,N,h=>⟨by simp[gS],by simp[gS],by simpa[gS]using h⟩
 |n+1,i,p,w,N,h=>by
  unfold gS;split
  ·have h1:=tf o (p+1) w
   obtain⟨a,b,c⟩:=AN o n (i+1) (dz o (p+1) w).2.2 (MC w (dz o (p+1) w).1 (dz o (p+1) w).2.1) (N+5) (h.event _ _);exact⟨by omega,by omega,by rw[show N+5*(n+1)=N+5+5*n by omega];exact c⟩
  ·exact⟨by simp only;omega,by simp only;omega,h.mono (by omega)⟩
theorem ub (o:Int→Int→Int)(p:Int):p+2≤(dA o p).2∧(dA o p).2≤p+500∧dy 350 (dA o p).1:=by
 obtain⟨a,b,c⟩:=AN o 70 0 (p+1) (m_ oM (1+o p 31)) 0 (wU.send _);unfold dA;exact⟨by omega,by omega,c⟩
theorem JV {bs:List Int}(h:oJ bs)(p:Int)(h0:0≤p)(h1:p≤999990000):
  TC Tw.prog E 106 [yq] 1 [(0,oI bs p)] (gW (dA (pk bs) p).1) [(0,oI bs (dA (pk bs) p).2)]:=by
 have q1:=oK h (k:=p) (n:=31) h0 (by omega)
 have yc:=fh h (k:=p) (n:=31) h0 (by omega) (by omega)
 have w1:IntKind.i64.wrap (1+pk bs p 31)=1+pk bs p 31:=aG (by omega) (by omega)
 have hS:=AK (E:=E) oM (1+pk bs p 31) (wU.mono (by omega))
 have hSS:dy 0 (m_ oM (1+pk bs p 31)):=wU.send _
 refine tE Tryz.f106 Tryz.ntmps106 (by rw[Tryz.results106]) ?_ (hfit:=(Fits.of (by simp[gA,aj.live]) (by simp) (by simp)))
 unfold dA;generalize m_ oM (1+pk bs p 31)=v at*;(refine TW.go ?_;simp[w1,wT];repeat' first|intro hc|refine U.mk ?_|refine aI ?_|refine aa ?_ ?_|(refine cP ?_;(first|refine⟨_,yr,?_⟩|refine⟨_,hS,?_⟩);simp[w1,wT])|(refine cR ?_;refine⟨_,_,br h _ _ (by omega) (by omega),?_⟩;simp[w1,wT]))
 refine tL (fun(x:Nat×Int×aL)=>⟨[(0,yq),(2,.s (.ptr 1 0)),(3,.s (.ptr 2 0)),(4,gI .i64 (x.1:Nat))],[(0,oI bs x.2.1),(1,.box [.r .nil,.r .nil,.r .nil,.r .nil,.r .nil]),(2,.box ((wT x.2.2).map .r))],3⟩)
  (fun x=>x.1≤70∧p+1≤x.2.1∧x.2.1≤p+1+7*x.1∧dy (5*x.1) x.2.2∧gS (pk bs) (70-x.1) x.1 x.2.1 x.2.2=gS (pk bs) 70 0 (p+1) v) (fun x=>70-x.1) (0,p+1,v) ⟨by simp,by simp,by simp,hSS,rfl⟩
  (Wk.own [1,2] [] (by simp) (by simp[wT]) (by simp[wT]) (by simp) (by simp)) fun x hx=>?_
 obtain⟨i,q,w⟩:=x;obtain⟨hi,r1,r2,hw,bk⟩:=hx;simp only at hi r1 r2 hw bk⊢
 have q0:0≤q:=by omega
 have q2:q≤999999000:=by omega
 have z1:=oK h (k:=q) (n:=70) q0 (by omega)
 have z2:=fh h (k:=q) (n:=70) q0 (by omega) (by omega)
 by_cases ai:(i:Int)<pk bs q 70
 ·have nX:=tf (pk bs) (q+1) w
  have aD:IntKind.i64.wrap ((i:Int)+1)=(i:Int)+1:=aG (by omega) (by omega)
  rw[show 70-i=(70-(i+1))+1 by omega,gS,if_pos ai]at bk
  have hD:=TF (E:=E) w (dz (pk bs) (q+1) w).1 (dz (pk bs) (q+1) w).2.1 (hw.mono (by omega))
  have hE:=JU (E:=E) h (q+1) w (by omega) (by omega) hw.nl hw.Qm
  have hwD:=hw.event (dz (pk bs) (q+1) w).1 (dz (pk bs) (q+1) w).2.1;generalize MC w (dz (pk bs) (q+1) w).1 (dz (pk bs) (q+1) w).2.1=u at*;(refine TW.go ?_;simp[wT,ai,aD];repeat' first|intro hc|refine U.mk ?_|refine aI ?_|refine aa ?_ ?_|(refine cP ?_;refine⟨_,hD,?_⟩;simp[wT,ai,aD])|(refine cR ?_;refine⟨_,_,br h _ _ (by omega) (by omega),?_⟩;simp[wT,ai,aD])|(refine cR ?_;refine⟨_,_,hE,?_⟩;simp[wT,ai,aD]))
  exact⟨(i+1,(dz (pk bs) (q+1) w).2.2,u),⟨by simp only;omega,by simp only;omega,by simp only;omega,by rw[show 5*(i+1)=5*i+5 by omega];exact hwD,bk⟩,by simp only;omega,Wk.own [1,2] [] (by simp) (by simp[wT]) (by simp[wT]) (by simp) (by simp)⟩
 ·have TH:gS (pk bs) (70-i) i q w=(w,q+1):=by
   rcases hn:70-i with _|n
   ·rfl
   ·rw[gS,if_neg ai]
  rw[←bk,TH];(refine TW.go ?_;simp[wT,ai];repeat' first|intro hc|refine U.mk ?_|refine aI ?_|refine aa ?_ ?_|(refine cR ?_;refine⟨_,_,br h _ _ (by omega) (by omega),?_⟩;simp[wT,ai]))
  refine aE.own [] [] (by simp;rfl) (by simp[wT]) (by simp) (by simp) (by simp[wT]) (by simp)
end Go.Proofs.YtjklkppncmhehaaGreat.T
