/-
What is proved: the law FnRecoverApart over trees: it answers true, or escapes. No condition but that the code is bytes.
-/
import Derived.Test.YtjklkppncmhehaaGreatRx48
import Derived.Test.YtjklkppncmhehaaGreatRx58
set_option linter.unusedVariables false
set_option linter.unusedSimpArgs false
namespace Go.Proofs.YtjklkppncmhehaaGreat.T
open Go Go.RowKit
set_option maxRecDepth 100000
set_option maxHeartbeats 4000000
theorem um (bs cs:List Int)(hb:∀b∈bs,0≤b∧b≤255):TC Tw.prog cf 9 [gR (eL bs),gR (eL cs)] 0 [] (gB true) []:=by
 obtain⟨gs,set,m,hL,hD⟩:=oP bs hb;have hD:=hD cf;have oe:cz gs 4000:=hL.mono (by omega)
 have hS:=dL (E:=cf) gs set m oe;refine tE Tryz.f9 Tryz.ntmps9 (by rw[Tryz.results9]) ?_
 by_cases hl:1048576<bs.length
 ·have aY:(1048576:Int)<(bs.length:Int):=by omega
  (refine TW.go ?_;simp[aY];repeat' first|intro hc|refine U.mk ?_|refine aI ?_|refine aa ?_ ?_)
  all_goals exact oW [] []
 ·have aY:¬(1048576:Int)<(bs.length:Int):=by omega
  by_cases tP:1048576<cs.length
  ·have cY:(1048576:Int)<(cs.length:Int):=by omega
   (refine TW.go ?_;simp[aY,cY];repeat' first|intro hc|refine U.mk ?_|refine aI ?_|refine aa ?_ ?_)
   all_goals exact oW [] []
  ·have cY:¬(1048576:Int)<(cs.length:Int):=by omega
   rcases c7 gs set m oe with⟨cl,hI⟩|⟨cl,hI⟩
   ·rw[sd cl]at hS
    (refine TW.go ?_;simp[aY,cY];repeat' first|intro hc|refine U.mk ?_|refine aI ?_|refine aa ?_ ?_|(refine cP ?_;(first|refine⟨_,hD,?_⟩|refine⟨_,hI,?_⟩|refine⟨_,hS,?_⟩|refine⟨_,dZ,?_⟩);simp[aY,cY]))
    exact oW [] []
   ·cases hR:(bb gs set m).2
    ·rw[hR]at hI hS
     generalize(bb gs set m).1=out at*;(refine TW.go ?_;simp[aY,cY];repeat' first|intro hc|refine U.mk ?_|refine aI ?_|refine aa ?_ ?_|(refine cP ?_;(first|refine⟨_,hD,?_⟩|refine⟨_,hI,?_⟩|refine⟨_,hS,?_⟩|refine⟨_,bS _,?_⟩);simp[aY,cY]))
     exact oW [] []
    ·obtain⟨s,eT,K,lJ⟩:=nf hL cl hR
     obtain⟨h1,h2,hm⟩:=lf cl;obtain⟨bY,iI,hr⟩:=iS h2;have h5:=c_ h1;have Bb:=fun k=>MV (m:=m) (k:=k) hr (wX h2) h5
     rw[←(rF cl hR).2]at Bb;have lJ:=lJ.mono (n':=4000) (by omega)
     rw[hR]at hI hS;generalize(bb gs set m).1=out at*;(refine TW.go ?_;simp[aY,cY];repeat' first|intro hc|refine U.mk ?_|refine aI ?_|refine aa ?_ ?_|(refine cP ?_;(first|refine⟨_,hD,?_⟩|refine⟨_,hI,?_⟩|refine⟨_,hS,?_⟩|refine⟨_,bS _,?_⟩);simp[aY,cY]))
     refine tL (fun(k:Nat)=>⟨[(1,gR (eL cs)),(5,gR (bO gs)),(6,gR (bg set)),(7,gI .i64 m),(8,gR (bO out)),(12,.s (.own 0)),(13,gI .i64 (k:Nat))],[(0,jf (iF set k))],1⟩) (fun k=>k≤5) (fun k=>5-k) 0 (by omega) (Wk.own [0] [] (by simp) (by simp) (by simp[iF]) (by simp) (by simp)) fun k hk=>?_
     by_cases ai:k<5
     ·have ar:(k:Int)<5:=by omega
      have aD:IntKind.i64.wrap ((k:Int)+1)=(k:Int)+1:=aG (by omega) (by omega)
      have hN:=C7 (E:=cf) set k;have Av:=C9 set k
      cases cG:gf set k
      ·have hs:iF set (k+1)=iF set k++[(k:Int)]:=by rw[iF,cG];rfl
       rw[cG]at hN;(refine TW.go ?_;simp[ar,aD,maxLen];repeat' first|intro hc|refine U.mk ?_|refine aI ?_|refine aa ?_ ?_|(refine cP ?_;refine⟨_,hN,?_⟩;simp[ar,aD,maxLen]))
       all_goals exact⟨k+1,by omega,by omega,Wk.own [2] [] (by simp) (by simp) (by simp[hs]) (by simp) (by simp)⟩
      ·have hs:iF set (k+1)=iF set k:=by rw[iF,cG];rfl
       rw[cG]at hN;(refine TW.go ?_;simp[ar,aD,maxLen];repeat' first|intro hc|refine U.mk ?_|refine aI ?_|refine aa ?_ ?_|(refine cP ?_;refine⟨_,hN,?_⟩;simp[ar,aD,maxLen]))
       all_goals exact⟨k+1,by omega,by omega,Wk.own [0] [] (by simp) (by simp) (by simp[hs]) (by simp) (by simp)⟩
     ·obtain rfl:k=5:=by omega
      generalize iF set 5=C_ at*;refine TW.weaken ⟨[(1,gR (eL cs)),(5,gR (bO gs)),(6,gR (bg set)),(7,gI .i64 m),(8,gR (bO out)),(12,gR (bg C_)),(13,gI .i64 5)],[],0⟩ (kO [] [0]) ?_;have BY:=hm;simp only[bm,decide_eq_true_eq]at BY;have ht0:=Int.tmod_nonneg (a:=(cs.length:Int)) 11 (by omega)
      have ht1:=Int.tmod_lt_of_pos (cs.length:Int) (b:=11) (by omega)
      have dm:IntKind.i64.wrap (m+1)=m+1:=aG (by omega) (by omega)
      have fe:IntKind.i64.wrap (m+1+(cs.length:Int).tmod 11)=m+1+(cs.length:Int).tmod 11:=aG (by omega) (by omega)
      have Bb:=Bb ((m+1+(cs.length:Int).tmod 11).tmod 12);have hX:=c7 out C_ ((m+1+(cs.length:Int).tmod 11).tmod 12) lJ;have hY:=c7 gs C_ ((m+1+(cs.length:Int).tmod 11).tmod 12) oe;rcases hX with⟨n1,hX⟩|⟨n1,hX⟩
      ·rcases hY with⟨n2,hY⟩|⟨n2,hY⟩
       ·(refine TW.go ?_;simp[dm,fe];repeat' first|intro hc|refine U.mk ?_|refine aI ?_|refine aa ?_ ?_|(refine cP ?_;(first|refine⟨_,hX,?_⟩|refine⟨_,hY,?_⟩);simp[dm,fe]))
        all_goals exact oW [] []
       ·(refine TW.go ?_;simp[dm,fe];repeat' first|intro hc|refine U.mk ?_|refine aI ?_|refine aa ?_ ?_|(refine cP ?_;(first|refine⟨_,hX,?_⟩|refine⟨_,hY,?_⟩);simp[dm,fe]))
        all_goals exact oW [] []
      ·cases e1:(bb out C_ ((m+1+(cs.length:Int).tmod 11).tmod 12)).2
       ·rw[e1]at hX
        rcases hY with⟨n2,hY⟩|⟨n2,hY⟩
        ·(refine TW.go ?_;simp[dm,fe];repeat' first|intro hc|refine U.mk ?_|refine aI ?_|refine aa ?_ ?_|(refine cP ?_;(first|refine⟨_,hX,?_⟩|refine⟨_,hY,?_⟩);simp[dm,fe]))
         all_goals exact oW [] []
        ·(refine TW.go ?_;simp[dm,fe];repeat' first|intro hc|refine U.mk ?_|refine aI ?_|refine aa ?_ ?_|(refine cP ?_;(first|refine⟨_,hX,?_⟩|refine⟨_,hY,?_⟩);simp[dm,fe]))
         all_goals exact oW [] []
       ·rw[e1]at hX
        rcases hY with⟨n2,hY⟩|⟨n2,hY⟩
        ·(refine TW.go ?_;simp[dm,fe];repeat' first|intro hc|refine U.mk ?_|refine aI ?_|refine aa ?_ ?_|(refine cP ?_;(first|refine⟨_,hX,?_⟩|refine⟨_,hY,?_⟩);simp[dm,fe]))
         all_goals exact oW [] []
        ·cases e2:(bb gs C_ ((m+1+(cs.length:Int).tmod 11).tmod 12)).2
         ·rw[e2]at hY
          (refine TW.go ?_;simp[dm,fe];repeat' first|intro hc|refine U.mk ?_|refine aI ?_|refine aa ?_ ?_|(refine cP ?_;(first|refine⟨_,hX,?_⟩|refine⟨_,hY,?_⟩);simp[dm,fe]))
          all_goals exact oW [] []
         ·rw[e2]at hY
          obtain⟨-, -, -,Yj⟩:=nf hL n2 e2;have Yj:=Yj.mono (n':=4000) (by omega)
          rw[←(rF n2 e2).2,←(rF n1 e1).2]at Bb;generalize(bb gs C_ ((m+1+(cs.length:Int).tmod 11).tmod 12)).1=B at*;rcases c7 B set m Yj with⟨n3,hZ⟩|⟨n3,hZ⟩
          ·(refine TW.go ?_;simp[dm,fe];repeat' first|intro hc|refine U.mk ?_|refine aI ?_|refine aa ?_ ?_|(refine cP ?_;(first|refine⟨_,hX,?_⟩|refine⟨_,hY,?_⟩|refine⟨_,hZ,?_⟩);simp[dm,fe]))
           all_goals exact oW [] []
          ·cases e3:(bb B set m).2
           ·rw[e3]at hZ
            (refine TW.go ?_;simp[dm,fe];repeat' first|intro hc|refine U.mk ?_|refine aI ?_|refine aa ?_ ?_|(refine cP ?_;(first|refine⟨_,hX,?_⟩|refine⟨_,hY,?_⟩|refine⟨_,hZ,?_⟩);simp[dm,fe]))
            all_goals exact oW [] []
           ·rw[e3,(rF n3 e3).2,Bb]at hZ
            (refine TW.go ?_;simp[dm,fe];repeat' first|intro hc|refine U.mk ?_|refine aI ?_|refine aa ?_ ?_|(refine cP ?_;(first|refine⟨_,hX,?_⟩|refine⟨_,hY,?_⟩|refine⟨_,hZ,?_⟩|refine⟨_,bS _,?_⟩);simp[dm,fe]))
            all_goals exact oW [] []
end Go.Proofs.YtjklkppncmhehaaGreat.T
