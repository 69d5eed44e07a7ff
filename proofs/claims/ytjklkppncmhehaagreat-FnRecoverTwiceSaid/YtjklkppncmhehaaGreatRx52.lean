/-
What is proved: the law FnRecoverTwice over trees: it answers true, or escapes. No condition but that the code is bytes.
-/
import Derived.Test.YtjklkppncmhehaaGreatRx48
set_option linter.unusedVariables false
set_option linter.unusedSimpArgs false
namespace Go.Proofs.YtjklkppncmhehaaGreat.T
open Go Go.RowKit
set_option maxRecDepth 100000
set_option maxHeartbeats 4000000
theorem uj (bs:List Int)(hb:∀b∈bs,0≤b∧b≤255):TC Tw.prog cf 7 [gR (eL bs)] 0 [] (gB true) []:=by
 obtain⟨gs,set,m,hL,hD⟩:=oP bs hb;have hD:=hD cf;have oe:cz gs 4000:=hL.mono (by omega)
 have hS:=dL (E:=cf) gs set m oe;refine tE Tryz.f7 Tryz.ntmps7 (by rw[Tryz.results7]) ?_
 by_cases hl:1048576<bs.length
 ·have aY:(1048576:Int)<(bs.length:Int):=by omega
  (refine TW.go ?_;simp[aY];repeat' first|intro hc|refine U.mk ?_|refine aI ?_|refine aa ?_ ?_)
  exact oW [] []
 ·have aY:¬(1048576:Int)<(bs.length:Int):=by omega
  rcases c7 gs set m oe with⟨cl,hI⟩|⟨cl,hI⟩
  ·rw[sd cl]at hS
   (refine TW.go ?_;simp[aY];repeat' first|intro hc|refine U.mk ?_|refine aI ?_|refine aa ?_ ?_|(refine cP ?_;(first|refine⟨_,hD,?_⟩|refine⟨_,hI,?_⟩|refine⟨_,hS,?_⟩|refine⟨_,dZ,?_⟩);simp[aY]))
   exact oW [] []
  ·cases hR:(bb gs set m).2
   ·rw[hR]at hI hS
    generalize(bb gs set m).1=out at*;(refine TW.go ?_;simp[aY];repeat' first|intro hc|refine U.mk ?_|refine aI ?_|refine aa ?_ ?_|(refine cP ?_;(first|refine⟨_,hD,?_⟩|refine⟨_,hI,?_⟩|refine⟨_,hS,?_⟩|refine⟨_,bS _,?_⟩);simp[aY]))
    exact oW [] []
   ·obtain⟨s,eT,K,lJ⟩:=nf hL cl hR
    obtain⟨h1,h2,hm⟩:=lf cl;obtain⟨bY,iI,hr⟩:=iS h2;have h5:=c_ h1;have cX:0<set.length:=List.length_pos_iff.2 bY
    have hlen:set.length≤maxLen:=by simp only[maxLen];omega
    have o5:=K.len;have lJ:=lJ.mono (n':=4000) (by omega)
    rw[hR]at hI hS;generalize(bb gs set m).1=out at*;have hV:=mX (E:=cf) out (lJ.mono (by omega))
    cases hv:du out
    ·rw[hv]at hV
     (refine TW.go ?_;simp[aY];repeat' first|intro hc|refine U.mk ?_|refine aI ?_|refine aa ?_ ?_|(refine cP ?_;(first|refine⟨_,hD,?_⟩|refine⟨_,hI,?_⟩|refine⟨_,hS,?_⟩|refine⟨_,bS _,?_⟩|refine⟨_,hV,?_⟩);simp[aY]))
     exact oW [] []
    ·rw[hv]at hV
     have Wm:im out set m=true:=by rw[im,hv,h2,hm];rfl
     have htw:bb out set m=(out,true):=by
      rw[bb,if_pos Wm,MU bY hr (wX h2) o5 (fun g hg=>⟨(K.st g hg).1,(K.st g hg).2.1⟩),if_pos rfl]
     rcases c7 out set m lJ with⟨oU, -⟩|⟨-,hI2⟩
     ·rw[Wm]at oU;cases oU
     ·rw[htw]at hI2
      (refine TW.go ?_;simp[aY];repeat' first|intro hc|refine U.mk ?_|refine aI ?_|refine aa ?_ ?_|(refine cP ?_;(first|refine⟨_,hD,?_⟩|refine⟨_,hI,?_⟩|refine⟨_,hS,?_⟩|refine⟨_,bS _,?_⟩|refine⟨_,hV,?_⟩|refine⟨_,hI2,?_⟩);simp[aY]))
      exact oW [] []
end Go.Proofs.YtjklkppncmhehaaGreat.T
