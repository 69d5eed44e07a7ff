/-
What is proved: the law FnRecoverKeeps over trees: it answers true, or escapes. No condition but that the code is bytes.
-/
import Derived.Test.YtjklkppncmhehaaGreatRx48
set_option linter.unusedVariables false
set_option linter.unusedSimpArgs false
namespace Go.Proofs.YtjklkppncmhehaaGreat.T
open Go Go.RowKit
set_option maxRecDepth 100000
set_option maxHeartbeats 4000000
theorem uk (bs:List Int)(hb:∀b∈bs,0≤b∧b≤255):TC Tw.prog cf 8 [gR (eL bs)] 0 [] (gB true) []:=by
 obtain⟨gs,set,m,hL,hD⟩:=oP bs hb;have hD:=hD cf;have oe:cz gs 4000:=hL.mono (by omega)
 have hS:=dL (E:=cf) gs set m oe;refine tE Tryz.f8 Tryz.ntmps8 (by rw[Tryz.results8]) ?_
 by_cases hl:1048576<bs.length
 ·have aY:(1048576:Int)<(bs.length:Int):=by omega
  (refine TW.go ?_;simp[aY];repeat' first|intro hc|refine U.mk ?_|refine aI ?_|refine aa ?_ ?_)
  exact oW [] []
 ·have aY:¬(1048576:Int)<(bs.length:Int):=by omega
  rcases c7 gs set m oe with⟨cl,hI⟩|⟨cl,hI⟩
  ·rw[sd cl]at hS
   (refine TW.go ?_;simp[aY];repeat' first|intro hc|refine U.mk ?_|refine aI ?_|refine aa ?_ ?_|(refine cP ?_;(first|refine⟨_,hD,?_⟩|refine⟨_,hI,?_⟩|refine⟨_,hS,?_⟩|refine⟨_,dZ,?_⟩);simp[aY]))
   exact oW [] []
  ·cases hR:(bb gs set m).2
   ·rw[hR]at hI hS
    generalize(bb gs set m).1=out at*;(refine TW.go ?_;simp[aY];repeat' first|intro hc|refine U.mk ?_|refine aI ?_|refine aa ?_ ?_|(refine cP ?_;(first|refine⟨_,hD,?_⟩|refine⟨_,hI,?_⟩|refine⟨_,hS,?_⟩|refine⟨_,bS _,?_⟩);simp[aY]))
    exact oW [] []
   ·obtain⟨s,eT,K,lJ⟩:=nf hL cl hR
    obtain⟨h1,h2,hm⟩:=lf cl;obtain⟨bY,iI,hr⟩:=iS h2;have h5:=c_ h1;have cX:0<set.length:=List.length_pos_iff.2 bY
    have hlen:set.length≤maxLen:=by simp only[maxLen];omega
    have o5:=K.len;have lJ:=lJ.mono (n':=4000) (by omega)
    rw[hR]at hI hS;generalize(bb gs set m).1=out at*;(refine TW.go ?_;simp[aY];repeat' first|intro hc|refine U.mk ?_|refine aI ?_|refine aa ?_ ?_|(refine cP ?_;(first|refine⟨_,hD,?_⟩|refine⟨_,hI,?_⟩|refine⟨_,hS,?_⟩|refine⟨_,bS _,?_⟩);simp[aY]))
    refine tL (fun(k:Nat)=>⟨[(3,gR (bO gs)),(4,gR (bg set)),(5,gI .i64 m),(6,gR (bO out)),(10,gI .i64 (k:Nat))],[],0⟩) (fun k=>k≤set.length) (fun k=>set.length-k) 0 (by omega) (kS) fun k hk=>?_
    by_cases ai:k<set.length
    ·have he:set[k]?=some set[k]:=List.getElem?_eq_getElem ai
     obtain⟨y0,y1⟩:=hr _ (List.getElem_mem ai);obtain⟨G,mm,hG, -,hT⟩:=rG (E:=cf) K lJ hr (List.getElem_mem ai);have E7:=K.bK _ (List.getElem_mem ai);generalize hx:set[k]=y at he y0 y1 hG E7;have QI:=dt (gs:=gs) (i:=y.toNat) (by omega)
     have T4:=qa (E:=cf) m oe (i:=y.toNat) (by omega) (pZ h1 (by omega))
     generalize aB gs y.toNat=G2 at*;generalize bo G2 m=e at*;have ar:(k:Int)<(set.length:Int):=by omega
     have aD:=wrap_add ai hlen
     cases FB:di G2 m
     ·rw[FB]at T4
      (refine TW.go ?_;simp[ar,he,y0,hG,QI,aD,af,ak,fM];repeat' first|intro hc|refine U.mk ?_|refine aI ?_|refine aa ?_ ?_|(refine cP ?_;(first|refine⟨_,hT,?_⟩|refine⟨_,T4,?_⟩|refine⟨_,pY _ _ _ _,?_⟩);simp[ar,he,y0,hG,QI,aD,af,ak,fM]))
      exact⟨k+1,by omega,by omega,kS⟩
     ·obtain⟨q1,q2⟩:=E7 FB
      rw[FB]at T4
      cases hf:e.f
      ·(refine TW.go ?_;simp[ar,he,y0,hG,QI,aD,hf,q1,af,ak,fM];repeat' first|intro hc|refine U.mk ?_|refine aI ?_|refine aa ?_ ?_|(refine cP ?_;(first|refine⟨_,hT,?_⟩|refine⟨_,T4,?_⟩|refine⟨_,pY _ _ _ _,?_⟩);simp[ar,he,y0,hG,QI,aD,hf,q1,af,ak,fM]))
       exact⟨k+1,by omega,by omega,kS⟩
      ·have q3:e.t=s.1:=congrArg Prod.fst (q2 hf)
       have q4:e.g=s.2:=congrArg Prod.snd (q2 hf)
       (refine TW.go ?_;simp[ar,he,y0,hG,QI,aD,hf,q3,q4,mf,af,ak,fM];repeat' first|intro hc|refine U.mk ?_|refine aI ?_|refine aa ?_ ?_|(refine cP ?_;(first|refine⟨_,hT,?_⟩|refine⟨_,T4,?_⟩|refine⟨_,pY _ _ _ _,?_⟩);simp[ar,he,y0,hG,QI,aD,hf,q3,q4,mf,af,ak,fM]))
       exact⟨k+1,by omega,by omega,kS⟩
    ·obtain rfl:k=set.length:=by omega
     (refine TW.go ?_;simp;repeat' first|intro hc|refine U.mk ?_|refine aI ?_|refine aa ?_ ?_)
     exact oW [] []
end Go.Proofs.YtjklkppncmhehaaGreat.T
