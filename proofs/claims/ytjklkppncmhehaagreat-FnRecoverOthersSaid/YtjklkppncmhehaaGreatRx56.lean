/-
What is proved: the law FnRecoverOthers over trees: it answers true, or escapes. No condition but that the code is bytes.
-/
import Derived.Test.YtjklkppncmhehaaGreatRx48
set_option linter.unusedVariables false
set_option linter.unusedSimpArgs false
namespace Go.Proofs.YtjklkppncmhehaaGreat.T
open Go Go.RowKit
set_option maxRecDepth 100000
set_option maxHeartbeats 4000000
theorem sA (bs:List Int)(hb:∀b∈bs,0≤b∧b≤255):TC Tw.prog cf 10 [gR (eL bs)] 0 [] (gB true) []:=by
 obtain⟨gs,set,m,hL,hD⟩:=oP bs hb;have hD:=hD cf;have oe:cz gs 4000:=hL.mono (by omega)
 have hS:=dL (E:=cf) gs set m oe;refine tE Tryz.f10 Tryz.ntmps10 (by rw[Tryz.results10]) ?_
 by_cases hl:1048576<bs.length
 ·have aY:(1048576:Int)<(bs.length:Int):=by omega
  (refine TW.go ?_;simp[aY];repeat' first|intro hc|refine U.mk ?_|refine aI ?_|refine aa ?_ ?_)
  exact oW [] []
 ·have aY:¬(1048576:Int)<(bs.length:Int):=by omega
  rcases c7 gs set m oe with⟨cl,hI⟩|⟨cl,hI⟩
  ·rw[sd cl]at hS
   (refine TW.go ?_;simp[aY];repeat' first|intro hc|refine U.mk ?_|refine aI ?_|refine aa ?_ ?_|(refine cP ?_;(first|refine⟨_,hD,?_⟩|refine⟨_,hI,?_⟩|refine⟨_,hS,?_⟩|refine⟨_,dZ,?_⟩);simp[aY]))
   exact oW [] []
  ·cases hR:(bb gs set m).2
   ·rw[hR]at hI hS
    generalize(bb gs set m).1=out at*;(refine TW.go ?_;simp[aY];repeat' first|intro hc|refine U.mk ?_|refine aI ?_|refine aa ?_ ?_|(refine cP ?_;(first|refine⟨_,hD,?_⟩|refine⟨_,hI,?_⟩|refine⟨_,hS,?_⟩|refine⟨_,bS _,?_⟩);simp[aY]))
    exact oW [] []
   ·obtain⟨s,eT,K,lJ⟩:=nf hL cl hR
    obtain⟨h1,h2,hm⟩:=lf cl;obtain⟨bY,iI,hr⟩:=iS h2;have h5:=c_ h1;have cX:0<set.length:=List.length_pos_iff.2 bY
    have hlen:set.length≤maxLen:=by simp only[maxLen];omega
    have o5:=K.len;have lJ:=lJ.mono (n':=4000) (by omega)
    rw[hR]at hI hS;generalize(bb gs set m).1=out at*;(refine TW.go ?_;simp[aY];repeat' first|intro hc|refine U.mk ?_|refine aI ?_|refine aa ?_ ?_|(refine cP ?_;(first|refine⟨_,hD,?_⟩|refine⟨_,hI,?_⟩|refine⟨_,hS,?_⟩|refine⟨_,bS _,?_⟩);simp[aY]))
    refine tL (fun(k:Nat)=>⟨[(3,gR (bO gs)),(4,gR (bg set)),(5,gI .i64 m),(6,gR (bO out)),(10,gI .i64 (k:Nat))],[],0⟩) (fun k=>k≤5) (fun k=>5-k) 0 (by omega) (kS) fun k hk=>?_
    by_cases ai:k<5
    ·have ar:(k:Int)<5:=by omega
     have hG:=dt (gs:=gs) (i:=k) (by omega)
     have hH:=dt (gs:=out) (i:=k) (by omega)
     have hGv:=pZ h1 (i:=k) ai;have hHv:=K.ok k ai;have hGs:=fun j=>qa (E:=cf) j oe (i:=k) (by omega) hGv
     have hHs:=fun j=>qa (E:=cf) j lJ (i:=k) (by omega) hHv
     have ML:=oe.2 _ (List.mem_of_getElem? hG);have hHl:=lJ.2 _ (List.mem_of_getElem? hH);have B_:=K.off k ai;have Wn:=K.other k ai;obtain⟨p,hp⟩:=K.pre k ai;have hN:=C7 (E:=cf) set k;have cG:gf set k=true∨gf set k=false∧(k:Int)∉set:=by
      cases h:gf set k
      ·exact .inr ⟨rfl,fun h'=>by have:gf set k=true:=by {simp only[gf,List.any_eq_true,decide_eq_true_eq];exact⟨_,h',rfl⟩};rw[h]at this;cases this⟩
      ·exact .inl rfl
     have aD:IntKind.i64.wrap ((k:Int)+1)=(k:Int)+1:=aG (by omega) (by omega)
     generalize aB gs k=G at*;generalize aB out k=H at*;have hGt:=tk (E:=cf) G ⟨by have:=ML.1;omega,by have:=ML.2;omega⟩ hGv
     have hHt:=tk (E:=cf) H ⟨by have:=hHl.1;omega,by have:=hHl.2;omega⟩ hHv
     have hAB:(H.done.map an.m).take (G.done.map an.m).length=G.done.map an.m:=by rw[hp,List.map_append,List.take_left]
     generalize G.done.map an.m=A at*;generalize H.done.map an.m=B at*;have hP:=xV (E:=cf) A B hAB;rcases cG with cG|⟨cG,aaq⟩
     ·rw[cG]at hN
      (refine TW.go ?_;simp[ar,h5,hG,hH,af];repeat' first|intro hc|refine U.mk ?_|refine aI ?_|refine aa ?_ ?_|(refine cP ?_;refine⟨_,hN,?_⟩;simp[ar,h5,hG,hH,af])|(refine cF [] 1 ?_;refine⟨_,_,hGt,?_⟩;simp[ar,h5,hG,hH,af])|(refine cF [] 1 ?_;refine⟨_,_,hHt,?_⟩;simp[ar,h5,hG,hH,af])|(refine cK [0,1] ?_;refine⟨_,hP,?_⟩;simp[ar,h5,hG,hH,af]))
      all_goals
       refine tL (fun(j:Nat)=>⟨[(3,gR (bO gs)),(4,gR (bg set)),(5,gI .i64 m),(6,gR (bO out)),(10,gI .i64 (k:Nat)),(11,gI .i64 (j:Nat))],[],0⟩) (fun j=>j≤12) (fun j=>12-j) 0 (by omega) (kS) fun j hj=>?_
       by_cases My:j<12
       ·have vJ:(j:Int)<12:=by omega
        have sv:IntKind.i64.wrap ((j:Int)+1)=(j:Int)+1:=aG (by omega) (by omega)
        have hA:=hGs (j:Nat);have hB:=hHs (j:Nat);by_cases FH:(j:Int)=m
        ·subst FH
         (refine TW.go ?_;simp[vJ,sv,hG,hH,af,ak,fM];repeat' first|intro hc|refine U.mk ?_|refine aI ?_|refine aa ?_ ?_|(refine cP ?_;(first|refine⟨_,hA,?_⟩|refine⟨_,hB,?_⟩);simp[vJ,sv,hG,hH,af,ak,fM]))
         all_goals exact⟨j+1,by omega,by omega,kS⟩
        ·have bk:=Wn j FH
         rw[bo,di,bk]at hB;rw[bo,di]at hA;generalize(bC G (j:Nat)).isSome=b at*;generalize(bC G (j:Nat)).getD an.zero=e at*;(refine TW.go ?_;simp[vJ,sv,FH,hG,hH,af,ak,fM];repeat' first|intro hc|refine U.mk ?_|refine aI ?_|refine aa ?_ ?_|(refine cP ?_;(first|refine⟨_,hA,?_⟩|refine⟨_,hB,?_⟩);simp[vJ,sv,FH,hG,hH,af,ak,fM]))
         all_goals exact⟨j+1,by omega,by omega,kS⟩
       ·obtain rfl:j=12:=by omega
        (refine TW.go ?_;simp[aD];repeat' first|intro hc|refine U.mk ?_|refine aI ?_|refine aa ?_ ?_)
        exact⟨k+1,by omega,by omega,kS⟩
     ·rw[cG]at hN
      have hGH:=(B_ aaq).symm;have hSG:=vH (E:=cf) G;have hPA:=xV (E:=cf) A A (by rw[List.take_length])
      subst hGH;(refine TW.go ?_;simp[ar,h5,hG,hH,af];repeat' first|intro hc|refine U.mk ?_|refine aI ?_|refine aa ?_ ?_|(refine cP ?_;(first|refine⟨_,hN,?_⟩|refine⟨_,hSG,?_⟩);simp[ar,h5,hG,hH,af])|(refine cF [] 1 ?_;refine⟨_,_,hGt,?_⟩;simp[ar,h5,hG,hH,af])|(refine cK [0,1] ?_;refine⟨_,hPA,?_⟩;simp[ar,h5,hG,hH,af]))
      all_goals
       refine tL (fun(j:Nat)=>⟨[(3,gR (bO gs)),(4,gR (bg set)),(5,gI .i64 m),(6,gR (bO out)),(10,gI .i64 (k:Nat)),(11,gI .i64 (j:Nat))],[],0⟩) (fun j=>j≤12) (fun j=>12-j) 0 (by omega) (kS) fun j hj=>?_
       by_cases My:j<12
       ·have vJ:(j:Int)<12:=by omega
        have sv:IntKind.i64.wrap ((j:Int)+1)=(j:Int)+1:=aG (by omega) (by omega)
        have hA:=hGs (j:Nat);have hB:=hHs (j:Nat);by_cases FH:(j:Int)=m
        ·subst FH
         (refine TW.go ?_;simp[vJ,sv,hG,hH,af,ak,fM];repeat' first|intro hc|refine U.mk ?_|refine aI ?_|refine aa ?_ ?_|(refine cP ?_;(first|refine⟨_,hA,?_⟩|refine⟨_,hB,?_⟩);simp[vJ,sv,hG,hH,af,ak,fM]))
         all_goals exact⟨j+1,by omega,by omega,kS⟩
        ·have bk:=Wn j FH
         rw[bo,di,bk]at hB;rw[bo,di]at hA;generalize(bC G (j:Nat)).isSome=b at*;generalize(bC G (j:Nat)).getD an.zero=e at*;(refine TW.go ?_;simp[vJ,sv,FH,hG,hH,af,ak,fM];repeat' first|intro hc|refine U.mk ?_|refine aI ?_|refine aa ?_ ?_|(refine cP ?_;(first|refine⟨_,hA,?_⟩|refine⟨_,hB,?_⟩);simp[vJ,sv,FH,hG,hH,af,ak,fM]))
         all_goals exact⟨j+1,by omega,by omega,kS⟩
       ·obtain rfl:j=12:=by omega
        (refine TW.go ?_;simp[aD];repeat' first|intro hc|refine U.mk ?_|refine aI ?_|refine aa ?_ ?_)
        exact⟨k+1,by omega,by omega,kS⟩
    ·obtain rfl:k=5:=by omega
     (refine TW.go ?_;simp[h5];repeat' first|intro hc|refine U.mk ?_|refine aI ?_|refine aa ?_ ?_)
     exact oW [] []
end Go.Proofs.YtjklkppncmhehaaGreat.T
