/-
What is proved: the law FnWorldGenuine over trees: it answers true, or escapes. No condition but that the code is bytes.
-/
import Derived.Test.YtabjbdnokpjipaaGreatRw48
set_option linter.unusedVariables false
set_option linter.unusedSimpArgs false
namespace Go.Proofs.YtabjbdnokpjipaaGreat.T
open Go Go.RowKit
set_option maxRecDepth 100000
set_option maxHeartbeats 4000000
theorem xv (bs:List Int)(hb:∀b∈bs,0≤b∧b≤255):TC Tw.prog bq 3 [gR (j5 bs)] 0 [] (gB true) []:=by
 have hD:=jz (E:=bq) (bs:=bs) ⟨fun b h=>hb b (List.mem_of_mem_take h),by simp;omega⟩
 generalize jV (pk (bs.take 2000))=es at*;refine tE Tryz.f3 Tryz.ntmps3 (by rw[Tryz.results3]) ?_
 by_cases hl:1048576<bs.length
 ·have bz:(1048576:Int)<(bs.length:Int):=by omega
  (refine TW.go ?_;simp[bz];repeat' first|intro hc|refine aa.mk ?_|refine aI ?_|refine af ?_ ?_)
  exact oW [] []
 have bz:¬(1048576:Int)<(bs.length:Int):=by omega
 by_cases bh:80<es.length
 ·have hP:=fW (E:=bq) es bh
  have hQ:=dI (E:=bq) es bh;(refine TW.go ?_;simp[bz];repeat' first|intro hc|refine aa.mk ?_|refine aI ?_|refine af ?_ ?_|(refine cP ?_;(first|refine⟨_,hD,?_⟩|refine⟨_,hP,?_⟩|refine⟨_,hQ,?_⟩|refine⟨_,fX,?_⟩);simp[bz]))
  exact oW [] []
 have bh:es.length≤80:=by omega
 have hP:=iE es bh;have hQ:=dV (E:=bq) es bh;have R:=aeP bh;generalize eJ es=w at*;have hS:=R.same (E:=bq);have zC:=R.tV.g5;have hlen:w.ae.length≤maxLen:=by simp only[maxLen];omega
 (refine TW.go ?_;simp[bz,wT];repeat' first|intro hc|refine aa.mk ?_|refine aI ?_|refine af ?_ ?_|(refine cP ?_;(first|refine⟨_,hD,?_⟩|refine⟨_,hP,?_⟩|refine⟨_,hQ,?_⟩|refine⟨_,hS,?_⟩);simp[bz,wT]))
 refine tL (fun(k:Nat)=>⟨[(4,.s (.ptr 0 0)),(8,gI .i64 (k:Nat))],[(0,.box ((wT w).map .r))],1⟩) (fun k=>k≤w.ae.length) (fun k=>w.ae.length-k) 0 (by omega) (Wk.own [0] [] (by simp) (by simp) (by simp[wT]) (by simp) (by simp)) fun k hk=>?_
 by_cases ak:k<w.ae.length
 ·have an:(k:Int)<(w.ae.length:Int):=by omega
  have aE:=wrap_add ak hlen;have hG:=cu (gs:=w.ae) (i:=k) ak;(refine TW.go ?_;simp[wT,an];repeat' first|intro hc|refine aa.mk ?_|refine aI ?_|refine af ?_ ?_)
  refine tL (fun(j:Nat)=>⟨[(4,.s (.ptr 0 0)),(8,gI .i64 (k:Nat)),(9,gI .i64 (j:Nat))],[(0,.box ((wT w).map .r))],1⟩) (fun j=>j≤12) (fun j=>12-j) 0 (by omega) (Wk.own [0] [] (by simp) (by simp) (by simp[wT]) (by simp) (by simp)) fun j hj=>?_
  by_cases yO:j<12
  ·have eZ:(j:Int)<12:=by omega
   have cU:IntKind.i64.wrap ((j:Int)+1)=(j:Int)+1:=aQ (by omega) (by omega)
   have hC:=uJ (E:=bq) R.ok R.s2 (g:=(k:Nat)) (by omega) (by omega) (j:Nat)
   rw[show((k:Nat):Int).toNat=k by omega]at hC
   have gN:=fun hb=>R.kn (g:=k) (m:=j) (by omega) hb
   generalize gAt w.ae k=G at*;generalize aV G (j:Nat)=e at*
   cases hb:cc G (j:Nat)
   ·rw[hb]at hC
    (refine TW.go ?_;simp[wT,au,aG,an,eZ,cU,hG];repeat' first|intro hc|refine aa.mk ?_|refine aI ?_|refine af ?_ ?_|(refine cP ?_;refine⟨_,hC,?_⟩;simp[wT,au,aG,an,eZ,cU,hG]))
    exact⟨j+1,by omega,by omega,Wk.own [0] [] (by simp) (by simp) (by simp[wT]) (by simp) (by simp)⟩
   ·rw[hb]at hC
    obtain⟨h1,h2⟩:=gN hb;have bh:=iq (w:=w) (m:=(j:Nat)) (by omega) (by omega)
    have jg:¬(w.aj.length:Int)≤(j:Nat):=by omega
    have hH:=mo (E:=bq) (setAt w (j:Nat)) (k:Nat);rw[cY.2 h2]at hH;rw[show((j:Nat):Int).toNat=j by omega]at bh
    generalize setAt w (j:Nat)=S at*;(refine TW.go ?_;simp[wT,au,aG,an,eZ,cU,hG,jg,bh];repeat' first|intro hc|refine aa.mk ?_|refine aI ?_|refine af ?_ ?_|(refine cP ?_;(first|refine⟨_,hC,?_⟩|refine⟨_,hH,?_⟩);simp[wT,au,aG,an,eZ,cU,hG,jg,bh]))
    exact⟨j+1,by omega,by omega,Wk.own [0] [] (by simp) (by simp) (by simp[wT]) (by simp) (by simp)⟩
  ·obtain rfl:j=12:=by omega
   (refine TW.go ?_;simp[aE];repeat' first|intro hc|refine aa.mk ?_|refine aI ?_|refine af ?_ ?_)
   exact⟨k+1,by omega,by omega,Wk.own [0] [] (by simp) (by simp) (by simp[wT]) (by simp) (by simp)⟩
 ·obtain rfl:k=w.ae.length:=by omega
  (refine TW.go ?_;simp[wT];repeat' first|intro hc|refine aa.mk ?_|refine aI ?_|refine af ?_ ?_)
  exact oW [] []
end Go.Proofs.YtabjbdnokpjipaaGreat.T
