/-
What is proved: the law FnWorldPairs over trees: it answers true, or escapes. No condition but that the code is bytes.
-/
import Derived.Test.YtabjbdnokpjipaaGreatRw48
set_option linter.unusedVariables false
set_option linter.unusedSimpArgs false
namespace Go.Proofs.YtabjbdnokpjipaaGreat.T
open Go Go.RowKit
set_option maxRecDepth 100000
set_option maxHeartbeats 4000000
theorem zT (bs:List Int)(hb:∀b∈bs,0≤b∧b≤255):TC Tw.prog bq 7 [gR (j5 bs)] 0 [] (gB true) []:=by
 have hD:=jz (E:=bq) (bs:=bs) ⟨fun b h=>hb b (List.mem_of_mem_take h),by simp;omega⟩
 generalize jV (pk (bs.take 2000))=es at*;refine tE Tryz.f7 Tryz.ntmps7 (by rw[Tryz.results7]) ?_
 by_cases hl:1048576<bs.length
 ·have bz:(1048576:Int)<(bs.length:Int):=by omega
  (refine TW.go ?_;simp[bz];repeat' first|intro hc|refine aa.mk ?_|refine aI ?_|refine af ?_ ?_)
  exact oW [] []
 have bz:¬(1048576:Int)<(bs.length:Int):=by omega
 by_cases bh:80<es.length
 ·have hP:=fW (E:=bq) es bh
  have hQ:=dI (E:=bq) es bh;(refine TW.go ?_;simp[bz];repeat' first|intro hc|refine aa.mk ?_|refine aI ?_|refine af ?_ ?_|(refine cP ?_;(first|refine⟨_,hD,?_⟩|refine⟨_,hP,?_⟩|refine⟨_,hQ,?_⟩|refine⟨_,fX,?_⟩);simp[bz]))
  exact oW [] []
 have bh:es.length≤80:=by omega
 have hP:=iE es bh;have hQ:=dV (E:=bq) es bh;have R:=aeP bh;generalize eJ es=w at*;have hS:=R.same (E:=bq);have zC:=R.tV.g5;have hlen:w.ae.length≤maxLen:=by simp only[maxLen];omega
 have hT:=lB w R.ok R.s2;have eU:∀k,(cr (gAt w.ae k)).length≤4000:=fun k=>by
  rw[List.length_map];rcases Nat.lt_or_ge k w.ae.length with h|h
  ·have:=(R.tV.dS _ (List.mem_of_getElem? (cu h))).1;omega
  ·unfold gAt
   rw[List.getD_eq_getElem?_getD,List.getElem?_eq_none h];exact Nat.zero_le _
 (refine TW.go ?_;simp[bz,wT];repeat' first|intro hc|refine aa.mk ?_|refine aI ?_|refine af ?_ ?_|(refine cP ?_;(first|refine⟨_,hD,?_⟩|refine⟨_,hP,?_⟩|refine⟨_,hQ,?_⟩|refine⟨_,hS,?_⟩|refine⟨_,hT,?_⟩);simp[bz,wT]))
 refine tL (fun(k:Nat)=>⟨[(8,gR (ny w)),(9,gI .i64 (k:Nat))],[],0⟩) (fun k=>k≤w.ae.length) (fun k=>w.ae.length-k) 0 (by omega) (kO [] []) fun k hk=>?_
 by_cases ak:k<w.ae.length
 ·have an:(k:Int)<(w.ae.length:Int):=by omega
  have aE:=wrap_add ak hlen;have hG:=nZ (w:=w) ak;have Yq:=eU k;have abV:(cr (gAt w.ae k)).length≤maxLen:=by simp only[maxLen];omega
  (refine TW.go ?_;simp[an];repeat' first|intro hc|refine aa.mk ?_|refine aI ?_|refine af ?_ ?_)
  refine tL (fun(c:Nat)=>⟨[(8,gR (ny w)),(9,gI .i64 (k:Nat)),(10,gI .i64 (c:Nat))],[],0⟩) (fun c=>c≤k) (fun c=>k-c) 0 (by omega) (kO [] []) fun c hc=>?_
  by_cases hlc:c<k
  ·have AW:(c:Int)<(k:Int):=by omega
   have cU:IntKind.i64.wrap ((c:Int)+1)=(c:Int)+1:=aQ (by omega) (by omega)
   have Rl:=nZ (w:=w) (k:=c) (by omega)
   (refine TW.go ?_;simp[AW];repeat' first|intro hc|refine aa.mk ?_|refine aI ?_|refine af ?_ ?_)
   refine tL (fun(a:Nat)=>⟨[(8,gR (ny w)),(9,gI .i64 (k:Nat)),(10,gI .i64 (c:Nat)),(11,gI .i64 (a:Nat))],[],0⟩) (fun a=>a≤(cr (gAt w.ae k)).length) (fun a=>(cr (gAt w.ae k)).length-a) 0 (by omega) (kO [] []) fun a ha=>?_
   by_cases Hh:a<(cr (gAt w.ae k)).length
   ·have iR:(a:Int)<((cr (gAt w.ae k)).length:Int):=by omega
    have ky:=wrap_add Hh abV;have ex:(cr (gAt w.ae k))[a]?=some (cr (gAt w.ae k))[a]:=List.getElem?_eq_getElem Hh
    have hnc:∀b:Nat,b<a→∀y,(cr (gAt w.ae k))[b]?=some y→oZ (cr (gAt w.ae k))[a] y (cr (gAt w.ae c))=false:=fun b hb y hy=>VU R.ok.gs R.ok.set (by omega) (by omega) hb ex hy
    generalize(cr (gAt w.ae k))[a]=x at*;generalize hM:cr (gAt w.ae c)=M at*;generalize hL:cr (gAt w.ae k)=L at*;(refine TW.go ?_;simp[an,iR,hG,hL];repeat' first|intro hc|refine aa.mk ?_|refine aI ?_|refine af ?_ ?_)
    refine tL (fun(b:Nat)=>⟨[(8,gR (ny w)),(9,gI .i64 (k:Nat)),(10,gI .i64 (c:Nat)),(11,gI .i64 (a:Nat)),(12,gI .i64 (b:Nat))],[],0⟩) (fun b=>b≤a) (fun b=>a-b) 0 (by omega) (kO [] []) fun b hb=>?_
    by_cases hlb:b<a
    ·have na:(b:Int)<(a:Int):=by omega
     have fC:IntKind.i64.wrap ((b:Int)+1)=(b:Int)+1:=aQ (by omega) (by omega)
     have ey:L[b]?=some L[b]:=List.getElem?_eq_getElem (by omega)
     have hB:=V5 (E:=bq) M x L[b];rw[hnc b hlb _ ey]at hB;generalize L[b]=y at*;(refine TW.go ?_;simp[na,fC,hG,Rl,ex,ey];repeat' first|intro hc|refine aa.mk ?_|refine aI ?_|refine af ?_ ?_|(refine cP ?_;refine⟨_,hB,?_⟩;simp[na,fC,hG,Rl,ex,ey]))
     exact⟨b+1,by omega,by omega,kO [] []⟩
    ·obtain rfl:b=a:=by omega
     (refine TW.go ?_;simp[ky];repeat' first|intro hc|refine aa.mk ?_|refine aI ?_|refine af ?_ ?_)
     exact⟨b+1,by omega,by omega,kO [] []⟩
   ·have ov:¬(a:Int)<((cr (gAt w.ae k)).length:Int):=by omega
    generalize hL:cr (gAt w.ae k)=L at*;(refine TW.go ?_;simp[an,cU,hG,hL,ov];repeat' first|intro hc|refine aa.mk ?_|refine aI ?_|refine af ?_ ?_)
    exact⟨c+1,by omega,by omega,kO [] []⟩
  ·obtain rfl:c=k:=by omega
   (refine TW.go ?_;simp[aE];repeat' first|intro hc|refine aa.mk ?_|refine aI ?_|refine af ?_ ?_)
   exact⟨c+1,by omega,by omega,kO [] []⟩
 ·obtain rfl:k=w.ae.length:=by omega
  (refine TW.go ?_;simp;repeat' first|intro hc|refine aa.mk ?_|refine aI ?_|refine af ?_ ?_)
  exact oW [] []
end Go.Proofs.YtabjbdnokpjipaaGreat.T
