/-
What is proved: the law FnWorldPrefix over trees: it answers true, or escapes. No condition but that the code is bytes.
-/
import Derived.Test.YtabjbdnokpjipaaGreatRw48
set_option linter.unusedVariables false
set_option linter.unusedSimpArgs false
namespace Go.Proofs.YtabjbdnokpjipaaGreat.T
open Go Go.RowKit
set_option maxRecDepth 100000
set_option maxHeartbeats 4000000
theorem yS (bs:List Int)(hb:∀b∈bs,0≤b∧b≤255):TC Tw.prog bq 6 [gR (j5 bs)] 0 [] (gB true) []:=by
 have hD:=jz (E:=bq) (bs:=bs) ⟨fun b h=>hb b (List.mem_of_mem_take h),by simp;omega⟩
 generalize jV (pk (bs.take 2000))=es at*;refine tE Tryz.f6 Tryz.ntmps6 (by rw[Tryz.results6]) ?_
 by_cases hl:1048576<bs.length
 ·have bz:(1048576:Int)<(bs.length:Int):=by omega
  (refine TW.go ?_;simp[bz];repeat' first|intro hc|refine aa.mk ?_|refine aI ?_|refine af ?_ ?_)
  exact oW [] []
 have bz:¬(1048576:Int)<(bs.length:Int):=by omega
 by_cases bh:80<es.length
 ·have hP:=fW (E:=bq) es bh
  have hQ:=dI (E:=bq) es bh;(refine TW.go ?_;simp[bz];repeat' first|intro hc|refine aa.mk ?_|refine aI ?_|refine af ?_ ?_|(refine cP ?_;(first|refine⟨_,hD,?_⟩|refine⟨_,hP,?_⟩|refine⟨_,hQ,?_⟩|refine⟨_,fX,?_⟩);simp[bz]))
  exact oW [] []
 have bh:es.length≤80:=by omega
 have hP:=iE es bh;have hQ:=dV (E:=bq) es bh;have R:=aeP bh;generalize eJ es=w at*;have hS:=R.same (E:=bq);have zC:=R.tV.g5;have hlen:w.ae.length≤maxLen:=by simp only[maxLen];omega
 have vW:=R.ok.l_;have hT:=lB w R.ok R.s2;have eU:∀k,(cr (gAt w.ae k)).length≤4000:=fun k=>by
  rw[List.length_map];rcases Nat.lt_or_ge k w.ae.length with h|h
  ·have:=(R.tV.dS _ (List.mem_of_getElem? (cu h))).1;omega
  ·unfold gAt
   rw[List.getD_eq_getElem?_getD,List.getElem?_eq_none h];exact Nat.zero_le _
 (refine TW.go ?_;simp[bz,wT];repeat' first|intro hc|refine aa.mk ?_|refine aI ?_|refine af ?_ ?_|(refine cP ?_;(first|refine⟨_,hD,?_⟩|refine⟨_,hP,?_⟩|refine⟨_,hQ,?_⟩|refine⟨_,hS,?_⟩|refine⟨_,hT,?_⟩);simp[bz,wT]))
 refine tL (fun(k:Nat)=>⟨[(4,.s (.ptr 0 0)),(8,gR (ny w)),(9,gI .i64 (k:Nat))],[(0,.box ((wT w).map .r))],1⟩) (fun k=>k≤w.ae.length) (fun k=>w.ae.length-k) 0 (by omega) (Wk.own [0] [] (by simp) (by simp) (by simp[wT]) (by simp) (by simp)) fun k hk=>?_
 by_cases ak:k<w.ae.length
 ·have an:(k:Int)<(w.ae.length:Int):=by omega
  have aE:=wrap_add ak hlen;have hG:=nZ (w:=w) ak;have Yq:=eU k;have abV:(cr (gAt w.ae k)).length≤maxLen:=by simp only[maxLen];omega
  (refine TW.go ?_;simp[wT,an];repeat' first|intro hc|refine aa.mk ?_|refine aI ?_|refine af ?_ ?_)
  refine tL (fun(a:Nat)=>⟨[(4,.s (.ptr 0 0)),(8,gR (ny w)),(9,gI .i64 (k:Nat)),(10,gI .i64 ((a:Nat)+1))],[(0,.box ((wT w).map .r))],1⟩) (fun a=>a≤(cr (gAt w.ae k)).length) (fun a=>(cr (gAt w.ae k)).length-a) 0 (by omega) (Wk.own [0] [] (by simp) (by simp) (by simp[wT]) (by simp) (by simp)) fun a ha=>?_
  by_cases Hh:a+1<(cr (gAt w.ae k)).length
  ·have iR:(a:Int)+1<((cr (gAt w.ae k)).length:Int):=by omega
   have ky:IntKind.i64.wrap ((a:Int)+1+1)=(a:Int)+1+1:=aQ (by omega) (by omega)
   have fC:IntKind.i64.wrap (a:Int)=(a:Int):=aQ (by omega) (by omega)
   have ex:(cr (gAt w.ae k))[a]?=some (cr (gAt w.ae k))[a]:=List.getElem?_eq_getElem (by omega)
   have ey:(cr (gAt w.ae k))[a+1]?=some (cr (gAt w.ae k))[a+1]:=List.getElem?_eq_getElem Hh
   generalize(cr (gAt w.ae k))[a]=x at ex;generalize(cr (gAt w.ae k))[a+1]=y at ey;obtain⟨ux,hux,hum⟩:∃u,(gAt w.ae k).done[a]?=some u∧u.m=x:=by
    rw[List.getElem?_map,Option.map_eq_some_iff]at ex;exact ex
   obtain⟨uy,huy,hvm⟩:∃u,(gAt w.ae k).done[a+1]?=some u∧u.m=y:=by
    rw[List.getElem?_map,Option.map_eq_some_iff]at ey;exact ey
   have YX:∀c:Nat,c<5→(c:Int)∈setAt w x→y∈cr (gAt w.ae c)→x∈cr (gAt w.ae c):=fun c hc h1 h2=>by
    have:=Zw R.ok.gs R.ok.set (by omega) hc (Nat.lt_succ_self a) hux huy (by rw[hum];exact h1) (by rw[hvm];exact h2)
    rwa[hum]at this
   obtain⟨xm,xf⟩:=jJ (R.ok.gs.dS k (by omega)).1 (List.mem_of_getElem? hux)
   rw[hum]at xm;obtain⟨x0,x1, -, -⟩:=R.ok.gs.lJ k x ux (by omega) xm
   have fj:=iq x0 x1;clear hux huy hum hvm xm xf;have pa:(((a:Nat):Int)+1).toNat=a+1:=by omega
   have eI:(0:Int)≤(a:Int)+1:=by omega
   generalize hL:cr (gAt w.ae k)=L at*;(refine TW.go ?_;simp[wT,an,iR,hG,hL];repeat' first|intro hc|refine aa.mk ?_|refine aI ?_|refine af ?_ ?_)
   refine tL (fun(c:Nat)=>⟨[(4,.s (.ptr 0 0)),(8,gR (ny w)),(9,gI .i64 (k:Nat)),(10,gI .i64 ((a:Nat)+1)),(11,gI .i64 (c:Nat))],[(0,.box ((wT w).map .r))],1⟩) (fun c=>c≤w.ae.length) (fun c=>w.ae.length-c) 0 (by omega) (Wk.own [0] [] (by simp) (by simp) (by simp[wT]) (by simp) (by simp)) fun c hc=>?_
   by_cases hlc:c<w.ae.length
   ·have AW:(c:Int)<(w.ae.length:Int):=by omega
    have V8:=wrap_add hlc hlen;have Rl:=nZ (w:=w) hlc;have h1:=mo (E:=bq) (setAt w x) (c:Nat);have h2:=mo (E:=bq) (cr (gAt w.ae c)) y;have h3:=mo (E:=bq) (cr (gAt w.ae c)) x;have YX:=YX c (by omega)
    generalize cr (gAt w.ae c)=M at*;generalize setAt w x=S at*
    cases b1:cb S (c:Nat)
    ·rw[b1]at h1
     (refine TW.go ?_;simp[wT,an,iR,AW,fC,V8,hG,ex,ey,pa,eI,x0,fj];repeat' first|intro hc|refine aa.mk ?_|refine aI ?_|refine af ?_ ?_|(refine cP ?_;refine⟨_,h1,?_⟩;simp[wT,an,iR,AW,fC,V8,hG,ex,ey,pa,eI,x0,fj]))
     exact⟨c+1,by omega,by omega,Wk.own [0] [] (by simp) (by simp) (by simp[wT]) (by simp) (by simp)⟩
    ·rw[b1]at h1
     cases b2:cb M y
     ·rw[b2]at h2
      (refine TW.go ?_;simp[wT,an,iR,AW,fC,V8,hG,Rl,ex,ey,pa,eI,x0,fj];repeat' first|intro hc|refine aa.mk ?_|refine aI ?_|refine af ?_ ?_|(refine cP ?_;(first|refine⟨_,h1,?_⟩|refine⟨_,h2,?_⟩);simp[wT,an,iR,AW,fC,V8,hG,Rl,ex,ey,pa,eI,x0,fj]))
      exact⟨c+1,by omega,by omega,Wk.own [0] [] (by simp) (by simp) (by simp[wT]) (by simp) (by simp)⟩
     ·rw[b2]at h2
      rw[cY.2 (YX (cY.1 b1) (cY.1 b2))]at h3;(refine TW.go ?_;simp[wT,an,iR,AW,fC,V8,hG,Rl,ex,ey,pa,eI,x0,fj];repeat' first|intro hc|refine aa.mk ?_|refine aI ?_|refine af ?_ ?_|(refine cP ?_;(first|refine⟨_,h1,?_⟩|refine⟨_,h2,?_⟩|refine⟨_,h3,?_⟩);simp[wT,an,iR,AW,fC,V8,hG,Rl,ex,ey,pa,eI,x0,fj]))
      exact⟨c+1,by omega,by omega,Wk.own [0] [] (by simp) (by simp) (by simp[wT]) (by simp) (by simp)⟩
   ·obtain rfl:c=w.ae.length:=by omega
    (refine TW.go ?_;simp[wT,ky];repeat' first|intro hc|refine aa.mk ?_|refine aI ?_|refine af ?_ ?_)
    exact⟨a+1,by omega,by omega,Wk.own [0] [] (by simp) (by simp) (by simp[wT]) (by simp) (by simp)⟩
  ·have ov:¬(a:Int)+1<((cr (gAt w.ae k)).length:Int):=by omega
   generalize hL:cr (gAt w.ae k)=L at*;(refine TW.go ?_;simp[wT,an,aE,hG,hL,ov];repeat' first|intro hc|refine aa.mk ?_|refine aI ?_|refine af ?_ ?_)
   exact⟨k+1,by omega,by omega,Wk.own [0] [] (by simp) (by simp) (by simp[wT]) (by simp) (by simp)⟩
 ·obtain rfl:k=w.ae.length:=by omega
  (refine TW.go ?_;simp[wT];repeat' first|intro hc|refine aa.mk ?_|refine aI ?_|refine af ?_ ?_)
  exact oW [] []
end Go.Proofs.YtabjbdnokpjipaaGreat.T
