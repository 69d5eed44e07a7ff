/-
What is proved: the law FnWorldStamps over trees: it answers true, or escapes. No condition but that the code is bytes.
-/
import Derived.Test.YtabjbdnokpjipaaGreatRw48
set_option linter.unusedVariables false
set_option linter.unusedSimpArgs false
namespace Go.Proofs.YtabjbdnokpjipaaGreat.T
open Go Go.RowKit
set_option maxRecDepth 100000
set_option maxHeartbeats 4000000
theorem yQ (bs:List Int)(hb:∀b∈bs,0≤b∧b≤255):TC Tw.prog bq 4 [gR (j5 bs)] 0 [] (gB true) []:=by
 have hD:=jz (E:=bq) (bs:=bs) ⟨fun b h=>hb b (List.mem_of_mem_take h),by simp;omega⟩
 generalize jV (pk (bs.take 2000))=es at*;refine tE Tryz.f4 Tryz.ntmps4 (by rw[Tryz.results4]) ?_
 by_cases hl:1048576<bs.length
 ·have bz:(1048576:Int)<(bs.length:Int):=by omega
  (refine TW.go ?_;simp[bz];repeat' first|intro hc|refine aa.mk ?_|refine aI ?_|refine af ?_ ?_)
  exact oW [] []
 have bz:¬(1048576:Int)<(bs.length:Int):=by omega
 by_cases bh:80<es.length
 ·have hP:=fW (E:=bq) es bh
  have hQ:=dI (E:=bq) es bh;(refine TW.go ?_;simp[bz];repeat' first|intro hc|refine aa.mk ?_|refine aI ?_|refine af ?_ ?_|(refine cP ?_;(first|refine⟨_,hD,?_⟩|refine⟨_,hP,?_⟩|refine⟨_,hQ,?_⟩|refine⟨_,fX,?_⟩);simp[bz]))
  exact oW [] []
 have bh:es.length≤80:=by omega
 have hP:=iE es bh;have hQ:=dV (E:=bq) es bh;have R:=aeP bh;generalize eJ es=w at*;have hS:=R.same (E:=bq);have zC:=R.tV.g5;have hlen:w.ae.length≤maxLen:=by simp only[maxLen];omega
 have vW:=R.ok.l_;have nu:w.aj.length≤maxLen:=by simp only[maxLen];omega
 (refine TW.go ?_;simp[bz,wT];repeat' first|intro hc|refine aa.mk ?_|refine aI ?_|refine af ?_ ?_|(refine cP ?_;(first|refine⟨_,hD,?_⟩|refine⟨_,hP,?_⟩|refine⟨_,hQ,?_⟩|refine⟨_,hS,?_⟩);simp[bz,wT]))
 refine tL (fun(k:Nat)=>⟨[(4,.s (.ptr 0 0)),(8,gI .i64 (k:Nat))],[(0,.box ((wT w).map .r))],1⟩) (fun k=>k≤w.ae.length) (fun k=>w.ae.length-k) 0 (by omega) (Wk.own [0] [] (by simp) (by simp) (by simp[wT]) (by simp) (by simp)) fun k hk=>?_
 by_cases ak:k<w.ae.length
 ·have an:(k:Int)<(w.ae.length:Int):=by omega
  have aE:=wrap_add ak hlen;have hG:=cu (gs:=w.ae) (i:=k) ak;(refine TW.go ?_;simp[wT,an];repeat' first|intro hc|refine aa.mk ?_|refine aI ?_|refine af ?_ ?_)
  refine tL (fun(j:Nat)=>⟨[(4,.s (.ptr 0 0)),(8,gI .i64 (k:Nat)),(9,gI .i64 (j:Nat))],[(0,.box ((wT w).map .r))],1⟩) (fun j=>j≤w.ae.length) (fun j=>w.ae.length-j) 0 (by omega) (Wk.own [0] [] (by simp) (by simp) (by simp[wT]) (by simp) (by simp)) fun j hj=>?_
  by_cases yO:j<w.ae.length
  ·have eZ:(j:Int)<(w.ae.length:Int):=by omega
   have cU:=wrap_add yO hlen;have hH:=cu (gs:=w.ae) (i:=j) yO;(refine TW.go ?_;simp[wT,eZ];repeat' first|intro hc|refine aa.mk ?_|refine aI ?_|refine af ?_ ?_)
   refine tL (fun(a:Nat)=>⟨[(4,.s (.ptr 0 0)),(8,gI .i64 (k:Nat)),(9,gI .i64 (j:Nat)),(10,gI .i64 (a:Nat))],[(0,.box ((wT w).map .r))],1⟩) (fun a=>a≤w.aj.length) (fun a=>w.aj.length-a) 0 (by omega) (Wk.own [0] [] (by simp) (by simp) (by simp[wT]) (by simp) (by simp)) fun a ha=>?_
   by_cases Hh:a<w.aj.length
   ·have iR:(a:Int)<(w.aj.length:Int):=by omega
    have ky:=wrap_add Hh nu;(refine TW.go ?_;simp[wT,iR];repeat' first|intro hc|refine aa.mk ?_|refine aI ?_|refine af ?_ ?_)
    refine tL (fun(b:Nat)=>⟨[(4,.s (.ptr 0 0)),(8,gI .i64 (k:Nat)),(9,gI .i64 (j:Nat)),(10,gI .i64 (a:Nat)),(11,gI .i64 (b:Nat))],[(0,.box ((wT w).map .r))],1⟩) (fun b=>b≤w.aj.length) (fun b=>w.aj.length-b) 0 (by omega) (Wk.own [0] [] (by simp) (by simp) (by simp[wT]) (by simp) (by simp)) fun b hb=>?_
    by_cases hlb:b<w.aj.length
    ·have na:(b:Int)<(w.aj.length:Int):=by omega
     have fC:=wrap_add hlb nu;have hC:=uJ (E:=bq) R.ok R.s2 (g:=(k:Nat)) (by omega) (by omega) (a:Nat)
     have yR:=uJ (E:=bq) R.ok R.s2 (g:=(j:Nat)) (by omega) (by omega) (b:Nat)
     rw[show((k:Nat):Int).toNat=k by omega]at hC
     rw[show((j:Nat):Int).toNat=j by omega]at yR
     have GC:∀x y,aU (gAt w.ae k) (a:Nat)=some x→aU (gAt w.ae j) (b:Nat)=some y→x.f=true→y.f=true→((x.t=y.t∧x.g=y.g)↔((a:Nat):Int)=(b:Nat)):=fun x y hx hy fx fy=>yL R.ok.gs R.ok.set (by omega) (by omega) hx hy fx fy
     generalize gAt w.ae k=G at*;generalize gAt w.ae j=H at*
     cases hx:aU G (a:Nat)with
     |none=>
      rw[cc,hx]at hC;generalize aV G (a:Nat)=x at*;generalize cc H (b:Nat)=c at*;generalize aV H (b:Nat)=y at*;(refine TW.go ?_;simp[wT,au,aG,an,eZ,iR,na,fC,hG,hH];repeat' first|intro hc|refine aa.mk ?_|refine aI ?_|refine af ?_ ?_|(refine cP ?_;(first|refine⟨_,hC,?_⟩|refine⟨_,yR,?_⟩);simp[wT,au,aG,an,eZ,iR,na,fC,hG,hH]))
      all_goals exact⟨b+1,by omega,by omega,Wk.own [0] [] (by simp) (by simp) (by simp[wT]) (by simp) (by simp)⟩
     |some x=>
      rw[cc,aV,hx]at hC
      cases hy:aU H (b:Nat)with
      |none=>
       rw[cc,hy]at yR;generalize aV H (b:Nat)=y at*;(refine TW.go ?_;simp[wT,au,aG,an,eZ,iR,na,fC,hG,hH];repeat' first|intro hc|refine aa.mk ?_|refine aI ?_|refine af ?_ ?_|(refine cP ?_;(first|refine⟨_,hC,?_⟩|refine⟨_,yR,?_⟩);simp[wT,au,aG,an,eZ,iR,na,fC,hG,hH]))
       all_goals exact⟨b+1,by omega,by omega,Wk.own [0] [] (by simp) (by simp) (by simp[wT]) (by simp) (by simp)⟩
      |some y=>
       rw[cc,aV,hy]at yR;simp only[Option.getD_some,Option.isSome_some]at hC yR;have GC:=GC x y hx hy
       cases fx:x.f
       ·(refine TW.go ?_;simp[wT,au,aG,an,eZ,iR,na,fC,hG,hH,fx];repeat' first|intro hc|refine aa.mk ?_|refine aI ?_|refine af ?_ ?_|(refine cP ?_;(first|refine⟨_,hC,?_⟩|refine⟨_,yR,?_⟩);simp[wT,au,aG,an,eZ,iR,na,fC,hG,hH,fx]))
        all_goals exact⟨b+1,by omega,by omega,Wk.own [0] [] (by simp) (by simp) (by simp[wT]) (by simp) (by simp)⟩
       ·cases fy:y.f
        ·(refine TW.go ?_;simp[wT,au,aG,an,eZ,iR,na,fC,hG,hH,fx,fy];repeat' first|intro hc|refine aa.mk ?_|refine aI ?_|refine af ?_ ?_|(refine cP ?_;(first|refine⟨_,hC,?_⟩|refine⟨_,yR,?_⟩);simp[wT,au,aG,an,eZ,iR,na,fC,hG,hH,fx,fy]))
         all_goals exact⟨b+1,by omega,by omega,Wk.own [0] [] (by simp) (by simp) (by simp[wT]) (by simp) (by simp)⟩
        ·have GC:=GC fx fy
         by_cases eT:((a:Nat):Int)=(b:Nat)
         ·obtain⟨e1,e2⟩:=GC.2 eT
          obtain rfl:a=b:=by omega
          (refine TW.go ?_;simp[wT,au,aG,an,eZ,iR,na,fC,hG,hH,fx,fy,e1,e2];repeat' first|intro hc|refine aa.mk ?_|refine aI ?_|refine af ?_ ?_|(refine cP ?_;(first|refine⟨_,hC,?_⟩|refine⟨_,yR,?_⟩);simp[wT,au,aG,an,eZ,iR,na,fC,hG,hH,fx,fy,e1,e2]))
          all_goals exact⟨a+1,by omega,by omega,Wk.own [0] [] (by simp) (by simp) (by simp[wT]) (by simp) (by simp)⟩
         ·have cf:¬(x.t=y.t∧x.g=y.g):=fun h=>eT (GC.1 h)
          by_cases e1:x.t=y.t
          ·have e2:¬x.g=y.g:=fun h=>cf ⟨e1,h⟩
           (refine TW.go ?_;simp[wT,au,aG,an,eZ,iR,na,fC,hG,hH,fx,fy,eT,e1,e2];repeat' first|intro hc|refine aa.mk ?_|refine aI ?_|refine af ?_ ?_|(refine cP ?_;(first|refine⟨_,hC,?_⟩|refine⟨_,yR,?_⟩);simp[wT,au,aG,an,eZ,iR,na,fC,hG,hH,fx,fy,eT,e1,e2]))
           all_goals exact⟨b+1,by omega,by omega,Wk.own [0] [] (by simp) (by simp) (by simp[wT]) (by simp) (by simp)⟩
          ·(refine TW.go ?_;simp[wT,au,aG,an,eZ,iR,na,fC,hG,hH,fx,fy,eT,e1];repeat' first|intro hc|refine aa.mk ?_|refine aI ?_|refine af ?_ ?_|(refine cP ?_;(first|refine⟨_,hC,?_⟩|refine⟨_,yR,?_⟩);simp[wT,au,aG,an,eZ,iR,na,fC,hG,hH,fx,fy,eT,e1]))
           all_goals exact⟨b+1,by omega,by omega,Wk.own [0] [] (by simp) (by simp) (by simp[wT]) (by simp) (by simp)⟩
    ·obtain rfl:b=w.aj.length:=by omega
     (refine TW.go ?_;simp[wT,ky];repeat' first|intro hc|refine aa.mk ?_|refine aI ?_|refine af ?_ ?_)
     exact⟨a+1,by omega,by omega,Wk.own [0] [] (by simp) (by simp) (by simp[wT]) (by simp) (by simp)⟩
   ·obtain rfl:a=w.aj.length:=by omega
    (refine TW.go ?_;simp[wT,cU];repeat' first|intro hc|refine aa.mk ?_|refine aI ?_|refine af ?_ ?_)
    exact⟨j+1,by omega,by omega,Wk.own [0] [] (by simp) (by simp) (by simp[wT]) (by simp) (by simp)⟩
  ·obtain rfl:j=w.ae.length:=by omega
   (refine TW.go ?_;simp[wT,aE];repeat' first|intro hc|refine aa.mk ?_|refine aI ?_|refine af ?_ ?_)
   exact⟨k+1,by omega,by omega,Wk.own [0] [] (by simp) (by simp) (by simp[wT]) (by simp) (by simp)⟩
 ·obtain rfl:k=w.ae.length:=by omega
  (refine TW.go ?_;simp[wT];repeat' first|intro hc|refine aa.mk ?_|refine aI ?_|refine af ?_ ?_)
  exact oW [] []
end Go.Proofs.YtabjbdnokpjipaaGreat.T
