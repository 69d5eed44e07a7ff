/-
What is proved: the law FnWorldCalm over trees: it answers true, or escapes. No condition but that the code is bytes.
-/
import Derived.Test.YtabjbdnokpjipaaGreatRw54
set_option linter.unusedVariables false
set_option linter.unusedSimpArgs false
namespace Go.Proofs.YtabjbdnokpjipaaGreat.T
open Go Go.RowKit
set_option maxRecDepth 100000
set_option maxHeartbeats 4000000
theorem BE (bs:List Int)(hb:∀b∈bs,0≤b∧b≤255):TC Tw.prog bq 9 [gR (j5 bs)] 0 [] (gB true) []:=by
 have hD:=jz (E:=bq) (bs:=bs) ⟨fun b h=>hb b (List.mem_of_mem_take h),by simp;omega⟩
 generalize jV (pk (bs.take 2000))=es at*;refine tE Tryz.f9 Tryz.ntmps9 (by rw[Tryz.results9]) ?_
 by_cases hl:1048576<bs.length
 ·have bz:(1048576:Int)<(bs.length:Int):=by omega
  (refine TW.go ?_;simp[bz];repeat' first|intro hc|refine aa.mk ?_|refine aI ?_|refine af ?_ ?_)
  exact oW [] []
 have bz:¬(1048576:Int)<(bs.length:Int):=by omega
 by_cases bh:80<es.length
 ·have hP:=fW (E:=bq) es bh
  have hQ:=dI (E:=bq) es bh;(refine TW.go ?_;simp[bz];repeat' first|intro hc|refine aa.mk ?_|refine aI ?_|refine af ?_ ?_|(refine cP ?_;(first|refine⟨_,hD,?_⟩|refine⟨_,hP,?_⟩|refine⟨_,hQ,?_⟩|refine⟨_,fX,?_⟩);simp[bz]))
  exact oW [] []
 have bh:es.length≤80:=by omega
 have hP:=iE es bh;have hQ:=dV (E:=bq) es bh;have R:=aeP bh;generalize eJ es=w at*;have hS:=R.same (E:=bq);have zC:=R.tV.g5;have hlen:w.ae.length≤maxLen:=by simp only[maxLen];omega
 have hC:=sK w R.ok (R.tV.mono (by omega))
 have K:=Gz R.ok R.ck (by omega)
 have Jd:=zS R.tV (k:=w.aj.length);have vW:=R.ok.l_;have hx:dG w w.aj.length=mj w:=rfl
 rw[hx]at Jd;have Jd:cw 2000 (mj w):=Jd.mono (by omega)
 have hT:=lB (mj w) K.ok Jd;have ZL:=fun g hg=>DV K (g:=g) hg
 have Gv:=fun g hg=>VW K (g:=g) hg
 have Ba:=fun g hg=>BC (E:=bq) (mj w) K.ok Jd (g:=g) hg (ZL g hg).1
 have adX:=K.aX;have x12:=K.ok.l_;have x5:=Jd.g5;clear hx;generalize mj w=x at*;have adY:x.ae.length≤maxLen:=by simp only[maxLen];omega
 have acz:x.aj.length≤maxLen:=by simp only[maxLen];omega
 (refine TW.go ?_;simp[bz,wT];repeat' first|intro hc|refine aa.mk ?_|refine aI ?_|refine af ?_ ?_|(refine cP ?_;(first|refine⟨_,hD,?_⟩|refine⟨_,hP,?_⟩|refine⟨_,hQ,?_⟩|refine⟨_,hS,?_⟩|refine⟨_,hC,?_⟩|refine⟨_,hT,?_⟩);simp[bz,wT]))
 refine tL (fun(k:Nat)=>⟨[(8,.s (.ptr 0 0)),(9,gR (ny x)),(10,gI .i64 (k:Nat))],[(0,.box ((wT x).map .r))],1⟩) (fun k=>k≤x.ae.length) (fun k=>x.ae.length-k) 0 (by omega) (Wk.own [2] [] (by simp) (by simp) (by simp[wT]) (by simp) (by simp)) fun k hk=>?_
 by_cases ak:k<x.ae.length
 ·have an:(k:Int)<(x.ae.length:Int):=by omega
  have aE:=wrap_add ak adY;have hG:=cu (gs:=x.ae) (i:=k) ak;have V9:=nZ (w:=x) ak;have hB:=Ba k (by omega)
  have hd:=(ZL k (by omega)).2
  have hc:=Gv k (by omega)
  generalize hL:cr (gAt x.ae k)=L at*;generalize gAt x.ae k=G at*;(refine TW.go ?_;simp[wT,an];repeat' first|intro hc|refine aa.mk ?_|refine aI ?_|refine af ?_ ?_)
  refine tL (fun(j:Nat)=>⟨[(8,.s (.ptr 0 0)),(9,gR (ny x)),(10,gI .i64 (k:Nat)),(11,gI .i64 (o5 x.aj (k:Nat) j:Nat)),(12,gI .i64 (j:Nat))],[(0,.box ((wT x).map .r))],1⟩) (fun j=>j≤x.aj.length∧o5 x.aj (k:Nat) j≤j) (fun j=>x.aj.length-j) 0 ⟨by omega,by simp[o5]⟩ (Wk.own [0] [] (by simp) (by simp;rfl) (by simp[wT]) (by simp) (by simp)) fun j hj=>?_
  obtain⟨hj,wV⟩:=hj;by_cases yO:j<x.aj.length
  ·have eZ:(j:Int)<(x.aj.length:Int):=by omega
   have cU:=wrap_add yO acz;have bh:=iq (w:=x) (m:=(j:Nat)) (by omega) (by omega)
   rw[show((j:Nat):Int).toNat=j by omega]at bh
   have h1:=mo (E:=bq) (setAt x (j:Nat)) (k:Nat);have h2:=mo (E:=bq) L (j:Nat);have ky:IntKind.i64.wrap ((o5 x.aj (k:Nat) j:Int)+1)=(o5 x.aj (k:Nat) j:Int)+1:=aQ (by omega) (by omega)
   have aZ:x.aj.getD j []=setAt x (j:Nat):=by rw[setAt];rfl
   have lF:o5 x.aj (k:Nat) (j+1)=if cb (setAt x (j:Nat)) (k:Nat)=true then o5 x.aj (k:Nat) j+1 else o5 x.aj (k:Nat) j:=by rw[o5,aZ]
   have heq:cb L (j:Nat)=cb (setAt x (j:Nat)) (k:Nat):=by
    rw[Bool.eq_iff_iff,cY,cY,hd];exact⟨fun h=>h.2.2,fun h=>⟨by omega,by omega,h⟩⟩
   rw[heq]at h2;generalize setAt x (j:Nat)=S at*
   cases hb:cb S (k:Nat)
   ·rw[hb]at h1 h2 lF
    rw[if_neg (by simp)]at lF
    (refine TW.go ?_;simp[wT,an,eZ,cU,bh,V9];repeat' first|intro hc|refine aa.mk ?_|refine aI ?_|refine af ?_ ?_|(refine cP ?_;(first|refine⟨_,h1,?_⟩|refine⟨_,h2,?_⟩);simp[wT,an,eZ,cU,bh,V9]))
    exact⟨j+1,⟨by omega,by omega⟩,by omega,Wk.own [0] [] (by simp) (by simp;omega) (by simp[wT]) (by simp) (by simp)⟩
   ·rw[hb]at h1 h2 lF
    rw[if_pos rfl]at lF;(refine TW.go ?_;simp[wT,an,eZ,cU,ky,bh,V9];repeat' first|intro hc|refine aa.mk ?_|refine aI ?_|refine af ?_ ?_|(refine cP ?_;(first|refine⟨_,h1,?_⟩|refine⟨_,h2,?_⟩);simp[wT,an,eZ,cU,ky,bh,V9]))
    exact⟨j+1,⟨by omega,by omega⟩,by omega,Wk.own [0] [] (by simp) (by simp;omega) (by simp[wT]) (by simp) (by simp)⟩
  ·obtain rfl:j=x.aj.length:=by omega
   rw[hc];(refine TW.go ?_;simp[wT,au,an,aE,hG,V9];repeat' first|intro hc|refine aa.mk ?_|refine aI ?_|refine af ?_ ?_|(refine cP ?_;refine⟨_,hB,?_⟩;simp[wT,au,an,aE,hG,V9]))
   exact⟨k+1,by omega,by omega,Wk.own [0] [] (by simp) (by simp) (by simp[wT]) (by simp) (by simp)⟩
 ·obtain rfl:k=x.ae.length:=by omega
  (refine TW.go ?_;simp[wT,adX];repeat' first|intro hc|refine aa.mk ?_|refine aI ?_|refine af ?_ ?_)
  exact oW [] []
end Go.Proofs.YtabjbdnokpjipaaGreat.T
