/-
What is proved: what the reference's look at a message does to trees, whatever the run ('l51Message_T'): it reckons Booleans. Conditions: lengths, and that the places looked at are there.
-/
import Derived.Test.YtlhohdjniaebbaaGreatRy45
set_option linter.unusedVariables false
set_option linter.unusedSimpArgs false
namespace Go.Proofs.YtlhohdjniaebbaaGreat.T
open Go Go.RowKit
set_option maxRecDepth 100000
set_option maxHeartbeats 4000000
variable {E:List PanicEntry→World→Prop}
theorem BH (w:az)(k:Nat)(h:oc w)(cO:pe w)(xR:w.rounds.length=w.an.length)(hle:∀r∈w.rounds,pd r 4294967296)(hk:k<w.an.length)(xP:w.an.length≤12):TC Tw.prog E 47 [gW w,gI .i64 (k:Nat)] 0 [] (gB (iM w k)) []:=by
 have k0:(0:Int)≤(k:Nat):=by omega
 have k1:((k:Nat):Int)<w.an.length:=by omega
 have he:=dK k0 k1;have hR:=Av xR k0 k1;have Kw:=hle _ (List.mem_of_getElem? hR);rw[show((k:Nat):Int).toNat=k by omega]at he hR
 obtain⟨hr,h5⟩:=vc cO k0 k1;have X0:=h.g5;have tw:=uY (E:=E) (bT w (k:Nat)) Kw;have yw:∀t s:Int,TC Tw.prog E 91 [gW w,gI .i64 (k:Nat),uV (t,s)] 0 [] (gB (e_ w (k:Nat) t s)) []:=fun t s=>xq w (k:Nat) t s h k0 k1 hr
 have Rt:∀t s:Int,TC Tw.prog E 93 [gW w,gI .i64 (k:Nat),uV (t,s)] 0 [] (gB (nD w (k:Nat) t s)) []:=fun t s=>xr w (k:Nat) t s h k0 k1 hr h5
 have hHs:∀g:Nat,TC Tw.prog E 92 [gR (bu (setAt w (k:Nat))),gI .i64 (g:Nat)] 0 [] (gB (bX (setAt w (k:Nat)) (g:Nat))) []:=fun g=>nX (E:=E) (setAt w (k:Nat)) (g:Nat)
 have abQ:∀g:Nat,my w k g=(!cl (aB w.ai g) (k:Nat)||(bX (setAt w (k:Nat)) (g:Nat)&&(!(aU (aB w.ai g) (k:Nat)).f||nD w (k:Nat) (aU (aB w.ai g) (k:Nat)).t (aU (aB w.ai g) (k:Nat)).g))):=fun g=>rfl
 unfold iM;generalize setAt w (k:Nat)=S at*;generalize bT w (k:Nat)=r at*;obtain⟨rm,j5,aN⟩:=r;simp only at tw Kw⊢
 by_cases b2:ef ⟨rm,j5,aN⟩=true
 rotate_left
 ·rw[Bool.not_eq_true]at b2
  rw[b2]at tw⊢;simp only[Bool.false_and];refine tE Tryz.f47 Tryz.ntmps47 (by rw[Tryz.results47]) ?_
  (refine TW.go ?_;simp[wT,aX,k1,he,hR];repeat' first|intro hc|refine aa.mk ?_|refine aI ?_|refine af ?_ ?_|(refine cP ?_;refine⟨_,tw,?_⟩;simp[wT,aX,k1,he,hR]))
  exact oW [] []
 rw[b2]at tw⊢;rw[Bool.true_and];by_cases b3:rm=(k:Nat)
 rotate_left
 ·rw[decide_eq_false b3]
  simp only[Bool.false_and];refine tE Tryz.f47 Tryz.ntmps47 (by rw[Tryz.results47]) ?_
  (refine TW.go ?_;simp[wT,aX,k1,he,hR,b3];repeat' first|intro hc|refine aa.mk ?_|refine aI ?_|refine af ?_ ?_|(refine cP ?_;refine⟨_,tw,?_⟩;simp[wT,aX,k1,he,hR,b3]))
  exact oW [] []
 subst b3;rw[decide_eq_true rfl,Bool.true_and];by_cases b4:j5.length=S.length
 rotate_left
 ·have VH:¬(j5.length:Int)=(S.length:Int):=by omega
  rw[decide_eq_false (show¬j5=S from fun e=>b4 (by rw[e]))]
  simp only[Bool.false_and];refine tE Tryz.f47 Tryz.ntmps47 (by rw[Tryz.results47]) ?_
  (refine TW.go ?_;simp[wT,aX,k1,he,hR,VH];repeat' first|intro hc|refine aa.mk ?_|refine aI ?_|refine af ?_ ?_|(refine cP ?_;refine⟨_,tw,?_⟩;simp[wT,aX,k1,he,hR,VH]))
  exact oW [] []
 have tx:(j5.length:Int)=(S.length:Int):=by omega
 have Vs:aN.length≤maxLen:=by have:=Kw.2;simp only at this;simp only[maxLen];omega
 have Sc:S.length≤maxLen:=by simp only[maxLen];omega
 refine tE Tryz.f47 Tryz.ntmps47 (by rw[Tryz.results47]) ?_
 (refine TW.go ?_;simp[wT,aX,k1,he,hR,tx];repeat' first|intro hc|refine aa.mk ?_|refine aI ?_|refine af ?_ ?_|(refine cP ?_;refine⟨_,tw,?_⟩;simp[wT,aX,k1,he,hR,tx]))
 refine tL (fun(j:Nat)=>⟨[(1,gI .i64 (k:Nat)),(2,.s (.ptr 0 0)),(5,.s (.ptr 1 0)),(6,gI .i64 (j:Nat))],[(0,.box ((wT w).map .r)),(1,.box ((aX ⟨(k:Nat),j5,aN⟩).map .r))],2⟩) (fun j=>j≤S.length∧∀i,i<j→j5[i]?=S[i]?) (fun j=>S.length-j) 0 ⟨by omega,fun i hi=>by omega⟩ (Wk.own [0,1] [] (by simp) (by simp) (by simp[wT,aX]) (by simp) (by simp)) fun j hj=>?_
 obtain⟨hj,hf⟩:=hj;by_cases rz:j<S.length
 ·have VJ:S[j]?=some S[j]:=List.getElem?_eq_getElem rz
  have abR:j<j5.length:=by omega
  have VK:j5[j]?=some j5[j]:=List.getElem?_eq_getElem abR
  have hU:(j:Int)<(S.length:Int):=by omega
  have fu:=wrap_add rz Sc;by_cases hq:j5[j]=S[j]
  ·have hnx:j5[j]?=S[j]?:=by rw[VK,VJ,hq]
   generalize S[j]=a at*;generalize j5[j]=b at*;subst hq;(refine TW.go ?_;simp[wT,aX,k1,he,hR,tx,VJ,VK,hU,fu];repeat' first|intro hc|refine aa.mk ?_|refine aI ?_|refine af ?_ ?_)
   all_goals exact⟨j+1,⟨by omega,fun i hi=>by
    rcases Nat.lt_succ_iff_lt_or_eq.1 hi with hi|rfl
    ·exact hf i hi
    ·exact hnx⟩,by omega,Wk.own [0,1] [] (by simp) (by simp) (by simp[wT,aX]) (by simp) (by simp)⟩
  ·rw[decide_eq_false (show¬j5=S from fun e=>hq (by simp only[e])),Bool.false_and,Bool.false_and]
   generalize S[j]=a at*;generalize j5[j]=b at*;(refine TW.go ?_;simp[wT,aX,k1,he,hR,tx,VJ,VK,hU,fu,hq];repeat' first|intro hc|refine aa.mk ?_|refine aI ?_|refine af ?_ ?_)
   all_goals exact oW [] []
 obtain rfl:j=S.length:=by omega
 obtain rfl:j5=S:=List.ext_getElem? fun i=>by
  by_cases hi:i<S.length
  ·exact hf i hi
  ·rw[List.getElem?_eq_none (by omega),List.getElem?_eq_none (by omega)]
 rw[decide_eq_true rfl,Bool.true_and];clear hf hj rz b4;(refine TW.go ?_;simp[wT,aX,k1,he,hR];repeat' first|intro hc|refine aa.mk ?_|refine aI ?_|refine af ?_ ?_)
 refine tL (fun(j:Nat)=>⟨[(1,gI .i64 (k:Nat)),(2,.s (.ptr 0 0)),(5,.s (.ptr 1 0)),(7,gI .i64 (j:Nat))],[(0,.box ((wT w).map .r)),(1,.box ((aX ⟨(k:Nat),j5,aN⟩).map .r))],2⟩) (fun j=>j≤aN.length∧∀i,i<j→∀x,aN[i]?=some x→e_ w (k:Nat) x.1 x.2=true) (fun j=>aN.length-j) 0 ⟨by omega,fun i hi=>by omega⟩ (Wk.own [0,1] [] (by simp) (by simp) (by simp[wT,aX]) (by simp) (by simp)) fun j hj=>?_
 obtain⟨hj,hg⟩:=hj;by_cases rz:j<aN.length
 ·have mD:aN[j]?=some aN[j]:=List.getElem?_eq_getElem rz
  have hU:(j:Int)<(aN.length:Int):=by omega
  have fu:=wrap_add rz Vs;have cK:=List.getElem_mem rz;have E_:=yw aN[j].1 aN[j].2;generalize hs:aN[j]=s at*
  cases hb:e_ w (k:Nat) s.1 s.2
  ·rw[hb]at E_
   rw[nc (f:=fun(s:Int×Int)=>e_ w (k:Nat) s.1 s.2) cK hb,Bool.false_and]
   (refine TW.go ?_;simp[wT,aX,gE,mD,hU,fu];repeat' first|intro hc|refine aa.mk ?_|refine aI ?_|refine af ?_ ?_|(refine cP ?_;refine⟨_,E_,?_⟩;simp[wT,aX,gE,mD,hU,fu]))
   exact oW [] []
  ·rw[hb]at E_
   (refine TW.go ?_;simp[wT,aX,gE,mD,hU,fu];repeat' first|intro hc|refine aa.mk ?_|refine aI ?_|refine af ?_ ?_|(refine cP ?_;refine⟨_,E_,?_⟩;simp[wT,aX,gE,mD,hU,fu]))
   exact⟨j+1,⟨by omega,fun i hi x hx=>by
    rcases Nat.lt_succ_iff_lt_or_eq.1 hi with hi|rfl
    ·exact hg i hi x hx
    ·rw[mD]at hx;cases hx;exact hb⟩,by omega,Wk.own [0,1] [] (by simp) (by simp) (by simp[wT,aX]) (by simp) (by simp)⟩
 obtain rfl:j=aN.length:=by omega
 rw[kE (f:=fun(s:Int×Int)=>e_ w (k:Nat) s.1 s.2) hg,Bool.true_and]
 clear hg hj rz;(refine TW.go ?_;simp[wT,aX];repeat' first|intro hc|refine aa.mk ?_|refine aI ?_|refine af ?_ ?_)
 refine tL (fun(g:Nat)=>⟨[(1,gI .i64 (k:Nat)),(2,.s (.ptr 0 0)),(8,gI .i64 (g:Nat))],[(0,.box ((wT w).map .r))],1⟩) (fun g=>g≤5∧∀i,i<g→my w k i=true) (fun g=>5-g) 0 ⟨by omega,fun i hi=>by omega⟩ (Wk.own [0] [] (by simp) (by simp) (by simp[wT]) (by simp) (by simp)) fun g hg=>?_
 obtain⟨hg,hf⟩:=hg;by_cases hlg:g<5
 ·have hG:=jZ (gs:=w.ai) (i:=g) (by omega)
  have mz:(g:Int)<5:=by omega
  have BI:=wrap_add hlg (by simp only[maxLen];omega)
  have hC:=gU (E:=E) (aB w.ai g) (k:Nat);have hH:=hHs g;have hF:=Rt (aU (aB w.ai g) (k:Nat)).t (aU (aB w.ai g) (k:Nat)).g;have hd:=abQ g;have dB:my w k g=false→bR 5 (my w k)=false:=fun h=>bH hlg h
  have step:my w k g=true→∀i,i<g+1→my w k i=true:=fun hb i hi=>by
   rcases Nat.lt_succ_iff_lt_or_eq.1 hi with hi|rfl
   ·exact hf i hi
   ·exact hb
  generalize my w k g=F at*;generalize aB w.ai g=G at*;generalize aU G (k:Nat)=e at*;generalize nD w (k:Nat) e.t e.g=d at*;generalize bX j5 (g:Nat)=c at*
  cases hb:cl G (k:Nat)
  ·rw[hb]at hC hd
   (refine TW.go ?_;simp[wT,aF,au,he,k1,mz,BI,hG];repeat' first|intro hc|refine aa.mk ?_|refine aI ?_|refine af ?_ ?_|(refine cP ?_;refine⟨_,hC,?_⟩;simp[wT,aF,au,he,k1,mz,BI,hG]))
   exact⟨g+1,⟨by omega,step (by rw[hd];rfl)⟩,by omega,Wk.own [0] [] (by simp) (by simp) (by simp[wT]) (by simp) (by simp)⟩
  rw[hb]at hC hd
  cases c
  ·rw[dB (by rw[hd];rfl)]
   (refine TW.go ?_;simp[wT,aF,au,he,k1,mz,BI,hG];repeat' first|intro hc|refine aa.mk ?_|refine aI ?_|refine af ?_ ?_|(refine cP ?_;(first|refine⟨_,hC,?_⟩|refine⟨_,hH,?_⟩);simp[wT,aF,au,he,k1,mz,BI,hG]))
   exact oW [] []
  cases ik:e.f
  ·rw[ik]at hd
   (refine TW.go ?_;simp[wT,aF,au,he,k1,mz,BI,hG,ik];repeat' first|intro hc|refine aa.mk ?_|refine aI ?_|refine af ?_ ?_|(refine cP ?_;(first|refine⟨_,hC,?_⟩|refine⟨_,hH,?_⟩);simp[wT,aF,au,he,k1,mz,BI,hG,ik]))
   exact⟨g+1,⟨by omega,step (by rw[hd];rfl)⟩,by omega,Wk.own [0] [] (by simp) (by simp) (by simp[wT]) (by simp) (by simp)⟩
  rw[ik]at hd
  cases d
  ·rw[dB (by rw[hd];rfl)]
   (refine TW.go ?_;simp[wT,aF,au,he,k1,mz,BI,hG,ik];repeat' first|intro hc|refine aa.mk ?_|refine aI ?_|refine af ?_ ?_|(refine cP ?_;(first|refine⟨_,hC,?_⟩|refine⟨_,hH,?_⟩|refine⟨_,hF,?_⟩);simp[wT,aF,au,he,k1,mz,BI,hG,ik]))
   exact oW [] []
  ·(refine TW.go ?_;simp[wT,aF,au,he,k1,mz,BI,hG,ik];repeat' first|intro hc|refine aa.mk ?_|refine aI ?_|refine af ?_ ?_|(refine cP ?_;(first|refine⟨_,hC,?_⟩|refine⟨_,hH,?_⟩|refine⟨_,hF,?_⟩);simp[wT,aF,au,he,k1,mz,BI,hG,ik]))
   exact⟨g+1,⟨by omega,step (by rw[hd];rfl)⟩,by omega,Wk.own [0] [] (by simp) (by simp) (by simp[wT]) (by simp) (by simp)⟩
 obtain rfl:g=5:=by omega
 rw[bw hf];(refine TW.go ?_;simp;repeat' first|intro hc|refine aa.mk ?_|refine aI ?_|refine af ?_ ?_)
 exact oW [] []
end Go.Proofs.YtlhohdjniaebbaaGreat.T
