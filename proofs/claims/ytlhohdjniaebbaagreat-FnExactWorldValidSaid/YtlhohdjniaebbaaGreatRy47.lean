/-
What is proved: what the reference's WorldValid does to trees, whatever the run ('specWorldValid_T'): it reckons 'svB'. Conditions: lengths.
-/
import Derived.Test.YtlhohdjniaebbaaGreatRy46
set_option linter.unusedVariables false
set_option linter.unusedSimpArgs false
namespace Go.Proofs.YtlhohdjniaebbaaGreat.T
open Go Go.RowKit
set_option maxRecDepth 100000
set_option maxHeartbeats 4000000
variable {E:List PanicEntry→World→Prop}
theorem vf (w:az)(hle:ju w.ai 4294967280)(xR:∀r∈w.rounds,pd r 4294967296):TC Tw.prog E 16 [gW w] 0 [] (gB (VI w)) []:=by
 have hL:ju w.ai 4294967296:=⟨by have:=hle.1;omega,fun g hg=>by have:=hle.2 g hg;exact⟨by have:=this.1;omega,by have:=this.2;omega⟩⟩
 have hS:=te (E:=E) w.ai hL;have hZ:=RS (E:=E) w.an;unfold VI;by_cases c0:(w.an.all cf&&decide (w.an.length≤12))=true
 rotate_left
 ·rw[Bool.not_eq_true]at c0
  rw[c0]at hZ⊢;simp only[Bool.false_and];refine tE Tryz.f16 Tryz.ntmps16 (by rw[Tryz.results16]) ?_
  (refine TW.go ?_;simp[wT];repeat' first|intro hc|refine aa.mk ?_|refine aI ?_|refine af ?_ ?_|(refine cP ?_;refine⟨_,hZ,?_⟩;simp[wT]))
  exact oW [] []
 rw[c0]at hZ⊢;rw[Bool.and_eq_true,decide_eq_true_eq]at c0;obtain⟨abS,xP⟩:=c0;rw[Bool.true_and]
 cases b1:cY w.ai
 ·rw[b1]at hS
  simp only[Bool.false_and];refine tE Tryz.f16 Tryz.ntmps16 (by rw[Tryz.results16]) ?_
  (refine TW.go ?_;simp[wT];repeat' first|intro hc|refine aa.mk ?_|refine aI ?_|refine af ?_ ?_|(refine cP ?_;(first|refine⟨_,hZ,?_⟩|refine⟨_,hS,?_⟩);simp[wT]))
  exact oW [] []
 rw[b1]at hS;rw[Bool.true_and];by_cases c2:w.rounds.length=w.an.length
 rotate_left
 ·have X1:¬(w.rounds.length:Int)=(w.an.length:Int):=by omega
  rw[decide_eq_false c2];simp only[Bool.false_and];refine tE Tryz.f16 Tryz.ntmps16 (by rw[Tryz.results16]) ?_
  (refine TW.go ?_;simp[wT,X1];repeat' first|intro hc|refine aa.mk ?_|refine aI ?_|refine af ?_ ?_|(refine cP ?_;(first|refine⟨_,hZ,?_⟩|refine⟨_,hS,?_⟩);simp[wT,X1]))
  exact oW [] []
 have E9:(w.rounds.length:Int)=(w.an.length:Int):=by omega
 rw[decide_eq_true c2,Bool.true_and];by_cases c3:w.bh.length=w.an.length
 rotate_left
 ·have X2:¬(w.bh.length:Int)=(w.an.length:Int):=by omega
  rw[decide_eq_false c3];simp only[Bool.false_and];refine tE Tryz.f16 Tryz.ntmps16 (by rw[Tryz.results16]) ?_
  (refine TW.go ?_;simp[wT,E9,X2];repeat' first|intro hc|refine aa.mk ?_|refine aI ?_|refine af ?_ ?_|(refine cP ?_;(first|refine⟨_,hZ,?_⟩|refine⟨_,hS,?_⟩);simp[wT,E9,X2]))
  exact oW [] []
 have RO:(w.bh.length:Int)=(w.an.length:Int):=by omega
 rw[decide_eq_true c3,Bool.true_and];by_cases c4:w.bC.length≤16
 rotate_left
 ·have c4n:16<(w.bC.length:Int):=by omega
  rw[decide_eq_false c4];simp only[Bool.false_and];refine tE Tryz.f16 Tryz.ntmps16 (by rw[Tryz.results16]) ?_
  (refine TW.go ?_;simp[wT,E9,RO,c4n];repeat' first|intro hc|refine aa.mk ?_|refine aI ?_|refine af ?_ ?_|(refine cP ?_;(first|refine⟨_,hZ,?_⟩|refine⟨_,hS,?_⟩);simp[wT,E9,RO,c4n]))
  exact oW [] []
 have TQ:¬16<(w.bC.length:Int):=by omega
 rw[decide_eq_true c4,Bool.true_and];have Nj:=JZ b1 hle;have X0:=Nj.g5;have cO:pe w:=fun s hs=>List.all_eq_true.1 abS s hs
 have hlen:w.an.length≤maxLen:=by simp only[maxLen];omega
 have vQ:w.bC.length≤maxLen:=by simp only[maxLen];omega
 have hM:∀k:Nat,k<w.an.length→TC Tw.prog E 47 [gW w,gI .i64 (k:Nat)] 0 [] (gB (iM w k)) []:=fun k hk=>BH w k Nj cO c2 xR hk xP
 have hP:∀p:eI,TC Tw.prog E 48 [gW w,gP p] 0 [] (gB (od w p)) []:=fun p=>E' w p Nj cO xP
 refine tE Tryz.f16 Tryz.ntmps16 (by rw[Tryz.results16]) ?_
 (refine TW.go ?_;simp[wT,E9,RO,TQ];repeat' first|intro hc|refine aa.mk ?_|refine aI ?_|refine af ?_ ?_|(refine cP ?_;(first|refine⟨_,hZ,?_⟩|refine⟨_,hS,?_⟩);simp[wT,E9,RO,TQ]))
 refine tL (fun(m:Nat)=>⟨[(1,.s (.ptr 0 0)),(3,gI .i64 (m:Nat))],[(0,.box ((wT w).map .r))],1⟩) (fun m=>w.an.length≤m∧m≤12∧∀i,w.an.length≤i→i<m→xp w i=true) (fun m=>12-m) w.an.length ⟨by omega,xP,fun i hi hj=>by omega⟩ (Wk.own [0] [] (by simp) (by simp) (by simp[wT]) (by simp) (by simp)) fun m hm=>?_
 obtain⟨hm0,hm,hf⟩:=hm;by_cases XP:m<12
 ·have abT:(m:Int)<12:=by omega
  have aG:=wrap_add XP (by simp only[maxLen];omega)
  (refine TW.go ?_;simp[abT,aG];repeat' first|intro hc|refine aa.mk ?_|refine aI ?_|refine af ?_ ?_)
  refine tL (fun(g:Nat)=>⟨[(1,.s (.ptr 0 0)),(3,gI .i64 (m:Nat)),(4,gI .i64 (g:Nat))],[(0,.box ((wT w).map .r))],1⟩) (fun g=>g≤5∧∀i,i<g→ve w m i=true) (fun g=>5-g) 0 ⟨by omega,fun i hi=>by omega⟩ (Wk.own [0] [] (by simp) (by simp) (by simp[wT]) (by simp) (by simp)) fun g hg=>?_
  obtain⟨hg,hfg⟩:=hg;by_cases hlg:g<5
  ·have mz:(g:Int)<5:=by omega
   have fu:=wrap_add hlg (by simp only[maxLen];omega)
   have hG:=jZ (gs:=w.ai) (i:=g) (by omega)
   have hC:=gU (E:=E) (aB w.ai g) (m:Nat);have hd:ve w m g= !cl (aB w.ai g) (m:Nat):=rfl
   have dB:ve w m g=false→J5 w=false:=fun h=>by
    have e1:xp w m=false:=bH hlg h
    have e2:(decide (m<w.an.length)||xp w m)=false:=by rw[e1,decide_eq_false (by omega)];rfl
    exact bH (c:=fun m=>decide (m<w.an.length)||xp w m) XP e2
   have step:ve w m g=true→∀i,i<g+1→ve w m i=true:=fun hb i hi=>by
    rcases Nat.lt_succ_iff_lt_or_eq.1 hi with hi|rfl
    ·exact hfg i hi
    ·exact hb
   generalize ve w m g=F at*;generalize aB w.ai g=G at*
   cases hb:cl G (m:Nat)
   ·rw[hb]at hC hd
    (refine TW.go ?_;simp[wT,aF,au,mz,fu,hG];repeat' first|intro hc|refine aa.mk ?_|refine aI ?_|refine af ?_ ?_|(refine cP ?_;refine⟨_,hC,?_⟩;simp[wT,aF,au,mz,fu,hG]))
    exact⟨g+1,⟨by omega,step (by rw[hd];rfl)⟩,by omega,Wk.own [0] [] (by simp) (by simp) (by simp[wT]) (by simp) (by simp)⟩
   ·rw[hb]at hC hd
    rw[dB (by rw[hd];rfl),Bool.false_and,Bool.false_and]
    (refine TW.go ?_;simp[wT,aF,au,mz,fu,hG];repeat' first|intro hc|refine aa.mk ?_|refine aI ?_|refine af ?_ ?_|(refine cP ?_;refine⟨_,hC,?_⟩;simp[wT,aF,au,mz,fu,hG]))
    exact oW [] []
  ·obtain rfl:g=5:=by omega
   have hmT:xp w m=true:=bw hfg
   (refine TW.go ?_;simp[aG];repeat' first|intro hc|refine aa.mk ?_|refine aI ?_|refine af ?_ ?_)
   exact⟨m+1,⟨by omega,by omega,fun i hi hj=>by
    rcases Nat.lt_succ_iff_lt_or_eq.1 hj with hj|rfl
    ·exact hf i hi hj
    ·exact hmT⟩,by omega,Wk.own [0] [] (by simp) (by simp) (by simp[wT]) (by simp) (by simp)⟩
 obtain rfl:m=12:=by omega
 have abU:J5 w=true:=bw fun i hi=>by
  by_cases zD:i<w.an.length
  ·rw[decide_eq_true zD];rfl
  ·rw[hf i (by omega) hi,Bool.or_true]
 rw[abU,Bool.true_and];clear hf hm XP hm0;(refine TW.go ?_;simp[wT];repeat' first|intro hc|refine aa.mk ?_|refine aI ?_|refine af ?_ ?_)
 refine tL (fun(k:Nat)=>⟨[(1,.s (.ptr 0 0)),(7,gI .i64 (k:Nat))],[(0,.box ((wT w).map .r))],1⟩) (fun k=>k≤w.an.length∧∀i,i<k→iM w i=true) (fun k=>w.an.length-k) 0 ⟨by omega,fun i hi=>by omega⟩ (Wk.own [0] [] (by simp) (by simp) (by simp[wT]) (by simp) (by simp)) fun k hk=>?_
 obtain⟨hk,hf⟩:=hk;by_cases aj:k<w.an.length
 ·have aA:(k:Int)<(w.an.length:Int):=by omega
  have aG:=wrap_add aj hlen;have hMk:=hM k aj;have dB:iM w k=false→bR w.an.length (iM w)=false:=fun h=>bH aj h
  have step:iM w k=true→∀i,i<k+1→iM w i=true:=fun hg i hi=>by
   rcases Nat.lt_succ_iff_lt_or_eq.1 hi with hi|rfl
   ·exact hf i hi
   ·exact hg
  generalize iM w k=F at*
  cases F
  ·rw[dB rfl,Bool.false_and]
   (refine TW.go ?_;simp[wT,aA,aG];repeat' first|intro hc|refine aa.mk ?_|refine aI ?_|refine af ?_ ?_|(refine cP ?_;refine⟨_,hMk,?_⟩;simp[wT,aA,aG]))
   exact oW [] []
  ·(refine TW.go ?_;simp[wT,aA,aG];repeat' first|intro hc|refine aa.mk ?_|refine aI ?_|refine af ?_ ?_|(refine cP ?_;refine⟨_,hMk,?_⟩;simp[wT,aA,aG]))
   exact⟨k+1,⟨by omega,step rfl⟩,by omega,Wk.own [0] [] (by simp) (by simp) (by simp[wT]) (by simp) (by simp)⟩
 obtain rfl:k=w.an.length:=by omega
 rw[bw hf,Bool.true_and];clear hf hk aj;(refine TW.go ?_;simp[wT];repeat' first|intro hc|refine aa.mk ?_|refine aI ?_|refine af ?_ ?_)
 refine tL (fun(k:Nat)=>⟨[(1,.s (.ptr 0 0)),(8,gI .i64 (k:Nat))],[(0,.box ((wT w).map .r))],1⟩) (fun k=>k≤w.bC.length∧∀i,i<k→∀x,w.bC[i]?=some x→od w x=true) (fun k=>w.bC.length-k) 0 ⟨by omega,fun i hi=>by omega⟩ (Wk.own [0] [] (by simp) (by simp) (by simp[wT]) (by simp) (by simp)) fun k hk=>?_
 obtain⟨hk,hf⟩:=hk;by_cases aj:k<w.bC.length
 ·have he:w.bC[k]?=some w.bC[k]:=List.getElem?_eq_getElem aj
  have aA:(k:Int)<(w.bC.length:Int):=by omega
  have aG:=wrap_add aj vQ;have X5:=hP w.bC[k];have cK:=List.getElem_mem aj;generalize w.bC[k]=p at*
  cases hb:od w p
  ·rw[hb]at X5
   rw[nc cK hb];(refine TW.go ?_;simp[wT,bP,he,aA,aG];repeat' first|intro hc|refine aa.mk ?_|refine aI ?_|refine af ?_ ?_|(refine cP ?_;refine⟨_,X5,?_⟩;simp[wT,bP,he,aA,aG]))
   exact oW [] []
  ·rw[hb]at X5
   (refine TW.go ?_;simp[wT,bP,he,aA,aG];repeat' first|intro hc|refine aa.mk ?_|refine aI ?_|refine af ?_ ?_|(refine cP ?_;refine⟨_,X5,?_⟩;simp[wT,bP,he,aA,aG]))
   exact⟨k+1,⟨by omega,fun i hi x hx=>by
    rcases Nat.lt_succ_iff_lt_or_eq.1 hi with hi|rfl
    ·exact hf i hi x hx
    ·rw[he]at hx;cases hx;exact hb⟩,by omega,Wk.own [0] [] (by simp) (by simp) (by simp[wT]) (by simp) (by simp)⟩
 ·obtain rfl:k=w.bC.length:=by omega
  rw[kE hf];(refine TW.go ?_;simp[wT];repeat' first|intro hc|refine aa.mk ?_|refine aI ?_|refine af ?_ ?_)
  exact oW [] []
theorem vg (w:az)(hle:ju w.ai 4294967280)(xR:∀r∈w.rounds,pd r 4294967296):TC Tw.prog E 16 [gW w] 0 [] (gB (Ni w)) []:=by
 rw[←aay];exact vf w hle xR
end Go.Proofs.YtlhohdjniaebbaaGreat.T
