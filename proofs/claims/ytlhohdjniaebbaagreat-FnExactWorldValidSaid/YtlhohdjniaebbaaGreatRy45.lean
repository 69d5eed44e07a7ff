/-
What is proved: what the reference's look at a run does to trees, whatever the run ('l51Stamp_T', 'l51Final_T', 'l51Packet_T'): it reckons Booleans. Conditions: lengths, and that the places looked at are there.
-/
import Derived.Test.YtlhohdjniaebbaaGreatRy44
set_option linter.unusedVariables false
set_option linter.unusedSimpArgs false
namespace Go.Proofs.YtlhohdjniaebbaaGreat.T
open Go Go.RowKit
set_option maxRecDepth 100000
set_option maxHeartbeats 4000000
variable {E:List PanicEntry→World→Prop}
theorem RS (xs:List (List Int)):TC Tw.prog E 44 [gR (iH xs)] 0 [] (gB (xs.all cf&&decide (xs.length≤12))) []:=by
 refine tE Tryz.f44 Tryz.ntmps44 (by rw[Tryz.results44]) ?_
 refine TW.len 0 rfl fun hlen=>?_;simp only[List.length_map]at hlen;(refine TW.go ?_;simp;repeat' first|intro hc|refine aa.mk ?_|refine aI ?_|refine af ?_ ?_)
 refine tL (fun(k:Nat)=>⟨[(0,gR (iH xs)),(3,gI .i64 (k:Nat))],[],0⟩) (fun k=>k≤xs.length∧∀i,i<k→∀x,xs[i]?=some x→cf x=true) (fun k=>xs.length-k) 0 ⟨by omega,fun i hi=>by omega⟩ (kS) fun k hk=>?_
 obtain⟨hk,hf⟩:=hk;by_cases aj:k<xs.length
 ·have he:xs[k]?=some xs[k]:=List.getElem?_eq_getElem aj
  have aA:(k:Int)<(xs.length:Int):=by omega
  have aG:=wrap_add aj hlen;have cK:=List.getElem_mem aj;generalize xs[k]=s at*;have hG:=lZ (E:=E) s
  cases hb:cf s
  ·rw[hb]at hG
   rw[nc cK hb,Bool.false_and];(refine TW.go ?_;simp[he,aA,aG];repeat' first|intro hc|refine aa.mk ?_|refine aI ?_|refine af ?_ ?_|(refine cP ?_;refine⟨_,hG,?_⟩;simp[he,aA,aG]))
   exact oW [] []
  ·rw[hb]at hG
   (refine TW.go ?_;simp[he,aA,aG];repeat' first|intro hc|refine aa.mk ?_|refine aI ?_|refine af ?_ ?_|(refine cP ?_;refine⟨_,hG,?_⟩;simp[he,aA,aG]))
   exact⟨k+1,⟨by omega,fun i hi x hx=>by
    rcases Nat.lt_succ_iff_lt_or_eq.1 hi with hi|rfl
    ·exact hf i hi x hx
    ·rw[he]at hx;cases hx;exact hb⟩,by omega,kS⟩
 ·obtain rfl:k=xs.length:=by omega
  rw[kE hf,Bool.true_and];by_cases xP:xs.length≤12
  ·have AA:(xs.length:Int)≤12:=by omega
   rw[decide_eq_true xP];(refine TW.go ?_;simp[AA];repeat' first|intro hc|refine aa.mk ?_|refine aI ?_|refine af ?_ ?_)
   refine bo.own [] [] (by simp;rfl) (by simp[AA]) (by simp) (by simp) (by simp[AA]) (by simp)
  ·have AA:¬(xs.length:Int)≤12:=by omega
   rw[decide_eq_false xP];(refine TW.go ?_;simp[AA];repeat' first|intro hc|refine aa.mk ?_|refine aI ?_|refine af ?_ ?_)
   refine bo.own [] [] (by simp;rfl) (by simp[AA]) (by simp) (by simp) (by simp[AA]) (by simp)
theorem xq (w:az)(m t s:Int)(h:oc w)(h0:0≤m)(h1:m<w.an.length)(hr:dN (setAt w m)):TC Tw.prog E 91 [gW w,gI .i64 m,uV (t,s)] 0 [] (gB (e_ w m t s)) []:=by
 have aR:=dK h0 h1;have jB:=dv (E:=E) t s;have hH:=nX (E:=E) (setAt w m) s;unfold e_
 cases pJ:aP t s
 ·rw[pJ]at jB
  generalize setAt w m=S at*;refine tE Tryz.f91 Tryz.ntmps91 (by rw[Tryz.results91]) ?_
  (refine TW.go ?_;simp[wT,h0,aR];repeat' first|intro hc|refine aa.mk ?_|refine aI ?_|refine af ?_ ?_|(refine cP ?_;refine⟨_,jB,?_⟩;simp[wT,h0,aR]))
  exact oW [] []
 rw[pJ]at jB
 cases og:bX (setAt w m) s
 ·rw[og]at hH
  generalize setAt w m=S at*;refine tE Tryz.f91 Tryz.ntmps91 (by rw[Tryz.results91]) ?_
  (refine TW.go ?_;simp[wT,h0,aR];repeat' first|intro hc|refine aa.mk ?_|refine aI ?_|refine af ?_ ?_|(refine cP ?_;(first|refine⟨_,jB,?_⟩|refine⟨_,hH,?_⟩);simp[wT,h0,aR]))
  exact oW [] []
 rw[og]at hH;obtain⟨s0,s1⟩:=hr s (cI.1 og);obtain⟨hG,hV,hN⟩:=h.at' s0 s1;have hC:=gU (E:=E) (aB w.ai s.toNat) m;generalize setAt w m=S at*;generalize aB w.ai s.toNat=G at*;generalize aU G m=e at*;refine tE Tryz.f91 Tryz.ntmps91 (by rw[Tryz.results91]) ?_
 cases hb:cl G m
 ·rw[hb]at hC
  (refine TW.go ?_;simp[wT,aF,au,h0,s0,aR,hG];repeat' first|intro hc|refine aa.mk ?_|refine aI ?_|refine af ?_ ?_|(refine cP ?_;(first|refine⟨_,jB,?_⟩|refine⟨_,hH,?_⟩|refine⟨_,hC,?_⟩);simp[wT,aF,au,h0,s0,aR,hG]))
  exact oW [] []
 rw[hb]at hC;unfold E8 At
 cases hf:e.f
 ·(refine TW.go ?_;simp[wT,aF,au,h0,s0,aR,hG,hf,cu];repeat' first|intro hc|refine aa.mk ?_|refine aI ?_|refine af ?_ ?_|(refine cP ?_;(first|refine⟨_,jB,?_⟩|refine⟨_,hH,?_⟩|refine⟨_,hC,?_⟩);simp[wT,aF,au,h0,s0,aR,hG,hf,cu]))
  all_goals refine bo.own [] [] (by simp;rfl) (by simp[hf]) (by simp) (by simp) (by simp[hf]) (by simp)
 ·by_cases bW:e.g=s
  ·by_cases ht:e.t=t
   ·have hL:=gT (E:=E) t s t s
    rw[Aw]at hL;(refine TW.go ?_;simp[wT,aF,au,h0,s0,aR,hG,hf,bW,ht,cu];repeat' first|intro hc|refine aa.mk ?_|refine aI ?_|refine af ?_ ?_|(refine cP ?_;(first|refine⟨_,jB,?_⟩|refine⟨_,hH,?_⟩|refine⟨_,hC,?_⟩|refine⟨_,hL,?_⟩);simp[wT,aF,au,h0,s0,aR,hG,hf,bW,ht,cu]))
    all_goals refine bo.own [] [] (by simp;rfl) (by simp[hf,bW,ht]) (by simp) (by simp) (by simp[hf,bW,ht]) (by simp)
   ·have hL:=gT (E:=E) e.t s t s
    generalize aS e.t s t s=b at*
    cases b
    ·(refine TW.go ?_;simp[wT,aF,au,h0,s0,aR,hG,hf,bW,ht,cu];repeat' first|intro hc|refine aa.mk ?_|refine aI ?_|refine af ?_ ?_|(refine cP ?_;(first|refine⟨_,jB,?_⟩|refine⟨_,hH,?_⟩|refine⟨_,hC,?_⟩|refine⟨_,hL,?_⟩);simp[wT,aF,au,h0,s0,aR,hG,hf,bW,ht,cu]))
     all_goals refine bo.own [] [] (by simp;rfl) (by simp[hf,bW,ht]) (by simp) (by simp) (by simp[hf,bW,ht]) (by simp)
    ·(refine TW.go ?_;simp[wT,aF,au,h0,s0,aR,hG,hf,bW,ht,cu];repeat' first|intro hc|refine aa.mk ?_|refine aI ?_|refine af ?_ ?_|(refine cP ?_;(first|refine⟨_,jB,?_⟩|refine⟨_,hH,?_⟩|refine⟨_,hC,?_⟩|refine⟨_,hL,?_⟩);simp[wT,aF,au,h0,s0,aR,hG,hf,bW,ht,cu]))
     all_goals refine bo.own [] [] (by simp;rfl) (by simp[hf,bW,ht]) (by simp) (by simp) (by simp[hf,bW,ht]) (by simp)
  ·have hL:=gT (E:=E) e.t e.g t s
   generalize aS e.t e.g t s=b at*
   cases b
   ·(refine TW.go ?_;simp[wT,aF,au,h0,s0,aR,hG,hf,bW];repeat' first|intro hc|refine aa.mk ?_|refine aI ?_|refine af ?_ ?_|(refine cP ?_;(first|refine⟨_,jB,?_⟩|refine⟨_,hH,?_⟩|refine⟨_,hC,?_⟩|refine⟨_,hL,?_⟩);simp[wT,aF,au,h0,s0,aR,hG,hf,bW]))
    all_goals refine bo.own [] [] (by simp;rfl) (by simp[hf,bW]) (by simp) (by simp) (by simp[hf,bW]) (by simp)
   ·(refine TW.go ?_;simp[wT,aF,au,h0,s0,aR,hG,hf,bW];repeat' first|intro hc|refine aa.mk ?_|refine aI ?_|refine af ?_ ?_|(refine cP ?_;(first|refine⟨_,jB,?_⟩|refine⟨_,hH,?_⟩|refine⟨_,hC,?_⟩|refine⟨_,hL,?_⟩);simp[wT,aF,au,h0,s0,aR,hG,hf,bW]))
    all_goals refine bo.own [] [] (by simp;rfl) (by simp[hf,bW]) (by simp) (by simp) (by simp[hf,bW]) (by simp)
theorem xr (w:az)(m t s:Int)(h:oc w)(h0:0≤m)(h1:m<w.an.length)(hr:dN (setAt w m))(h5:(setAt w m).length≤5):TC Tw.prog E 93 [gW w,gI .i64 m,uV (t,s)] 0 [] (gB (nD w m t s)) []:=by
 have aR:=dK h0 h1;have hH:=nX (E:=E) (setAt w m) s;have X0:=h.g5;unfold nD;have hlen:(setAt w m).length≤maxLen:=by simp only[maxLen];omega
 generalize setAt w m=S at*;refine tE Tryz.f93 Tryz.ntmps93 (by rw[Tryz.results93]) ?_
 (refine TW.go ?_;simp[wT,h0,aR];repeat' first|intro hc|refine aa.mk ?_|refine aI ?_|refine af ?_ ?_)
 refine tL (fun(k:Nat)=>⟨[(1,gI .i64 m),(3,.s (.ptr 0 0)),(5,.s (.ptr 1 0)),(7,gI .i64 (k:Nat))],[(0,.box ((wT w).map .r)),(1,.box [.r (rI t),.r (rI s)])],2⟩) (fun k=>k≤S.length∧∀i,i<k→∀x,S[i]?=some x→kD w m t s x=true) (fun k=>S.length-k) 0 ⟨by omega,fun i hi=>by omega⟩ (Wk.own [0,1] [] (by simp) (by simp) (by simp[wT]) (by simp) (by simp)) fun k hk=>?_
 obtain⟨hk,VD⟩:=hk;by_cases aj:k<S.length
 ·have he:S[k]?=some S[k]:=List.getElem?_eq_getElem aj
  have aA:(k:Int)<(S.length:Int):=by omega
  have aG:=wrap_add aj hlen;have cK:=List.getElem_mem aj;generalize S[k]=g at*;obtain⟨g0,g1⟩:=hr g cK;obtain⟨hG,hV,VE⟩:=h.at' g0 g1;have hC:=gU (E:=E) (aB w.ai g.toNat) m;have iL:kD w m t s g=(cl (aB w.ai g.toNat) m&&CL (aU (aB w.ai g.toNat) m) g t s):=rfl
  have dB:kD w m t s g=false→S.all (kD w m t s)=false:=fun h=>nc cK h
  have step:kD w m t s g=true→∀i,i<k+1→∀x,S[i]?=some x→kD w m t s x=true:=fun hg i hi x hx=>by
   rcases Nat.lt_succ_iff_lt_or_eq.1 hi with hi|rfl
   ·exact VD i hi x hx
   ·rw[he]at hx;cases hx;exact hg
  have hL:=gT (E:=E) t s (aU (aB w.ai g.toNat) m).t (aU (aB w.ai g.toNat) m).g;generalize aB w.ai g.toNat=G at*;generalize aU G m=e at*;generalize kD w m t s g=F at*
  cases hb:cl G m
  ·rw[hb]at hC iL
   rw[dB (by rw[iL];rfl),Bool.false_and]
   (refine TW.go ?_;simp[wT,aF,au,he,h0,aR,aA,aG,g0,hG];repeat' first|intro hc|refine aa.mk ?_|refine aI ?_|refine af ?_ ?_|(refine cP ?_;(first|refine⟨_,hC,?_⟩|refine⟨_,hL,?_⟩);simp[wT,aF,au,he,h0,aR,aA,aG,g0,hG]))
   exact oW [] []
  rw[hb,Bool.true_and]at iL;rw[hb]at hC;unfold CL at iL;unfold At at iL;by_cases Nh:aS t s e.t e.g=true
  ·rw[Nh]at hL iL
   rw[dB (by rw[iL];rfl),Bool.false_and]
   cases hf:e.f
   ·(refine TW.go ?_;simp[wT,aF,au,he,h0,aR,aA,aG,g0,hG,hf,cu];repeat' first|intro hc|refine aa.mk ?_|refine aI ?_|refine af ?_ ?_|(refine cP ?_;(first|refine⟨_,hC,?_⟩|refine⟨_,hL,?_⟩);simp[wT,aF,au,he,h0,aR,aA,aG,g0,hG,hf,cu]))
    all_goals exact oW [] []
   ·by_cases ht:e.t=t
    ·by_cases eD:e.g=s
     ·rw[ht,eD]at hL
      (refine TW.go ?_;simp[wT,aF,au,he,h0,aR,aA,aG,g0,hG,hf,ht,eD,cu];repeat' first|intro hc|refine aa.mk ?_|refine aI ?_|refine af ?_ ?_|(refine cP ?_;(first|refine⟨_,hC,?_⟩|refine⟨_,hL,?_⟩);simp[wT,aF,au,he,h0,aR,aA,aG,g0,hG,hf,ht,eD,cu]))
      all_goals exact oW [] []
     ·rw[ht]at hL
      (refine TW.go ?_;simp[wT,aF,au,he,h0,aR,aA,aG,g0,hG,hf,ht,eD,cu];repeat' first|intro hc|refine aa.mk ?_|refine aI ?_|refine af ?_ ?_|(refine cP ?_;(first|refine⟨_,hC,?_⟩|refine⟨_,hL,?_⟩);simp[wT,aF,au,he,h0,aR,aA,aG,g0,hG,hf,ht,eD,cu]))
      all_goals exact oW [] []
    ·(refine TW.go ?_;simp[wT,aF,au,he,h0,aR,aA,aG,g0,hG,hf,ht,cu];repeat' first|intro hc|refine aa.mk ?_|refine aI ?_|refine af ?_ ?_|(refine cP ?_;(first|refine⟨_,hC,?_⟩|refine⟨_,hL,?_⟩);simp[wT,aF,au,he,h0,aR,aA,aG,g0,hG,hf,ht,cu]))
     all_goals exact oW [] []
  rw[Bool.not_eq_true]at Nh;rw[Nh]at hL iL
  cases hf:e.f
  ·by_cases bW:g=s
   ·have cO:(g=s)=True:=eq_true bW
    by_cases ht:e.t=t
    ·by_cases eD:e.g=s
     ·rw[ht,eD]at hL
      (refine TW.go ?_;simp[wT,aF,au,he,h0,aR,aA,aG,g0,hG,hf,cO,ht,eD,cu];repeat' first|intro hc|refine aa.mk ?_|refine aI ?_|refine af ?_ ?_|(refine cP ?_;(first|refine⟨_,hC,?_⟩|refine⟨_,hL,?_⟩);simp[wT,aF,au,he,h0,aR,aA,aG,g0,hG,hf,cO,ht,eD,cu]))
      all_goals exact⟨k+1,⟨by omega,step (by rw[iL];simp[hf,cO,ht,eD])⟩,by omega,Wk.own [0,1] [] (by simp) (by simp) (by simp[wT]) (by simp) (by simp)⟩
     ·rw[dB (by rw[iL];simp[hf,cO,ht,eD]),Bool.false_and]
      rw[ht]at hL;(refine TW.go ?_;simp[wT,aF,au,he,h0,aR,aA,aG,g0,hG,hf,cO,ht,eD,cu];repeat' first|intro hc|refine aa.mk ?_|refine aI ?_|refine af ?_ ?_|(refine cP ?_;(first|refine⟨_,hC,?_⟩|refine⟨_,hL,?_⟩);simp[wT,aF,au,he,h0,aR,aA,aG,g0,hG,hf,cO,ht,eD,cu]))
      all_goals exact oW [] []
    ·rw[dB (by rw[iL];simp[hf,cO,ht]),Bool.false_and]
     (refine TW.go ?_;simp[wT,aF,au,he,h0,aR,aA,aG,g0,hG,hf,cO,ht,cu];repeat' first|intro hc|refine aa.mk ?_|refine aI ?_|refine af ?_ ?_|(refine cP ?_;(first|refine⟨_,hC,?_⟩|refine⟨_,hL,?_⟩);simp[wT,aF,au,he,h0,aR,aA,aG,g0,hG,hf,cO,ht,cu]))
     all_goals exact oW [] []
   ·(refine TW.go ?_;simp[wT,aF,au,he,h0,aR,aA,aG,g0,hG,hf,bW];repeat' first|intro hc|refine aa.mk ?_|refine aI ?_|refine af ?_ ?_|(refine cP ?_;(first|refine⟨_,hC,?_⟩|refine⟨_,hL,?_⟩);simp[wT,aF,au,he,h0,aR,aA,aG,g0,hG,hf,bW]))
    all_goals exact⟨k+1,⟨by omega,step (by rw[iL];simp[hf,bW])⟩,by omega,Wk.own [0,1] [] (by simp) (by simp) (by simp[wT]) (by simp) (by simp)⟩
  ·have ik:e.f=true:=hf
   by_cases ht:e.t=t
   ·by_cases eD:e.g=s
    ·rw[ht,eD]at hL
     (refine TW.go ?_;simp[wT,aF,au,he,h0,aR,aA,aG,g0,hG,ik,ht,eD,cu];repeat' first|intro hc|refine aa.mk ?_|refine aI ?_|refine af ?_ ?_|(refine cP ?_;(first|refine⟨_,hC,?_⟩|refine⟨_,hL,?_⟩);simp[wT,aF,au,he,h0,aR,aA,aG,g0,hG,ik,ht,eD,cu]))
     all_goals exact⟨k+1,⟨by omega,step (by rw[iL];simp[ik,ht,eD])⟩,by omega,Wk.own [0,1] [] (by simp) (by simp) (by simp[wT]) (by simp) (by simp)⟩
    ·rw[dB (by rw[iL];simp[ik,ht,eD]),Bool.false_and]
     rw[ht]at hL;(refine TW.go ?_;simp[wT,aF,au,he,h0,aR,aA,aG,g0,hG,ik,ht,eD,cu];repeat' first|intro hc|refine aa.mk ?_|refine aI ?_|refine af ?_ ?_|(refine cP ?_;(first|refine⟨_,hC,?_⟩|refine⟨_,hL,?_⟩);simp[wT,aF,au,he,h0,aR,aA,aG,g0,hG,ik,ht,eD,cu]))
     all_goals exact oW [] []
   ·rw[dB (by rw[iL];simp[ik,ht]),Bool.false_and]
    (refine TW.go ?_;simp[wT,aF,au,he,h0,aR,aA,aG,g0,hG,ik,ht,cu];repeat' first|intro hc|refine aa.mk ?_|refine aI ?_|refine af ?_ ?_|(refine cP ?_;(first|refine⟨_,hC,?_⟩|refine⟨_,hL,?_⟩);simp[wT,aF,au,he,h0,aR,aA,aG,g0,hG,ik,ht,cu]))
    all_goals exact oW [] []
 ·obtain rfl:k=S.length:=by omega
  rw[kE VD,Bool.true_and];(refine TW.go ?_;simp[wT,h0,aR];repeat' first|intro hc|refine aa.mk ?_|refine aI ?_|refine af ?_ ?_|(refine cP ?_;refine⟨_,hH,?_⟩;simp[wT,h0,aR]))
  exact oW [] []
theorem E' (w:az)(p:eI)(h:oc w)(cO:pe w)(xP:w.an.length≤12):TC Tw.prog E 48 [gW w,gP p] 0 [] (gB (od w p)) []:=by
 obtain⟨k,m,g,t,s⟩:=p;unfold od;simp only
 have hI:=uS (E:=E) m 0 ((w.an.length:Int)-1);have gJ:IntKind.i64.wrap ((w.an.length:Int)-1)=(w.an.length:Int)-1:=dj (by omega) (by omega)
 by_cases h01:0≤m∧m<w.an.length
 ·obtain⟨h0,h1⟩:=h01
  rw[decide_eq_true (show 0≤m∧m≤(w.an.length:Int)-1 by omega)]at hI
  have aR:=dK h0 h1;obtain⟨hr,h5⟩:=vc cO h0 h1;have hH:=nX (E:=E) (setAt w m) g;rw[decide_eq_true h0,decide_eq_true h1]
  cases hb:bX (setAt w m) g
  ·rw[hb]at hH
   generalize setAt w m=S at*;refine tE Tryz.f48 Tryz.ntmps48 (by rw[Tryz.results48]) ?_
   (refine TW.go ?_;simp[wT,bP,h0,aR,gJ];repeat' first|intro hc|refine aa.mk ?_|refine aI ?_|refine af ?_ ?_|(refine cP ?_;(first|refine⟨_,hI,?_⟩|refine⟨_,hH,?_⟩);simp[wT,bP,h0,aR,gJ]))
   exact oW [] []
  ·rw[hb]at hH
   by_cases k1:k=1
   ·rw[if_pos k1]
    generalize setAt w m=S at*;refine tE Tryz.f48 Tryz.ntmps48 (by rw[Tryz.results48]) ?_
    (refine TW.go ?_;simp[wT,bP,h0,aR,gJ,k1,cu];repeat' first|intro hc|refine aa.mk ?_|refine aI ?_|refine af ?_ ?_|(refine cP ?_;(first|refine⟨_,hI,?_⟩|refine⟨_,hH,?_⟩);simp[wT,bP,h0,aR,gJ,k1,cu]))
    all_goals refine bo.own [] [] (by simp;rfl) (by simp[k1]) (by simp) (by simp) (by simp[k1]) (by simp)
   ·rw[if_neg k1]
    by_cases k2:k=2
    ·rw[if_pos k2]
     have hC:=xq (E:=E) w m t s h h0 h1 hr;generalize setAt w m=S at*;generalize e_ w m t s=c at*;by_cases xQ:s=g
     ·subst xQ
      rw[decide_eq_true rfl];refine tE Tryz.f48 Tryz.ntmps48 (by rw[Tryz.results48]) ?_
      (refine TW.go ?_;simp[wT,bP,h0,aR,gJ,k1,k2];repeat' first|intro hc|refine aa.mk ?_|refine aI ?_|refine af ?_ ?_|(refine cP ?_;(first|refine⟨_,hI,?_⟩|refine⟨_,hH,?_⟩|refine⟨_,hC,?_⟩);simp[wT,bP,h0,aR,gJ,k1,k2]))
      all_goals exact oW [] []
     ·refine tE Tryz.f48 Tryz.ntmps48 (by rw[Tryz.results48]) ?_
      (refine TW.go ?_;simp[wT,bP,h0,aR,gJ,k1,k2,xQ];repeat' first|intro hc|refine aa.mk ?_|refine aI ?_|refine af ?_ ?_|(refine cP ?_;(first|refine⟨_,hI,?_⟩|refine⟨_,hH,?_⟩|refine⟨_,hC,?_⟩);simp[wT,bP,h0,aR,gJ,k1,k2,xQ]))
      all_goals refine bo.own [] [] (by simp;rfl) (by simp[xQ]) (by simp) (by simp) (by simp[xQ]) (by simp)
    ·rw[if_neg k2]
     by_cases k3:k=3
     ·rw[if_pos k3,Az]
      have jB:=dv (E:=E) t s;have hC:=xr (E:=E) w m t s h h0 h1 hr h5;generalize setAt w m=S at*;generalize nD w m t s=c at*;generalize aP t s=st at*
      cases st
      ·refine tE Tryz.f48 Tryz.ntmps48 (by rw[Tryz.results48]) ?_
       (refine TW.go ?_;simp[wT,bP,h0,aR,gJ,k1,k2,k3];repeat' first|intro hc|refine aa.mk ?_|refine aI ?_|refine af ?_ ?_|(refine cP ?_;(first|refine⟨_,hI,?_⟩|refine⟨_,hH,?_⟩|refine⟨_,jB,?_⟩|refine⟨_,hC,?_⟩);simp[wT,bP,h0,aR,gJ,k1,k2,k3]))
       all_goals exact oW [] []
      ·refine tE Tryz.f48 Tryz.ntmps48 (by rw[Tryz.results48]) ?_
       (refine TW.go ?_;simp[wT,bP,h0,aR,gJ,k1,k2,k3];repeat' first|intro hc|refine aa.mk ?_|refine aI ?_|refine af ?_ ?_|(refine cP ?_;(first|refine⟨_,hI,?_⟩|refine⟨_,hH,?_⟩|refine⟨_,jB,?_⟩|refine⟨_,hC,?_⟩);simp[wT,bP,h0,aR,gJ,k1,k2,k3]))
       all_goals exact oW [] []
     ·rw[if_neg k3]
      generalize setAt w m=S at*;refine tE Tryz.f48 Tryz.ntmps48 (by rw[Tryz.results48]) ?_
      (refine TW.go ?_;simp[wT,bP,h0,aR,gJ,k1,k2,k3];repeat' first|intro hc|refine aa.mk ?_|refine aI ?_|refine af ?_ ?_|(refine cP ?_;(first|refine⟨_,hI,?_⟩|refine⟨_,hH,?_⟩);simp[wT,bP,h0,aR,gJ,k1,k2,k3]))
      all_goals exact oW [] []
 ·rw[decide_eq_false (show¬(0≤m∧m≤(w.an.length:Int)-1) by omega)]at hI
  have e:(decide (0≤m)&&decide (m<(w.an.length:Int)))=false:=by
   rw[←Bool.decide_and];exact decide_eq_false h01
  rw[e,Bool.false_and,Bool.false_and];refine tE Tryz.f48 Tryz.ntmps48 (by rw[Tryz.results48]) ?_
  (refine TW.go ?_;simp[wT,bP,gJ];repeat' first|intro hc|refine aa.mk ?_|refine aI ?_|refine af ?_ ?_|(refine cP ?_;refine⟨_,hI,?_⟩;simp[wT,bP,gJ]))
  exact oW [] []
end Go.Proofs.YtlhohdjniaebbaaGreat.T
