/-
What is proved: what the program's look at a run does to trees, whatever the run and what rests on it. Conditions: as stated.
-/
import Derived.Test.YtlhohdjniaebbaaGreatRy41
set_option linter.unusedVariables false
set_option linter.unusedSimpArgs false
namespace Go.Proofs.YtlhohdjniaebbaaGreat.T
open Go Go.RowKit
set_option maxRecDepth 100000
set_option maxHeartbeats 4000000
variable {E:List PanicEntry→World→Prop}
structure oc (w:az):Prop where
 g5:w.ai.length=5
 le:∀g∈w.ai,vV g 4294967280
 ok:∀i:Nat,i<5→bm (aB w.ai i)=true∧(aB w.ai i).id=i
theorem oc.at' {w:az}(h:oc w){g:Int}(h0:0≤g)(h1:g<5):w.ai[g.toNat]?=some (aB w.ai g.toNat)∧bm (aB w.ai g.toNat)=true∧vV (aB w.ai g.toNat) 4294967280:=by
 have hg:=jZ (gs:=w.ai) (i:=g.toNat) (by have:=h.g5;omega)
 exact⟨hg,(h.ok _ (by omega)).1,h.le _ (List.mem_of_getElem? hg)⟩
theorem JW {w:az}(h:oc w){g:Int}(h0:0≤g)(h1:g<5)(m:Int):TC Tw.prog E 155 [.a ((au (aB w.ai g.toNat)).map .r),gI .i64 m] 0 [] (.p [jw (aU (aB w.ai g.toNat) m),gB (cl (aB w.ai g.toNat) m)]) []:=by
 obtain⟨hG,hV,hN⟩:=h.at' h0 h1;have:=sd (E:=E) (aB w.ai g.toNat) m (by have:=hN.1;have:=hN.2;exact⟨by omega,by omega⟩)
 rwa[fJ,vZ,if_pos hV,hV,Bool.true_and]at this
def At (e:aK)(t s:Int):Bool:=decide (e.t=t)&&decide (e.g=s)
def E8 (e:aK)(t s:Int):Bool:=if e.f=false∨e.g=s then At e t s else !aS e.t e.g t s
def e_ (w:az)(m t s:Int):Bool:=aP t s&&bX (setAt w m) s&&cl (aB w.ai s.toNat) m&&E8 (aU (aB w.ai s.toNat) m) t s
theorem xo (w:az)(m t s:Int)(h:oc w)(h0:0≤m)(h1:m<w.an.length)(hr:dN (setAt w m)):TC Tw.prog E 104 [gW w,gI .i64 m,uV (t,s)] 0 [] (gB (e_ w m t s)) []:=by
 have aR:=dK h0 h1;have jB:=dI (E:=E) t s;have hH:=nB (E:=E) (setAt w m) s;unfold e_
 cases pJ:aP t s
 ·rw[pJ]at jB
  generalize setAt w m=S at*;refine tE Tryz.f104 Tryz.ntmps104 (by rw[Tryz.results104]) ?_
  (refine TW.go ?_;simp[wT,h0,aR];repeat' first|intro hc|refine aa.mk ?_|refine aI ?_|refine af ?_ ?_|(refine cP ?_;refine⟨_,jB,?_⟩;simp[wT,h0,aR]))
  exact oW [] []
 ·rw[pJ]at jB
  cases og:bX (setAt w m) s
  ·rw[og]at hH
   generalize setAt w m=S at*;refine tE Tryz.f104 Tryz.ntmps104 (by rw[Tryz.results104]) ?_
   (refine TW.go ?_;simp[wT,h0,aR];repeat' first|intro hc|refine aa.mk ?_|refine aI ?_|refine af ?_ ?_|(refine cP ?_;(first|refine⟨_,jB,?_⟩|refine⟨_,hH,?_⟩);simp[wT,h0,aR]))
   exact oW [] []
  ·rw[og]at hH
   obtain⟨s0,s1⟩:=hr s (cI.1 og);obtain⟨hG,hV,hN⟩:=h.at' s0 s1;have hC:=JW (E:=E) h s0 s1 m;generalize setAt w m=S at*;generalize aB w.ai s.toNat=G at*;generalize aU G m=e at*;refine tE Tryz.f104 Tryz.ntmps104 (by rw[Tryz.results104]) ?_
   cases hb:cl G m
   ·rw[hb]at hC
    (refine TW.go ?_;simp[wT,aF,au,h0,s0,aR,hG];repeat' first|intro hc|refine aa.mk ?_|refine aI ?_|refine af ?_ ?_|(refine cP ?_;(first|refine⟨_,jB,?_⟩|refine⟨_,hH,?_⟩|refine⟨_,hC,?_⟩);simp[wT,aF,au,h0,s0,aR,hG]))
    exact oW [] []
   ·rw[hb]at hC
    unfold E8 At
    cases hf:e.f
    ·(refine TW.go ?_;simp[wT,aF,au,h0,s0,aR,hG,hf,cu];repeat' first|intro hc|refine aa.mk ?_|refine aI ?_|refine af ?_ ?_|(refine cP ?_;(first|refine⟨_,jB,?_⟩|refine⟨_,hH,?_⟩|refine⟨_,hC,?_⟩);simp[wT,aF,au,h0,s0,aR,hG,hf,cu]))
     all_goals refine bo.own [] [] (by simp;rfl) (by simp[hf]) (by simp) (by simp) (by simp[hf]) (by simp)
    ·by_cases bW:e.g=s
     ·(refine TW.go ?_;simp[wT,aF,au,h0,s0,aR,hG,hf,bW,cu];repeat' first|intro hc|refine aa.mk ?_|refine aI ?_|refine af ?_ ?_|(refine cP ?_;(first|refine⟨_,jB,?_⟩|refine⟨_,hH,?_⟩|refine⟨_,hC,?_⟩);simp[wT,aF,au,h0,s0,aR,hG,hf,bW,cu]))
      all_goals refine bo.own [] [] (by simp;rfl) (by simp[hf,bW]) (by simp) (by simp) (by simp[hf,bW]) (by simp)
     ·have hL:=o8 (E:=E) e.t e.g t s
      (refine TW.go ?_;simp[wT,aF,au,h0,s0,aR,hG,hf,bW];repeat' first|intro hc|refine aa.mk ?_|refine aI ?_|refine af ?_ ?_|(refine cP ?_;(first|refine⟨_,jB,?_⟩|refine⟨_,hH,?_⟩|refine⟨_,hC,?_⟩|refine⟨_,hL,?_⟩);simp[wT,aF,au,h0,s0,aR,hG,hf,bW]))
      all_goals refine bo.own [] [] (by simp;rfl) (by simp[hf,bW]) (by simp) (by simp) (by simp[hf,bW]) (by simp)
def CL (e:aK)(g t s:Int):Bool:= !aS t s e.t e.g&&(if e.f=true∨g=s then At e t s else true)
def kD (w:az)(m t s g:Int):Bool:=cl (aB w.ai g.toNat) m&&CL (aU (aB w.ai g.toNat) m) g t s
def qE (w:az)(m t s:Int):Bool:=aP t s&&bX (setAt w m) s&&(setAt w m).all (kD w m t s)
theorem nc {α:Type}{f:α→Bool}{xs:List α}{x:α}(h:x∈xs)(hf:f x=false):xs.all f=false:=by
 rw[List.all_eq_false];exact⟨x,h,by rw[hf];simp⟩
theorem kE {α:Type}{f:α→Bool}{xs:List α}(h:∀(i:Nat),i<xs.length→∀x,xs[i]?=some x→f x=true):xs.all f=true:=by
 rw[List.all_eq_true];intro x hx;obtain⟨i,hi,rfl⟩:=List.getElem_of_mem hx;exact h i hi _ (List.getElem?_eq_getElem hi)
theorem Au (w:az)(m t s:Int)(h:oc w)(h0:0≤m)(h1:m<w.an.length)(hr:dN (setAt w m))(h5:(setAt w m).length≤5):TC Tw.prog E 107 [gW w,gI .i64 m,uV (t,s)] 0 [] (gB (qE w m t s)) []:=by
 have aR:=dK h0 h1;have jB:=dI (E:=E) t s;have hH:=nB (E:=E) (setAt w m) s;have X0:=h.g5;unfold qE
 cases pJ:aP t s
 ·rw[pJ]at jB
  generalize setAt w m=S at*;refine tE Tryz.f107 Tryz.ntmps107 (by rw[Tryz.results107]) ?_
  (refine TW.go ?_;simp[wT,h0,aR];repeat' first|intro hc|refine aa.mk ?_|refine aI ?_|refine af ?_ ?_|(refine cP ?_;refine⟨_,jB,?_⟩;simp[wT,h0,aR]))
  exact oW [] []
 rw[pJ]at jB
 cases og:bX (setAt w m) s
 ·rw[og]at hH
  generalize setAt w m=S at*;refine tE Tryz.f107 Tryz.ntmps107 (by rw[Tryz.results107]) ?_
  (refine TW.go ?_;simp[wT,h0,aR];repeat' first|intro hc|refine aa.mk ?_|refine aI ?_|refine af ?_ ?_|(refine cP ?_;(first|refine⟨_,jB,?_⟩|refine⟨_,hH,?_⟩);simp[wT,h0,aR]))
  exact oW [] []
 rw[og]at hH;have hlen:(setAt w m).length≤maxLen:=by simp only[maxLen];omega
 generalize setAt w m=S at*;simp only[Bool.true_and];refine tE Tryz.f107 Tryz.ntmps107 (by rw[Tryz.results107]) ?_
 (refine TW.go ?_;simp[wT,h0,aR];repeat' first|intro hc|refine aa.mk ?_|refine aI ?_|refine af ?_ ?_|(refine cP ?_;(first|refine⟨_,jB,?_⟩|refine⟨_,hH,?_⟩);simp[wT,h0,aR]))
 refine tL (fun(k:Nat)=>⟨[(1,gI .i64 m),(3,.s (.ptr 0 0)),(5,.s (.ptr 1 0)),(29,gR (bu S)),(30,gI .i64 S.length),(31,gI .i64 (k:Nat))],[(0,.box ((wT w).map .r)),(1,.box [.r (rI t),.r (rI s)])],2⟩) (fun k=>k≤S.length∧∀i,i<k→∀x,S[i]?=some x→kD w m t s x=true) (fun k=>S.length-k) 0 ⟨by omega,fun i hi=>by omega⟩ (Wk.own [0,1] [] (by simp) (by simp) (by simp[wT]) (by simp) (by simp)) fun k hk=>?_
 obtain⟨hk,VD⟩:=hk;by_cases aj:k<S.length
 ·have he:S[k]?=some S[k]:=List.getElem?_eq_getElem aj
  have aA:(k:Int)<(S.length:Int):=by omega
  have aG:=wrap_add aj hlen;have cK:=List.getElem_mem aj;generalize S[k]=g at*;obtain⟨g0,g1⟩:=hr g cK;obtain⟨hG,hV,VE⟩:=h.at' g0 g1;have hC:=JW (E:=E) h g0 g1 m;have iL:kD w m t s g=(cl (aB w.ai g.toNat) m&&CL (aU (aB w.ai g.toNat) m) g t s):=rfl
  have dB:kD w m t s g=false→S.all (kD w m t s)=false:=fun h=>nc cK h
  have step:kD w m t s g=true→∀i,i<k+1→∀x,S[i]?=some x→kD w m t s x=true:=fun hg i hi x hx=>by
   rcases Nat.lt_succ_iff_lt_or_eq.1 hi with hi|rfl
   ·exact VD i hi x hx
   ·rw[he]at hx;cases hx;exact hg
  have hL:=o8 (E:=E) t s (aU (aB w.ai g.toNat) m).t (aU (aB w.ai g.toNat) m).g;generalize aB w.ai g.toNat=G at*;generalize aU G m=e at*;generalize kD w m t s=F at*
  cases hb:cl G m
  ·rw[hb]at hC iL
   rw[dB (by rw[iL];rfl)]
   (refine TW.go ?_;simp[wT,aF,au,he,aA,aG,g0,hG];repeat' first|intro hc|refine aa.mk ?_|refine aI ?_|refine af ?_ ?_|(refine cP ?_;(first|refine⟨_,hC,?_⟩|refine⟨_,hL,?_⟩);simp[wT,aF,au,he,aA,aG,g0,hG]))
   exact oW [] []
  rw[hb,Bool.true_and]at iL;rw[hb]at hC;unfold CL at iL;by_cases Nh:aS t s e.t e.g=true
  ·rw[Nh]at hL iL
   rw[dB (by rw[iL];rfl)]
   (refine TW.go ?_;simp[wT,aF,au,he,aA,aG,g0,hG];repeat' first|intro hc|refine aa.mk ?_|refine aI ?_|refine af ?_ ?_|(refine cP ?_;(first|refine⟨_,hC,?_⟩|refine⟨_,hL,?_⟩);simp[wT,aF,au,he,aA,aG,g0,hG]))
   exact oW [] []
  rw[Bool.not_eq_true]at Nh;rw[Nh]at hL iL;unfold At at iL
  cases hf:e.f
  ·by_cases bW:g=s
   ·have cO:(g=s)=True:=eq_true bW
    by_cases ht:e.t=t
    ·by_cases eD:e.g=s
     ·rw[ht,eD]at hL
      (refine TW.go ?_;simp[wT,aF,au,he,aA,aG,g0,hG,hf,cO,ht,eD,cu];repeat' first|intro hc|refine aa.mk ?_|refine aI ?_|refine af ?_ ?_|(refine cP ?_;(first|refine⟨_,hC,?_⟩|refine⟨_,hL,?_⟩);simp[wT,aF,au,he,aA,aG,g0,hG,hf,cO,ht,eD,cu]))
      all_goals exact⟨k+1,⟨by omega,step (by rw[iL];simp[hf,cO,ht,eD])⟩,by omega,Wk.own [0,1] [] (by simp) (by simp) (by simp[wT]) (by simp) (by simp)⟩
     ·rw[dB (by rw[iL];simp[hf,cO,ht,eD])]
      rw[ht]at hL;(refine TW.go ?_;simp[wT,aF,au,he,aA,aG,g0,hG,hf,cO,ht,eD,cu];repeat' first|intro hc|refine aa.mk ?_|refine aI ?_|refine af ?_ ?_|(refine cP ?_;(first|refine⟨_,hC,?_⟩|refine⟨_,hL,?_⟩);simp[wT,aF,au,he,aA,aG,g0,hG,hf,cO,ht,eD,cu]))
      all_goals exact oW [] []
    ·rw[dB (by rw[iL];simp[hf,cO,ht])]
     (refine TW.go ?_;simp[wT,aF,au,he,aA,aG,g0,hG,hf,cO,ht,cu];repeat' first|intro hc|refine aa.mk ?_|refine aI ?_|refine af ?_ ?_|(refine cP ?_;(first|refine⟨_,hC,?_⟩|refine⟨_,hL,?_⟩);simp[wT,aF,au,he,aA,aG,g0,hG,hf,cO,ht,cu]))
     all_goals exact oW [] []
   ·(refine TW.go ?_;simp[wT,aF,au,he,aA,aG,g0,hG,hf,bW];repeat' first|intro hc|refine aa.mk ?_|refine aI ?_|refine af ?_ ?_|(refine cP ?_;(first|refine⟨_,hC,?_⟩|refine⟨_,hL,?_⟩);simp[wT,aF,au,he,aA,aG,g0,hG,hf,bW]))
    all_goals exact⟨k+1,⟨by omega,step (by rw[iL];simp[hf,bW])⟩,by omega,Wk.own [0,1] [] (by simp) (by simp) (by simp[wT]) (by simp) (by simp)⟩
  ·have ik:e.f=true:=hf
   by_cases ht:e.t=t
   ·by_cases eD:e.g=s
    ·rw[ht,eD]at hL
     (refine TW.go ?_;simp[wT,aF,au,he,aA,aG,g0,hG,ik,ht,eD,cu];repeat' first|intro hc|refine aa.mk ?_|refine aI ?_|refine af ?_ ?_|(refine cP ?_;(first|refine⟨_,hC,?_⟩|refine⟨_,hL,?_⟩);simp[wT,aF,au,he,aA,aG,g0,hG,ik,ht,eD,cu]))
     all_goals exact⟨k+1,⟨by omega,step (by rw[iL];simp[ik,ht,eD])⟩,by omega,Wk.own [0,1] [] (by simp) (by simp) (by simp[wT]) (by simp) (by simp)⟩
    ·rw[dB (by rw[iL];simp[ik,ht,eD])]
     rw[ht]at hL;(refine TW.go ?_;simp[wT,aF,au,he,aA,aG,g0,hG,ik,ht,eD,cu];repeat' first|intro hc|refine aa.mk ?_|refine aI ?_|refine af ?_ ?_|(refine cP ?_;(first|refine⟨_,hC,?_⟩|refine⟨_,hL,?_⟩);simp[wT,aF,au,he,aA,aG,g0,hG,ik,ht,eD,cu]))
     all_goals exact oW [] []
   ·rw[dB (by rw[iL];simp[ik,ht])]
    (refine TW.go ?_;simp[wT,aF,au,he,aA,aG,g0,hG,ik,ht,cu];repeat' first|intro hc|refine aa.mk ?_|refine aI ?_|refine af ?_ ?_|(refine cP ?_;(first|refine⟨_,hC,?_⟩|refine⟨_,hL,?_⟩);simp[wT,aF,au,he,aA,aG,g0,hG,ik,ht,cu]))
    all_goals exact oW [] []
 ·obtain rfl:k=S.length:=by omega
  rw[kE VD];(refine TW.go ?_;simp;repeat' first|intro hc|refine aa.mk ?_|refine aI ?_|refine af ?_ ?_)
  exact oW [] []
end Go.Proofs.YtlhohdjniaebbaaGreat.T
namespace Go.Proofs.YtlhohdjniaebbaaGreat.T
open Go Go.RowKit
set_option maxRecDepth 100000
set_option maxHeartbeats 4000000
variable {E:List PanicEntry→World→Prop}
def od (w:az)(p:eI):Bool:=decide (0≤p.m)&&decide (p.m<w.an.length)&&bX (setAt w p.m) p.g&&
 (if p.k=1 then decide (p.t=0)&&decide (p.s=0)else if p.k=2 then decide (p.s=p.g)&&e_ w p.m p.t p.s else if p.k=3 then qE w p.m p.t p.s else false)
def pe (w:az):Prop:=∀s∈w.an,cf s=true
theorem vc {w:az}(h:pe w){m:Int}(h0:0≤m)(h1:m<w.an.length):dN (setAt w m)∧(setAt w m).length≤5:=by
 have:=jA (h _ (List.mem_of_getElem? (dK h0 h1)))
 exact⟨this.2.2,this.2.1⟩
theorem RN (w:az)(p:eI)(h:oc w)(cO:pe w):TC Tw.prog E 57 [gW w,gP p] 0 [] (gB (od w p)) []:=by
 obtain⟨k,m,g,t,s⟩:=p;unfold od;simp only
 by_cases h0:0≤m
 ·have tv:¬m<0:=by omega
  by_cases h1:m<w.an.length
  ·have ry:¬(w.an.length:Int)≤m:=by omega
   have aR:=dK h0 h1;obtain⟨hr,h5⟩:=vc cO h0 h1;have hH:=nB (E:=E) (setAt w m) g;rw[decide_eq_true h0,decide_eq_true h1]
   cases hb:bX (setAt w m) g
   ·rw[hb]at hH
    generalize setAt w m=S at*;refine tE Tryz.f57 Tryz.ntmps57 (by rw[Tryz.results57]) ?_
    (refine TW.go ?_;simp[wT,bP,h0,tv,ry,aR];repeat' first|intro hc|refine aa.mk ?_|refine aI ?_|refine af ?_ ?_|(refine cP ?_;refine⟨_,hH,?_⟩;simp[wT,bP,h0,tv,ry,aR]))
    exact oW [] []
   ·rw[hb]at hH
    by_cases k1:k=1
    ·rw[if_pos k1]
     generalize setAt w m=S at*;refine tE Tryz.f57 Tryz.ntmps57 (by rw[Tryz.results57]) ?_
     (refine TW.go ?_;simp[wT,bP,h0,tv,ry,aR,k1,cu];repeat' first|intro hc|refine aa.mk ?_|refine aI ?_|refine af ?_ ?_|(refine cP ?_;refine⟨_,hH,?_⟩;simp[wT,bP,h0,tv,ry,aR,k1,cu]))
     all_goals refine bo.own [] [] (by simp;rfl) (by simp[k1]) (by simp) (by simp) (by simp[k1]) (by simp)
    ·rw[if_neg k1]
     by_cases k2:k=2
     ·rw[if_pos k2]
      have hC:=xo (E:=E) w m t s h h0 h1 hr;generalize setAt w m=S at*;generalize e_ w m t s=c at*;by_cases xQ:s=g
      ·subst xQ
       rw[decide_eq_true rfl];refine tE Tryz.f57 Tryz.ntmps57 (by rw[Tryz.results57]) ?_
       (refine TW.go ?_;simp[wT,bP,h0,tv,ry,aR,k1,k2];repeat' first|intro hc|refine aa.mk ?_|refine aI ?_|refine af ?_ ?_|(refine cP ?_;(first|refine⟨_,hH,?_⟩|refine⟨_,hC,?_⟩);simp[wT,bP,h0,tv,ry,aR,k1,k2]))
       all_goals exact oW [] []
      ·refine tE Tryz.f57 Tryz.ntmps57 (by rw[Tryz.results57]) ?_
       (refine TW.go ?_;simp[wT,bP,h0,tv,ry,aR,k1,k2,xQ];repeat' first|intro hc|refine aa.mk ?_|refine aI ?_|refine af ?_ ?_|(refine cP ?_;(first|refine⟨_,hH,?_⟩|refine⟨_,hC,?_⟩);simp[wT,bP,h0,tv,ry,aR,k1,k2,xQ]))
       all_goals refine bo.own [] [] (by simp;rfl) (by simp[xQ]) (by simp) (by simp) (by simp[xQ]) (by simp)
     ·rw[if_neg k2]
      by_cases k3:k=3
      ·rw[if_pos k3]
       have hC:=Au (E:=E) w m t s h h0 h1 hr h5;generalize setAt w m=S at*;generalize qE w m t s=c at*;refine tE Tryz.f57 Tryz.ntmps57 (by rw[Tryz.results57]) ?_
       (refine TW.go ?_;simp[wT,bP,h0,tv,ry,aR,k1,k2,k3];repeat' first|intro hc|refine aa.mk ?_|refine aI ?_|refine af ?_ ?_|(refine cP ?_;(first|refine⟨_,hH,?_⟩|refine⟨_,hC,?_⟩);simp[wT,bP,h0,tv,ry,aR,k1,k2,k3]))
       all_goals exact oW [] []
      ·rw[if_neg k3]
       generalize setAt w m=S at*;refine tE Tryz.f57 Tryz.ntmps57 (by rw[Tryz.results57]) ?_
       (refine TW.go ?_;simp[wT,bP,h0,tv,ry,aR,k1,k2,k3];repeat' first|intro hc|refine aa.mk ?_|refine aI ?_|refine af ?_ ?_|(refine cP ?_;refine⟨_,hH,?_⟩;simp[wT,bP,h0,tv,ry,aR,k1,k2,k3]))
       all_goals exact oW [] []
  ·have ry:(w.an.length:Int)≤m:=by omega
   rw[decide_eq_false h1,Bool.and_false,Bool.false_and,Bool.false_and];refine tE Tryz.f57 Tryz.ntmps57 (by rw[Tryz.results57]) ?_
   (refine TW.go ?_;simp[wT,bP,tv,ry];repeat' first|intro hc|refine aa.mk ?_|refine aI ?_|refine af ?_ ?_)
   exact oW [] []
 ·have tv:m<0:=by omega
  rw[decide_eq_false h0,Bool.false_and,Bool.false_and,Bool.false_and];refine tE Tryz.f57 Tryz.ntmps57 (by rw[Tryz.results57]) ?_
  (refine TW.go ?_;simp[wT,bP,tv];repeat' first|intro hc|refine aa.mk ?_|refine aI ?_|refine af ?_ ?_)
  exact oW [] []
def mj (w:az)(k:Nat):Bool:=cf (setAt w (k:Nat))&&ef (bT w (k:Nat))&&decide ((bT w (k:Nat)).m=(k:Nat))&&decide ((bT w (k:Nat)).gs.length=(setAt w (k:Nat)).length)&&decide ((fj (setAt w (k:Nat)) (bT w (k:Nat)).gs 5).length=(setAt w (k:Nat)).length)&&(bT w (k:Nat)).aN.all fun s=>e_ w (k:Nat) s.1 s.2
def qF (w:az):Bool:=decide (w.an.length≤12)&&decide (w.rounds.length=w.an.length)&&decide (w.bh.length=w.an.length)&&bR w.an.length (mj w)
theorem Av {w:az}(h:w.rounds.length=w.an.length){m:Int}(h0:0≤m)(h1:m<w.an.length):w.rounds[m.toNat]?=some (bT w m):=by
 rw[bT,List.getD_eq_getElem?_getD,List.getElem?_eq_getElem (by omega)];rfl
theorem JX (w:az)(h:oc w)(hle:∀r∈w.rounds,pd r 4294967296):TC Tw.prog E 55 [gW w] 0 [] (gB (qF w)) []:=by
 unfold qF;by_cases c1:12<w.an.length
 ·have VF:12<(w.an.length:Int):=by omega
  rw[decide_eq_false (show¬w.an.length≤12 by omega),Bool.false_and,Bool.false_and,Bool.false_and]
  refine tE Tryz.f55 Tryz.ntmps55 (by rw[Tryz.results55]) ?_
  (refine TW.go ?_;simp[wT,VF];repeat' first|intro hc|refine aa.mk ?_|refine aI ?_|refine af ?_ ?_)
  exact oW [] []
 have VF:¬12<(w.an.length:Int):=by omega
 rw[decide_eq_true (show w.an.length≤12 by omega),Bool.true_and]
 by_cases c2:w.rounds.length=w.an.length
 rotate_left
 ·have X1:¬(w.rounds.length:Int)=(w.an.length:Int):=by omega
  rw[decide_eq_false c2,Bool.false_and,Bool.false_and];refine tE Tryz.f55 Tryz.ntmps55 (by rw[Tryz.results55]) ?_
  (refine TW.go ?_;simp[wT,VF,X1];repeat' first|intro hc|refine aa.mk ?_|refine aI ?_|refine af ?_ ?_)
  exact oW [] []
 have E9:(w.rounds.length:Int)=(w.an.length:Int):=by omega
 rw[decide_eq_true c2,Bool.true_and];by_cases c3:w.bh.length=w.an.length
 rotate_left
 ·have X2:¬(w.bh.length:Int)=(w.an.length:Int):=by omega
  rw[decide_eq_false c3,Bool.false_and];refine tE Tryz.f55 Tryz.ntmps55 (by rw[Tryz.results55]) ?_
  (refine TW.go ?_;simp[wT,VF,E9,X2];repeat' first|intro hc|refine aa.mk ?_|refine aI ?_|refine af ?_ ?_)
  exact oW [] []
 have RO:(w.bh.length:Int)=(w.an.length:Int):=by omega
 rw[decide_eq_true c3,Bool.true_and];have hlen:w.an.length≤maxLen:=by simp only[maxLen];omega
 refine tE Tryz.f55 Tryz.ntmps55 (by rw[Tryz.results55]) ?_
 (refine TW.go ?_;simp[wT,VF,E9,RO];repeat' first|intro hc|refine aa.mk ?_|refine aI ?_|refine af ?_ ?_)
 refine tL (fun(k:Nat)=>⟨[(1,.s (.ptr 0 0)),(31,gR (iH w.an)),(32,gI .i64 w.an.length),(33,gI .i64 (k:Nat))],[(0,.box ((wT w).map .r))],1⟩) (fun k=>k≤w.an.length∧∀i,i<k→mj w i=true) (fun k=>w.an.length-k) 0 ⟨by omega,fun i hi=>by omega⟩ (Wk.own [0] [] (by simp) (by simp) (by simp[wT]) (by simp) (by simp)) fun k hk=>?_
 obtain⟨hk,hf⟩:=hk;by_cases aj:k<w.an.length
 ·have k0:(0:Int)≤(k:Nat):=by omega
  have k1:((k:Nat):Int)<w.an.length:=by omega
  have he:=dK k0 k1;have hR:=Av c2 k0 k1;have xR:=hle _ (List.mem_of_getElem? hR);rw[show((k:Nat):Int).toNat=k by omega]at he hR
  have aG:=wrap_add aj hlen;have kF:mj w k=(cf (setAt w (k:Nat))&&ef (bT w (k:Nat))&&decide ((bT w (k:Nat)).m=(k:Nat))&&decide ((bT w (k:Nat)).gs.length=(setAt w (k:Nat)).length)&&decide ((fj (setAt w (k:Nat)) (bT w (k:Nat)).gs 5).length=(setAt w (k:Nat)).length)&&(bT w (k:Nat)).aN.all fun s=>e_ w (k:Nat) s.1 s.2):=rfl
  have dB:mj w k=false→bR w.an.length (mj w)=false:=fun h=>bH aj h
  have step:mj w k=true→∀i,i<k+1→mj w i=true:=fun hg i hi=>by
   rcases Nat.lt_succ_iff_lt_or_eq.1 hi with hi|rfl
   ·exact hf i hi
   ·exact hg
  have JY:=mg (E:=E) (setAt w (k:Nat));have tw:=BC (E:=E) (bT w (k:Nat)) xR;have yw:cf (setAt w (k:Nat))=true→∀t s:Int,TC Tw.prog E 104 [gW w,gI .i64 (k:Nat),uV (t,s)] 0 [] (gB (e_ w (k:Nat) t s)) []:=fun hb t s=>xo w (k:Nat) t s h k0 k1 (jA hb).2.2
  have M9:cf (setAt w (k:Nat))=true→ef (bT w (k:Nat))=true→TC Tw.prog E 103 [gR (bu (setAt w (k:Nat))),gR (bu (bT w (k:Nat)).gs)] 0 [] (gR (bu (fj (setAt w (k:Nat)) (bT w (k:Nat)).gs 5))) []:=fun a b=>xO (E:=E) _ _ a (u9 b).1
  generalize mj w k=F at*;generalize setAt w (k:Nat)=S at*;generalize bT w (k:Nat)=r at*;by_cases b1:cf S=true
  rotate_left
  ·rw[Bool.not_eq_true]at b1
   rw[b1]at JY kF;rw[dB (by rw[kF];rfl)]
   (refine TW.go ?_;simp[wT,aX,k1,he,hR,aG];repeat' first|intro hc|refine aa.mk ?_|refine aI ?_|refine af ?_ ?_|(refine cP ?_;refine⟨_,JY,?_⟩;simp[wT,aX,k1,he,hR,aG]))
   exact oW [] []
  rw[b1]at JY kF;by_cases b2:ef r=true
  rotate_left
  ·rw[Bool.not_eq_true]at b2
   rw[b2]at tw kF;rw[dB (by rw[kF];simp)]
   (refine TW.go ?_;simp[wT,aX,k1,he,hR,aG];repeat' first|intro hc|refine aa.mk ?_|refine aI ?_|refine af ?_ ?_|(refine cP ?_;(first|refine⟨_,JY,?_⟩|refine⟨_,tw,?_⟩);simp[wT,aX,k1,he,hR,aG]))
   exact oW [] []
  have VG:=M9 b1 b2;have abP:=yw b1;rw[b2]at tw kF;obtain⟨rm,j5,aN⟩:=r;simp only at kF VG xR
  by_cases b3:rm=(k:Nat)
  rotate_left
  ·rw[dB (by rw[kF,decide_eq_false b3];simp)]
   (refine TW.go ?_;simp[wT,aX,k1,he,hR,aG,b3];repeat' first|intro hc|refine aa.mk ?_|refine aI ?_|refine af ?_ ?_|(refine cP ?_;(first|refine⟨_,JY,?_⟩|refine⟨_,tw,?_⟩);simp[wT,aX,k1,he,hR,aG,b3]))
   exact oW [] []
  subst b3;by_cases b4:j5.length=S.length
  rotate_left
  ·have VH:¬(j5.length:Int)=(S.length:Int):=by omega
   rw[dB (by rw[kF,decide_eq_false b4];simp)]
   (refine TW.go ?_;simp[wT,aX,k1,he,hR,aG,VH];repeat' first|intro hc|refine aa.mk ?_|refine aI ?_|refine af ?_ ?_|(refine cP ?_;(first|refine⟨_,JY,?_⟩|refine⟨_,tw,?_⟩);simp[wT,aX,k1,he,hR,aG,VH]))
   exact oW [] []
  have tx:(j5.length:Int)=(S.length:Int):=by omega
  by_cases b5:(fj S j5 5).length=S.length
  rotate_left
  ·have b5n:¬((fj S j5 5).length:Int)=(S.length:Int):=by omega
   rw[dB (by rw[kF,decide_eq_false b5];simp)]
   generalize fj S j5 5=C at*;(refine TW.go ?_;simp[wT,aX,k1,he,hR,aG,tx,b5n];repeat' first|intro hc|refine aa.mk ?_|refine aI ?_|refine af ?_ ?_|(refine cP ?_;(first|refine⟨_,JY,?_⟩|refine⟨_,tw,?_⟩|refine⟨_,VG,?_⟩);simp[wT,aX,k1,he,hR,aG,tx,b5n]))
   exact oW [] []
  have b5':((fj S j5 5).length:Int)=(S.length:Int):=by omega
  rw[decide_eq_true rfl,decide_eq_true b4,decide_eq_true b5]at kF;simp only[Bool.true_and]at kF;generalize fj S j5 5=C at*;have Vs:aN.length≤maxLen:=by have:=xR.2;simp only at this;simp only[maxLen];omega
  (refine TW.go ?_;simp[wT,aX,k1,he,hR,aG,tx,b5'];repeat' first|intro hc|refine aa.mk ?_|refine aI ?_|refine af ?_ ?_|(refine cP ?_;(first|refine⟨_,JY,?_⟩|refine⟨_,tw,?_⟩|refine⟨_,VG,?_⟩);simp[wT,aX,k1,he,hR,aG,tx,b5']))
  refine tL (fun(j:Nat)=>⟨[(1,.s (.ptr 0 0)),(3,gI .i64 (k:Nat)),(31,gR (iH w.an)),(32,gI .i64 w.an.length),(33,gI .i64 (k:Nat)),(76,gR (m_ aN)),(77,gI .i64 aN.length),(78,gI .i64 (j:Nat))],[(0,.box ((wT w).map .r))],1⟩) (fun j=>j≤aN.length∧∀i,i<j→∀x,aN[i]?=some x→e_ w (k:Nat) x.1 x.2=true) (fun j=>aN.length-j) 0 ⟨by omega,fun i hi=>by omega⟩ (Wk.own [0] [] (by simp) (by simp) (by simp[wT]) (by simp) (by simp)) fun j hj=>?_
  obtain⟨hj,hg⟩:=hj;by_cases rz:j<aN.length
  ·have mD:aN[j]?=some aN[j]:=List.getElem?_eq_getElem rz
   have hU:(j:Int)<(aN.length:Int):=by omega
   have fu:=wrap_add rz Vs;have cK:=List.getElem_mem rz;have E_:=abP aN[j].1 aN[j].2;generalize hs:aN[j]=s at*
   cases hb:e_ w (k:Nat) s.1 s.2
   ·rw[hb]at E_
    rw[dB (by rw[kF];exact nc cK hb)]
    (refine TW.go ?_;simp[wT,gE,mD,hU,fu];repeat' first|intro hc|refine aa.mk ?_|refine aI ?_|refine af ?_ ?_|(refine cP ?_;refine⟨_,E_,?_⟩;simp[wT,gE,mD,hU,fu]))
    exact oW [] []
   ·rw[hb]at E_
    (refine TW.go ?_;simp[wT,gE,mD,hU,fu];repeat' first|intro hc|refine aa.mk ?_|refine aI ?_|refine af ?_ ?_|(refine cP ?_;refine⟨_,E_,?_⟩;simp[wT,gE,mD,hU,fu]))
    exact⟨j+1,⟨by omega,fun i hi x hx=>by
     rcases Nat.lt_succ_iff_lt_or_eq.1 hi with hi|rfl
     ·exact hg i hi x hx
     ·rw[mD]at hx;cases hx;exact hb⟩,by omega,Wk.own [0] [] (by simp) (by simp) (by simp[wT]) (by simp) (by simp)⟩
  ·obtain rfl:j=aN.length:=by omega
   (refine TW.go ?_;simp[aG];repeat' first|intro hc|refine aa.mk ?_|refine aI ?_|refine af ?_ ?_)
   exact⟨k+1,⟨by omega,step (by rw[kF];exact kE hg)⟩,by omega,Wk.own [0] [] (by simp) (by simp) (by simp[wT]) (by simp) (by simp)⟩
 ·obtain rfl:k=w.an.length:=by omega
  rw[bw hf];(refine TW.go ?_;simp;repeat' first|intro hc|refine aa.mk ?_|refine aI ?_|refine af ?_ ?_)
  exact oW [] []
end Go.Proofs.YtlhohdjniaebbaaGreat.T
namespace Go.Proofs.YtlhohdjniaebbaaGreat.T
open Go Go.RowKit
set_option maxRecDepth 100000
set_option maxHeartbeats 4000000
variable {E:List PanicEntry→World→Prop}
def nC (w:az)(id:Int)(e:aK):Bool:=decide (e.m<w.an.length)&&bX (setAt w e.m) id&&(!e.f||qE w e.m e.t e.g)
def mo (w:az)(G:aH):Bool:=(G.pend++G.done).all (nC w G.id)
def wo (w:az):Bool:=bR w.ai.length fun k=>mo w (aB w.ai k)
theorem RP (w:az)(h:oc w)(cO:pe w):TC Tw.prog E 56 [gW w] 0 [] (gB (wo w)) []:=by
 have X0:=h.g5;have hlen:w.ai.length≤maxLen:=by simp only[maxLen];omega
 unfold wo;refine tE Tryz.f56 Tryz.ntmps56 (by rw[Tryz.results56]) ?_
 (refine TW.go ?_;simp[wT];repeat' first|intro hc|refine aa.mk ?_|refine aI ?_|refine af ?_ ?_)
 refine tL (fun(k:Nat)=>⟨[(1,.s (.ptr 0 0)),(8,gR (eZ w.ai)),(9,gI .i64 w.ai.length),(10,gI .i64 (k:Nat))],[(0,.box ((wT w).map .r))],1⟩) (fun k=>k≤w.ai.length∧∀i,i<k→mo w (aB w.ai i)=true) (fun k=>w.ai.length-k) 0 ⟨by omega,fun i hi=>by omega⟩ (Wk.own [0] [] (by simp) (by simp) (by simp[wT]) (by simp) (by simp)) fun k hk=>?_
 obtain⟨hk,hf⟩:=hk;by_cases aj:k<w.ai.length
 ·have he:=jZ (gs:=w.ai) (i:=k) aj
  have aG:=wrap_add aj hlen;have aA:(k:Int)<(w.ai.length:Int):=by omega
  obtain⟨hV,hid⟩:=h.ok k (by omega)
  have VE:=h.le _ (List.mem_of_getElem? he);have hK:=dy.1 hV;have Cs:∀e∈(aB w.ai k).pend++(aB w.ai k).done,0≤e.m:=fun e hh=>by
   rcases List.mem_append.1 hh with hh|hh
   ·have:=(hK.pl.kC e hh).ms;simp only[br,Bool.and_eq_true,decide_eq_true_eq]at this;omega
   ·have:=(hK.dl.kC e hh).ms;simp only[br,Bool.and_eq_true,decide_eq_true_eq]at this;omega
  have dB:mo w (aB w.ai k)=false→bR w.ai.length (fun k=>mo w (aB w.ai k))=false:=fun h=>bH aj h
  have step:mo w (aB w.ai k)=true→∀i,i<k+1→mo w (aB w.ai i)=true:=fun hg i hi=>by
   rcases Nat.lt_succ_iff_lt_or_eq.1 hi with hi|rfl
   ·exact hf i hi
   ·exact hg
  generalize hA:bR w.ai.length (fun k=>mo w (aB w.ai k))=A at*
  generalize aB w.ai k=G at*;have kF:mo w G=(G.pend++G.done).all (nC w G.id):=rfl
  generalize mo w G=F at*;have hC:=rX (E:=E) G.pend (by have:=VE.1;omega)
  have W3:=VE.1;have rA:=VE.2;have hlp:G.pend.length+G.done.length≤maxLen:=by simp only[maxLen];omega
  (refine TW.go ?_;simp[wT,au,he,aA,aG,maxLen];repeat' first|intro hc|refine aa.mk ?_|refine aI ?_|refine af ?_ ?_|(refine cF [] 1 ?_;refine⟨_,_,hC,?_⟩;simp[wT,au,he,aA,aG,maxLen]))
  refine tL (fun(j:Nat)=>⟨[(1,.s (.ptr 0 0)),(4,.s (.ptr 1 0)),(8,gR (eZ w.ai)),(9,gI .i64 w.ai.length),(10,gI .i64 (k:Nat)),(19,gR (c7 (G.pend++G.done))),(20,gI .i64 (G.pend++G.done).length),(21,gI .i64 (j:Nat))],[(0,.box ((wT w).map .r)),(1,.box ((au G).map .r))],2⟩) (fun j=>j≤(G.pend++G.done).length∧∀i,i<j→∀x,(G.pend++G.done)[i]?=some x→nC w G.id x=true) (fun j=>(G.pend++G.done).length-j) 0 ⟨by omega,fun i hi=>by omega⟩ (Wk.own [0,1] [3] (by simp) (by simp) (by simp[wT,au]) (by simp) (by simp)) fun j hj=>?_
  obtain⟨hj,hg⟩:=hj;have aax:(G.pend++G.done).length≤maxLen:=by rw[List.length_append];exact hlp
  generalize G.pend++G.done=L at*;by_cases rz:j<L.length
  ·have mD:L[j]?=some L[j]:=List.getElem?_eq_getElem rz
   have hU:(j:Int)<(L.length:Int):=by omega
   have fu:=wrap_add rz aax;have cK:=List.getElem_mem rz;have e0:=Cs _ cK;generalize L[j]=e at*;have next:nC w G.id e=true→∀i,i<j+1→∀x,L[i]?=some x→nC w G.id x=true:=fun hb i hi x hx=>by
    rcases Nat.lt_succ_iff_lt_or_eq.1 hi with hi|rfl
    ·exact hg i hi x hx
    ·rw[mD]at hx;cases hx;exact hb
   have bad:nC w G.id e=false→A=false:=fun hb=>dB (by rw[kF];exact nc cK hb)
   have lp:nC w G.id e=(decide (e.m<w.an.length)&&bX (setAt w e.m) G.id&&(!e.f||qE w e.m e.t e.g)):=rfl
   generalize nC w G.id e=B at*;by_cases e1:e.m<w.an.length
   ·have BF:¬(w.an.length:Int)≤e.m:=by omega
    have aR:=dK e0 e1;obtain⟨hr,h5⟩:=vc cO e0 e1;have hH:=nB (E:=E) (setAt w e.m) G.id;have hD:=Au (E:=E) w e.m e.t e.g h e0 e1 hr h5;rw[decide_eq_true e1,Bool.true_and]at lp;generalize qE w e.m e.t e.g=d at*;generalize setAt w e.m=S at*
    cases hb:bX S G.id
    ·rw[hb]at hH lp
     rw[bad (by rw[lp];rfl)]
     (refine TW.go ?_;simp[wT,au,aF,mD,hU,fu,e0,BF,aR];repeat' first|intro hc|refine aa.mk ?_|refine aI ?_|refine af ?_ ?_|(refine cP ?_;refine⟨_,hH,?_⟩;simp[wT,au,aF,mD,hU,fu,e0,BF,aR]))
     exact oW [] []
    ·rw[hb,Bool.true_and]at lp
     rw[hb]at hH
     cases Bu:e.f
     ·rw[Bu]at lp
      (refine TW.go ?_;simp[wT,au,aF,mD,hU,fu,e0,BF,aR,Bu];repeat' first|intro hc|refine aa.mk ?_|refine aI ?_|refine af ?_ ?_|(refine cP ?_;refine⟨_,hH,?_⟩;simp[wT,au,aF,mD,hU,fu,e0,BF,aR,Bu]))
      exact⟨j+1,⟨by omega,next (by rw[lp];rfl)⟩,by omega,Wk.own [0,1] [] (by simp) (by simp) (by simp[wT,au]) (by simp) (by simp)⟩
     ·rw[Bu]at lp
      cases hd:d
      ·rw[hd]at hD lp
       rw[bad (by rw[lp];rfl)]
       (refine TW.go ?_;simp[wT,au,aF,mD,hU,fu,e0,BF,aR,Bu];repeat' first|intro hc|refine aa.mk ?_|refine aI ?_|refine af ?_ ?_|(refine cP ?_;(first|refine⟨_,hH,?_⟩|refine⟨_,hD,?_⟩);simp[wT,au,aF,mD,hU,fu,e0,BF,aR,Bu]))
       exact oW [] []
      ·rw[hd]at hD lp
       (refine TW.go ?_;simp[wT,au,aF,mD,hU,fu,e0,BF,aR,Bu];repeat' first|intro hc|refine aa.mk ?_|refine aI ?_|refine af ?_ ?_|(refine cP ?_;(first|refine⟨_,hH,?_⟩|refine⟨_,hD,?_⟩);simp[wT,au,aF,mD,hU,fu,e0,BF,aR,Bu]))
       exact⟨j+1,⟨by omega,next (by rw[lp];rfl)⟩,by omega,Wk.own [0,1] [] (by simp) (by simp) (by simp[wT,au]) (by simp) (by simp)⟩
   ·have BF:(w.an.length:Int)≤e.m:=by omega
    rw[decide_eq_false e1]at lp;rw[bad (by rw[lp];rfl)]
    (refine TW.go ?_;simp[wT,au,aF,mD,hU,fu,BF];repeat' first|intro hc|refine aa.mk ?_|refine aI ?_|refine af ?_ ?_)
    exact oW [] []
  ·obtain rfl:j=L.length:=by omega
   (refine TW.go ?_;simp[aG];repeat' first|intro hc|refine aa.mk ?_|refine aI ?_|refine af ?_ ?_)
   exact⟨k+1,⟨by omega,step (by rw[kF];exact kE hg)⟩,by omega,Wk.own [0] [] (by simp) (by simp) (by simp[wT]) (by simp) (by simp)⟩
 ·obtain rfl:k=w.ai.length:=by omega
  rw[bw hf];(refine TW.go ?_;simp;repeat' first|intro hc|refine aa.mk ?_|refine aI ?_|refine af ?_ ?_)
  exact oW [] []
def Ni (w:az):Bool:=cY w.ai&&qF w&&wo w&&decide (w.bC.length≤16)&&w.bC.all (od w)
theorem JZ {w:az}(hs:cY w.ai=true)(hle:ju w.ai 4294967280):oc w:=
 ⟨mf hs,hle.2,fun i hi=>by
  refine⟨tp hs hi,?_⟩;have h5:=mf hs;simp only[cY,Bool.and_eq_true,bd,oY,decide_eq_true_eq]at hs;exact(hs.1.2 i (by omega)).2⟩
theorem J0 {w:az}(hm:qF w=true):pe w:=fun s hs=>by
 obtain⟨i,hi,rfl⟩:=List.getElem_of_mem hs;simp only[qF,Bool.and_eq_true,bd,mj]at hm;have:=(hm.2 i hi).1.1.1.1.1
 have e:setAt w (i:Nat)=w.an[i]:=by rw[setAt,List.getD_eq_getElem?_getD,show((i:Nat):Int).toNat=i by omega,List.getElem?_eq_getElem hi];rfl
 rwa[e]at this
theorem BG (w:az)(hle:ju w.ai 4294967280)(xR:∀r∈w.rounds,pd r 4294967296):TC Tw.prog na 18 [gW w] 0 [] (gB (Ni w)) []:=by
 have hL:ju w.ai 4294967290:=⟨by have:=hle.1;omega,fun g hg=>by have:=hle.2 g hg;exact⟨by have:=this.1;omega,by have:=this.2;omega⟩⟩
 have hS:=Al w.ai hL;unfold Ni
 cases b1:cY w.ai
 ·rw[b1]at hS
  refine tE Tryz.f18 Tryz.ntmps18 (by rw[Tryz.results18]) ?_
  (refine TW.go ?_;simp[wT];repeat' first|intro hc|refine aa.mk ?_|refine aI ?_|refine af ?_ ?_|(refine cP ?_;refine⟨_,hS,?_⟩;simp[wT]))
  exact oW [] []
 rw[b1]at hS;have Nj:=JZ b1 hle;have hM:=JX (E:=na) w Nj xR
 cases b2:qF w
 ·rw[b2]at hM
  refine tE Tryz.f18 Tryz.ntmps18 (by rw[Tryz.results18]) ?_
  (refine TW.go ?_;simp[wT];repeat' first|intro hc|refine aa.mk ?_|refine aI ?_|refine af ?_ ?_|(refine cP ?_;(first|refine⟨_,hS,?_⟩|refine⟨_,hM,?_⟩);simp[wT]))
  exact oW [] []
 rw[b2]at hM;have cO:=J0 b2;have hG:=RP (E:=na) w Nj cO
 cases b3:wo w
 ·rw[b3]at hG
  refine tE Tryz.f18 Tryz.ntmps18 (by rw[Tryz.results18]) ?_
  (refine TW.go ?_;simp[wT];repeat' first|intro hc|refine aa.mk ?_|refine aI ?_|refine af ?_ ?_|(refine cP ?_;(first|refine⟨_,hS,?_⟩|refine⟨_,hM,?_⟩|refine⟨_,hG,?_⟩);simp[wT]))
  exact oW [] []
 rw[b3]at hG;by_cases b4:16<w.bC.length
 ·have tx:16<(w.bC.length:Int):=by omega
  rw[decide_eq_false (show¬w.bC.length≤16 by omega)]
  refine tE Tryz.f18 Tryz.ntmps18 (by rw[Tryz.results18]) ?_
  (refine TW.go ?_;simp[wT,tx];repeat' first|intro hc|refine aa.mk ?_|refine aI ?_|refine af ?_ ?_|(refine cP ?_;(first|refine⟨_,hS,?_⟩|refine⟨_,hM,?_⟩|refine⟨_,hG,?_⟩);simp[wT,tx]))
  exact oW [] []
 have tx:¬16<(w.bC.length:Int):=by omega
 rw[decide_eq_true (show w.bC.length≤16 by omega)]
 simp only[Bool.true_and];have hlen:w.bC.length≤maxLen:=by simp only[maxLen];omega
 refine tE Tryz.f18 Tryz.ntmps18 (by rw[Tryz.results18]) ?_
 (refine TW.go ?_;simp[wT,tx];repeat' first|intro hc|refine aa.mk ?_|refine aI ?_|refine af ?_ ?_|(refine cP ?_;(first|refine⟨_,hS,?_⟩|refine⟨_,hM,?_⟩|refine⟨_,hG,?_⟩);simp[wT,tx]))
 refine tL (fun(k:Nat)=>⟨[(1,.s (.ptr 0 0)),(26,gR (qu w.bC)),(27,gI .i64 w.bC.length),(28,gI .i64 (k:Nat))],[(0,.box ((wT w).map .r))],1⟩) (fun k=>k≤w.bC.length∧∀i,i<k→∀x,w.bC[i]?=some x→od w x=true) (fun k=>w.bC.length-k) 0 ⟨by omega,fun i hi=>by omega⟩ (Wk.own [0] [] (by simp) (by simp) (by simp[wT]) (by simp) (by simp)) fun k hk=>?_
 obtain⟨hk,hf⟩:=hk;by_cases aj:k<w.bC.length
 ·have he:w.bC[k]?=some w.bC[k]:=List.getElem?_eq_getElem aj
  have aA:(k:Int)<(w.bC.length:Int):=by omega
  have aG:=wrap_add aj hlen;have hP:=RN (E:=na) w w.bC[k] Nj cO;have cK:=List.getElem_mem aj;generalize w.bC[k]=p at*
  cases hb:od w p
  ·rw[hb]at hP
   rw[nc cK hb];(refine TW.go ?_;simp[wT,bP,he,aA,aG];repeat' first|intro hc|refine aa.mk ?_|refine aI ?_|refine af ?_ ?_|(refine cP ?_;refine⟨_,hP,?_⟩;simp[wT,bP,he,aA,aG]))
   exact oW [] []
  ·rw[hb]at hP
   (refine TW.go ?_;simp[wT,bP,he,aA,aG];repeat' first|intro hc|refine aa.mk ?_|refine aI ?_|refine af ?_ ?_|(refine cP ?_;refine⟨_,hP,?_⟩;simp[wT,bP,he,aA,aG]))
   exact⟨k+1,⟨by omega,fun i hi x hx=>by
    rcases Nat.lt_succ_iff_lt_or_eq.1 hi with hi|rfl
    ·exact hf i hi x hx
    ·rw[he]at hx;cases hx;exact hb⟩,by omega,Wk.own [0] [] (by simp) (by simp) (by simp[wT]) (by simp) (by simp)⟩
 ·obtain rfl:k=w.bC.length:=by omega
  rw[kE hf];(refine TW.go ?_;simp;repeat' first|intro hc|refine aa.mk ?_|refine aI ?_|refine af ?_ ?_)
  exact oW [] []
end Go.Proofs.YtlhohdjniaebbaaGreat.T
