/-
What is proved: quiet periods over trees. Conditions: as stated.
-/
import Derived.Test.YtabjbdnokpjipaaGreatRw48
set_option linter.unusedVariables false
set_option linter.unusedSimpArgs false
namespace Go.Proofs.YtabjbdnokpjipaaGreat.T
open Go Go.RowKit
set_option maxRecDepth 100000
set_option maxHeartbeats 4000000
variable {E:List PanicEntry→World→Prop}
theorem Oi {w:aA}(h:b_ w):∀k,b_ (dG w k)
 |0=>{h with nl:=by simp[dG],aX:=fun p hp=>by simp[dG]at hp}
 |k+1=>(Oi h k).event _ _
theorem zS {w:aA}(h:cw 1500 w):∀{k:Nat},cw (1500+5*k) (dG w k)
 |0=>{h with nl:=by simp[dG],aX:=fun p hp=>by simp[dG]at hp}
 |k+1=>(zS h (k:=k)).event _ _
theorem Ec {w:aA}{n:Nat}(h:cw n w):∀{k:Nat},cw (n+5*k) (dG w k)
 |0=>{h with nl:=by simp[dG],aX:=fun p hp=>by simp[dG]at hp}
 |k+1=>(Ec h (k:=k)).event _ _
theorem sK (w:aA)(h:b_ w)(hs:cw 1900 w):TC Tw.prog bq 16 [gW w] 0 [] (gW (mj w)) []:=by
 have vW:=h.l_;have hV:=qc w h (hs.mono (by omega))
 have hC:=yJ (E:=bq) w (hs.mono (by omega))
 have hlen:w.aj.length≤maxLen:=by simp only[maxLen];omega
 unfold mj;refine tE Tryz.f16 Tryz.ntmps16 (by rw[Tryz.results16]) ?_
 (refine TW.go ?_;simp[wT];repeat' first|intro hc|refine aa.mk ?_|refine aI ?_|refine af ?_ ?_|(refine cP ?_;refine⟨_,hV,?_⟩;simp[wT])|(refine cF [] 5 ?_;refine⟨_,_,hC,?_⟩;simp[wT]))
 refine⟨TW.weaken ⟨[(2,.s (.ptr 0 0)),(3,.s (.ptr 1 0)),(14,gI .i64 w.aj.length),(15,gI .i64 0)],[(0,.box [.r .nil,.r .nil,.r .nil,.r .nil,.r .nil]),(1,.box [.r (kz w.aj),.r (dq w.ae),.r (zx w.rounds),.r (rS w.aP),.r .nil])],2⟩
  (kO [1,7] [2,3,4,5,6]) (TW.le [(2,.s (.ptr 0 0)),(3,.s (.ptr 1 0)),(14,gI .i64 w.aj.length),(15,gI .i64 0)] [(0,.box [.r .nil,.r .nil,.r .nil,.r .nil,.r .nil]),(1,.box ((wT (dG w 0)).map .r))] (by simp) ⟨rfl,az.le_refl _,rfl,?_,trivial⟩ (Nu.get ?_))⟩
 ·show _∧_∧_∧_∧_∧_
  exact⟨TV.le_refl _,TV.le_refl _,TV.le_refl _,TV.le_refl _,TV.le_nil 5,trivial⟩
 refine tL (fun(k:Nat)=>⟨[(2,.s (.ptr 0 0)),(3,.s (.ptr 1 0)),(14,gI .i64 w.aj.length),(15,gI .i64 (k:Nat))],[(0,.box [.r .nil,.r .nil,.r .nil,.r .nil,.r .nil]),(1,.box ((wT (dG w k)).map .r))],2⟩) (fun k=>k≤w.aj.length) (fun k=>w.aj.length-k) 0 (by omega) (Wk.own [0,1] [] (by simp) (by simp) (by simp[wT]) (by simp) (by simp)) fun k hk=>?_
 by_cases ak:k<w.aj.length
 ·have an:(k:Int)<(w.aj.length:Int):=by omega
  have aE:=wrap_add ak hlen;have hDo:=D8 (dG w k) 7 (k:Nat) (Oi h k) ((Ec hs (k:=k)).mono (by omega))
  have hv:dG w (k+1)=h_ (dG w k) 7 (k:Nat):=rfl
  rw[←hv]at hDo;clear hv;generalize hv:dG w (k+1)=v at*;generalize dG w k=u at*;(refine TW.go ?_;simp[wT,an,aE];repeat' first|intro hc|refine aa.mk ?_|refine aI ?_|refine af ?_ ?_|(refine cP ?_;refine⟨_,hDo,?_⟩;simp[wT,an,aE]))
  exact⟨k+1,by omega,by omega,Wk.own [0,1] [] (by simp) (by simp) (by simp[wT,hv]) (by simp) (by simp)⟩
 ·obtain rfl:k=w.aj.length:=by omega
  generalize dG w w.aj.length=u at*;(refine TW.go ?_;simp[wT];repeat' first|intro hc|refine aa.mk ?_|refine aI ?_|refine af ?_ ?_)
  refine aT.own [] [] (by simp;rfl) (by simp[wT]) (by simp) (by simp) (by simp[wT]) (by simp)
theorem BC (w:aA)(h:b_ w)(hs:cw 2000 w){g:Nat}(hg:g<5)(hp:(gAt w.ae g).pend=[]):TC Tw.prog E 20 [.a ((au (gAt w.ae g)).map .r)] 0 [] (gI .i64 (-1)) []:=by
 have xj:=hs.dS _ (List.mem_of_getElem? (cu (gs:=w.ae) (i:=g) (by have:=hs.g5;omega)))
 have hV:=iU (E:=E) (gAt w.ae g) (by have:=xj.1;exact⟨by omega,by omega⟩)
 rw[mg,(h.gs.dS g hg).1]at hV;generalize gAt w.ae g=G at*;obtain⟨gi,gc,gp,gd⟩:=G;simp only at hp
 subst hp;refine tE Tryz.f20 Tryz.ntmps20 (by rw[Tryz.results20]) ?_
 (refine TW.go ?_;simp[au];repeat' first|intro hc|refine aa.mk ?_|refine aI ?_|refine af ?_ ?_|(refine cP ?_;refine⟨_,hV,?_⟩;simp[au]))
 exact oW [] []
def qe (m:Int):aB:=⟨m,0,0,false⟩
theorem Rk (L:List Int)(hl:L.length≤4000)(hm:∀m∈L,0≤m∧m<12)(hn:L.Nodup):TC Tw.prog E 38 [gR (aY L)] 0 [] (gB true) []:=by
 have hlen:L.length≤maxLen:=by simp only[maxLen];omega
 have R8:gS (L.map qe) 0=[.r (rB false),.r (rB false),.r (rB false),.r (rB false),.r (rB false),.r (rB false),.r (rB false),.r (rB false),.r (rB false),.r (rB false),.r (rB false),.r (rB false)]:=by simp[gS,zz,List.range_succ]
 refine tE Tryz.f38 Tryz.ntmps38 (by rw[Tryz.results38]) ?_
 (refine TW.go ?_;simp;repeat' first|intro hc|refine aa.mk ?_|refine aI ?_|refine af ?_ ?_)
 refine tL (fun(k:Nat)=>⟨[(3,.s (.ptr 0 0)),(6,gR (aY L)),(7,gI .i64 L.length),(8,gI .i64 (k:Nat))],[(0,.box (gS (L.map qe) k))],1⟩) (fun k=>k≤L.length) (fun k=>L.length-k) 0 (by omega) (Wk.own [0] [] (by simp) (by simp) (by simp[R8]) (by simp) (by simp)) fun k hk=>?_
 by_cases ak:k<L.length
 ·have he:L[k]?=some L[k]:=List.getElem?_eq_getElem ak
  have an:(k:Int)<(L.length:Int):=by omega
  have aE:=wrap_add ak hlen;obtain⟨m0,m1⟩:=hm _ (List.getElem_mem ak);have he2:(L.map qe)[k]?=some (qe L[k]):=by rw[List.getElem?_map,he];rfl
  have adW:sX (L.map qe) k L[k]=false:=by
   unfold sX;rw[List.any_eq_false];intro e cH heq;rw[←List.map_take]at cH;obtain⟨x,hx,rfl⟩:=List.mem_map.1 cH;have JI:x=L[k]:=of_decide_eq_true heq
   subst JI;obtain⟨i,hi,ES⟩:=List.getElem_of_mem hx;rw[List.getElem_take]at ES;have He:i<k:=by rw[List.length_take]at hi;omega
   exact absurd ES (List.pairwise_iff_getElem.1 hn i k (by omega) ak He)
  have hM:=fL (E:=E) L[k];rw[show bj L[k]=true by simp[bj];omega]at hM
  have dR:=Dx (L.map qe) k m0 m1;rw[adW]at dR;have bT:=Dy (L.map qe) k he2 m0 m1;have Dq:=me (L.map qe) k;rw[show(qe L[k]).m=L[k]from rfl]at bT
  generalize L[k]=m at*;generalize L.map qe=es at*;(refine TW.go ?_;simp[an,he,m0,dR,bT,Dq,aE];repeat' first|intro hc|refine aa.mk ?_|refine aI ?_|refine af ?_ ?_|(refine cP ?_;refine⟨_,hM,?_⟩;simp[an,he,m0,dR,bT,Dq,aE]))
  refine⟨k+1,by omega,by omega,Wk.own [0] [] (by simp) (by simp) (by simp;exact⟨fun a ha=>by obtain⟨c,rfl⟩:=yw ha;rfl,fun b x hx hb=>by obtain⟨c,rfl⟩:=yw hx;cases hb⟩) (by simp) (by simp)⟩
 ·obtain rfl:k=L.length:=by omega
  (refine TW.go ?_;simp;repeat' first|intro hc|refine aa.mk ?_|refine aI ?_|refine af ?_ ?_)
  exact oW [] []
theorem Ed (w:aA)(h:b_ w)(hs:cw 2000 w):TC Tw.prog E 19 [gR (ny w)] 0 [] (gB true) []:=by
 have zC:=hs.g5;have hlen:w.ae.length≤maxLen:=by simp only[maxLen];omega
 have h6:¬6<(w.ae.length:Int):=by omega
 refine tE Tryz.f19 Tryz.ntmps19 (by rw[Tryz.results19]) ?_
 (refine TW.go ?_;simp[h6];repeat' first|intro hc|refine aa.mk ?_|refine aI ?_|refine af ?_ ?_)
 refine tL (fun(k:Nat)=>⟨[(8,gR (ny w)),(9,gI .i64 w.ae.length),(10,gI .i64 (k:Nat))],[],0⟩) (fun k=>k≤w.ae.length) (fun k=>w.ae.length-k) 0 (by omega) (kO [] []) fun k hk=>?_
 by_cases ak:k<w.ae.length
 ·have an:(k:Int)<(w.ae.length:Int):=by omega
  have aE:=wrap_add ak hlen;have hG:=nZ (w:=w) ak;have hv:=(h.gs.dS k (by omega)).1
  have hT:=Rk (E:=E) (cr (gAt w.ae k)) (by rw[List.length_map];have:=(hs.dS _ (List.mem_of_getElem? (cu ak))).1;omega) (fun m hm=>by
   obtain⟨e,he,rfl⟩:=uF.1 hm;obtain⟨a,b, -, -⟩:=h.gs.lJ k e.m e (by omega) (jJ hv he).1
   exact⟨a,by have:=h.l_;omega⟩) (DW hv)
  generalize cr (gAt w.ae k)=L at*;(refine TW.go ?_;simp[an,hG,aE];repeat' first|intro hc|refine aa.mk ?_|refine aI ?_|refine af ?_ ?_|(refine cP ?_;refine⟨_,hT,?_⟩;simp[an,hG,aE]))
  exact⟨k+1,by omega,by omega,kO [] []⟩
 ·obtain rfl:k=w.ae.length:=by omega
  (refine TW.go ?_;simp;repeat' first|intro hc|refine aa.mk ?_|refine aI ?_|refine af ?_ ?_)
  exact oW [] []
end Go.Proofs.YtabjbdnokpjipaaGreat.T
