/-
What is proved: what the reference's events do to trees ('l51Do_T'). No condition but the shape of the world. what the reader of a code does to trees: it opens, and it picks a number. No condition but the lengths and ranges that each states. what the small draws do to trees: a stamp, an event, new groups and worlds. No condition but the ranges that each states.
-/
import Derived.Test.YtjklkppncmhehaaGreatRx39
import Derived.Test.YtjklkppncmhehaaGreatRx34
set_option linter.unusedVariables false
set_option linter.unusedSimpArgs false
namespace Go.Proofs.YtjklkppncmhehaaGreat.T
open Go Go.RowKit
set_option maxRecDepth 100000
set_option maxHeartbeats 4000000
variable {E:List PanicEntry→World→Prop}
theorem MK (w:aL)(p:lP)(h:oH w)(hp:wI w p):TC Tw.prog E 202 [gW w,gP p] 0 [] (gW (wH w p)) []:=by
 obtain⟨h0,h1,h2,h3⟩:=hp;have hg5:=h.g5;have Qp:=h.rl;have iI:=h.sl;have hG:=dt (gs:=w.aU) (i:=p.g.toNat) (by omega)
 have VK:=h.yk _ (List.mem_of_getElem? hG);have hR:=CY h h0 h1;have hS:=AJ h h0 h1;have Ty:=h.Wc h0 h1;refine tE Tryz.f202 Tryz.ntmps202 (by rw[Tryz.results202]) ?_
 unfold wH;by_cases k1:p.k=1
 ·rw[if_pos k1]
  generalize aB w.aU p.g.toNat=G at*;have ML:eE G 4294967290:=by have:=VK.1;exact⟨by omega,by omega⟩
  cases hb:(au G p.m).2.2
  ·rw[if_neg (by simp)]
   (refine TW.go ?_;simp[wT,dE,af,k1,h2,hG,hb];repeat' first|intro hc|refine U.mk ?_|refine aI ?_|refine aa ?_ ?_|(refine cF [] 5 ?_;refine⟨_,_,fT w h,?_⟩;simp[wT,dE,af,k1,h2,hG,hb])|(refine cF [] 2 ?_;refine⟨_,_,kK G p.m ML VK.2,?_⟩;simp[wT,dE,af,k1,h2,hG,hb]))
   refine aE.own [] [3,4,5,6,7] (by simp;rfl) (by simp[wT,af]) (by simp) (by simp) (by simp[wT,af]) (by simp)
  ·rw[if_pos rfl]
   have hP:=pV (E:=E) ⟨w.aP,w.aU.set p.g.toNat (au G p.m).1,w.rounds,w.bP,w.cb⟩ ⟨2,p.m,p.g,(au G p.m).2.1.1,(au G p.m).2.1.2⟩ h.nl;generalize fQ ⟨w.aP,w.aU.set p.g.toNat (au G p.m).1,w.rounds,w.bP,w.cb⟩ ⟨2,p.m,p.g,(au G p.m).2.1.1,(au G p.m).2.1.2⟩=v at*;simp[gW,wT,bO,af]at hP;(refine TW.go ?_;simp[wT,dE,af,k1,h2,hG,hb];repeat' first|intro hc|refine U.mk ?_|refine aI ?_|refine aa ?_ ?_|(refine cF [] 5 ?_;refine⟨_,_,fT w h,?_⟩;simp[wT,dE,af,k1,h2,hG,hb])|(refine cF [] 2 ?_;refine⟨_,_,kK G p.m ML VK.2,?_⟩;simp[wT,dE,af,k1,h2,hG,hb])|(refine cF [3,4,5,6,7] 0 ?_;refine⟨_,_,hP,?_⟩;simp[wT,dE,af,k1,h2,hG,hb]))
   refine aE.own [] [] (by simp;rfl) (by simp[wT]) (by simp) (by simp) (by simp[wT]) (by simp)
 ·rw[if_neg k1]
  by_cases k2:p.k=2
  ·rw[if_pos k2]
   cases bk:rV w p.m
   ·rw[if_neg (by simp)]
    generalize XQ:cW w p.m=r at*
    cases hb:(oE r p.t p.s).2
    ·rw[if_neg (by simp)]
     (refine TW.go ?_;simp[wT,dE,bj,k2,h0,hS,bk,hR,hb];repeat' first|intro hc|refine U.mk ?_|refine aI ?_|refine aa ?_ ?_|(refine cF [] 5 ?_;refine⟨_,_,fT w h,?_⟩;simp[wT,dE,bj,k2,h0,hS,bk,hR,hb])|(refine cF [] 2 ?_;refine⟨_,_,CW r p.t p.s Ty,?_⟩;simp[wT,dE,bj,k2,h0,hS,bk,hR,hb]))
     refine aE.own [] [3,4,5,6,7] (by simp;rfl) (by simp[wT,bj]) (by simp) (by simp) (by simp[wT,bj]) (by simp)
    ·rw[if_pos rfl]
     have NY:=mh h h0 h1;rw[XQ]at NY;have hT:=AI (E:=E) ⟨w.aP,w.aU,w.rounds.set p.m.toNat (oE r p.t p.s).1,w.bP,w.cb⟩ p.m ((h.mono (Nat.le_succ _)).Fp p.m.toNat (ME p.t p.s NY)) h0 h1;generalize rr ⟨w.aP,w.aU,w.rounds.set p.m.toNat (oE r p.t p.s).1,w.bP,w.cb⟩ p.m=v at*;simp[gW,wT,MB,bj]at hT;(refine TW.go ?_;simp[wT,dE,bj,k2,h0,hS,bk,hR,hb];repeat' first|intro hc|refine U.mk ?_|refine aI ?_|refine aa ?_ ?_|(refine cF [] 5 ?_;refine⟨_,_,fT w h,?_⟩;simp[wT,dE,bj,k2,h0,hS,bk,hR,hb])|(refine cF [] 2 ?_;refine⟨_,_,CW r p.t p.s Ty,?_⟩;simp[wT,dE,bj,k2,h0,hS,bk,hR,hb])|(refine cF [3,4,5,6,7] 0 ?_;refine⟨_,_,hT,?_⟩;simp[wT,dE,bj,k2,h0,hS,bk,hR,hb]))
     refine aE.own [] [] (by simp;rfl) (by simp[wT]) (by simp) (by simp) (by simp[wT]) (by simp)
   ·rw[if_pos rfl]
    (refine TW.go ?_;simp[wT,dE,k2,h0,hS,bk];repeat' first|intro hc|refine U.mk ?_|refine aI ?_|refine aa ?_ ?_|(refine cF [] 5 ?_;refine⟨_,_,fT w h,?_⟩;simp[wT,dE,k2,h0,hS,bk]))
    refine aE.own [] [3,4,5,6,7] (by simp;rfl) (by simp[wT]) (by simp) (by simp) (by simp[wT]) (by simp)
  ·rw[if_neg k2]
   by_cases k3:p.k=3
   ·rw[if_pos k3]
    generalize aB w.aU p.g.toNat=G at*;have ML:=VK.mono (n':=4294967290) (by omega)
    (refine TW.go ?_;simp[wT,dE,af,k3,h2,hG];repeat' first|intro hc|refine U.mk ?_|refine aI ?_|refine aa ?_ ?_|(refine cF [] 5 ?_;refine⟨_,_,fT w h,?_⟩;simp[wT,dE,af,k3,h2,hG])|(refine cF [] 3 ?_;refine⟨_,_,rv G p.m p.t p.s ML,?_⟩;simp[wT,dE,af,k3,h2,hG]))
    refine aE.own [] [3,4,5,6,7] (by simp;rfl) (by simp[wT,af]) (by simp) (by simp) (by simp[wT,af]) (by simp)
   ·rw[if_neg k3]
    (refine TW.go ?_;simp[wT,dE,k1,k2,k3];repeat' first|intro hc|refine U.mk ?_|refine aI ?_|refine aa ?_ ?_|(refine cF [] 5 ?_;refine⟨_,_,fT w h,?_⟩;simp[wT,dE,k1,k2,k3]))
    refine aE.own [] [3,4,5,6,7] (by simp;rfl) (by simp[wT]) (by simp) (by simp) (by simp[wT]) (by simp)
abbrev gE (k a:Int):GV:= .a [.r (rI k),.r (rI a)]
theorem wR (w:aL)(k a:Int)(h:oH w):TC Tw.prog E 177 [gW w,gE k a] 0 [] (gW (JI w k a)) []:=by
 have yg:=h.nl;have hw:IntKind.i64.wrap ((w.cb.length:Int)-1)=(w.cb.length:Int)-1:=aG (by omega) (by omega)
 refine tE Tryz.f177 Tryz.ntmps177 (by rw[Tryz.results177]) ?_
 unfold JI;by_cases ha:a<0
 ·rw[if_pos ha]
  have Fj:¬0≤a:=by omega
  (refine TW.go ?_;simp[wT,hw,Fj];repeat' first|intro hc|refine U.mk ?_|refine aI ?_|refine aa ?_ ?_|(refine cP ?_;refine⟨_,dT _ _ _,?_⟩;simp[wT,hw,Fj]))
  refine aE.own [] [] (by simp;rfl) (by simp[wT]) (by simp) (by simp) (by simp[wT]) (by simp)
 ·rw[if_neg ha]
  have fS:0≤a:=by omega
  rcases hn:w.cb[a.toNat]? with _|p
  ·have zl:=List.getElem?_eq_none_iff.1 hn
   have cG:¬a≤(w.cb.length:Int)-1:=by omega
   have Tz:¬a<(w.cb.length:Int):=by omega
   (refine TW.go ?_;simp[wT,hw,fS,cG,Tz];repeat' first|intro hc|refine U.mk ?_|refine aI ?_|refine aa ?_ ?_|(refine cP ?_;refine⟨_,dT _ _ _,?_⟩;simp[wT,hw,fS,cG,Tz]))
   refine aE.own [] [] (by simp;rfl) (by simp[wT]) (by simp) (by simp) (by simp[wT]) (by simp)
  ·have ai:=(List.getElem?_eq_some_iff.1 hn).1
   have cG:a≤(w.cb.length:Int)-1:=by omega
   have Tz:a<(w.cb.length:Int):=by omega
   have hpk:=h.cb p (List.mem_of_getElem? hn);simp only
   by_cases k4:k=4
   ·rw[if_pos k4]
    (refine TW.go ?_;simp[wT,dE,hw,fS,cG,hn,k4];repeat' first|intro hc|refine U.mk ?_|refine aI ?_|refine aa ?_ ?_|(refine cP ?_;(first|refine⟨_,dT _ _ _,?_⟩|refine⟨_,pV w p yg,?_⟩);simp[wT,dE,hw,fS,cG,hn,k4]))
    refine aE.own [] [] (by simp;rfl) (by simp[wT]) (by simp) (by simp) (by simp[wT]) (by simp)
   ·rw[if_neg k4]
    have TA:IntKind.i64.wrap (a+1)=a+1:=aG (by omega) (by omega)
    have TB:(a+1).toNat=a.toNat+1:=by omega
    have oF:0≤a+1:=by omega
    have wP:=List.eraseIdx_eq_take_drop_succ w.cb a.toNat;have hH:=MK (E:=E) ⟨w.aP,w.aU,w.rounds,w.bP,w.cb.eraseIdx a.toNat⟩ p (h.erase _) hpk;by_cases k2:k=2
    ·rw[if_pos k2]
     generalize wH ⟨w.aP,w.aU,w.rounds,w.bP,w.cb.eraseIdx a.toNat⟩ p=v at*;simp[gW,wT,V7,wP]at hH;(refine TW.go ?_;simp[wT,dE,hw,fS,oF,cG,hn,k2,TA,TB,maxLen];repeat' first|intro hc|refine U.mk ?_|refine aI ?_|refine aa ?_ ?_|(refine cP ?_;refine⟨_,dT _ _ _,?_⟩;simp[wT,dE,hw,fS,oF,cG,hn,k2,TA,TB,maxLen])|(refine cF [6] 0 ?_;refine⟨_,_,hH,?_⟩;simp[wT,dE,hw,fS,oF,cG,hn,k2,TA,TB,maxLen]))
     refine aE.own [] [] (by simp;rfl) (by simp[wT]) (by simp) (by simp) (by simp[wT]) (by simp)
    ·rw[if_neg k2]
     (refine TW.go ?_;simp[wT,dE,hw,fS,oF,cG,hn,k4,k2,TA,TB,maxLen];repeat' first|intro hc|refine U.mk ?_|refine aI ?_|refine aa ?_ ?_|(refine cP ?_;refine⟨_,dT _ _ _,?_⟩;simp[wT,dE,hw,fS,oF,cG,hn,k4,k2,TA,TB,maxLen]))
     refine aE.own [] [6] (by simp;rfl) (by simp[wT,wP]) (by simp) (by simp) (by simp[wT,wP]) (by simp)
theorem TE {w:aL}{n:Nat}(h:dy n w){a:Int}(fS:0≤a)(oF:a<w.aP.length):dy n (k_ w a (ik (cW w a)))∧(k_ w a (ik (cW w a))).aP=w.aP:=by
 refine⟨dy.AB (fun g=>⟨1,a,g,0,0⟩) _ w h fun g hg=>?_,nL _ _ _⟩
 unfold ik at hg;split at hg
 ·rename_i hb
  have hg:=(List.mem_filter.1 hg).1;simp only[rm,Bool.and_eq_true]at hb;have hs:=hb.2;simp only[fy,Bool.and_eq_true,cm,List.all_eq_true,List.mem_range]at hs;obtain⟨i,hi,rfl⟩:=List.getElem_of_mem hg;have:=hs.1 i hi
  simp only[oA,Bool.and_eq_true,bF]at this;have:=this.1
  rw[List.getD_eq_getElem?_getD,List.getElem?_eq_getElem hi]at this;have:0≤(cW w a).gs[i]∧(cW w a).gs[i]<5:=by simpa using this
  exact⟨fS,oF,this.1,this.2⟩
 ·cases hg
theorem Fu (w:aL)(k a:Int)(h:oH w):TC Tw.prog E 178 [gW w,gE k a] 0 [] (gW (ru w k a)) []:=by
 have Tx:=h.Qm;have iI:=h.sl;have hw:IntKind.i64.wrap ((w.aP.length:Int)-1)=(w.aP.length:Int)-1:=aG (by omega) (by omega)
 refine tE Tryz.f178 Tryz.ntmps178 (by rw[Tryz.results178]) ?_
 unfold ru;by_cases ha:a<0∨(w.aP.length:Int)≤a
 ·rw[if_pos ha]
  have cG:¬(0≤a∧a≤(w.aP.length:Int)-1):=by omega
  (refine TW.go ?_;simp[wT,hw,cG];repeat' first|intro hc|refine U.mk ?_|refine aI ?_|refine aa ?_ ?_|(refine cP ?_;refine⟨_,dT _ _ _,?_⟩;simp[wT,hw,cG]))
  refine aE.own [] [] (by simp;rfl) (by simp[wT]) (by simp) (by simp) (by simp[wT]) (by simp)
 ·rw[if_neg ha]
  have fS:0≤a:=by omega
  have oF:a<w.aP.length:=by omega
  have cG:a≤(w.aP.length:Int)-1:=by omega
  have hR:=CY h fS oF;have hS:=AJ h fS oF;have Qw:=Qv fS oF;by_cases k5:k=5
  ·rw[if_pos k5]
   (refine TW.go ?_;simp[wT,hw,fS,cG,k5,hS];repeat' first|intro hc|refine U.mk ?_|refine aI ?_|refine aa ?_ ?_|(refine cP ?_;refine⟨_,dT _ _ _,?_⟩;simp[wT,hw,fS,cG,k5,hS])|(refine cF [] 5 ?_;refine⟨_,_,fT w h,?_⟩;simp[wT,hw,fS,cG,k5,hS]))
   refine aE.own [] [3,4,5,6,7] (by simp;rfl) (by simp[wT]) (by simp) (by simp) (by simp[wT]) (by simp)
  ·rw[if_neg k5]
   by_cases k6:k=6
   ·rw[if_pos k6]
    cases bk:rV w a
    ·rw[if_neg (by simp)]
     have Ty:=h.Wc fS oF;have hM:=sw (E:=E) (cW w a) ⟨by have:=Ty.1;omega,by have:=Ty.2;omega⟩
     have hA:=CX (E:=E) w a (ik (cW w a)) h.nl;obtain⟨Lj,H2⟩:=TE h fS oF;have hT:=AI (E:=E) (k_ w a (ik (cW w a))) a Lj fS (by rw[H2];exact oF)
     generalize rr (k_ w a (ik (cW w a))) a=v at*;generalize k_ w a (ik (cW w a))=u at*;generalize ik (cW w a)=ms at*;generalize cW w a=r at*;(refine TW.go ?_;simp[wT,bj,hw,fS,cG,k5,k6,hS,bk,hR];repeat' first|intro hc|refine U.mk ?_|refine aI ?_|refine aa ?_ ?_|(refine cP ?_;(first|refine⟨_,dT _ _ _,?_⟩|refine⟨_,hM,?_⟩|refine⟨_,hA,?_⟩|refine⟨_,hT,?_⟩);simp[wT,bj,hw,fS,cG,k5,k6,hS,bk,hR]))
     refine aE.own [] [] (by simp;rfl) (by simp[wT]) (by simp) (by simp) (by simp[wT]) (by simp)
    ·rw[if_pos rfl]
     (refine TW.go ?_;simp[wT,hw,fS,cG,k5,k6,hS,bk];repeat' first|intro hc|refine U.mk ?_|refine aI ?_|refine aa ?_ ?_|(refine cP ?_;refine⟨_,dT _ _ _,?_⟩;simp[wT,hw,fS,cG,k5,k6,hS,bk]))
     refine aE.own [] [] (by simp;rfl) (by simp[wT]) (by simp) (by simp) (by simp[wT]) (by simp)
   ·rw[if_neg k6]
    by_cases k7:k=7
    ·rw[if_pos k7]
     have eT:=rW h fS oF;have hL:=CU (E:=E) w.aU (setAt w a) a h.g5 (fun g hg=>(h.yk g hg).mono (by omega)) eT.2.2 eT.1 eT.2.1
     generalize dK w.aU (setAt w a) a=A at*;generalize setAt w a=S at*
     cases hb:A.2
     ·rw[if_neg (by simp)]
      (refine TW.go ?_;simp[wT,hw,fS,cG,k5,k6,k7,Qw,hb];repeat' first|intro hc|refine U.mk ?_|refine aI ?_|refine aa ?_ ?_|(refine cP ?_;refine⟨_,dT _ _ _,?_⟩;simp[wT,hw,fS,cG,k5,k6,k7,Qw,hb])|(refine cF [] 1 ?_;refine⟨_,_,hL,?_⟩;simp[wT,hw,fS,cG,k5,k6,k7,Qw,hb]))
      refine aE.own [] [] (by simp;rfl) (by simp[wT]) (by simp) (by simp) (by simp[wT]) (by simp)
     ·rw[if_pos rfl]
      (refine TW.go ?_;simp[wT,hw,fS,cG,k5,k6,k7,Qw,hb];repeat' first|intro hc|refine U.mk ?_|refine aI ?_|refine aa ?_ ?_|(refine cP ?_;refine⟨_,dT _ _ _,?_⟩;simp[wT,hw,fS,cG,k5,k6,k7,Qw,hb])|(refine cF [] 1 ?_;refine⟨_,_,hL,?_⟩;simp[wT,hw,fS,cG,k5,k6,k7,Qw,hb]))
      refine aE.own [] [3] (by simp;rfl) (by simp[wT]) (by simp) (by simp) (by simp[wT]) (by simp)
    ·rw[if_neg k7]
     (refine TW.go ?_;simp[wT,hw,fS,cG,k5,k6,k7];repeat' first|intro hc|refine U.mk ?_|refine aI ?_|refine aa ?_ ?_|(refine cP ?_;refine⟨_,dT _ _ _,?_⟩;simp[wT,hw,fS,cG,k5,k6,k7]))
     refine aE.own [] [] (by simp;rfl) (by simp[wT]) (by simp) (by simp) (by simp[wT]) (by simp)
theorem TF (w:aL)(k a:Int)(h:oH w):TC Tw.prog E 151 [gW w,gE k a] 0 [] (gW (MC w k a)) []:=by
 refine tE Tryz.f151 Tryz.ntmps151 (by rw[Tryz.results151]) ?_
 unfold MC;by_cases k1:k=1
 ·rw[if_pos k1]
  (refine TW.go ?_;simp[wT,k1];repeat' first|intro hc|refine U.mk ?_|refine aI ?_|refine aa ?_ ?_|(refine cP ?_;refine⟨_,AK w a h,?_⟩;simp[wT,k1]))
  refine aE.own [] [] (by simp;rfl) (by simp[wT]) (by simp) (by simp) (by simp[wT]) (by simp)
 ·rw[if_neg k1]
  by_cases k2:k=2
  ·rw[if_pos (.inl k2)]
   (refine TW.go ?_;simp[wT,k2];repeat' first|intro hc|refine U.mk ?_|refine aI ?_|refine aa ?_ ?_|(refine cP ?_;refine⟨_,wR w 2 a h,?_⟩;simp[wT,k2]))
   refine aE.own [] [] (by simp;rfl) (by simp[wT,k2]) (by simp) (by simp) (by simp[wT,k2]) (by simp)
  ·by_cases k3:k=3
   ·rw[if_pos (.inr (.inl k3))]
    (refine TW.go ?_;simp[wT,k3];repeat' first|intro hc|refine U.mk ?_|refine aI ?_|refine aa ?_ ?_|(refine cP ?_;refine⟨_,wR w 3 a h,?_⟩;simp[wT,k3]))
    refine aE.own [] [] (by simp;rfl) (by simp[wT,k3]) (by simp) (by simp) (by simp[wT,k3]) (by simp)
   ·by_cases k4:k=4
    ·rw[if_pos (.inr (.inr k4))]
     (refine TW.go ?_;simp[wT,k4];repeat' first|intro hc|refine U.mk ?_|refine aI ?_|refine aa ?_ ?_|(refine cP ?_;refine⟨_,wR w 4 a h,?_⟩;simp[wT,k4]))
     refine aE.own [] [] (by simp;rfl) (by simp[wT,k4]) (by simp) (by simp) (by simp[wT,k4]) (by simp)
    ·rw[if_neg (by omega)]
     (refine TW.go ?_;simp[wT,k1,k2,k3,k4];repeat' first|intro hc|refine U.mk ?_|refine aI ?_|refine aa ?_ ?_|(refine cP ?_;refine⟨_,Fu w k a h,?_⟩;simp[wT,k1,k2,k3,k4]))
     refine aE.own [] [] (by simp;rfl) (by simp[wT]) (by simp) (by simp) (by simp[wT]) (by simp)
end Go.Proofs.YtjklkppncmhehaaGreat.T
namespace Go.Proofs.YtjklkppncmhehaaGreat.T
open Go Go.RowKit
set_option maxRecDepth 100000
set_option maxHeartbeats 4000000
variable {E:List PanicEntry→World→Prop}
abbrev eL (bs:List Int):RT:= .sl 1 (bs.map fun b=>[.v (.int .u8 b)])
abbrev rdC (bs:List Int) (p:Int):List TV:=[.r (eL bs),.r (rI p)]
abbrev oI (bs:List Int) (p:Int):aj:= .box (rdC bs p)
abbrev yq:GV:= .s (.ptr 0 0)
structure oJ (bs:List Int):Prop where
 byte:∀b∈bs,0≤b∧b≤255
 len:bs.length≤2000
def iU (bs:List Int)(k:Int):Int:=bs.getD k.toNat 0
def te (bs:List Int)(k:Int):Int:=iU bs (k.tmod bs.length)*131+iU bs ((k*7+3).tmod bs.length)*1117+k*29+k.tdiv bs.length*53
def NH (x:Int):Int:=IntKind.i64.wrap (BitVec.ofInt 64 x^^^BitVec.ofInt 64 (x.tdiv 64)).toNat
def pk (bs:List Int)(k n:Int):Int:=if n<1 then 0 else if bs=[]then 0 else if k<bs.length then(iU bs k).tmod n else(NH (te bs k)).tmod n
theorem ji {bs:List Int}(h:oJ bs)(k:Int):0≤iU bs k∧iU bs k≤255:=by
 unfold iU;rw[List.getD_eq_getElem?_getD]
 cases hb:bs[k.toNat]? with
 |none=>exact⟨by simp,by simp⟩
 |some b=>exact h.byte b (List.mem_of_getElem? hb)
theorem pW {bs:List Int}{k:Int}(h1:k.toNat<bs.length):bs[k.toNat]?=some (iU bs k):=by
 unfold iU;rw[List.getD_eq_getElem?_getD,List.getElem?_eq_getElem h1];rfl
theorem vv {x:Int}(h0:0≤x)(h1:x≤1000000000000000):0≤NH x:=by
 unfold NH;have h2:x.tdiv 64=x / 64:=Int.tdiv_eq_ediv_of_nonneg h0
 obtain⟨a,rfl⟩:=Int.eq_ofNat_of_zero_le h0;rw[h2,show((a:Nat):Int)/ 64=((a / 64:Nat):Int) by omega]
 have ha:∀n:Nat,n<2^62→(BitVec.ofInt 64 (n:Int)).toNat=n:=fun n hn=>by
  rw[BitVec.ofInt_natCast,BitVec.toNat_ofNat];exact Nat.mod_eq_of_lt (by omega)
 rw[BitVec.toNat_xor,ha a (by omega),ha (a / 64) (by omega)]
 have hx:a^^^(a / 64)<2^62:=Nat.xor_lt_two_pow (by omega) (by omega)
 rw[aG (by omega) (by omega)]
 omega
theorem AL {bs:List Int}(h:oJ bs){k:Int}(h0:0≤k)(h1:k≤1000000000):0≤te bs k∧te bs k≤1000000000000000:=by
 have a:=ji h (k.tmod bs.length);have b:=ji h ((k*7+3).tmod bs.length);have hq:k.tdiv bs.length=k / bs.length:=Int.tdiv_eq_ediv_of_nonneg h0
 have h2:0≤k /(bs.length:Int):=Int.ediv_nonneg h0 (by omega)
 have h3:k /(bs.length:Int)≤k:=Int.ediv_le_self _ h0
 unfold te;rw[hq];generalize k /(bs.length:Int)=q at*;omega
theorem oK {bs:List Int}(h:oJ bs){k n:Int}(h0:0≤k)(h1:k≤1000000000):0≤pk bs k n:=by
 unfold pk;split
 ·exact Int.le_refl 0
 ·split
  ·exact Int.le_refl 0
  ·split
   ·exact Int.tmod_nonneg _ (ji h k).1
   ·have:=AL h h0 h1
    exact Int.tmod_nonneg _ (vv this.1 this.2)
theorem fh {bs:List Int}(h:oJ bs){k n:Int}(h0:0≤k)(h1:k≤1000000000)(hn:1≤n):pk bs k n<n:=by
 unfold pk;split
 ·omega
 ·split
  ·omega
  ·split
   ·rw[Int.tmod_eq_emod_of_nonneg (ji h k).1];exact Int.emod_lt_of_pos _ (by omega)
   ·have:=AL h h0 h1
    rw[Int.tmod_eq_emod_of_nonneg (vv this.1 this.2)];exact Int.emod_lt_of_pos _ (by omega)
theorem br {bs:List Int}(h:oJ bs)(p n:Int)(h0:0≤p)(h1:p≤1000000000):TC Tw.prog E 44 [yq,gI .i64 n] 1 [(0,oI bs p)] (gI .i64 (pk bs p n)) [(0,oI bs (p+1))]:=by
 have aD:IntKind.i64.wrap (p+1)=p+1:=aG (by omega) (by omega)
 have hw0:IntKind.i64.wrap p=p:=aG (by omega) (by omega)
 refine tE Tryz.f44 Tryz.ntmps44 (by rw[Tryz.results44]) ?_ (hfit:=(Fits.of (by simp[gA,aj.live]) (by simp) (by simp)))
 unfold pk;by_cases hn:n<1
 ·rw[if_pos hn]
  (refine TW.go ?_;simp[aD,hn];repeat' first|intro hc|refine U.mk ?_|refine aI ?_|refine aa ?_ ?_)
  exact aE.own [] [] (by simp;rfl) (by simp) (by simp) (by simp) (by simp) (by simp)
 ·rw[if_neg hn]
  have BU:¬n=0:=by omega
  by_cases hb:bs=[]
  ·rw[if_pos hb]
   subst hb;(refine TW.go ?_;simp[aD,hn];repeat' first|intro hc|refine U.mk ?_|refine aI ?_|refine aa ?_ ?_)
   exact aE.own [] [] (by simp;rfl) (by simp) (by simp) (by simp) (by simp) (by simp)
  ·rw[if_neg hb]
   have hl:0<bs.length:=List.length_pos_iff.2 hb
   have aY:¬(bs.length:Int)=0:=by omega
   by_cases hk:p<bs.length
   ·rw[if_pos hk]
    have he:=pW (bs:=bs) (k:=p) (by omega)
    have hB:=ji h p;have dQ:∀hh,bs[p.toNat]'hh=iU bs p:=fun hh=>by rw[List.getElem?_eq_getElem hh]at he;exact Option.some.inj he
    generalize iU bs p=B at*;have hwB:IntKind.i64.wrap B=B:=aG (by omega) (by omega)
    (refine TW.go ?_;simp[aD,hw0,hn,BU,hb,hk,h0,he,dQ,hwB];repeat' first|intro hc|refine U.mk ?_|refine aI ?_|refine aa ?_ ?_)
    exact aE.own [] [] (by simp;rfl) (by simp) (by simp) (by simp) (by simp) (by simp)
   ·rw[if_neg hk]
    have hX:=AL h h0 h1;have lG:(0:Int)<bs.length:=by omega
    have Ye:0≤p.tmod bs.length:=Int.tmod_nonneg _ h0
    have BY:0≤(p*7+3).tmod bs.length:=Int.tmod_nonneg _ (by omega)
    have abf:p.tmod bs.length<bs.length:=by rw[Int.tmod_eq_emod_of_nonneg h0];exact Int.emod_lt_of_pos _ lG
    have abg:(p*7+3).tmod bs.length<bs.length:=by rw[Int.tmod_eq_emod_of_nonneg (by omega)];exact Int.emod_lt_of_pos _ lG
    have he1:=pW (bs:=bs) (k:=p.tmod bs.length) (by omega)
    have he2:=pW (bs:=bs) (k:=(p*7+3).tmod bs.length) (by omega)
    have hB1:=ji h (p.tmod bs.length);have hB2:=ji h ((p*7+3).tmod bs.length);have hq:p.tdiv bs.length=p / bs.length:=Int.tdiv_eq_ediv_of_nonneg h0
    have hq0:0≤p.tdiv bs.length:=by rw[hq];exact Int.ediv_nonneg h0 (by omega)
    have Sw:p.tdiv bs.length≤p:=by rw[hq];exact Int.ediv_le_self _ h0
    have hmv:(NH (te bs p)).tmod n=(IntKind.i64.wrap (BitVec.ofInt 64 (te bs p)^^^BitVec.ofInt 64 ((te bs p).tdiv 64)).toNat).tmod n:=rfl
    rw[hmv];have aak:IntKind.i64.wrap ((te bs p).tdiv 64)=(te bs p).tdiv 64:=by
     rw[Int.tdiv_eq_ediv_of_nonneg hX.1];exact aG (by omega) (by omega)
    unfold te at*;generalize iU bs (p.tmod bs.length)=B1 at*;generalize iU bs ((p*7+3).tmod bs.length)=B2 at*;generalize hQ:p.tdiv bs.length=Q at*;clear hq hmv;have w1:IntKind.i64.wrap B1=B1:=aG (by omega) (by omega)
    have w2:IntKind.i64.wrap B2=B2:=aG (by omega) (by omega)
    have w3:IntKind.i64.wrap (B1*131)=B1*131:=aG (by omega) (by omega)
    have w4:IntKind.i64.wrap (B2*1117)=B2*1117:=aG (by omega) (by omega)
    have w5:IntKind.i64.wrap (B1*131+B2*1117)=B1*131+B2*1117:=aG (by omega) (by omega)
    have w6:IntKind.i64.wrap (p*7)=p*7:=aG (by omega) (by omega)
    have w7:IntKind.i64.wrap (p*7+3)=p*7+3:=aG (by omega) (by omega)
    have w8:IntKind.i64.wrap (p*29)=p*29:=aG (by omega) (by omega)
    have w9:IntKind.i64.wrap (B1*131+B2*1117+p*29)=B1*131+B2*1117+p*29:=aG (by omega) (by omega)
    have Zg:IntKind.i64.wrap Q=Q:=aG (by omega) (by omega)
    have zD:IntKind.i64.wrap (Q*53)=Q*53:=aG (by omega) (by omega)
    have w12:IntKind.i64.wrap (B1*131+B2*1117+p*29+Q*53)=B1*131+B2*1117+p*29+Q*53:=aG (by omega) (by omega)
    generalize hXe:B1*131+B2*1117+p*29+Q*53=X at*;(refine TW.go ?_;simp[aD,hw0,hn,BU,hb,hk,he1,he2,Ye,BY,hQ,w1,w2,w3,w4,w5,w6,w7,w8,w9,Zg,zD,w12,hXe,aak];repeat' first|intro hc|refine U.mk ?_|refine aI ?_|refine aa ?_ ?_)
    exact aE.own [] [] (by simp;rfl) (by simp[IntKind.bits]) (by simp) (by simp) (by simp) (by simp)
theorem Qx (bs:List Int):TC Tw.prog E 42 [gR (eL bs)] 0 [] yq [(0,oI (bs.take 2000) 0)]:=by
 refine tE Tryz.f42 Tryz.ntmps42 (by rw[Tryz.results42]) ?_
 by_cases hl:2000<bs.length
 ·have aY:(2000:Int)<(bs.length:Int):=by omega
  (refine TW.go ?_;simp[aY];repeat' first|intro hc|refine U.mk ?_|refine aI ?_|refine aa ?_ ?_)
  exact oW [0] []
 ·have aY:¬(2000:Int)<(bs.length:Int):=by omega
  rw[List.take_of_length_le (by omega)]
  (refine TW.go ?_;simp[aY];repeat' first|intro hc|refine U.mk ?_|refine aI ?_|refine aa ?_ ?_)
  exact oW [0] []
end Go.Proofs.YtjklkppncmhehaaGreat.T
namespace Go.Proofs.YtjklkppncmhehaaGreat.T
open Go Go.RowKit
set_option maxRecDepth 100000
set_option maxHeartbeats 4000000
variable {E:List PanicEntry→World→Prop}
abbrev oL (id:Int):aq:=⟨id,0,[],[]⟩
theorem lH (id:Int)(h:bF id=true):TC Tw.prog E 153 [gI .i64 id] 0 [] (.p [.a [.r (rI id),.r (rI 0),.own 0,.own 1],gB true]) [(0,bW []),(1,bW [])]:=by
 refine tE Tryz.f153 Tryz.ntmps153 (by rw[Tryz.results153]) ?_
 (refine TW.go ?_;simp[h];repeat' first|intro hc|refine U.mk ?_|refine aI ?_|refine aa ?_ ?_|(refine cP ?_;refine⟨_,mU _,?_⟩;simp[h]))
 exact oW [1,2] []
def oM:aL:=⟨[],[oL 0,oL 1,oL 2,oL 3,oL 4],[],[],[]⟩
def vw (k:Nat):List aq:=(List.range k).map fun i=>oL (i:Nat)
theorem MM (k:Nat):vw (k+1)=vw k++[oL (k:Nat)]:=by simp[vw,List.range_succ]
theorem Qy (k:Nat):(vw k).length=k:=by simp[vw]
def lR:Nat→ae
 |0=>⟨[(0,.s (.ptr 0 0)),(1,.s (.ptr 1 0)),(2,gI .i64 0)],[(0,.box [.r .nil,.r .nil,.r .nil,.r .nil,.r .nil]),(1,.box [.r (.sl 1 []),.r .nil,.r (.sl 3 []),.r (.sl 1 []),.r (.sl 5 [])])],2⟩
 |k+1=>⟨[(0,.s (.ptr 0 0)),(1,.s (.ptr 1 0)),(2,gI .i64 ((k:Int)+1))],[(0,.box [.r .nil,.r .nil,.r .nil,.r .nil,.r .nil]),(1,.box [.r (.sl 1 []),.own 2,.r (.sl 3 []),.r (.sl 1 []),.r (.sl 5 [])]),(2,kA (vw (k+1)))],3⟩
theorem yr:TC Tw.prog E 150 [] 0 [] (gW oM) []:=by
 refine tE Tryz.f150 Tryz.ntmps150 (by rw[Tryz.results150]) ?_
 (refine TW.go ?_;simp;repeat' first|intro hc|refine U.mk ?_|refine aI ?_|refine aa ?_ ?_)
 refine tL lR (fun k=>k≤5) (fun k=>5-k) 0 (by omega) (Wk.own [0,5] [1,2,3,4] (by simp) (by simp[lR]) (by simp[lR]) (by simp[lR]) (by simp[lR])) fun k hk=>?_
 by_cases ai:k<5
 ·have ar:(k:Int)<5:=by omega
  have hg:bF (k:Int)=true:=by simp[bF];omega
  have aD:IntKind.i64.wrap ((k:Int)+1)=(k:Int)+1:=aG (by omega) (by omega)
  rcases k with _|k
  ·unfold lR
   (refine TW.go ?_;simp[maxLen];repeat' first|intro hc|refine U.mk ?_|refine aI ?_|refine aa ?_ ?_|(refine cF [] 2 ?_;refine⟨_,_,lH 0 rfl,?_⟩;simp[maxLen]))
   exact⟨1,by omega,by omega,Wk.own [0,1,6] [] (by simp) (by simp[lR]) (by simp[lR,vw,af]) (by simp[lR]) (by simp[lR])⟩
  ·have hl:=Qy (k+1)
   unfold lR;simp only[Int.natCast_add,Int.natCast_one]at ar hg aD;(refine TW.go ?_;simp[ar,aD,maxLen];repeat' first|intro hc|refine U.mk ?_|refine aI ?_|refine aa ?_ ?_|(refine cF [] 2 ?_;refine⟨_,_,lH _ hg,?_⟩;simp[ar,aD,maxLen]))
   exact⟨k+2,by omega,by omega,Wk.own [0,1,7] [] (by simp) (by simp[lR]) (by simp[lR,MM (k+1),af]) (by simp[lR]) (by simp[lR])⟩
 ·obtain rfl:k=5:=by omega
  unfold lR;(refine TW.go ?_;simp;repeat' first|intro hc|refine U.mk ?_|refine aI ?_|refine aa ?_ ?_)
  refine aE.own [] [2] (by simp;rfl) (by simp[oM,wT,vw,List.range_succ]) (by simp) (by simp) (by simp[oM,wT,vw,List.range_succ]) (by simp)
theorem wU:dy 0 oM:=by
 refine⟨rfl,?_,by decide,?_,rfl,?_,rfl,by decide,?_⟩
 ·simp[oM,fg]
 ·simp[oM]
 ·simp[oM]
 ·simp[oM]
def Qz (xs:List Int)(k:Int):Int:=xs.getD k.toNat 0
theorem wV {xs:List Int}{k:Int}(h0:0≤k)(h1:k<xs.length):(xs.map fun n=>[rI n])[k.toNat]?=some [rI (Qz xs k)]:=by
 rw[List.getElem?_map,Qz,List.getD_eq_getElem?_getD,List.getElem?_eq_getElem (by omega)]
 rfl
def fU (o:Int→Int→Int)(p:Int):(Int×Int)×Int:=
 if o (p+2) 24=0 then((Qz [0, -1,999,1000] (o (p+3) 4),o (p+1) 5),p+4)
 else if o (p+2) 24=1 then((1+o p 8,o (p+3) 7-1),p+4)else((1+o p 8,o (p+1) 5),p+3)
theorem JS {bs:List Int}(h:oJ bs)(p:Int)(h0:0≤p)(h1:p≤999999990):TC Tw.prog E 154 [yq] 1 [(0,oI bs p)] (ma (fU (pk bs) p).1) [(0,oI bs (fU (pk bs) p).2)]:=by
 have q0:=oK h (k:=p) (n:=8) h0 (by omega)
 have q0':=fh h (k:=p) (n:=8) h0 (by omega) (by omega)
 have q3:=oK h (k:=p+3) (n:=4) (by omega) (by omega)
 have q3':=fh h (k:=p+3) (n:=4) (by omega) (by omega) (by omega)
 have q4:=oK h (k:=p+3) (n:=7) (by omega) (by omega)
 have q4':=fh h (k:=p+3) (n:=7) (by omega) (by omega) (by omega)
 have w1:IntKind.i64.wrap (1+pk bs p 8)=1+pk bs p 8:=aG (by omega) (by omega)
 have w2:IntKind.i64.wrap (pk bs (p+3) 7-1)=pk bs (p+3) 7-1:=aG (by omega) (by omega)
 have ht:=wV (xs:=[0, -1,999,1000]) q3 (by simpa using q3')
 simp only[List.map_cons,List.map_nil]at ht;have e2:p+1+1=p+2:=by omega
 have e3:p+2+1=p+3:=by omega
 have e4:p+3+1=p+4:=by omega
 refine tE Tryz.f154 Tryz.ntmps154 (by rw[Tryz.results154]) ?_ (hfit:=(Fits.of (by simp[gA,aj.live]) (by simp) (by simp)))
 by_cases c0:pk bs (p+2) 24=0
 ·rw[show fU (pk bs) p=((Qz [0, -1,999,1000] (pk bs (p+3) 4),pk bs (p+1) 5),p+4) by rw[fU,if_pos c0]]
  (refine TW.go ?_;simp[w1,c0,e2,e3,e4,ht,q3];repeat' first|intro hc|refine U.mk ?_|refine aI ?_|refine aa ?_ ?_|(refine cR ?_;refine⟨_,_,br h _ _ (by omega) (by omega),?_⟩;simp[w1,c0,e2,e3,e4,ht,q3]))
  exact oW [] []
 ·by_cases c1:pk bs (p+2) 24=1
  ·rw[show fU (pk bs) p=((1+pk bs p 8,pk bs (p+3) 7-1),p+4) by rw[fU,if_neg c0,if_pos c1]]
   (refine TW.go ?_;simp[w1,w2,c1,e2,e3,e4];repeat' first|intro hc|refine U.mk ?_|refine aI ?_|refine aa ?_ ?_|(refine cR ?_;refine⟨_,_,br h _ _ (by omega) (by omega),?_⟩;simp[w1,w2,c1,e2,e3,e4]))
   exact oW [] []
  ·rw[show fU (pk bs) p=((1+pk bs p 8,pk bs (p+1) 5),p+3) by rw[fU,if_neg c0,if_neg c1]]
   (refine TW.go ?_;simp[w1,c0,c1,e2,e3,e4];repeat' first|intro hc|refine U.mk ?_|refine aI ?_|refine aa ?_ ?_|(refine cR ?_;refine⟨_,_,br h _ _ (by omega) (by omega),?_⟩;simp[w1,c0,c1,e2,e3,e4]))
   exact oW [] []
end Go.Proofs.YtjklkppncmhehaaGreat.T
