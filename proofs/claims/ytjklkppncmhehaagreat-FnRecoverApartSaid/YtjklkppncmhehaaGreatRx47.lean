/-
What is proved: what the program's GroupFinal does to trees: what the reference's does. Conditions: those that it states.
-/
import Derived.Test.YtjklkppncmhehaaGreatRx38
set_option linter.unusedVariables false
set_option linter.unusedSimpArgs false
namespace Go.Proofs.YtjklkppncmhehaaGreat.T
open Go Go.RowKit
set_option maxRecDepth 100000
set_option maxHeartbeats 4000000
variable {E:List PanicEntry→World→Prop}
theorem AX:∀(k:Nat) (es:List an),k=es.length→(jO k es).length=k
 |0,_,_=>rfl
 |k+1,[],h=>by simp at h
 |k+1,x::es,h=>by rw[jO,List.length_cons,AX k _ (by rw[oD];simpa using h)]
theorem B5 (g:aq)(m t s:Int)(h:fg g 4294967280)(hv:aT g=true)(hm:bm m=true)(hs:aS t s=true):
  (aO g m t s=(g,[],false)∧TC Tw.prog E 68 [.a ((af g).map .r),gI .i64 m,ma (t,s)] 0 [] (.p [xI g 0 1,.s (.r .nil),gB false]) (xK g))∨
  ((aO g m t s).2.2=true∧TC Tw.prog E 68 [.a ((af g).map .r),gI .i64 m,ma (t,s)] 0 [] (.p [xI (aO g m t s).1 0 1,.s (.own 2),gB true]) (NG (aO g m t s))):=by
 obtain⟨Av,h0⟩:=h;have hle:eE g 4294967296:=⟨by omega,by omega⟩
 have hV:=iR (E:=E) g ⟨by omega,by omega⟩
 rw[nd,hv]at hV;have hM:=jM (E:=E) m;rw[hm]at hM;have hS:=kL (E:=E) t s;rw[hs]at hS;have hC:=pT (E:=E) g hle;have hI:=mY (E:=E) g.ao m;obtain⟨-,⟨XB,lT⟩,hlp, -, -⟩:=rY hv;have TR:=(rA hlp).1;rcases dU g.ao m with⟨hp,bc⟩|⟨j,e,hp,he,bc,_⟩
 ·refine .inl ⟨?_,?_⟩
  ·unfold aO
   split
   ·rw[if_pos (.inl (by omega))]
   ·rfl
  ·rw[hp]at hI
   refine tE Tryz.f68 Tryz.ntmps68 (by rw[Tryz.results68]) ?_
   (refine TW.go ?_;simp[af,ak];repeat' first|intro hc|refine U.mk ?_|refine aI ?_|refine aa ?_ ?_|(refine cP ?_;(first|refine⟨_,hV,?_⟩|refine⟨_,hM,?_⟩|refine⟨_,hS,?_⟩|refine⟨_,hI,?_⟩);simp[af,ak])|(refine cF [] 2 ?_;refine⟨_,_,hC,?_⟩;simp[af,ak]))
   exact oW [3,4] []
 ·have hj:j<g.ao.length:=(List.getElem?_eq_some_iff.1 he).1
  have dc:=(List.getElem?_eq_some_iff.1 he).2;have Fq:(cO g.ao m).toNat=j:=by omega
  have ir:¬((j:Int)<0):=by omega
  rw[hp]at hI
  cases hf:e.f
  ·cases hl:aK t s e.t e.g
   ·generalize xN:g.ao.eraseIdx j=rest
    have lQ:aO g m t s=if je rest (dW rest t s) t s=true then(g,[],false)else(⟨g.id,if g.clock<t then t else g.clock,(dF (ep rest m t s) g.done []).1,(dF (ep rest m t s) g.done []).2.1⟩,(dF (ep rest m t s) g.done []).2.2,true):=by
     unfold aO;rw[Fq,he];simp only
     rw[if_neg (by simp[hp,hf,hl]),xN]
    have kq:=wL t s (rest:=rest) (by rw[←xN];exact TR.sublist (List.eraseIdx_sublist ..))
    have fY:∀x,x∈rest↔∃i,i≠j∧g.ao[i]?=some x:=fun x=>by rw[←xN];exact AE
    have hL:=iT (E:=E) t s e.t e.g;rw[hl]at hL;have hlen:g.ao.length≤maxLen:=by simp only[maxLen];omega
    by_cases pa:je rest (dW rest t s) t s=true
    ·rw[if_pos pa]at lQ
     refine .inl ⟨lQ,?_⟩;obtain⟨y,hy,BM⟩:=kq.1 pa;obtain⟨i0,DG,hyi⟩:=(fY y).1 hy;refine tE Tryz.f68 Tryz.ntmps68 (by rw[Tryz.results68]) ?_
     (refine TW.go ?_;simp[af,ak,he,dc,hj,ir,hf,hl];repeat' first|intro hc|refine U.mk ?_|refine aI ?_|refine aa ?_ ?_|(refine cP ?_;(first|refine⟨_,hV,?_⟩|refine⟨_,hM,?_⟩|refine⟨_,hS,?_⟩|refine⟨_,hI,?_⟩|refine⟨_,hL,?_⟩);simp[af,ak,he,dc,hj,ir,hf,hl])|(refine cF [] 2 ?_;refine⟨_,_,hC,?_⟩;simp[af,ak,he,dc,hj,ir,hf,hl]))
     refine tL (fun(k:Nat)=>⟨[(1,gI .i64 m),(3,.s (.ptr 0 0)),(5,.s (.ptr 1 0)),(6,.s (.ptr 2 0)),(9,.s (.ptr 3 0)),(10,gI .i64 (j:Nat)),(56,gR (cd g.ao)),(57,gI .i64 g.ao.length),(58,gI .i64 (k:Nat))],
      [(0,.box ((af g).map .r)),(1,.box [.r (rI t),.r (rI s)]),(2,.box [.r (rI 0),.r (rI 0),.r .nil,.r .nil]),(3,.box [.r (rI g.id),.r (rI g.clock),.own 4,.own 5]),(4,bW g.ao),(5,bW g.done)],6⟩) (fun k=>k≤g.ao.length∧∀i,i<k→i≠j→∀x,g.ao[i]?=some x→¬(x.t=t∧x.g=s)) (fun k=>g.ao.length-k) 0 ⟨by omega,fun i hi=>by omega⟩
      (Wk.own [0,1,2,5,3,4] [] (by simp) (by simp) (by simp[af]) (by simp) (by simp)) fun k hk=>?_
     obtain⟨hk,l_⟩:=hk;by_cases ai:k<g.ao.length
     ·have hx:g.ao[k]?=some g.ao[k]:=List.getElem?_eq_getElem ai
      have ar:(k:Int)<(g.ao.length:Int):=by omega
      have aD:=wrap_add ai hlen;generalize g.ao[k]=x at hx;by_cases x_:k=j
      ·have TS:((k:Int)=(j:Int))=True:=eq_true (by omega)
       (refine TW.go ?_;simp[ar,hx,TS,ak,aD];repeat' first|intro hc|refine U.mk ?_|refine aI ?_|refine aa ?_ ?_)
       refine⟨k+1,⟨by omega,fun i hi lp z hz=>l_ i (by omega) lp z hz⟩,by omega,Wk.own [0,1,2,3,4,5] [] (by simp) (by simp) (by simp[af]) (by simp) (by simp)⟩
      ·have NL:¬(k:Int)=(j:Int):=by omega
       by_cases fp:x.t=t∧x.g=s
       ·have J_:(decide (x.t=t)&&decide (x.g=s))=true:=by simpa using fp
        (refine TW.go ?_;simp[ar,hx,J_,NL,ak,aD];repeat' first|intro hc|refine U.mk ?_|refine aI ?_|refine aa ?_ ?_)
        refine aE.own [4,5] [] (by simp;rfl) (by simp[af]) (by simp) (by simp) (by simp[af]) (by simp)
       ·have J_:(decide (x.t=t)&&decide (x.g=s))=false:=by simpa using fp
        (refine TW.go ?_;simp[ar,hx,J_,NL,ak,aD];repeat' first|intro hc|refine U.mk ?_|refine aI ?_|refine aa ?_ ?_)
        refine⟨k+1,⟨by omega,fun i hi lp z hz=>?_⟩,by omega,Wk.own [0,1,2,3,4,5] [] (by simp) (by simp) (by simp[af]) (by simp) (by simp)⟩
        by_cases Kv:i=k
        ·subst Kv;rw[hx]at hz;cases hz;exact fp
        ·exact l_ i (by omega) lp z hz
     ·obtain rfl:k=g.ao.length:=by omega
      exact absurd BM (l_ i0 (List.getElem?_eq_some_iff.1 hyi).1 DG y hyi)
    ·rw[if_neg pa]at lQ
     refine .inr ⟨by rw[lQ],?_⟩
     have bY:∀x∈g.ao.eraseIdx j,¬(x.t=t∧x.g=s):=fun x hx fp=>pa (kq.2 ⟨x,by rw[←xN];exact hx,fp⟩)
     have JL:=Qs TR hj m t s bY;have hR:=CM (E:=E) (g.ao.set j ⟨m,t,s,true⟩) (by rw[List.length_set];omega)
     rw[JL,xN]at hR;simp only[cd,List.map_set,ak]at hR;have nX:(ep rest m t s).length=g.ao.length:=by
      have h1:=congrArg List.length JL;rw[xN]at h1;rw[←h1];unfold rk;rw[AX _ _ (pP _).symm,List.length_set]
     have X':(ep rest m t s).length+g.done.length≤4294967285:=by omega
     generalize ep rest m t s=P at*;rw[lQ];refine tE Tryz.f68 Tryz.ntmps68 (by rw[Tryz.results68]) ?_
     (refine TW.go ?_;simp[af,ak,he,dc,hj,ir,hf,hl];repeat' first|intro hc|refine U.mk ?_|refine aI ?_|refine aa ?_ ?_|(refine cP ?_;(first|refine⟨_,hV,?_⟩|refine⟨_,hM,?_⟩|refine⟨_,hS,?_⟩|refine⟨_,hI,?_⟩|refine⟨_,hL,?_⟩);simp[af,ak,he,dc,hj,ir,hf,hl])|(refine cF [] 2 ?_;refine⟨_,_,hC,?_⟩;simp[af,ak,he,dc,hj,ir,hf,hl]))
     refine tL (fun(k:Nat)=>⟨[(1,gI .i64 m),(3,.s (.ptr 0 0)),(5,.s (.ptr 1 0)),(6,.s (.ptr 2 0)),(9,.s (.ptr 3 0)),(10,gI .i64 (j:Nat)),(56,gR (cd g.ao)),(57,gI .i64 g.ao.length),(58,gI .i64 (k:Nat))],
      [(0,.box ((af g).map .r)),(1,.box [.r (rI t),.r (rI s)]),(2,.box [.r (rI 0),.r (rI 0),.r .nil,.r .nil]),(3,.box [.r (rI g.id),.r (rI g.clock),.own 4,.own 5]),(4,bW g.ao),(5,bW g.done)],6⟩) (fun k=>k≤g.ao.length∧∀i,i<k→i≠j→∀x,g.ao[i]?=some x→¬(x.t=t∧x.g=s)) (fun k=>g.ao.length-k) 0 ⟨by omega,fun i hi=>by omega⟩
      (Wk.own [0,1,2,5,3,4] [] (by simp) (by simp) (by simp[af]) (by simp) (by simp)) fun k hk=>?_
     obtain⟨hk,l_⟩:=hk;by_cases ai:k<g.ao.length
     ·have hx:g.ao[k]?=some g.ao[k]:=List.getElem?_eq_getElem ai
      have ar:(k:Int)<(g.ao.length:Int):=by omega
      have aD:=wrap_add ai hlen;generalize g.ao[k]=x at hx;by_cases x_:k=j
      ·have TS:((k:Int)=(j:Int))=True:=eq_true (by omega)
       (refine TW.go ?_;simp[ar,hx,TS,ak,aD];repeat' first|intro hc|refine U.mk ?_|refine aI ?_|refine aa ?_ ?_)
       refine⟨k+1,⟨by omega,fun i hi lp z hz=>l_ i (by omega) lp z hz⟩,by omega,Wk.own [0,1,2,3,4,5] [] (by simp) (by simp) (by simp[af]) (by simp) (by simp)⟩
      ·have NL:¬(k:Int)=(j:Int):=by omega
       by_cases fp:x.t=t∧x.g=s
       ·exact absurd (kq.2 ⟨x,(fY x).2 ⟨k,x_,hx⟩,fp⟩) pa
       ·have J_:(decide (x.t=t)&&decide (x.g=s))=false:=by simpa using fp
        (refine TW.go ?_;simp[ar,hx,J_,NL,ak,aD];repeat' first|intro hc|refine U.mk ?_|refine aI ?_|refine aa ?_ ?_)
        refine⟨k+1,⟨by omega,fun i hi lp z hz=>?_⟩,by omega,Wk.own [0,1,2,3,4,5] [] (by simp) (by simp) (by simp[af]) (by simp) (by simp)⟩
        by_cases Kv:i=k
        ·subst Kv;rw[hx]at hz;cases hz;exact fp
        ·exact l_ i (by omega) lp z hz
     ·obtain rfl:k=g.ao.length:=by omega
      generalize Th:(if g.clock<t then t else g.clock)=yl
      (refine TW.go ?_;simp[af,ak,he,dc,hj];repeat' first|intro hc|refine U.mk ?_|refine aI ?_|refine aa ?_ ?_|(refine cF [4] 1 ?_;refine⟨_,_,hR,?_⟩;simp[af,ak,he,dc,hj]))
      rw[Th];refine tL (fun(p:List an×List an×List Int)=>⟨[(6,.s (.ptr 0 0)),(9,.s (.ptr 1 0)),(13,.s (.own 2))],[(0,.box [.r (rI 0),.r (rI 0),.r .nil,.r .nil]),(1,.box [.r (rI g.id),.r (rI yl),.r (cd p.1),.own 3]),(2,jf p.2.2),(3,bW p.2.1)],4⟩)
       (fun p=>p.1.length+p.2.1.length≤4294967285∧p.2.2.length+p.1.length≤4294967285∧dF p.1 p.2.1 p.2.2=dF P g.done []) (fun p=>p.1.length) (P,g.done,[]) ⟨X',by simp;omega,rfl⟩
       (Wk.own [2,3,7,5] [6] (by simp) (by simp) (by simp[ak,Th]) (by simp) (by simp)) fun p hp=>?_
      obtain⟨es,d,told⟩:=p;obtain⟨b1,b2,b3⟩:=hp;simp only at b1 b2 b3⊢
      have hCl:=iO (E:=E) es (by omega)
      rcases es with _|⟨x,es⟩
      ·rw[←b3]
       simp only[dF];(refine TW.go ?_;simp[af,ak,maxLen];repeat' first|intro hc|refine U.mk ?_|refine aI ?_|refine aa ?_ ?_|(refine cF [] 1 ?_;refine⟨_,_,hCl,?_⟩;simp[af,ak,maxLen]))
       exact oW [4,3,2] []
      ·simp only[List.length_cons]at b1 b2
       cases ry:x.f
       ·rw[←b3]
        simp only[dF,ry,Bool.false_eq_true,if_false];(refine TW.go ?_;simp[af,ak,ry,maxLen];repeat' first|intro hc|refine U.mk ?_|refine aI ?_|refine aa ?_ ?_|(refine cF [] 1 ?_;refine⟨_,_,hCl,?_⟩;simp[af,ak,ry,maxLen]))
        refine aE.own [4,3,2] [] (by simp;rfl) (by simp[ak,ry]) (by simp) (by simp) (by simp[ak,ry]) (by simp)
       ·(refine TW.go ?_;simp[af,ak,ry,maxLen];repeat' first|intro hc|refine U.mk ?_|refine aI ?_|refine aa ?_ ?_)
        refine⟨(es,d++[x],told++[x.m]),⟨by simp;omega,by simp;omega,?_⟩,by simp,Wk.own [0,1,5,7] [] (by simp) (by simp) (by simp[ak,ry]) (by simp) (by simp)⟩
        rw[←b3,dF,if_pos ry]
   ·have hr:aO g m t s=(g,[],false):=by
     unfold aO;rw[Fq,he];simp only
     rw[if_pos (.inr (.inr hl))]
    refine .inl ⟨hr,?_⟩;refine tE Tryz.f68 Tryz.ntmps68 (by rw[Tryz.results68]) ?_
    (refine TW.go ?_;simp[af,ak,he,dc,hj,ir,hf,hl];repeat' first|intro hc|refine U.mk ?_|refine aI ?_|refine aa ?_ ?_|(refine cP ?_;(first|refine⟨_,hV,?_⟩|refine⟨_,hM,?_⟩|refine⟨_,hS,?_⟩|refine⟨_,hI,?_⟩|refine⟨_,iT _ _ _ _,?_⟩);simp[af,ak,he,dc,hj,ir,hf,hl])|(refine cF [] 2 ?_;refine⟨_,_,hC,?_⟩;simp[af,ak,he,dc,hj,ir,hf,hl]))
    exact oW [3,4] []
  ·have hr:aO g m t s=(g,[],false):=by
    unfold aO;rw[Fq,he];simp only
    rw[if_pos (.inr (.inl hf))]
   refine .inl ⟨hr,?_⟩;refine tE Tryz.f68 Tryz.ntmps68 (by rw[Tryz.results68]) ?_
   (refine TW.go ?_;simp[af,ak,he,dc,hj,ir,hf];repeat' first|intro hc|refine U.mk ?_|refine aI ?_|refine aa ?_ ?_|(refine cP ?_;(first|refine⟨_,hV,?_⟩|refine⟨_,hM,?_⟩|refine⟨_,hS,?_⟩|refine⟨_,hI,?_⟩|refine⟨_,iT _ _ _ _,?_⟩);simp[af,ak,he,dc,hj,ir,hf])|(refine cF [] 2 ?_;refine⟨_,_,hC,?_⟩;simp[af,ak,he,dc,hj,ir,hf]))
   exact oW [3,4] []
end Go.Proofs.YtjklkppncmhehaaGreat.T
