/-
What is proved: what the program's GroupFinal does to trees: what the reference's does and what rests on it. Conditions: as stated.
-/
import Derived.Test.YtabjbdnokpjipaaGreatRw38
import Derived.Test.YtabjbdnokpjipaaGreatRw42
import Derived.Test.YtabjbdnokpjipaaGreatRw39
set_option linter.unusedVariables false
set_option linter.unusedSimpArgs false
namespace Go.Proofs.YtabjbdnokpjipaaGreat.T
open Go Go.RowKit
set_option maxRecDepth 100000
set_option maxHeartbeats 4000000
variable {E:List PanicEntry→World→Prop}
theorem aeY:∀(k:Nat) (es:List aB),k=es.length→(lr k es).length=k
 |0,_,_=>rfl
 |k+1,[],h=>by simp at h
 |k+1,x::es,h=>by rw[lr,List.length_cons,aeY k _ (by rw[qD];simpa using h)]
theorem vZ (g:aF)(m t s:Int)(h:iN g 4294967280)(hv:bB g=true)(hm:bj m=true)(hs:bc t s=true):
  (bn g m t s=(g,[],false)∧TC Tw.prog E 132 [.a ((au g).map .r),gI .i64 m,mU (t,s)] 0 [] (.p [F3 g 0 1,.s (.r .nil),gB false]) (R4 g))∨
  ((bn g m t s).2.2=true∧TC Tw.prog E 132 [.a ((au g).map .r),gI .i64 m,mU (t,s)] 0 [] (.p [F3 (bn g m t s).1 0 1,.s (.own 2),gB true]) (R7 (bn g m t s))):=by
 obtain⟨Dq,h0⟩:=h;have hle:jv g 4294967296:=⟨by omega,by omega⟩
 have hV:=iU (E:=E) g ⟨by omega,by omega⟩
 rw[mg,hv]at hV;have hM:=fL (E:=E) m;rw[hm]at hM;have hS:=dc (E:=E) t s;rw[hs]at hS;have hC:=rY (E:=E) g hle;have hI:=oS (E:=E) g.pend m;obtain⟨-,⟨hc0,nG⟩,hlp, -, -⟩:=aeW hv;have Zo:=(aeV hlp).1;rcases ee g.pend m with⟨hp,bw⟩|⟨j,e,hp,he,bw,_⟩
 ·refine .inl ⟨?_,?_⟩
  ·unfold bn
   split
   ·rw[if_pos (.inl (by omega))]
   ·rfl
  ·rw[hp]at hI
   refine tE Tryz.f132 Tryz.ntmps132 (by rw[Tryz.results132]) ?_
   (refine TW.go ?_;simp[au,aG];repeat' first|intro hc|refine aa.mk ?_|refine aI ?_|refine af ?_ ?_|(refine cP ?_;(first|refine⟨_,hV,?_⟩|refine⟨_,hM,?_⟩|refine⟨_,hS,?_⟩|refine⟨_,hI,?_⟩);simp[au,aG])|(refine cF [] 2 ?_;refine⟨_,_,hC,?_⟩;simp[au,aG]))
   exact oW [3,4] []
 ·have hj:j<g.pend.length:=(List.getElem?_eq_some_iff.1 he).1
  have du:=(List.getElem?_eq_some_iff.1 he).2;have Dv:(dN g.pend m).toNat=j:=by omega
  have jC:¬((j:Int)<0):=by omega
  rw[hp]at hI
  cases hf:e.f
  ·cases hl:aO t s e.t e.g
   ·generalize AB:g.pend.eraseIdx j=rest
    have nC:bn g m t s=if jR rest (eX rest t s) t s=true then(g,[],false)else(⟨g.id,if g.clock<t then t else g.clock,(eG (fo rest m t s) g.done []).1,(eG (fo rest m t s) g.done []).2.1⟩,(eG (fo rest m t s) g.done []).2.2,true):=by
     unfold bn;rw[Dv,he];simp only
     rw[if_neg (by simp[hp,hf,hl]),AB]
    have lX:=u5 t s (rest:=rest) (by rw[←AB];exact Zo.sublist (List.eraseIdx_sublist ..))
    have cH:∀x,x∈rest↔∃i,i≠j∧g.pend[i]?=some x:=fun x=>by rw[←AB];exact xg
    have hL:=iD (E:=E) t s e.t e.g;rw[hl]at hL;have hlen:g.pend.length≤maxLen:=by simp only[maxLen];omega
    by_cases q_:jR rest (eX rest t s) t s=true
    ·rw[if_pos q_]at nC
     refine .inl ⟨nC,?_⟩;obtain⟨y,hy,EP⟩:=lX.1 q_;obtain⟨i0,tH,hyi⟩:=(cH y).1 hy;refine tE Tryz.f132 Tryz.ntmps132 (by rw[Tryz.results132]) ?_
     (refine TW.go ?_;simp[au,aG,he,du,hj,jC,hf,hl];repeat' first|intro hc|refine aa.mk ?_|refine aI ?_|refine af ?_ ?_|(refine cP ?_;(first|refine⟨_,hV,?_⟩|refine⟨_,hM,?_⟩|refine⟨_,hS,?_⟩|refine⟨_,hI,?_⟩|refine⟨_,hL,?_⟩);simp[au,aG,he,du,hj,jC,hf,hl])|(refine cF [] 2 ?_;refine⟨_,_,hC,?_⟩;simp[au,aG,he,du,hj,jC,hf,hl]))
     refine tL (fun(k:Nat)=>⟨[(1,gI .i64 m),(3,.s (.ptr 0 0)),(5,.s (.ptr 1 0)),(6,.s (.ptr 2 0)),(9,.s (.ptr 3 0)),(10,gI .i64 (j:Nat)),(56,gR (dj g.pend)),(57,gI .i64 g.pend.length),(58,gI .i64 (k:Nat))],
      [(0,.box ((au g).map .r)),(1,.box [.r (rI t),.r (rI s)]),(2,.box [.r (rI 0),.r (rI 0),.r .nil,.r .nil]),(3,.box [.r (rI g.id),.r (rI g.clock),.own 4,.own 5]),(4,dU g.pend),(5,dU g.done)],6⟩) (fun k=>k≤g.pend.length∧∀i,i<k→i≠j→∀x,g.pend[i]?=some x→¬(x.t=t∧x.g=s)) (fun k=>g.pend.length-k) 0 ⟨by omega,fun i hi=>by omega⟩
      (Wk.own [0,1,2,5,3,4] [] (by simp) (by simp) (by simp[au]) (by simp) (by simp)) fun k hk=>?_
     obtain⟨hk,p9⟩:=hk;by_cases ak:k<g.pend.length
     ·have hx:g.pend[k]?=some g.pend[k]:=List.getElem?_eq_getElem ak
      have an:(k:Int)<(g.pend.length:Int):=by omega
      have aE:=wrap_add ak hlen;generalize g.pend[k]=x at hx;by_cases A0:k=j
      ·have Zp:((k:Int)=(j:Int))=True:=eq_true (by omega)
       (refine TW.go ?_;simp[an,hx,Zp,aG,aE];repeat' first|intro hc|refine aa.mk ?_|refine aI ?_|refine af ?_ ?_)
       refine⟨k+1,⟨by omega,fun i hi jf z hz=>p9 i (by omega) jf z hz⟩,by omega,Wk.own [0,1,2,3,4,5] [] (by simp) (by simp) (by simp[au]) (by simp) (by simp)⟩
      ·have Sc:¬(k:Int)=(j:Int):=by omega
       by_cases fj:x.t=t∧x.g=s
       ·have NW:(decide (x.t=t)&&decide (x.g=s))=true:=by simpa using fj
        (refine TW.go ?_;simp[an,hx,NW,Sc,aG,aE];repeat' first|intro hc|refine aa.mk ?_|refine aI ?_|refine af ?_ ?_)
        refine aT.own [4,5] [] (by simp;rfl) (by simp[au]) (by simp) (by simp) (by simp[au]) (by simp)
       ·have NW:(decide (x.t=t)&&decide (x.g=s))=false:=by simpa using fj
        (refine TW.go ?_;simp[an,hx,NW,Sc,aG,aE];repeat' first|intro hc|refine aa.mk ?_|refine aI ?_|refine af ?_ ?_)
        refine⟨k+1,⟨by omega,fun i hi jf z hz=>?_⟩,by omega,Wk.own [0,1,2,3,4,5] [] (by simp) (by simp) (by simp[au]) (by simp) (by simp)⟩
        by_cases He:i=k
        ·subst He;rw[hx]at hz;cases hz;exact fj
        ·exact p9 i (by omega) jf z hz
     ·obtain rfl:k=g.pend.length:=by omega
      exact absurd EP (p9 i0 (List.getElem?_eq_some_iff.1 hyi).1 tH y hyi)
    ·rw[if_neg q_]at nC
     refine .inr ⟨by rw[nC],?_⟩
     have cf:∀x∈g.pend.eraseIdx j,¬(x.t=t∧x.g=s):=fun x hx fj=>q_ (lX.2 ⟨x,by rw[←AB];exact hx,fj⟩)
     have Dw:=Vy Zo hj m t s cf;have hR:=F7 (E:=E) (g.pend.set j ⟨m,t,s,true⟩) (by rw[List.length_set];omega)
     rw[Dw,AB]at hR;simp only[dj,List.map_set,aG]at hR;have qv:(fo rest m t s).length=g.pend.length:=by
      have h1:=congrArg List.length Dw;rw[AB]at h1;rw[←h1];unfold uj;rw[aeY _ _ (rQ _).symm,List.length_set]
     have Bc:(fo rest m t s).length+g.done.length≤4294967285:=by omega
     generalize fo rest m t s=P at*;rw[nC];refine tE Tryz.f132 Tryz.ntmps132 (by rw[Tryz.results132]) ?_
     (refine TW.go ?_;simp[au,aG,he,du,hj,jC,hf,hl];repeat' first|intro hc|refine aa.mk ?_|refine aI ?_|refine af ?_ ?_|(refine cP ?_;(first|refine⟨_,hV,?_⟩|refine⟨_,hM,?_⟩|refine⟨_,hS,?_⟩|refine⟨_,hI,?_⟩|refine⟨_,hL,?_⟩);simp[au,aG,he,du,hj,jC,hf,hl])|(refine cF [] 2 ?_;refine⟨_,_,hC,?_⟩;simp[au,aG,he,du,hj,jC,hf,hl]))
     refine tL (fun(k:Nat)=>⟨[(1,gI .i64 m),(3,.s (.ptr 0 0)),(5,.s (.ptr 1 0)),(6,.s (.ptr 2 0)),(9,.s (.ptr 3 0)),(10,gI .i64 (j:Nat)),(56,gR (dj g.pend)),(57,gI .i64 g.pend.length),(58,gI .i64 (k:Nat))],
      [(0,.box ((au g).map .r)),(1,.box [.r (rI t),.r (rI s)]),(2,.box [.r (rI 0),.r (rI 0),.r .nil,.r .nil]),(3,.box [.r (rI g.id),.r (rI g.clock),.own 4,.own 5]),(4,dU g.pend),(5,dU g.done)],6⟩) (fun k=>k≤g.pend.length∧∀i,i<k→i≠j→∀x,g.pend[i]?=some x→¬(x.t=t∧x.g=s)) (fun k=>g.pend.length-k) 0 ⟨by omega,fun i hi=>by omega⟩
      (Wk.own [0,1,2,5,3,4] [] (by simp) (by simp) (by simp[au]) (by simp) (by simp)) fun k hk=>?_
     obtain⟨hk,p9⟩:=hk;by_cases ak:k<g.pend.length
     ·have hx:g.pend[k]?=some g.pend[k]:=List.getElem?_eq_getElem ak
      have an:(k:Int)<(g.pend.length:Int):=by omega
      have aE:=wrap_add ak hlen;generalize g.pend[k]=x at hx;by_cases A0:k=j
      ·have Zp:((k:Int)=(j:Int))=True:=eq_true (by omega)
       (refine TW.go ?_;simp[an,hx,Zp,aG,aE];repeat' first|intro hc|refine aa.mk ?_|refine aI ?_|refine af ?_ ?_)
       refine⟨k+1,⟨by omega,fun i hi jf z hz=>p9 i (by omega) jf z hz⟩,by omega,Wk.own [0,1,2,3,4,5] [] (by simp) (by simp) (by simp[au]) (by simp) (by simp)⟩
      ·have Sc:¬(k:Int)=(j:Int):=by omega
       by_cases fj:x.t=t∧x.g=s
       ·exact absurd (lX.2 ⟨x,(cH x).2 ⟨k,A0,hx⟩,fj⟩) q_
       ·have NW:(decide (x.t=t)&&decide (x.g=s))=false:=by simpa using fj
        (refine TW.go ?_;simp[an,hx,NW,Sc,aG,aE];repeat' first|intro hc|refine aa.mk ?_|refine aI ?_|refine af ?_ ?_)
        refine⟨k+1,⟨by omega,fun i hi jf z hz=>?_⟩,by omega,Wk.own [0,1,2,3,4,5] [] (by simp) (by simp) (by simp[au]) (by simp) (by simp)⟩
        by_cases He:i=k
        ·subst He;rw[hx]at hz;cases hz;exact fj
        ·exact p9 i (by omega) jf z hz
     ·obtain rfl:k=g.pend.length:=by omega
      generalize Y6:(if g.clock<t then t else g.clock)=Bo
      (refine TW.go ?_;simp[au,aG,he,du,hj];repeat' first|intro hc|refine aa.mk ?_|refine aI ?_|refine af ?_ ?_|(refine cF [4] 1 ?_;refine⟨_,_,hR,?_⟩;simp[au,aG,he,du,hj]))
      rw[Y6];refine tL (fun(p:List aB×List aB×List Int)=>⟨[(6,.s (.ptr 0 0)),(9,.s (.ptr 1 0)),(13,.s (.own 2))],[(0,.box [.r (rI 0),.r (rI 0),.r .nil,.r .nil]),(1,.box [.r (rI g.id),.r (rI Bo),.r (dj p.1),.own 3]),(2,fU p.2.2),(3,dU p.2.1)],4⟩)
       (fun p=>p.1.length+p.2.1.length≤4294967285∧p.2.2.length+p.1.length≤4294967285∧eG p.1 p.2.1 p.2.2=eG P g.done []) (fun p=>p.1.length) (P,g.done,[]) ⟨Bc,by simp;omega,rfl⟩
       (Wk.own [2,3,7,5] [6] (by simp) (by simp) (by simp[aG,Y6]) (by simp) (by simp)) fun p hp=>?_
      obtain⟨es,d,told⟩:=p;obtain⟨b1,b2,b3⟩:=hp;simp only at b1 b2 b3⊢
      have hCl:=iT (E:=E) es (by omega)
      rcases es with _|⟨x,es⟩
      ·rw[←b3]
       simp only[eG];(refine TW.go ?_;simp[au,aG,maxLen];repeat' first|intro hc|refine aa.mk ?_|refine aI ?_|refine af ?_ ?_|(refine cF [] 1 ?_;refine⟨_,_,hCl,?_⟩;simp[au,aG,maxLen]))
       exact oW [4,3,2] []
      ·simp only[List.length_cons]at b1 b2
       cases uo:x.f
       ·rw[←b3]
        simp only[eG,uo,Bool.false_eq_true,if_false];(refine TW.go ?_;simp[au,aG,uo,maxLen];repeat' first|intro hc|refine aa.mk ?_|refine aI ?_|refine af ?_ ?_|(refine cF [] 1 ?_;refine⟨_,_,hCl,?_⟩;simp[au,aG,uo,maxLen]))
        refine aT.own [4,3,2] [] (by simp;rfl) (by simp[aG,uo]) (by simp) (by simp) (by simp[aG,uo]) (by simp)
       ·(refine TW.go ?_;simp[au,aG,uo,maxLen];repeat' first|intro hc|refine aa.mk ?_|refine aI ?_|refine af ?_ ?_)
        refine⟨(es,d++[x],told++[x.m]),⟨by simp;omega,by simp;omega,?_⟩,by simp,Wk.own [0,1,5,7] [] (by simp) (by simp) (by simp[aG,uo]) (by simp) (by simp)⟩
        rw[←b3,eG,if_pos uo]
   ·have hr:bn g m t s=(g,[],false):=by
     unfold bn;rw[Dv,he];simp only
     rw[if_pos (.inr (.inr hl))]
    refine .inl ⟨hr,?_⟩;refine tE Tryz.f132 Tryz.ntmps132 (by rw[Tryz.results132]) ?_
    (refine TW.go ?_;simp[au,aG,he,du,hj,jC,hf,hl];repeat' first|intro hc|refine aa.mk ?_|refine aI ?_|refine af ?_ ?_|(refine cP ?_;(first|refine⟨_,hV,?_⟩|refine⟨_,hM,?_⟩|refine⟨_,hS,?_⟩|refine⟨_,hI,?_⟩|refine⟨_,iD _ _ _ _,?_⟩);simp[au,aG,he,du,hj,jC,hf,hl])|(refine cF [] 2 ?_;refine⟨_,_,hC,?_⟩;simp[au,aG,he,du,hj,jC,hf,hl]))
    exact oW [3,4] []
  ·have hr:bn g m t s=(g,[],false):=by
    unfold bn;rw[Dv,he];simp only
    rw[if_pos (.inr (.inl hf))]
   refine .inl ⟨hr,?_⟩;refine tE Tryz.f132 Tryz.ntmps132 (by rw[Tryz.results132]) ?_
   (refine TW.go ?_;simp[au,aG,he,du,hj,jC,hf];repeat' first|intro hc|refine aa.mk ?_|refine aI ?_|refine af ?_ ?_|(refine cP ?_;(first|refine⟨_,hV,?_⟩|refine⟨_,hM,?_⟩|refine⟨_,hS,?_⟩|refine⟨_,hI,?_⟩|refine⟨_,iD _ _ _ _,?_⟩);simp[au,aG,he,du,hj,jC,hf])|(refine cF [] 2 ?_;refine⟨_,_,hC,?_⟩;simp[au,aG,he,du,hj,jC,hf]))
   exact oW [3,4] []
end Go.Proofs.YtabjbdnokpjipaaGreat.T
namespace Go.Proofs.YtabjbdnokpjipaaGreat.T
open Go Go.RowKit
set_option maxRecDepth 100000
set_option maxHeartbeats 4000000
variable {E:List PanicEntry→World→Prop}
theorem v_ (gs:List aF)(h:iC gs 4294967296):TC Tw.prog E 59 [gR (dq gs)] 0 [] (.s (.own 0)) [(0,fp gs)]:=by
 obtain⟨hl,hg⟩:=h;refine tE Tryz.f59 Tryz.ntmps59 (by rw[Tryz.results59]) ?_
 have hlen:gs.length≤maxLen:=by simp only[maxLen];omega
 (refine TW.go ?_;simp;repeat' first|intro hc|refine aa.mk ?_|refine aI ?_|refine af ?_ ?_)
 refine tL (fun k=>⟨[(3,.s (.own 0)),(7,gR (dq gs)),(8,gI .i64 gs.length),(9,gI .i64 (k:Nat))],[(0,fp (gs.take k))],1⟩) (fun k=>k≤gs.length) (fun k=>gs.length-k) 0 (by omega) (kO [0] []) fun k hk=>?_
 by_cases ak:k<gs.length
 ·have he:gs[k]?=some gs[k]:=List.getElem?_eq_getElem ak
  have QL:=hg gs[k] (List.getElem_mem ak);(refine TW.go ?_;simp[ak,he,au,wrap_add ak hlen,maxLen];repeat' first|intro hc|refine aa.mk ?_|refine aI ?_|refine af ?_ ?_|(refine cF [] 2 ?_;refine⟨_,_,rY _ QL,?_⟩;simp[ak,he,au,wrap_add ak hlen,maxLen]))
  refine⟨k+1,by omega,by omega,Wk.own [5] [] (by simp) (by simp) (by simp[fl he,au]) (by simp) (by simp)⟩
 ·obtain rfl:k=gs.length:=by omega
  (refine TW.go ?_;simp;repeat' first|intro hc|refine aa.mk ?_|refine aI ?_|refine af ?_ ?_)
  exact oW [0] []
theorem adN {gs:List aF}{n:Nat}(h:iC gs n)(hv:∀g∈gs,bB g=true):∀g∈gs,iN g (n+n):=fun g hg=>by
 obtain⟨a,b⟩:=h.2 g hg;exact⟨by omega,(aeW (hv g hg)).2.1.1⟩
theorem E' (gs:List aF)(set:List Int)(m:Int)(h:iC gs 4000):
  (mi gs set m=false∧TC Tw.prog bq 111 [gR (dq gs),gR (aY set),gI .i64 m] 0 [] (.p [.s (.r .nil),gB false]) [])∨
  (mi gs set m=true∧TC Tw.prog bq 111 [gR (dq gs),gR (aY set),gI .i64 m] 0 [] (.p [gR (dq (lz gs set m).1),gB (lz gs set m).2]) []):=by
 have hR:=DJ gs set m ⟨by have:=h.1;omega,fun g hg=>by have:=h.2 g hg;exact⟨by have:=this.1;omega,by have:=this.2;omega⟩⟩
 cases dP:mi gs set m
 ·refine .inl ⟨rfl,?_⟩
  rw[dP]at hR;refine tE Tryz.f111 Tryz.ntmps111 (by rw[Tryz.results111]) ?_
  (refine TW.go ?_;simp;repeat' first|intro hc|refine aa.mk ?_|refine aI ?_|refine af ?_ ?_|(refine cP ?_;refine⟨_,hR,?_⟩;simp))
  exact oW [] []
 ·refine .inr ⟨rfl,?_⟩
  rw[dP]at hR;have h0:=dP;simp only[mi,Bool.and_eq_true]at h0;obtain⟨⟨h1,h2⟩,hm⟩:=h0;obtain⟨hn,kl,hr⟩:=eY h2;have h5:=oX h1;have hv:=NV h1;have hg:=adN h hv;have dK:0<set.length:=List.length_pos_iff.2 hn
  have hlen:set.length≤maxLen:=by simp only[maxLen];omega
  have Vv:iC gs 4294967296:=⟨by omega,fun g h=>by have:=(hg g h).1;exact⟨by omega,by omega⟩⟩
  have VK:=v_ (E:=bq) gs Vv;have hD:lz gs set m=if(eH gs set m).2=true then((eH gs set m).1,true)else(gs,false):=by rw[lz,if_pos dP]
  refine tE Tryz.f111 Tryz.ntmps111 (by rw[Tryz.results111]) ?_
  (refine TW.go ?_;simp;repeat' first|intro hc|refine aa.mk ?_|refine aI ?_|refine af ?_ ?_|(refine cP ?_;refine⟨_,hR,?_⟩;simp)|(refine cF [] 1 ?_;refine⟨_,_,VK,?_⟩;simp))
  refine tL (fun(k:Nat)=>⟨[(0,gR (dq gs)),(1,gR (aY set)),(2,gI .i64 m),(8,.s (.own 0)),(24,gR (aY set)),(25,gI .i64 set.length),(26,gI .i64 (k:Nat))],[(0,fp (aN gs m (set.take k)))],1⟩) (fun k=>k≤set.length) (fun k=>set.length-k) 0 (by omega) (Wk.own [0] [] (by simp) (by simp) (by simp[aN]) (by simp) (by simp)) fun k hk=>?_
  by_cases ak:k<set.length
  ·have he:set[k]?=some set[k]:=List.getElem?_eq_getElem ak
   obtain⟨g0,g1⟩:=hr _ (List.getElem_mem ak);generalize hx:set[k]=x at he g0 g1;have an:(k:Int)<(set.length:Int):=by omega
   have aE:=wrap_add ak hlen;obtain⟨n5,nN⟩:=ma (n:=9000) m (set.take k) gs 8000 (hr.take k) h5 hg (by simp;omega)
   have nv:=pO hm (set:=set.take k) (hr.take k) h5 hv;have dX:aN gs m (set.take (k+1))=(aN gs m (set.take k)).set x.toNat (aD (gAt (aN gs m (set.take k)) x.toNat) m).1:=dr _ _ he
   have Br:x.toNat<(aN gs m (set.take k)).length:=by omega
   have hG:=cu Br;have hN:=nN _ (List.mem_of_getElem? hG);have hV:=nv _ (List.mem_of_getElem? hG);have hle:jv (gAt (aN gs m (set.take k)) x.toNat) 4294967280:=by have:=hN.1;exact⟨by omega,by omega⟩
   have hx5:x<5:=g1
   generalize aN gs m (set.take k)=gk at*;generalize Y_:gAt gk x.toNat=G at*;have hP:=sY (E:=bq) G m hle hV hm;(refine TW.go ?_;simp[an,he,g0,hG,au,aE,maxLen];repeat' first|intro hc|refine aa.mk ?_|refine aI ?_|refine af ?_ ?_|(refine cF [] 2 ?_;refine⟨_,_,hP,?_⟩;simp[an,he,g0,hG,au,aE,maxLen]))
   exact⟨k+1,by omega,by omega,Wk.own [0] [] (by simp) (by simp) (by simp[dX,au]) (by simp) (by simp)⟩
  ·obtain rfl:k=set.length:=by omega
   obtain⟨n5,nN⟩:=ma (n:=9000) m set gs 8000 hr h5 hg (by omega)
   have nv:=pO hm (set:=set) hr h5 hv;have hA:eH gs set m=if(aS (aN gs m set) set m).2=true then(bK (aN gs m set) m (aS (aN gs m set) set m).1 set,dF (bK (aN gs m set) m (aS (aN gs m set) set m).1 set) m set)
    else(aN gs m set,false):=rfl
   simp only[List.take_length];generalize aN gs m set=g1 at*;have hL:∀{G:List aF},G.length=5→(∀g∈G,iN g 9000)→iC G 4294967290:=fun h5 hN=>⟨by omega,fun g hg=>by have:=(hN g hg).1;exact⟨by omega,by omega⟩⟩
   have hF:=E_ g1 set m (hL n5 nN) n5 hn kl hr;rw[VJ nv n5 hr]at hF
   cases aZ:(aS g1 set m).2
   ·rw[aZ]at hF
    rw[show lz gs set m=(gs,false) by rw[hD,hA,aZ];rfl]
    (refine TW.go ?_;simp;repeat' first|intro hc|refine aa.mk ?_|refine aI ?_|refine af ?_ ?_|(refine cK [0] ?_;refine⟨_,hF,?_⟩;simp)|(refine cF [] 1 ?_;refine⟨_,_,VK,?_⟩;simp))
    exact oW [] [2]
   ·have yG:=yF nv n5 hr hn aZ
    rw[aZ]at hF;rw[if_pos aZ]at hA;generalize(aS g1 set m).1=s at*;(refine TW.go ?_;simp;repeat' first|intro hc|refine aa.mk ?_|refine aI ?_|refine af ?_ ?_|(refine cK [0] ?_;refine⟨_,hF,?_⟩;simp)|(refine cF [] 1 ?_;refine⟨_,_,VK,?_⟩;simp))
    refine tL (fun(k:Nat)=>⟨[(0,gR (dq gs)),(1,gR (aY set)),(2,gI .i64 m),(8,.s (.own 0)),(11,.s (.ptr 1 0)),(55,gR (aY set)),(56,gI .i64 set.length),(57,gI .i64 (k:Nat))],[(0,fp (bK g1 m s (set.take k))),(1,.box [.r (rI s.1),.r (rI s.2)])],2⟩) (fun k=>k≤set.length) (fun k=>set.length-k) 0 (by omega) (Wk.own [0,1] [] (by simp) (by simp) (by simp[bK]) (by simp) (by simp)) fun k hk=>?_
    by_cases ak:k<set.length
    ·have he:set[k]?=some set[k]:=List.getElem?_eq_getElem ak
     obtain⟨g0,Eo⟩:=hr _ (List.getElem_mem ak);generalize hx:set[k]=x at he g0 Eo;have an:(k:Int)<(set.length:Int):=by omega
     have aE:=wrap_add ak hlen;obtain⟨f5,fN⟩:=nX (n:=9000) m s (set.take k) g1 (hr.take k) n5 nN;have fv:=sw hm yG (set:=set.take k) (hr.take k) n5 nv;have dX:bK g1 m s (set.take (k+1))=(bK g1 m s (set.take k)).set x.toNat (bn (gAt (bK g1 m s (set.take k)) x.toNat) m s.1 s.2).1:=dr _ _ he
     have Br:x.toNat<(bK g1 m s (set.take k)).length:=by omega
     have hG:=cu Br;have hN:=fN _ (List.mem_of_getElem? hG);have hV:=fv _ (List.mem_of_getElem? hG);have hle:=hN.mono (n':=4294967280) (by omega)
     generalize bK g1 m s (set.take k)=gk at*;generalize Y_:gAt gk x.toNat=G at*;rcases vZ (E:=bq) G m s.1 s.2 hle hV hm yG with⟨e,hP⟩|⟨e,hP⟩
     ·rw[e]at dX
      (refine TW.go ?_;simp[an,he,g0,hG,au,aE,maxLen];repeat' first|intro hc|refine aa.mk ?_|refine aI ?_|refine af ?_ ?_|(refine cF [] 2 ?_;refine⟨_,_,hP,?_⟩;simp[an,he,g0,hG,au,aE,maxLen]))
      all_goals exact⟨k+1,by omega,by omega,Wk.own [0,1] [] (by simp) (by simp) (by simp[dX,au]) (by simp) (by simp)⟩
     ·(refine TW.go ?_;simp[an,he,g0,hG,au,aE,maxLen];repeat' first|intro hc|refine aa.mk ?_|refine aI ?_|refine af ?_ ?_|(refine cF [] 3 ?_;refine⟨_,_,hP,?_⟩;simp[an,he,g0,hG,au,aE,maxLen]))
      all_goals exact⟨k+1,by omega,by omega,Wk.own [0,1] [] (by simp) (by simp) (by simp[dX,au]) (by simp) (by simp)⟩
    ·obtain rfl:k=set.length:=by omega
     simp only[List.take_length];obtain⟨f5,fN⟩:=nX (n:=9000) m s set g1 hr n5 nN;have fv:=sw hm yG (set:=set) hr n5 nv;generalize bK g1 m s set=g2 at*;have hE:=sj g2 set m (hL f5 fN) f5 hn kl hr;have yB:(iV g2 m set).length=set.length:=by simp
     have dR:∀(k:Nat) g,set[k]?=some g→(iV g2 m set)[k]?=some (iO (gAt g2 g.toNat) m):=fun k g hg=>by simp[List.getElem?_map,hg]
     generalize iV g2 m set=A at*;refine TW.weaken ⟨[(0,gR (dq gs)),(1,gR (aY set)),(2,gI .i64 m),(8,gR (dq g2)),(56,gI .i64 set.length),(57,gI .i64 set.length)],[],0⟩ (kO [] [0]) ?_;(refine TW.go ?_;simp[yB];repeat' first|intro hc|refine aa.mk ?_|refine aI ?_|refine af ?_ ?_|(refine cF [] 1 ?_;refine⟨_,_,hE,?_⟩;simp[yB]))
     refine tL (fun(k:Nat)=>⟨[(0,gR (dq gs)),(8,gR (dq g2)),(79,gR (.sl 5 A)),(80,gI .i64 set.length),(81,gI .i64 (k:Nat))],[],0⟩) (fun k=>k≤set.length∧dF g2 m (set.take k)=true) (fun k=>set.length-k) 0 ⟨by omega,by simp[dF]⟩ (kO [] [0]) fun k hk=>?_
     obtain⟨hk,gN⟩:=hk;by_cases ak:k<set.length
     ·have he:set[k]?=some set[k]:=List.getElem?_eq_getElem ak
      obtain⟨g0,Eo⟩:=hr _ (List.getElem_mem ak);generalize hx:set[k]=x at he g0 Eo;have DN:=dR k _ he;have an:(k:Int)<(set.length:Int):=by omega
      have aE:=wrap_add ak hlen;have dX:=vU (gs:=g2) (m:=m) he;rw[gN,Bool.true_and]at dX;have hV:=fv _ (List.mem_of_getElem? (cu (gs:=g2) (i:=x.toNat) (by omega)))
      generalize gAt g2 x.toNat=G at*;have Sd:(cc G m&&(aV G m).f)=false→dF g2 m set=false:=fun h=>by rw[h]at dX;exact uq dX
      simp only[iO,rX,dJ,hV,if_true,Bool.true_and]at DN
      cases hb:cc G m
      ·rw[hb,Bool.false_and]at Sd
       rw[show lz gs set m=(gs,false) by rw[hD,hA,Sd rfl];rfl]
       rw[hb]at DN;(refine TW.go ?_;simp[an,DN,aE];repeat' first|intro hc|refine aa.mk ?_|refine aI ?_|refine af ?_ ?_|(refine cF [] 1 ?_;refine⟨_,_,VK,?_⟩;simp[an,DN,aE]))
       exact oW [] [1]
      ·rw[hb,Bool.true_and]at Sd dX
       rw[hb]at DN
       cases hf:(aV G m).f
       ·rw[show lz gs set m=(gs,false) by rw[hD,hA,Sd hf];rfl]
        rw[hf]at DN;(refine TW.go ?_;simp[an,DN,aE];repeat' first|intro hc|refine aa.mk ?_|refine aI ?_|refine af ?_ ?_|(refine cF [] 1 ?_;refine⟨_,_,VK,?_⟩;simp[an,DN,aE]))
        exact oW [] [1]
       ·rw[hf]at DN dX
        (refine TW.go ?_;simp[an,DN,aE];repeat' first|intro hc|refine aa.mk ?_|refine aI ?_|refine af ?_ ?_|(refine cF [] 1 ?_;refine⟨_,_,VK,?_⟩;simp[an,DN,aE]))
        exact⟨k+1,⟨by omega,dX⟩,by omega,kS⟩
     ·obtain rfl:k=set.length:=by omega
      rw[List.take_length]at gN;rw[show lz gs set m=(g2,true) by rw[hD,hA,gN];rfl]
      (refine TW.go ?_;simp;repeat' first|intro hc|refine aa.mk ?_|refine aI ?_|refine af ?_ ?_)
      refine aT.nil (r:= .p [gR (dq g2),gB true]) ?_ rfl;simp
end Go.Proofs.YtabjbdnokpjipaaGreat.T
namespace Go.Proofs.YtabjbdnokpjipaaGreat.T
open Go Go.RowKit
set_option maxRecDepth 100000
set_option maxHeartbeats 4000000
variable {E:List PanicEntry→World→Prop}
theorem aeQ (xs:List Int)(n:Int):TC Tw.prog E 88 [gR (aY xs),gI .i64 n] 0 [] (gB (cb xs n)) []:=by
 refine tE Tryz.f88 Tryz.ntmps88 (by rw[Tryz.results88]) ?_
 refine TW.len 0 rfl fun hlen=>?_;simp only[List.length_map]at hlen;(refine TW.go ?_;simp;repeat' first|intro hc|refine aa.mk ?_|refine aI ?_|refine af ?_ ?_)
 refine tL (fun(k:Nat)=>⟨[(1,gI .i64 n),(7,gR (aY xs)),(8,gI .i64 xs.length),(9,gI .i64 (k:Nat))],[],0⟩) (fun k=>k≤xs.length∧∀i y,i<k→xs[i]?=some y→¬y=n) (fun k=>xs.length-k) 0 ⟨by omega,fun i y hi=>by omega⟩ (kS) fun k hk=>?_
 obtain⟨hk,hf⟩:=hk;by_cases ak:k<xs.length
 ·have he:xs[k]?=some xs[k]:=List.getElem?_eq_getElem ak
  have an:(k:Int)<(xs.length:Int):=by omega
  have aE:=wrap_add ak hlen;have cH:=List.getElem_mem ak;generalize xs[k]=x at*;by_cases hx:x=n
  ·rw[show cb xs n=true by simp only[cb,List.any_eq_true,decide_eq_true_eq];exact⟨x,cH,hx⟩]
   (refine TW.go ?_;simp[he,an,hx];repeat' first|intro hc|refine aa.mk ?_|refine aI ?_|refine af ?_ ?_)
   exact oW [] []
  ·(refine TW.go ?_;simp[he,an,aE,hx];repeat' first|intro hc|refine aa.mk ?_|refine aI ?_|refine af ?_ ?_)
   refine⟨k+1,⟨by omega,fun i y hi hy=>?_⟩,by omega,kS⟩
   by_cases e:i=k
   ·subst e;rw[he]at hy;cases hy;exact hx
   ·exact hf i y (by omega) hy
 ·obtain rfl:k=xs.length:=by omega
  rw[show cb xs n=false by
   simp only[cb,List.any_eq_false,decide_eq_true_eq];intro x hx;obtain⟨i,hi,rfl⟩:=List.getElem_of_mem hx;exact hf i _ hi (List.getElem?_eq_getElem hi)]
  (refine TW.go ?_;simp;repeat' first|intro hc|refine aa.mk ?_|refine aI ?_|refine af ?_ ?_)
  exact oW [] []
theorem Zq (r:cl):TC Tw.prog E 115 [.a ((aK r).map .r)] 0 [] (.a [.r (aY r.gs),.r (lq r.aH)]) []:=by
 refine tE Tryz.f115 Tryz.ntmps115 (by rw[Tryz.results115]) ?_
 (refine TW.go ?_;simp[aK];repeat' first|intro hc|refine aa.mk ?_|refine aI ?_|refine af ?_ ?_)
 exact oW [] []
theorem mF (r:cl)(h:jT r 4294967296):TC Tw.prog E 85 [.a ((aK r).map .r)] 0 [] (gB (fe r)) []:=by
 obtain⟨NN,hl⟩:=h;have hlen:r.aH.length≤maxLen:=by simp only[maxLen];omega
 have hO:=Zq (E:=E) r;have hI:=fL (E:=E) r.m;have hV:=AI (E:=E) r.gs;simp only[aK,List.map_cons,List.map_nil]at hO;refine tE Tryz.f85 Tryz.ntmps85 (by rw[Tryz.results85]) ?_
 cases hm:bj r.m
 ·rw[show fe r=false by simp[fe,hm]]
  rw[hm]at hI;(refine TW.go ?_;simp[aK];repeat' first|intro hc|refine aa.mk ?_|refine aI ?_|refine af ?_ ?_|(refine cP ?_;(first|refine⟨_,hO,?_⟩|refine⟨_,hI,?_⟩);simp[aK]))
  exact oW [] []
 ·rw[hm]at hI
  cases hs:cB r.gs
  ·rw[show fe r=false by simp[fe,hs]]
   rw[hs]at hV;(refine TW.go ?_;simp[aK];repeat' first|intro hc|refine aa.mk ?_|refine aI ?_|refine af ?_ ?_|(refine cP ?_;(first|refine⟨_,hO,?_⟩|refine⟨_,hI,?_⟩|refine⟨_,hV,?_⟩);simp[aK]))
   exact oW [] []
  ·rw[hs]at hV
   have hB:fe r=db r.aH.length (je r):=by simp[fe,hm,hs]
   rw[hB];(refine TW.go ?_;simp[aK];repeat' first|intro hc|refine aa.mk ?_|refine aI ?_|refine af ?_ ?_|(refine cP ?_;(first|refine⟨_,hO,?_⟩|refine⟨_,hI,?_⟩|refine⟨_,hV,?_⟩);simp[aK]))
   refine tL (fun(k:Nat)=>⟨[(1,.s (.ptr 0 0)),(3,.s (.ptr 1 0)),(19,gR (lq r.aH)),(20,gI .i64 r.aH.length),(21,gI .i64 (k:Nat))],[(0,.box ((aK r).map .r)),(1,.box [.r (aY r.gs),.r (lq r.aH)])],2⟩) (fun k=>k≤r.aH.length∧∀i,i<k→je r i=true) (fun k=>r.aH.length-k) 0 ⟨by omega,fun i hi=>by omega⟩ (Wk.own [0,1] [] (by simp) (by simp) (by simp[aK]) (by simp) (by simp)) fun k hk=>?_
   obtain⟨hk,hf⟩:=hk;clear hO hI hV;by_cases ak:k<r.aH.length
   ·have he:r.aH[k]?=some r.aH[k]:=List.getElem?_eq_getElem ak
    have an:(k:Int)<(r.aH.length:Int):=by omega
    have Be:=wrap_add ak hlen
    cases hq:je r k
    ·rw[eD ak hq]
     rcases k with _|k
     ·have bT:je r 0=(bc r.aH[0].1 r.aH[0].2&&cb r.gs r.aH[0].2):=by simp[je,ak]
      rw[bT]at hq;(refine TW.go ?_;simp[ak,he,aK,eE];repeat' first|intro hc|refine aa.mk ?_|refine aI ?_|refine af ?_ ?_|(refine cP ?_;(first|refine⟨_,dc _ _,?_⟩|refine⟨_,aeQ _ _,?_⟩);simp[ak,he,aK,eE]))
      all_goals first
       |(exact oW [] [])
       |(exfalso;simp_all)
     ·have du:r.aH[k]?=some r.aH[k]:=List.getElem?_eq_getElem (by omega)
      have bT:je r (k+1)=(bc r.aH[k+1].1 r.aH[k+1].2&&cb r.gs r.aH[k+1].2&&decide (r.aH[k].2<r.aH[k+1].2)):=by simp[je,he,du]
      have hw:=l8 (k:=k) (by omega)
      have dK:(0:Int)<(k:Int)+1:=by omega
      simp only[Int.natCast_add,Int.natCast_one]at an;generalize r.aH[k+1]=x at*;generalize r.aH[k]=y at*;rw[bT]at hq;(refine TW.go ?_;simp[he,du,hw,dK,an,aK,eE];repeat' first|intro hc|refine aa.mk ?_|refine aI ?_|refine af ?_ ?_|(refine cP ?_;(first|refine⟨_,dc _ _,?_⟩|refine⟨_,aeQ _ _,?_⟩);simp[he,du,hw,dK,an,aK,eE]))
      all_goals first
       |(exact oW [] [])
       |(exfalso;clear hf;simp_all;done)
       |(exfalso;clear hf;simp_all;omega)
    ·have Zr:∀i,i<k+1→je r i=true:=fun i hi=>by
      by_cases e:i=k
      ·subst e;exact hq
      ·exact hf i (by omega)
     rcases k with _|k
     ·have bT:je r 0=(bc r.aH[0].1 r.aH[0].2&&cb r.gs r.aH[0].2):=by simp[je,ak]
      rw[bT,Bool.and_eq_true]at hq;(refine TW.go ?_;simp[ak,he,aK,eE,hq.1,hq.2];repeat' first|intro hc|refine aa.mk ?_|refine aI ?_|refine af ?_ ?_|(refine cP ?_;(first|refine⟨_,dc _ _,?_⟩|refine⟨_,aeQ _ _,?_⟩);simp[ak,he,aK,eE,hq.1,hq.2]))
      exact⟨1,⟨by omega,Zr⟩,by omega,Wk.own [0,1] [] (by simp) (by simp) (by simp[aK]) (by simp) (by simp)⟩
     ·have du:r.aH[k]?=some r.aH[k]:=List.getElem?_eq_getElem (by omega)
      have bT:je r (k+1)=(bc r.aH[k+1].1 r.aH[k+1].2&&cb r.gs r.aH[k+1].2&&decide (r.aH[k].2<r.aH[k+1].2)):=by simp[je,he,du]
      have hw:=l8 (k:=k) (by omega)
      have dK:(0:Int)<(k:Int)+1:=by omega
      simp only[Int.natCast_add,Int.natCast_one]at an Be;generalize r.aH[k+1]=x at*;generalize r.aH[k]=y at*;rw[bT,Bool.and_eq_true,Bool.and_eq_true]at hq;obtain⟨⟨q1,q2⟩,q3⟩:=hq;have q4:¬x.2≤y.2:=by have:=of_decide_eq_true q3;omega
      (refine TW.go ?_;simp[he,du,hw,Be,dK,an,aK,eE,q1,q2,q4];repeat' first|intro hc|refine aa.mk ?_|refine aI ?_|refine af ?_ ?_|(refine cP ?_;(first|refine⟨_,dc _ _,?_⟩|refine⟨_,aeQ _ _,?_⟩);simp[he,du,hw,Be,dK,an,aK,eE,q1,q2,q4]))
      exact⟨k+1+1,⟨by omega,Zr⟩,by omega,Wk.own [0,1] [] (by simp) (by simp) (by simp[aK]) (by simp) (by simp)⟩
   ·obtain rfl:k=r.aH.length:=by omega
    rw[dD hf];(refine TW.go ?_;simp;repeat' first|intro hc|refine aa.mk ?_|refine aI ?_|refine af ?_ ?_)
    exact oW [] []
end Go.Proofs.YtabjbdnokpjipaaGreat.T
namespace Go.Proofs.YtabjbdnokpjipaaGreat.T
open Go Go.RowKit
set_option maxRecDepth 100000
set_option maxHeartbeats 4000000
variable {E:List PanicEntry→World→Prop}
theorem Q3 (a b:List Int)(g:Int):TC Tw.prog E 116 [gI .i64 g,.s (.ptr 0 0),.s (.ptr 1 0)] 2 [(0,.box [.r (aY a)]),(1,.box [.r (aY b)])] (gB (cb a g&&cb b g)) [(0,.box [.r (aY a)]),(1,.box [.r (aY b)])]:=by
 refine tE Tryz.f116 Tryz.ntmps116 (by rw[Tryz.results116]) ?_ (hfit:=(Fits.of (by simp[dw,List.range_succ]) (by simp) (by simp)))
 have hA:=aeQ (E:=E) a g;have hB:=aeQ (E:=E) b g
 cases h1:cb a g
 ·rw[h1]at hA
  (refine TW.go ?_;simp;repeat' first|intro hc|refine aa.mk ?_|refine aI ?_|refine af ?_ ?_|(refine cP ?_;refine⟨_,hA,?_⟩;simp))
  exact oW [] []
 ·rw[h1]at hA
  (refine TW.go ?_;simp;repeat' first|intro hc|refine aa.mk ?_|refine aI ?_|refine af ?_ ?_|(refine cP ?_;(first|refine⟨_,hA,?_⟩|refine⟨_,hB,?_⟩);simp))
  exact oW [] []
def qJ (a b:List Int)(k:Nat):List Int:=(upto k).filter fun g=>cb a g&&cb b g
theorem Q4 (a b:List Int)(k:Nat):qJ a b (k+1)=qJ a b k++if(cb a k&&cb b k)=true then[(k:Int)]else[]:=by
 rw[qJ,sk,List.filter_append,qJ];congr 1
 cases h:cb a k&&cb b k<;>simp[h]
theorem VL (a b:List Int)(k:Nat):(qJ a b k).length≤k:=Nat.le_trans (List.length_filter_le _ _) (by rw[va];exact Nat.le_refl _)
theorem DO (a b:List Int):TC Tw.prog E 103 [.gK (.func 116) [] [.s (.ptr 0 0),.s (.ptr 1 0)]] 2 [(0,.box [.r (aY a)]),(1,.box [.r (aY b)])] (gR (aY (qJ a b 5))) [(0,.box [.r (aY a)]),(1,.box [.r (aY b)])]:=by
 refine tE Tryz.f103 Tryz.ntmps103 (by rw[Tryz.results103]) ?_ (hfit:=(Fits.of (by simp[dw,List.range_succ]) (by simp) (by simp)))
 (refine TW.go ?_;simp;repeat' first|intro hc|refine aa.mk ?_|refine aI ?_|refine af ?_ ?_)
 refine tL (fun(k:Nat)=>⟨[(0,.gK (.func 116) [] [.s (.ptr 0 0),.s (.ptr 1 0)]),(3,.s (.own 2)),(6,gI .i64 (k:Nat))],[(0,.box [.r (aY a)]),(1,.box [.r (aY b)]),(2,fU (qJ a b k))],3⟩) (fun k=>k≤5) (fun k=>5-k) 0 (by omega)
  (Wk.own [2] [] (by simp) (by simp) (by simp[qJ,upto]) (by simp) (by simp)) fun k hk=>?_
 by_cases ak:k<5
 ·have an:(k:Int)<5:=by omega
  have aE:IntKind.i64.wrap ((k:Int)+1)=(k:Int)+1:=aQ (by omega) (by omega)
  have hl:=VL a b k;have hs:=Q4 a b k;have qt:=Q3 (E:=E) a b k;generalize qJ a b k=out at*
  cases hb:cb a k&&cb b k
  ·rw[hb]at qt hs
   (refine TW.go ?_;simp[an,aE,maxLen];repeat' first|intro hc|refine aa.mk ?_|refine aI ?_|refine af ?_ ?_|(refine cL [0,1] 0 ?_;refine⟨_,_,_,_,qt,?_⟩;simp[an,aE,maxLen]))
   exact⟨k+1,by omega,by omega,Wk.own [2] [] (by simp) (by simp) (by simp[hs]) (by simp) (by simp)⟩
  ·rw[hb]at qt hs
   (refine TW.go ?_;simp[an,aE,maxLen];repeat' first|intro hc|refine aa.mk ?_|refine aI ?_|refine af ?_ ?_|(refine cL [0,1] 0 ?_;refine⟨_,_,_,_,qt,?_⟩;simp[an,aE,maxLen]))
   exact⟨k+1,by omega,by omega,Wk.own [4] [] (by simp) (by simp) (by simp[hs]) (by simp) (by simp)⟩
 ·obtain rfl:k=5:=by omega
  (refine TW.go ?_;simp;repeat' first|intro hc|refine aa.mk ?_|refine aI ?_|refine af ?_ ?_)
  exact oW [] [2]
theorem Bw (a b:List Int)(ha:cB a=true)(hb:cB b=true):TC Tw.prog E 86 [gR (aY a),gR (aY b)] 0 [] (gR (aY (qJ a b 5))) []:=by
 have hA:=jx (E:=E) a;have hB:=jx (E:=E) b;have hP:=DO (E:=E) a b;rw[ha]at hA;rw[hb]at hB;generalize qJ a b 5=out at*;refine tE Tryz.f86 Tryz.ntmps86 (by rw[Tryz.results86]) ?_
 (refine TW.go ?_;simp;repeat' first|intro hc|refine aa.mk ?_|refine aI ?_|refine af ?_ ?_|(refine cP ?_;(first|refine⟨_,hA,?_⟩|refine⟨_,hB,?_⟩);simp)|(refine cL [0,1] 0 ?_;refine⟨_,_,_,_,hP,?_⟩;simp))
 exact oW [] []
end Go.Proofs.YtabjbdnokpjipaaGreat.T
namespace Go.Proofs.YtabjbdnokpjipaaGreat.T
open Go Go.RowKit
set_option maxRecDepth 100000
set_option maxHeartbeats 4000000
variable {E:List PanicEntry→World→Prop}
abbrev Gk (r:cl):List TV:=[.r (aY r.gs),.r (lq r.aH)]
theorem AL (r:cl)(g:Int):TC Tw.prog E 134 [.a (Gk r),gI .i64 g] 0 [] (gB (iM r g)) []:=by
 refine tE Tryz.f134 Tryz.ntmps134 (by rw[Tryz.results134]) ?_
 refine TW.go ?_;simp
 refine⟨TW.len 8 rfl fun hlen=>?_⟩
 simp only[List.length_map]at hlen;refine Nu.get ?_;refine tL (fun(k:Nat)=>⟨[(1,gI .i64 g),(8,gR (lq r.aH)),(9,gI .i64 r.aH.length),(10,gI .i64 (k:Nat))],[],0⟩) (fun k=>k≤r.aH.length∧∀i y,i<k→r.aH[i]?=some y→¬y.2=g) (fun k=>r.aH.length-k) 0 ⟨by omega,fun i y hi=>by omega⟩ (kS) fun k hk=>?_
 obtain⟨hk,hf⟩:=hk;by_cases ak:k<r.aH.length
 ·have he:r.aH[k]?=some r.aH[k]:=List.getElem?_eq_getElem ak
  have an:(k:Int)<(r.aH.length:Int):=by omega
  have aE:=wrap_add ak hlen;have cH:=List.getElem_mem ak;generalize r.aH[k]=x at*;by_cases hx:x.2=g
  ·rw[show iM r g=true by simp only[iM,List.any_eq_true,decide_eq_true_eq];exact⟨x,cH,hx⟩]
   (refine TW.go ?_;simp[he,an,hx,eE];repeat' first|intro hc|refine aa.mk ?_|refine aI ?_|refine af ?_ ?_)
   exact oW [] []
  ·(refine TW.go ?_;simp[he,an,aE,hx,eE];repeat' first|intro hc|refine aa.mk ?_|refine aI ?_|refine af ?_ ?_)
   refine⟨k+1,⟨by omega,fun i y hi hy=>?_⟩,by omega,kS⟩
   by_cases e:i=k
   ·subst e;rw[he]at hy;cases hy;exact hx
   ·exact hf i y (by omega) hy
 ·obtain rfl:k=r.aH.length:=by omega
  rw[show iM r g=false by
   simp only[iM,List.any_eq_false,decide_eq_true_eq];intro y hy;obtain⟨i,hi,rfl⟩:=List.getElem_of_mem hy;exact hf i _ hi (List.getElem?_eq_getElem hi)]
  (refine TW.go ?_;simp;repeat' first|intro hc|refine aa.mk ?_|refine aI ?_|refine af ?_ ?_)
  exact oW [] []
theorem NX (r:cl)(g:Int):TC Tw.prog E 133 [gI .i64 g,.s (.ptr 0 0)] 1 [(0,.box (Gk r))] (gB (cb r.gs g&& !iM r g)) [(0,.box (Gk r))]:=by
 refine tE Tryz.f133 Tryz.ntmps133 (by rw[Tryz.results133]) ?_ (hfit:=(Fits.of (by simp[dw,List.range_succ]) (by simp) (by simp)))
 have hA:=aeQ (E:=E) r.gs g;have hB:=AL (E:=E) r g
 cases h1:cb r.gs g
 ·rw[h1]at hA
  (refine TW.go ?_;simp;repeat' first|intro hc|refine aa.mk ?_|refine aI ?_|refine af ?_ ?_|(refine cP ?_;refine⟨_,hA,?_⟩;simp))
  exact oW [] []
 ·rw[h1]at hA
  (refine TW.go ?_;simp;repeat' first|intro hc|refine aa.mk ?_|refine aI ?_|refine af ?_ ?_|(refine cP ?_;(first|refine⟨_,hA,?_⟩|refine⟨_,hB,?_⟩);simp))
  exact oW [] []
def kJ (r:cl)(k:Nat):List Int:=(upto k).filter fun g=>cb r.gs g&& !iM r g
theorem Q5 (r:cl)(k:Nat):kJ r (k+1)=kJ r k++if(cb r.gs k&& !iM r k)=true then[(k:Int)]else[]:=by
 rw[kJ,sk,List.filter_append,kJ];congr 1
 cases h:cb r.gs k&& !iM r k<;>simp[h]
theorem VM (r:cl)(k:Nat):(kJ r k).length≤k:=Nat.le_trans (List.length_filter_le _ _) (by rw[va];exact Nat.le_refl _)
theorem Bx (r:cl):TC Tw.prog E 103 [.gK (.func 133) [] [.s (.ptr 0 0)]] 1 [(0,.box (Gk r))] (gR (aY (kJ r 5))) [(0,.box (Gk r))]:=by
 refine tE Tryz.f103 Tryz.ntmps103 (by rw[Tryz.results103]) ?_ (hfit:=(Fits.of (by simp[dw,List.range_succ]) (by simp) (by simp)))
 (refine TW.go ?_;simp;repeat' first|intro hc|refine aa.mk ?_|refine aI ?_|refine af ?_ ?_)
 refine tL (fun(k:Nat)=>⟨[(0,.gK (.func 133) [] [.s (.ptr 0 0)]),(3,.s (.own 1)),(6,gI .i64 (k:Nat))],[(0,.box (Gk r)),(1,fU (kJ r k))],2⟩) (fun k=>k≤5) (fun k=>5-k) 0 (by omega)
  (Wk.own [1] [] (by simp) (by simp) (by simp[kJ,upto]) (by simp) (by simp)) fun k hk=>?_
 by_cases ak:k<5
 ·have an:(k:Int)<5:=by omega
  have aE:IntKind.i64.wrap ((k:Int)+1)=(k:Int)+1:=aQ (by omega) (by omega)
  have hl:=VM r k;have hs:=Q5 r k;have qt:=NX (E:=E) r k;generalize kJ r k=out at*
  cases hb:cb r.gs k&& !iM r k
  ·rw[hb]at qt hs
   (refine TW.go ?_;simp[an,aE,maxLen];repeat' first|intro hc|refine aa.mk ?_|refine aI ?_|refine af ?_ ?_|(refine cL [0] 0 ?_;refine⟨_,_,_,_,qt,?_⟩;simp[an,aE,maxLen]))
   exact⟨k+1,by omega,by omega,Wk.own [1] [] (by simp) (by simp) (by simp[hs]) (by simp) (by simp)⟩
  ·rw[hb]at qt hs
   (refine TW.go ?_;simp[an,aE,maxLen];repeat' first|intro hc|refine aa.mk ?_|refine aI ?_|refine af ?_ ?_|(refine cL [0] 0 ?_;refine⟨_,_,_,_,qt,?_⟩;simp[an,aE,maxLen]))
   exact⟨k+1,by omega,by omega,Wk.own [3] [] (by simp) (by simp) (by simp[hs]) (by simp) (by simp)⟩
 ·obtain rfl:k=5:=by omega
  (refine TW.go ?_;simp;repeat' first|intro hc|refine aa.mk ?_|refine aI ?_|refine af ?_ ?_)
  exact oW [] [1]
theorem tb (r:cl)(h:jT r 4294967296)(hv:fe r=true):TC Tw.prog E 109 [.a ((aK r).map .r)] 0 [] (gR (aY (kJ r 5))) []:=by
 have hV:=mF (E:=E) r h;have hO:=Zq (E:=E) r;have hP:=Bx (E:=E) r;rw[hv]at hV;generalize kJ r 5=out at*;refine tE Tryz.f109 Tryz.ntmps109 (by rw[Tryz.results109]) ?_
 (refine TW.go ?_;simp[aK];repeat' first|intro hc|refine aa.mk ?_|refine aI ?_|refine af ?_ ?_|(refine cP ?_;(first|refine⟨_,hV,?_⟩|refine⟨_,hO,?_⟩);simp[aK])|(refine cL [1] 0 ?_;refine⟨_,_,_,_,hP,?_⟩;simp[aK]))
 exact oW [] []
def Q6 (xs:List (Int×Int)):Bool:=xs.all fun s=>bc s.1 s.2
theorem NY (x:Int×Int)(xs:List (Int×Int))(h12:xs.length<12)(dP:Q6 (x::xs)=true):TC Tw.prog E 150 [gR (lq (x::xs))] 0 [] (.p [mU (eF x xs),gB true]) []:=by
 have Ux:¬(xs.length:Int)+1<1:=by omega
 have hl2:¬12<(xs.length:Int)+1:=by omega
 have hM:eF x xs=eF x ((x::xs).drop 0):=by simp[eF,nT]
 have h0:∀hh,(x::xs)[0]'hh=x:=fun _=>rfl
 have hn:(x::xs).length=xs.length+1:=rfl
 rw[hM];generalize x::xs=ys at*;refine tE Tryz.f150 Tryz.ntmps150 (by rw[Tryz.results150]) ?_
 (refine TW.go ?_;simp[hn,Ux,hl2,h0,eE];repeat' first|intro hc|refine aa.mk ?_|refine aI ?_|refine af ?_ ?_)
 refine tL (fun(p:Nat×(Int×Int))=>⟨[(2,.s (.ptr 0 0)),(4,.s (.ptr 1 0)),(20,gR (lq ys)),(21,gI .i64 ys.length),(22,gI .i64 (p.1:Nat))],[(0,.box [.r (rI 0),.r (rI 0)]),(1,.box [.r (rI p.2.1),.r (rI p.2.2)])],2⟩)
  (fun p=>p.1≤ys.length∧eF p.2 (ys.drop p.1)=eF x (ys.drop 0)) (fun p=>ys.length-p.1) (0,x) ⟨by simp,rfl⟩ (Wk.own [0,1] [] (by simp) (by simp[hn]) (by simp[h0]) (by simp) (by simp)) fun p hp=>?_
 obtain⟨k,b⟩:=p;obtain⟨hk,aZ⟩:=hp;simp only at hk aZ⊢
 by_cases ak:k<ys.length
 ·have he:ys[k]?=some ys[k]:=List.getElem?_eq_getElem ak
  have an:(k:Int)<(ys.length:Int):=by omega
  have aE:IntKind.i64.wrap ((k:Int)+1)=(k:Int)+1:=aQ (by omega) (by omega)
  have hy:bc ys[k].1 ys[k].2=true:=by
   simp only[Q6,List.all_eq_true]at dP;exact dP _ (List.getElem_mem ak)
  rw[Dm he]at aZ;generalize ys[k]=y at*;have hV:=dc (E:=E) y.1 y.2;rw[hy]at hV;by_cases hc:aO b.1 b.2 y.1 y.2=true
  ·rw[if_pos hc]at aZ
   have cI:=AK hc;have hL:=iD (E:=E) y.1 y.2 b.1 b.2;rw[cI]at hL;(refine TW.go ?_;simp[he,an,aE,eE];repeat' first|intro hc|refine aa.mk ?_|refine aI ?_|refine af ?_ ?_|(refine cP ?_;(first|refine⟨_,hV,?_⟩|refine⟨_,hL,?_⟩);simp[he,an,aE,eE]))
   exact⟨(k+1,y),⟨by simp only;omega,aZ⟩,by simp only;omega,kO [0,1] []⟩
  ·rw[if_neg hc]at aZ
   have hL:=iD (E:=E) y.1 y.2 b.1 b.2
   cases hd:aO y.1 y.2 b.1 b.2
   ·have hyb:y=b:=by
     simp only[aO,decide_eq_false_iff_not,decide_eq_true_eq]at hc hd;exact Prod.ext (by omega) (by omega)
    subst hyb;rw[hd]at hL;(refine TW.go ?_;simp[he,an,aE,eE];repeat' first|intro hc|refine aa.mk ?_|refine aI ?_|refine af ?_ ?_|(refine cP ?_;(first|refine⟨_,hV,?_⟩|refine⟨_,hL,?_⟩);simp[he,an,aE,eE]))
    exact⟨(k+1,y),⟨by simp only;omega,aZ⟩,by simp only;omega,kO [0,1] []⟩
   ·rw[hd]at hL
    (refine TW.go ?_;simp[he,an,aE,eE];repeat' first|intro hc|refine aa.mk ?_|refine aI ?_|refine af ?_ ?_|(refine cP ?_;(first|refine⟨_,hV,?_⟩|refine⟨_,hL,?_⟩);simp[he,an,aE,eE]))
    exact⟨(k+1,b),⟨by simp only;omega,aZ⟩,by simp only;omega,kO [0,1] []⟩
 ·obtain rfl:k=ys.length:=by omega
  rw[List.drop_length,eF]at aZ;rw[←aZ];(refine TW.go ?_;simp;repeat' first|intro hc|refine aa.mk ?_|refine aI ?_|refine af ?_ ?_)
  exact oW [] []
end Go.Proofs.YtabjbdnokpjipaaGreat.T
namespace Go.Proofs.YtabjbdnokpjipaaGreat.T
open Go Go.RowKit
set_option maxRecDepth 100000
set_option maxHeartbeats 4000000
variable {E:List PanicEntry→World→Prop}
theorem Gl {xs:List Int}(h:∀i,i+1<xs.length→xs.getD i 0<xs.getD (i+1) 0):xs.Pairwise (·<·):=by
 rw[List.pairwise_iff_getElem];intro i j hi hj jf;have key:∀d,∀hd:i+d+1<xs.length,xs[i]<xs[i+d+1]:=by
  intro d;induction d with
  |zero=>
   intro hd;have:=h i hd
   simpa[List.getD_eq_getElem?_getD,List.getElem?_eq_getElem hi,List.getElem?_eq_getElem hd]using this
  |succ d ih=>
   intro hd;have a:=ih (by omega)
   have:=h (i+d+1) hd
   have e2:xs.getD (i+d+1+1) 0=xs[i+(d+1)+1]:=by
    rw[List.getD_eq_getElem?_getD];exact congrArg (Option.getD · 0) (List.getElem?_eq_getElem hd)
   rw[e2,List.getD_eq_getElem?_getD,List.getElem?_eq_getElem (show i+d+1<xs.length by omega)]at this
   exact Int.lt_trans a this
 obtain⟨d,rfl⟩:∃d,j=i+d+1:=⟨j-i-1,by omega⟩
 exact key d hj
theorem Gm:∀{xs ys:List Int},xs.Pairwise (·<·)→ys.Pairwise (·<·)→(∀a,a∈xs↔a∈ys)→xs=ys
 |[],[],_,_,_=>rfl
 |[],y::ys,_,_,h=>by have:=(h y).2 (List.mem_cons_self ..);cases this
 |x::xs,[],_,_,h=>by have:=(h x).1 (List.mem_cons_self ..);cases this
 |x::xs,y::ys,h1,h2,h=>by
  rw[List.pairwise_cons]at h1 h2;have nb:x=y:=by
   rcases List.mem_cons.1 ((h x).1 (List.mem_cons_self ..))with e|e
   ·exact e
   ·rcases List.mem_cons.1 ((h y).2 (List.mem_cons_self ..))with e'|e'
    ·exact e'.symm
    ·have:=h2.1 x e;have:=h1.1 y e';omega
  subst nb;rw[Gm h1.2 h2.2 fun a=>?_]
  have hx:x∉xs:=fun hx=>by have:=h1.1 x hx;omega
  have hy:x∉ys:=fun hy=>by have:=h2.1 x hy;omega
  have:=h a
  simp only[List.mem_cons]at this;constructor
  ·intro ha
   rcases this.1 (.inr ha)with rfl|h
   ·exact absurd ha hx
   ·exact h
  ·intro ha
   rcases this.2 (.inr ha)with rfl|h
   ·exact absurd ha hy
   ·exact h
theorem Q7:(upto 5).Pairwise (·<·):=by decide
theorem zG {k:Nat}{x:Int}:x∈upto k↔0≤x∧x<k:=by
 simp only[upto,List.mem_map,List.mem_range];constructor
 ·rintro⟨i,hi,rfl⟩;omega
 ·intro h;exact⟨x.toNat,by omega,by omega⟩
theorem cY {xs:List Int}{g:Int}:cb xs g=true↔g∈xs:=by
 simp only[cb,List.any_eq_true,decide_eq_true_eq];constructor
 ·rintro⟨x,h,rfl⟩;exact h
 ·intro h;exact⟨g,h,rfl⟩
theorem uB {xs:List Int}(h:xs.Pairwise (·<·))(hr:cm xs):xs=(upto 5).filter (fun g=>cb xs g):=
 Gm h (Q7.filter _) fun a=>by
  rw[List.mem_filter,zG,cY];exact⟨fun h=>⟨hr a h,h⟩,fun h=>h.2⟩
theorem sz {xs:List Int}(h:cB xs=true):xs.Pairwise (·<·):=by
 simp only[cB,Bool.and_eq_true,bZ,pI,Bool.or_eq_true,decide_eq_true_eq]at h;refine Gl fun i hi=>?_;have:=(h.1 (i+1) hi).2
 simp only[Nat.add_sub_cancel]at this;omega
theorem pP {r:cl}(h:fe r=true):cB r.gs=true∧bj r.m=true∧(∀s∈r.aH,bc s.1 s.2=true∧s.2∈r.gs)∧r.aH.Pairwise (fun a b=>a.2<b.2):=by
 simp only[fe,Bool.and_eq_true,bZ]at h;obtain⟨⟨h1,h2⟩,h3⟩:=h;have hp:(r.aH.map (·.2)).Pairwise (·<·):=by
  refine Gl fun i hi=>?_;rw[List.length_map]at hi;have:=h1 (i+1) hi
  rw[je,List.getElem?_eq_getElem hi]at this;simp only[Nat.add_sub_cancel,List.getElem?_eq_getElem (show i<r.aH.length by omega)]at this
  simp only[Bool.and_eq_true,Bool.or_eq_true,decide_eq_true_eq]at this;simp only[List.getD_eq_getElem?_getD,List.getElem?_map,List.getElem?_eq_getElem hi,List.getElem?_eq_getElem (show i<r.aH.length by omega),Option.map_some,Option.getD_some]
  omega
 refine⟨h3,h2,fun s hs=>?_,List.pairwise_map.1 hp⟩
 obtain⟨i,hi,rfl⟩:=List.getElem_of_mem hs;have:=h1 i hi
 rw[je,List.getElem?_eq_getElem hi]at this;simp only[Bool.and_eq_true]at this;exact⟨this.1.1,cY.1 this.1.2⟩
theorem zH {r:cl}{g:Int}:iM r g=true↔g∈r.aH.map (·.2):=by
 simp only[iM,List.any_eq_true,decide_eq_true_eq,List.mem_map]
theorem yH {r:cl}(h:fe r=true):(kJ r 5=[]↔r.gs.length≤r.aH.length)∧r.aH.length≤r.gs.length:=by
 obtain⟨h1,h2,h3,h4⟩:=pP h;obtain⟨-, -,hr⟩:=eY h1;have hg:=uB (sz h1) hr;have hG:(r.aH.map (·.2)).Pairwise (·<·):=List.pairwise_map.2 h4
 have hn:∀{xs:List Int},xs.Pairwise (·<·)→xs.Nodup:=fun h=>h.imp fun h e=>by omega
 have AE:r.aH.map (·.2)⊆r.gs:=fun x hx=>by
  obtain⟨s,hs,rfl⟩:=List.mem_map.1 hx;exact(h3 s hs).2
 have hle:=(hn hG).length_le_of_subset AE;rw[List.length_map]at hle;refine⟨⟨fun hm=>?_,fun hl=>?_⟩,hle⟩
 ·have:=(hn (sz h1)).length_le_of_subset (l₂:=r.aH.map (·.2)) fun x hx=>by
   rw[←zH];simp only[kJ,List.filter_eq_nil_iff,Bool.and_eq_true,Bool.not_eq_true',not_and,Bool.not_eq_false]at hm;exact hm x (zG.2 (hr x hx)) (cY.2 hx)
  rwa[List.length_map]at this
 ·simp only[kJ,List.filter_eq_nil_iff,Bool.and_eq_true,Bool.not_eq_true',not_and,Bool.not_eq_false]
  intro g _ hg;rw[zH];apply Classical.byContradiction
  intro Qh;have:=(List.nodup_cons.2 ⟨Qh,hn hG⟩).length_le_of_subset (l₂:=r.gs) (by
   intro x hx;rcases List.mem_cons.1 hx with rfl|hx
   ·exact cY.1 hg
   ·exact AE hx)
  simp only[List.length_cons,List.length_map]at this;omega
theorem Fa (r:cl)(h:jT r 4294967296)(hv:fe r=true):TC Tw.prog E 135 [.a ((aK r).map .r)] 0 [] (.p [mU (dx r).1,gB (dx r).2]) []:=by
 have hV:=mF (E:=E) r h;have hM:=tb (E:=E) r h hv;obtain⟨hi,hle⟩:=yH hv;obtain⟨h1, -,h3, -⟩:=pP hv;obtain⟨cf,hl5, -⟩:=eY h1;rw[hv]at hV;refine tE Tryz.f135 Tryz.ntmps135 (by rw[Tryz.results135]) ?_
 unfold dx;by_cases hm:kJ r 5=[]
 ·have ov:=hi.1 hm
  rw[if_neg (by omega)]
  rw[hm]at hM;have hx:∃x xs,r.aH=x::xs:=by
   rcases hg:r.aH with _|⟨x,xs⟩
   ·rw[hg]at ov
    exact absurd (List.length_eq_zero_iff.1 (by simpa using ov)) cf
   ·exact⟨x,xs,rfl⟩
  obtain⟨x,xs,hx⟩:=hx;have hS:=NY (E:=E) x xs (by rw[hx]at hle;simp at hle;omega) (by
   simp only[Q6,List.all_eq_true];intro s hs;rw[←hx]at hs;exact(h3 s hs).1)
  rw[hx];simp only[aK,hx]at hV hM;(refine TW.go ?_;simp[aK,hx];repeat' first|intro hc|refine aa.mk ?_|refine aI ?_|refine af ?_ ?_|(refine cP ?_;(first|refine⟨_,hV,?_⟩|refine⟨_,hM,?_⟩|refine⟨_,hS,?_⟩);simp[aK,hx]))
  refine aT.own [] [] (by simp;rfl) (by simp[lu]) (by simp) (by simp) (by simp[lu]) (by simp)
 ·have dK:0<(kJ r 5).length:=List.length_pos_iff.2 hm
  have ak:r.aH.length<r.gs.length:=by
   apply Classical.byContradiction
   intro hn;exact hm (hi.2 (by omega))
  rw[if_pos ak];generalize kJ r 5=out at*;(refine TW.go ?_;simp[aK,dK];repeat' first|intro hc|refine aa.mk ?_|refine aI ?_|refine af ?_ ?_|(refine cP ?_;(first|refine⟨_,hV,?_⟩|refine⟨_,hM,?_⟩);simp[aK,dK]))
  exact oW [] []
end Go.Proofs.YtabjbdnokpjipaaGreat.T
