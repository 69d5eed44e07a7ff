/-
What is proved: what the laws' comparisons of runs do to trees, the draw of a play, and what rests on it. Conditions: as stated.
-/
import Derived.Test.YtabjbdnokpjipaaGreatRw47
set_option linter.unusedVariables false
set_option linter.unusedSimpArgs false
namespace Go.Proofs.YtabjbdnokpjipaaGreat.T
open Go Go.RowKit
set_option maxRecDepth 100000
set_option maxHeartbeats 4000000
variable {E:List PanicEntry→World→Prop}
theorem Oh (es:List (List Int)):TC Tw.prog E 29 [gR (kz es),gR (kz es)] 0 [] (gB true) []:=by
 refine tE Tryz.f29 Tryz.ntmps29 (by rw[Tryz.results29]) ?_
 refine TW.len 0 rfl fun hlen=>?_;simp only[List.length_map]at hlen;(refine TW.go ?_;simp;repeat' first|intro hc|refine aa.mk ?_|refine aI ?_|refine af ?_ ?_)
 refine tL (fun k=>⟨[(0,gR (kz es)),(1,gR (kz es)),(5,gI .i64 (k:Nat))],[],0⟩) (fun k=>k≤es.length) (fun k=>es.length-k) 0 (by omega) (kS) fun k hk=>?_
 by_cases ak:k<es.length
 ·have he:es[k]?=some es[k]:=List.getElem?_eq_getElem ak
  have an:(k:Int)<(es.length:Int):=by omega
  have aE:=wrap_add ak hlen;generalize es[k]=e at he;(refine TW.go ?_;simp[an,he,aE];repeat' first|intro hc|refine aa.mk ?_|refine aI ?_|refine af ?_ ?_|(refine cP ?_;refine⟨_,AV e,?_⟩;simp[an,he,aE]))
  exact⟨k+1,by omega,by omega,kS⟩
 ·obtain rfl:k=es.length:=by omega
  (refine TW.go ?_;simp;repeat' first|intro hc|refine aa.mk ?_|refine aI ?_|refine af ?_ ?_)
  exact oW [] []
theorem Jb (es:List Bool):TC Tw.prog E 31 [gR (rS es),gR (rS es)] 0 [] (gB true) []:=by
 refine tE Tryz.f31 Tryz.ntmps31 (by rw[Tryz.results31]) ?_
 refine TW.len 0 rfl fun hlen=>?_;simp only[List.length_map]at hlen;(refine TW.go ?_;simp;repeat' first|intro hc|refine aa.mk ?_|refine aI ?_|refine af ?_ ?_)
 refine tL (fun k=>⟨[(0,gR (rS es)),(1,gR (rS es)),(5,gI .i64 (k:Nat))],[],0⟩) (fun k=>k≤es.length) (fun k=>es.length-k) 0 (by omega) (kS) fun k hk=>?_
 by_cases ak:k<es.length
 ·have he:es[k]?=some es[k]:=List.getElem?_eq_getElem ak
  have an:(k:Int)<(es.length:Int):=by omega
  have aE:=wrap_add ak hlen;generalize es[k]=e at he;(refine TW.go ?_;simp[an,he,aE];repeat' first|intro hc|refine aa.mk ?_|refine aI ?_|refine af ?_ ?_)
  exact⟨k+1,by omega,by omega,kS⟩
 ·obtain rfl:k=es.length:=by omega
  (refine TW.go ?_;simp;repeat' first|intro hc|refine aa.mk ?_|refine aI ?_|refine af ?_ ?_)
  exact oW [] []
theorem Fg (es:List (Int×Int)):TC Tw.prog E 49 [gR (lq es),gR (lq es)] 0 [] (gB true) []:=by
 refine tE Tryz.f49 Tryz.ntmps49 (by rw[Tryz.results49]) ?_
 refine TW.len 0 rfl fun hlen=>?_;simp only[List.length_map]at hlen;(refine TW.go ?_;simp;repeat' first|intro hc|refine aa.mk ?_|refine aI ?_|refine af ?_ ?_)
 refine tL (fun k=>⟨[(0,gR (lq es)),(1,gR (lq es)),(5,gI .i64 (k:Nat))],[],0⟩) (fun k=>k≤es.length) (fun k=>es.length-k) 0 (by omega) (kS) fun k hk=>?_
 by_cases ak:k<es.length
 ·have he:es[k]?=some es[k]:=List.getElem?_eq_getElem ak
  have an:(k:Int)<(es.length:Int):=by omega
  have aE:=wrap_add ak hlen;generalize es[k]=e at he;(refine TW.go ?_;simp[an,he,aE,eE,oI];repeat' first|intro hc|refine aa.mk ?_|refine aI ?_|refine af ?_ ?_)
  exact⟨k+1,by omega,by omega,kS⟩
 ·obtain rfl:k=es.length:=by omega
  (refine TW.go ?_;simp;repeat' first|intro hc|refine aa.mk ?_|refine aI ?_|refine af ?_ ?_)
  exact oW [] []
theorem Jc (r:cl):TC Tw.prog E 32 [.a ((aK r).map .r),.a ((aK r).map .r)] 0 [] (gB true) []:=by
 refine tE Tryz.f32 Tryz.ntmps32 (by rw[Tryz.results32]) ?_
 (refine TW.go ?_;simp[aK];repeat' first|intro hc|refine aa.mk ?_|refine aI ?_|refine af ?_ ?_|(refine cP ?_;(first|refine⟨_,AV _,?_⟩|refine⟨_,Fg _,?_⟩);simp[aK]))
 exact oW [] []
theorem sI (w:aA)(hr:w.rounds.length≤100)(hn:w.aX.length≤100):TC Tw.prog E 13 [gW w,gW w] 0 [] (gB true) []:=by
 have hlen:w.rounds.length≤maxLen:=by simp only[maxLen];omega
 have nu:w.aX.length≤maxLen:=by simp only[maxLen];omega
 refine tE Tryz.f13 Tryz.ntmps13 (by rw[Tryz.results13]) ?_
 (refine TW.go ?_;simp[wT];repeat' first|intro hc|refine aa.mk ?_|refine aI ?_|refine af ?_ ?_|(refine cP ?_;(first|refine⟨_,Oh _,?_⟩|refine⟨_,Fe _,?_⟩|refine⟨_,Jb _,?_⟩);simp[wT]))
 refine tL (fun(k:Nat)=>⟨[(2,.s (.ptr 0 0)),(3,.s (.ptr 1 0)),(5,gI .i64 (k:Nat))],[(0,.box ((wT w).map .r)),(1,.box ((wT w).map .r))],2⟩) (fun k=>k≤w.rounds.length) (fun k=>w.rounds.length-k) 0 (by omega) (Wk.own [0,1] [] (by simp) (by simp) (by simp[wT]) (by simp) (by simp)) fun k hk=>?_
 by_cases ak:k<w.rounds.length
 ·have he:w.rounds[k]?=some w.rounds[k]:=List.getElem?_eq_getElem ak
  have an:(k:Int)<(w.rounds.length:Int):=by omega
  have aE:=wrap_add ak hlen;generalize w.rounds[k]=r at he;(refine TW.go ?_;simp[wT,aK,an,he,aE];repeat' first|intro hc|refine aa.mk ?_|refine aI ?_|refine af ?_ ?_|(refine cP ?_;refine⟨_,Jc r,?_⟩;simp[wT,aK,an,he,aE]))
  exact⟨k+1,by omega,by omega,Wk.own [0,1] [] (by simp) (by simp) (by simp[wT]) (by simp) (by simp)⟩
 ·obtain rfl:k=w.rounds.length:=by omega
  (refine TW.go ?_;simp[wT];repeat' first|intro hc|refine aa.mk ?_|refine aI ?_|refine af ?_ ?_)
  refine tL (fun(k:Nat)=>⟨[(2,.s (.ptr 0 0)),(3,.s (.ptr 1 0)),(6,gI .i64 (k:Nat))],[(0,.box ((wT w).map .r)),(1,.box ((wT w).map .r))],2⟩) (fun k=>k≤w.aX.length) (fun k=>w.aX.length-k) 0 (by omega) (Wk.own [0,1] [] (by simp) (by simp) (by simp[wT]) (by simp) (by simp)) fun k hk=>?_
  by_cases ak:k<w.aX.length
  ·have he:w.aX[k]?=some w.aX[k]:=List.getElem?_eq_getElem ak
   have an:(k:Int)<(w.aX.length:Int):=by omega
   have aE:=wrap_add ak nu;generalize w.aX[k]=p at he;(refine TW.go ?_;simp[wT,cd,oI,an,he,aE];repeat' first|intro hc|refine aa.mk ?_|refine aI ?_|refine af ?_ ?_)
   exact⟨k+1,by omega,by omega,Wk.own [0,1] [] (by simp) (by simp) (by simp[wT]) (by simp) (by simp)⟩
  ·obtain rfl:k=w.aX.length:=by omega
   (refine TW.go ?_;simp[wT];repeat' first|intro hc|refine aa.mk ?_|refine aI ?_|refine af ?_ ?_)
   exact oW [] []
theorem fX:TC Tw.prog E 13 [.a [.r .nil,.r .nil,.r .nil,.r .nil,.r .nil],.a [.r .nil,.r .nil,.r .nil,.r .nil,.r .nil]] 0 [] (gB true) []:=by
 refine TC.le (args':=[gW ⟨[],[],[],[],[]⟩,gW ⟨[],[],[],[],[]⟩]) ?_ (sI ⟨[],[],[],[],[]⟩ (by simp) (by simp))
 have h:GV.le (.a [.r .nil,.r .nil,.r .nil,.r .nil,.r .nil]) (gW ⟨[],[],[],[],[]⟩):=by
  show _∧_∧_∧_∧_∧_
  exact⟨TV.le_nil 1,TV.le_nil 4,TV.le_nil 3,TV.le_nil 1,TV.le_nil 5,trivial⟩
 exact⟨h,h,trivial⟩
abbrev abU (es:List (Int×Int)):az:= .rows 57 2 (es.map fun e=>[rI e.1,rI e.2])
def jU (o:Int→Int→Int)(i:Nat)(p:Int)(w:aA):(Int×Int)×Int:=if i=0 then((1,1+o (bD o p w).2.2 31),(bD o p w).2.2+1)else(((bD o p w).1,(bD o p w).2.1),(bD o p w).2.2)
def qd (o:Int→Int→Int):Nat→Nat→Int→aA→List (Int×Int)
 |0,_,_,_=>[]
 |n+1,i,p,w=>(jU o i p w).1::qd o n (i+1) (jU o i p w).2 (h_ w (jU o i p w).1.1 (jU o i p w).1.2)
def sJ (o:Int→Int→Int):Int×Int:=if o 1 24=0 then(80+o 2 2,3)else(o 0 81,2)
def jV (o:Int→Int→Int):List (Int×Int):=qd o (sJ o).1.toNat 0 (sJ o).2 iP
theorem V3 {bs:List Int}(h:AG bs):0≤(sJ (pk bs)).1∧(sJ (pk bs)).1≤81∧2≤(sJ (pk bs)).2∧(sJ (pk bs)).2≤3:=by
 have a:=IX h (k:=2) (n:=2) (by omega) (by omega)
 have b:=si h (k:=2) (n:=2) (by omega) (by omega) (by omega)
 have c:=IX h (k:=0) (n:=81) (by omega) (by omega)
 have d:=si h (k:=0) (n:=81) (by omega) (by omega) (by omega)
 unfold sJ;split<;>(simp only;omega)
set_option maxHeartbeats 8000000 in
theorem jz {bs:List Int}(h:AG (bs.take 2000)):TC Tw.prog E 10 [gR (j5 bs)] 0 [] (gR (D9 (jV (pk (bs.take 2000))))) []:=by
 have hO:=VE (E:=E) bs;generalize bs.take 2000=cs at*;obtain⟨n0,n1,p0,p1⟩:=V3 h;have hw:=s_ (E:=E);have a:=IX h (k:=2) (n:=2) (by omega) (by omega)
 have b:=si h (k:=2) (n:=2) (by omega) (by omega) (by omega)
 have w1:IntKind.i64.wrap (80+pk cs 2 2)=80+pk cs 2 2:=aQ (by omega) (by omega)
 refine tE Tryz.f10 Tryz.ntmps10 (by rw[Tryz.results10]) ?_
 by_cases hc:pk cs 1 24=0
 ·have hE:jV (pk cs)=qd (pk cs) (80+pk cs 2 2).toNat 0 3 iP:=by unfold jV sJ;rw[if_pos hc]
  generalize hN:80+pk cs 2 2=N at*;have hN0:0≤N:=by omega
  have hN1:N≤81:=by omega
  (refine TW.go ?_;simp[hc,w1,hN,wT];repeat' first|intro hc|refine aa.mk ?_|refine aI ?_|refine af ?_ ?_|(refine cP ?_;refine⟨_,hw,?_⟩;simp[hc,w1,hN,wT])|(refine cF [] 1 ?_;refine⟨_,_,hO,?_⟩;simp[hc,w1,hN,wT])|(refine cR ?_;refine⟨_,_,yA h _ _ (by omega) (by omega),?_⟩;simp[hc,w1,hN,wT]))
  refine tL (fun(x:Nat×Int×aA×List (Int×Int))=>⟨[(3,Zg),(4,.s (.ptr 1 0)),(5,.s (.own 2)),(6,gI .i64 N),(7,gI .i64 (x.1:Nat))],[(0,QX cs x.2.1),(1,.box ((wT x.2.2.1).map .r)),(2,abU x.2.2.2)],3⟩)
   (fun x=>x.1≤N.toNat∧3≤x.2.1∧x.2.1≤3+7*x.1∧cw (5*x.1) x.2.2.1∧x.2.2.2.length=x.1∧x.2.2.2++qd (pk cs) (N.toNat-x.1) x.1 x.2.1 x.2.2.1=jV (pk cs)) (fun x=>N.toNat-x.1) (0,3,iP,[]) ⟨by simp,by simp,by simp,zE,rfl,by rw[hE];rfl⟩
   (Wk.own [0,1,2] [] (by simp) (by simp) (by simp[wT]) (by simp) (by simp)) fun x hx=>?_
  obtain⟨i,q,w,es⟩:=x;obtain⟨hi,r1,r2,Eb,mf,aZ⟩:=hx;simp only at hi r1 r2 Eb mf aZ⊢
  have q0:0≤q:=by omega
  have q2:q≤999999000:=by omega
  by_cases ak:i<N.toNat
  ·have an:(i:Int)<N:=by omega
   have qv:=vY (pk cs) q w;have aE:IntKind.i64.wrap ((i:Int)+1)=(i:Int)+1:=aQ (by omega) (by omega)
   rw[show N.toNat-i=(N.toNat-(i+1))+1 by omega,qd]at aZ
   have ZJ:=AH (E:=E) h q w (by omega) (by omega) Eb.nl Eb.l_
   have z1:=IX h (k:=(bD (pk cs) q w).2.2) (n:=31) (by omega) (by omega)
   have z2:=si h (k:=(bD (pk cs) q w).2.2) (n:=31) (by omega) (by omega) (by omega)
   have cU:IntKind.i64.wrap (1+pk cs (bD (pk cs) q w).2.2 31)=1+pk cs (bD (pk cs) q w).2.2 31:=aQ (by omega) (by omega)
   have hD:=aeX (E:=E) w (jU (pk cs) i q w).1.1 (jU (pk cs) i q w).1.2 (Eb.mono (by omega))
   have zP:=Eb.event (jU (pk cs) i q w).1.1 (jU (pk cs) i q w).1.2;rcases i with _|i
   ·have hp:jU (pk cs) 0 q w=((1,1+pk cs (bD (pk cs) q w).2.2 31),(bD (pk cs) q w).2.2+1):=rfl
    rw[hp]at aZ hD zP;simp only at aZ hD zP
    generalize h_ w 1 (1+pk cs (bD (pk cs) q w).2.2 31)=u at*;simp at an aE
    (refine TW.go ?_;simp[wT,an,aE,cU,mf,maxLen];repeat' first|intro hc|refine aa.mk ?_|refine aI ?_|refine af ?_ ?_|(refine cP ?_;refine⟨_,hD,?_⟩;simp[wT,an,aE,cU,mf,maxLen])|(refine cR ?_;refine⟨_,_,ZJ,?_⟩;simp[wT,an,aE,cU,mf,maxLen])|(refine cR ?_;refine⟨_,_,yA h _ _ (by omega) (by omega),?_⟩;simp[wT,an,aE,cU,mf,maxLen]))
    exact⟨(1,(bD (pk cs) q w).2.2+1,u,es++[(1,1+pk cs (bD (pk cs) q w).2.2 31)]),⟨by simp only;omega,by simp only;omega,by simp only;omega,zP,by simp[mf],by rw[←aZ];simp⟩,by simp only;omega,Wk.own [0,1,5] [] (by simp) (by simp) (by simp[wT]) (by simp) (by simp)⟩
   ·have hp:jU (pk cs) (i+1) q w=(((bD (pk cs) q w).1,(bD (pk cs) q w).2.1),(bD (pk cs) q w).2.2):=rfl
    rw[hp]at aZ hD zP;simp only at aZ hD zP
    generalize h_ w (bD (pk cs) q w).1 (bD (pk cs) q w).2.1=u at*;have tH:¬(i:Int)+1=0:=by omega
    simp only[Int.natCast_add,Int.natCast_one]at an aE;(refine TW.go ?_;simp[wT,an,aE,tH,mf,maxLen];repeat' first|intro hc|refine aa.mk ?_|refine aI ?_|refine af ?_ ?_|(refine cP ?_;refine⟨_,hD,?_⟩;simp[wT,an,aE,tH,mf,maxLen])|(refine cR ?_;refine⟨_,_,ZJ,?_⟩;simp[wT,an,aE,tH,mf,maxLen]))
    exact⟨(i+1+1,(bD (pk cs) q w).2.2,u,es++[((bD (pk cs) q w).1,(bD (pk cs) q w).2.1)]),⟨by simp only;omega,by simp only;omega,by simp only;omega,by rw[show 5*(i+1+1)=5*(i+1)+5 by omega];exact zP,by simp[mf],by rw[←aZ];simp⟩,by simp only;omega,Wk.own [0,1,5] [] (by simp) (by simp) (by simp[wT]) (by simp) (by simp)⟩
  ·have ZK:jV (pk cs)=es:=by
    rw[←aZ,show N.toNat-i=0 by omega]
    simp[qd]
   have ov:¬(i:Int)<N:=by omega
   rw[ZK];(refine TW.go ?_;simp[ov];repeat' first|intro hc|refine aa.mk ?_|refine aI ?_|refine af ?_ ?_)
   exact oW [] [2]
 ·have hE:jV (pk cs)=qd (pk cs) (pk cs 0 81).toNat 0 2 iP:=by unfold jV sJ;rw[if_neg hc]
  have hN0:=IX h (k:=0) (n:=81) (by omega) (by omega)
  have hN1:=si h (k:=0) (n:=81) (by omega) (by omega) (by omega)
  generalize hN:pk cs 0 81=N at*;(refine TW.go ?_;simp[hc,hN,wT];repeat' first|intro hc|refine aa.mk ?_|refine aI ?_|refine af ?_ ?_|(refine cP ?_;refine⟨_,hw,?_⟩;simp[hc,hN,wT])|(refine cF [] 1 ?_;refine⟨_,_,hO,?_⟩;simp[hc,hN,wT])|(refine cR ?_;refine⟨_,_,yA h _ _ (by omega) (by omega),?_⟩;simp[hc,hN,wT]))
  refine tL (fun(x:Nat×Int×aA×List (Int×Int))=>⟨[(3,Zg),(4,.s (.ptr 1 0)),(5,.s (.own 2)),(6,gI .i64 N),(7,gI .i64 (x.1:Nat))],[(0,QX cs x.2.1),(1,.box ((wT x.2.2.1).map .r)),(2,abU x.2.2.2)],3⟩)
   (fun x=>x.1≤N.toNat∧2≤x.2.1∧x.2.1≤2+7*x.1∧cw (5*x.1) x.2.2.1∧x.2.2.2.length=x.1∧x.2.2.2++qd (pk cs) (N.toNat-x.1) x.1 x.2.1 x.2.2.1=jV (pk cs)) (fun x=>N.toNat-x.1) (0,2,iP,[]) ⟨by simp,by simp,by simp,zE,rfl,by rw[hE];rfl⟩
   (Wk.own [0,1,2] [] (by simp) (by simp) (by simp[wT]) (by simp) (by simp)) fun x hx=>?_
  obtain⟨i,q,w,es⟩:=x;obtain⟨hi,r1,r2,Eb,mf,aZ⟩:=hx;simp only at hi r1 r2 Eb mf aZ⊢
  have q0:0≤q:=by omega
  have q2:q≤999999000:=by omega
  by_cases ak:i<N.toNat
  ·have an:(i:Int)<N:=by omega
   have qv:=vY (pk cs) q w;have aE:IntKind.i64.wrap ((i:Int)+1)=(i:Int)+1:=aQ (by omega) (by omega)
   rw[show N.toNat-i=(N.toNat-(i+1))+1 by omega,qd]at aZ
   have ZJ:=AH (E:=E) h q w (by omega) (by omega) Eb.nl Eb.l_
   have z1:=IX h (k:=(bD (pk cs) q w).2.2) (n:=31) (by omega) (by omega)
   have z2:=si h (k:=(bD (pk cs) q w).2.2) (n:=31) (by omega) (by omega) (by omega)
   have cU:IntKind.i64.wrap (1+pk cs (bD (pk cs) q w).2.2 31)=1+pk cs (bD (pk cs) q w).2.2 31:=aQ (by omega) (by omega)
   have hD:=aeX (E:=E) w (jU (pk cs) i q w).1.1 (jU (pk cs) i q w).1.2 (Eb.mono (by omega))
   have zP:=Eb.event (jU (pk cs) i q w).1.1 (jU (pk cs) i q w).1.2;rcases i with _|i
   ·have hp:jU (pk cs) 0 q w=((1,1+pk cs (bD (pk cs) q w).2.2 31),(bD (pk cs) q w).2.2+1):=rfl
    rw[hp]at aZ hD zP;simp only at aZ hD zP
    generalize h_ w 1 (1+pk cs (bD (pk cs) q w).2.2 31)=u at*;simp at an aE
    (refine TW.go ?_;simp[wT,an,aE,cU,mf,maxLen];repeat' first|intro hc|refine aa.mk ?_|refine aI ?_|refine af ?_ ?_|(refine cP ?_;refine⟨_,hD,?_⟩;simp[wT,an,aE,cU,mf,maxLen])|(refine cR ?_;refine⟨_,_,ZJ,?_⟩;simp[wT,an,aE,cU,mf,maxLen])|(refine cR ?_;refine⟨_,_,yA h _ _ (by omega) (by omega),?_⟩;simp[wT,an,aE,cU,mf,maxLen]))
    exact⟨(1,(bD (pk cs) q w).2.2+1,u,es++[(1,1+pk cs (bD (pk cs) q w).2.2 31)]),⟨by simp only;omega,by simp only;omega,by simp only;omega,zP,by simp[mf],by rw[←aZ];simp⟩,by simp only;omega,Wk.own [0,1,5] [] (by simp) (by simp) (by simp[wT]) (by simp) (by simp)⟩
   ·have hp:jU (pk cs) (i+1) q w=(((bD (pk cs) q w).1,(bD (pk cs) q w).2.1),(bD (pk cs) q w).2.2):=rfl
    rw[hp]at aZ hD zP;simp only at aZ hD zP
    generalize h_ w (bD (pk cs) q w).1 (bD (pk cs) q w).2.1=u at*;have tH:¬(i:Int)+1=0:=by omega
    simp only[Int.natCast_add,Int.natCast_one]at an aE;(refine TW.go ?_;simp[wT,an,aE,tH,mf,maxLen];repeat' first|intro hc|refine aa.mk ?_|refine aI ?_|refine af ?_ ?_|(refine cP ?_;refine⟨_,hD,?_⟩;simp[wT,an,aE,tH,mf,maxLen])|(refine cR ?_;refine⟨_,_,ZJ,?_⟩;simp[wT,an,aE,tH,mf,maxLen]))
    exact⟨(i+1+1,(bD (pk cs) q w).2.2,u,es++[((bD (pk cs) q w).1,(bD (pk cs) q w).2.1)]),⟨by simp only;omega,by simp only;omega,by simp only;omega,by rw[show 5*(i+1+1)=5*(i+1)+5 by omega];exact zP,by simp[mf],by rw[←aZ];simp⟩,by simp only;omega,Wk.own [0,1,5] [] (by simp) (by simp) (by simp[wT]) (by simp) (by simp)⟩
  ·have ZK:jV (pk cs)=es:=by
    rw[←aZ,show N.toNat-i=0 by omega]
    simp[qd]
   have ov:¬(i:Int)<N:=by omega
   rw[ZK];(refine TW.go ?_;simp[ov];repeat' first|intro hc|refine aa.mk ?_|refine aI ?_|refine af ?_ ?_)
   exact oW [] [2]
end Go.Proofs.YtabjbdnokpjipaaGreat.T
namespace Go.Proofs.YtabjbdnokpjipaaGreat.T
open Go Go.RowKit
set_option maxRecDepth 100000
set_option maxHeartbeats 4000000
variable {E:List PanicEntry→World→Prop}
structure Rh (w:aA):Prop where
 ok:b_ w
 tV:cw 1500 w
 ck:iQ w.ae 80
theorem aeP {es:List (Int×Int)}(h:es.length≤80):Rh (eJ es):=⟨(DX es).1,vf es (by omega),(DX es).2.mono (by omega)⟩
theorem Rh.s2 {w:aA}(h:Rh w):cw 2000 w:=h.tV.mono (by omega)
theorem Rh.same {E:List PanicEntry→World→Prop}{w:aA}(h:Rh w):TC Tw.prog E 13 [gW w,gW w] 0 [] (gB true) []:=sI w (by have:=h.ok.rl;have:=h.ok.l_;omega) (by have:=h.ok.nl;omega)
theorem Rh.kn {w:aA}(h:Rh w){g m:Nat}(hg:g<5)(hb:cc (gAt w.ae g) m=true):m<w.aj.length∧(g:Int)∈setAt w m:=by
 obtain⟨e,he⟩:=Option.isSome_iff_exists.1 hb;obtain⟨a,b,c, -⟩:=h.ok.gs.lJ g m e hg he;exact⟨by omega,c⟩
abbrev ny (w:aA):RT:= .sl 1 (w.ae.map fun g=>[aY (cr g)])
theorem lB (w:aA)(h:b_ w)(hs:cw 2000 w):TC Tw.prog bq 17 [gW w] 0 [] (gR (ny w)) []:=by
 have hV:=qc w h hs;have zC:=hs.g5;have hlen:w.ae.length≤maxLen:=by simp only[maxLen];omega
 refine tE Tryz.f17 Tryz.ntmps17 (by rw[Tryz.results17]) ?_
 (refine TW.go ?_;simp[wT];repeat' first|intro hc|refine aa.mk ?_|refine aI ?_|refine af ?_ ?_|(refine cP ?_;refine⟨_,hV,?_⟩;simp[wT]))
 refine tL (fun(k:Nat)=>⟨[(3,.s (.own 1)),(11,gR (dq w.ae)),(12,gI .i64 w.ae.length),(13,gI .i64 (k:Nat))],[(0,.box ((wT w).map .r)),(1,.rows 45 1 ((w.ae.take k).map fun g=>[aY (cr g)]))],2⟩) (fun k=>k≤w.ae.length) (fun k=>w.ae.length-k) 0 (by omega) (Wk.own [0,1] [] (by simp) (by simp) (by simp[wT]) (by simp) (by simp)) fun k hk=>?_
 by_cases ak:k<w.ae.length
 ·have he:=cu (gs:=w.ae) (i:=k) ak
  have an:(k:Int)<(w.ae.length:Int):=by omega
  have aE:=wrap_add ak hlen;have hV2:=(h.gs.dS k (by omega)).1
  have xj:=hs.dS _ (List.mem_of_getElem? he);have hT:=Ff (E:=bq) (gAt w.ae k) (by have:=xj.1;exact⟨by omega,by omega⟩) hV2
  have EY:(w.ae.take k).length≤5:=by simp;omega
  generalize gAt w.ae k=G at*;(refine TW.go ?_;simp[an,he,aE,au,maxLen];repeat' first|intro hc|refine aa.mk ?_|refine aI ?_|refine af ?_ ?_|(refine cF [] 1 ?_;refine⟨_,_,hT,?_⟩;simp[an,he,aE,au,maxLen]))
  exact⟨k+1,by omega,by omega,Wk.own [0,5] [] (by simp) (by simp) (by simp[wT,fl he]) (by simp) (by simp)⟩
 ·obtain rfl:k=w.ae.length:=by omega
  rw[List.take_length];(refine TW.go ?_;simp;repeat' first|intro hc|refine aa.mk ?_|refine aI ?_|refine af ?_ ?_)
  exact oW [] [1]
theorem nZ {w:aA}{k:Nat}(h:k<w.ae.length):(w.ae.map fun g=>[aY (cr g)])[k]?=some [aY (cr (gAt w.ae k))]:=by
 rw[List.getElem?_map,cu h];rfl
theorem V4 (a b x:Int)(l:List Int):oZ a b (x::l)=if x=a then cb l b else oZ a b l:=rfl
theorem V5 (L:List Int)(a b:Int):TC Tw.prog E 18 [gR (aY L),gI .i64 a,gI .i64 b] 0 [] (gB (oZ a b L)) []:=by
 refine tE Tryz.f18 Tryz.ntmps18 (by rw[Tryz.results18]) ?_
 refine TW.len 0 rfl fun hlen=>?_;simp only[List.length_map]at hlen;have e0:oZ a b (L.drop 0)=oZ a b L:=rfl
 (refine TW.go ?_;simp;repeat' first|intro hc|refine aa.mk ?_|refine aI ?_|refine af ?_ ?_)
 refine tL (fun(k:Nat)=>⟨[(0,gR (aY L)),(1,gI .i64 a),(2,gI .i64 b),(7,gI .i64 (k:Nat))],[],0⟩) (fun k=>k≤L.length∧oZ a b (L.drop k)=oZ a b L) (fun k=>L.length-k) 0 ⟨by omega,e0⟩ (kO [] []) fun k hk=>?_
 obtain⟨hk,hd⟩:=hk;by_cases ak:k<L.length
 ·have he:L[k]?=some L[k]:=List.getElem?_eq_getElem ak
  have an:(k:Int)<(L.length:Int):=by omega
  have aE:=wrap_add ak hlen;have pa:(((k:Nat):Int)+1).toNat=k+1:=by omega
  have hle:(k:Int)+1≤(L.length:Int):=by omega
  rw[List.drop_eq_getElem_cons ak]at hd;have hH:TC Tw.prog E 15 [.s (.r (.sl 1 (List.drop (k+1) (List.map (fun n=>[rI n]) L)))),gI .i64 b] 0 [] (gB (cb (L.drop (k+1)) b)) []:=by
   rw[←List.map_drop];exact mo _ _
  generalize L[k]=x at*;rw[V4]at hd;by_cases hx:x=a
  ·rw[if_pos hx]at hd
   rw[←hd];(refine TW.go ?_;simp[an,he,aE,hx,pa,hle];repeat' first|intro hc|refine aa.mk ?_|refine aI ?_|refine af ?_ ?_|(refine cP ?_;refine⟨_,hH,?_⟩;simp[an,he,aE,hx,pa,hle]))
   exact oW [] []
  ·rw[if_neg hx]at hd
   (refine TW.go ?_;simp[an,he,aE,hx];repeat' first|intro hc|refine aa.mk ?_|refine aI ?_|refine af ?_ ?_)
   exact⟨k+1,⟨by omega,hd⟩,by omega,kO [] []⟩
 ·obtain rfl:k=L.length:=by omega
  rw[List.drop_length]at hd;rw[←hd];(refine TW.go ?_;simp;repeat' first|intro hc|refine aa.mk ?_|refine aI ?_|refine af ?_ ?_)
  refine aT.own [] [] (by simp;rfl) (by simp[oZ]) (by simp) (by simp) (by simp[oZ]) (by simp)
end Go.Proofs.YtabjbdnokpjipaaGreat.T
