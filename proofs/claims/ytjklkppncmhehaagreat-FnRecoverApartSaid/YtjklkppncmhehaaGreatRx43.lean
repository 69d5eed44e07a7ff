/-
What is proved: what the draws of a group and of a system do to trees. No condition but the ranges that each states.
-/
import Derived.Test.YtjklkppncmhehaaGreatRx42
set_option linter.unusedVariables false
set_option linter.unusedSimpArgs false
namespace Go.Proofs.YtjklkppncmhehaaGreat.T
open Go Go.RowKit
set_option maxRecDepth 100000
set_option maxHeartbeats 4000000
variable {E:List PanicEntry→World→Prop}
theorem ql (g:aq)(m:Int)(h:eE g 4294967290)(h0:0≤g.clock):TC Tw.prog E 122 [.a [.r (rI g.id),.r (rI g.clock),.own 0,.own 1],gI .i64 m] 2 (xK g) (.p [xI (au g m).1 2 3,ma (au g m).2.1,gB (au g m).2.2]) [(0,bW g.ao),(1,bW g.done),(2,bW (au g m).1.ao),(3,bW (au g m).1.done)]:=by
 have:=TC.NA (args:=[.a [.r (rI g.id),.r (rI g.clock),.own 0,.own 1],gI .i64 m]) (m:=2) (sto:=xK g) (kK (E:=E) g m h h0) (Fits.of (by simp[gA,aj.live,List.range_succ]) (by simp) (by simp)) (by simp[af,List.range_succ]) (by simp[GV.ee,wD,TV.ee]) (by simp[aj.ee,ak,RT.flat])
 simpa using this
theorem th (g:aq)(m t s:Int)(h:fg g 4294967290):TC Tw.prog E 123 [.a [.r (rI g.id),.r (rI g.clock),.own 0,.own 1],gI .i64 m,ma (t,s)] 2 (xK g) (.p [xI (aO g m t s).1 2 3,.s (.own 4),gB (aO g m t s).2.2]) [(0,bW g.ao),(1,bW g.done),(2,bW (aO g m t s).1.ao),(3,bW (aO g m t s).1.done),(4,jf (aO g m t s).2.1)]:=by
 have:=TC.NA (args:=[.a [.r (rI g.id),.r (rI g.clock),.own 0,.own 1],gI .i64 m,ma (t,s)]) (m:=2) (sto:=xK g) (rv (E:=E) g m t s h) (Fits.of (by simp[gA,aj.live,List.range_succ]) (by simp) (by simp)) (by simp[af,List.range_succ]) (by simp[GV.ee,wD,TV.ee]) (by simp[aj.ee,ak,RT.flat])
 simpa using this
def eM (o:Int→Int→Int):Nat→Nat→Int→aq→aq×Int
 |0,_,p,g=>(g,p+1)
 |n+1,i,p,g=>if(i:Int)<o p 14 then
   if o (p+2) 2=0 then eM o n (i+1) (p+3) (if(au g (o (p+1) 8)).2.2=true then(au g (o (p+1) 8)).1 else g)
   else eM o n (i+1) (p+5) (if(aO g (o (p+1) 8) (1+o (p+3) (g.clock+3)) (o (p+4) 5)).2.2=true then(aO g (o (p+1) 8) (1+o (p+3) (g.clock+3)) (o (p+4) 5)).1 else g)
  else(g,p+1)
def kB (es:List an)(k:Int):an:=es.getD k.toNat ⟨0,0,0,false⟩
def Fv (o:Int→Int→Int)(g:aq)(p:Int):aq×Int:=
 if o p 18=0 then(⟨g.id,Qz [0,998,999,1000] (o (p+1) 4),g.ao,g.done⟩,p+2)
 else if o p 18=1 then if g.ao.length=0 then(g,p+1)else
  (⟨g.id,g.clock,g.ao.set (o (p+1) g.ao.length).toNat ⟨(kB g.ao (o (p+1) g.ao.length)).m,(fU o (p+2)).1.1,(fU o (p+2)).1.2,(kB g.ao (o (p+1) g.ao.length)).f⟩,g.done⟩,(fU o (p+2)).2)
 else if o p 18=2 then if g.ao.length=0 then(g,p+1)else
  (⟨g.id,g.clock,g.ao.set (o (p+1) g.ao.length).toNat ⟨(kB g.ao (o (p+1) g.ao.length)).m,(kB g.ao (o (p+1) g.ao.length)).t,(kB g.ao (o (p+1) g.ao.length)).g,true⟩,g.done⟩,p+2)
 else if o p 18=3 then if g.done.length=0 then(g,p+1)else
  (⟨g.id,g.clock,g.ao,g.done.set (o (p+1) g.done.length).toNat ⟨o (p+2) 8,(kB g.done (o (p+1) g.done.length)).t,(kB g.done (o (p+1) g.done.length)).g,(kB g.done (o (p+1) g.done.length)).f⟩⟩,p+3)
 else if o p 18=4 then(⟨o (p+1) 7-1,g.clock,g.ao,g.done⟩,p+2)
 else(g,p+1)
def jP (o:Int→Int→Int)(p:Int):aq×Int:=Fv o (eM o 14 0 (p+1) (oL (o p 5))).1 (eM o 14 0 (p+1) (oL (o p 5))).2
theorem BZ (o:Int→Int→Int)(p:Int):p+3≤(fU o p).2∧(fU o p).2≤p+4:=by
 unfold fU;repeat' split
 all_goals(simp only;omega)
theorem uc (o:Int→Int→Int):∀(n i:Nat) (p:Int) (g:aq) (N:Nat),fg g N→p+1≤(eM o n i p g).2∧(eM o n i p g).2≤p+1+5*n∧fg (eM o n i p g).1 (N+n)
 |0,i,p,g,N,h=>⟨by simp[eM],by simp[eM],by simpa[eM]using h⟩
 |n+1,i,p,g,N,h=>by
  unfold eM;split
  ·split
   ·obtain⟨a,b,c⟩:=uc o n (i+1) (p+3) (if(au g (o (p+1) 8)).2.2=true then(au g (o (p+1) 8)).1 else g) (N+1) (by
     split
     ·exact na _ h
     ·exact h.mono (by omega))
    exact⟨by omega,by omega,by rw[show N+(n+1)=N+1+n by omega];exact c⟩
   ·obtain⟨a,b,c⟩:=uc o n (i+1) (p+5) (if(aO g (o (p+1) 8) (1+o (p+3) (g.clock+3)) (o (p+4) 5)).2.2=true then(aO g (o (p+1) 8) (1+o (p+3) (g.clock+3)) (o (p+4) 5)).1 else g) N (by
     split
     ·exact vt _ _ _ h
     ·exact h)
    exact⟨by omega,by omega,c.mono (by omega)⟩
  ·exact⟨by simp only;omega,by simp only;omega,h.mono (by omega)⟩
theorem MN (o:Int→Int→Int)(p:Int):p+3≤(jP o p).2∧(jP o p).2≤p+90∧(jP o p).1.ao.length+(jP o p).1.done.length≤14:=by
 obtain⟨a,b,c⟩:=uc o 14 0 (p+1) (oL (o p 5)) 0 ⟨by simp,by simp⟩
 unfold jP;generalize eM o 14 0 (p+1) (oL (o p 5))=G at*;have hl:=c.1;have hs:=BZ o (G.2+2);unfold Fv;repeat' split
 all_goals(simp only[List.length_set];refine⟨?_,?_,?_⟩<;>omega)
theorem AO (g:aq)(m:Int):(au g m).1.clock≤max g.clock (g.clock+1):=by
 unfold au;repeat' split
 all_goals(simp only;omega)
theorem Fw (g:aq)(m t s:Int):(aO g m t s).1.clock≤max g.clock t:=by
 unfold aO;repeat' split
 all_goals(simp only;omega)
theorem rC {es:List an}{k:Int}(h:k.toNat<es.length):es[k.toNat]?=some (kB es k):=by
 unfold kB;rw[List.getD_eq_getElem?_getD,List.getElem?_eq_getElem h];rfl
set_option maxHeartbeats 8000000 in
theorem JW {bs:List Int}(h:oJ bs)(p:Int)(h0:0≤p)(h1:p≤999990000):
  TC Tw.prog E 107 [yq] 1 [(0,oI bs p)] (.a ((af (jP (pk bs) p).1).map .r)) [(0,oI bs (jP (pk bs) p).2)]:=by
 have q1:=oK h (k:=p) (n:=5) h0 (by omega)
 have yc:=fh h (k:=p) (n:=5) h0 (by omega) (by omega)
 have hg:bF (pk bs p 5)=true:=by simp[bF];omega
 refine tE Tryz.f107 Tryz.ntmps107 (by rw[Tryz.results107]) ?_ (hfit:=(Fits.of (by simp[gA,aj.live]) (by simp) (by simp)))
 unfold jP;(refine TW.go ?_;simp;repeat' first|intro hc|refine U.mk ?_|refine aI ?_|refine aa ?_ ?_|(refine cR ?_;refine⟨_,_,br h _ _ (by omega) (by omega),?_⟩;simp)|(refine cF [] 2 ?_;refine⟨_,_,lH _ hg,?_⟩;simp))
 refine tL (fun(x:Nat×Int×aq)=>⟨[(0,yq),(2,.s (.ptr 1 0)),(3,.s (.ptr 2 0)),(5,gI .i64 (x.1:Nat))],[(0,oI bs x.2.1),(1,.box [.r (rI 0),.r (rI 0),.r .nil,.r .nil]),(2,.box [.r (rI x.2.2.id),.r (rI x.2.2.clock),.own 3,.own 4]),(3,bW x.2.2.ao),(4,bW x.2.2.done)],5⟩)
  (fun x=>x.1≤14∧p+1≤x.2.1∧x.2.1≤p+1+5*x.1∧fg x.2.2 x.1∧x.2.2.clock≤4*x.1∧eM (pk bs) (14-x.1) x.1 x.2.1 x.2.2=eM (pk bs) 14 0 (p+1) (oL (pk bs p 5))) (fun x=>14-x.1) (0,p+1,oL (pk bs p 5)) ⟨by simp,by simp,by simp,⟨by simp,by simp⟩,by simp,rfl⟩
  (kO [1,4,2,3] []) fun x hx=>?_
 obtain⟨i,q,g⟩:=x;obtain⟨hi,r1,r2,uQ,Yc,bk⟩:=hx;simp only at hi r1 r2 uQ Yc bk⊢
 have q0:0≤q:=by omega
 have q2:q≤999999000:=by omega
 have z1:=oK h (k:=q) (n:=14) q0 (by omega)
 have z2:=fh h (k:=q) (n:=14) q0 (by omega) (by omega)
 have e2:q+1+1=q+2:=by omega
 have e3:q+2+1=q+3:=by omega
 have e4:q+3+1=q+4:=by omega
 have e5:q+4+1=q+5:=by omega
 have hle:eE g 4294967290:=by have:=uQ.1;exact⟨by omega,by omega⟩
 have hgc:=uQ.2;by_cases ai:(i:Int)<pk bs q 14
 ·have aD:IntKind.i64.wrap ((i:Int)+1)=(i:Int)+1:=aG (by omega) (by omega)
  rw[show 14-i=(14-(i+1))+1 by omega,eM,if_pos ai]at bk
  by_cases fj:pk bs (q+2) 2=0
  ·rw[if_pos fj]at bk
   have hpc:=AO g (pk bs (q+1) 8)
   cases hb:(au g (pk bs (q+1) 8)).2.2
   ·rw[hb,if_neg (by simp)]at bk
    (refine TW.go ?_;simp[ai,aD,e2,e3,fj,hb];repeat' first|intro hc|refine U.mk ?_|refine aI ?_|refine aa ?_ ?_|(refine cR ?_;refine⟨_,_,br h _ _ (by omega) (by omega),?_⟩;simp[ai,aD,e2,e3,fj,hb])|(refine cL [3,4] 2 ?_;refine⟨_,_,_,_,ql g (pk bs (q+1) 8) hle hgc,?_⟩;simp[ai,aD,e2,e3,fj,hb]))
    exact⟨(i+1,q+3,g),⟨by simp only;omega,by simp only;omega,by simp only;omega,uQ.mono (by omega),by simp only;omega,bk⟩,by simp only;omega,kO [1,2,3,4] []⟩
   ·rw[hb,if_pos rfl]at bk
    have UB:=na (pk bs (q+1) 8) uQ;(refine TW.go ?_;simp[ai,aD,e2,e3,fj,hb];repeat' first|intro hc|refine U.mk ?_|refine aI ?_|refine aa ?_ ?_|(refine cR ?_;refine⟨_,_,br h _ _ (by omega) (by omega),?_⟩;simp[ai,aD,e2,e3,fj,hb])|(refine cL [3,4] 2 ?_;refine⟨_,_,_,_,ql g (pk bs (q+1) 8) hle hgc,?_⟩;simp[ai,aD,e2,e3,fj,hb]))
    exact⟨(i+1,q+3,(au g (pk bs (q+1) 8)).1),⟨by simp only;omega,by simp only;omega,by simp only;omega,UB,by simp only;omega,bk⟩,by simp only;omega,kO [1,2,5,6] []⟩
  ·rw[if_neg fj]at bk
   have z3:=oK h (k:=q+3) (n:=g.clock+3) (by omega) (by omega)
   have z3':=fh h (k:=q+3) (n:=g.clock+3) (by omega) (by omega) (by omega)
   have w3:IntKind.i64.wrap (g.clock+3)=g.clock+3:=aG (by omega) (by omega)
   have w4:IntKind.i64.wrap (1+pk bs (q+3) (g.clock+3))=1+pk bs (q+3) (g.clock+3):=aG (by omega) (by omega)
   have hfc:=Fw g (pk bs (q+1) 8) (1+pk bs (q+3) (g.clock+3)) (pk bs (q+4) 5);have hgN:=uQ.mono (n':=4294967290) (by omega)
   cases hb:(aO g (pk bs (q+1) 8) (1+pk bs (q+3) (g.clock+3)) (pk bs (q+4) 5)).2.2
   ·rw[hb,if_neg (by simp)]at bk
    (refine TW.go ?_;simp[ai,aD,e2,e3,e4,e5,fj,hb,w3,w4];repeat' first|intro hc|refine U.mk ?_|refine aI ?_|refine aa ?_ ?_|(refine cR ?_;refine⟨_,_,br h _ _ (by omega) (by omega),?_⟩;simp[ai,aD,e2,e3,e4,e5,fj,hb,w3,w4])|(refine cL [3,4] 3 ?_;refine⟨_,_,_,_,th g (pk bs (q+1) 8) (1+pk bs (q+3) (g.clock+3)) (pk bs (q+4) 5) hgN,?_⟩;simp[ai,aD,e2,e3,e4,e5,fj,hb,w3,w4]))
    exact⟨(i+1,q+5,g),⟨by simp only;omega,by simp only;omega,by simp only;omega,uQ.mono (by omega),by simp only;omega,bk⟩,by simp only;omega,kO [1,2,3,4] []⟩
   ·rw[hb,if_pos rfl]at bk
    have Ue:=vt (pk bs (q+1) 8) (1+pk bs (q+3) (g.clock+3)) (pk bs (q+4) 5) uQ;(refine TW.go ?_;simp[ai,aD,e2,e3,e4,e5,fj,hb,w3,w4];repeat' first|intro hc|refine U.mk ?_|refine aI ?_|refine aa ?_ ?_|(refine cR ?_;refine⟨_,_,br h _ _ (by omega) (by omega),?_⟩;simp[ai,aD,e2,e3,e4,e5,fj,hb,w3,w4])|(refine cL [3,4] 3 ?_;refine⟨_,_,_,_,th g (pk bs (q+1) 8) (1+pk bs (q+3) (g.clock+3)) (pk bs (q+4) 5) hgN,?_⟩;simp[ai,aD,e2,e3,e4,e5,fj,hb,w3,w4]))
    exact⟨(i+1,q+5,(aO g (pk bs (q+1) 8) (1+pk bs (q+3) (g.clock+3)) (pk bs (q+4) 5)).1),⟨by simp only;omega,by simp only;omega,by simp only;omega,Ue.mono (by omega),by simp only;omega,bk⟩,by simp only;omega,kO [1,2,5,6] []⟩
 ·have TH:eM (pk bs) (14-i) i q g=(g,q+1):=by
   rcases hn:14-i with _|n
   ·rfl
   ·rw[eM,if_neg ai]
  rw[←bk,TH];simp only
  unfold Fv;have f2:q+1+2=q+3:=by omega
  have f3:q+1+3=q+4:=by omega
  have nX:g.ao.length≤14:=by have:=uQ.1;omega
  have Fh:g.done.length≤14:=by have:=uQ.1;omega
  by_cases c0:pk bs (q+1) 18=0
  ·rw[if_pos c0]
   have y1:=oK h (k:=q+2) (n:=4) (by omega) (by omega)
   have y2:=fh h (k:=q+2) (n:=4) (by omega) (by omega) (by omega)
   have ht:=wV (xs:=[0,998,999,1000]) y1 (by simpa using y2)
   simp only[List.map_cons,List.map_nil]at ht;(refine TW.go ?_;simp[ai,e2,e3,f2,c0,ht,y1,af];repeat' first|intro hc|refine U.mk ?_|refine aI ?_|refine aa ?_ ?_|(refine cR ?_;refine⟨_,_,br h _ _ (by omega) (by omega),?_⟩;simp[ai,e2,e3,f2,c0,ht,y1,af]))
   refine aE.own [] [3,4] (by simp;rfl) (by simp[af,e2,f2]) (by simp) (by simp) (by simp[af,e2,f2]) (by simp)
  ·rw[if_neg c0]
   by_cases c1:pk bs (q+1) 18=1
   ·rw[if_pos c1]
    have hP0:¬(g.ao.length=0)∨g.ao.length=0:=by omega
    rcases hP0 with hP|hP
    ·rw[if_neg hP]
     have vz:0<g.ao.length:=by omega
     rw[e2];try rw[f2];have y1:=oK h (k:=q+2) (n:=g.ao.length) (by omega) (by omega)
     have y2:=fh h (k:=q+2) (n:=g.ao.length) (by omega) (by omega) (by omega)
     have he:=rC (es:=g.ao) (k:=pk bs (q+2) g.ao.length) (by omega)
     have hS:=JS (E:=E) h (q+3) (by omega) (by omega)
     generalize fU (pk bs) (q+3)=S at*;generalize kB g.ao (pk bs (q+2) g.ao.length)=e at*;generalize Fx:pk bs (q+2) g.ao.length=Kx at*;(refine TW.go ?_;simp[ai,e2,e3,c1,vz,Fx,y1,he,ak,af];repeat' first|intro hc|refine U.mk ?_|refine aI ?_|refine aa ?_ ?_|(refine cR ?_;refine⟨_,_,br h _ _ (by omega) (by omega),?_⟩;simp[ai,e2,e3,c1,vz,Fx,y1,he,ak,af])|(refine cR ?_;refine⟨_,_,hS,?_⟩;simp[ai,e2,e3,c1,vz,Fx,y1,he,ak,af]))
     refine aE.own [] [3,4] (by simp;rfl) (by simp[af,ak]) (by simp) (by simp) (by simp[af,ak]) (by simp)
    ·rw[if_pos hP]
     (refine TW.go ?_;simp[ai,e2,c1,hP,af];repeat' first|intro hc|refine U.mk ?_|refine aI ?_|refine aa ?_ ?_|(refine cR ?_;refine⟨_,_,br h _ _ (by omega) (by omega),?_⟩;simp[ai,e2,c1,hP,af]))
     refine aE.own [] [3,4] (by simp;rfl) (by simp[af,e2]) (by simp) (by simp) (by simp[af,e2]) (by simp)
   ·rw[if_neg c1]
    by_cases c2:pk bs (q+1) 18=2
    ·rw[if_pos c2]
     by_cases hP:g.ao.length=0
     ·rw[if_pos hP]
      (refine TW.go ?_;simp[ai,e2,c2,hP,af];repeat' first|intro hc|refine U.mk ?_|refine aI ?_|refine aa ?_ ?_|(refine cR ?_;refine⟨_,_,br h _ _ (by omega) (by omega),?_⟩;simp[ai,e2,c2,hP,af]))
      refine aE.own [] [3,4] (by simp;rfl) (by simp[af,e2]) (by simp) (by simp) (by simp[af,e2]) (by simp)
     ·rw[if_neg hP]
      have vz:0<g.ao.length:=by omega
      rw[e2];try rw[f2];have y1:=oK h (k:=q+2) (n:=g.ao.length) (by omega) (by omega)
      have y2:=fh h (k:=q+2) (n:=g.ao.length) (by omega) (by omega) (by omega)
      have he:=rC (es:=g.ao) (k:=pk bs (q+2) g.ao.length) (by omega)
      generalize kB g.ao (pk bs (q+2) g.ao.length)=e at*;generalize Fx:pk bs (q+2) g.ao.length=Kx at*;(refine TW.go ?_;simp[ai,e2,e3,c2,vz,Fx,y1,he,ak,af];repeat' first|intro hc|refine U.mk ?_|refine aI ?_|refine aa ?_ ?_|(refine cR ?_;refine⟨_,_,br h _ _ (by omega) (by omega),?_⟩;simp[ai,e2,e3,c2,vz,Fx,y1,he,ak,af]))
      refine aE.own [] [3,4] (by simp;rfl) (by simp[af,ak]) (by simp) (by simp) (by simp[af,ak]) (by simp)
    ·rw[if_neg c2]
     by_cases c3:pk bs (q+1) 18=3
     ·rw[if_pos c3]
      by_cases hP:g.done.length=0
      ·rw[if_pos hP]
       (refine TW.go ?_;simp[ai,e2,c3,hP,af];repeat' first|intro hc|refine U.mk ?_|refine aI ?_|refine aa ?_ ?_|(refine cR ?_;refine⟨_,_,br h _ _ (by omega) (by omega),?_⟩;simp[ai,e2,c3,hP,af]))
       refine aE.own [] [3,4] (by simp;rfl) (by simp[af,e2]) (by simp) (by simp) (by simp[af,e2]) (by simp)
      ·rw[if_neg hP]
       have vz:0<g.done.length:=by omega
       rw[e2,f2,f3];have y1:=oK h (k:=q+2) (n:=g.done.length) (by omega) (by omega)
       have y2:=fh h (k:=q+2) (n:=g.done.length) (by omega) (by omega) (by omega)
       have he:=rC (es:=g.done) (k:=pk bs (q+2) g.done.length) (by omega)
       generalize kB g.done (pk bs (q+2) g.done.length)=e at*;generalize Fx:pk bs (q+2) g.done.length=Kx at*;(refine TW.go ?_;simp[ai,e2,e3,e4,c3,vz,Fx,y1,he,ak,af];repeat' first|intro hc|refine U.mk ?_|refine aI ?_|refine aa ?_ ?_|(refine cR ?_;refine⟨_,_,br h _ _ (by omega) (by omega),?_⟩;simp[ai,e2,e3,e4,c3,vz,Fx,y1,he,ak,af]))
       refine aE.own [] [3,4] (by simp;rfl) (by simp[af,ak]) (by simp) (by simp) (by simp[af,ak]) (by simp)
     ·rw[if_neg c3]
      by_cases c4:pk bs (q+1) 18=4
      ·rw[if_pos c4]
       have y1:=oK h (k:=q+2) (n:=7) (by omega) (by omega)
       have y2:=fh h (k:=q+2) (n:=7) (by omega) (by omega) (by omega)
       have w5:IntKind.i64.wrap (pk bs (q+2) 7-1)=pk bs (q+2) 7-1:=aG (by omega) (by omega)
       (refine TW.go ?_;simp[ai,e2,e3,f2,c0,c1,c2,c3,c4,w5,af];repeat' first|intro hc|refine U.mk ?_|refine aI ?_|refine aa ?_ ?_|(refine cR ?_;refine⟨_,_,br h _ _ (by omega) (by omega),?_⟩;simp[ai,e2,e3,f2,c0,c1,c2,c3,c4,w5,af]))
       refine aE.own [] [3,4] (by simp;rfl) (by simp[af,e2,f2]) (by simp) (by simp) (by simp[af,e2,f2]) (by simp)
      ·rw[if_neg c4]
       (refine TW.go ?_;simp[ai,e2,e3,c0,c1,c2,c3,c4,af];repeat' first|intro hc|refine U.mk ?_|refine aI ?_|refine aa ?_ ?_|(refine cR ?_;refine⟨_,_,br h _ _ (by omega) (by omega),?_⟩;simp[ai,e2,e3,c0,c1,c2,c3,c4,af]))
       refine aE.own [] [3,4] (by simp;rfl) (by simp[af,e2]) (by simp) (by simp) (by simp[af,e2]) (by simp)
end Go.Proofs.YtjklkppncmhehaaGreat.T
