/-
What is proved: what the draw of a world does to trees. No condition but the ranges that each states. what the draws of a group and of a system do to trees. No condition but the ranges that each states. what the draw of a system does to trees. No condition but the ranges that each states. what the draws of a set, a message and a recovery, and the reference's recovery of a stamp, do to trees. No condition but the ranges that each states. what the draw of a recovery and the reference's recovery of a stamp do to trees. No condition but the ranges that each states. what the program's small functions of stamps and entries do to trees. No condition but the lengths that each states.
-/
import Derived.Test.YtjklkppncmhehaaGreatRs36
import Derived.Test.YtjklkppncmhehaaGreatRs34
set_option linter.unusedVariables false
set_option linter.unusedSimpArgs false
namespace Go.Proofs.YtjklkppncmhehaaGreat.T
open Go Go.RowKit
set_option maxRecDepth 100000
set_option maxHeartbeats 4000000
variable {E:List PanicEntry→World→Prop}
def fe (o:Int→Int→Int):Nat→Nat→Int→aB→aB×Int
 |0,_,p,w=>(w,p+1)
 |n+1,i,p,w=>if(i:Int)<o p 70 then fe o n (i+1) (cN o (p+1) w).2.2 (I' w (cN o (p+1) w).1 (cN o (p+1) w).2.1)else(w,p+1)
def cO (o:Int→Int→Int)(p:Int):aB×Int:=fe o 70 0 (p+1) (k_ mK (1+o p 31))
theorem xH (o:Int→Int→Int):∀(n i:Nat) (p:Int) (w:aB) (N:Nat),cM N w→p+1≤(fe o n i p w).2∧(fe o n i p w).2≤p+1+7*n∧cM (N+5*n) (fe o n i p w).1
 |0,i,p,w,N,h=>⟨by simp[fe],by simp[fe],by simpa[fe]using h⟩
 |n+1,i,p,w,N,h=>by
  unfold fe;split
  ·have U:=qi o (p+1) w
   obtain⟨a,b,c⟩:=xH o n (i+1) (cN o (p+1) w).2.2 (I' w (cN o (p+1) w).1 (cN o (p+1) w).2.1) (N+5) (h.event _ _);exact⟨by omega,by omega,by rw[show N+5*(n+1)=N+5+5*n by omega];exact c⟩
  ·exact⟨by simp only;omega,by simp only;omega,h.mono (by omega)⟩
theorem qW (o:Int→Int→Int)(p:Int):p+2≤(cO o p).2∧(cO o p).2≤p+500∧cM 350 (cO o p).1:=by
 obtain⟨a,b,c⟩:=xH o 70 0 (p+1) (k_ mK (1+o p 31)) 0 (tH.send _);unfold cO;exact⟨by omega,by omega,c⟩
theorem GC {bs:List Int}(h:mH bs)(p:Int)(h0:0≤p)(U:p≤999990000):
  TC Tw.prog E 106 [uS] 1 [(0,mG bs p)] (gW (cO (pk bs) p).1) [(0,mG bs (cO (pk bs) p).2)]:=by
 have q1:=mI h (k:=p) (n:=31) h0 (by omega)
 have uJ:=dO h (k:=p) (n:=31) h0 (by omega) (by omega)
 have w1:IntKind.i64.wrap (1+pk bs p 31)=1+pk bs p 31:=aL (by omega) (by omega)
 have hS:=xF (E:=E) mK (1+pk bs p 31) (tH.mono (by omega))
 have TO:cM 0 (k_ mK (1+pk bs p 31)):=tH.send _
 refine tE Tw.func106 Tw.ntmps106 (by rw[Tryz.results106]) ?_ (hfit:=(Fits.of (by simp[iT,ak.live]) (by simp) (by simp)))
 unfold cO;generalize k_ mK (1+pk bs p 31)=v at*;(refine TW.go ?_;simp[w1,wT];repeat' first|intro hc|refine aa.mk ?_|refine aI ?_|refine ah ?_ ?_|(refine cP ?_;(first|refine⟨_,uT,?_⟩|refine⟨_,hS,?_⟩);simp[w1,wT])|(refine cR ?_;refine⟨_,_,bd h _ _ (by omega) (by omega),?_⟩;simp[w1,wT]))
 refine tL (fun(x:Nat×Int×aB)=>⟨[(0,uS),(2,.s (.ptr 1 0)),(3,.s (.ptr 2 0)),(4,gI .i64 (x.1:Nat))],[(0,mG bs x.2.1),(1,.box [.r .nil,.r .nil,.r .nil,.r .nil,.r .nil]),(2,.box ((wT x.2.2).map .r))],3⟩)
  (fun x=>x.1≤70∧p+1≤x.2.1∧x.2.1≤p+1+7*x.1∧cM (5*x.1) x.2.2∧fe (pk bs) (70-x.1) x.1 x.2.1 x.2.2=fe (pk bs) 70 0 (p+1) v) (fun x=>70-x.1) (0,p+1,v) ⟨by simp,by simp,by simp,TO,rfl⟩
  (Wk.own [1,2] [] (by simp) (by simp[wT]) (by simp[wT]) (by simp) (by simp)) fun x hx=>?_
 obtain⟨i,q,w⟩:=x;obtain⟨hi,r1,r2,hw,bj⟩:=hx;simp only at hi r1 r2 hw bj⊢
 have q0:0≤q:=by omega
 have q2:q≤999999000:=by omega
 have z1:=mI h (k:=q) (n:=70) q0 (by omega)
 have z2:=dO h (k:=q) (n:=70) q0 (by omega) (by omega)
 by_cases aj:(i:Int)<pk bs q 70
 ·have tn:=qi (pk bs) (q+1) w
  have aF:IntKind.i64.wrap ((i:Int)+1)=(i:Int)+1:=aL (by omega) (by omega)
  rw[show 70-i=(70-(i+1))+1 by omega,fe,if_pos aj]at bj
  have hD:=PV (E:=E) w (cN (pk bs) (q+1) w).1 (cN (pk bs) (q+1) w).2.1 (hw.mono (by omega))
  have hE:=GB (E:=E) h (q+1) w (by omega) (by omega) hw.nl hw.Mz
  have hwD:=hw.event (cN (pk bs) (q+1) w).1 (cN (pk bs) (q+1) w).2.1;generalize I' w (cN (pk bs) (q+1) w).1 (cN (pk bs) (q+1) w).2.1=u at*;(refine TW.go ?_;simp[wT,aj,aF];repeat' first|intro hc|refine aa.mk ?_|refine aI ?_|refine ah ?_ ?_|(refine cP ?_;refine⟨_,hD,?_⟩;simp[wT,aj,aF])|(refine cR ?_;refine⟨_,_,bd h _ _ (by omega) (by omega),?_⟩;simp[wT,aj,aF])|(refine cR ?_;refine⟨_,_,hE,?_⟩;simp[wT,aj,aF]))
  exact⟨(i+1,(cN (pk bs) (q+1) w).2.2,u),⟨by simp only;omega,by simp only;omega,by simp only;omega,by rw[show 5*(i+1)=5*i+5 by omega];exact hwD,bj⟩,by simp only;omega,Wk.own [1,2] [] (by simp) (by simp[wT]) (by simp[wT]) (by simp) (by simp)⟩
 ·have PX:fe (pk bs) (70-i) i q w=(w,q+1):=by
   rcases hn:70-i with _|n
   ·rfl
   ·rw[fe,if_neg aj]
  rw[←bj,PX];(refine TW.go ?_;simp[wT,aj];repeat' first|intro hc|refine aa.mk ?_|refine aI ?_|refine ah ?_ ?_|(refine cR ?_;refine⟨_,_,bd h _ _ (by omega) (by omega),?_⟩;simp[wT,aj]))
  refine ar.own [] [] (by simp;rfl) (by simp[wT]) (by simp) (by simp) (by simp[wT]) (by simp)
end Go.Proofs.YtjklkppncmhehaaGreat.T
namespace Go.Proofs.YtjklkppncmhehaaGreat.T
open Go Go.RowKit
set_option maxRecDepth 100000
set_option maxHeartbeats 4000000
variable {E:List PanicEntry→World→Prop}
theorem nS (g:az)(m:Int)(h:fE g 4294967290)(h0:0≤g.clock):TC Tw.prog E 122 [.a [.r (rI g.id),.r (rI g.clock),.own 0,.own 1],gI .i64 m] 2 (Gu g) (.p [Gq (aM g m).1 2 3,km (aM g m).2.1,gB (aM g m).2.2]) [(0,dx g.aN),(1,dx g.done),(2,dx (aM g m).1.aN),(3,dx (aM g m).1.done)]:=by
 have:=TC.JZ (args:=[.a [.r (rI g.id),.r (rI g.clock),.own 0,.own 1],gI .i64 m]) (m:=2) (sto:=Gu g) (jh (E:=E) g m h h0) (Fits.of (by simp[iT,ak.live,List.range_succ]) (by simp) (by simp)) (by simp[ai,List.range_succ]) (by simp[GV.du,tw,TV.du]) (by simp[ak.du,au,RT.flat])
 simpa using this
theorem qj (g:az)(m t s:Int)(h:fc g 4294967290):TC Tw.prog E 123 [.a [.r (rI g.id),.r (rI g.clock),.own 0,.own 1],gI .i64 m,km (t,s)] 2 (Gu g) (.p [Gq (bR g m t s).1 2 3,.s (.own 4),gB (bR g m t s).2.2]) [(0,dx g.aN),(1,dx g.done),(2,dx (bR g m t s).1.aN),(3,dx (bR g m t s).1.done),(4,lf (bR g m t s).2.1)]:=by
 have:=TC.JZ (args:=[.a [.r (rI g.id),.r (rI g.clock),.own 0,.own 1],gI .i64 m,km (t,s)]) (m:=2) (sto:=Gu g) (oX (E:=E) g m t s h) (Fits.of (by simp[iT,ak.live,List.range_succ]) (by simp) (by simp)) (by simp[ai,List.range_succ]) (by simp[GV.du,tw,TV.du]) (by simp[ak.du,au,RT.flat])
 simpa using this
def dA (o:Int→Int→Int):Nat→Nat→Int→az→az×Int
 |0,_,p,g=>(g,p+1)
 |n+1,i,p,g=>if(i:Int)<o p 14 then
   if o (p+2) 2=0 then dA o n (i+1) (p+3) (if(aM g (o (p+1) 8)).2.2=true then(aM g (o (p+1) 8)).1 else g)
   else dA o n (i+1) (p+5) (if(bR g (o (p+1) 8) (1+o (p+3) (g.clock+3)) (o (p+4) 5)).2.2=true then(bR g (o (p+1) 8) (1+o (p+3) (g.clock+3)) (o (p+4) 5)).1 else g)
  else(g,p+1)
def i6 (es:List aK)(k:Int):aK:=es.getD k.toNat ⟨0,0,0,false⟩
def Ca (o:Int→Int→Int)(g:az)(p:Int):az×Int:=
 if o p 18=0 then(⟨g.id,ML [0,998,999,1000] (o (p+1) 4),g.aN,g.done⟩,p+2)
 else if o p 18=1 then if g.aN.length=0 then(g,p+1)else
  (⟨g.id,g.clock,g.aN.set (o (p+1) g.aN.length).toNat ⟨(i6 g.aN (o (p+1) g.aN.length)).m,(eB o (p+2)).1.1,(eB o (p+2)).1.2,(i6 g.aN (o (p+1) g.aN.length)).f⟩,g.done⟩,(eB o (p+2)).2)
 else if o p 18=2 then if g.aN.length=0 then(g,p+1)else
  (⟨g.id,g.clock,g.aN.set (o (p+1) g.aN.length).toNat ⟨(i6 g.aN (o (p+1) g.aN.length)).m,(i6 g.aN (o (p+1) g.aN.length)).t,(i6 g.aN (o (p+1) g.aN.length)).g,true⟩,g.done⟩,p+2)
 else if o p 18=3 then if g.done.length=0 then(g,p+1)else
  (⟨g.id,g.clock,g.aN,g.done.set (o (p+1) g.done.length).toNat ⟨o (p+2) 8,(i6 g.done (o (p+1) g.done.length)).t,(i6 g.done (o (p+1) g.done.length)).g,(i6 g.done (o (p+1) g.done.length)).f⟩⟩,p+3)
 else if o p 18=4 then(⟨o (p+1) 7-1,g.clock,g.aN,g.done⟩,p+2)
 else(g,p+1)
def iu (o:Int→Int→Int)(p:Int):az×Int:=Ca o (dA o 14 0 (p+1) (mJ (o p 5))).1 (dA o 14 0 (p+1) (mJ (o p 5))).2
theorem yJ (o:Int→Int→Int)(p:Int):p+3≤(eB o p).2∧(eB o p).2≤p+4:=by
 unfold eB;repeat' split
 all_goals(simp only;omega)
theorem qX (o:Int→Int→Int):∀(n i:Nat) (p:Int) (g:az) (N:Nat),fc g N→p+1≤(dA o n i p g).2∧(dA o n i p g).2≤p+1+5*n∧fc (dA o n i p g).1 (N+n)
 |0,i,p,g,N,h=>⟨by simp[dA],by simp[dA],by simpa[dA]using h⟩
 |n+1,i,p,g,N,h=>by
  unfold dA;split
  ·split
   ·obtain⟨a,b,c⟩:=qX o n (i+1) (p+3) (if(aM g (o (p+1) 8)).2.2=true then(aM g (o (p+1) 8)).1 else g) (N+1) (by
     split
     ·exact ld _ h
     ·exact h.mono (by omega))
    exact⟨by omega,by omega,by rw[show N+(n+1)=N+1+n by omega];exact c⟩
   ·obtain⟨a,b,c⟩:=qX o n (i+1) (p+5) (if(bR g (o (p+1) 8) (1+o (p+3) (g.clock+3)) (o (p+4) 5)).2.2=true then(bR g (o (p+1) 8) (1+o (p+3) (g.clock+3)) (o (p+4) 5)).1 else g) N (by
     split
     ·exact sF _ _ _ h
     ·exact h)
    exact⟨by omega,by omega,c.mono (by omega)⟩
  ·exact⟨by simp only;omega,by simp only;omega,h.mono (by omega)⟩
theorem Jg (o:Int→Int→Int)(p:Int):p+3≤(iu o p).2∧(iu o p).2≤p+90∧(iu o p).1.aN.length+(iu o p).1.done.length≤14:=by
 obtain⟨a,b,c⟩:=qX o 14 0 (p+1) (mJ (o p 5)) 0 ⟨by simp,by simp⟩
 unfold iu;generalize dA o 14 0 (p+1) (mJ (o p 5))=G at*;have hl:=c.1;have hs:=yJ o (G.2+2);unfold Ca;repeat' split
 all_goals(simp only[List.length_set];refine⟨?_,?_,?_⟩<;>omega)
theorem xI (g:az)(m:Int):(aM g m).1.clock≤max g.clock (g.clock+1):=by
 unfold aM;repeat' split
 all_goals(simp only;omega)
theorem Cb (g:az)(m t s:Int):(bR g m t s).1.clock≤max g.clock t:=by
 unfold bR;repeat' split
 all_goals(simp only;omega)
theorem oZ {es:List aK}{k:Int}(h:k.toNat<es.length):es[k.toNat]?=some (i6 es k):=by
 unfold i6;rw[List.getD_eq_getElem?_getD,List.getElem?_eq_getElem h];rfl
set_option maxHeartbeats 8000000 in
theorem GD {bs:List Int}(h:mH bs)(p:Int)(h0:0≤p)(U:p≤999990000):
  TC Tw.prog E 107 [uS] 1 [(0,mG bs p)] (.a ((ai (iu (pk bs) p).1).map .r)) [(0,mG bs (iu (pk bs) p).2)]:=by
 have q1:=mI h (k:=p) (n:=5) h0 (by omega)
 have uJ:=dO h (k:=p) (n:=5) h0 (by omega) (by omega)
 have hg:bw (pk bs p 5)=true:=by simp[bw];omega
 refine tE Tw.func107 Tw.ntmps107 (by rw[Tryz.results107]) ?_ (hfit:=(Fits.of (by simp[iT,ak.live]) (by simp) (by simp)))
 unfold iu;(refine TW.go ?_;simp;repeat' first|intro hc|refine aa.mk ?_|refine aI ?_|refine ah ?_ ?_|(refine cR ?_;refine⟨_,_,bd h _ _ (by omega) (by omega),?_⟩;simp)|(refine cF [] 2 ?_;refine⟨_,_,jN _ hg,?_⟩;simp))
 refine tL (fun(x:Nat×Int×az)=>⟨[(0,uS),(2,.s (.ptr 1 0)),(3,.s (.ptr 2 0)),(5,gI .i64 (x.1:Nat))],[(0,mG bs x.2.1),(1,.box [.r (rI 0),.r (rI 0),.r .nil,.r .nil]),(2,.box [.r (rI x.2.2.id),.r (rI x.2.2.clock),.own 3,.own 4]),(3,dx x.2.2.aN),(4,dx x.2.2.done)],5⟩)
  (fun x=>x.1≤14∧p+1≤x.2.1∧x.2.1≤p+1+5*x.1∧fc x.2.2 x.1∧x.2.2.clock≤4*x.1∧dA (pk bs) (14-x.1) x.1 x.2.1 x.2.2=dA (pk bs) 14 0 (p+1) (mJ (pk bs p 5))) (fun x=>14-x.1) (0,p+1,mJ (pk bs p 5)) ⟨by simp,by simp,by simp,⟨by simp,by simp⟩,by simp,rfl⟩
  (kO [1,4,2,3] []) fun x hx=>?_
 obtain⟨i,q,g⟩:=x;obtain⟨hi,r1,r2,rR,hck,bj⟩:=hx;simp only at hi r1 r2 rR hck bj⊢
 have q0:0≤q:=by omega
 have q2:q≤999999000:=by omega
 have z1:=mI h (k:=q) (n:=14) q0 (by omega)
 have z2:=dO h (k:=q) (n:=14) q0 (by omega) (by omega)
 have e2:q+1+1=q+2:=by omega
 have e3:q+2+1=q+3:=by omega
 have e4:q+3+1=q+4:=by omega
 have e5:q+4+1=q+5:=by omega
 have hle:fE g 4294967290:=by have:=rR.1;exact⟨by omega,by omega⟩
 have Xq:=rR.2;by_cases aj:(i:Int)<pk bs q 14
 ·have aF:IntKind.i64.wrap ((i:Int)+1)=(i:Int)+1:=aL (by omega) (by omega)
  rw[show 14-i=(14-(i+1))+1 by omega,dA,if_pos aj]at bj
  by_cases eC:pk bs (q+2) 2=0
  ·rw[if_pos eC]at bj
   have hpc:=xI g (pk bs (q+1) 8)
   cases hb:(aM g (pk bs (q+1) 8)).2.2
   ·rw[hb,if_neg (by simp)]at bj
    (refine TW.go ?_;simp[aj,aF,e2,e3,eC,hb];repeat' first|intro hc|refine aa.mk ?_|refine aI ?_|refine ah ?_ ?_|(refine cR ?_;refine⟨_,_,bd h _ _ (by omega) (by omega),?_⟩;simp[aj,aF,e2,e3,eC,hb])|(refine cL [3,4] 2 ?_;refine⟨_,_,_,_,nS g (pk bs (q+1) 8) hle Xq,?_⟩;simp[aj,aF,e2,e3,eC,hb]))
    exact⟨(i+1,q+3,g),⟨by simp only;omega,by simp only;omega,by simp only;omega,rR.mono (by omega),by simp only;omega,bj⟩,by simp only;omega,kO [1,2,3,4] []⟩
   ·rw[hb,if_pos rfl]at bj
    have QJ:=ld (pk bs (q+1) 8) rR;(refine TW.go ?_;simp[aj,aF,e2,e3,eC,hb];repeat' first|intro hc|refine aa.mk ?_|refine aI ?_|refine ah ?_ ?_|(refine cR ?_;refine⟨_,_,bd h _ _ (by omega) (by omega),?_⟩;simp[aj,aF,e2,e3,eC,hb])|(refine cL [3,4] 2 ?_;refine⟨_,_,_,_,nS g (pk bs (q+1) 8) hle Xq,?_⟩;simp[aj,aF,e2,e3,eC,hb]))
    exact⟨(i+1,q+3,(aM g (pk bs (q+1) 8)).1),⟨by simp only;omega,by simp only;omega,by simp only;omega,QJ,by simp only;omega,bj⟩,by simp only;omega,kO [1,2,5,6] []⟩
  ·rw[if_neg eC]at bj
   have z3:=mI h (k:=q+3) (n:=g.clock+3) (by omega) (by omega)
   have z3':=dO h (k:=q+3) (n:=g.clock+3) (by omega) (by omega) (by omega)
   have w3:IntKind.i64.wrap (g.clock+3)=g.clock+3:=aL (by omega) (by omega)
   have w4:IntKind.i64.wrap (1+pk bs (q+3) (g.clock+3))=1+pk bs (q+3) (g.clock+3):=aL (by omega) (by omega)
   have hfc:=Cb g (pk bs (q+1) 8) (1+pk bs (q+3) (g.clock+3)) (pk bs (q+4) 5);have Xr:=rR.mono (n':=4294967290) (by omega)
   cases hb:(bR g (pk bs (q+1) 8) (1+pk bs (q+3) (g.clock+3)) (pk bs (q+4) 5)).2.2
   ·rw[hb,if_neg (by simp)]at bj
    (refine TW.go ?_;simp[aj,aF,e2,e3,e4,e5,eC,hb,w3,w4];repeat' first|intro hc|refine aa.mk ?_|refine aI ?_|refine ah ?_ ?_|(refine cR ?_;refine⟨_,_,bd h _ _ (by omega) (by omega),?_⟩;simp[aj,aF,e2,e3,e4,e5,eC,hb,w3,w4])|(refine cL [3,4] 3 ?_;refine⟨_,_,_,_,qj g (pk bs (q+1) 8) (1+pk bs (q+3) (g.clock+3)) (pk bs (q+4) 5) Xr,?_⟩;simp[aj,aF,e2,e3,e4,e5,eC,hb,w3,w4]))
    exact⟨(i+1,q+5,g),⟨by simp only;omega,by simp only;omega,by simp only;omega,rR.mono (by omega),by simp only;omega,bj⟩,by simp only;omega,kO [1,2,3,4] []⟩
   ·rw[hb,if_pos rfl]at bj
    have Qj:=sF (pk bs (q+1) 8) (1+pk bs (q+3) (g.clock+3)) (pk bs (q+4) 5) rR;(refine TW.go ?_;simp[aj,aF,e2,e3,e4,e5,eC,hb,w3,w4];repeat' first|intro hc|refine aa.mk ?_|refine aI ?_|refine ah ?_ ?_|(refine cR ?_;refine⟨_,_,bd h _ _ (by omega) (by omega),?_⟩;simp[aj,aF,e2,e3,e4,e5,eC,hb,w3,w4])|(refine cL [3,4] 3 ?_;refine⟨_,_,_,_,qj g (pk bs (q+1) 8) (1+pk bs (q+3) (g.clock+3)) (pk bs (q+4) 5) Xr,?_⟩;simp[aj,aF,e2,e3,e4,e5,eC,hb,w3,w4]))
    exact⟨(i+1,q+5,(bR g (pk bs (q+1) 8) (1+pk bs (q+3) (g.clock+3)) (pk bs (q+4) 5)).1),⟨by simp only;omega,by simp only;omega,by simp only;omega,Qj.mono (by omega),by simp only;omega,bj⟩,by simp only;omega,kO [1,2,5,6] []⟩
 ·have PX:dA (pk bs) (14-i) i q g=(g,q+1):=by
   rcases hn:14-i with _|n
   ·rfl
   ·rw[dA,if_neg aj]
  rw[←bj,PX];simp only
  unfold Ca;have f2:q+1+2=q+3:=by omega
  have f3:q+1+3=q+4:=by omega
  have tn:g.aN.length≤14:=by have:=rR.1;omega
  have UH:g.done.length≤14:=by have:=rR.1;omega
  by_cases c0:pk bs (q+1) 18=0
  ·rw[if_pos c0]
   have y1:=mI h (k:=q+2) (n:=4) (by omega) (by omega)
   have y2:=dO h (k:=q+2) (n:=4) (by omega) (by omega) (by omega)
   have ht:=tI (xs:=[0,998,999,1000]) y1 (by simpa using y2)
   simp only[List.map_cons,List.map_nil]at ht;(refine TW.go ?_;simp[aj,e2,e3,f2,c0,ht,y1,ai];repeat' first|intro hc|refine aa.mk ?_|refine aI ?_|refine ah ?_ ?_|(refine cR ?_;refine⟨_,_,bd h _ _ (by omega) (by omega),?_⟩;simp[aj,e2,e3,f2,c0,ht,y1,ai]))
   refine ar.own [] [3,4] (by simp;rfl) (by simp[ai,e2,f2]) (by simp) (by simp) (by simp[ai,e2,f2]) (by simp)
  ·rw[if_neg c0]
   by_cases c1:pk bs (q+1) 18=1
   ·rw[if_pos c1]
    have hP0:¬(g.aN.length=0)∨g.aN.length=0:=by omega
    rcases hP0 with hP|hP
    ·rw[if_neg hP]
     have sI:0<g.aN.length:=by omega
     rw[e2];try rw[f2];have y1:=mI h (k:=q+2) (n:=g.aN.length) (by omega) (by omega)
     have y2:=dO h (k:=q+2) (n:=g.aN.length) (by omega) (by omega) (by omega)
     have he:=oZ (es:=g.aN) (k:=pk bs (q+2) g.aN.length) (by omega)
     have hS:=GA (E:=E) h (q+3) (by omega) (by omega)
     generalize eB (pk bs) (q+3)=S at*;generalize i6 g.aN (pk bs (q+2) g.aN.length)=e at*;generalize Cc:pk bs (q+2) g.aN.length=Kx at*;(refine TW.go ?_;simp[aj,e2,e3,c1,sI,Cc,y1,he,au,ai];repeat' first|intro hc|refine aa.mk ?_|refine aI ?_|refine ah ?_ ?_|(refine cR ?_;refine⟨_,_,bd h _ _ (by omega) (by omega),?_⟩;simp[aj,e2,e3,c1,sI,Cc,y1,he,au,ai])|(refine cR ?_;refine⟨_,_,hS,?_⟩;simp[aj,e2,e3,c1,sI,Cc,y1,he,au,ai]))
     refine ar.own [] [3,4] (by simp;rfl) (by simp[ai,au]) (by simp) (by simp) (by simp[ai,au]) (by simp)
    ·rw[if_pos hP]
     (refine TW.go ?_;simp[aj,e2,c1,hP,ai];repeat' first|intro hc|refine aa.mk ?_|refine aI ?_|refine ah ?_ ?_|(refine cR ?_;refine⟨_,_,bd h _ _ (by omega) (by omega),?_⟩;simp[aj,e2,c1,hP,ai]))
     refine ar.own [] [3,4] (by simp;rfl) (by simp[ai,e2]) (by simp) (by simp) (by simp[ai,e2]) (by simp)
   ·rw[if_neg c1]
    by_cases c2:pk bs (q+1) 18=2
    ·rw[if_pos c2]
     by_cases hP:g.aN.length=0
     ·rw[if_pos hP]
      (refine TW.go ?_;simp[aj,e2,c2,hP,ai];repeat' first|intro hc|refine aa.mk ?_|refine aI ?_|refine ah ?_ ?_|(refine cR ?_;refine⟨_,_,bd h _ _ (by omega) (by omega),?_⟩;simp[aj,e2,c2,hP,ai]))
      refine ar.own [] [3,4] (by simp;rfl) (by simp[ai,e2]) (by simp) (by simp) (by simp[ai,e2]) (by simp)
     ·rw[if_neg hP]
      have sI:0<g.aN.length:=by omega
      rw[e2];try rw[f2];have y1:=mI h (k:=q+2) (n:=g.aN.length) (by omega) (by omega)
      have y2:=dO h (k:=q+2) (n:=g.aN.length) (by omega) (by omega) (by omega)
      have he:=oZ (es:=g.aN) (k:=pk bs (q+2) g.aN.length) (by omega)
      generalize i6 g.aN (pk bs (q+2) g.aN.length)=e at*;generalize Cc:pk bs (q+2) g.aN.length=Kx at*;(refine TW.go ?_;simp[aj,e2,e3,c2,sI,Cc,y1,he,au,ai];repeat' first|intro hc|refine aa.mk ?_|refine aI ?_|refine ah ?_ ?_|(refine cR ?_;refine⟨_,_,bd h _ _ (by omega) (by omega),?_⟩;simp[aj,e2,e3,c2,sI,Cc,y1,he,au,ai]))
      refine ar.own [] [3,4] (by simp;rfl) (by simp[ai,au]) (by simp) (by simp) (by simp[ai,au]) (by simp)
    ·rw[if_neg c2]
     by_cases c3:pk bs (q+1) 18=3
     ·rw[if_pos c3]
      by_cases hP:g.done.length=0
      ·rw[if_pos hP]
       (refine TW.go ?_;simp[aj,e2,c3,hP,ai];repeat' first|intro hc|refine aa.mk ?_|refine aI ?_|refine ah ?_ ?_|(refine cR ?_;refine⟨_,_,bd h _ _ (by omega) (by omega),?_⟩;simp[aj,e2,c3,hP,ai]))
       refine ar.own [] [3,4] (by simp;rfl) (by simp[ai,e2]) (by simp) (by simp) (by simp[ai,e2]) (by simp)
      ·rw[if_neg hP]
       have sI:0<g.done.length:=by omega
       rw[e2,f2,f3];have y1:=mI h (k:=q+2) (n:=g.done.length) (by omega) (by omega)
       have y2:=dO h (k:=q+2) (n:=g.done.length) (by omega) (by omega) (by omega)
       have he:=oZ (es:=g.done) (k:=pk bs (q+2) g.done.length) (by omega)
       generalize i6 g.done (pk bs (q+2) g.done.length)=e at*;generalize Cc:pk bs (q+2) g.done.length=Kx at*;(refine TW.go ?_;simp[aj,e2,e3,e4,c3,sI,Cc,y1,he,au,ai];repeat' first|intro hc|refine aa.mk ?_|refine aI ?_|refine ah ?_ ?_|(refine cR ?_;refine⟨_,_,bd h _ _ (by omega) (by omega),?_⟩;simp[aj,e2,e3,e4,c3,sI,Cc,y1,he,au,ai]))
       refine ar.own [] [3,4] (by simp;rfl) (by simp[ai,au]) (by simp) (by simp) (by simp[ai,au]) (by simp)
     ·rw[if_neg c3]
      by_cases c4:pk bs (q+1) 18=4
      ·rw[if_pos c4]
       have y1:=mI h (k:=q+2) (n:=7) (by omega) (by omega)
       have y2:=dO h (k:=q+2) (n:=7) (by omega) (by omega) (by omega)
       have w5:IntKind.i64.wrap (pk bs (q+2) 7-1)=pk bs (q+2) 7-1:=aL (by omega) (by omega)
       (refine TW.go ?_;simp[aj,e2,e3,f2,c0,c1,c2,c3,c4,w5,ai];repeat' first|intro hc|refine aa.mk ?_|refine aI ?_|refine ah ?_ ?_|(refine cR ?_;refine⟨_,_,bd h _ _ (by omega) (by omega),?_⟩;simp[aj,e2,e3,f2,c0,c1,c2,c3,c4,w5,ai]))
       refine ar.own [] [3,4] (by simp;rfl) (by simp[ai,e2,f2]) (by simp) (by simp) (by simp[ai,e2,f2]) (by simp)
      ·rw[if_neg c4]
       (refine TW.go ?_;simp[aj,e2,e3,c0,c1,c2,c3,c4,ai];repeat' first|intro hc|refine aa.mk ?_|refine aI ?_|refine ah ?_ ?_|(refine cR ?_;refine⟨_,_,bd h _ _ (by omega) (by omega),?_⟩;simp[aj,e2,e3,c0,c1,c2,c3,c4,ai]))
       refine ar.own [] [3,4] (by simp;rfl) (by simp[ai,e2]) (by simp) (by simp) (by simp[ai,e2]) (by simp)
end Go.Proofs.YtjklkppncmhehaaGreat.T
namespace Go.Proofs.YtjklkppncmhehaaGreat.T
open Go Go.RowKit
set_option maxRecDepth 100000
set_option maxHeartbeats 4000000
variable {E:List PanicEntry→World→Prop}
def xJ (o:Int→Int→Int)(G:List az)(p:Int):List az×Int:=
 if o (p+1) 16=0 then(G.take (o p 5).toNat,p+2)
 else if o (p+1) 16=1 then(G.set (o p 5).toNat (iu o (p+2)).1,(iu o (p+2)).2)
 else if o (p+1) 16=2 then if(aG G (o p 5).toNat).done.length=0 then(G,p+2)else(G.set (o p 5).toNat ⟨(aG G (o p 5).toNat).id,(aG G (o p 5).toNat).clock,(aG G (o p 5).toNat).aN,(aG G (o p 5).toNat).done.drop 1⟩,p+2)
 else if o (p+1) 16=3 then(G.set (o p 5).toNat ⟨(o p 5+1).tmod 5,(aG G (o p 5).toNat).clock,(aG G (o p 5).toNat).aN,(aG G (o p 5).toNat).done⟩,p+2)
 else(G,p+2)
def eN (o:Int→Int→Int)(p:Int):List az×Int:=xJ o (cO o p).1.aO (cO o p).2
theorem uB (o:Int→Int→Int)(p:Int):gw (eN o p).1 400∧(eN o p).1.length≤5∧p+3≤(eN o p).2∧(eN o p).2≤p+700:=by
 obtain⟨a,b,c⟩:=qW o p;have h5:=c.g5;have hg:∀g∈(cO o p).1.aO,fE g 400:=fun g hg=>by have:=(c.uQ g hg).1;exact⟨by omega,by omega⟩
 have FB:=Jg o ((cO o p).2+2);have vL:fE (aG (cO o p).1.aO (o (cO o p).2 5).toNat) 400:=by
  by_cases h:(o (cO o p).2 5).toNat<(cO o p).1.aO.length
  ·exact hg _ (oV h)
  ·unfold aG
   rw[List.getD_eq_getElem?_getD,List.getElem?_eq_none (by omega)]
   exact⟨by simp,by simp⟩
 unfold eN xJ;generalize(cO o p).1.aO=G at*;generalize(cO o p).2=q at*;have b_:∀(i:Nat) (x:az),fE x 400→gw (G.set i x) 400:=fun i x hx=>⟨by simp;omega,fun g hm=>by
  rcases mem_set hm with rfl|hm
  ·exact hx
  ·exact hg g hm⟩
 split
 ·exact⟨⟨by simp;omega,fun g hm=>hg g (List.mem_of_mem_take hm)⟩,by simp;omega,by simp only;omega,by simp only;omega⟩
 ·split
  ·exact⟨b_ _ _ ⟨by have:=FB.2.2;omega,by have:=FB.2.2;omega⟩,by simp;omega,by simp only;omega,by simp only;omega⟩
  ·split
   ·split
    ·exact⟨⟨by simp only;omega,hg⟩,by simp only;omega,by simp only;omega,by simp only;omega⟩
    ·exact⟨b_ _ _ ⟨vL.1,by have:=vL.2;simp only[List.length_drop];omega⟩,by simp;omega,by simp only;omega,by simp only;omega⟩
   ·split
    ·exact⟨b_ _ _ vL,by simp;omega,by simp only;omega,by simp only;omega⟩
    ·exact⟨⟨by simp only;omega,hg⟩,by simp only;omega,by simp only;omega,by simp only;omega⟩
theorem Cd {bs:List Int}(h:mH bs)(p:Int)(h0:0≤p)(U:p≤999900000):
  TC Tw.prog E 43 [uS] 1 [(0,mG bs p)] (.p [gR (dD (eN (pk bs) p).1),gR (I9 (cO (pk bs) p).1.aH)]) [(0,mG bs (eN (pk bs) p).2)]:=by
 obtain⟨wa,wb,wc⟩:=qW (pk bs) p;have hW:=GC (E:=E) h p h0 (by omega)
 have h5:=wc.g5;have xC:=mF.sys (wc.mono (by omega))
 unfold eN;generalize cO (pk bs) p=V at*;obtain⟨W,q⟩:=V;simp only at*
 have y1:=mI h (k:=q) (n:=5) (by omega) (by omega)
 have y2:=dO h (k:=q) (n:=5) (by omega) (by omega) (by omega)
 have e2:q+1+1=q+2:=by omega
 have hG:=fU (gs:=W.aO) (i:=(pk bs q 5).toNat) (by omega)
 have wm:IntKind.i64.wrap (pk bs q 5+1)=pk bs q 5+1:=aL (by omega) (by omega)
 have sd:=GD (E:=E) h (q+2) (by omega) (by omega)
 unfold xJ;generalize aG W.aO (pk bs q 5).toNat=G at*;generalize iu (pk bs) (q+2)=GF at*;generalize jO:pk bs q 5=kx at*;refine tE Tw.func43 Tw.ntmps43 (by rw[Tryz.results43]) ?_ (hfit:=(Fits.of (by simp[iT,ak.live]) (by simp) (by simp)))
 by_cases c0:pk bs (q+1) 16=0
 ·rw[if_pos c0]
  (refine TW.go ?_;simp[wT,e2,jO,y1,c0];repeat' first|intro hc|refine aa.mk ?_|refine aI ?_|refine ah ?_ ?_|(refine cR ?_;refine⟨_,_,hW,?_⟩;simp[wT,e2,jO,y1,c0])|(refine cF [] 1 ?_;refine⟨_,_,fF W.aO xC,?_⟩;simp[wT,e2,jO,y1,c0])|(refine cR ?_;refine⟨_,_,bd h _ _ (by omega) (by omega),?_⟩;simp[wT,e2,jO,y1,c0]))
  exact oW [] []
 ·rw[if_neg c0]
  by_cases c1:pk bs (q+1) 16=1
  ·rw[if_pos c1]
   (refine TW.go ?_;simp[wT,e2,jO,y1,c1,hG,ai];repeat' first|intro hc|refine aa.mk ?_|refine aI ?_|refine ah ?_ ?_|(refine cR ?_;refine⟨_,_,hW,?_⟩;simp[wT,e2,jO,y1,c1,hG,ai])|(refine cF [] 1 ?_;refine⟨_,_,fF W.aO xC,?_⟩;simp[wT,e2,jO,y1,c1,hG,ai])|(refine cR ?_;refine⟨_,_,bd h _ _ (by omega) (by omega),?_⟩;simp[wT,e2,jO,y1,c1,hG,ai])|(refine cR ?_;refine⟨_,_,sd,?_⟩;simp[wT,e2,jO,y1,c1,hG,ai]))
   refine ar.own [] [2] (by simp;rfl) (by simp[ai]) (by simp) (by simp) (by simp[ai]) (by simp)
  ·rw[if_neg c1]
   by_cases c2:pk bs (q+1) 16=2
   ·rw[if_pos c2]
    by_cases hP:G.done.length=0
    ·rw[if_pos hP]
     (refine TW.go ?_;simp[wT,e2,jO,y1,c2,hG,ai,hP];repeat' first|intro hc|refine aa.mk ?_|refine aI ?_|refine ah ?_ ?_|(refine cR ?_;refine⟨_,_,hW,?_⟩;simp[wT,e2,jO,y1,c2,hG,ai,hP])|(refine cF [] 1 ?_;refine⟨_,_,fF W.aO xC,?_⟩;simp[wT,e2,jO,y1,c2,hG,ai,hP])|(refine cR ?_;refine⟨_,_,bd h _ _ (by omega) (by omega),?_⟩;simp[wT,e2,jO,y1,c2,hG,ai,hP]))
     exact oW [] [2]
    ·rw[if_neg hP]
     have sI:0<G.done.length:=by omega
     (refine TW.go ?_;simp[wT,e2,jO,y1,c2,hG,ai,sI];repeat' first|intro hc|refine aa.mk ?_|refine aI ?_|refine ah ?_ ?_|(refine cR ?_;refine⟨_,_,hW,?_⟩;simp[wT,e2,jO,y1,c2,hG,ai,sI])|(refine cF [] 1 ?_;refine⟨_,_,fF W.aO xC,?_⟩;simp[wT,e2,jO,y1,c2,hG,ai,sI])|(refine cR ?_;refine⟨_,_,bd h _ _ (by omega) (by omega),?_⟩;simp[wT,e2,jO,y1,c2,hG,ai,sI]))
     refine ar.own [] [2] (by simp;rfl) (by simp[ai,dw]) (by simp) (by simp) (by simp[ai,dw]) (by simp)
   ·rw[if_neg c2]
    by_cases c3:pk bs (q+1) 16=3
    ·rw[if_pos c3]
     (refine TW.go ?_;simp[wT,e2,jO,y1,c3,hG,ai,wm];repeat' first|intro hc|refine aa.mk ?_|refine aI ?_|refine ah ?_ ?_|(refine cR ?_;refine⟨_,_,hW,?_⟩;simp[wT,e2,jO,y1,c3,hG,ai,wm])|(refine cF [] 1 ?_;refine⟨_,_,fF W.aO xC,?_⟩;simp[wT,e2,jO,y1,c3,hG,ai,wm])|(refine cR ?_;refine⟨_,_,bd h _ _ (by omega) (by omega),?_⟩;simp[wT,e2,jO,y1,c3,hG,ai,wm]))
     refine ar.own [] [2] (by simp;rfl) (by simp[ai]) (by simp) (by simp) (by simp[ai]) (by simp)
    ·rw[if_neg c3]
     (refine TW.go ?_;simp[wT,e2,jO,y1,c0,c1,c2,c3];repeat' first|intro hc|refine aa.mk ?_|refine aI ?_|refine ah ?_ ?_|(refine cR ?_;refine⟨_,_,hW,?_⟩;simp[wT,e2,jO,y1,c0,c1,c2,c3])|(refine cF [] 1 ?_;refine⟨_,_,fF W.aO xC,?_⟩;simp[wT,e2,jO,y1,c0,c1,c2,c3])|(refine cR ?_;refine⟨_,_,bd h _ _ (by omega) (by omega),?_⟩;simp[wT,e2,jO,y1,c0,c1,c2,c3]))
     exact oW [] [2]
end Go.Proofs.YtjklkppncmhehaaGreat.T
namespace Go.Proofs.YtjklkppncmhehaaGreat.T
open Go Go.RowKit
set_option maxRecDepth 100000
set_option maxHeartbeats 4000000
variable {E:List PanicEntry→World→Prop}
def aa2 (o:Int→Int→Int)(p:Int):Nat→List Int
 |0=>[]
 |n+1=>if 1<o (p+n) 5 then aa2 o p n++[(n:Int)]else aa2 o p n
def jx (o:Int→Int→Int)(p:Int):List Int×Int:=if aa2 o p 5=[]then([o (p+5) 5],p+6)else(aa2 o p 5,p+5)
def PY (o:Int→Int→Int)(s:List Int×Int):List Int×Int:=if o s.2 24=0 then(s.1++[o (s.2+1) 7-1],s.2+2)else if o s.2 24=1 then([],s.2+1)else(s.1,s.2+1)
def mL (o:Int→Int→Int)(p:Int):List Int×Int:=PY o (jx o p)
def GG (o:Int→Int→Int)(p:Int):Int×Int:=if o p 24=0 then(ML [-1,11,12] (o (p+1) 3),p+2)else(o (p+1) 8,p+2)
theorem aa3 (o:Int→Int→Int)(p:Int):∀n,(aa2 o p n).length≤n
 |0=>Nat.le_refl 0
 |n+1=>by
  have:=aa3 o p n
  unfold aa2;split
  ·simp;omega
  ·omega
theorem GH (o:Int→Int→Int)(p:Int):(mL o p).1.length≤6∧p+6≤(mL o p).2∧(mL o p).2≤p+8:=by
 have h:=aa3 o p 5;have hs:(jx o p).1.length≤5∧p+5≤(jx o p).2∧(jx o p).2≤p+6:=by
  unfold jx;split
  ·exact⟨by simp,by simp only;omega,by simp only;omega⟩
  ·exact⟨h,by simp only;omega,by simp only;omega⟩
 unfold mL;generalize jx o p=s at*;unfold PY;repeat' split
 ·exact⟨by simp;omega,by simp only;omega,by simp only;omega⟩
 ·exact⟨by simp,by simp only;omega,by simp only;omega⟩
 ·exact⟨by simp only;omega,by simp only;omega,by simp only;omega⟩
theorem zB {bs:List Int}(h:mH bs)(p:Int)(h0:0≤p)(U:p≤999990000):
  TC Tw.prog E 45 [uS] 1 [(0,mG bs p)] (gR (bL (mL (pk bs) p).1)) [(0,mG bs (mL (pk bs) p).2)]:=by
 refine tE Tw.func45 Tw.ntmps45 (by rw[Tryz.results45]) ?_ (hfit:=(Fits.of (by simp[iT,ak.live]) (by simp) (by simp)))
 (refine TW.go ?_;simp;repeat' first|intro hc|refine aa.mk ?_|refine aI ?_|refine ah ?_ ?_)
 refine tL (fun(k:Nat)=>⟨[(0,uS),(3,.s (.own 1)),(4,gI .i64 (k:Nat))],[(0,mG bs (p+k)),(1,lf (aa2 (pk bs) p k))],2⟩) (fun k=>k≤5) (fun k=>5-k) 0 (by omega) (Wk.own [1] [] (by simp) (by simp) (by simp[aa2]) (by simp) (by simp)) fun k hk=>?_
 by_cases aj:k<5
 ·have aw:(k:Int)<5:=by omega
  have aF:IntKind.i64.wrap ((k:Int)+1)=(k:Int)+1:=aL (by omega) (by omega)
  have PE:=aa3 (pk bs) p k;have e1:p+(k:Int)+1=p+((k:Int)+1):=by omega
  by_cases hc:1<pk bs (p+k) 5
  ·have hs:aa2 (pk bs) p (k+1)=aa2 (pk bs) p k++[(k:Int)]:=by rw[aa2,if_pos hc]
   (refine TW.go ?_;simp[aw,aF,hc,maxLen];repeat' first|intro hc|refine aa.mk ?_|refine aI ?_|refine ah ?_ ?_|(refine cR ?_;refine⟨_,_,bd h _ _ (by omega) (by omega),?_⟩;simp[aw,aF,hc,maxLen]))
   all_goals exact⟨k+1,by omega,by omega,Wk.own [3] [] (by simp) (by simp) (by simp[hs,e1]) (by simp) (by simp)⟩
  ·have hs:aa2 (pk bs) p (k+1)=aa2 (pk bs) p k:=by rw[aa2,if_neg hc]
   (refine TW.go ?_;simp[aw,aF,hc,maxLen];repeat' first|intro hc|refine aa.mk ?_|refine aI ?_|refine ah ?_ ?_|(refine cR ?_;refine⟨_,_,bd h _ _ (by omega) (by omega),?_⟩;simp[aw,aF,hc,maxLen]))
   all_goals exact⟨k+1,by omega,by omega,Wk.own [1] [] (by simp) (by simp) (by simp[hs,e1]) (by simp) (by simp)⟩
 ·obtain rfl:k=5:=by omega
  have PE:=aa3 (pk bs) p 5;have w7:IntKind.i64.wrap (pk bs ((jx (pk bs) p).2+1) 7-1)=pk bs ((jx (pk bs) p).2+1) 7-1:=by
   have hp:0≤(jx (pk bs) p).2+1∧(jx (pk bs) p).2+1≤p+7:=by
    unfold jx;split<;>(simp only;omega)
   have a:=mI h (k:=(jx (pk bs) p).2+1) (n:=7) (by omega) (by omega)
   have b:=dO h (k:=(jx (pk bs) p).2+1) (n:=7) (by omega) (by omega) (by omega)
   exact aL (by omega) (by omega)
  have e5:p+(5:Nat)=p+5:=rfl
  by_cases hL:aa2 (pk bs) p 5=[]
  ·have hS:jx (pk bs) p=([pk bs (p+5) 5],p+6):=by rw[jx,if_pos hL]
   have e6:p+5+1=p+6:=by omega
   have e7:p+6+1=p+7:=by omega
   have e8:p+6+1+1=p+6+2:=by omega
   rw[hS]at w7;simp only at w7
   have hF:mL (pk bs) p=if pk bs (p+6) 24=0 then([pk bs (p+5) 5]++[pk bs (p+6+1) 7-1],p+6+2)else if pk bs (p+6) 24=1 then([],p+6+1)else([pk bs (p+5) 5],p+6+1):=by rw[mL,hS,PY]
   rw[hF];by_cases c0:pk bs (p+6) 24=0
   ·rw[if_pos c0]
    (refine TW.go ?_;simp[hL,e6,c0,w7,maxLen];repeat' first|intro hc|refine aa.mk ?_|refine aI ?_|refine ah ?_ ?_|(refine cR ?_;refine⟨_,_,bd h _ _ (by omega) (by omega),?_⟩;simp[hL,e6,c0,w7,maxLen]))
    all_goals refine ar.own [] [4] (by simp;rfl) (by simp[e8]) (by simp) (by simp) (by simp[e8]) (by simp)
   ·rw[if_neg c0]
    by_cases c1:pk bs (p+6) 24=1
    ·rw[if_pos c1]
     (refine TW.go ?_;simp[hL,e6,c0,c1,maxLen];repeat' first|intro hc|refine aa.mk ?_|refine aI ?_|refine ah ?_ ?_|(refine cR ?_;refine⟨_,_,bd h _ _ (by omega) (by omega),?_⟩;simp[hL,e6,c0,c1,maxLen]))
     all_goals refine ar.own [] [] (by simp;rfl) (by simp[]) (by simp) (by simp) (by simp[]) (by simp)
    ·rw[if_neg c1]
     (refine TW.go ?_;simp[hL,e6,c0,c1,maxLen];repeat' first|intro hc|refine aa.mk ?_|refine aI ?_|refine ah ?_ ?_|(refine cR ?_;refine⟨_,_,bd h _ _ (by omega) (by omega),?_⟩;simp[hL,e6,c0,c1,maxLen]))
     all_goals refine ar.own [] [2] (by simp;rfl) (by simp[]) (by simp) (by simp) (by simp[]) (by simp)
  ·have hS:jx (pk bs) p=(aa2 (pk bs) p 5,p+5):=by rw[jx,if_neg hL]
   have e6:p+5+1=p+6:=by omega
   have e8:p+6+1=p+5+2:=by omega
   rw[hS]at w7;simp only at w7
   have hF:mL (pk bs) p=if pk bs (p+5) 24=0 then(aa2 (pk bs) p 5++[pk bs (p+5+1) 7-1],p+5+2)else if pk bs (p+5) 24=1 then([],p+5+1)else(aa2 (pk bs) p 5,p+5+1):=by rw[mL,hS,PY]
   rw[hF];have MM:¬(aa2 (pk bs) p 5).length=0:=by simpa using hL
   generalize aa2 (pk bs) p 5=S at*;rw[e6]at w7;by_cases c0:pk bs (p+5) 24=0
   ·rw[if_pos c0]
    (refine TW.go ?_;simp[hL,MM,e6,c0,w7,maxLen];repeat' first|intro hc|refine aa.mk ?_|refine aI ?_|refine ah ?_ ?_|(refine cR ?_;refine⟨_,_,bd h _ _ (by omega) (by omega),?_⟩;simp[hL,MM,e6,c0,w7,maxLen]))
    all_goals refine ar.own [] [3] (by simp;rfl) (by simp[e6,e8]) (by simp) (by simp) (by simp[e6,e8]) (by simp)
   ·rw[if_neg c0]
    by_cases c1:pk bs (p+5) 24=1
    ·rw[if_pos c1]
     (refine TW.go ?_;simp[hL,MM,e6,c0,c1,maxLen];repeat' first|intro hc|refine aa.mk ?_|refine aI ?_|refine ah ?_ ?_|(refine cR ?_;refine⟨_,_,bd h _ _ (by omega) (by omega),?_⟩;simp[hL,MM,e6,c0,c1,maxLen]))
     all_goals refine ar.own [] [] (by simp;rfl) (by simp[e6]) (by simp) (by simp) (by simp[e6]) (by simp)
    ·rw[if_neg c1]
     (refine TW.go ?_;simp[hL,MM,e6,c0,c1,maxLen];repeat' first|intro hc|refine aa.mk ?_|refine aI ?_|refine ah ?_ ?_|(refine cR ?_;refine⟨_,_,bd h _ _ (by omega) (by omega),?_⟩;simp[hL,MM,e6,c0,c1,maxLen]))
     all_goals refine ar.own [] [1] (by simp;rfl) (by simp[e6]) (by simp) (by simp) (by simp[e6]) (by simp)
theorem qk {bs:List Int}(h:mH bs)(p:Int)(h0:0≤p)(U:p≤999990000):
  TC Tw.prog E 46 [uS] 1 [(0,mG bs p)] (gI .i64 (GG (pk bs) p).1) [(0,mG bs (GG (pk bs) p).2)]:=by
 have e2:p+1+1=p+2:=by omega
 refine tE Tw.func46 Tw.ntmps46 (by rw[Tryz.results46]) ?_ (hfit:=(Fits.of (by simp[iT,ak.live]) (by simp) (by simp)))
 unfold GG;by_cases c0:pk bs p 24=0
 ·rw[if_pos c0]
  have y1:=mI h (k:=p+1) (n:=3) (by omega) (by omega)
  have y2:=dO h (k:=p+1) (n:=3) (by omega) (by omega) (by omega)
  have ht:=tI (xs:=[-1,11,12]) y1 (by simpa using y2)
  simp only[List.map_cons,List.map_nil]at ht;(refine TW.go ?_;simp[c0,ht,y1];repeat' first|intro hc|refine aa.mk ?_|refine aI ?_|refine ah ?_ ?_|(refine cR ?_;refine⟨_,_,bd h _ _ (by omega) (by omega),?_⟩;simp[c0,ht,y1]))
  refine ar.own [] [] (by simp;rfl) (by simp[e2]) (by simp) (by simp) (by simp[e2]) (by simp)
 ·rw[if_neg c0]
  (refine TW.go ?_;simp[c0];repeat' first|intro hc|refine aa.mk ?_|refine aI ?_|refine ah ?_ ?_|(refine cR ?_;refine⟨_,_,bd h _ _ (by omega) (by omega),?_⟩;simp[c0]))
  refine ar.own [] [] (by simp;rfl) (by simp[e2]) (by simp) (by simp) (by simp[e2]) (by simp)
end Go.Proofs.YtjklkppncmhehaaGreat.T
namespace Go.Proofs.YtjklkppncmhehaaGreat.T
open Go Go.RowKit
set_option maxRecDepth 100000
set_option maxHeartbeats 4000000
variable {E:List PanicEntry→World→Prop}
def SC (o:Int→Int→Int)(aH:List (List Int))(p:Int):List Int×Int:=
 if 0<aH.length then if 0<o p 8 then(aH.getD (o (p+1) aH.length).toNat [],o (p+1) aH.length)
  else((mL o (p+1)).1,(GG o (mL o (p+1)).2).1)
 else((mL o p).1,(GG o (mL o p).2).1)
def J6 (o:Int→Int→Int):List Int×Int:=SC o (cO o 0).1.aH (eN o 0).2
theorem pM (bs:List Int)(h:mH (bs.take 2000)):TC Tw.prog E 13 [gR (pw bs)] 0 []
  (.p [gR (dD (eN (pk (bs.take 2000)) 0).1),gR (bL (J6 (pk (bs.take 2000))).1),gI .i64 (J6 (pk (bs.take 2000))).2]) []:=by
 have hO:=MJ (E:=E) bs;have hS:=Cd (E:=E) h 0 (by omega) (by omega)
 obtain⟨-, -,p1,p2⟩:=uB (pk (bs.take 2000)) 0;obtain⟨-, -,wc⟩:=qW (pk (bs.take 2000)) 0;have PO:=wc.Mz;have b_:=wc.set;unfold J6;generalize(cO (pk (bs.take 2000)) 0).1.aH=ss at*;generalize eN (pk (bs.take 2000)) 0=S at*;obtain⟨G,q⟩:=S;simp only at*
 generalize bs.take 2000=cs at*;refine tE Tw.func13 Tw.ntmps13 (by rw[Tryz.results13]) ?_
 unfold SC;by_cases hl:0<ss.length
 ·rw[if_pos hl]
  have jM:(0:Int)<ss.length:=by omega
  by_cases hc:0<pk cs q 8
  ·rw[if_pos hc]
   have y1:=mI h (k:=q+1) (n:=ss.length) (by omega) (by omega)
   have y2:=dO h (k:=q+1) (n:=ss.length) (by omega) (by omega) (by omega)
   have he:ss[(pk cs (q+1) ss.length).toNat]?=some (ss.getD (pk cs (q+1) ss.length).toNat []):=by
    rw[List.getD_eq_getElem?_getD,List.getElem?_eq_getElem (by omega)];rfl
   have hle:=(b_ _ (List.mem_of_getElem? he)).2.1;generalize ss.getD (pk cs (q+1) ss.length).toNat []=s at*;generalize hk:pk cs (q+1) ss.length=k at*;(refine TW.go ?_;simp[hl,jM,hc,hk,y1,he,maxLen];repeat' first|intro hc|refine aa.mk ?_|refine aI ?_|refine ah ?_ ?_|(refine cF [] 1 ?_;refine⟨_,_,hO,?_⟩;simp[hl,jM,hc,hk,y1,he,maxLen])|(refine cR ?_;refine⟨_,_,hS,?_⟩;simp[hl,jM,hc,hk,y1,he,maxLen])|(refine cR ?_;refine⟨_,_,bd h _ _ (by omega) (by omega),?_⟩;simp[hl,jM,hc,hk,y1,he,maxLen]))
   all_goals exact oW [] [2]
  ·rw[if_neg hc]
   have hf:=GH (pk cs) (q+1);have hF:=zB (E:=E) h (q+1) (by omega) (by omega)
   have hM:=qk (E:=E) h (mL (pk cs) (q+1)).2 (by omega) (by omega)
   (refine TW.go ?_;simp[hl,jM,hc,maxLen];repeat' first|intro hc|refine aa.mk ?_|refine aI ?_|refine ah ?_ ?_|(refine cF [] 1 ?_;refine⟨_,_,hO,?_⟩;simp[hl,jM,hc,maxLen])|(refine cR ?_;refine⟨_,_,hS,?_⟩;simp[hl,jM,hc,maxLen])|(refine cR ?_;refine⟨_,_,bd h _ _ (by omega) (by omega),?_⟩;simp[hl,jM,hc,maxLen])|(refine cR ?_;refine⟨_,_,hF,?_⟩;simp[hl,jM,hc,maxLen])|(refine cR ?_;refine⟨_,_,hM,?_⟩;simp[hl,jM,hc,maxLen]))
   all_goals exact oW [] []
 ·rw[if_neg hl]
  have jM:¬(0:Int)<ss.length:=by omega
  have hf:=GH (pk cs) q;have hF:=zB (E:=E) h q (by omega) (by omega)
  have hM:=qk (E:=E) h (mL (pk cs) q).2 (by omega) (by omega)
  (refine TW.go ?_;simp[hl,jM,maxLen];repeat' first|intro hc|refine aa.mk ?_|refine aI ?_|refine ah ?_ ?_|(refine cF [] 1 ?_;refine⟨_,_,hO,?_⟩;simp[hl,jM,maxLen])|(refine cR ?_;refine⟨_,_,hS,?_⟩;simp[hl,jM,maxLen])|(refine cR ?_;refine⟨_,_,bd h _ _ (by omega) (by omega),?_⟩;simp[hl,jM,maxLen])|(refine cR ?_;refine⟨_,_,hF,?_⟩;simp[hl,jM,maxLen])|(refine cR ?_;refine⟨_,_,hM,?_⟩;simp[hl,jM,maxLen]))
  all_goals exact oW [] []
def jP (gs:List az)(set:List Int)(m:Int):Bool:=cZ gs&&fD set&&bC m
def o5 (gs:List az)(set:List Int)(m:Int):(Int×Int)×Bool:=if jP gs set m=true then bD gs set m else((0,0),false)
theorem o8 {xs:List Int}(h:fD xs=true):xs≠[]∧xs.length≤5∧f_ xs:=by
 simp only[fD,Bool.and_eq_true,decide_eq_true_eq,bX,List.all_eq_true,List.mem_range,nP,bw,Bool.or_eq_true]at h;obtain⟨U,h2⟩:=h;have hr:∀i,i<xs.length→0≤xs.getD i 0∧xs.getD i 0<5:=fun i hi=>by have:=(U i hi).1;omega
 have hi:∀i,i<xs.length→(i:Int)≤xs.getD i 0:=by
  intro i;induction i with
  |zero=>intro hi;exact(hr 0 hi).1
  |succ i ih=>
   intro hi;have a:=ih (by omega)
   have b:=(U (i+1) hi).2;simp only[Nat.add_sub_cancel]at b;omega
 refine⟨List.length_pos_iff.1 h2,?_,fun g hg=>?_⟩
 ·have a:=hi (xs.length-1) (by omega)
  have b:=(hr (xs.length-1) (by omega)).2
  omega
 ·obtain⟨i,eE,rfl⟩:=List.getElem_of_mem hg
  have:=hr i eE
  rwa[List.getD_eq_getElem?_getD,List.getElem?_eq_getElem eE]at this
theorem i7 {gs:List az}(h:cZ gs=true):gs.length=5:=by
 simp only[cZ,Bool.and_eq_true,decide_eq_true_eq]at h;exact h.1.1
theorem pN (gs:List az)(set:List Int)(m:Int)(h:gw gs 4294967290):TC Tw.prog E 15 [gR (dD gs),gR (bL set),gI .i64 m] 0 [] (.p [km (o5 gs set m).1,gB (o5 gs set m).2]) []:=by
 have hS:=qT (E:=E) gs ⟨by have:=h.1;omega,fun g hg=>by have:=h.2 g hg;exact⟨by have:=this.1;omega,by have:=this.2;omega⟩⟩
 have hV:=gu (E:=E) set;have hM:=fZ (E:=E) m;refine tE Tw.func15 Tw.ntmps15 (by rw[Tryz.results15]) ?_
 unfold o5 jP
 cases a:cZ gs
 ·rw[a]at hS
  (refine TW.go ?_;simp;repeat' first|intro hc|refine aa.mk ?_|refine aI ?_|refine ah ?_ ?_|(refine cP ?_;(first|refine⟨_,hS,?_⟩|refine⟨_,hV,?_⟩|refine⟨_,hM,?_⟩);simp))
  exact oW [] []
 ·rw[a]at hS
  cases b:fD set
  ·rw[b]at hV
   (refine TW.go ?_;simp;repeat' first|intro hc|refine aa.mk ?_|refine aI ?_|refine ah ?_ ?_|(refine cP ?_;(first|refine⟨_,hS,?_⟩|refine⟨_,hV,?_⟩|refine⟨_,hM,?_⟩);simp))
   exact oW [] []
  ·rw[b]at hV
   obtain⟨b1,b2,b3⟩:=o8 b;have hT:=oY (E:=E) gs set m (i7 a) b3 b1 b2
   cases c:bC m
   ·rw[c]at hM
    (refine TW.go ?_;simp;repeat' first|intro hc|refine aa.mk ?_|refine aI ?_|refine ah ?_ ?_|(refine cP ?_;(first|refine⟨_,hS,?_⟩|refine⟨_,hV,?_⟩|refine⟨_,hM,?_⟩);simp))
    exact oW [] []
   ·rw[c]at hM
    (refine TW.go ?_;simp;repeat' first|intro hc|refine aa.mk ?_|refine aI ?_|refine ah ?_ ?_|(refine cP ?_;(first|refine⟨_,hS,?_⟩|refine⟨_,hV,?_⟩|refine⟨_,hM,?_⟩|refine⟨_,hT,?_⟩);simp))
    exact oW [] []
end Go.Proofs.YtjklkppncmhehaaGreat.T
namespace Go.Proofs.YtjklkppncmhehaaGreat.T
open Go Go.RowKit
set_option maxRecDepth 100000
set_option maxHeartbeats 4000000
variable {E:List PanicEntry→World→Prop}
theorem nE (n:Int):TC Tw.prog E 55 [gI .i64 n] 0 [] (gB (bw n)) []:=by
 refine tE Tw.func55 Tw.ntmps55 (by rw[Tryz.results55]) ?_
 (refine TW.go ?_;simp;repeat' first|intro hc|refine aa.mk ?_|refine aI ?_|refine ah ?_ ?_)
 all_goals refine ar.nil (r:=gB (bw n)) ?_ rfl
 all_goals(first|(simp[bw];done)|(simp[bw, *];done)|(simp[bw];intros;omega)|(simp[bw, *];intros;omega)|(rw[Bool.eq_iff_iff];simp[bw, *];intros;omega)|(simp[bw, *];rw[Bool.eq_iff_iff];simp;intros;omega)|(intros;omega))
theorem nF (n:Int):TC Tw.prog E 56 [gI .i64 n] 0 [] (gB (bC n)) []:=by
 refine tE Tw.func56 Tw.ntmps56 (by rw[Tryz.results56]) ?_
 (refine TW.go ?_;simp;repeat' first|intro hc|refine aa.mk ?_|refine aI ?_|refine ah ?_ ?_)
 all_goals refine ar.nil (r:=gB (bC n)) ?_ rfl
 all_goals(first|(simp[bC];done)|(simp[bC, *];done)|(simp[bC];intros;omega)|(simp[bC, *];intros;omega)|(rw[Bool.eq_iff_iff];simp[bC, *];intros;omega)|(simp[bC, *];rw[Bool.eq_iff_iff];simp;intros;omega)|(intros;omega))
theorem zC (n:Int):TC Tw.prog E 111 [gI .i64 n] 0 [] (gB (fC n)) []:=by
 refine tE Tw.func111 Tw.ntmps111 (by rw[Tryz.results111]) ?_
 (refine TW.go ?_;simp;repeat' first|intro hc|refine aa.mk ?_|refine aI ?_|refine ah ?_ ?_)
 all_goals refine ar.nil (r:=gB (fC n)) ?_ rfl
 all_goals(first|(simp[fC];done)|(simp[fC, *];done)|(simp[fC];intros;omega)|(simp[fC, *];intros;omega)|(rw[Bool.eq_iff_iff];simp[fC, *];intros;omega)|(simp[fC, *];rw[Bool.eq_iff_iff];simp;intros;omega)|(intros;omega))
theorem ji (t g:Int):TC Tw.prog E 18 [km (t,g)] 0 [] (gB (bb t g)) []:=by
 refine tE Tw.func18 Tw.ntmps18 (by rw[Tryz.results18]) ?_
 (refine TW.go ?_;simp;repeat' first|intro hc|refine aa.mk ?_|refine aI ?_|refine ah ?_ ?_|(refine cP ?_;refine⟨_,nE _,?_⟩;simp))
 all_goals refine ar.nil (r:=gB (bb t g)) ?_ rfl
 all_goals(first|(simp[bb];done)|(simp[bb, *];done)|(simp[bb];intros;omega)|(simp[bb, *];intros;omega)|(rw[Bool.eq_iff_iff];simp[bb, *];intros;omega)|(simp[bb, *];rw[Bool.eq_iff_iff];simp;intros;omega)|(intros;omega))
theorem lP (t g t' g':Int):TC Tw.prog E 54 [km (t,g),km (t',g')] 0 [] (gB (aU t g t' g')) []:=by
 refine tE Tw.func54 Tw.ntmps54 (by rw[Tryz.results54]) ?_
 (refine TW.go ?_;simp;repeat' first|intro hc|refine aa.mk ?_|refine aI ?_|refine ah ?_ ?_)
 all_goals refine ar.nil (r:=gB (aU t g t' g')) ?_ rfl
 all_goals(first|(simp[aU];done)|(simp[aU, *];done)|(simp[aU];intros;omega)|(simp[aU, *];intros;omega)|(rw[Bool.eq_iff_iff];simp[aU, *];intros;omega)|(simp[aU, *];rw[Bool.eq_iff_iff];simp;intros;omega)|(intros;omega))
def o9 (id clock:Int)(es:List aK)(i:Nat):Bool:=match es[i]? with
 |some e=>bC e.m&&bb e.t e.g&&decide (e.t≤clock)&&(e.f||decide (e.g=id))&&(decide (i=0)||(match es[i-1]? with|some d=>aU d.t d.g e.t e.g|none=>true))
 |none=>true
def jW (id clock:Int)(es:List aK):Bool:=bX es.length (o9 id clock es)
theorem ql (g:az)(es:List aK):TC Tw.prog E 112 [.a ((ai g).map .r),gR (dw es)] 0 [] (gB (jW g.id g.clock es)) []:=by
 refine tE Tw.func112 Tw.ntmps112 (by rw[Tryz.results112]) ?_
 refine TW.len 1 rfl fun hlen=>?_;simp only[List.length_map]at hlen;(refine TW.go ?_;simp;repeat' first|intro hc|refine aa.mk ?_|refine aI ?_|refine ah ?_ ?_)
 refine tL (fun(k:Nat)=>⟨[(1,gR (dw es)),(2,.s (.ptr 0 0)),(7,gR (dw es)),(8,gI .i64 es.length),(9,gI .i64 (k:Nat))],[(0,.box ((ai g).map .r))],1⟩) (fun k=>k≤es.length∧∀i,i<k→o9 g.id g.clock es i=true) (fun k=>es.length-k) 0 ⟨by omega,fun i hi=>by omega⟩ (kO [0] []) fun k hk=>?_
 obtain⟨hk,hf⟩:=hk;by_cases aj:k<es.length
 ·have he:es[k]?=some es[k]:=List.getElem?_eq_getElem aj
  have hq:jW g.id g.clock es=false∨o9 g.id g.clock es k=true:=by
   cases h:o9 g.id g.clock es k
   ·exact .inl (by simp[jW,bY aj h])
   ·exact .inr rfl
  rcases k with _|k
  ·have b_:o9 g.id g.clock es 0=(bC es[0].m&&bb es[0].t es[0].g&&decide (es[0].t≤g.clock)&&(es[0].f||decide (es[0].g=g.id))):=by simp[o9,he]
   (refine TW.go ?_;simp[aj,he,ai,au];repeat' first|intro hc|refine aa.mk ?_|refine aI ?_|refine ah ?_ ?_|(refine cP ?_;(first|refine⟨_,nF _,?_⟩|refine⟨_,ji _ _,?_⟩|refine⟨_,lP _ _ _ _,?_⟩);simp[aj,he,ai,au]))
   all_goals first
    |(refine⟨1,⟨by omega,fun i hi=>?_⟩,by omega,Wk.own [0] [] (by simp) (by simp) (by simp[ai]) (by simp) (by simp)⟩
      obtain rfl:i=0:=by omega
      simp_all)
    |(refine ar.nil (r:=gB (jW g.id g.clock es)) ?_ rfl
      rcases hq with hq|hq
      ·simp[hq]
      ·exfalso
       first|(simp_all;done)|(clear hf;simp_all;done)|(clear hf;rw[b_]at hq;simp only[Bool.and_eq_true]at hq;rw[hq.2]at hc;cases hc)|(simp_all;omega))
  ·have dF:es[k]?=some es[k]:=List.getElem?_eq_getElem (by omega)
   have hw:=iX (k:=k) (by omega)
   have aF:=wrap_add (k:=k+1) aj hlen;simp only[Int.natCast_add,Int.natCast_one]at aF;have dp:(0:Int)<(k:Int)+1:=by omega
   have aw:(k:Int)+1<(es.length:Int):=by omega
   have b_:o9 g.id g.clock es (k+1)=(bC es[k+1].m&&bb es[k+1].t es[k+1].g&&decide (es[k+1].t≤g.clock)&&(es[k+1].f||decide (es[k+1].g=g.id))&&aU es[k].t es[k].g es[k+1].t es[k+1].g):=by simp[o9,he,dF]
   (refine TW.go ?_;simp[aj,hk,he,dF,hw,aF,dp,aw,ai,au];repeat' first|intro hc|refine aa.mk ?_|refine aI ?_|refine ah ?_ ?_|(refine cP ?_;(first|refine⟨_,nF _,?_⟩|refine⟨_,ji _ _,?_⟩|refine⟨_,lP _ _ _ _,?_⟩);simp[aj,hk,he,dF,hw,aF,dp,aw,ai,au]))
   all_goals first
    |(refine⟨k+1+1,⟨by omega,fun i hi=>?_⟩,by omega,Wk.own [0] [] (by simp) (by simp) (by simp[ai]) (by simp) (by simp)⟩
      by_cases e:i=k+1
      ·subst e;simp_all
      ·exact hf i (by omega))
    |(refine ar.nil (r:=gB (jW g.id g.clock es)) ?_ rfl
      rcases hq with hq|hq
      ·simp[hq]
      ·exfalso
       first|(simp_all;done)|(clear hf;simp_all;done)|(clear hf;rw[b_]at hq;simp only[Bool.and_eq_true]at hq;rw[hq.2]at hc;cases hc)|(simp_all;omega))
 ·obtain rfl:k=es.length:=by omega
  (refine TW.go ?_;simp;repeat' first|intro hc|refine aa.mk ?_|refine aI ?_|refine ah ?_ ?_)
  refine ar.nil (r:=gB (jW g.id g.clock es)) ?_ rfl;simp[jW,bH hf]
theorem yK (es:List aK)(h:es.length≤4294967296):TC Tw.prog E 113 [gR (dw es)] 0 [] (.s (.own 0)) [(0,dx es)]:=by
 refine tE Tw.func113 Tw.ntmps113 (by rw[Tryz.results113]) ?_
 (refine TW.go ?_;simp[maxLen];repeat' first|intro hc|refine aa.mk ?_|refine aI ?_|refine ah ?_ ?_)
 exact oW [1] []
theorem nG (es:List aK)(m:Int):TC Tw.prog E 53 [gR (dw es),gI .i64 m] 0 [] (gI .i64 (cA es m)) []:=by
 refine tE Tw.func53 Tw.ntmps53 (by rw[Tryz.results53]) ?_
 refine TW.len 0 rfl fun hlen=>?_;simp only[List.length_map]at hlen;(refine TW.go ?_;simp;repeat' first|intro hc|refine aa.mk ?_|refine aI ?_|refine ah ?_ ?_)
 refine tL (fun(k:Nat)=>⟨[(1,gI .i64 m),(7,gR (dw es)),(8,gI .i64 es.length),(9,gI .i64 (k:Nat))],[],0⟩) (fun k=>k≤es.length∧ck m (es.drop k) k=cA es m) (fun k=>es.length-k) 0 ⟨by omega,rfl⟩ (kS) fun k hk=>?_
 obtain⟨hk,hf⟩:=hk;by_cases aj:k<es.length
 ·have he:es[k]?=some es[k]:=List.getElem?_eq_getElem aj
  have hd:=oM (m:=m) he;rw[hf]at hd;by_cases hm:es[k].m=m
  ·rw[if_pos hm]at hd
   (refine TW.go ?_;simp[aj,he,au,hm,wrap_add aj hlen];repeat' first|intro hc|refine aa.mk ?_|refine aI ?_|refine ah ?_ ?_)
   refine ar.nil (r:=gI .i64 (cA es m)) ?_ rfl;simp[hd]
  ·rw[if_neg hm]at hd
   (refine TW.go ?_;simp[aj,he,au,hm,wrap_add aj hlen];repeat' first|intro hc|refine aa.mk ?_|refine aI ?_|refine ah ?_ ?_)
   exact⟨k+1,⟨by omega,hd.symm⟩,by omega,kS⟩
 ·obtain rfl:k=es.length:=by omega
  rw[List.drop_length]at hf;(refine TW.go ?_;simp;repeat' first|intro hc|refine aa.mk ?_|refine aI ?_|refine ah ?_ ?_)
  refine ar.nil (r:=gI .i64 (cA es m)) ?_ rfl;simp[←hf,ck]
end Go.Proofs.YtjklkppncmhehaaGreat.T
