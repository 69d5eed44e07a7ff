/-
What is proved: what the draw of a system does to trees. No condition but the ranges that each states. what the draws of a set, a message and a recovery, and the reference's recovery of a stamp, do to trees. No condition but the ranges that each states. what the draw of a recovery and the reference's recovery of a stamp do to trees. No condition but the ranges that each states. the contract of impl.areEntries over the second program. Conditions: those that the theorem states. the contract of impl.clone at entries; those of impl.GroupValid, impl.GroupStamp at groups without entries, over the second program. Conditions: those that each theorem states.
-/
import Derived.Test.YtjklkppncmhehaaGreatRx43
import Derived.Test.YtjklkppncmhehaaGreatRx35
import Derived.BigQuiet
import Derived.Deep.RegionLaw
set_option linter.unusedVariables false
set_option linter.unusedSimpArgs false
namespace Go.Proofs.YtjklkppncmhehaaGreat.T
open Go Go.RowKit
set_option maxRecDepth 100000
set_option maxHeartbeats 4000000
variable {E:List PanicEntry→World→Prop}
def AP (o:Int→Int→Int)(G:List aq)(p:Int):List aq×Int:=
 if o (p+1) 16=0 then(G.take (o p 5).toNat,p+2)
 else if o (p+1) 16=1 then(G.set (o p 5).toNat (jP o (p+2)).1,(jP o (p+2)).2)
 else if o (p+1) 16=2 then if(aB G (o p 5).toNat).done.length=0 then(G,p+2)else(G.set (o p 5).toNat ⟨(aB G (o p 5).toNat).id,(aB G (o p 5).toNat).clock,(aB G (o p 5).toNat).ao,(aB G (o p 5).toNat).done.drop 1⟩,p+2)
 else if o (p+1) 16=3 then(G.set (o p 5).toNat ⟨(o p 5+1).tmod 5,(aB G (o p 5).toNat).clock,(aB G (o p 5).toNat).ao,(aB G (o p 5).toNat).done⟩,p+2)
 else(G,p+2)
def fi (o:Int→Int→Int)(p:Int):List aq×Int:=AP o (dA o p).1.aU (dA o p).2
theorem xQ (o:Int→Int→Int)(p:Int):cz (fi o p).1 400∧(fi o p).1.length≤5∧p+3≤(fi o p).2∧(fi o p).2≤p+700:=by
 obtain⟨a,b,c⟩:=ub o p;have h5:=c.g5;have hg:∀g∈(dA o p).1.aU,eE g 400:=fun g hg=>by have:=(c.yk g hg).1;exact⟨by omega,by omega⟩
 have BI:=MN o ((dA o p).2+2);have tA:eE (aB (dA o p).1.aU (o (dA o p).2 5).toNat) 400:=by
  by_cases h:(o (dA o p).2 5).toNat<(dA o p).1.aU.length
  ·exact hg _ (iQ h)
  ·unfold aB
   rw[List.getD_eq_getElem?_getD,List.getElem?_eq_none (by omega)]
   exact⟨by simp,by simp⟩
 unfold fi AP;generalize(dA o p).1.aU=G at*;generalize(dA o p).2=q at*;have cE:∀(i:Nat) (x:aq),eE x 400→cz (G.set i x) 400:=fun i x hx=>⟨by simp;omega,fun g hm=>by
  rcases mem_set hm with rfl|hm
  ·exact hx
  ·exact hg g hm⟩
 split
 ·exact⟨⟨by simp;omega,fun g hm=>hg g (List.mem_of_mem_take hm)⟩,by simp;omega,by simp only;omega,by simp only;omega⟩
 ·split
  ·exact⟨cE _ _ ⟨by have:=BI.2.2;omega,by have:=BI.2.2;omega⟩,by simp;omega,by simp only;omega,by simp only;omega⟩
  ·split
   ·split
    ·exact⟨⟨by simp only;omega,hg⟩,by simp only;omega,by simp only;omega,by simp only;omega⟩
    ·exact⟨cE _ _ ⟨tA.1,by have:=tA.2;simp only[List.length_drop];omega⟩,by simp;omega,by simp only;omega,by simp only;omega⟩
   ·split
    ·exact⟨cE _ _ tA,by simp;omega,by simp only;omega,by simp only;omega⟩
    ·exact⟨⟨by simp only;omega,hg⟩,by simp only;omega,by simp only;omega,by simp only;omega⟩
theorem Fy {bs:List Int}(h:oJ bs)(p:Int)(h0:0≤p)(h1:p≤999900000):
  TC Tw.prog E 43 [yq] 1 [(0,oI bs p)] (.p [gR (bO (fi (pk bs) p).1),gR (MA (dA (pk bs) p).1.aP)]) [(0,oI bs (fi (pk bs) p).2)]:=by
 obtain⟨wa,wb,wc⟩:=ub (pk bs) p;have hW:=JV (E:=E) h p h0 (by omega)
 have h5:=wc.g5;have wJ:=oH.sys (wc.mono (by omega))
 unfold fi;generalize dA (pk bs) p=V at*;obtain⟨W,q⟩:=V;simp only at*
 have y1:=oK h (k:=q) (n:=5) (by omega) (by omega)
 have y2:=fh h (k:=q) (n:=5) (by omega) (by omega) (by omega)
 have e2:q+1+1=q+2:=by omega
 have hG:=dt (gs:=W.aU) (i:=(pk bs q 5).toNat) (by omega)
 have wm:IntKind.i64.wrap (pk bs q 5+1)=pk bs q 5+1:=aG (by omega) (by omega)
 have tO:=JW (E:=E) h (q+2) (by omega) (by omega)
 unfold AP;generalize aB W.aU (pk bs q 5).toNat=G at*;generalize jP (pk bs) (q+2)=GF at*;generalize lI:pk bs q 5=kx at*;refine tE Tryz.f43 Tryz.ntmps43 (by rw[Tryz.results43]) ?_ (hfit:=(Fits.of (by simp[gA,aj.live]) (by simp) (by simp)))
 by_cases c0:pk bs (q+1) 16=0
 ·rw[if_pos c0]
  (refine TW.go ?_;simp[wT,e2,lI,y1,c0];repeat' first|intro hc|refine U.mk ?_|refine aI ?_|refine aa ?_ ?_|(refine cR ?_;refine⟨_,_,hW,?_⟩;simp[wT,e2,lI,y1,c0])|(refine cF [] 1 ?_;refine⟨_,_,fO W.aU wJ,?_⟩;simp[wT,e2,lI,y1,c0])|(refine cR ?_;refine⟨_,_,br h _ _ (by omega) (by omega),?_⟩;simp[wT,e2,lI,y1,c0]))
  exact oW [] [3]
 ·rw[if_neg c0]
  by_cases c1:pk bs (q+1) 16=1
  ·rw[if_pos c1]
   (refine TW.go ?_;simp[wT,e2,lI,y1,c1,hG,af];repeat' first|intro hc|refine U.mk ?_|refine aI ?_|refine aa ?_ ?_|(refine cR ?_;refine⟨_,_,hW,?_⟩;simp[wT,e2,lI,y1,c1,hG,af])|(refine cF [] 1 ?_;refine⟨_,_,fO W.aU wJ,?_⟩;simp[wT,e2,lI,y1,c1,hG,af])|(refine cR ?_;refine⟨_,_,br h _ _ (by omega) (by omega),?_⟩;simp[wT,e2,lI,y1,c1,hG,af])|(refine cR ?_;refine⟨_,_,tO,?_⟩;simp[wT,e2,lI,y1,c1,hG,af]))
   refine aE.own [] [2] (by simp;rfl) (by simp[af]) (by simp) (by simp) (by simp[af]) (by simp)
  ·rw[if_neg c1]
   by_cases c2:pk bs (q+1) 16=2
   ·rw[if_pos c2]
    by_cases hP:G.done.length=0
    ·rw[if_pos hP]
     (refine TW.go ?_;simp[wT,e2,lI,y1,c2,hG,af,hP];repeat' first|intro hc|refine U.mk ?_|refine aI ?_|refine aa ?_ ?_|(refine cR ?_;refine⟨_,_,hW,?_⟩;simp[wT,e2,lI,y1,c2,hG,af,hP])|(refine cF [] 1 ?_;refine⟨_,_,fO W.aU wJ,?_⟩;simp[wT,e2,lI,y1,c2,hG,af,hP])|(refine cR ?_;refine⟨_,_,br h _ _ (by omega) (by omega),?_⟩;simp[wT,e2,lI,y1,c2,hG,af,hP]))
     exact oW [] [2]
    ·rw[if_neg hP]
     have vz:0<G.done.length:=by omega
     (refine TW.go ?_;simp[wT,e2,lI,y1,c2,hG,af,vz];repeat' first|intro hc|refine U.mk ?_|refine aI ?_|refine aa ?_ ?_|(refine cR ?_;refine⟨_,_,hW,?_⟩;simp[wT,e2,lI,y1,c2,hG,af,vz])|(refine cF [] 1 ?_;refine⟨_,_,fO W.aU wJ,?_⟩;simp[wT,e2,lI,y1,c2,hG,af,vz])|(refine cR ?_;refine⟨_,_,br h _ _ (by omega) (by omega),?_⟩;simp[wT,e2,lI,y1,c2,hG,af,vz]))
     refine aE.own [] [2] (by simp;rfl) (by simp[af,cd]) (by simp) (by simp) (by simp[af,cd]) (by simp)
   ·rw[if_neg c2]
    by_cases c3:pk bs (q+1) 16=3
    ·rw[if_pos c3]
     (refine TW.go ?_;simp[wT,e2,lI,y1,c3,hG,af,wm];repeat' first|intro hc|refine U.mk ?_|refine aI ?_|refine aa ?_ ?_|(refine cR ?_;refine⟨_,_,hW,?_⟩;simp[wT,e2,lI,y1,c3,hG,af,wm])|(refine cF [] 1 ?_;refine⟨_,_,fO W.aU wJ,?_⟩;simp[wT,e2,lI,y1,c3,hG,af,wm])|(refine cR ?_;refine⟨_,_,br h _ _ (by omega) (by omega),?_⟩;simp[wT,e2,lI,y1,c3,hG,af,wm]))
     refine aE.own [] [2] (by simp;rfl) (by simp[af]) (by simp) (by simp) (by simp[af]) (by simp)
    ·rw[if_neg c3]
     (refine TW.go ?_;simp[wT,e2,lI,y1,c0,c1,c2,c3];repeat' first|intro hc|refine U.mk ?_|refine aI ?_|refine aa ?_ ?_|(refine cR ?_;refine⟨_,_,hW,?_⟩;simp[wT,e2,lI,y1,c0,c1,c2,c3])|(refine cF [] 1 ?_;refine⟨_,_,fO W.aU wJ,?_⟩;simp[wT,e2,lI,y1,c0,c1,c2,c3])|(refine cR ?_;refine⟨_,_,br h _ _ (by omega) (by omega),?_⟩;simp[wT,e2,lI,y1,c0,c1,c2,c3]))
     exact oW [] [2]
end Go.Proofs.YtjklkppncmhehaaGreat.T
namespace Go.Proofs.YtjklkppncmhehaaGreat.T
open Go Go.RowKit
set_option maxRecDepth 100000
set_option maxHeartbeats 4000000
variable {E:List PanicEntry→World→Prop}
def jr (o:Int→Int→Int)(p:Int):Nat→List Int
 |0=>[]
 |n+1=>if 1<o (p+n) 5 then jr o p n++[(n:Int)]else jr o p n
def ld (o:Int→Int→Int)(p:Int):List Int×Int:=if jr o p 5=[]then([o (p+5) 5],p+6)else(jr o p 5,p+5)
def NI (o:Int→Int→Int)(s:List Int×Int):List Int×Int:=if o s.2 24=0 then(s.1++[o (s.2+1) 7-1],s.2+2)else if o s.2 24=1 then([],s.2+1)else(s.1,s.2+1)
def lS (o:Int→Int→Int)(p:Int):List Int×Int:=NI o (ld o p)
def JX (o:Int→Int→Int)(p:Int):Int×Int:=if o p 24=0 then(Qz [-1,11,12] (o (p+1) 3),p+2)else(o (p+1) 8,p+2)
theorem r_ (o:Int→Int→Int)(p:Int):∀n,(jr o p n).length≤n
 |0=>Nat.le_refl 0
 |n+1=>by
  have:=r_ o p n
  unfold jr;split
  ·simp;omega
  ·omega
theorem JY (o:Int→Int→Int)(p:Int):(lS o p).1.length≤6∧p+6≤(lS o p).2∧(lS o p).2≤p+8:=by
 have h:=r_ o p 5;have hs:(ld o p).1.length≤5∧p+5≤(ld o p).2∧(ld o p).2≤p+6:=by
  unfold ld;split
  ·exact⟨by simp,by simp only;omega,by simp only;omega⟩
  ·exact⟨h,by simp only;omega,by simp only;omega⟩
 unfold lS;generalize ld o p=s at*;unfold NI;repeat' split
 ·exact⟨by simp;omega,by simp only;omega,by simp only;omega⟩
 ·exact⟨by simp,by simp only;omega,by simp only;omega⟩
 ·exact⟨by simp only;omega,by simp only;omega,by simp only;omega⟩
theorem CZ {bs:List Int}(h:oJ bs)(p:Int)(h0:0≤p)(h1:p≤999990000):
  TC Tw.prog E 45 [yq] 1 [(0,oI bs p)] (gR (bg (lS (pk bs) p).1)) [(0,oI bs (lS (pk bs) p).2)]:=by
 refine tE Tryz.f45 Tryz.ntmps45 (by rw[Tryz.results45]) ?_ (hfit:=(Fits.of (by simp[gA,aj.live]) (by simp) (by simp)))
 (refine TW.go ?_;simp;repeat' first|intro hc|refine U.mk ?_|refine aI ?_|refine aa ?_ ?_)
 refine tL (fun(k:Nat)=>⟨[(0,yq),(3,.s (.own 1)),(4,gI .i64 (k:Nat))],[(0,oI bs (p+k)),(1,jf (jr (pk bs) p k))],2⟩) (fun k=>k≤5) (fun k=>5-k) 0 (by omega) (Wk.own [1] [] (by simp) (by simp) (by simp[jr]) (by simp) (by simp)) fun k hk=>?_
 by_cases ai:k<5
 ·have ar:(k:Int)<5:=by omega
  have aD:IntKind.i64.wrap ((k:Int)+1)=(k:Int)+1:=aG (by omega) (by omega)
  have Av:=r_ (pk bs) p k;have e1:p+(k:Int)+1=p+((k:Int)+1):=by omega
  by_cases hc:1<pk bs (p+k) 5
  ·have hs:jr (pk bs) p (k+1)=jr (pk bs) p k++[(k:Int)]:=by rw[jr,if_pos hc]
   (refine TW.go ?_;simp[ar,aD,hc,maxLen];repeat' first|intro hc|refine U.mk ?_|refine aI ?_|refine aa ?_ ?_|(refine cR ?_;refine⟨_,_,br h _ _ (by omega) (by omega),?_⟩;simp[ar,aD,hc,maxLen]))
   all_goals exact⟨k+1,by omega,by omega,Wk.own [3] [] (by simp) (by simp) (by simp[hs,e1]) (by simp) (by simp)⟩
  ·have hs:jr (pk bs) p (k+1)=jr (pk bs) p k:=by rw[jr,if_neg hc]
   (refine TW.go ?_;simp[ar,aD,hc,maxLen];repeat' first|intro hc|refine U.mk ?_|refine aI ?_|refine aa ?_ ?_|(refine cR ?_;refine⟨_,_,br h _ _ (by omega) (by omega),?_⟩;simp[ar,aD,hc,maxLen]))
   all_goals exact⟨k+1,by omega,by omega,Wk.own [1] [] (by simp) (by simp) (by simp[hs,e1]) (by simp) (by simp)⟩
 ·obtain rfl:k=5:=by omega
  have Av:=r_ (pk bs) p 5;have w7:IntKind.i64.wrap (pk bs ((ld (pk bs) p).2+1) 7-1)=pk bs ((ld (pk bs) p).2+1) 7-1:=by
   have hp:0≤(ld (pk bs) p).2+1∧(ld (pk bs) p).2+1≤p+7:=by
    unfold ld;split<;>(simp only;omega)
   have a:=oK h (k:=(ld (pk bs) p).2+1) (n:=7) (by omega) (by omega)
   have b:=fh h (k:=(ld (pk bs) p).2+1) (n:=7) (by omega) (by omega) (by omega)
   exact aG (by omega) (by omega)
  have e5:p+(5:Nat)=p+5:=rfl
  by_cases hL:jr (pk bs) p 5=[]
  ·have hS:ld (pk bs) p=([pk bs (p+5) 5],p+6):=by rw[ld,if_pos hL]
   have e6:p+5+1=p+6:=by omega
   have e7:p+6+1=p+7:=by omega
   have e8:p+6+1+1=p+6+2:=by omega
   rw[hS]at w7;simp only at w7
   have hF:lS (pk bs) p=if pk bs (p+6) 24=0 then([pk bs (p+5) 5]++[pk bs (p+6+1) 7-1],p+6+2)else if pk bs (p+6) 24=1 then([],p+6+1)else([pk bs (p+5) 5],p+6+1):=by rw[lS,hS,NI]
   rw[hF];by_cases c0:pk bs (p+6) 24=0
   ·rw[if_pos c0]
    (refine TW.go ?_;simp[hL,e6,c0,w7,maxLen];repeat' first|intro hc|refine U.mk ?_|refine aI ?_|refine aa ?_ ?_|(refine cR ?_;refine⟨_,_,br h _ _ (by omega) (by omega),?_⟩;simp[hL,e6,c0,w7,maxLen]))
    all_goals refine aE.own [] [4] (by simp;rfl) (by simp[e8]) (by simp) (by simp) (by simp[e8]) (by simp)
   ·rw[if_neg c0]
    by_cases c1:pk bs (p+6) 24=1
    ·rw[if_pos c1]
     (refine TW.go ?_;simp[hL,e6,c0,c1,maxLen];repeat' first|intro hc|refine U.mk ?_|refine aI ?_|refine aa ?_ ?_|(refine cR ?_;refine⟨_,_,br h _ _ (by omega) (by omega),?_⟩;simp[hL,e6,c0,c1,maxLen]))
     all_goals refine aE.own [] [3] (by simp;rfl) (by simp[]) (by simp) (by simp) (by simp[]) (by simp)
    ·rw[if_neg c1]
     (refine TW.go ?_;simp[hL,e6,c0,c1,maxLen];repeat' first|intro hc|refine U.mk ?_|refine aI ?_|refine aa ?_ ?_|(refine cR ?_;refine⟨_,_,br h _ _ (by omega) (by omega),?_⟩;simp[hL,e6,c0,c1,maxLen]))
     all_goals refine aE.own [] [2] (by simp;rfl) (by simp[]) (by simp) (by simp) (by simp[]) (by simp)
  ·have hS:ld (pk bs) p=(jr (pk bs) p 5,p+5):=by rw[ld,if_neg hL]
   have e6:p+5+1=p+6:=by omega
   have e8:p+6+1=p+5+2:=by omega
   rw[hS]at w7;simp only at w7
   have hF:lS (pk bs) p=if pk bs (p+5) 24=0 then(jr (pk bs) p 5++[pk bs (p+5+1) 7-1],p+5+2)else if pk bs (p+5) 24=1 then([],p+5+1)else(jr (pk bs) p 5,p+5+1):=by rw[lS,hS,NI]
   rw[hF];have QA:¬(jr (pk bs) p 5).length=0:=by simpa using hL
   generalize jr (pk bs) p 5=S at*;rw[e6]at w7;by_cases c0:pk bs (p+5) 24=0
   ·rw[if_pos c0]
    (refine TW.go ?_;simp[hL,QA,e6,c0,w7,maxLen];repeat' first|intro hc|refine U.mk ?_|refine aI ?_|refine aa ?_ ?_|(refine cR ?_;refine⟨_,_,br h _ _ (by omega) (by omega),?_⟩;simp[hL,QA,e6,c0,w7,maxLen]))
    all_goals refine aE.own [] [3] (by simp;rfl) (by simp[e6,e8]) (by simp) (by simp) (by simp[e6,e8]) (by simp)
   ·rw[if_neg c0]
    by_cases c1:pk bs (p+5) 24=1
    ·rw[if_pos c1]
     (refine TW.go ?_;simp[hL,QA,e6,c0,c1,maxLen];repeat' first|intro hc|refine U.mk ?_|refine aI ?_|refine aa ?_ ?_|(refine cR ?_;refine⟨_,_,br h _ _ (by omega) (by omega),?_⟩;simp[hL,QA,e6,c0,c1,maxLen]))
     all_goals refine aE.own [] [2] (by simp;rfl) (by simp[e6]) (by simp) (by simp) (by simp[e6]) (by simp)
    ·rw[if_neg c1]
     (refine TW.go ?_;simp[hL,QA,e6,c0,c1,maxLen];repeat' first|intro hc|refine U.mk ?_|refine aI ?_|refine aa ?_ ?_|(refine cR ?_;refine⟨_,_,br h _ _ (by omega) (by omega),?_⟩;simp[hL,QA,e6,c0,c1,maxLen]))
     all_goals refine aE.own [] [1] (by simp;rfl) (by simp[e6]) (by simp) (by simp) (by simp[e6]) (by simp)
theorem ti {bs:List Int}(h:oJ bs)(p:Int)(h0:0≤p)(h1:p≤999990000):
  TC Tw.prog E 46 [yq] 1 [(0,oI bs p)] (gI .i64 (JX (pk bs) p).1) [(0,oI bs (JX (pk bs) p).2)]:=by
 have e2:p+1+1=p+2:=by omega
 refine tE Tryz.f46 Tryz.ntmps46 (by rw[Tryz.results46]) ?_ (hfit:=(Fits.of (by simp[gA,aj.live]) (by simp) (by simp)))
 unfold JX;by_cases c0:pk bs p 24=0
 ·rw[if_pos c0]
  have y1:=oK h (k:=p+1) (n:=3) (by omega) (by omega)
  have y2:=fh h (k:=p+1) (n:=3) (by omega) (by omega) (by omega)
  have ht:=wV (xs:=[-1,11,12]) y1 (by simpa using y2)
  simp only[List.map_cons,List.map_nil]at ht;(refine TW.go ?_;simp[c0,ht,y1];repeat' first|intro hc|refine U.mk ?_|refine aI ?_|refine aa ?_ ?_|(refine cR ?_;refine⟨_,_,br h _ _ (by omega) (by omega),?_⟩;simp[c0,ht,y1]))
  refine aE.own [] [] (by simp;rfl) (by simp[e2]) (by simp) (by simp) (by simp[e2]) (by simp)
 ·rw[if_neg c0]
  (refine TW.go ?_;simp[c0];repeat' first|intro hc|refine U.mk ?_|refine aI ?_|refine aa ?_ ?_|(refine cR ?_;refine⟨_,_,br h _ _ (by omega) (by omega),?_⟩;simp[c0]))
  refine aE.own [] [] (by simp;rfl) (by simp[e2]) (by simp) (by simp) (by simp[e2]) (by simp)
end Go.Proofs.YtjklkppncmhehaaGreat.T
namespace Go.Proofs.YtjklkppncmhehaaGreat.T
open Go Go.RowKit
set_option maxRecDepth 100000
set_option maxHeartbeats 4000000
variable {E:List PanicEntry→World→Prop}
def Wf (o:Int→Int→Int)(aP:List (List Int))(p:Int):List Int×Int:=
 if 0<aP.length then if 0<o p 8 then(aP.getD (o (p+1) aP.length).toNat [],o (p+1) aP.length)
  else((lS o (p+1)).1,(JX o (lS o (p+1)).2).1)
 else((lS o p).1,(JX o (lS o p).2).1)
def C0 (o:Int→Int→Int):List Int×Int:=Wf o (dA o 0).1.aP (fi o 0).2
theorem sz (bs:List Int)(h:oJ (bs.take 2000)):TC Tw.prog E 13 [gR (eL bs)] 0 []
  (.p [gR (bO (fi (pk (bs.take 2000)) 0).1),gR (bg (C0 (pk (bs.take 2000))).1),gI .i64 (C0 (pk (bs.take 2000))).2]) []:=by
 have hO:=Qx (E:=E) bs;have hS:=Fy (E:=E) h 0 (by omega) (by omega)
 obtain⟨-, -,p1,p2⟩:=xQ (pk (bs.take 2000)) 0;obtain⟨-, -,wc⟩:=ub (pk (bs.take 2000)) 0;have Tx:=wc.Qm;have cE:=wc.set;unfold C0;generalize(dA (pk (bs.take 2000)) 0).1.aP=ss at*;generalize fi (pk (bs.take 2000)) 0=S at*;obtain⟨G,q⟩:=S;simp only at*
 generalize bs.take 2000=cs at*;refine tE Tryz.f13 Tryz.ntmps13 (by rw[Tryz.results13]) ?_
 unfold Wf;by_cases hl:0<ss.length
 ·rw[if_pos hl]
  have lG:(0:Int)<ss.length:=by omega
  by_cases hc:0<pk cs q 8
  ·rw[if_pos hc]
   have y1:=oK h (k:=q+1) (n:=ss.length) (by omega) (by omega)
   have y2:=fh h (k:=q+1) (n:=ss.length) (by omega) (by omega) (by omega)
   have he:ss[(pk cs (q+1) ss.length).toNat]?=some (ss.getD (pk cs (q+1) ss.length).toNat []):=by
    rw[List.getD_eq_getElem?_getD,List.getElem?_eq_getElem (by omega)];rfl
   have hle:=(cE _ (List.mem_of_getElem? he)).2.1;generalize ss.getD (pk cs (q+1) ss.length).toNat []=s at*;generalize hk:pk cs (q+1) ss.length=k at*;(refine TW.go ?_;simp[hl,lG,hc,hk,y1,he,maxLen];repeat' first|intro hc|refine U.mk ?_|refine aI ?_|refine aa ?_ ?_|(refine cF [] 1 ?_;refine⟨_,_,hO,?_⟩;simp[hl,lG,hc,hk,y1,he,maxLen])|(refine cR ?_;refine⟨_,_,hS,?_⟩;simp[hl,lG,hc,hk,y1,he,maxLen])|(refine cR ?_;refine⟨_,_,br h _ _ (by omega) (by omega),?_⟩;simp[hl,lG,hc,hk,y1,he,maxLen]))
   all_goals exact oW [] [2]
  ·rw[if_neg hc]
   have hf:=JY (pk cs) (q+1);have hF:=CZ (E:=E) h (q+1) (by omega) (by omega)
   have hM:=ti (E:=E) h (lS (pk cs) (q+1)).2 (by omega) (by omega)
   (refine TW.go ?_;simp[hl,lG,hc,maxLen];repeat' first|intro hc|refine U.mk ?_|refine aI ?_|refine aa ?_ ?_|(refine cF [] 1 ?_;refine⟨_,_,hO,?_⟩;simp[hl,lG,hc,maxLen])|(refine cR ?_;refine⟨_,_,hS,?_⟩;simp[hl,lG,hc,maxLen])|(refine cR ?_;refine⟨_,_,br h _ _ (by omega) (by omega),?_⟩;simp[hl,lG,hc,maxLen])|(refine cR ?_;refine⟨_,_,hF,?_⟩;simp[hl,lG,hc,maxLen])|(refine cR ?_;refine⟨_,_,hM,?_⟩;simp[hl,lG,hc,maxLen]))
   all_goals exact oW [] []
 ·rw[if_neg hl]
  have lG:¬(0:Int)<ss.length:=by omega
  have hf:=JY (pk cs) q;have hF:=CZ (E:=E) h q (by omega) (by omega)
  have hM:=ti (E:=E) h (lS (pk cs) q).2 (by omega) (by omega)
  (refine TW.go ?_;simp[hl,lG,maxLen];repeat' first|intro hc|refine U.mk ?_|refine aI ?_|refine aa ?_ ?_|(refine cF [] 1 ?_;refine⟨_,_,hO,?_⟩;simp[hl,lG,maxLen])|(refine cR ?_;refine⟨_,_,hS,?_⟩;simp[hl,lG,maxLen])|(refine cR ?_;refine⟨_,_,br h _ _ (by omega) (by omega),?_⟩;simp[hl,lG,maxLen])|(refine cR ?_;refine⟨_,_,hF,?_⟩;simp[hl,lG,maxLen])|(refine cR ?_;refine⟨_,_,hM,?_⟩;simp[hl,lG,maxLen]))
  all_goals exact oW [] []
def im (gs:List aq)(set:List Int)(m:Int):Bool:=du gs&&fy set&&bm m
theorem iS {xs:List Int}(h:fy xs=true):xs≠[]∧xs.length≤5∧cu xs:=by
 simp only[fy,Bool.and_eq_true,decide_eq_true_eq,cm,List.all_eq_true,List.mem_range,oA,bF,Bool.or_eq_true]at h;obtain⟨h1,h2⟩:=h;have hr:∀i,i<xs.length→0≤xs.getD i 0∧xs.getD i 0<5:=fun i hi=>by have:=(h1 i hi).1;omega
 have hi:∀i,i<xs.length→(i:Int)≤xs.getD i 0:=by
  intro i;induction i with
  |zero=>intro hi;exact(hr 0 hi).1
  |succ i ih=>
   intro hi;have a:=ih (by omega)
   have b:=(h1 (i+1) hi).2;simp only[Nat.add_sub_cancel]at b;omega
 refine⟨List.length_pos_iff.1 h2,?_,fun g hg=>?_⟩
 ·have a:=hi (xs.length-1) (by omega)
  have b:=(hr (xs.length-1) (by omega)).2
  omega
 ·obtain⟨i,eN,rfl⟩:=List.getElem_of_mem hg
  have:=hr i eN
  rwa[List.getD_eq_getElem?_getD,List.getElem?_eq_getElem eN]at this
theorem c_ {gs:List aq}(h:du gs=true):gs.length=5:=by
 simp only[du,Bool.and_eq_true,decide_eq_true_eq]at h;exact h.1.1
end Go.Proofs.YtjklkppncmhehaaGreat.T
namespace Go.Proofs.YtjklkppncmhehaaGreat
open Go Go.RowKit
def Yf (id clock:Int)(e:an):Bool:=bm e.m&&(aS e.t e.g&&(decide (e.t≤clock)&&(e.f||decide (e.g=id))))
def aV (a b:an):Bool:=aK a.t a.g b.t b.g
def JZ (id clock:Int):Option an→List an→Bool
 |_,[]=>true
 |p,e::es=>Yf id clock e&&((match p with|none=>true|some q=>aV q e)&&JZ id clock (some e) es)
def jX (id clock:Int)(es:List an):Bool:=JZ id clock none es
theorem wW {w w':World}{g:Nat}{t:TypeId}{cs:Array Value}(h:aj w g t cs)(hb:Below w.heap.size w w'):aj w' g t cs:=h.below hb h.lt
end Go.Proofs.YtjklkppncmhehaaGreat
namespace Go.Proofs.YtjklkppncmhehaaGreat
open Go Go.RowKit
end Go.Proofs.YtjklkppncmhehaaGreat
