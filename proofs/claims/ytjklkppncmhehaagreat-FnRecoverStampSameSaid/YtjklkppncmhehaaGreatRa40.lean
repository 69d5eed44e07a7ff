/-
What is proved: what the draws of a set, a message and a recovery, and the reference's recovery of a stamp, do to trees. No condition but the ranges that each states. what the draw of a recovery and the reference's recovery of a stamp do to trees. No condition but the ranges that each states. the program's check of a system answers as the reference's, or escapes; what laws.FnSystemFinal does to trees: it returns true, or escapes. No condition but the lengths that each states. what the program's recovery of a stamp does to trees: what the reference's does. No condition but the lengths that each states. the law of a recovered stamp, over trees: it answers true, or escapes. No condition but that the code is bytes. what the program's rounds do to trees: missing groups, the greatest stamp, the final stamp, a further stamp. No condition but the lengths that each states. lists of groups that ascend are told by what they hold; what is missing in a round, and its greatest stamp. Conditions: those that each states.
-/
import Derived.Test.YtjklkppncmhehaaGreatRa39
import Derived.Test.YtjklkppncmhehaaGreatRa38
import Derived.Test.YtjklkppncmhehaaGreatRa35
set_option linter.unusedVariables false
set_option linter.unusedSimpArgs false
namespace Go.Proofs.YtjklkppncmhehaaGreat.T
open Go Go.RowKit
set_option maxRecDepth 100000
set_option maxHeartbeats 4000000
variable {E:List PanicEntry→World→Prop}
def aa2 (o:Int→Int→Int)(p:Int):Nat→List Int
 |0=>[]
 |n+1=>if 1<o (p+n) 5 then aa2 o p n++[(n:Int)]else aa2 o p n
def jx (o:Int→Int→Int)(p:Int):List Int×Int:=if aa2 o p 5=[]then([o (p+5) 5],p+6)else(aa2 o p 5,p+5)
def PY (o:Int→Int→Int)(s:List Int×Int):List Int×Int:=if o s.2 24=0 then(s.1++[o (s.2+1) 7-1],s.2+2)else if o s.2 24=1 then([],s.2+1)else(s.1,s.2+1)
def mL (o:Int→Int→Int)(p:Int):List Int×Int:=PY o (jx o p)
def GG (o:Int→Int→Int)(p:Int):Int×Int:=if o p 24=0 then(ML [-1,11,12] (o (p+1) 3),p+2)else(o (p+1) 8,p+2)
theorem aa3 (o:Int→Int→Int)(p:Int):∀n,(aa2 o p n).length≤n
 |0=>Nat.le_refl 0
 |n+1=>by
  have:=aa3 o p n
  unfold aa2;split
  ·simp;omega
  ·omega
theorem GH (o:Int→Int→Int)(p:Int):(mL o p).1.length≤6∧p+6≤(mL o p).2∧(mL o p).2≤p+8:=by
 have h:=aa3 o p 5;have hs:(jx o p).1.length≤5∧p+5≤(jx o p).2∧(jx o p).2≤p+6:=by
  unfold jx;split
  ·exact⟨by simp,by simp only;omega,by simp only;omega⟩
  ·exact⟨h,by simp only;omega,by simp only;omega⟩
 unfold mL;generalize jx o p=s at*;unfold PY;repeat' split
 ·exact⟨by simp;omega,by simp only;omega,by simp only;omega⟩
 ·exact⟨by simp,by simp only;omega,by simp only;omega⟩
 ·exact⟨by simp only;omega,by simp only;omega,by simp only;omega⟩
theorem zB {bs:List Int}(h:mH bs)(p:Int)(h0:0≤p)(U:p≤999990000):
  TC Tw.prog E 45 [uS] 1 [(0,mG bs p)] (gR (bL (mL (pk bs) p).1)) [(0,mG bs (mL (pk bs) p).2)]:=by
 refine tE Tryz.f45 Tryz.ntmps45 (by rw[Tryz.results45]) ?_ (hfit:=(Fits.of (by simp[iT,ak.live]) (by simp) (by simp)))
 (refine TW.go ?_;simp;repeat' first|intro hc|refine aa.mk ?_|refine aI ?_|refine ah ?_ ?_)
 refine tL (fun(k:Nat)=>⟨[(0,uS),(3,.s (.own 1)),(4,gI .i64 (k:Nat))],[(0,mG bs (p+k)),(1,lf (aa2 (pk bs) p k))],2⟩) (fun k=>k≤5) (fun k=>5-k) 0 (by omega) (Wk.own [1] [] (by simp) (by simp) (by simp[aa2]) (by simp) (by simp)) fun k hk=>?_
 by_cases aj:k<5
 ·have aw:(k:Int)<5:=by omega
  have aF:IntKind.i64.wrap ((k:Int)+1)=(k:Int)+1:=aL (by omega) (by omega)
  have PE:=aa3 (pk bs) p k;have e1:p+(k:Int)+1=p+((k:Int)+1):=by omega
  by_cases hc:1<pk bs (p+k) 5
  ·have hs:aa2 (pk bs) p (k+1)=aa2 (pk bs) p k++[(k:Int)]:=by rw[aa2,if_pos hc]
   (refine TW.go ?_;simp[aw,aF,hc,maxLen];repeat' first|intro hc|refine aa.mk ?_|refine aI ?_|refine ah ?_ ?_|(refine cR ?_;refine⟨_,_,bd h _ _ (by omega) (by omega),?_⟩;simp[aw,aF,hc,maxLen]))
   all_goals exact⟨k+1,by omega,by omega,Wk.own [3] [] (by simp) (by simp) (by simp[hs,e1]) (by simp) (by simp)⟩
  ·have hs:aa2 (pk bs) p (k+1)=aa2 (pk bs) p k:=by rw[aa2,if_neg hc]
   (refine TW.go ?_;simp[aw,aF,hc,maxLen];repeat' first|intro hc|refine aa.mk ?_|refine aI ?_|refine ah ?_ ?_|(refine cR ?_;refine⟨_,_,bd h _ _ (by omega) (by omega),?_⟩;simp[aw,aF,hc,maxLen]))
   all_goals exact⟨k+1,by omega,by omega,Wk.own [1] [] (by simp) (by simp) (by simp[hs,e1]) (by simp) (by simp)⟩
 ·obtain rfl:k=5:=by omega
  have PE:=aa3 (pk bs) p 5;have w7:IntKind.i64.wrap (pk bs ((jx (pk bs) p).2+1) 7-1)=pk bs ((jx (pk bs) p).2+1) 7-1:=by
   have hp:0≤(jx (pk bs) p).2+1∧(jx (pk bs) p).2+1≤p+7:=by
    unfold jx;split<;>(simp only;omega)
   have a:=mI h (k:=(jx (pk bs) p).2+1) (n:=7) (by omega) (by omega)
   have b:=dO h (k:=(jx (pk bs) p).2+1) (n:=7) (by omega) (by omega) (by omega)
   exact aL (by omega) (by omega)
  have e5:p+(5:Nat)=p+5:=rfl
  by_cases hL:aa2 (pk bs) p 5=[]
  ·have hS:jx (pk bs) p=([pk bs (p+5) 5],p+6):=by rw[jx,if_pos hL]
   have e6:p+5+1=p+6:=by omega
   have e7:p+6+1=p+7:=by omega
   have e8:p+6+1+1=p+6+2:=by omega
   rw[hS]at w7;simp only at w7
   have hF:mL (pk bs) p=if pk bs (p+6) 24=0 then([pk bs (p+5) 5]++[pk bs (p+6+1) 7-1],p+6+2)else if pk bs (p+6) 24=1 then([],p+6+1)else([pk bs (p+5) 5],p+6+1):=by rw[mL,hS,PY]
   rw[hF];by_cases c0:pk bs (p+6) 24=0
   ·rw[if_pos c0]
    (refine TW.go ?_;simp[hL,e6,c0,w7,maxLen];repeat' first|intro hc|refine aa.mk ?_|refine aI ?_|refine ah ?_ ?_|(refine cR ?_;refine⟨_,_,bd h _ _ (by omega) (by omega),?_⟩;simp[hL,e6,c0,w7,maxLen]))
    all_goals refine ar.own [] [4] (by simp;rfl) (by simp[e8]) (by simp) (by simp) (by simp[e8]) (by simp)
   ·rw[if_neg c0]
    by_cases c1:pk bs (p+6) 24=1
    ·rw[if_pos c1]
     (refine TW.go ?_;simp[hL,e6,c0,c1,maxLen];repeat' first|intro hc|refine aa.mk ?_|refine aI ?_|refine ah ?_ ?_|(refine cR ?_;refine⟨_,_,bd h _ _ (by omega) (by omega),?_⟩;simp[hL,e6,c0,c1,maxLen]))
     all_goals refine ar.own [] [] (by simp;rfl) (by simp[]) (by simp) (by simp) (by simp[]) (by simp)
    ·rw[if_neg c1]
     (refine TW.go ?_;simp[hL,e6,c0,c1,maxLen];repeat' first|intro hc|refine aa.mk ?_|refine aI ?_|refine ah ?_ ?_|(refine cR ?_;refine⟨_,_,bd h _ _ (by omega) (by omega),?_⟩;simp[hL,e6,c0,c1,maxLen]))
     all_goals refine ar.own [] [2] (by simp;rfl) (by simp[]) (by simp) (by simp) (by simp[]) (by simp)
  ·have hS:jx (pk bs) p=(aa2 (pk bs) p 5,p+5):=by rw[jx,if_neg hL]
   have e6:p+5+1=p+6:=by omega
   have e8:p+6+1=p+5+2:=by omega
   rw[hS]at w7;simp only at w7
   have hF:mL (pk bs) p=if pk bs (p+5) 24=0 then(aa2 (pk bs) p 5++[pk bs (p+5+1) 7-1],p+5+2)else if pk bs (p+5) 24=1 then([],p+5+1)else(aa2 (pk bs) p 5,p+5+1):=by rw[mL,hS,PY]
   rw[hF];have MM:¬(aa2 (pk bs) p 5).length=0:=by simpa using hL
   generalize aa2 (pk bs) p 5=S at*;rw[e6]at w7;by_cases c0:pk bs (p+5) 24=0
   ·rw[if_pos c0]
    (refine TW.go ?_;simp[hL,MM,e6,c0,w7,maxLen];repeat' first|intro hc|refine aa.mk ?_|refine aI ?_|refine ah ?_ ?_|(refine cR ?_;refine⟨_,_,bd h _ _ (by omega) (by omega),?_⟩;simp[hL,MM,e6,c0,w7,maxLen]))
    all_goals refine ar.own [] [3] (by simp;rfl) (by simp[e6,e8]) (by simp) (by simp) (by simp[e6,e8]) (by simp)
   ·rw[if_neg c0]
    by_cases c1:pk bs (p+5) 24=1
    ·rw[if_pos c1]
     (refine TW.go ?_;simp[hL,MM,e6,c0,c1,maxLen];repeat' first|intro hc|refine aa.mk ?_|refine aI ?_|refine ah ?_ ?_|(refine cR ?_;refine⟨_,_,bd h _ _ (by omega) (by omega),?_⟩;simp[hL,MM,e6,c0,c1,maxLen]))
     all_goals refine ar.own [] [] (by simp;rfl) (by simp[e6]) (by simp) (by simp) (by simp[e6]) (by simp)
    ·rw[if_neg c1]
     (refine TW.go ?_;simp[hL,MM,e6,c0,c1,maxLen];repeat' first|intro hc|refine aa.mk ?_|refine aI ?_|refine ah ?_ ?_|(refine cR ?_;refine⟨_,_,bd h _ _ (by omega) (by omega),?_⟩;simp[hL,MM,e6,c0,c1,maxLen]))
     all_goals refine ar.own [] [1] (by simp;rfl) (by simp[e6]) (by simp) (by simp) (by simp[e6]) (by simp)
theorem qk {bs:List Int}(h:mH bs)(p:Int)(h0:0≤p)(U:p≤999990000):
  TC Tw.prog E 46 [uS] 1 [(0,mG bs p)] (gI .i64 (GG (pk bs) p).1) [(0,mG bs (GG (pk bs) p).2)]:=by
 have e2:p+1+1=p+2:=by omega
 refine tE Tryz.f46 Tryz.ntmps46 (by rw[Tryz.results46]) ?_ (hfit:=(Fits.of (by simp[iT,ak.live]) (by simp) (by simp)))
 unfold GG;by_cases c0:pk bs p 24=0
 ·rw[if_pos c0]
  have y1:=mI h (k:=p+1) (n:=3) (by omega) (by omega)
  have y2:=dO h (k:=p+1) (n:=3) (by omega) (by omega) (by omega)
  have ht:=tI (xs:=[-1,11,12]) y1 (by simpa using y2)
  simp only[List.map_cons,List.map_nil]at ht;(refine TW.go ?_;simp[c0,ht,y1];repeat' first|intro hc|refine aa.mk ?_|refine aI ?_|refine ah ?_ ?_|(refine cR ?_;refine⟨_,_,bd h _ _ (by omega) (by omega),?_⟩;simp[c0,ht,y1]))
  refine ar.own [] [] (by simp;rfl) (by simp[e2]) (by simp) (by simp) (by simp[e2]) (by simp)
 ·rw[if_neg c0]
  (refine TW.go ?_;simp[c0];repeat' first|intro hc|refine aa.mk ?_|refine aI ?_|refine ah ?_ ?_|(refine cR ?_;refine⟨_,_,bd h _ _ (by omega) (by omega),?_⟩;simp[c0]))
  refine ar.own [] [] (by simp;rfl) (by simp[e2]) (by simp) (by simp) (by simp[e2]) (by simp)
end Go.Proofs.YtjklkppncmhehaaGreat.T
namespace Go.Proofs.YtjklkppncmhehaaGreat.T
open Go Go.RowKit
set_option maxRecDepth 100000
set_option maxHeartbeats 4000000
variable {E:List PanicEntry→World→Prop}
def SC (o:Int→Int→Int)(aH:List (List Int))(p:Int):List Int×Int:=
 if 0<aH.length then if 0<o p 8 then(aH.getD (o (p+1) aH.length).toNat [],o (p+1) aH.length)
  else((mL o (p+1)).1,(GG o (mL o (p+1)).2).1)
 else((mL o p).1,(GG o (mL o p).2).1)
def J6 (o:Int→Int→Int):List Int×Int:=SC o (cO o 0).1.aH (eN o 0).2
theorem pM (bs:List Int)(h:mH (bs.take 2000)):TC Tw.prog E 13 [gR (pw bs)] 0 []
  (.p [gR (dD (eN (pk (bs.take 2000)) 0).1),gR (bL (J6 (pk (bs.take 2000))).1),gI .i64 (J6 (pk (bs.take 2000))).2]) []:=by
 have hO:=MJ (E:=E) bs;have hS:=Cd (E:=E) h 0 (by omega) (by omega)
 obtain⟨-, -,p1,p2⟩:=uB (pk (bs.take 2000)) 0;obtain⟨-, -,wc⟩:=qW (pk (bs.take 2000)) 0;have PO:=wc.Mz;have b_:=wc.set;unfold J6;generalize(cO (pk (bs.take 2000)) 0).1.aH=ss at*;generalize eN (pk (bs.take 2000)) 0=S at*;obtain⟨G,q⟩:=S;simp only at*
 generalize bs.take 2000=cs at*;refine tE Tryz.f13 Tryz.ntmps13 (by rw[Tryz.results13]) ?_
 unfold SC;by_cases hl:0<ss.length
 ·rw[if_pos hl]
  have jM:(0:Int)<ss.length:=by omega
  by_cases hc:0<pk cs q 8
  ·rw[if_pos hc]
   have y1:=mI h (k:=q+1) (n:=ss.length) (by omega) (by omega)
   have y2:=dO h (k:=q+1) (n:=ss.length) (by omega) (by omega) (by omega)
   have he:ss[(pk cs (q+1) ss.length).toNat]?=some (ss.getD (pk cs (q+1) ss.length).toNat []):=by
    rw[List.getD_eq_getElem?_getD,List.getElem?_eq_getElem (by omega)];rfl
   have hle:=(b_ _ (List.mem_of_getElem? he)).2.1;generalize ss.getD (pk cs (q+1) ss.length).toNat []=s at*;generalize hk:pk cs (q+1) ss.length=k at*;(refine TW.go ?_;simp[hl,jM,hc,hk,y1,he,maxLen];repeat' first|intro hc|refine aa.mk ?_|refine aI ?_|refine ah ?_ ?_|(refine cF [] 1 ?_;refine⟨_,_,hO,?_⟩;simp[hl,jM,hc,hk,y1,he,maxLen])|(refine cR ?_;refine⟨_,_,hS,?_⟩;simp[hl,jM,hc,hk,y1,he,maxLen])|(refine cR ?_;refine⟨_,_,bd h _ _ (by omega) (by omega),?_⟩;simp[hl,jM,hc,hk,y1,he,maxLen]))
   all_goals exact oW [] [2]
  ·rw[if_neg hc]
   have hf:=GH (pk cs) (q+1);have hF:=zB (E:=E) h (q+1) (by omega) (by omega)
   have hM:=qk (E:=E) h (mL (pk cs) (q+1)).2 (by omega) (by omega)
   (refine TW.go ?_;simp[hl,jM,hc,maxLen];repeat' first|intro hc|refine aa.mk ?_|refine aI ?_|refine ah ?_ ?_|(refine cF [] 1 ?_;refine⟨_,_,hO,?_⟩;simp[hl,jM,hc,maxLen])|(refine cR ?_;refine⟨_,_,hS,?_⟩;simp[hl,jM,hc,maxLen])|(refine cR ?_;refine⟨_,_,bd h _ _ (by omega) (by omega),?_⟩;simp[hl,jM,hc,maxLen])|(refine cR ?_;refine⟨_,_,hF,?_⟩;simp[hl,jM,hc,maxLen])|(refine cR ?_;refine⟨_,_,hM,?_⟩;simp[hl,jM,hc,maxLen]))
   all_goals exact oW [] []
 ·rw[if_neg hl]
  have jM:¬(0:Int)<ss.length:=by omega
  have hf:=GH (pk cs) q;have hF:=zB (E:=E) h q (by omega) (by omega)
  have hM:=qk (E:=E) h (mL (pk cs) q).2 (by omega) (by omega)
  (refine TW.go ?_;simp[hl,jM,maxLen];repeat' first|intro hc|refine aa.mk ?_|refine aI ?_|refine ah ?_ ?_|(refine cF [] 1 ?_;refine⟨_,_,hO,?_⟩;simp[hl,jM,maxLen])|(refine cR ?_;refine⟨_,_,hS,?_⟩;simp[hl,jM,maxLen])|(refine cR ?_;refine⟨_,_,bd h _ _ (by omega) (by omega),?_⟩;simp[hl,jM,maxLen])|(refine cR ?_;refine⟨_,_,hF,?_⟩;simp[hl,jM,maxLen])|(refine cR ?_;refine⟨_,_,hM,?_⟩;simp[hl,jM,maxLen]))
  all_goals exact oW [] []
def jP (gs:List az)(set:List Int)(m:Int):Bool:=cZ gs&&fD set&&bC m
def o5 (gs:List az)(set:List Int)(m:Int):(Int×Int)×Bool:=if jP gs set m=true then bD gs set m else((0,0),false)
theorem o8 {xs:List Int}(h:fD xs=true):xs≠[]∧xs.length≤5∧f_ xs:=by
 simp only[fD,Bool.and_eq_true,decide_eq_true_eq,bX,List.all_eq_true,List.mem_range,nP,bw,Bool.or_eq_true]at h;obtain⟨U,h2⟩:=h;have hr:∀i,i<xs.length→0≤xs.getD i 0∧xs.getD i 0<5:=fun i hi=>by have:=(U i hi).1;omega
 have hi:∀i,i<xs.length→(i:Int)≤xs.getD i 0:=by
  intro i;induction i with
  |zero=>intro hi;exact(hr 0 hi).1
  |succ i ih=>
   intro hi;have a:=ih (by omega)
   have b:=(U (i+1) hi).2;simp only[Nat.add_sub_cancel]at b;omega
 refine⟨List.length_pos_iff.1 h2,?_,fun g hg=>?_⟩
 ·have a:=hi (xs.length-1) (by omega)
  have b:=(hr (xs.length-1) (by omega)).2
  omega
 ·obtain⟨i,eE,rfl⟩:=List.getElem_of_mem hg
  have:=hr i eE
  rwa[List.getD_eq_getElem?_getD,List.getElem?_eq_getElem eE]at this
theorem i7 {gs:List az}(h:cZ gs=true):gs.length=5:=by
 simp only[cZ,Bool.and_eq_true,decide_eq_true_eq]at h;exact h.1.1
theorem pN (gs:List az)(set:List Int)(m:Int)(h:gw gs 4294967290):TC Tw.prog E 15 [gR (dD gs),gR (bL set),gI .i64 m] 0 [] (.p [km (o5 gs set m).1,gB (o5 gs set m).2]) []:=by
 have hS:=qT (E:=E) gs ⟨by have:=h.1;omega,fun g hg=>by have:=h.2 g hg;exact⟨by have:=this.1;omega,by have:=this.2;omega⟩⟩
 have hV:=gu (E:=E) set;have hM:=fZ (E:=E) m;refine tE Tryz.f15 Tryz.ntmps15 (by rw[Tryz.results15]) ?_
 unfold o5 jP
 cases a:cZ gs
 ·rw[a]at hS
  (refine TW.go ?_;simp;repeat' first|intro hc|refine aa.mk ?_|refine aI ?_|refine ah ?_ ?_|(refine cP ?_;(first|refine⟨_,hS,?_⟩|refine⟨_,hV,?_⟩|refine⟨_,hM,?_⟩);simp))
  exact oW [] []
 ·rw[a]at hS
  cases b:fD set
  ·rw[b]at hV
   (refine TW.go ?_;simp;repeat' first|intro hc|refine aa.mk ?_|refine aI ?_|refine ah ?_ ?_|(refine cP ?_;(first|refine⟨_,hS,?_⟩|refine⟨_,hV,?_⟩|refine⟨_,hM,?_⟩);simp))
   exact oW [] []
  ·rw[b]at hV
   obtain⟨b1,b2,b3⟩:=o8 b;have hT:=oY (E:=E) gs set m (i7 a) b3 b1 b2
   cases c:bC m
   ·rw[c]at hM
    (refine TW.go ?_;simp;repeat' first|intro hc|refine aa.mk ?_|refine aI ?_|refine ah ?_ ?_|(refine cP ?_;(first|refine⟨_,hS,?_⟩|refine⟨_,hV,?_⟩|refine⟨_,hM,?_⟩);simp))
    exact oW [] []
   ·rw[c]at hM
    (refine TW.go ?_;simp;repeat' first|intro hc|refine aa.mk ?_|refine aI ?_|refine ah ?_ ?_|(refine cP ?_;(first|refine⟨_,hS,?_⟩|refine⟨_,hV,?_⟩|refine⟨_,hM,?_⟩|refine⟨_,hT,?_⟩);simp))
    exact oW [] []
end Go.Proofs.YtjklkppncmhehaaGreat.T
namespace Go.Proofs.YtjklkppncmhehaaGreat.T
open Go Go.RowKit
set_option maxRecDepth 100000
set_option maxHeartbeats 4000000
variable {E:List PanicEntry→World→Prop}
theorem P4 {t g t' g':Int}(h:aU t g t' g'=true):(decide (t=t')&&decide (g=g'))=false:=by
 simp only[aU,decide_eq_true_eq]at h;simp only[Bool.and_eq_false_iff,decide_eq_false_iff_not];omega
theorem R0 {a b:az}(ha:bI a=true)(hb:bI b=true)(m:Int):GM a b m=jK a b m:=by
 unfold GM jK o_ cC;rw[ha,hb];simp only[Bool.true_and,if_true];have XB:(decide ((bG b m).t=(bG a m).t)&&decide ((bG b m).g=(bG a m).g))=(decide ((bG a m).t=(bG b m).t)&&decide ((bG a m).g=(bG b m).g)):=by
  rw[Bool.eq_iff_iff];simp only[Bool.and_eq_true,decide_eq_true_eq];exact⟨fun h=>⟨h.1.symm,h.2.symm⟩,fun h=>⟨h.1.symm,h.2.symm⟩⟩
 rw[XB]
 cases hl:aU (bG a m).t (bG a m).g (bG b m).t (bG b m).g
 ·cases(bG b m).f<;>simp
 ·rw[P4 hl]
  cases(bG b m).f<;>simp
theorem MS {gs:List az}(h5:gs.length=5)(h:bX gs.length (pJ gs)=true)(m:Nat):pa gs m=oO gs m:=by
 have hv:∀i,i<5→bI (aG gs i)=true:=fun i hi=>by
  rw[cu]at h;have:=h i (by omega)
  simp only[pJ,Bool.and_eq_true]at this;exact this.1
 rw[Bool.eq_iff_iff,pa,oO,h5,cu,cu];refine forall_congr' fun i=>forall_congr' fun hi=>?_;rw[GN,sB,h5,cu,cu];refine forall_congr' fun k=>forall_congr' fun hk=>?_;rw[R0 (hv i hi) (hv k hk)]
theorem xO (gs:List az)(h:gw gs 4294967290):TC Tw.prog lQ 90 [gR (dD gs)] 0 [] (gB (cZ gs)) []:=by
 have hlen:gs.length≤maxLen:=by have:=h.1;simp only[maxLen];omega
 refine tE Tryz.f90 Tryz.ntmps90 (by rw[Tryz.results90]) ?_
 by_cases h5:gs.length=5
 ·(refine TW.go ?_;simp[h5];repeat' first|intro hc|refine aa.mk ?_|refine aI ?_|refine ah ?_ ?_)
  refine tL (fun(k:Nat)=>⟨[(0,gR (dD gs)),(9,gR (dD gs)),(10,gI .i64 5),(11,gI .i64 (k:Nat))],[],0⟩) (fun k=>k≤5∧∀i,i<k→pJ gs i=true) (fun k=>5-k) 0 ⟨by omega,fun i hi=>by omega⟩ (kS) fun k hk=>?_
  obtain⟨hk,hf⟩:=hk;by_cases aj:k<5
  ·have he:=fU (gs:=gs) (i:=k) (by omega)
   have hV:=qn (E:=lQ) (aG gs k) (h.2 _ (List.mem_of_getElem? he));rw[xL]at hV;have aw:(k:Int)<5:=by omega
   have aF:IntKind.i64.wrap ((k:Int)+1)=(k:Int)+1:=aL (by omega) (by omega)
   have b_:pJ gs k=(bI (aG gs k)&&decide ((aG gs k).id=k)):=rfl
   have hq:cZ gs=false∨pJ gs k=true:=by
    cases h:pJ gs k
    ·exact .inl (by simp[cZ,bY (show k<gs.length by omega) h])
    ·exact .inr rfl
   generalize aG gs k=G at he hV b_
   cases hv:bI G
   ·rw[hv]at hV b_
    (refine TW.go ?_;simp[aw,he,ai,aF];repeat' first|intro hc|refine aa.mk ?_|refine aI ?_|refine ah ?_ ?_|(refine cP ?_;refine⟨_,hV,?_⟩;simp[aw,he,ai,aF]))
    refine ar.nil (r:=gB (cZ gs)) ?_ rfl;rcases hq with hq|hq
    ·simp[hq]
    ·rw[b_]at hq;cases hq
   ·rw[hv]at hV b_
    by_cases hid:G.id=k
    ·have XC:=hV
     simp only[ai,hid,List.map_cons,List.map_nil]at XC;(refine TW.go ?_;simp[aw,he,ai,aF,hid];repeat' first|intro hc|refine aa.mk ?_|refine aI ?_|refine ah ?_ ?_|(refine cP ?_;refine⟨_,XC,?_⟩;simp[aw,he,ai,aF,hid]))
     refine⟨k+1,⟨by omega,fun i hi=>?_⟩,by omega,kS⟩
     by_cases e:i=k
     ·subst e;rw[b_];simpa using hid
     ·exact hf i (by omega)
    ·(refine TW.go ?_;simp[aw,he,ai,aF,hid];repeat' first|intro hc|refine aa.mk ?_|refine aI ?_|refine ah ?_ ?_|(refine cP ?_;refine⟨_,hV,?_⟩;simp[aw,he,ai,aF,hid]))
     refine ar.nil (r:=gB (cZ gs)) ?_ rfl;rcases hq with hq|hq
     ·simp[hq]
     ·rw[b_]at hq;simp[hid]at hq
  ·obtain rfl:k=5:=by omega
   have db:bX gs.length (pJ gs)=true:=bH (by rw[h5];exact hf)
   have hcm:=MS h5 db;clear hf hk aj;(refine TW.go ?_;simp;repeat' first|intro hc|refine aa.mk ?_|refine aI ?_|refine ah ?_ ?_)
   refine tL (fun(m:Nat)=>⟨[(0,gR (dD gs)),(26,gI .i64 (m:Nat))],[],0⟩) (fun m=>m≤12∧∀i,i<m→oO gs i=true) (fun m=>12-m) 0 ⟨by omega,fun i hi=>by omega⟩ (kS) fun m hm=>?_
   obtain⟨hm,hf⟩:=hm;by_cases aj:m<12
   ·have P5:=yM gs (m:Int) h h5
    rw[hcm]at P5;have aw:(m:Int)<12:=by omega
    have aF:IntKind.i64.wrap ((m:Int)+1)=(m:Int)+1:=aL (by omega) (by omega)
    cases tF:oO gs m
    ·rw[tF]at P5
     rw[show cZ gs=false by rw[cZ,bY aj tF,Bool.and_false]]
     (refine TW.go ?_;simp[aw,aF];repeat' first|intro hc|refine aa.mk ?_|refine aI ?_|refine ah ?_ ?_|(refine cP ?_;refine⟨_,P5,?_⟩;simp[aw,aF]))
     exact oW [] []
    ·rw[tF]at P5
     (refine TW.go ?_;simp[aw,aF];repeat' first|intro hc|refine aa.mk ?_|refine aI ?_|refine ah ?_ ?_|(refine cP ?_;refine⟨_,P5,?_⟩;simp[aw,aF]))
     refine⟨m+1,⟨by omega,fun i hi=>?_⟩,by omega,kS⟩
     by_cases e:i=m
     ·subst e;exact tF
     ·exact hf i (by omega)
   ·obtain rfl:m=12:=by omega
    rw[show cZ gs=true by rw[cZ,db,bH hf];simp[h5]]
    (refine TW.go ?_;simp;repeat' first|intro hc|refine aa.mk ?_|refine aI ?_|refine ah ?_ ?_)
    exact oW [] []
 ·rw[show cZ gs=false by simp[cZ,h5]]
  have UJ:¬((gs.length:Int)=5):=by omega
  (refine TW.go ?_;simp[UJ];repeat' first|intro hc|refine aa.mk ?_|refine aI ?_|refine ah ?_ ?_)
  exact oW [] []
end Go.Proofs.YtjklkppncmhehaaGreat.T
namespace Go.Proofs.YtjklkppncmhehaaGreat.T
open Go Go.RowKit
set_option maxRecDepth 100000
set_option maxHeartbeats 4000000
variable {E:List PanicEntry→World→Prop}
def mM (gs:List az)(m:Int):List Int→Int×Int→Bool→(Int×Int)⊕((Int×Int)×Bool)
 |[],b,a=> .inr (b,a)
 |g::set,b,a=>if o_ (aG gs g.toNat) m=true then if(cC (aG gs g.toNat) m).f=true then .inl ((cC (aG gs g.toNat) m).t,(cC (aG gs g.toNat) m).g)
   else mM gs m set (if aU b.1 b.2 (cC (aG gs g.toNat) m).t (cC (aG gs g.toNat) m).g=true then((cC (aG gs g.toNat) m).t,(cC (aG gs g.toNat) m).g)else b) a
  else mM gs m set b false
def GP (gs:List az)(set:List Int)(m:Int):(Int×Int)×Bool:=match mM gs m set (0,0) true with
 | .inl s=>(s,true)
 | .inr x=>if x.2=true then(x.1,true)else((0,0),false)
theorem Jn {gs:List az}{m:Int}{set:List Int}{k:Nat}{g:Int}(h:set[k]?=some g)(b:Int×Int)(a:Bool):mM gs m (set.drop k) b a=if o_ (aG gs g.toNat) m=true then if(cC (aG gs g.toNat) m).f=true then .inl ((cC (aG gs g.toNat) m).t,(cC (aG gs g.toNat) m).g)
   else mM gs m (set.drop (k+1)) (if aU b.1 b.2 (cC (aG gs g.toNat) m).t (cC (aG gs g.toNat) m).g=true then((cC (aG gs g.toNat) m).t,(cC (aG gs g.toNat) m).g)else b) a
  else mM gs m (set.drop (k+1)) b false:=by
 obtain⟨hk,he⟩:=List.getElem?_eq_some_iff.1 h;rw[List.drop_eq_getElem_cons hk,mM,he]
theorem yN (gs:List az)(set:List Int)(m:Int)(h:gw gs 4294967290)(h5:gs.length=5)(hn:set≠[])(hl:set.length≤5)(hr:f_ set):
  TC Tw.prog lQ 48 [gR (dD gs),gR (bL set),gI .i64 m] 0 [] (.p [km (GP gs set m).1,gB (GP gs set m).2]) []:=by
 have hE:=sK gs set m h h5 hn hl hr;have xN:(i9 gs m set).length=set.length:=by simp
 have dC:∀(k:Nat) g,set[k]?=some g→(i9 gs m set)[k]?=some (fK (aG gs g.toNat) m):=fun k g hg=>by simp[List.getElem?_map,hg]
 generalize i9 gs m set=A at*;refine tE Tryz.f48 Tryz.ntmps48 (by rw[Tryz.results48]) ?_
 (refine TW.go ?_;simp[xN];repeat' first|intro hc|refine aa.mk ?_|refine aI ?_|refine ah ?_ ?_|(refine cF [] 1 ?_;refine⟨_,_,hE,?_⟩;simp[xN]))
 refine tL (fun(p:Nat×(Int×Int)×Bool)=>⟨[(6,.s (.ptr 0 0)),(8,.s (.ptr 1 0)),(9,gB p.2.2),(16,gR (.sl 5 A)),(17,gI .i64 set.length),(18,gI .i64 (p.1:Nat))],[(0,.box [.r (rI 0),.r (rI 0)]),(1,.box [.r (rI p.2.1.1),.r (rI p.2.1.2)])],2⟩)
  (fun p=>p.1≤set.length∧mM gs m (set.drop p.1) p.2.1 p.2.2=mM gs m set (0,0) true) (fun p=>set.length-p.1) (0,(0,0),true) ⟨by simp,rfl⟩
  (kO [0,1] [2]) fun p hp=>?_
 obtain⟨k,b,a⟩:=p;obtain⟨hk,bj⟩:=hp;simp only at hk bj⊢
 unfold GP;by_cases aj:k<set.length
 ·have he:set[k]?=some set[k]:=List.getElem?_eq_getElem aj
  have hA:=dC k _ he;have aw:(k:Int)<(set.length:Int):=by omega
  have aF:IntKind.i64.wrap ((k:Int)+1)=(k:Int)+1:=aL (by omega) (by omega)
  rw[Jn he]at bj;generalize aG gs (set[k]).toNat=G at*
  cases hv:o_ G m
  ·rw[hv,if_neg (by simp)]at bj
   (refine TW.go ?_;simp[aw,hA,fK,hv,aF];repeat' first|intro hc|refine aa.mk ?_|refine aI ?_|refine ah ?_ ?_)
   exact⟨(k+1,b,false),⟨by simp only;omega,bj⟩,by simp only;omega,kO [0,1] []⟩
  ·rw[hv,if_pos rfl]at bj
   cases hf:(cC G m).f
   ·rw[hf,if_neg (by simp)]at bj
    cases hc:aU b.1 b.2 (cC G m).t (cC G m).g
    ·rw[hc,if_neg (by simp)]at bj
     (refine TW.go ?_;simp[aw,hA,fK,hv,hf,hc,aF];repeat' first|intro hc|refine aa.mk ?_|refine aI ?_|refine ah ?_ ?_|(refine cP ?_;refine⟨_,lP _ _ _ _,?_⟩;simp[aw,hA,fK,hv,hf,hc,aF]))
     exact⟨(k+1,b,a),⟨by simp only;omega,bj⟩,by simp only;omega,kO [0,1] []⟩
    ·rw[hc,if_pos rfl]at bj
     (refine TW.go ?_;simp[aw,hA,fK,hv,hf,hc,aF];repeat' first|intro hc|refine aa.mk ?_|refine aI ?_|refine ah ?_ ?_|(refine cP ?_;refine⟨_,lP _ _ _ _,?_⟩;simp[aw,hA,fK,hv,hf,hc,aF]))
     exact⟨(k+1,_,a),⟨by simp only;omega,bj⟩,by simp only;omega,kO [0,1] []⟩
   ·rw[hf,if_pos rfl]at bj
    rw[←bj];(refine TW.go ?_;simp[aw,hA,fK,hv,hf,aF];repeat' first|intro hc|refine aa.mk ?_|refine aI ?_|refine ah ?_ ?_)
    exact oW [] []
 ·obtain rfl:k=set.length:=by omega
  rw[List.drop_length,mM]at bj;rw[←bj]
  cases a
  ·(refine TW.go ?_;simp;repeat' first|intro hc|refine aa.mk ?_|refine aI ?_|refine ah ?_ ?_)
   exact oW [] []
  ·(refine TW.go ?_;simp;repeat' first|intro hc|refine aa.mk ?_|refine aI ?_|refine ah ?_ ?_)
   exact oW [] []
theorem xQ (gs:List az)(set:List Int)(m:Int)(h:gw gs 4294967290):TC Tw.prog lQ 47 [gR (dD gs),gR (bL set),gI .i64 m] 0 [] (gB (jP gs set m)) []:=by
 have hS:=xO gs h;have hV:=xP (E:=lQ) set;have hM:=nF (E:=lQ) m;refine tE Tryz.f47 Tryz.ntmps47 (by rw[Tryz.results47]) ?_
 unfold jP
 cases a:cZ gs
 ·rw[a]at hS
  (refine TW.go ?_;simp;repeat' first|intro hc|refine aa.mk ?_|refine aI ?_|refine ah ?_ ?_|(refine cP ?_;(first|refine⟨_,hS,?_⟩|refine⟨_,hV,?_⟩|refine⟨_,hM,?_⟩);simp))
  exact oW [] []
 ·rw[a]at hS
  cases b:fD set
  ·rw[b]at hV
   (refine TW.go ?_;simp;repeat' first|intro hc|refine aa.mk ?_|refine aI ?_|refine ah ?_ ?_|(refine cP ?_;(first|refine⟨_,hS,?_⟩|refine⟨_,hV,?_⟩|refine⟨_,hM,?_⟩);simp))
   exact oW [] []
  ·rw[b]at hV
   (refine TW.go ?_;simp;repeat' first|intro hc|refine aa.mk ?_|refine aI ?_|refine ah ?_ ?_|(refine cP ?_;(first|refine⟨_,hS,?_⟩|refine⟨_,hV,?_⟩|refine⟨_,hM,?_⟩);simp))
   exact oW [] []
theorem sL {id clock:Int}{es:List aK}{e:aK}(h:iY id clock es=true)(he:e∈es):bb e.t e.g=true:=by
 obtain⟨i,hi,rfl⟩:=List.getElem_of_mem he;rw[iY,cu]at h;have:=h i hi
 rw[kY,List.getElem?_eq_getElem hi]at this;simp only[Bool.and_eq_true]at this;exact this.1.1.1.1.2
theorem q_ {g:az}{m:Int}(hg:bI g=true)(h:gT g m=true):bb (bG g m).t (bG g m).g=true:=by
 simp only[bI,Bool.and_eq_true]at hg;obtain⟨e,he⟩:=Option.isSome_iff_exists.1 h;rw[bG,he,Option.getD_some];unfold fa at he;split at he
 ·rename_i U;cases he;exact sL hg.1.1.1.2 (List.mem_of_find?_eq_some U)
 ·exact sL hg.1.1.2 (List.mem_of_find?_eq_some he)
theorem Jo (a:Int×Int)(xs:List (Int×Int))(y:Int×Int):fH a (xs++[y])=if aU (fH a xs).1 (fH a xs).2 y.1 y.2=true then y else fH a xs:=by
 induction xs generalizing a with
 |nil=>rfl
 |cons x xs ih=>exact ih _
theorem Cj {gs:List az}{m:Int}(hv:∀g∈gs,bI g=true)(h5:gs.length=5):∀(set:List Int) (acc:List (Int×Int)) (b:Int×Int) (a:Bool) (n:Nat),f_ set→b=mD acc→acc.length≤n→a=decide (acc.length=n)→
  (match mM gs m set b a with| .inl s=>(s,true)| .inr x=>if x.2=true then(x.1,true)else((0,0),false))=(match gA gs m set acc with| .inl s=>(s,true)| .inr l=>if l.length<n+set.length then((0,0),false)else(mD l,true))
 |[],acc,b,a,n,_,hb,hn,ha=>by
  subst hb;subst ha;simp only[mM,gA,List.length_nil,Nat.add_zero,decide_eq_true_eq];by_cases h:acc.length=n
  ·rw[if_pos h,if_neg (by omega)]
  ·rw[if_neg h,if_pos (by omega)]
 |g::set,acc,b,a,n,hr,hb,hn,ha=>by
  obtain⟨g0,g1⟩:=hr g (List.mem_cons_self ..);have hG:=hv _ (oV (gs:=gs) (i:=g.toNat) (by omega))
  have dE:f_ set:=fun x hx=>hr x (List.mem_cons_of_mem _ hx)
  rw[mM,gA];simp only[o_,cC,hG,Bool.true_and,if_true]
  cases hs:gT (aG gs g.toNat) m
  ·simp only[Bool.false_and,Bool.false_eq_true,if_false]
   rw[Cj hv h5 set acc b false (n+1) dE hb (by omega) (by simp;omega)]
   simp only[List.length_cons,show n+(set.length+1)=n+1+set.length by omega]
  ·have fL:=q_ hG hs
   simp only[Bool.true_and,if_true]
   cases hf:(bG (aG gs g.toNat) m).f
   ·simp only[Bool.false_eq_true,if_false]
    generalize(bG (aG gs g.toNat) m).t=t at*;generalize(bG (aG gs g.toNat) m).g=s at*;have hm:(if aU b.1 b.2 t s=true then(t,s)else b)=mD (acc++[(t,s)]):=by
     subst hb;rcases acc with _|⟨x,xs⟩
     ·simp only[bb,Bool.and_eq_true,decide_eq_true_eq]at fL
      rw[if_pos (by show aU 0 0 t s=true;simp only[aU,decide_eq_true_eq];omega)]
      rfl
     ·exact(Jo x xs (t,s)).symm
    rw[Cj hv h5 set (acc++[(t,s)]) _ a (n+1) dE hm (by simp;omega) (by rw[ha];simp)]
    simp only[List.length_cons,show n+(set.length+1)=n+1+set.length by omega]
   ·simp
theorem P8 {gs:List az}{set:List Int}{m:Int}(h:jP gs set m=true):GP gs set m=bD gs set m:=by
 simp only[jP,Bool.and_eq_true]at h;obtain⟨⟨U,h2⟩, -⟩:=h;have h5:=i7 U;obtain⟨-, -,hr⟩:=o8 h2;have hv:∀g∈gs,bI g=true:=fun g hg=>by
  simp only[cZ,Bool.and_eq_true,cu]at U;obtain⟨i,hi,rfl⟩:=List.getElem_of_mem hg;have:=U.1.2 i hi
  simp only[pJ,Bool.and_eq_true]at this;have e:aG gs i=gs[i]:=by rw[aG,List.getD_eq_getElem?_getD,List.getElem?_eq_getElem hi];rfl
  rw[←e];exact this.1
 have:=Cj (m:=m) hv h5 set [] (0,0) true 0 hr rfl (by simp) rfl
 simp only[Nat.zero_add]at this;exact this
theorem uV (gs:List az)(set:List Int)(m:Int)(h:gw gs 4294967290):TC Tw.prog lQ 14 [gR (dD gs),gR (bL set),gI .i64 m] 0 [] (.p [km (o5 gs set m).1,gB (o5 gs set m).2]) []:=by
 have hR:=xQ gs set m h;refine tE Tryz.f14 Tryz.ntmps14 (by rw[Tryz.results14]) ?_
 unfold o5
 cases a:jP gs set m
 ·rw[a]at hR
  (refine TW.go ?_;simp;repeat' first|intro hc|refine aa.mk ?_|refine aI ?_|refine ah ?_ ?_|(refine cP ?_;refine⟨_,hR,?_⟩;simp))
  exact oW [] []
 ·rw[a]at hR
  have a':=a;simp only[jP,Bool.and_eq_true]at a';obtain⟨⟨a1,a2⟩, -⟩:=a';obtain⟨b1,b2,b3⟩:=o8 a2;have hF:=yN gs set m h (i7 a1) b1 b2 b3;rw[P8 a]at hF;(refine TW.go ?_;simp;repeat' first|intro hc|refine aa.mk ?_|refine aI ?_|refine ah ?_ ?_|(refine cP ?_;(first|refine⟨_,hR,?_⟩|refine⟨_,hF,?_⟩);simp))
  exact oW [] []
end Go.Proofs.YtjklkppncmhehaaGreat.T
namespace Go.Proofs.YtjklkppncmhehaaGreat.T
open Go Go.RowKit
set_option maxRecDepth 100000
set_option maxHeartbeats 4000000
theorem ko (t s:Int):aU t s t s=false:=by simp[aU]
theorem GQ {a b:Int×Int}(U:aU a.1 a.2 b.1 b.2=true):aU b.1 b.2 a.1 a.2=false:=by
 simp only[aU,decide_eq_false_iff_not,decide_eq_true_eq]at*;omega
theorem xU {gs:List az}(h:cZ gs=true){i:Nat}(hi:i<5):bI (aG gs i)=true:=by
 have h5:=i7 h;simp only[cZ,Bool.and_eq_true,cu,h5]at h;have:=h.1.2 i hi
 simp only[pJ,Bool.and_eq_true]at this;exact this.1
end Go.Proofs.YtjklkppncmhehaaGreat.T
namespace Go.Proofs.YtjklkppncmhehaaGreat.T
open Go Go.RowKit
set_option maxRecDepth 100000
set_option maxHeartbeats 4000000
variable {E:List PanicEntry→World→Prop}
abbrev abt (r:fb):List TV:=[.r (bL r.gs),.r (PB r.bm)]
theorem abf (r:fb)(g:Int):TC Tw.prog E 63 [.a (abt r),gI .i64 g] 0 [] (gB (oR r g)) []:=by
 refine tE Tryz.f63 Tryz.ntmps63 (by rw[Tryz.results63]) ?_
 refine TW.go ?_;simp
 refine⟨TW.len 8 rfl fun hlen=>?_⟩
 simp only[List.length_map]at hlen;refine UE.get ?_;refine tL (fun(k:Nat)=>⟨[(1,gI .i64 g),(8,gR (PB r.bm)),(9,gI .i64 r.bm.length),(10,gI .i64 (k:Nat))],[],0⟩) (fun k=>k≤r.bm.length∧∀i y,i<k→r.bm[i]?=some y→¬y.2=g) (fun k=>r.bm.length-k) 0 ⟨by omega,fun i y hi=>by omega⟩ (kS) fun k hk=>?_
 obtain⟨hk,hf⟩:=hk;by_cases aj:k<r.bm.length
 ·have he:r.bm[k]?=some r.bm[k]:=List.getElem?_eq_getElem aj
  have aw:(k:Int)<(r.bm.length:Int):=by omega
  have aF:=wrap_add aj hlen;have p_:=List.getElem_mem aj;generalize r.bm[k]=x at*;by_cases hx:x.2=g
  ·rw[show oR r g=true by simp only[oR,List.any_eq_true,decide_eq_true_eq];exact⟨x,p_,hx⟩]
   (refine TW.go ?_;simp[he,aw,hx,iC];repeat' first|intro hc|refine aa.mk ?_|refine aI ?_|refine ah ?_ ?_)
   exact oW [] []
  ·(refine TW.go ?_;simp[he,aw,aF,hx,iC];repeat' first|intro hc|refine aa.mk ?_|refine aI ?_|refine ah ?_ ?_)
   refine⟨k+1,⟨by omega,fun i y hi hy=>?_⟩,by omega,kS⟩
   by_cases e:i=k
   ·subst e;rw[he]at hy;cases hy;exact hx
   ·exact hf i y (by omega) hy
 ·obtain rfl:k=r.bm.length:=by omega
  rw[show oR r g=false by
   simp only[oR,List.any_eq_false,decide_eq_true_eq];intro y hy;obtain⟨i,hi,rfl⟩:=List.getElem_of_mem hy;exact hf i _ hi (List.getElem?_eq_getElem hi)]
  (refine TW.go ?_;simp;repeat' first|intro hc|refine aa.mk ?_|refine aI ?_|refine ah ?_ ?_)
  exact oW [] []
theorem abB (r:fb)(g:Int):TC Tw.prog E 117 [gI .i64 g,.s (.ptr 0 0)] 1 [(0,.box (abt r))] (gB (oN r.gs g&& !oR r g)) [(0,.box (abt r))]:=by
 refine tE Tryz.f117 Tryz.ntmps117 (by rw[Tryz.results117]) ?_ (hfit:=(Fits.of (by simp[iT,List.range_succ]) (by simp) (by simp)))
 have hA:=abd (E:=E) r.gs g;have hB:=abf (E:=E) r g
 cases U:oN r.gs g
 ·rw[U]at hA
  (refine TW.go ?_;simp;repeat' first|intro hc|refine aa.mk ?_|refine aI ?_|refine ah ?_ ?_|(refine cP ?_;refine⟨_,hA,?_⟩;simp))
  exact oW [] []
 ·rw[U]at hA
  (refine TW.go ?_;simp;repeat' first|intro hc|refine aa.mk ?_|refine aI ?_|refine ah ?_ ?_|(refine cP ?_;(first|refine⟨_,hA,?_⟩|refine⟨_,hB,?_⟩);simp))
  exact oW [] []
def aa5 (r:fb)(k:Nat):List Int:=(upto k).filter fun g=>oN r.gs g&& !oR r g
theorem abG (r:fb)(k:Nat):aa5 r (k+1)=aa5 r k++if(oN r.gs k&& !oR r k)=true then[(k:Int)]else[]:=by
 rw[aa5,Jl,List.filter_append,aa5];congr 1
 cases h:oN r.gs k&& !oR r k<;>simp[h]
theorem abL (r:fb)(k:Nat):(aa5 r k).length≤k:=Nat.le_trans (List.length_filter_le _ _) (by rw[MR];exact Nat.le_refl _)
theorem abj (r:fb):TC Tw.prog E 116 [.eI (.func 117) [] [.s (.ptr 0 0)]] 1 [(0,.box (abt r))] (gR (bL (aa5 r 5))) [(0,.box (abt r))]:=by
 refine tE Tryz.f116 Tryz.ntmps116 (by rw[Tryz.results116]) ?_ (hfit:=(Fits.of (by simp[iT,List.range_succ]) (by simp) (by simp)))
 (refine TW.go ?_;simp;repeat' first|intro hc|refine aa.mk ?_|refine aI ?_|refine ah ?_ ?_)
 refine tL (fun(k:Nat)=>⟨[(0,.eI (.func 117) [] [.s (.ptr 0 0)]),(3,.s (.own 1)),(6,gI .i64 (k:Nat))],[(0,.box (abt r)),(1,lf (aa5 r k))],2⟩) (fun k=>k≤5) (fun k=>5-k) 0 (by omega)
  (Wk.own [1] [] (by simp) (by simp) (by simp[aa5,upto]) (by simp) (by simp)) fun k hk=>?_
 by_cases aj:k<5
 ·have aw:(k:Int)<5:=by omega
  have aF:IntKind.i64.wrap ((k:Int)+1)=(k:Int)+1:=aL (by omega) (by omega)
  have hl:=abL r k;have hs:=abG r k;have hcm:=abB (E:=E) r k;generalize aa5 r k=out at*
  cases hb:oN r.gs k&& !oR r k
  ·rw[hb]at hcm hs
   (refine TW.go ?_;simp[aw,aF,maxLen];repeat' first|intro hc|refine aa.mk ?_|refine aI ?_|refine ah ?_ ?_|(refine cL [0] 0 ?_;refine⟨_,_,_,_,hcm,?_⟩;simp[aw,aF,maxLen]))
   exact⟨k+1,by omega,by omega,Wk.own [1] [] (by simp) (by simp) (by simp[hs]) (by simp) (by simp)⟩
  ·rw[hb]at hcm hs
   (refine TW.go ?_;simp[aw,aF,maxLen];repeat' first|intro hc|refine aa.mk ?_|refine aI ?_|refine ah ?_ ?_|(refine cL [0] 0 ?_;refine⟨_,_,_,_,hcm,?_⟩;simp[aw,aF,maxLen]))
   exact⟨k+1,by omega,by omega,Wk.own [3] [] (by simp) (by simp) (by simp[hs]) (by simp) (by simp)⟩
 ·obtain rfl:k=5:=by omega
  (refine TW.go ?_;simp;repeat' first|intro hc|refine aa.mk ?_|refine aI ?_|refine ah ?_ ?_)
  exact oW [] [1]
theorem abk (r:fb)(h:qU r 4294967296)(hv:oQ r=true):TC Tw.prog E 64 [.a ((aX r).map .r)] 0 [] (gR (bL (aa5 r 5))) []:=by
 have hV:=aa_ (E:=E) r h;have hO:=abR (E:=E) r;have hP:=abj (E:=E) r;rw[hv]at hV;generalize aa5 r 5=out at*;refine tE Tryz.f64 Tryz.ntmps64 (by rw[Tryz.results64]) ?_
 (refine TW.go ?_;simp[aX];repeat' first|intro hc|refine aa.mk ?_|refine aI ?_|refine ah ?_ ?_|(refine cP ?_;(first|refine⟨_,hV,?_⟩|refine⟨_,hO,?_⟩);simp[aX])|(refine cL [1] 0 ?_;refine⟨_,_,_,_,hP,?_⟩;simp[aX]))
 exact oW [] []
def abH (xs:List (Int×Int)):Bool:=xs.all fun s=>bb s.1 s.2
theorem abC (x:Int×Int)(xs:List (Int×Int))(h12:xs.length<12)(fL:abH (x::xs)=true):TC Tw.prog E 65 [gR (PB (x::xs))] 0 [] (.p [km (fH x xs),gB true]) []:=by
 have hl1:¬(xs.length:Int)+1<1:=by omega
 have hl2:¬12<(xs.length:Int)+1:=by omega
 have hM:fH x xs=fH x ((x::xs).drop 0):=by simp[fH,ko]
 have h0:∀hh,(x::xs)[0]'hh=x:=fun _=>rfl
 have hn:(x::xs).length=xs.length+1:=rfl
 rw[hM];generalize x::xs=ys at*;refine tE Tryz.f65 Tryz.ntmps65 (by rw[Tryz.results65]) ?_
 (refine TW.go ?_;simp[hn,hl1,hl2,h0,iC];repeat' first|intro hc|refine aa.mk ?_|refine aI ?_|refine ah ?_ ?_)
 refine tL (fun(p:Nat×(Int×Int))=>⟨[(2,.s (.ptr 0 0)),(4,.s (.ptr 1 0)),(20,gR (PB ys)),(21,gI .i64 ys.length),(22,gI .i64 (p.1:Nat))],[(0,.box [.r (rI 0),.r (rI 0)]),(1,.box [.r (rI p.2.1),.r (rI p.2.2)])],2⟩)
  (fun p=>p.1≤ys.length∧fH p.2 (ys.drop p.1)=fH x (ys.drop 0)) (fun p=>ys.length-p.1) (0,x) ⟨by simp,rfl⟩ (Wk.own [0,1] [] (by simp) (by simp[hn]) (by simp[h0]) (by simp) (by simp)) fun p hp=>?_
 obtain⟨k,b⟩:=p;obtain⟨hk,bj⟩:=hp;simp only at hk bj⊢
 by_cases aj:k<ys.length
 ·have he:ys[k]?=some ys[k]:=List.getElem?_eq_getElem aj
  have aw:(k:Int)<(ys.length:Int):=by omega
  have aF:IntKind.i64.wrap ((k:Int)+1)=(k:Int)+1:=aL (by omega) (by omega)
  have hy:bb ys[k].1 ys[k].2=true:=by
   simp only[abH,List.all_eq_true]at fL;exact fL _ (List.getElem_mem aj)
  rw[I8 he]at bj;generalize ys[k]=y at*;have hV:=ji (E:=E) y.1 y.2;rw[hy]at hV;by_cases hc:aU b.1 b.2 y.1 y.2=true
  ·rw[if_pos hc]at bj
   have eR:=GQ hc;have hL:=lP (E:=E) y.1 y.2 b.1 b.2;rw[eR]at hL;(refine TW.go ?_;simp[he,aw,aF,iC];repeat' first|intro hc|refine aa.mk ?_|refine aI ?_|refine ah ?_ ?_|(refine cP ?_;(first|refine⟨_,hV,?_⟩|refine⟨_,hL,?_⟩);simp[he,aw,aF,iC]))
   exact⟨(k+1,y),⟨by simp only;omega,bj⟩,by simp only;omega,kO [0,1] []⟩
  ·rw[if_neg hc]at bj
   have hL:=lP (E:=E) y.1 y.2 b.1 b.2
   cases hd:aU y.1 y.2 b.1 b.2
   ·have hyb:y=b:=by
     simp only[aU,decide_eq_false_iff_not,decide_eq_true_eq]at hc hd;exact Prod.ext (by omega) (by omega)
    subst hyb;rw[hd]at hL;(refine TW.go ?_;simp[he,aw,aF,iC];repeat' first|intro hc|refine aa.mk ?_|refine aI ?_|refine ah ?_ ?_|(refine cP ?_;(first|refine⟨_,hV,?_⟩|refine⟨_,hL,?_⟩);simp[he,aw,aF,iC]))
    exact⟨(k+1,y),⟨by simp only;omega,bj⟩,by simp only;omega,kO [0,1] []⟩
   ·rw[hd]at hL
    (refine TW.go ?_;simp[he,aw,aF,iC];repeat' first|intro hc|refine aa.mk ?_|refine aI ?_|refine ah ?_ ?_|(refine cP ?_;(first|refine⟨_,hV,?_⟩|refine⟨_,hL,?_⟩);simp[he,aw,aF,iC]))
    exact⟨(k+1,b),⟨by simp only;omega,bj⟩,by simp only;omega,kO [0,1] []⟩
 ·obtain rfl:k=ys.length:=by omega
  rw[List.drop_length,fH]at bj;rw[←bj];(refine TW.go ?_;simp;repeat' first|intro hc|refine aa.mk ?_|refine aI ?_|refine ah ?_ ?_)
  exact oW [] []
end Go.Proofs.YtjklkppncmhehaaGreat.T
namespace Go.Proofs.YtjklkppncmhehaaGreat.T
open Go Go.RowKit
set_option maxRecDepth 100000
set_option maxHeartbeats 4000000
variable {E:List PanicEntry→World→Prop}
theorem abu {xs:List Int}(h:∀i,i+1<xs.length→xs.getD i 0<xs.getD (i+1) 0):xs.Pairwise (·<·):=by
 rw[List.pairwise_iff_getElem];intro i j hi hj vr;have key:∀d,∀hd:i+d+1<xs.length,xs[i]<xs[i+d+1]:=by
  intro d;induction d with
  |zero=>
   intro hd;have:=h i hd
   simpa[List.getD_eq_getElem?_getD,List.getElem?_eq_getElem hi,List.getElem?_eq_getElem hd]using this
  |succ d ih=>
   intro hd;have a:=ih (by omega)
   have:=h (i+d+1) hd
   have e2:xs.getD (i+d+1+1) 0=xs[i+(d+1)+1]:=by
    rw[List.getD_eq_getElem?_getD];exact congrArg (Option.getD · 0) (List.getElem?_eq_getElem hd)
   rw[e2,List.getD_eq_getElem?_getD,List.getElem?_eq_getElem (show i+d+1<xs.length by omega)]at this
   exact Int.lt_trans a this
 obtain⟨d,rfl⟩:∃d,j=i+d+1:=⟨j-i-1,by omega⟩
 exact key d hj
theorem abv:∀{xs ys:List Int},xs.Pairwise (·<·)→ys.Pairwise (·<·)→(∀a,a∈xs↔a∈ys)→xs=ys
 |[],[],_,_,_=>rfl
 |[],y::ys,_,_,h=>by have:=(h y).2 (List.mem_cons_self ..);cases this
 |x::xs,[],_,_,h=>by have:=(h x).1 (List.mem_cons_self ..);cases this
 |x::xs,y::ys,U,h2,h=>by
  rw[List.pairwise_cons]at U h2;have kv:x=y:=by
   rcases List.mem_cons.1 ((h x).1 (List.mem_cons_self ..))with e|e
   ·exact e
   ·rcases List.mem_cons.1 ((h y).2 (List.mem_cons_self ..))with e'|e'
    ·exact e'.symm
    ·have:=h2.1 x e;have:=U.1 y e';omega
  subst kv;rw[abv U.2 h2.2 fun a=>?_]
  have hx:x∉xs:=fun hx=>by have:=U.1 x hx;omega
  have hy:x∉ys:=fun hy=>by have:=h2.1 x hy;omega
  have:=h a
  simp only[List.mem_cons]at this;constructor
  ·intro ha
   rcases this.1 (.inr ha)with rfl|h
   ·exact absurd ha hx
   ·exact h
  ·intro ha
   rcases this.2 (.inr ha)with rfl|h
   ·exact absurd ha hy
   ·exact h
theorem abI:(upto 5).Pairwise (·<·):=by decide
theorem abw {k:Nat}{x:Int}:x∈upto k↔0≤x∧x<k:=by
 simp only[upto,List.mem_map,List.mem_range];constructor
 ·rintro⟨i,hi,rfl⟩;omega
 ·intro h;exact⟨x.toNat,by omega,by omega⟩
theorem aa7 {xs:List Int}{g:Int}:oN xs g=true↔g∈xs:=by
 simp only[oN,List.any_eq_true,decide_eq_true_eq];constructor
 ·rintro⟨x,h,rfl⟩;exact h
 ·intro h;exact⟨g,h,rfl⟩
theorem abD {xs:List Int}(h:xs.Pairwise (·<·))(hr:f_ xs):xs=(upto 5).filter (fun g=>oN xs g):=
 abv h (abI.filter _) fun a=>by
  rw[List.mem_filter,abw,aa7];exact⟨fun h=>⟨hr a h,h⟩,fun h=>h.2⟩
theorem abc {xs:List Int}(h:fD xs=true):xs.Pairwise (·<·):=by
 simp only[fD,Bool.and_eq_true,cu,nP,Bool.or_eq_true,decide_eq_true_eq]at h;refine abu fun i hi=>?_;have:=(h.1 (i+1) hi).2
 simp only[Nat.add_sub_cancel]at this;omega
theorem abz {r:fb}(h:oQ r=true):fD r.gs=true∧bC r.m=true∧(∀s∈r.bm,bb s.1 s.2=true∧s.2∈r.gs)∧r.bm.Pairwise (fun a b=>a.2<b.2):=by
 simp only[oQ,Bool.and_eq_true,cu]at h;obtain⟨⟨U,h2⟩,h3⟩:=h;have hp:(r.bm.map (·.2)).Pairwise (·<·):=by
  refine abu fun i hi=>?_;rw[List.length_map]at hi;have:=U (i+1) hi
  rw[sC,List.getElem?_eq_getElem hi]at this;simp only[Nat.add_sub_cancel,List.getElem?_eq_getElem (show i<r.bm.length by omega)]at this
  simp only[Bool.and_eq_true,Bool.or_eq_true,decide_eq_true_eq]at this;simp only[List.getD_eq_getElem?_getD,List.getElem?_map,List.getElem?_eq_getElem hi,List.getElem?_eq_getElem (show i<r.bm.length by omega),Option.map_some,Option.getD_some]
  omega
 refine⟨h3,h2,fun s hs=>?_,List.pairwise_map.1 hp⟩
 obtain⟨i,hi,rfl⟩:=List.getElem_of_mem hs;have:=U i hi
 rw[sC,List.getElem?_eq_getElem hi]at this;simp only[Bool.and_eq_true]at this;exact⟨this.1.1,aa7.1 this.1.2⟩
theorem abx {r:fb}{g:Int}:oR r g=true↔g∈r.bm.map (·.2):=by
 simp only[oR,List.any_eq_true,decide_eq_true_eq,List.mem_map]
theorem abS {r:fb}(h:oQ r=true):(aa5 r 5=[]↔r.gs.length≤r.bm.length)∧r.bm.length≤r.gs.length:=by
 obtain⟨U,h2,h3,h4⟩:=abz h;obtain⟨-, -,hr⟩:=o8 U;have hg:=abD (abc U) hr;have hG:(r.bm.map (·.2)).Pairwise (·<·):=List.pairwise_map.2 h4
 have hn:∀{xs:List Int},xs.Pairwise (·<·)→xs.Nodup:=fun h=>h.imp fun h e=>by omega
 have abY:r.bm.map (·.2)⊆r.gs:=fun x hx=>by
  obtain⟨s,hs,rfl⟩:=List.mem_map.1 hx;exact(h3 s hs).2
 have hle:=(hn hG).length_le_of_subset abY;rw[List.length_map]at hle;refine⟨⟨fun hm=>?_,fun hl=>?_⟩,hle⟩
 ·have:=(hn (abc U)).length_le_of_subset (l₂:=r.bm.map (·.2)) fun x hx=>by
   rw[←abx];simp only[aa5,List.filter_eq_nil_iff,Bool.and_eq_true,Bool.not_eq_true',not_and,Bool.not_eq_false]at hm;exact hm x (abw.2 (hr x hx)) (aa7.2 hx)
  rwa[List.length_map]at this
 ·simp only[aa5,List.filter_eq_nil_iff,Bool.and_eq_true,Bool.not_eq_true',not_and,Bool.not_eq_false]
  intro g _ hg;rw[abx];apply Classical.byContradiction
  intro OV;have:=(List.nodup_cons.2 ⟨OV,hn hG⟩).length_le_of_subset (l₂:=r.gs) (by
   intro x hx;rcases List.mem_cons.1 hx with rfl|hx
   ·exact aa7.1 hg
   ·exact abY hx)
  simp only[List.length_cons,List.length_map]at this;omega
theorem abq (r:fb)(h:qU r 4294967296)(hv:oQ r=true):TC Tw.prog E 21 [.a ((aX r).map .r)] 0 [] (.p [km (jL r).1,gB (jL r).2]) []:=by
 have hV:=aa_ (E:=E) r h;have hM:=abk (E:=E) r h hv;obtain⟨hi,hle⟩:=abS hv;obtain⟨U, -,h3, -⟩:=abz hv;obtain⟨cG,hl5, -⟩:=o8 U;rw[hv]at hV;refine tE Tryz.f21 Tryz.ntmps21 (by rw[Tryz.results21]) ?_
 unfold jL;by_cases hm:aa5 r 5=[]
 ·have vR:=hi.1 hm
  rw[if_neg (by omega)]
  rw[hm]at hM;have hx:∃x xs,r.bm=x::xs:=by
   rcases hg:r.bm with _|⟨x,xs⟩
   ·rw[hg]at vR
    exact absurd (List.length_eq_zero_iff.1 (by simpa using vR)) cG
   ·exact⟨x,xs,rfl⟩
  obtain⟨x,xs,hx⟩:=hx;have hS:=abC (E:=E) x xs (by rw[hx]at hle;simp at hle;omega) (by
   simp only[abH,List.all_eq_true];intro s hs;rw[←hx]at hs;exact(h3 s hs).1)
  rw[hx];simp only[aX,hx]at hV hM;(refine TW.go ?_;simp[aX,hx];repeat' first|intro hc|refine aa.mk ?_|refine aI ?_|refine ah ?_ ?_|(refine cP ?_;(first|refine⟨_,hV,?_⟩|refine⟨_,hM,?_⟩|refine⟨_,hS,?_⟩);simp[aX,hx]))
  refine ar.own [] [] (by simp;rfl) (by simp[mD]) (by simp) (by simp) (by simp[mD]) (by simp)
 ·have dp:0<(aa5 r 5).length:=List.length_pos_iff.2 hm
  have aj:r.bm.length<r.gs.length:=by
   apply Classical.byContradiction
   intro hn;exact hm (hi.2 (by omega))
  rw[if_pos aj];generalize aa5 r 5=out at*;(refine TW.go ?_;simp[aX,dp];repeat' first|intro hc|refine aa.mk ?_|refine aI ?_|refine ah ?_ ?_|(refine cP ?_;(first|refine⟨_,hV,?_⟩|refine⟨_,hM,?_⟩);simp[aX,dp]))
  exact oW [] []
end Go.Proofs.YtjklkppncmhehaaGreat.T
