/-
What is proved: what the draws of an event and of a world do to trees. No condition but the ranges that each states.
-/
import Derived.Test.YtjklkppncmhehaaGreatRx40
set_option linter.unusedVariables false
set_option linter.unusedSimpArgs false
namespace Go.Proofs.YtjklkppncmhehaaGreat.T
open Go Go.RowKit
set_option maxRecDepth 100000
set_option maxHeartbeats 4000000
variable {E:List PanicEntry→World→Prop}
def mx (n:Nat):Int:=if(n:Int)<1 then 1 else n
theorem TG (n:Nat):1≤mx n:=by unfold mx;split<;>omega
def rZ (o:Int→Int→Int)(p:Int)(n s:Nat):Int×Int×Int:=
 if o (p+1) 20=0∨o (p+1) 20=1 then(1,1+o (p+2) 31,p+3)
 else if o (p+1) 20=2 then(3,o p (mx n),p+2)
 else if o (p+1) 20=3 then(4,o p (mx n),p+2)
 else if o (p+1) 20=4 then(5,o (p+2) (mx s),p+3)
 else if o (p+1) 20=5∨o (p+1) 20=6 then(6,o (p+2) (mx s),p+3)
 else if o (p+1) 20=7 then if o (p+2) 3=0 then(7,o (p+3) (mx s),p+4)else(2,o p (mx n),p+3)
 else if o (p+2) 2=0 then(2,0,p+3)else(2,o p (mx n),p+3)
def yE (o:Int→Int→Int)(e:Int×Int×Int):Int×Int×Int:=
 if o e.2.2 40=0 then(o (e.2.2+1) 10-1,e.2.1,e.2.2+2)else if o e.2.2 40=1 then(e.1,o (e.2.2+1) 36-2,e.2.2+2)else(e.1,e.2.1,e.2.2+1)
def dz (o:Int→Int→Int)(p:Int)(w:aL):Int×Int×Int:=yE o (rZ o p w.cb.length w.aP.length)
theorem tf (o:Int→Int→Int)(p:Int)(w:aL):p+3≤(dz o p w).2.2∧(dz o p w).2.2≤p+6:=by
 have h:p+2≤(rZ o p w.cb.length w.aP.length).2.2∧(rZ o p w.cb.length w.aP.length).2.2≤p+4:=by
  unfold rZ;repeat' split
  all_goals(simp only;omega)
 unfold dz yE;repeat' split
 all_goals(simp only;omega)
set_option maxHeartbeats 8000000 in
theorem JU {bs:List Int}(h:oJ bs)(p:Int)(w:aL)(h0:0≤p)(h1:p≤999999980)(hn:w.cb.length≤16)(hs:w.aP.length≤12):
  TC Tw.prog E 152 [yq,gW w] 1 [(0,oI bs p)] (gE (dz (pk bs) p w).1 (dz (pk bs) p w).2.1) [(0,oI bs (dz (pk bs) p w).2.2)]:=by
 have q1:=oK h (k:=p+2) (n:=31) (by omega) (by omega)
 have yc:=fh h (k:=p+2) (n:=31) (by omega) (by omega) (by omega)
 have w1:IntKind.i64.wrap (1+pk bs (p+2) 31)=1+pk bs (p+2) 31:=aG (by omega) (by omega)
 have wA:∀k,0≤k→k≤1000000000→IntKind.i64.wrap (pk bs k 10-1)=pk bs k 10-1:=fun k a b=>by
  have:=oK h (k:=k) (n:=10) a b
  have:=fh h (k:=k) (n:=10) a b (by omega)
  exact aG (by omega) (by omega)
 have wB:∀k,0≤k→k≤1000000000→IntKind.i64.wrap (pk bs k 36-2)=pk bs k 36-2:=fun k a b=>by
  have:=oK h (k:=k) (n:=36) a b
  have:=fh h (k:=k) (n:=36) a b (by omega)
  exact aG (by omega) (by omega)
 have a3:=wA (p+3) (by omega) (by omega)
 have a4:=wA (p+4) (by omega) (by omega)
 have a5:=wA (p+5) (by omega) (by omega)
 have b3:=wB (p+3) (by omega) (by omega)
 have b4:=wB (p+4) (by omega) (by omega)
 have b5:=wB (p+5) (by omega) (by omega)
 clear wA wB q1 yc;have e2:p+1+1=p+2:=by omega
 have e3:p+2+1=p+3:=by omega
 have e4:p+3+1=p+4:=by omega
 have e5:p+4+1=p+5:=by omega
 have e6:p+5+1=p+6:=by omega
 have m1:(if(w.cb.length:Int)<1 then(1:Int)else w.cb.length)=mx w.cb.length:=rfl
 have m2:(if(w.aP.length:Int)<1 then(1:Int)else w.aP.length)=mx w.aP.length:=rfl
 have Ye:=TG w.cb.length;have BY:=TG w.aP.length;refine tE Tryz.f152 Tryz.ntmps152 (by rw[Tryz.results152]) ?_ (hfit:=(Fits.of (by simp[gA,aj.live]) (by simp) (by simp[wT])))
 (refine TW.go ?_;simp[wT,w1,m1,m2,e2,e3,e4,e5,e6,a3,a4,a5,b3,b4,b5];repeat' first|intro hc|refine U.mk ?_|refine aI ?_|refine aa ?_ ?_|(refine cR ?_;refine⟨_,_,br h _ _ (by omega) (by omega),?_⟩;simp[wT,w1,m1,m2,e2,e3,e4,e5,e6,a3,a4,a5,b3,b4,b5]))
 all_goals
  clear Ye BY hn hs h0 h1 h w1 a3 a4 a5 b3 b4 b5 m1 m2;try simp only[decide_eq_true_eq,decide_eq_false_iff_not]at*
  have f2:p+2+2=p+4:=by omega
  have f3:p+3+2=p+5:=by omega
  have f4:p+4+2=p+6:=by omega
  first
   |(exfalso;omega)
   |(refine aE.own [] [] (by simp;rfl) (by simp[dz,yE,rZ, *]) (by simp) (by simp) (by simp[dz,yE,rZ, *]) (by simp))
end Go.Proofs.YtjklkppncmhehaaGreat.T
