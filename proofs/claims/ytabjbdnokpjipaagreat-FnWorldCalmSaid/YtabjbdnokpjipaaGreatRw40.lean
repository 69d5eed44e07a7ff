/-
What is proved: what the reader of a code does to trees: it opens, and it picks a and what rests on it. Conditions: as stated.
-/
import Derived.Test.YtabjbdnokpjipaaGreatRw35
import Derived.Test.YtabjbdnokpjipaaGreatRw39
import Derived.Test.YtabjbdnokpjipaaGreatRw36
import Derived.BigQuiet
import Derived.Deep.RegionLaw
set_option linter.unusedVariables false
set_option linter.unusedSimpArgs false
namespace Go.Proofs.YtabjbdnokpjipaaGreat.T
open Go Go.RowKit
set_option maxRecDepth 100000
set_option maxHeartbeats 4000000
variable {E:List PanicEntry→World→Prop}
abbrev j5 (bs:List Int):RT:= .sl 1 (bs.map fun b=>[.v (.int .u8 b)])
abbrev rdC (bs:List Int) (p:Int):List TV:=[.r (j5 bs),.r (rI p)]
abbrev QX (bs:List Int) (p:Int):az:= .box (rdC bs p)
abbrev Zg:GV:= .s (.ptr 0 0)
structure AG (bs:List Int):Prop where
 byte:∀b∈bs,0≤b∧b≤255
 len:bs.length≤2000
def j_ (bs:List Int)(k:Int):Int:=bs.getD k.toNat 0
def vX (bs:List Int)(k:Int):Int:=j_ bs (k.tmod bs.length)*131+j_ bs ((k*7+3).tmod bs.length)*1117+k*29+k.tdiv bs.length*53
def R' (x:Int):Int:=IntKind.i64.wrap (BitVec.ofInt 64 x^^^BitVec.ofInt 64 (x.tdiv 64)).toNat
def pk (bs:List Int)(k n:Int):Int:=if n<1 then 0 else if bs=[]then 0 else if k<bs.length then(j_ bs k).tmod n else(R' (vX bs k)).tmod n
theorem kC {bs:List Int}(h:AG bs)(k:Int):0≤j_ bs k∧j_ bs k≤255:=by
 unfold j_;rw[List.getD_eq_getElem?_getD]
 cases hb:bs[k.toNat]? with
 |none=>exact⟨by simp,by simp⟩
 |some b=>exact h.byte b (List.mem_of_getElem? hb)
theorem sg {bs:List Int}{k:Int}(h1:k.toNat<bs.length):bs[k.toNat]?=some (j_ bs k):=by
 unfold j_;rw[List.getD_eq_getElem?_getD,List.getElem?_eq_getElem h1];rfl
theorem yz {x:Int}(h0:0≤x)(h1:x≤1000000000000000):0≤R' x:=by
 unfold R';have h2:x.tdiv 64=x / 64:=Int.tdiv_eq_ediv_of_nonneg h0
 obtain⟨a,rfl⟩:=Int.eq_ofNat_of_zero_le h0;rw[h2,show((a:Nat):Int)/ 64=((a / 64:Nat):Int) by omega]
 have ha:∀n:Nat,n<2^62→(BitVec.ofInt 64 (n:Int)).toNat=n:=fun n hn=>by
  rw[BitVec.ofInt_natCast,BitVec.toNat_ofNat];exact Nat.mod_eq_of_lt (by omega)
 rw[BitVec.toNat_xor,ha a (by omega),ha (a / 64) (by omega)]
 have hx:a^^^(a / 64)<2^62:=Nat.xor_lt_two_pow (by omega) (by omega)
 rw[aQ (by omega) (by omega)]
 omega
theorem DF {bs:List Int}(h:AG bs){k:Int}(h0:0≤k)(h1:k≤1000000000):0≤vX bs k∧vX bs k≤1000000000000000:=by
 have a:=kC h (k.tmod bs.length);have b:=kC h ((k*7+3).tmod bs.length);have hq:k.tdiv bs.length=k / bs.length:=Int.tdiv_eq_ediv_of_nonneg h0
 have h2:0≤k /(bs.length:Int):=Int.ediv_nonneg h0 (by omega)
 have h3:k /(bs.length:Int)≤k:=Int.ediv_le_self _ h0
 unfold vX;rw[hq];generalize k /(bs.length:Int)=q at*;omega
theorem IX {bs:List Int}(h:AG bs){k n:Int}(h0:0≤k)(h1:k≤1000000000):0≤pk bs k n:=by
 unfold pk;split
 ·exact Int.le_refl 0
 ·split
  ·exact Int.le_refl 0
  ·split
   ·exact Int.tmod_nonneg _ (kC h k).1
   ·have:=DF h h0 h1
    exact Int.tmod_nonneg _ (yz this.1 this.2)
theorem si {bs:List Int}(h:AG bs){k n:Int}(h0:0≤k)(h1:k≤1000000000)(hn:1≤n):pk bs k n<n:=by
 unfold pk;split
 ·omega
 ·split
  ·omega
  ·split
   ·rw[Int.tmod_eq_emod_of_nonneg (kC h k).1];exact Int.emod_lt_of_pos _ (by omega)
   ·have:=DF h h0 h1
    rw[Int.tmod_eq_emod_of_nonneg (yz this.1 this.2)];exact Int.emod_lt_of_pos _ (by omega)
theorem yA {bs:List Int}(h:AG bs)(p n:Int)(h0:0≤p)(h1:p≤1000000000):TC Tw.prog E 23 [Zg,gI .i64 n] 1 [(0,QX bs p)] (gI .i64 (pk bs p n)) [(0,QX bs (p+1))]:=by
 have aE:IntKind.i64.wrap (p+1)=p+1:=aQ (by omega) (by omega)
 have hw0:IntKind.i64.wrap p=p:=aQ (by omega) (by omega)
 refine tE Tryz.f23 Tryz.ntmps23 (by rw[Tryz.results23]) ?_ (hfit:=(Fits.of (by simp[dw,az.live]) (by simp) (by simp)))
 unfold pk;by_cases hn:n<1
 ·rw[if_pos hn]
  (refine TW.go ?_;simp[aE,hn];repeat' first|intro hc|refine aa.mk ?_|refine aI ?_|refine af ?_ ?_)
  exact aT.own [] [] (by simp;rfl) (by simp) (by simp) (by simp) (by simp) (by simp)
 ·rw[if_neg hn]
  have QE:¬n=0:=by omega
  by_cases hb:bs=[]
  ·rw[if_pos hb]
   subst hb;(refine TW.go ?_;simp[aE,hn];repeat' first|intro hc|refine aa.mk ?_|refine aI ?_|refine af ?_ ?_)
   exact aT.own [] [] (by simp;rfl) (by simp) (by simp) (by simp) (by simp) (by simp)
  ·rw[if_neg hb]
   have hl:0<bs.length:=List.length_pos_iff.2 hb
   have bz:¬(bs.length:Int)=0:=by omega
   by_cases hk:p<bs.length
   ·rw[if_pos hk]
    have he:=sg (bs:=bs) (k:=p) (by omega)
    have hB:=kC h p;have dR:∀hh,bs[p.toNat]'hh=j_ bs p:=fun hh=>by rw[List.getElem?_eq_getElem hh]at he;exact Option.some.inj he
    generalize j_ bs p=B at*;have hwB:IntKind.i64.wrap B=B:=aQ (by omega) (by omega)
    (refine TW.go ?_;simp[aE,hw0,hn,QE,hb,hk,h0,he,dR,hwB];repeat' first|intro hc|refine aa.mk ?_|refine aI ?_|refine af ?_ ?_)
    exact aT.own [] [] (by simp;rfl) (by simp) (by simp) (by simp) (by simp) (by simp)
   ·rw[if_neg hk]
    have hX:=DF h h0 h1;have QY:(0:Int)<bs.length:=by omega
    have hm1:0≤p.tmod bs.length:=Int.tmod_nonneg _ h0
    have hm2:0≤(p*7+3).tmod bs.length:=Int.tmod_nonneg _ (by omega)
    have aeM:p.tmod bs.length<bs.length:=by rw[Int.tmod_eq_emod_of_nonneg h0];exact Int.emod_lt_of_pos _ QY
    have aeN:(p*7+3).tmod bs.length<bs.length:=by rw[Int.tmod_eq_emod_of_nonneg (by omega)];exact Int.emod_lt_of_pos _ QY
    have he1:=sg (bs:=bs) (k:=p.tmod bs.length) (by omega)
    have he2:=sg (bs:=bs) (k:=(p*7+3).tmod bs.length) (by omega)
    have hB1:=kC h (p.tmod bs.length);have hB2:=kC h ((p*7+3).tmod bs.length);have hq:p.tdiv bs.length=p / bs.length:=Int.tdiv_eq_ediv_of_nonneg h0
    have hq0:0≤p.tdiv bs.length:=by rw[hq];exact Int.ediv_nonneg h0 (by omega)
    have wM:p.tdiv bs.length≤p:=by rw[hq];exact Int.ediv_le_self _ h0
    have hmv:(R' (vX bs p)).tmod n=(IntKind.i64.wrap (BitVec.ofInt 64 (vX bs p)^^^BitVec.ofInt 64 ((vX bs p).tdiv 64)).toNat).tmod n:=rfl
    rw[hmv];have adH:IntKind.i64.wrap ((vX bs p).tdiv 64)=(vX bs p).tdiv 64:=by
     rw[Int.tdiv_eq_ediv_of_nonneg hX.1];exact aQ (by omega) (by omega)
    unfold vX at*;generalize j_ bs (p.tmod bs.length)=B1 at*;generalize j_ bs ((p*7+3).tmod bs.length)=B2 at*;generalize hQ:p.tdiv bs.length=Q at*;clear hq hmv;have w1:IntKind.i64.wrap B1=B1:=aQ (by omega) (by omega)
    have w2:IntKind.i64.wrap B2=B2:=aQ (by omega) (by omega)
    have w3:IntKind.i64.wrap (B1*131)=B1*131:=aQ (by omega) (by omega)
    have w4:IntKind.i64.wrap (B2*1117)=B2*1117:=aQ (by omega) (by omega)
    have w5:IntKind.i64.wrap (B1*131+B2*1117)=B1*131+B2*1117:=aQ (by omega) (by omega)
    have w6:IntKind.i64.wrap (p*7)=p*7:=aQ (by omega) (by omega)
    have w7:IntKind.i64.wrap (p*7+3)=p*7+3:=aQ (by omega) (by omega)
    have w8:IntKind.i64.wrap (p*29)=p*29:=aQ (by omega) (by omega)
    have w9:IntKind.i64.wrap (B1*131+B2*1117+p*29)=B1*131+B2*1117+p*29:=aQ (by omega) (by omega)
    have w10:IntKind.i64.wrap Q=Q:=aQ (by omega) (by omega)
    have CF:IntKind.i64.wrap (Q*53)=Q*53:=aQ (by omega) (by omega)
    have w12:IntKind.i64.wrap (B1*131+B2*1117+p*29+Q*53)=B1*131+B2*1117+p*29+Q*53:=aQ (by omega) (by omega)
    generalize hXe:B1*131+B2*1117+p*29+Q*53=X at*;(refine TW.go ?_;simp[aE,hw0,hn,QE,hb,hk,he1,he2,hm1,hm2,hQ,w1,w2,w3,w4,w5,w6,w7,w8,w9,w10,CF,w12,hXe,adH];repeat' first|intro hc|refine aa.mk ?_|refine aI ?_|refine af ?_ ?_)
    exact aT.own [] [] (by simp;rfl) (by simp[IntKind.bits]) (by simp) (by simp) (by simp) (by simp)
theorem VE (bs:List Int):TC Tw.prog E 21 [gR (j5 bs)] 0 [] Zg [(0,QX (bs.take 2000) 0)]:=by
 refine tE Tryz.f21 Tryz.ntmps21 (by rw[Tryz.results21]) ?_
 by_cases hl:2000<bs.length
 ·have bz:(2000:Int)<(bs.length:Int):=by omega
  (refine TW.go ?_;simp[bz];repeat' first|intro hc|refine aa.mk ?_|refine aI ?_|refine af ?_ ?_)
  exact oW [0] []
 ·have bz:¬(2000:Int)<(bs.length:Int):=by omega
  rw[List.take_of_length_le (by omega)]
  (refine TW.go ?_;simp[bz];repeat' first|intro hc|refine aa.mk ?_|refine aI ?_|refine af ?_ ?_)
  exact oW [0] []
end Go.Proofs.YtabjbdnokpjipaaGreat.T
namespace Go.Proofs.YtabjbdnokpjipaaGreat.T
open Go Go.RowKit
set_option maxRecDepth 100000
set_option maxHeartbeats 4000000
variable {E:List PanicEntry→World→Prop}
abbrev DG (id:Int):aF:=⟨id,0,[],[]⟩
theorem sZ (id:Int)(h:bM id=true):TC Tw.prog E 39 [gI .i64 id] 0 [] (.p [.a [.r (rI id),.r (rI 0),.own 0,.own 1],gB true]) [(0,dU []),(1,dU [])]:=by
 refine tE Tryz.f39 Tryz.ntmps39 (by rw[Tryz.results39]) ?_
 (refine TW.go ?_;simp[h];repeat' first|intro hc|refine aa.mk ?_|refine aI ?_|refine af ?_ ?_|(refine cP ?_;refine⟨_,rM _,?_⟩;simp[h]))
 exact oW [1,2] []
def iP:aA:=⟨[],[DG 0,DG 1,DG 2,DG 3,DG 4],[],[],[]⟩
def qH (k:Nat):List aF:=(List.range k).map fun i=>DG (i:Nat)
theorem DH (k:Nat):qH (k+1)=qH k++[DG (k:Nat)]:=by simp[qH,List.range_succ]
theorem Gf (k:Nat):(qH k).length=k:=by simp[qH]
def nE:Nat→ah
 |0=>⟨[(0,.s (.ptr 0 0)),(1,.s (.ptr 1 0)),(2,gI .i64 0)],[(0,.box [.r .nil,.r .nil,.r .nil,.r .nil,.r .nil]),(1,.box [.r (.sl 1 []),.r .nil,.r (.sl 3 []),.r (.sl 1 []),.r (.sl 5 [])])],2⟩
 |k+1=>⟨[(0,.s (.ptr 0 0)),(1,.s (.ptr 1 0)),(2,gI .i64 ((k:Int)+1))],[(0,.box [.r .nil,.r .nil,.r .nil,.r .nil,.r .nil]),(1,.box [.r (.sl 1 []),.own 2,.r (.sl 3 []),.r (.sl 1 []),.r (.sl 5 [])]),(2,fp (qH (k+1)))],3⟩
theorem s_:TC Tw.prog E 22 [] 0 [] (gW iP) []:=by
 refine tE Tryz.f22 Tryz.ntmps22 (by rw[Tryz.results22]) ?_
 (refine TW.go ?_;simp;repeat' first|intro hc|refine aa.mk ?_|refine aI ?_|refine af ?_ ?_)
 refine tL nE (fun k=>k≤5) (fun k=>5-k) 0 (by omega) (Wk.own [0,5] [1,2,3,4] (by simp) (by simp[nE]) (by simp[nE]) (by simp[nE]) (by simp[nE])) fun k hk=>?_
 by_cases ak:k<5
 ·have an:(k:Int)<5:=by omega
  have hg:bM (k:Int)=true:=by simp[bM];omega
  have aE:IntKind.i64.wrap ((k:Int)+1)=(k:Int)+1:=aQ (by omega) (by omega)
  rcases k with _|k
  ·unfold nE
   (refine TW.go ?_;simp[maxLen];repeat' first|intro hc|refine aa.mk ?_|refine aI ?_|refine af ?_ ?_|(refine cF [] 2 ?_;refine⟨_,_,sZ 0 rfl,?_⟩;simp[maxLen]))
   exact⟨1,by omega,by omega,Wk.own [0,1,6] [] (by simp) (by simp[nE]) (by simp[nE,qH,au]) (by simp[nE]) (by simp[nE])⟩
  ·have hl:=Gf (k+1)
   unfold nE;simp only[Int.natCast_add,Int.natCast_one]at an hg aE;(refine TW.go ?_;simp[an,aE,maxLen];repeat' first|intro hc|refine aa.mk ?_|refine aI ?_|refine af ?_ ?_|(refine cF [] 2 ?_;refine⟨_,_,sZ _ hg,?_⟩;simp[an,aE,maxLen]))
   exact⟨k+2,by omega,by omega,Wk.own [0,1,7] [] (by simp) (by simp[nE]) (by simp[nE,DH (k+1),au]) (by simp[nE]) (by simp[nE])⟩
 ·obtain rfl:k=5:=by omega
  unfold nE;(refine TW.go ?_;simp;repeat' first|intro hc|refine aa.mk ?_|refine aI ?_|refine af ?_ ?_)
  refine aT.own [] [2] (by simp;rfl) (by simp[iP,wT,qH,List.range_succ]) (by simp) (by simp) (by simp[iP,wT,qH,List.range_succ]) (by simp)
theorem zE:cw 0 iP:=by
 refine⟨rfl,?_,by decide,?_,rfl,?_,rfl,by decide,?_⟩
 ·simp[iP,iN]
 ·simp[iP]
 ·simp[iP]
 ·simp[iP]
end Go.Proofs.YtabjbdnokpjipaaGreat.T
namespace Go.Proofs.YtabjbdnokpjipaaGreat.T
open Go Go.RowKit
set_option maxRecDepth 100000
set_option maxHeartbeats 4000000
variable {E:List PanicEntry→World→Prop}
def mx (n:Nat):Int:=if(n:Int)<1 then 1 else n
theorem Zh (n:Nat):1≤mx n:=by unfold mx;split<;>omega
def u_ (o:Int→Int→Int)(p:Int)(n s:Nat):Int×Int×Int:=
 if o (p+1) 20=0∨o (p+1) 20=1 then(1,1+o (p+2) 31,p+3)
 else if o (p+1) 20=2 then(3,o p (mx n),p+2)
 else if o (p+1) 20=3 then(4,o p (mx n),p+2)
 else if o (p+1) 20=4 then(5,o (p+2) (mx s),p+3)
 else if o (p+1) 20=5∨o (p+1) 20=6 then(6,o (p+2) (mx s),p+3)
 else if o (p+1) 20=7 then if o (p+2) 3=0 then(7,o (p+3) (mx s),p+4)else(2,o p (mx n),p+3)
 else if o (p+2) 2=0 then(2,0,p+3)else(2,o p (mx n),p+3)
def BN (o:Int→Int→Int)(e:Int×Int×Int):Int×Int×Int:=
 if o e.2.2 40=0 then(o (e.2.2+1) 10-1,e.2.1,e.2.2+2)else if o e.2.2 40=1 then(e.1,o (e.2.2+1) 36-2,e.2.2+2)else(e.1,e.2.1,e.2.2+1)
def bD (o:Int→Int→Int)(p:Int)(w:aA):Int×Int×Int:=BN o (u_ o p w.aX.length w.aj.length)
theorem vY (o:Int→Int→Int)(p:Int)(w:aA):p+3≤(bD o p w).2.2∧(bD o p w).2.2≤p+6:=by
 have h:p+2≤(u_ o p w.aX.length w.aj.length).2.2∧(u_ o p w.aX.length w.aj.length).2.2≤p+4:=by
  unfold u_;repeat' split
  all_goals(simp only;omega)
 unfold bD BN;repeat' split
 all_goals(simp only;omega)
set_option maxHeartbeats 8000000 in
theorem AH {bs:List Int}(h:AG bs)(p:Int)(w:aA)(h0:0≤p)(h1:p≤999999980)(hn:w.aX.length≤16)(hs:w.aj.length≤12):
  TC Tw.prog E 24 [Zg,gW w] 1 [(0,QX bs p)] (gE (bD (pk bs) p w).1 (bD (pk bs) p w).2.1) [(0,QX bs (bD (pk bs) p w).2.2)]:=by
 have q1:=IX h (k:=p+2) (n:=31) (by omega) (by omega)
 have zi:=si h (k:=p+2) (n:=31) (by omega) (by omega) (by omega)
 have w1:IntKind.i64.wrap (1+pk bs (p+2) 31)=1+pk bs (p+2) 31:=aQ (by omega) (by omega)
 have wA:∀k,0≤k→k≤1000000000→IntKind.i64.wrap (pk bs k 10-1)=pk bs k 10-1:=fun k a b=>by
  have:=IX h (k:=k) (n:=10) a b
  have:=si h (k:=k) (n:=10) a b (by omega)
  exact aQ (by omega) (by omega)
 have wB:∀k,0≤k→k≤1000000000→IntKind.i64.wrap (pk bs k 36-2)=pk bs k 36-2:=fun k a b=>by
  have:=IX h (k:=k) (n:=36) a b
  have:=si h (k:=k) (n:=36) a b (by omega)
  exact aQ (by omega) (by omega)
 have a3:=wA (p+3) (by omega) (by omega)
 have a4:=wA (p+4) (by omega) (by omega)
 have a5:=wA (p+5) (by omega) (by omega)
 have b3:=wB (p+3) (by omega) (by omega)
 have b4:=wB (p+4) (by omega) (by omega)
 have b5:=wB (p+5) (by omega) (by omega)
 clear wA wB q1 zi;have e2:p+1+1=p+2:=by omega
 have e3:p+2+1=p+3:=by omega
 have e4:p+3+1=p+4:=by omega
 have e5:p+4+1=p+5:=by omega
 have e6:p+5+1=p+6:=by omega
 have m1:(if(w.aX.length:Int)<1 then(1:Int)else w.aX.length)=mx w.aX.length:=rfl
 have m2:(if(w.aj.length:Int)<1 then(1:Int)else w.aj.length)=mx w.aj.length:=rfl
 have hm1:=Zh w.aX.length;have hm2:=Zh w.aj.length;refine tE Tryz.f24 Tryz.ntmps24 (by rw[Tryz.results24]) ?_ (hfit:=(Fits.of (by simp[dw,az.live]) (by simp) (by simp[wT])))
 (refine TW.go ?_;simp[wT,w1,m1,m2,e2,e3,e4,e5,e6,a3,a4,a5,b3,b4,b5];repeat' first|intro hc|refine aa.mk ?_|refine aI ?_|refine af ?_ ?_|(refine cR ?_;refine⟨_,_,yA h _ _ (by omega) (by omega),?_⟩;simp[wT,w1,m1,m2,e2,e3,e4,e5,e6,a3,a4,a5,b3,b4,b5]))
 all_goals
  clear hm1 hm2 hn hs h0 h1 h w1 a3 a4 a5 b3 b4 b5 m1 m2;try simp only[decide_eq_true_eq,decide_eq_false_iff_not]at*
  have f2:p+2+2=p+4:=by omega
  have f3:p+3+2=p+5:=by omega
  have f4:p+4+2=p+6:=by omega
  first
   |(exfalso;omega)
   |(refine aT.own [] [] (by simp;rfl) (by simp[bD,BN,u_, *]) (by simp) (by simp) (by simp[bD,BN,u_, *]) (by simp))
end Go.Proofs.YtabjbdnokpjipaaGreat.T
namespace Go.Proofs.YtabjbdnokpjipaaGreat.T
open Go Go.RowKit
set_option maxRecDepth 100000
set_option maxHeartbeats 4000000
variable {E:List PanicEntry→World→Prop}
end Go.Proofs.YtabjbdnokpjipaaGreat.T
namespace Go.Proofs.YtabjbdnokpjipaaGreat.T
open Go Go.RowKit
set_option maxRecDepth 100000
set_option maxHeartbeats 4000000
variable {E:List PanicEntry→World→Prop}
end Go.Proofs.YtabjbdnokpjipaaGreat.T
namespace Go.Proofs.YtabjbdnokpjipaaGreat.T
open Go Go.RowKit
set_option maxRecDepth 100000
set_option maxHeartbeats 4000000
variable {E:List PanicEntry→World→Prop}
end Go.Proofs.YtabjbdnokpjipaaGreat.T
namespace Go.Proofs.YtabjbdnokpjipaaGreat.T
open Go Go.RowKit
set_option maxRecDepth 100000
set_option maxHeartbeats 4000000
variable {E:List PanicEntry→World→Prop}
end Go.Proofs.YtabjbdnokpjipaaGreat.T
namespace Go.Proofs.YtabjbdnokpjipaaGreat.T
open Go Go.RowKit
set_option maxRecDepth 100000
set_option maxHeartbeats 4000000
variable {E:List PanicEntry→World→Prop}
def mi (gs:List aF)(set:List Int)(m:Int):Bool:=jM gs&&cB set&&bj m
theorem eY {xs:List Int}(h:cB xs=true):xs≠[]∧xs.length≤5∧cm xs:=by
 simp only[cB,Bool.and_eq_true,decide_eq_true_eq,db,List.all_eq_true,List.mem_range,pI,bM,Bool.or_eq_true]at h;obtain⟨h1,h2⟩:=h;have hr:∀i,i<xs.length→0≤xs.getD i 0∧xs.getD i 0<5:=fun i hi=>by have:=(h1 i hi).1;omega
 have hi:∀i,i<xs.length→(i:Int)≤xs.getD i 0:=by
  intro i;induction i with
  |zero=>intro hi;exact(hr 0 hi).1
  |succ i ih=>
   intro hi;have a:=ih (by omega)
   have b:=(h1 (i+1) hi).2;simp only[Nat.add_sub_cancel]at b;omega
 refine⟨List.length_pos_iff.1 h2,?_,fun g hg=>?_⟩
 ·have a:=hi (xs.length-1) (by omega)
  have b:=(hr (xs.length-1) (by omega)).2
  omega
 ·obtain⟨i,fB,rfl⟩:=List.getElem_of_mem hg
  have:=hr i fB
  rwa[List.getD_eq_getElem?_getD,List.getElem?_eq_getElem fB]at this
theorem oX {gs:List aF}(h:jM gs=true):gs.length=5:=by
 simp only[jM,Bool.and_eq_true,decide_eq_true_eq]at h;exact h.1.1
end Go.Proofs.YtabjbdnokpjipaaGreat.T
namespace Go.Proofs.YtabjbdnokpjipaaGreat
open Go Go.RowKit
def acx (id clock:Int)(e:aB):Bool:=bj e.m&&(bc e.t e.g&&(decide (e.t≤clock)&&(e.f||decide (e.g=id))))
def bg (a b:aB):Bool:=aO a.t a.g b.t b.g
def NP (id clock:Int):Option aB→List aB→Bool
 |_,[]=>true
 |p,e::es=>acx id clock e&&((match p with|none=>true|some q=>bg q e)&&NP id clock (some e) es)
def lM (id clock:Int)(es:List aB):Bool:=NP id clock none es
theorem zF {w w':World}{g:Nat}{t:TypeId}{cs:Array Value}(h:az w g t cs)(hb:Below w.heap.size w w'):az w' g t cs:=h.below hb h.lt
end Go.Proofs.YtabjbdnokpjipaaGreat
namespace Go.Proofs.YtabjbdnokpjipaaGreat
open Go Go.RowKit
end Go.Proofs.YtabjbdnokpjipaaGreat
