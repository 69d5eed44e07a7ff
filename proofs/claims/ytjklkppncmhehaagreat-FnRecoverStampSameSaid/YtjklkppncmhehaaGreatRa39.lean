/-
What is proved: what the reader of a code does to trees: it opens, and it picks a number. No condition but the lengths and ranges that each states. what the small draws do to trees: a stamp, an event, new groups and worlds. No condition but the ranges that each states. what the draws of an event and of a world do to trees. No condition but the ranges that each states. what the draw of a world does to trees. No condition but the ranges that each states. what the draws of a group and of a system do to trees. No condition but the ranges that each states. what the draw of a system does to trees. No condition but the ranges that each states.
-/
import Derived.Test.YtjklkppncmhehaaGreatRa33
import Derived.Test.YtjklkppncmhehaaGreatRa38
set_option linter.unusedVariables false
set_option linter.unusedSimpArgs false
namespace Go.Proofs.YtjklkppncmhehaaGreat.T
open Go Go.RowKit
set_option maxRecDepth 100000
set_option maxHeartbeats 4000000
variable {E:List PanicEntry→World→Prop}
abbrev pw (bs:List Int):RT:= .sl 1 (bs.map fun b=>[.v (.int .u8 b)])
abbrev Z' (bs:List Int) (p:Int):List TV:=[.r (pw bs),.r (rI p)]
abbrev mG (bs:List Int) (p:Int):ak:= .box (Z' bs p)
abbrev uS:GV:= .s (.ptr 0 0)
structure mH (bs:List Int):Prop where
 byte:∀b∈bs,0≤b∧b≤255
 len:bs.length≤2000
def gf (bs:List Int)(k:Int):Int:=bs.getD k.toNat 0
def qh (bs:List Int)(k:Int):Int:=gf bs (k.tmod bs.length)*131+gf bs ((k*7+3).tmod bs.length)*1117+k*29+k.tdiv bs.length*53
def J5 (x:Int):Int:=IntKind.i64.wrap (BitVec.ofInt 64 x^^^BitVec.ofInt 64 (x.tdiv 64)).toNat
def pk (bs:List Int)(k n:Int):Int:=if n<1 then 0 else if bs=[]then 0 else if k<bs.length then(gf bs k).tmod n else(J5 (qh bs k)).tmod n
theorem gC {bs:List Int}(h:mH bs)(k:Int):0≤gf bs k∧gf bs k≤255:=by
 unfold gf;rw[List.getD_eq_getElem?_getD]
 cases hb:bs[k.toNat]? with
 |none=>exact⟨by simp,by simp⟩
 |some b=>exact h.byte b (List.mem_of_getElem? hb)
theorem nD {bs:List Int}{k:Int}(U:k.toNat<bs.length):bs[k.toNat]?=some (gf bs k):=by
 unfold gf;rw[List.getD_eq_getElem?_getD,List.getElem?_eq_getElem U];rfl
theorem sG {x:Int}(h0:0≤x)(U:x≤1000000000000000):0≤J5 x:=by
 unfold J5;have h2:x.tdiv 64=x / 64:=Int.tdiv_eq_ediv_of_nonneg h0
 obtain⟨a,rfl⟩:=Int.eq_ofNat_of_zero_le h0;rw[h2,show((a:Nat):Int)/ 64=((a / 64:Nat):Int) by omega]
 have ha:∀n:Nat,n<2^62→(BitVec.ofInt 64 (n:Int)).toNat=n:=fun n hn=>by
  rw[BitVec.ofInt_natCast,BitVec.toNat_ofNat];exact Nat.mod_eq_of_lt (by omega)
 rw[BitVec.toNat_xor,ha a (by omega),ha (a / 64) (by omega)]
 have hx:a^^^(a / 64)<2^62:=Nat.xor_lt_two_pow (by omega) (by omega)
 rw[aL (by omega) (by omega)]
 omega
theorem xG {bs:List Int}(h:mH bs){k:Int}(h0:0≤k)(U:k≤1000000000):0≤qh bs k∧qh bs k≤1000000000000000:=by
 have a:=gC h (k.tmod bs.length);have b:=gC h ((k*7+3).tmod bs.length);have hq:k.tdiv bs.length=k / bs.length:=Int.tdiv_eq_ediv_of_nonneg h0
 have h2:0≤k /(bs.length:Int):=Int.ediv_nonneg h0 (by omega)
 have h3:k /(bs.length:Int)≤k:=Int.ediv_le_self _ h0
 unfold qh;rw[hq];generalize k /(bs.length:Int)=q at*;omega
theorem mI {bs:List Int}(h:mH bs){k n:Int}(h0:0≤k)(U:k≤1000000000):0≤pk bs k n:=by
 unfold pk;split
 ·exact Int.le_refl 0
 ·split
  ·exact Int.le_refl 0
  ·split
   ·exact Int.tmod_nonneg _ (gC h k).1
   ·have:=xG h h0 U
    exact Int.tmod_nonneg _ (sG this.1 this.2)
theorem dO {bs:List Int}(h:mH bs){k n:Int}(h0:0≤k)(U:k≤1000000000)(hn:1≤n):pk bs k n<n:=by
 unfold pk;split
 ·omega
 ·split
  ·omega
  ·split
   ·rw[Int.tmod_eq_emod_of_nonneg (gC h k).1];exact Int.emod_lt_of_pos _ (by omega)
   ·have:=xG h h0 U
    rw[Int.tmod_eq_emod_of_nonneg (sG this.1 this.2)];exact Int.emod_lt_of_pos _ (by omega)
theorem bd {bs:List Int}(h:mH bs)(p n:Int)(h0:0≤p)(U:p≤1000000000):TC Tw.prog E 44 [uS,gI .i64 n] 1 [(0,mG bs p)] (gI .i64 (pk bs p n)) [(0,mG bs (p+1))]:=by
 have aF:IntKind.i64.wrap (p+1)=p+1:=aL (by omega) (by omega)
 have Xn:IntKind.i64.wrap p=p:=aL (by omega) (by omega)
 refine tE Tryz.f44 Tryz.ntmps44 (by rw[Tryz.results44]) ?_ (hfit:=(Fits.of (by simp[iT,ak.live]) (by simp) (by simp)))
 unfold pk;by_cases hn:n<1
 ·rw[if_pos hn]
  (refine TW.go ?_;simp[aF,hn];repeat' first|intro hc|refine aa.mk ?_|refine aI ?_|refine ah ?_ ?_)
  exact ar.own [] [] (by simp;rfl) (by simp) (by simp) (by simp) (by simp) (by simp)
 ·rw[if_neg hn]
  have yF:¬n=0:=by omega
  by_cases hb:bs=[]
  ·rw[if_pos hb]
   subst hb;(refine TW.go ?_;simp[aF,hn];repeat' first|intro hc|refine aa.mk ?_|refine aI ?_|refine ah ?_ ?_)
   exact ar.own [] [] (by simp;rfl) (by simp) (by simp) (by simp) (by simp) (by simp)
  ·rw[if_neg hb]
   have hl:0<bs.length:=List.length_pos_iff.2 hb
   have bz:¬(bs.length:Int)=0:=by omega
   by_cases hk:p<bs.length
   ·rw[if_pos hk]
    have he:=nD (bs:=bs) (k:=p) (by omega)
    have hB:=gC h p;have dC:∀hh,bs[p.toNat]'hh=gf bs p:=fun hh=>by rw[List.getElem?_eq_getElem hh]at he;exact Option.some.inj he
    generalize gf bs p=B at*;have an:IntKind.i64.wrap B=B:=aL (by omega) (by omega)
    (refine TW.go ?_;simp[aF,Xn,hn,yF,hb,hk,h0,he,dC,an];repeat' first|intro hc|refine aa.mk ?_|refine aI ?_|refine ah ?_ ?_)
    exact ar.own [] [] (by simp;rfl) (by simp) (by simp) (by simp) (by simp) (by simp)
   ·rw[if_neg hk]
    have hX:=xG h h0 U;have jM:(0:Int)<bs.length:=by omega
    have UO:0≤p.tmod bs.length:=Int.tmod_nonneg _ h0
    have UP:0≤(p*7+3).tmod bs.length:=Int.tmod_nonneg _ (by omega)
    have aa0:p.tmod bs.length<bs.length:=by rw[Int.tmod_eq_emod_of_nonneg h0];exact Int.emod_lt_of_pos _ jM
    have aa1:(p*7+3).tmod bs.length<bs.length:=by rw[Int.tmod_eq_emod_of_nonneg (by omega)];exact Int.emod_lt_of_pos _ jM
    have An:=nD (bs:=bs) (k:=p.tmod bs.length) (by omega)
    have AS:=nD (bs:=bs) (k:=(p*7+3).tmod bs.length) (by omega)
    have hB1:=gC h (p.tmod bs.length);have hB2:=gC h ((p*7+3).tmod bs.length);have hq:p.tdiv bs.length=p / bs.length:=Int.tdiv_eq_ediv_of_nonneg h0
    have hq0:0≤p.tdiv bs.length:=by rw[hq];exact Int.ediv_nonneg h0 (by omega)
    have OT:p.tdiv bs.length≤p:=by rw[hq];exact Int.ediv_le_self _ h0
    have Xo:(J5 (qh bs p)).tmod n=(IntKind.i64.wrap (BitVec.ofInt 64 (qh bs p)^^^BitVec.ofInt 64 ((qh bs p).tdiv 64)).toNat).tmod n:=rfl
    rw[Xo];have Xp:IntKind.i64.wrap ((qh bs p).tdiv 64)=(qh bs p).tdiv 64:=by
     rw[Int.tdiv_eq_ediv_of_nonneg hX.1];exact aL (by omega) (by omega)
    unfold qh at*;generalize gf bs (p.tmod bs.length)=B1 at*;generalize gf bs ((p*7+3).tmod bs.length)=B2 at*;generalize hQ:p.tdiv bs.length=Q at*;clear hq Xo;have w1:IntKind.i64.wrap B1=B1:=aL (by omega) (by omega)
    have w2:IntKind.i64.wrap B2=B2:=aL (by omega) (by omega)
    have w3:IntKind.i64.wrap (B1*131)=B1*131:=aL (by omega) (by omega)
    have w4:IntKind.i64.wrap (B2*1117)=B2*1117:=aL (by omega) (by omega)
    have w5:IntKind.i64.wrap (B1*131+B2*1117)=B1*131+B2*1117:=aL (by omega) (by omega)
    have w6:IntKind.i64.wrap (p*7)=p*7:=aL (by omega) (by omega)
    have w7:IntKind.i64.wrap (p*7+3)=p*7+3:=aL (by omega) (by omega)
    have w8:IntKind.i64.wrap (p*29)=p*29:=aL (by omega) (by omega)
    have w9:IntKind.i64.wrap (B1*131+B2*1117+p*29)=B1*131+B2*1117+p*29:=aL (by omega) (by omega)
    have V6:IntKind.i64.wrap Q=Q:=aL (by omega) (by omega)
    have wz:IntKind.i64.wrap (Q*53)=Q*53:=aL (by omega) (by omega)
    have BE:IntKind.i64.wrap (B1*131+B2*1117+p*29+Q*53)=B1*131+B2*1117+p*29+Q*53:=aL (by omega) (by omega)
    generalize DO:B1*131+B2*1117+p*29+Q*53=X at*;(refine TW.go ?_;simp[aF,Xn,hn,yF,hb,hk,An,AS,UO,UP,hQ,w1,w2,w3,w4,w5,w6,w7,w8,w9,V6,wz,BE,DO,Xp];repeat' first|intro hc|refine aa.mk ?_|refine aI ?_|refine ah ?_ ?_)
    exact ar.own [] [] (by simp;rfl) (by simp[IntKind.bits]) (by simp) (by simp) (by simp) (by simp)
theorem MJ (bs:List Int):TC Tw.prog E 42 [gR (pw bs)] 0 [] uS [(0,mG (bs.take 2000) 0)]:=by
 refine tE Tryz.f42 Tryz.ntmps42 (by rw[Tryz.results42]) ?_
 by_cases hl:2000<bs.length
 ·have bz:(2000:Int)<(bs.length:Int):=by omega
  (refine TW.go ?_;simp[bz];repeat' first|intro hc|refine aa.mk ?_|refine aI ?_|refine ah ?_ ?_)
  exact oW [0] []
 ·have bz:¬(2000:Int)<(bs.length:Int):=by omega
  rw[List.take_of_length_le (by omega)]
  (refine TW.go ?_;simp[bz];repeat' first|intro hc|refine aa.mk ?_|refine aI ?_|refine ah ?_ ?_)
  exact oW [0] []
end Go.Proofs.YtjklkppncmhehaaGreat.T
namespace Go.Proofs.YtjklkppncmhehaaGreat.T
open Go Go.RowKit
set_option maxRecDepth 100000
set_option maxHeartbeats 4000000
variable {E:List PanicEntry→World→Prop}
abbrev mJ (id:Int):az:=⟨id,0,[],[]⟩
theorem jN (id:Int)(h:bw id=true):TC Tw.prog E 153 [gI .i64 id] 0 [] (.p [.a [.r (rI id),.r (rI 0),.own 0,.own 1],gB true]) [(0,dx []),(1,dx [])]:=by
 refine tE Tryz.f153 Tryz.ntmps153 (by rw[Tryz.results153]) ?_
 (refine TW.go ?_;simp[h];repeat' first|intro hc|refine aa.mk ?_|refine aI ?_|refine ah ?_ ?_|(refine cP ?_;refine⟨_,kW _,?_⟩;simp[h]))
 exact oW [1,2] []
def mK:aB:=⟨[],[mJ 0,mJ 1,mJ 2,mJ 3,mJ 4],[],[],[]⟩
def sH (k:Nat):List az:=(List.range k).map fun i=>mJ (i:Nat)
theorem Jf (k:Nat):sH (k+1)=sH k++[mJ (k:Nat)]:=by simp[sH,List.range_succ]
theorem MK (k:Nat):(sH k).length=k:=by simp[sH]
def jV:Nat→ae
 |0=>⟨[(0,.s (.ptr 0 0)),(1,.s (.ptr 1 0)),(2,gI .i64 0)],[(0,.box [.r .nil,.r .nil,.r .nil,.r .nil,.r .nil]),(1,.box [.r (.sl 1 []),.r .nil,.r (.sl 3 []),.r (.sl 1 []),.r (.sl 5 [])])],2⟩
 |k+1=>⟨[(0,.s (.ptr 0 0)),(1,.s (.ptr 1 0)),(2,gI .i64 ((k:Int)+1))],[(0,.box [.r .nil,.r .nil,.r .nil,.r .nil,.r .nil]),(1,.box [.r (.sl 1 []),.own 2,.r (.sl 3 []),.r (.sl 1 []),.r (.sl 5 [])]),(2,nB (sH (k+1)))],3⟩
theorem uT:TC Tw.prog E 150 [] 0 [] (gW mK) []:=by
 refine tE Tryz.f150 Tryz.ntmps150 (by rw[Tryz.results150]) ?_
 (refine TW.go ?_;simp;repeat' first|intro hc|refine aa.mk ?_|refine aI ?_|refine ah ?_ ?_)
 refine tL jV (fun k=>k≤5) (fun k=>5-k) 0 (by omega) (Wk.own [0,5] [1,2,3,4] (by simp) (by simp[jV]) (by simp[jV]) (by simp[jV]) (by simp[jV])) fun k hk=>?_
 by_cases aj:k<5
 ·have aw:(k:Int)<5:=by omega
  have hg:bw (k:Int)=true:=by simp[bw];omega
  have aF:IntKind.i64.wrap ((k:Int)+1)=(k:Int)+1:=aL (by omega) (by omega)
  rcases k with _|k
  ·unfold jV
   (refine TW.go ?_;simp[maxLen];repeat' first|intro hc|refine aa.mk ?_|refine aI ?_|refine ah ?_ ?_|(refine cF [] 2 ?_;refine⟨_,_,jN 0 rfl,?_⟩;simp[maxLen]))
   exact⟨1,by omega,by omega,Wk.own [0,1,6] [] (by simp) (by simp[jV]) (by simp[jV,sH,ai]) (by simp[jV]) (by simp[jV])⟩
  ·have hl:=MK (k+1)
   unfold jV;simp only[Int.natCast_add,Int.natCast_one]at aw hg aF;(refine TW.go ?_;simp[aw,aF,maxLen];repeat' first|intro hc|refine aa.mk ?_|refine aI ?_|refine ah ?_ ?_|(refine cF [] 2 ?_;refine⟨_,_,jN _ hg,?_⟩;simp[aw,aF,maxLen]))
   exact⟨k+2,by omega,by omega,Wk.own [0,1,7] [] (by simp) (by simp[jV]) (by simp[jV,Jf (k+1),ai]) (by simp[jV]) (by simp[jV])⟩
 ·obtain rfl:k=5:=by omega
  unfold jV;(refine TW.go ?_;simp;repeat' first|intro hc|refine aa.mk ?_|refine aI ?_|refine ah ?_ ?_)
  refine ar.own [] [2] (by simp;rfl) (by simp[mK,wT,sH,List.range_succ]) (by simp) (by simp) (by simp[mK,wT,sH,List.range_succ]) (by simp)
theorem tH:cM 0 mK:=by
 refine⟨rfl,?_,by decide,?_,rfl,?_,rfl,by decide,?_⟩
 ·simp[mK,fc]
 ·simp[mK]
 ·simp[mK]
 ·simp[mK]
def ML (xs:List Int)(k:Int):Int:=xs.getD k.toNat 0
theorem tI {xs:List Int}{k:Int}(h0:0≤k)(U:k<xs.length):(xs.map fun n=>[rI n])[k.toNat]?=some [rI (ML xs k)]:=by
 rw[List.getElem?_map,ML,List.getD_eq_getElem?_getD,List.getElem?_eq_getElem (by omega)]
 rfl
def eB (o:Int→Int→Int)(p:Int):(Int×Int)×Int:=
 if o (p+2) 24=0 then((ML [0, -1,999,1000] (o (p+3) 4),o (p+1) 5),p+4)
 else if o (p+2) 24=1 then((1+o p 8,o (p+3) 7-1),p+4)else((1+o p 8,o (p+1) 5),p+3)
theorem GA {bs:List Int}(h:mH bs)(p:Int)(h0:0≤p)(U:p≤999999990):TC Tw.prog E 154 [uS] 1 [(0,mG bs p)] (km (eB (pk bs) p).1) [(0,mG bs (eB (pk bs) p).2)]:=by
 have q0:=mI h (k:=p) (n:=8) h0 (by omega)
 have q0':=dO h (k:=p) (n:=8) h0 (by omega) (by omega)
 have q3:=mI h (k:=p+3) (n:=4) (by omega) (by omega)
 have No:=dO h (k:=p+3) (n:=4) (by omega) (by omega) (by omega)
 have q4:=mI h (k:=p+3) (n:=7) (by omega) (by omega)
 have q4':=dO h (k:=p+3) (n:=7) (by omega) (by omega) (by omega)
 have w1:IntKind.i64.wrap (1+pk bs p 8)=1+pk bs p 8:=aL (by omega) (by omega)
 have w2:IntKind.i64.wrap (pk bs (p+3) 7-1)=pk bs (p+3) 7-1:=aL (by omega) (by omega)
 have ht:=tI (xs:=[0, -1,999,1000]) q3 (by simpa using No)
 simp only[List.map_cons,List.map_nil]at ht;have e2:p+1+1=p+2:=by omega
 have e3:p+2+1=p+3:=by omega
 have e4:p+3+1=p+4:=by omega
 refine tE Tryz.f154 Tryz.ntmps154 (by rw[Tryz.results154]) ?_ (hfit:=(Fits.of (by simp[iT,ak.live]) (by simp) (by simp)))
 by_cases c0:pk bs (p+2) 24=0
 ·rw[show eB (pk bs) p=((ML [0, -1,999,1000] (pk bs (p+3) 4),pk bs (p+1) 5),p+4) by rw[eB,if_pos c0]]
  (refine TW.go ?_;simp[w1,c0,e2,e3,e4,ht,q3];repeat' first|intro hc|refine aa.mk ?_|refine aI ?_|refine ah ?_ ?_|(refine cR ?_;refine⟨_,_,bd h _ _ (by omega) (by omega),?_⟩;simp[w1,c0,e2,e3,e4,ht,q3]))
  exact oW [] []
 ·by_cases c1:pk bs (p+2) 24=1
  ·rw[show eB (pk bs) p=((1+pk bs p 8,pk bs (p+3) 7-1),p+4) by rw[eB,if_neg c0,if_pos c1]]
   (refine TW.go ?_;simp[w1,w2,c1,e2,e3,e4];repeat' first|intro hc|refine aa.mk ?_|refine aI ?_|refine ah ?_ ?_|(refine cR ?_;refine⟨_,_,bd h _ _ (by omega) (by omega),?_⟩;simp[w1,w2,c1,e2,e3,e4]))
   exact oW [] []
  ·rw[show eB (pk bs) p=((1+pk bs p 8,pk bs (p+1) 5),p+3) by rw[eB,if_neg c0,if_neg c1]]
   (refine TW.go ?_;simp[w1,c0,c1,e2,e3,e4];repeat' first|intro hc|refine aa.mk ?_|refine aI ?_|refine ah ?_ ?_|(refine cR ?_;refine⟨_,_,bd h _ _ (by omega) (by omega),?_⟩;simp[w1,c0,c1,e2,e3,e4]))
   exact oW [] []
end Go.Proofs.YtjklkppncmhehaaGreat.T
namespace Go.Proofs.YtjklkppncmhehaaGreat.T
open Go Go.RowKit
set_option maxRecDepth 100000
set_option maxHeartbeats 4000000
variable {E:List PanicEntry→World→Prop}
def mx (n:Nat):Int:=if(n:Int)<1 then 1 else n
theorem PW (n:Nat):1≤mx n:=by unfold mx;split<;>omega
def py (o:Int→Int→Int)(p:Int)(n s:Nat):Int×Int×Int:=
 if o (p+1) 20=0∨o (p+1) 20=1 then(1,1+o (p+2) 31,p+3)
 else if o (p+1) 20=2 then(3,o p (mx n),p+2)
 else if o (p+1) 20=3 then(4,o p (mx n),p+2)
 else if o (p+1) 20=4 then(5,o (p+2) (mx s),p+3)
 else if o (p+1) 20=5∨o (p+1) 20=6 then(6,o (p+2) (mx s),p+3)
 else if o (p+1) 20=7 then if o (p+2) 3=0 then(7,o (p+3) (mx s),p+4)else(2,o p (mx n),p+3)
 else if o (p+2) 2=0 then(2,0,p+3)else(2,o p (mx n),p+3)
def va (o:Int→Int→Int)(e:Int×Int×Int):Int×Int×Int:=
 if o e.2.2 40=0 then(o (e.2.2+1) 10-1,e.2.1,e.2.2+2)else if o e.2.2 40=1 then(e.1,o (e.2.2+1) 36-2,e.2.2+2)else(e.1,e.2.1,e.2.2+1)
def cN (o:Int→Int→Int)(p:Int)(w:aB):Int×Int×Int:=va o (py o p w.bP.length w.aH.length)
theorem qi (o:Int→Int→Int)(p:Int)(w:aB):p+3≤(cN o p w).2.2∧(cN o p w).2.2≤p+6:=by
 have h:p+2≤(py o p w.bP.length w.aH.length).2.2∧(py o p w.bP.length w.aH.length).2.2≤p+4:=by
  unfold py;repeat' split
  all_goals(simp only;omega)
 unfold cN va;repeat' split
 all_goals(simp only;omega)
set_option maxHeartbeats 8000000 in
theorem GB {bs:List Int}(h:mH bs)(p:Int)(w:aB)(h0:0≤p)(U:p≤999999980)(hn:w.bP.length≤16)(hs:w.aH.length≤12):
  TC Tw.prog E 152 [uS,gW w] 1 [(0,mG bs p)] (gE (cN (pk bs) p w).1 (cN (pk bs) p w).2.1) [(0,mG bs (cN (pk bs) p w).2.2)]:=by
 have q1:=mI h (k:=p+2) (n:=31) (by omega) (by omega)
 have uJ:=dO h (k:=p+2) (n:=31) (by omega) (by omega) (by omega)
 have w1:IntKind.i64.wrap (1+pk bs (p+2) 31)=1+pk bs (p+2) 31:=aL (by omega) (by omega)
 have wA:∀k,0≤k→k≤1000000000→IntKind.i64.wrap (pk bs k 10-1)=pk bs k 10-1:=fun k a b=>by
  have:=mI h (k:=k) (n:=10) a b
  have:=dO h (k:=k) (n:=10) a b (by omega)
  exact aL (by omega) (by omega)
 have wB:∀k,0≤k→k≤1000000000→IntKind.i64.wrap (pk bs k 36-2)=pk bs k 36-2:=fun k a b=>by
  have:=mI h (k:=k) (n:=36) a b
  have:=dO h (k:=k) (n:=36) a b (by omega)
  exact aL (by omega) (by omega)
 have a3:=wA (p+3) (by omega) (by omega)
 have a4:=wA (p+4) (by omega) (by omega)
 have a5:=wA (p+5) (by omega) (by omega)
 have b3:=wB (p+3) (by omega) (by omega)
 have b4:=wB (p+4) (by omega) (by omega)
 have b5:=wB (p+5) (by omega) (by omega)
 clear wA wB q1 uJ;have e2:p+1+1=p+2:=by omega
 have e3:p+2+1=p+3:=by omega
 have e4:p+3+1=p+4:=by omega
 have e5:p+4+1=p+5:=by omega
 have e6:p+5+1=p+6:=by omega
 have m1:(if(w.bP.length:Int)<1 then(1:Int)else w.bP.length)=mx w.bP.length:=rfl
 have m2:(if(w.aH.length:Int)<1 then(1:Int)else w.aH.length)=mx w.aH.length:=rfl
 have UO:=PW w.bP.length;have UP:=PW w.aH.length;refine tE Tryz.f152 Tryz.ntmps152 (by rw[Tryz.results152]) ?_ (hfit:=(Fits.of (by simp[iT,ak.live]) (by simp) (by simp[wT])))
 (refine TW.go ?_;simp[wT,w1,m1,m2,e2,e3,e4,e5,e6,a3,a4,a5,b3,b4,b5];repeat' first|intro hc|refine aa.mk ?_|refine aI ?_|refine ah ?_ ?_|(refine cR ?_;refine⟨_,_,bd h _ _ (by omega) (by omega),?_⟩;simp[wT,w1,m1,m2,e2,e3,e4,e5,e6,a3,a4,a5,b3,b4,b5]))
 all_goals
  clear UO UP hn hs h0 U h w1 a3 a4 a5 b3 b4 b5 m1 m2;try simp only[decide_eq_true_eq,decide_eq_false_iff_not]at*
  have f2:p+2+2=p+4:=by omega
  have f3:p+3+2=p+5:=by omega
  have f4:p+4+2=p+6:=by omega
  first
   |(exfalso;omega)
   |(refine ar.own [] [] (by simp;rfl) (by simp[cN,va,py, *]) (by simp) (by simp) (by simp[cN,va,py, *]) (by simp))
end Go.Proofs.YtjklkppncmhehaaGreat.T
namespace Go.Proofs.YtjklkppncmhehaaGreat.T
open Go Go.RowKit
set_option maxRecDepth 100000
set_option maxHeartbeats 4000000
variable {E:List PanicEntry→World→Prop}
def fe (o:Int→Int→Int):Nat→Nat→Int→aB→aB×Int
 |0,_,p,w=>(w,p+1)
 |n+1,i,p,w=>if(i:Int)<o p 70 then fe o n (i+1) (cN o (p+1) w).2.2 (I' w (cN o (p+1) w).1 (cN o (p+1) w).2.1)else(w,p+1)
def cO (o:Int→Int→Int)(p:Int):aB×Int:=fe o 70 0 (p+1) (k_ mK (1+o p 31))
theorem xH (o:Int→Int→Int):∀(n i:Nat) (p:Int) (w:aB) (N:Nat),cM N w→p+1≤(fe o n i p w).2∧(fe o n i p w).2≤p+1+7*n∧cM (N+5*n) (fe o n i p w).1
 |0,i,p,w,N,h=>⟨by simp[fe],by simp[fe],by simpa[fe]using h⟩
 |n+1,i,p,w,N,h=>by
  unfold fe;split
  ·have U:=qi o (p+1) w
   obtain⟨a,b,c⟩:=xH o n (i+1) (cN o (p+1) w).2.2 (I' w (cN o (p+1) w).1 (cN o (p+1) w).2.1) (N+5) (h.event _ _);exact⟨by omega,by omega,by rw[show N+5*(n+1)=N+5+5*n by omega];exact c⟩
  ·exact⟨by simp only;omega,by simp only;omega,h.mono (by omega)⟩
theorem qW (o:Int→Int→Int)(p:Int):p+2≤(cO o p).2∧(cO o p).2≤p+500∧cM 350 (cO o p).1:=by
 obtain⟨a,b,c⟩:=xH o 70 0 (p+1) (k_ mK (1+o p 31)) 0 (tH.send _);unfold cO;exact⟨by omega,by omega,c⟩
theorem GC {bs:List Int}(h:mH bs)(p:Int)(h0:0≤p)(U:p≤999990000):
  TC Tw.prog E 106 [uS] 1 [(0,mG bs p)] (gW (cO (pk bs) p).1) [(0,mG bs (cO (pk bs) p).2)]:=by
 have q1:=mI h (k:=p) (n:=31) h0 (by omega)
 have uJ:=dO h (k:=p) (n:=31) h0 (by omega) (by omega)
 have w1:IntKind.i64.wrap (1+pk bs p 31)=1+pk bs p 31:=aL (by omega) (by omega)
 have hS:=xF (E:=E) mK (1+pk bs p 31) (tH.mono (by omega))
 have TO:cM 0 (k_ mK (1+pk bs p 31)):=tH.send _
 refine tE Tryz.f106 Tryz.ntmps106 (by rw[Tryz.results106]) ?_ (hfit:=(Fits.of (by simp[iT,ak.live]) (by simp) (by simp)))
 unfold cO;generalize k_ mK (1+pk bs p 31)=v at*;(refine TW.go ?_;simp[w1,wT];repeat' first|intro hc|refine aa.mk ?_|refine aI ?_|refine ah ?_ ?_|(refine cP ?_;(first|refine⟨_,uT,?_⟩|refine⟨_,hS,?_⟩);simp[w1,wT])|(refine cR ?_;refine⟨_,_,bd h _ _ (by omega) (by omega),?_⟩;simp[w1,wT]))
 refine tL (fun(x:Nat×Int×aB)=>⟨[(0,uS),(2,.s (.ptr 1 0)),(3,.s (.ptr 2 0)),(4,gI .i64 (x.1:Nat))],[(0,mG bs x.2.1),(1,.box [.r .nil,.r .nil,.r .nil,.r .nil,.r .nil]),(2,.box ((wT x.2.2).map .r))],3⟩)
  (fun x=>x.1≤70∧p+1≤x.2.1∧x.2.1≤p+1+7*x.1∧cM (5*x.1) x.2.2∧fe (pk bs) (70-x.1) x.1 x.2.1 x.2.2=fe (pk bs) 70 0 (p+1) v) (fun x=>70-x.1) (0,p+1,v) ⟨by simp,by simp,by simp,TO,rfl⟩
  (Wk.own [1,2] [] (by simp) (by simp[wT]) (by simp[wT]) (by simp) (by simp)) fun x hx=>?_
 obtain⟨i,q,w⟩:=x;obtain⟨hi,r1,r2,hw,bj⟩:=hx;simp only at hi r1 r2 hw bj⊢
 have q0:0≤q:=by omega
 have q2:q≤999999000:=by omega
 have z1:=mI h (k:=q) (n:=70) q0 (by omega)
 have z2:=dO h (k:=q) (n:=70) q0 (by omega) (by omega)
 by_cases aj:(i:Int)<pk bs q 70
 ·have tn:=qi (pk bs) (q+1) w
  have aF:IntKind.i64.wrap ((i:Int)+1)=(i:Int)+1:=aL (by omega) (by omega)
  rw[show 70-i=(70-(i+1))+1 by omega,fe,if_pos aj]at bj
  have hD:=PV (E:=E) w (cN (pk bs) (q+1) w).1 (cN (pk bs) (q+1) w).2.1 (hw.mono (by omega))
  have hE:=GB (E:=E) h (q+1) w (by omega) (by omega) hw.nl hw.Mz
  have hwD:=hw.event (cN (pk bs) (q+1) w).1 (cN (pk bs) (q+1) w).2.1;generalize I' w (cN (pk bs) (q+1) w).1 (cN (pk bs) (q+1) w).2.1=u at*;(refine TW.go ?_;simp[wT,aj,aF];repeat' first|intro hc|refine aa.mk ?_|refine aI ?_|refine ah ?_ ?_|(refine cP ?_;refine⟨_,hD,?_⟩;simp[wT,aj,aF])|(refine cR ?_;refine⟨_,_,bd h _ _ (by omega) (by omega),?_⟩;simp[wT,aj,aF])|(refine cR ?_;refine⟨_,_,hE,?_⟩;simp[wT,aj,aF]))
  exact⟨(i+1,(cN (pk bs) (q+1) w).2.2,u),⟨by simp only;omega,by simp only;omega,by simp only;omega,by rw[show 5*(i+1)=5*i+5 by omega];exact hwD,bj⟩,by simp only;omega,Wk.own [1,2] [] (by simp) (by simp[wT]) (by simp[wT]) (by simp) (by simp)⟩
 ·have PX:fe (pk bs) (70-i) i q w=(w,q+1):=by
   rcases hn:70-i with _|n
   ·rfl
   ·rw[fe,if_neg aj]
  rw[←bj,PX];(refine TW.go ?_;simp[wT,aj];repeat' first|intro hc|refine aa.mk ?_|refine aI ?_|refine ah ?_ ?_|(refine cR ?_;refine⟨_,_,bd h _ _ (by omega) (by omega),?_⟩;simp[wT,aj]))
  refine ar.own [] [] (by simp;rfl) (by simp[wT]) (by simp) (by simp) (by simp[wT]) (by simp)
end Go.Proofs.YtjklkppncmhehaaGreat.T
namespace Go.Proofs.YtjklkppncmhehaaGreat.T
open Go Go.RowKit
set_option maxRecDepth 100000
set_option maxHeartbeats 4000000
variable {E:List PanicEntry→World→Prop}
theorem nS (g:az)(m:Int)(h:fE g 4294967290)(h0:0≤g.clock):TC Tw.prog E 122 [.a [.r (rI g.id),.r (rI g.clock),.own 0,.own 1],gI .i64 m] 2 (Gu g) (.p [Gq (aM g m).1 2 3,km (aM g m).2.1,gB (aM g m).2.2]) [(0,dx g.aN),(1,dx g.done),(2,dx (aM g m).1.aN),(3,dx (aM g m).1.done)]:=by
 have:=TC.JZ (args:=[.a [.r (rI g.id),.r (rI g.clock),.own 0,.own 1],gI .i64 m]) (m:=2) (sto:=Gu g) (jh (E:=E) g m h h0) (Fits.of (by simp[iT,ak.live,List.range_succ]) (by simp) (by simp)) (by simp[ai,List.range_succ]) (by simp[GV.du,tw,TV.du]) (by simp[ak.du,au,RT.flat])
 simpa using this
theorem qj (g:az)(m t s:Int)(h:fc g 4294967290):TC Tw.prog E 123 [.a [.r (rI g.id),.r (rI g.clock),.own 0,.own 1],gI .i64 m,km (t,s)] 2 (Gu g) (.p [Gq (bR g m t s).1 2 3,.s (.own 4),gB (bR g m t s).2.2]) [(0,dx g.aN),(1,dx g.done),(2,dx (bR g m t s).1.aN),(3,dx (bR g m t s).1.done),(4,lf (bR g m t s).2.1)]:=by
 have:=TC.JZ (args:=[.a [.r (rI g.id),.r (rI g.clock),.own 0,.own 1],gI .i64 m,km (t,s)]) (m:=2) (sto:=Gu g) (oX (E:=E) g m t s h) (Fits.of (by simp[iT,ak.live,List.range_succ]) (by simp) (by simp)) (by simp[ai,List.range_succ]) (by simp[GV.du,tw,TV.du]) (by simp[ak.du,au,RT.flat])
 simpa using this
def dA (o:Int→Int→Int):Nat→Nat→Int→az→az×Int
 |0,_,p,g=>(g,p+1)
 |n+1,i,p,g=>if(i:Int)<o p 14 then
   if o (p+2) 2=0 then dA o n (i+1) (p+3) (if(aM g (o (p+1) 8)).2.2=true then(aM g (o (p+1) 8)).1 else g)
   else dA o n (i+1) (p+5) (if(bR g (o (p+1) 8) (1+o (p+3) (g.clock+3)) (o (p+4) 5)).2.2=true then(bR g (o (p+1) 8) (1+o (p+3) (g.clock+3)) (o (p+4) 5)).1 else g)
  else(g,p+1)
def i6 (es:List aK)(k:Int):aK:=es.getD k.toNat ⟨0,0,0,false⟩
def Ca (o:Int→Int→Int)(g:az)(p:Int):az×Int:=
 if o p 18=0 then(⟨g.id,ML [0,998,999,1000] (o (p+1) 4),g.aN,g.done⟩,p+2)
 else if o p 18=1 then if g.aN.length=0 then(g,p+1)else
  (⟨g.id,g.clock,g.aN.set (o (p+1) g.aN.length).toNat ⟨(i6 g.aN (o (p+1) g.aN.length)).m,(eB o (p+2)).1.1,(eB o (p+2)).1.2,(i6 g.aN (o (p+1) g.aN.length)).f⟩,g.done⟩,(eB o (p+2)).2)
 else if o p 18=2 then if g.aN.length=0 then(g,p+1)else
  (⟨g.id,g.clock,g.aN.set (o (p+1) g.aN.length).toNat ⟨(i6 g.aN (o (p+1) g.aN.length)).m,(i6 g.aN (o (p+1) g.aN.length)).t,(i6 g.aN (o (p+1) g.aN.length)).g,true⟩,g.done⟩,p+2)
 else if o p 18=3 then if g.done.length=0 then(g,p+1)else
  (⟨g.id,g.clock,g.aN,g.done.set (o (p+1) g.done.length).toNat ⟨o (p+2) 8,(i6 g.done (o (p+1) g.done.length)).t,(i6 g.done (o (p+1) g.done.length)).g,(i6 g.done (o (p+1) g.done.length)).f⟩⟩,p+3)
 else if o p 18=4 then(⟨o (p+1) 7-1,g.clock,g.aN,g.done⟩,p+2)
 else(g,p+1)
def iu (o:Int→Int→Int)(p:Int):az×Int:=Ca o (dA o 14 0 (p+1) (mJ (o p 5))).1 (dA o 14 0 (p+1) (mJ (o p 5))).2
theorem yJ (o:Int→Int→Int)(p:Int):p+3≤(eB o p).2∧(eB o p).2≤p+4:=by
 unfold eB;repeat' split
 all_goals(simp only;omega)
theorem qX (o:Int→Int→Int):∀(n i:Nat) (p:Int) (g:az) (N:Nat),fc g N→p+1≤(dA o n i p g).2∧(dA o n i p g).2≤p+1+5*n∧fc (dA o n i p g).1 (N+n)
 |0,i,p,g,N,h=>⟨by simp[dA],by simp[dA],by simpa[dA]using h⟩
 |n+1,i,p,g,N,h=>by
  unfold dA;split
  ·split
   ·obtain⟨a,b,c⟩:=qX o n (i+1) (p+3) (if(aM g (o (p+1) 8)).2.2=true then(aM g (o (p+1) 8)).1 else g) (N+1) (by
     split
     ·exact ld _ h
     ·exact h.mono (by omega))
    exact⟨by omega,by omega,by rw[show N+(n+1)=N+1+n by omega];exact c⟩
   ·obtain⟨a,b,c⟩:=qX o n (i+1) (p+5) (if(bR g (o (p+1) 8) (1+o (p+3) (g.clock+3)) (o (p+4) 5)).2.2=true then(bR g (o (p+1) 8) (1+o (p+3) (g.clock+3)) (o (p+4) 5)).1 else g) N (by
     split
     ·exact sF _ _ _ h
     ·exact h)
    exact⟨by omega,by omega,c.mono (by omega)⟩
  ·exact⟨by simp only;omega,by simp only;omega,h.mono (by omega)⟩
theorem Jg (o:Int→Int→Int)(p:Int):p+3≤(iu o p).2∧(iu o p).2≤p+90∧(iu o p).1.aN.length+(iu o p).1.done.length≤14:=by
 obtain⟨a,b,c⟩:=qX o 14 0 (p+1) (mJ (o p 5)) 0 ⟨by simp,by simp⟩
 unfold iu;generalize dA o 14 0 (p+1) (mJ (o p 5))=G at*;have hl:=c.1;have hs:=yJ o (G.2+2);unfold Ca;repeat' split
 all_goals(simp only[List.length_set];refine⟨?_,?_,?_⟩<;>omega)
theorem xI (g:az)(m:Int):(aM g m).1.clock≤max g.clock (g.clock+1):=by
 unfold aM;repeat' split
 all_goals(simp only;omega)
theorem Cb (g:az)(m t s:Int):(bR g m t s).1.clock≤max g.clock t:=by
 unfold bR;repeat' split
 all_goals(simp only;omega)
theorem oZ {es:List aK}{k:Int}(h:k.toNat<es.length):es[k.toNat]?=some (i6 es k):=by
 unfold i6;rw[List.getD_eq_getElem?_getD,List.getElem?_eq_getElem h];rfl
set_option maxHeartbeats 8000000 in
theorem GD {bs:List Int}(h:mH bs)(p:Int)(h0:0≤p)(U:p≤999990000):
  TC Tw.prog E 107 [uS] 1 [(0,mG bs p)] (.a ((ai (iu (pk bs) p).1).map .r)) [(0,mG bs (iu (pk bs) p).2)]:=by
 have q1:=mI h (k:=p) (n:=5) h0 (by omega)
 have uJ:=dO h (k:=p) (n:=5) h0 (by omega) (by omega)
 have hg:bw (pk bs p 5)=true:=by simp[bw];omega
 refine tE Tryz.f107 Tryz.ntmps107 (by rw[Tryz.results107]) ?_ (hfit:=(Fits.of (by simp[iT,ak.live]) (by simp) (by simp)))
 unfold iu;(refine TW.go ?_;simp;repeat' first|intro hc|refine aa.mk ?_|refine aI ?_|refine ah ?_ ?_|(refine cR ?_;refine⟨_,_,bd h _ _ (by omega) (by omega),?_⟩;simp)|(refine cF [] 2 ?_;refine⟨_,_,jN _ hg,?_⟩;simp))
 refine tL (fun(x:Nat×Int×az)=>⟨[(0,uS),(2,.s (.ptr 1 0)),(3,.s (.ptr 2 0)),(5,gI .i64 (x.1:Nat))],[(0,mG bs x.2.1),(1,.box [.r (rI 0),.r (rI 0),.r .nil,.r .nil]),(2,.box [.r (rI x.2.2.id),.r (rI x.2.2.clock),.own 3,.own 4]),(3,dx x.2.2.aN),(4,dx x.2.2.done)],5⟩)
  (fun x=>x.1≤14∧p+1≤x.2.1∧x.2.1≤p+1+5*x.1∧fc x.2.2 x.1∧x.2.2.clock≤4*x.1∧dA (pk bs) (14-x.1) x.1 x.2.1 x.2.2=dA (pk bs) 14 0 (p+1) (mJ (pk bs p 5))) (fun x=>14-x.1) (0,p+1,mJ (pk bs p 5)) ⟨by simp,by simp,by simp,⟨by simp,by simp⟩,by simp,rfl⟩
  (kO [1,4,2,3] []) fun x hx=>?_
 obtain⟨i,q,g⟩:=x;obtain⟨hi,r1,r2,rR,hck,bj⟩:=hx;simp only at hi r1 r2 rR hck bj⊢
 have q0:0≤q:=by omega
 have q2:q≤999999000:=by omega
 have z1:=mI h (k:=q) (n:=14) q0 (by omega)
 have z2:=dO h (k:=q) (n:=14) q0 (by omega) (by omega)
 have e2:q+1+1=q+2:=by omega
 have e3:q+2+1=q+3:=by omega
 have e4:q+3+1=q+4:=by omega
 have e5:q+4+1=q+5:=by omega
 have hle:fE g 4294967290:=by have:=rR.1;exact⟨by omega,by omega⟩
 have Xq:=rR.2;by_cases aj:(i:Int)<pk bs q 14
 ·have aF:IntKind.i64.wrap ((i:Int)+1)=(i:Int)+1:=aL (by omega) (by omega)
  rw[show 14-i=(14-(i+1))+1 by omega,dA,if_pos aj]at bj
  by_cases eC:pk bs (q+2) 2=0
  ·rw[if_pos eC]at bj
   have hpc:=xI g (pk bs (q+1) 8)
   cases hb:(aM g (pk bs (q+1) 8)).2.2
   ·rw[hb,if_neg (by simp)]at bj
    (refine TW.go ?_;simp[aj,aF,e2,e3,eC,hb];repeat' first|intro hc|refine aa.mk ?_|refine aI ?_|refine ah ?_ ?_|(refine cR ?_;refine⟨_,_,bd h _ _ (by omega) (by omega),?_⟩;simp[aj,aF,e2,e3,eC,hb])|(refine cL [3,4] 2 ?_;refine⟨_,_,_,_,nS g (pk bs (q+1) 8) hle Xq,?_⟩;simp[aj,aF,e2,e3,eC,hb]))
    exact⟨(i+1,q+3,g),⟨by simp only;omega,by simp only;omega,by simp only;omega,rR.mono (by omega),by simp only;omega,bj⟩,by simp only;omega,kO [1,2,3,4] []⟩
   ·rw[hb,if_pos rfl]at bj
    have QJ:=ld (pk bs (q+1) 8) rR;(refine TW.go ?_;simp[aj,aF,e2,e3,eC,hb];repeat' first|intro hc|refine aa.mk ?_|refine aI ?_|refine ah ?_ ?_|(refine cR ?_;refine⟨_,_,bd h _ _ (by omega) (by omega),?_⟩;simp[aj,aF,e2,e3,eC,hb])|(refine cL [3,4] 2 ?_;refine⟨_,_,_,_,nS g (pk bs (q+1) 8) hle Xq,?_⟩;simp[aj,aF,e2,e3,eC,hb]))
    exact⟨(i+1,q+3,(aM g (pk bs (q+1) 8)).1),⟨by simp only;omega,by simp only;omega,by simp only;omega,QJ,by simp only;omega,bj⟩,by simp only;omega,kO [1,2,5,6] []⟩
  ·rw[if_neg eC]at bj
   have z3:=mI h (k:=q+3) (n:=g.clock+3) (by omega) (by omega)
   have z3':=dO h (k:=q+3) (n:=g.clock+3) (by omega) (by omega) (by omega)
   have w3:IntKind.i64.wrap (g.clock+3)=g.clock+3:=aL (by omega) (by omega)
   have w4:IntKind.i64.wrap (1+pk bs (q+3) (g.clock+3))=1+pk bs (q+3) (g.clock+3):=aL (by omega) (by omega)
   have hfc:=Cb g (pk bs (q+1) 8) (1+pk bs (q+3) (g.clock+3)) (pk bs (q+4) 5);have Xr:=rR.mono (n':=4294967290) (by omega)
   cases hb:(bR g (pk bs (q+1) 8) (1+pk bs (q+3) (g.clock+3)) (pk bs (q+4) 5)).2.2
   ·rw[hb,if_neg (by simp)]at bj
    (refine TW.go ?_;simp[aj,aF,e2,e3,e4,e5,eC,hb,w3,w4];repeat' first|intro hc|refine aa.mk ?_|refine aI ?_|refine ah ?_ ?_|(refine cR ?_;refine⟨_,_,bd h _ _ (by omega) (by omega),?_⟩;simp[aj,aF,e2,e3,e4,e5,eC,hb,w3,w4])|(refine cL [3,4] 3 ?_;refine⟨_,_,_,_,qj g (pk bs (q+1) 8) (1+pk bs (q+3) (g.clock+3)) (pk bs (q+4) 5) Xr,?_⟩;simp[aj,aF,e2,e3,e4,e5,eC,hb,w3,w4]))
    exact⟨(i+1,q+5,g),⟨by simp only;omega,by simp only;omega,by simp only;omega,rR.mono (by omega),by simp only;omega,bj⟩,by simp only;omega,kO [1,2,3,4] []⟩
   ·rw[hb,if_pos rfl]at bj
    have Qj:=sF (pk bs (q+1) 8) (1+pk bs (q+3) (g.clock+3)) (pk bs (q+4) 5) rR;(refine TW.go ?_;simp[aj,aF,e2,e3,e4,e5,eC,hb,w3,w4];repeat' first|intro hc|refine aa.mk ?_|refine aI ?_|refine ah ?_ ?_|(refine cR ?_;refine⟨_,_,bd h _ _ (by omega) (by omega),?_⟩;simp[aj,aF,e2,e3,e4,e5,eC,hb,w3,w4])|(refine cL [3,4] 3 ?_;refine⟨_,_,_,_,qj g (pk bs (q+1) 8) (1+pk bs (q+3) (g.clock+3)) (pk bs (q+4) 5) Xr,?_⟩;simp[aj,aF,e2,e3,e4,e5,eC,hb,w3,w4]))
    exact⟨(i+1,q+5,(bR g (pk bs (q+1) 8) (1+pk bs (q+3) (g.clock+3)) (pk bs (q+4) 5)).1),⟨by simp only;omega,by simp only;omega,by simp only;omega,Qj.mono (by omega),by simp only;omega,bj⟩,by simp only;omega,kO [1,2,5,6] []⟩
 ·have PX:dA (pk bs) (14-i) i q g=(g,q+1):=by
   rcases hn:14-i with _|n
   ·rfl
   ·rw[dA,if_neg aj]
  rw[←bj,PX];simp only
  unfold Ca;have f2:q+1+2=q+3:=by omega
  have f3:q+1+3=q+4:=by omega
  have tn:g.aN.length≤14:=by have:=rR.1;omega
  have UH:g.done.length≤14:=by have:=rR.1;omega
  by_cases c0:pk bs (q+1) 18=0
  ·rw[if_pos c0]
   have y1:=mI h (k:=q+2) (n:=4) (by omega) (by omega)
   have y2:=dO h (k:=q+2) (n:=4) (by omega) (by omega) (by omega)
   have ht:=tI (xs:=[0,998,999,1000]) y1 (by simpa using y2)
   simp only[List.map_cons,List.map_nil]at ht;(refine TW.go ?_;simp[aj,e2,e3,f2,c0,ht,y1,ai];repeat' first|intro hc|refine aa.mk ?_|refine aI ?_|refine ah ?_ ?_|(refine cR ?_;refine⟨_,_,bd h _ _ (by omega) (by omega),?_⟩;simp[aj,e2,e3,f2,c0,ht,y1,ai]))
   refine ar.own [] [3,4] (by simp;rfl) (by simp[ai,e2,f2]) (by simp) (by simp) (by simp[ai,e2,f2]) (by simp)
  ·rw[if_neg c0]
   by_cases c1:pk bs (q+1) 18=1
   ·rw[if_pos c1]
    have hP0:¬(g.aN.length=0)∨g.aN.length=0:=by omega
    rcases hP0 with hP|hP
    ·rw[if_neg hP]
     have sI:0<g.aN.length:=by omega
     rw[e2];try rw[f2];have y1:=mI h (k:=q+2) (n:=g.aN.length) (by omega) (by omega)
     have y2:=dO h (k:=q+2) (n:=g.aN.length) (by omega) (by omega) (by omega)
     have he:=oZ (es:=g.aN) (k:=pk bs (q+2) g.aN.length) (by omega)
     have hS:=GA (E:=E) h (q+3) (by omega) (by omega)
     generalize eB (pk bs) (q+3)=S at*;generalize i6 g.aN (pk bs (q+2) g.aN.length)=e at*;generalize Cc:pk bs (q+2) g.aN.length=Kx at*;(refine TW.go ?_;simp[aj,e2,e3,c1,sI,Cc,y1,he,au,ai];repeat' first|intro hc|refine aa.mk ?_|refine aI ?_|refine ah ?_ ?_|(refine cR ?_;refine⟨_,_,bd h _ _ (by omega) (by omega),?_⟩;simp[aj,e2,e3,c1,sI,Cc,y1,he,au,ai])|(refine cR ?_;refine⟨_,_,hS,?_⟩;simp[aj,e2,e3,c1,sI,Cc,y1,he,au,ai]))
     refine ar.own [] [3,4] (by simp;rfl) (by simp[ai,au]) (by simp) (by simp) (by simp[ai,au]) (by simp)
    ·rw[if_pos hP]
     (refine TW.go ?_;simp[aj,e2,c1,hP,ai];repeat' first|intro hc|refine aa.mk ?_|refine aI ?_|refine ah ?_ ?_|(refine cR ?_;refine⟨_,_,bd h _ _ (by omega) (by omega),?_⟩;simp[aj,e2,c1,hP,ai]))
     refine ar.own [] [3,4] (by simp;rfl) (by simp[ai,e2]) (by simp) (by simp) (by simp[ai,e2]) (by simp)
   ·rw[if_neg c1]
    by_cases c2:pk bs (q+1) 18=2
    ·rw[if_pos c2]
     by_cases hP:g.aN.length=0
     ·rw[if_pos hP]
      (refine TW.go ?_;simp[aj,e2,c2,hP,ai];repeat' first|intro hc|refine aa.mk ?_|refine aI ?_|refine ah ?_ ?_|(refine cR ?_;refine⟨_,_,bd h _ _ (by omega) (by omega),?_⟩;simp[aj,e2,c2,hP,ai]))
      refine ar.own [] [3,4] (by simp;rfl) (by simp[ai,e2]) (by simp) (by simp) (by simp[ai,e2]) (by simp)
     ·rw[if_neg hP]
      have sI:0<g.aN.length:=by omega
      rw[e2];try rw[f2];have y1:=mI h (k:=q+2) (n:=g.aN.length) (by omega) (by omega)
      have y2:=dO h (k:=q+2) (n:=g.aN.length) (by omega) (by omega) (by omega)
      have he:=oZ (es:=g.aN) (k:=pk bs (q+2) g.aN.length) (by omega)
      generalize i6 g.aN (pk bs (q+2) g.aN.length)=e at*;generalize Cc:pk bs (q+2) g.aN.length=Kx at*;(refine TW.go ?_;simp[aj,e2,e3,c2,sI,Cc,y1,he,au,ai];repeat' first|intro hc|refine aa.mk ?_|refine aI ?_|refine ah ?_ ?_|(refine cR ?_;refine⟨_,_,bd h _ _ (by omega) (by omega),?_⟩;simp[aj,e2,e3,c2,sI,Cc,y1,he,au,ai]))
      refine ar.own [] [3,4] (by simp;rfl) (by simp[ai,au]) (by simp) (by simp) (by simp[ai,au]) (by simp)
    ·rw[if_neg c2]
     by_cases c3:pk bs (q+1) 18=3
     ·rw[if_pos c3]
      by_cases hP:g.done.length=0
      ·rw[if_pos hP]
       (refine TW.go ?_;simp[aj,e2,c3,hP,ai];repeat' first|intro hc|refine aa.mk ?_|refine aI ?_|refine ah ?_ ?_|(refine cR ?_;refine⟨_,_,bd h _ _ (by omega) (by omega),?_⟩;simp[aj,e2,c3,hP,ai]))
       refine ar.own [] [3,4] (by simp;rfl) (by simp[ai,e2]) (by simp) (by simp) (by simp[ai,e2]) (by simp)
      ·rw[if_neg hP]
       have sI:0<g.done.length:=by omega
       rw[e2,f2,f3];have y1:=mI h (k:=q+2) (n:=g.done.length) (by omega) (by omega)
       have y2:=dO h (k:=q+2) (n:=g.done.length) (by omega) (by omega) (by omega)
       have he:=oZ (es:=g.done) (k:=pk bs (q+2) g.done.length) (by omega)
       generalize i6 g.done (pk bs (q+2) g.done.length)=e at*;generalize Cc:pk bs (q+2) g.done.length=Kx at*;(refine TW.go ?_;simp[aj,e2,e3,e4,c3,sI,Cc,y1,he,au,ai];repeat' first|intro hc|refine aa.mk ?_|refine aI ?_|refine ah ?_ ?_|(refine cR ?_;refine⟨_,_,bd h _ _ (by omega) (by omega),?_⟩;simp[aj,e2,e3,e4,c3,sI,Cc,y1,he,au,ai]))
       refine ar.own [] [3,4] (by simp;rfl) (by simp[ai,au]) (by simp) (by simp) (by simp[ai,au]) (by simp)
     ·rw[if_neg c3]
      by_cases c4:pk bs (q+1) 18=4
      ·rw[if_pos c4]
       have y1:=mI h (k:=q+2) (n:=7) (by omega) (by omega)
       have y2:=dO h (k:=q+2) (n:=7) (by omega) (by omega) (by omega)
       have w5:IntKind.i64.wrap (pk bs (q+2) 7-1)=pk bs (q+2) 7-1:=aL (by omega) (by omega)
       (refine TW.go ?_;simp[aj,e2,e3,f2,c0,c1,c2,c3,c4,w5,ai];repeat' first|intro hc|refine aa.mk ?_|refine aI ?_|refine ah ?_ ?_|(refine cR ?_;refine⟨_,_,bd h _ _ (by omega) (by omega),?_⟩;simp[aj,e2,e3,f2,c0,c1,c2,c3,c4,w5,ai]))
       refine ar.own [] [3,4] (by simp;rfl) (by simp[ai,e2,f2]) (by simp) (by simp) (by simp[ai,e2,f2]) (by simp)
      ·rw[if_neg c4]
       (refine TW.go ?_;simp[aj,e2,e3,c0,c1,c2,c3,c4,ai];repeat' first|intro hc|refine aa.mk ?_|refine aI ?_|refine ah ?_ ?_|(refine cR ?_;refine⟨_,_,bd h _ _ (by omega) (by omega),?_⟩;simp[aj,e2,e3,c0,c1,c2,c3,c4,ai]))
       refine ar.own [] [3,4] (by simp;rfl) (by simp[ai,e2]) (by simp) (by simp) (by simp[ai,e2]) (by simp)
end Go.Proofs.YtjklkppncmhehaaGreat.T
namespace Go.Proofs.YtjklkppncmhehaaGreat.T
open Go Go.RowKit
set_option maxRecDepth 100000
set_option maxHeartbeats 4000000
variable {E:List PanicEntry→World→Prop}
def xJ (o:Int→Int→Int)(G:List az)(p:Int):List az×Int:=
 if o (p+1) 16=0 then(G.take (o p 5).toNat,p+2)
 else if o (p+1) 16=1 then(G.set (o p 5).toNat (iu o (p+2)).1,(iu o (p+2)).2)
 else if o (p+1) 16=2 then if(aG G (o p 5).toNat).done.length=0 then(G,p+2)else(G.set (o p 5).toNat ⟨(aG G (o p 5).toNat).id,(aG G (o p 5).toNat).clock,(aG G (o p 5).toNat).aN,(aG G (o p 5).toNat).done.drop 1⟩,p+2)
 else if o (p+1) 16=3 then(G.set (o p 5).toNat ⟨(o p 5+1).tmod 5,(aG G (o p 5).toNat).clock,(aG G (o p 5).toNat).aN,(aG G (o p 5).toNat).done⟩,p+2)
 else(G,p+2)
def eN (o:Int→Int→Int)(p:Int):List az×Int:=xJ o (cO o p).1.aO (cO o p).2
theorem uB (o:Int→Int→Int)(p:Int):gw (eN o p).1 400∧(eN o p).1.length≤5∧p+3≤(eN o p).2∧(eN o p).2≤p+700:=by
 obtain⟨a,b,c⟩:=qW o p;have h5:=c.g5;have hg:∀g∈(cO o p).1.aO,fE g 400:=fun g hg=>by have:=(c.uQ g hg).1;exact⟨by omega,by omega⟩
 have FB:=Jg o ((cO o p).2+2);have vL:fE (aG (cO o p).1.aO (o (cO o p).2 5).toNat) 400:=by
  by_cases h:(o (cO o p).2 5).toNat<(cO o p).1.aO.length
  ·exact hg _ (oV h)
  ·unfold aG
   rw[List.getD_eq_getElem?_getD,List.getElem?_eq_none (by omega)]
   exact⟨by simp,by simp⟩
 unfold eN xJ;generalize(cO o p).1.aO=G at*;generalize(cO o p).2=q at*;have b_:∀(i:Nat) (x:az),fE x 400→gw (G.set i x) 400:=fun i x hx=>⟨by simp;omega,fun g hm=>by
  rcases mem_set hm with rfl|hm
  ·exact hx
  ·exact hg g hm⟩
 split
 ·exact⟨⟨by simp;omega,fun g hm=>hg g (List.mem_of_mem_take hm)⟩,by simp;omega,by simp only;omega,by simp only;omega⟩
 ·split
  ·exact⟨b_ _ _ ⟨by have:=FB.2.2;omega,by have:=FB.2.2;omega⟩,by simp;omega,by simp only;omega,by simp only;omega⟩
  ·split
   ·split
    ·exact⟨⟨by simp only;omega,hg⟩,by simp only;omega,by simp only;omega,by simp only;omega⟩
    ·exact⟨b_ _ _ ⟨vL.1,by have:=vL.2;simp only[List.length_drop];omega⟩,by simp;omega,by simp only;omega,by simp only;omega⟩
   ·split
    ·exact⟨b_ _ _ vL,by simp;omega,by simp only;omega,by simp only;omega⟩
    ·exact⟨⟨by simp only;omega,hg⟩,by simp only;omega,by simp only;omega,by simp only;omega⟩
theorem Cd {bs:List Int}(h:mH bs)(p:Int)(h0:0≤p)(U:p≤999900000):
  TC Tw.prog E 43 [uS] 1 [(0,mG bs p)] (.p [gR (dD (eN (pk bs) p).1),gR (I9 (cO (pk bs) p).1.aH)]) [(0,mG bs (eN (pk bs) p).2)]:=by
 obtain⟨wa,wb,wc⟩:=qW (pk bs) p;have hW:=GC (E:=E) h p h0 (by omega)
 have h5:=wc.g5;have xC:=mF.sys (wc.mono (by omega))
 unfold eN;generalize cO (pk bs) p=V at*;obtain⟨W,q⟩:=V;simp only at*
 have y1:=mI h (k:=q) (n:=5) (by omega) (by omega)
 have y2:=dO h (k:=q) (n:=5) (by omega) (by omega) (by omega)
 have e2:q+1+1=q+2:=by omega
 have hG:=fU (gs:=W.aO) (i:=(pk bs q 5).toNat) (by omega)
 have wm:IntKind.i64.wrap (pk bs q 5+1)=pk bs q 5+1:=aL (by omega) (by omega)
 have sd:=GD (E:=E) h (q+2) (by omega) (by omega)
 unfold xJ;generalize aG W.aO (pk bs q 5).toNat=G at*;generalize iu (pk bs) (q+2)=GF at*;generalize jO:pk bs q 5=kx at*;refine tE Tryz.f43 Tryz.ntmps43 (by rw[Tryz.results43]) ?_ (hfit:=(Fits.of (by simp[iT,ak.live]) (by simp) (by simp)))
 by_cases c0:pk bs (q+1) 16=0
 ·rw[if_pos c0]
  (refine TW.go ?_;simp[wT,e2,jO,y1,c0];repeat' first|intro hc|refine aa.mk ?_|refine aI ?_|refine ah ?_ ?_|(refine cR ?_;refine⟨_,_,hW,?_⟩;simp[wT,e2,jO,y1,c0])|(refine cF [] 1 ?_;refine⟨_,_,fF W.aO xC,?_⟩;simp[wT,e2,jO,y1,c0])|(refine cR ?_;refine⟨_,_,bd h _ _ (by omega) (by omega),?_⟩;simp[wT,e2,jO,y1,c0]))
  exact oW [] []
 ·rw[if_neg c0]
  by_cases c1:pk bs (q+1) 16=1
  ·rw[if_pos c1]
   (refine TW.go ?_;simp[wT,e2,jO,y1,c1,hG,ai];repeat' first|intro hc|refine aa.mk ?_|refine aI ?_|refine ah ?_ ?_|(refine cR ?_;refine⟨_,_,hW,?_⟩;simp[wT,e2,jO,y1,c1,hG,ai])|(refine cF [] 1 ?_;refine⟨_,_,fF W.aO xC,?_⟩;simp[wT,e2,jO,y1,c1,hG,ai])|(refine cR ?_;refine⟨_,_,bd h _ _ (by omega) (by omega),?_⟩;simp[wT,e2,jO,y1,c1,hG,ai])|(refine cR ?_;refine⟨_,_,sd,?_⟩;simp[wT,e2,jO,y1,c1,hG,ai]))
   refine ar.own [] [2] (by simp;rfl) (by simp[ai]) (by simp) (by simp) (by simp[ai]) (by simp)
  ·rw[if_neg c1]
   by_cases c2:pk bs (q+1) 16=2
   ·rw[if_pos c2]
    by_cases hP:G.done.length=0
    ·rw[if_pos hP]
     (refine TW.go ?_;simp[wT,e2,jO,y1,c2,hG,ai,hP];repeat' first|intro hc|refine aa.mk ?_|refine aI ?_|refine ah ?_ ?_|(refine cR ?_;refine⟨_,_,hW,?_⟩;simp[wT,e2,jO,y1,c2,hG,ai,hP])|(refine cF [] 1 ?_;refine⟨_,_,fF W.aO xC,?_⟩;simp[wT,e2,jO,y1,c2,hG,ai,hP])|(refine cR ?_;refine⟨_,_,bd h _ _ (by omega) (by omega),?_⟩;simp[wT,e2,jO,y1,c2,hG,ai,hP]))
     exact oW [] [2]
    ·rw[if_neg hP]
     have sI:0<G.done.length:=by omega
     (refine TW.go ?_;simp[wT,e2,jO,y1,c2,hG,ai,sI];repeat' first|intro hc|refine aa.mk ?_|refine aI ?_|refine ah ?_ ?_|(refine cR ?_;refine⟨_,_,hW,?_⟩;simp[wT,e2,jO,y1,c2,hG,ai,sI])|(refine cF [] 1 ?_;refine⟨_,_,fF W.aO xC,?_⟩;simp[wT,e2,jO,y1,c2,hG,ai,sI])|(refine cR ?_;refine⟨_,_,bd h _ _ (by omega) (by omega),?_⟩;simp[wT,e2,jO,y1,c2,hG,ai,sI]))
     refine ar.own [] [2] (by simp;rfl) (by simp[ai,dw]) (by simp) (by simp) (by simp[ai,dw]) (by simp)
   ·rw[if_neg c2]
    by_cases c3:pk bs (q+1) 16=3
    ·rw[if_pos c3]
     (refine TW.go ?_;simp[wT,e2,jO,y1,c3,hG,ai,wm];repeat' first|intro hc|refine aa.mk ?_|refine aI ?_|refine ah ?_ ?_|(refine cR ?_;refine⟨_,_,hW,?_⟩;simp[wT,e2,jO,y1,c3,hG,ai,wm])|(refine cF [] 1 ?_;refine⟨_,_,fF W.aO xC,?_⟩;simp[wT,e2,jO,y1,c3,hG,ai,wm])|(refine cR ?_;refine⟨_,_,bd h _ _ (by omega) (by omega),?_⟩;simp[wT,e2,jO,y1,c3,hG,ai,wm]))
     refine ar.own [] [2] (by simp;rfl) (by simp[ai]) (by simp) (by simp) (by simp[ai]) (by simp)
    ·rw[if_neg c3]
     (refine TW.go ?_;simp[wT,e2,jO,y1,c0,c1,c2,c3];repeat' first|intro hc|refine aa.mk ?_|refine aI ?_|refine ah ?_ ?_|(refine cR ?_;refine⟨_,_,hW,?_⟩;simp[wT,e2,jO,y1,c0,c1,c2,c3])|(refine cF [] 1 ?_;refine⟨_,_,fF W.aO xC,?_⟩;simp[wT,e2,jO,y1,c0,c1,c2,c3])|(refine cR ?_;refine⟨_,_,bd h _ _ (by omega) (by omega),?_⟩;simp[wT,e2,jO,y1,c0,c1,c2,c3]))
     exact oW [] [2]
end Go.Proofs.YtjklkppncmhehaaGreat.T
