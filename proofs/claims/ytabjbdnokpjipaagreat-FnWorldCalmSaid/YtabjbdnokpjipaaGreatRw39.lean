/-
What is proved: what the reference's functions of rounds do to trees and what rests on it. Conditions: as stated.
-/
import Derived.Test.YtabjbdnokpjipaaGreatRw37
import Derived.Test.YtabjbdnokpjipaaGreatRw38
set_option linter.unusedVariables false
set_option linter.unusedSimpArgs false
namespace Go.Proofs.YtabjbdnokpjipaaGreat.T
open Go Go.RowKit
set_option maxRecDepth 100000
set_option maxHeartbeats 4000000
variable {E:List PanicEntry→World→Prop}
abbrev R9 (xs:List (Int×Int)):az:= .rows 36 2 (xs.map eE)
def jT (r:cl)(n:Nat):Prop:=r.gs.length≤n∧r.aH.length≤n
abbrev NL (r:cl) (p d:Nat):GV:= .a [.r (rI r.m),.own p,.own d]
abbrev NM (r:cl):List (Nat×az):=[(0,fU r.gs),(1,R9 r.aH)]
theorem DC (r:cl)(h:jT r 4294967296):TC Tw.prog E 46 [.a ((aK r).map .r)] 0 [] (NL r 0 1) (NM r):=by
 obtain⟨hp,hd⟩:=h;refine tE Tryz.f46 Tryz.ntmps46 (by rw[Tryz.results46]) ?_
 (refine TW.go ?_;simp[aK,maxLen];repeat' first|intro hc|refine aa.mk ?_|refine aI ?_|refine af ?_ ?_)
 exact oW [3,5] []
theorem pN (r:cl)(h:jT r 4294967296):TC Tw.prog E 98 [.a ((aK r).map .r)] 0 [] (gB (fe r)) []:=by
 obtain⟨NN,hl⟩:=h;have hlen:r.aH.length≤maxLen:=by simp only[maxLen];omega
 refine tE Tryz.f98 Tryz.ntmps98 (by rw[Tryz.results98]) ?_
 (refine TW.go ?_;simp;repeat' first|intro hc|refine aa.mk ?_|refine aI ?_|refine af ?_ ?_)
 refine tL (fun k=>⟨[(1,.s (.ptr 0 0)),(3,gI .i64 (k:Nat))],[(0,.box ((aK r).map .r))],1⟩) (fun k=>k≤r.aH.length∧∀i,i<k→je r i=true) (fun k=>r.aH.length-k) 0 ⟨by omega,fun i hi=>by omega⟩ (kO [0] []) fun k hk=>?_
 obtain⟨hk,hf⟩:=hk;by_cases ak:k<r.aH.length
 ·have he:r.aH[k]?=some r.aH[k]:=List.getElem?_eq_getElem ak
  have hq:fe r=false∨je r k=true:=by
   cases h:je r k
   ·exact .inl (by simp[fe,eD ak h])
   ·exact .inr rfl
  rcases k with _|k
  ·have bT:je r 0=(bc r.aH[0].1 r.aH[0].2&&cb r.gs r.aH[0].2):=by simp[je,ak]
   (refine TW.go ?_;simp[ak,he,aK,eE];repeat' first|intro hc|refine aa.mk ?_|refine aI ?_|refine af ?_ ?_|(refine cP ?_;(first|refine⟨_,pH _ _,?_⟩|refine⟨_,oM _ _,?_⟩);simp[ak,he,aK,eE]))
   all_goals first
    |(refine⟨1,⟨by omega,fun i hi=>?_⟩,by omega,Wk.own [0] [] (by simp) (by simp) (by simp[aK]) (by simp) (by simp)⟩
      obtain rfl:i=0:=by omega
      simp_all)
    |(refine aT.nil (r:=gB (fe r)) ?_ rfl
      rcases hq with hq|hq
      ·simp[hq]
      ·exfalso
       first|(simp_all;done)|(simp_all;omega))
  ·have du:r.aH[k]?=some r.aH[k]:=List.getElem?_eq_getElem (by omega)
   have hw:=l8 (k:=k) (by omega)
   have aE:=wrap_add (k:=k+1) ak hlen;simp only[Int.natCast_add,Int.natCast_one]at aE;have dK:(0:Int)<(k:Int)+1:=by omega
   have an:(k:Int)+1<(r.aH.length:Int):=by omega
   have bT:je r (k+1)=(bc r.aH[k+1].1 r.aH[k+1].2&&cb r.gs r.aH[k+1].2&&decide (r.aH[k].2<r.aH[k+1].2)):=by simp[je,he,du]
   (refine TW.go ?_;simp[ak,he,du,hw,aE,dK,an,aK,eE];repeat' first|intro hc|refine aa.mk ?_|refine aI ?_|refine af ?_ ?_|(refine cP ?_;(first|refine⟨_,pH _ _,?_⟩|refine⟨_,oM _ _,?_⟩);simp[ak,he,du,hw,aE,dK,an,aK,eE]))
   all_goals first
    |(refine⟨k+1+1,⟨by omega,fun i hi=>?_⟩,by omega,Wk.own [0] [] (by simp) (by simp) (by simp[aK]) (by simp) (by simp)⟩
      by_cases e:i=k+1
      ·subst e;simp_all
      ·exact hf i (by omega))
    |(refine aT.nil (r:=gB (fe r)) ?_ rfl
      rcases hq with hq|hq
      ·simp[hq]
      ·exfalso
       first|(simp_all;done)|(simp_all;omega))
 ·obtain rfl:k=r.aH.length:=by omega
  have dW:db r.aH.length (je r)=true:=dD hf
  (refine TW.go ?_;simp[aK];repeat' first|intro hc|refine aa.mk ?_|refine aI ?_|refine af ?_ ?_|(refine cP ?_;(first|refine⟨_,vR _,?_⟩|refine⟨_,oN _,?_⟩);simp[aK]))
  all_goals
   refine aT.nil (r:=gB (fe r)) ?_ rfl;simp_all[fe]
theorem Zd (aH:List (Int×Int))(g:Int):dy aH g≤aH.length:=(List.takeWhile_sublist _).length_le
theorem Ze {aH:List (Int×Int)}{g:Int}{k:Nat}{x:Int×Int}(hk:∀i,i<k→∀x,aH[i]?=some x→x.2<g)(he:aH[k]?=some x)(h:¬x.2<g):dy aH g=k:=by
 unfold dy;induction aH generalizing k with
 |nil=>simp at he
 |cons y aH ih=>
  cases k with
  |zero=>
   cases he;rw[List.takeWhile_cons];simp[h]
  |succ k=>
   have h0:=hk 0 (by omega) y rfl
   rw[List.takeWhile_cons,if_pos (by simpa using h0),List.length_cons,ih (k:=k) (fun i hi y hy=>hk (i+1) (by omega) y (by simpa using hy)) (by simpa using he)]
theorem VC {aH:List (Int×Int)}{g:Int}(hk:∀i,i<aH.length→∀x,aH[i]?=some x→x.2<g):dy aH g=aH.length:=by
 have h:aH.takeWhile (fun s=>decide (s.2<g))=aH:=by
  induction aH with
  |nil=>rfl
  |cons x es ih=>
   rw[List.takeWhile_cons,if_pos (by simpa using hk 0 (by simp) x rfl),ih fun i hi y hy=>hk (i+1) (by simp;omega) y (by simpa using hy)]
 unfold dy;rw[h]
theorem Gd (r:cl)(t s:Int)(h:jT r 4294967290):TC Tw.prog E 95 [.a ((aK r).map .r),mU (t,s)] 0 [] (.p [NL (gO r t s).1 0 1,gB (gO r t s).2]) (NM (gO r t s).1):=by
 obtain⟨NN,hl⟩:=h;have hle:jT r 4294967296:=⟨by omega,by omega⟩
 have hlen:r.aH.length≤maxLen:=by simp only[maxLen];omega
 refine tE Tryz.f95 Tryz.ntmps95 (by rw[Tryz.results95]) ?_
 (refine TW.go ?_;simp[aK];repeat' first|intro hc|refine aa.mk ?_|refine aI ?_|refine af ?_ ?_|(refine cF [] 2 ?_;refine⟨_,_,DC _ hle,?_⟩;simp[aK]))
 refine tL (fun(k:Nat)=>⟨[(2,.s (.ptr 0 0)),(3,.s (.ptr 1 0)),(4,.s (.ptr 2 0)),(6,.s (.ptr 3 0)),(7,gI .i64 (k:Nat))],
  [(0,.box ((aK r).map .r)),(1,.box [.r (rI t),.r (rI s)]),(2,.box [.r (rI 0),.r .nil,.r .nil]),(3,.box [.r (rI r.m),.own 4,.own 5]),(4,fU r.gs),(5,R9 r.aH)],6⟩) (fun k=>k≤r.aH.length∧∀i,i<k→∀x,r.aH[i]?=some x→x.2<s) (fun k=>r.aH.length-k) 0 ⟨by omega,fun i hi=>by omega⟩
  (Wk.own [0,1,2,5,3,4] [] (by simp) (by simp) (by simp[aK]) (by simp) (by simp)) fun k hk=>?_
 obtain⟨hk,p9⟩:=hk;have kl:(∃x,r.aH[k]?=some x∧x.2<s)∨(∃x,r.aH[k]?=some x∧¬x.2<s∧dy r.aH s=k)∨(k=r.aH.length∧dy r.aH s=k):=by
  rcases hx:r.aH[k]? with _|x
  ·have yq:k=r.aH.length:=by have:=List.getElem?_eq_none_iff.1 hx;omega
   refine .inr (.inr ⟨yq,?_⟩);subst yq;exact VC p9
  ·by_cases lI:x.2<s
   ·exact .inl ⟨x,rfl,lI⟩
   ·exact .inr (.inl ⟨x,rfl,lI,Ze p9 hx lI⟩)
 rcases kl with⟨x,hx,lI⟩|kl
 ·have ak:k<r.aH.length:=(List.getElem?_eq_some_iff.1 hx).1
  have an:(k:Int)<(r.aH.length:Int):=by omega
  have aE:=wrap_add ak hlen;(refine TW.go ?_;simp[an,hx,lI,aK,eE,aE];repeat' first|intro hc|refine aa.mk ?_|refine aI ?_|refine af ?_ ?_)
  refine⟨k+1,⟨by omega,fun i hi y hy=>?_⟩,by omega,Wk.own [0,1,2,3,4,5] [] (by simp) (by simp) (by simp[aK]) (by simp) (by simp)⟩
  by_cases e:i=k
  ·subst e;rw[hx]at hy;cases hy;exact lI
  ·exact p9 i (by omega) y hy
 ·have nD:dy r.aH s=k:=by
   rcases kl with⟨_,_,_,h⟩|⟨_,h⟩<;>exact h
  have pE:gO r t s=if cb r.gs s=false∨uk r.aH k s=true then(r,false)else(⟨r.m,r.gs,r.aH.take k++[(t,s)]++r.aH.drop k⟩,true):=by
   rw[gO,nD]
  cases hh:cb r.gs s
  ·rw[if_pos (.inl hh)]at pE
   rw[pE];rcases kl with⟨x,hx,lI,_⟩|⟨yq,_⟩
   ·have ak:k<r.aH.length:=(List.getElem?_eq_some_iff.1 hx).1
    have an:(k:Int)<(r.aH.length:Int):=by omega
    (refine TW.go ?_;simp[an,hx,lI,hh,aK,eE];repeat' first|intro hc|refine aa.mk ?_|refine aI ?_|refine af ?_ ?_|(refine cP ?_;refine⟨_,oM _ _,?_⟩;simp[an,hx,lI,hh,aK,eE]))
    exact oW [4,5] []
   ·subst yq
    (refine TW.go ?_;simp[hh,aK,eE];repeat' first|intro hc|refine aa.mk ?_|refine aI ?_|refine af ?_ ?_|(refine cP ?_;refine⟨_,oM _ _,?_⟩;simp[hh,aK,eE]))
    exact oW [4,5] []
  ·rcases kl with⟨x,hx,lI,_⟩|⟨yq,_⟩
   ·have ak:k<r.aH.length:=(List.getElem?_eq_some_iff.1 hx).1
    have an:(k:Int)<(r.aH.length:Int):=by omega
    by_cases fj:x.2=s
    ·rw[if_pos (.inr (by simp[uk,hx,fj]))]at pE
     rw[pE];(refine TW.go ?_;simp[an,hx,lI,fj,hh,aK,eE];repeat' first|intro hc|refine aa.mk ?_|refine aI ?_|refine af ?_ ?_|(refine cP ?_;refine⟨_,oM _ _,?_⟩;simp[an,hx,lI,fj,hh,aK,eE]))
     exact oW [4,5] []
    ·rw[if_neg (by simp[uk,hx,fj,hh])]at pE
     rw[pE];(refine TW.go ?_;simp[an,hx,lI,fj,hh,aK,eE,maxLen];repeat' first|intro hc|refine aa.mk ?_|refine aI ?_|refine af ?_ ?_|(refine cP ?_;refine⟨_,oM _ _,?_⟩;simp[an,hx,lI,fj,hh,aK,eE,maxLen]))
     refine aT.own [4,10] [] (by simp;rfl) (by simp[eE]) (by simp) (by simp) (by simp[eE]) (by simp)
   ·subst yq
    rw[if_neg (by simp[uk,hh])]at pE
    rw[pE];(refine TW.go ?_;simp[hh,aK,eE,maxLen];repeat' first|intro hc|refine aa.mk ?_|refine aI ?_|refine af ?_ ?_|(refine cP ?_;refine⟨_,oM _ _,?_⟩;simp[hh,aK,eE,maxLen]))
    refine aT.own [4,10] [] (by simp;rfl) (by simp[eE]) (by simp) (by simp) (by simp[eE]) (by simp)
theorem AF (r:cl)(h:r.gs≠[]):TC Tw.prog E 97 [.a ((aK r).map .r)] 0 [] (.p [mU (dx r).1,gB (dx r).2]) []:=by
 have dQ:0<r.gs.length:=List.length_pos_iff.2 h
 refine tE Tryz.f97 Tryz.ntmps97 (by rw[Tryz.results97]) ?_
 by_cases hl:r.aH.length<r.gs.length
 ·have bz:(r.aH.length:Int)<(r.gs.length:Int):=by omega
  rw[show dx r=((0,0),false) by rw[dx,if_pos hl]]
  (refine TW.go ?_;simp[aK,hl,bz];repeat' first|intro hc|refine aa.mk ?_|refine aI ?_|refine af ?_ ?_)
  refine aT.nil (r:= .p [mU (0,0),gB false]) ?_ rfl;simp
 ·have bz:¬(r.aH.length:Int)<(r.gs.length:Int):=by omega
  rw[show dx r=(lu r.aH,true) by rw[dx,if_neg hl]]
  rcases hx:r.aH with _|⟨x,xs⟩
  ·rw[hx]at hl;exact absurd dQ hl
  ·have bz:¬(xs.length:Int)+1<(r.gs.length:Int):=by rw[hx]at hl;simp at hl;omega
   (refine TW.go ?_;simp[aK,hx,bz];repeat' first|intro hc|refine aa.mk ?_|refine aI ?_|refine af ?_ ?_|(refine cP ?_;refine⟨_,NA x xs,?_⟩;simp[aK,hx,bz]))
   refine aT.nil (r:= .p [mU (lu (x::xs)),gB true]) ?_ rfl;simp[lu]
theorem Bs (m:Int)(gs:List Int)(hm:bj m=true)(hs:cB gs=true)(hl:gs.length≤4294967296):TC Tw.prog E 68 [gI .i64 m,gR (aY gs)] 0 [] (.p [NL ⟨m,gs,[]⟩ 0 1,gB true]) (NM ⟨m,gs,[]⟩):=by
 refine tE Tryz.f68 Tryz.ntmps68 (by rw[Tryz.results68]) ?_
 (refine TW.go ?_;simp[hm,hs,maxLen];repeat' first|intro hc|refine aa.mk ?_|refine aI ?_|refine af ?_ ?_|(refine cP ?_;(first|refine⟨_,vR _,?_⟩|refine⟨_,oN _,?_⟩);simp[hm,hs,maxLen]))
 exact oW [2,3] []
end Go.Proofs.YtabjbdnokpjipaaGreat.T
namespace Go.Proofs.YtabjbdnokpjipaaGreat.T
open Go Go.RowKit
set_option maxRecDepth 100000
set_option maxHeartbeats 4000000
variable {E:List PanicEntry→World→Prop}
abbrev rZ (xs:List (List Int)):az:= .rows 45 1 (xs.map fun s=>[aY s])
abbrev r_ (rs:List cl):az:= .rows 66 3 (rs.map aK)
abbrev mh (bs:List Bool):az:= .rows 4 1 (bs.map fun b=>[rB b])
abbrev qF (ps:List dE):az:= .rows 68 5 (ps.map cd)
abbrev wO:GV:= .a [.own 0,.own 1,.own 2,.own 3,.own 4]
abbrev wS (w:aA):List (Nat×az):=[(0,rZ w.aj),(1,fp w.ae),(2,r_ w.rounds),(3,mh w.aP),(4,qF w.aX)]
abbrev gP (p:dE):GV:= .a ((cd p).map .r)
abbrev jw (w:aA):Prop:=cw 4294900000 w
theorem jw.sys {w:aA}(h:jw w):iC w.ae 4294967296:=⟨by have:=h.g5;omega,fun g hg=>by have:=(h.dS g hg).1;exact⟨by omega,by omega⟩⟩
theorem fV (w:aA)(h:jw w):TC Tw.prog E 28 [gW w] 0 [] wO (wS w):=by
 have vW:=h.l_;have Bn:=h.rl;have kl:=h.sl;have kP:=h.nl;have hlen:w.aj.length≤maxLen:=by simp only[maxLen];omega
 refine tE Tryz.f28 Tryz.ntmps28 (by rw[Tryz.results28]) ?_
 (refine TW.go ?_;simp[wT,maxLen];repeat' first|intro hc|refine aa.mk ?_|refine aI ?_|refine af ?_ ?_|(refine cF [] 1 ?_;refine⟨_,_,Dj w.ae h.sys,?_⟩;simp[wT,maxLen]))
 refine tL (fun(k:Nat)=>⟨[(1,.s (.ptr 0 0)),(2,.s (.ptr 2 0)),(3,.s (.ptr 1 0)),(4,gI .i64 (k:Nat))],[(0,.box ((wT w).map .r)),(1,.box [.own 3,.own 4,.own 5,.own 6,.own 7]),(2,.box [.r .nil,.r .nil,.r .nil,.r .nil,.r .nil]),
   (3,rZ (w.aj.take k)),(4,fp w.ae),(5,r_ (w.rounds.take k)),(6,mh w.aP),(7,qF w.aX)],8⟩) (fun k=>k≤w.aj.length) (fun k=>w.aj.length-k) 0 (by omega)
  (Wk.own [0,9,1,2,3,4,6,8] [] (by simp) (by simp) (by simp[wT]) (by simp) (by simp)) fun k hk=>?_
 by_cases ak:k<w.aj.length
 ·have he:w.aj[k]?=some w.aj[k]:=List.getElem?_eq_getElem ak
  have abG:k<w.rounds.length:=by omega
  have uu:w.rounds[k]?=some w.rounds[k]:=List.getElem?_eq_getElem abG
  have iy:=h.set _ (List.getElem_mem ak);have tX:=h.oU _ (List.getElem_mem abG);have an:(k:Int)<(w.aj.length:Int):=by omega
  have aE:=wrap_add ak hlen;have EY:k≤12:=by omega
  generalize w.aj[k]=S at he iy;generalize w.rounds[k]=r at uu tX;obtain⟨-,hS5, -⟩:=iy;have hr:jT r 4294967296:=⟨by have:=tX.2.1;omega,by have:=tX.2.2;omega⟩
  have Jo:(List.take k (w.aj.map fun s=>[aY s])).length≤12:=by simp;omega
  have htr:(List.take k (w.rounds.map aK)).length≤12:=by simp;omega
  (refine TW.go ?_;simp[an,he,uu,wT,aK,aE,maxLen];repeat' first|intro hc|refine aa.mk ?_|refine aI ?_|refine af ?_ ?_|(refine cF [] 2 ?_;refine⟨_,_,DC r hr,?_⟩;simp[an,he,uu,wT,aK,aE,maxLen]))
  exact⟨k+1,by omega,by omega,Wk.own [0,1,2,11,4,15,6,7] [] (by simp) (by simp) (by simp[wT,fl he,fl uu,aK]) (by simp) (by simp)⟩
 ·obtain rfl:k=w.aj.length:=by omega
  (refine TW.go ?_;simp[wT];repeat' first|intro hc|refine aa.mk ?_|refine aI ?_|refine af ?_ ?_)
  refine aT.own [3,4,5,6,7] [] (by simp;rfl) (by simp[←Bn]) (by simp) (by simp) (by simp[←Bn]) (by simp)
theorem sd (w:aA)(p:dE)(h:w.aX.length≤16):TC Tw.prog E 70 [gW w,gP p] 0 [] (gW (dg w p)) []:=by
 refine tE Tryz.f70 Tryz.ntmps70 (by rw[Tryz.results70]) ?_
 by_cases hl:w.aX.length<16
 ·have bz:(w.aX.length:Int)<16:=by omega
  rw[dg,if_pos hl];(refine TW.go ?_;simp[wT,cd,bz,maxLen];repeat' first|intro hc|refine aa.mk ?_|refine aI ?_|refine af ?_ ?_)
  refine aT.own [] [6] (by simp;rfl) (by simp[wT,cd]) (by simp) (by simp) (by simp[wT,cd]) (by simp)
 ·have bz:¬(w.aX.length:Int)<16:=by omega
  rw[dg,if_neg hl];(refine TW.go ?_;simp[wT,cd,bz];repeat' first|intro hc|refine aa.mk ?_|refine aI ?_|refine af ?_ ?_)
  refine aT.own [] [] (by simp;rfl) (by simp[wT]) (by simp) (by simp) (by simp[wT]) (by simp)
theorem xi (f:Int→dE):∀(gs:List Int) (w:aA),w.aX.length≤16→(gs.foldl (fun w g=>dg w (f g)) w).aX.length≤16
 |[],w,h=>h
 |g::gs,w,h=>xi f gs _ (by show(dg w (f g)).aX.length≤16;unfold dg;split;(simp;omega);exact h)
theorem Ge (w:aA)(m:Int)(gs:List Int)(h:w.aX.length≤16):TC Tw.prog E 69 [gW w,gI .i64 m,gR (aY gs)] 0 [] (gW (im w m gs)) []:=by
 refine tE Tryz.f69 Tryz.ntmps69 (by rw[Tryz.results69]) ?_
 refine TW.len 2 rfl fun hlen=>?_;simp only[List.length_map]at hlen;(refine TW.go ?_;simp;repeat' first|intro hc|refine aa.mk ?_|refine aI ?_|refine af ?_ ?_)
 refine tL (fun(k:Nat)=>⟨[(1,gI .i64 m),(2,gR (aY gs)),(3,.s (.ptr 0 0)),(6,.s (.ptr 1 0)),(7,gI .i64 (k:Nat))],[(0,.box ((wT (im w m (gs.take k))).map .r)),(1,.box [.r .nil,.r .nil,.r .nil,.r .nil,.r .nil])],2⟩) (fun k=>k≤gs.length) (fun k=>gs.length-k) 0 (by omega)
  (Wk.own [0,1] [] (by simp) (by simp) (by simp[wT,im]) (by simp) (by simp)) fun k hk=>?_
 by_cases ak:k<gs.length
 ·have he:gs[k]?=some gs[k]:=List.getElem?_eq_getElem ak
  have an:(k:Int)<(gs.length:Int):=by omega
  have aE:=wrap_add ak hlen;generalize gs[k]=x at he;have dX:im w m (gs.take (k+1))=dg (im w m (gs.take k)) ⟨1,m,x,0,0⟩:=dr _ _ he
  have hn:(im w m (gs.take k)).aX.length≤16:=xi (fun g=>⟨1,m,g,0,0⟩) _ _ h
  generalize im w m (gs.take k)=v at*;(refine TW.go ?_;simp[an,he,wT,aE];repeat' first|intro hc|refine aa.mk ?_|refine aI ?_|refine af ?_ ?_|(refine cP ?_;refine⟨_,sd v ⟨1,m,x,0,0⟩ hn,?_⟩;simp[an,he,wT,aE]))
  exact⟨k+1,by omega,by omega,Wk.own [0,1] [] (by simp) (by simp) (by simp[dX,wT]) (by simp) (by simp)⟩
 ·obtain rfl:k=gs.length:=by omega
  rw[List.take_length];(refine TW.go ?_;simp[wT];repeat' first|intro hc|refine aa.mk ?_|refine aI ?_|refine af ?_ ?_)
  refine aT.own [] [] (by simp;rfl) (by simp[wT]) (by simp) (by simp) (by simp[wT]) (by simp)
theorem DD {n:Nat}(w:aA)(m:Int)(h:cw n w)(h0:0≤m)(h1:m<w.aj.length):TC Tw.prog E 72 [gW w,gI .i64 m] 0 [] (gW (jS w m)) []:=by
 have aeL:=h.l_;have Bn:=h.rl;have hm:m.toNat<w.rounds.length:=by omega
 have qG:m.toNat<w.aj.length:=by omega
 have uu:w.rounds[m.toNat]?=some (bC w m):=by rw[bC,List.getD_eq_getElem?_getD,List.getElem?_eq_getElem hm];rfl
 have bh:w.aj[m.toNat]?=some (setAt w m):=by rw[setAt,List.getD_eq_getElem?_getD,List.getElem?_eq_getElem qG];rfl
 obtain⟨-,hS5, -⟩:=nW h h0 h1;have tX:=kI h h0 h1;have hlen:(setAt w m).length≤maxLen:=by simp only[maxLen];omega
 rw[jS];generalize bC w m=r at*;refine tE Tryz.f72 Tryz.ntmps72 (by rw[Tryz.results72]) ?_
 cases hb:(dx r).2
 ·rw[if_neg (by simp)]
  (refine TW.go ?_;simp[h0,uu,wT,aK,hb];repeat' first|intro hc|refine aa.mk ?_|refine aI ?_|refine af ?_ ?_|(refine cP ?_;refine⟨_,AF r tX.1,?_⟩;simp[h0,uu,wT,aK,hb]))
  refine tL (fun(_:Unit)=>⟨[(1,gI .i64 m),(2,.s (.ptr 0 0)),(4,.s (.ptr 1 0)),(6,gB false),(7,gI .i64 0)],[(0,.box ((wT w).map .r)),(1,.box [.r .nil,.r .nil,.r .nil,.r .nil,.r .nil])],2⟩) (fun _=>True) (fun _=>0) () trivial
   (Wk.own [0,1] [] (by simp) (by simp) (by simp[wT]) (by simp) (by simp)) fun _ _=>?_
  (refine TW.go ?_;simp[h0,bh,wT];repeat' first|intro hc|refine aa.mk ?_|refine aI ?_|refine af ?_ ?_)
  all_goals refine aT.own [] [] (by simp;rfl) (by simp[wT]) (by simp) (by simp) (by simp[wT]) (by simp)
 ·rw[if_pos rfl]
  generalize hs:(dx r).1=s;(refine TW.go ?_;simp[h0,uu,wT,aK,hb,hs];repeat' first|intro hc|refine aa.mk ?_|refine aI ?_|refine af ?_ ?_|(refine cP ?_;refine⟨_,AF r tX.1,?_⟩;simp[h0,uu,wT,aK,hb,hs]))
  generalize hS:setAt w m=S at*;refine tL (fun(k:Nat)=>⟨[(1,gI .i64 m),(2,.s (.ptr 0 0)),(4,.s (.ptr 1 0)),(5,.s (.ptr 2 0)),(6,gB true),(7,gI .i64 (k:Nat))],[(0,.box ((wT (rT w m s (S.take k))).map .r)),(1,.box [.r .nil,.r .nil,.r .nil,.r .nil,.r .nil]),(2,.box [.r (rI s.1),.r (rI s.2)])],3⟩) (fun k=>k≤S.length) (fun k=>S.length-k) 0 (by omega)
   (Wk.own [0,1,2] [] (by simp) (by simp) (by simp[wT,rT]) (by simp) (by simp)) fun k hk=>?_
  have Jo:(rT w m s (S.take k)).aj=w.aj:=mY (fun g=>⟨3,m,g,s.1,s.2⟩) _ _
  by_cases ak:k<S.length
  ·have he:S[k]?=some S[k]:=List.getElem?_eq_getElem ak
   have an:(k:Int)<(S.length:Int):=by omega
   have aE:=wrap_add ak hlen;generalize S[k]=x at he;have dX:rT w m s (S.take (k+1))=dg (rT w m s (S.take k)) ⟨3,m,x,s.1,s.2⟩:=dr _ _ he
   have hn:(rT w m s (S.take k)).aX.length≤16:=xi (fun g=>⟨3,m,g,s.1,s.2⟩) _ _ h.nl
   generalize rT w m s (S.take k)=v at*;rw[←Jo]at bh;(refine TW.go ?_;simp[an,h0,bh,he,wT,aE];repeat' first|intro hc|refine aa.mk ?_|refine aI ?_|refine af ?_ ?_|(refine cP ?_;refine⟨_,sd v ⟨3,m,x,s.1,s.2⟩ hn,?_⟩;simp[an,h0,bh,he,wT,aE]))
   exact⟨k+1,by omega,by omega,Wk.own [0,1,2] [] (by simp) (by simp) (by simp[dX,wT]) (by simp) (by simp)⟩
  ·obtain rfl:k=S.length:=by omega
   rw[List.take_length]at*;rw[←Jo]at bh;(refine TW.go ?_;simp[h0,bh,wT];repeat' first|intro hc|refine aa.mk ?_|refine aI ?_|refine af ?_ ?_)
   refine aT.own [] [] (by simp;rfl) (by simp[wT]) (by simp) (by simp) (by simp[wT]) (by simp)
theorem QU (n:Int)(h0:0≤n)(h1:n≤31):TC Tw.prog E 67 [gI .i64 n] 0 [] (gR (aY (cQ n))) []:=by
 refine tE Tryz.f67 Tryz.ntmps67 (by rw[Tryz.results67]) ?_
 (refine TW.go ?_;simp;repeat' first|intro hc|refine aa.mk ?_|refine aI ?_|refine af ?_ ?_)
 refine tL (fun(p:Nat×Int×List Int)=>⟨[(0,gI .i64 p.2.1),(3,.s (.own 0)),(4,gI .i64 (p.1:Nat))],[(0,fU p.2.2)],1⟩) (fun p=>p.1≤5∧p.2.2.length≤p.1∧0≤p.2.1∧p.2.1≤31∧p.2.2++rU p.2.1 (5-p.1) (p.1:Nat)=cQ n) (fun p=>5-p.1) (0,n,[]) ⟨by simp,by simp,h0,h1,rfl⟩
  (kO [0] []) fun p hp=>?_
 obtain⟨k,n',out⟩:=p;obtain⟨hk,hl,q0,q1,hq⟩:=hp;simp only at hk hl q0 q1 hq⊢
 by_cases ak:k<5
 ·have an:(k:Int)<5:=by omega
  have aE:IntKind.i64.wrap ((k:Int)+1)=(k:Int)+1:=aQ (by omega) (by omega)
  have ht:n'.tdiv 2=n' / 2:=Int.tdiv_eq_ediv_of_nonneg q0
  have cU:IntKind.i64.wrap (n'.tdiv 2)=n'.tdiv 2:=aQ (by rw[ht];omega) (by rw[ht];omega)
  rw[show 5-k=(5-(k+1))+1 by omega,rU]at hq
  by_cases hb:n'.tmod 2=1
  ·rw[if_pos hb]at hq
   (refine TW.go ?_;simp[an,aE,cU,hb,maxLen];repeat' first|intro hc|refine aa.mk ?_|refine aI ?_|refine af ?_ ?_)
   exact⟨(k+1,n'.tdiv 2,out++[(k:Int)]),⟨by simp only;omega,by simp;omega,by simp only[ht];omega,by simp only[ht];omega,by simpa using hq⟩,by simp only;omega,kO [2] []⟩
  ·rw[if_neg hb]at hq
   (refine TW.go ?_;simp[an,aE,cU,hb,maxLen];repeat' first|intro hc|refine aa.mk ?_|refine aI ?_|refine af ?_ ?_)
   exact⟨(k+1,n'.tdiv 2,out),⟨by simp only;omega,by simp only;omega,by simp only[ht];omega,by simp only[ht];omega,by simpa using hq⟩,by simp only;omega,kO [0] []⟩
 ·obtain rfl:k=5:=by omega
  simp only[Nat.sub_self,rU,List.append_nil]at hq;subst hq;(refine TW.go ?_;simp;repeat' first|intro hc|refine aa.mk ?_|refine aI ?_|refine af ?_ ?_)
  exact oW [] [0]
end Go.Proofs.YtabjbdnokpjipaaGreat.T
namespace Go.Proofs.YtabjbdnokpjipaaGreat.T
open Go Go.RowKit
set_option maxRecDepth 100000
set_option maxHeartbeats 4000000
variable {E:List PanicEntry→World→Prop}
theorem jw.abH {w:aA}(h:jw w){m:Int}(h0:0≤m)(h1:m<w.aj.length):jT (bC w m) 4294967290:=by
 have:=kI h h0 h1
 exact⟨by have:=this.2.1;omega,by have:=this.2.2;omega⟩
theorem nY {w:aA}(h:jw w){m:Int}(h0:0≤m)(h1:m<w.aj.length):w.rounds[m.toNat]?=some (bC w m):=by
 have:=h.rl
 rw[bC,List.getD_eq_getElem?_getD,List.getElem?_eq_getElem (by omega)]
 rfl
theorem VD {w:aA}{m:Int}(h0:0≤m)(h1:m<w.aj.length):w.aj[m.toNat]?=some (setAt w m):=by
 rw[setAt,List.getD_eq_getElem?_getD,List.getElem?_eq_getElem (by omega)]
 rfl
theorem se {w:aA}(h:jw w){m:Int}(h0:0≤m)(h1:m<w.aj.length):w.aP[m.toNat]?=some (pM w m):=by
 have:=h.sl
 rw[pM,List.getD_eq_getElem?_getD,List.getElem?_eq_getElem (by omega)]
 rfl
theorem vu (r:cl)(h:jT r 4294967296):TC Tw.prog E 73 [.a ((aK r).map .r)] 0 [] (gR (aY (dk r))) []:=by
 obtain⟨NN,hl⟩:=h;have hlen:r.aH.length≤maxLen:=by simp only[maxLen];omega
 have nu:r.gs.length≤maxLen:=by simp only[maxLen];omega
 refine tE Tryz.f73 Tryz.ntmps73 (by rw[Tryz.results73]) ?_
 cases hv:fe r
 ·rw[show dk r=[] by rw[dk,hv];rfl]
  (refine TW.go ?_;simp[aK,hv];repeat' first|intro hc|refine aa.mk ?_|refine aI ?_|refine af ?_ ?_|(refine cP ?_;refine⟨_,pN r ⟨NN,hl⟩,?_⟩;simp[aK,hv]))
  exact oW [] [1]
 ·rw[show dk r=r.gs.filter fun g=> !iM r g by rw[dk,hv];rfl]
  (refine TW.go ?_;simp[aK,hv];repeat' first|intro hc|refine aa.mk ?_|refine aI ?_|refine af ?_ ?_|(refine cP ?_;refine⟨_,pN r ⟨NN,hl⟩,?_⟩;simp[aK,hv]))
  refine tL (fun(k:Nat)=>⟨[(1,.s (.ptr 0 0)),(3,.s (.own 1)),(4,gI .i64 (k:Nat))],[(0,.box ((aK r).map .r)),(1,fU ((r.gs.take k).filter fun g=> !iM r g))],2⟩) (fun k=>k≤r.gs.length) (fun k=>r.gs.length-k) 0 (by omega)
   (Wk.own [0,1] [] (by simp) (by simp) (by simp[aK]) (by simp) (by simp)) fun k hk=>?_
  by_cases ak:k<r.gs.length
  ·have he:r.gs[k]?=some r.gs[k]:=List.getElem?_eq_getElem ak
   have an:(k:Int)<(r.gs.length:Int):=by omega
   have aE:=wrap_add ak nu;generalize r.gs[k]=x at he;have hfl:((r.gs.take k).filter fun g=> !iM r g).length≤4294967296:=Nat.le_trans (List.length_filter_le _ _) (by simp;omega)
   have dX:(r.gs.take (k+1)).filter (fun g=> !iM r g)=(r.gs.take k).filter (fun g=> !iM r g)++if iM r x=true then[]else[x]:=by
    rw[List.take_add_one,he,List.filter_append]
    cases h:iM r x<;>simp[h]
   generalize(r.gs.take k).filter (fun g=> !iM r g)=out at*
   (refine TW.go ?_;simp[an,aK];repeat' first|intro hc|refine aa.mk ?_|refine aI ?_|refine af ?_ ?_)
   refine tL (fun(j:Nat)=>⟨[(1,.s (.ptr 0 0)),(3,.s (.own 1)),(4,gI .i64 (k:Nat)),(5,gB ((r.aH.take j).any fun s=>decide (s.2=x))),(6,gI .i64 (j:Nat))],[(0,.box ((aK r).map .r)),(1,fU out)],2⟩) (fun j=>j≤r.aH.length) (fun j=>r.aH.length-j) 0 (by omega)
    (Wk.own [0,1] [] (by simp) (by simp) (by simp[aK]) (by simp) (by simp)) fun j hj=>?_
   by_cases abI:j<r.aH.length
   ·have Bt:r.aH[j]?=some r.aH[j]:=List.getElem?_eq_getElem abI
    have abJ:(j:Int)<(r.aH.length:Int):=by omega
    have Vt:=wrap_add abI hlen;generalize r.aH[j]=y at Bt;have hsj:((r.aH.take (j+1)).any fun s=>decide (s.2=x))=((r.aH.take j).any (fun s=>decide (s.2=x))||decide (y.2=x)):=by
     rw[List.take_add_one,Bt,List.any_append];simp
    generalize(r.aH.take j).any (fun s=>decide (s.2=x))=f at*
    cases f
    ·(refine TW.go ?_;simp[abJ,an,he,Bt,Vt,aK,eE];repeat' first|intro hc|refine aa.mk ?_|refine aI ?_|refine af ?_ ?_)
     exact⟨j+1,by omega,by omega,Wk.own [0,1] [] (by simp) (by simp[hsj]) (by simp[aK]) (by simp) (by simp)⟩
    ·(refine TW.go ?_;simp[abJ,an,he,Bt,Vt,aK,eE];repeat' first|intro hc|refine aa.mk ?_|refine aI ?_|refine af ?_ ?_)
     exact⟨j+1,by omega,by omega,Wk.own [0,1] [] (by simp) (by simp[hsj]) (by simp[aK]) (by simp) (by simp)⟩
   ·obtain rfl:j=r.aH.length:=by omega
    rw[List.take_length,show(r.aH.any fun s=>decide (s.2=x))=iM r x from rfl]
    cases ha:iM r x
    ·rw[ha]at dX
     (refine TW.go ?_;simp[an,he,aE,aK,maxLen];repeat' first|intro hc|refine aa.mk ?_|refine aI ?_|refine af ?_ ?_)
     exact⟨k+1,by omega,by omega,Wk.own [0,3] [] (by simp) (by simp) (by simp[aK,dX]) (by simp) (by simp)⟩
    ·rw[ha]at dX
     (refine TW.go ?_;simp[an,he,aE,aK,maxLen];repeat' first|intro hc|refine aa.mk ?_|refine aI ?_|refine af ?_ ?_)
     exact⟨k+1,by omega,by omega,Wk.own [0,1] [] (by simp) (by simp) (by simp[aK,dX]) (by simp) (by simp)⟩
  ·obtain rfl:k=r.gs.length:=by omega
   rw[List.take_length];(refine TW.go ?_;simp[aK];repeat' first|intro hc|refine aa.mk ?_|refine aI ?_|refine af ?_ ?_)
   exact oW [] [1]
theorem QV (w:aA)(n:Int)(h:jw w):TC Tw.prog E 40 [gW w,gI .i64 n] 0 [] (gW (kA w n)) []:=by
 have vW:=h.l_;have Bn:=h.rl;have kl:=h.sl;have kP:=h.nl;refine tE Tryz.f40 Tryz.ntmps40 (by rw[Tryz.results40]) ?_
 by_cases hn:1≤n∧n≤31
 ·by_cases hl:w.aj.length<12
  ·have bz:¬12≤(w.aj.length:Int):=by omega
   obtain⟨b1,b2⟩:=yv hn.1 hn.2;have qG:bj (w.aj.length:Int)=true:=by simp[bj];omega
   have hB:=QU (E:=E) n (by omega) hn.2
   have hA:=Ge (E:=E) ⟨w.aj++[cQ n],w.ae,w.rounds++[⟨w.aj.length,cQ n,[]⟩],w.aP++[false],w.aX⟩ w.aj.length (cQ n) kP;rw[kA,if_pos ⟨hn.1,hn.2,hl⟩];generalize cQ n=S at*;generalize im ⟨w.aj++[S],w.ae,w.rounds++[⟨w.aj.length,S,[]⟩],w.aP++[false],w.aX⟩ w.aj.length S=v at*;simp[gW,wT,kz,zx,rS,aK]at hA;have hR:=Bs (E:=E) (w.aj.length:Int) S qG b1 (by have:=b2.2.1;omega)
   (refine TW.go ?_;simp[wT,hn,bz,qG,maxLen];repeat' first|intro hc|refine aa.mk ?_|refine aI ?_|refine af ?_ ?_|(refine cP ?_;(first|refine⟨_,fq _ _ _,?_⟩|refine⟨_,hB,?_⟩);simp[wT,hn,bz,qG,maxLen])|(refine cF [] 5 ?_;refine⟨_,_,fV w h,?_⟩;simp[wT,hn,bz,qG,maxLen])|(refine cF [] 2 ?_;refine⟨_,_,hR,?_⟩;simp[wT,hn,bz,qG,maxLen])|(refine cF [11,3,13,15,6] 0 ?_;refine⟨_,_,hA,?_⟩;simp[wT,hn,bz,qG,maxLen]))
   refine aT.own [] [] (by simp;rfl) (by simp[wT]) (by simp) (by simp) (by simp[wT]) (by simp)
  ·have bz:12≤(w.aj.length:Int):=by omega
   rw[kA,if_neg (by omega)]
   (refine TW.go ?_;simp[wT,hn,bz];repeat' first|intro hc|refine aa.mk ?_|refine aI ?_|refine af ?_ ?_|(refine cP ?_;refine⟨_,fq _ _ _,?_⟩;simp[wT,hn,bz]))
   refine aT.own [] [] (by simp;rfl) (by simp[wT]) (by simp) (by simp) (by simp[wT]) (by simp)
 ·rw[kA,if_neg (by omega)]
  (refine TW.go ?_;simp[wT,hn];repeat' first|intro hc|refine aa.mk ?_|refine aI ?_|refine af ?_ ?_|(refine cP ?_;refine⟨_,fq _ _ _,?_⟩;simp[wT,hn]))
  refine aT.own [] [] (by simp;rfl) (by simp[wT]) (by simp) (by simp) (by simp[wT]) (by simp)
end Go.Proofs.YtabjbdnokpjipaaGreat.T
namespace Go.Proofs.YtabjbdnokpjipaaGreat.T
open Go Go.RowKit
set_option maxRecDepth 100000
set_option maxHeartbeats 4000000
variable {E:List PanicEntry→World→Prop}
theorem QW (w:aA)(p:dE)(h:jw w)(hp:zy w p):TC Tw.prog E 71 [gW w,gP p] 0 [] (gW (np w p)) []:=by
 obtain⟨h0,h1,h2,h3⟩:=hp;have zC:=h.g5;have Bn:=h.rl;have kl:=h.sl;have hG:=cu (gs:=w.ae) (i:=p.g.toNat) (by omega)
 have xj:=h.dS _ (List.mem_of_getElem? hG);have hR:=nY h h0 h1;have hS:=se h h0 h1;have Zf:=h.abH h0 h1;refine tE Tryz.f71 Tryz.ntmps71 (by rw[Tryz.results71]) ?_
 unfold np;by_cases k1:p.k=1
 ·rw[if_pos k1]
  generalize gAt w.ae p.g.toNat=G at*;have hGl:jv G 4294967290:=by have:=xj.1;exact⟨by omega,by omega⟩
  cases hb:(aD G p.m).2.2
  ·rw[if_neg (by simp)]
   (refine TW.go ?_;simp[wT,cd,au,k1,h2,hG,hb];repeat' first|intro hc|refine aa.mk ?_|refine aI ?_|refine af ?_ ?_|(refine cF [] 5 ?_;refine⟨_,_,fV w h,?_⟩;simp[wT,cd,au,k1,h2,hG,hb])|(refine cF [] 2 ?_;refine⟨_,_,pZ G p.m hGl xj.2,?_⟩;simp[wT,cd,au,k1,h2,hG,hb]))
   refine aT.own [] [3,4,5,6,7] (by simp;rfl) (by simp[wT,au]) (by simp) (by simp) (by simp[wT,au]) (by simp)
  ·rw[if_pos rfl]
   have hP:=sd (E:=E) ⟨w.aj,w.ae.set p.g.toNat (aD G p.m).1,w.rounds,w.aP,w.aX⟩ ⟨2,p.m,p.g,(aD G p.m).2.1.1,(aD G p.m).2.1.2⟩ h.nl;generalize dg ⟨w.aj,w.ae.set p.g.toNat (aD G p.m).1,w.rounds,w.aP,w.aX⟩ ⟨2,p.m,p.g,(aD G p.m).2.1.1,(aD G p.m).2.1.2⟩=v at*;simp[gW,wT,dq,au]at hP;(refine TW.go ?_;simp[wT,cd,au,k1,h2,hG,hb];repeat' first|intro hc|refine aa.mk ?_|refine aI ?_|refine af ?_ ?_|(refine cF [] 5 ?_;refine⟨_,_,fV w h,?_⟩;simp[wT,cd,au,k1,h2,hG,hb])|(refine cF [] 2 ?_;refine⟨_,_,pZ G p.m hGl xj.2,?_⟩;simp[wT,cd,au,k1,h2,hG,hb])|(refine cF [3,4,5,6,7] 0 ?_;refine⟨_,_,hP,?_⟩;simp[wT,cd,au,k1,h2,hG,hb]))
   refine aT.own [] [] (by simp;rfl) (by simp[wT]) (by simp) (by simp) (by simp[wT]) (by simp)
 ·rw[if_neg k1]
  by_cases k2:p.k=2
  ·rw[if_pos k2]
   cases aZ:pM w p.m
   ·rw[if_neg (by simp)]
    generalize hre:bC w p.m=r at*
    cases hb:(gO r p.t p.s).2
    ·rw[if_neg (by simp)]
     (refine TW.go ?_;simp[wT,cd,aK,k2,h0,hS,aZ,hR,hb];repeat' first|intro hc|refine aa.mk ?_|refine aI ?_|refine af ?_ ?_|(refine cF [] 5 ?_;refine⟨_,_,fV w h,?_⟩;simp[wT,cd,aK,k2,h0,hS,aZ,hR,hb])|(refine cF [] 2 ?_;refine⟨_,_,Gd r p.t p.s Zf,?_⟩;simp[wT,cd,aK,k2,h0,hS,aZ,hR,hb]))
     refine aT.own [] [3,4,5,6,7] (by simp;rfl) (by simp[wT,aK]) (by simp) (by simp) (by simp[wT,aK]) (by simp)
    ·rw[if_pos rfl]
     have GQ:=kI h h0 h1;rw[hre]at GQ;have hT:=DD (E:=E) ⟨w.aj,w.ae,w.rounds.set p.m.toNat (gO r p.t p.s).1,w.aP,w.aX⟩ p.m ((h.mono (Nat.le_succ _)).rW p.m.toNat (IQ p.t p.s GQ)) h0 h1;generalize jS ⟨w.aj,w.ae,w.rounds.set p.m.toNat (gO r p.t p.s).1,w.aP,w.aX⟩ p.m=v at*;simp[gW,wT,zx,aK]at hT;(refine TW.go ?_;simp[wT,cd,aK,k2,h0,hS,aZ,hR,hb];repeat' first|intro hc|refine aa.mk ?_|refine aI ?_|refine af ?_ ?_|(refine cF [] 5 ?_;refine⟨_,_,fV w h,?_⟩;simp[wT,cd,aK,k2,h0,hS,aZ,hR,hb])|(refine cF [] 2 ?_;refine⟨_,_,Gd r p.t p.s Zf,?_⟩;simp[wT,cd,aK,k2,h0,hS,aZ,hR,hb])|(refine cF [3,4,5,6,7] 0 ?_;refine⟨_,_,hT,?_⟩;simp[wT,cd,aK,k2,h0,hS,aZ,hR,hb]))
     refine aT.own [] [] (by simp;rfl) (by simp[wT]) (by simp) (by simp) (by simp[wT]) (by simp)
   ·rw[if_pos rfl]
    (refine TW.go ?_;simp[wT,cd,k2,h0,hS,aZ];repeat' first|intro hc|refine aa.mk ?_|refine aI ?_|refine af ?_ ?_|(refine cF [] 5 ?_;refine⟨_,_,fV w h,?_⟩;simp[wT,cd,k2,h0,hS,aZ]))
    refine aT.own [] [3,4,5,6,7] (by simp;rfl) (by simp[wT]) (by simp) (by simp) (by simp[wT]) (by simp)
  ·rw[if_neg k2]
   by_cases k3:p.k=3
   ·rw[if_pos k3]
    generalize gAt w.ae p.g.toNat=G at*;have hGl:=xj.mono (n':=4294967290) (by omega)
    (refine TW.go ?_;simp[wT,cd,au,k3,h2,hG];repeat' first|intro hc|refine aa.mk ?_|refine aI ?_|refine af ?_ ?_|(refine cF [] 5 ?_;refine⟨_,_,fV w h,?_⟩;simp[wT,cd,au,k3,h2,hG])|(refine cF [] 3 ?_;refine⟨_,_,AA G p.m p.t p.s hGl,?_⟩;simp[wT,cd,au,k3,h2,hG]))
    refine aT.own [] [3,4,5,6,7] (by simp;rfl) (by simp[wT,au]) (by simp) (by simp) (by simp[wT,au]) (by simp)
   ·rw[if_neg k3]
    (refine TW.go ?_;simp[wT,cd,k1,k2,k3];repeat' first|intro hc|refine aa.mk ?_|refine aI ?_|refine af ?_ ?_|(refine cF [] 5 ?_;refine⟨_,_,fV w h,?_⟩;simp[wT,cd,k1,k2,k3]))
    refine aT.own [] [3,4,5,6,7] (by simp;rfl) (by simp[wT]) (by simp) (by simp) (by simp[wT]) (by simp)
abbrev gE (k a:Int):GV:= .a [.r (rI k),.r (rI a)]
theorem zD (w:aA)(k a:Int)(h:jw w):TC Tw.prog E 41 [gW w,gE k a] 0 [] (gW (sW w k a)) []:=by
 have kP:=h.nl;have hw:IntKind.i64.wrap ((w.aX.length:Int)-1)=(w.aX.length:Int)-1:=aQ (by omega) (by omega)
 refine tE Tryz.f41 Tryz.ntmps41 (by rw[Tryz.results41]) ?_
 unfold sW;by_cases ha:a<0
 ·rw[if_pos ha]
  have IM:¬0≤a:=by omega
  (refine TW.go ?_;simp[wT,hw,IM];repeat' first|intro hc|refine aa.mk ?_|refine aI ?_|refine af ?_ ?_|(refine cP ?_;refine⟨_,fq _ _ _,?_⟩;simp[wT,hw,IM]))
  refine aT.own [] [] (by simp;rfl) (by simp[wT]) (by simp) (by simp) (by simp[wT]) (by simp)
 ·rw[if_neg ha]
  have eM:0≤a:=by omega
  rcases hn:w.aX[a.toNat]? with _|p
  ·have ov:=List.getElem?_eq_none_iff.1 hn
   have cJ:¬a≤(w.aX.length:Int)-1:=by omega
   have R_:¬a<(w.aX.length:Int):=by omega
   (refine TW.go ?_;simp[wT,hw,eM,cJ,R_];repeat' first|intro hc|refine aa.mk ?_|refine aI ?_|refine af ?_ ?_|(refine cP ?_;refine⟨_,fq _ _ _,?_⟩;simp[wT,hw,eM,cJ,R_]))
   refine aT.own [] [] (by simp;rfl) (by simp[wT]) (by simp) (by simp) (by simp[wT]) (by simp)
  ·have ak:=(List.getElem?_eq_some_iff.1 hn).1
   have cJ:a≤(w.aX.length:Int)-1:=by omega
   have R_:a<(w.aX.length:Int):=by omega
   have hpk:=h.aX p (List.mem_of_getElem? hn);simp only
   by_cases k4:k=4
   ·rw[if_pos k4]
    (refine TW.go ?_;simp[wT,cd,hw,eM,cJ,hn,k4];repeat' first|intro hc|refine aa.mk ?_|refine aI ?_|refine af ?_ ?_|(refine cP ?_;(first|refine⟨_,fq _ _ _,?_⟩|refine⟨_,sd w p kP,?_⟩);simp[wT,cd,hw,eM,cJ,hn,k4]))
    refine aT.own [] [] (by simp;rfl) (by simp[wT]) (by simp) (by simp) (by simp[wT]) (by simp)
   ·rw[if_neg k4]
    have Bu:IntKind.i64.wrap (a+1)=a+1:=aQ (by omega) (by omega)
    have pa:(a+1).toNat=a.toNat+1:=by omega
    have eI:0≤a+1:=by omega
    have uu:=List.eraseIdx_eq_take_drop_succ w.aX a.toNat;have hH:=QW (E:=E) ⟨w.aj,w.ae,w.rounds,w.aP,w.aX.eraseIdx a.toNat⟩ p (h.erase _) hpk;by_cases k2:k=2
    ·rw[if_pos k2]
     generalize np ⟨w.aj,w.ae,w.rounds,w.aP,w.aX.eraseIdx a.toNat⟩ p=v at*;simp[gW,wT,Du,uu]at hH;(refine TW.go ?_;simp[wT,cd,hw,eM,eI,cJ,hn,k2,Bu,pa,maxLen];repeat' first|intro hc|refine aa.mk ?_|refine aI ?_|refine af ?_ ?_|(refine cP ?_;refine⟨_,fq _ _ _,?_⟩;simp[wT,cd,hw,eM,eI,cJ,hn,k2,Bu,pa,maxLen])|(refine cF [6] 0 ?_;refine⟨_,_,hH,?_⟩;simp[wT,cd,hw,eM,eI,cJ,hn,k2,Bu,pa,maxLen]))
     refine aT.own [] [] (by simp;rfl) (by simp[wT]) (by simp) (by simp) (by simp[wT]) (by simp)
    ·rw[if_neg k2]
     (refine TW.go ?_;simp[wT,cd,hw,eM,eI,cJ,hn,k4,k2,Bu,pa,maxLen];repeat' first|intro hc|refine aa.mk ?_|refine aI ?_|refine af ?_ ?_|(refine cP ?_;refine⟨_,fq _ _ _,?_⟩;simp[wT,cd,hw,eM,eI,cJ,hn,k4,k2,Bu,pa,maxLen]))
     refine aT.own [] [6] (by simp;rfl) (by simp[wT,uu]) (by simp) (by simp) (by simp[wT,uu]) (by simp)
theorem NO {w:aA}{n:Nat}(h:cw n w){a:Int}(eM:0≤a)(eI:a<w.aj.length):cw n (im w a (dk (bC w a)))∧(im w a (dk (bC w a))).aj=w.aj:=by
 refine⟨cw.rV (fun g=>⟨1,a,g,0,0⟩) _ w h fun g hg=>?_,mY _ _ _⟩
 unfold dk at hg;split at hg
 ·rename_i hb
  have hg:=(List.mem_filter.1 hg).1;simp only[fe,Bool.and_eq_true]at hb;have hs:=hb.2;simp only[cB,Bool.and_eq_true,db,List.all_eq_true,List.mem_range]at hs;obtain⟨i,hi,rfl⟩:=List.getElem_of_mem hg;have:=hs.1 i hi
  simp only[pI,Bool.and_eq_true,bM]at this;have:=this.1
  rw[List.getD_eq_getElem?_getD,List.getElem?_eq_getElem hi]at this;have:0≤(bC w a).gs[i]∧(bC w a).gs[i]<5:=by simpa using this
  exact⟨eM,eI,this.1,this.2⟩
 ·cases hg
theorem IV (w:aA)(k a:Int)(h:jw w):TC Tw.prog E 42 [gW w,gE k a] 0 [] (gW (fM w k a)) []:=by
 have vW:=h.l_;have kl:=h.sl;have hw:IntKind.i64.wrap ((w.aj.length:Int)-1)=(w.aj.length:Int)-1:=aQ (by omega) (by omega)
 refine tE Tryz.f42 Tryz.ntmps42 (by rw[Tryz.results42]) ?_
 unfold fM;by_cases ha:a<0∨(w.aj.length:Int)≤a
 ·rw[if_pos ha]
  have cJ:¬(0≤a∧a≤(w.aj.length:Int)-1):=by omega
  (refine TW.go ?_;simp[wT,hw,cJ];repeat' first|intro hc|refine aa.mk ?_|refine aI ?_|refine af ?_ ?_|(refine cP ?_;refine⟨_,fq _ _ _,?_⟩;simp[wT,hw,cJ]))
  refine aT.own [] [] (by simp;rfl) (by simp[wT]) (by simp) (by simp) (by simp[wT]) (by simp)
 ·rw[if_neg ha]
  have eM:0≤a:=by omega
  have eI:a<w.aj.length:=by omega
  have cJ:a≤(w.aj.length:Int)-1:=by omega
  have hR:=nY h eM eI;have hS:=se h eM eI;have IW:=VD eM eI;by_cases k5:k=5
  ·rw[if_pos k5]
   (refine TW.go ?_;simp[wT,hw,eM,cJ,k5,hS];repeat' first|intro hc|refine aa.mk ?_|refine aI ?_|refine af ?_ ?_|(refine cP ?_;refine⟨_,fq _ _ _,?_⟩;simp[wT,hw,eM,cJ,k5,hS])|(refine cF [] 5 ?_;refine⟨_,_,fV w h,?_⟩;simp[wT,hw,eM,cJ,k5,hS]))
   refine aT.own [] [3,4,5,6,7] (by simp;rfl) (by simp[wT]) (by simp) (by simp) (by simp[wT]) (by simp)
  ·rw[if_neg k5]
   by_cases k6:k=6
   ·rw[if_pos k6]
    cases aZ:pM w a
    ·rw[if_neg (by simp)]
     have Zf:=h.abH eM eI;have hM:=vu (E:=E) (bC w a) ⟨by have:=Zf.1;omega,by have:=Zf.2;omega⟩
     have hA:=Ge (E:=E) w a (dk (bC w a)) h.nl;obtain⟨PA,Lu⟩:=NO h eM eI;have hT:=DD (E:=E) (im w a (dk (bC w a))) a PA eM (by rw[Lu];exact eI)
     generalize jS (im w a (dk (bC w a))) a=v at*;generalize im w a (dk (bC w a))=u at*;generalize dk (bC w a)=ms at*;generalize bC w a=r at*;(refine TW.go ?_;simp[wT,aK,hw,eM,cJ,k5,k6,hS,aZ,hR];repeat' first|intro hc|refine aa.mk ?_|refine aI ?_|refine af ?_ ?_|(refine cP ?_;(first|refine⟨_,fq _ _ _,?_⟩|refine⟨_,hM,?_⟩|refine⟨_,hA,?_⟩|refine⟨_,hT,?_⟩);simp[wT,aK,hw,eM,cJ,k5,k6,hS,aZ,hR]))
     refine aT.own [] [] (by simp;rfl) (by simp[wT]) (by simp) (by simp) (by simp[wT]) (by simp)
    ·rw[if_pos rfl]
     (refine TW.go ?_;simp[wT,hw,eM,cJ,k5,k6,hS,aZ];repeat' first|intro hc|refine aa.mk ?_|refine aI ?_|refine af ?_ ?_|(refine cP ?_;refine⟨_,fq _ _ _,?_⟩;simp[wT,hw,eM,cJ,k5,k6,hS,aZ]))
     refine aT.own [] [] (by simp;rfl) (by simp[wT]) (by simp) (by simp) (by simp[wT]) (by simp)
   ·rw[if_neg k6]
    by_cases k7:k=7
    ·rw[if_pos k7]
     have iy:=nW h eM eI;have hL:=Vu (E:=E) w.ae (setAt w a) a h.g5 (fun g hg=>(h.dS g hg).mono (by omega)) iy.2.2 iy.1 iy.2.1
     generalize eH w.ae (setAt w a) a=A at*;generalize setAt w a=S at*
     cases hb:A.2
     ·rw[if_neg (by simp)]
      (refine TW.go ?_;simp[wT,hw,eM,cJ,k5,k6,k7,IW,hb];repeat' first|intro hc|refine aa.mk ?_|refine aI ?_|refine af ?_ ?_|(refine cP ?_;refine⟨_,fq _ _ _,?_⟩;simp[wT,hw,eM,cJ,k5,k6,k7,IW,hb])|(refine cF [] 1 ?_;refine⟨_,_,hL,?_⟩;simp[wT,hw,eM,cJ,k5,k6,k7,IW,hb]))
      refine aT.own [] [] (by simp;rfl) (by simp[wT]) (by simp) (by simp) (by simp[wT]) (by simp)
     ·rw[if_pos rfl]
      (refine TW.go ?_;simp[wT,hw,eM,cJ,k5,k6,k7,IW,hb];repeat' first|intro hc|refine aa.mk ?_|refine aI ?_|refine af ?_ ?_|(refine cP ?_;refine⟨_,fq _ _ _,?_⟩;simp[wT,hw,eM,cJ,k5,k6,k7,IW,hb])|(refine cF [] 1 ?_;refine⟨_,_,hL,?_⟩;simp[wT,hw,eM,cJ,k5,k6,k7,IW,hb]))
      refine aT.own [] [3] (by simp;rfl) (by simp[wT]) (by simp) (by simp) (by simp[wT]) (by simp)
    ·rw[if_neg k7]
     (refine TW.go ?_;simp[wT,hw,eM,cJ,k5,k6,k7];repeat' first|intro hc|refine aa.mk ?_|refine aI ?_|refine af ?_ ?_|(refine cP ?_;refine⟨_,fq _ _ _,?_⟩;simp[wT,hw,eM,cJ,k5,k6,k7]))
     refine aT.own [] [] (by simp;rfl) (by simp[wT]) (by simp) (by simp) (by simp[wT]) (by simp)
theorem aeX (w:aA)(k a:Int)(h:jw w):TC Tw.prog E 25 [gW w,gE k a] 0 [] (gW (h_ w k a)) []:=by
 refine tE Tryz.f25 Tryz.ntmps25 (by rw[Tryz.results25]) ?_
 unfold h_;by_cases k1:k=1
 ·rw[if_pos k1]
  (refine TW.go ?_;simp[wT,k1];repeat' first|intro hc|refine aa.mk ?_|refine aI ?_|refine af ?_ ?_|(refine cP ?_;refine⟨_,QV w a h,?_⟩;simp[wT,k1]))
  refine aT.own [] [] (by simp;rfl) (by simp[wT]) (by simp) (by simp) (by simp[wT]) (by simp)
 ·rw[if_neg k1]
  by_cases k2:k=2
  ·rw[if_pos (.inl k2)]
   (refine TW.go ?_;simp[wT,k2];repeat' first|intro hc|refine aa.mk ?_|refine aI ?_|refine af ?_ ?_|(refine cP ?_;refine⟨_,zD w 2 a h,?_⟩;simp[wT,k2]))
   refine aT.own [] [] (by simp;rfl) (by simp[wT,k2]) (by simp) (by simp) (by simp[wT,k2]) (by simp)
  ·by_cases k3:k=3
   ·rw[if_pos (.inr (.inl k3))]
    (refine TW.go ?_;simp[wT,k3];repeat' first|intro hc|refine aa.mk ?_|refine aI ?_|refine af ?_ ?_|(refine cP ?_;refine⟨_,zD w 3 a h,?_⟩;simp[wT,k3]))
    refine aT.own [] [] (by simp;rfl) (by simp[wT,k3]) (by simp) (by simp) (by simp[wT,k3]) (by simp)
   ·by_cases k4:k=4
    ·rw[if_pos (.inr (.inr k4))]
     (refine TW.go ?_;simp[wT,k4];repeat' first|intro hc|refine aa.mk ?_|refine aI ?_|refine af ?_ ?_|(refine cP ?_;refine⟨_,zD w 4 a h,?_⟩;simp[wT,k4]))
     refine aT.own [] [] (by simp;rfl) (by simp[wT,k4]) (by simp) (by simp) (by simp[wT,k4]) (by simp)
    ·rw[if_neg (by omega)]
     (refine TW.go ?_;simp[wT,k1,k2,k3,k4];repeat' first|intro hc|refine aa.mk ?_|refine aI ?_|refine af ?_ ?_|(refine cP ?_;refine⟨_,IV w k a h,?_⟩;simp[wT,k1,k2,k3,k4]))
     refine aT.own [] [] (by simp;rfl) (by simp[wT]) (by simp) (by simp) (by simp[wT]) (by simp)
end Go.Proofs.YtabjbdnokpjipaaGreat.T
