/-
What is proved: the program's look-up in a set, and its check of a round, are the reference's. No condition but the lengths that each states. what the program's check of a group, and its look-up, do to trees; the check is the reference's. No condition but the lengths that each states. what the reference's recovery does to trees. No condition but the lengths and ranges that each states. the program's check of a group is the reference's; the program's look-up of a message, and its question. No condition but the lengths that each states. the contract of impl.areEntries over the second program. Conditions: those that the theorem states. the contract of impl.clone at entries; those of impl.GroupValid, impl.GroupStamp at groups without entries, over the second program. Conditions: those that each theorem states.
-/
import Derived.Test.YtjklkppncmhehaaGreatRa35
import Derived.Test.YtjklkppncmhehaaGreatRa34
import Derived.BigQuiet
import Derived.Deep.RegionLaw
set_option linter.unusedVariables false
set_option linter.unusedSimpArgs false
namespace Go.Proofs.YtjklkppncmhehaaGreat.T
open Go Go.RowKit
set_option maxRecDepth 100000
set_option maxHeartbeats 4000000
variable {E:List PanicEntry→World→Prop}
theorem abd (xs:List Int)(n:Int):TC Tw.prog E 62 [gR (bL xs),gI .i64 n] 0 [] (gB (oN xs n)) []:=by
 refine tE Tryz.f62 Tryz.ntmps62 (by rw[Tryz.results62]) ?_
 refine TW.len 0 rfl fun hlen=>?_;simp only[List.length_map]at hlen;(refine TW.go ?_;simp;repeat' first|intro hc|refine aa.mk ?_|refine aI ?_|refine ah ?_ ?_)
 refine tL (fun(k:Nat)=>⟨[(1,gI .i64 n),(7,gR (bL xs)),(8,gI .i64 xs.length),(9,gI .i64 (k:Nat))],[],0⟩) (fun k=>k≤xs.length∧∀i y,i<k→xs[i]?=some y→¬y=n) (fun k=>xs.length-k) 0 ⟨by omega,fun i y hi=>by omega⟩ (kS) fun k hk=>?_
 obtain⟨hk,hf⟩:=hk;by_cases aj:k<xs.length
 ·have he:xs[k]?=some xs[k]:=List.getElem?_eq_getElem aj
  have aw:(k:Int)<(xs.length:Int):=by omega
  have aF:=wrap_add aj hlen;have p_:=List.getElem_mem aj;generalize xs[k]=x at*;by_cases hx:x=n
  ·rw[show oN xs n=true by simp only[oN,List.any_eq_true,decide_eq_true_eq];exact⟨x,p_,hx⟩]
   (refine TW.go ?_;simp[he,aw,hx];repeat' first|intro hc|refine aa.mk ?_|refine aI ?_|refine ah ?_ ?_)
   exact oW [] []
  ·(refine TW.go ?_;simp[he,aw,aF,hx];repeat' first|intro hc|refine aa.mk ?_|refine aI ?_|refine ah ?_ ?_)
   refine⟨k+1,⟨by omega,fun i y hi hy=>?_⟩,by omega,kS⟩
   by_cases e:i=k
   ·subst e;rw[he]at hy;cases hy;exact hx
   ·exact hf i y (by omega) hy
 ·obtain rfl:k=xs.length:=by omega
  rw[show oN xs n=false by
   simp only[oN,List.any_eq_false,decide_eq_true_eq];intro x hx;obtain⟨i,hi,rfl⟩:=List.getElem_of_mem hx;exact hf i _ hi (List.getElem?_eq_getElem hi)]
  (refine TW.go ?_;simp;repeat' first|intro hc|refine aa.mk ?_|refine aI ?_|refine ah ?_ ?_)
  exact oW [] []
theorem abR (r:fb):TC Tw.prog E 61 [.a ((aX r).map .r)] 0 [] (.a [.r (bL r.gs),.r (PB r.bm)]) []:=by
 refine tE Tryz.f61 Tryz.ntmps61 (by rw[Tryz.results61]) ?_
 (refine TW.go ?_;simp[aX];repeat' first|intro hc|refine aa.mk ?_|refine aI ?_|refine ah ?_ ?_)
 exact oW [] []
theorem aa_ (r:fb)(h:qU r 4294967296):TC Tw.prog E 59 [.a ((aX r).map .r)] 0 [] (gB (oQ r)) []:=by
 obtain⟨RV,hl⟩:=h;have hlen:r.bm.length≤maxLen:=by simp only[maxLen];omega
 have hO:=abR (E:=E) r;have hI:=nF (E:=E) r.m;have hV:=GO (E:=E) r.gs;simp only[aX,List.map_cons,List.map_nil]at hO;refine tE Tryz.f59 Tryz.ntmps59 (by rw[Tryz.results59]) ?_
 cases hm:bC r.m
 ·rw[show oQ r=false by simp[oQ,hm]]
  rw[hm]at hI;(refine TW.go ?_;simp[aX];repeat' first|intro hc|refine aa.mk ?_|refine aI ?_|refine ah ?_ ?_|(refine cP ?_;(first|refine⟨_,hO,?_⟩|refine⟨_,hI,?_⟩);simp[aX]))
  exact oW [] []
 ·rw[hm]at hI
  cases hs:fD r.gs
  ·rw[show oQ r=false by simp[oQ,hs]]
   rw[hs]at hV;(refine TW.go ?_;simp[aX];repeat' first|intro hc|refine aa.mk ?_|refine aI ?_|refine ah ?_ ?_|(refine cP ?_;(first|refine⟨_,hO,?_⟩|refine⟨_,hI,?_⟩|refine⟨_,hV,?_⟩);simp[aX]))
   exact oW [] []
  ·rw[hs]at hV
   have hB:oQ r=bX r.bm.length (sC r):=by simp[oQ,hm,hs]
   rw[hB];(refine TW.go ?_;simp[aX];repeat' first|intro hc|refine aa.mk ?_|refine aI ?_|refine ah ?_ ?_|(refine cP ?_;(first|refine⟨_,hO,?_⟩|refine⟨_,hI,?_⟩|refine⟨_,hV,?_⟩);simp[aX]))
   refine tL (fun(k:Nat)=>⟨[(1,.s (.ptr 0 0)),(3,.s (.ptr 1 0)),(19,gR (PB r.bm)),(20,gI .i64 r.bm.length),(21,gI .i64 (k:Nat))],[(0,.box ((aX r).map .r)),(1,.box [.r (bL r.gs),.r (PB r.bm)])],2⟩) (fun k=>k≤r.bm.length∧∀i,i<k→sC r i=true) (fun k=>r.bm.length-k) 0 ⟨by omega,fun i hi=>by omega⟩ (Wk.own [0,1] [] (by simp) (by simp) (by simp[aX]) (by simp) (by simp)) fun k hk=>?_
   obtain⟨hk,hf⟩:=hk;clear hO hI hV;by_cases aj:k<r.bm.length
   ·have he:r.bm[k]?=some r.bm[k]:=List.getElem?_eq_getElem aj
    have aw:(k:Int)<(r.bm.length:Int):=by omega
    have Fv:=wrap_add aj hlen
    cases hq:sC r k
    ·rw[bY aj hq]
     rcases k with _|k
     ·have b_:sC r 0=(bb r.bm[0].1 r.bm[0].2&&oN r.gs r.bm[0].2):=by simp[sC,aj]
      rw[b_]at hq;(refine TW.go ?_;simp[aj,he,aX,iC];repeat' first|intro hc|refine aa.mk ?_|refine aI ?_|refine ah ?_ ?_|(refine cP ?_;(first|refine⟨_,ji _ _,?_⟩|refine⟨_,abd _ _,?_⟩);simp[aj,he,aX,iC]))
      all_goals first
       |(exact oW [] [])
       |(exfalso;simp_all)
     ·have dF:r.bm[k]?=some r.bm[k]:=List.getElem?_eq_getElem (by omega)
      have b_:sC r (k+1)=(bb r.bm[k+1].1 r.bm[k+1].2&&oN r.gs r.bm[k+1].2&&decide (r.bm[k].2<r.bm[k+1].2)):=by simp[sC,he,dF]
      have hw:=iX (k:=k) (by omega)
      have dp:(0:Int)<(k:Int)+1:=by omega
      simp only[Int.natCast_add,Int.natCast_one]at aw;generalize r.bm[k+1]=x at*;generalize r.bm[k]=y at*;rw[b_]at hq;(refine TW.go ?_;simp[he,dF,hw,dp,aw,aX,iC];repeat' first|intro hc|refine aa.mk ?_|refine aI ?_|refine ah ?_ ?_|(refine cP ?_;(first|refine⟨_,ji _ _,?_⟩|refine⟨_,abd _ _,?_⟩);simp[he,dF,hw,dp,aw,aX,iC]))
      all_goals first
       |(exact oW [] [])
       |(exfalso;clear hf;simp_all;done)
       |(exfalso;clear hf;simp_all;omega)
    ·have abm:∀i,i<k+1→sC r i=true:=fun i hi=>by
      by_cases e:i=k
      ·subst e;exact hq
      ·exact hf i (by omega)
     rcases k with _|k
     ·have b_:sC r 0=(bb r.bm[0].1 r.bm[0].2&&oN r.gs r.bm[0].2):=by simp[sC,aj]
      rw[b_,Bool.and_eq_true]at hq;(refine TW.go ?_;simp[aj,he,aX,iC,hq.1,hq.2];repeat' first|intro hc|refine aa.mk ?_|refine aI ?_|refine ah ?_ ?_|(refine cP ?_;(first|refine⟨_,ji _ _,?_⟩|refine⟨_,abd _ _,?_⟩);simp[aj,he,aX,iC,hq.1,hq.2]))
      exact⟨1,⟨by omega,abm⟩,by omega,Wk.own [0,1] [] (by simp) (by simp) (by simp[aX]) (by simp) (by simp)⟩
     ·have dF:r.bm[k]?=some r.bm[k]:=List.getElem?_eq_getElem (by omega)
      have b_:sC r (k+1)=(bb r.bm[k+1].1 r.bm[k+1].2&&oN r.gs r.bm[k+1].2&&decide (r.bm[k].2<r.bm[k+1].2)):=by simp[sC,he,dF]
      have hw:=iX (k:=k) (by omega)
      have dp:(0:Int)<(k:Int)+1:=by omega
      simp only[Int.natCast_add,Int.natCast_one]at aw Fv;generalize r.bm[k+1]=x at*;generalize r.bm[k]=y at*;rw[b_,Bool.and_eq_true,Bool.and_eq_true]at hq;obtain⟨⟨q1,q2⟩,q3⟩:=hq;have q4:¬x.2≤y.2:=by have:=of_decide_eq_true q3;omega
      (refine TW.go ?_;simp[he,dF,hw,Fv,dp,aw,aX,iC,q1,q2,q4];repeat' first|intro hc|refine aa.mk ?_|refine aI ?_|refine ah ?_ ?_|(refine cP ?_;(first|refine⟨_,ji _ _,?_⟩|refine⟨_,abd _ _,?_⟩);simp[he,dF,hw,Fv,dp,aw,aX,iC,q1,q2,q4]))
      exact⟨k+1+1,⟨by omega,abm⟩,by omega,Wk.own [0,1] [] (by simp) (by simp) (by simp[aX]) (by simp) (by simp)⟩
   ·obtain rfl:k=r.bm.length:=by omega
    rw[bH hf];(refine TW.go ?_;simp;repeat' first|intro hc|refine aa.mk ?_|refine aI ?_|refine ah ?_ ?_)
    exact oW [] []
end Go.Proofs.YtjklkppncmhehaaGreat.T
namespace Go.Proofs.YtjklkppncmhehaaGreat.T
open Go Go.RowKit
set_option maxRecDepth 100000
set_option maxHeartbeats 4000000
variable {E:List PanicEntry→World→Prop}
def xK (es:List aK)(k:Nat):List Bool:=(List.range 12).map fun m=>(es.take k).any fun e=>decide (e.m=(m:Nat))
def fJ (es:List aK)(k:Nat):List TV:=(xK es k).map fun b=> .r (rB b)
theorem lg (es:List aK)(k:Nat):(fJ es k).length=12:=by simp[fJ,xK]
def qm (es:List aK)(k:Nat)(m:Int):Bool:=(es.take k).any fun e=>decide (e.m=m)
theorem Jh (es:List aK)(k:Nat){m:Int}(h0:0≤m)(U:m<12):List.take 1 (List.drop m.toNat (fJ es k))=[.r (rB (qm es k m))]:=by
 have aj:m.toNat<(fJ es k).length:=by rw[lg];omega
 rw[List.drop_eq_getElem_cons aj];simp only[List.take_succ_cons,List.take_zero,fJ,xK,List.getElem_map,List.getElem_range,qm];rw[show((m.toNat:Nat):Int)=m by omega]
theorem Ji (es:List aK)(k:Nat){e:aK}(he:es[k]?=some e)(h0:0≤e.m)(U:e.m<12):List.take e.m.toNat (fJ es k)++ .r (rB true)::List.drop (e.m.toNat+1) (fJ es k)=fJ es (k+1):=by
 have aj:e.m.toNat<(fJ es k).length:=by rw[lg];omega
 have hse:(fJ es k).set e.m.toNat (.r (rB true))=List.take e.m.toNat (fJ es k)++ .r (rB true)::List.drop (e.m.toNat+1) (fJ es k):=by rw[List.set_eq_take_append_cons_drop,if_pos aj]
 rw[←hse];apply List.ext_getElem
 ·simp[lg]
 ·intro i h2 h3
  have hi:i<12:=by rw[lg]at h3;exact h3
  rw[List.getElem_set];simp only[fJ,xK,List.getElem_map,List.getElem_range];rw[List.take_add_one,he,List.any_append];by_cases hm:e.m.toNat=i
  ·rw[if_pos hm]
   simp only[Option.toList_some,List.any_cons,List.any_nil,Bool.or_false];rw[show decide (e.m=(i:Nat))=true by simp;omega,Bool.or_true]
  ·rw[if_neg hm]
   simp only[Option.toList_some,List.any_cons,List.any_nil,Bool.or_false];rw[show decide (e.m=(i:Nat))=false by simp;omega,Bool.or_false]
theorem GI {es:List aK}{k:Nat}{x:TV}(h:x∈fJ es k):∃b,x= .r (rB b):=by
 obtain⟨b,_,rfl⟩:=List.mem_map.1 h;exact⟨b,rfl⟩
def gF (es:List aK)(i:Nat):Bool:=match es[i]? with
 |some e=> !qm es i e.m
 |none=>true
def sJ (es:List aK)(i:Nat):Bool:=match es[i]? with
 |some e=>e.f
 |none=>true
def kn (g:az):Bool:=bw g.id&&fC g.clock&&jW g.id g.clock g.aN&&jW g.id g.clock g.done&&bX (g.done++g.aN).length (gF (g.done++g.aN))&&bX g.done.length (sJ g.done)&&jJ g
theorem zD {id clock:Int}{es:List aK}(h:jW id clock es=true){e:aK}(he:e∈es):0≤e.m∧e.m<12:=by
 obtain⟨i,hi,rfl⟩:=List.getElem_of_mem he;simp only[jW,bX,List.all_eq_true,List.mem_range]at h;have:=h i hi
 unfold o9 at this;rw[List.getElem?_eq_getElem hi]at this;simp only[Bool.and_eq_true,bC,decide_eq_true_eq]at this;exact this.1.1.1.1
theorem qn (g:az)(h:fE g 4294967290):TC Tw.prog E 52 [.a ((ai g).map .r)] 0 [] (gB (kn g)) []:=by
 obtain⟨tn,UH⟩:=h;have hlen:g.done.length≤maxLen:=by simp only[maxLen];omega
 refine tE Tryz.f52 Tryz.ntmps52 (by rw[Tryz.results52]) ?_
 cases hv:bw g.id&&fC g.clock&&jW g.id g.clock g.aN&&jW g.id g.clock g.done
 ·rw[show kn g=false by rw[kn,hv];simp]
  (refine TW.go ?_;simp[ai];repeat' first|intro hc|refine aa.mk ?_|refine aI ?_|refine ah ?_ ?_|(refine cP ?_;(first|refine⟨_,nE _,?_⟩|refine⟨_,zC _,?_⟩|refine⟨_,ql g _,?_⟩);simp[ai]))
  all_goals first
   |(exact oW [] [])
   |(exfalso;simp_all)
 ·have fp:=hv
  simp only[Bool.and_eq_true]at fp;obtain⟨⟨⟨v1,v2⟩,v3⟩,v4⟩:=fp;generalize cE:g.done++g.aN=es;have B4:es.length≤8589934580:=by rw[←cE];simp;omega
  have SD:es.length≤maxLen:=by simp only[maxLen];omega
  have J0:∀e∈es,0≤e.m∧e.m<12:=fun e he=>by
   rw[←cE]at he;rcases List.mem_append.1 he with he|he
   ·exact zD v4 he
   ·exact zD v3 he
  have PZ:kn g=(bX es.length (gF es)&&bX g.done.length (sJ g.done)&&jJ g):=by
   rw[kn,hv,cE,Bool.true_and]
  have se:=yK (E:=E) g.done (by omega)
  have SE:fJ es 0=[.r (rB false),.r (rB false),.r (rB false),.r (rB false),.r (rB false),.r (rB false),.r (rB false),.r (rB false),.r (rB false),.r (rB false),.r (rB false),.r (rB false)]:=by simp[fJ,xK,List.range_succ]
  (refine TW.go ?_;simp[ai,v1,v2,v3,v4,maxLen];repeat' first|intro hc|refine aa.mk ?_|refine aI ?_|refine ah ?_ ?_|(refine cP ?_;(first|refine⟨_,nE _,?_⟩|refine⟨_,zC _,?_⟩|refine⟨_,ql g _,?_⟩);simp[ai,v1,v2,v3,v4,maxLen])|(refine cF [] 1 ?_;refine⟨_,_,se,?_⟩;simp[ai,v1,v2,v3,v4,maxLen]))
  refine tL (fun(k:Nat)=>⟨[(1,.s (.ptr 0 0)),(3,.s (.ptr 1 0)),(38,gR (dw es)),(39,gI .i64 es.length),(40,gI .i64 (k:Nat))],[(0,.box ((ai g).map .r)),(1,.box (fJ es k))],2⟩) (fun k=>k≤es.length∧∀i,i<k→gF es i=true) (fun k=>es.length-k) 0 ⟨by omega,fun i hi=>by omega⟩
   (Wk.own [0,1] [3] (by simp) (by simp[←cE]) (by simp[ai,SE]) (by simp) (by simp)) fun k hk=>?_
  obtain⟨hk,hf⟩:=hk;by_cases aj:k<es.length
  ·have he:es[k]?=some es[k]:=List.getElem?_eq_getElem aj
   have aw:(k:Int)<(es.length:Int):=by omega
   have aF:=wrap_add aj SD;obtain⟨m0,m1⟩:=J0 _ (List.getElem_mem aj);generalize es[k]=e at he m0 m1;have dC:=Jh es k m0 m1;have b_:=Ji es k he m0 m1;have PE:=lg es k;have P0:gF es k= !qm es k e.m:=by rw[gF,he]
   cases hd:qm es k e.m
   ·rw[hd]at dC
    (refine TW.go ?_;simp[aw,he,m0,dC,b_,PE,au,ai,aF];repeat' first|intro hc|refine aa.mk ?_|refine aI ?_|refine ah ?_ ?_)
    refine⟨k+1,⟨by omega,fun i hi=>?_⟩,by omega,Wk.own [0,1] [] (by simp) (by simp) (by simp[ai];exact⟨fun a ha=>by obtain⟨c,rfl⟩:=GI ha;rfl,fun b x hx hb=>by obtain⟨c,rfl⟩:=GI hx;cases hb⟩) (by simp) (by simp)⟩
    by_cases e:i=k
    ·subst e;rw[P0,hd];rfl
    ·exact hf i (by omega)
   ·rw[hd]at dC
    rw[show kn g=false by rw[PZ,bY aj (by rw[P0,hd];rfl)];rfl]
    (refine TW.go ?_;simp[aw,he,m0,dC,PE,au,ai];repeat' first|intro hc|refine aa.mk ?_|refine aI ?_|refine ah ?_ ?_)
    exact oW [] []
  ·obtain rfl:k=es.length:=by omega
   have db:bX es.length (gF es)=true:=bH hf
   rw[db,Bool.true_and]at PZ;clear hf;(refine TW.go ?_;simp[ai];repeat' first|intro hc|refine aa.mk ?_|refine aI ?_|refine ah ?_ ?_)
   refine tL (fun(k:Nat)=>⟨[(1,.s (.ptr 0 0)),(53,gR (dw g.done)),(54,gI .i64 g.done.length),(55,gI .i64 (k:Nat))],[(0,.box ((ai g).map .r))],1⟩) (fun k=>k≤g.done.length∧∀i,i<k→sJ g.done i=true) (fun k=>g.done.length-k) 0 ⟨by omega,fun i hi=>by omega⟩
    (Wk.own [0] [] (by simp) (by simp) (by simp[ai]) (by simp) (by simp)) fun k hk=>?_
   obtain⟨hk,hf⟩:=hk;by_cases aj:k<g.done.length
   ·have he:g.done[k]?=some g.done[k]:=List.getElem?_eq_getElem aj
    have aw:(k:Int)<(g.done.length:Int):=by omega
    have aF:=wrap_add aj hlen;generalize g.done[k]=e at he;have P0:sJ g.done k=e.f:=by rw[sJ,he]
    cases hd:e.f
    ·rw[show kn g=false by rw[PZ,bY aj (by rw[P0,hd])];rfl]
     (refine TW.go ?_;simp[aw,he,hd,au,ai];repeat' first|intro hc|refine aa.mk ?_|refine aI ?_|refine ah ?_ ?_)
     exact oW [] []
    ·(refine TW.go ?_;simp[aw,he,hd,au,ai,aF];repeat' first|intro hc|refine aa.mk ?_|refine aI ?_|refine ah ?_ ?_)
     refine⟨k+1,⟨by omega,fun i hi=>?_⟩,by omega,Wk.own [0] [] (by simp) (by simp) (by simp[ai]) (by simp) (by simp)⟩
     by_cases e:i=k
     ·subst e;rw[P0,hd]
     ·exact hf i (by omega)
   ·obtain rfl:k=g.done.length:=by omega
    have UQ:bX g.done.length (sJ g.done)=true:=bH hf
    rw[UQ,Bool.true_and]at PZ;clear hf cE B4 SD J0 db hv se SE;rw[PZ];rcases hp:g.aN with _|⟨p,ps⟩
    ·(refine TW.go ?_;simp[ai,hp];repeat' first|intro hc|refine aa.mk ?_|refine aI ?_|refine ah ?_ ?_)
     refine ar.nil (r:=gB (jJ g)) ?_ rfl;simp[jJ,hp]
    ·have wK:¬((ps.length:Int)+1=0):=by omega
     rcases hn:g.done.length with _|n
     ·have eH:g.done=[]:=List.length_eq_zero_iff.1 hn
      (refine TW.go ?_;simp[ai,au,hp,hn,wK];repeat' first|intro hc|refine aa.mk ?_|refine aI ?_|refine ah ?_ ?_|(refine cP ?_;refine⟨_,lP _ _ _ _,?_⟩;simp[ai,au,hp,hn,wK]))
      all_goals
       refine ar.nil (r:=gB (jJ g)) ?_ rfl;simp_all[jJ]
     ·have B4:g.done[n]?=some g.done[n]:=List.getElem?_eq_getElem (by omega)
      have vX:g.done.getLast?=some g.done[n]:=by rw[List.getLast?_eq_getElem?,show g.done.length-1=n by omega];exact B4
      have hw:=iX (k:=n) (by omega)
      have yF:¬((n:Int)+1=0):=by omega
      (refine TW.go ?_;simp[ai,au,hp,hn,wK,yF,hw,B4];repeat' first|intro hc|refine aa.mk ?_|refine aI ?_|refine ah ?_ ?_|(refine cP ?_;refine⟨_,lP _ _ _ _,?_⟩;simp[ai,au,hp,hn,wK,yF,hw,B4]))
      all_goals
       refine ar.nil (r:=gB (jJ g)) ?_ rfl;simp_all[jJ]
end Go.Proofs.YtjklkppncmhehaaGreat.T
namespace Go.Proofs.YtjklkppncmhehaaGreat.T
open Go Go.RowKit
set_option maxRecDepth 100000
set_option maxHeartbeats 4000000
variable {E:List PanicEntry→World→Prop}
def f_ (set:List Int):Prop:=∀g∈set,0≤g∧g<5
theorem Gy (gs:List az)(m:Int){set:List Int}{k:Nat}{g:Int}(h:set[k]?=some g)(acc:List (Int×Int)):gA gs m (set.drop k) acc=if gT (aG gs g.toNat) m&&(bG (aG gs g.toNat) m).f then .inl ((bG (aG gs g.toNat) m).t,(bG (aG gs g.toNat) m).g)
  else gA gs m (set.drop (k+1)) (if gT (aG gs g.toNat) m then acc++[((bG (aG gs g.toNat) m).t,(bG (aG gs g.toNat) m).g)]else acc):=by
 obtain⟨hk,he⟩:=List.getElem?_eq_some_iff.1 h;rw[List.drop_eq_getElem_cons hk,gA,he]
theorem oY (gs:List az)(set:List Int)(m:Int)(h5:gs.length=5)(hr:f_ set)(hn:set≠[])(kC:set.length≤5):TC Tw.prog E 51 [gR (dD gs),gR (bL set),gI .i64 m] 0 [] (.p [km (bD gs set m).1,gB (bD gs set m).2]) []:=by
 have dp:0<set.length:=List.length_pos_iff.2 hn
 have hlen:set.length≤maxLen:=by simp only[maxLen];omega
 refine tE Tryz.f51 Tryz.ntmps51 (by rw[Tryz.results51]) ?_
 (refine TW.go ?_;simp;repeat' first|intro hc|refine aa.mk ?_|refine aI ?_|refine ah ?_ ?_)
 refine tL (fun(p:Nat×List (Int×Int))=>⟨[(0,gR (dD gs)),(1,gR (bL set)),(2,gI .i64 m),(6,.s (.ptr 0 0)),(8,.s (.own 1)),(9,gI .i64 (p.1:Nat))],[(0,.box [.r (rI 0),.r (rI 0)]),(1,.rows 28 2 (p.2.map iC))],2⟩)
  (fun p=>p.1≤set.length∧p.2.length≤p.1∧gA gs m (set.drop p.1) p.2=gA gs m set []) (fun p=>set.length-p.1) (0,[]) ⟨by simp,by simp,rfl⟩ (kO [0,1] []) fun p hp=>?_
 obtain⟨k,acc⟩:=p;obtain⟨hk,ha,bj⟩:=hp;simp only at hk ha bj⊢
 by_cases aj:k<set.length
 ·have he:set[k]?=some set[k]:=List.getElem?_eq_getElem aj
  obtain⟨g0,g1⟩:=hr _ (List.getElem_mem aj);generalize hx:set[k]=x at he g0 g1;have aw:(k:Int)<(set.length:Int):=by omega
  have Gz:x.toNat<gs.length:=by omega
  have hg:gs[x.toNat]?=some (aG gs x.toNat):=by rw[aG,List.getD_eq_getElem?_getD,List.getElem?_eq_getElem Gz];rfl
  have aF:=wrap_add aj hlen;have hd:=Gy gs m he acc;rw[bj]at hd;generalize aG gs x.toNat=G at hg hd;clear Gz
  cases hb:gT G m
  ·simp only[hb,Bool.false_and,Bool.false_eq_true,if_false]at hd
   (refine TW.go ?_;simp[aw,he,g0,hg,hb,ai,au,aF,maxLen];repeat' first|intro hc|refine aa.mk ?_|refine aI ?_|refine ah ?_ ?_|(refine cP ?_;refine⟨_,d_ _ _,?_⟩;simp[aw,he,g0,hg,hb,ai,au,aF,maxLen]))
   exact⟨(k+1,acc),⟨by simp only;omega,by simp only;omega,hd.symm⟩,by simp only;omega,kO [0,1] []⟩
  ·cases hf:(bG G m).f
   ·simp only[hb,hf,Bool.and_false,Bool.false_eq_true,if_false,if_true]at hd
    (refine TW.go ?_;simp[aw,he,g0,hg,hb,hf,ai,au,aF,maxLen];repeat' first|intro hc|refine aa.mk ?_|refine aI ?_|refine ah ?_ ?_|(refine cP ?_;refine⟨_,d_ _ _,?_⟩;simp[aw,he,g0,hg,hb,hf,ai,au,aF,maxLen]))
    exact⟨(k+1,acc++[((bG G m).t,(bG G m).g)]),⟨by simp only;omega,by simp;omega,hd.symm⟩,by simp only;omega,Wk.own [0,4] [] (by simp) (by simp) (by simp[iC]) (by simp) (by simp)⟩
   ·simp only[hb,hf,Bool.and_true,if_true]at hd
    (refine TW.go ?_;simp[aw,he,g0,hg,hb,hf,ai,au,aF,maxLen];repeat' first|intro hc|refine aa.mk ?_|refine aI ?_|refine ah ?_ ?_|(refine cP ?_;refine⟨_,d_ _ _,?_⟩;simp[aw,he,g0,hg,hb,hf,ai,au,aF,maxLen]))
    rw[show bD gs set m=(((bG G m).t,(bG G m).g),true) by rw[bD,hd]]
    refine ar.nil (r:= .p [km ((bG G m).t,(bG G m).g),gB true]) ?_ rfl;simp
 ·obtain rfl:k=set.length:=by omega
  rw[List.drop_length,gA]at bj;have hS:bD gs set m=if acc.length<set.length then((0,0),false)else(mD acc,true):=by rw[bD,←bj]
  rw[hS];by_cases hl:acc.length<set.length
  ·have bz:(acc.length:Int)<(set.length:Int):=by omega
   rw[if_pos hl];(refine TW.go ?_;simp[bz];repeat' first|intro hc|refine aa.mk ?_|refine aI ?_|refine ah ?_ ?_)
   refine ar.nil (r:= .p [km (0,0),gB false]) ?_ rfl;simp
  ·rw[if_neg hl]
   rcases acc with _|⟨x,xs⟩
   ·exact absurd dp hl
   ·have bz:¬(xs.length:Int)+1<(set.length:Int):=by simp at hl;omega
    (refine TW.go ?_;simp[bz];repeat' first|intro hc|refine aa.mk ?_|refine aI ?_|refine ah ?_ ?_|(refine cK [1] ?_;refine⟨_,Gt x xs,?_⟩;simp[bz]))
    refine ar.nil (r:= .p [km (mD (x::xs)),gB true]) ?_ rfl;simp[mD]
theorem fT {α β:Type}(f:β→α→β)(b:β){xs:List α}{k:Nat}{x:α}(h:xs[k]?=some x):(xs.take (k+1)).foldl f b=f ((xs.take k).foldl f b) x:=by
 rw[List.take_add_one,h,List.foldl_append];rfl
theorem fU {gs:List az}{i:Nat}(h:i<gs.length):gs[i]?=some (aG gs i):=by
 rw[aG,List.getD_eq_getElem?_getD,List.getElem?_eq_getElem h];rfl
theorem f_.take {set:List Int}(h:f_ set)(k:Nat):f_ (set.take k):=fun g hg=>h g (List.mem_of_mem_take hg)
theorem xB {gs:List az}{m:Int}{set:List Int}{k:Nat}(h:eM gs m (set.take k)=false):eM gs m set=false:=by
 simp only[eM,List.all_eq_false]at h⊢;obtain⟨x,hx,h⟩:=h;exact⟨x,List.mem_of_mem_take hx,h⟩
theorem yI {gs:List az}{m:Int}{set:List Int}{k:Nat}{x:Int}(h:set[k]?=some x):eM gs m (set.take (k+1))=(eM gs m (set.take k)&&(gT (aG gs x.toNat) m&&(bG (aG gs x.toNat) m).f)):=by
 rw[eM,List.take_add_one,h,List.all_append];simp[eM]
abbrev nB (gs:List az):ak:= .rows 37 4 (gs.map ai)
theorem MF (gs:List az)(set:List Int)(m:Int)(h5:gs.length=5)(hg:∀g∈gs,fc g 4294967000)(hr:f_ set)(hn:set≠[])(kC:set.length≤5):TC Tw.prog E 70 [gR (dD gs),gR (bL set),gI .i64 m] 0 [] (.p [.s (.own 0),gB (sE gs set m).2]) [(0,nB (sE gs set m).1)]:=by
 have dp:0<set.length:=List.length_pos_iff.2 hn
 have hlen:set.length≤maxLen:=by simp only[maxLen];omega
 have xC:gw gs 4294967296:=⟨by omega,fun g h=>by have:=(hg g h).1;exact⟨by omega,by omega⟩⟩
 refine tE Tryz.f70 Tryz.ntmps70 (by rw[Tryz.results70]) ?_
 (refine TW.go ?_;simp;repeat' first|intro hc|refine aa.mk ?_|refine aI ?_|refine ah ?_ ?_|(refine cF [] 1 ?_;refine⟨_,_,fF gs xC,?_⟩;simp))
 refine tL (fun(k:Nat)=>⟨[(1,gR (bL set)),(2,gI .i64 m),(8,.s (.own 0)),(9,gI .i64 (k:Nat))],[(0,nB (bN gs m (set.take k)))],1⟩) (fun k=>k≤set.length) (fun k=>set.length-k) 0 (by omega) (Wk.own [0] [] (by simp) (by simp) (by simp[bN]) (by simp) (by simp)) fun k hk=>?_
 by_cases aj:k<set.length
 ·have he:set[k]?=some set[k]:=List.getElem?_eq_getElem aj
  obtain⟨g0,g1⟩:=hr _ (List.getElem_mem aj);generalize hx:set[k]=x at he g0 g1;have aw:(k:Int)<(set.length:Int):=by omega
  have aF:=wrap_add aj hlen;obtain⟨n5,nN⟩:=nA (n:=4294967005) m (set.take k) gs 4294967000 (hr.take k) h5 hg (by simp;omega)
  have iH:bN gs m (set.take (k+1))=(bN gs m (set.take k)).set x.toNat (aM (aG (bN gs m (set.take k)) x.toNat) m).1:=fT _ _ he
  have Gz:x.toNat<(bN gs m (set.take k)).length:=by omega
  have hG:=fU Gz;have hN:=nN _ (List.mem_of_getElem? hG);have hle:fE (aG (bN gs m (set.take k)) x.toNat) 4294967290:=by have:=hN.1;exact⟨by omega,by omega⟩
  have hx5:x<5:=g1
  generalize bN gs m (set.take k)=gk at*;generalize Xk:aG gk x.toNat=G at*;(refine TW.go ?_;simp[aw,he,g0,hG,ai,aF,maxLen];repeat' first|intro hc|refine aa.mk ?_|refine aI ?_|refine ah ?_ ?_|(refine cF [] 2 ?_;refine⟨_,_,jh _ m hle hN.2,?_⟩;simp[aw,he,g0,hG,ai,aF,maxLen]))
  exact⟨k+1,by omega,by omega,Wk.own [0] [] (by simp) (by simp) (by simp[iH,ai]) (by simp) (by simp)⟩
 ·obtain rfl:k=set.length:=by omega
  obtain⟨n5,nN⟩:=nA (n:=4294967005) m set gs 4294967000 hr h5 hg (by omega)
  have hA:sE gs set m=if(bD (bN gs m set) set m).2=true then(ee (bN gs m set) m (bD (bN gs m set) set m).1 set,eM (ee (bN gs m set) m (bD (bN gs m set) set m).1 set) m set)
   else(bN gs m set,false):=rfl
  rw[hA];simp only[List.take_length];generalize bN gs m set=g1 at*;clear hA
  cases fL:(bD g1 set m).2
  ·rw[if_neg (by simp)]
   (refine TW.go ?_;simp[fL];repeat' first|intro hc|refine aa.mk ?_|refine aI ?_|refine ah ?_ ?_|(refine cK [0] ?_;refine⟨_,oY g1 set m n5 hr hn kC,?_⟩;simp[fL]))
   refine tL (fun(_:Unit)=>⟨[(1,gR (bL set)),(2,gI .i64 m),(8,.s (.own 0)),(14,gB false),(15,gI .i64 0)],[(0,nB g1)],1⟩) (fun _=>True) (fun _=>0) () trivial (kO [0] []) fun _ _=>?_;(refine TW.go ?_;simp;repeat' first|intro hc|refine aa.mk ?_|refine aI ?_|refine ah ?_ ?_)
   all_goals
    refine tL (fun(_:Unit)=>⟨[(1,gR (bL set)),(2,gI .i64 m),(8,.s (.own 0)),(14,gB false),(19,gI .i64 0)],[(0,nB g1)],1⟩) (fun _=>True) (fun _=>0) () trivial (kO [0] []) fun _ _=>?_;(refine TW.go ?_;simp;repeat' first|intro hc|refine aa.mk ?_|refine aI ?_|refine ah ?_ ?_)
    all_goals exact oW [0] []
  ·rw[if_pos rfl]
   generalize hs:(bD g1 set m).1=s;(refine TW.go ?_;simp[fL,hs];repeat' first|intro hc|refine aa.mk ?_|refine aI ?_|refine ah ?_ ?_|(refine cK [0] ?_;refine⟨_,oY g1 set m n5 hr hn kC,?_⟩;simp[fL,hs]))
   refine tL (fun(k:Nat)=>⟨[(1,gR (bL set)),(2,gI .i64 m),(8,.s (.own 0)),(13,.s (.ptr 1 0)),(14,gB true),(15,gI .i64 (k:Nat))],[(0,nB (ee g1 m s (set.take k))),(1,.box [.r (rI s.1),.r (rI s.2)])],2⟩) (fun k=>k≤set.length) (fun k=>set.length-k) 0 (by omega) (Wk.own [0,1] [] (by simp) (by simp) (by simp[ee]) (by simp) (by simp)) fun k hk=>?_
   by_cases aj:k<set.length
   ·have he:set[k]?=some set[k]:=List.getElem?_eq_getElem aj
    obtain⟨g0,K9⟩:=hr _ (List.getElem_mem aj);generalize hx:set[k]=x at he g0 K9;have aw:(k:Int)<(set.length:Int):=by omega
    have aF:=wrap_add aj hlen;obtain⟨f5,fN⟩:=pv (n:=4294967005) m s (set.take k) g1 (hr.take k) n5 nN;have iH:ee g1 m s (set.take (k+1))=(ee g1 m s (set.take k)).set x.toNat (bR (aG (ee g1 m s (set.take k)) x.toNat) m s.1 s.2).1:=fT _ _ he
    have Gz:x.toNat<(ee g1 m s (set.take k)).length:=by omega
    have hG:=fU Gz;have hN:=fN _ (List.mem_of_getElem? hG);have hle:=hN.mono (n':=4294967290) (by omega)
    generalize ee g1 m s (set.take k)=gk at*;generalize Xk:aG gk x.toNat=G at*;(refine TW.go ?_;simp[aw,he,g0,hG,ai,aF,maxLen];repeat' first|intro hc|refine aa.mk ?_|refine aI ?_|refine ah ?_ ?_|(refine cF [] 3 ?_;refine⟨_,_,oX _ m _ _ hle,?_⟩;simp[aw,he,g0,hG,ai,aF,maxLen]))
    exact⟨k+1,by omega,by omega,Wk.own [0,1] [] (by simp) (by simp) (by simp[iH,ai]) (by simp) (by simp)⟩
   ·obtain rfl:k=set.length:=by omega
    simp only[List.take_length];obtain⟨f5, -⟩:=pv (n:=4294967005) m s set g1 hr n5 nN;generalize ee g1 m s set=g2 at*;(refine TW.go ?_;simp;repeat' first|intro hc|refine aa.mk ?_|refine aI ?_|refine ah ?_ ?_)
    refine tL (fun(k:Nat)=>⟨[(1,gR (bL set)),(2,gI .i64 m),(8,.s (.own 0)),(14,gB (eM g2 m (set.take k))),(19,gI .i64 (k:Nat))],[(0,nB g2)],1⟩) (fun k=>k≤set.length) (fun k=>set.length-k) 0 (by omega) (Wk.own [0] [] (by simp) (by simp[eM]) (by simp) (by simp) (by simp)) fun k hk=>?_
    cases PK:eM g2 m (set.take k)
    ·rw[xB PK]
     (refine TW.go ?_;simp;repeat' first|intro hc|refine aa.mk ?_|refine aI ?_|refine ah ?_ ?_)
     all_goals exact oW [0] []
    ·by_cases aj:k<set.length
     ·have he:set[k]?=some set[k]:=List.getElem?_eq_getElem aj
      obtain⟨g0,K9⟩:=hr _ (List.getElem_mem aj);generalize hx:set[k]=x at he g0 K9;have aw:(k:Int)<(set.length:Int):=by omega
      have aF:=wrap_add aj hlen;have iH:=yI (gs:=g2) (m:=m) he;rw[PK,Bool.true_and]at iH;have Gz:x.toNat<g2.length:=by omega
      have hG:=fU Gz;generalize Xk:aG g2 x.toNat=G at*
      cases hb:gT G m
      ·rw[hb,Bool.false_and]at iH
       (refine TW.go ?_;simp[aw,he,g0,hG,hb,ai,au,aF];repeat' first|intro hc|refine aa.mk ?_|refine aI ?_|refine ah ?_ ?_|(refine cP ?_;refine⟨_,d_ _ _,?_⟩;simp[aw,he,g0,hG,hb,ai,au,aF]))
       exact⟨k+1,by omega,by omega,Wk.own [0] [] (by simp) (by simp[iH]) (by simp) (by simp) (by simp)⟩
      ·rw[hb,Bool.true_and]at iH
       (refine TW.go ?_;simp[aw,he,g0,hG,hb,ai,au,aF];repeat' first|intro hc|refine aa.mk ?_|refine aI ?_|refine ah ?_ ?_|(refine cP ?_;refine⟨_,d_ _ _,?_⟩;simp[aw,he,g0,hG,hb,ai,au,aF]))
       exact⟨k+1,by omega,by omega,Wk.own [0] [] (by simp) (by simp[iH]) (by simp) (by simp) (by simp)⟩
     ·obtain rfl:k=set.length:=by omega
      rw[List.take_length]at PK;rw[PK];(refine TW.go ?_;simp;repeat' first|intro hc|refine aa.mk ?_|refine aI ?_|refine ah ?_ ?_)
      exact oW [0] []
end Go.Proofs.YtjklkppncmhehaaGreat.T
namespace Go.Proofs.YtjklkppncmhehaaGreat.T
open Go Go.RowKit
set_option maxRecDepth 100000
set_option maxHeartbeats 4000000
variable {E:List PanicEntry→World→Prop}
theorem qp (m:Int):∀(es:List aK) (k:Nat),ck m es k<0↔∀e∈es,e.m≠m
 |[],k=>by simp[ck]
 |e::es,k=>by
  unfold ck;by_cases h:e.m=m
  ·rw[if_pos h]
   simp only[List.mem_cons,forall_eq_or_imp];constructor
   ·intro U;omega
   ·intro U;exact absurd h U.1
  ·rw[if_neg h,qp m es (k+1)]
   simp only[List.mem_cons,forall_eq_or_imp];exact⟨fun U=>⟨h,U⟩,fun U=>U.2⟩
theorem qY (es:List aK)(m:Int):cA es m<0↔∀e∈es,e.m≠m:=qp m es 0
theorem cu {n:Nat}{c:Nat→Bool}:bX n c=true↔∀i,i<n→c i=true:=by simp[bX]
theorem zE {es:List aK}{k:Nat}{m:Int}:qm es k m=false↔∀i,i<k→∀e,es[i]?=some e→e.m≠m:=by
 unfold qm;rw[List.any_eq_false];constructor
 ·intro h i hi e he
  have:=h e (List.mem_of_getElem? (by rw[List.getElem?_take,if_pos hi];exact he))
  simpa using this
 ·intro h e he
  obtain⟨i,hi⟩:=List.getElem?_of_mem he;rw[List.getElem?_take]at hi;split at hi
  ·simpa using h i (by assumption) e hi
  ·cases hi
theorem qZ {id clock:Int}{es:List aK}{i:Nat}:kY id clock es i=true↔o9 id clock es i=true∧gF es i=true:=by
 unfold kY o9 gF
 cases h:es[i]? with
 |none=>simp
 |some e=>
  have hd:decide (cA (es.take i) e.m<0)= !qm es i e.m:=by
   rw[Bool.eq_iff_iff,decide_eq_true_eq,qY,Bool.not_eq_true',qm,List.any_eq_false];simp
  simp only[hd]
  cases bC e.m<;>cases bb e.t e.g<;>cases decide (e.t≤clock)<;>cases e.f<;>cases decide (e.g=id)<;>cases qm es i e.m<;>simp<;>exact Iff.rfl
theorem Jj {id clock:Int}{es:List aK}:iY id clock es=true↔jW id clock es=true∧bX es.length (gF es)=true:=by
 unfold iY jW;rw[cu,cu,cu];exact⟨fun h=>⟨fun i hi=>(qZ.1 (h i hi)).1,fun i hi=>(qZ.1 (h i hi)).2⟩,fun h i hi=>qZ.2 ⟨h.1 i hi,h.2 i hi⟩⟩
theorem tJ {es:List aK}:bX es.length (gF es)=true↔∀(i j:Nat) (e d:aK),j<i→es[i]?=some e→es[j]?=some d→d.m≠e.m:=by
 rw[cu];constructor
 ·intro h i j e d FQ he hd
  have:=h i (List.getElem?_eq_some_iff.1 he).1
  unfold gF at this;rw[he]at this;exact zE.1 (by simpa using this) j FQ d hd
 ·intro h i hi
  unfold gF;rw[List.getElem?_eq_getElem hi];simp only[Bool.not_eq_true'];exact zE.2 fun j hj d hd=>h i j _ d hj (List.getElem?_eq_getElem hi) hd
theorem Ce {a b:List aK}:bX (a++b).length (gF (a++b))=true↔bX a.length (gF a)=true∧bX b.length (gF b)=true∧∀e∈a,∀d∈b,d.m≠e.m:=by
 rw[tJ,tJ,tJ];constructor
 ·intro h
  refine⟨fun i j e d FQ he hd=>?_,fun i j e d FQ he hd=>?_,fun e he d hd=>?_⟩
  ·exact h i j e d FQ (by rw[List.getElem?_append_left (List.getElem?_eq_some_iff.1 he).1];exact he) (by rw[List.getElem?_append_left (List.getElem?_eq_some_iff.1 hd).1];exact hd)
  ·exact h (a.length+i) (a.length+j) e d (by omega) (by rw[List.getElem?_append_right (by omega)];simpa using he) (by rw[List.getElem?_append_right (by omega)];simpa using hd)
  ·obtain⟨i,hi⟩:=List.getElem?_of_mem he
   obtain⟨j,hj⟩:=List.getElem?_of_mem hd;have Mq:=(List.getElem?_eq_some_iff.1 hi).1;exact fun e'=>h (a.length+j) i d e (by omega) (by rw[List.getElem?_append_right (by omega)];simpa using hj) (by rw[List.getElem?_append_left Mq];exact hi) e'.symm
 ·rintro⟨U,h2,h3⟩ i j e d FQ he hd
  rw[List.getElem?_append]at he hd;split at he
  ·rw[if_pos (by omega)]at hd
   exact U i j e d FQ he hd
  ·split at hd
   ·exact fun e'=>h3 d (List.mem_of_getElem? hd) e (List.mem_of_getElem? he) e'.symm
   ·exact h2 _ _ e d (by omega) he hd
theorem MN {g:az}:bX g.done.length (kZ g)=true↔bX g.done.length (sJ g.done)=true∧∀e∈g.done,∀d∈g.aN,d.m≠e.m:=by
 rw[cu,cu];constructor
 ·intro h
  refine⟨fun i hi=>?_,fun e he d hd=>?_⟩
  ·have:=h i hi
   unfold kZ at this;unfold sJ;rw[List.getElem?_eq_getElem hi]at this⊢;simp only[Bool.and_eq_true]at this;exact this.1
  ·obtain⟨i,hi,rfl⟩:=List.getElem_of_mem he
   have:=h i hi
   unfold kZ at this;rw[List.getElem?_eq_getElem hi]at this;simp only[Bool.and_eq_true,decide_eq_true_eq]at this;exact(qY _ _).1 this.2 d hd
 ·rintro⟨U,h2⟩ i hi
  have:=U i hi
  unfold sJ at this;unfold kZ;rw[List.getElem?_eq_getElem hi]at this⊢;simp only[Bool.and_eq_true,decide_eq_true_eq];exact⟨this,(qY _ _).2 fun d hd=>h2 _ (List.getElem_mem hi) d hd⟩
theorem xL (g:az):kn g=bI g:=by
 rw[Bool.eq_iff_iff];unfold kn bI;simp only[Bool.and_eq_true,Jj,Ce,MN,fC];constructor
 ·rintro⟨⟨⟨⟨⟨⟨a,b⟩,c⟩,d⟩,e,f,h⟩,i⟩,j⟩
  exact⟨⟨⟨⟨⟨a,b⟩,c,f⟩,d,e⟩,i,h⟩,j⟩
 ·rintro⟨⟨⟨⟨⟨a,b⟩,c,f⟩,d,e⟩,i,h⟩,j⟩
  exact⟨⟨⟨⟨⟨⟨a,b⟩,c⟩,d⟩,e,f,h⟩,i⟩,j⟩
def cC (g:az)(m:Int):aK:=if bI g=true then bG g m else aK.zero
def o_ (g:az)(m:Int):Bool:=bI g&&gT g m
theorem qq (g:az)(m:Int)(h:fE g 4294967290):TC Tw.prog E 16 [.a ((ai g).map .r),gI .i64 m] 0 [] (.p [lL (cC g m),gB (o_ g m)]) []:=by
 have hV:=qn (E:=E) g h;rw[xL]at hV;unfold cC o_;refine tE Tryz.f16 Tryz.ntmps16 (by rw[Tryz.results16]) ?_
 cases hv:bI g
 ·rw[if_neg (by simp)]
  rw[hv]at hV;(refine TW.go ?_;simp[ai];repeat' first|intro hc|refine aa.mk ?_|refine aI ?_|refine ah ?_ ?_|(refine cP ?_;refine⟨_,hV,?_⟩;simp[ai]))
  refine ar.nil (r:= .p [lL aK.zero,gB false]) ?_ rfl;simp[au,aK.zero]
 ·rw[if_pos rfl,Bool.true_and]
  rw[hv]at hV;(refine TW.go ?_;simp[ai];repeat' first|intro hc|refine aa.mk ?_|refine aI ?_|refine ah ?_ ?_|(refine cP ?_;refine⟨_,hV,?_⟩;simp[ai]))
  refine tL (fun(k:Nat)=>⟨[(1,gI .i64 m),(4,.s (.ptr 1 0)),(17,.a [.r (dw g.aN),.r (dw g.done)]),(18,gI .i64 (k:Nat))],[(1,.box [.r (rI 0),.r (rI 0),.r (rI 0),.r (rB false)])],2⟩)
   (fun k=>k≤2∧(1≤k→g.aN.find? (fun e=>decide (e.m=m))=none)∧(2≤k→g.done.find? (fun e=>decide (e.m=m))=none)) (fun k=>2-k) 0 ⟨by omega,fun h=>by omega,fun h=>by omega⟩
   (Wk.same (by simp[ai]) (by simp) (by simp)) fun k hk=>?_
  obtain⟨hk,k1,k2⟩:=hk;rcases k with _|_|_|k
  ·rcases dZ g.aN m with⟨hp,aV⟩|⟨j,e,hp,he,aV,_⟩
   ·(refine TW.go ?_;simp[hp];repeat' first|intro hc|refine aa.mk ?_|refine aI ?_|refine ah ?_ ?_|(refine cP ?_;refine⟨_,nG _ _,?_⟩;simp[hp]))
    exact⟨1,⟨by omega,fun _=>by simpa using aV,fun h=>by omega⟩,by omega,kS⟩
   ·rw[show bG g m=e by simp[bG,fa,aV],show gT g m=true by simp[gT,fa,aV]]
    (refine TW.go ?_;simp[hp,he,au];repeat' first|intro hc|refine aa.mk ?_|refine aI ?_|refine ah ?_ ?_|(refine cP ?_;refine⟨_,nG _ _,?_⟩;simp[hp,he,au]))
    refine ar.nil (r:= .p [lL e,gB true]) ?_ rfl;simp[au]
  ·have k1:=k1 (by omega)
   rcases dZ g.done m with⟨hp,aV⟩|⟨j,e,hp,he,aV,_⟩
   ·(refine TW.go ?_;simp[hp];repeat' first|intro hc|refine aa.mk ?_|refine aI ?_|refine ah ?_ ?_|(refine cP ?_;refine⟨_,nG _ _,?_⟩;simp[hp]))
    exact⟨2,⟨by omega,fun _=>by simpa using k1,fun _=>by simpa using aV⟩,by omega,Wk.same (by simp[show IntKind.i64.wrap 2=2 by decide]) (by simp) (by simp)⟩
   ·rw[show bG g m=e by simp[bG,fa,k1,aV],show gT g m=true by simp[gT,fa,k1,aV]]
    (refine TW.go ?_;simp[hp,he,au];repeat' first|intro hc|refine aa.mk ?_|refine aI ?_|refine ah ?_ ?_|(refine cP ?_;refine⟨_,nG _ _,?_⟩;simp[hp,he,au]))
    refine ar.nil (r:= .p [lL e,gB true]) ?_ rfl;simp[au]
  ·have k1:=k1 (by omega)
   have k2:=k2 (by omega)
   rw[show bG g m=aK.zero by simp[bG,fa,k1,k2],show gT g m=false by simp[gT,fa,k1,k2]]
   (refine TW.go ?_;simp;repeat' first|intro hc|refine aa.mk ?_|refine aI ?_|refine ah ?_ ?_)
   refine ar.nil (r:= .p [lL aK.zero,gB false]) ?_ rfl;simp[au,aK.zero]
  ·omega
def fK (g:az)(m:Int):List RT:=[rI (cC g m).m,rI (cC g m).t,rI (cC g m).g,rB (cC g m).f,rB (o_ g m)]
theorem GJ (gs:List az)(x m:Int)(h:gw gs 4294967290)(h0:0≤x)(U:x<gs.length):
  TC Tw.prog E 121 [gI .i64 x,.s (.gS [dD gs] 0),.s (.gS [rI m] 0)] 0 [] (.a ((fK (aG gs x.toNat) m).map .r)) []:=by
 have hG:=fU (gs:=gs) (i:=x.toNat) (by omega)
 have hle:=h.2 _ (List.mem_of_getElem? hG);generalize aG gs x.toNat=G at*;refine tE Tryz.f121 Tryz.ntmps121 (by rw[Tryz.results121]) ?_
 (refine TW.go ?_;simp[h0,hG,ai,au];repeat' first|intro hc|refine aa.mk ?_|refine aI ?_|refine ah ?_ ?_|(refine cP ?_;refine⟨_,qq G m hle,?_⟩;simp[h0,hG,ai,au]))
 refine ar.own [] [] (by simp;rfl) (by simp[fK,au]) (by simp) (by simp) (by simp[fK,au]) (by simp)
end Go.Proofs.YtjklkppncmhehaaGreat.T
namespace Go.Proofs.YtjklkppncmhehaaGreat
open Go Go.RowKit
def UR (id clock:Int)(e:aK):Bool:=bC e.m&&(bb e.t e.g&&(decide (e.t≤clock)&&(e.f||decide (e.g=id))))
def US (a b:aK):Bool:=aU a.t a.g b.t b.g
def GK (id clock:Int):Option aK→List aK→Bool
 |_,[]=>true
 |p,e::es=>UR id clock e&&((match p with|none=>true|some q=>US q e)&&GK id clock (some e) es)
def jW (id clock:Int)(es:List aK):Bool:=GK id clock none es
theorem tK {w w':World}{g:Nat}{t:TypeId}{cs:Array Value}(h:ak w g t cs)(hb:Below w.heap.size w w'):ak w' g t cs:=h.below hb h.lt
end Go.Proofs.YtjklkppncmhehaaGreat
namespace Go.Proofs.YtjklkppncmhehaaGreat
open Go Go.RowKit
end Go.Proofs.YtjklkppncmhehaaGreat
