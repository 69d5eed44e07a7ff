/-
What is proved: what the program's check of a group, and its look-up, do to trees; the check is the reference's. No condition but the lengths that each states. the program's check of a group is the reference's; the program's look-up of a message, and its question. No condition but the lengths that each states. the contract of impl.areEntries over the second program. Conditions: those that the theorem states. the contract of impl.clone at entries; those of impl.GroupValid, impl.GroupStamp at groups without entries, over the second program. Conditions: those that each theorem states.
-/
import Derived.Test.YtjklkppncmhehaaGreatRs37
import Derived.Test.YtjklkppncmhehaaGreatRs35
import Derived.Test.YtjklkppncmhehaaGreatRs34
import Derived.BigQuiet
import Derived.Deep.RegionLaw
set_option linter.unusedVariables false
set_option linter.unusedSimpArgs false
namespace Go.Proofs.YtjklkppncmhehaaGreat.T
open Go Go.RowKit
set_option maxRecDepth 100000
set_option maxHeartbeats 4000000
variable {E:List PanicEntry→World→Prop}
def xK (es:List aK)(k:Nat):List Bool:=(List.range 12).map fun m=>(es.take k).any fun e=>decide (e.m=(m:Nat))
def fJ (es:List aK)(k:Nat):List TV:=(xK es k).map fun b=> .r (rB b)
theorem lg (es:List aK)(k:Nat):(fJ es k).length=12:=by simp[fJ,xK]
def qm (es:List aK)(k:Nat)(m:Int):Bool:=(es.take k).any fun e=>decide (e.m=m)
theorem Jh (es:List aK)(k:Nat){m:Int}(h0:0≤m)(U:m<12):List.take 1 (List.drop m.toNat (fJ es k))=[.r (rB (qm es k m))]:=by
 have aj:m.toNat<(fJ es k).length:=by rw[lg];omega
 rw[List.drop_eq_getElem_cons aj];simp only[List.take_succ_cons,List.take_zero,fJ,xK,List.getElem_map,List.getElem_range,qm];rw[show((m.toNat:Nat):Int)=m by omega]
theorem Ji (es:List aK)(k:Nat){e:aK}(he:es[k]?=some e)(h0:0≤e.m)(U:e.m<12):List.take e.m.toNat (fJ es k)++ .r (rB true)::List.drop (e.m.toNat+1) (fJ es k)=fJ es (k+1):=by
 have aj:e.m.toNat<(fJ es k).length:=by rw[lg];omega
 have hse:(fJ es k).set e.m.toNat (.r (rB true))=List.take e.m.toNat (fJ es k)++ .r (rB true)::List.drop (e.m.toNat+1) (fJ es k):=by rw[List.set_eq_take_append_cons_drop,if_pos aj]
 rw[←hse];apply List.ext_getElem
 ·simp[lg]
 ·intro i h2 h3
  have hi:i<12:=by rw[lg]at h3;exact h3
  rw[List.getElem_set];simp only[fJ,xK,List.getElem_map,List.getElem_range];rw[List.take_add_one,he,List.any_append];by_cases hm:e.m.toNat=i
  ·rw[if_pos hm]
   simp only[Option.toList_some,List.any_cons,List.any_nil,Bool.or_false];rw[show decide (e.m=(i:Nat))=true by simp;omega,Bool.or_true]
  ·rw[if_neg hm]
   simp only[Option.toList_some,List.any_cons,List.any_nil,Bool.or_false];rw[show decide (e.m=(i:Nat))=false by simp;omega,Bool.or_false]
theorem GI {es:List aK}{k:Nat}{x:TV}(h:x∈fJ es k):∃b,x= .r (rB b):=by
 obtain⟨b,_,rfl⟩:=List.mem_map.1 h;exact⟨b,rfl⟩
def gF (es:List aK)(i:Nat):Bool:=match es[i]? with
 |some e=> !qm es i e.m
 |none=>true
def sJ (es:List aK)(i:Nat):Bool:=match es[i]? with
 |some e=>e.f
 |none=>true
def kn (g:az):Bool:=bw g.id&&fC g.clock&&jW g.id g.clock g.aN&&jW g.id g.clock g.done&&bX (g.done++g.aN).length (gF (g.done++g.aN))&&bX g.done.length (sJ g.done)&&jJ g
theorem zD {id clock:Int}{es:List aK}(h:jW id clock es=true){e:aK}(he:e∈es):0≤e.m∧e.m<12:=by
 obtain⟨i,hi,rfl⟩:=List.getElem_of_mem he;simp only[jW,bX,List.all_eq_true,List.mem_range]at h;have:=h i hi
 unfold o9 at this;rw[List.getElem?_eq_getElem hi]at this;simp only[Bool.and_eq_true,bC,decide_eq_true_eq]at this;exact this.1.1.1.1
theorem qn (g:az)(h:fE g 4294967290):TC Tw.prog E 52 [.a ((ai g).map .r)] 0 [] (gB (kn g)) []:=by
 obtain⟨tn,UH⟩:=h;have hlen:g.done.length≤maxLen:=by simp only[maxLen];omega
 refine tE Tw.func52 Tw.ntmps52 (by rw[Tryz.results52]) ?_
 cases hv:bw g.id&&fC g.clock&&jW g.id g.clock g.aN&&jW g.id g.clock g.done
 ·rw[show kn g=false by rw[kn,hv];simp]
  (refine TW.go ?_;simp[ai];repeat' first|intro hc|refine aa.mk ?_|refine aI ?_|refine ah ?_ ?_|(refine cP ?_;(first|refine⟨_,nE _,?_⟩|refine⟨_,zC _,?_⟩|refine⟨_,ql g _,?_⟩);simp[ai]))
  all_goals first
   |(exact oW [] [])
   |(exfalso;simp_all)
 ·have fp:=hv
  simp only[Bool.and_eq_true]at fp;obtain⟨⟨⟨v1,v2⟩,v3⟩,v4⟩:=fp;generalize cE:g.done++g.aN=es;have B4:es.length≤8589934580:=by rw[←cE];simp;omega
  have SD:es.length≤maxLen:=by simp only[maxLen];omega
  have J0:∀e∈es,0≤e.m∧e.m<12:=fun e he=>by
   rw[←cE]at he;rcases List.mem_append.1 he with he|he
   ·exact zD v4 he
   ·exact zD v3 he
  have PZ:kn g=(bX es.length (gF es)&&bX g.done.length (sJ g.done)&&jJ g):=by
   rw[kn,hv,cE,Bool.true_and]
  have se:=yK (E:=E) g.done (by omega)
  have SE:fJ es 0=[.r (rB false),.r (rB false),.r (rB false),.r (rB false),.r (rB false),.r (rB false),.r (rB false),.r (rB false),.r (rB false),.r (rB false),.r (rB false),.r (rB false)]:=by simp[fJ,xK,List.range_succ]
  (refine TW.go ?_;simp[ai,v1,v2,v3,v4,maxLen];repeat' first|intro hc|refine aa.mk ?_|refine aI ?_|refine ah ?_ ?_|(refine cP ?_;(first|refine⟨_,nE _,?_⟩|refine⟨_,zC _,?_⟩|refine⟨_,ql g _,?_⟩);simp[ai,v1,v2,v3,v4,maxLen])|(refine cF [] 1 ?_;refine⟨_,_,se,?_⟩;simp[ai,v1,v2,v3,v4,maxLen]))
  refine tL (fun(k:Nat)=>⟨[(1,.s (.ptr 0 0)),(3,.s (.ptr 1 0)),(38,gR (dw es)),(39,gI .i64 es.length),(40,gI .i64 (k:Nat))],[(0,.box ((ai g).map .r)),(1,.box (fJ es k))],2⟩) (fun k=>k≤es.length∧∀i,i<k→gF es i=true) (fun k=>es.length-k) 0 ⟨by omega,fun i hi=>by omega⟩
   (Wk.own [0,1] [3] (by simp) (by simp[←cE]) (by simp[ai,SE]) (by simp) (by simp)) fun k hk=>?_
  obtain⟨hk,hf⟩:=hk;by_cases aj:k<es.length
  ·have he:es[k]?=some es[k]:=List.getElem?_eq_getElem aj
   have aw:(k:Int)<(es.length:Int):=by omega
   have aF:=wrap_add aj SD;obtain⟨m0,m1⟩:=J0 _ (List.getElem_mem aj);generalize es[k]=e at he m0 m1;have dC:=Jh es k m0 m1;have b_:=Ji es k he m0 m1;have PE:=lg es k;have P0:gF es k= !qm es k e.m:=by rw[gF,he]
   cases hd:qm es k e.m
   ·rw[hd]at dC
    (refine TW.go ?_;simp[aw,he,m0,dC,b_,PE,au,ai,aF];repeat' first|intro hc|refine aa.mk ?_|refine aI ?_|refine ah ?_ ?_)
    refine⟨k+1,⟨by omega,fun i hi=>?_⟩,by omega,Wk.own [0,1] [] (by simp) (by simp) (by simp[ai];exact⟨fun a ha=>by obtain⟨c,rfl⟩:=GI ha;rfl,fun b x hx hb=>by obtain⟨c,rfl⟩:=GI hx;cases hb⟩) (by simp) (by simp)⟩
    by_cases e:i=k
    ·subst e;rw[P0,hd];rfl
    ·exact hf i (by omega)
   ·rw[hd]at dC
    rw[show kn g=false by rw[PZ,bY aj (by rw[P0,hd];rfl)];rfl]
    (refine TW.go ?_;simp[aw,he,m0,dC,PE,au,ai];repeat' first|intro hc|refine aa.mk ?_|refine aI ?_|refine ah ?_ ?_)
    exact oW [] []
  ·obtain rfl:k=es.length:=by omega
   have db:bX es.length (gF es)=true:=bH hf
   rw[db,Bool.true_and]at PZ;clear hf;(refine TW.go ?_;simp[ai];repeat' first|intro hc|refine aa.mk ?_|refine aI ?_|refine ah ?_ ?_)
   refine tL (fun(k:Nat)=>⟨[(1,.s (.ptr 0 0)),(53,gR (dw g.done)),(54,gI .i64 g.done.length),(55,gI .i64 (k:Nat))],[(0,.box ((ai g).map .r))],1⟩) (fun k=>k≤g.done.length∧∀i,i<k→sJ g.done i=true) (fun k=>g.done.length-k) 0 ⟨by omega,fun i hi=>by omega⟩
    (Wk.own [0] [] (by simp) (by simp) (by simp[ai]) (by simp) (by simp)) fun k hk=>?_
   obtain⟨hk,hf⟩:=hk;by_cases aj:k<g.done.length
   ·have he:g.done[k]?=some g.done[k]:=List.getElem?_eq_getElem aj
    have aw:(k:Int)<(g.done.length:Int):=by omega
    have aF:=wrap_add aj hlen;generalize g.done[k]=e at he;have P0:sJ g.done k=e.f:=by rw[sJ,he]
    cases hd:e.f
    ·rw[show kn g=false by rw[PZ,bY aj (by rw[P0,hd])];rfl]
     (refine TW.go ?_;simp[aw,he,hd,au,ai];repeat' first|intro hc|refine aa.mk ?_|refine aI ?_|refine ah ?_ ?_)
     exact oW [] []
    ·(refine TW.go ?_;simp[aw,he,hd,au,ai,aF];repeat' first|intro hc|refine aa.mk ?_|refine aI ?_|refine ah ?_ ?_)
     refine⟨k+1,⟨by omega,fun i hi=>?_⟩,by omega,Wk.own [0] [] (by simp) (by simp) (by simp[ai]) (by simp) (by simp)⟩
     by_cases e:i=k
     ·subst e;rw[P0,hd]
     ·exact hf i (by omega)
   ·obtain rfl:k=g.done.length:=by omega
    have UQ:bX g.done.length (sJ g.done)=true:=bH hf
    rw[UQ,Bool.true_and]at PZ;clear hf cE B4 SD J0 db hv se SE;rw[PZ];rcases hp:g.aN with _|⟨p,ps⟩
    ·(refine TW.go ?_;simp[ai,hp];repeat' first|intro hc|refine aa.mk ?_|refine aI ?_|refine ah ?_ ?_)
     refine ar.nil (r:=gB (jJ g)) ?_ rfl;simp[jJ,hp]
    ·have wK:¬((ps.length:Int)+1=0):=by omega
     rcases hn:g.done.length with _|n
     ·have eH:g.done=[]:=List.length_eq_zero_iff.1 hn
      (refine TW.go ?_;simp[ai,au,hp,hn,wK];repeat' first|intro hc|refine aa.mk ?_|refine aI ?_|refine ah ?_ ?_|(refine cP ?_;refine⟨_,lP _ _ _ _,?_⟩;simp[ai,au,hp,hn,wK]))
      all_goals
       refine ar.nil (r:=gB (jJ g)) ?_ rfl;simp_all[jJ]
     ·have B4:g.done[n]?=some g.done[n]:=List.getElem?_eq_getElem (by omega)
      have vX:g.done.getLast?=some g.done[n]:=by rw[List.getLast?_eq_getElem?,show g.done.length-1=n by omega];exact B4
      have hw:=iX (k:=n) (by omega)
      have yF:¬((n:Int)+1=0):=by omega
      (refine TW.go ?_;simp[ai,au,hp,hn,wK,yF,hw,B4];repeat' first|intro hc|refine aa.mk ?_|refine aI ?_|refine ah ?_ ?_|(refine cP ?_;refine⟨_,lP _ _ _ _,?_⟩;simp[ai,au,hp,hn,wK,yF,hw,B4]))
      all_goals
       refine ar.nil (r:=gB (jJ g)) ?_ rfl;simp_all[jJ]
end Go.Proofs.YtjklkppncmhehaaGreat.T
namespace Go.Proofs.YtjklkppncmhehaaGreat.T
open Go Go.RowKit
set_option maxRecDepth 100000
set_option maxHeartbeats 4000000
variable {E:List PanicEntry→World→Prop}
theorem qp (m:Int):∀(es:List aK) (k:Nat),ck m es k<0↔∀e∈es,e.m≠m
 |[],k=>by simp[ck]
 |e::es,k=>by
  unfold ck;by_cases h:e.m=m
  ·rw[if_pos h]
   simp only[List.mem_cons,forall_eq_or_imp];constructor
   ·intro U;omega
   ·intro U;exact absurd h U.1
  ·rw[if_neg h,qp m es (k+1)]
   simp only[List.mem_cons,forall_eq_or_imp];exact⟨fun U=>⟨h,U⟩,fun U=>U.2⟩
theorem qY (es:List aK)(m:Int):cA es m<0↔∀e∈es,e.m≠m:=qp m es 0
theorem cu {n:Nat}{c:Nat→Bool}:bX n c=true↔∀i,i<n→c i=true:=by simp[bX]
theorem zE {es:List aK}{k:Nat}{m:Int}:qm es k m=false↔∀i,i<k→∀e,es[i]?=some e→e.m≠m:=by
 unfold qm;rw[List.any_eq_false];constructor
 ·intro h i hi e he
  have:=h e (List.mem_of_getElem? (by rw[List.getElem?_take,if_pos hi];exact he))
  simpa using this
 ·intro h e he
  obtain⟨i,hi⟩:=List.getElem?_of_mem he;rw[List.getElem?_take]at hi;split at hi
  ·simpa using h i (by assumption) e hi
  ·cases hi
theorem qZ {id clock:Int}{es:List aK}{i:Nat}:kY id clock es i=true↔o9 id clock es i=true∧gF es i=true:=by
 unfold kY o9 gF
 cases h:es[i]? with
 |none=>simp
 |some e=>
  have hd:decide (cA (es.take i) e.m<0)= !qm es i e.m:=by
   rw[Bool.eq_iff_iff,decide_eq_true_eq,qY,Bool.not_eq_true',qm,List.any_eq_false];simp
  simp only[hd]
  cases bC e.m<;>cases bb e.t e.g<;>cases decide (e.t≤clock)<;>cases e.f<;>cases decide (e.g=id)<;>cases qm es i e.m<;>simp<;>exact Iff.rfl
theorem Jj {id clock:Int}{es:List aK}:iY id clock es=true↔jW id clock es=true∧bX es.length (gF es)=true:=by
 unfold iY jW;rw[cu,cu,cu];exact⟨fun h=>⟨fun i hi=>(qZ.1 (h i hi)).1,fun i hi=>(qZ.1 (h i hi)).2⟩,fun h i hi=>qZ.2 ⟨h.1 i hi,h.2 i hi⟩⟩
theorem tJ {es:List aK}:bX es.length (gF es)=true↔∀(i j:Nat) (e d:aK),j<i→es[i]?=some e→es[j]?=some d→d.m≠e.m:=by
 rw[cu];constructor
 ·intro h i j e d FQ he hd
  have:=h i (List.getElem?_eq_some_iff.1 he).1
  unfold gF at this;rw[he]at this;exact zE.1 (by simpa using this) j FQ d hd
 ·intro h i hi
  unfold gF;rw[List.getElem?_eq_getElem hi];simp only[Bool.not_eq_true'];exact zE.2 fun j hj d hd=>h i j _ d hj (List.getElem?_eq_getElem hi) hd
theorem Ce {a b:List aK}:bX (a++b).length (gF (a++b))=true↔bX a.length (gF a)=true∧bX b.length (gF b)=true∧∀e∈a,∀d∈b,d.m≠e.m:=by
 rw[tJ,tJ,tJ];constructor
 ·intro h
  refine⟨fun i j e d FQ he hd=>?_,fun i j e d FQ he hd=>?_,fun e he d hd=>?_⟩
  ·exact h i j e d FQ (by rw[List.getElem?_append_left (List.getElem?_eq_some_iff.1 he).1];exact he) (by rw[List.getElem?_append_left (List.getElem?_eq_some_iff.1 hd).1];exact hd)
  ·exact h (a.length+i) (a.length+j) e d (by omega) (by rw[List.getElem?_append_right (by omega)];simpa using he) (by rw[List.getElem?_append_right (by omega)];simpa using hd)
  ·obtain⟨i,hi⟩:=List.getElem?_of_mem he
   obtain⟨j,hj⟩:=List.getElem?_of_mem hd;have Mq:=(List.getElem?_eq_some_iff.1 hi).1;exact fun e'=>h (a.length+j) i d e (by omega) (by rw[List.getElem?_append_right (by omega)];simpa using hj) (by rw[List.getElem?_append_left Mq];exact hi) e'.symm
 ·rintro⟨U,h2,h3⟩ i j e d FQ he hd
  rw[List.getElem?_append]at he hd;split at he
  ·rw[if_pos (by omega)]at hd
   exact U i j e d FQ he hd
  ·split at hd
   ·exact fun e'=>h3 d (List.mem_of_getElem? hd) e (List.mem_of_getElem? he) e'.symm
   ·exact h2 _ _ e d (by omega) he hd
theorem MN {g:az}:bX g.done.length (kZ g)=true↔bX g.done.length (sJ g.done)=true∧∀e∈g.done,∀d∈g.aN,d.m≠e.m:=by
 rw[cu,cu];constructor
 ·intro h
  refine⟨fun i hi=>?_,fun e he d hd=>?_⟩
  ·have:=h i hi
   unfold kZ at this;unfold sJ;rw[List.getElem?_eq_getElem hi]at this⊢;simp only[Bool.and_eq_true]at this;exact this.1
  ·obtain⟨i,hi,rfl⟩:=List.getElem_of_mem he
   have:=h i hi
   unfold kZ at this;rw[List.getElem?_eq_getElem hi]at this;simp only[Bool.and_eq_true,decide_eq_true_eq]at this;exact(qY _ _).1 this.2 d hd
 ·rintro⟨U,h2⟩ i hi
  have:=U i hi
  unfold sJ at this;unfold kZ;rw[List.getElem?_eq_getElem hi]at this⊢;simp only[Bool.and_eq_true,decide_eq_true_eq];exact⟨this,(qY _ _).2 fun d hd=>h2 _ (List.getElem_mem hi) d hd⟩
theorem xL (g:az):kn g=bI g:=by
 rw[Bool.eq_iff_iff];unfold kn bI;simp only[Bool.and_eq_true,Jj,Ce,MN,fC];constructor
 ·rintro⟨⟨⟨⟨⟨⟨a,b⟩,c⟩,d⟩,e,f,h⟩,i⟩,j⟩
  exact⟨⟨⟨⟨⟨a,b⟩,c,f⟩,d,e⟩,i,h⟩,j⟩
 ·rintro⟨⟨⟨⟨⟨a,b⟩,c,f⟩,d,e⟩,i,h⟩,j⟩
  exact⟨⟨⟨⟨⟨⟨a,b⟩,c⟩,d⟩,e,f,h⟩,i⟩,j⟩
def cC (g:az)(m:Int):aK:=if bI g=true then bG g m else aK.zero
def o_ (g:az)(m:Int):Bool:=bI g&&gT g m
theorem qq (g:az)(m:Int)(h:fE g 4294967290):TC Tw.prog E 16 [.a ((ai g).map .r),gI .i64 m] 0 [] (.p [lL (cC g m),gB (o_ g m)]) []:=by
 have hV:=qn (E:=E) g h;rw[xL]at hV;unfold cC o_;refine tE Tw.func16 Tw.ntmps16 (by rw[Tryz.results16]) ?_
 cases hv:bI g
 ·rw[if_neg (by simp)]
  rw[hv]at hV;(refine TW.go ?_;simp[ai];repeat' first|intro hc|refine aa.mk ?_|refine aI ?_|refine ah ?_ ?_|(refine cP ?_;refine⟨_,hV,?_⟩;simp[ai]))
  refine ar.nil (r:= .p [lL aK.zero,gB false]) ?_ rfl;simp[au,aK.zero]
 ·rw[if_pos rfl,Bool.true_and]
  rw[hv]at hV;(refine TW.go ?_;simp[ai];repeat' first|intro hc|refine aa.mk ?_|refine aI ?_|refine ah ?_ ?_|(refine cP ?_;refine⟨_,hV,?_⟩;simp[ai]))
  refine tL (fun(k:Nat)=>⟨[(1,gI .i64 m),(4,.s (.ptr 1 0)),(17,.a [.r (dw g.aN),.r (dw g.done)]),(18,gI .i64 (k:Nat))],[(1,.box [.r (rI 0),.r (rI 0),.r (rI 0),.r (rB false)])],2⟩)
   (fun k=>k≤2∧(1≤k→g.aN.find? (fun e=>decide (e.m=m))=none)∧(2≤k→g.done.find? (fun e=>decide (e.m=m))=none)) (fun k=>2-k) 0 ⟨by omega,fun h=>by omega,fun h=>by omega⟩
   (Wk.same (by simp[ai]) (by simp) (by simp)) fun k hk=>?_
  obtain⟨hk,k1,k2⟩:=hk;rcases k with _|_|_|k
  ·rcases dZ g.aN m with⟨hp,aV⟩|⟨j,e,hp,he,aV,_⟩
   ·(refine TW.go ?_;simp[hp];repeat' first|intro hc|refine aa.mk ?_|refine aI ?_|refine ah ?_ ?_|(refine cP ?_;refine⟨_,nG _ _,?_⟩;simp[hp]))
    exact⟨1,⟨by omega,fun _=>by simpa using aV,fun h=>by omega⟩,by omega,kS⟩
   ·rw[show bG g m=e by simp[bG,fa,aV],show gT g m=true by simp[gT,fa,aV]]
    (refine TW.go ?_;simp[hp,he,au];repeat' first|intro hc|refine aa.mk ?_|refine aI ?_|refine ah ?_ ?_|(refine cP ?_;refine⟨_,nG _ _,?_⟩;simp[hp,he,au]))
    refine ar.nil (r:= .p [lL e,gB true]) ?_ rfl;simp[au]
  ·have k1:=k1 (by omega)
   rcases dZ g.done m with⟨hp,aV⟩|⟨j,e,hp,he,aV,_⟩
   ·(refine TW.go ?_;simp[hp];repeat' first|intro hc|refine aa.mk ?_|refine aI ?_|refine ah ?_ ?_|(refine cP ?_;refine⟨_,nG _ _,?_⟩;simp[hp]))
    exact⟨2,⟨by omega,fun _=>by simpa using k1,fun _=>by simpa using aV⟩,by omega,Wk.same (by simp[show IntKind.i64.wrap 2=2 by decide]) (by simp) (by simp)⟩
   ·rw[show bG g m=e by simp[bG,fa,k1,aV],show gT g m=true by simp[gT,fa,k1,aV]]
    (refine TW.go ?_;simp[hp,he,au];repeat' first|intro hc|refine aa.mk ?_|refine aI ?_|refine ah ?_ ?_|(refine cP ?_;refine⟨_,nG _ _,?_⟩;simp[hp,he,au]))
    refine ar.nil (r:= .p [lL e,gB true]) ?_ rfl;simp[au]
  ·have k1:=k1 (by omega)
   have k2:=k2 (by omega)
   rw[show bG g m=aK.zero by simp[bG,fa,k1,k2],show gT g m=false by simp[gT,fa,k1,k2]]
   (refine TW.go ?_;simp;repeat' first|intro hc|refine aa.mk ?_|refine aI ?_|refine ah ?_ ?_)
   refine ar.nil (r:= .p [lL aK.zero,gB false]) ?_ rfl;simp[au,aK.zero]
  ·omega
def fK (g:az)(m:Int):List RT:=[rI (cC g m).m,rI (cC g m).t,rI (cC g m).g,rB (cC g m).f,rB (o_ g m)]
theorem GJ (gs:List az)(x m:Int)(h:gw gs 4294967290)(h0:0≤x)(U:x<gs.length):
  TC Tw.prog E 121 [gI .i64 x,.s (.gS [dD gs] 0),.s (.gS [rI m] 0)] 0 [] (.a ((fK (aG gs x.toNat) m).map .r)) []:=by
 have hG:=fU (gs:=gs) (i:=x.toNat) (by omega)
 have hle:=h.2 _ (List.mem_of_getElem? hG);generalize aG gs x.toNat=G at*;refine tE Tw.func121 Tw.ntmps121 (by rw[Tryz.results121]) ?_
 (refine TW.go ?_;simp[h0,hG,ai,au];repeat' first|intro hc|refine aa.mk ?_|refine aI ?_|refine ah ?_ ?_|(refine cP ?_;refine⟨_,qq G m hle,?_⟩;simp[h0,hG,ai,au]))
 refine ar.own [] [] (by simp;rfl) (by simp[fK,au]) (by simp) (by simp) (by simp[fK,au]) (by simp)
end Go.Proofs.YtjklkppncmhehaaGreat.T
namespace Go.Proofs.YtjklkppncmhehaaGreat
open Go Go.RowKit
def UR (id clock:Int)(e:aK):Bool:=bC e.m&&(bb e.t e.g&&(decide (e.t≤clock)&&(e.f||decide (e.g=id))))
def US (a b:aK):Bool:=aU a.t a.g b.t b.g
def GK (id clock:Int):Option aK→List aK→Bool
 |_,[]=>true
 |p,e::es=>UR id clock e&&((match p with|none=>true|some q=>US q e)&&GK id clock (some e) es)
def jW (id clock:Int)(es:List aK):Bool:=GK id clock none es
theorem tK {w w':World}{g:Nat}{t:TypeId}{cs:Array Value}(h:ak w g t cs)(hb:Below w.heap.size w w'):ak w' g t cs:=h.below hb h.lt
end Go.Proofs.YtjklkppncmhehaaGreat
namespace Go.Proofs.YtjklkppncmhehaaGreat
open Go Go.RowKit
end Go.Proofs.YtjklkppncmhehaaGreat
