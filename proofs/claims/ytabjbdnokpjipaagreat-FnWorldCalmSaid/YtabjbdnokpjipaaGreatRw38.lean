/-
What is proved: what the reference's recovery does to trees and what rests on it. Conditions: as stated.
-/
import Derived.Test.YtabjbdnokpjipaaGreatRw37
set_option linter.unusedVariables false
set_option linter.unusedSimpArgs false
namespace Go.Proofs.YtabjbdnokpjipaaGreat.T
open Go Go.RowKit
set_option maxRecDepth 100000
set_option maxHeartbeats 4000000
variable {E:List PanicEntry→World→Prop}
def cm (set:List Int):Prop:=∀g∈set,0≤g∧g<5
theorem NH (gs:List aF)(m:Int){set:List Int}{k:Nat}{g:Int}(h:set[k]?=some g)(acc:List (Int×Int)):iX gs m (set.drop k) acc=if cc (gAt gs g.toNat) m&&(aV (gAt gs g.toNat) m).f then .inl ((aV (gAt gs g.toNat) m).t,(aV (gAt gs g.toNat) m).g)
  else iX gs m (set.drop (k+1)) (if cc (gAt gs g.toNat) m then acc++[((aV (gAt gs g.toNat) m).t,(aV (gAt gs g.toNat) m).g)]else acc):=by
 obtain⟨hk,he⟩:=List.getElem?_eq_some_iff.1 h;rw[List.drop_eq_getElem_cons hk,iX,he]
theorem AD (gs:List aF)(set:List Int)(m:Int)(h5:gs.length=5)(hr:cm set)(hn:set≠[])(kl:set.length≤5):TC Tw.prog E 99 [gR (dq gs),gR (aY set),gI .i64 m] 0 [] (.p [mU (aS gs set m).1,gB (aS gs set m).2]) []:=by
 have dK:0<set.length:=List.length_pos_iff.2 hn
 have hlen:set.length≤maxLen:=by simp only[maxLen];omega
 refine tE Tryz.f99 Tryz.ntmps99 (by rw[Tryz.results99]) ?_
 (refine TW.go ?_;simp;repeat' first|intro hc|refine aa.mk ?_|refine aI ?_|refine af ?_ ?_)
 refine tL (fun(p:Nat×List (Int×Int))=>⟨[(0,gR (dq gs)),(1,gR (aY set)),(2,gI .i64 m),(6,.s (.ptr 0 0)),(8,.s (.own 1)),(9,gI .i64 (p.1:Nat))],[(0,.box [.r (rI 0),.r (rI 0)]),(1,.rows 36 2 (p.2.map eE))],2⟩)
  (fun p=>p.1≤set.length∧p.2.length≤p.1∧iX gs m (set.drop p.1) p.2=iX gs m set []) (fun p=>set.length-p.1) (0,[]) ⟨by simp,by simp,rfl⟩ (kO [0,1] []) fun p hp=>?_
 obtain⟨k,acc⟩:=p;obtain⟨hk,ha,aZ⟩:=hp;simp only at hk ha aZ⊢
 by_cases ak:k<set.length
 ·have he:set[k]?=some set[k]:=List.getElem?_eq_getElem ak
  obtain⟨g0,g1⟩:=hr _ (List.getElem_mem ak);generalize hx:set[k]=x at he g0 g1;have an:(k:Int)<(set.length:Int):=by omega
  have Br:x.toNat<gs.length:=by omega
  have hg:gs[x.toNat]?=some (gAt gs x.toNat):=by rw[gAt,List.getD_eq_getElem?_getD,List.getElem?_eq_getElem Br];rfl
  have aE:=wrap_add ak hlen;have hd:=NH gs m he acc;rw[aZ]at hd;generalize gAt gs x.toNat=G at hg hd;clear Br
  cases hb:cc G m
  ·simp only[hb,Bool.false_and,Bool.false_eq_true,if_false]at hd
   (refine TW.go ?_;simp[an,he,g0,hg,hb,au,aG,aE,maxLen];repeat' first|intro hc|refine aa.mk ?_|refine aI ?_|refine af ?_ ?_|(refine cP ?_;refine⟨_,lp _ _,?_⟩;simp[an,he,g0,hg,hb,au,aG,aE,maxLen]))
   exact⟨(k+1,acc),⟨by simp only;omega,by simp only;omega,hd.symm⟩,by simp only;omega,kO [0,1] []⟩
  ·cases hf:(aV G m).f
   ·simp only[hb,hf,Bool.and_false,Bool.false_eq_true,if_false,if_true]at hd
    (refine TW.go ?_;simp[an,he,g0,hg,hb,hf,au,aG,aE,maxLen];repeat' first|intro hc|refine aa.mk ?_|refine aI ?_|refine af ?_ ?_|(refine cP ?_;refine⟨_,lp _ _,?_⟩;simp[an,he,g0,hg,hb,hf,au,aG,aE,maxLen]))
    exact⟨(k+1,acc++[((aV G m).t,(aV G m).g)]),⟨by simp only;omega,by simp;omega,hd.symm⟩,by simp only;omega,Wk.own [0,4] [] (by simp) (by simp) (by simp[eE]) (by simp) (by simp)⟩
   ·simp only[hb,hf,Bool.and_true,if_true]at hd
    (refine TW.go ?_;simp[an,he,g0,hg,hb,hf,au,aG,aE,maxLen];repeat' first|intro hc|refine aa.mk ?_|refine aI ?_|refine af ?_ ?_|(refine cP ?_;refine⟨_,lp _ _,?_⟩;simp[an,he,g0,hg,hb,hf,au,aG,aE,maxLen]))
    rw[show aS gs set m=(((aV G m).t,(aV G m).g),true) by rw[aS,hd]]
    refine aT.nil (r:= .p [mU ((aV G m).t,(aV G m).g),gB true]) ?_ rfl;simp
 ·obtain rfl:k=set.length:=by omega
  rw[List.drop_length,iX]at aZ;have hS:aS gs set m=if acc.length<set.length then((0,0),false)else(lu acc,true):=by rw[aS,←aZ]
  rw[hS];by_cases hl:acc.length<set.length
  ·have bz:(acc.length:Int)<(set.length:Int):=by omega
   rw[if_pos hl];(refine TW.go ?_;simp[bz];repeat' first|intro hc|refine aa.mk ?_|refine aI ?_|refine af ?_ ?_)
   refine aT.nil (r:= .p [mU (0,0),gB false]) ?_ rfl;simp
  ·rw[if_neg hl]
   rcases acc with _|⟨x,xs⟩
   ·exact absurd dK hl
   ·have bz:¬(xs.length:Int)+1<(set.length:Int):=by simp at hl;omega
    (refine TW.go ?_;simp[bz];repeat' first|intro hc|refine aa.mk ?_|refine aI ?_|refine af ?_ ?_|(refine cK [1] ?_;refine⟨_,NA x xs,?_⟩;simp[bz]))
    refine aT.nil (r:= .p [mU (lu (x::xs)),gB true]) ?_ rfl;simp[lu]
theorem dr {α β:Type}(f:β→α→β)(b:β){xs:List α}{k:Nat}{x:α}(h:xs[k]?=some x):(xs.take (k+1)).foldl f b=f ((xs.take k).foldl f b) x:=by
 rw[List.take_add_one,h,List.foldl_append];rfl
theorem cu {gs:List aF}{i:Nat}(h:i<gs.length):gs[i]?=some (gAt gs i):=by
 rw[gAt,List.getD_eq_getElem?_getD,List.getElem?_eq_getElem h];rfl
theorem cm.take {set:List Int}(h:cm set)(k:Nat):cm (set.take k):=fun g hg=>h g (List.mem_of_mem_take hg)
theorem uq {gs:List aF}{m:Int}{set:List Int}{k:Nat}(h:dF gs m (set.take k)=false):dF gs m set=false:=by
 simp only[dF,List.all_eq_false]at h⊢;obtain⟨x,hx,h⟩:=h;exact⟨x,List.mem_of_mem_take hx,h⟩
theorem vU {gs:List aF}{m:Int}{set:List Int}{k:Nat}{x:Int}(h:set[k]?=some x):dF gs m (set.take (k+1))=(dF gs m (set.take k)&&(cc (gAt gs x.toNat) m&&(aV (gAt gs x.toNat) m).f)):=by
 rw[dF,List.take_add_one,h,List.all_append];simp[dF]
abbrev fp (gs:List aF):az:= .rows 43 4 (gs.map au)
theorem Vu (gs:List aF)(set:List Int)(m:Int)(h5:gs.length=5)(hg:∀g∈gs,iN g 4294967000)(hr:cm set)(hn:set≠[])(kl:set.length≤5):TC Tw.prog E 74 [gR (dq gs),gR (aY set),gI .i64 m] 0 [] (.p [.s (.own 0),gB (eH gs set m).2]) [(0,fp (eH gs set m).1)]:=by
 have dK:0<set.length:=List.length_pos_iff.2 hn
 have hlen:set.length≤maxLen:=by simp only[maxLen];omega
 have Vv:iC gs 4294967296:=⟨by omega,fun g h=>by have:=(hg g h).1;exact⟨by omega,by omega⟩⟩
 refine tE Tryz.f74 Tryz.ntmps74 (by rw[Tryz.results74]) ?_
 (refine TW.go ?_;simp;repeat' first|intro hc|refine aa.mk ?_|refine aI ?_|refine af ?_ ?_|(refine cF [] 1 ?_;refine⟨_,_,Dj gs Vv,?_⟩;simp))
 refine tL (fun(k:Nat)=>⟨[(1,gR (aY set)),(2,gI .i64 m),(8,.s (.own 0)),(9,gI .i64 (k:Nat))],[(0,fp (aN gs m (set.take k)))],1⟩) (fun k=>k≤set.length) (fun k=>set.length-k) 0 (by omega) (Wk.own [0] [] (by simp) (by simp) (by simp[aN]) (by simp) (by simp)) fun k hk=>?_
 by_cases ak:k<set.length
 ·have he:set[k]?=some set[k]:=List.getElem?_eq_getElem ak
  obtain⟨g0,g1⟩:=hr _ (List.getElem_mem ak);generalize hx:set[k]=x at he g0 g1;have an:(k:Int)<(set.length:Int):=by omega
  have aE:=wrap_add ak hlen;obtain⟨n5,nN⟩:=ma (n:=4294967005) m (set.take k) gs 4294967000 (hr.take k) h5 hg (by simp;omega)
  have dX:aN gs m (set.take (k+1))=(aN gs m (set.take k)).set x.toNat (aD (gAt (aN gs m (set.take k)) x.toNat) m).1:=dr _ _ he
  have Br:x.toNat<(aN gs m (set.take k)).length:=by omega
  have hG:=cu Br;have hN:=nN _ (List.mem_of_getElem? hG);have hle:jv (gAt (aN gs m (set.take k)) x.toNat) 4294967290:=by have:=hN.1;exact⟨by omega,by omega⟩
  have hx5:x<5:=g1
  generalize aN gs m (set.take k)=gk at*;generalize Y_:gAt gk x.toNat=G at*;(refine TW.go ?_;simp[an,he,g0,hG,au,aE,maxLen];repeat' first|intro hc|refine aa.mk ?_|refine aI ?_|refine af ?_ ?_|(refine cF [] 2 ?_;refine⟨_,_,pZ _ m hle hN.2,?_⟩;simp[an,he,g0,hG,au,aE,maxLen]))
  exact⟨k+1,by omega,by omega,Wk.own [0] [] (by simp) (by simp) (by simp[dX,au]) (by simp) (by simp)⟩
 ·obtain rfl:k=set.length:=by omega
  obtain⟨n5,nN⟩:=ma (n:=4294967005) m set gs 4294967000 hr h5 hg (by omega)
  have hA:eH gs set m=if(aS (aN gs m set) set m).2=true then(bK (aN gs m set) m (aS (aN gs m set) set m).1 set,dF (bK (aN gs m set) m (aS (aN gs m set) set m).1 set) m set)
   else(aN gs m set,false):=rfl
  rw[hA];simp only[List.take_length];generalize aN gs m set=g1 at*;clear hA
  cases dP:(aS g1 set m).2
  ·rw[if_neg (by simp)]
   (refine TW.go ?_;simp[dP];repeat' first|intro hc|refine aa.mk ?_|refine aI ?_|refine af ?_ ?_|(refine cK [0] ?_;refine⟨_,AD g1 set m n5 hr hn kl,?_⟩;simp[dP]))
   refine tL (fun(_:Unit)=>⟨[(1,gR (aY set)),(2,gI .i64 m),(8,.s (.own 0)),(14,gB false),(15,gI .i64 0)],[(0,fp g1)],1⟩) (fun _=>True) (fun _=>0) () trivial (kO [0] []) fun _ _=>?_;(refine TW.go ?_;simp;repeat' first|intro hc|refine aa.mk ?_|refine aI ?_|refine af ?_ ?_)
   all_goals
    refine tL (fun(_:Unit)=>⟨[(1,gR (aY set)),(2,gI .i64 m),(8,.s (.own 0)),(14,gB false),(19,gI .i64 0)],[(0,fp g1)],1⟩) (fun _=>True) (fun _=>0) () trivial (kO [0] []) fun _ _=>?_;(refine TW.go ?_;simp;repeat' first|intro hc|refine aa.mk ?_|refine aI ?_|refine af ?_ ?_)
    all_goals exact oW [0] []
  ·rw[if_pos rfl]
   generalize hs:(aS g1 set m).1=s;(refine TW.go ?_;simp[dP,hs];repeat' first|intro hc|refine aa.mk ?_|refine aI ?_|refine af ?_ ?_|(refine cK [0] ?_;refine⟨_,AD g1 set m n5 hr hn kl,?_⟩;simp[dP,hs]))
   refine tL (fun(k:Nat)=>⟨[(1,gR (aY set)),(2,gI .i64 m),(8,.s (.own 0)),(13,.s (.ptr 1 0)),(14,gB true),(15,gI .i64 (k:Nat))],[(0,fp (bK g1 m s (set.take k))),(1,.box [.r (rI s.1),.r (rI s.2)])],2⟩) (fun k=>k≤set.length) (fun k=>set.length-k) 0 (by omega) (Wk.own [0,1] [] (by simp) (by simp) (by simp[bK]) (by simp) (by simp)) fun k hk=>?_
   by_cases ak:k<set.length
   ·have he:set[k]?=some set[k]:=List.getElem?_eq_getElem ak
    obtain⟨g0,Eo⟩:=hr _ (List.getElem_mem ak);generalize hx:set[k]=x at he g0 Eo;have an:(k:Int)<(set.length:Int):=by omega
    have aE:=wrap_add ak hlen;obtain⟨f5,fN⟩:=nX (n:=4294967005) m s (set.take k) g1 (hr.take k) n5 nN;have dX:bK g1 m s (set.take (k+1))=(bK g1 m s (set.take k)).set x.toNat (bn (gAt (bK g1 m s (set.take k)) x.toNat) m s.1 s.2).1:=dr _ _ he
    have Br:x.toNat<(bK g1 m s (set.take k)).length:=by omega
    have hG:=cu Br;have hN:=fN _ (List.mem_of_getElem? hG);have hle:=hN.mono (n':=4294967290) (by omega)
    generalize bK g1 m s (set.take k)=gk at*;generalize Y_:gAt gk x.toNat=G at*;(refine TW.go ?_;simp[an,he,g0,hG,au,aE,maxLen];repeat' first|intro hc|refine aa.mk ?_|refine aI ?_|refine af ?_ ?_|(refine cF [] 3 ?_;refine⟨_,_,AA _ m _ _ hle,?_⟩;simp[an,he,g0,hG,au,aE,maxLen]))
    exact⟨k+1,by omega,by omega,Wk.own [0,1] [] (by simp) (by simp) (by simp[dX,au]) (by simp) (by simp)⟩
   ·obtain rfl:k=set.length:=by omega
    simp only[List.take_length];obtain⟨f5, -⟩:=nX (n:=4294967005) m s set g1 hr n5 nN;generalize bK g1 m s set=g2 at*;(refine TW.go ?_;simp;repeat' first|intro hc|refine aa.mk ?_|refine aI ?_|refine af ?_ ?_)
    refine tL (fun(k:Nat)=>⟨[(1,gR (aY set)),(2,gI .i64 m),(8,.s (.own 0)),(14,gB (dF g2 m (set.take k))),(19,gI .i64 (k:Nat))],[(0,fp g2)],1⟩) (fun k=>k≤set.length) (fun k=>set.length-k) 0 (by omega) (Wk.own [0] [] (by simp) (by simp[dF]) (by simp) (by simp) (by simp)) fun k hk=>?_
    cases gN:dF g2 m (set.take k)
    ·rw[uq gN]
     (refine TW.go ?_;simp;repeat' first|intro hc|refine aa.mk ?_|refine aI ?_|refine af ?_ ?_)
     all_goals exact oW [0] []
    ·by_cases ak:k<set.length
     ·have he:set[k]?=some set[k]:=List.getElem?_eq_getElem ak
      obtain⟨g0,Eo⟩:=hr _ (List.getElem_mem ak);generalize hx:set[k]=x at he g0 Eo;have an:(k:Int)<(set.length:Int):=by omega
      have aE:=wrap_add ak hlen;have dX:=vU (gs:=g2) (m:=m) he;rw[gN,Bool.true_and]at dX;have Br:x.toNat<g2.length:=by omega
      have hG:=cu Br;generalize Y_:gAt g2 x.toNat=G at*
      cases hb:cc G m
      ·rw[hb,Bool.false_and]at dX
       (refine TW.go ?_;simp[an,he,g0,hG,hb,au,aG,aE];repeat' first|intro hc|refine aa.mk ?_|refine aI ?_|refine af ?_ ?_|(refine cP ?_;refine⟨_,lp _ _,?_⟩;simp[an,he,g0,hG,hb,au,aG,aE]))
       exact⟨k+1,by omega,by omega,Wk.own [0] [] (by simp) (by simp[dX]) (by simp) (by simp) (by simp)⟩
      ·rw[hb,Bool.true_and]at dX
       (refine TW.go ?_;simp[an,he,g0,hG,hb,au,aG,aE];repeat' first|intro hc|refine aa.mk ?_|refine aI ?_|refine af ?_ ?_|(refine cP ?_;refine⟨_,lp _ _,?_⟩;simp[an,he,g0,hG,hb,au,aG,aE]))
       exact⟨k+1,by omega,by omega,Wk.own [0] [] (by simp) (by simp[dX]) (by simp) (by simp) (by simp)⟩
     ·obtain rfl:k=set.length:=by omega
      rw[List.take_length]at gN;rw[gN];(refine TW.go ?_;simp;repeat' first|intro hc|refine aa.mk ?_|refine aI ?_|refine af ?_ ?_)
      exact oW [0] []
end Go.Proofs.YtabjbdnokpjipaaGreat.T
namespace Go.Proofs.YtabjbdnokpjipaaGreat.T
open Go Go.RowKit
set_option maxRecDepth 100000
set_option maxHeartbeats 4000000
variable {E:List PanicEntry→World→Prop}
theorem vV (m:Int):∀(es:List aB) (k:Nat),dm m es k<0↔∀e∈es,e.m≠m
 |[],k=>by simp[dm]
 |e::es,k=>by
  unfold dm;by_cases h:e.m=m
  ·rw[if_pos h]
   simp only[List.mem_cons,forall_eq_or_imp];constructor
   ·intro h1;omega
   ·intro h1;exact absurd h h1.1
  ·rw[if_neg h,vV m es (k+1)]
   simp only[List.mem_cons,forall_eq_or_imp];exact⟨fun h1=>⟨h,h1⟩,fun h1=>h1.2⟩
theorem oV (es:List aB)(m:Int):dN es m<0↔∀e∈es,e.m≠m:=vV m es 0
theorem bZ {n:Nat}{c:Nat→Bool}:db n c=true↔∀i,i<n→c i=true:=by simp[db]
theorem Gc {es:List aB}{k:Nat}{m:Int}:sX es k m=false↔∀i,i<k→∀e,es[i]?=some e→e.m≠m:=by
 unfold sX;rw[List.any_eq_false];constructor
 ·intro h i hi e he
  have:=h e (List.mem_of_getElem? (by rw[List.getElem?_take,if_pos hi];exact he))
  simpa using this
 ·intro h e he
  obtain⟨i,hi⟩:=List.getElem?_of_mem he;rw[List.getElem?_take]at hi;split at hi
  ·simpa using h i (by assumption) e hi
  ·cases hi
theorem xd {id clock:Int}{es:List aB}{i:Nat}:Dk id clock es i=true↔qB id clock es i=true∧kB es i=true:=by
 unfold Dk qB kB
 cases h:es[i]? with
 |none=>simp
 |some e=>
  have hd:decide (dN (es.take i) e.m<0)= !sX es i e.m:=by
   rw[Bool.eq_iff_iff,decide_eq_true_eq,oV,Bool.not_eq_true',sX,List.any_eq_false];simp
  simp only[hd]
  cases bj e.m<;>cases bc e.t e.g<;>cases decide (e.t≤clock)<;>cases e.f<;>cases decide (e.g=id)<;>cases sX es i e.m<;>simp<;>exact Iff.rfl
theorem xe {id clock:Int}{es:List aB}:oP id clock es=true↔lM id clock es=true∧db es.length (kB es)=true:=by
 unfold oP lM;rw[bZ,bZ,bZ];exact⟨fun h=>⟨fun i hi=>(xd.1 (h i hi)).1,fun i hi=>(xd.1 (h i hi)).2⟩,fun h i hi=>xd.2 ⟨h.1 i hi,h.2 i hi⟩⟩
theorem qE {es:List aB}:db es.length (kB es)=true↔∀(i j:Nat) (e d:aB),j<i→es[i]?=some e→es[j]?=some d→d.m≠e.m:=by
 rw[bZ];constructor
 ·intro h i j e d ET he hd
  have:=h i (List.getElem?_eq_some_iff.1 he).1
  unfold kB at this;rw[he]at this;exact Gc.1 (by simpa using this) j ET d hd
 ·intro h i hi
  unfold kB;rw[List.getElem?_eq_getElem hi];simp only[Bool.not_eq_true'];exact Gc.2 fun j hj d hd=>h i j _ d hj (List.getElem?_eq_getElem hi) hd
theorem IU {a b:List aB}:db (a++b).length (kB (a++b))=true↔db a.length (kB a)=true∧db b.length (kB b)=true∧∀e∈a,∀d∈b,d.m≠e.m:=by
 rw[qE,qE,qE];constructor
 ·intro h
  refine⟨fun i j e d ET he hd=>?_,fun i j e d ET he hd=>?_,fun e he d hd=>?_⟩
  ·exact h i j e d ET (by rw[List.getElem?_append_left (List.getElem?_eq_some_iff.1 he).1];exact he) (by rw[List.getElem?_append_left (List.getElem?_eq_some_iff.1 hd).1];exact hd)
  ·exact h (a.length+i) (a.length+j) e d (by omega) (by rw[List.getElem?_append_right (by omega)];simpa using he) (by rw[List.getElem?_append_right (by omega)];simpa using hd)
  ·obtain⟨i,hi⟩:=List.getElem?_of_mem he
   obtain⟨j,hj⟩:=List.getElem?_of_mem hd;have Bm:=(List.getElem?_eq_some_iff.1 hi).1;exact fun e'=>h (a.length+j) i d e (by omega) (by rw[List.getElem?_append_right (by omega)];simpa using hj) (by rw[List.getElem?_append_left Bm];exact hi) e'.symm
 ·rintro⟨h1,h2,h3⟩ i j e d ET he hd
  rw[List.getElem?_append]at he hd;split at he
  ·rw[if_pos (by omega)]at hd
   exact h1 i j e d ET he hd
  ·split at hd
   ·exact fun e'=>h3 d (List.mem_of_getElem? hd) e (List.mem_of_getElem? he) e'.symm
   ·exact h2 _ _ e d (by omega) he hd
theorem Vw {g:aF}:db g.done.length (rN g)=true↔db g.done.length (yy g.done)=true∧∀e∈g.done,∀d∈g.pend,d.m≠e.m:=by
 rw[bZ,bZ];constructor
 ·intro h
  refine⟨fun i hi=>?_,fun e he d hd=>?_⟩
  ·have:=h i hi
   unfold rN at this;unfold yy;rw[List.getElem?_eq_getElem hi]at this⊢;simp only[Bool.and_eq_true]at this;exact this.1
  ·obtain⟨i,hi,rfl⟩:=List.getElem_of_mem he
   have:=h i hi
   unfold rN at this;rw[List.getElem?_eq_getElem hi]at this;simp only[Bool.and_eq_true,decide_eq_true_eq]at this;exact(oV _ _).1 this.2 d hd
 ·rintro⟨h1,h2⟩ i hi
  have:=h1 i hi
  unfold yy at this;unfold rN;rw[List.getElem?_eq_getElem hi]at this⊢;simp only[Bool.and_eq_true,decide_eq_true_eq];exact⟨this,(oV _ _).2 fun d hd=>h2 _ (List.getElem_mem hi) d hd⟩
theorem mg (g:aF):nS g=bB g:=by
 rw[Bool.eq_iff_iff];unfold nS bB;simp only[Bool.and_eq_true,xe,IU,Vw,ju];constructor
 ·rintro⟨⟨⟨⟨⟨⟨a,b⟩,c⟩,d⟩,e,f,h⟩,i⟩,j⟩
  exact⟨⟨⟨⟨⟨a,b⟩,c,f⟩,d,e⟩,i,h⟩,j⟩
 ·rintro⟨⟨⟨⟨⟨a,b⟩,c,f⟩,d,e⟩,i,h⟩,j⟩
  exact⟨⟨⟨⟨⟨⟨a,b⟩,c⟩,d⟩,e,f,h⟩,i⟩,j⟩
def dJ (g:aF)(m:Int):aB:=if bB g=true then aV g m else aB.zero
def rX (g:aF)(m:Int):Bool:=bB g&&cc g m
theorem p_ (g:aF)(m:Int)(h:jv g 4294967290):TC Tw.prog E 14 [.a ((au g).map .r),gI .i64 m] 0 [] (.p [oO (dJ g m),gB (rX g m)]) []:=by
 have hV:=iU (E:=E) g h;rw[mg]at hV;unfold dJ rX;refine tE Tryz.f14 Tryz.ntmps14 (by rw[Tryz.results14]) ?_
 cases hv:bB g
 ·rw[if_neg (by simp)]
  rw[hv]at hV;(refine TW.go ?_;simp[au];repeat' first|intro hc|refine aa.mk ?_|refine aI ?_|refine af ?_ ?_|(refine cP ?_;refine⟨_,hV,?_⟩;simp[au]))
  refine aT.nil (r:= .p [oO aB.zero,gB false]) ?_ rfl;simp[aG,aB.zero]
 ·rw[if_pos rfl,Bool.true_and]
  rw[hv]at hV;(refine TW.go ?_;simp[au];repeat' first|intro hc|refine aa.mk ?_|refine aI ?_|refine af ?_ ?_|(refine cP ?_;refine⟨_,hV,?_⟩;simp[au]))
  refine tL (fun(k:Nat)=>⟨[(1,gI .i64 m),(4,.s (.ptr 1 0)),(17,.a [.r (dj g.pend),.r (dj g.done)]),(18,gI .i64 (k:Nat))],[(1,.box [.r (rI 0),.r (rI 0),.r (rI 0),.r (rB false)])],2⟩)
   (fun k=>k≤2∧(1≤k→g.pend.find? (fun e=>decide (e.m=m))=none)∧(2≤k→g.done.find? (fun e=>decide (e.m=m))=none)) (fun k=>2-k) 0 ⟨by omega,fun h=>by omega,fun h=>by omega⟩
   (Wk.same (by simp[au]) (by simp) (by simp)) fun k hk=>?_
  obtain⟨hk,k1,k2⟩:=hk;rcases k with _|_|_|k
  ·rcases ee g.pend m with⟨hp,bw⟩|⟨j,e,hp,he,bw,_⟩
   ·(refine TW.go ?_;simp[hp];repeat' first|intro hc|refine aa.mk ?_|refine aI ?_|refine af ?_ ?_|(refine cP ?_;refine⟨_,oS _ _,?_⟩;simp[hp]))
    exact⟨1,⟨by omega,fun _=>by simpa using bw,fun h=>by omega⟩,by omega,kS⟩
   ·rw[show aV g m=e by simp[aV,aU,bw],show cc g m=true by simp[cc,aU,bw]]
    (refine TW.go ?_;simp[hp,he,aG];repeat' first|intro hc|refine aa.mk ?_|refine aI ?_|refine af ?_ ?_|(refine cP ?_;refine⟨_,oS _ _,?_⟩;simp[hp,he,aG]))
    refine aT.nil (r:= .p [oO e,gB true]) ?_ rfl;simp[aG]
  ·have k1:=k1 (by omega)
   rcases ee g.done m with⟨hp,bw⟩|⟨j,e,hp,he,bw,_⟩
   ·(refine TW.go ?_;simp[hp];repeat' first|intro hc|refine aa.mk ?_|refine aI ?_|refine af ?_ ?_|(refine cP ?_;refine⟨_,oS _ _,?_⟩;simp[hp]))
    exact⟨2,⟨by omega,fun _=>by simpa using k1,fun _=>by simpa using bw⟩,by omega,Wk.same (by simp[show IntKind.i64.wrap 2=2 by decide]) (by simp) (by simp)⟩
   ·rw[show aV g m=e by simp[aV,aU,k1,bw],show cc g m=true by simp[cc,aU,k1,bw]]
    (refine TW.go ?_;simp[hp,he,aG];repeat' first|intro hc|refine aa.mk ?_|refine aI ?_|refine af ?_ ?_|(refine cP ?_;refine⟨_,oS _ _,?_⟩;simp[hp,he,aG]))
    refine aT.nil (r:= .p [oO e,gB true]) ?_ rfl;simp[aG]
  ·have k1:=k1 (by omega)
   have k2:=k2 (by omega)
   rw[show aV g m=aB.zero by simp[aV,aU,k1,k2],show cc g m=false by simp[cc,aU,k1,k2]]
   (refine TW.go ?_;simp;repeat' first|intro hc|refine aa.mk ?_|refine aI ?_|refine af ?_ ?_)
   refine aT.nil (r:= .p [oO aB.zero,gB false]) ?_ rfl;simp[aG,aB.zero]
  ·omega
def iO (g:aF)(m:Int):List RT:=[rI (dJ g m).m,rI (dJ g m).t,rI (dJ g m).g,rB (dJ g m).f,rB (rX g m)]
theorem NI (gs:List aF)(x m:Int)(h:iC gs 4294967290)(h0:0≤x)(h1:x<gs.length):
  TC Tw.prog E 139 [gI .i64 x,.s (.kN [dq gs] 0),.s (.kN [rI m] 0)] 0 [] (.a ((iO (gAt gs x.toNat) m).map .r)) []:=by
 have hG:=cu (gs:=gs) (i:=x.toNat) (by omega)
 have hle:=h.2 _ (List.mem_of_getElem? hG);generalize gAt gs x.toNat=G at*;refine tE Tryz.f139 Tryz.ntmps139 (by rw[Tryz.results139]) ?_
 (refine TW.go ?_;simp[h0,hG,au,aG];repeat' first|intro hc|refine aa.mk ?_|refine aI ?_|refine af ?_ ?_|(refine cP ?_;refine⟨_,p_ G m hle,?_⟩;simp[h0,hG,au,aG]))
 refine aT.own [] [] (by simp;rfl) (by simp[iO,aG]) (by simp) (by simp) (by simp[iO,aG]) (by simp)
end Go.Proofs.YtabjbdnokpjipaaGreat.T
namespace Go.Proofs.YtabjbdnokpjipaaGreat.T
open Go Go.RowKit
set_option maxRecDepth 100000
set_option maxHeartbeats 4000000
variable {E:List PanicEntry→World→Prop}
theorem rY (g:aF)(h:jv g 4294967296):TC Tw.prog E 90 [.a ((au g).map .r)] 0 [] (F3 g 0 1) (R4 g):=by
 obtain⟨hp,hd⟩:=h;refine tE Tryz.f90 Tryz.ntmps90 (by rw[Tryz.results90]) ?_
 (refine TW.go ?_;simp[au,maxLen];repeat' first|intro hc|refine aa.mk ?_|refine aI ?_|refine af ?_ ?_|(refine cF [] 1 ?_;refine⟨_,_,iT _ hp,?_⟩;simp[au,maxLen])|(refine cF [] 1 ?_;refine⟨_,_,iT _ hd,?_⟩;simp[au,maxLen]))
 exact oW [2,3] []
theorem uZ {a b c:aB}(h:bg a b=true)(k:bg b c=true):bg a c=true:=by
 simp only[bg,aO,decide_eq_true_eq]at*;omega
theorem aeV {id clock:Int}{es:List aB}(h:oP id clock es=true):es.Pairwise (fun a b=>bg a b=true)∧∀e∈es,e.t≤clock∧bc e.t e.g=true∧(e.f=true∨e.g=id):=by
 rw[oP,bZ]at h;have one:∀(i:Nat) (hi:i<es.length),(es[i].t≤clock∧bc es[i].t es[i].g=true∧(es[i].f=true∨es[i].g=id))∧∀(_:i≠0) (hj:i-1<es.length),bg es[i-1] es[i]=true:=by
  intro i hi;have:=h i hi
  rw[Dk,List.getElem?_eq_getElem hi]at this;simp only[Bool.and_eq_true,Bool.or_eq_true,decide_eq_true_eq]at this;obtain⟨⟨⟨⟨⟨-,h1⟩,h2⟩,h3⟩, -⟩,h4⟩:=this;refine⟨⟨h2,h1,h4⟩,fun h0 hj=>?_⟩
  rcases h3 with h3|h3
  ·exact absurd h3 h0
  ·rw[List.getElem?_eq_getElem hj]at h3
   exact h3
 refine⟨?_,fun e he=>?_⟩
 ·rw[List.pairwise_iff_getElem]
  have:∀(d i:Nat) (hi:i<es.length) (hj:i+d+1<es.length),bg es[i] es[i+d+1]=true:=by
   intro d;induction d with
   |zero=>intro i hi hj;exact(one (i+1) hj).2 (by omega) hi
   |succ d ih=>
    intro i hi hj;exact uZ (ih i hi (by omega)) ((one (i+(d+1)+1) hj).2 (by omega) (by omega))
  intro i j hi hj jf;obtain⟨d,rfl⟩:∃d,j=i+d+1:=⟨j-i-1,by omega⟩
  exact this d i hi hj
 ·obtain⟨i,hi,rfl⟩:=List.getElem_of_mem he
  exact(one i hi).1
theorem aeW {g:aF}(h:bB g=true):bM g.id=true∧(0≤g.clock∧g.clock≤999)∧oP g.id g.clock g.pend=true∧oP g.id g.clock g.done=true∧∀e∈g.done,e.f=true:=by
 unfold bB at h;simp only[Bool.and_eq_true,decide_eq_true_eq]at h;obtain⟨⟨⟨⟨⟨h1,h2⟩,h3⟩,h4⟩,h5⟩, -⟩:=h;refine⟨h1,h2,h3,h4,fun e he=>?_⟩
 obtain⟨i,hi,rfl⟩:=List.getElem_of_mem he;rw[bZ]at h5;have:=h5 i hi
 rw[rN,List.getElem?_eq_getElem hi]at this;simp only[Bool.and_eq_true]at this;exact this.1
theorem Vx {g:aF}(h:bB g=true)(m:Int):uj (g.pend++[⟨m,g.clock+1,g.id,false⟩])=g.pend++[⟨m,g.clock+1,g.id,false⟩]:=by
 obtain⟨-, -,h3, -, -⟩:=aeW h;obtain⟨h1,h2⟩:=aeV h3;refine F_ (.refl _) (List.pairwise_append.2 ⟨h1,List.pairwise_singleton ..,fun a ha b hb=>?_⟩)
 obtain rfl:=List.mem_singleton.1 hb
 have:=(h2 a ha).1
 simp only[bg,aO,decide_eq_true_eq];omega
theorem sY (g:aF)(m:Int)(h:jv g 4294967280)(hv:bB g=true)(hm:bj m=true):TC Tw.prog E 130 [.a ((au g).map .r),gI .i64 m] 0 [] (F4 (aD g m)) (R4 (aD g m).1):=by
 have hV:=iU (E:=E) g ⟨by have:=h.1;omega,by have:=h.2;omega⟩
 rw[mg,hv]at hV;have hM:=fL (E:=E) m;rw[hm]at hM;have hC:=rY (E:=E) g ⟨by have:=h.1;omega,by have:=h.2;omega⟩
 have hS:=p_ (E:=E) g m ⟨by have:=h.1;omega,by have:=h.2;omega⟩
 obtain⟨-,⟨hc0,nG⟩, -, -,hdf⟩:=aeW hv;have hsn:=Vx hv m;have hR:=F7 (E:=E) (g.pend++[⟨m,g.clock+1,g.id,false⟩]) (by have:=h.1;simp;omega)
 rw[hsn]at hR;simp only[dj,dU,List.map_append,List.map_cons,List.map_nil,aG]at hR;simp only[rX,dJ,hv,Bool.true_and,if_true]at hS;have qv:=h.1;have hw:IntKind.i64.wrap (g.clock+1)=g.clock+1:=aQ (by omega) (by omega)
 refine tE Tryz.f130 Tryz.ntmps130 (by rw[Tryz.results130]) ?_
 rcases hp:g.pend.find? (fun e=>decide (e.m=m))with _|e
 ·rcases hd:g.done.find? (fun e=>decide (e.m=m))with _|e
  ·have e1:cc g m=false:=by simp[cc,aU,hp,hd]
   rw[e1]at hS;by_cases hk:999≤g.clock
   ·have hP:aD g m=(g,(0,0),false):=by
     unfold aD;rw[hp,hd];exact if_pos hk
    have cM:(g.clock=999)=True:=eq_true (by omega)
    rw[hP];(refine TW.go ?_;simp[au,aG,cM];repeat' first|intro hc|refine aa.mk ?_|refine aI ?_|refine af ?_ ?_|(refine cP ?_;(first|refine⟨_,hV,?_⟩|refine⟨_,hM,?_⟩|refine⟨_,hS,?_⟩);simp[au,aG,cM])|(refine cF [] 2 ?_;refine⟨_,_,hC,?_⟩;simp[au,aG,cM]))
    exact oW [3,4] []
   ·have hP:aD g m=(⟨g.id,g.clock+1,g.pend++[⟨m,g.clock+1,g.id,false⟩],g.done⟩,(g.clock+1,g.id),true):=by
     unfold aD;rw[hp,hd];exact if_neg hk
    have cM:¬g.clock=999:=by omega
    rw[hP];(refine TW.go ?_;simp[au,cM,hw,aG,maxLen];repeat' first|intro hc|refine aa.mk ?_|refine aI ?_|refine af ?_ ?_|(refine cP ?_;(first|refine⟨_,hV,?_⟩|refine⟨_,hM,?_⟩|refine⟨_,hS,?_⟩);simp[au,cM,hw,aG,maxLen])|(refine cF [] 2 ?_;refine⟨_,_,hC,?_⟩;simp[au,cM,hw,aG,maxLen])|(refine cF [9] 1 ?_;refine⟨_,_,hR,?_⟩;simp[au,cM,hw,aG,maxLen]))
    refine aT.own [10,4] [] (by simp;rfl) (by simp[aG]) (by simp) (by simp) (by simp[aG]) (by simp)
  ·have e1:cc g m=true:=by simp[cc,aU,hp,hd]
   have e2:aV g m=e:=by simp[aV,aU,hp,hd]
   have hf:=hdf e (List.mem_of_find?_eq_some hd);have hP:aD g m=(g,(0,0),false):=by
    unfold aD;rw[hp,hd]
   rw[e1,e2]at hS;rw[hP];(refine TW.go ?_;simp[au,aG,hf];repeat' first|intro hc|refine aa.mk ?_|refine aI ?_|refine af ?_ ?_|(refine cP ?_;(first|refine⟨_,hV,?_⟩|refine⟨_,hM,?_⟩|refine⟨_,hS,?_⟩);simp[au,aG,hf])|(refine cF [] 2 ?_;refine⟨_,_,hC,?_⟩;simp[au,aG,hf]))
   exact oW [3,4] []
 ·have e1:cc g m=true:=by simp[cc,aU,hp]
  have e2:aV g m=e:=by simp[aV,aU,hp]
  rw[e1,e2]at hS
  cases hf:e.f
  ·have hP:aD g m=(g,(e.t,e.g),true):=by
    unfold aD;rw[hp];exact if_neg (by simp[hf])
   rw[hP];(refine TW.go ?_;simp[au,aG,hf];repeat' first|intro hc|refine aa.mk ?_|refine aI ?_|refine af ?_ ?_|(refine cP ?_;(first|refine⟨_,hV,?_⟩|refine⟨_,hM,?_⟩|refine⟨_,hS,?_⟩);simp[au,aG,hf])|(refine cF [] 2 ?_;refine⟨_,_,hC,?_⟩;simp[au,aG,hf]))
   exact oW [3,4] []
  ·have hP:aD g m=(g,(0,0),false):=by
    unfold aD;rw[hp];exact if_pos hf
   rw[hP];(refine TW.go ?_;simp[au,aG,hf];repeat' first|intro hc|refine aa.mk ?_|refine aI ?_|refine af ?_ ?_|(refine cP ?_;(first|refine⟨_,hV,?_⟩|refine⟨_,hM,?_⟩|refine⟨_,hS,?_⟩);simp[au,aG,hf])|(refine cF [] 2 ?_;refine⟨_,_,hC,?_⟩;simp[au,aG,hf]))
   exact oW [3,4] []
end Go.Proofs.YtabjbdnokpjipaaGreat.T
namespace Go.Proofs.YtabjbdnokpjipaaGreat.T
open Go Go.RowKit
theorem zA (m t s:Int):∀{rest:List aB},rest.Pairwise (fun a b=>bg a b=true)→(∀x∈rest,¬(x.t=t∧x.g=s))→(rest.take (eX rest t s)++[(⟨m,t,s,true⟩:aB)]++rest.drop (eX rest t s)).Pairwise fun a b=>bg a b=true
 |[],_,_=>by simp[eX]
 |x::l,hp,hn=>by
  rw[List.pairwise_cons]at hp;by_cases hx:aO x.t x.g t s=true
  ·have nD:eX (x::l) t s=eX l t s+1:=by
    unfold eX;rw[List.takeWhile_cons,if_pos hx,List.length_cons]
   rw[nD,List.take_succ_cons,List.drop_succ_cons];refine List.pairwise_cons.2 ⟨fun y hy=>?_,zA m t s hp.2 fun y hy=>hn y (by simp[hy])⟩
   rcases List.mem_append.1 hy with hy|hy
   ·rcases List.mem_append.1 hy with hy|hy
    ·exact hp.1 y (List.mem_of_mem_take hy)
    ·obtain rfl:=List.mem_singleton.1 hy
     exact hx
   ·exact hp.1 y (List.mem_of_mem_drop hy)
  ·have nD:eX (x::l) t s=0:=by
    unfold eX;rw[List.takeWhile_cons,if_neg hx,List.length_nil]
   have ak:bg ⟨m,t,s,true⟩ x=true:=by
    have:=hn x (by simp)
    simp only[bg,aO,decide_eq_true_eq]at*;omega
   rw[nD];refine List.pairwise_cons.2 ⟨fun y hy=>?_,List.pairwise_cons.2 hp⟩
   rcases List.mem_cons.1 hy with rfl|hy
   ·exact ak
   ·exact uZ ak (hp.1 y hy)
theorem u5 (t s:Int):∀{rest:List aB},rest.Pairwise (fun a b=>bg a b=true)→(jR rest (eX rest t s) t s=true↔∃x∈rest,x.t=t∧x.g=s)
 |[],_=>by simp[eX,jR]
 |x::l,hp=>by
  rw[List.pairwise_cons]at hp;by_cases hx:aO x.t x.g t s=true
  ·have nD:eX (x::l) t s=eX l t s+1:=by
    unfold eX;rw[List.takeWhile_cons,if_pos hx,List.length_cons]
   have lX:jR (x::l) (eX l t s+1) t s=jR l (eX l t s) t s:=rfl
   rw[nD,lX,u5 t s hp.2];constructor
   ·rintro⟨y,hy,h⟩;exact⟨y,by simp[hy],h⟩
   ·rintro⟨y,hy,h⟩
    rcases List.mem_cons.1 hy with rfl|hy
    ·simp only[aO,decide_eq_true_eq]at hx;omega
    ·exact⟨y,hy,h⟩
  ·have nD:eX (x::l) t s=0:=by
    unfold eX;rw[List.takeWhile_cons,if_neg hx,List.length_nil]
   have lX:jR (x::l) 0 t s=(decide (x.t=t)&&decide (x.g=s)):=rfl
   rw[nD,lX];simp only[Bool.and_eq_true,decide_eq_true_eq];constructor
   ·intro h;exact⟨x,by simp,h⟩
   ·rintro⟨y,hy,h⟩
    rcases List.mem_cons.1 hy with rfl|hy
    ·exact h
    ·have:=hp.1 y hy
     simp only[bg,aO,decide_eq_true_eq]at*;omega
theorem Vy {pend:List aB}(hp:pend.Pairwise fun a b=>bg a b=true){j:Nat}(hj:j<pend.length)(m t s:Int)(hn:∀x∈pend.eraseIdx j,¬(x.t=t∧x.g=s)):uj (pend.set j ⟨m,t,s,true⟩)=fo (pend.eraseIdx j) m t s:=by
 refine F_ ?_ (zA m t s (hp.sublist (List.eraseIdx_sublist ..)) hn);have h1:(pend.set j ⟨m,t,s,true⟩).Perm (⟨m,t,s,true⟩::pend.eraseIdx j):=by
  rw[List.set_eq_take_append_cons_drop,if_pos hj,List.eraseIdx_eq_take_drop_succ];exact List.perm_middle
 refine List.Perm.trans ?_ h1.symm;unfold fo;rw[List.append_assoc,List.singleton_append];refine List.perm_middle.trans ?_;rw[List.take_append_drop]
theorem xg {es:List aB}{j:Nat}{x:aB}:x∈es.eraseIdx j↔∃i,i≠j∧es[i]?=some x:=List.mem_eraseIdx_iff_getElem?
end Go.Proofs.YtabjbdnokpjipaaGreat.T
namespace Go.Proofs.YtabjbdnokpjipaaGreat.T
open Go Go.RowKit
structure EOk (id clock:Int) (e:aB):Prop where
 ms:bj e.m=true
 st:bc e.t e.g=true
 ck:e.t≤clock
 ow:e.f=true∨e.g=id
structure QT (id clock:Int) (es:List aB):Prop where
 ord:es.Pairwise (fun a b=>bg a b=true)
 nq:es.Pairwise (fun a b=>a.m≠b.m)
 lJ:∀e∈es,EOk id clock e
theorem Vz {id clock:Int}{es:List aB}:oP id clock es=true↔QT id clock es:=by
 constructor
 ·intro h
  obtain⟨p,q⟩:=aeV h;obtain⟨a,d⟩:=xe.1 h;rw[qE]at d;refine⟨p,List.pairwise_iff_getElem.2 fun i j hi hj jf=>d j i _ _ jf (List.getElem?_eq_getElem hj) (List.getElem?_eq_getElem hi),fun e he=>?_⟩
  obtain⟨q1,q2,q3⟩:=q e he;refine⟨?_,q2,q1,q3⟩;obtain⟨i,hi,rfl⟩:=List.getElem_of_mem he;rw[lM,bZ]at a;have:=a i hi
  rw[qB,List.getElem?_eq_getElem hi]at this;simp only[Bool.and_eq_true]at this;exact this.1.1.1.1
 ·rintro⟨p,d,e⟩
  refine xe.2 ⟨?_,?_⟩
  ·rw[lM,bZ]
   intro i hi;obtain⟨e1,e2,e3,e4⟩:=e _ (List.getElem_mem hi);rw[qB,List.getElem?_eq_getElem hi];simp only[Bool.and_eq_true,Bool.or_eq_true,decide_eq_true_eq];refine⟨⟨⟨⟨e1,e2⟩,e3⟩,e4⟩,?_⟩;rcases i with _|i
   ·exact .inl rfl
   ·right
    rw[Nat.add_sub_cancel,List.getElem?_eq_getElem (show i<es.length by omega)]
    exact List.pairwise_iff_getElem.1 p i (i+1) (by omega) hi (by omega)
  ·rw[qE]
   intro i j a b ET ha hb;obtain⟨hi,rfl⟩:=List.getElem?_eq_some_iff.1 ha;obtain⟨hj,rfl⟩:=List.getElem?_eq_some_iff.1 hb;exact List.pairwise_iff_getElem.1 d j i hj hi ET
structure Y' (g:aF):Prop where
 id:bM g.id=true
 ck:0≤g.clock∧g.clock≤999
 pl:QT g.id g.clock g.pend
 dl:QT g.id g.clock g.done
 df:∀e∈g.done,e.f=true
 dp:∀e∈g.done,∀p∈g.pend,p.m≠e.m
 hd:∀p l,g.pend=p::l→p.f=false∧∀d∈g.done,bg d p=true
theorem Za {g:aF}:db g.done.length (rN g)=true↔∀e∈g.done,e.f=true∧∀p∈g.pend,p.m≠e.m:=by
 rw[bZ];constructor
 ·intro h e he
  obtain⟨i,hi,rfl⟩:=List.getElem_of_mem he;have:=h i hi
  rw[rN,List.getElem?_eq_getElem hi]at this;simp only[Bool.and_eq_true,decide_eq_true_eq]at this;exact⟨this.1,(oV _ _).1 this.2⟩
 ·intro h i hi
  have:=h _ (List.getElem_mem hi)
  rw[rN,List.getElem?_eq_getElem hi];simp only[Bool.and_eq_true,decide_eq_true_eq];exact⟨this.1,(oV _ _).2 this.2⟩
theorem NJ {g:aF}(h:g.done.Pairwise (fun a b=>bg a b=true)):oQ g=true↔∀p l,g.pend=p::l→p.f=false∧∀d∈g.done,bg d p=true:=by
 unfold oQ;rcases hp:g.pend with _|⟨p,l⟩
 ·simp
 ·simp only[Bool.and_eq_true,Bool.not_eq_true',List.cons.injEq,and_imp]
  constructor
  ·rintro⟨h1,h2⟩ _ _ rfl rfl
   refine⟨h1,fun d hd=>?_⟩
   cases hl:g.done.getLast? with
   |none=>rw[List.getLast?_eq_none_iff]at hl;rw[hl]at hd;cases hd
   |some x=>
    rw[hl]at h2;obtain⟨ys,e⟩:=List.getLast?_eq_some_iff.1 hl;rw[e]at h hd;rcases List.mem_append.1 hd with hd|hd
    ·exact uZ ((List.pairwise_append.1 h).2.2 d hd x (by simp)) h2
    ·obtain rfl:=List.mem_singleton.1 hd
     exact h2
  ·intro k
   obtain⟨k1,k2⟩:=k p l rfl rfl;refine⟨k1,?_⟩;split
   ·rename_i x hl
    obtain⟨ys,e⟩:=List.getLast?_eq_some_iff.1 hl;exact k2 x (by rw[e];simp)
   ·rfl
theorem cv {g:aF}:bB g=true↔Y' g:=by
 unfold bB;simp only[Bool.and_eq_true,decide_eq_true_eq,Vz,Za];constructor
 ·rintro⟨⟨⟨⟨⟨a,b⟩,c⟩,d⟩,e⟩,f⟩
  exact⟨a,b,c,d,fun x hx=>(e x hx).1,fun x hx=>(e x hx).2,(NJ d.ord).1 f⟩
 ·rintro⟨a,b,c,d,e,f,k⟩
  exact⟨⟨⟨⟨⟨a,b⟩,c⟩,d⟩,fun x hx=>⟨e x hx,f x hx⟩⟩,(NJ d.ord).2 k⟩
theorem QT.mono {id c c':Int}{es:List aB}(h:QT id c es)(hc:c≤c'):QT id c' es:=⟨h.ord,h.nq,fun e he=>by have:=h.lJ e he;exact⟨this.ms,this.st,by have:=this.ck;omega,this.ow⟩⟩
theorem Y'.less {g:aF}(h:Y' g){d p:aB}(hd:d∈g.done)(hp:p∈g.pend):bg d p=true:=by
 rcases hq:g.pend with _|⟨x,l⟩
 ·rw[hq]at hp;cases hp
 ·have h1:=(h.hd x l hq).2 d hd
  rw[hq]at hp;rcases List.mem_cons.1 hp with rfl|hp
  ·exact h1
  ·have:=h.pl.ord
   rw[hq]at this;exact uZ h1 ((List.pairwise_cons.1 this).1 p hp)
theorem xh {es:List aB}{m:Int}(h:es.find? (fun e=>decide (e.m=m))=none):∀e∈es,e.m≠m:=fun e he=>by
 simpa using List.find?_eq_none.1 h e he
theorem mZ {g:aF}{m:Int}(h:bB g=true)(hm:bj m=true):bB (aD g m).1=true:=by
 unfold aD;split
 ·split<;>exact h
 ·rename_i hp
  split
  ·exact h
  ·rename_i hd
   split
   ·exact h
   ·rename_i hc
    have hp:=xh hp;have hd:=xh hd;have k:=cv.1 h;have hid:=k.id;have Zb:=k.ck;refine cv.2 ⟨k.id,⟨by simp only;omega,by simp only;omega⟩,⟨?_,?_,?_⟩,k.dl.mono (by simp only;omega),k.df,fun e he p Zc=>?_,fun p l e=>?_⟩
    ·refine List.pairwise_append.2 ⟨k.pl.ord,List.pairwise_singleton ..,fun a ha b hb=>?_⟩
     obtain rfl:=List.mem_singleton.1 hb
     have:=(k.pl.lJ a ha).ck
     simp only[bg,aO,decide_eq_true_eq];omega
    ·refine List.pairwise_append.2 ⟨k.pl.nq,List.pairwise_singleton ..,fun a ha b hb=>?_⟩
     obtain rfl:=List.mem_singleton.1 hb
     exact hp a ha
    ·intro e he
     rcases List.mem_append.1 he with he|he
     ·have:=k.pl.lJ e he
      exact⟨this.ms,this.st,by have:=this.ck;simp only;omega,this.ow⟩
     ·obtain rfl:=List.mem_singleton.1 he
      refine⟨hm,?_,by simp only;omega,.inr rfl⟩
      simp only[bc,Bool.and_eq_true,decide_eq_true_eq];exact⟨by omega,hid⟩
    ·rcases List.mem_append.1 Zc with Zc|Zc
     ·exact k.dp e he p Zc
     ·obtain rfl:=List.mem_singleton.1 Zc
      exact fun e'=>hd e he e'.symm
    ·simp only at e
     rcases hq:g.pend with _|⟨x,q⟩
     ·rw[hq]at e
      cases e;refine⟨rfl,fun d tG=>?_⟩
      have:=(k.dl.lJ d tG).ck
      simp only[bg,aO,decide_eq_true_eq];omega
     ·rw[hq]at e
      cases e;exact k.hd _ _ hq
theorem zB:∀(es d:List aB) (told:List Int),∃pre,es=pre++(eG es d told).1∧(eG es d told).2.1=d++pre∧(eG es d told).2.2=told++pre.map aB.m∧(∀e∈pre,e.f=true)∧∀p l,(eG es d told).1=p::l→p.f=false
 |[],d,told=>⟨[],rfl,by simp[eG],by simp[eG],fun e h=>(by cases h),fun p l h=>(by cases h)⟩
 |e::es,d,told=>by
  unfold eG;split
  ·rename_i hf
   obtain⟨pre,h1,h2,h3,h4,h5⟩:=zB es (d++[e]) (told++[e.m]);refine⟨e::pre,by rw[List.cons_append,←h1],by rw[h2];simp,by rw[h3];simp,fun x hx=>?_,h5⟩
   rcases List.mem_cons.1 hx with rfl|hx
   ·exact hf
   ·exact h4 x hx
  ·rename_i hf
   refine⟨[],rfl,by simp,by simp,fun e h=>(by cases h),fun p l h=>?_⟩
   cases h;simpa using hf
theorem Dz (es:List aB)(m t s:Int):(fo es m t s).Perm (⟨m,t,s,true⟩::es):=by
 unfold fo;rw[List.append_assoc,List.singleton_append];refine List.perm_middle.trans ?_;rw[List.take_append_drop]
theorem ly (g:aF)(m t s:Int):bn g m t s=(g,[],false)∨∃(j:Nat) (e:aB),g.pend[j]?=some e∧e.m=m∧e.f=false∧g.pend.find? (fun e=>decide (e.m=m))=some e∧aO t s e.t e.g=false∧jR (g.pend.eraseIdx j) (eX (g.pend.eraseIdx j) t s) t s=false∧
  bn g m t s=(⟨g.id,if g.clock<t then t else g.clock,(eG (fo (g.pend.eraseIdx j) m t s) g.done []).1,(eG (fo (g.pend.eraseIdx j) m t s) g.done []).2.1⟩,(eG (fo (g.pend.eraseIdx j) m t s) g.done []).2.2,true):=by
 rcases ee g.pend m with⟨hp, -⟩|⟨j,e,hp,he,zq,o_⟩
 ·left
  unfold bn;split
  ·rw[if_pos (.inl (by omega))]
  ·rfl
 ·have Dv:(dN g.pend m).toNat=j:=by omega
  unfold bn;rw[Dv,he];simp only
  by_cases hc:dN g.pend m<0∨e.f=true∨aO t s e.t e.g=true
  ·rw[if_pos hc];exact .inl rfl
  ·rw[if_neg hc]
   cases hs:jR (g.pend.eraseIdx j) (eX (g.pend.eraseIdx j) t s) t s
   ·rw[if_neg (by simp)]
    exact .inr ⟨j,e,he,o_,by cases h:e.f<;>simp_all,zq,by cases h:aO t s e.t e.g<;>simp_all,hs,rfl⟩
   ·rw[if_pos rfl];exact .inl rfl
theorem u9 {g:aF}{m t s:Int}(h:bB g=true)(hm:bj m=true)(aZ:bc t s=true):bB (bn g m t s).1=true:=by
 rcases ly g m t s with e|⟨j,e,he,o_,VA, -,hl,hs,eq⟩
 ·rw[e];exact h
 ·rw[eq]
  have k:=cv.1 h;generalize hr:g.pend.eraseIdx j=rest at*;have AE:rest.Sublist g.pend:=by rw[←hr];exact List.eraseIdx_sublist ..
  have tX:=k.pl.ord.sublist AE;have hn:∀x∈rest,¬(x.t=t∧x.g=s):=fun x hx fj=>by
   have:=(u5 t s tX).2 ⟨x,hx,fj⟩
   rw[hs]at this;cases this
  have cH:e∈g.pend:=List.mem_of_getElem? he
  have cf:∀x∈rest,x.m≠m:=fun x hx=>by
   rw[←hr]at hx;obtain⟨i,jf,hi⟩:=xg.1 hx;obtain⟨Bm,rfl⟩:=List.getElem?_eq_some_iff.1 hi;obtain⟨NC,rfl⟩:=List.getElem?_eq_some_iff.1 he;have hd:=List.pairwise_iff_getElem.1 k.pl.nq;rcases Nat.lt_or_gt_of_ne jf with ak|ak
   ·exact fun e'=>hd i j Bm NC ak (e'.trans o_.symm)
   ·exact fun e'=>hd j i NC Bm ak (o_.trans e'.symm)
  have zw:=Dz rest m t s;have Zb:=k.ck;have adG:=aZ;simp only[bc,Bool.and_eq_true,decide_eq_true_eq]at adG;generalize hc:(if g.clock<t then t else g.clock)=Bo
  have nG:g.clock≤Bo∧t≤Bo∧Bo≤999:=by rw[←hc];split<;>omega
  have hP:QT g.id Bo (fo rest m t s):=by
   refine⟨zA m t s tX hn,?_,fun x hx=>?_⟩
   ·refine(zw.pairwise_iff (fun h=>Ne.symm h)).2 (List.pairwise_cons.2 ⟨fun x hx=>Ne.symm (cf x hx),k.pl.nq.sublist AE⟩)
   ·rcases List.mem_cons.1 (zw.mem_iff.1 hx)with rfl|hx
    ·exact⟨hm,aZ,nG.2.1,.inl rfl⟩
    ·have:=k.pl.lJ x (AE.subset hx)
     exact⟨this.ms,this.st,by have:=this.ck;omega,this.ow⟩
  have QR:∀d∈g.done,∀x∈fo rest m t s,bg d x=true∧x.m≠d.m:=fun d hd x hx=>by
   rcases List.mem_cons.1 (zw.mem_iff.1 hx)with rfl|hx
   ·refine⟨?_,?_⟩
    ·have:=k.less hd cH
     simp only[bg,aO,decide_eq_true_eq,decide_eq_false_iff_not]at*;omega
    ·have:=k.dp d hd e cH
     rwa[o_]at this
   ·exact⟨k.less hd (AE.subset hx),k.dp d hd x (AE.subset hx)⟩
  obtain⟨pre,p1,p2, -,p4,p5⟩:=zB (fo rest m t s) g.done [];generalize eG (fo rest m t s) g.done []=R at*;obtain⟨es,dn,td⟩:=R;simp only at p1 p2 p5⊢
  rw[p1]at hP QR;subst p2;have hD:=k.dl.mono nG.1;obtain⟨o1,o2,o3⟩:=List.pairwise_append.1 hP.ord;obtain⟨d1,d2,d3⟩:=List.pairwise_append.1 hP.nq;refine cv.2 ⟨k.id,⟨by simp only;omega,nG.2.2⟩,⟨o2,d2,fun x hx=>hP.lJ x (by simp[hx])⟩,⟨?_,?_,fun x hx=>?_⟩,fun x hx=>?_,fun x hx p hp=>?_,fun p l qv=>⟨p5 p l qv,fun d hd=>?_⟩⟩
  ·exact List.pairwise_append.2 ⟨hD.ord,o1,fun a ha b hb=>(QR a ha b (by simp[hb])).1⟩
  ·exact List.pairwise_append.2 ⟨hD.nq,d1,fun a ha b hb=>Ne.symm (QR a ha b (by simp[hb])).2⟩
  ·rcases List.mem_append.1 hx with hx|hx
   ·exact hD.lJ x hx
   ·exact hP.lJ x (by simp[hx])
  ·rcases List.mem_append.1 hx with hx|hx
   ·exact k.df x hx
   ·exact p4 x hx
  ·rcases List.mem_append.1 hx with hx|hx
   ·exact(QR x hx p (by simp[hp])).2
   ·exact Ne.symm (d3 x hx p hp)
  ·have hp:p∈es:=by simp only at qv;rw[qv];simp
   rcases List.mem_append.1 hd with hd|hd
   ·exact(QR d hd p (by simp[hp])).1
   ·exact o3 d hd p hp
theorem NK (g:aF)(m:Int):(aD g m).1.id=g.id:=by
 unfold aD;split
 ·split<;>rfl
 ·split
  ·rfl
  ·split<;>rfl
theorem VB (g:aF)(m t s:Int):(bn g m t s).1.id=g.id:=by
 rcases ly g m t s with e|⟨j,e, -, -, -, -, -, -,eq⟩
 ·rw[e]
 ·rw[eq]
end Go.Proofs.YtabjbdnokpjipaaGreat.T
