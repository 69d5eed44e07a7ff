/-
What is proved: what the program's check of a group, and its look-up, do to trees; the check is the reference's. No condition but the lengths that each states. what the reference's recovery does to trees. No condition but the lengths and ranges that each states. the program's check of a group is the reference's; the program's look-up of a message, and its question. No condition but the lengths that each states. what the program's copies of groups and its GroupPropose do to trees: what the reference's do. Conditions: those that each states. a pending entry that gets its final stamp goes where the reference puts it ('sort_put', 'same_iff'). Plain lists.
-/
import Derived.Test.YtjklkppncmhehaaGreatRx35
import Derived.Test.YtjklkppncmhehaaGreatRx37
import Derived.Test.YtjklkppncmhehaaGreatRx36
set_option linter.unusedVariables false
set_option linter.unusedSimpArgs false
namespace Go.Proofs.YtjklkppncmhehaaGreat.T
open Go Go.RowKit
set_option maxRecDepth 100000
set_option maxHeartbeats 4000000
variable {E:List PanicEntry→World→Prop}
def AD (es:List an)(k:Nat):List Bool:=(List.range 12).map fun m=>(es.take k).any fun e=>decide (e.m=(m:Nat))
def il (es:List an)(k:Nat):List TV:=(AD es k).map fun b=> .r (rB b)
theorem nb (es:List an)(k:Nat):(il es k).length=12:=by simp[il,AD]
def s_ (es:List an)(k:Nat)(m:Int):Bool:=(es.take k).any fun e=>decide (e.m=m)
theorem MF (es:List an)(k:Nat){m:Int}(h0:0≤m)(h1:m<12):List.take 1 (List.drop m.toNat (il es k))=[.r (rB (s_ es k m))]:=by
 have ai:m.toNat<(il es k).length:=by rw[nb];omega
 rw[List.drop_eq_getElem_cons ai];simp only[List.take_succ_cons,List.take_zero,il,AD,List.getElem_map,List.getElem_range,s_];rw[show((m.toNat:Nat):Int)=m by omega]
theorem MG (es:List an)(k:Nat){e:an}(he:es[k]?=some e)(h0:0≤e.m)(h1:e.m<12):List.take e.m.toNat (il es k)++ .r (rB true)::List.drop (e.m.toNat+1) (il es k)=il es (k+1):=by
 have ai:e.m.toNat<(il es k).length:=by rw[nb];omega
 have Ya:(il es k).set e.m.toNat (.r (rB true))=List.take e.m.toNat (il es k)++ .r (rB true)::List.drop (e.m.toNat+1) (il es k):=by rw[List.set_eq_take_append_cons_drop,if_pos ai]
 rw[←Ya];apply List.ext_getElem
 ·simp[nb]
 ·intro i h2 h3
  have hi:i<12:=by rw[nb]at h3;exact h3
  rw[List.getElem_set];simp only[il,AD,List.getElem_map,List.getElem_range];rw[List.take_add_one,he,List.any_append];by_cases hm:e.m.toNat=i
  ·rw[if_pos hm]
   simp only[Option.toList_some,List.any_cons,List.any_nil,Bool.or_false];rw[show decide (e.m=(i:Nat))=true by simp;omega,Bool.or_true]
  ·rw[if_neg hm]
   simp only[Option.toList_some,List.any_cons,List.any_nil,Bool.or_false];rw[show decide (e.m=(i:Nat))=false by simp;omega,Bool.or_false]
theorem JM {es:List an}{k:Nat}{x:TV}(h:x∈il es k):∃b,x= .r (rB b):=by
 obtain⟨b,_,rfl⟩:=List.mem_map.1 h;exact⟨b,rfl⟩
def jg (es:List an)(i:Nat):Bool:=match es[i]? with
 |some e=> !s_ es i e.m
 |none=>true
def vu (es:List an)(i:Nat):Bool:=match es[i]? with
 |some e=>e.f
 |none=>true
def me (g:aq):Bool:=bF g.id&&ig g.clock&&jX g.id g.clock g.ao&&jX g.id g.clock g.done&&cm (g.done++g.ao).length (jg (g.done++g.ao))&&cm g.done.length (vu g.done)&&jL g
theorem CS {id clock:Int}{es:List an}(h:jX id clock es=true){e:an}(he:e∈es):0≤e.m∧e.m<12:=by
 obtain⟨i,hi,rfl⟩:=List.getElem_of_mem he;simp only[jX,cm,List.all_eq_true,List.mem_range]at h;have:=h i hi
 unfold oB at this;rw[List.getElem?_eq_getElem hi]at this;simp only[Bool.and_eq_true,bm,decide_eq_true_eq]at this;exact this.1.1.1.1
theorem iR (g:aq)(h:eE g 4294967290):TC Tw.prog E 52 [.a ((af g).map .r)] 0 [] (gB (me g)) []:=by
 obtain⟨nX,Fh⟩:=h;have hlen:g.done.length≤maxLen:=by simp only[maxLen];omega
 refine tE Tryz.f52 Tryz.ntmps52 (by rw[Tryz.results52]) ?_
 cases hv:bF g.id&&ig g.clock&&jX g.id g.clock g.ao&&jX g.id g.clock g.done
 ·rw[show me g=false by rw[me,hv];simp]
  (refine TW.go ?_;simp[af];repeat' first|intro hc|refine U.mk ?_|refine aI ?_|refine aa ?_ ?_|(refine cP ?_;(first|refine⟨_,pM _,?_⟩|refine⟨_,CK _,?_⟩|refine⟨_,sZ g _,?_⟩);simp[af]))
  all_goals first
   |(exact oW [] [])
   |(exfalso;simp_all)
 ·have gZ:=hv
  simp only[Bool.and_eq_true]at gZ;obtain⟨⟨⟨v1,v2⟩,v3⟩,v4⟩:=gZ;generalize dr:g.done++g.ao=es;have Fi:es.length≤8589934580:=by rw[←dr];simp;omega
  have V9:es.length≤maxLen:=by simp only[maxLen];omega
  have NB:∀e∈es,0≤e.m∧e.m<12:=fun e he=>by
   rw[←dr]at he;rcases List.mem_append.1 he with he|he
   ·exact CS v4 he
   ·exact CS v3 he
  have Tj:me g=(cm es.length (jg es)&&cm g.done.length (vu g.done)&&jL g):=by
   rw[me,hv,dr,Bool.true_and]
  have tP:=iO (E:=E) g.done (by omega)
  have V_:il es 0=[.r (rB false),.r (rB false),.r (rB false),.r (rB false),.r (rB false),.r (rB false),.r (rB false),.r (rB false),.r (rB false),.r (rB false),.r (rB false),.r (rB false)]:=by simp[il,AD,List.range_succ]
  (refine TW.go ?_;simp[af,v1,v2,v3,v4,maxLen];repeat' first|intro hc|refine U.mk ?_|refine aI ?_|refine aa ?_ ?_|(refine cP ?_;(first|refine⟨_,pM _,?_⟩|refine⟨_,CK _,?_⟩|refine⟨_,sZ g _,?_⟩);simp[af,v1,v2,v3,v4,maxLen])|(refine cF [] 1 ?_;refine⟨_,_,tP,?_⟩;simp[af,v1,v2,v3,v4,maxLen]))
  refine tL (fun(k:Nat)=>⟨[(1,.s (.ptr 0 0)),(3,.s (.ptr 1 0)),(38,gR (cd es)),(39,gI .i64 es.length),(40,gI .i64 (k:Nat))],[(0,.box ((af g).map .r)),(1,.box (il es k))],2⟩) (fun k=>k≤es.length∧∀i,i<k→jg es i=true) (fun k=>es.length-k) 0 ⟨by omega,fun i hi=>by omega⟩
   (Wk.own [0,1] [3] (by simp) (by simp[←dr]) (by simp[af,V_]) (by simp) (by simp)) fun k hk=>?_
  obtain⟨hk,hf⟩:=hk;by_cases ai:k<es.length
  ·have he:es[k]?=some es[k]:=List.getElem?_eq_getElem ai
   have ar:(k:Int)<(es.length:Int):=by omega
   have aD:=wrap_add ai V9;obtain⟨m0,m1⟩:=NB _ (List.getElem_mem ai);generalize es[k]=e at he m0 m1;have dQ:=MF es k m0 m1;have cE:=MG es k he m0 m1;have Av:=nb es k;have Tk:jg es k= !s_ es k e.m:=by rw[jg,he]
   cases hd:s_ es k e.m
   ·rw[hd]at dQ
    (refine TW.go ?_;simp[ar,he,m0,dQ,cE,Av,ak,af,aD];repeat' first|intro hc|refine U.mk ?_|refine aI ?_|refine aa ?_ ?_)
    refine⟨k+1,⟨by omega,fun i hi=>?_⟩,by omega,Wk.own [0,1] [] (by simp) (by simp) (by simp[af];exact⟨fun a ha=>by obtain⟨c,rfl⟩:=JM ha;rfl,fun b x hx hb=>by obtain⟨c,rfl⟩:=JM hx;cases hb⟩) (by simp) (by simp)⟩
    by_cases e:i=k
    ·subst e;rw[Tk,hd];rfl
    ·exact hf i (by omega)
   ·rw[hd]at dQ
    rw[show me g=false by rw[Tj,cB ai (by rw[Tk,hd];rfl)];rfl]
    (refine TW.go ?_;simp[ar,he,m0,dQ,Av,ak,af];repeat' first|intro hc|refine U.mk ?_|refine aI ?_|refine aa ?_ ?_)
    exact oW [] []
  ·obtain rfl:k=es.length:=by omega
   have dO:cm es.length (jg es)=true:=bT hf
   rw[dO,Bool.true_and]at Tj;clear hf;(refine TW.go ?_;simp[af];repeat' first|intro hc|refine U.mk ?_|refine aI ?_|refine aa ?_ ?_)
   refine tL (fun(k:Nat)=>⟨[(1,.s (.ptr 0 0)),(53,gR (cd g.done)),(54,gI .i64 g.done.length),(55,gI .i64 (k:Nat))],[(0,.box ((af g).map .r))],1⟩) (fun k=>k≤g.done.length∧∀i,i<k→vu g.done i=true) (fun k=>g.done.length-k) 0 ⟨by omega,fun i hi=>by omega⟩
    (Wk.own [0] [] (by simp) (by simp) (by simp[af]) (by simp) (by simp)) fun k hk=>?_
   obtain⟨hk,hf⟩:=hk;by_cases ai:k<g.done.length
   ·have he:g.done[k]?=some g.done[k]:=List.getElem?_eq_getElem ai
    have ar:(k:Int)<(g.done.length:Int):=by omega
    have aD:=wrap_add ai hlen;generalize g.done[k]=e at he;have Tk:vu g.done k=e.f:=by rw[vu,he]
    cases hd:e.f
    ·rw[show me g=false by rw[Tj,cB ai (by rw[Tk,hd])];rfl]
     (refine TW.go ?_;simp[ar,he,hd,ak,af];repeat' first|intro hc|refine U.mk ?_|refine aI ?_|refine aa ?_ ?_)
     exact oW [] []
    ·(refine TW.go ?_;simp[ar,he,hd,ak,af,aD];repeat' first|intro hc|refine U.mk ?_|refine aI ?_|refine aa ?_ ?_)
     refine⟨k+1,⟨by omega,fun i hi=>?_⟩,by omega,Wk.own [0] [] (by simp) (by simp) (by simp[af]) (by simp) (by simp)⟩
     by_cases e:i=k
     ·subst e;rw[Tk,hd]
     ·exact hf i (by omega)
   ·obtain rfl:k=g.done.length:=by omega
    have Yb:cm g.done.length (vu g.done)=true:=bT hf
    rw[Yb,Bool.true_and]at Tj;clear hf dr Fi V9 NB dO hv tP V_;rw[Tj];rcases hp:g.ao with _|⟨p,ps⟩
    ·(refine TW.go ?_;simp[af,hp];repeat' first|intro hc|refine U.mk ?_|refine aI ?_|refine aa ?_ ?_)
     refine aE.nil (r:=gB (jL g)) ?_ rfl;simp[jL,hp]
    ·have zO:¬((ps.length:Int)+1=0):=by omega
     rcases hn:g.done.length with _|n
     ·have eZ:g.done=[]:=List.length_eq_zero_iff.1 hn
      (refine TW.go ?_;simp[af,ak,hp,hn,zO];repeat' first|intro hc|refine U.mk ?_|refine aI ?_|refine aa ?_ ?_|(refine cP ?_;refine⟨_,iT _ _ _ _,?_⟩;simp[af,ak,hp,hn,zO]))
      all_goals
       refine aE.nil (r:=gB (jL g)) ?_ rfl;simp_all[jL]
     ·have Fi:g.done[n]?=some g.done[n]:=List.getElem?_eq_getElem (by omega)
      have ki:g.done.getLast?=some g.done[n]:=by rw[List.getLast?_eq_getElem?,show g.done.length-1=n by omega];exact Fi
      have hw:=ku (k:=n) (by omega)
      have BU:¬((n:Int)+1=0):=by omega
      (refine TW.go ?_;simp[af,ak,hp,hn,zO,BU,hw,Fi];repeat' first|intro hc|refine U.mk ?_|refine aI ?_|refine aa ?_ ?_|(refine cP ?_;refine⟨_,iT _ _ _ _,?_⟩;simp[af,ak,hp,hn,zO,BU,hw,Fi]))
      all_goals
       refine aE.nil (r:=gB (jL g)) ?_ rfl;simp_all[jL]
end Go.Proofs.YtjklkppncmhehaaGreat.T
namespace Go.Proofs.YtjklkppncmhehaaGreat.T
open Go Go.RowKit
set_option maxRecDepth 100000
set_option maxHeartbeats 4000000
variable {E:List PanicEntry→World→Prop}
def cu (set:List Int):Prop:=∀g∈set,0≤g∧g<5
theorem JN (gs:List aq)(m:Int){set:List Int}{k:Nat}{g:Int}(h:set[k]?=some g)(acc:List (Int×Int)):ff gs m (set.drop k) acc=if di (aB gs g.toNat) m&&(bo (aB gs g.toNat) m).f then .inl ((bo (aB gs g.toNat) m).t,(bo (aB gs g.toNat) m).g)
  else ff gs m (set.drop (k+1)) (if di (aB gs g.toNat) m then acc++[((bo (aB gs g.toNat) m).t,(bo (aB gs g.toNat) m).g)]else acc):=by
 obtain⟨hk,he⟩:=List.getElem?_eq_some_iff.1 h;rw[List.drop_eq_getElem_cons hk,ff,he]
theorem xO (gs:List aq)(set:List Int)(m:Int)(h5:gs.length=5)(hr:cu set)(hn:set≠[])(iI:set.length≤5):TC Tw.prog E 51 [gR (bO gs),gR (bg set),gI .i64 m] 0 [] (.p [ma (aJ gs set m).1,gB (aJ gs set m).2]) []:=by
 have cX:0<set.length:=List.length_pos_iff.2 hn
 have hlen:set.length≤maxLen:=by simp only[maxLen];omega
 refine tE Tryz.f51 Tryz.ntmps51 (by rw[Tryz.results51]) ?_
 (refine TW.go ?_;simp;repeat' first|intro hc|refine U.mk ?_|refine aI ?_|refine aa ?_ ?_)
 refine tL (fun(p:Nat×List (Int×Int))=>⟨[(0,gR (bO gs)),(1,gR (bg set)),(2,gI .i64 m),(6,.s (.ptr 0 0)),(8,.s (.own 1)),(9,gI .i64 (p.1:Nat))],[(0,.box [.r (rI 0),.r (rI 0)]),(1,.rows 28 2 (p.2.map jV))],2⟩)
  (fun p=>p.1≤set.length∧p.2.length≤p.1∧ff gs m (set.drop p.1) p.2=ff gs m set []) (fun p=>set.length-p.1) (0,[]) ⟨by simp,by simp,rfl⟩ (kO [0,1] []) fun p hp=>?_
 obtain⟨k,acc⟩:=p;obtain⟨hk,ha,bk⟩:=hp;simp only at hk ha bk⊢
 by_cases ai:k<set.length
 ·have he:set[k]?=some set[k]:=List.getElem?_eq_getElem ai
  obtain⟨g0,g1⟩:=hr _ (List.getElem_mem ai);generalize hx:set[k]=x at he g0 g1;have ar:(k:Int)<(set.length:Int):=by omega
  have ym:x.toNat<gs.length:=by omega
  have hg:gs[x.toNat]?=some (aB gs x.toNat):=by rw[aB,List.getD_eq_getElem?_getD,List.getElem?_eq_getElem ym];rfl
  have aD:=wrap_add ai hlen;have hd:=JN gs m he acc;rw[bk]at hd;generalize aB gs x.toNat=G at hg hd;clear ym
  cases hb:di G m
  ·simp only[hb,Bool.false_and,Bool.false_eq_true,if_false]at hd
   (refine TW.go ?_;simp[ar,he,g0,hg,hb,af,ak,aD,maxLen];repeat' first|intro hc|refine U.mk ?_|refine aI ?_|refine aa ?_ ?_|(refine cP ?_;refine⟨_,fP _ _,?_⟩;simp[ar,he,g0,hg,hb,af,ak,aD,maxLen]))
   exact⟨(k+1,acc),⟨by simp only;omega,by simp only;omega,hd.symm⟩,by simp only;omega,kO [0,1] []⟩
  ·cases hf:(bo G m).f
   ·simp only[hb,hf,Bool.and_false,Bool.false_eq_true,if_false,if_true]at hd
    (refine TW.go ?_;simp[ar,he,g0,hg,hb,hf,af,ak,aD,maxLen];repeat' first|intro hc|refine U.mk ?_|refine aI ?_|refine aa ?_ ?_|(refine cP ?_;refine⟨_,fP _ _,?_⟩;simp[ar,he,g0,hg,hb,hf,af,ak,aD,maxLen]))
    exact⟨(k+1,acc++[((bo G m).t,(bo G m).g)]),⟨by simp only;omega,by simp;omega,hd.symm⟩,by simp only;omega,Wk.own [0,4] [] (by simp) (by simp) (by simp[jV]) (by simp) (by simp)⟩
   ·simp only[hb,hf,Bool.and_true,if_true]at hd
    (refine TW.go ?_;simp[ar,he,g0,hg,hb,hf,af,ak,aD,maxLen];repeat' first|intro hc|refine U.mk ?_|refine aI ?_|refine aa ?_ ?_|(refine cP ?_;refine⟨_,fP _ _,?_⟩;simp[ar,he,g0,hg,hb,hf,af,ak,aD,maxLen]))
    rw[show aJ gs set m=(((bo G m).t,(bo G m).g),true) by rw[aJ,hd]]
    refine aE.nil (r:= .p [ma ((bo G m).t,(bo G m).g),gB true]) ?_ rfl;simp
 ·obtain rfl:k=set.length:=by omega
  rw[List.drop_length,ff]at bk;have hS:aJ gs set m=if acc.length<set.length then((0,0),false)else(rp acc,true):=by rw[aJ,←bk]
  rw[hS];by_cases hl:acc.length<set.length
  ·have aY:(acc.length:Int)<(set.length:Int):=by omega
   rw[if_pos hl];(refine TW.go ?_;simp[aY];repeat' first|intro hc|refine U.mk ?_|refine aI ?_|refine aa ?_ ?_)
   refine aE.nil (r:= .p [ma (0,0),gB false]) ?_ rfl;simp
  ·rw[if_neg hl]
   rcases acc with _|⟨x,xs⟩
   ·exact absurd cX hl
   ·have aY:¬(xs.length:Int)+1<(set.length:Int):=by simp at hl;omega
    (refine TW.go ?_;simp[aY];repeat' first|intro hc|refine U.mk ?_|refine aI ?_|refine aa ?_ ?_|(refine cK [1] ?_;refine⟨_,JE x xs,?_⟩;simp[aY]))
    refine aE.nil (r:= .p [ma (rp (x::xs)),gB true]) ?_ rfl;simp[rp]
theorem dY {α β:Type}(f:β→α→β)(b:β){xs:List α}{k:Nat}{x:α}(h:xs[k]?=some x):(xs.take (k+1)).foldl f b=f ((xs.take k).foldl f b) x:=by
 rw[List.take_add_one,h,List.foldl_append];rfl
theorem dt {gs:List aq}{i:Nat}(h:i<gs.length):gs[i]?=some (aB gs i):=by
 rw[aB,List.getD_eq_getElem?_getD,List.getElem?_eq_getElem h];rfl
theorem cu.take {set:List Int}(h:cu set)(k:Nat):cu (set.take k):=fun g hg=>h g (List.mem_of_mem_take hg)
theorem rz {gs:List aq}{m:Int}{set:List Int}{k:Nat}(h:c9 gs m (set.take k)=false):c9 gs m set=false:=by
 simp only[c9,List.all_eq_false]at h⊢;obtain⟨x,hx,h⟩:=h;exact⟨x,List.mem_of_mem_take hx,h⟩
theorem tb {gs:List aq}{m:Int}{set:List Int}{k:Nat}{x:Int}(h:set[k]?=some x):c9 gs m (set.take (k+1))=(c9 gs m (set.take k)&&(di (aB gs x.toNat) m&&(bo (aB gs x.toNat) m).f)):=by
 rw[c9,List.take_add_one,h,List.all_append];simp[c9]
abbrev kA (gs:List aq):aj:= .rows 37 4 (gs.map af)
theorem CU (gs:List aq)(set:List Int)(m:Int)(h5:gs.length=5)(hg:∀g∈gs,fg g 4294967000)(hr:cu set)(hn:set≠[])(iI:set.length≤5):TC Tw.prog E 70 [gR (bO gs),gR (bg set),gI .i64 m] 0 [] (.p [.s (.own 0),gB (dK gs set m).2]) [(0,kA (dK gs set m).1)]:=by
 have cX:0<set.length:=List.length_pos_iff.2 hn
 have hlen:set.length≤maxLen:=by simp only[maxLen];omega
 have wJ:cz gs 4294967296:=⟨by omega,fun g h=>by have:=(hg g h).1;exact⟨by omega,by omega⟩⟩
 refine tE Tryz.f70 Tryz.ntmps70 (by rw[Tryz.results70]) ?_
 (refine TW.go ?_;simp;repeat' first|intro hc|refine U.mk ?_|refine aI ?_|refine aa ?_ ?_|(refine cF [] 1 ?_;refine⟨_,_,fO gs wJ,?_⟩;simp))
 refine tL (fun(k:Nat)=>⟨[(1,gR (bg set)),(2,gI .i64 m),(8,.s (.own 0)),(9,gI .i64 (k:Nat))],[(0,kA (aF gs m (set.take k)))],1⟩) (fun k=>k≤set.length) (fun k=>set.length-k) 0 (by omega) (Wk.own [0] [] (by simp) (by simp) (by simp[aF]) (by simp) (by simp)) fun k hk=>?_
 by_cases ai:k<set.length
 ·have he:set[k]?=some set[k]:=List.getElem?_eq_getElem ai
  obtain⟨g0,g1⟩:=hr _ (List.getElem_mem ai);generalize hx:set[k]=x at he g0 g1;have ar:(k:Int)<(set.length:Int):=by omega
  have aD:=wrap_add ai hlen;obtain⟨n5,nN⟩:=kz (n:=4294967005) m (set.take k) gs 4294967000 (hr.take k) h5 hg (by simp;omega)
  have fl:aF gs m (set.take (k+1))=(aF gs m (set.take k)).set x.toNat (au (aB (aF gs m (set.take k)) x.toNat) m).1:=dY _ _ he
  have ym:x.toNat<(aF gs m (set.take k)).length:=by omega
  have hG:=dt ym;have hN:=nN _ (List.mem_of_getElem? hG);have hle:eE (aB (aF gs m (set.take k)) x.toNat) 4294967290:=by have:=hN.1;exact⟨by omega,by omega⟩
  have hx5:x<5:=g1
  generalize aF gs m (set.take k)=gk at*;generalize VG:aB gk x.toNat=G at*;(refine TW.go ?_;simp[ar,he,g0,hG,af,aD,maxLen];repeat' first|intro hc|refine U.mk ?_|refine aI ?_|refine aa ?_ ?_|(refine cF [] 2 ?_;refine⟨_,_,kK _ m hle hN.2,?_⟩;simp[ar,he,g0,hG,af,aD,maxLen]))
  exact⟨k+1,by omega,by omega,Wk.own [0] [] (by simp) (by simp) (by simp[fl,af]) (by simp) (by simp)⟩
 ·obtain rfl:k=set.length:=by omega
  obtain⟨n5,nN⟩:=kz (n:=4294967005) m set gs 4294967000 hr h5 hg (by omega)
  have hA:dK gs set m=if(aJ (aF gs m set) set m).2=true then(bD (aF gs m set) m (aJ (aF gs m set) set m).1 set,c9 (bD (aF gs m set) m (aJ (aF gs m set) set m).1 set) m set)
   else(aF gs m set,false):=rfl
  rw[hA];simp only[List.take_length];generalize aF gs m set=g1 at*;clear hA
  cases cl:(aJ g1 set m).2
  ·rw[if_neg (by simp)]
   (refine TW.go ?_;simp[cl];repeat' first|intro hc|refine U.mk ?_|refine aI ?_|refine aa ?_ ?_|(refine cK [0] ?_;refine⟨_,xO g1 set m n5 hr hn iI,?_⟩;simp[cl]))
   refine tL (fun(_:Unit)=>⟨[(1,gR (bg set)),(2,gI .i64 m),(8,.s (.own 0)),(14,gB false),(15,gI .i64 0)],[(0,kA g1)],1⟩) (fun _=>True) (fun _=>0) () trivial (kO [0] []) fun _ _=>?_;(refine TW.go ?_;simp;repeat' first|intro hc|refine U.mk ?_|refine aI ?_|refine aa ?_ ?_)
   all_goals
    refine tL (fun(_:Unit)=>⟨[(1,gR (bg set)),(2,gI .i64 m),(8,.s (.own 0)),(14,gB false),(19,gI .i64 0)],[(0,kA g1)],1⟩) (fun _=>True) (fun _=>0) () trivial (kO [0] []) fun _ _=>?_;(refine TW.go ?_;simp;repeat' first|intro hc|refine U.mk ?_|refine aI ?_|refine aa ?_ ?_)
    all_goals exact oW [0] []
  ·rw[if_pos rfl]
   generalize hs:(aJ g1 set m).1=s;(refine TW.go ?_;simp[cl,hs];repeat' first|intro hc|refine U.mk ?_|refine aI ?_|refine aa ?_ ?_|(refine cK [0] ?_;refine⟨_,xO g1 set m n5 hr hn iI,?_⟩;simp[cl,hs]))
   refine tL (fun(k:Nat)=>⟨[(1,gR (bg set)),(2,gI .i64 m),(8,.s (.own 0)),(13,.s (.ptr 1 0)),(14,gB true),(15,gI .i64 (k:Nat))],[(0,kA (bD g1 m s (set.take k))),(1,.box [.r (rI s.1),.r (rI s.2)])],2⟩) (fun k=>k≤set.length) (fun k=>set.length-k) 0 (by omega) (Wk.own [0,1] [] (by simp) (by simp) (by simp[bD]) (by simp) (by simp)) fun k hk=>?_
   by_cases ai:k<set.length
   ·have he:set[k]?=some set[k]:=List.getElem?_eq_getElem ai
    obtain⟨g0,Bn⟩:=hr _ (List.getElem_mem ai);generalize hx:set[k]=x at he g0 Bn;have ar:(k:Int)<(set.length:Int):=by omega
    have aD:=wrap_add ai hlen;obtain⟨f5,fN⟩:=mi (n:=4294967005) m s (set.take k) g1 (hr.take k) n5 nN;have fl:bD g1 m s (set.take (k+1))=(bD g1 m s (set.take k)).set x.toNat (aO (aB (bD g1 m s (set.take k)) x.toNat) m s.1 s.2).1:=dY _ _ he
    have ym:x.toNat<(bD g1 m s (set.take k)).length:=by omega
    have hG:=dt ym;have hN:=fN _ (List.mem_of_getElem? hG);have hle:=hN.mono (n':=4294967290) (by omega)
    generalize bD g1 m s (set.take k)=gk at*;generalize VG:aB gk x.toNat=G at*;(refine TW.go ?_;simp[ar,he,g0,hG,af,aD,maxLen];repeat' first|intro hc|refine U.mk ?_|refine aI ?_|refine aa ?_ ?_|(refine cF [] 3 ?_;refine⟨_,_,rv _ m _ _ hle,?_⟩;simp[ar,he,g0,hG,af,aD,maxLen]))
    exact⟨k+1,by omega,by omega,Wk.own [0,1] [] (by simp) (by simp) (by simp[fl,af]) (by simp) (by simp)⟩
   ·obtain rfl:k=set.length:=by omega
    simp only[List.take_length];obtain⟨f5, -⟩:=mi (n:=4294967005) m s set g1 hr n5 nN;generalize bD g1 m s set=g2 at*;(refine TW.go ?_;simp;repeat' first|intro hc|refine U.mk ?_|refine aI ?_|refine aa ?_ ?_)
    refine tL (fun(k:Nat)=>⟨[(1,gR (bg set)),(2,gI .i64 m),(8,.s (.own 0)),(14,gB (c9 g2 m (set.take k))),(19,gI .i64 (k:Nat))],[(0,kA g2)],1⟩) (fun k=>k≤set.length) (fun k=>set.length-k) 0 (by omega) (Wk.own [0] [] (by simp) (by simp[c9]) (by simp) (by simp) (by simp)) fun k hk=>?_
    cases jN:c9 g2 m (set.take k)
    ·rw[rz jN]
     (refine TW.go ?_;simp;repeat' first|intro hc|refine U.mk ?_|refine aI ?_|refine aa ?_ ?_)
     all_goals exact oW [0] []
    ·by_cases ai:k<set.length
     ·have he:set[k]?=some set[k]:=List.getElem?_eq_getElem ai
      obtain⟨g0,Bn⟩:=hr _ (List.getElem_mem ai);generalize hx:set[k]=x at he g0 Bn;have ar:(k:Int)<(set.length:Int):=by omega
      have aD:=wrap_add ai hlen;have fl:=tb (gs:=g2) (m:=m) he;rw[jN,Bool.true_and]at fl;have ym:x.toNat<g2.length:=by omega
      have hG:=dt ym;generalize VG:aB g2 x.toNat=G at*
      cases hb:di G m
      ·rw[hb,Bool.false_and]at fl
       (refine TW.go ?_;simp[ar,he,g0,hG,hb,af,ak,aD];repeat' first|intro hc|refine U.mk ?_|refine aI ?_|refine aa ?_ ?_|(refine cP ?_;refine⟨_,fP _ _,?_⟩;simp[ar,he,g0,hG,hb,af,ak,aD]))
       exact⟨k+1,by omega,by omega,Wk.own [0] [] (by simp) (by simp[fl]) (by simp) (by simp) (by simp)⟩
      ·rw[hb,Bool.true_and]at fl
       (refine TW.go ?_;simp[ar,he,g0,hG,hb,af,ak,aD];repeat' first|intro hc|refine U.mk ?_|refine aI ?_|refine aa ?_ ?_|(refine cP ?_;refine⟨_,fP _ _,?_⟩;simp[ar,he,g0,hG,hb,af,ak,aD]))
       exact⟨k+1,by omega,by omega,Wk.own [0] [] (by simp) (by simp[fl]) (by simp) (by simp) (by simp)⟩
     ·obtain rfl:k=set.length:=by omega
      rw[List.take_length]at jN;rw[jN];(refine TW.go ?_;simp;repeat' first|intro hc|refine U.mk ?_|refine aI ?_|refine aa ?_ ?_)
      exact oW [0] []
end Go.Proofs.YtjklkppncmhehaaGreat.T
namespace Go.Proofs.YtjklkppncmhehaaGreat.T
open Go Go.RowKit
set_option maxRecDepth 100000
set_option maxHeartbeats 4000000
variable {E:List PanicEntry→World→Prop}
theorem tc (m:Int):∀(es:List an) (k:Nat),cT m es k<0↔∀e∈es,e.m≠m
 |[],k=>by simp[cT]
 |e::es,k=>by
  unfold cT;by_cases h:e.m=m
  ·rw[if_pos h]
   simp only[List.mem_cons,forall_eq_or_imp];constructor
   ·intro h1;omega
   ·intro h1;exact absurd h h1.1
  ·rw[if_neg h,tc m es (k+1)]
   simp only[List.mem_cons,forall_eq_or_imp];exact⟨fun h1=>⟨h,h1⟩,fun h1=>h1.2⟩
theorem nc (es:List an)(m:Int):cO es m<0↔∀e∈es,e.m≠m:=tc m es 0
theorem b_ {n:Nat}{c:Nat→Bool}:cm n c=true↔∀i,i<n→c i=true:=by simp[cm]
theorem CV {es:List an}{k:Nat}{m:Int}:s_ es k m=false↔∀i,i<k→∀e,es[i]?=some e→e.m≠m:=by
 unfold s_;rw[List.any_eq_false];constructor
 ·intro h i hi e he
  have:=h e (List.mem_of_getElem? (by rw[List.getElem?_take,if_pos hi];exact he))
  simpa using this
 ·intro h e he
  obtain⟨i,hi⟩:=List.getElem?_of_mem he;rw[List.getElem?_take]at hi;split at hi
  ·simpa using h i (by assumption) e hi
  ·cases hi
theorem tY {id clock:Int}{es:List an}{i:Nat}:lD id clock es i=true↔oB id clock es i=true∧jg es i=true:=by
 unfold lD oB jg
 cases h:es[i]? with
 |none=>simp
 |some e=>
  have hd:decide (cO (es.take i) e.m<0)= !s_ es i e.m:=by
   rw[Bool.eq_iff_iff,decide_eq_true_eq,nc,Bool.not_eq_true',s_,List.any_eq_false];simp
  simp only[hd]
  cases bm e.m<;>cases aS e.t e.g<;>cases decide (e.t≤clock)<;>cases e.f<;>cases decide (e.g=id)<;>cases s_ es i e.m<;>simp<;>exact Iff.rfl
theorem tZ {id clock:Int}{es:List an}:gC id clock es=true↔jX id clock es=true∧cm es.length (jg es)=true:=by
 unfold gC jX;rw[b_,b_,b_];exact⟨fun h=>⟨fun i hi=>(tY.1 (h i hi)).1,fun i hi=>(tY.1 (h i hi)).2⟩,fun h i hi=>tY.2 ⟨h.1 i hi,h.2 i hi⟩⟩
theorem oG {es:List an}:cm es.length (jg es)=true↔∀(i j:Nat) (e d:an),j<i→es[i]?=some e→es[j]?=some d→d.m≠e.m:=by
 rw[b_];constructor
 ·intro h i j e d BO he hd
  have:=h i (List.getElem?_eq_some_iff.1 he).1
  unfold jg at this;rw[he]at this;exact CV.1 (by simpa using this) j BO d hd
 ·intro h i hi
  unfold jg;rw[List.getElem?_eq_getElem hi];simp only[Bool.not_eq_true'];exact CV.2 fun j hj d hd=>h i j _ d hj (List.getElem?_eq_getElem hi) hd
theorem Ft {a b:List an}:cm (a++b).length (jg (a++b))=true↔cm a.length (jg a)=true∧cm b.length (jg b)=true∧∀e∈a,∀d∈b,d.m≠e.m:=by
 rw[oG,oG,oG];constructor
 ·intro h
  refine⟨fun i j e d BO he hd=>?_,fun i j e d BO he hd=>?_,fun e he d hd=>?_⟩
  ·exact h i j e d BO (by rw[List.getElem?_append_left (List.getElem?_eq_some_iff.1 he).1];exact he) (by rw[List.getElem?_append_left (List.getElem?_eq_some_iff.1 hd).1];exact hd)
  ·exact h (a.length+i) (a.length+j) e d (by omega) (by rw[List.getElem?_append_right (by omega)];simpa using he) (by rw[List.getElem?_append_right (by omega)];simpa using hd)
  ·obtain⟨i,hi⟩:=List.getElem?_of_mem he
   obtain⟨j,hj⟩:=List.getElem?_of_mem hd;have E1:=(List.getElem?_eq_some_iff.1 hi).1;exact fun e'=>h (a.length+j) i d e (by omega) (by rw[List.getElem?_append_right (by omega)];simpa using hj) (by rw[List.getElem?_append_left E1];exact hi) e'.symm
 ·rintro⟨h1,h2,h3⟩ i j e d BO he hd
  rw[List.getElem?_append]at he hd;split at he
  ·rw[if_pos (by omega)]at hd
   exact h1 i j e d BO he hd
  ·split at hd
   ·exact fun e'=>h3 d (List.mem_of_getElem? hd) e (List.mem_of_getElem? he) e'.symm
   ·exact h2 _ _ e d (by omega) he hd
theorem Qq {g:aq}:cm g.done.length (jc g)=true↔cm g.done.length (vu g.done)=true∧∀e∈g.done,∀d∈g.ao,d.m≠e.m:=by
 rw[b_,b_];constructor
 ·intro h
  refine⟨fun i hi=>?_,fun e he d hd=>?_⟩
  ·have:=h i hi
   unfold jc at this;unfold vu;rw[List.getElem?_eq_getElem hi]at this⊢;simp only[Bool.and_eq_true]at this;exact this.1
  ·obtain⟨i,hi,rfl⟩:=List.getElem_of_mem he
   have:=h i hi
   unfold jc at this;rw[List.getElem?_eq_getElem hi]at this;simp only[Bool.and_eq_true,decide_eq_true_eq]at this;exact(nc _ _).1 this.2 d hd
 ·rintro⟨h1,h2⟩ i hi
  have:=h1 i hi
  unfold vu at this;unfold jc;rw[List.getElem?_eq_getElem hi]at this⊢;simp only[Bool.and_eq_true,decide_eq_true_eq];exact⟨this,(nc _ _).2 fun d hd=>h2 _ (List.getElem_mem hi) d hd⟩
theorem nd (g:aq):me g=aT g:=by
 rw[Bool.eq_iff_iff];unfold me aT;simp only[Bool.and_eq_true,tZ,Ft,Qq,ig];constructor
 ·rintro⟨⟨⟨⟨⟨⟨a,b⟩,c⟩,d⟩,e,f,h⟩,i⟩,j⟩
  exact⟨⟨⟨⟨⟨a,b⟩,c,f⟩,d,e⟩,i,h⟩,j⟩
 ·rintro⟨⟨⟨⟨⟨a,b⟩,c,f⟩,d,e⟩,i,h⟩,j⟩
  exact⟨⟨⟨⟨⟨⟨a,b⟩,c⟩,d⟩,e,f,h⟩,i⟩,j⟩
def db (g:aq)(m:Int):an:=if aT g=true then bo g m else an.zero
def pS (g:aq)(m:Int):Bool:=aT g&&di g m
theorem od (g:aq)(m:Int)(h:eE g 4294967290):TC Tw.prog E 16 [.a ((af g).map .r),gI .i64 m] 0 [] (.p [lO (db g m),gB (pS g m)]) []:=by
 have hV:=iR (E:=E) g h;rw[nd]at hV;unfold db pS;refine tE Tryz.f16 Tryz.ntmps16 (by rw[Tryz.results16]) ?_
 cases hv:aT g
 ·rw[if_neg (by simp)]
  rw[hv]at hV;(refine TW.go ?_;simp[af];repeat' first|intro hc|refine U.mk ?_|refine aI ?_|refine aa ?_ ?_|(refine cP ?_;refine⟨_,hV,?_⟩;simp[af]))
  refine aE.nil (r:= .p [lO an.zero,gB false]) ?_ rfl;simp[ak,an.zero]
 ·rw[if_pos rfl,Bool.true_and]
  rw[hv]at hV;(refine TW.go ?_;simp[af];repeat' first|intro hc|refine U.mk ?_|refine aI ?_|refine aa ?_ ?_|(refine cP ?_;refine⟨_,hV,?_⟩;simp[af]))
  refine tL (fun(k:Nat)=>⟨[(1,gI .i64 m),(4,.s (.ptr 1 0)),(17,.a [.r (cd g.ao),.r (cd g.done)]),(18,gI .i64 (k:Nat))],[(1,.box [.r (rI 0),.r (rI 0),.r (rI 0),.r (rB false)])],2⟩)
   (fun k=>k≤2∧(1≤k→g.ao.find? (fun e=>decide (e.m=m))=none)∧(2≤k→g.done.find? (fun e=>decide (e.m=m))=none)) (fun k=>2-k) 0 ⟨by omega,fun h=>by omega,fun h=>by omega⟩
   (Wk.same (by simp[af]) (by simp) (by simp)) fun k hk=>?_
  obtain⟨hk,k1,k2⟩:=hk;rcases k with _|_|_|k
  ·rcases dU g.ao m with⟨hp,bc⟩|⟨j,e,hp,he,bc,_⟩
   ·(refine TW.go ?_;simp[hp];repeat' first|intro hc|refine U.mk ?_|refine aI ?_|refine aa ?_ ?_|(refine cP ?_;refine⟨_,mY _ _,?_⟩;simp[hp]))
    exact⟨1,⟨by omega,fun _=>by simpa using bc,fun h=>by omega⟩,by omega,kS⟩
   ·rw[show bo g m=e by simp[bo,bC,bc],show di g m=true by simp[di,bC,bc]]
    (refine TW.go ?_;simp[hp,he,ak];repeat' first|intro hc|refine U.mk ?_|refine aI ?_|refine aa ?_ ?_|(refine cP ?_;refine⟨_,mY _ _,?_⟩;simp[hp,he,ak]))
    refine aE.nil (r:= .p [lO e,gB true]) ?_ rfl;simp[ak]
  ·have k1:=k1 (by omega)
   rcases dU g.done m with⟨hp,bc⟩|⟨j,e,hp,he,bc,_⟩
   ·(refine TW.go ?_;simp[hp];repeat' first|intro hc|refine U.mk ?_|refine aI ?_|refine aa ?_ ?_|(refine cP ?_;refine⟨_,mY _ _,?_⟩;simp[hp]))
    exact⟨2,⟨by omega,fun _=>by simpa using k1,fun _=>by simpa using bc⟩,by omega,Wk.same (by simp[show IntKind.i64.wrap 2=2 by decide]) (by simp) (by simp)⟩
   ·rw[show bo g m=e by simp[bo,bC,k1,bc],show di g m=true by simp[di,bC,k1,bc]]
    (refine TW.go ?_;simp[hp,he,ak];repeat' first|intro hc|refine U.mk ?_|refine aI ?_|refine aa ?_ ?_|(refine cP ?_;refine⟨_,mY _ _,?_⟩;simp[hp,he,ak]))
    refine aE.nil (r:= .p [lO e,gB true]) ?_ rfl;simp[ak]
  ·have k1:=k1 (by omega)
   have k2:=k2 (by omega)
   rw[show bo g m=an.zero by simp[bo,bC,k1,k2],show di g m=false by simp[di,bC,k1,k2]]
   (refine TW.go ?_;simp;repeat' first|intro hc|refine U.mk ?_|refine aI ?_|refine aa ?_ ?_)
   refine aE.nil (r:= .p [lO an.zero,gB false]) ?_ rfl;simp[ak,an.zero]
  ·omega
def gp (g:aq)(m:Int):List RT:=[rI (db g m).m,rI (db g m).t,rI (db g m).g,rB (db g m).f,rB (pS g m)]
theorem JO (gs:List aq)(x m:Int)(h:cz gs 4294967290)(h0:0≤x)(h1:x<gs.length):
  TC Tw.prog E 121 [gI .i64 x,.s (.ju [bO gs] 0),.s (.ju [rI m] 0)] 0 [] (.a ((gp (aB gs x.toNat) m).map .r)) []:=by
 have hG:=dt (gs:=gs) (i:=x.toNat) (by omega)
 have hle:=h.2 _ (List.mem_of_getElem? hG);generalize aB gs x.toNat=G at*;refine tE Tryz.f121 Tryz.ntmps121 (by rw[Tryz.results121]) ?_
 (refine TW.go ?_;simp[h0,hG,af,ak];repeat' first|intro hc|refine U.mk ?_|refine aI ?_|refine aa ?_ ?_|(refine cP ?_;refine⟨_,od G m hle,?_⟩;simp[h0,hG,af,ak]))
 refine aE.own [] [] (by simp;rfl) (by simp[gp,ak]) (by simp) (by simp) (by simp[gp,ak]) (by simp)
end Go.Proofs.YtjklkppncmhehaaGreat.T
namespace Go.Proofs.YtjklkppncmhehaaGreat.T
open Go Go.RowKit
set_option maxRecDepth 100000
set_option maxHeartbeats 4000000
variable {E:List PanicEntry→World→Prop}
theorem pT (g:aq)(h:eE g 4294967296):TC Tw.prog E 118 [.a ((af g).map .r)] 0 [] (xI g 0 1) (xK g):=by
 obtain⟨hp,hd⟩:=h;refine tE Tryz.f118 Tryz.ntmps118 (by rw[Tryz.results118]) ?_
 (refine TW.go ?_;simp[af,maxLen];repeat' first|intro hc|refine U.mk ?_|refine aI ?_|refine aa ?_ ?_|(refine cF [] 1 ?_;refine⟨_,_,iO _ hp,?_⟩;simp[af,maxLen])|(refine cF [] 1 ?_;refine⟨_,_,iO _ hd,?_⟩;simp[af,maxLen]))
 exact oW [2,3] []
theorem rX {a b c:an}(h:aV a b=true)(k:aV b c=true):aV a c=true:=by
 simp only[aV,aK,decide_eq_true_eq]at*;omega
theorem rA {id clock:Int}{es:List an}(h:gC id clock es=true):es.Pairwise (fun a b=>aV a b=true)∧∀e∈es,e.t≤clock∧aS e.t e.g=true∧(e.f=true∨e.g=id):=by
 rw[gC,b_]at h;have one:∀(i:Nat) (hi:i<es.length),(es[i].t≤clock∧aS es[i].t es[i].g=true∧(es[i].f=true∨es[i].g=id))∧∀(_:i≠0) (hj:i-1<es.length),aV es[i-1] es[i]=true:=by
  intro i hi;have:=h i hi
  rw[lD,List.getElem?_eq_getElem hi]at this;simp only[Bool.and_eq_true,Bool.or_eq_true,decide_eq_true_eq]at this;obtain⟨⟨⟨⟨⟨-,h1⟩,h2⟩,h3⟩, -⟩,h4⟩:=this;refine⟨⟨h2,h1,h4⟩,fun h0 hj=>?_⟩
  rcases h3 with h3|h3
  ·exact absurd h3 h0
  ·rw[List.getElem?_eq_getElem hj]at h3
   exact h3
 refine⟨?_,fun e he=>?_⟩
 ·rw[List.pairwise_iff_getElem]
  have:∀(d i:Nat) (hi:i<es.length) (hj:i+d+1<es.length),aV es[i] es[i+d+1]=true:=by
   intro d;induction d with
   |zero=>intro i hi hj;exact(one (i+1) hj).2 (by omega) hi
   |succ d ih=>
    intro i hi hj;exact rX (ih i hi (by omega)) ((one (i+(d+1)+1) hj).2 (by omega) (by omega))
  intro i j hi hj lp;obtain⟨d,rfl⟩:∃d,j=i+d+1:=⟨j-i-1,by omega⟩
  exact this d i hi hj
 ·obtain⟨i,hi,rfl⟩:=List.getElem_of_mem he
  exact(one i hi).1
theorem rY {g:aq}(h:aT g=true):bF g.id=true∧(0≤g.clock∧g.clock≤999)∧gC g.id g.clock g.ao=true∧gC g.id g.clock g.done=true∧∀e∈g.done,e.f=true:=by
 unfold aT at h;simp only[Bool.and_eq_true,decide_eq_true_eq]at h;obtain⟨⟨⟨⟨⟨h1,h2⟩,h3⟩,h4⟩,h5⟩, -⟩:=h;refine⟨h1,h2,h3,h4,fun e he=>?_⟩
 obtain⟨i,hi,rfl⟩:=List.getElem_of_mem he;rw[b_]at h5;have:=h5 i hi
 rw[jc,List.getElem?_eq_getElem hi]at this;simp only[Bool.and_eq_true]at this;exact this.1
theorem Qr {g:aq}(h:aT g=true)(m:Int):rk (g.ao++[⟨m,g.clock+1,g.id,false⟩])=g.ao++[⟨m,g.clock+1,g.id,false⟩]:=by
 obtain⟨-, -,h3, -, -⟩:=rY h;obtain⟨h1,h2⟩:=rA h3;refine CP (.refl _) (List.pairwise_append.2 ⟨h1,List.pairwise_singleton ..,fun a ha b hb=>?_⟩)
 obtain rfl:=List.mem_singleton.1 hb
 have:=(h2 a ha).1
 simp only[aV,aK,decide_eq_true_eq];omega
theorem yn (g:aq)(m:Int)(h:eE g 4294967280)(hv:aT g=true)(hm:bm m=true):TC Tw.prog E 67 [.a ((af g).map .r),gI .i64 m] 0 [] (CJ (au g m)) (xK (au g m).1):=by
 have hV:=iR (E:=E) g ⟨by have:=h.1;omega,by have:=h.2;omega⟩
 rw[nd,hv]at hV;have hM:=jM (E:=E) m;rw[hm]at hM;have hC:=pT (E:=E) g ⟨by have:=h.1;omega,by have:=h.2;omega⟩
 have hS:=od (E:=E) g m ⟨by have:=h.1;omega,by have:=h.2;omega⟩
 obtain⟨-,⟨XB,lT⟩, -, -,YH⟩:=rY hv;have XR:=Qr hv m;have hR:=CM (E:=E) (g.ao++[⟨m,g.clock+1,g.id,false⟩]) (by have:=h.1;simp;omega)
 rw[XR]at hR;simp only[cd,bW,List.map_append,List.map_cons,List.map_nil,ak]at hR;simp only[pS,db,hv,Bool.true_and,if_true]at hS;have nX:=h.1;have hw:IntKind.i64.wrap (g.clock+1)=g.clock+1:=aG (by omega) (by omega)
 refine tE Tryz.f67 Tryz.ntmps67 (by rw[Tryz.results67]) ?_
 rcases hp:g.ao.find? (fun e=>decide (e.m=m))with _|e
 ·rcases hd:g.done.find? (fun e=>decide (e.m=m))with _|e
  ·have e1:di g m=false:=by simp[di,bC,hp,hd]
   rw[e1]at hS;by_cases hk:999≤g.clock
   ·have hP:au g m=(g,(0,0),false):=by
     unfold au;rw[hp,hd];exact if_pos hk
    have cc:(g.clock=999)=True:=eq_true (by omega)
    rw[hP];(refine TW.go ?_;simp[af,ak,cc];repeat' first|intro hc|refine U.mk ?_|refine aI ?_|refine aa ?_ ?_|(refine cP ?_;(first|refine⟨_,hV,?_⟩|refine⟨_,hM,?_⟩|refine⟨_,hS,?_⟩);simp[af,ak,cc])|(refine cF [] 2 ?_;refine⟨_,_,hC,?_⟩;simp[af,ak,cc]))
    exact oW [3,4] []
   ·have hP:au g m=(⟨g.id,g.clock+1,g.ao++[⟨m,g.clock+1,g.id,false⟩],g.done⟩,(g.clock+1,g.id),true):=by
     unfold au;rw[hp,hd];exact if_neg hk
    have cc:¬g.clock=999:=by omega
    rw[hP];(refine TW.go ?_;simp[af,cc,hw,ak,maxLen];repeat' first|intro hc|refine U.mk ?_|refine aI ?_|refine aa ?_ ?_|(refine cP ?_;(first|refine⟨_,hV,?_⟩|refine⟨_,hM,?_⟩|refine⟨_,hS,?_⟩);simp[af,cc,hw,ak,maxLen])|(refine cF [] 2 ?_;refine⟨_,_,hC,?_⟩;simp[af,cc,hw,ak,maxLen])|(refine cF [9] 1 ?_;refine⟨_,_,hR,?_⟩;simp[af,cc,hw,ak,maxLen]))
    refine aE.own [10,4] [] (by simp;rfl) (by simp[ak]) (by simp) (by simp) (by simp[ak]) (by simp)
  ·have e1:di g m=true:=by simp[di,bC,hp,hd]
   have e2:bo g m=e:=by simp[bo,bC,hp,hd]
   have hf:=YH e (List.mem_of_find?_eq_some hd);have hP:au g m=(g,(0,0),false):=by
    unfold au;rw[hp,hd]
   rw[e1,e2]at hS;rw[hP];(refine TW.go ?_;simp[af,ak,hf];repeat' first|intro hc|refine U.mk ?_|refine aI ?_|refine aa ?_ ?_|(refine cP ?_;(first|refine⟨_,hV,?_⟩|refine⟨_,hM,?_⟩|refine⟨_,hS,?_⟩);simp[af,ak,hf])|(refine cF [] 2 ?_;refine⟨_,_,hC,?_⟩;simp[af,ak,hf]))
   exact oW [3,4] []
 ·have e1:di g m=true:=by simp[di,bC,hp]
  have e2:bo g m=e:=by simp[bo,bC,hp]
  rw[e1,e2]at hS
  cases hf:e.f
  ·have hP:au g m=(g,(e.t,e.g),true):=by
    unfold au;rw[hp];exact if_neg (by simp[hf])
   rw[hP];(refine TW.go ?_;simp[af,ak,hf];repeat' first|intro hc|refine U.mk ?_|refine aI ?_|refine aa ?_ ?_|(refine cP ?_;(first|refine⟨_,hV,?_⟩|refine⟨_,hM,?_⟩|refine⟨_,hS,?_⟩);simp[af,ak,hf])|(refine cF [] 2 ?_;refine⟨_,_,hC,?_⟩;simp[af,ak,hf]))
   exact oW [3,4] []
  ·have hP:au g m=(g,(0,0),false):=by
    unfold au;rw[hp];exact if_pos hf
   rw[hP];(refine TW.go ?_;simp[af,ak,hf];repeat' first|intro hc|refine U.mk ?_|refine aI ?_|refine aa ?_ ?_|(refine cP ?_;(first|refine⟨_,hV,?_⟩|refine⟨_,hM,?_⟩|refine⟨_,hS,?_⟩);simp[af,ak,hf])|(refine cF [] 2 ?_;refine⟨_,_,hC,?_⟩;simp[af,ak,hf]))
   exact oW [3,4] []
end Go.Proofs.YtjklkppncmhehaaGreat.T
namespace Go.Proofs.YtjklkppncmhehaaGreat.T
open Go Go.RowKit
theorem wK (m t s:Int):∀{rest:List an},rest.Pairwise (fun a b=>aV a b=true)→(∀x∈rest,¬(x.t=t∧x.g=s))→(rest.take (dW rest t s)++[(⟨m,t,s,true⟩:an)]++rest.drop (dW rest t s)).Pairwise fun a b=>aV a b=true
 |[],_,_=>by simp[dW]
 |x::l,hp,hn=>by
  rw[List.pairwise_cons]at hp;by_cases hx:aK x.t x.g t s=true
  ·have qk:dW (x::l) t s=dW l t s+1:=by
    unfold dW;rw[List.takeWhile_cons,if_pos hx,List.length_cons]
   rw[qk,List.take_succ_cons,List.drop_succ_cons];refine List.pairwise_cons.2 ⟨fun y hy=>?_,wK m t s hp.2 fun y hy=>hn y (by simp[hy])⟩
   rcases List.mem_append.1 hy with hy|hy
   ·rcases List.mem_append.1 hy with hy|hy
    ·exact hp.1 y (List.mem_of_mem_take hy)
    ·obtain rfl:=List.mem_singleton.1 hy
     exact hx
   ·exact hp.1 y (List.mem_of_mem_drop hy)
  ·have qk:dW (x::l) t s=0:=by
    unfold dW;rw[List.takeWhile_cons,if_neg hx,List.length_nil]
   have ai:aV ⟨m,t,s,true⟩ x=true:=by
    have:=hn x (by simp)
    simp only[aV,aK,decide_eq_true_eq]at*;omega
   rw[qk];refine List.pairwise_cons.2 ⟨fun y hy=>?_,List.pairwise_cons.2 hp⟩
   rcases List.mem_cons.1 hy with rfl|hy
   ·exact ai
   ·exact rX ai (hp.1 y hy)
theorem wL (t s:Int):∀{rest:List an},rest.Pairwise (fun a b=>aV a b=true)→(je rest (dW rest t s) t s=true↔∃x∈rest,x.t=t∧x.g=s)
 |[],_=>by simp[dW,je]
 |x::l,hp=>by
  rw[List.pairwise_cons]at hp;by_cases hx:aK x.t x.g t s=true
  ·have qk:dW (x::l) t s=dW l t s+1:=by
    unfold dW;rw[List.takeWhile_cons,if_pos hx,List.length_cons]
   have kq:je (x::l) (dW l t s+1) t s=je l (dW l t s) t s:=rfl
   rw[qk,kq,wL t s hp.2];constructor
   ·rintro⟨y,hy,h⟩;exact⟨y,by simp[hy],h⟩
   ·rintro⟨y,hy,h⟩
    rcases List.mem_cons.1 hy with rfl|hy
    ·simp only[aK,decide_eq_true_eq]at hx;omega
    ·exact⟨y,hy,h⟩
  ·have qk:dW (x::l) t s=0:=by
    unfold dW;rw[List.takeWhile_cons,if_neg hx,List.length_nil]
   have kq:je (x::l) 0 t s=(decide (x.t=t)&&decide (x.g=s)):=rfl
   rw[qk,kq];simp only[Bool.and_eq_true,decide_eq_true_eq];constructor
   ·intro h;exact⟨x,by simp,h⟩
   ·rintro⟨y,hy,h⟩
    rcases List.mem_cons.1 hy with rfl|hy
    ·exact h
    ·have:=hp.1 y hy
     simp only[aV,aK,decide_eq_true_eq]at*;omega
theorem Qs {ao:List an}(hp:ao.Pairwise fun a b=>aV a b=true){j:Nat}(hj:j<ao.length)(m t s:Int)(hn:∀x∈ao.eraseIdx j,¬(x.t=t∧x.g=s)):rk (ao.set j ⟨m,t,s,true⟩)=ep (ao.eraseIdx j) m t s:=by
 refine CP ?_ (wK m t s (hp.sublist (List.eraseIdx_sublist ..)) hn);have h1:(ao.set j ⟨m,t,s,true⟩).Perm (⟨m,t,s,true⟩::ao.eraseIdx j):=by
  rw[List.set_eq_take_append_cons_drop,if_pos hj,List.eraseIdx_eq_take_drop_succ];exact List.perm_middle
 refine List.Perm.trans ?_ h1.symm;unfold ep;rw[List.append_assoc,List.singleton_append];refine List.perm_middle.trans ?_;rw[List.take_append_drop]
theorem AE {es:List an}{j:Nat}{x:an}:x∈es.eraseIdx j↔∃i,i≠j∧es[i]?=some x:=List.mem_eraseIdx_iff_getElem?
end Go.Proofs.YtjklkppncmhehaaGreat.T
