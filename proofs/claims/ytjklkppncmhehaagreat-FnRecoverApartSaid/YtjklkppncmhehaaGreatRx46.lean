/-
What is proved: what impl.entriesOf does to trees, over the second program: it leaves the answers, or escapes. No condition but the ranges that it states. what the program's check of a system does to trees, over the second program: it answers as the reference's, or escapes. No condition but the lengths that each states. the program's check of a system answers as the reference's, or escapes; what laws.FnSystemFinal does to trees: it returns true, or escapes. No condition but the lengths that each states. the program's check of a set of groups is the reference's. No condition. what the program's recovery of a stamp does to trees: what the reference's does. No condition but the lengths that each states. the law of a recovered stamp, over trees: it answers true, or escapes. No condition but that the code is bytes. what a recovery does to the groups of a valid system, as plain lists. No condition but those that the theorems state.
-/
import Derived.Test.YtjklkppncmhehaaGreatRx38
import Derived.Test.YtjklkppncmhehaaGreatRx45
import Derived.Test.YtjklkppncmhehaaGreatRx44
import Derived.Test.YtjklkppncmhehaaGreatRx35
import Derived.Test.YtjklkppncmhehaaGreatRx39
set_option linter.unusedVariables false
set_option linter.unusedSimpArgs false
namespace Go.Proofs.YtjklkppncmhehaaGreat.T
open Go Go.RowKit
def cf (ch:List PanicEntry)(w:World):Prop:=Sr.Xt (.panicked ch) w
inductive ud:RT→Prop
 |v (x:Value):ud (.v x)
 |nil:ud .nil
 |sl {k:Nat} {xs:List (List RT)} (h0:0<k) (h:∀(i:Nat) (e:List RT),xs[i]?=some e→∀(j:Nat) (r:RT),e[j]?=some r→ud r):ud (.sl k xs)
theorem cH.aam {w u:World}{D:Nat→Prop}(hc:∀q:Addr,D q.block→u.cell? q=w.cell? q){v:Value}{t:RT}(h:cH w D v t):ud t→cH u (fun b=>b<u.heap.size) v t:=by
 induction h with
 |v h=>exact fun _=> .v h
 |nil=>exact fun _=> .nil
 |BJ hm=>exact fun _=> .BJ hm
 | @sl b o c k xs vs cY hm mM cc hv _ ih=>
   intro hs
   cases hs with
   |sl h0 hs=>
   rcases xs with _|⟨e,xs⟩
   ·exact .BJ hm
   ·have hk0:=cc 0 e rfl
    obtain⟨r,hr⟩:∃r,e[0]?=some r:=⟨_,List.getElem?_eq_getElem (by omega)⟩
    refine .sl vs cY hm ?_ cc (fun i e he j r hr=>(hc _ mM).trans (hv i e he j r hr)) fun i e he j r hr=>ih i e he j r hr (hs i e he j r hr)
    exact World.block_lt_of_cell? u _ ((hc _ mM).trans (hv 0 e rfl 0 r hr))
theorem MO (gs:List aq):ud (bO gs):=by
 refine .sl (by omega) fun i e he j r hr=>?_
 rw[List.getElem?_map,Option.map_eq_some_iff]at he;obtain⟨g,_,rfl⟩:=he;have hE:∀es:List an,ud (cd es):=fun es=>by
  refine .sl (by omega) fun i e he j r hr=>?_
  rw[List.getElem?_map,Option.map_eq_some_iff]at he;obtain⟨x,_,rfl⟩:=he;rcases j with _|_|_|_|j<;>simp[ak]at hr<;>subst hr<;>exact .v _
 rcases j with _|_|_|_|j<;>simp[af]at hr<;>subst hr
 ·exact .v _
 ·exact .v _
 ·exact hE _
 ·exact hE _
theorem yF {w:World}{D:Nat→Prop}{v:Value}{n:Int}(h:cH w D v (rI n)):v= .int .i64 n:=by cases h;rfl
theorem NJ {w:World}{D:Nat→Prop}{v:Value}{b:Bool}(h:cH w D v (rB b)):v= .bool b:=by cases h;rfl
def Wh (g:aq)(m:Int):Sr.eQ:=⟨(db g m).m,(db g m).t,(db g m).g,(db g m).f,pS g m⟩
theorem QC {ρ:Nat→Option Value}{w:World}{D:Nat→Prop}{v:Value}{g:aq}{m:Int}(h:bf ρ w D v (.a ((gp g m).map .r))):v=(Wh g m).val:=by
 cases h with
 | @a arr _ hn h=>
   have hl:arr.size=5:=by simpa[gp]using hn
   have r:∀(i:Nat) (t:RT),(gp g m)[i]?=some t→cH w D (arr.getD i undef) t:=fun i t ht=>by
    have:=h i (.r t) (by rw[List.getElem?_map,ht];rfl)
    generalize arr.getD i undef=z at this
    cases this with|r h=>exact h
   have h0:=yF (r 0 _ rfl);have h1:=yF (r 1 _ rfl);have h2:=yF (r 2 _ rfl);have h3:=NJ (r 3 _ rfl);have h4:=NJ (r 4 _ rfl);show Value.agg arr= .agg #[.int .i64 (db g m).m,.int .i64 (db g m).t,.int .i64 (db g m).g,.bool (db g m).f,.bool (pS g m)]
   congr 1
   rcases arr with⟨l⟩;rcases l with _|⟨x0,_|⟨x1,_|⟨x2,_|⟨x3,_|⟨x4,_|⟨x5,l⟩⟩⟩⟩⟩⟩<;>simp at hl
   simp at h0 h1 h2 h3 h4
   subst h0 h1 h2 h3 h4;rfl
abbrev gr (gs:List aq) (m:Int) (set:List Int):List (List RT):=set.map fun x=>gp (aB gs x.toNat) m
set_option maxRecDepth 100000 in
theorem pX (gs:List aq)(set:List Int)(m:Int)(h:cz gs 4294967290)(hg:gs.length=5)(hn:set≠[])(h5:set.length≤5)(hr:cu set):
  TC Tw.prog cf 69 [gR (bO gs),gR (bg set),gI .i64 m] 0 [] (.s (.own 0)) [(0,.rows 107 5 (gr gs m set))]:=by
 refine⟨Mk.of Tw.yH rfl (by kernel_rfl),fun w bN ρ D hv ha hD _ _ _=>?_⟩
 have r0:=ha 0 _ rfl;have r1:=ha 1 _ rfl;have r2:=ha 2 _ rfl;rcases bN with⟨l⟩;rcases l with _|⟨x0,_|⟨x1,_|⟨x2,_|⟨x3,l⟩⟩⟩⟩<;>simp at hv
 simp only[Array.getD_eq_getD_getElem?,List.getElem?_toArray,List.getElem?_cons_zero,List.getElem?_cons_succ,Option.getD_some]at r0 r1 r2;have r2:=uT r2;subst r2
 cases r0 with|s r0=>cases r0 with|r r0=>
 cases r1 with|s r1=>cases r1 with|r r1=>
 obtain⟨A,gc,rfl,g1,g2,aan,gD⟩:=r0.slice;obtain⟨A',sc,rfl,s1,s2,Wi,sD⟩:=r1.slice;have cX:0<set.length:=List.length_pos_iff.2 hn
 obtain⟨-,gb,go,rfl, -⟩:=aan 0 (af (aB gs 0)) (by rw[List.getElem?_map,dt (by omega)];rfl)
 obtain⟨-,sb,so,rfl, -⟩:=Wi 0 [rI set[0]] (by rw[List.getElem?_map,List.getElem?_eq_getElem cX];rfl)
 have cE:∀i,i<set.length→w.cell? ⟨sb,so+i,none⟩=some (.int .i64 (set.getD i 0)):=fun i hi=>by
  obtain⟨-,b,o,e,hh⟩:=Wi i [rI (set.getD i 0)] (by rw[List.getElem?_map,List.getElem?_eq_getElem hi,List.getD_eq_getElem?_getD,List.getElem?_eq_getElem hi];rfl)
  cases e;obtain⟨v,hv,hr⟩:=hh 0 _ rfl;rw[yF hr]at hv;simpa using hv
 have fY:∀i,i<set.length→0≤set.getD i 0∧set.getD i 0<gs.length:=fun i hi=>by
  rw[List.getD_eq_getElem?_getD,List.getElem?_eq_getElem hi];have:=hr _ (List.getElem_mem hi)
  exact⟨this.1,by rw[hg];exact this.2⟩
 have Sv:AQ ⟨gb,go,none⟩ gs.length gc sb so set.length m (fun i=>set.getD i 0) (fun i=>Wh (aB gs (set.getD i 0).toNat) m) w:=by
  refine⟨cX,h5,cE,fun i hi u pb mb hu hp hm=>?_⟩
  have hT:=(JO (E:=fun _ _=>False) gs (set.getD i 0) m h (fY i hi).1 (fY i hi).2).2
  have nX:pb<u.heap.size:=World.block_lt_of_cell? u _ hp
  have hml:mb<u.heap.size:=World.block_lt_of_cell? u _ hm
  have aao:cH u (fun b=>b<u.heap.size) (.slice (some ⟨gb,go,none⟩) gs.length gc) (bO gs):=cH.aam (fun q hq=>hu q (hD _ hq)) (by simpa using r0) (MO gs)
  refine(hT u #[.int .i64 (set.getD i 0),.pointer (some ⟨pb,0,none⟩),.pointer (some ⟨mb,0,none⟩)] (fun _=>none) (fun b=>b<u.heap.size) rfl (fun j g hj=>?_) (fun k hk=>hk) (fun b y h=>by cases h) (fun b y g h=>by cases h) (fun b y b' y' g h=>by cases h)).mono ?_
  ·rcases j with _|_|_|j
   ·cases hj;exact .s (.r (.v rfl))
   ·cases hj
    refine .s (.ju (o:=0) (off:=0) (fun _=> .slice (some ⟨gb,go,none⟩) gs.length gc) nX (fun j r hj=>?_) fun j r hj=>?_)
    ·rcases j with _|j
     ·exact hp
     ·simp at hj
    ·rcases j with _|j
     ·cases hj;exact aao
     ·simp at hj
   ·cases hj
    refine .s (.ju (o:=0) (off:=0) (fun _=> .int .i64 m) hml (fun j r hj=>?_) fun j r hj=>?_)
    ·rcases j with _|j
     ·exact hm
     ·simp at hj
    ·rcases j with _|j
     ·cases hj;exact .v rfl
     ·simp at hj
   ·simp at hj
  ·rintro e w' (⟨ch,_,hE⟩|⟨v,ρ',D',rfl,hv,hP⟩)
   ·exact hE.elim
   ·refine⟨by rw[QC hv],hP.os,hP.tape,hP.output,hP.size,fun k hk=>hP.old k hk fun⟨b,y,h,_⟩=>by cases h⟩
 simp only[List.length_map];refine(TI ⟨gb,go,none⟩ gs.length gc sb so set.length sc m _ _ w Sv).mono ?_;rintro e w' (⟨⟨B,rfl,hB,⟨cs,nT,kU,cv⟩, -, -⟩,hb⟩|hE)
 ·right
  have ai:B<w'.heap.size:=(Array.getElem?_eq_some_iff.1 nT).1
  refine⟨_,fun b=>if b=0 then some (.slice (some ⟨B,0,none⟩) set.length set.length)else none,D,rfl,.s (.own rfl),⟨hb.os,hb.tape,hb.output,hb.size,fun k hk _=>hb.block k hk,fun k hk=>⟨Nat.lt_of_lt_of_le (hD k hk) hb.size,.inl hk⟩,fun b y hy=>?_,fun b y g hy hl hg=>?_,fun b y b' y' g hy hl dP aY _ _=>?_,fun b hb=>by omega,fun b _ hn=>?_⟩⟩
  ·simp only[gt]at hy
   split at hy
   ·rename_i e0
    cases hy;subst e0;refine⟨some ⟨B,0,none⟩,set.length,by simp,by simp,by simp only[maxLen];omega,by omega,fun i y hy=>?_,.inr ⟨B,cs,rfl,nT,by rw[kU,Nat.mul_comm],fun i y hy j r hr=>?_⟩⟩
    ·rw[List.getElem?_map,Option.map_eq_some_iff]at hy
     obtain⟨x,_,rfl⟩:=hy;rfl
    ·rw[List.getElem?_map,Option.map_eq_some_iff]at hy
     obtain⟨x,hx,rfl⟩:=hy;have hi:=(List.getElem?_eq_some_iff.1 hx).1;have hj:j<5:=(List.getElem?_eq_some_iff.1 hr).1
     have hc:=cv i j hi hj;have jw:set.getD i 0=x:=by rw[List.getD_eq_getElem?_getD,hx];rfl
     simp only[jw]at hc;rw[Array.getD_eq_getD_getElem?,show i*5+j=5*i+j by omega,hc]
     rcases j with _|_|_|_|_|j
     ·cases hr;exact .v rfl
     ·cases hr;exact .v rfl
     ·cases hr;exact .v rfl
     ·cases hr;exact .v rfl
     ·cases hr;exact .v rfl
     ·omega
   ·cases hy
  ·simp only[gt]at hy
   split at hy
   ·rename_i e0
    subst e0;simp only[if_true,bI,Option.some.injEq]at hg;subst hg;exact⟨fun hd=>by have:=hD _ hd;omega,.inr hB⟩
   ·cases hy
  ·simp only[gt]at hy dP
   split at hy
   ·split at dP
    ·omega
    ·cases dP
   ·cases hy
  ·simp only[gt]at hn
   split at hn
   ·cases hn
   ·rename_i e0;rw[if_neg e0]
 ·left
  obtain⟨us,rfl,vT⟩:=hE;exact⟨_,rfl,us,rfl,vT⟩
end Go.Proofs.YtjklkppncmhehaaGreat.T
namespace Go.Proofs.YtjklkppncmhehaaGreat.T
open Go Go.RowKit
set_option maxRecDepth 100000
set_option maxHeartbeats 4000000
variable {E:List PanicEntry→World→Prop}
def upto (k:Nat):List Int:=(List.range k).map fun(i:Nat)=>(i:Int)
theorem MQ (k:Nat):upto (k+1)=upto k++[(k:Int)]:=by simp[upto,List.range_succ]
theorem QD (k:Nat):(upto k).length=k:=by simp[upto]
theorem B0:TC Tw.prog E 116 [.hU (.func 55) [] []] 0 [] (gR (bg (upto 5))) []:=by
 refine tE Tryz.f116 Tryz.ntmps116 (by rw[Tryz.results116]) ?_
 (refine TW.go ?_;simp;repeat' first|intro hc|refine U.mk ?_|refine aI ?_|refine aa ?_ ?_)
 refine tL (fun(k:Nat)=>⟨[(0,.hU (.func 55) [] []),(3,.s (.own 0)),(6,gI .i64 (k:Nat))],[(0,jf (upto k))],1⟩) (fun k=>k≤5) (fun k=>5-k) 0 (by omega)
  (Wk.own [0] [] (by simp) (by simp) (by simp[upto]) (by simp) (by simp)) fun k hk=>?_
 by_cases ai:k<5
 ·have ar:(k:Int)<5:=by omega
  have hg:bF (k:Int)=true:=by simp[bF];omega
  have aD:IntKind.i64.wrap ((k:Int)+1)=(k:Int)+1:=aG (by omega) (by omega)
  have hl:=QD k;(refine TW.go ?_;simp[ar,hg,aD,maxLen];repeat' first|intro hc|refine U.mk ?_|refine aI ?_|refine aa ?_ ?_|(refine cP ?_;refine⟨_,pM _,?_⟩;simp[ar,hg,aD,maxLen]))
  exact⟨k+1,by omega,by omega,Wk.own [2] [] (by simp) (by simp) (by simp[MQ]) (by simp) (by simp)⟩
 ·obtain rfl:k=5:=by omega
  (refine TW.go ?_;simp;repeat' first|intro hc|refine U.mk ?_|refine aI ?_|refine aa ?_ ?_)
  exact oW [] [0]
theorem FC:TC Tw.prog E 168 [] 0 [] (gR (bg (upto 5))) []:=by
 refine tE Tryz.f168 Tryz.ntmps168 (by rw[Tryz.results168]) ?_
 (refine TW.go ?_;simp;repeat' first|intro hc|refine U.mk ?_|refine aI ?_|refine aa ?_ ?_|(refine cP ?_;refine⟨_,B0,?_⟩;simp))
 exact oW [] []
def J1 (a b:aq)(m:Int):Bool:=
 !(pS a m&&(db a m).f)|| !(pS b m&&(aK (db a m).t (db a m).g (db b m).t (db b m).g||(db b m).f&& !(decide ((db a m).t=(db b m).t)&&decide ((db a m).g=(db b m).g))))
def J5 (gs:List aq)(m:Int)(i:Nat):Bool:=cm 5 fun k=>J1 (aB gs i) (aB gs k) m
def rD (gs:List aq)(m:Int):Bool:=cm 5 (J5 gs m)
theorem TL (gs:List aq)(m:Int){k:Nat}(h:k<5):(gr gs m (upto 5))[k]?=some (gp (aB gs k) m):=by
 rw[List.getElem?_map,upto,List.getElem?_map,List.getElem?_range h];rfl
theorem B3 (gs:List aq)(m:Int)(h:cz gs 4294967290)(h5:gs.length=5):TC Tw.prog cf 139 [gR (bO gs),gI .i64 m] 0 [] (gB (rD gs m)) []:=by
 have hE:=pX gs (upto 5) m h h5 (by decide) (by decide) (fun g hg=>by simp[upto,List.range_succ]at hg;omega)
 have vA:(gr gs m (upto 5)).length=5:=by simp[upto]
 have dQ:=fun k h=>TL gs m (k:=k) h
 generalize gr gs m (upto 5)=A at*;refine tE Tryz.f139 Tryz.ntmps139 (by rw[Tryz.results139]) ?_
 (refine TW.go ?_;simp[vA];repeat' first|intro hc|refine U.mk ?_|refine aI ?_|refine aa ?_ ?_|(refine cP ?_;refine⟨_,FC,?_⟩;simp[vA])|(refine cF [] 1 ?_;refine⟨_,_,hE,?_⟩;simp[vA]))
 refine tL (fun(i:Nat)=>⟨[(5,gR (.sl 5 A)),(14,gR (.sl 5 A)),(15,gI .i64 5),(16,gI .i64 (i:Nat))],[],0⟩) (fun i=>i≤5∧∀j,j<i→J5 gs m j=true) (fun i=>5-i) 0 ⟨by omega,fun j hj=>by omega⟩
  (kO [] [0]) fun i hi=>?_
 obtain⟨hi,hf⟩:=hi;by_cases ai:i<5
 ·have ar:(i:Int)<5:=by omega
  have aD:IntKind.i64.wrap ((i:Int)+1)=(i:Int)+1:=aG (by omega) (by omega)
  have qp:=dQ i ai;have hq:rD gs m=false∨J5 gs m i=true:=by
   cases h:J5 gs m i
   ·exact .inl (by simp[rD,cB ai h])
   ·exact .inr rfl
  by_cases lQ:(pS (aB gs i) m&&(db (aB gs i) m).f)=true
  ·simp only[Bool.and_eq_true]at lQ
   obtain⟨f1,f2⟩:=lQ;(refine TW.go ?_;simp[ar,qp,f1,f2,gp,aD,vA];repeat' first|intro hc|refine U.mk ?_|refine aI ?_|refine aa ?_ ?_)
   refine tL (fun(k:Nat)=>⟨[(5,gR (.sl 5 A)),(7,.s (.ptr 0 0)),(14,gR (.sl 5 A)),(15,gI .i64 5),(16,gI .i64 (i:Nat)),(29,gR (.sl 5 A)),(30,gI .i64 5),(31,gI .i64 (k:Nat))],[(0,.box ((gp (aB gs i) m).map .r))],1⟩) (fun k=>k≤5∧∀j,j<k→J1 (aB gs i) (aB gs j) m=true) (fun k=>5-k) 0 ⟨by omega,fun j hj=>by omega⟩
    (Wk.own [0] [] (by simp) (by simp) (by simp[gp,f1,f2]) (by simp) (by simp)) fun k hk=>?_
   obtain⟨hk,l_⟩:=hk;by_cases sY:k<5
   ·have Wj:(k:Int)<5:=by omega
    have IV:IntKind.i64.wrap ((k:Int)+1)=(k:Int)+1:=aG (by omega) (by omega)
    have Kt:=dQ k sY;have Qk:rD gs m=false∨J1 (aB gs i) (aB gs k) m=true:=by
     rcases hq with h|h
     ·exact .inl h
     ·exact .inr (by rw[J5,b_]at h;exact h k sY)
    have wJ:J1 (aB gs i) (aB gs k) m= !(pS (aB gs k) m&&(aK (db (aB gs i) m).t (db (aB gs i) m).g (db (aB gs k) m).t (db (aB gs k) m).g||(db (aB gs k) m).f&& !(decide ((db (aB gs i) m).t=(db (aB gs k) m).t)&&decide ((db (aB gs i) m).g=(db (aB gs k) m).g)))):=by rw[J1,f1,f2];rfl
    (refine TW.go ?_;simp[Wj,Kt,f1,f2,gp,IV,vA];repeat' first|intro hc|refine U.mk ?_|refine aI ?_|refine aa ?_ ?_|(refine cP ?_;refine⟨_,iT _ _ _ _,?_⟩;simp[Wj,Kt,f1,f2,gp,IV,vA]))
    all_goals first
     |(refine⟨k+1,⟨by omega,fun j hj=>?_⟩,by omega,Wk.own [0] [] (by simp) (by simp) (by simp[gp,f1,f2]) (by simp) (by simp)⟩
       by_cases e:j=k
       ·subst e;rw[wJ];simp_all
       ·exact l_ j (by omega))
     |(refine aE.nil (r:=gB (rD gs m)) ?_ rfl
       rcases Qk with Qk|Qk
       ·simp[Qk]
       ·exfalso
        rw[wJ]at Qk;clear l_ hf dQ;first|(simp_all;done)|(simp_all;omega))
   ·obtain rfl:k=5:=by omega
    have fX:J5 gs m i=true:=bT l_
    clear l_;(refine TW.go ?_;simp[aD];repeat' first|intro hc|refine U.mk ?_|refine aI ?_|refine aa ?_ ?_)
    refine⟨i+1,⟨by omega,fun j hj=>?_⟩,by omega,kS⟩
    by_cases e:j=i
    ·subst e;exact fX
    ·exact hf j (by omega)
  ·have fX:J5 gs m i=true:=bT fun k _=>by rw[J1,Bool.eq_false_iff.2 lQ];rfl
   have Yg:(pS (aB gs i) m&&(db (aB gs i) m).f)=false:=Bool.eq_false_iff.2 lQ
   cases f1:pS (aB gs i) m
   ·(refine TW.go ?_;simp[ar,qp,f1,gp,aD,vA];repeat' first|intro hc|refine U.mk ?_|refine aI ?_|refine aa ?_ ?_)
    refine⟨i+1,⟨by omega,fun j hj=>?_⟩,by omega,kS⟩
    by_cases e:j=i
    ·subst e;exact fX
    ·exact hf j (by omega)
   ·have f2:(db (aB gs i) m).f=false:=by simpa[f1]using Yg
    (refine TW.go ?_;simp[ar,qp,f1,f2,gp,aD,vA];repeat' first|intro hc|refine U.mk ?_|refine aI ?_|refine aa ?_ ?_)
    refine⟨i+1,⟨by omega,fun j hj=>?_⟩,by omega,kS⟩
    by_cases e:j=i
    ·subst e;exact fX
    ·exact hf j (by omega)
 ·obtain rfl:i=5:=by omega
  have dO:rD gs m=true:=bT hf
  rw[dO];(refine TW.go ?_;simp;repeat' first|intro hc|refine U.mk ?_|refine aI ?_|refine aa ?_ ?_)
  exact oW [] []
end Go.Proofs.YtjklkppncmhehaaGreat.T
namespace Go.Proofs.YtjklkppncmhehaaGreat.T
open Go Go.RowKit
set_option maxRecDepth 100000
set_option maxHeartbeats 4000000
variable {E:List PanicEntry→World→Prop}
theorem TM {t g t' g':Int}(h:aK t g t' g'=true):(decide (t=t')&&decide (g=g'))=false:=by
 simp only[aK,decide_eq_true_eq]at h;simp only[Bool.and_eq_false_iff,decide_eq_false_iff_not];omega
theorem VL {a b:aq}(ha:aT a=true)(hb:aT b=true)(m:Int):J1 a b m=lE a b m:=by
 unfold J1 lE pS db;rw[ha,hb];simp only[Bool.true_and,if_true];have aap:(decide ((bo b m).t=(bo a m).t)&&decide ((bo b m).g=(bo a m).g))=(decide ((bo a m).t=(bo b m).t)&&decide ((bo a m).g=(bo b m).g)):=by
  rw[Bool.eq_iff_iff];simp only[Bool.and_eq_true,decide_eq_true_eq];exact⟨fun h=>⟨h.1.symm,h.2.symm⟩,fun h=>⟨h.1.symm,h.2.symm⟩⟩
 rw[aap]
 cases hl:aK (bo a m).t (bo a m).g (bo b m).t (bo b m).g
 ·cases(bo b m).f<;>simp
 ·rw[TM hl]
  cases(bo b m).f<;>simp
theorem QE {gs:List aq}(h5:gs.length=5)(h:cm gs.length (tW gs)=true)(m:Nat):rD gs m=rj gs m:=by
 have hv:∀i,i<5→aT (aB gs i)=true:=fun i hi=>by
  rw[b_]at h;have:=h i (by omega)
  simp only[tW,Bool.and_eq_true]at this;exact this.1
 rw[Bool.eq_iff_iff,rD,rj,h5,b_,b_];refine forall_congr' fun i=>forall_congr' fun hi=>?_;rw[J5,vm,h5,b_,b_];refine forall_congr' fun k=>forall_congr' fun hk=>?_;rw[VL (hv i hi) (hv k hk)]
theorem AS (gs:List aq)(h:cz gs 4294967290):TC Tw.prog cf 90 [gR (bO gs)] 0 [] (gB (du gs)) []:=by
 have hlen:gs.length≤maxLen:=by have:=h.1;simp only[maxLen];omega
 refine tE Tryz.f90 Tryz.ntmps90 (by rw[Tryz.results90]) ?_
 by_cases h5:gs.length=5
 ·(refine TW.go ?_;simp[h5];repeat' first|intro hc|refine U.mk ?_|refine aI ?_|refine aa ?_ ?_)
  refine tL (fun(k:Nat)=>⟨[(0,gR (bO gs)),(9,gR (bO gs)),(10,gI .i64 5),(11,gI .i64 (k:Nat))],[],0⟩) (fun k=>k≤5∧∀i,i<k→tW gs i=true) (fun k=>5-k) 0 ⟨by omega,fun i hi=>by omega⟩ (kS) fun k hk=>?_
  obtain⟨hk,hf⟩:=hk;by_cases ai:k<5
  ·have he:=dt (gs:=gs) (i:=k) (by omega)
   have hV:=iR (E:=cf) (aB gs k) (h.2 _ (List.mem_of_getElem? he));rw[nd]at hV;have ar:(k:Int)<5:=by omega
   have aD:IntKind.i64.wrap ((k:Int)+1)=(k:Int)+1:=aG (by omega) (by omega)
   have cE:tW gs k=(aT (aB gs k)&&decide ((aB gs k).id=k)):=rfl
   have hq:du gs=false∨tW gs k=true:=by
    cases h:tW gs k
    ·exact .inl (by simp[du,cB (show k<gs.length by omega) h])
    ·exact .inr rfl
   generalize aB gs k=G at he hV cE
   cases hv:aT G
   ·rw[hv]at hV cE
    (refine TW.go ?_;simp[ar,he,af,aD];repeat' first|intro hc|refine U.mk ?_|refine aI ?_|refine aa ?_ ?_|(refine cP ?_;refine⟨_,hV,?_⟩;simp[ar,he,af,aD]))
    refine aE.nil (r:=gB (du gs)) ?_ rfl;rcases hq with hq|hq
    ·simp[hq]
    ·rw[cE]at hq;cases hq
   ·rw[hv]at hV cE
    by_cases hid:G.id=k
    ·have hV2:=hV
     simp only[af,hid,List.map_cons,List.map_nil]at hV2;(refine TW.go ?_;simp[ar,he,af,aD,hid];repeat' first|intro hc|refine U.mk ?_|refine aI ?_|refine aa ?_ ?_|(refine cP ?_;refine⟨_,hV2,?_⟩;simp[ar,he,af,aD,hid]))
     refine⟨k+1,⟨by omega,fun i hi=>?_⟩,by omega,kS⟩
     by_cases e:i=k
     ·subst e;rw[cE];simpa using hid
     ·exact hf i (by omega)
    ·(refine TW.go ?_;simp[ar,he,af,aD,hid];repeat' first|intro hc|refine U.mk ?_|refine aI ?_|refine aa ?_ ?_|(refine cP ?_;refine⟨_,hV,?_⟩;simp[ar,he,af,aD,hid]))
     refine aE.nil (r:=gB (du gs)) ?_ rfl;rcases hq with hq|hq
     ·simp[hq]
     ·rw[cE]at hq;simp[hid]at hq
  ·obtain rfl:k=5:=by omega
   have dO:cm gs.length (tW gs)=true:=bT (by rw[h5];exact hf)
   have hcm:=QE h5 dO;clear hf hk ai;(refine TW.go ?_;simp;repeat' first|intro hc|refine U.mk ?_|refine aI ?_|refine aa ?_ ?_)
   refine tL (fun(m:Nat)=>⟨[(0,gR (bO gs)),(26,gI .i64 (m:Nat))],[],0⟩) (fun m=>m≤12∧∀i,i<m→rj gs i=true) (fun m=>12-m) 0 ⟨by omega,fun i hi=>by omega⟩ (kS) fun m hm=>?_
   obtain⟨hm,hf⟩:=hm;by_cases ai:m<12
   ·have TN:=B3 gs (m:Int) h h5
    rw[hcm]at TN;have ar:(m:Int)<12:=by omega
    have aD:IntKind.i64.wrap ((m:Int)+1)=(m:Int)+1:=aG (by omega) (by omega)
    cases wQ:rj gs m
    ·rw[wQ]at TN
     rw[show du gs=false by rw[du,cB ai wQ,Bool.and_false]]
     (refine TW.go ?_;simp[ar,aD];repeat' first|intro hc|refine U.mk ?_|refine aI ?_|refine aa ?_ ?_|(refine cP ?_;refine⟨_,TN,?_⟩;simp[ar,aD]))
     exact oW [] []
    ·rw[wQ]at TN
     (refine TW.go ?_;simp[ar,aD];repeat' first|intro hc|refine U.mk ?_|refine aI ?_|refine aa ?_ ?_|(refine cP ?_;refine⟨_,TN,?_⟩;simp[ar,aD]))
     refine⟨m+1,⟨by omega,fun i hi=>?_⟩,by omega,kS⟩
     by_cases e:i=m
     ·subst e;exact wQ
     ·exact hf i (by omega)
   ·obtain rfl:m=12:=by omega
    rw[show du gs=true by rw[du,dO,bT hf];simp[h5]]
    (refine TW.go ?_;simp;repeat' first|intro hc|refine U.mk ?_|refine aI ?_|refine aa ?_ ?_)
    exact oW [] []
 ·rw[show du gs=false by simp[du,h5]]
  have X8:¬((gs.length:Int)=5):=by omega
  (refine TW.go ?_;simp[X8];repeat' first|intro hc|refine U.mk ?_|refine aI ?_|refine aa ?_ ?_)
  exact oW [] []
theorem pY (t g t' g':Int):TC Tw.prog E 17 [ma (t,g),ma (t',g')] 0 [] (gB (aS t g&&aS t' g'&&aK t g t' g')) []:=by
 refine tE Tryz.f17 Tryz.ntmps17 (by rw[Tryz.results17]) ?_
 (refine TW.go ?_;simp;repeat' first|intro hc|refine U.mk ?_|refine aI ?_|refine aa ?_ ?_|(refine cP ?_;(first|refine⟨_,kL _ _,?_⟩|refine⟨_,iT _ _ _ _,?_⟩);simp))
 all_goals
  refine aE.nil (r:=gB (aS t g&&aS t' g'&&aK t g t' g')) ?_ rfl;simp_all
end Go.Proofs.YtjklkppncmhehaaGreat.T
namespace Go.Proofs.YtjklkppncmhehaaGreat.T
open Go Go.RowKit
set_option maxRecDepth 100000
set_option maxHeartbeats 4000000
variable {E:List PanicEntry→World→Prop}
def C2 (xs:List Int)(i:Nat):Bool:=decide (i=0)||decide (xs.getD (i-1) 0<xs.getD i 0)
def C3 (xs:List Int):Bool:=cm xs.length (C2 xs)
theorem FD (xs:List Int):TC Tw.prog E 155 [gR (bg xs)] 0 [] (gB (C3 xs)) []:=by
 refine tE Tryz.f155 Tryz.ntmps155 (by rw[Tryz.results155]) ?_
 refine TW.len 0 rfl fun hlen=>?_;simp only[List.length_map]at hlen;(refine TW.go ?_;simp;repeat' first|intro hc|refine U.mk ?_|refine aI ?_|refine aa ?_ ?_)
 refine tL (fun(k:Nat)=>⟨[(0,gR (bg xs)),(3,gI .i64 ((k:Int)+1))],[],0⟩) (fun k=>k≤xs.length∧∀i,i<k+1→i<xs.length→C2 xs i=true) (fun k=>xs.length-k) 0 ⟨by omega,fun i hi _=>(by obtain rfl:i=0:=(by omega);simp[C2])⟩ (kS) fun k hk=>?_
 obtain⟨hk,hf⟩:=hk;by_cases ai:k+1<xs.length
 ·have he:xs[k+1]?=some xs[k+1]:=List.getElem?_eq_getElem ai
  have dc:xs[k]?=some xs[k]:=List.getElem?_eq_getElem (by omega)
  have hw:=ku (k:=k) (by omega)
  have aD:=wrap_add (k:=k+1) ai hlen;simp only[Int.natCast_add,Int.natCast_one]at aD;have ar:(k:Int)+1<(xs.length:Int):=by omega
  have cE:C2 xs (k+1)=decide (xs[k]<xs[k+1]):=by simp[C2,ai,show k<xs.length by omega]
  generalize xs[k+1]=b at*;generalize xs[k]=a at*;by_cases fB:b≤a
  ·rw[show C3 xs=false from cB ai (by rw[cE];simp;omega)]
   (refine TW.go ?_;simp[he,dc,hw,ar,fB];repeat' first|intro hc|refine U.mk ?_|refine aI ?_|refine aa ?_ ?_)
   exact oW [] []
  ·(refine TW.go ?_;simp[he,dc,hw,aD,ar,fB];repeat' first|intro hc|refine U.mk ?_|refine aI ?_|refine aa ?_ ?_)
   refine⟨k+1,⟨by omega,fun i hi E1=>?_⟩,by omega,kS⟩
   by_cases e:i=k+1
   ·subst e;rw[cE];simp;omega
   ·exact hf i (by omega) E1
 ·have ar:¬(k:Int)+1<(xs.length:Int):=by omega
  rw[show C3 xs=true from bT fun i hi=>hf i (by omega) hi]
  (refine TW.go ?_;simp[ar];repeat' first|intro hc|refine U.mk ?_|refine aI ?_|refine aa ?_ ?_)
  exact oW [] []
def TO (xs:List Int)(a b:Int):Bool:=cm xs.length fun i=>decide (a≤xs.getD i 0∧xs.getD i 0≤b)
theorem MR (xs:List Int)(a b:Int):TC Tw.prog E 156 [gR (bg xs),gI .i64 a,gI .i64 b] 0 [] (gB (TO xs a b)) []:=by
 refine tE Tryz.f156 Tryz.ntmps156 (by rw[Tryz.results156]) ?_
 refine TW.len 0 rfl fun hlen=>?_;simp only[List.length_map]at hlen;(refine TW.go ?_;simp;repeat' first|intro hc|refine U.mk ?_|refine aI ?_|refine aa ?_ ?_)
 refine tL (fun(k:Nat)=>⟨[(1,gI .i64 a),(2,gI .i64 b),(9,gR (bg xs)),(10,gI .i64 xs.length),(11,gI .i64 (k:Nat))],[],0⟩) (fun k=>k≤xs.length∧∀i,i<k→a≤xs.getD i 0∧xs.getD i 0≤b) (fun k=>xs.length-k) 0 ⟨by omega,fun i hi=>by omega⟩ (kS) fun k hk=>?_
 obtain⟨hk,hf⟩:=hk;by_cases ai:k<xs.length
 ·have he:xs[k]?=some (xs.getD k 0):=by rw[List.getD_eq_getElem?_getD,List.getElem?_eq_getElem ai];rfl
  have ar:(k:Int)<(xs.length:Int):=by omega
  have aD:=wrap_add ai hlen;by_cases cG:a≤xs.getD k 0∧xs.getD k 0≤b
  ·have h1:¬xs.getD k 0<a:=by omega
   have h2:¬b<xs.getD k 0:=by omega
   generalize hx:xs.getD k 0=x at*;(refine TW.go ?_;simp[he,ar,aD,h1,h2];repeat' first|intro hc|refine U.mk ?_|refine aI ?_|refine aa ?_ ?_)
   refine⟨k+1,⟨by omega,fun i hi=>?_⟩,by omega,kS⟩
   by_cases e:i=k
   ·subst e;rw[hx];exact cG
   ·exact hf i (by omega)
  ·rw[show TO xs a b=false from cB ai (by simp only[decide_eq_false_iff_not];exact cG)]
   generalize xs.getD k 0=x at*;by_cases h1:x<a
   ·(refine TW.go ?_;simp[he,ar,h1];repeat' first|intro hc|refine U.mk ?_|refine aI ?_|refine aa ?_ ?_)
    exact oW [] []
   ·have h2:b<x:=by omega
    (refine TW.go ?_;simp[he,ar,h1,h2];repeat' first|intro hc|refine U.mk ?_|refine aI ?_|refine aa ?_ ?_)
    exact oW [] []
 ·obtain rfl:k=xs.length:=by omega
  rw[show TO xs a b=true from bT fun i hi=>by simpa using hf i hi]
  (refine TW.go ?_;simp;repeat' first|intro hc|refine U.mk ?_|refine aI ?_|refine aa ?_ ?_)
  exact oW [] []
theorem TP (xs:List Int):fy xs=(decide (0<xs.length)&&C3 xs&&TO xs 0 4):=by
 rw[Bool.eq_iff_iff];simp only[fy,C3,TO,Bool.and_eq_true,decide_eq_true_eq,cm,List.all_eq_true,List.mem_range,oA,C2,bF,Bool.or_eq_true];constructor
 ·rintro⟨h1,h2⟩
  exact⟨⟨h2,fun i hi=>(h1 i hi).2⟩,fun i hi=>by have:=(h1 i hi).1;omega⟩
 ·rintro⟨⟨h1,h2⟩,h3⟩
  exact⟨fun i hi=>⟨by have:=h3 i hi;omega,h2 i hi⟩,h1⟩
theorem J6 (xs:List Int):TC Tw.prog E 114 [gR (bg xs)] 0 [] (gB (fy xs)) []:=by
 rw[TP];have hA:=FD (E:=E) xs;have hI:=MR (E:=E) xs 0 4;refine tE Tryz.f114 Tryz.ntmps114 (by rw[Tryz.results114]) ?_
 by_cases hl:0<xs.length
 ·have lG:(0:Int)<xs.length:=by omega
  cases ha:C3 xs
  ·rw[ha]at hA
   (refine TW.go ?_;simp[hl,lG];repeat' first|intro hc|refine U.mk ?_|refine aI ?_|refine aa ?_ ?_|(refine cP ?_;(first|refine⟨_,hA,?_⟩|refine⟨_,hI,?_⟩);simp[hl,lG]))
   refine aE.own [] [] (by simp;rfl) (by simp[hl]) (by simp) (by simp) (by simp[hl]) (by simp)
  ·rw[ha]at hA
   (refine TW.go ?_;simp[hl,lG];repeat' first|intro hc|refine U.mk ?_|refine aI ?_|refine aa ?_ ?_|(refine cP ?_;(first|refine⟨_,hA,?_⟩|refine⟨_,hI,?_⟩);simp[hl,lG]))
   refine aE.own [] [] (by simp;rfl) (by simp[hl]) (by simp) (by simp) (by simp[hl]) (by simp)
 ·have eZ:xs=[]:=List.length_eq_zero_iff.1 (by omega)
  subst eZ;(refine TW.go ?_;simp;repeat' first|intro hc|refine U.mk ?_|refine aI ?_|refine aa ?_ ?_)
  exact oW [] []
theorem AT (xs:List Int):TC Tw.prog E 57 [gR (bg xs)] 0 [] (gB (fy xs)) []:=by
 refine tE Tryz.f57 Tryz.ntmps57 (by rw[Tryz.results57]) ?_
 (refine TW.go ?_;simp;repeat' first|intro hc|refine U.mk ?_|refine aI ?_|refine aa ?_ ?_|(refine cP ?_;refine⟨_,J6 xs,?_⟩;simp))
 exact oW [] []
end Go.Proofs.YtjklkppncmhehaaGreat.T
namespace Go.Proofs.YtjklkppncmhehaaGreat.T
open Go Go.RowKit
set_option maxRecDepth 100000
set_option maxHeartbeats 4000000
variable {E:List PanicEntry→World→Prop}
def oO (gs:List aq)(m:Int):List Int→Int×Int→Bool→(Int×Int)⊕((Int×Int)×Bool)
 |[],b,a=> .inr (b,a)
 |g::set,b,a=>if pS (aB gs g.toNat) m=true then if(db (aB gs g.toNat) m).f=true then .inl ((db (aB gs g.toNat) m).t,(db (aB gs g.toNat) m).g)
   else oO gs m set (if aK b.1 b.2 (db (aB gs g.toNat) m).t (db (aB gs g.toNat) m).g=true then((db (aB gs g.toNat) m).t,(db (aB gs g.toNat) m).g)else b) a
  else oO gs m set b false
def NK (gs:List aq)(set:List Int)(m:Int):(Int×Int)×Bool:=match oO gs m set (0,0) true with
 | .inl s=>(s,true)
 | .inr x=>if x.2=true then(x.1,true)else((0,0),false)
theorem MS {gs:List aq}{m:Int}{set:List Int}{k:Nat}{g:Int}(h:set[k]?=some g)(b:Int×Int)(a:Bool):oO gs m (set.drop k) b a=if pS (aB gs g.toNat) m=true then if(db (aB gs g.toNat) m).f=true then .inl ((db (aB gs g.toNat) m).t,(db (aB gs g.toNat) m).g)
   else oO gs m (set.drop (k+1)) (if aK b.1 b.2 (db (aB gs g.toNat) m).t (db (aB gs g.toNat) m).g=true then((db (aB gs g.toNat) m).t,(db (aB gs g.toNat) m).g)else b) a
  else oO gs m (set.drop (k+1)) b false:=by
 obtain⟨hk,he⟩:=List.getElem?_eq_some_iff.1 h;rw[List.drop_eq_getElem_cons hk,oO,he]
theorem B4 (gs:List aq)(set:List Int)(m:Int)(h:cz gs 4294967290)(h5:gs.length=5)(hn:set≠[])(hl:set.length≤5)(hr:cu set):
  TC Tw.prog cf 48 [gR (bO gs),gR (bg set),gI .i64 m] 0 [] (.p [ma (NK gs set m).1,gB (NK gs set m).2]) []:=by
 have hE:=pX gs set m h h5 hn hl hr;have vA:(gr gs m set).length=set.length:=by simp
 have dQ:∀(k:Nat) g,set[k]?=some g→(gr gs m set)[k]?=some (gp (aB gs g.toNat) m):=fun k g hg=>by simp[List.getElem?_map,hg]
 generalize gr gs m set=A at*;refine tE Tryz.f48 Tryz.ntmps48 (by rw[Tryz.results48]) ?_
 (refine TW.go ?_;simp[vA];repeat' first|intro hc|refine U.mk ?_|refine aI ?_|refine aa ?_ ?_|(refine cF [] 1 ?_;refine⟨_,_,hE,?_⟩;simp[vA]))
 refine tL (fun(p:Nat×(Int×Int)×Bool)=>⟨[(6,.s (.ptr 0 0)),(8,.s (.ptr 1 0)),(9,gB p.2.2),(16,gR (.sl 5 A)),(17,gI .i64 set.length),(18,gI .i64 (p.1:Nat))],[(0,.box [.r (rI 0),.r (rI 0)]),(1,.box [.r (rI p.2.1.1),.r (rI p.2.1.2)])],2⟩)
  (fun p=>p.1≤set.length∧oO gs m (set.drop p.1) p.2.1 p.2.2=oO gs m set (0,0) true) (fun p=>set.length-p.1) (0,(0,0),true) ⟨by simp,rfl⟩
  (kO [0,1] [2]) fun p hp=>?_
 obtain⟨k,b,a⟩:=p;obtain⟨hk,bk⟩:=hp;simp only at hk bk⊢
 unfold NK;by_cases ai:k<set.length
 ·have he:set[k]?=some set[k]:=List.getElem?_eq_getElem ai
  have hA:=dQ k _ he;have ar:(k:Int)<(set.length:Int):=by omega
  have aD:IntKind.i64.wrap ((k:Int)+1)=(k:Int)+1:=aG (by omega) (by omega)
  rw[MS he]at bk;generalize aB gs (set[k]).toNat=G at*
  cases hv:pS G m
  ·rw[hv,if_neg (by simp)]at bk
   (refine TW.go ?_;simp[ar,hA,gp,hv,aD];repeat' first|intro hc|refine U.mk ?_|refine aI ?_|refine aa ?_ ?_)
   exact⟨(k+1,b,false),⟨by simp only;omega,bk⟩,by simp only;omega,kO [0,1] []⟩
  ·rw[hv,if_pos rfl]at bk
   cases hf:(db G m).f
   ·rw[hf,if_neg (by simp)]at bk
    cases hc:aK b.1 b.2 (db G m).t (db G m).g
    ·rw[hc,if_neg (by simp)]at bk
     (refine TW.go ?_;simp[ar,hA,gp,hv,hf,hc,aD];repeat' first|intro hc|refine U.mk ?_|refine aI ?_|refine aa ?_ ?_|(refine cP ?_;refine⟨_,iT _ _ _ _,?_⟩;simp[ar,hA,gp,hv,hf,hc,aD]))
     exact⟨(k+1,b,a),⟨by simp only;omega,bk⟩,by simp only;omega,kO [0,1] []⟩
    ·rw[hc,if_pos rfl]at bk
     (refine TW.go ?_;simp[ar,hA,gp,hv,hf,hc,aD];repeat' first|intro hc|refine U.mk ?_|refine aI ?_|refine aa ?_ ?_|(refine cP ?_;refine⟨_,iT _ _ _ _,?_⟩;simp[ar,hA,gp,hv,hf,hc,aD]))
     exact⟨(k+1,_,a),⟨by simp only;omega,bk⟩,by simp only;omega,kO [0,1] []⟩
   ·rw[hf,if_pos rfl]at bk
    rw[←bk];(refine TW.go ?_;simp[ar,hA,gp,hv,hf,aD];repeat' first|intro hc|refine U.mk ?_|refine aI ?_|refine aa ?_ ?_)
    exact oW [] []
 ·obtain rfl:k=set.length:=by omega
  rw[List.drop_length,oO]at bk;rw[←bk]
  cases a
  ·(refine TW.go ?_;simp;repeat' first|intro hc|refine U.mk ?_|refine aI ?_|refine aa ?_ ?_)
   exact oW [] []
  ·(refine TW.go ?_;simp;repeat' first|intro hc|refine U.mk ?_|refine aI ?_|refine aa ?_ ?_)
   exact oW [] []
theorem AU (gs:List aq)(set:List Int)(m:Int)(h:cz gs 4294967290):TC Tw.prog cf 47 [gR (bO gs),gR (bg set),gI .i64 m] 0 [] (gB (im gs set m)) []:=by
 have hS:=AS gs h;have hV:=AT (E:=cf) set;have hM:=jM (E:=cf) m;refine tE Tryz.f47 Tryz.ntmps47 (by rw[Tryz.results47]) ?_
 unfold im
 cases a:du gs
 ·rw[a]at hS
  (refine TW.go ?_;simp;repeat' first|intro hc|refine U.mk ?_|refine aI ?_|refine aa ?_ ?_|(refine cP ?_;(first|refine⟨_,hS,?_⟩|refine⟨_,hV,?_⟩|refine⟨_,hM,?_⟩);simp))
  exact oW [] []
 ·rw[a]at hS
  cases b:fy set
  ·rw[b]at hV
   (refine TW.go ?_;simp;repeat' first|intro hc|refine U.mk ?_|refine aI ?_|refine aa ?_ ?_|(refine cP ?_;(first|refine⟨_,hS,?_⟩|refine⟨_,hV,?_⟩|refine⟨_,hM,?_⟩);simp))
   exact oW [] []
  ·rw[b]at hV
   (refine TW.go ?_;simp;repeat' first|intro hc|refine U.mk ?_|refine aI ?_|refine aa ?_ ?_|(refine cP ?_;(first|refine⟨_,hS,?_⟩|refine⟨_,hV,?_⟩|refine⟨_,hM,?_⟩);simp))
   exact oW [] []
theorem vB {id clock:Int}{es:List an}{e:an}(h:gC id clock es=true)(he:e∈es):aS e.t e.g=true:=by
 obtain⟨i,hi,rfl⟩:=List.getElem_of_mem he;rw[gC,b_]at h;have:=h i hi
 rw[lD,List.getElem?_eq_getElem hi]at this;simp only[Bool.and_eq_true]at this;exact this.1.1.1.1.2
theorem ue {g:aq}{m:Int}(hg:aT g=true)(h:di g m=true):aS (bo g m).t (bo g m).g=true:=by
 simp only[aT,Bool.and_eq_true]at hg;obtain⟨e,he⟩:=Option.isSome_iff_exists.1 h;rw[bo,he,Option.getD_some];unfold bC at he;split at he
 ·rename_i h1;cases he;exact vB hg.1.1.1.2 (List.mem_of_find?_eq_some h1)
 ·exact vB hg.1.1.2 (List.mem_of_find?_eq_some he)
theorem MT (a:Int×Int)(xs:List (Int×Int))(y:Int×Int):gg a (xs++[y])=if aK (gg a xs).1 (gg a xs).2 y.1 y.2=true then y else gg a xs:=by
 induction xs generalizing a with
 |nil=>rfl
 |cons x xs ih=>exact ih _
theorem FE {gs:List aq}{m:Int}(hv:∀g∈gs,aT g=true)(h5:gs.length=5):∀(set:List Int) (acc:List (Int×Int)) (b:Int×Int) (a:Bool) (n:Nat),cu set→b=rp acc→acc.length≤n→a=decide (acc.length=n)→
  (match oO gs m set b a with| .inl s=>(s,true)| .inr x=>if x.2=true then(x.1,true)else((0,0),false))=(match ff gs m set acc with| .inl s=>(s,true)| .inr l=>if l.length<n+set.length then((0,0),false)else(rp l,true))
 |[],acc,b,a,n,_,hb,hn,ha=>by
  subst hb;subst ha;simp only[oO,ff,List.length_nil,Nat.add_zero,decide_eq_true_eq];by_cases h:acc.length=n
  ·rw[if_pos h,if_neg (by omega)]
  ·rw[if_neg h,if_pos (by omega)]
 |g::set,acc,b,a,n,hr,hb,hn,ha=>by
  obtain⟨g0,g1⟩:=hr g (List.mem_cons_self ..);have hG:=hv _ (iQ (gs:=gs) (i:=g.toNat) (by omega))
  have eH:cu set:=fun x hx=>hr x (List.mem_cons_of_mem _ hx)
  rw[oO,ff];simp only[pS,db,hG,Bool.true_and,if_true]
  cases hs:di (aB gs g.toNat) m
  ·simp only[Bool.false_and,Bool.false_eq_true,if_false]
   rw[FE hv h5 set acc b false (n+1) eH hb (by omega) (by simp;omega)]
   simp only[List.length_cons,show n+(set.length+1)=n+1+set.length by omega]
  ·have cl:=ue hG hs
   simp only[Bool.true_and,if_true]
   cases hf:(bo (aB gs g.toNat) m).f
   ·simp only[Bool.false_eq_true,if_false]
    generalize(bo (aB gs g.toNat) m).t=t at*;generalize(bo (aB gs g.toNat) m).g=s at*;have hm:(if aK b.1 b.2 t s=true then(t,s)else b)=rp (acc++[(t,s)]):=by
     subst hb;rcases acc with _|⟨x,xs⟩
     ·simp only[aS,Bool.and_eq_true,decide_eq_true_eq]at cl
      rw[if_pos (by show aK 0 0 t s=true;simp only[aK,decide_eq_true_eq];omega)]
      rfl
     ·exact(MT x xs (t,s)).symm
    rw[FE hv h5 set (acc++[(t,s)]) _ a (n+1) eH hm (by simp;omega) (by rw[ha];simp)]
    simp only[List.length_cons,show n+(set.length+1)=n+1+set.length by omega]
   ·simp
end Go.Proofs.YtjklkppncmhehaaGreat.T
namespace Go.Proofs.YtjklkppncmhehaaGreat.T
open Go Go.RowKit
set_option maxRecDepth 100000
set_option maxHeartbeats 4000000
theorem uf {gs:List aq}{m:Int}{s:Int×Int}:∀{set:List Int} {acc:List (Int×Int)},ff gs m set acc= .inl s→∃g∈set,di (aB gs g.toNat) m=true∧(bo (aB gs g.toNat) m).f=true∧s=((bo (aB gs g.toNat) m).t,(bo (aB gs g.toNat) m).g)
 |[],acc,h=>by cases h
 |g::set,acc,h=>by
  rw[ff]at h;split at h
  ·rename_i hc
   simp only[Bool.and_eq_true]at hc
   cases h;exact⟨g,List.mem_cons_self ..,hc.1,hc.2,rfl⟩
  ·obtain⟨g',h1,h2⟩:=uf h
   exact⟨g',List.mem_cons_of_mem _ h1,h2⟩
theorem ug {gs:List aq}{m:Int}{l:List (Int×Int)}:∀{set:List Int} {acc:List (Int×Int)},ff gs m set acc= .inr l→
  (∀x∈acc,x∈l)∧(∀g∈set,di (aB gs g.toNat) m=true→(bo (aB gs g.toNat) m).f=false∧((bo (aB gs g.toNat) m).t,(bo (aB gs g.toNat) m).g)∈l)∧
   (∀x∈l,x∈acc∨∃g∈set,di (aB gs g.toNat) m=true∧x=((bo (aB gs g.toNat) m).t,(bo (aB gs g.toNat) m).g))∧l.length≤acc.length+set.length
 |[],acc,h=>by cases h;exact⟨fun x h=>h,fun g h=>(by cases h),fun x h=> .inl h,by simp⟩
 |g::set,acc,h=>by
  rw[ff]at h;split at h
  ·cases h
  ·rename_i hc
   obtain⟨h1,h2,h3,h4⟩:=ug h
   cases hs:di (aB gs g.toNat) m
   ·simp only[hs,Bool.false_eq_true,if_false]at h1 h3 h4
    refine⟨h1,fun g' bh we=>?_,fun x hx=>?_,by simp;omega⟩
    ·rcases List.mem_cons.1 bh with rfl|bh
     ·rw[hs]at we;cases we
     ·exact h2 g' bh we
    ·rcases h3 x hx with h|⟨g',bh,h⟩
     ·exact .inl h
     ·exact .inr ⟨g',List.mem_cons_of_mem _ bh,h⟩
   ·simp only[hs,if_true]at h1 h3 h4
    refine⟨fun x hx=>h1 x (by simp[hx]),fun g' bh we=>?_,fun x hx=>?_,by simp at h4⊢;omega⟩
    ·rcases List.mem_cons.1 bh with rfl|bh
     ·exact⟨by simpa[hs]using hc,h1 _ (by simp)⟩
     ·exact h2 g' bh we
    ·rcases h3 x hx with h|⟨g',bh,h⟩
     ·rcases List.mem_append.1 h with h|h
      ·exact .inl h
      ·rw[List.mem_singleton]at h
       exact .inr ⟨g,List.mem_cons_self ..,hs,h⟩
     ·exact .inr ⟨g',List.mem_cons_of_mem _ bh,h⟩
theorem mf (t s:Int):aK t s t s=false:=by simp[aK]
theorem xR {a b c:Int×Int}(h1:aK a.1 a.2 b.1 b.2=false)(h2:aK b.1 b.2 c.1 c.2=false):aK a.1 a.2 c.1 c.2=false:=by
 simp only[aK,decide_eq_false_iff_not]at*;omega
theorem J8 {a b:Int×Int}(h1:aK a.1 a.2 b.1 b.2=true):aK b.1 b.2 a.1 a.2=false:=by
 simp only[aK,decide_eq_false_iff_not,decide_eq_true_eq]at*;omega
theorem J9 (a:Int×Int):∀(xs:List (Int×Int)),aK (gg a xs).1 (gg a xs).2 a.1 a.2=false∧(∀y∈xs,aK (gg a xs).1 (gg a xs).2 y.1 y.2=false)∧(gg a xs=a∨gg a xs∈xs):=by
 intro xs;induction xs generalizing a with
 |nil=>exact⟨mf _ _,fun y h=>(by cases h),.inl rfl⟩
 |cons x xs ih=>
  rw[gg];obtain⟨h1,h2,h3⟩:=ih (if aK a.1 a.2 x.1 x.2=true then x else a)
  by_cases hc:aK a.1 a.2 x.1 x.2=true
  ·simp only[if_pos hc]at h1 h2 h3⊢
   refine⟨xR h1 (J8 hc),fun y hy=>?_,.inr ?_⟩
   ·rcases List.mem_cons.1 hy with rfl|hy
    ·exact h1
    ·exact h2 y hy
   ·rcases h3 with h3|h3
    ·rw[h3];exact List.mem_cons_self ..
    ·exact List.mem_cons_of_mem _ h3
  ·simp only[if_neg hc]at h1 h2 h3⊢
   refine⟨h1,fun y hy=>?_,?_⟩
   ·rcases List.mem_cons.1 hy with rfl|hy
    ·exact xR h1 (by simpa using hc)
    ·exact h2 y hy
   ·rcases h3 with h3|h3
    ·exact .inl h3
    ·exact .inr (List.mem_cons_of_mem _ h3)
theorem QF {gs:List aq}{m:Int}(h:du gs=true)(hm:bm m=true){i k:Nat}(hi:i<5)(hk:k<5):lE (aB gs i) (aB gs k) m=true:=by
 have h5:=c_ h;simp only[du,Bool.and_eq_true,b_,rj,vm,h5]at h;simp only[bm,decide_eq_true_eq]at hm;have:=h.2 m.toNat (by omega) i hi k hk
 rwa[show((m.toNat:Nat):Int)=m by omega]at this
theorem pZ {gs:List aq}(h:du gs=true){i:Nat}(hi:i<5):aT (aB gs i)=true:=by
 have h5:=c_ h;simp only[du,Bool.and_eq_true,b_,h5]at h;have:=h.1.2 i hi
 simp only[tW,Bool.and_eq_true]at this;exact this.1
end Go.Proofs.YtjklkppncmhehaaGreat.T
namespace Go.Proofs.YtjklkppncmhehaaGreat.T
open Go Go.RowKit
theorem wX {xs:List Int}(h:fy xs=true):xs.Pairwise (·<·):=by
 simp only[fy,Bool.and_eq_true,decide_eq_true_eq,cm,List.all_eq_true,List.mem_range,oA,bF,Bool.or_eq_true]at h;obtain⟨h1, -⟩:=h;have one:∀i (hi:i+1<xs.length),xs[i]<xs[i+1]:=fun i hi=>by
  have:=(h1 (i+1) hi).2
  simp only[Nat.add_sub_cancel,List.getD_eq_getElem?_getD,List.getElem?_eq_getElem hi,List.getElem?_eq_getElem (show i<xs.length by omega),Option.getD_some]at this
  omega
 rw[List.pairwise_iff_getElem];have:∀(d i:Nat) (hi:i<xs.length) (hj:i+d+1<xs.length),xs[i]<xs[i+d+1]:=by
  intro d;induction d with
  |zero=>intro i hi hj;exact one i hj
  |succ d ih=>
   intro i hi hj;have a:=ih i hi (by omega)
   have b:=one (i+d+1) (by omega)
   have c:xs[i+(d+1)+1]=xs[i+d+1+1]:=rfl
   omega
 intro i j hi hj lp;obtain⟨d,rfl⟩:∃d,j=i+d+1:=⟨j-i-1,by omega⟩
 exact this d i hi hj
theorem TQ {gs:List aq}{i k:Nat}(x:aq)(hi:i<gs.length):aB (gs.set i x) k=if k=i then x else aB gs k:=by
 unfold aB;simp only[List.getD_eq_getElem?_getD,List.getElem?_set];by_cases h:k=i
 ·subst h;simp[hi]
 ·rw[if_neg h,if_neg (fun e=>h e.symm)]
theorem AV {a b:List aq}(ha:a.length=5)(hb:b.length=5)(h:∀i,i<5→aB a i=aB b i):a=b:=by
 refine List.ext_getElem (by omega) fun i h1 h2=>?_
 have:=h i (by omega)
 simpa[aB,List.getD_eq_getElem?_getD,List.getElem?_eq_getElem h1,List.getElem?_eq_getElem h2]using this
theorem AW (f:aq→aq):∀{set:List Int} {gs:List aq},cu set→set.Pairwise (·<·)→gs.length=5→
  (set.foldl (fun gs g=>gs.set g.toNat (f (aB gs g.toNat))) gs).length=5∧∀i:Nat,i<5→aB (set.foldl (fun gs g=>gs.set g.toNat (f (aB gs g.toNat))) gs) i=if(i:Int)∈set then f (aB gs i)else aB gs i
 |[],gs,_,_,h5=>⟨h5,fun i _=>by simp⟩
 |x::set,gs,hr,hp,h5=>by
  obtain⟨x0,x1⟩:=hr x (List.mem_cons_self ..);rw[List.pairwise_cons]at hp;obtain⟨l,h⟩:=AW f (set:=set) (gs:=gs.set x.toNat (f (aB gs x.toNat))) (fun g hg=>hr g (List.mem_cons_of_mem _ hg)) hp.2 (by simpa using h5)
  refine⟨l,fun i hi=>?_⟩
  rw[List.foldl_cons,h i hi,TQ _ (by omega)]
  by_cases hx:i=x.toNat
  ·have Md:(i:Int)=x:=by omega
   have hn:¬(i:Int)∈set:=fun hm=>by have:=hp.1 _ hm;omega
   rw[if_neg hn,if_pos hx,Md,if_pos (List.mem_cons_self ..),hx]
  ·have Md:¬(i:Int)=x:=by omega
   rw[if_neg hx];by_cases hm:(i:Int)∈set
   ·rw[if_pos hm,if_pos (List.mem_cons_of_mem _ hm)]
   ·rw[if_neg hm,if_neg]
    intro h;rcases List.mem_cons.1 h with h|h
    ·exact Md h
    ·exact hm h
theorem vC {gs:List aq}{set:List Int}(m:Int)(hr:cu set)(hp:set.Pairwise (·<·))(h5:gs.length=5):
  (aF gs m set).length=5∧∀i:Nat,i<5→aB (aF gs m set) i=if(i:Int)∈set then(au (aB gs i) m).1 else aB gs i:=AW (fun g=>(au g m).1) hr hp h5
theorem yG {gs:List aq}{set:List Int}(m:Int)(s:Int×Int)(hr:cu set)(hp:set.Pairwise (·<·))(h5:gs.length=5):
  (bD gs m s set).length=5∧∀i:Nat,i<5→aB (bD gs m s set) i=if(i:Int)∈set then(aO (aB gs i) m s.1 s.2).1 else aB gs i:=AW (fun g=>(aO g m s.1 s.2).1) hr hp h5
theorem nP {m:Int}(hm:bm m=true):∀{set:List Int} {gs:List aq},cu set→gs.length=5→(∀g∈gs,aT g=true)→∀g∈aF gs m set,aT g=true
 |[],_,_,_,h=>h
 |x::set,gs,hr,h5,h=>by
  unfold aF;rw[List.foldl_cons];refine nP hm (set:=set) (fun g hg=>hr g (List.mem_cons_of_mem _ hg)) (by simpa using h5) fun g hg=>?_
  rcases mem_set hg with rfl|hg
  ·have:=hr x (List.mem_cons_self ..)
   exact nM (h _ (iQ (by omega))) hm
  ·exact h g hg
theorem p9 {m:Int}{s:Int×Int}(hm:bm m=true)(hs:aS s.1 s.2=true):∀{set:List Int} {gs:List aq},cu set→gs.length=5→(∀g∈gs,aT g=true)→∀g∈bD gs m s set,aT g=true
 |[],_,_,_,h=>h
 |x::set,gs,hr,h5,h=>by
  unfold bD;rw[List.foldl_cons];refine p9 hm hs (set:=set) (fun g hg=>hr g (List.mem_cons_of_mem _ hg)) (by simpa using h5) fun g hg=>?_
  rcases mem_set hg with rfl|hg
  ·have:=hr x (List.mem_cons_self ..)
   exact wN (h _ (iQ (by omega))) hm hs
  ·exact h g hg
theorem vD {gs:List aq}(h:du gs=true):∀g∈gs,aT g=true:=fun g hg=>by
 obtain⟨i,hi,rfl⟩:=List.getElem_of_mem hg;have:=pZ h (i:=i) (by have:=c_ h;omega)
 rwa[aB,List.getD_eq_getElem?_getD,List.getElem?_eq_getElem hi]at this
theorem vE {gs:List aq}{set:List Int}{m:Int}(hg:∀g∈gs,aT g=true)(h5:gs.length=5)(hr:cu set)(hn:set≠[])(h:(aJ gs set m).2=true):aS (aJ gs set m).1.1 (aJ gs set m).1.2=true:=by
 have hG:∀g∈set,aT (aB gs g.toNat)=true:=fun g h=>hg _ (iQ (by have:=hr g h;omega))
 unfold aJ at h⊢;split at h
 ·rename_i s' he
  obtain⟨a,ha,a1,a2,rfl⟩:=uf he;exact ue (hG a ha) a1
 ·rename_i l he
  split at h
  ·cases h
  ·rename_i hlen
   rw[if_neg hlen];obtain⟨-,k2,k3,k4⟩:=ug he;rcases l with _|⟨x,xs⟩
   ·exact absurd (List.length_pos_iff.2 hn) (by simpa using hlen)
   ·obtain⟨m1,m2,m3⟩:=J9 x xs
    have fY:gg x xs∈x::xs:=by
     rcases m3 with h|h
     ·rw[h];exact List.mem_cons_self ..
     ·exact List.mem_cons_of_mem _ h
    rcases k3 _ fY with h|⟨g,bh,fD,e⟩
    ·cases h
    ·show aS (gg x xs).1 (gg x xs).2=true
     rw[e];exact ue (hG g bh) fD
def bb (gs:List aq)(set:List Int)(m:Int):List aq×Bool:=if im gs set m=true then if(dK gs set m).2=true then((dK gs set m).1,true)else(gs,false)else([],false)
theorem QG {gs:List aq}{set:List Int}{m:Int}(hv:∀g∈gs,aT g=true)(h5:gs.length=5)(hr:cu set):NK gs set m=aJ gs set m:=by
 have:=FE (m:=m) hv h5 set [] (0,0) true 0 hr rfl (by simp) rfl
 simp only[Nat.zero_add]at this;exact this
end Go.Proofs.YtjklkppncmhehaaGreat.T
