/-
What is proved: how entries and groups read in memory and what rests on it. Conditions: as stated.
-/
import Derived.Test.YtabjbdnokpjipaaGreatRw01
import Derived.Test.YtabjbdnokpjipaaGreatRw35
import Derived.WalkKit
import Derived.ProofKit
import Derived.OneCell
import Derived.LoopTactic
import Derived.Deep.RegionHeld3
import Derived.Deep.RegionWith
set_option linter.unusedVariables false
set_option linter.unusedSimpArgs false
namespace Go.Proofs.YtabjbdnokpjipaaGreat
open Go Go.RowKit
structure aB where
 m:Int
 t:Int
 g:Int
 f:Bool
 deriving DecidableEq
def aB.cells (e:aB):List Value:=[.int .i64 e.m,.int .i64 e.t,.int .i64 e.g,.bool e.f]
def aB.zero:aB:=⟨0,0,0,false⟩
def pY (es:List aB):List Value:=es.flatMap aB.cells
structure aF where
 id:Int
 clock:Int
 pend:List aB
 done:List aB
theorem E0 (es:List aB):(pY es).length=es.length*4:=by
 induction es with
 |nil=>rfl
 |cons e es ih=>simp only[pY,List.flatMap_cons,List.length_append]at*;rw[ih];simp[aB.cells];omega
theorem Vk {es:List aB}{k:Nat}{e:aB}(h:es[k]?=some e):(pY es)[k*4]?=some (.int .i64 e.m)∧(pY es)[k*4+1]?=some (.int .i64 e.t)∧(pY es)[k*4+2]?=some (.int .i64 e.g)∧(pY es)[k*4+3]?=some (.bool e.f):=by
 induction es generalizing k with
 |nil=>simp at h
 |cons a es ih=>
  cases k with
  |zero=>
   simp at h;subst h
   refine⟨rfl,rfl,rfl,rfl⟩
  |succ k=>
   simp only[List.getElem?_cons_succ]at h;have:=ih h
   have e0:∀j,(pY (a::es))[(k+1)*4+j]?=(pY es)[k*4+j]?:=fun j=>by
    show(a.cells++pY es)[(k+1)*4+j]?=_
    rw[List.getElem?_append_right (by simp[aB.cells];omega)]
    congr 1
    simp[aB.cells];omega
   exact⟨(e0 0).trans this.1,(e0 1).trans this.2.1,(e0 2).trans this.2.2.1,(e0 3).trans this.2.2.2⟩
def QQ (w:World)(B:Nat)(A:Option Addr)(n c:Nat)(es:List aB):Prop:=Reads w B 4 A n (pY es)∧n≤c∧c≤maxLen
section
variable {w w':World}{B n c:Nat}{A:Option Addr}{es:List aB}
theorem QQ.len (h:QQ w B A n c es):es.length=n:=by
 have:=h.1.1
 rw[E0]at this;omega
theorem IL (a:Addr)(j i:Nat)(hi:0<i):a.add (j+i)={block:=(a.add j).block,off:=(a.add j).off+i}:=by
 rw[←Ax];unfold Addr.add;simp[show i≠0 by omega]
def acu (w:World)(a:Addr)(e:aB):Prop:=w.cell? a=some (.int .i64 e.m)∧w.cell? {block:=a.block,off:=a.off+1}=some (.int .i64 e.t)∧w.cell? {block:=a.block,off:=a.off+2}=some (.int .i64 e.g)∧w.cell? {block:=a.block,off:=a.off+3}=some (.bool e.f)
theorem QQ.at_ {k:Nat}(h:QQ w B A n c es)(hk:k<n):∃ad e,A=some ad∧ad.block<B∧es[k]?=some e∧acu w (ad.add (k*4)) e:=by
 obtain⟨ad,e0,hb,hc⟩:=h.1.2 (by omega)
 have hl:=h.len;have he:es[k]?=some es[k]:=List.getElem?_eq_getElem (by omega)
 obtain⟨h1,h2,h3,h4⟩:=Vk he;refine⟨ad,es[k],e0,hb,he,hc _ _ h1,?_,?_,?_⟩
 ·rw[←IL _ _ _ (by omega)];exact hc _ _ h2
 ·rw[←IL _ _ _ (by omega)];exact hc _ _ h3
 ·rw[←IL _ _ _ (by omega)];exact hc _ _ h4
theorem QQ.below (h:QQ w B A n c es)(hb:Below B w w'):QQ w' B A n c es:=⟨h.1.below hb,h.2⟩
end
def dm (m:Int):List aB→Nat→Int
 |[],_=> -1
 |e::es,k=>if e.m=m then k else dm m es (k+1)
def dN (es:List aB)(m:Int):Int:=dm m es 0
theorem ui {es:List aB}{m:Int}{k:Nat}{e:aB}(h:es[k]?=some e):dm m (es.drop k) k=if e.m=m then(k:Int)else dm m (es.drop (k+1)) (k+1):=by
 have hk:k<es.length:=(List.getElem?_eq_some_iff.1 h).1
 have he:es[k]=e:=(List.getElem?_eq_some_iff.1 h).2
 rw[List.drop_eq_getElem_cons hk,dm,he]
def bM (g:Int):Bool:=decide (0≤g∧g<5)
def bj (m:Int):Bool:=decide (0≤m∧m<12)
def ju (t:Int):Bool:=decide (0≤t∧t≤999)
def bc (t g:Int):Bool:=decide (1≤t∧t≤999)&&bM g
def aO (t g t' g':Int):Bool:=decide (t<t'∨(t=t'∧g<g'))
end Go.Proofs.YtabjbdnokpjipaaGreat
namespace Go.Proofs.YtabjbdnokpjipaaGreat.T
open Go Go.RowKit
set_option maxRecDepth 100000
variable {E:List PanicEntry→World→Prop}
abbrev rI (n:Int):RT:= .v (.int .i64 n)
abbrev rB (b:Bool):RT:= .v (.bool b)
abbrev gR (t:RT):GV:= .s (.r t)
def aG (e:aB):List RT:=[rI e.m,rI e.t,rI e.g,rB e.f]
abbrev dj (es:List aB):RT:= .sl 4 (es.map aG)
abbrev aY (xs:List Int):RT:= .sl 1 (xs.map fun n=>[rI n])
theorem wrap_add {k n:Nat}(h:k<n)(hn:n≤maxLen):IntKind.i64.wrap ((k:Int)+1)=(k:Int)+1:=by
 simp only[maxLen]at hn;simp[IntKind.wrap,IntKind.min,IntKind.max,IntKind.signed,IntKind.bits];omega
theorem aQ {z:Int}(h1: -9223372036854775808≤z)(h2:z≤9223372036854775807):IntKind.i64.wrap z=z:=by
 simp[IntKind.wrap,IntKind.min,IntKind.max,IntKind.signed,IntKind.bits];omega
@[simp] theorem acF:IntKind.i64.wrap 1=1:=by decide
theorem jH (t g t' g':Int):TC Tw.prog E 119 [.a [.r (rI t),.r (rI g)],.a [.r (rI t'),.r (rI g')]] 0 [] (gB (aO t g t' g')) []:=by
 refine tE Tryz.f119 Tryz.ntmps119 (by rw[Tryz.results119]) ?_
 (refine TW.go ?_;simp;repeat' first|intro hc|refine aa.mk ?_|refine aI ?_|refine af ?_ ?_)
 all_goals refine aT.nil (r:=gB (aO t g t' g')) ?_ rfl
 all_goals(first|(simp[aO];done)|(simp[aO, *];done)|(simp[aO];intros;omega)|(simp[aO, *];intros;omega)|(rw[Bool.eq_iff_iff];simp[aO, *];intros;omega)|(simp[aO, *];rw[Bool.eq_iff_iff];simp;intros;omega)|(intros;omega))
theorem fq (n a b:Int):TC Tw.prog E 66 [gI .i64 n,gI .i64 a,gI .i64 b] 0 [] (gB (decide (a≤n∧n≤b))) []:=by
 refine tE Tryz.f66 Tryz.ntmps66 (by rw[Tryz.results66]) ?_
 (refine TW.go ?_;simp;repeat' first|intro hc|refine aa.mk ?_|refine aI ?_|refine af ?_ ?_)
 all_goals refine aT.nil (r:=gB (decide (a≤n∧n≤b))) ?_ rfl
 all_goals(first|(simp;done)|(simp[*];done)|(simp;intros;omega)|(simp[*];intros;omega)|(rw[Bool.eq_iff_iff];simp[*];intros;omega)|(simp[*];rw[Bool.eq_iff_iff];simp;intros;omega)|(intros;omega))
theorem rM (n:Int):TC Tw.prog E 65 [gI .i64 n] 0 [] (gB (bM n)) []:=by
 refine tE Tryz.f65 Tryz.ntmps65 (by rw[Tryz.results65]) ?_
 (refine TW.go ?_;simp;repeat' first|intro hc|refine aa.mk ?_|refine aI ?_|refine af ?_ ?_|(refine cP ?_;refine⟨_,fq _ _ _,?_⟩;simp))
 all_goals refine aT.nil (r:=gB (bM n)) ?_ rfl
 all_goals(first|(simp[bM];done)|(simp[bM, *];done)|(simp[bM];intros;omega)|(simp[bM, *];intros;omega)|(rw[Bool.eq_iff_iff];simp[bM, *];intros;omega)|(simp[bM, *];rw[Bool.eq_iff_iff];simp;intros;omega)|(intros;omega))
theorem vR (n:Int):TC Tw.prog E 92 [gI .i64 n] 0 [] (gB (bj n)) []:=by
 refine tE Tryz.f92 Tryz.ntmps92 (by rw[Tryz.results92]) ?_
 (refine TW.go ?_;simp;repeat' first|intro hc|refine aa.mk ?_|refine aI ?_|refine af ?_ ?_|(refine cP ?_;refine⟨_,fq _ _ _,?_⟩;simp))
 all_goals refine aT.nil (r:=gB (bj n)) ?_ rfl
 all_goals(first|(simp[bj];done)|(simp[bj, *];done)|(simp[bj];intros;omega)|(simp[bj, *];intros;omega)|(rw[Bool.eq_iff_iff];simp[bj, *];intros;omega)|(simp[bj, *];rw[Bool.eq_iff_iff];simp;intros;omega)|(intros;omega))
theorem pH (t g:Int):TC Tw.prog E 121 [.a [.r (rI t),.r (rI g)]] 0 [] (gB (bc t g)) []:=by
 refine tE Tryz.f121 Tryz.ntmps121 (by rw[Tryz.results121]) ?_
 (refine TW.go ?_;simp;repeat' first|intro hc|refine aa.mk ?_|refine aI ?_|refine af ?_ ?_|(refine cP ?_;(first|refine⟨_,fq _ _ _,?_⟩|refine⟨_,rM _,?_⟩);simp))
 all_goals refine aT.nil (r:=gB (bc t g)) ?_ rfl
 all_goals(first|(simp[bc];done)|(simp[bc, *];done)|(simp[bc];intros;omega)|(simp[bc, *];intros;omega)|(rw[Bool.eq_iff_iff];simp[bc, *];intros;omega)|(simp[bc, *];rw[Bool.eq_iff_iff];simp;intros;omega)|(intros;omega))
theorem eQ (es:List aB)(m:Int):TC Tw.prog E 117 [gR (dj es),gI .i64 m] 0 [] (gI .i64 (dN es m)) []:=by
 refine tE Tryz.f117 Tryz.ntmps117 (by rw[Tryz.results117]) ?_
 refine TW.len 0 rfl fun hlen=>?_;simp only[List.length_map]at hlen;(refine TW.go ?_;simp;repeat' first|intro hc|refine aa.mk ?_|refine aI ?_|refine af ?_ ?_)
 refine tL (fun k=>⟨[(0,gR (dj es)),(1,gI .i64 m),(5,gI .i64 (k:Nat))],[],0⟩) (fun k=>k≤es.length∧dN es m=dm m (es.drop k) k) (fun k=>es.length-k) 0 ⟨by omega,rfl⟩ (kS) fun k hk=>?_
 obtain⟨hk,hf⟩:=hk;by_cases ak:k<es.length
 ·have he:es[k]?=some es[k]:=List.getElem?_eq_getElem ak
  have hfd:=ui (m:=m) he;(refine TW.go ?_;simp[ak,he,aG,wrap_add ak hlen];repeat' first|intro hc|refine aa.mk ?_|refine aI ?_|refine af ?_ ?_)
  ·refine aT.nil (r:=gI .i64 (dN es m)) ?_ rfl
   simp[hf,hfd,hc]
  ·refine⟨k+1,⟨by omega,?_⟩,by omega,kS⟩
   rw[hf,hfd,if_neg hc]
 ·obtain rfl:k=es.length:=by omega
  (refine TW.go ?_;simp;repeat' first|intro hc|refine aa.mk ?_|refine aI ?_|refine af ?_ ?_)
  refine aT.nil (r:=gI .i64 (dN es m)) ?_ rfl;simp[hf,List.drop_of_length_le,dm]
end Go.Proofs.YtabjbdnokpjipaaGreat.T
namespace Go.Proofs.YtabjbdnokpjipaaGreat.T
open Go Go.RowKit
set_option maxRecDepth 100000
variable {E:List PanicEntry→World→Prop}
theorem l8 {k:Nat}(hn:k≤maxLen):IntKind.i64.wrap (k:Int)=(k:Int):=by
 simp only[maxLen]at hn;exact aQ (by omega) (by omega)
def db (n:Nat)(c:Nat→Bool):Bool:=(List.range n).all c
theorem dD {n:Nat}{c:Nat→Bool}(h:∀i,i<n→c i=true):db n c=true:=by simpa[db]using h
theorem eD {n k:Nat}{c:Nat→Bool}(hk:k<n)(h:c k=false):db n c=false:=by
 simp only[db,List.all_eq_false,List.mem_range];exact⟨k,hk,by simp[h]⟩
def cb (xs:List Int)(n:Int):Bool:=xs.any fun x=>decide (x=n)
theorem oM (xs:List Int)(n:Int):TC Tw.prog E 118 [gR (aY xs),gI .i64 n] 0 [] (gB (cb xs n)) []:=by
 refine tE Tryz.f118 Tryz.ntmps118 (by rw[Tryz.results118]) ?_
 refine TW.len 0 rfl fun hlen=>?_;simp only[List.length_map]at hlen;(refine TW.go ?_;simp;repeat' first|intro hc|refine aa.mk ?_|refine aI ?_|refine af ?_ ?_)
 refine tL (fun k=>⟨[(0,gR (aY xs)),(1,gI .i64 n),(5,gI .i64 (k:Nat))],[],0⟩) (fun k=>k≤xs.length∧∀(i:Nat) (x:Int),i<k→xs[i]?=some x→x≠n) (fun k=>xs.length-k) 0 ⟨by omega,fun i x hi=>by omega⟩ (kS) fun k hk=>?_
 obtain⟨hk,hf⟩:=hk;by_cases ak:k<xs.length
 ·have he:xs[k]?=some xs[k]:=List.getElem?_eq_getElem ak
  (refine TW.go ?_;simp[ak,he,wrap_add ak hlen];repeat' first|intro hc|refine aa.mk ?_|refine aI ?_|refine af ?_ ?_)
  ·refine aT.nil (r:=gB (cb xs n)) ?_ rfl
   simp[cb];exact hc▸List.getElem_mem ak
  ·refine⟨k+1,⟨by omega,fun i y hi hy=>?_⟩,by omega,kS⟩
   by_cases e:i=k
   ·subst e;rw[he]at hy;cases hy;exact hc
   ·exact hf i y (by omega) hy
 ·obtain rfl:k=xs.length:=by omega
  (refine TW.go ?_;simp;repeat' first|intro hc|refine aa.mk ?_|refine aI ?_|refine af ?_ ?_)
  refine aT.nil (r:=gB (cb xs n)) ?_ rfl;simp[cb];intro x hx e;obtain⟨i,hi,rfl⟩:=List.getElem_of_mem hx;exact hf i _ hi (List.getElem?_eq_getElem hi) e
def pI (xs:List Int)(i:Nat):Bool:=bM (xs.getD i 0)&&(decide (i=0)||decide (xs.getD (i-1) 0<xs.getD i 0))
def cB (xs:List Int):Bool:=db xs.length (pI xs)&&decide (0<xs.length)
theorem oN (xs:List Int):TC Tw.prog E 93 [gR (aY xs)] 0 [] (gB (cB xs)) []:=by
 refine tE Tryz.f93 Tryz.ntmps93 (by rw[Tryz.results93]) ?_
 refine TW.len 0 rfl fun hlen=>?_;simp only[List.length_map]at hlen;(refine TW.go ?_;simp;repeat' first|intro hc|refine aa.mk ?_|refine aI ?_|refine af ?_ ?_)
 refine tL (fun k=>⟨[(0,gR (aY xs)),(3,gI .i64 (k:Nat))],[],0⟩) (fun k=>k≤xs.length∧∀i,i<k→pI xs i=true) (fun k=>xs.length-k) 0 ⟨by omega,fun i hi=>by omega⟩ (kS) fun k hk=>?_
 obtain⟨hk,hf⟩:=hk;by_cases ak:k<xs.length
 ·have he:xs[k]?=some xs[k]:=List.getElem?_eq_getElem ak
  have hq:cB xs=false∨pI xs k=true:=by
   cases h:pI xs k
   ·exact .inl (by simp[cB,eD ak h])
   ·exact .inr rfl
  rcases k with _|k
  ·have bT:pI xs 0=bM xs[0]:=by simp[pI,ak]
   (refine TW.go ?_;simp[ak,he];repeat' first|intro hc|refine aa.mk ?_|refine aI ?_|refine af ?_ ?_|(refine cP ?_;refine⟨_,rM _,?_⟩;simp[ak,he]))
   ·refine⟨1,⟨by omega,fun i hi=>?_⟩,by omega,kS⟩
    obtain rfl:i=0:=by omega
    simpa[bT]
   ·refine aT.nil (r:=gB (cB xs)) ?_ rfl
    have:cB xs=false:=by simp_all
    simp[this]
  ·have du:xs[k]?=some xs[k]:=List.getElem?_eq_getElem (by omega)
   have hw:=l8 (k:=k) (by omega)
   have aE:=wrap_add (k:=k+1) ak hlen;simp only[Int.natCast_add,Int.natCast_one]at aE;have dK:(0:Int)<(k:Int)+1:=by omega
   have an:(k:Int)+1<(xs.length:Int):=by omega
   have bT:pI xs (k+1)=(bM xs[k+1]&&decide (xs[k]<xs[k+1])):=by simp[pI,ak,show k<xs.length by omega]
   (refine TW.go ?_;simp[ak,he,du,hw,aE,dK,an];repeat' first|intro hc|refine aa.mk ?_|refine aI ?_|refine af ?_ ?_|(refine cP ?_;refine⟨_,rM _,?_⟩;simp[ak,he,du,hw,aE,dK,an]))
   all_goals first
    |(refine⟨k+1+1,⟨by omega,fun i hi=>?_⟩,by omega,kS⟩
      by_cases e:i=k+1
      ·subst e;simp_all
      ·exact hf i (by omega))
    |(refine aT.nil (r:=gB (cB xs)) ?_ rfl
      rcases hq with hq|hq
      ·simp[hq]
      ·exfalso
       first|(simp_all;done)|(simp_all;omega))
 ·obtain rfl:k=xs.length:=by omega
  (refine TW.go ?_;simp;repeat' first|intro hc|refine aa.mk ?_|refine aI ?_|refine af ?_ ?_)
  refine aT.nil (r:=gB (cB xs)) ?_ rfl;simp[cB,dD hf]
end Go.Proofs.YtabjbdnokpjipaaGreat.T
namespace Go.Proofs.YtabjbdnokpjipaaGreat.T
open Go Go.RowKit
set_option maxRecDepth 100000
variable {E:List PanicEntry→World→Prop}
def au (g:aF):List RT:=[rI g.id,rI g.clock,dj g.pend,dj g.done]
abbrev F3 (g:aF) (p d:Nat):GV:= .a [.r (rI g.id),.r (rI g.clock),.own p,.own d]
abbrev dU (es:List aB):az:= .rows 38 4 (es.map aG)
def jv (g:aF)(n:Nat):Prop:=g.pend.length≤n∧g.done.length≤n
theorem eR (g:aF)(h:jv g 4294967296):TC Tw.prog E 80 [.a ((au g).map .r)] 0 [] (F3 g 0 1) [(0,dU g.pend),(1,dU g.done)]:=by
 obtain⟨hp,hd⟩:=h;refine tE Tryz.f80 Tryz.ntmps80 (by rw[Tryz.results80]) ?_
 (refine TW.go ?_;simp[au,maxLen];repeat' first|intro hc|refine aa.mk ?_|refine aI ?_|refine af ?_ ?_)
 exact oW [3,5] []
abbrev dq (gs:List aF):RT:= .sl 4 (gs.map au)
def iC (gs:List aF)(n:Nat):Prop:=gs.length≤n∧∀g∈gs,jv g n
theorem Dj (gs:List aF)(h:iC gs 4294967296):TC Tw.prog E 45 [gR (dq gs)] 0 [] (.s (.own 0)) [(0,.rows 43 4 (gs.map au))]:=by
 obtain⟨hl,hg⟩:=h;refine tE Tryz.f45 Tryz.ntmps45 (by rw[Tryz.results45]) ?_
 have hlen:gs.length≤maxLen:=by simp only[maxLen];omega
 (refine TW.go ?_;simp;repeat' first|intro hc|refine aa.mk ?_|refine aI ?_|refine af ?_ ?_)
 refine tL (fun k=>⟨[(0,gR (dq gs)),(3,.s (.own 0)),(4,gI .i64 (k:Nat))],[(0,.rows 43 4 ((gs.take k).map au))],1⟩) (fun k=>k≤gs.length) (fun k=>gs.length-k) 0 (by omega) (kO [0] []) fun k hk=>?_
 by_cases ak:k<gs.length
 ·have he:gs[k]?=some gs[k]:=List.getElem?_eq_getElem ak
  have QL:=hg gs[k] (List.getElem_mem ak);(refine TW.go ?_;simp[ak,he,au,wrap_add ak hlen,maxLen];repeat' first|intro hc|refine aa.mk ?_|refine aI ?_|refine af ?_ ?_|(refine cF [] 2 ?_;refine⟨_,_,eR _ QL,?_⟩;simp[ak,he,au,wrap_add ak hlen,maxLen]))
  refine⟨k+1,by omega,by omega,Wk.own [4] [] (by simp) (by simp) (by simp[fl he,au]) (by simp) (by simp)⟩
 ·obtain rfl:k=gs.length:=by omega
  (refine TW.go ?_;simp;repeat' first|intro hc|refine aa.mk ?_|refine aI ?_|refine af ?_ ?_)
  exact oW [0] []
end Go.Proofs.YtabjbdnokpjipaaGreat.T
namespace Go.Proofs.YtabjbdnokpjipaaGreat.T
open Go Go.RowKit
set_option maxRecDepth 100000
set_option maxHeartbeats 4000000
variable {E:List PanicEntry→World→Prop}
theorem sV (m:Int):∀(es:List aB) (k:Nat),(dm m es k= -1∧es.find? (fun e=>decide (e.m=m))=none)∨∃j e,dm m es k=((k+j:Nat):Int)∧es[j]?=some e∧es.find? (fun e=>decide (e.m=m))=some e∧e.m=m
 |[],k=> .inl ⟨rfl,rfl⟩
 |e::es,k=>by
  by_cases h:e.m=m
  ·exact .inr ⟨0,e,by simp[dm,h],rfl,by simp[h],h⟩
  ·rcases sV m es (k+1)with⟨h1,h2⟩|⟨j,x,h1,h2,h3,h4⟩
   ·exact .inl ⟨by simp[dm,h,h1],by simp[h,h2]⟩
   ·exact .inr ⟨j+1,x,by simp only[dm,h,if_false,h1];omega,by simpa using h2,by simp[h,h3],h4⟩
theorem ee (es:List aB)(m:Int):(dN es m= -1∧es.find? (fun e=>decide (e.m=m))=none)∨∃(j:Nat) (e:aB),dN es m=(j:Int)∧es[j]?=some e∧es.find? (fun e=>decide (e.m=m))=some e∧e.m=m:=by
 rcases sV m es 0 with h|⟨j,e,h1,h2⟩
 ·exact .inl h
 ·exact .inr ⟨j,e,by simpa[dN]using h1,h2⟩
def aU (g:aF)(m:Int):Option aB:=match g.pend.find? (fun e=>decide (e.m=m))with
 |some e=>some e
 |none=>g.done.find? (fun e=>decide (e.m=m))
abbrev oO (e:aB):GV:= .a ((aG e).map .r)
def pJ (g:aF)(m:Int):GV:=match aU g m with
 |some e=> .p [oO e,gB true]
 |none=> .p [oO aB.zero,gB false]
theorem Nw (g:aF)(m:Int):TC Tw.prog E 100 [.a ((au g).map .r),gI .i64 m] 0 [] (pJ g m) []:=by
 refine tE Tryz.f100 Tryz.ntmps100 (by rw[Tryz.results100]) ?_
 rcases ee g.pend m with⟨hp,bw⟩|⟨j,e,hp,he,bw,_⟩
 ·rcases ee g.done m with⟨hd,tG⟩|⟨j,e,hd,he,tG,_⟩
  ·(refine TW.go ?_;simp[au,hp,hd];repeat' first|intro hc|refine aa.mk ?_|refine aI ?_|refine af ?_ ?_|(refine cP ?_;refine⟨_,eQ _ _,?_⟩;simp[au,hp,hd]))
   rw[show pJ g m= .p [oO aB.zero,gB false] by simp[pJ,aU,bw,tG]]
   refine aT.nil (r:= .p [oO aB.zero,gB false]) ?_ rfl;simp[aG,aB.zero]
  ·(refine TW.go ?_;simp[au,aG,hp,hd,he];repeat' first|intro hc|refine aa.mk ?_|refine aI ?_|refine af ?_ ?_|(refine cP ?_;refine⟨_,eQ _ _,?_⟩;simp[au,aG,hp,hd,he]))
   rw[show pJ g m= .p [oO e,gB true] by simp[pJ,aU,bw,tG]]
   refine aT.nil (r:= .p [oO e,gB true]) ?_ rfl;simp[aG]
 ·(refine TW.go ?_;simp[au,aG,hp,he];repeat' first|intro hc|refine aa.mk ?_|refine aI ?_|refine af ?_ ?_|(refine cP ?_;refine⟨_,eQ _ _,?_⟩;simp[au,aG,hp,he]))
  rw[show pJ g m= .p [oO e,gB true] by simp[pJ,aU,bw]]
  refine aT.nil (r:= .p [oO e,gB true]) ?_ rfl;simp[aG]
def Dk (id clock:Int)(es:List aB)(i:Nat):Bool:=match es[i]? with
 |some e=>bj e.m&&bc e.t e.g&&decide (e.t≤clock)&&(decide (i=0)||(match es[i-1]? with|some d=>aO d.t d.g e.t e.g|none=>true))&&decide (dN (es.take i) e.m<0)&&(e.f||decide (e.g=id))
 |none=>true
def oP (id clock:Int)(es:List aB):Bool:=db es.length (Dk id clock es)
end Go.Proofs.YtabjbdnokpjipaaGreat.T
namespace Go.Proofs.YtabjbdnokpjipaaGreat.T
open Go Go.RowKit
set_option maxRecDepth 100000
set_option maxHeartbeats 4000000
variable {E:List PanicEntry→World→Prop}
def rN (g:aF)(i:Nat):Bool:=match g.done[i]? with
 |some e=>e.f&&decide (dN g.pend e.m<0)
 |none=>true
def oQ (g:aF):Bool:=match g.pend with
 |[]=>true
 |p::_=> !p.f&&(match g.done.getLast? with
  |some d=>aO d.t d.g p.t p.g
  |none=>true)
def bB (g:aF):Bool:=bM g.id&&decide (0≤g.clock∧g.clock≤999)&&oP g.id g.clock g.pend&&oP g.id g.clock g.done&&db g.done.length (rN g)&&oQ g
end Go.Proofs.YtabjbdnokpjipaaGreat.T
namespace Go.Proofs.YtabjbdnokpjipaaGreat.T
open Go Go.RowKit
set_option maxRecDepth 100000
set_option maxHeartbeats 4000000
variable {E:List PanicEntry→World→Prop}
def aV (g:aF)(m:Int):aB:=(aU g m).getD aB.zero
def cc (g:aF)(m:Int):Bool:=(aU g m).isSome
theorem lp (g:aF)(m:Int):TC Tw.prog E 100 [.a ((au g).map .r),gI .i64 m] 0 [] (.p [oO (aV g m),gB (cc g m)]) []:=by
 have:=Nw (E:=E) g m
 unfold pJ at this;unfold aV cc
 cases h:aU g m with
 |none=>rw[h]at this;exact this
 |some e=>rw[h]at this;exact this
def zu (a b:aF)(m:Int):Bool:=
 !(cc a m&&(aV a m).f)|| !(cc b m&&(if(aV b m).f then !(decide ((aV b m).t=(aV a m).t)&&decide ((aV b m).g=(aV a m).g))else aO (aV a m).t (aV a m).g (aV b m).t (aV b m).g))
def gAt (gs:List aF)(i:Nat):aF:=gs.getD i ⟨0,0,[],[]⟩
def R3 (gs:List aF)(m i:Nat):Bool:=db gs.length fun k=>zu (gAt gs i) (gAt gs k) m
def Dl (gs:List aF)(m:Nat):Bool:=db gs.length (R3 gs m)
def E1 (gs:List aF)(i:Nat):Bool:=bB (gAt gs i)&&decide ((gAt gs i).id=i)
def jM (gs:List aF):Bool:=decide (gs.length=5)&&db gs.length (E1 gs)&&db 12 (Dl gs)
end Go.Proofs.YtabjbdnokpjipaaGreat.T
namespace Go.Proofs.YtabjbdnokpjipaaGreat.T
open Go Go.RowKit
set_option maxRecDepth 100000
set_option maxHeartbeats 4000000
variable {E:List PanicEntry→World→Prop}
def eE (s:Int×Int):List RT:=[rI s.1,rI s.2]
abbrev lq (xs:List (Int×Int)):RT:= .sl 2 (xs.map eE)
abbrev mU (s:Int×Int):GV:= .a [.r (rI s.1),.r (rI s.2)]
def eF (a:Int×Int):List (Int×Int)→Int×Int
 |[]=>a
 |x::xs=>eF (if aO a.1 a.2 x.1 x.2=true then x else a) xs
theorem Dm {a x:Int×Int}{xs:List (Int×Int)}{k:Nat}(h:xs[k]?=some x):eF a (xs.drop k)=eF (if aO a.1 a.2 x.1 x.2=true then x else a) (xs.drop (k+1)):=by
 obtain⟨hk,he⟩:=List.getElem?_eq_some_iff.1 h;rw[List.drop_eq_getElem_cons hk,eF,he]
theorem NA (x:Int×Int)(xs:List (Int×Int)):TC Tw.prog E 120 [gR (lq (x::xs))] 0 [] (mU (eF x xs)) []:=by
 refine tE Tryz.f120 Tryz.ntmps120 (by rw[Tryz.results120]) ?_
 refine TW.len 0 rfl fun hlen=>?_;simp only[List.length_map]at hlen;generalize EP:x::xs=ys at*;have h0:ys[0]?=some x:=by rw[←EP];rfl
 have hM:eF x xs=eF x (ys.drop 1):=by rw[←EP];rfl
 have dK:1≤ys.length:=by rw[←EP];simp
 rw[hM];clear EP hM;(refine TW.go ?_;simp[h0,eE];repeat' first|intro hc|refine aa.mk ?_|refine aI ?_|refine af ?_ ?_)
 refine tL (fun(p:Nat×(Int×Int))=>⟨[(0,gR (lq ys)),(2,.s (.ptr 1 0)),(3,.s (.ptr 0 0)),(4,gI .i64 (p.1:Nat))],[(0,.box [.r (rI p.2.1),.r (rI p.2.2)]),(1,.box [.r (rI 0),.r (rI 0)])],2⟩) (fun p=>p.1≤ys.length∧eF p.2 (ys.drop p.1)=eF x (ys.drop 1)) (fun p=>ys.length-p.1) (1,x) ⟨dK,rfl⟩ (kO [1,0] []) fun p hp=>?_;obtain⟨k,b⟩:=p;obtain⟨hk,hb⟩:=hp;simp only at hk hb⊢
 by_cases ak:k<ys.length
 ·have he:ys[k]?=some ys[k]:=List.getElem?_eq_getElem ak
  have hd:=Dm (a:=b) he;(refine TW.go ?_;simp[ak,he,eE,wrap_add ak hlen];repeat' first|intro hc|refine aa.mk ?_|refine aI ?_|refine af ?_ ?_|(refine cP ?_;refine⟨_,jH _ _ _ _,?_⟩;simp[ak,he,eE,wrap_add ak hlen]))
  ·exact⟨(k+1,ys[k]),⟨by simp only;omega,by rw[←hb,hd,if_pos hc]⟩,by simp only;omega,kO [0,1] []⟩
  ·exact⟨(k+1,b),⟨by simp only;omega,by rw[←hb,hd,if_neg (by simp[hc])]⟩,by simp only;omega,kO [0,1] []⟩
 ·obtain rfl:k=ys.length:=by omega
  (refine TW.go ?_;simp;repeat' first|intro hc|refine aa.mk ?_|refine aI ?_|refine af ?_ ?_)
  rw[List.drop_length]at hb;simp only[eF]at hb;rw[←hb];refine aT.nil (r:=mU b) ?_ rfl;simp
end Go.Proofs.YtabjbdnokpjipaaGreat.T
namespace Go.Proofs.YtabjbdnokpjipaaGreat.T
open Go Go.RowKit
set_option maxRecDepth 100000
set_option maxHeartbeats 4000000
variable {E:List PanicEntry→World→Prop}
def aD (g:aF)(m:Int):aF×(Int×Int)×Bool:=match g.pend.find? (fun e=>decide (e.m=m))with
 |some e=>if e.f=true then(g,(0,0),false)else(g,(e.t,e.g),true)
 |none=>match g.done.find? (fun e=>decide (e.m=m))with
  |some _=>(g,(0,0),false)
  |none=>if 999≤g.clock then(g,(0,0),false)else(⟨g.id,g.clock+1,g.pend++[⟨m,g.clock+1,g.id,false⟩],g.done⟩,(g.clock+1,g.id),true)
abbrev F4 (r:aF×(Int×Int)×Bool):GV:= .p [F3 r.1 0 1,mU r.2.1,gB r.2.2]
abbrev R4 (g:aF):List (Nat×az):=[(0,dU g.pend),(1,dU g.done)]
theorem pZ (g:aF)(m:Int)(h:jv g 4294967290)(h0:0≤g.clock):TC Tw.prog E 94 [.a ((au g).map .r),gI .i64 m] 0 [] (F4 (aD g m)) (R4 (aD g m).1):=by
 obtain⟨qv,QR⟩:=h;have hle:jv g 4294967296:=⟨by omega,by omega⟩
 refine tE Tryz.f94 Tryz.ntmps94 (by rw[Tryz.results94]) ?_
 rcases ee g.pend m with⟨hp,bw⟩|⟨j,e,hp,he,bw,_⟩
 ·rcases ee g.done m with⟨hd,tG⟩|⟨j,e,hd,he,tG,_⟩
  ·by_cases h9:999≤g.clock
   ·have hr:aD g m=(g,(0,0),false):=by simp[aD,bw,tG,h9]
    rw[hr];(refine TW.go ?_;simp[au,aG,hp,hd,h9];repeat' first|intro hc|refine aa.mk ?_|refine aI ?_|refine af ?_ ?_|(refine cP ?_;refine⟨_,eQ _ _,?_⟩;simp[au,aG,hp,hd,h9])|(refine cF [] 2 ?_;refine⟨_,_,eR _ hle,?_⟩;simp[au,aG,hp,hd,h9]))
    exact oW [3,4] []
   ·have hr:aD g m=(⟨g.id,g.clock+1,g.pend++[⟨m,g.clock+1,g.id,false⟩],g.done⟩,(g.clock+1,g.id),true):=by simp[aD,bw,tG,h9]
    have hw:IntKind.i64.wrap (g.clock+1)=g.clock+1:=aQ (by omega) (by omega)
    rw[hr];(refine TW.go ?_;simp[au,aG,hp,hd,h9,hw,maxLen];repeat' first|intro hc|refine aa.mk ?_|refine aI ?_|refine af ?_ ?_|(refine cP ?_;refine⟨_,eQ _ _,?_⟩;simp[au,aG,hp,hd,h9,hw,maxLen])|(refine cF [] 2 ?_;refine⟨_,_,eR _ hle,?_⟩;simp[au,aG,hp,hd,h9,hw,maxLen]))
    exact aT.own [8,4] [] (by simp;rfl) (by simp) (by simp) (by simp) (by simp[aG]) (by simp)
  ·have hr:aD g m=(g,(0,0),false):=by simp[aD,bw,tG]
   rw[hr];(refine TW.go ?_;simp[au,aG,hp,hd];repeat' first|intro hc|refine aa.mk ?_|refine aI ?_|refine af ?_ ?_|(refine cP ?_;refine⟨_,eQ _ _,?_⟩;simp[au,aG,hp,hd])|(refine cF [] 2 ?_;refine⟨_,_,eR _ hle,?_⟩;simp[au,aG,hp,hd]))
   exact oW [3,4] []
 ·cases hf:e.f
  ·have hr:aD g m=(g,(e.t,e.g),true):=by simp[aD,bw,hf]
   rw[hr];(refine TW.go ?_;simp[au,aG,hp,he,hf];repeat' first|intro hc|refine aa.mk ?_|refine aI ?_|refine af ?_ ?_|(refine cP ?_;refine⟨_,eQ _ _,?_⟩;simp[au,aG,hp,he,hf])|(refine cF [] 2 ?_;refine⟨_,_,eR _ hle,?_⟩;simp[au,aG,hp,he,hf]))
   exact oW [3,4] []
  ·have hr:aD g m=(g,(0,0),false):=by simp[aD,bw,hf]
   rw[hr];(refine TW.go ?_;simp[au,aG,hp,he,hf];repeat' first|intro hc|refine aa.mk ?_|refine aI ?_|refine af ?_ ?_|(refine cP ?_;refine⟨_,eQ _ _,?_⟩;simp[au,aG,hp,he,hf])|(refine cF [] 2 ?_;refine⟨_,_,eR _ hle,?_⟩;simp[au,aG,hp,he,hf]))
   exact oW [3,4] []
end Go.Proofs.YtabjbdnokpjipaaGreat.T
namespace Go.Proofs.YtabjbdnokpjipaaGreat.T
open Go Go.RowKit
set_option maxRecDepth 100000
set_option maxHeartbeats 4000000
variable {E:List PanicEntry→World→Prop}
theorem oR (n:Int):TC Tw.prog E 50 [gI .i64 n] 0 [] (gB (bM n)) []:=by
 refine tE Tryz.f50 Tryz.ntmps50 (by rw[Tryz.results50]) ?_
 (refine TW.go ?_;simp;repeat' first|intro hc|refine aa.mk ?_|refine aI ?_|refine af ?_ ?_)
 all_goals refine aT.nil (r:=gB (bM n)) ?_ rfl
 all_goals(first|(simp[bM];done)|(simp[bM, *];done)|(simp[bM];intros;omega)|(simp[bM, *];intros;omega)|(rw[Bool.eq_iff_iff];simp[bM, *];intros;omega)|(simp[bM, *];rw[Bool.eq_iff_iff];simp;intros;omega)|(intros;omega))
theorem fL (n:Int):TC Tw.prog E 64 [gI .i64 n] 0 [] (gB (bj n)) []:=by
 refine tE Tryz.f64 Tryz.ntmps64 (by rw[Tryz.results64]) ?_
 (refine TW.go ?_;simp;repeat' first|intro hc|refine aa.mk ?_|refine aI ?_|refine af ?_ ?_)
 all_goals refine aT.nil (r:=gB (bj n)) ?_ rfl
 all_goals(first|(simp[bj];done)|(simp[bj, *];done)|(simp[bj];intros;omega)|(simp[bj, *];intros;omega)|(rw[Bool.eq_iff_iff];simp[bj, *];intros;omega)|(simp[bj, *];rw[Bool.eq_iff_iff];simp;intros;omega)|(intros;omega))
theorem F5 (n:Int):TC Tw.prog E 51 [gI .i64 n] 0 [] (gB (ju n)) []:=by
 refine tE Tryz.f51 Tryz.ntmps51 (by rw[Tryz.results51]) ?_
 (refine TW.go ?_;simp;repeat' first|intro hc|refine aa.mk ?_|refine aI ?_|refine af ?_ ?_)
 all_goals refine aT.nil (r:=gB (ju n)) ?_ rfl
 all_goals(first|(simp[ju];done)|(simp[ju, *];done)|(simp[ju];intros;omega)|(simp[ju, *];intros;omega)|(rw[Bool.eq_iff_iff];simp[ju, *];intros;omega)|(simp[ju, *];rw[Bool.eq_iff_iff];simp;intros;omega)|(intros;omega))
theorem dc (t g:Int):TC Tw.prog E 82 [mU (t,g)] 0 [] (gB (bc t g)) []:=by
 refine tE Tryz.f82 Tryz.ntmps82 (by rw[Tryz.results82]) ?_
 (refine TW.go ?_;simp;repeat' first|intro hc|refine aa.mk ?_|refine aI ?_|refine af ?_ ?_|(refine cP ?_;refine⟨_,oR _,?_⟩;simp))
 all_goals refine aT.nil (r:=gB (bc t g)) ?_ rfl
 all_goals(first|(simp[bc];done)|(simp[bc, *];done)|(simp[bc];intros;omega)|(simp[bc, *];intros;omega)|(rw[Bool.eq_iff_iff];simp[bc, *];intros;omega)|(simp[bc, *];rw[Bool.eq_iff_iff];simp;intros;omega)|(intros;omega))
theorem iD (t g t' g':Int):TC Tw.prog E 54 [mU (t,g),mU (t',g')] 0 [] (gB (aO t g t' g')) []:=by
 refine tE Tryz.f54 Tryz.ntmps54 (by rw[Tryz.results54]) ?_
 (refine TW.go ?_;simp;repeat' first|intro hc|refine aa.mk ?_|refine aI ?_|refine af ?_ ?_)
 all_goals refine aT.nil (r:=gB (aO t g t' g')) ?_ rfl
 all_goals(first|(simp[aO];done)|(simp[aO, *];done)|(simp[aO];intros;omega)|(simp[aO, *];intros;omega)|(rw[Bool.eq_iff_iff];simp[aO, *];intros;omega)|(simp[aO, *];rw[Bool.eq_iff_iff];simp;intros;omega)|(intros;omega))
def qB (id clock:Int)(es:List aB)(i:Nat):Bool:=match es[i]? with
 |some e=>bj e.m&&bc e.t e.g&&decide (e.t≤clock)&&(e.f||decide (e.g=id))&&(decide (i=0)||(match es[i-1]? with|some d=>aO d.t d.g e.t e.g|none=>true))
 |none=>true
def lM (id clock:Int)(es:List aB):Bool:=db es.length (qB id clock es)
theorem vT (g:aF)(es:List aB):TC Tw.prog E 52 [.a ((au g).map .r),gR (dj es)] 0 [] (gB (lM g.id g.clock es)) []:=by
 refine tE Tryz.f52 Tryz.ntmps52 (by rw[Tryz.results52]) ?_
 refine TW.len 1 rfl fun hlen=>?_;simp only[List.length_map]at hlen;(refine TW.go ?_;simp;repeat' first|intro hc|refine aa.mk ?_|refine aI ?_|refine af ?_ ?_)
 refine tL (fun(k:Nat)=>⟨[(1,gR (dj es)),(2,.s (.ptr 0 0)),(7,gR (dj es)),(8,gI .i64 es.length),(9,gI .i64 (k:Nat))],[(0,.box ((au g).map .r))],1⟩) (fun k=>k≤es.length∧∀i,i<k→qB g.id g.clock es i=true) (fun k=>es.length-k) 0 ⟨by omega,fun i hi=>by omega⟩ (kO [0] []) fun k hk=>?_
 obtain⟨hk,hf⟩:=hk;by_cases ak:k<es.length
 ·have he:es[k]?=some es[k]:=List.getElem?_eq_getElem ak
  have hq:lM g.id g.clock es=false∨qB g.id g.clock es k=true:=by
   cases h:qB g.id g.clock es k
   ·exact .inl (by simp[lM,eD ak h])
   ·exact .inr rfl
  rcases k with _|k
  ·have bT:qB g.id g.clock es 0=(bj es[0].m&&bc es[0].t es[0].g&&decide (es[0].t≤g.clock)&&(es[0].f||decide (es[0].g=g.id))):=by simp[qB,he]
   (refine TW.go ?_;simp[ak,he,au,aG];repeat' first|intro hc|refine aa.mk ?_|refine aI ?_|refine af ?_ ?_|(refine cP ?_;(first|refine⟨_,fL _,?_⟩|refine⟨_,dc _ _,?_⟩|refine⟨_,iD _ _ _ _,?_⟩);simp[ak,he,au,aG]))
   all_goals first
    |(refine⟨1,⟨by omega,fun i hi=>?_⟩,by omega,Wk.own [0] [] (by simp) (by simp) (by simp[au]) (by simp) (by simp)⟩
      obtain rfl:i=0:=by omega
      simp_all)
    |(refine aT.nil (r:=gB (lM g.id g.clock es)) ?_ rfl
      rcases hq with hq|hq
      ·simp[hq]
      ·exfalso
       first|(simp_all;done)|(clear hf;simp_all;done)|(clear hf;rw[bT]at hq;simp only[Bool.and_eq_true]at hq;rw[hq.2]at hc;cases hc)|(simp_all;omega))
  ·have du:es[k]?=some es[k]:=List.getElem?_eq_getElem (by omega)
   have hw:=l8 (k:=k) (by omega)
   have aE:=wrap_add (k:=k+1) ak hlen;simp only[Int.natCast_add,Int.natCast_one]at aE;have dK:(0:Int)<(k:Int)+1:=by omega
   have an:(k:Int)+1<(es.length:Int):=by omega
   have bT:qB g.id g.clock es (k+1)=(bj es[k+1].m&&bc es[k+1].t es[k+1].g&&decide (es[k+1].t≤g.clock)&&(es[k+1].f||decide (es[k+1].g=g.id))&&aO es[k].t es[k].g es[k+1].t es[k+1].g):=by simp[qB,he,du]
   (refine TW.go ?_;simp[ak,hk,he,du,hw,aE,dK,an,au,aG];repeat' first|intro hc|refine aa.mk ?_|refine aI ?_|refine af ?_ ?_|(refine cP ?_;(first|refine⟨_,fL _,?_⟩|refine⟨_,dc _ _,?_⟩|refine⟨_,iD _ _ _ _,?_⟩);simp[ak,hk,he,du,hw,aE,dK,an,au,aG]))
   all_goals first
    |(refine⟨k+1+1,⟨by omega,fun i hi=>?_⟩,by omega,Wk.own [0] [] (by simp) (by simp) (by simp[au]) (by simp) (by simp)⟩
      by_cases e:i=k+1
      ·subst e;simp_all
      ·exact hf i (by omega))
    |(refine aT.nil (r:=gB (lM g.id g.clock es)) ?_ rfl
      rcases hq with hq|hq
      ·simp[hq]
      ·exfalso
       first|(simp_all;done)|(clear hf;simp_all;done)|(clear hf;rw[bT]at hq;simp only[Bool.and_eq_true]at hq;rw[hq.2]at hc;cases hc)|(simp_all;omega))
 ·obtain rfl:k=es.length:=by omega
  (refine TW.go ?_;simp;repeat' first|intro hc|refine aa.mk ?_|refine aI ?_|refine af ?_ ?_)
  refine aT.nil (r:=gB (lM g.id g.clock es)) ?_ rfl;simp[lM,dD hf]
theorem iT (es:List aB)(h:es.length≤4294967296):TC Tw.prog E 53 [gR (dj es)] 0 [] (.s (.own 0)) [(0,dU es)]:=by
 refine tE Tryz.f53 Tryz.ntmps53 (by rw[Tryz.results53]) ?_
 (refine TW.go ?_;simp[maxLen];repeat' first|intro hc|refine aa.mk ?_|refine aI ?_|refine af ?_ ?_)
 exact oW [1] []
theorem oS (es:List aB)(m:Int):TC Tw.prog E 34 [gR (dj es),gI .i64 m] 0 [] (gI .i64 (dN es m)) []:=by
 refine tE Tryz.f34 Tryz.ntmps34 (by rw[Tryz.results34]) ?_
 refine TW.len 0 rfl fun hlen=>?_;simp only[List.length_map]at hlen;(refine TW.go ?_;simp;repeat' first|intro hc|refine aa.mk ?_|refine aI ?_|refine af ?_ ?_)
 refine tL (fun(k:Nat)=>⟨[(1,gI .i64 m),(7,gR (dj es)),(8,gI .i64 es.length),(9,gI .i64 (k:Nat))],[],0⟩) (fun k=>k≤es.length∧dm m (es.drop k) k=dN es m) (fun k=>es.length-k) 0 ⟨by omega,rfl⟩ (kS) fun k hk=>?_
 obtain⟨hk,hf⟩:=hk;by_cases ak:k<es.length
 ·have he:es[k]?=some es[k]:=List.getElem?_eq_getElem ak
  have hd:=ui (m:=m) he;rw[hf]at hd;by_cases hm:es[k].m=m
  ·rw[if_pos hm]at hd
   (refine TW.go ?_;simp[ak,he,aG,hm,wrap_add ak hlen];repeat' first|intro hc|refine aa.mk ?_|refine aI ?_|refine af ?_ ?_)
   refine aT.nil (r:=gI .i64 (dN es m)) ?_ rfl;simp[hd]
  ·rw[if_neg hm]at hd
   (refine TW.go ?_;simp[ak,he,aG,hm,wrap_add ak hlen];repeat' first|intro hc|refine aa.mk ?_|refine aI ?_|refine af ?_ ?_)
   exact⟨k+1,⟨by omega,hd.symm⟩,by omega,kS⟩
 ·obtain rfl:k=es.length:=by omega
  rw[List.drop_length]at hf;(refine TW.go ?_;simp;repeat' first|intro hc|refine aa.mk ?_|refine aI ?_|refine af ?_ ?_)
  refine aT.nil (r:=gI .i64 (dN es m)) ?_ rfl;simp[←hf,dm]
end Go.Proofs.YtabjbdnokpjipaaGreat.T
namespace Go.Proofs.YtabjbdnokpjipaaGreat.T
open Go Go.RowKit
set_option maxRecDepth 100000
set_option maxHeartbeats 4000000
variable {E:List PanicEntry→World→Prop}
theorem R5 (es:List aB):TC Tw.prog E 196 [gR (dj es)] 0 [] (gI .i64 es.length) []:=by
 refine tE Tryz.f196 Tryz.ntmps196 (by rw[Tryz.results196]) ?_
 (refine TW.go ?_;simp;repeat' first|intro hc|refine aa.mk ?_|refine aI ?_|refine af ?_ ?_)
 refine aT.nil (r:=gI .i64 es.length) ?_ rfl;simp
theorem jZ {es:List aB}{i j:Nat}{a b:aB}(ha:es[i]?=some a)(hb:es[j]?=some b):TC Tw.prog E 197 [gR (dj es),gI .i64 (i:Nat),gI .i64 (j:Nat)] 0 [] (gB (aO a.t a.g b.t b.g)) []:=by
 have hi:=(List.getElem?_eq_some_iff.1 ha).1;have hj:=(List.getElem?_eq_some_iff.1 hb).1;refine tE Tryz.f197 Tryz.ntmps197 (by rw[Tryz.results197]) ?_
 have IM:=(List.getElem?_eq_some_iff.1 ha).2;have cT:=(List.getElem?_eq_some_iff.1 hb).2;(refine TW.go ?_;simp[ha,hb,IM,cT,hi,hj,aG];repeat' first|intro hc|refine aa.mk ?_|refine aI ?_|refine af ?_ ?_|(refine cP ?_;refine⟨_,iD _ _ _ _,?_⟩;simp[ha,hb,IM,cT,hi,hj,aG]))
 refine aT.nil (r:=gB (aO a.t a.g b.t b.g)) ?_ rfl;simp
def fT (es:List aB)(i j:Nat)(a b:aB):List aB:=(es.set i b).set j a
theorem yp {es:List aB}{i j:Nat}{a b:aB}(ha:es[i]?=some a)(hb:es[j]?=some b):TC Tw.prog E 198 [.s (.own 0),gI .i64 (i:Nat),gI .i64 (j:Nat)] 1 [(0,dU es)] (.p []) [(0,dU (fT es i j a b))]:=by
 have hi:=(List.getElem?_eq_some_iff.1 ha).1;have hj:=(List.getElem?_eq_some_iff.1 hb).1;refine tE Tryz.f198 Tryz.ntmps198 (by rw[Tryz.results198]) ?_ (hfit:=(Fits.of (by simp[dw,az.live]) (by simp) (by simp)))
 have IM:=(List.getElem?_eq_some_iff.1 ha).2;have cT:=(List.getElem?_eq_some_iff.1 hb).2;(refine TW.go ?_;simp[ha,hb,IM,cT,hi,hj,aG,List.getElem_set,apply_ite List.length];repeat' first|intro hc|refine aa.mk ?_|refine aI ?_|refine af ?_ ?_)
 refine aT.own [] [] (by simp;rfl) (by simp[fT,aG,List.map_set]) (by simp) (by simp) (by simp[fT,aG,List.map_set]) (by simp)
theorem aaY {es:List aB}{e:aB}(hlen:(es++[e]).length≤maxLen):TC Tw.prog E 199 [.s (.ptr 0 0)] 2 [(0,.box [.own 1]),(1,dU (es++[e]))] (.fD 38 (.a ((aG e).map .r))) [(0,.box [.own 2]),(2,dU es)]:=by
 simp only[List.length_append,List.length_singleton,maxLen]at hlen;have hw:IntKind.i64.wrap (es.length:Int)=es.length:=aQ (by omega) (by omega)
 refine tE Tryz.f199 Tryz.ntmps199 (by rw[Tryz.results199]) ?_ (hfit:=(Fits.of (by simp[dw,az.live]) (by simp) (by simp)))
 (refine TW.go ?_;simp[hw,aG];repeat' first|intro hc|refine aa.mk ?_|refine aI ?_|refine af ?_ ?_)
 refine aT.own [3] [] (by simp;rfl) (by simp[aG]) (by simp) (by simp) (by simp[aG]) (by simp)
def bg (a b:aB):Bool:=aO a.t a.g b.t b.g
def qC (es:List aB)(i n:Nat):Option Nat:=if n≤2*i+1 then none else
 match es[i]?,es[2*i+1]?,es[2*i+2]? with
 |some a,some b,some c=>if 2*i+2<n∧bg c b=true then(if bg c a=true then some (2*i+2)else none)else(if bg b a=true then some (2*i+1)else none)
 |some a,some b,none=>if bg b a=true then some (2*i+1)else none
 |_,_,_=>none
def gM (es:List aB)(i j:Nat):List aB:=match es[i]?,es[j]? with
 |some a,some b=>fT es i j a b
 |_,_=>es
def cE:Nat→List aB→Nat→Nat→List aB×Nat
 |0,es,i,_=>(es,i)
 |f+1,es,i,n=>match qC es i n with
  |some j=>cE f (gM es i j) j n
  |none=>(es,i)
theorem l9 (es:List aB)(i j:Nat)(a b:aB):(fT es i j a b).length=es.length:=by simp[fT]
theorem jI (es:List aB)(i j:Nat):(gM es i j).length=es.length:=by
 unfold gM;split<;>simp[l9]
theorem kx:∀(f:Nat) (es:List aB) (i n:Nat),(cE f es i n).1.length=es.length
 |0,_,_,_=>rfl
 |f+1,es,i,n=>by
  unfold cE;split
  ·rw[kx f,jI]
  ·rfl
abbrev gH:GV:= .fD 184 (.s (.ptr 0 0))
abbrev qS (es:List aB):List (Nat×az):=[(0,.box [.own 1]),(1,dU es)]
theorem R6 (es:List aB)(i n:Nat)(cJ:i≤n)(hi:i<es.length)(hn:n≤es.length)(hlen:es.length≤4294967296):TC Tw.prog E 171 [gH,gI .i64 (i:Nat),gI .i64 (n:Nat)] 2 (qS es) (gB (decide (i<(cE (n+1) es i n).2))) (qS (cE (n+1) es i n).1):=by
 refine tE Tryz.f171 Tryz.ntmps171 (by rw[Tryz.results171]) ?_ (hfit:=(Fits.of (by simp[dw,az.live]) (by simp) (by simp)))
 (refine TW.go ?_;simp;repeat' first|intro hc|refine aa.mk ?_|refine aI ?_|refine af ?_ ?_)
 refine tL (fun(x:Nat×List aB×Nat)=>⟨[(0,gH),(1,gI .i64 (i:Nat)),(2,gI .i64 (n:Nat)),(7,gI .i64 (x.2.2:Nat))],qS x.2.1,2⟩) (fun x=>cE x.1 x.2.1 x.2.2 n=cE (n+1) es i n∧i≤x.2.2∧(x.2.2≤n∧x.2.2<es.length)∧n+1≤x.1+x.2.2∧x.2.1.length=es.length) (fun x=>x.1) (n+1,es,i) ⟨rfl,by simp,⟨cJ,hi⟩,by simp,rfl⟩ (kO [] []) fun⟨f,ys,k⟩ hk=>?_
 dsimp only at hk⊢
 obtain⟨hd,He,⟨gN,yq⟩,p9,Vl⟩:=hk;obtain⟨f,rfl⟩:∃g,f=g+1:=⟨f-1,by omega⟩
 obtain⟨j1,hj1⟩:∃j,j=2*k+1:=⟨_,rfl⟩;obtain⟨j2,hj2⟩:∃j,j=2*k+2:=⟨_,rfl⟩;have aE:IntKind.i64.wrap (2*(k:Int))=2*k:=aQ (by omega) (by omega)
 have cU:IntKind.i64.wrap (2*(k:Int)+1)=(j1:Int):=by rw[show 2*(k:Int)+1=(j1:Int) by omega];exact aQ (by omega) (by omega)
 have ky:IntKind.i64.wrap ((j1:Int)+1)=(j2:Int):=by rw[show(j1:Int)+1=(j2:Int) by omega];exact aQ (by omega) (by omega)
 have oH:¬(j1:Int)<0:=by omega
 have ha:ys[k]?=some ys[k]:=List.getElem?_eq_getElem (by omega)
 generalize ys[k]=a at ha;by_cases cS:n≤j1
 ·have mV:qC ys k n=none:=by unfold qC;rw[if_pos (by omega)]
  have hE:cE (n+1) es i n=(ys,k):=by rw[←hd];unfold cE;rw[mV]
  rw[hE];(refine TW.go ?_;simp[aE,cU,cS];repeat' first|intro hc|refine aa.mk ?_|refine aI ?_|refine af ?_ ?_)
  exact oW [] []
 ·have hb:ys[j1]?=some ys[j1]:=List.getElem?_eq_getElem (by omega)
  generalize ys[j1]=b at hb;by_cases dt:j2<n
  ·have hc:ys[j2]?=some ys[j2]:=List.getElem?_eq_getElem (by omega)
   generalize ys[j2]=c at hc;have mV:qC ys k n=if bg c b=true then(if bg c a=true then some j2 else none)else(if bg b a=true then some j1 else none):=by
    subst hj1 hj2;unfold qC;rw[if_neg cS,ha,hb,hc];simp only[dt,true_and]
   cases yr:bg c b
   ·rw[yr,if_neg (by simp)]at mV
    cases kZ:bg b a
    ·rw[kZ,if_neg (by simp)]at mV
     have hE:cE (n+1) es i n=(ys,k):=by rw[←hd];unfold cE;rw[mV]
     rw[hE];unfold bg at yr kZ;have hC:=jZ (E:=E) hc hb;have hB:=jZ (E:=E) hb ha;rw[yr]at hC;rw[kZ]at hB;(refine TW.go ?_;simp[aE,cU,ky,oH,cS,dt];repeat' first|intro hc|refine aa.mk ?_|refine aI ?_|refine af ?_ ?_|(refine cK [1] ?_;refine⟨_,hC,?_⟩;simp[aE,cU,ky,oH,cS,dt])|(refine cK [1] ?_;refine⟨_,hB,?_⟩;simp[aE,cU,ky,oH,cS,dt]))
     exact oW [] []
    ·rw[kZ,if_pos rfl]at mV
     have hE:cE (f+1) ys k n=cE f (fT ys k j1 a b) j1 n:=by rw[cE,mV];simp only[gM,ha,hb]
     unfold bg at yr kZ;have hC:=jZ (E:=E) hc hb;have hB:=jZ (E:=E) hb ha;rw[yr]at hC;rw[kZ]at hB;(refine TW.go ?_;simp[aE,cU,ky,oH,cS,dt];repeat' first|intro hc|refine aa.mk ?_|refine aI ?_|refine af ?_ ?_|(refine cK [1] ?_;refine⟨_,hC,?_⟩;simp[aE,cU,ky,oH,cS,dt])|(refine cK [1] ?_;refine⟨_,hB,?_⟩;simp[aE,cU,ky,oH,cS,dt])|(refine cL [1] 0 ?_;refine⟨_,_,_,_,yp ha hb,?_⟩;simp[aE,cU,ky,oH,cS,dt]))
     exact⟨(f,fT ys k j1 a b,j1),⟨by rw[←hE];exact hd,by dsimp only;omega,by dsimp only;omega,by dsimp only;omega,by rw[l9];exact Vl⟩,by simp,kO [] []⟩
   ·rw[yr,if_pos rfl]at mV
    cases Vm:bg c a
    ·rw[Vm,if_neg (by simp)]at mV
     have hE:cE (n+1) es i n=(ys,k):=by rw[←hd];unfold cE;rw[mV]
     rw[hE];unfold bg at yr Vm;have hC:=jZ (E:=E) hc hb;have hB:=jZ (E:=E) hc ha;rw[yr]at hC;rw[Vm]at hB;(refine TW.go ?_;simp[aE,cU,ky,oH,cS,dt];repeat' first|intro hc|refine aa.mk ?_|refine aI ?_|refine af ?_ ?_|(refine cK [1] ?_;refine⟨_,hC,?_⟩;simp[aE,cU,ky,oH,cS,dt])|(refine cK [1] ?_;refine⟨_,hB,?_⟩;simp[aE,cU,ky,oH,cS,dt]))
     exact oW [] []
    ·rw[Vm,if_pos rfl]at mV
     have hE:cE (f+1) ys k n=cE f (fT ys k j2 a c) j2 n:=by rw[cE,mV];simp only[gM,ha,hc]
     unfold bg at yr Vm;have hC:=jZ (E:=E) hc hb;have hB:=jZ (E:=E) hc ha;rw[yr]at hC;rw[Vm]at hB;(refine TW.go ?_;simp[aE,cU,ky,oH,cS,dt];repeat' first|intro hc|refine aa.mk ?_|refine aI ?_|refine af ?_ ?_|(refine cK [1] ?_;refine⟨_,hC,?_⟩;simp[aE,cU,ky,oH,cS,dt])|(refine cK [1] ?_;refine⟨_,hB,?_⟩;simp[aE,cU,ky,oH,cS,dt])|(refine cL [1] 0 ?_;refine⟨_,_,_,_,yp ha hc,?_⟩;simp[aE,cU,ky,oH,cS,dt]))
     exact⟨(f,fT ys k j2 a c,j2),⟨by rw[←hE];exact hd,by dsimp only;omega,by dsimp only;omega,by dsimp only;omega,by rw[l9];exact Vl⟩,by simp,kO [] []⟩
  ·have mV:qC ys k n=if bg b a=true then some j1 else none:=by
    subst hj1 hj2;unfold qC;rw[if_neg cS,ha,hb]
    cases ys[2*k+2]? with
    |none=>rfl
    |some c=>simp only[dt,false_and,if_false]
   cases kZ:bg b a
   ·rw[kZ,if_neg (by simp)]at mV
    have hE:cE (n+1) es i n=(ys,k):=by rw[←hd];unfold cE;rw[mV]
    rw[hE];unfold bg at kZ;have hB:=jZ (E:=E) hb ha;rw[kZ]at hB;(refine TW.go ?_;simp[aE,cU,ky,oH,cS,dt];repeat' first|intro hc|refine aa.mk ?_|refine aI ?_|refine af ?_ ?_|(refine cK [1] ?_;refine⟨_,hB,?_⟩;simp[aE,cU,ky,oH,cS,dt]))
    exact oW [] []
   ·rw[kZ,if_pos rfl]at mV
    have hE:cE (f+1) ys k n=cE f (fT ys k j1 a b) j1 n:=by rw[cE,mV];simp only[gM,ha,hb]
    unfold bg at kZ;have hB:=jZ (E:=E) hb ha;rw[kZ]at hB;(refine TW.go ?_;simp[aE,cU,ky,oH,cS,dt];repeat' first|intro hc|refine aa.mk ?_|refine aI ?_|refine af ?_ ?_|(refine cK [1] ?_;refine⟨_,hB,?_⟩;simp[aE,cU,ky,oH,cS,dt])|(refine cL [1] 0 ?_;refine⟨_,_,_,_,yp ha hb,?_⟩;simp[aE,cU,ky,oH,cS,dt]))
    exact⟨(f,fT ys k j1 a b,j1),⟨by rw[←hE];exact hd,by dsimp only;omega,by dsimp only;omega,by dsimp only;omega,by rw[l9];exact Vl⟩,by simp,kO [] []⟩
def rO (es:List aB)(n:Nat):Nat→List aB
 |0=>es
 |k+1=>rO (cE (n+1) es k n).1 n k
def rP (es:List aB):List aB:=rO es es.length (es.length / 2)
theorem Dn (n:Nat):∀(k:Nat) (es:List aB),(rO es n k).length=es.length
 |0,_=>rfl
 |k+1,es=>by rw[rO,Dn n k,kx]
theorem aaZ (es:List aB)(hlen:es.length≤4294967296):TC Tw.prog E 155 [gH] 2 (qS es) (.p []) (qS (rP es)):=by
 have hw:IntKind.i64.wrap ((es.length:Int)/ 2)=(es.length:Int)/ 2:=aQ (by omega) (by omega)
 have cU:IntKind.i64.wrap ((es.length:Int)/ 2-1)=(es.length:Int)/ 2-1:=aQ (by omega) (by omega)
 refine tE Tryz.f155 Tryz.ntmps155 (by rw[Tryz.results155]) ?_ (hfit:=(Fits.of (by simp[dw,az.live]) (by simp) (by simp)))
 (refine TW.go ?_;simp[hw];repeat' first|intro hc|refine aa.mk ?_|refine aI ?_|refine af ?_ ?_|(refine cK [1] ?_;refine⟨_,R5 _,?_⟩;simp[hw]))
 refine tL (fun(x:Nat×List aB)=>⟨[(0,gH),(2,gI .i64 es.length),(3,gI .i64 ((x.1:Nat)-1))],qS x.2,2⟩) (fun x=>rO x.2 es.length x.1=rP es∧x.1≤es.length / 2∧x.2.length=es.length) (fun x=>x.1) (es.length / 2,es) ⟨rfl,by simp,rfl⟩ (Wk.own [] [] (by simp) (by simp[hw,cU]) (by simp) (by simp) (by simp)) fun⟨h,ys⟩ hk=>?_
 dsimp only at hk⊢
 obtain⟨hd,hh,Vl⟩:=hk;rcases h with _|h
 ·rw[rO]at hd
  subst hd;(refine TW.go ?_;simp;repeat' first|intro hc|refine aa.mk ?_|refine aI ?_|refine af ?_ ?_)
  exact oW [] []
 ·have he:((h+1:Nat):Int)-1=(h:Int):=by omega
  have ky:IntKind.i64.wrap ((h:Int)-1)=(h:Int)-1:=aQ (by omega) (by omega)
  have hl:ys.length=es.length:=Vl
  rw[he,←hl];(refine TW.go ?_;simp[ky];repeat' first|intro hc|refine aa.mk ?_|refine aI ?_|refine af ?_ ?_|(refine cL [0,1] 0 ?_;refine⟨_,_,_,_,R6 ys h ys.length (by omega) (by omega) (by omega) (by omega),?_⟩;simp[ky]))
  exact⟨(h,(cE (ys.length+1) ys h ys.length).1),⟨by rw[←hd,rO,hl],by dsimp only;omega,by simp[kx,Vl]⟩,by simp,Wk.own [] [] (by simp) (by simp[hl]) (by simp) (by simp) (by simp)⟩
theorem NB {es:List aB}{i n j:Nat}(h:qC es i n=some j):i<j∧j<n:=by
 unfold qC at h;split at h
 ·cases h
 ·split at h
  ·split at h
   ·rename_i hc
    split at h
    ·cases h;exact⟨by omega,hc.1⟩
    ·cases h
   ·split at h
    ·cases h;omega
    ·cases h
  ·split at h
   ·cases h;omega
   ·cases h
  ·cases h
theorem Y0 {es:List aB}{i j m:Nat}(hi:i≠m)(hj:j≠m):(gM es i j)[m]?=es[m]?:=by
 unfold gM;split
 ·simp[fT,hi,hj]
 ·rfl
theorem F6 {n m:Nat}(hm:n≤m):∀(f:Nat) (es:List aB) (i:Nat),(cE f es i n).1[m]?=es[m]?
 |0,_,_=>rfl
 |f+1,es,i=>by
  unfold cE;split
  ·rename_i j hj
   have:=NB hj
   rw[F6 hm f,Y0 (by omega) (by omega)]
  ·rfl
def oT (x:aB)(es:List aB):List aB:=(cE (es.length+1) (gM (x::es) 0 es.length) 0 es.length).1.take es.length
theorem Dp (x:aB)(es:List aB):(cE (es.length+1) (gM (x::es) 0 es.length) 0 es.length).1=oT x es++[x]:=by
 have h:=F6 (Nat.le_refl es.length) (es.length+1) (gM (x::es) 0 es.length) 0;have hl:(cE (es.length+1) (gM (x::es) 0 es.length) 0 es.length).1.length=es.length+1:=by rw[kx,jI];rfl
 have hs:(gM (x::es) 0 es.length)[es.length]?=some x:=by
  have nh:(x::es)[es.length]?=some ((x::es)[es.length]'(by simp)):=List.getElem?_eq_getElem (by simp)
  unfold gM;rw[nh];simp only[List.getElem?_cons_zero,fT];rw[List.getElem?_set_self (by simp)]
 rw[hs]at h;unfold oT;generalize(cE (es.length+1) (gM (x::es) 0 es.length) 0 es.length).1=L at*;obtain⟨h1,h2⟩:=List.getElem?_eq_some_iff.1 h;conv=>lhs;rw[←List.take_append_drop es.length L]
 rw[List.drop_eq_getElem_cons h1,h2,List.drop_eq_nil_of_le (by omega)]
theorem aa0 (x:aB)(es:List aB)(hlen:es.length≤4294967290):TC Tw.prog E 156 [gH] 2 (qS (x::es)) (.fD 38 (.a ((aG x).map .r))) [(0,.box [.own 2]),(2,dU (oT x es))]:=by
 have nh:(x::es)[es.length]?=some ((x::es)[es.length]'(by simp)):=List.getElem?_eq_getElem (by simp)
 have Y1:gM (x::es) 0 es.length=fT (x::es) 0 es.length x ((x::es)[es.length]'(by simp)):=by
  unfold gM;rw[nh];rfl
 generalize(x::es)[es.length]'(by simp)=l at*
 have hS:=yp (E:=E) (i:=0) (j:=es.length) (List.getElem?_cons_zero (a:=x) (l:=es)) nh;have hD:=R6 (E:=E) (gM (x::es) 0 es.length) 0 es.length (by omega) (by rw[jI];simp) (by rw[jI];simp) (by rw[jI];simp;omega)
 rw[Dp]at hD;rw[←Y1]at hS;have hw:IntKind.i64.wrap (es.length:Int)=es.length:=aQ (by omega) (by omega)
 have hP:=aaY (E:=E) (es:=oT x es) (e:=x) (by simp[oT,kx,jI,maxLen];omega)
 generalize gM (x::es) 0 es.length=ys at*;have hz:(x::es).length=es.length+1:=rfl
 generalize x::es=zs at*;refine tE Tryz.f156 Tryz.ntmps156 (by rw[Tryz.results156]) ?_ (hfit:=(Fits.of (by simp[dw,az.live]) (by simp) (by simp)))
 (refine TW.go ?_;simp[hw,hz];repeat' first|intro hc|refine aa.mk ?_|refine aI ?_|refine af ?_ ?_|(refine cK [1] ?_;refine⟨_,R5 zs,?_⟩;simp[hw,hz])|(refine cL [1] 0 ?_;refine⟨_,_,_,_,hS,?_⟩;simp[hw,hz])|(refine cL [0,1] 0 ?_;refine⟨_,_,_,_,hD,?_⟩;simp[hw,hz])|(refine cL [0,1] 1 ?_;refine⟨_,_,_,_,hP,?_⟩;simp[hw,hz]))
 refine aT.own [2] [] (by simp;rfl) (by simp[aG]) (by simp) (by simp) (by simp[aG]) (by simp)
end Go.Proofs.YtabjbdnokpjipaaGreat.T
