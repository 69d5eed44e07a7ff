/-
What is proved: how entries and groups read in memory; the contracts of impl.indexOf, impl.StampValid, impl.less, impl.isGroup, impl.isTime, impl.isMessage over the second program. Conditions: those that each theorem states. what the small functions of the reference do to trees. No condition. what the reference's functions of sets, entries and groups do to trees. No condition but the lengths that each states. what the reference's functions that copy groups do to trees. No condition but the lengths that each states. what the reference's functions that look at groups do to trees. No condition but the lengths that each states. what the reference's check of a group does to trees. No condition but the lengths that it states. what the reference's check of a system does to trees. No condition but the lengths that it states. what the reference's greatest stamp and its proposal do to trees. No condition but the lengths and ranges that each states. what the reference's proposal does to trees. No condition but the lengths and ranges that each states. what the program's small functions of stamps and entries do to trees. No condition but the lengths that each states.
-/
import Derived.Test.YtjklkppncmhehaaGreatRx01
import Derived.Test.YtjklkppncmhehaaGreatRx34
import Derived.WalkKit
import Derived.ProofKit
import Derived.OneCell
import Derived.LoopTactic
import Derived.Deep.RegionHeld3
import Derived.Deep.RegionWith
set_option linter.unusedVariables false
set_option linter.unusedSimpArgs false
namespace Go.Proofs.YtjklkppncmhehaaGreat
open Go Go.RowKit
structure an where
 m:Int
 t:Int
 g:Int
 f:Bool
 deriving DecidableEq
def an.cells (e:an):List Value:=[.int .i64 e.m,.int .i64 e.t,.int .i64 e.g,.bool e.f]
def an.zero:an:=⟨0,0,0,false⟩
def oc (es:List an):List Value:=es.flatMap an.cells
structure aq where
 id:Int
 clock:Int
 ao:List an
 done:List an
theorem BX (es:List an):(oc es).length=es.length*4:=by
 induction es with
 |nil=>rfl
 |cons e es ih=>simp only[oc,List.flatMap_cons,List.length_append]at*;rw[ih];simp[an.cells];omega
theorem Qe {es:List an}{k:Nat}{e:an}(h:es[k]?=some e):(oc es)[k*4]?=some (.int .i64 e.m)∧(oc es)[k*4+1]?=some (.int .i64 e.t)∧(oc es)[k*4+2]?=some (.int .i64 e.g)∧(oc es)[k*4+3]?=some (.bool e.f):=by
 induction es generalizing k with
 |nil=>simp at h
 |cons a es ih=>
  cases k with
  |zero=>
   simp at h;subst h
   refine⟨rfl,rfl,rfl,rfl⟩
  |succ k=>
   simp only[List.getElem?_cons_succ]at h;have:=ih h
   have e0:∀j,(oc (a::es))[(k+1)*4+j]?=(oc es)[k*4+j]?:=fun j=>by
    show(a.cells++oc es)[(k+1)*4+j]?=_
    rw[List.getElem?_append_right (by simp[an.cells];omega)]
    congr 1
    simp[an.cells];omega
   exact⟨(e0 0).trans this.1,(e0 1).trans this.2.1,(e0 2).trans this.2.2.1,(e0 3).trans this.2.2.2⟩
def Mt (w:World)(B:Nat)(A:Option Addr)(n c:Nat)(es:List an):Prop:=Reads w B 4 A n (oc es)∧n≤c∧c≤maxLen
section
variable {w w':World}{B n c:Nat}{A:Option Addr}{es:List an}
theorem Mt.len (h:Mt w B A n c es):es.length=n:=by
 have:=h.1.1
 rw[BX]at this;omega
theorem Fg (a:Addr)(j i:Nat)(hi:0<i):a.add (j+i)={block:=(a.add j).block,off:=(a.add j).off+i}:=by
 rw[←xH];unfold Addr.add;simp[show i≠0 by omega]
def X6 (w:World)(a:Addr)(e:an):Prop:=w.cell? a=some (.int .i64 e.m)∧w.cell? {block:=a.block,off:=a.off+1}=some (.int .i64 e.t)∧w.cell? {block:=a.block,off:=a.off+2}=some (.int .i64 e.g)∧w.cell? {block:=a.block,off:=a.off+3}=some (.bool e.f)
theorem Mt.at_ {k:Nat}(h:Mt w B A n c es)(hk:k<n):∃ad e,A=some ad∧ad.block<B∧es[k]?=some e∧X6 w (ad.add (k*4)) e:=by
 obtain⟨ad,e0,hb,hc⟩:=h.1.2 (by omega)
 have hl:=h.len;have he:es[k]?=some es[k]:=List.getElem?_eq_getElem (by omega)
 obtain⟨h1,h2,h3,h4⟩:=Qe he;refine⟨ad,es[k],e0,hb,he,hc _ _ h1,?_,?_,?_⟩
 ·rw[←Fg _ _ _ (by omega)];exact hc _ _ h2
 ·rw[←Fg _ _ _ (by omega)];exact hc _ _ h3
 ·rw[←Fg _ _ _ (by omega)];exact hc _ _ h4
theorem Mt.below (h:Mt w B A n c es)(hb:Below B w w'):Mt w' B A n c es:=⟨h.1.below hb,h.2⟩
end
def cT (m:Int):List an→Nat→Int
 |[],_=> -1
 |e::es,k=>if e.m=m then k else cT m es (k+1)
def cO (es:List an)(m:Int):Int:=cT m es 0
theorem ri {es:List an}{m:Int}{k:Nat}{e:an}(h:es[k]?=some e):cT m (es.drop k) k=if e.m=m then(k:Int)else cT m (es.drop (k+1)) (k+1):=by
 have hk:k<es.length:=(List.getElem?_eq_some_iff.1 h).1
 have he:es[k]=e:=(List.getElem?_eq_some_iff.1 h).2
 rw[List.drop_eq_getElem_cons hk,cT,he]
def bF (g:Int):Bool:=decide (0≤g∧g<5)
def bm (m:Int):Bool:=decide (0≤m∧m<12)
def ig (t:Int):Bool:=decide (0≤t∧t≤999)
def aS (t g:Int):Bool:=decide (1≤t∧t≤999)&&bF g
def aK (t g t' g':Int):Bool:=decide (t<t'∨(t=t'∧g<g'))
end Go.Proofs.YtjklkppncmhehaaGreat
namespace Go.Proofs.YtjklkppncmhehaaGreat.T
open Go Go.RowKit
set_option maxRecDepth 100000
variable {E:List PanicEntry→World→Prop}
abbrev rI (n:Int):RT:= .v (.int .i64 n)
abbrev rB (b:Bool):RT:= .v (.bool b)
abbrev gR (t:RT):GV:= .s (.r t)
def ak (e:an):List RT:=[rI e.m,rI e.t,rI e.g,rB e.f]
abbrev cd (es:List an):RT:= .sl 4 (es.map ak)
abbrev bg (xs:List Int):RT:= .sl 1 (xs.map fun n=>[rI n])
theorem wrap_add {k n:Nat}(h:k<n)(hn:n≤maxLen):IntKind.i64.wrap ((k:Int)+1)=(k:Int)+1:=by
 simp only[maxLen]at hn;simp[IntKind.wrap,IntKind.min,IntKind.max,IntKind.signed,IntKind.bits];omega
theorem aG {z:Int}(h1: -9223372036854775808≤z)(h2:z≤9223372036854775807):IntKind.i64.wrap z=z:=by
 simp[IntKind.wrap,IntKind.min,IntKind.max,IntKind.signed,IntKind.bits];omega
@[simp] theorem Yp:IntKind.i64.wrap 1=1:=by decide
theorem dJ (t g t' g':Int):TC Tw.prog E 74 [.a [.r (rI t),.r (rI g)],.a [.r (rI t'),.r (rI g')]] 0 [] (gB (aK t g t' g')) []:=by
 refine tE Tryz.f74 Tryz.ntmps74 (by rw[Tryz.results74]) ?_
 (refine TW.go ?_;simp;repeat' first|intro hc|refine U.mk ?_|refine aI ?_|refine aa ?_ ?_)
 all_goals refine aE.nil (r:=gB (aK t g t' g')) ?_ rfl
 all_goals(first|(simp[aK];done)|(simp[aK, *];done)|(simp[aK];intros;omega)|(simp[aK, *];intros;omega)|(rw[Bool.eq_iff_iff];simp[aK, *];intros;omega)|(simp[aK, *];rw[Bool.eq_iff_iff];simp;intros;omega)|(intros;omega))
theorem dT (n a b:Int):TC Tw.prog E 109 [gI .i64 n,gI .i64 a,gI .i64 b] 0 [] (gB (decide (a≤n∧n≤b))) []:=by
 refine tE Tryz.f109 Tryz.ntmps109 (by rw[Tryz.results109]) ?_
 (refine TW.go ?_;simp;repeat' first|intro hc|refine U.mk ?_|refine aI ?_|refine aa ?_ ?_)
 all_goals refine aE.nil (r:=gB (decide (a≤n∧n≤b))) ?_ rfl
 all_goals(first|(simp;done)|(simp[*];done)|(simp;intros;omega)|(simp[*];intros;omega)|(rw[Bool.eq_iff_iff];simp[*];intros;omega)|(simp[*];rw[Bool.eq_iff_iff];simp;intros;omega)|(intros;omega))
theorem mU (n:Int):TC Tw.prog E 108 [gI .i64 n] 0 [] (gB (bF n)) []:=by
 refine tE Tryz.f108 Tryz.ntmps108 (by rw[Tryz.results108]) ?_
 (refine TW.go ?_;simp;repeat' first|intro hc|refine U.mk ?_|refine aI ?_|refine aa ?_ ?_|(refine cP ?_;refine⟨_,dT _ _ _,?_⟩;simp))
 all_goals refine aE.nil (r:=gB (bF n)) ?_ rfl
 all_goals(first|(simp[bF];done)|(simp[bF, *];done)|(simp[bF];intros;omega)|(simp[bF, *];intros;omega)|(rw[Bool.eq_iff_iff];simp[bF, *];intros;omega)|(simp[bF, *];rw[Bool.eq_iff_iff];simp;intros;omega)|(intros;omega))
theorem iN (n:Int):TC Tw.prog E 50 [gI .i64 n] 0 [] (gB (bm n)) []:=by
 refine tE Tryz.f50 Tryz.ntmps50 (by rw[Tryz.results50]) ?_
 (refine TW.go ?_;simp;repeat' first|intro hc|refine U.mk ?_|refine aI ?_|refine aa ?_ ?_|(refine cP ?_;refine⟨_,dT _ _ _,?_⟩;simp))
 all_goals refine aE.nil (r:=gB (bm n)) ?_ rfl
 all_goals(first|(simp[bm];done)|(simp[bm, *];done)|(simp[bm];intros;omega)|(simp[bm, *];intros;omega)|(rw[Bool.eq_iff_iff];simp[bm, *];intros;omega)|(simp[bm, *];rw[Bool.eq_iff_iff];simp;intros;omega)|(intros;omega))
theorem gN (t g:Int):TC Tw.prog E 134 [.a [.r (rI t),.r (rI g)]] 0 [] (gB (aS t g)) []:=by
 refine tE Tryz.f134 Tryz.ntmps134 (by rw[Tryz.results134]) ?_
 (refine TW.go ?_;simp;repeat' first|intro hc|refine U.mk ?_|refine aI ?_|refine aa ?_ ?_|(refine cP ?_;(first|refine⟨_,dT _ _ _,?_⟩|refine⟨_,mU _,?_⟩);simp))
 all_goals refine aE.nil (r:=gB (aS t g)) ?_ rfl
 all_goals(first|(simp[aS];done)|(simp[aS, *];done)|(simp[aS];intros;omega)|(simp[aS, *];intros;omega)|(rw[Bool.eq_iff_iff];simp[aS, *];intros;omega)|(simp[aS, *];rw[Bool.eq_iff_iff];simp;intros;omega)|(intros;omega))
theorem cQ (es:List an)(m:Int):TC Tw.prog E 126 [gR (cd es),gI .i64 m] 0 [] (gI .i64 (cO es m)) []:=by
 refine tE Tryz.f126 Tryz.ntmps126 (by rw[Tryz.results126]) ?_
 refine TW.len 0 rfl fun hlen=>?_;simp only[List.length_map]at hlen;(refine TW.go ?_;simp;repeat' first|intro hc|refine U.mk ?_|refine aI ?_|refine aa ?_ ?_)
 refine tL (fun k=>⟨[(0,gR (cd es)),(1,gI .i64 m),(5,gI .i64 (k:Nat))],[],0⟩) (fun k=>k≤es.length∧cO es m=cT m (es.drop k) k) (fun k=>es.length-k) 0 ⟨by omega,rfl⟩ (kS) fun k hk=>?_
 obtain⟨hk,hf⟩:=hk;by_cases ai:k<es.length
 ·have he:es[k]?=some es[k]:=List.getElem?_eq_getElem ai
  have hfd:=ri (m:=m) he;(refine TW.go ?_;simp[ai,he,ak,wrap_add ai hlen];repeat' first|intro hc|refine U.mk ?_|refine aI ?_|refine aa ?_ ?_)
  ·refine aE.nil (r:=gI .i64 (cO es m)) ?_ rfl
   simp[hf,hfd,hc]
  ·refine⟨k+1,⟨by omega,?_⟩,by omega,kS⟩
   rw[hf,hfd,if_neg hc]
 ·obtain rfl:k=es.length:=by omega
  (refine TW.go ?_;simp;repeat' first|intro hc|refine U.mk ?_|refine aI ?_|refine aa ?_ ?_)
  refine aE.nil (r:=gI .i64 (cO es m)) ?_ rfl;simp[hf,List.drop_of_length_le,cT]
end Go.Proofs.YtjklkppncmhehaaGreat.T
namespace Go.Proofs.YtjklkppncmhehaaGreat.T
open Go Go.RowKit
set_option maxRecDepth 100000
variable {E:List PanicEntry→World→Prop}
theorem ku {k:Nat}(hn:k≤maxLen):IntKind.i64.wrap (k:Int)=(k:Int):=by
 simp only[maxLen]at hn;exact aG (by omega) (by omega)
def cm (n:Nat)(c:Nat→Bool):Bool:=(List.range n).all c
theorem bT {n:Nat}{c:Nat→Bool}(h:∀i,i<n→c i=true):cm n c=true:=by simpa[cm]using h
theorem cB {n k:Nat}{c:Nat→Bool}(hk:k<n)(h:c k=false):cm n c=false:=by
 simp only[cm,List.all_eq_false,List.mem_range];exact⟨k,hk,by simp[h]⟩
def gf (xs:List Int)(n:Int):Bool:=xs.any fun x=>decide (x=n)
theorem mV (xs:List Int)(n:Int):TC Tw.prog E 132 [gR (bg xs),gI .i64 n] 0 [] (gB (gf xs n)) []:=by
 refine tE Tryz.f132 Tryz.ntmps132 (by rw[Tryz.results132]) ?_
 refine TW.len 0 rfl fun hlen=>?_;simp only[List.length_map]at hlen;(refine TW.go ?_;simp;repeat' first|intro hc|refine U.mk ?_|refine aI ?_|refine aa ?_ ?_)
 refine tL (fun k=>⟨[(0,gR (bg xs)),(1,gI .i64 n),(5,gI .i64 (k:Nat))],[],0⟩) (fun k=>k≤xs.length∧∀(i:Nat) (x:Int),i<k→xs[i]?=some x→x≠n) (fun k=>xs.length-k) 0 ⟨by omega,fun i x hi=>by omega⟩ (kS) fun k hk=>?_
 obtain⟨hk,hf⟩:=hk;by_cases ai:k<xs.length
 ·have he:xs[k]?=some xs[k]:=List.getElem?_eq_getElem ai
  (refine TW.go ?_;simp[ai,he,wrap_add ai hlen];repeat' first|intro hc|refine U.mk ?_|refine aI ?_|refine aa ?_ ?_)
  ·refine aE.nil (r:=gB (gf xs n)) ?_ rfl
   simp[gf];exact hc▸List.getElem_mem ai
  ·refine⟨k+1,⟨by omega,fun i y hi hy=>?_⟩,by omega,kS⟩
   by_cases e:i=k
   ·subst e;rw[he]at hy;cases hy;exact hc
   ·exact hf i y (by omega) hy
 ·obtain rfl:k=xs.length:=by omega
  (refine TW.go ?_;simp;repeat' first|intro hc|refine U.mk ?_|refine aI ?_|refine aa ?_ ?_)
  refine aE.nil (r:=gB (gf xs n)) ?_ rfl;simp[gf];intro x hx e;obtain⟨i,hi,rfl⟩:=List.getElem_of_mem hx;exact hf i _ hi (List.getElem?_eq_getElem hi) e
def oA (xs:List Int)(i:Nat):Bool:=bF (xs.getD i 0)&&(decide (i=0)||decide (xs.getD (i-1) 0<xs.getD i 0))
def fy (xs:List Int):Bool:=cm xs.length (oA xs)&&decide (0<xs.length)
theorem jb (xs:List Int):TC Tw.prog E 49 [gR (bg xs)] 0 [] (gB (fy xs)) []:=by
 refine tE Tryz.f49 Tryz.ntmps49 (by rw[Tryz.results49]) ?_
 refine TW.len 0 rfl fun hlen=>?_;simp only[List.length_map]at hlen;(refine TW.go ?_;simp;repeat' first|intro hc|refine U.mk ?_|refine aI ?_|refine aa ?_ ?_)
 refine tL (fun k=>⟨[(0,gR (bg xs)),(3,gI .i64 (k:Nat))],[],0⟩) (fun k=>k≤xs.length∧∀i,i<k→oA xs i=true) (fun k=>xs.length-k) 0 ⟨by omega,fun i hi=>by omega⟩ (kS) fun k hk=>?_
 obtain⟨hk,hf⟩:=hk;by_cases ai:k<xs.length
 ·have he:xs[k]?=some xs[k]:=List.getElem?_eq_getElem ai
  have hq:fy xs=false∨oA xs k=true:=by
   cases h:oA xs k
   ·exact .inl (by simp[fy,cB ai h])
   ·exact .inr rfl
  rcases k with _|k
  ·have cE:oA xs 0=bF xs[0]:=by simp[oA,ai]
   (refine TW.go ?_;simp[ai,he];repeat' first|intro hc|refine U.mk ?_|refine aI ?_|refine aa ?_ ?_|(refine cP ?_;refine⟨_,mU _,?_⟩;simp[ai,he]))
   ·refine⟨1,⟨by omega,fun i hi=>?_⟩,by omega,kS⟩
    obtain rfl:i=0:=by omega
    simpa[cE]
   ·refine aE.nil (r:=gB (fy xs)) ?_ rfl
    have:fy xs=false:=by simp_all
    simp[this]
  ·have dc:xs[k]?=some xs[k]:=List.getElem?_eq_getElem (by omega)
   have hw:=ku (k:=k) (by omega)
   have aD:=wrap_add (k:=k+1) ai hlen;simp only[Int.natCast_add,Int.natCast_one]at aD;have cX:(0:Int)<(k:Int)+1:=by omega
   have ar:(k:Int)+1<(xs.length:Int):=by omega
   have cE:oA xs (k+1)=(bF xs[k+1]&&decide (xs[k]<xs[k+1])):=by simp[oA,ai,show k<xs.length by omega]
   (refine TW.go ?_;simp[ai,he,dc,hw,aD,cX,ar];repeat' first|intro hc|refine U.mk ?_|refine aI ?_|refine aa ?_ ?_|(refine cP ?_;refine⟨_,mU _,?_⟩;simp[ai,he,dc,hw,aD,cX,ar]))
   all_goals first
    |(refine⟨k+1+1,⟨by omega,fun i hi=>?_⟩,by omega,kS⟩
      by_cases e:i=k+1
      ·subst e;simp_all
      ·exact hf i (by omega))
    |(refine aE.nil (r:=gB (fy xs)) ?_ rfl
      rcases hq with hq|hq
      ·simp[hq]
      ·exfalso
       first|(simp_all;done)|(simp_all;omega))
 ·obtain rfl:k=xs.length:=by omega
  (refine TW.go ?_;simp;repeat' first|intro hc|refine U.mk ?_|refine aI ?_|refine aa ?_ ?_)
  refine aE.nil (r:=gB (fy xs)) ?_ rfl;simp[fy,bT hf]
end Go.Proofs.YtjklkppncmhehaaGreat.T
namespace Go.Proofs.YtjklkppncmhehaaGreat.T
open Go Go.RowKit
set_option maxRecDepth 100000
variable {E:List PanicEntry→World→Prop}
def af (g:aq):List RT:=[rI g.id,rI g.clock,cd g.ao,cd g.done]
abbrev xI (g:aq) (p d:Nat):GV:= .a [.r (rI g.id),.r (rI g.clock),.own p,.own d]
abbrev bW (es:List an):aj:= .rows 32 4 (es.map ak)
def eE (g:aq)(n:Nat):Prop:=g.ao.length≤n∧g.done.length≤n
theorem dN (g:aq)(h:eE g 4294967296):TC Tw.prog E 124 [.a ((af g).map .r)] 0 [] (xI g 0 1) [(0,bW g.ao),(1,bW g.done)]:=by
 obtain⟨hp,hd⟩:=h;refine tE Tryz.f124 Tryz.ntmps124 (by rw[Tryz.results124]) ?_
 (refine TW.go ?_;simp[af,maxLen];repeat' first|intro hc|refine U.mk ?_|refine aI ?_|refine aa ?_ ?_)
 exact oW [3,5] []
abbrev bO (gs:List aq):RT:= .sl 4 (gs.map af)
def cz (gs:List aq)(n:Nat):Prop:=gs.length≤n∧∀g∈gs,eE g n
theorem fO (gs:List aq)(h:cz gs 4294967296):TC Tw.prog E 71 [gR (bO gs)] 0 [] (.s (.own 0)) [(0,.rows 37 4 (gs.map af))]:=by
 obtain⟨hl,hg⟩:=h;refine tE Tryz.f71 Tryz.ntmps71 (by rw[Tryz.results71]) ?_
 have hlen:gs.length≤maxLen:=by simp only[maxLen];omega
 (refine TW.go ?_;simp;repeat' first|intro hc|refine U.mk ?_|refine aI ?_|refine aa ?_ ?_)
 refine tL (fun k=>⟨[(0,gR (bO gs)),(3,.s (.own 0)),(4,gI .i64 (k:Nat))],[(0,.rows 37 4 ((gs.take k).map af))],1⟩) (fun k=>k≤gs.length) (fun k=>gs.length-k) 0 (by omega) (kO [0] []) fun k hk=>?_
 by_cases ai:k<gs.length
 ·have he:gs[k]?=some gs[k]:=List.getElem?_eq_getElem ai
  have E7:=hg gs[k] (List.getElem_mem ai);(refine TW.go ?_;simp[ai,he,af,wrap_add ai hlen,maxLen];repeat' first|intro hc|refine U.mk ?_|refine aI ?_|refine aa ?_ ?_|(refine cF [] 2 ?_;refine⟨_,_,dN _ E7,?_⟩;simp[ai,he,af,wrap_add ai hlen,maxLen]))
  refine⟨k+1,by omega,by omega,Wk.own [4] [] (by simp) (by simp) (by simp[jK he,af]) (by simp) (by simp)⟩
 ·obtain rfl:k=gs.length:=by omega
  (refine TW.go ?_;simp;repeat' first|intro hc|refine U.mk ?_|refine aI ?_|refine aa ?_ ?_)
  exact oW [0] []
end Go.Proofs.YtjklkppncmhehaaGreat.T
namespace Go.Proofs.YtjklkppncmhehaaGreat.T
open Go Go.RowKit
set_option maxRecDepth 100000
set_option maxHeartbeats 4000000
variable {E:List PanicEntry→World→Prop}
theorem qj (m:Int):∀(es:List an) (k:Nat),(cT m es k= -1∧es.find? (fun e=>decide (e.m=m))=none)∨∃j e,cT m es k=((k+j:Nat):Int)∧es[j]?=some e∧es.find? (fun e=>decide (e.m=m))=some e∧e.m=m
 |[],k=> .inl ⟨rfl,rfl⟩
 |e::es,k=>by
  by_cases h:e.m=m
  ·exact .inr ⟨0,e,by simp[cT,h],rfl,by simp[h],h⟩
  ·rcases qj m es (k+1)with⟨h1,h2⟩|⟨j,x,h1,h2,h3,h4⟩
   ·exact .inl ⟨by simp[cT,h,h1],by simp[h,h2]⟩
   ·exact .inr ⟨j+1,x,by simp only[cT,h,if_false,h1];omega,by simpa using h2,by simp[h,h3],h4⟩
theorem dU (es:List an)(m:Int):(cO es m= -1∧es.find? (fun e=>decide (e.m=m))=none)∨∃(j:Nat) (e:an),cO es m=(j:Int)∧es[j]?=some e∧es.find? (fun e=>decide (e.m=m))=some e∧e.m=m:=by
 rcases qj m es 0 with h|⟨j,e,h1,h2⟩
 ·exact .inl h
 ·exact .inr ⟨j,e,by simpa[cO]using h1,h2⟩
def bC (g:aq)(m:Int):Option an:=match g.ao.find? (fun e=>decide (e.m=m))with
 |some e=>some e
 |none=>g.done.find? (fun e=>decide (e.m=m))
abbrev lO (e:an):GV:= .a ((ak e).map .r)
def nI (g:aq)(m:Int):GV:=match bC g m with
 |some e=> .p [lO e,gB true]
 |none=> .p [lO an.zero,gB false]
theorem JC (g:aq)(m:Int):TC Tw.prog E 73 [.a ((af g).map .r),gI .i64 m] 0 [] (nI g m) []:=by
 refine tE Tryz.f73 Tryz.ntmps73 (by rw[Tryz.results73]) ?_
 rcases dU g.ao m with⟨hp,bc⟩|⟨j,e,hp,he,bc,_⟩
 ·rcases dU g.done m with⟨hd,qG⟩|⟨j,e,hd,he,qG,_⟩
  ·(refine TW.go ?_;simp[af,hp,hd];repeat' first|intro hc|refine U.mk ?_|refine aI ?_|refine aa ?_ ?_|(refine cP ?_;refine⟨_,cQ _ _,?_⟩;simp[af,hp,hd]))
   rw[show nI g m= .p [lO an.zero,gB false] by simp[nI,bC,bc,qG]]
   refine aE.nil (r:= .p [lO an.zero,gB false]) ?_ rfl;simp[ak,an.zero]
  ·(refine TW.go ?_;simp[af,ak,hp,hd,he];repeat' first|intro hc|refine U.mk ?_|refine aI ?_|refine aa ?_ ?_|(refine cP ?_;refine⟨_,cQ _ _,?_⟩;simp[af,ak,hp,hd,he]))
   rw[show nI g m= .p [lO e,gB true] by simp[nI,bC,bc,qG]]
   refine aE.nil (r:= .p [lO e,gB true]) ?_ rfl;simp[ak]
 ·(refine TW.go ?_;simp[af,ak,hp,he];repeat' first|intro hc|refine U.mk ?_|refine aI ?_|refine aa ?_ ?_|(refine cP ?_;refine⟨_,cQ _ _,?_⟩;simp[af,ak,hp,he]))
  rw[show nI g m= .p [lO e,gB true] by simp[nI,bC,bc]]
  refine aE.nil (r:= .p [lO e,gB true]) ?_ rfl;simp[ak]
def lD (id clock:Int)(es:List an)(i:Nat):Bool:=match es[i]? with
 |some e=>bm e.m&&aS e.t e.g&&decide (e.t≤clock)&&(decide (i=0)||(match es[i-1]? with|some d=>aK d.t d.g e.t e.g|none=>true))&&decide (cO (es.take i) e.m<0)&&(e.f||decide (e.g=id))
 |none=>true
def gC (id clock:Int)(es:List an):Bool:=cm es.length (lD id clock es)
theorem Ar (es:List an)(k:Nat)(m:Int):TC Tw.prog E 126 [.s (.r (.sl 4 (List.take k (List.map ak es)))),gI .i64 m] 0 [] (gI .i64 (cO (es.take k) m)) []:=by
 have:=cQ (E:=E) (es.take k) m
 rwa[cd,List.map_take]at this
theorem Mu (g:aq)(es:List an):TC Tw.prog E 125 [.a ((af g).map .r),gR (cd es)] 0 [] (gB (gC g.id g.clock es)) []:=by
 refine tE Tryz.f125 Tryz.ntmps125 (by rw[Tryz.results125]) ?_
 refine TW.len 1 rfl fun hlen=>?_;simp only[List.length_map]at hlen;(refine TW.go ?_;simp;repeat' first|intro hc|refine U.mk ?_|refine aI ?_|refine aa ?_ ?_)
 refine tL (fun k=>⟨[(1,gR (cd es)),(2,.s (.ptr 0 0)),(5,gI .i64 (k:Nat))],[(0,.box ((af g).map .r))],1⟩) (fun k=>k≤es.length∧∀i,i<k→lD g.id g.clock es i=true) (fun k=>es.length-k) 0 ⟨by omega,fun i hi=>by omega⟩ (kO [0] []) fun k hk=>?_
 obtain⟨hk,hf⟩:=hk;by_cases ai:k<es.length
 ·have he:es[k]?=some es[k]:=List.getElem?_eq_getElem ai
  have hq:gC g.id g.clock es=false∨lD g.id g.clock es k=true:=by
   cases h:lD g.id g.clock es k
   ·exact .inl (by simp[gC,cB ai h])
   ·exact .inr rfl
  rcases k with _|k
  ·have cE:lD g.id g.clock es 0=(bm es[0].m&&aS es[0].t es[0].g&&decide (es[0].t≤g.clock)&&decide (cO [] es[0].m<0)&&(es[0].f||decide (es[0].g=g.id))):=by simp[lD,he];rfl
   (refine TW.go ?_;simp[ai,he,af,ak];repeat' first|intro hc|refine U.mk ?_|refine aI ?_|refine aa ?_ ?_|(refine cP ?_;(first|refine⟨_,iN _,?_⟩|refine⟨_,gN _ _,?_⟩|refine⟨_,dJ _ _ _ _,?_⟩|refine⟨_,cQ [] _,?_⟩);simp[ai,he,af,ak]))
   all_goals first
    |(refine⟨1,⟨by omega,fun i hi=>?_⟩,by omega,Wk.own [0] [] (by simp) (by simp) (by simp[af]) (by simp) (by simp)⟩
      obtain rfl:i=0:=by omega
      simp_all)
    |(refine aE.nil (r:=gB (gC g.id g.clock es)) ?_ rfl
      rcases hq with hq|hq
      ·simp[hq]
      ·exfalso
       first|(simp_all;done)|(simp_all;omega))
  ·have dc:es[k]?=some es[k]:=List.getElem?_eq_getElem (by omega)
   have hw:=ku (k:=k) (by omega)
   have aD:=wrap_add (k:=k+1) ai hlen;simp only[Int.natCast_add,Int.natCast_one]at aD;have cX:(0:Int)<(k:Int)+1:=by omega
   have ar:(k:Int)+1<(es.length:Int):=by omega
   have cE:lD g.id g.clock es (k+1)=(bm es[k+1].m&&aS es[k+1].t es[k+1].g&&decide (es[k+1].t≤g.clock)&&aK es[k].t es[k].g es[k+1].t es[k+1].g&&decide (cO (es.take (k+1)) es[k+1].m<0)&&(es[k+1].f||decide (es[k+1].g=g.id))):=by simp[lD,he,dc]
   (refine TW.go ?_;simp[ai,hk,he,dc,hw,aD,cX,ar,af,ak];repeat' first|intro hc|refine U.mk ?_|refine aI ?_|refine aa ?_ ?_|(refine cP ?_;(first|refine⟨_,iN _,?_⟩|refine⟨_,gN _ _,?_⟩|refine⟨_,dJ _ _ _ _,?_⟩|refine⟨_,Ar _ _ _,?_⟩);simp[ai,hk,he,dc,hw,aD,cX,ar,af,ak]))
   all_goals first
    |(refine⟨k+1+1,⟨by omega,fun i hi=>?_⟩,by omega,Wk.own [0] [] (by simp) (by simp) (by simp[af]) (by simp) (by simp)⟩
      by_cases e:i=k+1
      ·subst e;simp_all
      ·exact hf i (by omega))
    |(refine aE.nil (r:=gB (gC g.id g.clock es)) ?_ rfl
      rcases hq with hq|hq
      ·simp[hq]
      ·exfalso
       first|(simp_all;done)|(simp_all;omega))
 ·obtain rfl:k=es.length:=by omega
  (refine TW.go ?_;simp;repeat' first|intro hc|refine U.mk ?_|refine aI ?_|refine aa ?_ ?_)
  refine aE.nil (r:=gB (gC g.id g.clock es)) ?_ rfl;simp[gC,bT hf]
end Go.Proofs.YtjklkppncmhehaaGreat.T
namespace Go.Proofs.YtjklkppncmhehaaGreat.T
open Go Go.RowKit
set_option maxRecDepth 100000
set_option maxHeartbeats 4000000
variable {E:List PanicEntry→World→Prop}
def jc (g:aq)(i:Nat):Bool:=match g.done[i]? with
 |some e=>e.f&&decide (cO g.ao e.m<0)
 |none=>true
def jL (g:aq):Bool:=match g.ao with
 |[]=>true
 |p::_=> !p.f&&(match g.done.getLast? with
  |some d=>aK d.t d.g p.t p.g
  |none=>true)
def aT (g:aq):Bool:=bF g.id&&decide (0≤g.clock∧g.clock≤999)&&gC g.id g.clock g.ao&&gC g.id g.clock g.done&&cm g.done.length (jc g)&&jL g
theorem vk (g:aq)(h:eE g 4294967296):TC Tw.prog E 72 [.a ((af g).map .r)] 0 [] (gB (aT g)) []:=by
 obtain⟨nX,Fh⟩:=h;have hlen:g.done.length≤maxLen:=by simp only[maxLen];omega
 refine tE Tryz.f72 Tryz.ntmps72 (by rw[Tryz.results72]) ?_
 (refine TW.go ?_;simp[af];repeat' first|intro hc|refine U.mk ?_|refine aI ?_|refine aa ?_ ?_|(refine cP ?_;(first|refine⟨_,mU _,?_⟩|refine⟨_,dT _ _ _,?_⟩|refine⟨_,Mu g _,?_⟩);simp[af]))
 any_goals(
  refine aE.nil (r:=gB (aT g)) ?_ rfl;first|(simp_all[aT];done)|(simp_all[aT];intros;omega))
 refine tL (fun k=>⟨[(1,.s (.ptr 0 0)),(3,gI .i64 (k:Nat))],[(0,.box ((af g).map .r))],1⟩) (fun k=>k≤g.done.length∧∀i,i<k→jc g i=true) (fun k=>g.done.length-k) 0 ⟨by omega,fun i hi=>by omega⟩ (Wk.own [0] [] (by simp) (by simp) (by simp[af]) (by simp) (by simp)) fun k hk=>?_
 obtain⟨hk,hf⟩:=hk;by_cases ai:k<g.done.length
 ·have he:g.done[k]?=some g.done[k]:=List.getElem?_eq_getElem ai
  have cE:jc g k=(g.done[k].f&&decide (cO g.ao g.done[k].m<0)):=by simp[jc,he]
  have hq:aT g=false∨jc g k=true:=by
   cases h:jc g k
   ·exact .inl (by simp[aT,cB ai h])
   ·exact .inr rfl
  (refine TW.go ?_;simp[ai,he,af,ak,wrap_add ai hlen];repeat' first|intro hc|refine U.mk ?_|refine aI ?_|refine aa ?_ ?_|(refine cP ?_;refine⟨_,cQ _ _,?_⟩;simp[ai,he,af,ak,wrap_add ai hlen]))
  all_goals first
   |(refine⟨k+1,⟨by omega,fun i hi=>?_⟩,by omega,Wk.own [0] [] (by simp) (by simp) (by simp[af]) (by simp) (by simp)⟩
     by_cases e:i=k
     ·subst e;simp_all
     ·exact hf i (by omega))
   |(refine aE.nil (r:=gB (aT g)) ?_ rfl
     rcases hq with hq|hq
     ·simp[hq]
     ·exfalso
      first|(simp_all;done)|(simp_all;omega))
 ·obtain rfl:k=g.done.length:=by omega
  have dO:cm g.done.length (jc g)=true:=bT hf
  clear hf;rcases hp:g.ao with _|⟨p,ps⟩
  ·(refine TW.go ?_;simp[af,hp];repeat' first|intro hc|refine U.mk ?_|refine aI ?_|refine aa ?_ ?_)
   refine aE.nil (r:=gB (aT g)) ?_ rfl;simp_all[aT,jL]
  ·have zO:¬((ps.length:Int)+1=0):=by omega
   rcases hn:g.done.length with _|n
   ·have eZ:g.done=[]:=List.length_eq_zero_iff.1 hn
    (refine TW.go ?_;simp[af,ak,hp,hn,zO];repeat' first|intro hc|refine U.mk ?_|refine aI ?_|refine aa ?_ ?_|(refine cP ?_;refine⟨_,dJ _ _ _ _,?_⟩;simp[af,ak,hp,hn,zO]))
    all_goals
     refine aE.nil (r:=gB (aT g)) ?_ rfl;simp_all[aT,jL]
   ·have Fi:g.done[n]?=some g.done[n]:=List.getElem?_eq_getElem (by omega)
    have ki:g.done.getLast?=some g.done[n]:=by rw[List.getLast?_eq_getElem?,show g.done.length-1=n by omega];exact Fi
    have hw:=ku (k:=n) (by omega)
    have BU:¬((n:Int)+1=0):=by omega
    (refine TW.go ?_;simp[af,ak,hp,hn,zO,BU,hw,Fi];repeat' first|intro hc|refine U.mk ?_|refine aI ?_|refine aa ?_ ?_|(refine cP ?_;refine⟨_,dJ _ _ _ _,?_⟩;simp[af,ak,hp,hn,zO,BU,hw,Fi]))
    all_goals
     refine aE.nil (r:=gB (aT g)) ?_ rfl;simp_all[aT,jL]
end Go.Proofs.YtjklkppncmhehaaGreat.T
namespace Go.Proofs.YtjklkppncmhehaaGreat.T
open Go Go.RowKit
set_option maxRecDepth 100000
set_option maxHeartbeats 4000000
variable {E:List PanicEntry→World→Prop}
def bo (g:aq)(m:Int):an:=(bC g m).getD an.zero
def di (g:aq)(m:Int):Bool:=(bC g m).isSome
theorem fP (g:aq)(m:Int):TC Tw.prog E 73 [.a ((af g).map .r),gI .i64 m] 0 [] (.p [lO (bo g m),gB (di g m)]) []:=by
 have:=JC (E:=E) g m
 unfold nI at this;unfold bo di
 cases h:bC g m with
 |none=>rw[h]at this;exact this
 |some e=>rw[h]at this;exact this
def lE (a b:aq)(m:Int):Bool:=
 !(di a m&&(bo a m).f)|| !(di b m&&(if(bo b m).f then !(decide ((bo b m).t=(bo a m).t)&&decide ((bo b m).g=(bo a m).g))else aK (bo a m).t (bo a m).g (bo b m).t (bo b m).g))
theorem As {a b:aq}{m:Int}(h1:di a m=true)(h2:(bo a m).f=true)(h3:di b m=true)(h4:¬(bo b m).f=true):lE a b m= !aK (bo a m).t (bo a m).g (bo b m).t (bo b m).g:=by
 have h4:(bo b m).f=false:=by simpa using h4
 unfold lE;rw[h1,h2,h3,h4];simp
def aB (gs:List aq)(i:Nat):aq:=gs.getD i ⟨0,0,[],[]⟩
def vm (gs:List aq)(m i:Nat):Bool:=cm gs.length fun k=>lE (aB gs i) (aB gs k) m
def rj (gs:List aq)(m:Nat):Bool:=cm gs.length (vm gs m)
def tW (gs:List aq)(i:Nat):Bool:=aT (aB gs i)&&decide ((aB gs i).id=i)
def du (gs:List aq):Bool:=decide (gs.length=5)&&cm gs.length (tW gs)&&cm 12 (rj gs)
theorem mX (gs:List aq)(h:cz gs 4294967296):TC Tw.prog E 26 [gR (bO gs)] 0 [] (gB (du gs)) []:=by
 obtain⟨hl,hg⟩:=h;have hlen:gs.length≤maxLen:=by simp only[maxLen];omega
 refine tE Tryz.f26 Tryz.ntmps26 (by rw[Tryz.results26]) ?_
 by_cases h5:gs.length=5
 ·(refine TW.go ?_;simp[h5];repeat' first|intro hc|refine U.mk ?_|refine aI ?_|refine aa ?_ ?_)
  refine tL (fun k=>⟨[(0,gR (bO gs)),(3,gI .i64 (k:Nat))],[],0⟩) (fun k=>k≤5∧∀i,i<k→tW gs i=true) (fun k=>5-k) 0 ⟨by omega,fun i hi=>by omega⟩ (kS) fun k hk=>?_
  obtain⟨hk,hf⟩:=hk;by_cases ai:k<gs.length
  ·have he:gs[k]?=some gs[k]:=List.getElem?_eq_getElem ai
   have JD:(k:Int)<5:=by omega
   have cE:tW gs k=(aT gs[k]&&decide (gs[k].id=k)):=by simp[tW,aB,he]
   have hq:du gs=false∨tW gs k=true:=by
    cases h:tW gs k
    ·exact .inl (by simp[du,cB ai h])
    ·exact .inr rfl
   (refine TW.go ?_;simp[h5,JD,ai,he,af,wrap_add ai hlen];repeat' first|intro hc|refine U.mk ?_|refine aI ?_|refine aa ?_ ?_|(refine cP ?_;refine⟨_,vk _ (hg _ (List.getElem_mem ai)),?_⟩;simp[h5,JD,ai,he,af,wrap_add ai hlen]))
   all_goals first
    |(refine⟨k+1,⟨by omega,fun i hi=>?_⟩,by omega,kS⟩
      by_cases e:i=k
      ·subst e;simp_all
      ·exact hf i (by omega))
    |(refine aE.nil (r:=gB (du gs)) ?_ rfl
      rcases hq with hq|hq
      ·simp[hq]
      ·exfalso
       first|(simp_all;done)|(simp_all;omega))
  ·obtain rfl:k=5:=by omega
   have dO:cm gs.length (tW gs)=true:=bT (by rw[h5];exact hf)
   clear hf hk ai;(refine TW.go ?_;simp[h5];repeat' first|intro hc|refine U.mk ?_|refine aI ?_|refine aa ?_ ?_)
   refine tL (fun m=>⟨[(0,gR (bO gs)),(4,gI .i64 (m:Nat))],[],0⟩) (fun m=>m≤12∧∀i,i<m→rj gs i=true) (fun m=>12-m) 0 ⟨by omega,fun i hi=>by omega⟩ (kS) fun m hm=>?_
   obtain⟨hm,hf⟩:=hm;by_cases ai:m<12
   ·have hqm:du gs=false∨rj gs m=true:=by
     cases h:rj gs m
     ·exact .inl (by simp[du,cB ai h])
     ·exact .inr rfl
    have WJ:IntKind.i64.wrap ((m:Int)+1)=(m:Int)+1:=aG (by omega) (by omega)
    have hlm:(m:Int)<12:=by omega
    (refine TW.go ?_;simp[hlm];repeat' first|intro hc|refine U.mk ?_|refine aI ?_|refine aa ?_ ?_)
    refine tL (fun i=>⟨[(0,gR (bO gs)),(4,gI .i64 (m:Nat)),(5,gI .i64 (i:Nat))],[],0⟩) (fun i=>i≤5∧∀j,j<i→vm gs m j=true) (fun i=>5-i) 0 ⟨by omega,fun i hi=>by omega⟩ (kS) fun i hi=>?_
    obtain⟨hi,Vx⟩:=hi;by_cases xJ:i<gs.length
    ·have Vy:gs[i]?=some gs[i]:=List.getElem?_eq_getElem xJ
     have JD:(i:Int)<5:=by omega
     (refine TW.go ?_;simp[h5,JD,xJ,Vy,af,ak];repeat' first|intro hc|refine U.mk ?_|refine aI ?_|refine aa ?_ ?_|(refine cP ?_;refine⟨_,fP _ _,?_⟩;simp[h5,JD,xJ,Vy,af,ak]))
     have Mw:du gs=false∨vm gs m i=true:=by
      rcases hqm with h|h
      ·exact .inl h
      ·exact .inr (by simp only[rj,cm,List.all_eq_true,List.mem_range]at h;exact h i xJ)
     refine tL (fun k=>⟨[(0,gR (bO gs)),(4,gI .i64 (m:Nat)),(5,gI .i64 (i:Nat)),(6,.s (.ptr 0 0)),(7,gB (di gs[i] m)),(8,gI .i64 (k:Nat))],[(0,.box ((ak (bo gs[i] m)).map .r))],1⟩) (fun k=>k≤5∧∀j,j<k→lE gs[i] (aB gs j) m=true) (fun k=>5-k) 0 ⟨by omega,fun j hj=>by omega⟩ (Wk.own [0] [] (by simp) (by simp) (by simp[ak]) (by simp) (by simp)) fun k hk=>?_
     obtain⟨hk,l_⟩:=hk;by_cases sY:k<gs.length
     ·have X7:gs[k]?=some gs[k]:=List.getElem?_eq_getElem sY
      have hk5:(k:Int)<5:=by omega
      have qp:aB gs i=gs[i]:=by simp[aB,Vy]
      have Kt:aB gs k=gs[k]:=by simp[aB,X7]
      have Qf:du gs=false∨lE gs[i] gs[k] m=true:=by
       rcases Mw with h|h
       ·exact .inl h
       ·refine .inr ?_
        simp only[vm,cm,List.all_eq_true,List.mem_range]at h;have:=h k sY
        rwa[qp,Kt]at this
      (refine TW.go ?_;simp[h5,hk5,sY,X7,af,ak,wrap_add sY hlen,wrap_add xJ hlen];repeat' first|intro hc|refine U.mk ?_|refine aI ?_|refine aa ?_ ?_|(refine cP ?_;(first|refine⟨_,fP _ _,?_⟩|refine⟨_,dJ _ _ _ _,?_⟩);simp[h5,hk5,sY,X7,af,ak,wrap_add sY hlen,wrap_add xJ hlen]))
      all_goals first
       |(refine⟨k+1,⟨by omega,fun j hj=>?_⟩,by omega,Wk.own [0] [] (by simp) (by simp) (by simp[ak]) (by simp) (by simp)⟩
         by_cases e:j=k
         ·subst e;rw[Kt];first|(simp_all[lE];done)|(rw[As (by assumption) (by assumption) (by assumption) (by assumption),hc];rfl)
         ·exact l_ j (by omega))
       |(refine⟨i+1,⟨by omega,fun j hj=>?_⟩,by omega,kS⟩
         by_cases e:j=i
         ·subst e
          simp only[vm,qp];exact bT fun l _=>by simp_all[lE]
         ·exact Vx j (by omega))
       |(refine aE.nil (r:=gB (du gs)) ?_ rfl
         rcases Qf with Qf|Qf
         ·simp[Qf]
         ·exfalso
          first|(simp_all[lE];done)|(rw[As (by assumption) (by assumption) (by assumption) (by assumption),hc]at Qf;cases Qf))
     ·obtain rfl:k=5:=by omega
      have qp:aB gs i=gs[i]:=by simp[aB,Vy]
      have fX:vm gs m i=true:=by simp only[vm,qp];exact bT (by rw[h5];exact l_)
      clear l_ sY hk;(refine TW.go ?_;simp[h5,af,ak,wrap_add xJ hlen];repeat' first|intro hc|refine U.mk ?_|refine aI ?_|refine aa ?_ ?_)
      refine⟨i+1,⟨by omega,fun j hj=>?_⟩,by omega,kS⟩
      by_cases e:j=i
      ·subst e;exact fX
      ·exact Vx j (by omega)
    ·obtain rfl:i=5:=by omega
     have NB:rj gs m=true:=bT (by rw[h5];exact Vx)
     clear Vx xJ hi;(refine TW.go ?_;simp[h5,WJ];repeat' first|intro hc|refine U.mk ?_|refine aI ?_|refine aa ?_ ?_)
     refine⟨m+1,⟨by omega,fun j hj=>?_⟩,by omega,kS⟩
     by_cases e:j=m
     ·subst e;exact NB
     ·exact hf j (by omega)
   ·obtain rfl:m=12:=by omega
    (refine TW.go ?_;simp;repeat' first|intro hc|refine U.mk ?_|refine aI ?_|refine aa ?_ ?_)
    refine aE.nil (r:=gB (du gs)) ?_ rfl;simp[du,h5,bT hf];rw[←h5];exact dO
 ·have X8:¬((gs.length:Int)=5):=by omega
  (refine TW.go ?_;simp[h5,X8];repeat' first|intro hc|refine U.mk ?_|refine aI ?_|refine aa ?_ ?_)
  refine aE.nil (r:=gB (du gs)) ?_ rfl;simp[du,h5]
end Go.Proofs.YtjklkppncmhehaaGreat.T
namespace Go.Proofs.YtjklkppncmhehaaGreat.T
open Go Go.RowKit
set_option maxRecDepth 100000
set_option maxHeartbeats 4000000
variable {E:List PanicEntry→World→Prop}
def jV (s:Int×Int):List RT:=[rI s.1,rI s.2]
abbrev S_ (xs:List (Int×Int)):RT:= .sl 2 (xs.map jV)
abbrev ma (s:Int×Int):GV:= .a [.r (rI s.1),.r (rI s.2)]
def gg (a:Int×Int):List (Int×Int)→Int×Int
 |[]=>a
 |x::xs=>gg (if aK a.1 a.2 x.1 x.2=true then x else a) xs
theorem Mx {a x:Int×Int}{xs:List (Int×Int)}{k:Nat}(h:xs[k]?=some x):gg a (xs.drop k)=gg (if aK a.1 a.2 x.1 x.2=true then x else a) (xs.drop (k+1)):=by
 obtain⟨hk,he⟩:=List.getElem?_eq_some_iff.1 h;rw[List.drop_eq_getElem_cons hk,gg,he]
theorem JE (x:Int×Int)(xs:List (Int×Int)):TC Tw.prog E 110 [gR (S_ (x::xs))] 0 [] (ma (gg x xs)) []:=by
 refine tE Tryz.f110 Tryz.ntmps110 (by rw[Tryz.results110]) ?_
 refine TW.len 0 rfl fun hlen=>?_;simp only[List.length_map]at hlen;generalize BM:x::xs=ys at*;have h0:ys[0]?=some x:=by rw[←BM];rfl
 have hM:gg x xs=gg x (ys.drop 1):=by rw[←BM];rfl
 have cX:1≤ys.length:=by rw[←BM];simp
 rw[hM];clear BM hM;(refine TW.go ?_;simp[h0,jV];repeat' first|intro hc|refine U.mk ?_|refine aI ?_|refine aa ?_ ?_)
 refine tL (fun(p:Nat×(Int×Int))=>⟨[(0,gR (S_ ys)),(2,.s (.ptr 1 0)),(3,.s (.ptr 0 0)),(4,gI .i64 (p.1:Nat))],[(0,.box [.r (rI p.2.1),.r (rI p.2.2)]),(1,.box [.r (rI 0),.r (rI 0)])],2⟩) (fun p=>p.1≤ys.length∧gg p.2 (ys.drop p.1)=gg x (ys.drop 1)) (fun p=>ys.length-p.1) (1,x) ⟨cX,rfl⟩ (kO [1,0] []) fun p hp=>?_;obtain⟨k,b⟩:=p;obtain⟨hk,hb⟩:=hp;simp only at hk hb⊢
 by_cases ai:k<ys.length
 ·have he:ys[k]?=some ys[k]:=List.getElem?_eq_getElem ai
  have hd:=Mx (a:=b) he;(refine TW.go ?_;simp[ai,he,jV,wrap_add ai hlen];repeat' first|intro hc|refine U.mk ?_|refine aI ?_|refine aa ?_ ?_|(refine cP ?_;refine⟨_,dJ _ _ _ _,?_⟩;simp[ai,he,jV,wrap_add ai hlen]))
  ·exact⟨(k+1,ys[k]),⟨by simp only;omega,by rw[←hb,hd,if_pos hc]⟩,by simp only;omega,kO [0,1] []⟩
  ·exact⟨(k+1,b),⟨by simp only;omega,by rw[←hb,hd,if_neg (by simp[hc])]⟩,by simp only;omega,kO [0,1] []⟩
 ·obtain rfl:k=ys.length:=by omega
  (refine TW.go ?_;simp;repeat' first|intro hc|refine U.mk ?_|refine aI ?_|refine aa ?_ ?_)
  rw[List.drop_length]at hb;simp only[gg]at hb;rw[←hb];refine aE.nil (r:=ma b) ?_ rfl;simp
end Go.Proofs.YtjklkppncmhehaaGreat.T
namespace Go.Proofs.YtjklkppncmhehaaGreat.T
open Go Go.RowKit
set_option maxRecDepth 100000
set_option maxHeartbeats 4000000
variable {E:List PanicEntry→World→Prop}
def au (g:aq)(m:Int):aq×(Int×Int)×Bool:=match g.ao.find? (fun e=>decide (e.m=m))with
 |some e=>if e.f=true then(g,(0,0),false)else(g,(e.t,e.g),true)
 |none=>match g.done.find? (fun e=>decide (e.m=m))with
  |some _=>(g,(0,0),false)
  |none=>if 999≤g.clock then(g,(0,0),false)else(⟨g.id,g.clock+1,g.ao++[⟨m,g.clock+1,g.id,false⟩],g.done⟩,(g.clock+1,g.id),true)
abbrev CJ (r:aq×(Int×Int)×Bool):GV:= .p [xI r.1 0 1,ma r.2.1,gB r.2.2]
abbrev xK (g:aq):List (Nat×aj):=[(0,bW g.ao),(1,bW g.done)]
theorem kK (g:aq)(m:Int)(h:eE g 4294967290)(h0:0≤g.clock):TC Tw.prog E 122 [.a ((af g).map .r),gI .i64 m] 0 [] (CJ (au g m)) (xK (au g m).1):=by
 obtain⟨nX,Fh⟩:=h;have hle:eE g 4294967296:=⟨by omega,by omega⟩
 refine tE Tryz.f122 Tryz.ntmps122 (by rw[Tryz.results122]) ?_
 rcases dU g.ao m with⟨hp,bc⟩|⟨j,e,hp,he,bc,_⟩
 ·rcases dU g.done m with⟨hd,qG⟩|⟨j,e,hd,he,qG,_⟩
  ·by_cases h9:999≤g.clock
   ·have hr:au g m=(g,(0,0),false):=by simp[au,bc,qG,h9]
    rw[hr];(refine TW.go ?_;simp[af,ak,hp,hd,h9];repeat' first|intro hc|refine U.mk ?_|refine aI ?_|refine aa ?_ ?_|(refine cP ?_;refine⟨_,cQ _ _,?_⟩;simp[af,ak,hp,hd,h9])|(refine cF [] 2 ?_;refine⟨_,_,dN _ hle,?_⟩;simp[af,ak,hp,hd,h9]))
    exact oW [3,4] []
   ·have hr:au g m=(⟨g.id,g.clock+1,g.ao++[⟨m,g.clock+1,g.id,false⟩],g.done⟩,(g.clock+1,g.id),true):=by simp[au,bc,qG,h9]
    have hw:IntKind.i64.wrap (g.clock+1)=g.clock+1:=aG (by omega) (by omega)
    rw[hr];(refine TW.go ?_;simp[af,ak,hp,hd,h9,hw,maxLen];repeat' first|intro hc|refine U.mk ?_|refine aI ?_|refine aa ?_ ?_|(refine cP ?_;refine⟨_,cQ _ _,?_⟩;simp[af,ak,hp,hd,h9,hw,maxLen])|(refine cF [] 2 ?_;refine⟨_,_,dN _ hle,?_⟩;simp[af,ak,hp,hd,h9,hw,maxLen]))
    exact aE.own [8,4] [] (by simp;rfl) (by simp) (by simp) (by simp) (by simp[ak]) (by simp)
  ·have hr:au g m=(g,(0,0),false):=by simp[au,bc,qG]
   rw[hr];(refine TW.go ?_;simp[af,ak,hp,hd];repeat' first|intro hc|refine U.mk ?_|refine aI ?_|refine aa ?_ ?_|(refine cP ?_;refine⟨_,cQ _ _,?_⟩;simp[af,ak,hp,hd])|(refine cF [] 2 ?_;refine⟨_,_,dN _ hle,?_⟩;simp[af,ak,hp,hd]))
   exact oW [3,4] []
 ·cases hf:e.f
  ·have hr:au g m=(g,(e.t,e.g),true):=by simp[au,bc,hf]
   rw[hr];(refine TW.go ?_;simp[af,ak,hp,he,hf];repeat' first|intro hc|refine U.mk ?_|refine aI ?_|refine aa ?_ ?_|(refine cP ?_;refine⟨_,cQ _ _,?_⟩;simp[af,ak,hp,he,hf])|(refine cF [] 2 ?_;refine⟨_,_,dN _ hle,?_⟩;simp[af,ak,hp,he,hf]))
   exact oW [3,4] []
  ·have hr:au g m=(g,(0,0),false):=by simp[au,bc,hf]
   rw[hr];(refine TW.go ?_;simp[af,ak,hp,he,hf];repeat' first|intro hc|refine U.mk ?_|refine aI ?_|refine aa ?_ ?_|(refine cP ?_;refine⟨_,cQ _ _,?_⟩;simp[af,ak,hp,he,hf])|(refine cF [] 2 ?_;refine⟨_,_,dN _ hle,?_⟩;simp[af,ak,hp,he,hf]))
   exact oW [3,4] []
end Go.Proofs.YtjklkppncmhehaaGreat.T
namespace Go.Proofs.YtjklkppncmhehaaGreat.T
open Go Go.RowKit
set_option maxRecDepth 100000
set_option maxHeartbeats 4000000
variable {E:List PanicEntry→World→Prop}
theorem pM (n:Int):TC Tw.prog E 55 [gI .i64 n] 0 [] (gB (bF n)) []:=by
 refine tE Tryz.f55 Tryz.ntmps55 (by rw[Tryz.results55]) ?_
 (refine TW.go ?_;simp;repeat' first|intro hc|refine U.mk ?_|refine aI ?_|refine aa ?_ ?_)
 all_goals refine aE.nil (r:=gB (bF n)) ?_ rfl
 all_goals(first|(simp[bF];done)|(simp[bF, *];done)|(simp[bF];intros;omega)|(simp[bF, *];intros;omega)|(rw[Bool.eq_iff_iff];simp[bF, *];intros;omega)|(simp[bF, *];rw[Bool.eq_iff_iff];simp;intros;omega)|(intros;omega))
theorem jM (n:Int):TC Tw.prog E 56 [gI .i64 n] 0 [] (gB (bm n)) []:=by
 refine tE Tryz.f56 Tryz.ntmps56 (by rw[Tryz.results56]) ?_
 (refine TW.go ?_;simp;repeat' first|intro hc|refine U.mk ?_|refine aI ?_|refine aa ?_ ?_)
 all_goals refine aE.nil (r:=gB (bm n)) ?_ rfl
 all_goals(first|(simp[bm];done)|(simp[bm, *];done)|(simp[bm];intros;omega)|(simp[bm, *];intros;omega)|(rw[Bool.eq_iff_iff];simp[bm, *];intros;omega)|(simp[bm, *];rw[Bool.eq_iff_iff];simp;intros;omega)|(intros;omega))
theorem CK (n:Int):TC Tw.prog E 111 [gI .i64 n] 0 [] (gB (ig n)) []:=by
 refine tE Tryz.f111 Tryz.ntmps111 (by rw[Tryz.results111]) ?_
 (refine TW.go ?_;simp;repeat' first|intro hc|refine U.mk ?_|refine aI ?_|refine aa ?_ ?_)
 all_goals refine aE.nil (r:=gB (ig n)) ?_ rfl
 all_goals(first|(simp[ig];done)|(simp[ig, *];done)|(simp[ig];intros;omega)|(simp[ig, *];intros;omega)|(rw[Bool.eq_iff_iff];simp[ig, *];intros;omega)|(simp[ig, *];rw[Bool.eq_iff_iff];simp;intros;omega)|(intros;omega))
theorem kL (t g:Int):TC Tw.prog E 18 [ma (t,g)] 0 [] (gB (aS t g)) []:=by
 refine tE Tryz.f18 Tryz.ntmps18 (by rw[Tryz.results18]) ?_
 (refine TW.go ?_;simp;repeat' first|intro hc|refine U.mk ?_|refine aI ?_|refine aa ?_ ?_|(refine cP ?_;refine⟨_,pM _,?_⟩;simp))
 all_goals refine aE.nil (r:=gB (aS t g)) ?_ rfl
 all_goals(first|(simp[aS];done)|(simp[aS, *];done)|(simp[aS];intros;omega)|(simp[aS, *];intros;omega)|(rw[Bool.eq_iff_iff];simp[aS, *];intros;omega)|(simp[aS, *];rw[Bool.eq_iff_iff];simp;intros;omega)|(intros;omega))
theorem iT (t g t' g':Int):TC Tw.prog E 54 [ma (t,g),ma (t',g')] 0 [] (gB (aK t g t' g')) []:=by
 refine tE Tryz.f54 Tryz.ntmps54 (by rw[Tryz.results54]) ?_
 (refine TW.go ?_;simp;repeat' first|intro hc|refine U.mk ?_|refine aI ?_|refine aa ?_ ?_)
 all_goals refine aE.nil (r:=gB (aK t g t' g')) ?_ rfl
 all_goals(first|(simp[aK];done)|(simp[aK, *];done)|(simp[aK];intros;omega)|(simp[aK, *];intros;omega)|(rw[Bool.eq_iff_iff];simp[aK, *];intros;omega)|(simp[aK, *];rw[Bool.eq_iff_iff];simp;intros;omega)|(intros;omega))
def oB (id clock:Int)(es:List an)(i:Nat):Bool:=match es[i]? with
 |some e=>bm e.m&&aS e.t e.g&&decide (e.t≤clock)&&(e.f||decide (e.g=id))&&(decide (i=0)||(match es[i-1]? with|some d=>aK d.t d.g e.t e.g|none=>true))
 |none=>true
def jX (id clock:Int)(es:List an):Bool:=cm es.length (oB id clock es)
theorem sZ (g:aq)(es:List an):TC Tw.prog E 112 [.a ((af g).map .r),gR (cd es)] 0 [] (gB (jX g.id g.clock es)) []:=by
 refine tE Tryz.f112 Tryz.ntmps112 (by rw[Tryz.results112]) ?_
 refine TW.len 1 rfl fun hlen=>?_;simp only[List.length_map]at hlen;(refine TW.go ?_;simp;repeat' first|intro hc|refine U.mk ?_|refine aI ?_|refine aa ?_ ?_)
 refine tL (fun(k:Nat)=>⟨[(1,gR (cd es)),(2,.s (.ptr 0 0)),(7,gR (cd es)),(8,gI .i64 es.length),(9,gI .i64 (k:Nat))],[(0,.box ((af g).map .r))],1⟩) (fun k=>k≤es.length∧∀i,i<k→oB g.id g.clock es i=true) (fun k=>es.length-k) 0 ⟨by omega,fun i hi=>by omega⟩ (kO [0] []) fun k hk=>?_
 obtain⟨hk,hf⟩:=hk;by_cases ai:k<es.length
 ·have he:es[k]?=some es[k]:=List.getElem?_eq_getElem ai
  have hq:jX g.id g.clock es=false∨oB g.id g.clock es k=true:=by
   cases h:oB g.id g.clock es k
   ·exact .inl (by simp[jX,cB ai h])
   ·exact .inr rfl
  rcases k with _|k
  ·have cE:oB g.id g.clock es 0=(bm es[0].m&&aS es[0].t es[0].g&&decide (es[0].t≤g.clock)&&(es[0].f||decide (es[0].g=g.id))):=by simp[oB,he]
   (refine TW.go ?_;simp[ai,he,af,ak];repeat' first|intro hc|refine U.mk ?_|refine aI ?_|refine aa ?_ ?_|(refine cP ?_;(first|refine⟨_,jM _,?_⟩|refine⟨_,kL _ _,?_⟩|refine⟨_,iT _ _ _ _,?_⟩);simp[ai,he,af,ak]))
   all_goals first
    |(refine⟨1,⟨by omega,fun i hi=>?_⟩,by omega,Wk.own [0] [] (by simp) (by simp) (by simp[af]) (by simp) (by simp)⟩
      obtain rfl:i=0:=by omega
      simp_all)
    |(refine aE.nil (r:=gB (jX g.id g.clock es)) ?_ rfl
      rcases hq with hq|hq
      ·simp[hq]
      ·exfalso
       first|(simp_all;done)|(clear hf;simp_all;done)|(clear hf;rw[cE]at hq;simp only[Bool.and_eq_true]at hq;rw[hq.2]at hc;cases hc)|(simp_all;omega))
  ·have dc:es[k]?=some es[k]:=List.getElem?_eq_getElem (by omega)
   have hw:=ku (k:=k) (by omega)
   have aD:=wrap_add (k:=k+1) ai hlen;simp only[Int.natCast_add,Int.natCast_one]at aD;have cX:(0:Int)<(k:Int)+1:=by omega
   have ar:(k:Int)+1<(es.length:Int):=by omega
   have cE:oB g.id g.clock es (k+1)=(bm es[k+1].m&&aS es[k+1].t es[k+1].g&&decide (es[k+1].t≤g.clock)&&(es[k+1].f||decide (es[k+1].g=g.id))&&aK es[k].t es[k].g es[k+1].t es[k+1].g):=by simp[oB,he,dc]
   (refine TW.go ?_;simp[ai,hk,he,dc,hw,aD,cX,ar,af,ak];repeat' first|intro hc|refine U.mk ?_|refine aI ?_|refine aa ?_ ?_|(refine cP ?_;(first|refine⟨_,jM _,?_⟩|refine⟨_,kL _ _,?_⟩|refine⟨_,iT _ _ _ _,?_⟩);simp[ai,hk,he,dc,hw,aD,cX,ar,af,ak]))
   all_goals first
    |(refine⟨k+1+1,⟨by omega,fun i hi=>?_⟩,by omega,Wk.own [0] [] (by simp) (by simp) (by simp[af]) (by simp) (by simp)⟩
      by_cases e:i=k+1
      ·subst e;simp_all
      ·exact hf i (by omega))
    |(refine aE.nil (r:=gB (jX g.id g.clock es)) ?_ rfl
      rcases hq with hq|hq
      ·simp[hq]
      ·exfalso
       first|(simp_all;done)|(clear hf;simp_all;done)|(clear hf;rw[cE]at hq;simp only[Bool.and_eq_true]at hq;rw[hq.2]at hc;cases hc)|(simp_all;omega))
 ·obtain rfl:k=es.length:=by omega
  (refine TW.go ?_;simp;repeat' first|intro hc|refine U.mk ?_|refine aI ?_|refine aa ?_ ?_)
  refine aE.nil (r:=gB (jX g.id g.clock es)) ?_ rfl;simp[jX,bT hf]
theorem iO (es:List an)(h:es.length≤4294967296):TC Tw.prog E 113 [gR (cd es)] 0 [] (.s (.own 0)) [(0,bW es)]:=by
 refine tE Tryz.f113 Tryz.ntmps113 (by rw[Tryz.results113]) ?_
 (refine TW.go ?_;simp[maxLen];repeat' first|intro hc|refine U.mk ?_|refine aI ?_|refine aa ?_ ?_)
 exact oW [1] []
theorem mY (es:List an)(m:Int):TC Tw.prog E 53 [gR (cd es),gI .i64 m] 0 [] (gI .i64 (cO es m)) []:=by
 refine tE Tryz.f53 Tryz.ntmps53 (by rw[Tryz.results53]) ?_
 refine TW.len 0 rfl fun hlen=>?_;simp only[List.length_map]at hlen;(refine TW.go ?_;simp;repeat' first|intro hc|refine U.mk ?_|refine aI ?_|refine aa ?_ ?_)
 refine tL (fun(k:Nat)=>⟨[(1,gI .i64 m),(7,gR (cd es)),(8,gI .i64 es.length),(9,gI .i64 (k:Nat))],[],0⟩) (fun k=>k≤es.length∧cT m (es.drop k) k=cO es m) (fun k=>es.length-k) 0 ⟨by omega,rfl⟩ (kS) fun k hk=>?_
 obtain⟨hk,hf⟩:=hk;by_cases ai:k<es.length
 ·have he:es[k]?=some es[k]:=List.getElem?_eq_getElem ai
  have hd:=ri (m:=m) he;rw[hf]at hd;by_cases hm:es[k].m=m
  ·rw[if_pos hm]at hd
   (refine TW.go ?_;simp[ai,he,ak,hm,wrap_add ai hlen];repeat' first|intro hc|refine U.mk ?_|refine aI ?_|refine aa ?_ ?_)
   refine aE.nil (r:=gI .i64 (cO es m)) ?_ rfl;simp[hd]
  ·rw[if_neg hm]at hd
   (refine TW.go ?_;simp[ai,he,ak,hm,wrap_add ai hlen];repeat' first|intro hc|refine U.mk ?_|refine aI ?_|refine aa ?_ ?_)
   exact⟨k+1,⟨by omega,hd.symm⟩,by omega,kS⟩
 ·obtain rfl:k=es.length:=by omega
  rw[List.drop_length]at hf;(refine TW.go ?_;simp;repeat' first|intro hc|refine U.mk ?_|refine aI ?_|refine aa ?_ ?_)
  refine aE.nil (r:=gI .i64 (cO es m)) ?_ rfl;simp[←hf,cT]
end Go.Proofs.YtjklkppncmhehaaGreat.T
