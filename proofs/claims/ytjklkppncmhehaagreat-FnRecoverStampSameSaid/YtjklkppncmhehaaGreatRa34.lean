/-
What is proved: how entries and groups read in memory; the contracts of impl.indexOf, impl.StampValid, impl.less, impl.isGroup, impl.isTime, impl.isMessage over the second program. Conditions: those that each theorem states. what the small functions of the reference do to trees. No condition. what the reference's functions of sets, entries and groups do to trees. No condition but the lengths that each states. what the reference's functions that copy groups do to trees. No condition but the lengths that each states. what the reference's functions that look at groups do to trees. No condition but the lengths that each states. what the reference's check of a group does to trees. No condition but the lengths that it states. what the reference's check of a system does to trees. No condition but the lengths that it states. what the reference's greatest stamp and its proposal do to trees. No condition but the lengths and ranges that each states. what the reference's proposal does to trees. No condition but the lengths and ranges that each states. what the program's small functions of stamps and entries do to trees. No condition but the lengths that each states.
-/
import Derived.Test.YtjklkppncmhehaaGreatRa01
import Derived.Test.YtjklkppncmhehaaGreatRa33
import Derived.WalkKit
import Derived.ProofKit
import Derived.OneCell
import Derived.LoopTactic
import Derived.Deep.RegionHeld3
import Derived.Deep.RegionWith
set_option linter.unusedVariables false
set_option linter.unusedSimpArgs false
namespace Go.Proofs.YtjklkppncmhehaaGreat
open Go Go.RowKit
structure aK where
 m:Int
 t:Int
 g:Int
 f:Bool
 deriving DecidableEq
def aK.cells (e:aK):List Value:=[.int .i64 e.m,.int .i64 e.t,.int .i64 e.g,.bool e.f]
def aK.zero:aK:=⟨0,0,0,false⟩
def l_ (es:List aK):List Value:=es.flatMap aK.cells
structure az where
 id:Int
 clock:Int
 aN:List aK
 done:List aK
theorem yH (es:List aK):(l_ es).length=es.length*4:=by
 induction es with
 |nil=>rfl
 |cons e es ih=>simp only[l_,List.flatMap_cons,List.length_append]at*;rw[ih];simp[aK.cells];omega
theorem Mw {es:List aK}{k:Nat}{e:aK}(h:es[k]?=some e):(l_ es)[k*4]?=some (.int .i64 e.m)∧(l_ es)[k*4+1]?=some (.int .i64 e.t)∧(l_ es)[k*4+2]?=some (.int .i64 e.g)∧(l_ es)[k*4+3]?=some (.bool e.f):=by
 induction es generalizing k with
 |nil=>simp at h
 |cons a es ih=>
  cases k with
  |zero=>
   simp at h;subst h
   refine⟨rfl,rfl,rfl,rfl⟩
  |succ k=>
   simp only[List.getElem?_cons_succ]at h;have:=ih h
   have e0:∀j,(l_ (a::es))[(k+1)*4+j]?=(l_ es)[k*4+j]?:=fun j=>by
    show(a.cells++l_ es)[(k+1)*4+j]?=_
    rw[List.getElem?_append_right (by simp[aK.cells];omega)]
    congr 1
    simp[aK.cells];omega
   exact⟨(e0 0).trans this.1,(e0 1).trans this.2.1,(e0 2).trans this.2.2.1,(e0 3).trans this.2.2.2⟩
def I6 (w:World)(B:Nat)(A:Option Addr)(n c:Nat)(es:List aK):Prop:=Reads w B 4 A n (l_ es)∧n≤c∧c≤maxLen
section
variable {w w':World}{B n c:Nat}{A:Option Addr}{es:List aK}
theorem I6.len (h:I6 w B A n c es):es.length=n:=by
 have:=h.1.1
 rw[yH]at this;omega
theorem B3 (a:Addr)(j i:Nat)(hi:0<i):a.add (j+i)={block:=(a.add j).block,off:=(a.add j).off+i}:=by
 rw[←uw];unfold Addr.add;simp[show i≠0 by omega]
def UG (w:World)(a:Addr)(e:aK):Prop:=w.cell? a=some (.int .i64 e.m)∧w.cell? {block:=a.block,off:=a.off+1}=some (.int .i64 e.t)∧w.cell? {block:=a.block,off:=a.off+2}=some (.int .i64 e.g)∧w.cell? {block:=a.block,off:=a.off+3}=some (.bool e.f)
theorem I6.at_ {k:Nat}(h:I6 w B A n c es)(hk:k<n):∃ad e,A=some ad∧ad.block<B∧es[k]?=some e∧UG w (ad.add (k*4)) e:=by
 obtain⟨ad,e0,hb,hc⟩:=h.1.2 (by omega)
 have hl:=h.len;have he:es[k]?=some es[k]:=List.getElem?_eq_getElem (by omega)
 obtain⟨U,h2,h3,h4⟩:=Mw he;refine⟨ad,es[k],e0,hb,he,hc _ _ U,?_,?_,?_⟩
 ·rw[←B3 _ _ _ (by omega)];exact hc _ _ h2
 ·rw[←B3 _ _ _ (by omega)];exact hc _ _ h3
 ·rw[←B3 _ _ _ (by omega)];exact hc _ _ h4
theorem I6.below (h:I6 w B A n c es)(hb:Below B w w'):I6 w' B A n c es:=⟨h.1.below hb,h.2⟩
end
def ck (m:Int):List aK→Nat→Int
 |[],_=> -1
 |e::es,k=>if e.m=m then k else ck m es (k+1)
def cA (es:List aK)(m:Int):Int:=ck m es 0
theorem oM {es:List aK}{m:Int}{k:Nat}{e:aK}(h:es[k]?=some e):ck m (es.drop k) k=if e.m=m then(k:Int)else ck m (es.drop (k+1)) (k+1):=by
 have hk:k<es.length:=(List.getElem?_eq_some_iff.1 h).1
 have he:es[k]=e:=(List.getElem?_eq_some_iff.1 h).2
 rw[List.drop_eq_getElem_cons hk,ck,he]
def bw (g:Int):Bool:=decide (0≤g∧g<5)
def bC (m:Int):Bool:=decide (0≤m∧m<12)
def fC (t:Int):Bool:=decide (0≤t∧t≤999)
def bb (t g:Int):Bool:=decide (1≤t∧t≤999)&&bw g
def aU (t g t' g':Int):Bool:=decide (t<t'∨(t=t'∧g<g'))
end Go.Proofs.YtjklkppncmhehaaGreat
namespace Go.Proofs.YtjklkppncmhehaaGreat.T
open Go Go.RowKit
set_option maxRecDepth 100000
variable {E:List PanicEntry→World→Prop}
abbrev rI (n:Int):RT:= .v (.int .i64 n)
abbrev rB (b:Bool):RT:= .v (.bool b)
abbrev gR (t:RT):GV:= .s (.r t)
def au (e:aK):List RT:=[rI e.m,rI e.t,rI e.g,rB e.f]
abbrev dw (es:List aK):RT:= .sl 4 (es.map au)
abbrev bL (xs:List Int):RT:= .sl 1 (xs.map fun n=>[rI n])
theorem wrap_add {k n:Nat}(h:k<n)(hn:n≤maxLen):IntKind.i64.wrap ((k:Int)+1)=(k:Int)+1:=by
 simp only[maxLen]at hn;simp[IntKind.wrap,IntKind.min,IntKind.max,IntKind.signed,IntKind.bits];omega
theorem aL {z:Int}(U: -9223372036854775808≤z)(h2:z≤9223372036854775807):IntKind.i64.wrap z=z:=by
 simp[IntKind.wrap,IntKind.min,IntKind.max,IntKind.signed,IntKind.bits];omega
@[simp] theorem U2:IntKind.i64.wrap 1=1:=by decide
theorem cY (t g t' g':Int):TC Tw.prog E 74 [.a [.r (rI t),.r (rI g)],.a [.r (rI t'),.r (rI g')]] 0 [] (gB (aU t g t' g')) []:=by
 refine tE Tryz.f74 Tryz.ntmps74 (by rw[Tryz.results74]) ?_
 (refine TW.go ?_;simp;repeat' first|intro hc|refine aa.mk ?_|refine aI ?_|refine ah ?_ ?_)
 all_goals refine ar.nil (r:=gB (aU t g t' g')) ?_ rfl
 all_goals(first|(simp[aU];done)|(simp[aU, *];done)|(simp[aU];intros;omega)|(simp[aU, *];intros;omega)|(rw[Bool.eq_iff_iff];simp[aU, *];intros;omega)|(simp[aU, *];rw[Bool.eq_iff_iff];simp;intros;omega)|(intros;omega))
theorem dh (n a b:Int):TC Tw.prog E 109 [gI .i64 n,gI .i64 a,gI .i64 b] 0 [] (gB (decide (a≤n∧n≤b))) []:=by
 refine tE Tryz.f109 Tryz.ntmps109 (by rw[Tryz.results109]) ?_
 (refine TW.go ?_;simp;repeat' first|intro hc|refine aa.mk ?_|refine aI ?_|refine ah ?_ ?_)
 all_goals refine ar.nil (r:=gB (decide (a≤n∧n≤b))) ?_ rfl
 all_goals(first|(simp;done)|(simp[*];done)|(simp;intros;omega)|(simp[*];intros;omega)|(rw[Bool.eq_iff_iff];simp[*];intros;omega)|(simp[*];rw[Bool.eq_iff_iff];simp;intros;omega)|(intros;omega))
theorem kW (n:Int):TC Tw.prog E 108 [gI .i64 n] 0 [] (gB (bw n)) []:=by
 refine tE Tryz.f108 Tryz.ntmps108 (by rw[Tryz.results108]) ?_
 (refine TW.go ?_;simp;repeat' first|intro hc|refine aa.mk ?_|refine aI ?_|refine ah ?_ ?_|(refine cP ?_;refine⟨_,dh _ _ _,?_⟩;simp))
 all_goals refine ar.nil (r:=gB (bw n)) ?_ rfl
 all_goals(first|(simp[bw];done)|(simp[bw, *];done)|(simp[bw];intros;omega)|(simp[bw, *];intros;omega)|(rw[Bool.eq_iff_iff];simp[bw, *];intros;omega)|(simp[bw, *];rw[Bool.eq_iff_iff];simp;intros;omega)|(intros;omega))
theorem fZ (n:Int):TC Tw.prog E 50 [gI .i64 n] 0 [] (gB (bC n)) []:=by
 refine tE Tryz.f50 Tryz.ntmps50 (by rw[Tryz.results50]) ?_
 (refine TW.go ?_;simp;repeat' first|intro hc|refine aa.mk ?_|refine aI ?_|refine ah ?_ ?_|(refine cP ?_;refine⟨_,dh _ _ _,?_⟩;simp))
 all_goals refine ar.nil (r:=gB (bC n)) ?_ rfl
 all_goals(first|(simp[bC];done)|(simp[bC, *];done)|(simp[bC];intros;omega)|(simp[bC, *];intros;omega)|(rw[Bool.eq_iff_iff];simp[bC, *];intros;omega)|(simp[bC, *];rw[Bool.eq_iff_iff];simp;intros;omega)|(intros;omega))
theorem e_ (t g:Int):TC Tw.prog E 134 [.a [.r (rI t),.r (rI g)]] 0 [] (gB (bb t g)) []:=by
 refine tE Tryz.f134 Tryz.ntmps134 (by rw[Tryz.results134]) ?_
 (refine TW.go ?_;simp;repeat' first|intro hc|refine aa.mk ?_|refine aI ?_|refine ah ?_ ?_|(refine cP ?_;(first|refine⟨_,dh _ _ _,?_⟩|refine⟨_,kW _,?_⟩);simp))
 all_goals refine ar.nil (r:=gB (bb t g)) ?_ rfl
 all_goals(first|(simp[bb];done)|(simp[bb, *];done)|(simp[bb];intros;omega)|(simp[bb, *];intros;omega)|(rw[Bool.eq_iff_iff];simp[bb, *];intros;omega)|(simp[bb, *];rw[Bool.eq_iff_iff];simp;intros;omega)|(intros;omega))
theorem cf (es:List aK)(m:Int):TC Tw.prog E 126 [gR (dw es),gI .i64 m] 0 [] (gI .i64 (cA es m)) []:=by
 refine tE Tryz.f126 Tryz.ntmps126 (by rw[Tryz.results126]) ?_
 refine TW.len 0 rfl fun hlen=>?_;simp only[List.length_map]at hlen;(refine TW.go ?_;simp;repeat' first|intro hc|refine aa.mk ?_|refine aI ?_|refine ah ?_ ?_)
 refine tL (fun k=>⟨[(0,gR (dw es)),(1,gI .i64 m),(5,gI .i64 (k:Nat))],[],0⟩) (fun k=>k≤es.length∧cA es m=ck m (es.drop k) k) (fun k=>es.length-k) 0 ⟨by omega,rfl⟩ (kS) fun k hk=>?_
 obtain⟨hk,hf⟩:=hk;by_cases aj:k<es.length
 ·have he:es[k]?=some es[k]:=List.getElem?_eq_getElem aj
  have Xf:=oM (m:=m) he;(refine TW.go ?_;simp[aj,he,au,wrap_add aj hlen];repeat' first|intro hc|refine aa.mk ?_|refine aI ?_|refine ah ?_ ?_)
  ·refine ar.nil (r:=gI .i64 (cA es m)) ?_ rfl
   simp[hf,Xf,hc]
  ·refine⟨k+1,⟨by omega,?_⟩,by omega,kS⟩
   rw[hf,Xf,if_neg hc]
 ·obtain rfl:k=es.length:=by omega
  (refine TW.go ?_;simp;repeat' first|intro hc|refine aa.mk ?_|refine aI ?_|refine ah ?_ ?_)
  refine ar.nil (r:=gI .i64 (cA es m)) ?_ rfl;simp[hf,List.drop_of_length_le,ck]
end Go.Proofs.YtjklkppncmhehaaGreat.T
namespace Go.Proofs.YtjklkppncmhehaaGreat.T
open Go Go.RowKit
set_option maxRecDepth 100000
variable {E:List PanicEntry→World→Prop}
theorem iX {k:Nat}(hn:k≤maxLen):IntKind.i64.wrap (k:Int)=(k:Int):=by
 simp only[maxLen]at hn;exact aL (by omega) (by omega)
def bX (n:Nat)(c:Nat→Bool):Bool:=(List.range n).all c
theorem bH {n:Nat}{c:Nat→Bool}(h:∀i,i<n→c i=true):bX n c=true:=by simpa[bX]using h
theorem bY {n k:Nat}{c:Nat→Bool}(hk:k<n)(h:c k=false):bX n c=false:=by
 simp only[bX,List.all_eq_false,List.mem_range];exact⟨k,hk,by simp[h]⟩
def oN (xs:List Int)(n:Int):Bool:=xs.any fun x=>decide (x=n)
theorem kX (xs:List Int)(n:Int):TC Tw.prog E 132 [gR (bL xs),gI .i64 n] 0 [] (gB (oN xs n)) []:=by
 refine tE Tryz.f132 Tryz.ntmps132 (by rw[Tryz.results132]) ?_
 refine TW.len 0 rfl fun hlen=>?_;simp only[List.length_map]at hlen;(refine TW.go ?_;simp;repeat' first|intro hc|refine aa.mk ?_|refine aI ?_|refine ah ?_ ?_)
 refine tL (fun k=>⟨[(0,gR (bL xs)),(1,gI .i64 n),(5,gI .i64 (k:Nat))],[],0⟩) (fun k=>k≤xs.length∧∀(i:Nat) (x:Int),i<k→xs[i]?=some x→x≠n) (fun k=>xs.length-k) 0 ⟨by omega,fun i x hi=>by omega⟩ (kS) fun k hk=>?_
 obtain⟨hk,hf⟩:=hk;by_cases aj:k<xs.length
 ·have he:xs[k]?=some xs[k]:=List.getElem?_eq_getElem aj
  (refine TW.go ?_;simp[aj,he,wrap_add aj hlen];repeat' first|intro hc|refine aa.mk ?_|refine aI ?_|refine ah ?_ ?_)
  ·refine ar.nil (r:=gB (oN xs n)) ?_ rfl
   simp[oN];exact hc▸List.getElem_mem aj
  ·refine⟨k+1,⟨by omega,fun i y hi hy=>?_⟩,by omega,kS⟩
   by_cases e:i=k
   ·subst e;rw[he]at hy;cases hy;exact hc
   ·exact hf i y (by omega) hy
 ·obtain rfl:k=xs.length:=by omega
  (refine TW.go ?_;simp;repeat' first|intro hc|refine aa.mk ?_|refine aI ?_|refine ah ?_ ?_)
  refine ar.nil (r:=gB (oN xs n)) ?_ rfl;simp[oN];intro x hx e;obtain⟨i,hi,rfl⟩:=List.getElem_of_mem hx;exact hf i _ hi (List.getElem?_eq_getElem hi) e
def nP (xs:List Int)(i:Nat):Bool:=bw (xs.getD i 0)&&(decide (i=0)||decide (xs.getD (i-1) 0<xs.getD i 0))
def fD (xs:List Int):Bool:=bX xs.length (nP xs)&&decide (0<xs.length)
theorem gu (xs:List Int):TC Tw.prog E 49 [gR (bL xs)] 0 [] (gB (fD xs)) []:=by
 refine tE Tryz.f49 Tryz.ntmps49 (by rw[Tryz.results49]) ?_
 refine TW.len 0 rfl fun hlen=>?_;simp only[List.length_map]at hlen;(refine TW.go ?_;simp;repeat' first|intro hc|refine aa.mk ?_|refine aI ?_|refine ah ?_ ?_)
 refine tL (fun k=>⟨[(0,gR (bL xs)),(3,gI .i64 (k:Nat))],[],0⟩) (fun k=>k≤xs.length∧∀i,i<k→nP xs i=true) (fun k=>xs.length-k) 0 ⟨by omega,fun i hi=>by omega⟩ (kS) fun k hk=>?_
 obtain⟨hk,hf⟩:=hk;by_cases aj:k<xs.length
 ·have he:xs[k]?=some xs[k]:=List.getElem?_eq_getElem aj
  have hq:fD xs=false∨nP xs k=true:=by
   cases h:nP xs k
   ·exact .inl (by simp[fD,bY aj h])
   ·exact .inr rfl
  rcases k with _|k
  ·have b_:nP xs 0=bw xs[0]:=by simp[nP,aj]
   (refine TW.go ?_;simp[aj,he];repeat' first|intro hc|refine aa.mk ?_|refine aI ?_|refine ah ?_ ?_|(refine cP ?_;refine⟨_,kW _,?_⟩;simp[aj,he]))
   ·refine⟨1,⟨by omega,fun i hi=>?_⟩,by omega,kS⟩
    obtain rfl:i=0:=by omega
    simpa[b_]
   ·refine ar.nil (r:=gB (fD xs)) ?_ rfl
    have:fD xs=false:=by simp_all
    simp[this]
  ·have dF:xs[k]?=some xs[k]:=List.getElem?_eq_getElem (by omega)
   have hw:=iX (k:=k) (by omega)
   have aF:=wrap_add (k:=k+1) aj hlen;simp only[Int.natCast_add,Int.natCast_one]at aF;have dp:(0:Int)<(k:Int)+1:=by omega
   have aw:(k:Int)+1<(xs.length:Int):=by omega
   have b_:nP xs (k+1)=(bw xs[k+1]&&decide (xs[k]<xs[k+1])):=by simp[nP,aj,show k<xs.length by omega]
   (refine TW.go ?_;simp[aj,he,dF,hw,aF,dp,aw];repeat' first|intro hc|refine aa.mk ?_|refine aI ?_|refine ah ?_ ?_|(refine cP ?_;refine⟨_,kW _,?_⟩;simp[aj,he,dF,hw,aF,dp,aw]))
   all_goals first
    |(refine⟨k+1+1,⟨by omega,fun i hi=>?_⟩,by omega,kS⟩
      by_cases e:i=k+1
      ·subst e;simp_all
      ·exact hf i (by omega))
    |(refine ar.nil (r:=gB (fD xs)) ?_ rfl
      rcases hq with hq|hq
      ·simp[hq]
      ·exfalso
       first|(simp_all;done)|(simp_all;omega))
 ·obtain rfl:k=xs.length:=by omega
  (refine TW.go ?_;simp;repeat' first|intro hc|refine aa.mk ?_|refine aI ?_|refine ah ?_ ?_)
  refine ar.nil (r:=gB (fD xs)) ?_ rfl;simp[fD,bH hf]
end Go.Proofs.YtjklkppncmhehaaGreat.T
namespace Go.Proofs.YtjklkppncmhehaaGreat.T
open Go Go.RowKit
set_option maxRecDepth 100000
variable {E:List PanicEntry→World→Prop}
def ai (g:az):List RT:=[rI g.id,rI g.clock,dw g.aN,dw g.done]
abbrev Gq (g:az) (p d:Nat):GV:= .a [.r (rI g.id),.r (rI g.clock),.own p,.own d]
abbrev dx (es:List aK):ak:= .rows 32 4 (es.map au)
def fE (g:az)(n:Nat):Prop:=g.aN.length≤n∧g.done.length≤n
theorem c9 (g:az)(h:fE g 4294967296):TC Tw.prog E 124 [.a ((ai g).map .r)] 0 [] (Gq g 0 1) [(0,dx g.aN),(1,dx g.done)]:=by
 obtain⟨hp,hd⟩:=h;refine tE Tryz.f124 Tryz.ntmps124 (by rw[Tryz.results124]) ?_
 (refine TW.go ?_;simp[ai,maxLen];repeat' first|intro hc|refine aa.mk ?_|refine aI ?_|refine ah ?_ ?_)
 exact oW [3,5] []
abbrev dD (gs:List az):RT:= .sl 4 (gs.map ai)
def gw (gs:List az)(n:Nat):Prop:=gs.length≤n∧∀g∈gs,fE g n
theorem fF (gs:List az)(h:gw gs 4294967296):TC Tw.prog E 71 [gR (dD gs)] 0 [] (.s (.own 0)) [(0,.rows 37 4 (gs.map ai))]:=by
 obtain⟨hl,hg⟩:=h;refine tE Tryz.f71 Tryz.ntmps71 (by rw[Tryz.results71]) ?_
 have hlen:gs.length≤maxLen:=by simp only[maxLen];omega
 (refine TW.go ?_;simp;repeat' first|intro hc|refine aa.mk ?_|refine aI ?_|refine ah ?_ ?_)
 refine tL (fun k=>⟨[(0,gR (dD gs)),(3,.s (.own 0)),(4,gI .i64 (k:Nat))],[(0,.rows 37 4 ((gs.take k).map ai))],1⟩) (fun k=>k≤gs.length) (fun k=>gs.length-k) 0 (by omega) (kO [0] []) fun k hk=>?_
 by_cases aj:k<gs.length
 ·have he:gs[k]?=some gs[k]:=List.getElem?_eq_getElem aj
  have RE:=hg gs[k] (List.getElem_mem aj);(refine TW.go ?_;simp[aj,he,ai,wrap_add aj hlen,maxLen];repeat' first|intro hc|refine aa.mk ?_|refine aI ?_|refine ah ?_ ?_|(refine cF [] 2 ?_;refine⟨_,_,c9 _ RE,?_⟩;simp[aj,he,ai,wrap_add aj hlen,maxLen]))
  refine⟨k+1,by omega,by omega,Wk.own [4] [] (by simp) (by simp) (by simp[kU he,ai]) (by simp) (by simp)⟩
 ·obtain rfl:k=gs.length:=by omega
  (refine TW.go ?_;simp;repeat' first|intro hc|refine aa.mk ?_|refine aI ?_|refine ah ?_ ?_)
  exact oW [0] []
end Go.Proofs.YtjklkppncmhehaaGreat.T
namespace Go.Proofs.YtjklkppncmhehaaGreat.T
open Go Go.RowKit
set_option maxRecDepth 100000
set_option maxHeartbeats 4000000
variable {E:List PanicEntry→World→Prop}
theorem nQ (m:Int):∀(es:List aK) (k:Nat),(ck m es k= -1∧es.find? (fun e=>decide (e.m=m))=none)∨∃j e,ck m es k=((k+j:Nat):Int)∧es[j]?=some e∧es.find? (fun e=>decide (e.m=m))=some e∧e.m=m
 |[],k=> .inl ⟨rfl,rfl⟩
 |e::es,k=>by
  by_cases h:e.m=m
  ·exact .inr ⟨0,e,by simp[ck,h],rfl,by simp[h],h⟩
  ·rcases nQ m es (k+1)with⟨U,h2⟩|⟨j,x,U,h2,h3,h4⟩
   ·exact .inl ⟨by simp[ck,h,U],by simp[h,h2]⟩
   ·exact .inr ⟨j+1,x,by simp only[ck,h,if_false,U];omega,by simpa using h2,by simp[h,h3],h4⟩
theorem dZ (es:List aK)(m:Int):(cA es m= -1∧es.find? (fun e=>decide (e.m=m))=none)∨∃(j:Nat) (e:aK),cA es m=(j:Int)∧es[j]?=some e∧es.find? (fun e=>decide (e.m=m))=some e∧e.m=m:=by
 rcases nQ m es 0 with h|⟨j,e,U,h2⟩
 ·exact .inl h
 ·exact .inr ⟨j,e,by simpa[cA]using U,h2⟩
def fa (g:az)(m:Int):Option aK:=match g.aN.find? (fun e=>decide (e.m=m))with
 |some e=>some e
 |none=>g.done.find? (fun e=>decide (e.m=m))
abbrev lL (e:aK):GV:= .a ((au e).map .r)
def lM (g:az)(m:Int):GV:=match fa g m with
 |some e=> .p [lL e,gB true]
 |none=> .p [lL aK.zero,gB false]
theorem Gr (g:az)(m:Int):TC Tw.prog E 73 [.a ((ai g).map .r),gI .i64 m] 0 [] (lM g m) []:=by
 refine tE Tryz.f73 Tryz.ntmps73 (by rw[Tryz.results73]) ?_
 rcases dZ g.aN m with⟨hp,aV⟩|⟨j,e,hp,he,aV,_⟩
 ·rcases dZ g.done m with⟨hd,qB⟩|⟨j,e,hd,he,qB,_⟩
  ·(refine TW.go ?_;simp[ai,hp,hd];repeat' first|intro hc|refine aa.mk ?_|refine aI ?_|refine ah ?_ ?_|(refine cP ?_;refine⟨_,cf _ _,?_⟩;simp[ai,hp,hd]))
   rw[show lM g m= .p [lL aK.zero,gB false] by simp[lM,fa,aV,qB]]
   refine ar.nil (r:= .p [lL aK.zero,gB false]) ?_ rfl;simp[au,aK.zero]
  ·(refine TW.go ?_;simp[ai,au,hp,hd,he];repeat' first|intro hc|refine aa.mk ?_|refine aI ?_|refine ah ?_ ?_|(refine cP ?_;refine⟨_,cf _ _,?_⟩;simp[ai,au,hp,hd,he]))
   rw[show lM g m= .p [lL e,gB true] by simp[lM,fa,aV,qB]]
   refine ar.nil (r:= .p [lL e,gB true]) ?_ rfl;simp[au]
 ·(refine TW.go ?_;simp[ai,au,hp,he];repeat' first|intro hc|refine aa.mk ?_|refine aI ?_|refine ah ?_ ?_|(refine cP ?_;refine⟨_,cf _ _,?_⟩;simp[ai,au,hp,he]))
  rw[show lM g m= .p [lL e,gB true] by simp[lM,fa,aV]]
  refine ar.nil (r:= .p [lL e,gB true]) ?_ rfl;simp[au]
def kY (id clock:Int)(es:List aK)(i:Nat):Bool:=match es[i]? with
 |some e=>bC e.m&&bb e.t e.g&&decide (e.t≤clock)&&(decide (i=0)||(match es[i-1]? with|some d=>aU d.t d.g e.t e.g|none=>true))&&decide (cA (es.take i) e.m<0)&&(e.f||decide (e.g=id))
 |none=>true
def iY (id clock:Int)(es:List aK):Bool:=bX es.length (kY id clock es)
theorem xw (es:List aK)(k:Nat)(m:Int):TC Tw.prog E 126 [.s (.r (.sl 4 (List.take k (List.map au es)))),gI .i64 m] 0 [] (gI .i64 (cA (es.take k) m)) []:=by
 have:=cf (E:=E) (es.take k) m
 rwa[dw,List.map_take]at this
theorem I7 (g:az)(es:List aK):TC Tw.prog E 125 [.a ((ai g).map .r),gR (dw es)] 0 [] (gB (iY g.id g.clock es)) []:=by
 refine tE Tryz.f125 Tryz.ntmps125 (by rw[Tryz.results125]) ?_
 refine TW.len 1 rfl fun hlen=>?_;simp only[List.length_map]at hlen;(refine TW.go ?_;simp;repeat' first|intro hc|refine aa.mk ?_|refine aI ?_|refine ah ?_ ?_)
 refine tL (fun k=>⟨[(1,gR (dw es)),(2,.s (.ptr 0 0)),(5,gI .i64 (k:Nat))],[(0,.box ((ai g).map .r))],1⟩) (fun k=>k≤es.length∧∀i,i<k→kY g.id g.clock es i=true) (fun k=>es.length-k) 0 ⟨by omega,fun i hi=>by omega⟩ (kO [0] []) fun k hk=>?_
 obtain⟨hk,hf⟩:=hk;by_cases aj:k<es.length
 ·have he:es[k]?=some es[k]:=List.getElem?_eq_getElem aj
  have hq:iY g.id g.clock es=false∨kY g.id g.clock es k=true:=by
   cases h:kY g.id g.clock es k
   ·exact .inl (by simp[iY,bY aj h])
   ·exact .inr rfl
  rcases k with _|k
  ·have b_:kY g.id g.clock es 0=(bC es[0].m&&bb es[0].t es[0].g&&decide (es[0].t≤g.clock)&&decide (cA [] es[0].m<0)&&(es[0].f||decide (es[0].g=g.id))):=by simp[kY,he];rfl
   (refine TW.go ?_;simp[aj,he,ai,au];repeat' first|intro hc|refine aa.mk ?_|refine aI ?_|refine ah ?_ ?_|(refine cP ?_;(first|refine⟨_,fZ _,?_⟩|refine⟨_,e_ _ _,?_⟩|refine⟨_,cY _ _ _ _,?_⟩|refine⟨_,cf [] _,?_⟩);simp[aj,he,ai,au]))
   all_goals first
    |(refine⟨1,⟨by omega,fun i hi=>?_⟩,by omega,Wk.own [0] [] (by simp) (by simp) (by simp[ai]) (by simp) (by simp)⟩
      obtain rfl:i=0:=by omega
      simp_all)
    |(refine ar.nil (r:=gB (iY g.id g.clock es)) ?_ rfl
      rcases hq with hq|hq
      ·simp[hq]
      ·exfalso
       first|(simp_all;done)|(simp_all;omega))
  ·have dF:es[k]?=some es[k]:=List.getElem?_eq_getElem (by omega)
   have hw:=iX (k:=k) (by omega)
   have aF:=wrap_add (k:=k+1) aj hlen;simp only[Int.natCast_add,Int.natCast_one]at aF;have dp:(0:Int)<(k:Int)+1:=by omega
   have aw:(k:Int)+1<(es.length:Int):=by omega
   have b_:kY g.id g.clock es (k+1)=(bC es[k+1].m&&bb es[k+1].t es[k+1].g&&decide (es[k+1].t≤g.clock)&&aU es[k].t es[k].g es[k+1].t es[k+1].g&&decide (cA (es.take (k+1)) es[k+1].m<0)&&(es[k+1].f||decide (es[k+1].g=g.id))):=by simp[kY,he,dF]
   (refine TW.go ?_;simp[aj,hk,he,dF,hw,aF,dp,aw,ai,au];repeat' first|intro hc|refine aa.mk ?_|refine aI ?_|refine ah ?_ ?_|(refine cP ?_;(first|refine⟨_,fZ _,?_⟩|refine⟨_,e_ _ _,?_⟩|refine⟨_,cY _ _ _ _,?_⟩|refine⟨_,xw _ _ _,?_⟩);simp[aj,hk,he,dF,hw,aF,dp,aw,ai,au]))
   all_goals first
    |(refine⟨k+1+1,⟨by omega,fun i hi=>?_⟩,by omega,Wk.own [0] [] (by simp) (by simp) (by simp[ai]) (by simp) (by simp)⟩
      by_cases e:i=k+1
      ·subst e;simp_all
      ·exact hf i (by omega))
    |(refine ar.nil (r:=gB (iY g.id g.clock es)) ?_ rfl
      rcases hq with hq|hq
      ·simp[hq]
      ·exfalso
       first|(simp_all;done)|(simp_all;omega))
 ·obtain rfl:k=es.length:=by omega
  (refine TW.go ?_;simp;repeat' first|intro hc|refine aa.mk ?_|refine aI ?_|refine ah ?_ ?_)
  refine ar.nil (r:=gB (iY g.id g.clock es)) ?_ rfl;simp[iY,bH hf]
end Go.Proofs.YtjklkppncmhehaaGreat.T
namespace Go.Proofs.YtjklkppncmhehaaGreat.T
open Go Go.RowKit
set_option maxRecDepth 100000
set_option maxHeartbeats 4000000
variable {E:List PanicEntry→World→Prop}
def kZ (g:az)(i:Nat):Bool:=match g.done[i]? with
 |some e=>e.f&&decide (cA g.aN e.m<0)
 |none=>true
def jJ (g:az):Bool:=match g.aN with
 |[]=>true
 |p::_=> !p.f&&(match g.done.getLast? with
  |some d=>aU d.t d.g p.t p.g
  |none=>true)
def bI (g:az):Bool:=bw g.id&&decide (0≤g.clock∧g.clock≤999)&&iY g.id g.clock g.aN&&iY g.id g.clock g.done&&bX g.done.length (kZ g)&&jJ g
theorem sA (g:az)(h:fE g 4294967296):TC Tw.prog E 72 [.a ((ai g).map .r)] 0 [] (gB (bI g)) []:=by
 obtain⟨tn,UH⟩:=h;have hlen:g.done.length≤maxLen:=by simp only[maxLen];omega
 refine tE Tryz.f72 Tryz.ntmps72 (by rw[Tryz.results72]) ?_
 (refine TW.go ?_;simp[ai];repeat' first|intro hc|refine aa.mk ?_|refine aI ?_|refine ah ?_ ?_|(refine cP ?_;(first|refine⟨_,kW _,?_⟩|refine⟨_,dh _ _ _,?_⟩|refine⟨_,I7 g _,?_⟩);simp[ai]))
 any_goals(
  refine ar.nil (r:=gB (bI g)) ?_ rfl;first|(simp_all[bI];done)|(simp_all[bI];intros;omega))
 refine tL (fun k=>⟨[(1,.s (.ptr 0 0)),(3,gI .i64 (k:Nat))],[(0,.box ((ai g).map .r))],1⟩) (fun k=>k≤g.done.length∧∀i,i<k→kZ g i=true) (fun k=>g.done.length-k) 0 ⟨by omega,fun i hi=>by omega⟩ (Wk.own [0] [] (by simp) (by simp) (by simp[ai]) (by simp) (by simp)) fun k hk=>?_
 obtain⟨hk,hf⟩:=hk;by_cases aj:k<g.done.length
 ·have he:g.done[k]?=some g.done[k]:=List.getElem?_eq_getElem aj
  have b_:kZ g k=(g.done[k].f&&decide (cA g.aN g.done[k].m<0)):=by simp[kZ,he]
  have hq:bI g=false∨kZ g k=true:=by
   cases h:kZ g k
   ·exact .inl (by simp[bI,bY aj h])
   ·exact .inr rfl
  (refine TW.go ?_;simp[aj,he,ai,au,wrap_add aj hlen];repeat' first|intro hc|refine aa.mk ?_|refine aI ?_|refine ah ?_ ?_|(refine cP ?_;refine⟨_,cf _ _,?_⟩;simp[aj,he,ai,au,wrap_add aj hlen]))
  all_goals first
   |(refine⟨k+1,⟨by omega,fun i hi=>?_⟩,by omega,Wk.own [0] [] (by simp) (by simp) (by simp[ai]) (by simp) (by simp)⟩
     by_cases e:i=k
     ·subst e;simp_all
     ·exact hf i (by omega))
   |(refine ar.nil (r:=gB (bI g)) ?_ rfl
     rcases hq with hq|hq
     ·simp[hq]
     ·exfalso
      first|(simp_all;done)|(simp_all;omega))
 ·obtain rfl:k=g.done.length:=by omega
  have db:bX g.done.length (kZ g)=true:=bH hf
  clear hf;rcases hp:g.aN with _|⟨p,ps⟩
  ·(refine TW.go ?_;simp[ai,hp];repeat' first|intro hc|refine aa.mk ?_|refine aI ?_|refine ah ?_ ?_)
   refine ar.nil (r:=gB (bI g)) ?_ rfl;simp_all[bI,jJ]
  ·have wK:¬((ps.length:Int)+1=0):=by omega
   rcases hn:g.done.length with _|n
   ·have eH:g.done=[]:=List.length_eq_zero_iff.1 hn
    (refine TW.go ?_;simp[ai,au,hp,hn,wK];repeat' first|intro hc|refine aa.mk ?_|refine aI ?_|refine ah ?_ ?_|(refine cP ?_;refine⟨_,cY _ _ _ _,?_⟩;simp[ai,au,hp,hn,wK]))
    all_goals
     refine ar.nil (r:=gB (bI g)) ?_ rfl;simp_all[bI,jJ]
   ·have B4:g.done[n]?=some g.done[n]:=List.getElem?_eq_getElem (by omega)
    have vX:g.done.getLast?=some g.done[n]:=by rw[List.getLast?_eq_getElem?,show g.done.length-1=n by omega];exact B4
    have hw:=iX (k:=n) (by omega)
    have yF:¬((n:Int)+1=0):=by omega
    (refine TW.go ?_;simp[ai,au,hp,hn,wK,yF,hw,B4];repeat' first|intro hc|refine aa.mk ?_|refine aI ?_|refine ah ?_ ?_|(refine cP ?_;refine⟨_,cY _ _ _ _,?_⟩;simp[ai,au,hp,hn,wK,yF,hw,B4]))
    all_goals
     refine ar.nil (r:=gB (bI g)) ?_ rfl;simp_all[bI,jJ]
end Go.Proofs.YtjklkppncmhehaaGreat.T
namespace Go.Proofs.YtjklkppncmhehaaGreat.T
open Go Go.RowKit
set_option maxRecDepth 100000
set_option maxHeartbeats 4000000
variable {E:List PanicEntry→World→Prop}
def bG (g:az)(m:Int):aK:=(fa g m).getD aK.zero
def gT (g:az)(m:Int):Bool:=(fa g m).isSome
theorem d_ (g:az)(m:Int):TC Tw.prog E 73 [.a ((ai g).map .r),gI .i64 m] 0 [] (.p [lL (bG g m),gB (gT g m)]) []:=by
 have:=Gr (E:=E) g m
 unfold lM at this;unfold bG gT
 cases h:fa g m with
 |none=>rw[h]at this;exact this
 |some e=>rw[h]at this;exact this
def jK (a b:az)(m:Int):Bool:=
 !(gT a m&&(bG a m).f)|| !(gT b m&&(if(bG b m).f then !(decide ((bG b m).t=(bG a m).t)&&decide ((bG b m).g=(bG a m).g))else aU (bG a m).t (bG a m).g (bG b m).t (bG b m).g))
theorem xx {a b:az}{m:Int}(U:gT a m=true)(h2:(bG a m).f=true)(h3:gT b m=true)(h4:¬(bG b m).f=true):jK a b m= !aU (bG a m).t (bG a m).g (bG b m).t (bG b m).g:=by
 have h4:(bG b m).f=false:=by simpa using h4
 unfold jK;rw[U,h2,h3,h4];simp
def aG (gs:List az)(i:Nat):az:=gs.getD i ⟨0,0,[],[]⟩
def sB (gs:List az)(m i:Nat):Bool:=bX gs.length fun k=>jK (aG gs i) (aG gs k) m
def oO (gs:List az)(m:Nat):Bool:=bX gs.length (sB gs m)
def pJ (gs:List az)(i:Nat):Bool:=bI (aG gs i)&&decide ((aG gs i).id=i)
def cZ (gs:List az):Bool:=decide (gs.length=5)&&bX gs.length (pJ gs)&&bX 12 (oO gs)
theorem qT (gs:List az)(h:gw gs 4294967296):TC Tw.prog E 26 [gR (dD gs)] 0 [] (gB (cZ gs)) []:=by
 obtain⟨hl,hg⟩:=h;have hlen:gs.length≤maxLen:=by simp only[maxLen];omega
 refine tE Tryz.f26 Tryz.ntmps26 (by rw[Tryz.results26]) ?_
 by_cases h5:gs.length=5
 ·(refine TW.go ?_;simp[h5];repeat' first|intro hc|refine aa.mk ?_|refine aI ?_|refine ah ?_ ?_)
  refine tL (fun k=>⟨[(0,gR (dD gs)),(3,gI .i64 (k:Nat))],[],0⟩) (fun k=>k≤5∧∀i,i<k→pJ gs i=true) (fun k=>5-k) 0 ⟨by omega,fun i hi=>by omega⟩ (kS) fun k hk=>?_
  obtain⟨hk,hf⟩:=hk;by_cases aj:k<gs.length
  ·have he:gs[k]?=some gs[k]:=List.getElem?_eq_getElem aj
   have Gs:(k:Int)<5:=by omega
   have b_:pJ gs k=(bI gs[k]&&decide (gs[k].id=k)):=by simp[pJ,aG,he]
   have hq:cZ gs=false∨pJ gs k=true:=by
    cases h:pJ gs k
    ·exact .inl (by simp[cZ,bY aj h])
    ·exact .inr rfl
   (refine TW.go ?_;simp[h5,Gs,aj,he,ai,wrap_add aj hlen];repeat' first|intro hc|refine aa.mk ?_|refine aI ?_|refine ah ?_ ?_|(refine cP ?_;refine⟨_,sA _ (hg _ (List.getElem_mem aj)),?_⟩;simp[h5,Gs,aj,he,ai,wrap_add aj hlen]))
   all_goals first
    |(refine⟨k+1,⟨by omega,fun i hi=>?_⟩,by omega,kS⟩
      by_cases e:i=k
      ·subst e;simp_all
      ·exact hf i (by omega))
    |(refine ar.nil (r:=gB (cZ gs)) ?_ rfl
      rcases hq with hq|hq
      ·simp[hq]
      ·exfalso
       first|(simp_all;done)|(simp_all;omega))
  ·obtain rfl:k=5:=by omega
   have db:bX gs.length (pJ gs)=true:=bH (by rw[h5];exact hf)
   clear hf hk aj;(refine TW.go ?_;simp[h5];repeat' first|intro hc|refine aa.mk ?_|refine aI ?_|refine ah ?_ ?_)
   refine tL (fun m=>⟨[(0,gR (dD gs)),(4,gI .i64 (m:Nat))],[],0⟩) (fun m=>m≤12∧∀i,i<m→oO gs i=true) (fun m=>12-m) 0 ⟨by omega,fun i hi=>by omega⟩ (kS) fun m hm=>?_
   obtain⟨hm,hf⟩:=hm;by_cases aj:m<12
   ·have Z4:cZ gs=false∨oO gs m=true:=by
     cases h:oO gs m
     ·exact .inl (by simp[cZ,bY aj h])
     ·exact .inr rfl
    have Te:IntKind.i64.wrap ((m:Int)+1)=(m:Int)+1:=aL (by omega) (by omega)
    have Z5:(m:Int)<12:=by omega
    (refine TW.go ?_;simp[Z5];repeat' first|intro hc|refine aa.mk ?_|refine aI ?_|refine ah ?_ ?_)
    refine tL (fun i=>⟨[(0,gR (dD gs)),(4,gI .i64 (m:Nat)),(5,gI .i64 (i:Nat))],[],0⟩) (fun i=>i≤5∧∀j,j<i→sB gs m j=true) (fun i=>5-i) 0 ⟨by omega,fun i hi=>by omega⟩ (kS) fun i hi=>?_
    obtain⟨hi,RN⟩:=hi;by_cases ux:i<gs.length
    ·have RO:gs[i]?=some gs[i]:=List.getElem?_eq_getElem ux
     have Gs:(i:Int)<5:=by omega
     (refine TW.go ?_;simp[h5,Gs,ux,RO,ai,au];repeat' first|intro hc|refine aa.mk ?_|refine aI ?_|refine ah ?_ ?_|(refine cP ?_;refine⟨_,d_ _ _,?_⟩;simp[h5,Gs,ux,RO,ai,au]))
     have Z6:cZ gs=false∨sB gs m i=true:=by
      rcases Z4 with h|h
      ·exact .inl h
      ·exact .inr (by simp only[oO,bX,List.all_eq_true,List.mem_range]at h;exact h i ux)
     refine tL (fun k=>⟨[(0,gR (dD gs)),(4,gI .i64 (m:Nat)),(5,gI .i64 (i:Nat)),(6,.s (.ptr 0 0)),(7,gB (gT gs[i] m)),(8,gI .i64 (k:Nat))],[(0,.box ((au (bG gs[i] m)).map .r))],1⟩) (fun k=>k≤5∧∀j,j<k→jK gs[i] (aG gs j) m=true) (fun k=>5-k) 0 ⟨by omega,fun j hj=>by omega⟩ (Wk.own [0] [] (by simp) (by simp) (by simp[au]) (by simp) (by simp)) fun k hk=>?_
     obtain⟨hk,pK⟩:=hk;by_cases qe:k<gs.length
     ·have UI:gs[k]?=some gs[k]:=List.getElem?_eq_getElem qe
      have Xg:(k:Int)<5:=by omega
      have nW:aG gs i=gs[i]:=by simp[aG,RO]
      have G8:aG gs k=gs[k]:=by simp[aG,UI]
      have Mx:cZ gs=false∨jK gs[i] gs[k] m=true:=by
       rcases Z6 with h|h
       ·exact .inl h
       ·refine .inr ?_
        simp only[sB,bX,List.all_eq_true,List.mem_range]at h;have:=h k qe
        rwa[nW,G8]at this
      (refine TW.go ?_;simp[h5,Xg,qe,UI,ai,au,wrap_add qe hlen,wrap_add ux hlen];repeat' first|intro hc|refine aa.mk ?_|refine aI ?_|refine ah ?_ ?_|(refine cP ?_;(first|refine⟨_,d_ _ _,?_⟩|refine⟨_,cY _ _ _ _,?_⟩);simp[h5,Xg,qe,UI,ai,au,wrap_add qe hlen,wrap_add ux hlen]))
      all_goals first
       |(refine⟨k+1,⟨by omega,fun j hj=>?_⟩,by omega,Wk.own [0] [] (by simp) (by simp) (by simp[au]) (by simp) (by simp)⟩
         by_cases e:j=k
         ·subst e;rw[G8];first|(simp_all[jK];done)|(rw[xx (by assumption) (by assumption) (by assumption) (by assumption),hc];rfl)
         ·exact pK j (by omega))
       |(refine⟨i+1,⟨by omega,fun j hj=>?_⟩,by omega,kS⟩
         by_cases e:j=i
         ·subst e
          simp only[sB,nW];exact bH fun l _=>by simp_all[jK]
         ·exact RN j (by omega))
       |(refine ar.nil (r:=gB (cZ gs)) ?_ rfl
         rcases Mx with Mx|Mx
         ·simp[Mx]
         ·exfalso
          first|(simp_all[jK];done)|(rw[xx (by assumption) (by assumption) (by assumption) (by assumption),hc]at Mx;cases Mx))
     ·obtain rfl:k=5:=by omega
      have nW:aG gs i=gs[i]:=by simp[aG,RO]
      have eJ:sB gs m i=true:=by simp only[sB,nW];exact bH (by rw[h5];exact pK)
      clear pK qe hk;(refine TW.go ?_;simp[h5,ai,au,wrap_add ux hlen];repeat' first|intro hc|refine aa.mk ?_|refine aI ?_|refine ah ?_ ?_)
      refine⟨i+1,⟨by omega,fun j hj=>?_⟩,by omega,kS⟩
      by_cases e:j=i
      ·subst e;exact eJ
      ·exact RN j (by omega)
    ·obtain rfl:i=5:=by omega
     have J0:oO gs m=true:=bH (by rw[h5];exact RN)
     clear RN ux hi;(refine TW.go ?_;simp[h5,Te];repeat' first|intro hc|refine aa.mk ?_|refine aI ?_|refine ah ?_ ?_)
     refine⟨m+1,⟨by omega,fun j hj=>?_⟩,by omega,kS⟩
     by_cases e:j=m
     ·subst e;exact J0
     ·exact hf j (by omega)
   ·obtain rfl:m=12:=by omega
    (refine TW.go ?_;simp;repeat' first|intro hc|refine aa.mk ?_|refine aI ?_|refine ah ?_ ?_)
    refine ar.nil (r:=gB (cZ gs)) ?_ rfl;simp[cZ,h5,bH hf];rw[←h5];exact db
 ·have UJ:¬((gs.length:Int)=5):=by omega
  (refine TW.go ?_;simp[h5,UJ];repeat' first|intro hc|refine aa.mk ?_|refine aI ?_|refine ah ?_ ?_)
  refine ar.nil (r:=gB (cZ gs)) ?_ rfl;simp[cZ,h5]
end Go.Proofs.YtjklkppncmhehaaGreat.T
namespace Go.Proofs.YtjklkppncmhehaaGreat.T
open Go Go.RowKit
set_option maxRecDepth 100000
set_option maxHeartbeats 4000000
variable {E:List PanicEntry→World→Prop}
def iC (s:Int×Int):List RT:=[rI s.1,rI s.2]
abbrev PB (xs:List (Int×Int)):RT:= .sl 2 (xs.map iC)
abbrev km (s:Int×Int):GV:= .a [.r (rI s.1),.r (rI s.2)]
def fH (a:Int×Int):List (Int×Int)→Int×Int
 |[]=>a
 |x::xs=>fH (if aU a.1 a.2 x.1 x.2=true then x else a) xs
theorem I8 {a x:Int×Int}{xs:List (Int×Int)}{k:Nat}(h:xs[k]?=some x):fH a (xs.drop k)=fH (if aU a.1 a.2 x.1 x.2=true then x else a) (xs.drop (k+1)):=by
 obtain⟨hk,he⟩:=List.getElem?_eq_some_iff.1 h;rw[List.drop_eq_getElem_cons hk,fH,he]
theorem Gt (x:Int×Int)(xs:List (Int×Int)):TC Tw.prog E 110 [gR (PB (x::xs))] 0 [] (km (fH x xs)) []:=by
 refine tE Tryz.f110 Tryz.ntmps110 (by rw[Tryz.results110]) ?_
 refine TW.len 0 rfl fun hlen=>?_;simp only[List.length_map]at hlen;generalize FN:x::xs=ys at*;have h0:ys[0]?=some x:=by rw[←FN];rfl
 have hM:fH x xs=fH x (ys.drop 1):=by rw[←FN];rfl
 have dp:1≤ys.length:=by rw[←FN];simp
 rw[hM];clear FN hM;(refine TW.go ?_;simp[h0,iC];repeat' first|intro hc|refine aa.mk ?_|refine aI ?_|refine ah ?_ ?_)
 refine tL (fun(p:Nat×(Int×Int))=>⟨[(0,gR (PB ys)),(2,.s (.ptr 1 0)),(3,.s (.ptr 0 0)),(4,gI .i64 (p.1:Nat))],[(0,.box [.r (rI p.2.1),.r (rI p.2.2)]),(1,.box [.r (rI 0),.r (rI 0)])],2⟩) (fun p=>p.1≤ys.length∧fH p.2 (ys.drop p.1)=fH x (ys.drop 1)) (fun p=>ys.length-p.1) (1,x) ⟨dp,rfl⟩ (kO [1,0] []) fun p hp=>?_;obtain⟨k,b⟩:=p;obtain⟨hk,hb⟩:=hp;simp only at hk hb⊢
 by_cases aj:k<ys.length
 ·have he:ys[k]?=some ys[k]:=List.getElem?_eq_getElem aj
  have hd:=I8 (a:=b) he;(refine TW.go ?_;simp[aj,he,iC,wrap_add aj hlen];repeat' first|intro hc|refine aa.mk ?_|refine aI ?_|refine ah ?_ ?_|(refine cP ?_;refine⟨_,cY _ _ _ _,?_⟩;simp[aj,he,iC,wrap_add aj hlen]))
  ·exact⟨(k+1,ys[k]),⟨by simp only;omega,by rw[←hb,hd,if_pos hc]⟩,by simp only;omega,kO [0,1] []⟩
  ·exact⟨(k+1,b),⟨by simp only;omega,by rw[←hb,hd,if_neg (by simp[hc])]⟩,by simp only;omega,kO [0,1] []⟩
 ·obtain rfl:k=ys.length:=by omega
  (refine TW.go ?_;simp;repeat' first|intro hc|refine aa.mk ?_|refine aI ?_|refine ah ?_ ?_)
  rw[List.drop_length]at hb;simp only[fH]at hb;rw[←hb];refine ar.nil (r:=km b) ?_ rfl;simp
end Go.Proofs.YtjklkppncmhehaaGreat.T
namespace Go.Proofs.YtjklkppncmhehaaGreat.T
open Go Go.RowKit
set_option maxRecDepth 100000
set_option maxHeartbeats 4000000
variable {E:List PanicEntry→World→Prop}
def aM (g:az)(m:Int):az×(Int×Int)×Bool:=match g.aN.find? (fun e=>decide (e.m=m))with
 |some e=>if e.f=true then(g,(0,0),false)else(g,(e.t,e.g),true)
 |none=>match g.done.find? (fun e=>decide (e.m=m))with
  |some _=>(g,(0,0),false)
  |none=>if 999≤g.clock then(g,(0,0),false)else(⟨g.id,g.clock+1,g.aN++[⟨m,g.clock+1,g.id,false⟩],g.done⟩,(g.clock+1,g.id),true)
abbrev My (r:az×(Int×Int)×Bool):GV:= .p [Gq r.1 0 1,km r.2.1,gB r.2.2]
abbrev Gu (g:az):List (Nat×ak):=[(0,dx g.aN),(1,dx g.done)]
theorem jh (g:az)(m:Int)(h:fE g 4294967290)(h0:0≤g.clock):TC Tw.prog E 122 [.a ((ai g).map .r),gI .i64 m] 0 [] (My (aM g m)) (Gu (aM g m).1):=by
 obtain⟨tn,UH⟩:=h;have hle:fE g 4294967296:=⟨by omega,by omega⟩
 refine tE Tryz.f122 Tryz.ntmps122 (by rw[Tryz.results122]) ?_
 rcases dZ g.aN m with⟨hp,aV⟩|⟨j,e,hp,he,aV,_⟩
 ·rcases dZ g.done m with⟨hd,qB⟩|⟨j,e,hd,he,qB,_⟩
  ·by_cases h9:999≤g.clock
   ·have hr:aM g m=(g,(0,0),false):=by simp[aM,aV,qB,h9]
    rw[hr];(refine TW.go ?_;simp[ai,au,hp,hd,h9];repeat' first|intro hc|refine aa.mk ?_|refine aI ?_|refine ah ?_ ?_|(refine cP ?_;refine⟨_,cf _ _,?_⟩;simp[ai,au,hp,hd,h9])|(refine cF [] 2 ?_;refine⟨_,_,c9 _ hle,?_⟩;simp[ai,au,hp,hd,h9]))
    exact oW [3,4] []
   ·have hr:aM g m=(⟨g.id,g.clock+1,g.aN++[⟨m,g.clock+1,g.id,false⟩],g.done⟩,(g.clock+1,g.id),true):=by simp[aM,aV,qB,h9]
    have hw:IntKind.i64.wrap (g.clock+1)=g.clock+1:=aL (by omega) (by omega)
    rw[hr];(refine TW.go ?_;simp[ai,au,hp,hd,h9,hw,maxLen];repeat' first|intro hc|refine aa.mk ?_|refine aI ?_|refine ah ?_ ?_|(refine cP ?_;refine⟨_,cf _ _,?_⟩;simp[ai,au,hp,hd,h9,hw,maxLen])|(refine cF [] 2 ?_;refine⟨_,_,c9 _ hle,?_⟩;simp[ai,au,hp,hd,h9,hw,maxLen]))
    exact ar.own [8,4] [] (by simp;rfl) (by simp) (by simp) (by simp) (by simp[au]) (by simp)
  ·have hr:aM g m=(g,(0,0),false):=by simp[aM,aV,qB]
   rw[hr];(refine TW.go ?_;simp[ai,au,hp,hd];repeat' first|intro hc|refine aa.mk ?_|refine aI ?_|refine ah ?_ ?_|(refine cP ?_;refine⟨_,cf _ _,?_⟩;simp[ai,au,hp,hd])|(refine cF [] 2 ?_;refine⟨_,_,c9 _ hle,?_⟩;simp[ai,au,hp,hd]))
   exact oW [3,4] []
 ·cases hf:e.f
  ·have hr:aM g m=(g,(e.t,e.g),true):=by simp[aM,aV,hf]
   rw[hr];(refine TW.go ?_;simp[ai,au,hp,he,hf];repeat' first|intro hc|refine aa.mk ?_|refine aI ?_|refine ah ?_ ?_|(refine cP ?_;refine⟨_,cf _ _,?_⟩;simp[ai,au,hp,he,hf])|(refine cF [] 2 ?_;refine⟨_,_,c9 _ hle,?_⟩;simp[ai,au,hp,he,hf]))
   exact oW [3,4] []
  ·have hr:aM g m=(g,(0,0),false):=by simp[aM,aV,hf]
   rw[hr];(refine TW.go ?_;simp[ai,au,hp,he,hf];repeat' first|intro hc|refine aa.mk ?_|refine aI ?_|refine ah ?_ ?_|(refine cP ?_;refine⟨_,cf _ _,?_⟩;simp[ai,au,hp,he,hf])|(refine cF [] 2 ?_;refine⟨_,_,c9 _ hle,?_⟩;simp[ai,au,hp,he,hf]))
   exact oW [3,4] []
end Go.Proofs.YtjklkppncmhehaaGreat.T
namespace Go.Proofs.YtjklkppncmhehaaGreat.T
open Go Go.RowKit
set_option maxRecDepth 100000
set_option maxHeartbeats 4000000
variable {E:List PanicEntry→World→Prop}
theorem nE (n:Int):TC Tw.prog E 55 [gI .i64 n] 0 [] (gB (bw n)) []:=by
 refine tE Tryz.f55 Tryz.ntmps55 (by rw[Tryz.results55]) ?_
 (refine TW.go ?_;simp;repeat' first|intro hc|refine aa.mk ?_|refine aI ?_|refine ah ?_ ?_)
 all_goals refine ar.nil (r:=gB (bw n)) ?_ rfl
 all_goals(first|(simp[bw];done)|(simp[bw, *];done)|(simp[bw];intros;omega)|(simp[bw, *];intros;omega)|(rw[Bool.eq_iff_iff];simp[bw, *];intros;omega)|(simp[bw, *];rw[Bool.eq_iff_iff];simp;intros;omega)|(intros;omega))
theorem nF (n:Int):TC Tw.prog E 56 [gI .i64 n] 0 [] (gB (bC n)) []:=by
 refine tE Tryz.f56 Tryz.ntmps56 (by rw[Tryz.results56]) ?_
 (refine TW.go ?_;simp;repeat' first|intro hc|refine aa.mk ?_|refine aI ?_|refine ah ?_ ?_)
 all_goals refine ar.nil (r:=gB (bC n)) ?_ rfl
 all_goals(first|(simp[bC];done)|(simp[bC, *];done)|(simp[bC];intros;omega)|(simp[bC, *];intros;omega)|(rw[Bool.eq_iff_iff];simp[bC, *];intros;omega)|(simp[bC, *];rw[Bool.eq_iff_iff];simp;intros;omega)|(intros;omega))
theorem zC (n:Int):TC Tw.prog E 111 [gI .i64 n] 0 [] (gB (fC n)) []:=by
 refine tE Tryz.f111 Tryz.ntmps111 (by rw[Tryz.results111]) ?_
 (refine TW.go ?_;simp;repeat' first|intro hc|refine aa.mk ?_|refine aI ?_|refine ah ?_ ?_)
 all_goals refine ar.nil (r:=gB (fC n)) ?_ rfl
 all_goals(first|(simp[fC];done)|(simp[fC, *];done)|(simp[fC];intros;omega)|(simp[fC, *];intros;omega)|(rw[Bool.eq_iff_iff];simp[fC, *];intros;omega)|(simp[fC, *];rw[Bool.eq_iff_iff];simp;intros;omega)|(intros;omega))
theorem ji (t g:Int):TC Tw.prog E 18 [km (t,g)] 0 [] (gB (bb t g)) []:=by
 refine tE Tryz.f18 Tryz.ntmps18 (by rw[Tryz.results18]) ?_
 (refine TW.go ?_;simp;repeat' first|intro hc|refine aa.mk ?_|refine aI ?_|refine ah ?_ ?_|(refine cP ?_;refine⟨_,nE _,?_⟩;simp))
 all_goals refine ar.nil (r:=gB (bb t g)) ?_ rfl
 all_goals(first|(simp[bb];done)|(simp[bb, *];done)|(simp[bb];intros;omega)|(simp[bb, *];intros;omega)|(rw[Bool.eq_iff_iff];simp[bb, *];intros;omega)|(simp[bb, *];rw[Bool.eq_iff_iff];simp;intros;omega)|(intros;omega))
theorem lP (t g t' g':Int):TC Tw.prog E 54 [km (t,g),km (t',g')] 0 [] (gB (aU t g t' g')) []:=by
 refine tE Tryz.f54 Tryz.ntmps54 (by rw[Tryz.results54]) ?_
 (refine TW.go ?_;simp;repeat' first|intro hc|refine aa.mk ?_|refine aI ?_|refine ah ?_ ?_)
 all_goals refine ar.nil (r:=gB (aU t g t' g')) ?_ rfl
 all_goals(first|(simp[aU];done)|(simp[aU, *];done)|(simp[aU];intros;omega)|(simp[aU, *];intros;omega)|(rw[Bool.eq_iff_iff];simp[aU, *];intros;omega)|(simp[aU, *];rw[Bool.eq_iff_iff];simp;intros;omega)|(intros;omega))
def o9 (id clock:Int)(es:List aK)(i:Nat):Bool:=match es[i]? with
 |some e=>bC e.m&&bb e.t e.g&&decide (e.t≤clock)&&(e.f||decide (e.g=id))&&(decide (i=0)||(match es[i-1]? with|some d=>aU d.t d.g e.t e.g|none=>true))
 |none=>true
def jW (id clock:Int)(es:List aK):Bool:=bX es.length (o9 id clock es)
theorem ql (g:az)(es:List aK):TC Tw.prog E 112 [.a ((ai g).map .r),gR (dw es)] 0 [] (gB (jW g.id g.clock es)) []:=by
 refine tE Tryz.f112 Tryz.ntmps112 (by rw[Tryz.results112]) ?_
 refine TW.len 1 rfl fun hlen=>?_;simp only[List.length_map]at hlen;(refine TW.go ?_;simp;repeat' first|intro hc|refine aa.mk ?_|refine aI ?_|refine ah ?_ ?_)
 refine tL (fun(k:Nat)=>⟨[(1,gR (dw es)),(2,.s (.ptr 0 0)),(7,gR (dw es)),(8,gI .i64 es.length),(9,gI .i64 (k:Nat))],[(0,.box ((ai g).map .r))],1⟩) (fun k=>k≤es.length∧∀i,i<k→o9 g.id g.clock es i=true) (fun k=>es.length-k) 0 ⟨by omega,fun i hi=>by omega⟩ (kO [0] []) fun k hk=>?_
 obtain⟨hk,hf⟩:=hk;by_cases aj:k<es.length
 ·have he:es[k]?=some es[k]:=List.getElem?_eq_getElem aj
  have hq:jW g.id g.clock es=false∨o9 g.id g.clock es k=true:=by
   cases h:o9 g.id g.clock es k
   ·exact .inl (by simp[jW,bY aj h])
   ·exact .inr rfl
  rcases k with _|k
  ·have b_:o9 g.id g.clock es 0=(bC es[0].m&&bb es[0].t es[0].g&&decide (es[0].t≤g.clock)&&(es[0].f||decide (es[0].g=g.id))):=by simp[o9,he]
   (refine TW.go ?_;simp[aj,he,ai,au];repeat' first|intro hc|refine aa.mk ?_|refine aI ?_|refine ah ?_ ?_|(refine cP ?_;(first|refine⟨_,nF _,?_⟩|refine⟨_,ji _ _,?_⟩|refine⟨_,lP _ _ _ _,?_⟩);simp[aj,he,ai,au]))
   all_goals first
    |(refine⟨1,⟨by omega,fun i hi=>?_⟩,by omega,Wk.own [0] [] (by simp) (by simp) (by simp[ai]) (by simp) (by simp)⟩
      obtain rfl:i=0:=by omega
      simp_all)
    |(refine ar.nil (r:=gB (jW g.id g.clock es)) ?_ rfl
      rcases hq with hq|hq
      ·simp[hq]
      ·exfalso
       first|(simp_all;done)|(clear hf;simp_all;done)|(clear hf;rw[b_]at hq;simp only[Bool.and_eq_true]at hq;rw[hq.2]at hc;cases hc)|(simp_all;omega))
  ·have dF:es[k]?=some es[k]:=List.getElem?_eq_getElem (by omega)
   have hw:=iX (k:=k) (by omega)
   have aF:=wrap_add (k:=k+1) aj hlen;simp only[Int.natCast_add,Int.natCast_one]at aF;have dp:(0:Int)<(k:Int)+1:=by omega
   have aw:(k:Int)+1<(es.length:Int):=by omega
   have b_:o9 g.id g.clock es (k+1)=(bC es[k+1].m&&bb es[k+1].t es[k+1].g&&decide (es[k+1].t≤g.clock)&&(es[k+1].f||decide (es[k+1].g=g.id))&&aU es[k].t es[k].g es[k+1].t es[k+1].g):=by simp[o9,he,dF]
   (refine TW.go ?_;simp[aj,hk,he,dF,hw,aF,dp,aw,ai,au];repeat' first|intro hc|refine aa.mk ?_|refine aI ?_|refine ah ?_ ?_|(refine cP ?_;(first|refine⟨_,nF _,?_⟩|refine⟨_,ji _ _,?_⟩|refine⟨_,lP _ _ _ _,?_⟩);simp[aj,hk,he,dF,hw,aF,dp,aw,ai,au]))
   all_goals first
    |(refine⟨k+1+1,⟨by omega,fun i hi=>?_⟩,by omega,Wk.own [0] [] (by simp) (by simp) (by simp[ai]) (by simp) (by simp)⟩
      by_cases e:i=k+1
      ·subst e;simp_all
      ·exact hf i (by omega))
    |(refine ar.nil (r:=gB (jW g.id g.clock es)) ?_ rfl
      rcases hq with hq|hq
      ·simp[hq]
      ·exfalso
       first|(simp_all;done)|(clear hf;simp_all;done)|(clear hf;rw[b_]at hq;simp only[Bool.and_eq_true]at hq;rw[hq.2]at hc;cases hc)|(simp_all;omega))
 ·obtain rfl:k=es.length:=by omega
  (refine TW.go ?_;simp;repeat' first|intro hc|refine aa.mk ?_|refine aI ?_|refine ah ?_ ?_)
  refine ar.nil (r:=gB (jW g.id g.clock es)) ?_ rfl;simp[jW,bH hf]
theorem yK (es:List aK)(h:es.length≤4294967296):TC Tw.prog E 113 [gR (dw es)] 0 [] (.s (.own 0)) [(0,dx es)]:=by
 refine tE Tryz.f113 Tryz.ntmps113 (by rw[Tryz.results113]) ?_
 (refine TW.go ?_;simp[maxLen];repeat' first|intro hc|refine aa.mk ?_|refine aI ?_|refine ah ?_ ?_)
 exact oW [1] []
theorem nG (es:List aK)(m:Int):TC Tw.prog E 53 [gR (dw es),gI .i64 m] 0 [] (gI .i64 (cA es m)) []:=by
 refine tE Tryz.f53 Tryz.ntmps53 (by rw[Tryz.results53]) ?_
 refine TW.len 0 rfl fun hlen=>?_;simp only[List.length_map]at hlen;(refine TW.go ?_;simp;repeat' first|intro hc|refine aa.mk ?_|refine aI ?_|refine ah ?_ ?_)
 refine tL (fun(k:Nat)=>⟨[(1,gI .i64 m),(7,gR (dw es)),(8,gI .i64 es.length),(9,gI .i64 (k:Nat))],[],0⟩) (fun k=>k≤es.length∧ck m (es.drop k) k=cA es m) (fun k=>es.length-k) 0 ⟨by omega,rfl⟩ (kS) fun k hk=>?_
 obtain⟨hk,hf⟩:=hk;by_cases aj:k<es.length
 ·have he:es[k]?=some es[k]:=List.getElem?_eq_getElem aj
  have hd:=oM (m:=m) he;rw[hf]at hd;by_cases hm:es[k].m=m
  ·rw[if_pos hm]at hd
   (refine TW.go ?_;simp[aj,he,au,hm,wrap_add aj hlen];repeat' first|intro hc|refine aa.mk ?_|refine aI ?_|refine ah ?_ ?_)
   refine ar.nil (r:=gI .i64 (cA es m)) ?_ rfl;simp[hd]
  ·rw[if_neg hm]at hd
   (refine TW.go ?_;simp[aj,he,au,hm,wrap_add aj hlen];repeat' first|intro hc|refine aa.mk ?_|refine aI ?_|refine ah ?_ ?_)
   exact⟨k+1,⟨by omega,hd.symm⟩,by omega,kS⟩
 ·obtain rfl:k=es.length:=by omega
  rw[List.drop_length]at hf;(refine TW.go ?_;simp;repeat' first|intro hc|refine aa.mk ?_|refine aI ?_|refine ah ?_ ?_)
  refine ar.nil (r:=gI .i64 (cA es m)) ?_ rfl;simp[←hf,ck]
end Go.Proofs.YtjklkppncmhehaaGreat.T
