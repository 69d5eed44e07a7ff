/-
What is proved: how entries and groups read in memory and what rests on it. Conditions: as stated.
-/
import Derived.Test.YtlhohdjniaebbaaGreatRy01
import Derived.Test.YtlhohdjniaebbaaGreatRy35
import Derived.WalkKit
import Derived.ProofKit
import Derived.OneCell
import Derived.LoopTactic
import Derived.Deep.RegionHeld3
import Derived.Deep.RegionWith
set_option linter.unusedVariables false
set_option linter.unusedSimpArgs false
namespace Go.Proofs.YtlhohdjniaebbaaGreat
open Go Go.RowKit
structure aK where
 m:Int
 t:Int
 g:Int
 f:Bool
 deriving DecidableEq
def aK.cells (e:aK):List Value:=[.int .i64 e.m,.int .i64 e.t,.int .i64 e.g,.bool e.f]
def aK.zero:aK:=⟨0,0,0,false⟩
def ny (es:List aK):List Value:=es.flatMap aK.cells
structure aH where
 id:Int
 clock:Int
 pend:List aK
 done:List aK
theorem Bx (es:List aK):(ny es).length=es.length*4:=by
 induction es with
 |nil=>rfl
 |cons e es ih=>simp only[ny,List.flatMap_cons,List.length_append]at*;rw[ih];simp[aK.cells];omega
theorem Rs {es:List aK}{k:Nat}{e:aK}(h:es[k]?=some e):(ny es)[k*4]?=some (.int .i64 e.m)∧(ny es)[k*4+1]?=some (.int .i64 e.t)∧(ny es)[k*4+2]?=some (.int .i64 e.g)∧(ny es)[k*4+3]?=some (.bool e.f):=by
 induction es generalizing k with
 |nil=>simp at h
 |cons a es ih=>
  cases k with
  |zero=>
   simp at h;subst h
   refine⟨rfl,rfl,rfl,rfl⟩
  |succ k=>
   simp only[List.getElem?_cons_succ]at h;have:=ih h
   have e0:∀j,(ny (a::es))[(k+1)*4+j]?=(ny es)[k*4+j]?:=fun j=>by
    show(a.cells++ny es)[(k+1)*4+j]?=_
    rw[List.getElem?_append_right (by simp[aK.cells];omega)]
    congr 1
    simp[aK.cells];omega
   exact⟨(e0 0).trans this.1,(e0 1).trans this.2.1,(e0 2).trans this.2.2.1,(e0 3).trans this.2.2.2⟩
def MS (w:World)(B:Nat)(A:Option Addr)(n c:Nat)(es:List aK):Prop:=Reads w B 4 A n (ny es)∧n≤c∧c≤maxLen
section
variable {w w':World}{B n c:Nat}{A:Option Addr}{es:List aK}
theorem MS.len (h:MS w B A n c es):es.length=n:=by
 have:=h.1.1
 rw[Bx]at this;omega
theorem ER (a:Addr)(j i:Nat)(hi:0<i):a.add (j+i)={block:=(a.add j).block,off:=(a.add j).off+i}:=by
 rw[←xe];unfold Addr.add;simp[show i≠0 by omega]
def aap (w:World)(a:Addr)(e:aK):Prop:=w.cell? a=some (.int .i64 e.m)∧w.cell? {block:=a.block,off:=a.off+1}=some (.int .i64 e.t)∧w.cell? {block:=a.block,off:=a.off+2}=some (.int .i64 e.g)∧w.cell? {block:=a.block,off:=a.off+3}=some (.bool e.f)
theorem MS.at_ {k:Nat}(h:MS w B A n c es)(hk:k<n):∃ad e,A=some ad∧ad.block<B∧es[k]?=some e∧aap w (ad.add (k*4)) e:=by
 obtain⟨ad,e0,hb,hc⟩:=h.1.2 (by omega)
 have hl:=h.len;have he:es[k]?=some es[k]:=List.getElem?_eq_getElem (by omega)
 obtain⟨h1,h2,h3,h4⟩:=Rs he;refine⟨ad,es[k],e0,hb,he,hc _ _ h1,?_,?_,?_⟩
 ·rw[←ER _ _ _ (by omega)];exact hc _ _ h2
 ·rw[←ER _ _ _ (by omega)];exact hc _ _ h3
 ·rw[←ER _ _ _ (by omega)];exact hc _ _ h4
theorem MS.below (h:MS w B A n c es)(hb:Below B w w'):MS w' B A n c es:=⟨h.1.below hb,h.2⟩
end
def cG (m:Int):List aK→Nat→Int
 |[],_=> -1
 |e::es,k=>if e.m=m then k else cG m es (k+1)
def cV (es:List aK)(m:Int):Int:=cG m es 0
theorem qq {es:List aK}{m:Int}{k:Nat}{e:aK}(h:es[k]?=some e):cG m (es.drop k) k=if e.m=m then(k:Int)else cG m (es.drop (k+1)) (k+1):=by
 have hk:k<es.length:=(List.getElem?_eq_some_iff.1 h).1
 have he:es[k]=e:=(List.getElem?_eq_some_iff.1 h).2
 rw[List.drop_eq_getElem_cons hk,cG,he]
def cd (g:Int):Bool:=decide (0≤g∧g<5)
def br (m:Int):Bool:=decide (0≤m∧m<12)
def gC (t:Int):Bool:=decide (0≤t∧t≤999)
def aP (t g:Int):Bool:=decide (1≤t∧t≤999)&&cd g
def aS (t g t' g':Int):Bool:=decide (t<t'∨(t=t'∧g<g'))
end Go.Proofs.YtlhohdjniaebbaaGreat
namespace Go.Proofs.YtlhohdjniaebbaaGreat.T
open Go Go.RowKit
set_option maxRecDepth 100000
variable {E:List PanicEntry→World→Prop}
abbrev rI (n:Int):RT:= .v (.int .i64 n)
abbrev rB (b:Bool):RT:= .v (.bool b)
abbrev gR (t:RT):GV:= .s (.r t)
def aF (e:aK):List RT:=[rI e.m,rI e.t,rI e.g,rB e.f]
abbrev c7 (es:List aK):RT:= .sl 4 (es.map aF)
abbrev bu (xs:List Int):RT:= .sl 1 (xs.map fun n=>[rI n])
theorem wrap_add {k n:Nat}(h:k<n)(hn:n≤maxLen):IntKind.i64.wrap ((k:Int)+1)=(k:Int)+1:=by
 simp only[maxLen]at hn;simp[IntKind.wrap,IntKind.min,IntKind.max,IntKind.signed,IntKind.bits];omega
theorem dj {z:Int}(h1: -9223372036854775808≤z)(h2:z≤9223372036854775807):IntKind.i64.wrap z=z:=by
 simp[IntKind.wrap,IntKind.min,IntKind.max,IntKind.signed,IntKind.bits];omega
@[simp] theorem aaG:IntKind.i64.wrap 1=1:=by decide
theorem gT (t g t' g':Int):TC Tw.prog E 88 [.a [.r (rI t),.r (rI g)],.a [.r (rI t'),.r (rI g')]] 0 [] (gB (aS t g t' g')) []:=by
 refine tE Tryz.f88 Tryz.ntmps88 (by rw[Tryz.results88]) ?_
 (refine TW.go ?_;simp;repeat' first|intro hc|refine aa.mk ?_|refine aI ?_|refine af ?_ ?_)
 all_goals refine bo.nil (r:=gB (aS t g t' g')) ?_ rfl
 all_goals(first|(simp[aS];done)|(simp[aS, *];done)|(simp[aS];intros;omega)|(simp[aS, *];intros;omega)|(rw[Bool.eq_iff_iff];simp[aS, *];intros;omega)|(simp[aS, *];rw[Bool.eq_iff_iff];simp;intros;omega)|(intros;omega))
theorem uS (n a b:Int):TC Tw.prog E 94 [gI .i64 n,gI .i64 a,gI .i64 b] 0 [] (gB (decide (a≤n∧n≤b))) []:=by
 refine tE Tryz.f94 Tryz.ntmps94 (by rw[Tryz.results94]) ?_
 (refine TW.go ?_;simp;repeat' first|intro hc|refine aa.mk ?_|refine aI ?_|refine af ?_ ?_)
 all_goals refine bo.nil (r:=gB (decide (a≤n∧n≤b))) ?_ rfl
 all_goals(first|(simp;done)|(simp[*];done)|(simp;intros;omega)|(simp[*];intros;omega)|(rw[Bool.eq_iff_iff];simp[*];intros;omega)|(simp[*];rw[Bool.eq_iff_iff];simp;intros;omega)|(intros;omega))
theorem oX (n:Int):TC Tw.prog E 141 [gI .i64 n] 0 [] (gB (cd n)) []:=by
 refine tE Tryz.f141 Tryz.ntmps141 (by rw[Tryz.results141]) ?_
 (refine TW.go ?_;simp;repeat' first|intro hc|refine aa.mk ?_|refine aI ?_|refine af ?_ ?_|(refine cP ?_;refine⟨_,uS _ _ _,?_⟩;simp))
 all_goals refine bo.nil (r:=gB (cd n)) ?_ rfl
 all_goals(first|(simp[cd];done)|(simp[cd, *];done)|(simp[cd];intros;omega)|(simp[cd, *];intros;omega)|(rw[Bool.eq_iff_iff];simp[cd, *];intros;omega)|(simp[cd, *];rw[Bool.eq_iff_iff];simp;intros;omega)|(intros;omega))
theorem nz (n:Int):TC Tw.prog E 143 [gI .i64 n] 0 [] (gB (br n)) []:=by
 refine tE Tryz.f143 Tryz.ntmps143 (by rw[Tryz.results143]) ?_
 (refine TW.go ?_;simp;repeat' first|intro hc|refine aa.mk ?_|refine aI ?_|refine af ?_ ?_|(refine cP ?_;refine⟨_,uS _ _ _,?_⟩;simp))
 all_goals refine bo.nil (r:=gB (br n)) ?_ rfl
 all_goals(first|(simp[br];done)|(simp[br, *];done)|(simp[br];intros;omega)|(simp[br, *];intros;omega)|(rw[Bool.eq_iff_iff];simp[br, *];intros;omega)|(simp[br, *];rw[Bool.eq_iff_iff];simp;intros;omega)|(intros;omega))
theorem dv (t g:Int):TC Tw.prog E 95 [.a [.r (rI t),.r (rI g)]] 0 [] (gB (aP t g)) []:=by
 refine tE Tryz.f95 Tryz.ntmps95 (by rw[Tryz.results95]) ?_
 (refine TW.go ?_;simp;repeat' first|intro hc|refine aa.mk ?_|refine aI ?_|refine af ?_ ?_|(refine cP ?_;(first|refine⟨_,uS _ _ _,?_⟩|refine⟨_,oX _,?_⟩);simp))
 all_goals refine bo.nil (r:=gB (aP t g)) ?_ rfl
 all_goals(first|(simp[aP];done)|(simp[aP, *];done)|(simp[aP];intros;omega)|(simp[aP, *];intros;omega)|(rw[Bool.eq_iff_iff];simp[aP, *];intros;omega)|(simp[aP, *];rw[Bool.eq_iff_iff];simp;intros;omega)|(intros;omega))
theorem jY (es:List aK)(m:Int):TC Tw.prog E 89 [gR (c7 es),gI .i64 m] 0 [] (gI .i64 (cV es m)) []:=by
 refine tE Tryz.f89 Tryz.ntmps89 (by rw[Tryz.results89]) ?_
 refine TW.len 0 rfl fun hlen=>?_;simp only[List.length_map]at hlen;(refine TW.go ?_;simp;repeat' first|intro hc|refine aa.mk ?_|refine aI ?_|refine af ?_ ?_)
 refine tL (fun k=>⟨[(0,gR (c7 es)),(1,gI .i64 m),(5,gI .i64 (k:Nat))],[],0⟩) (fun k=>k≤es.length∧cV es m=cG m (es.drop k) k) (fun k=>es.length-k) 0 ⟨by omega,rfl⟩ (kS) fun k hk=>?_
 obtain⟨hk,hf⟩:=hk;by_cases aj:k<es.length
 ·have he:es[k]?=some es[k]:=List.getElem?_eq_getElem aj
  have hfd:=qq (m:=m) he;(refine TW.go ?_;simp[aj,he,aF,wrap_add aj hlen];repeat' first|intro hc|refine aa.mk ?_|refine aI ?_|refine af ?_ ?_)
  ·refine bo.nil (r:=gI .i64 (cV es m)) ?_ rfl
   simp[hf,hfd,hc]
  ·refine⟨k+1,⟨by omega,?_⟩,by omega,kS⟩
   rw[hf,hfd,if_neg hc]
 ·obtain rfl:k=es.length:=by omega
  (refine TW.go ?_;simp;repeat' first|intro hc|refine aa.mk ?_|refine aI ?_|refine af ?_ ?_)
  refine bo.nil (r:=gI .i64 (cV es m)) ?_ rfl;simp[hf,List.drop_of_length_le,cG]
end Go.Proofs.YtlhohdjniaebbaaGreat.T
namespace Go.Proofs.YtlhohdjniaebbaaGreat.T
open Go Go.RowKit
set_option maxRecDepth 100000
variable {E:List PanicEntry→World→Prop}
theorem dX {k:Nat}(hn:k≤maxLen):IntKind.i64.wrap (k:Int)=(k:Int):=by
 simp only[maxLen]at hn;exact dj (by omega) (by omega)
def bR (n:Nat)(c:Nat→Bool):Bool:=(List.range n).all c
theorem bw {n:Nat}{c:Nat→Bool}(h:∀i,i<n→c i=true):bR n c=true:=by simpa[bR]using h
theorem bH {n k:Nat}{c:Nat→Bool}(hk:k<n)(h:c k=false):bR n c=false:=by
 simp only[bR,List.all_eq_false,List.mem_range];exact⟨k,hk,by simp[h]⟩
def bX (xs:List Int)(n:Int):Bool:=xs.any fun x=>decide (x=n)
theorem nX (xs:List Int)(n:Int):TC Tw.prog E 92 [gR (bu xs),gI .i64 n] 0 [] (gB (bX xs n)) []:=by
 refine tE Tryz.f92 Tryz.ntmps92 (by rw[Tryz.results92]) ?_
 refine TW.len 0 rfl fun hlen=>?_;simp only[List.length_map]at hlen;(refine TW.go ?_;simp;repeat' first|intro hc|refine aa.mk ?_|refine aI ?_|refine af ?_ ?_)
 refine tL (fun k=>⟨[(0,gR (bu xs)),(1,gI .i64 n),(5,gI .i64 (k:Nat))],[],0⟩) (fun k=>k≤xs.length∧∀(i:Nat) (x:Int),i<k→xs[i]?=some x→x≠n) (fun k=>xs.length-k) 0 ⟨by omega,fun i x hi=>by omega⟩ (kS) fun k hk=>?_
 obtain⟨hk,hf⟩:=hk;by_cases aj:k<xs.length
 ·have he:xs[k]?=some xs[k]:=List.getElem?_eq_getElem aj
  (refine TW.go ?_;simp[aj,he,wrap_add aj hlen];repeat' first|intro hc|refine aa.mk ?_|refine aI ?_|refine af ?_ ?_)
  ·refine bo.nil (r:=gB (bX xs n)) ?_ rfl
   simp[bX];exact hc▸List.getElem_mem aj
  ·refine⟨k+1,⟨by omega,fun i y hi hy=>?_⟩,by omega,kS⟩
   by_cases e:i=k
   ·subst e;rw[he]at hy;cases hy;exact hc
   ·exact hf i y (by omega) hy
 ·obtain rfl:k=xs.length:=by omega
  (refine TW.go ?_;simp;repeat' first|intro hc|refine aa.mk ?_|refine aI ?_|refine af ?_ ?_)
  refine bo.nil (r:=gB (bX xs n)) ?_ rfl;simp[bX];intro x hx e;obtain⟨i,hi,rfl⟩:=List.getElem_of_mem hx;exact hf i _ hi (List.getElem?_eq_getElem hi) e
def pw (xs:List Int)(i:Nat):Bool:=cd (xs.getD i 0)&&(decide (i=0)||decide (xs.getD (i-1) 0<xs.getD i 0))
def cf (xs:List Int):Bool:=bR xs.length (pw xs)&&decide (0<xs.length)
theorem lZ (xs:List Int):TC Tw.prog E 86 [gR (bu xs)] 0 [] (gB (cf xs)) []:=by
 refine tE Tryz.f86 Tryz.ntmps86 (by rw[Tryz.results86]) ?_
 refine TW.len 0 rfl fun hlen=>?_;simp only[List.length_map]at hlen;(refine TW.go ?_;simp;repeat' first|intro hc|refine aa.mk ?_|refine aI ?_|refine af ?_ ?_)
 refine tL (fun k=>⟨[(0,gR (bu xs)),(3,gI .i64 (k:Nat))],[],0⟩) (fun k=>k≤xs.length∧∀i,i<k→pw xs i=true) (fun k=>xs.length-k) 0 ⟨by omega,fun i hi=>by omega⟩ (kS) fun k hk=>?_
 obtain⟨hk,hf⟩:=hk;by_cases aj:k<xs.length
 ·have he:xs[k]?=some xs[k]:=List.getElem?_eq_getElem aj
  have hq:cf xs=false∨pw xs k=true:=by
   cases h:pw xs k
   ·exact .inl (by simp[cf,bH aj h])
   ·exact .inr rfl
  rcases k with _|k
  ·have aY:pw xs 0=cd xs[0]:=by simp[pw,aj]
   (refine TW.go ?_;simp[aj,he];repeat' first|intro hc|refine aa.mk ?_|refine aI ?_|refine af ?_ ?_|(refine cP ?_;refine⟨_,oX _,?_⟩;simp[aj,he]))
   ·refine⟨1,⟨by omega,fun i hi=>?_⟩,by omega,kS⟩
    obtain rfl:i=0:=by omega
    simpa[aY]
   ·refine bo.nil (r:=gB (cf xs)) ?_ rfl
    have:cf xs=false:=by simp_all
    simp[this]
  ·have dg:xs[k]?=some xs[k]:=List.getElem?_eq_getElem (by omega)
   have hw:=dX (k:=k) (by omega)
   have aG:=wrap_add (k:=k+1) aj hlen;simp only[Int.natCast_add,Int.natCast_one]at aG;have dH:(0:Int)<(k:Int)+1:=by omega
   have aA:(k:Int)+1<(xs.length:Int):=by omega
   have aY:pw xs (k+1)=(cd xs[k+1]&&decide (xs[k]<xs[k+1])):=by simp[pw,aj,show k<xs.length by omega]
   (refine TW.go ?_;simp[aj,he,dg,hw,aG,dH,aA];repeat' first|intro hc|refine aa.mk ?_|refine aI ?_|refine af ?_ ?_|(refine cP ?_;refine⟨_,oX _,?_⟩;simp[aj,he,dg,hw,aG,dH,aA]))
   all_goals first
    |(refine⟨k+1+1,⟨by omega,fun i hi=>?_⟩,by omega,kS⟩
      by_cases e:i=k+1
      ·subst e;simp_all
      ·exact hf i (by omega))
    |(refine bo.nil (r:=gB (cf xs)) ?_ rfl
      rcases hq with hq|hq
      ·simp[hq]
      ·exfalso
       first|(simp_all;done)|(simp_all;omega))
 ·obtain rfl:k=xs.length:=by omega
  (refine TW.go ?_;simp;repeat' first|intro hc|refine aa.mk ?_|refine aI ?_|refine af ?_ ?_)
  refine bo.nil (r:=gB (cf xs)) ?_ rfl;simp[cf,bw hf]
end Go.Proofs.YtlhohdjniaebbaaGreat.T
namespace Go.Proofs.YtlhohdjniaebbaaGreat.T
open Go Go.RowKit
set_option maxRecDepth 100000
variable {E:List PanicEntry→World→Prop}
def au (g:aH):List RT:=[rI g.id,rI g.clock,c7 g.pend,c7 g.done]
abbrev aaq (es:List aK):ak:= .rows 75 4 (es.map aF)
def vV (g:aH)(n:Nat):Prop:=g.pend.length≤n∧g.done.length≤n
abbrev eZ (gs:List aH):RT:= .sl 4 (gs.map au)
def ju (gs:List aH)(n:Nat):Prop:=gs.length≤n∧∀g∈gs,vV g n
end Go.Proofs.YtlhohdjniaebbaaGreat.T
namespace Go.Proofs.YtlhohdjniaebbaaGreat.T
open Go Go.RowKit
set_option maxRecDepth 100000
set_option maxHeartbeats 4000000
variable {E:List PanicEntry→World→Prop}
theorem py (m:Int):∀(es:List aK) (k:Nat),(cG m es k= -1∧es.find? (fun e=>decide (e.m=m))=none)∨∃j e,cG m es k=((k+j:Nat):Int)∧es[j]?=some e∧es.find? (fun e=>decide (e.m=m))=some e∧e.m=m
 |[],k=> .inl ⟨rfl,rfl⟩
 |e::es,k=>by
  by_cases h:e.m=m
  ·exact .inr ⟨0,e,by simp[cG,h],rfl,by simp[h],h⟩
  ·rcases py m es (k+1)with⟨h1,h2⟩|⟨j,x,h1,h2,h3,h4⟩
   ·exact .inl ⟨by simp[cG,h,h1],by simp[h,h2]⟩
   ·exact .inr ⟨j+1,x,by simp only[cG,h,if_false,h1];omega,by simpa using h2,by simp[h,h3],h4⟩
theorem jv (es:List aK)(m:Int):(cV es m= -1∧es.find? (fun e=>decide (e.m=m))=none)∨∃(j:Nat) (e:aK),cV es m=(j:Int)∧es[j]?=some e∧es.find? (fun e=>decide (e.m=m))=some e∧e.m=m:=by
 rcases py m es 0 with h|⟨j,e,h1,h2⟩
 ·exact .inl h
 ·exact .inr ⟨j,e,by simpa[cV]using h1,h2⟩
def bj (g:aH)(m:Int):Option aK:=match g.pend.find? (fun e=>decide (e.m=m))with
 |some e=>some e
 |none=>g.done.find? (fun e=>decide (e.m=m))
abbrev jw (e:aK):GV:= .a ((aF e).map .r)
def mZ (g:aH)(m:Int):GV:=match bj g m with
 |some e=> .p [jw e,gB true]
 |none=> .p [jw aK.zero,gB false]
theorem Js (g:aH)(m:Int):TC Tw.prog E 46 [.a ((au g).map .r),gI .i64 m] 0 [] (mZ g m) []:=by
 refine tE Tryz.f46 Tryz.ntmps46 (by rw[Tryz.results46]) ?_
 rcases jv g.pend m with⟨hp,bk⟩|⟨j,e,hp,he,bk,_⟩
 ·rcases jv g.done m with⟨hd,xA⟩|⟨j,e,hd,he,xA,_⟩
  ·(refine TW.go ?_;simp[au,hp,hd];repeat' first|intro hc|refine aa.mk ?_|refine aI ?_|refine af ?_ ?_|(refine cP ?_;refine⟨_,jY _ _,?_⟩;simp[au,hp,hd]))
   rw[show mZ g m= .p [jw aK.zero,gB false] by simp[mZ,bj,bk,xA]]
   refine bo.nil (r:= .p [jw aK.zero,gB false]) ?_ rfl;simp[aF,aK.zero]
  ·(refine TW.go ?_;simp[au,aF,hp,hd,he];repeat' first|intro hc|refine aa.mk ?_|refine aI ?_|refine af ?_ ?_|(refine cP ?_;refine⟨_,jY _ _,?_⟩;simp[au,aF,hp,hd,he]))
   rw[show mZ g m= .p [jw e,gB true] by simp[mZ,bj,bk,xA]]
   refine bo.nil (r:= .p [jw e,gB true]) ?_ rfl;simp[aF]
 ·(refine TW.go ?_;simp[au,aF,hp,he];repeat' first|intro hc|refine aa.mk ?_|refine aI ?_|refine af ?_ ?_|(refine cP ?_;refine⟨_,jY _ _,?_⟩;simp[au,aF,hp,he]))
  rw[show mZ g m= .p [jw e,gB true] by simp[mZ,bj,bk]]
  refine bo.nil (r:= .p [jw e,gB true]) ?_ rfl;simp[aF]
def kR (id clock:Int)(es:List aK)(i:Nat):Bool:=match es[i]? with
 |some e=>br e.m&&aP e.t e.g&&decide (e.t≤clock)&&(decide (i=0)||(match es[i-1]? with|some d=>aS d.t d.g e.t e.g|none=>true))&&decide (cV (es.take i) e.m<0)&&(e.f||decide (e.g=id))
 |none=>true
def ie (id clock:Int)(es:List aK):Bool:=bR es.length (kR id clock es)
theorem zW (es:List aK)(k:Nat)(m:Int):TC Tw.prog E 89 [.s (.r (.sl 4 (List.take k (List.map aF es)))),gI .i64 m] 0 [] (gI .i64 (cV (es.take k) m)) []:=by
 have:=jY (E:=E) (es.take k) m
 rwa[c7,List.map_take]at this
theorem MT (g:aH)(es:List aK):TC Tw.prog E 142 [.a ((au g).map .r),gR (c7 es)] 0 [] (gB (ie g.id g.clock es)) []:=by
 refine tE Tryz.f142 Tryz.ntmps142 (by rw[Tryz.results142]) ?_
 refine TW.len 1 rfl fun hlen=>?_;simp only[List.length_map]at hlen;(refine TW.go ?_;simp;repeat' first|intro hc|refine aa.mk ?_|refine aI ?_|refine af ?_ ?_)
 refine tL (fun k=>⟨[(1,gR (c7 es)),(2,.s (.ptr 0 0)),(5,gI .i64 (k:Nat))],[(0,.box ((au g).map .r))],1⟩) (fun k=>k≤es.length∧∀i,i<k→kR g.id g.clock es i=true) (fun k=>es.length-k) 0 ⟨by omega,fun i hi=>by omega⟩ (kO [0] []) fun k hk=>?_
 obtain⟨hk,hf⟩:=hk;by_cases aj:k<es.length
 ·have he:es[k]?=some es[k]:=List.getElem?_eq_getElem aj
  have hq:ie g.id g.clock es=false∨kR g.id g.clock es k=true:=by
   cases h:kR g.id g.clock es k
   ·exact .inl (by simp[ie,bH aj h])
   ·exact .inr rfl
  rcases k with _|k
  ·have aY:kR g.id g.clock es 0=(br es[0].m&&aP es[0].t es[0].g&&decide (es[0].t≤g.clock)&&decide (cV [] es[0].m<0)&&(es[0].f||decide (es[0].g=g.id))):=by simp[kR,he];rfl
   (refine TW.go ?_;simp[aj,he,au,aF];repeat' first|intro hc|refine aa.mk ?_|refine aI ?_|refine af ?_ ?_|(refine cP ?_;(first|refine⟨_,nz _,?_⟩|refine⟨_,dv _ _,?_⟩|refine⟨_,gT _ _ _ _,?_⟩|refine⟨_,jY [] _,?_⟩);simp[aj,he,au,aF]))
   all_goals first
    |(refine⟨1,⟨by omega,fun i hi=>?_⟩,by omega,Wk.own [0] [] (by simp) (by simp) (by simp[au]) (by simp) (by simp)⟩
      obtain rfl:i=0:=by omega
      simp_all)
    |(refine bo.nil (r:=gB (ie g.id g.clock es)) ?_ rfl
      rcases hq with hq|hq
      ·simp[hq]
      ·exfalso
       first|(simp_all;done)|(simp_all;omega))
  ·have dg:es[k]?=some es[k]:=List.getElem?_eq_getElem (by omega)
   have hw:=dX (k:=k) (by omega)
   have aG:=wrap_add (k:=k+1) aj hlen;simp only[Int.natCast_add,Int.natCast_one]at aG;have dH:(0:Int)<(k:Int)+1:=by omega
   have aA:(k:Int)+1<(es.length:Int):=by omega
   have aY:kR g.id g.clock es (k+1)=(br es[k+1].m&&aP es[k+1].t es[k+1].g&&decide (es[k+1].t≤g.clock)&&aS es[k].t es[k].g es[k+1].t es[k+1].g&&decide (cV (es.take (k+1)) es[k+1].m<0)&&(es[k+1].f||decide (es[k+1].g=g.id))):=by simp[kR,he,dg]
   (refine TW.go ?_;simp[aj,hk,he,dg,hw,aG,dH,aA,au,aF];repeat' first|intro hc|refine aa.mk ?_|refine aI ?_|refine af ?_ ?_|(refine cP ?_;(first|refine⟨_,nz _,?_⟩|refine⟨_,dv _ _,?_⟩|refine⟨_,gT _ _ _ _,?_⟩|refine⟨_,zW _ _ _,?_⟩);simp[aj,hk,he,dg,hw,aG,dH,aA,au,aF]))
   all_goals first
    |(refine⟨k+1+1,⟨by omega,fun i hi=>?_⟩,by omega,Wk.own [0] [] (by simp) (by simp) (by simp[au]) (by simp) (by simp)⟩
      by_cases e:i=k+1
      ·subst e;simp_all
      ·exact hf i (by omega))
    |(refine bo.nil (r:=gB (ie g.id g.clock es)) ?_ rfl
      rcases hq with hq|hq
      ·simp[hq]
      ·exfalso
       first|(simp_all;done)|(simp_all;omega))
 ·obtain rfl:k=es.length:=by omega
  (refine TW.go ?_;simp;repeat' first|intro hc|refine aa.mk ?_|refine aI ?_|refine af ?_ ?_)
  refine bo.nil (r:=gB (ie g.id g.clock es)) ?_ rfl;simp[ie,bw hf]
end Go.Proofs.YtlhohdjniaebbaaGreat.T
namespace Go.Proofs.YtlhohdjniaebbaaGreat.T
open Go Go.RowKit
set_option maxRecDepth 100000
set_option maxHeartbeats 4000000
variable {E:List PanicEntry→World→Prop}
def jx (g:aH)(i:Nat):Bool:=match g.done[i]? with
 |some e=>e.f&&decide (cV g.pend e.m<0)
 |none=>true
def jy (g:aH):Bool:=match g.pend with
 |[]=>true
 |p::_=> !p.f&&(match g.done.getLast? with
  |some d=>aS d.t d.g p.t p.g
  |none=>true)
def bm (g:aH):Bool:=cd g.id&&decide (0≤g.clock∧g.clock≤999)&&ie g.id g.clock g.pend&&ie g.id g.clock g.done&&bR g.done.length (jx g)&&jy g
theorem uT (g:aH)(h:vV g 4294967296):TC Tw.prog E 87 [.a ((au g).map .r)] 0 [] (gB (bm g)) []:=by
 obtain⟨uA,MU⟩:=h;have hlen:g.done.length≤maxLen:=by simp only[maxLen];omega
 refine tE Tryz.f87 Tryz.ntmps87 (by rw[Tryz.results87]) ?_
 (refine TW.go ?_;simp[au];repeat' first|intro hc|refine aa.mk ?_|refine aI ?_|refine af ?_ ?_|(refine cP ?_;(first|refine⟨_,oX _,?_⟩|refine⟨_,uS _ _ _,?_⟩|refine⟨_,MT g _,?_⟩);simp[au]))
 any_goals(
  refine bo.nil (r:=gB (bm g)) ?_ rfl;first|(simp_all[bm];done)|(simp_all[bm];intros;omega))
 refine tL (fun k=>⟨[(1,.s (.ptr 0 0)),(3,gI .i64 (k:Nat))],[(0,.box ((au g).map .r))],1⟩) (fun k=>k≤g.done.length∧∀i,i<k→jx g i=true) (fun k=>g.done.length-k) 0 ⟨by omega,fun i hi=>by omega⟩ (Wk.own [0] [] (by simp) (by simp) (by simp[au]) (by simp) (by simp)) fun k hk=>?_
 obtain⟨hk,hf⟩:=hk;by_cases aj:k<g.done.length
 ·have he:g.done[k]?=some g.done[k]:=List.getElem?_eq_getElem aj
  have aY:jx g k=(g.done[k].f&&decide (cV g.pend g.done[k].m<0)):=by simp[jx,he]
  have hq:bm g=false∨jx g k=true:=by
   cases h:jx g k
   ·exact .inl (by simp[bm,bH aj h])
   ·exact .inr rfl
  (refine TW.go ?_;simp[aj,he,au,aF,wrap_add aj hlen];repeat' first|intro hc|refine aa.mk ?_|refine aI ?_|refine af ?_ ?_|(refine cP ?_;refine⟨_,jY _ _,?_⟩;simp[aj,he,au,aF,wrap_add aj hlen]))
  all_goals first
   |(refine⟨k+1,⟨by omega,fun i hi=>?_⟩,by omega,Wk.own [0] [] (by simp) (by simp) (by simp[au]) (by simp) (by simp)⟩
     by_cases e:i=k
     ·subst e;simp_all
     ·exact hf i (by omega))
   |(refine bo.nil (r:=gB (bm g)) ?_ rfl
     rcases hq with hq|hq
     ·simp[hq]
     ·exfalso
      first|(simp_all;done)|(simp_all;omega))
 ·obtain rfl:k=g.done.length:=by omega
  have cS:bR g.done.length (jx g)=true:=bw hf
  clear hf;rcases hp:g.pend with _|⟨p,ps⟩
  ·(refine TW.go ?_;simp[au,hp];repeat' first|intro hc|refine aa.mk ?_|refine aI ?_|refine af ?_ ?_)
   refine bo.nil (r:=gB (bm g)) ?_ rfl;simp_all[bm,jy]
  ·have zo:¬((ps.length:Int)+1=0):=by omega
   rcases hn:g.done.length with _|n
   ·have eQ:g.done=[]:=List.length_eq_zero_iff.1 hn
    (refine TW.go ?_;simp[au,aF,hp,hn,zo];repeat' first|intro hc|refine aa.mk ?_|refine aI ?_|refine af ?_ ?_|(refine cP ?_;refine⟨_,gT _ _ _ _,?_⟩;simp[au,aF,hp,hn,zo]))
    all_goals
     refine bo.nil (r:=gB (bm g)) ?_ rfl;simp_all[bm,jy]
   ·have By:g.done[n]?=some g.done[n]:=List.getElem?_eq_getElem (by omega)
    have yR:g.done.getLast?=some g.done[n]:=by rw[List.getLast?_eq_getElem?,show g.done.length-1=n by omega];exact By
    have hw:=dX (k:=n) (by omega)
    have MF:¬((n:Int)+1=0):=by omega
    (refine TW.go ?_;simp[au,aF,hp,hn,zo,MF,hw,By];repeat' first|intro hc|refine aa.mk ?_|refine aI ?_|refine af ?_ ?_|(refine cP ?_;refine⟨_,gT _ _ _ _,?_⟩;simp[au,aF,hp,hn,zo,MF,hw,By]))
    all_goals
     refine bo.nil (r:=gB (bm g)) ?_ rfl;simp_all[bm,jy]
end Go.Proofs.YtlhohdjniaebbaaGreat.T
namespace Go.Proofs.YtlhohdjniaebbaaGreat.T
open Go Go.RowKit
set_option maxRecDepth 100000
set_option maxHeartbeats 4000000
variable {E:List PanicEntry→World→Prop}
def aU (g:aH)(m:Int):aK:=(bj g m).getD aK.zero
def cl (g:aH)(m:Int):Bool:=(bj g m).isSome
theorem gU (g:aH)(m:Int):TC Tw.prog E 46 [.a ((au g).map .r),gI .i64 m] 0 [] (.p [jw (aU g m),gB (cl g m)]) []:=by
 have:=Js (E:=E) g m
 unfold mZ at this;unfold aU cl
 cases h:bj g m with
 |none=>rw[h]at this;exact this
 |some e=>rw[h]at this;exact this
def l8 (a b:aH)(m:Int):Bool:=
 !(cl a m&&(aU a m).f)|| !(cl b m&&(if(aU b m).f then !(decide ((aU b m).t=(aU a m).t)&&decide ((aU b m).g=(aU a m).g))else aS (aU a m).t (aU a m).g (aU b m).t (aU b m).g))
theorem zX {a b:aH}{m:Int}(h1:cl a m=true)(h2:(aU a m).f=true)(h3:cl b m=true)(h4:¬(aU b m).f=true):l8 a b m= !aS (aU a m).t (aU a m).g (aU b m).t (aU b m).g:=by
 have h4:(aU b m).f=false:=by simpa using h4
 unfold l8;rw[h1,h2,h3,h4];simp
def aB (gs:List aH)(i:Nat):aH:=gs.getD i ⟨0,0,[],[]⟩
def uU (gs:List aH)(m i:Nat):Bool:=bR gs.length fun k=>l8 (aB gs i) (aB gs k) m
def qt (gs:List aH)(m:Nat):Bool:=bR gs.length (uU gs m)
def oY (gs:List aH)(i:Nat):Bool:=bm (aB gs i)&&decide ((aB gs i).id=i)
def cY (gs:List aH):Bool:=decide (gs.length=5)&&bR gs.length (oY gs)&&bR 12 (qt gs)
theorem te (gs:List aH)(h:ju gs 4294967296):TC Tw.prog E 45 [gR (eZ gs)] 0 [] (gB (cY gs)) []:=by
 obtain⟨hl,hg⟩:=h;have hlen:gs.length≤maxLen:=by simp only[maxLen];omega
 refine tE Tryz.f45 Tryz.ntmps45 (by rw[Tryz.results45]) ?_
 by_cases h5:gs.length=5
 ·(refine TW.go ?_;simp[h5];repeat' first|intro hc|refine aa.mk ?_|refine aI ?_|refine af ?_ ?_)
  refine tL (fun k=>⟨[(0,gR (eZ gs)),(3,gI .i64 (k:Nat))],[],0⟩) (fun k=>k≤5∧∀i,i<k→oY gs i=true) (fun k=>5-k) 0 ⟨by omega,fun i hi=>by omega⟩ (kS) fun k hk=>?_
  obtain⟨hk,hf⟩:=hk;by_cases aj:k<gs.length
  ·have he:gs[k]?=some gs[k]:=List.getElem?_eq_getElem aj
   have Jt:(k:Int)<5:=by omega
   have aY:oY gs k=(bm gs[k]&&decide (gs[k].id=k)):=by simp[oY,aB,he]
   have hq:cY gs=false∨oY gs k=true:=by
    cases h:oY gs k
    ·exact .inl (by simp[cY,bH aj h])
    ·exact .inr rfl
   (refine TW.go ?_;simp[h5,Jt,aj,he,au,wrap_add aj hlen];repeat' first|intro hc|refine aa.mk ?_|refine aI ?_|refine af ?_ ?_|(refine cP ?_;refine⟨_,uT _ (hg _ (List.getElem_mem aj)),?_⟩;simp[h5,Jt,aj,he,au,wrap_add aj hlen]))
   all_goals first
    |(refine⟨k+1,⟨by omega,fun i hi=>?_⟩,by omega,kS⟩
      by_cases e:i=k
      ·subst e;simp_all
      ·exact hf i (by omega))
    |(refine bo.nil (r:=gB (cY gs)) ?_ rfl
      rcases hq with hq|hq
      ·simp[hq]
      ·exfalso
       first|(simp_all;done)|(simp_all;omega))
  ·obtain rfl:k=5:=by omega
   have cS:bR gs.length (oY gs)=true:=bw (by rw[h5];exact hf)
   clear hf hk aj;(refine TW.go ?_;simp[h5];repeat' first|intro hc|refine aa.mk ?_|refine aI ?_|refine af ?_ ?_)
   refine tL (fun m=>⟨[(0,gR (eZ gs)),(4,gI .i64 (m:Nat))],[],0⟩) (fun m=>m≤12∧∀i,i<m→qt gs i=true) (fun m=>12-m) 0 ⟨by omega,fun i hi=>by omega⟩ (kS) fun m hm=>?_
   obtain⟨hm,hf⟩:=hm;by_cases aj:m<12
   ·have hqm:cY gs=false∨qt gs m=true:=by
     cases h:qt gs m
     ·exact .inl (by simp[cY,bH aj h])
     ·exact .inr rfl
    have Y5:IntKind.i64.wrap ((m:Int)+1)=(m:Int)+1:=dj (by omega) (by omega)
    have XP:(m:Int)<12:=by omega
    (refine TW.go ?_;simp[XP];repeat' first|intro hc|refine aa.mk ?_|refine aI ?_|refine af ?_ ?_)
    refine tL (fun i=>⟨[(0,gR (eZ gs)),(4,gI .i64 (m:Nat)),(5,gI .i64 (i:Nat))],[],0⟩) (fun i=>i≤5∧∀j,j<i→uU gs m j=true) (fun i=>5-i) 0 ⟨by omega,fun i hi=>by omega⟩ (kS) fun i hi=>?_
    obtain⟨hi,Rt⟩:=hi;by_cases xf:i<gs.length
    ·have XQ:gs[i]?=some gs[i]:=List.getElem?_eq_getElem xf
     have Jt:(i:Int)<5:=by omega
     (refine TW.go ?_;simp[h5,Jt,xf,XQ,au,aF];repeat' first|intro hc|refine aa.mk ?_|refine aI ?_|refine af ?_ ?_|(refine cP ?_;refine⟨_,gU _ _,?_⟩;simp[h5,Jt,xf,XQ,au,aF]))
     have hqi:cY gs=false∨uU gs m i=true:=by
      rcases hqm with h|h
      ·exact .inl h
      ·exact .inr (by simp only[qt,bR,List.all_eq_true,List.mem_range]at h;exact h i xf)
     refine tL (fun k=>⟨[(0,gR (eZ gs)),(4,gI .i64 (m:Nat)),(5,gI .i64 (i:Nat)),(6,.s (.ptr 0 0)),(7,gB (cl gs[i] m)),(8,gI .i64 (k:Nat))],[(0,.box ((aF (aU gs[i] m)).map .r))],1⟩) (fun k=>k≤5∧∀j,j<k→l8 gs[i] (aB gs j) m=true) (fun k=>5-k) 0 ⟨by omega,fun j hj=>by omega⟩ (Wk.own [0] [] (by simp) (by simp) (by simp[aF]) (by simp) (by simp)) fun k hk=>?_
     obtain⟨hk,Ju⟩:=hk;by_cases rV:k<gs.length
     ·have hek:gs[k]?=some gs[k]:=List.getElem?_eq_getElem rV
      have hk5:(k:Int)<5:=by omega
      have pD:aB gs i=gs[i]:=by simp[aB,XQ]
      have KL:aB gs k=gs[k]:=by simp[aB,hek]
      have Ru:cY gs=false∨l8 gs[i] gs[k] m=true:=by
       rcases hqi with h|h
       ·exact .inl h
       ·refine .inr ?_
        simp only[uU,bR,List.all_eq_true,List.mem_range]at h;have:=h k rV
        rwa[pD,KL]at this
      (refine TW.go ?_;simp[h5,hk5,rV,hek,au,aF,wrap_add rV hlen,wrap_add xf hlen];repeat' first|intro hc|refine aa.mk ?_|refine aI ?_|refine af ?_ ?_|(refine cP ?_;(first|refine⟨_,gU _ _,?_⟩|refine⟨_,gT _ _ _ _,?_⟩);simp[h5,hk5,rV,hek,au,aF,wrap_add rV hlen,wrap_add xf hlen]))
      all_goals first
       |(refine⟨k+1,⟨by omega,fun j hj=>?_⟩,by omega,Wk.own [0] [] (by simp) (by simp) (by simp[aF]) (by simp) (by simp)⟩
         by_cases e:j=k
         ·subst e;rw[KL];first|(simp_all[l8];done)|(rw[zX (by assumption) (by assumption) (by assumption) (by assumption),hc];rfl)
         ·exact Ju j (by omega))
       |(refine⟨i+1,⟨by omega,fun j hj=>?_⟩,by omega,kS⟩
         by_cases e:j=i
         ·subst e
          simp only[uU,pD];exact bw fun l _=>by simp_all[l8]
         ·exact Rt j (by omega))
       |(refine bo.nil (r:=gB (cY gs)) ?_ rfl
         rcases Ru with Ru|Ru
         ·simp[Ru]
         ·exfalso
          first|(simp_all[l8];done)|(rw[zX (by assumption) (by assumption) (by assumption) (by assumption),hc]at Ru;cases Ru))
     ·obtain rfl:k=5:=by omega
      have pD:aB gs i=gs[i]:=by simp[aB,XQ]
      have gw:uU gs m i=true:=by simp only[uU,pD];exact bw (by rw[h5];exact Ju)
      clear Ju rV hk;(refine TW.go ?_;simp[h5,au,aF,wrap_add xf hlen];repeat' first|intro hc|refine aa.mk ?_|refine aI ?_|refine af ?_ ?_)
      refine⟨i+1,⟨by omega,fun j hj=>?_⟩,by omega,kS⟩
      by_cases e:j=i
      ·subst e;exact gw
      ·exact Rt j (by omega)
    ·obtain rfl:i=5:=by omega
     have Cs:qt gs m=true:=bw (by rw[h5];exact Rt)
     clear Rt xf hi;(refine TW.go ?_;simp[h5,Y5];repeat' first|intro hc|refine aa.mk ?_|refine aI ?_|refine af ?_ ?_)
     refine⟨m+1,⟨by omega,fun j hj=>?_⟩,by omega,kS⟩
     by_cases e:j=m
     ·subst e;exact Cs
     ·exact hf j (by omega)
   ·obtain rfl:m=12:=by omega
    (refine TW.go ?_;simp;repeat' first|intro hc|refine aa.mk ?_|refine aI ?_|refine af ?_ ?_)
    refine bo.nil (r:=gB (cY gs)) ?_ rfl;simp[cY,h5,bw hf];rw[←h5];exact cS
 ·have h5':¬((gs.length:Int)=5):=by omega
  (refine TW.go ?_;simp[h5,h5'];repeat' first|intro hc|refine aa.mk ?_|refine aI ?_|refine af ?_ ?_)
  refine bo.nil (r:=gB (cY gs)) ?_ rfl;simp[cY,h5]
end Go.Proofs.YtlhohdjniaebbaaGreat.T
namespace Go.Proofs.YtlhohdjniaebbaaGreat.T
open Go Go.RowKit
set_option maxRecDepth 100000
set_option maxHeartbeats 4000000
variable {E:List PanicEntry→World→Prop}
def gE (s:Int×Int):List RT:=[rI s.1,rI s.2]
abbrev m_ (xs:List (Int×Int)):RT:= .sl 2 (xs.map gE)
abbrev uV (s:Int×Int):GV:= .a [.r (rI s.1),.r (rI s.2)]
def pz (a:Int×Int):List (Int×Int)→Int×Int
 |[]=>a
 |x::xs=>pz (if aS a.1 a.2 x.1 x.2=true then x else a) xs
end Go.Proofs.YtlhohdjniaebbaaGreat.T
namespace Go.Proofs.YtlhohdjniaebbaaGreat.T
open Go Go.RowKit
set_option maxRecDepth 100000
set_option maxHeartbeats 4000000
variable {E:List PanicEntry→World→Prop}
def aV (g:aH)(m:Int):aH×(Int×Int)×Bool:=match g.pend.find? (fun e=>decide (e.m=m))with
 |some e=>if e.f=true then(g,(0,0),false)else(g,(e.t,e.g),true)
 |none=>match g.done.find? (fun e=>decide (e.m=m))with
  |some _=>(g,(0,0),false)
  |none=>if 999≤g.clock then(g,(0,0),false)else(⟨g.id,g.clock+1,g.pend++[⟨m,g.clock+1,g.id,false⟩],g.done⟩,(g.clock+1,g.id),true)
end Go.Proofs.YtlhohdjniaebbaaGreat.T
namespace Go.Proofs.YtlhohdjniaebbaaGreat.T
open Go Go.RowKit
set_option maxRecDepth 100000
set_option maxHeartbeats 4000000
variable {E:List PanicEntry→World→Prop}
theorem oZ (n:Int):TC Tw.prog E 120 [gI .i64 n] 0 [] (gB (cd n)) []:=by
 refine tE Tryz.f120 Tryz.ntmps120 (by rw[Tryz.results120]) ?_
 (refine TW.go ?_;simp;repeat' first|intro hc|refine aa.mk ?_|refine aI ?_|refine af ?_ ?_)
 all_goals refine bo.nil (r:=gB (cd n)) ?_ rfl
 all_goals(first|(simp[cd];done)|(simp[cd, *];done)|(simp[cd];intros;omega)|(simp[cd, *];intros;omega)|(rw[Bool.eq_iff_iff];simp[cd, *];intros;omega)|(simp[cd, *];rw[Bool.eq_iff_iff];simp;intros;omega)|(intros;omega))
theorem o5 (n:Int):TC Tw.prog E 151 [gI .i64 n] 0 [] (gB (br n)) []:=by
 refine tE Tryz.f151 Tryz.ntmps151 (by rw[Tryz.results151]) ?_
 (refine TW.go ?_;simp;repeat' first|intro hc|refine aa.mk ?_|refine aI ?_|refine af ?_ ?_)
 all_goals refine bo.nil (r:=gB (br n)) ?_ rfl
 all_goals(first|(simp[br];done)|(simp[br, *];done)|(simp[br];intros;omega)|(simp[br, *];intros;omega)|(rw[Bool.eq_iff_iff];simp[br, *];intros;omega)|(simp[br, *];rw[Bool.eq_iff_iff];simp;intros;omega)|(intros;omega))
theorem Ct (n:Int):TC Tw.prog E 121 [gI .i64 n] 0 [] (gB (gC n)) []:=by
 refine tE Tryz.f121 Tryz.ntmps121 (by rw[Tryz.results121]) ?_
 (refine TW.go ?_;simp;repeat' first|intro hc|refine aa.mk ?_|refine aI ?_|refine af ?_ ?_)
 all_goals refine bo.nil (r:=gB (gC n)) ?_ rfl
 all_goals(first|(simp[gC];done)|(simp[gC, *];done)|(simp[gC];intros;omega)|(simp[gC, *];intros;omega)|(rw[Bool.eq_iff_iff];simp[gC, *];intros;omega)|(simp[gC, *];rw[Bool.eq_iff_iff];simp;intros;omega)|(intros;omega))
theorem dI (t g:Int):TC Tw.prog E 152 [uV (t,g)] 0 [] (gB (aP t g)) []:=by
 refine tE Tryz.f152 Tryz.ntmps152 (by rw[Tryz.results152]) ?_
 (refine TW.go ?_;simp;repeat' first|intro hc|refine aa.mk ?_|refine aI ?_|refine af ?_ ?_|(refine cP ?_;refine⟨_,oZ _,?_⟩;simp))
 all_goals refine bo.nil (r:=gB (aP t g)) ?_ rfl
 all_goals(first|(simp[aP];done)|(simp[aP, *];done)|(simp[aP];intros;omega)|(simp[aP, *];intros;omega)|(rw[Bool.eq_iff_iff];simp[aP, *];intros;omega)|(simp[aP, *];rw[Bool.eq_iff_iff];simp;intros;omega)|(intros;omega))
theorem o8 (t g t' g':Int):TC Tw.prog E 123 [uV (t,g),uV (t',g')] 0 [] (gB (aS t g t' g')) []:=by
 refine tE Tryz.f123 Tryz.ntmps123 (by rw[Tryz.results123]) ?_
 (refine TW.go ?_;simp;repeat' first|intro hc|refine aa.mk ?_|refine aI ?_|refine af ?_ ?_)
 all_goals refine bo.nil (r:=gB (aS t g t' g')) ?_ rfl
 all_goals(first|(simp[aS];done)|(simp[aS, *];done)|(simp[aS];intros;omega)|(simp[aS, *];intros;omega)|(rw[Bool.eq_iff_iff];simp[aS, *];intros;omega)|(simp[aS, *];rw[Bool.eq_iff_iff];simp;intros;omega)|(intros;omega))
def nY (id clock:Int)(es:List aK)(i:Nat):Bool:=match es[i]? with
 |some e=>br e.m&&aP e.t e.g&&decide (e.t≤clock)&&(e.f||decide (e.g=id))&&(decide (i=0)||(match es[i-1]? with|some d=>aS d.t d.g e.t e.g|none=>true))
 |none=>true
def jK (id clock:Int)(es:List aK):Bool:=bR es.length (nY id clock es)
theorem rW (g:aH)(es:List aK):TC Tw.prog E 122 [.a ((au g).map .r),gR (c7 es)] 0 [] (gB (jK g.id g.clock es)) []:=by
 refine tE Tryz.f122 Tryz.ntmps122 (by rw[Tryz.results122]) ?_
 refine TW.len 1 rfl fun hlen=>?_;simp only[List.length_map]at hlen;(refine TW.go ?_;simp;repeat' first|intro hc|refine aa.mk ?_|refine aI ?_|refine af ?_ ?_)
 refine tL (fun(k:Nat)=>⟨[(1,gR (c7 es)),(2,.s (.ptr 0 0)),(7,gR (c7 es)),(8,gI .i64 es.length),(9,gI .i64 (k:Nat))],[(0,.box ((au g).map .r))],1⟩) (fun k=>k≤es.length∧∀i,i<k→nY g.id g.clock es i=true) (fun k=>es.length-k) 0 ⟨by omega,fun i hi=>by omega⟩ (kO [0] []) fun k hk=>?_
 obtain⟨hk,hf⟩:=hk;by_cases aj:k<es.length
 ·have he:es[k]?=some es[k]:=List.getElem?_eq_getElem aj
  have hq:jK g.id g.clock es=false∨nY g.id g.clock es k=true:=by
   cases h:nY g.id g.clock es k
   ·exact .inl (by simp[jK,bH aj h])
   ·exact .inr rfl
  rcases k with _|k
  ·have aY:nY g.id g.clock es 0=(br es[0].m&&aP es[0].t es[0].g&&decide (es[0].t≤g.clock)&&(es[0].f||decide (es[0].g=g.id))):=by simp[nY,he]
   (refine TW.go ?_;simp[aj,he,au,aF];repeat' first|intro hc|refine aa.mk ?_|refine aI ?_|refine af ?_ ?_|(refine cP ?_;(first|refine⟨_,o5 _,?_⟩|refine⟨_,dI _ _,?_⟩|refine⟨_,o8 _ _ _ _,?_⟩);simp[aj,he,au,aF]))
   all_goals first
    |(refine⟨1,⟨by omega,fun i hi=>?_⟩,by omega,Wk.own [0] [] (by simp) (by simp) (by simp[au]) (by simp) (by simp)⟩
      obtain rfl:i=0:=by omega
      simp_all)
    |(refine bo.nil (r:=gB (jK g.id g.clock es)) ?_ rfl
      rcases hq with hq|hq
      ·simp[hq]
      ·exfalso
       first|(simp_all;done)|(clear hf;simp_all;done)|(clear hf;rw[aY]at hq;simp only[Bool.and_eq_true]at hq;rw[hq.2]at hc;cases hc)|(simp_all;omega))
  ·have dg:es[k]?=some es[k]:=List.getElem?_eq_getElem (by omega)
   have hw:=dX (k:=k) (by omega)
   have aG:=wrap_add (k:=k+1) aj hlen;simp only[Int.natCast_add,Int.natCast_one]at aG;have dH:(0:Int)<(k:Int)+1:=by omega
   have aA:(k:Int)+1<(es.length:Int):=by omega
   have aY:nY g.id g.clock es (k+1)=(br es[k+1].m&&aP es[k+1].t es[k+1].g&&decide (es[k+1].t≤g.clock)&&(es[k+1].f||decide (es[k+1].g=g.id))&&aS es[k].t es[k].g es[k+1].t es[k+1].g):=by simp[nY,he,dg]
   (refine TW.go ?_;simp[aj,hk,he,dg,hw,aG,dH,aA,au,aF];repeat' first|intro hc|refine aa.mk ?_|refine aI ?_|refine af ?_ ?_|(refine cP ?_;(first|refine⟨_,o5 _,?_⟩|refine⟨_,dI _ _,?_⟩|refine⟨_,o8 _ _ _ _,?_⟩);simp[aj,hk,he,dg,hw,aG,dH,aA,au,aF]))
   all_goals first
    |(refine⟨k+1+1,⟨by omega,fun i hi=>?_⟩,by omega,Wk.own [0] [] (by simp) (by simp) (by simp[au]) (by simp) (by simp)⟩
      by_cases e:i=k+1
      ·subst e;simp_all
      ·exact hf i (by omega))
    |(refine bo.nil (r:=gB (jK g.id g.clock es)) ?_ rfl
      rcases hq with hq|hq
      ·simp[hq]
      ·exfalso
       first|(simp_all;done)|(clear hf;simp_all;done)|(clear hf;rw[aY]at hq;simp only[Bool.and_eq_true]at hq;rw[hq.2]at hc;cases hc)|(simp_all;omega))
 ·obtain rfl:k=es.length:=by omega
  (refine TW.go ?_;simp;repeat' first|intro hc|refine aa.mk ?_|refine aI ?_|refine af ?_ ?_)
  refine bo.nil (r:=gB (jK g.id g.clock es)) ?_ rfl;simp[jK,bw hf]
theorem rX (es:List aK)(h:es.length≤4294967296):TC Tw.prog E 105 [gR (c7 es)] 0 [] (.s (.own 0)) [(0,aaq es)]:=by
 refine tE Tryz.f105 Tryz.ntmps105 (by rw[Tryz.results105]) ?_
 (refine TW.go ?_;simp[maxLen];repeat' first|intro hc|refine aa.mk ?_|refine aI ?_|refine af ?_ ?_)
 exact oW [1] []
theorem o9 (es:List aK)(m:Int):TC Tw.prog E 190 [gR (c7 es),gI .i64 m] 0 [] (gI .i64 (cV es m)) []:=by
 refine tE Tryz.f190 Tryz.ntmps190 (by rw[Tryz.results190]) ?_
 refine TW.len 0 rfl fun hlen=>?_;simp only[List.length_map]at hlen;(refine TW.go ?_;simp;repeat' first|intro hc|refine aa.mk ?_|refine aI ?_|refine af ?_ ?_)
 refine tL (fun(k:Nat)=>⟨[(1,gI .i64 m),(7,gR (c7 es)),(8,gI .i64 es.length),(9,gI .i64 (k:Nat))],[],0⟩) (fun k=>k≤es.length∧cG m (es.drop k) k=cV es m) (fun k=>es.length-k) 0 ⟨by omega,rfl⟩ (kS) fun k hk=>?_
 obtain⟨hk,hf⟩:=hk;by_cases aj:k<es.length
 ·have he:es[k]?=some es[k]:=List.getElem?_eq_getElem aj
  have hd:=qq (m:=m) he;rw[hf]at hd;by_cases hm:es[k].m=m
  ·rw[if_pos hm]at hd
   (refine TW.go ?_;simp[aj,he,aF,hm,wrap_add aj hlen];repeat' first|intro hc|refine aa.mk ?_|refine aI ?_|refine af ?_ ?_)
   refine bo.nil (r:=gI .i64 (cV es m)) ?_ rfl;simp[hd]
  ·rw[if_neg hm]at hd
   (refine TW.go ?_;simp[aj,he,aF,hm,wrap_add aj hlen];repeat' first|intro hc|refine aa.mk ?_|refine aI ?_|refine af ?_ ?_)
   exact⟨k+1,⟨by omega,hd.symm⟩,by omega,kS⟩
 ·obtain rfl:k=es.length:=by omega
  rw[List.drop_length]at hf;(refine TW.go ?_;simp;repeat' first|intro hc|refine aa.mk ?_|refine aI ?_|refine af ?_ ?_)
  refine bo.nil (r:=gI .i64 (cV es m)) ?_ rfl;simp[←hf,cG]
end Go.Proofs.YtlhohdjniaebbaaGreat.T
namespace Go.Proofs.YtlhohdjniaebbaaGreat.T
open Go Go.RowKit
set_option maxRecDepth 100000
set_option maxHeartbeats 4000000
variable {E:List PanicEntry→World→Prop}
def dF (a b:aK):Bool:=aS a.t a.g b.t b.g
end Go.Proofs.YtlhohdjniaebbaaGreat.T
namespace Go.Proofs.YtlhohdjniaebbaaGreat.T
open Go Go.RowKit
set_option maxRecDepth 100000
set_option maxHeartbeats 4000000
variable {E:List PanicEntry→World→Prop}
end Go.Proofs.YtlhohdjniaebbaaGreat.T
namespace Go.Proofs.YtlhohdjniaebbaaGreat.T
open Go Go.RowKit
end Go.Proofs.YtlhohdjniaebbaaGreat.T
