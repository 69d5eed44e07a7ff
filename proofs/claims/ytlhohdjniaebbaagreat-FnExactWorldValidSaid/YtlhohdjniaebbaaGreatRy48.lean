/-
What is proved: what the exact laws' measure of a run that came in reckons ('szWorld_T'), and what it bounds. Conditions: the measure is not above 2^20.
-/
import Derived.Test.YtlhohdjniaebbaaGreatRy47
set_option linter.unusedVariables false
set_option linter.unusedSimpArgs false
namespace Go.Proofs.YtlhohdjniaebbaaGreat.T
open Go Go.RowKit
set_option maxRecDepth 100000
set_option maxHeartbeats 4000000
variable {E:List PanicEntry→World→Prop}
def ew (l:Int)(n:Nat):Int:=if l-n<0 then-1 else l-n
def qG (l:Int):List Nat→Int
 |[]=>l
 |n::ns=>if ew l n<0 then-1 else qG (ew l n) ns
def gf {α:Type}(f:α→Int→Int):List α→Int→Int
 |[],l=>l
 |x::xs,l=>if f x l<0 then-1 else gf f xs (f x l)
def gH {α:Type}(f:α→Int→Int)(xs:List α)(l:Int):Int:=if ew l xs.length<0 then-1 else gf f xs (ew l xs.length)
theorem Oy {l:Int}{n:Nat}(h:0≤ew l n):ew l n=l-n∧(n:Int)≤l:=by
 unfold ew at*;split at h
 ·omega
 ·rw[if_neg (by assumption)];omega
theorem q_ {l:Int}{n:Nat}(h0:0≤l):ew l n≤l:=by
 unfold ew;split<;>omega
def Nk {α:Type}(f:α→Int→Int):Prop:=∀x l,0≤l→f x l≤l
theorem vh {α:Type}{f:α→Int→Int}(hf:Nk f):∀{xs:List α} {l:Int},0≤l→gf f xs l≤l
 |[],l,_=>Int.le_refl _
 |x::xs,l,h=>by
  unfold gf;split
  ·omega
  ·rename_i hn
   exact Int.le_trans (vh hf (by omega)) (hf x l h)
theorem rf {α:Type}{f:α→Int→Int}:∀{xs:List α} {x:α} {l:Int},0≤l→0≤gf f xs l→gf f (xs++[x]) l=if f x (gf f xs l)<0 then-1 else f x (gf f xs l)
 |[],x,l,_,_=>rfl
 |y::xs,x,l,h0,h=>by
  rw[List.cons_append];unfold gf at h⊢;split at h
  ·omega
  ·rename_i hn
   rw[if_neg hn,rf (by omega) h]
   simp only[if_neg hn]
theorem vi {α:Type}{f:α→Int→Int}:∀{xs:List α} {ys:List α} {l:Int},0≤l→gf f xs l<0→gf f (xs++ys) l= -1
 |[],ys,l,h0,h=>by simp only[gf]at h;omega
 |x::xs,ys,l,h0,h=>by
  rw[List.cons_append];unfold gf at h⊢;split at h
  ·rename_i hn;rw[if_pos hn]
  ·rename_i hn;rw[if_neg hn];exact vi (by omega) h
theorem Oz {α:Type}{f:α→Int→Int}(hf:Nk f):∀{xs:List α} {l:Int},0≤l→0≤gf f xs l→∀x∈xs,∃l',l'≤l∧0≤l'∧0≤f x l'
 |[],_,_,_,x,hx=>by cases hx
 |y::xs,l,h0,h,x,hx=>by
  unfold gf at h;split at h
  ·omega
  ·rename_i hn
   rcases List.mem_cons.1 hx with rfl|hx
   ·exact⟨l,Int.le_refl _,h0,by omega⟩
   ·obtain⟨l',a,b,c⟩:=Oz hf (by omega) h x hx
    exact⟨l',Int.le_trans a (hf y l h0),b,c⟩
theorem OA {α:Type}{f:α→Int→Int}(hf:Nk f){xs:List α}{l:Int}(h:0≤gH f xs l):(xs.length:Int)≤l∧∀x∈xs,∃l',l'≤l∧0≤l'∧0≤f x l':=by
 unfold gH at h;split at h
 ·omega
 ·rename_i hn
  obtain⟨e,hl⟩:=Oy (l:=l) (n:=xs.length) (by omega)
  refine⟨hl,fun x hx=>?_⟩
  obtain⟨l',a,b,c⟩:=Oz hf (by omega) h x hx
  exact⟨l',by omega,b,c⟩
theorem vj {α:Type}{f:α→Int→Int}(hf:Nk f){xs:List α}{l:Int}(h0:0≤l):gH f xs l≤l:=by
 unfold gH;split
 ·omega
 ·exact Int.le_trans (vh hf (by omega)) (q_ h0)
theorem Fa:∀{ns:List Nat} {l:Int},0≤l→qG l ns≤l
 |[],_,_=>Int.le_refl _
 |n::ns,l,h=>by
  unfold qG;split
  ·omega
  ·exact Int.le_trans (Fa (by omega)) (q_ h)
theorem vk:∀{ns:List Nat} {l:Int},0≤l→0≤qG l ns→∀n∈ns,(n:Int)≤l
 |[],_,_,_,n,hn=>by cases hn
 |m::ns,l,h0,h,n,hn=>by
  unfold qG at h;split at h
  ·omega
  ·rename_i hq
   obtain⟨e,hl⟩:=Oy (l:=l) (n:=m) (by omega)
   rcases List.mem_cons.1 hn with rfl|hn
   ·exact hl
   ·have:=vk (by omega) h n hn;omega
def lu (g:aH)(l:Int):Int:=qG l [g.pend.length,g.done.length]
def mE (r:cH)(l:Int):Int:=qG l [r.gs.length,r.aN.length]
def ly (s:List Int)(l:Int):Int:=ew l s.length
theorem vm:Nk lu:=fun _ _ h=>Fa h
theorem AB:Nk mE:=fun _ _ h=>Fa h
theorem AD:Nk ly:=fun _ _ h=>q_ h
theorem X6 {g:aH}{l:Int}(h0:0≤l)(h:0≤lu g l):(g.pend.length:Int)≤l∧(g.done.length:Int)≤l:=⟨vk h0 h _ (by simp),vk h0 h _ (by simp)⟩
theorem X7 {r:cH}{l:Int}(h0:0≤l)(h:0≤mE r l):(r.gs.length:Int)≤l∧(r.aN.length:Int)≤l:=⟨vk h0 h _ (by simp),vk h0 h _ (by simp)⟩
def Nl (w:az)(l:Int):Int:=
 if gH ly w.an l<0 then-1 else if gH lu w.ai (gH ly w.an l)<0 then-1 else
  if gH mE w.rounds (gH lu w.ai (gH ly w.an l))<0 then-1 else
   qG (gH mE w.rounds (gH lu w.ai (gH ly w.an l))) [w.bh.length,w.bC.length]
structure WLe (w:az) (n:Nat):Prop where
 sl:w.an.length≤n
 st:∀s∈w.an,s.length≤n
 gs:ju w.ai n
 rl:w.rounds.length≤n
 rn:∀r∈w.rounds,pd r n
 bl:w.bh.length≤n
 nl:w.bC.length≤n
theorem X8 {w:az}{l:Int}(h0:0≤l)(h:0≤Nl w l):WLe w l.toNat:=by
 unfold Nl at h;split at h
 ·omega
 ·rename_i h1
  have u1:=vj AD (xs:=w.an) h0;obtain⟨s1,s2⟩:=OA AD (xs:=w.an) (l:=l) (by omega)
  split at h
  ·omega
  ·rename_i h2
   have u2:=vj vm (xs:=w.ai) (l:=gH ly w.an l) (by omega)
   obtain⟨g1,g2⟩:=OA vm (xs:=w.ai) (l:=gH ly w.an l) (by omega)
   split at h
   ·omega
   ·rename_i h3
    have u3:=vj AB (xs:=w.rounds) (l:=gH lu w.ai (gH ly w.an l)) (by omega)
    obtain⟨r1,r2⟩:=OA AB (xs:=w.rounds) (l:=gH lu w.ai (gH ly w.an l)) (by omega)
    have n1:=vk (by omega) h w.bh.length (by simp)
    have n2:=vk (by omega) h w.bC.length (by simp)
    refine⟨by omega,fun s hs=>?_,⟨by omega,fun g hg=>?_⟩,by omega,fun r hr=>?_,by omega,by omega⟩
    ·obtain⟨l',a,b,c⟩:=s2 s hs
     have:=(Oy (l:=l') (n:=s.length) c).2
     omega
    ·obtain⟨l',a,b,c⟩:=g2 g hg
     obtain⟨x,y⟩:=X6 b c;exact⟨by omega,by omega⟩
    ·obtain⟨l',a,b,c⟩:=r2 r hr
     obtain⟨x,y⟩:=X7 b c;exact⟨by omega,by omega⟩
theorem CM (xs:List Int)(l:Int)(h0:0≤l)(h1:l≤1048576):TC Tw.prog E 83 [gR (bu xs),gI .i64 l] 0 [] (gI .i64 (ew l xs.length)) []:=by
 refine tE Tryz.f83 Tryz.ntmps83 (by rw[Tryz.results83]) ?_
 refine TW.len 0 rfl fun hlen=>?_;simp only[List.length_map]at hlen;have hw:IntKind.i64.wrap (l-(xs.length:Int))=l-(xs.length:Int):=dj (by simp only[maxLen]at hlen;omega) (by omega)
 unfold ew;by_cases hc:l-(xs.length:Int)<0
 ·rw[if_pos hc]
  have cb:l<(xs.length:Int):=by omega
  (refine TW.go ?_;simp[hw,hc,cb];repeat' first|intro hc|refine aa.mk ?_|refine aI ?_|refine af ?_ ?_)
  exact oW [] []
 ·rw[if_neg hc]
  have cb:¬l<(xs.length:Int):=by omega
  have eJ:(xs.length:Int)≤l:=by omega
  (refine TW.go ?_;simp[hw,hc,cb,eJ];repeat' first|intro hc|refine aa.mk ?_|refine aI ?_|refine af ?_ ?_)
  exact oW [] []
theorem xu (xs:List aK)(l:Int)(h0:0≤l)(h1:l≤1048576):TC Tw.prog E 139 [gR (c7 xs),gI .i64 l] 0 [] (gI .i64 (ew l xs.length)) []:=by
 refine tE Tryz.f139 Tryz.ntmps139 (by rw[Tryz.results139]) ?_
 refine TW.len 0 rfl fun hlen=>?_;simp only[List.length_map]at hlen;have hw:IntKind.i64.wrap (l-(xs.length:Int))=l-(xs.length:Int):=dj (by simp only[maxLen]at hlen;omega) (by omega)
 unfold ew;by_cases hc:l-(xs.length:Int)<0
 ·rw[if_pos hc]
  have cb:l<(xs.length:Int):=by omega
  (refine TW.go ?_;simp[hw,hc,cb];repeat' first|intro hc|refine aa.mk ?_|refine aI ?_|refine af ?_ ?_)
  exact oW [] []
 ·rw[if_neg hc]
  have cb:¬l<(xs.length:Int):=by omega
  have eJ:(xs.length:Int)≤l:=by omega
  (refine TW.go ?_;simp[hw,hc,cb,eJ];repeat' first|intro hc|refine aa.mk ?_|refine aI ?_|refine af ?_ ?_)
  exact oW [] []
theorem J8 (xs:List (Int×Int))(l:Int)(h0:0≤l)(h1:l≤1048576):TC Tw.prog E 140 [gR (m_ xs),gI .i64 l] 0 [] (gI .i64 (ew l xs.length)) []:=by
 refine tE Tryz.f140 Tryz.ntmps140 (by rw[Tryz.results140]) ?_
 refine TW.len 0 rfl fun hlen=>?_;simp only[List.length_map]at hlen;have hw:IntKind.i64.wrap (l-(xs.length:Int))=l-(xs.length:Int):=dj (by simp only[maxLen]at hlen;omega) (by omega)
 unfold ew;by_cases hc:l-(xs.length:Int)<0
 ·rw[if_pos hc]
  have cb:l<(xs.length:Int):=by omega
  (refine TW.go ?_;simp[hw,hc,cb];repeat' first|intro hc|refine aa.mk ?_|refine aI ?_|refine af ?_ ?_)
  exact oW [] []
 ·rw[if_neg hc]
  have cb:¬l<(xs.length:Int):=by omega
  have eJ:(xs.length:Int)≤l:=by omega
  (refine TW.go ?_;simp[hw,hc,cb,eJ];repeat' first|intro hc|refine aa.mk ?_|refine aI ?_|refine af ?_ ?_)
  exact oW [] []
theorem Nm (xs:List Bool)(l:Int)(h0:0≤l)(h1:l≤1048576):TC Tw.prog E 42 [gR (nA xs),gI .i64 l] 0 [] (gI .i64 (ew l xs.length)) []:=by
 refine tE Tryz.f42 Tryz.ntmps42 (by rw[Tryz.results42]) ?_
 refine TW.len 0 rfl fun hlen=>?_;simp only[List.length_map]at hlen;have hw:IntKind.i64.wrap (l-(xs.length:Int))=l-(xs.length:Int):=dj (by simp only[maxLen]at hlen;omega) (by omega)
 unfold ew;by_cases hc:l-(xs.length:Int)<0
 ·rw[if_pos hc]
  have cb:l<(xs.length:Int):=by omega
  (refine TW.go ?_;simp[hw,hc,cb];repeat' first|intro hc|refine aa.mk ?_|refine aI ?_|refine af ?_ ?_)
  exact oW [] []
 ·rw[if_neg hc]
  have cb:¬l<(xs.length:Int):=by omega
  have eJ:(xs.length:Int)≤l:=by omega
  (refine TW.go ?_;simp[hw,hc,cb,eJ];repeat' first|intro hc|refine aa.mk ?_|refine aI ?_|refine af ?_ ?_)
  exact oW [] []
theorem Fb (xs:List eI)(l:Int)(h0:0≤l)(h1:l≤1048576):TC Tw.prog E 43 [gR (qu xs),gI .i64 l] 0 [] (gI .i64 (ew l xs.length)) []:=by
 refine tE Tryz.f43 Tryz.ntmps43 (by rw[Tryz.results43]) ?_
 refine TW.len 0 rfl fun hlen=>?_;simp only[List.length_map]at hlen;have hw:IntKind.i64.wrap (l-(xs.length:Int))=l-(xs.length:Int):=dj (by simp only[maxLen]at hlen;omega) (by omega)
 unfold ew;by_cases hc:l-(xs.length:Int)<0
 ·rw[if_pos hc]
  have cb:l<(xs.length:Int):=by omega
  (refine TW.go ?_;simp[hw,hc,cb];repeat' first|intro hc|refine aa.mk ?_|refine aI ?_|refine af ?_ ?_)
  exact oW [] []
 ·rw[if_neg hc]
  have cb:¬l<(xs.length:Int):=by omega
  have eJ:(xs.length:Int)≤l:=by omega
  (refine TW.go ?_;simp[hw,hc,cb,eJ];repeat' first|intro hc|refine aa.mk ?_|refine aI ?_|refine af ?_ ?_)
  exact oW [] []
theorem Nn (g:aH)(l:Int)(h0:0≤l)(h1:l≤1048576):TC Tw.prog E 84 [.a ((au g).map .r),gI .i64 l] 0 [] (gI .i64 (lu g l)) []:=by
 have c1:=xu (E:=E) g.pend l h0 h1;unfold lu qG qG qG;have u1:=q_ (l:=l) (n:=g.pend.length) h0;by_cases n1:ew l g.pend.length<0
 ·rw[if_pos n1]
  generalize ew l g.pend.length=p at*;refine tE Tryz.f84 Tryz.ntmps84 (by rw[Tryz.results84]) ?_
  (refine TW.go ?_;simp[au,n1];repeat' first|intro hc|refine aa.mk ?_|refine aI ?_|refine af ?_ ?_|(refine cP ?_;refine⟨_,c1,?_⟩;simp[au,n1]))
  exact oW [] []
 rw[if_neg n1];have c2:=xu (E:=E) g.done (ew l g.pend.length) (by omega) (by omega)
 generalize ew l g.pend.length=p at*;by_cases n2:ew p g.done.length<0
 ·rw[if_pos n2]
  generalize ew p g.done.length=q at*;refine tE Tryz.f84 Tryz.ntmps84 (by rw[Tryz.results84]) ?_
  (refine TW.go ?_;simp[au,n1,n2];repeat' first|intro hc|refine aa.mk ?_|refine aI ?_|refine af ?_ ?_|(refine cP ?_;(first|refine⟨_,c1,?_⟩|refine⟨_,c2,?_⟩);simp[au,n1,n2]))
  exact oW [] []
 ·rw[if_neg n2]
  generalize ew p g.done.length=q at*;refine tE Tryz.f84 Tryz.ntmps84 (by rw[Tryz.results84]) ?_
  (refine TW.go ?_;simp[au,n1,n2];repeat' first|intro hc|refine aa.mk ?_|refine aI ?_|refine af ?_ ?_|(refine cP ?_;(first|refine⟨_,c1,?_⟩|refine⟨_,c2,?_⟩);simp[au,n1,n2]))
  exact oW [] []
theorem No (r:cH)(l:Int)(h0:0≤l)(h1:l≤1048576):TC Tw.prog E 85 [.a ((aX r).map .r),gI .i64 l] 0 [] (gI .i64 (mE r l)) []:=by
 have c1:=CM (E:=E) r.gs l h0 h1;unfold mE qG qG qG;have u1:=q_ (l:=l) (n:=r.gs.length) h0;by_cases n1:ew l r.gs.length<0
 ·rw[if_pos n1]
  generalize ew l r.gs.length=p at*;refine tE Tryz.f85 Tryz.ntmps85 (by rw[Tryz.results85]) ?_
  (refine TW.go ?_;simp[aX,n1];repeat' first|intro hc|refine aa.mk ?_|refine aI ?_|refine af ?_ ?_|(refine cP ?_;refine⟨_,c1,?_⟩;simp[aX,n1]))
  exact oW [] []
 rw[if_neg n1];have c2:=J8 (E:=E) r.aN (ew l r.gs.length) (by omega) (by omega)
 generalize ew l r.gs.length=p at*;by_cases n2:ew p r.aN.length<0
 ·rw[if_pos n2]
  generalize ew p r.aN.length=q at*;refine tE Tryz.f85 Tryz.ntmps85 (by rw[Tryz.results85]) ?_
  (refine TW.go ?_;simp[aX,n1,n2];repeat' first|intro hc|refine aa.mk ?_|refine aI ?_|refine af ?_ ?_|(refine cP ?_;(first|refine⟨_,c1,?_⟩|refine⟨_,c2,?_⟩);simp[aX,n1,n2]))
  exact oW [] []
 ·rw[if_neg n2]
  generalize ew p r.aN.length=q at*;refine tE Tryz.f85 Tryz.ntmps85 (by rw[Tryz.results85]) ?_
  (refine TW.go ?_;simp[aX,n1,n2];repeat' first|intro hc|refine aa.mk ?_|refine aI ?_|refine af ?_ ?_|(refine cP ?_;(first|refine⟨_,c1,?_⟩|refine⟨_,c2,?_⟩);simp[aX,n1,n2]))
  exact oW [] []
theorem Np (xs:List (List Int))(l:Int)(h0:0≤l)(h1:l≤1048576):TC Tw.prog E 39 [gR (iH xs),gI .i64 l] 0 [] (gI .i64 (gH ly xs l)) []:=by
 refine tE Tryz.f39 Tryz.ntmps39 (by rw[Tryz.results39]) ?_
 refine TW.len 0 rfl fun hlen=>?_;simp only[List.length_map]at hlen;have hw:IntKind.i64.wrap (l-(xs.length:Int))=l-(xs.length:Int):=dj (by simp only[maxLen]at hlen;omega) (by omega)
 unfold gH ew;by_cases hc:l-(xs.length:Int)<0
 ·rw[if_pos (by rw[if_pos hc];omega)]
  have cb:l<(xs.length:Int):=by omega
  (refine TW.go ?_;simp[hw,hc,cb];repeat' first|intro hc|refine aa.mk ?_|refine aI ?_|refine af ?_ ?_)
  exact oW [] []
 rw[if_neg hc,if_neg hc];have cb:¬l<(xs.length:Int):=by omega
 have eJ:(xs.length:Int)≤l:=by omega
 (refine TW.go ?_;simp[hw,hc,cb,eJ];repeat' first|intro hc|refine aa.mk ?_|refine aI ?_|refine af ?_ ?_)
 generalize hq:l-(xs.length:Int)=q at*;have q0:0≤q:=by omega
 have q1:q≤1048576:=by omega
 clear hw hc cb eJ hq h0 h1;refine tL (fun(k:Nat)=>⟨[(0,gR (iH xs)),(1,gI .i64 (gf ly (xs.take k) q)),(5,gI .i64 (k:Nat))],[],0⟩) (fun k=>k≤xs.length∧0≤gf ly (xs.take k) q) (fun k=>xs.length-k) 0 ⟨by omega,q0⟩ (Wk.same (by simp[gf]) (by simp) (by simp)) fun k hk=>?_
 obtain⟨hk,hf⟩:=hk;by_cases aj:k<xs.length
 ·have he:xs[k]?=some xs[k]:=List.getElem?_eq_getElem aj
  have aA:(k:Int)<(xs.length:Int):=by omega
  have aG:=wrap_add aj hlen;have zm:=vh (f:=ly) AD (xs:=xs.take k) q0;have hC:=CM (E:=E) xs[k] (gf ly (xs.take k) q) hf (by omega)
  have rv:=rf (f:=ly) (xs:=xs.take k) (x:=xs[k]) q0 hf;have VL:xs.take k++[xs[k]]=xs.take (k+1):=by rw[List.take_add_one,he];rfl
  have fc:xs.take (k+1)++xs.drop (k+1)=xs:=List.take_append_drop _ _
  rw[VL]at rv;have vK:gf ly (xs.take (k+1)) q<0→gf ly xs q= -1:=fun h=>by have:=vi (f:=ly) (ys:=xs.drop (k+1)) q0 h;rwa[fc]at this
  change TC Tw.prog E _ _ 0 [] (gI .i64 (ly xs[k] _)) []at hC
  generalize xs[k]=x at*;generalize gf ly (xs.take k) q=p at*;generalize ly x p=y at*;by_cases hy:y<0
  ·rw[if_pos hy]at rv
   rw[vK (by omega)]
   (refine TW.go ?_;simp[he,aA,aG,hy];repeat' first|intro hc|refine aa.mk ?_|refine aI ?_|refine af ?_ ?_|(refine cP ?_;refine⟨_,hC,?_⟩;simp[he,aA,aG,hy]))
   exact oW [] []
  ·rw[if_neg hy]at rv
   (refine TW.go ?_;simp[he,aA,aG,hy];repeat' first|intro hc|refine aa.mk ?_|refine aI ?_|refine af ?_ ?_|(refine cP ?_;refine⟨_,hC,?_⟩;simp[he,aA,aG,hy]))
   exact⟨k+1,⟨by omega,by omega⟩,by omega,Wk.same (by simp[rv]) (by simp) (by simp)⟩
 ·obtain rfl:k=xs.length:=by omega
  rw[List.take_length]at*;(refine TW.go ?_;simp;repeat' first|intro hc|refine aa.mk ?_|refine aI ?_|refine af ?_ ?_)
  exact oW [] []
theorem J9 (xs:List aH)(l:Int)(h0:0≤l)(h1:l≤1048576):TC Tw.prog E 40 [gR (eZ xs),gI .i64 l] 0 [] (gI .i64 (gH lu xs l)) []:=by
 refine tE Tryz.f40 Tryz.ntmps40 (by rw[Tryz.results40]) ?_
 refine TW.len 0 rfl fun hlen=>?_;simp only[List.length_map]at hlen;have hw:IntKind.i64.wrap (l-(xs.length:Int))=l-(xs.length:Int):=dj (by simp only[maxLen]at hlen;omega) (by omega)
 unfold gH ew;by_cases hc:l-(xs.length:Int)<0
 ·rw[if_pos (by rw[if_pos hc];omega)]
  have cb:l<(xs.length:Int):=by omega
  (refine TW.go ?_;simp[hw,hc,cb];repeat' first|intro hc|refine aa.mk ?_|refine aI ?_|refine af ?_ ?_)
  exact oW [] []
 rw[if_neg hc,if_neg hc];have cb:¬l<(xs.length:Int):=by omega
 have eJ:(xs.length:Int)≤l:=by omega
 (refine TW.go ?_;simp[hw,hc,cb,eJ];repeat' first|intro hc|refine aa.mk ?_|refine aI ?_|refine af ?_ ?_)
 generalize hq:l-(xs.length:Int)=q at*;have q0:0≤q:=by omega
 have q1:q≤1048576:=by omega
 clear hw hc cb eJ hq h0 h1;refine tL (fun(k:Nat)=>⟨[(0,gR (eZ xs)),(1,gI .i64 (gf lu (xs.take k) q)),(5,gI .i64 (k:Nat))],[],0⟩) (fun k=>k≤xs.length∧0≤gf lu (xs.take k) q) (fun k=>xs.length-k) 0 ⟨by omega,q0⟩ (Wk.same (by simp[gf]) (by simp) (by simp)) fun k hk=>?_
 obtain⟨hk,hf⟩:=hk;by_cases aj:k<xs.length
 ·have he:xs[k]?=some xs[k]:=List.getElem?_eq_getElem aj
  have aA:(k:Int)<(xs.length:Int):=by omega
  have aG:=wrap_add aj hlen;have zm:=vh (f:=lu) vm (xs:=xs.take k) q0;have hC:=Nn (E:=E) xs[k] (gf lu (xs.take k) q) hf (by omega)
  have rv:=rf (f:=lu) (xs:=xs.take k) (x:=xs[k]) q0 hf;have VL:xs.take k++[xs[k]]=xs.take (k+1):=by rw[List.take_add_one,he];rfl
  have fc:xs.take (k+1)++xs.drop (k+1)=xs:=List.take_append_drop _ _
  rw[VL]at rv;have vK:gf lu (xs.take (k+1)) q<0→gf lu xs q= -1:=fun h=>by have:=vi (f:=lu) (ys:=xs.drop (k+1)) q0 h;rwa[fc]at this
  change TC Tw.prog E _ _ 0 [] (gI .i64 (lu xs[k] _)) []at hC
  generalize xs[k]=x at*;generalize gf lu (xs.take k) q=p at*;generalize lu x p=y at*;by_cases hy:y<0
  ·rw[if_pos hy]at rv
   rw[vK (by omega)]
   (refine TW.go ?_;simp[he,aA,aG,hy,au];repeat' first|intro hc|refine aa.mk ?_|refine aI ?_|refine af ?_ ?_|(refine cP ?_;refine⟨_,hC,?_⟩;simp[he,aA,aG,hy,au]))
   exact oW [] []
  ·rw[if_neg hy]at rv
   (refine TW.go ?_;simp[he,aA,aG,hy,au];repeat' first|intro hc|refine aa.mk ?_|refine aI ?_|refine af ?_ ?_|(refine cP ?_;refine⟨_,hC,?_⟩;simp[he,aA,aG,hy,au]))
   exact⟨k+1,⟨by omega,by omega⟩,by omega,Wk.same (by simp[rv]) (by simp) (by simp)⟩
 ·obtain rfl:k=xs.length:=by omega
  rw[List.take_length]at*;(refine TW.go ?_;simp;repeat' first|intro hc|refine aa.mk ?_|refine aI ?_|refine af ?_ ?_)
  exact oW [] []
theorem J_ (xs:List cH)(l:Int)(h0:0≤l)(h1:l≤1048576):TC Tw.prog E 41 [gR (l9 xs),gI .i64 l] 0 [] (gI .i64 (gH mE xs l)) []:=by
 refine tE Tryz.f41 Tryz.ntmps41 (by rw[Tryz.results41]) ?_
 refine TW.len 0 rfl fun hlen=>?_;simp only[List.length_map]at hlen;have hw:IntKind.i64.wrap (l-(xs.length:Int))=l-(xs.length:Int):=dj (by simp only[maxLen]at hlen;omega) (by omega)
 unfold gH ew;by_cases hc:l-(xs.length:Int)<0
 ·rw[if_pos (by rw[if_pos hc];omega)]
  have cb:l<(xs.length:Int):=by omega
  (refine TW.go ?_;simp[hw,hc,cb];repeat' first|intro hc|refine aa.mk ?_|refine aI ?_|refine af ?_ ?_)
  exact oW [] []
 rw[if_neg hc,if_neg hc];have cb:¬l<(xs.length:Int):=by omega
 have eJ:(xs.length:Int)≤l:=by omega
 (refine TW.go ?_;simp[hw,hc,cb,eJ];repeat' first|intro hc|refine aa.mk ?_|refine aI ?_|refine af ?_ ?_)
 generalize hq:l-(xs.length:Int)=q at*;have q0:0≤q:=by omega
 have q1:q≤1048576:=by omega
 clear hw hc cb eJ hq h0 h1;refine tL (fun(k:Nat)=>⟨[(0,gR (l9 xs)),(1,gI .i64 (gf mE (xs.take k) q)),(5,gI .i64 (k:Nat))],[],0⟩) (fun k=>k≤xs.length∧0≤gf mE (xs.take k) q) (fun k=>xs.length-k) 0 ⟨by omega,q0⟩ (Wk.same (by simp[gf]) (by simp) (by simp)) fun k hk=>?_
 obtain⟨hk,hf⟩:=hk;by_cases aj:k<xs.length
 ·have he:xs[k]?=some xs[k]:=List.getElem?_eq_getElem aj
  have aA:(k:Int)<(xs.length:Int):=by omega
  have aG:=wrap_add aj hlen;have zm:=vh (f:=mE) AB (xs:=xs.take k) q0;have hC:=No (E:=E) xs[k] (gf mE (xs.take k) q) hf (by omega)
  have rv:=rf (f:=mE) (xs:=xs.take k) (x:=xs[k]) q0 hf;have VL:xs.take k++[xs[k]]=xs.take (k+1):=by rw[List.take_add_one,he];rfl
  have fc:xs.take (k+1)++xs.drop (k+1)=xs:=List.take_append_drop _ _
  rw[VL]at rv;have vK:gf mE (xs.take (k+1)) q<0→gf mE xs q= -1:=fun h=>by have:=vi (f:=mE) (ys:=xs.drop (k+1)) q0 h;rwa[fc]at this
  change TC Tw.prog E _ _ 0 [] (gI .i64 (mE xs[k] _)) []at hC
  generalize xs[k]=x at*;generalize gf mE (xs.take k) q=p at*;generalize mE x p=y at*;by_cases hy:y<0
  ·rw[if_pos hy]at rv
   rw[vK (by omega)]
   (refine TW.go ?_;simp[he,aA,aG,hy,aX];repeat' first|intro hc|refine aa.mk ?_|refine aI ?_|refine af ?_ ?_|(refine cP ?_;refine⟨_,hC,?_⟩;simp[he,aA,aG,hy,aX]))
   exact oW [] []
  ·rw[if_neg hy]at rv
   (refine TW.go ?_;simp[he,aA,aG,hy,aX];repeat' first|intro hc|refine aa.mk ?_|refine aI ?_|refine af ?_ ?_|(refine cP ?_;refine⟨_,hC,?_⟩;simp[he,aA,aG,hy,aX]))
   exact⟨k+1,⟨by omega,by omega⟩,by omega,Wk.same (by simp[rv]) (by simp) (by simp)⟩
 ·obtain rfl:k=xs.length:=by omega
  rw[List.take_length]at*;(refine TW.go ?_;simp;repeat' first|intro hc|refine aa.mk ?_|refine aI ?_|refine af ?_ ?_)
  exact oW [] []
theorem Nq (w:az)(l:Int)(h0:0≤l)(h1:l≤1048576):TC Tw.prog E 15 [gW w,gI .i64 l] 0 [] (gI .i64 (Nl w l)) []:=by
 have c1:=Np (E:=E) w.an l h0 h1;unfold Nl qG qG qG;have u1:=vj AD (xs:=w.an) h0;by_cases n1:gH ly w.an l<0
 ·rw[if_pos n1]
  generalize gH ly w.an l=p at*;refine tE Tryz.f15 Tryz.ntmps15 (by rw[Tryz.results15]) ?_
  (refine TW.go ?_;simp[wT,n1];repeat' first|intro hc|refine aa.mk ?_|refine aI ?_|refine af ?_ ?_|(refine cP ?_;refine⟨_,c1,?_⟩;simp[wT,n1]))
  exact oW [] []
 rw[if_neg n1];have c2:=J9 (E:=E) w.ai (gH ly w.an l) (by omega) (by omega)
 generalize gH ly w.an l=p at*;have u2:=vj vm (xs:=w.ai) (l:=p) (by omega)
 by_cases n2:gH lu w.ai p<0
 ·rw[if_pos n2]
  generalize gH lu w.ai p=q at*;refine tE Tryz.f15 Tryz.ntmps15 (by rw[Tryz.results15]) ?_
  (refine TW.go ?_;simp[wT,n1,n2];repeat' first|intro hc|refine aa.mk ?_|refine aI ?_|refine af ?_ ?_|(refine cP ?_;(first|refine⟨_,c1,?_⟩|refine⟨_,c2,?_⟩);simp[wT,n1,n2]))
  exact oW [] []
 rw[if_neg n2];have c3:=J_ (E:=E) w.rounds (gH lu w.ai p) (by omega) (by omega)
 generalize gH lu w.ai p=q at*;have u3:=vj AB (xs:=w.rounds) (l:=q) (by omega)
 by_cases n3:gH mE w.rounds q<0
 ·rw[if_pos n3]
  generalize gH mE w.rounds q=r at*;refine tE Tryz.f15 Tryz.ntmps15 (by rw[Tryz.results15]) ?_
  (refine TW.go ?_;simp[wT,n1,n2,n3];repeat' first|intro hc|refine aa.mk ?_|refine aI ?_|refine af ?_ ?_|(refine cP ?_;(first|refine⟨_,c1,?_⟩|refine⟨_,c2,?_⟩|refine⟨_,c3,?_⟩);simp[wT,n1,n2,n3]))
  exact oW [] []
 rw[if_neg n3];have c4:=Nm (E:=E) w.bh (gH mE w.rounds q) (by omega) (by omega)
 generalize gH mE w.rounds q=r at*;have u4:=q_ (l:=r) (n:=w.bh.length) (by omega)
 by_cases n4:ew r w.bh.length<0
 ·rw[if_pos n4]
  generalize ew r w.bh.length=s at*;refine tE Tryz.f15 Tryz.ntmps15 (by rw[Tryz.results15]) ?_
  (refine TW.go ?_;simp[wT,n1,n2,n3,n4];repeat' first|intro hc|refine aa.mk ?_|refine aI ?_|refine af ?_ ?_|(refine cP ?_;(first|refine⟨_,c1,?_⟩|refine⟨_,c2,?_⟩|refine⟨_,c3,?_⟩|refine⟨_,c4,?_⟩);simp[wT,n1,n2,n3,n4]))
  exact oW [] []
 rw[if_neg n4];have c5:=Fb (E:=E) w.bC (ew r w.bh.length) (by omega) (by omega)
 generalize ew r w.bh.length=s at*;by_cases n5:ew s w.bC.length<0
 ·rw[if_pos n5]
  generalize ew s w.bC.length=t at*;refine tE Tryz.f15 Tryz.ntmps15 (by rw[Tryz.results15]) ?_
  (refine TW.go ?_;simp[wT,n1,n2,n3,n4,n5];repeat' first|intro hc|refine aa.mk ?_|refine aI ?_|refine af ?_ ?_|(refine cP ?_;(first|refine⟨_,c1,?_⟩|refine⟨_,c2,?_⟩|refine⟨_,c3,?_⟩|refine⟨_,c4,?_⟩|refine⟨_,c5,?_⟩);simp[wT,n1,n2,n3,n4,n5]))
  exact oW [] []
 ·rw[if_neg n5]
  generalize ew s w.bC.length=t at*;refine tE Tryz.f15 Tryz.ntmps15 (by rw[Tryz.results15]) ?_
  (refine TW.go ?_;simp[wT,n1,n2,n3,n4,n5];repeat' first|intro hc|refine aa.mk ?_|refine aI ?_|refine af ?_ ?_|(refine cP ?_;(first|refine⟨_,c1,?_⟩|refine⟨_,c2,?_⟩|refine⟨_,c3,?_⟩|refine⟨_,c4,?_⟩|refine⟨_,c5,?_⟩);simp[wT,n1,n2,n3,n4,n5]))
  exact oW [] []
end Go.Proofs.YtlhohdjniaebbaaGreat.T
