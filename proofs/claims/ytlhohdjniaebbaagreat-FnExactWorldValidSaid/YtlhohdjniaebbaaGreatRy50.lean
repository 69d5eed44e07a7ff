/-
What is proved: the exact laws' look at two equal runs finds them equal ('eqWorld_T'). No condition.
-/
import Derived.Test.YtlhohdjniaebbaaGreatRy49
set_option linter.unusedVariables false
set_option linter.unusedSimpArgs false
namespace Go.Proofs.YtlhohdjniaebbaaGreat.T
open Go Go.RowKit
set_option maxRecDepth 100000
set_option maxHeartbeats 4000000
variable {E:List PanicEntry→World→Prop}
theorem tB (s:Int×Int):TC Tw.prog E 158 [uV s,uV s] 0 [] (gB true) []:=by
 refine tE Tryz.f158 Tryz.ntmps158 (by rw[Tryz.results158]) ?_
 (refine TW.go ?_;simp;repeat' first|intro hc|refine aa.mk ?_|refine aI ?_|refine af ?_ ?_)
 exact oW [] []
theorem NA (e:aK):TC Tw.prog E 191 [jw e,jw e] 0 [] (gB true) []:=by
 have h1:=tB (E:=E) (e.t,e.g);refine tE Tryz.f191 Tryz.ntmps191 (by rw[Tryz.results191]) ?_
 (refine TW.go ?_;simp[aF];repeat' first|intro hc|refine aa.mk ?_|refine aI ?_|refine af ?_ ?_|(refine cP ?_;refine⟨_,h1,?_⟩;simp[aF]))
 exact oW [] []
theorem Kd (p:eI):TC Tw.prog E 110 [gP p,gP p] 0 [] (gB true) []:=by
 have h1:=tB (E:=E) (p.t,p.s);refine tE Tryz.f110 Tryz.ntmps110 (by rw[Tryz.results110]) ?_
 (refine TW.go ?_;simp[bP];repeat' first|intro hc|refine aa.mk ?_|refine aI ?_|refine af ?_ ?_|(refine cP ?_;refine⟨_,h1,?_⟩;simp[bP]))
 exact oW [] []
theorem CO (xs:List Int):TC Tw.prog E 63 [gR (bu xs),gR (bu xs)] 0 [] (gB true) []:=by
 refine tE Tryz.f63 Tryz.ntmps63 (by rw[Tryz.results63]) ?_
 refine TW.len 0 rfl fun hlen=>?_;simp only[List.length_map]at hlen;(refine TW.go ?_;simp;repeat' first|intro hc|refine aa.mk ?_|refine aI ?_|refine af ?_ ?_)
 refine tL (fun(k:Nat)=>⟨[(0,gR (bu xs)),(1,gR (bu xs)),(5,gI .i64 (k:Nat))],[],0⟩) (fun k=>k≤xs.length) (fun k=>xs.length-k) 0 (by omega) (kS) fun k hk=>?_
 by_cases aj:k<xs.length
 ·have he:xs[k]?=some xs[k]:=List.getElem?_eq_getElem aj
  have aA:(k:Int)<(xs.length:Int):=by omega
  have aG:=wrap_add aj hlen;generalize xs[k]=x at*;(refine TW.go ?_;simp[he,aA,aG];repeat' first|intro hc|refine aa.mk ?_|refine aI ?_|refine af ?_ ?_)
  exact⟨k+1,by omega,by omega,kS⟩
 ·obtain rfl:k=xs.length:=by omega
  (refine TW.go ?_;simp;repeat' first|intro hc|refine aa.mk ?_|refine aI ?_|refine af ?_ ?_)
  exact oW [] []
theorem NB (xs:List Bool):TC Tw.prog E 60 [gR (nA xs),gR (nA xs)] 0 [] (gB true) []:=by
 refine tE Tryz.f60 Tryz.ntmps60 (by rw[Tryz.results60]) ?_
 refine TW.len 0 rfl fun hlen=>?_;simp only[List.length_map]at hlen;(refine TW.go ?_;simp;repeat' first|intro hc|refine aa.mk ?_|refine aI ?_|refine af ?_ ?_)
 refine tL (fun(k:Nat)=>⟨[(0,gR (nA xs)),(1,gR (nA xs)),(5,gI .i64 (k:Nat))],[],0⟩) (fun k=>k≤xs.length) (fun k=>xs.length-k) 0 (by omega) (kS) fun k hk=>?_
 by_cases aj:k<xs.length
 ·have he:xs[k]?=some xs[k]:=List.getElem?_eq_getElem aj
  have aA:(k:Int)<(xs.length:Int):=by omega
  have aG:=wrap_add aj hlen;generalize xs[k]=x at*;(refine TW.go ?_;simp[he,aA,aG];repeat' first|intro hc|refine aa.mk ?_|refine aI ?_|refine af ?_ ?_)
  exact⟨k+1,by omega,by omega,kS⟩
 ·obtain rfl:k=xs.length:=by omega
  (refine TW.go ?_;simp;repeat' first|intro hc|refine aa.mk ?_|refine aI ?_|refine af ?_ ?_)
  exact oW [] []
theorem Ke (xs:List (Int×Int)):TC Tw.prog E 157 [gR (m_ xs),gR (m_ xs)] 0 [] (gB true) []:=by
 refine tE Tryz.f157 Tryz.ntmps157 (by rw[Tryz.results157]) ?_
 refine TW.len 0 rfl fun hlen=>?_;simp only[List.length_map]at hlen;(refine TW.go ?_;simp;repeat' first|intro hc|refine aa.mk ?_|refine aI ?_|refine af ?_ ?_)
 refine tL (fun(k:Nat)=>⟨[(0,gR (m_ xs)),(1,gR (m_ xs)),(5,gI .i64 (k:Nat))],[],0⟩) (fun k=>k≤xs.length) (fun k=>xs.length-k) 0 (by omega) (kS) fun k hk=>?_
 by_cases aj:k<xs.length
 ·have he:xs[k]?=some xs[k]:=List.getElem?_eq_getElem aj
  have aA:(k:Int)<(xs.length:Int):=by omega
  have aG:=wrap_add aj hlen;have hC:=tB (E:=E) xs[k];generalize xs[k]=x at*;(refine TW.go ?_;simp[he,aA,aG,gE];repeat' first|intro hc|refine aa.mk ?_|refine aI ?_|refine af ?_ ?_|(refine cP ?_;refine⟨_,hC,?_⟩;simp[he,aA,aG,gE]))
  exact⟨k+1,by omega,by omega,kS⟩
 ·obtain rfl:k=xs.length:=by omega
  (refine TW.go ?_;simp;repeat' first|intro hc|refine aa.mk ?_|refine aI ?_|refine af ?_ ?_)
  exact oW [] []
theorem xw (xs:List aK):TC Tw.prog E 156 [gR (c7 xs),gR (c7 xs)] 0 [] (gB true) []:=by
 refine tE Tryz.f156 Tryz.ntmps156 (by rw[Tryz.results156]) ?_
 refine TW.len 0 rfl fun hlen=>?_;simp only[List.length_map]at hlen;(refine TW.go ?_;simp;repeat' first|intro hc|refine aa.mk ?_|refine aI ?_|refine af ?_ ?_)
 refine tL (fun(k:Nat)=>⟨[(0,gR (c7 xs)),(1,gR (c7 xs)),(5,gI .i64 (k:Nat))],[],0⟩) (fun k=>k≤xs.length) (fun k=>xs.length-k) 0 (by omega) (kS) fun k hk=>?_
 by_cases aj:k<xs.length
 ·have he:xs[k]?=some xs[k]:=List.getElem?_eq_getElem aj
  have aA:(k:Int)<(xs.length:Int):=by omega
  have aG:=wrap_add aj hlen;have hC:=NA (E:=E) xs[k];generalize xs[k]=x at*;(refine TW.go ?_;simp[he,aA,aG,aF];repeat' first|intro hc|refine aa.mk ?_|refine aI ?_|refine af ?_ ?_|(refine cP ?_;refine⟨_,hC,?_⟩;simp[he,aA,aG,aF]))
  exact⟨k+1,by omega,by omega,kS⟩
 ·obtain rfl:k=xs.length:=by omega
  (refine TW.go ?_;simp;repeat' first|intro hc|refine aa.mk ?_|refine aI ?_|refine af ?_ ?_)
  exact oW [] []
theorem NC (g:aH):TC Tw.prog E 108 [.a ((au g).map .r),.a ((au g).map .r)] 0 [] (gB true) []:=by
 have h1:=xw (E:=E) g.pend;have h2:=xw (E:=E) g.done;refine tE Tryz.f108 Tryz.ntmps108 (by rw[Tryz.results108]) ?_
 (refine TW.go ?_;simp[au];repeat' first|intro hc|refine aa.mk ?_|refine aI ?_|refine af ?_ ?_|(refine cP ?_;(first|refine⟨_,h1,?_⟩|refine⟨_,h2,?_⟩);simp[au]))
 exact oW [] []
theorem ND (r:cH):TC Tw.prog E 109 [.a ((aX r).map .r),.a ((aX r).map .r)] 0 [] (gB true) []:=by
 have h1:=CO (E:=E) r.gs;have h2:=Ke (E:=E) r.aN;refine tE Tryz.f109 Tryz.ntmps109 (by rw[Tryz.results109]) ?_
 (refine TW.go ?_;simp[aX];repeat' first|intro hc|refine aa.mk ?_|refine aI ?_|refine af ?_ ?_|(refine cP ?_;(first|refine⟨_,h1,?_⟩|refine⟨_,h2,?_⟩);simp[aX]))
 exact oW [] []
theorem NF (xs:List (List Int)):TC Tw.prog E 22 [gR (iH xs),gR (iH xs)] 0 [] (gB true) []:=by
 refine tE Tryz.f22 Tryz.ntmps22 (by rw[Tryz.results22]) ?_
 refine TW.len 0 rfl fun hlen=>?_;simp only[List.length_map]at hlen;(refine TW.go ?_;simp;repeat' first|intro hc|refine aa.mk ?_|refine aI ?_|refine af ?_ ?_)
 refine tL (fun(k:Nat)=>⟨[(0,gR (iH xs)),(1,gR (iH xs)),(5,gI .i64 (k:Nat))],[],0⟩) (fun k=>k≤xs.length) (fun k=>xs.length-k) 0 (by omega) (kS) fun k hk=>?_
 by_cases aj:k<xs.length
 ·have he:xs[k]?=some xs[k]:=List.getElem?_eq_getElem aj
  have aA:(k:Int)<(xs.length:Int):=by omega
  have aG:=wrap_add aj hlen;have hC:=CO (E:=E) xs[k];generalize xs[k]=x at*;(refine TW.go ?_;simp[he,aA,aG];repeat' first|intro hc|refine aa.mk ?_|refine aI ?_|refine af ?_ ?_|(refine cP ?_;refine⟨_,hC,?_⟩;simp[he,aA,aG]))
  exact⟨k+1,by omega,by omega,kS⟩
 ·obtain rfl:k=xs.length:=by omega
  (refine TW.go ?_;simp;repeat' first|intro hc|refine aa.mk ?_|refine aI ?_|refine af ?_ ?_)
  exact oW [] []
theorem Kf (xs:List aH):TC Tw.prog E 58 [gR (eZ xs),gR (eZ xs)] 0 [] (gB true) []:=by
 refine tE Tryz.f58 Tryz.ntmps58 (by rw[Tryz.results58]) ?_
 refine TW.len 0 rfl fun hlen=>?_;simp only[List.length_map]at hlen;(refine TW.go ?_;simp;repeat' first|intro hc|refine aa.mk ?_|refine aI ?_|refine af ?_ ?_)
 refine tL (fun(k:Nat)=>⟨[(0,gR (eZ xs)),(1,gR (eZ xs)),(5,gI .i64 (k:Nat))],[],0⟩) (fun k=>k≤xs.length) (fun k=>xs.length-k) 0 (by omega) (kS) fun k hk=>?_
 by_cases aj:k<xs.length
 ·have he:xs[k]?=some xs[k]:=List.getElem?_eq_getElem aj
  have aA:(k:Int)<(xs.length:Int):=by omega
  have aG:=wrap_add aj hlen;have hC:=NC (E:=E) xs[k];generalize xs[k]=x at*;(refine TW.go ?_;simp[he,aA,aG,au];repeat' first|intro hc|refine aa.mk ?_|refine aI ?_|refine af ?_ ?_|(refine cP ?_;refine⟨_,hC,?_⟩;simp[he,aA,aG,au]))
  exact⟨k+1,by omega,by omega,kS⟩
 ·obtain rfl:k=xs.length:=by omega
  (refine TW.go ?_;simp;repeat' first|intro hc|refine aa.mk ?_|refine aI ?_|refine af ?_ ?_)
  exact oW [] []
theorem Kg (xs:List cH):TC Tw.prog E 59 [gR (l9 xs),gR (l9 xs)] 0 [] (gB true) []:=by
 refine tE Tryz.f59 Tryz.ntmps59 (by rw[Tryz.results59]) ?_
 refine TW.len 0 rfl fun hlen=>?_;simp only[List.length_map]at hlen;(refine TW.go ?_;simp;repeat' first|intro hc|refine aa.mk ?_|refine aI ?_|refine af ?_ ?_)
 refine tL (fun(k:Nat)=>⟨[(0,gR (l9 xs)),(1,gR (l9 xs)),(5,gI .i64 (k:Nat))],[],0⟩) (fun k=>k≤xs.length) (fun k=>xs.length-k) 0 (by omega) (kS) fun k hk=>?_
 by_cases aj:k<xs.length
 ·have he:xs[k]?=some xs[k]:=List.getElem?_eq_getElem aj
  have aA:(k:Int)<(xs.length:Int):=by omega
  have aG:=wrap_add aj hlen;have hC:=ND (E:=E) xs[k];generalize xs[k]=x at*;(refine TW.go ?_;simp[he,aA,aG,aX];repeat' first|intro hc|refine aa.mk ?_|refine aI ?_|refine af ?_ ?_|(refine cP ?_;refine⟨_,hC,?_⟩;simp[he,aA,aG,aX]))
  exact⟨k+1,by omega,by omega,kS⟩
 ·obtain rfl:k=xs.length:=by omega
  (refine TW.go ?_;simp;repeat' first|intro hc|refine aa.mk ?_|refine aI ?_|refine af ?_ ?_)
  exact oW [] []
theorem Fe (xs:List eI):TC Tw.prog E 61 [gR (qu xs),gR (qu xs)] 0 [] (gB true) []:=by
 refine tE Tryz.f61 Tryz.ntmps61 (by rw[Tryz.results61]) ?_
 refine TW.len 0 rfl fun hlen=>?_;simp only[List.length_map]at hlen;(refine TW.go ?_;simp;repeat' first|intro hc|refine aa.mk ?_|refine aI ?_|refine af ?_ ?_)
 refine tL (fun(k:Nat)=>⟨[(0,gR (qu xs)),(1,gR (qu xs)),(5,gI .i64 (k:Nat))],[],0⟩) (fun k=>k≤xs.length) (fun k=>xs.length-k) 0 (by omega) (kS) fun k hk=>?_
 by_cases aj:k<xs.length
 ·have he:xs[k]?=some xs[k]:=List.getElem?_eq_getElem aj
  have aA:(k:Int)<(xs.length:Int):=by omega
  have aG:=wrap_add aj hlen;have hC:=Kd (E:=E) xs[k];generalize xs[k]=x at*;(refine TW.go ?_;simp[he,aA,aG,bP];repeat' first|intro hc|refine aa.mk ?_|refine aI ?_|refine af ?_ ?_|(refine cP ?_;refine⟨_,hC,?_⟩;simp[he,aA,aG,bP]))
  exact⟨k+1,by omega,by omega,kS⟩
 ·obtain rfl:k=xs.length:=by omega
  (refine TW.go ?_;simp;repeat' first|intro hc|refine aa.mk ?_|refine aI ?_|refine af ?_ ?_)
  exact oW [] []
theorem NG (w:az):TC Tw.prog E 19 [gW w,gW w] 0 [] (gB true) []:=by
 have h1:=NF (E:=E) w.an;have h2:=Kf (E:=E) w.ai;have h3:=Kg (E:=E) w.rounds;have h4:=NB (E:=E) w.bh;have h5:=Fe (E:=E) w.bC;refine tE Tryz.f19 Tryz.ntmps19 (by rw[Tryz.results19]) ?_
 (refine TW.go ?_;simp[wT];repeat' first|intro hc|refine aa.mk ?_|refine aI ?_|refine af ?_ ?_|(refine cP ?_;(first|refine⟨_,h1,?_⟩|refine⟨_,h2,?_⟩|refine⟨_,h3,?_⟩|refine⟨_,h4,?_⟩|refine⟨_,h5,?_⟩);simp[wT]))
 exact oW [] []
theorem tC (w:az):TC Tw.prog na 3 [gW w] 0 [] (gB true) []:=by
 have c1:=Nq (E:=na) w 1048576 (by omega) (by omega)
 have c3:=NG (E:=na) w;by_cases n1:Nl w 1048576<0
 ·generalize Nl w 1048576=z at*
  refine tE Tryz.f3 Tryz.ntmps3 (by rw[Tryz.results3]) ?_
  (refine TW.go ?_;simp[wT,n1];repeat' first|intro hc|refine aa.mk ?_|refine aI ?_|refine af ?_ ?_|(refine cP ?_;refine⟨_,c1,?_⟩;simp[wT,n1]))
  exact oW [] []
 ·have hW:WLe w 1048576:=X8 (w:=w) (l:=1048576) (by omega) (by omega)
  have hg:=hW.gs;have hr:=hW.rn;have c2:=Nw (E:=na) w hW;have hL:ju w.ai 4294967280:=⟨by have:=hg.1;omega,fun g h=>by have:=hg.2 g h;exact⟨by have:=this.1;omega,by have:=this.2;omega⟩⟩
  have hR:∀r∈w.rounds,pd r 4294967296:=fun r h=>by have:=hr r h;exact⟨by have:=this.1;omega,by have:=this.2;omega⟩
  have c4:=vg (E:=na) w hL hR;have c5:=BG w hL hR;generalize Nl w 1048576=z at*;generalize Ni w=b at*
  cases b
  ·refine tE Tryz.f3 Tryz.ntmps3 (by rw[Tryz.results3]) ?_
   (refine TW.go ?_;simp[wT,n1];repeat' first|intro hc|refine aa.mk ?_|refine aI ?_|refine af ?_ ?_|(refine cP ?_;(first|refine⟨_,c1,?_⟩|refine⟨_,c2,?_⟩|refine⟨_,c3,?_⟩|refine⟨_,c4,?_⟩|refine⟨_,c5,?_⟩);simp[wT,n1]))
   exact oW [] []
  ·refine tE Tryz.f3 Tryz.ntmps3 (by rw[Tryz.results3]) ?_
   (refine TW.go ?_;simp[wT,n1];repeat' first|intro hc|refine aa.mk ?_|refine aI ?_|refine af ?_ ?_|(refine cP ?_;(first|refine⟨_,c1,?_⟩|refine⟨_,c2,?_⟩|refine⟨_,c3,?_⟩|refine⟨_,c4,?_⟩|refine⟨_,c5,?_⟩);simp[wT,n1]))
   exact oW [] []
end Go.Proofs.YtlhohdjniaebbaaGreat.T
