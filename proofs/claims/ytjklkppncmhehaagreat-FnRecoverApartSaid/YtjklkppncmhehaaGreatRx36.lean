/-
What is proved: what the queue's methods do to trees. Conditions: those that each states. what the program's 'sorted' does to trees ('sorted_T'). No condition but the length. 'sorted' orders its entries ('sortE_eq'): plain lists, no program in sight. No condition. worlds as data, what the reference's events do to them, and that worlds keep their shape. No program's text is walked. No condition but those that the theorems state.
-/
import Derived.Test.YtjklkppncmhehaaGreatRx35
set_option linter.unusedVariables false
set_option linter.unusedSimpArgs false
namespace Go.Proofs.YtjklkppncmhehaaGreat.T
open Go Go.RowKit
set_option maxRecDepth 100000
set_option maxHeartbeats 4000000
variable {E:List PanicEntry→World→Prop}
theorem NC (es:List an):TC Tw.prog E 229 [gR (cd es)] 0 [] (gI .i64 es.length) []:=by
 refine tE Tryz.f229 Tryz.ntmps229 (by rw[Tryz.results229]) ?_
 (refine TW.go ?_;simp;repeat' first|intro hc|refine U.mk ?_|refine aI ?_|refine aa ?_ ?_)
 refine aE.nil (r:=gI .i64 es.length) ?_ rfl;simp
theorem iP {es:List an}{i j:Nat}{a b:an}(ha:es[i]?=some a)(hb:es[j]?=some b):TC Tw.prog E 230 [gR (cd es),gI .i64 (i:Nat),gI .i64 (j:Nat)] 0 [] (gB (aK a.t a.g b.t b.g)) []:=by
 have hi:=(List.getElem?_eq_some_iff.1 ha).1;have hj:=(List.getElem?_eq_some_iff.1 hb).1;refine tE Tryz.f230 Tryz.ntmps230 (by rw[Tryz.results230]) ?_
 have Fj:=(List.getElem?_eq_some_iff.1 ha).2;have cD:=(List.getElem?_eq_some_iff.1 hb).2;(refine TW.go ?_;simp[ha,hb,Fj,cD,hi,hj,ak];repeat' first|intro hc|refine U.mk ?_|refine aI ?_|refine aa ?_ ?_|(refine cP ?_;refine⟨_,iT _ _ _ _,?_⟩;simp[ha,hb,Fj,cD,hi,hj,ak]))
 refine aE.nil (r:=gB (aK a.t a.g b.t b.g)) ?_ rfl;simp
def eP (es:List an)(i j:Nat)(a b:an):List an:=(es.set i b).set j a
theorem vn {es:List an}{i j:Nat}{a b:an}(ha:es[i]?=some a)(hb:es[j]?=some b):TC Tw.prog E 231 [.s (.own 0),gI .i64 (i:Nat),gI .i64 (j:Nat)] 1 [(0,bW es)] (.p []) [(0,bW (eP es i j a b))]:=by
 have hi:=(List.getElem?_eq_some_iff.1 ha).1;have hj:=(List.getElem?_eq_some_iff.1 hb).1;refine tE Tryz.f231 Tryz.ntmps231 (by rw[Tryz.results231]) ?_ (hfit:=(Fits.of (by simp[gA,aj.live]) (by simp) (by simp)))
 have Fj:=(List.getElem?_eq_some_iff.1 ha).2;have cD:=(List.getElem?_eq_some_iff.1 hb).2;(refine TW.go ?_;simp[ha,hb,Fj,cD,hi,hj,ak,List.getElem_set,apply_ite List.length];repeat' first|intro hc|refine U.mk ?_|refine aI ?_|refine aa ?_ ?_)
 refine aE.own [] [] (by simp;rfl) (by simp[eP,ak,List.map_set]) (by simp) (by simp) (by simp[eP,ak,List.map_set]) (by simp)
theorem Vz {es:List an}{e:an}(hlen:(es++[e]).length≤maxLen):TC Tw.prog E 232 [.s (.ptr 0 0)] 2 [(0,.box [.own 1]),(1,bW (es++[e]))] (.eV 32 (.a ((ak e).map .r))) [(0,.box [.own 2]),(2,bW es)]:=by
 simp only[List.length_append,List.length_singleton,maxLen]at hlen;have hw:IntKind.i64.wrap (es.length:Int)=es.length:=aG (by omega) (by omega)
 refine tE Tryz.f232 Tryz.ntmps232 (by rw[Tryz.results232]) ?_ (hfit:=(Fits.of (by simp[gA,aj.live]) (by simp) (by simp)))
 (refine TW.go ?_;simp[hw,ak];repeat' first|intro hc|refine U.mk ?_|refine aI ?_|refine aa ?_ ?_)
 refine aE.own [3] [] (by simp;rfl) (by simp[ak]) (by simp) (by simp) (by simp[ak]) (by simp)
def aV (a b:an):Bool:=aK a.t a.g b.t b.g
def oC (es:List an)(i n:Nat):Option Nat:=if n≤2*i+1 then none else
 match es[i]?,es[2*i+1]?,es[2*i+2]? with
 |some a,some b,some c=>if 2*i+2<n∧aV c b=true then(if aV c a=true then some (2*i+2)else none)else(if aV b a=true then some (2*i+1)else none)
 |some a,some b,none=>if aV b a=true then some (2*i+1)else none
 |_,_,_=>none
def fc (es:List an)(i j:Nat):List an:=match es[i]?,es[j]? with
 |some a,some b=>eP es i j a b
 |_,_=>es
def b9:Nat→List an→Nat→Nat→List an×Nat
 |0,es,i,_=>(es,i)
 |f+1,es,i,n=>match oC es i n with
  |some j=>b9 f (fc es i j) j n
  |none=>(es,i)
theorem kv (es:List an)(i j:Nat)(a b:an):(eP es i j a b).length=es.length:=by simp[eP]
theorem iA (es:List an)(i j:Nat):(fc es i j).length=es.length:=by
 unfold fc;split<;>simp[kv]
theorem jd:∀(f:Nat) (es:List an) (i n:Nat),(b9 f es i n).1.length=es.length
 |0,_,_,_=>rfl
 |f+1,es,i,n=>by
  unfold b9;split
  ·rw[jd f,iA]
  ·rfl
abbrev gH:GV:= .eV 180 (.s (.ptr 0 0))
abbrev qS (es:List an):List (Nat×aj):=[(0,.box [.own 1]),(1,bW es)]
theorem ND (es:List an)(i n:Nat)(cG:i≤n)(hi:i<es.length)(hn:n≤es.length)(hlen:es.length≤4294967296):TC Tw.prog E 179 [gH,gI .i64 (i:Nat),gI .i64 (n:Nat)] 2 (qS es) (gB (decide (i<(b9 (n+1) es i n).2))) (qS (b9 (n+1) es i n).1):=by
 refine tE Tryz.f179 Tryz.ntmps179 (by rw[Tryz.results179]) ?_ (hfit:=(Fits.of (by simp[gA,aj.live]) (by simp) (by simp)))
 (refine TW.go ?_;simp;repeat' first|intro hc|refine U.mk ?_|refine aI ?_|refine aa ?_ ?_)
 refine tL (fun(x:Nat×List an×Nat)=>⟨[(0,gH),(1,gI .i64 (i:Nat)),(2,gI .i64 (n:Nat)),(7,gI .i64 (x.2.2:Nat))],qS x.2.1,2⟩) (fun x=>b9 x.1 x.2.1 x.2.2 n=b9 (n+1) es i n∧i≤x.2.2∧(x.2.2≤n∧x.2.2<es.length)∧n+1≤x.1+x.2.2∧x.2.1.length=es.length) (fun x=>x.1) (n+1,es,i) ⟨rfl,by simp,⟨cG,hi⟩,by simp,rfl⟩ (kO [] []) fun⟨f,ys,k⟩ hk=>?_
 dsimp only at hk⊢
 obtain⟨hd,Kv,⟨jN,vo⟩,l_,Qg⟩:=hk;obtain⟨f,rfl⟩:∃g,f=g+1:=⟨f-1,by omega⟩
 obtain⟨j1,hj1⟩:∃j,j=2*k+1:=⟨_,rfl⟩;obtain⟨j2,hj2⟩:∃j,j=2*k+2:=⟨_,rfl⟩;have aD:IntKind.i64.wrap (2*(k:Int))=2*k:=aG (by omega) (by omega)
 have dm:IntKind.i64.wrap (2*(k:Int)+1)=(j1:Int):=by rw[show 2*(k:Int)+1=(j1:Int) by omega];exact aG (by omega) (by omega)
 have fe:IntKind.i64.wrap ((j1:Int)+1)=(j2:Int):=by rw[show(j1:Int)+1=(j2:Int) by omega];exact aG (by omega) (by omega)
 have mQ:¬(j1:Int)<0:=by omega
 have ha:ys[k]?=some ys[k]:=List.getElem?_eq_getElem (by omega)
 generalize ys[k]=a at ha;by_cases cj:n≤j1
 ·have k9:oC ys k n=none:=by unfold oC;rw[if_pos (by omega)]
  have hE:b9 (n+1) es i n=(ys,k):=by rw[←hd];unfold b9;rw[k9]
  rw[hE];(refine TW.go ?_;simp[aD,dm,cj];repeat' first|intro hc|refine U.mk ?_|refine aI ?_|refine aa ?_ ?_)
  exact oW [] []
 ·have hb:ys[j1]?=some ys[j1]:=List.getElem?_eq_getElem (by omega)
  generalize ys[j1]=b at hb;by_cases cI:j2<n
  ·have hc:ys[j2]?=some ys[j2]:=List.getElem?_eq_getElem (by omega)
   generalize ys[j2]=c at hc;have k9:oC ys k n=if aV c b=true then(if aV c a=true then some j2 else none)else(if aV b a=true then some j1 else none):=by
    subst hj1 hj2;unfold oC;rw[if_neg cj,ha,hb,hc];simp only[cI,true_and]
   cases vp:aV c b
   ·rw[vp,if_neg (by simp)]at k9
    cases jD:aV b a
    ·rw[jD,if_neg (by simp)]at k9
     have hE:b9 (n+1) es i n=(ys,k):=by rw[←hd];unfold b9;rw[k9]
     rw[hE];unfold aV at vp jD;have hC:=iP (E:=E) hc hb;have hB:=iP (E:=E) hb ha;rw[vp]at hC;rw[jD]at hB;(refine TW.go ?_;simp[aD,dm,fe,mQ,cj,cI];repeat' first|intro hc|refine U.mk ?_|refine aI ?_|refine aa ?_ ?_|(refine cK [1] ?_;refine⟨_,hC,?_⟩;simp[aD,dm,fe,mQ,cj,cI])|(refine cK [1] ?_;refine⟨_,hB,?_⟩;simp[aD,dm,fe,mQ,cj,cI]))
     exact oW [] []
    ·rw[jD,if_pos rfl]at k9
     have hE:b9 (f+1) ys k n=b9 f (eP ys k j1 a b) j1 n:=by rw[b9,k9];simp only[fc,ha,hb]
     unfold aV at vp jD;have hC:=iP (E:=E) hc hb;have hB:=iP (E:=E) hb ha;rw[vp]at hC;rw[jD]at hB;(refine TW.go ?_;simp[aD,dm,fe,mQ,cj,cI];repeat' first|intro hc|refine U.mk ?_|refine aI ?_|refine aa ?_ ?_|(refine cK [1] ?_;refine⟨_,hC,?_⟩;simp[aD,dm,fe,mQ,cj,cI])|(refine cK [1] ?_;refine⟨_,hB,?_⟩;simp[aD,dm,fe,mQ,cj,cI])|(refine cL [1] 0 ?_;refine⟨_,_,_,_,vn ha hb,?_⟩;simp[aD,dm,fe,mQ,cj,cI]))
     exact⟨(f,eP ys k j1 a b,j1),⟨by rw[←hE];exact hd,by dsimp only;omega,by dsimp only;omega,by dsimp only;omega,by rw[kv];exact Qg⟩,by simp,kO [] []⟩
   ·rw[vp,if_pos rfl]at k9
    cases Qh:aV c a
    ·rw[Qh,if_neg (by simp)]at k9
     have hE:b9 (n+1) es i n=(ys,k):=by rw[←hd];unfold b9;rw[k9]
     rw[hE];unfold aV at vp Qh;have hC:=iP (E:=E) hc hb;have hB:=iP (E:=E) hc ha;rw[vp]at hC;rw[Qh]at hB;(refine TW.go ?_;simp[aD,dm,fe,mQ,cj,cI];repeat' first|intro hc|refine U.mk ?_|refine aI ?_|refine aa ?_ ?_|(refine cK [1] ?_;refine⟨_,hC,?_⟩;simp[aD,dm,fe,mQ,cj,cI])|(refine cK [1] ?_;refine⟨_,hB,?_⟩;simp[aD,dm,fe,mQ,cj,cI]))
     exact oW [] []
    ·rw[Qh,if_pos rfl]at k9
     have hE:b9 (f+1) ys k n=b9 f (eP ys k j2 a c) j2 n:=by rw[b9,k9];simp only[fc,ha,hc]
     unfold aV at vp Qh;have hC:=iP (E:=E) hc hb;have hB:=iP (E:=E) hc ha;rw[vp]at hC;rw[Qh]at hB;(refine TW.go ?_;simp[aD,dm,fe,mQ,cj,cI];repeat' first|intro hc|refine U.mk ?_|refine aI ?_|refine aa ?_ ?_|(refine cK [1] ?_;refine⟨_,hC,?_⟩;simp[aD,dm,fe,mQ,cj,cI])|(refine cK [1] ?_;refine⟨_,hB,?_⟩;simp[aD,dm,fe,mQ,cj,cI])|(refine cL [1] 0 ?_;refine⟨_,_,_,_,vn ha hc,?_⟩;simp[aD,dm,fe,mQ,cj,cI]))
     exact⟨(f,eP ys k j2 a c,j2),⟨by rw[←hE];exact hd,by dsimp only;omega,by dsimp only;omega,by dsimp only;omega,by rw[kv];exact Qg⟩,by simp,kO [] []⟩
  ·have k9:oC ys k n=if aV b a=true then some j1 else none:=by
    subst hj1 hj2;unfold oC;rw[if_neg cj,ha,hb]
    cases ys[2*k+2]? with
    |none=>rfl
    |some c=>simp only[cI,false_and,if_false]
   cases jD:aV b a
   ·rw[jD,if_neg (by simp)]at k9
    have hE:b9 (n+1) es i n=(ys,k):=by rw[←hd];unfold b9;rw[k9]
    rw[hE];unfold aV at jD;have hB:=iP (E:=E) hb ha;rw[jD]at hB;(refine TW.go ?_;simp[aD,dm,fe,mQ,cj,cI];repeat' first|intro hc|refine U.mk ?_|refine aI ?_|refine aa ?_ ?_|(refine cK [1] ?_;refine⟨_,hB,?_⟩;simp[aD,dm,fe,mQ,cj,cI]))
    exact oW [] []
   ·rw[jD,if_pos rfl]at k9
    have hE:b9 (f+1) ys k n=b9 f (eP ys k j1 a b) j1 n:=by rw[b9,k9];simp only[fc,ha,hb]
    unfold aV at jD;have hB:=iP (E:=E) hb ha;rw[jD]at hB;(refine TW.go ?_;simp[aD,dm,fe,mQ,cj,cI];repeat' first|intro hc|refine U.mk ?_|refine aI ?_|refine aa ?_ ?_|(refine cK [1] ?_;refine⟨_,hB,?_⟩;simp[aD,dm,fe,mQ,cj,cI])|(refine cL [1] 0 ?_;refine⟨_,_,_,_,vn ha hb,?_⟩;simp[aD,dm,fe,mQ,cj,cI]))
    exact⟨(f,eP ys k j1 a b,j1),⟨by rw[←hE];exact hd,by dsimp only;omega,by dsimp only;omega,by dsimp only;omega,by rw[kv];exact Qg⟩,by simp,kO [] []⟩
def pN (es:List an)(n:Nat):Nat→List an
 |0=>es
 |k+1=>pN (b9 (n+1) es k n).1 n k
def pO (es:List an):List an:=pN es es.length (es.length / 2)
theorem At (n:Nat):∀(k:Nat) (es:List an),(pN es n k).length=es.length
 |0,_=>rfl
 |k+1,es=>by rw[pN,At n k,jd]
theorem VA (es:List an)(hlen:es.length≤4294967296):TC Tw.prog E 157 [gH] 2 (qS es) (.p []) (qS (pO es)):=by
 have hw:IntKind.i64.wrap ((es.length:Int)/ 2)=(es.length:Int)/ 2:=aG (by omega) (by omega)
 have dm:IntKind.i64.wrap ((es.length:Int)/ 2-1)=(es.length:Int)/ 2-1:=aG (by omega) (by omega)
 refine tE Tryz.f157 Tryz.ntmps157 (by rw[Tryz.results157]) ?_ (hfit:=(Fits.of (by simp[gA,aj.live]) (by simp) (by simp)))
 (refine TW.go ?_;simp[hw];repeat' first|intro hc|refine U.mk ?_|refine aI ?_|refine aa ?_ ?_|(refine cK [1] ?_;refine⟨_,NC _,?_⟩;simp[hw]))
 refine tL (fun(x:Nat×List an)=>⟨[(0,gH),(2,gI .i64 es.length),(3,gI .i64 ((x.1:Nat)-1))],qS x.2,2⟩) (fun x=>pN x.2 es.length x.1=pO es∧x.1≤es.length / 2∧x.2.length=es.length) (fun x=>x.1) (es.length / 2,es) ⟨rfl,by simp,rfl⟩ (Wk.own [] [] (by simp) (by simp[hw,dm]) (by simp) (by simp) (by simp)) fun⟨h,ys⟩ hk=>?_
 dsimp only at hk⊢
 obtain⟨hd,hh,Qg⟩:=hk;rcases h with _|h
 ·rw[pN]at hd
  subst hd;(refine TW.go ?_;simp;repeat' first|intro hc|refine U.mk ?_|refine aI ?_|refine aa ?_ ?_)
  exact oW [] []
 ·have he:((h+1:Nat):Int)-1=(h:Int):=by omega
  have fe:IntKind.i64.wrap ((h:Int)-1)=(h:Int)-1:=aG (by omega) (by omega)
  have hl:ys.length=es.length:=Qg
  rw[he,←hl];(refine TW.go ?_;simp[fe];repeat' first|intro hc|refine U.mk ?_|refine aI ?_|refine aa ?_ ?_|(refine cL [0,1] 0 ?_;refine⟨_,_,_,_,ND ys h ys.length (by omega) (by omega) (by omega) (by omega),?_⟩;simp[fe]))
  exact⟨(h,(b9 (ys.length+1) ys h ys.length).1),⟨by rw[←hd,pN,hl],by dsimp only;omega,by simp[jd,Qg]⟩,by simp,Wk.own [] [] (by simp) (by simp[hl]) (by simp) (by simp) (by simp)⟩
theorem JF {es:List an}{i n j:Nat}(h:oC es i n=some j):i<j∧j<n:=by
 unfold oC at h;split at h
 ·cases h
 ·split at h
  ·split at h
   ·rename_i hc
    split at h
    ·cases h;exact⟨by omega,hc.1⟩
    ·cases h
   ·split at h
    ·cases h;omega
    ·cases h
  ·split at h
   ·cases h;omega
   ·cases h
  ·cases h
theorem S' {es:List an}{i j m:Nat}(hi:i≠m)(hj:j≠m):(fc es i j)[m]?=es[m]?:=by
 unfold fc;split
 ·simp[eP,hi,hj]
 ·rfl
theorem CL {n m:Nat}(hm:n≤m):∀(f:Nat) (es:List an) (i:Nat),(b9 f es i n).1[m]?=es[m]?
 |0,_,_=>rfl
 |f+1,es,i=>by
  unfold b9;split
  ·rename_i j hj
   have:=JF hj
   rw[CL hm f,S' (by omega) (by omega)]
  ·rfl
def mZ (x:an)(es:List an):List an:=(b9 (es.length+1) (fc (x::es) 0 es.length) 0 es.length).1.take es.length
theorem Au (x:an)(es:List an):(b9 (es.length+1) (fc (x::es) 0 es.length) 0 es.length).1=mZ x es++[x]:=by
 have h:=CL (Nat.le_refl es.length) (es.length+1) (fc (x::es) 0 es.length) 0;have hl:(b9 (es.length+1) (fc (x::es) 0 es.length) 0 es.length).1.length=es.length+1:=by rw[jd,iA];rfl
 have hs:(fc (x::es) 0 es.length)[es.length]?=some x:=by
  have ki:(x::es)[es.length]?=some ((x::es)[es.length]'(by simp)):=List.getElem?_eq_getElem (by simp)
  unfold fc;rw[ki];simp only[List.getElem?_cons_zero,eP];rw[List.getElem?_set_self (by simp)]
 rw[hs]at h;unfold mZ;generalize(b9 (es.length+1) (fc (x::es) 0 es.length) 0 es.length).1=L at*;obtain⟨h1,h2⟩:=List.getElem?_eq_some_iff.1 h;conv=>lhs;rw[←List.take_append_drop es.length L]
 rw[List.drop_eq_getElem_cons h1,h2,List.drop_eq_nil_of_le (by omega)]
theorem VB (x:an)(es:List an)(hlen:es.length≤4294967290):TC Tw.prog E 158 [gH] 2 (qS (x::es)) (.eV 32 (.a ((ak x).map .r))) [(0,.box [.own 2]),(2,bW (mZ x es))]:=by
 have ki:(x::es)[es.length]?=some ((x::es)[es.length]'(by simp)):=List.getElem?_eq_getElem (by simp)
 have Ta:fc (x::es) 0 es.length=eP (x::es) 0 es.length x ((x::es)[es.length]'(by simp)):=by
  unfold fc;rw[ki];rfl
 generalize(x::es)[es.length]'(by simp)=l at*
 have hS:=vn (E:=E) (i:=0) (j:=es.length) (List.getElem?_cons_zero (a:=x) (l:=es)) ki;have hD:=ND (E:=E) (fc (x::es) 0 es.length) 0 es.length (by omega) (by rw[iA];simp) (by rw[iA];simp) (by rw[iA];simp;omega)
 rw[Au]at hD;rw[←Ta]at hS;have hw:IntKind.i64.wrap (es.length:Int)=es.length:=aG (by omega) (by omega)
 have hP:=Vz (E:=E) (es:=mZ x es) (e:=x) (by simp[mZ,jd,iA,maxLen];omega)
 generalize fc (x::es) 0 es.length=ys at*;have hz:(x::es).length=es.length+1:=rfl
 generalize x::es=zs at*;refine tE Tryz.f158 Tryz.ntmps158 (by rw[Tryz.results158]) ?_ (hfit:=(Fits.of (by simp[gA,aj.live]) (by simp) (by simp)))
 (refine TW.go ?_;simp[hw,hz];repeat' first|intro hc|refine U.mk ?_|refine aI ?_|refine aa ?_ ?_|(refine cK [1] ?_;refine⟨_,NC zs,?_⟩;simp[hw,hz])|(refine cL [1] 0 ?_;refine⟨_,_,_,_,hS,?_⟩;simp[hw,hz])|(refine cL [0,1] 0 ?_;refine⟨_,_,_,_,hD,?_⟩;simp[hw,hz])|(refine cL [0,1] 1 ?_;refine⟨_,_,_,_,hP,?_⟩;simp[hw,hz]))
 refine aE.own [2] [] (by simp;rfl) (by simp[ak]) (by simp) (by simp) (by simp[ak]) (by simp)
end Go.Proofs.YtjklkppncmhehaaGreat.T
namespace Go.Proofs.YtjklkppncmhehaaGreat.T
open Go Go.RowKit
set_option maxRecDepth 100000
set_option maxHeartbeats 4000000
variable {E:List PanicEntry→World→Prop}
def jO:Nat→List an→List an
 |k+1,x::es=>x::jO k (mZ x es)
 |_,_=>[]
def rk (es:List an):List an:=jO es.length (pO es)
theorem oD (x:an)(es:List an):(mZ x es).length=es.length:=by
 unfold mZ;rw[List.length_take,jd,iA,List.length_cons];omega
theorem pP (es:List an):(pO es).length=es.length:=At _ _ _
theorem CM (es:List an)(hlen:es.length≤4294967290):TC Tw.prog E 119 [gR (cd es)] 0 [] (.s (.own 0)) [(0,bW (rk es))]:=by
 have hC:=iO (E:=E) es (by omega)
 have hI:=VA (E:=E) es (by omega)
 have hl:=pP es;have X9:rk es=jO es.length (pO es):=rfl
 generalize rk es=R at*;generalize pO es=H at*;refine tE Tryz.f119 Tryz.ntmps119 (by rw[Tryz.results119]) ?_
 (refine TW.go ?_;simp;repeat' first|intro hc|refine U.mk ?_|refine aI ?_|refine aa ?_ ?_|(refine cF [] 1 ?_;refine⟨_,_,hC,?_⟩;simp)|(refine cL [1,0] 0 ?_;refine⟨_,_,_,_,hI,?_⟩;simp))
 refine tL (fun(x:List an×List an)=>⟨[(3,.s (.ptr 0 0)),(4,.s (.own 2))],[(0,.box [.own 1]),(1,bW x.1),(2,bW x.2)],3⟩) (fun x=>R=x.2++jO x.1.length x.1∧x.1.length+x.2.length=es.length) (fun x=>x.1.length) (H,[]) ⟨by rw[X9,hl,List.nil_append],by simp[hl]⟩ (kO [1,0,2] []) fun⟨zs,out⟩ hk=>?_
 dsimp only at hk⊢
 obtain⟨hd,Av⟩:=hk;rcases zs with _|⟨x,zs⟩
 ·have hR:R=out:=by rw[hd];simp[jO]
  subst hR;(refine TW.go ?_;simp;repeat' first|intro hc|refine U.mk ?_|refine aI ?_|refine aa ?_ ?_)
  exact oW [2] []
 ·have hP:=VB (E:=E) x zs (by simp at Av;omega)
  have nX:=oD x zs;have hz:(x::zs).length=zs.length+1:=rfl
  have wi:R=(out++[x])++jO (mZ x zs).length (mZ x zs):=by rw[hd,nX,hz,jO];simp
  have hol:out.length+1≤maxLen:=by simp at Av;simp only[maxLen];omega
  generalize mZ x zs=Q at*;generalize x::zs=Z at*;(refine TW.go ?_;simp[hz,ak,maxLen,hol];repeat' first|intro hc|refine U.mk ?_|refine aI ?_|refine aa ?_ ?_|(refine cL [0,1] 1 ?_;refine⟨_,_,_,_,hP,?_⟩;simp[hz,ak,maxLen,hol]))
  exact⟨(Q,out++[x]),⟨wi,by simp at Av⊢;omega⟩,by dsimp only;omega,Wk.own [0,3,6] [] (by simp) (by simp) (by simp[ak]) (by simp) (by simp)⟩
end Go.Proofs.YtjklkppncmhehaaGreat.T
namespace Go.Proofs.YtjklkppncmhehaaGreat.T
open Go Go.RowKit
theorem nJ {a b:an}(h:aV a b=true):aV b a=false:=by
 simp only[aV,aK,decide_eq_true_eq,decide_eq_false_iff_not]at*;omega
theorem pQ {a b c:an}(h:aV b a=false)(k:aV c b=false):aV c a=false:=by
 simp only[aV,aK,decide_eq_false_iff_not]at*;omega
theorem nK (a:an):aV a a=false:=by
 simp only[aV,aK,decide_eq_false_iff_not];omega
def wF (es:List an)(n p:Nat):Prop:=∀j,(j=2*p+1∨j=2*p+2)→j<n→∀a b,es[p]?=some a→es[j]?=some b→aV b a=false
theorem Aw {es:List an}{i j:Nat}{a b:an}(hi:i<es.length)(hj:j<es.length)(m:Nat):(eP es i j a b)[m]?=if j=m then some a else if i=m then some b else es[m]?:=by
 unfold eP;rw[List.getElem?_set,List.length_set,if_pos hj,List.getElem?_set,if_pos hi]
theorem swap_perm {es:List an}{i j:Nat}{a b:an}(ha:es[i]?=some a)(hb:es[j]?=some b):(eP es i j a b).Perm es:=by
 obtain⟨hi,rfl⟩:=List.getElem?_eq_some_iff.1 ha;obtain⟨hj,rfl⟩:=List.getElem?_eq_some_iff.1 hb;exact List.set_set_perm hi hj
theorem CN (es:List an)(i j:Nat):(fc es i j).Perm es:=by
 unfold fc;split
 ·rename_i ha hb;exact swap_perm ha hb
 ·exact .refl _
theorem tX:∀(f:Nat) (es:List an) (i n:Nat),(b9 f es i n).1.Perm es
 |0,es,_,_=> .refl es
 |f+1,es,i,n=>by
  unfold b9;split
  ·exact(tX f _ _ _).trans (CN es _ _)
  ·exact .refl _
theorem Qi {es:List an}{i n:Nat}(h:oC es i n=none)(hn:n≤es.length)(hi:i<es.length):wF es n i:=by
 intro j hj ir a b ha hb;unfold oC at h;have hle:¬n≤2*i+1:=by omega
 rw[if_neg hle,ha]at h;have h1:es[2*i+1]?=some es[2*i+1]:=List.getElem?_eq_getElem (by omega)
 generalize es[2*i+1]=b1 at h1;rw[h1]at h
 cases h2:es[2*i+2]? with
 |none=>
  rw[h2]at h;rcases hj with rfl|rfl
  ·rw[h1]at hb;cases hb
   simp only at h
   split at h
   ·cases h
   ·rename_i hf;simpa using hf
  ·rw[h2]at hb;cases hb
 |some c=>
  rw[h2]at h;simp only at h
  split at h
  ·rename_i hc
   split at h
   ·cases h
   ·rename_i hf
    have Tb:aV c a=false:=by simpa using hf
    rcases hj with rfl|rfl
    ·rw[h1]at hb;cases hb
     exact pQ Tb (nJ hc.2)
    ·rw[h2]at hb;cases hb
     exact Tb
  ·rename_i hc
   split at h
   ·cases h
   ·rename_i hf
    have Tb:aV b1 a=false:=by simpa using hf
    rcases hj with rfl|rfl
    ·rw[h1]at hb;cases hb
     exact Tb
    ·rw[h2]at hb
     cases hb;have:aV b b1=false:=by
      cases vp:aV b b1
      ·rfl
      ·exact absurd ⟨ir,vp⟩ hc
     exact pQ Tb this
theorem Qj {es:List an}{i n j:Nat}(h:oC es i n=some j)(hn:n≤es.length)(hi:i<es.length):(j=2*i+1∨j=2*i+2)∧j<n∧∃a b,es[i]?=some a∧es[j]?=some b∧aV b a=true∧∀k,(k=2*i+1∨k=2*i+2)→k<n→∀c,es[k]?=some c→aV c b=false:=by
 have ai:=JF h;unfold oC at h;have ha:es[i]?=some es[i]:=List.getElem?_eq_getElem hi
 generalize es[i]=a at ha;split at h
 ·cases h
 ·rename_i hle
  have h1:es[2*i+1]?=some es[2*i+1]:=List.getElem?_eq_getElem (by omega)
  generalize es[2*i+1]=b1 at h1;rw[ha,h1]at h
  cases h2:es[2*i+2]? with
  |none=>
   rw[h2]at h;simp only at h
   split at h
   ·rename_i hf
    cases h;refine⟨.inl rfl,ai.2,a,b1,ha,h1,hf,fun k hk jN c hc=>?_⟩
    rcases hk with rfl|rfl
    ·rw[h1]at hc;cases hc;exact nK _
    ·rw[h2]at hc;cases hc
   ·cases h
  |some c2=>
   rw[h2]at h;simp only at h
   split at h
   ·rename_i hc
    split at h
    ·rename_i hf
     cases h;refine⟨.inr rfl,ai.2,a,c2,ha,h2,hf,fun k hk jN c cY=>?_⟩
     rcases hk with rfl|rfl
     ·rw[h1]at cY;cases cY;exact nJ hc.2
     ·rw[h2]at cY;cases cY;exact nK _
    ·cases h
   ·rename_i hc
    split at h
    ·rename_i hf
     cases h;refine⟨.inl rfl,ai.2,a,b1,ha,h1,hf,fun k hk jN c cY=>?_⟩
     rcases hk with rfl|rfl
     ·rw[h1]at cY;cases cY;exact nK _
     ·rw[h2]at cY;cases cY
      cases vp:aV c2 b1
      ·rfl
      ·exact absurd ⟨jN,vp⟩ hc
    ·cases h
theorem Ax (n lo:Nat):∀(f:Nat) (es:List an) (i:Nat),lo≤i→i<es.length→n≤es.length→n+1≤f+i→(∀p,lo≤p→p≠i→wF es n p)→
  (∀p,lo≤p→(i=2*p+1∨i=2*p+2)→∀j,(j=2*i+1∨j=2*i+2)→j<n→∀a b,es[p]?=some a→es[j]?=some b→aV b a=false)→∀p,lo≤p→wF (b9 f es i n).1 n p
 |0,es,i,ES,hi,hn,hf,h1,h2,p,hp=>by
  intro j hj ir;by_cases VC:p=i
  ·exfalso;omega
  ·exact h1 p hp VC j hj ir
 |f+1,es,i,ES,hi,hn,hf,h1,h2,p,hp=>by
  unfold b9;split
  ·rename_i j hk
   obtain⟨hj,ir,a,b,ha,hb,jD,aah⟩:=Qj hk hn hi;have My:j<es.length:=by omega
   have Ta:fc es i j=eP es i j a b:=by unfold fc;rw[ha,hb]
   rw[Ta];have hg:=Aw (a:=a) (b:=b) hi My;refine Ax n lo f (eP es i j a b) j (by omega) (by rw[kv];exact My) (by rw[kv];exact hn) (by omega) (fun q hq hqj=>?_) (fun q hq hjq k cc jN x y hx hy=>?_) p hp
   ·intro k cc jN x y hx hy
    rw[hg]at hx hy;rw[if_neg (by omega)]at hx
    by_cases Mw:i=q
    ·subst Mw
     rw[if_pos rfl]at hx
     cases hx;by_cases x_:j=k
     ·rw[if_pos x_]at hy;cases hy;exact nJ jD
     ·rw[if_neg x_,if_neg (by omega)]at hy
      exact aah k cc jN y hy
    ·rw[if_neg Mw]at hx
     have x_:j≠k:=by omega
     rw[if_neg x_]at hy;by_cases X_:i=k
     ·rw[if_pos X_]at hy
      cases hy;subst X_;exact h2 q hq cc j hj ir x _ hx hb
     ·rw[if_neg X_]at hy
      exact h1 q hq (Ne.symm Mw) k cc jN x y hx hy
   ·have Mw:i=q:=by omega
    subst Mw;rw[hg]at hx hy;rw[if_neg (by omega),if_pos rfl]at hx
    cases hx;rw[if_neg (by omega),if_neg (by omega)]at hy
    exact h1 j (by omega) (by omega) k cc jN _ y hb hy
  ·rename_i hk
   by_cases VC:p=i
   ·subst VC;exact Qi hk hn hi
   ·exact h1 p hp VC
theorem Az (n:Nat):∀(k:Nat) (es:List an),(pN es n k).Perm es
 |0,es=> .refl es
 |k+1,es=>(Az n k _).trans (tX _ _ _ _)
theorem JG (n:Nat):∀(k:Nat) (es:List an),n=es.length→k≤n / 2→(∀p,k≤p→wF es n p)→∀p,wF (pN es n k) n p
 |0,es,_,_,h,p=>h p (by omega)
 |k+1,es,hn,hk,h,p=>JG n k _ (by rw[jd];exact hn) (by omega) (Ax n k (n+1) es k (by omega) (by omega) (by omega) (by omega) (fun q hq Qk=>h q (by omega)) (fun q hq hkq=>by omega)) p
def vq (es:List an):Prop:=∀p,wF es es.length p
theorem Tc (es:List an):vq (pO es):=by
 intro p;rw[pP];exact JG es.length (es.length / 2) es rfl (by omega) (fun p hp j hj ir=>by omega) p
theorem Mz (es:List an):(pO es).Perm es:=Az _ _ _
theorem Ql (x:an)(es:List an):(mZ x es).Perm es:=by
 have h:=(tX (es.length+1) (fc (x::es) 0 es.length) 0 es.length).trans (CN (x::es) 0 es.length);rw[Au]at h;exact List.Perm.cons_inv ((List.perm_append_comm (l₁:=[x]) (l₂:=mZ x es)).trans h)
theorem VD {x:an}{es:List an}(h:vq (x::es)):vq (mZ x es):=by
 have ki:(x::es)[es.length]?=some ((x::es)[es.length]'(by simp)):=List.getElem?_eq_getElem (by simp)
 generalize(x::es)[es.length]'(by simp)=l at ki
 have Ta:fc (x::es) 0 es.length=eP (x::es) 0 es.length x l:=by
  unfold fc;rw[ki];rfl
 have hg:=Aw (es:=x::es) (i:=0) (j:=es.length) (a:=x) (b:=l) (by simp) (by simp)
 have hd:=Ax es.length 0 (es.length+1) (fc (x::es) 0 es.length) 0 (by omega) (by rw[iA];simp) (by rw[iA];simp) (by omega) (fun p hp hp0=>by
  intro j hj ir a b ha hb;rw[Ta,hg]at ha hb;rw[if_neg (by omega),if_neg (by omega)]at ha hb
  exact h p j hj (by simp;omega) a b ha hb) (fun p _ hp0=>by omega)
 intro p j hj ir a b ha hb;rw[oD]at ir;have e:=Au x es;have hl:=oD x es;refine hd p (by omega) j hj ir a b ?_ ?_
 ·rw[e,List.getElem?_append_left (by omega)];exact ha
 ·rw[e,List.getElem?_append_left (by omega)];exact hb
theorem JH {es:List an}(h:vq es){r:an}(hr:es[0]?=some r):∀(j:Nat) (b:an),es[j]?=some b→aV b r=false:=by
 intro j;induction j using Nat.strongRecOn with
 |_ j ih=>
  intro b hb;by_cases h0:j=0
  ·subst h0;rw[hr]at hb;cases hb;exact nK _
  ·have hj:=(List.getElem?_eq_some_iff.1 hb).1
   obtain⟨p,hp⟩:∃p,p=(j-1)/ 2:=⟨_,rfl⟩;have EY:es[p]?=some es[p]:=List.getElem?_eq_getElem (by omega)
   exact pQ (ih p (by omega) _ EY) (h p j (by omega) hj _ _ EY hb)
theorem CO:∀(k:Nat) (es:List an),k=es.length→vq es→(jO k es).Perm es∧(jO k es).Pairwise fun a b=>aV b a=false
 |0,es,hk,_=>by
  obtain rfl:=List.length_eq_zero_iff.1 hk.symm
  exact⟨.refl _,.nil⟩
 |k+1,[],hk,_=>by simp at hk
 |k+1,x::es,hk,h=>by
  obtain⟨h1,h2⟩:=CO k (mZ x es) (by rw[oD];simpa using hk) (VD h)
  have hp:=h1.trans (Ql x es);refine⟨hp.cons x,List.pairwise_cons.2 ⟨fun b hb=>?_,h2⟩⟩
  obtain⟨j,hj⟩:=List.getElem?_of_mem (hp.mem_iff.1 hb);exact JH h (r:=x) rfl (j+1) b (by simpa using hj)
theorem CP {es ys:List an}(hp:ys.Perm es)(hs:ys.Pairwise fun a b=>aV a b=true):rk es=ys:=by
 obtain⟨h1,h2⟩:=CO es.length (pO es) (pP es).symm (Tc es);have wG:(rk es).Perm ys:=(h1.trans (Mz es)).trans hp.symm
 have we:ys.Pairwise fun a b=>aV b a=false:=hs.imp fun h=>nJ h
 refine List.Perm.eq_of_pairwise (fun a b ha hb fB jD=>?_) h2 we wG
 have Fj:=wG.mem_iff.1 ha;have ht:∀(l:List an),l.Pairwise (fun a b=>aV a b=true)→∀a∈l,∀b∈l,a=b∨aV a b=true∨aV b a=true:=by
  intro l;induction l with
  |nil=>intro _ a ha;cases ha
  |cons x l ih=>
   intro h a ha b hb;rw[List.pairwise_cons]at h;rcases List.mem_cons.1 ha with e1|m1
   ·rcases List.mem_cons.1 hb with e2|m2
    ·exact .inl (e1.trans e2.symm)
    ·exact .inr (.inl (e1▸h.1 b m2))
   ·rcases List.mem_cons.1 hb with e2|m2
    ·exact .inr (.inr (e2▸h.1 a m1))
    ·exact ih h.2 a m1 b m2
 rcases ht ys hs a Fj b hb with h|h|h
 ·exact h
 ·rw[jD]at h;cases h
 ·rw[fB]at h;cases h
end Go.Proofs.YtjklkppncmhehaaGreat.T
namespace Go.Proofs.YtjklkppncmhehaaGreat.T
open Go Go.RowKit
structure gO where
 m:Int
 gs:List Int
 bG:List (Int×Int)
structure lP where
 k:Int
 m:Int
 g:Int
 t:Int
 s:Int
structure aL where
 aP:List (List Int)
 aU:List aq
 rounds:List gO
 bP:List Bool
 cb:List lP
def bj (r:gO):List RT:=[rI r.m,bg r.gs,S_ r.bG]
def dE (p:lP):List RT:=[rI p.k,rI p.m,rI p.g,rI p.t,rI p.s]
abbrev MA (xs:List (List Int)):RT:= .sl 1 (xs.map fun s=>[bg s])
abbrev MB (rs:List gO):RT:= .sl 3 (rs.map bj)
abbrev Te (bs:List Bool):RT:= .sl 1 (bs.map fun b=>[rB b])
abbrev V7 (ps:List lP):RT:= .sl 5 (ps.map dE)
def wT (w:aL):List RT:=[MA w.aP,bO w.aU,MB w.rounds,Te w.bP,V7 w.cb]
abbrev gW (w:aL):GV:= .a ((wT w).map .r)
def dF:List an→List an→List Int→List an×List an×List Int
 |[],d,told=>([],d,told)
 |e::es,d,told=>if e.f=true then dF es (d++[e]) (told++[e.m])else(e::es,d,told)
def dW (es:List an)(t s:Int):Nat:=(es.takeWhile fun e=>aK e.t e.g t s).length
def je (es:List an)(n:Nat)(t s:Int):Bool:=match es[n]? with
 |some e=>decide (e.t=t)&&decide (e.g=s)
 |none=>false
def ep (es:List an)(m t s:Int):List an:=es.take (dW es t s)++[⟨m,t,s,true⟩]++es.drop (dW es t s)
def aO (g:aq)(m t s:Int):aq×List Int×Bool:=match g.ao[(cO g.ao m).toNat]? with
 |some e=>if cO g.ao m<0∨e.f=true∨aK t s e.t e.g=true then(g,[],false)
  else if je (g.ao.eraseIdx (cO g.ao m).toNat) (dW (g.ao.eraseIdx (cO g.ao m).toNat) t s) t s=true then(g,[],false)
  else(⟨g.id,if g.clock<t then t else g.clock,(dF (ep (g.ao.eraseIdx (cO g.ao m).toNat) m t s) g.done []).1,(dF (ep (g.ao.eraseIdx (cO g.ao m).toNat) m t s) g.done []).2.1⟩,(dF (ep (g.ao.eraseIdx (cO g.ao m).toNat) m t s) g.done []).2.2,true)
 |none=>(g,[],false)
def vr (r:gO)(i:Nat):Bool:=match r.bG[i]? with
 |some s=>aS s.1 s.2&&gf r.gs s.2&&(decide (i=0)||(match r.bG[i-1]? with|some d=>decide (d.2<s.2)|none=>true))
 |none=>true
def rm (r:gO):Bool:=cm r.bG.length (vr r)&&bm r.m&&fy r.gs
def rn (r:gO)(g:Int):Bool:=r.bG.any fun s=>decide (s.2=g)
def ik (r:gO):List Int:=if rm r=true then r.gs.filter fun g=> !rn r g else[]
def s8 (bG:List (Int×Int))(g:Int):Nat:=(bG.takeWhile fun s=>decide (s.2<g)).length
def AA (bG:List (Int×Int))(n:Nat)(g:Int):Bool:=match bG[n]? with
 |some s=>decide (s.2=g)
 |none=>false
def oE (r:gO)(t s:Int):gO×Bool:=
 if gf r.gs s=false∨AA r.bG (s8 r.bG s) s=true then(r,false)
 else(⟨r.m,r.gs,r.bG.take (s8 r.bG s)++[(t,s)]++r.bG.drop (s8 r.bG s)⟩,true)
def rp:List (Int×Int)→Int×Int
 |[]=>(0,0)
 |x::xs=>gg x xs
def lF (r:gO):(Int×Int)×Bool:=if r.bG.length<r.gs.length then((0,0),false)else(rp r.bG,true)
def ff (gs:List aq)(m:Int):List Int→List (Int×Int)→(Int×Int)⊕ List (Int×Int)
 |[],acc=> .inr acc
 |g::set,acc=>if di (aB gs g.toNat) m&&(bo (aB gs g.toNat) m).f then .inl ((bo (aB gs g.toNat) m).t,(bo (aB gs g.toNat) m).g)
  else ff gs m set (if di (aB gs g.toNat) m then acc++[((bo (aB gs g.toNat) m).t,(bo (aB gs g.toNat) m).g)]else acc)
def aJ (gs:List aq)(set:List Int)(m:Int):(Int×Int)×Bool:=match ff gs m set []with
 | .inl s=>(s,true)
 | .inr l=>if l.length<set.length then((0,0),false)else(rp l,true)
def aF (gs:List aq)(m:Int)(set:List Int):List aq:=set.foldl (fun gs g=>gs.set g.toNat (au (aB gs g.toNat) m).1) gs
def bD (gs:List aq)(m:Int)(s:Int×Int)(set:List Int):List aq:=set.foldl (fun gs g=>gs.set g.toNat (aO (aB gs g.toNat) m s.1 s.2).1) gs
def c9 (gs:List aq)(m:Int)(set:List Int):Bool:=set.all fun g=>di (aB gs g.toNat) m&&(bo (aB gs g.toNat) m).f
def dK (gs:List aq)(set:List Int)(m:Int):List aq×Bool:=
 if(aJ (aF gs m set) set m).2=true then(bD (aF gs m set) m (aJ (aF gs m set) set m).1 set,c9 (bD (aF gs m set) m (aJ (aF gs m set) set m).1 set) m set)
 else(aF gs m set,false)
def setAt (w:aL)(m:Int):List Int:=w.aP.getD m.toNat []
def cW (w:aL)(m:Int):gO:=w.rounds.getD m.toNat ⟨0,[],[]⟩
def rV (w:aL)(m:Int):Bool:=w.bP.getD m.toNat false
def fQ (w:aL)(p:lP):aL:=if w.cb.length<16 then⟨w.aP,w.aU,w.rounds,w.bP,w.cb++[p]⟩else w
def k_ (w:aL)(m:Int)(gs:List Int):aL:=gs.foldl (fun w g=>fQ w ⟨1,m,g,0,0⟩) w
def rq (w:aL)(m:Int)(s:Int×Int)(gs:List Int):aL:=gs.foldl (fun w g=>fQ w ⟨3,m,g,s.1,s.2⟩) w
def rr (w:aL)(m:Int):aL:=if(lF (cW w m)).2=true then rq w m (lF (cW w m)).1 (setAt w m)else w
def pR (n:Int):Nat→Int→List Int
 |0,_=>[]
 |k+1,g=>if n.tmod 2=1 then g::pR (n.tdiv 2) k (g+1)else pR (n.tdiv 2) k (g+1)
def ky (n:Int):List Int:=pR n 5 0
def m_ (w:aL)(n:Int):aL:=if 1≤n∧n≤31∧w.aP.length<12 then k_ ⟨w.aP++[ky n],w.aU,w.rounds++[⟨w.aP.length,ky n,[]⟩],w.bP++[false],w.cb⟩ w.aP.length (ky n)else w
def wH (w:aL)(p:lP):aL:=
 if p.k=1 then
  if(au (aB w.aU p.g.toNat) p.m).2.2=true then fQ ⟨w.aP,w.aU.set p.g.toNat (au (aB w.aU p.g.toNat) p.m).1,w.rounds,w.bP,w.cb⟩ ⟨2,p.m,p.g,(au (aB w.aU p.g.toNat) p.m).2.1.1,(au (aB w.aU p.g.toNat) p.m).2.1.2⟩
  else⟨w.aP,w.aU.set p.g.toNat (au (aB w.aU p.g.toNat) p.m).1,w.rounds,w.bP,w.cb⟩
 else if p.k=2 then
  if rV w p.m=true then w
  else if(oE (cW w p.m) p.t p.s).2=true then rr ⟨w.aP,w.aU,w.rounds.set p.m.toNat (oE (cW w p.m) p.t p.s).1,w.bP,w.cb⟩ p.m
  else⟨w.aP,w.aU,w.rounds.set p.m.toNat (oE (cW w p.m) p.t p.s).1,w.bP,w.cb⟩
 else if p.k=3 then⟨w.aP,w.aU.set p.g.toNat (aO (aB w.aU p.g.toNat) p.m p.t p.s).1,w.rounds,w.bP,w.cb⟩
 else w
def JI (w:aL)(k a:Int):aL:=if a<0 then w else match w.cb[a.toNat]? with
 |none=>w
 |some p=>if k=4 then fQ w p else if k=2 then wH ⟨w.aP,w.aU,w.rounds,w.bP,w.cb.eraseIdx a.toNat⟩ p else⟨w.aP,w.aU,w.rounds,w.bP,w.cb.eraseIdx a.toNat⟩
def ru (w:aL)(k a:Int):aL:=if a<0∨(w.aP.length:Int)≤a then w
 else if k=5 then⟨w.aP,w.aU,w.rounds,w.bP.set a.toNat true,w.cb⟩
 else if k=6 then if rV w a=true then w else rr (k_ w a (ik (cW w a))) a
 else if k=7 then if(dK w.aU (setAt w a) a).2=true then⟨w.aP,(dK w.aU (setAt w a) a).1,w.rounds,w.bP,w.cb⟩else w
 else w
def MC (w:aL)(k a:Int):aL:=if k=1 then m_ w a else if k=2∨k=3∨k=4 then JI w k a else ru w k a
def fg (g:aq)(n:Nat):Prop:=g.ao.length+g.done.length≤n∧0≤g.clock
def Fl (s:List Int):Prop:=s≠[]∧s.length≤5∧∀g∈s,0≤g∧g<5
def xL (r:gO)(n:Nat):Prop:=r.gs≠[]∧r.gs.length≤n+5∧r.bG.length≤n
def wI (w:aL)(p:lP):Prop:=0≤p.m∧p.m<w.aP.length∧0≤p.g∧p.g<5
structure dy (n:Nat) (w:aL):Prop where
 g5:w.aU.length=5
 yk:∀g∈w.aU,fg g n
 Qm:w.aP.length≤12
 set:∀s∈w.aP,Fl s
 rl:w.rounds.length=w.aP.length
 MD:∀r∈w.rounds,xL r n
 sl:w.bP.length=w.aP.length
 nl:w.cb.length≤16
 cb:∀p∈w.cb,wI w p
theorem fg.mono {g:aq}{n n':Nat}(h:fg g n)(hn:n≤n'):fg g n':=⟨Nat.le_trans h.1 hn,h.2⟩
theorem xL.mono {r:gO}{n n':Nat}(h:xL r n)(hn:n≤n'):xL r n':=⟨h.1,by have:=h.2.1;omega,by have:=h.2.2;omega⟩
theorem dy.mono {w:aL}{n n':Nat}(h:dy n w)(hn:n≤n'):dy n' w:={h with yk:=fun g hg=>(h.yk g hg).mono hn,MD:=fun r hr=>(h.MD r hr).mono hn}
theorem CQ:∀(es d:List an) (told:List Int),(dF es d told).1.length+(dF es d told).2.1.length=es.length+d.length
 |[],d,told=>rfl
 |e::es,d,told=>by
  unfold dF;split
  ·rw[CQ es];simp;omega
  ·rfl
theorem na {g:aq}{n:Nat}(m:Int)(h:fg g n):fg (au g m).1 (n+1):=by
 have h1:fg g (n+1):=h.mono (by omega)
 unfold au;split
 ·split<;>exact h1
 ·split
  ·exact h1
  ·split
   ·exact h1
   ·exact⟨by have:=h.1;simp;omega,by have:=h.2;simp only;omega⟩
theorem vt {g:aq}{n:Nat}(m t s:Int)(h:fg g n):fg (aO g m t s).1 n:=by
 unfold aO;split
 ·rename_i e he
  split
  ·exact h
  ·split
   ·exact h
   ·refine⟨?_,by have:=h.2;simp only;split<;>omega⟩
    simp only
    rw[CQ];have ai:(cO g.ao m).toNat<g.ao.length:=(List.getElem?_eq_some_iff.1 he).1
    have h1:=List.length_eraseIdx_of_lt ai;have:=h.1
    simp only[ep,List.length_append,List.length_take,List.length_drop,List.length_singleton];omega
 ·exact h
theorem iQ {gs:List aq}{i:Nat}(h:i<gs.length):aB gs i∈gs:=by
 unfold aB;rw[List.getD_eq_getElem?_getD,List.getElem?_eq_getElem h];exact List.getElem_mem h
theorem mem_set {α:Type}{xs:List α}{i:Nat}{a x:α}(h:x∈xs.set i a):x=a∨x∈xs:=(List.mem_or_eq_of_mem_set h).symm
theorem dy.Fo {w:aL}{n:Nat}(h:dy n w)(i:Nat){g:aq}(hg:fg g n):dy n ⟨w.aP,w.aU.set i g,w.rounds,w.bP,w.cb⟩:=
 {h with
  g5:=by simpa using h.g5
  yk:=fun x hx=>by
   rcases mem_set hx with rfl|hx
   ·exact hg
   ·exact h.yk x hx
  cb:=h.cb}
theorem dy.post {w:aL}{n:Nat}(h:dy n w){p:lP}(hp:wI w p):dy n (fQ w p):=by
 unfold fQ;split
 ·refine {h with nl:=by simp;omega,cb:=fun x hx=>?_}
  rcases List.mem_append.1 hx with hx|hx
  ·exact h.cb x hx
  ·simp only[List.mem_singleton]at hx;subst hx;exact hp
 ·exact h
theorem xM (w:aL)(p:lP):(fQ w p).aP=w.aP:=by unfold fQ;split<;>rfl
theorem dy.AB {n:Nat}(f:Int→lP):∀(gs:List Int) (w:aL),dy n w→(∀g∈gs,wI w (f g))→dy n (gs.foldl (fun w g=>fQ w (f g)) w)
 |[],w,h,_=>h
 |g::gs,w,h,hp=>dy.AB f gs _ (h.post (hp g (List.mem_cons_self ..))) fun x hx=>by
  have:=hp x (List.mem_cons_of_mem _ hx)
  unfold wI at*;rw[xM];exact this
theorem nL (f:Int→lP):∀(gs:List Int) (w:aL),(gs.foldl (fun w g=>fQ w (f g)) w).aP=w.aP
 |[],w=>rfl
 |g::gs,w=>by rw[List.foldl_cons,nL f gs,xM]
theorem rW {w:aL}{n:Nat}(h:dy n w){m:Int}(h0:0≤m)(h1:m<w.aP.length):Fl (setAt w m):=by
 unfold setAt;rw[List.getD_eq_getElem?_getD,List.getElem?_eq_getElem (by omega)]
 exact h.set _ (List.getElem_mem _)
theorem mh {w:aL}{n:Nat}(h:dy n w){m:Int}(h0:0≤m)(h1:m<w.aP.length):xL (cW w m) n:=by
 unfold cW;rw[List.getD_eq_getElem?_getD,List.getElem?_eq_getElem (by rw[h.rl];omega)]
 exact h.MD _ (List.getElem_mem _)
theorem dy.tell {w:aL}{n:Nat}(h:dy n w){m:Int}(h0:0≤m)(h1:m<w.aP.length):dy n (rr w m):=by
 unfold rr;split
 ·refine dy.AB (fun g=>⟨3,m,g,(lF (cW w m)).1.1,(lF (cW w m)).1.2⟩) _ w h fun g hg=>?_
  have:=(rW h h0 h1).2.2 g hg
  exact⟨h0,h1,this.1,this.2⟩
 ·exact h
theorem ME {r:gO}{n:Nat}(t s:Int)(h:xL r n):xL (oE r t s).1 (n+1):=by
 unfold oE;split
 ·exact h.mono (by omega)
 ·refine⟨h.1,by have:=h.2.1;simp only;omega,?_⟩
  have:=h.2.2
  simp only[List.length_append,List.length_take,List.length_drop,List.length_singleton];omega
theorem dy.Fp {w:aL}{n:Nat}(h:dy n w)(i:Nat){r:gO}(hr:xL r n):dy n ⟨w.aP,w.aU,w.rounds.set i r,w.bP,w.cb⟩:=
 {h with
  rl:=by simpa using h.rl
  MD:=fun x hx=>by
   rcases mem_set hx with rfl|hx
   ·exact hr
   ·exact h.MD x hx
  cb:=h.cb}
theorem dy.erase {w:aL}{n:Nat}(h:dy n w)(i:Nat):dy n ⟨w.aP,w.aU,w.rounds,w.bP,w.cb.eraseIdx i⟩:=
 {h with
  nl:=Nat.le_trans (List.length_eraseIdx_le ..) h.nl
  cb:=fun p hp=>h.cb p (List.mem_of_mem_eraseIdx hp)}
theorem dy.hear {w:aL}{n:Nat}(h:dy n w){p:lP}(hp:wI w p):dy (n+1) (wH w p):=by
 obtain⟨h0,h1,h2,h3⟩:=hp;have h':=h.mono (n':=n+1) (by omega)
 have hg:fg (aB w.aU p.g.toNat) n:=h.yk _ (iQ (by rw[h.g5];omega))
 unfold wH;split
 ·split
  ·exact(h'.Fo _ (na _ hg)).post ⟨h0,h1,h2,h3⟩
  ·exact h'.Fo _ (na _ hg)
 ·split
  ·split
   ·exact h'
   ·split
    ·exact(h'.Fp _ (ME _ _ (mh h h0 h1))).tell h0 h1
    ·exact h'.Fp _ (ME _ _ (mh h h0 h1))
  ·split
   ·exact h'.Fo _ (vt _ _ _ (hg.mono (by omega)))
   ·exact h'
theorem dy.aai {w:aL}{n:Nat}(h:dy n w)(k a:Int):dy (n+1) (JI w k a):=by
 have h':=h.mono (n':=n+1) (by omega)
 unfold JI;split
 ·exact h'
 ·split
  ·exact h'
  ·rename_i p hp
   have hpm:=List.mem_of_getElem? hp;split
   ·exact h'.post (h.cb p hpm)
   ·split
    ·exact(h.erase _).hear (h.cb p hpm)
    ·exact h'.erase _
theorem CR:∀(k:Nat) (n g:Int),(pR n k g).length≤k∧∀x∈pR n k g,g≤x∧x<g+k
 |0,n,g=>⟨Nat.le_refl _,fun x hx=>by cases hx⟩
 |k+1,n,g=>by
  obtain⟨h1,h2⟩:=CR k (n.tdiv 2) (g+1);unfold pR;split
  ·refine⟨by simp;omega,fun x hx=>?_⟩
   rcases List.mem_cons.1 hx with rfl|hx
   ·omega
   ·have:=h2 x hx;omega
  ·exact⟨by omega,fun x hx=>by have:=h2 x hx;omega⟩
theorem Qn:∀k,k<31→(fy (ky (k+1:Nat))=true∧ky (k+1:Nat)≠[]):=by decide+kernel
theorem JK {n:Int}(h1:1≤n)(h2:n≤31):fy (ky n)=true∧Fl (ky n):=by
 obtain⟨k,rfl⟩:∃k:Nat,n=(k+1:Nat):=⟨(n-1).toNat,by omega⟩
 obtain⟨a,b⟩:=Qn k (by omega)
 obtain⟨c,d⟩:=CR 5 ((k+1:Nat):Int) 0;exact⟨a,b,c,fun g hg=>by have:=d g hg;omega⟩
theorem dy.send {w:aL}{n:Nat}(h:dy n w)(k:Int):dy n (m_ w k):=by
 unfold m_;split
 ·rename_i hk
  obtain⟨h1,h2,h3⟩:=hk;obtain⟨b1,b2⟩:=JK h1 h2;refine dy.AB (fun g=>⟨1,w.aP.length,g,0,0⟩) _ _ ⟨h.g5,h.yk,by simp;omega,fun s hs=>?_,by simp[h.rl],fun r hr=>?_,by simp[h.sl],h.nl,fun p hp=>?_⟩ fun g hg=>?_
  ·rcases List.mem_append.1 hs with hs|hs
   ·exact h.set s hs
   ·simp only[List.mem_singleton]at hs;subst hs;exact b2
  ·rcases List.mem_append.1 hr with hr|hr
   ·exact h.MD r hr
   ·simp only[List.mem_singleton]at hr;subst hr;exact⟨b2.1,by have:=b2.2.1;simp only;omega,Nat.zero_le _⟩
  ·obtain⟨a,b,c⟩:=h.cb p hp
   exact⟨a,by simp;omega,c⟩
  ·have:=b2.2.2 g hg
   exact⟨by simp only;omega,by simp;omega,this.1,this.2⟩
 ·exact h
theorem kz {n:Nat}(m:Int):∀(set:List Int) (gs:List aq) (j:Nat),(∀g∈set,0≤g∧g<5)→gs.length=5→(∀g∈gs,fg g j)→j+set.length≤n→(aF gs m set).length=5∧∀g∈aF gs m set,fg g n
 |[],gs,j,_,h5,hg,hn=>⟨h5,fun g h=>(hg g h).mono (by simpa using hn)⟩
 |x::set,gs,j,hs,h5,hg,hn=>by
  unfold aF;rw[List.foldl_cons];refine kz m set _ (j+1) (fun g h=>hs g (List.mem_cons_of_mem _ h)) (by simpa using h5) (fun g h=>?_) (by simp at hn;omega)
  rcases mem_set h with rfl|h
  ·have:=hs x (List.mem_cons_self ..)
   exact na m (hg _ (iQ (by omega)))
  ·exact(hg g h).mono (by omega)
theorem mi {n:Nat}(m:Int)(s:Int×Int):∀(set:List Int) (gs:List aq),(∀g∈set,0≤g∧g<5)→gs.length=5→(∀g∈gs,fg g n)→(bD gs m s set).length=5∧∀g∈bD gs m s set,fg g n
 |[],gs,_,h5,hg=>⟨h5,hg⟩
 |x::set,gs,hs,h5,hg=>by
  unfold bD;rw[List.foldl_cons];refine mi m s set _ (fun g h=>hs g (List.mem_cons_of_mem _ h)) (by simpa using h5) fun g h=>?_
  rcases mem_set h with rfl|h
  ·have:=hs x (List.mem_cons_self ..)
   exact vt m _ _ (hg _ (iQ (by omega)))
  ·exact hg g h
theorem NF {n:Nat}(m:Int)(set:List Int)(gs:List aq)(hs:Fl set)(h5:gs.length=5)(hg:∀g∈gs,fg g n):(dK gs set m).1.length=5∧∀g∈(dK gs set m).1,fg g (n+5):=by
 obtain⟨h1,h2⟩:=kz (n:=n+5) m set gs n hs.2.2 h5 hg (by have:=hs.2.1;omega)
 unfold dK;split
 ·exact mi m _ set _ hs.2.2 h1 h2
 ·exact⟨h1,h2⟩
theorem dy.VE {w:aL}{n:Nat}(h:dy n w)(k a:Int):dy (n+5) (ru w k a):=by
 have h':=h.mono (n':=n+5) (by omega)
 unfold ru;split
 ·exact h'
 ·rename_i ha
  have fS:0≤a:=by omega
  have oF:a<w.aP.length:=by omega
  split
  ·exact {h' with sl:=by simpa using h'.sl,cb:=h'.cb}
  ·split
   ·split
    ·exact h'
    ·have hr:=mh h fS oF
     have hm:∀g∈ik (cW w a),0≤g∧g<5:=by
      intro g hg;unfold ik at hg;split at hg
      ·rename_i hb
       have hg:=(List.mem_filter.1 hg).1;simp only[rm,Bool.and_eq_true]at hb;have hs:=hb.2;simp only[fy,Bool.and_eq_true,cm,List.all_eq_true,List.mem_range]at hs;obtain⟨i,hi,rfl⟩:=List.getElem_of_mem hg;have:=hs.1 i hi
       simp only[oA,Bool.and_eq_true,bF]at this;have:=this.1
       rw[List.getD_eq_getElem?_getD,List.getElem?_eq_getElem hi]at this;simpa using this
      ·cases hg
     have hA:dy (n+5) (k_ w a (ik (cW w a))):=dy.AB (fun g=>⟨1,a,g,0,0⟩) _ w h' fun g hg=>⟨fS,oF,(hm g hg).1,(hm g hg).2⟩
     refine hA.tell fS ?_;unfold k_;rw[nL];exact oF
   ·split
    ·split
     ·obtain⟨h1,h2⟩:=NF (n:=n) a (setAt w a) w.aU (rW h fS oF) h.g5 h.yk
      exact {h' with g5:=h1,yk:=h2,cb:=h'.cb}
     ·exact h'
    ·exact h'
theorem dy.event {w:aL}{n:Nat}(h:dy n w)(k a:Int):dy (n+5) (MC w k a):=by
 unfold MC;split
 ·exact(h.send a).mono (by omega)
 ·split
  ·exact(h.aai k a).mono (by omega)
  ·exact h.VE k a
end Go.Proofs.YtjklkppncmhehaaGreat.T
