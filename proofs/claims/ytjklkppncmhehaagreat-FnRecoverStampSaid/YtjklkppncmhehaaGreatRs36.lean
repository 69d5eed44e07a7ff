/-
What is proved: what the reference's events that send do to trees. No condition but the lengths and ranges that each states. what the reference's events do to trees. No condition but the lengths and ranges that each states. what the reference's events do to trees ('l51Do_T'). No condition but the shape of the world. what the reader of a code does to trees: it opens, and it picks a number. No condition but the lengths and ranges that each states. what the small draws do to trees: a stamp, an event, new groups and worlds. No condition but the ranges that each states. what the draws of an event and of a world do to trees. No condition but the ranges that each states.
-/
import Derived.Test.YtjklkppncmhehaaGreatRs35
import Derived.Test.YtjklkppncmhehaaGreatRs33
set_option linter.unusedVariables false
set_option linter.unusedSimpArgs false
namespace Go.Proofs.YtjklkppncmhehaaGreat.T
open Go Go.RowKit
set_option maxRecDepth 100000
set_option maxHeartbeats 4000000
variable {E:List PanicEntry→World→Prop}
abbrev PL (xs:List (List Int)):ak:= .rows 24 1 (xs.map fun s=>[bL s])
abbrev PM (rs:List fb):ak:= .rows 43 3 (rs.map aX)
abbrev PN (bs:List Bool):ak:= .rows 4 1 (bs.map fun b=>[rB b])
abbrev Sx (ps:List jU):ak:= .rows 117 5 (ps.map cU)
abbrev wO:GV:= .a [.own 0,.own 1,.own 2,.own 3,.own 4]
abbrev wS (w:aB):List (Nat×ak):=[(0,PL w.aH),(1,nB w.aO),(2,PM w.rounds),(3,PN w.bA),(4,Sx w.bP)]
abbrev gP (p:jU):GV:= .a ((cU p).map .r)
abbrev mF (w:aB):Prop:=cM 4294900000 w
theorem mF.sys {w:aB}(h:mF w):gw w.aO 4294967296:=⟨by have:=h.g5;omega,fun g hg=>by have:=(h.uQ g hg).1;exact⟨by omega,by omega⟩⟩
theorem ew (w:aB)(h:mF w):TC Tw.prog E 173 [gW w] 0 [] wO (wS w):=by
 have PO:=h.Mz;have MD:=h.rl;have kC:=h.sl;have uN:=h.nl;have hlen:w.aH.length≤maxLen:=by simp only[maxLen];omega
 refine tE Tw.func173 Tw.ntmps173 (by rw[Tryz.results173]) ?_
 (refine TW.go ?_;simp[wT,maxLen];repeat' first|intro hc|refine aa.mk ?_|refine aI ?_|refine ah ?_ ?_|(refine cF [] 1 ?_;refine⟨_,_,fF w.aO h.sys,?_⟩;simp[wT,maxLen]))
 refine tL (fun(k:Nat)=>⟨[(1,.s (.ptr 0 0)),(2,.s (.ptr 2 0)),(3,.s (.ptr 1 0)),(4,gI .i64 (k:Nat))],[(0,.box ((wT w).map .r)),(1,.box [.own 3,.own 4,.own 5,.own 6,.own 7]),(2,.box [.r .nil,.r .nil,.r .nil,.r .nil,.r .nil]),
   (3,PL (w.aH.take k)),(4,nB w.aO),(5,PM (w.rounds.take k)),(6,PN w.bA),(7,Sx w.bP)],8⟩) (fun k=>k≤w.aH.length) (fun k=>w.aH.length-k) 0 (by omega)
  (Wk.own [0,9,1,2,3,4,6,8] [] (by simp) (by simp) (by simp[wT]) (by simp) (by simp)) fun k hk=>?_
 by_cases aj:k<w.aH.length
 ·have he:w.aH[k]?=some w.aH[k]:=List.getElem?_eq_getElem aj
  have Sy:k<w.rounds.length:=by omega
  have tD:w.rounds[k]?=some w.rounds[k]:=List.getElem?_eq_getElem Sy
  have fg:=h.set _ (List.getElem_mem aj);have Fy:=h.Jb _ (List.getElem_mem Sy);have aw:(k:Int)<(w.aH.length:Int):=by omega
  have aF:=wrap_add aj hlen;have I0:k≤12:=by omega
  generalize w.aH[k]=S at he fg;generalize w.rounds[k]=r at tD Fy;obtain⟨-,Z8, -⟩:=fg;have hr:qU r 4294967296:=⟨by have:=Fy.2.1;omega,by have:=Fy.2.2;omega⟩
  have GY:(List.take k (w.aH.map fun s=>[bL s])).length≤12:=by simp;omega
  have htr:(List.take k (w.rounds.map aX)).length≤12:=by simp;omega
  (refine TW.go ?_;simp[aw,he,tD,wT,aX,aF,maxLen];repeat' first|intro hc|refine aa.mk ?_|refine aI ?_|refine ah ?_ ?_|(refine cF [] 2 ?_;refine⟨_,_,xA r hr,?_⟩;simp[aw,he,tD,wT,aX,aF,maxLen]))
  exact⟨k+1,by omega,by omega,Wk.own [0,1,2,11,4,15,6,7] [] (by simp) (by simp) (by simp[wT,kU he,kU tD,aX]) (by simp) (by simp)⟩
 ·obtain rfl:k=w.aH.length:=by omega
  (refine TW.go ?_;simp[wT];repeat' first|intro hc|refine aa.mk ?_|refine aI ?_|refine ah ?_ ?_)
  refine ar.own [3,4,5,6,7] [] (by simp;rfl) (by simp[←MD]) (by simp) (by simp) (by simp[←MD]) (by simp)
theorem nC (w:aB)(p:jU)(h:w.bP.length≤16):TC Tw.prog E 201 [gW w,gP p] 0 [] (gW (ef w p)) []:=by
 refine tE Tw.func201 Tw.ntmps201 (by rw[Tryz.results201]) ?_
 by_cases hl:w.bP.length<16
 ·have bz:(w.bP.length:Int)<16:=by omega
  rw[ef,if_pos hl];(refine TW.go ?_;simp[wT,cU,bz,maxLen];repeat' first|intro hc|refine aa.mk ?_|refine aI ?_|refine ah ?_ ?_)
  refine ar.own [] [6] (by simp;rfl) (by simp[wT,cU]) (by simp) (by simp) (by simp[wT,cU]) (by simp)
 ·have bz:¬(w.bP.length:Int)<16:=by omega
  rw[ef,if_neg hl];(refine TW.go ?_;simp[wT,cU,bz];repeat' first|intro hc|refine aa.mk ?_|refine aI ?_|refine ah ?_ ?_)
  refine ar.own [] [] (by simp;rfl) (by simp[wT]) (by simp) (by simp) (by simp[wT]) (by simp)
theorem qV (f:Int→jU):∀(gs:List Int) (w:aB),w.bP.length≤16→(gs.foldl (fun w g=>ef w (f g)) w).bP.length≤16
 |[],w,h=>h
 |g::gs,w,h=>qV f gs _ (by show(ef w (f g)).bP.length≤16;unfold ef;split;(simp;omega);exact h)
theorem zz (w:aB)(m:Int)(gs:List Int)(h:w.bP.length≤16):TC Tw.prog E 176 [gW w,gI .i64 m,gR (bL gs)] 0 [] (gW (jw w m gs)) []:=by
 refine tE Tw.func176 Tw.ntmps176 (by rw[Tryz.results176]) ?_
 refine TW.len 2 rfl fun hlen=>?_;simp only[List.length_map]at hlen;(refine TW.go ?_;simp;repeat' first|intro hc|refine aa.mk ?_|refine aI ?_|refine ah ?_ ?_)
 refine tL (fun(k:Nat)=>⟨[(1,gI .i64 m),(2,gR (bL gs)),(3,.s (.ptr 0 0)),(6,.s (.ptr 1 0)),(7,gI .i64 (k:Nat))],[(0,.box ((wT (jw w m (gs.take k))).map .r)),(1,.box [.r .nil,.r .nil,.r .nil,.r .nil,.r .nil])],2⟩) (fun k=>k≤gs.length) (fun k=>gs.length-k) 0 (by omega)
  (Wk.own [0,1] [] (by simp) (by simp) (by simp[wT,jw]) (by simp) (by simp)) fun k hk=>?_
 by_cases aj:k<gs.length
 ·have he:gs[k]?=some gs[k]:=List.getElem?_eq_getElem aj
  have aw:(k:Int)<(gs.length:Int):=by omega
  have aF:=wrap_add aj hlen;generalize gs[k]=x at he;have iH:jw w m (gs.take (k+1))=ef (jw w m (gs.take k)) ⟨1,m,x,0,0⟩:=fT _ _ he
  have hn:(jw w m (gs.take k)).bP.length≤16:=qV (fun g=>⟨1,m,g,0,0⟩) _ _ h
  generalize jw w m (gs.take k)=v at*;(refine TW.go ?_;simp[aw,he,wT,aF];repeat' first|intro hc|refine aa.mk ?_|refine aI ?_|refine ah ?_ ?_|(refine cP ?_;refine⟨_,nC v ⟨1,m,x,0,0⟩ hn,?_⟩;simp[aw,he,wT,aF]))
  exact⟨k+1,by omega,by omega,Wk.own [0,1] [] (by simp) (by simp) (by simp[iH,wT]) (by simp) (by simp)⟩
 ·obtain rfl:k=gs.length:=by omega
  rw[List.take_length];(refine TW.go ?_;simp[wT];repeat' first|intro hc|refine aa.mk ?_|refine aI ?_|refine ah ?_ ?_)
  refine ar.own [] [] (by simp;rfl) (by simp[wT]) (by simp) (by simp) (by simp[wT]) (by simp)
theorem xD {n:Nat}(w:aB)(m:Int)(h:cM n w)(h0:0≤m)(U:m<w.aH.length):TC Tw.prog E 203 [gW w,gI .i64 m] 0 [] (gW (oT w m)) []:=by
 have aaZ:=h.Mz;have MD:=h.rl;have hm:m.toNat<w.rounds.length:=by omega
 have tF:m.toNat<w.aH.length:=by omega
 have tD:w.rounds[m.toNat]?=some (cn w m):=by rw[cn,List.getD_eq_getElem?_getD,List.getElem?_eq_getElem hm];rfl
 have cE:w.aH[m.toNat]?=some (setAt w m):=by rw[setAt,List.getD_eq_getElem?_getD,List.getElem?_eq_getElem tF];rfl
 obtain⟨-,Z8, -⟩:=pt h h0 U;have Fy:=kt h h0 U;have hlen:(setAt w m).length≤maxLen:=by simp only[maxLen];omega
 rw[oT];generalize cn w m=r at*;refine tE Tw.func203 Tw.ntmps203 (by rw[Tryz.results203]) ?_
 cases hb:(jL r).2
 ·rw[if_neg (by simp)]
  (refine TW.go ?_;simp[h0,tD,wT,aX,hb];repeat' first|intro hc|refine aa.mk ?_|refine aI ?_|refine ah ?_ ?_|(refine cP ?_;refine⟨_,uA r Fy.1,?_⟩;simp[h0,tD,wT,aX,hb]))
  refine tL (fun(_:Unit)=>⟨[(1,gI .i64 m),(2,.s (.ptr 0 0)),(4,.s (.ptr 1 0)),(6,gB false),(7,gI .i64 0)],[(0,.box ((wT w).map .r)),(1,.box [.r .nil,.r .nil,.r .nil,.r .nil,.r .nil])],2⟩) (fun _=>True) (fun _=>0) () trivial
   (Wk.own [0,1] [] (by simp) (by simp) (by simp[wT]) (by simp) (by simp)) fun _ _=>?_
  (refine TW.go ?_;simp[h0,cE,wT];repeat' first|intro hc|refine aa.mk ?_|refine aI ?_|refine ah ?_ ?_)
  all_goals refine ar.own [] [] (by simp;rfl) (by simp[wT]) (by simp) (by simp) (by simp[wT]) (by simp)
 ·rw[if_pos rfl]
  generalize hs:(jL r).1=s;(refine TW.go ?_;simp[h0,tD,wT,aX,hb,hs];repeat' first|intro hc|refine aa.mk ?_|refine aI ?_|refine ah ?_ ?_|(refine cP ?_;refine⟨_,uA r Fy.1,?_⟩;simp[h0,tD,wT,aX,hb,hs]))
  generalize hS:setAt w m=S at*;refine tL (fun(k:Nat)=>⟨[(1,gI .i64 m),(2,.s (.ptr 0 0)),(4,.s (.ptr 1 0)),(5,.s (.ptr 2 0)),(6,gB true),(7,gI .i64 (k:Nat))],[(0,.box ((wT (oS w m s (S.take k))).map .r)),(1,.box [.r .nil,.r .nil,.r .nil,.r .nil,.r .nil]),(2,.box [.r (rI s.1),.r (rI s.2)])],3⟩) (fun k=>k≤S.length) (fun k=>S.length-k) 0 (by omega)
   (Wk.own [0,1,2] [] (by simp) (by simp) (by simp[wT,oS]) (by simp) (by simp)) fun k hk=>?_
  have GY:(oS w m s (S.take k)).aH=w.aH:=lN (fun g=>⟨3,m,g,s.1,s.2⟩) _ _
  by_cases aj:k<S.length
  ·have he:S[k]?=some S[k]:=List.getElem?_eq_getElem aj
   have aw:(k:Int)<(S.length:Int):=by omega
   have aF:=wrap_add aj hlen;generalize S[k]=x at he;have iH:oS w m s (S.take (k+1))=ef (oS w m s (S.take k)) ⟨3,m,x,s.1,s.2⟩:=fT _ _ he
   have hn:(oS w m s (S.take k)).bP.length≤16:=qV (fun g=>⟨3,m,g,s.1,s.2⟩) _ _ h.nl
   generalize oS w m s (S.take k)=v at*;rw[←GY]at cE;(refine TW.go ?_;simp[aw,h0,cE,he,wT,aF];repeat' first|intro hc|refine aa.mk ?_|refine aI ?_|refine ah ?_ ?_|(refine cP ?_;refine⟨_,nC v ⟨3,m,x,s.1,s.2⟩ hn,?_⟩;simp[aw,h0,cE,he,wT,aF]))
   exact⟨k+1,by omega,by omega,Wk.own [0,1,2] [] (by simp) (by simp) (by simp[iH,wT]) (by simp) (by simp)⟩
  ·obtain rfl:k=S.length:=by omega
   rw[List.take_length]at*;rw[←GY]at cE;(refine TW.go ?_;simp[h0,cE,wT];repeat' first|intro hc|refine aa.mk ?_|refine aI ?_|refine ah ?_ ?_)
   refine ar.own [] [] (by simp;rfl) (by simp[wT]) (by simp) (by simp) (by simp[wT]) (by simp)
theorem Jd (n:Int)(h0:0≤n)(U:n≤31):TC Tw.prog E 174 [gI .i64 n] 0 [] (gR (bL (iZ n))) []:=by
 refine tE Tw.func174 Tw.ntmps174 (by rw[Tryz.results174]) ?_
 (refine TW.go ?_;simp;repeat' first|intro hc|refine aa.mk ?_|refine aI ?_|refine ah ?_ ?_)
 refine tL (fun(p:Nat×Int×List Int)=>⟨[(0,gI .i64 p.2.1),(3,.s (.own 0)),(4,gI .i64 (p.1:Nat))],[(0,lf p.2.2)],1⟩) (fun p=>p.1≤5∧p.2.2.length≤p.1∧0≤p.2.1∧p.2.1≤31∧p.2.2++nz p.2.1 (5-p.1) (p.1:Nat)=iZ n) (fun p=>5-p.1) (0,n,[]) ⟨by simp,by simp,h0,U,rfl⟩
  (kO [0] []) fun p hp=>?_
 obtain⟨k,n',out⟩:=p;obtain⟨hk,hl,q0,q1,hq⟩:=hp;simp only at hk hl q0 q1 hq⊢
 by_cases aj:k<5
 ·have aw:(k:Int)<5:=by omega
  have aF:IntKind.i64.wrap ((k:Int)+1)=(k:Int)+1:=aL (by omega) (by omega)
  have ht:n'.tdiv 2=n' / 2:=Int.tdiv_eq_ediv_of_nonneg q0
  have rv:IntKind.i64.wrap (n'.tdiv 2)=n'.tdiv 2:=aL (by rw[ht];omega) (by rw[ht];omega)
  rw[show 5-k=(5-(k+1))+1 by omega,nz]at hq
  by_cases hb:n'.tmod 2=1
  ·rw[if_pos hb]at hq
   (refine TW.go ?_;simp[aw,aF,rv,hb,maxLen];repeat' first|intro hc|refine aa.mk ?_|refine aI ?_|refine ah ?_ ?_)
   exact⟨(k+1,n'.tdiv 2,out++[(k:Int)]),⟨by simp only;omega,by simp;omega,by simp only[ht];omega,by simp only[ht];omega,by simpa using hq⟩,by simp only;omega,kO [2] []⟩
  ·rw[if_neg hb]at hq
   (refine TW.go ?_;simp[aw,aF,rv,hb,maxLen];repeat' first|intro hc|refine aa.mk ?_|refine aI ?_|refine ah ?_ ?_)
   exact⟨(k+1,n'.tdiv 2,out),⟨by simp only;omega,by simp only;omega,by simp only[ht];omega,by simp only[ht];omega,by simpa using hq⟩,by simp only;omega,kO [0] []⟩
 ·obtain rfl:k=5:=by omega
  simp only[Nat.sub_self,nz,List.append_nil]at hq;subst hq;(refine TW.go ?_;simp;repeat' first|intro hc|refine aa.mk ?_|refine aI ?_|refine ah ?_ ?_)
  exact oW [] [0]
end Go.Proofs.YtjklkppncmhehaaGreat.T
namespace Go.Proofs.YtjklkppncmhehaaGreat.T
open Go Go.RowKit
set_option maxRecDepth 100000
set_option maxHeartbeats 4000000
variable {E:List PanicEntry→World→Prop}
theorem mF.Sz {w:aB}(h:mF w){m:Int}(h0:0≤m)(U:m<w.aH.length):qU (cn w m) 4294967290:=by
 have:=kt h h0 U
 exact⟨by have:=this.2.1;omega,by have:=this.2.2;omega⟩
theorem zA {w:aB}(h:mF w){m:Int}(h0:0≤m)(U:m<w.aH.length):w.rounds[m.toNat]?=some (cn w m):=by
 have:=h.rl
 rw[cn,List.getD_eq_getElem?_getD,List.getElem?_eq_getElem (by omega)]
 rfl
theorem MG {w:aB}{m:Int}(h0:0≤m)(U:m<w.aH.length):w.aH[m.toNat]?=some (setAt w m):=by
 rw[setAt,List.getD_eq_getElem?_getD,List.getElem?_eq_getElem (by omega)]
 rfl
theorem xE {w:aB}(h:mF w){m:Int}(h0:0≤m)(U:m<w.aH.length):w.bA[m.toNat]?=some (pr w m):=by
 have:=h.sl
 rw[pr,List.getD_eq_getElem?_getD,List.getElem?_eq_getElem (by omega)]
 rfl
theorem pL (r:fb)(h:qU r 4294967296):TC Tw.prog E 204 [.a ((aX r).map .r)] 0 [] (gR (bL (fI r))) []:=by
 obtain⟨RV,hl⟩:=h;have hlen:r.bm.length≤maxLen:=by simp only[maxLen];omega
 have UN:r.gs.length≤maxLen:=by simp only[maxLen];omega
 refine tE Tw.func204 Tw.ntmps204 (by rw[Tryz.results204]) ?_
 cases hv:oQ r
 ·rw[show fI r=[] by rw[fI,hv];rfl]
  (refine TW.go ?_;simp[aX,hv];repeat' first|intro hc|refine aa.mk ?_|refine aI ?_|refine ah ?_ ?_|(refine cP ?_;refine⟨_,lO r ⟨RV,hl⟩,?_⟩;simp[aX,hv]))
  exact oW [] [1]
 ·rw[show fI r=r.gs.filter fun g=> !oR r g by rw[fI,hv];rfl]
  (refine TW.go ?_;simp[aX,hv];repeat' first|intro hc|refine aa.mk ?_|refine aI ?_|refine ah ?_ ?_|(refine cP ?_;refine⟨_,lO r ⟨RV,hl⟩,?_⟩;simp[aX,hv]))
  refine tL (fun(k:Nat)=>⟨[(1,.s (.ptr 0 0)),(3,.s (.own 1)),(4,gI .i64 (k:Nat))],[(0,.box ((aX r).map .r)),(1,lf ((r.gs.take k).filter fun g=> !oR r g))],2⟩) (fun k=>k≤r.gs.length) (fun k=>r.gs.length-k) 0 (by omega)
   (Wk.own [0,1] [] (by simp) (by simp) (by simp[aX]) (by simp) (by simp)) fun k hk=>?_
  by_cases aj:k<r.gs.length
  ·have he:r.gs[k]?=some r.gs[k]:=List.getElem?_eq_getElem aj
   have aw:(k:Int)<(r.gs.length:Int):=by omega
   have aF:=wrap_add aj UN;generalize r.gs[k]=x at he;have hfl:((r.gs.take k).filter fun g=> !oR r g).length≤4294967296:=Nat.le_trans (List.length_filter_le _ _) (by simp;omega)
   have iH:(r.gs.take (k+1)).filter (fun g=> !oR r g)=(r.gs.take k).filter (fun g=> !oR r g)++if oR r x=true then[]else[x]:=by
    rw[List.take_add_one,he,List.filter_append]
    cases h:oR r x<;>simp[h]
   generalize(r.gs.take k).filter (fun g=> !oR r g)=out at*
   (refine TW.go ?_;simp[aw,aX];repeat' first|intro hc|refine aa.mk ?_|refine aI ?_|refine ah ?_ ?_)
   refine tL (fun(j:Nat)=>⟨[(1,.s (.ptr 0 0)),(3,.s (.own 1)),(4,gI .i64 (k:Nat)),(5,gB ((r.bm.take j).any fun s=>decide (s.2=x))),(6,gI .i64 (j:Nat))],[(0,.box ((aX r).map .r)),(1,lf out)],2⟩) (fun j=>j≤r.bm.length) (fun j=>r.bm.length-j) 0 (by omega)
    (Wk.own [0,1] [] (by simp) (by simp) (by simp[aX]) (by simp) (by simp)) fun j hj=>?_
   by_cases SA:j<r.bm.length
   ·have RX:r.bm[j]?=some r.bm[j]:=List.getElem?_eq_getElem SA
    have SB:(j:Int)<(r.bm.length:Int):=by omega
    have MC:=wrap_add SA hlen;generalize r.bm[j]=y at RX;have Xl:((r.bm.take (j+1)).any fun s=>decide (s.2=x))=((r.bm.take j).any (fun s=>decide (s.2=x))||decide (y.2=x)):=by
     rw[List.take_add_one,RX,List.any_append];simp
    generalize(r.bm.take j).any (fun s=>decide (s.2=x))=f at*
    cases f
    ·(refine TW.go ?_;simp[SB,aw,he,RX,MC,aX,iC];repeat' first|intro hc|refine aa.mk ?_|refine aI ?_|refine ah ?_ ?_)
     exact⟨j+1,by omega,by omega,Wk.own [0,1] [] (by simp) (by simp[Xl]) (by simp[aX]) (by simp) (by simp)⟩
    ·(refine TW.go ?_;simp[SB,aw,he,RX,MC,aX,iC];repeat' first|intro hc|refine aa.mk ?_|refine aI ?_|refine ah ?_ ?_)
     exact⟨j+1,by omega,by omega,Wk.own [0,1] [] (by simp) (by simp[Xl]) (by simp[aX]) (by simp) (by simp)⟩
   ·obtain rfl:j=r.bm.length:=by omega
    rw[List.take_length,show(r.bm.any fun s=>decide (s.2=x))=oR r x from rfl]
    cases ha:oR r x
    ·rw[ha]at iH
     (refine TW.go ?_;simp[aw,he,aF,aX,maxLen];repeat' first|intro hc|refine aa.mk ?_|refine aI ?_|refine ah ?_ ?_)
     exact⟨k+1,by omega,by omega,Wk.own [0,3] [] (by simp) (by simp) (by simp[aX,iH]) (by simp) (by simp)⟩
    ·rw[ha]at iH
     (refine TW.go ?_;simp[aw,he,aF,aX,maxLen];repeat' first|intro hc|refine aa.mk ?_|refine aI ?_|refine ah ?_ ?_)
     exact⟨k+1,by omega,by omega,Wk.own [0,1] [] (by simp) (by simp) (by simp[aX,iH]) (by simp) (by simp)⟩
  ·obtain rfl:k=r.gs.length:=by omega
   rw[List.take_length];(refine TW.go ?_;simp[aX];repeat' first|intro hc|refine aa.mk ?_|refine aI ?_|refine ah ?_ ?_)
   exact oW [] [1]
theorem xF (w:aB)(n:Int)(h:mF w):TC Tw.prog E 149 [gW w,gI .i64 n] 0 [] (gW (k_ w n)) []:=by
 have PO:=h.Mz;have MD:=h.rl;have kC:=h.sl;have uN:=h.nl;refine tE Tw.func149 Tw.ntmps149 (by rw[Tryz.results149]) ?_
 by_cases hn:1≤n∧n≤31
 ·by_cases hl:w.aH.length<12
  ·have bz:¬12≤(w.aH.length:Int):=by omega
   obtain⟨b1,b2⟩:=Gw hn.1 hn.2;have tF:bC (w.aH.length:Int)=true:=by simp[bC];omega
   have hB:=Jd (E:=E) n (by omega) hn.2
   have hA:=zz (E:=E) ⟨w.aH++[iZ n],w.aO,w.rounds++[⟨w.aH.length,iZ n,[]⟩],w.bA++[false],w.bP⟩ w.aH.length (iZ n) uN;rw[k_,if_pos ⟨hn.1,hn.2,hl⟩];generalize iZ n=S at*;generalize jw ⟨w.aH++[S],w.aO,w.rounds++[⟨w.aH.length,S,[]⟩],w.bA++[false],w.bP⟩ w.aH.length S=v at*;simp[gW,wT,I9,I_,PC,aX]at hA;have hR:=uR (E:=E) (w.aH.length:Int) S tF b1 (by have:=b2.2.1;omega)
   (refine TW.go ?_;simp[wT,hn,bz,tF,maxLen];repeat' first|intro hc|refine aa.mk ?_|refine aI ?_|refine ah ?_ ?_|(refine cP ?_;(first|refine⟨_,dh _ _ _,?_⟩|refine⟨_,hB,?_⟩);simp[wT,hn,bz,tF,maxLen])|(refine cF [] 5 ?_;refine⟨_,_,ew w h,?_⟩;simp[wT,hn,bz,tF,maxLen])|(refine cF [] 2 ?_;refine⟨_,_,hR,?_⟩;simp[wT,hn,bz,tF,maxLen])|(refine cF [11,3,13,15,6] 0 ?_;refine⟨_,_,hA,?_⟩;simp[wT,hn,bz,tF,maxLen]))
   refine ar.own [] [] (by simp;rfl) (by simp[wT]) (by simp) (by simp) (by simp[wT]) (by simp)
  ·have bz:12≤(w.aH.length:Int):=by omega
   rw[k_,if_neg (by omega)]
   (refine TW.go ?_;simp[wT,hn,bz];repeat' first|intro hc|refine aa.mk ?_|refine aI ?_|refine ah ?_ ?_|(refine cP ?_;refine⟨_,dh _ _ _,?_⟩;simp[wT,hn,bz]))
   refine ar.own [] [] (by simp;rfl) (by simp[wT]) (by simp) (by simp) (by simp[wT]) (by simp)
 ·rw[k_,if_neg (by omega)]
  (refine TW.go ?_;simp[wT,hn];repeat' first|intro hc|refine aa.mk ?_|refine aI ?_|refine ah ?_ ?_|(refine cP ?_;refine⟨_,dh _ _ _,?_⟩;simp[wT,hn]))
  refine ar.own [] [] (by simp;rfl) (by simp[wT]) (by simp) (by simp) (by simp[wT]) (by simp)
end Go.Proofs.YtjklkppncmhehaaGreat.T
namespace Go.Proofs.YtjklkppncmhehaaGreat.T
open Go Go.RowKit
set_option maxRecDepth 100000
set_option maxHeartbeats 4000000
variable {E:List PanicEntry→World→Prop}
theorem Je (w:aB)(p:jU)(h:mF w)(hp:tB w p):TC Tw.prog E 202 [gW w,gP p] 0 [] (gW (tA w p)) []:=by
 obtain⟨h0,U,h2,h3⟩:=hp;have hg5:=h.g5;have MD:=h.rl;have kC:=h.sl;have hG:=fU (gs:=w.aO) (i:=p.g.toNat) (by omega)
 have RY:=h.uQ _ (List.mem_of_getElem? hG);have hR:=zA h h0 U;have hS:=xE h h0 U;have PQ:=h.Sz h0 U;refine tE Tw.func202 Tw.ntmps202 (by rw[Tryz.results202]) ?_
 unfold tA;by_cases k1:p.k=1
 ·rw[if_pos k1]
  generalize aG w.aO p.g.toNat=G at*;have RZ:fE G 4294967290:=by have:=RY.1;exact⟨by omega,by omega⟩
  cases hb:(aM G p.m).2.2
  ·rw[if_neg (by simp)]
   (refine TW.go ?_;simp[wT,cU,ai,k1,h2,hG,hb];repeat' first|intro hc|refine aa.mk ?_|refine aI ?_|refine ah ?_ ?_|(refine cF [] 5 ?_;refine⟨_,_,ew w h,?_⟩;simp[wT,cU,ai,k1,h2,hG,hb])|(refine cF [] 2 ?_;refine⟨_,_,jh G p.m RZ RY.2,?_⟩;simp[wT,cU,ai,k1,h2,hG,hb]))
   refine ar.own [] [3,4,5,6,7] (by simp;rfl) (by simp[wT,ai]) (by simp) (by simp) (by simp[wT,ai]) (by simp)
  ·rw[if_pos rfl]
   have hP:=nC (E:=E) ⟨w.aH,w.aO.set p.g.toNat (aM G p.m).1,w.rounds,w.bA,w.bP⟩ ⟨2,p.m,p.g,(aM G p.m).2.1.1,(aM G p.m).2.1.2⟩ h.nl;generalize ef ⟨w.aH,w.aO.set p.g.toNat (aM G p.m).1,w.rounds,w.bA,w.bP⟩ ⟨2,p.m,p.g,(aM G p.m).2.1.1,(aM G p.m).2.1.2⟩=v at*;simp[gW,wT,dD,ai]at hP;(refine TW.go ?_;simp[wT,cU,ai,k1,h2,hG,hb];repeat' first|intro hc|refine aa.mk ?_|refine aI ?_|refine ah ?_ ?_|(refine cF [] 5 ?_;refine⟨_,_,ew w h,?_⟩;simp[wT,cU,ai,k1,h2,hG,hb])|(refine cF [] 2 ?_;refine⟨_,_,jh G p.m RZ RY.2,?_⟩;simp[wT,cU,ai,k1,h2,hG,hb])|(refine cF [3,4,5,6,7] 0 ?_;refine⟨_,_,hP,?_⟩;simp[wT,cU,ai,k1,h2,hG,hb]))
   refine ar.own [] [] (by simp;rfl) (by simp[wT]) (by simp) (by simp) (by simp[wT]) (by simp)
 ·rw[if_neg k1]
  by_cases k2:p.k=2
  ·rw[if_pos k2]
   cases bj:pr w p.m
   ·rw[if_neg (by simp)]
    generalize Z9:cn w p.m=r at*
    cases hb:(mC r p.t p.s).2
    ·rw[if_neg (by simp)]
     (refine TW.go ?_;simp[wT,cU,aX,k2,h0,hS,bj,hR,hb];repeat' first|intro hc|refine aa.mk ?_|refine aI ?_|refine ah ?_ ?_|(refine cF [] 5 ?_;refine⟨_,_,ew w h,?_⟩;simp[wT,cU,aX,k2,h0,hS,bj,hR,hb])|(refine cF [] 2 ?_;refine⟨_,_,zy r p.t p.s PQ,?_⟩;simp[wT,cU,aX,k2,h0,hS,bj,hR,hb]))
     refine ar.own [] [3,4,5,6,7] (by simp;rfl) (by simp[wT,aX]) (by simp) (by simp) (by simp[wT,aX]) (by simp)
    ·rw[if_pos rfl]
     have Ki:=kt h h0 U;rw[Z9]at Ki;have hT:=xD (E:=E) ⟨w.aH,w.aO,w.rounds.set p.m.toNat (mC r p.t p.s).1,w.bA,w.bP⟩ p.m ((h.mono (Nat.le_succ _)).B7 p.m.toNat (Jc p.t p.s Ki)) h0 U;generalize oT ⟨w.aH,w.aO,w.rounds.set p.m.toNat (mC r p.t p.s).1,w.bA,w.bP⟩ p.m=v at*;simp[gW,wT,I_,aX]at hT;(refine TW.go ?_;simp[wT,cU,aX,k2,h0,hS,bj,hR,hb];repeat' first|intro hc|refine aa.mk ?_|refine aI ?_|refine ah ?_ ?_|(refine cF [] 5 ?_;refine⟨_,_,ew w h,?_⟩;simp[wT,cU,aX,k2,h0,hS,bj,hR,hb])|(refine cF [] 2 ?_;refine⟨_,_,zy r p.t p.s PQ,?_⟩;simp[wT,cU,aX,k2,h0,hS,bj,hR,hb])|(refine cF [3,4,5,6,7] 0 ?_;refine⟨_,_,hT,?_⟩;simp[wT,cU,aX,k2,h0,hS,bj,hR,hb]))
     refine ar.own [] [] (by simp;rfl) (by simp[wT]) (by simp) (by simp) (by simp[wT]) (by simp)
   ·rw[if_pos rfl]
    (refine TW.go ?_;simp[wT,cU,k2,h0,hS,bj];repeat' first|intro hc|refine aa.mk ?_|refine aI ?_|refine ah ?_ ?_|(refine cF [] 5 ?_;refine⟨_,_,ew w h,?_⟩;simp[wT,cU,k2,h0,hS,bj]))
    refine ar.own [] [3,4,5,6,7] (by simp;rfl) (by simp[wT]) (by simp) (by simp) (by simp[wT]) (by simp)
  ·rw[if_neg k2]
   by_cases k3:p.k=3
   ·rw[if_pos k3]
    generalize aG w.aO p.g.toNat=G at*;have RZ:=RY.mono (n':=4294967290) (by omega)
    (refine TW.go ?_;simp[wT,cU,ai,k3,h2,hG];repeat' first|intro hc|refine aa.mk ?_|refine aI ?_|refine ah ?_ ?_|(refine cF [] 5 ?_;refine⟨_,_,ew w h,?_⟩;simp[wT,cU,ai,k3,h2,hG])|(refine cF [] 3 ?_;refine⟨_,_,oX G p.m p.t p.s RZ,?_⟩;simp[wT,cU,ai,k3,h2,hG]))
    refine ar.own [] [3,4,5,6,7] (by simp;rfl) (by simp[wT,ai]) (by simp) (by simp) (by simp[wT,ai]) (by simp)
   ·rw[if_neg k3]
    (refine TW.go ?_;simp[wT,cU,k1,k2,k3];repeat' first|intro hc|refine aa.mk ?_|refine aI ?_|refine ah ?_ ?_|(refine cF [] 5 ?_;refine⟨_,_,ew w h,?_⟩;simp[wT,cU,k1,k2,k3]))
    refine ar.own [] [3,4,5,6,7] (by simp;rfl) (by simp[wT]) (by simp) (by simp) (by simp[wT]) (by simp)
abbrev gE (k a:Int):GV:= .a [.r (rI k),.r (rI a)]
theorem tG (w:aB)(k a:Int)(h:mF w):TC Tw.prog E 177 [gW w,gE k a] 0 [] (gW (Gv w k a)) []:=by
 have uN:=h.nl;have hw:IntKind.i64.wrap ((w.bP.length:Int)-1)=(w.bP.length:Int)-1:=aL (by omega) (by omega)
 refine tE Tw.func177 Tw.ntmps177 (by rw[Tryz.results177]) ?_
 unfold Gv;by_cases ha:a<0
 ·rw[if_pos ha]
  have Xm:¬0≤a:=by omega
  (refine TW.go ?_;simp[wT,hw,Xm];repeat' first|intro hc|refine aa.mk ?_|refine aI ?_|refine ah ?_ ?_|(refine cP ?_;refine⟨_,dh _ _ _,?_⟩;simp[wT,hw,Xm]))
  refine ar.own [] [] (by simp;rfl) (by simp[wT]) (by simp) (by simp) (by simp[wT]) (by simp)
 ·rw[if_neg ha]
  have ep:0≤a:=by omega
  rcases hn:w.bP[a.toNat]? with _|p
  ·have vR:=List.getElem?_eq_none_iff.1 hn
   have c7:¬a≤(w.bP.length:Int)-1:=by omega
   have PR:¬a<(w.bP.length:Int):=by omega
   (refine TW.go ?_;simp[wT,hw,ep,c7,PR];repeat' first|intro hc|refine aa.mk ?_|refine aI ?_|refine ah ?_ ?_|(refine cP ?_;refine⟨_,dh _ _ _,?_⟩;simp[wT,hw,ep,c7,PR]))
   refine ar.own [] [] (by simp;rfl) (by simp[wT]) (by simp) (by simp) (by simp[wT]) (by simp)
  ·have aj:=(List.getElem?_eq_some_iff.1 hn).1
   have c7:a≤(w.bP.length:Int)-1:=by omega
   have PR:a<(w.bP.length:Int):=by omega
   have Z_:=h.bP p (List.mem_of_getElem? hn);simp only
   by_cases k4:k=4
   ·rw[if_pos k4]
    (refine TW.go ?_;simp[wT,cU,hw,ep,c7,hn,k4];repeat' first|intro hc|refine aa.mk ?_|refine aI ?_|refine ah ?_ ?_|(refine cP ?_;(first|refine⟨_,dh _ _ _,?_⟩|refine⟨_,nC w p uN,?_⟩);simp[wT,cU,hw,ep,c7,hn,k4]))
    refine ar.own [] [] (by simp;rfl) (by simp[wT]) (by simp) (by simp) (by simp[wT]) (by simp)
   ·rw[if_neg k4]
    have PS:IntKind.i64.wrap (a+1)=a+1:=aL (by omega) (by omega)
    have PT:(a+1).toNat=a.toNat+1:=by omega
    have mE:0≤a+1:=by omega
    have tD:=List.eraseIdx_eq_take_drop_succ w.bP a.toNat;have hH:=Je (E:=E) ⟨w.aH,w.aO,w.rounds,w.bA,w.bP.eraseIdx a.toNat⟩ p (h.erase _) Z_;by_cases k2:k=2
    ·rw[if_pos k2]
     generalize tA ⟨w.aH,w.aO,w.rounds,w.bA,w.bP.eraseIdx a.toNat⟩ p=v at*;simp[gW,wT,Ss,tD]at hH;(refine TW.go ?_;simp[wT,cU,hw,ep,mE,c7,hn,k2,PS,PT,maxLen];repeat' first|intro hc|refine aa.mk ?_|refine aI ?_|refine ah ?_ ?_|(refine cP ?_;refine⟨_,dh _ _ _,?_⟩;simp[wT,cU,hw,ep,mE,c7,hn,k2,PS,PT,maxLen])|(refine cF [6] 0 ?_;refine⟨_,_,hH,?_⟩;simp[wT,cU,hw,ep,mE,c7,hn,k2,PS,PT,maxLen]))
     refine ar.own [] [] (by simp;rfl) (by simp[wT]) (by simp) (by simp) (by simp[wT]) (by simp)
    ·rw[if_neg k2]
     (refine TW.go ?_;simp[wT,cU,hw,ep,mE,c7,hn,k4,k2,PS,PT,maxLen];repeat' first|intro hc|refine aa.mk ?_|refine aI ?_|refine ah ?_ ?_|(refine cP ?_;refine⟨_,dh _ _ _,?_⟩;simp[wT,cU,hw,ep,mE,c7,hn,k4,k2,PS,PT,maxLen]))
     refine ar.own [] [6] (by simp;rfl) (by simp[wT,tD]) (by simp) (by simp) (by simp[wT,tD]) (by simp)
theorem PU {w:aB}{n:Nat}(h:cM n w){a:Int}(ep:0≤a)(mE:a<w.aH.length):cM n (jw w a (fI (cn w a)))∧(jw w a (fI (cn w a))).aH=w.aH:=by
 refine⟨cM.xz (fun g=>⟨1,a,g,0,0⟩) _ w h fun g hg=>?_,lN _ _ _⟩
 unfold fI at hg;split at hg
 ·rename_i hb
  have hg:=(List.mem_filter.1 hg).1;simp only[oQ,Bool.and_eq_true]at hb;have hs:=hb.2;simp only[fD,Bool.and_eq_true,bX,List.all_eq_true,List.mem_range]at hs;obtain⟨i,hi,rfl⟩:=List.getElem_of_mem hg;have:=hs.1 i hi
  simp only[nP,Bool.and_eq_true,bw]at this;have:=this.1
  rw[List.getD_eq_getElem?_getD,List.getElem?_eq_getElem hi]at this;have:0≤(cn w a).gs[i]∧(cn w a).gs[i]<5:=by simpa using this
  exact⟨ep,mE,this.1,this.2⟩
 ·cases hg
theorem B_ (w:aB)(k a:Int)(h:mF w):TC Tw.prog E 178 [gW w,gE k a] 0 [] (gW (oU w k a)) []:=by
 have PO:=h.Mz;have kC:=h.sl;have hw:IntKind.i64.wrap ((w.aH.length:Int)-1)=(w.aH.length:Int)-1:=aL (by omega) (by omega)
 refine tE Tw.func178 Tw.ntmps178 (by rw[Tryz.results178]) ?_
 unfold oU;by_cases ha:a<0∨(w.aH.length:Int)≤a
 ·rw[if_pos ha]
  have c7:¬(0≤a∧a≤(w.aH.length:Int)-1):=by omega
  (refine TW.go ?_;simp[wT,hw,c7];repeat' first|intro hc|refine aa.mk ?_|refine aI ?_|refine ah ?_ ?_|(refine cP ?_;refine⟨_,dh _ _ _,?_⟩;simp[wT,hw,c7]))
  refine ar.own [] [] (by simp;rfl) (by simp[wT]) (by simp) (by simp) (by simp[wT]) (by simp)
 ·rw[if_neg ha]
  have ep:0≤a:=by omega
  have mE:a<w.aH.length:=by omega
  have c7:a≤(w.aH.length:Int)-1:=by omega
  have hR:=zA h ep mE;have hS:=xE h ep mE;have MH:=MG ep mE;by_cases k5:k=5
  ·rw[if_pos k5]
   (refine TW.go ?_;simp[wT,hw,ep,c7,k5,hS];repeat' first|intro hc|refine aa.mk ?_|refine aI ?_|refine ah ?_ ?_|(refine cP ?_;refine⟨_,dh _ _ _,?_⟩;simp[wT,hw,ep,c7,k5,hS])|(refine cF [] 5 ?_;refine⟨_,_,ew w h,?_⟩;simp[wT,hw,ep,c7,k5,hS]))
   refine ar.own [] [3,4,5,6,7] (by simp;rfl) (by simp[wT]) (by simp) (by simp) (by simp[wT]) (by simp)
  ·rw[if_neg k5]
   by_cases k6:k=6
   ·rw[if_pos k6]
    cases bj:pr w a
    ·rw[if_neg (by simp)]
     have PQ:=h.Sz ep mE;have hM:=pL (E:=E) (cn w a) ⟨by have:=PQ.1;omega,by have:=PQ.2;omega⟩
     have hA:=zz (E:=E) w a (fI (cn w a)) h.nl;obtain⟨HX,Ex⟩:=PU h ep mE;have hT:=xD (E:=E) (jw w a (fI (cn w a))) a HX ep (by rw[Ex];exact mE)
     generalize oT (jw w a (fI (cn w a))) a=v at*;generalize jw w a (fI (cn w a))=u at*;generalize fI (cn w a)=ms at*;generalize cn w a=r at*;(refine TW.go ?_;simp[wT,aX,hw,ep,c7,k5,k6,hS,bj,hR];repeat' first|intro hc|refine aa.mk ?_|refine aI ?_|refine ah ?_ ?_|(refine cP ?_;(first|refine⟨_,dh _ _ _,?_⟩|refine⟨_,hM,?_⟩|refine⟨_,hA,?_⟩|refine⟨_,hT,?_⟩);simp[wT,aX,hw,ep,c7,k5,k6,hS,bj,hR]))
     refine ar.own [] [] (by simp;rfl) (by simp[wT]) (by simp) (by simp) (by simp[wT]) (by simp)
    ·rw[if_pos rfl]
     (refine TW.go ?_;simp[wT,hw,ep,c7,k5,k6,hS,bj];repeat' first|intro hc|refine aa.mk ?_|refine aI ?_|refine ah ?_ ?_|(refine cP ?_;refine⟨_,dh _ _ _,?_⟩;simp[wT,hw,ep,c7,k5,k6,hS,bj]))
     refine ar.own [] [] (by simp;rfl) (by simp[wT]) (by simp) (by simp) (by simp[wT]) (by simp)
   ·rw[if_neg k6]
    by_cases k7:k=7
    ·rw[if_pos k7]
     have fg:=pt h ep mE;have hL:=MF (E:=E) w.aO (setAt w a) a h.g5 (fun g hg=>(h.uQ g hg).mono (by omega)) fg.2.2 fg.1 fg.2.1
     generalize sE w.aO (setAt w a) a=A at*;generalize setAt w a=S at*
     cases hb:A.2
     ·rw[if_neg (by simp)]
      (refine TW.go ?_;simp[wT,hw,ep,c7,k5,k6,k7,MH,hb];repeat' first|intro hc|refine aa.mk ?_|refine aI ?_|refine ah ?_ ?_|(refine cP ?_;refine⟨_,dh _ _ _,?_⟩;simp[wT,hw,ep,c7,k5,k6,k7,MH,hb])|(refine cF [] 1 ?_;refine⟨_,_,hL,?_⟩;simp[wT,hw,ep,c7,k5,k6,k7,MH,hb]))
      refine ar.own [] [] (by simp;rfl) (by simp[wT]) (by simp) (by simp) (by simp[wT]) (by simp)
     ·rw[if_pos rfl]
      (refine TW.go ?_;simp[wT,hw,ep,c7,k5,k6,k7,MH,hb];repeat' first|intro hc|refine aa.mk ?_|refine aI ?_|refine ah ?_ ?_|(refine cP ?_;refine⟨_,dh _ _ _,?_⟩;simp[wT,hw,ep,c7,k5,k6,k7,MH,hb])|(refine cF [] 1 ?_;refine⟨_,_,hL,?_⟩;simp[wT,hw,ep,c7,k5,k6,k7,MH,hb]))
      refine ar.own [] [3] (by simp;rfl) (by simp[wT]) (by simp) (by simp) (by simp[wT]) (by simp)
    ·rw[if_neg k7]
     (refine TW.go ?_;simp[wT,hw,ep,c7,k5,k6,k7];repeat' first|intro hc|refine aa.mk ?_|refine aI ?_|refine ah ?_ ?_|(refine cP ?_;refine⟨_,dh _ _ _,?_⟩;simp[wT,hw,ep,c7,k5,k6,k7]))
     refine ar.own [] [] (by simp;rfl) (by simp[wT]) (by simp) (by simp) (by simp[wT]) (by simp)
theorem PV (w:aB)(k a:Int)(h:mF w):TC Tw.prog E 151 [gW w,gE k a] 0 [] (gW (I' w k a)) []:=by
 refine tE Tw.func151 Tw.ntmps151 (by rw[Tryz.results151]) ?_
 unfold I';by_cases k1:k=1
 ·rw[if_pos k1]
  (refine TW.go ?_;simp[wT,k1];repeat' first|intro hc|refine aa.mk ?_|refine aI ?_|refine ah ?_ ?_|(refine cP ?_;refine⟨_,xF w a h,?_⟩;simp[wT,k1]))
  refine ar.own [] [] (by simp;rfl) (by simp[wT]) (by simp) (by simp) (by simp[wT]) (by simp)
 ·rw[if_neg k1]
  by_cases k2:k=2
  ·rw[if_pos (.inl k2)]
   (refine TW.go ?_;simp[wT,k2];repeat' first|intro hc|refine aa.mk ?_|refine aI ?_|refine ah ?_ ?_|(refine cP ?_;refine⟨_,tG w 2 a h,?_⟩;simp[wT,k2]))
   refine ar.own [] [] (by simp;rfl) (by simp[wT,k2]) (by simp) (by simp) (by simp[wT,k2]) (by simp)
  ·by_cases k3:k=3
   ·rw[if_pos (.inr (.inl k3))]
    (refine TW.go ?_;simp[wT,k3];repeat' first|intro hc|refine aa.mk ?_|refine aI ?_|refine ah ?_ ?_|(refine cP ?_;refine⟨_,tG w 3 a h,?_⟩;simp[wT,k3]))
    refine ar.own [] [] (by simp;rfl) (by simp[wT,k3]) (by simp) (by simp) (by simp[wT,k3]) (by simp)
   ·by_cases k4:k=4
    ·rw[if_pos (.inr (.inr k4))]
     (refine TW.go ?_;simp[wT,k4];repeat' first|intro hc|refine aa.mk ?_|refine aI ?_|refine ah ?_ ?_|(refine cP ?_;refine⟨_,tG w 4 a h,?_⟩;simp[wT,k4]))
     refine ar.own [] [] (by simp;rfl) (by simp[wT,k4]) (by simp) (by simp) (by simp[wT,k4]) (by simp)
    ·rw[if_neg (by omega)]
     (refine TW.go ?_;simp[wT,k1,k2,k3,k4];repeat' first|intro hc|refine aa.mk ?_|refine aI ?_|refine ah ?_ ?_|(refine cP ?_;refine⟨_,B_ w k a h,?_⟩;simp[wT,k1,k2,k3,k4]))
     refine ar.own [] [] (by simp;rfl) (by simp[wT]) (by simp) (by simp) (by simp[wT]) (by simp)
end Go.Proofs.YtjklkppncmhehaaGreat.T
namespace Go.Proofs.YtjklkppncmhehaaGreat.T
open Go Go.RowKit
set_option maxRecDepth 100000
set_option maxHeartbeats 4000000
variable {E:List PanicEntry→World→Prop}
abbrev pw (bs:List Int):RT:= .sl 1 (bs.map fun b=>[.v (.int .u8 b)])
abbrev Z' (bs:List Int) (p:Int):List TV:=[.r (pw bs),.r (rI p)]
abbrev mG (bs:List Int) (p:Int):ak:= .box (Z' bs p)
abbrev uS:GV:= .s (.ptr 0 0)
structure mH (bs:List Int):Prop where
 byte:∀b∈bs,0≤b∧b≤255
 len:bs.length≤2000
def gf (bs:List Int)(k:Int):Int:=bs.getD k.toNat 0
def qh (bs:List Int)(k:Int):Int:=gf bs (k.tmod bs.length)*131+gf bs ((k*7+3).tmod bs.length)*1117+k*29+k.tdiv bs.length*53
def J5 (x:Int):Int:=IntKind.i64.wrap (BitVec.ofInt 64 x^^^BitVec.ofInt 64 (x.tdiv 64)).toNat
def pk (bs:List Int)(k n:Int):Int:=if n<1 then 0 else if bs=[]then 0 else if k<bs.length then(gf bs k).tmod n else(J5 (qh bs k)).tmod n
theorem gC {bs:List Int}(h:mH bs)(k:Int):0≤gf bs k∧gf bs k≤255:=by
 unfold gf;rw[List.getD_eq_getElem?_getD]
 cases hb:bs[k.toNat]? with
 |none=>exact⟨by simp,by simp⟩
 |some b=>exact h.byte b (List.mem_of_getElem? hb)
theorem nD {bs:List Int}{k:Int}(U:k.toNat<bs.length):bs[k.toNat]?=some (gf bs k):=by
 unfold gf;rw[List.getD_eq_getElem?_getD,List.getElem?_eq_getElem U];rfl
theorem sG {x:Int}(h0:0≤x)(U:x≤1000000000000000):0≤J5 x:=by
 unfold J5;have h2:x.tdiv 64=x / 64:=Int.tdiv_eq_ediv_of_nonneg h0
 obtain⟨a,rfl⟩:=Int.eq_ofNat_of_zero_le h0;rw[h2,show((a:Nat):Int)/ 64=((a / 64:Nat):Int) by omega]
 have ha:∀n:Nat,n<2^62→(BitVec.ofInt 64 (n:Int)).toNat=n:=fun n hn=>by
  rw[BitVec.ofInt_natCast,BitVec.toNat_ofNat];exact Nat.mod_eq_of_lt (by omega)
 rw[BitVec.toNat_xor,ha a (by omega),ha (a / 64) (by omega)]
 have hx:a^^^(a / 64)<2^62:=Nat.xor_lt_two_pow (by omega) (by omega)
 rw[aL (by omega) (by omega)]
 omega
theorem xG {bs:List Int}(h:mH bs){k:Int}(h0:0≤k)(U:k≤1000000000):0≤qh bs k∧qh bs k≤1000000000000000:=by
 have a:=gC h (k.tmod bs.length);have b:=gC h ((k*7+3).tmod bs.length);have hq:k.tdiv bs.length=k / bs.length:=Int.tdiv_eq_ediv_of_nonneg h0
 have h2:0≤k /(bs.length:Int):=Int.ediv_nonneg h0 (by omega)
 have h3:k /(bs.length:Int)≤k:=Int.ediv_le_self _ h0
 unfold qh;rw[hq];generalize k /(bs.length:Int)=q at*;omega
theorem mI {bs:List Int}(h:mH bs){k n:Int}(h0:0≤k)(U:k≤1000000000):0≤pk bs k n:=by
 unfold pk;split
 ·exact Int.le_refl 0
 ·split
  ·exact Int.le_refl 0
  ·split
   ·exact Int.tmod_nonneg _ (gC h k).1
   ·have:=xG h h0 U
    exact Int.tmod_nonneg _ (sG this.1 this.2)
theorem dO {bs:List Int}(h:mH bs){k n:Int}(h0:0≤k)(U:k≤1000000000)(hn:1≤n):pk bs k n<n:=by
 unfold pk;split
 ·omega
 ·split
  ·omega
  ·split
   ·rw[Int.tmod_eq_emod_of_nonneg (gC h k).1];exact Int.emod_lt_of_pos _ (by omega)
   ·have:=xG h h0 U
    rw[Int.tmod_eq_emod_of_nonneg (sG this.1 this.2)];exact Int.emod_lt_of_pos _ (by omega)
theorem bd {bs:List Int}(h:mH bs)(p n:Int)(h0:0≤p)(U:p≤1000000000):TC Tw.prog E 44 [uS,gI .i64 n] 1 [(0,mG bs p)] (gI .i64 (pk bs p n)) [(0,mG bs (p+1))]:=by
 have aF:IntKind.i64.wrap (p+1)=p+1:=aL (by omega) (by omega)
 have Xn:IntKind.i64.wrap p=p:=aL (by omega) (by omega)
 refine tE Tw.func44 Tw.ntmps44 (by rw[Tryz.results44]) ?_ (hfit:=(Fits.of (by simp[iT,ak.live]) (by simp) (by simp)))
 unfold pk;by_cases hn:n<1
 ·rw[if_pos hn]
  (refine TW.go ?_;simp[aF,hn];repeat' first|intro hc|refine aa.mk ?_|refine aI ?_|refine ah ?_ ?_)
  exact ar.own [] [] (by simp;rfl) (by simp) (by simp) (by simp) (by simp) (by simp)
 ·rw[if_neg hn]
  have yF:¬n=0:=by omega
  by_cases hb:bs=[]
  ·rw[if_pos hb]
   subst hb;(refine TW.go ?_;simp[aF,hn];repeat' first|intro hc|refine aa.mk ?_|refine aI ?_|refine ah ?_ ?_)
   exact ar.own [] [] (by simp;rfl) (by simp) (by simp) (by simp) (by simp) (by simp)
  ·rw[if_neg hb]
   have hl:0<bs.length:=List.length_pos_iff.2 hb
   have bz:¬(bs.length:Int)=0:=by omega
   by_cases hk:p<bs.length
   ·rw[if_pos hk]
    have he:=nD (bs:=bs) (k:=p) (by omega)
    have hB:=gC h p;have dC:∀hh,bs[p.toNat]'hh=gf bs p:=fun hh=>by rw[List.getElem?_eq_getElem hh]at he;exact Option.some.inj he
    generalize gf bs p=B at*;have an:IntKind.i64.wrap B=B:=aL (by omega) (by omega)
    (refine TW.go ?_;simp[aF,Xn,hn,yF,hb,hk,h0,he,dC,an];repeat' first|intro hc|refine aa.mk ?_|refine aI ?_|refine ah ?_ ?_)
    exact ar.own [] [] (by simp;rfl) (by simp) (by simp) (by simp) (by simp) (by simp)
   ·rw[if_neg hk]
    have hX:=xG h h0 U;have jM:(0:Int)<bs.length:=by omega
    have UO:0≤p.tmod bs.length:=Int.tmod_nonneg _ h0
    have UP:0≤(p*7+3).tmod bs.length:=Int.tmod_nonneg _ (by omega)
    have aa0:p.tmod bs.length<bs.length:=by rw[Int.tmod_eq_emod_of_nonneg h0];exact Int.emod_lt_of_pos _ jM
    have aa1:(p*7+3).tmod bs.length<bs.length:=by rw[Int.tmod_eq_emod_of_nonneg (by omega)];exact Int.emod_lt_of_pos _ jM
    have An:=nD (bs:=bs) (k:=p.tmod bs.length) (by omega)
    have AS:=nD (bs:=bs) (k:=(p*7+3).tmod bs.length) (by omega)
    have hB1:=gC h (p.tmod bs.length);have hB2:=gC h ((p*7+3).tmod bs.length);have hq:p.tdiv bs.length=p / bs.length:=Int.tdiv_eq_ediv_of_nonneg h0
    have hq0:0≤p.tdiv bs.length:=by rw[hq];exact Int.ediv_nonneg h0 (by omega)
    have OT:p.tdiv bs.length≤p:=by rw[hq];exact Int.ediv_le_self _ h0
    have Xo:(J5 (qh bs p)).tmod n=(IntKind.i64.wrap (BitVec.ofInt 64 (qh bs p)^^^BitVec.ofInt 64 ((qh bs p).tdiv 64)).toNat).tmod n:=rfl
    rw[Xo];have Xp:IntKind.i64.wrap ((qh bs p).tdiv 64)=(qh bs p).tdiv 64:=by
     rw[Int.tdiv_eq_ediv_of_nonneg hX.1];exact aL (by omega) (by omega)
    unfold qh at*;generalize gf bs (p.tmod bs.length)=B1 at*;generalize gf bs ((p*7+3).tmod bs.length)=B2 at*;generalize hQ:p.tdiv bs.length=Q at*;clear hq Xo;have w1:IntKind.i64.wrap B1=B1:=aL (by omega) (by omega)
    have w2:IntKind.i64.wrap B2=B2:=aL (by omega) (by omega)
    have w3:IntKind.i64.wrap (B1*131)=B1*131:=aL (by omega) (by omega)
    have w4:IntKind.i64.wrap (B2*1117)=B2*1117:=aL (by omega) (by omega)
    have w5:IntKind.i64.wrap (B1*131+B2*1117)=B1*131+B2*1117:=aL (by omega) (by omega)
    have w6:IntKind.i64.wrap (p*7)=p*7:=aL (by omega) (by omega)
    have w7:IntKind.i64.wrap (p*7+3)=p*7+3:=aL (by omega) (by omega)
    have w8:IntKind.i64.wrap (p*29)=p*29:=aL (by omega) (by omega)
    have w9:IntKind.i64.wrap (B1*131+B2*1117+p*29)=B1*131+B2*1117+p*29:=aL (by omega) (by omega)
    have V6:IntKind.i64.wrap Q=Q:=aL (by omega) (by omega)
    have wz:IntKind.i64.wrap (Q*53)=Q*53:=aL (by omega) (by omega)
    have BE:IntKind.i64.wrap (B1*131+B2*1117+p*29+Q*53)=B1*131+B2*1117+p*29+Q*53:=aL (by omega) (by omega)
    generalize DO:B1*131+B2*1117+p*29+Q*53=X at*;(refine TW.go ?_;simp[aF,Xn,hn,yF,hb,hk,An,AS,UO,UP,hQ,w1,w2,w3,w4,w5,w6,w7,w8,w9,V6,wz,BE,DO,Xp];repeat' first|intro hc|refine aa.mk ?_|refine aI ?_|refine ah ?_ ?_)
    exact ar.own [] [] (by simp;rfl) (by simp[IntKind.bits]) (by simp) (by simp) (by simp) (by simp)
theorem MJ (bs:List Int):TC Tw.prog E 42 [gR (pw bs)] 0 [] uS [(0,mG (bs.take 2000) 0)]:=by
 refine tE Tw.func42 Tw.ntmps42 (by rw[Tryz.results42]) ?_
 by_cases hl:2000<bs.length
 ·have bz:(2000:Int)<(bs.length:Int):=by omega
  (refine TW.go ?_;simp[bz];repeat' first|intro hc|refine aa.mk ?_|refine aI ?_|refine ah ?_ ?_)
  exact oW [0] []
 ·have bz:¬(2000:Int)<(bs.length:Int):=by omega
  rw[List.take_of_length_le (by omega)]
  (refine TW.go ?_;simp[bz];repeat' first|intro hc|refine aa.mk ?_|refine aI ?_|refine ah ?_ ?_)
  exact oW [0] []
end Go.Proofs.YtjklkppncmhehaaGreat.T
namespace Go.Proofs.YtjklkppncmhehaaGreat.T
open Go Go.RowKit
set_option maxRecDepth 100000
set_option maxHeartbeats 4000000
variable {E:List PanicEntry→World→Prop}
abbrev mJ (id:Int):az:=⟨id,0,[],[]⟩
theorem jN (id:Int)(h:bw id=true):TC Tw.prog E 153 [gI .i64 id] 0 [] (.p [.a [.r (rI id),.r (rI 0),.own 0,.own 1],gB true]) [(0,dx []),(1,dx [])]:=by
 refine tE Tw.func153 Tw.ntmps153 (by rw[Tryz.results153]) ?_
 (refine TW.go ?_;simp[h];repeat' first|intro hc|refine aa.mk ?_|refine aI ?_|refine ah ?_ ?_|(refine cP ?_;refine⟨_,kW _,?_⟩;simp[h]))
 exact oW [1,2] []
def mK:aB:=⟨[],[mJ 0,mJ 1,mJ 2,mJ 3,mJ 4],[],[],[]⟩
def sH (k:Nat):List az:=(List.range k).map fun i=>mJ (i:Nat)
theorem Jf (k:Nat):sH (k+1)=sH k++[mJ (k:Nat)]:=by simp[sH,List.range_succ]
theorem MK (k:Nat):(sH k).length=k:=by simp[sH]
def jV:Nat→ae
 |0=>⟨[(0,.s (.ptr 0 0)),(1,.s (.ptr 1 0)),(2,gI .i64 0)],[(0,.box [.r .nil,.r .nil,.r .nil,.r .nil,.r .nil]),(1,.box [.r (.sl 1 []),.r .nil,.r (.sl 3 []),.r (.sl 1 []),.r (.sl 5 [])])],2⟩
 |k+1=>⟨[(0,.s (.ptr 0 0)),(1,.s (.ptr 1 0)),(2,gI .i64 ((k:Int)+1))],[(0,.box [.r .nil,.r .nil,.r .nil,.r .nil,.r .nil]),(1,.box [.r (.sl 1 []),.own 2,.r (.sl 3 []),.r (.sl 1 []),.r (.sl 5 [])]),(2,nB (sH (k+1)))],3⟩
theorem uT:TC Tw.prog E 150 [] 0 [] (gW mK) []:=by
 refine tE Tw.func150 Tw.ntmps150 (by rw[Tryz.results150]) ?_
 (refine TW.go ?_;simp;repeat' first|intro hc|refine aa.mk ?_|refine aI ?_|refine ah ?_ ?_)
 refine tL jV (fun k=>k≤5) (fun k=>5-k) 0 (by omega) (Wk.own [0,5] [1,2,3,4] (by simp) (by simp[jV]) (by simp[jV]) (by simp[jV]) (by simp[jV])) fun k hk=>?_
 by_cases aj:k<5
 ·have aw:(k:Int)<5:=by omega
  have hg:bw (k:Int)=true:=by simp[bw];omega
  have aF:IntKind.i64.wrap ((k:Int)+1)=(k:Int)+1:=aL (by omega) (by omega)
  rcases k with _|k
  ·unfold jV
   (refine TW.go ?_;simp[maxLen];repeat' first|intro hc|refine aa.mk ?_|refine aI ?_|refine ah ?_ ?_|(refine cF [] 2 ?_;refine⟨_,_,jN 0 rfl,?_⟩;simp[maxLen]))
   exact⟨1,by omega,by omega,Wk.own [0,1,6] [] (by simp) (by simp[jV]) (by simp[jV,sH,ai]) (by simp[jV]) (by simp[jV])⟩
  ·have hl:=MK (k+1)
   unfold jV;simp only[Int.natCast_add,Int.natCast_one]at aw hg aF;(refine TW.go ?_;simp[aw,aF,maxLen];repeat' first|intro hc|refine aa.mk ?_|refine aI ?_|refine ah ?_ ?_|(refine cF [] 2 ?_;refine⟨_,_,jN _ hg,?_⟩;simp[aw,aF,maxLen]))
   exact⟨k+2,by omega,by omega,Wk.own [0,1,7] [] (by simp) (by simp[jV]) (by simp[jV,Jf (k+1),ai]) (by simp[jV]) (by simp[jV])⟩
 ·obtain rfl:k=5:=by omega
  unfold jV;(refine TW.go ?_;simp;repeat' first|intro hc|refine aa.mk ?_|refine aI ?_|refine ah ?_ ?_)
  refine ar.own [] [2] (by simp;rfl) (by simp[mK,wT,sH,List.range_succ]) (by simp) (by simp) (by simp[mK,wT,sH,List.range_succ]) (by simp)
theorem tH:cM 0 mK:=by
 refine⟨rfl,?_,by decide,?_,rfl,?_,rfl,by decide,?_⟩
 ·simp[mK,fc]
 ·simp[mK]
 ·simp[mK]
 ·simp[mK]
def ML (xs:List Int)(k:Int):Int:=xs.getD k.toNat 0
theorem tI {xs:List Int}{k:Int}(h0:0≤k)(U:k<xs.length):(xs.map fun n=>[rI n])[k.toNat]?=some [rI (ML xs k)]:=by
 rw[List.getElem?_map,ML,List.getD_eq_getElem?_getD,List.getElem?_eq_getElem (by omega)]
 rfl
def eB (o:Int→Int→Int)(p:Int):(Int×Int)×Int:=
 if o (p+2) 24=0 then((ML [0, -1,999,1000] (o (p+3) 4),o (p+1) 5),p+4)
 else if o (p+2) 24=1 then((1+o p 8,o (p+3) 7-1),p+4)else((1+o p 8,o (p+1) 5),p+3)
theorem GA {bs:List Int}(h:mH bs)(p:Int)(h0:0≤p)(U:p≤999999990):TC Tw.prog E 154 [uS] 1 [(0,mG bs p)] (km (eB (pk bs) p).1) [(0,mG bs (eB (pk bs) p).2)]:=by
 have q0:=mI h (k:=p) (n:=8) h0 (by omega)
 have q0':=dO h (k:=p) (n:=8) h0 (by omega) (by omega)
 have q3:=mI h (k:=p+3) (n:=4) (by omega) (by omega)
 have No:=dO h (k:=p+3) (n:=4) (by omega) (by omega) (by omega)
 have q4:=mI h (k:=p+3) (n:=7) (by omega) (by omega)
 have q4':=dO h (k:=p+3) (n:=7) (by omega) (by omega) (by omega)
 have w1:IntKind.i64.wrap (1+pk bs p 8)=1+pk bs p 8:=aL (by omega) (by omega)
 have w2:IntKind.i64.wrap (pk bs (p+3) 7-1)=pk bs (p+3) 7-1:=aL (by omega) (by omega)
 have ht:=tI (xs:=[0, -1,999,1000]) q3 (by simpa using No)
 simp only[List.map_cons,List.map_nil]at ht;have e2:p+1+1=p+2:=by omega
 have e3:p+2+1=p+3:=by omega
 have e4:p+3+1=p+4:=by omega
 refine tE Tw.func154 Tw.ntmps154 (by rw[Tryz.results154]) ?_ (hfit:=(Fits.of (by simp[iT,ak.live]) (by simp) (by simp)))
 by_cases c0:pk bs (p+2) 24=0
 ·rw[show eB (pk bs) p=((ML [0, -1,999,1000] (pk bs (p+3) 4),pk bs (p+1) 5),p+4) by rw[eB,if_pos c0]]
  (refine TW.go ?_;simp[w1,c0,e2,e3,e4,ht,q3];repeat' first|intro hc|refine aa.mk ?_|refine aI ?_|refine ah ?_ ?_|(refine cR ?_;refine⟨_,_,bd h _ _ (by omega) (by omega),?_⟩;simp[w1,c0,e2,e3,e4,ht,q3]))
  exact oW [] []
 ·by_cases c1:pk bs (p+2) 24=1
  ·rw[show eB (pk bs) p=((1+pk bs p 8,pk bs (p+3) 7-1),p+4) by rw[eB,if_neg c0,if_pos c1]]
   (refine TW.go ?_;simp[w1,w2,c1,e2,e3,e4];repeat' first|intro hc|refine aa.mk ?_|refine aI ?_|refine ah ?_ ?_|(refine cR ?_;refine⟨_,_,bd h _ _ (by omega) (by omega),?_⟩;simp[w1,w2,c1,e2,e3,e4]))
   exact oW [] []
  ·rw[show eB (pk bs) p=((1+pk bs p 8,pk bs (p+1) 5),p+3) by rw[eB,if_neg c0,if_neg c1]]
   (refine TW.go ?_;simp[w1,c0,c1,e2,e3,e4];repeat' first|intro hc|refine aa.mk ?_|refine aI ?_|refine ah ?_ ?_|(refine cR ?_;refine⟨_,_,bd h _ _ (by omega) (by omega),?_⟩;simp[w1,c0,c1,e2,e3,e4]))
   exact oW [] []
end Go.Proofs.YtjklkppncmhehaaGreat.T
namespace Go.Proofs.YtjklkppncmhehaaGreat.T
open Go Go.RowKit
set_option maxRecDepth 100000
set_option maxHeartbeats 4000000
variable {E:List PanicEntry→World→Prop}
def mx (n:Nat):Int:=if(n:Int)<1 then 1 else n
theorem PW (n:Nat):1≤mx n:=by unfold mx;split<;>omega
def py (o:Int→Int→Int)(p:Int)(n s:Nat):Int×Int×Int:=
 if o (p+1) 20=0∨o (p+1) 20=1 then(1,1+o (p+2) 31,p+3)
 else if o (p+1) 20=2 then(3,o p (mx n),p+2)
 else if o (p+1) 20=3 then(4,o p (mx n),p+2)
 else if o (p+1) 20=4 then(5,o (p+2) (mx s),p+3)
 else if o (p+1) 20=5∨o (p+1) 20=6 then(6,o (p+2) (mx s),p+3)
 else if o (p+1) 20=7 then if o (p+2) 3=0 then(7,o (p+3) (mx s),p+4)else(2,o p (mx n),p+3)
 else if o (p+2) 2=0 then(2,0,p+3)else(2,o p (mx n),p+3)
def va (o:Int→Int→Int)(e:Int×Int×Int):Int×Int×Int:=
 if o e.2.2 40=0 then(o (e.2.2+1) 10-1,e.2.1,e.2.2+2)else if o e.2.2 40=1 then(e.1,o (e.2.2+1) 36-2,e.2.2+2)else(e.1,e.2.1,e.2.2+1)
def cN (o:Int→Int→Int)(p:Int)(w:aB):Int×Int×Int:=va o (py o p w.bP.length w.aH.length)
theorem qi (o:Int→Int→Int)(p:Int)(w:aB):p+3≤(cN o p w).2.2∧(cN o p w).2.2≤p+6:=by
 have h:p+2≤(py o p w.bP.length w.aH.length).2.2∧(py o p w.bP.length w.aH.length).2.2≤p+4:=by
  unfold py;repeat' split
  all_goals(simp only;omega)
 unfold cN va;repeat' split
 all_goals(simp only;omega)
set_option maxHeartbeats 8000000 in
theorem GB {bs:List Int}(h:mH bs)(p:Int)(w:aB)(h0:0≤p)(U:p≤999999980)(hn:w.bP.length≤16)(hs:w.aH.length≤12):
  TC Tw.prog E 152 [uS,gW w] 1 [(0,mG bs p)] (gE (cN (pk bs) p w).1 (cN (pk bs) p w).2.1) [(0,mG bs (cN (pk bs) p w).2.2)]:=by
 have q1:=mI h (k:=p+2) (n:=31) (by omega) (by omega)
 have uJ:=dO h (k:=p+2) (n:=31) (by omega) (by omega) (by omega)
 have w1:IntKind.i64.wrap (1+pk bs (p+2) 31)=1+pk bs (p+2) 31:=aL (by omega) (by omega)
 have wA:∀k,0≤k→k≤1000000000→IntKind.i64.wrap (pk bs k 10-1)=pk bs k 10-1:=fun k a b=>by
  have:=mI h (k:=k) (n:=10) a b
  have:=dO h (k:=k) (n:=10) a b (by omega)
  exact aL (by omega) (by omega)
 have wB:∀k,0≤k→k≤1000000000→IntKind.i64.wrap (pk bs k 36-2)=pk bs k 36-2:=fun k a b=>by
  have:=mI h (k:=k) (n:=36) a b
  have:=dO h (k:=k) (n:=36) a b (by omega)
  exact aL (by omega) (by omega)
 have a3:=wA (p+3) (by omega) (by omega)
 have a4:=wA (p+4) (by omega) (by omega)
 have a5:=wA (p+5) (by omega) (by omega)
 have b3:=wB (p+3) (by omega) (by omega)
 have b4:=wB (p+4) (by omega) (by omega)
 have b5:=wB (p+5) (by omega) (by omega)
 clear wA wB q1 uJ;have e2:p+1+1=p+2:=by omega
 have e3:p+2+1=p+3:=by omega
 have e4:p+3+1=p+4:=by omega
 have e5:p+4+1=p+5:=by omega
 have e6:p+5+1=p+6:=by omega
 have m1:(if(w.bP.length:Int)<1 then(1:Int)else w.bP.length)=mx w.bP.length:=rfl
 have m2:(if(w.aH.length:Int)<1 then(1:Int)else w.aH.length)=mx w.aH.length:=rfl
 have UO:=PW w.bP.length;have UP:=PW w.aH.length;refine tE Tw.func152 Tw.ntmps152 (by rw[Tryz.results152]) ?_ (hfit:=(Fits.of (by simp[iT,ak.live]) (by simp) (by simp[wT])))
 (refine TW.go ?_;simp[wT,w1,m1,m2,e2,e3,e4,e5,e6,a3,a4,a5,b3,b4,b5];repeat' first|intro hc|refine aa.mk ?_|refine aI ?_|refine ah ?_ ?_|(refine cR ?_;refine⟨_,_,bd h _ _ (by omega) (by omega),?_⟩;simp[wT,w1,m1,m2,e2,e3,e4,e5,e6,a3,a4,a5,b3,b4,b5]))
 all_goals
  clear UO UP hn hs h0 U h w1 a3 a4 a5 b3 b4 b5 m1 m2;try simp only[decide_eq_true_eq,decide_eq_false_iff_not]at*
  have f2:p+2+2=p+4:=by omega
  have f3:p+3+2=p+5:=by omega
  have f4:p+4+2=p+6:=by omega
  first
   |(exfalso;omega)
   |(refine ar.own [] [] (by simp;rfl) (by simp[cN,va,py, *]) (by simp) (by simp) (by simp[cN,va,py, *]) (by simp))
end Go.Proofs.YtjklkppncmhehaaGreat.T
