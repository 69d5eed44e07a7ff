/-
What is proved: what the exact laws' copy of a run that came in is ('toWorld_T'): the same tree. No condition.
-/
import Derived.Test.YtlhohdjniaebbaaGreatRy48
set_option linter.unusedVariables false
set_option linter.unusedSimpArgs false
namespace Go.Proofs.YtlhohdjniaebbaaGreat.T
open Go Go.RowKit
set_option maxRecDepth 100000
set_option maxHeartbeats 4000000
variable {E:List PanicEntry→World→Prop}
def bO (xs:List (List RT))(z:List RT)(k:Nat):List (List RT):=xs.take k++List.replicate (xs.length-k) z
theorem gV {xs:List (List RT)}{z:List RT}{k:Nat}(h:k≤xs.length):(bO xs z k).length=xs.length:=by simp[bO];omega
theorem iT {xs:List (List RT)}{z:List RT}{k:Nat}(h:k<xs.length):(bO xs z k)[k]?=some z:=by
 unfold bO;rw[List.getElem?_append_right (by simp;omega),List.getElem?_replicate,if_pos (by simp;omega)]
theorem iU {xs:List (List RT)}{z x:List RT}{k:Nat}(h:xs[k]?=some x):(bO xs z k).set k x=bO xs z (k+1):=by
 have hl:k<xs.length:=(List.getElem?_eq_some_iff.1 h).1
 refine List.ext_getElem? fun i=>?_;rw[List.getElem?_set,gV (Nat.le_of_lt hl)];unfold bO;by_cases hi:k=i
 ·subst hi
  rw[if_pos rfl,if_pos hl,List.getElem?_append_left (by simp;omega),List.getElem?_take,if_pos (by omega),h]
 ·rw[if_neg hi]
  rcases Nat.lt_or_ge i k with h1|h1
  ·rw[List.getElem?_append_left (by simp;omega),List.getElem?_append_left (by simp;omega),List.getElem?_take,List.getElem?_take,if_pos h1,if_pos (by omega)]
  ·rw[List.getElem?_append_right (by simp;omega),List.getElem?_append_right (by simp;omega),List.getElem?_replicate,List.getElem?_replicate]
   simp only[List.length_take];split<;>split<;>first|rfl|omega
theorem nd {xs:List (List RT)}{z:List RT}:List.replicate xs.length z=bO xs z 0:=by simp[bO]
theorem X9 {xs:List (List RT)}{z:List RT}:bO xs z xs.length=xs:=by simp[bO]
theorem iV {α:Type}{xs:List α}{f:α→List RT}{z:List RT}:bO (xs.map f) z xs.length=xs.map f:=by
 have:=X9 (xs:=xs.map f) (z:=z);rwa[List.length_map]at this
theorem tA (s:Int×Int):TC Tw.prog E 146 [uV s] 0 [] (uV s) []:=by
 refine tE Tryz.f146 Tryz.ntmps146 (by rw[Tryz.results146]) ?_
 (refine TW.go ?_;simp;repeat' first|intro hc|refine aa.mk ?_|refine aI ?_|refine af ?_ ?_)
 exact oW [] []
theorem Nr (e:aK):TC Tw.prog E 185 [jw e] 0 [] (jw e) []:=by
 have h:=tA (E:=E) (e.t,e.g);refine tE Tryz.f185 Tryz.ntmps185 (by rw[Tryz.results185]) ?_
 (refine TW.go ?_;simp[aF];repeat' first|intro hc|refine aa.mk ?_|refine aI ?_|refine af ?_ ?_|(refine cP ?_;refine⟨_,h,?_⟩;simp[aF]))
 refine bo.own [] [] (by simp;rfl) (by simp[aF]) (by simp) (by simp) (by simp[aF]) (by simp)
theorem J' (p:eI):TC Tw.prog E 99 [gP p] 0 [] (gP p) []:=by
 have h:=tA (E:=E) (p.t,p.s);refine tE Tryz.f99 Tryz.ntmps99 (by rw[Tryz.results99]) ?_
 (refine TW.go ?_;simp[bP];repeat' first|intro hc|refine aa.mk ?_|refine aI ?_|refine af ?_ ?_|(refine cP ?_;refine⟨_,h,?_⟩;simp[bP]))
 refine bo.own [] [] (by simp;rfl) (by simp[bP]) (by simp) (by simp) (by simp[bP]) (by simp)
theorem CN (xs:List Int)(hn:xs.length≤1048576):TC Tw.prog E 96 [gR (bu xs)] 0 [] (gR (bu xs)) []:=by
 refine tE Tryz.f96 Tryz.ntmps96 (by rw[Tryz.results96]) ?_
 refine TW.len 0 rfl fun hlen=>?_;simp only[List.length_map]at hlen;have hb:(xs.length:Int)≤1048576:=by omega
 (refine TW.go ?_;simp[hb,maxLen];repeat' first|intro hc|refine aa.mk ?_|refine aI ?_|refine af ?_ ?_)
 refine tL (fun(k:Nat)=>⟨[(0,gR (bu xs)),(3,.s (.own 0)),(4,gI .i64 (k:Nat))],[(0,.rows 3 1 (bO (xs.map (fun n=>[rI n])) [rI 0] k))],1⟩) (fun k=>k≤xs.length) (fun k=>xs.length-k) 0 (by omega) (Wk.own [0] [] (by simp) (by simp) (by simp[←nd]) (by simp) (by simp)) fun k hk=>?_
 have nE:(bO (xs.map (fun n=>[rI n])) [rI 0] k).length=xs.length:=by rw[gV (by simpa using hk),List.length_map]
 by_cases aj:k<xs.length
 ·have he:xs[k]?=some xs[k]:=List.getElem?_eq_getElem aj
  have aA:(k:Int)<(xs.length:Int):=by omega
  have aG:=wrap_add aj hlen;have cc:=iT (xs:=xs.map (fun n=>[rI n])) (z:=[rI 0]) (k:=k) (by simpa using aj)
  have aY:=iU (xs:=xs.map (fun n=>[rI n])) (z:=[rI 0]) (k:=k) (x:=(fun n=>[rI n]) xs[k]) (by rw[List.getElem?_map,he];rfl)
  generalize xs[k]=x at*;simp only at aY
  generalize bO (xs.map (fun n=>[rI n])) [rI 0] k=R at*
  (refine TW.go ?_;simp[he,aA,aG,cc,nE,aY];repeat' first|intro hc|refine aa.mk ?_|refine aI ?_|refine af ?_ ?_)
  exact⟨k+1,by omega,by omega,Wk.own [0] [] (by simp) (by simp) (by simp[aY]) (by simp) (by simp)⟩
 ·obtain rfl:k=xs.length:=by omega
  rw[iV];(refine TW.go ?_;simp;repeat' first|intro hc|refine aa.mk ?_|refine aI ?_|refine af ?_ ?_)
  exact oW [] [0]
theorem Ns (xs:List Bool)(hn:xs.length≤1048576):TC Tw.prog E 52 [gR (nA xs)] 0 [] (gR (nA xs)) []:=by
 refine tE Tryz.f52 Tryz.ntmps52 (by rw[Tryz.results52]) ?_
 refine TW.len 0 rfl fun hlen=>?_;simp only[List.length_map]at hlen;have hb:(xs.length:Int)≤1048576:=by omega
 (refine TW.go ?_;simp[hb,maxLen];repeat' first|intro hc|refine aa.mk ?_|refine aI ?_|refine af ?_ ?_)
 refine tL (fun(k:Nat)=>⟨[(0,gR (nA xs)),(3,.s (.own 0)),(4,gI .i64 (k:Nat))],[(0,.rows 4 1 (bO (xs.map (fun b=>[rB b])) [rB false] k))],1⟩) (fun k=>k≤xs.length) (fun k=>xs.length-k) 0 (by omega) (Wk.own [0] [] (by simp) (by simp) (by simp[←nd]) (by simp) (by simp)) fun k hk=>?_
 have nE:(bO (xs.map (fun b=>[rB b])) [rB false] k).length=xs.length:=by rw[gV (by simpa using hk),List.length_map]
 by_cases aj:k<xs.length
 ·have he:xs[k]?=some xs[k]:=List.getElem?_eq_getElem aj
  have aA:(k:Int)<(xs.length:Int):=by omega
  have aG:=wrap_add aj hlen;have cc:=iT (xs:=xs.map (fun b=>[rB b])) (z:=[rB false]) (k:=k) (by simpa using aj)
  have aY:=iU (xs:=xs.map (fun b=>[rB b])) (z:=[rB false]) (k:=k) (x:=(fun b=>[rB b]) xs[k]) (by rw[List.getElem?_map,he];rfl)
  generalize xs[k]=x at*;simp only at aY
  generalize bO (xs.map (fun b=>[rB b])) [rB false] k=R at*
  (refine TW.go ?_;simp[he,aA,aG,cc,nE,aY];repeat' first|intro hc|refine aa.mk ?_|refine aI ?_|refine af ?_ ?_)
  exact⟨k+1,by omega,by omega,Wk.own [0] [] (by simp) (by simp) (by simp[aY]) (by simp) (by simp)⟩
 ·obtain rfl:k=xs.length:=by omega
  rw[iV];(refine TW.go ?_;simp;repeat' first|intro hc|refine aa.mk ?_|refine aI ?_|refine af ?_ ?_)
  exact oW [] [0]
theorem Ka (xs:List (Int×Int))(hn:xs.length≤1048576):TC Tw.prog E 145 [gR (m_ xs)] 0 [] (gR (m_ xs)) []:=by
 refine tE Tryz.f145 Tryz.ntmps145 (by rw[Tryz.results145]) ?_
 refine TW.len 0 rfl fun hlen=>?_;simp only[List.length_map]at hlen;have hb:(xs.length:Int)≤1048576:=by omega
 (refine TW.go ?_;simp[hb,maxLen];repeat' first|intro hc|refine aa.mk ?_|refine aI ?_|refine af ?_ ?_)
 refine tL (fun(k:Nat)=>⟨[(0,gR (m_ xs)),(3,.s (.own 0)),(4,gI .i64 (k:Nat))],[(0,.rows 60 2 (bO (xs.map gE) [rI 0,rI 0] k))],1⟩) (fun k=>k≤xs.length) (fun k=>xs.length-k) 0 (by omega) (Wk.own [0] [] (by simp) (by simp) (by simp[←nd]) (by simp) (by simp)) fun k hk=>?_
 have nE:(bO (xs.map gE) [rI 0,rI 0] k).length=xs.length:=by rw[gV (by simpa using hk),List.length_map]
 by_cases aj:k<xs.length
 ·have he:xs[k]?=some xs[k]:=List.getElem?_eq_getElem aj
  have aA:(k:Int)<(xs.length:Int):=by omega
  have aG:=wrap_add aj hlen;have hC:=tA (E:=E) xs[k];have cc:=iT (xs:=xs.map gE) (z:=[rI 0,rI 0]) (k:=k) (by simpa using aj)
  have aY:=iU (xs:=xs.map gE) (z:=[rI 0,rI 0]) (k:=k) (x:=gE xs[k]) (by rw[List.getElem?_map,he];rfl)
  generalize xs[k]=x at*;simp only[gE]at aY;generalize bO (xs.map gE) [rI 0,rI 0] k=R at*;(refine TW.go ?_;simp[he,aA,aG,cc,nE,aY,gE];repeat' first|intro hc|refine aa.mk ?_|refine aI ?_|refine af ?_ ?_|(refine cP ?_;refine⟨_,hC,?_⟩;simp[he,aA,aG,cc,nE,aY,gE]))
  exact⟨k+1,by omega,by omega,Wk.own [0] [] (by simp) (by simp) (by simp[aY]) (by simp) (by simp)⟩
 ·obtain rfl:k=xs.length:=by omega
  rw[iV];(refine TW.go ?_;simp;repeat' first|intro hc|refine aa.mk ?_|refine aI ?_|refine af ?_ ?_)
  exact oW [] [0]
theorem xv (xs:List aK)(hn:xs.length≤1048576):TC Tw.prog E 144 [gR (c7 xs)] 0 [] (gR (c7 xs)) []:=by
 refine tE Tryz.f144 Tryz.ntmps144 (by rw[Tryz.results144]) ?_
 refine TW.len 0 rfl fun hlen=>?_;simp only[List.length_map]at hlen;have hb:(xs.length:Int)≤1048576:=by omega
 (refine TW.go ?_;simp[hb,maxLen];repeat' first|intro hc|refine aa.mk ?_|refine aI ?_|refine af ?_ ?_)
 refine tL (fun(k:Nat)=>⟨[(0,gR (c7 xs)),(3,.s (.own 0)),(4,gI .i64 (k:Nat))],[(0,.rows 75 4 (bO (xs.map aF) [rI 0,rI 0,rI 0,rB false] k))],1⟩) (fun k=>k≤xs.length) (fun k=>xs.length-k) 0 (by omega) (Wk.own [0] [] (by simp) (by simp) (by simp[←nd]) (by simp) (by simp)) fun k hk=>?_
 have nE:(bO (xs.map aF) [rI 0,rI 0,rI 0,rB false] k).length=xs.length:=by rw[gV (by simpa using hk),List.length_map]
 by_cases aj:k<xs.length
 ·have he:xs[k]?=some xs[k]:=List.getElem?_eq_getElem aj
  have aA:(k:Int)<(xs.length:Int):=by omega
  have aG:=wrap_add aj hlen;have hC:=Nr (E:=E) xs[k];have cc:=iT (xs:=xs.map aF) (z:=[rI 0,rI 0,rI 0,rB false]) (k:=k) (by simpa using aj)
  have aY:=iU (xs:=xs.map aF) (z:=[rI 0,rI 0,rI 0,rB false]) (k:=k) (x:=aF xs[k]) (by rw[List.getElem?_map,he];rfl)
  generalize xs[k]=x at*;simp only[aF]at aY;generalize bO (xs.map aF) [rI 0,rI 0,rI 0,rB false] k=R at*;(refine TW.go ?_;simp[he,aA,aG,cc,nE,aY,aF];repeat' first|intro hc|refine aa.mk ?_|refine aI ?_|refine af ?_ ?_|(refine cP ?_;refine⟨_,hC,?_⟩;simp[he,aA,aG,cc,nE,aY,aF]))
  exact⟨k+1,by omega,by omega,Wk.own [0] [] (by simp) (by simp) (by simp[aY]) (by simp) (by simp)⟩
 ·obtain rfl:k=xs.length:=by omega
  rw[iV];(refine TW.go ?_;simp;repeat' first|intro hc|refine aa.mk ?_|refine aI ?_|refine af ?_ ?_)
  exact oW [] [0]
theorem Nt (g:aH)(h:vV g 1048576):TC Tw.prog E 97 [.a ((au g).map .r)] 0 [] (.a ((au g).map .r)) []:=by
 have h1:=xv (E:=E) g.pend h.1;have h2:=xv (E:=E) g.done h.2;refine tE Tryz.f97 Tryz.ntmps97 (by rw[Tryz.results97]) ?_
 (refine TW.go ?_;simp[au];repeat' first|intro hc|refine aa.mk ?_|refine aI ?_|refine af ?_ ?_|(refine cP ?_;(first|refine⟨_,h1,?_⟩|refine⟨_,h2,?_⟩);simp[au]))
 refine bo.own [] [] (by simp;rfl) (by simp[au]) (by simp) (by simp) (by simp[au]) (by simp)
theorem Nu (r:cH)(h:pd r 1048576):TC Tw.prog E 98 [.a ((aX r).map .r)] 0 [] (.a ((aX r).map .r)) []:=by
 have h1:=CN (E:=E) r.gs h.1;have h2:=Ka (E:=E) r.aN h.2;refine tE Tryz.f98 Tryz.ntmps98 (by rw[Tryz.results98]) ?_
 (refine TW.go ?_;simp[aX];repeat' first|intro hc|refine aa.mk ?_|refine aI ?_|refine af ?_ ?_|(refine cP ?_;(first|refine⟨_,h1,?_⟩|refine⟨_,h2,?_⟩);simp[aX]))
 refine bo.own [] [] (by simp;rfl) (by simp[aX]) (by simp) (by simp) (by simp[aX]) (by simp)
theorem Nv (xs:List (List Int))(hn:xs.length≤1048576)(hs:∀s∈xs,s.length≤1048576):TC Tw.prog E 49 [gR (iH xs)] 0 [] (gR (iH xs)) []:=by
 refine tE Tryz.f49 Tryz.ntmps49 (by rw[Tryz.results49]) ?_
 refine TW.len 0 rfl fun hlen=>?_;simp only[List.length_map]at hlen;have hb:(xs.length:Int)≤1048576:=by omega
 (refine TW.go ?_;simp[hb,maxLen];repeat' first|intro hc|refine aa.mk ?_|refine aI ?_|refine af ?_ ?_)
 refine tL (fun(k:Nat)=>⟨[(0,gR (iH xs)),(3,.s (.own 0)),(4,gI .i64 (k:Nat))],[(0,.rows 46 1 (bO (xs.map (fun s=>[bu s])) [.nil] k))],1⟩) (fun k=>k≤xs.length) (fun k=>xs.length-k) 0 (by omega) (Wk.own [0] [] (by simp) (by simp) (by simp[←nd]) (by simp) (by simp)) fun k hk=>?_
 have nE:(bO (xs.map (fun s=>[bu s])) [.nil] k).length=xs.length:=by rw[gV (by simpa using hk),List.length_map]
 by_cases aj:k<xs.length
 ·have he:xs[k]?=some xs[k]:=List.getElem?_eq_getElem aj
  have aA:(k:Int)<(xs.length:Int):=by omega
  have aG:=wrap_add aj hlen;have hC:=CN (E:=E) xs[k] (hs _ (List.getElem_mem aj));have cc:=iT (xs:=xs.map (fun s=>[bu s])) (z:=[.nil]) (k:=k) (by simpa using aj)
  have aY:=iU (xs:=xs.map (fun s=>[bu s])) (z:=[.nil]) (k:=k) (x:=(fun s=>[bu s]) xs[k]) (by rw[List.getElem?_map,he];rfl)
  generalize xs[k]=x at*;simp only at aY
  generalize bO (xs.map (fun s=>[bu s])) [.nil] k=R at*
  (refine TW.go ?_;simp[he,aA,aG,cc,nE,aY];repeat' first|intro hc|refine aa.mk ?_|refine aI ?_|refine af ?_ ?_|(refine cP ?_;refine⟨_,hC,?_⟩;simp[he,aA,aG,cc,nE,aY]))
  exact⟨k+1,by omega,by omega,Wk.own [0] [] (by simp) (by simp) (by simp[aY]) (by simp) (by simp)⟩
 ·obtain rfl:k=xs.length:=by omega
  rw[iV];(refine TW.go ?_;simp;repeat' first|intro hc|refine aa.mk ?_|refine aI ?_|refine af ?_ ?_)
  exact oW [] [0]
theorem Kb (xs:List aH)(hn:xs.length≤1048576)(hs:∀g∈xs,vV g 1048576):TC Tw.prog E 50 [gR (eZ xs)] 0 [] (gR (eZ xs)) []:=by
 refine tE Tryz.f50 Tryz.ntmps50 (by rw[Tryz.results50]) ?_
 refine TW.len 0 rfl fun hlen=>?_;simp only[List.length_map]at hlen;have hb:(xs.length:Int)≤1048576:=by omega
 (refine TW.go ?_;simp[hb,maxLen];repeat' first|intro hc|refine aa.mk ?_|refine aI ?_|refine af ?_ ?_)
 refine tL (fun(k:Nat)=>⟨[(0,gR (eZ xs)),(3,.s (.own 0)),(4,gI .i64 (k:Nat))],[(0,.rows 50 4 (bO (xs.map au) [rI 0,rI 0,.nil,.nil] k))],1⟩) (fun k=>k≤xs.length) (fun k=>xs.length-k) 0 (by omega) (Wk.own [0] [] (by simp) (by simp) (by simp[←nd]) (by simp) (by simp)) fun k hk=>?_
 have nE:(bO (xs.map au) [rI 0,rI 0,.nil,.nil] k).length=xs.length:=by rw[gV (by simpa using hk),List.length_map]
 by_cases aj:k<xs.length
 ·have he:xs[k]?=some xs[k]:=List.getElem?_eq_getElem aj
  have aA:(k:Int)<(xs.length:Int):=by omega
  have aG:=wrap_add aj hlen;have hC:=Nt (E:=E) xs[k] (hs _ (List.getElem_mem aj));have cc:=iT (xs:=xs.map au) (z:=[rI 0,rI 0,.nil,.nil]) (k:=k) (by simpa using aj)
  have aY:=iU (xs:=xs.map au) (z:=[rI 0,rI 0,.nil,.nil]) (k:=k) (x:=au xs[k]) (by rw[List.getElem?_map,he];rfl)
  generalize xs[k]=x at*;simp only[au]at aY;generalize bO (xs.map au) [rI 0,rI 0,.nil,.nil] k=R at*;(refine TW.go ?_;simp[he,aA,aG,cc,nE,aY,au];repeat' first|intro hc|refine aa.mk ?_|refine aI ?_|refine af ?_ ?_|(refine cP ?_;refine⟨_,hC,?_⟩;simp[he,aA,aG,cc,nE,aY,au]))
  exact⟨k+1,by omega,by omega,Wk.own [0] [] (by simp) (by simp) (by simp[aY]) (by simp) (by simp)⟩
 ·obtain rfl:k=xs.length:=by omega
  rw[iV];(refine TW.go ?_;simp;repeat' first|intro hc|refine aa.mk ?_|refine aI ?_|refine af ?_ ?_)
  exact oW [] [0]
theorem Kc (xs:List cH)(hn:xs.length≤1048576)(hs:∀r∈xs,pd r 1048576):TC Tw.prog E 51 [gR (l9 xs)] 0 [] (gR (l9 xs)) []:=by
 refine tE Tryz.f51 Tryz.ntmps51 (by rw[Tryz.results51]) ?_
 refine TW.len 0 rfl fun hlen=>?_;simp only[List.length_map]at hlen;have hb:(xs.length:Int)≤1048576:=by omega
 (refine TW.go ?_;simp[hb,maxLen];repeat' first|intro hc|refine aa.mk ?_|refine aI ?_|refine af ?_ ?_)
 refine tL (fun(k:Nat)=>⟨[(0,gR (l9 xs)),(3,.s (.own 0)),(4,gI .i64 (k:Nat))],[(0,.rows 66 3 (bO (xs.map aX) [rI 0,.nil,.nil] k))],1⟩) (fun k=>k≤xs.length) (fun k=>xs.length-k) 0 (by omega) (Wk.own [0] [] (by simp) (by simp) (by simp[←nd]) (by simp) (by simp)) fun k hk=>?_
 have nE:(bO (xs.map aX) [rI 0,.nil,.nil] k).length=xs.length:=by rw[gV (by simpa using hk),List.length_map]
 by_cases aj:k<xs.length
 ·have he:xs[k]?=some xs[k]:=List.getElem?_eq_getElem aj
  have aA:(k:Int)<(xs.length:Int):=by omega
  have aG:=wrap_add aj hlen;have hC:=Nu (E:=E) xs[k] (hs _ (List.getElem_mem aj));have cc:=iT (xs:=xs.map aX) (z:=[rI 0,.nil,.nil]) (k:=k) (by simpa using aj)
  have aY:=iU (xs:=xs.map aX) (z:=[rI 0,.nil,.nil]) (k:=k) (x:=aX xs[k]) (by rw[List.getElem?_map,he];rfl)
  generalize xs[k]=x at*;simp only[aX]at aY;generalize bO (xs.map aX) [rI 0,.nil,.nil] k=R at*;(refine TW.go ?_;simp[he,aA,aG,cc,nE,aY,aX];repeat' first|intro hc|refine aa.mk ?_|refine aI ?_|refine af ?_ ?_|(refine cP ?_;refine⟨_,hC,?_⟩;simp[he,aA,aG,cc,nE,aY,aX]))
  exact⟨k+1,by omega,by omega,Wk.own [0] [] (by simp) (by simp) (by simp[aY]) (by simp) (by simp)⟩
 ·obtain rfl:k=xs.length:=by omega
  rw[iV];(refine TW.go ?_;simp;repeat' first|intro hc|refine aa.mk ?_|refine aI ?_|refine af ?_ ?_)
  exact oW [] [0]
theorem Fc (xs:List eI)(hn:xs.length≤1048576):TC Tw.prog E 53 [gR (qu xs)] 0 [] (gR (qu xs)) []:=by
 refine tE Tryz.f53 Tryz.ntmps53 (by rw[Tryz.results53]) ?_
 refine TW.len 0 rfl fun hlen=>?_;simp only[List.length_map]at hlen;have hb:(xs.length:Int)≤1048576:=by omega
 (refine TW.go ?_;simp[hb,maxLen];repeat' first|intro hc|refine aa.mk ?_|refine aI ?_|refine af ?_ ?_)
 refine tL (fun(k:Nat)=>⟨[(0,gR (qu xs)),(3,.s (.own 0)),(4,gI .i64 (k:Nat))],[(0,.rows 62 5 (bO (xs.map bP) [rI 0,rI 0,rI 0,rI 0,rI 0] k))],1⟩) (fun k=>k≤xs.length) (fun k=>xs.length-k) 0 (by omega) (Wk.own [0] [] (by simp) (by simp) (by simp[←nd]) (by simp) (by simp)) fun k hk=>?_
 have nE:(bO (xs.map bP) [rI 0,rI 0,rI 0,rI 0,rI 0] k).length=xs.length:=by rw[gV (by simpa using hk),List.length_map]
 by_cases aj:k<xs.length
 ·have he:xs[k]?=some xs[k]:=List.getElem?_eq_getElem aj
  have aA:(k:Int)<(xs.length:Int):=by omega
  have aG:=wrap_add aj hlen;have hC:=J' (E:=E) xs[k];have cc:=iT (xs:=xs.map bP) (z:=[rI 0,rI 0,rI 0,rI 0,rI 0]) (k:=k) (by simpa using aj)
  have aY:=iU (xs:=xs.map bP) (z:=[rI 0,rI 0,rI 0,rI 0,rI 0]) (k:=k) (x:=bP xs[k]) (by rw[List.getElem?_map,he];rfl)
  generalize xs[k]=x at*;simp only[bP]at aY;generalize bO (xs.map bP) [rI 0,rI 0,rI 0,rI 0,rI 0] k=R at*;(refine TW.go ?_;simp[he,aA,aG,cc,nE,aY,bP];repeat' first|intro hc|refine aa.mk ?_|refine aI ?_|refine af ?_ ?_|(refine cP ?_;refine⟨_,hC,?_⟩;simp[he,aA,aG,cc,nE,aY,bP]))
  exact⟨k+1,by omega,by omega,Wk.own [0] [] (by simp) (by simp) (by simp[aY]) (by simp) (by simp)⟩
 ·obtain rfl:k=xs.length:=by omega
  rw[iV];(refine TW.go ?_;simp;repeat' first|intro hc|refine aa.mk ?_|refine aI ?_|refine af ?_ ?_)
  exact oW [] [0]
theorem Nw (w:az)(h:WLe w 1048576):TC Tw.prog E 17 [gW w] 0 [] (gW w) []:=by
 have h1:=Nv (E:=E) w.an h.sl h.st;have h2:=Kb (E:=E) w.ai h.gs.1 h.gs.2;have h3:=Kc (E:=E) w.rounds h.rl h.rn;have h4:=Ns (E:=E) w.bh h.bl;have h5:=Fc (E:=E) w.bC h.nl;refine tE Tryz.f17 Tryz.ntmps17 (by rw[Tryz.results17]) ?_
 (refine TW.go ?_;simp[wT];repeat' first|intro hc|refine aa.mk ?_|refine aI ?_|refine af ?_ ?_|(refine cP ?_;(first|refine⟨_,h1,?_⟩|refine⟨_,h2,?_⟩|refine⟨_,h3,?_⟩|refine⟨_,h4,?_⟩|refine⟨_,h5,?_⟩);simp[wT]))
 refine bo.own [] [] (by simp;rfl) (by simp[wT]) (by simp) (by simp) (by simp[wT]) (by simp)
end Go.Proofs.YtlhohdjniaebbaaGreat.T
