/-
What is proved: the program's check of a set of groups is the reference's. No condition. worlds as data, what the reference's events do to them, and that worlds keep their shape. No program's text is walked. No condition but those that the theorems state. what the reference's final stamp of a group does to trees. No condition but the lengths and ranges that each states. what the reference's functions of rounds do to trees. No condition but the lengths and ranges that each states.
-/
import Derived.Test.YtjklkppncmhehaaGreatRa34
set_option linter.unusedVariables false
set_option linter.unusedSimpArgs false
namespace Go.Proofs.YtjklkppncmhehaaGreat.T
open Go Go.RowKit
set_option maxRecDepth 100000
set_option maxHeartbeats 4000000
variable {E:List PanicEntry→World→Prop}
def zG (xs:List Int)(i:Nat):Bool:=decide (i=0)||decide (xs.getD (i-1) 0<xs.getD i 0)
def zH (xs:List Int):Bool:=bX xs.length (zG xs)
theorem Ci (xs:List Int):TC Tw.prog E 155 [gR (bL xs)] 0 [] (gB (zH xs)) []:=by
 refine tE Tryz.f155 Tryz.ntmps155 (by rw[Tryz.results155]) ?_
 refine TW.len 0 rfl fun hlen=>?_;simp only[List.length_map]at hlen;(refine TW.go ?_;simp;repeat' first|intro hc|refine aa.mk ?_|refine aI ?_|refine ah ?_ ?_)
 refine tL (fun(k:Nat)=>⟨[(0,gR (bL xs)),(3,gI .i64 ((k:Int)+1))],[],0⟩) (fun k=>k≤xs.length∧∀i,i<k+1→i<xs.length→zG xs i=true) (fun k=>xs.length-k) 0 ⟨by omega,fun i hi _=>(by obtain rfl:i=0:=(by omega);simp[zG])⟩ (kS) fun k hk=>?_
 obtain⟨hk,hf⟩:=hk;by_cases aj:k+1<xs.length
 ·have he:xs[k+1]?=some xs[k+1]:=List.getElem?_eq_getElem aj
  have dF:xs[k]?=some xs[k]:=List.getElem?_eq_getElem (by omega)
  have hw:=iX (k:=k) (by omega)
  have aF:=wrap_add (k:=k+1) aj hlen;simp only[Int.natCast_add,Int.natCast_one]at aF;have aw:(k:Int)+1<(xs.length:Int):=by omega
  have b_:zG xs (k+1)=decide (xs[k]<xs[k+1]):=by simp[zG,aj,show k<xs.length by omega]
  generalize xs[k+1]=b at*;generalize xs[k]=a at*;by_cases lR:b≤a
  ·rw[show zH xs=false from bY aj (by rw[b_];simp;omega)]
   (refine TW.go ?_;simp[he,dF,hw,aw,lR];repeat' first|intro hc|refine aa.mk ?_|refine aI ?_|refine ah ?_ ?_)
   exact oW [] []
  ·(refine TW.go ?_;simp[he,dF,hw,aF,aw,lR];repeat' first|intro hc|refine aa.mk ?_|refine aI ?_|refine ah ?_ ?_)
   refine⟨k+1,⟨by omega,fun i hi Mq=>?_⟩,by omega,kS⟩
   by_cases e:i=k+1
   ·subst e;rw[b_];simp;omega
   ·exact hf i (by omega) Mq
 ·have aw:¬(k:Int)+1<(xs.length:Int):=by omega
  rw[show zH xs=true from bH fun i hi=>hf i (by omega) hi]
  (refine TW.go ?_;simp[aw];repeat' first|intro hc|refine aa.mk ?_|refine aI ?_|refine ah ?_ ?_)
  exact oW [] []
def P6 (xs:List Int)(a b:Int):Bool:=bX xs.length fun i=>decide (a≤xs.getD i 0∧xs.getD i 0≤b)
theorem Jm (xs:List Int)(a b:Int):TC Tw.prog E 156 [gR (bL xs),gI .i64 a,gI .i64 b] 0 [] (gB (P6 xs a b)) []:=by
 refine tE Tryz.f156 Tryz.ntmps156 (by rw[Tryz.results156]) ?_
 refine TW.len 0 rfl fun hlen=>?_;simp only[List.length_map]at hlen;(refine TW.go ?_;simp;repeat' first|intro hc|refine aa.mk ?_|refine aI ?_|refine ah ?_ ?_)
 refine tL (fun(k:Nat)=>⟨[(1,gI .i64 a),(2,gI .i64 b),(9,gR (bL xs)),(10,gI .i64 xs.length),(11,gI .i64 (k:Nat))],[],0⟩) (fun k=>k≤xs.length∧∀i,i<k→a≤xs.getD i 0∧xs.getD i 0≤b) (fun k=>xs.length-k) 0 ⟨by omega,fun i hi=>by omega⟩ (kS) fun k hk=>?_
 obtain⟨hk,hf⟩:=hk;by_cases aj:k<xs.length
 ·have he:xs[k]?=some (xs.getD k 0):=by rw[List.getD_eq_getElem?_getD,List.getElem?_eq_getElem aj];rfl
  have aw:(k:Int)<(xs.length:Int):=by omega
  have aF:=wrap_add aj hlen;by_cases c7:a≤xs.getD k 0∧xs.getD k 0≤b
  ·have U:¬xs.getD k 0<a:=by omega
   have h2:¬b<xs.getD k 0:=by omega
   generalize hx:xs.getD k 0=x at*;(refine TW.go ?_;simp[he,aw,aF,U,h2];repeat' first|intro hc|refine aa.mk ?_|refine aI ?_|refine ah ?_ ?_)
   refine⟨k+1,⟨by omega,fun i hi=>?_⟩,by omega,kS⟩
   by_cases e:i=k
   ·subst e;rw[hx];exact c7
   ·exact hf i (by omega)
  ·rw[show P6 xs a b=false from bY aj (by simp only[decide_eq_false_iff_not];exact c7)]
   generalize xs.getD k 0=x at*;by_cases U:x<a
   ·(refine TW.go ?_;simp[he,aw,U];repeat' first|intro hc|refine aa.mk ?_|refine aI ?_|refine ah ?_ ?_)
    exact oW [] []
   ·have h2:b<x:=by omega
    (refine TW.go ?_;simp[he,aw,U,h2];repeat' first|intro hc|refine aa.mk ?_|refine aI ?_|refine ah ?_ ?_)
    exact oW [] []
 ·obtain rfl:k=xs.length:=by omega
  rw[show P6 xs a b=true from bH fun i hi=>by simpa using hf i hi]
  (refine TW.go ?_;simp;repeat' first|intro hc|refine aa.mk ?_|refine aI ?_|refine ah ?_ ?_)
  exact oW [] []
theorem P7 (xs:List Int):fD xs=(decide (0<xs.length)&&zH xs&&P6 xs 0 4):=by
 rw[Bool.eq_iff_iff];simp only[fD,zH,P6,Bool.and_eq_true,decide_eq_true_eq,bX,List.all_eq_true,List.mem_range,nP,zG,bw,Bool.or_eq_true];constructor
 ·rintro⟨U,h2⟩
  exact⟨⟨h2,fun i hi=>(U i hi).2⟩,fun i hi=>by have:=(U i hi).1;omega⟩
 ·rintro⟨⟨U,h2⟩,h3⟩
  exact⟨fun i hi=>⟨by have:=h3 i hi;omega,h2 i hi⟩,U⟩
theorem GO (xs:List Int):TC Tw.prog E 114 [gR (bL xs)] 0 [] (gB (fD xs)) []:=by
 rw[P7];have hA:=Ci (E:=E) xs;have hI:=Jm (E:=E) xs 0 4;refine tE Tryz.f114 Tryz.ntmps114 (by rw[Tryz.results114]) ?_
 by_cases hl:0<xs.length
 ·have jM:(0:Int)<xs.length:=by omega
  cases ha:zH xs
  ·rw[ha]at hA
   (refine TW.go ?_;simp[hl,jM];repeat' first|intro hc|refine aa.mk ?_|refine aI ?_|refine ah ?_ ?_|(refine cP ?_;(first|refine⟨_,hA,?_⟩|refine⟨_,hI,?_⟩);simp[hl,jM]))
   refine ar.own [] [] (by simp;rfl) (by simp[hl]) (by simp) (by simp) (by simp[hl]) (by simp)
  ·rw[ha]at hA
   (refine TW.go ?_;simp[hl,jM];repeat' first|intro hc|refine aa.mk ?_|refine aI ?_|refine ah ?_ ?_|(refine cP ?_;(first|refine⟨_,hA,?_⟩|refine⟨_,hI,?_⟩);simp[hl,jM]))
   refine ar.own [] [] (by simp;rfl) (by simp[hl]) (by simp) (by simp) (by simp[hl]) (by simp)
 ·have eH:xs=[]:=List.length_eq_zero_iff.1 (by omega)
  subst eH;(refine TW.go ?_;simp;repeat' first|intro hc|refine aa.mk ?_|refine aI ?_|refine ah ?_ ?_)
  exact oW [] []
theorem xP (xs:List Int):TC Tw.prog E 57 [gR (bL xs)] 0 [] (gB (fD xs)) []:=by
 refine tE Tryz.f57 Tryz.ntmps57 (by rw[Tryz.results57]) ?_
 (refine TW.go ?_;simp;repeat' first|intro hc|refine aa.mk ?_|refine aI ?_|refine ah ?_ ?_|(refine cP ?_;refine⟨_,GO xs,?_⟩;simp))
 exact oW [] []
end Go.Proofs.YtjklkppncmhehaaGreat.T
namespace Go.Proofs.YtjklkppncmhehaaGreat.T
open Go Go.RowKit
structure fb where
 m:Int
 gs:List Int
 bm:List (Int×Int)
structure jU where
 k:Int
 m:Int
 g:Int
 t:Int
 s:Int
structure aB where
 aH:List (List Int)
 aO:List az
 rounds:List fb
 bA:List Bool
 bP:List jU
def aX (r:fb):List RT:=[rI r.m,bL r.gs,PB r.bm]
def cU (p:jU):List RT:=[rI p.k,rI p.m,rI p.g,rI p.t,rI p.s]
abbrev I9 (xs:List (List Int)):RT:= .sl 1 (xs.map fun s=>[bL s])
abbrev I_ (rs:List fb):RT:= .sl 3 (rs.map aX)
abbrev PC (bs:List Bool):RT:= .sl 1 (bs.map fun b=>[rB b])
abbrev Ss (ps:List jU):RT:= .sl 5 (ps.map cU)
def wT (w:aB):List RT:=[I9 w.aH,dD w.aO,I_ w.rounds,PC w.bA,Ss w.bP]
abbrev gW (w:aB):GV:= .a ((wT w).map .r)
def k9:List aK→List aK→List Int→List aK×List aK×List Int
 |[],d,told=>([],d,told)
 |e::es,d,told=>if e.f=true then k9 es (d++[e]) (told++[e.m])else(e::es,d,told)
def oP (es:List aK)(t s:Int):Nat:=(es.takeWhile fun e=>aU e.t e.g t s).length
def tz (es:List aK)(n:Nat)(t s:Int):Bool:=match es[n]? with
 |some e=>decide (e.t=t)&&decide (e.g=s)
 |none=>false
def nR (es:List aK)(m t s:Int):List aK:=es.take (oP es t s)++[⟨m,t,s,true⟩]++es.drop (oP es t s)
def bR (g:az)(m t s:Int):az×List Int×Bool:=match g.aN[(cA g.aN m).toNat]? with
 |some e=>if cA g.aN m<0∨e.f=true∨aU t s e.t e.g=true then(g,[],false)
  else if tz (g.aN.eraseIdx (cA g.aN m).toNat) (oP (g.aN.eraseIdx (cA g.aN m).toNat) t s) t s=true then(g,[],false)
  else(⟨g.id,if g.clock<t then t else g.clock,(k9 (nR (g.aN.eraseIdx (cA g.aN m).toNat) m t s) g.done []).1,(k9 (nR (g.aN.eraseIdx (cA g.aN m).toNat) m t s) g.done []).2.1⟩,(k9 (nR (g.aN.eraseIdx (cA g.aN m).toNat) m t s) g.done []).2.2,true)
 |none=>(g,[],false)
def sC (r:fb)(i:Nat):Bool:=match r.bm[i]? with
 |some s=>bb s.1 s.2&&oN r.gs s.2&&(decide (i=0)||(match r.bm[i-1]? with|some d=>decide (d.2<s.2)|none=>true))
 |none=>true
def oQ (r:fb):Bool:=bX r.bm.length (sC r)&&bC r.m&&fD r.gs
def oR (r:fb)(g:Int):Bool:=r.bm.any fun s=>decide (s.2=g)
def fI (r:fb):List Int:=if oQ r=true then r.gs.filter fun g=> !oR r g else[]
def qf (bm:List (Int×Int))(g:Int):Nat:=(bm.takeWhile fun s=>decide (s.2<g)).length
def xy (bm:List (Int×Int))(n:Nat)(g:Int):Bool:=match bm[n]? with
 |some s=>decide (s.2=g)
 |none=>false
def mC (r:fb)(t s:Int):fb×Bool:=
 if oN r.gs s=false∨xy r.bm (qf r.bm s) s=true then(r,false)
 else(⟨r.m,r.gs,r.bm.take (qf r.bm s)++[(t,s)]++r.bm.drop (qf r.bm s)⟩,true)
def mD:List (Int×Int)→Int×Int
 |[]=>(0,0)
 |x::xs=>fH x xs
def jL (r:fb):(Int×Int)×Bool:=if r.bm.length<r.gs.length then((0,0),false)else(mD r.bm,true)
def gA (gs:List az)(m:Int):List Int→List (Int×Int)→(Int×Int)⊕ List (Int×Int)
 |[],acc=> .inr acc
 |g::set,acc=>if gT (aG gs g.toNat) m&&(bG (aG gs g.toNat) m).f then .inl ((bG (aG gs g.toNat) m).t,(bG (aG gs g.toNat) m).g)
  else gA gs m set (if gT (aG gs g.toNat) m then acc++[((bG (aG gs g.toNat) m).t,(bG (aG gs g.toNat) m).g)]else acc)
def bD (gs:List az)(set:List Int)(m:Int):(Int×Int)×Bool:=match gA gs m set []with
 | .inl s=>(s,true)
 | .inr l=>if l.length<set.length then((0,0),false)else(mD l,true)
def bN (gs:List az)(m:Int)(set:List Int):List az:=set.foldl (fun gs g=>gs.set g.toNat (aM (aG gs g.toNat) m).1) gs
def ee (gs:List az)(m:Int)(s:Int×Int)(set:List Int):List az:=set.foldl (fun gs g=>gs.set g.toNat (bR (aG gs g.toNat) m s.1 s.2).1) gs
def eM (gs:List az)(m:Int)(set:List Int):Bool:=set.all fun g=>gT (aG gs g.toNat) m&&(bG (aG gs g.toNat) m).f
def sE (gs:List az)(set:List Int)(m:Int):List az×Bool:=
 if(bD (bN gs m set) set m).2=true then(ee (bN gs m set) m (bD (bN gs m set) set m).1 set,eM (ee (bN gs m set) m (bD (bN gs m set) set m).1 set) m set)
 else(bN gs m set,false)
def setAt (w:aB)(m:Int):List Int:=w.aH.getD m.toNat []
def cn (w:aB)(m:Int):fb:=w.rounds.getD m.toNat ⟨0,[],[]⟩
def pr (w:aB)(m:Int):Bool:=w.bA.getD m.toNat false
def ef (w:aB)(p:jU):aB:=if w.bP.length<16 then⟨w.aH,w.aO,w.rounds,w.bA,w.bP++[p]⟩else w
def jw (w:aB)(m:Int)(gs:List Int):aB:=gs.foldl (fun w g=>ef w ⟨1,m,g,0,0⟩) w
def oS (w:aB)(m:Int)(s:Int×Int)(gs:List Int):aB:=gs.foldl (fun w g=>ef w ⟨3,m,g,s.1,s.2⟩) w
def oT (w:aB)(m:Int):aB:=if(jL (cn w m)).2=true then oS w m (jL (cn w m)).1 (setAt w m)else w
def nz (n:Int):Nat→Int→List Int
 |0,_=>[]
 |k+1,g=>if n.tmod 2=1 then g::nz (n.tdiv 2) k (g+1)else nz (n.tdiv 2) k (g+1)
def iZ (n:Int):List Int:=nz n 5 0
def k_ (w:aB)(n:Int):aB:=if 1≤n∧n≤31∧w.aH.length<12 then jw ⟨w.aH++[iZ n],w.aO,w.rounds++[⟨w.aH.length,iZ n,[]⟩],w.bA++[false],w.bP⟩ w.aH.length (iZ n)else w
def tA (w:aB)(p:jU):aB:=
 if p.k=1 then
  if(aM (aG w.aO p.g.toNat) p.m).2.2=true then ef ⟨w.aH,w.aO.set p.g.toNat (aM (aG w.aO p.g.toNat) p.m).1,w.rounds,w.bA,w.bP⟩ ⟨2,p.m,p.g,(aM (aG w.aO p.g.toNat) p.m).2.1.1,(aM (aG w.aO p.g.toNat) p.m).2.1.2⟩
  else⟨w.aH,w.aO.set p.g.toNat (aM (aG w.aO p.g.toNat) p.m).1,w.rounds,w.bA,w.bP⟩
 else if p.k=2 then
  if pr w p.m=true then w
  else if(mC (cn w p.m) p.t p.s).2=true then oT ⟨w.aH,w.aO,w.rounds.set p.m.toNat (mC (cn w p.m) p.t p.s).1,w.bA,w.bP⟩ p.m
  else⟨w.aH,w.aO,w.rounds.set p.m.toNat (mC (cn w p.m) p.t p.s).1,w.bA,w.bP⟩
 else if p.k=3 then⟨w.aH,w.aO.set p.g.toNat (bR (aG w.aO p.g.toNat) p.m p.t p.s).1,w.rounds,w.bA,w.bP⟩
 else w
def Gv (w:aB)(k a:Int):aB:=if a<0 then w else match w.bP[a.toNat]? with
 |none=>w
 |some p=>if k=4 then ef w p else if k=2 then tA ⟨w.aH,w.aO,w.rounds,w.bA,w.bP.eraseIdx a.toNat⟩ p else⟨w.aH,w.aO,w.rounds,w.bA,w.bP.eraseIdx a.toNat⟩
def oU (w:aB)(k a:Int):aB:=if a<0∨(w.aH.length:Int)≤a then w
 else if k=5 then⟨w.aH,w.aO,w.rounds,w.bA.set a.toNat true,w.bP⟩
 else if k=6 then if pr w a=true then w else oT (jw w a (fI (cn w a))) a
 else if k=7 then if(sE w.aO (setAt w a) a).2=true then⟨w.aH,(sE w.aO (setAt w a) a).1,w.rounds,w.bA,w.bP⟩else w
 else w
def I' (w:aB)(k a:Int):aB:=if k=1 then k_ w a else if k=2∨k=3∨k=4 then Gv w k a else oU w k a
def fc (g:az)(n:Nat):Prop:=g.aN.length+g.done.length≤n∧0≤g.clock
def B5 (s:List Int):Prop:=s≠[]∧s.length≤5∧∀g∈s,0≤g∧g<5
def uy (r:fb)(n:Nat):Prop:=r.gs≠[]∧r.gs.length≤n+5∧r.bm.length≤n
def tB (w:aB)(p:jU):Prop:=0≤p.m∧p.m<w.aH.length∧0≤p.g∧p.g<5
structure cM (n:Nat) (w:aB):Prop where
 g5:w.aO.length=5
 uQ:∀g∈w.aO,fc g n
 Mz:w.aH.length≤12
 set:∀s∈w.aH,B5 s
 rl:w.rounds.length=w.aH.length
 Jb:∀r∈w.rounds,uy r n
 sl:w.bA.length=w.aH.length
 nl:w.bP.length≤16
 bP:∀p∈w.bP,tB w p
theorem fc.mono {g:az}{n n':Nat}(h:fc g n)(hn:n≤n'):fc g n':=⟨Nat.le_trans h.1 hn,h.2⟩
theorem uy.mono {r:fb}{n n':Nat}(h:uy r n)(hn:n≤n'):uy r n':=⟨h.1,by have:=h.2.1;omega,by have:=h.2.2;omega⟩
theorem cM.mono {w:aB}{n n':Nat}(h:cM n w)(hn:n≤n'):cM n' w:={h with uQ:=fun g hg=>(h.uQ g hg).mono hn,Jb:=fun r hr=>(h.Jb r hr).mono hn}
theorem zw:∀(es d:List aK) (told:List Int),(k9 es d told).1.length+(k9 es d told).2.1.length=es.length+d.length
 |[],d,told=>rfl
 |e::es,d,told=>by
  unfold k9;split
  ·rw[zw es];simp;omega
  ·rfl
theorem ld {g:az}{n:Nat}(m:Int)(h:fc g n):fc (aM g m).1 (n+1):=by
 have U:fc g (n+1):=h.mono (by omega)
 unfold aM;split
 ·split<;>exact U
 ·split
  ·exact U
  ·split
   ·exact U
   ·exact⟨by have:=h.1;simp;omega,by have:=h.2;simp only;omega⟩
theorem sF {g:az}{n:Nat}(m t s:Int)(h:fc g n):fc (bR g m t s).1 n:=by
 unfold bR;split
 ·rename_i e he
  split
  ·exact h
  ·split
   ·exact h
   ·refine⟨?_,by have:=h.2;simp only;split<;>omega⟩
    simp only
    rw[zw];have aj:(cA g.aN m).toNat<g.aN.length:=(List.getElem?_eq_some_iff.1 he).1
    have U:=List.length_eraseIdx_of_lt aj;have:=h.1
    simp only[nR,List.length_append,List.length_take,List.length_drop,List.length_singleton];omega
 ·exact h
theorem oV {gs:List az}{i:Nat}(h:i<gs.length):aG gs i∈gs:=by
 unfold aG;rw[List.getD_eq_getElem?_getD,List.getElem?_eq_getElem h];exact List.getElem_mem h
theorem mem_set {α:Type}{xs:List α}{i:Nat}{a x:α}(h:x∈xs.set i a):x=a∨x∈xs:=(List.mem_or_eq_of_mem_set h).symm
theorem cM.B6 {w:aB}{n:Nat}(h:cM n w)(i:Nat){g:az}(hg:fc g n):cM n ⟨w.aH,w.aO.set i g,w.rounds,w.bA,w.bP⟩:=
 {h with
  g5:=by simpa using h.g5
  uQ:=fun x hx=>by
   rcases mem_set hx with rfl|hx
   ·exact hg
   ·exact h.uQ x hx
  bP:=h.bP}
theorem cM.post {w:aB}{n:Nat}(h:cM n w){p:jU}(hp:tB w p):cM n (ef w p):=by
 unfold ef;split
 ·refine {h with nl:=by simp;omega,bP:=fun x hx=>?_}
  rcases List.mem_append.1 hx with hx|hx
  ·exact h.bP x hx
  ·simp only[List.mem_singleton]at hx;subst hx;exact hp
 ·exact h
theorem uz (w:aB)(p:jU):(ef w p).aH=w.aH:=by unfold ef;split<;>rfl
theorem cM.xz {n:Nat}(f:Int→jU):∀(gs:List Int) (w:aB),cM n w→(∀g∈gs,tB w (f g))→cM n (gs.foldl (fun w g=>ef w (f g)) w)
 |[],w,h,_=>h
 |g::gs,w,h,hp=>cM.xz f gs _ (h.post (hp g (List.mem_cons_self ..))) fun x hx=>by
  have:=hp x (List.mem_cons_of_mem _ hx)
  unfold tB at*;rw[uz];exact this
theorem lN (f:Int→jU):∀(gs:List Int) (w:aB),(gs.foldl (fun w g=>ef w (f g)) w).aH=w.aH
 |[],w=>rfl
 |g::gs,w=>by rw[List.foldl_cons,lN f gs,uz]
theorem pt {w:aB}{n:Nat}(h:cM n w){m:Int}(h0:0≤m)(U:m<w.aH.length):B5 (setAt w m):=by
 unfold setAt;rw[List.getD_eq_getElem?_getD,List.getElem?_eq_getElem (by omega)]
 exact h.set _ (List.getElem_mem _)
theorem kt {w:aB}{n:Nat}(h:cM n w){m:Int}(h0:0≤m)(U:m<w.aH.length):uy (cn w m) n:=by
 unfold cn;rw[List.getD_eq_getElem?_getD,List.getElem?_eq_getElem (by rw[h.rl];omega)]
 exact h.Jb _ (List.getElem_mem _)
theorem cM.tell {w:aB}{n:Nat}(h:cM n w){m:Int}(h0:0≤m)(U:m<w.aH.length):cM n (oT w m):=by
 unfold oT;split
 ·refine cM.xz (fun g=>⟨3,m,g,(jL (cn w m)).1.1,(jL (cn w m)).1.2⟩) _ w h fun g hg=>?_
  have:=(pt h h0 U).2.2 g hg
  exact⟨h0,U,this.1,this.2⟩
 ·exact h
theorem Jc {r:fb}{n:Nat}(t s:Int)(h:uy r n):uy (mC r t s).1 (n+1):=by
 unfold mC;split
 ·exact h.mono (by omega)
 ·refine⟨h.1,by have:=h.2.1;simp only;omega,?_⟩
  have:=h.2.2
  simp only[List.length_append,List.length_take,List.length_drop,List.length_singleton];omega
theorem cM.B7 {w:aB}{n:Nat}(h:cM n w)(i:Nat){r:fb}(hr:uy r n):cM n ⟨w.aH,w.aO,w.rounds.set i r,w.bA,w.bP⟩:=
 {h with
  rl:=by simpa using h.rl
  Jb:=fun x hx=>by
   rcases mem_set hx with rfl|hx
   ·exact hr
   ·exact h.Jb x hx
  bP:=h.bP}
theorem cM.erase {w:aB}{n:Nat}(h:cM n w)(i:Nat):cM n ⟨w.aH,w.aO,w.rounds,w.bA,w.bP.eraseIdx i⟩:=
 {h with
  nl:=Nat.le_trans (List.length_eraseIdx_le ..) h.nl
  bP:=fun p hp=>h.bP p (List.mem_of_mem_eraseIdx hp)}
theorem cM.hear {w:aB}{n:Nat}(h:cM n w){p:jU}(hp:tB w p):cM (n+1) (tA w p):=by
 obtain⟨h0,U,h2,h3⟩:=hp;have h':=h.mono (n':=n+1) (by omega)
 have hg:fc (aG w.aO p.g.toNat) n:=h.uQ _ (oV (by rw[h.g5];omega))
 unfold tA;split
 ·split
  ·exact(h'.B6 _ (ld _ hg)).post ⟨h0,U,h2,h3⟩
  ·exact h'.B6 _ (ld _ hg)
 ·split
  ·split
   ·exact h'
   ·split
    ·exact(h'.B7 _ (Jc _ _ (kt h h0 U))).tell h0 U
    ·exact h'.B7 _ (Jc _ _ (kt h h0 U))
  ·split
   ·exact h'.B6 _ (sF _ _ _ (hg.mono (by omega)))
   ·exact h'
theorem cM.Xh {w:aB}{n:Nat}(h:cM n w)(k a:Int):cM (n+1) (Gv w k a):=by
 have h':=h.mono (n':=n+1) (by omega)
 unfold Gv;split
 ·exact h'
 ·split
  ·exact h'
  ·rename_i p hp
   have Xi:=List.mem_of_getElem? hp;split
   ·exact h'.post (h.bP p Xi)
   ·split
    ·exact(h.erase _).hear (h.bP p Xi)
    ·exact h'.erase _
theorem zx:∀(k:Nat) (n g:Int),(nz n k g).length≤k∧∀x∈nz n k g,g≤x∧x<g+k
 |0,n,g=>⟨Nat.le_refl _,fun x hx=>by cases hx⟩
 |k+1,n,g=>by
  obtain⟨U,h2⟩:=zx k (n.tdiv 2) (g+1);unfold nz;split
  ·refine⟨by simp;omega,fun x hx=>?_⟩
   rcases List.mem_cons.1 hx with rfl|hx
   ·omega
   ·have:=h2 x hx;omega
  ·exact⟨by omega,fun x hx=>by have:=h2 x hx;omega⟩
theorem MA:∀k,k<31→(fD (iZ (k+1:Nat))=true∧iZ (k+1:Nat)≠[]):=by decide+kernel
theorem Gw {n:Int}(U:1≤n)(h2:n≤31):fD (iZ n)=true∧B5 (iZ n):=by
 obtain⟨k,rfl⟩:∃k:Nat,n=(k+1:Nat):=⟨(n-1).toNat,by omega⟩
 obtain⟨a,b⟩:=MA k (by omega)
 obtain⟨c,d⟩:=zx 5 ((k+1:Nat):Int) 0;exact⟨a,b,c,fun g hg=>by have:=d g hg;omega⟩
theorem cM.send {w:aB}{n:Nat}(h:cM n w)(k:Int):cM n (k_ w k):=by
 unfold k_;split
 ·rename_i hk
  obtain⟨U,h2,h3⟩:=hk;obtain⟨b1,b2⟩:=Gw U h2;refine cM.xz (fun g=>⟨1,w.aH.length,g,0,0⟩) _ _ ⟨h.g5,h.uQ,by simp;omega,fun s hs=>?_,by simp[h.rl],fun r hr=>?_,by simp[h.sl],h.nl,fun p hp=>?_⟩ fun g hg=>?_
  ·rcases List.mem_append.1 hs with hs|hs
   ·exact h.set s hs
   ·simp only[List.mem_singleton]at hs;subst hs;exact b2
  ·rcases List.mem_append.1 hr with hr|hr
   ·exact h.Jb r hr
   ·simp only[List.mem_singleton]at hr;subst hr;exact⟨b2.1,by have:=b2.2.1;simp only;omega,Nat.zero_le _⟩
  ·obtain⟨a,b,c⟩:=h.bP p hp
   exact⟨a,by simp;omega,c⟩
  ·have:=b2.2.2 g hg
   exact⟨by simp only;omega,by simp;omega,this.1,this.2⟩
 ·exact h
theorem nA {n:Nat}(m:Int):∀(set:List Int) (gs:List az) (j:Nat),(∀g∈set,0≤g∧g<5)→gs.length=5→(∀g∈gs,fc g j)→j+set.length≤n→(bN gs m set).length=5∧∀g∈bN gs m set,fc g n
 |[],gs,j,_,h5,hg,hn=>⟨h5,fun g h=>(hg g h).mono (by simpa using hn)⟩
 |x::set,gs,j,hs,h5,hg,hn=>by
  unfold bN;rw[List.foldl_cons];refine nA m set _ (j+1) (fun g h=>hs g (List.mem_cons_of_mem _ h)) (by simpa using h5) (fun g h=>?_) (by simp at hn;omega)
  rcases mem_set h with rfl|h
  ·have:=hs x (List.mem_cons_self ..)
   exact ld m (hg _ (oV (by omega)))
  ·exact(hg g h).mono (by omega)
theorem pv {n:Nat}(m:Int)(s:Int×Int):∀(set:List Int) (gs:List az),(∀g∈set,0≤g∧g<5)→gs.length=5→(∀g∈gs,fc g n)→(ee gs m s set).length=5∧∀g∈ee gs m s set,fc g n
 |[],gs,_,h5,hg=>⟨h5,hg⟩
 |x::set,gs,hs,h5,hg=>by
  unfold ee;rw[List.foldl_cons];refine pv m s set _ (fun g h=>hs g (List.mem_cons_of_mem _ h)) (by simpa using h5) fun g h=>?_
  rcases mem_set h with rfl|h
  ·have:=hs x (List.mem_cons_self ..)
   exact sF m _ _ (hg _ (oV (by omega)))
  ·exact hg g h
theorem RP {n:Nat}(m:Int)(set:List Int)(gs:List az)(hs:B5 set)(h5:gs.length=5)(hg:∀g∈gs,fc g n):(sE gs set m).1.length=5∧∀g∈(sE gs set m).1,fc g (n+5):=by
 obtain⟨U,h2⟩:=nA (n:=n+5) m set gs n hs.2.2 h5 hg (by have:=hs.2.1;omega)
 unfold sE;split
 ·exact pv m _ set _ hs.2.2 U h2
 ·exact⟨U,h2⟩
theorem cM.RQ {w:aB}{n:Nat}(h:cM n w)(k a:Int):cM (n+5) (oU w k a):=by
 have h':=h.mono (n':=n+5) (by omega)
 unfold oU;split
 ·exact h'
 ·rename_i ha
  have ep:0≤a:=by omega
  have mE:a<w.aH.length:=by omega
  split
  ·exact {h' with sl:=by simpa using h'.sl,bP:=h'.bP}
  ·split
   ·split
    ·exact h'
    ·have hr:=kt h ep mE
     have hm:∀g∈fI (cn w a),0≤g∧g<5:=by
      intro g hg;unfold fI at hg;split at hg
      ·rename_i hb
       have hg:=(List.mem_filter.1 hg).1;simp only[oQ,Bool.and_eq_true]at hb;have hs:=hb.2;simp only[fD,Bool.and_eq_true,bX,List.all_eq_true,List.mem_range]at hs;obtain⟨i,hi,rfl⟩:=List.getElem_of_mem hg;have:=hs.1 i hi
       simp only[nP,Bool.and_eq_true,bw]at this;have:=this.1
       rw[List.getD_eq_getElem?_getD,List.getElem?_eq_getElem hi]at this;simpa using this
      ·cases hg
     have hA:cM (n+5) (jw w a (fI (cn w a))):=cM.xz (fun g=>⟨1,a,g,0,0⟩) _ w h' fun g hg=>⟨ep,mE,(hm g hg).1,(hm g hg).2⟩
     refine hA.tell ep ?_;unfold jw;rw[lN];exact mE
   ·split
    ·split
     ·obtain⟨U,h2⟩:=RP (n:=n) a (setAt w a) w.aO (pt h ep mE) h.g5 h.uQ
      exact {h' with g5:=U,uQ:=h2,bP:=h'.bP}
     ·exact h'
    ·exact h'
theorem cM.event {w:aB}{n:Nat}(h:cM n w)(k a:Int):cM (n+5) (I' w k a):=by
 unfold I';split
 ·exact(h.send a).mono (by omega)
 ·split
  ·exact(h.Xh k a).mono (by omega)
  ·exact h.RQ k a
end Go.Proofs.YtjklkppncmhehaaGreat.T
namespace Go.Proofs.YtjklkppncmhehaaGreat.T
open Go Go.RowKit
set_option maxRecDepth 100000
set_option maxHeartbeats 4000000
variable {E:List PanicEntry→World→Prop}
abbrev lf (xs:List Int):ak:= .rows 3 1 (xs.map fun n=>[rI n])
theorem PD {es:List aK}{t s:Int}{k:Nat}{e:aK}(hk:∀i,i<k→∀x,es[i]?=some x→aU x.t x.g t s=true)(he:es[k]?=some e)(h:aU e.t e.g t s=false):oP es t s=k:=by
 unfold oP;induction es generalizing k with
 |nil=>simp at he
 |cons x es ih=>
  cases k with
  |zero=>
   cases he;rw[List.takeWhile_cons];simp[h]
  |succ k=>
   have h0:=hk 0 (by omega) x rfl
   rw[List.takeWhile_cons,if_pos h0,List.length_cons,ih (k:=k) (fun i hi y hy=>hk (i+1) (by omega) y (by simpa using hy)) (by simpa using he)]
theorem MB {es:List aK}{t s:Int}(hk:∀i,i<es.length→∀x,es[i]?=some x→aU x.t x.g t s=true):oP es t s=es.length:=by
 have h:es.takeWhile (fun e=>aU e.t e.g t s)=es:=by
  induction es with
  |nil=>rfl
  |cons x es ih=>
   rw[List.takeWhile_cons,if_pos (hk 0 (by simp) x rfl),ih fun i hi y hy=>hk (i+1) (by simp;omega) y (by simpa using hy)]
 unfold oP;rw[h]
abbrev RS (r:az×List Int×Bool):GV:= .p [Gq r.1 0 1,.s (.own 2),gB r.2.2]
abbrev RU (r:az×List Int×Bool):List (Nat×ak):=[(0,dx r.1.aN),(1,dx r.1.done),(2,lf r.2.1)]
theorem oX (g:az)(m t s:Int)(h:fc g 4294967290):TC Tw.prog E 123 [.a ((ai g).map .r),gI .i64 m,km (t,s)] 0 [] (RS (bR g m t s)) (RU (bR g m t s)):=by
 obtain⟨PE,h0⟩:=h;have hle:fE g 4294967296:=⟨by omega,by omega⟩
 refine tE Tryz.f123 Tryz.ntmps123 (by rw[Tryz.results123]) ?_
 rcases dZ g.aN m with⟨hp,aV⟩|⟨j,e,hp,he,aV,_⟩
 ·have hr:bR g m t s=(g,[],false):=by
   unfold bR;split
   ·rw[if_pos (.inl (by omega))]
   ·rfl
  rw[hr];(refine TW.go ?_;simp[ai,au,hp];repeat' first|intro hc|refine aa.mk ?_|refine aI ?_|refine ah ?_ ?_|(refine cP ?_;(first|refine⟨_,cf _ _,?_⟩|refine⟨_,cY _ _ _ _,?_⟩);simp[ai,au,hp])|(refine cF [] 2 ?_;refine⟨_,_,c9 _ hle,?_⟩;simp[ai,au,hp]))
  exact oW [3,4,6] []
 ·have hj:j<g.aN.length:=(List.getElem?_eq_some_iff.1 he).1
  have UM:(cA g.aN m).toNat=j:=by omega
  have yb:¬((j:Int)<0):=by omega
  cases hf:e.f
  ·cases hl:aU t s e.t e.g
   ·have MC:IntKind.i64.wrap ((j:Int)+1)=(j:Int)+1:=aL (by omega) (by omega)
    generalize B9:g.aN.take j++g.aN.drop (j+1)=rest;have MD:rest.length≤4294967290:=by rw[←B9];simp;omega
    have hlen:rest.length≤maxLen:=by simp only[maxLen];omega
    have Xj:g.aN.eraseIdx j=rest:=by rw[List.eraseIdx_eq_take_drop_succ,B9]
    have qg:bR g m t s=if tz rest (oP rest t s) t s=true then(g,[],false)else(⟨g.id,if g.clock<t then t else g.clock,(k9 (nR rest m t s) g.done []).1,(k9 (nR rest m t s) g.done []).2.1⟩,(k9 (nR rest m t s) g.done []).2.2,true):=by
     unfold bR;rw[UM,he];simp only
     rw[if_neg (by simp[hp,hf,hl]),Xj]
    (refine TW.go ?_;simp[ai,au,hp,he,yb,hf,hl,MC,maxLen];repeat' first|intro hc|refine aa.mk ?_|refine aI ?_|refine ah ?_ ?_|(refine cP ?_;(first|refine⟨_,cf _ _,?_⟩|refine⟨_,cY _ _ _ _,?_⟩);simp[ai,au,hp,he,yb,hf,hl,MC,maxLen])|(refine cF [] 2 ?_;refine⟨_,_,c9 _ hle,?_⟩;simp[ai,au,hp,he,yb,hf,hl,MC,maxLen]))
    refine tL (fun(k:Nat)=>⟨[(1,gI .i64 m),(3,.s (.ptr 0 0)),(5,.s (.ptr 1 0)),(6,.s (.ptr 2 0)),(9,.s (.ptr 3 0)),(10,.s (.own 4)),(12,gR (dw rest)),(13,gI .i64 (k:Nat))],
     [(0,.box ((ai g).map .r)),(1,.box [.r (rI t),.r (rI s)]),(2,.box [.r (rI 0),.r (rI 0),.r .nil,.r .nil]),(3,.box [.r (rI g.id),.r (rI g.clock),.own 5,.own 6]),(4,lf []),(5,dx g.aN),(6,dx g.done)],7⟩) (fun k=>k≤rest.length∧∀i,i<k→∀x,rest[i]?=some x→aU x.t x.g t s=true) (fun k=>rest.length-k) 0 ⟨by omega,fun i hi=>by omega⟩
     (Wk.own [0,1,2,5,6,3,4] [9] (by simp) (by simp[←B9]) (by simp[ai]) (by simp) (by simp)) fun k hk=>?_
    obtain⟨hk,pK⟩:=hk;have kC:(∃x,rest[k]?=some x∧aU x.t x.g t s=true)∨(∃x,rest[k]?=some x∧aU x.t x.g t s=false∧oP rest t s=k)∨(k=rest.length∧oP rest t s=k):=by
     rcases hx:rest[k]? with _|x
     ·have tC:k=rest.length:=by have:=List.getElem?_eq_none_iff.1 hx;omega
      refine .inr (.inr ⟨tC,?_⟩);subst tC;exact MB pK
     ·cases iD:aU x.t x.g t s
      ·exact .inr (.inl ⟨x,rfl,iD,PD pK hx iD⟩)
      ·exact .inl ⟨x,rfl,iD⟩
    rcases kC with⟨x,hx,iD⟩|kC
    ·have aj:k<rest.length:=(List.getElem?_eq_some_iff.1 hx).1
     have aw:(k:Int)<(rest.length:Int):=by omega
     have aF:=wrap_add aj hlen;(refine TW.go ?_;simp[aw,hx,iD,au,aF];repeat' first|intro hc|refine aa.mk ?_|refine aI ?_|refine ah ?_ ?_|(refine cP ?_;refine⟨_,cY _ _ _ _,?_⟩;simp[aw,hx,iD,au,aF]))
     refine⟨k+1,⟨by omega,fun i hi y hy=>?_⟩,by omega,Wk.own [0,1,2,3,4,5,6] [] (by simp) (by simp) (by simp[ai]) (by simp) (by simp)⟩
     by_cases e:i=k
     ·subst e;rw[hx]at hy;cases hy;exact iD
     ·exact pK i (by omega) y hy
    ·have J1:oP rest t s=k:=by
      rcases kC with⟨_,_,_,h⟩|⟨_,h⟩<;>exact h
     rw[J1]at qg;by_cases te:tz rest k t s=true
     ·rw[if_pos te]at qg
      rw[qg];rcases kC with⟨x,hx,iD,_⟩|⟨tC,_⟩
      ·have aj:k<rest.length:=(List.getElem?_eq_some_iff.1 hx).1
       have aw:(k:Int)<(rest.length:Int):=by omega
       simp only[tz,hx]at te;(refine TW.go ?_;simp[aw,hx,iD,te,ai,au];repeat' first|intro hc|refine aa.mk ?_|refine aI ?_|refine ah ?_ ?_|(refine cP ?_;refine⟨_,cY _ _ _ _,?_⟩;simp[aw,hx,iD,te,ai,au]))
       exact oW [5,6,4] []
      ·subst tC
       simp[tz]at te
     ·rw[if_neg te]at qg
      rw[qg];have Su:nR rest m t s=rest.take k++[⟨m,t,s,true⟩]++rest.drop k:=by rw[nR,J1]
      rcases kC with⟨x,hx,iD,_⟩|⟨tC,_⟩;have aj:k<rest.length:=(List.getElem?_eq_some_iff.1 hx).1
      have aw:(k:Int)<(rest.length:Int):=by omega
      have Sv:(decide (x.t=t)&&decide (x.g=s))=false:=by simpa[tz,hx]using te
      focus (refine TW.go ?_;simp[aw,hx,iD,Sv,ai,au,maxLen];repeat' first|intro hc|refine aa.mk ?_|refine aI ?_|refine ah ?_ ?_|(refine cP ?_;refine⟨_,cY _ _ _ _,?_⟩;simp[aw,hx,iD,Sv,ai,au,maxLen]))
      rotate_left
      subst tC;focus (refine TW.go ?_;simp[ai,au,maxLen];repeat' first|intro hc|refine aa.mk ?_|refine aI ?_|refine ah ?_ ?_|(refine cP ?_;refine⟨_,cY _ _ _ _,?_⟩;simp[ai,au,maxLen]))
      all_goals
       generalize aaY:(if g.clock<t then t else g.clock)=PF
       have Z7:(nR rest m t s).length+g.done.length≤4294967295:=by
        rw[Su,←B9];simp
        omega
       refine tL (fun(p:List aK×List aK×List Int)=>⟨[(6,.s (.ptr 0 0)),(9,.s (.ptr 1 0)),(10,.s (.own 2))],[(0,.box [.r (rI 0),.r (rI 0),.r .nil,.r .nil]),(1,.box [.r (rI g.id),.r (rI PF),.r (dw p.1),.own 3]),(2,lf p.2.2),(3,dx p.2.1)],4⟩)
        (fun p=>p.1.length+p.2.1.length≤4294967295∧p.2.2.length+p.1.length≤4294967295∧k9 p.1 p.2.1 p.2.2=k9 (nR rest m t s) g.done []) (fun p=>p.1.length) (nR rest m t s,g.done,[]) ⟨Z7,by simp;omega,rfl⟩
        (Wk.own [2,3,4,6] [11] (by simp) (by simp) (by simp[Su,au]) (by simp) (by simp)) fun p hp=>?_
       obtain⟨es,d,told⟩:=p;obtain⟨b1,b2,b3⟩:=hp;simp only at b1 b2 b3⊢
       rcases es with _|⟨x,es⟩
       ·have PG:fE ⟨g.id,PF,[],d⟩ 4294967296:=⟨by simp,by simp at b1;simp only;omega⟩
        rw[←b3];simp only[k9];(refine TW.go ?_;simp[ai,au,maxLen];repeat' first|intro hc|refine aa.mk ?_|refine aI ?_|refine ah ?_ ?_|(refine cF [3] 2 ?_;refine⟨_,_,c9 ⟨g.id,PF,[],d⟩ PG,?_⟩;simp[ai,au,maxLen]))
        exact oW [4,5,2] []
       ·simp only[List.length_cons]at b1 b2
        cases Gx:x.f
        ·have PG:fE ⟨g.id,PF,x::es,d⟩ 4294967296:=⟨by simp;omega,by simp only;omega⟩
         rw[←b3];simp only[k9,Gx,Bool.false_eq_true,if_false];(refine TW.go ?_;simp[ai,au,Gx,maxLen];repeat' first|intro hc|refine aa.mk ?_|refine aI ?_|refine ah ?_ ?_|(refine cF [3] 2 ?_;refine⟨_,_,c9 ⟨g.id,PF,x::es,d⟩ PG,?_⟩;simp[ai,au,Gx,maxLen]))
         refine ar.own [4,5,2] [] (by simp;rfl) (by simp[au,Gx]) (by simp) (by simp) (by simp[au,Gx]) (by simp)
        ·(refine TW.go ?_;simp[ai,au,Gx,maxLen];repeat' first|intro hc|refine aa.mk ?_|refine aI ?_|refine ah ?_ ?_)
         refine⟨(es,d++[x],told++[x.m]),⟨by simp;omega,by simp;omega,?_⟩,by simp,Wk.own [0,1,5,7] [] (by simp) (by simp) (by simp[au,Gx]) (by simp) (by simp)⟩
         rw[←b3,k9,if_pos Gx]
   ·have hr:bR g m t s=(g,[],false):=by
     unfold bR;rw[UM,he];simp only
     rw[if_pos (.inr (.inr hl))]
    rw[hr];(refine TW.go ?_;simp[ai,au,hp,he,yb,hf,hl];repeat' first|intro hc|refine aa.mk ?_|refine aI ?_|refine ah ?_ ?_|(refine cP ?_;(first|refine⟨_,cf _ _,?_⟩|refine⟨_,cY _ _ _ _,?_⟩);simp[ai,au,hp,he,yb,hf,hl])|(refine cF [] 2 ?_;refine⟨_,_,c9 _ hle,?_⟩;simp[ai,au,hp,he,yb,hf,hl]))
    exact oW [3,4,6] []
  ·have hr:bR g m t s=(g,[],false):=by
    unfold bR;rw[UM,he];simp only
    rw[if_pos (.inr (.inl hf))]
   rw[hr];(refine TW.go ?_;simp[ai,au,hp,he,yb,hf];repeat' first|intro hc|refine aa.mk ?_|refine aI ?_|refine ah ?_ ?_|(refine cP ?_;(first|refine⟨_,cf _ _,?_⟩|refine⟨_,cY _ _ _ _,?_⟩);simp[ai,au,hp,he,yb,hf])|(refine cF [] 2 ?_;refine⟨_,_,c9 _ hle,?_⟩;simp[ai,au,hp,he,yb,hf]))
   exact oW [3,4,6] []
end Go.Proofs.YtjklkppncmhehaaGreat.T
namespace Go.Proofs.YtjklkppncmhehaaGreat.T
open Go Go.RowKit
set_option maxRecDepth 100000
set_option maxHeartbeats 4000000
variable {E:List PanicEntry→World→Prop}
abbrev Sw (xs:List (Int×Int)):ak:= .rows 28 2 (xs.map iC)
def qU (r:fb)(n:Nat):Prop:=r.gs.length≤n∧r.bm.length≤n
abbrev PH (r:fb) (p d:Nat):GV:= .a [.r (rI r.m),.own p,.own d]
abbrev PI (r:fb):List (Nat×ak):=[(0,lf r.gs),(1,Sw r.bm)]
theorem xA (r:fb)(h:qU r 4294967296):TC Tw.prog E 200 [.a ((aX r).map .r)] 0 [] (PH r 0 1) (PI r):=by
 obtain⟨hp,hd⟩:=h;refine tE Tryz.f200 Tryz.ntmps200 (by rw[Tryz.results200]) ?_
 (refine TW.go ?_;simp[aX,maxLen];repeat' first|intro hc|refine aa.mk ?_|refine aI ?_|refine ah ?_ ?_)
 exact oW [3,5] []
theorem lO (r:fb)(h:qU r 4294967296):TC Tw.prog E 130 [.a ((aX r).map .r)] 0 [] (gB (oQ r)) []:=by
 obtain⟨RV,hl⟩:=h;have hlen:r.bm.length≤maxLen:=by simp only[maxLen];omega
 refine tE Tryz.f130 Tryz.ntmps130 (by rw[Tryz.results130]) ?_
 (refine TW.go ?_;simp;repeat' first|intro hc|refine aa.mk ?_|refine aI ?_|refine ah ?_ ?_)
 refine tL (fun k=>⟨[(1,.s (.ptr 0 0)),(3,gI .i64 (k:Nat))],[(0,.box ((aX r).map .r))],1⟩) (fun k=>k≤r.bm.length∧∀i,i<k→sC r i=true) (fun k=>r.bm.length-k) 0 ⟨by omega,fun i hi=>by omega⟩ (kO [0] []) fun k hk=>?_
 obtain⟨hk,hf⟩:=hk;by_cases aj:k<r.bm.length
 ·have he:r.bm[k]?=some r.bm[k]:=List.getElem?_eq_getElem aj
  have hq:oQ r=false∨sC r k=true:=by
   cases h:sC r k
   ·exact .inl (by simp[oQ,bY aj h])
   ·exact .inr rfl
  rcases k with _|k
  ·have b_:sC r 0=(bb r.bm[0].1 r.bm[0].2&&oN r.gs r.bm[0].2):=by simp[sC,aj]
   (refine TW.go ?_;simp[aj,he,aX,iC];repeat' first|intro hc|refine aa.mk ?_|refine aI ?_|refine ah ?_ ?_|(refine cP ?_;(first|refine⟨_,e_ _ _,?_⟩|refine⟨_,kX _ _,?_⟩);simp[aj,he,aX,iC]))
   all_goals first
    |(refine⟨1,⟨by omega,fun i hi=>?_⟩,by omega,Wk.own [0] [] (by simp) (by simp) (by simp[aX]) (by simp) (by simp)⟩
      obtain rfl:i=0:=by omega
      simp_all)
    |(refine ar.nil (r:=gB (oQ r)) ?_ rfl
      rcases hq with hq|hq
      ·simp[hq]
      ·exfalso
       first|(simp_all;done)|(simp_all;omega))
  ·have dF:r.bm[k]?=some r.bm[k]:=List.getElem?_eq_getElem (by omega)
   have hw:=iX (k:=k) (by omega)
   have aF:=wrap_add (k:=k+1) aj hlen;simp only[Int.natCast_add,Int.natCast_one]at aF;have dp:(0:Int)<(k:Int)+1:=by omega
   have aw:(k:Int)+1<(r.bm.length:Int):=by omega
   have b_:sC r (k+1)=(bb r.bm[k+1].1 r.bm[k+1].2&&oN r.gs r.bm[k+1].2&&decide (r.bm[k].2<r.bm[k+1].2)):=by simp[sC,he,dF]
   (refine TW.go ?_;simp[aj,he,dF,hw,aF,dp,aw,aX,iC];repeat' first|intro hc|refine aa.mk ?_|refine aI ?_|refine ah ?_ ?_|(refine cP ?_;(first|refine⟨_,e_ _ _,?_⟩|refine⟨_,kX _ _,?_⟩);simp[aj,he,dF,hw,aF,dp,aw,aX,iC]))
   all_goals first
    |(refine⟨k+1+1,⟨by omega,fun i hi=>?_⟩,by omega,Wk.own [0] [] (by simp) (by simp) (by simp[aX]) (by simp) (by simp)⟩
      by_cases e:i=k+1
      ·subst e;simp_all
      ·exact hf i (by omega))
    |(refine ar.nil (r:=gB (oQ r)) ?_ rfl
      rcases hq with hq|hq
      ·simp[hq]
      ·exfalso
       first|(simp_all;done)|(simp_all;omega))
 ·obtain rfl:k=r.bm.length:=by omega
  have db:bX r.bm.length (sC r)=true:=bH hf
  (refine TW.go ?_;simp[aX];repeat' first|intro hc|refine aa.mk ?_|refine aI ?_|refine ah ?_ ?_|(refine cP ?_;(first|refine⟨_,fZ _,?_⟩|refine⟨_,gu _,?_⟩);simp[aX]))
  all_goals
   refine ar.nil (r:=gB (oQ r)) ?_ rfl;simp_all[oQ]
theorem abQ (bm:List (Int×Int))(g:Int):qf bm g≤bm.length:=(List.takeWhile_sublist _).length_le
theorem PJ {bm:List (Int×Int)}{g:Int}{k:Nat}{x:Int×Int}(hk:∀i,i<k→∀x,bm[i]?=some x→x.2<g)(he:bm[k]?=some x)(h:¬x.2<g):qf bm g=k:=by
 unfold qf;induction bm generalizing k with
 |nil=>simp at he
 |cons y bm ih=>
  cases k with
  |zero=>
   cases he;rw[List.takeWhile_cons];simp[h]
  |succ k=>
   have h0:=hk 0 (by omega) y rfl
   rw[List.takeWhile_cons,if_pos (by simpa using h0),List.length_cons,ih (k:=k) (fun i hi y hy=>hk (i+1) (by omega) y (by simpa using hy)) (by simpa using he)]
theorem ME {bm:List (Int×Int)}{g:Int}(hk:∀i,i<bm.length→∀x,bm[i]?=some x→x.2<g):qf bm g=bm.length:=by
 have h:bm.takeWhile (fun s=>decide (s.2<g))=bm:=by
  induction bm with
  |nil=>rfl
  |cons x es ih=>
   rw[List.takeWhile_cons,if_pos (by simpa using hk 0 (by simp) x rfl),ih fun i hi y hy=>hk (i+1) (by simp;omega) y (by simpa using hy)]
 unfold qf;rw[h]
theorem zy (r:fb)(t s:Int)(h:qU r 4294967290):TC Tw.prog E 210 [.a ((aX r).map .r),km (t,s)] 0 [] (.p [PH (mC r t s).1 0 1,gB (mC r t s).2]) (PI (mC r t s).1):=by
 obtain⟨RV,hl⟩:=h;have hle:qU r 4294967296:=⟨by omega,by omega⟩
 have hlen:r.bm.length≤maxLen:=by simp only[maxLen];omega
 refine tE Tryz.f210 Tryz.ntmps210 (by rw[Tryz.results210]) ?_
 (refine TW.go ?_;simp[aX];repeat' first|intro hc|refine aa.mk ?_|refine aI ?_|refine ah ?_ ?_|(refine cF [] 2 ?_;refine⟨_,_,xA _ hle,?_⟩;simp[aX]))
 refine tL (fun(k:Nat)=>⟨[(2,.s (.ptr 0 0)),(3,.s (.ptr 1 0)),(4,.s (.ptr 2 0)),(6,.s (.ptr 3 0)),(7,gI .i64 (k:Nat))],
  [(0,.box ((aX r).map .r)),(1,.box [.r (rI t),.r (rI s)]),(2,.box [.r (rI 0),.r .nil,.r .nil]),(3,.box [.r (rI r.m),.own 4,.own 5]),(4,lf r.gs),(5,Sw r.bm)],6⟩) (fun k=>k≤r.bm.length∧∀i,i<k→∀x,r.bm[i]?=some x→x.2<s) (fun k=>r.bm.length-k) 0 ⟨by omega,fun i hi=>by omega⟩
  (Wk.own [0,1,2,5,3,4] [] (by simp) (by simp) (by simp[aX]) (by simp) (by simp)) fun k hk=>?_
 obtain⟨hk,pK⟩:=hk;have kC:(∃x,r.bm[k]?=some x∧x.2<s)∨(∃x,r.bm[k]?=some x∧¬x.2<s∧qf r.bm s=k)∨(k=r.bm.length∧qf r.bm s=k):=by
  rcases hx:r.bm[k]? with _|x
  ·have tC:k=r.bm.length:=by have:=List.getElem?_eq_none_iff.1 hx;omega
   refine .inr (.inr ⟨tC,?_⟩);subst tC;exact ME pK
  ·by_cases iD:x.2<s
   ·exact .inl ⟨x,rfl,iD⟩
   ·exact .inr (.inl ⟨x,rfl,iD,PJ pK hx iD⟩)
 rcases kC with⟨x,hx,iD⟩|kC
 ·have aj:k<r.bm.length:=(List.getElem?_eq_some_iff.1 hx).1
  have aw:(k:Int)<(r.bm.length:Int):=by omega
  have aF:=wrap_add aj hlen;(refine TW.go ?_;simp[aw,hx,iD,aX,iC,aF];repeat' first|intro hc|refine aa.mk ?_|refine aI ?_|refine ah ?_ ?_)
  refine⟨k+1,⟨by omega,fun i hi y hy=>?_⟩,by omega,Wk.own [0,1,2,3,4,5] [] (by simp) (by simp) (by simp[aX]) (by simp) (by simp)⟩
  by_cases e:i=k
  ·subst e;rw[hx]at hy;cases hy;exact iD
  ·exact pK i (by omega) y hy
 ·have J1:qf r.bm s=k:=by
   rcases kC with⟨_,_,_,h⟩|⟨_,h⟩<;>exact h
  have qa:mC r t s=if oN r.gs s=false∨xy r.bm k s=true then(r,false)else(⟨r.m,r.gs,r.bm.take k++[(t,s)]++r.bm.drop k⟩,true):=by
   rw[mC,J1]
  cases hh:oN r.gs s
  ·rw[if_pos (.inl hh)]at qa
   rw[qa];rcases kC with⟨x,hx,iD,_⟩|⟨tC,_⟩
   ·have aj:k<r.bm.length:=(List.getElem?_eq_some_iff.1 hx).1
    have aw:(k:Int)<(r.bm.length:Int):=by omega
    (refine TW.go ?_;simp[aw,hx,iD,hh,aX,iC];repeat' first|intro hc|refine aa.mk ?_|refine aI ?_|refine ah ?_ ?_|(refine cP ?_;refine⟨_,kX _ _,?_⟩;simp[aw,hx,iD,hh,aX,iC]))
    exact oW [4,5] []
   ·subst tC
    (refine TW.go ?_;simp[hh,aX,iC];repeat' first|intro hc|refine aa.mk ?_|refine aI ?_|refine ah ?_ ?_|(refine cP ?_;refine⟨_,kX _ _,?_⟩;simp[hh,aX,iC]))
    exact oW [4,5] []
  ·rcases kC with⟨x,hx,iD,_⟩|⟨tC,_⟩
   ·have aj:k<r.bm.length:=(List.getElem?_eq_some_iff.1 hx).1
    have aw:(k:Int)<(r.bm.length:Int):=by omega
    by_cases iy:x.2=s
    ·rw[if_pos (.inr (by simp[xy,hx,iy]))]at qa
     rw[qa];(refine TW.go ?_;simp[aw,hx,iD,iy,hh,aX,iC];repeat' first|intro hc|refine aa.mk ?_|refine aI ?_|refine ah ?_ ?_|(refine cP ?_;refine⟨_,kX _ _,?_⟩;simp[aw,hx,iD,iy,hh,aX,iC]))
     exact oW [4,5] []
    ·rw[if_neg (by simp[xy,hx,iy,hh])]at qa
     rw[qa];(refine TW.go ?_;simp[aw,hx,iD,iy,hh,aX,iC,maxLen];repeat' first|intro hc|refine aa.mk ?_|refine aI ?_|refine ah ?_ ?_|(refine cP ?_;refine⟨_,kX _ _,?_⟩;simp[aw,hx,iD,iy,hh,aX,iC,maxLen]))
     refine ar.own [4,10] [] (by simp;rfl) (by simp[iC]) (by simp) (by simp) (by simp[iC]) (by simp)
   ·subst tC
    rw[if_neg (by simp[xy,hh])]at qa
    rw[qa];(refine TW.go ?_;simp[hh,aX,iC,maxLen];repeat' first|intro hc|refine aa.mk ?_|refine aI ?_|refine ah ?_ ?_|(refine cP ?_;refine⟨_,kX _ _,?_⟩;simp[hh,aX,iC,maxLen]))
    refine ar.own [4,10] [] (by simp;rfl) (by simp[iC]) (by simp) (by simp) (by simp[iC]) (by simp)
theorem uA (r:fb)(h:r.gs≠[]):TC Tw.prog E 211 [.a ((aX r).map .r)] 0 [] (.p [km (jL r).1,gB (jL r).2]) []:=by
 have dJ:0<r.gs.length:=List.length_pos_iff.2 h
 refine tE Tryz.f211 Tryz.ntmps211 (by rw[Tryz.results211]) ?_
 by_cases hl:r.bm.length<r.gs.length
 ·have bz:(r.bm.length:Int)<(r.gs.length:Int):=by omega
  rw[show jL r=((0,0),false) by rw[jL,if_pos hl]]
  (refine TW.go ?_;simp[aX,hl,bz];repeat' first|intro hc|refine aa.mk ?_|refine aI ?_|refine ah ?_ ?_)
  refine ar.nil (r:= .p [km (0,0),gB false]) ?_ rfl;simp
 ·have bz:¬(r.bm.length:Int)<(r.gs.length:Int):=by omega
  rw[show jL r=(mD r.bm,true) by rw[jL,if_neg hl]]
  rcases hx:r.bm with _|⟨x,xs⟩
  ·rw[hx]at hl;exact absurd dJ hl
  ·have bz:¬(xs.length:Int)+1<(r.gs.length:Int):=by rw[hx]at hl;simp at hl;omega
   (refine TW.go ?_;simp[aX,hx,bz];repeat' first|intro hc|refine aa.mk ?_|refine aI ?_|refine ah ?_ ?_|(refine cP ?_;refine⟨_,Gt x xs,?_⟩;simp[aX,hx,bz]))
   refine ar.nil (r:= .p [km (mD (x::xs)),gB true]) ?_ rfl;simp[mD]
theorem uR (m:Int)(gs:List Int)(hm:bC m=true)(hs:fD gs=true)(hl:gs.length≤4294967296):TC Tw.prog E 175 [gI .i64 m,gR (bL gs)] 0 [] (.p [PH ⟨m,gs,[]⟩ 0 1,gB true]) (PI ⟨m,gs,[]⟩):=by
 refine tE Tryz.f175 Tryz.ntmps175 (by rw[Tryz.results175]) ?_
 (refine TW.go ?_;simp[hm,hs,maxLen];repeat' first|intro hc|refine aa.mk ?_|refine aI ?_|refine ah ?_ ?_|(refine cP ?_;(first|refine⟨_,fZ _,?_⟩|refine⟨_,gu _,?_⟩);simp[hm,hs,maxLen]))
 exact oW [2,3] []
end Go.Proofs.YtjklkppncmhehaaGreat.T
