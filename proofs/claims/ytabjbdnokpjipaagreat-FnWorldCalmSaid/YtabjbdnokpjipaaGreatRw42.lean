/-
What is proved: what impl and what rests on it. Conditions: as stated.
-/
import Derived.Test.YtabjbdnokpjipaaGreatRw38
import Derived.Test.YtabjbdnokpjipaaGreatRw41
import Derived.Test.YtabjbdnokpjipaaGreatRw40
import Derived.Test.YtabjbdnokpjipaaGreatRw36
set_option linter.unusedVariables false
set_option linter.unusedSimpArgs false
namespace Go.Proofs.YtabjbdnokpjipaaGreat.T
open Go Go.RowKit
def bq (ch:List PanicEntry)(w:World):Prop:=Sr.Esc (.panicked ch) w
inductive xk:RT→Prop
 |v (x:Value):xk (.v x)
 |nil:xk .nil
 |sl {k:Nat} {xs:List (List RT)} (h0:0<k) (h:∀(i:Nat) (e:List RT),xs[i]?=some e→∀(j:Nat) (r:RT),e[j]?=some r→xk r):xk (.sl k xs)
theorem dh.adJ {w u:World}{D:Nat→Prop}(hc:∀q:Addr,D q.block→u.cell? q=w.cell? q){v:Value}{t:RT}(h:dh w D v t):xk t→dh u (fun b=>b<u.heap.size) v t:=by
 induction h with
 |v h=>exact fun _=> .v h
 |nil=>exact fun _=> .nil
 |EM hm=>exact fun _=> .EM hm
 | @sl b o c k xs vs cI hm oD cM hv _ ih=>
   intro hs
   cases hs with
   |sl h0 hs=>
   rcases xs with _|⟨e,xs⟩
   ·exact .EM hm
   ·have hk0:=cM 0 e rfl
    obtain⟨r,hr⟩:∃r,e[0]?=some r:=⟨_,List.getElem?_eq_getElem (by omega)⟩
    refine .sl vs cI hm ?_ cM (fun i e he j r hr=>(hc _ oD).trans (hv i e he j r hr)) fun i e he j r hr=>ih i e he j r hr (hs i e he j r hr)
    exact World.block_lt_of_cell? u _ ((hc _ oD).trans (hv 0 e rfl 0 r hr))
theorem QZ (gs:List aF):xk (dq gs):=by
 refine .sl (by omega) fun i e he j r hr=>?_
 rw[List.getElem?_map,Option.map_eq_some_iff]at he;obtain⟨g,_,rfl⟩:=he;have hE:∀es:List aB,xk (dj es):=fun es=>by
  refine .sl (by omega) fun i e he j r hr=>?_
  rw[List.getElem?_map,Option.map_eq_some_iff]at he;obtain⟨x,_,rfl⟩:=he;rcases j with _|_|_|_|j<;>simp[aG]at hr<;>subst hr<;>exact .v _
 rcases j with _|_|_|_|j<;>simp[au]at hr<;>subst hr
 ·exact .v _
 ·exact .v _
 ·exact hE _
 ·exact hE _
theorem BO {w:World}{D:Nat→Prop}{v:Value}{n:Int}(h:dh w D v (rI n)):v= .int .i64 n:=by cases h;rfl
theorem Sa {w:World}{D:Nat→Prop}{v:Value}{b:Bool}(h:dh w D v (rB b)):v= .bool b:=by cases h;rfl
def abL (g:aF)(m:Int):Sr.fZ:=⟨(dJ g m).m,(dJ g m).t,(dJ g m).g,(dJ g m).f,rX g m⟩
theorem VG {ρ:Nat→Option Value}{w:World}{D:Nat→Prop}{v:Value}{g:aF}{m:Int}(h:bA ρ w D v (.a ((iO g m).map .r))):v=(abL g m).val:=by
 cases h with
 | @a arr _ hn h=>
   have hl:arr.size=5:=by simpa[iO]using hn
   have r:∀(i:Nat) (t:RT),(iO g m)[i]?=some t→dh w D (arr.getD i undef) t:=fun i t ht=>by
    have:=h i (.r t) (by rw[List.getElem?_map,ht];rfl)
    generalize arr.getD i undef=z at this
    cases this with|r h=>exact h
   have h0:=BO (r 0 _ rfl);have h1:=BO (r 1 _ rfl);have h2:=BO (r 2 _ rfl);have h3:=Sa (r 3 _ rfl);have h4:=Sa (r 4 _ rfl);show Value.agg arr= .agg #[.int .i64 (dJ g m).m,.int .i64 (dJ g m).t,.int .i64 (dJ g m).g,.bool (dJ g m).f,.bool (rX g m)]
   congr 1
   rcases arr with⟨l⟩;rcases l with _|⟨x0,_|⟨x1,_|⟨x2,_|⟨x3,_|⟨x4,_|⟨x5,l⟩⟩⟩⟩⟩⟩<;>simp at hl
   simp at h0 h1 h2 h3 h4
   subst h0 h1 h2 h3 h4;rfl
abbrev iV (gs:List aF) (m:Int) (set:List Int):List (List RT):=set.map fun x=>iO (gAt gs x.toNat) m
set_option maxRecDepth 100000 in
theorem sj (gs:List aF)(set:List Int)(m:Int)(h:iC gs 4294967290)(hg:gs.length=5)(hn:set≠[])(h5:set.length≤5)(hr:cm set):
  TC Tw.prog bq 112 [gR (dq gs),gR (aY set),gI .i64 m] 0 [] (.s (.own 0)) [(0,.rows 146 5 (iV gs m set))]:=by
 refine⟨QI.of Tw.BQ rfl (by kernel_rfl),fun w bR ρ D hv ha hD _ _ _=>?_⟩
 have r0:=ha 0 _ rfl;have r1:=ha 1 _ rfl;have r2:=ha 2 _ rfl;rcases bR with⟨l⟩;rcases l with _|⟨x0,_|⟨x1,_|⟨x2,_|⟨x3,l⟩⟩⟩⟩<;>simp at hv
 simp only[Array.getD_eq_getD_getElem?,List.getElem?_toArray,List.getElem?_cons_zero,List.getElem?_cons_succ,Option.getD_some]at r0 r1 r2;have r2:=xX r2;subst r2
 cases r0 with|s r0=>cases r0 with|r r0=>
 cases r1 with|s r1=>cases r1 with|r r1=>
 obtain⟨A,gc,rfl,g1,g2,adK,gD⟩:=r0.slice;obtain⟨A',sc,rfl,s1,s2,abM,sD⟩:=r1.slice;have dK:0<set.length:=List.length_pos_iff.2 hn
 obtain⟨-,gb,go,rfl, -⟩:=adK 0 (au (gAt gs 0)) (by rw[List.getElem?_map,cu (by omega)];rfl)
 obtain⟨-,sb,so,rfl, -⟩:=abM 0 [rI set[0]] (by rw[List.getElem?_map,List.getElem?_eq_getElem dK];rfl)
 have bT:∀i,i<set.length→w.cell? ⟨sb,so+i,none⟩=some (.int .i64 (set.getD i 0)):=fun i hi=>by
  obtain⟨-,b,o,e,hh⟩:=abM i [rI (set.getD i 0)] (by rw[List.getElem?_map,List.getElem?_eq_getElem hi,List.getD_eq_getElem?_getD,List.getElem?_eq_getElem hi];rfl)
  cases e;obtain⟨v,hv,hr⟩:=hh 0 _ rfl;rw[BO hr]at hv;simpa using hv
 have cH:∀i,i<set.length→0≤set.getD i 0∧set.getD i 0<gs.length:=fun i hi=>by
  rw[List.getD_eq_getElem?_getD,List.getElem?_eq_getElem hi];have:=hr _ (List.getElem_mem hi)
  exact⟨this.1,by rw[hg];exact this.2⟩
 have XO:DI ⟨gb,go,none⟩ gs.length gc sb so set.length m (fun i=>set.getD i 0) (fun i=>abL (gAt gs (set.getD i 0).toNat) m) w:=by
  refine⟨dK,h5,bT,fun i hi u pb mb hu hp hm=>?_⟩
  have hT:=(NI (E:=fun _ _=>False) gs (set.getD i 0) m h (cH i hi).1 (cH i hi).2).2
  have qv:pb<u.heap.size:=World.block_lt_of_cell? u _ hp
  have hml:mb<u.heap.size:=World.block_lt_of_cell? u _ hm
  have adL:dh u (fun b=>b<u.heap.size) (.slice (some ⟨gb,go,none⟩) gs.length gc) (dq gs):=dh.adJ (fun q hq=>hu q (hD _ hq)) (by simpa using r0) (QZ gs)
  refine(hT u #[.int .i64 (set.getD i 0),.pointer (some ⟨pb,0,none⟩),.pointer (some ⟨mb,0,none⟩)] (fun _=>none) (fun b=>b<u.heap.size) rfl (fun j g hj=>?_) (fun k hk=>hk) (fun b y h=>by cases h) (fun b y g h=>by cases h) (fun b y b' y' g h=>by cases h)).mono ?_
  ·rcases j with _|_|_|j
   ·cases hj;exact .s (.r (.v rfl))
   ·cases hj
    refine .s (.kN (o:=0) (off:=0) (fun _=> .slice (some ⟨gb,go,none⟩) gs.length gc) qv (fun j r hj=>?_) fun j r hj=>?_)
    ·rcases j with _|j
     ·exact hp
     ·simp at hj
    ·rcases j with _|j
     ·cases hj;exact adL
     ·simp at hj
   ·cases hj
    refine .s (.kN (o:=0) (off:=0) (fun _=> .int .i64 m) hml (fun j r hj=>?_) fun j r hj=>?_)
    ·rcases j with _|j
     ·exact hm
     ·simp at hj
    ·rcases j with _|j
     ·cases hj;exact .v rfl
     ·simp at hj
   ·simp at hj
  ·rintro e w' (⟨ch,_,hE⟩|⟨v,ρ',D',rfl,hv,hP⟩)
   ·exact hE.elim
   ·refine⟨by rw[VG hv],hP.os,hP.tape,hP.output,hP.size,fun k hk=>hP.old k hk fun⟨b,y,h,_⟩=>by cases h⟩
 simp only[List.length_map];refine(Zj ⟨gb,go,none⟩ gs.length gc sb so set.length sc m _ _ w XO).mono ?_;rintro e w' (⟨⟨B,rfl,hB,⟨cs,lF,kq,cO⟩, -, -⟩,hb⟩|hE)
 ·right
  have ak:B<w'.heap.size:=(Array.getElem?_eq_some_iff.1 lF).1
  refine⟨_,fun b=>if b=0 then some (.slice (some ⟨B,0,none⟩) set.length set.length)else none,D,rfl,.s (.own rfl),⟨hb.os,hb.tape,hb.output,hb.size,fun k hk _=>hb.block k hk,fun k hk=>⟨Nat.lt_of_lt_of_le (hD k hk) hb.size,.inl hk⟩,fun b y hy=>?_,fun b y g hy hl hg=>?_,fun b y b' y' g hy hl eL bz _ _=>?_,fun b hb=>by omega,fun b _ hn=>?_⟩⟩
  ·simp only[gt]at hy
   split at hy
   ·rename_i e0
    cases hy;subst e0;refine⟨some ⟨B,0,none⟩,set.length,by simp,by simp,by simp only[maxLen];omega,by omega,fun i y hy=>?_,.inr ⟨B,cs,rfl,lF,by rw[kq,Nat.mul_comm],fun i y hy j r hr=>?_⟩⟩
    ·rw[List.getElem?_map,Option.map_eq_some_iff]at hy
     obtain⟨x,_,rfl⟩:=hy;rfl
    ·rw[List.getElem?_map,Option.map_eq_some_iff]at hy
     obtain⟨x,hx,rfl⟩:=hy;have hi:=(List.getElem?_eq_some_iff.1 hx).1;have hj:j<5:=(List.getElem?_eq_some_iff.1 hr).1
     have hc:=cO i j hi hj;have jN:set.getD i 0=x:=by rw[List.getD_eq_getElem?_getD,hx];rfl
     simp only[jN]at hc;rw[Array.getD_eq_getD_getElem?,show i*5+j=5*i+j by omega,hc]
     rcases j with _|_|_|_|_|j
     ·cases hr;exact .v rfl
     ·cases hr;exact .v rfl
     ·cases hr;exact .v rfl
     ·cases hr;exact .v rfl
     ·cases hr;exact .v rfl
     ·omega
   ·cases hy
  ·simp only[gt]at hy
   split at hy
   ·rename_i e0
    subst e0;simp only[if_true,bS,Option.some.injEq]at hg;subst hg;exact⟨fun hd=>by have:=hD _ hd;omega,.inr hB⟩
   ·cases hy
  ·simp only[gt]at hy eL
   split at hy
   ·split at eL
    ·omega
    ·cases eL
   ·cases hy
  ·simp only[gt]at hn
   split at hn
   ·cases hn
   ·rename_i e0;rw[if_neg e0]
 ·left
  rcases hE with⟨us,rfl,wx⟩|⟨us,rfl,wx⟩
  ·exact⟨_,rfl,.inl ⟨us,rfl,wx⟩⟩
  ·exact⟨_,rfl,.inr ⟨us,rfl,wx⟩⟩
end Go.Proofs.YtabjbdnokpjipaaGreat.T
namespace Go.Proofs.YtabjbdnokpjipaaGreat.T
open Go Go.RowKit
set_option maxRecDepth 100000
set_option maxHeartbeats 4000000
variable {E:List PanicEntry→World→Prop}
def upto (k:Nat):List Int:=(List.range k).map fun(i:Nat)=>(i:Int)
theorem sk (k:Nat):upto (k+1)=upto k++[(k:Int)]:=by simp[upto,List.range_succ]
theorem va (k:Nat):(upto k).length=k:=by simp[upto]
theorem E8:TC Tw.prog E 103 [.gK (.func 50) [] []] 0 [] (gR (aY (upto 5))) []:=by
 refine tE Tryz.f103 Tryz.ntmps103 (by rw[Tryz.results103]) ?_
 (refine TW.go ?_;simp;repeat' first|intro hc|refine aa.mk ?_|refine aI ?_|refine af ?_ ?_)
 refine tL (fun(k:Nat)=>⟨[(0,.gK (.func 50) [] []),(3,.s (.own 0)),(6,gI .i64 (k:Nat))],[(0,fU (upto k))],1⟩) (fun k=>k≤5) (fun k=>5-k) 0 (by omega)
  (Wk.own [0] [] (by simp) (by simp) (by simp[upto]) (by simp) (by simp)) fun k hk=>?_
 by_cases ak:k<5
 ·have an:(k:Int)<5:=by omega
  have hg:bM (k:Int)=true:=by simp[bM];omega
  have aE:IntKind.i64.wrap ((k:Int)+1)=(k:Int)+1:=aQ (by omega) (by omega)
  have hl:=va k;(refine TW.go ?_;simp[an,hg,aE,maxLen];repeat' first|intro hc|refine aa.mk ?_|refine aI ?_|refine af ?_ ?_|(refine cP ?_;refine⟨_,oR _,?_⟩;simp[an,hg,aE,maxLen]))
  exact⟨k+1,by omega,by omega,Wk.own [2] [] (by simp) (by simp) (by simp[sk]) (by simp) (by simp)⟩
 ·obtain rfl:k=5:=by omega
  (refine TW.go ?_;simp;repeat' first|intro hc|refine aa.mk ?_|refine aI ?_|refine af ?_ ?_)
  exact oW [] [0]
theorem IZ:TC Tw.prog E 113 [] 0 [] (gR (aY (upto 5))) []:=by
 refine tE Tryz.f113 Tryz.ntmps113 (by rw[Tryz.results113]) ?_
 (refine TW.go ?_;simp;repeat' first|intro hc|refine aa.mk ?_|refine aI ?_|refine af ?_ ?_|(refine cP ?_;refine⟨_,E8,?_⟩;simp))
 exact oW [] []
def NR (a b:aF)(m:Int):Bool:=
 !(rX a m&&(dJ a m).f)|| !(rX b m&&(aO (dJ a m).t (dJ a m).g (dJ b m).t (dJ b m).g||(dJ b m).f&& !(decide ((dJ a m).t=(dJ b m).t)&&decide ((dJ a m).g=(dJ b m).g))))
def NS (gs:List aF)(m:Int)(i:Nat):Bool:=db 5 fun k=>NR (gAt gs i) (gAt gs k) m
def uw (gs:List aF)(m:Int):Bool:=db 5 (NS gs m)
theorem Zk (gs:List aF)(m:Int){k:Nat}(h:k<5):(iV gs m (upto 5))[k]?=some (iO (gAt gs k) m):=by
 rw[List.getElem?_map,upto,List.getElem?_map,List.getElem?_range h];rfl
theorem E9 (gs:List aF)(m:Int)(h:iC gs 4294967290)(h5:gs.length=5):TC Tw.prog bq 83 [gR (dq gs),gI .i64 m] 0 [] (gB (uw gs m)) []:=by
 have hE:=sj gs (upto 5) m h h5 (by decide) (by decide) (fun g hg=>by simp[upto,List.range_succ]at hg;omega)
 have yB:(iV gs m (upto 5)).length=5:=by simp[upto]
 have dR:=fun k h=>Zk gs m (k:=k) h
 generalize iV gs m (upto 5)=A at*;refine tE Tryz.f83 Tryz.ntmps83 (by rw[Tryz.results83]) ?_
 (refine TW.go ?_;simp[yB];repeat' first|intro hc|refine aa.mk ?_|refine aI ?_|refine af ?_ ?_|(refine cP ?_;refine⟨_,IZ,?_⟩;simp[yB])|(refine cF [] 1 ?_;refine⟨_,_,hE,?_⟩;simp[yB]))
 refine tL (fun(i:Nat)=>⟨[(5,gR (.sl 5 A)),(14,gR (.sl 5 A)),(15,gI .i64 5),(16,gI .i64 (i:Nat))],[],0⟩) (fun i=>i≤5∧∀j,j<i→NS gs m j=true) (fun i=>5-i) 0 ⟨by omega,fun j hj=>by omega⟩
  (kO [] [0]) fun i hi=>?_
 obtain⟨hi,hf⟩:=hi;by_cases ak:i<5
 ·have an:(i:Int)<5:=by omega
  have aE:IntKind.i64.wrap ((i:Int)+1)=(i:Int)+1:=aQ (by omega) (by omega)
  have zd:=dR i ak;have hq:uw gs m=false∨NS gs m i=true:=by
   cases h:NS gs m i
   ·exact .inl (by simp[uw,eD ak h])
   ·exact .inr rfl
  by_cases nC:(rX (gAt gs i) m&&(dJ (gAt gs i) m).f)=true
  ·simp only[Bool.and_eq_true]at nC
   obtain⟨f1,f2⟩:=nC;(refine TW.go ?_;simp[an,zd,f1,f2,iO,aE,yB];repeat' first|intro hc|refine aa.mk ?_|refine aI ?_|refine af ?_ ?_)
   refine tL (fun(k:Nat)=>⟨[(5,gR (.sl 5 A)),(7,.s (.ptr 0 0)),(14,gR (.sl 5 A)),(15,gI .i64 5),(16,gI .i64 (i:Nat)),(29,gR (.sl 5 A)),(30,gI .i64 5),(31,gI .i64 (k:Nat))],[(0,.box ((iO (gAt gs i) m).map .r))],1⟩) (fun k=>k≤5∧∀j,j<k→NR (gAt gs i) (gAt gs j) m=true) (fun k=>5-k) 0 ⟨by omega,fun j hj=>by omega⟩
    (Wk.own [0] [] (by simp) (by simp) (by simp[iO,f1,f2]) (by simp) (by simp)) fun k hk=>?_
   obtain⟨hk,p9⟩:=hk;by_cases abN:k<5
   ·have abO:(k:Int)<5:=by omega
    have Be:IntKind.i64.wrap ((k:Int)+1)=(k:Int)+1:=aQ (by omega) (by omega)
    have Z7:=dR k abN;have Vp:uw gs m=false∨NR (gAt gs i) (gAt gs k) m=true:=by
     rcases hq with h|h
     ·exact .inl h
     ·exact .inr (by rw[NS,bZ]at h;exact h k abN)
    have Vv:NR (gAt gs i) (gAt gs k) m= !(rX (gAt gs k) m&&(aO (dJ (gAt gs i) m).t (dJ (gAt gs i) m).g (dJ (gAt gs k) m).t (dJ (gAt gs k) m).g||(dJ (gAt gs k) m).f&& !(decide ((dJ (gAt gs i) m).t=(dJ (gAt gs k) m).t)&&decide ((dJ (gAt gs i) m).g=(dJ (gAt gs k) m).g)))):=by rw[NR,f1,f2];rfl
    (refine TW.go ?_;simp[abO,Z7,f1,f2,iO,Be,yB];repeat' first|intro hc|refine aa.mk ?_|refine aI ?_|refine af ?_ ?_|(refine cP ?_;refine⟨_,iD _ _ _ _,?_⟩;simp[abO,Z7,f1,f2,iO,Be,yB]))
    all_goals first
     |(refine⟨k+1,⟨by omega,fun j hj=>?_⟩,by omega,Wk.own [0] [] (by simp) (by simp) (by simp[iO,f1,f2]) (by simp) (by simp)⟩
       by_cases e:j=k
       ·subst e;rw[Vv];simp_all
       ·exact p9 j (by omega))
     |(refine aT.nil (r:=gB (uw gs m)) ?_ rfl
       rcases Vp with Vp|Vp
       ·simp[Vp]
       ·exfalso
        rw[Vv]at Vp;clear p9 hf dR;first|(simp_all;done)|(simp_all;omega))
   ·obtain rfl:k=5:=by omega
    have iH:NS gs m i=true:=dD p9
    clear p9;(refine TW.go ?_;simp[aE];repeat' first|intro hc|refine aa.mk ?_|refine aI ?_|refine af ?_ ?_)
    refine⟨i+1,⟨by omega,fun j hj=>?_⟩,by omega,kS⟩
    by_cases e:j=i
    ·subst e;exact iH
    ·exact hf j (by omega)
  ·have iH:NS gs m i=true:=dD fun k _=>by rw[NR,Bool.eq_false_iff.2 nC];rfl
   have acy:(rX (gAt gs i) m&&(dJ (gAt gs i) m).f)=false:=Bool.eq_false_iff.2 nC
   cases f1:rX (gAt gs i) m
   ·(refine TW.go ?_;simp[an,zd,f1,iO,aE,yB];repeat' first|intro hc|refine aa.mk ?_|refine aI ?_|refine af ?_ ?_)
    refine⟨i+1,⟨by omega,fun j hj=>?_⟩,by omega,kS⟩
    by_cases e:j=i
    ·subst e;exact iH
    ·exact hf j (by omega)
   ·have f2:(dJ (gAt gs i) m).f=false:=by simpa[f1]using acy
    (refine TW.go ?_;simp[an,zd,f1,f2,iO,aE,yB];repeat' first|intro hc|refine aa.mk ?_|refine aI ?_|refine af ?_ ?_)
    refine⟨i+1,⟨by omega,fun j hj=>?_⟩,by omega,kS⟩
    by_cases e:j=i
    ·subst e;exact iH
    ·exact hf j (by omega)
 ·obtain rfl:i=5:=by omega
  have dW:uw gs m=true:=dD hf
  rw[dW];(refine TW.go ?_;simp;repeat' first|intro hc|refine aa.mk ?_|refine aI ?_|refine af ?_ ?_)
  exact oW [] []
end Go.Proofs.YtabjbdnokpjipaaGreat.T
namespace Go.Proofs.YtabjbdnokpjipaaGreat.T
open Go Go.RowKit
set_option maxRecDepth 100000
set_option maxHeartbeats 4000000
variable {E:List PanicEntry→World→Prop}
theorem Zl {t g t' g':Int}(h:aO t g t' g'=true):(decide (t=t')&&decide (g=g'))=false:=by
 simp only[aO,decide_eq_true_eq]at h;simp only[Bool.and_eq_false_iff,decide_eq_false_iff_not];omega
theorem aa4 {a b:aF}(ha:bB a=true)(hb:bB b=true)(m:Int):NR a b m=zu a b m:=by
 unfold NR zu rX dJ;rw[ha,hb];simp only[Bool.true_and,if_true];have adM:(decide ((aV b m).t=(aV a m).t)&&decide ((aV b m).g=(aV a m).g))=(decide ((aV a m).t=(aV b m).t)&&decide ((aV a m).g=(aV b m).g)):=by
  rw[Bool.eq_iff_iff];simp only[Bool.and_eq_true,decide_eq_true_eq];exact⟨fun h=>⟨h.1.symm,h.2.symm⟩,fun h=>⟨h.1.symm,h.2.symm⟩⟩
 rw[adM]
 cases hl:aO (aV a m).t (aV a m).g (aV b m).t (aV b m).g
 ·cases(aV b m).f<;>simp
 ·rw[Zl hl]
  cases(aV b m).f<;>simp
theorem VH {gs:List aF}(h5:gs.length=5)(h:db gs.length (E1 gs)=true)(m:Nat):uw gs m=Dl gs m:=by
 have hv:∀i,i<5→bB (gAt gs i)=true:=fun i hi=>by
  rw[bZ]at h;have:=h i (by omega)
  simp only[E1,Bool.and_eq_true]at this;exact this.1
 rw[Bool.eq_iff_iff,uw,Dl,h5,bZ,bZ];refine forall_congr' fun i=>forall_congr' fun hi=>?_;rw[NS,R3,h5,bZ,bZ];refine forall_congr' fun k=>forall_congr' fun hk=>?_;rw[aa4 (hv i hi) (hv k hk)]
theorem uz (gs:List aF)(h:iC gs 4294967290):TC Tw.prog bq 55 [gR (dq gs)] 0 [] (gB (jM gs)) []:=by
 have hlen:gs.length≤maxLen:=by have:=h.1;simp only[maxLen];omega
 refine tE Tryz.f55 Tryz.ntmps55 (by rw[Tryz.results55]) ?_
 by_cases h5:gs.length=5
 ·(refine TW.go ?_;simp[h5];repeat' first|intro hc|refine aa.mk ?_|refine aI ?_|refine af ?_ ?_)
  refine tL (fun(k:Nat)=>⟨[(0,gR (dq gs)),(9,gR (dq gs)),(10,gI .i64 5),(11,gI .i64 (k:Nat))],[],0⟩) (fun k=>k≤5∧∀i,i<k→E1 gs i=true) (fun k=>5-k) 0 ⟨by omega,fun i hi=>by omega⟩ (kS) fun k hk=>?_
  obtain⟨hk,hf⟩:=hk;by_cases ak:k<5
  ·have he:=cu (gs:=gs) (i:=k) (by omega)
   have hV:=iU (E:=bq) (gAt gs k) (h.2 _ (List.mem_of_getElem? he));rw[mg]at hV;have an:(k:Int)<5:=by omega
   have aE:IntKind.i64.wrap ((k:Int)+1)=(k:Int)+1:=aQ (by omega) (by omega)
   have bT:E1 gs k=(bB (gAt gs k)&&decide ((gAt gs k).id=k)):=rfl
   have hq:jM gs=false∨E1 gs k=true:=by
    cases h:E1 gs k
    ·exact .inl (by simp[jM,eD (show k<gs.length by omega) h])
    ·exact .inr rfl
   generalize gAt gs k=G at he hV bT
   cases hv:bB G
   ·rw[hv]at hV bT
    (refine TW.go ?_;simp[an,he,au,aE];repeat' first|intro hc|refine aa.mk ?_|refine aI ?_|refine af ?_ ?_|(refine cP ?_;refine⟨_,hV,?_⟩;simp[an,he,au,aE]))
    refine aT.nil (r:=gB (jM gs)) ?_ rfl;rcases hq with hq|hq
    ·simp[hq]
    ·rw[bT]at hq;cases hq
   ·rw[hv]at hV bT
    by_cases hid:G.id=k
    ·have hV2:=hV
     simp only[au,hid,List.map_cons,List.map_nil]at hV2;(refine TW.go ?_;simp[an,he,au,aE,hid];repeat' first|intro hc|refine aa.mk ?_|refine aI ?_|refine af ?_ ?_|(refine cP ?_;refine⟨_,hV2,?_⟩;simp[an,he,au,aE,hid]))
     refine⟨k+1,⟨by omega,fun i hi=>?_⟩,by omega,kS⟩
     by_cases e:i=k
     ·subst e;rw[bT];simpa using hid
     ·exact hf i (by omega)
    ·(refine TW.go ?_;simp[an,he,au,aE,hid];repeat' first|intro hc|refine aa.mk ?_|refine aI ?_|refine af ?_ ?_|(refine cP ?_;refine⟨_,hV,?_⟩;simp[an,he,au,aE,hid]))
     refine aT.nil (r:=gB (jM gs)) ?_ rfl;rcases hq with hq|hq
     ·simp[hq]
     ·rw[bT]at hq;simp[hid]at hq
  ·obtain rfl:k=5:=by omega
   have dW:db gs.length (E1 gs)=true:=dD (by rw[h5];exact hf)
   have qt:=VH h5 dW;clear hf hk ak;(refine TW.go ?_;simp;repeat' first|intro hc|refine aa.mk ?_|refine aI ?_|refine af ?_ ?_)
   refine tL (fun(m:Nat)=>⟨[(0,gR (dq gs)),(26,gI .i64 (m:Nat))],[],0⟩) (fun m=>m≤12∧∀i,i<m→Dl gs i=true) (fun m=>12-m) 0 ⟨by omega,fun i hi=>by omega⟩ (kS) fun m hm=>?_
   obtain⟨hm,hf⟩:=hm;by_cases ak:m<12
   ·have NT:=E9 gs (m:Int) h h5
    rw[qt]at NT;have an:(m:Int)<12:=by omega
    have aE:IntKind.i64.wrap ((m:Int)+1)=(m:Int)+1:=aQ (by omega) (by omega)
    cases qG:Dl gs m
    ·rw[qG]at NT
     rw[show jM gs=false by rw[jM,eD ak qG,Bool.and_false]]
     (refine TW.go ?_;simp[an,aE];repeat' first|intro hc|refine aa.mk ?_|refine aI ?_|refine af ?_ ?_|(refine cP ?_;refine⟨_,NT,?_⟩;simp[an,aE]))
     exact oW [] []
    ·rw[qG]at NT
     (refine TW.go ?_;simp[an,aE];repeat' first|intro hc|refine aa.mk ?_|refine aI ?_|refine af ?_ ?_|(refine cP ?_;refine⟨_,NT,?_⟩;simp[an,aE]))
     refine⟨m+1,⟨by omega,fun i hi=>?_⟩,by omega,kS⟩
     by_cases e:i=m
     ·subst e;exact qG
     ·exact hf i (by omega)
   ·obtain rfl:m=12:=by omega
    rw[show jM gs=true by rw[jM,dW,dD hf];simp[h5]]
    (refine TW.go ?_;simp;repeat' first|intro hc|refine aa.mk ?_|refine aI ?_|refine af ?_ ?_)
    exact oW [] []
 ·rw[show jM gs=false by simp[jM,h5]]
  have h5':¬((gs.length:Int)=5):=by omega
  (refine TW.go ?_;simp[h5'];repeat' first|intro hc|refine aa.mk ?_|refine aI ?_|refine af ?_ ?_)
  exact oW [] []
end Go.Proofs.YtabjbdnokpjipaaGreat.T
namespace Go.Proofs.YtabjbdnokpjipaaGreat.T
open Go Go.RowKit
set_option maxRecDepth 100000
set_option maxHeartbeats 4000000
variable {E:List PanicEntry→World→Prop}
def Gi (xs:List Int)(i:Nat):Bool:=decide (i=0)||decide (xs.getD (i-1) 0<xs.getD i 0)
def Gj (xs:List Int):Bool:=db xs.length (Gi xs)
theorem I0 (xs:List Int):TC Tw.prog E 140 [gR (aY xs)] 0 [] (gB (Gj xs)) []:=by
 refine tE Tryz.f140 Tryz.ntmps140 (by rw[Tryz.results140]) ?_
 refine TW.len 0 rfl fun hlen=>?_;simp only[List.length_map]at hlen;(refine TW.go ?_;simp;repeat' first|intro hc|refine aa.mk ?_|refine aI ?_|refine af ?_ ?_)
 refine tL (fun(k:Nat)=>⟨[(0,gR (aY xs)),(3,gI .i64 ((k:Int)+1))],[],0⟩) (fun k=>k≤xs.length∧∀i,i<k+1→i<xs.length→Gi xs i=true) (fun k=>xs.length-k) 0 ⟨by omega,fun i hi _=>(by obtain rfl:i=0:=(by omega);simp[Gi])⟩ (kS) fun k hk=>?_
 obtain⟨hk,hf⟩:=hk;by_cases ak:k+1<xs.length
 ·have he:xs[k+1]?=some xs[k+1]:=List.getElem?_eq_getElem ak
  have du:xs[k]?=some xs[k]:=List.getElem?_eq_getElem (by omega)
  have hw:=l8 (k:=k) (by omega)
  have aE:=wrap_add (k:=k+1) ak hlen;simp only[Int.natCast_add,Int.natCast_one]at aE;have an:(k:Int)+1<(xs.length:Int):=by omega
  have bT:Gi xs (k+1)=decide (xs[k]<xs[k+1]):=by simp[Gi,ak,show k<xs.length by omega]
  generalize xs[k+1]=b at*;generalize xs[k]=a at*;by_cases eT:b≤a
  ·rw[show Gj xs=false from eD ak (by rw[bT];simp;omega)]
   (refine TW.go ?_;simp[he,du,hw,an,eT];repeat' first|intro hc|refine aa.mk ?_|refine aI ?_|refine af ?_ ?_)
   exact oW [] []
  ·(refine TW.go ?_;simp[he,du,hw,aE,an,eT];repeat' first|intro hc|refine aa.mk ?_|refine aI ?_|refine af ?_ ?_)
   refine⟨k+1,⟨by omega,fun i hi Bm=>?_⟩,by omega,kS⟩
   by_cases e:i=k+1
   ·subst e;rw[bT];simp;omega
   ·exact hf i (by omega) Bm
 ·have an:¬(k:Int)+1<(xs.length:Int):=by omega
  rw[show Gj xs=true from dD fun i hi=>hf i (by omega) hi]
  (refine TW.go ?_;simp[an];repeat' first|intro hc|refine aa.mk ?_|refine aI ?_|refine af ?_ ?_)
  exact oW [] []
def Zm (xs:List Int)(a b:Int):Bool:=db xs.length fun i=>decide (a≤xs.getD i 0∧xs.getD i 0≤b)
theorem Q0 (xs:List Int)(a b:Int):TC Tw.prog E 141 [gR (aY xs),gI .i64 a,gI .i64 b] 0 [] (gB (Zm xs a b)) []:=by
 refine tE Tryz.f141 Tryz.ntmps141 (by rw[Tryz.results141]) ?_
 refine TW.len 0 rfl fun hlen=>?_;simp only[List.length_map]at hlen;(refine TW.go ?_;simp;repeat' first|intro hc|refine aa.mk ?_|refine aI ?_|refine af ?_ ?_)
 refine tL (fun(k:Nat)=>⟨[(1,gI .i64 a),(2,gI .i64 b),(9,gR (aY xs)),(10,gI .i64 xs.length),(11,gI .i64 (k:Nat))],[],0⟩) (fun k=>k≤xs.length∧∀i,i<k→a≤xs.getD i 0∧xs.getD i 0≤b) (fun k=>xs.length-k) 0 ⟨by omega,fun i hi=>by omega⟩ (kS) fun k hk=>?_
 obtain⟨hk,hf⟩:=hk;by_cases ak:k<xs.length
 ·have he:xs[k]?=some (xs.getD k 0):=by rw[List.getD_eq_getElem?_getD,List.getElem?_eq_getElem ak];rfl
  have an:(k:Int)<(xs.length:Int):=by omega
  have aE:=wrap_add ak hlen;by_cases cJ:a≤xs.getD k 0∧xs.getD k 0≤b
  ·have h1:¬xs.getD k 0<a:=by omega
   have h2:¬b<xs.getD k 0:=by omega
   generalize hx:xs.getD k 0=x at*;(refine TW.go ?_;simp[he,an,aE,h1,h2];repeat' first|intro hc|refine aa.mk ?_|refine aI ?_|refine af ?_ ?_)
   refine⟨k+1,⟨by omega,fun i hi=>?_⟩,by omega,kS⟩
   by_cases e:i=k
   ·subst e;rw[hx];exact cJ
   ·exact hf i (by omega)
  ·rw[show Zm xs a b=false from eD ak (by simp only[decide_eq_false_iff_not];exact cJ)]
   generalize xs.getD k 0=x at*;by_cases h1:x<a
   ·(refine TW.go ?_;simp[he,an,h1];repeat' first|intro hc|refine aa.mk ?_|refine aI ?_|refine af ?_ ?_)
    exact oW [] []
   ·have h2:b<x:=by omega
    (refine TW.go ?_;simp[he,an,h1,h2];repeat' first|intro hc|refine aa.mk ?_|refine aI ?_|refine af ?_ ?_)
    exact oW [] []
 ·obtain rfl:k=xs.length:=by omega
  rw[show Zm xs a b=true from dD fun i hi=>by simpa using hf i hi]
  (refine TW.go ?_;simp;repeat' first|intro hc|refine aa.mk ?_|refine aI ?_|refine af ?_ ?_)
  exact oW [] []
theorem Zn (xs:List Int):cB xs=(decide (0<xs.length)&&Gj xs&&Zm xs 0 4):=by
 rw[Bool.eq_iff_iff];simp only[cB,Gj,Zm,Bool.and_eq_true,decide_eq_true_eq,db,List.all_eq_true,List.mem_range,pI,Gi,bM,Bool.or_eq_true];constructor
 ·rintro⟨h1,h2⟩
  exact⟨⟨h2,fun i hi=>(h1 i hi).2⟩,fun i hi=>by have:=(h1 i hi).1;omega⟩
 ·rintro⟨⟨h1,h2⟩,h3⟩
  exact⟨fun i hi=>⟨by have:=h3 i hi;omega,h2 i hi⟩,h1⟩
theorem AI (xs:List Int):TC Tw.prog E 114 [gR (aY xs)] 0 [] (gB (cB xs)) []:=by
 rw[Zn];have hA:=I0 (E:=E) xs;have hI:=Q0 (E:=E) xs 0 4;refine tE Tryz.f114 Tryz.ntmps114 (by rw[Tryz.results114]) ?_
 by_cases hl:0<xs.length
 ·have QY:(0:Int)<xs.length:=by omega
  cases ha:Gj xs
  ·rw[ha]at hA
   (refine TW.go ?_;simp[hl,QY];repeat' first|intro hc|refine aa.mk ?_|refine aI ?_|refine af ?_ ?_|(refine cP ?_;(first|refine⟨_,hA,?_⟩|refine⟨_,hI,?_⟩);simp[hl,QY]))
   refine aT.own [] [] (by simp;rfl) (by simp[hl]) (by simp) (by simp) (by simp[hl]) (by simp)
  ·rw[ha]at hA
   (refine TW.go ?_;simp[hl,QY];repeat' first|intro hc|refine aa.mk ?_|refine aI ?_|refine af ?_ ?_|(refine cP ?_;(first|refine⟨_,hA,?_⟩|refine⟨_,hI,?_⟩);simp[hl,QY]))
   refine aT.own [] [] (by simp;rfl) (by simp[hl]) (by simp) (by simp) (by simp[hl]) (by simp)
 ·have ic:xs=[]:=List.length_eq_zero_iff.1 (by omega)
  subst ic;(refine TW.go ?_;simp;repeat' first|intro hc|refine aa.mk ?_|refine aI ?_|refine af ?_ ?_)
  exact oW [] []
theorem jx (xs:List Int):TC Tw.prog E 84 [gR (aY xs)] 0 [] (gB (cB xs)) []:=by
 refine tE Tryz.f84 Tryz.ntmps84 (by rw[Tryz.results84]) ?_
 (refine TW.go ?_;simp;repeat' first|intro hc|refine aa.mk ?_|refine aI ?_|refine af ?_ ?_|(refine cP ?_;refine⟨_,AI xs,?_⟩;simp))
 exact oW [] []
end Go.Proofs.YtabjbdnokpjipaaGreat.T
namespace Go.Proofs.YtabjbdnokpjipaaGreat.T
open Go Go.RowKit
set_option maxRecDepth 100000
set_option maxHeartbeats 4000000
variable {E:List PanicEntry→World→Prop}
def qI (gs:List aF)(m:Int):List Int→Int×Int→Bool→(Int×Int)⊕((Int×Int)×Bool)
 |[],b,a=> .inr (b,a)
 |g::set,b,a=>if rX (gAt gs g.toNat) m=true then if(dJ (gAt gs g.toNat) m).f=true then .inl ((dJ (gAt gs g.toNat) m).t,(dJ (gAt gs g.toNat) m).g)
   else qI gs m set (if aO b.1 b.2 (dJ (gAt gs g.toNat) m).t (dJ (gAt gs g.toNat) m).g=true then((dJ (gAt gs g.toNat) m).t,(dJ (gAt gs g.toNat) m).g)else b) a
  else qI gs m set b false
def Sb (gs:List aF)(set:List Int)(m:Int):(Int×Int)×Bool:=match qI gs m set (0,0) true with
 | .inl s=>(s,true)
 | .inr x=>if x.2=true then(x.1,true)else((0,0),false)
theorem Q1 {gs:List aF}{m:Int}{set:List Int}{k:Nat}{g:Int}(h:set[k]?=some g)(b:Int×Int)(a:Bool):qI gs m (set.drop k) b a=if rX (gAt gs g.toNat) m=true then if(dJ (gAt gs g.toNat) m).f=true then .inl ((dJ (gAt gs g.toNat) m).t,(dJ (gAt gs g.toNat) m).g)
   else qI gs m (set.drop (k+1)) (if aO b.1 b.2 (dJ (gAt gs g.toNat) m).t (dJ (gAt gs g.toNat) m).g=true then((dJ (gAt gs g.toNat) m).t,(dJ (gAt gs g.toNat) m).g)else b) a
  else qI gs m (set.drop (k+1)) b false:=by
 obtain⟨hk,he⟩:=List.getElem?_eq_some_iff.1 h;rw[List.drop_eq_getElem_cons hk,qI,he]
theorem E_ (gs:List aF)(set:List Int)(m:Int)(h:iC gs 4294967290)(h5:gs.length=5)(hn:set≠[])(hl:set.length≤5)(hr:cm set):
  TC Tw.prog bq 137 [gR (dq gs),gR (aY set),gI .i64 m] 0 [] (.p [mU (Sb gs set m).1,gB (Sb gs set m).2]) []:=by
 have hE:=sj gs set m h h5 hn hl hr;have yB:(iV gs m set).length=set.length:=by simp
 have dR:∀(k:Nat) g,set[k]?=some g→(iV gs m set)[k]?=some (iO (gAt gs g.toNat) m):=fun k g hg=>by simp[List.getElem?_map,hg]
 generalize iV gs m set=A at*;refine tE Tryz.f137 Tryz.ntmps137 (by rw[Tryz.results137]) ?_
 (refine TW.go ?_;simp[yB];repeat' first|intro hc|refine aa.mk ?_|refine aI ?_|refine af ?_ ?_|(refine cF [] 1 ?_;refine⟨_,_,hE,?_⟩;simp[yB]))
 refine tL (fun(p:Nat×(Int×Int)×Bool)=>⟨[(6,.s (.ptr 0 0)),(8,.s (.ptr 1 0)),(9,gB p.2.2),(16,gR (.sl 5 A)),(17,gI .i64 set.length),(18,gI .i64 (p.1:Nat))],[(0,.box [.r (rI 0),.r (rI 0)]),(1,.box [.r (rI p.2.1.1),.r (rI p.2.1.2)])],2⟩)
  (fun p=>p.1≤set.length∧qI gs m (set.drop p.1) p.2.1 p.2.2=qI gs m set (0,0) true) (fun p=>set.length-p.1) (0,(0,0),true) ⟨by simp,rfl⟩
  (kO [0,1] [2]) fun p hp=>?_
 obtain⟨k,b,a⟩:=p;obtain⟨hk,aZ⟩:=hp;simp only at hk aZ⊢
 unfold Sb;by_cases ak:k<set.length
 ·have he:set[k]?=some set[k]:=List.getElem?_eq_getElem ak
  have hA:=dR k _ he;have an:(k:Int)<(set.length:Int):=by omega
  have aE:IntKind.i64.wrap ((k:Int)+1)=(k:Int)+1:=aQ (by omega) (by omega)
  rw[Q1 he]at aZ;generalize gAt gs (set[k]).toNat=G at*
  cases hv:rX G m
  ·rw[hv,if_neg (by simp)]at aZ
   (refine TW.go ?_;simp[an,hA,iO,hv,aE];repeat' first|intro hc|refine aa.mk ?_|refine aI ?_|refine af ?_ ?_)
   exact⟨(k+1,b,false),⟨by simp only;omega,aZ⟩,by simp only;omega,kO [0,1] []⟩
  ·rw[hv,if_pos rfl]at aZ
   cases hf:(dJ G m).f
   ·rw[hf,if_neg (by simp)]at aZ
    cases hc:aO b.1 b.2 (dJ G m).t (dJ G m).g
    ·rw[hc,if_neg (by simp)]at aZ
     (refine TW.go ?_;simp[an,hA,iO,hv,hf,hc,aE];repeat' first|intro hc|refine aa.mk ?_|refine aI ?_|refine af ?_ ?_|(refine cP ?_;refine⟨_,iD _ _ _ _,?_⟩;simp[an,hA,iO,hv,hf,hc,aE]))
     exact⟨(k+1,b,a),⟨by simp only;omega,aZ⟩,by simp only;omega,kO [0,1] []⟩
    ·rw[hc,if_pos rfl]at aZ
     (refine TW.go ?_;simp[an,hA,iO,hv,hf,hc,aE];repeat' first|intro hc|refine aa.mk ?_|refine aI ?_|refine af ?_ ?_|(refine cP ?_;refine⟨_,iD _ _ _ _,?_⟩;simp[an,hA,iO,hv,hf,hc,aE]))
     exact⟨(k+1,_,a),⟨by simp only;omega,aZ⟩,by simp only;omega,kO [0,1] []⟩
   ·rw[hf,if_pos rfl]at aZ
    rw[←aZ];(refine TW.go ?_;simp[an,hA,iO,hv,hf,aE];repeat' first|intro hc|refine aa.mk ?_|refine aI ?_|refine af ?_ ?_)
    exact oW [] []
 ·obtain rfl:k=set.length:=by omega
  rw[List.drop_length,qI]at aZ;rw[←aZ]
  cases a
  ·(refine TW.go ?_;simp;repeat' first|intro hc|refine aa.mk ?_|refine aI ?_|refine af ?_ ?_)
   exact oW [] []
  ·(refine TW.go ?_;simp;repeat' first|intro hc|refine aa.mk ?_|refine aI ?_|refine af ?_ ?_)
   exact oW [] []
theorem DJ (gs:List aF)(set:List Int)(m:Int)(h:iC gs 4294967290):TC Tw.prog bq 136 [gR (dq gs),gR (aY set),gI .i64 m] 0 [] (gB (mi gs set m)) []:=by
 have hS:=uz gs h;have hV:=jx (E:=bq) set;have hM:=fL (E:=bq) m;refine tE Tryz.f136 Tryz.ntmps136 (by rw[Tryz.results136]) ?_
 unfold mi
 cases a:jM gs
 ·rw[a]at hS
  (refine TW.go ?_;simp;repeat' first|intro hc|refine aa.mk ?_|refine aI ?_|refine af ?_ ?_|(refine cP ?_;(first|refine⟨_,hS,?_⟩|refine⟨_,hV,?_⟩|refine⟨_,hM,?_⟩);simp))
  exact oW [] []
 ·rw[a]at hS
  cases b:cB set
  ·rw[b]at hV
   (refine TW.go ?_;simp;repeat' first|intro hc|refine aa.mk ?_|refine aI ?_|refine af ?_ ?_|(refine cP ?_;(first|refine⟨_,hS,?_⟩|refine⟨_,hV,?_⟩|refine⟨_,hM,?_⟩);simp))
   exact oW [] []
  ·rw[b]at hV
   (refine TW.go ?_;simp;repeat' first|intro hc|refine aa.mk ?_|refine aI ?_|refine af ?_ ?_|(refine cP ?_;(first|refine⟨_,hS,?_⟩|refine⟨_,hV,?_⟩|refine⟨_,hM,?_⟩);simp))
   exact oW [] []
theorem yC {id clock:Int}{es:List aB}{e:aB}(h:oP id clock es=true)(he:e∈es):bc e.t e.g=true:=by
 obtain⟨i,hi,rfl⟩:=List.getElem_of_mem he;rw[oP,bZ]at h;have:=h i hi
 rw[Dk,List.getElem?_eq_getElem hi]at this;simp only[Bool.and_eq_true]at this;exact this.1.1.1.1.2
theorem aeS {g:aF}{m:Int}(hg:bB g=true)(h:cc g m=true):bc (aV g m).t (aV g m).g=true:=by
 simp only[bB,Bool.and_eq_true]at hg;obtain⟨e,he⟩:=Option.isSome_iff_exists.1 h;rw[aV,he,Option.getD_some];unfold aU at he;split at he
 ·rename_i h1;cases he;exact yC hg.1.1.1.2 (List.mem_of_find?_eq_some h1)
 ·exact yC hg.1.1.2 (List.mem_of_find?_eq_some he)
theorem Q2 (a:Int×Int)(xs:List (Int×Int))(y:Int×Int):eF a (xs++[y])=if aO (eF a xs).1 (eF a xs).2 y.1 y.2=true then y else eF a xs:=by
 induction xs generalizing a with
 |nil=>rfl
 |cons x xs ih=>exact ih _
theorem I1 {gs:List aF}{m:Int}(hv:∀g∈gs,bB g=true)(h5:gs.length=5):∀(set:List Int) (acc:List (Int×Int)) (b:Int×Int) (a:Bool) (n:Nat),cm set→b=lu acc→acc.length≤n→a=decide (acc.length=n)→
  (match qI gs m set b a with| .inl s=>(s,true)| .inr x=>if x.2=true then(x.1,true)else((0,0),false))=(match iX gs m set acc with| .inl s=>(s,true)| .inr l=>if l.length<n+set.length then((0,0),false)else(lu l,true))
 |[],acc,b,a,n,_,hb,hn,ha=>by
  subst hb;subst ha;simp only[qI,iX,List.length_nil,Nat.add_zero,decide_eq_true_eq];by_cases h:acc.length=n
  ·rw[if_pos h,if_neg (by omega)]
  ·rw[if_neg h,if_pos (by omega)]
 |g::set,acc,b,a,n,hr,hb,hn,ha=>by
  obtain⟨g0,g1⟩:=hr g (List.mem_cons_self ..);have hG:=hv _ (mX (gs:=gs) (i:=g.toNat) (by omega))
  have f_:cm set:=fun x hx=>hr x (List.mem_cons_of_mem _ hx)
  rw[qI,iX];simp only[rX,dJ,hG,Bool.true_and,if_true]
  cases hs:cc (gAt gs g.toNat) m
  ·simp only[Bool.false_and,Bool.false_eq_true,if_false]
   rw[I1 hv h5 set acc b false (n+1) f_ hb (by omega) (by simp;omega)]
   simp only[List.length_cons,show n+(set.length+1)=n+1+set.length by omega]
  ·have dP:=aeS hG hs
   simp only[Bool.true_and,if_true]
   cases hf:(aV (gAt gs g.toNat) m).f
   ·simp only[Bool.false_eq_true,if_false]
    generalize(aV (gAt gs g.toNat) m).t=t at*;generalize(aV (gAt gs g.toNat) m).g=s at*;have hm:(if aO b.1 b.2 t s=true then(t,s)else b)=lu (acc++[(t,s)]):=by
     subst hb;rcases acc with _|⟨x,xs⟩
     ·simp only[bc,Bool.and_eq_true,decide_eq_true_eq]at dP
      rw[if_pos (by show aO 0 0 t s=true;simp only[aO,decide_eq_true_eq];omega)]
      rfl
     ·exact(Q2 x xs (t,s)).symm
    rw[I1 hv h5 set (acc++[(t,s)]) _ a (n+1) f_ hm (by simp;omega) (by rw[ha];simp)]
    simp only[List.length_cons,show n+(set.length+1)=n+1+set.length by omega]
   ·simp
end Go.Proofs.YtabjbdnokpjipaaGreat.T
namespace Go.Proofs.YtabjbdnokpjipaaGreat.T
open Go Go.RowKit
set_option maxRecDepth 100000
set_option maxHeartbeats 4000000
theorem su {gs:List aF}{m:Int}{s:Int×Int}:∀{set:List Int} {acc:List (Int×Int)},iX gs m set acc= .inl s→∃g∈set,cc (gAt gs g.toNat) m=true∧(aV (gAt gs g.toNat) m).f=true∧s=((aV (gAt gs g.toNat) m).t,(aV (gAt gs g.toNat) m).g)
 |[],acc,h=>by cases h
 |g::set,acc,h=>by
  rw[iX]at h;split at h
  ·rename_i hc
   simp only[Bool.and_eq_true]at hc
   cases h;exact⟨g,List.mem_cons_self ..,hc.1,hc.2,rfl⟩
  ·obtain⟨g',h1,h2⟩:=su h
   exact⟨g',List.mem_cons_of_mem _ h1,h2⟩
theorem aeT {gs:List aF}{m:Int}{l:List (Int×Int)}:∀{set:List Int} {acc:List (Int×Int)},iX gs m set acc= .inr l→
  (∀x∈acc,x∈l)∧(∀g∈set,cc (gAt gs g.toNat) m=true→(aV (gAt gs g.toNat) m).f=false∧((aV (gAt gs g.toNat) m).t,(aV (gAt gs g.toNat) m).g)∈l)∧
   (∀x∈l,x∈acc∨∃g∈set,cc (gAt gs g.toNat) m=true∧x=((aV (gAt gs g.toNat) m).t,(aV (gAt gs g.toNat) m).g))∧l.length≤acc.length+set.length
 |[],acc,h=>by cases h;exact⟨fun x h=>h,fun g h=>(by cases h),fun x h=> .inl h,by simp⟩
 |g::set,acc,h=>by
  rw[iX]at h;split at h
  ·cases h
  ·rename_i hc
   obtain⟨h1,h2,h3,h4⟩:=aeT h
   cases hs:cc (gAt gs g.toNat) m
   ·simp only[hs,Bool.false_eq_true,if_false]at h1 h3 h4
    refine⟨h1,fun g' bu wF=>?_,fun x hx=>?_,by simp;omega⟩
    ·rcases List.mem_cons.1 bu with rfl|bu
     ·rw[hs]at wF;cases wF
     ·exact h2 g' bu wF
    ·rcases h3 x hx with h|⟨g',bu,h⟩
     ·exact .inl h
     ·exact .inr ⟨g',List.mem_cons_of_mem _ bu,h⟩
   ·simp only[hs,if_true]at h1 h3 h4
    refine⟨fun x hx=>h1 x (by simp[hx]),fun g' bu wF=>?_,fun x hx=>?_,by simp at h4⊢;omega⟩
    ·rcases List.mem_cons.1 bu with rfl|bu
     ·exact⟨by simpa[hs]using hc,h1 _ (by simp)⟩
     ·exact h2 g' bu wF
    ·rcases h3 x hx with h|⟨g',bu,h⟩
     ·rcases List.mem_append.1 h with h|h
      ·exact .inl h
      ·rw[List.mem_singleton]at h
       exact .inr ⟨g,List.mem_cons_self ..,hs,h⟩
     ·exact .inr ⟨g',List.mem_cons_of_mem _ bu,h⟩
theorem nT (t s:Int):aO t s t s=false:=by simp[aO]
theorem AJ {a b c:Int×Int}(h1:aO a.1 a.2 b.1 b.2=false)(h2:aO b.1 b.2 c.1 c.2=false):aO a.1 a.2 c.1 c.2=false:=by
 simp only[aO,decide_eq_false_iff_not]at*;omega
theorem AK {a b:Int×Int}(h1:aO a.1 a.2 b.1 b.2=true):aO b.1 b.2 a.1 a.2=false:=by
 simp only[aO,decide_eq_false_iff_not,decide_eq_true_eq]at*;omega
theorem yD (a:Int×Int):∀(xs:List (Int×Int)),aO (eF a xs).1 (eF a xs).2 a.1 a.2=false∧(∀y∈xs,aO (eF a xs).1 (eF a xs).2 y.1 y.2=false)∧(eF a xs=a∨eF a xs∈xs):=by
 intro xs;induction xs generalizing a with
 |nil=>exact⟨nT _ _,fun y h=>(by cases h),.inl rfl⟩
 |cons x xs ih=>
  rw[eF];obtain⟨h1,h2,h3⟩:=ih (if aO a.1 a.2 x.1 x.2=true then x else a)
  by_cases hc:aO a.1 a.2 x.1 x.2=true
  ·simp only[if_pos hc]at h1 h2 h3⊢
   refine⟨AJ h1 (AK hc),fun y hy=>?_,.inr ?_⟩
   ·rcases List.mem_cons.1 hy with rfl|hy
    ·exact h1
    ·exact h2 y hy
   ·rcases h3 with h3|h3
    ·rw[h3];exact List.mem_cons_self ..
    ·exact List.mem_cons_of_mem _ h3
  ·simp only[if_neg hc]at h1 h2 h3⊢
   refine⟨h1,fun y hy=>?_,?_⟩
   ·rcases List.mem_cons.1 hy with rfl|hy
    ·exact AJ h1 (by simpa using hc)
    ·exact h2 y hy
   ·rcases h3 with h3|h3
    ·exact .inl h3
    ·exact .inr (List.mem_cons_of_mem _ h3)
theorem VI {gs:List aF}{m:Int}(h:jM gs=true)(hm:bj m=true){i k:Nat}(hi:i<5)(hk:k<5):zu (gAt gs i) (gAt gs k) m=true:=by
 have h5:=oX h;simp only[jM,Bool.and_eq_true,bZ,Dl,R3,h5]at h;simp only[bj,decide_eq_true_eq]at hm;have:=h.2 m.toNat (by omega) i hi k hk
 rwa[show((m.toNat:Nat):Int)=m by omega]at this
theorem DK {gs:List aF}(h:jM gs=true){i:Nat}(hi:i<5):bB (gAt gs i)=true:=by
 have h5:=oX h;simp only[jM,Bool.and_eq_true,bZ,h5]at h;have:=h.1.2 i hi
 simp only[E1,Bool.and_eq_true]at this;exact this.1
end Go.Proofs.YtabjbdnokpjipaaGreat.T
namespace Go.Proofs.YtabjbdnokpjipaaGreat.T
open Go Go.RowKit
theorem vb {xs:List Int}(h:cB xs=true):xs.Pairwise (·<·):=by
 simp only[cB,Bool.and_eq_true,decide_eq_true_eq,db,List.all_eq_true,List.mem_range,pI,bM,Bool.or_eq_true]at h;obtain⟨h1, -⟩:=h;have one:∀i (hi:i+1<xs.length),xs[i]<xs[i+1]:=fun i hi=>by
  have:=(h1 (i+1) hi).2
  simp only[Nat.add_sub_cancel,List.getD_eq_getElem?_getD,List.getElem?_eq_getElem hi,List.getElem?_eq_getElem (show i<xs.length by omega),Option.getD_some]at this
  omega
 rw[List.pairwise_iff_getElem];have:∀(d i:Nat) (hi:i<xs.length) (hj:i+d+1<xs.length),xs[i]<xs[i+d+1]:=by
  intro d;induction d with
  |zero=>intro i hi hj;exact one i hj
  |succ d ih=>
   intro i hi hj;have a:=ih i hi (by omega)
   have b:=one (i+d+1) (by omega)
   have c:xs[i+(d+1)+1]=xs[i+d+1+1]:=rfl
   omega
 intro i j hi hj jf;obtain⟨d,rfl⟩:∃d,j=i+d+1:=⟨j-i-1,by omega⟩
 exact this d i hi hj
theorem yE {gs:List aF}{i k:Nat}(x:aF)(hi:i<gs.length):gAt (gs.set i x) k=if k=i then x else gAt gs k:=by
 unfold gAt;simp only[List.getD_eq_getElem?_getD,List.getElem?_set];by_cases h:k=i
 ·subst h;simp[hi]
 ·rw[if_neg h,if_neg (fun e=>h e.symm)]
theorem NU {a b:List aF}(ha:a.length=5)(hb:b.length=5)(h:∀i,i<5→gAt a i=gAt b i):a=b:=by
 refine List.ext_getElem (by omega) fun i h1 h2=>?_
 have:=h i (by omega)
 simpa[gAt,List.getD_eq_getElem?_getD,List.getElem?_eq_getElem h1,List.getElem?_eq_getElem h2]using this
theorem DL (f:aF→aF):∀{set:List Int} {gs:List aF},cm set→set.Pairwise (·<·)→gs.length=5→
  (set.foldl (fun gs g=>gs.set g.toNat (f (gAt gs g.toNat))) gs).length=5∧∀i:Nat,i<5→gAt (set.foldl (fun gs g=>gs.set g.toNat (f (gAt gs g.toNat))) gs) i=if(i:Int)∈set then f (gAt gs i)else gAt gs i
 |[],gs,_,_,h5=>⟨h5,fun i _=>by simp⟩
 |x::set,gs,hr,hp,h5=>by
  obtain⟨x0,x1⟩:=hr x (List.mem_cons_self ..);rw[List.pairwise_cons]at hp;obtain⟨l,h⟩:=DL f (set:=set) (gs:=gs.set x.toNat (f (gAt gs x.toNat))) (fun g hg=>hr g (List.mem_cons_of_mem _ hg)) hp.2 (by simpa using h5)
  refine⟨l,fun i hi=>?_⟩
  rw[List.foldl_cons,h i hi,yE _ (by omega)]
  by_cases hx:i=x.toNat
  ·have ES:(i:Int)=x:=by omega
   have hn:¬(i:Int)∈set:=fun hm=>by have:=hp.1 _ hm;omega
   rw[if_neg hn,if_pos hx,ES,if_pos (List.mem_cons_self ..),hx]
  ·have ES:¬(i:Int)=x:=by omega
   rw[if_neg hx];by_cases hm:(i:Int)∈set
   ·rw[if_pos hm,if_pos (List.mem_cons_of_mem _ hm)]
   ·rw[if_neg hm,if_neg]
    intro h;rcases List.mem_cons.1 h with h|h
    ·exact ES h
    ·exact hm h
theorem uA {gs:List aF}{set:List Int}(m:Int)(hr:cm set)(hp:set.Pairwise (·<·))(h5:gs.length=5):
  (aN gs m set).length=5∧∀i:Nat,i<5→gAt (aN gs m set) i=if(i:Int)∈set then(aD (gAt gs i) m).1 else gAt gs i:=DL (fun g=>(aD g m).1) hr hp h5
theorem BP {gs:List aF}{set:List Int}(m:Int)(s:Int×Int)(hr:cm set)(hp:set.Pairwise (·<·))(h5:gs.length=5):
  (bK gs m s set).length=5∧∀i:Nat,i<5→gAt (bK gs m s set) i=if(i:Int)∈set then(bn (gAt gs i) m s.1 s.2).1 else gAt gs i:=DL (fun g=>(bn g m s.1 s.2).1) hr hp h5
theorem pO {m:Int}(hm:bj m=true):∀{set:List Int} {gs:List aF},cm set→gs.length=5→(∀g∈gs,bB g=true)→∀g∈aN gs m set,bB g=true
 |[],_,_,_,h=>h
 |x::set,gs,hr,h5,h=>by
  unfold aN;rw[List.foldl_cons];refine pO hm (set:=set) (fun g hg=>hr g (List.mem_cons_of_mem _ hg)) (by simpa using h5) fun g hg=>?_
  rcases mem_set hg with rfl|hg
  ·have:=hr x (List.mem_cons_self ..)
   exact mZ (h _ (mX (by omega))) hm
  ·exact h g hg
theorem sw {m:Int}{s:Int×Int}(hm:bj m=true)(hs:bc s.1 s.2=true):∀{set:List Int} {gs:List aF},cm set→gs.length=5→(∀g∈gs,bB g=true)→∀g∈bK gs m s set,bB g=true
 |[],_,_,_,h=>h
 |x::set,gs,hr,h5,h=>by
  unfold bK;rw[List.foldl_cons];refine sw hm hs (set:=set) (fun g hg=>hr g (List.mem_cons_of_mem _ hg)) (by simpa using h5) fun g hg=>?_
  rcases mem_set hg with rfl|hg
  ·have:=hr x (List.mem_cons_self ..)
   exact u9 (h _ (mX (by omega))) hm hs
  ·exact h g hg
theorem NV {gs:List aF}(h:jM gs=true):∀g∈gs,bB g=true:=fun g hg=>by
 obtain⟨i,hi,rfl⟩:=List.getElem_of_mem hg;have:=DK h (i:=i) (by have:=oX h;omega)
 rwa[gAt,List.getD_eq_getElem?_getD,List.getElem?_eq_getElem hi]at this
theorem yF {gs:List aF}{set:List Int}{m:Int}(hg:∀g∈gs,bB g=true)(h5:gs.length=5)(hr:cm set)(hn:set≠[])(h:(aS gs set m).2=true):bc (aS gs set m).1.1 (aS gs set m).1.2=true:=by
 have hG:∀g∈set,bB (gAt gs g.toNat)=true:=fun g h=>hg _ (mX (by have:=hr g h;omega))
 unfold aS at h⊢;split at h
 ·rename_i s' he
  obtain⟨a,ha,a1,a2,rfl⟩:=su he;exact aeS (hG a ha) a1
 ·rename_i l he
  split at h
  ·cases h
  ·rename_i hlen
   rw[if_neg hlen];obtain⟨-,k2,k3,k4⟩:=aeT he;rcases l with _|⟨x,xs⟩
   ·exact absurd (List.length_pos_iff.2 hn) (by simpa using hlen)
   ·obtain⟨m1,m2,m3⟩:=yD x xs
    have cH:eF x xs∈x::xs:=by
     rcases m3 with h|h
     ·rw[h];exact List.mem_cons_self ..
     ·exact List.mem_cons_of_mem _ h
    rcases k3 _ cH with h|⟨g,bu,dQ,e⟩
    ·cases h
    ·show bc (eF x xs).1 (eF x xs).2=true
     rw[e];exact aeS (hG g bu) dQ
def lz (gs:List aF)(set:List Int)(m:Int):List aF×Bool:=if mi gs set m=true then if(eH gs set m).2=true then((eH gs set m).1,true)else(gs,false)else([],false)
theorem VJ {gs:List aF}{set:List Int}{m:Int}(hv:∀g∈gs,bB g=true)(h5:gs.length=5)(hr:cm set):Sb gs set m=aS gs set m:=by
 have:=I1 (m:=m) hv h5 set [] (0,0) true 0 hr rfl (by simp) rfl
 simp only[Nat.zero_add]at this;exact this
end Go.Proofs.YtabjbdnokpjipaaGreat.T
