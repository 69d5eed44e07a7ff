/-
What is proved: what impl and what rests on it. Conditions: as stated.
-/
import Derived.Test.YtlhohdjniaebbaaGreatRy37
import Derived.Test.YtlhohdjniaebbaaGreatRy39
import Derived.Test.YtlhohdjniaebbaaGreatRy38
import Derived.Test.YtlhohdjniaebbaaGreatRy36
set_option linter.unusedVariables false
set_option linter.unusedSimpArgs false
namespace Go.Proofs.YtlhohdjniaebbaaGreat.T
open Go Go.RowKit
def na (ch:List PanicEntry)(w:World):Prop:=Sr.ZM (.panicked ch) w
inductive tn:RT→Prop
 |v (x:Value):tn (.v x)
 |nil:tn .nil
 |sl {k:Nat} {xs:List (List RT)} (h0:0<k) (h:∀(i:Nat) (e:List RT),xs[i]?=some e→∀(j:Nat) (r:RT),e[j]?=some r→tn r):tn (.sl k xs)
theorem cE.abH {w u:World}{D:Nat→Prop}(hc:∀q:Addr,D q.block→u.cell? q=w.cell? q){v:Value}{t:RT}(h:cE w D v t):tn t→cE u (fun b=>b<u.heap.size) v t:=by
 induction h with
 |v h=>exact fun _=> .v h
 |nil=>exact fun _=> .nil
 |sS hm=>exact fun _=> .sS hm
 | @sl b o c k xs vs cb hm lT cQ hv _ ih=>
   intro hs
   cases hs with
   |sl h0 hs=>
   rcases xs with _|⟨e,xs⟩
   ·exact .sS hm
   ·have hk0:=cQ 0 e rfl
    obtain⟨r,hr⟩:∃r,e[0]?=some r:=⟨_,List.getElem?_eq_getElem (by omega)⟩
    refine .sl vs cb hm ?_ cQ (fun i e he j r hr=>(hc _ lT).trans (hv i e he j r hr)) fun i e he j r hr=>ih i e he j r hr (hs i e he j r hr)
    exact World.block_lt_of_cell? u _ ((hc _ lT).trans (hv 0 e rfl 0 r hr))
theorem M8 (gs:List aH):tn (eZ gs):=by
 refine .sl (by omega) fun i e he j r hr=>?_
 rw[List.getElem?_map,Option.map_eq_some_iff]at he;obtain⟨g,_,rfl⟩:=he;have hE:∀es:List aK,tn (c7 es):=fun es=>by
  refine .sl (by omega) fun i e he j r hr=>?_
  rw[List.getElem?_map,Option.map_eq_some_iff]at he;obtain⟨x,_,rfl⟩:=he;rcases j with _|_|_|_|j<;>simp[aF]at hr<;>subst hr<;>exact .v _
 rcases j with _|_|_|_|j<;>simp[au]at hr<;>subst hr
 ·exact .v _
 ·exact .v _
 ·exact hE _
 ·exact hE _
theorem yb {w:World}{D:Nat→Prop}{v:Value}{n:Int}(h:cE w D v (rI n)):v= .int .i64 n:=by cases h;rfl
theorem Oo {w:World}{D:Nat→Prop}{v:Value}{b:Bool}(h:cE w D v (rB b)):v= .bool b:=by cases h;rfl
def YF (g:aH)(m:Int):Sr.eH:=⟨(fJ g m).m,(fJ g m).t,(fJ g m).g,(fJ g m).f,vZ g m⟩
theorem RD {ρ:Nat→Option Value}{w:World}{D:Nat→Prop}{v:Value}{g:aH}{m:Int}(h:bg ρ w D v (.a ((kZ g m).map .r))):v=(YF g m).val:=by
 cases h with
 | @a arr _ hn h=>
   have hl:arr.size=5:=by simpa[kZ]using hn
   have r:∀(i:Nat) (t:RT),(kZ g m)[i]?=some t→cE w D (arr.getD i undef) t:=fun i t ht=>by
    have:=h i (.r t) (by rw[List.getElem?_map,ht];rfl)
    generalize arr.getD i undef=z at this
    cases this with|r h=>exact h
   have h0:=yb (r 0 _ rfl);have h1:=yb (r 1 _ rfl);have h2:=yb (r 2 _ rfl);have h3:=Oo (r 3 _ rfl);have h4:=Oo (r 4 _ rfl);show Value.agg arr= .agg #[.int .i64 (fJ g m).m,.int .i64 (fJ g m).t,.int .i64 (fJ g m).g,.bool (fJ g m).f,.bool (vZ g m)]
   congr 1
   rcases arr with⟨l⟩;rcases l with _|⟨x0,_|⟨x1,_|⟨x2,_|⟨x3,_|⟨x4,_|⟨x5,l⟩⟩⟩⟩⟩⟩<;>simp at hl
   simp at h0 h1 h2 h3 h4
   subst h0 h1 h2 h3 h4;rfl
abbrev qV (gs:List aH) (m:Int) (set:List Int):List (List RT):=set.map fun x=>kZ (aB gs x.toNat) m
set_option maxRecDepth 100000 in
theorem EY (gs:List aH)(set:List Int)(m:Int)(h:ju gs 4294967290)(hg:gs.length=5)(hn:set≠[])(h5:set.length≤5)(hr:dN set):
  TC Tw.prog na 147 [gR (eZ gs),gR (bu set),gI .i64 m] 0 [] (.s (.own 0)) [(0,.rows 170 5 (qV gs m set))]:=by
 refine⟨ML.of Tw.yc rfl (by kernel_rfl),fun w bJ ρ D hv ha hD _ _ _=>?_⟩
 have r0:=ha 0 _ rfl;have r1:=ha 1 _ rfl;have r2:=ha 2 _ rfl;rcases bJ with⟨l⟩;rcases l with _|⟨x0,_|⟨x1,_|⟨x2,_|⟨x3,l⟩⟩⟩⟩<;>simp at hv
 simp only[Array.getD_eq_getD_getElem?,List.getElem?_toArray,List.getElem?_cons_zero,List.getElem?_cons_succ,Option.getD_some]at r0 r1 r2;have r2:=uu r2;subst r2
 cases r0 with|s r0=>cases r0 with|r r0=>
 cases r1 with|s r1=>cases r1 with|r r1=>
 obtain⟨A,gc,rfl,g1,g2,abI,gD⟩:=r0.slice;obtain⟨A',sc,rfl,s1,s2,YG,sD⟩:=r1.slice;have dH:0<set.length:=List.length_pos_iff.2 hn
 obtain⟨-,gb,go,rfl, -⟩:=abI 0 (au (aB gs 0)) (by rw[List.getElem?_map,jZ (by omega)];rfl)
 obtain⟨-,sb,so,rfl, -⟩:=YG 0 [rI set[0]] (by rw[List.getElem?_map,List.getElem?_eq_getElem dH];rfl)
 have aY:∀i,i<set.length→w.cell? ⟨sb,so+i,none⟩=some (.int .i64 (set.getD i 0)):=fun i hi=>by
  obtain⟨-,b,o,e,hh⟩:=YG i [rI (set.getD i 0)] (by rw[List.getElem?_map,List.getElem?_eq_getElem hi,List.getD_eq_getElem?_getD,List.getElem?_eq_getElem hi];rfl)
  cases e;obtain⟨v,hv,hr⟩:=hh 0 _ rfl;rw[yb hr]at hv;simpa using hv
 have cK:∀i,i<set.length→0≤set.getD i 0∧set.getD i 0<gs.length:=fun i hi=>by
  rw[List.getD_eq_getElem?_getD,List.getElem?_eq_getElem hi];have:=hr _ (List.getElem_mem hi)
  exact⟨this.1,by rw[hg];exact this.2⟩
 have T9:Aj ⟨gb,go,none⟩ gs.length gc sb so set.length m (fun i=>set.getD i 0) (fun i=>YF (aB gs (set.getD i 0).toNat) m) w:=by
  refine⟨dH,h5,by omega,aY,fun i hi u pb mb hu hp hm=>?_⟩
  have hT:=(JB (E:=fun _ _=>False) gs (set.getD i 0) m h (cK i hi).1 (cK i hi).2).2
  have uA:pb<u.heap.size:=World.block_lt_of_cell? u _ hp
  have hml:mb<u.heap.size:=World.block_lt_of_cell? u _ hm
  have abJ:cE u (fun b=>b<u.heap.size) (.slice (some ⟨gb,go,none⟩) gs.length gc) (eZ gs):=cE.abH (fun q hq=>hu q (hD _ hq)) (by simpa using r0) (M8 gs)
  refine(hT u #[.int .i64 (set.getD i 0),.pointer (some ⟨pb,0,none⟩),.pointer (some ⟨mb,0,none⟩)] (fun _=>none) (fun b=>b<u.heap.size) rfl (fun j g hj=>?_) (fun k hk=>hk) (fun b y h=>by cases h) (fun b y g h=>by cases h) (fun b y b' y' g h=>by cases h)).mono ?_
  ·rcases j with _|_|_|j
   ·cases hj;exact .s (.r (.v rfl))
   ·cases hj
    refine .s (.iZ (o:=0) (off:=0) (fun _=> .slice (some ⟨gb,go,none⟩) gs.length gc) uA (fun j r hj=>?_) fun j r hj=>?_)
    ·rcases j with _|j
     ·exact hp
     ·simp at hj
    ·rcases j with _|j
     ·cases hj;exact abJ
     ·simp at hj
   ·cases hj
    refine .s (.iZ (o:=0) (off:=0) (fun _=> .int .i64 m) hml (fun j r hj=>?_) fun j r hj=>?_)
    ·rcases j with _|j
     ·exact hm
     ·simp at hj
    ·rcases j with _|j
     ·cases hj;exact .v rfl
     ·simp at hj
   ·simp at hj
  ·rintro e w' (⟨ch,_,hE⟩|⟨v,ρ',D',rfl,hv,hP⟩)
   ·exact hE.elim
   ·refine⟨by rw[RD hv],hP.os,hP.tape,hP.output,hP.size,fun k hk=>hP.old k hk fun⟨b,y,h,_⟩=>by cases h⟩
 simp only[List.length_map];refine(Vu ⟨gb,go,none⟩ gs.length gc sb so set.length sc m _ _ w T9).mono ?_;rintro e w' (⟨⟨B,rfl,hB,⟨cs,sI,jj,eT⟩, -, -⟩,hb⟩|hE)
 ·right
  have aj:B<w'.heap.size:=(Array.getElem?_eq_some_iff.1 sI).1
  refine⟨_,fun b=>if b=0 then some (.slice (some ⟨B,0,none⟩) set.length set.length)else none,D,rfl,.s (.own rfl),⟨hb.os,hb.tape,hb.output,hb.size,fun k hk _=>hb.block k hk,fun k hk=>⟨Nat.lt_of_lt_of_le (hD k hk) hb.size,.inl hk⟩,fun b y hy=>?_,fun b y g hy hl hg=>?_,fun b y b' y' g hy hl dq dm _ _=>?_,fun b hb=>by omega,fun b _ hn=>?_⟩⟩
  ·simp only[gt]at hy
   split at hy
   ·rename_i e0
    cases hy;subst e0;refine⟨some ⟨B,0,none⟩,set.length,by simp,by simp,by simp only[maxLen];omega,by omega,fun i y hy=>?_,.inr ⟨B,cs,rfl,sI,by rw[jj,Nat.mul_comm],fun i y hy j r hr=>?_⟩⟩
    ·rw[List.getElem?_map,Option.map_eq_some_iff]at hy
     obtain⟨x,_,rfl⟩:=hy;rfl
    ·rw[List.getElem?_map,Option.map_eq_some_iff]at hy
     obtain⟨x,hx,rfl⟩:=hy;have hi:=(List.getElem?_eq_some_iff.1 hx).1;have hj:j<5:=(List.getElem?_eq_some_iff.1 hr).1
     have hc:=eT i j hi hj;have hY:set.getD i 0=x:=by rw[List.getD_eq_getElem?_getD,hx];rfl
     simp only[hY]at hc;rw[Array.getD_eq_getD_getElem?,show i*5+j=5*i+j by omega,hc]
     rcases j with _|_|_|_|_|j
     ·cases hr;exact .v rfl
     ·cases hr;exact .v rfl
     ·cases hr;exact .v rfl
     ·cases hr;exact .v rfl
     ·cases hr;exact .v rfl
     ·omega
   ·cases hy
  ·simp only[gt]at hy
   split at hy
   ·rename_i e0
    subst e0;simp only[if_true,bI,Option.some.injEq]at hg;subst hg;exact⟨fun hd=>by have:=hD _ hd;omega,.inr hB⟩
   ·cases hy
  ·simp only[gt]at hy dq
   split at hy
   ·split at dq
    ·omega
    ·cases dq
   ·cases hy
  ·simp only[gt]at hn
   split at hn
   ·cases hn
   ·rename_i e0;rw[if_neg e0]
 ·left
  rcases hE with⟨us,rfl,sw⟩|⟨us,rfl,sw⟩
  ·exact⟨_,rfl,.inl ⟨us,rfl,sw⟩⟩
  ·exact⟨_,rfl,.inr ⟨us,rfl,sw⟩⟩
end Go.Proofs.YtlhohdjniaebbaaGreat.T
namespace Go.Proofs.YtlhohdjniaebbaaGreat.T
open Go Go.RowKit
set_option maxRecDepth 100000
set_option maxHeartbeats 4000000
variable {E:List PanicEntry→World→Prop}
def upto (k:Nat):List Int:=(List.range k).map fun(i:Nat)=>(i:Int)
theorem Ak (k:Nat):upto (k+1)=upto k++[(k:Int)]:=by simp[upto,List.range_succ]
theorem CE (k:Nat):(upto k).length=k:=by simp[upto]
theorem Bz:TC Tw.prog E 153 [.fQ (.func 120) [] []] 0 [] (gR (bu (upto 5))) []:=by
 refine tE Tryz.f153 Tryz.ntmps153 (by rw[Tryz.results153]) ?_
 (refine TW.go ?_;simp;repeat' first|intro hc|refine aa.mk ?_|refine aI ?_|refine af ?_ ?_)
 refine tL (fun(k:Nat)=>⟨[(0,.fQ (.func 120) [] []),(3,.s (.own 0)),(6,gI .i64 (k:Nat))],[(0,Vm (upto k))],1⟩) (fun k=>k≤5) (fun k=>5-k) 0 (by omega)
  (Wk.own [0] [] (by simp) (by simp) (by simp[upto]) (by simp) (by simp)) fun k hk=>?_
 by_cases aj:k<5
 ·have aA:(k:Int)<5:=by omega
  have hg:cd (k:Int)=true:=by simp[cd];omega
  have aG:IntKind.i64.wrap ((k:Int)+1)=(k:Int)+1:=dj (by omega) (by omega)
  have hl:=CE k;(refine TW.go ?_;simp[aA,hg,aG,maxLen];repeat' first|intro hc|refine aa.mk ?_|refine aI ?_|refine af ?_ ?_|(refine cP ?_;refine⟨_,oZ _,?_⟩;simp[aA,hg,aG,maxLen]))
  exact⟨k+1,by omega,by omega,Wk.own [2] [] (by simp) (by simp) (by simp[Ak]) (by simp) (by simp)⟩
 ·obtain rfl:k=5:=by omega
  (refine TW.go ?_;simp;repeat' first|intro hc|refine aa.mk ?_|refine aI ?_|refine af ?_ ?_)
  exact oW [] [0]
theorem EZ:TC Tw.prog E 148 [] 0 [] (gR (bu (upto 5))) []:=by
 refine tE Tryz.f148 Tryz.ntmps148 (by rw[Tryz.results148]) ?_
 (refine TW.go ?_;simp;repeat' first|intro hc|refine aa.mk ?_|refine aI ?_|refine af ?_ ?_|(refine cP ?_;refine⟨_,Bz,?_⟩;simp))
 exact oW [] []
def JL (a b:aH)(m:Int):Bool:=
 !(vZ a m&&(fJ a m).f)|| !(vZ b m&&(aS (fJ a m).t (fJ a m).g (fJ b m).t (fJ b m).g||(fJ b m).f&& !(decide ((fJ a m).t=(fJ b m).t)&&decide ((fJ a m).g=(fJ b m).g))))
def JM (gs:List aH)(m:Int)(i:Nat):Bool:=bR 5 fun k=>JL (aB gs i) (aB gs k) m
def qC (gs:List aH)(m:Int):Bool:=bR 5 (JM gs m)
theorem Vv (gs:List aH)(m:Int){k:Nat}(h:k<5):(qV gs m (upto 5))[k]?=some (kZ (aB gs k) m):=by
 rw[List.getElem?_map,upto,List.getElem?_map,List.getElem?_range h];rfl
theorem BB (gs:List aH)(m:Int)(h:ju gs 4294967290)(h5:gs.length=5):TC Tw.prog na 100 [gR (eZ gs),gI .i64 m] 0 [] (gB (qC gs m)) []:=by
 have hE:=EY gs (upto 5) m h h5 (by decide) (by decide) (fun g hg=>by simp[upto,List.range_succ]at hg;omega)
 have JN:(qV gs m (upto 5)).length=5:=by simp[upto]
 have cc:=fun k h=>Vv gs m (k:=k) h
 generalize qV gs m (upto 5)=A at*;refine tE Tryz.f100 Tryz.ntmps100 (by rw[Tryz.results100]) ?_
 (refine TW.go ?_;simp[JN];repeat' first|intro hc|refine aa.mk ?_|refine aI ?_|refine af ?_ ?_|(refine cP ?_;refine⟨_,EZ,?_⟩;simp[JN])|(refine cF [] 1 ?_;refine⟨_,_,hE,?_⟩;simp[JN]))
 refine tL (fun(i:Nat)=>⟨[(5,gR (.sl 5 A)),(14,gR (.sl 5 A)),(15,gI .i64 5),(16,gI .i64 (i:Nat))],[],0⟩) (fun i=>i≤5∧∀j,j<i→JM gs m j=true) (fun i=>5-i) 0 ⟨by omega,fun j hj=>by omega⟩
  (kO [] [0]) fun i hi=>?_
 obtain⟨hi,hf⟩:=hi;by_cases aj:i<5
 ·have aA:(i:Int)<5:=by omega
  have aG:IntKind.i64.wrap ((i:Int)+1)=(i:Int)+1:=dj (by omega) (by omega)
  have pD:=cc i aj;have hq:qC gs m=false∨JM gs m i=true:=by
   cases h:JM gs m i
   ·exact .inl (by simp[qC,bH aj h])
   ·exact .inr rfl
  by_cases Oq:(vZ (aB gs i) m&&(fJ (aB gs i) m).f)=true
  ·simp only[Bool.and_eq_true]at Oq
   obtain⟨f1,f2⟩:=Oq;(refine TW.go ?_;simp[aA,pD,f1,f2,kZ,aG,JN];repeat' first|intro hc|refine aa.mk ?_|refine aI ?_|refine af ?_ ?_)
   refine tL (fun(k:Nat)=>⟨[(5,gR (.sl 5 A)),(7,.s (.ptr 0 0)),(14,gR (.sl 5 A)),(15,gI .i64 5),(16,gI .i64 (i:Nat)),(29,gR (.sl 5 A)),(30,gI .i64 5),(31,gI .i64 (k:Nat))],[(0,.box ((kZ (aB gs i) m).map .r))],1⟩) (fun k=>k≤5∧∀j,j<k→JL (aB gs i) (aB gs j) m=true) (fun k=>5-k) 0 ⟨by omega,fun j hj=>by omega⟩
    (Wk.own [0] [] (by simp) (by simp) (by simp[kZ,f1,f2]) (by simp) (by simp)) fun k hk=>?_
   obtain⟨hk,Ju⟩:=hk;by_cases rV:k<5
   ·have YH:(k:Int)<5:=by omega
    have xF:IntKind.i64.wrap ((k:Int)+1)=(k:Int)+1:=dj (by omega) (by omega)
    have KL:=cc k rV;have Vw:qC gs m=false∨JL (aB gs i) (aB gs k) m=true:=by
     rcases hq with h|h
     ·exact .inl h
     ·exact .inr (by rw[JM,bd]at h;exact h k rV)
    have hcp:JL (aB gs i) (aB gs k) m= !(vZ (aB gs k) m&&(aS (fJ (aB gs i) m).t (fJ (aB gs i) m).g (fJ (aB gs k) m).t (fJ (aB gs k) m).g||(fJ (aB gs k) m).f&& !(decide ((fJ (aB gs i) m).t=(fJ (aB gs k) m).t)&&decide ((fJ (aB gs i) m).g=(fJ (aB gs k) m).g)))):=by rw[JL,f1,f2];rfl
    (refine TW.go ?_;simp[YH,KL,f1,f2,kZ,xF,JN];repeat' first|intro hc|refine aa.mk ?_|refine aI ?_|refine af ?_ ?_|(refine cP ?_;refine⟨_,o8 _ _ _ _,?_⟩;simp[YH,KL,f1,f2,kZ,xF,JN]))
    all_goals first
     |(refine⟨k+1,⟨by omega,fun j hj=>?_⟩,by omega,Wk.own [0] [] (by simp) (by simp) (by simp[kZ,f1,f2]) (by simp) (by simp)⟩
       by_cases e:j=k
       ·subst e;rw[hcp];simp_all
       ·exact Ju j (by omega))
     |(refine bo.nil (r:=gB (qC gs m)) ?_ rfl
       rcases Vw with Vw|Vw
       ·simp[Vw]
       ·exfalso
        rw[hcp]at Vw;clear Ju hf cc;first|(simp_all;done)|(simp_all;omega))
   ·obtain rfl:k=5:=by omega
    have gw:JM gs m i=true:=bw Ju
    clear Ju;(refine TW.go ?_;simp[aG];repeat' first|intro hc|refine aa.mk ?_|refine aI ?_|refine af ?_ ?_)
    refine⟨i+1,⟨by omega,fun j hj=>?_⟩,by omega,kS⟩
    by_cases e:j=i
    ·subst e;exact gw
    ·exact hf j (by omega)
  ·have gw:JM gs m i=true:=bw fun k _=>by rw[JL,Bool.eq_false_iff.2 Oq];rfl
   have aau:(vZ (aB gs i) m&&(fJ (aB gs i) m).f)=false:=Bool.eq_false_iff.2 Oq
   cases f1:vZ (aB gs i) m
   ·(refine TW.go ?_;simp[aA,pD,f1,kZ,aG,JN];repeat' first|intro hc|refine aa.mk ?_|refine aI ?_|refine af ?_ ?_)
    refine⟨i+1,⟨by omega,fun j hj=>?_⟩,by omega,kS⟩
    by_cases e:j=i
    ·subst e;exact gw
    ·exact hf j (by omega)
   ·have f2:(fJ (aB gs i) m).f=false:=by simpa[f1]using aau
    (refine TW.go ?_;simp[aA,pD,f1,f2,kZ,aG,JN];repeat' first|intro hc|refine aa.mk ?_|refine aI ?_|refine af ?_ ?_)
    refine⟨i+1,⟨by omega,fun j hj=>?_⟩,by omega,kS⟩
    by_cases e:j=i
    ·subst e;exact gw
    ·exact hf j (by omega)
 ·obtain rfl:i=5:=by omega
  have cS:qC gs m=true:=bw hf
  rw[cS];(refine TW.go ?_;simp;repeat' first|intro hc|refine aa.mk ?_|refine aI ?_|refine af ?_ ?_)
  exact oW [] []
end Go.Proofs.YtlhohdjniaebbaaGreat.T
namespace Go.Proofs.YtlhohdjniaebbaaGreat.T
open Go Go.RowKit
set_option maxRecDepth 100000
set_option maxHeartbeats 4000000
variable {E:List PanicEntry→World→Prop}
theorem Vx {t g t' g':Int}(h:aS t g t' g'=true):(decide (t=t')&&decide (g=g'))=false:=by
 simp only[aS,decide_eq_true_eq]at h;simp only[Bool.and_eq_false_iff,decide_eq_false_iff_not];omega
theorem XV {a b:aH}(ha:bm a=true)(hb:bm b=true)(m:Int):JL a b m=l8 a b m:=by
 unfold JL l8 vZ fJ;rw[ha,hb];simp only[Bool.true_and,if_true];have abK:(decide ((aU b m).t=(aU a m).t)&&decide ((aU b m).g=(aU a m).g))=(decide ((aU a m).t=(aU b m).t)&&decide ((aU a m).g=(aU b m).g)):=by
  rw[Bool.eq_iff_iff];simp only[Bool.and_eq_true,decide_eq_true_eq];exact⟨fun h=>⟨h.1.symm,h.2.symm⟩,fun h=>⟨h.1.symm,h.2.symm⟩⟩
 rw[abK]
 cases hl:aS (aU a m).t (aU a m).g (aU b m).t (aU b m).g
 ·cases(aU b m).f<;>simp
 ·rw[Vx hl]
  cases(aU b m).f<;>simp
theorem RE {gs:List aH}(h5:gs.length=5)(h:bR gs.length (oY gs)=true)(m:Nat):qC gs m=qt gs m:=by
 have hv:∀i,i<5→bm (aB gs i)=true:=fun i hi=>by
  rw[bd]at h;have:=h i (by omega)
  simp only[oY,Bool.and_eq_true]at this;exact this.1
 rw[Bool.eq_iff_iff,qC,qt,h5,bd,bd];refine forall_congr' fun i=>forall_congr' fun hi=>?_;rw[JM,uU,h5,bd,bd];refine forall_congr' fun k=>forall_congr' fun hk=>?_;rw[XV (hv i hi) (hv k hk)]
theorem Al (gs:List aH)(h:ju gs 4294967290):TC Tw.prog na 54 [gR (eZ gs)] 0 [] (gB (cY gs)) []:=by
 have hlen:gs.length≤maxLen:=by have:=h.1;simp only[maxLen];omega
 refine tE Tryz.f54 Tryz.ntmps54 (by rw[Tryz.results54]) ?_
 by_cases h5:gs.length=5
 ·(refine TW.go ?_;simp[h5];repeat' first|intro hc|refine aa.mk ?_|refine aI ?_|refine af ?_ ?_)
  refine tL (fun(k:Nat)=>⟨[(0,gR (eZ gs)),(9,gR (eZ gs)),(10,gI .i64 5),(11,gI .i64 (k:Nat))],[],0⟩) (fun k=>k≤5∧∀i,i<k→oY gs i=true) (fun k=>5-k) 0 ⟨by omega,fun i hi=>by omega⟩ (kS) fun k hk=>?_
  obtain⟨hk,hf⟩:=hk;by_cases aj:k<5
  ·have he:=jZ (gs:=gs) (i:=k) (by omega)
   have hV:=rZ (E:=na) (aB gs k) (h.2 _ (List.mem_of_getElem? he));rw[Af]at hV;have aA:(k:Int)<5:=by omega
   have aG:IntKind.i64.wrap ((k:Int)+1)=(k:Int)+1:=dj (by omega) (by omega)
   have aY:oY gs k=(bm (aB gs k)&&decide ((aB gs k).id=k)):=rfl
   have hq:cY gs=false∨oY gs k=true:=by
    cases h:oY gs k
    ·exact .inl (by simp[cY,bH (show k<gs.length by omega) h])
    ·exact .inr rfl
   generalize aB gs k=G at he hV aY
   cases hv:bm G
   ·rw[hv]at hV aY
    (refine TW.go ?_;simp[aA,he,au,aG];repeat' first|intro hc|refine aa.mk ?_|refine aI ?_|refine af ?_ ?_|(refine cP ?_;refine⟨_,hV,?_⟩;simp[aA,he,au,aG]))
    refine bo.nil (r:=gB (cY gs)) ?_ rfl;rcases hq with hq|hq
    ·simp[hq]
    ·rw[aY]at hq;cases hq
   ·rw[hv]at hV aY
    by_cases hid:G.id=k
    ·have hV2:=hV
     simp only[au,hid,List.map_cons,List.map_nil]at hV2;(refine TW.go ?_;simp[aA,he,au,aG,hid];repeat' first|intro hc|refine aa.mk ?_|refine aI ?_|refine af ?_ ?_|(refine cP ?_;refine⟨_,hV2,?_⟩;simp[aA,he,au,aG,hid]))
     refine⟨k+1,⟨by omega,fun i hi=>?_⟩,by omega,kS⟩
     by_cases e:i=k
     ·subst e;rw[aY];simpa using hid
     ·exact hf i (by omega)
    ·(refine TW.go ?_;simp[aA,he,au,aG,hid];repeat' first|intro hc|refine aa.mk ?_|refine aI ?_|refine af ?_ ?_|(refine cP ?_;refine⟨_,hV,?_⟩;simp[aA,he,au,aG,hid]))
     refine bo.nil (r:=gB (cY gs)) ?_ rfl;rcases hq with hq|hq
     ·simp[hq]
     ·rw[aY]at hq;simp[hid]at hq
  ·obtain rfl:k=5:=by omega
   have cS:bR gs.length (oY gs)=true:=bw (by rw[h5];exact hf)
   have Bm:=RE h5 cS;clear hf hk aj;(refine TW.go ?_;simp;repeat' first|intro hc|refine aa.mk ?_|refine aI ?_|refine af ?_ ?_)
   refine tL (fun(m:Nat)=>⟨[(0,gR (eZ gs)),(26,gI .i64 (m:Nat))],[],0⟩) (fun m=>m≤12∧∀i,i<m→qt gs i=true) (fun m=>12-m) 0 ⟨by omega,fun i hi=>by omega⟩ (kS) fun m hm=>?_
   obtain⟨hm,hf⟩:=hm;by_cases aj:m<12
   ·have M9:=BB gs (m:Int) h h5
    rw[Bm]at M9;have aA:(m:Int)<12:=by omega
    have aG:IntKind.i64.wrap ((m:Int)+1)=(m:Int)+1:=dj (by omega) (by omega)
    cases M_:qt gs m
    ·rw[M_]at M9
     rw[show cY gs=false by rw[cY,bH aj M_,Bool.and_false]]
     (refine TW.go ?_;simp[aA,aG];repeat' first|intro hc|refine aa.mk ?_|refine aI ?_|refine af ?_ ?_|(refine cP ?_;refine⟨_,M9,?_⟩;simp[aA,aG]))
     exact oW [] []
    ·rw[M_]at M9
     (refine TW.go ?_;simp[aA,aG];repeat' first|intro hc|refine aa.mk ?_|refine aI ?_|refine af ?_ ?_|(refine cP ?_;refine⟨_,M9,?_⟩;simp[aA,aG]))
     refine⟨m+1,⟨by omega,fun i hi=>?_⟩,by omega,kS⟩
     by_cases e:i=m
     ·subst e;exact M_
     ·exact hf i (by omega)
   ·obtain rfl:m=12:=by omega
    rw[show cY gs=true by rw[cY,cS,bw hf];simp[h5]]
    (refine TW.go ?_;simp;repeat' first|intro hc|refine aa.mk ?_|refine aI ?_|refine af ?_ ?_)
    exact oW [] []
 ·rw[show cY gs=false by simp[cY,h5]]
  have h5':¬((gs.length:Int)=5):=by omega
  (refine TW.go ?_;simp[h5'];repeat' first|intro hc|refine aa.mk ?_|refine aI ?_|refine af ?_ ?_)
  exact oW [] []
end Go.Proofs.YtlhohdjniaebbaaGreat.T
namespace Go.Proofs.YtlhohdjniaebbaaGreat.T
open Go Go.RowKit
set_option maxRecDepth 100000
set_option maxHeartbeats 4000000
variable {E:List PanicEntry→World→Prop}
def CF (xs:List Int)(i:Nat):Bool:=decide (i=0)||decide (xs.getD (i-1) 0<xs.getD i 0)
def CG (xs:List Int):Bool:=bR xs.length (CF xs)
theorem E0 (xs:List Int):TC Tw.prog E 188 [gR (bu xs)] 0 [] (gB (CG xs)) []:=by
 refine tE Tryz.f188 Tryz.ntmps188 (by rw[Tryz.results188]) ?_
 refine TW.len 0 rfl fun hlen=>?_;simp only[List.length_map]at hlen;(refine TW.go ?_;simp;repeat' first|intro hc|refine aa.mk ?_|refine aI ?_|refine af ?_ ?_)
 refine tL (fun(k:Nat)=>⟨[(0,gR (bu xs)),(3,gI .i64 ((k:Int)+1))],[],0⟩) (fun k=>k≤xs.length∧∀i,i<k+1→i<xs.length→CF xs i=true) (fun k=>xs.length-k) 0 ⟨by omega,fun i hi _=>(by obtain rfl:i=0:=(by omega);simp[CF])⟩ (kS) fun k hk=>?_
 obtain⟨hk,hf⟩:=hk;by_cases aj:k+1<xs.length
 ·have he:xs[k+1]?=some xs[k+1]:=List.getElem?_eq_getElem aj
  have dg:xs[k]?=some xs[k]:=List.getElem?_eq_getElem (by omega)
  have hw:=dX (k:=k) (by omega)
  have aG:=wrap_add (k:=k+1) aj hlen;simp only[Int.natCast_add,Int.natCast_one]at aG;have aA:(k:Int)+1<(xs.length:Int):=by omega
  have aY:CF xs (k+1)=decide (xs[k]<xs[k+1]):=by simp[CF,aj,show k<xs.length by omega]
  generalize xs[k+1]=b at*;generalize xs[k]=a at*;by_cases fL:b≤a
  ·rw[show CG xs=false from bH aj (by rw[aY];simp;omega)]
   (refine TW.go ?_;simp[he,dg,hw,aA,fL];repeat' first|intro hc|refine aa.mk ?_|refine aI ?_|refine af ?_ ?_)
   exact oW [] []
  ·(refine TW.go ?_;simp[he,dg,hw,aG,aA,fL];repeat' first|intro hc|refine aa.mk ?_|refine aI ?_|refine af ?_ ?_)
   refine⟨k+1,⟨by omega,fun i hi zD=>?_⟩,by omega,kS⟩
   by_cases e:i=k+1
   ·subst e;rw[aY];simp;omega
   ·exact hf i (by omega) zD
 ·have aA:¬(k:Int)+1<(xs.length:Int):=by omega
  rw[show CG xs=true from bw fun i hi=>hf i (by omega) hi]
  (refine TW.go ?_;simp[aA];repeat' first|intro hc|refine aa.mk ?_|refine aI ?_|refine af ?_ ?_)
  exact oW [] []
def Vy (xs:List Int)(a b:Int):Bool:=bR xs.length fun i=>decide (a≤xs.getD i 0∧xs.getD i 0≤b)
theorem Na (xs:List Int)(a b:Int):TC Tw.prog E 189 [gR (bu xs),gI .i64 a,gI .i64 b] 0 [] (gB (Vy xs a b)) []:=by
 refine tE Tryz.f189 Tryz.ntmps189 (by rw[Tryz.results189]) ?_
 refine TW.len 0 rfl fun hlen=>?_;simp only[List.length_map]at hlen;(refine TW.go ?_;simp;repeat' first|intro hc|refine aa.mk ?_|refine aI ?_|refine af ?_ ?_)
 refine tL (fun(k:Nat)=>⟨[(1,gI .i64 a),(2,gI .i64 b),(9,gR (bu xs)),(10,gI .i64 xs.length),(11,gI .i64 (k:Nat))],[],0⟩) (fun k=>k≤xs.length∧∀i,i<k→a≤xs.getD i 0∧xs.getD i 0≤b) (fun k=>xs.length-k) 0 ⟨by omega,fun i hi=>by omega⟩ (kS) fun k hk=>?_
 obtain⟨hk,hf⟩:=hk;by_cases aj:k<xs.length
 ·have he:xs[k]?=some (xs.getD k 0):=by rw[List.getD_eq_getElem?_getD,List.getElem?_eq_getElem aj];rfl
  have aA:(k:Int)<(xs.length:Int):=by omega
  have aG:=wrap_add aj hlen;by_cases gr:a≤xs.getD k 0∧xs.getD k 0≤b
  ·have h1:¬xs.getD k 0<a:=by omega
   have h2:¬b<xs.getD k 0:=by omega
   generalize hx:xs.getD k 0=x at*;(refine TW.go ?_;simp[he,aA,aG,h1,h2];repeat' first|intro hc|refine aa.mk ?_|refine aI ?_|refine af ?_ ?_)
   refine⟨k+1,⟨by omega,fun i hi=>?_⟩,by omega,kS⟩
   by_cases e:i=k
   ·subst e;rw[hx];exact gr
   ·exact hf i (by omega)
  ·rw[show Vy xs a b=false from bH aj (by simp only[decide_eq_false_iff_not];exact gr)]
   generalize xs.getD k 0=x at*;by_cases h1:x<a
   ·(refine TW.go ?_;simp[he,aA,h1];repeat' first|intro hc|refine aa.mk ?_|refine aI ?_|refine af ?_ ?_)
    exact oW [] []
   ·have h2:b<x:=by omega
    (refine TW.go ?_;simp[he,aA,h1,h2];repeat' first|intro hc|refine aa.mk ?_|refine aI ?_|refine af ?_ ?_)
    exact oW [] []
 ·obtain rfl:k=xs.length:=by omega
  rw[show Vy xs a b=true from bw fun i hi=>by simpa using hf i hi]
  (refine TW.go ?_;simp;repeat' first|intro hc|refine aa.mk ?_|refine aI ?_|refine af ?_ ?_)
  exact oW [] []
theorem Vz (xs:List Int):cf xs=(decide (0<xs.length)&&CG xs&&Vy xs 0 4):=by
 rw[Bool.eq_iff_iff];simp only[cf,CG,Vy,Bool.and_eq_true,decide_eq_true_eq,bR,List.all_eq_true,List.mem_range,pw,CF,cd,Bool.or_eq_true];constructor
 ·rintro⟨h1,h2⟩
  exact⟨⟨h2,fun i hi=>(h1 i hi).2⟩,fun i hi=>by have:=(h1 i hi).1;omega⟩
 ·rintro⟨⟨h1,h2⟩,h3⟩
  exact⟨fun i hi=>⟨by have:=h3 i hi;omega,h2 i hi⟩,h1⟩
theorem xk (xs:List Int):TC Tw.prog E 149 [gR (bu xs)] 0 [] (gB (cf xs)) []:=by
 rw[Vz];have hA:=E0 (E:=E) xs;have hI:=Na (E:=E) xs 0 4;refine tE Tryz.f149 Tryz.ntmps149 (by rw[Tryz.results149]) ?_
 by_cases hl:0<xs.length
 ·have XW:(0:Int)<xs.length:=by omega
  cases ha:CG xs
  ·rw[ha]at hA
   (refine TW.go ?_;simp[hl,XW];repeat' first|intro hc|refine aa.mk ?_|refine aI ?_|refine af ?_ ?_|(refine cP ?_;(first|refine⟨_,hA,?_⟩|refine⟨_,hI,?_⟩);simp[hl,XW]))
   refine bo.own [] [] (by simp;rfl) (by simp[hl]) (by simp) (by simp) (by simp[hl]) (by simp)
  ·rw[ha]at hA
   (refine TW.go ?_;simp[hl,XW];repeat' first|intro hc|refine aa.mk ?_|refine aI ?_|refine af ?_ ?_|(refine cP ?_;(first|refine⟨_,hA,?_⟩|refine⟨_,hI,?_⟩);simp[hl,XW]))
   refine bo.own [] [] (by simp;rfl) (by simp[hl]) (by simp) (by simp) (by simp[hl]) (by simp)
 ·have eQ:xs=[]:=List.length_eq_zero_iff.1 (by omega)
  subst eQ;(refine TW.go ?_;simp;repeat' first|intro hc|refine aa.mk ?_|refine aI ?_|refine af ?_ ?_)
  exact oW [] []
theorem mg (xs:List Int):TC Tw.prog E 101 [gR (bu xs)] 0 [] (gB (cf xs)) []:=by
 refine tE Tryz.f101 Tryz.ntmps101 (by rw[Tryz.results101]) ?_
 (refine TW.go ?_;simp;repeat' first|intro hc|refine aa.mk ?_|refine aI ?_|refine af ?_ ?_|(refine cP ?_;refine⟨_,xk xs,?_⟩;simp))
 exact oW [] []
end Go.Proofs.YtlhohdjniaebbaaGreat.T
namespace Go.Proofs.YtlhohdjniaebbaaGreat.T
open Go Go.RowKit
set_option maxRecDepth 100000
set_option maxHeartbeats 4000000
variable {E:List PanicEntry→World→Prop}
theorem uZ {id clock:Int}{es:List aK}{e:aK}(h:ie id clock es=true)(he:e∈es):aP e.t e.g=true:=by
 obtain⟨i,hi,rfl⟩:=List.getElem_of_mem he;rw[ie,bd]at h;have:=h i hi
 rw[kR,List.getElem?_eq_getElem hi]at this;simp only[Bool.and_eq_true]at this;exact this.1.1.1.1.2
theorem Nb {g:aH}{m:Int}(hg:bm g=true)(h:cl g m=true):aP (aU g m).t (aU g m).g=true:=by
 simp only[bm,Bool.and_eq_true]at hg;obtain⟨e,he⟩:=Option.isSome_iff_exists.1 h;rw[aU,he,Option.getD_some];unfold bj at he;split at he
 ·rename_i h1;cases he;exact uZ hg.1.1.1.2 (List.mem_of_find?_eq_some h1)
 ·exact uZ hg.1.1.2 (List.mem_of_find?_eq_some he)
end Go.Proofs.YtlhohdjniaebbaaGreat.T
namespace Go.Proofs.YtlhohdjniaebbaaGreat.T
open Go Go.RowKit
set_option maxRecDepth 100000
set_option maxHeartbeats 4000000
theorem Am {gs:List aH}{m:Int}{s:Int×Int}:∀{set:List Int} {acc:List (Int×Int)},qw gs m set acc= .inl s→∃g∈set,cl (aB gs g.toNat) m=true∧(aU (aB gs g.toNat) m).f=true∧s=((aU (aB gs g.toNat) m).t,(aU (aB gs g.toNat) m).g)
 |[],acc,h=>by cases h
 |g::set,acc,h=>by
  rw[qw]at h;split at h
  ·rename_i hc
   simp only[Bool.and_eq_true]at hc
   cases h;exact⟨g,List.mem_cons_self ..,hc.1,hc.2,rfl⟩
  ·obtain⟨g',h1,h2⟩:=Am h
   exact⟨g',List.mem_cons_of_mem _ h1,h2⟩
theorem An {gs:List aH}{m:Int}{l:List (Int×Int)}:∀{set:List Int} {acc:List (Int×Int)},qw gs m set acc= .inr l→
  (∀x∈acc,x∈l)∧(∀g∈set,cl (aB gs g.toNat) m=true→(aU (aB gs g.toNat) m).f=false∧((aU (aB gs g.toNat) m).t,(aU (aB gs g.toNat) m).g)∈l)∧
   (∀x∈l,x∈acc∨∃g∈set,cl (aB gs g.toNat) m=true∧x=((aU (aB gs g.toNat) m).t,(aU (aB gs g.toNat) m).g))∧l.length≤acc.length+set.length
 |[],acc,h=>by cases h;exact⟨fun x h=>h,fun g h=>(by cases h),fun x h=> .inl h,by simp⟩
 |g::set,acc,h=>by
  rw[qw]at h;split at h
  ·cases h
  ·rename_i hc
   obtain⟨h1,h2,h3,h4⟩:=An h
   cases hs:cl (aB gs g.toNat) m
   ·simp only[hs,Bool.false_eq_true,if_false]at h1 h3 h4
    refine⟨h1,fun g' bf vF=>?_,fun x hx=>?_,by simp;omega⟩
    ·rcases List.mem_cons.1 bf with rfl|bf
     ·rw[hs]at vF;cases vF
     ·exact h2 g' bf vF
    ·rcases h3 x hx with h|⟨g',bf,h⟩
     ·exact .inl h
     ·exact .inr ⟨g',List.mem_cons_of_mem _ bf,h⟩
   ·simp only[hs,if_true]at h1 h3 h4
    refine⟨fun x hx=>h1 x (by simp[hx]),fun g' bf vF=>?_,fun x hx=>?_,by simp at h4⊢;omega⟩
    ·rcases List.mem_cons.1 bf with rfl|bf
     ·exact⟨by simpa[hs]using hc,h1 _ (by simp)⟩
     ·exact h2 g' bf vF
    ·rcases h3 x hx with h|⟨g',bf,h⟩
     ·rcases List.mem_append.1 h with h|h
      ·exact .inl h
      ·rw[List.mem_singleton]at h
       exact .inr ⟨g,List.mem_cons_self ..,hs,h⟩
     ·exact .inr ⟨g',List.mem_cons_of_mem _ bf,h⟩
theorem u5 (t s:Int):aS t s t s=false:=by simp[aS]
theorem xm {a b c:Int×Int}(h1:aS a.1 a.2 b.1 b.2=false)(h2:aS b.1 b.2 c.1 c.2=false):aS a.1 a.2 c.1 c.2=false:=by
 simp only[aS,decide_eq_false_iff_not]at*;omega
theorem JO {a b:Int×Int}(h1:aS a.1 a.2 b.1 b.2=true):aS b.1 b.2 a.1 a.2=false:=by
 simp only[aS,decide_eq_false_iff_not,decide_eq_true_eq]at*;omega
theorem JP (a:Int×Int):∀(xs:List (Int×Int)),aS (pz a xs).1 (pz a xs).2 a.1 a.2=false∧(∀y∈xs,aS (pz a xs).1 (pz a xs).2 y.1 y.2=false)∧(pz a xs=a∨pz a xs∈xs):=by
 intro xs;induction xs generalizing a with
 |nil=>exact⟨u5 _ _,fun y h=>(by cases h),.inl rfl⟩
 |cons x xs ih=>
  rw[pz];obtain⟨h1,h2,h3⟩:=ih (if aS a.1 a.2 x.1 x.2=true then x else a)
  by_cases hc:aS a.1 a.2 x.1 x.2=true
  ·simp only[if_pos hc]at h1 h2 h3⊢
   refine⟨xm h1 (JO hc),fun y hy=>?_,.inr ?_⟩
   ·rcases List.mem_cons.1 hy with rfl|hy
    ·exact h1
    ·exact h2 y hy
   ·rcases h3 with h3|h3
    ·rw[h3];exact List.mem_cons_self ..
    ·exact List.mem_cons_of_mem _ h3
  ·simp only[if_neg hc]at h1 h2 h3⊢
   refine⟨h1,fun y hy=>?_,?_⟩
   ·rcases List.mem_cons.1 hy with rfl|hy
    ·exact xm h1 (by simpa using hc)
    ·exact h2 y hy
   ·rcases h3 with h3|h3
    ·exact .inl h3
    ·exact .inr (List.mem_cons_of_mem _ h3)
theorem tp {gs:List aH}(h:cY gs=true){i:Nat}(hi:i<5):bm (aB gs i)=true:=by
 have h5:=mf h;simp only[cY,Bool.and_eq_true,bd,h5]at h;have:=h.1.2 i hi
 simp only[oY,Bool.and_eq_true]at this;exact this.1
end Go.Proofs.YtlhohdjniaebbaaGreat.T
namespace Go.Proofs.YtlhohdjniaebbaaGreat.T
open Go Go.RowKit
theorem JQ {gs:List aH}{i k:Nat}(x:aH)(hi:i<gs.length):aB (gs.set i x) k=if k=i then x else aB gs k:=by
 unfold aB;simp only[List.getD_eq_getElem?_getD,List.getElem?_set];by_cases h:k=i
 ·subst h;simp[hi]
 ·rw[if_neg h,if_neg (fun e=>h e.symm)]
end Go.Proofs.YtlhohdjniaebbaaGreat.T
namespace Go.Proofs.YtlhohdjniaebbaaGreat.T
open Go Go.RowKit
set_option maxRecDepth 100000
set_option maxHeartbeats 4000000
variable {E:List PanicEntry→World→Prop}
end Go.Proofs.YtlhohdjniaebbaaGreat.T
namespace Go.Proofs.YtlhohdjniaebbaaGreat.T
open Go Go.RowKit
set_option maxRecDepth 100000
set_option maxHeartbeats 4000000
variable {E:List PanicEntry→World→Prop}
end Go.Proofs.YtlhohdjniaebbaaGreat.T
namespace Go.Proofs.YtlhohdjniaebbaaGreat.T
open Go Go.RowKit
set_option maxRecDepth 100000
set_option maxHeartbeats 4000000
variable {E:List PanicEntry→World→Prop}
theorem nB (xs:List Int)(n:Int):TC Tw.prog E 106 [gR (bu xs),gI .i64 n] 0 [] (gB (bX xs n)) []:=by
 refine tE Tryz.f106 Tryz.ntmps106 (by rw[Tryz.results106]) ?_
 refine TW.len 0 rfl fun hlen=>?_;simp only[List.length_map]at hlen;(refine TW.go ?_;simp;repeat' first|intro hc|refine aa.mk ?_|refine aI ?_|refine af ?_ ?_)
 refine tL (fun(k:Nat)=>⟨[(1,gI .i64 n),(7,gR (bu xs)),(8,gI .i64 xs.length),(9,gI .i64 (k:Nat))],[],0⟩) (fun k=>k≤xs.length∧∀i y,i<k→xs[i]?=some y→¬y=n) (fun k=>xs.length-k) 0 ⟨by omega,fun i y hi=>by omega⟩ (kS) fun k hk=>?_
 obtain⟨hk,hf⟩:=hk;by_cases aj:k<xs.length
 ·have he:xs[k]?=some xs[k]:=List.getElem?_eq_getElem aj
  have aA:(k:Int)<(xs.length:Int):=by omega
  have aG:=wrap_add aj hlen;have cK:=List.getElem_mem aj;generalize xs[k]=x at*;by_cases hx:x=n
  ·rw[show bX xs n=true by simp only[bX,List.any_eq_true,decide_eq_true_eq];exact⟨x,cK,hx⟩]
   (refine TW.go ?_;simp[he,aA,hx];repeat' first|intro hc|refine aa.mk ?_|refine aI ?_|refine af ?_ ?_)
   exact oW [] []
  ·(refine TW.go ?_;simp[he,aA,aG,hx];repeat' first|intro hc|refine aa.mk ?_|refine aI ?_|refine af ?_ ?_)
   refine⟨k+1,⟨by omega,fun i y hi hy=>?_⟩,by omega,kS⟩
   by_cases e:i=k
   ·subst e;rw[he]at hy;cases hy;exact hx
   ·exact hf i y (by omega) hy
 ·obtain rfl:k=xs.length:=by omega
  rw[show bX xs n=false by
   simp only[bX,List.any_eq_false,decide_eq_true_eq];intro x hx;obtain⟨i,hi,rfl⟩:=List.getElem_of_mem hx;exact hf i _ hi (List.getElem?_eq_getElem hi)]
  (refine TW.go ?_;simp;repeat' first|intro hc|refine aa.mk ?_|refine aI ?_|refine af ?_ ?_)
  exact oW [] []
theorem abL (r:cH):TC Tw.prog E 150 [.a ((aX r).map .r)] 0 [] (.a [.r (bu r.gs),.r (m_ r.aN)]) []:=by
 refine tE Tryz.f150 Tryz.ntmps150 (by rw[Tryz.results150]) ?_
 (refine TW.go ?_;simp[aX];repeat' first|intro hc|refine aa.mk ?_|refine aI ?_|refine af ?_ ?_)
 exact oW [] []
theorem BC (r:cH)(h:pd r 4294967296):TC Tw.prog E 102 [.a ((aX r).map .r)] 0 [] (gB (ef r)) []:=by
 obtain⟨Vs,hl⟩:=h;have hlen:r.aN.length≤maxLen:=by simp only[maxLen];omega
 have hO:=abL (E:=E) r;have hI:=o5 (E:=E) r.m;have hV:=xk (E:=E) r.gs;simp only[aX,List.map_cons,List.map_nil]at hO;refine tE Tryz.f102 Tryz.ntmps102 (by rw[Tryz.results102]) ?_
 cases hm:br r.m
 ·rw[show ef r=false by simp[ef,hm]]
  rw[hm]at hI;(refine TW.go ?_;simp[aX];repeat' first|intro hc|refine aa.mk ?_|refine aI ?_|refine af ?_ ?_|(refine cP ?_;(first|refine⟨_,hO,?_⟩|refine⟨_,hI,?_⟩);simp[aX]))
  exact oW [] []
 ·rw[hm]at hI
  cases hs:cf r.gs
  ·rw[show ef r=false by simp[ef,hs]]
   rw[hs]at hV;(refine TW.go ?_;simp[aX];repeat' first|intro hc|refine aa.mk ?_|refine aI ?_|refine af ?_ ?_|(refine cP ?_;(first|refine⟨_,hO,?_⟩|refine⟨_,hI,?_⟩|refine⟨_,hV,?_⟩);simp[aX]))
   exact oW [] []
  ·rw[hs]at hV
   have hB:ef r=bR r.aN.length (fY r):=by simp[ef,hm,hs]
   rw[hB];(refine TW.go ?_;simp[aX];repeat' first|intro hc|refine aa.mk ?_|refine aI ?_|refine af ?_ ?_|(refine cP ?_;(first|refine⟨_,hO,?_⟩|refine⟨_,hI,?_⟩|refine⟨_,hV,?_⟩);simp[aX]))
   refine tL (fun(k:Nat)=>⟨[(1,.s (.ptr 0 0)),(3,.s (.ptr 1 0)),(19,gR (m_ r.aN)),(20,gI .i64 r.aN.length),(21,gI .i64 (k:Nat))],[(0,.box ((aX r).map .r)),(1,.box [.r (bu r.gs),.r (m_ r.aN)])],2⟩) (fun k=>k≤r.aN.length∧∀i,i<k→fY r i=true) (fun k=>r.aN.length-k) 0 ⟨by omega,fun i hi=>by omega⟩ (Wk.own [0,1] [] (by simp) (by simp) (by simp[aX]) (by simp) (by simp)) fun k hk=>?_
   obtain⟨hk,hf⟩:=hk;clear hO hI hV;by_cases aj:k<r.aN.length
   ·have he:r.aN[k]?=some r.aN[k]:=List.getElem?_eq_getElem aj
    have aA:(k:Int)<(r.aN.length:Int):=by omega
    have xF:=wrap_add aj hlen
    cases hq:fY r k
    ·rw[bH aj hq]
     rcases k with _|k
     ·have aY:fY r 0=(aP r.aN[0].1 r.aN[0].2&&bX r.gs r.aN[0].2):=by simp[fY,aj]
      rw[aY]at hq;(refine TW.go ?_;simp[aj,he,aX,gE];repeat' first|intro hc|refine aa.mk ?_|refine aI ?_|refine af ?_ ?_|(refine cP ?_;(first|refine⟨_,dI _ _,?_⟩|refine⟨_,nB _ _,?_⟩);simp[aj,he,aX,gE]))
      all_goals first
       |(exact oW [] [])
       |(exfalso;simp_all)
     ·have dg:r.aN[k]?=some r.aN[k]:=List.getElem?_eq_getElem (by omega)
      have aY:fY r (k+1)=(aP r.aN[k+1].1 r.aN[k+1].2&&bX r.gs r.aN[k+1].2&&decide (r.aN[k].2<r.aN[k+1].2)):=by simp[fY,he,dg]
      have hw:=dX (k:=k) (by omega)
      have dH:(0:Int)<(k:Int)+1:=by omega
      simp only[Int.natCast_add,Int.natCast_one]at aA;generalize r.aN[k+1]=x at*;generalize r.aN[k]=y at*;rw[aY]at hq;(refine TW.go ?_;simp[he,dg,hw,dH,aA,aX,gE];repeat' first|intro hc|refine aa.mk ?_|refine aI ?_|refine af ?_ ?_|(refine cP ?_;(first|refine⟨_,dI _ _,?_⟩|refine⟨_,nB _ _,?_⟩);simp[he,dg,hw,dH,aA,aX,gE]))
      all_goals first
       |(exact oW [] [])
       |(exfalso;clear hf;simp_all;done)
       |(exfalso;clear hf;simp_all;omega)
    ·have VA:∀i,i<k+1→fY r i=true:=fun i hi=>by
      by_cases e:i=k
      ·subst e;exact hq
      ·exact hf i (by omega)
     rcases k with _|k
     ·have aY:fY r 0=(aP r.aN[0].1 r.aN[0].2&&bX r.gs r.aN[0].2):=by simp[fY,aj]
      rw[aY,Bool.and_eq_true]at hq;(refine TW.go ?_;simp[aj,he,aX,gE,hq.1,hq.2];repeat' first|intro hc|refine aa.mk ?_|refine aI ?_|refine af ?_ ?_|(refine cP ?_;(first|refine⟨_,dI _ _,?_⟩|refine⟨_,nB _ _,?_⟩);simp[aj,he,aX,gE,hq.1,hq.2]))
      exact⟨1,⟨by omega,VA⟩,by omega,Wk.own [0,1] [] (by simp) (by simp) (by simp[aX]) (by simp) (by simp)⟩
     ·have dg:r.aN[k]?=some r.aN[k]:=List.getElem?_eq_getElem (by omega)
      have aY:fY r (k+1)=(aP r.aN[k+1].1 r.aN[k+1].2&&bX r.gs r.aN[k+1].2&&decide (r.aN[k].2<r.aN[k+1].2)):=by simp[fY,he,dg]
      have hw:=dX (k:=k) (by omega)
      have dH:(0:Int)<(k:Int)+1:=by omega
      simp only[Int.natCast_add,Int.natCast_one]at aA xF;generalize r.aN[k+1]=x at*;generalize r.aN[k]=y at*;rw[aY,Bool.and_eq_true,Bool.and_eq_true]at hq;obtain⟨⟨q1,q2⟩,q3⟩:=hq;have q4:¬x.2≤y.2:=by have:=of_decide_eq_true q3;omega
      (refine TW.go ?_;simp[he,dg,hw,xF,dH,aA,aX,gE,q1,q2,q4];repeat' first|intro hc|refine aa.mk ?_|refine aI ?_|refine af ?_ ?_|(refine cP ?_;(first|refine⟨_,dI _ _,?_⟩|refine⟨_,nB _ _,?_⟩);simp[he,dg,hw,xF,dH,aA,aX,gE,q1,q2,q4]))
      exact⟨k+1+1,⟨by omega,VA⟩,by omega,Wk.own [0,1] [] (by simp) (by simp) (by simp[aX]) (by simp) (by simp)⟩
   ·obtain rfl:k=r.aN.length:=by omega
    rw[bw hf];(refine TW.go ?_;simp;repeat' first|intro hc|refine aa.mk ?_|refine aI ?_|refine af ?_ ?_)
    exact oW [] []
end Go.Proofs.YtlhohdjniaebbaaGreat.T
namespace Go.Proofs.YtlhohdjniaebbaaGreat.T
open Go Go.RowKit
set_option maxRecDepth 100000
set_option maxHeartbeats 4000000
variable {E:List PanicEntry→World→Prop}
theorem Nc (a b:List Int)(g:Int):TC Tw.prog E 154 [gI .i64 g,.s (.ptr 0 0),.s (.ptr 1 0)] 2 [(0,.box [.r (bu a)]),(1,.box [.r (bu b)])] (gB (bX a g&&bX b g)) [(0,.box [.r (bu a)]),(1,.box [.r (bu b)])]:=by
 refine tE Tryz.f154 Tryz.ntmps154 (by rw[Tryz.results154]) ?_ (hfit:=(Fits.of (by simp[zx,List.range_succ]) (by simp) (by simp)))
 have hA:=nB (E:=E) a g;have hB:=nB (E:=E) b g
 cases h1:bX a g
 ·rw[h1]at hA
  (refine TW.go ?_;simp;repeat' first|intro hc|refine aa.mk ?_|refine aI ?_|refine af ?_ ?_|(refine cP ?_;refine⟨_,hA,?_⟩;simp))
  exact oW [] []
 ·rw[h1]at hA
  (refine TW.go ?_;simp;repeat' first|intro hc|refine aa.mk ?_|refine aI ?_|refine af ?_ ?_|(refine cP ?_;(first|refine⟨_,hA,?_⟩|refine⟨_,hB,?_⟩);simp))
  exact oW [] []
def fj (a b:List Int)(k:Nat):List Int:=(upto k).filter fun g=>bX a g&&bX b g
theorem Nd (a b:List Int)(k:Nat):fj a b (k+1)=fj a b k++if(bX a k&&bX b k)=true then[(k:Int)]else[]:=by
 rw[fj,Ak,List.filter_append,fj];congr 1
 cases h:bX a k&&bX b k<;>simp[h]
theorem RF (a b:List Int)(k:Nat):(fj a b k).length≤k:=Nat.le_trans (List.length_filter_le _ _) (by rw[CE];exact Nat.le_refl _)
theorem Ao (a b:List Int):TC Tw.prog E 153 [.fQ (.func 154) [] [.s (.ptr 0 0),.s (.ptr 1 0)]] 2 [(0,.box [.r (bu a)]),(1,.box [.r (bu b)])] (gR (bu (fj a b 5))) [(0,.box [.r (bu a)]),(1,.box [.r (bu b)])]:=by
 refine tE Tryz.f153 Tryz.ntmps153 (by rw[Tryz.results153]) ?_ (hfit:=(Fits.of (by simp[zx,List.range_succ]) (by simp) (by simp)))
 (refine TW.go ?_;simp;repeat' first|intro hc|refine aa.mk ?_|refine aI ?_|refine af ?_ ?_)
 refine tL (fun(k:Nat)=>⟨[(0,.fQ (.func 154) [] [.s (.ptr 0 0),.s (.ptr 1 0)]),(3,.s (.own 2)),(6,gI .i64 (k:Nat))],[(0,.box [.r (bu a)]),(1,.box [.r (bu b)]),(2,Vm (fj a b k))],3⟩) (fun k=>k≤5) (fun k=>5-k) 0 (by omega)
  (Wk.own [2] [] (by simp) (by simp) (by simp[fj,upto]) (by simp) (by simp)) fun k hk=>?_
 by_cases aj:k<5
 ·have aA:(k:Int)<5:=by omega
  have aG:IntKind.i64.wrap ((k:Int)+1)=(k:Int)+1:=dj (by omega) (by omega)
  have hl:=RF a b k;have hs:=Nd a b k;have Bm:=Nc (E:=E) a b k;generalize fj a b k=out at*
  cases hb:bX a k&&bX b k
  ·rw[hb]at Bm hs
   (refine TW.go ?_;simp[aA,aG,maxLen];repeat' first|intro hc|refine aa.mk ?_|refine aI ?_|refine af ?_ ?_|(refine cL [0,1] 0 ?_;refine⟨_,_,_,_,Bm,?_⟩;simp[aA,aG,maxLen]))
   exact⟨k+1,by omega,by omega,Wk.own [2] [] (by simp) (by simp) (by simp[hs]) (by simp) (by simp)⟩
  ·rw[hb]at Bm hs
   (refine TW.go ?_;simp[aA,aG,maxLen];repeat' first|intro hc|refine aa.mk ?_|refine aI ?_|refine af ?_ ?_|(refine cL [0,1] 0 ?_;refine⟨_,_,_,_,Bm,?_⟩;simp[aA,aG,maxLen]))
   exact⟨k+1,by omega,by omega,Wk.own [4] [] (by simp) (by simp) (by simp[hs]) (by simp) (by simp)⟩
 ·obtain rfl:k=5:=by omega
  (refine TW.go ?_;simp;repeat' first|intro hc|refine aa.mk ?_|refine aI ?_|refine af ?_ ?_)
  exact oW [] [2]
theorem xO (a b:List Int)(ha:cf a=true)(hb:cf b=true):TC Tw.prog E 103 [gR (bu a),gR (bu b)] 0 [] (gR (bu (fj a b 5))) []:=by
 have hA:=mg (E:=E) a;have hB:=mg (E:=E) b;have hP:=Ao (E:=E) a b;rw[ha]at hA;rw[hb]at hB;generalize fj a b 5=out at*;refine tE Tryz.f103 Tryz.ntmps103 (by rw[Tryz.results103]) ?_
 (refine TW.go ?_;simp;repeat' first|intro hc|refine aa.mk ?_|refine aI ?_|refine af ?_ ?_|(refine cP ?_;(first|refine⟨_,hA,?_⟩|refine⟨_,hB,?_⟩);simp)|(refine cL [0,1] 0 ?_;refine⟨_,_,_,_,hP,?_⟩;simp))
 exact oW [] []
end Go.Proofs.YtlhohdjniaebbaaGreat.T
namespace Go.Proofs.YtlhohdjniaebbaaGreat.T
open Go Go.RowKit
set_option maxRecDepth 100000
set_option maxHeartbeats 4000000
variable {E:List PanicEntry→World→Prop}
def Ot (r:cH)(k:Nat):List Int:=(upto k).filter fun g=>bX r.gs g&& !Om r g
end Go.Proofs.YtlhohdjniaebbaaGreat.T
namespace Go.Proofs.YtlhohdjniaebbaaGreat.T
open Go Go.RowKit
set_option maxRecDepth 100000
set_option maxHeartbeats 4000000
variable {E:List PanicEntry→World→Prop}
theorem CH {xs:List Int}(h:∀i,i+1<xs.length→xs.getD i 0<xs.getD (i+1) 0):xs.Pairwise (·<·):=by
 rw[List.pairwise_iff_getElem];intro i j hi hj pR;have key:∀d,∀hd:i+d+1<xs.length,xs[i]<xs[i+d+1]:=by
  intro d;induction d with
  |zero=>
   intro hd;have:=h i hd
   simpa[List.getD_eq_getElem?_getD,List.getElem?_eq_getElem hi,List.getElem?_eq_getElem hd]using this
  |succ d ih=>
   intro hd;have a:=ih (by omega)
   have:=h (i+d+1) hd
   have e2:xs.getD (i+d+1+1) 0=xs[i+(d+1)+1]:=by
    rw[List.getD_eq_getElem?_getD];exact congrArg (Option.getD · 0) (List.getElem?_eq_getElem hd)
   rw[e2,List.getD_eq_getElem?_getD,List.getElem?_eq_getElem (show i+d+1<xs.length by omega)]at this
   exact Int.lt_trans a this
 obtain⟨d,rfl⟩:∃d,j=i+d+1:=⟨j-i-1,by omega⟩
 exact key d hj
theorem CI:∀{xs ys:List Int},xs.Pairwise (·<·)→ys.Pairwise (·<·)→(∀a,a∈xs↔a∈ys)→xs=ys
 |[],[],_,_,_=>rfl
 |[],y::ys,_,_,h=>by have:=(h y).2 (List.mem_cons_self ..);cases this
 |x::xs,[],_,_,h=>by have:=(h x).1 (List.mem_cons_self ..);cases this
 |x::xs,y::ys,h1,h2,h=>by
  rw[List.pairwise_cons]at h1 h2;have kG:x=y:=by
   rcases List.mem_cons.1 ((h x).1 (List.mem_cons_self ..))with e|e
   ·exact e
   ·rcases List.mem_cons.1 ((h y).2 (List.mem_cons_self ..))with e'|e'
    ·exact e'.symm
    ·have:=h2.1 x e;have:=h1.1 y e';omega
  subst kG;rw[CI h1.2 h2.2 fun a=>?_]
  have hx:x∉xs:=fun hx=>by have:=h1.1 x hx;omega
  have hy:x∉ys:=fun hy=>by have:=h2.1 x hy;omega
  have:=h a
  simp only[List.mem_cons]at this;constructor
  ·intro ha
   rcases this.1 (.inr ha)with rfl|h
   ·exact absurd ha hx
   ·exact h
  ·intro ha
   rcases this.2 (.inr ha)with rfl|h
   ·exact absurd ha hy
   ·exact h
theorem Nf:(upto 5).Pairwise (·<·):=by decide
theorem wh {k:Nat}{x:Int}:x∈upto k↔0≤x∧x<k:=by
 simp only[upto,List.mem_map,List.mem_range];constructor
 ·rintro⟨i,hi,rfl⟩;omega
 ·intro h;exact⟨x.toNat,by omega,by omega⟩
theorem cI {xs:List Int}{g:Int}:bX xs g=true↔g∈xs:=by
 simp only[bX,List.any_eq_true,decide_eq_true_eq];constructor
 ·rintro⟨x,h,rfl⟩;exact h
 ·intro h;exact⟨g,h,rfl⟩
theorem nb {xs:List Int}(h:xs.Pairwise (·<·))(hr:dN xs):xs=(upto 5).filter (fun g=>bX xs g):=
 CI h (Nf.filter _) fun a=>by
  rw[List.mem_filter,wh,cI];exact⟨fun h=>⟨hr a h,h⟩,fun h=>h.2⟩
theorem mh {xs:List Int}(h:cf xs=true):xs.Pairwise (·<·):=by
 simp only[cf,Bool.and_eq_true,bd,pw,Bool.or_eq_true,decide_eq_true_eq]at h;refine CH fun i hi=>?_;have:=(h.1 (i+1) hi).2
 simp only[Nat.add_sub_cancel]at this;omega
theorem u9 {r:cH}(h:ef r=true):cf r.gs=true∧br r.m=true∧(∀s∈r.aN,aP s.1 s.2=true∧s.2∈r.gs)∧r.aN.Pairwise (fun a b=>a.2<b.2):=by
 simp only[ef,Bool.and_eq_true,bd]at h;obtain⟨⟨h1,h2⟩,h3⟩:=h;have hp:(r.aN.map (·.2)).Pairwise (·<·):=by
  refine CH fun i hi=>?_;rw[List.length_map]at hi;have:=h1 (i+1) hi
  rw[fY,List.getElem?_eq_getElem hi]at this;simp only[Nat.add_sub_cancel,List.getElem?_eq_getElem (show i<r.aN.length by omega)]at this
  simp only[Bool.and_eq_true,Bool.or_eq_true,decide_eq_true_eq]at this;simp only[List.getD_eq_getElem?_getD,List.getElem?_map,List.getElem?_eq_getElem hi,List.getElem?_eq_getElem (show i<r.aN.length by omega),Option.map_some,Option.getD_some]
  omega
 refine⟨h3,h2,fun s hs=>?_,List.pairwise_map.1 hp⟩
 obtain⟨i,hi,rfl⟩:=List.getElem_of_mem hs;have:=h1 i hi
 rw[fY,List.getElem?_eq_getElem hi]at this;simp only[Bool.and_eq_true]at this;exact⟨this.1.1,cI.1 this.1.2⟩
theorem wi {r:cH}{g:Int}:Om r g=true↔g∈r.aN.map (·.2):=by
 simp only[Om,List.any_eq_true,decide_eq_true_eq,List.mem_map]
theorem VB {r:cH}(h:ef r=true):(Ot r 5=[]↔r.gs.length≤r.aN.length)∧r.aN.length≤r.gs.length:=by
 obtain⟨h1,h2,h3,h4⟩:=u9 h;obtain⟨-, -,hr⟩:=jA h1;have hg:=nb (mh h1) hr;have hG:(r.aN.map (·.2)).Pairwise (·<·):=List.pairwise_map.2 h4
 have hn:∀{xs:List Int},xs.Pairwise (·<·)→xs.Nodup:=fun h=>h.imp fun h e=>by omega
 have xj:r.aN.map (·.2)⊆r.gs:=fun x hx=>by
  obtain⟨s,hs,rfl⟩:=List.mem_map.1 hx;exact(h3 s hs).2
 have hle:=(hn hG).length_le_of_subset xj;rw[List.length_map]at hle;refine⟨⟨fun hm=>?_,fun hl=>?_⟩,hle⟩
 ·have:=(hn (mh h1)).length_le_of_subset (l₂:=r.aN.map (·.2)) fun x hx=>by
   rw[←wi];simp only[Ot,List.filter_eq_nil_iff,Bool.and_eq_true,Bool.not_eq_true',not_and,Bool.not_eq_false]at hm;exact hm x (wh.2 (hr x hx)) (cI.2 hx)
  rwa[List.length_map]at this
 ·simp only[Ot,List.filter_eq_nil_iff,Bool.and_eq_true,Bool.not_eq_true',not_and,Bool.not_eq_false]
  intro g _ hg;rw[wi];apply Classical.byContradiction
  intro vK;have:=(List.nodup_cons.2 ⟨vK,hn hG⟩).length_le_of_subset (l₂:=r.gs) (by
   intro x hx;rcases List.mem_cons.1 hx with rfl|hx
   ·exact cI.1 hg
   ·exact xj hx)
  simp only[List.length_cons,List.length_map]at this;omega
end Go.Proofs.YtlhohdjniaebbaaGreat.T
