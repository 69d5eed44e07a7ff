/-
What is proved: what impl.entriesOf does to trees, over the second program: it leaves the answers, or escapes. No condition but the ranges that it states. what the program's check of a system does to trees, over the second program: it answers as the reference's, or escapes. No condition but the lengths that each states. the program's check of a system answers as the reference's, or escapes; what laws.FnSystemFinal does to trees: it returns true, or escapes. No condition but the lengths that each states. the program's check of a set of groups is the reference's. No condition. what the program's recovery of a stamp does to trees: what the reference's does. No condition but the lengths that each states. the law of a recovered stamp, over trees: it answers true, or escapes. No condition but that the code is bytes. how a code that a law takes reads: a slice of bytes. No program's text is walked.
-/
import Derived.Test.YtjklkppncmhehaaGreatRs38
import Derived.Test.YtjklkppncmhehaaGreatRs39
import Derived.Test.YtjklkppncmhehaaGreatRs37
import Derived.Test.YtjklkppncmhehaaGreatRows
import Derived.Test.YtjklkppncmhehaaGreatRs33
import Derived.WalkKit
import Derived.ProofKit
import Derived.OpenShut
import Derived.ChangeOld
import Derived.Lib.SmallJoins
set_option linter.unusedVariables false
set_option linter.unusedSimpArgs false
namespace Go.Proofs.YtjklkppncmhehaaGreat.T
open Go Go.RowKit
def lQ (ch:List PanicEntry)(w:World):Prop:=Sr.T7 (.panicked ch) w
inductive q9:RT→Prop
 |v (x:Value):q9 (.v x)
 |nil:q9 .nil
 |sl {k:Nat} {xs:List (List RT)} (h0:0<k) (h:∀(i:Nat) (e:List RT),xs[i]?=some e→∀(j:Nat) (r:RT),e[j]?=some r→q9 r):q9 (.sl k xs)
theorem cb.Se {w u:World}{D:Nat→Prop}(hc:∀q:Addr,D q.block→u.cell? q=w.cell? q){v:Value}{t:RT}(h:cb w D v t):q9 t→cb u (fun b=>b<u.heap.size) v t:=by
 induction h with
 |v h=>exact fun _=> .v h
 |nil=>exact fun _=> .nil
 |yA hm=>exact fun _=> .yA hm
 | @sl b o c k xs vs eR hm kM cB hv _ ih=>
   intro hs
   cases hs with
   |sl h0 hs=>
   rcases xs with _|⟨e,xs⟩
   ·exact .yA hm
   ·have hk0:=cB 0 e rfl
    obtain⟨r,hr⟩:∃r,e[0]?=some r:=⟨_,List.getElem?_eq_getElem (by omega)⟩
    refine .sl vs eR hm ?_ cB (fun i e he j r hr=>(hc _ kM).trans (hv i e he j r hr)) fun i e he j r hr=>ih i e he j r hr (hs i e he j r hr)
    exact World.block_lt_of_cell? u _ ((hc _ kM).trans (hv 0 e rfl 0 r hr))
theorem Jk (gs:List az):q9 (dD gs):=by
 refine .sl (by omega) fun i e he j r hr=>?_
 rw[List.getElem?_map,Option.map_eq_some_iff]at he;obtain⟨g,_,rfl⟩:=he;have hE:∀es:List aK,q9 (dw es):=fun es=>by
  refine .sl (by omega) fun i e he j r hr=>?_
  rw[List.getElem?_map,Option.map_eq_some_iff]at he;obtain⟨x,_,rfl⟩:=he;rcases j with _|_|_|_|j<;>simp[au]at hr<;>subst hr<;>exact .v _
 rcases j with _|_|_|_|j<;>simp[ai]at hr<;>subst hr
 ·exact .v _
 ·exact .v _
 ·exact hE _
 ·exact hE _
theorem vb {w:World}{D:Nat→Prop}{v:Value}{n:Int}(h:cb w D v (rI n)):v= .int .i64 n:=by cases h;rfl
theorem J8 {w:World}{D:Nat→Prop}{v:Value}{b:Bool}(h:cb w D v (rB b)):v= .bool b:=by cases h;rfl
def SH (g:az)(m:Int):Sr.dB:=⟨(cC g m).m,(cC g m).t,(cC g m).g,(cC g m).f,o_ g m⟩
theorem MQ {ρ:Nat→Option Value}{w:World}{D:Nat→Prop}{v:Value}{g:az}{m:Int}(h:aY ρ w D v (.a ((fK g m).map .r))):v=(SH g m).val:=by
 cases h with
 | @a arr _ hn h=>
   have hl:arr.size=5:=by simpa[fK]using hn
   have r:∀(i:Nat) (t:RT),(fK g m)[i]?=some t→cb w D (arr.getD i undef) t:=fun i t ht=>by
    have:=h i (.r t) (by rw[List.getElem?_map,ht];rfl)
    generalize arr.getD i undef=z at this
    cases this with|r h=>exact h
   have h0:=vb (r 0 _ rfl);have U:=vb (r 1 _ rfl);have h2:=vb (r 2 _ rfl);have h3:=J8 (r 3 _ rfl);have h4:=J8 (r 4 _ rfl);show Value.agg arr= .agg #[.int .i64 (cC g m).m,.int .i64 (cC g m).t,.int .i64 (cC g m).g,.bool (cC g m).f,.bool (o_ g m)]
   congr 1
   rcases arr with⟨l⟩;rcases l with _|⟨x0,_|⟨x1,_|⟨x2,_|⟨x3,_|⟨x4,_|⟨x5,l⟩⟩⟩⟩⟩⟩<;>simp at hl
   simp at h0 U h2 h3 h4
   subst h0 U h2 h3 h4;rfl
abbrev i9 (gs:List az) (m:Int) (set:List Int):List (List RT):=set.map fun x=>fK (aG gs x.toNat) m
set_option maxRecDepth 100000 in
theorem sK (gs:List az)(set:List Int)(m:Int)(h:gw gs 4294967290)(hg:gs.length=5)(hn:set≠[])(h5:set.length≤5)(hr:f_ set):
  TC Tw.prog lQ 69 [gR (dD gs),gR (bL set),gI .i64 m] 0 [] (.s (.own 0)) [(0,.rows 107 5 (i9 gs m set))]:=by
 refine⟨Mm.of Tw.vc rfl (by kernel_rfl),fun w bS ρ D hv ha hD _ _ _=>?_⟩
 have r0:=ha 0 _ rfl;have r1:=ha 1 _ rfl;have r2:=ha 2 _ rfl;rcases bS with⟨l⟩;rcases l with _|⟨x0,_|⟨x1,_|⟨x2,_|⟨x3,l⟩⟩⟩⟩<;>simp at hv
 simp only[Array.getD_eq_getD_getElem?,List.getElem?_toArray,List.getElem?_cons_zero,List.getElem?_cons_succ,Option.getD_some]at r0 r1 r2;have r2:=rT r2;subst r2
 cases r0 with|s r0=>cases r0 with|r r0=>
 cases r1 with|s r1=>cases r1 with|r r1=>
 obtain⟨A,gc,rfl,g1,g2,Xz,gD⟩:=r0.slice;obtain⟨A',sc,rfl,s1,s2,SI,sD⟩:=r1.slice;have dp:0<set.length:=List.length_pos_iff.2 hn
 obtain⟨-,gb,go,rfl, -⟩:=Xz 0 (ai (aG gs 0)) (by rw[List.getElem?_map,fU (by omega)];rfl)
 obtain⟨-,sb,so,rfl, -⟩:=SI 0 [rI set[0]] (by rw[List.getElem?_map,List.getElem?_eq_getElem dp];rfl)
 have b_:∀i,i<set.length→w.cell? ⟨sb,so+i,none⟩=some (.int .i64 (set.getD i 0)):=fun i hi=>by
  obtain⟨-,b,o,e,hh⟩:=SI i [rI (set.getD i 0)] (by rw[List.getElem?_map,List.getElem?_eq_getElem hi,List.getD_eq_getElem?_getD,List.getElem?_eq_getElem hi];rfl)
  cases e;obtain⟨v,hv,hr⟩:=hh 0 _ rfl;rw[vb hr]at hv;simpa using hv
 have p_:∀i,i<set.length→0≤set.getD i 0∧set.getD i 0<gs.length:=fun i hi=>by
  rw[List.getD_eq_getElem?_getD,List.getElem?_eq_getElem hi];have:=hr _ (List.getElem_mem hi)
  exact⟨this.1,by rw[hg];exact this.2⟩
 have OR:xM ⟨gb,go,none⟩ gs.length gc sb so set.length m (fun i=>set.getD i 0) (fun i=>SH (aG gs (set.getD i 0).toNat) m) w:=by
  refine⟨dp,h5,b_,fun i hi u pb mb hu hp hm=>?_⟩
  have hT:=(GJ (E:=fun _ _=>False) gs (set.getD i 0) m h (p_ i hi).1 (p_ i hi).2).2
  have tn:pb<u.heap.size:=World.block_lt_of_cell? u _ hp
  have hml:mb<u.heap.size:=World.block_lt_of_cell? u _ hm
  have XA:cb u (fun b=>b<u.heap.size) (.slice (some ⟨gb,go,none⟩) gs.length gc) (dD gs):=cb.Se (fun q hq=>hu q (hD _ hq)) (by simpa using r0) (Jk gs)
  refine(hT u #[.int .i64 (set.getD i 0),.pointer (some ⟨pb,0,none⟩),.pointer (some ⟨mb,0,none⟩)] (fun _=>none) (fun b=>b<u.heap.size) rfl (fun j g hj=>?_) (fun k hk=>hk) (fun b y h=>by cases h) (fun b y g h=>by cases h) (fun b y b' y' g h=>by cases h)).mono ?_
  ·rcases j with _|_|_|j
   ·cases hj;exact .s (.r (.v rfl))
   ·cases hj
    refine .s (.gS (o:=0) (off:=0) (fun _=> .slice (some ⟨gb,go,none⟩) gs.length gc) tn (fun j r hj=>?_) fun j r hj=>?_)
    ·rcases j with _|j
     ·exact hp
     ·simp at hj
    ·rcases j with _|j
     ·cases hj;exact XA
     ·simp at hj
   ·cases hj
    refine .s (.gS (o:=0) (off:=0) (fun _=> .int .i64 m) hml (fun j r hj=>?_) fun j r hj=>?_)
    ·rcases j with _|j
     ·exact hm
     ·simp at hj
    ·rcases j with _|j
     ·cases hj;exact .v rfl
     ·simp at hj
   ·simp at hj
  ·rintro e w' (⟨ch,_,hE⟩|⟨v,ρ',D',rfl,hv,hP⟩)
   ·exact hE.elim
   ·refine⟨by rw[MQ hv],hP.os,hP.tape,hP.output,hP.size,fun k hk=>hP.old k hk fun⟨b,y,h,_⟩=>by cases h⟩
 simp only[List.length_map];refine(P1 ⟨gb,go,none⟩ gs.length gc sb so set.length sc m _ _ w OR).mono ?_;rintro e w' (⟨⟨B,rfl,hB,⟨cs,lV,jG,dq⟩, -, -⟩,hb⟩|hE)
 ·right
  have aj:B<w'.heap.size:=(Array.getElem?_eq_some_iff.1 lV).1
  refine⟨_,fun b=>if b=0 then some (.slice (some ⟨B,0,none⟩) set.length set.length)else none,D,rfl,.s (.own rfl),⟨hb.os,hb.tape,hb.output,hb.size,fun k hk _=>hb.block k hk,fun k hk=>⟨Nat.lt_of_lt_of_le (hD k hk) hb.size,.inl hk⟩,fun b y hy=>?_,fun b y g hy hl hg=>?_,fun b y b' y' g hy hl dc bz _ _=>?_,fun b hb=>by omega,fun b _ hn=>?_⟩⟩
  ·simp only[gt]at hy
   split at hy
   ·rename_i e0
    cases hy;subst e0;refine⟨some ⟨B,0,none⟩,set.length,by simp,by simp,by simp only[maxLen];omega,by omega,fun i y hy=>?_,.inr ⟨B,cs,rfl,lV,by rw[jG,Nat.mul_comm],fun i y hy j r hr=>?_⟩⟩
    ·rw[List.getElem?_map,Option.map_eq_some_iff]at hy
     obtain⟨x,_,rfl⟩:=hy;rfl
    ·rw[List.getElem?_map,Option.map_eq_some_iff]at hy
     obtain⟨x,hx,rfl⟩:=hy;have hi:=(List.getElem?_eq_some_iff.1 hx).1;have hj:j<5:=(List.getElem?_eq_some_iff.1 hr).1
     have hc:=dq i j hi hj;have iG:set.getD i 0=x:=by rw[List.getD_eq_getElem?_getD,hx];rfl
     simp only[iG]at hc;rw[Array.getD_eq_getD_getElem?,show i*5+j=5*i+j by omega,hc]
     rcases j with _|_|_|_|_|j
     ·cases hr;exact .v rfl
     ·cases hr;exact .v rfl
     ·cases hr;exact .v rfl
     ·cases hr;exact .v rfl
     ·cases hr;exact .v rfl
     ·omega
   ·cases hy
  ·simp only[gt]at hy
   split at hy
   ·rename_i e0
    subst e0;simp only[if_true,bo,Option.some.injEq]at hg;subst hg;exact⟨fun hd=>by have:=hD _ hd;omega,.inr hB⟩
   ·cases hy
  ·simp only[gt]at hy dc
   split at hy
   ·split at dc
    ·omega
    ·cases dc
   ·cases hy
  ·simp only[gt]at hn
   split at hn
   ·cases hn
   ·rename_i e0;rw[if_neg e0]
 ·left
  obtain⟨us,rfl,sW⟩:=hE;exact⟨_,rfl,us,rfl,sW⟩
end Go.Proofs.YtjklkppncmhehaaGreat.T
namespace Go.Proofs.YtjklkppncmhehaaGreat.T
open Go Go.RowKit
set_option maxRecDepth 100000
set_option maxHeartbeats 4000000
variable {E:List PanicEntry→World→Prop}
def upto (k:Nat):List Int:=(List.range k).map fun(i:Nat)=>(i:Int)
theorem Jl (k:Nat):upto (k+1)=upto k++[(k:Int)]:=by simp[upto,List.range_succ]
theorem MR (k:Nat):(upto k).length=k:=by simp[upto]
theorem yL:TC Tw.prog E 116 [.eI (.func 55) [] []] 0 [] (gR (bL (upto 5))) []:=by
 refine tE Tw.func116 Tw.ntmps116 (by rw[Tryz.results116]) ?_
 (refine TW.go ?_;simp;repeat' first|intro hc|refine aa.mk ?_|refine aI ?_|refine ah ?_ ?_)
 refine tL (fun(k:Nat)=>⟨[(0,.eI (.func 55) [] []),(3,.s (.own 0)),(6,gI .i64 (k:Nat))],[(0,lf (upto k))],1⟩) (fun k=>k≤5) (fun k=>5-k) 0 (by omega)
  (Wk.own [0] [] (by simp) (by simp) (by simp[upto]) (by simp) (by simp)) fun k hk=>?_
 by_cases aj:k<5
 ·have aw:(k:Int)<5:=by omega
  have hg:bw (k:Int)=true:=by simp[bw];omega
  have aF:IntKind.i64.wrap ((k:Int)+1)=(k:Int)+1:=aL (by omega) (by omega)
  have hl:=MR k;(refine TW.go ?_;simp[aw,hg,aF,maxLen];repeat' first|intro hc|refine aa.mk ?_|refine aI ?_|refine ah ?_ ?_|(refine cP ?_;refine⟨_,nE _,?_⟩;simp[aw,hg,aF,maxLen]))
  exact⟨k+1,by omega,by omega,Wk.own [2] [] (by simp) (by simp) (by simp[Jl]) (by simp) (by simp)⟩
 ·obtain rfl:k=5:=by omega
  (refine TW.go ?_;simp;repeat' first|intro hc|refine aa.mk ?_|refine aI ?_|refine ah ?_ ?_)
  exact oW [] [0]
theorem Ch:TC Tw.prog E 168 [] 0 [] (gR (bL (upto 5))) []:=by
 refine tE Tw.func168 Tw.ntmps168 (by rw[Tryz.results168]) ?_
 (refine TW.go ?_;simp;repeat' first|intro hc|refine aa.mk ?_|refine aI ?_|refine ah ?_ ?_|(refine cP ?_;refine⟨_,yL,?_⟩;simp))
 exact oW [] []
def GM (a b:az)(m:Int):Bool:=
 !(o_ a m&&(cC a m).f)|| !(o_ b m&&(aU (cC a m).t (cC a m).g (cC b m).t (cC b m).g||(cC b m).f&& !(decide ((cC a m).t=(cC b m).t)&&decide ((cC a m).g=(cC b m).g))))
def GN (gs:List az)(m:Int)(i:Nat):Bool:=bX 5 fun k=>GM (aG gs i) (aG gs k) m
def pa (gs:List az)(m:Int):Bool:=bX 5 (GN gs m)
theorem P2 (gs:List az)(m:Int){k:Nat}(h:k<5):(i9 gs m (upto 5))[k]?=some (fK (aG gs k) m):=by
 rw[List.getElem?_map,upto,List.getElem?_map,List.getElem?_range h];rfl
theorem yM (gs:List az)(m:Int)(h:gw gs 4294967290)(h5:gs.length=5):TC Tw.prog lQ 139 [gR (dD gs),gI .i64 m] 0 [] (gB (pa gs m)) []:=by
 have hE:=sK gs (upto 5) m h h5 (by decide) (by decide) (fun g hg=>by simp[upto,List.range_succ]at hg;omega)
 have xN:(i9 gs m (upto 5)).length=5:=by simp[upto]
 have dC:=fun k h=>P2 gs m (k:=k) h
 generalize i9 gs m (upto 5)=A at*;refine tE Tw.func139 Tw.ntmps139 (by rw[Tryz.results139]) ?_
 (refine TW.go ?_;simp[xN];repeat' first|intro hc|refine aa.mk ?_|refine aI ?_|refine ah ?_ ?_|(refine cP ?_;refine⟨_,Ch,?_⟩;simp[xN])|(refine cF [] 1 ?_;refine⟨_,_,hE,?_⟩;simp[xN]))
 refine tL (fun(i:Nat)=>⟨[(5,gR (.sl 5 A)),(14,gR (.sl 5 A)),(15,gI .i64 5),(16,gI .i64 (i:Nat))],[],0⟩) (fun i=>i≤5∧∀j,j<i→GN gs m j=true) (fun i=>5-i) 0 ⟨by omega,fun j hj=>by omega⟩
  (kO [] [0]) fun i hi=>?_
 obtain⟨hi,hf⟩:=hi;by_cases aj:i<5
 ·have aw:(i:Int)<5:=by omega
  have aF:IntKind.i64.wrap ((i:Int)+1)=(i:Int)+1:=aL (by omega) (by omega)
  have nW:=dC i aj;have hq:pa gs m=false∨GN gs m i=true:=by
   cases h:GN gs m i
   ·exact .inl (by simp[pa,bY aj h])
   ·exact .inr rfl
  by_cases qg:(o_ (aG gs i) m&&(cC (aG gs i) m).f)=true
  ·simp only[Bool.and_eq_true]at qg
   obtain⟨f1,f2⟩:=qg;(refine TW.go ?_;simp[aw,nW,f1,f2,fK,aF,xN];repeat' first|intro hc|refine aa.mk ?_|refine aI ?_|refine ah ?_ ?_)
   refine tL (fun(k:Nat)=>⟨[(5,gR (.sl 5 A)),(7,.s (.ptr 0 0)),(14,gR (.sl 5 A)),(15,gI .i64 5),(16,gI .i64 (i:Nat)),(29,gR (.sl 5 A)),(30,gI .i64 5),(31,gI .i64 (k:Nat))],[(0,.box ((fK (aG gs i) m).map .r))],1⟩) (fun k=>k≤5∧∀j,j<k→GM (aG gs i) (aG gs j) m=true) (fun k=>5-k) 0 ⟨by omega,fun j hj=>by omega⟩
    (Wk.own [0] [] (by simp) (by simp) (by simp[fK,f1,f2]) (by simp) (by simp)) fun k hk=>?_
   obtain⟨hk,pK⟩:=hk;by_cases qe:k<5
   ·have SJ:(k:Int)<5:=by omega
    have Fv:IntKind.i64.wrap ((k:Int)+1)=(k:Int)+1:=aL (by omega) (by omega)
    have G8:=dC k qe;have P3:pa gs m=false∨GM (aG gs i) (aG gs k) m=true:=by
     rcases hq with h|h
     ·exact .inl h
     ·exact .inr (by rw[GN,cu]at h;exact h k qe)
    have xC:GM (aG gs i) (aG gs k) m= !(o_ (aG gs k) m&&(aU (cC (aG gs i) m).t (cC (aG gs i) m).g (cC (aG gs k) m).t (cC (aG gs k) m).g||(cC (aG gs k) m).f&& !(decide ((cC (aG gs i) m).t=(cC (aG gs k) m).t)&&decide ((cC (aG gs i) m).g=(cC (aG gs k) m).g)))):=by rw[GM,f1,f2];rfl
    (refine TW.go ?_;simp[SJ,G8,f1,f2,fK,Fv,xN];repeat' first|intro hc|refine aa.mk ?_|refine aI ?_|refine ah ?_ ?_|(refine cP ?_;refine⟨_,lP _ _ _ _,?_⟩;simp[SJ,G8,f1,f2,fK,Fv,xN]))
    all_goals first
     |(refine⟨k+1,⟨by omega,fun j hj=>?_⟩,by omega,Wk.own [0] [] (by simp) (by simp) (by simp[fK,f1,f2]) (by simp) (by simp)⟩
       by_cases e:j=k
       ·subst e;rw[xC];simp_all
       ·exact pK j (by omega))
     |(refine ar.nil (r:=gB (pa gs m)) ?_ rfl
       rcases P3 with P3|P3
       ·simp[P3]
       ·exfalso
        rw[xC]at P3;clear pK hf dC;first|(simp_all;done)|(simp_all;omega))
   ·obtain rfl:k=5:=by omega
    have eJ:GN gs m i=true:=bH pK
    clear pK;(refine TW.go ?_;simp[aF];repeat' first|intro hc|refine aa.mk ?_|refine aI ?_|refine ah ?_ ?_)
    refine⟨i+1,⟨by omega,fun j hj=>?_⟩,by omega,kS⟩
    by_cases e:j=i
    ·subst e;exact eJ
    ·exact hf j (by omega)
  ·have eJ:GN gs m i=true:=bH fun k _=>by rw[GM,Bool.eq_false_iff.2 qg];rfl
   have UT:(o_ (aG gs i) m&&(cC (aG gs i) m).f)=false:=Bool.eq_false_iff.2 qg
   cases f1:o_ (aG gs i) m
   ·(refine TW.go ?_;simp[aw,nW,f1,fK,aF,xN];repeat' first|intro hc|refine aa.mk ?_|refine aI ?_|refine ah ?_ ?_)
    refine⟨i+1,⟨by omega,fun j hj=>?_⟩,by omega,kS⟩
    by_cases e:j=i
    ·subst e;exact eJ
    ·exact hf j (by omega)
   ·have f2:(cC (aG gs i) m).f=false:=by simpa[f1]using UT
    (refine TW.go ?_;simp[aw,nW,f1,f2,fK,aF,xN];repeat' first|intro hc|refine aa.mk ?_|refine aI ?_|refine ah ?_ ?_)
    refine⟨i+1,⟨by omega,fun j hj=>?_⟩,by omega,kS⟩
    by_cases e:j=i
    ·subst e;exact eJ
    ·exact hf j (by omega)
 ·obtain rfl:i=5:=by omega
  have db:pa gs m=true:=bH hf
  rw[db];(refine TW.go ?_;simp;repeat' first|intro hc|refine aa.mk ?_|refine aI ?_|refine ah ?_ ?_)
  exact oW [] []
end Go.Proofs.YtjklkppncmhehaaGreat.T
namespace Go.Proofs.YtjklkppncmhehaaGreat.T
open Go Go.RowKit
set_option maxRecDepth 100000
set_option maxHeartbeats 4000000
variable {E:List PanicEntry→World→Prop}
theorem P4 {t g t' g':Int}(h:aU t g t' g'=true):(decide (t=t')&&decide (g=g'))=false:=by
 simp only[aU,decide_eq_true_eq]at h;simp only[Bool.and_eq_false_iff,decide_eq_false_iff_not];omega
theorem R0 {a b:az}(ha:bI a=true)(hb:bI b=true)(m:Int):GM a b m=jK a b m:=by
 unfold GM jK o_ cC;rw[ha,hb];simp only[Bool.true_and,if_true];have XB:(decide ((bG b m).t=(bG a m).t)&&decide ((bG b m).g=(bG a m).g))=(decide ((bG a m).t=(bG b m).t)&&decide ((bG a m).g=(bG b m).g)):=by
  rw[Bool.eq_iff_iff];simp only[Bool.and_eq_true,decide_eq_true_eq];exact⟨fun h=>⟨h.1.symm,h.2.symm⟩,fun h=>⟨h.1.symm,h.2.symm⟩⟩
 rw[XB]
 cases hl:aU (bG a m).t (bG a m).g (bG b m).t (bG b m).g
 ·cases(bG b m).f<;>simp
 ·rw[P4 hl]
  cases(bG b m).f<;>simp
theorem MS {gs:List az}(h5:gs.length=5)(h:bX gs.length (pJ gs)=true)(m:Nat):pa gs m=oO gs m:=by
 have hv:∀i,i<5→bI (aG gs i)=true:=fun i hi=>by
  rw[cu]at h;have:=h i (by omega)
  simp only[pJ,Bool.and_eq_true]at this;exact this.1
 rw[Bool.eq_iff_iff,pa,oO,h5,cu,cu];refine forall_congr' fun i=>forall_congr' fun hi=>?_;rw[GN,sB,h5,cu,cu];refine forall_congr' fun k=>forall_congr' fun hk=>?_;rw[R0 (hv i hi) (hv k hk)]
theorem xO (gs:List az)(h:gw gs 4294967290):TC Tw.prog lQ 90 [gR (dD gs)] 0 [] (gB (cZ gs)) []:=by
 have hlen:gs.length≤maxLen:=by have:=h.1;simp only[maxLen];omega
 refine tE Tw.func90 Tw.ntmps90 (by rw[Tryz.results90]) ?_
 by_cases h5:gs.length=5
 ·(refine TW.go ?_;simp[h5];repeat' first|intro hc|refine aa.mk ?_|refine aI ?_|refine ah ?_ ?_)
  refine tL (fun(k:Nat)=>⟨[(0,gR (dD gs)),(9,gR (dD gs)),(10,gI .i64 5),(11,gI .i64 (k:Nat))],[],0⟩) (fun k=>k≤5∧∀i,i<k→pJ gs i=true) (fun k=>5-k) 0 ⟨by omega,fun i hi=>by omega⟩ (kS) fun k hk=>?_
  obtain⟨hk,hf⟩:=hk;by_cases aj:k<5
  ·have he:=fU (gs:=gs) (i:=k) (by omega)
   have hV:=qn (E:=lQ) (aG gs k) (h.2 _ (List.mem_of_getElem? he));rw[xL]at hV;have aw:(k:Int)<5:=by omega
   have aF:IntKind.i64.wrap ((k:Int)+1)=(k:Int)+1:=aL (by omega) (by omega)
   have b_:pJ gs k=(bI (aG gs k)&&decide ((aG gs k).id=k)):=rfl
   have hq:cZ gs=false∨pJ gs k=true:=by
    cases h:pJ gs k
    ·exact .inl (by simp[cZ,bY (show k<gs.length by omega) h])
    ·exact .inr rfl
   generalize aG gs k=G at he hV b_
   cases hv:bI G
   ·rw[hv]at hV b_
    (refine TW.go ?_;simp[aw,he,ai,aF];repeat' first|intro hc|refine aa.mk ?_|refine aI ?_|refine ah ?_ ?_|(refine cP ?_;refine⟨_,hV,?_⟩;simp[aw,he,ai,aF]))
    refine ar.nil (r:=gB (cZ gs)) ?_ rfl;rcases hq with hq|hq
    ·simp[hq]
    ·rw[b_]at hq;cases hq
   ·rw[hv]at hV b_
    by_cases hid:G.id=k
    ·have XC:=hV
     simp only[ai,hid,List.map_cons,List.map_nil]at XC;(refine TW.go ?_;simp[aw,he,ai,aF,hid];repeat' first|intro hc|refine aa.mk ?_|refine aI ?_|refine ah ?_ ?_|(refine cP ?_;refine⟨_,XC,?_⟩;simp[aw,he,ai,aF,hid]))
     refine⟨k+1,⟨by omega,fun i hi=>?_⟩,by omega,kS⟩
     by_cases e:i=k
     ·subst e;rw[b_];simpa using hid
     ·exact hf i (by omega)
    ·(refine TW.go ?_;simp[aw,he,ai,aF,hid];repeat' first|intro hc|refine aa.mk ?_|refine aI ?_|refine ah ?_ ?_|(refine cP ?_;refine⟨_,hV,?_⟩;simp[aw,he,ai,aF,hid]))
     refine ar.nil (r:=gB (cZ gs)) ?_ rfl;rcases hq with hq|hq
     ·simp[hq]
     ·rw[b_]at hq;simp[hid]at hq
  ·obtain rfl:k=5:=by omega
   have db:bX gs.length (pJ gs)=true:=bH (by rw[h5];exact hf)
   have hcm:=MS h5 db;clear hf hk aj;(refine TW.go ?_;simp;repeat' first|intro hc|refine aa.mk ?_|refine aI ?_|refine ah ?_ ?_)
   refine tL (fun(m:Nat)=>⟨[(0,gR (dD gs)),(26,gI .i64 (m:Nat))],[],0⟩) (fun m=>m≤12∧∀i,i<m→oO gs i=true) (fun m=>12-m) 0 ⟨by omega,fun i hi=>by omega⟩ (kS) fun m hm=>?_
   obtain⟨hm,hf⟩:=hm;by_cases aj:m<12
   ·have P5:=yM gs (m:Int) h h5
    rw[hcm]at P5;have aw:(m:Int)<12:=by omega
    have aF:IntKind.i64.wrap ((m:Int)+1)=(m:Int)+1:=aL (by omega) (by omega)
    cases tF:oO gs m
    ·rw[tF]at P5
     rw[show cZ gs=false by rw[cZ,bY aj tF,Bool.and_false]]
     (refine TW.go ?_;simp[aw,aF];repeat' first|intro hc|refine aa.mk ?_|refine aI ?_|refine ah ?_ ?_|(refine cP ?_;refine⟨_,P5,?_⟩;simp[aw,aF]))
     exact oW [] []
    ·rw[tF]at P5
     (refine TW.go ?_;simp[aw,aF];repeat' first|intro hc|refine aa.mk ?_|refine aI ?_|refine ah ?_ ?_|(refine cP ?_;refine⟨_,P5,?_⟩;simp[aw,aF]))
     refine⟨m+1,⟨by omega,fun i hi=>?_⟩,by omega,kS⟩
     by_cases e:i=m
     ·subst e;exact tF
     ·exact hf i (by omega)
   ·obtain rfl:m=12:=by omega
    rw[show cZ gs=true by rw[cZ,db,bH hf];simp[h5]]
    (refine TW.go ?_;simp;repeat' first|intro hc|refine aa.mk ?_|refine aI ?_|refine ah ?_ ?_)
    exact oW [] []
 ·rw[show cZ gs=false by simp[cZ,h5]]
  have UJ:¬((gs.length:Int)=5):=by omega
  (refine TW.go ?_;simp[UJ];repeat' first|intro hc|refine aa.mk ?_|refine aI ?_|refine ah ?_ ?_)
  exact oW [] []
theorem nH (t g t' g':Int):TC Tw.prog E 17 [km (t,g),km (t',g')] 0 [] (gB (bb t g&&bb t' g'&&aU t g t' g')) []:=by
 refine tE Tw.func17 Tw.ntmps17 (by rw[Tryz.results17]) ?_
 (refine TW.go ?_;simp;repeat' first|intro hc|refine aa.mk ?_|refine aI ?_|refine ah ?_ ?_|(refine cP ?_;(first|refine⟨_,ji _ _,?_⟩|refine⟨_,lP _ _ _ _,?_⟩);simp))
 all_goals
  refine ar.nil (r:=gB (bb t g&&bb t' g'&&aU t g t' g')) ?_ rfl;simp_all
end Go.Proofs.YtjklkppncmhehaaGreat.T
namespace Go.Proofs.YtjklkppncmhehaaGreat.T
open Go Go.RowKit
set_option maxRecDepth 100000
set_option maxHeartbeats 4000000
variable {E:List PanicEntry→World→Prop}
def zG (xs:List Int)(i:Nat):Bool:=decide (i=0)||decide (xs.getD (i-1) 0<xs.getD i 0)
def zH (xs:List Int):Bool:=bX xs.length (zG xs)
theorem Ci (xs:List Int):TC Tw.prog E 155 [gR (bL xs)] 0 [] (gB (zH xs)) []:=by
 refine tE Tw.func155 Tw.ntmps155 (by rw[Tryz.results155]) ?_
 refine TW.len 0 rfl fun hlen=>?_;simp only[List.length_map]at hlen;(refine TW.go ?_;simp;repeat' first|intro hc|refine aa.mk ?_|refine aI ?_|refine ah ?_ ?_)
 refine tL (fun(k:Nat)=>⟨[(0,gR (bL xs)),(3,gI .i64 ((k:Int)+1))],[],0⟩) (fun k=>k≤xs.length∧∀i,i<k+1→i<xs.length→zG xs i=true) (fun k=>xs.length-k) 0 ⟨by omega,fun i hi _=>(by obtain rfl:i=0:=(by omega);simp[zG])⟩ (kS) fun k hk=>?_
 obtain⟨hk,hf⟩:=hk;by_cases aj:k+1<xs.length
 ·have he:xs[k+1]?=some xs[k+1]:=List.getElem?_eq_getElem aj
  have dF:xs[k]?=some xs[k]:=List.getElem?_eq_getElem (by omega)
  have hw:=iX (k:=k) (by omega)
  have aF:=wrap_add (k:=k+1) aj hlen;simp only[Int.natCast_add,Int.natCast_one]at aF;have aw:(k:Int)+1<(xs.length:Int):=by omega
  have b_:zG xs (k+1)=decide (xs[k]<xs[k+1]):=by simp[zG,aj,show k<xs.length by omega]
  generalize xs[k+1]=b at*;generalize xs[k]=a at*;by_cases lR:b≤a
  ·rw[show zH xs=false from bY aj (by rw[b_];simp;omega)]
   (refine TW.go ?_;simp[he,dF,hw,aw,lR];repeat' first|intro hc|refine aa.mk ?_|refine aI ?_|refine ah ?_ ?_)
   exact oW [] []
  ·(refine TW.go ?_;simp[he,dF,hw,aF,aw,lR];repeat' first|intro hc|refine aa.mk ?_|refine aI ?_|refine ah ?_ ?_)
   refine⟨k+1,⟨by omega,fun i hi Mq=>?_⟩,by omega,kS⟩
   by_cases e:i=k+1
   ·subst e;rw[b_];simp;omega
   ·exact hf i (by omega) Mq
 ·have aw:¬(k:Int)+1<(xs.length:Int):=by omega
  rw[show zH xs=true from bH fun i hi=>hf i (by omega) hi]
  (refine TW.go ?_;simp[aw];repeat' first|intro hc|refine aa.mk ?_|refine aI ?_|refine ah ?_ ?_)
  exact oW [] []
def P6 (xs:List Int)(a b:Int):Bool:=bX xs.length fun i=>decide (a≤xs.getD i 0∧xs.getD i 0≤b)
theorem Jm (xs:List Int)(a b:Int):TC Tw.prog E 156 [gR (bL xs),gI .i64 a,gI .i64 b] 0 [] (gB (P6 xs a b)) []:=by
 refine tE Tw.func156 Tw.ntmps156 (by rw[Tryz.results156]) ?_
 refine TW.len 0 rfl fun hlen=>?_;simp only[List.length_map]at hlen;(refine TW.go ?_;simp;repeat' first|intro hc|refine aa.mk ?_|refine aI ?_|refine ah ?_ ?_)
 refine tL (fun(k:Nat)=>⟨[(1,gI .i64 a),(2,gI .i64 b),(9,gR (bL xs)),(10,gI .i64 xs.length),(11,gI .i64 (k:Nat))],[],0⟩) (fun k=>k≤xs.length∧∀i,i<k→a≤xs.getD i 0∧xs.getD i 0≤b) (fun k=>xs.length-k) 0 ⟨by omega,fun i hi=>by omega⟩ (kS) fun k hk=>?_
 obtain⟨hk,hf⟩:=hk;by_cases aj:k<xs.length
 ·have he:xs[k]?=some (xs.getD k 0):=by rw[List.getD_eq_getElem?_getD,List.getElem?_eq_getElem aj];rfl
  have aw:(k:Int)<(xs.length:Int):=by omega
  have aF:=wrap_add aj hlen;by_cases c7:a≤xs.getD k 0∧xs.getD k 0≤b
  ·have U:¬xs.getD k 0<a:=by omega
   have h2:¬b<xs.getD k 0:=by omega
   generalize hx:xs.getD k 0=x at*;(refine TW.go ?_;simp[he,aw,aF,U,h2];repeat' first|intro hc|refine aa.mk ?_|refine aI ?_|refine ah ?_ ?_)
   refine⟨k+1,⟨by omega,fun i hi=>?_⟩,by omega,kS⟩
   by_cases e:i=k
   ·subst e;rw[hx];exact c7
   ·exact hf i (by omega)
  ·rw[show P6 xs a b=false from bY aj (by simp only[decide_eq_false_iff_not];exact c7)]
   generalize xs.getD k 0=x at*;by_cases U:x<a
   ·(refine TW.go ?_;simp[he,aw,U];repeat' first|intro hc|refine aa.mk ?_|refine aI ?_|refine ah ?_ ?_)
    exact oW [] []
   ·have h2:b<x:=by omega
    (refine TW.go ?_;simp[he,aw,U,h2];repeat' first|intro hc|refine aa.mk ?_|refine aI ?_|refine ah ?_ ?_)
    exact oW [] []
 ·obtain rfl:k=xs.length:=by omega
  rw[show P6 xs a b=true from bH fun i hi=>by simpa using hf i hi]
  (refine TW.go ?_;simp;repeat' first|intro hc|refine aa.mk ?_|refine aI ?_|refine ah ?_ ?_)
  exact oW [] []
theorem P7 (xs:List Int):fD xs=(decide (0<xs.length)&&zH xs&&P6 xs 0 4):=by
 rw[Bool.eq_iff_iff];simp only[fD,zH,P6,Bool.and_eq_true,decide_eq_true_eq,bX,List.all_eq_true,List.mem_range,nP,zG,bw,Bool.or_eq_true];constructor
 ·rintro⟨U,h2⟩
  exact⟨⟨h2,fun i hi=>(U i hi).2⟩,fun i hi=>by have:=(U i hi).1;omega⟩
 ·rintro⟨⟨U,h2⟩,h3⟩
  exact⟨fun i hi=>⟨by have:=h3 i hi;omega,h2 i hi⟩,U⟩
theorem GO (xs:List Int):TC Tw.prog E 114 [gR (bL xs)] 0 [] (gB (fD xs)) []:=by
 rw[P7];have hA:=Ci (E:=E) xs;have hI:=Jm (E:=E) xs 0 4;refine tE Tw.func114 Tw.ntmps114 (by rw[Tryz.results114]) ?_
 by_cases hl:0<xs.length
 ·have jM:(0:Int)<xs.length:=by omega
  cases ha:zH xs
  ·rw[ha]at hA
   (refine TW.go ?_;simp[hl,jM];repeat' first|intro hc|refine aa.mk ?_|refine aI ?_|refine ah ?_ ?_|(refine cP ?_;(first|refine⟨_,hA,?_⟩|refine⟨_,hI,?_⟩);simp[hl,jM]))
   refine ar.own [] [] (by simp;rfl) (by simp[hl]) (by simp) (by simp) (by simp[hl]) (by simp)
  ·rw[ha]at hA
   (refine TW.go ?_;simp[hl,jM];repeat' first|intro hc|refine aa.mk ?_|refine aI ?_|refine ah ?_ ?_|(refine cP ?_;(first|refine⟨_,hA,?_⟩|refine⟨_,hI,?_⟩);simp[hl,jM]))
   refine ar.own [] [] (by simp;rfl) (by simp[hl]) (by simp) (by simp) (by simp[hl]) (by simp)
 ·have eH:xs=[]:=List.length_eq_zero_iff.1 (by omega)
  subst eH;(refine TW.go ?_;simp;repeat' first|intro hc|refine aa.mk ?_|refine aI ?_|refine ah ?_ ?_)
  exact oW [] []
theorem xP (xs:List Int):TC Tw.prog E 57 [gR (bL xs)] 0 [] (gB (fD xs)) []:=by
 refine tE Tw.func57 Tw.ntmps57 (by rw[Tryz.results57]) ?_
 (refine TW.go ?_;simp;repeat' first|intro hc|refine aa.mk ?_|refine aI ?_|refine ah ?_ ?_|(refine cP ?_;refine⟨_,GO xs,?_⟩;simp))
 exact oW [] []
end Go.Proofs.YtjklkppncmhehaaGreat.T
namespace Go.Proofs.YtjklkppncmhehaaGreat.T
open Go Go.RowKit
set_option maxRecDepth 100000
set_option maxHeartbeats 4000000
variable {E:List PanicEntry→World→Prop}
def mM (gs:List az)(m:Int):List Int→Int×Int→Bool→(Int×Int)⊕((Int×Int)×Bool)
 |[],b,a=> .inr (b,a)
 |g::set,b,a=>if o_ (aG gs g.toNat) m=true then if(cC (aG gs g.toNat) m).f=true then .inl ((cC (aG gs g.toNat) m).t,(cC (aG gs g.toNat) m).g)
   else mM gs m set (if aU b.1 b.2 (cC (aG gs g.toNat) m).t (cC (aG gs g.toNat) m).g=true then((cC (aG gs g.toNat) m).t,(cC (aG gs g.toNat) m).g)else b) a
  else mM gs m set b false
def GP (gs:List az)(set:List Int)(m:Int):(Int×Int)×Bool:=match mM gs m set (0,0) true with
 | .inl s=>(s,true)
 | .inr x=>if x.2=true then(x.1,true)else((0,0),false)
theorem Jn {gs:List az}{m:Int}{set:List Int}{k:Nat}{g:Int}(h:set[k]?=some g)(b:Int×Int)(a:Bool):mM gs m (set.drop k) b a=if o_ (aG gs g.toNat) m=true then if(cC (aG gs g.toNat) m).f=true then .inl ((cC (aG gs g.toNat) m).t,(cC (aG gs g.toNat) m).g)
   else mM gs m (set.drop (k+1)) (if aU b.1 b.2 (cC (aG gs g.toNat) m).t (cC (aG gs g.toNat) m).g=true then((cC (aG gs g.toNat) m).t,(cC (aG gs g.toNat) m).g)else b) a
  else mM gs m (set.drop (k+1)) b false:=by
 obtain⟨hk,he⟩:=List.getElem?_eq_some_iff.1 h;rw[List.drop_eq_getElem_cons hk,mM,he]
theorem yN (gs:List az)(set:List Int)(m:Int)(h:gw gs 4294967290)(h5:gs.length=5)(hn:set≠[])(hl:set.length≤5)(hr:f_ set):
  TC Tw.prog lQ 48 [gR (dD gs),gR (bL set),gI .i64 m] 0 [] (.p [km (GP gs set m).1,gB (GP gs set m).2]) []:=by
 have hE:=sK gs set m h h5 hn hl hr;have xN:(i9 gs m set).length=set.length:=by simp
 have dC:∀(k:Nat) g,set[k]?=some g→(i9 gs m set)[k]?=some (fK (aG gs g.toNat) m):=fun k g hg=>by simp[List.getElem?_map,hg]
 generalize i9 gs m set=A at*;refine tE Tw.func48 Tw.ntmps48 (by rw[Tryz.results48]) ?_
 (refine TW.go ?_;simp[xN];repeat' first|intro hc|refine aa.mk ?_|refine aI ?_|refine ah ?_ ?_|(refine cF [] 1 ?_;refine⟨_,_,hE,?_⟩;simp[xN]))
 refine tL (fun(p:Nat×(Int×Int)×Bool)=>⟨[(6,.s (.ptr 0 0)),(8,.s (.ptr 1 0)),(9,gB p.2.2),(16,gR (.sl 5 A)),(17,gI .i64 set.length),(18,gI .i64 (p.1:Nat))],[(0,.box [.r (rI 0),.r (rI 0)]),(1,.box [.r (rI p.2.1.1),.r (rI p.2.1.2)])],2⟩)
  (fun p=>p.1≤set.length∧mM gs m (set.drop p.1) p.2.1 p.2.2=mM gs m set (0,0) true) (fun p=>set.length-p.1) (0,(0,0),true) ⟨by simp,rfl⟩
  (kO [0,1] [2]) fun p hp=>?_
 obtain⟨k,b,a⟩:=p;obtain⟨hk,bj⟩:=hp;simp only at hk bj⊢
 unfold GP;by_cases aj:k<set.length
 ·have he:set[k]?=some set[k]:=List.getElem?_eq_getElem aj
  have hA:=dC k _ he;have aw:(k:Int)<(set.length:Int):=by omega
  have aF:IntKind.i64.wrap ((k:Int)+1)=(k:Int)+1:=aL (by omega) (by omega)
  rw[Jn he]at bj;generalize aG gs (set[k]).toNat=G at*
  cases hv:o_ G m
  ·rw[hv,if_neg (by simp)]at bj
   (refine TW.go ?_;simp[aw,hA,fK,hv,aF];repeat' first|intro hc|refine aa.mk ?_|refine aI ?_|refine ah ?_ ?_)
   exact⟨(k+1,b,false),⟨by simp only;omega,bj⟩,by simp only;omega,kO [0,1] []⟩
  ·rw[hv,if_pos rfl]at bj
   cases hf:(cC G m).f
   ·rw[hf,if_neg (by simp)]at bj
    cases hc:aU b.1 b.2 (cC G m).t (cC G m).g
    ·rw[hc,if_neg (by simp)]at bj
     (refine TW.go ?_;simp[aw,hA,fK,hv,hf,hc,aF];repeat' first|intro hc|refine aa.mk ?_|refine aI ?_|refine ah ?_ ?_|(refine cP ?_;refine⟨_,lP _ _ _ _,?_⟩;simp[aw,hA,fK,hv,hf,hc,aF]))
     exact⟨(k+1,b,a),⟨by simp only;omega,bj⟩,by simp only;omega,kO [0,1] []⟩
    ·rw[hc,if_pos rfl]at bj
     (refine TW.go ?_;simp[aw,hA,fK,hv,hf,hc,aF];repeat' first|intro hc|refine aa.mk ?_|refine aI ?_|refine ah ?_ ?_|(refine cP ?_;refine⟨_,lP _ _ _ _,?_⟩;simp[aw,hA,fK,hv,hf,hc,aF]))
     exact⟨(k+1,_,a),⟨by simp only;omega,bj⟩,by simp only;omega,kO [0,1] []⟩
   ·rw[hf,if_pos rfl]at bj
    rw[←bj];(refine TW.go ?_;simp[aw,hA,fK,hv,hf,aF];repeat' first|intro hc|refine aa.mk ?_|refine aI ?_|refine ah ?_ ?_)
    exact oW [] []
 ·obtain rfl:k=set.length:=by omega
  rw[List.drop_length,mM]at bj;rw[←bj]
  cases a
  ·(refine TW.go ?_;simp;repeat' first|intro hc|refine aa.mk ?_|refine aI ?_|refine ah ?_ ?_)
   exact oW [] []
  ·(refine TW.go ?_;simp;repeat' first|intro hc|refine aa.mk ?_|refine aI ?_|refine ah ?_ ?_)
   exact oW [] []
theorem xQ (gs:List az)(set:List Int)(m:Int)(h:gw gs 4294967290):TC Tw.prog lQ 47 [gR (dD gs),gR (bL set),gI .i64 m] 0 [] (gB (jP gs set m)) []:=by
 have hS:=xO gs h;have hV:=xP (E:=lQ) set;have hM:=nF (E:=lQ) m;refine tE Tw.func47 Tw.ntmps47 (by rw[Tryz.results47]) ?_
 unfold jP
 cases a:cZ gs
 ·rw[a]at hS
  (refine TW.go ?_;simp;repeat' first|intro hc|refine aa.mk ?_|refine aI ?_|refine ah ?_ ?_|(refine cP ?_;(first|refine⟨_,hS,?_⟩|refine⟨_,hV,?_⟩|refine⟨_,hM,?_⟩);simp))
  exact oW [] []
 ·rw[a]at hS
  cases b:fD set
  ·rw[b]at hV
   (refine TW.go ?_;simp;repeat' first|intro hc|refine aa.mk ?_|refine aI ?_|refine ah ?_ ?_|(refine cP ?_;(first|refine⟨_,hS,?_⟩|refine⟨_,hV,?_⟩|refine⟨_,hM,?_⟩);simp))
   exact oW [] []
  ·rw[b]at hV
   (refine TW.go ?_;simp;repeat' first|intro hc|refine aa.mk ?_|refine aI ?_|refine ah ?_ ?_|(refine cP ?_;(first|refine⟨_,hS,?_⟩|refine⟨_,hV,?_⟩|refine⟨_,hM,?_⟩);simp))
   exact oW [] []
theorem sL {id clock:Int}{es:List aK}{e:aK}(h:iY id clock es=true)(he:e∈es):bb e.t e.g=true:=by
 obtain⟨i,hi,rfl⟩:=List.getElem_of_mem he;rw[iY,cu]at h;have:=h i hi
 rw[kY,List.getElem?_eq_getElem hi]at this;simp only[Bool.and_eq_true]at this;exact this.1.1.1.1.2
theorem q_ {g:az}{m:Int}(hg:bI g=true)(h:gT g m=true):bb (bG g m).t (bG g m).g=true:=by
 simp only[bI,Bool.and_eq_true]at hg;obtain⟨e,he⟩:=Option.isSome_iff_exists.1 h;rw[bG,he,Option.getD_some];unfold fa at he;split at he
 ·rename_i U;cases he;exact sL hg.1.1.1.2 (List.mem_of_find?_eq_some U)
 ·exact sL hg.1.1.2 (List.mem_of_find?_eq_some he)
theorem Jo (a:Int×Int)(xs:List (Int×Int))(y:Int×Int):fH a (xs++[y])=if aU (fH a xs).1 (fH a xs).2 y.1 y.2=true then y else fH a xs:=by
 induction xs generalizing a with
 |nil=>rfl
 |cons x xs ih=>exact ih _
theorem Cj {gs:List az}{m:Int}(hv:∀g∈gs,bI g=true)(h5:gs.length=5):∀(set:List Int) (acc:List (Int×Int)) (b:Int×Int) (a:Bool) (n:Nat),f_ set→b=mD acc→acc.length≤n→a=decide (acc.length=n)→
  (match mM gs m set b a with| .inl s=>(s,true)| .inr x=>if x.2=true then(x.1,true)else((0,0),false))=(match gA gs m set acc with| .inl s=>(s,true)| .inr l=>if l.length<n+set.length then((0,0),false)else(mD l,true))
 |[],acc,b,a,n,_,hb,hn,ha=>by
  subst hb;subst ha;simp only[mM,gA,List.length_nil,Nat.add_zero,decide_eq_true_eq];by_cases h:acc.length=n
  ·rw[if_pos h,if_neg (by omega)]
  ·rw[if_neg h,if_pos (by omega)]
 |g::set,acc,b,a,n,hr,hb,hn,ha=>by
  obtain⟨g0,g1⟩:=hr g (List.mem_cons_self ..);have hG:=hv _ (oV (gs:=gs) (i:=g.toNat) (by omega))
  have dE:f_ set:=fun x hx=>hr x (List.mem_cons_of_mem _ hx)
  rw[mM,gA];simp only[o_,cC,hG,Bool.true_and,if_true]
  cases hs:gT (aG gs g.toNat) m
  ·simp only[Bool.false_and,Bool.false_eq_true,if_false]
   rw[Cj hv h5 set acc b false (n+1) dE hb (by omega) (by simp;omega)]
   simp only[List.length_cons,show n+(set.length+1)=n+1+set.length by omega]
  ·have fL:=q_ hG hs
   simp only[Bool.true_and,if_true]
   cases hf:(bG (aG gs g.toNat) m).f
   ·simp only[Bool.false_eq_true,if_false]
    generalize(bG (aG gs g.toNat) m).t=t at*;generalize(bG (aG gs g.toNat) m).g=s at*;have hm:(if aU b.1 b.2 t s=true then(t,s)else b)=mD (acc++[(t,s)]):=by
     subst hb;rcases acc with _|⟨x,xs⟩
     ·simp only[bb,Bool.and_eq_true,decide_eq_true_eq]at fL
      rw[if_pos (by show aU 0 0 t s=true;simp only[aU,decide_eq_true_eq];omega)]
      rfl
     ·exact(Jo x xs (t,s)).symm
    rw[Cj hv h5 set (acc++[(t,s)]) _ a (n+1) dE hm (by simp;omega) (by rw[ha];simp)]
    simp only[List.length_cons,show n+(set.length+1)=n+1+set.length by omega]
   ·simp
theorem P8 {gs:List az}{set:List Int}{m:Int}(h:jP gs set m=true):GP gs set m=bD gs set m:=by
 simp only[jP,Bool.and_eq_true]at h;obtain⟨⟨U,h2⟩, -⟩:=h;have h5:=i7 U;obtain⟨-, -,hr⟩:=o8 h2;have hv:∀g∈gs,bI g=true:=fun g hg=>by
  simp only[cZ,Bool.and_eq_true,cu]at U;obtain⟨i,hi,rfl⟩:=List.getElem_of_mem hg;have:=U.1.2 i hi
  simp only[pJ,Bool.and_eq_true]at this;have e:aG gs i=gs[i]:=by rw[aG,List.getD_eq_getElem?_getD,List.getElem?_eq_getElem hi];rfl
  rw[←e];exact this.1
 have:=Cj (m:=m) hv h5 set [] (0,0) true 0 hr rfl (by simp) rfl
 simp only[Nat.zero_add]at this;exact this
theorem uV (gs:List az)(set:List Int)(m:Int)(h:gw gs 4294967290):TC Tw.prog lQ 14 [gR (dD gs),gR (bL set),gI .i64 m] 0 [] (.p [km (o5 gs set m).1,gB (o5 gs set m).2]) []:=by
 have hR:=xQ gs set m h;refine tE Tw.func14 Tw.ntmps14 (by rw[Tryz.results14]) ?_
 unfold o5
 cases a:jP gs set m
 ·rw[a]at hR
  (refine TW.go ?_;simp;repeat' first|intro hc|refine aa.mk ?_|refine aI ?_|refine ah ?_ ?_|(refine cP ?_;refine⟨_,hR,?_⟩;simp))
  exact oW [] []
 ·rw[a]at hR
  have a':=a;simp only[jP,Bool.and_eq_true]at a';obtain⟨⟨a1,a2⟩, -⟩:=a';obtain⟨b1,b2,b3⟩:=o8 a2;have hF:=yN gs set m h (i7 a1) b1 b2 b3;rw[P8 a]at hF;(refine TW.go ?_;simp;repeat' first|intro hc|refine aa.mk ?_|refine aI ?_|refine ah ?_ ?_|(refine cP ?_;(first|refine⟨_,hR,?_⟩|refine⟨_,hF,?_⟩);simp))
  exact oW [] []
end Go.Proofs.YtjklkppncmhehaaGreat.T
namespace Go.Proofs.YtjklkppncmhehaaGreat.T
open Go Go.RowKit
set_option maxRecDepth 100000
set_option maxHeartbeats 4000000
theorem xR {gs:List az}{m:Int}{s:Int×Int}:∀{set:List Int} {acc:List (Int×Int)},gA gs m set acc= .inl s→∃g∈set,gT (aG gs g.toNat) m=true∧(bG (aG gs g.toNat) m).f=true∧s=((bG (aG gs g.toNat) m).t,(bG (aG gs g.toNat) m).g)
 |[],acc,h=>by cases h
 |g::set,acc,h=>by
  rw[gA]at h;split at h
  ·rename_i hc
   simp only[Bool.and_eq_true]at hc
   cases h;exact⟨g,List.mem_cons_self ..,hc.1,hc.2,rfl⟩
  ·obtain⟨g',U,h2⟩:=xR h
   exact⟨g',List.mem_cons_of_mem _ U,h2⟩
theorem xS {gs:List az}{m:Int}{l:List (Int×Int)}:∀{set:List Int} {acc:List (Int×Int)},gA gs m set acc= .inr l→
  (∀x∈acc,x∈l)∧(∀g∈set,gT (aG gs g.toNat) m=true→(bG (aG gs g.toNat) m).f=false∧((bG (aG gs g.toNat) m).t,(bG (aG gs g.toNat) m).g)∈l)∧
   (∀x∈l,x∈acc∨∃g∈set,gT (aG gs g.toNat) m=true∧x=((bG (aG gs g.toNat) m).t,(bG (aG gs g.toNat) m).g))∧l.length≤acc.length+set.length
 |[],acc,h=>by cases h;exact⟨fun x h=>h,fun g h=>(by cases h),fun x h=> .inl h,by simp⟩
 |g::set,acc,h=>by
  rw[gA]at h;split at h
  ·cases h
  ·rename_i hc
   obtain⟨U,h2,h3,h4⟩:=xS h
   cases hs:gT (aG gs g.toNat) m
   ·simp only[hs,Bool.false_eq_true,if_false]at U h3 h4
    refine⟨U,fun g' a_ vP=>?_,fun x hx=>?_,by simp;omega⟩
    ·rcases List.mem_cons.1 a_ with rfl|a_
     ·rw[hs]at vP;cases vP
     ·exact h2 g' a_ vP
    ·rcases h3 x hx with h|⟨g',a_,h⟩
     ·exact .inl h
     ·exact .inr ⟨g',List.mem_cons_of_mem _ a_,h⟩
   ·simp only[hs,if_true]at U h3 h4
    refine⟨fun x hx=>U x (by simp[hx]),fun g' a_ vP=>?_,fun x hx=>?_,by simp at h4⊢;omega⟩
    ·rcases List.mem_cons.1 a_ with rfl|a_
     ·exact⟨by simpa[hs]using hc,U _ (by simp)⟩
     ·exact h2 g' a_ vP
    ·rcases h3 x hx with h|⟨g',a_,h⟩
     ·rcases List.mem_append.1 h with h|h
      ·exact .inl h
      ·rw[List.mem_singleton]at h
       exact .inr ⟨g,List.mem_cons_self ..,hs,h⟩
     ·exact .inr ⟨g',List.mem_cons_of_mem _ a_,h⟩
theorem ko (t s:Int):aU t s t s=false:=by simp[aU]
theorem uC {a b c:Int×Int}(U:aU a.1 a.2 b.1 b.2=false)(h2:aU b.1 b.2 c.1 c.2=false):aU a.1 a.2 c.1 c.2=false:=by
 simp only[aU,decide_eq_false_iff_not]at*;omega
theorem GQ {a b:Int×Int}(U:aU a.1 a.2 b.1 b.2=true):aU b.1 b.2 a.1 a.2=false:=by
 simp only[aU,decide_eq_false_iff_not,decide_eq_true_eq]at*;omega
theorem P9 (a:Int×Int):∀(xs:List (Int×Int)),aU (fH a xs).1 (fH a xs).2 a.1 a.2=false∧(∀y∈xs,aU (fH a xs).1 (fH a xs).2 y.1 y.2=false)∧(fH a xs=a∨fH a xs∈xs):=by
 intro xs;induction xs generalizing a with
 |nil=>exact⟨ko _ _,fun y h=>(by cases h),.inl rfl⟩
 |cons x xs ih=>
  rw[fH];obtain⟨U,h2,h3⟩:=ih (if aU a.1 a.2 x.1 x.2=true then x else a)
  by_cases hc:aU a.1 a.2 x.1 x.2=true
  ·simp only[if_pos hc]at U h2 h3⊢
   refine⟨uC U (GQ hc),fun y hy=>?_,.inr ?_⟩
   ·rcases List.mem_cons.1 hy with rfl|hy
    ·exact U
    ·exact h2 y hy
   ·rcases h3 with h3|h3
    ·rw[h3];exact List.mem_cons_self ..
    ·exact List.mem_cons_of_mem _ h3
  ·simp only[if_neg hc]at U h2 h3⊢
   refine⟨U,fun y hy=>?_,?_⟩
   ·rcases List.mem_cons.1 hy with rfl|hy
    ·exact uC U (by simpa using hc)
    ·exact h2 y hy
   ·rcases h3 with h3|h3
    ·exact .inl h3
    ·exact .inr (List.mem_cons_of_mem _ h3)
theorem MT {gs:List az}{m:Int}(h:cZ gs=true)(hm:bC m=true){i k:Nat}(hi:i<5)(hk:k<5):jK (aG gs i) (aG gs k) m=true:=by
 have h5:=i7 h;simp only[cZ,Bool.and_eq_true,cu,oO,sB,h5]at h;simp only[bC,decide_eq_true_eq]at hm;have:=h.2 m.toNat (by omega) i hi k hk
 rwa[show((m.toNat:Nat):Int)=m by omega]at this
theorem xU {gs:List az}(h:cZ gs=true){i:Nat}(hi:i<5):bI (aG gs i)=true:=by
 have h5:=i7 h;simp only[cZ,Bool.and_eq_true,cu,h5]at h;have:=h.1.2 i hi
 simp only[pJ,Bool.and_eq_true]at this;exact this.1
theorem Jp {gs:List az}{set:List Int}{m:Int}{s:Int×Int}(h:jP gs set m=true)(hs:bD gs set m=(s,true)):
  bb s.1 s.2=true∧∀g∈set,gT (aG gs g.toNat) m=true→aU s.1 s.2 (bG (aG gs g.toNat) m).t (bG (aG gs g.toNat) m).g=false∧((bG (aG gs g.toNat) m).f=true→(bG (aG gs g.toNat) m).t=s.1∧(bG (aG gs g.toNat) m).g=s.2):=by
 simp only[jP,Bool.and_eq_true]at h;obtain⟨⟨U,h2⟩,hm⟩:=h;obtain⟨cG,hl5,hr⟩:=o8 h2;have hG:∀g∈set,bI (aG gs g.toNat)=true:=fun g hg=>xU U (by have:=hr g hg;omega)
 unfold bD at hs;split at hs
 ·rename_i s' he
  cases hs;obtain⟨a,ha,a1,a2,rfl⟩:=xR he;refine⟨q_ (hG a ha) a1,fun g hg dJ=>?_⟩
  have hp:=MT U hm (i:=a.toNat) (k:=g.toNat) (by have:=hr a ha;omega) (by have:=hr g hg;omega)
  simp only[jK,a1,a2,dJ]at hp
  cases hf:(bG (aG gs g.toNat) m).f
  ·simp[hf]at hp
   exact⟨hp,fun h=>by cases h⟩
  ·simp[hf]at hp
   rw[hp.1,hp.2];exact⟨ko _ _,fun _=>⟨rfl,rfl⟩⟩
 ·rename_i l he
  split at hs
  ·cases hs
  ·rename_i hlen
   cases hs;obtain⟨-,k2,k3,k4⟩:=xS he;rcases l with _|⟨x,xs⟩
   ·exact absurd (List.length_pos_iff.2 cG) (by simpa using hlen)
   ·obtain⟨m1,m2,m3⟩:=P9 x xs
    refine⟨?_,fun g hg dJ=>?_⟩
    ·have p_:fH x xs∈x::xs:=by
      rcases m3 with h|h
      ·rw[h];exact List.mem_cons_self ..
      ·exact List.mem_cons_of_mem _ h
     rcases k3 _ p_ with h|⟨g,hg,dJ,e⟩
     ·cases h
     ·rw[mD,e];exact q_ (hG g hg) dJ
    ·obtain⟨e1,e2⟩:=k2 g hg dJ
     refine⟨?_,fun h=>by rw[e1]at h;cases h⟩
     rcases List.mem_cons.1 e2 with h|h
     ·subst h;exact m1
     ·exact m2 _ h
theorem re (bs:List Int)(hb:∀b∈bs,0≤b∧b≤255):TC Tw.prog lQ 3 [gR (pw bs)] 0 [] (gB true) []:=by
 have hD:=pM (E:=lQ) bs ⟨fun b h=>hb b (List.mem_of_mem_take h),by simp;omega⟩
 obtain⟨hL, -, -, -⟩:=uB (pk (bs.take 2000)) 0;generalize(eN (pk (bs.take 2000)) 0).1=gs at*;generalize J6 (pk (bs.take 2000))=sm at*;obtain⟨set,m⟩:=sm;simp only at hD
 have UW:gw gs 4294967290:=⟨by have:=hL.1;omega,fun g hg=>by have:=hL.2 g hg;exact⟨by have:=this.1;omega,by have:=this.2;omega⟩⟩
 have hI:=uV gs set m UW;have hS:=pN (E:=lQ) gs set m UW;refine tE Tw.func3 Tw.ntmps3 (by rw[Tryz.results3]) ?_
 by_cases hl:1048576<bs.length
 ·have bz:(1048576:Int)<(bs.length:Int):=by omega
  (refine TW.go ?_;simp[bz];repeat' first|intro hc|refine aa.mk ?_|refine aI ?_|refine ah ?_ ?_)
  exact oW [] []
 ·have bz:¬(1048576:Int)<(bs.length:Int):=by omega
  cases hR:(o5 gs set m).2
  ·rw[hR]at hI hS
   (refine TW.go ?_;simp[bz,jv];repeat' first|intro hc|refine aa.mk ?_|refine aI ?_|refine ah ?_ ?_|(refine cP ?_;(first|refine⟨_,hD,?_⟩|refine⟨_,hI,?_⟩|refine⟨_,hS,?_⟩);simp[bz,jv]))
   exact oW [] []
  ·have fL:jP gs set m=true:=by
    unfold o5 at hR;split at hR
    ·assumption
    ·cases hR
   have bj:o5 gs set m=bD gs set m:=by rw[o5,if_pos fL]
   rw[hR]at hI hS;generalize hs:(o5 gs set m).1=s at*;obtain⟨k1,k2⟩:=Jp (s:=s) fL (by rw[←bj,←hs,←hR])
   have mf:=fL;simp only[jP,Bool.and_eq_true]at mf;obtain⟨⟨o1,o2⟩,om⟩:=mf;obtain⟨cG,hl5,hr⟩:=o8 o2;have h5:=i7 o1;(refine TW.go ?_;simp[bz,jv];repeat' first|intro hc|refine aa.mk ?_|refine aI ?_|refine ah ?_ ?_|(refine cP ?_;(first|refine⟨_,hD,?_⟩|refine⟨_,hI,?_⟩|refine⟨_,hS,?_⟩);simp[bz,jv]))
   refine tL (fun(k:Nat)=>⟨[(3,gR (dD gs)),(4,gR (bL set)),(5,gI .i64 m),(6,.s (.ptr 0 0)),(10,gI .i64 (k:Nat))],[(0,.box [.r (rI s.1),.r (rI s.2)])],1⟩) (fun k=>k≤set.length) (fun k=>set.length-k) 0 (by omega) (kO [0] []) fun k hk=>?_
   by_cases aj:k<set.length
   ·have he:set[k]?=some set[k]:=List.getElem?_eq_getElem aj
    have p_:=List.getElem_mem aj;generalize set[k]=x at*;obtain⟨x0,x1⟩:=hr x p_;have hG:=fU (gs:=gs) (i:=x.toNat) (by omega)
    have hT:=qq (E:=lQ) (aG gs x.toNat) m (UW.2 _ (List.mem_of_getElem? hG));have hv:=xU o1 (i:=x.toNat) (by omega)
    have q:=k2 x p_;simp only[cC,o_,hv,if_true,Bool.true_and]at hT;generalize aG gs x.toNat=G at*;have aw:(k:Int)<(set.length:Int):=by omega
    have aF:IntKind.i64.wrap ((k:Int)+1)=(k:Int)+1:=aL (by omega) (by omega)
    generalize bG G m=e at*
    cases Cg:gT G m
    ·rw[Cg]at hT
     (refine TW.go ?_;simp[aw,he,x0,hG,aF,ai,au];repeat' first|intro hc|refine aa.mk ?_|refine aI ?_|refine ah ?_ ?_|(refine cP ?_;(first|refine⟨_,hT,?_⟩|refine⟨_,nH _ _ _ _,?_⟩);simp[aw,he,x0,hG,aF,ai,au]))
     exact⟨k+1,by omega,by omega,kO [0] []⟩
    ·obtain⟨q1,q2⟩:=q Cg
     rw[Cg]at hT
     cases hf:e.f
     ·(refine TW.go ?_;simp[aw,he,x0,hG,aF,ai,au,hf,q1];repeat' first|intro hc|refine aa.mk ?_|refine aI ?_|refine ah ?_ ?_|(refine cP ?_;(first|refine⟨_,hT,?_⟩|refine⟨_,nH _ _ _ _,?_⟩);simp[aw,he,x0,hG,aF,ai,au,hf,q1]))
      exact⟨k+1,by omega,by omega,kO [0] []⟩
     ·obtain⟨q3,q4⟩:=q2 hf
      (refine TW.go ?_;simp[aw,he,x0,hG,aF,ai,au,hf,q1,q3,q4,jv,ko];repeat' first|intro hc|refine aa.mk ?_|refine aI ?_|refine ah ?_ ?_|(refine cP ?_;(first|refine⟨_,hT,?_⟩|refine⟨_,nH _ _ _ _,?_⟩);simp[aw,he,x0,hG,aF,ai,au,hf,q1,q3,q4,jv,ko]))
      all_goals exact⟨k+1,by omega,by omega,kO [0] []⟩
   ·obtain rfl:k=set.length:=by omega
    (refine TW.go ?_;simp[k1];repeat' first|intro hc|refine aa.mk ?_|refine aI ?_|refine ah ?_ ?_|(refine cP ?_;refine⟨_,ji _ _,?_⟩;simp[k1]))
    refine ar.own [] [] (by simp;rfl) (by simp[k1]) (by simp) (by simp) (by simp[k1]) (by simp)
end Go.Proofs.YtjklkppncmhehaaGreat.T
namespace Go.Proofs.YtjklkppncmhehaaGreat
open Go.ChangeShapes Go.WideShapes Go.ChangeAt Go.RowKit Go.Joins
theorem own:ownKnob Tryz.prog.godebug=none:=by kernel_rfl
theorem laidOut:laidOutB Tryz.prog=true:=by kernel_rfl
def Jq (bs:List Int):List Value:=bs.map (Value.int .u8)
def Bytes (bs:List Int):Prop:=∀b∈bs,0≤b∧b≤255
theorem wf_u8 {n:Int}(h:(Lit.int .u8 n).wf=true):0≤n∧n≤255:=by
 have:=bounds_u8 h
 omega
set_option maxRecDepth 100000 in
theorem MU {H:Type}{enc:TypeId×Value→H}{W:World}{r:Reach}{b0:Nat}{v:Value}{d:DataW H}{p:List MemPlace}
  (hv:Value.okWide Tryz.prog W r b0 22 v) (h:DataW.Trod enc Tryz.prog W 0 (fun _=>true) true 22 v d p):
  ∃A n c bs,v= .slice A n c∧n≤c∧c≤maxLen∧Reads W W.heap.size 1 A n (Jq bs)∧Bytes bs:=by
 obtain⟨A,n,c,rfl⟩:=okWide_slice Tryz.underlying22 hv;obtain⟨fuel,hf⟩:=h;rcases open_ints Tryz.underlying22 Tryz.underlying5 (by kernel_rfl) hf with⟨lV,_⟩|⟨a,l,c',zs,lV,_,hl,hm,hz,_,dq,hwf⟩
 ·simp[Value.cells]at lV
  obtain⟨rfl,rfl,rfl⟩:=lV;exact⟨none,0,0,[],rfl,Nat.le_refl _,Nat.zero_le _,Reads.none_,fun b hb=>by simp at hb⟩
 ·simp[Value.cells]at lV
  obtain⟨rfl,rfl,rfl⟩:=lV;have FO:zs.length=c:=by simpa using hz
  refine⟨some a,n,c,zs.take n,rfl,hl,hm,⟨?_,fun h0=>⟨a,rfl,?_,fun j u hu=>?_⟩⟩,fun b hb=>wf_u8 (hwf b (List.mem_of_mem_take hb))⟩
  ·simp[Jq];omega
  ·have U:=dq 0 (by omega)
   have:=World.block_lt_of_cell? W (a.add 0) U
   rwa[jg]at this
  ·unfold Jq at hu
   rw[List.getElem?_map]at hu;have hj:j<n:=by
    have:=(List.getElem?_eq_some_iff.1 (show(zs.take n)[j]?=some ((zs.take n)[j]?.getD 0)from by
     cases hq:(zs.take n)[j]? with
     |none=>rw[hq]at hu;cases hu
     |some z=>rfl)).1
    rw[List.length_take]at this;omega
   rw[List.getElem?_take,if_pos hj]at hu;rw[dq j (by omega),List.getD_eq_getElem?_getD]
   cases hq:zs[j]? with
   |none=>rw[hq]at hu;cases hu
   |some z=>rw[hq]at hu;exact hu
end Go.Proofs.YtjklkppncmhehaaGreat
