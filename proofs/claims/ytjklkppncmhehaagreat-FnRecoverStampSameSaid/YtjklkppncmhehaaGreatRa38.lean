/-
What is proved: what impl.entriesOf does to trees, over the second program: it leaves the answers, or escapes. No condition but the ranges that it states. what the program's check of a system does to trees, over the second program: it answers as the reference's, or escapes. No condition but the lengths that each states. the groups that are in both sets. No condition. what the reference's events that send do to trees. No condition but the lengths and ranges that each states. what the reference's events do to trees. No condition but the lengths and ranges that each states. what the reference's events do to trees ('l51Do_T'). No condition but the shape of the world.
-/
import Derived.Test.YtjklkppncmhehaaGreatRa36
import Derived.Test.YtjklkppncmhehaaGreatRa37
import Derived.Test.YtjklkppncmhehaaGreatRa35
set_option linter.unusedVariables false
set_option linter.unusedSimpArgs false
namespace Go.Proofs.YtjklkppncmhehaaGreat.T
open Go Go.RowKit
def lQ (ch:List PanicEntry)(w:World):Prop:=Sr.T7 (.panicked ch) w
inductive q9:RT→Prop
 |v (x:Value):q9 (.v x)
 |nil:q9 .nil
 |sl {k:Nat} {xs:List (List RT)} (h0:0<k) (h:∀(i:Nat) (e:List RT),xs[i]?=some e→∀(j:Nat) (r:RT),e[j]?=some r→q9 r):q9 (.sl k xs)
theorem cb.Se {w u:World}{D:Nat→Prop}(hc:∀q:Addr,D q.block→u.cell? q=w.cell? q){v:Value}{t:RT}(h:cb w D v t):q9 t→cb u (fun b=>b<u.heap.size) v t:=by
 induction h with
 |v h=>exact fun _=> .v h
 |nil=>exact fun _=> .nil
 |yA hm=>exact fun _=> .yA hm
 | @sl b o c k xs vs eR hm kM cB hv _ ih=>
   intro hs
   cases hs with
   |sl h0 hs=>
   rcases xs with _|⟨e,xs⟩
   ·exact .yA hm
   ·have hk0:=cB 0 e rfl
    obtain⟨r,hr⟩:∃r,e[0]?=some r:=⟨_,List.getElem?_eq_getElem (by omega)⟩
    refine .sl vs eR hm ?_ cB (fun i e he j r hr=>(hc _ kM).trans (hv i e he j r hr)) fun i e he j r hr=>ih i e he j r hr (hs i e he j r hr)
    exact World.block_lt_of_cell? u _ ((hc _ kM).trans (hv 0 e rfl 0 r hr))
theorem Jk (gs:List az):q9 (dD gs):=by
 refine .sl (by omega) fun i e he j r hr=>?_
 rw[List.getElem?_map,Option.map_eq_some_iff]at he;obtain⟨g,_,rfl⟩:=he;have hE:∀es:List aK,q9 (dw es):=fun es=>by
  refine .sl (by omega) fun i e he j r hr=>?_
  rw[List.getElem?_map,Option.map_eq_some_iff]at he;obtain⟨x,_,rfl⟩:=he;rcases j with _|_|_|_|j<;>simp[au]at hr<;>subst hr<;>exact .v _
 rcases j with _|_|_|_|j<;>simp[ai]at hr<;>subst hr
 ·exact .v _
 ·exact .v _
 ·exact hE _
 ·exact hE _
theorem vb {w:World}{D:Nat→Prop}{v:Value}{n:Int}(h:cb w D v (rI n)):v= .int .i64 n:=by cases h;rfl
theorem J8 {w:World}{D:Nat→Prop}{v:Value}{b:Bool}(h:cb w D v (rB b)):v= .bool b:=by cases h;rfl
def SH (g:az)(m:Int):Sr.dB:=⟨(cC g m).m,(cC g m).t,(cC g m).g,(cC g m).f,o_ g m⟩
theorem MQ {ρ:Nat→Option Value}{w:World}{D:Nat→Prop}{v:Value}{g:az}{m:Int}(h:aY ρ w D v (.a ((fK g m).map .r))):v=(SH g m).val:=by
 cases h with
 | @a arr _ hn h=>
   have hl:arr.size=5:=by simpa[fK]using hn
   have r:∀(i:Nat) (t:RT),(fK g m)[i]?=some t→cb w D (arr.getD i undef) t:=fun i t ht=>by
    have:=h i (.r t) (by rw[List.getElem?_map,ht];rfl)
    generalize arr.getD i undef=z at this
    cases this with|r h=>exact h
   have h0:=vb (r 0 _ rfl);have U:=vb (r 1 _ rfl);have h2:=vb (r 2 _ rfl);have h3:=J8 (r 3 _ rfl);have h4:=J8 (r 4 _ rfl);show Value.agg arr= .agg #[.int .i64 (cC g m).m,.int .i64 (cC g m).t,.int .i64 (cC g m).g,.bool (cC g m).f,.bool (o_ g m)]
   congr 1
   rcases arr with⟨l⟩;rcases l with _|⟨x0,_|⟨x1,_|⟨x2,_|⟨x3,_|⟨x4,_|⟨x5,l⟩⟩⟩⟩⟩⟩<;>simp at hl
   simp at h0 U h2 h3 h4
   subst h0 U h2 h3 h4;rfl
abbrev i9 (gs:List az) (m:Int) (set:List Int):List (List RT):=set.map fun x=>fK (aG gs x.toNat) m
set_option maxRecDepth 100000 in
theorem sK (gs:List az)(set:List Int)(m:Int)(h:gw gs 4294967290)(hg:gs.length=5)(hn:set≠[])(h5:set.length≤5)(hr:f_ set):
  TC Tw.prog lQ 69 [gR (dD gs),gR (bL set),gI .i64 m] 0 [] (.s (.own 0)) [(0,.rows 107 5 (i9 gs m set))]:=by
 refine⟨Mm.of Tw.vc rfl (by kernel_rfl),fun w bS ρ D hv ha hD _ _ _=>?_⟩
 have r0:=ha 0 _ rfl;have r1:=ha 1 _ rfl;have r2:=ha 2 _ rfl;rcases bS with⟨l⟩;rcases l with _|⟨x0,_|⟨x1,_|⟨x2,_|⟨x3,l⟩⟩⟩⟩<;>simp at hv
 simp only[Array.getD_eq_getD_getElem?,List.getElem?_toArray,List.getElem?_cons_zero,List.getElem?_cons_succ,Option.getD_some]at r0 r1 r2;have r2:=rT r2;subst r2
 cases r0 with|s r0=>cases r0 with|r r0=>
 cases r1 with|s r1=>cases r1 with|r r1=>
 obtain⟨A,gc,rfl,g1,g2,Xz,gD⟩:=r0.slice;obtain⟨A',sc,rfl,s1,s2,SI,sD⟩:=r1.slice;have dp:0<set.length:=List.length_pos_iff.2 hn
 obtain⟨-,gb,go,rfl, -⟩:=Xz 0 (ai (aG gs 0)) (by rw[List.getElem?_map,fU (by omega)];rfl)
 obtain⟨-,sb,so,rfl, -⟩:=SI 0 [rI set[0]] (by rw[List.getElem?_map,List.getElem?_eq_getElem dp];rfl)
 have b_:∀i,i<set.length→w.cell? ⟨sb,so+i,none⟩=some (.int .i64 (set.getD i 0)):=fun i hi=>by
  obtain⟨-,b,o,e,hh⟩:=SI i [rI (set.getD i 0)] (by rw[List.getElem?_map,List.getElem?_eq_getElem hi,List.getD_eq_getElem?_getD,List.getElem?_eq_getElem hi];rfl)
  cases e;obtain⟨v,hv,hr⟩:=hh 0 _ rfl;rw[vb hr]at hv;simpa using hv
 have p_:∀i,i<set.length→0≤set.getD i 0∧set.getD i 0<gs.length:=fun i hi=>by
  rw[List.getD_eq_getElem?_getD,List.getElem?_eq_getElem hi];have:=hr _ (List.getElem_mem hi)
  exact⟨this.1,by rw[hg];exact this.2⟩
 have OR:xM ⟨gb,go,none⟩ gs.length gc sb so set.length m (fun i=>set.getD i 0) (fun i=>SH (aG gs (set.getD i 0).toNat) m) w:=by
  refine⟨dp,h5,b_,fun i hi u pb mb hu hp hm=>?_⟩
  have hT:=(GJ (E:=fun _ _=>False) gs (set.getD i 0) m h (p_ i hi).1 (p_ i hi).2).2
  have tn:pb<u.heap.size:=World.block_lt_of_cell? u _ hp
  have hml:mb<u.heap.size:=World.block_lt_of_cell? u _ hm
  have XA:cb u (fun b=>b<u.heap.size) (.slice (some ⟨gb,go,none⟩) gs.length gc) (dD gs):=cb.Se (fun q hq=>hu q (hD _ hq)) (by simpa using r0) (Jk gs)
  refine(hT u #[.int .i64 (set.getD i 0),.pointer (some ⟨pb,0,none⟩),.pointer (some ⟨mb,0,none⟩)] (fun _=>none) (fun b=>b<u.heap.size) rfl (fun j g hj=>?_) (fun k hk=>hk) (fun b y h=>by cases h) (fun b y g h=>by cases h) (fun b y b' y' g h=>by cases h)).mono ?_
  ·rcases j with _|_|_|j
   ·cases hj;exact .s (.r (.v rfl))
   ·cases hj
    refine .s (.gS (o:=0) (off:=0) (fun _=> .slice (some ⟨gb,go,none⟩) gs.length gc) tn (fun j r hj=>?_) fun j r hj=>?_)
    ·rcases j with _|j
     ·exact hp
     ·simp at hj
    ·rcases j with _|j
     ·cases hj;exact XA
     ·simp at hj
   ·cases hj
    refine .s (.gS (o:=0) (off:=0) (fun _=> .int .i64 m) hml (fun j r hj=>?_) fun j r hj=>?_)
    ·rcases j with _|j
     ·exact hm
     ·simp at hj
    ·rcases j with _|j
     ·cases hj;exact .v rfl
     ·simp at hj
   ·simp at hj
  ·rintro e w' (⟨ch,_,hE⟩|⟨v,ρ',D',rfl,hv,hP⟩)
   ·exact hE.elim
   ·refine⟨by rw[MQ hv],hP.os,hP.tape,hP.output,hP.size,fun k hk=>hP.old k hk fun⟨b,y,h,_⟩=>by cases h⟩
 simp only[List.length_map];refine(P1 ⟨gb,go,none⟩ gs.length gc sb so set.length sc m _ _ w OR).mono ?_;rintro e w' (⟨⟨B,rfl,hB,⟨cs,lV,jG,dq⟩, -, -⟩,hb⟩|hE)
 ·right
  have aj:B<w'.heap.size:=(Array.getElem?_eq_some_iff.1 lV).1
  refine⟨_,fun b=>if b=0 then some (.slice (some ⟨B,0,none⟩) set.length set.length)else none,D,rfl,.s (.own rfl),⟨hb.os,hb.tape,hb.output,hb.size,fun k hk _=>hb.block k hk,fun k hk=>⟨Nat.lt_of_lt_of_le (hD k hk) hb.size,.inl hk⟩,fun b y hy=>?_,fun b y g hy hl hg=>?_,fun b y b' y' g hy hl dc bz _ _=>?_,fun b hb=>by omega,fun b _ hn=>?_⟩⟩
  ·simp only[gt]at hy
   split at hy
   ·rename_i e0
    cases hy;subst e0;refine⟨some ⟨B,0,none⟩,set.length,by simp,by simp,by simp only[maxLen];omega,by omega,fun i y hy=>?_,.inr ⟨B,cs,rfl,lV,by rw[jG,Nat.mul_comm],fun i y hy j r hr=>?_⟩⟩
    ·rw[List.getElem?_map,Option.map_eq_some_iff]at hy
     obtain⟨x,_,rfl⟩:=hy;rfl
    ·rw[List.getElem?_map,Option.map_eq_some_iff]at hy
     obtain⟨x,hx,rfl⟩:=hy;have hi:=(List.getElem?_eq_some_iff.1 hx).1;have hj:j<5:=(List.getElem?_eq_some_iff.1 hr).1
     have hc:=dq i j hi hj;have iG:set.getD i 0=x:=by rw[List.getD_eq_getElem?_getD,hx];rfl
     simp only[iG]at hc;rw[Array.getD_eq_getD_getElem?,show i*5+j=5*i+j by omega,hc]
     rcases j with _|_|_|_|_|j
     ·cases hr;exact .v rfl
     ·cases hr;exact .v rfl
     ·cases hr;exact .v rfl
     ·cases hr;exact .v rfl
     ·cases hr;exact .v rfl
     ·omega
   ·cases hy
  ·simp only[gt]at hy
   split at hy
   ·rename_i e0
    subst e0;simp only[if_true,bo,Option.some.injEq]at hg;subst hg;exact⟨fun hd=>by have:=hD _ hd;omega,.inr hB⟩
   ·cases hy
  ·simp only[gt]at hy dc
   split at hy
   ·split at dc
    ·omega
    ·cases dc
   ·cases hy
  ·simp only[gt]at hn
   split at hn
   ·cases hn
   ·rename_i e0;rw[if_neg e0]
 ·left
  obtain⟨us,rfl,sW⟩:=hE;exact⟨_,rfl,us,rfl,sW⟩
end Go.Proofs.YtjklkppncmhehaaGreat.T
namespace Go.Proofs.YtjklkppncmhehaaGreat.T
open Go Go.RowKit
set_option maxRecDepth 100000
set_option maxHeartbeats 4000000
variable {E:List PanicEntry→World→Prop}
def upto (k:Nat):List Int:=(List.range k).map fun(i:Nat)=>(i:Int)
theorem Jl (k:Nat):upto (k+1)=upto k++[(k:Int)]:=by simp[upto,List.range_succ]
theorem MR (k:Nat):(upto k).length=k:=by simp[upto]
theorem yL:TC Tw.prog E 116 [.eI (.func 55) [] []] 0 [] (gR (bL (upto 5))) []:=by
 refine tE Tryz.f116 Tryz.ntmps116 (by rw[Tryz.results116]) ?_
 (refine TW.go ?_;simp;repeat' first|intro hc|refine aa.mk ?_|refine aI ?_|refine ah ?_ ?_)
 refine tL (fun(k:Nat)=>⟨[(0,.eI (.func 55) [] []),(3,.s (.own 0)),(6,gI .i64 (k:Nat))],[(0,lf (upto k))],1⟩) (fun k=>k≤5) (fun k=>5-k) 0 (by omega)
  (Wk.own [0] [] (by simp) (by simp) (by simp[upto]) (by simp) (by simp)) fun k hk=>?_
 by_cases aj:k<5
 ·have aw:(k:Int)<5:=by omega
  have hg:bw (k:Int)=true:=by simp[bw];omega
  have aF:IntKind.i64.wrap ((k:Int)+1)=(k:Int)+1:=aL (by omega) (by omega)
  have hl:=MR k;(refine TW.go ?_;simp[aw,hg,aF,maxLen];repeat' first|intro hc|refine aa.mk ?_|refine aI ?_|refine ah ?_ ?_|(refine cP ?_;refine⟨_,nE _,?_⟩;simp[aw,hg,aF,maxLen]))
  exact⟨k+1,by omega,by omega,Wk.own [2] [] (by simp) (by simp) (by simp[Jl]) (by simp) (by simp)⟩
 ·obtain rfl:k=5:=by omega
  (refine TW.go ?_;simp;repeat' first|intro hc|refine aa.mk ?_|refine aI ?_|refine ah ?_ ?_)
  exact oW [] [0]
theorem Ch:TC Tw.prog E 168 [] 0 [] (gR (bL (upto 5))) []:=by
 refine tE Tryz.f168 Tryz.ntmps168 (by rw[Tryz.results168]) ?_
 (refine TW.go ?_;simp;repeat' first|intro hc|refine aa.mk ?_|refine aI ?_|refine ah ?_ ?_|(refine cP ?_;refine⟨_,yL,?_⟩;simp))
 exact oW [] []
def GM (a b:az)(m:Int):Bool:=
 !(o_ a m&&(cC a m).f)|| !(o_ b m&&(aU (cC a m).t (cC a m).g (cC b m).t (cC b m).g||(cC b m).f&& !(decide ((cC a m).t=(cC b m).t)&&decide ((cC a m).g=(cC b m).g))))
def GN (gs:List az)(m:Int)(i:Nat):Bool:=bX 5 fun k=>GM (aG gs i) (aG gs k) m
def pa (gs:List az)(m:Int):Bool:=bX 5 (GN gs m)
theorem P2 (gs:List az)(m:Int){k:Nat}(h:k<5):(i9 gs m (upto 5))[k]?=some (fK (aG gs k) m):=by
 rw[List.getElem?_map,upto,List.getElem?_map,List.getElem?_range h];rfl
theorem yM (gs:List az)(m:Int)(h:gw gs 4294967290)(h5:gs.length=5):TC Tw.prog lQ 139 [gR (dD gs),gI .i64 m] 0 [] (gB (pa gs m)) []:=by
 have hE:=sK gs (upto 5) m h h5 (by decide) (by decide) (fun g hg=>by simp[upto,List.range_succ]at hg;omega)
 have xN:(i9 gs m (upto 5)).length=5:=by simp[upto]
 have dC:=fun k h=>P2 gs m (k:=k) h
 generalize i9 gs m (upto 5)=A at*;refine tE Tryz.f139 Tryz.ntmps139 (by rw[Tryz.results139]) ?_
 (refine TW.go ?_;simp[xN];repeat' first|intro hc|refine aa.mk ?_|refine aI ?_|refine ah ?_ ?_|(refine cP ?_;refine⟨_,Ch,?_⟩;simp[xN])|(refine cF [] 1 ?_;refine⟨_,_,hE,?_⟩;simp[xN]))
 refine tL (fun(i:Nat)=>⟨[(5,gR (.sl 5 A)),(14,gR (.sl 5 A)),(15,gI .i64 5),(16,gI .i64 (i:Nat))],[],0⟩) (fun i=>i≤5∧∀j,j<i→GN gs m j=true) (fun i=>5-i) 0 ⟨by omega,fun j hj=>by omega⟩
  (kO [] [0]) fun i hi=>?_
 obtain⟨hi,hf⟩:=hi;by_cases aj:i<5
 ·have aw:(i:Int)<5:=by omega
  have aF:IntKind.i64.wrap ((i:Int)+1)=(i:Int)+1:=aL (by omega) (by omega)
  have nW:=dC i aj;have hq:pa gs m=false∨GN gs m i=true:=by
   cases h:GN gs m i
   ·exact .inl (by simp[pa,bY aj h])
   ·exact .inr rfl
  by_cases qg:(o_ (aG gs i) m&&(cC (aG gs i) m).f)=true
  ·simp only[Bool.and_eq_true]at qg
   obtain⟨f1,f2⟩:=qg;(refine TW.go ?_;simp[aw,nW,f1,f2,fK,aF,xN];repeat' first|intro hc|refine aa.mk ?_|refine aI ?_|refine ah ?_ ?_)
   refine tL (fun(k:Nat)=>⟨[(5,gR (.sl 5 A)),(7,.s (.ptr 0 0)),(14,gR (.sl 5 A)),(15,gI .i64 5),(16,gI .i64 (i:Nat)),(29,gR (.sl 5 A)),(30,gI .i64 5),(31,gI .i64 (k:Nat))],[(0,.box ((fK (aG gs i) m).map .r))],1⟩) (fun k=>k≤5∧∀j,j<k→GM (aG gs i) (aG gs j) m=true) (fun k=>5-k) 0 ⟨by omega,fun j hj=>by omega⟩
    (Wk.own [0] [] (by simp) (by simp) (by simp[fK,f1,f2]) (by simp) (by simp)) fun k hk=>?_
   obtain⟨hk,pK⟩:=hk;by_cases qe:k<5
   ·have SJ:(k:Int)<5:=by omega
    have Fv:IntKind.i64.wrap ((k:Int)+1)=(k:Int)+1:=aL (by omega) (by omega)
    have G8:=dC k qe;have P3:pa gs m=false∨GM (aG gs i) (aG gs k) m=true:=by
     rcases hq with h|h
     ·exact .inl h
     ·exact .inr (by rw[GN,cu]at h;exact h k qe)
    have xC:GM (aG gs i) (aG gs k) m= !(o_ (aG gs k) m&&(aU (cC (aG gs i) m).t (cC (aG gs i) m).g (cC (aG gs k) m).t (cC (aG gs k) m).g||(cC (aG gs k) m).f&& !(decide ((cC (aG gs i) m).t=(cC (aG gs k) m).t)&&decide ((cC (aG gs i) m).g=(cC (aG gs k) m).g)))):=by rw[GM,f1,f2];rfl
    (refine TW.go ?_;simp[SJ,G8,f1,f2,fK,Fv,xN];repeat' first|intro hc|refine aa.mk ?_|refine aI ?_|refine ah ?_ ?_|(refine cP ?_;refine⟨_,lP _ _ _ _,?_⟩;simp[SJ,G8,f1,f2,fK,Fv,xN]))
    all_goals first
     |(refine⟨k+1,⟨by omega,fun j hj=>?_⟩,by omega,Wk.own [0] [] (by simp) (by simp) (by simp[fK,f1,f2]) (by simp) (by simp)⟩
       by_cases e:j=k
       ·subst e;rw[xC];simp_all
       ·exact pK j (by omega))
     |(refine ar.nil (r:=gB (pa gs m)) ?_ rfl
       rcases P3 with P3|P3
       ·simp[P3]
       ·exfalso
        rw[xC]at P3;clear pK hf dC;first|(simp_all;done)|(simp_all;omega))
   ·obtain rfl:k=5:=by omega
    have eJ:GN gs m i=true:=bH pK
    clear pK;(refine TW.go ?_;simp[aF];repeat' first|intro hc|refine aa.mk ?_|refine aI ?_|refine ah ?_ ?_)
    refine⟨i+1,⟨by omega,fun j hj=>?_⟩,by omega,kS⟩
    by_cases e:j=i
    ·subst e;exact eJ
    ·exact hf j (by omega)
  ·have eJ:GN gs m i=true:=bH fun k _=>by rw[GM,Bool.eq_false_iff.2 qg];rfl
   have UT:(o_ (aG gs i) m&&(cC (aG gs i) m).f)=false:=Bool.eq_false_iff.2 qg
   cases f1:o_ (aG gs i) m
   ·(refine TW.go ?_;simp[aw,nW,f1,fK,aF,xN];repeat' first|intro hc|refine aa.mk ?_|refine aI ?_|refine ah ?_ ?_)
    refine⟨i+1,⟨by omega,fun j hj=>?_⟩,by omega,kS⟩
    by_cases e:j=i
    ·subst e;exact eJ
    ·exact hf j (by omega)
   ·have f2:(cC (aG gs i) m).f=false:=by simpa[f1]using UT
    (refine TW.go ?_;simp[aw,nW,f1,f2,fK,aF,xN];repeat' first|intro hc|refine aa.mk ?_|refine aI ?_|refine ah ?_ ?_)
    refine⟨i+1,⟨by omega,fun j hj=>?_⟩,by omega,kS⟩
    by_cases e:j=i
    ·subst e;exact eJ
    ·exact hf j (by omega)
 ·obtain rfl:i=5:=by omega
  have db:pa gs m=true:=bH hf
  rw[db];(refine TW.go ?_;simp;repeat' first|intro hc|refine aa.mk ?_|refine aI ?_|refine ah ?_ ?_)
  exact oW [] []
end Go.Proofs.YtjklkppncmhehaaGreat.T
namespace Go.Proofs.YtjklkppncmhehaaGreat.T
open Go Go.RowKit
set_option maxRecDepth 100000
set_option maxHeartbeats 4000000
variable {E:List PanicEntry→World→Prop}
end Go.Proofs.YtjklkppncmhehaaGreat.T
namespace Go.Proofs.YtjklkppncmhehaaGreat.T
open Go Go.RowKit
set_option maxRecDepth 100000
set_option maxHeartbeats 4000000
variable {E:List PanicEntry→World→Prop}
abbrev PL (xs:List (List Int)):ak:= .rows 24 1 (xs.map fun s=>[bL s])
abbrev PM (rs:List fb):ak:= .rows 43 3 (rs.map aX)
abbrev PN (bs:List Bool):ak:= .rows 4 1 (bs.map fun b=>[rB b])
abbrev Sx (ps:List jU):ak:= .rows 117 5 (ps.map cU)
abbrev wO:GV:= .a [.own 0,.own 1,.own 2,.own 3,.own 4]
abbrev wS (w:aB):List (Nat×ak):=[(0,PL w.aH),(1,nB w.aO),(2,PM w.rounds),(3,PN w.bA),(4,Sx w.bP)]
abbrev gP (p:jU):GV:= .a ((cU p).map .r)
abbrev mF (w:aB):Prop:=cM 4294900000 w
theorem mF.sys {w:aB}(h:mF w):gw w.aO 4294967296:=⟨by have:=h.g5;omega,fun g hg=>by have:=(h.uQ g hg).1;exact⟨by omega,by omega⟩⟩
theorem ew (w:aB)(h:mF w):TC Tw.prog E 173 [gW w] 0 [] wO (wS w):=by
 have PO:=h.Mz;have MD:=h.rl;have kC:=h.sl;have uN:=h.nl;have hlen:w.aH.length≤maxLen:=by simp only[maxLen];omega
 refine tE Tryz.f173 Tryz.ntmps173 (by rw[Tryz.results173]) ?_
 (refine TW.go ?_;simp[wT,maxLen];repeat' first|intro hc|refine aa.mk ?_|refine aI ?_|refine ah ?_ ?_|(refine cF [] 1 ?_;refine⟨_,_,fF w.aO h.sys,?_⟩;simp[wT,maxLen]))
 refine tL (fun(k:Nat)=>⟨[(1,.s (.ptr 0 0)),(2,.s (.ptr 2 0)),(3,.s (.ptr 1 0)),(4,gI .i64 (k:Nat))],[(0,.box ((wT w).map .r)),(1,.box [.own 3,.own 4,.own 5,.own 6,.own 7]),(2,.box [.r .nil,.r .nil,.r .nil,.r .nil,.r .nil]),
   (3,PL (w.aH.take k)),(4,nB w.aO),(5,PM (w.rounds.take k)),(6,PN w.bA),(7,Sx w.bP)],8⟩) (fun k=>k≤w.aH.length) (fun k=>w.aH.length-k) 0 (by omega)
  (Wk.own [0,9,1,2,3,4,6,8] [] (by simp) (by simp) (by simp[wT]) (by simp) (by simp)) fun k hk=>?_
 by_cases aj:k<w.aH.length
 ·have he:w.aH[k]?=some w.aH[k]:=List.getElem?_eq_getElem aj
  have Sy:k<w.rounds.length:=by omega
  have tD:w.rounds[k]?=some w.rounds[k]:=List.getElem?_eq_getElem Sy
  have fg:=h.set _ (List.getElem_mem aj);have Fy:=h.Jb _ (List.getElem_mem Sy);have aw:(k:Int)<(w.aH.length:Int):=by omega
  have aF:=wrap_add aj hlen;have I0:k≤12:=by omega
  generalize w.aH[k]=S at he fg;generalize w.rounds[k]=r at tD Fy;obtain⟨-,Z8, -⟩:=fg;have hr:qU r 4294967296:=⟨by have:=Fy.2.1;omega,by have:=Fy.2.2;omega⟩
  have GY:(List.take k (w.aH.map fun s=>[bL s])).length≤12:=by simp;omega
  have htr:(List.take k (w.rounds.map aX)).length≤12:=by simp;omega
  (refine TW.go ?_;simp[aw,he,tD,wT,aX,aF,maxLen];repeat' first|intro hc|refine aa.mk ?_|refine aI ?_|refine ah ?_ ?_|(refine cF [] 2 ?_;refine⟨_,_,xA r hr,?_⟩;simp[aw,he,tD,wT,aX,aF,maxLen]))
  exact⟨k+1,by omega,by omega,Wk.own [0,1,2,11,4,15,6,7] [] (by simp) (by simp) (by simp[wT,kU he,kU tD,aX]) (by simp) (by simp)⟩
 ·obtain rfl:k=w.aH.length:=by omega
  (refine TW.go ?_;simp[wT];repeat' first|intro hc|refine aa.mk ?_|refine aI ?_|refine ah ?_ ?_)
  refine ar.own [3,4,5,6,7] [] (by simp;rfl) (by simp[←MD]) (by simp) (by simp) (by simp[←MD]) (by simp)
theorem nC (w:aB)(p:jU)(h:w.bP.length≤16):TC Tw.prog E 201 [gW w,gP p] 0 [] (gW (ef w p)) []:=by
 refine tE Tryz.f201 Tryz.ntmps201 (by rw[Tryz.results201]) ?_
 by_cases hl:w.bP.length<16
 ·have bz:(w.bP.length:Int)<16:=by omega
  rw[ef,if_pos hl];(refine TW.go ?_;simp[wT,cU,bz,maxLen];repeat' first|intro hc|refine aa.mk ?_|refine aI ?_|refine ah ?_ ?_)
  refine ar.own [] [6] (by simp;rfl) (by simp[wT,cU]) (by simp) (by simp) (by simp[wT,cU]) (by simp)
 ·have bz:¬(w.bP.length:Int)<16:=by omega
  rw[ef,if_neg hl];(refine TW.go ?_;simp[wT,cU,bz];repeat' first|intro hc|refine aa.mk ?_|refine aI ?_|refine ah ?_ ?_)
  refine ar.own [] [] (by simp;rfl) (by simp[wT]) (by simp) (by simp) (by simp[wT]) (by simp)
theorem qV (f:Int→jU):∀(gs:List Int) (w:aB),w.bP.length≤16→(gs.foldl (fun w g=>ef w (f g)) w).bP.length≤16
 |[],w,h=>h
 |g::gs,w,h=>qV f gs _ (by show(ef w (f g)).bP.length≤16;unfold ef;split;(simp;omega);exact h)
theorem zz (w:aB)(m:Int)(gs:List Int)(h:w.bP.length≤16):TC Tw.prog E 176 [gW w,gI .i64 m,gR (bL gs)] 0 [] (gW (jw w m gs)) []:=by
 refine tE Tryz.f176 Tryz.ntmps176 (by rw[Tryz.results176]) ?_
 refine TW.len 2 rfl fun hlen=>?_;simp only[List.length_map]at hlen;(refine TW.go ?_;simp;repeat' first|intro hc|refine aa.mk ?_|refine aI ?_|refine ah ?_ ?_)
 refine tL (fun(k:Nat)=>⟨[(1,gI .i64 m),(2,gR (bL gs)),(3,.s (.ptr 0 0)),(6,.s (.ptr 1 0)),(7,gI .i64 (k:Nat))],[(0,.box ((wT (jw w m (gs.take k))).map .r)),(1,.box [.r .nil,.r .nil,.r .nil,.r .nil,.r .nil])],2⟩) (fun k=>k≤gs.length) (fun k=>gs.length-k) 0 (by omega)
  (Wk.own [0,1] [] (by simp) (by simp) (by simp[wT,jw]) (by simp) (by simp)) fun k hk=>?_
 by_cases aj:k<gs.length
 ·have he:gs[k]?=some gs[k]:=List.getElem?_eq_getElem aj
  have aw:(k:Int)<(gs.length:Int):=by omega
  have aF:=wrap_add aj hlen;generalize gs[k]=x at he;have iH:jw w m (gs.take (k+1))=ef (jw w m (gs.take k)) ⟨1,m,x,0,0⟩:=fT _ _ he
  have hn:(jw w m (gs.take k)).bP.length≤16:=qV (fun g=>⟨1,m,g,0,0⟩) _ _ h
  generalize jw w m (gs.take k)=v at*;(refine TW.go ?_;simp[aw,he,wT,aF];repeat' first|intro hc|refine aa.mk ?_|refine aI ?_|refine ah ?_ ?_|(refine cP ?_;refine⟨_,nC v ⟨1,m,x,0,0⟩ hn,?_⟩;simp[aw,he,wT,aF]))
  exact⟨k+1,by omega,by omega,Wk.own [0,1] [] (by simp) (by simp) (by simp[iH,wT]) (by simp) (by simp)⟩
 ·obtain rfl:k=gs.length:=by omega
  rw[List.take_length];(refine TW.go ?_;simp[wT];repeat' first|intro hc|refine aa.mk ?_|refine aI ?_|refine ah ?_ ?_)
  refine ar.own [] [] (by simp;rfl) (by simp[wT]) (by simp) (by simp) (by simp[wT]) (by simp)
theorem xD {n:Nat}(w:aB)(m:Int)(h:cM n w)(h0:0≤m)(U:m<w.aH.length):TC Tw.prog E 203 [gW w,gI .i64 m] 0 [] (gW (oT w m)) []:=by
 have aaZ:=h.Mz;have MD:=h.rl;have hm:m.toNat<w.rounds.length:=by omega
 have tF:m.toNat<w.aH.length:=by omega
 have tD:w.rounds[m.toNat]?=some (cn w m):=by rw[cn,List.getD_eq_getElem?_getD,List.getElem?_eq_getElem hm];rfl
 have cE:w.aH[m.toNat]?=some (setAt w m):=by rw[setAt,List.getD_eq_getElem?_getD,List.getElem?_eq_getElem tF];rfl
 obtain⟨-,Z8, -⟩:=pt h h0 U;have Fy:=kt h h0 U;have hlen:(setAt w m).length≤maxLen:=by simp only[maxLen];omega
 rw[oT];generalize cn w m=r at*;refine tE Tryz.f203 Tryz.ntmps203 (by rw[Tryz.results203]) ?_
 cases hb:(jL r).2
 ·rw[if_neg (by simp)]
  (refine TW.go ?_;simp[h0,tD,wT,aX,hb];repeat' first|intro hc|refine aa.mk ?_|refine aI ?_|refine ah ?_ ?_|(refine cP ?_;refine⟨_,uA r Fy.1,?_⟩;simp[h0,tD,wT,aX,hb]))
  refine tL (fun(_:Unit)=>⟨[(1,gI .i64 m),(2,.s (.ptr 0 0)),(4,.s (.ptr 1 0)),(6,gB false),(7,gI .i64 0)],[(0,.box ((wT w).map .r)),(1,.box [.r .nil,.r .nil,.r .nil,.r .nil,.r .nil])],2⟩) (fun _=>True) (fun _=>0) () trivial
   (Wk.own [0,1] [] (by simp) (by simp) (by simp[wT]) (by simp) (by simp)) fun _ _=>?_
  (refine TW.go ?_;simp[h0,cE,wT];repeat' first|intro hc|refine aa.mk ?_|refine aI ?_|refine ah ?_ ?_)
  all_goals refine ar.own [] [] (by simp;rfl) (by simp[wT]) (by simp) (by simp) (by simp[wT]) (by simp)
 ·rw[if_pos rfl]
  generalize hs:(jL r).1=s;(refine TW.go ?_;simp[h0,tD,wT,aX,hb,hs];repeat' first|intro hc|refine aa.mk ?_|refine aI ?_|refine ah ?_ ?_|(refine cP ?_;refine⟨_,uA r Fy.1,?_⟩;simp[h0,tD,wT,aX,hb,hs]))
  generalize hS:setAt w m=S at*;refine tL (fun(k:Nat)=>⟨[(1,gI .i64 m),(2,.s (.ptr 0 0)),(4,.s (.ptr 1 0)),(5,.s (.ptr 2 0)),(6,gB true),(7,gI .i64 (k:Nat))],[(0,.box ((wT (oS w m s (S.take k))).map .r)),(1,.box [.r .nil,.r .nil,.r .nil,.r .nil,.r .nil]),(2,.box [.r (rI s.1),.r (rI s.2)])],3⟩) (fun k=>k≤S.length) (fun k=>S.length-k) 0 (by omega)
   (Wk.own [0,1,2] [] (by simp) (by simp) (by simp[wT,oS]) (by simp) (by simp)) fun k hk=>?_
  have GY:(oS w m s (S.take k)).aH=w.aH:=lN (fun g=>⟨3,m,g,s.1,s.2⟩) _ _
  by_cases aj:k<S.length
  ·have he:S[k]?=some S[k]:=List.getElem?_eq_getElem aj
   have aw:(k:Int)<(S.length:Int):=by omega
   have aF:=wrap_add aj hlen;generalize S[k]=x at he;have iH:oS w m s (S.take (k+1))=ef (oS w m s (S.take k)) ⟨3,m,x,s.1,s.2⟩:=fT _ _ he
   have hn:(oS w m s (S.take k)).bP.length≤16:=qV (fun g=>⟨3,m,g,s.1,s.2⟩) _ _ h.nl
   generalize oS w m s (S.take k)=v at*;rw[←GY]at cE;(refine TW.go ?_;simp[aw,h0,cE,he,wT,aF];repeat' first|intro hc|refine aa.mk ?_|refine aI ?_|refine ah ?_ ?_|(refine cP ?_;refine⟨_,nC v ⟨3,m,x,s.1,s.2⟩ hn,?_⟩;simp[aw,h0,cE,he,wT,aF]))
   exact⟨k+1,by omega,by omega,Wk.own [0,1,2] [] (by simp) (by simp) (by simp[iH,wT]) (by simp) (by simp)⟩
  ·obtain rfl:k=S.length:=by omega
   rw[List.take_length]at*;rw[←GY]at cE;(refine TW.go ?_;simp[h0,cE,wT];repeat' first|intro hc|refine aa.mk ?_|refine aI ?_|refine ah ?_ ?_)
   refine ar.own [] [] (by simp;rfl) (by simp[wT]) (by simp) (by simp) (by simp[wT]) (by simp)
theorem Jd (n:Int)(h0:0≤n)(U:n≤31):TC Tw.prog E 174 [gI .i64 n] 0 [] (gR (bL (iZ n))) []:=by
 refine tE Tryz.f174 Tryz.ntmps174 (by rw[Tryz.results174]) ?_
 (refine TW.go ?_;simp;repeat' first|intro hc|refine aa.mk ?_|refine aI ?_|refine ah ?_ ?_)
 refine tL (fun(p:Nat×Int×List Int)=>⟨[(0,gI .i64 p.2.1),(3,.s (.own 0)),(4,gI .i64 (p.1:Nat))],[(0,lf p.2.2)],1⟩) (fun p=>p.1≤5∧p.2.2.length≤p.1∧0≤p.2.1∧p.2.1≤31∧p.2.2++nz p.2.1 (5-p.1) (p.1:Nat)=iZ n) (fun p=>5-p.1) (0,n,[]) ⟨by simp,by simp,h0,U,rfl⟩
  (kO [0] []) fun p hp=>?_
 obtain⟨k,n',out⟩:=p;obtain⟨hk,hl,q0,q1,hq⟩:=hp;simp only at hk hl q0 q1 hq⊢
 by_cases aj:k<5
 ·have aw:(k:Int)<5:=by omega
  have aF:IntKind.i64.wrap ((k:Int)+1)=(k:Int)+1:=aL (by omega) (by omega)
  have ht:n'.tdiv 2=n' / 2:=Int.tdiv_eq_ediv_of_nonneg q0
  have rv:IntKind.i64.wrap (n'.tdiv 2)=n'.tdiv 2:=aL (by rw[ht];omega) (by rw[ht];omega)
  rw[show 5-k=(5-(k+1))+1 by omega,nz]at hq
  by_cases hb:n'.tmod 2=1
  ·rw[if_pos hb]at hq
   (refine TW.go ?_;simp[aw,aF,rv,hb,maxLen];repeat' first|intro hc|refine aa.mk ?_|refine aI ?_|refine ah ?_ ?_)
   exact⟨(k+1,n'.tdiv 2,out++[(k:Int)]),⟨by simp only;omega,by simp;omega,by simp only[ht];omega,by simp only[ht];omega,by simpa using hq⟩,by simp only;omega,kO [2] []⟩
  ·rw[if_neg hb]at hq
   (refine TW.go ?_;simp[aw,aF,rv,hb,maxLen];repeat' first|intro hc|refine aa.mk ?_|refine aI ?_|refine ah ?_ ?_)
   exact⟨(k+1,n'.tdiv 2,out),⟨by simp only;omega,by simp only;omega,by simp only[ht];omega,by simp only[ht];omega,by simpa using hq⟩,by simp only;omega,kO [0] []⟩
 ·obtain rfl:k=5:=by omega
  simp only[Nat.sub_self,nz,List.append_nil]at hq;subst hq;(refine TW.go ?_;simp;repeat' first|intro hc|refine aa.mk ?_|refine aI ?_|refine ah ?_ ?_)
  exact oW [] [0]
end Go.Proofs.YtjklkppncmhehaaGreat.T
namespace Go.Proofs.YtjklkppncmhehaaGreat.T
open Go Go.RowKit
set_option maxRecDepth 100000
set_option maxHeartbeats 4000000
variable {E:List PanicEntry→World→Prop}
theorem mF.Sz {w:aB}(h:mF w){m:Int}(h0:0≤m)(U:m<w.aH.length):qU (cn w m) 4294967290:=by
 have:=kt h h0 U
 exact⟨by have:=this.2.1;omega,by have:=this.2.2;omega⟩
theorem zA {w:aB}(h:mF w){m:Int}(h0:0≤m)(U:m<w.aH.length):w.rounds[m.toNat]?=some (cn w m):=by
 have:=h.rl
 rw[cn,List.getD_eq_getElem?_getD,List.getElem?_eq_getElem (by omega)]
 rfl
theorem MG {w:aB}{m:Int}(h0:0≤m)(U:m<w.aH.length):w.aH[m.toNat]?=some (setAt w m):=by
 rw[setAt,List.getD_eq_getElem?_getD,List.getElem?_eq_getElem (by omega)]
 rfl
theorem xE {w:aB}(h:mF w){m:Int}(h0:0≤m)(U:m<w.aH.length):w.bA[m.toNat]?=some (pr w m):=by
 have:=h.sl
 rw[pr,List.getD_eq_getElem?_getD,List.getElem?_eq_getElem (by omega)]
 rfl
theorem pL (r:fb)(h:qU r 4294967296):TC Tw.prog E 204 [.a ((aX r).map .r)] 0 [] (gR (bL (fI r))) []:=by
 obtain⟨RV,hl⟩:=h;have hlen:r.bm.length≤maxLen:=by simp only[maxLen];omega
 have UN:r.gs.length≤maxLen:=by simp only[maxLen];omega
 refine tE Tryz.f204 Tryz.ntmps204 (by rw[Tryz.results204]) ?_
 cases hv:oQ r
 ·rw[show fI r=[] by rw[fI,hv];rfl]
  (refine TW.go ?_;simp[aX,hv];repeat' first|intro hc|refine aa.mk ?_|refine aI ?_|refine ah ?_ ?_|(refine cP ?_;refine⟨_,lO r ⟨RV,hl⟩,?_⟩;simp[aX,hv]))
  exact oW [] [1]
 ·rw[show fI r=r.gs.filter fun g=> !oR r g by rw[fI,hv];rfl]
  (refine TW.go ?_;simp[aX,hv];repeat' first|intro hc|refine aa.mk ?_|refine aI ?_|refine ah ?_ ?_|(refine cP ?_;refine⟨_,lO r ⟨RV,hl⟩,?_⟩;simp[aX,hv]))
  refine tL (fun(k:Nat)=>⟨[(1,.s (.ptr 0 0)),(3,.s (.own 1)),(4,gI .i64 (k:Nat))],[(0,.box ((aX r).map .r)),(1,lf ((r.gs.take k).filter fun g=> !oR r g))],2⟩) (fun k=>k≤r.gs.length) (fun k=>r.gs.length-k) 0 (by omega)
   (Wk.own [0,1] [] (by simp) (by simp) (by simp[aX]) (by simp) (by simp)) fun k hk=>?_
  by_cases aj:k<r.gs.length
  ·have he:r.gs[k]?=some r.gs[k]:=List.getElem?_eq_getElem aj
   have aw:(k:Int)<(r.gs.length:Int):=by omega
   have aF:=wrap_add aj UN;generalize r.gs[k]=x at he;have hfl:((r.gs.take k).filter fun g=> !oR r g).length≤4294967296:=Nat.le_trans (List.length_filter_le _ _) (by simp;omega)
   have iH:(r.gs.take (k+1)).filter (fun g=> !oR r g)=(r.gs.take k).filter (fun g=> !oR r g)++if oR r x=true then[]else[x]:=by
    rw[List.take_add_one,he,List.filter_append]
    cases h:oR r x<;>simp[h]
   generalize(r.gs.take k).filter (fun g=> !oR r g)=out at*
   (refine TW.go ?_;simp[aw,aX];repeat' first|intro hc|refine aa.mk ?_|refine aI ?_|refine ah ?_ ?_)
   refine tL (fun(j:Nat)=>⟨[(1,.s (.ptr 0 0)),(3,.s (.own 1)),(4,gI .i64 (k:Nat)),(5,gB ((r.bm.take j).any fun s=>decide (s.2=x))),(6,gI .i64 (j:Nat))],[(0,.box ((aX r).map .r)),(1,lf out)],2⟩) (fun j=>j≤r.bm.length) (fun j=>r.bm.length-j) 0 (by omega)
    (Wk.own [0,1] [] (by simp) (by simp) (by simp[aX]) (by simp) (by simp)) fun j hj=>?_
   by_cases SA:j<r.bm.length
   ·have RX:r.bm[j]?=some r.bm[j]:=List.getElem?_eq_getElem SA
    have SB:(j:Int)<(r.bm.length:Int):=by omega
    have MC:=wrap_add SA hlen;generalize r.bm[j]=y at RX;have Xl:((r.bm.take (j+1)).any fun s=>decide (s.2=x))=((r.bm.take j).any (fun s=>decide (s.2=x))||decide (y.2=x)):=by
     rw[List.take_add_one,RX,List.any_append];simp
    generalize(r.bm.take j).any (fun s=>decide (s.2=x))=f at*
    cases f
    ·(refine TW.go ?_;simp[SB,aw,he,RX,MC,aX,iC];repeat' first|intro hc|refine aa.mk ?_|refine aI ?_|refine ah ?_ ?_)
     exact⟨j+1,by omega,by omega,Wk.own [0,1] [] (by simp) (by simp[Xl]) (by simp[aX]) (by simp) (by simp)⟩
    ·(refine TW.go ?_;simp[SB,aw,he,RX,MC,aX,iC];repeat' first|intro hc|refine aa.mk ?_|refine aI ?_|refine ah ?_ ?_)
     exact⟨j+1,by omega,by omega,Wk.own [0,1] [] (by simp) (by simp[Xl]) (by simp[aX]) (by simp) (by simp)⟩
   ·obtain rfl:j=r.bm.length:=by omega
    rw[List.take_length,show(r.bm.any fun s=>decide (s.2=x))=oR r x from rfl]
    cases ha:oR r x
    ·rw[ha]at iH
     (refine TW.go ?_;simp[aw,he,aF,aX,maxLen];repeat' first|intro hc|refine aa.mk ?_|refine aI ?_|refine ah ?_ ?_)
     exact⟨k+1,by omega,by omega,Wk.own [0,3] [] (by simp) (by simp) (by simp[aX,iH]) (by simp) (by simp)⟩
    ·rw[ha]at iH
     (refine TW.go ?_;simp[aw,he,aF,aX,maxLen];repeat' first|intro hc|refine aa.mk ?_|refine aI ?_|refine ah ?_ ?_)
     exact⟨k+1,by omega,by omega,Wk.own [0,1] [] (by simp) (by simp) (by simp[aX,iH]) (by simp) (by simp)⟩
  ·obtain rfl:k=r.gs.length:=by omega
   rw[List.take_length];(refine TW.go ?_;simp[aX];repeat' first|intro hc|refine aa.mk ?_|refine aI ?_|refine ah ?_ ?_)
   exact oW [] [1]
theorem xF (w:aB)(n:Int)(h:mF w):TC Tw.prog E 149 [gW w,gI .i64 n] 0 [] (gW (k_ w n)) []:=by
 have PO:=h.Mz;have MD:=h.rl;have kC:=h.sl;have uN:=h.nl;refine tE Tryz.f149 Tryz.ntmps149 (by rw[Tryz.results149]) ?_
 by_cases hn:1≤n∧n≤31
 ·by_cases hl:w.aH.length<12
  ·have bz:¬12≤(w.aH.length:Int):=by omega
   obtain⟨b1,b2⟩:=Gw hn.1 hn.2;have tF:bC (w.aH.length:Int)=true:=by simp[bC];omega
   have hB:=Jd (E:=E) n (by omega) hn.2
   have hA:=zz (E:=E) ⟨w.aH++[iZ n],w.aO,w.rounds++[⟨w.aH.length,iZ n,[]⟩],w.bA++[false],w.bP⟩ w.aH.length (iZ n) uN;rw[k_,if_pos ⟨hn.1,hn.2,hl⟩];generalize iZ n=S at*;generalize jw ⟨w.aH++[S],w.aO,w.rounds++[⟨w.aH.length,S,[]⟩],w.bA++[false],w.bP⟩ w.aH.length S=v at*;simp[gW,wT,I9,I_,PC,aX]at hA;have hR:=uR (E:=E) (w.aH.length:Int) S tF b1 (by have:=b2.2.1;omega)
   (refine TW.go ?_;simp[wT,hn,bz,tF,maxLen];repeat' first|intro hc|refine aa.mk ?_|refine aI ?_|refine ah ?_ ?_|(refine cP ?_;(first|refine⟨_,dh _ _ _,?_⟩|refine⟨_,hB,?_⟩);simp[wT,hn,bz,tF,maxLen])|(refine cF [] 5 ?_;refine⟨_,_,ew w h,?_⟩;simp[wT,hn,bz,tF,maxLen])|(refine cF [] 2 ?_;refine⟨_,_,hR,?_⟩;simp[wT,hn,bz,tF,maxLen])|(refine cF [11,3,13,15,6] 0 ?_;refine⟨_,_,hA,?_⟩;simp[wT,hn,bz,tF,maxLen]))
   refine ar.own [] [] (by simp;rfl) (by simp[wT]) (by simp) (by simp) (by simp[wT]) (by simp)
  ·have bz:12≤(w.aH.length:Int):=by omega
   rw[k_,if_neg (by omega)]
   (refine TW.go ?_;simp[wT,hn,bz];repeat' first|intro hc|refine aa.mk ?_|refine aI ?_|refine ah ?_ ?_|(refine cP ?_;refine⟨_,dh _ _ _,?_⟩;simp[wT,hn,bz]))
   refine ar.own [] [] (by simp;rfl) (by simp[wT]) (by simp) (by simp) (by simp[wT]) (by simp)
 ·rw[k_,if_neg (by omega)]
  (refine TW.go ?_;simp[wT,hn];repeat' first|intro hc|refine aa.mk ?_|refine aI ?_|refine ah ?_ ?_|(refine cP ?_;refine⟨_,dh _ _ _,?_⟩;simp[wT,hn]))
  refine ar.own [] [] (by simp;rfl) (by simp[wT]) (by simp) (by simp) (by simp[wT]) (by simp)
end Go.Proofs.YtjklkppncmhehaaGreat.T
namespace Go.Proofs.YtjklkppncmhehaaGreat.T
open Go Go.RowKit
set_option maxRecDepth 100000
set_option maxHeartbeats 4000000
variable {E:List PanicEntry→World→Prop}
theorem Je (w:aB)(p:jU)(h:mF w)(hp:tB w p):TC Tw.prog E 202 [gW w,gP p] 0 [] (gW (tA w p)) []:=by
 obtain⟨h0,U,h2,h3⟩:=hp;have hg5:=h.g5;have MD:=h.rl;have kC:=h.sl;have hG:=fU (gs:=w.aO) (i:=p.g.toNat) (by omega)
 have RY:=h.uQ _ (List.mem_of_getElem? hG);have hR:=zA h h0 U;have hS:=xE h h0 U;have PQ:=h.Sz h0 U;refine tE Tryz.f202 Tryz.ntmps202 (by rw[Tryz.results202]) ?_
 unfold tA;by_cases k1:p.k=1
 ·rw[if_pos k1]
  generalize aG w.aO p.g.toNat=G at*;have RZ:fE G 4294967290:=by have:=RY.1;exact⟨by omega,by omega⟩
  cases hb:(aM G p.m).2.2
  ·rw[if_neg (by simp)]
   (refine TW.go ?_;simp[wT,cU,ai,k1,h2,hG,hb];repeat' first|intro hc|refine aa.mk ?_|refine aI ?_|refine ah ?_ ?_|(refine cF [] 5 ?_;refine⟨_,_,ew w h,?_⟩;simp[wT,cU,ai,k1,h2,hG,hb])|(refine cF [] 2 ?_;refine⟨_,_,jh G p.m RZ RY.2,?_⟩;simp[wT,cU,ai,k1,h2,hG,hb]))
   refine ar.own [] [3,4,5,6,7] (by simp;rfl) (by simp[wT,ai]) (by simp) (by simp) (by simp[wT,ai]) (by simp)
  ·rw[if_pos rfl]
   have hP:=nC (E:=E) ⟨w.aH,w.aO.set p.g.toNat (aM G p.m).1,w.rounds,w.bA,w.bP⟩ ⟨2,p.m,p.g,(aM G p.m).2.1.1,(aM G p.m).2.1.2⟩ h.nl;generalize ef ⟨w.aH,w.aO.set p.g.toNat (aM G p.m).1,w.rounds,w.bA,w.bP⟩ ⟨2,p.m,p.g,(aM G p.m).2.1.1,(aM G p.m).2.1.2⟩=v at*;simp[gW,wT,dD,ai]at hP;(refine TW.go ?_;simp[wT,cU,ai,k1,h2,hG,hb];repeat' first|intro hc|refine aa.mk ?_|refine aI ?_|refine ah ?_ ?_|(refine cF [] 5 ?_;refine⟨_,_,ew w h,?_⟩;simp[wT,cU,ai,k1,h2,hG,hb])|(refine cF [] 2 ?_;refine⟨_,_,jh G p.m RZ RY.2,?_⟩;simp[wT,cU,ai,k1,h2,hG,hb])|(refine cF [3,4,5,6,7] 0 ?_;refine⟨_,_,hP,?_⟩;simp[wT,cU,ai,k1,h2,hG,hb]))
   refine ar.own [] [] (by simp;rfl) (by simp[wT]) (by simp) (by simp) (by simp[wT]) (by simp)
 ·rw[if_neg k1]
  by_cases k2:p.k=2
  ·rw[if_pos k2]
   cases bj:pr w p.m
   ·rw[if_neg (by simp)]
    generalize Z9:cn w p.m=r at*
    cases hb:(mC r p.t p.s).2
    ·rw[if_neg (by simp)]
     (refine TW.go ?_;simp[wT,cU,aX,k2,h0,hS,bj,hR,hb];repeat' first|intro hc|refine aa.mk ?_|refine aI ?_|refine ah ?_ ?_|(refine cF [] 5 ?_;refine⟨_,_,ew w h,?_⟩;simp[wT,cU,aX,k2,h0,hS,bj,hR,hb])|(refine cF [] 2 ?_;refine⟨_,_,zy r p.t p.s PQ,?_⟩;simp[wT,cU,aX,k2,h0,hS,bj,hR,hb]))
     refine ar.own [] [3,4,5,6,7] (by simp;rfl) (by simp[wT,aX]) (by simp) (by simp) (by simp[wT,aX]) (by simp)
    ·rw[if_pos rfl]
     have Ki:=kt h h0 U;rw[Z9]at Ki;have hT:=xD (E:=E) ⟨w.aH,w.aO,w.rounds.set p.m.toNat (mC r p.t p.s).1,w.bA,w.bP⟩ p.m ((h.mono (Nat.le_succ _)).B7 p.m.toNat (Jc p.t p.s Ki)) h0 U;generalize oT ⟨w.aH,w.aO,w.rounds.set p.m.toNat (mC r p.t p.s).1,w.bA,w.bP⟩ p.m=v at*;simp[gW,wT,I_,aX]at hT;(refine TW.go ?_;simp[wT,cU,aX,k2,h0,hS,bj,hR,hb];repeat' first|intro hc|refine aa.mk ?_|refine aI ?_|refine ah ?_ ?_|(refine cF [] 5 ?_;refine⟨_,_,ew w h,?_⟩;simp[wT,cU,aX,k2,h0,hS,bj,hR,hb])|(refine cF [] 2 ?_;refine⟨_,_,zy r p.t p.s PQ,?_⟩;simp[wT,cU,aX,k2,h0,hS,bj,hR,hb])|(refine cF [3,4,5,6,7] 0 ?_;refine⟨_,_,hT,?_⟩;simp[wT,cU,aX,k2,h0,hS,bj,hR,hb]))
     refine ar.own [] [] (by simp;rfl) (by simp[wT]) (by simp) (by simp) (by simp[wT]) (by simp)
   ·rw[if_pos rfl]
    (refine TW.go ?_;simp[wT,cU,k2,h0,hS,bj];repeat' first|intro hc|refine aa.mk ?_|refine aI ?_|refine ah ?_ ?_|(refine cF [] 5 ?_;refine⟨_,_,ew w h,?_⟩;simp[wT,cU,k2,h0,hS,bj]))
    refine ar.own [] [3,4,5,6,7] (by simp;rfl) (by simp[wT]) (by simp) (by simp) (by simp[wT]) (by simp)
  ·rw[if_neg k2]
   by_cases k3:p.k=3
   ·rw[if_pos k3]
    generalize aG w.aO p.g.toNat=G at*;have RZ:=RY.mono (n':=4294967290) (by omega)
    (refine TW.go ?_;simp[wT,cU,ai,k3,h2,hG];repeat' first|intro hc|refine aa.mk ?_|refine aI ?_|refine ah ?_ ?_|(refine cF [] 5 ?_;refine⟨_,_,ew w h,?_⟩;simp[wT,cU,ai,k3,h2,hG])|(refine cF [] 3 ?_;refine⟨_,_,oX G p.m p.t p.s RZ,?_⟩;simp[wT,cU,ai,k3,h2,hG]))
    refine ar.own [] [3,4,5,6,7] (by simp;rfl) (by simp[wT,ai]) (by simp) (by simp) (by simp[wT,ai]) (by simp)
   ·rw[if_neg k3]
    (refine TW.go ?_;simp[wT,cU,k1,k2,k3];repeat' first|intro hc|refine aa.mk ?_|refine aI ?_|refine ah ?_ ?_|(refine cF [] 5 ?_;refine⟨_,_,ew w h,?_⟩;simp[wT,cU,k1,k2,k3]))
    refine ar.own [] [3,4,5,6,7] (by simp;rfl) (by simp[wT]) (by simp) (by simp) (by simp[wT]) (by simp)
abbrev gE (k a:Int):GV:= .a [.r (rI k),.r (rI a)]
theorem tG (w:aB)(k a:Int)(h:mF w):TC Tw.prog E 177 [gW w,gE k a] 0 [] (gW (Gv w k a)) []:=by
 have uN:=h.nl;have hw:IntKind.i64.wrap ((w.bP.length:Int)-1)=(w.bP.length:Int)-1:=aL (by omega) (by omega)
 refine tE Tryz.f177 Tryz.ntmps177 (by rw[Tryz.results177]) ?_
 unfold Gv;by_cases ha:a<0
 ·rw[if_pos ha]
  have Xm:¬0≤a:=by omega
  (refine TW.go ?_;simp[wT,hw,Xm];repeat' first|intro hc|refine aa.mk ?_|refine aI ?_|refine ah ?_ ?_|(refine cP ?_;refine⟨_,dh _ _ _,?_⟩;simp[wT,hw,Xm]))
  refine ar.own [] [] (by simp;rfl) (by simp[wT]) (by simp) (by simp) (by simp[wT]) (by simp)
 ·rw[if_neg ha]
  have ep:0≤a:=by omega
  rcases hn:w.bP[a.toNat]? with _|p
  ·have vR:=List.getElem?_eq_none_iff.1 hn
   have c7:¬a≤(w.bP.length:Int)-1:=by omega
   have PR:¬a<(w.bP.length:Int):=by omega
   (refine TW.go ?_;simp[wT,hw,ep,c7,PR];repeat' first|intro hc|refine aa.mk ?_|refine aI ?_|refine ah ?_ ?_|(refine cP ?_;refine⟨_,dh _ _ _,?_⟩;simp[wT,hw,ep,c7,PR]))
   refine ar.own [] [] (by simp;rfl) (by simp[wT]) (by simp) (by simp) (by simp[wT]) (by simp)
  ·have aj:=(List.getElem?_eq_some_iff.1 hn).1
   have c7:a≤(w.bP.length:Int)-1:=by omega
   have PR:a<(w.bP.length:Int):=by omega
   have Z_:=h.bP p (List.mem_of_getElem? hn);simp only
   by_cases k4:k=4
   ·rw[if_pos k4]
    (refine TW.go ?_;simp[wT,cU,hw,ep,c7,hn,k4];repeat' first|intro hc|refine aa.mk ?_|refine aI ?_|refine ah ?_ ?_|(refine cP ?_;(first|refine⟨_,dh _ _ _,?_⟩|refine⟨_,nC w p uN,?_⟩);simp[wT,cU,hw,ep,c7,hn,k4]))
    refine ar.own [] [] (by simp;rfl) (by simp[wT]) (by simp) (by simp) (by simp[wT]) (by simp)
   ·rw[if_neg k4]
    have PS:IntKind.i64.wrap (a+1)=a+1:=aL (by omega) (by omega)
    have PT:(a+1).toNat=a.toNat+1:=by omega
    have mE:0≤a+1:=by omega
    have tD:=List.eraseIdx_eq_take_drop_succ w.bP a.toNat;have hH:=Je (E:=E) ⟨w.aH,w.aO,w.rounds,w.bA,w.bP.eraseIdx a.toNat⟩ p (h.erase _) Z_;by_cases k2:k=2
    ·rw[if_pos k2]
     generalize tA ⟨w.aH,w.aO,w.rounds,w.bA,w.bP.eraseIdx a.toNat⟩ p=v at*;simp[gW,wT,Ss,tD]at hH;(refine TW.go ?_;simp[wT,cU,hw,ep,mE,c7,hn,k2,PS,PT,maxLen];repeat' first|intro hc|refine aa.mk ?_|refine aI ?_|refine ah ?_ ?_|(refine cP ?_;refine⟨_,dh _ _ _,?_⟩;simp[wT,cU,hw,ep,mE,c7,hn,k2,PS,PT,maxLen])|(refine cF [6] 0 ?_;refine⟨_,_,hH,?_⟩;simp[wT,cU,hw,ep,mE,c7,hn,k2,PS,PT,maxLen]))
     refine ar.own [] [] (by simp;rfl) (by simp[wT]) (by simp) (by simp) (by simp[wT]) (by simp)
    ·rw[if_neg k2]
     (refine TW.go ?_;simp[wT,cU,hw,ep,mE,c7,hn,k4,k2,PS,PT,maxLen];repeat' first|intro hc|refine aa.mk ?_|refine aI ?_|refine ah ?_ ?_|(refine cP ?_;refine⟨_,dh _ _ _,?_⟩;simp[wT,cU,hw,ep,mE,c7,hn,k4,k2,PS,PT,maxLen]))
     refine ar.own [] [6] (by simp;rfl) (by simp[wT,tD]) (by simp) (by simp) (by simp[wT,tD]) (by simp)
theorem PU {w:aB}{n:Nat}(h:cM n w){a:Int}(ep:0≤a)(mE:a<w.aH.length):cM n (jw w a (fI (cn w a)))∧(jw w a (fI (cn w a))).aH=w.aH:=by
 refine⟨cM.xz (fun g=>⟨1,a,g,0,0⟩) _ w h fun g hg=>?_,lN _ _ _⟩
 unfold fI at hg;split at hg
 ·rename_i hb
  have hg:=(List.mem_filter.1 hg).1;simp only[oQ,Bool.and_eq_true]at hb;have hs:=hb.2;simp only[fD,Bool.and_eq_true,bX,List.all_eq_true,List.mem_range]at hs;obtain⟨i,hi,rfl⟩:=List.getElem_of_mem hg;have:=hs.1 i hi
  simp only[nP,Bool.and_eq_true,bw]at this;have:=this.1
  rw[List.getD_eq_getElem?_getD,List.getElem?_eq_getElem hi]at this;have:0≤(cn w a).gs[i]∧(cn w a).gs[i]<5:=by simpa using this
  exact⟨ep,mE,this.1,this.2⟩
 ·cases hg
theorem B_ (w:aB)(k a:Int)(h:mF w):TC Tw.prog E 178 [gW w,gE k a] 0 [] (gW (oU w k a)) []:=by
 have PO:=h.Mz;have kC:=h.sl;have hw:IntKind.i64.wrap ((w.aH.length:Int)-1)=(w.aH.length:Int)-1:=aL (by omega) (by omega)
 refine tE Tryz.f178 Tryz.ntmps178 (by rw[Tryz.results178]) ?_
 unfold oU;by_cases ha:a<0∨(w.aH.length:Int)≤a
 ·rw[if_pos ha]
  have c7:¬(0≤a∧a≤(w.aH.length:Int)-1):=by omega
  (refine TW.go ?_;simp[wT,hw,c7];repeat' first|intro hc|refine aa.mk ?_|refine aI ?_|refine ah ?_ ?_|(refine cP ?_;refine⟨_,dh _ _ _,?_⟩;simp[wT,hw,c7]))
  refine ar.own [] [] (by simp;rfl) (by simp[wT]) (by simp) (by simp) (by simp[wT]) (by simp)
 ·rw[if_neg ha]
  have ep:0≤a:=by omega
  have mE:a<w.aH.length:=by omega
  have c7:a≤(w.aH.length:Int)-1:=by omega
  have hR:=zA h ep mE;have hS:=xE h ep mE;have MH:=MG ep mE;by_cases k5:k=5
  ·rw[if_pos k5]
   (refine TW.go ?_;simp[wT,hw,ep,c7,k5,hS];repeat' first|intro hc|refine aa.mk ?_|refine aI ?_|refine ah ?_ ?_|(refine cP ?_;refine⟨_,dh _ _ _,?_⟩;simp[wT,hw,ep,c7,k5,hS])|(refine cF [] 5 ?_;refine⟨_,_,ew w h,?_⟩;simp[wT,hw,ep,c7,k5,hS]))
   refine ar.own [] [3,4,5,6,7] (by simp;rfl) (by simp[wT]) (by simp) (by simp) (by simp[wT]) (by simp)
  ·rw[if_neg k5]
   by_cases k6:k=6
   ·rw[if_pos k6]
    cases bj:pr w a
    ·rw[if_neg (by simp)]
     have PQ:=h.Sz ep mE;have hM:=pL (E:=E) (cn w a) ⟨by have:=PQ.1;omega,by have:=PQ.2;omega⟩
     have hA:=zz (E:=E) w a (fI (cn w a)) h.nl;obtain⟨HX,Ex⟩:=PU h ep mE;have hT:=xD (E:=E) (jw w a (fI (cn w a))) a HX ep (by rw[Ex];exact mE)
     generalize oT (jw w a (fI (cn w a))) a=v at*;generalize jw w a (fI (cn w a))=u at*;generalize fI (cn w a)=ms at*;generalize cn w a=r at*;(refine TW.go ?_;simp[wT,aX,hw,ep,c7,k5,k6,hS,bj,hR];repeat' first|intro hc|refine aa.mk ?_|refine aI ?_|refine ah ?_ ?_|(refine cP ?_;(first|refine⟨_,dh _ _ _,?_⟩|refine⟨_,hM,?_⟩|refine⟨_,hA,?_⟩|refine⟨_,hT,?_⟩);simp[wT,aX,hw,ep,c7,k5,k6,hS,bj,hR]))
     refine ar.own [] [] (by simp;rfl) (by simp[wT]) (by simp) (by simp) (by simp[wT]) (by simp)
    ·rw[if_pos rfl]
     (refine TW.go ?_;simp[wT,hw,ep,c7,k5,k6,hS,bj];repeat' first|intro hc|refine aa.mk ?_|refine aI ?_|refine ah ?_ ?_|(refine cP ?_;refine⟨_,dh _ _ _,?_⟩;simp[wT,hw,ep,c7,k5,k6,hS,bj]))
     refine ar.own [] [] (by simp;rfl) (by simp[wT]) (by simp) (by simp) (by simp[wT]) (by simp)
   ·rw[if_neg k6]
    by_cases k7:k=7
    ·rw[if_pos k7]
     have fg:=pt h ep mE;have hL:=MF (E:=E) w.aO (setAt w a) a h.g5 (fun g hg=>(h.uQ g hg).mono (by omega)) fg.2.2 fg.1 fg.2.1
     generalize sE w.aO (setAt w a) a=A at*;generalize setAt w a=S at*
     cases hb:A.2
     ·rw[if_neg (by simp)]
      (refine TW.go ?_;simp[wT,hw,ep,c7,k5,k6,k7,MH,hb];repeat' first|intro hc|refine aa.mk ?_|refine aI ?_|refine ah ?_ ?_|(refine cP ?_;refine⟨_,dh _ _ _,?_⟩;simp[wT,hw,ep,c7,k5,k6,k7,MH,hb])|(refine cF [] 1 ?_;refine⟨_,_,hL,?_⟩;simp[wT,hw,ep,c7,k5,k6,k7,MH,hb]))
      refine ar.own [] [] (by simp;rfl) (by simp[wT]) (by simp) (by simp) (by simp[wT]) (by simp)
     ·rw[if_pos rfl]
      (refine TW.go ?_;simp[wT,hw,ep,c7,k5,k6,k7,MH,hb];repeat' first|intro hc|refine aa.mk ?_|refine aI ?_|refine ah ?_ ?_|(refine cP ?_;refine⟨_,dh _ _ _,?_⟩;simp[wT,hw,ep,c7,k5,k6,k7,MH,hb])|(refine cF [] 1 ?_;refine⟨_,_,hL,?_⟩;simp[wT,hw,ep,c7,k5,k6,k7,MH,hb]))
      refine ar.own [] [3] (by simp;rfl) (by simp[wT]) (by simp) (by simp) (by simp[wT]) (by simp)
    ·rw[if_neg k7]
     (refine TW.go ?_;simp[wT,hw,ep,c7,k5,k6,k7];repeat' first|intro hc|refine aa.mk ?_|refine aI ?_|refine ah ?_ ?_|(refine cP ?_;refine⟨_,dh _ _ _,?_⟩;simp[wT,hw,ep,c7,k5,k6,k7]))
     refine ar.own [] [] (by simp;rfl) (by simp[wT]) (by simp) (by simp) (by simp[wT]) (by simp)
theorem PV (w:aB)(k a:Int)(h:mF w):TC Tw.prog E 151 [gW w,gE k a] 0 [] (gW (I' w k a)) []:=by
 refine tE Tryz.f151 Tryz.ntmps151 (by rw[Tryz.results151]) ?_
 unfold I';by_cases k1:k=1
 ·rw[if_pos k1]
  (refine TW.go ?_;simp[wT,k1];repeat' first|intro hc|refine aa.mk ?_|refine aI ?_|refine ah ?_ ?_|(refine cP ?_;refine⟨_,xF w a h,?_⟩;simp[wT,k1]))
  refine ar.own [] [] (by simp;rfl) (by simp[wT]) (by simp) (by simp) (by simp[wT]) (by simp)
 ·rw[if_neg k1]
  by_cases k2:k=2
  ·rw[if_pos (.inl k2)]
   (refine TW.go ?_;simp[wT,k2];repeat' first|intro hc|refine aa.mk ?_|refine aI ?_|refine ah ?_ ?_|(refine cP ?_;refine⟨_,tG w 2 a h,?_⟩;simp[wT,k2]))
   refine ar.own [] [] (by simp;rfl) (by simp[wT,k2]) (by simp) (by simp) (by simp[wT,k2]) (by simp)
  ·by_cases k3:k=3
   ·rw[if_pos (.inr (.inl k3))]
    (refine TW.go ?_;simp[wT,k3];repeat' first|intro hc|refine aa.mk ?_|refine aI ?_|refine ah ?_ ?_|(refine cP ?_;refine⟨_,tG w 3 a h,?_⟩;simp[wT,k3]))
    refine ar.own [] [] (by simp;rfl) (by simp[wT,k3]) (by simp) (by simp) (by simp[wT,k3]) (by simp)
   ·by_cases k4:k=4
    ·rw[if_pos (.inr (.inr k4))]
     (refine TW.go ?_;simp[wT,k4];repeat' first|intro hc|refine aa.mk ?_|refine aI ?_|refine ah ?_ ?_|(refine cP ?_;refine⟨_,tG w 4 a h,?_⟩;simp[wT,k4]))
     refine ar.own [] [] (by simp;rfl) (by simp[wT,k4]) (by simp) (by simp) (by simp[wT,k4]) (by simp)
    ·rw[if_neg (by omega)]
     (refine TW.go ?_;simp[wT,k1,k2,k3,k4];repeat' first|intro hc|refine aa.mk ?_|refine aI ?_|refine ah ?_ ?_|(refine cP ?_;refine⟨_,B_ w k a h,?_⟩;simp[wT,k1,k2,k3,k4]))
     refine ar.own [] [] (by simp;rfl) (by simp[wT]) (by simp) (by simp) (by simp[wT]) (by simp)
end Go.Proofs.YtjklkppncmhehaaGreat.T
