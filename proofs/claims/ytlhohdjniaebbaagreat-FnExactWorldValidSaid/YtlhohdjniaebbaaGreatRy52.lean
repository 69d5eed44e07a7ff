/-
What is proved: an argument that came in reads as a tree ('rd_slice', 'rd_s2', ..), and its memory serves a lone run ('law_of_arg', 'law_of_world'). Conditions: those that the theorems state.
-/
import Derived.Test.YtlhohdjniaebbaaGreatRy27
import Derived.Test.YtlhohdjniaebbaaGreatRy51
import Derived.Test.YtlhohdjniaebbaaGreatRy37
set_option linter.unusedVariables false
set_option linter.unusedSimpArgs false
namespace Go.Proofs.YtlhohdjniaebbaaGreat.T
open Go Go.RowKit Go.Conc
def Cl (W:World)(b:Nat):Prop:=∃cs e fz,W.heap[b]?=some (.cells cs e fz)
inductive LR (W:World):Value→RT→Prop
 |i (k:IntKind) (n:Int):LR W (.int k n) (.v (.int k n))
 |b (x:Bool):LR W (.bool x) (.v (.bool x))
 |nil (k:Nat):LR W (.slice none 0 0) (.sl k [])
 |sS (a:Addr) (k:Nat):LR W (.slice (some a) 0 0) (.sl k [])
 |sl {b o c k:Nat} {xs:List (List RT)} (vs:Nat→Nat→Value) (hc:xs.length≤c) (hm:c≤maxLen) (hD:Cl W b) (hk:∀(i:Nat) (e:List RT),xs[i]?=some e→e.length=k)
   (hv:∀(i:Nat) (e:List RT),xs[i]?=some e→∀(j:Nat) (r:RT),e[j]?=some r→W.cell? ⟨b,o+(i*k+j),none⟩=some (vs i j)) (hr:∀(i:Nat) (e:List RT),xs[i]?=some e→∀(j:Nat) (r:RT),e[j]?=some r→LR W (vs i j) r):
   LR W (.slice (some ⟨b,o,none⟩) xs.length c) (.sl k xs)
theorem LR.vr {W:World}{m:Sr.aD}(hS:∀b,Cl W b→m b=some b){y:Value}{t:RT}(h:LR W y t):Sr.VR m y y:=by
 cases h with
 |i k n=>exact .int k n
 |b x=>exact .bool x
 |nil=>exact .cp 0 0
 |sS a=>exact .dO
 |sl _ _ _ hD=>exact .slice _ _ ⟨hS _ hD,rfl,rfl,rfl⟩
theorem LR.rep {W v:World}{D:Nat→Prop}(eT:∀q y t,W.cell? q=some y→LR W y t→v.cell? q=some y)(aj:∀b,Cl W b→D b){y:Value}{t:RT}(h:LR W y t):cE v D y t:=by
 induction h with
 |i k n=>exact .v rfl
 |b x=>exact .v rfl
 |nil=>exact .sS (Nat.zero_le _)
 |sS a=>exact .sS (Nat.zero_le _)
 |sl vs hc hm hD hk hv hr ih=>exact .sl vs hc hm (aj _ hD) hk (fun i e he j r hj=>eT _ _ _ (hv i e he j r hj) (hr i e he j r hj)) ih
open Classical in
noncomputable def Ff (m:Sr.aD) (y:Value):Value:=if Sr.VR m y y then y else Sr.Ub y
theorem RU (m:Sr.aD)(y:Value):Sr.VR m (Ff m y) y:=by
 unfold Ff;split
 ·assumption
 ·exact Sr.QI m y
noncomputable def Fg (m:Sr.aD):Obj→Obj
 | .cells cs e fz=> .cells (cs.map (Ff m)) e (0,max cs.size fz.2)
 |o=>o
open Classical in
theorem RV (good:FuncId→Bool)(W:World):
  ∃(v:World) (m:Sr.aD),m.good=good∧(∀b,Cl W b→m b=some b)∧Sr.WR m (v.on W.tape W.drawn) W∧(∀r t,m r=some t→Sr.dG v r)∧(∀q y t,W.cell? q=some y→LR W y t→v.cell? q=some y)∧v.heap.size=W.heap.size:=by
 let m:Sr.aD:=⟨fun r=>if Cl W r then some r else none,good⟩
 let v:World:={W with heap:=W.heap.mapIdx fun i o=>if Cl W i then Fg m o else o}
 have hS:∀b,Cl W b→m b=some b:=fun b hb=>by
  show(if Cl W b then some b else none)=some b
  rw[if_pos hb]
 have hm:∀{r t},m r=some t→r=t∧Cl W r:=by
  intro r t h;have h':(if Cl W r then some r else none)=some t:=h
  by_cases hs:Cl W r
  ·rw[if_pos hs]at h';exact⟨Option.some.inj h',hs⟩
  ·rw[if_neg hs]at h';cases h'
 have hv:∀b,v.heap[b]?=(W.heap[b]?).map fun o=>if Cl W b then Fg m o else o:=by
  intro b;show(W.heap.mapIdx fun i o=>if Cl W i then Fg m o else o)[b]?=_
  simp
 refine⟨v,m,rfl,hS,⟨fun r s t hr hs=>(hm hr).1.trans (hm hs).1.symm,fun r t hr=>?_,rfl,rfl,rfl⟩,fun r t hr=>?_,fun q y t hq hy=>?_,?_⟩
 ·obtain⟨rfl,hs⟩:=hm hr
  obtain⟨cs,e,fz,h1⟩:=id hs;refine⟨_,_,(by show v.heap[r]?=_;rw[hv,h1];simp only[Option.map_some,if_pos hs];rfl),h1,.cells (fun o h1 h2=>⟨Nat.zero_le _,by show o<max cs.size fz.2;omega⟩) ⟨by simp,fun i h1 h2=>?_⟩⟩
  simp only[Array.getElem_map];exact RU m _
 ·obtain⟨rfl,hs⟩:=hm hr
  obtain⟨cs,e,fz,h1⟩:=id hs;refine .inl ⟨_,e,_,(by rw[hv,h1];simp only[Option.map_some,if_pos hs];rfl),?_⟩
  simp
  omega
 ·have hvr:=hy.vr hS
  unfold World.cell? at hq⊢;rw[hv]
  cases ho:W.heap[q.block]? with
  |none=>rw[ho]at hq;cases hq
  |some o=>
   rw[ho]at hq
   cases o with
   |cells cs e fz=>
    have hs:Cl W q.block:=⟨_,_,_,ho⟩
    simp only[Option.map_some,if_pos hs,Fg]at hq⊢;by_cases fc:q.spot.isSome
    ·rw[if_pos fc]at hq;cases hq
    ·rw[if_neg fc]at hq⊢
     rw[Array.getElem?_map,hq];simp[Ff,hvr]
   |_=>cases hq
 ·show(W.heap.mapIdx _).size=_
  simp
theorem Kh {f:FuncId}{us:Array Value}{W:World}(Mj:Sr.iE f=true)(Mk:Sr.qf f=false)(hA:∀i (h:i<us.size),∃gs:List (Value×RT),us[i]= .agg ⟨gs.map (·.1)⟩∧∀x∈gs,LR W x.1 x.2)
  (Ix:∀v:World,(∀q y t,W.cell? q=some y→LR W y t→v.cell? q=some y)→v.heap.size=W.heap.size→Calls Tw.prog f us v Sr.fF):
  ∃M last o w' t',runNT Tryz.prog (M+1) (solo (G (Frame.enter Tryz.prog f us .normal) []) W) #[]=(.ended o w',t')∧runN Tryz.prog M (solo (G (Frame.enter Tryz.prog f us .normal) []) W)= .next last∧step Tryz.prog last= .ended o w'∧
   Go.Conc.Good Tryz.prog (fun x W'=>x= .bool true∧Go.RowKit.Below W.heap.size W W') last o w' t':=by
 obtain⟨v,m,hm,hS,hw,kH,hc,hz⟩:=RV Sr.iE W;refine Sr.Q4 (us:=us) Mj Mk hm ⟨rfl,fun i h1 h2=>?_⟩ hw kH fun T=>Ix (v.on T 0) hc hz
 obtain⟨gs,e,h⟩:=hA i h1;rw[e];refine .agg rfl fun j h1 h2=>?_;have hj:j<gs.length:=by simpa using h1
 have:=h gs[j] (List.getElem_mem hj)
 simpa using this.vr hS
section
variable(P:Program)(W:World)
def Rd (t:TypeId)(R:List RT→Prop):Prop:=∀(H:Type) (enc:TypeId×Value→H) (fuel:Nat) (cs:List Value) (x:DataW H×List MemPlace),DataW.trod enc P W 0 (fun _=>true) true fuel t cs=some x→
 ∃ts,R ts∧ts.length=cs.length∧∀(i:Nat) (v:Value) (r:RT),cs[i]?=some v→ts[i]?=some r→LR W v r
end
section
variable {P:Program}{W:World}{t e:TypeId}{R:List RT→Prop}
theorem Rd.mono {R':List RT→Prop}(h:Rd P W t R)(k:∀ts,R ts→R' ts):Rd P W t R':=fun H enc fuel cs x hx=>by
 obtain⟨ts,a,b,c⟩:=h H enc fuel cs x hx;exact⟨ts,k ts a,b,c⟩
theorem km {k:IntKind}(ht:P.underlying t=some (.int k)):Rd P W t fun ts=>∃n,ts=[.v (.int k n)]:=fun H enc fuel cs x hx=>by
 obtain⟨n,rfl, -, -⟩:=DataW.trod_int ht hx;refine⟨_,⟨n,rfl⟩,rfl,fun i v r h1 h2=>?_⟩
 rcases i with _|i
 ·cases h1;cases h2;exact .i k n
 ·simp at h1
theorem Ki (ht:P.underlying t=some .bool):Rd P W t fun ts=>∃b,ts=[.v (.bool b)]:=fun H enc fuel cs x hx=>by
 obtain⟨b,rfl, -⟩:=DataW.trod_bool ht hx;refine⟨_,⟨b,rfl⟩,rfl,fun i v r h1 h2=>?_⟩
 rcases i with _|i
 ·cases h1;cases h2;exact .b b
 ·simp at h1
theorem vn {α:Type}{Q:Nat→α→Prop}:∀n,(∀i,i<n→∃y,Q i y)→∃ys:List α,ys.length=n∧∀i y,ys[i]?=some y→Q i y
 |0,_=>⟨[],rfl,fun i y h=>by simp at h⟩
 |n+1,h=>by
  obtain⟨ys,h1,h2⟩:=vn n fun i hi=>h i (by omega)
  obtain⟨y,hy⟩:=h n (by omega)
  refine⟨ys++[y],by simp[h1],fun i z hz=>?_⟩
  rcases Nat.lt_or_ge i n with hi|hi
  ·rw[List.getElem?_append_left (by omega)]at hz;exact h2 i z hz
  ·rw[List.getElem?_append_right (by omega)]at hz
   rcases hd:i-ys.length with _|d
   ·rw[hd]at hz;cases hz
    obtain rfl:i=n:=by omega
    exact hy
   ·rw[hd]at hz;simp at hz
theorem iW {k:Nat}(ht:P.underlying t=some (.slice e))(hc:P.cellsOf e=k)(h0:0<k)(h:Rd P W e R):Rd P W t fun ts=>∃xs,ts=[.sl k xs]∧∀x∈xs,R x:=fun H enc fuel cs x hx=>by
 rcases DataW.trod_slice ht hx with⟨rfl, -⟩|⟨a,len,cap,elems,rest,n,rfl,rfl, -, -,hlc,hm,By,hE,hR, -⟩
 ·refine⟨_,⟨[],rfl,by simp⟩,rfl,fun i v r h1 h2=>?_⟩
  rcases i with _|i
  ·cases h1;cases h2;exact .nil k
  ·simp at h1
 rw[hc]at hE hR;by_cases hc0:cap=0
 ·obtain rfl:len=0:=by omega
  subst hc0;refine⟨_,⟨[],rfl,by simp⟩,rfl,fun i v r h1 h2=>?_⟩
  rcases i with _|i
  ·cases h1;cases h2;exact .sS a k
  ·simp at h1
 have first:∃l,W.cells? 0 (a.add 0) k=some l:=by
  by_cases hl:0<len
  ·have:=hE 0 hl
   rw[Nat.zero_mul,List.getElem?_eq_getElem (by omega)]at this
   obtain⟨l,hl, -⟩:=Option.bind_eq_some_iff.1 this;exact⟨l,hl⟩
  ·obtain rfl:len=0:=by omega
   obtain⟨xR,hr⟩:=hR rfl;have:=hr 0 (by omega)
   rw[Nat.zero_add,Nat.zero_mul,List.getElem?_eq_getElem (by omega)]at this
   obtain⟨l,hl, -⟩:=Option.bind_eq_some_iff.1 this;exact⟨l,hl⟩
 have xK:a.spot=none∧Cl W a.block:=by
  obtain⟨l,hl⟩:=first;obtain⟨-,XD,eT⟩:=World.cells?_some hl;have:=eT 0 h0
  rw[List.getElem?_eq_getElem (by omega)]at this
  have h1:W.cell? a=some l[0]:=this
  unfold World.cell? at h1;split at h1
  ·rename_i cs e fz hh
   by_cases fc:a.spot.isSome
   ·rw[if_pos fc]at h1;cases h1
   ·exact⟨by simpa using fc,_,_,_,hh⟩
  ·cases h1
 obtain⟨b,o,sp⟩:=a;obtain⟨fc,hC⟩:=xK;simp only at fc hC
 subst fc;obtain⟨ys,hyl,hy⟩:=vn (Q:=fun i (y:List Value×List RT)=>W.cells? 0 ((⟨b,o,none⟩:Addr).add (i*k)) k=some y.1∧R y.2∧y.2.length=y.1.length∧∀(j:Nat) v r,y.1[j]?=some v→y.2[j]?=some r→LR W v r) len fun i hi=>by
  have:=hE i hi
  rw[List.getElem?_eq_getElem (by omega)]at this
  obtain⟨l,hl,ht⟩:=Option.bind_eq_some_iff.1 this;obtain⟨ts,a,b,c⟩:=h H enc _ _ _ ht;exact⟨(l,ts),hl,a,b,c⟩
 have gr:∀(i:Nat) (z:List RT),(ys.map (·.2))[i]?=some z→∃l,W.cells? 0 ((⟨b,o,none⟩:Addr).add (i*k)) k=some l∧R z∧z.length=l.length∧ys[i]?=some (l,z)∧∀(j:Nat) v r,l[j]?=some v→z[j]?=some r→LR W v r:=fun i z hz=>by
  rw[List.getElem?_map,Option.map_eq_some_iff]at hz;obtain⟨y,h1,rfl⟩:=hz;obtain⟨a,b,c,d⟩:=hy i y h1;exact⟨y.1,a,b,c,h1,d⟩
 have hlen:∀(i:Nat) (z:List RT),(ys.map (·.2))[i]?=some z→z.length=k:=fun i z hz=>by
  obtain⟨l,a, -,c, -⟩:=gr i z hz;rw[c,(World.cells?_some a).2.1]
 refine⟨_,⟨ys.map (·.2),rfl,fun z hz=>?_⟩,rfl,fun i v r h1 h2=>?_⟩
 ·obtain⟨i,hi⟩:=List.getElem?_of_mem hz
  obtain⟨_, -,a, -⟩:=gr i z hi;exact a
 ·rcases i with _|i
  ·cases h1;cases h2
   have fact:∀(i:Nat) (z:List RT),(ys.map (·.2))[i]?=some z→∀(j:Nat) (r:RT),z[j]?=some r→∃v,W.cell? ⟨b,o+(i*k+j),none⟩=some v∧LR W v r∧(((ys[i]?.map (·.1)).getD [])[j]?).getD undef=v:=fun i z hz j r hj=>by
    obtain⟨l,a, -,c,d,g⟩:=gr i z hz;have JF:j<l.length:=by have:=(List.getElem?_eq_some_iff.1 hj).1;omega
    have e1:=(World.cells?_some a).2.2 j (by rw[(World.cells?_some a).2.1]at JF;exact JF)
    rw[List.getElem?_eq_getElem JF]at e1;refine⟨l[j],?_,g j _ r (List.getElem?_eq_getElem JF) hj,by rw[d];simp[JF]⟩
    rw[←e1];congr 1
    unfold Addr.add;split<;>split<;>simp_all[Nat.add_assoc]
   have e2:(ys.map (·.2)).length=len:=by simp[hyl]
   have:=LR.sl (W:=W) (b:=b) (o:=o) (c:=cap) (k:=k) (xs:=ys.map (·.2)) (fun i j=>(((ys[i]?.map (·.1)).getD [])[j]?).getD undef) (by omega) hm hC hlen
    (fun i z hz j r hj=>by obtain⟨v,a, -,c⟩:=fact i z hz j r hj;rw[c];exact a) (fun i z hz j r hj=>by obtain⟨v, -,b,c⟩:=fact i z hz j r hj;rw[c];exact b)
   rwa[e2]at this
  ·simp at h1
def acY (W:World)(cs:List Value)(k:Nat)(ts:List RT):Prop:=ts.length=k∧∀(i:Nat) (v:Value) (r:RT),cs[i]?=some v→ts[i]?=some r→LR W v r
theorem acY.nil {cs:List Value}:acY W cs 0 []:=⟨rfl,fun i v r _ h=>by simp at h⟩
theorem acY.cons {cs:List Value}{k n:Nat}{ts us:List RT}(h:acY W cs k ts)(hn:us.length=n)(hu:∀(i:Nat) (v:Value) (r:RT),((cs.drop k).take n)[i]?=some v→us[i]?=some r→LR W v r):acY W cs (k+n) (ts++us):=by
 refine⟨by rw[List.length_append,h.1,hn],fun i v r h1 h2=>?_⟩
 rcases Nat.lt_or_ge i k with hi|hi
 ·rw[List.getElem?_append_left (by rw[h.1];exact hi)]at h2
  exact h.2 i v r h1 h2
 ·rw[List.getElem?_append_right (by rw[h.1];exact hi),h.1]at h2
  have hl:=(List.getElem?_eq_some_iff.1 h2).1;refine hu (i-k) v r ?_ h2;rw[List.getElem?_take,if_pos (by omega),List.getElem?_drop,show k+(i-k)=i by omega]
  exact h1
theorem dw {H:Type}{enc:TypeId×Value→H}{n k c:Nat}{f:Field}{cs:List Value}{ts:List RT}{y:DataW H×List MemPlace}{R:List RT→Prop}(hr:Rd P W f.type R)(ho:f.offset=k)(hc:P.cellsOf f.type=c)(hl:k+c≤cs.length)(hp:acY W cs k ts)
  (h:DataW.trod enc P W 0 (fun _=>true) true n f.type ((cs.drop f.offset).take (P.cellsOf f.type))=some y):∃us,R us∧acY W cs (k+c) (ts++us):=by
 obtain⟨us,a,b,d⟩:=hr H enc _ _ _ h;rw[ho,hc]at b d;refine⟨us,a,hp.cons ?_ d⟩;rw[b,List.length_take,List.length_drop];omega
theorem aaz {f0 f1:Field}{c0 c1:Nat}{R0 R1:List RT→Prop}(ht:P.underlying t=some (.struct #[f0,f1]))(h0:P.cellsOf f0.type=c0)(h1:P.cellsOf f1.type=c1)(o0:f0.offset=0)(o1:f1.offset=0+c0)(hC:P.cellsOf t=0+c0+c1)
  (r0:Rd P W f0.type R0) (r1:Rd P W f1.type R1):Rd P W t fun ts=>∃a b,R0 a∧R1 b∧ts=[]++a++b:=fun H enc fuel cs x hx=>by
 obtain⟨xs,n, -, -,hl,hlen,hf⟩:=DataW.trod_struct ht hx;match xs,hlen with
 |[y0,y1],_=>
  obtain⟨a,ra,p0⟩:=dw (cs:=cs) r0 o0 h0 (by omega) .nil (by simpa using hf 0 f0 rfl)
  obtain⟨b,rb,p1⟩:=dw (cs:=cs) r1 o1 h1 (by omega) p0 (by simpa using hf 1 f1 rfl)
  exact⟨_,⟨a,b,ra,rb,rfl⟩,by rw[p1.1];omega,p1.2⟩
theorem VM {f0 f1 f2:Field}{c0 c1 c2:Nat}{R0 R1 R2:List RT→Prop}(ht:P.underlying t=some (.struct #[f0,f1,f2]))(h0:P.cellsOf f0.type=c0)(h1:P.cellsOf f1.type=c1)(h2:P.cellsOf f2.type=c2)(o0:f0.offset=0)(o1:f1.offset=0+c0)(o2:f2.offset=0+c0+c1)(hC:P.cellsOf t=0+c0+c1+c2)
  (r0:Rd P W f0.type R0) (r1:Rd P W f1.type R1) (r2:Rd P W f2.type R2):Rd P W t fun ts=>∃a b c,R0 a∧R1 b∧R2 c∧ts=[]++a++b++c:=fun H enc fuel cs x hx=>by
 obtain⟨xs,n, -, -,hl,hlen,hf⟩:=DataW.trod_struct ht hx;match xs,hlen with
 |[y0,y1,y2],_=>
  obtain⟨a,ra,p0⟩:=dw (cs:=cs) r0 o0 h0 (by omega) .nil (by simpa using hf 0 f0 rfl)
  obtain⟨b,rb,p1⟩:=dw (cs:=cs) r1 o1 h1 (by omega) p0 (by simpa using hf 1 f1 rfl)
  obtain⟨c,rc,p2⟩:=dw (cs:=cs) r2 o2 h2 (by omega) p1 (by simpa using hf 2 f2 rfl)
  exact⟨_,⟨a,b,c,ra,rb,rc,rfl⟩,by rw[p2.1];omega,p2.2⟩
theorem VN {f0 f1 f2 f3:Field}{c0 c1 c2 c3:Nat}{R0 R1 R2 R3:List RT→Prop}(ht:P.underlying t=some (.struct #[f0,f1,f2,f3]))(h0:P.cellsOf f0.type=c0)(h1:P.cellsOf f1.type=c1)(h2:P.cellsOf f2.type=c2)(h3:P.cellsOf f3.type=c3)
  (o0:f0.offset=0) (o1:f1.offset=0+c0) (o2:f2.offset=0+c0+c1) (o3:f3.offset=0+c0+c1+c2) (hC:P.cellsOf t=0+c0+c1+c2+c3)
  (r0:Rd P W f0.type R0) (r1:Rd P W f1.type R1) (r2:Rd P W f2.type R2) (r3:Rd P W f3.type R3):Rd P W t fun ts=>∃a b c d,R0 a∧R1 b∧R2 c∧R3 d∧ts=[]++a++b++c++d:=fun H enc fuel cs x hx=>by
 obtain⟨xs,n, -, -,hl,hlen,hf⟩:=DataW.trod_struct ht hx;match xs,hlen with
 |[y0,y1,y2,y3],_=>
  obtain⟨a,ra,p0⟩:=dw (cs:=cs) r0 o0 h0 (by omega) .nil (by simpa using hf 0 f0 rfl)
  obtain⟨b,rb,p1⟩:=dw (cs:=cs) r1 o1 h1 (by omega) p0 (by simpa using hf 1 f1 rfl)
  obtain⟨c,rc,p2⟩:=dw (cs:=cs) r2 o2 h2 (by omega) p1 (by simpa using hf 2 f2 rfl)
  obtain⟨d,rd,p3⟩:=dw (cs:=cs) r3 o3 h3 (by omega) p2 (by simpa using hf 3 f3 rfl)
  exact⟨_,⟨a,b,c,d,ra,rb,rc,rd,rfl⟩,by rw[p3.1];omega,p3.2⟩
theorem aaA {f0 f1 f2 f3 f4:Field}{c0 c1 c2 c3 c4:Nat}{R0 R1 R2 R3 R4:List RT→Prop}(ht:P.underlying t=some (.struct #[f0,f1,f2,f3,f4]))(h0:P.cellsOf f0.type=c0)(h1:P.cellsOf f1.type=c1)(h2:P.cellsOf f2.type=c2)(h3:P.cellsOf f3.type=c3)(h4:P.cellsOf f4.type=c4)
  (o0:f0.offset=0) (o1:f1.offset=0+c0) (o2:f2.offset=0+c0+c1) (o3:f3.offset=0+c0+c1+c2) (o4:f4.offset=0+c0+c1+c2+c3) (hC:P.cellsOf t=0+c0+c1+c2+c3+c4)
  (r0:Rd P W f0.type R0) (r1:Rd P W f1.type R1) (r2:Rd P W f2.type R2) (r3:Rd P W f3.type R3) (r4:Rd P W f4.type R4):Rd P W t fun ts=>∃a b c d e,R0 a∧R1 b∧R2 c∧R3 d∧R4 e∧ts=[]++a++b++c++d++e:=fun H enc fuel cs x hx=>by
 obtain⟨xs,n, -, -,hl,hlen,hf⟩:=DataW.trod_struct ht hx;match xs,hlen with
 |[y0,y1,y2,y3,y4],_=>
  obtain⟨a,ra,p0⟩:=dw (cs:=cs) r0 o0 h0 (by omega) .nil (by simpa using hf 0 f0 rfl)
  obtain⟨b,rb,p1⟩:=dw (cs:=cs) r1 o1 h1 (by omega) p0 (by simpa using hf 1 f1 rfl)
  obtain⟨c,rc,p2⟩:=dw (cs:=cs) r2 o2 h2 (by omega) p1 (by simpa using hf 2 f2 rfl)
  obtain⟨d,rd,p3⟩:=dw (cs:=cs) r3 o3 h3 (by omega) p2 (by simpa using hf 3 f3 rfl)
  obtain⟨e,re,p4⟩:=dw (cs:=cs) r4 o4 h4 (by omega) p3 (by simpa using hf 4 f4 rfl)
  exact⟨_,⟨a,b,c,d,e,ra,rb,rc,rd,re,rfl⟩,by rw[p4.1];omega,p4.2⟩
theorem lz {α β:Type}{f:α→β}:∀{xs:List β},(∀x∈xs,∃a,x=f a)→∃zs:List α,xs=zs.map f
 |[],_=>⟨[],rfl⟩
 |x::xs,h=>by
  obtain⟨a,rfl⟩:=h x (by simp)
  obtain⟨zs,rfl⟩:=lz (xs:=xs) fun y hy=>h y (by simp[hy])
  exact⟨a::zs,rfl⟩
end
end Go.Proofs.YtlhohdjniaebbaaGreat.T
