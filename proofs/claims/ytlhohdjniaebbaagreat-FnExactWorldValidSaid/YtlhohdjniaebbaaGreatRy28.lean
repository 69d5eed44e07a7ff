/-
What is proved: how values, memory and temporaries stand for trees and what rests on it. Conditions: as stated.
-/
import Derived.WalkKit
import Derived.Orders
set_option linter.unusedVariables false
set_option linter.unusedSimpArgs false
namespace Go.Proofs.YtlhohdjniaebbaaGreat.T
open Go Go.RowKit
inductive RT where
 |v (x:Value)
 |nil
 |sl (k:Nat) (xs:List (List RT))
inductive TV where
 |r (t:RT)
 |own (b:Nat)
 |ptr (b off:Nat)
 |row (b k i off:Nat)
 |iZ (xs:List RT) (off:Nat)
inductive GV where
 |s (t:TV)
 |a (ts:List TV)
 |p (gs:List GV)
 |fQ (fn:Fn) (first lS:List GV)
 |fC (t:TypeId) (g:GV)
 |u
inductive ak where
 |box (cs:List TV)
 |rows (e k:Nat) (xs:List (List RT))
 |dead
inductive cE (w:World) (D:Nat→Prop):Value→RT→Prop
 |v {x:Value} (h:x.oneCell'=true):cE w D x (.v x)
 |nil:cE w D (.slice none 0 0) .nil
 |sS {A:Option Addr} {c k:Nat} (hm:c≤maxLen):cE w D (.slice A 0 c) (.sl k [])
 |sl {b o c k:Nat} {xs:List (List RT)} (vs:Nat→Nat→Value) (hc:xs.length≤c) (hm:c≤maxLen) (hD:D b) (hk:∀(i:Nat) (e:List RT),xs[i]?=some e→e.length=k)
   (hv:∀(i:Nat) (e:List RT),xs[i]?=some e→∀(j:Nat) (r:RT),e[j]?=some r→w.cell? ⟨b,o+(i*k+j),none⟩=some (vs i j)) (hr:∀(i:Nat) (e:List RT),xs[i]?=some e→∀(j:Nat) (r:RT),e[j]?=some r→cE w D (vs i j) r):
   cE w D (.slice (some ⟨b,o,none⟩) xs.length c) (.sl k xs)
inductive cn (ρ:Nat→Option Value) (w:World) (D:Nat→Prop):Value→TV→Prop
 |r {v:Value} {t:RT} (h:cE w D v t):cn ρ w D v (.r t)
 |own {b n c:Nat} {A:Option Addr} (h:ρ b=some (.slice A n c)):cn ρ w D (.slice A n c) (.own b)
 |ptr {b g off:Nat} (h:ρ b=some (.pointer (some ⟨g,0,none⟩))):cn ρ w D (.pointer (some ⟨g,off,none⟩)) (.ptr b off)
 |row {b k i off g n c:Nat} (h:ρ b=some (.slice (some ⟨g,0,none⟩) n c)):cn ρ w D (.pointer (some ⟨g,i*k+off,none⟩)) (.row b k i off)
 |iZ {g o off:Nat} {xs:List RT} (vs:Nat→Value) (hD:D g) (hv:∀(j:Nat) (r:RT),xs[j]?=some r→w.cell? ⟨g,o+j,none⟩=some (vs j)) (hr:∀(j:Nat) (r:RT),xs[j]?=some r→cE w D (vs j) r):
   cn ρ w D (.pointer (some ⟨g,o+off,none⟩)) (.iZ xs off)
inductive bg (ρ:Nat→Option Value) (w:World) (D:Nat→Prop):Value→GV→Prop
 |s {v:Value} {t:TV} (h:cn ρ w D v t):bg ρ w D v (.s t)
 |a {arr:Array Value} {ts:List TV} (hn:arr.size=ts.length) (h:∀(i:Nat) (t:TV),ts[i]?=some t→cn ρ w D (arr.getD i undef) t):bg ρ w D (.agg arr) (.a ts)
 |p {vs:Array Value} {gs:List GV} (hn:vs.size=gs.length) (h:∀(i:Nat) (g:GV),gs[i]?=some g→bg ρ w D (vs.getD i undef) g):bg ρ w D (.tuple vs) (.p gs)
 |fQ {fn:Fn} {first lS:Array Value} {fs cs:List GV} (hf:first.size=fs.length) (hc:lS.size=cs.length) (h1:∀(i:Nat) (g:GV),fs[i]?=some g→bg ρ w D (first.getD i undef) g) (h2:∀(i:Nat) (g:GV),cs[i]?=some g→bg ρ w D (lS.getD i undef) g):
   bg ρ w D (.func fn first lS) (.fQ fn fs cs)
 |fC {t:TypeId} {v:Value} {g:GV} (h:bg ρ w D v g):bg ρ w D (.iface t v) (.fC t g)
 |u {v:Value}:bg ρ w D v .u
def cj (D:Nat→Prop)(w w':World):Prop:=∀b,D b→w'.heap[b]?=w.heap[b]?
theorem cj.refl (D:Nat→Prop)(w:World):cj D w w:=fun _ _=>rfl
theorem cj.cell {D:Nat→Prop}{w w':World}(h:cj D w w'){b o:Nat}(hb:D b):w'.cell? ⟨b,o,none⟩=w.cell? ⟨b,o,none⟩:=World.cell?_of_block (h b hb)
theorem cE.keep {w w':World}{D D':Nat→Prop}(hk:cj D w w')(hD:∀b,D b→D' b){v:Value}{t:RT}(h:cE w D v t):cE w' D' v t:=by
 induction h with
 |v h=>exact .v h
 |nil=>exact .nil
 |sS hm=>exact .sS hm
 |sl vs hc hm lT cQ hv _ ih=>exact .sl vs hc hm (hD _ lT) cQ (fun i e he j r hr=>(hk.cell lT).trans (hv i e he j r hr)) ih
theorem cn.keep {ρ ρ':Nat→Option Value}{w w':World}{D D':Nat→Prop}(dk:∀b x,ρ b=some x→ρ' b=some x)(hk:cj D w w')(hD:∀b,D b→D' b){v:Value}{t:TV}(h:cn ρ w D v t):cn ρ' w' D' v t:=by
 cases h with
 |r h=>exact .r (h.keep hk hD)
 |own h=>exact .own (dk _ _ h)
 |ptr h=>exact .ptr (dk _ _ h)
 |row h=>exact .row (dk _ _ h)
 |iZ vs lT hv hr=>exact .iZ vs (hD _ lT) (fun j r h=>(hk.cell lT).trans (hv j r h)) fun j r h=>(hr j r h).keep hk hD
theorem bg.keep {ρ ρ':Nat→Option Value}{w w':World}{D D':Nat→Prop}(dk:∀b x,ρ b=some x→ρ' b=some x)(hk:cj D w w')(hD:∀b,D b→D' b){v:Value}{t:GV}(h:bg ρ w D v t):bg ρ' w' D' v t:=by
 induction h with
 |s h=>exact .s (h.keep dk hk hD)
 |a hn h=>exact .a hn fun i t ht=>(h i t ht).keep dk hk hD
 |p hn _ ih=>exact .p hn ih
 |fQ hf hc _ _ i1 i2=>exact .fQ hf hc i1 i2
 |fC _ ih=>exact .fC ih
 |u=>exact .u
theorem cE.one {w:World}{D:Nat→Prop}{v:Value}{t:RT}(h:cE w D v t):v.oneCell'=true:=by
 cases h<;>first|assumption|rfl
theorem cn.one {ρ:Nat→Option Value}{w:World}{D:Nat→Prop}{v:Value}{t:TV}(h:cn ρ w D v t):v.oneCell'=true:=by
 cases h<;>first|(rename_i h;exact h.one)|rfl
theorem Mz {v:Value}(h:v.oneCell'=true):v.cells= #[v]:=by
 cases v<;>first|rfl|(simp[Value.oneCell']at h)
def Row (w:World)(D:Nat→Prop)(A:Option Addr)(k:Nat)(xs:List (List RT)):Prop:=
 ∀(i:Nat) (e:List RT),xs[i]?=some e→e.length=k∧∃b o,A=some ⟨b,o,none⟩∧∀j r,e[j]?=some r→∃v,w.cell? ⟨b,o+(i*k+j),none⟩=some v∧cE w D v r
theorem cE.slice {w:World}{D:Nat→Prop}{v:Value}{k:Nat}{xs:List (List RT)}(h:cE w D v (.sl k xs)):
  ∃A c,v= .slice A xs.length c∧xs.length≤c∧c≤maxLen∧Row w D A k xs∧∀b o,A=some ⟨b,o,none⟩→xs≠[]→D b:=by
 cases h with
 |sS hm=>exact⟨_,_,rfl,Nat.zero_le _,hm,fun i e he=>(by simp at he),fun _ _ _ h=>absurd rfl h⟩
 | @sl b o c k xs vs hc hm hD hk hv hr=>
   exact⟨_,_,rfl,hc,hm,fun i e he=>⟨hk i e he,b,o,rfl,fun j r hj=>⟨_,hv i e he j r hj,hr i e he j r hj⟩⟩,fun b' o' e _=>by cases e;exact hD⟩
theorem cE.N4 {w:World}{D:Nat→Prop}{b o c k:Nat}{xs:List (List RT)}(hc:xs.length≤c)(hm:c≤maxLen)(hD:D b)(h:Row w D (some ⟨b,o,none⟩) k xs):cE w D (.slice (some ⟨b,o,none⟩) xs.length c) (.sl k xs):=by
 have hx:∀(i:Nat) (e:List RT),xs[i]?=some e→∀(j:Nat) (r:RT),e[j]?=some r→∃v,w.cell? ⟨b,o+(i*k+j),none⟩=some v∧cE w D v r:=by
  intro i e he j r hj;obtain⟨_,b',o',e',h'⟩:=h i e he
  cases e';exact h' j r hj
 refine .sl (fun i j=>(w.cell? ⟨b,o+(i*k+j),none⟩).getD undef) hc hm hD (fun i e he=>(h i e he).1) (fun i e he j r hj=>?_) fun i e he j r hj=>?_
 ·obtain⟨v,hv,_⟩:=hx i e he j r hj
  simp[hv]
 ·obtain⟨v,hv,hr⟩:=hx i e he j r hj
  simpa[hv]using hr
theorem Row.keep {w w':World}{D D':Nat→Prop}{A:Option Addr}{k:Nat}{xs:List (List RT)}(hk:cj D w w')(hD:∀b,D b→D' b)(hA:∀b o,A=some ⟨b,o,none⟩→w'.heap[b]?=w.heap[b]?)(h:Row w D A k xs):Row w' D' A k xs:=by
 intro i e he;obtain⟨h1,b,o,e1,h2⟩:=h i e he;refine⟨h1,b,o,e1,fun j r hj=>?_⟩
 obtain⟨v,hv,hr⟩:=h2 j r hj;exact⟨v,(World.cell?_of_block (hA b o e1)).trans hv,hr.keep hk hD⟩
def bI:Option Value→Option Nat
 |some (.pointer (some a))=>some a.block
 |some (.slice (some a) _ _)=>some a.block
 |_=>none
def dr (ρ:Nat→Option Value)(w:World)(D:Nat→Prop)(x:Option Value):ak→Prop
 | .box cs=>∃g arr ty,x=some (.pointer (some ⟨g,0,none⟩))∧w.heap[g]?=some (.cells arr ty (0,0))∧arr.size=cs.length∧∀(i:Nat) (t:TV),cs[i]?=some t→cn ρ w D (arr.getD i undef) t
 | .rows e k xs=>∃A c,x=some (.slice A xs.length c)∧xs.length≤c∧c≤maxLen∧0<k∧(∀(i:Nat) (y:List RT),xs[i]?=some y→y.length=k)∧
   ((A=none∧xs=[]∧c=0)∨∃g arr,A=some ⟨g,0,none⟩∧w.heap[g]?=some (.cells arr e (0,0))∧arr.size=c*k∧∀(i:Nat) (y:List RT),xs[i]?=some y→∀(j:Nat) (r:RT),y[j]?=some r→cE w D (arr.getD (i*k+j) undef) r)
 | .dead=>True
theorem dr.keep {ρ ρ':Nat→Option Value}{w w':World}{D D':Nat→Prop}{x:Option Value}{y:ak}(dk:∀b x,ρ b=some x→ρ' b=some x)(hk:cj D w w')(hD:∀b,D b→D' b)
  (hx:y= .dead∨∀g,bI x=some g→w'.heap[g]?=w.heap[g]?) (h:dr ρ w D x y):dr ρ' w' D' x y:=by
 cases y with
 |dead=>trivial
 |box cs=>
  obtain⟨g,arr,ty,rfl,h1,h2,h3⟩:=h;exact⟨g,arr,ty,rfl,((hx.resolve_left (by simp)) g rfl).trans h1,h2,fun i t ht=>(h3 i t ht).keep dk hk hD⟩
 |rows e k xs=>
  obtain⟨A,c,rfl,h1,h2,h3,h4,h5⟩:=h;refine⟨A,c,rfl,h1,h2,h3,h4,?_⟩;rcases h5 with h5|⟨g,arr,rfl,h6,h7,h8⟩
  ·exact .inl h5
  ·exact .inr ⟨g,arr,rfl,((hx.resolve_left (by simp)) g rfl).trans h6,h7,fun i y hy j r hr=>(h8 i y hy j r hr).keep hk hD⟩
def ak.live:ak→Bool
 | .dead=>false
 |_=>true
structure Ctx where
 W:World
 M:Nat→Prop
 D0:Nat→Prop
 nt:Nat
 lK:Nat→Option Value
structure Rel (C:Ctx) (env:Nat→GV) (get:Nat→Option ak) (a:Act) (w:World) (ρ:Nat→Option Value) (D:Nat→Prop):Prop where
 os:w.os=C.W.os
 tape:w.tape=C.W.tape
 output:w.output=C.W.output
 size:C.W.heap.size≤w.heap.size
 old:∀k,k<C.W.heap.size→¬C.M k→w.heap[k]?=C.W.heap[k]?
 ro:∀k,D k→k<w.heap.size∧(C.D0 k∨C.M k∨C.W.heap.size≤k)
 free:∀b,get b=none→ρ b=none
 blk:∀b y,get b=some y→dr ρ w D (ρ b) y
 own:∀b y g,get b=some y→y.live=true→bI (ρ b)=some g→¬D g∧(C.M g∨C.W.heap.size≤g)
 sep:∀b y b' y' g,get b=some y→y.live=true→get b'=some y'→y'.live=true→bI (ρ b)=some g→bI (ρ b')=some g→b=b'
 env:∀t,bg ρ w D (a.tmps.getD t undef) (env t)
 defers:a.defers=[]
 nt:a.tmps.size=C.nt
 ext:∀b x,C.lK b=some x→ρ b=some x
def R (C:Ctx)(env:Nat→GV)(get:Nat→Option ak)(a:Act)(w:World):Prop:=∃ρ D,Rel C env get a w ρ D
def put (env:Nat→GV)(dst:Option Nat)(g:GV):Nat→GV:=fun t=>if dst=some t then g else env t
def gt (b:Nat):List (Nat×ak)→Option ak
 |[]=>none
 |(u,y)::e=>if b=u then some y else gt b e
def upd (get:Nat→Option ak)(Δ:List (Nat×ak)):Nat→Option ak:=fun b=>match gt b Δ with|some y=>some y|none=>get b
theorem Q5 {a:Act}{dst:Option Nat}{v:Value}{t:Nat}(h:∀d,dst=some d→d<a.tmps.size):(a.put dst v).tmps.getD t undef=if dst=some t then v else a.tmps.getD t undef:=by
 cases dst with
 |none=>simp[Act.put]
 |some d=>
  have hd:=h d rfl;simp only[Act.put,Array.getD_eq_getD_getElem?,Array.getElem?_setIfInBounds,Option.some.injEq];by_cases e:d=t
  ·subst e;simp[hd]
  ·simp[e]
theorem Q6 {a:Act}{dst:Option Nat}{v:Value}:(a.put dst v).tmps.size=a.tmps.size:=by cases dst<;>simp[Act.put]
theorem put_defers {a:Act}{dst:Option Nat}{v:Value}:(a.put dst v).defers=a.defers:=by cases dst<;>simp[Act.put]
section
variable {C:Ctx}{env:Nat→GV}{get:Nat→Option ak}{a:Act}{w w':World}{ρ:Nat→Option Value}{D:Nat→Prop}
theorem Rel.put (h:Rel C env get a w ρ D){dst:Option Nat}{v:Value}{g:GV}(hd:∀d,dst=some d→d<C.nt)(hg:bg ρ w D v g):Rel C (put env dst g) get (a.put dst v) w ρ D:=
 {h with
  env:=fun t=>by
   rw[Q5 (by rw[h.nt];exact hd)]
   unfold T.put;split
   ·exact hg
   ·exact h.env t
  defers:=by rw[put_defers];exact h.defers
  nt:=by rw[Q6];exact h.nt}
theorem Rel.gu (h:Rel C env get a w ρ D){b g:Nat}{y:ak}(hy:get b=some y)(hl:y.live=true)(hg:bI (ρ b)=some g):g<w.heap.size:=by
 have:=h.blk b y hy
 cases y with
 |dead=>simp[ak.live]at hl
 |box cs=>
  obtain⟨g',arr,ty,e,h1,_⟩:=this;rw[e]at hg;injection hg with hg;subst hg
  exact(Array.getElem?_eq_some_iff.1 h1).1
 |rows e k xs=>
  obtain⟨A,c,e1,_,_,_,_,h5⟩:=this;rcases h5 with⟨rfl,_⟩|⟨g',arr,rfl,h6,_⟩
  ·rw[e1]at hg;cases hg
  ·rw[e1]at hg;injection hg with hg;subst hg
   exact(Array.getElem?_eq_some_iff.1 h6).1
theorem Rel.heap (h:Rel C env get a w ρ D)(e:w'.heap=w.heap)(e1:w'.os=w.os)(e2:w'.tape=w.tape)(e3:w'.output=w.output):Rel C env get a w' ρ D:=by
 have hk:∀D,cj D w w':=fun D b _=>by rw[e]
 exact
 {os:=e1.trans h.os,tape:=e2.trans h.tape,output:=e3.trans h.output,size:=by rw[e];exact h.size,old:=fun k h1 h2=>by rw[e];exact h.old k h1 h2
  ro:=fun k hd=>by rw[e];exact h.ro k hd
  free:=h.free
  blk:=fun b y hy=>(h.blk b y hy).keep (fun _ _ h=>h) (hk D) (fun _ h=>h) (.inr fun g _=>by rw[e])
  own:=h.own,sep:=h.sep
  env:=fun t=>(h.env t).keep (fun _ _ h=>h) (hk D) fun _ h=>h
  defers:=h.defers,nt:=h.nt,ext:=h.ext}
end
end Go.Proofs.YtlhohdjniaebbaaGreat.T
namespace Go.Proofs.YtlhohdjniaebbaaGreat.T
open Go Go.RowKit
inductive TK where
 |sc
 |slice (e:TypeId)
 |array (n:Nat) (e:TypeId)
 |struct (fs:List (Nat×TypeId))
structure TD where
 size:Nat
 bytes:Nat
 zero:List Value
 k:TK
def rO:TypeDesc→TK
 | .slice e=> .slice e
 | .array n e=> .array n e
 | .struct fs=> .struct (fs.toList.map fun f=>(f.offset,f.type))
 |_=> .sc
def TK.agg:TK→Bool
 | .array ..| .struct ..=>true
 |_=>false
def aE (P:Program)(t:TypeId):Option TD:=
 match P.info? t,P.underlying t with
 |some i,some d=>match i.zero with
  |some z=>if z.cells.size=i.size∧z.cells.all Value.oneCell'=true∧((rO d).agg=true∨i.size=1)then some ⟨i.size,i.bytes,z.cells.toList,rO d⟩else none
  |none=>none
 |_,_=>none
theorem cz {P:Program}{t:TypeId}{d:TD}(h:aE P t=some d):(∃i u z,P.info? t=some i∧P.underlying t=some u∧i.zero=some z∧i.size=d.size∧i.bytes=d.bytes∧z.cells.toList=d.zero∧rO u=d.k)∧d.zero.length=d.size∧(∀x∈d.zero,x.oneCell'=true)∧(d.k.agg=true∨d.size=1):=by
 unfold aE at h
 cases hi:P.info? t with
 |none=>simp[hi]at h
 |some i=>
  cases hu:P.underlying t with
  |none=>simp[hi,hu]at h
  |some u=>
   cases hz:i.zero with
   |none=>simp[hi,hu,hz]at h
   |some z=>
    simp only[hi,hu,hz]at h;split at h
    ·rename_i hc
     obtain⟨c1,c2,c3⟩:=hc
     cases h;refine⟨⟨i,u,z,rfl,rfl,hz,rfl,rfl,rfl,rfl⟩,by simpa using c1,fun x hx=>?_,c3⟩
     rw[Array.all_eq_true_iff_forall_mem]at c2;exact c2 x (by simpa using hx)
    ·cases h
theorem eF {P:Program}{t:TypeId}{d:TD}(h:aE P t=some d):∃i u z,P.info? t=some i∧P.underlying t=some u∧i.zero=some z∧i.size=d.size∧i.bytes=d.bytes∧z.cells.toList=d.zero∧rO u=d.k:=(cz h).1
section
variable {P:Program}{t:TypeId}{d:TD}{w:World}
theorem oE (h:aE P t=some d):(sizeOf t).run P w= .ok d.size w:=by
 obtain⟨i,u,z,h1,_,_,h4,_⟩:=eF h;simp[sizeOf,typeInfo,h1,h4]
theorem rP (h:aE P t=some d):(isAgg t).run P w= .ok d.k.agg w:=by
 obtain⟨i,u,z,_,h2,_,_,_,_,h7⟩:=eF h;rw[←h7];simp only[isAgg,Sem.run_bind,run_underlying h2,Result.andThen_ok]
 cases u<;>simp[rO,TK.agg]
theorem jW {e:TypeId}(h:aE P t=some d)(hk:d.k= .slice e):P.underlying t=some (.slice e):=by
 obtain⟨i,u,z,_,h2,_,_,_,_,h7⟩:=eF h;rw[hk]at h7
 cases u<;>simp[rO]at h7
 subst h7;exact h2
theorem vN {n:Nat}{e:TypeId}(h:aE P t=some d)(hk:d.k= .array n e):P.underlying t=some (.array n e):=by
 obtain⟨i,u,z,_,h2,_,_,_,_,h7⟩:=eF h;rw[hk]at h7
 cases u<;>simp[rO]at h7
 obtain⟨rfl,rfl⟩:=h7;exact h2
theorem zj {fs:List (Nat×TypeId)}(h:aE P t=some d)(hk:d.k= .struct fs):∃gs,P.underlying t=some (.struct gs)∧gs.toList.map (fun f=>(f.offset,f.type))=fs:=by
 obtain⟨i,u,z,_,h2,_,_,_,_,h7⟩:=eF h;rw[hk]at h7
 cases u<;>simp[rO]at h7
 exact⟨_,h2,h7⟩
theorem Q7 {fs:List (Nat×TypeId)}{f o:Nat}{ft:TypeId}(h:aE P t=some d)(hk:d.k= .struct fs)(hf:fs[f]?=some (o,ft)):∃gs g,P.underlying t=some (.struct gs)∧gs[f]?=some g∧g.offset=o∧g.type=ft:=by
 obtain⟨gs,h1,h2⟩:=zj h hk;rw[←h2,List.getElem?_map]at hf;obtain⟨g,hg,he⟩:=Option.map_eq_some_iff.1 hf
 cases he;exact⟨gs,g,h1,by simpa using hg,rfl,rfl⟩
end
def lk (t:Nat):List (Nat×GV)→GV
 |[]=> .u
 |(u,g)::e=>if t=u then g else lk t e
structure ae where
 env:List (Nat×GV)
 bb:List (Nat×ak)
 nx:Nat
def ae.get (s:ae)(b:Nat):Option ak:=
 match gt b s.bb with
 |some y=>some y
 |none=>if b<s.nx then some .dead else none
def im:Value→RT
 | .slice none 0 0=> .nil
 |x=> .v x
def xW:Value→GV
 | .agg cs=> .a (cs.toList.map fun x=> .r (im x))
 | .tuple _=> .u
 |x=> .s (.r (im x))
def qg:Value→Bool
 | .agg cs=>cs.all Value.oneCell'
 | .tuple _=>true
 |_=>true
def ae.ev (s:ae):Operand→GV
 | .tmp t=>lk t s.env
 | .const v=>if qg v then xW v else .u
 | .global _=> .u
 | .func f=> .fQ (.func f) [] []
def bE (e:List (Nat×GV)):List Operand→List (Nat×GV)
 |[]=>[]
 | .tmp t::xs=>(t,lk t e)::bE e xs
 |_::xs=>bE e xs
theorem qJ {w:World}{D:Nat→Prop}{x:Value}(h:x.oneCell'=true):cE w D x (im x):=by
 unfold im;split
 ·exact .nil
 ·exact .v h
theorem IU {ρ:Nat→Option Value}{w:World}{D:Nat→Prop}{v:Value}(h:qg v=true):bg ρ w D v (xW v):=by
 cases v
 case agg cs=>
  simp only[qg,Array.all_eq_true_iff_forall_mem]at h;refine .a (by simp) fun i t ht=>?_
  simp only[List.getElem?_map,Option.map_eq_some_iff]at ht;obtain⟨x,hx,rfl⟩:=ht;have hY:cs[i]?=some x:=by simpa using hx
  simp only[Array.getD_eq_getD_getElem?,hY,Option.getD_some];exact .r (qJ (h x (Array.mem_of_getElem? hY)))
 case tuple=>exact .u
 all_goals exact .s (.r (qJ rfl))
theorem bc {C:Ctx}{env:Nat→GV}{get:Nat→Option ak}{a:Act}{w:World}{ρ:Nat→Option Value}{D:Nat→Prop}{s:ae}(hR:Rel C env get a w ρ D){xs:List Operand}
  (hi:∀x∈bE s.env xs,env x.1=x.2) {x:Operand} (hx:x∈xs):bg ρ w D (a.eval x) (s.ev x):=by
 cases x with
 |const v=>
  show bg ρ w D v (if qg v then xW v else .u)
  split
  ·exact IU ‹_›
  ·exact .u
 |global g=>exact .u
 |func f=>exact .fQ rfl rfl (fun i g h=>(by simp at h)) fun i g h=>(by simp at h)
 |tmp t=>
  have:env t=lk t s.env:=by
   induction xs with
   |nil=>cases hx
   |cons y ys ih=>
    rcases List.mem_cons.1 hx with rfl|hx
    ·exact hi (t,_) (List.mem_cons_self ..)
    ·refine ih (fun z hz=>hi z ?_) hx
     cases y<;>first|exact hz|exact List.mem_cons_of_mem _ hz
  show bg ρ w D (a.tmps.getD t undef) (lk t s.env)
  rw[←this];exact hR.env t
def zk (E:List PanicEntry→World→Prop)(Q:Exit→Act→World→Prop):Prop:=∀ch a w,a.defers=[]→E ch w→Q (.panic ch) a w
def dT (P:Program)(E:List PanicEntry→World→Prop)(nt:Nat)(o:Oper)(fr:List (Nat×Option ak))(ins:List (Nat×GV))(gv:GV)(Δ:List (Nat×ak)):Prop:=
 ∀C env get a w (K:Act→World→Prop) Q,C.nt=nt→(∀x∈fr,get x.1=x.2)→(∀x∈ins,env x.1=x.2)→R C env get a w→(∀a' w',R C (put env o.dst gv) (upd get Δ) a' w'→K a' w')→zk E Q→o.wp P a w K Q
theorem IV (get:Nat→Option ak):upd get []=get:=rfl
def bF (o:Oper)(nt:Nat):Bool:=match o.dst with|some d=>decide (d<nt)|none=>true
theorem dT.still {P:Program}{E:List PanicEntry→World→Prop}{nt:Nat}{o:Oper}{fr:List (Nat×Option ak)}{ins:List (Nat×GV)}{gv:GV}(hd:bF o nt=true)
  (h:∀C env get a w ρ D,(∀x∈fr,get x.1=x.2)→(∀x∈ins,env x.1=x.2)→Rel C env get a w ρ D→∃v,(execOp a.eval o).run P w= .ok (.value v) w∧bg ρ w D v gv):dT P E nt o fr ins gv []:=by
 intro C env get a w K Q hn hf hi hR hK hE;obtain⟨ρ,D,hR⟩:=hR;obtain⟨v,hv,hg⟩:=h C env get a w ρ D hf hi hR;unfold Oper.wp;rw[hv,Oper.upon_value];refine hK _ _ ⟨ρ,D,hR.put (fun d e=>?_) hg⟩
 unfold bF at hd;rw[e]at hd;simpa[hn]using hd
def GV.b?:GV→Option Bool
 | .s (.r (.v (.bool b)))=>some b
 |_=>none
def GV.i?:GV→Option (IntKind×Int)
 | .s (.r (.v (.int k n)))=>some (k,n)
 |_=>none
theorem GV.xX {ρ:Nat→Option Value}{w:World}{D:Nat→Prop}{v:Value}{g:GV}{b:Bool}(h:g.b?=some b)(hr:bg ρ w D v g):v= .bool b:=by
 unfold GV.b? at h;split at h
 ·cases h
  cases hr with|s hr=>cases hr with|r hr=>cases hr;rfl
 ·cases h
theorem GV.fU {ρ:Nat→Option Value}{w:World}{D:Nat→Prop}{v:Value}{g:GV}{k:IntKind}{n:Int}(h:g.i?=some (k,n))(hr:bg ρ w D v g):v= .int k n:=by
 unfold GV.i? at h;split at h
 ·cases h
  cases hr with|s hr=>cases hr with|r hr=>cases hr;rfl
 ·cases h
def ae.view (s:ae):GV→Option (Nat×List (List RT)×List (Nat×Option ak))
 | .s (.r (.sl k xs))=>some (k,xs,[])
 | .s (.r .nil)=>some (0,[],[])
 | .s (.own b)=>match s.get b with
   |some (.rows e k xs)=>some (k,xs,[(b,some (.rows e k xs))])
   |_=>none
 |_=>none
theorem vO {C:Ctx}{env:Nat→GV}{get:Nat→Option ak}{a:Act}{w:World}{ρ:Nat→Option Value}{D:Nat→Prop}{s:ae}(hR:Rel C env get a w ρ D){g:GV}{k:Nat}{xs:List (List RT)}{fr:List (Nat×Option ak)}
  (h:s.view g=some (k,xs,fr)) (hf:∀x∈fr,get x.1=x.2) {v:Value} (hr:bg ρ w D v g):∃A c,v= .slice A xs.length c∧xs.length≤c∧c≤maxLen∧Row w D A k xs:=by
 unfold ae.view at h;split at h
 ·cases h
  cases hr with|s hr=>cases hr with|r hr=>
  obtain⟨A,c,h1,h2,h3,h4,_⟩:=hr.slice;exact⟨A,c,h1,h2,h3,h4⟩
 ·cases h
  cases hr with|s hr=>cases hr with|r hr=>cases hr;exact⟨none,0,rfl,Nat.zero_le _,Nat.zero_le _,fun i e he=>(by simp at he)⟩
 ·rename_i b
  split at h
  ·rename_i e k' xs' hg
   cases h;have hb:get b=some (.rows e k xs):=hf _ (List.mem_cons_self ..)
   obtain⟨A,c,e1,h1,h2,h3,h4,h5⟩:=hR.blk b _ hb
   cases hr with|s hr=>cases hr with|own hr=>
   rw[e1]at hr
   cases hr;refine⟨A,c,rfl,h1,h2,fun i y hy=>⟨h4 i y hy,?_⟩⟩
   rcases h5 with⟨_,rfl,_⟩|⟨g,arr,rfl,h6,h7,h8⟩
   ·simp at hy
   ·refine⟨g,0,rfl,fun j r hj=>⟨arr.getD (i*k+j) undef,?_,h8 i y hy j r hj⟩⟩
    have hi:i<xs.length:=(List.getElem?_eq_some_iff.1 hy).1
    have MA:j<y.length:=(List.getElem?_eq_some_iff.1 hj).1
    rw[h4 i y hy]at MA;have aj:i*k+j<arr.size:=by
     rw[h7]
     calc i*k+j<i*k+k:=by omega
      _=(i+1)*k:=by rw[Nat.add_mul,Nat.one_mul]
      _≤c*k:=Nat.mul_le_mul_right k (by omega)
    simp[World.cell?,h6,Array.getD_eq_getD_getElem?,Array.getElem?_eq_getElem aj]
  ·cases h
 ·cases h
def GV.cells?:GV→Option (List TV)
 | .s t=>some [t]
 | .a ts=>some ts
 |_=>none
theorem ky {ρ:Nat→Option Value}{w:World}{D:Nat→Prop}{v:Value}{g:GV}{ts:List TV}(h:g.cells?=some ts)(hr:bg ρ w D v g):v.cells.size=ts.length∧∀(i:Nat) (t:TV),ts[i]?=some t→cn ρ w D (v.cells.getD i undef) t:=by
 unfold GV.cells? at h;split at h
 ·cases h
  cases hr with|s hr=>
  rw[Mz hr.one];refine⟨rfl,fun i t ht=>?_⟩
  cases i with
  |zero=>simp at ht;subst ht;exact hr
  |succ i=>simp at ht
 ·cases h
  cases hr with|a hn h=>exact⟨hn,h⟩
 ·cases h
def mk (agg:Bool)(cs:List TV):GV:=if agg then .a cs else match cs with
 |[c]=> .s c
 |_=> .u
def rs (xs:List RT):List TV:=xs.map .r
end Go.Proofs.YtlhohdjniaebbaaGreat.T
namespace Go.Proofs.YtlhohdjniaebbaaGreat.T
open Go Go.RowKit
def GV.agg?:GV→Option (List TV)
 | .a ts=>some ts
 |_=>none
def GV.tup?:GV→Option (List GV)
 | .p gs=>some gs
 |_=>none
def mP (o:Nat):GV→Option GV
 | .s (.ptr b off)=>some (.s (.ptr b (off+o)))
 | .s (.row b k i off)=>some (.s (.row b k i (off+o)))
 | .s (.iZ xs off)=>some (.s (.iZ xs (off+o)))
 |_=>none
def oF (T:TypeId→Option TD)(t f:Nat):Option (Nat×TD):=
 match T t with
 |some d=>match d.k with
  | .struct fs=>match fs[f]? with
    |some (o,ft)=>match T ft with
     |some d'=>some (o,d')
     |none=>none
    |none=>none
  |_=>none
 |none=>none
def ae.deref (s:ae):GV→Option (List (Nat×Option ak)×List TV)
 | .s (.ptr b off)=>match s.get b with
   |some (.box cs)=>some ([(b,some (.box cs))],cs.drop off)
   |_=>none
 | .s (.row b k i off)=>match s.get b with
   |some (.rows e k' xs)=>if k=k' then match xs[i]? with
    |some y=>some ([(b,some (.rows e k' xs))],rs (y.drop off))
    |none=>none
    else none
   |_=>none
 | .s (.iZ xs off)=>some ([],rs (xs.drop off))
 |_=>none
def ae.elem (s:ae)(T:TypeId→Option TD)(t:TypeId)(n:Nat)(g:GV)(K:List (Nat×Option ak)→GV→Prop):Prop:=
 match T t with
 |some d=>match d.k with
  | .slice e=>match g with
    | .s (.own b)=>match s.get b with
      |some (.rows e' k xs)=>(T e).map TD.size=some k∧n<xs.length∧K [(b,some (.rows e' k xs))] (.s (.row b k n 0))
      |_=>False
    | .s (.r (.sl k xs))=>(T e).map TD.size=some k∧∃y,xs[n]?=some y∧K [] (.s (.iZ y 0))
    |_=>False
  | .array m e=>n<m∧∃z g',(T e).map TD.size=some z∧mP (n*z) g=some g'∧K [] g'
  |_=>False
 |none=>False
def N5:BinOp→Int→Int→Option Bool
 | .eql,x,y=>some (decide (x=y))
 | .neq,x,y=>some (!decide (x=y))
 | .lss,x,y=>some (decide (x<y))
 | .leq,x,y=>some (decide (x≤y))
 | .gtr,x,y=>some (decide (y<x))
 | .geq,x,y=>some (decide (y≤x))
 |_,_,_=>none
def Xs (k:IntKind):BinOp→Int→Int→Option Int
 | .add,x,y=>some (k.wrap (x+y))
 | .sub,x,y=>some (k.wrap (x-y))
 | .mul,x,y=>some (k.wrap (x*y))
 | .quo,x,y=>if y=0 then none else some (k.wrap (x.tdiv y))
 | .rem,x,y=>if y=0 then none else some (x.tmod y)
 | .shl,x,y=>if y<0 then none else some (k.wrap (x*2^min y.toNat k.bits))
 | .shr,x,y=>if y<0 then none else some (x.fdiv (2^min y.toNat k.bits))
 | .and,x,y=>some (k.wrap (BitVec.ofInt k.bits x&&& BitVec.ofInt k.bits y).toNat)
 | .xor,x,y=>some (k.wrap (BitVec.ofInt k.bits x^^^BitVec.ofInt k.bits y).toNat)
 |_,_,_=>none
def gI (k:IntKind)(n:Int):GV:= .s (.r (.v (.int k n)))
def gB (b:Bool):GV:= .s (.r (.v (.bool b)))
def qh:BinOp→Bool
 | .shl| .shr=>true
 |_=>false
def N6 (Z_:Bool)(op:BinOp)(x y:GV):Option GV:=
 match x,y with
 | .s (.r (.v (.int k a))),.s (.r (.v (.int k' b)))=>
   if k=k'∨qh op=true then match N5 op a b with
    |some r=>if qh op=true then none else some (gB r)
    |none=>(Xs k op a b).map (gI k)
   else none
 | .s (.r (.v (.bool a))),.s (.r (.v (.bool b)))=>if Z_=true then match op with
   | .eql=>some (gB (a==b))
   | .neq=>some (gB (!(a==b)))
   |_=>none
   else none
 |_,_=>none
section
variable {P:Program}{E:List PanicEntry→World→Prop}{nt:Nat}{o:Oper}{s:ae}
theorem IW {x:Operand}(ho:o.op= .move x∨o.op= .assign x)(hd:bF o nt=true):dT P E nt o [] (bE s.env [x]) (s.ev x) []:=by
 refine .still hd fun C env get a w ρ D _ hi hR=>⟨a.eval x,?_,bc hR hi (List.mem_cons_self ..)⟩
 rcases ho with ho|ho<;>simp[execOp,ho]
theorem UQ {c x y:Operand}(ho:o.op= .pick c x y)(hd:bF o nt=true){t:Bool}(h:(s.ev c).b?=some t):dT P E nt o [] (bE s.env [c,x,y]) (if t then s.ev x else s.ev y) []:=by
 refine .still hd fun C env get a w ρ D _ hi hR=>?_;have h1:=GV.xX h (bc hR hi (x:=c) (by simp))
 refine⟨if t then a.eval x else a.eval y,?_,?_⟩
 ·simp[execOp,ho,h1,asBool]
 ·cases t
  ·exact bc hR hi (by simp)
  ·exact bc hR hi (by simp)
theorem wP {n:Nat}{g g':GV}(h:mP n g=some g'){ρ:Nat→Option Value}{w:World}{D:Nat→Prop}{v:Value}(hr:bg ρ w D v g):∃b o,v= .pointer (some ⟨b,o,none⟩)∧bg ρ w D (.pointer (some ⟨b,o+n,none⟩)) g':=by
 unfold mP at h;split at h
 ·cases h
  cases hr with|s hr=>cases hr with|ptr hr=>exact⟨_,_,rfl,.s (.ptr hr)⟩
 ·cases h
  cases hr with|s hr=>cases hr with|row hr=>exact⟨_,_,rfl,by rw[Nat.add_assoc];exact .s (.row hr)⟩
 ·cases h
  cases hr with|s hr=>cases hr with|iZ vs h1 h2 h3=>exact⟨_,_,rfl,by rw[Nat.add_assoc];exact .s (.iZ vs h1 h2 h3)⟩
 ·cases h
theorem qi {t f k:Nat}{d':TD}(h:oF (aE P) t f=some (k,d')):∃gs g,P.underlying t=some (.struct gs)∧gs[f]?=some g∧g.offset=k∧aE P g.type=some d':=by
 unfold oF at h;split at h
 ·rename_i d hd
  split at h
  ·rename_i fs hk
   split at h
   ·rename_i o ft hf
    split at h
    ·rename_i d1 h1
     cases h;obtain⟨gs,g,a1,a2,a3,a4⟩:=Q7 hd hk hf;exact⟨gs,g,a1,a2,a3,by rw[a4];exact h1⟩
    ·cases h
   ·cases h
  ·cases h
 ·cases h
theorem add_lit (b o n:Nat):Addr.add ⟨b,o,none⟩ n=⟨b,o+n,none⟩:=by
 unfold Addr.add;split
 ·simp_all
 ·rfl
theorem Bo {t f k:Nat}{x:Operand}(ho:o.op= .fieldAddr t x f)(hd:bF o nt=true){d':TD}(h:oF (aE P) t f=some (k,d'))(hz:d'.size≠0){g':GV}(hg:mP k (s.ev x)=some g'):
  dT P E nt o [] (bE s.env [x]) g' []:=by
 refine .still hd fun C env get a w ρ D _ hi hR=>?_;obtain⟨gs,g,h1,h2,h3,h4⟩:=qi h;obtain⟨b,off,e1,hr⟩:=wP hg (bc hR hi (x:=x) (by simp))
 refine⟨_,?_,hr⟩;simp[execOp,ho,Instr.fieldAt,e1,run_underlying h1,h2,Instr.sureAddr,fieldPlace,oE h4,hz,h3,add_lit]
theorem uq {ρ:Nat→Option Value}{w:World}{D:Nat→Prop}{agg:Bool}{cs:List TV}{arr:Array Value}(hn:arr.size=cs.length)(h:∀(i:Nat) (t:TV),cs[i]?=some t→cn ρ w D (arr.getD i undef) t)(h1:agg=true∨cs.length=1):
  bg ρ w D (if agg then .agg arr else arr.getD 0 undef) (mk agg cs):=by
 unfold mk
 cases agg
 ·match cs,h1 with
  |[c],_=>exact .s (h 0 c rfl)
 ·exact .a hn h
theorem qK {ρ:Nat→Option Value}{w:World}{D:Nat→Prop}{t:TypeId}{d:TD}(ht:aE P t=some d){arr:Array Value}{ts:List TV}{k:Nat}(hn:arr.size=ts.length)(h:∀(i:Nat) (t:TV),ts[i]?=some t→cn ρ w D (arr.getD i undef) t)
  (hl:k+d.size≤ts.length) (h1:d.k.agg=true∨d.size=1):∃v,(part t arr k).run P w= .ok v w∧bg ρ w D v (mk d.k.agg ((ts.drop k).take d.size)):=by
 have jj:(arr.extract k (k+d.size)).size=((ts.drop k).take d.size).length:=by
  simp only[Array.size_extract,List.length_take,List.length_drop,hn];omega
 have hx:∀(i:Nat) (t:TV),((ts.drop k).take d.size)[i]?=some t→cn ρ w D ((arr.extract k (k+d.size)).getD i undef) t:=by
  intro i t hi;rw[List.getElem?_take]at hi;split at hi
  ·rw[List.getElem?_drop]at hi
   have:=h _ _ hi
   have aj:k+i<arr.size:=by rw[hn];exact(List.getElem?_eq_some_iff.1 hi).1
   have e:(arr.extract k (k+d.size)).getD i undef=arr.getD (k+i) undef:=by
    simp only[Array.getD_eq_getD_getElem?,Array.getElem?_extract];rw[if_pos (by omega)]
   rw[e];exact this
  ·cases hi
 have hm:=uq jj hx (agg:=d.k.agg) (by
  rcases h1 with h1|h1
  ·exact .inl h1
  ·right;simp only[List.length_take,List.length_drop];omega)
 refine⟨_,?_,hm⟩;simp only[part,Sem.run_bind,rP ht,Result.andThen_ok]
 cases oG:d.k.agg
 ·have ji:d.size=1:=by simpa[oG]using h1
  have aj:k<arr.size:=by omega
  have e:(arr.extract k (k+d.size)).getD 0 undef=arr[k]:=by
   simp only[Array.getD_eq_getD_getElem?,Array.getElem?_extract];rw[if_pos (by omega)]
   simp[aj]
  simp[aj,e]
 ·simp[oE ht]
theorem Q8 {t f k:Nat}{x:Operand}(ho:o.op= .field t x f)(hd:bF o nt=true){d':TD}(h:oF (aE P) t f=some (k,d')){ts:List TV}(hg:(s.ev x).agg?=some ts)(hl:k+d'.size≤ts.length)(h1:d'.k.agg=true∨d'.size=1):
  dT P E nt o [] (bE s.env [x]) (mk d'.k.agg ((ts.drop k).take d'.size)) []:=by
 refine .still hd fun C env get a w ρ D _ hi hR=>?_;obtain⟨gs,g,u1,u2,u3,u4⟩:=qi h;have hr:=bc hR hi (x:=x) (by simp)
 have e:s.ev x= .a ts:=by
  unfold GV.agg? at hg;split at hg
  ·rename_i e;cases hg;exact e
  ·cases hg
 rw[e]at hr;generalize hv:a.eval x=v at hr
 cases hr with
 | @a arr _ hn hr=>
 obtain⟨v,r1,r2⟩:=qK u4 hn hr hl h1;refine⟨v,?_,r2⟩;simp[execOp,ho,Instr.field,hv,run_underlying u1,u2,asAgg,u3,r1]
theorem Q9 {t e m:Nat}{x ix:Operand}(ho:o.op= .index t x ix)(hd:bF o nt=true){d de:TD}(ht:aE P t=some d)(hk:d.k= .array m e)(he:aE P e=some de){k:IntKind}{n:Int}(hn:(s.ev ix).i?=some (k,n))(h0:0≤n)(hm:n<m)
  {ts:List TV} (hg:(s.ev x).agg?=some ts) (hl:n.toNat*de.size+de.size≤ts.length) (h1:de.k.agg=true∨de.size=1):dT P E nt o [] (bE s.env [x,ix]) (mk de.k.agg ((ts.drop (n.toNat*de.size)).take de.size)) []:=by
 refine .still hd fun C env get a w ρ D _ hi hR=>?_;have hr:=bc hR hi (x:=x) (by simp)
 have gr:=GV.fU hn (bc hR hi (x:=ix) (by simp))
 have e:s.ev x= .a ts:=by
  unfold GV.agg? at hg;split at hg
  ·rename_i e;cases hg;exact e
  ·cases hg
 rw[e]at hr;generalize hv:a.eval x=v at hr
 cases hr with
 | @a arr _ hn hr=>
 obtain⟨v,r1,r2⟩:=qK he hn hr hl h1;refine⟨v,?_,r2⟩;simp[execOp,ho,Instr.index,hv,gr,asIntOf,run_underlying (vN ht hk),h0,hm,oE he,r1]
theorem IX {x:Operand}{i:Nat}(ho:o.op= .extract x i)(hd:bF o nt=true){gs:List GV}(hg:(s.ev x).tup?=some gs){g:GV}(dQ:gs[i]?=some g):dT P E nt o [] (bE s.env [x]) g []:=by
 refine .still hd fun C env get a w ρ D _ hi hR=>?_;have hr:=bc hR hi (x:=x) (by simp)
 have e:s.ev x= .p gs:=by
  unfold GV.tup? at hg;split at hg
  ·rename_i e;cases hg;exact e
  ·cases hg
 rw[e]at hr;generalize hv:a.eval x=v at hr
 cases hr with
 | @p vs _ hn hr=>
 have aj:i<vs.size:=by rw[hn];exact(List.getElem?_eq_some_iff.1 dQ).1
 refine⟨vs[i],?_,?_⟩
 ·simp[execOp,ho,Instr.extract,hv,aj]
 ·have:=hr i g dQ
  simpa[Array.getD_eq_getD_getElem?,aj]using this
theorem Et {fn:Fn}{f c:Array Operand}(ho:o.op= .makeFunc fn f c)(hd:bF o nt=true):dT P E nt o [] (bE s.env (f++c).toList) (.fQ fn (f.toList.map s.ev) (c.toList.map s.ev)) []:=by
 refine .still hd fun C env get a w ρ D _ hi hR=>⟨.func fn (f.map a.eval) (c.map a.eval),?_,?_⟩
 ·simp[execOp,ho,Instr.makeFunc]
 ·refine .fQ (by simp) (by simp) (fun i g hg=>?_) fun i g hg=>?_
  ·rw[List.getElem?_map,Option.map_eq_some_iff]at hg
   obtain⟨x,hx,rfl⟩:=hg;have hY:f[i]?=some x:=by simpa using hx
   simp only[Array.getD_eq_getD_getElem?,Array.getElem?_map,hY,Option.map_some,Option.getD_some];exact bc hR hi (by simp;exact .inl (Array.mem_of_getElem? hY))
  ·rw[List.getElem?_map,Option.map_eq_some_iff]at hg
   obtain⟨x,hx,rfl⟩:=hg;have hY:c[i]?=some x:=by simpa using hx
   simp only[Array.getD_eq_getD_getElem?,Array.getElem?_map,hY,Option.map_some,Option.getD_some];exact bc hR hi (by simp;exact .inr (Array.mem_of_getElem? hY))
theorem Xt {x:Operand}{t:TypeId}(ho:o.op= .call {callee:= .builtin .len,args:= #[x],argTypes:= #[t]})(hd:bF o nt=true){d:TD}{e:TypeId}(ht:aE P t=some d)(hk:d.k= .slice e){k:Nat}{xs:List (List RT)}{fr:List (Nat×Option ak)}
  (hv:s.view (s.ev x)=some (k,xs,fr)):dT P E nt o fr (bE s.env [x]) (gI .i64 xs.length) []:=by
 refine .still hd fun C env get a w ρ D hf hi hR=>?_;obtain⟨A,c,e1,_⟩:=vO hR hv hf (bc hR hi (x:=x) (by simp))
 refine⟨.int .i64 xs.length,?_,.s (.r (.v rfl))⟩;simp[execOp,ho,resolve,invoke,builtin,Builtin.len_,e1,run_underlying (jW ht hk),goInt]
theorem Xu {x:Operand}{t:TypeId}(ho:o.op= .unOp .not t x)(hd:bF o nt=true){b:Bool}(hv:(s.ev x).b?=some b):dT P E nt o [] (bE s.env [x]) (gB (!b)) []:=by
 refine .still hd fun C env get a w ρ D hf hi hR=>⟨.bool (!b),?_,.s (.r (.v rfl))⟩
 have:=GV.xX hv (bc hR hi (x:=x) (by simp))
 simp[execOp,ho,Op.unary,this]
theorem Xv {x:Operand}{t:TypeId}(ho:o.op= .unOp .neg t x)(hd:bF o nt=true){k:IntKind}{n:Int}(hv:(s.ev x).i?=some (k,n)):dT P E nt o [] (bE s.env [x]) (gI k (k.wrap (0-n))) []:=by
 refine .still hd fun C env get a w ρ D hf hi hR=>⟨.int k (k.wrap (0-n)),?_,.s (.r (.v rfl))⟩
 have:=GV.fU hv (bc hR hi (x:=x) (by simp))
 simp[execOp,ho,Op.unary,this,Op.intArith]
theorem uu {ρ:Nat→Option Value}{w:World}{D:Nat→Prop}{v:Value}{k:IntKind}{n:Int}(h:bg ρ w D v (.s (.r (.v (.int k n))))):v= .int k n:=GV.fU rfl h
theorem qL {ρ:Nat→Option Value}{w:World}{D:Nat→Prop}{v:Value}{b:Bool}(h:bg ρ w D v (.s (.r (.v (.bool b))))):v= .bool b:=GV.xX rfl h
theorem Xw {op:BinOp}{t yt:TypeId}{x y:Operand}(ho:o.op= .binOp op t x y yt)(hd:bF o nt=true){bt:Bool}(hb:bt=true→P.underlying t=some .bool){g:GV}(hg:N6 bt op (s.ev x) (s.ev y)=some g):dT P E nt o [] (bE s.env [x,y]) g []:=by
 refine .still hd fun C env get a w ρ D hf hi hR=>?_;have hx:=bc hR hi (x:=x) (by simp)
 have hy:=bc hR hi (x:=y) (by simp)
 unfold N6 at hg;split at hg
 ·rename_i k m k' n ex ey
  rw[ex]at hx;rw[ey]at hy;have ax:=uu hx;have ay:=uu hy;split at hg
  ·rename_i hk
   split at hg
   ·rename_i r hr
    split at hg
    ·cases hg
    ·rename_i hs
     cases hg;have cQ:k=k':=by simpa[hs]using hk
     subst cQ;refine⟨.bool r,?_,.s (.r (.v rfl))⟩
     cases op<;>simp only[N5,reduceCtorEq,Option.some.injEq]at hr<;>subst hr<;>simp[execOp,ho,ax,ay,eqGuard,binOp,Op.intCmp,bne,BEq.beq]
   ·rename_i hr
    obtain⟨n',hn,rfl⟩:=Option.map_eq_some_iff.1 hg;refine⟨.int k n',?_,.s (.r (.v rfl))⟩;by_cases hs:qh op=true
    ·cases op<;>simp[qh]at hs
     all_goals
      simp only[Xs,Option.ite_none_left_eq_some]at hn;obtain⟨h0,hn⟩:=hn
      cases hn;simp[execOp,ho,ax,ay,eqGuard,binOp,Op.shift,h0]
    ·have cQ:k=k':=by simpa[hs]using hk
     subst cQ
     cases op<;>simp only[N5,reduceCtorEq]at hr<;>simp only[Xs,reduceCtorEq,Option.some.injEq,Option.ite_none_left_eq_some]at hn
     all_goals first
      |(subst hn;simp[execOp,ho,ax,ay,eqGuard,binOp,Op.intArith,Op.intBits];done)
      |(obtain⟨h0,hn⟩:=hn;subst hn;simp[execOp,ho,ax,ay,eqGuard,binOp,Op.intDiv,h0];done)
      |(exact absurd rfl hs)
  ·cases hg
 ·rename_i m n ex ey
  rw[ex]at hx;rw[ey]at hy;have ax:=qL hx;have ay:=qL hy;split at hg
  ·rename_i hbt
   have hu:=hb hbt;split at hg
   ·cases hg
    refine⟨.bool (m==n),?_,.s (.r (.v rfl))⟩;have:=run_eql_bool (P:=P) w t m n hu
    simp[execOp,ho,ax,ay,eqGuard,this]
   ·cases hg
    refine⟨.bool (!(m==n)),?_,.s (.r (.v rfl))⟩;have:=run_neq_bool (P:=P) w t m n hu
    simp[execOp,ho,ax,ay,eqGuard,this]
   ·cases hg
  ·cases hg
 ·cases hg
theorem kQ {t:TypeId}{d:TD}(ht:aE P t=some d)(h1:d.k.agg=true∨d.size=1){w:World}{b o:Nat}(f:Nat→Value)(h:∀j,j<d.size→w.cell? ⟨b,o+j,none⟩=some (f j)):
  (loadVar t ⟨b,o,none⟩).run P w= .ok (if d.k.agg then .agg ((List.range d.size).map f).toArray else((List.range d.size).map f).toArray.getD 0 undef) w:=by
 simp only[loadVar,Sem.run_bind,rP ht,Result.andThen_ok]
 cases oG:d.k.agg
 ·have ji:d.size=1:=by simpa[oG]using h1
  have:=h 0 (by omega)
  simp only[Nat.add_zero]at this;simp[this,ji]
 ·have hl:=run_loadCells_list (P:=P) w ⟨b,o,none⟩ ((List.range d.size).map f) (fun j v hj=>by
   rw[List.getElem?_map,Option.map_eq_some_iff]at hj;obtain⟨i,hi,rfl⟩:=hj;rw[List.getElem?_eq_some_iff]at hi;obtain⟨aj,e⟩:=hi;simp at e aj
   subst e;rw[add_lit];exact h j aj)
  simp only[List.length_map,List.length_range]at hl;simp[oE ht,hl]
theorem sV {C:Ctx}{env:Nat→GV}{get:Nat→Option ak}{a:Act}{w:World}{ρ:Nat→Option Value}{D:Nat→Prop}(hR:Rel C env get a w ρ D){g:GV}{cs:List TV}{fr:List (Nat×Option ak)}
  (h:s.deref g=some (fr,cs)) (hf:∀x∈fr,get x.1=x.2) {v:Value} (hr:bg ρ w D v g):∃b k,v= .pointer (some ⟨b,k,none⟩)∧∀(j:Nat) (t:TV),cs[j]?=some t→∃x,w.cell? ⟨b,k+j,none⟩=some x∧cn ρ w D x t:=by
 unfold ae.deref at h;split at h
 ·rename_i b off
  split at h
  ·rename_i bZ hg
   cases h;have hb:=hf _ (List.mem_cons_self ..);obtain⟨g',arr,ty,e1,h1,h2,h3⟩:=hR.blk b _ hb
   cases hr with|s hr=>cases hr with|ptr hr=>
   rw[e1]at hr
   cases hr;refine⟨_,_,rfl,fun j t hj=>?_⟩
   rw[List.getElem?_drop]at hj;have aj:off+j<arr.size:=by rw[h2];exact(List.getElem?_eq_some_iff.1 hj).1
   refine⟨arr[off+j],by simp[World.cell?,h1,aj],?_⟩
   simpa[Array.getD_eq_getD_getElem?,aj]using h3 _ _ hj
  ·cases h
 ·rename_i b k i off
  split at h
  ·rename_i e k' xs hg
   split at h
   ·rename_i hk
    subst hk;split at h
    ·rename_i y hy
     cases h;have hb:=hf _ (List.mem_cons_self ..);obtain⟨A,c,e1,h1,h2,h3,h4,h5⟩:=hR.blk b _ hb
     cases hr with|s hr=>cases hr with| @row _ _ _ _ g' n' c' hr=>
     rw[e1]at hr
     cases hr;refine⟨_,_,rfl,fun j t hj=>?_⟩
     rw[rs,List.getElem?_map,List.getElem?_drop,Option.map_eq_some_iff]at hj;obtain⟨r,fl,rfl⟩:=hj;rcases h5 with⟨h5,_⟩|⟨g'',arr,e2,h6,h7,h8⟩
     ·cases h5
     ·cases e2
      have hi:i<xs.length:=(List.getElem?_eq_some_iff.1 hy).1
      have MA:off+j<y.length:=(List.getElem?_eq_some_iff.1 fl).1
      rw[h4 i y hy]at MA;have aj:i*k+off+j<arr.size:=by
       rw[h7]
       calc i*k+off+j<i*k+k:=by omega
        _=(i+1)*k:=by rw[Nat.add_mul,Nat.one_mul]
        _≤c*k:=Nat.mul_le_mul_right k (by omega)
      refine⟨arr[i*k+off+j],by simp[World.cell?,h6,aj],.r ?_⟩
      have:=h8 i y hy (off+j) r fl
      rw[←Nat.add_assoc]at this;simpa[Array.getD_eq_getD_getElem?,aj]using this
    ·cases h
   ·cases h
  ·cases h
 ·rename_i xs off
  cases h
  cases hr with|s hr=>cases hr with|iZ vs h1 h2 h3=>
  refine⟨_,_,rfl,fun j t hj=>?_⟩
  rw[rs,List.getElem?_map,List.getElem?_drop,Option.map_eq_some_iff]at hj;obtain⟨r,fl,rfl⟩:=hj;exact⟨_,by rw[Nat.add_assoc];exact h2 _ _ fl,.r (h3 _ _ fl)⟩
 ·cases h
theorem UR {t:TypeId}{x:Operand}(ho:o.op= .load t x)(hd:bF o nt=true){d:TD}(ht:aE P t=some d){fr:List (Nat×Option ak)}{cs:List TV}(hg:s.deref (s.ev x)=some (fr,cs))(hl:d.size≤cs.length)(h1:d.k.agg=true∨d.size=1):
  dT P E nt o fr (bE s.env [x]) (mk d.k.agg (cs.take d.size)) []:=by
 refine .still hd fun C env get a w ρ D hf hi hR=>?_;obtain⟨b,k,e1,hc⟩:=sV hR hg hf (bc hR hi (x:=x) (by simp))
 have cb:∀j,j<d.size→w.cell? ⟨b,k+j,none⟩=some ((w.cell? ⟨b,k+j,none⟩).getD undef):=fun j hj=>by
  obtain⟨x,hx,_⟩:=hc j cs[j] (List.getElem?_eq_getElem (by omega))
  simp[hx]
 refine⟨_,by simp only[execOp,ho,Instr.loadAt,e1,Sem.run_bind,Instr.sureAddr,Sem.run_pure,Result.andThen_ok];rw[kQ ht h1 _ cb];rfl,?_⟩
 refine uq (by simp;omega) (fun i t hi=>?_) (by rcases h1 with h1|h1;exact .inl h1;right;simp;omega)
 rw[List.getElem?_take]at hi;split at hi
 ·rename_i aj
  obtain⟨x,hx,hr⟩:=hc i t hi;simpa[Array.getD_eq_getD_getElem?,aj,hx]using hr
 ·cases hi
theorem US {t:TypeId}{x ix:Operand}(ho:o.op= .indexAddr t x ix)(hd:bF o nt=true){k:IntKind}{n:Int}(hn:(s.ev ix).i?=some (k,n))(h0:0≤n){K:List (Nat×Option ak)→GV→Prop}(h:s.elem (aE P) t n.toNat (s.ev x) K):
  ∃fr g,dT P E nt o fr (bE s.env [x,ix]) g []∧(∀y∈fr,s.get y.1=y.2)∧K fr g:=by
 unfold ae.elem at h;split at h
 ·rename_i d ht
  split at h
  ·rename_i e hk
   have hu:=jW ht hk;split at h
   ·rename_i b eb
    split at h
    ·rename_i e' k' xs hg
     obtain⟨hz,aj,hK⟩:=h;refine⟨_,_,.still hd fun C env get a w ρ D hf hi hR=>?_,(fun y hy=>by simp at hy;subst hy;exact hg),hK⟩
     obtain⟨de,lp,hz⟩:=Option.map_eq_some_iff.1 hz;have hb:=hf _ (List.mem_cons_self ..);obtain⟨A,c,e1,h1,h2,h3,h4,h5⟩:=hR.blk b _ hb;have hr:=bc hR hi (x:=x) (by simp)
     have gr:=GV.fU hn (bc hR hi (x:=ix) (by simp))
     rw[eb]at hr;generalize hv:a.eval x=v at hr
     cases hr with|s hr=>cases hr with|own hr=>
     rw[e1]at hr
     cases hr;rcases h5 with⟨_,rfl,_⟩|⟨g',arr,rfl,h6,h7,h8⟩
     ·simp at aj
     ·refine⟨.pointer (some ⟨g',n.toNat*k'+0,none⟩),?_,.s (.row e1)⟩
      have uw:n<xs.length:=by omega
      simp[execOp,ho,Instr.indexAt,gr,asIntOf,run_underlying hu,hv,h0,uw,oE lp,hz,add_lit]
    ·exact h.elim
   ·rename_i k' xs eb
    obtain⟨hz,y,hy,hK⟩:=h;refine⟨_,_,.still hd fun C env get a w ρ D hf hi hR=>?_,(fun y hy=>by cases hy),hK⟩
    obtain⟨de,lp,hz⟩:=Option.map_eq_some_iff.1 hz;have hr:=bc hR hi (x:=x) (by simp)
    have gr:=GV.fU hn (bc hR hi (x:=ix) (by simp))
    rw[eb]at hr;generalize hv:a.eval x=v at hr
    cases hr with|s hr=>cases hr with|r hr=>
    obtain⟨A,c,rfl,h1,h2,h3,h4⟩:=hr.slice;obtain⟨g1,b,off,rfl,g3⟩:=h3 _ y hy;have aj:n.toNat<xs.length:=(List.getElem?_eq_some_iff.1 hy).1
    have cv:xs≠[]:=by intro e;subst e;simp at aj
    refine⟨.pointer (some ⟨b,off+n.toNat*k'+0,none⟩),?_,.s (.iZ (fun j=>(w.cell? ⟨b,off+n.toNat*k'+j,none⟩).getD undef) (h4 _ _ rfl cv) (fun j r hj=>?_) fun j r hj=>?_)⟩
    ·have uw:n<xs.length:=by omega
     simp[execOp,ho,Instr.indexAt,gr,asIntOf,run_underlying hu,hv,h0,uw,oE lp,hz,add_lit]
    ·obtain⟨v,fM,_⟩:=g3 j r hj
     rw[←Nat.add_assoc]at fM;simp[fM]
    ·obtain⟨v,fM,fl⟩:=g3 j r hj
     rw[←Nat.add_assoc]at fM;simpa[fM]using fl
   ·exact h.elim
  ·rename_i m e hk
   obtain⟨hm,z,g',hz,bf,hK⟩:=h;refine⟨_,_,.still hd fun C env get a w ρ D hf hi hR=>?_,(fun y hy=>by cases hy),hK⟩
   obtain⟨de,lp,hz⟩:=Option.map_eq_some_iff.1 hz;have gr:=GV.fU hn (bc hR hi (x:=ix) (by simp))
   obtain⟨b,off,e1,hr⟩:=wP bf (bc hR hi (x:=x) (by simp))
   refine⟨_,?_,hr⟩;have uw:n<m:=by omega
   simp[execOp,ho,Instr.indexAt,Instr.sureAddr,gr,asIntOf,run_underlying (vN ht hk),e1,h0,uw,oE lp,hz,add_lit]
  ·exact h.elim
 ·exact h.elim
end
end Go.Proofs.YtlhohdjniaebbaaGreat.T
