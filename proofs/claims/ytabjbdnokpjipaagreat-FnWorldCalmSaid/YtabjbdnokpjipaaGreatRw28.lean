/-
What is proved: how values, memory and temporaries stand for trees and what rests on it. Conditions: as stated.
-/
import Derived.WalkKit
import Derived.Orders
set_option linter.unusedVariables false
set_option linter.unusedSimpArgs false
namespace Go.Proofs.YtabjbdnokpjipaaGreat.T
open Go Go.RowKit
inductive RT where
 |v (x:Value)
 |nil
 |sl (k:Nat) (xs:List (List RT))
inductive TV where
 |r (t:RT)
 |own (b:Nat)
 |ptr (b off:Nat)
 |row (b k i off:Nat)
 |kN (xs:List RT) (off:Nat)
inductive GV where
 |s (t:TV)
 |a (ts:List TV)
 |p (gs:List GV)
 |gK (fn:Fn) (first oC:List GV)
 |fD (t:TypeId) (g:GV)
 |u
inductive az where
 |box (cs:List TV)
 |rows (e k:Nat) (xs:List (List RT))
 |dead
inductive dh (w:World) (D:Nat→Prop):Value→RT→Prop
 |v {x:Value} (h:x.oneCell'=true):dh w D x (.v x)
 |nil:dh w D (.slice none 0 0) .nil
 |EM {A:Option Addr} {c k:Nat} (hm:c≤maxLen):dh w D (.slice A 0 c) (.sl k [])
 |sl {b o c k:Nat} {xs:List (List RT)} (vs:Nat→Nat→Value) (hc:xs.length≤c) (hm:c≤maxLen) (hD:D b) (hk:∀(i:Nat) (e:List RT),xs[i]?=some e→e.length=k)
   (hv:∀(i:Nat) (e:List RT),xs[i]?=some e→∀(j:Nat) (r:RT),e[j]?=some r→w.cell? ⟨b,o+(i*k+j),none⟩=some (vs i j)) (hr:∀(i:Nat) (e:List RT),xs[i]?=some e→∀(j:Nat) (r:RT),e[j]?=some r→dh w D (vs i j) r):
   dh w D (.slice (some ⟨b,o,none⟩) xs.length c) (.sl k xs)
inductive cG (ρ:Nat→Option Value) (w:World) (D:Nat→Prop):Value→TV→Prop
 |r {v:Value} {t:RT} (h:dh w D v t):cG ρ w D v (.r t)
 |own {b n c:Nat} {A:Option Addr} (h:ρ b=some (.slice A n c)):cG ρ w D (.slice A n c) (.own b)
 |ptr {b g off:Nat} (h:ρ b=some (.pointer (some ⟨g,0,none⟩))):cG ρ w D (.pointer (some ⟨g,off,none⟩)) (.ptr b off)
 |row {b k i off g n c:Nat} (h:ρ b=some (.slice (some ⟨g,0,none⟩) n c)):cG ρ w D (.pointer (some ⟨g,i*k+off,none⟩)) (.row b k i off)
 |kN {g o off:Nat} {xs:List RT} (vs:Nat→Value) (hD:D g) (hv:∀(j:Nat) (r:RT),xs[j]?=some r→w.cell? ⟨g,o+j,none⟩=some (vs j)) (hr:∀(j:Nat) (r:RT),xs[j]?=some r→dh w D (vs j) r):
   cG ρ w D (.pointer (some ⟨g,o+off,none⟩)) (.kN xs off)
inductive bA (ρ:Nat→Option Value) (w:World) (D:Nat→Prop):Value→GV→Prop
 |s {v:Value} {t:TV} (h:cG ρ w D v t):bA ρ w D v (.s t)
 |a {arr:Array Value} {ts:List TV} (hn:arr.size=ts.length) (h:∀(i:Nat) (t:TV),ts[i]?=some t→cG ρ w D (arr.getD i undef) t):bA ρ w D (.agg arr) (.a ts)
 |p {vs:Array Value} {gs:List GV} (hn:vs.size=gs.length) (h:∀(i:Nat) (g:GV),gs[i]?=some g→bA ρ w D (vs.getD i undef) g):bA ρ w D (.tuple vs) (.p gs)
 |gK {fn:Fn} {first oC:Array Value} {fs cs:List GV} (hf:first.size=fs.length) (hc:oC.size=cs.length) (h1:∀(i:Nat) (g:GV),fs[i]?=some g→bA ρ w D (first.getD i undef) g) (h2:∀(i:Nat) (g:GV),cs[i]?=some g→bA ρ w D (oC.getD i undef) g):
   bA ρ w D (.func fn first oC) (.gK fn fs cs)
 |fD {t:TypeId} {v:Value} {g:GV} (h:bA ρ w D v g):bA ρ w D (.iface t v) (.fD t g)
 |u {v:Value}:bA ρ w D v .u
def cD (D:Nat→Prop)(w w':World):Prop:=∀b,D b→w'.heap[b]?=w.heap[b]?
theorem cD.refl (D:Nat→Prop)(w:World):cD D w w:=fun _ _=>rfl
theorem cD.cell {D:Nat→Prop}{w w':World}(h:cD D w w'){b o:Nat}(hb:D b):w'.cell? ⟨b,o,none⟩=w.cell? ⟨b,o,none⟩:=World.cell?_of_block (h b hb)
theorem dh.keep {w w':World}{D D':Nat→Prop}(hk:cD D w w')(hD:∀b,D b→D' b){v:Value}{t:RT}(h:dh w D v t):dh w' D' v t:=by
 induction h with
 |v h=>exact .v h
 |nil=>exact .nil
 |EM hm=>exact .EM hm
 |sl vs hc hm oD cM hv _ ih=>exact .sl vs hc hm (hD _ oD) cM (fun i e he j r hr=>(hk.cell oD).trans (hv i e he j r hr)) ih
theorem cG.keep {ρ ρ':Nat→Option Value}{w w':World}{D D':Nat→Prop}(eK:∀b x,ρ b=some x→ρ' b=some x)(hk:cD D w w')(hD:∀b,D b→D' b){v:Value}{t:TV}(h:cG ρ w D v t):cG ρ' w' D' v t:=by
 cases h with
 |r h=>exact .r (h.keep hk hD)
 |own h=>exact .own (eK _ _ h)
 |ptr h=>exact .ptr (eK _ _ h)
 |row h=>exact .row (eK _ _ h)
 |kN vs oD hv hr=>exact .kN vs (hD _ oD) (fun j r h=>(hk.cell oD).trans (hv j r h)) fun j r h=>(hr j r h).keep hk hD
theorem bA.keep {ρ ρ':Nat→Option Value}{w w':World}{D D':Nat→Prop}(eK:∀b x,ρ b=some x→ρ' b=some x)(hk:cD D w w')(hD:∀b,D b→D' b){v:Value}{t:GV}(h:bA ρ w D v t):bA ρ' w' D' v t:=by
 induction h with
 |s h=>exact .s (h.keep eK hk hD)
 |a hn h=>exact .a hn fun i t ht=>(h i t ht).keep eK hk hD
 |p hn _ ih=>exact .p hn ih
 |gK hf hc _ _ i1 i2=>exact .gK hf hc i1 i2
 |fD _ ih=>exact .fD ih
 |u=>exact .u
theorem dh.one {w:World}{D:Nat→Prop}{v:Value}{t:RT}(h:dh w D v t):v.oneCell'=true:=by
 cases h<;>first|assumption|rfl
theorem cG.one {ρ:Nat→Option Value}{w:World}{D:Nat→Prop}{v:Value}{t:TV}(h:cG ρ w D v t):v.oneCell'=true:=by
 cases h<;>first|(rename_i h;exact h.one)|rfl
theorem Qy {v:Value}(h:v.oneCell'=true):v.cells= #[v]:=by
 cases v<;>first|rfl|(simp[Value.oneCell']at h)
def Row (w:World)(D:Nat→Prop)(A:Option Addr)(k:Nat)(xs:List (List RT)):Prop:=
 ∀(i:Nat) (e:List RT),xs[i]?=some e→e.length=k∧∃b o,A=some ⟨b,o,none⟩∧∀j r,e[j]?=some r→∃v,w.cell? ⟨b,o+(i*k+j),none⟩=some v∧dh w D v r
theorem dh.slice {w:World}{D:Nat→Prop}{v:Value}{k:Nat}{xs:List (List RT)}(h:dh w D v (.sl k xs)):
  ∃A c,v= .slice A xs.length c∧xs.length≤c∧c≤maxLen∧Row w D A k xs∧∀b o,A=some ⟨b,o,none⟩→xs≠[]→D b:=by
 cases h with
 |EM hm=>exact⟨_,_,rfl,Nat.zero_le _,hm,fun i e he=>(by simp at he),fun _ _ _ h=>absurd rfl h⟩
 | @sl b o c k xs vs hc hm hD hk hv hr=>
   exact⟨_,_,rfl,hc,hm,fun i e he=>⟨hk i e he,b,o,rfl,fun j r hj=>⟨_,hv i e he j r hj,hr i e he j r hj⟩⟩,fun b' o' e _=>by cases e;exact hD⟩
theorem dh.RI {w:World}{D:Nat→Prop}{b o c k:Nat}{xs:List (List RT)}(hc:xs.length≤c)(hm:c≤maxLen)(hD:D b)(h:Row w D (some ⟨b,o,none⟩) k xs):dh w D (.slice (some ⟨b,o,none⟩) xs.length c) (.sl k xs):=by
 have hx:∀(i:Nat) (e:List RT),xs[i]?=some e→∀(j:Nat) (r:RT),e[j]?=some r→∃v,w.cell? ⟨b,o+(i*k+j),none⟩=some v∧dh w D v r:=by
  intro i e he j r hj;obtain⟨_,b',o',e',h'⟩:=h i e he
  cases e';exact h' j r hj
 refine .sl (fun i j=>(w.cell? ⟨b,o+(i*k+j),none⟩).getD undef) hc hm hD (fun i e he=>(h i e he).1) (fun i e he j r hj=>?_) fun i e he j r hj=>?_
 ·obtain⟨v,hv,_⟩:=hx i e he j r hj
  simp[hv]
 ·obtain⟨v,hv,hr⟩:=hx i e he j r hj
  simpa[hv]using hr
theorem Row.keep {w w':World}{D D':Nat→Prop}{A:Option Addr}{k:Nat}{xs:List (List RT)}(hk:cD D w w')(hD:∀b,D b→D' b)(hA:∀b o,A=some ⟨b,o,none⟩→w'.heap[b]?=w.heap[b]?)(h:Row w D A k xs):Row w' D' A k xs:=by
 intro i e he;obtain⟨h1,b,o,e1,h2⟩:=h i e he;refine⟨h1,b,o,e1,fun j r hj=>?_⟩
 obtain⟨v,hv,hr⟩:=h2 j r hj;exact⟨v,(World.cell?_of_block (hA b o e1)).trans hv,hr.keep hk hD⟩
def bS:Option Value→Option Nat
 |some (.pointer (some a))=>some a.block
 |some (.slice (some a) _ _)=>some a.block
 |_=>none
def ew (ρ:Nat→Option Value)(w:World)(D:Nat→Prop)(x:Option Value):az→Prop
 | .box cs=>∃g arr ty,x=some (.pointer (some ⟨g,0,none⟩))∧w.heap[g]?=some (.cells arr ty (0,0))∧arr.size=cs.length∧∀(i:Nat) (t:TV),cs[i]?=some t→cG ρ w D (arr.getD i undef) t
 | .rows e k xs=>∃A c,x=some (.slice A xs.length c)∧xs.length≤c∧c≤maxLen∧0<k∧(∀(i:Nat) (y:List RT),xs[i]?=some y→y.length=k)∧
   ((A=none∧xs=[]∧c=0)∨∃g arr,A=some ⟨g,0,none⟩∧w.heap[g]?=some (.cells arr e (0,0))∧arr.size=c*k∧∀(i:Nat) (y:List RT),xs[i]?=some y→∀(j:Nat) (r:RT),y[j]?=some r→dh w D (arr.getD (i*k+j) undef) r)
 | .dead=>True
theorem ew.keep {ρ ρ':Nat→Option Value}{w w':World}{D D':Nat→Prop}{x:Option Value}{y:az}(eK:∀b x,ρ b=some x→ρ' b=some x)(hk:cD D w w')(hD:∀b,D b→D' b)
  (hx:y= .dead∨∀g,bS x=some g→w'.heap[g]?=w.heap[g]?) (h:ew ρ w D x y):ew ρ' w' D' x y:=by
 cases y with
 |dead=>trivial
 |box cs=>
  obtain⟨g,arr,ty,rfl,h1,h2,h3⟩:=h;exact⟨g,arr,ty,rfl,((hx.resolve_left (by simp)) g rfl).trans h1,h2,fun i t ht=>(h3 i t ht).keep eK hk hD⟩
 |rows e k xs=>
  obtain⟨A,c,rfl,h1,h2,h3,h4,h5⟩:=h;refine⟨A,c,rfl,h1,h2,h3,h4,?_⟩;rcases h5 with h5|⟨g,arr,rfl,h6,h7,h8⟩
  ·exact .inl h5
  ·exact .inr ⟨g,arr,rfl,((hx.resolve_left (by simp)) g rfl).trans h6,h7,fun i y hy j r hr=>(h8 i y hy j r hr).keep hk hD⟩
def az.live:az→Bool
 | .dead=>false
 |_=>true
structure Ctx where
 W:World
 M:Nat→Prop
 D0:Nat→Prop
 nt:Nat
 oo:Nat→Option Value
structure Rel (C:Ctx) (env:Nat→GV) (get:Nat→Option az) (a:Act) (w:World) (ρ:Nat→Option Value) (D:Nat→Prop):Prop where
 os:w.os=C.W.os
 tape:w.tape=C.W.tape
 output:w.output=C.W.output
 size:C.W.heap.size≤w.heap.size
 old:∀k,k<C.W.heap.size→¬C.M k→w.heap[k]?=C.W.heap[k]?
 ro:∀k,D k→k<w.heap.size∧(C.D0 k∨C.M k∨C.W.heap.size≤k)
 free:∀b,get b=none→ρ b=none
 blk:∀b y,get b=some y→ew ρ w D (ρ b) y
 own:∀b y g,get b=some y→y.live=true→bS (ρ b)=some g→¬D g∧(C.M g∨C.W.heap.size≤g)
 sep:∀b y b' y' g,get b=some y→y.live=true→get b'=some y'→y'.live=true→bS (ρ b)=some g→bS (ρ b')=some g→b=b'
 env:∀t,bA ρ w D (a.tmps.getD t undef) (env t)
 defers:a.defers=[]
 nt:a.tmps.size=C.nt
 ext:∀b x,C.oo b=some x→ρ b=some x
def R (C:Ctx)(env:Nat→GV)(get:Nat→Option az)(a:Act)(w:World):Prop:=∃ρ D,Rel C env get a w ρ D
def put (env:Nat→GV)(dst:Option Nat)(g:GV):Nat→GV:=fun t=>if dst=some t then g else env t
def gt (b:Nat):List (Nat×az)→Option az
 |[]=>none
 |(u,y)::e=>if b=u then some y else gt b e
def upd (get:Nat→Option az)(Δ:List (Nat×az)):Nat→Option az:=fun b=>match gt b Δ with|some y=>some y|none=>get b
theorem U1 {a:Act}{dst:Option Nat}{v:Value}{t:Nat}(h:∀d,dst=some d→d<a.tmps.size):(a.put dst v).tmps.getD t undef=if dst=some t then v else a.tmps.getD t undef:=by
 cases dst with
 |none=>simp[Act.put]
 |some d=>
  have hd:=h d rfl;simp only[Act.put,Array.getD_eq_getD_getElem?,Array.getElem?_setIfInBounds,Option.some.injEq];by_cases e:d=t
  ·subst e;simp[hd]
  ·simp[e]
theorem U2 {a:Act}{dst:Option Nat}{v:Value}:(a.put dst v).tmps.size=a.tmps.size:=by cases dst<;>simp[Act.put]
theorem put_defers {a:Act}{dst:Option Nat}{v:Value}:(a.put dst v).defers=a.defers:=by cases dst<;>simp[Act.put]
section
variable {C:Ctx}{env:Nat→GV}{get:Nat→Option az}{a:Act}{w w':World}{ρ:Nat→Option Value}{D:Nat→Prop}
theorem Rel.put (h:Rel C env get a w ρ D){dst:Option Nat}{v:Value}{g:GV}(hd:∀d,dst=some d→d<C.nt)(hg:bA ρ w D v g):Rel C (put env dst g) get (a.put dst v) w ρ D:=
 {h with
  env:=fun t=>by
   rw[U1 (by rw[h.nt];exact hd)]
   unfold T.put;split
   ·exact hg
   ·exact h.env t
  defers:=by rw[put_defers];exact h.defers
  nt:=by rw[U2];exact h.nt}
theorem Rel.jr (h:Rel C env get a w ρ D){b g:Nat}{y:az}(hy:get b=some y)(hl:y.live=true)(hg:bS (ρ b)=some g):g<w.heap.size:=by
 have:=h.blk b y hy
 cases y with
 |dead=>simp[az.live]at hl
 |box cs=>
  obtain⟨g',arr,ty,e,h1,_⟩:=this;rw[e]at hg;injection hg with hg;subst hg
  exact(Array.getElem?_eq_some_iff.1 h1).1
 |rows e k xs=>
  obtain⟨A,c,e1,_,_,_,_,h5⟩:=this;rcases h5 with⟨rfl,_⟩|⟨g',arr,rfl,h6,_⟩
  ·rw[e1]at hg;cases hg
  ·rw[e1]at hg;injection hg with hg;subst hg
   exact(Array.getElem?_eq_some_iff.1 h6).1
theorem Rel.heap (h:Rel C env get a w ρ D)(e:w'.heap=w.heap)(e1:w'.os=w.os)(e2:w'.tape=w.tape)(e3:w'.output=w.output):Rel C env get a w' ρ D:=by
 have hk:∀D,cD D w w':=fun D b _=>by rw[e]
 exact
 {os:=e1.trans h.os,tape:=e2.trans h.tape,output:=e3.trans h.output,size:=by rw[e];exact h.size,old:=fun k h1 h2=>by rw[e];exact h.old k h1 h2
  ro:=fun k hd=>by rw[e];exact h.ro k hd
  free:=h.free
  blk:=fun b y hy=>(h.blk b y hy).keep (fun _ _ h=>h) (hk D) (fun _ h=>h) (.inr fun g _=>by rw[e])
  own:=h.own,sep:=h.sep
  env:=fun t=>(h.env t).keep (fun _ _ h=>h) (hk D) fun _ h=>h
  defers:=h.defers,nt:=h.nt,ext:=h.ext}
end
end Go.Proofs.YtabjbdnokpjipaaGreat.T
namespace Go.Proofs.YtabjbdnokpjipaaGreat.T
open Go Go.RowKit
inductive TK where
 |sc
 |slice (e:TypeId)
 |array (n:Nat) (e:TypeId)
 |struct (fs:List (Nat×TypeId))
structure TD where
 size:Nat
 bytes:Nat
 zero:List Value
 k:TK
def vJ:TypeDesc→TK
 | .slice e=> .slice e
 | .array n e=> .array n e
 | .struct fs=> .struct (fs.toList.map fun f=>(f.offset,f.type))
 |_=> .sc
def TK.agg:TK→Bool
 | .array ..| .struct ..=>true
 |_=>false
def aM (P:Program)(t:TypeId):Option TD:=
 match P.info? t,P.underlying t with
 |some i,some d=>match i.zero with
  |some z=>if z.cells.size=i.size∧z.cells.all Value.oneCell'=true∧((vJ d).agg=true∨i.size=1)then some ⟨i.size,i.bytes,z.cells.toList,vJ d⟩else none
  |none=>none
 |_,_=>none
theorem c9 {P:Program}{t:TypeId}{d:TD}(h:aM P t=some d):(∃i u z,P.info? t=some i∧P.underlying t=some u∧i.zero=some z∧i.size=d.size∧i.bytes=d.bytes∧z.cells.toList=d.zero∧vJ u=d.k)∧d.zero.length=d.size∧(∀x∈d.zero,x.oneCell'=true)∧(d.k.agg=true∨d.size=1):=by
 unfold aM at h
 cases hi:P.info? t with
 |none=>simp[hi]at h
 |some i=>
  cases hu:P.underlying t with
  |none=>simp[hi,hu]at h
  |some u=>
   cases hz:i.zero with
   |none=>simp[hi,hu,hz]at h
   |some z=>
    simp only[hi,hu,hz]at h;split at h
    ·rename_i hc
     obtain⟨c1,c2,c3⟩:=hc
     cases h;refine⟨⟨i,u,z,rfl,rfl,hz,rfl,rfl,rfl,rfl⟩,by simpa using c1,fun x hx=>?_,c3⟩
     rw[Array.all_eq_true_iff_forall_mem]at c2;exact c2 x (by simpa using hx)
    ·cases h
theorem fS {P:Program}{t:TypeId}{d:TD}(h:aM P t=some d):∃i u z,P.info? t=some i∧P.underlying t=some u∧i.zero=some z∧i.size=d.size∧i.bytes=d.bytes∧z.cells.toList=d.zero∧vJ u=d.k:=(c9 h).1
section
variable {P:Program}{t:TypeId}{d:TD}{w:World}
theorem rp (h:aM P t=some d):(sizeOf t).run P w= .ok d.size w:=by
 obtain⟨i,u,z,h1,_,_,h4,_⟩:=fS h;simp[sizeOf,typeInfo,h1,h4]
theorem vK (h:aM P t=some d):(isAgg t).run P w= .ok d.k.agg w:=by
 obtain⟨i,u,z,_,h2,_,_,_,_,h7⟩:=fS h;rw[←h7];simp only[isAgg,Sem.run_bind,run_underlying h2,Result.andThen_ok]
 cases u<;>simp[vJ,TK.agg]
theorem lW {e:TypeId}(h:aM P t=some d)(hk:d.k= .slice e):P.underlying t=some (.slice e):=by
 obtain⟨i,u,z,_,h2,_,_,_,_,h7⟩:=fS h;rw[hk]at h7
 cases u<;>simp[vJ]at h7
 subst h7;exact h2
theorem zl {n:Nat}{e:TypeId}(h:aM P t=some d)(hk:d.k= .array n e):P.underlying t=some (.array n e):=by
 obtain⟨i,u,z,_,h2,_,_,_,_,h7⟩:=fS h;rw[hk]at h7
 cases u<;>simp[vJ]at h7
 obtain⟨rfl,rfl⟩:=h7;exact h2
theorem CO {fs:List (Nat×TypeId)}(h:aM P t=some d)(hk:d.k= .struct fs):∃gs,P.underlying t=some (.struct gs)∧gs.toList.map (fun f=>(f.offset,f.type))=fs:=by
 obtain⟨i,u,z,_,h2,_,_,_,_,h7⟩:=fS h;rw[hk]at h7
 cases u<;>simp[vJ]at h7
 exact⟨_,h2,h7⟩
theorem U3 {fs:List (Nat×TypeId)}{f o:Nat}{ft:TypeId}(h:aM P t=some d)(hk:d.k= .struct fs)(hf:fs[f]?=some (o,ft)):∃gs g,P.underlying t=some (.struct gs)∧gs[f]?=some g∧g.offset=o∧g.type=ft:=by
 obtain⟨gs,h1,h2⟩:=CO h hk;rw[←h2,List.getElem?_map]at hf;obtain⟨g,hg,he⟩:=Option.map_eq_some_iff.1 hf
 cases he;exact⟨gs,g,h1,by simpa using hg,rfl,rfl⟩
end
def lk (t:Nat):List (Nat×GV)→GV
 |[]=> .u
 |(u,g)::e=>if t=u then g else lk t e
structure ah where
 env:List (Nat×GV)
 bp:List (Nat×az)
 nx:Nat
def ah.get (s:ah)(b:Nat):Option az:=
 match gt b s.bp with
 |some y=>some y
 |none=>if b<s.nx then some .dead else none
def jY:Value→RT
 | .slice none 0 0=> .nil
 |x=> .v x
def BI:Value→GV
 | .agg cs=> .a (cs.toList.map fun x=> .r (jY x))
 | .tuple _=> .u
 |x=> .s (.r (jY x))
def t_:Value→Bool
 | .agg cs=>cs.all Value.oneCell'
 | .tuple _=>true
 |_=>true
def ah.ev (s:ah):Operand→GV
 | .tmp t=>lk t s.env
 | .const v=>if t_ v then BI v else .u
 | .global _=> .u
 | .func f=> .gK (.func f) [] []
def bN (e:List (Nat×GV)):List Operand→List (Nat×GV)
 |[]=>[]
 | .tmp t::xs=>(t,lk t e)::bN e xs
 |_::xs=>bN e xs
theorem uO {w:World}{D:Nat→Prop}{x:Value}(h:x.oneCell'=true):dh w D x (jY x):=by
 unfold jY;split
 ·exact .nil
 ·exact .v h
theorem MN {ρ:Nat→Option Value}{w:World}{D:Nat→Prop}{v:Value}(h:t_ v=true):bA ρ w D v (BI v):=by
 cases v
 case agg cs=>
  simp only[t_,Array.all_eq_true_iff_forall_mem]at h;refine .a (by simp) fun i t ht=>?_
  simp only[List.getElem?_map,Option.map_eq_some_iff]at ht;obtain⟨x,hx,rfl⟩:=ht;have jN:cs[i]?=some x:=by simpa using hx
  simp only[Array.getD_eq_getD_getElem?,jN,Option.getD_some];exact .r (uO (h x (Array.mem_of_getElem? jN)))
 case tuple=>exact .u
 all_goals exact .s (.r (uO rfl))
theorem br {C:Ctx}{env:Nat→GV}{get:Nat→Option az}{a:Act}{w:World}{ρ:Nat→Option Value}{D:Nat→Prop}{s:ah}(hR:Rel C env get a w ρ D){xs:List Operand}
  (hi:∀x∈bN s.env xs,env x.1=x.2) {x:Operand} (hx:x∈xs):bA ρ w D (a.eval x) (s.ev x):=by
 cases x with
 |const v=>
  show bA ρ w D v (if t_ v then BI v else .u)
  split
  ·exact MN ‹_›
  ·exact .u
 |global g=>exact .u
 |func f=>exact .gK rfl rfl (fun i g h=>(by simp at h)) fun i g h=>(by simp at h)
 |tmp t=>
  have:env t=lk t s.env:=by
   induction xs with
   |nil=>cases hx
   |cons y ys ih=>
    rcases List.mem_cons.1 hx with rfl|hx
    ·exact hi (t,_) (List.mem_cons_self ..)
    ·refine ih (fun z hz=>hi z ?_) hx
     cases y<;>first|exact hz|exact List.mem_cons_of_mem _ hz
  show bA ρ w D (a.tmps.getD t undef) (lk t s.env)
  rw[←this];exact hR.env t
def CP (E:List PanicEntry→World→Prop)(Q:Exit→Act→World→Prop):Prop:=∀ch a w,a.defers=[]→E ch w→Q (.panic ch) a w
def fE (P:Program)(E:List PanicEntry→World→Prop)(nt:Nat)(o:Oper)(fr:List (Nat×Option az))(ins:List (Nat×GV))(gv:GV)(Δ:List (Nat×az)):Prop:=
 ∀C env get a w (K:Act→World→Prop) Q,C.nt=nt→(∀x∈fr,get x.1=x.2)→(∀x∈ins,env x.1=x.2)→R C env get a w→(∀a' w',R C (put env o.dst gv) (upd get Δ) a' w'→K a' w')→CP E Q→o.wp P a w K Q
theorem MO (get:Nat→Option az):upd get []=get:=rfl
def bO (o:Oper)(nt:Nat):Bool:=match o.dst with|some d=>decide (d<nt)|none=>true
theorem fE.still {P:Program}{E:List PanicEntry→World→Prop}{nt:Nat}{o:Oper}{fr:List (Nat×Option az)}{ins:List (Nat×GV)}{gv:GV}(hd:bO o nt=true)
  (h:∀C env get a w ρ D,(∀x∈fr,get x.1=x.2)→(∀x∈ins,env x.1=x.2)→Rel C env get a w ρ D→∃v,(execOp a.eval o).run P w= .ok (.value v) w∧bA ρ w D v gv):fE P E nt o fr ins gv []:=by
 intro C env get a w K Q hn hf hi hR hK hE;obtain⟨ρ,D,hR⟩:=hR;obtain⟨v,hv,hg⟩:=h C env get a w ρ D hf hi hR;unfold Oper.wp;rw[hv,Oper.upon_value];refine hK _ _ ⟨ρ,D,hR.put (fun d e=>?_) hg⟩
 unfold bO at hd;rw[e]at hd;simpa[hn]using hd
def GV.b?:GV→Option Bool
 | .s (.r (.v (.bool b)))=>some b
 |_=>none
def GV.i?:GV→Option (IntKind×Int)
 | .s (.r (.v (.int k n)))=>some (k,n)
 |_=>none
theorem GV.BJ {ρ:Nat→Option Value}{w:World}{D:Nat→Prop}{v:Value}{g:GV}{b:Bool}(h:g.b?=some b)(hr:bA ρ w D v g):v= .bool b:=by
 unfold GV.b? at h;split at h
 ·cases h
  cases hr with|s hr=>cases hr with|r hr=>cases hr;rfl
 ·cases h
theorem GV.i_ {ρ:Nat→Option Value}{w:World}{D:Nat→Prop}{v:Value}{g:GV}{k:IntKind}{n:Int}(h:g.i?=some (k,n))(hr:bA ρ w D v g):v= .int k n:=by
 unfold GV.i? at h;split at h
 ·cases h
  cases hr with|s hr=>cases hr with|r hr=>cases hr;rfl
 ·cases h
def ah.view (s:ah):GV→Option (Nat×List (List RT)×List (Nat×Option az))
 | .s (.r (.sl k xs))=>some (k,xs,[])
 | .s (.r .nil)=>some (0,[],[])
 | .s (.own b)=>match s.get b with
   |some (.rows e k xs)=>some (k,xs,[(b,some (.rows e k xs))])
   |_=>none
 |_=>none
theorem zm {C:Ctx}{env:Nat→GV}{get:Nat→Option az}{a:Act}{w:World}{ρ:Nat→Option Value}{D:Nat→Prop}{s:ah}(hR:Rel C env get a w ρ D){g:GV}{k:Nat}{xs:List (List RT)}{fr:List (Nat×Option az)}
  (h:s.view g=some (k,xs,fr)) (hf:∀x∈fr,get x.1=x.2) {v:Value} (hr:bA ρ w D v g):∃A c,v= .slice A xs.length c∧xs.length≤c∧c≤maxLen∧Row w D A k xs:=by
 unfold ah.view at h;split at h
 ·cases h
  cases hr with|s hr=>cases hr with|r hr=>
  obtain⟨A,c,h1,h2,h3,h4,_⟩:=hr.slice;exact⟨A,c,h1,h2,h3,h4⟩
 ·cases h
  cases hr with|s hr=>cases hr with|r hr=>cases hr;exact⟨none,0,rfl,Nat.zero_le _,Nat.zero_le _,fun i e he=>(by simp at he)⟩
 ·rename_i b
  split at h
  ·rename_i e k' xs' hg
   cases h;have hb:get b=some (.rows e k xs):=hf _ (List.mem_cons_self ..)
   obtain⟨A,c,e1,h1,h2,h3,h4,h5⟩:=hR.blk b _ hb
   cases hr with|s hr=>cases hr with|own hr=>
   rw[e1]at hr
   cases hr;refine⟨A,c,rfl,h1,h2,fun i y hy=>⟨h4 i y hy,?_⟩⟩
   rcases h5 with⟨_,rfl,_⟩|⟨g,arr,rfl,h6,h7,h8⟩
   ·simp at hy
   ·refine⟨g,0,rfl,fun j r hj=>⟨arr.getD (i*k+j) undef,?_,h8 i y hy j r hj⟩⟩
    have hi:i<xs.length:=(List.getElem?_eq_some_iff.1 hy).1
    have Qz:j<y.length:=(List.getElem?_eq_some_iff.1 hj).1
    rw[h4 i y hy]at Qz;have ak:i*k+j<arr.size:=by
     rw[h7]
     calc i*k+j<i*k+k:=by omega
      _=(i+1)*k:=by rw[Nat.add_mul,Nat.one_mul]
      _≤c*k:=Nat.mul_le_mul_right k (by omega)
    simp[World.cell?,h6,Array.getD_eq_getD_getElem?,Array.getElem?_eq_getElem ak]
  ·cases h
 ·cases h
def GV.cells?:GV→Option (List TV)
 | .s t=>some [t]
 | .a ts=>some ts
 |_=>none
theorem mQ {ρ:Nat→Option Value}{w:World}{D:Nat→Prop}{v:Value}{g:GV}{ts:List TV}(h:g.cells?=some ts)(hr:bA ρ w D v g):v.cells.size=ts.length∧∀(i:Nat) (t:TV),ts[i]?=some t→cG ρ w D (v.cells.getD i undef) t:=by
 unfold GV.cells? at h;split at h
 ·cases h
  cases hr with|s hr=>
  rw[Qy hr.one];refine⟨rfl,fun i t ht=>?_⟩
  cases i with
  |zero=>simp at ht;subst ht;exact hr
  |succ i=>simp at ht
 ·cases h
  cases hr with|a hn h=>exact⟨hn,h⟩
 ·cases h
def mk (agg:Bool)(cs:List TV):GV:=if agg then .a cs else match cs with
 |[c]=> .s c
 |_=> .u
def rs (xs:List RT):List TV:=xs.map .r
end Go.Proofs.YtabjbdnokpjipaaGreat.T
namespace Go.Proofs.YtabjbdnokpjipaaGreat.T
open Go Go.RowKit
def GV.agg?:GV→Option (List TV)
 | .a ts=>some ts
 |_=>none
def GV.tup?:GV→Option (List GV)
 | .p gs=>some gs
 |_=>none
def pw (o:Nat):GV→Option GV
 | .s (.ptr b off)=>some (.s (.ptr b (off+o)))
 | .s (.row b k i off)=>some (.s (.row b k i (off+o)))
 | .s (.kN xs off)=>some (.s (.kN xs (off+o)))
 |_=>none
def rq (T:TypeId→Option TD)(t f:Nat):Option (Nat×TD):=
 match T t with
 |some d=>match d.k with
  | .struct fs=>match fs[f]? with
    |some (o,ft)=>match T ft with
     |some d'=>some (o,d')
     |none=>none
    |none=>none
  |_=>none
 |none=>none
def ah.deref (s:ah):GV→Option (List (Nat×Option az)×List TV)
 | .s (.ptr b off)=>match s.get b with
   |some (.box cs)=>some ([(b,some (.box cs))],cs.drop off)
   |_=>none
 | .s (.row b k i off)=>match s.get b with
   |some (.rows e k' xs)=>if k=k' then match xs[i]? with
    |some y=>some ([(b,some (.rows e k' xs))],rs (y.drop off))
    |none=>none
    else none
   |_=>none
 | .s (.kN xs off)=>some ([],rs (xs.drop off))
 |_=>none
def ah.elem (s:ah)(T:TypeId→Option TD)(t:TypeId)(n:Nat)(g:GV)(K:List (Nat×Option az)→GV→Prop):Prop:=
 match T t with
 |some d=>match d.k with
  | .slice e=>match g with
    | .s (.own b)=>match s.get b with
      |some (.rows e' k xs)=>(T e).map TD.size=some k∧n<xs.length∧K [(b,some (.rows e' k xs))] (.s (.row b k n 0))
      |_=>False
    | .s (.r (.sl k xs))=>(T e).map TD.size=some k∧∃y,xs[n]?=some y∧K [] (.s (.kN y 0))
    |_=>False
  | .array m e=>n<m∧∃z g',(T e).map TD.size=some z∧pw (n*z) g=some g'∧K [] g'
  |_=>False
 |none=>False
def RJ:BinOp→Int→Int→Option Bool
 | .eql,x,y=>some (decide (x=y))
 | .neq,x,y=>some (!decide (x=y))
 | .lss,x,y=>some (decide (x<y))
 | .leq,x,y=>some (decide (x≤y))
 | .gtr,x,y=>some (decide (y<x))
 | .geq,x,y=>some (decide (y≤x))
 |_,_,_=>none
def arI (k:IntKind):BinOp→Int→Int→Option Int
 | .add,x,y=>some (k.wrap (x+y))
 | .sub,x,y=>some (k.wrap (x-y))
 | .mul,x,y=>some (k.wrap (x*y))
 | .quo,x,y=>if y=0 then none else some (k.wrap (x.tdiv y))
 | .rem,x,y=>if y=0 then none else some (x.tmod y)
 | .shl,x,y=>if y<0 then none else some (k.wrap (x*2^min y.toNat k.bits))
 | .shr,x,y=>if y<0 then none else some (x.fdiv (2^min y.toNat k.bits))
 | .and,x,y=>some (k.wrap (BitVec.ofInt k.bits x&&& BitVec.ofInt k.bits y).toNat)
 | .xor,x,y=>some (k.wrap (BitVec.ofInt k.bits x^^^BitVec.ofInt k.bits y).toNat)
 |_,_,_=>none
def gI (k:IntKind)(n:Int):GV:= .s (.r (.v (.int k n)))
def gB (b:Bool):GV:= .s (.r (.v (.bool b)))
def ua:BinOp→Bool
 | .shl| .shr=>true
 |_=>false
def RK (aca:Bool)(op:BinOp)(x y:GV):Option GV:=
 match x,y with
 | .s (.r (.v (.int k a))),.s (.r (.v (.int k' b)))=>
   if k=k'∨ua op=true then match RJ op a b with
    |some r=>if ua op=true then none else some (gB r)
    |none=>(arI k op a b).map (gI k)
   else none
 | .s (.r (.v (.bool a))),.s (.r (.v (.bool b)))=>if aca=true then match op with
   | .eql=>some (gB (a==b))
   | .neq=>some (gB (!(a==b)))
   |_=>none
   else none
 |_,_=>none
section
variable {P:Program}{E:List PanicEntry→World→Prop}{nt:Nat}{o:Oper}{s:ah}
theorem MQ {x:Operand}(ho:o.op= .move x∨o.op= .assign x)(hd:bO o nt=true):fE P E nt o [] (bN s.env [x]) (s.ev x) []:=by
 refine .still hd fun C env get a w ρ D _ hi hR=>⟨a.eval x,?_,br hR hi (List.mem_cons_self ..)⟩
 rcases ho with ho|ho<;>simp[execOp,ho]
theorem Yw {c x y:Operand}(ho:o.op= .pick c x y)(hd:bO o nt=true){t:Bool}(h:(s.ev c).b?=some t):fE P E nt o [] (bN s.env [c,x,y]) (if t then s.ev x else s.ev y) []:=by
 refine .still hd fun C env get a w ρ D _ hi hR=>?_;have h1:=GV.BJ h (br hR hi (x:=c) (by simp))
 refine⟨if t then a.eval x else a.eval y,?_,?_⟩
 ·simp[execOp,ho,h1,asBool]
 ·cases t
  ·exact br hR hi (by simp)
  ·exact br hR hi (by simp)
theorem Al {n:Nat}{g g':GV}(h:pw n g=some g'){ρ:Nat→Option Value}{w:World}{D:Nat→Prop}{v:Value}(hr:bA ρ w D v g):∃b o,v= .pointer (some ⟨b,o,none⟩)∧bA ρ w D (.pointer (some ⟨b,o+n,none⟩)) g':=by
 unfold pw at h;split at h
 ·cases h
  cases hr with|s hr=>cases hr with|ptr hr=>exact⟨_,_,rfl,.s (.ptr hr)⟩
 ·cases h
  cases hr with|s hr=>cases hr with|row hr=>exact⟨_,_,rfl,by rw[Nat.add_assoc];exact .s (.row hr)⟩
 ·cases h
  cases hr with|s hr=>cases hr with|kN vs h1 h2 h3=>exact⟨_,_,rfl,by rw[Nat.add_assoc];exact .s (.kN vs h1 h2 h3)⟩
 ·cases h
theorem ub {t f k:Nat}{d':TD}(h:rq (aM P) t f=some (k,d')):∃gs g,P.underlying t=some (.struct gs)∧gs[f]?=some g∧g.offset=k∧aM P g.type=some d':=by
 unfold rq at h;split at h
 ·rename_i d hd
  split at h
  ·rename_i fs hk
   split at h
   ·rename_i o ft hf
    split at h
    ·rename_i d1 h1
     cases h;obtain⟨gs,g,a1,a2,a3,a4⟩:=U3 hd hk hf;exact⟨gs,g,a1,a2,a3,by rw[a4];exact h1⟩
    ·cases h
   ·cases h
  ·cases h
 ·cases h
theorem add_lit (b o n:Nat):Addr.add ⟨b,o,none⟩ n=⟨b,o+n,none⟩:=by
 unfold Addr.add;split
 ·simp_all
 ·rfl
theorem EN {t f k:Nat}{x:Operand}(ho:o.op= .fieldAddr t x f)(hd:bO o nt=true){d':TD}(h:rq (aM P) t f=some (k,d'))(hz:d'.size≠0){g':GV}(hg:pw k (s.ev x)=some g'):
  fE P E nt o [] (bN s.env [x]) g' []:=by
 refine .still hd fun C env get a w ρ D _ hi hR=>?_;obtain⟨gs,g,h1,h2,h3,h4⟩:=ub h;obtain⟨b,off,e1,hr⟩:=Al hg (br hR hi (x:=x) (by simp))
 refine⟨_,?_,hr⟩;simp[execOp,ho,Instr.fieldAt,e1,run_underlying h1,h2,Instr.sureAddr,fieldPlace,rp h4,hz,h3,add_lit]
theorem xW {ρ:Nat→Option Value}{w:World}{D:Nat→Prop}{agg:Bool}{cs:List TV}{arr:Array Value}(hn:arr.size=cs.length)(h:∀(i:Nat) (t:TV),cs[i]?=some t→cG ρ w D (arr.getD i undef) t)(h1:agg=true∨cs.length=1):
  bA ρ w D (if agg then .agg arr else arr.getD 0 undef) (mk agg cs):=by
 unfold mk
 cases agg
 ·match cs,h1 with
  |[c],_=>exact .s (h 0 c rfl)
 ·exact .a hn h
theorem uP {ρ:Nat→Option Value}{w:World}{D:Nat→Prop}{t:TypeId}{d:TD}(ht:aM P t=some d){arr:Array Value}{ts:List TV}{k:Nat}(hn:arr.size=ts.length)(h:∀(i:Nat) (t:TV),ts[i]?=some t→cG ρ w D (arr.getD i undef) t)
  (hl:k+d.size≤ts.length) (h1:d.k.agg=true∨d.size=1):∃v,(part t arr k).run P w= .ok v w∧bA ρ w D v (mk d.k.agg ((ts.drop k).take d.size)):=by
 have kq:(arr.extract k (k+d.size)).size=((ts.drop k).take d.size).length:=by
  simp only[Array.size_extract,List.length_take,List.length_drop,hn];omega
 have hx:∀(i:Nat) (t:TV),((ts.drop k).take d.size)[i]?=some t→cG ρ w D ((arr.extract k (k+d.size)).getD i undef) t:=by
  intro i t hi;rw[List.getElem?_take]at hi;split at hi
  ·rw[List.getElem?_drop]at hi
   have:=h _ _ hi
   have ak:k+i<arr.size:=by rw[hn];exact(List.getElem?_eq_some_iff.1 hi).1
   have e:(arr.extract k (k+d.size)).getD i undef=arr.getD (k+i) undef:=by
    simp only[Array.getD_eq_getD_getElem?,Array.getElem?_extract];rw[if_pos (by omega)]
   rw[e];exact this
  ·cases hi
 have hm:=xW kq hx (agg:=d.k.agg) (by
  rcases h1 with h1|h1
  ·exact .inl h1
  ·right;simp only[List.length_take,List.length_drop];omega)
 refine⟨_,?_,hm⟩;simp only[part,Sem.run_bind,vK ht,Result.andThen_ok]
 cases rr:d.k.agg
 ·have jg:d.size=1:=by simpa[rr]using h1
  have ak:k<arr.size:=by omega
  have e:(arr.extract k (k+d.size)).getD 0 undef=arr[k]:=by
   simp only[Array.getD_eq_getD_getElem?,Array.getElem?_extract];rw[if_pos (by omega)]
   simp[ak]
  simp[ak,e]
 ·simp[rp ht]
theorem U4 {t f k:Nat}{x:Operand}(ho:o.op= .field t x f)(hd:bO o nt=true){d':TD}(h:rq (aM P) t f=some (k,d')){ts:List TV}(hg:(s.ev x).agg?=some ts)(hl:k+d'.size≤ts.length)(h1:d'.k.agg=true∨d'.size=1):
  fE P E nt o [] (bN s.env [x]) (mk d'.k.agg ((ts.drop k).take d'.size)) []:=by
 refine .still hd fun C env get a w ρ D _ hi hR=>?_;obtain⟨gs,g,u1,u2,u3,u4⟩:=ub h;have hr:=br hR hi (x:=x) (by simp)
 have e:s.ev x= .a ts:=by
  unfold GV.agg? at hg;split at hg
  ·rename_i e;cases hg;exact e
  ·cases hg
 rw[e]at hr;generalize hv:a.eval x=v at hr
 cases hr with
 | @a arr _ hn hr=>
 obtain⟨v,r1,r2⟩:=uP u4 hn hr hl h1;refine⟨v,?_,r2⟩;simp[execOp,ho,Instr.field,hv,run_underlying u1,u2,asAgg,u3,r1]
theorem U5 {t e m:Nat}{x ix:Operand}(ho:o.op= .index t x ix)(hd:bO o nt=true){d de:TD}(ht:aM P t=some d)(hk:d.k= .array m e)(he:aM P e=some de){k:IntKind}{n:Int}(hn:(s.ev ix).i?=some (k,n))(h0:0≤n)(hm:n<m)
  {ts:List TV} (hg:(s.ev x).agg?=some ts) (hl:n.toNat*de.size+de.size≤ts.length) (h1:de.k.agg=true∨de.size=1):fE P E nt o [] (bN s.env [x,ix]) (mk de.k.agg ((ts.drop (n.toNat*de.size)).take de.size)) []:=by
 refine .still hd fun C env get a w ρ D _ hi hR=>?_;have hr:=br hR hi (x:=x) (by simp)
 have cJ:=GV.i_ hn (br hR hi (x:=ix) (by simp))
 have e:s.ev x= .a ts:=by
  unfold GV.agg? at hg;split at hg
  ·rename_i e;cases hg;exact e
  ·cases hg
 rw[e]at hr;generalize hv:a.eval x=v at hr
 cases hr with
 | @a arr _ hn hr=>
 obtain⟨v,r1,r2⟩:=uP he hn hr hl h1;refine⟨v,?_,r2⟩;simp[execOp,ho,Instr.index,hv,cJ,asIntOf,run_underlying (zl ht hk),h0,hm,rp he,r1]
theorem MR {x:Operand}{i:Nat}(ho:o.op= .extract x i)(hd:bO o nt=true){gs:List GV}(hg:(s.ev x).tup?=some gs){g:GV}(fB:gs[i]?=some g):fE P E nt o [] (bN s.env [x]) g []:=by
 refine .still hd fun C env get a w ρ D _ hi hR=>?_;have hr:=br hR hi (x:=x) (by simp)
 have e:s.ev x= .p gs:=by
  unfold GV.tup? at hg;split at hg
  ·rename_i e;cases hg;exact e
  ·cases hg
 rw[e]at hr;generalize hv:a.eval x=v at hr
 cases hr with
 | @p vs _ hn hr=>
 have ak:i<vs.size:=by rw[hn];exact(List.getElem?_eq_some_iff.1 fB).1
 refine⟨vs[i],?_,?_⟩
 ·simp[execOp,ho,Instr.extract,hv,ak]
 ·have:=hr i g fB
  simpa[Array.getD_eq_getD_getElem?,ak]using this
theorem Im {fn:Fn}{f c:Array Operand}(ho:o.op= .makeFunc fn f c)(hd:bO o nt=true):fE P E nt o [] (bN s.env (f++c).toList) (.gK fn (f.toList.map s.ev) (c.toList.map s.ev)) []:=by
 refine .still hd fun C env get a w ρ D _ hi hR=>⟨.func fn (f.map a.eval) (c.map a.eval),?_,?_⟩
 ·simp[execOp,ho,Instr.makeFunc]
 ·refine .gK (by simp) (by simp) (fun i g hg=>?_) fun i g hg=>?_
  ·rw[List.getElem?_map,Option.map_eq_some_iff]at hg
   obtain⟨x,hx,rfl⟩:=hg;have jN:f[i]?=some x:=by simpa using hx
   simp only[Array.getD_eq_getD_getElem?,Array.getElem?_map,jN,Option.map_some,Option.getD_some];exact br hR hi (by simp;exact .inl (Array.mem_of_getElem? jN))
  ·rw[List.getElem?_map,Option.map_eq_some_iff]at hg
   obtain⟨x,hx,rfl⟩:=hg;have jN:c[i]?=some x:=by simpa using hx
   simp only[Array.getD_eq_getD_getElem?,Array.getElem?_map,jN,Option.map_some,Option.getD_some];exact br hR hi (by simp;exact .inr (Array.mem_of_getElem? jN))
theorem aaN {x:Operand}{t:TypeId}(ho:o.op= .call {callee:= .builtin .len,args:= #[x],argTypes:= #[t]})(hd:bO o nt=true){d:TD}{e:TypeId}(ht:aM P t=some d)(hk:d.k= .slice e){k:Nat}{xs:List (List RT)}{fr:List (Nat×Option az)}
  (hv:s.view (s.ev x)=some (k,xs,fr)):fE P E nt o fr (bN s.env [x]) (gI .i64 xs.length) []:=by
 refine .still hd fun C env get a w ρ D hf hi hR=>?_;obtain⟨A,c,e1,_⟩:=zm hR hv hf (br hR hi (x:=x) (by simp))
 refine⟨.int .i64 xs.length,?_,.s (.r (.v rfl))⟩;simp[execOp,ho,resolve,invoke,builtin,Builtin.len_,e1,run_underlying (lW ht hk),goInt]
theorem aaO {x:Operand}{t:TypeId}(ho:o.op= .unOp .not t x)(hd:bO o nt=true){b:Bool}(hv:(s.ev x).b?=some b):fE P E nt o [] (bN s.env [x]) (gB (!b)) []:=by
 refine .still hd fun C env get a w ρ D hf hi hR=>⟨.bool (!b),?_,.s (.r (.v rfl))⟩
 have:=GV.BJ hv (br hR hi (x:=x) (by simp))
 simp[execOp,ho,Op.unary,this]
theorem aaP {x:Operand}{t:TypeId}(ho:o.op= .unOp .neg t x)(hd:bO o nt=true){k:IntKind}{n:Int}(hv:(s.ev x).i?=some (k,n)):fE P E nt o [] (bN s.env [x]) (gI k (k.wrap (0-n))) []:=by
 refine .still hd fun C env get a w ρ D hf hi hR=>⟨.int k (k.wrap (0-n)),?_,.s (.r (.v rfl))⟩
 have:=GV.i_ hv (br hR hi (x:=x) (by simp))
 simp[execOp,ho,Op.unary,this,Op.intArith]
theorem xX {ρ:Nat→Option Value}{w:World}{D:Nat→Prop}{v:Value}{k:IntKind}{n:Int}(h:bA ρ w D v (.s (.r (.v (.int k n))))):v= .int k n:=GV.i_ rfl h
theorem uQ {ρ:Nat→Option Value}{w:World}{D:Nat→Prop}{v:Value}{b:Bool}(h:bA ρ w D v (.s (.r (.v (.bool b))))):v= .bool b:=GV.BJ rfl h
theorem aaQ {op:BinOp}{t yt:TypeId}{x y:Operand}(ho:o.op= .binOp op t x y yt)(hd:bO o nt=true){bt:Bool}(hb:bt=true→P.underlying t=some .bool){g:GV}(hg:RK bt op (s.ev x) (s.ev y)=some g):fE P E nt o [] (bN s.env [x,y]) g []:=by
 refine .still hd fun C env get a w ρ D hf hi hR=>?_;have hx:=br hR hi (x:=x) (by simp)
 have hy:=br hR hi (x:=y) (by simp)
 unfold RK at hg;split at hg
 ·rename_i k m k' n ex ey
  rw[ex]at hx;rw[ey]at hy;have ax:=xX hx;have ay:=xX hy;split at hg
  ·rename_i hk
   split at hg
   ·rename_i r hr
    split at hg
    ·cases hg
    ·rename_i hs
     cases hg;have cM:k=k':=by simpa[hs]using hk
     subst cM;refine⟨.bool r,?_,.s (.r (.v rfl))⟩
     cases op<;>simp only[RJ,reduceCtorEq,Option.some.injEq]at hr<;>subst hr<;>simp[execOp,ho,ax,ay,eqGuard,binOp,Op.intCmp,bne,BEq.beq]
   ·rename_i hr
    obtain⟨n',hn,rfl⟩:=Option.map_eq_some_iff.1 hg;refine⟨.int k n',?_,.s (.r (.v rfl))⟩;by_cases hs:ua op=true
    ·cases op<;>simp[ua]at hs
     all_goals
      simp only[arI,Option.ite_none_left_eq_some]at hn;obtain⟨h0,hn⟩:=hn
      cases hn;simp[execOp,ho,ax,ay,eqGuard,binOp,Op.shift,h0]
    ·have cM:k=k':=by simpa[hs]using hk
     subst cM
     cases op<;>simp only[RJ,reduceCtorEq]at hr<;>simp only[arI,reduceCtorEq,Option.some.injEq,Option.ite_none_left_eq_some]at hn
     all_goals first
      |(subst hn;simp[execOp,ho,ax,ay,eqGuard,binOp,Op.intArith,Op.intBits];done)
      |(obtain⟨h0,hn⟩:=hn;subst hn;simp[execOp,ho,ax,ay,eqGuard,binOp,Op.intDiv,h0];done)
      |(exact absurd rfl hs)
  ·cases hg
 ·rename_i m n ex ey
  rw[ex]at hx;rw[ey]at hy;have ax:=uQ hx;have ay:=uQ hy;split at hg
  ·rename_i hbt
   have hu:=hb hbt;split at hg
   ·cases hg
    refine⟨.bool (m==n),?_,.s (.r (.v rfl))⟩;have:=run_eql_bool (P:=P) w t m n hu
    simp[execOp,ho,ax,ay,eqGuard,this]
   ·cases hg
    refine⟨.bool (!(m==n)),?_,.s (.r (.v rfl))⟩;have:=run_neq_bool (P:=P) w t m n hu
    simp[execOp,ho,ax,ay,eqGuard,this]
   ·cases hg
  ·cases hg
 ·cases hg
theorem nn {t:TypeId}{d:TD}(ht:aM P t=some d)(h1:d.k.agg=true∨d.size=1){w:World}{b o:Nat}(f:Nat→Value)(h:∀j,j<d.size→w.cell? ⟨b,o+j,none⟩=some (f j)):
  (loadVar t ⟨b,o,none⟩).run P w= .ok (if d.k.agg then .agg ((List.range d.size).map f).toArray else((List.range d.size).map f).toArray.getD 0 undef) w:=by
 simp only[loadVar,Sem.run_bind,vK ht,Result.andThen_ok]
 cases rr:d.k.agg
 ·have jg:d.size=1:=by simpa[rr]using h1
  have:=h 0 (by omega)
  simp only[Nat.add_zero]at this;simp[this,jg]
 ·have hl:=run_loadCells_list (P:=P) w ⟨b,o,none⟩ ((List.range d.size).map f) (fun j v hj=>by
   rw[List.getElem?_map,Option.map_eq_some_iff]at hj;obtain⟨i,hi,rfl⟩:=hj;rw[List.getElem?_eq_some_iff]at hi;obtain⟨ak,e⟩:=hi;simp at e ak
   subst e;rw[add_lit];exact h j ak)
  simp only[List.length_map,List.length_range]at hl;simp[rp ht,hl]
theorem wR {C:Ctx}{env:Nat→GV}{get:Nat→Option az}{a:Act}{w:World}{ρ:Nat→Option Value}{D:Nat→Prop}(hR:Rel C env get a w ρ D){g:GV}{cs:List TV}{fr:List (Nat×Option az)}
  (h:s.deref g=some (fr,cs)) (hf:∀x∈fr,get x.1=x.2) {v:Value} (hr:bA ρ w D v g):∃b k,v= .pointer (some ⟨b,k,none⟩)∧∀(j:Nat) (t:TV),cs[j]?=some t→∃x,w.cell? ⟨b,k+j,none⟩=some x∧cG ρ w D x t:=by
 unfold ah.deref at h;split at h
 ·rename_i b off
  split at h
  ·rename_i cz hg
   cases h;have hb:=hf _ (List.mem_cons_self ..);obtain⟨g',arr,ty,e1,h1,h2,h3⟩:=hR.blk b _ hb
   cases hr with|s hr=>cases hr with|ptr hr=>
   rw[e1]at hr
   cases hr;refine⟨_,_,rfl,fun j t hj=>?_⟩
   rw[List.getElem?_drop]at hj;have ak:off+j<arr.size:=by rw[h2];exact(List.getElem?_eq_some_iff.1 hj).1
   refine⟨arr[off+j],by simp[World.cell?,h1,ak],?_⟩
   simpa[Array.getD_eq_getD_getElem?,ak]using h3 _ _ hj
  ·cases h
 ·rename_i b k i off
  split at h
  ·rename_i e k' xs hg
   split at h
   ·rename_i hk
    subst hk;split at h
    ·rename_i y hy
     cases h;have hb:=hf _ (List.mem_cons_self ..);obtain⟨A,c,e1,h1,h2,h3,h4,h5⟩:=hR.blk b _ hb
     cases hr with|s hr=>cases hr with| @row _ _ _ _ g' n' c' hr=>
     rw[e1]at hr
     cases hr;refine⟨_,_,rfl,fun j t hj=>?_⟩
     rw[rs,List.getElem?_map,List.getElem?_drop,Option.map_eq_some_iff]at hj;obtain⟨r,f_,rfl⟩:=hj;rcases h5 with⟨h5,_⟩|⟨g'',arr,e2,h6,h7,h8⟩
     ·cases h5
     ·cases e2
      have hi:i<xs.length:=(List.getElem?_eq_some_iff.1 hy).1
      have Qz:off+j<y.length:=(List.getElem?_eq_some_iff.1 f_).1
      rw[h4 i y hy]at Qz;have ak:i*k+off+j<arr.size:=by
       rw[h7]
       calc i*k+off+j<i*k+k:=by omega
        _=(i+1)*k:=by rw[Nat.add_mul,Nat.one_mul]
        _≤c*k:=Nat.mul_le_mul_right k (by omega)
      refine⟨arr[i*k+off+j],by simp[World.cell?,h6,ak],.r ?_⟩
      have:=h8 i y hy (off+j) r f_
      rw[←Nat.add_assoc]at this;simpa[Array.getD_eq_getD_getElem?,ak]using this
    ·cases h
   ·cases h
  ·cases h
 ·rename_i xs off
  cases h
  cases hr with|s hr=>cases hr with|kN vs h1 h2 h3=>
  refine⟨_,_,rfl,fun j t hj=>?_⟩
  rw[rs,List.getElem?_map,List.getElem?_drop,Option.map_eq_some_iff]at hj;obtain⟨r,f_,rfl⟩:=hj;exact⟨_,by rw[Nat.add_assoc];exact h2 _ _ f_,.r (h3 _ _ f_)⟩
 ·cases h
theorem Yx {t:TypeId}{x:Operand}(ho:o.op= .load t x)(hd:bO o nt=true){d:TD}(ht:aM P t=some d){fr:List (Nat×Option az)}{cs:List TV}(hg:s.deref (s.ev x)=some (fr,cs))(hl:d.size≤cs.length)(h1:d.k.agg=true∨d.size=1):
  fE P E nt o fr (bN s.env [x]) (mk d.k.agg (cs.take d.size)) []:=by
 refine .still hd fun C env get a w ρ D hf hi hR=>?_;obtain⟨b,k,e1,hc⟩:=wR hR hg hf (br hR hi (x:=x) (by simp))
 have cI:∀j,j<d.size→w.cell? ⟨b,k+j,none⟩=some ((w.cell? ⟨b,k+j,none⟩).getD undef):=fun j hj=>by
  obtain⟨x,hx,_⟩:=hc j cs[j] (List.getElem?_eq_getElem (by omega))
  simp[hx]
 refine⟨_,by simp only[execOp,ho,Instr.loadAt,e1,Sem.run_bind,Instr.sureAddr,Sem.run_pure,Result.andThen_ok];rw[nn ht h1 _ cI];rfl,?_⟩
 refine xW (by simp;omega) (fun i t hi=>?_) (by rcases h1 with h1|h1;exact .inl h1;right;simp;omega)
 rw[List.getElem?_take]at hi;split at hi
 ·rename_i ak
  obtain⟨x,hx,hr⟩:=hc i t hi;simpa[Array.getD_eq_getD_getElem?,ak,hx]using hr
 ·cases hi
theorem Yy {t:TypeId}{x ix:Operand}(ho:o.op= .indexAddr t x ix)(hd:bO o nt=true){k:IntKind}{n:Int}(hn:(s.ev ix).i?=some (k,n))(h0:0≤n){K:List (Nat×Option az)→GV→Prop}(h:s.elem (aM P) t n.toNat (s.ev x) K):
  ∃fr g,fE P E nt o fr (bN s.env [x,ix]) g []∧(∀y∈fr,s.get y.1=y.2)∧K fr g:=by
 unfold ah.elem at h;split at h
 ·rename_i d ht
  split at h
  ·rename_i e hk
   have hu:=lW ht hk;split at h
   ·rename_i b eb
    split at h
    ·rename_i e' k' xs hg
     obtain⟨hz,ak,hK⟩:=h;refine⟨_,_,.still hd fun C env get a w ρ D hf hi hR=>?_,(fun y hy=>by simp at hy;subst hy;exact hg),hK⟩
     obtain⟨de,EO,hz⟩:=Option.map_eq_some_iff.1 hz;have hb:=hf _ (List.mem_cons_self ..);obtain⟨A,c,e1,h1,h2,h3,h4,h5⟩:=hR.blk b _ hb;have hr:=br hR hi (x:=x) (by simp)
     have cJ:=GV.i_ hn (br hR hi (x:=ix) (by simp))
     rw[eb]at hr;generalize hv:a.eval x=v at hr
     cases hr with|s hr=>cases hr with|own hr=>
     rw[e1]at hr
     cases hr;rcases h5 with⟨_,rfl,_⟩|⟨g',arr,rfl,h6,h7,h8⟩
     ·simp at ak
     ·refine⟨.pointer (some ⟨g',n.toNat*k'+0,none⟩),?_,.s (.row e1)⟩
      have xY:n<xs.length:=by omega
      simp[execOp,ho,Instr.indexAt,cJ,asIntOf,run_underlying hu,hv,h0,xY,rp EO,hz,add_lit]
    ·exact h.elim
   ·rename_i k' xs eb
    obtain⟨hz,y,hy,hK⟩:=h;refine⟨_,_,.still hd fun C env get a w ρ D hf hi hR=>?_,(fun y hy=>by cases hy),hK⟩
    obtain⟨de,EO,hz⟩:=Option.map_eq_some_iff.1 hz;have hr:=br hR hi (x:=x) (by simp)
    have cJ:=GV.i_ hn (br hR hi (x:=ix) (by simp))
    rw[eb]at hr;generalize hv:a.eval x=v at hr
    cases hr with|s hr=>cases hr with|r hr=>
    obtain⟨A,c,rfl,h1,h2,h3,h4⟩:=hr.slice;obtain⟨g1,b,off,rfl,g3⟩:=h3 _ y hy;have ak:n.toNat<xs.length:=(List.getElem?_eq_some_iff.1 hy).1
    have cf:xs≠[]:=by intro e;subst e;simp at ak
    refine⟨.pointer (some ⟨b,off+n.toNat*k'+0,none⟩),?_,.s (.kN (fun j=>(w.cell? ⟨b,off+n.toNat*k'+j,none⟩).getD undef) (h4 _ _ rfl cf) (fun j r hj=>?_) fun j r hj=>?_)⟩
    ·have xY:n<xs.length:=by omega
     simp[execOp,ho,Instr.indexAt,cJ,asIntOf,run_underlying hu,hv,h0,xY,rp EO,hz,add_lit]
    ·obtain⟨v,g_,_⟩:=g3 j r hj
     rw[←Nat.add_assoc]at g_;simp[g_]
    ·obtain⟨v,g_,f_⟩:=g3 j r hj
     rw[←Nat.add_assoc]at g_;simpa[g_]using f_
   ·exact h.elim
  ·rename_i m e hk
   obtain⟨hm,z,g',hz,bu,hK⟩:=h;refine⟨_,_,.still hd fun C env get a w ρ D hf hi hR=>?_,(fun y hy=>by cases hy),hK⟩
   obtain⟨de,EO,hz⟩:=Option.map_eq_some_iff.1 hz;have cJ:=GV.i_ hn (br hR hi (x:=ix) (by simp))
   obtain⟨b,off,e1,hr⟩:=Al bu (br hR hi (x:=x) (by simp))
   refine⟨_,?_,hr⟩;have xY:n<m:=by omega
   simp[execOp,ho,Instr.indexAt,Instr.sureAddr,cJ,asIntOf,run_underlying (zl ht hk),e1,h0,xY,rp EO,hz,add_lit]
  ·exact h.elim
 ·exact h.elim
end
end Go.Proofs.YtabjbdnokpjipaaGreat.T
