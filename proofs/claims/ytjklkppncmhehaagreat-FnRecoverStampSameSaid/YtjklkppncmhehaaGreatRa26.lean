/-
What is proved: how values, memory and temporaries stand for trees ('RRep', 'TRep', 'GRep', 'BRep', 'Rel'), and what keeps that. No condition. what an operation does to trees ('vcOp'), and that the machine does it ('OpL'): first part: operations that leave memory as it is. No condition. of each operation that leaves memory as it is, what it does to trees. No condition.
-/
import Derived.WalkKit
import Derived.Orders
set_option linter.unusedVariables false
set_option linter.unusedSimpArgs false
namespace Go.Proofs.YtjklkppncmhehaaGreat.T
open Go Go.RowKit
inductive RT where
 |v (x:Value)
 |nil
 |sl (k:Nat) (xs:List (List RT))
inductive TV where
 |r (t:RT)
 |own (b:Nat)
 |ptr (b off:Nat)
 |row (b k i off:Nat)
 |gS (xs:List RT) (off:Nat)
inductive GV where
 |s (t:TV)
 |a (ts:List TV)
 |p (gs:List GV)
 |eI (fn:Fn) (first jq:List GV)
 |u
inductive ak where
 |box (cs:List TV)
 |rows (e k:Nat) (xs:List (List RT))
 |dead
inductive cb (w:World) (D:Nat→Prop):Value→RT→Prop
 |v {x:Value} (h:x.oneCell'=true):cb w D x (.v x)
 |nil:cb w D (.slice none 0 0) .nil
 |yA {A:Option Addr} {c k:Nat} (hm:c≤maxLen):cb w D (.slice A 0 c) (.sl k [])
 |sl {b o c k:Nat} {xs:List (List RT)} (vs:Nat→Nat→Value) (hc:xs.length≤c) (hm:c≤maxLen) (hD:D b) (hk:∀(i:Nat) (e:List RT),xs[i]?=some e→e.length=k)
   (hv:∀(i:Nat) (e:List RT),xs[i]?=some e→∀(j:Nat) (r:RT),e[j]?=some r→w.cell? ⟨b,o+(i*k+j),none⟩=some (vs i j)) (hr:∀(i:Nat) (e:List RT),xs[i]?=some e→∀(j:Nat) (r:RT),e[j]?=some r→cb w D (vs i j) r):
   cb w D (.slice (some ⟨b,o,none⟩) xs.length c) (.sl k xs)
inductive bW (ρ:Nat→Option Value) (w:World) (D:Nat→Prop):Value→TV→Prop
 |r {v:Value} {t:RT} (h:cb w D v t):bW ρ w D v (.r t)
 |own {b n c:Nat} {A:Option Addr} (h:ρ b=some (.slice A n c)):bW ρ w D (.slice A n c) (.own b)
 |ptr {b g off:Nat} (h:ρ b=some (.pointer (some ⟨g,0,none⟩))):bW ρ w D (.pointer (some ⟨g,off,none⟩)) (.ptr b off)
 |row {b k i off g n c:Nat} (h:ρ b=some (.slice (some ⟨g,0,none⟩) n c)):bW ρ w D (.pointer (some ⟨g,i*k+off,none⟩)) (.row b k i off)
 |gS {g o off:Nat} {xs:List RT} (vs:Nat→Value) (hD:D g) (hv:∀(j:Nat) (r:RT),xs[j]?=some r→w.cell? ⟨g,o+j,none⟩=some (vs j)) (hr:∀(j:Nat) (r:RT),xs[j]?=some r→cb w D (vs j) r):
   bW ρ w D (.pointer (some ⟨g,o+off,none⟩)) (.gS xs off)
inductive aY (ρ:Nat→Option Value) (w:World) (D:Nat→Prop):Value→GV→Prop
 |s {v:Value} {t:TV} (h:bW ρ w D v t):aY ρ w D v (.s t)
 |a {arr:Array Value} {ts:List TV} (hn:arr.size=ts.length) (h:∀(i:Nat) (t:TV),ts[i]?=some t→bW ρ w D (arr.getD i undef) t):aY ρ w D (.agg arr) (.a ts)
 |p {vs:Array Value} {gs:List GV} (hn:vs.size=gs.length) (h:∀(i:Nat) (g:GV),gs[i]?=some g→aY ρ w D (vs.getD i undef) g):aY ρ w D (.tuple vs) (.p gs)
 |eI {fn:Fn} {first jq:Array Value} {fs cs:List GV} (hf:first.size=fs.length) (hc:jq.size=cs.length) (U:∀(i:Nat) (g:GV),fs[i]?=some g→aY ρ w D (first.getD i undef) g) (h2:∀(i:Nat) (g:GV),cs[i]?=some g→aY ρ w D (jq.getD i undef) g):
   aY ρ w D (.func fn first jq) (.eI fn fs cs)
 |u {v:Value}:aY ρ w D v .u
def bV (D:Nat→Prop)(w w':World):Prop:=∀b,D b→w'.heap[b]?=w.heap[b]?
theorem bV.refl (D:Nat→Prop)(w:World):bV D w w:=fun _ _=>rfl
theorem bV.cell {D:Nat→Prop}{w w':World}(h:bV D w w'){b o:Nat}(hb:D b):w'.cell? ⟨b,o,none⟩=w.cell? ⟨b,o,none⟩:=World.cell?_of_block (h b hb)
theorem cb.bB {w w':World}{D D':Nat→Prop}(hk:bV D w w')(hD:∀b,D b→D' b){v:Value}{t:RT}(h:cb w D v t):cb w' D' v t:=by
 induction h with
 |v h=>exact .v h
 |nil=>exact .nil
 |yA hm=>exact .yA hm
 |sl vs hc hm kM cB hv _ ih=>exact .sl vs hc hm (hD _ kM) cB (fun i e he j r hr=>(hk.cell kM).trans (hv i e he j r hr)) ih
theorem bW.bB {ρ ρ':Nat→Option Value}{w w':World}{D D':Nat→Prop}(ff:∀b x,ρ b=some x→ρ' b=some x)(hk:bV D w w')(hD:∀b,D b→D' b){v:Value}{t:TV}(h:bW ρ w D v t):bW ρ' w' D' v t:=by
 cases h with
 |r h=>exact .r (h.bB hk hD)
 |own h=>exact .own (ff _ _ h)
 |ptr h=>exact .ptr (ff _ _ h)
 |row h=>exact .row (ff _ _ h)
 |gS vs kM hv hr=>exact .gS vs (hD _ kM) (fun j r h=>(hk.cell kM).trans (hv j r h)) fun j r h=>(hr j r h).bB hk hD
theorem aY.bB {ρ ρ':Nat→Option Value}{w w':World}{D D':Nat→Prop}(ff:∀b x,ρ b=some x→ρ' b=some x)(hk:bV D w w')(hD:∀b,D b→D' b){v:Value}{t:GV}(h:aY ρ w D v t):aY ρ' w' D' v t:=by
 induction h with
 |s h=>exact .s (h.bB ff hk hD)
 |a hn h=>exact .a hn fun i t ht=>(h i t ht).bB ff hk hD
 |p hn _ ih=>exact .p hn ih
 |eI hf hc _ _ i1 i2=>exact .eI hf hc i1 i2
 |u=>exact .u
theorem cb.one {w:World}{D:Nat→Prop}{v:Value}{t:RT}(h:cb w D v t):v.oneCell'=true:=by
 cases h<;>first|assumption|rfl
theorem bW.one {ρ:Nat→Option Value}{w:World}{D:Nat→Prop}{v:Value}{t:TV}(h:bW ρ w D v t):v.oneCell'=true:=by
 cases h<;>first|(rename_i h;exact h.one)|rfl
theorem IN {v:Value}(h:v.oneCell'=true):v.cells= #[v]:=by
 cases v<;>first|rfl|(simp[Value.oneCell']at h)
def Row (w:World)(D:Nat→Prop)(A:Option Addr)(k:Nat)(xs:List (List RT)):Prop:=
 ∀(i:Nat) (e:List RT),xs[i]?=some e→e.length=k∧∃b o,A=some ⟨b,o,none⟩∧∀j r,e[j]?=some r→∃v,w.cell? ⟨b,o+(i*k+j),none⟩=some v∧cb w D v r
theorem cb.slice {w:World}{D:Nat→Prop}{v:Value}{k:Nat}{xs:List (List RT)}(h:cb w D v (.sl k xs)):
  ∃A c,v= .slice A xs.length c∧xs.length≤c∧c≤maxLen∧Row w D A k xs∧∀b o,A=some ⟨b,o,none⟩→xs≠[]→D b:=by
 cases h with
 |yA hm=>exact⟨_,_,rfl,Nat.zero_le _,hm,fun i e he=>(by simp at he),fun _ _ _ h=>absurd rfl h⟩
 | @sl b o c k xs vs hc hm hD hk hv hr=>
   exact⟨_,_,rfl,hc,hm,fun i e he=>⟨hk i e he,b,o,rfl,fun j r hj=>⟨_,hv i e he j r hj,hr i e he j r hj⟩⟩,fun b' o' e _=>by cases e;exact hD⟩
theorem cb.JI {w:World}{D:Nat→Prop}{b o c k:Nat}{xs:List (List RT)}(hc:xs.length≤c)(hm:c≤maxLen)(hD:D b)(h:Row w D (some ⟨b,o,none⟩) k xs):cb w D (.slice (some ⟨b,o,none⟩) xs.length c) (.sl k xs):=by
 have hx:∀(i:Nat) (e:List RT),xs[i]?=some e→∀(j:Nat) (r:RT),e[j]?=some r→∃v,w.cell? ⟨b,o+(i*k+j),none⟩=some v∧cb w D v r:=by
  intro i e he j r hj;obtain⟨_,b',o',e',h'⟩:=h i e he
  cases e';exact h' j r hj
 refine .sl (fun i j=>(w.cell? ⟨b,o+(i*k+j),none⟩).getD undef) hc hm hD (fun i e he=>(h i e he).1) (fun i e he j r hj=>?_) fun i e he j r hj=>?_
 ·obtain⟨v,hv,_⟩:=hx i e he j r hj
  simp[hv]
 ·obtain⟨v,hv,hr⟩:=hx i e he j r hj
  simpa[hv]using hr
theorem Row.bB {w w':World}{D D':Nat→Prop}{A:Option Addr}{k:Nat}{xs:List (List RT)}(hk:bV D w w')(hD:∀b,D b→D' b)(hA:∀b o,A=some ⟨b,o,none⟩→w'.heap[b]?=w.heap[b]?)(h:Row w D A k xs):Row w' D' A k xs:=by
 intro i e he;obtain⟨U,b,o,e1,h2⟩:=h i e he;refine⟨U,b,o,e1,fun j r hj=>?_⟩
 obtain⟨v,hv,hr⟩:=h2 j r hj;exact⟨v,(World.cell?_of_block (hA b o e1)).trans hv,hr.bB hk hD⟩
def bo:Option Value→Option Nat
 |some (.pointer (some a))=>some a.block
 |some (.slice (some a) _ _)=>some a.block
 |_=>none
def dt (ρ:Nat→Option Value)(w:World)(D:Nat→Prop)(x:Option Value):ak→Prop
 | .box cs=>∃g arr ty,x=some (.pointer (some ⟨g,0,none⟩))∧w.heap[g]?=some (.cells arr ty (0,0))∧arr.size=cs.length∧∀(i:Nat) (t:TV),cs[i]?=some t→bW ρ w D (arr.getD i undef) t
 | .rows e k xs=>∃A c,x=some (.slice A xs.length c)∧xs.length≤c∧c≤maxLen∧0<k∧(∀(i:Nat) (y:List RT),xs[i]?=some y→y.length=k)∧
   ((A=none∧xs=[]∧c=0)∨∃g arr,A=some ⟨g,0,none⟩∧w.heap[g]?=some (.cells arr e (0,0))∧arr.size=c*k∧∀(i:Nat) (y:List RT),xs[i]?=some y→∀(j:Nat) (r:RT),y[j]?=some r→cb w D (arr.getD (i*k+j) undef) r)
 | .dead=>True
theorem dt.bB {ρ ρ':Nat→Option Value}{w w':World}{D D':Nat→Prop}{x:Option Value}{y:ak}(ff:∀b x,ρ b=some x→ρ' b=some x)(hk:bV D w w')(hD:∀b,D b→D' b)
  (hx:y= .dead∨∀g,bo x=some g→w'.heap[g]?=w.heap[g]?) (h:dt ρ w D x y):dt ρ' w' D' x y:=by
 cases y with
 |dead=>trivial
 |box cs=>
  obtain⟨g,arr,ty,rfl,U,h2,h3⟩:=h;exact⟨g,arr,ty,rfl,((hx.resolve_left (by simp)) g rfl).trans U,h2,fun i t ht=>(h3 i t ht).bB ff hk hD⟩
 |rows e k xs=>
  obtain⟨A,c,rfl,U,h2,h3,h4,h5⟩:=h;refine⟨A,c,rfl,U,h2,h3,h4,?_⟩;rcases h5 with h5|⟨g,arr,rfl,h6,h7,h8⟩
  ·exact .inl h5
  ·exact .inr ⟨g,arr,rfl,((hx.resolve_left (by simp)) g rfl).trans h6,h7,fun i y hy j r hr=>(h8 i y hy j r hr).bB hk hD⟩
def ak.live:ak→Bool
 | .dead=>false
 |_=>true
structure Ctx where
 W:World
 M:Nat→Prop
 D0:Nat→Prop
 nt:Nat
 kF:Nat→Option Value
structure Rel (C:Ctx) (env:Nat→GV) (get:Nat→Option ak) (a:Act) (w:World) (ρ:Nat→Option Value) (D:Nat→Prop):Prop where
 os:w.os=C.W.os
 tape:w.tape=C.W.tape
 output:w.output=C.W.output
 size:C.W.heap.size≤w.heap.size
 old:∀k,k<C.W.heap.size→¬C.M k→w.heap[k]?=C.W.heap[k]?
 ro:∀k,D k→k<w.heap.size∧(C.D0 k∨C.M k∨C.W.heap.size≤k)
 free:∀b,get b=none→ρ b=none
 blk:∀b y,get b=some y→dt ρ w D (ρ b) y
 own:∀b y g,get b=some y→y.live=true→bo (ρ b)=some g→¬D g∧(C.M g∨C.W.heap.size≤g)
 sep:∀b y b' y' g,get b=some y→y.live=true→get b'=some y'→y'.live=true→bo (ρ b)=some g→bo (ρ b')=some g→b=b'
 env:∀t,aY ρ w D (a.tmps.getD t undef) (env t)
 defers:a.defers=[]
 nt:a.tmps.size=C.nt
 ext:∀b x,C.kF b=some x→ρ b=some x
def R (C:Ctx)(env:Nat→GV)(get:Nat→Option ak)(a:Act)(w:World):Prop:=∃ρ D,Rel C env get a w ρ D
def put (env:Nat→GV)(dst:Option Nat)(g:GV):Nat→GV:=fun t=>if dst=some t then g else env t
def gt (b:Nat):List (Nat×ak)→Option ak
 |[]=>none
 |(u,y)::e=>if b=u then some y else gt b e
def upd (get:Nat→Option ak)(Δ:List (Nat×ak)):Nat→Option ak:=fun b=>match gt b Δ with|some y=>some y|none=>get b
theorem L_ {a:Act}{dst:Option Nat}{v:Value}{t:Nat}(h:∀d,dst=some d→d<a.tmps.size):(a.put dst v).tmps.getD t undef=if dst=some t then v else a.tmps.getD t undef:=by
 cases dst with
 |none=>simp[Act.put]
 |some d=>
  have hd:=h d rfl;simp only[Act.put,Array.getD_eq_getD_getElem?,Array.getElem?_setIfInBounds,Option.some.injEq];by_cases e:d=t
  ·subst e;simp[hd]
  ·simp[e]
theorem L' {a:Act}{dst:Option Nat}{v:Value}:(a.put dst v).tmps.size=a.tmps.size:=by cases dst<;>simp[Act.put]
theorem put_defers {a:Act}{dst:Option Nat}{v:Value}:(a.put dst v).defers=a.defers:=by cases dst<;>simp[Act.put]
section
variable {C:Ctx}{env:Nat→GV}{get:Nat→Option ak}{a:Act}{w w':World}{ρ:Nat→Option Value}{D:Nat→Prop}
theorem Rel.put (h:Rel C env get a w ρ D){dst:Option Nat}{v:Value}{g:GV}(hd:∀d,dst=some d→d<C.nt)(hg:aY ρ w D v g):Rel C (put env dst g) get (a.put dst v) w ρ D:=
 {h with
  env:=fun t=>by
   rw[L_ (by rw[h.nt];exact hd)]
   unfold T.put;split
   ·exact hg
   ·exact h.env t
  defers:=by rw[put_defers];exact h.defers
  nt:=by rw[L'];exact h.nt}
theorem Rel.fu (h:Rel C env get a w ρ D){b g:Nat}{y:ak}(hy:get b=some y)(hl:y.live=true)(hg:bo (ρ b)=some g):g<w.heap.size:=by
 have:=h.blk b y hy
 cases y with
 |dead=>simp[ak.live]at hl
 |box cs=>
  obtain⟨g',arr,ty,e,U,_⟩:=this;rw[e]at hg;injection hg with hg;subst hg
  exact(Array.getElem?_eq_some_iff.1 U).1
 |rows e k xs=>
  obtain⟨A,c,e1,_,_,_,_,h5⟩:=this;rcases h5 with⟨rfl,_⟩|⟨g',arr,rfl,h6,_⟩
  ·rw[e1]at hg;cases hg
  ·rw[e1]at hg;injection hg with hg;subst hg
   exact(Array.getElem?_eq_some_iff.1 h6).1
theorem Rel.heap (h:Rel C env get a w ρ D)(e:w'.heap=w.heap)(e1:w'.os=w.os)(e2:w'.tape=w.tape)(e3:w'.output=w.output):Rel C env get a w' ρ D:=by
 have hk:∀D,bV D w w':=fun D b _=>by rw[e]
 exact
 {os:=e1.trans h.os,tape:=e2.trans h.tape,output:=e3.trans h.output,size:=by rw[e];exact h.size,old:=fun k U h2=>by rw[e];exact h.old k U h2
  ro:=fun k hd=>by rw[e];exact h.ro k hd
  free:=h.free
  blk:=fun b y hy=>(h.blk b y hy).bB (fun _ _ h=>h) (hk D) (fun _ h=>h) (.inr fun g _=>by rw[e])
  own:=h.own,sep:=h.sep
  env:=fun t=>(h.env t).bB (fun _ _ h=>h) (hk D) fun _ h=>h
  defers:=h.defers,nt:=h.nt,ext:=h.ext}
end
end Go.Proofs.YtjklkppncmhehaaGreat.T
namespace Go.Proofs.YtjklkppncmhehaaGreat.T
open Go Go.RowKit
inductive TK where
 |sc
 |slice (e:TypeId)
 |array (n:Nat) (e:TypeId)
 |struct (fs:List (Nat×TypeId))
structure TD where
 size:Nat
 bytes:Nat
 zero:List Value
 k:TK
def pX:TypeDesc→TK
 | .slice e=> .slice e
 | .array n e=> .array n e
 | .struct fs=> .struct (fs.toList.map fun f=>(f.offset,f.type))
 |_=> .sc
def TK.agg:TK→Bool
 | .array ..| .struct ..=>true
 |_=>false
def aq (P:Program)(t:TypeId):Option TD:=
 match P.info? t,P.underlying t with
 |some i,some d=>match i.zero with
  |some z=>if z.cells.size=i.size∧z.cells.all Value.oneCell'=true∧((pX d).agg=true∨i.size=1)then some ⟨i.size,i.bytes,z.cells.toList,pX d⟩else none
  |none=>none
 |_,_=>none
theorem cW {P:Program}{t:TypeId}{d:TD}(h:aq P t=some d):(∃i u z,P.info? t=some i∧P.underlying t=some u∧i.zero=some z∧i.size=d.size∧i.bytes=d.bytes∧z.cells.toList=d.zero∧pX u=d.k)∧d.zero.length=d.size∧(∀x∈d.zero,x.oneCell'=true)∧(d.k.agg=true∨d.size=1):=by
 unfold aq at h
 cases hi:P.info? t with
 |none=>simp[hi]at h
 |some i=>
  cases hu:P.underlying t with
  |none=>simp[hi,hu]at h
  |some u=>
   cases hz:i.zero with
   |none=>simp[hi,hu,hz]at h
   |some z=>
    simp only[hi,hu,hz]at h;split at h
    ·rename_i hc
     obtain⟨c1,c2,c3⟩:=hc
     cases h;refine⟨⟨i,u,z,rfl,rfl,hz,rfl,rfl,rfl,rfl⟩,by simpa using c1,fun x hx=>?_,c3⟩
     rw[Array.all_eq_true_iff_forall_mem]at c2;exact c2 x (by simpa using hx)
    ·cases h
theorem dX {P:Program}{t:TypeId}{d:TD}(h:aq P t=some d):∃i u z,P.info? t=some i∧P.underlying t=some u∧i.zero=some z∧i.size=d.size∧i.bytes=d.bytes∧z.cells.toList=d.zero∧pX u=d.k:=(cW h).1
section
variable {P:Program}{t:TypeId}{d:TD}{w:World}
theorem oF (h:aq P t=some d):(sizeOf t).run P w= .ok d.size w:=by
 obtain⟨i,u,z,U,_,_,h4,_⟩:=dX h;simp[sizeOf,typeInfo,U,h4]
theorem pY (h:aq P t=some d):(isAgg t).run P w= .ok d.k.agg w:=by
 obtain⟨i,u,z,_,h2,_,_,_,_,h7⟩:=dX h;rw[←h7];simp only[isAgg,Sem.run_bind,run_underlying h2,Result.andThen_ok]
 cases u<;>simp[pX,TK.agg]
theorem kr {e:TypeId}(h:aq P t=some d)(hk:d.k= .slice e):P.underlying t=some (.slice e):=by
 obtain⟨i,u,z,_,h2,_,_,_,_,h7⟩:=dX h;rw[hk]at h7
 cases u<;>simp[pX]at h7
 subst h7;exact h2
theorem tk {n:Nat}{e:TypeId}(h:aq P t=some d)(hk:d.k= .array n e):P.underlying t=some (.array n e):=by
 obtain⟨i,u,z,_,h2,_,_,_,_,h7⟩:=dX h;rw[hk]at h7
 cases u<;>simp[pX]at h7
 obtain⟨rfl,rfl⟩:=h7;exact h2
theorem wF {fs:List (Nat×TypeId)}(h:aq P t=some d)(hk:d.k= .struct fs):∃gs,P.underlying t=some (.struct gs)∧gs.toList.map (fun f=>(f.offset,f.type))=fs:=by
 obtain⟨i,u,z,_,h2,_,_,_,_,h7⟩:=dX h;rw[hk]at h7
 cases u<;>simp[pX]at h7
 exact⟨_,h2,h7⟩
theorem Mc {fs:List (Nat×TypeId)}{f o:Nat}{ft:TypeId}(h:aq P t=some d)(hk:d.k= .struct fs)(hf:fs[f]?=some (o,ft)):∃gs g,P.underlying t=some (.struct gs)∧gs[f]?=some g∧g.offset=o∧g.type=ft:=by
 obtain⟨gs,U,h2⟩:=wF h hk;rw[←h2,List.getElem?_map]at hf;obtain⟨g,hg,he⟩:=Option.map_eq_some_iff.1 hf
 cases he;exact⟨gs,g,U,by simpa using hg,rfl,rfl⟩
end
def lk (t:Nat):List (Nat×GV)→GV
 |[]=> .u
 |(u,g)::e=>if t=u then g else lk t e
structure ae where
 env:List (Nat×GV)
 sto:List (Nat×ak)
 nx:Nat
def ae.get (s:ae)(b:Nat):Option ak:=
 match gt b s.sto with
 |some y=>some y
 |none=>if b<s.nx then some .dead else none
def jr:Value→RT
 | .slice none 0 0=> .nil
 |x=> .v x
def uZ:Value→GV
 | .agg cs=> .a (cs.toList.map fun x=> .r (jr x))
 | .tuple _=> .u
 |x=> .s (.r (jr x))
def oG:Value→Bool
 | .agg cs=>cs.all Value.oneCell'
 | .tuple _=>true
 |_=>true
def ae.ev (s:ae):Operand→GV
 | .tmp t=>lk t s.env
 | .const v=>if oG v then uZ v else .u
 | .global _=> .u
 | .func f=> .eI (.func f) [] []
def bF (e:List (Nat×GV)):List Operand→List (Nat×GV)
 |[]=>[]
 | .tmp t::xs=>(t,lk t e)::bF e xs
 |_::xs=>bF e xs
theorem pe {w:World}{D:Nat→Prop}{x:Value}(h:x.oneCell'=true):cb w D x (jr x):=by
 unfold jr;split
 ·exact .nil
 ·exact .v h
theorem FH {ρ:Nat→Option Value}{w:World}{D:Nat→Prop}{v:Value}(h:oG v=true):aY ρ w D v (uZ v):=by
 cases v
 case agg cs=>
  simp only[oG,Array.all_eq_true_iff_forall_mem]at h;refine .a (by simp) fun i t ht=>?_
  simp only[List.getElem?_map,Option.map_eq_some_iff]at ht;obtain⟨x,hx,rfl⟩:=ht;have iG:cs[i]?=some x:=by simpa using hx
  simp only[Array.getD_eq_getD_getElem?,iG,Option.getD_some];exact .r (pe (h x (Array.mem_of_getElem? iG)))
 case tuple=>exact .u
 all_goals exact .s (.r (pe rfl))
theorem aW {C:Ctx}{env:Nat→GV}{get:Nat→Option ak}{a:Act}{w:World}{ρ:Nat→Option Value}{D:Nat→Prop}{s:ae}(hR:Rel C env get a w ρ D){xs:List Operand}
  (hi:∀x∈bF s.env xs,env x.1=x.2) {x:Operand} (hx:x∈xs):aY ρ w D (a.eval x) (s.ev x):=by
 cases x with
 |const v=>
  show aY ρ w D v (if oG v then uZ v else .u)
  split
  ·exact FH ‹_›
  ·exact .u
 |global g=>exact .u
 |func f=>exact .eI rfl rfl (fun i g h=>(by simp at h)) fun i g h=>(by simp at h)
 |tmp t=>
  have:env t=lk t s.env:=by
   induction xs with
   |nil=>cases hx
   |cons y ys ih=>
    rcases List.mem_cons.1 hx with rfl|hx
    ·exact hi (t,_) (List.mem_cons_self ..)
    ·refine ih (fun z hz=>hi z ?_) hx
     cases y<;>first|exact hz|exact List.mem_cons_of_mem _ hz
  show aY ρ w D (a.tmps.getD t undef) (lk t s.env)
  rw[←this];exact hR.env t
def wG (E:List PanicEntry→World→Prop)(Q:Exit→Act→World→Prop):Prop:=∀ch a w,a.defers=[]→E ch w→Q (.panic ch) a w
def dR (P:Program)(E:List PanicEntry→World→Prop)(nt:Nat)(o:Oper)(fr:List (Nat×Option ak))(ins:List (Nat×GV))(gv:GV)(Δ:List (Nat×ak)):Prop:=
 ∀C env get a w (K:Act→World→Prop) Q,C.nt=nt→(∀x∈fr,get x.1=x.2)→(∀x∈ins,env x.1=x.2)→R C env get a w→(∀a' w',R C (put env o.dst gv) (upd get Δ) a' w'→K a' w')→wG E Q→o.wp P a w K Q
theorem FI (get:Nat→Option ak):upd get []=get:=rfl
def bu (o:Oper)(nt:Nat):Bool:=match o.dst with|some d=>decide (d<nt)|none=>true
theorem dR.still {P:Program}{E:List PanicEntry→World→Prop}{nt:Nat}{o:Oper}{fr:List (Nat×Option ak)}{ins:List (Nat×GV)}{gv:GV}(hd:bu o nt=true)
  (h:∀C env get a w ρ D,(∀x∈fr,get x.1=x.2)→(∀x∈ins,env x.1=x.2)→Rel C env get a w ρ D→∃v,(execOp a.eval o).run P w= .ok (.value v) w∧aY ρ w D v gv):dR P E nt o fr ins gv []:=by
 intro C env get a w K Q hn hf hi hR hK hE;obtain⟨ρ,D,hR⟩:=hR;obtain⟨v,hv,hg⟩:=h C env get a w ρ D hf hi hR;unfold Oper.wp;rw[hv,Oper.upon_value];refine hK _ _ ⟨ρ,D,hR.put (fun d e=>?_) hg⟩
 unfold bu at hd;rw[e]at hd;simpa[hn]using hd
def GV.b?:GV→Option Bool
 | .s (.r (.v (.bool b)))=>some b
 |_=>none
def GV.i?:GV→Option (IntKind×Int)
 | .s (.r (.v (.int k n)))=>some (k,n)
 |_=>none
theorem GV.u0 {ρ:Nat→Option Value}{w:World}{D:Nat→Prop}{v:Value}{g:GV}{b:Bool}(h:g.b?=some b)(hr:aY ρ w D v g):v= .bool b:=by
 unfold GV.b? at h;split at h
 ·cases h
  cases hr with|s hr=>cases hr with|r hr=>cases hr;rfl
 ·cases h
theorem GV.eY {ρ:Nat→Option Value}{w:World}{D:Nat→Prop}{v:Value}{g:GV}{k:IntKind}{n:Int}(h:g.i?=some (k,n))(hr:aY ρ w D v g):v= .int k n:=by
 unfold GV.i? at h;split at h
 ·cases h
  cases hr with|s hr=>cases hr with|r hr=>cases hr;rfl
 ·cases h
def ae.view (s:ae):GV→Option (Nat×List (List RT)×List (Nat×Option ak))
 | .s (.r (.sl k xs))=>some (k,xs,[])
 | .s (.r .nil)=>some (0,[],[])
 | .s (.own b)=>match s.get b with
   |some (.rows e k xs)=>some (k,xs,[(b,some (.rows e k xs))])
   |_=>none
 |_=>none
theorem tl {C:Ctx}{env:Nat→GV}{get:Nat→Option ak}{a:Act}{w:World}{ρ:Nat→Option Value}{D:Nat→Prop}{s:ae}(hR:Rel C env get a w ρ D){g:GV}{k:Nat}{xs:List (List RT)}{fr:List (Nat×Option ak)}
  (h:s.view g=some (k,xs,fr)) (hf:∀x∈fr,get x.1=x.2) {v:Value} (hr:aY ρ w D v g):∃A c,v= .slice A xs.length c∧xs.length≤c∧c≤maxLen∧Row w D A k xs:=by
 unfold ae.view at h;split at h
 ·cases h
  cases hr with|s hr=>cases hr with|r hr=>
  obtain⟨A,c,U,h2,h3,h4,_⟩:=hr.slice;exact⟨A,c,U,h2,h3,h4⟩
 ·cases h
  cases hr with|s hr=>cases hr with|r hr=>cases hr;exact⟨none,0,rfl,Nat.zero_le _,Nat.zero_le _,fun i e he=>(by simp at he)⟩
 ·rename_i b
  split at h
  ·rename_i e k' WK hg
   cases h;have hb:get b=some (.rows e k xs):=hf _ (List.mem_cons_self ..)
   obtain⟨A,c,e1,U,h2,h3,h4,h5⟩:=hR.blk b _ hb
   cases hr with|s hr=>cases hr with|own hr=>
   rw[e1]at hr
   cases hr;refine⟨A,c,rfl,U,h2,fun i y hy=>⟨h4 i y hy,?_⟩⟩
   rcases h5 with⟨_,rfl,_⟩|⟨g,arr,rfl,h6,h7,h8⟩
   ·simp at hy
   ·refine⟨g,0,rfl,fun j r hj=>⟨arr.getD (i*k+j) undef,?_,h8 i y hy j r hj⟩⟩
    have hi:i<xs.length:=(List.getElem?_eq_some_iff.1 hy).1
    have IP:j<y.length:=(List.getElem?_eq_some_iff.1 hj).1
    rw[h4 i y hy]at IP;have aj:i*k+j<arr.size:=by
     rw[h7]
     calc i*k+j<i*k+k:=by omega
      _=(i+1)*k:=by rw[Nat.add_mul,Nat.one_mul]
      _≤c*k:=Nat.mul_le_mul_right k (by omega)
    simp[World.cell?,h6,Array.getD_eq_getD_getElem?,Array.getElem?_eq_getElem aj]
  ·cases h
 ·cases h
def GV.cells?:GV→Option (List TV)
 | .s t=>some [t]
 | .a ts=>some ts
 |_=>none
theorem js {ρ:Nat→Option Value}{w:World}{D:Nat→Prop}{v:Value}{g:GV}{ts:List TV}(h:g.cells?=some ts)(hr:aY ρ w D v g):v.cells.size=ts.length∧∀(i:Nat) (t:TV),ts[i]?=some t→bW ρ w D (v.cells.getD i undef) t:=by
 unfold GV.cells? at h;split at h
 ·cases h
  cases hr with|s hr=>
  rw[IN hr.one];refine⟨rfl,fun i t ht=>?_⟩
  cases i with
  |zero=>simp at ht;subst ht;exact hr
  |succ i=>simp at ht
 ·cases h
  cases hr with|a hn h=>exact⟨hn,h⟩
 ·cases h
def mk (agg:Bool)(cs:List TV):GV:=if agg then .a cs else match cs with
 |[c]=> .s c
 |_=> .u
def rs (xs:List RT):List TV:=xs.map .r
end Go.Proofs.YtjklkppncmhehaaGreat.T
namespace Go.Proofs.YtjklkppncmhehaaGreat.T
open Go Go.RowKit
def GV.agg?:GV→Option (List TV)
 | .a ts=>some ts
 |_=>none
def GV.tup?:GV→Option (List GV)
 | .p gs=>some gs
 |_=>none
def lE (o:Nat):GV→Option GV
 | .s (.ptr b off)=>some (.s (.ptr b (off+o)))
 | .s (.row b k i off)=>some (.s (.row b k i (off+o)))
 | .s (.gS xs off)=>some (.s (.gS xs (off+o)))
 |_=>none
def nc (T:TypeId→Option TD)(t f:Nat):Option (Nat×TD):=
 match T t with
 |some d=>match d.k with
  | .struct fs=>match fs[f]? with
    |some (o,ft)=>match T ft with
     |some d'=>some (o,d')
     |none=>none
    |none=>none
  |_=>none
 |none=>none
def ae.deref (s:ae):GV→Option (List (Nat×Option ak)×List TV)
 | .s (.ptr b off)=>match s.get b with
   |some (.box cs)=>some ([(b,some (.box cs))],cs.drop off)
   |_=>none
 | .s (.row b k i off)=>match s.get b with
   |some (.rows e k' xs)=>if k=k' then match xs[i]? with
    |some y=>some ([(b,some (.rows e k' xs))],rs (y.drop off))
    |none=>none
    else none
   |_=>none
 | .s (.gS xs off)=>some ([],rs (xs.drop off))
 |_=>none
def ae.elem (s:ae)(T:TypeId→Option TD)(t:TypeId)(n:Nat)(g:GV)(K:List (Nat×Option ak)→GV→Prop):Prop:=
 match T t with
 |some d=>match d.k with
  | .slice e=>match g with
    | .s (.own b)=>match s.get b with
      |some (.rows e' k xs)=>(T e).map TD.size=some k∧n<xs.length∧K [(b,some (.rows e' k xs))] (.s (.row b k n 0))
      |_=>False
    | .s (.r (.sl k xs))=>(T e).map TD.size=some k∧∃y,xs[n]?=some y∧K [] (.s (.gS y 0))
    |_=>False
  | .array m e=>n<m∧∃z g',(T e).map TD.size=some z∧lE (n*z) g=some g'∧K [] g'
  |_=>False
 |none=>False
def JK:BinOp→Int→Int→Option Bool
 | .eql,x,y=>some (decide (x=y))
 | .neq,x,y=>some (!decide (x=y))
 | .lss,x,y=>some (decide (x<y))
 | .leq,x,y=>some (decide (x≤y))
 | .gtr,x,y=>some (decide (y<x))
 | .geq,x,y=>some (decide (y≤x))
 |_,_,_=>none
def Rn (k:IntKind):BinOp→Int→Int→Option Int
 | .add,x,y=>some (k.wrap (x+y))
 | .sub,x,y=>some (k.wrap (x-y))
 | .mul,x,y=>some (k.wrap (x*y))
 | .quo,x,y=>if y=0 then none else some (k.wrap (x.tdiv y))
 | .rem,x,y=>if y=0 then none else some (x.tmod y)
 | .shl,x,y=>if y<0 then none else some (k.wrap (x*2^min y.toNat k.bits))
 | .shr,x,y=>if y<0 then none else some (x.fdiv (2^min y.toNat k.bits))
 | .and,x,y=>some (k.wrap (BitVec.ofInt k.bits x&&& BitVec.ofInt k.bits y).toNat)
 | .xor,x,y=>some (k.wrap (BitVec.ofInt k.bits x^^^BitVec.ofInt k.bits y).toNat)
 |_,_,_=>none
def gI (k:IntKind)(n:Int):GV:= .s (.r (.v (.int k n)))
def gB (b:Bool):GV:= .s (.r (.v (.bool b)))
def oH:BinOp→Bool
 | .shl| .shr=>true
 |_=>false
def JL (T_:Bool)(op:BinOp)(x y:GV):Option GV:=
 match x,y with
 | .s (.r (.v (.int k a))),.s (.r (.v (.int k' b)))=>
   if k=k'∨oH op=true then match JK op a b with
    |some r=>if oH op=true then none else some (gB r)
    |none=>(Rn k op a b).map (gI k)
   else none
 | .s (.r (.v (.bool a))),.s (.r (.v (.bool b)))=>if T_=true then match op with
   | .eql=>some (gB (a==b))
   | .neq=>some (gB (!(a==b)))
   |_=>none
   else none
 |_,_=>none
section
variable {P:Program}{E:List PanicEntry→World→Prop}{nt:Nat}{o:Oper}{s:ae}
theorem FJ {x:Operand}(ho:o.op= .move x∨o.op= .assign x)(hd:bu o nt=true):dR P E nt o [] (bF s.env [x]) (s.ev x) []:=by
 refine .still hd fun C env get a w ρ D _ hi hR=>⟨a.eval x,?_,aW hR hi (List.mem_cons_self ..)⟩
 rcases ho with ho|ho<;>simp[execOp,ho]
theorem O0 {c x y:Operand}(ho:o.op= .pick c x y)(hd:bu o nt=true){t:Bool}(h:(s.ev c).b?=some t):dR P E nt o [] (bF s.env [c,x,y]) (if t then s.ev x else s.ev y) []:=by
 refine .still hd fun C env get a w ρ D _ hi hR=>?_;have U:=GV.u0 h (aW hR hi (x:=c) (by simp))
 refine⟨if t then a.eval x else a.eval y,?_,?_⟩
 ·simp[execOp,ho,U,asBool]
 ·cases t
  ·exact aW hR hi (by simp)
  ·exact aW hR hi (by simp)
theorem uc {n:Nat}{g g':GV}(h:lE n g=some g'){ρ:Nat→Option Value}{w:World}{D:Nat→Prop}{v:Value}(hr:aY ρ w D v g):∃b o,v= .pointer (some ⟨b,o,none⟩)∧aY ρ w D (.pointer (some ⟨b,o+n,none⟩)) g':=by
 unfold lE at h;split at h
 ·cases h
  cases hr with|s hr=>cases hr with|ptr hr=>exact⟨_,_,rfl,.s (.ptr hr)⟩
 ·cases h
  cases hr with|s hr=>cases hr with|row hr=>exact⟨_,_,rfl,by rw[Nat.add_assoc];exact .s (.row hr)⟩
 ·cases h
  cases hr with|s hr=>cases hr with|gS vs U h2 h3=>exact⟨_,_,rfl,by rw[Nat.add_assoc];exact .s (.gS vs U h2 h3)⟩
 ·cases h
theorem oI {t f k:Nat}{d':TD}(h:nc (aq P) t f=some (k,d')):∃gs g,P.underlying t=some (.struct gs)∧gs[f]?=some g∧g.offset=k∧aq P g.type=some d':=by
 unfold nc at h;split at h
 ·rename_i d hd
  split at h
  ·rename_i fs hk
   split at h
   ·rename_i o ft hf
    split at h
    ·rename_i d1 U
     cases h;obtain⟨gs,g,a1,a2,a3,a4⟩:=Mc hd hk hf;exact⟨gs,g,a1,a2,a3,by rw[a4];exact U⟩
    ·cases h
   ·cases h
  ·cases h
 ·cases h
theorem add_lit (b o n:Nat):Addr.add ⟨b,o,none⟩ n=⟨b,o+n,none⟩:=by
 unfold Addr.add;split
 ·simp_all
 ·rfl
theorem yB {t f k:Nat}{x:Operand}(ho:o.op= .fieldAddr t x f)(hd:bu o nt=true){d':TD}(h:nc (aq P) t f=some (k,d'))(hz:d'.size≠0){g':GV}(hg:lE k (s.ev x)=some g'):
  dR P E nt o [] (bF s.env [x]) g' []:=by
 refine .still hd fun C env get a w ρ D _ hi hR=>?_;obtain⟨gs,g,U,h2,h3,h4⟩:=oI h;obtain⟨b,off,e1,hr⟩:=uc hg (aW hR hi (x:=x) (by simp))
 refine⟨_,?_,hr⟩;simp[execOp,ho,Instr.fieldAt,e1,run_underlying U,h2,Instr.sureAddr,fieldPlace,oF h4,hz,h3,add_lit]
theorem BB {ρ:Nat→Option Value}{w:World}{D:Nat→Prop}{agg:Bool}{cs:List TV}{arr:Array Value}(hn:arr.size=cs.length)(h:∀(i:Nat) (t:TV),cs[i]?=some t→bW ρ w D (arr.getD i undef) t)(U:agg=true∨cs.length=1):
  aY ρ w D (if agg then .agg arr else arr.getD 0 undef) (mk agg cs):=by
 unfold mk
 cases agg
 ·match cs,U with
  |[c],_=>exact .s (h 0 c rfl)
 ·exact .a hn h
theorem pf {ρ:Nat→Option Value}{w:World}{D:Nat→Prop}{t:TypeId}{d:TD}(ht:aq P t=some d){arr:Array Value}{ts:List TV}{k:Nat}(hn:arr.size=ts.length)(h:∀(i:Nat) (t:TV),ts[i]?=some t→bW ρ w D (arr.getD i undef) t)
  (hl:k+d.size≤ts.length) (U:d.k.agg=true∨d.size=1):∃v,(part t arr k).run P w= .ok v w∧aY ρ w D v (mk d.k.agg ((ts.drop k).take d.size)):=by
 have jG:(arr.extract k (k+d.size)).size=((ts.drop k).take d.size).length:=by
  simp only[Array.size_extract,List.length_take,List.length_drop,hn];omega
 have hx:∀(i:Nat) (t:TV),((ts.drop k).take d.size)[i]?=some t→bW ρ w D ((arr.extract k (k+d.size)).getD i undef) t:=by
  intro i t hi;rw[List.getElem?_take]at hi;split at hi
  ·rw[List.getElem?_drop]at hi
   have:=h _ _ hi
   have aj:k+i<arr.size:=by rw[hn];exact(List.getElem?_eq_some_iff.1 hi).1
   have e:(arr.extract k (k+d.size)).getD i undef=arr.getD (k+i) undef:=by
    simp only[Array.getD_eq_getD_getElem?,Array.getElem?_extract];rw[if_pos (by omega)]
   rw[e];exact this
  ·cases hi
 have hm:=BB jG hx (agg:=d.k.agg) (by
  rcases U with U|U
  ·exact .inl U
  ·right;simp only[List.length_take,List.length_drop];omega)
 refine⟨_,?_,hm⟩;simp only[part,Sem.run_bind,pY ht,Result.andThen_ok]
 cases nd:d.k.agg
 ·have iM:d.size=1:=by simpa[nd]using U
  have aj:k<arr.size:=by omega
  have e:(arr.extract k (k+d.size)).getD 0 undef=arr[k]:=by
   simp only[Array.getD_eq_getD_getElem?,Array.getElem?_extract];rw[if_pos (by omega)]
   simp[aj]
  simp[aj,e]
 ·simp[oF ht]
theorem Md {t f k:Nat}{x:Operand}(ho:o.op= .field t x f)(hd:bu o nt=true){d':TD}(h:nc (aq P) t f=some (k,d')){ts:List TV}(hg:(s.ev x).agg?=some ts)(hl:k+d'.size≤ts.length)(U:d'.k.agg=true∨d'.size=1):
  dR P E nt o [] (bF s.env [x]) (mk d'.k.agg ((ts.drop k).take d'.size)) []:=by
 refine .still hd fun C env get a w ρ D _ hi hR=>?_;obtain⟨gs,g,u1,u2,u3,u4⟩:=oI h;have hr:=aW hR hi (x:=x) (by simp)
 have e:s.ev x= .a ts:=by
  unfold GV.agg? at hg;split at hg
  ·rename_i e;cases hg;exact e
  ·cases hg
 rw[e]at hr;generalize hv:a.eval x=v at hr
 cases hr with
 | @a arr _ hn hr=>
 obtain⟨v,r1,r2⟩:=pf u4 hn hr hl U;refine⟨v,?_,r2⟩;simp[execOp,ho,Instr.field,hv,run_underlying u1,u2,asAgg,u3,r1]
theorem Me {t e m:Nat}{x ix:Operand}(ho:o.op= .index t x ix)(hd:bu o nt=true){d de:TD}(ht:aq P t=some d)(hk:d.k= .array m e)(he:aq P e=some de){k:IntKind}{n:Int}(hn:(s.ev ix).i?=some (k,n))(h0:0≤n)(hm:n<m)
  {ts:List TV} (hg:(s.ev x).agg?=some ts) (hl:n.toNat*de.size+de.size≤ts.length) (U:de.k.agg=true∨de.size=1):dR P E nt o [] (bF s.env [x,ix]) (mk de.k.agg ((ts.drop (n.toNat*de.size)).take de.size)) []:=by
 refine .still hd fun C env get a w ρ D _ hi hR=>?_;have hr:=aW hR hi (x:=x) (by simp)
 have c7:=GV.eY hn (aW hR hi (x:=ix) (by simp))
 have e:s.ev x= .a ts:=by
  unfold GV.agg? at hg;split at hg
  ·rename_i e;cases hg;exact e
  ·cases hg
 rw[e]at hr;generalize hv:a.eval x=v at hr
 cases hr with
 | @a arr _ hn hr=>
 obtain⟨v,r1,r2⟩:=pf he hn hr hl U;refine⟨v,?_,r2⟩;simp[execOp,ho,Instr.index,hv,c7,asIntOf,run_underlying (tk ht hk),h0,hm,oF he,r1]
theorem FK {x:Operand}{i:Nat}(ho:o.op= .extract x i)(hd:bu o nt=true){gs:List GV}(hg:(s.ev x).tup?=some gs){g:GV}(eE:gs[i]?=some g):dR P E nt o [] (bF s.env [x]) g []:=by
 refine .still hd fun C env get a w ρ D _ hi hR=>?_;have hr:=aW hR hi (x:=x) (by simp)
 have e:s.ev x= .p gs:=by
  unfold GV.tup? at hg;split at hg
  ·rename_i e;cases hg;exact e
  ·cases hg
 rw[e]at hr;generalize hv:a.eval x=v at hr
 cases hr with
 | @p vs _ hn hr=>
 have aj:i<vs.size:=by rw[hn];exact(List.getElem?_eq_some_iff.1 eE).1
 refine⟨vs[i],?_,?_⟩
 ·simp[execOp,ho,Instr.extract,hv,aj]
 ·have:=hr i g eE
  simpa[Array.getD_eq_getD_getElem?,aj]using this
theorem BC {fn:Fn}{f c:Array Operand}(ho:o.op= .makeFunc fn f c)(hd:bu o nt=true):dR P E nt o [] (bF s.env (f++c).toList) (.eI fn (f.toList.map s.ev) (c.toList.map s.ev)) []:=by
 refine .still hd fun C env get a w ρ D _ hi hR=>⟨.func fn (f.map a.eval) (c.map a.eval),?_,?_⟩
 ·simp[execOp,ho,Instr.makeFunc]
 ·refine .eI (by simp) (by simp) (fun i g hg=>?_) fun i g hg=>?_
  ·rw[List.getElem?_map,Option.map_eq_some_iff]at hg
   obtain⟨x,hx,rfl⟩:=hg;have iG:f[i]?=some x:=by simpa using hx
   simp only[Array.getD_eq_getD_getElem?,Array.getElem?_map,iG,Option.map_some,Option.getD_some];exact aW hR hi (by simp;exact .inl (Array.mem_of_getElem? iG))
  ·rw[List.getElem?_map,Option.map_eq_some_iff]at hg
   obtain⟨x,hx,rfl⟩:=hg;have iG:c[i]?=some x:=by simpa using hx
   simp only[Array.getD_eq_getD_getElem?,Array.getElem?_map,iG,Option.map_some,Option.getD_some];exact aW hR hi (by simp;exact .inr (Array.mem_of_getElem? iG))
theorem Ro {x:Operand}{t:TypeId}(ho:o.op= .call {callee:= .builtin .len,args:= #[x],argTypes:= #[t]})(hd:bu o nt=true){d:TD}{e:TypeId}(ht:aq P t=some d)(hk:d.k= .slice e){k:Nat}{xs:List (List RT)}{fr:List (Nat×Option ak)}
  (hv:s.view (s.ev x)=some (k,xs,fr)):dR P E nt o fr (bF s.env [x]) (gI .i64 xs.length) []:=by
 refine .still hd fun C env get a w ρ D hf hi hR=>?_;obtain⟨A,c,e1,_⟩:=tl hR hv hf (aW hR hi (x:=x) (by simp))
 refine⟨.int .i64 xs.length,?_,.s (.r (.v rfl))⟩;simp[execOp,ho,resolve,invoke,builtin,Builtin.len_,e1,run_underlying (kr ht hk),goInt]
theorem Rp {x:Operand}{t:TypeId}(ho:o.op= .unOp .not t x)(hd:bu o nt=true){b:Bool}(hv:(s.ev x).b?=some b):dR P E nt o [] (bF s.env [x]) (gB (!b)) []:=by
 refine .still hd fun C env get a w ρ D hf hi hR=>⟨.bool (!b),?_,.s (.r (.v rfl))⟩
 have:=GV.u0 hv (aW hR hi (x:=x) (by simp))
 simp[execOp,ho,Op.unary,this]
theorem Rq {x:Operand}{t:TypeId}(ho:o.op= .unOp .neg t x)(hd:bu o nt=true){k:IntKind}{n:Int}(hv:(s.ev x).i?=some (k,n)):dR P E nt o [] (bF s.env [x]) (gI k (k.wrap (0-n))) []:=by
 refine .still hd fun C env get a w ρ D hf hi hR=>⟨.int k (k.wrap (0-n)),?_,.s (.r (.v rfl))⟩
 have:=GV.eY hv (aW hR hi (x:=x) (by simp))
 simp[execOp,ho,Op.unary,this,Op.intArith]
theorem rT {ρ:Nat→Option Value}{w:World}{D:Nat→Prop}{v:Value}{k:IntKind}{n:Int}(h:aY ρ w D v (.s (.r (.v (.int k n))))):v= .int k n:=GV.eY rfl h
theorem pg {ρ:Nat→Option Value}{w:World}{D:Nat→Prop}{v:Value}{b:Bool}(h:aY ρ w D v (.s (.r (.v (.bool b))))):v= .bool b:=GV.u0 rfl h
theorem Rr {op:BinOp}{t yt:TypeId}{x y:Operand}(ho:o.op= .binOp op t x y yt)(hd:bu o nt=true){bt:Bool}(hb:bt=true→P.underlying t=some .bool){g:GV}(hg:JL bt op (s.ev x) (s.ev y)=some g):dR P E nt o [] (bF s.env [x,y]) g []:=by
 refine .still hd fun C env get a w ρ D hf hi hR=>?_;have hx:=aW hR hi (x:=x) (by simp)
 have hy:=aW hR hi (x:=y) (by simp)
 unfold JL at hg;split at hg
 ·rename_i k m k' n ex ey
  rw[ex]at hx;rw[ey]at hy;have ax:=rT hx;have ay:=rT hy;split at hg
  ·rename_i hk
   split at hg
   ·rename_i r hr
    split at hg
    ·cases hg
    ·rename_i hs
     cases hg;have cB:k=k':=by simpa[hs]using hk
     subst cB;refine⟨.bool r,?_,.s (.r (.v rfl))⟩
     cases op<;>simp only[JK,reduceCtorEq,Option.some.injEq]at hr<;>subst hr<;>simp[execOp,ho,ax,ay,eqGuard,binOp,Op.intCmp,bne,BEq.beq]
   ·rename_i hr
    obtain⟨n',hn,rfl⟩:=Option.map_eq_some_iff.1 hg;refine⟨.int k n',?_,.s (.r (.v rfl))⟩;by_cases hs:oH op=true
    ·cases op<;>simp[oH]at hs
     all_goals
      simp only[Rn,Option.ite_none_left_eq_some]at hn;obtain⟨h0,hn⟩:=hn
      cases hn;simp[execOp,ho,ax,ay,eqGuard,binOp,Op.shift,h0]
    ·have cB:k=k':=by simpa[hs]using hk
     subst cB
     cases op<;>simp only[JK,reduceCtorEq]at hr<;>simp only[Rn,reduceCtorEq,Option.some.injEq,Option.ite_none_left_eq_some]at hn
     all_goals first
      |(subst hn;simp[execOp,ho,ax,ay,eqGuard,binOp,Op.intArith,Op.intBits];done)
      |(obtain⟨h0,hn⟩:=hn;subst hn;simp[execOp,ho,ax,ay,eqGuard,binOp,Op.intDiv,h0];done)
      |(exact absurd rfl hs)
  ·cases hg
 ·rename_i m n ex ey
  rw[ex]at hx;rw[ey]at hy;have ax:=pg hx;have ay:=pg hy;split at hg
  ·rename_i ZA
   have hu:=hb ZA;split at hg
   ·cases hg
    refine⟨.bool (m==n),?_,.s (.r (.v rfl))⟩;have:=run_eql_bool (P:=P) w t m n hu
    simp[execOp,ho,ax,ay,eqGuard,this]
   ·cases hg
    refine⟨.bool (!(m==n)),?_,.s (.r (.v rfl))⟩;have:=run_neq_bool (P:=P) w t m n hu
    simp[execOp,ho,ax,ay,eqGuard,this]
   ·cases hg
  ·cases hg
 ·cases hg
theorem nM {t:TypeId}{d:TD}(ht:aq P t=some d)(U:d.k.agg=true∨d.size=1){w:World}{b o:Nat}(f:Nat→Value)(h:∀j,j<d.size→w.cell? ⟨b,o+j,none⟩=some (f j)):
  (loadVar t ⟨b,o,none⟩).run P w= .ok (if d.k.agg then .agg ((List.range d.size).map f).toArray else((List.range d.size).map f).toArray.getD 0 undef) w:=by
 simp only[loadVar,Sem.run_bind,pY ht,Result.andThen_ok]
 cases nd:d.k.agg
 ·have iM:d.size=1:=by simpa[nd]using U
  have:=h 0 (by omega)
  simp only[Nat.add_zero]at this;simp[this,iM]
 ·have hl:=run_loadCells_list (P:=P) w ⟨b,o,none⟩ ((List.range d.size).map f) (fun j v hj=>by
   rw[List.getElem?_map,Option.map_eq_some_iff]at hj;obtain⟨i,hi,rfl⟩:=hj;rw[List.getElem?_eq_some_iff]at hi;obtain⟨aj,e⟩:=hi;simp at e aj
   subst e;rw[add_lit];exact h j aj)
  simp only[List.length_map,List.length_range]at hl;simp[oF ht,hl]
theorem wH {C:Ctx}{env:Nat→GV}{get:Nat→Option ak}{a:Act}{w:World}{ρ:Nat→Option Value}{D:Nat→Prop}(hR:Rel C env get a w ρ D){g:GV}{cs:List TV}{fr:List (Nat×Option ak)}
  (h:s.deref g=some (fr,cs)) (hf:∀x∈fr,get x.1=x.2) {v:Value} (hr:aY ρ w D v g):∃b k,v= .pointer (some ⟨b,k,none⟩)∧∀(j:Nat) (t:TV),cs[j]?=some t→∃x,w.cell? ⟨b,k+j,none⟩=some x∧bW ρ w D x t:=by
 unfold ae.deref at h;split at h
 ·rename_i b off
  split at h
  ·rename_i bK hg
   cases h;have hb:=hf _ (List.mem_cons_self ..);obtain⟨g',arr,ty,e1,U,h2,h3⟩:=hR.blk b _ hb
   cases hr with|s hr=>cases hr with|ptr hr=>
   rw[e1]at hr
   cases hr;refine⟨_,_,rfl,fun j t hj=>?_⟩
   rw[List.getElem?_drop]at hj;have aj:off+j<arr.size:=by rw[h2];exact(List.getElem?_eq_some_iff.1 hj).1
   refine⟨arr[off+j],by simp[World.cell?,U,aj],?_⟩
   simpa[Array.getD_eq_getD_getElem?,aj]using h3 _ _ hj
  ·cases h
 ·rename_i b k i off
  split at h
  ·rename_i e k' xs hg
   split at h
   ·rename_i hk
    subst hk;split at h
    ·rename_i y hy
     cases h;have hb:=hf _ (List.mem_cons_self ..);obtain⟨A,c,e1,U,h2,h3,h4,h5⟩:=hR.blk b _ hb
     cases hr with|s hr=>cases hr with| @row _ _ _ _ g' n' c' hr=>
     rw[e1]at hr
     cases hr;refine⟨_,_,rfl,fun j t hj=>?_⟩
     rw[rs,List.getElem?_map,List.getElem?_drop,Option.map_eq_some_iff]at hj;obtain⟨r,dE,rfl⟩:=hj;rcases h5 with⟨h5,_⟩|⟨g'',arr,e2,h6,h7,h8⟩
     ·cases h5
     ·cases e2
      have hi:i<xs.length:=(List.getElem?_eq_some_iff.1 hy).1
      have IP:off+j<y.length:=(List.getElem?_eq_some_iff.1 dE).1
      rw[h4 i y hy]at IP;have aj:i*k+off+j<arr.size:=by
       rw[h7]
       calc i*k+off+j<i*k+k:=by omega
        _=(i+1)*k:=by rw[Nat.add_mul,Nat.one_mul]
        _≤c*k:=Nat.mul_le_mul_right k (by omega)
      refine⟨arr[i*k+off+j],by simp[World.cell?,h6,aj],.r ?_⟩
      have:=h8 i y hy (off+j) r dE
      rw[←Nat.add_assoc]at this;simpa[Array.getD_eq_getD_getElem?,aj]using this
    ·cases h
   ·cases h
  ·cases h
 ·rename_i xs off
  cases h
  cases hr with|s hr=>cases hr with|gS vs U h2 h3=>
  refine⟨_,_,rfl,fun j t hj=>?_⟩
  rw[rs,List.getElem?_map,List.getElem?_drop,Option.map_eq_some_iff]at hj;obtain⟨r,dE,rfl⟩:=hj;exact⟨_,by rw[Nat.add_assoc];exact h2 _ _ dE,.r (h3 _ _ dE)⟩
 ·cases h
theorem O7 {t:TypeId}{x:Operand}(ho:o.op= .load t x)(hd:bu o nt=true){d:TD}(ht:aq P t=some d){fr:List (Nat×Option ak)}{cs:List TV}(hg:s.deref (s.ev x)=some (fr,cs))(hl:d.size≤cs.length)(U:d.k.agg=true∨d.size=1):
  dR P E nt o fr (bF s.env [x]) (mk d.k.agg (cs.take d.size)) []:=by
 refine .still hd fun C env get a w ρ D hf hi hR=>?_;obtain⟨b,k,e1,hc⟩:=wH hR hg hf (aW hR hi (x:=x) (by simp))
 have eR:∀j,j<d.size→w.cell? ⟨b,k+j,none⟩=some ((w.cell? ⟨b,k+j,none⟩).getD undef):=fun j hj=>by
  obtain⟨x,hx,_⟩:=hc j cs[j] (List.getElem?_eq_getElem (by omega))
  simp[hx]
 refine⟨_,by simp only[execOp,ho,Instr.loadAt,e1,Sem.run_bind,Instr.sureAddr,Sem.run_pure,Result.andThen_ok];rw[nM ht U _ eR];rfl,?_⟩
 refine BB (by simp;omega) (fun i t hi=>?_) (by rcases U with U|U;exact .inl U;right;simp;omega)
 rw[List.getElem?_take]at hi;split at hi
 ·rename_i aj
  obtain⟨x,hx,hr⟩:=hc i t hi;simpa[Array.getD_eq_getD_getElem?,aj,hx]using hr
 ·cases hi
theorem O_ {t:TypeId}{x ix:Operand}(ho:o.op= .indexAddr t x ix)(hd:bu o nt=true){k:IntKind}{n:Int}(hn:(s.ev ix).i?=some (k,n))(h0:0≤n){K:List (Nat×Option ak)→GV→Prop}(h:s.elem (aq P) t n.toNat (s.ev x) K):
  ∃fr g,dR P E nt o fr (bF s.env [x,ix]) g []∧(∀y∈fr,s.get y.1=y.2)∧K fr g:=by
 unfold ae.elem at h;split at h
 ·rename_i d ht
  split at h
  ·rename_i e hk
   have hu:=kr ht hk;split at h
   ·rename_i b eb
    split at h
    ·rename_i e' k' xs hg
     obtain⟨hz,aj,hK⟩:=h;refine⟨_,_,.still hd fun C env get a w ρ D hf hi hR=>?_,(fun y hy=>by simp at hy;subst hy;exact hg),hK⟩
     obtain⟨de,FL,hz⟩:=Option.map_eq_some_iff.1 hz;have hb:=hf _ (List.mem_cons_self ..);obtain⟨A,c,e1,U,h2,h3,h4,h5⟩:=hR.blk b _ hb;have hr:=aW hR hi (x:=x) (by simp)
     have c7:=GV.eY hn (aW hR hi (x:=ix) (by simp))
     rw[eb]at hr;generalize hv:a.eval x=v at hr
     cases hr with|s hr=>cases hr with|own hr=>
     rw[e1]at hr
     cases hr;rcases h5 with⟨_,rfl,_⟩|⟨g',arr,rfl,h6,h7,h8⟩
     ·simp at aj
     ·refine⟨.pointer (some ⟨g',n.toNat*k'+0,none⟩),?_,.s (.row e1)⟩
      have rU:n<xs.length:=by omega
      simp[execOp,ho,Instr.indexAt,c7,asIntOf,run_underlying hu,hv,h0,rU,oF FL,hz,add_lit]
    ·exact h.elim
   ·rename_i k' xs eb
    obtain⟨hz,y,hy,hK⟩:=h;refine⟨_,_,.still hd fun C env get a w ρ D hf hi hR=>?_,(fun y hy=>by cases hy),hK⟩
    obtain⟨de,FL,hz⟩:=Option.map_eq_some_iff.1 hz;have hr:=aW hR hi (x:=x) (by simp)
    have c7:=GV.eY hn (aW hR hi (x:=ix) (by simp))
    rw[eb]at hr;generalize hv:a.eval x=v at hr
    cases hr with|s hr=>cases hr with|r hr=>
    obtain⟨A,c,rfl,U,h2,h3,h4⟩:=hr.slice;obtain⟨g1,b,off,rfl,g3⟩:=h3 _ y hy;have aj:n.toNat<xs.length:=(List.getElem?_eq_some_iff.1 hy).1
    have cG:xs≠[]:=by intro e;subst e;simp at aj
    refine⟨.pointer (some ⟨b,off+n.toNat*k'+0,none⟩),?_,.s (.gS (fun j=>(w.cell? ⟨b,off+n.toNat*k'+j,none⟩).getD undef) (h4 _ _ rfl cG) (fun j r hj=>?_) fun j r hj=>?_)⟩
    ·have rU:n<xs.length:=by omega
     simp[execOp,ho,Instr.indexAt,c7,asIntOf,run_underlying hu,hv,h0,rU,oF FL,hz,add_lit]
    ·obtain⟨v,fp,_⟩:=g3 j r hj
     rw[←Nat.add_assoc]at fp;simp[fp]
    ·obtain⟨v,fp,dE⟩:=g3 j r hj
     rw[←Nat.add_assoc]at fp;simpa[fp]using dE
   ·exact h.elim
  ·rename_i m e hk
   obtain⟨hm,z,g',hz,a_,hK⟩:=h;refine⟨_,_,.still hd fun C env get a w ρ D hf hi hR=>?_,(fun y hy=>by cases hy),hK⟩
   obtain⟨de,FL,hz⟩:=Option.map_eq_some_iff.1 hz;have c7:=GV.eY hn (aW hR hi (x:=ix) (by simp))
   obtain⟨b,off,e1,hr⟩:=uc a_ (aW hR hi (x:=x) (by simp))
   refine⟨_,?_,hr⟩;have rU:n<m:=by omega
   simp[execOp,ho,Instr.indexAt,Instr.sureAddr,c7,asIntOf,run_underlying (tk ht hk),e1,h0,rU,oF FL,hz,add_lit]
  ·exact h.elim
 ·exact h.elim
end
end Go.Proofs.YtjklkppncmhehaaGreat.T
