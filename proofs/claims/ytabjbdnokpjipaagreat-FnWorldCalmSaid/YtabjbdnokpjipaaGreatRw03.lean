/-
What is proved: each operation of the supported kinds keeps the relation of Sr and what rests on it. Conditions: as stated.
-/
import Derived.Test.YtabjbdnokpjipaaGreatRw02
set_option linter.unusedVariables false
set_option linter.unusedSimpArgs false
namespace Go.Proofs.YtabjbdnokpjipaaGreat.Sr
open Go
section
variable {τ:TypeId}{P:Program}{F:Array Func}{α β γ δ:Type}{m:aJ}
theorem Su (t:TypeId)(hZ:vv P t=true)(o:Value):bk τ P F VR m (Instr.alloc t true o) (Instr.alloc t true o):=by
 unfold Instr.alloc;refine(iS t hZ).bind fun n x y hn hx=>?_;exact(BV t hx).bind fun n2 a b h2 ha=>sP (.ptr ha)
theorem ZQ (t:TypeId){x y:Value}(h:VR m x y):bk τ P F VR m (Instr.box t x) (Instr.box t y):=
 (BV t h).bind fun n2 a b h2 ha=>sP (.ptr ha)
inductive kU (m:aJ):List (Nat×Value)→List (Nat×Value)→Prop
 |nil:kU m [] []
 |cons {i:Nat} {x y:Value} {us vs:List (Nat×Value)} (h:VR m x y) (k:kU m us vs):kU m ((i,x)::us) ((i,y)::vs)
theorem kU.mono {n:aJ}(h:aJ.le m n){us vs:List (Nat×Value)}(x:kU m us vs):kU n us vs:=by
 induction x with
 |nil=>exact .nil
 |cons a _ ih=>exact .cons (a.mono h) ih
theorem AR.fold {xs ys us vs:Array Value}(off:Nat)(h:AR m xs ys)(k:AR m us vs):
  AR m (us.zipIdx.foldl (fun cs (c,j)=>cs.setIfInBounds (off+j) c) xs) (vs.zipIdx.foldl (fun cs (c,j)=>cs.setIfInBounds (off+j) c) ys):=by
 have key:∀(l l':List Value) (j:Nat) (xs ys:Array Value),AR m xs ys→l.length=l'.length→(∀i (h1:i<l.length) (h2:i<l'.length),VR m l[i] l'[i])→
   AR m ((l.zipIdx j).foldl (fun cs (c,j)=>cs.setIfInBounds (off+j) c) xs) ((l'.zipIdx j).foldl (fun cs (c,j)=>cs.setIfInBounds (off+j) c) ys):=by
  intro l;induction l with
  |nil=>intro l' j xs ys h hl _;cases l' with|nil=>exact h|cons=>simp at hl
  |cons a l ih=>
   intro l' j xs ys h hl hh
   cases l' with
   |nil=>simp at hl
   |cons b l'=>
    simp only[List.zipIdx_cons,List.foldl_cons];exact ih l' (j+1) _ _ (h.set _ (hh 0 (by simp) (by simp))) (by simpa using hl) fun i h1 h2=>hh (i+1) (by simpa using h1) (by simpa using h2)
 have:=key us.toList vs.toList 0 xs ys h k.list.1 k.list.2
 rw[←Array.foldl_toList,←Array.foldl_toList,Array.toList_zipIdx,Array.toList_zipIdx];exact this
theorem yT (place:Nat→Option (Nat×Nat)){xs ys:Array Value}{us vs:List (Nat×Value)}(h:AR m xs ys)(k:kU m us vs):
  (Instr.fill place xs us=none)∨∃a b,Instr.fill place xs us=some a∧Instr.fill place ys vs=some b∧AR m a b:=by
 induction k generalizing xs ys with
 |nil=>exact .inr ⟨xs,ys,rfl,rfl,h⟩
 | @cons i x y us vs hx _ ih=>
   have hc:=hx.cells;unfold Instr.fill
   cases place i with
   |none=>exact .inl rfl
   |some q=>
    obtain⟨off,size⟩:=q;simp only
    by_cases hb:(x.cells.size≠size||off+x.cells.size>xs.size)=true
    ·rw[if_pos hb];exact .inl rfl
    ·rw[if_neg hb,if_neg (by rw[←hc.1,←h.1];exact hb)]
     exact ih (h.fold off hc)
theorem Wa {ι:Type}{f:ι→Sem α}(xs:Array ι)(h:∀(m:aJ) x,bk τ P F fw m (f x) (f x)):bk τ P F fw m (xs.mapM f) (xs.mapM f):=by
 rw[Array.mapM_eq_mapM_toList];refine SR.bind (RA:=fw) ?_ fun n a b _ e=>by subst e;exact bV
 suffices∀(l:List ι) (m:aJ),bk τ P F fw m (l.mapM f) (l.mapM f)from this _ m
 intro l;induction l with
 |nil=>intro m;exact bV
 |cons a l ih=>
  intro m;rw[List.mapM_cons];exact(h m a).bind fun n x y _ e=>by
   subst e;exact(ih n).bind fun n2 x y _ e=>by subst e;exact bV
theorem Sv (t:TypeId)(hZ:vv P t=true){us vs:Array (Nat×Value)}(h:kU m us.toList vs.toList):bk τ P F VR m (Instr.build t us) (Instr.build t vs):=by
 unfold Instr.build;refine(iS t hZ).bind fun n x y hn hx=>?_;refine(sU t).bind fun n2 d d' h2 e=>?_;obtain⟨rfl,_⟩:=e;have hc:=(hx.mono h2).cells;have hp:=(h.mono hn).mono h2
 cases d with
 |struct fields=>
  refine SR.bind (RA:=fw) (Wa fields fun m f=>(vg _).bind fun _ a b _ e=>by subst e;exact bV) fun n3 a b h3 e=>?_
  subst e;rcases yT (a[·]?) (hc.mono h3) (hp.mono h3)with e1|⟨p,q,e1,e2,e3⟩
  ·simp only[e1];trivial
  ·simp only[e1,e2];exact sP (.agg e3.1 e3.2)
 |array len elem=>
  refine(vg _).bind fun n3 a b h3 e=>?_;subst e;rcases yT (fun i=>some (i*a,a)) (hc.mono h3) (hp.mono h3)with e1|⟨p,q,e1,e2,e3⟩
  ·simp only[e1];trivial
  ·simp only[e1,e2];exact sP (.agg e3.1 e3.2)
 |_=>trivial
theorem AR.rep {us vs:Array Value}(h:AR m us vs)(n:Nat):AR m ((Array.range n).map (us[· % us.size]!)) ((Array.range n).map (vs[· % vs.size]!)):=by
 rw[←h.1];refine AR.map _ fun i _=>?_;rw[getElem!_def,getElem!_def];rcases h.get? (i % us.size)with⟨h1,h2⟩|⟨x,y,h1,h2,h3⟩
 ·rw[h1,h2];exact .bool false
 ·rw[h1,h2];exact h3
theorem AR.zeroCells {us vs:Array Value}(h:AR m us vs)(n:Nat):AR m (Builtin.zeroCells us n) (Builtin.zeroCells vs n):=by
 unfold Builtin.zeroCells;have:=h.rep (n*us.size)
 rw[←h.1];rw[←h.1]at this;exact this
theorem BW (t:TypeId)(hZ:zX P t=true)(len:Nat){us vs:Array (Nat×Value)}(h:kU m us.toList vs.toList):bk τ P F VR m (Instr.buildSlice t len us) (Instr.buildSlice t len vs):=by
 unfold Instr.buildSlice;refine(sU t).bind fun n2 d d' h2 e=>?_;obtain⟨rfl,hd⟩:=e
 cases d with
 |slice elem=>
  refine(vg _).bind fun n3 a b h3 e=>?_;subst e;dsimp only
  split
  ·exact mI nofun
  ·have key:∀{n4:aJ} (h4:aJ.le n3 n4) {zs ws:Array Value} (hz:AR n4 zs ws),bk τ P F VR n4
     (match Instr.fill (fun i=>some (i*a,a)) (Array.map (fun x=>zs[x % zs.size]!) (Array.range (len*a))) us.toList with
      |some cells=>(newRow elem cells).bind fun x=>Sem.pure (Value.slice (some x) len len)
      |x=>stuck "buildSlice: a part of the wrong size")
     (match Instr.fill (fun i=>some (i*a,a)) (Array.map (fun x=>ws[x % ws.size]!) (Array.range (len*a))) vs.toList with
      |some cells=>(newRow elem cells).bind fun x=>Sem.pure (Value.slice (some x) len len)
      |x=>stuck "buildSlice: a part of the wrong size"):=by
    intro n4 h4 zs ws hz;rcases yT (fun i=>some (i*a,a)) (hz.rep (len*a)) (((h.mono h2).mono h3).mono h4)with e1|⟨p,q,e1,e2,e3⟩
    ·simp only[e1];trivial
    ·simp only[e1,e2]
     exact(od elem e3).bind fun n5 a b h5 ha=>sP (.slice len len ha)
   split
   ·exact key (aJ.le_refl _) AR.nil
   ·exact(iS _ (tv hZ hd)).bind fun n x y hn hx=>key hn hx.cells
 |_=>trivial
theorem Om (t:TypeId){x y:Value}(h:VR m x y):bk τ P F VR m (Instr.loadAt t x) (Instr.loadAt t y):=(kT h).bind fun _ a b _ ha=>tw t ha
theorem Jh (t:TypeId){x y u v:Value}(h:VR m x y)(k:VR m u v):bk τ P F fw m (Instr.storeAt t x u) (Instr.storeAt t y v):=(kT h).bind fun _ a b hn ha=>GI t ha (k.mono hn)
def BX (P:Program)(s:TypeId)(f:Nat):Bool:=
 match P.underlying s with
 |some (.struct fields)=>match fields[f]? with
  |some g=>match P.info? g.type with
   |some i=>i.size !=0
   |none=>false
  |none=>false
 |_=>false
theorem BY {a b:Addr}(h:bJ m a b){f:Field}(hf:∃i,P.info? f.type=some i∧i.size≠0):bk τ P F bJ m (fieldPlace a f) (fieldPlace b f):=by
 unfold fieldPlace sizeOf typeInfo;obtain⟨i,hi,hs⟩:=hf;refine SR.bind (RA:=fun _ a b=>a=b∧a≠0) ?_ fun n p q hn e=>?_
 ·refine SR.bind (RA:=fun _ a b=>a=b∧a=i) ?_ fun n p q hn e=>?_
  ·refine dO ?_
   show bk τ P F _ m (match P.info? f.type with|some i=>pure i|none=>stuck "no such type") _
   simp only[hi];exact⟨i,rfl,rfl,rfl⟩
  ·obtain⟨rfl,rfl⟩:=e
   exact sP ⟨rfl,hs⟩
 ·obtain⟨rfl,hp⟩:=e
  rw[if_neg hp,if_neg hp];exact sP ((h.mono hn).add _)
theorem Ji (s:TypeId){x y:Value}(f:Nat)(h:VR m x y)(ok:BX P s f=true):bk τ P F VR m (Instr.fieldAt s x f) (Instr.fieldAt s y f):=by
 unfold Instr.fieldAt;unfold BX at ok;refine(sU s).bind fun n2 d d' h2 e=>?_;obtain⟨rfl,hd⟩:=e;rw[hd]at ok
 cases d with
 |struct fields=>
  dsimp only at ok⊢
  cases hf:fields[f]? with
  |none=>rw[hf]at ok;cases ok
  |some g=>
   rw[hf]at ok;dsimp only at ok⊢
   refine(kT (h.mono h2)).bind fun n3 a b h3 ha=>?_;refine SR.bind (BY ha (f:=g) ?_) fun n4 a b h4 hb=>sP (.ptr hb)
   cases hi:P.info? g.type with
   |none=>rw[hi]at ok;cases ok
   |some i=>rw[hi]at ok;exact⟨i,rfl,by simpa using ok⟩
 |_=>cases ok
theorem Jj (R:gu τ P)(t:TypeId){x y u v:Value}(h:VR m x y)(k:VR m u v):bk τ P F VR m (Instr.indexAt t x u) (Instr.indexAt t y v):=by
 unfold Instr.indexAt;refine(pd k).bind fun n p q hn e=>?_;subst e;obtain⟨kd,i⟩:=p;refine(sU t).bind fun n2 d d' h2 e=>?_;obtain⟨rfl,_⟩:=e;have h':=(h.mono hn).mono h2
 cases d with
 |array len elem=>
  refine(kT h').bind fun n3 a b h3 ha=>?_;simp only[pure_bind];refine(sU t).bind fun n4 d d' h4 e=>?_;obtain⟨rfl,_⟩:=e;try dsimp only
  split
  ·exact(vg _).bind fun n5 p q h5 e=>by subst e;exact sP (.ptr (((ha.mono h4).mono h5).add _))
  ·repeat' split
   all_goals first|exact mI nofun|exact fF R
 |slice elem=>
  cases h' with
  |c8 l c=>
   simp only[pure_bind];refine(sU t).bind fun n4 d d' h4 e=>?_;obtain⟨rfl,_⟩:=e;exact fF R
  |slice l c ha=>
   simp only[pure_bind];refine(sU t).bind fun n4 d d' h4 e=>?_;obtain⟨rfl,_⟩:=e;try dsimp only
   split
   ·exact(vg _).bind fun n5 p q h5 e=>by subst e;exact sP (.ptr (((ha.mono h4).mono h5).add _))
   ·repeat' split
    all_goals first|exact mI nofun|exact fF R
  |_=>trivial
 |_=>trivial
theorem Sw (R:gu τ P)(t:TypeId){x y u v:Value}(h:VR m x y)(k:VR m u v):bk τ P F VR m (Instr.index t x u) (Instr.index t y v):=by
 unfold Instr.index;refine(pd k).bind fun n p q hn e=>?_;subst e;obtain⟨kd,i⟩:=p;refine(sU t).bind fun n2 d d' h2 e=>?_;obtain⟨rfl,_⟩:=e;have h':=(h.mono hn).mono h2
 cases d with
 |array len elem=>
  cases h' with
  |agg hs hh=>
   dsimp only
   split
   ·exact(vg _).bind fun n3 a b h3 e=>by subst e;exact tx elem _ (AR.mono h3 ⟨hs,hh⟩)
   ·exact fF R
  |_=>trivial
 |string=>
  cases h' with
  |string s=>
   dsimp only
   split
   ·exact sP (.int _ _)
   ·exact fF R
  |_=>trivial
 |_=>trivial
theorem Jk {x y:Value}(i:Nat)(h:VR m x y):bk τ P F VR m (Instr.extract x i) (Instr.extract y i):=by
 unfold Instr.extract
 cases h with
 |tuple hs hh=>
  dsimp only
  rcases(show AR m _ _ from⟨hs,hh⟩).get? i with⟨h1,h2⟩|⟨x,y,h1,h2,h3⟩
  ·rw[h1];trivial
  ·rw[h1,h2];exact sP h3
 |_=>trivial
theorem GJ (f:Fn)(hf:m.fn f){us vs xs ys:Array Value}(h:AR m us vs)(k:AR m xs ys):bk τ P F VR m (Instr.makeFunc f us xs) (Instr.makeFunc f vs ys):=
 sP (.func f hf h.1 h.2 k.1 k.2)
theorem zY (n:Nat):bk τ P F fw m (askRoom n) (askRoom n):=by
 unfold askRoom;split
 ·exact⟨_,rfl,bV⟩
 ·exact bV
theorem Eh (R:gu τ P)(t:TypeId)(hZ:zX P t=true){x y u v:Value}(h:VR m x y)(k:VR m u v):bk τ P F VR m (Instr.makeSlice t x u) (Instr.makeSlice t y v):=by
 unfold Instr.makeSlice;refine(sU t).bind fun n1 d d' h1 e=>?_;obtain⟨rfl,hd⟩:=e
 cases d with
 |slice elem=>
  refine(uM (h.mono h1)).bind fun n2 a a' h2 e=>?_;subst e;refine(uM ((k.mono h1).mono h2)).bind fun n3 b b' h3 e=>?_;subst e;refine(fI elem).bind fun n4 c c' h4 e=>?_;subst e;dsimp only
  have key:∀{n5:aJ},bk τ P F VR n5
    ((askRoom ((IntKind.i64.wrap b).toNat*c.bytes)).bind fun _=>(sizeOf elem).bind fun s=>
      if(IntKind.i64.wrap b).toNat*s=0 then(newRow elem ((Array.range ((IntKind.i64.wrap b).toNat*s)).map ((#[]:Array Value)[· %(#[]:Array Value).size]!))).bind fun r=>Sem.pure (Value.slice (some r) (IntKind.i64.wrap a).toNat (IntKind.i64.wrap b).toNat)
      else(zeroValue elem).bind fun z=>(newRow elem ((Array.range ((IntKind.i64.wrap b).toNat*s)).map (z.cells[· % z.cells.size]!))).bind fun r=>Sem.pure (Value.slice (some r) (IntKind.i64.wrap a).toNat (IntKind.i64.wrap b).toNat))
    ((askRoom ((IntKind.i64.wrap b).toNat*c.bytes)).bind fun _=>(sizeOf elem).bind fun s=>
      if(IntKind.i64.wrap b).toNat*s=0 then(newRow elem ((Array.range ((IntKind.i64.wrap b).toNat*s)).map ((#[]:Array Value)[· %(#[]:Array Value).size]!))).bind fun r=>Sem.pure (Value.slice (some r) (IntKind.i64.wrap a).toNat (IntKind.i64.wrap b).toNat)
      else(zeroValue elem).bind fun z=>(newRow elem ((Array.range ((IntKind.i64.wrap b).toNat*s)).map (z.cells[· % z.cells.size]!))).bind fun r=>Sem.pure (Value.slice (some r) (IntKind.i64.wrap a).toNat (IntKind.i64.wrap b).toNat)):=by
   intro n5;refine(zY _).bind fun n6 _ _ h6 _=>?_;refine(vg elem).bind fun n7 s s' h7 e=>?_;subst e;split
   ·exact(od elem (AR.nil.rep _)).bind fun n5 a b h5 ha=>sP (.slice _ _ ha)
   ·exact(iS _ (tv hZ hd)).bind fun n x y hn hx=>(od elem (hx.cells.rep _)).bind fun n5 a b h5 ha=>sP (.slice _ _ ha)
  split
  ·split
   ·exact(nV (α:=PUnit) (β:=PUnit) (RA:=fw) R).bind fun n _ _ _ _=>key
   ·split
    ·exact(nV (α:=PUnit) (β:=PUnit) (RA:=fw) R).bind fun n _ _ _ _=>key
    ·refine SR.bind (qP _) fun n a b _ e=>?_
     subst e;exact(nV (α:=PUnit) (β:=PUnit) (RA:=fw) R).bind fun n _ _ _ _=>key
  ·exact key
 |_=>trivial
end
end Go.Proofs.YtabjbdnokpjipaaGreat.Sr
namespace Go.Proofs.YtabjbdnokpjipaaGreat.Sr
open Go
section
variable {τ:TypeId}{P:Program}{F:Array Func}{α β γ δ:Type}{m:aJ}
inductive oe (m:aJ):Option Value→Option Value→Prop
 |none:oe m none none
 |some {x y:Value} (h:VR m x y):oe m (some x) (some y)
theorem oe.mono {n:aJ}(h:aJ.le m n){a b:Option Value}(x:oe m a b):oe n a b:=by
 cases x with
 |none=>exact .none
 |some k=>exact .some (k.mono h)
theorem gw (R:gu τ P){x y:Value}(h:VR m x y)(k:Nat)(c:BoundsCode):bk τ P F fw m (Instr.sliceBound x k c) (Instr.sliceBound y k c):=by
 unfold Instr.sliceBound;refine(pd h).bind fun n p q hn e=>?_;subst e;dsimp only
 split
 ·exact bV
 ·exact fF R
theorem iG (R:gu τ P)(b:Bool)(l c:Nat){lo GK hi fB mx Jl:Option Value}(h1:oe m lo GK)(h2:oe m hi fB)(h3:oe m mx Jl):
  bk τ P F fw m (Instr.sliceBounds b l c lo hi mx) (Instr.sliceBounds b l c GK fB Jl):=by
 unfold Instr.sliceBounds
 cases h3 with
 |none=>
  cases h2 with
  |none=>
   simp only[pure_bind]
   cases h1 with
   |none=>exact bV
   |some hl=>exact(gw R hl _ _).bind fun n a b hn e=>by subst e;exact bV
  |some hv=>
   simp only[pure_bind];refine(gw R hv _ _).bind fun n a b hn e=>?_;subst e
   cases h1 with
   |none=>exact bV
   |some hl=>exact(gw R (hl.mono hn) _ _).bind fun n a b hn e=>by subst e;exact bV
 |some hm=>
  refine(gw R hm _ _).bind fun n a b hn e=>?_;subst e
  cases h2 with
  |none=>trivial
  |some hv=>
   simp only[pure_bind];refine(gw R (hv.mono hn) _ _).bind fun n2 a b dt e=>?_;subst e
   cases h1 with
   |none=>exact bV
   |some hl=>exact(gw R ((hl.mono hn).mono dt) _ _).bind fun n a b hn e=>by subst e;exact bV
theorem Sx (R:gu τ P)(t:TypeId){x y:Value}(h:VR m x y){lo GK hi fB mx Jl:Option Value}(h1:oe m lo GK)(h2:oe m hi fB)(h3:oe m mx Jl):
  bk τ P F VR m (Instr.slice t x lo hi mx) (Instr.slice t y GK fB Jl):=by
 unfold Instr.slice;refine(sU t).bind fun n1 d d' cS e=>?_;obtain⟨rfl,_⟩:=e;have h':=h.mono cS
 cases d with
 |string=>
  cases h' with
  |string s=>
   have key:bk τ P F VR n1 ((Instr.sliceBounds false s.size s.size lo hi none).bind fun p=>Sem.pure (Value.string (s.extract p.1 p.2.1)))
     ((Instr.sliceBounds false s.size s.size GK fB none).bind fun p=>Sem.pure (Value.string (s.extract p.1 p.2.1))):=
    (iG R _ _ _ (h1.mono cS) (h2.mono cS) .none).bind fun n2 a b h2 e=>by subst e;exact sP (.string _)
   cases h3 with
   |none=>exact key
   |some _=>trivial
  |_=>trivial
 |slice elem=>
  cases h' with
  |c8 l c=>
   refine(iG R _ _ _ (h1.mono cS) (h2.mono cS) (h3.mono cS)).bind fun n2 a b dt e=>?_;subst e;refine(vg elem).bind fun n3 s s' mK e=>?_;subst e;try dsimp only
   split<;>exact sP (.c8 _ _)
  |slice l c ha=>
   refine(iG R _ _ _ (h1.mono cS) (h2.mono cS) (h3.mono cS)).bind fun n2 a b dt e=>?_;subst e;refine(vg elem).bind fun n3 s s' mK e=>?_;subst e;try dsimp only
   split
   ·exact sP (.slice _ _ ((ha.mono dt).mono mK))
   ·exact sP (.slice _ _ (((ha.mono dt).mono mK).add _))
  |_=>trivial
 |pointer arr=>
  refine(wu R h').bind fun n2 a b dt ha=>?_;refine(sU arr).bind fun n3 d d' mK e=>?_;obtain⟨rfl,_⟩:=e
  cases d with
  |array n elem=>
   refine(iG R _ _ _ (((h1.mono cS).mono dt).mono mK) (((h2.mono cS).mono dt).mono mK) (((h3.mono cS).mono dt).mono mK)).bind fun n4 p q AX e=>?_;subst e;refine(vg elem).bind fun n5 s s' pQ e=>?_;subst e;try dsimp only
   have hb:=((ha.mono mK).mono AX).mono pQ;split
   ·exact sP (.slice _ _ hb)
   ·exact sP (.slice _ _ (hb.add _))
  |_=>trivial
 |_=>trivial
theorem Jm (R:gu τ P)(t:TypeId){x y:Value}(h:VR m x y){lo GK hi fB mx Jl:Option Value}(h1:oe m lo GK)(h2:oe m hi fB)(h3:oe m mx Jl):
  bk τ P F VR m (Instr.sliceAt t x lo hi mx) (Instr.sliceAt t y GK fB Jl):=by
 unfold Instr.sliceAt;refine(sU t).bind fun n1 d d' cS e=>?_;obtain⟨rfl,_⟩:=e
 cases d with
 |array n elem=>
  refine(kT (h.mono cS)).bind fun n2 a b dt ha=>?_;refine(iG R _ _ _ ((h1.mono cS).mono dt) ((h2.mono cS).mono dt) ((h3.mono cS).mono dt)).bind fun n4 p q AX e=>?_;subst e;refine(vg elem).bind fun n5 s s' pQ e=>?_;subst e;try dsimp only
  have hb:=(ha.mono AX).mono pQ;split
  ·exact sP (.slice _ _ hb)
  ·exact sP (.slice _ _ (hb.add _))
 |_=>exact Sx R t (h.mono cS) (h1.mono cS) (h2.mono cS) (h3.mono cS)
theorem ZR (ts:Array TypeId)(t:TypeId){us vs:Array Value}(h:AR m us vs):bk τ P F VR m (Builtin.len_ ts t us) (Builtin.len_ ts t vs):=by
 unfold Builtin.len_
 cases ts[0]? with
 |none=>trivial
 |some t0=>
  rcases h.get? 0 with⟨h1,h2⟩|⟨x,y,h1,h2,h3⟩
  ·rw[h1];trivial
  ·rw[h1,h2]
   refine(sU t0).bind fun n1 d d' cS e=>?_;obtain⟨rfl,_⟩:=e;have h':=h3.mono cS
   cases d with
   |array n elem=>cases h'<;>exact sP (.int _ _)
   |pointer arr=>
    have key:bk τ P F VR n1 ((underlying arr).bind fun d=>match d with| .array n _=>Sem.pure (goInt n)|_=>stuck "len: pointer to array expected")
      ((underlying arr).bind fun d=>match d with| .array n _=>Sem.pure (goInt n)|_=>stuck "len: pointer to array expected"):=by
     refine(sU arr).bind fun n3 d d' mK e=>?_;obtain⟨rfl,_⟩:=e
     cases d<;>first|exact sP (.int _ _)|trivial
    cases h'<;>exact key
   |string=>cases h'<;>first|exact sP (.int _ _)|trivial
   |slice e=>cases h'<;>first|exact sP (.int _ _)|trivial
   |map a b=>cases h'<;>first|exact sP (.int _ _)|trivial
   |_=>cases h'<;>trivial
theorem ZS (ts:Array TypeId)(t:TypeId){us vs:Array Value}(h:AR m us vs):bk τ P F VR m (Builtin.cap_ ts t us) (Builtin.cap_ ts t vs):=by
 unfold Builtin.cap_
 cases ts[0]? with
 |none=>trivial
 |some t0=>
  rcases h.get? 0 with⟨h1,h2⟩|⟨x,y,h1,h2,h3⟩
  ·rw[h1];trivial
  ·rw[h1,h2]
   refine(sU t0).bind fun n1 d d' cS e=>?_;obtain⟨rfl,_⟩:=e;have h':=h3.mono cS
   cases d with
   |array n elem=>cases h'<;>exact sP (.int _ _)
   |pointer arr=>
    have key:bk τ P F VR n1 ((underlying arr).bind fun d=>match d with| .array n _=>Sem.pure (goInt n)|_=>stuck "cap: pointer to array expected")
      ((underlying arr).bind fun d=>match d with| .array n _=>Sem.pure (goInt n)|_=>stuck "cap: pointer to array expected"):=by
     refine(sU arr).bind fun n3 d d' mK e=>?_;obtain⟨rfl,_⟩:=e
     cases d<;>first|exact sP (.int _ _)|trivial
    cases h'<;>exact key
   |slice e=>cases h'<;>first|exact sP (.int _ _)|trivial
   |_=>cases h'<;>trivial
theorem Wb {x y u v:Value}(h:VR m x y)(k:VR m u v):bk τ P F VR m (Builtin.max2 x u) (Builtin.max2 y v):=by
 cases h with
 |int k1 a=>cases k<;>first|exact sP (.int _ _)|trivial|exact mI nofun
 |string s=>
  cases k with
  |string s2=>exact sP (.string _)
  |_=>first|trivial|exact mI nofun
 |_=>cases k<;>first|trivial|exact mI nofun
theorem BZ {f:Value→Value→Sem Value}(hf:∀{m:aJ} {x y u v:Value},VR m x y→VR m u v→bk τ P F VR m (f x u) (f y v)):
  ∀(us vs:List Value) {m:aJ} {x y:Value},VR m x y→us.length=vs.length→(∀i (h1:i<us.length) (h2:i<vs.length),VR m us[i] vs[i])→bk τ P F VR m (us.foldlM f x) (vs.foldlM f y)
 |[],[],m,x,y,h,_,_=>sP h
 |a::us,b::vs,m,x,y,h,hl,hh=>by
  rw[List.foldlM_cons,List.foldlM_cons];exact(hf h (hh 0 (by simp) (by simp))).bind fun n p q hn hp=>BZ hf us vs hp (by simpa using hl) fun i h1 h2=>(hh (i+1) (by simpa using h1) (by simpa using h2)).mono hn
 |[],_::_,_,_,_,_,hl,_=>by simp at hl
 |_::_,[],_,_,_,_,hl,_=>by simp at hl
theorem ZT (ts:Array TypeId)(t:TypeId){us vs:Array Value}(h:AR m us vs):bk τ P F VR m (Builtin.max_ ts t us) (Builtin.max_ ts t vs):=by
 unfold Builtin.max_;obtain⟨hl,hh⟩:=h.list
 cases hu:us.toList with
 |nil=>trivial
 |cons a al=>
  cases hv:vs.toList with
  |nil=>rw[hu,hv]at hl;simp at hl
  |cons b bl=>
   simp only[hu,hv]at hl hh;exact BZ Wb al bl (hh 0 (by simp) (by simp)) (by simpa using hl) fun i h1 h2=>hh (i+1) (by simpa using h1) (by simpa using h2)
end
end Go.Proofs.YtabjbdnokpjipaaGreat.Sr
namespace Go.Proofs.YtabjbdnokpjipaaGreat.Sr
open Go
section
variable {τ:TypeId}{P:Program}{F:Array Func}{α β γ δ:Type}{m:aJ}
def yU (P:Program)(ts:Array TypeId):Bool:=
 (match ts[1]? with
 |some t=>match P.underlying t with|some (.int _)=>false|_=>true
 |none=>true)&&(match ts[0]? with
 |some t=>zX P t
 |none=>true)
theorem Sy {x y:Value}(h:VR m x y):bk τ P F fw m (Builtin.lenOf x) (Builtin.lenOf y):=by
 cases h<;>first|exact bV|trivial
theorem og (size n:Nat){x y:Value}(h:VR m x y):bk τ P F AR m (Builtin.firstCells size n x) (Builtin.firstCells size n y):=by
 cases h with
 |c8 l c=>exact sP AR.nil
 |slice l c ha=>exact vw _ ha
 |string s=>
  refine sP ⟨rfl,fun i h1 h2=>?_⟩
  simp only[Array.getElem_map];exact .int _ _
 |_=>trivial
theorem GL (size l n:Nat){base ki:Option Addr}{x y:Value}{f:Bool→Sem α}{f':Bool→Sem β}{RA:aJ→α→β→Prop}
  (hb:base=none→ki=none) (hx:VR m x y) (hxn:x≠.nilFunc) (hf:∀b,fh τ (f b)) (hff:∀b,bk τ P F RA m (f b) (f' b)):
  bk τ P F RA m ((Builtin.mayShare size l n base x).bind f) ((Builtin.mayShare size l n ki y).bind f'):=by
 have e:∀there:Bool,fh τ ((if !there then(Sem.pure true:Sem Bool)else(match(generalizing:=false) x with
   | .slice (some b) _ _=>(Builtin.holdsCells b (n*size)).bind fun h=>Sem.pure (!h||base.any (·.block==b.block))
   |_=>Sem.pure false)).bind f):=by
  intro there
  cases there with
  |false=>exact hf _
  |true=>
   cases hx with
   |slice l c ha=>intro z;cases z<;>exact hf _
   |_=>exact hf _
 cases base with
 |none=>
  cases hb rfl
  cases hx with
  |slice l c ha=>exact .inl fun z=>by cases z<;>exact hf _
  |iY=>exact absurd rfl hxn
  |_=>exact hff _
 |some a=>
  refine .inl fun z=>?_
  cases z with
  |none=>exact fun b=>by have:=e (false&& !b);exact this
  |some p=>exact fun b=>by have:=e ((a.spot.isNone&&decide (a.off+l*size≤p.2))&& !b);exact this
def GM (m:aJ)(a b:Option Addr):Prop:=(a=none∧b=none)∨∃p q,a=some p∧b=some q∧bJ m p q
theorem GM.mono {n:aJ}(h:aJ.le m n){a b:Option Addr}(x:GM m a b):GM n a b:=by
 rcases x with x|⟨p,q,h1,h2,h3⟩
 ·exact .inl x
 ·exact .inr ⟨p,q,h1,h2,h3.mono h⟩
theorem VR.base {x y:Value}(h:VR m x y):(∃b b' l c,x= .slice b l c∧y= .slice b' l c∧GM m b b')∨(∀b l c,x≠.slice b l c):=by
 cases h with
 |c8 l c=>exact .inl ⟨_,_,_,_,rfl,rfl,.inl ⟨rfl,rfl⟩⟩
 |slice l c ha=>exact .inl ⟨_,_,_,_,rfl,rfl,.inr ⟨_,_,rfl,rfl,ha⟩⟩
 |_=>exact .inr (by simp)
theorem On (R:gu τ P)(ts:Array TypeId)(t:TypeId){us vs:Array Value}(h:AR m us vs)(ok:yU P ts=true):bk τ P F VR m (Builtin.append_ ts t us) (Builtin.append_ ts t vs):=by
 unfold Builtin.append_
 cases h0:ts[0]? with
 |none=>trivial
 |some sT=>
  rcases h.get? 0 with⟨h1,h2⟩|⟨s,s',h1,h2,h3⟩
  ·rw[h1];trivial
  ·rcases h.get? 1 with⟨h4,h5⟩|⟨x,x',h4,h5,h6⟩
   ·rw[h1,h4];trivial
   ·rw[h1,h2,h4,h5]
    refine(sU sT).bind fun n1 d d' cS e=>?_;obtain⟨rfl,hd0⟩:=e;unfold yU at ok;rw[Bool.and_eq_true,h0]at ok;have hzE:zX P sT=true:=ok.2
    replace ok:=ok.1
    cases d with
    |slice elem=>
     rcases(h3.mono cS).base with⟨base,ki,l,c,rfl,rfl,hb⟩|Jn
     ·refine(vg elem).bind fun n2 size lN dt e=>?_
      subst e;have Wc:=(h6.mono cS).mono dt;have key:∀{n3:aJ},aJ.le n2 n3→bk τ P F VR n3
        ((Builtin.lenOf x).bind fun k=>if l+k≤c then(Builtin.firstCells size k x).bind fun new=>(match(generalizing:=false) base with
          |some a=>(storeCells (a.add (l*size)) new.toList).bind fun _=>Sem.pure (Value.slice base (l+k) c)
          |_=>Sem.pure (Value.slice base (l+k) c))
        else(typeInfo elem).bind fun i=>if((l+k:Nat):Int)>IntKind.i64.max∧i.bytes=0 then((runtimePanic (RuntimeError.error "growslice: len out of range"):Sem PUnit).bind fun _=>((typeInfo elem).bind fun i=>if Builtin.nextslicecap (l+k) c*i.bytes>2^48 then((Builtin.mayShare size l k base x).bind fun b=>if(!b)=true then((mark Mark.noRoom).bind fun _=>(unsupported (Unsupported.resourceLimit "append: a slice or a string whose bytes no memory bears"):Sem PUnit))else unsupported (Unsupported.resourceLimit "append: a slice or a string whose bytes no memory bears")).bind fun _=>((choose (Question.appendCap (l+k) c elem)).bind fun bP=>(typeInfo elem).bind fun i=>(askRoom (bP*i.bytes)).bind fun _=>(Builtin.firstCells size l (Value.slice base l c)).bind fun old=>
          (Builtin.firstCells size k x).bind fun new=>(zeroValue elem).bind fun z=>(newRow elem (old++new++Builtin.zeroCells z.cells (bP-(l+k)))).bind fun r=>Sem.pure (Value.slice (some r) (l+k) bP))else((choose (Question.appendCap (l+k) c elem)).bind fun bP=>(typeInfo elem).bind fun i=>(askRoom (bP*i.bytes)).bind fun _=>(Builtin.firstCells size l (Value.slice base l c)).bind fun old=>
          (Builtin.firstCells size k x).bind fun new=>(zeroValue elem).bind fun z=>(newRow elem (old++new++Builtin.zeroCells z.cells (bP-(l+k)))).bind fun r=>Sem.pure (Value.slice (some r) (l+k) bP))))else((typeInfo elem).bind fun i=>if Builtin.nextslicecap (l+k) c*i.bytes>2^48 then((Builtin.mayShare size l k base x).bind fun b=>if(!b)=true then((mark Mark.noRoom).bind fun _=>(unsupported (Unsupported.resourceLimit "append: a slice or a string whose bytes no memory bears"):Sem PUnit))else unsupported (Unsupported.resourceLimit "append: a slice or a string whose bytes no memory bears")).bind fun _=>((choose (Question.appendCap (l+k) c elem)).bind fun bP=>(typeInfo elem).bind fun i=>(askRoom (bP*i.bytes)).bind fun _=>(Builtin.firstCells size l (Value.slice base l c)).bind fun old=>
          (Builtin.firstCells size k x).bind fun new=>(zeroValue elem).bind fun z=>(newRow elem (old++new++Builtin.zeroCells z.cells (bP-(l+k)))).bind fun r=>Sem.pure (Value.slice (some r) (l+k) bP))else((choose (Question.appendCap (l+k) c elem)).bind fun bP=>(typeInfo elem).bind fun i=>(askRoom (bP*i.bytes)).bind fun _=>(Builtin.firstCells size l (Value.slice base l c)).bind fun old=>
          (Builtin.firstCells size k x).bind fun new=>(zeroValue elem).bind fun z=>(newRow elem (old++new++Builtin.zeroCells z.cells (bP-(l+k)))).bind fun r=>Sem.pure (Value.slice (some r) (l+k) bP))))
        ((Builtin.lenOf x').bind fun k=>if l+k≤c then(Builtin.firstCells size k x').bind fun new=>(match(generalizing:=false) ki with
          |some a=>(storeCells (a.add (l*size)) new.toList).bind fun _=>Sem.pure (Value.slice ki (l+k) c)
          |_=>Sem.pure (Value.slice ki (l+k) c))
        else(typeInfo elem).bind fun i=>if((l+k:Nat):Int)>IntKind.i64.max∧i.bytes=0 then((runtimePanic (RuntimeError.error "growslice: len out of range"):Sem PUnit).bind fun _=>((typeInfo elem).bind fun i=>if Builtin.nextslicecap (l+k) c*i.bytes>2^48 then((Builtin.mayShare size l k ki x').bind fun b=>if(!b)=true then((mark Mark.noRoom).bind fun _=>(unsupported (Unsupported.resourceLimit "append: a slice or a string whose bytes no memory bears"):Sem PUnit))else unsupported (Unsupported.resourceLimit "append: a slice or a string whose bytes no memory bears")).bind fun _=>((choose (Question.appendCap (l+k) c elem)).bind fun bP=>(typeInfo elem).bind fun i=>(askRoom (bP*i.bytes)).bind fun _=>(Builtin.firstCells size l (Value.slice ki l c)).bind fun old=>
          (Builtin.firstCells size k x').bind fun new=>(zeroValue elem).bind fun z=>(newRow elem (old++new++Builtin.zeroCells z.cells (bP-(l+k)))).bind fun r=>Sem.pure (Value.slice (some r) (l+k) bP))else((choose (Question.appendCap (l+k) c elem)).bind fun bP=>(typeInfo elem).bind fun i=>(askRoom (bP*i.bytes)).bind fun _=>(Builtin.firstCells size l (Value.slice ki l c)).bind fun old=>
          (Builtin.firstCells size k x').bind fun new=>(zeroValue elem).bind fun z=>(newRow elem (old++new++Builtin.zeroCells z.cells (bP-(l+k)))).bind fun r=>Sem.pure (Value.slice (some r) (l+k) bP))))else((typeInfo elem).bind fun i=>if Builtin.nextslicecap (l+k) c*i.bytes>2^48 then((Builtin.mayShare size l k ki x').bind fun b=>if(!b)=true then((mark Mark.noRoom).bind fun _=>(unsupported (Unsupported.resourceLimit "append: a slice or a string whose bytes no memory bears"):Sem PUnit))else unsupported (Unsupported.resourceLimit "append: a slice or a string whose bytes no memory bears")).bind fun _=>((choose (Question.appendCap (l+k) c elem)).bind fun bP=>(typeInfo elem).bind fun i=>(askRoom (bP*i.bytes)).bind fun _=>(Builtin.firstCells size l (Value.slice ki l c)).bind fun old=>
          (Builtin.firstCells size k x').bind fun new=>(zeroValue elem).bind fun z=>(newRow elem (old++new++Builtin.zeroCells z.cells (bP-(l+k)))).bind fun r=>Sem.pure (Value.slice (some r) (l+k) bP))else((choose (Question.appendCap (l+k) c elem)).bind fun bP=>(typeInfo elem).bind fun i=>(askRoom (bP*i.bytes)).bind fun _=>(Builtin.firstCells size l (Value.slice ki l c)).bind fun old=>
          (Builtin.firstCells size k x').bind fun new=>(zeroValue elem).bind fun z=>(newRow elem (old++new++Builtin.zeroCells z.cells (bP-(l+k)))).bind fun r=>Sem.pure (Value.slice (some r) (l+k) bP)))):=by
       intro n3 mK;by_cases hxu:x= .nilFunc
       ·subst hxu;trivial
       refine(Sy (Wc.mono mK)).bind fun n4 k k' AX e=>?_;subst e;have h64:=(Wc.mono mK).mono AX;have Wd:=((hb.mono dt).mono mK).mono AX;have rest:∀{n5:aJ},aJ.le n4 n5→bk τ P F VR n5
         ((choose (Question.appendCap (l+k) c elem)).bind fun bP=>(typeInfo elem).bind fun i=>(askRoom (bP*i.bytes)).bind fun _=>(Builtin.firstCells size l (Value.slice base l c)).bind fun old=>
           (Builtin.firstCells size k x).bind fun new=>(zeroValue elem).bind fun z=>(newRow elem (old++new++Builtin.zeroCells z.cells (bP-(l+k)))).bind fun r=>Sem.pure (Value.slice (some r) (l+k) bP))
         ((choose (Question.appendCap (l+k) c elem)).bind fun bP=>(typeInfo elem).bind fun i=>(askRoom (bP*i.bytes)).bind fun _=>(Builtin.firstCells size l (Value.slice ki l c)).bind fun old=>
           (Builtin.firstCells size k x').bind fun new=>(zeroValue elem).bind fun z=>(newRow elem (old++new++Builtin.zeroCells z.cells (bP-(l+k)))).bind fun r=>Sem.pure (Value.slice (some r) (l+k) bP)):=by
        intro n5 pQ;refine(qP _).bind fun n6 q q' Oo e=>?_;subst e;refine(fI elem).bind fun n7 i i' hn7 e=>?_;subst e;refine(zY _).bind fun n8 _ _ hn8 _=>?_;have hle:=aJ.le_trans pQ (aJ.le_trans Oo (aJ.le_trans hn7 hn8));have kl:VR n8 (Value.slice base l c) (Value.slice ki l c):=by
         rcases Wd with⟨rfl,rfl⟩|⟨p,q,rfl,rfl,ha⟩
         ·exact .c8 _ _
         ·exact .slice _ _ (ha.mono hle)
        refine(og size l kl).bind fun n9 o o' hn9 ho=>?_;refine(og size k ((h64.mono hle).mono hn9)).bind fun n10 w w' acJ hw=>?_;refine(iS elem (tv hzE hd0)).bind fun n11 z z' abb hz=>?_;exact(od elem (((ho.mono (aJ.le_trans acJ abb)).append (hw.mono abb)).append (hz.cells.zeroCells _))).bind fun n12 a b aeh ha=>sP (.slice _ _ ha)
       have dead:∀{n5:aJ},aJ.le n4 n5→bk τ P F (fun _ (_ _:PUnit)=>False) n5
         ((Builtin.mayShare size l k base x).bind fun b=>if(!b)=true then((mark Mark.noRoom).bind fun _=>(unsupported (Unsupported.resourceLimit "append: a slice or a string whose bytes no memory bears"):Sem PUnit))else unsupported (Unsupported.resourceLimit "append: a slice or a string whose bytes no memory bears"))
         ((Builtin.mayShare size l k ki x').bind fun b=>if(!b)=true then((mark Mark.noRoom).bind fun _=>(unsupported (Unsupported.resourceLimit "append: a slice or a string whose bytes no memory bears"):Sem PUnit))else unsupported (Unsupported.resourceLimit "append: a slice or a string whose bytes no memory bears")):=by
        intro n5 pQ;refine GL size l k (fun e=>?_) (h64.mono pQ) hxu (fun b=>?_) (fun b=>?_)
        ·rcases Wd with⟨_,h⟩|⟨p,q,h,_⟩
         ·exact h
         ·rw[h]at e;cases e
        ·cases b
         ·exact nofun
         ·exact nofun
        ·cases b
         ·exact⟨_,rfl,nofun⟩
         ·exact nofun
       split
       ·refine(og size k h64).bind fun n5 w w' pQ hw=>?_
        rcases Wd with⟨rfl,rfl⟩|⟨p,q,rfl,rfl,ha⟩
        ·exact sP (.c8 _ _)
        ·exact(oc _ _ 0 ((ha.mono pQ).add _) hw.list.1 hw.list.2).bind fun n6 _ _ Oo _=>sP (.slice _ _ ((ha.mono pQ).mono Oo))
       ·refine(fI elem).bind fun n5 i i' pQ e=>?_
        subst e;split
        ·exact(nV (α:=PUnit) (β:=PUnit) (RA:=fun _ _ _=>False) R).bind fun _ _ _ _ h=>h.elim
        ·refine(fI elem).bind fun n6 i i' Oo e=>?_
         subst e;split
         ·exact(dead (aJ.le_trans pQ Oo)).bind fun _ _ _ _ h=>h.elim
         ·exact rest (aJ.le_trans pQ Oo)
      cases Jo:ts[1]? with
      |none=>
       simp only[pure_bind,Bool.false_eq_true,if_false,Bool.not_false,if_true,false_or,false_and];exact key (aJ.le_refl _)
      |some xT=>
       rw[Jo]at ok;dsimp only at ok
       refine(sU xT).bind fun n3 d d' mK e=>?_;obtain⟨rfl,hd⟩:=e;rw[hd]at ok
       cases d with
       |int k=>cases ok
       |_=>
        simp only[pure_bind,Bool.false_eq_true,if_false,Bool.not_false,if_true,false_or,false_and];exact key mK
     ·cases h3<;>first|trivial|exact absurd rfl (Jn _ _ _)
    |_=>trivial
end
end Go.Proofs.YtabjbdnokpjipaaGreat.Sr
namespace Go.Proofs.YtabjbdnokpjipaaGreat.Sr
open Go
section
variable {τ:TypeId}{P:Program}{F:Array Func}{α β γ δ:Type}{m:aJ}
theorem yV {ι σ:Type}{f f':ι→σ→Sem (ForInStep σ)}:∀(xs:List ι) {m:aJ},(∀n,aJ.le m n→∀x∈xs,∀s,bk τ P F fw n (f x s) (f' x s))→∀s,bk τ P F fw m (forIn xs s f) (forIn xs s f')
 |[],m,_,s=>by rw[List.forIn_nil,List.forIn_nil];exact bV
 |x::xs,m,h,s=>by
  rw[List.forIn_cons,List.forIn_cons];refine(h m (aJ.le_refl m) x (by simp) s).bind fun n a b hn e=>?_
  subst e
  cases a with
  |done b=>exact bV
  |yield b=>exact yV xs (fun n2 h2 y hy s=>h n2 (aJ.le_trans hn h2) y (by simp[hy]) s) b
def sL (P:Program):Nat→TypeId→Bool
 |0,_=>false
 |d+1,t=>match P.underlying t with
  |some .bool|some (.int _)|some (.float _)|some .string|some (.slice _)|some (.map ..)=>true
  |some (.struct fs)=> !P.stoodInHeld t&&fs.all fun f=>sL P d f.type
  |some (.array _ e)=>sL P d e
  |_=>false
theorem Jp {a b:Addr}(h:bJ m a b):bk τ P F (fun m x y=>bJ m x.1 y.1∧x.2=y.2) m (behindNumber a) (behindNumber b):=by
 refine SR.bind (RA:=fun m (x y:Option (Addr×Bool))=>(x=none∧y=none)∨∃p q l,x=some (p,l)∧y=some (q,l)∧bJ m p q) ?_ fun n x y hn e=>?_
 ·refine .inr ⟨b.block,_,rfl,h.1,fun z=>?_⟩
  cases z with
  |none=>exact⟨b.block,_,rfl,h.1,fun p q l Sz=>⟨_,rfl,.inr ⟨p,q,l,rfl,rfl,Sz⟩⟩⟩
  |some z=>exact⟨none,rfl,.inl ⟨rfl,rfl⟩⟩
 ·rcases e with⟨rfl,rfl⟩|⟨p,q,l,rfl,rfl,Sz⟩
  ·exact sP ⟨h.mono hn,rfl⟩
  ·exact sP ⟨Sz,rfl⟩
theorem bJ.same {a b c d:Addr}(h:bJ m a b)(k:bJ m c d)(e:a=c):b=d:=by
 subst e;obtain⟨h1,h2,h3,h4⟩:=h;obtain⟨k1,k2,k3,k4⟩:=k;rw[h1]at k1
 cases b;cases d
 simp only[Option.some.injEq]at k1 h2 h4 k2 k4;simp_all
theorem tz (hG:P.globals.size=0):∀(d k:Nat) (t:TypeId) {m:aJ} {x y u v:Value},sL P k t=true→VR m x y→VR m u v→bk τ P F fw m (Op.equalIn d t x u) (Op.equalIn d t y v)
 |0,_,_,_,_,_,_,_,_,_,_=>mI nofun
 |d+1,0,_,_,_,_,_,_,h,_,_=>by cases h
 |d+1,k+1,t,m,x,y,u,v,ok,hx,hu=>by
  unfold Op.equalIn;unfold sL at ok;refine(sU t).bind fun n1 dd d' cS e=>?_;obtain⟨rfl,hd⟩:=e;rw[hd]at ok;replace hx:=hx.mono cS
  replace hu:=hu.mono cS
  cases dd with
  |bool=>cases hx<;>cases hu<;>first|exact bV|trivial
  |int _=>
   cases hx with
   |int k1 a=>
    cases hu with
    |int k2 b=>dsimp only;split<;>first|exact bV|trivial
    |ptr hb=>
     by_cases h0:a=0
     ·subst h0;exact bV
     ·split<;>first
       |exact mI nofun
       |(exfalso;simp_all;done)
    |_=>first|trivial|exact mI nofun
   |ptr ha=>
    cases hu with
    |ptr hb=>
     refine(Jp ha).bind fun n2 p q dt e1=>?_;refine(Jp (hb.mono dt)).bind fun n3 p' q' mK e2=>?_;refine dO ?_;simp only[hG,Nat.not_lt_zero,decide_false,Bool.and_false,Bool.false_eq_true,if_false];refine(fI t).bind fun n4 i i' AX e=>?_;subst e;split
     ·split
      ·rename_i eT
       rw[if_pos (by simpa using bJ.same (e1.1.mono mK) e2.1 (by simpa using eT))]
       exact bV
      ·exact mI nofun
     ·exact mI nofun
    |int k2 b=>
     by_cases h0:b=0
     ·subst h0;exact bV
     ·split<;>first
       |exact mI nofun
       |(exfalso;simp_all;done)
    |_=>first|trivial|exact mI nofun
   |_=>cases hu<;>first|trivial|exact mI nofun
  |float _=>cases hx<;>cases hu<;>first|trivial|(dsimp only;split<;>first|exact bV|trivial)
  |string=>cases hx<;>cases hu<;>first|exact bV|trivial
  |slice _=>cases hx<;>cases hu<;>first|exact bV|trivial
  |map _ _=>cases hx<;>cases hu<;>first|exact bV|trivial
  |struct fs=>
   cases hx with
   |agg hs hh=>
    cases hu with
    |agg ks kk=>
     dsimp only
     refine dO ?_;simp only[Bool.and_eq_true,Bool.not_eq_true']at ok;obtain⟨es,ok⟩:=ok;simp only[es];split
     ·exact mI nofun
     ·rw[if_neg (by simp)]
      refine SR.bind (RA:=fw) ?_ fun n2 a b dt e=>by subst e;split<;>exact bV
      rw[←Array.forIn_toList,←Array.forIn_toList];refine yV fs.toList (fun n2 dt f hf s=>?_) _
      have okf:sL P k f.type=true:=by
       have:=Array.all_eq_true_iff_forall_mem.1 ok f (by simpa using hf)
       exact this
      split
      ·refine(tx f.type f.offset (AR.mono dt ⟨hs,hh⟩)).bind fun n3 a b mK eT=>?_
       refine(tx f.type f.offset ((AR.mono dt ⟨ks,kk⟩).mono mK)).bind fun n4 c e AX hce=>?_;refine(tz hG d k f.type okf (eT.mono AX) hce).bind fun n5 p q pQ e=>?_;subst e;split<;>exact bV
      ·exact bV
    |_=>trivial
   |_=>cases hu<;>trivial
  |array n e=>
   cases hx with
   |agg hs hh=>
    cases hu with
    |agg ks kk=>
     dsimp only
     refine(vg e).bind fun n2 z z' dt ez=>?_;subst ez;refine SR.bind (RA:=fw) ?_ fun n2 a b dt e=>by subst e;split<;>exact bV
     rw[Std.Legacy.Range.forIn_eq_forIn_range',Std.Legacy.Range.forIn_eq_forIn_range'];refine yV _ (fun n3 mK i hi s=>?_) _
     refine(tx e (i*z) ((AR.mono dt ⟨hs,hh⟩).mono mK)).bind fun n4 a b AX eT=>?_;refine(tx e (i*z) (((AR.mono dt ⟨ks,kk⟩).mono mK).mono AX)).bind fun n5 c e' pQ hce=>?_;refine(tz hG d k e ok (eT.mono pQ) hce).bind fun n6 p q Oo e=>?_;subst e;split<;>exact bV
    |_=>trivial
   |_=>cases hu<;>trivial
  |_=>cases ok
theorem pe {α β:Type}{RA:aJ→α→β→Prop}(t:TypeId)(ok:sL P 8 t=true){x u:Value}(h:x= .nilFunc∨u= .nilFunc){k:Bool→Sem α}{s':Sem β}:bk τ P F RA m ((Op.equal t x u).bind k) s':=by
 show bk τ P F RA m ((Op.equalIn (9999+1) t x u).bind k) s'
 unfold Op.equalIn;unfold sL at ok;unfold underlying;refine .inl ?_;have e:Program.underlying (Program.mk (Program.toTables P) F) t=P.underlying t:=rfl
 show fh τ (((match P.underlying t with|some d=>(Sem.pure d:Sem TypeDesc)|none=>(stuck "no such type":Sem TypeDesc)).bind _).bind k)
 cases hd:P.underlying t with
 |none=>trivial
 |some d=>
  rw[hd]at ok;rcases h with rfl|rfl
  ·cases d<;>first|(cases ok;done)|(cases u<;>first|trivial|(intro g e;cases e;done))
  ·cases d<;>first|(cases ok;done)|(cases x<;>first|trivial|(intro g e;cases e;done)|(dsimp only[Sem.bind,fh];split<;>first|trivial|(intro g e;cases e;done)|(exfalso;simp_all;done)))
end
end Go.Proofs.YtabjbdnokpjipaaGreat.Sr
