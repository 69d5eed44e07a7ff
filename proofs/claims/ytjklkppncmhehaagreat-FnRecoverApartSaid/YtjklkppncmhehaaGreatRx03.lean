/-
What is proved: each operation of the supported kinds keeps the relation of Sr. Conditions: those that each theorem states. slicing, append, len, cap, max, comparisons, arithmetic and conversions keep the relation of Sr. Conditions: those that each theorem states. append, comparisons, arithmetic and conversions keep the relation of Sr. Conditions: those that each theorem states. comparisons, arithmetic, conversions keep the relation of Sr. Conditions: those that each theorem states.
-/
import Derived.Test.YtjklkppncmhehaaGreatRx02
set_option linter.unusedVariables false
set_option linter.unusedSimpArgs false
namespace Go.Proofs.YtjklkppncmhehaaGreat.Sr
open Go
section
variable {τ:TypeId}{P:Program}{F:Array Func}{α β γ δ:Type}{m:az}
theorem NQ (t:TypeId)(hZ:sB P t=true)(o:Value):aR τ P F VR m (Instr.alloc t true o) (Instr.alloc t true o):=by
 unfold Instr.alloc;refine(gq t hZ).bind fun n x y hn hx=>?_;exact(yK t hx).bind fun n2 a b h2 ha=>sP (.ptr ha)
theorem T8 (t:TypeId){x y:Value}(h:VR m x y):aR τ P F VR m (Instr.box t x) (Instr.box t y):=
 (yK t h).bind fun n2 a b h2 ha=>sP (.ptr ha)
inductive jy (m:az):List (Nat×Value)→List (Nat×Value)→Prop
 |nil:jy m [] []
 |cons {i:Nat} {x y:Value} {us vs:List (Nat×Value)} (h:VR m x y) (k:jy m us vs):jy m ((i,x)::us) ((i,y)::vs)
theorem jy.mono {n:az}(h:az.le m n){us vs:List (Nat×Value)}(x:jy m us vs):jy n us vs:=by
 induction x with
 |nil=>exact .nil
 |cons a _ ih=>exact .cons (a.mono h) ih
theorem AR.fold {xs ys us vs:Array Value}(off:Nat)(h:AR m xs ys)(k:AR m us vs):
  AR m (us.zipIdx.foldl (fun cs (c,j)=>cs.setIfInBounds (off+j) c) xs) (vs.zipIdx.foldl (fun cs (c,j)=>cs.setIfInBounds (off+j) c) ys):=by
 have key:∀(l l':List Value) (j:Nat) (xs ys:Array Value),AR m xs ys→l.length=l'.length→(∀i (h1:i<l.length) (h2:i<l'.length),VR m l[i] l'[i])→
   AR m ((l.zipIdx j).foldl (fun cs (c,j)=>cs.setIfInBounds (off+j) c) xs) ((l'.zipIdx j).foldl (fun cs (c,j)=>cs.setIfInBounds (off+j) c) ys):=by
  intro l;induction l with
  |nil=>intro l' j xs ys h hl _;cases l' with|nil=>exact h|cons=>simp at hl
  |cons a l ih=>
   intro l' j xs ys h hl hh
   cases l' with
   |nil=>simp at hl
   |cons b l'=>
    simp only[List.zipIdx_cons,List.foldl_cons];exact ih l' (j+1) _ _ (h.set _ (hh 0 (by simp) (by simp))) (by simpa using hl) fun i h1 h2=>hh (i+1) (by simpa using h1) (by simpa using h2)
 have:=key us.toList vs.toList 0 xs ys h k.list.1 k.list.2
 rw[←Array.foldl_toList,←Array.foldl_toList,Array.toList_zipIdx,Array.toList_zipIdx];exact this
theorem vL (place:Nat→Option (Nat×Nat)){xs ys:Array Value}{us vs:List (Nat×Value)}(h:AR m xs ys)(k:jy m us vs):
  (Instr.fill place xs us=none)∨∃a b,Instr.fill place xs us=some a∧Instr.fill place ys vs=some b∧AR m a b:=by
 induction k generalizing xs ys with
 |nil=>exact .inr ⟨xs,ys,rfl,rfl,h⟩
 | @cons i x y us vs hx _ ih=>
   have hc:=hx.cells;unfold Instr.fill
   cases place i with
   |none=>exact .inl rfl
   |some q=>
    obtain⟨off,size⟩:=q;simp only
    by_cases hb:(x.cells.size≠size||off+x.cells.size>xs.size)=true
    ·rw[if_pos hb];exact .inl rfl
    ·rw[if_neg hb,if_neg (by rw[←hc.1,←h.1];exact hb)]
     exact ih (h.fold off hc)
theorem QL {ι:Type}{f:ι→Sem α}(xs:Array ι)(h:∀(m:az) x,aR τ P F eC m (f x) (f x)):aR τ P F eC m (xs.mapM f) (xs.mapM f):=by
 rw[Array.mapM_eq_mapM_toList];refine SR.bind (RA:=eC) ?_ fun n a b _ e=>by subst e;exact bH
 suffices∀(l:List ι) (m:az),aR τ P F eC m (l.mapM f) (l.mapM f)from this _ m
 intro l;induction l with
 |nil=>intro m;exact bH
 |cons a l ih=>
  intro m;rw[List.mapM_cons];exact(h m a).bind fun n x y _ e=>by
   subst e;exact(ih n).bind fun n2 x y _ e=>by subst e;exact bH
theorem NR (t:TypeId)(hZ:sB P t=true){us vs:Array (Nat×Value)}(h:jy m us.toList vs.toList):aR τ P F VR m (Instr.build t us) (Instr.build t vs):=by
 unfold Instr.build;refine(gq t hZ).bind fun n x y hn hx=>?_;refine(sU t).bind fun n2 d d' h2 e=>?_;obtain⟨rfl,_⟩:=e;have hc:=(hx.mono h2).cells;have hp:=(h.mono hn).mono h2
 cases d with
 |struct fields=>
  refine SR.bind (RA:=eC) (QL fields fun m f=>(se _).bind fun _ a b _ e=>by subst e;exact bH) fun n3 a b h3 e=>?_
  subst e;rcases vL (a[·]?) (hc.mono h3) (hp.mono h3)with e1|⟨p,q,e1,e2,e3⟩
  ·simp only[e1];trivial
  ·simp only[e1,e2];exact sP (.agg e3.1 e3.2)
 |array len elem=>
  refine(se _).bind fun n3 a b h3 e=>?_;subst e;rcases vL (fun i=>some (i*a,a)) (hc.mono h3) (hp.mono h3)with e1|⟨p,q,e1,e2,e3⟩
  ·simp only[e1];trivial
  ·simp only[e1,e2];exact sP (.agg e3.1 e3.2)
 |_=>trivial
theorem AR.rep {us vs:Array Value}(h:AR m us vs)(n:Nat):AR m ((Array.range n).map (us[· % us.size]!)) ((Array.range n).map (vs[· % vs.size]!)):=by
 rw[←h.1];refine AR.map _ fun i _=>?_;rw[getElem!_def,getElem!_def];rcases h.get? (i % us.size)with⟨h1,h2⟩|⟨x,y,h1,h2,h3⟩
 ·rw[h1,h2];exact .bool false
 ·rw[h1,h2];exact h3
theorem AR.zeroCells {us vs:Array Value}(h:AR m us vs)(n:Nat):AR m (Builtin.zeroCells us n) (Builtin.zeroCells vs n):=by
 unfold Builtin.zeroCells;have:=h.rep (n*us.size)
 rw[←h.1];rw[←h.1]at this;exact this
theorem yL (t:TypeId)(hZ:xf P t=true)(len:Nat){us vs:Array (Nat×Value)}(h:jy m us.toList vs.toList):aR τ P F VR m (Instr.buildSlice t len us) (Instr.buildSlice t len vs):=by
 unfold Instr.buildSlice;refine(sU t).bind fun n2 d d' h2 e=>?_;obtain⟨rfl,hd⟩:=e
 cases d with
 |slice elem=>
  refine(se _).bind fun n3 a b h3 e=>?_;subst e;dsimp only
  split
  ·exact kN nofun
  ·have key:∀{n4:az} (h4:az.le n3 n4) {zs ws:Array Value} (hz:AR n4 zs ws),aR τ P F VR n4
     (match Instr.fill (fun i=>some (i*a,a)) (Array.map (fun x=>zs[x % zs.size]!) (Array.range (len*a))) us.toList with
      |some cells=>(newRow elem cells).bind fun x=>Sem.pure (Value.slice (some x) len len)
      |x=>stuck "buildSlice: a part of the wrong size")
     (match Instr.fill (fun i=>some (i*a,a)) (Array.map (fun x=>ws[x % ws.size]!) (Array.range (len*a))) vs.toList with
      |some cells=>(newRow elem cells).bind fun x=>Sem.pure (Value.slice (some x) len len)
      |x=>stuck "buildSlice: a part of the wrong size"):=by
    intro n4 h4 zs ws hz;rcases vL (fun i=>some (i*a,a)) (hz.rep (len*a)) (((h.mono h2).mono h3).mono h4)with e1|⟨p,q,e1,e2,e3⟩
    ·simp only[e1];trivial
    ·simp only[e1,e2]
     exact(mz elem e3).bind fun n5 a b h5 ha=>sP (.slice len len ha)
   split
   ·exact key (az.le_refl _) AR.nil
   ·exact(gq _ (qz hZ hd)).bind fun n x y hn hx=>key hn hx.cells
 |_=>trivial
theorem Ke (t:TypeId){x y:Value}(h:VR m x y):aR τ P F VR m (Instr.loadAt t x) (Instr.loadAt t y):=(jx h).bind fun _ a b _ ha=>qA t ha
theorem FL (t:TypeId){x y u v:Value}(h:VR m x y)(k:VR m u v):aR τ P F eC m (Instr.storeAt t x u) (Instr.storeAt t y v):=(jx h).bind fun _ a b hn ha=>Dc t ha (k.mono hn)
def yM (P:Program)(s:TypeId)(f:Nat):Bool:=
 match P.underlying s with
 |some (.struct fields)=>match fields[f]? with
  |some g=>match P.info? g.type with
   |some i=>i.size !=0
   |none=>false
  |none=>false
 |_=>false
theorem yN {a b:Addr}(h:bp m a b){f:Field}(hf:∃i,P.info? f.type=some i∧i.size≠0):aR τ P F bp m (fieldPlace a f) (fieldPlace b f):=by
 unfold fieldPlace sizeOf typeInfo;obtain⟨i,hi,hs⟩:=hf;refine SR.bind (RA:=fun _ a b=>a=b∧a≠0) ?_ fun n p q hn e=>?_
 ·refine SR.bind (RA:=fun _ a b=>a=b∧a=i) ?_ fun n p q hn e=>?_
  ·refine dk ?_
   show aR τ P F _ m (match P.info? f.type with|some i=>pure i|none=>stuck "no such type") _
   simp only[hi];exact⟨i,rfl,rfl,rfl⟩
  ·obtain⟨rfl,rfl⟩:=e
   exact sP ⟨rfl,hs⟩
 ·obtain⟨rfl,hp⟩:=e
  rw[if_neg hp,if_neg hp];exact sP ((h.mono hn).add _)
theorem FM (s:TypeId){x y:Value}(f:Nat)(h:VR m x y)(ok:yM P s f=true):aR τ P F VR m (Instr.fieldAt s x f) (Instr.fieldAt s y f):=by
 unfold Instr.fieldAt;unfold yM at ok;refine(sU s).bind fun n2 d d' h2 e=>?_;obtain⟨rfl,hd⟩:=e;rw[hd]at ok
 cases d with
 |struct fields=>
  dsimp only at ok⊢
  cases hf:fields[f]? with
  |none=>rw[hf]at ok;cases ok
  |some g=>
   rw[hf]at ok;dsimp only at ok⊢
   refine(jx (h.mono h2)).bind fun n3 a b h3 ha=>?_;refine SR.bind (yN ha (f:=g) ?_) fun n4 a b h4 hb=>sP (.ptr hb)
   cases hi:P.info? g.type with
   |none=>rw[hi]at ok;cases ok
   |some i=>rw[hi]at ok;exact⟨i,rfl,by simpa using ok⟩
 |_=>cases ok
theorem FN (R:eX τ P)(t:TypeId){x y u v:Value}(h:VR m x y)(k:VR m u v):aR τ P F VR m (Instr.indexAt t x u) (Instr.indexAt t y v):=by
 unfold Instr.indexAt;refine(nj k).bind fun n p q hn e=>?_;subst e;obtain⟨kd,i⟩:=p;refine(sU t).bind fun n2 d d' h2 e=>?_;obtain⟨rfl,_⟩:=e;have h':=(h.mono hn).mono h2
 cases d with
 |array len elem=>
  refine(jx h').bind fun n3 a b h3 ha=>?_;simp only[pure_bind];refine(sU t).bind fun n4 d d' h4 e=>?_;obtain⟨rfl,_⟩:=e;try dsimp only
  split
  ·exact(se _).bind fun n5 p q h5 e=>by subst e;exact sP (.ptr (((ha.mono h4).mono h5).add _))
  ·repeat' split
   all_goals first|exact kN nofun|exact eF R
 |slice elem=>
  cases h' with
  |cn l c=>
   simp only[pure_bind];refine(sU t).bind fun n4 d d' h4 e=>?_;obtain⟨rfl,_⟩:=e;exact eF R
  |slice l c ha=>
   simp only[pure_bind];refine(sU t).bind fun n4 d d' h4 e=>?_;obtain⟨rfl,_⟩:=e;try dsimp only
   split
   ·exact(se _).bind fun n5 p q h5 e=>by subst e;exact sP (.ptr (((ha.mono h4).mono h5).add _))
   ·repeat' split
    all_goals first|exact kN nofun|exact eF R
  |_=>trivial
 |_=>trivial
theorem NS (R:eX τ P)(t:TypeId){x y u v:Value}(h:VR m x y)(k:VR m u v):aR τ P F VR m (Instr.index t x u) (Instr.index t y v):=by
 unfold Instr.index;refine(nj k).bind fun n p q hn e=>?_;subst e;obtain⟨kd,i⟩:=p;refine(sU t).bind fun n2 d d' h2 e=>?_;obtain⟨rfl,_⟩:=e;have h':=(h.mono hn).mono h2
 cases d with
 |array len elem=>
  cases h' with
  |agg hs hh=>
   dsimp only
   split
   ·exact(se _).bind fun n3 a b h3 e=>by subst e;exact qB elem _ (AR.mono h3 ⟨hs,hh⟩)
   ·exact eF R
  |_=>trivial
 |string=>
  cases h' with
  |string s=>
   dsimp only
   split
   ·exact sP (.int _ _)
   ·exact eF R
  |_=>trivial
 |_=>trivial
theorem FO {x y:Value}(i:Nat)(h:VR m x y):aR τ P F VR m (Instr.extract x i) (Instr.extract y i):=by
 unfold Instr.extract
 cases h with
 |tuple hs hh=>
  dsimp only
  rcases(show AR m _ _ from⟨hs,hh⟩).get? i with⟨h1,h2⟩|⟨x,y,h1,h2,h3⟩
  ·rw[h1];trivial
  ·rw[h1,h2];exact sP h3
 |_=>trivial
theorem Dd (f:Fn)(hf:m.fn f){us vs xs ys:Array Value}(h:AR m us vs)(k:AR m xs ys):aR τ P F VR m (Instr.makeFunc f us xs) (Instr.makeFunc f vs ys):=
 sP (.func f hf h.1 h.2 k.1 k.2)
theorem xg (n:Nat):aR τ P F eC m (askRoom n) (askRoom n):=by
 unfold askRoom;split
 ·exact⟨_,rfl,bH⟩
 ·exact bH
theorem Be (R:eX τ P)(t:TypeId)(hZ:xf P t=true){x y u v:Value}(h:VR m x y)(k:VR m u v):aR τ P F VR m (Instr.makeSlice t x u) (Instr.makeSlice t y v):=by
 unfold Instr.makeSlice;refine(sU t).bind fun n1 d d' h1 e=>?_;obtain⟨rfl,hd⟩:=e
 cases d with
 |slice elem=>
  refine(rK (h.mono h1)).bind fun n2 a a' h2 e=>?_;subst e;refine(rK ((k.mono h1).mono h2)).bind fun n3 b b' h3 e=>?_;subst e;refine(eI elem).bind fun n4 c c' h4 e=>?_;subst e;dsimp only
  have key:∀{n5:az},aR τ P F VR n5
    ((askRoom ((IntKind.i64.wrap b).toNat*c.bytes)).bind fun _=>(sizeOf elem).bind fun s=>
      if(IntKind.i64.wrap b).toNat*s=0 then(newRow elem ((Array.range ((IntKind.i64.wrap b).toNat*s)).map ((#[]:Array Value)[· %(#[]:Array Value).size]!))).bind fun r=>Sem.pure (Value.slice (some r) (IntKind.i64.wrap a).toNat (IntKind.i64.wrap b).toNat)
      else(zeroValue elem).bind fun z=>(newRow elem ((Array.range ((IntKind.i64.wrap b).toNat*s)).map (z.cells[· % z.cells.size]!))).bind fun r=>Sem.pure (Value.slice (some r) (IntKind.i64.wrap a).toNat (IntKind.i64.wrap b).toNat))
    ((askRoom ((IntKind.i64.wrap b).toNat*c.bytes)).bind fun _=>(sizeOf elem).bind fun s=>
      if(IntKind.i64.wrap b).toNat*s=0 then(newRow elem ((Array.range ((IntKind.i64.wrap b).toNat*s)).map ((#[]:Array Value)[· %(#[]:Array Value).size]!))).bind fun r=>Sem.pure (Value.slice (some r) (IntKind.i64.wrap a).toNat (IntKind.i64.wrap b).toNat)
      else(zeroValue elem).bind fun z=>(newRow elem ((Array.range ((IntKind.i64.wrap b).toNat*s)).map (z.cells[· % z.cells.size]!))).bind fun r=>Sem.pure (Value.slice (some r) (IntKind.i64.wrap a).toNat (IntKind.i64.wrap b).toNat)):=by
   intro n5;refine(xg _).bind fun n6 _ _ h6 _=>?_;refine(se elem).bind fun n7 s s' h7 e=>?_;subst e;split
   ·exact(mz elem (AR.nil.rep _)).bind fun n5 a b h5 ha=>sP (.slice _ _ ha)
   ·exact(gq _ (qz hZ hd)).bind fun n x y hn hx=>(mz elem (hx.cells.rep _)).bind fun n5 a b h5 ha=>sP (.slice _ _ ha)
  split
  ·split
   ·exact(mg (α:=PUnit) (β:=PUnit) (RA:=eC) R).bind fun n _ _ _ _=>key
   ·split
    ·exact(mg (α:=PUnit) (β:=PUnit) (RA:=eC) R).bind fun n _ _ _ _=>key
    ·refine SR.bind (oR _) fun n a b _ e=>?_
     subst e;exact(mg (α:=PUnit) (β:=PUnit) (RA:=eC) R).bind fun n _ _ _ _=>key
  ·exact key
 |_=>trivial
end
end Go.Proofs.YtjklkppncmhehaaGreat.Sr
namespace Go.Proofs.YtjklkppncmhehaaGreat.Sr
open Go
section
variable {τ:TypeId}{P:Program}{F:Array Func}{α β γ δ:Type}{m:az}
inductive mA (m:az):Option Value→Option Value→Prop
 |none:mA m none none
 |some {x y:Value} (h:VR m x y):mA m (some x) (some y)
theorem mA.mono {n:az}(h:az.le m n){a b:Option Value}(x:mA m a b):mA n a b:=by
 cases x with
 |none=>exact .none
 |some k=>exact .some (k.mono h)
theorem eY (R:eX τ P){x y:Value}(h:VR m x y)(k:Nat)(c:BoundsCode):aR τ P F eC m (Instr.sliceBound x k c) (Instr.sliceBound y k c):=by
 unfold Instr.sliceBound;refine(nj h).bind fun n p q hn e=>?_;subst e;dsimp only
 split
 ·exact bH
 ·exact eF R
theorem fV (R:eX τ P)(b:Bool)(l c:Nat){lo Df hi eN mx FP:Option Value}(h1:mA m lo Df)(h2:mA m hi eN)(h3:mA m mx FP):
  aR τ P F eC m (Instr.sliceBounds b l c lo hi mx) (Instr.sliceBounds b l c Df eN FP):=by
 unfold Instr.sliceBounds
 cases h3 with
 |none=>
  cases h2 with
  |none=>
   simp only[pure_bind]
   cases h1 with
   |none=>exact bH
   |some hl=>exact(eY R hl _ _).bind fun n a b hn e=>by subst e;exact bH
  |some hv=>
   simp only[pure_bind];refine(eY R hv _ _).bind fun n a b hn e=>?_;subst e
   cases h1 with
   |none=>exact bH
   |some hl=>exact(eY R (hl.mono hn) _ _).bind fun n a b hn e=>by subst e;exact bH
 |some hm=>
  refine(eY R hm _ _).bind fun n a b hn e=>?_;subst e
  cases h2 with
  |none=>trivial
  |some hv=>
   simp only[pure_bind];refine(eY R (hv.mono hn) _ _).bind fun n2 a b cI e=>?_;subst e
   cases h1 with
   |none=>exact bH
   |some hl=>exact(eY R ((hl.mono hn).mono cI) _ _).bind fun n a b hn e=>by subst e;exact bH
theorem NT (R:eX τ P)(t:TypeId){x y:Value}(h:VR m x y){lo Df hi eN mx FP:Option Value}(h1:mA m lo Df)(h2:mA m hi eN)(h3:mA m mx FP):
  aR τ P F VR m (Instr.slice t x lo hi mx) (Instr.slice t y Df eN FP):=by
 unfold Instr.slice;refine(sU t).bind fun n1 d d' cj e=>?_;obtain⟨rfl,_⟩:=e;have h':=h.mono cj
 cases d with
 |string=>
  cases h' with
  |string s=>
   have key:aR τ P F VR n1 ((Instr.sliceBounds false s.size s.size lo hi none).bind fun p=>Sem.pure (Value.string (s.extract p.1 p.2.1)))
     ((Instr.sliceBounds false s.size s.size Df eN none).bind fun p=>Sem.pure (Value.string (s.extract p.1 p.2.1))):=
    (fV R _ _ _ (h1.mono cj) (h2.mono cj) .none).bind fun n2 a b h2 e=>by subst e;exact sP (.string _)
   cases h3 with
   |none=>exact key
   |some _=>trivial
  |_=>trivial
 |slice elem=>
  cases h' with
  |cn l c=>
   refine(fV R _ _ _ (h1.mono cj) (h2.mono cj) (h3.mono cj)).bind fun n2 a b cI e=>?_;subst e;refine(se elem).bind fun n3 s s' kQ e=>?_;subst e;try dsimp only
   split<;>exact sP (.cn _ _)
  |slice l c ha=>
   refine(fV R _ _ _ (h1.mono cj) (h2.mono cj) (h3.mono cj)).bind fun n2 a b cI e=>?_;subst e;refine(se elem).bind fun n3 s s' kQ e=>?_;subst e;try dsimp only
   split
   ·exact sP (.slice _ _ ((ha.mono cI).mono kQ))
   ·exact sP (.slice _ _ (((ha.mono cI).mono kQ).add _))
  |_=>trivial
 |pointer arr=>
  refine(tq R h').bind fun n2 a b cI ha=>?_;refine(sU arr).bind fun n3 d d' kQ e=>?_;obtain⟨rfl,_⟩:=e
  cases d with
  |array n elem=>
   refine(fV R _ _ _ (((h1.mono cj).mono cI).mono kQ) (((h2.mono cj).mono cI).mono kQ) (((h3.mono cj).mono cI).mono kQ)).bind fun n4 p q xW e=>?_;subst e;refine(se elem).bind fun n5 s s' nQ e=>?_;subst e;try dsimp only
   have hb:=((ha.mono kQ).mono xW).mono nQ;split
   ·exact sP (.slice _ _ hb)
   ·exact sP (.slice _ _ (hb.add _))
  |_=>trivial
 |_=>trivial
theorem FQ (R:eX τ P)(t:TypeId){x y:Value}(h:VR m x y){lo Df hi eN mx FP:Option Value}(h1:mA m lo Df)(h2:mA m hi eN)(h3:mA m mx FP):
  aR τ P F VR m (Instr.sliceAt t x lo hi mx) (Instr.sliceAt t y Df eN FP):=by
 unfold Instr.sliceAt;refine(sU t).bind fun n1 d d' cj e=>?_;obtain⟨rfl,_⟩:=e
 cases d with
 |array n elem=>
  refine(jx (h.mono cj)).bind fun n2 a b cI ha=>?_;refine(fV R _ _ _ ((h1.mono cj).mono cI) ((h2.mono cj).mono cI) ((h3.mono cj).mono cI)).bind fun n4 p q xW e=>?_;subst e;refine(se elem).bind fun n5 s s' nQ e=>?_;subst e;try dsimp only
  have hb:=(ha.mono xW).mono nQ;split
  ·exact sP (.slice _ _ hb)
  ·exact sP (.slice _ _ (hb.add _))
 |_=>exact NT R t (h.mono cj) (h1.mono cj) (h2.mono cj) (h3.mono cj)
theorem T9 (ts:Array TypeId)(t:TypeId){us vs:Array Value}(h:AR m us vs):aR τ P F VR m (Builtin.len_ ts t us) (Builtin.len_ ts t vs):=by
 unfold Builtin.len_
 cases ts[0]? with
 |none=>trivial
 |some t0=>
  rcases h.get? 0 with⟨h1,h2⟩|⟨x,y,h1,h2,h3⟩
  ·rw[h1];trivial
  ·rw[h1,h2]
   refine(sU t0).bind fun n1 d d' cj e=>?_;obtain⟨rfl,_⟩:=e;have h':=h3.mono cj
   cases d with
   |array n elem=>cases h'<;>exact sP (.int _ _)
   |pointer arr=>
    have key:aR τ P F VR n1 ((underlying arr).bind fun d=>match d with| .array n _=>Sem.pure (goInt n)|_=>stuck "len: pointer to array expected")
      ((underlying arr).bind fun d=>match d with| .array n _=>Sem.pure (goInt n)|_=>stuck "len: pointer to array expected"):=by
     refine(sU arr).bind fun n3 d d' kQ e=>?_;obtain⟨rfl,_⟩:=e
     cases d<;>first|exact sP (.int _ _)|trivial
    cases h'<;>exact key
   |string=>cases h'<;>first|exact sP (.int _ _)|trivial
   |slice e=>cases h'<;>first|exact sP (.int _ _)|trivial
   |map a b=>cases h'<;>first|exact sP (.int _ _)|trivial
   |_=>cases h'<;>trivial
theorem T_ (ts:Array TypeId)(t:TypeId){us vs:Array Value}(h:AR m us vs):aR τ P F VR m (Builtin.cap_ ts t us) (Builtin.cap_ ts t vs):=by
 unfold Builtin.cap_
 cases ts[0]? with
 |none=>trivial
 |some t0=>
  rcases h.get? 0 with⟨h1,h2⟩|⟨x,y,h1,h2,h3⟩
  ·rw[h1];trivial
  ·rw[h1,h2]
   refine(sU t0).bind fun n1 d d' cj e=>?_;obtain⟨rfl,_⟩:=e;have h':=h3.mono cj
   cases d with
   |array n elem=>cases h'<;>exact sP (.int _ _)
   |pointer arr=>
    have key:aR τ P F VR n1 ((underlying arr).bind fun d=>match d with| .array n _=>Sem.pure (goInt n)|_=>stuck "cap: pointer to array expected")
      ((underlying arr).bind fun d=>match d with| .array n _=>Sem.pure (goInt n)|_=>stuck "cap: pointer to array expected"):=by
     refine(sU arr).bind fun n3 d d' kQ e=>?_;obtain⟨rfl,_⟩:=e
     cases d<;>first|exact sP (.int _ _)|trivial
    cases h'<;>exact key
   |slice e=>cases h'<;>first|exact sP (.int _ _)|trivial
   |_=>cases h'<;>trivial
theorem QM {x y u v:Value}(h:VR m x y)(k:VR m u v):aR τ P F VR m (Builtin.max2 x u) (Builtin.max2 y v):=by
 cases h with
 |int k1 a=>cases k<;>first|exact sP (.int _ _)|trivial|exact kN nofun
 |string s=>
  cases k with
  |string s2=>exact sP (.string _)
  |_=>first|trivial|exact kN nofun
 |_=>cases k<;>first|trivial|exact kN nofun
theorem yO {f:Value→Value→Sem Value}(hf:∀{m:az} {x y u v:Value},VR m x y→VR m u v→aR τ P F VR m (f x u) (f y v)):
  ∀(us vs:List Value) {m:az} {x y:Value},VR m x y→us.length=vs.length→(∀i (h1:i<us.length) (h2:i<vs.length),VR m us[i] vs[i])→aR τ P F VR m (us.foldlM f x) (vs.foldlM f y)
 |[],[],m,x,y,h,_,_=>sP h
 |a::us,b::vs,m,x,y,h,hl,hh=>by
  rw[List.foldlM_cons,List.foldlM_cons];exact(hf h (hh 0 (by simp) (by simp))).bind fun n p q hn hp=>yO hf us vs hp (by simpa using hl) fun i h1 h2=>(hh (i+1) (by simpa using h1) (by simpa using h2)).mono hn
 |[],_::_,_,_,_,_,hl,_=>by simp at hl
 |_::_,[],_,_,_,_,hl,_=>by simp at hl
theorem Ua (ts:Array TypeId)(t:TypeId){us vs:Array Value}(h:AR m us vs):aR τ P F VR m (Builtin.max_ ts t us) (Builtin.max_ ts t vs):=by
 unfold Builtin.max_;obtain⟨hl,hh⟩:=h.list
 cases hu:us.toList with
 |nil=>trivial
 |cons a al=>
  cases hv:vs.toList with
  |nil=>rw[hu,hv]at hl;simp at hl
  |cons b bl=>
   simp only[hu,hv]at hl hh;exact yO QM al bl (hh 0 (by simp) (by simp)) (by simpa using hl) fun i h1 h2=>hh (i+1) (by simpa using h1) (by simpa using h2)
end
end Go.Proofs.YtjklkppncmhehaaGreat.Sr
namespace Go.Proofs.YtjklkppncmhehaaGreat.Sr
open Go
section
variable {τ:TypeId}{P:Program}{F:Array Func}{α β γ δ:Type}{m:az}
def vM (P:Program)(ts:Array TypeId):Bool:=
 (match ts[1]? with
 |some t=>match P.underlying t with|some (.int _)=>false|_=>true
 |none=>true)&&(match ts[0]? with
 |some t=>xf P t
 |none=>true)
theorem NU {x y:Value}(h:VR m x y):aR τ P F eC m (Builtin.lenOf x) (Builtin.lenOf y):=by
 cases h<;>first|exact bH|trivial
theorem mB (size n:Nat){x y:Value}(h:VR m x y):aR τ P F AR m (Builtin.firstCells size n x) (Builtin.firstCells size n y):=by
 cases h with
 |cn l c=>exact sP AR.nil
 |slice l c ha=>exact sC _ ha
 |string s=>
  refine sP ⟨rfl,fun i h1 h2=>?_⟩
  simp only[Array.getElem_map];exact .int _ _
 |_=>trivial
theorem Dg (size l n:Nat){base iW:Option Addr}{x y:Value}{f:Bool→Sem α}{f':Bool→Sem β}{RA:az→α→β→Prop}
  (hb:base=none→iW=none) (hx:VR m x y) (Wr:x≠.nilFunc) (hf:∀b,d_ τ (f b)) (Ws:∀b,aR τ P F RA m (f b) (f' b)):
  aR τ P F RA m ((Builtin.mayShare size l n base x).bind f) ((Builtin.mayShare size l n iW y).bind f'):=by
 have e:∀there:Bool,d_ τ ((if !there then(Sem.pure true:Sem Bool)else(match(generalizing:=false) x with
   | .slice (some b) _ _=>(Builtin.holdsCells b (n*size)).bind fun h=>Sem.pure (!h||base.any (·.block==b.block))
   |_=>Sem.pure false)).bind f):=by
  intro there
  cases there with
  |false=>exact hf _
  |true=>
   cases hx with
   |slice l c ha=>intro z;cases z<;>exact hf _
   |_=>exact hf _
 cases base with
 |none=>
  cases hb rfl
  cases hx with
  |slice l c ha=>exact .inl fun z=>by cases z<;>exact hf _
  |gF=>exact absurd rfl Wr
  |_=>exact Ws _
 |some a=>
  refine .inl fun z=>?_
  cases z with
  |none=>exact fun b=>by have:=e (false&& !b);exact this
  |some p=>exact fun b=>by have:=e ((a.spot.isNone&&decide (a.off+l*size≤p.2))&& !b);exact this
def Dh (m:az)(a b:Option Addr):Prop:=(a=none∧b=none)∨∃p q,a=some p∧b=some q∧bp m p q
theorem Dh.mono {n:az}(h:az.le m n){a b:Option Addr}(x:Dh m a b):Dh n a b:=by
 rcases x with x|⟨p,q,h1,h2,h3⟩
 ·exact .inl x
 ·exact .inr ⟨p,q,h1,h2,h3.mono h⟩
theorem VR.base {x y:Value}(h:VR m x y):(∃b b' l c,x= .slice b l c∧y= .slice b' l c∧Dh m b b')∨(∀b l c,x≠.slice b l c):=by
 cases h with
 |cn l c=>exact .inl ⟨_,_,_,_,rfl,rfl,.inl ⟨rfl,rfl⟩⟩
 |slice l c ha=>exact .inl ⟨_,_,_,_,rfl,rfl,.inr ⟨_,_,rfl,rfl,ha⟩⟩
 |_=>exact .inr (by simp)
theorem Kf (R:eX τ P)(ts:Array TypeId)(t:TypeId){us vs:Array Value}(h:AR m us vs)(ok:vM P ts=true):aR τ P F VR m (Builtin.append_ ts t us) (Builtin.append_ ts t vs):=by
 unfold Builtin.append_
 cases h0:ts[0]? with
 |none=>trivial
 |some sT=>
  rcases h.get? 0 with⟨h1,h2⟩|⟨s,s',h1,h2,h3⟩
  ·rw[h1];trivial
  ·rcases h.get? 1 with⟨h4,h5⟩|⟨x,x',h4,h5,h6⟩
   ·rw[h1,h4];trivial
   ·rw[h1,h2,h4,h5]
    refine(sU sT).bind fun n1 d d' cj e=>?_;obtain⟨rfl,hd0⟩:=e;unfold vM at ok;rw[Bool.and_eq_true,h0]at ok;have hzE:xf P sT=true:=ok.2
    replace ok:=ok.1
    cases d with
    |slice elem=>
     rcases(h3.mono cj).base with⟨base,iW,l,c,rfl,rfl,hb⟩|FT
     ·refine(se elem).bind fun n2 size jY cI e=>?_
      subst e;have QN:=(h6.mono cj).mono cI;have key:∀{n3:az},az.le n2 n3→aR τ P F VR n3
        ((Builtin.lenOf x).bind fun k=>if l+k≤c then(Builtin.firstCells size k x).bind fun new=>(match(generalizing:=false) base with
          |some a=>(storeCells (a.add (l*size)) new.toList).bind fun _=>Sem.pure (Value.slice base (l+k) c)
          |_=>Sem.pure (Value.slice base (l+k) c))
        else(typeInfo elem).bind fun i=>if((l+k:Nat):Int)>IntKind.i64.max∧i.bytes=0 then((runtimePanic (RuntimeError.error "growslice: len out of range"):Sem PUnit).bind fun _=>((typeInfo elem).bind fun i=>if Builtin.nextslicecap (l+k) c*i.bytes>2^48 then((Builtin.mayShare size l k base x).bind fun b=>if(!b)=true then((mark Mark.noRoom).bind fun _=>(unsupported (Unsupported.resourceLimit "append: a slice or a string whose bytes no memory bears"):Sem PUnit))else unsupported (Unsupported.resourceLimit "append: a slice or a string whose bytes no memory bears")).bind fun _=>((choose (Question.appendCap (l+k) c elem)).bind fun bB=>(typeInfo elem).bind fun i=>(askRoom (bB*i.bytes)).bind fun _=>(Builtin.firstCells size l (Value.slice base l c)).bind fun old=>
          (Builtin.firstCells size k x).bind fun new=>(zeroValue elem).bind fun z=>(newRow elem (old++new++Builtin.zeroCells z.cells (bB-(l+k)))).bind fun r=>Sem.pure (Value.slice (some r) (l+k) bB))else((choose (Question.appendCap (l+k) c elem)).bind fun bB=>(typeInfo elem).bind fun i=>(askRoom (bB*i.bytes)).bind fun _=>(Builtin.firstCells size l (Value.slice base l c)).bind fun old=>
          (Builtin.firstCells size k x).bind fun new=>(zeroValue elem).bind fun z=>(newRow elem (old++new++Builtin.zeroCells z.cells (bB-(l+k)))).bind fun r=>Sem.pure (Value.slice (some r) (l+k) bB))))else((typeInfo elem).bind fun i=>if Builtin.nextslicecap (l+k) c*i.bytes>2^48 then((Builtin.mayShare size l k base x).bind fun b=>if(!b)=true then((mark Mark.noRoom).bind fun _=>(unsupported (Unsupported.resourceLimit "append: a slice or a string whose bytes no memory bears"):Sem PUnit))else unsupported (Unsupported.resourceLimit "append: a slice or a string whose bytes no memory bears")).bind fun _=>((choose (Question.appendCap (l+k) c elem)).bind fun bB=>(typeInfo elem).bind fun i=>(askRoom (bB*i.bytes)).bind fun _=>(Builtin.firstCells size l (Value.slice base l c)).bind fun old=>
          (Builtin.firstCells size k x).bind fun new=>(zeroValue elem).bind fun z=>(newRow elem (old++new++Builtin.zeroCells z.cells (bB-(l+k)))).bind fun r=>Sem.pure (Value.slice (some r) (l+k) bB))else((choose (Question.appendCap (l+k) c elem)).bind fun bB=>(typeInfo elem).bind fun i=>(askRoom (bB*i.bytes)).bind fun _=>(Builtin.firstCells size l (Value.slice base l c)).bind fun old=>
          (Builtin.firstCells size k x).bind fun new=>(zeroValue elem).bind fun z=>(newRow elem (old++new++Builtin.zeroCells z.cells (bB-(l+k)))).bind fun r=>Sem.pure (Value.slice (some r) (l+k) bB))))
        ((Builtin.lenOf x').bind fun k=>if l+k≤c then(Builtin.firstCells size k x').bind fun new=>(match(generalizing:=false) iW with
          |some a=>(storeCells (a.add (l*size)) new.toList).bind fun _=>Sem.pure (Value.slice iW (l+k) c)
          |_=>Sem.pure (Value.slice iW (l+k) c))
        else(typeInfo elem).bind fun i=>if((l+k:Nat):Int)>IntKind.i64.max∧i.bytes=0 then((runtimePanic (RuntimeError.error "growslice: len out of range"):Sem PUnit).bind fun _=>((typeInfo elem).bind fun i=>if Builtin.nextslicecap (l+k) c*i.bytes>2^48 then((Builtin.mayShare size l k iW x').bind fun b=>if(!b)=true then((mark Mark.noRoom).bind fun _=>(unsupported (Unsupported.resourceLimit "append: a slice or a string whose bytes no memory bears"):Sem PUnit))else unsupported (Unsupported.resourceLimit "append: a slice or a string whose bytes no memory bears")).bind fun _=>((choose (Question.appendCap (l+k) c elem)).bind fun bB=>(typeInfo elem).bind fun i=>(askRoom (bB*i.bytes)).bind fun _=>(Builtin.firstCells size l (Value.slice iW l c)).bind fun old=>
          (Builtin.firstCells size k x').bind fun new=>(zeroValue elem).bind fun z=>(newRow elem (old++new++Builtin.zeroCells z.cells (bB-(l+k)))).bind fun r=>Sem.pure (Value.slice (some r) (l+k) bB))else((choose (Question.appendCap (l+k) c elem)).bind fun bB=>(typeInfo elem).bind fun i=>(askRoom (bB*i.bytes)).bind fun _=>(Builtin.firstCells size l (Value.slice iW l c)).bind fun old=>
          (Builtin.firstCells size k x').bind fun new=>(zeroValue elem).bind fun z=>(newRow elem (old++new++Builtin.zeroCells z.cells (bB-(l+k)))).bind fun r=>Sem.pure (Value.slice (some r) (l+k) bB))))else((typeInfo elem).bind fun i=>if Builtin.nextslicecap (l+k) c*i.bytes>2^48 then((Builtin.mayShare size l k iW x').bind fun b=>if(!b)=true then((mark Mark.noRoom).bind fun _=>(unsupported (Unsupported.resourceLimit "append: a slice or a string whose bytes no memory bears"):Sem PUnit))else unsupported (Unsupported.resourceLimit "append: a slice or a string whose bytes no memory bears")).bind fun _=>((choose (Question.appendCap (l+k) c elem)).bind fun bB=>(typeInfo elem).bind fun i=>(askRoom (bB*i.bytes)).bind fun _=>(Builtin.firstCells size l (Value.slice iW l c)).bind fun old=>
          (Builtin.firstCells size k x').bind fun new=>(zeroValue elem).bind fun z=>(newRow elem (old++new++Builtin.zeroCells z.cells (bB-(l+k)))).bind fun r=>Sem.pure (Value.slice (some r) (l+k) bB))else((choose (Question.appendCap (l+k) c elem)).bind fun bB=>(typeInfo elem).bind fun i=>(askRoom (bB*i.bytes)).bind fun _=>(Builtin.firstCells size l (Value.slice iW l c)).bind fun old=>
          (Builtin.firstCells size k x').bind fun new=>(zeroValue elem).bind fun z=>(newRow elem (old++new++Builtin.zeroCells z.cells (bB-(l+k)))).bind fun r=>Sem.pure (Value.slice (some r) (l+k) bB)))):=by
       intro n3 kQ;by_cases Yr:x= .nilFunc
       ·subst Yr;trivial
       refine(NU (QN.mono kQ)).bind fun n4 k k' xW e=>?_;subst e;have Wt:=(QN.mono kQ).mono xW;have QO:=((hb.mono cI).mono kQ).mono xW;have rest:∀{n5:az},az.le n4 n5→aR τ P F VR n5
         ((choose (Question.appendCap (l+k) c elem)).bind fun bB=>(typeInfo elem).bind fun i=>(askRoom (bB*i.bytes)).bind fun _=>(Builtin.firstCells size l (Value.slice base l c)).bind fun old=>
           (Builtin.firstCells size k x).bind fun new=>(zeroValue elem).bind fun z=>(newRow elem (old++new++Builtin.zeroCells z.cells (bB-(l+k)))).bind fun r=>Sem.pure (Value.slice (some r) (l+k) bB))
         ((choose (Question.appendCap (l+k) c elem)).bind fun bB=>(typeInfo elem).bind fun i=>(askRoom (bB*i.bytes)).bind fun _=>(Builtin.firstCells size l (Value.slice iW l c)).bind fun old=>
           (Builtin.firstCells size k x').bind fun new=>(zeroValue elem).bind fun z=>(newRow elem (old++new++Builtin.zeroCells z.cells (bB-(l+k)))).bind fun r=>Sem.pure (Value.slice (some r) (l+k) bB)):=by
        intro n5 nQ;refine(oR _).bind fun n6 q q' Kg e=>?_;subst e;refine(eI elem).bind fun n7 i i' hn7 e=>?_;subst e;refine(xg _).bind fun n8 _ _ hn8 _=>?_;have hle:=az.le_trans nQ (az.le_trans Kg (az.le_trans hn7 hn8));have iI:VR n8 (Value.slice base l c) (Value.slice iW l c):=by
         rcases QO with⟨rfl,rfl⟩|⟨p,q,rfl,rfl,ha⟩
         ·exact .cn _ _
         ·exact .slice _ _ (ha.mono hle)
        refine(mB size l iI).bind fun n9 o o' hn9 ho=>?_;refine(mB size k ((Wt.mono hle).mono hn9)).bind fun n10 w w' Ys hw=>?_;refine(gq elem (qz hzE hd0)).bind fun n11 z z' VN hz=>?_;exact(mz elem (((ho.mono (az.le_trans Ys VN)).append (hw.mono VN)).append (hz.cells.zeroCells _))).bind fun n12 a b aaC ha=>sP (.slice _ _ ha)
       have dead:∀{n5:az},az.le n4 n5→aR τ P F (fun _ (_ _:PUnit)=>False) n5
         ((Builtin.mayShare size l k base x).bind fun b=>if(!b)=true then((mark Mark.noRoom).bind fun _=>(unsupported (Unsupported.resourceLimit "append: a slice or a string whose bytes no memory bears"):Sem PUnit))else unsupported (Unsupported.resourceLimit "append: a slice or a string whose bytes no memory bears"))
         ((Builtin.mayShare size l k iW x').bind fun b=>if(!b)=true then((mark Mark.noRoom).bind fun _=>(unsupported (Unsupported.resourceLimit "append: a slice or a string whose bytes no memory bears"):Sem PUnit))else unsupported (Unsupported.resourceLimit "append: a slice or a string whose bytes no memory bears")):=by
        intro n5 nQ;refine Dg size l k (fun e=>?_) (Wt.mono nQ) Yr (fun b=>?_) (fun b=>?_)
        ·rcases QO with⟨_,h⟩|⟨p,q,h,_⟩
         ·exact h
         ·rw[h]at e;cases e
        ·cases b
         ·exact nofun
         ·exact nofun
        ·cases b
         ·exact⟨_,rfl,nofun⟩
         ·exact nofun
       split
       ·refine(mB size k Wt).bind fun n5 w w' nQ hw=>?_
        rcases QO with⟨rfl,rfl⟩|⟨p,q,rfl,rfl,ha⟩
        ·exact sP (.cn _ _)
        ·exact(my _ _ 0 ((ha.mono nQ).add _) hw.list.1 hw.list.2).bind fun n6 _ _ Kg _=>sP (.slice _ _ ((ha.mono nQ).mono Kg))
       ·refine(eI elem).bind fun n5 i i' nQ e=>?_
        subst e;split
        ·exact(mg (α:=PUnit) (β:=PUnit) (RA:=fun _ _ _=>False) R).bind fun _ _ _ _ h=>h.elim
        ·refine(eI elem).bind fun n6 i i' Kg e=>?_
         subst e;split
         ·exact(dead (az.le_trans nQ Kg)).bind fun _ _ _ _ h=>h.elim
         ·exact rest (az.le_trans nQ Kg)
      cases Kh:ts[1]? with
      |none=>
       simp only[pure_bind,Bool.false_eq_true,if_false,Bool.not_false,if_true,false_or,false_and];exact key (az.le_refl _)
      |some xT=>
       rw[Kh]at ok;dsimp only at ok
       refine(sU xT).bind fun n3 d d' kQ e=>?_;obtain⟨rfl,hd⟩:=e;rw[hd]at ok
       cases d with
       |int k=>cases ok
       |_=>
        simp only[pure_bind,Bool.false_eq_true,if_false,Bool.not_false,if_true,false_or,false_and];exact key kQ
     ·cases h3<;>first|trivial|exact absurd rfl (FT _ _ _)
    |_=>trivial
end
end Go.Proofs.YtjklkppncmhehaaGreat.Sr
namespace Go.Proofs.YtjklkppncmhehaaGreat.Sr
open Go
section
variable {τ:TypeId}{P:Program}{F:Array Func}{α β γ δ:Type}{m:az}
theorem vN {ι σ:Type}{f f':ι→σ→Sem (ForInStep σ)}:∀(xs:List ι) {m:az},(∀n,az.le m n→∀x∈xs,∀s,aR τ P F eC n (f x s) (f' x s))→∀s,aR τ P F eC m (forIn xs s f) (forIn xs s f')
 |[],m,_,s=>by rw[List.forIn_nil,List.forIn_nil];exact bH
 |x::xs,m,h,s=>by
  rw[List.forIn_cons,List.forIn_cons];refine(h m (az.le_refl m) x (by simp) s).bind fun n a b hn e=>?_
  subst e
  cases a with
  |done b=>exact bH
  |yield b=>exact vN xs (fun n2 h2 y hy s=>h n2 (az.le_trans hn h2) y (by simp[hy]) s) b
def qd (P:Program):Nat→TypeId→Bool
 |0,_=>false
 |d+1,t=>match P.underlying t with
  |some .bool|some (.int _)|some (.float _)|some .string|some (.slice _)|some (.map ..)=>true
  |some (.struct fs)=> !P.stoodInHeld t&&fs.all fun f=>qd P d f.type
  |some (.array _ e)=>qd P d e
  |_=>false
theorem FU {a b:Addr}(h:bp m a b):aR τ P F (fun m x y=>bp m x.1 y.1∧x.2=y.2) m (behindNumber a) (behindNumber b):=by
 refine SR.bind (RA:=fun m (x y:Option (Addr×Bool))=>(x=none∧y=none)∨∃p q l,x=some (p,l)∧y=some (q,l)∧bp m p q) ?_ fun n x y hn e=>?_
 ·refine .inr ⟨b.block,_,rfl,h.1,fun z=>?_⟩
  cases z with
  |none=>exact⟨b.block,_,rfl,h.1,fun p q l Ub=>⟨_,rfl,.inr ⟨p,q,l,rfl,rfl,Ub⟩⟩⟩
  |some z=>exact⟨none,rfl,.inl ⟨rfl,rfl⟩⟩
 ·rcases e with⟨rfl,rfl⟩|⟨p,q,l,rfl,rfl,Ub⟩
  ·exact sP ⟨h.mono hn,rfl⟩
  ·exact sP ⟨Ub,rfl⟩
theorem bp.same {a b c d:Addr}(h:bp m a b)(k:bp m c d)(e:a=c):b=d:=by
 subst e;obtain⟨h1,h2,h3,h4⟩:=h;obtain⟨k1,k2,k3,k4⟩:=k;rw[h1]at k1
 cases b;cases d
 simp only[Option.some.injEq]at k1 h2 h4 k2 k4;simp_all
theorem qC (hG:P.globals.size=0):∀(d k:Nat) (t:TypeId) {m:az} {x y u v:Value},qd P k t=true→VR m x y→VR m u v→aR τ P F eC m (Op.equalIn d t x u) (Op.equalIn d t y v)
 |0,_,_,_,_,_,_,_,_,_,_=>kN nofun
 |d+1,0,_,_,_,_,_,_,h,_,_=>by cases h
 |d+1,k+1,t,m,x,y,u,v,ok,hx,hu=>by
  unfold Op.equalIn;unfold qd at ok;refine(sU t).bind fun n1 dd d' cj e=>?_;obtain⟨rfl,hd⟩:=e;rw[hd]at ok;replace hx:=hx.mono cj
  replace hu:=hu.mono cj
  cases dd with
  |bool=>cases hx<;>cases hu<;>first|exact bH|trivial
  |int _=>
   cases hx with
   |int k1 a=>
    cases hu with
    |int k2 b=>dsimp only;split<;>first|exact bH|trivial
    |ptr hb=>
     by_cases h0:a=0
     ·subst h0;exact bH
     ·split<;>first
       |exact kN nofun
       |(exfalso;simp_all;done)
    |_=>first|trivial|exact kN nofun
   |ptr ha=>
    cases hu with
    |ptr hb=>
     refine(FU ha).bind fun n2 p q cI e1=>?_;refine(FU (hb.mono cI)).bind fun n3 p' q' kQ e2=>?_;refine dk ?_;simp only[hG,Nat.not_lt_zero,decide_false,Bool.and_false,Bool.false_eq_true,if_false];refine(eI t).bind fun n4 i i' xW e=>?_;subst e;split
     ·split
      ·rename_i fB
       rw[if_pos (by simpa using bp.same (e1.1.mono kQ) e2.1 (by simpa using fB))]
       exact bH
      ·exact kN nofun
     ·exact kN nofun
    |int k2 b=>
     by_cases h0:b=0
     ·subst h0;exact bH
     ·split<;>first
       |exact kN nofun
       |(exfalso;simp_all;done)
    |_=>first|trivial|exact kN nofun
   |_=>cases hu<;>first|trivial|exact kN nofun
  |float _=>cases hx<;>cases hu<;>first|trivial|(dsimp only;split<;>first|exact bH|trivial)
  |string=>cases hx<;>cases hu<;>first|exact bH|trivial
  |slice _=>cases hx<;>cases hu<;>first|exact bH|trivial
  |map _ _=>cases hx<;>cases hu<;>first|exact bH|trivial
  |struct fs=>
   cases hx with
   |agg hs hh=>
    cases hu with
    |agg ks kk=>
     dsimp only
     refine dk ?_;simp only[Bool.and_eq_true,Bool.not_eq_true']at ok;obtain⟨es,ok⟩:=ok;simp only[es];split
     ·exact kN nofun
     ·rw[if_neg (by simp)]
      refine SR.bind (RA:=eC) ?_ fun n2 a b cI e=>by subst e;split<;>exact bH
      rw[←Array.forIn_toList,←Array.forIn_toList];refine vN fs.toList (fun n2 cI f hf s=>?_) _
      have okf:qd P k f.type=true:=by
       have:=Array.all_eq_true_iff_forall_mem.1 ok f (by simpa using hf)
       exact this
      split
      ·refine(qB f.type f.offset (AR.mono cI ⟨hs,hh⟩)).bind fun n3 a b kQ fB=>?_
       refine(qB f.type f.offset ((AR.mono cI ⟨ks,kk⟩).mono kQ)).bind fun n4 c e xW Wu=>?_;refine(qC hG d k f.type okf (fB.mono xW) Wu).bind fun n5 p q nQ e=>?_;subst e;split<;>exact bH
      ·exact bH
    |_=>trivial
   |_=>cases hu<;>trivial
  |array n e=>
   cases hx with
   |agg hs hh=>
    cases hu with
    |agg ks kk=>
     dsimp only
     refine(se e).bind fun n2 z z' cI ez=>?_;subst ez;refine SR.bind (RA:=eC) ?_ fun n2 a b cI e=>by subst e;split<;>exact bH
     rw[Std.Legacy.Range.forIn_eq_forIn_range',Std.Legacy.Range.forIn_eq_forIn_range'];refine vN _ (fun n3 kQ i hi s=>?_) _
     refine(qB e (i*z) ((AR.mono cI ⟨hs,hh⟩).mono kQ)).bind fun n4 a b xW fB=>?_;refine(qB e (i*z) (((AR.mono cI ⟨ks,kk⟩).mono kQ).mono xW)).bind fun n5 c e' nQ Wu=>?_;refine(qC hG d k e ok (fB.mono nQ) Wu).bind fun n6 p q Kg e=>?_;subst e;split<;>exact bH
    |_=>trivial
   |_=>cases hu<;>trivial
  |_=>cases ok
theorem nk {α β:Type}{RA:az→α→β→Prop}(t:TypeId)(ok:qd P 8 t=true){x u:Value}(h:x= .nilFunc∨u= .nilFunc){k:Bool→Sem α}{s':Sem β}:aR τ P F RA m ((Op.equal t x u).bind k) s':=by
 show aR τ P F RA m ((Op.equalIn (9999+1) t x u).bind k) s'
 unfold Op.equalIn;unfold qd at ok;unfold underlying;refine .inl ?_;have e:Program.underlying (Program.mk (Program.toTables P) F) t=P.underlying t:=rfl
 show d_ τ (((match P.underlying t with|some d=>(Sem.pure d:Sem TypeDesc)|none=>(stuck "no such type":Sem TypeDesc)).bind _).bind k)
 cases hd:P.underlying t with
 |none=>trivial
 |some d=>
  rw[hd]at ok;rcases h with rfl|rfl
  ·cases d<;>first|(cases ok;done)|(cases u<;>first|trivial|(intro g e;cases e;done))
  ·cases d<;>first|(cases ok;done)|(cases x<;>first|trivial|(intro g e;cases e;done)|(dsimp only[Sem.bind,d_];split<;>first|trivial|(intro g e;cases e;done)|(exfalso;simp_all;done)))
end
end Go.Proofs.YtjklkppncmhehaaGreat.Sr
