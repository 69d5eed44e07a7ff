/-
What is proved: each operation of the supported kinds keeps the relation of Sr and what rests on it. Conditions: as stated.
-/
import Derived.Test.YtlhohdjniaebbaaGreatRy02
set_option linter.unusedVariables false
set_option linter.unusedSimpArgs false
namespace Go.Proofs.YtlhohdjniaebbaaGreat.Sr
open Go
section
variable {τ:TypeId}{P:Program}{F:Array Func}{α β γ δ:Type}{m:aD}
theorem OG (t:TypeId)(hZ:rC P t=true)(o:Value):aT τ P F VR m (Instr.alloc t true o) (Instr.alloc t true o):=by
 unfold Instr.alloc;refine(fK t hZ).bind fun n x y hn hx=>?_;exact(yf t hx).bind fun n2 a b h2 ha=>sP (.ptr ha)
theorem VW (t:TypeId){x y:Value}(h:VR m x y):aT τ P F VR m (Instr.box t x) (Instr.box t y):=
 (yf t h).bind fun n2 a b h2 ha=>sP (.ptr ha)
inductive jd (m:aD):List (Nat×Value)→List (Nat×Value)→Prop
 |nil:jd m [] []
 |cons {i:Nat} {x y:Value} {us vs:List (Nat×Value)} (h:VR m x y) (k:jd m us vs):jd m ((i,x)::us) ((i,y)::vs)
theorem jd.mono {n:aD}(h:aD.le m n){us vs:List (Nat×Value)}(x:jd m us vs):jd n us vs:=by
 induction x with
 |nil=>exact .nil
 |cons a _ ih=>exact .cons (a.mono h) ih
theorem AR.fold {xs ys us vs:Array Value}(off:Nat)(h:AR m xs ys)(k:AR m us vs):
  AR m (us.zipIdx.foldl (fun cs (c,j)=>cs.setIfInBounds (off+j) c) xs) (vs.zipIdx.foldl (fun cs (c,j)=>cs.setIfInBounds (off+j) c) ys):=by
 have key:∀(l l':List Value) (j:Nat) (xs ys:Array Value),AR m xs ys→l.length=l'.length→(∀i (h1:i<l.length) (h2:i<l'.length),VR m l[i] l'[i])→
   AR m ((l.zipIdx j).foldl (fun cs (c,j)=>cs.setIfInBounds (off+j) c) xs) ((l'.zipIdx j).foldl (fun cs (c,j)=>cs.setIfInBounds (off+j) c) ys):=by
  intro l;induction l with
  |nil=>intro l' j xs ys h hl _;cases l' with|nil=>exact h|cons=>simp at hl
  |cons a l ih=>
   intro l' j xs ys h hl hh
   cases l' with
   |nil=>simp at hl
   |cons b l'=>
    simp only[List.zipIdx_cons,List.foldl_cons];exact ih l' (j+1) _ _ (h.set _ (hh 0 (by simp) (by simp))) (by simpa using hl) fun i h1 h2=>hh (i+1) (by simpa using h1) (by simpa using h2)
 have:=key us.toList vs.toList 0 xs ys h k.list.1 k.list.2
 rw[←Array.foldl_toList,←Array.foldl_toList,Array.toList_zipIdx,Array.toList_zipIdx];exact this
theorem vo (place:Nat→Option (Nat×Nat)){xs ys:Array Value}{us vs:List (Nat×Value)}(h:AR m xs ys)(k:jd m us vs):
  (Instr.fill place xs us=none)∨∃a b,Instr.fill place xs us=some a∧Instr.fill place ys vs=some b∧AR m a b:=by
 induction k generalizing xs ys with
 |nil=>exact .inr ⟨xs,ys,rfl,rfl,h⟩
 | @cons i x y us vs hx _ ih=>
   have hc:=hx.cells;unfold Instr.fill
   cases place i with
   |none=>exact .inl rfl
   |some q=>
    obtain⟨off,size⟩:=q;simp only
    by_cases hb:(x.cells.size≠size||off+x.cells.size>xs.size)=true
    ·rw[if_pos hb];exact .inl rfl
    ·rw[if_neg hb,if_neg (by rw[←hc.1,←h.1];exact hb)]
     exact ih (h.fold off hc)
theorem R9 {ι:Type}{f:ι→Sem α}(xs:Array ι)(h:∀(m:aD) x,aT τ P F dY m (f x) (f x)):aT τ P F dY m (xs.mapM f) (xs.mapM f):=by
 rw[Array.mapM_eq_mapM_toList];refine SR.bind (RA:=dY) ?_ fun n a b _ e=>by subst e;exact bL
 suffices∀(l:List ι) (m:aD),aT τ P F dY m (l.mapM f) (l.mapM f)from this _ m
 intro l;induction l with
 |nil=>intro m;exact bL
 |cons a l ih=>
  intro m;rw[List.mapM_cons];exact(h m a).bind fun n x y _ e=>by
   subst e;exact(ih n).bind fun n2 x y _ e=>by subst e;exact bL
theorem OH (t:TypeId)(hZ:rC P t=true){us vs:Array (Nat×Value)}(h:jd m us.toList vs.toList):aT τ P F VR m (Instr.build t us) (Instr.build t vs):=by
 unfold Instr.build;refine(fK t hZ).bind fun n x y hn hx=>?_;refine(sU t).bind fun n2 d d' h2 e=>?_;obtain⟨rfl,_⟩:=e;have hc:=(hx.mono h2).cells;have hp:=(h.mono hn).mono h2
 cases d with
 |struct fields=>
  refine SR.bind (RA:=dY) (R9 fields fun m f=>(pK _).bind fun _ a b _ e=>by subst e;exact bL) fun n3 a b h3 e=>?_
  subst e;rcases vo (a[·]?) (hc.mono h3) (hp.mono h3)with e1|⟨p,q,e1,e2,e3⟩
  ·simp only[e1];trivial
  ·simp only[e1,e2];exact sP (.agg e3.1 e3.2)
 |array len elem=>
  refine(pK _).bind fun n3 a b h3 e=>?_;subst e;rcases vo (fun i=>some (i*a,a)) (hc.mono h3) (hp.mono h3)with e1|⟨p,q,e1,e2,e3⟩
  ·simp only[e1];trivial
  ·simp only[e1,e2];exact sP (.agg e3.1 e3.2)
 |_=>trivial
theorem AR.rep {us vs:Array Value}(h:AR m us vs)(n:Nat):AR m ((Array.range n).map (us[· % us.size]!)) ((Array.range n).map (vs[· % vs.size]!)):=by
 rw[←h.1];refine AR.map _ fun i _=>?_;rw[getElem!_def,getElem!_def];rcases h.get? (i % us.size)with⟨h1,h2⟩|⟨x,y,h1,h2,h3⟩
 ·rw[h1,h2];exact .bool false
 ·rw[h1,h2];exact h3
theorem AR.zeroCells {us vs:Array Value}(h:AR m us vs)(n:Nat):AR m (Builtin.zeroCells us n) (Builtin.zeroCells vs n):=by
 unfold Builtin.zeroCells;have:=h.rep (n*us.size)
 rw[←h.1];rw[←h.1]at this;exact this
theorem yg (t:TypeId)(hZ:wy P t=true)(len:Nat){us vs:Array (Nat×Value)}(h:jd m us.toList vs.toList):aT τ P F VR m (Instr.buildSlice t len us) (Instr.buildSlice t len vs):=by
 unfold Instr.buildSlice;refine(sU t).bind fun n2 d d' h2 e=>?_;obtain⟨rfl,hd⟩:=e
 cases d with
 |slice elem=>
  refine(pK _).bind fun n3 a b h3 e=>?_;subst e;dsimp only
  split
  ·exact jN nofun
  ·have key:∀{n4:aD} (h4:aD.le n3 n4) {zs ws:Array Value} (hz:AR n4 zs ws),aT τ P F VR n4
     (match Instr.fill (fun i=>some (i*a,a)) (Array.map (fun x=>zs[x % zs.size]!) (Array.range (len*a))) us.toList with
      |some cells=>(newRow elem cells).bind fun x=>Sem.pure (Value.slice (some x) len len)
      |x=>stuck "buildSlice: a part of the wrong size")
     (match Instr.fill (fun i=>some (i*a,a)) (Array.map (fun x=>ws[x % ws.size]!) (Array.range (len*a))) vs.toList with
      |some cells=>(newRow elem cells).bind fun x=>Sem.pure (Value.slice (some x) len len)
      |x=>stuck "buildSlice: a part of the wrong size"):=by
    intro n4 h4 zs ws hz;rcases vo (fun i=>some (i*a,a)) (hz.rep (len*a)) (((h.mono h2).mono h3).mono h4)with e1|⟨p,q,e1,e2,e3⟩
    ·simp only[e1];trivial
    ·simp only[e1,e2]
     exact(lD elem e3).bind fun n5 a b h5 ha=>sP (.slice len len ha)
   split
   ·exact key (aD.le_refl _) AR.nil
   ·exact(fK _ (pL hZ hd)).bind fun n x y hn hx=>key hn hx.cells
 |_=>trivial
theorem Ko (t:TypeId){x y:Value}(h:VR m x y):aT τ P F VR m (Instr.loadAt t x) (Instr.loadAt t y):=(jc h).bind fun _ a b _ ha=>pM t ha
theorem Fj (t:TypeId){x y u v:Value}(h:VR m x y)(k:VR m u v):aT τ P F dY m (Instr.storeAt t x u) (Instr.storeAt t y v):=(jc h).bind fun _ a b hn ha=>CS t ha (k.mono hn)
def yh (P:Program)(s:TypeId)(f:Nat):Bool:=
 match P.underlying s with
 |some (.struct fields)=>match fields[f]? with
  |some g=>match P.info? g.type with
   |some i=>i.size !=0
   |none=>false
  |none=>false
 |_=>false
theorem yi {a b:Addr}(h:bA m a b){f:Field}(hf:∃i,P.info? f.type=some i∧i.size≠0):aT τ P F bA m (fieldPlace a f) (fieldPlace b f):=by
 unfold fieldPlace sizeOf typeInfo;obtain⟨i,hi,hs⟩:=hf;refine SR.bind (RA:=fun _ a b=>a=b∧a≠0) ?_ fun n p q hn e=>?_
 ·refine SR.bind (RA:=fun _ a b=>a=b∧a=i) ?_ fun n p q hn e=>?_
  ·refine c9 ?_
   show aT τ P F _ m (match P.info? f.type with|some i=>pure i|none=>stuck "no such type") _
   simp only[hi];exact⟨i,rfl,rfl,rfl⟩
  ·obtain⟨rfl,rfl⟩:=e
   exact sP ⟨rfl,hs⟩
 ·obtain⟨rfl,hp⟩:=e
  rw[if_neg hp,if_neg hp];exact sP ((h.mono hn).add _)
theorem Fl (s:TypeId){x y:Value}(f:Nat)(h:VR m x y)(ok:yh P s f=true):aT τ P F VR m (Instr.fieldAt s x f) (Instr.fieldAt s y f):=by
 unfold Instr.fieldAt;unfold yh at ok;refine(sU s).bind fun n2 d d' h2 e=>?_;obtain⟨rfl,hd⟩:=e;rw[hd]at ok
 cases d with
 |struct fields=>
  dsimp only at ok⊢
  cases hf:fields[f]? with
  |none=>rw[hf]at ok;cases ok
  |some g=>
   rw[hf]at ok;dsimp only at ok⊢
   refine(jc (h.mono h2)).bind fun n3 a b h3 ha=>?_;refine SR.bind (yi ha (f:=g) ?_) fun n4 a b h4 hb=>sP (.ptr hb)
   cases hi:P.info? g.type with
   |none=>rw[hi]at ok;cases ok
   |some i=>rw[hi]at ok;exact⟨i,rfl,by simpa using ok⟩
 |_=>cases ok
theorem Fo (R:dZ τ P)(t:TypeId){x y u v:Value}(h:VR m x y)(k:VR m u v):aT τ P F VR m (Instr.indexAt t x u) (Instr.indexAt t y v):=by
 unfold Instr.indexAt;refine(kr k).bind fun n p q hn e=>?_;subst e;obtain⟨kd,i⟩:=p;refine(sU t).bind fun n2 d d' h2 e=>?_;obtain⟨rfl,_⟩:=e;have h':=(h.mono hn).mono h2
 cases d with
 |array len elem=>
  refine(jc h').bind fun n3 a b h3 ha=>?_;simp only[pure_bind];refine(sU t).bind fun n4 d d' h4 e=>?_;obtain⟨rfl,_⟩:=e;try dsimp only
  split
  ·exact(pK _).bind fun n5 p q h5 e=>by subst e;exact sP (.ptr (((ha.mono h4).mono h5).add _))
  ·repeat' split
   all_goals first|exact jN nofun|exact cW R
 |slice elem=>
  cases h' with
  |cp l c=>
   simp only[pure_bind];refine(sU t).bind fun n4 d d' h4 e=>?_;obtain⟨rfl,_⟩:=e;exact cW R
  |dO=>
   simp only[pure_bind];refine(sU t).bind fun n4 d d' h4 e=>?_;obtain⟨rfl,_⟩:=e;try dsimp only
   split
   ·omega
   ·repeat' split
    all_goals first|exact jN nofun|exact cW R
  |slice l c ha=>
   simp only[pure_bind];refine(sU t).bind fun n4 d d' h4 e=>?_;obtain⟨rfl,_⟩:=e;try dsimp only
   split
   ·exact(pK _).bind fun n5 p q h5 e=>by subst e;exact sP (.ptr (((ha.mono h4).mono h5).add _))
   ·repeat' split
    all_goals first|exact jN nofun|exact cW R
  |_=>trivial
 |_=>trivial
theorem OI (R:dZ τ P)(t:TypeId){x y u v:Value}(h:VR m x y)(k:VR m u v):aT τ P F VR m (Instr.index t x u) (Instr.index t y v):=by
 unfold Instr.index;refine(kr k).bind fun n p q hn e=>?_;subst e;obtain⟨kd,i⟩:=p;refine(sU t).bind fun n2 d d' h2 e=>?_;obtain⟨rfl,_⟩:=e;have h':=(h.mono hn).mono h2
 cases d with
 |array len elem=>
  cases h' with
  |agg hs hh=>
   dsimp only
   split
   ·exact(pK _).bind fun n3 a b h3 e=>by subst e;exact pN elem _ (AR.mono h3 ⟨hs,hh⟩)
   ·exact cW R
  |_=>trivial
 |string=>
  cases h' with
  |string s=>
   dsimp only
   split
   ·exact sP (.int _ _)
   ·exact cW R
  |_=>trivial
 |_=>trivial
theorem Fp {x y:Value}(i:Nat)(h:VR m x y):aT τ P F VR m (Instr.extract x i) (Instr.extract y i):=by
 unfold Instr.extract
 cases h with
 |tuple hs hh=>
  dsimp only
  rcases(show AR m _ _ from⟨hs,hh⟩).get? i with⟨h1,h2⟩|⟨x,y,h1,h2,h3⟩
  ·rw[h1];trivial
  ·rw[h1,h2];exact sP h3
 |_=>trivial
theorem CU (f:Fn)(hf:m.fn f){us vs xs ys:Array Value}(h:AR m us vs)(k:AR m xs ys):aT τ P F VR m (Instr.makeFunc f us xs) (Instr.makeFunc f vs ys):=
 sP (.func f hf h.1 h.2 k.1 k.2)
theorem wz (n:Nat):aT τ P F dY m (askRoom n) (askRoom n):=by
 unfold askRoom;split
 ·exact⟨_,rfl,bL⟩
 ·exact bL
theorem AH (R:dZ τ P)(t:TypeId)(hZ:wy P t=true){x y u v:Value}(h:VR m x y)(k:VR m u v):aT τ P F VR m (Instr.makeSlice t x u) (Instr.makeSlice t y v):=by
 unfold Instr.makeSlice;refine(sU t).bind fun n1 d d' h1 e=>?_;obtain⟨rfl,hd⟩:=e
 cases d with
 |slice elem=>
  refine(qH (h.mono h1)).bind fun n2 a a' h2 e=>?_;subst e;refine(qH ((k.mono h1).mono h2)).bind fun n3 b b' h3 e=>?_;subst e;refine(d_ elem).bind fun n4 c c' h4 e=>?_;subst e;dsimp only
  have key:∀{n5:aD},aT τ P F VR n5
    ((askRoom ((IntKind.i64.wrap b).toNat*c.bytes)).bind fun _=>(sizeOf elem).bind fun s=>
      if(IntKind.i64.wrap b).toNat*s=0 then(newRow elem ((Array.range ((IntKind.i64.wrap b).toNat*s)).map ((#[]:Array Value)[· %(#[]:Array Value).size]!))).bind fun r=>Sem.pure (Value.slice (some r) (IntKind.i64.wrap a).toNat (IntKind.i64.wrap b).toNat)
      else(zeroValue elem).bind fun z=>(newRow elem ((Array.range ((IntKind.i64.wrap b).toNat*s)).map (z.cells[· % z.cells.size]!))).bind fun r=>Sem.pure (Value.slice (some r) (IntKind.i64.wrap a).toNat (IntKind.i64.wrap b).toNat))
    ((askRoom ((IntKind.i64.wrap b).toNat*c.bytes)).bind fun _=>(sizeOf elem).bind fun s=>
      if(IntKind.i64.wrap b).toNat*s=0 then(newRow elem ((Array.range ((IntKind.i64.wrap b).toNat*s)).map ((#[]:Array Value)[· %(#[]:Array Value).size]!))).bind fun r=>Sem.pure (Value.slice (some r) (IntKind.i64.wrap a).toNat (IntKind.i64.wrap b).toNat)
      else(zeroValue elem).bind fun z=>(newRow elem ((Array.range ((IntKind.i64.wrap b).toNat*s)).map (z.cells[· % z.cells.size]!))).bind fun r=>Sem.pure (Value.slice (some r) (IntKind.i64.wrap a).toNat (IntKind.i64.wrap b).toNat)):=by
   intro n5;refine(wz _).bind fun n6 _ _ h6 _=>?_;refine(pK elem).bind fun n7 s s' h7 e=>?_;subst e;split
   ·exact(lD elem (AR.nil.rep _)).bind fun n5 a b h5 ha=>sP (.slice _ _ ha)
   ·exact(fK _ (pL hZ hd)).bind fun n x y hn hx=>(lD elem (hx.cells.rep _)).bind fun n5 a b h5 ha=>sP (.slice _ _ ha)
  split
  ·split
   ·exact(lB (α:=PUnit) (β:=PUnit) (RA:=dY) R).bind fun n _ _ _ _=>key
   ·split
    ·exact(lB (α:=PUnit) (β:=PUnit) (RA:=dY) R).bind fun n _ _ _ _=>key
    ·refine SR.bind (oh _) fun n a b _ e=>?_
     subst e;exact(lB (α:=PUnit) (β:=PUnit) (RA:=dY) R).bind fun n _ _ _ _=>key
  ·exact key
 |_=>trivial
end
end Go.Proofs.YtlhohdjniaebbaaGreat.Sr
namespace Go.Proofs.YtlhohdjniaebbaaGreat.Sr
open Go
section
variable {τ:TypeId}{P:Program}{F:Array Func}{α β γ δ:Type}{m:aD}
inductive jI (m:aD):Option Value→Option Value→Prop
 |none:jI m none none
 |some {x y:Value} (h:VR m x y):jI m (some x) (some y)
theorem jI.mono {n:aD}(h:aD.le m n){a b:Option Value}(x:jI m a b):jI n a b:=by
 cases x with
 |none=>exact .none
 |some k=>exact .some (k.mono h)
theorem eO (R:dZ τ P){x y:Value}(h:VR m x y)(k:Nat)(c:BoundsCode):aT τ P F dY m (Instr.sliceBound x k c) (Instr.sliceBound y k c):=by
 unfold Instr.sliceBound;refine(kr h).bind fun n p q hn e=>?_;subst e;dsimp only
 split
 ·exact bL
 ·exact cW R
theorem dV (R:dZ τ P){x y:Value}(h:VR m x y)(c:BoundsCode):aT τ P F (fun _ a b=>a=0∧b=0) m (Instr.sliceBound x 0 c) (Instr.sliceBound y 0 c):=by
 unfold Instr.sliceBound;refine(kr h).bind fun n p q hn e=>?_;subst e;dsimp only
 split
 ·rename_i hq
  refine sP ?_;omega
 ·exact cW R
theorem vp (R:dZ τ P)(b:Bool){lo xx hi dQ mx yj:Option Value}(h1:jI m lo xx)(h2:jI m hi dQ)(h3:jI m mx yj):
  aT τ P F (fun _ a b=>a=(0,0,0)∧b=(0,0,0)) m (Instr.sliceBounds b 0 0 lo hi mx) (Instr.sliceBounds b 0 0 xx dQ yj):=by
 unfold Instr.sliceBounds
 cases h3 with
 |none=>
  cases h2 with
  |none=>
   simp only[pure_bind]
   cases h1 with
   |none=>exact sP ⟨rfl,rfl⟩
   |some hl=>exact(dV R hl _).bind fun n a b hn e=>by obtain⟨rfl,rfl⟩:=e;exact sP ⟨rfl,rfl⟩
  |some hv=>
   simp only[pure_bind];refine(dV R hv _).bind fun n a b hn e=>?_;obtain⟨rfl,rfl⟩:=e
   cases h1 with
   |none=>exact sP ⟨rfl,rfl⟩
   |some hl=>exact(dV R (hl.mono hn) _).bind fun n a b hn e=>by obtain⟨rfl,rfl⟩:=e;exact sP ⟨rfl,rfl⟩
 |some hm=>
  refine(dV R hm _).bind fun n a b hn e=>?_;obtain⟨rfl,rfl⟩:=e
  cases h2 with
  |none=>trivial
  |some hv=>
   simp only[pure_bind];refine(dV R (hv.mono hn) _).bind fun n2 a b eK e=>?_;obtain⟨rfl,rfl⟩:=e
   cases h1 with
   |none=>exact sP ⟨rfl,rfl⟩
   |some hl=>exact(dV R ((hl.mono hn).mono eK) _).bind fun n a b hn e=>by obtain⟨rfl,rfl⟩:=e;exact sP ⟨rfl,rfl⟩
theorem fE (R:dZ τ P)(b:Bool)(l c:Nat){lo xx hi dQ mx yj:Option Value}(h1:jI m lo xx)(h2:jI m hi dQ)(h3:jI m mx yj):
  aT τ P F dY m (Instr.sliceBounds b l c lo hi mx) (Instr.sliceBounds b l c xx dQ yj):=by
 unfold Instr.sliceBounds
 cases h3 with
 |none=>
  cases h2 with
  |none=>
   simp only[pure_bind]
   cases h1 with
   |none=>exact bL
   |some hl=>exact(eO R hl _ _).bind fun n a b hn e=>by subst e;exact bL
  |some hv=>
   simp only[pure_bind];refine(eO R hv _ _).bind fun n a b hn e=>?_;subst e
   cases h1 with
   |none=>exact bL
   |some hl=>exact(eO R (hl.mono hn) _ _).bind fun n a b hn e=>by subst e;exact bL
 |some hm=>
  refine(eO R hm _ _).bind fun n a b hn e=>?_;subst e
  cases h2 with
  |none=>trivial
  |some hv=>
   simp only[pure_bind];refine(eO R (hv.mono hn) _ _).bind fun n2 a b eK e=>?_;subst e
   cases h1 with
   |none=>exact bL
   |some hl=>exact(eO R ((hl.mono hn).mono eK) _ _).bind fun n a b hn e=>by subst e;exact bL
theorem OJ (R:dZ τ P)(t:TypeId){x y:Value}(h:VR m x y){lo xx hi dQ mx yj:Option Value}(h1:jI m lo xx)(h2:jI m hi dQ)(h3:jI m mx yj):
  aT τ P F VR m (Instr.slice t x lo hi mx) (Instr.slice t y xx dQ yj):=by
 unfold Instr.slice;refine(sU t).bind fun n1 d d' dz e=>?_;obtain⟨rfl,_⟩:=e;have h':=h.mono dz
 cases d with
 |string=>
  cases h' with
  |string s=>
   have key:aT τ P F VR n1 ((Instr.sliceBounds false s.size s.size lo hi none).bind fun p=>Sem.pure (Value.string (s.extract p.1 p.2.1)))
     ((Instr.sliceBounds false s.size s.size xx dQ none).bind fun p=>Sem.pure (Value.string (s.extract p.1 p.2.1))):=
    (fE R _ _ _ (h1.mono dz) (h2.mono dz) .none).bind fun n2 a b h2 e=>by subst e;exact sP (.string _)
   cases h3 with
   |none=>exact key
   |some _=>trivial
  |_=>trivial
 |slice elem=>
  cases h' with
  |cp l c=>
   refine(fE R _ _ _ (h1.mono dz) (h2.mono dz) (h3.mono dz)).bind fun n2 a b eK e=>?_;subst e;refine(pK elem).bind fun n3 s s' jO e=>?_;subst e;try dsimp only
   split<;>exact sP (.cp _ _)
  |dO=>
   refine(vp R _ (h1.mono dz) (h2.mono dz) (h3.mono dz)).bind fun n2 a b eK e=>?_;obtain⟨rfl,rfl⟩:=e;refine(pK elem).bind fun n3 s s' jO e=>?_;subst e;try dsimp only
   split<;>exact sP .dO
  |slice l c ha=>
   refine(fE R _ _ _ (h1.mono dz) (h2.mono dz) (h3.mono dz)).bind fun n2 a b eK e=>?_;subst e;refine(pK elem).bind fun n3 s s' jO e=>?_;subst e;try dsimp only
   split
   ·exact sP (.slice _ _ ((ha.mono eK).mono jO))
   ·exact sP (.slice _ _ (((ha.mono eK).mono jO).add _))
  |_=>trivial
 |pointer arr=>
  refine(sj R h').bind fun n2 a b eK ha=>?_;refine(sU arr).bind fun n3 d d' jO e=>?_;obtain⟨rfl,_⟩:=e
  cases d with
  |array n elem=>
   refine(fE R _ _ _ (((h1.mono dz).mono eK).mono jO) (((h2.mono dz).mono eK).mono jO) (((h3.mono dz).mono eK).mono jO)).bind fun n4 p q xy e=>?_;subst e;refine(pK elem).bind fun n5 s s' ng e=>?_;subst e;try dsimp only
   have hb:=((ha.mono jO).mono xy).mono ng;split
   ·exact sP (.slice _ _ hb)
   ·exact sP (.slice _ _ (hb.add _))
  |_=>trivial
 |_=>trivial
theorem Fq (R:dZ τ P)(t:TypeId){x y:Value}(h:VR m x y){lo xx hi dQ mx yj:Option Value}(h1:jI m lo xx)(h2:jI m hi dQ)(h3:jI m mx yj):
  aT τ P F VR m (Instr.sliceAt t x lo hi mx) (Instr.sliceAt t y xx dQ yj):=by
 unfold Instr.sliceAt;refine(sU t).bind fun n1 d d' dz e=>?_;obtain⟨rfl,_⟩:=e
 cases d with
 |array n elem=>
  refine(jc (h.mono dz)).bind fun n2 a b eK ha=>?_;refine(fE R _ _ _ ((h1.mono dz).mono eK) ((h2.mono dz).mono eK) ((h3.mono dz).mono eK)).bind fun n4 p q xy e=>?_;subst e;refine(pK elem).bind fun n5 s s' ng e=>?_;subst e;try dsimp only
  have hb:=(ha.mono xy).mono ng;split
  ·exact sP (.slice _ _ hb)
  ·exact sP (.slice _ _ (hb.add _))
 |_=>exact OJ R t (h.mono dz) (h1.mono dz) (h2.mono dz) (h3.mono dz)
theorem VX (ts:Array TypeId)(t:TypeId){us vs:Array Value}(h:AR m us vs):aT τ P F VR m (Builtin.len_ ts t us) (Builtin.len_ ts t vs):=by
 unfold Builtin.len_
 cases ts[0]? with
 |none=>trivial
 |some t0=>
  rcases h.get? 0 with⟨h1,h2⟩|⟨x,y,h1,h2,h3⟩
  ·rw[h1];trivial
  ·rw[h1,h2]
   refine(sU t0).bind fun n1 d d' dz e=>?_;obtain⟨rfl,_⟩:=e;have h':=h3.mono dz
   cases d with
   |array n elem=>cases h'<;>exact sP (.int _ _)
   |pointer arr=>
    have key:aT τ P F VR n1 ((underlying arr).bind fun d=>match d with| .array n _=>Sem.pure (goInt n)|_=>stuck "len: pointer to array expected")
      ((underlying arr).bind fun d=>match d with| .array n _=>Sem.pure (goInt n)|_=>stuck "len: pointer to array expected"):=by
     refine(sU arr).bind fun n3 d d' jO e=>?_;obtain⟨rfl,_⟩:=e
     cases d<;>first|exact sP (.int _ _)|trivial
    cases h'<;>exact key
   |string=>cases h'<;>first|exact sP (.int _ _)|trivial
   |slice e=>cases h'<;>first|exact sP (.int _ _)|trivial
   |map a b=>cases h'<;>first|exact sP (.int _ _)|trivial
   |_=>cases h'<;>trivial
theorem VY (ts:Array TypeId)(t:TypeId){us vs:Array Value}(h:AR m us vs):aT τ P F VR m (Builtin.cap_ ts t us) (Builtin.cap_ ts t vs):=by
 unfold Builtin.cap_
 cases ts[0]? with
 |none=>trivial
 |some t0=>
  rcases h.get? 0 with⟨h1,h2⟩|⟨x,y,h1,h2,h3⟩
  ·rw[h1];trivial
  ·rw[h1,h2]
   refine(sU t0).bind fun n1 d d' dz e=>?_;obtain⟨rfl,_⟩:=e;have h':=h3.mono dz
   cases d with
   |array n elem=>cases h'<;>exact sP (.int _ _)
   |pointer arr=>
    have key:aT τ P F VR n1 ((underlying arr).bind fun d=>match d with| .array n _=>Sem.pure (goInt n)|_=>stuck "cap: pointer to array expected")
      ((underlying arr).bind fun d=>match d with| .array n _=>Sem.pure (goInt n)|_=>stuck "cap: pointer to array expected"):=by
     refine(sU arr).bind fun n3 d d' jO e=>?_;obtain⟨rfl,_⟩:=e
     cases d<;>first|exact sP (.int _ _)|trivial
    cases h'<;>exact key
   |slice e=>cases h'<;>first|exact sP (.int _ _)|trivial
   |_=>cases h'<;>trivial
theorem R_ {x y u v:Value}(h:VR m x y)(k:VR m u v):aT τ P F VR m (Builtin.max2 x u) (Builtin.max2 y v):=by
 cases h with
 |int k1 a=>cases k<;>first|exact sP (.int _ _)|trivial|exact jN nofun
 |string s=>
  cases k with
  |string s2=>exact sP (.string _)
  |_=>first|trivial|exact jN nofun
 |_=>cases k<;>first|trivial|exact jN nofun
theorem yk {f:Value→Value→Sem Value}(hf:∀{m:aD} {x y u v:Value},VR m x y→VR m u v→aT τ P F VR m (f x u) (f y v)):
  ∀(us vs:List Value) {m:aD} {x y:Value},VR m x y→us.length=vs.length→(∀i (h1:i<us.length) (h2:i<vs.length),VR m us[i] vs[i])→aT τ P F VR m (us.foldlM f x) (vs.foldlM f y)
 |[],[],m,x,y,h,_,_=>sP h
 |a::us,b::vs,m,x,y,h,hl,hh=>by
  rw[List.foldlM_cons,List.foldlM_cons];exact(hf h (hh 0 (by simp) (by simp))).bind fun n p q hn hp=>yk hf us vs hp (by simpa using hl) fun i h1 h2=>(hh (i+1) (by simpa using h1) (by simpa using h2)).mono hn
 |[],_::_,_,_,_,_,hl,_=>by simp at hl
 |_::_,[],_,_,_,_,hl,_=>by simp at hl
theorem VZ (ts:Array TypeId)(t:TypeId){us vs:Array Value}(h:AR m us vs):aT τ P F VR m (Builtin.max_ ts t us) (Builtin.max_ ts t vs):=by
 unfold Builtin.max_;obtain⟨hl,hh⟩:=h.list
 cases hu:us.toList with
 |nil=>trivial
 |cons a al=>
  cases hv:vs.toList with
  |nil=>rw[hu,hv]at hl;simp at hl
  |cons b bl=>
   simp only[hu,hv]at hl hh;exact yk R_ al bl (hh 0 (by simp) (by simp)) (by simpa using hl) fun i h1 h2=>hh (i+1) (by simpa using h1) (by simpa using h2)
end
end Go.Proofs.YtlhohdjniaebbaaGreat.Sr
namespace Go.Proofs.YtlhohdjniaebbaaGreat.Sr
open Go
section
variable {τ:TypeId}{P:Program}{F:Array Func}{α β γ δ:Type}{m:aD}
def vq (P:Program)(ts:Array TypeId):Bool:=
 (match ts[1]? with
 |some t=>match P.underlying t with|some (.int _)=>false|_=>true
 |none=>true)&&(match ts[0]? with
 |some t=>wy P t
 |none=>true)
theorem Kq {x y:Value}(h:VR m x y):aT τ P F (fun _ a b=>a=b∧∀A l c,x= .slice A l c→a=l) m (Builtin.lenOf x) (Builtin.lenOf y):=by
 cases h<;>first|exact sP ⟨rfl,fun A l c e=>by cases e<;>rfl⟩|trivial
theorem lE (size n:Nat){x y:Value}(h:VR m x y)(hn:∀A l c,x= .slice A l c→n=l):aT τ P F (fun m us vs=>AR m us vs∧(n=0→us= #[]∧vs= #[])) m (Builtin.firstCells size n x) (Builtin.firstCells size n y):=by
 rcases Nat.eq_zero_or_pos n with rfl|hp
 ·cases h with
  |cp l c=>exact sP ⟨AR.nil,fun _=>⟨rfl,rfl⟩⟩
  |slice l c ha=>unfold Builtin.firstCells;rw[Nat.zero_mul];exact sP ⟨AR.nil,fun _=>⟨rfl,rfl⟩⟩
  |dO=>unfold Builtin.firstCells;rw[Nat.zero_mul];exact sP ⟨AR.nil,fun _=>⟨rfl,rfl⟩⟩
  |string s=>
   have e:(s.extract 0 0).data.map (fun b=>Value.int .u8 b.toNat)= #[]:=by simp[ByteArray.extract,ByteArray.copySlice]
   show aT τ P F _ m (Sem.pure ((s.extract 0 0).data.map (fun b=>Value.int .u8 b.toNat))) (Sem.pure ((s.extract 0 0).data.map (fun b=>Value.int .u8 b.toNat)))
   rw[e];exact sP ⟨AR.nil,fun _=>⟨rfl,rfl⟩⟩
  |_=>trivial
 have h':aT τ P F AR m (Builtin.firstCells size n x) (Builtin.firstCells size n y):=by
  cases h with
  |dO=>have:=hn _ _ _ rfl;omega
  |cp l c=>exact sP AR.nil
  |slice l c ha=>exact rD _ ha
  |string s=>
   refine sP ⟨rfl,fun i h1 h2=>?_⟩
   simp only[Array.getElem_map];exact .int _ _
  |_=>trivial
 exact SR.mono h' fun _ _ _ _ h=>⟨h,fun e=>by omega⟩
theorem CV (size l n:Nat){base iz:Option Addr}{x y:Value}{f:Bool→Sem α}{f':Bool→Sem β}{RA:aD→α→β→Prop}
  (hb:base=none→iz=none) (hx:VR m x y) (YO:x≠.nilFunc) (hf:∀b,dM τ (f b)) (ik:∀b,aT τ P F RA m (f b) (f' b)):
  aT τ P F RA m ((Builtin.mayShare size l n base x).bind f) ((Builtin.mayShare size l n iz y).bind f'):=by
 have e:∀there:Bool,dM τ ((if !there then(Sem.pure true:Sem Bool)else(match(generalizing:=false) x with
   | .slice (some b) _ _=>(Builtin.holdsCells b (n*size)).bind fun h=>Sem.pure (!h||base.any (·.block==b.block))
   |_=>Sem.pure false)).bind f):=by
  intro there
  cases there with
  |false=>exact hf _
  |true=>
   cases hx with
   |slice l c ha=>intro z;cases z<;>exact hf _
   |dO=>intro z;cases z<;>exact hf _
   |_=>exact hf _
 cases base with
 |none=>
  cases hb rfl
  cases hx with
  |slice l c ha=>exact .inl fun z=>by cases z<;>exact hf _
  |dO=>exact .inl fun z=>by cases z<;>exact hf _
  |fS=>exact absurd rfl YO
  |_=>exact ik _
 |some a=>
  refine .inl fun z=>?_
  cases z with
  |none=>exact fun b=>by have:=e (false&& !b);exact this
  |some p=>exact fun b=>by have:=e ((a.spot.isNone&&decide (a.off+l*size≤p.2))&& !b);exact this
def CW (m:aD)(a b:Option Addr):Prop:=(a=none∧b=none)∨∃p q,a=some p∧b=some q∧bA m p q
theorem CW.mono {n:aD}(h:aD.le m n){a b:Option Addr}(x:CW m a b):CW n a b:=by
 rcases x with x|⟨p,q,h1,h2,h3⟩
 ·exact .inl x
 ·exact .inr ⟨p,q,h1,h2,h3.mono h⟩
theorem VR.base {x y:Value}(h:VR m x y):(∃b b' l c,x= .slice b l c∧y= .slice b' l c∧(CW m b b'∨(l=0∧c=0∧∃p q,b=some p∧b'=some q)))∨(∀b l c,x≠.slice b l c):=by
 cases h with
 |cp l c=>exact .inl ⟨_,_,_,_,rfl,rfl,.inl (.inl ⟨rfl,rfl⟩)⟩
 |slice l c ha=>exact .inl ⟨_,_,_,_,rfl,rfl,.inl (.inr ⟨_,_,rfl,rfl,ha⟩)⟩
 |dO=>exact .inl ⟨_,_,_,_,rfl,rfl,.inr ⟨rfl,rfl,_,_,rfl,rfl⟩⟩
 |_=>exact .inr (by simp)
theorem Kr (R:dZ τ P)(ts:Array TypeId)(t:TypeId){us vs:Array Value}(h:AR m us vs)(ok:vq P ts=true):aT τ P F VR m (Builtin.append_ ts t us) (Builtin.append_ ts t vs):=by
 unfold Builtin.append_
 cases h0:ts[0]? with
 |none=>trivial
 |some sT=>
  rcases h.get? 0 with⟨h1,h2⟩|⟨s,s',h1,h2,h3⟩
  ·rw[h1];trivial
  ·rcases h.get? 1 with⟨h4,h5⟩|⟨x,x',h4,h5,h6⟩
   ·rw[h1,h4];trivial
   ·rw[h1,h2,h4,h5]
    refine(sU sT).bind fun n1 d d' dz e=>?_;obtain⟨rfl,hd0⟩:=e;unfold vq at ok;rw[Bool.and_eq_true,h0]at ok;have hzE:wy P sT=true:=ok.2
    replace ok:=ok.1
    cases d with
    |slice elem=>
     rcases(h3.mono dz).base with⟨base,iz,l,c,rfl,rfl,hb⟩|Fs
     ·refine(pK elem).bind fun n2 size jL eK e=>?_
      subst e;have Sa:=(h6.mono dz).mono eK;have key:∀{n3:aD},aD.le n2 n3→aT τ P F VR n3
        ((Builtin.lenOf x).bind fun k=>if l+k≤c then(Builtin.firstCells size k x).bind fun new=>(match(generalizing:=false) base with
          |some a=>(storeCells (a.add (l*size)) new.toList).bind fun _=>Sem.pure (Value.slice base (l+k) c)
          |_=>Sem.pure (Value.slice base (l+k) c))
        else(typeInfo elem).bind fun i=>if((l+k:Nat):Int)>IntKind.i64.max∧i.bytes=0 then((runtimePanic (RuntimeError.error "growslice: len out of range"):Sem PUnit).bind fun _=>((typeInfo elem).bind fun i=>if Builtin.nextslicecap (l+k) c*i.bytes>2^48 then((Builtin.mayShare size l k base x).bind fun b=>if(!b)=true then((mark Mark.noRoom).bind fun _=>(unsupported (Unsupported.resourceLimit "append: a slice or a string whose bytes no memory bears"):Sem PUnit))else unsupported (Unsupported.resourceLimit "append: a slice or a string whose bytes no memory bears")).bind fun _=>((choose (Question.appendCap (l+k) c elem)).bind fun bG=>(typeInfo elem).bind fun i=>(askRoom (bG*i.bytes)).bind fun _=>(Builtin.firstCells size l (Value.slice base l c)).bind fun old=>
          (Builtin.firstCells size k x).bind fun new=>(zeroValue elem).bind fun z=>(newRow elem (old++new++Builtin.zeroCells z.cells (bG-(l+k)))).bind fun r=>Sem.pure (Value.slice (some r) (l+k) bG))else((choose (Question.appendCap (l+k) c elem)).bind fun bG=>(typeInfo elem).bind fun i=>(askRoom (bG*i.bytes)).bind fun _=>(Builtin.firstCells size l (Value.slice base l c)).bind fun old=>
          (Builtin.firstCells size k x).bind fun new=>(zeroValue elem).bind fun z=>(newRow elem (old++new++Builtin.zeroCells z.cells (bG-(l+k)))).bind fun r=>Sem.pure (Value.slice (some r) (l+k) bG))))else((typeInfo elem).bind fun i=>if Builtin.nextslicecap (l+k) c*i.bytes>2^48 then((Builtin.mayShare size l k base x).bind fun b=>if(!b)=true then((mark Mark.noRoom).bind fun _=>(unsupported (Unsupported.resourceLimit "append: a slice or a string whose bytes no memory bears"):Sem PUnit))else unsupported (Unsupported.resourceLimit "append: a slice or a string whose bytes no memory bears")).bind fun _=>((choose (Question.appendCap (l+k) c elem)).bind fun bG=>(typeInfo elem).bind fun i=>(askRoom (bG*i.bytes)).bind fun _=>(Builtin.firstCells size l (Value.slice base l c)).bind fun old=>
          (Builtin.firstCells size k x).bind fun new=>(zeroValue elem).bind fun z=>(newRow elem (old++new++Builtin.zeroCells z.cells (bG-(l+k)))).bind fun r=>Sem.pure (Value.slice (some r) (l+k) bG))else((choose (Question.appendCap (l+k) c elem)).bind fun bG=>(typeInfo elem).bind fun i=>(askRoom (bG*i.bytes)).bind fun _=>(Builtin.firstCells size l (Value.slice base l c)).bind fun old=>
          (Builtin.firstCells size k x).bind fun new=>(zeroValue elem).bind fun z=>(newRow elem (old++new++Builtin.zeroCells z.cells (bG-(l+k)))).bind fun r=>Sem.pure (Value.slice (some r) (l+k) bG))))
        ((Builtin.lenOf x').bind fun k=>if l+k≤c then(Builtin.firstCells size k x').bind fun new=>(match(generalizing:=false) iz with
          |some a=>(storeCells (a.add (l*size)) new.toList).bind fun _=>Sem.pure (Value.slice iz (l+k) c)
          |_=>Sem.pure (Value.slice iz (l+k) c))
        else(typeInfo elem).bind fun i=>if((l+k:Nat):Int)>IntKind.i64.max∧i.bytes=0 then((runtimePanic (RuntimeError.error "growslice: len out of range"):Sem PUnit).bind fun _=>((typeInfo elem).bind fun i=>if Builtin.nextslicecap (l+k) c*i.bytes>2^48 then((Builtin.mayShare size l k iz x').bind fun b=>if(!b)=true then((mark Mark.noRoom).bind fun _=>(unsupported (Unsupported.resourceLimit "append: a slice or a string whose bytes no memory bears"):Sem PUnit))else unsupported (Unsupported.resourceLimit "append: a slice or a string whose bytes no memory bears")).bind fun _=>((choose (Question.appendCap (l+k) c elem)).bind fun bG=>(typeInfo elem).bind fun i=>(askRoom (bG*i.bytes)).bind fun _=>(Builtin.firstCells size l (Value.slice iz l c)).bind fun old=>
          (Builtin.firstCells size k x').bind fun new=>(zeroValue elem).bind fun z=>(newRow elem (old++new++Builtin.zeroCells z.cells (bG-(l+k)))).bind fun r=>Sem.pure (Value.slice (some r) (l+k) bG))else((choose (Question.appendCap (l+k) c elem)).bind fun bG=>(typeInfo elem).bind fun i=>(askRoom (bG*i.bytes)).bind fun _=>(Builtin.firstCells size l (Value.slice iz l c)).bind fun old=>
          (Builtin.firstCells size k x').bind fun new=>(zeroValue elem).bind fun z=>(newRow elem (old++new++Builtin.zeroCells z.cells (bG-(l+k)))).bind fun r=>Sem.pure (Value.slice (some r) (l+k) bG))))else((typeInfo elem).bind fun i=>if Builtin.nextslicecap (l+k) c*i.bytes>2^48 then((Builtin.mayShare size l k iz x').bind fun b=>if(!b)=true then((mark Mark.noRoom).bind fun _=>(unsupported (Unsupported.resourceLimit "append: a slice or a string whose bytes no memory bears"):Sem PUnit))else unsupported (Unsupported.resourceLimit "append: a slice or a string whose bytes no memory bears")).bind fun _=>((choose (Question.appendCap (l+k) c elem)).bind fun bG=>(typeInfo elem).bind fun i=>(askRoom (bG*i.bytes)).bind fun _=>(Builtin.firstCells size l (Value.slice iz l c)).bind fun old=>
          (Builtin.firstCells size k x').bind fun new=>(zeroValue elem).bind fun z=>(newRow elem (old++new++Builtin.zeroCells z.cells (bG-(l+k)))).bind fun r=>Sem.pure (Value.slice (some r) (l+k) bG))else((choose (Question.appendCap (l+k) c elem)).bind fun bG=>(typeInfo elem).bind fun i=>(askRoom (bG*i.bytes)).bind fun _=>(Builtin.firstCells size l (Value.slice iz l c)).bind fun old=>
          (Builtin.firstCells size k x').bind fun new=>(zeroValue elem).bind fun z=>(newRow elem (old++new++Builtin.zeroCells z.cells (bG-(l+k)))).bind fun r=>Sem.pure (Value.slice (some r) (l+k) bG)))):=by
       intro n3 jO;by_cases hxu:x= .nilFunc
       ·subst hxu;trivial
       refine(Kq (Sa.mono jO)).bind fun n4 k k' xy e=>?_;obtain⟨e,hkl⟩:=e;subst e;have YP:=(Sa.mono jO).mono xy;have Sb:=hb.imp_left fun h=>((h.mono eK).mono jO).mono xy
       have rest:∀{n5:aD},aD.le n4 n5→aT τ P F VR n5
         ((choose (Question.appendCap (l+k) c elem)).bind fun bG=>(typeInfo elem).bind fun i=>(askRoom (bG*i.bytes)).bind fun _=>(Builtin.firstCells size l (Value.slice base l c)).bind fun old=>
           (Builtin.firstCells size k x).bind fun new=>(zeroValue elem).bind fun z=>(newRow elem (old++new++Builtin.zeroCells z.cells (bG-(l+k)))).bind fun r=>Sem.pure (Value.slice (some r) (l+k) bG))
         ((choose (Question.appendCap (l+k) c elem)).bind fun bG=>(typeInfo elem).bind fun i=>(askRoom (bG*i.bytes)).bind fun _=>(Builtin.firstCells size l (Value.slice iz l c)).bind fun old=>
           (Builtin.firstCells size k x').bind fun new=>(zeroValue elem).bind fun z=>(newRow elem (old++new++Builtin.zeroCells z.cells (bG-(l+k)))).bind fun r=>Sem.pure (Value.slice (some r) (l+k) bG)):=by
        intro n5 ng;refine(oh _).bind fun n6 q q' Ks e=>?_;subst e;refine(d_ elem).bind fun n7 i i' hn7 e=>?_;subst e;refine(wz _).bind fun n8 _ _ hn8 _=>?_;have hle:=aD.le_trans ng (aD.le_trans Ks (aD.le_trans hn7 hn8));have Sc:VR n8 (Value.slice base l c) (Value.slice iz l c):=by
         rcases Sb with(⟨rfl,rfl⟩|⟨p,q,rfl,rfl,ha⟩)|⟨rfl,rfl,p,q,rfl,rfl⟩
         ·exact .cp _ _
         ·exact .slice _ _ (ha.mono hle)
         ·exact .dO
        refine(lE size l Sc fun A l' c' e=>by cases e;rfl).bind fun n9 o o' hn9 ho=>?_
        refine(lE size k ((YP.mono hle).mono hn9) hkl).bind fun n10 w w' aaK hw=>?_;obtain⟨ho, -⟩:=ho;obtain⟨hw, -⟩:=hw;refine(fK elem (pL hzE hd0)).bind fun n11 z z' Ya hz=>?_;exact(lD elem (((ho.mono (aD.le_trans aaK Ya)).append (hw.mono Ya)).append (hz.cells.zeroCells _))).bind fun n12 a b ab6 ha=>sP (.slice _ _ ha)
       have dead:∀{n5:aD},aD.le n4 n5→aT τ P F (fun _ (_ _:PUnit)=>False) n5
         ((Builtin.mayShare size l k base x).bind fun b=>if(!b)=true then((mark Mark.noRoom).bind fun _=>(unsupported (Unsupported.resourceLimit "append: a slice or a string whose bytes no memory bears"):Sem PUnit))else unsupported (Unsupported.resourceLimit "append: a slice or a string whose bytes no memory bears"))
         ((Builtin.mayShare size l k iz x').bind fun b=>if(!b)=true then((mark Mark.noRoom).bind fun _=>(unsupported (Unsupported.resourceLimit "append: a slice or a string whose bytes no memory bears"):Sem PUnit))else unsupported (Unsupported.resourceLimit "append: a slice or a string whose bytes no memory bears")):=by
        intro n5 ng;refine CV size l k (fun e=>?_) (YP.mono ng) hxu (fun b=>?_) (fun b=>?_)
        ·rcases Sb with(⟨_,h⟩|⟨p,q,h,_⟩)|⟨_,_,p,q,h,_⟩
         ·exact h
         ·rw[h]at e;cases e
         ·rw[h]at e;cases e
        ·cases b
         ·exact nofun
         ·exact nofun
        ·cases b
         ·exact⟨_,rfl,nofun⟩
         ·exact nofun
       split
       ·rename_i hq
        refine(lE size k YP hkl).bind fun n5 w w' ng hw=>?_;rcases Sb with(⟨rfl,rfl⟩|⟨p,q,rfl,rfl,ha⟩)|⟨rfl,rfl,p,q,rfl,rfl⟩
        ·exact sP (.cp _ _)
        ·exact(lC _ _ 0 ((ha.mono ng).add _) hw.1.list.1 hw.1.list.2).bind fun n6 _ _ Ks _=>sP (.slice _ _ ((ha.mono ng).mono Ks))
        ·obtain rfl:k=0:=by omega
         obtain⟨rfl,rfl⟩:=hw.2 rfl;exact sP .dO
       ·refine(d_ elem).bind fun n5 i i' ng e=>?_
        subst e;split
        ·exact(lB (α:=PUnit) (β:=PUnit) (RA:=fun _ _ _=>False) R).bind fun _ _ _ _ h=>h.elim
        ·refine(d_ elem).bind fun n6 i i' Ks e=>?_
         subst e;split
         ·exact(dead (aD.le_trans ng Ks)).bind fun _ _ _ _ h=>h.elim
         ·exact rest (aD.le_trans ng Ks)
      cases YQ:ts[1]? with
      |none=>
       simp only[pure_bind,Bool.false_eq_true,if_false,Bool.not_false,if_true,false_or,false_and];exact key (aD.le_refl _)
      |some xT=>
       rw[YQ]at ok;dsimp only at ok
       refine(sU xT).bind fun n3 d d' jO e=>?_;obtain⟨rfl,hd⟩:=e;rw[hd]at ok
       cases d with
       |int k=>cases ok
       |_=>
        simp only[pure_bind,Bool.false_eq_true,if_false,Bool.not_false,if_true,false_or,false_and];exact key jO
     ·cases h3<;>first|trivial|exact absurd rfl (Fs _ _ _)
    |_=>trivial
end
end Go.Proofs.YtlhohdjniaebbaaGreat.Sr
namespace Go.Proofs.YtlhohdjniaebbaaGreat.Sr
open Go
section
variable {τ:TypeId}{P:Program}{F:Array Func}{α β γ δ:Type}{m:aD}
theorem vt {ι σ:Type}{f f':ι→σ→Sem (ForInStep σ)}:∀(xs:List ι) {m:aD},(∀n,aD.le m n→∀x∈xs,∀s,aT τ P F dY n (f x s) (f' x s))→∀s,aT τ P F dY m (forIn xs s f) (forIn xs s f')
 |[],m,_,s=>by rw[List.forIn_nil,List.forIn_nil];exact bL
 |x::xs,m,h,s=>by
  rw[List.forIn_cons,List.forIn_cons];refine(h m (aD.le_refl m) x (by simp) s).bind fun n a b hn e=>?_
  subst e
  cases a with
  |done b=>exact bL
  |yield b=>exact vt xs (fun n2 h2 y hy s=>h n2 (aD.le_trans hn h2) y (by simp[hy]) s) b
def pg (P:Program):Nat→TypeId→Bool
 |0,_=>false
 |d+1,t=>match P.underlying t with
  |some .bool|some (.int _)|some (.float _)|some .string|some (.slice _)|some (.map ..)=>true
  |some (.struct fs)=> !P.stoodInHeld t&&fs.all fun f=>pg P d f.type
  |some (.array _ e)=>pg P d e
  |_=>false
theorem Ft {a b:Addr}(h:bA m a b):aT τ P F (fun m x y=>bA m x.1 y.1∧x.2=y.2) m (behindNumber a) (behindNumber b):=by
 refine SR.bind (RA:=fun m (x y:Option (Addr×Bool))=>(x=none∧y=none)∨∃p q l,x=some (p,l)∧y=some (q,l)∧bA m p q) ?_ fun n x y hn e=>?_
 ·refine .inr ⟨b.block,_,rfl,h.1,fun z=>?_⟩
  cases z with
  |none=>exact⟨b.block,_,rfl,h.1,fun p q l V0=>⟨_,rfl,.inr ⟨p,q,l,rfl,rfl,V0⟩⟩⟩
  |some z=>exact⟨none,rfl,.inl ⟨rfl,rfl⟩⟩
 ·rcases e with⟨rfl,rfl⟩|⟨p,q,l,rfl,rfl,V0⟩
  ·exact sP ⟨h.mono hn,rfl⟩
  ·exact sP ⟨V0,rfl⟩
theorem bA.same {a b c d:Addr}(h:bA m a b)(k:bA m c d)(e:a=c):b=d:=by
 subst e;obtain⟨h1,h2,h3,h4⟩:=h;obtain⟨k1,k2,k3,k4⟩:=k;rw[h1]at k1
 cases b;cases d
 simp only[Option.some.injEq]at k1 h2 h4 k2 k4;simp_all
theorem pO (hG:P.globals.size=0):∀(d k:Nat) (t:TypeId) {m:aD} {x y u v:Value},pg P k t=true→VR m x y→VR m u v→aT τ P F dY m (Op.equalIn d t x u) (Op.equalIn d t y v)
 |0,_,_,_,_,_,_,_,_,_,_=>jN nofun
 |d+1,0,_,_,_,_,_,_,h,_,_=>by cases h
 |d+1,k+1,t,m,x,y,u,v,ok,hx,hu=>by
  unfold Op.equalIn;unfold pg at ok;refine(sU t).bind fun n1 dd d' dz e=>?_;obtain⟨rfl,hd⟩:=e;rw[hd]at ok;replace hx:=hx.mono dz
  replace hu:=hu.mono dz
  cases dd with
  |bool=>cases hx<;>cases hu<;>first|exact bL|trivial
  |int _=>
   cases hx with
   |int k1 a=>
    cases hu with
    |int k2 b=>dsimp only;split<;>first|exact bL|trivial
    |ptr hb=>
     by_cases h0:a=0
     ·subst h0;exact bL
     ·split<;>first
       |exact jN nofun
       |(exfalso;simp_all;done)
    |_=>first|trivial|exact jN nofun
   |ptr ha=>
    cases hu with
    |ptr hb=>
     refine(Ft ha).bind fun n2 p q eK e1=>?_;refine(Ft (hb.mono eK)).bind fun n3 p' q' jO e2=>?_;refine c9 ?_;simp only[hG,Nat.not_lt_zero,decide_false,Bool.and_false,Bool.false_eq_true,if_false];refine(d_ t).bind fun n4 i i' xy e=>?_;subst e;split
     ·split
      ·rename_i fL
       rw[if_pos (by simpa using bA.same (e1.1.mono jO) e2.1 (by simpa using fL))]
       exact bL
      ·exact jN nofun
     ·exact jN nofun
    |int k2 b=>
     by_cases h0:b=0
     ·subst h0;exact bL
     ·split<;>first
       |exact jN nofun
       |(exfalso;simp_all;done)
    |_=>first|trivial|exact jN nofun
   |_=>cases hu<;>first|trivial|exact jN nofun
  |float _=>cases hx<;>cases hu<;>first|trivial|(dsimp only;split<;>first|exact bL|trivial)
  |string=>cases hx<;>cases hu<;>first|exact bL|trivial
  |slice _=>cases hx<;>cases hu<;>first|exact bL|trivial
  |map _ _=>cases hx<;>cases hu<;>first|exact bL|trivial
  |struct fs=>
   cases hx with
   |agg hs hh=>
    cases hu with
    |agg ks kk=>
     dsimp only
     refine c9 ?_;simp only[Bool.and_eq_true,Bool.not_eq_true']at ok;obtain⟨es,ok⟩:=ok;simp only[es];split
     ·exact jN nofun
     ·rw[if_neg (by simp)]
      refine SR.bind (RA:=dY) ?_ fun n2 a b eK e=>by subst e;split<;>exact bL
      rw[←Array.forIn_toList,←Array.forIn_toList];refine vt fs.toList (fun n2 eK f hf s=>?_) _
      have okf:pg P k f.type=true:=by
       have:=Array.all_eq_true_iff_forall_mem.1 ok f (by simpa using hf)
       exact this
      split
      ·refine(pN f.type f.offset (AR.mono eK ⟨hs,hh⟩)).bind fun n3 a b jO fL=>?_
       refine(pN f.type f.offset ((AR.mono eK ⟨ks,kk⟩).mono jO)).bind fun n4 c e xy YR=>?_;refine(pO hG d k f.type okf (fL.mono xy) YR).bind fun n5 p q ng e=>?_;subst e;split<;>exact bL
      ·exact bL
    |_=>trivial
   |_=>cases hu<;>trivial
  |array n e=>
   cases hx with
   |agg hs hh=>
    cases hu with
    |agg ks kk=>
     dsimp only
     refine(pK e).bind fun n2 z z' eK ez=>?_;subst ez;refine SR.bind (RA:=dY) ?_ fun n2 a b eK e=>by subst e;split<;>exact bL
     rw[Std.Legacy.Range.forIn_eq_forIn_range',Std.Legacy.Range.forIn_eq_forIn_range'];refine vt _ (fun n3 jO i hi s=>?_) _
     refine(pN e (i*z) ((AR.mono eK ⟨hs,hh⟩).mono jO)).bind fun n4 a b xy fL=>?_;refine(pN e (i*z) (((AR.mono eK ⟨ks,kk⟩).mono jO).mono xy)).bind fun n5 c e' ng YR=>?_;refine(pO hG d k e ok (fL.mono ng) YR).bind fun n6 p q Ks e=>?_;subst e;split<;>exact bL
    |_=>trivial
   |_=>cases hu<;>trivial
  |_=>cases ok
theorem mG {α β:Type}{RA:aD→α→β→Prop}(t:TypeId)(ok:pg P 8 t=true){x u:Value}(h:x= .nilFunc∨u= .nilFunc){k:Bool→Sem α}{s':Sem β}:aT τ P F RA m ((Op.equal t x u).bind k) s':=by
 show aT τ P F RA m ((Op.equalIn (9999+1) t x u).bind k) s'
 unfold Op.equalIn;unfold pg at ok;unfold underlying;refine .inl ?_;have e:Program.underlying (Program.mk (Program.toTables P) F) t=P.underlying t:=rfl
 show dM τ (((match P.underlying t with|some d=>(Sem.pure d:Sem TypeDesc)|none=>(stuck "no such type":Sem TypeDesc)).bind _).bind k)
 cases hd:P.underlying t with
 |none=>trivial
 |some d=>
  rw[hd]at ok;rcases h with rfl|rfl
  ·cases d<;>first|(cases ok;done)|(cases u<;>first|trivial|(intro g e;cases e;done))
  ·cases d<;>first|(cases ok;done)|(cases x<;>first|trivial|(intro g e;cases e;done)|(dsimp only[Sem.bind,dM];split<;>first|trivial|(intro g e;cases e;done)|(exfalso;simp_all;done)))
end
end Go.Proofs.YtlhohdjniaebbaaGreat.Sr
