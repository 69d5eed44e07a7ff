/-
What is proved: each operation of the supported kinds keeps the relation of Sr. Conditions: those that each theorem states. slicing, append, len, cap, max, comparisons, arithmetic and conversions keep the relation of Sr. Conditions: those that each theorem states. append, comparisons, arithmetic and conversions keep the relation of Sr. Conditions: those that each theorem states. comparisons, arithmetic, conversions keep the relation of Sr. Conditions: those that each theorem states.
-/
import Derived.Test.YtjklkppncmhehaaGreatRa02
set_option linter.unusedVariables false
set_option linter.unusedSimpArgs false
namespace Go.Proofs.YtjklkppncmhehaaGreat.Sr
open Go
section
variable {τ:TypeId}{P:Program}{F:Array Func}{α β γ δ:Type}{m:ao}
theorem Ka (t:TypeId)(hZ:tP P t=true)(o:Value):aR τ P F VR m (Instr.alloc t true o) (Instr.alloc t true o):=by
 unfold Instr.alloc;refine(fY t hZ).bind fun n x y hn hx=>?_;exact(vf t hx).bind fun n2 a b h2 ha=>sP (.ptr ha)
theorem Qd (t:TypeId){x y:Value}(h:VR m x y):aR τ P F VR m (Instr.box t x) (Instr.box t y):=
 (vf t h).bind fun n2 a b h2 ha=>sP (.ptr ha)
inductive g_ (m:ao):List (Nat×Value)→List (Nat×Value)→Prop
 |nil:g_ m [] []
 |cons {i:Nat} {x y:Value} {us vs:List (Nat×Value)} (h:VR m x y) (k:g_ m us vs):g_ m ((i,x)::us) ((i,y)::vs)
theorem g_.mono {n:ao}(h:ao.le m n){us vs:List (Nat×Value)}(x:g_ m us vs):g_ n us vs:=by
 induction x with
 |nil=>exact .nil
 |cons a _ ih=>exact .cons (a.mono h) ih
theorem AR.fold {xs ys us vs:Array Value}(off:Nat)(h:AR m xs ys)(k:AR m us vs):
  AR m (us.zipIdx.foldl (fun cs (c,j)=>cs.setIfInBounds (off+j) c) xs) (vs.zipIdx.foldl (fun cs (c,j)=>cs.setIfInBounds (off+j) c) ys):=by
 have key:∀(l l':List Value) (j:Nat) (xs ys:Array Value),AR m xs ys→l.length=l'.length→(∀i (U:i<l.length) (h2:i<l'.length),VR m l[i] l'[i])→
   AR m ((l.zipIdx j).foldl (fun cs (c,j)=>cs.setIfInBounds (off+j) c) xs) ((l'.zipIdx j).foldl (fun cs (c,j)=>cs.setIfInBounds (off+j) c) ys):=by
  intro l;induction l with
  |nil=>intro l' j xs ys h hl _;cases l' with|nil=>exact h|cons=>simp at hl
  |cons a l ih=>
   intro l' j xs ys h hl hh
   cases l' with
   |nil=>simp at hl
   |cons b l'=>
    simp only[List.zipIdx_cons,List.foldl_cons];exact ih l' (j+1) _ _ (h.set _ (hh 0 (by simp) (by simp))) (by simpa using hl) fun i U h2=>hh (i+1) (by simpa using U) (by simpa using h2)
 have:=key us.toList vs.toList 0 xs ys h k.list.1 k.list.2
 rw[←Array.foldl_toList,←Array.foldl_toList,Array.toList_zipIdx,Array.toList_zipIdx];exact this
theorem sM (place:Nat→Option (Nat×Nat)){xs ys:Array Value}{us vs:List (Nat×Value)}(h:AR m xs ys)(k:g_ m us vs):
  (Instr.fill place xs us=none)∨∃a b,Instr.fill place xs us=some a∧Instr.fill place ys vs=some b∧AR m a b:=by
 induction k generalizing xs ys with
 |nil=>exact .inr ⟨xs,ys,rfl,rfl,h⟩
 | @cons i x y us vs hx _ ih=>
   have hc:=hx.cells;unfold Instr.fill
   cases place i with
   |none=>exact .inl rfl
   |some q=>
    obtain⟨off,size⟩:=q;simp only
    by_cases hb:(x.cells.size≠size||off+x.cells.size>xs.size)=true
    ·rw[if_pos hb];exact .inl rfl
    ·rw[if_neg hb,if_neg (by rw[←hc.1,←h.1];exact hb)]
     exact ih (h.fold off hc)
theorem MZ {ι:Type}{f:ι→Sem α}(xs:Array ι)(h:∀(m:ao) x,aR τ P F dv m (f x) (f x)):aR τ P F dv m (xs.mapM f) (xs.mapM f):=by
 rw[Array.mapM_eq_mapM_toList];refine SR.bind (RA:=dv) ?_ fun n a b _ e=>by subst e;exact bn
 suffices∀(l:List ι) (m:ao),aR τ P F dv m (l.mapM f) (l.mapM f)from this _ m
 intro l;induction l with
 |nil=>intro m;exact bn
 |cons a l ih=>
  intro m;rw[List.mapM_cons];exact(h m a).bind fun n x y _ e=>by
   subst e;exact(ih n).bind fun n2 x y _ e=>by subst e;exact bn
theorem Kb (t:TypeId)(hZ:tP P t=true){us vs:Array (Nat×Value)}(h:g_ m us.toList vs.toList):aR τ P F VR m (Instr.build t us) (Instr.build t vs):=by
 unfold Instr.build;refine(fY t hZ).bind fun n x y hn hx=>?_;refine(sU t).bind fun n2 d d' h2 e=>?_;obtain⟨rfl,_⟩:=e;have hc:=(hx.mono h2).cells;have hp:=(h.mono hn).mono h2
 cases d with
 |struct fields=>
  refine SR.bind (RA:=dv) (MZ fields fun m f=>(pB _).bind fun _ a b _ e=>by subst e;exact bn) fun n3 a b h3 e=>?_
  subst e;rcases sM (a[·]?) (hc.mono h3) (hp.mono h3)with e1|⟨p,q,e1,e2,e3⟩
  ·simp only[e1];trivial
  ·simp only[e1,e2];exact sP (.agg e3.1 e3.2)
 |array len elem=>
  refine(pB _).bind fun n3 a b h3 e=>?_;subst e;rcases sM (fun i=>some (i*a,a)) (hc.mono h3) (hp.mono h3)with e1|⟨p,q,e1,e2,e3⟩
  ·simp only[e1];trivial
  ·simp only[e1,e2];exact sP (.agg e3.1 e3.2)
 |_=>trivial
theorem AR.rep {us vs:Array Value}(h:AR m us vs)(n:Nat):AR m ((Array.range n).map (us[· % us.size]!)) ((Array.range n).map (vs[· % vs.size]!)):=by
 rw[←h.1];refine AR.map _ fun i _=>?_;rw[getElem!_def,getElem!_def];rcases h.get? (i % us.size)with⟨U,h2⟩|⟨x,y,U,h2,h3⟩
 ·rw[U,h2];exact .bool false
 ·rw[U,h2];exact h3
theorem AR.zeroCells {us vs:Array Value}(h:AR m us vs)(n:Nat):AR m (Builtin.zeroCells us n) (Builtin.zeroCells vs n):=by
 unfold Builtin.zeroCells;have:=h.rep (n*us.size)
 rw[←h.1];rw[←h.1]at this;exact this
theorem vh (t:TypeId)(hZ:tR P t=true)(len:Nat){us vs:Array (Nat×Value)}(h:g_ m us.toList vs.toList):aR τ P F VR m (Instr.buildSlice t len us) (Instr.buildSlice t len vs):=by
 unfold Instr.buildSlice;refine(sU t).bind fun n2 d d' h2 e=>?_;obtain⟨rfl,hd⟩:=e
 cases d with
 |slice elem=>
  refine(pB _).bind fun n3 a b h3 e=>?_;subst e;dsimp only
  split
  ·exact jy nofun
  ·have key:∀{n4:ao} (h4:ao.le n3 n4) {zs ws:Array Value} (hz:AR n4 zs ws),aR τ P F VR n4
     (match Instr.fill (fun i=>some (i*a,a)) (Array.map (fun x=>zs[x % zs.size]!) (Array.range (len*a))) us.toList with
      |some cells=>(newRow elem cells).bind fun x=>Sem.pure (Value.slice (some x) len len)
      |x=>stuck "buildSlice: a part of the wrong size")
     (match Instr.fill (fun i=>some (i*a,a)) (Array.map (fun x=>ws[x % ws.size]!) (Array.range (len*a))) vs.toList with
      |some cells=>(newRow elem cells).bind fun x=>Sem.pure (Value.slice (some x) len len)
      |x=>stuck "buildSlice: a part of the wrong size"):=by
    intro n4 h4 zs ws hz;rcases sM (fun i=>some (i*a,a)) (hz.rep (len*a)) (((h.mono h2).mono h3).mono h4)with e1|⟨p,q,e1,e2,e3⟩
    ·simp only[e1];trivial
    ·simp only[e1,e2]
     exact(kz elem e3).bind fun n5 a b h5 ha=>sP (.slice len len ha)
   split
   ·exact key (ao.le_refl _) AR.nil
   ·exact(fY _ (od hZ hd)).bind fun n x y hn hx=>key hn hx.cells
 |_=>trivial
theorem GU (t:TypeId){x y:Value}(h:VR m x y):aR τ P F VR m (Instr.loadAt t x) (Instr.loadAt t y):=(gZ h).bind fun _ a b _ ha=>tS t ha
theorem Co (t:TypeId){x y u v:Value}(h:VR m x y)(k:VR m u v):aR τ P F dv m (Instr.storeAt t x u) (Instr.storeAt t y v):=(gZ h).bind fun _ a b hn ha=>zM t ha (k.mono hn)
def vi (P:Program)(s:TypeId)(f:Nat):Bool:=
 match P.underlying s with
 |some (.struct fields)=>match fields[f]? with
  |some g=>match P.info? g.type with
   |some i=>i.size !=0
   |none=>false
  |none=>false
 |_=>false
theorem vj {a b:Addr}(h:bc m a b){f:Field}(hf:∃i,P.info? f.type=some i∧i.size≠0):aR τ P F bc m (fieldPlace a f) (fieldPlace b f):=by
 unfold fieldPlace sizeOf typeInfo;obtain⟨i,hi,hs⟩:=hf;refine SR.bind (RA:=fun _ a b=>a=b∧a≠0) ?_ fun n p q hn e=>?_
 ·refine SR.bind (RA:=fun _ a b=>a=b∧a=i) ?_ fun n p q hn e=>?_
  ·refine c_ ?_
   show aR τ P F _ m (match P.info? f.type with|some i=>pure i|none=>stuck "no such type") _
   simp only[hi];exact⟨i,rfl,rfl,rfl⟩
  ·obtain⟨rfl,rfl⟩:=e
   exact sP ⟨rfl,hs⟩
 ·obtain⟨rfl,hp⟩:=e
  rw[if_neg hp,if_neg hp];exact sP ((h.mono hn).add _)
theorem Cp (s:TypeId){x y:Value}(f:Nat)(h:VR m x y)(ok:vi P s f=true):aR τ P F VR m (Instr.fieldAt s x f) (Instr.fieldAt s y f):=by
 unfold Instr.fieldAt;unfold vi at ok;refine(sU s).bind fun n2 d d' h2 e=>?_;obtain⟨rfl,hd⟩:=e;rw[hd]at ok
 cases d with
 |struct fields=>
  dsimp only at ok⊢
  cases hf:fields[f]? with
  |none=>rw[hf]at ok;cases ok
  |some g=>
   rw[hf]at ok;dsimp only at ok⊢
   refine(gZ (h.mono h2)).bind fun n3 a b h3 ha=>?_;refine SR.bind (vj ha (f:=g) ?_) fun n4 a b h4 hb=>sP (.ptr hb)
   cases hi:P.info? g.type with
   |none=>rw[hi]at ok;cases ok
   |some i=>rw[hi]at ok;exact⟨i,rfl,by simpa using ok⟩
 |_=>cases ok
theorem Cq (R:fo τ P)(t:TypeId){x y u v:Value}(h:VR m x y)(k:VR m u v):aR τ P F VR m (Instr.indexAt t x u) (Instr.indexAt t y v):=by
 unfold Instr.indexAt;refine(lp k).bind fun n p q hn e=>?_;subst e;obtain⟨kd,i⟩:=p;refine(sU t).bind fun n2 d d' h2 e=>?_;obtain⟨rfl,_⟩:=e;have h':=(h.mono hn).mono h2
 cases d with
 |array len elem=>
  refine(gZ h').bind fun n3 a b h3 ha=>?_;simp only[pure_bind];refine(sU t).bind fun n4 d d' h4 e=>?_;obtain⟨rfl,_⟩:=e;try dsimp only
  split
  ·exact(pB _).bind fun n5 p q h5 e=>by subst e;exact sP (.ptr (((ha.mono h4).mono h5).add _))
  ·repeat' split
   all_goals first|exact jy nofun|exact dy R
 |slice elem=>
  cases h' with
  |b9 l c=>
   simp only[pure_bind];refine(sU t).bind fun n4 d d' h4 e=>?_;obtain⟨rfl,_⟩:=e;exact dy R
  |slice l c ha=>
   simp only[pure_bind];refine(sU t).bind fun n4 d d' h4 e=>?_;obtain⟨rfl,_⟩:=e;try dsimp only
   split
   ·exact(pB _).bind fun n5 p q h5 e=>by subst e;exact sP (.ptr (((ha.mono h4).mono h5).add _))
   ·repeat' split
    all_goals first|exact jy nofun|exact dy R
  |_=>trivial
 |_=>trivial
theorem Kc (R:fo τ P)(t:TypeId){x y u v:Value}(h:VR m x y)(k:VR m u v):aR τ P F VR m (Instr.index t x u) (Instr.index t y v):=by
 unfold Instr.index;refine(lp k).bind fun n p q hn e=>?_;subst e;obtain⟨kd,i⟩:=p;refine(sU t).bind fun n2 d d' h2 e=>?_;obtain⟨rfl,_⟩:=e;have h':=(h.mono hn).mono h2
 cases d with
 |array len elem=>
  cases h' with
  |agg hs hh=>
   dsimp only
   split
   ·exact(pB _).bind fun n3 a b h3 e=>by subst e;exact oe elem _ (AR.mono h3 ⟨hs,hh⟩)
   ·exact dy R
  |_=>trivial
 |string=>
  cases h' with
  |string s=>
   dsimp only
   split
   ·exact sP (.int _ _)
   ·exact dy R
  |_=>trivial
 |_=>trivial
theorem Cr {x y:Value}(i:Nat)(h:VR m x y):aR τ P F VR m (Instr.extract x i) (Instr.extract y i):=by
 unfold Instr.extract
 cases h with
 |tuple hs hh=>
  dsimp only
  rcases(show AR m _ _ from⟨hs,hh⟩).get? i with⟨U,h2⟩|⟨x,y,U,h2,h3⟩
  ·rw[U];trivial
  ·rw[U,h2];exact sP h3
 |_=>trivial
theorem zN (f:Fn)(hf:m.fn f){us vs xs ys:Array Value}(h:AR m us vs)(k:AR m xs ys):aR τ P F VR m (Instr.makeFunc f us xs) (Instr.makeFunc f vs ys):=
 sP (.func f hf h.1 h.2 k.1 k.2)
theorem tT (n:Nat):aR τ P F dv m (askRoom n) (askRoom n):=by
 unfold askRoom;split
 ·exact⟨_,rfl,bn⟩
 ·exact bn
theorem xX (R:fo τ P)(t:TypeId)(hZ:tR P t=true){x y u v:Value}(h:VR m x y)(k:VR m u v):aR τ P F VR m (Instr.makeSlice t x u) (Instr.makeSlice t y v):=by
 unfold Instr.makeSlice;refine(sU t).bind fun n1 d d' U e=>?_;obtain⟨rfl,hd⟩:=e
 cases d with
 |slice elem=>
  refine(pc (h.mono U)).bind fun n2 a a' h2 e=>?_;subst e;refine(pc ((k.mono U).mono h2)).bind fun n3 b b' h3 e=>?_;subst e;refine(dT elem).bind fun n4 c c' h4 e=>?_;subst e;dsimp only
  have key:∀{n5:ao},aR τ P F VR n5
    ((askRoom ((IntKind.i64.wrap b).toNat*c.bytes)).bind fun _=>(sizeOf elem).bind fun s=>
      if(IntKind.i64.wrap b).toNat*s=0 then(newRow elem ((Array.range ((IntKind.i64.wrap b).toNat*s)).map ((#[]:Array Value)[· %(#[]:Array Value).size]!))).bind fun r=>Sem.pure (Value.slice (some r) (IntKind.i64.wrap a).toNat (IntKind.i64.wrap b).toNat)
      else(zeroValue elem).bind fun z=>(newRow elem ((Array.range ((IntKind.i64.wrap b).toNat*s)).map (z.cells[· % z.cells.size]!))).bind fun r=>Sem.pure (Value.slice (some r) (IntKind.i64.wrap a).toNat (IntKind.i64.wrap b).toNat))
    ((askRoom ((IntKind.i64.wrap b).toNat*c.bytes)).bind fun _=>(sizeOf elem).bind fun s=>
      if(IntKind.i64.wrap b).toNat*s=0 then(newRow elem ((Array.range ((IntKind.i64.wrap b).toNat*s)).map ((#[]:Array Value)[· %(#[]:Array Value).size]!))).bind fun r=>Sem.pure (Value.slice (some r) (IntKind.i64.wrap a).toNat (IntKind.i64.wrap b).toNat)
      else(zeroValue elem).bind fun z=>(newRow elem ((Array.range ((IntKind.i64.wrap b).toNat*s)).map (z.cells[· % z.cells.size]!))).bind fun r=>Sem.pure (Value.slice (some r) (IntKind.i64.wrap a).toNat (IntKind.i64.wrap b).toNat)):=by
   intro n5;refine(tT _).bind fun n6 _ _ h6 _=>?_;refine(pB elem).bind fun n7 s s' h7 e=>?_;subst e;split
   ·exact(kz elem (AR.nil.rep _)).bind fun n5 a b h5 ha=>sP (.slice _ _ ha)
   ·exact(fY _ (od hZ hd)).bind fun n x y hn hx=>(kz elem (hx.cells.rep _)).bind fun n5 a b h5 ha=>sP (.slice _ _ ha)
  split
  ·split
   ·exact(kq (α:=PUnit) (β:=PUnit) (RA:=dv) R).bind fun n _ _ _ _=>key
   ·split
    ·exact(kq (α:=PUnit) (β:=PUnit) (RA:=dv) R).bind fun n _ _ _ _=>key
    ·refine SR.bind (qv _) fun n a b _ e=>?_
     subst e;exact(kq (α:=PUnit) (β:=PUnit) (RA:=dv) R).bind fun n _ _ _ _=>key
  ·exact key
 |_=>trivial
end
end Go.Proofs.YtjklkppncmhehaaGreat.Sr
namespace Go.Proofs.YtjklkppncmhehaaGreat.Sr
open Go
section
variable {τ:TypeId}{P:Program}{F:Array Func}{α β γ δ:Type}{m:ao}
inductive kA (m:ao):Option Value→Option Value→Prop
 |none:kA m none none
 |some {x y:Value} (h:VR m x y):kA m (some x) (some y)
theorem kA.mono {n:ao}(h:ao.le m n){a b:Option Value}(x:kA m a b):kA n a b:=by
 cases x with
 |none=>exact .none
 |some k=>exact .some (k.mono h)
theorem dI (R:fo τ P){x y:Value}(h:VR m x y)(k:Nat)(c:BoundsCode):aR τ P F dv m (Instr.sliceBound x k c) (Instr.sliceBound y k c):=by
 unfold Instr.sliceBound;refine(lp h).bind fun n p q hn e=>?_;subst e;dsimp only
 split
 ·exact bn
 ·exact dy R
theorem eD (R:fo τ P)(b:Bool)(l c:Nat){lo zO hi eE mx Cs:Option Value}(U:kA m lo zO)(h2:kA m hi eE)(h3:kA m mx Cs):
  aR τ P F dv m (Instr.sliceBounds b l c lo hi mx) (Instr.sliceBounds b l c zO eE Cs):=by
 unfold Instr.sliceBounds
 cases h3 with
 |none=>
  cases h2 with
  |none=>
   simp only[pure_bind]
   cases U with
   |none=>exact bn
   |some hl=>exact(dI R hl _ _).bind fun n a b hn e=>by subst e;exact bn
  |some hv=>
   simp only[pure_bind];refine(dI R hv _ _).bind fun n a b hn e=>?_;subst e
   cases U with
   |none=>exact bn
   |some hl=>exact(dI R (hl.mono hn) _ _).bind fun n a b hn e=>by subst e;exact bn
 |some hm=>
  refine(dI R hm _ _).bind fun n a b hn e=>?_;subst e
  cases h2 with
  |none=>trivial
  |some hv=>
   simp only[pure_bind];refine(dI R (hv.mono hn) _ _).bind fun n2 a b eO e=>?_;subst e
   cases U with
   |none=>exact bn
   |some hl=>exact(dI R ((hl.mono hn).mono eO) _ _).bind fun n a b hn e=>by subst e;exact bn
theorem Kd (R:fo τ P)(t:TypeId){x y:Value}(h:VR m x y){lo zO hi eE mx Cs:Option Value}(U:kA m lo zO)(h2:kA m hi eE)(h3:kA m mx Cs):
  aR τ P F VR m (Instr.slice t x lo hi mx) (Instr.slice t y zO eE Cs):=by
 unfold Instr.slice;refine(sU t).bind fun n1 d d' dn e=>?_;obtain⟨rfl,_⟩:=e;have h':=h.mono dn
 cases d with
 |string=>
  cases h' with
  |string s=>
   have key:aR τ P F VR n1 ((Instr.sliceBounds false s.size s.size lo hi none).bind fun p=>Sem.pure (Value.string (s.extract p.1 p.2.1)))
     ((Instr.sliceBounds false s.size s.size zO eE none).bind fun p=>Sem.pure (Value.string (s.extract p.1 p.2.1))):=
    (eD R _ _ _ (U.mono dn) (h2.mono dn) .none).bind fun n2 a b h2 e=>by subst e;exact sP (.string _)
   cases h3 with
   |none=>exact key
   |some _=>trivial
  |_=>trivial
 |slice elem=>
  cases h' with
  |b9 l c=>
   refine(eD R _ _ _ (U.mono dn) (h2.mono dn) (h3.mono dn)).bind fun n2 a b eO e=>?_;subst e;refine(pB elem).bind fun n3 s s' jz e=>?_;subst e;try dsimp only
   split<;>exact sP (.b9 _ _)
  |slice l c ha=>
   refine(eD R _ _ _ (U.mono dn) (h2.mono dn) (h3.mono dn)).bind fun n2 a b eO e=>?_;subst e;refine(pB elem).bind fun n3 s s' jz e=>?_;subst e;try dsimp only
   split
   ·exact sP (.slice _ _ ((ha.mono eO).mono jz))
   ·exact sP (.slice _ _ (((ha.mono eO).mono jz).add _))
  |_=>trivial
 |pointer arr=>
  refine(vg R h').bind fun n2 a b eO ha=>?_;refine(sU arr).bind fun n3 d d' jz e=>?_;obtain⟨rfl,_⟩:=e
  cases d with
  |array n elem=>
   refine(eD R _ _ _ (((U.mono dn).mono eO).mono jz) (((h2.mono dn).mono eO).mono jz) (((h3.mono dn).mono eO).mono jz)).bind fun n4 p q uD e=>?_;subst e;refine(pB elem).bind fun n5 s s' lS e=>?_;subst e;try dsimp only
   have hb:=((ha.mono jz).mono uD).mono lS;split
   ·exact sP (.slice _ _ hb)
   ·exact sP (.slice _ _ (hb.add _))
  |_=>trivial
 |_=>trivial
theorem Ct (R:fo τ P)(t:TypeId){x y:Value}(h:VR m x y){lo zO hi eE mx Cs:Option Value}(U:kA m lo zO)(h2:kA m hi eE)(h3:kA m mx Cs):
  aR τ P F VR m (Instr.sliceAt t x lo hi mx) (Instr.sliceAt t y zO eE Cs):=by
 unfold Instr.sliceAt;refine(sU t).bind fun n1 d d' dn e=>?_;obtain⟨rfl,_⟩:=e
 cases d with
 |array n elem=>
  refine(gZ (h.mono dn)).bind fun n2 a b eO ha=>?_;refine(eD R _ _ _ ((U.mono dn).mono eO) ((h2.mono dn).mono eO) ((h3.mono dn).mono eO)).bind fun n4 p q uD e=>?_;subst e;refine(pB elem).bind fun n5 s s' lS e=>?_;subst e;try dsimp only
  have hb:=(ha.mono uD).mono lS;split
  ·exact sP (.slice _ _ hb)
  ·exact sP (.slice _ _ (hb.add _))
 |_=>exact Kd R t (h.mono dn) (U.mono dn) (h2.mono dn) (h3.mono dn)
theorem Qe (ts:Array TypeId)(t:TypeId){us vs:Array Value}(h:AR m us vs):aR τ P F VR m (Builtin.len_ ts t us) (Builtin.len_ ts t vs):=by
 unfold Builtin.len_
 cases ts[0]? with
 |none=>trivial
 |some t0=>
  rcases h.get? 0 with⟨U,h2⟩|⟨x,y,U,h2,h3⟩
  ·rw[U];trivial
  ·rw[U,h2]
   refine(sU t0).bind fun n1 d d' dn e=>?_;obtain⟨rfl,_⟩:=e;have h':=h3.mono dn
   cases d with
   |array n elem=>cases h'<;>exact sP (.int _ _)
   |pointer arr=>
    have key:aR τ P F VR n1 ((underlying arr).bind fun d=>match d with| .array n _=>Sem.pure (goInt n)|_=>stuck "len: pointer to array expected")
      ((underlying arr).bind fun d=>match d with| .array n _=>Sem.pure (goInt n)|_=>stuck "len: pointer to array expected"):=by
     refine(sU arr).bind fun n3 d d' jz e=>?_;obtain⟨rfl,_⟩:=e
     cases d<;>first|exact sP (.int _ _)|trivial
    cases h'<;>exact key
   |string=>cases h'<;>first|exact sP (.int _ _)|trivial
   |slice e=>cases h'<;>first|exact sP (.int _ _)|trivial
   |map a b=>cases h'<;>first|exact sP (.int _ _)|trivial
   |_=>cases h'<;>trivial
theorem Qf (ts:Array TypeId)(t:TypeId){us vs:Array Value}(h:AR m us vs):aR τ P F VR m (Builtin.cap_ ts t us) (Builtin.cap_ ts t vs):=by
 unfold Builtin.cap_
 cases ts[0]? with
 |none=>trivial
 |some t0=>
  rcases h.get? 0 with⟨U,h2⟩|⟨x,y,U,h2,h3⟩
  ·rw[U];trivial
  ·rw[U,h2]
   refine(sU t0).bind fun n1 d d' dn e=>?_;obtain⟨rfl,_⟩:=e;have h':=h3.mono dn
   cases d with
   |array n elem=>cases h'<;>exact sP (.int _ _)
   |pointer arr=>
    have key:aR τ P F VR n1 ((underlying arr).bind fun d=>match d with| .array n _=>Sem.pure (goInt n)|_=>stuck "cap: pointer to array expected")
      ((underlying arr).bind fun d=>match d with| .array n _=>Sem.pure (goInt n)|_=>stuck "cap: pointer to array expected"):=by
     refine(sU arr).bind fun n3 d d' jz e=>?_;obtain⟨rfl,_⟩:=e
     cases d<;>first|exact sP (.int _ _)|trivial
    cases h'<;>exact key
   |slice e=>cases h'<;>first|exact sP (.int _ _)|trivial
   |_=>cases h'<;>trivial
theorem M0 {x y u v:Value}(h:VR m x y)(k:VR m u v):aR τ P F VR m (Builtin.max2 x u) (Builtin.max2 y v):=by
 cases h with
 |int k1 a=>cases k<;>first|exact sP (.int _ _)|trivial|exact jy nofun
 |string s=>
  cases k with
  |string s2=>exact sP (.string _)
  |_=>first|trivial|exact jy nofun
 |_=>cases k<;>first|trivial|exact jy nofun
theorem vk {f:Value→Value→Sem Value}(hf:∀{m:ao} {x y u v:Value},VR m x y→VR m u v→aR τ P F VR m (f x u) (f y v)):
  ∀(us vs:List Value) {m:ao} {x y:Value},VR m x y→us.length=vs.length→(∀i (U:i<us.length) (h2:i<vs.length),VR m us[i] vs[i])→aR τ P F VR m (us.foldlM f x) (vs.foldlM f y)
 |[],[],m,x,y,h,_,_=>sP h
 |a::us,b::vs,m,x,y,h,hl,hh=>by
  rw[List.foldlM_cons,List.foldlM_cons];exact(hf h (hh 0 (by simp) (by simp))).bind fun n p q hn hp=>vk hf us vs hp (by simpa using hl) fun i U h2=>(hh (i+1) (by simpa using U) (by simpa using h2)).mono hn
 |[],_::_,_,_,_,_,hl,_=>by simp at hl
 |_::_,[],_,_,_,_,hl,_=>by simp at hl
theorem Qg (ts:Array TypeId)(t:TypeId){us vs:Array Value}(h:AR m us vs):aR τ P F VR m (Builtin.max_ ts t us) (Builtin.max_ ts t vs):=by
 unfold Builtin.max_;obtain⟨hl,hh⟩:=h.list
 cases hu:us.toList with
 |nil=>trivial
 |cons a al=>
  cases hv:vs.toList with
  |nil=>rw[hu,hv]at hl;simp at hl
  |cons b bl=>
   simp only[hu,hv]at hl hh;exact vk M0 al bl (hh 0 (by simp) (by simp)) (by simpa using hl) fun i U h2=>hh (i+1) (by simpa using U) (by simpa using h2)
end
end Go.Proofs.YtjklkppncmhehaaGreat.Sr
namespace Go.Proofs.YtjklkppncmhehaaGreat.Sr
open Go
section
variable {τ:TypeId}{P:Program}{F:Array Func}{α β γ δ:Type}{m:ao}
def sN (P:Program)(ts:Array TypeId):Bool:=
 (match ts[1]? with
 |some t=>match P.underlying t with|some (.int _)=>false|_=>true
 |none=>true)&&(match ts[0]? with
 |some t=>tR P t
 |none=>true)
theorem Ke {x y:Value}(h:VR m x y):aR τ P F dv m (Builtin.lenOf x) (Builtin.lenOf y):=by
 cases h<;>first|exact bn|trivial
theorem kB (size n:Nat){x y:Value}(h:VR m x y):aR τ P F AR m (Builtin.firstCells size n x) (Builtin.firstCells size n y):=by
 cases h with
 |b9 l c=>exact sP AR.nil
 |slice l c ha=>exact pO _ ha
 |string s=>
  refine sP ⟨rfl,fun i U h2=>?_⟩
  simp only[Array.getElem_map];exact .int _ _
 |_=>trivial
theorem zP (size l n:Nat){base gp:Option Addr}{x y:Value}{f:Bool→Sem α}{f':Bool→Sem β}{RA:ao→α→β→Prop}
  (hb:base=none→gp=none) (hx:VR m x y) (SN:x≠.nilFunc) (hf:∀b,dm τ (f b)) (SO:∀b,aR τ P F RA m (f b) (f' b)):
  aR τ P F RA m ((Builtin.mayShare size l n base x).bind f) ((Builtin.mayShare size l n gp y).bind f'):=by
 have e:∀there:Bool,dm τ ((if !there then(Sem.pure true:Sem Bool)else(match(generalizing:=false) x with
   | .slice (some b) _ _=>(Builtin.holdsCells b (n*size)).bind fun h=>Sem.pure (!h||base.any (·.block==b.block))
   |_=>Sem.pure false)).bind f):=by
  intro there
  cases there with
  |false=>exact hf _
  |true=>
   cases hx with
   |slice l c ha=>intro z;cases z<;>exact hf _
   |_=>exact hf _
 cases base with
 |none=>
  cases hb rfl
  cases hx with
  |slice l c ha=>exact .inl fun z=>by cases z<;>exact hf _
  |eU=>exact absurd rfl SN
  |_=>exact SO _
 |some a=>
  refine .inl fun z=>?_
  cases z with
  |none=>exact fun b=>by have:=e (false&& !b);exact this
  |some p=>exact fun b=>by have:=e ((a.spot.isNone&&decide (a.off+l*size≤p.2))&& !b);exact this
def zQ (m:ao)(a b:Option Addr):Prop:=(a=none∧b=none)∨∃p q,a=some p∧b=some q∧bc m p q
theorem zQ.mono {n:ao}(h:ao.le m n){a b:Option Addr}(x:zQ m a b):zQ n a b:=by
 rcases x with x|⟨p,q,U,h2,h3⟩
 ·exact .inl x
 ·exact .inr ⟨p,q,U,h2,h3.mono h⟩
theorem VR.base {x y:Value}(h:VR m x y):(∃b b' l c,x= .slice b l c∧y= .slice b' l c∧zQ m b b')∨(∀b l c,x≠.slice b l c):=by
 cases h with
 |b9 l c=>exact .inl ⟨_,_,_,_,rfl,rfl,.inl ⟨rfl,rfl⟩⟩
 |slice l c ha=>exact .inl ⟨_,_,_,_,rfl,rfl,.inr ⟨_,_,rfl,rfl,ha⟩⟩
 |_=>exact .inr (by simp)
theorem GW (R:fo τ P)(ts:Array TypeId)(t:TypeId){us vs:Array Value}(h:AR m us vs)(ok:sN P ts=true):aR τ P F VR m (Builtin.append_ ts t us) (Builtin.append_ ts t vs):=by
 unfold Builtin.append_
 cases h0:ts[0]? with
 |none=>trivial
 |some sT=>
  rcases h.get? 0 with⟨U,h2⟩|⟨s,s',U,h2,h3⟩
  ·rw[U];trivial
  ·rcases h.get? 1 with⟨h4,h5⟩|⟨x,x',h4,h5,h6⟩
   ·rw[U,h4];trivial
   ·rw[U,h2,h4,h5]
    refine(sU sT).bind fun n1 d d' dn e=>?_;obtain⟨rfl,X4⟩:=e;unfold sN at ok;rw[Bool.and_eq_true,h0]at ok;have X5:tR P sT=true:=ok.2
    replace ok:=ok.1
    cases d with
    |slice elem=>
     rcases(h3.mono dn).base with⟨base,gp,l,c,rfl,rfl,hb⟩|Cu
     ·refine(pB elem).bind fun n2 size iF eO e=>?_
      subst e;have U6:=(h6.mono dn).mono eO;have key:∀{n3:ao},ao.le n2 n3→aR τ P F VR n3
        ((Builtin.lenOf x).bind fun k=>if l+k≤c then(Builtin.firstCells size k x).bind fun new=>(match(generalizing:=false) base with
          |some a=>(storeCells (a.add (l*size)) new.toList).bind fun _=>Sem.pure (Value.slice base (l+k) c)
          |_=>Sem.pure (Value.slice base (l+k) c))
        else(typeInfo elem).bind fun i=>if((l+k:Nat):Int)>IntKind.i64.max∧i.bytes=0 then((runtimePanic (RuntimeError.error "growslice: len out of range"):Sem PUnit).bind fun _=>((typeInfo elem).bind fun i=>if Builtin.nextslicecap (l+k) c*i.bytes>2^48 then((Builtin.mayShare size l k base x).bind fun b=>if(!b)=true then((mark Mark.noRoom).bind fun _=>(unsupported (Unsupported.resourceLimit "append: a slice or a string whose bytes no memory bears"):Sem PUnit))else unsupported (Unsupported.resourceLimit "append: a slice or a string whose bytes no memory bears")).bind fun _=>((choose (Question.appendCap (l+k) c elem)).bind fun bh=>(typeInfo elem).bind fun i=>(askRoom (bh*i.bytes)).bind fun _=>(Builtin.firstCells size l (Value.slice base l c)).bind fun old=>
          (Builtin.firstCells size k x).bind fun new=>(zeroValue elem).bind fun z=>(newRow elem (old++new++Builtin.zeroCells z.cells (bh-(l+k)))).bind fun r=>Sem.pure (Value.slice (some r) (l+k) bh))else((choose (Question.appendCap (l+k) c elem)).bind fun bh=>(typeInfo elem).bind fun i=>(askRoom (bh*i.bytes)).bind fun _=>(Builtin.firstCells size l (Value.slice base l c)).bind fun old=>
          (Builtin.firstCells size k x).bind fun new=>(zeroValue elem).bind fun z=>(newRow elem (old++new++Builtin.zeroCells z.cells (bh-(l+k)))).bind fun r=>Sem.pure (Value.slice (some r) (l+k) bh))))else((typeInfo elem).bind fun i=>if Builtin.nextslicecap (l+k) c*i.bytes>2^48 then((Builtin.mayShare size l k base x).bind fun b=>if(!b)=true then((mark Mark.noRoom).bind fun _=>(unsupported (Unsupported.resourceLimit "append: a slice or a string whose bytes no memory bears"):Sem PUnit))else unsupported (Unsupported.resourceLimit "append: a slice or a string whose bytes no memory bears")).bind fun _=>((choose (Question.appendCap (l+k) c elem)).bind fun bh=>(typeInfo elem).bind fun i=>(askRoom (bh*i.bytes)).bind fun _=>(Builtin.firstCells size l (Value.slice base l c)).bind fun old=>
          (Builtin.firstCells size k x).bind fun new=>(zeroValue elem).bind fun z=>(newRow elem (old++new++Builtin.zeroCells z.cells (bh-(l+k)))).bind fun r=>Sem.pure (Value.slice (some r) (l+k) bh))else((choose (Question.appendCap (l+k) c elem)).bind fun bh=>(typeInfo elem).bind fun i=>(askRoom (bh*i.bytes)).bind fun _=>(Builtin.firstCells size l (Value.slice base l c)).bind fun old=>
          (Builtin.firstCells size k x).bind fun new=>(zeroValue elem).bind fun z=>(newRow elem (old++new++Builtin.zeroCells z.cells (bh-(l+k)))).bind fun r=>Sem.pure (Value.slice (some r) (l+k) bh))))
        ((Builtin.lenOf x').bind fun k=>if l+k≤c then(Builtin.firstCells size k x').bind fun new=>(match(generalizing:=false) gp with
          |some a=>(storeCells (a.add (l*size)) new.toList).bind fun _=>Sem.pure (Value.slice gp (l+k) c)
          |_=>Sem.pure (Value.slice gp (l+k) c))
        else(typeInfo elem).bind fun i=>if((l+k:Nat):Int)>IntKind.i64.max∧i.bytes=0 then((runtimePanic (RuntimeError.error "growslice: len out of range"):Sem PUnit).bind fun _=>((typeInfo elem).bind fun i=>if Builtin.nextslicecap (l+k) c*i.bytes>2^48 then((Builtin.mayShare size l k gp x').bind fun b=>if(!b)=true then((mark Mark.noRoom).bind fun _=>(unsupported (Unsupported.resourceLimit "append: a slice or a string whose bytes no memory bears"):Sem PUnit))else unsupported (Unsupported.resourceLimit "append: a slice or a string whose bytes no memory bears")).bind fun _=>((choose (Question.appendCap (l+k) c elem)).bind fun bh=>(typeInfo elem).bind fun i=>(askRoom (bh*i.bytes)).bind fun _=>(Builtin.firstCells size l (Value.slice gp l c)).bind fun old=>
          (Builtin.firstCells size k x').bind fun new=>(zeroValue elem).bind fun z=>(newRow elem (old++new++Builtin.zeroCells z.cells (bh-(l+k)))).bind fun r=>Sem.pure (Value.slice (some r) (l+k) bh))else((choose (Question.appendCap (l+k) c elem)).bind fun bh=>(typeInfo elem).bind fun i=>(askRoom (bh*i.bytes)).bind fun _=>(Builtin.firstCells size l (Value.slice gp l c)).bind fun old=>
          (Builtin.firstCells size k x').bind fun new=>(zeroValue elem).bind fun z=>(newRow elem (old++new++Builtin.zeroCells z.cells (bh-(l+k)))).bind fun r=>Sem.pure (Value.slice (some r) (l+k) bh))))else((typeInfo elem).bind fun i=>if Builtin.nextslicecap (l+k) c*i.bytes>2^48 then((Builtin.mayShare size l k gp x').bind fun b=>if(!b)=true then((mark Mark.noRoom).bind fun _=>(unsupported (Unsupported.resourceLimit "append: a slice or a string whose bytes no memory bears"):Sem PUnit))else unsupported (Unsupported.resourceLimit "append: a slice or a string whose bytes no memory bears")).bind fun _=>((choose (Question.appendCap (l+k) c elem)).bind fun bh=>(typeInfo elem).bind fun i=>(askRoom (bh*i.bytes)).bind fun _=>(Builtin.firstCells size l (Value.slice gp l c)).bind fun old=>
          (Builtin.firstCells size k x').bind fun new=>(zeroValue elem).bind fun z=>(newRow elem (old++new++Builtin.zeroCells z.cells (bh-(l+k)))).bind fun r=>Sem.pure (Value.slice (some r) (l+k) bh))else((choose (Question.appendCap (l+k) c elem)).bind fun bh=>(typeInfo elem).bind fun i=>(askRoom (bh*i.bytes)).bind fun _=>(Builtin.firstCells size l (Value.slice gp l c)).bind fun old=>
          (Builtin.firstCells size k x').bind fun new=>(zeroValue elem).bind fun z=>(newRow elem (old++new++Builtin.zeroCells z.cells (bh-(l+k)))).bind fun r=>Sem.pure (Value.slice (some r) (l+k) bh)))):=by
       intro n3 jz;by_cases U7:x= .nilFunc
       ·subst U7;trivial
       refine(Ke (U6.mono jz)).bind fun n4 k k' uD e=>?_;subst e;have SP:=(U6.mono jz).mono uD;have M7:=((hb.mono eO).mono jz).mono uD;have rest:∀{n5:ao},ao.le n4 n5→aR τ P F VR n5
         ((choose (Question.appendCap (l+k) c elem)).bind fun bh=>(typeInfo elem).bind fun i=>(askRoom (bh*i.bytes)).bind fun _=>(Builtin.firstCells size l (Value.slice base l c)).bind fun old=>
           (Builtin.firstCells size k x).bind fun new=>(zeroValue elem).bind fun z=>(newRow elem (old++new++Builtin.zeroCells z.cells (bh-(l+k)))).bind fun r=>Sem.pure (Value.slice (some r) (l+k) bh))
         ((choose (Question.appendCap (l+k) c elem)).bind fun bh=>(typeInfo elem).bind fun i=>(askRoom (bh*i.bytes)).bind fun _=>(Builtin.firstCells size l (Value.slice gp l c)).bind fun old=>
           (Builtin.firstCells size k x').bind fun new=>(zeroValue elem).bind fun z=>(newRow elem (old++new++Builtin.zeroCells z.cells (bh-(l+k)))).bind fun r=>Sem.pure (Value.slice (some r) (l+k) bh)):=by
        intro n5 lS;refine(qv _).bind fun n6 q q' GX e=>?_;subst e;refine(dT elem).bind fun n7 i i' X6 e=>?_;subst e;refine(tT _).bind fun n8 _ _ X7 _=>?_;have hle:=ao.le_trans lS (ao.le_trans GX (ao.le_trans X6 X7));have kC:VR n8 (Value.slice base l c) (Value.slice gp l c):=by
         rcases M7 with⟨rfl,rfl⟩|⟨p,q,rfl,rfl,ha⟩
         ·exact .b9 _ _
         ·exact .slice _ _ (ha.mono hle)
        refine(kB size l kC).bind fun n9 o o' X8 ho=>?_;refine(kB size k ((SP.mono hle).mono X8)).bind fun n10 w w' U8 hw=>?_;refine(fY elem (od X5 X4)).bind fun n11 z z' R4 hz=>?_;exact(kz elem (((ho.mono (ao.le_trans U8 R4)).append (hw.mono R4)).append (hz.cells.zeroCells _))).bind fun n12 a b aaa ha=>sP (.slice _ _ ha)
       have dead:∀{n5:ao},ao.le n4 n5→aR τ P F (fun _ (_ _:PUnit)=>False) n5
         ((Builtin.mayShare size l k base x).bind fun b=>if(!b)=true then((mark Mark.noRoom).bind fun _=>(unsupported (Unsupported.resourceLimit "append: a slice or a string whose bytes no memory bears"):Sem PUnit))else unsupported (Unsupported.resourceLimit "append: a slice or a string whose bytes no memory bears"))
         ((Builtin.mayShare size l k gp x').bind fun b=>if(!b)=true then((mark Mark.noRoom).bind fun _=>(unsupported (Unsupported.resourceLimit "append: a slice or a string whose bytes no memory bears"):Sem PUnit))else unsupported (Unsupported.resourceLimit "append: a slice or a string whose bytes no memory bears")):=by
        intro n5 lS;refine zP size l k (fun e=>?_) (SP.mono lS) U7 (fun b=>?_) (fun b=>?_)
        ·rcases M7 with⟨_,h⟩|⟨p,q,h,_⟩
         ·exact h
         ·rw[h]at e;cases e
        ·cases b
         ·exact nofun
         ·exact nofun
        ·cases b
         ·exact⟨_,rfl,nofun⟩
         ·exact nofun
       split
       ·refine(kB size k SP).bind fun n5 w w' lS hw=>?_
        rcases M7 with⟨rfl,rfl⟩|⟨p,q,rfl,rfl,ha⟩
        ·exact sP (.b9 _ _)
        ·exact(ky _ _ 0 ((ha.mono lS).add _) hw.list.1 hw.list.2).bind fun n6 _ _ GX _=>sP (.slice _ _ ((ha.mono lS).mono GX))
       ·refine(dT elem).bind fun n5 i i' lS e=>?_
        subst e;split
        ·exact(kq (α:=PUnit) (β:=PUnit) (RA:=fun _ _ _=>False) R).bind fun _ _ _ _ h=>h.elim
        ·refine(dT elem).bind fun n6 i i' GX e=>?_
         subst e;split
         ·exact(dead (ao.le_trans lS GX)).bind fun _ _ _ _ h=>h.elim
         ·exact rest (ao.le_trans lS GX)
      cases GY:ts[1]? with
      |none=>
       simp only[pure_bind,Bool.false_eq_true,if_false,Bool.not_false,if_true,false_or,false_and];exact key (ao.le_refl _)
      |some xT=>
       rw[GY]at ok;dsimp only at ok
       refine(sU xT).bind fun n3 d d' jz e=>?_;obtain⟨rfl,hd⟩:=e;rw[hd]at ok
       cases d with
       |int k=>cases ok
       |_=>
        simp only[pure_bind,Bool.false_eq_true,if_false,Bool.not_false,if_true,false_or,false_and];exact key jz
     ·cases h3<;>first|trivial|exact absurd rfl (Cu _ _ _)
    |_=>trivial
end
end Go.Proofs.YtjklkppncmhehaaGreat.Sr
namespace Go.Proofs.YtjklkppncmhehaaGreat.Sr
open Go
section
variable {τ:TypeId}{P:Program}{F:Array Func}{α β γ δ:Type}{m:ao}
theorem sO {ι σ:Type}{f f':ι→σ→Sem (ForInStep σ)}:∀(xs:List ι) {m:ao},(∀n,ao.le m n→∀x∈xs,∀s,aR τ P F dv n (f x s) (f' x s))→∀s,aR τ P F dv m (forIn xs s f) (forIn xs s f')
 |[],m,_,s=>by rw[List.forIn_nil,List.forIn_nil];exact bn
 |x::xs,m,h,s=>by
  rw[List.forIn_cons,List.forIn_cons];refine(h m (ao.le_refl m) x (by simp) s).bind fun n a b hn e=>?_
  subst e
  cases a with
  |done b=>exact bn
  |yield b=>exact sO xs (fun n2 h2 y hy s=>h n2 (ao.le_trans hn h2) y (by simp[hy]) s) b
def nI (P:Program):Nat→TypeId→Bool
 |0,_=>false
 |d+1,t=>match P.underlying t with
  |some .bool|some (.int _)|some (.float _)|some .string|some (.slice _)|some (.map ..)=>true
  |some (.struct fs)=> !P.stoodInHeld t&&fs.all fun f=>nI P d f.type
  |some (.array _ e)=>nI P d e
  |_=>false
theorem Cv {a b:Addr}(h:bc m a b):aR τ P F (fun m x y=>bc m x.1 y.1∧x.2=y.2) m (behindNumber a) (behindNumber b):=by
 refine SR.bind (RA:=fun m (x y:Option (Addr×Bool))=>(x=none∧y=none)∨∃p q l,x=some (p,l)∧y=some (q,l)∧bc m p q) ?_ fun n x y hn e=>?_
 ·refine .inr ⟨b.block,_,rfl,h.1,fun z=>?_⟩
  cases z with
  |none=>exact⟨b.block,_,rfl,h.1,fun p q l Qh=>⟨_,rfl,.inr ⟨p,q,l,rfl,rfl,Qh⟩⟩⟩
  |some z=>exact⟨none,rfl,.inl ⟨rfl,rfl⟩⟩
 ·rcases e with⟨rfl,rfl⟩|⟨p,q,l,rfl,rfl,Qh⟩
  ·exact sP ⟨h.mono hn,rfl⟩
  ·exact sP ⟨Qh,rfl⟩
theorem bc.same {a b c d:Addr}(h:bc m a b)(k:bc m c d)(e:a=c):b=d:=by
 subst e;obtain⟨U,h2,h3,h4⟩:=h;obtain⟨k1,k2,k3,k4⟩:=k;rw[U]at k1
 cases b;cases d
 simp only[Option.some.injEq]at k1 h2 h4 k2 k4;simp_all
theorem og (hG:P.globals.size=0):∀(d k:Nat) (t:TypeId) {m:ao} {x y u v:Value},nI P k t=true→VR m x y→VR m u v→aR τ P F dv m (Op.equalIn d t x u) (Op.equalIn d t y v)
 |0,_,_,_,_,_,_,_,_,_,_=>jy nofun
 |d+1,0,_,_,_,_,_,_,h,_,_=>by cases h
 |d+1,k+1,t,m,x,y,u,v,ok,hx,hu=>by
  unfold Op.equalIn;unfold nI at ok;refine(sU t).bind fun n1 dd d' dn e=>?_;obtain⟨rfl,hd⟩:=e;rw[hd]at ok;replace hx:=hx.mono dn
  replace hu:=hu.mono dn
  cases dd with
  |bool=>cases hx<;>cases hu<;>first|exact bn|trivial
  |int _=>
   cases hx with
   |int k1 a=>
    cases hu with
    |int k2 b=>dsimp only;split<;>first|exact bn|trivial
    |ptr hb=>
     by_cases h0:a=0
     ·subst h0;exact bn
     ·split<;>first
       |exact jy nofun
       |(exfalso;simp_all;done)
    |_=>first|trivial|exact jy nofun
   |ptr ha=>
    cases hu with
    |ptr hb=>
     refine(Cv ha).bind fun n2 p q eO e1=>?_;refine(Cv (hb.mono eO)).bind fun n3 p' q' jz e2=>?_;refine c_ ?_;simp only[hG,Nat.not_lt_zero,decide_false,Bool.and_false,Bool.false_eq_true,if_false];refine(dT t).bind fun n4 i i' uD e=>?_;subst e;split
     ·split
      ·rename_i lR
       rw[if_pos (by simpa using bc.same (e1.1.mono jz) e2.1 (by simpa using lR))]
       exact bn
      ·exact jy nofun
     ·exact jy nofun
    |int k2 b=>
     by_cases h0:b=0
     ·subst h0;exact bn
     ·split<;>first
       |exact jy nofun
       |(exfalso;simp_all;done)
    |_=>first|trivial|exact jy nofun
   |_=>cases hu<;>first|trivial|exact jy nofun
  |float _=>cases hx<;>cases hu<;>first|trivial|(dsimp only;split<;>first|exact bn|trivial)
  |string=>cases hx<;>cases hu<;>first|exact bn|trivial
  |slice _=>cases hx<;>cases hu<;>first|exact bn|trivial
  |map _ _=>cases hx<;>cases hu<;>first|exact bn|trivial
  |struct fs=>
   cases hx with
   |agg hs hh=>
    cases hu with
    |agg ks kk=>
     dsimp only
     refine c_ ?_;simp only[Bool.and_eq_true,Bool.not_eq_true']at ok;obtain⟨es,ok⟩:=ok;simp only[es];split
     ·exact jy nofun
     ·rw[if_neg (by simp)]
      refine SR.bind (RA:=dv) ?_ fun n2 a b eO e=>by subst e;split<;>exact bn
      rw[←Array.forIn_toList,←Array.forIn_toList];refine sO fs.toList (fun n2 eO f hf s=>?_) _
      have X9:nI P k f.type=true:=by
       have:=Array.all_eq_true_iff_forall_mem.1 ok f (by simpa using hf)
       exact this
      split
      ·refine(oe f.type f.offset (AR.mono eO ⟨hs,hh⟩)).bind fun n3 a b jz lR=>?_
       refine(oe f.type f.offset ((AR.mono eO ⟨ks,kk⟩).mono jz)).bind fun n4 c e uD SQ=>?_;refine(og hG d k f.type X9 (lR.mono uD) SQ).bind fun n5 p q lS e=>?_;subst e;split<;>exact bn
      ·exact bn
    |_=>trivial
   |_=>cases hu<;>trivial
  |array n e=>
   cases hx with
   |agg hs hh=>
    cases hu with
    |agg ks kk=>
     dsimp only
     refine(pB e).bind fun n2 z z' eO ez=>?_;subst ez;refine SR.bind (RA:=dv) ?_ fun n2 a b eO e=>by subst e;split<;>exact bn
     rw[Std.Legacy.Range.forIn_eq_forIn_range',Std.Legacy.Range.forIn_eq_forIn_range'];refine sO _ (fun n3 jz i hi s=>?_) _
     refine(oe e (i*z) ((AR.mono eO ⟨hs,hh⟩).mono jz)).bind fun n4 a b uD lR=>?_;refine(oe e (i*z) (((AR.mono eO ⟨ks,kk⟩).mono jz).mono uD)).bind fun n5 c e' lS SQ=>?_;refine(og hG d k e ok (lR.mono lS) SQ).bind fun n6 p q GX e=>?_;subst e;split<;>exact bn
    |_=>trivial
   |_=>cases hu<;>trivial
  |_=>cases ok
theorem lq {α β:Type}{RA:ao→α→β→Prop}(t:TypeId)(ok:nI P 8 t=true){x u:Value}(h:x= .nilFunc∨u= .nilFunc){k:Bool→Sem α}{s':Sem β}:aR τ P F RA m ((Op.equal t x u).bind k) s':=by
 show aR τ P F RA m ((Op.equalIn (9999+1) t x u).bind k) s'
 unfold Op.equalIn;unfold nI at ok;unfold underlying;refine .inl ?_;have e:Program.underlying (Program.mk (Program.toTables P) F) t=P.underlying t:=rfl
 show dm τ (((match P.underlying t with|some d=>(Sem.pure d:Sem TypeDesc)|none=>(stuck "no such type":Sem TypeDesc)).bind _).bind k)
 cases hd:P.underlying t with
 |none=>trivial
 |some d=>
  rw[hd]at ok;rcases h with rfl|rfl
  ·cases d<;>first|(cases ok;done)|(cases u<;>first|trivial|(intro g e;cases e;done))
  ·cases d<;>first|(cases ok;done)|(cases x<;>first|trivial|(intro g e;cases e;done)|(dsimp only[Sem.bind,dm];split<;>first|trivial|(intro g e;cases e;done)|(exfalso;simp_all;done)))
end
end Go.Proofs.YtjklkppncmhehaaGreat.Sr
