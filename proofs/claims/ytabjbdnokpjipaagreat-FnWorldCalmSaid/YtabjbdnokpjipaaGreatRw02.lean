/-
What is proved: nothing: the list of the functions that the laws at hand reach, not and what rests on it. Conditions: as stated.
-/
import Derived.Test.YtabjbdnokpjipaaGreatRw01
import Derived.Test.YtabjbdnokpjipaaGreatProg
import Derived.WalkKit
import Derived.Laws.Sem
set_option linter.unusedVariables false
set_option linter.unusedSimpArgs false
namespace Go.Proofs.YtabjbdnokpjipaaGreat.Tw
open Go
def wj:List Nat:=[3,4,5,6,7,8,9,10,11,12,13,14,15,16,17,18,19,20,21,22,23,24,25,26,27,28,29,30,31,32,33,34,35,36,37,38,39,40,41,42,43,44,45,46,47,48,49,50,51,52,53,54,55,56,57,58,59,60,61,62,63,64,65,66,67,68,69,70,71,72,73,74,77,78,79,80,81,82,83,84,85,86,87,88,89,90,91,92,93,94,95,96,97,98,99,100,103,104,105,106,107,108,109,110,111,112,113,114,115,116,117,118,119,120,121,130,131,132,133,134,135,136,137,139,140,141,149,150,155,156,171,193,194,195,196,197,198,199]
end Go.Proofs.YtabjbdnokpjipaaGreat.Tw
namespace Go.Proofs.YtabjbdnokpjipaaGreat.Sr
open Go
structure aJ where
 to:Nat→Option Nat
 good:FuncId→Bool
instance:CoeFun aJ (fun _=>Nat→Option Nat):=⟨aJ.to⟩
structure aJ.le (a b:aJ):Prop where
 sub:∀r t,a r=some t→b r=some t
 good:a.good=b.good
theorem aJ.le_refl (a:aJ):aJ.le a a:=⟨fun _ _ h=>h,rfl⟩
theorem aJ.le_trans {a b c:aJ}(h:aJ.le a b)(k:aJ.le b c):aJ.le a c:=⟨fun _ _ x=>k.sub _ _ (h.sub _ _ x),h.good.trans k.good⟩
def c_ (f:FuncId):Option Nat:=if f=112 then some 3 else if f=44 then some 2 else none
def BR (f:FuncId):Bool:=f==50
def ZN:List TypeId:=[184,38]
def ZO:List TypeId:=[161,163,165]
def GF:List TypeId:=ZN++ZO
def aJ.fn (m:aJ):Fn→Prop
 | .func f=>m.good f=true∧c_ f=none
 |_=>False
def bJ (m:aJ)(a b:Addr):Prop:=m a.block=some b.block∧b.off=a.off∧a.spot=none∧b.spot=none
theorem bJ.mono {m n:aJ}(h:aJ.le m n){a b:Addr}(x:bJ m a b):bJ n a b:=⟨h.sub _ _ x.1,x.2⟩
theorem bJ.add {m:aJ}{a b:Addr}(x:bJ m a b)(k:Nat):bJ m (a.add k) (b.add k):=by
 unfold Addr.add;split
 ·exact x
 ·exact⟨x.1,by rw[x.2.1],rfl,rfl⟩
inductive VR (m:aJ):Value→Value→Prop
 |bool (b:Bool):VR m (.bool b) (.bool b)
 |int (k:IntKind) (n:Int):VR m (.int k n) (.int k n)
 |string (s:ByteArray):VR m (.string s) (.string s)
 |nilPtr:VR m (.pointer none) (.pointer none)
 |ptr {a b:Addr} (h:bJ m a b):VR m (.pointer (some a)) (.pointer (some b))
 |c8 (l c:Nat):VR m (.slice none l c) (.slice none l c)
 |slice {a b:Addr} (l c:Nat) (h:bJ m a b):VR m (.slice (some a) l c) (.slice (some b) l c)
 |mz:VR m (.map none) (.map none)
 |nilFunc:VR m .nilFunc .nilFunc
 |nilIface:VR m .nilIface .nilIface
 |iface (t:TypeId) (ht:GF.contains t=true) {u v:Value} (h:VR m u v):VR m (.iface t u) (.iface t v)
 |func (f:Fn) (hf:m.fn f) {us vs cs ds:Array Value} (hs:us.size=vs.size) (h:∀i (h1:i<us.size) (h2:i<vs.size),VR m us[i] vs[i])
   (ht:cs.size=ds.size) (k:∀i (h1:i<cs.size) (h2:i<ds.size),VR m cs[i] ds[i]):VR m (.func f us cs) (.func f vs ds)
 |agg {us vs:Array Value} (hs:us.size=vs.size) (h:∀i (h1:i<us.size) (h2:i<vs.size),VR m us[i] vs[i]):VR m (.agg us) (.agg vs)
 |tuple {us vs:Array Value} (hs:us.size=vs.size) (h:∀i (h1:i<us.size) (h2:i<vs.size),VR m us[i] vs[i]):VR m (.tuple us) (.tuple vs)
 |iY (y:Value) (hy:∀cs,y≠.agg cs∧y≠.tuple cs) (hn:y≠.nilIface∧∀b,y≠.bool b):VR m .nilFunc y
theorem VR.mono {m n:aJ}(h:aJ.le m n){u v:Value}(x:VR m u v):VR n u v:=by
 induction x with
 |bool b=>exact .bool b
 |int k j=>exact .int k j
 |string s=>exact .string s
 |nilPtr=>exact .nilPtr
 |ptr hx=>exact .ptr (hx.mono h)
 |c8 l c=>exact .c8 l c
 |slice l c hx=>exact .slice l c (hx.mono h)
 |mz=>exact .mz
 |nilFunc=>exact .nilFunc
 |nilIface=>exact .nilIface
 |iface t ht _ ih=>exact .iface t ht ih
 |func f hf hs _ ht _ ih BU=>exact .func f (by cases f<;>simp_all[aJ.fn,←h.good]) hs (fun i h1 h2=>ih i h1 h2) ht (fun i h1 h2=>BU i h1 h2)
 |agg hs _ ih=>exact .agg hs (fun i h1 h2=>ih i h1 h2)
 |tuple hs _ ih=>exact .tuple hs (fun i h1 h2=>ih i h1 h2)
 |iY y hy hn=>exact .iY y hy hn
def AR (m:aJ)(us vs:Array Value):Prop:=us.size=vs.size∧∀i (h1:i<us.size) (h2:i<vs.size),VR m us[i] vs[i]
theorem AR.mono {m n:aJ}(h:aJ.le m n){us vs:Array Value}(x:AR m us vs):AR n us vs:=⟨x.1,fun i h1 h2=>(x.2 i h1 h2).mono h⟩
def Fz (f g:Nat×Nat):Prop:=∀o,g.1≤o→o<g.2→f.1≤o∧o<f.2
theorem Fz.refl (f:Nat×Nat):Fz f f:=fun _ h k=>⟨h,k⟩
def mH (m:aJ)(o p:Obj):Prop:=(∃us vs e fz gz,o= .cells us e fz∧p= .cells vs e gz∧Fz fz gz∧AR m us vs)∨(∃a b l,o= .number a l∧p= .number b l∧bJ m a b)
theorem mH.cells {m:aJ}{us vs:Array Value}{e:TypeId}{fz gz:Nat×Nat}(hf:Fz fz gz)(h:AR m us vs):mH m (.cells us e fz) (.cells vs e gz):= .inl ⟨us,vs,e,fz,gz,rfl,rfl,hf,h⟩
theorem mH.mono {m n:aJ}(h:aJ.le m n){o p:Obj}(x:mH m o p):mH n o p:=by
 rcases x with⟨us,vs,e,fz,gz,rfl,rfl,hf,ha⟩|⟨a,b,l,rfl,rfl,ha⟩
 ·exact .inl ⟨us,vs,e,fz,gz,rfl,rfl,hf,ha.mono h⟩
 ·exact .inr ⟨a,b,l,rfl,rfl,ha.mono h⟩
structure WR (m:aJ) (v w:World):Prop where
 inj:∀r s t,m r=some t→m s=some t→r=s
 kL:∀r t,m r=some t→∃o p,v.heap[r]?=some o∧w.heap[t]?=some p∧mH m o p
 os:w.os=v.os
 tape:w.tape=v.tape
 drawn:w.drawn=v.drawn
def Plain (τ:TypeId):Halt→Prop
 | .panic v=>∀u,v≠.iface τ u
 | .stuck _=>True
 | .unsupported u=>∀g,u≠.initOrder g
 |_=>False
def fh (τ:TypeId){α:Type}:Sem α→Prop
 | .new _ k=>∀r,fh τ (k r)
 | .shape _ k=>∀x,fh τ (k x)
 | .frozen _ k=>∀b,fh τ (k b)
 | .choose _ k=>∀n,fh τ (k n)
 | .program k=>∀p,fh τ (k p)
 | .mark _ k=>fh τ k
 | .halt h=>Plain τ h
 |_=>False
theorem fh.run {τ:TypeId}{α:Type}{s:Sem α}:∀{P:Program} {v:World} {es:Array Event},fh τ s→∃h v' bd,s.runT P v es=(.halt h v',bd)∧Plain τ h:=by
 induction s with
 |halt h0=>intro P v es h;exact⟨h0,v,es,rfl,h⟩
 |new o c ih=>intro P v es h;exact ih _ (h _)
 |shape r c ih=>intro P v es h;exact ih _ (h _)
 |frozen a c ih=>intro P v es h;exact ih _ (h _)
 |choose q c ih=>
  intro P v es h;simp only[Sem.runT];split
  ·exact ih _ (h _)
  ·exact ih _ (h _)
 |program c ih=>intro P v es h;exact ih _ (h _)
 |mark m c ih=>intro P v es h;exact ih h
 |_=>intro P v es h;exact h.elim
def SR (τ:TypeId)(P' P:Program){α β:Type}(RA:aJ→α→β→Prop):aJ→Sem α→Sem β→Prop
 |m,.pure a,s'=>∃b,s'= .pure b∧RA m a b
 |m,.load md a k,s'=>∃a' k',s'= .load md a' k'∧bJ m a a'∧∀n v v',aJ.le m n→VR n v v'→SR τ P' P RA n (k v) (k' v')
 |m,.store md a x k,s'=>∃a' x' k',s'= .store md a' x' k'∧bJ m a a'∧VR m x x'∧∀n,aJ.le m n→SR τ P' P RA n k k'
 |m,.new o k,s'=>∃o' k',s'= .new o' k'∧mH m o o'∧∀n r r',aJ.le m n→n r=some r'→SR τ P' P RA n (k r) (k' r')
 |m,.choose q k,s'=>∃k',s'= .choose q k'∧∀i,SR τ P' P RA m (k i) (k' i)
 |m,.program k,s'=>fh τ (k P')∨∃k',s'= .program k'∧SR τ P' P RA m (k P') (k' P)
 |m,.mark .noRoom k,s'=>∃k',s'= .mark .noRoom k'∧SR τ P' P RA m k k'
 |_,.halt h,_=>Plain τ h
 |m,.shape r k,s'=>(∀x,fh τ (k x))∨∃r' k',s'= .shape r' k'∧m r=some r'∧∀x,SR τ P' P RA m (k x) (k' x)
 |m,.getObj r k,s'=>∃r' k',s'= .getObj r' k'∧m r=some r'∧∀a b l,bJ m a b→SR τ P' P RA m (k (.number a l)) (k' (.number b l))
 |_,.frozen _ k,_=>∀b,fh τ (k b)
 |_,_,_=>False
section
variable {τ:TypeId}{P' P:Program}{α β γ δ:Type}{RA:aJ→α→β→Prop}{RB:aJ→γ→δ→Prop}
theorem wo {s:Sem α}{f:α→Sem γ}(h:fh τ s):fh τ (s.bind f):=by
 induction s with
 |halt _=>exact h
 |new o c ih=>exact fun x=>ih x (h x)
 |shape r c ih=>exact fun x=>ih x (h x)
 |frozen a c ih=>exact fun x=>ih x (h x)
 |choose q c ih=>exact fun x=>ih x (h x)
 |program c ih=>exact fun x=>ih x (h x)
 |mark m c ih=>exact ih h
 |_=>exact h.elim
theorem SR.bind {s:Sem α}{s':Sem β}{f:α→Sem γ}{f':β→Sem δ}:∀{m:aJ},SR τ P' P RA m s s'→(∀n a b,aJ.le m n→RA n a b→SR τ P' P RB n (f a) (f' b))→SR τ P' P RB m (s.bind f) (s'.bind f'):=by
 induction s generalizing s' with
 |pure a=>
  intro m h k;obtain⟨b,rfl,hr⟩:=h;exact k m a b (aJ.le_refl m) hr
 |load md a c ih=>
  intro m h k;obtain⟨a',k',rfl,ha,hk⟩:=h;exact⟨a',fun v=>(k' v).bind f',rfl,ha,fun n v v' hn hv=>ih v (hk n v v' hn hv) fun n2 a b h2 hr=>k n2 a b (aJ.le_trans hn h2) hr⟩
 |store md a x c ih=>
  intro m h k;obtain⟨a',x',k',rfl,ha,hx,hk⟩:=h;exact⟨a',x',k'.bind f',rfl,ha,hx,fun n hn=>ih (hk n hn) fun n2 a b h2 hr=>k n2 a b (aJ.le_trans hn h2) hr⟩
 |new o c ih=>
  intro m h k;obtain⟨o',k',rfl,ho,hk⟩:=h;exact⟨o',fun r=>(k' r).bind f',rfl,ho,fun n r r' hn f_=>ih r (hk n r r' hn f_) fun n2 a b h2 hr=>k n2 a b (aJ.le_trans hn h2) hr⟩
 |choose q c ih=>
  intro m h k;obtain⟨k',rfl,hk⟩:=h;exact⟨fun i=>(k' i).bind f',rfl,fun i=>ih i (hk i) k⟩
 |program c ih=>
  intro m h k;rcases h with h|⟨k',rfl,hk⟩
  ·exact .inl (wo h)
  ·exact .inr ⟨fun p=>(k' p).bind f',rfl,ih P' hk k⟩
 |mark md c ih=>
  intro m h k
  cases md with
  |noRoom=>
   obtain⟨k',rfl,hk⟩:=h;exact⟨k'.bind f',rfl,ih hk k⟩
  |_=>exact h.elim
 |halt h0=>intro m h k;exact h
 |shape r c ih=>
  intro m h k;rcases h with h|⟨r',k',rfl,hr,hk⟩
  ·exact .inl fun x=>wo (h x)
  ·exact .inr ⟨r',fun x=>(k' x).bind f',rfl,hr,fun x=>ih x (hk x) k⟩
 |freeze a n c ih=>intro m h k;exact h.elim
 |frozen a c ih=>intro m h k;exact fun x=>wo (h x)
 |getObj r c ih=>
  intro m h k;obtain⟨r',k',rfl,hr,hk⟩:=h;exact⟨r',fun x=>(k' x).bind f',rfl,hr,fun a b l eT=>ih _ (hk a b l eT) k⟩
 |setObj r o c ih=>intro m h k;exact h.elim
 |sys c k2 ih=>intro m h k;exact h.elim
theorem zU {α:Type}:∀(t:Sem α),t.bind (fun a=>Sem.pure a)=t:=fun t=>by
 induction t with
 |pure a=>rfl
 |halt h=>rfl
 |_=>simp only[Sem.bind];congr 1;first|done|assumption|(funext x;rename_i ih;exact ih x)
theorem SR.mono {s:Sem α}{s':Sem β}{RA':aJ→α→β→Prop}{m:aJ}(h:SR τ P' P RA m s s')(k:∀n a b,aJ.le m n→RA n a b→RA' n a b):SR τ P' P RA' m s s':=by
 have h1:=h.bind (f:=fun a=>Sem.pure a) (f':=fun b=>Sem.pure b) (RB:=RA') fun n a b hn hr=>⟨b,rfl,k n a b hn hr⟩
 rwa[zU,zU]at h1
def Ef (m:aJ)(e f:Event):Prop:=(∃a b,bJ m a b∧e.loc= .cell a∧f.loc= .cell b∧f.write=e.write∧f.sync=e.sync)∨(e=f∧e.loc= .mark .noRoom)∨(∃r t,m r=some t∧e=⟨.obj r,false,false⟩∧f=⟨.obj t,false,false⟩)
theorem Ef.mono {m n:aJ}(h:aJ.le m n){e f:Event}(x:Ef m e f):Ef n e f:=by
 rcases x with⟨a,b,ha,h2⟩|h2|⟨r,t,hr,h2⟩
 ·exact .inl ⟨a,b,ha.mono h,h2⟩
 ·exact .inr (.inl h2)
 ·exact .inr (.inr ⟨r,t,h.sub _ _ hr,h2⟩)
inductive zV (m:aJ):List Event→List Event→Prop
 |nil:zV m [] []
 |cons {e f:Event} {es fs:List Event} (h:Ef m e f) (k:zV m es fs):zV m (e::es) (f::fs)
theorem zV.mono {m n:aJ}(h:aJ.le m n){es fs:List Event}(x:zV m es fs):zV n es fs:=by
 induction x with
 |nil=>exact .nil
 |cons a _ ih=>exact .cons (a.mono h) ih
def fc (v:World)(r:Nat):Prop:=(∃us e hi,v.heap[r]?=some (.cells us e (0,hi))∧us.size≤hi)∨∃a l,v.heap[r]?=some (.number a l)
theorem fc.lt {v:World}{r:Nat}(h:fc v r):r<v.heap.size:=by
 rcases h with⟨us,e,hi,hb,_⟩|⟨a,l,hb⟩<;>exact(Array.getElem?_eq_some_iff.1 hb).1
theorem nU {v:World}{a:Addr}{x:Value}(h:fc v a.block)(hc:v.cell? a=some x):v.frozen? a=true:=by
 rcases h with⟨us,e,hi,hb,hs⟩|⟨_,_,hb⟩;rotate_left
 ·unfold World.cell? at hc
  rw[hb]at hc
  cases hc
 unfold World.cell? at hc;unfold World.frozen?;rw[hb]at hc⊢;simp only at hc⊢
 split at hc
 ·cases hc
 ·have:=(Array.getElem?_eq_some_iff.1 hc).1
  simp;omega
theorem fc.same {v v':World}{r:Nat}(h:fc v r)(e:v'.heap[r]?=v.heap[r]?):fc v' r:=by
 rcases h with⟨us,t,hi,hb,hs⟩|⟨a,l,hb⟩
 ·exact .inl ⟨us,t,hi,e.trans hb,hs⟩
 ·exact .inr ⟨a,l,e.trans hb⟩
structure Kept (m n:aJ) (v w v' w':World):Prop where
 le:aJ.le m n
 size:v.heap.size≤v'.heap.size
 lN:w.heap.size≤w'.heap.size
 kR:∀r,fc v r→v'.heap[r]?=v.heap[r]?
 old:∀t,t<w.heap.size→(∀r,m r=some t→fc v r)→w'.heap[t]?=w.heap[t]?
 fresh:∀r t,n r=some t→m r=some t∨(v.heap.size≤r∧w.heap.size≤t)
 drawn:v.drawn≤v'.drawn
 output:w'.output=w.output
 os:w'.os=w.os
 tape:w'.tape=w.tape
theorem Kept.refl (m:aJ)(v w:World):Kept m m v w v w:=⟨aJ.le_refl m,Nat.le_refl _,Nat.le_refl _,fun _ _=>rfl,fun _ _ _=>rfl,fun _ _ h=> .inl h,Nat.le_refl _,rfl,rfl,rfl⟩
theorem Kept.trans {m n o:aJ}{v w v1 w1 v2 w2:World}(h:Kept m n v w v1 w1)(k:Kept n o v1 w1 v2 w2):Kept m o v w v2 w2:=by
 refine⟨aJ.le_trans h.le k.le,Nat.le_trans h.size k.size,Nat.le_trans h.lN k.lN,fun r hr=>(k.kR r (hr.same (h.kR r hr))).trans (h.kR r hr),fun t ht hn=>?_,fun r t hr=>?_,Nat.le_trans h.drawn k.drawn,k.output.trans h.output,k.os.trans h.os,k.tape.trans h.tape⟩
 ·rw[k.old t (Nat.lt_of_lt_of_le ht h.lN) fun r hr=>?_,h.old t ht hn]
  rcases h.fresh r t hr with h1|h1
  ·exact(hn r h1).same (h.kR r (hn r h1))
  ·omega
 ·rcases k.fresh r t hr with h1|h1
  ·exact h.fresh r t h1
  ·exact .inr ⟨Nat.le_trans h.size h1.1,Nat.le_trans h.lN h1.2⟩
def GG (o:Obj):Prop:=(∃us e fz,o= .cells us e fz)∨∃a l,o= .number a l
theorem WR.cell {m:aJ}{v w:World}(h:WR m v w){a b:Addr}(ha:bJ m a b):(∀x,v.cell? a=some x→∃y,w.cell? b=some y∧VR m x y)∧(∃o,v.heap[a.block]?=some o∧GG o)∧(v.frozen? a=false→w.frozen? b=false):=by
 obtain⟨o,p,ho,hp,bf⟩:=h.kL _ _ ha.1;obtain⟨_,Rn,hsa,GH⟩:=ha;rcases bf with⟨us,vs,e,fz,gz,rfl,rfl,hf,hs,hx⟩|⟨x,y,l,rfl,rfl,nb⟩
 ·refine⟨fun x jN=>?_,⟨_,ho,.inl ⟨us,e,fz,rfl⟩⟩,?_⟩
  ·unfold World.cell? at jN⊢
   rw[ho]at jN;rw[hp];simp only[hsa,GH,Option.isSome_none,Bool.false_eq_true,if_false]at jN⊢;obtain⟨h1,rfl⟩:=Array.getElem?_eq_some_iff.1 jN;have h2:b.off<vs.size:=by rw[Rn,←hs];exact h1
   refine⟨vs[b.off],Array.getElem?_eq_getElem h2,?_⟩;have:=hx a.off h1 (by rw[←Rn];exact h2)
   simpa[Rn]using this
  ·unfold World.frozen?
   rw[ho,hp];intro h1
   cases h2:decide (gz.1≤b.off)&&decide (b.off<gz.2)with
   |false=>exact h2
   |true=>
    simp only[Bool.and_eq_true,decide_eq_true_eq]at h2;have:=hf b.off h2.1 h2.2
    rw[Rn]at this;simp[this.1,this.2]at h1
 ·refine⟨fun z hz=>?_,⟨_,ho,.inr ⟨_,_,rfl⟩⟩,fun _=>?_⟩
  ·unfold World.cell? at hz
   rw[ho]at hz
   cases hz
  ·unfold World.frozen?
   rw[hp]
theorem WR.shape {m:aJ}{v w:World}(h:WR m v w){r t:Nat}(hr:m r=some t):w.shape? t=v.shape? r:=by
 obtain⟨o,p,ho,hp,bf⟩:=h.kL _ _ hr;unfold World.shape?;rw[ho,hp];rcases bf with⟨us,vs,e,fz,gz,rfl,rfl,hf,hs,hx⟩|⟨x,y,l,rfl,rfl,nb⟩
 ·simp[hs]
 ·rfl
theorem Eg (v:World)(a:Addr)(x:Value)(r:Nat):(v.setCell a x).heap[r]?=(v.heap[r]?).map fun o=>if r=a.block then(match o with| .cells c e f=> .cells (if a.spot.isSome then c else c.setIfInBounds a.off x) e f|o=>o)else o:=by
 simp only[World.setCell,Array.getElem?_modify];split
 ·rename_i h;subst h
  cases v.heap[a.block]? with
  |none=>rfl
  |some o=>simp only[Option.map_some,if_true];cases o<;>rfl
 ·rename_i h
  cases v.heap[r]? with
  |none=>rfl
  |some o=>simp[Ne.symm h]
theorem WR.set {m:aJ}{v w:World}(h:WR m v w){a b:Addr}(ha:bJ m a b){x y:Value}(hx:VR m x y):WR m (v.setCell a x) (w.setCell b y):=by
 refine⟨h.inj,fun r t hr=>?_,h.os,h.tape,h.drawn⟩
 obtain⟨o,p,ho,hp,bf⟩:=h.kL r t hr;rw[Eg,Eg,ho,hp];by_cases ZP:r=a.block
 ·have htb:t=b.block:=by rw[ZP,ha.1]at hr;exact(Option.some.inj hr).symm
  simp only[Option.map_some,if_pos ZP,if_pos htb];refine⟨_,_,rfl,rfl,?_⟩;rcases bf with⟨us,vs,e,fz,gz,rfl,rfl,hf,hs,hxx⟩|⟨z,z',l,rfl,rfl,hz⟩
  ·simp only[ha.2.2.1,ha.2.2.2,Option.isSome_none,Bool.false_eq_true,if_false]
   refine .inl ⟨_,_,e,fz,gz,rfl,rfl,hf,by simp[hs],fun i h1 h2=>?_⟩
   simp only[Array.size_setIfInBounds]at h1 h2;rw[Array.getElem_setIfInBounds,Array.getElem_setIfInBounds];rw[ha.2.1];split
   ·exact hx
   ·exact hxx i h1 h2
  ·exact .inr ⟨_,_,_,rfl,rfl,hz⟩
 ·have htb:t≠b.block:=fun e=>ZP (h.inj r a.block t hr (by rw[ha.1,e]))
  simp only[Option.map_some,if_neg ZP,if_neg htb];exact⟨_,_,rfl,rfl,bf⟩
def aJ.put (m:aJ)(r t:Nat):aJ:=⟨fun q=>if q=r then some t else m q,m.good⟩
theorem WR.new {m:aJ}{v w:World}(h:WR m v w){o p:Obj}(ho:mH m o p):
  aJ.le m (m.put v.heap.size w.heap.size)∧WR (m.put v.heap.size w.heap.size) {v with heap:=v.heap.push o} {w with heap:=w.heap.push p}:=by
 have hle:aJ.le m (m.put v.heap.size w.heap.size):=⟨fun r t hr=>by
  obtain⟨o1,p1,h1,_⟩:=h.kL r t hr;have ak:=(Array.getElem?_eq_some_iff.1 h1).1;show(if r=v.heap.size then some w.heap.size else m r)=some t
  rw[if_neg (by omega)]
  exact hr,rfl⟩
 refine⟨hle,fun r s t hr hs=>?_,fun r t hr=>?_,h.os,h.tape,h.drawn⟩
 ·change(if r=v.heap.size then some w.heap.size else m r)=some t at hr
  change(if s=v.heap.size then some w.heap.size else m s)=some t at hs
  split at hr<;>split at hs
  ·omega
  ·obtain⟨_,_,_,h2,_⟩:=h.kL s t hs
   have:=(Array.getElem?_eq_some_iff.1 h2).1
   injection hr with hr
   omega
  ·obtain⟨_,_,_,h2,_⟩:=h.kL r t hr
   have:=(Array.getElem?_eq_some_iff.1 h2).1
   injection hs with hs
   omega
  ·exact h.inj r s t hr hs
 ·change(if r=v.heap.size then some w.heap.size else m r)=some t at hr
  split at hr
  ·rename_i he
   injection hr with hr
   subst he hr;exact⟨o,p,by simp,by simp,ho.mono hle⟩
  ·obtain⟨o1,p1,h1,h2,h3⟩:=h.kL r t hr
   have l1:=(Array.getElem?_eq_some_iff.1 h1).1;have l2:=(Array.getElem?_eq_some_iff.1 h2).1;refine⟨o1,p1,?_,?_,h3.mono hle⟩
   ·show(v.heap.push o)[r]?=_
    rw[Array.getElem?_push,if_neg (by omega)];exact h1
   ·show(w.heap.push p)[t]?=_
    rw[Array.getElem?_push,if_neg (by omega)];exact h2
end
section
variable {τ:TypeId}{P' P:Program}{α β:Type}{RA:aJ→α→β→Prop}
theorem SR.run {s:Sem α}{s':Sem β}:∀{m:aJ} {v w:World} {es fs:Array Event} {a:α} {v':World} {bd:Array Event},SR τ P' P RA m s s'→WR m v w→s.runT P' v es=(.ok a v',bd)→
  ∃n b w' us lC,s'.runT P w fs=(.ok b w',fs++lC.toArray)∧bd=es++us.toArray∧zV n us lC∧RA n a b∧WR n v' w'∧Kept m n v w v' w':=by
 induction s generalizing s' with
 |pure a=>
  intro m v w es fs a1 v' bd h hw hr;obtain⟨b,rfl,eT⟩:=h;simp only[Sem.runT,Prod.mk.injEq,Result.ok.injEq]at hr;obtain⟨⟨rfl,rfl⟩,rfl⟩:=hr;exact⟨m,b,w,[],[],by simp[Sem.runT],by simp,.nil,eT,hw,Kept.refl m v w⟩
 |halt h0=>
  intro m v w es fs a1 v' bd h hw hr;simp[Sem.runT]at hr
 |load md a c ih=>
  intro m v w es fs a1 v' bd h hw hr;obtain⟨a',k',rfl,ha,hk⟩:=h;obtain⟨nG,n_,_⟩:=hw.cell ha;simp only[Sem.runT]at hr⊢
  cases hv:v.cell? a with
  |none=>
   obtain⟨o,hb,⟨us,e,fz,rfl⟩|⟨z,l,rfl⟩⟩:=n_<;>
   rw[hv]at hr<;>
   simp[World.farLoad,hb]at hr
  |some x=>
   obtain⟨y,hy,nb⟩:=nG x hv;rw[hv]at hr;rw[hy];simp only at hr⊢
   obtain⟨n,b,w',us,lC,h1,h2,h3,h4,h5,h6⟩:=ih x (fs:=fs.push ⟨.cell a',false,md== .atomic⟩) (hk m x y (aJ.le_refl m) nb) hw hr;refine⟨n,b,w',⟨.cell a,false,md== .atomic⟩::us,⟨.cell a',false,md== .atomic⟩::lC,?_,?_,.cons (.inl ⟨a,a',ha.mono h6.le,rfl,rfl,rfl,rfl⟩) h3,h4,h5,h6⟩
   ·rw[h1];simp
   ·rw[h2];simp
 |store md a x c ih=>
  intro m v w es fs a1 v' bd h hw hr;obtain⟨a',x',k',rfl,ha,hx,hk⟩:=h;obtain⟨nG,n_,kh⟩:=hw.cell ha;have tu:(∀cs,x≠.agg cs)∧(∀cs,x≠.tuple cs):=by
   constructor<;>(rintro cs rfl;simp[Sem.runT]at hr)
  have aba:(∀cs,x'≠.agg cs)∧(∀cs,x'≠.tuple cs):=by
   constructor
   ·rintro cs rfl;cases hx with
    |agg=>exact tu.1 _ rfl
    |iY _ hy=>exact(hy _).1 rfl
   ·rintro cs rfl;cases hx with
    |tuple=>exact tu.2 _ rfl
    |iY _ hy=>exact(hy _).2 rfl
  have e1:∀(q:World) (gs:Array Event),Sem.runT P' (.store md a x c) q gs=match q.cell? a with
    |some _=>if q.frozen? a then(.halt (.unsupported (.unsafePointer "a write to bytes that a string shares")) q,gs)else c.runT P' (q.setCell a x) (gs.push ⟨.cell a,true,md== .atomic⟩)
    |none=>match q.farStore P' a x (md== .atomic)with
     | .ok (q,jk)=>c.runT P' q (gs++jk.toArray.map (⟨.cell ·,true,md== .atomic⟩))
     | .error h=>(.halt h q,gs):=by
   intro q gs
   cases x<;>first|rfl|exact absurd rfl (tu.1 _)|exact absurd rfl (tu.2 _)
  have e2:∀(q:World) (gs:Array Event),Sem.runT P (.store md a' x' k') q gs=match q.cell? a' with
    |some _=>if q.frozen? a' then(.halt (.unsupported (.unsafePointer "a write to bytes that a string shares")) q,gs)else k'.runT P (q.setCell a' x') (gs.push ⟨.cell a',true,md== .atomic⟩)
    |none=>match q.farStore P a' x' (md== .atomic)with
     | .ok (q,jk)=>k'.runT P q (gs++jk.toArray.map (⟨.cell ·,true,md== .atomic⟩))
     | .error h=>(.halt h q,gs):=by
   intro q gs
   cases x'<;>first|rfl|exact absurd rfl (aba.1 _)|exact absurd rfl (aba.2 _)
  rw[e1]at hr
  cases hv:v.cell? a with
  |none=>
   obtain⟨o,hb,⟨us,e,fz,rfl⟩|⟨z,l,rfl⟩⟩:=n_<;>
   rw[hv]at hr<;>
   simp[World.farStore,hb]at hr
  |some u=>
   obtain⟨y,hy,_⟩:=nG u hv;rw[hv]at hr;simp only at hr
   split at hr
   ·simp at hr
   ·rename_i Oj
    obtain⟨n,b,w',us,lC,h1,h2,h3,h4,h5,h6⟩:=ih (fs:=fs.push ⟨.cell a',true,md== .atomic⟩) (hk m (aJ.le_refl m)) (hw.set ha hx) hr;refine⟨n,b,w',⟨.cell a,true,md== .atomic⟩::us,⟨.cell a',true,md== .atomic⟩::lC,?_,?_,.cons (.inl ⟨a,a',ha.mono h6.le,rfl,rfl,rfl,rfl⟩) h3,h4,h5,?_⟩
    ·rw[e2,hy]
     simp only
     rw[if_neg (by rw[kh (by simpa using Oj)];simp),h1]
     simp
    ·rw[h2];simp
    ·have dX:(v.setCell a x).heap.size=v.heap.size:=by simp[World.setCell]
     have Jf:(w.setCell a' x').heap.size=w.heap.size:=by simp[World.setCell]
     have V':¬fc v a.block:=fun h=>Oj (nU h hv)
     have lO:∀r,fc v r→(v.setCell a x).heap[r]?=v.heap[r]?:=by
      intro r hr0;rw[Eg];have:r≠a.block:=fun e=>V' (e▸hr0)
      simp[this]
     refine⟨h6.le,by rw[←dX];exact h6.size,by rw[←Jf];exact h6.lN,fun r h0=>(h6.kR r (h0.same (lO r h0))).trans (lO r h0),fun t ht hn=>?_,fun r t f_=>by rw[←dX,←Jf];exact h6.fresh r t f_,h6.drawn,h6.output,h6.os,h6.tape⟩
     rw[h6.old t (by rw[Jf];exact ht) fun r hr=>(hn r hr).same (lO r (hn r hr))]
     have:t≠a'.block:=fun e=>V' (hn a.block (by rw[e];exact ha.1))
     simp[World.setCell,Array.getElem?_modify,Ne.symm this]
 |new o c ih=>
  intro m v w es fs a1 v' bd h hw hr;obtain⟨o',k',rfl,ho,hk⟩:=h;obtain⟨hle,oa⟩:=hw.new ho;simp only[Sem.runT]at hr⊢;obtain⟨n,b,w',us,lC,h1,h2,h3,h4,h5,h6⟩:=ih v.heap.size (fs:=fs) (hk _ v.heap.size w.heap.size hle (by simp[aJ.put])) oa hr
  have lO:∀r,fc v r→(v.heap.push o)[r]?=v.heap[r]?:=by
   intro r h0;have:=h0.lt
   rw[Array.getElem?_push,if_neg (by omega)]
  refine⟨n,b,w',us,lC,h1,h2,h3,h4,h5,aJ.le_trans hle h6.le,?_,?_,fun r h0=>(h6.kR r (h0.same (lO r h0))).trans (lO r h0),fun t ht hn=>?_,fun r t f_=>?_,h6.drawn,h6.output,h6.os,h6.tape⟩
  ·have:=h6.size;simp at this;omega
  ·have:=h6.lN;simp at this;omega
  ·rw[h6.old t (by simp;omega) fun r f_=>?_]
   ·show(w.heap.push o')[t]?=_
    rw[Array.getElem?_push,if_neg (by omega)]
   ·change(if r=v.heap.size then some w.heap.size else m r)=some t at f_
    split at f_
    ·injection f_ with f_;omega
    ·exact(hn r f_).same (lO r (hn r f_))
  ·rcases h6.fresh r t f_ with h7|h7
   ·change(if r=v.heap.size then some w.heap.size else m r)=some t at h7
    split at h7
    ·injection h7 with h7;exact .inr (by omega)
    ·exact .inl h7
   ·simp at h7;exact .inr (by omega)
 |choose q c ih=>
  intro m v w es fs a1 v' bd h hw hr;obtain⟨k',rfl,hk⟩:=h;simp only[Sem.runT]at hr⊢;split at hr
  ·rename_i hf
   rw[if_pos hf];exact ih 0 (hk 0) hw hr
  ·rename_i hf
   rw[if_neg hf,hw.tape,hw.drawn];obtain⟨n,b,w',us,lC,h1,h2,h3,h4,h5,h6⟩:=ih (q.cut (v.tape v.drawn q)) (fs:=fs) (v:={v with drawn:=v.drawn+1}) (w:={w with tape:=v.tape,drawn:=v.drawn+1}) (hk _) ⟨hw.inj,hw.kL,hw.os,rfl,rfl⟩ hr
   exact⟨n,b,w',us,lC,h1,h2,h3,h4,h5,h6.le,h6.size,h6.lN,h6.kR,h6.old,h6.fresh,by have:=h6.drawn;simp at this;omega,h6.output,h6.os,h6.tape.trans hw.tape.symm⟩
 |program c ih=>
  intro m v w es fs a1 v' bd h hw hr;simp only[Sem.runT]at hr;rcases h with h|⟨k',rfl,hk⟩
  ·obtain⟨_,_,_,e,_⟩:=fh.run (P:=P') (v:=v) (es:=es) h;rw[e]at hr;simp at hr
  ·simp only[Sem.runT]
   exact ih P' hk hw hr
 |mark md c ih=>
  intro m v w es fs a1 v' bd h hw hr
  cases md with
  |noRoom=>
   obtain⟨k',rfl,hk⟩:=h;simp only[Sem.runT]at hr⊢;obtain⟨n,b,w',us,lC,h1,h2,h3,h4,h5,h6⟩:=ih (fs:=fs.push ⟨.mark .noRoom,false,true⟩) hk hw hr;refine⟨n,b,w',⟨.mark .noRoom,false,true⟩::us,⟨.mark .noRoom,false,true⟩::lC,?_,?_,.cons (.inr (.inl ⟨rfl,rfl⟩)) h3,h4,h5,h6⟩
   ·rw[h1];simp
   ·rw[h2];simp
  |_=>exact h.elim
 |shape r c ih=>
  intro m v w es fs a1 v' bd h hw hr;simp only[Sem.runT]at hr;rcases h with h|⟨r',k',rfl,f_,hk⟩
  ·obtain⟨_,_,_,e,_⟩:=fh.run (P:=P') (v:=v) (es:=es) (h (v.shape? r));rw[e]at hr;simp at hr
  ·simp only[Sem.runT]
   rw[hw.shape f_];exact ih _ (hk _) hw hr
 |freeze a n c ih=>intro m v w es fs a1 v' bd h;exact h.elim
 |frozen a c ih=>intro m v w es fs a1 v' bd h hw hr;simp only[Sem.runT]at hr;obtain⟨_,_,_,e,_⟩:=fh.run (P:=P') (v:=v) (es:=es) (h _);rw[e]at hr;simp at hr
 |getObj r c ih=>
  intro m v w es fs a1 v' bd h hw hr;obtain⟨r',k',rfl,f_,hk⟩:=h;obtain⟨o,p,ho,hp,bf⟩:=hw.kL _ _ f_;simp only[Sem.runT]at hr⊢;rw[ho]at hr;rw[hp];rcases bf with⟨us,vs,e,fz,gz,rfl,rfl,hf,hs,hx⟩|⟨x,y,l,rfl,rfl,nb⟩
  ·simp at hr
  ·obtain⟨n,b,w',us,lC,h1,h2,h3,h4,h5,h6⟩:=ih (.number x l) (fs:=fs.push ⟨.obj r',false,false⟩) (hk x y l nb) hw hr
   refine⟨n,b,w',⟨.obj r,false,false⟩::us,⟨.obj r',false,false⟩::lC,?_,?_,.cons (.inr (.inr ⟨r,r',h6.le.sub _ _ f_,rfl,rfl⟩)) h3,h4,h5,h6⟩
   ·show Sem.runT P (k' (.number y l)) w (fs.push ⟨.obj r',false,(Obj.number y l).isChan⟩)=_
    exact h1.trans (by simp)
   ·rw[h2];simp[Obj.isChan]
 |setObj r o c ih=>intro m v w es fs a1 v' bd h;exact h.elim
 |sys c k2 ih=>intro m v w es fs a1 v' bd h;exact h.elim
theorem SR.run_halt {s:Sem α}{s':Sem β}:∀{m:aJ} {v w:World} {es:Array Event} {h0:Halt} {v':World} {bd:Array Event},SR τ P' P RA m s s'→WR m v w→s.runT P' v es=(.halt h0 v',bd)→Plain τ h0:=by
 induction s generalizing s' with
 |pure a=>intro m v w es h0 v' bd h hw hr;simp[Sem.runT]at hr
 |halt h1=>
  intro m v w es h0 v' bd h hw hr;simp only[Sem.runT,Prod.mk.injEq,Result.halt.injEq]at hr;obtain⟨⟨rfl,_⟩,_⟩:=hr;exact h
 |load md a c ih=>
  intro m v w es h0 v' bd h hw hr;obtain⟨a',k',rfl,ha,hk⟩:=h;obtain⟨nG,n_,_⟩:=hw.cell ha;simp only[Sem.runT]at hr
  cases hv:v.cell? a with
  |none=>
   obtain⟨o,hb,⟨us,e,fz,rfl⟩|⟨z,l,rfl⟩⟩:=n_<;>
   (rw[hv]at hr
    simp[World.farLoad,World.noCell,hb]at hr;obtain⟨⟨rfl,_⟩,_⟩:=hr;trivial)
  |some x=>
   obtain⟨y,hy,nb⟩:=nG x hv;rw[hv]at hr;exact ih x (hk m x y (aJ.le_refl m) nb) hw hr
 |store md a x c ih=>
  intro m v w es h0 v' bd h hw hr;obtain⟨a',x',k',rfl,ha,hx,hk⟩:=h;obtain⟨nG,n_,kh⟩:=hw.cell ha;by_cases tu:(∀cs,x≠.agg cs)∧(∀cs,x≠.tuple cs)
  ·have e1:∀(q:World) (gs:Array Event),Sem.runT P' (.store md a x c) q gs=match q.cell? a with
     |some _=>if q.frozen? a then(.halt (.unsupported (.unsafePointer "a write to bytes that a string shares")) q,gs)else c.runT P' (q.setCell a x) (gs.push ⟨.cell a,true,md== .atomic⟩)
     |none=>match q.farStore P' a x (md== .atomic)with
      | .ok (q,jk)=>c.runT P' q (gs++jk.toArray.map (⟨.cell ·,true,md== .atomic⟩))
      | .error h=>(.halt h q,gs):=by
    intro q gs
    cases x<;>first|rfl|exact absurd rfl (tu.1 _)|exact absurd rfl (tu.2 _)
   rw[e1]at hr
   cases hv:v.cell? a with
   |none=>
    obtain⟨o,hb,⟨us,e,fz,rfl⟩|⟨z,l,rfl⟩⟩:=n_<;>
    (rw[hv]at hr
     simp[World.farStore,World.noCell,hb]at hr;obtain⟨⟨rfl,_⟩,_⟩:=hr;trivial)
   |some u=>
    rw[hv]at hr;simp only at hr
    split at hr
    ·simp only[Prod.mk.injEq,Result.halt.injEq]at hr
     obtain⟨⟨rfl,_⟩,_⟩:=hr;intro g hg;cases hg
    ·exact ih (hk m (aJ.le_refl m)) (hw.set ha hx) hr
  ·cases x<;>first
    |(simp only[Sem.runT,Prod.mk.injEq,Result.halt.injEq]at hr;obtain⟨⟨rfl,_⟩,_⟩:=hr;trivial)
    |(exact absurd ⟨nofun,nofun⟩ tu)
 |new o c ih=>
  intro m v w es h0 v' bd h hw hr;obtain⟨o',k',rfl,ho,hk⟩:=h;obtain⟨hle,oa⟩:=hw.new ho;simp only[Sem.runT]at hr;exact ih v.heap.size (hk _ v.heap.size w.heap.size hle (by simp[aJ.put])) oa hr
 |choose q c ih=>
  intro m v w es h0 v' bd h hw hr;obtain⟨k',rfl,hk⟩:=h;simp only[Sem.runT]at hr;split at hr
  ·exact ih 0 (hk 0) hw hr
  ·exact ih (q.cut (v.tape v.drawn q)) (v:={v with drawn:=v.drawn+1}) (w:={w with tape:=v.tape,drawn:=v.drawn+1}) (hk _) ⟨hw.inj,hw.kL,hw.os,rfl,rfl⟩ hr
 |program c ih=>
  intro m v w es h0 v' bd h hw hr;simp only[Sem.runT]at hr;rcases h with h|⟨k',rfl,hk⟩
  ·obtain⟨_,_,_,e,hp⟩:=fh.run (P:=P') (v:=v) (es:=es) h
   rw[e]at hr;simp only[Prod.mk.injEq,Result.halt.injEq]at hr;rw[←hr.1.1];exact hp
  ·exact ih P' hk hw hr
 |mark md c ih=>
  intro m v w es h0 v' bd h hw hr
  cases md with
  |noRoom=>
   obtain⟨k',rfl,hk⟩:=h;simp only[Sem.runT]at hr;exact ih hk hw hr
  |_=>exact h.elim
 |shape r c ih=>
  intro m v w es h0 v' bd h hw hr;simp only[Sem.runT]at hr;rcases h with h|⟨r',k',rfl,f_,hk⟩
  ·obtain⟨_,_,_,e,hp⟩:=fh.run (P:=P') (v:=v) (es:=es) (h (v.shape? r))
   rw[e]at hr;simp only[Prod.mk.injEq,Result.halt.injEq]at hr;rw[←hr.1.1];exact hp
  ·exact ih _ (hk _) hw hr
 |frozen a c ih=>
  intro m v w es h0 v' bd h hw hr;simp only[Sem.runT]at hr;obtain⟨_,_,_,e,hp⟩:=fh.run (P:=P') (v:=v) (es:=es) (h (v.frozen? a));rw[e]at hr;simp only[Prod.mk.injEq,Result.halt.injEq]at hr;rw[←hr.1.1];exact hp
 |freeze a n c ih=>intro m v w es h0 v' bd h;exact h.elim
 |getObj r c ih=>
  intro m v w es h0 v' bd h hw hr;obtain⟨r',k',rfl,f_,hk⟩:=h;obtain⟨o,p,ho,hp,bf⟩:=hw.kL _ _ f_;simp only[Sem.runT]at hr;rw[ho]at hr;rcases bf with⟨us,vs,e,fz,gz,rfl,rfl,hf,hs,hx⟩|⟨x,y,l,rfl,rfl,nb⟩
  ·simp only[Prod.mk.injEq,Result.halt.injEq]at hr
   obtain⟨⟨rfl,_⟩,_⟩:=hr;trivial
  ·exact ih (.number x l) (hk x y l nb) hw hr
 |setObj r o c ih=>intro m v w es h0 v' bd h;exact h.elim
 |sys c k2 ih=>intro m v w es h0 v' bd h;exact h.elim
end
end Go.Proofs.YtabjbdnokpjipaaGreat.Sr
namespace Go.Proofs.YtabjbdnokpjipaaGreat.Sr
open Go
abbrev bk (τ:TypeId) (P:Program) (F:Array Func) {α β:Type} (RA:aJ→α→β→Prop) (m:aJ) (s:Sem α) (s':Sem β):Prop:=SR τ (Program.mk (Program.toTables P) F) P RA m s s'
def fw {α:Type}:aJ→α→α→Prop:=fun _ a b=>a=b
structure gu (τ:TypeId) (P:Program):Prop where
 bounds:P.rt.boundsError≠τ
 error:P.rt.errorString≠τ
 plain:P.rt.plainError≠τ
 adZ:P.rt.unhashableTypeError≠τ
section
variable {τ:TypeId}{P:Program}{F:Array Func}{α β γ δ:Type}{m:aJ}
theorem dO {f:Program→Sem α}{f':Program→Sem β}{RA:aJ→α→β→Prop}(h:bk τ P F RA m (f (Program.mk (Program.toTables P) F)) (f' P)):bk τ P F RA m (program.bind f) (program.bind f'):= .inr ⟨_,rfl,h⟩
theorem sP {RA:aJ→α→β→Prop}{a:α}{b:β}(h:RA m a b):bk τ P F RA m (Sem.pure a) (Sem.pure b):=⟨b,rfl,h⟩
theorem bV {a:α}:bk τ P F fw m (Sem.pure a) (Sem.pure a):=⟨a,rfl,rfl⟩
theorem mI {RA:aJ→α→β→Prop}{u:Unsupported}{s':Sem β}(h:∀g,u≠.initOrder g):bk τ P F RA m (unsupported u) s':=h
theorem mJ {RA:aJ→α→β→Prop}{s':Sem β}(R:gu τ P){e:RuntimeError}(he:(∃x y s c,e= .bounds x y s c)∨(∃t,e= .error t)∨(∃t,e= .plain t)∨e= .nilDeref):bk τ P F RA m (runtimePanic e:Sem α) (runtimePanic e:Sem β):=by
 rcases he with⟨x,y,s,c,rfl⟩|⟨t,rfl⟩|⟨t,rfl⟩|rfl
 ·exact dO (fun u h=>R.bounds (by injection h))
 ·exact dO (fun u h=>R.error (by injection h))
 ·exact dO (fun u h=>R.plain (by injection h))
 ·exact dO (fun u h=>R.error (by injection h))
theorem nV {RA:aJ→α→β→Prop}(R:gu τ P){t:String}:bk τ P F RA m (runtimePanic (.error t):Sem α) (runtimePanic (.error t):Sem β):=mJ (s':=Sem.halt (.stuck "")) R (.inr (.inl ⟨t,rfl⟩))
theorem ir {RA:aJ→α→β→Prop}(R:gu τ P):bk τ P F RA m (runtimePanic .nilDeref:Sem α) (runtimePanic .nilDeref:Sem β):=mJ (s':=Sem.halt (.stuck "")) R (.inr (.inr (.inr rfl)))
theorem zW {RA:aJ→α→β→Prop}(R:gu τ P){s':Sem β}:bk τ P F RA m (runtimePanic .nilDeref:Sem α) s':= .inl (fun u h=>R.error (by injection h))
theorem qP (q:Question):bk τ P F fw m (choose q) (choose q):=⟨_,rfl,fun _=>bV⟩
theorem fF {RA:aJ→α→β→Prop}(R:gu τ P){k:IntKind}{x y:Int}{c:BoundsCode}:bk τ P F RA m (boundsPanic k x y c:Sem α) (boundsPanic k x y c:Sem β):=by
 unfold boundsPanic;split
 ·refine SR.bind (RA:=fw) ?_ fun n a b _ e=>?_
  ·exact SR.bind (qP _) fun n a b _ e=>by subst e;exact bV
  ·subst e;exact mJ (s':=Sem.halt (.stuck "")) R (.inl ⟨_,_,_,_,rfl⟩)
 ·exact mJ (s':=Sem.halt (.stuck "")) R (.inl ⟨_,_,_,_,rfl⟩)
theorem fI (t:TypeId):bk τ P F fw m (typeInfo t) (typeInfo t):=by
 unfold typeInfo;refine dO ?_;show bk τ P F fw m (match P.info? t with|some i=>pure i|none=>stuck "no such type") _
 cases P.info? t with
 |none=>trivial
 |some i=>exact⟨i,rfl,rfl⟩
theorem sU (t:TypeId):bk τ P F (fun _ a b=>a=b∧P.underlying t=some a) m (underlying t) (underlying t):=by
 unfold underlying;refine dO ?_;show bk τ P F _ m (match P.underlying t with|some d=>pure d|none=>stuck "no such type") _
 cases P.underlying t with
 |none=>trivial
 |some i=>exact⟨i,rfl,rfl,rfl⟩
theorem vg (t:TypeId):bk τ P F fw m (sizeOf t) (sizeOf t):=(fI t).bind fun _ a b _ e=>by subst e;exact⟨_,rfl,rfl⟩
theorem Fh (t:TypeId):bk τ P F fw m (isAgg t) (isAgg t):=(sU t).bind fun _ a b _ e=>by
 obtain⟨rfl,_⟩:=e
 cases a<;>exact⟨_,rfl,rfl⟩
def wq (fuel:Nat):Value→Bool:=fun v=>match fuel,v with
 |_,.bool _|_,.int _ _|_,.string _|_,.pointer none|_,.slice none _ _|_,.map none|_,.nilFunc|_,.nilIface=>true
 |n+1,.agg cs=>cs.all (wq n)
 |_,_=>false
theorem Ro (m:aJ):∀(n:Nat) (v:Value),wq n v=true→VR m v v
 |n,.bool b,_=> .bool b
 |n,.int k z,_=> .int k z
 |n,.string s,_=> .string s
 |n,.pointer none,_=> .nilPtr
 |n,.slice none l c,_=> .c8 l c
 |n,.map none,_=> .mz
 |n,.nilFunc,_=> .nilFunc
 |n,.nilIface,_=> .nilIface
 |n+1,.agg cs,h=> .agg rfl fun i h1 _=>Ro m n _ (by
   have h':cs.all (wq n)=true:=by simpa[wq]using h
   exact Array.all_eq_true_iff_forall_mem.1 h' _ (Array.getElem_mem h1))
 |0,.agg _,h=>by simp[wq]at h
 |n,.float ..,h=>by cases n<;>simp[wq]at h
 |n,.complex ..,h=>by cases n<;>simp[wq]at h
 |n,.pointer (some _),h=>by cases n<;>simp[wq]at h
 |n,.slice (some _) _ _,h=>by cases n<;>simp[wq]at h
 |n,.map (some _),h=>by cases n<;>simp[wq]at h
 |n,.chan _,h=>by cases n<;>simp[wq]at h
 |n,.func ..,h=>by cases n<;>simp[wq]at h
 |n,.iface ..,h=>by cases n<;>simp[wq]at h
 |n,.tuple _,h=>by cases n<;>simp[wq]at h
def vv (P:Program)(t:TypeId):Bool:=match P.info? t with
 |some i=>match i.zero with
  |some z=>wq 6 z
  |none=>true
 |none=>true
def zX (P:Program)(t:TypeId):Bool:=match P.underlying t with
 |some (.slice e)=>vv P e
 |_=>true
theorem tv {t e:TypeId}(h:zX P t=true)(hd:P.underlying t=some (.slice e)):vv P e=true:=by
 unfold zX at h;rw[hd]at h;exact h
theorem iS (t:TypeId)(hZ:vv P t=true):bk τ P F VR m (zeroValue t) (zeroValue t):=by
 unfold zeroValue typeInfo;refine SR.bind (RA:=fun _ a b=>a=b∧P.info? t=some a) ?_ fun n a b _ e=>?_
 ·refine dO ?_
  show bk τ P F _ m (match P.info? t with|some i=>pure i|none=>stuck "no such type") _
  cases h:P.info? t with
  |none=>trivial
  |some i=>exact⟨i,rfl,rfl,rfl⟩
 ·obtain⟨rfl,hi⟩:=e
  cases h:a.zero with
  |none=>exact mI nofun
  |some z=>
   unfold vv at hZ;rw[hi]at hZ;simp only[h]at hZ;exact⟨z,rfl,Ro n 6 z hZ⟩
theorem Jg {a b:Addr}(ha:bJ m a b):bk τ P F VR m (load a) (load b):=⟨b,_,rfl,ha,fun n v v' _ hv=>⟨v',rfl,hv⟩⟩
theorem Ss {a b:Addr}{x y:Value}(ha:bJ m a b)(hx:VR m x y):bk τ P F fw m (store a x) (store b y):=⟨b,y,_,rfl,ha,hx,fun n _=>⟨(),rfl,rfl⟩⟩
theorem AR.nil:AR m #[] #[]:=⟨rfl,fun i h1 _=>by simp at h1⟩
theorem AR.push {us vs:Array Value}(h:AR m us vs){x y:Value}(hx:VR m x y):AR m (us.push x) (vs.push y):=by
 refine⟨by simp[h.1],fun i h1 h2=>?_⟩
 rw[Array.getElem_push,Array.getElem_push];simp only[Array.size_push]at h1 h2;by_cases hi:i<us.size
 ·rw[dif_pos hi,dif_pos (by rw[←h.1];exact hi)];exact h.2 i hi _
 ·rw[dif_neg hi,dif_neg (by rw[←h.1];exact hi)];exact hx
theorem AR.get? {us vs:Array Value}(h:AR m us vs)(i:Nat):(us[i]?=none∧vs[i]?=none)∨∃x y,us[i]?=some x∧vs[i]?=some y∧VR m x y:=by
 by_cases hi:i<us.size
 ·have hj:i<vs.size:=by rw[←h.1];exact hi
  exact .inr ⟨us[i],vs[i],Array.getElem?_eq_getElem hi,Array.getElem?_eq_getElem hj,h.2 i hi hj⟩
 ·exact .inl ⟨Array.getElem?_eq_none (by omega),Array.getElem?_eq_none (by rw[←h.1];omega)⟩
theorem AR.of_get? {us vs:Array Value}(h:∀i:Nat,(us[i]?=none∧vs[i]?=none)∨∃x y,us[i]?=some x∧vs[i]?=some y∧VR m x y):AR m us vs:=by
 have hs:us.size=vs.size:=by
  have h1:=h us.size;have h2:=h vs.size;simp only[Array.getElem?_eq_none (Nat.le_refl us.size),Array.getElem?_eq_none (Nat.le_refl vs.size)]at h1 h2;rcases h1 with⟨_,h1⟩|⟨_,_,h1,_⟩
  ·rcases h2 with⟨h2,_⟩|⟨_,_,_,h2,_⟩
   ·have:=Array.getElem?_eq_none_iff.1 h1;have:=Array.getElem?_eq_none_iff.1 h2;omega
   ·cases h2
  ·cases h1
 refine⟨hs,fun i h1 h2=>?_⟩
 rcases h i with⟨h3,_⟩|⟨x,y,h3,h4,h5⟩
 ·rw[Array.getElem?_eq_getElem h1]at h3;cases h3
 ·rw[Array.getElem?_eq_getElem h1]at h3
  rw[Array.getElem?_eq_getElem h2]at h4
  cases h3;cases h4;exact h5
theorem AR.getD {us vs:Array Value}(h:AR m us vs)(i:Nat){d e:Value}(hd:VR m d e):VR m (us.getD i d) (vs.getD i e):=by
 rw[Array.getD_eq_getD_getElem?,Array.getD_eq_getD_getElem?];rcases h.get? i with⟨h1,h2⟩|⟨x,y,h1,h2,h3⟩
 ·rw[h1,h2];exact hd
 ·rw[h1,h2];exact h3
theorem AR.append {us vs xs ys:Array Value}(h:AR m us vs)(k:AR m xs ys):AR m (us++xs) (vs++ys):=by
 refine AR.of_get? fun i=>?_;rw[Array.getElem?_append,Array.getElem?_append,←h.1];split
 ·exact h.get? i
 ·exact k.get? _
theorem AR.extract {us vs:Array Value}(h:AR m us vs)(i j:Nat):AR m (us.extract i j) (vs.extract i j):=by
 refine AR.of_get? fun q=>?_;rw[Array.getElem?_extract,Array.getElem?_extract,←h.1];split
 ·exact h.get? _
 ·exact .inl ⟨rfl,rfl⟩
theorem AR.set {us vs:Array Value}(h:AR m us vs)(i:Nat){x y:Value}(hx:VR m x y):AR m (us.setIfInBounds i x) (vs.setIfInBounds i y):=by
 refine⟨by simp[h.1],fun j h1 h2=>?_⟩
 simp only[Array.size_setIfInBounds]at h1 h2;rw[Array.getElem_setIfInBounds,Array.getElem_setIfInBounds];split
 ·exact hx
 ·exact h.2 j h1 h2
theorem VR.undef:VR m undef undef:= .tuple rfl fun i h _=>by simp at h
theorem VR.default:VR m default default:= .bool false
theorem AR.one {x y:Value}(h:VR m x y):AR m #[x] #[y]:=(AR.nil.push h)
theorem AR.map {ι:Type}{f g:ι→Value}(xs:Array ι)(h:∀x∈xs,VR m (f x) (g x)):AR m (xs.map f) (xs.map g):=
 ⟨by simp,fun i h1 h2=>by simp only[Array.getElem_map];exact h _ (Array.getElem_mem _)⟩
theorem aeR {a b:Addr}(i:Nat):∀(k:Nat) {m:aJ} {us vs:Array Value} (i:Nat),bJ m a b→AR m us vs→bk τ P F AR m (loadCellsFrom a i k us) (loadCellsFrom b i k vs)
 |0,m,us,vs,i,_,h=>⟨vs,rfl,h⟩
 |k+1,m,us,vs,i,ha,h=>(Jg (ha.add i)).bind fun n x y hn hx=>aeR i k (i+1) (ha.mono hn) ((h.mono hn).push hx)
theorem vw {a b:Addr}(k:Nat)(ha:bJ m a b):bk τ P F AR m (loadCells a k) (loadCells b k):=aeR 0 k 0 ha AR.nil
theorem tw (t:TypeId){a b:Addr}(ha:bJ m a b):bk τ P F VR m (loadVar t a) (loadVar t b):=by
 refine SR.bind (Fh t) fun n p q hn e=>?_;subst e
 cases p
 ·exact Jg (ha.mono hn)
 ·exact(vg t).bind fun n2 p q h2 e=>by
   subst e;exact(vw p ((ha.mono hn).mono h2)).bind fun n3 us vs _ h=>⟨_,rfl,.agg h.1 h.2⟩
theorem VR.cells {x y:Value}(h:VR m x y):AR m x.cells y.cells:=by
 cases h with
 |agg hs hh=>exact⟨hs,hh⟩
 |iY y hy hn=>
  have:y.cells= #[y]:=by cases y<;>first|rfl|exact absurd rfl (hy _).1
  rw[this];exact AR.one (.iY y hy hn)
 |_=>refine AR.one ?_;first
  |exact .bool _|exact .int _ _|exact .string _|exact .nilPtr|exact .c8 _ _|exact .mz|exact .nilFunc|exact .nilIface
  |(constructor<;>assumption)
theorem oc {a b:Addr}:∀(us vs:List Value) {m:aJ} (i:Nat),bJ m a b→us.length=vs.length→(∀i (h1:i<us.length) (h2:i<vs.length),VR m us[i] vs[i])→bk τ P F fw m (storeCells a us i) (storeCells b vs i)
 |[],[],m,i,_,_,_=>⟨(),rfl,rfl⟩
 |x::us,y::vs,m,i,ha,hl,h=>(Ss (ha.add i) (h 0 (by simp) (by simp))).bind fun n _ _ hn _=>
   oc us vs (i+1) (ha.mono hn) (by simpa using hl) fun j h1 h2=>(h (j+1) (by simpa using h1) (by simpa using h2)).mono hn
 |[],_::_,m,i,_,hl,_=>by simp at hl
 |_::_,[],m,i,_,hl,_=>by simp at hl
theorem AR.list {us vs:Array Value}(h:AR m us vs):us.toList.length=vs.toList.length∧∀i (h1:i<us.toList.length) (h2:i<vs.toList.length),VR m us.toList[i] vs.toList[i]:=
 ⟨by simpa using h.1,fun i h1 h2=>by simpa using h.2 i (by simpa using h1) (by simpa using h2)⟩
theorem GI (t:TypeId){a b:Addr}{x y:Value}(ha:bJ m a b)(hx:VR m x y):bk τ P F fw m (storeVar t a x) (storeVar t b y):=by
 refine SR.bind (vg t) fun n p q hn e=>?_;subst e;have hc:=(hx.mono hn).cells;dsimp only
 split
 ·trivial
 ·rename_i hs
  rw[if_neg (by rw[←hc.1];exact hs)]
  exact oc _ _ 0 (ha.mono hn) hc.list.1 hc.list.2
theorem od (e:TypeId){us vs:Array Value}(h:AR m us vs):bk τ P F bJ m (newRow e us) (newRow e vs):=
 ⟨.cells vs e,_,rfl,mH.cells (Fz.refl _) h,fun n r r' _ hr=>⟨⟨r',0,none⟩,rfl,hr,rfl,rfl,rfl⟩⟩
theorem BV (t:TypeId){x y:Value}(h:VR m x y):bk τ P F bJ m (newVar t x) (newVar t y):=od t h.cells
theorem pd {x y:Value}(h:VR m x y):bk τ P F fw m (asIntOf x) (asIntOf y):=by
 cases h<;>first|exact bV|trivial|exact mI nofun
theorem uM {x y:Value}(h:VR m x y):bk τ P F fw m (asInt x) (asInt y):=(pd h).bind fun _ a b _ e=>by subst e;exact bV
theorem Ol {x y:Value}(h:VR m x y):bk τ P F fw m (asBool x) (asBool y):=by
 cases h<;>first|exact bV|trivial
theorem kT {x y:Value}(h:VR m x y):bk τ P F bJ m (Instr.sureAddr x) (Instr.sureAddr y):=by
 cases h<;>first|trivial|(rename_i hs;exact sP hs)
theorem wu (R:gu τ P){x y:Value}(h:VR m x y):bk τ P F bJ m (asAddr x) (asAddr y):=by
 cases h<;>first|trivial|exact ir R|(rename_i hs;exact sP hs)
theorem tx (t:TypeId){us vs:Array Value}(off:Nat)(h:AR m us vs):bk τ P F VR m (part t us off) (part t vs off):=by
 unfold part;refine SR.bind (Fh t) fun n p q hn e=>?_;subst e
 cases p
 ·simp only[Bool.false_eq_true,if_false]
  rcases(h.mono hn).get? off with⟨h1,h2⟩|⟨x,y,h1,h2,h3⟩
  ·rw[h1];trivial
  ·rw[h1,h2];exact sP h3
 ·exact(vg t).bind fun n2 p q h2 e=>by
   subst e;have:=((h.mono hn).mono h2).extract off (off+p)
   exact sP (.agg this.1 this.2)
end
end Go.Proofs.YtabjbdnokpjipaaGreat.Sr
