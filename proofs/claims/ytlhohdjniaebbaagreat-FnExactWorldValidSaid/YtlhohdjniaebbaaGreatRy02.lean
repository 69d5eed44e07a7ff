/-
What is proved: nothing: the list of the functions that the laws at hand reach, not and what rests on it. Conditions: as stated.
-/
import Derived.Test.YtlhohdjniaebbaaGreatRy01
import Derived.Test.YtlhohdjniaebbaaGreatProg
import Derived.WalkKit
import Derived.Laws.Sem
set_option linter.unusedVariables false
set_option linter.unusedSimpArgs false
namespace Go.Proofs.YtlhohdjniaebbaaGreat.Tw
open Go
def se:List Nat:=[3,4,5,6,7,8,9,10,11,12,13,14,15,16,17,18,19,20,21,22,23,24,25,26,27,28,29,30,31,32,33,34,35,36,37,38,39,40,41,42,43,44,45,46,47,48,49,50,51,52,53,54,55,56,57,58,59,60,61,62,63,64,65,66,67,68,69,70,71,72,73,74,75,76,77,78,79,80,81,82,83,84,85,86,87,88,89,90,91,92,93,94,95,96,97,98,99,100,101,102,103,104,105,106,107,108,109,110,111,112,113,114,115,116,117,118,119,120,121,122,123,124,125,126,127,128,131,132,133,134,135,136,137,138,139,140,141,142,143,144,145,146,147,148,149,150,151,152,153,154,155,156,157,158,159,160,161,162,163,164,165,166,167,168,171,172,173,174,175,176,177,178,179,180,181,182,183,184,185,187,188,189,190,191,200,201,202,203,204,205,206,207,208,209,221,222,223,238,239,245,262,263,264,265,266,267,268]
end Go.Proofs.YtlhohdjniaebbaaGreat.Tw
namespace Go.Proofs.YtlhohdjniaebbaaGreat.Sr
open Go
structure aD where
 to:Nat→Option Nat
 good:FuncId→Bool
instance:CoeFun aD (fun _=>Nat→Option Nat):=⟨aD.to⟩
structure aD.le (a b:aD):Prop where
 sub:∀r t,a r=some t→b r=some t
 good:a.good=b.good
theorem aD.le_refl (a:aD):aD.le a a:=⟨fun _ _ h=>h,rfl⟩
theorem aD.le_trans {a b c:aD}(h:aD.le a b)(k:aD.le b c):aD.le a c:=⟨fun _ _ x=>k.sub _ _ (h.sub _ _ x),h.good.trans k.good⟩
def cA (f:FuncId):Option Nat:=if f=147 then some 3 else if f=77 then some 2 else none
def yd (f:FuncId):Bool:=f==120
def VT:List TypeId:=[251,75]
def VU:List TypeId:=[216,218,220]
def CP:List TypeId:=VT++VU
def aD.fn (m:aD):Fn→Prop
 | .func f=>m.good f=true∧cA f=none
 |_=>False
def bA (m:aD)(a b:Addr):Prop:=m a.block=some b.block∧b.off=a.off∧a.spot=none∧b.spot=none
theorem bA.mono {m n:aD}(h:aD.le m n){a b:Addr}(x:bA m a b):bA n a b:=⟨h.sub _ _ x.1,x.2⟩
theorem bA.add {m:aD}{a b:Addr}(x:bA m a b)(k:Nat):bA m (a.add k) (b.add k):=by
 unfold Addr.add;split
 ·exact x
 ·exact⟨x.1,by rw[x.2.1],rfl,rfl⟩
inductive VR (m:aD):Value→Value→Prop
 |bool (b:Bool):VR m (.bool b) (.bool b)
 |int (k:IntKind) (n:Int):VR m (.int k n) (.int k n)
 |string (s:ByteArray):VR m (.string s) (.string s)
 |nilPtr:VR m (.pointer none) (.pointer none)
 |ptr {a b:Addr} (h:bA m a b):VR m (.pointer (some a)) (.pointer (some b))
 |cp (l c:Nat):VR m (.slice none l c) (.slice none l c)
 |slice {a b:Addr} (l c:Nat) (h:bA m a b):VR m (.slice (some a) l c) (.slice (some b) l c)
 |dO {a b:Addr}:VR m (.slice (some a) 0 0) (.slice (some b) 0 0)
 |j_:VR m (.map none) (.map none)
 |nilFunc:VR m .nilFunc .nilFunc
 |nilIface:VR m .nilIface .nilIface
 |iface (t:TypeId) (ht:CP.contains t=true) {u v:Value} (h:VR m u v):VR m (.iface t u) (.iface t v)
 |func (f:Fn) (hf:m.fn f) {us vs cs ds:Array Value} (hs:us.size=vs.size) (h:∀i (h1:i<us.size) (h2:i<vs.size),VR m us[i] vs[i])
   (ht:cs.size=ds.size) (k:∀i (h1:i<cs.size) (h2:i<ds.size),VR m cs[i] ds[i]):VR m (.func f us cs) (.func f vs ds)
 |agg {us vs:Array Value} (hs:us.size=vs.size) (h:∀i (h1:i<us.size) (h2:i<vs.size),VR m us[i] vs[i]):VR m (.agg us) (.agg vs)
 |tuple {us vs:Array Value} (hs:us.size=vs.size) (h:∀i (h1:i<us.size) (h2:i<vs.size),VR m us[i] vs[i]):VR m (.tuple us) (.tuple vs)
 |fS (y:Value) (hy:∀cs,y≠.agg cs∧y≠.tuple cs) (hn:y≠.nilIface∧∀b,y≠.bool b):VR m .nilFunc y
theorem VR.mono {m n:aD}(h:aD.le m n){u v:Value}(x:VR m u v):VR n u v:=by
 induction x with
 |bool b=>exact .bool b
 |int k j=>exact .int k j
 |string s=>exact .string s
 |nilPtr=>exact .nilPtr
 |ptr hx=>exact .ptr (hx.mono h)
 |cp l c=>exact .cp l c
 |slice l c hx=>exact .slice l c (hx.mono h)
 |dO=>exact .dO
 |j_=>exact .j_
 |nilFunc=>exact .nilFunc
 |nilIface=>exact .nilIface
 |iface t ht _ ih=>exact .iface t ht ih
 |func f hf hs _ ht _ ih ye=>exact .func f (by cases f<;>simp_all[aD.fn,←h.good]) hs (fun i h1 h2=>ih i h1 h2) ht (fun i h1 h2=>ye i h1 h2)
 |agg hs _ ih=>exact .agg hs (fun i h1 h2=>ih i h1 h2)
 |tuple hs _ ih=>exact .tuple hs (fun i h1 h2=>ih i h1 h2)
 |fS y hy hn=>exact .fS y hy hn
def AR (m:aD)(us vs:Array Value):Prop:=us.size=vs.size∧∀i (h1:i<us.size) (h2:i<vs.size),VR m us[i] vs[i]
theorem AR.mono {m n:aD}(h:aD.le m n){us vs:Array Value}(x:AR m us vs):AR n us vs:=⟨x.1,fun i h1 h2=>(x.2 i h1 h2).mono h⟩
def Fz (f g:Nat×Nat):Prop:=∀o,g.1≤o→o<g.2→f.1≤o∧o<f.2
theorem Fz.refl (f:Nat×Nat):Fz f f:=fun _ h k=>⟨h,k⟩
def ko (m:aD)(o p:Obj):Prop:=(∃us vs e fz gz,o= .cells us e fz∧p= .cells vs e gz∧Fz fz gz∧AR m us vs)∨(∃a b l,o= .number a l∧p= .number b l∧bA m a b)
theorem ko.cells {m:aD}{us vs:Array Value}{e:TypeId}{fz gz:Nat×Nat}(hf:Fz fz gz)(h:AR m us vs):ko m (.cells us e fz) (.cells vs e gz):= .inl ⟨us,vs,e,fz,gz,rfl,rfl,hf,h⟩
theorem ko.mono {m n:aD}(h:aD.le m n){o p:Obj}(x:ko m o p):ko n o p:=by
 rcases x with⟨us,vs,e,fz,gz,rfl,rfl,hf,ha⟩|⟨a,b,l,rfl,rfl,ha⟩
 ·exact .inl ⟨us,vs,e,fz,gz,rfl,rfl,hf,ha.mono h⟩
 ·exact .inr ⟨a,b,l,rfl,rfl,ha.mono h⟩
structure WR (m:aD) (v w:World):Prop where
 inj:∀r s t,m r=some t→m s=some t→r=s
 iX:∀r t,m r=some t→∃o p,v.heap[r]?=some o∧w.heap[t]?=some p∧ko m o p
 os:w.os=v.os
 tape:w.tape=v.tape
 drawn:w.drawn=v.drawn
def Plain (τ:TypeId):Halt→Prop
 | .panic v=>∀u,v≠.iface τ u
 | .stuck _=>True
 | .unsupported u=>∀g,u≠.initOrder g
 |_=>False
def dM (τ:TypeId){α:Type}:Sem α→Prop
 | .new _ k=>∀r,dM τ (k r)
 | .shape _ k=>∀x,dM τ (k x)
 | .frozen _ k=>∀b,dM τ (k b)
 | .choose _ k=>∀n,dM τ (k n)
 | .program k=>∀p,dM τ (k p)
 | .mark _ k=>dM τ k
 | .halt h=>Plain τ h
 |_=>False
theorem dM.run {τ:TypeId}{α:Type}{s:Sem α}:∀{P:Program} {v:World} {es:Array Event},dM τ s→∃h v' aQ,s.runT P v es=(.halt h v',aQ)∧Plain τ h:=by
 induction s with
 |halt h0=>intro P v es h;exact⟨h0,v,es,rfl,h⟩
 |new o c ih=>intro P v es h;exact ih _ (h _)
 |shape r c ih=>intro P v es h;exact ih _ (h _)
 |frozen a c ih=>intro P v es h;exact ih _ (h _)
 |choose q c ih=>
  intro P v es h;simp only[Sem.runT];split
  ·exact ih _ (h _)
  ·exact ih _ (h _)
 |program c ih=>intro P v es h;exact ih _ (h _)
 |mark m c ih=>intro P v es h;exact ih h
 |_=>intro P v es h;exact h.elim
def SR (τ:TypeId)(P' P:Program){α β:Type}(RA:aD→α→β→Prop):aD→Sem α→Sem β→Prop
 |m,.pure a,s'=>∃b,s'= .pure b∧RA m a b
 |m,.load md a k,s'=>∃a' k',s'= .load md a' k'∧bA m a a'∧∀n v v',aD.le m n→VR n v v'→SR τ P' P RA n (k v) (k' v')
 |m,.store md a x k,s'=>∃a' x' k',s'= .store md a' x' k'∧bA m a a'∧VR m x x'∧∀n,aD.le m n→SR τ P' P RA n k k'
 |m,.new o k,s'=>∃o' k',s'= .new o' k'∧ko m o o'∧∀n r r',aD.le m n→n r=some r'→SR τ P' P RA n (k r) (k' r')
 |m,.choose q k,s'=>∃k',s'= .choose q k'∧∀i,SR τ P' P RA m (k i) (k' i)
 |m,.program k,s'=>dM τ (k P')∨∃k',s'= .program k'∧SR τ P' P RA m (k P') (k' P)
 |m,.mark .noRoom k,s'=>∃k',s'= .mark .noRoom k'∧SR τ P' P RA m k k'
 |_,.halt h,_=>Plain τ h
 |m,.shape r k,s'=>(∀x,dM τ (k x))∨∃r' k',s'= .shape r' k'∧m r=some r'∧∀x,SR τ P' P RA m (k x) (k' x)
 |m,.getObj r k,s'=>∃r' k',s'= .getObj r' k'∧m r=some r'∧∀a b l,bA m a b→SR τ P' P RA m (k (.number a l)) (k' (.number b l))
 |_,.frozen _ k,_=>∀b,dM τ (k b)
 |_,_,_=>False
section
variable {τ:TypeId}{P' P:Program}{α β γ δ:Type}{RA:aD→α→β→Prop}{RB:aD→γ→δ→Prop}
theorem sg {s:Sem α}{f:α→Sem γ}(h:dM τ s):dM τ (s.bind f):=by
 induction s with
 |halt _=>exact h
 |new o c ih=>exact fun x=>ih x (h x)
 |shape r c ih=>exact fun x=>ih x (h x)
 |frozen a c ih=>exact fun x=>ih x (h x)
 |choose q c ih=>exact fun x=>ih x (h x)
 |program c ih=>exact fun x=>ih x (h x)
 |mark m c ih=>exact ih h
 |_=>exact h.elim
theorem SR.bind {s:Sem α}{s':Sem β}{f:α→Sem γ}{f':β→Sem δ}:∀{m:aD},SR τ P' P RA m s s'→(∀n a b,aD.le m n→RA n a b→SR τ P' P RB n (f a) (f' b))→SR τ P' P RB m (s.bind f) (s'.bind f'):=by
 induction s generalizing s' with
 |pure a=>
  intro m h k;obtain⟨b,rfl,hr⟩:=h;exact k m a b (aD.le_refl m) hr
 |load md a c ih=>
  intro m h k;obtain⟨a',k',rfl,ha,hk⟩:=h;exact⟨a',fun v=>(k' v).bind f',rfl,ha,fun n v v' hn hv=>ih v (hk n v v' hn hv) fun n2 a b h2 hr=>k n2 a b (aD.le_trans hn h2) hr⟩
 |store md a x c ih=>
  intro m h k;obtain⟨a',x',k',rfl,ha,hx,hk⟩:=h;exact⟨a',x',k'.bind f',rfl,ha,hx,fun n hn=>ih (hk n hn) fun n2 a b h2 hr=>k n2 a b (aD.le_trans hn h2) hr⟩
 |new o c ih=>
  intro m h k;obtain⟨o',k',rfl,ho,hk⟩:=h;exact⟨o',fun r=>(k' r).bind f',rfl,ho,fun n r r' hn fl=>ih r (hk n r r' hn fl) fun n2 a b h2 hr=>k n2 a b (aD.le_trans hn h2) hr⟩
 |choose q c ih=>
  intro m h k;obtain⟨k',rfl,hk⟩:=h;exact⟨fun i=>(k' i).bind f',rfl,fun i=>ih i (hk i) k⟩
 |program c ih=>
  intro m h k;rcases h with h|⟨k',rfl,hk⟩
  ·exact .inl (sg h)
  ·exact .inr ⟨fun p=>(k' p).bind f',rfl,ih P' hk k⟩
 |mark md c ih=>
  intro m h k
  cases md with
  |noRoom=>
   obtain⟨k',rfl,hk⟩:=h;exact⟨k'.bind f',rfl,ih hk k⟩
  |_=>exact h.elim
 |halt h0=>intro m h k;exact h
 |shape r c ih=>
  intro m h k;rcases h with h|⟨r',k',rfl,hr,hk⟩
  ·exact .inl fun x=>sg (h x)
  ·exact .inr ⟨r',fun x=>(k' x).bind f',rfl,hr,fun x=>ih x (hk x) k⟩
 |freeze a n c ih=>intro m h k;exact h.elim
 |frozen a c ih=>intro m h k;exact fun x=>sg (h x)
 |getObj r c ih=>
  intro m h k;obtain⟨r',k',rfl,hr,hk⟩:=h;exact⟨r',fun x=>(k' x).bind f',rfl,hr,fun a b l fL=>ih _ (hk a b l fL) k⟩
 |setObj r o c ih=>intro m h k;exact h.elim
 |sys c k2 ih=>intro m h k;exact h.elim
theorem wu {α:Type}:∀(t:Sem α),t.bind (fun a=>Sem.pure a)=t:=fun t=>by
 induction t with
 |pure a=>rfl
 |halt h=>rfl
 |_=>simp only[Sem.bind];congr 1;first|done|assumption|(funext x;rename_i ih;exact ih x)
theorem SR.mono {s:Sem α}{s':Sem β}{YL:aD→α→β→Prop}{m:aD}(h:SR τ P' P RA m s s')(k:∀n a b,aD.le m n→RA n a b→YL n a b):SR τ P' P YL m s s':=by
 have h1:=h.bind (f:=fun a=>Sem.pure a) (f':=fun b=>Sem.pure b) (RB:=YL) fun n a b hn hr=>⟨b,rfl,k n a b hn hr⟩
 rwa[wu,wu]at h1
def AF (m:aD)(e f:Event):Prop:=(∃a b,bA m a b∧e.loc= .cell a∧f.loc= .cell b∧f.write=e.write∧f.sync=e.sync)∨(e=f∧e.loc= .mark .noRoom)∨(∃r t,m r=some t∧e=⟨.obj r,false,false⟩∧f=⟨.obj t,false,false⟩)
theorem AF.mono {m n:aD}(h:aD.le m n){e f:Event}(x:AF m e f):AF n e f:=by
 rcases x with⟨a,b,ha,h2⟩|h2|⟨r,t,hr,h2⟩
 ·exact .inl ⟨a,b,ha.mono h,h2⟩
 ·exact .inr (.inl h2)
 ·exact .inr (.inr ⟨r,t,h.sub _ _ hr,h2⟩)
inductive wv (m:aD):List Event→List Event→Prop
 |nil:wv m [] []
 |cons {e f:Event} {es fs:List Event} (h:AF m e f) (k:wv m es fs):wv m (e::es) (f::fs)
theorem wv.mono {m n:aD}(h:aD.le m n){es fs:List Event}(x:wv m es fs):wv n es fs:=by
 induction x with
 |nil=>exact .nil
 |cons a _ ih=>exact .cons (a.mono h) ih
def dG (v:World)(r:Nat):Prop:=(∃us e hi,v.heap[r]?=some (.cells us e (0,hi))∧us.size≤hi)∨∃a l,v.heap[r]?=some (.number a l)
theorem dG.lt {v:World}{r:Nat}(h:dG v r):r<v.heap.size:=by
 rcases h with⟨us,e,hi,hb,_⟩|⟨a,l,hb⟩<;>exact(Array.getElem?_eq_some_iff.1 hb).1
theorem lA {v:World}{a:Addr}{x:Value}(h:dG v a.block)(hc:v.cell? a=some x):v.frozen? a=true:=by
 rcases h with⟨us,e,hi,hb,hs⟩|⟨_,_,hb⟩;rotate_left
 ·unfold World.cell? at hc
  rw[hb]at hc
  cases hc
 unfold World.cell? at hc;unfold World.frozen?;rw[hb]at hc⊢;simp only at hc⊢
 split at hc
 ·cases hc
 ·have:=(Array.getElem?_eq_some_iff.1 hc).1
  simp;omega
theorem dG.same {v v':World}{r:Nat}(h:dG v r)(e:v'.heap[r]?=v.heap[r]?):dG v' r:=by
 rcases h with⟨us,t,hi,hb,hs⟩|⟨a,l,hb⟩
 ·exact .inl ⟨us,t,hi,e.trans hb,hs⟩
 ·exact .inr ⟨a,l,e.trans hb⟩
structure Kept (m n:aD) (v w v' w':World):Prop where
 le:aD.le m n
 size:v.heap.size≤v'.heap.size
 jL:w.heap.size≤w'.heap.size
 jb:∀r,dG v r→v'.heap[r]?=v.heap[r]?
 old:∀t,t<w.heap.size→(∀r,m r=some t→dG v r)→w'.heap[t]?=w.heap[t]?
 fresh:∀r t,n r=some t→m r=some t∨(v.heap.size≤r∧w.heap.size≤t)
 drawn:v.drawn≤v'.drawn
 output:w'.output=w.output
 os:w'.os=w.os
 tape:w'.tape=w.tape
theorem Kept.refl (m:aD)(v w:World):Kept m m v w v w:=⟨aD.le_refl m,Nat.le_refl _,Nat.le_refl _,fun _ _=>rfl,fun _ _ _=>rfl,fun _ _ h=> .inl h,Nat.le_refl _,rfl,rfl,rfl⟩
theorem Kept.trans {m n o:aD}{v w v1 w1 v2 w2:World}(h:Kept m n v w v1 w1)(k:Kept n o v1 w1 v2 w2):Kept m o v w v2 w2:=by
 refine⟨aD.le_trans h.le k.le,Nat.le_trans h.size k.size,Nat.le_trans h.jL k.jL,fun r hr=>(k.jb r (hr.same (h.jb r hr))).trans (h.jb r hr),fun t ht hn=>?_,fun r t hr=>?_,Nat.le_trans h.drawn k.drawn,k.output.trans h.output,k.os.trans h.os,k.tape.trans h.tape⟩
 ·rw[k.old t (Nat.lt_of_lt_of_le ht h.jL) fun r hr=>?_,h.old t ht hn]
  rcases h.fresh r t hr with h1|h1
  ·exact(hn r h1).same (h.jb r (hn r h1))
  ·omega
 ·rcases k.fresh r t hr with h1|h1
  ·exact h.fresh r t h1
  ·exact .inr ⟨Nat.le_trans h.size h1.1,Nat.le_trans h.jL h1.2⟩
def CQ (o:Obj):Prop:=(∃us e fz,o= .cells us e fz)∨∃a l,o= .number a l
theorem WR.cell {m:aD}{v w:World}(h:WR m v w){a b:Addr}(ha:bA m a b):(∀x,v.cell? a=some x→∃y,w.cell? b=some y∧VR m x y)∧(∃o,v.heap[a.block]?=some o∧CQ o)∧(v.frozen? a=false→w.frozen? b=false):=by
 obtain⟨o,p,ho,hp,aW⟩:=h.iX _ _ ha.1;obtain⟨_,NM,hsa,CR⟩:=ha;rcases aW with⟨us,vs,e,fz,gz,rfl,rfl,hf,hs,hx⟩|⟨x,y,l,rfl,rfl,kG⟩
 ·refine⟨fun x hY=>?_,⟨_,ho,.inl ⟨us,e,fz,rfl⟩⟩,?_⟩
  ·unfold World.cell? at hY⊢
   rw[ho]at hY;rw[hp];simp only[hsa,CR,Option.isSome_none,Bool.false_eq_true,if_false]at hY⊢;obtain⟨h1,rfl⟩:=Array.getElem?_eq_some_iff.1 hY;have h2:b.off<vs.size:=by rw[NM,←hs];exact h1
   refine⟨vs[b.off],Array.getElem?_eq_getElem h2,?_⟩;have:=hx a.off h1 (by rw[←NM];exact h2)
   simpa[NM]using this
  ·unfold World.frozen?
   rw[ho,hp];intro h1
   cases h2:decide (gz.1≤b.off)&&decide (b.off<gz.2)with
   |false=>exact h2
   |true=>
    simp only[Bool.and_eq_true,decide_eq_true_eq]at h2;have:=hf b.off h2.1 h2.2
    rw[NM]at this;simp[this.1,this.2]at h1
 ·refine⟨fun z hz=>?_,⟨_,ho,.inr ⟨_,_,rfl⟩⟩,fun _=>?_⟩
  ·unfold World.cell? at hz
   rw[ho]at hz
   cases hz
  ·unfold World.frozen?
   rw[hp]
theorem WR.shape {m:aD}{v w:World}(h:WR m v w){r t:Nat}(hr:m r=some t):w.shape? t=v.shape? r:=by
 obtain⟨o,p,ho,hp,aW⟩:=h.iX _ _ hr;unfold World.shape?;rw[ho,hp];rcases aW with⟨us,vs,e,fz,gz,rfl,rfl,hf,hs,hx⟩|⟨x,y,l,rfl,rfl,kG⟩
 ·simp[hs]
 ·rfl
theorem AG (v:World)(a:Addr)(x:Value)(r:Nat):(v.setCell a x).heap[r]?=(v.heap[r]?).map fun o=>if r=a.block then(match o with| .cells c e f=> .cells (if a.spot.isSome then c else c.setIfInBounds a.off x) e f|o=>o)else o:=by
 simp only[World.setCell,Array.getElem?_modify];split
 ·rename_i h;subst h
  cases v.heap[a.block]? with
  |none=>rfl
  |some o=>simp only[Option.map_some,if_true];cases o<;>rfl
 ·rename_i h
  cases v.heap[r]? with
  |none=>rfl
  |some o=>simp[Ne.symm h]
theorem WR.set {m:aD}{v w:World}(h:WR m v w){a b:Addr}(ha:bA m a b){x y:Value}(hx:VR m x y):WR m (v.setCell a x) (w.setCell b y):=by
 refine⟨h.inj,fun r t hr=>?_,h.os,h.tape,h.drawn⟩
 obtain⟨o,p,ho,hp,aW⟩:=h.iX r t hr;rw[AG,AG,ho,hp];by_cases VV:r=a.block
 ·have YM:t=b.block:=by rw[VV,ha.1]at hr;exact(Option.some.inj hr).symm
  simp only[Option.map_some,if_pos VV,if_pos YM];refine⟨_,_,rfl,rfl,?_⟩;rcases aW with⟨us,vs,e,fz,gz,rfl,rfl,hf,hs,hxx⟩|⟨z,z',l,rfl,rfl,hz⟩
  ·simp only[ha.2.2.1,ha.2.2.2,Option.isSome_none,Bool.false_eq_true,if_false]
   refine .inl ⟨_,_,e,fz,gz,rfl,rfl,hf,by simp[hs],fun i h1 h2=>?_⟩
   simp only[Array.size_setIfInBounds]at h1 h2;rw[Array.getElem_setIfInBounds,Array.getElem_setIfInBounds];rw[ha.2.1];split
   ·exact hx
   ·exact hxx i h1 h2
  ·exact .inr ⟨_,_,_,rfl,rfl,hz⟩
 ·have YM:t≠b.block:=fun e=>VV (h.inj r a.block t hr (by rw[ha.1,e]))
  simp only[Option.map_some,if_neg VV,if_neg YM];exact⟨_,_,rfl,rfl,aW⟩
def aD.put (m:aD)(r t:Nat):aD:=⟨fun q=>if q=r then some t else m q,m.good⟩
theorem WR.new {m:aD}{v w:World}(h:WR m v w){o p:Obj}(ho:ko m o p):
  aD.le m (m.put v.heap.size w.heap.size)∧WR (m.put v.heap.size w.heap.size) {v with heap:=v.heap.push o} {w with heap:=w.heap.push p}:=by
 have hle:aD.le m (m.put v.heap.size w.heap.size):=⟨fun r t hr=>by
  obtain⟨o1,p1,h1,_⟩:=h.iX r t hr;have aj:=(Array.getElem?_eq_some_iff.1 h1).1;show(if r=v.heap.size then some w.heap.size else m r)=some t
  rw[if_neg (by omega)]
  exact hr,rfl⟩
 refine⟨hle,fun r s t hr hs=>?_,fun r t hr=>?_,h.os,h.tape,h.drawn⟩
 ·change(if r=v.heap.size then some w.heap.size else m r)=some t at hr
  change(if s=v.heap.size then some w.heap.size else m s)=some t at hs
  split at hr<;>split at hs
  ·omega
  ·obtain⟨_,_,_,h2,_⟩:=h.iX s t hs
   have:=(Array.getElem?_eq_some_iff.1 h2).1
   injection hr with hr
   omega
  ·obtain⟨_,_,_,h2,_⟩:=h.iX r t hr
   have:=(Array.getElem?_eq_some_iff.1 h2).1
   injection hs with hs
   omega
  ·exact h.inj r s t hr hs
 ·change(if r=v.heap.size then some w.heap.size else m r)=some t at hr
  split at hr
  ·rename_i he
   injection hr with hr
   subst he hr;exact⟨o,p,by simp,by simp,ho.mono hle⟩
  ·obtain⟨o1,p1,h1,h2,h3⟩:=h.iX r t hr
   have l1:=(Array.getElem?_eq_some_iff.1 h1).1;have l2:=(Array.getElem?_eq_some_iff.1 h2).1;refine⟨o1,p1,?_,?_,h3.mono hle⟩
   ·show(v.heap.push o)[r]?=_
    rw[Array.getElem?_push,if_neg (by omega)];exact h1
   ·show(w.heap.push p)[t]?=_
    rw[Array.getElem?_push,if_neg (by omega)];exact h2
end
section
variable {τ:TypeId}{P' P:Program}{α β:Type}{RA:aD→α→β→Prop}
theorem SR.run {s:Sem α}{s':Sem β}:∀{m:aD} {v w:World} {es fs:Array Event} {a:α} {v':World} {aQ:Array Event},SR τ P' P RA m s s'→WR m v w→s.runT P' v es=(.ok a v',aQ)→
  ∃n b w' us jC,s'.runT P w fs=(.ok b w',fs++jC.toArray)∧aQ=es++us.toArray∧wv n us jC∧RA n a b∧WR n v' w'∧Kept m n v w v' w':=by
 induction s generalizing s' with
 |pure a=>
  intro m v w es fs a1 v' aQ h hw hr;obtain⟨b,rfl,fL⟩:=h;simp only[Sem.runT,Prod.mk.injEq,Result.ok.injEq]at hr;obtain⟨⟨rfl,rfl⟩,rfl⟩:=hr;exact⟨m,b,w,[],[],by simp[Sem.runT],by simp,.nil,fL,hw,Kept.refl m v w⟩
 |halt h0=>
  intro m v w es fs a1 v' aQ h hw hr;simp[Sem.runT]at hr
 |load md a c ih=>
  intro m v w es fs a1 v' aQ h hw hr;obtain⟨a',k',rfl,ha,hk⟩:=h;obtain⟨mA,eJ,_⟩:=hw.cell ha;simp only[Sem.runT]at hr⊢
  cases hv:v.cell? a with
  |none=>
   obtain⟨o,hb,⟨us,e,fz,rfl⟩|⟨z,l,rfl⟩⟩:=eJ<;>
   rw[hv]at hr<;>
   simp[World.farLoad,hb]at hr
  |some x=>
   obtain⟨y,hy,kG⟩:=mA x hv;rw[hv]at hr;rw[hy];simp only at hr⊢
   obtain⟨n,b,w',us,jC,h1,h2,h3,h4,h5,h6⟩:=ih x (fs:=fs.push ⟨.cell a',false,md== .atomic⟩) (hk m x y (aD.le_refl m) kG) hw hr;refine⟨n,b,w',⟨.cell a,false,md== .atomic⟩::us,⟨.cell a',false,md== .atomic⟩::jC,?_,?_,.cons (.inl ⟨a,a',ha.mono h6.le,rfl,rfl,rfl,rfl⟩) h3,h4,h5,h6⟩
   ·rw[h1];simp
   ·rw[h2];simp
 |store md a x c ih=>
  intro m v w es fs a1 v' aQ h hw hr;obtain⟨a',x',k',rfl,ha,hx,hk⟩:=h;obtain⟨mA,eJ,kH⟩:=hw.cell ha;have pI:(∀cs,x≠.agg cs)∧(∀cs,x≠.tuple cs):=by
   constructor<;>(rintro cs rfl;simp[Sem.runT]at hr)
  have X':(∀cs,x'≠.agg cs)∧(∀cs,x'≠.tuple cs):=by
   constructor
   ·rintro cs rfl;cases hx with
    |agg=>exact pI.1 _ rfl
    |fS _ hy=>exact(hy _).1 rfl
   ·rintro cs rfl;cases hx with
    |tuple=>exact pI.2 _ rfl
    |fS _ hy=>exact(hy _).2 rfl
  have e1:∀(q:World) (gs:Array Event),Sem.runT P' (.store md a x c) q gs=match q.cell? a with
    |some _=>if q.frozen? a then(.halt (.unsupported (.unsafePointer "a write to bytes that a string shares")) q,gs)else c.runT P' (q.setCell a x) (gs.push ⟨.cell a,true,md== .atomic⟩)
    |none=>match q.farStore P' a x (md== .atomic)with
     | .ok (q,gg)=>c.runT P' q (gs++gg.toArray.map (⟨.cell ·,true,md== .atomic⟩))
     | .error h=>(.halt h q,gs):=by
   intro q gs
   cases x<;>first|rfl|exact absurd rfl (pI.1 _)|exact absurd rfl (pI.2 _)
  have e2:∀(q:World) (gs:Array Event),Sem.runT P (.store md a' x' k') q gs=match q.cell? a' with
    |some _=>if q.frozen? a' then(.halt (.unsupported (.unsafePointer "a write to bytes that a string shares")) q,gs)else k'.runT P (q.setCell a' x') (gs.push ⟨.cell a',true,md== .atomic⟩)
    |none=>match q.farStore P a' x' (md== .atomic)with
     | .ok (q,gg)=>k'.runT P q (gs++gg.toArray.map (⟨.cell ·,true,md== .atomic⟩))
     | .error h=>(.halt h q,gs):=by
   intro q gs
   cases x'<;>first|rfl|exact absurd rfl (X'.1 _)|exact absurd rfl (X'.2 _)
  rw[e1]at hr
  cases hv:v.cell? a with
  |none=>
   obtain⟨o,hb,⟨us,e,fz,rfl⟩|⟨z,l,rfl⟩⟩:=eJ<;>
   rw[hv]at hr<;>
   simp[World.farStore,hb]at hr
  |some u=>
   obtain⟨y,hy,_⟩:=mA u hv;rw[hv]at hr;simp only at hr
   split at hr
   ·simp at hr
   ·rename_i Km
    obtain⟨n,b,w',us,jC,h1,h2,h3,h4,h5,h6⟩:=ih (fs:=fs.push ⟨.cell a',true,md== .atomic⟩) (hk m (aD.le_refl m)) (hw.set ha hx) hr;refine⟨n,b,w',⟨.cell a,true,md== .atomic⟩::us,⟨.cell a',true,md== .atomic⟩::jC,?_,?_,.cons (.inl ⟨a,a',ha.mono h6.le,rfl,rfl,rfl,rfl⟩) h3,h4,h5,?_⟩
    ·rw[e2,hy]
     simp only
     rw[if_neg (by rw[kH (by simpa using Km)];simp),h1]
     simp
    ·rw[h2];simp
    ·have pJ:(v.setCell a x).heap.size=v.heap.size:=by simp[World.setCell]
     have og:(w.setCell a' x').heap.size=w.heap.size:=by simp[World.setCell]
     have R8:¬dG v a.block:=fun h=>Km (lA h hv)
     have jM:∀r,dG v r→(v.setCell a x).heap[r]?=v.heap[r]?:=by
      intro r YN;rw[AG];have:r≠a.block:=fun e=>R8 (e▸YN)
      simp[this]
     refine⟨h6.le,by rw[←pJ];exact h6.size,by rw[←og];exact h6.jL,fun r h0=>(h6.jb r (h0.same (jM r h0))).trans (jM r h0),fun t ht hn=>?_,fun r t fl=>by rw[←pJ,←og];exact h6.fresh r t fl,h6.drawn,h6.output,h6.os,h6.tape⟩
     rw[h6.old t (by rw[og];exact ht) fun r hr=>(hn r hr).same (jM r (hn r hr))]
     have:t≠a'.block:=fun e=>R8 (hn a.block (by rw[e];exact ha.1))
     simp[World.setCell,Array.getElem?_modify,Ne.symm this]
 |new o c ih=>
  intro m v w es fs a1 v' aQ h hw hr;obtain⟨o',k',rfl,ho,hk⟩:=h;obtain⟨hle,nf⟩:=hw.new ho;simp only[Sem.runT]at hr⊢;obtain⟨n,b,w',us,jC,h1,h2,h3,h4,h5,h6⟩:=ih v.heap.size (fs:=fs) (hk _ v.heap.size w.heap.size hle (by simp[aD.put])) nf hr
  have jM:∀r,dG v r→(v.heap.push o)[r]?=v.heap[r]?:=by
   intro r h0;have:=h0.lt
   rw[Array.getElem?_push,if_neg (by omega)]
  refine⟨n,b,w',us,jC,h1,h2,h3,h4,h5,aD.le_trans hle h6.le,?_,?_,fun r h0=>(h6.jb r (h0.same (jM r h0))).trans (jM r h0),fun t ht hn=>?_,fun r t fl=>?_,h6.drawn,h6.output,h6.os,h6.tape⟩
  ·have:=h6.size;simp at this;omega
  ·have:=h6.jL;simp at this;omega
  ·rw[h6.old t (by simp;omega) fun r fl=>?_]
   ·show(w.heap.push o')[t]?=_
    rw[Array.getElem?_push,if_neg (by omega)]
   ·change(if r=v.heap.size then some w.heap.size else m r)=some t at fl
    split at fl
    ·injection fl with fl;omega
    ·exact(hn r fl).same (jM r (hn r fl))
  ·rcases h6.fresh r t fl with h7|h7
   ·change(if r=v.heap.size then some w.heap.size else m r)=some t at h7
    split at h7
    ·injection h7 with h7;exact .inr (by omega)
    ·exact .inl h7
   ·simp at h7;exact .inr (by omega)
 |choose q c ih=>
  intro m v w es fs a1 v' aQ h hw hr;obtain⟨k',rfl,hk⟩:=h;simp only[Sem.runT]at hr⊢;split at hr
  ·rename_i hf
   rw[if_pos hf];exact ih 0 (hk 0) hw hr
  ·rename_i hf
   rw[if_neg hf,hw.tape,hw.drawn];obtain⟨n,b,w',us,jC,h1,h2,h3,h4,h5,h6⟩:=ih (q.cut (v.tape v.drawn q)) (fs:=fs) (v:={v with drawn:=v.drawn+1}) (w:={w with tape:=v.tape,drawn:=v.drawn+1}) (hk _) ⟨hw.inj,hw.iX,hw.os,rfl,rfl⟩ hr
   exact⟨n,b,w',us,jC,h1,h2,h3,h4,h5,h6.le,h6.size,h6.jL,h6.jb,h6.old,h6.fresh,by have:=h6.drawn;simp at this;omega,h6.output,h6.os,h6.tape.trans hw.tape.symm⟩
 |program c ih=>
  intro m v w es fs a1 v' aQ h hw hr;simp only[Sem.runT]at hr;rcases h with h|⟨k',rfl,hk⟩
  ·obtain⟨_,_,_,e,_⟩:=dM.run (P:=P') (v:=v) (es:=es) h;rw[e]at hr;simp at hr
  ·simp only[Sem.runT]
   exact ih P' hk hw hr
 |mark md c ih=>
  intro m v w es fs a1 v' aQ h hw hr
  cases md with
  |noRoom=>
   obtain⟨k',rfl,hk⟩:=h;simp only[Sem.runT]at hr⊢;obtain⟨n,b,w',us,jC,h1,h2,h3,h4,h5,h6⟩:=ih (fs:=fs.push ⟨.mark .noRoom,false,true⟩) hk hw hr;refine⟨n,b,w',⟨.mark .noRoom,false,true⟩::us,⟨.mark .noRoom,false,true⟩::jC,?_,?_,.cons (.inr (.inl ⟨rfl,rfl⟩)) h3,h4,h5,h6⟩
   ·rw[h1];simp
   ·rw[h2];simp
  |_=>exact h.elim
 |shape r c ih=>
  intro m v w es fs a1 v' aQ h hw hr;simp only[Sem.runT]at hr;rcases h with h|⟨r',k',rfl,fl,hk⟩
  ·obtain⟨_,_,_,e,_⟩:=dM.run (P:=P') (v:=v) (es:=es) (h (v.shape? r));rw[e]at hr;simp at hr
  ·simp only[Sem.runT]
   rw[hw.shape fl];exact ih _ (hk _) hw hr
 |freeze a n c ih=>intro m v w es fs a1 v' aQ h;exact h.elim
 |frozen a c ih=>intro m v w es fs a1 v' aQ h hw hr;simp only[Sem.runT]at hr;obtain⟨_,_,_,e,_⟩:=dM.run (P:=P') (v:=v) (es:=es) (h _);rw[e]at hr;simp at hr
 |getObj r c ih=>
  intro m v w es fs a1 v' aQ h hw hr;obtain⟨r',k',rfl,fl,hk⟩:=h;obtain⟨o,p,ho,hp,aW⟩:=hw.iX _ _ fl;simp only[Sem.runT]at hr⊢;rw[ho]at hr;rw[hp];rcases aW with⟨us,vs,e,fz,gz,rfl,rfl,hf,hs,hx⟩|⟨x,y,l,rfl,rfl,kG⟩
  ·simp at hr
  ·obtain⟨n,b,w',us,jC,h1,h2,h3,h4,h5,h6⟩:=ih (.number x l) (fs:=fs.push ⟨.obj r',false,false⟩) (hk x y l kG) hw hr
   refine⟨n,b,w',⟨.obj r,false,false⟩::us,⟨.obj r',false,false⟩::jC,?_,?_,.cons (.inr (.inr ⟨r,r',h6.le.sub _ _ fl,rfl,rfl⟩)) h3,h4,h5,h6⟩
   ·show Sem.runT P (k' (.number y l)) w (fs.push ⟨.obj r',false,(Obj.number y l).isChan⟩)=_
    exact h1.trans (by simp)
   ·rw[h2];simp[Obj.isChan]
 |setObj r o c ih=>intro m v w es fs a1 v' aQ h;exact h.elim
 |sys c k2 ih=>intro m v w es fs a1 v' aQ h;exact h.elim
theorem SR.run_halt {s:Sem α}{s':Sem β}:∀{m:aD} {v w:World} {es:Array Event} {h0:Halt} {v':World} {aQ:Array Event},SR τ P' P RA m s s'→WR m v w→s.runT P' v es=(.halt h0 v',aQ)→Plain τ h0:=by
 induction s generalizing s' with
 |pure a=>intro m v w es h0 v' aQ h hw hr;simp[Sem.runT]at hr
 |halt h1=>
  intro m v w es h0 v' aQ h hw hr;simp only[Sem.runT,Prod.mk.injEq,Result.halt.injEq]at hr;obtain⟨⟨rfl,_⟩,_⟩:=hr;exact h
 |load md a c ih=>
  intro m v w es h0 v' aQ h hw hr;obtain⟨a',k',rfl,ha,hk⟩:=h;obtain⟨mA,eJ,_⟩:=hw.cell ha;simp only[Sem.runT]at hr
  cases hv:v.cell? a with
  |none=>
   obtain⟨o,hb,⟨us,e,fz,rfl⟩|⟨z,l,rfl⟩⟩:=eJ<;>
   (rw[hv]at hr
    simp[World.farLoad,World.noCell,hb]at hr;obtain⟨⟨rfl,_⟩,_⟩:=hr;trivial)
  |some x=>
   obtain⟨y,hy,kG⟩:=mA x hv;rw[hv]at hr;exact ih x (hk m x y (aD.le_refl m) kG) hw hr
 |store md a x c ih=>
  intro m v w es h0 v' aQ h hw hr;obtain⟨a',x',k',rfl,ha,hx,hk⟩:=h;obtain⟨mA,eJ,kH⟩:=hw.cell ha;by_cases pI:(∀cs,x≠.agg cs)∧(∀cs,x≠.tuple cs)
  ·have e1:∀(q:World) (gs:Array Event),Sem.runT P' (.store md a x c) q gs=match q.cell? a with
     |some _=>if q.frozen? a then(.halt (.unsupported (.unsafePointer "a write to bytes that a string shares")) q,gs)else c.runT P' (q.setCell a x) (gs.push ⟨.cell a,true,md== .atomic⟩)
     |none=>match q.farStore P' a x (md== .atomic)with
      | .ok (q,gg)=>c.runT P' q (gs++gg.toArray.map (⟨.cell ·,true,md== .atomic⟩))
      | .error h=>(.halt h q,gs):=by
    intro q gs
    cases x<;>first|rfl|exact absurd rfl (pI.1 _)|exact absurd rfl (pI.2 _)
   rw[e1]at hr
   cases hv:v.cell? a with
   |none=>
    obtain⟨o,hb,⟨us,e,fz,rfl⟩|⟨z,l,rfl⟩⟩:=eJ<;>
    (rw[hv]at hr
     simp[World.farStore,World.noCell,hb]at hr;obtain⟨⟨rfl,_⟩,_⟩:=hr;trivial)
   |some u=>
    rw[hv]at hr;simp only at hr
    split at hr
    ·simp only[Prod.mk.injEq,Result.halt.injEq]at hr
     obtain⟨⟨rfl,_⟩,_⟩:=hr;intro g hg;cases hg
    ·exact ih (hk m (aD.le_refl m)) (hw.set ha hx) hr
  ·cases x<;>first
    |(simp only[Sem.runT,Prod.mk.injEq,Result.halt.injEq]at hr;obtain⟨⟨rfl,_⟩,_⟩:=hr;trivial)
    |(exact absurd ⟨nofun,nofun⟩ pI)
 |new o c ih=>
  intro m v w es h0 v' aQ h hw hr;obtain⟨o',k',rfl,ho,hk⟩:=h;obtain⟨hle,nf⟩:=hw.new ho;simp only[Sem.runT]at hr;exact ih v.heap.size (hk _ v.heap.size w.heap.size hle (by simp[aD.put])) nf hr
 |choose q c ih=>
  intro m v w es h0 v' aQ h hw hr;obtain⟨k',rfl,hk⟩:=h;simp only[Sem.runT]at hr;split at hr
  ·exact ih 0 (hk 0) hw hr
  ·exact ih (q.cut (v.tape v.drawn q)) (v:={v with drawn:=v.drawn+1}) (w:={w with tape:=v.tape,drawn:=v.drawn+1}) (hk _) ⟨hw.inj,hw.iX,hw.os,rfl,rfl⟩ hr
 |program c ih=>
  intro m v w es h0 v' aQ h hw hr;simp only[Sem.runT]at hr;rcases h with h|⟨k',rfl,hk⟩
  ·obtain⟨_,_,_,e,hp⟩:=dM.run (P:=P') (v:=v) (es:=es) h
   rw[e]at hr;simp only[Prod.mk.injEq,Result.halt.injEq]at hr;rw[←hr.1.1];exact hp
  ·exact ih P' hk hw hr
 |mark md c ih=>
  intro m v w es h0 v' aQ h hw hr
  cases md with
  |noRoom=>
   obtain⟨k',rfl,hk⟩:=h;simp only[Sem.runT]at hr;exact ih hk hw hr
  |_=>exact h.elim
 |shape r c ih=>
  intro m v w es h0 v' aQ h hw hr;simp only[Sem.runT]at hr;rcases h with h|⟨r',k',rfl,fl,hk⟩
  ·obtain⟨_,_,_,e,hp⟩:=dM.run (P:=P') (v:=v) (es:=es) (h (v.shape? r))
   rw[e]at hr;simp only[Prod.mk.injEq,Result.halt.injEq]at hr;rw[←hr.1.1];exact hp
  ·exact ih _ (hk _) hw hr
 |frozen a c ih=>
  intro m v w es h0 v' aQ h hw hr;simp only[Sem.runT]at hr;obtain⟨_,_,_,e,hp⟩:=dM.run (P:=P') (v:=v) (es:=es) (h (v.frozen? a));rw[e]at hr;simp only[Prod.mk.injEq,Result.halt.injEq]at hr;rw[←hr.1.1];exact hp
 |freeze a n c ih=>intro m v w es h0 v' aQ h;exact h.elim
 |getObj r c ih=>
  intro m v w es h0 v' aQ h hw hr;obtain⟨r',k',rfl,fl,hk⟩:=h;obtain⟨o,p,ho,hp,aW⟩:=hw.iX _ _ fl;simp only[Sem.runT]at hr;rw[ho]at hr;rcases aW with⟨us,vs,e,fz,gz,rfl,rfl,hf,hs,hx⟩|⟨x,y,l,rfl,rfl,kG⟩
  ·simp only[Prod.mk.injEq,Result.halt.injEq]at hr
   obtain⟨⟨rfl,_⟩,_⟩:=hr;trivial
  ·exact ih (.number x l) (hk x y l kG) hw hr
 |setObj r o c ih=>intro m v w es h0 v' aQ h;exact h.elim
 |sys c k2 ih=>intro m v w es h0 v' aQ h;exact h.elim
end
end Go.Proofs.YtlhohdjniaebbaaGreat.Sr
namespace Go.Proofs.YtlhohdjniaebbaaGreat.Sr
open Go
abbrev aT (τ:TypeId) (P:Program) (F:Array Func) {α β:Type} (RA:aD→α→β→Prop) (m:aD) (s:Sem α) (s':Sem β):Prop:=SR τ (Program.mk (Program.toTables P) F) P RA m s s'
def dY {α:Type}:aD→α→α→Prop:=fun _ a b=>a=b
structure dZ (τ:TypeId) (P:Program):Prop where
 bounds:P.rt.boundsError≠τ
 error:P.rt.errorString≠τ
 plain:P.rt.plainError≠τ
 abW:P.rt.unhashableTypeError≠τ
section
variable {τ:TypeId}{P:Program}{F:Array Func}{α β γ δ:Type}{m:aD}
theorem c9 {f:Program→Sem α}{f':Program→Sem β}{RA:aD→α→β→Prop}(h:aT τ P F RA m (f (Program.mk (Program.toTables P) F)) (f' P)):aT τ P F RA m (program.bind f) (program.bind f'):= .inr ⟨_,rfl,h⟩
theorem sP {RA:aD→α→β→Prop}{a:α}{b:β}(h:RA m a b):aT τ P F RA m (Sem.pure a) (Sem.pure b):=⟨b,rfl,h⟩
theorem bL {a:α}:aT τ P F dY m (Sem.pure a) (Sem.pure a):=⟨a,rfl,rfl⟩
theorem jN {RA:aD→α→β→Prop}{u:Unsupported}{s':Sem β}(h:∀g,u≠.initOrder g):aT τ P F RA m (unsupported u) s':=h
theorem kq {RA:aD→α→β→Prop}{s':Sem β}(R:dZ τ P){e:RuntimeError}(he:(∃x y s c,e= .bounds x y s c)∨(∃t,e= .error t)∨(∃t,e= .plain t)∨e= .nilDeref):aT τ P F RA m (runtimePanic e:Sem α) (runtimePanic e:Sem β):=by
 rcases he with⟨x,y,s,c,rfl⟩|⟨t,rfl⟩|⟨t,rfl⟩|rfl
 ·exact c9 (fun u h=>R.bounds (by injection h))
 ·exact c9 (fun u h=>R.error (by injection h))
 ·exact c9 (fun u h=>R.plain (by injection h))
 ·exact c9 (fun u h=>R.error (by injection h))
theorem lB {RA:aD→α→β→Prop}(R:dZ τ P){t:String}:aT τ P F RA m (runtimePanic (.error t):Sem α) (runtimePanic (.error t):Sem β):=kq (s':=Sem.halt (.stuck "")) R (.inr (.inl ⟨t,rfl⟩))
theorem fo {RA:aD→α→β→Prop}(R:dZ τ P):aT τ P F RA m (runtimePanic .nilDeref:Sem α) (runtimePanic .nilDeref:Sem β):=kq (s':=Sem.halt (.stuck "")) R (.inr (.inr (.inr rfl)))
theorem wx {RA:aD→α→β→Prop}(R:dZ τ P){s':Sem β}:aT τ P F RA m (runtimePanic .nilDeref:Sem α) s':= .inl (fun u h=>R.error (by injection h))
theorem oh (q:Question):aT τ P F dY m (choose q) (choose q):=⟨_,rfl,fun _=>bL⟩
theorem cW {RA:aD→α→β→Prop}(R:dZ τ P){k:IntKind}{x y:Int}{c:BoundsCode}:aT τ P F RA m (boundsPanic k x y c:Sem α) (boundsPanic k x y c:Sem β):=by
 unfold boundsPanic;split
 ·refine SR.bind (RA:=dY) ?_ fun n a b _ e=>?_
  ·exact SR.bind (oh _) fun n a b _ e=>by subst e;exact bL
  ·subst e;exact kq (s':=Sem.halt (.stuck "")) R (.inl ⟨_,_,_,_,rfl⟩)
 ·exact kq (s':=Sem.halt (.stuck "")) R (.inl ⟨_,_,_,_,rfl⟩)
theorem d_ (t:TypeId):aT τ P F dY m (typeInfo t) (typeInfo t):=by
 unfold typeInfo;refine c9 ?_;show aT τ P F dY m (match P.info? t with|some i=>pure i|none=>stuck "no such type") _
 cases P.info? t with
 |none=>trivial
 |some i=>exact⟨i,rfl,rfl⟩
theorem sU (t:TypeId):aT τ P F (fun _ a b=>a=b∧P.underlying t=some a) m (underlying t) (underlying t):=by
 unfold underlying;refine c9 ?_;show aT τ P F _ m (match P.underlying t with|some d=>pure d|none=>stuck "no such type") _
 cases P.underlying t with
 |none=>trivial
 |some i=>exact⟨i,rfl,rfl,rfl⟩
theorem pK (t:TypeId):aT τ P F dY m (sizeOf t) (sizeOf t):=(d_ t).bind fun _ a b _ e=>by subst e;exact⟨_,rfl,rfl⟩
theorem BK (t:TypeId):aT τ P F dY m (isAgg t) (isAgg t):=(sU t).bind fun _ a b _ e=>by
 obtain⟨rfl,_⟩:=e
 cases a<;>exact⟨_,rfl,rfl⟩
def si (fuel:Nat):Value→Bool:=fun v=>match fuel,v with
 |_,.bool _|_,.int _ _|_,.string _|_,.pointer none|_,.slice none _ _|_,.map none|_,.nilFunc|_,.nilIface=>true
 |n+1,.agg cs=>cs.all (si n)
 |_,_=>false
theorem NN (m:aD):∀(n:Nat) (v:Value),si n v=true→VR m v v
 |n,.bool b,_=> .bool b
 |n,.int k z,_=> .int k z
 |n,.string s,_=> .string s
 |n,.pointer none,_=> .nilPtr
 |n,.slice none l c,_=> .cp l c
 |n,.map none,_=> .j_
 |n,.nilFunc,_=> .nilFunc
 |n,.nilIface,_=> .nilIface
 |n+1,.agg cs,h=> .agg rfl fun i h1 _=>NN m n _ (by
   have h':cs.all (si n)=true:=by simpa[si]using h
   exact Array.all_eq_true_iff_forall_mem.1 h' _ (Array.getElem_mem h1))
 |0,.agg _,h=>by simp[si]at h
 |n,.float ..,h=>by cases n<;>simp[si]at h
 |n,.complex ..,h=>by cases n<;>simp[si]at h
 |n,.pointer (some _),h=>by cases n<;>simp[si]at h
 |n,.slice (some _) _ _,h=>by cases n<;>simp[si]at h
 |n,.map (some _),h=>by cases n<;>simp[si]at h
 |n,.chan _,h=>by cases n<;>simp[si]at h
 |n,.func ..,h=>by cases n<;>simp[si]at h
 |n,.iface ..,h=>by cases n<;>simp[si]at h
 |n,.tuple _,h=>by cases n<;>simp[si]at h
def rC (P:Program)(t:TypeId):Bool:=match P.info? t with
 |some i=>match i.zero with
  |some z=>si 6 z
  |none=>true
 |none=>true
def wy (P:Program)(t:TypeId):Bool:=match P.underlying t with
 |some (.slice e)=>rC P e
 |_=>true
theorem pL {t e:TypeId}(h:wy P t=true)(hd:P.underlying t=some (.slice e)):rC P e=true:=by
 unfold wy at h;rw[hd]at h;exact h
theorem fK (t:TypeId)(hZ:rC P t=true):aT τ P F VR m (zeroValue t) (zeroValue t):=by
 unfold zeroValue typeInfo;refine SR.bind (RA:=fun _ a b=>a=b∧P.info? t=some a) ?_ fun n a b _ e=>?_
 ·refine c9 ?_
  show aT τ P F _ m (match P.info? t with|some i=>pure i|none=>stuck "no such type") _
  cases h:P.info? t with
  |none=>trivial
  |some i=>exact⟨i,rfl,rfl,rfl⟩
 ·obtain⟨rfl,hi⟩:=e
  cases h:a.zero with
  |none=>exact jN nofun
  |some z=>
   unfold rC at hZ;rw[hi]at hZ;simp only[h]at hZ;exact⟨z,rfl,NN n 6 z hZ⟩
theorem Fi {a b:Addr}(ha:bA m a b):aT τ P F VR m (load a) (load b):=⟨b,_,rfl,ha,fun n v v' _ hv=>⟨v',rfl,hv⟩⟩
theorem OF {a b:Addr}{x y:Value}(ha:bA m a b)(hx:VR m x y):aT τ P F dY m (store a x) (store b y):=⟨b,y,_,rfl,ha,hx,fun n _=>⟨(),rfl,rfl⟩⟩
theorem AR.nil:AR m #[] #[]:=⟨rfl,fun i h1 _=>by simp at h1⟩
theorem AR.push {us vs:Array Value}(h:AR m us vs){x y:Value}(hx:VR m x y):AR m (us.push x) (vs.push y):=by
 refine⟨by simp[h.1],fun i h1 h2=>?_⟩
 rw[Array.getElem_push,Array.getElem_push];simp only[Array.size_push]at h1 h2;by_cases hi:i<us.size
 ·rw[dif_pos hi,dif_pos (by rw[←h.1];exact hi)];exact h.2 i hi _
 ·rw[dif_neg hi,dif_neg (by rw[←h.1];exact hi)];exact hx
theorem AR.get? {us vs:Array Value}(h:AR m us vs)(i:Nat):(us[i]?=none∧vs[i]?=none)∨∃x y,us[i]?=some x∧vs[i]?=some y∧VR m x y:=by
 by_cases hi:i<us.size
 ·have hj:i<vs.size:=by rw[←h.1];exact hi
  exact .inr ⟨us[i],vs[i],Array.getElem?_eq_getElem hi,Array.getElem?_eq_getElem hj,h.2 i hi hj⟩
 ·exact .inl ⟨Array.getElem?_eq_none (by omega),Array.getElem?_eq_none (by rw[←h.1];omega)⟩
theorem AR.of_get? {us vs:Array Value}(h:∀i:Nat,(us[i]?=none∧vs[i]?=none)∨∃x y,us[i]?=some x∧vs[i]?=some y∧VR m x y):AR m us vs:=by
 have hs:us.size=vs.size:=by
  have h1:=h us.size;have h2:=h vs.size;simp only[Array.getElem?_eq_none (Nat.le_refl us.size),Array.getElem?_eq_none (Nat.le_refl vs.size)]at h1 h2;rcases h1 with⟨_,h1⟩|⟨_,_,h1,_⟩
  ·rcases h2 with⟨h2,_⟩|⟨_,_,_,h2,_⟩
   ·have:=Array.getElem?_eq_none_iff.1 h1;have:=Array.getElem?_eq_none_iff.1 h2;omega
   ·cases h2
  ·cases h1
 refine⟨hs,fun i h1 h2=>?_⟩
 rcases h i with⟨h3,_⟩|⟨x,y,h3,h4,h5⟩
 ·rw[Array.getElem?_eq_getElem h1]at h3;cases h3
 ·rw[Array.getElem?_eq_getElem h1]at h3
  rw[Array.getElem?_eq_getElem h2]at h4
  cases h3;cases h4;exact h5
theorem AR.getD {us vs:Array Value}(h:AR m us vs)(i:Nat){d e:Value}(hd:VR m d e):VR m (us.getD i d) (vs.getD i e):=by
 rw[Array.getD_eq_getD_getElem?,Array.getD_eq_getD_getElem?];rcases h.get? i with⟨h1,h2⟩|⟨x,y,h1,h2,h3⟩
 ·rw[h1,h2];exact hd
 ·rw[h1,h2];exact h3
theorem AR.append {us vs xs ys:Array Value}(h:AR m us vs)(k:AR m xs ys):AR m (us++xs) (vs++ys):=by
 refine AR.of_get? fun i=>?_;rw[Array.getElem?_append,Array.getElem?_append,←h.1];split
 ·exact h.get? i
 ·exact k.get? _
theorem AR.extract {us vs:Array Value}(h:AR m us vs)(i j:Nat):AR m (us.extract i j) (vs.extract i j):=by
 refine AR.of_get? fun q=>?_;rw[Array.getElem?_extract,Array.getElem?_extract,←h.1];split
 ·exact h.get? _
 ·exact .inl ⟨rfl,rfl⟩
theorem AR.set {us vs:Array Value}(h:AR m us vs)(i:Nat){x y:Value}(hx:VR m x y):AR m (us.setIfInBounds i x) (vs.setIfInBounds i y):=by
 refine⟨by simp[h.1],fun j h1 h2=>?_⟩
 simp only[Array.size_setIfInBounds]at h1 h2;rw[Array.getElem_setIfInBounds,Array.getElem_setIfInBounds];split
 ·exact hx
 ·exact h.2 j h1 h2
theorem VR.undef:VR m undef undef:= .tuple rfl fun i h _=>by simp at h
theorem VR.default:VR m default default:= .bool false
theorem AR.one {x y:Value}(h:VR m x y):AR m #[x] #[y]:=(AR.nil.push h)
theorem AR.map {ι:Type}{f g:ι→Value}(xs:Array ι)(h:∀x∈xs,VR m (f x) (g x)):AR m (xs.map f) (xs.map g):=
 ⟨by simp,fun i h1 h2=>by simp only[Array.getElem_map];exact h _ (Array.getElem_mem _)⟩
theorem mF {a b:Addr}(i:Nat):∀(k:Nat) {m:aD} {us vs:Array Value} (i:Nat),bA m a b→AR m us vs→aT τ P F AR m (loadCellsFrom a i k us) (loadCellsFrom b i k vs)
 |0,m,us,vs,i,_,h=>⟨vs,rfl,h⟩
 |k+1,m,us,vs,i,ha,h=>(Fi (ha.add i)).bind fun n x y hn hx=>mF i k (i+1) (ha.mono hn) ((h.mono hn).push hx)
theorem rD {a b:Addr}(k:Nat)(ha:bA m a b):aT τ P F AR m (loadCells a k) (loadCells b k):=mF 0 k 0 ha AR.nil
theorem pM (t:TypeId){a b:Addr}(ha:bA m a b):aT τ P F VR m (loadVar t a) (loadVar t b):=by
 refine SR.bind (BK t) fun n p q hn e=>?_;subst e
 cases p
 ·exact Fi (ha.mono hn)
 ·exact(pK t).bind fun n2 p q h2 e=>by
   subst e;exact(rD p ((ha.mono hn).mono h2)).bind fun n3 us vs _ h=>⟨_,rfl,.agg h.1 h.2⟩
theorem VR.cells {x y:Value}(h:VR m x y):AR m x.cells y.cells:=by
 cases h with
 |agg hs hh=>exact⟨hs,hh⟩
 |fS y hy hn=>
  have:y.cells= #[y]:=by cases y<;>first|rfl|exact absurd rfl (hy _).1
  rw[this];exact AR.one (.fS y hy hn)
 |_=>refine AR.one ?_;first
  |exact .bool _|exact .int _ _|exact .string _|exact .nilPtr|exact .cp _ _|exact .dO|exact .j_|exact .nilFunc|exact .nilIface
  |(constructor<;>assumption)
theorem lC {a b:Addr}:∀(us vs:List Value) {m:aD} (i:Nat),bA m a b→us.length=vs.length→(∀i (h1:i<us.length) (h2:i<vs.length),VR m us[i] vs[i])→aT τ P F dY m (storeCells a us i) (storeCells b vs i)
 |[],[],m,i,_,_,_=>⟨(),rfl,rfl⟩
 |x::us,y::vs,m,i,ha,hl,h=>(OF (ha.add i) (h 0 (by simp) (by simp))).bind fun n _ _ hn _=>
   lC us vs (i+1) (ha.mono hn) (by simpa using hl) fun j h1 h2=>(h (j+1) (by simpa using h1) (by simpa using h2)).mono hn
 |[],_::_,m,i,_,hl,_=>by simp at hl
 |_::_,[],m,i,_,hl,_=>by simp at hl
theorem AR.list {us vs:Array Value}(h:AR m us vs):us.toList.length=vs.toList.length∧∀i (h1:i<us.toList.length) (h2:i<vs.toList.length),VR m us.toList[i] vs.toList[i]:=
 ⟨by simpa using h.1,fun i h1 h2=>by simpa using h.2 i (by simpa using h1) (by simpa using h2)⟩
theorem CS (t:TypeId){a b:Addr}{x y:Value}(ha:bA m a b)(hx:VR m x y):aT τ P F dY m (storeVar t a x) (storeVar t b y):=by
 refine SR.bind (pK t) fun n p q hn e=>?_;subst e;have hc:=(hx.mono hn).cells;dsimp only
 split
 ·trivial
 ·rename_i hs
  rw[if_neg (by rw[←hc.1];exact hs)]
  exact lC _ _ 0 (ha.mono hn) hc.list.1 hc.list.2
theorem lD (e:TypeId){us vs:Array Value}(h:AR m us vs):aT τ P F bA m (newRow e us) (newRow e vs):=
 ⟨.cells vs e,_,rfl,ko.cells (Fz.refl _) h,fun n r r' _ hr=>⟨⟨r',0,none⟩,rfl,hr,rfl,rfl,rfl⟩⟩
theorem yf (t:TypeId){x y:Value}(h:VR m x y):aT τ P F bA m (newVar t x) (newVar t y):=lD t h.cells
theorem kr {x y:Value}(h:VR m x y):aT τ P F dY m (asIntOf x) (asIntOf y):=by
 cases h<;>first|exact bL|trivial|exact jN nofun
theorem qH {x y:Value}(h:VR m x y):aT τ P F dY m (asInt x) (asInt y):=(kr h).bind fun _ a b _ e=>by subst e;exact bL
theorem Kn {x y:Value}(h:VR m x y):aT τ P F dY m (asBool x) (asBool y):=by
 cases h<;>first|exact bL|trivial
theorem jc {x y:Value}(h:VR m x y):aT τ P F bA m (Instr.sureAddr x) (Instr.sureAddr y):=by
 cases h<;>first|trivial|(rename_i hs;exact sP hs)
theorem sj (R:dZ τ P){x y:Value}(h:VR m x y):aT τ P F bA m (asAddr x) (asAddr y):=by
 cases h<;>first|trivial|exact fo R|(rename_i hs;exact sP hs)
theorem pN (t:TypeId){us vs:Array Value}(off:Nat)(h:AR m us vs):aT τ P F VR m (part t us off) (part t vs off):=by
 unfold part;refine SR.bind (BK t) fun n p q hn e=>?_;subst e
 cases p
 ·simp only[Bool.false_eq_true,if_false]
  rcases(h.mono hn).get? off with⟨h1,h2⟩|⟨x,y,h1,h2,h3⟩
  ·rw[h1];trivial
  ·rw[h1,h2];exact sP h3
 ·exact(pK t).bind fun n2 p q h2 e=>by
   subst e;have:=((h.mono hn).mono h2).extract off (off+p)
   exact sP (.agg this.1 this.2)
end
end Go.Proofs.YtlhohdjniaebbaaGreat.Sr
