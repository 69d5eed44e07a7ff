/-
What is proved: if a lone run comes to its stop on every tape, there is a and what rests on it. Conditions: as stated.
-/
import Derived.Test.YtlhohdjniaebbaaGreatRy05
import Derived.Calls
import Derived.Test.YtlhohdjniaebbaaGreatProg
import Derived.Conc.Own
import Derived.Conc.Listed
set_option linter.unusedVariables false
set_option linter.unusedSimpArgs false
namespace Go.Proofs.YtlhohdjniaebbaaGreat.Sr
open Go Go.Conc
def KD:Result Next→Prop
 | .ok (.value _) _| .ok .skip _| .ok (.enter ..) _| .halt (.panic _) _| .halt (.stuck _) _=>True
 | .halt (.unsupported u) _=>∀g,u≠.initOrder g
 |_=>False
inductive eP (Q:Program):Frame→List Frame→World→Prop
 |bD {fr fr1:Frame} {cs cs1:List Frame} {v:World} (h:∀w,stepG Q true (G fr cs) w= .go (G fr1 cs1) w #[]):eP Q fr cs v
 |dead {fr:Frame} {cs:List Frame} {v:World} (h:∀w,∃o w' es,stepG Q true (G fr cs) w= .ended o w' es):eP Q fr cs v
 |draw (fn:FuncId) (tm:Array Value) (id:Nat) (ops:Array Oper) (k:List Item) {cs:List Frame} {v:World}:eP Q (aM fn tm (.code (.region id ops true)::k) .run) cs v
 |op {fn:FuncId} {tm:Array Value} {ops:Array Oper} {i:Nat} {rest:List Nat} {k:List Item} {o:Oper} {cs:List Frame} {v:World} (ho:ops[i]?=some o) (hw:Region.wanted o (yielded ops tm)=true)
   (hs:SF Q (execOp (Act.eval ⟨tm,[]⟩) o) v) (hr:KD ((execOp (Act.eval ⟨tm,[]⟩) o).runT Q v #[]).1):eP Q (aM fn tm (.inRegion ops (i::rest)::k) .run) cs v
 |ret {fn:FuncId} {tm:Array Value} {todo:List Item} {fr:Func} {c:Frame} {cs:List Frame} {v:World} (hf:Q.funcs[fn]?=some fr) (hs:SF Q (results fr tm) v):eP Q (aM fn tm todo .returning) (c::cs) v
section
variable {Q:Program}
theorem lf (b:Bool)(fn:FuncId)(t:Array Value)(id:Nat)(ops:Array Oper)(k:List Item)(cs:List Frame)(z:World):stepG Q b (G (aM fn t (.code (.region id ops true)::k) .run) cs) z=
  .go (G (aM fn t (.inRegion ops (Region.schedule (Q.follows .mixedOrders) ops (z.tape z.drawn (.order fn id)))::k) .run) cs) {z with drawn:=z.drawn+1} #[]:=by
 simp[G,aM,stepG,stepG.exec,choose,Sem.run,Question.forced,Question.cut]
theorem fq {fr:Frame}{cs:List Frame}{s:Sem Next}{w w1:World}{h0:Halt}{es:Array Event}(h:s.runT Q w #[]=(.halt h0 w1,es))(hb:(∃z,h0= .stuck z)∨∃u,h0= .unsupported u∧∀g,u≠.initOrder g):
  ∃o w' aQ,stepG.apply Q true fr cs none s w= .ended o w' aQ:=by
 rcases hb with⟨z,rfl⟩|⟨u,rfl,hu⟩
 ·exact⟨_,_,_,by simp only[stepG.apply,h,if_true,GStep.after];rfl⟩
 ·cases u with
  |initOrder g=>exact absurd rfl (hu g)
  |_=>exact⟨_,_,_,by simp only[stepG.apply,h,if_true,GStep.after];rfl⟩
theorem FC {mn:Bool}{fn:FuncId}{fr:Func}{t:Array Value}{todo:List Item}{cs:List Frame}{w w1:World}{h0:Halt}{es:Array Event}(hf:Q.funcs[fn]?=some fr)(h:(results fr t).runT Q w #[]=(.halt h0 w1,es)):
  ∃o w' aQ,stepG Q mn (G (aM fn t todo .returning) cs) w= .ended o w' aQ:=by
 cases h0<;>exact⟨_,_,_,by simp only[G,aM,stepG,unwind,hf,h,GStep.after];rfl⟩
theorem eP.on {fr:Frame}{cs:List Frame}{v:World}(h:eP Q fr cs v):
  (∃fr1 cs1 v1 es k,v1.tape=v.tape∧v1.drawn=v.drawn+k∧stepG Q true (G fr cs) v= .go (G fr1 cs1) v1 es∧∀T' d',kK v.tape v.drawn T' d' k→stepG Q true (G fr cs) (v.on T' d')= .go (G fr1 cs1) (v1.on T' (d'+k)) es)∨
  ((∃o w es,stepG Q true (G fr cs) v= .ended o w es)∧∃k,∀T' d',kK v.tape v.drawn T' d' k→∃o w es,stepG Q true (G fr cs) (v.on T' d')= .ended o w es):=by
 cases h with
 |bD h=>exact .inl ⟨_,_,v,#[],0,rfl,rfl,h v,fun T' d' _=>h _⟩
 |dead h=>exact .inr ⟨h v,0,fun T' d' _=>h _⟩
 |draw fn tm id ops k=>
  refine .inl ⟨_,_,_,_,1,?_,?_,lf ..,fun T' d' hA=>?_⟩
  ·rfl
  ·rfl
  ·rw[lf]
   have e0:T' d' (.order fn id)=v.tape v.drawn (.order fn id):=by have:=hA 0 (by omega) (.order fn id);simpa using this
   have e1:(v.on T' d').tape (v.on T' d').drawn (.order fn id)=v.tape v.drawn (.order fn id):=e0
   rw[e1];rfl
 | @op fn tm ops i rest k o _ _ ho hw hs hr=>
   have e:∀w,stepG Q true (G (aM fn tm (.inRegion ops (i::rest)::k) .run) cs) w=stepG.apply Q true (aM fn tm (.inRegion ops (i::rest)::k) .run) cs none (execOp (Act.eval ⟨tm,[]⟩) o) w:=
    fun w=>stepG_oper (b:=aM fn #[] [] .run) (a:=⟨tm,[]⟩) ho hw
   have ht:∃tJ l k',(aM fn tm (.inRegion ops (i::rest)::k) .run).todo= .inRegion tJ l::k':=⟨_,_,_,rfl⟩
   simp only[e];generalize hq:(execOp (Act.eval ⟨tm,[]⟩) o).runT Q v #[]=q at hr;obtain⟨r,es⟩:=q;obtain⟨k2,h1,h2,h3⟩:=hs.on hq
   cases r with
   |ok a v1=>
    cases a with
    |value x=>exact .inl ⟨_,_,v1,_,k2,h1,h2,jf rfl hq,fun T' d' hA=>jf rfl (h3 T' d' hA).1⟩
    |skip=>exact .inl ⟨_,_,v1,_,k2,h1,h2,kt rfl hq,fun T' d' hA=>kt rfl (h3 T' d' hA).1⟩
    |enter f args=>exact .inl ⟨_,_,v1,_,k2,h1,h2,jg rfl ht hq,fun T' d' hA=>jg rfl ht (h3 T' d' hA).1⟩
    |_=>exact hr.elim
   |halt h0 v1=>
    cases h0 with
    |panic x=>exact .inl ⟨_,_,v1,_,k2,h1,h2,gK rfl hq,fun T' d' hA=>gK rfl (h3 T' d' hA).1⟩
    |stuck z=>exact .inr ⟨fq hq (.inl ⟨z,rfl⟩),k2,fun T' d' hA=>fq (h3 T' d' hA).1 (.inl ⟨z,rfl⟩)⟩
    |unsupported u=>exact .inr ⟨fq hq (.inr ⟨u,rfl,hr⟩),k2,fun T' d' hA=>fq (h3 T' d' hA).1 (.inr ⟨u,rfl,hr⟩)⟩
    |_=>exact hr.elim
 | @ret fn tm todo fr c cs _ hf hs=>
   generalize hq:(results fr tm).runT Q v #[]=q;obtain⟨r,es⟩:=q;obtain⟨k2,h1,h2,h3⟩:=hs.on hq
   cases r with
   |ok a v1=>exact .inl ⟨_,_,v1,_,k2,h1,h2,k_ hf hq,fun T' d' hA=>k_ hf (h3 T' d' hA).1⟩
   |halt h0 v1=>exact .inr ⟨FC hf hq,k2,fun T' d' hA=>FC hf (h3 T' d' hA).1⟩
inductive Ends (Q:Program) (Stop:Frame→List Frame→World→Prop):Frame→List Frame→World→Prop
 |stop {fr:Frame} {cs:List Frame} {v:World} (h:Stop fr cs v):Ends Q Stop fr cs v
 |step {fr:Frame} {cs:List Frame} {v:World} (h1:∀T d,eP Q fr cs (v.on T d)→∃fe bZ v' es,stepG Q true (G fr cs) (v.on T d)= .go (G fe bZ) v' es)
   (h2:∀T d fe bZ v' es,eP Q fr cs (v.on T d)→stepG Q true (G fr cs) (v.on T d)= .go (G fe bZ) v' es→Ends Q Stop fe bZ v'):Ends Q Stop fr cs v
theorem OU {fr fe:Frame}{cs bZ:List Frame}{w w':World}(h:lone fr cs w=lone fe bZ w'):fr=fe∧cs=bZ∧w=w':=by
 unfold lone at h;injection h with h1 h2 h3
 have:({frame:=fr,callers:=cs,status:= .running,dying:=none}:Goroutine)={frame:=fe,callers:=bZ,status:= .running,dying:=none}:=by
  have:=congrArg (fun(a:Array Goroutine)=>a[0]?) h2
  simpa using this
 injection this with h4 h5
 exact⟨h4,h5,h1⟩
theorem Sm {fr fe:Frame}{cs bZ:List Frame}{w w':World}{es:Array Event}(h:stepG Q true (G fr cs) w= .go (G fe bZ) w' es):step Q (lone fr cs w)= .next (lone fe bZ w'):=
 step_lone_go (by unfold G at h;rw[h];rfl)
theorem FD {fr:Frame}{cs:List Frame}{w w':World}{o:Outcome}{es:Array Event}(h:stepG Q true (G fr cs) w= .ended o w' es):step Q (lone fr cs w)= .ended o w':=
 step_lone_ended (by unfold G at h;rw[h];rfl)
theorem Sn {Stop:Frame→List Frame→World→Prop}(hS:∀fr cs v T d,Stop fr cs v→Stop fr cs (v.on T d)){fr:Frame}{cs:List Frame}{v:World}
  (H:∀T,∃N fe bZ v',runN Q N (lone fr cs (v.on T 0))= .next (lone fe bZ v')∧Stop fe bZ v'):Ends Q Stop fr cs v:=by
 classical
 refine Classical.byContradiction fun cv=>?_;let S:={x:Frame×List Frame×World //¬Ends Q Stop x.1 x.2.1 x.2.2}
 have hx:∀x:S,∃(T:Nat→Question→Nat) (d k:Nat) (y:S),∀T' d',kK T d T' d' k→(∃o w es,stepG Q true (G x.1.1 x.1.2.1) (x.1.2.2.on T' d')= .ended o w es)∨
   (∃es,stepG Q true (G x.1.1 x.1.2.1) (x.1.2.2.on T' d')= .go (G y.1.1 y.1.2.1) (y.1.2.2.on T' (d'+k)) es):=by
  rintro⟨⟨fr,cs,v⟩,hn⟩;dsimp only at hn⊢
  by_cases h1:∀T d,eP Q fr cs (v.on T d)→∃fe bZ v' es,stepG Q true (G fr cs) (v.on T d)= .go (G fe bZ) v' es
  ·by_cases h2:∀T d fe bZ v' es,eP Q fr cs (v.on T d)→stepG Q true (G fr cs) (v.on T d)= .go (G fe bZ) v' es→Ends Q Stop fe bZ v'
   ·exact absurd (.step h1 h2) hn
   ·simp only[Classical.not_forall]at h2
    obtain⟨T,d,fe,bZ,v',es,ht,hg,aaN⟩:=h2;rcases ht.on with⟨fr1,cs1,v1,So,k,e1,e2,e3,e4⟩|⟨⟨o,w,So,e1⟩,_⟩
    ·rw[e3]at hg
     injection hg with sz eD _
     unfold G at sz;injection sz with hg3 hg4
     subst eD hg3 hg4;refine⟨T,d,k,⟨(fr1,cs1,v1),aaN⟩,fun T' d' hA=> .inr ⟨So,?_⟩⟩
     exact e4 T' d' hA
    ·rw[e1]at hg;cases hg
  ·simp only[Classical.not_forall]at h1
   obtain⟨T,d,ht,hg⟩:=h1;rcases ht.on with⟨fr1,cs1,v1,So,k,e1,e2,e3,e4⟩|⟨_,k,e2⟩
   ·exact absurd ⟨_,_,_,_,e3⟩ hg
   ·exact⟨T,d,k,⟨(fr,cs,v),hn⟩,fun T' d' hA=> .inl (e2 T' d' hA)⟩
 let Tt:S→Nat→Question→Nat:=fun x=>(hx x).choose
 let dd:S→Nat:=fun x=>(hx x).choose_spec.choose
 let kk:S→Nat:=fun x=>(hx x).choose_spec.choose_spec.choose
 let nx:S→S:=fun x=>(hx x).choose_spec.choose_spec.choose_spec.choose
 have hp:∀x:S,∀T' d',kK (Tt x) (dd x) T' d' (kk x)→(∃o w es,stepG Q true (G x.1.1 x.1.2.1) (x.1.2.2.on T' d')= .ended o w es)∨
   (∃es,stepG Q true (G x.1.1 x.1.2.1) (x.1.2.2.on T' d')= .go (G (nx x).1.1 (nx x).1.2.1) ((nx x).1.2.2.on T' (d'+kk x)) es):=fun x=>(hx x).choose_spec.choose_spec.choose_spec.choose_spec
 clear_value Tt dd kk nx
 let s:Nat→S:=fun n=>Nat.rec ⟨(fr,cs,v),cv⟩ (fun _ x=>nx x) n
 let D:Nat→Nat:=fun n=>Nat.rec 0 (fun i a=>a+kk (s i)) n
 have s0:s 0=⟨(fr,cs,v),cv⟩:=rfl
 have s1:∀i,s (i+1)=nx (s i):=fun i=>rfl
 have D0:D 0=0:=rfl
 have D1:∀i,D (i+1)=D i+kk (s i):=fun i=>rfl
 clear_value s D
 have mono:∀i j,i≤j→D i≤D j:=by
  intro i j pR;induction pR with
  |refl=>exact Nat.le_refl _
  |step _ ih=>rw[D1];omega
 let T:Nat→Question→Nat:=fun p q=>if h:∃i,D i≤p∧p<D (i+1)then Tt (s h.choose) (dd (s h.choose)+(p-D h.choose)) q else 0
 have hT:∀i,kK (Tt (s i)) (dd (s i)) T (D i) (kk (s i)):=by
  intro i j hj q;have h:∃i',D i'≤D i+j∧D i+j<D (i'+1):=⟨i,by omega,by rw[D1];omega⟩
  have hc:=h.choose_spec;have he:h.choose=i:=by
   rcases Nat.lt_trichotomy h.choose i with aj|heq|Sp
   ·have:=mono (h.choose+1) i aj;omega
   ·exact heq
   ·have:=mono (i+1) h.choose Sp;rw[D1]at this;omega
  show(if h:∃i',D i'≤D i+j∧D i+j<D (i'+1)then Tt (s h.choose) (dd (s h.choose)+(D i+j-D h.choose)) q else 0)=_
  rw[dif_pos h,he];congr 1
  omega
 clear_value T
 have dA:∀i,(∃j,j<i∧∃o w,runN Q (j+1) (lone fr cs (v.on T 0))= .ended o w)∨runN Q i (lone fr cs (v.on T 0))= .next (lone (s i).1.1 (s i).1.2.1 ((s i).1.2.2.on T (D i))):=by
  intro i;induction i with
  |zero=>right;rw[s0,D0];rfl
  |succ i ih=>
   rcases ih with⟨j,hj,h⟩|ih
   ·exact .inl ⟨j,by omega,h⟩
   ·rcases hp (s i) T (D i) (hT i)with⟨o,w,es,h⟩|⟨es,h⟩
    ·refine .inl ⟨i,by omega,o,w,?_⟩
     rw[runN_add,ih];show(match step Q _ with| .next m=>Stepped.next m|e=>e)=_
     rw[FD h]
    ·right
     rw[runN_add,ih,s1,D1];show(match step Q _ with| .next m=>Stepped.next m|e=>e)=_
     rw[Sm h]
 obtain⟨N,fe,bZ,v',hN,cC⟩:=H T;rcases dA N with⟨j,hj,o,w,h⟩|h
 ·obtain⟨c,rfl⟩:∃c,N=(j+1)+c:=⟨N-(j+1),by omega⟩
  rw[runN_add,h]at hN
  cases hN
 ·rw[hN]at h
  injection h with h
  obtain⟨h1,h2,h3⟩:=OU h;have:=(s N).2
  refine this (.stop ?_);rw[←h1,←h2];have h4:(s N).1.2.2=v'.on (s N).1.2.2.tape (s N).1.2.2.drawn:=by rw[h3];rfl
  rw[h4];exact hS _ _ _ _ _ cC
end
end Go.Proofs.YtlhohdjniaebbaaGreat.Sr
namespace Go.Proofs.YtlhohdjniaebbaaGreat.Sr
open Go Go.Conc
section
variable {τ:TypeId}{P' P:Program}{α β:Type}{RA:aD→α→β→Prop}
theorem dM.sf {Q:Program}{s:Sem α}:∀{v:World},dM τ s→SF Q s v:=by
 induction s with
 |halt h0=>intro v h;trivial
 |new o c ih=>intro v h;exact ih _ (h _)
 |shape r c ih=>intro v h;exact ih _ (h _)
 |frozen a c ih=>intro v h;exact ih _ (h _)
 |choose q c ih=>
  intro v h;simp only[SF];split
  ·exact ih _ (h _)
  ·exact ih _ (h _)
 |program c ih=>intro v h;exact ih _ (h _)
 |mark m c ih=>intro v h;exact ih h
 |_=>intro v h;exact h.elim
theorem rG {v:World}{a:Addr}(h:∃o,v.heap[a.block]?=some o∧CQ o):∀r u,v.heap[a.block]?≠some (.view r u):=by
 obtain⟨o,ho,hb⟩:=h;rintro r u e;rw[ho]at e;rcases hb with⟨us,e',fz,rfl⟩|⟨x,l,rfl⟩<;>cases e
theorem SR.sf {s:Sem α}{s':Sem β}:∀{m:aD} {v w:World},SR τ P' P RA m s s'→WR m v w→SF P' s v:=by
 induction s generalizing s' with
 |pure a=>intro m v w h hw;trivial
 |halt h0=>intro m v w h hw;trivial
 |load md a c ih=>
  intro m v w h hw;obtain⟨a',k',rfl,ha,hk⟩:=h;obtain⟨mA,eJ,_⟩:=hw.cell ha;simp only[SF]
  cases hv:v.cell? a with
  |none=>exact rG eJ
  |some x=>
   obtain⟨y,hy,kG⟩:=mA x hv;exact ih x (hk m x y (aD.le_refl m) kG) hw
 |store md a x c ih=>
  intro m v w h hw;obtain⟨a',x',k',rfl,ha,hx,hk⟩:=h;obtain⟨mA,eJ,kH⟩:=hw.cell ha;simp only[SF];right
  cases hv:v.cell? a with
  |none=>exact rG eJ
  |some u=>exact .inr (ih (hk m (aD.le_refl m)) (hw.set ha hx))
 |new o c ih=>
  intro m v w h hw;obtain⟨o',k',rfl,ho,hk⟩:=h;obtain⟨hle,nf⟩:=hw.new ho;exact ih v.heap.size (hk _ v.heap.size w.heap.size hle (by simp[aD.put])) nf
 |choose q c ih=>
  intro m v w h hw;obtain⟨k',rfl,hk⟩:=h;simp only[SF];split
  ·exact ih 0 (hk 0) hw
  ·exact ih (q.cut (v.tape v.drawn q)) (v:={v with drawn:=v.drawn+1}) (w:={w with tape:=v.tape,drawn:=v.drawn+1}) (hk _) ⟨hw.inj,hw.iX,hw.os,rfl,rfl⟩
 |program c ih=>
  intro m v w h hw;rcases h with h|⟨k',rfl,hk⟩
  ·exact dM.sf (s:=c P') h
  ·exact ih P' hk hw
 |mark md c ih=>
  intro m v w h hw
  cases md with
  |noRoom=>
   obtain⟨k',rfl,hk⟩:=h;exact ih hk hw
  |_=>exact h.elim
 |getObj r c ih=>
  intro m v w h hw;obtain⟨r',k',rfl,fl,hk⟩:=h;obtain⟨o,p,ho,hp,aW⟩:=hw.iX _ _ fl;intro o' pB;rw[ho]at pB
  cases pB;rcases aW with⟨us,vs,e,fz,gz,rfl,rfl,hf,hs,hx⟩|⟨x,y,l,rfl,rfl,kG⟩
  ·exact .inl ⟨_,_,_,rfl⟩
  ·exact .inr (ih (.number x l) (hk x y l kG) hw)
 |shape r c ih=>
  intro m v w h hw;rcases h with h|⟨r',k',rfl,fl,hk⟩
  ·show SF P' (c _) v
   exact dM.sf (h _)
  ·exact ih _ (hk _) hw
 |frozen a c ih=>
  intro m v w h hw;show SF P' (c _) v
  exact dM.sf (h _)
 |freeze a n c ih=>intro m v w h;exact h.elim
 |setObj r o c ih=>intro m v w h;exact h.elim
 |sys c k2 ih=>intro m v w h;exact h.elim
end
section
variable {τ:TypeId}{P:Program}{F:Array Func}{spec:FuncId→Bool}{m:aD}
theorem vA {s:Sem Next}{s':Sem Next}{v w:World}(h:aT τ P F iA m s s')(hw:WR m v w):KD (s.runT (Program.mk (Program.toTables P) F) v #[]).1:=by
 cases hr:s.runT (Program.mk (Program.toTables P) F) v #[]with
 |mk r es=>
  cases r with
  |ok a v1=>
   obtain⟨n,b,w',us,jC,_,_,_,r4,_,_⟩:=h.run (fs:= #[]) hw hr
   cases r4<;>trivial
  |halt h0 v1=>
   have hp:=h.run_halt hw hr
   cases h0<;>first|trivial|exact hp|exact hp.elim
theorem yy {Q:Program}{fn:FuncId}{t:Array Value}{c:Operand}{x y:Code}{k:List Item}{cs:List Frame}(hb:∀b,Act.eval ⟨t,[]⟩ c≠.bool b)(w:World):∃o w' es,stepG Q true (G (aM fn t (.code (.cond c x y)::k) .run) cs) w= .ended o w' es:=by
 have he:(Frame.mk fn t (.code (.cond c x y)::k) [] .run .normal none).eval c=Act.eval ⟨t,[]⟩ c:=by cases c<;>rfl
 simp only[G,aM,stepG,stepG.exec,he]
 cases hv:Act.eval ⟨t,[]⟩ c with
 |bool b=>exact absurd hv (hb b)
 |_=>exact⟨_,_,_,rfl⟩
theorem FE (B:fg τ P F spec m.good){f' f:Frame}{fs' fs e':List Frame}{v w:World}(h:FR P spec m f' f)(hs:h_ P spec m fs' fs)(hw:WR m v w)(hl:¬Edge f' f fs'):
  eP (Program.mk (Program.toTables P) F) f' (fs'++e') v:=by
 obtain @⟨fn,tm',tm,todo,mode,tl,ds,dR,ha,ok,hm,rfl,rfl⟩:=h
 ·rcases hm with rfl|rfl
  ·cases todo with
   |nil=>
    cases dR with
    |ap=>exact absurd (.inr ⟨rfl,by simp[fb]⟩) hl
    |no fc hg=>exact .bD fun w=>stepG_end (b:=aM fn #[] [] .run) (a:=⟨tm',[]⟩)
   |cons i k=>
    have jP:=ok i (by simp)
    cases i with
    |code c=>
     cases c with
     |skip=>exact .bD fun w=>stepG_skip (b:=aM fn #[] [] .run) (a:=⟨tm',[]⟩)
     |label l=>exact .bD fun w=>stepG_label (b:=aM fn #[] [] .run) (a:=⟨tm',[]⟩)
     |ret=>exact .bD (fr1:=aM fn tm' (.code .ret::(k++tl)) .returning) (cs1:=fs'++e') fun w=>by simp[G,aM,stepG,stepG.exec]
     |exit id=>
      cases hx:exitTo id k with
      |none=>exact .dead fun w=>⟨_,_,_,by simp only[G,aM,List.cons_append,stepG,stepG.exec,jh dR.yr hx,Option.elim_none];rfl⟩
      |some k'=>exact .bD fun w=>stepG_exit (b:=aM fn #[] [] .run) (a:=⟨tm',[]⟩) (ku hx)
     |seq x y=>exact .bD fun w=>stepG_seq (b:=aM fn #[] [] .run) (a:=⟨tm',[]⟩)
     |block id x=>exact .bD fun w=>stepG_block (b:=aM fn #[] [] .run) (a:=⟨tm',[]⟩)
     |loop x=>exact .bD fun w=>stepG_loop (b:=aM fn #[] [] .run) (a:=⟨tm',[]⟩)
     |cond c x y=>
      cases h1:Act.eval ⟨tm',[]⟩ c with
      |bool b=>exact .bD fun w=>stepG_cond (b:=aM fn #[] [] .run) (a:=⟨tm',[]⟩) h1
      |_=>exact .dead (yy fun b hb=>by rw[h1]at hb;cases hb)
     |region id ops draw=>
      cases draw with
      |false=>exact .bD fun w=>stepG_region (b:=aM fn #[] [] .run) (a:=⟨tm',[]⟩)
      |true=>exact .draw fn tm' id ops (k++tl)
     |_=>simp[cw,fp]at jP
    |inBlock id=>exact .bD fun w=>stepG_inBlock (b:=aM fn #[] [] .run) (a:=⟨tm',[]⟩)
    |inLoop x=>exact .bD fun w=>stepG_inLoop (b:=aM fn #[] [] .run) (a:=⟨tm',[]⟩)
    |inRegion ops l=>
     cases l with
     |nil=>exact .bD fun w=>stepG_region_end (b:=aM fn #[] [] .run) (a:=⟨tm',[]⟩)
     |cons j rest=>
      have skip:((ops[j]?).map (Region.wanted · (yielded ops tm'))).getD false=false→eP (Program.mk (Program.toTables P) F) (aM fn tm' ((.inRegion ops (j::rest)::k)++tl) .run) (fs'++e') v:=by
       intro hn;refine .bD (fr1:=(aM fn tm' ((.inRegion ops (j::rest)::k)++tl) .run).finish undef) (cs1:=fs'++e') fun z=>?_;simp only[G,aM,List.cons_append,stepG,stepG.exec];exact if_neg (by rw[hn];simp)
      cases ho:ops[j]? with
      |none=>exact skip (by rw[ho];rfl)
      |some o=>
       cases nf:Region.wanted o (yielded ops tm')with
       |false=>exact skip (by rw[ho];exact nf)
       |true=>
        have Sj:gk P m.good o.op=true:=by
         simp only[cw]at jP;have:=Array.all_eq_true_iff_forall_mem.1 jP o (Array.mem_of_getElem? ho)
         rw[Bool.and_eq_true]at this;exact this.1
        have jD:=oj (F:=F) B.rt B.globals B.fns (ha.oper B.bJ (ds:=ds)) o Sj fun f=>⟨rfl,rfl⟩
        exact .op ho nf (jD.sf hw) (vA jD hw)
    |_=>simp[cw]at jP
  ·cases hs with
   |nil=>exact absurd (.inl ⟨rfl,rfl⟩) hl
   | @cons c' c bM gs hc yw bW=>
     obtain⟨rfl,rfl,fc,hg⟩:=dR.back;obtain⟨fr,e1,e2,e3⟩:=B.same fn hg fc;exact .ret e1 ((iN (F:=F) (m:=m) B.rt fr ha).sf hw)
def Passes (Q:Program)(f:Frame):Prop:=f.defers=[]∧(∃fr,Q.funcs[f.fn]?=some fr)∧f.mode= .run
theorem kh {Q:Program}{b:Bool}{f c:Frame}{cs:List Frame}{chain:List PanicEntry}(h1:f.defers=[])(h2:∃fr,Q.funcs[f.fn]?=some fr)(h3:f.mode= .panicking chain)(w:World):
  stepG Q b (G f (c::cs)) w= .go (G (c.raise chain) cs) w #[]:=by
 obtain⟨fr,h2⟩:=h2;simp[G,stepG,h3,unwind,h1,Frame.catches,h2]
theorem tM {Q:Program}{Stop:Frame→List Frame→World→Prop}{c:Frame}(hc:∀f cs v,Stop f cs v→cs=[c]){chain:List PanicEntry}{v:World}:
  ∀(cs:List Frame) (f:Frame),(∀x∈cs,Passes Q x)→f.defers=[]→(∃fr,Q.funcs[f.fn]?=some fr)→f.mode= .panicking chain→Ends Q Stop f (cs++[c]) v→
   ¬Ends Q Stop (c.raise chain) [] v→∃f:Frame,f.mode= .panicking chain∧∃v',v'.heap=v.heap∧Stop f [c] v'
 |[],f,_,h1,h2,h3,h,dB=>by
  cases h with
  |stop h=>exact⟨f,h3,v,rfl,h⟩
  |step k1 k2=>
   have ht:eP Q f [c] (v.on v.tape v.drawn):= .bD fun w=>kh h1 h2 h3 w
   exact absurd (k2 v.tape v.drawn _ _ _ _ ht (kh h1 h2 h3 _)) dB
 |d::cs,f,hp,h1,h2,h3,h,dB=>by
  obtain⟨d1,d2,d3⟩:=hp d (by simp)
  cases h with
  |stop h=>
   have:=hc _ _ _ h
   simp at this
  |step k1 k2=>
   have ht:eP Q f (d::(cs++[c])) (v.on v.tape v.drawn):= .bD fun w=>kh h1 h2 h3 w
   have h':=k2 v.tape v.drawn _ _ _ _ ht (kh h1 h2 h3 _);refine tM hc cs (d.raise chain) (fun x hx=>hp x (by simp[hx])) ?_ ?_ ?_ h' dB
   ·unfold Frame.raise;rw[d3];exact d1
   ·unfold Frame.raise;rw[d3];exact d2
   ·unfold Frame.raise;rw[d3]
end
end Go.Proofs.YtlhohdjniaebbaaGreat.Sr
namespace Go.Proofs.YtlhohdjniaebbaaGreat.Sr
open Go Go.Conc
def bz:Frame:={fn:=0,tmps:= #[],todo:=[.code (.refuse "")],defers:=[{target:= .nil,args:= #[]}],mode:= .run,kind:= .normal}
def aO (Q:Program)(R:Ending→World→Prop)(fr:Frame)(cs:List Frame)(v:World):Prop:=cs=[bz]∧∃e T d,R e (v.on T d)∧fr.leaving Q (v.on T d) e
section
variable {Q:Program}{R:Ending→World→Prop}
theorem Sq:∀fr cs v T d,aO Q R fr cs v→aO Q R fr cs (v.on T d):=fun fr cs v T d ⟨h,e,T',d',h1,h2⟩=>⟨h,e,T',d',h1,h2⟩
theorem ends_of_calls {f:FuncId}{args:Array Value}{v:World}(hO:∀w,¬R .outgrown w)(h:∀T,Calls Q f args (v.on T 0) R):Ends Q (aO Q R) (Frame.enter Q f args .normal) [bz] v:=by
 refine Sn Sq fun T=>?_;obtain⟨e,w',fr,h1,h2,h3,h4⟩:=h T [bz];have hs:Steps Q (lone (Frame.enter Q f args .normal) [bz] (v.on T 0)) (lone fr [bz] w'):=by
  cases e with
  |outgrown=>exact absurd h1 (hO _)
  |returned x=>exact h2
  |panicked c=>exact h2
 obtain⟨n,hn⟩:=hs;exact⟨n,fr,[bz],w',hn,rfl,e,w'.tape,w'.drawn,h1,h4⟩
theorem BO (v:World):¬Ends Q (aO Q R) bz [] v:=by
 intro h;have key:∀w,∃o w' es,stepG Q true (G bz []) w= .ended o w' es:=fun w=>⟨_,_,_,rfl⟩
 cases h with
 |stop h=>exact absurd h.1 (by simp)
 |step h1 _=>
  obtain⟨_,_,_,_,h⟩:=h1 v.tape v.drawn (.dead key);obtain⟨o,w',es,hk⟩:=key (v.on v.tape v.drawn);rw[hk]at h
  cases h
theorem FF (x:Value):bz.finish x=bz:=rfl
theorem pS (chain:List PanicEntry)(v:World):¬Ends Q (aO Q R) (bz.raise chain) [] v:=by
 intro h;have key:∀w,∃o w' es,stepG Q true (G (bz.raise chain) []) w= .ended o w' es:=fun w=>⟨_,_,_,rfl⟩
 cases h with
 |stop h=>exact absurd h.1 (by simp)
 |step h1 _=>
  obtain⟨_,_,_,_,h⟩:=h1 v.tape v.drawn (.dead key);obtain⟨o,w',es,hk⟩:=key (v.on v.tape v.drawn);rw[hk]at h
  cases h
end
section
variable {τ:TypeId}{P:Program}{F:Array Func}{spec:FuncId→Bool}{m:aD}{R:Ending→World→Prop}
theorem xS (B:fg τ P F spec m.good){f' f:Frame}(h:FR P spec m f' f):f'.defers=[]∧(∃fr,(Program.mk (Program.toTables P) F).funcs[f'.fn]?=some fr)∧(f'.mode= .run∨f'.mode= .returning):=by
 obtain @⟨fn,tm',tm,todo,mode,tl,ds,dR,ha,ok,hm,rfl,rfl⟩:=h
 cases dR with
 |no hs hg=>
  obtain⟨fr,e1,_,_⟩:=B.same fn hg hs;exact⟨rfl,⟨fr,e1⟩,hm⟩
 |ap hf _ _ hs=>
  subst hf;exact⟨rfl,B.ap hs,hm⟩
theorem lI (B:fg τ P F spec m.good){fs' fs:List Frame}(h:h_ P spec m fs' fs):∀x∈fs',Passes (Program.mk (Program.toTables P) F) x:=by
 induction h with
 |nil=>simp
 |cons h hr _ ih=>
  intro x hx;rcases List.mem_cons.1 hx with rfl|hx
  ·obtain⟨h1,h2,_⟩:=xS B h
   exact⟨h1,h2,hr⟩
  ·exact ih x hx
theorem nF (B:fg τ P F spec m.good)(hO:∀w,¬R .outgrown w){f' f:Frame}{fs':List Frame}{v:World}(h:FR P spec m f' f)(hl:¬Edge f' f fs'):
  ¬aO (Program.mk (Program.toTables P) F) R f' (fs'++[bz]) v:=by
 rintro⟨hc,e,T,d,h1,h2⟩;have eQ:fs'=[]:=by
  cases fs' with
  |nil=>rfl
  |cons a l=>simp at hc
 obtain⟨_,_,hm⟩:=xS B h
 cases e with
 |returned x=>exact hl (.inl ⟨h2.1,eQ⟩)
 |panicked c=>have:=h2.1;rcases hm with hm|hm<;>rw[hm]at this<;>cases this
 |outgrown=>exact hO _ h1
theorem sE (B:fg τ P F spec m.good)(hO:∀w,¬R .outgrown w)(hP:∀x w,Plain τ (.panic x)→¬R (.panicked [{v:=x,recovered:=false}]) w){f' f:Frame}{fs' fs e:List Frame}{v w:World}
  (hE:Ends (Program.mk (Program.toTables P) F) (aO (Program.mk (Program.toTables P) F) R) f' (fs'++[bz]) v) (h:FR P spec m f' f) (hs:h_ P spec m fs' fs) (T:Nat→Question→Nat) (d:Nat) (hw:WR m (v.on T d) w) (hl:¬Edge f' f fs') (mn:Bool):
  ∃n f1' f1 fs1' fs1 v1 w1 es aQ,eP (Program.mk (Program.toTables P) F) f' (fs'++[bz]) (v.on T d)∧stepG (Program.mk (Program.toTables P) F) true (G f' (fs'++[bz])) (v.on T d)= .go (G f1' (fs1'++[bz])) v1 aQ∧
   stepG P mn (G f (fs++e)) w= .go (G f1 (fs1++e)) w1 es∧(FR P spec n f1' f1∨(kg P F spec n f1' f1∧fs1'≠[]))∧h_ P spec n fs1' fs1∧WR n v1 w1∧Kept m n (v.on T d) w v1 w1∧om n (v.on T d) es∧(KA f fs→KA f1 fs1):=by
 have ht:=FE B h hs hw hl (e':=[bz])
 cases hE with
 |stop hS=>exact absurd hS (nF B hO h hl)
 |step k1 k2=>
  obtain⟨fe,bZ,v1,aQ,hgo⟩:=k1 T d ht;have FG:=OT B (mn:=mn) (mn':=true) (e':=[bz]) (e:=e) h hs hw hl hgo;generalize cC:stepG P mn (G f (fs++e)) w=st at FG;generalize sz:G fe bZ=g1 at FG hgo
  cases FG with
  | @goes n f1' f1 fs1' fs1 _ w1 es q1 q2 q3 q4 q5 q6=>
    exact⟨n,f1',f1,fs1',fs1,v1,w1,es,aQ,ht,hgo,rfl,q1,q2,q3,q4,q5,q6⟩
  | @panics x _ _ hp=>
    have hc:=k2 T d _ _ _ _ ht hgo;obtain⟨a1,a2,a3⟩:=xS B h;have hm:(f'.raise [{v:=x,recovered:=false}])={f' with mode:= .panicking [{v:=x,recovered:=false}]}:=by
     unfold Frame.raise;rcases a3 with a3|a3<;>rw[a3]
    rw[hm]at hc;obtain⟨f2,b1,v2,_,b3⟩:=tM (c:=bz) (fun f cs v h=>h.1) fs' {f' with mode:= .panicking [{v:=x,recovered:=false}]} (lI B hs) a1 a2 rfl hc (pS _ _)
    obtain⟨_,en,T2,d2,c1,c2⟩:=b3
    cases en with
    |returned y=>have:=c2.1;rw[b1]at this;cases this
    |panicked ch=>
     have:=c2.1
     rw[b1]at this;injection this with this
     rw[←this]at c1;exact absurd c1 (hP x _ hp)
    |outgrown=>exact absurd c1 (hO _)
theorem vB (B:fg τ P F spec m.good)(hO:∀w,¬R .outgrown w){f' f:Frame}{v w:World}{T:Nat→Question→Nat}{d:Nat}
  (hE:Ends (Program.mk (Program.toTables P) F) (aO (Program.mk (Program.toTables P) F) R) f' [bz] v) (h:FR P spec m f' f) (hw:WR m (v.on T d) w) (hl:f'.mode= .returning):
  ∃x T' d',R (.returned x) (v.on T' d')∧f'.leaving (Program.mk (Program.toTables P) F) (v.on T' d') (.returned x):=by
 cases hE with
 |stop hS=>
  obtain⟨_,e,T',d',h1,h2⟩:=hS
  cases e with
  |returned x=>exact⟨x,T',d',h1,h2⟩
  |panicked c=>have:=h2.1;rw[hl]at this;cases this
  |outgrown=>exact absurd h1 (hO _)
 |step k1 k2=>
  exfalso
  obtain @⟨fn,tm',tm,todo,mode,tl,ds,dR,ha,ok,hm,rfl,rfl⟩:=h
  ·obtain rfl:mode= .returning:=hl
   obtain⟨rfl,rfl,fc,hg⟩:=dR.back;rw[List.append_nil]at*;obtain⟨fr,e1,e2,e3⟩:=B.same fn hg fc;have jD:=iN (F:=F) (m:=m) B.rt fr ha;have ht:eP (Program.mk (Program.toTables P) F) (aM fn tm' todo .returning) [bz] (v.on T d):= .ret e1 (jD.sf hw)
   obtain⟨fe,bZ,v1,aQ,hgo⟩:=k1 T d ht
   cases hr:(results fr tm').runT (Program.mk (Program.toTables P) F) (v.on T d) #[]with
   |mk r C3=>
    cases r with
    |halt h0 v2=>exact vz e1 hr _ _ _ hgo
    |ok a v2=>
     have hc:=k2 T d _ _ _ _ ht (k_ e1 hr);rw[FF]at hc;exact BO _ hc
end
end Go.Proofs.YtlhohdjniaebbaaGreat.Sr
namespace Go.Proofs.YtlhohdjniaebbaaGreat.Sr
open Go Go.Conc
def kU (P:Program){α:Type}:Sem α→Array Event→Option (α×Array Event)
 | .pure a,es=>some (a,es)
 | .program k,es=>kU P (k P) es
 | .mark m k,es=>kU P k (es.push ⟨.mark m,false,true⟩)
 |_,_=>none
theorem tN {P:Program}{α:Type}{s:Sem α}:∀{es aQ:Array Event} {a:α},kU P s es=some (a,aQ)→∀w,s.runT P w es=(.ok a w,aQ):=by
 induction s with
 |pure a=>
  intro es aQ b h w;simp only[kU,Option.some.injEq,Prod.mk.injEq]at h;obtain⟨rfl,rfl⟩:=h;rfl
 |program k ih=>intro es aQ b h w;exact ih P h w
 |mark m k ih=>intro es aQ b h w;exact ih h w
 |_=>intro es aQ b h;cases h
def bU (P:Program)(g:Goroutine):Option (Goroutine×Array Event):=
 let {frame:=fr,callers,status,dying,offers}:=g
 if status != .running||dying.isSome||offers.isSome||fr.roundOf.isSome||fr.kind== .early then none else
 let go (fr:Frame):Option (Goroutine×Array Event):=some ({frame:=fr,callers,status:= .running,dying:=none},#[])
 match fr.mode with
 | .run=>
   match fr.todo with
   |[]| .code .ret::_=>go {fr with mode:= .returning}
   | .code .skip::k| .code (.label _)::k| .inBlock _::k| .inScope _::k=>go {fr with todo:=k}
   | .code (.seq a b)::k=>go {fr with todo:= .code a:: .code b::k}
   | .code (.cond c x y)::k=>match fr.eval c with
     | .bool true=>go {fr with todo:= .code x::k}
     | .bool false=>go {fr with todo:= .code y::k}
     |_=>none
   | .code (.block id b)::k=>go {fr with todo:= .code b:: .inBlock id::k}
   | .code (.loop b)::k| .inLoop b::k=>go {fr with todo:= .code b:: .inLoop b::k}
   | .code (.exit id)::k=>match exitTo id k with
     |some k'=>go {fr with todo:=k'}
     |none=>none
   | .code (.region _ ops false)::k=>go {fr with todo:= .inRegion ops (List.range ops.size)::k}
   | .inRegion _ []::k=>go {fr with todo:=k}
   | .inRegion ops (i::_)::_=>match ops[i]? with
     |none=>none
     |some o=>match Region.wanted o (yielded ops fr.tmps)with
      |false=>go (fr.finish undef)
      |true=>match kU P (execOp fr.eval o) #[]with
       |some (.value v,es)=>some ({frame:=fr.finish v,callers,status:= .running,dying:=none},seen P fr.fn es)
       |some (.skip,es)=>some ({frame:=fr.finish undef,callers,status:= .running,dying:=none},seen P fr.fn es)
       |some (.enter f args,es)=>some ({frame:=Frame.enter P f args .normal,callers:=fr::callers,status:= .running,dying:=none},seen P fr.fn es)
       |some (.defer d,es)=>some ({frame:={fr with defers:=d::fr.defers}.finish undef,callers,status:= .running,dying:=none},seen P fr.fn es)
       |_=>none
   |_=>none
 | .panicking chain=>match fr.defers with
   |{target:= .fn f cap,args}::ds=>match kU P (invoke (.fn f cap) args) #[]with
    |some (.enter f args,es)=>some ({frame:=Frame.enter P f args .deferred,callers:={fr with defers:=ds}::callers,status:= .running,dying:=none},seen P fr.fn es)
    |some (.value _,es)=>some ({frame:={fr with defers:=ds},callers,status:= .running,dying:=none},seen P fr.fn es)
    |_=>none
   |[]=>match chain,callers,fr.todo with
    |{goexit:=true, .. }::_,[],[]=>some ({frame:=fr,callers:=[],status:= .finished,dying:=none},#[])
    |_,_,_=>none
   |_=>none
 | .returning=>match fr.defers with
   |{target:= .fn f cap,args}::ds=>match kU P (invoke (.fn f cap) args) #[]with
    |some (.enter f args,es)=>some ({frame:=Frame.enter P f args .deferred,callers:={fr with defers:=ds}::callers,status:= .running,dying:=none},seen P fr.fn es)
    |some (.value _,es)=>some ({frame:={fr with defers:=ds},callers,status:= .running,dying:=none},seen P fr.fn es)
    |_=>none
   |[]=>match P.funcs[fr.fn]?,callers with
    |some fn,c::cs=>match kU P (results fn fr.tmps) #[]with
     |some (v,es)=>match fr.kind with
      | .normal=>some ({frame:=c.finish v,callers:=cs,status:= .running,dying:=none},seen P fr.fn es)
      | .deferred=>match c.mode with
        | .returning=>some ({frame:=c,callers:=cs,status:= .running,dying:=none},seen P fr.fn es)
        | .panicking ({recovered:=false, .. }::_)=>some ({frame:=c,callers:=cs,status:= .running,dying:=none},seen P fr.fn es)
        |_=>none
      |_=>none
     |none=>none
    |_,_=>none
   |_=>none
theorem ee {P:Program}{g g':Goroutine}{es:Array Event}(h:bU P g=some (g',es)):g.status= .running∧∀(b:Bool) (w:World),stepG P b g w= .go g' w es:=by
 obtain⟨fr,callers,status,dying,offers⟩:=g;unfold bU at h;dsimp only at h
 split at h
 ·cases h
 rename_i hc;simp only[Bool.or_eq_true,bne_iff_ne,ne_eq,Option.isSome_iff_exists,beq_iff_eq,not_or,Classical.not_not,not_exists]at hc;obtain⟨⟨⟨⟨rfl,hd⟩,ho⟩,hr⟩,hk⟩:=hc;have xA:dying=none:=by cases dying with|none=>rfl|some x=>exact absurd rfl (hd x)
 have pB:offers=none:=by cases offers with|none=>rfl|some x=>exact absurd rfl (ho x)
 have fl:fr.roundOf=none:=by cases hq:fr.roundOf with|none=>rfl|some x=>exact absurd hq (hr x)
 subst xA pB;refine⟨rfl,fun b w=>?_⟩
 obtain⟨fn,tmps,todo,defers,mode,kind,roundOf⟩:=fr;dsimp only at fl hk h
 subst fl;have vC:(kind==CallKind.early)=false:=by simpa using hk
 cases mode with
 |run=>
  dsimp only at h
  split at h
  ·simp only[Option.some.injEq,Prod.mk.injEq]at h;obtain⟨rfl,rfl⟩:=h;simp[stepG,stepG.exec]
  ·simp only[Option.some.injEq,Prod.mk.injEq]at h;obtain⟨rfl,rfl⟩:=h;simp[stepG,stepG.exec]
  ·simp only[Option.some.injEq,Prod.mk.injEq]at h;obtain⟨rfl,rfl⟩:=h;simp[stepG,stepG.exec]
  ·simp only[Option.some.injEq,Prod.mk.injEq]at h;obtain⟨rfl,rfl⟩:=h;simp[stepG,stepG.exec]
  ·simp only[Option.some.injEq,Prod.mk.injEq]at h;obtain⟨rfl,rfl⟩:=h;simp[stepG,stepG.exec]
  ·simp only[Option.some.injEq,Prod.mk.injEq]at h;obtain⟨rfl,rfl⟩:=h;simp[stepG,stepG.exec]
  ·simp only[Option.some.injEq,Prod.mk.injEq]at h;obtain⟨rfl,rfl⟩:=h;simp[stepG,stepG.exec]
  ·split at h
   ·rename_i he
    simp only[Option.some.injEq,Prod.mk.injEq]at h;obtain⟨rfl,rfl⟩:=h;simp only[stepG,stepG.exec,he];rfl
   ·rename_i he
    simp only[Option.some.injEq,Prod.mk.injEq]at h;obtain⟨rfl,rfl⟩:=h;simp only[stepG,stepG.exec,he];rfl
   ·cases h
  ·simp only[Option.some.injEq,Prod.mk.injEq]at h;obtain⟨rfl,rfl⟩:=h;simp[stepG,stepG.exec]
  ·simp only[Option.some.injEq,Prod.mk.injEq]at h;obtain⟨rfl,rfl⟩:=h;simp[stepG,stepG.exec]
  ·simp only[Option.some.injEq,Prod.mk.injEq]at h;obtain⟨rfl,rfl⟩:=h;simp[stepG,stepG.exec]
  ·split at h
   ·rename_i he
    simp only[Option.some.injEq,Prod.mk.injEq]at h;obtain⟨rfl,rfl⟩:=h;simp[stepG,stepG.exec,he]
   ·cases h
  ·simp only[Option.some.injEq,Prod.mk.injEq]at h;obtain⟨rfl,rfl⟩:=h;simp[stepG,stepG.exec]
  ·simp only[Option.some.injEq,Prod.mk.injEq]at h;obtain⟨rfl,rfl⟩:=h;simp[stepG,stepG.exec]
  ·rename_i ops i rest k
   split at h
   ·cases h
   ·rename_i o ho
    cases hw:Region.wanted o (yielded ops tmps)with
    |false=>
     simp only[hw,Option.some.injEq,Prod.mk.injEq]at h;obtain⟨rfl,rfl⟩:=h;simp only[stepG,stepG.exec];exact if_neg (by simp[ho,hw])
    |true=>
     have e1:stepG P b {frame:={fn,tmps,todo:= .inRegion ops (i::rest)::k,defers,mode:= .run,kind,roundOf:=none},callers,status:= .running,dying:=none} w=
       stepG.apply P true {fn,tmps,todo:= .inRegion ops (i::rest)::k,defers,mode:= .run,kind,roundOf:=none} callers none (execOp (Frame.eval {fn,tmps,todo:= .inRegion ops (i::rest)::k,defers,mode:= .run,kind,roundOf:=none}) o) w:=by
      simp only[stepG,stepG.exec];rw[if_pos (by simp[ho,hw])]
      simp only[stepG.oper,Frame.oper?,ho]
     rw[e1];simp only[hw]at h;split at h
     ·rename_i v aQ hq
      simp only[Option.some.injEq,Prod.mk.injEq]at h;obtain⟨rfl,rfl⟩:=h;simp only[stepG.apply,tN hq w,vC,if_true,Bool.false_eq_true,if_false,GStep.after,Array.append_empty]
     ·rename_i aQ hq
      simp only[Option.some.injEq,Prod.mk.injEq]at h;obtain⟨rfl,rfl⟩:=h;simp only[stepG.apply,tN hq w,vC,if_true,Bool.false_eq_true,if_false,GStep.after,Array.append_empty]
     ·rename_i f args aQ hq
      simp only[Option.some.injEq,Prod.mk.injEq]at h;obtain⟨rfl,rfl⟩:=h;simp only[stepG.apply,tN hq w,vC,if_true,Bool.false_eq_true,if_false,GStep.after,Array.append_empty]
     ·rename_i d aQ hq
      simp only[Option.some.injEq,Prod.mk.injEq]at h;obtain⟨rfl,rfl⟩:=h;simp only[stepG.apply,tN hq w,vC,if_true,Bool.false_eq_true,if_false,GStep.after,Array.append_empty]
     ·cases h
  ·cases h
 |panicking chain=>
  dsimp only at h
  split at h
  ·split at h
   ·rename_i hq
    simp only[Option.some.injEq,Prod.mk.injEq]at h;obtain⟨rfl,rfl⟩:=h;simp only[stepG,unwind,callDeferred,Bool.false_and,Bool.false_eq_true,if_false,tN hq w,GStep.after,Array.append_empty]
   ·rename_i hq
    simp only[Option.some.injEq,Prod.mk.injEq]at h;obtain⟨rfl,rfl⟩:=h;simp only[stepG,unwind,callDeferred,Bool.false_and,Bool.false_eq_true,if_false,tN hq w,GStep.after,Array.append_empty]
   ·cases h
  ·split at h
   ·simp only[Option.some.injEq,Prod.mk.injEq]at h;obtain⟨rfl,rfl⟩:=h
    have hc:∀ch,Frame.catches P {fn,tmps,todo:=[],defers:=[],mode:= .panicking ch,kind,roundOf:=none}=false:=by
     intro ch;unfold Frame.catches;split<;>first|rfl|(rename_i h1 h2;cases h2)
    simp only[stepG,unwind,hc,Bool.false_eq_true,if_false];rfl
   ·cases h
  ·cases h
 |returning=>
  dsimp only at h
  split at h
  ·split at h
   ·rename_i hq
    simp only[Option.some.injEq,Prod.mk.injEq]at h;obtain⟨rfl,rfl⟩:=h;simp only[stepG,unwind,callDeferred,Bool.false_and,Bool.false_eq_true,if_false,tN hq w,GStep.after,Array.append_empty]
   ·rename_i hq
    simp only[Option.some.injEq,Prod.mk.injEq]at h;obtain⟨rfl,rfl⟩:=h;simp only[stepG,unwind,callDeferred,Bool.false_and,Bool.false_eq_true,if_false,tN hq w,GStep.after,Array.append_empty]
   ·cases h
  ·split at h
   ·rename_i hf
    split at h
    ·rename_i hq
     cases kind with
     |normal=>
      simp only[Option.some.injEq,Prod.mk.injEq]at h;obtain⟨rfl,rfl⟩:=h;simp only[stepG,unwind,hf,tN hq w,doReturn,GStep.after,Array.append_empty]
     |deferred=>
      dsimp only at h
      split at h
      ·rename_i hm
       simp only[Option.some.injEq,Prod.mk.injEq]at h;obtain⟨rfl,rfl⟩:=h;simp only[stepG,unwind,hf,tN hq w,doReturn,hm,GStep.after,Array.append_empty]
      ·rename_i hm
       simp only[Option.some.injEq,Prod.mk.injEq]at h;obtain⟨rfl,rfl⟩:=h;simp only[stepG,unwind,hf,tN hq w,doReturn,hm,GStep.after,Array.append_empty]
      ·cases h
     |_=>cases h
    ·cases h
   ·cases h
  ·cases h
def mute (P:Program):Nat→Goroutine→Bool
 |0,_=>true
 |n+1,g=>match bU P g with
  |some (g',es)=>es.isEmpty&&mute P n g'
  |none=>false
def aL (P:Program):Nat→Goroutine→Goroutine
 |0,g=>g
 |n+1,g=>match bU P g with
  |some (g',_)=>aL P n g'
  |none=>g
theorem sF {P:Program}{n:Nat}{g:Goroutine}(h:mute P (n+1) g=true):∃g',g.status= .running∧(∀b w,stepG P b g w= .go g' w #[])∧mute P n g'=true∧aL P (n+1) g=aL P n g':=by
 unfold mute at h
 cases hq:bU P g with
 |none=>rw[hq]at h;cases h
 |some p=>
  obtain⟨g',es⟩:=p;rw[hq]at h;simp only[Bool.and_eq_true,Array.isEmpty_iff]at h;obtain⟨rfl,hm⟩:=h;exact⟨g',(ee hq).1,(ee hq).2,hm,by simp only[aL,hq]⟩
def quits (P:Program):Nat→Nat→Goroutine→Bool
 |0,d,g=>g.status== .finished&&d==0
 |n+1,d,g=>(g.status== .finished&&d==0)||match bU P g with
  |some (g',es)=>es.all (·.mute)&&quits P n (deafBehind d es) g'
  |none=>false
def cm (P:Program)(g:Goroutine):Option (Sem Next):=
 match g with
 |{frame:={mode:= .run,todo:= .inRegion ops (i::rest)::k,roundOf:=none,kind,fn,tmps,defers},callers,status:= .running,dying:=none,offers:=none}=>
  if kind== .early then none else
  match ops[i]? with
  |some o=>if Region.wanted o (yielded ops tmps)then some (execOp (Frame.eval {mode:= .run,todo:= .inRegion ops (i::rest)::k,roundOf:=none,kind,fn,tmps,defers}) o)else none
  |none=>none
 |_=>none
def aZ (g:Goroutine)(v:Value):Goroutine:={frame:=g.frame.finish v,callers:=g.callers,status:= .running,dying:=none}
theorem ri {P:Program}{g:Goroutine}{s:Sem Next}(h:cm P g=some s)(b:Bool)(w:World):g.status= .running∧g.offers=none∧g.frame.kind≠.early∧stepG P b g w=stepG.apply P true g.frame g.callers none s w:=by
 unfold cm at h;split at h
 ·split at h
  ·cases h
  ·rename_i hk
   split at h
   ·rename_i ho
    split at h
    ·rename_i hw
     cases h;refine⟨rfl,rfl,by simpa using hk,?_⟩
     simp only[stepG,stepG.exec];rw[if_pos (by simp[ho,hw])]
     simp only[stepG.oper,Frame.oper?,ho]
    ·cases h
   ·cases h
 ·cases h
theorem gL {P:Program}{g:Goroutine}{s:Sem Next}(h:cm P g=some s)(b:Bool){w w1:World}{x:Value}{es:Array Event}(hr:s.runT P w #[]=(.ok (.value x) w1,es)):stepG P b g w= .go (aZ g x) w1 (seen P g.frame.fn es):=by
 obtain⟨_,_,hk,e⟩:=ri h b w;have vC:(g.frame.kind==CallKind.early)=false:=by simpa using hk
 rw[e];simp only[stepG.apply,hr,vC,if_true,Bool.false_eq_true,if_false,GStep.after,Array.append_empty,aZ]
end Go.Proofs.YtlhohdjniaebbaaGreat.Sr
namespace Go.Proofs.YtlhohdjniaebbaaGreat.Sr
open Go Go.Conc
structure KE (α:Type)where
 x:α
 es:Array Event
 ls:List Addr
 rs:List Nat
 bb:Option (Addr×Value)
def eG (P:Program)(v:Value)(sh:Option (TypeId×Nat)){α:Type}:Sem α→Array Event→Option (KE α)
 | .pure a,es=>some ⟨a,es,[],[],none⟩
 | .program k,es=>eG P v sh (k P) es
 | .mark m k,es=>eG P v sh k (es.push ⟨.mark m,false,true⟩)
 | .load md a k,es=>match eG P v sh (k v) (es.push ⟨.cell a,false,md== .atomic⟩)with
   |some y=>some {y with ls:=a::y.ls}
   |none=>none
 | .shape r k,es=>match eG P v sh (k sh) es with
   |some y=>some {y with rs:=r::y.rs}
   |none=>none
 | .frozen a k,es=>match eG P v sh (k false) es with
   |some y=>some {y with ls:=a::y.ls}
   |none=>none
 | .store md a x k,es=>match x with
   | .int i n=>match kU P k (es.push ⟨.cell a,true,md== .atomic⟩)with
     |some (b,aQ)=>some ⟨b,aQ,[a],[],some (a,.int i n)⟩
     |none=>none
   |_=>none
 |_,_=>none
def dC (w:World):Option (Addr×Value)→World
 |none=>w
 |some (a,x)=>w.setCell a x
theorem wG {P:Program}{v:Value}{sh:Option (TypeId×Nat)}{α:Type}{s:Sem α}:∀{es:Array Event} {y:KE α},eG P v sh s es=some y→∀w:World,(∀a∈y.ls,w.cell? a=some v∧w.frozen? a=false)→(∀r∈y.rs,w.shape? r=sh)→s.runT P w es=(.ok y.x (dC w y.bb),y.es):=by
 induction s with
 |pure a=>intro es y h w _ _;simp only[eG,Option.some.injEq]at h;subst h;rfl
 |program k ih=>intro es y h w;exact ih P h w
 |mark m k ih=>intro es y h w;exact ih h w
 |load md a k ih=>
  intro es y h w hl hr;simp only[eG]at h
  cases hy:eG P v sh (k v) (es.push ⟨.cell a,false,md== .atomic⟩)with
  |none=>rw[hy]at h;cases h
  |some y'=>
   rw[hy]at h
   cases h;have:=ih v hy w (fun b hb=>hl b (List.mem_cons_of_mem _ hb)) hr
   simp only[Sem.runT,(hl a (List.mem_cons_self ..)).1];exact this
 |shape r k ih=>
  intro es y h w hl hr;simp only[eG]at h
  cases hy:eG P v sh (k sh) es with
  |none=>rw[hy]at h;cases h
  |some y'=>
   rw[hy]at h
   cases h;have:=ih sh hy w hl (fun b hb=>hr b (List.mem_cons_of_mem _ hb))
   simp only[Sem.runT,hr r (List.mem_cons_self ..)];exact this
 |frozen a k ih=>
  intro es y h w hl hr;simp only[eG]at h
  cases hy:eG P v sh (k false) es with
  |none=>rw[hy]at h;cases h
  |some y'=>
   rw[hy]at h
   cases h;have:=ih false hy w (fun b hb=>hl b (List.mem_cons_of_mem _ hb)) hr
   simp only[Sem.runT,(hl a (List.mem_cons_self ..)).2];exact this
 |store md a x k ih=>
  intro es y h w hl hr
  cases x with
  |int i n=>
   simp only[eG]at h
   cases hy:kU P k (es.push ⟨.cell a,true,md== .atomic⟩)with
   |none=>rw[hy]at h;cases h
   |some q=>
    obtain⟨b,aQ⟩:=q;rw[hy]at h
    cases h;obtain⟨h1,h2⟩:=hl a (List.mem_cons_self ..);simp only[Sem.runT,h1,h2,Bool.false_eq_true,if_false];exact tN hy _
  |_=>simp[eG]at h
 |_=>intro es y h;cases h
def bn (P:Program)(v:Value)(sh:Option (TypeId×Nat))(g:Goroutine):Option (KE Goroutine):=
 match cm P g with
 |none=>none
 |some s=>match eG P v sh s #[]with
  |some ⟨.value x,es,ls,rs,bb⟩=>some ⟨aZ g x,seen P g.frame.fn es,ls,rs,bb⟩
  |_=>none
theorem vS {P:Program}{v:Value}{sh:Option (TypeId×Nat)}{g:Goroutine}{y:KE Goroutine}(h:bn P v sh g=some y):
  g.status= .running∧∀(b:Bool) (w:World),(∀a∈y.ls,w.cell? a=some v∧w.frozen? a=false)→(∀r∈y.rs,w.shape? r=sh)→stepG P b g w= .go y.x (dC w y.bb) y.es:=by
 unfold bn at h
 cases ho:cm P g with
 |none=>rw[ho]at h;cases h
 |some s=>
  rw[ho]at h;dsimp only at h
  split at h
  ·rename_i x es ls rs bb hs
   cases h;exact⟨(ri ho true default).1,fun b w h1 h2=>gL ho b (wG hs w h1 h2)⟩
  ·cases h
end Go.Proofs.YtlhohdjniaebbaaGreat.Sr
