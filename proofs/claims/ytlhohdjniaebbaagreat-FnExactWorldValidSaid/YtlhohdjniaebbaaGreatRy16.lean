/-
What is proved: what the tree of a lone run of the second program holds at a call of and what rests on it. Conditions: as stated.
-/
import Derived.Test.YtlhohdjniaebbaaGreatRy15
import Derived.Test.YtlhohdjniaebbaaGreatRy01
import Derived.Test.YtlhohdjniaebbaaGreatRy13
set_option linter.unusedVariables false
set_option linter.unusedSimpArgs false
namespace Go.Proofs.YtlhohdjniaebbaaGreat.Sr
open Go Go.Conc
section
variable {Q:Program}{R:Ending→World→Prop}
def B4 (g:Goroutine):Bool:=
 match g with
 |{frame:=_,callers:=_,status:= .running,dying:=none,offers:=none}=>true
 |_=>false
def K0 (g:Goroutine):Bool:=B4 g&&(match g.frame.mode with| .run=>true|_=>match g.callers with
    |_::_::_=>true
    |_=>false)
def fy (Q:Program):Nat→Goroutine→Bool
 |0,g=>B4 g
 |n+1,g=>K0 g&&match bU Q g with
  |some (g',es)=>es.isEmpty&&fy Q n g'
  |none=>false
theorem nN {g:Goroutine}(h:B4 g=true):g=G g.frame g.callers:=by
 unfold B4 at h;split at h
 ·rfl
 ·cases h
theorem B5 {g:Goroutine}(h:K0 g=true):g=G g.frame g.callers∧(g.frame.mode= .run∨∃c d ds,g.callers=c::d::ds):=by
 unfold K0 at h;simp only[Bool.and_eq_true]at h;refine⟨nN h.1,?_⟩;have h2:=h.2;split at h2
 ·rename_i hm
  exact .inl hm
 ·split at h2
  ·rename_i hc
   exact .inr ⟨_,_,_,hc⟩
  ·cases h2
theorem sK:∀{n:Nat} {g:Goroutine},fy Q n g=true→g=G g.frame g.callers
 |0,_,h=>nN h
 |_+1,g,h=>by
  unfold fy at h;simp only[Bool.and_eq_true]at h;exact(B5 h.1).1
theorem eU (hO:∀w,¬R .outgrown w){f:Frame}{cs:List Frame}{v:World}(h:f.mode= .run):¬aO Q R f cs v:=by
 rintro⟨_,e,T,d,h1,h2⟩
 cases e with
 |returned x=>have:=h2.1;rw[h]at this;cases this
 |panicked c=>have:=h2.1;rw[h]at this;cases this
 |outgrown=>exact hO _ h1
theorem PG {f c d:Frame}{ds:List Frame}{v:World}:¬aO Q R f (c::d::ds) v:=by
 rintro⟨h,_⟩;have:=congrArg List.length h
 simp at this
theorem Ends.run (hO:∀w,¬R .outgrown w):∀{n:Nat} {g:Goroutine} {v:World},fy Q n g=true→Ends Q (aO Q R) g.frame g.callers v→kM Q (aO Q R) (g.frame,g.callers,v) ((aL Q n g).frame,(aL Q n g).callers,v)
 |0,g,v,_,h=>kM.refl h
 |n+1,g,v,hd,h=>by
  unfold fy at hd;simp only[Bool.and_eq_true]at hd;obtain⟨h1,h2⟩:=hd;obtain⟨e,hc⟩:=B5 h1
  cases hq:bU Q g with
  |none=>rw[hq]at h2;cases h2
  |some y=>
   obtain⟨g',es⟩:=y;rw[hq]at h2;simp only[Bool.and_eq_true,Array.isEmpty_iff]at h2;obtain⟨rfl,h3⟩:=h2;have e':=sK h3;have hs:∀w,stepG Q true (G g.frame g.callers) w= .go (G g'.frame g'.callers) w #[]:=fun w=>by
    have:=(ee hq).2 true w
    rw[←e,←e'];exact this
   have dB:¬aO Q R g.frame g.callers v:=by
    rcases hc with hc|⟨c,d,ds,hc⟩
    ·exact eU hO hc
    ·rw[hc];exact PG
   have f1:=h.bD dB hs;have f2:=Ends.run hO h3 f1.1;have ea:aL Q (n+1) g=aL Q n g':=by simp only[aL,hq]
   rw[ea];exact f1.trans f2
theorem Ends.on {Stop:Frame→List Frame→World→Prop}(hS:∀fr cs v T d,Stop fr cs v→Stop fr cs (v.on T d)){fr:Frame}{cs:List Frame}{v:World}(h:Ends Q Stop fr cs v)(T:Nat→Question→Nat)(d:Nat):Ends Q Stop fr cs (v.on T d):=by
 cases h with
 |stop h=>exact .stop (hS _ _ _ _ _ h)
 |step k1 k2=>exact .step k1 k2
theorem Ends.drawn (hO:∀w,¬R .outgrown w){fn:FuncId}{tm:Array Value}{id:Nat}{ops:Array Oper}{k:List Item}{cs:List Frame}{v:World}(h:Ends Q (aO Q R) (aM fn tm (.code (.region id ops true)::k) .run) cs v)(o:Nat):
  ∃T n,kM Q (aO Q R) (aM fn tm (.code (.region id ops true)::k) .run,cs,v) (aM fn tm (.inRegion ops (Region.schedule (Q.follows .mixedOrders) ops o)::k) .run,cs,v.on T n):=by
 obtain⟨h1,h2⟩:=h.go (eU hO rfl) (T:=fun _ _=>o) (d:=0) (.draw fn tm id ops k) (lf ..)
 exact⟨fun _ _=>o,1,h1,.inr h2⟩
end
section
variable {R:Ending→World→Prop}{a b x:Value}{c d:Frame}{cs ds:List Frame}{v:World}
def nO:TypeId:=203
abbrev di:FuncId:=147
def kW (us:Array Value):Value:= .iface nO (.func (.func di) us #[])
noncomputable def Wr (a b x:Value) (cs:List Frame):Goroutine:=G (Frame.enter Tw.prog di #[a,b,x] .normal) cs
noncomputable def Zh:List Item:=(aL Tw.prog 1 (Wr undef undef undef [])).frame.todo
noncomputable def Dq:Array Oper:=match Zh with
 | .code (.region _ ops _)::_=>ops
 |_=> #[]
noncomputable def F' (a b x:Value) (cs:List Frame) (o:Nat):Goroutine:=G (aM di #[a,b,x,undef,undef,undef,undef] (.inRegion Dq (Region.schedule (Tw.prog.follows .mixedOrders) Dq o)::Zh.tail) .run) cs
set_option maxRecDepth 100000
theorem PH:fy Tw.prog 1 (Wr a b x cs)=true:=by kernel_rfl
theorem S':(aL Tw.prog 1 (Wr a b x cs))=G (aM di #[a,b,x,undef,undef,undef,undef] (.code (.region 0 Dq true)::Zh.tail) .run) cs:=by kernel_rfl
theorem Ws:fy Tw.prog 8 (F' a b x cs 1)=true:=by kernel_rfl
noncomputable def sL (a b x:Value) (cs:List Frame):Goroutine:=aL Tw.prog 8 (F' a b x cs 1)
theorem PI:cm Tw.prog (sL a b x cs)=some (.halt (.panic (kW #[a,b,x]))):=by kernel_rfl
theorem Wt:fy Tw.prog 9 (F' a b x cs 0)=true:=by kernel_rfl
noncomputable def fA (a b x:Value):Frame:=match(aL Tw.prog 9 (F' a b x [] 0)).callers with
 |f::_=>f
 |[]=>default
theorem Ta:aL Tw.prog 9 (F' a b x cs 0)=G (Frame.enter Tw.prog Tw.iy #[a,b,x] .normal) (fA a b x::cs):=by kernel_rfl
theorem Tb (y:Value):fy Tw.prog 3 (G ((fA a b x).finish y) (c::d::ds))=true:=by kernel_rfl
theorem Wu (y:Value):aL Tw.prog 3 (G ((fA a b x).finish y) (c::d::ds))=G (c.finish y) (d::ds):=by kernel_rfl
theorem Tc:(sL a b x cs).callers=cs∧((sL a b x cs).frame.defers=[]∧(sL a b x cs).frame.fn=di∧(sL a b x cs).frame.mode= .run∧(sL a b x cs).frame.kind= .normal):=⟨by kernel_rfl,by kernel_rfl,by kernel_rfl,by kernel_rfl,by kernel_rfl⟩
theorem Ga (hO:∀w,¬R .outgrown w)(hE:Ends Tw.prog (aO Tw.prog R) (Frame.enter Tw.prog di #[a,b,x] .normal) cs v)(o:Nat):
  ∃T n,kM Tw.prog (aO Tw.prog R) (Frame.enter Tw.prog di #[a,b,x] .normal,cs,v) ((F' a b x cs o).frame,cs,v.on T n):=by
 have h1:=Ends.run hO (g:=Wr a b x cs) PH hE;rw[S']at h1;obtain⟨T,n,h2⟩:=Ends.drawn hO h1.1 o;exact⟨T,n,h1.trans h2⟩
theorem p_ (hO:∀w,¬R .outgrown w){gs:List Frame}(hg:cs=gs++[bz])(hp:∀f∈gs,Passes Tw.prog f)(hE:Ends Tw.prog (aO Tw.prog R) (Frame.enter Tw.prog di #[a,b,x] .normal) cs v):
  ∃v',v'.heap=v.heap∧R (.panicked [{v:=kW #[a,b,x],recovered:=false}]) v':=by
 subst hg;obtain⟨T,n,h1⟩:=Ga hO hE 1;have h2:=Ends.run hO (g:=F' a b x (gs++[bz]) 1) Ws h1.1;have h3:Ends Tw.prog (aO Tw.prog R) (sL a b x (gs++[bz])).frame (sL a b x (gs++[bz])).callers (v.on T n):=h2.1
 obtain⟨p0,p1,p2,p3,p4⟩:=Tc (a:=a) (b:=b) (x:=x) (cs:=gs++[bz]);have eg:=sK (Q:=Tw.prog) (n:=0) (g:=sL a b x (gs++[bz])) (by kernel_rfl)
 rw[p0]at h3 eg;have hgo:∀w,stepG Tw.prog true (G (sL a b x (gs++[bz])).frame (gs++[bz])) w= .go (G ((sL a b x (gs++[bz])).frame.raise [{v:=kW #[a,b,x],recovered:=false}]) (gs++[bz])) w #[]:=by
  intro w;rw[←eg];obtain⟨_,_,_,e⟩:=ri PI true w;rw[e,p0];exact(gK (s:= .halt (.panic (kW #[a,b,x]))) (w:=w) (w1:=w) (es:= #[]) p4 rfl).trans (by rfl)
 have h4:=h3.bD (eU hO p3) hgo;have hr:((sL a b x (gs++[bz])).frame.raise [{v:=kW #[a,b,x],recovered:=false}])={(sL a b x (gs++[bz])).frame with mode:= .panicking [{v:=kW #[a,b,x],recovered:=false}]}:=by
  unfold Frame.raise;rw[p3]
 rw[hr]at h4;obtain⟨f2,b1,v2,b2,b3⟩:=tM (Q:=Tw.prog) (Stop:=aO Tw.prog R) (c:=bz) (fun f cs v h=>h.1) (chain:=[{v:=kW #[a,b,x],recovered:=false}]) gs {(sL a b x (gs++[bz])).frame with mode:= .panicking [{v:=kW #[a,b,x],recovered:=false}]} hp p1 ⟨Tw.Fh,by show Tw.prog.funcs[(sL a b x (gs++[bz])).frame.fn]?=_;rw[p2];exact Tw.yc⟩ rfl h4.1 (pS _ _)
 obtain⟨_,en,T2,d2,c1,c2⟩:=b3;refine⟨v2.on T2 d2,b2,?_⟩
 cases en with
 |returned y=>have:=c2.1;rw[b1]at this;cases this
 |panicked ch=>
  have:=c2.1
  rw[b1]at this;injection this with this
  rw[this];exact c1
 |outgrown=>exact absurd c1 (hO _)
theorem Te (hO:∀w,¬R .outgrown w)(hE:Ends Tw.prog (aO Tw.prog R) (Frame.enter Tw.prog di #[a,b,x] .normal) cs v):
  ∃T n,kM Tw.prog (aO Tw.prog R) (Frame.enter Tw.prog di #[a,b,x] .normal,cs,v) (Frame.enter Tw.prog Tw.iy #[a,b,x] .normal,fA a b x::cs,v.on T n):=by
 obtain⟨T,n,h1⟩:=Ga hO hE 0;have h2:=Ends.run hO (g:=F' a b x cs 0) Wt h1.1;rw[Ta]at h2;exact⟨T,n,h1.trans h2⟩
theorem PJ (hO:∀w,¬R .outgrown w){y:Value}(hE:Ends Tw.prog (aO Tw.prog R) ((fA a b x).finish y) (c::d::ds) v):kM Tw.prog (aO Tw.prog R) ((fA a b x).finish y,c::d::ds,v) (c.finish y,d::ds,v):=by
 have h:=Ends.run hO (g:=G ((fA a b x).finish y) (c::d::ds)) (Tb y) hE;rw[Wu]at h;exact h
end
def mL (spec:FuncId→Bool):Prop:=∀f,spec f=true→f=di∨C1=true∧f=bp
def kX (us:Array Value):Value:= .iface nO (.func (.func bp) us #[])
theorem Gb {us vs:Array Value}:kX us≠kW vs:=by
 unfold kX kW;intro h;injection h with _ h
 injection h with h _ _
 injection h with h
 exact absurd h (by decide)
section
variable {R:Ending→World→Prop}{a b:Value}{c d:Frame}{cs ds:List Frame}{v:World}
noncomputable def Wv (a b:Value) (cs:List Frame):Goroutine:=G (Frame.enter Tw.prog bp #[a,b] .normal) cs
noncomputable def Zi:List Item:=(aL Tw.prog 1 (Wv undef undef [])).frame.todo
noncomputable def K1:Array Oper:=match Zi with
 | .code (.region _ ops _)::_=>ops
 |_=> #[]
noncomputable def akT (a b:Value):Array Value:= #[a,b]++Array.replicate (Tryz.f77.ntmps-2) undef
noncomputable def K3 (a b:Value) (cs:List Frame) (o:Nat):Goroutine:=G (aM bp (akT a b) (.inRegion K1 (Region.schedule (Tw.prog.follows .mixedOrders) K1 o)::Zi.tail) .run) cs
set_option maxRecDepth 100000
theorem PK:fy Tw.prog 1 (Wv a b cs)=true:=by kernel_rfl
theorem Tf:(aL Tw.prog 1 (Wv a b cs))=G (aM bp (akT a b) (.code (.region 70 K1 true)::Zi.tail) .run) cs:=by kernel_rfl
theorem Ww:fy Tw.prog 8 (K3 a b cs 1)=true:=by kernel_rfl
noncomputable def sM (a b:Value) (cs:List Frame):Goroutine:=aL Tw.prog 8 (K3 a b cs 1)
theorem PL:cm Tw.prog (sM a b cs)=some (.halt (.panic (kX #[a,b]))):=by kernel_rfl
theorem Ti:(sM a b cs).callers=cs∧((sM a b cs).frame.defers=[]∧(sM a b cs).frame.fn=bp∧(sM a b cs).frame.mode= .run∧(sM a b cs).frame.kind= .normal):=⟨by kernel_rfl,by kernel_rfl,by kernel_rfl,by kernel_rfl,by kernel_rfl⟩
theorem Gc (hO:∀w,¬R .outgrown w)(hE:Ends Tw.prog (aO Tw.prog R) (Frame.enter Tw.prog bp #[a,b] .normal) cs v)(o:Nat):
  ∃T n,kM Tw.prog (aO Tw.prog R) (Frame.enter Tw.prog bp #[a,b] .normal,cs,v) ((K3 a b cs o).frame,cs,v.on T n):=by
 have h1:=Ends.run hO (g:=Wv a b cs) PK hE;rw[Tf]at h1;obtain⟨T,n,h2⟩:=Ends.drawn hO h1.1 o;exact⟨T,n,h1.trans h2⟩
theorem Gd (hO:∀w,¬R .outgrown w){gs:List Frame}(hg:cs=gs++[bz])(hp:∀f∈gs,Passes Tw.prog f)(hE:Ends Tw.prog (aO Tw.prog R) (Frame.enter Tw.prog bp #[a,b] .normal) cs v):
  ∃v',v'.heap=v.heap∧R (.panicked [{v:=kX #[a,b],recovered:=false}]) v':=by
 subst hg;obtain⟨T,n,h1⟩:=Gc hO hE 1;have h2:=Ends.run hO (g:=K3 a b (gs++[bz]) 1) Ww h1.1;have h3:Ends Tw.prog (aO Tw.prog R) (sM a b (gs++[bz])).frame (sM a b (gs++[bz])).callers (v.on T n):=h2.1
 obtain⟨p0,p1,p2,p3,p4⟩:=Ti (a:=a) (b:=b) (cs:=gs++[bz]);have eg:=sK (Q:=Tw.prog) (n:=0) (g:=sM a b (gs++[bz])) (by kernel_rfl)
 rw[p0]at h3 eg;have hgo:∀w,stepG Tw.prog true (G (sM a b (gs++[bz])).frame (gs++[bz])) w= .go (G ((sM a b (gs++[bz])).frame.raise [{v:=kX #[a,b],recovered:=false}]) (gs++[bz])) w #[]:=by
  intro w;rw[←eg];obtain⟨_,_,_,e⟩:=ri PL true w;rw[e,p0];exact(gK (s:= .halt (.panic (kX #[a,b]))) (w:=w) (w1:=w) (es:= #[]) p4 rfl).trans (by rfl)
 have h4:=h3.bD (eU hO p3) hgo;have hr:((sM a b (gs++[bz])).frame.raise [{v:=kX #[a,b],recovered:=false}])={(sM a b (gs++[bz])).frame with mode:= .panicking [{v:=kX #[a,b],recovered:=false}]}:=by
  unfold Frame.raise;rw[p3]
 rw[hr]at h4;obtain⟨f2,b1,v2,b2,b3⟩:=tM (Q:=Tw.prog) (Stop:=aO Tw.prog R) (c:=bz) (fun f cs v h=>h.1) (chain:=[{v:=kX #[a,b],recovered:=false}]) gs {(sM a b (gs++[bz])).frame with mode:= .panicking [{v:=kX #[a,b],recovered:=false}]} hp p1 ⟨Tw.OC,by show Tw.prog.funcs[(sM a b (gs++[bz])).frame.fn]?=_;rw[p2];exact Tw.tD⟩ rfl h4.1 (pS _ _)
 obtain⟨_,en,T2,d2,c1,c2⟩:=b3;refine⟨v2.on T2 d2,b2,?_⟩
 cases en with
 |returned y=>have:=c2.1;rw[b1]at this;cases this
 |panicked ch=>
  have:=c2.1
  rw[b1]at this;injection this with this
  rw[this];exact c1
 |outgrown=>exact absurd c1 (hO _)
end
theorem sN (_:C1=true){R:Ending→World→Prop}(hO:∀w,¬R .outgrown w){us:Array Value}(hn:∀n,cA bp=some n→us.size=n){gs cs:List Frame}{v:World}(hg:cs=gs++[bz])(hp:∀f∈gs,Passes Tw.prog f)(hE:Ends Tw.prog (aO Tw.prog R) (Frame.enter Tw.prog bp us .normal) cs v):
  ∃v',v'.heap=v.heap∧R (.panicked [{v:=kX us,recovered:=false}]) v':=by
 have h2:=hn 2 (by decide)
 obtain⟨l⟩:=us;have h3:l.length=2:=h2
 clear hn h2
 cases l with
 |nil=>cases h3
 |cons a l=>cases l with
  |nil=>cases h3
  |cons b l=>cases l with
   |nil=>exact Gd hO hg hp hE
   |cons c l=>simp at h3
end Go.Proofs.YtlhohdjniaebbaaGreat.Sr
namespace Go.Proofs.YtlhohdjniaebbaaGreat.Sr
open Go Go.Conc Go.ConcN
structure Mv (γ:Gh) (w:World) (ah:Gh) (w':World):Prop where
 size:w.heap.size≤w'.heap.size
 same:bq w w'
 gh:ah.sh=γ.sh∧ah.ph=γ.ph∧ah.ro=γ.ro∧ah.j=γ.j
 ow:∀k b,b<w.heap.size→(ah.ow k b↔γ.ow k b)
 heap:∀b,b<w.heap.size→(∀k,¬γ.ow k b)→¬γ.sh b→(∀p,γ.ph=some p→b≠p.A)→w'.heap[b]?=w.heap[b]?
theorem Mv.refl (γ:Gh)(w:World):Mv γ w γ w:=⟨Nat.le_refl _,⟨rfl,rfl,rfl⟩,⟨rfl,rfl,rfl,rfl⟩,fun _ _ _=> .rfl,fun _ _ _ _ _=>rfl⟩
theorem Mv.trans {a b c:Gh}{u v w:World}(h:Mv a u b v)(g:Mv b v c w):Mv a u c w:=by
 obtain⟨a1,a2,a3,a5⟩:=h.gh;obtain⟨b1,b2,b3,b5⟩:=g.gh;refine⟨Nat.le_trans h.size g.size,⟨g.same.1.trans h.same.1,g.same.2.1.trans h.same.2.1,g.same.2.2.trans h.same.2.2⟩,⟨b1.trans a1,b2.trans a2,b3.trans a3,b5.trans a5⟩,
  fun k x hx=>(g.ow k x (Nat.lt_of_lt_of_le hx h.size)).trans (h.ow k x hx),fun x hx h1 h2 h3=>?_⟩
 rw[g.heap x (Nat.lt_of_lt_of_le hx h.size) (fun k hk=>h1 k ((h.ow k x hx).1 hk)) (a1▸h2) (fun p hp=>h3 p (a2▸hp)),h.heap x hx h1 h2 h3]
theorem Mv.of {γ ah:Gh}{w w':World}(h:RM γ w ah w'):Mv γ w ah w':=⟨h.size,h.same,⟨h.gh.1,h.gh.2.1,h.gh.2.2.1,h.gh.2.2.2.2⟩,h.ow,h.heap⟩
theorem ia {γ ah:Gh}{w w':World}(h:RR 0 γ w ah w'):RM γ w ah w':=by
 unfold RR at h;rwa[if_pos rfl]at h
section
variable {P:Program}{Q:Gh→World→Trace→Nat→Outcome→World→Prop}{d:Nat}{γ:Gh}{w:World}{g:Goroutine}
theorem MP.said {g':Goroutine}{es:Array Event}(h:bU P g=some (g',es))
  (hj:∀ah w' t j,RM γ w ah w'→JJ ah w' t j→Deaf t 0=d→∃γ1 b,JJ γ1 w' (t++MemOp.ofEvents 0 g.frame.fn g.frame.place es) j∧(∀k',k'≠0→RR k' ah w' γ1 w')∧MP (sys P) Q b (deafBehind d es) γ1 w' g'):MP (sys P) Q false d γ w g:=by
 obtain⟨h1,h2⟩:=ee h;refine .go h1 fun ah w' t j hR hJ hd=>?_;obtain⟨γ1,b,c1,c2,c4⟩:=hj ah w' t j (ia hR) hJ hd;exact⟨⟨g',w',es,γ1⟩,b,⟨h2 true w',c1,c2⟩,c4⟩
theorem MP.rk (hs:g.status= .running)
  (hj:∀ah w' t j,RM γ w ah w'→JJ ah w' t j→Deaf t 0=d→∃v sh y γ1 b,bn P v sh g=some y∧(∀a∈y.ls,w'.cell? a=some v∧w'.frozen? a=false)∧(∀r∈y.rs,w'.shape? r=sh)∧
   JJ γ1 (dC w' y.bb) (t++MemOp.ofEvents 0 g.frame.fn g.frame.place y.es) j∧(∀k',k'≠0→RR k' ah w' γ1 (dC w' y.bb))∧MP (sys P) Q b (deafBehind d y.es) γ1 (dC w' y.bb) y.x):MP (sys P) Q false d γ w g:=by
 refine .go hs fun ah w' t j hR hJ hd=>?_;obtain⟨v,sh,y,γ1,b,c0,c1,c2,c3,c4,c6⟩:=hj ah w' t j (ia hR) hJ hd;exact⟨⟨y.x,dC w' y.bb,y.es,γ1⟩,b,⟨(vS c0).2 true w' c1 c2,c3,c4⟩,c6⟩
theorem mS {n:Nat}(hm:mute P (n+1) g=true)(h:∀ah w',RM γ w ah w'→MP (sys P) Q false d ah w' (aL P (n+1) g)):MP (sys P) Q false d γ w g:=
 .mute hm fun ah w' hR=>⟨false,h ah w' (ia hR)⟩
theorem eV {γ:Gh}{j B:Nat}{e:Event}(h:e.mute=true):rj γ j B e:=by
 obtain⟨h1,h2,h3⟩:=pV h B;exact⟨fun x hx=>(by rw[h1]at hx;cases hx),h2,h3⟩
theorem qI {γ:Gh}{j B wg o:Nat}(hs:γ.sh wg)(hB:wg<B):rj γ j B (bV ⟨wg,o,none⟩):=
 ⟨fun x hx=> .inl (by have:x=⟨.cell ⟨wg,o,none⟩,false,.atomic⟩:=(Option.some.inj hx).symm;subst this;exact⟨⟨_,rfl,hs⟩,nofun⟩),hB,nofun⟩
theorem Dr {γ:Gh}{j B wg o:Nat}(hs:γ.sh wg)(hB:wg<B):rj γ j B (dS ⟨wg,o,none⟩):=
 ⟨fun x hx=> .inl (by have:x=⟨.cell ⟨wg,o,none⟩,true,.atomic⟩:=(Option.some.inj hx).symm;subst this;exact⟨⟨_,rfl,hs⟩,nofun⟩),hB,nofun⟩
theorem Wx {γ:Gh}{j B wg o:Nat}(hs:γ.sh wg)(hB:wg<B):rj γ j B (dL (.read ⟨wg,o,none⟩)):=
 ⟨fun x hx=> .inl (by have:x=⟨.cell ⟨wg,o,none⟩,false,.said⟩:=(Option.some.inj hx).symm;subst this;exact⟨⟨_,rfl,hs⟩,nofun⟩),hB,nofun⟩
theorem Wy {γ:Gh}{j B wg o:Nat}(hs:γ.sh wg)(hB:wg<B):rj γ j B (dL (.write ⟨wg,o,none⟩)):=
 ⟨fun x hx=> .inl (by have:x=⟨.cell ⟨wg,o,none⟩,true,.said⟩:=(Option.some.inj hx).symm;subst this;exact⟨⟨_,rfl,hs⟩,nofun⟩),hB,nofun⟩
structure gZ (γ:Gh) (p:Ph) (e n0:Nat):Prop where
 ph:γ.ph=some p
 wm:γ.wm= .op
 extra:γ.extra=e
 j:γ.j=n0
theorem gZ.rely {γ ah:Gh}{w w':World}{p:Ph}{e n0:Nat}(h:gZ γ p e n0)(r:RM γ w ah w'):gZ ah p e n0:=by
 obtain⟨_,a,_,b,c⟩:=r.gh;exact⟨a.trans h.ph,r.wm.1 h.wm,b.trans h.extra,c.trans h.j⟩
theorem Ds {γ:Gh}{w:World}{p:Ph}{o:Nat}{x:Value}(ah:Gh)(hs:γ.sh p.wg)(e1:ah.sh=γ.sh)(e2:ah.ph=γ.ph)(e3:ah.ro=γ.ro)(e4:ah.j=γ.j)(e5:ah.ow=γ.ow):Mv γ w ah (w.setCell ⟨p.wg,o,none⟩ x):=
 ⟨Nat.le_of_eq b9.symm,⟨rfl,rfl,rfl⟩,⟨e1,e2,e3,e4⟩,fun _ _ _=>by rw[e5],fun b _ _ h2 _=>iC b fun e=>h2 (e▸hs)⟩
theorem Ge {g9 gR:Goroutine}{g8:Goroutine}(q8:∃g9,bU P g8=some (g9,#[dL .enable])∧mute P 1 g9=true∧aL P 1 g9=gR){p:Ph}{e n0:Nat}(hA:gZ γ p e n0)
  (K:∀ah w',Mv γ w ah w'→gZ ah p e n0→MP (sys P) Q false 0 ah w' gR):MP (sys P) Q false 1 γ w g8:=by
 obtain⟨g9,q8,m9,a9⟩:=q8;refine .said q8 fun γ1 w1 t1 j1 h1 jF sJ=>?_;obtain⟨r1,r2⟩:=pX (fn:=g8.frame.fn) (pos:=g8.frame.place) (es:= #[dL .enable]) jF fun e he=>by simp at he;subst he;exact eV rfl
 refine⟨γ1,false,r1,r2,mS (n:=0) m9 fun cZ w2 h2=>?_⟩
 rw[a9];exact K cZ w2 ((Mv.of h1).trans (Mv.of h2)) ((hA.rely h1).rely h2)
theorem Tj {g0 g1 g2 g3 g5 g6 g7 g8 gR:Goroutine}{g4:Nat→Goroutine}{eW:TypeId}{p:Ph}{n0:Nat}(m0:mute P 12 g0=true)(a0:aL P 12 g0=g1)(q1:bU P g1=some (g2,#[dL .disable]))(m2:mute P 34 g2=true)(a2:aL P 34 g2=g3)
  (v3:∀v:Nat,v≤4→bn P (.int .u64 (a_ .op v)) none g3=some ⟨g4 (v+1),#[bV ⟨p.wg,0,none⟩,dS ⟨p.wg,0,none⟩],[⟨p.wg,0,none⟩,⟨p.wg,0,none⟩],[],some (⟨p.wg,0,none⟩,.int .u64 (((v+1:Nat):Int)*bK))⟩)
  (m4:mute P 52 (g4 1)=true) (a4:aL P 52 (g4 1)=g5) (v5:bn P undef (some (eW,2)) g5=some ⟨g6,#[],[],[p.wg,p.wg],none⟩) (q6:bU P g6=some (g7,#[dL (.read ⟨p.wg,1,none⟩)])) (m7:mute P 39 g7=true) (a7:aL P 39 g7=g8)
  (q8:∃g9,bU P g8=some (g9,#[dL .enable])∧mute P 1 g9=true∧aL P 1 g9=gR)
  (n4:∀v,2≤v→v≤5→mute P 87 (g4 v)=true) (n8:∀v,2≤v→v≤5→∃g9,bU P (aL P 87 (g4 v))=some (g9,#[dL .enable])∧mute P 1 g9=true∧aL P 1 g9=gR)
  (he:p.eW=eW) (hA:gZ γ p 0 n0) (hn:n0-p.j0<p.n) (K:∀ah w',Mv γ w ah w'→gZ ah p 1 n0→MP (sys P) Q false 0 ah w' gR):MP (sys P) Q false 0 γ w g0:=by
 refine mS (n:=11) m0 fun γ1 w1 h1=>?_;rw[a0];have A1:=hA.rely h1;refine .said q1 fun cZ w2 t2 j2 h2 nj yS=>?_;have A2:=A1.rely h2;obtain⟨r1,r2⟩:=pX (fn:=g1.frame.fn) (pos:=g1.frame.place) (es:= #[dL .disable]) nj fun e he=>by simp at he;subst he;exact eV rfl
 refine⟨cZ,false,r1,r2,mS (n:=33) m2 fun lj w3 h3=>?_⟩
 rw[a2];have A3:=A2.rely h3;refine .rk (vS (v3 0 (by omega))).1 fun ff w4 t4 j4 h4 ll PC=>?_
 have A4:=A3.rely h4;have x4:=ll.phase p A4.ph;have ej:=ll.j;have PM:ff.v p≤4:=by
  have h5:=xU (st:=ff.st) (j0:=p.j0) (m:=ff.j-p.j0);have h7:=x4.n5;have h8:=A4.j;have h9:=A4.extra;unfold Gh.v;omega
 have nJ:=x4.wg;rw[A4.wm]at nJ;obtain⟨s1,s2⟩:=Y7 (w1:=w4.setCell ⟨p.wg,0,none⟩ (.int .u64 (((ff.v p+1:Nat):Int)*bK))) (fn:=g3.frame.fn) (pos:=g3.frame.place) (es:= #[bV ⟨p.wg,0,none⟩,dS ⟨p.wg,0,none⟩]) ll A4.ph A4.wm A4.extra
  (by rw[←ej,A4.j];exact hn) ⟨rfl,rfl,rfl⟩ b9 iC (tT nJ _) fun e he=>by
   have hB:=ll.cX _ x4.sh;simp at he
   rcases he with rfl|rfl
   ·exact qI x4.sh hB
   ·exact Dr x4.sh hB
 have A5:gZ ({ff with extra:=1}:Gh) p 1 n0:=⟨A4.ph,A4.wm,rfl,A4.j⟩
 have M5:Mv γ w ({ff with extra:=1}:Gh) (w4.setCell ⟨p.wg,0,none⟩ (.int .u64 (((ff.v p+1:Nat):Int)*bK))):=
  ((((Mv.of h1).trans (Mv.of h2)).trans (Mv.of h3)).trans (Mv.of h4)).trans (Ds _ x4.sh rfl rfl rfl rfl rfl)
 refine⟨_,_,_,_,false,v3 _ PM,fun a ha=>(FW ha)▸iO nJ,fun r hr=>(by cases hr),s1,s2,?_⟩
 rcases Nat.eq_zero_or_pos (ff.v p)with hz|dH
 ·rw[hz]at M5⊢
  refine mS (n:=51) m4 fun tU w6 h6=>?_;rw[a4];have A6:=A5.rely h6;refine .rk (vS v5).1 fun AO w7 t7 j7 h7 AP Wm=>?_;have A7:=A6.rely h7;have x7:=AP.phase p A7.ph;refine⟨_,_,_,AO,false,v5,fun a ha=>(by cases ha),fun r hr=>?_,?_,fun k' _=>(sys P).refl k' AO w7,?_⟩
  ·have:p.wg=r:=NV hr
   rw[←this,←he];exact nI x7.wg
  ·show JJ AO w7 (t7++MemOp.ofEvents 0 g5.frame.fn g5.frame.place #[]) j7
   rw[Dg,Array.append_empty];exact AP
  refine .said q6 fun fw w8 t8 j8 h8 FY hd8=>?_;have A8:=A7.rely h8;have x8:=FY.phase p A8.ph;obtain⟨u1,u2⟩:=pX (fn:=g6.frame.fn) (pos:=g6.frame.place) (es:= #[dL (.read ⟨p.wg,1,none⟩)]) FY fun e he=>by simp at he;subst he;exact Wx x8.sh (FY.cX _ x8.sh)
  refine⟨fw,false,u1,u2,mS (n:=38) m7 fun SX w9 h9=>?_⟩
  rw[a7];have A9:=A8.rely h9;refine Ge (g9:=g0) q8 A9 fun ah w' hM Di=>K ah w' (((((M5.trans (Mv.of h6)).trans (Mv.of h7)).trans (Mv.of h8)).trans (Mv.of h9)).trans hM) Di
 ·refine mS (n:=86) (n4 _ (by omega) (by omega)) fun tU w6 h6=>?_
  exact Ge (g9:=g0) (n8 _ (by omega) (by omega)) (A5.rely h6) fun ah w' hM Di=>K ah w' ((M5.trans (Mv.of h6)).trans hM) Di
end
end Go.Proofs.YtlhohdjniaebbaaGreat.Sr
