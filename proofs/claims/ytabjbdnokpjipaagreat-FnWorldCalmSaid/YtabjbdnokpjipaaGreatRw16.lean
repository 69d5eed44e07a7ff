/-
What is proved: what the tree of a lone run of the second program holds at a call of and what rests on it. Conditions: as stated.
-/
import Derived.Test.YtabjbdnokpjipaaGreatRw15
import Derived.Test.YtabjbdnokpjipaaGreatRw01
import Derived.Test.YtabjbdnokpjipaaGreatRw13
set_option linter.unusedVariables false
set_option linter.unusedSimpArgs false
namespace Go.Proofs.YtabjbdnokpjipaaGreat.Sr
open Go Go.Conc
section
variable {Q:Program}{R:Ending→World→Prop}
def FC (g:Goroutine):Bool:=
 match g with
 |{frame:=_,callers:=_,status:= .running,dying:=none,offers:=none}=>true
 |_=>false
def OS (g:Goroutine):Bool:=FC g&&(match g.frame.mode with| .run=>true|_=>match g.callers with
    |_::_::_=>true
    |_=>false)
def iA (Q:Program):Nat→Goroutine→Bool
 |0,g=>FC g
 |n+1,g=>OS g&&match cn Q g with
  |some (g',es)=>es.isEmpty&&iA Q n g'
  |none=>false
theorem qm {g:Goroutine}(h:FC g=true):g=G g.frame g.callers:=by
 unfold FC at h;split at h
 ·rfl
 ·cases h
theorem FD {g:Goroutine}(h:OS g=true):g=G g.frame g.callers∧(g.frame.mode= .run∨∃c d ds,g.callers=c::d::ds):=by
 unfold OS at h;simp only[Bool.and_eq_true]at h;refine⟨qm h.1,?_⟩;have h2:=h.2;split at h2
 ·rename_i hm
  exact .inl hm
 ·split at h2
  ·rename_i hc
   exact .inr ⟨_,_,_,hc⟩
  ·cases h2
theorem wH:∀{n:Nat} {g:Goroutine},iA Q n g=true→g=G g.frame g.callers
 |0,_,h=>qm h
 |_+1,g,h=>by
  unfold iA at h;simp only[Bool.and_eq_true]at h;exact(FD h.1).1
theorem gF (hO:∀w,¬R .outgrown w){f:Frame}{cs:List Frame}{v:World}(h:f.mode= .run):¬a_ Q R f cs v:=by
 rintro⟨_,e,T,d,h1,h2⟩
 cases e with
 |returned x=>have:=h2.1;rw[h]at this;cases this
 |panicked c=>have:=h2.1;rw[h]at this;cases this
 |outgrown=>exact hO _ h1
theorem Tu {f c d:Frame}{ds:List Frame}{v:World}:¬a_ Q R f (c::d::ds) v:=by
 rintro⟨h,_⟩;have:=congrArg List.length h
 simp at this
theorem Ends.run (hO:∀w,¬R .outgrown w):∀{n:Nat} {g:Goroutine} {v:World},iA Q n g=true→Ends Q (a_ Q R) g.frame g.callers v→ni Q (a_ Q R) (g.frame,g.callers,v) ((aR Q n g).frame,(aR Q n g).callers,v)
 |0,g,v,_,h=>ni.refl h
 |n+1,g,v,hd,h=>by
  unfold iA at hd;simp only[Bool.and_eq_true]at hd;obtain⟨h1,h2⟩:=hd;obtain⟨e,hc⟩:=FD h1
  cases hq:cn Q g with
  |none=>rw[hq]at h2;cases h2
  |some y=>
   obtain⟨g',es⟩:=y;rw[hq]at h2;simp only[Bool.and_eq_true,Array.isEmpty_iff]at h2;obtain⟨rfl,h3⟩:=h2;have e':=wH h3;have hs:∀w,stepG Q true (G g.frame g.callers) w= .go (G g'.frame g'.callers) w #[]:=fun w=>by
    have:=(fJ hq).2 true w
    rw[←e,←e'];exact this
   have vi:¬a_ Q R g.frame g.callers v:=by
    rcases hc with hc|⟨c,d,ds,hc⟩
    ·exact gF hO hc
    ·rw[hc];exact Tu
   have f1:=h.bL vi hs;have f2:=Ends.run hO h3 f1.1;have ea:aR Q (n+1) g=aR Q n g':=by simp only[aR,hq]
   rw[ea];exact f1.trans f2
theorem Ends.on {Stop:Frame→List Frame→World→Prop}(hS:∀fr cs v T d,Stop fr cs v→Stop fr cs (v.on T d)){fr:Frame}{cs:List Frame}{v:World}(h:Ends Q Stop fr cs v)(T:Nat→Question→Nat)(d:Nat):Ends Q Stop fr cs (v.on T d):=by
 cases h with
 |stop h=>exact .stop (hS _ _ _ _ _ h)
 |step k1 k2=>exact .step k1 k2
theorem Ends.drawn (hO:∀w,¬R .outgrown w){fn:FuncId}{tm:Array Value}{id:Nat}{ops:Array Oper}{k:List Item}{cs:List Frame}{v:World}(h:Ends Q (a_ Q R) (aW fn tm (.code (.region id ops true)::k) .run) cs v)(o:Nat):
  ∃T n,ni Q (a_ Q R) (aW fn tm (.code (.region id ops true)::k) .run,cs,v) (aW fn tm (.inRegion ops (Region.schedule (Q.follows .mixedOrders) ops o)::k) .run,cs,v.on T n):=by
 obtain⟨h1,h2⟩:=h.go (gF hO rfl) (T:=fun _ _=>o) (d:=0) (.draw fn tm id ops k) (nJ ..)
 exact⟨fun _ _=>o,1,h1,.inr h2⟩
end
section
variable {R:Ending→World→Prop}{a b x:Value}{c d:Frame}{cs ds:List Frame}{v:World}
def nQ:TypeId:=168
abbrev ep:FuncId:=112
def nA (us:Array Value):Value:= .iface nQ (.func (.func ep) us #[])
noncomputable def tk0 (a b x:Value) (cs:List Frame):Goroutine:=G (Frame.enter Tw.prog ep #[a,b,x] .normal) cs
noncomputable def tkK:List Item:=(aR Tw.prog 1 (tk0 undef undef undef [])).frame.todo
noncomputable def Hk:Array Oper:=match tkK with
 | .code (.region _ ops _)::_=>ops
 |_=> #[]
noncomputable def J6 (a b x:Value) (cs:List Frame) (o:Nat):Goroutine:=G (aW ep #[a,b,x,undef,undef,undef,undef] (.inRegion Hk (Region.schedule (Tw.prog.follows .mixedOrders) Hk o)::tkK.tail) .run) cs
set_option maxRecDepth 100000
theorem Tv:iA Tw.prog 1 (tk0 a b x cs)=true:=by kernel_rfl
theorem W5:(aR Tw.prog 1 (tk0 a b x cs))=G (aW ep #[a,b,x,undef,undef,undef,undef] (.code (.region 0 Hk true)::tkK.tail) .run) cs:=by kernel_rfl
theorem aag:iA Tw.prog 8 (J6 a b x cs 1)=true:=by kernel_rfl
noncomputable def wI (a b x:Value) (cs:List Frame):Goroutine:=aR Tw.prog 8 (J6 a b x cs 1)
theorem Tx:cN Tw.prog (wI a b x cs)=some (.halt (.panic (nA #[a,b,x]))):=by kernel_rfl
theorem aah:iA Tw.prog 9 (J6 a b x cs 0)=true:=by kernel_rfl
noncomputable def fA (a b x:Value):Frame:=match(aR Tw.prog 9 (J6 a b x [] 0)).callers with
 |f::_=>f
 |[]=>default
theorem W6:aR Tw.prog 9 (J6 a b x cs 0)=G (Frame.enter Tw.prog Tw.kg #[a,b,x] .normal) (fA a b x::cs):=by kernel_rfl
theorem W7 (y:Value):iA Tw.prog 3 (G ((fA a b x).finish y) (c::d::ds))=true:=by kernel_rfl
theorem aai (y:Value):aR Tw.prog 3 (G ((fA a b x).finish y) (c::d::ds))=G (c.finish y) (d::ds):=by kernel_rfl
theorem W8:(wI a b x cs).callers=cs∧((wI a b x cs).frame.defers=[]∧(wI a b x cs).frame.fn=ep∧(wI a b x cs).frame.mode= .run∧(wI a b x cs).frame.kind= .normal):=⟨by kernel_rfl,by kernel_rfl,by kernel_rfl,by kernel_rfl,by kernel_rfl⟩
theorem J8 (hO:∀w,¬R .outgrown w)(hE:Ends Tw.prog (a_ Tw.prog R) (Frame.enter Tw.prog ep #[a,b,x] .normal) cs v)(o:Nat):
  ∃T n,ni Tw.prog (a_ Tw.prog R) (Frame.enter Tw.prog ep #[a,b,x] .normal,cs,v) ((J6 a b x cs o).frame,cs,v.on T n):=by
 have h1:=Ends.run hO (g:=tk0 a b x cs) Tv hE;rw[W5]at h1;obtain⟨T,n,h2⟩:=Ends.drawn hO h1.1 o;exact⟨T,n,h1.trans h2⟩
theorem tS (hO:∀w,¬R .outgrown w){gs:List Frame}(hg:cs=gs++[bH])(hp:∀f∈gs,Passes Tw.prog f)(hE:Ends Tw.prog (a_ Tw.prog R) (Frame.enter Tw.prog ep #[a,b,x] .normal) cs v):
  ∃v',v'.heap=v.heap∧R (.panicked [{v:=nA #[a,b,x],recovered:=false}]) v':=by
 subst hg;obtain⟨T,n,h1⟩:=J8 hO hE 1;have h2:=Ends.run hO (g:=J6 a b x (gs++[bH]) 1) aag h1.1;have h3:Ends Tw.prog (a_ Tw.prog R) (wI a b x (gs++[bH])).frame (wI a b x (gs++[bH])).callers (v.on T n):=h2.1
 obtain⟨p0,p1,p2,p3,p4⟩:=W8 (a:=a) (b:=b) (x:=x) (cs:=gs++[bH]);have eg:=wH (Q:=Tw.prog) (n:=0) (g:=wI a b x (gs++[bH])) (by kernel_rfl)
 rw[p0]at h3 eg;have hgo:∀w,stepG Tw.prog true (G (wI a b x (gs++[bH])).frame (gs++[bH])) w= .go (G ((wI a b x (gs++[bH])).frame.raise [{v:=nA #[a,b,x],recovered:=false}]) (gs++[bH])) w #[]:=by
  intro w;rw[←eg];obtain⟨_,_,_,e⟩:=vj Tx true w;rw[e,p0];exact(jA (s:= .halt (.panic (nA #[a,b,x]))) (w:=w) (w1:=w) (es:= #[]) p4 rfl).trans (by rfl)
 have h4:=h3.bL (gF hO p3) hgo;have hr:((wI a b x (gs++[bH])).frame.raise [{v:=nA #[a,b,x],recovered:=false}])={(wI a b x (gs++[bH])).frame with mode:= .panicking [{v:=nA #[a,b,x],recovered:=false}]}:=by
  unfold Frame.raise;rw[p3]
 rw[hr]at h4;obtain⟨f2,b1,v2,b2,b3⟩:=xA (Q:=Tw.prog) (Stop:=a_ Tw.prog R) (c:=bH) (fun f cs v h=>h.1) (chain:=[{v:=nA #[a,b,x],recovered:=false}]) gs {(wI a b x (gs++[bH])).frame with mode:= .panicking [{v:=nA #[a,b,x],recovered:=false}]} hp p1 ⟨Tw.Je,by show Tw.prog.funcs[(wI a b x (gs++[bH])).frame.fn]?=_;rw[p2];exact Tw.BQ⟩ rfl h4.1 (tF _ _)
 obtain⟨_,en,T2,d2,c1,c2⟩:=b3;refine⟨v2.on T2 d2,b2,?_⟩
 cases en with
 |returned y=>have:=c2.1;rw[b1]at this;cases this
 |panicked ch=>
  have:=c2.1
  rw[b1]at this;injection this with this
  rw[this];exact c1
 |outgrown=>exact absurd c1 (hO _)
theorem W9 (hO:∀w,¬R .outgrown w)(hE:Ends Tw.prog (a_ Tw.prog R) (Frame.enter Tw.prog ep #[a,b,x] .normal) cs v):
  ∃T n,ni Tw.prog (a_ Tw.prog R) (Frame.enter Tw.prog ep #[a,b,x] .normal,cs,v) (Frame.enter Tw.prog Tw.kg #[a,b,x] .normal,fA a b x::cs,v.on T n):=by
 obtain⟨T,n,h1⟩:=J8 hO hE 0;have h2:=Ends.run hO (g:=J6 a b x cs 0) aah h1.1;rw[W6]at h2;exact⟨T,n,h1.trans h2⟩
theorem Ty (hO:∀w,¬R .outgrown w){y:Value}(hE:Ends Tw.prog (a_ Tw.prog R) ((fA a b x).finish y) (c::d::ds) v):ni Tw.prog (a_ Tw.prog R) ((fA a b x).finish y,c::d::ds,v) (c.finish y,d::ds,v):=by
 have h:=Ends.run hO (g:=G ((fA a b x).finish y) (c::d::ds)) (W7 y) hE;rw[aai]at h;exact h
end
def po (spec:FuncId→Bool):Prop:=∀f,spec f=true→f=ep∨aeZ=true∧f=bE
def jX (us:Array Value):Value:= .iface nQ (.func (.func bE) us #[])
theorem J9 {us vs:Array Value}:jX us≠nA vs:=by
 unfold jX nA;intro h;injection h with _ h
 injection h with h _ _
 injection h with h
 exact absurd h (by decide)
section
variable {R:Ending→World→Prop}{a b:Value}{c d:Frame}{cs ds:List Frame}{v:World}
noncomputable def ak0 (a b:Value) (cs:List Frame):Goroutine:=G (Frame.enter Tw.prog bE #[a,b] .normal) cs
noncomputable def akK:List Item:=(aR Tw.prog 1 (ak0 undef undef [])).frame.todo
noncomputable def OT:Array Oper:=match akK with
 | .code (.region _ ops _)::_=>ops
 |_=> #[]
noncomputable def akT (a b:Value):Array Value:= #[a,b]++Array.replicate (Tryz.f44.ntmps-2) undef
noncomputable def OU (a b:Value) (cs:List Frame) (o:Nat):Goroutine:=G (aW bE (akT a b) (.inRegion OT (Region.schedule (Tw.prog.follows .mixedOrders) OT o)::akK.tail) .run) cs
set_option maxRecDepth 100000
theorem Tz:iA Tw.prog 1 (ak0 a b cs)=true:=by kernel_rfl
theorem W_:(aR Tw.prog 1 (ak0 a b cs))=G (aW bE (akT a b) (.code (.region 70 OT true)::akK.tail) .run) cs:=by kernel_rfl
theorem aaj:iA Tw.prog 8 (OU a b cs 1)=true:=by kernel_rfl
noncomputable def wJ (a b:Value) (cs:List Frame):Goroutine:=aR Tw.prog 8 (OU a b cs 1)
theorem TA:cN Tw.prog (wJ a b cs)=some (.halt (.panic (jX #[a,b]))):=by kernel_rfl
theorem Xa:(wJ a b cs).callers=cs∧((wJ a b cs).frame.defers=[]∧(wJ a b cs).frame.fn=bE∧(wJ a b cs).frame.mode= .run∧(wJ a b cs).frame.kind= .normal):=⟨by kernel_rfl,by kernel_rfl,by kernel_rfl,by kernel_rfl,by kernel_rfl⟩
theorem J_ (hO:∀w,¬R .outgrown w)(hE:Ends Tw.prog (a_ Tw.prog R) (Frame.enter Tw.prog bE #[a,b] .normal) cs v)(o:Nat):
  ∃T n,ni Tw.prog (a_ Tw.prog R) (Frame.enter Tw.prog bE #[a,b] .normal,cs,v) ((OU a b cs o).frame,cs,v.on T n):=by
 have h1:=Ends.run hO (g:=ak0 a b cs) Tz hE;rw[W_]at h1;obtain⟨T,n,h2⟩:=Ends.drawn hO h1.1 o;exact⟨T,n,h1.trans h2⟩
theorem J' (hO:∀w,¬R .outgrown w){gs:List Frame}(hg:cs=gs++[bH])(hp:∀f∈gs,Passes Tw.prog f)(hE:Ends Tw.prog (a_ Tw.prog R) (Frame.enter Tw.prog bE #[a,b] .normal) cs v):
  ∃v',v'.heap=v.heap∧R (.panicked [{v:=jX #[a,b],recovered:=false}]) v':=by
 subst hg;obtain⟨T,n,h1⟩:=J_ hO hE 1;have h2:=Ends.run hO (g:=OU a b (gs++[bH]) 1) aaj h1.1;have h3:Ends Tw.prog (a_ Tw.prog R) (wJ a b (gs++[bH])).frame (wJ a b (gs++[bH])).callers (v.on T n):=h2.1
 obtain⟨p0,p1,p2,p3,p4⟩:=Xa (a:=a) (b:=b) (cs:=gs++[bH]);have eg:=wH (Q:=Tw.prog) (n:=0) (g:=wJ a b (gs++[bH])) (by kernel_rfl)
 rw[p0]at h3 eg;have hgo:∀w,stepG Tw.prog true (G (wJ a b (gs++[bH])).frame (gs++[bH])) w= .go (G ((wJ a b (gs++[bH])).frame.raise [{v:=jX #[a,b],recovered:=false}]) (gs++[bH])) w #[]:=by
  intro w;rw[←eg];obtain⟨_,_,_,e⟩:=vj TA true w;rw[e,p0];exact(jA (s:= .halt (.panic (jX #[a,b]))) (w:=w) (w1:=w) (es:= #[]) p4 rfl).trans (by rfl)
 have h4:=h3.bL (gF hO p3) hgo;have hr:((wJ a b (gs++[bH])).frame.raise [{v:=jX #[a,b],recovered:=false}])={(wJ a b (gs++[bH])).frame with mode:= .panicking [{v:=jX #[a,b],recovered:=false}]}:=by
  unfold Frame.raise;rw[p3]
 rw[hr]at h4;obtain⟨f2,b1,v2,b2,b3⟩:=xA (Q:=Tw.prog) (Stop:=a_ Tw.prog R) (c:=bH) (fun f cs v h=>h.1) (chain:=[{v:=jX #[a,b],recovered:=false}]) gs {(wJ a b (gs++[bH])).frame with mode:= .panicking [{v:=jX #[a,b],recovered:=false}]} hp p1 ⟨Tw.GD,by show Tw.prog.funcs[(wJ a b (gs++[bH])).frame.fn]?=_;rw[p2];exact Tw.uL⟩ rfl h4.1 (tF _ _)
 obtain⟨_,en,T2,d2,c1,c2⟩:=b3;refine⟨v2.on T2 d2,b2,?_⟩
 cases en with
 |returned y=>have:=c2.1;rw[b1]at this;cases this
 |panicked ch=>
  have:=c2.1
  rw[b1]at this;injection this with this
  rw[this];exact c1
 |outgrown=>exact absurd c1 (hO _)
end
theorem wK (_:aeZ=true){R:Ending→World→Prop}(hO:∀w,¬R .outgrown w){us:Array Value}(hn:∀n,c_ bE=some n→us.size=n){gs cs:List Frame}{v:World}(hg:cs=gs++[bH])(hp:∀f∈gs,Passes Tw.prog f)(hE:Ends Tw.prog (a_ Tw.prog R) (Frame.enter Tw.prog bE us .normal) cs v):
  ∃v',v'.heap=v.heap∧R (.panicked [{v:=jX us,recovered:=false}]) v':=by
 have h2:=hn 2 (by decide)
 obtain⟨l⟩:=us;have h3:l.length=2:=h2
 clear hn h2
 cases l with
 |nil=>cases h3
 |cons a l=>cases l with
  |nil=>cases h3
  |cons b l=>cases l with
   |nil=>exact J' hO hg hp hE
   |cons c l=>simp at h3
end Go.Proofs.YtabjbdnokpjipaaGreat.Sr
namespace Go.Proofs.YtabjbdnokpjipaaGreat.Sr
open Go Go.Conc Go.ConcN
structure Mv (γ:Gh) (w:World) (ai:Gh) (w':World):Prop where
 size:w.heap.size≤w'.heap.size
 same:bG w w'
 gh:ai.sh=γ.sh∧ai.ph=γ.ph∧ai.ro=γ.ro∧ai.j=γ.j
 ow:∀k b,b<w.heap.size→(ai.ow k b↔γ.ow k b)
 heap:∀b,b<w.heap.size→(∀k,¬γ.ow k b)→¬γ.sh b→(∀p,γ.ph=some p→b≠p.A)→w'.heap[b]?=w.heap[b]?
theorem Mv.refl (γ:Gh)(w:World):Mv γ w γ w:=⟨Nat.le_refl _,⟨rfl,rfl,rfl⟩,⟨rfl,rfl,rfl,rfl⟩,fun _ _ _=> .rfl,fun _ _ _ _ _=>rfl⟩
theorem Mv.trans {a b c:Gh}{u v w:World}(h:Mv a u b v)(g:Mv b v c w):Mv a u c w:=by
 obtain⟨a1,a2,a3,a5⟩:=h.gh;obtain⟨b1,b2,b3,b5⟩:=g.gh;refine⟨Nat.le_trans h.size g.size,⟨g.same.1.trans h.same.1,g.same.2.1.trans h.same.2.1,g.same.2.2.trans h.same.2.2⟩,⟨b1.trans a1,b2.trans a2,b3.trans a3,b5.trans a5⟩,
  fun k x hx=>(g.ow k x (Nat.lt_of_lt_of_le hx h.size)).trans (h.ow k x hx),fun x hx h1 h2 h3=>?_⟩
 rw[g.heap x (Nat.lt_of_lt_of_le hx h.size) (fun k hk=>h1 k ((h.ow k x hx).1 hk)) (a1▸h2) (fun p hp=>h3 p (a2▸hp)),h.heap x hx h1 h2 h3]
theorem Mv.of {γ ai:Gh}{w w':World}(h:RM γ w ai w'):Mv γ w ai w':=⟨h.size,h.same,⟨h.gh.1,h.gh.2.1,h.gh.2.2.1,h.gh.2.2.2.2⟩,h.ow,h.heap⟩
theorem jP {γ ai:Gh}{w w':World}(h:RR 0 γ w ai w'):RM γ w ai w':=by
 unfold RR at h;rwa[if_pos rfl]at h
section
variable {P:Program}{Q:Gh→World→Trace→Nat→Outcome→World→Prop}{d:Nat}{γ:Gh}{w:World}{g:Goroutine}
theorem MP.said {g':Goroutine}{es:Array Event}(h:cn P g=some (g',es))
  (hj:∀ai w' t j,RM γ w ai w'→JJ ai w' t j→Deaf t 0=d→∃γ1 b,JJ γ1 w' (t++MemOp.ofEvents 0 g.frame.fn g.frame.place es) j∧(∀k',k'≠0→RR k' ai w' γ1 w')∧MP (sys P) Q b (deafBehind d es) γ1 w' g'):MP (sys P) Q false d γ w g:=by
 obtain⟨h1,h2⟩:=fJ h;refine .go h1 fun ai w' t j hR hJ hd=>?_;obtain⟨γ1,b,c1,c2,c4⟩:=hj ai w' t j (jP hR) hJ hd;exact⟨⟨g',w',es,γ1⟩,b,⟨h2 true w',c1,c2⟩,c4⟩
theorem MP.vm (hs:g.status= .running)
  (hj:∀ai w' t j,RM γ w ai w'→JJ ai w' t j→Deaf t 0=d→∃v sh y γ1 b,bF P v sh g=some y∧(∀a∈y.ls,w'.cell? a=some v∧w'.frozen? a=false)∧(∀r∈y.rs,w'.shape? r=sh)∧
   JJ γ1 (e_ w' y.bp) (t++MemOp.ofEvents 0 g.frame.fn g.frame.place y.es) j∧(∀k',k'≠0→RR k' ai w' γ1 (e_ w' y.bp))∧MP (sys P) Q b (deafBehind d y.es) γ1 (e_ w' y.bp) y.x):MP (sys P) Q false d γ w g:=by
 refine .go hs fun ai w' t j hR hJ hd=>?_;obtain⟨v,sh,y,γ1,b,c0,c1,c2,c3,c4,c6⟩:=hj ai w' t j (jP hR) hJ hd;exact⟨⟨y.x,e_ w' y.bp,y.es,γ1⟩,b,⟨(vS c0).2 true w' c1 c2,c3,c4⟩,c6⟩
theorem mS {n:Nat}(hm:mute P (n+1) g=true)(h:∀ai w',RM γ w ai w'→MP (sys P) Q false d ai w' (aR P (n+1) g)):MP (sys P) Q false d γ w g:=
 .mute hm fun ai w' hR=>⟨false,h ai w' (jP hR)⟩
theorem gG {γ:Gh}{j B:Nat}{e:Event}(h:e.mute=true):vk γ j B e:=by
 obtain⟨h1,h2,h3⟩:=tK h B;exact⟨fun x hx=>(by rw[h1]at hx;cases hx),h2,h3⟩
theorem uN {γ:Gh}{j B wg o:Nat}(hs:γ.sh wg)(hB:wg<B):vk γ j B (cp ⟨wg,o,none⟩):=
 ⟨fun x hx=> .inl (by have:x=⟨.cell ⟨wg,o,none⟩,false,.atomic⟩:=(Option.some.inj hx).symm;subst this;exact⟨⟨_,rfl,hs⟩,nofun⟩),hB,nofun⟩
theorem Hl {γ:Gh}{j B wg o:Nat}(hs:γ.sh wg)(hB:wg<B):vk γ j B (fu ⟨wg,o,none⟩):=
 ⟨fun x hx=> .inl (by have:x=⟨.cell ⟨wg,o,none⟩,true,.atomic⟩:=(Option.some.inj hx).symm;subst this;exact⟨⟨_,rfl,hs⟩,nofun⟩),hB,nofun⟩
theorem aak {γ:Gh}{j B wg o:Nat}(hs:γ.sh wg)(hB:wg<B):vk γ j B (ff (.read ⟨wg,o,none⟩)):=
 ⟨fun x hx=> .inl (by have:x=⟨.cell ⟨wg,o,none⟩,false,.said⟩:=(Option.some.inj hx).symm;subst this;exact⟨⟨_,rfl,hs⟩,nofun⟩),hB,nofun⟩
theorem aal {γ:Gh}{j B wg o:Nat}(hs:γ.sh wg)(hB:wg<B):vk γ j B (ff (.write ⟨wg,o,none⟩)):=
 ⟨fun x hx=> .inl (by have:x=⟨.cell ⟨wg,o,none⟩,true,.said⟩:=(Option.some.inj hx).symm;subst this;exact⟨⟨_,rfl,hs⟩,nofun⟩),hB,nofun⟩
structure jK (γ:Gh) (p:Ph) (e n0:Nat):Prop where
 ph:γ.ph=some p
 wm:γ.wm= .op
 extra:γ.extra=e
 j:γ.j=n0
theorem jK.rely {γ ai:Gh}{w w':World}{p:Ph}{e n0:Nat}(h:jK γ p e n0)(r:RM γ w ai w'):jK ai p e n0:=by
 obtain⟨_,a,_,b,c⟩:=r.gh;exact⟨a.trans h.ph,r.wm.1 h.wm,b.trans h.extra,c.trans h.j⟩
theorem Hm {γ:Gh}{w:World}{p:Ph}{o:Nat}{x:Value}(ai:Gh)(hs:γ.sh p.wg)(e1:ai.sh=γ.sh)(e2:ai.ph=γ.ph)(e3:ai.ro=γ.ro)(e4:ai.j=γ.j)(e5:ai.ow=γ.ow):Mv γ w ai (w.setCell ⟨p.wg,o,none⟩ x):=
 ⟨Nat.le_of_eq cA.symm,⟨rfl,rfl,rfl⟩,⟨e1,e2,e3,e4⟩,fun _ _ _=>by rw[e5],fun b _ _ h2 _=>kr b fun e=>h2 (e▸hs)⟩
theorem Ka {g9 gR:Goroutine}{g8:Goroutine}(q8:∃g9,cn P g8=some (g9,#[ff .enable])∧mute P 1 g9=true∧aR P 1 g9=gR){p:Ph}{e n0:Nat}(hA:jK γ p e n0)
  (K:∀ai w',Mv γ w ai w'→jK ai p e n0→MP (sys P) Q false 0 ai w' gR):MP (sys P) Q false 1 γ w g8:=by
 obtain⟨g9,q8,m9,a9⟩:=q8;refine .said q8 fun γ1 w1 t1 j1 h1 lG wG=>?_;obtain⟨r1,r2⟩:=tN (fn:=g8.frame.fn) (pos:=g8.frame.place) (es:= #[ff .enable]) lG fun e he=>by simp at he;subst he;exact gG rfl
 refine⟨γ1,false,r1,r2,mS (n:=0) m9 fun dM w2 h2=>?_⟩
 rw[a9];exact K dM w2 ((Mv.of h1).trans (Mv.of h2)) ((hA.rely h1).rely h2)
theorem Xb {g0 g1 g2 g3 g5 g6 g7 g8 gR:Goroutine}{g4:Nat→Goroutine}{eW:TypeId}{p:Ph}{n0:Nat}(m0:mute P 12 g0=true)(a0:aR P 12 g0=g1)(q1:cn P g1=some (g2,#[ff .disable]))(m2:mute P 34 g2=true)(a2:aR P 34 g2=g3)
  (v3:∀v:Nat,v≤4→bF P (.int .u64 (bo .op v)) none g3=some ⟨g4 (v+1),#[cp ⟨p.wg,0,none⟩,fu ⟨p.wg,0,none⟩],[⟨p.wg,0,none⟩,⟨p.wg,0,none⟩],[],some (⟨p.wg,0,none⟩,.int .u64 (((v+1:Nat):Int)*bW))⟩)
  (m4:mute P 52 (g4 1)=true) (a4:aR P 52 (g4 1)=g5) (v5:bF P undef (some (eW,2)) g5=some ⟨g6,#[],[],[p.wg,p.wg],none⟩) (q6:cn P g6=some (g7,#[ff (.read ⟨p.wg,1,none⟩)])) (m7:mute P 39 g7=true) (a7:aR P 39 g7=g8)
  (q8:∃g9,cn P g8=some (g9,#[ff .enable])∧mute P 1 g9=true∧aR P 1 g9=gR)
  (n4:∀v,2≤v→v≤5→mute P 87 (g4 v)=true) (n8:∀v,2≤v→v≤5→∃g9,cn P (aR P 87 (g4 v))=some (g9,#[ff .enable])∧mute P 1 g9=true∧aR P 1 g9=gR)
  (he:p.eW=eW) (hA:jK γ p 0 n0) (hn:n0-p.j0<p.n) (K:∀ai w',Mv γ w ai w'→jK ai p 1 n0→MP (sys P) Q false 0 ai w' gR):MP (sys P) Q false 0 γ w g0:=by
 refine mS (n:=11) m0 fun γ1 w1 h1=>?_;rw[a0];have A1:=hA.rely h1;refine .said q1 fun dM w2 t2 j2 h2 pS zg=>?_;have A2:=A1.rely h2;obtain⟨r1,r2⟩:=tN (fn:=g1.frame.fn) (pos:=g1.frame.place) (es:= #[ff .disable]) pS fun e he=>by simp at he;subst he;exact gG rfl
 refine⟨dM,false,r1,r2,mS (n:=33) m2 fun nO w3 h3=>?_⟩
 rw[a2];have A3:=A2.rely h3;refine .vm (vS (v3 0 (by omega))).1 fun hY w4 t4 j4 h4 nP To=>?_
 have A4:=A3.rely h4;have x4:=nP.phase p A4.ph;have ej:=nP.j;have TB:hY.v p≤4:=by
  have h5:=BG (st:=hY.st) (j0:=p.j0) (m:=hY.j-p.j0);have h7:=x4.n5;have h8:=A4.j;have h9:=A4.extra;unfold Gh.v;omega
 have fC:=x4.wg;rw[A4.wm]at fC;obtain⟨s1,s2⟩:=abZ (w1:=w4.setCell ⟨p.wg,0,none⟩ (.int .u64 (((hY.v p+1:Nat):Int)*bW))) (fn:=g3.frame.fn) (pos:=g3.frame.place) (es:= #[cp ⟨p.wg,0,none⟩,fu ⟨p.wg,0,none⟩]) nP A4.ph A4.wm A4.extra
  (by rw[←ej,A4.j];exact hn) ⟨rfl,rfl,rfl⟩ cA kr (xF fC _) fun e he=>by
   have hB:=nP.dL _ x4.sh;simp at he
   rcases he with rfl|rfl
   ·exact uN x4.sh hB
   ·exact Hl x4.sh hB
 have A5:jK ({hY with extra:=1}:Gh) p 1 n0:=⟨A4.ph,A4.wm,rfl,A4.j⟩
 have M5:Mv γ w ({hY with extra:=1}:Gh) (w4.setCell ⟨p.wg,0,none⟩ (.int .u64 (((hY.v p+1:Nat):Int)*bW))):=
  ((((Mv.of h1).trans (Mv.of h2)).trans (Mv.of h3)).trans (Mv.of h4)).trans (Hm _ x4.sh rfl rfl rfl rfl rfl)
 refine⟨_,_,_,_,false,v3 _ TB,fun a ha=>(JQ ha)▸kF fC,fun r hr=>(by cases hr),s1,s2,?_⟩
 rcases Nat.eq_zero_or_pos (hY.v p)with hz|dK
 ·rw[hz]at M5⊢
  refine mS (n:=51) m4 fun xG w6 h6=>?_;rw[a4];have A6:=A5.rely h6;refine .vm (vS v5).1 fun Em w7 t7 j7 h7 En hd7=>?_;have A7:=A6.rely h7;have x7:=En.phase p A7.ph;refine⟨_,_,_,Em,false,v5,fun a ha=>(by cases ha),fun r hr=>?_,?_,fun k' _=>(sys P).refl k' Em w7,?_⟩
  ·have:p.wg=r:=Rw hr
   rw[←this,←he];exact qi x7.wg
  ·show JJ Em w7 (t7++MemOp.ofEvents 0 g5.frame.fn g5.frame.place #[]) j7
   rw[G_,Array.append_empty];exact En
  refine .said q6 fun iz w8 t8 j8 h8 JS hd8=>?_;have A8:=A7.rely h8;have x8:=JS.phase p A8.ph;obtain⟨u1,u2⟩:=tN (fn:=g6.frame.fn) (pos:=g6.frame.place) (es:= #[ff (.read ⟨p.wg,1,none⟩)]) JS fun e he=>by simp at he;subst he;exact aak x8.sh (JS.dL _ x8.sh)
  refine⟨iz,false,u1,u2,mS (n:=38) m7 fun WW w9 h9=>?_⟩
  rw[a7];have A9:=A8.rely h9;refine Ka (g9:=g0) q8 A9 fun ai w' hM zb=>K ai w' (((((M5.trans (Mv.of h6)).trans (Mv.of h7)).trans (Mv.of h8)).trans (Mv.of h9)).trans hM) zb
 ·refine mS (n:=86) (n4 _ (by omega) (by omega)) fun xG w6 h6=>?_
  exact Ka (g9:=g0) (n8 _ (by omega) (by omega)) (A5.rely h6) fun ai w' hM zb=>K ai w' ((M5.trans (Mv.of h6)).trans hM) zb
end
end Go.Proofs.YtabjbdnokpjipaaGreat.Sr
