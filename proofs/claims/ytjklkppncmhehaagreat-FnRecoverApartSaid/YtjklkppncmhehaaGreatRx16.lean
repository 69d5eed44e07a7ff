/-
What is proved: what the tree of a lone run of the second program holds at a call of the function that asks: the escape ('ask_escape'), the way to the function that asks one group after the other and back ('ask_seq', 'ask_back'). Conditions: those that each theorem states. the starter's way through Add ('add_way'). Conditions: those that the theorem states.
-/
import Derived.Test.YtjklkppncmhehaaGreatRx15
import Derived.Test.YtjklkppncmhehaaGreatRx01
import Derived.Test.YtjklkppncmhehaaGreatRx13
set_option linter.unusedVariables false
set_option linter.unusedSimpArgs false
namespace Go.Proofs.YtjklkppncmhehaaGreat.Sr
open Go Go.Conc
section
variable {Q:Program}{R:Ending→World→Prop}
def Nb (g:Goroutine):Bool:=
 match g with
 |{frame:=_,callers:=_,status:= .running,dying:=none,offers:=none}=>true
 |_=>false
def KL (g:Goroutine):Bool:=Nb g&&(match g.frame.mode with| .run=>true|_=>match g.callers with
    |_::_::_=>true
    |_=>false)
def pe (Q:Program):Nat→Goroutine→Bool
 |0,g=>Nb g
 |n+1,g=>KL g&&match bX Q g with
  |some (g',es)=>es.isEmpty&&pe Q n g'
  |none=>false
theorem Gw {g:Goroutine}(h:Nb g=true):g=G g.frame g.callers:=by
 unfold Nb at h;split at h
 ·rfl
 ·cases h
theorem Cq {g:Goroutine}(h:KL g=true):g=G g.frame g.callers∧(g.frame.mode= .run∨∃c d ds,g.callers=c::d::ds):=by
 unfold KL at h;simp only[Bool.and_eq_true]at h;refine⟨Gw h.1,?_⟩;have h2:=h.2;split at h2
 ·rename_i hm
  exact .inl hm
 ·split at h2
  ·rename_i hc
   exact .inr ⟨_,_,_,hc⟩
  ·cases h2
theorem zx:∀{n:Nat} {g:Goroutine},pe Q n g=true→g=G g.frame g.callers
 |0,_,h=>Gw h
 |_+1,g,h=>by
  unfold pe at h;simp only[Bool.and_eq_true]at h;exact(Cq h.1).1
theorem zy (hO:∀w,¬R .outgrown w){f:Frame}{cs:List Frame}{v:World}(h:f.mode= .run):¬bE Q R f cs v:=by
 rintro⟨_,e,T,d,h1,h2⟩
 cases e with
 |returned x=>have:=h2.1;rw[h]at this;cases this
 |panicked c=>have:=h2.1;rw[h]at this;cases this
 |outgrown=>exact hO _ h1
theorem ON {f c d:Frame}{ds:List Frame}{v:World}:¬bE Q R f (c::d::ds) v:=by
 rintro⟨h,_⟩;have:=congrArg List.length h
 simp at this
theorem Ends.run (hO:∀w,¬R .outgrown w):∀{n:Nat} {g:Goroutine} {v:World},pe Q n g=true→Ends Q (bE Q R) g.frame g.callers v→pc Q (bE Q R) (g.frame,g.callers,v) ((aN Q n g).frame,(aN Q n g).callers,v)
 |0,g,v,_,h=>pc.refl h
 |n+1,g,v,hd,h=>by
  unfold pe at hd;simp only[Bool.and_eq_true]at hd;obtain⟨h1,h2⟩:=hd;obtain⟨e,hc⟩:=Cq h1
  cases hq:bX Q g with
  |none=>rw[hq]at h2;cases h2
  |some y=>
   obtain⟨g',es⟩:=y;rw[hq]at h2;simp only[Bool.and_eq_true,Array.isEmpty_iff]at h2;obtain⟨rfl,h3⟩:=h2;have e':=zx h3;have hs:∀w,stepG Q true (G g.frame g.callers) w= .go (G g'.frame g'.callers) w #[]:=fun w=>by
    have:=(fF hq).2 true w
    rw[←e,←e'];exact this
   have oU:¬bE Q R g.frame g.callers v:=by
    rcases hc with hc|⟨c,d,ds,hc⟩
    ·exact zy hO hc
    ·rw[hc];exact ON
   have f1:=h.bL oU hs;have f2:=Ends.run hO h3 f1.1;have ea:aN Q (n+1) g=aN Q n g':=by simp only[aN,hq]
   rw[ea];exact f1.trans f2
theorem Ends.on {Stop:Frame→List Frame→World→Prop}(hS:∀fr cs v T d,Stop fr cs v→Stop fr cs (v.on T d)){fr:Frame}{cs:List Frame}{v:World}(h:Ends Q Stop fr cs v)(T:Nat→Question→Nat)(d:Nat):Ends Q Stop fr cs (v.on T d):=by
 cases h with
 |stop h=>exact .stop (hS _ _ _ _ _ h)
 |step k1 k2=>exact .step k1 k2
theorem Ends.drawn (hO:∀w,¬R .outgrown w){fn:FuncId}{tm:Array Value}{id:Nat}{ops:Array Oper}{k:List Item}{cs:List Frame}{v:World}(h:Ends Q (bE Q R) (aH fn tm (.code (.region id ops true)::k) .run) cs v)(o:Nat):
  ∃T n,pc Q (bE Q R) (aH fn tm (.code (.region id ops true)::k) .run,cs,v) (aH fn tm (.inRegion ops (Region.schedule (Q.follows .mixedOrders) ops o)::k) .run,cs,v.on T n):=by
 obtain⟨h1,h2⟩:=h.go (zy hO rfl) (T:=fun _ _=>o) (d:=0) (.draw fn tm id ops k) (lU ..)
 exact⟨fun _ _=>o,1,h1,.inr h2⟩
end
section
variable {R:Ending→World→Prop}{a b x:Value}{c d:Frame}{cs ds:List Frame}{v:World}
def tF:TypeId:=145
abbrev cU:FuncId:=69
def nz (us:Array Value):Value:= .iface tF (.func (.func cU) us #[])
noncomputable def UF (a b x:Value) (cs:List Frame):Goroutine:=G (Frame.enter Tw.prog cU #[a,b,x] .normal) cs
noncomputable def W1:List Item:=(aN Tw.prog 1 (UF undef undef undef [])).frame.todo
noncomputable def DN:Array Oper:=match W1 with
 | .code (.region _ ops _)::_=>ops
 |_=> #[]
noncomputable def Gx (a b x:Value) (cs:List Frame) (o:Nat):Goroutine:=G (aH cU #[a,b,x,undef,undef,undef,undef] (.inRegion DN (Region.schedule (Tw.prog.follows .mixedOrders) DN o)::W1.tail) .run) cs
set_option maxRecDepth 100000
theorem OO:pe Tw.prog 1 (UF a b x cs)=true:=by kernel_rfl
theorem RI:(aN Tw.prog 1 (UF a b x cs))=G (aH cU #[a,b,x,undef,undef,undef,undef] (.code (.region 0 DN true)::W1.tail) .run) cs:=by kernel_rfl
theorem UG:pe Tw.prog 8 (Gx a b x cs 1)=true:=by kernel_rfl
noncomputable def tG (a b x:Value) (cs:List Frame):Goroutine:=aN Tw.prog 8 (Gx a b x cs 1)
theorem OP:gu Tw.prog (tG a b x cs)=some (.halt (.panic (nz #[a,b,x]))):=by kernel_rfl
theorem UH:pe Tw.prog 9 (Gx a b x cs 0)=true:=by kernel_rfl
noncomputable def fA (a b x:Value):Frame:=match(aN Tw.prog 9 (Gx a b x [] 0)).callers with
 |f::_=>f
 |[]=>default
theorem RJ:aN Tw.prog 9 (Gx a b x cs 0)=G (Frame.enter Tw.prog Tw.iV #[a,b,x] .normal) (fA a b x::cs):=by kernel_rfl
theorem RK (y:Value):pe Tw.prog 3 (G ((fA a b x).finish y) (c::d::ds))=true:=by kernel_rfl
theorem UI (y:Value):aN Tw.prog 3 (G ((fA a b x).finish y) (c::d::ds))=G (c.finish y) (d::ds):=by kernel_rfl
theorem RL:(tG a b x cs).callers=cs∧((tG a b x cs).frame.defers=[]∧(tG a b x cs).frame.fn=cU∧(tG a b x cs).frame.mode= .run∧(tG a b x cs).frame.kind= .normal):=⟨by kernel_rfl,by kernel_rfl,by kernel_rfl,by kernel_rfl,by kernel_rfl⟩
theorem Gy (hO:∀w,¬R .outgrown w)(hE:Ends Tw.prog (bE Tw.prog R) (Frame.enter Tw.prog cU #[a,b,x] .normal) cs v)(o:Nat):
  ∃T n,pc Tw.prog (bE Tw.prog R) (Frame.enter Tw.prog cU #[a,b,x] .normal,cs,v) ((Gx a b x cs o).frame,cs,v.on T n):=by
 have h1:=Ends.run hO (g:=UF a b x cs) OO hE;rw[RI]at h1;obtain⟨T,n,h2⟩:=Ends.drawn hO h1.1 o;exact⟨T,n,h1.trans h2⟩
theorem qP (hO:∀w,¬R .outgrown w){gs:List Frame}(hg:cs=gs++[cJ])(hp:∀f∈gs,Passes Tw.prog f)(hE:Ends Tw.prog (bE Tw.prog R) (Frame.enter Tw.prog cU #[a,b,x] .normal) cs v):
  ∃v',v'.heap=v.heap∧R (.panicked [{v:=nz #[a,b,x],recovered:=false}]) v':=by
 subst hg;obtain⟨T,n,h1⟩:=Gy hO hE 1;have h2:=Ends.run hO (g:=Gx a b x (gs++[cJ]) 1) UG h1.1;have h3:Ends Tw.prog (bE Tw.prog R) (tG a b x (gs++[cJ])).frame (tG a b x (gs++[cJ])).callers (v.on T n):=h2.1
 obtain⟨p0,p1,p2,p3,p4⟩:=RL (a:=a) (b:=b) (x:=x) (cs:=gs++[cJ]);have eg:=zx (Q:=Tw.prog) (n:=0) (g:=tG a b x (gs++[cJ])) (by kernel_rfl)
 rw[p0]at h3 eg;have hgo:∀w,stepG Tw.prog true (G (tG a b x (gs++[cJ])).frame (gs++[cJ])) w= .go (G ((tG a b x (gs++[cJ])).frame.raise [{v:=nz #[a,b,x],recovered:=false}]) (gs++[cJ])) w #[]:=by
  intro w;rw[←eg];obtain⟨_,_,_,e⟩:=yZ OP true w;rw[e,p0];exact(jC (s:= .halt (.panic (nz #[a,b,x]))) (w:=w) (w1:=w) (es:= #[]) p4 rfl).trans (by rfl)
 have h4:=h3.bL (zy hO p3) hgo;have hr:((tG a b x (gs++[cJ])).frame.raise [{v:=nz #[a,b,x],recovered:=false}])={(tG a b x (gs++[cJ])).frame with mode:= .panicking [{v:=nz #[a,b,x],recovered:=false}]}:=by
  unfold Frame.raise;rw[p3]
 rw[hr]at h4;obtain⟨f2,b1,v2,b2,b3⟩:=yW (Q:=Tw.prog) (Stop:=bE Tw.prog R) (c:=cJ) (fun f cs v h=>h.1) (chain:=[{v:=nz #[a,b,x],recovered:=false}]) gs {(tG a b x (gs++[cJ])).frame with mode:= .panicking [{v:=nz #[a,b,x],recovered:=false}]} hp p1 ⟨Tw.FI,by show Tw.prog.funcs[(tG a b x (gs++[cJ])).frame.fn]?=_;rw[p2];exact Tw.yH⟩ rfl h4.1 (xj _ _)
 obtain⟨_,en,T2,d2,c1,c2⟩:=b3;refine⟨v2.on T2 d2,b2,?_⟩
 cases en with
 |returned y=>have:=c2.1;rw[b1]at this;cases this
 |panicked ch=>
  have:=c2.1
  rw[b1]at this;injection this with this
  rw[this];exact c1
 |outgrown=>exact absurd c1 (hO _)
theorem RN (hO:∀w,¬R .outgrown w)(hE:Ends Tw.prog (bE Tw.prog R) (Frame.enter Tw.prog cU #[a,b,x] .normal) cs v):
  ∃T n,pc Tw.prog (bE Tw.prog R) (Frame.enter Tw.prog cU #[a,b,x] .normal,cs,v) (Frame.enter Tw.prog Tw.iV #[a,b,x] .normal,fA a b x::cs,v.on T n):=by
 obtain⟨T,n,h1⟩:=Gy hO hE 0;have h2:=Ends.run hO (g:=Gx a b x cs 0) UH h1.1;rw[RJ]at h2;exact⟨T,n,h1.trans h2⟩
theorem OQ (hO:∀w,¬R .outgrown w){y:Value}(hE:Ends Tw.prog (bE Tw.prog R) ((fA a b x).finish y) (c::d::ds) v):pc Tw.prog (bE Tw.prog R) ((fA a b x).finish y,c::d::ds,v) (c.finish y,d::ds,v):=by
 have h:=Ends.run hO (g:=G ((fA a b x).finish y) (c::d::ds)) (RK y) hE;rw[UI]at h;exact h
end
end Go.Proofs.YtjklkppncmhehaaGreat.Sr
namespace Go.Proofs.YtjklkppncmhehaaGreat.Sr
open Go Go.Conc Go.ConcN
structure Mv (γ:Gh) (w:World) (ah:Gh) (w':World):Prop where
 size:w.heap.size≤w'.heap.size
 same:bM w w'
 gh:ah.sh=γ.sh∧ah.ph=γ.ph∧ah.ro=γ.ro∧ah.j=γ.j
 ow:∀k b,b<w.heap.size→(ah.ow k b↔γ.ow k b)
 heap:∀b,b<w.heap.size→(∀k,¬γ.ow k b)→¬γ.sh b→(∀p,γ.ph=some p→b≠p.A)→w'.heap[b]?=w.heap[b]?
theorem Mv.refl (γ:Gh)(w:World):Mv γ w γ w:=⟨Nat.le_refl _,⟨rfl,rfl,rfl⟩,⟨rfl,rfl,rfl,rfl⟩,fun _ _ _=> .rfl,fun _ _ _ _ _=>rfl⟩
theorem Mv.trans {a b c:Gh}{u v w:World}(h:Mv a u b v)(g:Mv b v c w):Mv a u c w:=by
 obtain⟨a1,a2,a3,a5⟩:=h.gh;obtain⟨b1,b2,b3,b5⟩:=g.gh;refine⟨Nat.le_trans h.size g.size,⟨g.same.1.trans h.same.1,g.same.2.1.trans h.same.2.1,g.same.2.2.trans h.same.2.2⟩,⟨b1.trans a1,b2.trans a2,b3.trans a3,b5.trans a5⟩,
  fun k x hx=>(g.ow k x (Nat.lt_of_lt_of_le hx h.size)).trans (h.ow k x hx),fun x hx h1 h2 h3=>?_⟩
 rw[g.heap x (Nat.lt_of_lt_of_le hx h.size) (fun k hk=>h1 k ((h.ow k x hx).1 hk)) (a1▸h2) (fun p hp=>h3 p (a2▸hp)),h.heap x hx h1 h2 h3]
theorem Mv.of {γ ah:Gh}{w w':World}(h:RM γ w ah w'):Mv γ w ah w':=⟨h.size,h.same,⟨h.gh.1,h.gh.2.1,h.gh.2.2.1,h.gh.2.2.2.2⟩,h.ow,h.heap⟩
theorem iG {γ ah:Gh}{w w':World}(h:RR 0 γ w ah w'):RM γ w ah w':=by
 unfold RR at h;rwa[if_pos rfl]at h
section
variable {P:Program}{Q:Gh→World→Trace→Nat→Outcome→World→Prop}{d:Nat}{γ:Gh}{w:World}{g:Goroutine}
theorem MP.said {g':Goroutine}{es:Array Event}(h:bX P g=some (g',es))
  (hj:∀ah w' t j,RM γ w ah w'→JJ ah w' t j→Deaf t 0=d→∃aX b,JJ aX w' (t++MemOp.ofEvents 0 g.frame.fn g.frame.place es) j∧(∀k',k'≠0→RR k' ah w' aX w')∧MP (sys P) Q b (deafBehind d es) aX w' g'):MP (sys P) Q false d γ w g:=by
 obtain⟨h1,h2⟩:=fF h;refine .go h1 fun ah w' t j hR hJ hd=>?_;obtain⟨aX,b,c1,c2,c4⟩:=hj ah w' t j (iG hR) hJ hd;exact⟨⟨g',w',es,aX⟩,b,⟨h2 true w',c1,c2⟩,c4⟩
theorem MP.tC (hs:g.status= .running)
  (hj:∀ah w' t j,RM γ w ah w'→JJ ah w' t j→Deaf t 0=d→∃v sh y aX b,bn P v sh g=some y∧(∀a∈y.ls,w'.cell? a=some v∧w'.frozen? a=false)∧(∀r∈y.rs,w'.shape? r=sh)∧
   JJ aX (kG w' y.sto) (t++MemOp.ofEvents 0 g.frame.fn g.frame.place y.es) j∧(∀k',k'≠0→RR k' ah w' aX (kG w' y.sto))∧MP (sys P) Q b (deafBehind d y.es) aX (kG w' y.sto) y.x):MP (sys P) Q false d γ w g:=by
 refine .go hs fun ah w' t j hR hJ hd=>?_;obtain⟨v,sh,y,aX,b,c0,c1,c2,c3,c4,c6⟩:=hj ah w' t j (iG hR) hJ hd;exact⟨⟨y.x,kG w' y.sto,y.es,aX⟩,b,⟨(vS c0).2 true w' c1 c2,c3,c4⟩,c6⟩
theorem mS {n:Nat}(hm:mute P (n+1) g=true)(h:∀ah w',RM γ w ah w'→MP (sys P) Q false d ah w' (aN P (n+1) g)):MP (sys P) Q false d γ w g:=
 .mute hm fun ah w' hR=>⟨false,h ah w' (iG hR)⟩
theorem kl {γ:Gh}{j B:Nat}{e:Event}(h:e.mute=true):v_ γ j B e:=by
 obtain⟨h1,h2,h3⟩:=qK h B;exact⟨fun x hx=>(by rw[h1]at hx;cases hx),h2,h3⟩
theorem rL {γ:Gh}{j B wg o:Nat}(hs:γ.sh wg)(hB:wg<B):v_ γ j B (bR ⟨wg,o,none⟩):=
 ⟨fun x hx=> .inl (by have:x=⟨.cell ⟨wg,o,none⟩,false,.atomic⟩:=(Option.some.inj hx).symm;subst this;exact⟨⟨_,rfl,hs⟩,nofun⟩),hB,nofun⟩
theorem DO {γ:Gh}{j B wg o:Nat}(hs:γ.sh wg)(hB:wg<B):v_ γ j B (ew ⟨wg,o,none⟩):=
 ⟨fun x hx=> .inl (by have:x=⟨.cell ⟨wg,o,none⟩,true,.atomic⟩:=(Option.some.inj hx).symm;subst this;exact⟨⟨_,rfl,hs⟩,nofun⟩),hB,nofun⟩
theorem UJ {γ:Gh}{j B wg o:Nat}(hs:γ.sh wg)(hB:wg<B):v_ γ j B (dX (.read ⟨wg,o,none⟩)):=
 ⟨fun x hx=> .inl (by have:x=⟨.cell ⟨wg,o,none⟩,false,.said⟩:=(Option.some.inj hx).symm;subst this;exact⟨⟨_,rfl,hs⟩,nofun⟩),hB,nofun⟩
theorem UK {γ:Gh}{j B wg o:Nat}(hs:γ.sh wg)(hB:wg<B):v_ γ j B (dX (.write ⟨wg,o,none⟩)):=
 ⟨fun x hx=> .inl (by have:x=⟨.cell ⟨wg,o,none⟩,true,.said⟩:=(Option.some.inj hx).symm;subst this;exact⟨⟨_,rfl,hs⟩,nofun⟩),hB,nofun⟩
structure iE (γ:Gh) (p:Ph) (e n0:Nat):Prop where
 ph:γ.ph=some p
 wm:γ.wm= .op
 extra:γ.extra=e
 j:γ.j=n0
theorem iE.rely {γ ah:Gh}{w w':World}{p:Ph}{e n0:Nat}(h:iE γ p e n0)(r:RM γ w ah w'):iE ah p e n0:=by
 obtain⟨_,a,_,b,c⟩:=r.gh;exact⟨a.trans h.ph,r.wm.1 h.wm,b.trans h.extra,c.trans h.j⟩
theorem DQ {γ:Gh}{w:World}{p:Ph}{o:Nat}{x:Value}(ah:Gh)(hs:γ.sh p.wg)(e1:ah.sh=γ.sh)(e2:ah.ph=γ.ph)(e3:ah.ro=γ.ro)(e4:ah.j=γ.j)(e5:ah.ow=γ.ow):Mv γ w ah (w.setCell ⟨p.wg,o,none⟩ x):=
 ⟨Nat.le_of_eq cS.symm,⟨rfl,rfl,rfl⟩,⟨e1,e2,e3,e4⟩,fun _ _ _=>by rw[e5],fun b _ _ h2 _=>iY b fun e=>h2 (e▸hs)⟩
theorem Gz {g9 gR:Goroutine}{g8:Goroutine}(q8:∃g9,bX P g8=some (g9,#[dX .enable])∧mute P 1 g9=true∧aN P 1 g9=gR){p:Ph}{e n0:Nat}(hA:iE γ p e n0)
  (K:∀ah w',Mv γ w ah w'→iE ah p e n0→MP (sys P) Q false 0 ah w' gR):MP (sys P) Q false 1 γ w g8:=by
 obtain⟨g9,q8,m9,a9⟩:=q8;refine .said q8 fun aX w1 t1 j1 h1 jT tD=>?_;obtain⟨r1,r2⟩:=uC (fn:=g8.frame.fn) (pos:=g8.frame.place) (es:= #[dX .enable]) jT fun e he=>by simp at he;subst he;exact kl rfl
 refine⟨aX,false,r1,r2,mS (n:=0) m9 fun dg w2 h2=>?_⟩
 rw[a9];exact K dg w2 ((Mv.of h1).trans (Mv.of h2)) ((hA.rely h1).rely h2)
theorem RO {g0 g1 g2 g3 g5 g6 g7 g8 gR:Goroutine}{g4:Nat→Goroutine}{eW:TypeId}{p:Ph}{n0:Nat}(m0:mute P 12 g0=true)(a0:aN P 12 g0=g1)(q1:bX P g1=some (g2,#[dX .disable]))(m2:mute P 34 g2=true)(a2:aN P 34 g2=g3)
  (v3:∀v:Nat,v≤4→bn P (.int .u64 (aW .op v)) none g3=some ⟨g4 (v+1),#[bR ⟨p.wg,0,none⟩,ew ⟨p.wg,0,none⟩],[⟨p.wg,0,none⟩,⟨p.wg,0,none⟩],[],some (⟨p.wg,0,none⟩,.int .u64 (((v+1:Nat):Int)*bJ))⟩)
  (m4:mute P 52 (g4 1)=true) (a4:aN P 52 (g4 1)=g5) (v5:bn P undef (some (eW,2)) g5=some ⟨g6,#[],[],[p.wg,p.wg],none⟩) (q6:bX P g6=some (g7,#[dX (.read ⟨p.wg,1,none⟩)])) (m7:mute P 39 g7=true) (a7:aN P 39 g7=g8)
  (q8:∃g9,bX P g8=some (g9,#[dX .enable])∧mute P 1 g9=true∧aN P 1 g9=gR)
  (n4:∀v,2≤v→v≤5→mute P 87 (g4 v)=true) (n8:∀v,2≤v→v≤5→∃g9,bX P (aN P 87 (g4 v))=some (g9,#[dX .enable])∧mute P 1 g9=true∧aN P 1 g9=gR)
  (he:p.eW=eW) (hA:iE γ p 0 n0) (hn:n0-p.j0<p.n) (K:∀ah w',Mv γ w ah w'→iE ah p 1 n0→MP (sys P) Q false 0 ah w' gR):MP (sys P) Q false 0 γ w g0:=by
 refine mS (n:=11) m0 fun aX w1 h1=>?_;rw[a0];have A1:=hA.rely h1;refine .said q1 fun dg w2 t2 j2 h2 nU wi=>?_;have A2:=A1.rely h2;obtain⟨r1,r2⟩:=uC (fn:=g1.frame.fn) (pos:=g1.frame.place) (es:= #[dX .disable]) nU fun e he=>by simp at he;subst he;exact kl rfl
 refine⟨dg,false,r1,r2,mS (n:=33) m2 fun lX w3 h3=>?_⟩
 rw[a2];have A3:=A2.rely h3;refine .tC (vS (v3 0 (by omega))).1 fun fu w4 t4 j4 h4 lY OJ=>?_
 have A4:=A3.rely h4;have x4:=lY.phase p A4.ph;have ej:=lY.j;have OR:fu.v p≤4:=by
  have h5:=yw (st:=fu.st) (j0:=p.j0) (m:=fu.j-p.j0);have h7:=x4.n5;have h8:=A4.j;have h9:=A4.extra;unfold Gh.v;omega
 have oo:=x4.wg;rw[A4.wm]at oo;obtain⟨s1,s2⟩:=WL (w1:=w4.setCell ⟨p.wg,0,none⟩ (.int .u64 (((fu.v p+1:Nat):Int)*bJ))) (fn:=g3.frame.fn) (pos:=g3.frame.place) (es:= #[bR ⟨p.wg,0,none⟩,ew ⟨p.wg,0,none⟩]) lY A4.ph A4.wm A4.extra
  (by rw[←ej,A4.j];exact hn) ⟨rfl,rfl,rfl⟩ cS iY (uD oo _) fun e he=>by
   have hB:=lY.dD _ x4.sh;simp at he
   rcases he with rfl|rfl
   ·exact rL x4.sh hB
   ·exact DO x4.sh hB
 have A5:iE ({fu with extra:=1}:Gh) p 1 n0:=⟨A4.ph,A4.wm,rfl,A4.j⟩
 have M5:Mv γ w ({fu with extra:=1}:Gh) (w4.setCell ⟨p.wg,0,none⟩ (.int .u64 (((fu.v p+1:Nat):Int)*bJ))):=
  ((((Mv.of h1).trans (Mv.of h2)).trans (Mv.of h3)).trans (Mv.of h4)).trans (DQ _ x4.sh rfl rfl rfl rfl rfl)
 refine⟨_,_,_,_,false,v3 _ OR,fun a ha=>(Gj ha)▸jl oo,fun r hr=>(by cases hr),s1,s2,?_⟩
 rcases Nat.eq_zero_or_pos (fu.v p)with hz|cX
 ·rw[hz]at M5⊢
  refine mS (n:=51) m4 fun uE w6 h6=>?_;rw[a4];have A6:=A5.rely h6;refine .tC (vS v5).1 fun Bj w7 t7 j7 h7 Bm Uy=>?_;have A7:=A6.rely h7;have x7:=Bm.phase p A7.ph;refine⟨_,_,_,Bj,false,v5,fun a ha=>(by cases ha),fun r hr=>?_,?_,fun k' _=>(sys P).refl k' Bj w7,?_⟩
  ·have:p.wg=r:=Na hr
   rw[←this,←he];exact om x7.wg
  ·show JJ Bj w7 (t7++MemOp.ofEvents 0 g5.frame.fn g5.frame.place #[]) j7
   rw[DE,Array.append_empty];exact Bm
  refine .said q6 fun fH w8 t8 j8 h8 Gl YT=>?_;have A8:=A7.rely h8;have x8:=Gl.phase p A8.ph;obtain⟨u1,u2⟩:=uC (fn:=g6.frame.fn) (pos:=g6.frame.place) (es:= #[dX (.read ⟨p.wg,1,none⟩)]) Gl fun e he=>by simp at he;subst he;exact UJ x8.sh (Gl.dD _ x8.sh)
  refine⟨fH,false,u1,u2,mS (n:=38) m7 fun Rw w9 h9=>?_⟩
  rw[a7];have A9:=A8.rely h9;refine Gz (g9:=g0) q8 A9 fun ah w' hM vY=>K ah w' (((((M5.trans (Mv.of h6)).trans (Mv.of h7)).trans (Mv.of h8)).trans (Mv.of h9)).trans hM) vY
 ·refine mS (n:=86) (n4 _ (by omega) (by omega)) fun uE w6 h6=>?_
  exact Gz (g9:=g0) (n8 _ (by omega) (by omega)) (A5.rely h6) fun ah w' hM vY=>K ah w' ((M5.trans (Mv.of h6)).trans hM) vY
end
end Go.Proofs.YtjklkppncmhehaaGreat.Sr
