/-
What is proved: what the tree of a lone run of the second program holds at a call of the function that asks: the escape ('ask_escape'), the way to the function that asks one group after the other and back ('ask_seq', 'ask_back'). Conditions: those that each theorem states. the starter's way through Add ('add_way'). Conditions: those that the theorem states.
-/
import Derived.Test.YtjklkppncmhehaaGreatRa14
import Derived.Test.YtjklkppncmhehaaGreatRa01
import Derived.Test.YtjklkppncmhehaaGreatRa13
set_option linter.unusedVariables false
set_option linter.unusedSimpArgs false
namespace Go.Proofs.YtjklkppncmhehaaGreat.Sr
open Go Go.Conc
section
variable {Q:Program}{R:Ending→World→Prop}
def JD (g:Goroutine):Bool:=
 match g with
 |{frame:=_,callers:=_,status:= .running,dying:=none,offers:=none}=>true
 |_=>false
def Hl (g:Goroutine):Bool:=JD g&&(match g.frame.mode with| .run=>true|_=>match g.callers with
    |_::_::_=>true
    |_=>false)
def m_ (Q:Program):Nat→Goroutine→Bool
 |0,g=>JD g
 |n+1,g=>Hl g&&match bM Q g with
  |some (g',es)=>es.isEmpty&&m_ Q n g'
  |none=>false
theorem C7 {g:Goroutine}(h:JD g=true):g=G g.frame g.callers:=by
 unfold JD at h;split at h
 ·rfl
 ·cases h
theorem zc {g:Goroutine}(h:Hl g=true):g=G g.frame g.callers∧(g.frame.mode= .run∨∃c d ds,g.callers=c::d::ds):=by
 unfold Hl at h;simp only[Bool.and_eq_true]at h;refine⟨C7 h.1,?_⟩;have h2:=h.2;split at h2
 ·rename_i hm
  exact .inl hm
 ·split at h2
  ·rename_i hc
   exact .inr ⟨_,_,_,hc⟩
  ·cases h2
theorem wq:∀{n:Nat} {g:Goroutine},m_ Q n g=true→g=G g.frame g.callers
 |0,_,h=>C7 h
 |_+1,g,h=>by
  unfold m_ at h;simp only[Bool.and_eq_true]at h;exact(zc h.1).1
theorem wt (hO:∀w,¬R .outgrown w){f:Frame}{cs:List Frame}{v:World}(h:f.mode= .run):¬bk Q R f cs v:=by
 rintro⟨_,e,T,d,U,h2⟩
 cases e with
 |returned x=>have:=h2.1;rw[h]at this;cases this
 |panicked c=>have:=h2.1;rw[h]at this;cases this
 |outgrown=>exact hO _ U
theorem K_ {f c d:Frame}{ds:List Frame}{v:World}:¬bk Q R f (c::d::ds) v:=by
 rintro⟨h,_⟩;have:=congrArg List.length h
 simp at this
theorem Ends.run (hO:∀w,¬R .outgrown w):∀{n:Nat} {g:Goroutine} {v:World},m_ Q n g=true→Ends Q (bk Q R) g.frame g.callers v→mY Q (bk Q R) (g.frame,g.callers,v) ((aE Q n g).frame,(aE Q n g).callers,v)
 |0,g,v,_,h=>mY.refl h
 |n+1,g,v,hd,h=>by
  unfold m_ at hd;simp only[Bool.and_eq_true]at hd;obtain⟨U,h2⟩:=hd;obtain⟨e,hc⟩:=zc U
  cases hq:bM Q g with
  |none=>rw[hq]at h2;cases h2
  |some y=>
   obtain⟨g',es⟩:=y;rw[hq]at h2;simp only[Bool.and_eq_true,Array.isEmpty_iff]at h2;obtain⟨rfl,h3⟩:=h2;have e':=wq h3;have hs:∀w,stepG Q true (G g.frame g.callers) w= .go (G g'.frame g'.callers) w #[]:=fun w=>by
    have:=(dU hq).2 true w
    rw[←e,←e'];exact this
   have pD:¬bk Q R g.frame g.callers v:=by
    rcases hc with hc|⟨c,d,ds,hc⟩
    ·exact wt hO hc
    ·rw[hc];exact K_
   have f1:=h.bq pD hs;have f2:=Ends.run hO h3 f1.1;have ea:aE Q (n+1) g=aE Q n g':=by simp only[aE,hq]
   rw[ea];exact f1.trans f2
theorem Ends.on {Stop:Frame→List Frame→World→Prop}(hS:∀fr cs v T d,Stop fr cs v→Stop fr cs (v.on T d)){fr:Frame}{cs:List Frame}{v:World}(h:Ends Q Stop fr cs v)(T:Nat→Question→Nat)(d:Nat):Ends Q Stop fr cs (v.on T d):=by
 cases h with
 |stop h=>exact .stop (hS _ _ _ _ _ h)
 |step k1 k2=>exact .step k1 k2
theorem Ends.drawn (hO:∀w,¬R .outgrown w){fn:FuncId}{tm:Array Value}{id:Nat}{ops:Array Oper}{k:List Item}{cs:List Frame}{v:World}(h:Ends Q (bk Q R) (aA fn tm (.code (.region id ops true)::k) .run) cs v)(o:Nat):
  ∃T n,mY Q (bk Q R) (aA fn tm (.code (.region id ops true)::k) .run,cs,v) (aA fn tm (.inRegion ops (Region.schedule (Q.follows .mixedOrders) ops o)::k) .run,cs,v.on T n):=by
 obtain⟨U,h2⟩:=h.go (wt hO rfl) (T:=fun _ _=>o) (d:=0) (.draw fn tm id ops k) (jY ..)
 exact⟨fun _ _=>o,1,U,.inr h2⟩
end
section
variable {R:Ending→World→Prop}{a b x:Value}{c d:Frame}{cs ds:List Frame}{v:World}
def qH:TypeId:=145
abbrev cl:FuncId:=69
def lC (us:Array Value):Value:= .iface qH (.func (.func cl) us #[])
noncomputable def QN (a b x:Value) (cs:List Frame):Goroutine:=G (Frame.enter Tw.prog cl #[a,b,x] .normal) cs
noncomputable def Tv:List Item:=(aE Tw.prog 1 (QN undef undef undef [])).frame.todo
noncomputable def Ar:Array Oper:=match Tv with
 | .code (.region _ ops _)::_=>ops
 |_=> #[]
noncomputable def C8 (a b x:Value) (cs:List Frame) (o:Nat):Goroutine:=G (aA cl #[a,b,x,undef,undef,undef,undef] (.inRegion Ar (Region.schedule (Tw.prog.follows .mixedOrders) Ar o)::Tv.tail) .run) cs
set_option maxRecDepth 100000
theorem La:m_ Tw.prog 1 (QN a b x cs)=true:=by kernel_rfl
theorem N3:(aE Tw.prog 1 (QN a b x cs))=G (aA cl #[a,b,x,undef,undef,undef,undef] (.code (.region 0 Ar true)::Tv.tail) .run) cs:=by kernel_rfl
theorem QO:m_ Tw.prog 8 (C8 a b x cs 1)=true:=by kernel_rfl
noncomputable def qI (a b x:Value) (cs:List Frame):Goroutine:=aE Tw.prog 8 (C8 a b x cs 1)
theorem Lb:eQ Tw.prog (qI a b x cs)=some (.halt (.panic (lC #[a,b,x]))):=by kernel_rfl
theorem QP:m_ Tw.prog 9 (C8 a b x cs 0)=true:=by kernel_rfl
noncomputable def fA (a b x:Value):Frame:=match(aE Tw.prog 9 (C8 a b x [] 0)).callers with
 |f::_=>f
 |[]=>default
theorem N4:aE Tw.prog 9 (C8 a b x cs 0)=G (Frame.enter Tw.prog Tw.gg #[a,b,x] .normal) (fA a b x::cs):=by kernel_rfl
theorem N5 (y:Value):m_ Tw.prog 3 (G ((fA a b x).finish y) (c::d::ds))=true:=by kernel_rfl
theorem QQ (y:Value):aE Tw.prog 3 (G ((fA a b x).finish y) (c::d::ds))=G (c.finish y) (d::ds):=by kernel_rfl
theorem N6:(qI a b x cs).callers=cs∧((qI a b x cs).frame.defers=[]∧(qI a b x cs).frame.fn=cl∧(qI a b x cs).frame.mode= .run∧(qI a b x cs).frame.kind= .normal):=⟨by kernel_rfl,by kernel_rfl,by kernel_rfl,by kernel_rfl,by kernel_rfl⟩
theorem C9 (hO:∀w,¬R .outgrown w)(hE:Ends Tw.prog (bk Tw.prog R) (Frame.enter Tw.prog cl #[a,b,x] .normal) cs v)(o:Nat):
  ∃T n,mY Tw.prog (bk Tw.prog R) (Frame.enter Tw.prog cl #[a,b,x] .normal,cs,v) ((C8 a b x cs o).frame,cs,v.on T n):=by
 have U:=Ends.run hO (g:=QN a b x cs) La hE;rw[N3]at U;obtain⟨T,n,h2⟩:=Ends.drawn hO U.1 o;exact⟨T,n,U.trans h2⟩
theorem oA (hO:∀w,¬R .outgrown w){gs:List Frame}(hg:cs=gs++[cc])(hp:∀f∈gs,Passes Tw.prog f)(hE:Ends Tw.prog (bk Tw.prog R) (Frame.enter Tw.prog cl #[a,b,x] .normal) cs v):
  ∃v',v'.heap=v.heap∧R (.panicked [{v:=lC #[a,b,x],recovered:=false}]) v':=by
 subst hg;obtain⟨T,n,U⟩:=C9 hO hE 1;have h2:=Ends.run hO (g:=C8 a b x (gs++[cc]) 1) QO U.1;have h3:Ends Tw.prog (bk Tw.prog R) (qI a b x (gs++[cc])).frame (qI a b x (gs++[cc])).callers (v.on T n):=h2.1
 obtain⟨p0,p1,p2,p3,p4⟩:=N6 (a:=a) (b:=b) (x:=x) (cs:=gs++[cc]);have eg:=wq (Q:=Tw.prog) (n:=0) (g:=qI a b x (gs++[cc])) (by kernel_rfl)
 rw[p0]at h3 eg;have hgo:∀w,stepG Tw.prog true (G (qI a b x (gs++[cc])).frame (gs++[cc])) w= .go (G ((qI a b x (gs++[cc])).frame.raise [{v:=lC #[a,b,x],recovered:=false}]) (gs++[cc])) w #[]:=by
  intro w;rw[←eg];obtain⟨_,_,_,e⟩:=vw Lb true w;rw[e,p0];exact(ia (s:= .halt (.panic (lC #[a,b,x]))) (w:=w) (w1:=w) (es:= #[]) p4 rfl).trans (by rfl)
 have h4:=h3.bq (wt hO p3) hgo;have hr:((qI a b x (gs++[cc])).frame.raise [{v:=lC #[a,b,x],recovered:=false}])={(qI a b x (gs++[cc])).frame with mode:= .panicking [{v:=lC #[a,b,x],recovered:=false}]}:=by
  unfold Frame.raise;rw[p3]
 rw[hr]at h4;obtain⟨f2,b1,v2,b2,b3⟩:=vu (Q:=Tw.prog) (Stop:=bk Tw.prog R) (c:=cc) (fun f cs v h=>h.1) (chain:=[{v:=lC #[a,b,x],recovered:=false}]) gs {(qI a b x (gs++[cc])).frame with mode:= .panicking [{v:=lC #[a,b,x],recovered:=false}]} hp p1 ⟨Tw.Cl,by show Tw.prog.funcs[(qI a b x (gs++[cc])).frame.fn]?=_;rw[p2];exact Tw.vc⟩ rfl h4.1 (tW _ _)
 obtain⟨_,en,T2,d2,c1,c2⟩:=b3;refine⟨v2.on T2 d2,b2,?_⟩
 cases en with
 |returned y=>have:=c2.1;rw[b1]at this;cases this
 |panicked ch=>
  have:=c2.1
  rw[b1]at this;injection this with this
  rw[this];exact c1
 |outgrown=>exact absurd c1 (hO _)
theorem N7 (hO:∀w,¬R .outgrown w)(hE:Ends Tw.prog (bk Tw.prog R) (Frame.enter Tw.prog cl #[a,b,x] .normal) cs v):
  ∃T n,mY Tw.prog (bk Tw.prog R) (Frame.enter Tw.prog cl #[a,b,x] .normal,cs,v) (Frame.enter Tw.prog Tw.gg #[a,b,x] .normal,fA a b x::cs,v.on T n):=by
 obtain⟨T,n,U⟩:=C9 hO hE 0;have h2:=Ends.run hO (g:=C8 a b x cs 0) QP U.1;rw[N4]at h2;exact⟨T,n,U.trans h2⟩
theorem Lc (hO:∀w,¬R .outgrown w){y:Value}(hE:Ends Tw.prog (bk Tw.prog R) ((fA a b x).finish y) (c::d::ds) v):mY Tw.prog (bk Tw.prog R) ((fA a b x).finish y,c::d::ds,v) (c.finish y,d::ds,v):=by
 have h:=Ends.run hO (g:=G ((fA a b x).finish y) (c::d::ds)) (N5 y) hE;rw[QQ]at h;exact h
end
end Go.Proofs.YtjklkppncmhehaaGreat.Sr
namespace Go.Proofs.YtjklkppncmhehaaGreat.Sr
open Go Go.Conc Go.ConcN
structure Mv (γ:Gh) (w:World) (af:Gh) (w':World):Prop where
 size:w.heap.size≤w'.heap.size
 same:br w w'
 gh:af.sh=γ.sh∧af.ph=γ.ph∧af.ro=γ.ro∧af.j=γ.j
 ow:∀k b,b<w.heap.size→(af.ow k b↔γ.ow k b)
 heap:∀b,b<w.heap.size→(∀k,¬γ.ow k b)→¬γ.sh b→(∀p,γ.ph=some p→b≠p.A)→w'.heap[b]?=w.heap[b]?
theorem Mv.refl (γ:Gh)(w:World):Mv γ w γ w:=⟨Nat.le_refl _,⟨rfl,rfl,rfl⟩,⟨rfl,rfl,rfl,rfl⟩,fun _ _ _=> .rfl,fun _ _ _ _ _=>rfl⟩
theorem Mv.trans {a b c:Gh}{u v w:World}(h:Mv a u b v)(g:Mv b v c w):Mv a u c w:=by
 obtain⟨a1,a2,a3,a5⟩:=h.gh;obtain⟨b1,b2,b3,b5⟩:=g.gh;refine⟨Nat.le_trans h.size g.size,⟨g.same.1.trans h.same.1,g.same.2.1.trans h.same.2.1,g.same.2.2.trans h.same.2.2⟩,⟨b1.trans a1,b2.trans a2,b3.trans a3,b5.trans a5⟩,
  fun k x hx=>(g.ow k x (Nat.lt_of_lt_of_le hx h.size)).trans (h.ow k x hx),fun x hx U h2 h3=>?_⟩
 rw[g.heap x (Nat.lt_of_lt_of_le hx h.size) (fun k hk=>U k ((h.ow k x hx).1 hk)) (a1▸h2) (fun p hp=>h3 p (a2▸hp)),h.heap x hx U h2 h3]
theorem Mv.of {γ af:Gh}{w w':World}(h:RM γ w af w'):Mv γ w af w':=⟨h.size,h.same,⟨h.gh.1,h.gh.2.1,h.gh.2.2.1,h.gh.2.2.2.2⟩,h.ow,h.heap⟩
theorem fX {γ af:Gh}{w w':World}(h:RR 0 γ w af w'):RM γ w af w':=by
 unfold RR at h;rwa[if_pos rfl]at h
section
variable {P:Program}{Q:Gh→World→Trace→Nat→Outcome→World→Prop}{d:Nat}{γ:Gh}{w:World}{g:Goroutine}
theorem MP.said {g':Goroutine}{es:Array Event}(h:bM P g=some (g',es))
  (hj:∀af w' t j,RM γ w af w'→JJ af w' t j→Deaf t 0=d→∃aQ b,JJ aQ w' (t++MemOp.ofEvents 0 g.frame.fn g.frame.place es) j∧(∀k',k'≠0→RR k' af w' aQ w')∧MP (sys P) Q b (deafBehind d es) aQ w' g'):MP (sys P) Q false d γ w g:=by
 obtain⟨U,h2⟩:=dU h;refine .go U fun af w' t j hR hJ hd=>?_;obtain⟨aQ,b,c1,c2,c4⟩:=hj af w' t j (fX hR) hJ hd;exact⟨⟨g',w',es,aQ⟩,b,⟨h2 true w',c1,c2⟩,c4⟩
theorem MP.qE (hs:g.status= .running)
  (hj:∀af w' t j,RM γ w af w'→JJ af w' t j→Deaf t 0=d→∃v sh y aQ b,aZ P v sh g=some y∧(∀a∈y.ls,w'.cell? a=some v∧w'.frozen? a=false)∧(∀r∈y.rs,w'.shape? r=sh)∧
   JJ aQ (jd w' y.sto) (t++MemOp.ofEvents 0 g.frame.fn g.frame.place y.es) j∧(∀k',k'≠0→RR k' af w' aQ (jd w' y.sto))∧MP (sys P) Q b (deafBehind d y.es) aQ (jd w' y.sto) y.x):MP (sys P) Q false d γ w g:=by
 refine .go hs fun af w' t j hR hJ hd=>?_;obtain⟨v,sh,y,aQ,b,c0,c1,c2,c3,c4,c6⟩:=hj af w' t j (fX hR) hJ hd;exact⟨⟨y.x,jd w' y.sto,y.es,aQ⟩,b,⟨(vS c0).2 true w' c1 c2,c3,c4⟩,c6⟩
theorem mS {n:Nat}(hm:mute P (n+1) g=true)(h:∀af w',RM γ w af w'→MP (sys P) Q false d af w' (aE P (n+1) g)):MP (sys P) Q false d γ w g:=
 .mute hm fun af w' hR=>⟨false,h af w' (fX hR)⟩
theorem iP {γ:Gh}{j B:Nat}{e:Event}(h:e.mute=true):tb γ j B e:=by
 obtain⟨U,h2,h3⟩:=ou h B;exact⟨fun x hx=>(by rw[U]at hx;cases hx),h2,h3⟩
theorem pd {γ:Gh}{j B wg o:Nat}(hs:γ.sh wg)(hB:wg<B):tb γ j B (bE ⟨wg,o,none⟩):=
 ⟨fun x hx=> .inl (by have:x=⟨.cell ⟨wg,o,none⟩,false,.atomic⟩:=(Option.some.inj hx).symm;subst this;exact⟨⟨_,rfl,hs⟩,nofun⟩),hB,nofun⟩
theorem As {γ:Gh}{j B wg o:Nat}(hs:γ.sh wg)(hB:wg<B):tb γ j B (dr ⟨wg,o,none⟩):=
 ⟨fun x hx=> .inl (by have:x=⟨.cell ⟨wg,o,none⟩,true,.atomic⟩:=(Option.some.inj hx).symm;subst this;exact⟨⟨_,rfl,hs⟩,nofun⟩),hB,nofun⟩
theorem QR {γ:Gh}{j B wg o:Nat}(hs:γ.sh wg)(hB:wg<B):tb γ j B (dj (.read ⟨wg,o,none⟩)):=
 ⟨fun x hx=> .inl (by have:x=⟨.cell ⟨wg,o,none⟩,false,.said⟩:=(Option.some.inj hx).symm;subst this;exact⟨⟨_,rfl,hs⟩,nofun⟩),hB,nofun⟩
theorem QS {γ:Gh}{j B wg o:Nat}(hs:γ.sh wg)(hB:wg<B):tb γ j B (dj (.write ⟨wg,o,none⟩)):=
 ⟨fun x hx=> .inl (by have:x=⟨.cell ⟨wg,o,none⟩,true,.said⟩:=(Option.some.inj hx).symm;subst this;exact⟨⟨_,rfl,hs⟩,nofun⟩),hB,nofun⟩
structure fW (γ:Gh) (p:Ph) (e n0:Nat):Prop where
 ph:γ.ph=some p
 wm:γ.wm= .op
 extra:γ.extra=e
 j:γ.j=n0
theorem fW.rely {γ af:Gh}{w w':World}{p:Ph}{e n0:Nat}(h:fW γ p e n0)(r:RM γ w af w'):fW af p e n0:=by
 obtain⟨_,a,_,b,c⟩:=r.gh;exact⟨a.trans h.ph,r.wm.1 h.wm,b.trans h.extra,c.trans h.j⟩
theorem At {γ:Gh}{w:World}{p:Ph}{o:Nat}{x:Value}(af:Gh)(hs:γ.sh p.wg)(e1:af.sh=γ.sh)(e2:af.ph=γ.ph)(e3:af.ro=γ.ro)(e4:af.j=γ.j)(e5:af.ow=γ.ow):Mv γ w af (w.setCell ⟨p.wg,o,none⟩ x):=
 ⟨Nat.le_of_eq cj.symm,⟨rfl,rfl,rfl⟩,⟨e1,e2,e3,e4⟩,fun _ _ _=>by rw[e5],fun b _ _ h2 _=>gq b fun e=>h2 (e▸hs)⟩
theorem C_ {g9 gR:Goroutine}{g8:Goroutine}(q8:∃g9,bM P g8=some (g9,#[dj .enable])∧mute P 1 g9=true∧aE P 1 g9=gR){p:Ph}{e n0:Nat}(hA:fW γ p e n0)
  (K:∀af w',Mv γ w af w'→fW af p e n0→MP (sys P) Q false 0 af w' gR):MP (sys P) Q false 1 γ w g8:=by
 obtain⟨g9,q8,m9,a9⟩:=q8;refine .said q8 fun aQ w1 t1 j1 U iA qF=>?_;obtain⟨r1,r2⟩:=rC (fn:=g8.frame.fn) (pos:=g8.frame.place) (es:= #[dj .enable]) iA fun e he=>by simp at he;subst he;exact iP rfl
 refine⟨aQ,false,r1,r2,mS (n:=0) m9 fun cw w2 h2=>?_⟩
 rw[a9];exact K cw w2 ((Mv.of U).trans (Mv.of h2)) ((hA.rely U).rely h2)
theorem N8 {g0 g1 g2 g3 g5 g6 g7 g8 gR:Goroutine}{g4:Nat→Goroutine}{eW:TypeId}{p:Ph}{n0:Nat}(m0:mute P 12 g0=true)(a0:aE P 12 g0=g1)(q1:bM P g1=some (g2,#[dj .disable]))(m2:mute P 34 g2=true)(a2:aE P 34 g2=g3)
  (v3:∀v:Nat,v≤4→aZ P (.int .u64 (aP .op v)) none g3=some ⟨g4 (v+1),#[bE ⟨p.wg,0,none⟩,dr ⟨p.wg,0,none⟩],[⟨p.wg,0,none⟩,⟨p.wg,0,none⟩],[],some (⟨p.wg,0,none⟩,.int .u64 (((v+1:Nat):Int)*bp))⟩)
  (m4:mute P 52 (g4 1)=true) (a4:aE P 52 (g4 1)=g5) (v5:aZ P undef (some (eW,2)) g5=some ⟨g6,#[],[],[p.wg,p.wg],none⟩) (q6:bM P g6=some (g7,#[dj (.read ⟨p.wg,1,none⟩)])) (m7:mute P 39 g7=true) (a7:aE P 39 g7=g8)
  (q8:∃g9,bM P g8=some (g9,#[dj .enable])∧mute P 1 g9=true∧aE P 1 g9=gR)
  (n4:∀v,2≤v→v≤5→mute P 87 (g4 v)=true) (n8:∀v,2≤v→v≤5→∃g9,bM P (aE P 87 (g4 v))=some (g9,#[dj .enable])∧mute P 1 g9=true∧aE P 1 g9=gR)
  (he:p.eW=eW) (hA:fW γ p 0 n0) (hn:n0-p.j0<p.n) (K:∀af w',Mv γ w af w'→fW af p 1 n0→MP (sys P) Q false 0 af w' gR):MP (sys P) Q false 0 γ w g0:=by
 refine mS (n:=11) m0 fun aQ w1 U=>?_;rw[a0];have A1:=hA.rely U;refine .said q1 fun cw w2 t2 j2 h2 lW vY=>?_;have A2:=A1.rely h2;obtain⟨r1,r2⟩:=rC (fn:=g1.frame.fn) (pos:=g1.frame.place) (es:= #[dj .disable]) lW fun e he=>by simp at he;subst he;exact iP rfl
 refine⟨cw,false,r1,r2,mS (n:=33) m2 fun j_ w3 h3=>?_⟩
 rw[a2];have A3:=A2.rely h3;refine .qE (vS (v3 0 (by omega))).1 fun dQ w4 t4 j4 h4 kg K5=>?_
 have A4:=A3.rely h4;have x4:=kg.phase p A4.ph;have ej:=kg.j;have Ld:dQ.v p≤4:=by
  have h5:=uX (st:=dQ.st) (j0:=p.j0) (m:=dQ.j-p.j0);have h7:=x4.n5;have h8:=A4.j;have h9:=A4.extra;unfold Gh.v;omega
 have mj:=x4.wg;rw[A4.wm]at mj;obtain⟨s1,s2⟩:=Th (w1:=w4.setCell ⟨p.wg,0,none⟩ (.int .u64 (((dQ.v p+1:Nat):Int)*bp))) (fn:=g3.frame.fn) (pos:=g3.frame.place) (es:= #[bE ⟨p.wg,0,none⟩,dr ⟨p.wg,0,none⟩]) kg A4.ph A4.wm A4.extra
  (by rw[←ej,A4.j];exact hn) ⟨rfl,rfl,rfl⟩ cj gq (rD mj _) fun e he=>by
   have hB:=kg.cT _ x4.sh;simp at he
   rcases he with rfl|rfl
   ·exact pd x4.sh hB
   ·exact As x4.sh hB
 have A5:fW ({dQ with extra:=1}:Gh) p 1 n0:=⟨A4.ph,A4.wm,rfl,A4.j⟩
 have M5:Mv γ w ({dQ with extra:=1}:Gh) (w4.setCell ⟨p.wg,0,none⟩ (.int .u64 (((dQ.v p+1:Nat):Int)*bp))):=
  ((((Mv.of U).trans (Mv.of h2)).trans (Mv.of h3)).trans (Mv.of h4)).trans (At _ x4.sh rfl rfl rfl rfl rfl)
 refine⟨_,_,_,_,false,v3 _ Ld,fun a ha=>(CV ha)▸gL mj,fun r hr=>(by cases hr),s1,s2,?_⟩
 rcases Nat.eq_zero_or_pos (dQ.v p)with hz|dp
 ·rw[hz]at M5⊢
  refine mS (n:=51) m4 fun rE w6 h6=>?_;rw[a4];have A6:=A5.rely h6;refine .qE (vS v5).1 fun yc w7 t7 j7 h7 yd QG=>?_;have A7:=A6.rely h7;have x7:=yd.phase p A7.ph;refine⟨_,_,_,yc,false,v5,fun a ha=>(by cases ha),fun r hr=>?_,?_,fun k' _=>(sys P).refl k' yc w7,?_⟩
  ·have:p.wg=r:=JC hr
   rw[←this,←he];exact mi x7.wg
  ·show JJ yc w7 (t7++MemOp.ofEvents 0 g5.frame.fn g5.frame.place #[]) j7
   rw[Ai,Array.append_empty];exact yd
  refine .said q6 fun dV w8 t8 j8 h8 CX VE=>?_;have A8:=A7.rely h8;have x8:=CX.phase p A8.ph;obtain⟨u1,u2⟩:=rC (fn:=g6.frame.fn) (pos:=g6.frame.place) (es:= #[dj (.read ⟨p.wg,1,none⟩)]) CX fun e he=>by simp at he;subst he;exact QR x8.sh (CX.cT _ x8.sh)
  refine⟨dV,false,u1,u2,mS (n:=38) m7 fun NS w9 h9=>?_⟩
  rw[a7];have A9:=A8.rely h9;refine C_ (g9:=g0) q8 A9 fun af w' hM s8=>K af w' (((((M5.trans (Mv.of h6)).trans (Mv.of h7)).trans (Mv.of h8)).trans (Mv.of h9)).trans hM) s8
 ·refine mS (n:=86) (n4 _ (by omega) (by omega)) fun rE w6 h6=>?_
  exact C_ (g9:=g0) (n8 _ (by omega) (by omega)) (A5.rely h6) fun af w' hM s8=>K af w' ((M5.trans (Mv.of h6)).trans hM) s8
end
end Go.Proofs.YtjklkppncmhehaaGreat.Sr
