/-
What is proved: the starter makes its way as a lone run of the second program does and what rests on it. Conditions: as stated.
-/
import Derived.Test.YtabjbdnokpjipaaGreatRw24
import Derived.Test.YtabjbdnokpjipaaGreatRw11
import Derived.Below
import Derived.Conc.LeavingOf
import Derived.Test.YtabjbdnokpjipaaGreatRw19
import Derived.Test.YtabjbdnokpjipaaGreatRw16
import Derived.Test.YtabjbdnokpjipaaGreatRw22
set_option linter.unusedVariables false
set_option linter.unusedSimpArgs false
namespace Go.Proofs.YtabjbdnokpjipaaGreat.Sr
open Go Go.Conc Go.ConcN
def FG (n:Nat)(a:Nat→fZ)(v:World)(e:Ending)(w1:World):Prop:=
 ∃B,e= .returned (.slice (some ⟨B,0,none⟩) n n)∧v.heap.size≤B∧(∃cs,w1.heap[B]?=some (.cells cs 146)∧cs.size=5*n∧∀i c,i<n→c<5→cs[5*i+c]?=some ((a i).cell c))∧
  (∀b,b<v.heap.size→w1.heap[b]?=v.heap[b]?)∧w1.os=v.os
def CH (us:Array Value)(h:Array Obj):Prop:=∃(ga:Addr) (gl gc sb so sc n:Nat) (ms:Int) (gs:Nat→Int) (a:Nat→fZ),us= #[.slice (some ga) gl gc,.slice (some ⟨sb,so,none⟩) n sc,.int .i64 ms]∧1≤n∧n≤5∧∀v:World,v.heap=h→
 (∀i,i<n→v.cell? ⟨sb,so+i,none⟩=some (.int .i64 (gs i)))∧
 (∀i,i<n→∀(u:World) (gb mb:Nat),(∀q:Addr,q.block<v.heap.size→u.cell? q=v.cell? q)→u.cell? ⟨gb,0,none⟩=some (.slice (some ga) gl gc)→u.cell? ⟨mb,0,none⟩=some (.int .i64 ms)→
    Calls Tw.prog 139 #[.int .i64 (gs i),ptr gb,ptr mb] u fun e _=>e= .returned (a i).val)∧
 Calls Tw.prog Tw.kg us v (FG n a v)
def EJ (m:aJ)(g:FuncId→Bool):aJ:=⟨fun r=>if(m r).isSome then some r else none,g⟩
section
variable {m:aJ}{g:FuncId→Bool}{v w:World}
theorem aav {r t:Nat}(h:m r=some t):(EJ m g) r=some r:=by
 show(if(m r).isSome then some r else none)=some r
 rw[h];rfl
theorem Ij {r t:Nat}(h:(EJ m g) r=some t):r=t∧∃u,m r=some u:=by
 have h':(if(m r).isSome then some r else none)=some t:=h
 cases e:m r with
 |none=>rw[e]at h';cases h'
 |some u=>rw[e]at h';exact⟨Option.some.inj h',u,rfl⟩
theorem bJ.left {a b:Addr}(h:bJ m a b):bJ (EJ m g) a a:=⟨aav h.1,rfl,h.2.2.1,h.2.2.1⟩
theorem VR.left (hg:∀f,m.good f=true→c_ f=none→g f=true){x y:Value}(h:VR m x y):VR (EJ m g) x x:=by
 induction h with
 |bool b=>exact .bool b
 |int k n=>exact .int k n
 |string s=>exact .string s
 |nilPtr=>exact .nilPtr
 |ptr h=>exact .ptr h.left
 |c8 l c=>exact .c8 l c
 |slice l c h=>exact .slice l c h.left
 |mz=>exact .mz
 |nilFunc=>exact .nilFunc
 |nilIface=>exact .nilIface
 |iface t ht _ ih=>exact .iface t ht ih
 |func f hf hs _ ht _ ih BU=>
  refine .func f ?_ rfl (fun i h1 h2=>ih i h1 (hs▸h1)) rfl (fun i h1 h2=>BU i h1 (ht▸h1))
  cases f with
  |func f=>exact⟨hg f hf.1 hf.2,hf.2⟩
  |_=>exact hf.elim
 |agg hs _ ih=>exact .agg rfl (fun i h1 h2=>ih i h1 (hs▸h1))
 |tuple hs _ ih=>exact .tuple rfl (fun i h1 h2=>ih i h1 (hs▸h1))
 |iY=>exact .nilFunc
theorem AR.left (hg:∀f,m.good f=true→c_ f=none→g f=true){us vs:Array Value}(h:AR m us vs):AR (EJ m g) us us:=⟨rfl,fun i h1 h2=>(h.2 i h1 (h.1▸h1)).left hg⟩
theorem WR.left (hg:∀f,m.good f=true→c_ f=none→g f=true)(h:WR m v w):WR (EJ m g) v v:=by
 refine⟨fun r s t hr hs=>(Ij hr).1.trans (Ij hs).1.symm,fun r t hr=>?_,rfl,rfl,rfl⟩
 obtain⟨rfl,u,hu⟩:=Ij hr;obtain⟨o,p,h1,h2,h3⟩:=h.kL r u hu;refine⟨o,o,h1,h1,?_⟩;rcases h3 with⟨us,vs,e,fz,gz,rfl,rfl,hf,ha⟩|⟨a,b,l,rfl,rfl,ha⟩
 ·exact .inl ⟨us,us,e,fz,fz,rfl,rfl,Fz.refl _,ha.left hg⟩
 ·exact .inr ⟨a,a,l,rfl,rfl,ha.left⟩
end
theorem XL {spec:FuncId→Bool}{m:aJ}(B:ia nQ Tw.prog Tw.prog.funcs spec m.good)(EH:po spec){Rf:Ending→World→Prop}(hO:∀w,¬Rf .outgrown w)(hP:∀c w,¬Rf (.panicked c) w){f' f:Frame}{fs' fs:List Frame}{v:World}
  (he:mA Tw.prog Tw.prog.funcs spec m f' f) (te:jO Tw.prog spec m fs' fs) (cf:fs'≠[]):¬Ends Tw.prog (a_ Tw.prog Rf) f' (fs'++[bH]) v:=by
 intro hE;obtain⟨g,us,vs,e1,h1,h2,_,h3⟩:=re he;subst h1;rcases EH g e1 with this|⟨hA,this⟩
 ·subst this
  obtain⟨a,b,x,rfl⟩:=Ii (h3 3 rfl);obtain⟨v',_,hR⟩:=tS (R:=Rf) hO (gs:=fs') rfl (oj B te) hE;exact hP _ _ hR
 ·subst this
  obtain⟨v',_,hR⟩:=wK hA (R:=Rf) hO h3 (gs:=fs') rfl (oj B te) hE;exact hP _ _ hR
structure MI (N0:Nat) (m:aJ) (v w0:World) (γ:Gh) (w:World):Prop where
 ph:γ.ph=none
 sh:∀r t,m r=some t→¬γ.sh t
 Uv:∀b,γ.sh b→N0≤b
 old:∀t,t<N0→w.heap[t]?=w0.heap[t]?
 kR:∀r t,m r=some t→t<N0→fc v r
 same:bG w0 w
 size:N0≤w.heap.size
 dL:∀b,γ.sh b→b<w.heap.size
section
variable {N0:Nat}{m n:aJ}{w0 w w1:World}{γ:Gh}{v v1:World}
theorem MI.heap {w':World}(h:MI N0 m v w0 γ w)(e:w'.heap=w.heap)(s:bG w w'):MI N0 m v w0 γ w':=
 ⟨h.ph,h.sh,h.Uv,fun t h1=>by rw[e];exact h.old t h1,h.kR,h.same.trans s,by rw[e];exact h.size,fun b hb=>by rw[e];exact h.dL b hb⟩
theorem MI.step {t:Trace}{j:Nat}{T:Nat→Question→Nat}{d:Nat}(h:MI N0 m v w0 γ w)(hJ:JJ γ w t j)(hK:Kept m n (v.on T d) w v1 w1):MI N0 n v1 w0 γ w1:=by
 have fr:∀r t,n r=some t→m r=some t∨w.heap.size≤t:=fun r t hr=>(hK.fresh r t hr).imp id fun x=>x.2
 refine⟨h.ph,fun r t hr hs=>?_,h.Uv,fun t ht=>?_,fun r t hr ht=>?_,h.same.trans ⟨hK.tape,hK.os,hK.output⟩,Nat.le_trans h.size hK.lN,fun b hb=>Nat.lt_of_lt_of_le (h.dL b hb) hK.lN⟩
 ·rcases fr r t hr with h1|h1
  ·exact h.sh r t h1 hs
  ·have:=hJ.dL t hs;omega
 ·rw[hK.old t (Nat.lt_of_lt_of_le ht h.size) fun r hr=>h.kR r t hr ht]
  exact h.old t ht
 ·rcases fr r t hr with h1|h1
  ·exact(show fc (v.on T d) r from h.kR r t h1 ht).same (hK.kR r (h.kR r t h1 ht))
  ·have:=h.size;omega
end
section
variable {spec ri good lU:FuncId→Bool}{R:Ending→World→Prop}{N0:Nat}{w0:World}{Q:Gh→World→Trace→Nat→Outcome→World→Prop}
theorem FH {m n:aJ}{γ:Gh}{v w v1 w1:World}{t:Trace}{j:Nat}{es:Array Event}{fn:FuncId}{pos:String}{v0:World}(hM:MI N0 m v0 w0 γ w)(hJ:JJ γ w t j)(hK:Kept m n v w v1 w1)(aE:WR n v1 w1)(he:qT n v es):
  JJ γ w1 (t++MemOp.ofEvents 0 fn pos es) j∧∀k',k'≠0→RR k' γ w γ w1:=by
 obtain⟨x1,x2,x3⟩:=hJ.none hM.ph;refine ze hJ ⟨hK.tape,hK.os,hK.output⟩ hK.lN (fun b hb hh=>?_) fun e ON=>?_
 ·refine hK.old b hb fun r hr=>?_
  rcases hh with⟨k,hk⟩|hk|⟨p,hp,_⟩
  ·exact hk.elim (fun hk=>absurd hk (x1 k b).1) (fun hk=>absurd hk (x1 k b).2)
  ·exact absurd hk (hM.sh r b hr)
  ·rw[hM.ph]at hp;cases hp
 ·obtain⟨e',h1,h2⟩:=he e ON
  obtain⟨f1,f2,f3,_⟩:=Ef.facts (B:=w1.heap.size) h1;refine⟨fun x hx=> .inr ?_,f2 fun r b hr=>(aE.lt hr).2,f3⟩
  obtain⟨r,b,g1,g2,g3⟩:=f1 x hx;have Jn:¬γ.sh b:=by
   rcases hK.fresh r b g1 with h3|⟨_,h4⟩
   ·exact hM.sh r b h3
   ·intro hs;have:=hJ.dL b hs;omega
  refine⟨?_,fun k _ _ hk=>?_,fun _ k _ _ hk=>?_⟩
  ·rintro⟨a,ha,hs⟩
   rw[ha]at g2;injection g2 with g2
   exact Jn (g2▸hs)
  ·rcases hk with⟨b',_,hk⟩|⟨a,_,p,hp,_⟩
   ·exact(x1 k b').1 hk
   ·rw[hM.ph]at hp;cases hp
  ·obtain⟨b',_,hk⟩:=hk
   exact(x1 k b').2 hk
structure XM (spec good:FuncId→Bool) (R:Ending→World→Prop) (N0:Nat) (w0:World) (Q:Gh→World→Trace→Nat→Outcome→World→Prop):Prop where
 one:∀{us vs:Array Value} {fs' fs:List Frame} {m:aJ} {γ:Gh} {w v:World},spec bE=true→m.good=good→AR m us vs→(∀n,c_ bE=some n→us.size=n)→jO Tryz.prog spec m fs' fs→fs'≠[]→WR m (v.on w.tape w.drawn) w→MI N0 m v w0 γ w→Ends Tw.prog (a_ Tw.prog R) (Frame.enter Tw.prog bE us .normal) (fs'++[bH]) v→
    (∀{n:aJ} {f1' f1:Frame} {v1 w1:World} {γ1:Gh},lL Tw.prog (a_ Tw.prog R) (Frame.enter Tw.prog bE us .normal,fs'++[bH],v) (f1',fs'++[bH],v1)→Ends Tw.prog (a_ Tw.prog R) f1' (fs'++[bH]) v1→n.good=good→FR Tryz.prog spec n f1' f1→jO Tryz.prog spec n fs' fs→WR n (v1.on w1.tape w1.drawn) w1→MI N0 n v1 w0 γ1 w1→MP (sys Tryz.prog) Q false 0 γ1 w1 (G f1 fs))→
    MP (sys Tryz.prog) Q false 0 γ w (G (Frame.enter Tryz.prog bE vs .normal) fs)
 two:∀{f' f:Frame} {fs' fs:List Frame} {m:aJ} {γ:Gh} {w v:World},m.good=good→FR Tryz.prog spec m f' f→f.todo=[]→f.defers≠[]→jO Tryz.prog spec m fs' fs→WR m (v.on w.tape w.drawn) w→MI N0 m v w0 γ w→Ends Tw.prog (a_ Tw.prog R) f' (fs'++[bH]) v→
    (∀{n:aJ} {f1' f1:Frame} {bX gs:List Frame} {v1 w1:World} {γ1:Gh},lL Tw.prog (a_ Tw.prog R) (f',fs'++[bH],v) (f1',bX++[bH],v1)→Ends Tw.prog (a_ Tw.prog R) f1' (bX++[bH]) v1→n.good=good→FR Tryz.prog spec n f1' f1→jO Tryz.prog spec n bX gs→WR n (v1.on w1.tape w1.drawn) w1→MI N0 n v1 w0 γ1 w1→MP (sys Tryz.prog) Q false 0 γ1 w1 (G f1 gs))→
    MP (sys Tryz.prog) Q false 0 γ w (G f fs)
set_option maxRecDepth 100000 in
theorem Uw (B:ia nQ Tryz.prog Tw.prog.funcs spec good)(EH:po spec)(XN:po ri)(XI:spec 139=false)(Mn:good 139=true)
  (BS:ia nQ Tw.prog Tw.prog.funcs ri lU) (hsS:ri Tw.kg=false) (dQ:∀f,good f=true→c_ f=none→lU f=true) (hsq:lU Tw.kg=true)
  (hO:∀w,¬R .outgrown w) (hP:∀x w,Plain nQ (.panic x)→¬R (.panicked [{v:=x,recovered:=false}]) w) (hA:∀us w,R (.panicked [{v:=nA us,recovered:=false}]) w→CH us w.heap)
  (hAp:XM spec good R N0 w0 Q)
  (adb:∀{γ:Gh} {w:World} {t:Trace} {j:Nat} {m:aJ} {f' f:Frame} {v:World},JJ γ w t j→Deaf t 0=0→MI N0 m v w0 γ w→m.good=good→WR m (v.on w.tape w.drawn) w→FR Tryz.prog spec m f' f→f'.mode= .returning→Ends Tw.prog (a_ Tw.prog R) f' [bH] v→
   ∃o w1 es,stepG Tryz.prog true (G f []) w= .ended o w1 es∧Q γ w (t++MemOp.ofEvents 0 f.fn f.place es) j o w1):
  ∀{f':Frame} {cz:List Frame} {v:World},Ends Tw.prog (a_ Tw.prog R) f' cz v→∀{fs' fs:List Frame} {m:aJ} {f:Frame} {γ:Gh} {w:World},cz=fs'++[bH]→m.good=good→
   (FR Tryz.prog spec m f' f∨(mA Tryz.prog Tw.prog.funcs spec m f' f∧fs'≠[]))→jO Tryz.prog spec m fs' fs→WR m (v.on w.tape w.drawn) w→MI N0 m v w0 γ w→MP (sys Tryz.prog) Q false 0 γ w (G f fs):=by
 intro f' cz v hE;refine Ends.ind (Q:=Tw.prog) (Stop:=a_ Tw.prog R) (C:=fun f' cz v=>∀{fs' fs:List Frame} {m:aJ} {f:Frame} {γ:Gh} {w:World},cz=fs'++[bH]→m.good=good→
   (FR Tryz.prog spec m f' f∨(mA Tryz.prog Tw.prog.funcs spec m f' f∧fs'≠[]))→jO Tryz.prog spec m fs' fs→WR m (v.on w.tape w.drawn) w→MI N0 m v w0 γ w→MP (sys Tryz.prog) Q false 0 γ w (G f fs)) ?_ hE
 intro f' cz v hE ih fs' fs m f γ w lF hg hf hs hw hM;subst lF hg;rcases hf with hf|⟨hf,cf⟩
 ·by_cases Bc:f'.mode= .returning∧fs'=[]
  ·
   obtain⟨hl,rfl⟩:=Bc
   cases hs;refine .mk rfl nofun nofun fun γ1 w1 t1 j1 h1 lG wG _=>?_;obtain⟨rfl,e1,s1⟩:=jo hM.ph (jP h1);have aE:WR m (v.on w1.tape w1.drawn) w1:=hw.stay (fun r t _=>by rw[e1]) s1
   obtain⟨o,w2,es,q1,q2⟩:=adb lG wG (hM.heap e1 s1) rfl aE hf hl hE;exact⟨.fin o w2 es,⟨q1,q2⟩,fun x b' e=>(by cases e),fun x b' e=>(by cases e)⟩
  ·
   by_cases Ux:f.todo=[]∧f.defers≠[]
   ·exact hAp.two rfl hf Ux.1 Ux.2 hs hw hM hE fun q1 q2 q3 q4 q5 q6 q7=>ih _ _ _ q1 q2 rfl q3 (.inl q4) q5 q6 q7
   have hl:¬Edge f' f fs':=fun e=>e.elim Bc Ux
   refine .go rfl fun γ1 w1 t1 j1 h1 lG wG=>?_;obtain⟨rfl,e1,s1⟩:=jo hM.ph (jP h1);have aE:WR m (v.on w1.tape w1.drawn) w1:=hw.stay (fun r t _=>by rw[e1]) s1
   have hM1:=hM.heap e1 s1;obtain⟨n,Eo,g1,ac1,W3,v2,w2,es,bd,q1,q2,q3,q4,q5,q6,q7,q8, -⟩:=wy (e:=[]) B hO hP hE hf hs w1.tape w1.drawn aE hl true;obtain⟨k1,k2⟩:=hE.go (qf B hO hf hl) q1 q2;rw[List.append_nil,List.append_nil]at q3;obtain⟨a1,a2⟩:=FH (fn:=(G f fs).frame.fn) (pos:=(G f fs).frame.place) hM1 lG q7 q6 q8;refine⟨⟨G g1 W3,w2,es,γ1⟩,false,⟨q3,a1,a2⟩,?_⟩;show MP (sys Tryz.prog) Q false (deafBehind 0 es) γ1 w2 (G g1 W3)
   rw[q8.hears];refine ih _ _ _ k2 k1 rfl q7.le.good.symm q4 q5 ?_ (hM1.step lG q7);have e1:w2.tape=v2.tape:=q6.tape
   have e2:w2.drawn=v2.drawn:=q6.drawn
   rw[e1,e2];exact q6
 ·
  obtain⟨g,us,vs,ko,rfl,rfl,vh,kq⟩:=re hf;rcases EH g ko with EI|⟨-,EI⟩;rotate_left
  ·subst EI
   exact hAp.one ko rfl vh kq hs cf hw hM hE fun q1 q2 q3 q4 q5 q6 q7=>ih _ _ _ q1 q2 rfl q3 (.inl q4) q5 q6 q7
  subst EI;obtain⟨x0,x1,x2,rfl⟩:=Ii (kq 3 rfl);have hE':Ends Tw.prog (a_ Tw.prog R) (Frame.enter Tw.prog ep #[x0,x1,x2] .normal) (fs'++[bH]) v:=hE
  have dP:CH #[x0,x1,x2] v.heap:=by
   obtain⟨v',e1,h1⟩:=tS hO rfl (oj B hs) hE';have:=hA _ _ h1
   rw[e1]at this;exact this
  obtain⟨ga,gl,gc,sb,so,sc,n,ms,gs,a,wx,n1,n5,dW⟩:=dP;obtain⟨bT,XO,_⟩:=dW v rfl
  cases hs with
  |nil=>exact absurd rfl cf
  | @cons c' c bX fs hc Ek adf=>
    obtain⟨d,ds,hds⟩:∃d ds,bX++[bH]=d::ds:=by cases bX with
     |nil=>exact⟨_,_,rfl⟩
     |cons d ds=>exact⟨_,_,rfl⟩
    obtain⟨T1,d1,OO⟩:=W9 hO hE';have hwl:WR (EJ m lU) (v.on T1 d1) (v.on T1 d1):=by
     have h1:=hw.left (g:=lU) dQ;exact⟨h1.inj,h1.kL,rfl,rfl,rfl⟩
    have fO:FR Tw.prog ri (EJ m lU) (Frame.enter Tw.prog Tw.kg #[x0,x1,x2] .normal) (Frame.enter Tw.prog Tw.kg #[x0,x1,x2] .normal):=
     FR.enter (P:=Tw.prog) (F:=Tw.prog.funcs) (m:=EJ m lU) BS hsq hsS (vh.left dQ)
    have cJ:Ends Tw.prog (a_ Tw.prog (FG n a v)) (Frame.enter Tw.prog Tw.kg #[x0,x1,x2] .normal) [bH] (v.on T1 d1):=
     ends_of_calls (fun w h=>by obtain⟨_,h,_⟩:=h;cases h) fun T=>(dW ((v.on T1 d1).on T 0) rfl).2.2
    obtain⟨y,v1,T2,d2,hR,OP⟩:=OR (Q:=Tw.prog) (R:=R) (spec:=ri) (good:=lU) (Rf:=FG n a v) BS (fun {n f' f fs' fs v} Uu he te cf=>XL (Uu▸BS) XN (fun w h=>by obtain⟨_,h,_⟩:=h;cases h) (fun c w h=>by obtain⟨_,h,_⟩:=h;cases h) he te cf) (fun w h=>by obtain⟨_,h,_⟩:=h;cases h) (fun c w h=>by obtain⟨_,h,_⟩:=h;cases h)
     (c:=fA x0 x1 x2) (cs:=c'::bX++[bH]) (by simp) cJ (fs':=[]) (m:=EJ m lU) rfl rfl fO .nil hwl OO.1
    have adg:ni Tw.prog (a_ Tw.prog R) (Frame.enter Tw.prog Tw.kg #[x0,x1,x2] .normal,fA x0 x1 x2::(c'::bX++[bH]),v.on T1 d1) ((fA x0 x1 x2).finish y,c'::bX++[bH],v1):=OP
    have W1:=OO.trans adg;obtain⟨Bk,hy,hBk,⟨cells,nG,n_,hc3⟩,hold,hos⟩:=hR;have hF4:ni Tw.prog (a_ Tw.prog R) ((fA x0 x1 x2).finish y,c'::bX++[bH],v1) (c'.finish y,bX++[bH],v1):=by
     have h1:=W1.1;show ni _ _ (_,c'::(bX++[bH]),_) _
     rw[hds];refine Ty hO ?_;rw[←hds];exact h1
    have hF5:=W1.trans hF4;have ab8:lL Tw.prog (a_ Tw.prog R) (Frame.enter Tw.prog ep #[x0,x1,x2] .normal,c'::bX++[bH],v) (c'.finish y,bX++[bH],v1):=by
     rcases hF5.2 with h1|h1
     ·have h2:=congrArg (fun z:Frame×List Frame×World=>z.2.1.length) h1
      simp at h2
     ·exact h1
    injection hy with hy
    subst hy;have adh:x0= .slice (some ga) gl gc∧x1= .slice (some ⟨sb,so,none⟩) n sc∧x2= .int .i64 ms:=by
     have h0:=congrArg (fun z:Array Value=>z[0]?) wx
     have h1:=congrArg (fun z:Array Value=>z[1]?) wx
     have h2:=congrArg (fun z:Array Value=>z[2]?) wx
     simp at h0 h1 h2
     exact⟨h0,h1,h2⟩
    obtain⟨rfl,rfl,rfl⟩:=adh;obtain⟨z0,z1,z2,rfl⟩:=Ii (us:=vs) (by rw[←vh.1];rfl)
    have jq:VR m (.slice (some ga) gl gc) z0:=vh.2 0 (by simp) (by simp)
    have nH:VR m (.slice (some ⟨sb,so,none⟩) n sc) z1:=vh.2 1 (by simp) (by simp)
    have Ei:VR m (.int .i64 ms) z2:=vh.2 2 (by simp) (by simp)
    cases Ei
    cases jq with
    | @slice _ XG _ _ EI=>
      cases nH with
      | @slice _ q _ _ hq=>
        obtain⟨qb,qo,qs⟩:=q;obtain⟨wM,JL,_,XP⟩:=hq;dsimp only at wM JL XP
        subst JL XP;have ak:=(hw.lt wM).2;refine XD (a:=a) (gs:=gs) (ga:=XG) (gl:=gl) (gc:=gc) (sb:=qb) (so:=qo) (sc:=sc) (ms:=ms) (N:=w.heap.size) (n:=n) (c:=c) (cs:=fs) hM.ph rfl n1 n5 ak (hM.sh _ _ wM) (fun i hi=>?_) ?_ fun γ1 w1 hA1=>?_
        ·obtain⟨y,hy1,hy2⟩:=(hw.cell (a:=⟨sb,qo+i,none⟩) (b:=⟨qb,qo+i,none⟩) ⟨wM,rfl,rfl,rfl⟩).1 _ (bT i hi)
         cases hy2;exact hy1
        ·exact XH B EH XI Mn rfl hw rfl EI hM.sh rfl rfl rfl n5 rfl (fun _ _=>rfl) XO
        ·
         obtain⟨ph1,so1,sz1,abl,sh1,cs2,adi,adj,adk⟩:=hA1;have hBn:m Bk=none:=hw.XF hBk
         have Mo:aJ.le m (m.put Bk (w.heap.size+3)):=Ih hBn
         have FI:∀r t,m r=some t→r<v.heap.size∧t<w.heap.size:=fun r t h=>hw.lt h
         refine ih _ _ _ ab8 hF5.1 (m:=m.put Bk (w.heap.size+3)) rfl rfl (.inl (hc.finish Ek Mo (.slice n n ⟨BH,rfl,rfl,rfl⟩))) (adf.mono Mo) ?_ ?_
         ·refine⟨fun r s t hr hs=>?_,fun r t hr=>?_,(so1.2.1.trans hw.os).trans hos.symm,rfl,rfl⟩
          ·rcases lf hr with⟨h1,h2⟩|h1<;>rcases lf hs with⟨h3,h4⟩|h3
           ·omega
           ·exact absurd (FI _ _ h3).2 (by omega)
           ·exact absurd (FI _ _ h1).2 (by omega)
           ·exact hw.inj r s t h1 h3
          ·rcases lf hr with⟨rfl,rfl⟩|h1
           ·refine⟨_,_,nG,adi,.cells (Fz.refl _) ⟨n_.trans adj.symm,fun i h1 h2=>?_⟩⟩
            have hi:i<5*n:=by omega
            have e1:=hc3 (i / 5) (i % 5) (by omega) (by omega)
            have e2:=adk (i / 5) (i % 5) (by omega) (by omega)
            rw[show 5*(i / 5)+i % 5=i from by omega]at e1 e2
            rw[Array.getElem?_eq_getElem h1]at e1;rw[Array.getElem?_eq_getElem h2]at e2;rw[Option.some.inj e1,Option.some.inj e2];have h5:i % 5<5:=by omega
            generalize i % 5=c at h5;obtain rfl|rfl|rfl|rfl|rfl:c=0∨c=1∨c=2∨c=3∨c=4:=by omega
            ·exact .int _ _
            ·exact .int _ _
            ·exact .int _ _
            ·exact .bool _
            ·exact .bool _
           ·obtain⟨o,p,h2,h3,h4⟩:=hw.kL r t h1
            have ot:v.heap[r]?=some o:=h2
            refine⟨o,p,?_,?_,h4.mono Mo⟩
            ·show v1.heap[r]?=some o
             rw[←ot];exact hold r (FI _ _ h1).1
            ·rw[abl t (FI _ _ h1).2 (hM.sh _ _ h1)]
             exact h3
         ·refine⟨ph1,fun r t hr hs=>?_,fun b hb=>?_,fun t ht=>?_,fun r t hr ht=>?_,hM.same.trans so1,by have:=hM.size;omega,fun b hb=>?_⟩
          ·rcases(sh1 t).1 hs with h1|h1
           ·rcases lf hr with⟨_,h2⟩|h2
            ·have:=hM.dL _ h1
             omega
            ·exact hM.sh _ _ h2 h1
           ·rcases lf hr with⟨_,h2⟩|h2
            ·omega
            ·have:=(FI _ _ h2).2;omega
          ·rcases(sh1 b).1 hb with h1|h1
           ·exact hM.Uv b h1
           ·have:=hM.size;omega
          ·rw[abl t (by have:=hM.size;omega) (fun hs=>by have:=hM.Uv t hs;omega)]
           exact hM.old t ht
          ·rcases lf hr with⟨_,h2⟩|h2
           ·have:=hM.size;omega
           ·exact(hM.kR r t h2 ht).same (hold r (FI _ _ h2).1)
          ·rcases(sh1 b).1 hb with h1|h1
           ·have:=hM.dL b h1;omega
           ·omega
end
end Go.Proofs.YtabjbdnokpjipaaGreat.Sr
namespace Go.Proofs.YtabjbdnokpjipaaGreat.Sr
open Go Go.Conc Go.ConcN Go.RowKit
def gh0:Gh:={ow:=fun _ _=>False,ro:=fun _ _=>False,sh:=fun _=>False,st:=fun _=> .off,wm:= .op,ph:=none,extra:=0,j:=0}
theorem jj0 (W:World):JJ gh0 W #[] 0:=by
 refine⟨TJ.init _ _,⟨fun _ _ _ h=>h.elim,fun _ _ _ h=>h.elim,fun _ _ h=>h.elim,fun _ _ h=>h.elim,fun p hp=>(by cases hp)⟩,rfl,fun _ _ h=>h.elim,fun _ _ h=>h.elim,fun _ h=>h.elim,fun _=>⟨fun _ _=>⟨fun h=>h,fun h=>h⟩,fun _=>rfl,rfl⟩,fun p hp=>(by cases hp),fun p hp=>(by cases hp)⟩
def XQ (us:Array Value)(h:Array Obj):Prop:=∃r x,us= #[.pointer (some ⟨r,0,none⟩),x]∧∀v:World,v.heap=h→v.cell? ⟨r,0,none⟩=some (.int .i32 0)∧v.frozen? ⟨r,0,none⟩=false
def Esc (e:Ending)(w:World):Prop:=(∃us,e= .panicked [{v:=nA us,recovered:=false}]∧CH us w.heap)∨∃us,e= .panicked [{v:=jX us,recovered:=false}]∧XQ us w.heap
def ig (e:Ending)(w:World):Prop:=e= .returned (.bool true)∨Esc e w
theorem Uy {us vs:Array Value}(h:nA us=nA vs):us=vs:=by
 unfold nA at h;injection h with _ h
 injection h with _ h _
theorem cj (w:World):¬ig .outgrown w:=by
 rintro(h|⟨_,h,_⟩|⟨_,h,_⟩)<;>cases h
theorem lV {x y:Value}(h:Ending.panicked [{v:=x,recovered:=false}]= .panicked [{v:=y,recovered:=false}]):x=y:=by
 injection h with h
 injection h with h _
 injection h with h _
theorem Mp (x:Value)(w:World)(hp:Plain nQ (.panic x)):¬ig (.panicked [{v:=x,recovered:=false}]) w:=by
 rintro(h|⟨us,h,_⟩|⟨us,h,_⟩)
 ·cases h
 ·exact hp _ (lV h)
 ·exact hp _ (lV h)
theorem Uz (us:Array Value)(w:World)(h:ig (.panicked [{v:=nA us,recovered:=false}]) w):CH us w.heap:=by
 rcases h with h|⟨vs,h,hk⟩|⟨vs,h,_⟩
 ·cases h
 ·rw[Uy (lV h)]
  exact hk
 ·exact absurd (lV h).symm J9
theorem UA {us vs:Array Value}(h:jX us=jX vs):us=vs:=by
 unfold jX at h;injection h with _ h
 injection h with _ h _
theorem Qg (us:Array Value)(w:World)(h:ig (.panicked [{v:=jX us,recovered:=false}]) w):XQ us w.heap:=by
 rcases h with h|⟨vs,h,_⟩|⟨vs,h,hk⟩
 ·cases h
 ·exact absurd (lV h) J9
 ·rw[UA (lV h)]
  exact hk
theorem UB {Q:Program}{fn:FuncId}{fr:Func}{t:Array Value}{todo:List Item}{w w1:World}{x:Value}{es:Array Event}(hf:Q.funcs[fn]?=some fr)(hi:Q.inits.idxOf? fn=none)(h:(results fr t).runT Q w #[]=(.ok x w1,es)):
  stepG Q true (G (aW fn t todo .returning) []) w= .ended (.done x) w1 (seen Q fn es):=by
 simp only[G,aW,stepG,unwind,hf,h,doReturn,hi,GStep.after,Array.append_empty,Bool.not_true,Bool.false_eq_true,if_false]
def FJ (W:World)(γ:Gh)(w:World)(t:Trace)(j:Nat)(o:Outcome)(w1:World):Prop:=
 o= .done (.bool true)∧γ.ph=none∧(∃B,TJ γ B t j)∧(∀k,Gh.Gone γ k)∧Below W.heap.size W w1
section
variable {spec ri good lU:FuncId→Bool}
theorem UC (B:ia nQ Tryz.prog Tw.prog.funcs spec good)(EH:po spec)(XN:po ri)(hAp:∀N0 w0,XM spec good ig N0 w0 (FJ w0))(XI:spec 139=false)(Mn:good 139=true)
  (BS:ia nQ Tw.prog Tw.prog.funcs ri lU) (hsS:ri Tw.kg=false) (dQ:∀f,good f=true→c_ f=none→lU f=true) (hsq:lU Tw.kg=true) (cJ:∀f,good f=true→Tryz.prog.inits.idxOf? f=none)
  {f:FuncId} {us vs:Array Value} {m:aJ} {v W:World} (XR:good f=true) (XS:spec f=false) (XJ:m.good=good) (vh:AR m us vs) (hw:WR m (v.on W.tape W.drawn) W) (kh:∀r t,m r=some t→fc v r)
  (Mq:∀T,Calls Tw.prog f us (v.on T 0) ig):
  ∃M last o w' t',runNT Tryz.prog (M+1) (solo (G (Frame.enter Tryz.prog f vs .normal) []) W) #[]=(.ended o w',t')∧runN Tryz.prog M (solo (G (Frame.enter Tryz.prog f vs .normal) []) W)= .next last∧step Tryz.prog last= .ended o w'∧
   Go.Conc.Good Tryz.prog (fun x W'=>x= .bool true∧Below W.heap.size W W') last o w' t':=by
 subst XJ;have hE:Ends Tw.prog (a_ Tw.prog ig) (Frame.enter Tw.prog f us .normal) [bH] v:=ends_of_calls cj Mq
 have hMI:MI W.heap.size m v W gh0 W:=⟨rfl,fun _ _ _ h=>h,fun _ h=>h.elim,fun _ _=>rfl,fun r t hr _=>kh r t hr,⟨rfl,rfl,rfl⟩,Nat.le_refl _,fun _ h=>h.elim⟩
 have hMP:MP (sys Tryz.prog) (FJ W) false 0 gh0 W (G (Frame.enter Tryz.prog f vs .normal) []):=by
  refine Uw (R:=ig) (N0:=W.heap.size) (w0:=W) (Q:=FJ W) B EH XN XI Mn BS hsS dQ hsq cj Mp Uz (hAp _ _) ?_ hE (fs':=[]) (fs:=[]) (m:=m) rfl rfl (.inl (FR.enter B XR XS vh)) .nil hw hMI;intro γ w t j n f' f0 v1 hJ hd hM Qh aE hf hl hE1;have B1:ia nQ Tryz.prog Tw.prog.funcs spec n.good:=Qh▸B
  obtain⟨x,T',d',r1,r2⟩:=y9 B1 cj hE1 hf aE hl;have hx:x= .bool true:=by
   rcases r1 with h|⟨_,h,_⟩|⟨_,h,_⟩
   ·injection h
   ·cases h
   ·cases h
  subst hx;obtain @⟨fn,tm',tm,todo,mode,tl,ds,eU,ha,ok,hm,rfl,rfl⟩:=hf
  ·obtain rfl:mode= .returning:=hl
   obtain⟨rfl,rfl,ko,bu⟩:=eU.back;obtain⟨fr,e1,e2,e3⟩:=B1.same fn bu ko;have lD:=kE (F:=Tw.prog.funcs) (m:=n) B.rt fr ha;obtain⟨_,_,_,cW,q1,q2⟩:=r2;have zi:Tw.prog.funcs[fn]?=some cW:=q1
   rw[e1]at zi;obtain rfl:=Option.some.inj zi
   have W2:WR n (v1.on T' d') (w.on T' d'):=⟨aE.inj,aE.kL,aE.os,rfl,rfl⟩
   obtain⟨GW,hr⟩:=tR (lD.sf W2) q2 w.tape w.drawn;obtain⟨n2,y,w2,us1,lC,g1,g2,g3,g4,g5,g6⟩:=lD.run (fs:= #[]) aE hr;obtain⟨Oz,u1,u2,u3⟩:=lD.writes aE hr;have wx:us1=Oz:=by
    have:=g2.symm.trans u1
    simpa using this
   subst wx;have B9:qT n2 (v1.on w.tape w.drawn) (seen Tryz.prog fn (#[]++lC.toArray)):=qT.of g3 u2
   obtain⟨s1,s2⟩:=FH (fn:=fn) (pos:=(aW fn tm todo .returning).place) hM hJ g6 g5 B9;have Qi:=hM.step hJ g6
   cases g4;refine⟨_,_,_,UB e2 (cJ fn (Qh▸bu)) g1,rfl,Qi.ph,⟨_,s1.tj⟩,fun k=>?_,⟨Qi.same.2.1,Qi.same.1,Qi.same.2.2,Qi.size,fun b hb=>Qi.old b hb⟩⟩
   obtain⟨_,x2,x3⟩:=s1.none Qi.ph;exact⟨x2 k,by rw[x3];exact nofun,by rw[x3];exact nofun⟩
 obtain⟨ρ,eK⟩:=hMP.G8;have adl:Cn (sys Tryz.prog) (FJ W) (crowd #[G (Frame.enter Tryz.prog f vs .normal) []] W none) #[]:=
  St.runs (S:=sys Tryz.prog) (Q:=FJ W) (Tr.acc ρ) 0 (fun _=> .nat 0) true _ _ _ _ gh0 false _ ⟨rfl,jj0 W,eK,rfl,fun h=>(by cases h),fun k k1 k2=>absurd k2 (by omega)⟩
 obtain⟨M,bX,w',El,t',ai,w2,j',o,w1,ops,h1,h2,⟨q1,q2,⟨Bq,q3⟩,q4,q5⟩,h4,h5,h6⟩:=adl;have jg:runNT Tryz.prog M (solo (G (Frame.enter Tryz.prog f vs .normal) []) W) #[]=(.next (crowd bX w' El),t'):=h1
 refine⟨M,crowd bX w' El,o,w1,t'++ops,?_,?_,?_,.bool true,q1,⟨rfl,q5⟩,q3.ct.nr,fun i g hg hn hc=>?_,⟨fun g hg=>?_,rfl⟩,fun i g hi hn=>?_⟩
 ·rw[runNT_add,jg]
  simp only[runNT,h2]
 ·rw[←runNT_fst _ _ _ #[],jg]
 ·show(stepT Tryz.prog _).1=_
  rw[h2]
 ·rcases q3.over i g hg hn hc with h|⟨p,hp,_⟩
  ·exact h
  ·rw[q2]at hp;cases hp
 ·obtain⟨i,hi,rfl⟩:=List.getElem_of_mem hg
  have fB:i+1<bX.size:=by simp[crowd]at hi;omega
  obtain⟨x,hx1,JI⟩:=h6 (i+1) (by omega) (by omega)
  obtain⟨n,hn⟩:=JI (q4 _);have:((crowd bX w' El).gs.toList.drop 1)[i]=x:=by
   have e:bX[i+1]?=some x:=hx1
   rw[Array.getElem?_eq_getElem fB]at e;simp only[List.getElem_drop,crowd];have e2:=Option.some.inj e;simp only[Array.getElem_toList,Nat.add_comm 1 i];exact e2
  rw[this];exact⟨n,hn.leaves⟩
 ·have fB:i<bX.size:=(Array.getElem?_eq_some_iff.1 hi).1
  obtain⟨x,hx1,JI⟩:=h6 i (by omega) (by omega)
  obtain⟨n,dt⟩:=JI (q4 _);have hi2:bX[i]?=some g:=hi
  rw[hx1]at hi2;obtain rfl:=Option.some.inj hi2
  exact⟨n,dt.hears _⟩
end
end Go.Proofs.YtabjbdnokpjipaaGreat.Sr
namespace Go.Proofs.YtabjbdnokpjipaaGreat.Sr
open Go Go.Conc Go.RowKit
theorem tY:∀y:Value,∃x,(∀m:aJ,VR m x y)∧∀k z,y= .int k z→x=y
 | .agg cs=>by
   have h:∀i (hi:i<cs.size),∃x,∀m:aJ,VR m x cs[i]:=fun i hi=>(tY cs[i]).imp fun _ h=>h.1
   let us:Array Value:=Array.ofFn fun i:Fin cs.size=>(h i.1 i.2).choose
   refine⟨.agg us,fun m=> .agg (by simp[us]) fun i h1 h2=>?_,fun k z e=>by cases e⟩
   simp only[us,Array.getElem_ofFn];exact(h i h2).choose_spec m
 | .tuple cs=>by
   have h:∀i (hi:i<cs.size),∃x,∀m:aJ,VR m x cs[i]:=fun i hi=>(tY cs[i]).imp fun _ h=>h.1
   let us:Array Value:=Array.ofFn fun i:Fin cs.size=>(h i.1 i.2).choose
   refine⟨.tuple us,fun m=> .tuple (by simp[us]) fun i h1 h2=>?_,fun k z e=>by cases e⟩
   simp only[us,Array.getElem_ofFn];exact(h i h2).choose_spec m
 | .int k z=>⟨.int k z,fun _=> .int k z,fun _ _ _=>rfl⟩
 | .bool b=>⟨.bool b,fun _=> .bool b,fun _ _ e=>by cases e⟩
 | .nilIface=>⟨.nilIface,fun _=> .nilIface,fun _ _ e=>by cases e⟩
 | .float a b=>⟨.nilFunc,fun _=> .iY _ (fun _=>⟨fun e=>(by cases e),fun e=>(by cases e)⟩) ⟨fun e=>(by cases e),fun _ e=>(by cases e)⟩,fun _ _ e=>by cases e⟩
 | .complex a b c=>⟨.nilFunc,fun _=> .iY _ (fun _=>⟨fun e=>(by cases e),fun e=>(by cases e)⟩) ⟨fun e=>(by cases e),fun _ e=>(by cases e)⟩,fun _ _ e=>by cases e⟩
 | .string s=>⟨.nilFunc,fun _=> .iY _ (fun _=>⟨fun e=>(by cases e),fun e=>(by cases e)⟩) ⟨fun e=>(by cases e),fun _ e=>(by cases e)⟩,fun _ _ e=>by cases e⟩
 | .pointer a=>⟨.nilFunc,fun _=> .iY _ (fun _=>⟨fun e=>(by cases e),fun e=>(by cases e)⟩) ⟨fun e=>(by cases e),fun _ e=>(by cases e)⟩,fun _ _ e=>by cases e⟩
 | .slice a l c=>⟨.nilFunc,fun _=> .iY _ (fun _=>⟨fun e=>(by cases e),fun e=>(by cases e)⟩) ⟨fun e=>(by cases e),fun _ e=>(by cases e)⟩,fun _ _ e=>by cases e⟩
 | .map r=>⟨.nilFunc,fun _=> .iY _ (fun _=>⟨fun e=>(by cases e),fun e=>(by cases e)⟩) ⟨fun e=>(by cases e),fun _ e=>(by cases e)⟩,fun _ _ e=>by cases e⟩
 | .chan r=>⟨.nilFunc,fun _=> .iY _ (fun _=>⟨fun e=>(by cases e),fun e=>(by cases e)⟩) ⟨fun e=>(by cases e),fun _ e=>(by cases e)⟩,fun _ _ e=>by cases e⟩
 | .func f a b=>⟨.nilFunc,fun _=> .iY _ (fun _=>⟨fun e=>(by cases e),fun e=>(by cases e)⟩) ⟨fun e=>(by cases e),fun _ e=>(by cases e)⟩,fun _ _ e=>by cases e⟩
 | .nilFunc=>⟨.nilFunc,fun _=> .nilFunc,fun _ _ e=>by cases e⟩
 | .iface t v=>⟨.nilFunc,fun _=> .iY _ (fun _=>⟨fun e=>(by cases e),fun e=>(by cases e)⟩) ⟨fun e=>(by cases e),fun _ e=>(by cases e)⟩,fun _ _ e=>by cases e⟩
termination_by y=>SizeOf.sizeOf y
decreasing_by
 all_goals
  have:=Array.sizeOf_getElem cs i hi
  simp
  omega
noncomputable def Qj (y:Value):Value:=(tY y).choose
theorem UD (m:aJ)(y:Value):VR m (Qj y) y:=(tY y).choose_spec.1 m
theorem Qk (k:IntKind)(z:Int):Qj (.int k z)= .int k z:=(tY (.int k z)).choose_spec.2 k z rfl
noncomputable def Ik:Obj→Obj
 | .cells cs e fz=> .cells (cs.map Qj) e (0,max cs.size fz.2)
 |o=>o
open Classical in
theorem Ql (good:FuncId→Bool)(W:World)(S:Nat→Prop)(hS:∀b,S b→∃cs e fz,W.heap[b]?=some (.cells cs e fz)):
  ∃(v:World) (m:aJ),m.good=good∧(∀b,S b→m b=some b)∧WR m (v.on W.tape W.drawn) W∧(∀r t,m r=some t→fc v r)∧(∀q k z,W.cell? q=some (.int k z)→v.cell? q=some (.int k z))∧v.heap.size=W.heap.size:=by
 let v:World:={W with heap:=W.heap.mapIdx fun i o=>if S i then Ik o else o}
 let m:aJ:=⟨fun r=>if S r then some r else none,good⟩
 have hm:∀{r t},m r=some t→r=t∧S r:=by
  intro r t h;have h':(if S r then some r else none)=some t:=h
  by_cases hs:S r
  ·rw[if_pos hs]at h';exact⟨Option.some.inj h',hs⟩
  ·rw[if_neg hs]at h';cases h'
 have hv:∀b,v.heap[b]?=(W.heap[b]?).map fun o=>if S b then Ik o else o:=by
  intro b;show(W.heap.mapIdx fun i o=>if S i then Ik o else o)[b]?=_
  simp
 refine⟨v,m,rfl,fun b hb=>?_,⟨fun r s t hr hs=>(hm hr).1.trans (hm hs).1.symm,fun r t hr=>?_,rfl,rfl,rfl⟩,fun r t hr=>?_,fun q k z hq=>?_,?_⟩
 ·show(if S b then some b else none)=some b
  rw[if_pos hb]
 ·obtain⟨rfl,hs⟩:=hm hr
  obtain⟨cs,e,fz,h1⟩:=hS r hs;refine⟨_,_,(by show v.heap[r]?=_;rw[hv,h1];simp only[Option.map_some,if_pos hs];rfl),h1,.cells (fun o h1 h2=>⟨Nat.zero_le _,by show o<max cs.size fz.2;omega⟩) ⟨by simp,fun i h1 h2=>?_⟩⟩
  simp only[Array.getElem_map];exact UD m _
 ·obtain⟨rfl,hs⟩:=hm hr
  obtain⟨cs,e,fz,h1⟩:=hS r hs;refine .inl ⟨_,e,_,(by rw[hv,h1];simp only[Option.map_some,if_pos hs];rfl),?_⟩
  simp
  omega
 ·unfold World.cell? at hq⊢
  rw[hv]
  cases ho:W.heap[q.block]? with
  |none=>rw[ho]at hq;cases hq
  |some o=>
   rw[ho]at hq;by_cases hs:S q.block
   ·simp only[Option.map_some,if_pos hs]
    cases o with
    |cells cs e fz=>
     simp only[Ik]at hq⊢;by_cases ko:q.spot.isSome
     ·rw[if_pos ko]at hq;cases hq
     ·rw[if_neg ko]at hq⊢
      rw[Array.getElem?_map,hq];simp[Qk]
    |_=>cases hq
   ·simp only[Option.map_some,if_neg hs]
    exact hq
 ·show(W.heap.mapIdx _).size=_
  simp
end Go.Proofs.YtabjbdnokpjipaaGreat.Sr
namespace Go.Proofs.YtabjbdnokpjipaaGreat.Sr
open Go Go.Conc
def lk0 (P:Program)(r:Nat)(c:Frame)(cs:List Frame):Goroutine:={frame:=Frame.enter P 75 #[.pointer (some ⟨r,0,none⟩)] .normal,callers:=c::cs,status:= .running,dying:=none}
def lk1 (P:Program)(r:Nat)(c:Frame)(cs:List Frame):Goroutine:=aR P 7 (lk0 P r c cs)
def lk2 (P:Program)(r:Nat)(c:Frame)(cs:List Frame):Goroutine:=dA P (lk1 P r c cs)
def lk3 (P:Program)(r:Nat)(c:Frame)(cs:List Frame):Goroutine:=aR P 7 (lk2 P r c cs)
def lk4 (P:Program)(r:Nat)(c:Frame)(cs:List Frame):Goroutine:=bm (lk3 P r c cs) (.bool true)
def lk5 (P:Program)(r:Nat)(c:Frame)(cs:List Frame):Goroutine:=aR P 6 (lk4 P r c cs)
def lk6 (P:Program)(r:Nat)(c:Frame)(cs:List Frame):Goroutine:=dA P (lk5 P r c cs)
def lk7 (P:Program)(r:Nat)(c:Frame)(cs:List Frame):Goroutine:=aR P 3 (lk6 P r c cs)
def lk8 (P:Program)(r:Nat)(c:Frame)(cs:List Frame):Goroutine:=bm (lk7 P r c cs) (.pointer (some ⟨r,0,none⟩))
def lk9 (P:Program)(r:Nat)(c:Frame)(cs:List Frame):Goroutine:=dA P (lk8 P r c cs)
def uk0 (P:Program)(r:Nat)(k:CallKind)(c:Frame)(cs:List Frame):Goroutine:={frame:=Frame.enter P 76 #[.pointer (some ⟨r,0,none⟩)] k,callers:=c::cs,status:= .running,dying:=none}
def uk1 (P:Program)(r:Nat)(k:CallKind)(c:Frame)(cs:List Frame):Goroutine:=aR P 12 (uk0 P r k c cs)
def uk2 (P:Program)(r:Nat)(k:CallKind)(c:Frame)(cs:List Frame):Goroutine:=bm (uk1 P r k c cs) (.int .i32 1)
def uk3 (P:Program)(r:Nat)(k:CallKind)(c:Frame)(cs:List Frame):Goroutine:=aR P 4 (uk2 P r k c cs)
def uk4 (P:Program)(r:Nat)(k:CallKind)(c:Frame)(cs:List Frame):Goroutine:=bm (uk3 P r k c cs) (.pointer (some ⟨r,0,none⟩))
def uk5 (P:Program)(r:Nat)(k:CallKind)(c:Frame)(cs:List Frame):Goroutine:=dA P (uk4 P r k c cs)
def uk6 (P:Program)(r:Nat)(k:CallKind)(c:Frame)(cs:List Frame):Goroutine:=aR P 2 (uk5 P r k c cs)
def uk7 (P:Program)(r:Nat)(k:CallKind)(c:Frame)(cs:List Frame):Goroutine:=dA P (uk6 P r k c cs)
def uk8 (P:Program)(r:Nat)(k:CallKind)(c:Frame)(cs:List Frame):Goroutine:=aR P 6 (uk7 P r k c cs)
def uk9 (P:Program)(r:Nat)(k:CallKind)(c:Frame)(cs:List Frame):Goroutine:=bm (uk8 P r k c cs) (.int .i32 0)
def abm (P:Program)(r:Nat)(k:CallKind)(c:Frame)(cs:List Frame):Goroutine:=aR P 11 (uk9 P r k c cs)
def XT (P:Program)(r:Nat)(k:CallKind)(c:Frame)(cs:List Frame):Goroutine:=dA P (abm P r k c cs)
theorem Mr {P:Program}{g:Goroutine}{s:Sem Next}(h:cN P g=some s)(b:Bool){w w1:World}{es:Array Event}(hr:s.runT P w #[]=(.ok .skip w1,es)):stepG P b g w= .go (bm g undef) w1 (seen P g.frame.fn es):=by
 obtain⟨_,_,hk,e⟩:=vj h b w;have y_:(g.frame.kind==CallKind.early)=false:=by simpa using hk
 rw[e];simp only[stepG.apply,hr,y_,if_true,Bool.false_eq_true,if_false,GStep.after,Array.append_empty,bm]
section
variable(r:Nat)(c:Frame)(cs:List Frame)(e:TypeId)(n:Nat)
set_option maxRecDepth 100000
theorem UE:mute Tryz.prog 7 (lk0 Tryz.prog r c cs)=true:=by kernel_rfl
theorem XU:cn Tryz.prog (lk1 Tryz.prog r c cs)=some (lk2 Tryz.prog r c cs,#[⟨.mark .disable,false,true⟩]):=by kernel_rfl
theorem UF:mute Tryz.prog 7 (lk2 Tryz.prog r c cs)=true:=by kernel_rfl
theorem XV:bF Tryz.prog (.int .i32 0) (some (e,n)) (lk3 Tryz.prog r c cs)=some ⟨lk4 Tryz.prog r c cs,#[⟨.cell ⟨r,0,none⟩,false,true⟩,⟨.cell ⟨r,0,none⟩,true,true⟩],[⟨r,0,none⟩,⟨r,0,none⟩,⟨r,0,none⟩],[r],some (⟨r,0,none⟩,.int .i32 1)⟩:=by kernel_rfl
theorem UG:mute Tryz.prog 6 (lk4 Tryz.prog r c cs)=true:=by kernel_rfl
theorem aaw:cn Tryz.prog (lk5 Tryz.prog r c cs)=some (lk6 Tryz.prog r c cs,#[⟨.mark .enable,false,true⟩]):=by kernel_rfl
theorem UH:mute Tryz.prog 3 (lk6 Tryz.prog r c cs)=true:=by kernel_rfl
theorem UI:bF Tryz.prog undef (some (e,n+1)) (lk7 Tryz.prog r c cs)=some ⟨lk8 Tryz.prog r c cs,#[],[],[r,r],none⟩:=by kernel_rfl
theorem XW:∃es,cn Tryz.prog (lk8 Tryz.prog r c cs)=some (lk9 Tryz.prog r c cs,es)∧es= #[⟨.mark (.acquire ⟨r,0,none⟩),false,true⟩]:=⟨_,by kernel_rfl,rfl⟩
theorem UJ:mute Tryz.prog 6 (lk9 Tryz.prog r c cs)=true:=by kernel_rfl
theorem XX:aR Tryz.prog 6 (lk9 Tryz.prog r c cs)=kM c cs:=by kernel_rfl
theorem UK:mute Tryz.prog 12 (uk0 Tryz.prog r .deferred c cs)=true:=by kernel_rfl
theorem aax:bF Tryz.prog (.int .i32 1) none (uk1 Tryz.prog r .deferred c cs)=some ⟨uk2 Tryz.prog r .deferred c cs,#[],[⟨r,0,none⟩],[],none⟩:=by kernel_rfl
theorem UL:mute Tryz.prog 4 (uk2 Tryz.prog r .deferred c cs)=true:=by kernel_rfl
theorem UM:bF Tryz.prog undef (some (e,n+1)) (uk3 Tryz.prog r .deferred c cs)=some ⟨uk4 Tryz.prog r .deferred c cs,#[],[],[r,r],none⟩:=by kernel_rfl
theorem XY:cn Tryz.prog (uk4 Tryz.prog r .deferred c cs)=some (uk5 Tryz.prog r .deferred c cs,#[⟨.mark (.releaseMerge ⟨r,0,none⟩),false,true⟩]):=by kernel_rfl
theorem UN:mute Tryz.prog 2 (uk5 Tryz.prog r .deferred c cs)=true:=by kernel_rfl
theorem XZ:cn Tryz.prog (uk6 Tryz.prog r .deferred c cs)=some (uk7 Tryz.prog r .deferred c cs,#[⟨.mark .disable,false,true⟩]):=by kernel_rfl
theorem UO:mute Tryz.prog 6 (uk7 Tryz.prog r .deferred c cs)=true:=by kernel_rfl
theorem X0:bF Tryz.prog (.int .i32 1) none (uk8 Tryz.prog r .deferred c cs)=some ⟨uk9 Tryz.prog r .deferred c cs,#[⟨.cell ⟨r,0,none⟩,false,true⟩,⟨.cell ⟨r,0,none⟩,true,true⟩],[⟨r,0,none⟩,⟨r,0,none⟩],[],some (⟨r,0,none⟩,.int .i32 0)⟩:=by kernel_rfl
theorem UP:mute Tryz.prog 11 (uk9 Tryz.prog r .deferred c cs)=true:=by kernel_rfl
theorem X1:cn Tryz.prog (abm Tryz.prog r .deferred c cs)=some (XT Tryz.prog r .deferred c cs,#[⟨.mark .enable,false,true⟩]):=by kernel_rfl
def ukR (c:Frame)(cs:List Frame):Goroutine:={frame:=c,callers:=cs,status:= .running,dying:=none}
theorem Qm:mute Tryz.prog 6 (XT Tryz.prog r .deferred {c with mode:= .returning} cs)=true:=by kernel_rfl
theorem UQ:aR Tryz.prog 6 (XT Tryz.prog r .deferred {c with mode:= .returning} cs)=ukR {c with mode:= .returning} cs:=by kernel_rfl
theorem UR (tm:Array Value):mute Tryz.prog 2 {frame:={fn:=bE,tmps:=tm,todo:=[],defers:=[xx r],mode:= .run,kind:= .normal},callers:=cs,status:= .running,dying:=none}=true:=by kernel_rfl
theorem Ms (tm:Array Value):aR Tryz.prog 2 {frame:={fn:=bE,tmps:=tm,todo:=[],defers:=[xx r],mode:= .run,kind:= .normal},callers:=cs,status:= .running,dying:=none}=uk0 Tryz.prog r .deferred {fn:=bE,tmps:=tm,todo:=[],defers:=[],mode:= .returning,kind:= .normal} cs:=by kernel_rfl
end
noncomputable def aq0 (a b:Value) (cs:List Frame):Goroutine:={frame:=Frame.enter Tryz.prog bE #[a,b] .normal,callers:=cs,status:= .running,dying:=none}
noncomputable def aq1 (a b:Value) (cs:List Frame):Goroutine:=aR Tryz.prog 2 (aq0 a b cs)
noncomputable def aq2 (r:Nat) (b x:Value) (cs:List Frame):Goroutine:=bm (aq1 (.pointer (some ⟨r,0,none⟩)) b cs) x
noncomputable def aqC (r:Nat) (b x:Value):Frame:=match(aR Tryz.prog 7 (aq2 r b x [])).callers with
 |c::_=>c
 |[]=>default
noncomputable def aq4 (r:Nat) (b x:Value) (cs:List Frame):Goroutine:=aR Tryz.prog 8 (kM (aqC r b x) cs)
section
variable(r:Nat)(a b x:Value)(cs:List Frame)
set_option maxRecDepth 100000
theorem US:mute Tryz.prog 2 (aq0 a b cs)=true:=by kernel_rfl
theorem UT:mute Tryz.prog 7 (aq2 r b x cs)=true:=by kernel_rfl
theorem UU:aR Tryz.prog 7 (aq2 r b x cs)=lk0 Tryz.prog r (aqC r b x) cs:=by kernel_rfl
theorem UW:mute Tryz.prog 8 (kM (aqC r b x) cs)=true:=by kernel_rfl
noncomputable def qn (r:Nat) (b x:Value):Array Value:= #[.pointer (some ⟨r,0,none⟩),b,undef,x,.pointer (some ⟨r,0,none⟩),.pointer (some ⟨r,0,none⟩),.pointer (some ⟨r,0,none⟩),undef,.pointer (some ⟨r,0,none⟩),.pointer (some ⟨r,0,none⟩),.pointer (some ⟨r,0,none⟩)]++Array.replicate (Tryz.f44.ntmps-11) undef
theorem aay:aq4 r b x cs={frame:={fn:=bE,tmps:=qn r b x,todo:=[.code Tw.Ee],defers:=[xx r],mode:= .run,kind:= .normal},callers:=cs,status:= .running,dying:=none}:=by kernel_rfl
noncomputable def X2 (a b:Value) (cs:List Frame):Goroutine:=aR Tw.prog 8 (OU a b cs 0)
noncomputable def al2 (r:Nat) (b x:Value) (cs:List Frame):Goroutine:=bm (X2 (.pointer (some ⟨r,0,none⟩)) b cs) x
noncomputable def X3 (r:Nat) (b x:Value) (cs:List Frame):Goroutine:=aR Tw.prog 6 (al2 r b x cs)
noncomputable def al4 (r:Nat) (b x:Value) (cs:List Frame):Goroutine:=bm (X3 r b x cs) undef
noncomputable def abn (a b:Value) (cs:List Frame):Sem Next:=(cN Tw.prog (X2 a b cs)).getD (.pure .skip)
noncomputable def abo (r:Nat) (b x:Value) (cs:List Frame):Sem Next:=(cN Tw.prog (X3 r b x cs)).getD (.pure .skip)
theorem X4:cN Tw.prog (X2 a b cs)=some (abn a b cs):=by kernel_rfl
theorem X5 (n:Nat):xQ Tw.prog n (abn a b cs) #[]=some (.value (.pointer (some ⟨n,0,none⟩)),#[],.cells b.cells 57):=by kernel_rfl
theorem X6 (n:Nat):dB Tryz.prog n (aq1 a b cs)=some (bm (aq1 a b cs) (.pointer (some ⟨n,0,none⟩)),#[],.cells b.cells 57):=by kernel_rfl
theorem X7:cN Tw.prog (X3 r b x cs)=some (abo r b x cs):=by kernel_rfl
theorem X8:fY Tw.prog (.int .i32 0) none (abo r b x cs) #[]=some ⟨.skip,#[⟨.cell ⟨r,0,none⟩,true,false⟩],[⟨r,0,none⟩],[],some (⟨r,0,none⟩,.int .i32 1)⟩:=by kernel_rfl
theorem Qn:iA Tw.prog 8 (OU a b cs 0)=true:=by kernel_rfl
theorem Qo:iA Tw.prog 6 (al2 r b x cs)=true:=by kernel_rfl
theorem Qp:iA Tw.prog 8 (al4 r b x cs)=true:=by kernel_rfl
theorem X9:aR Tw.prog 8 (al4 r b x cs)=G (aW bE (qn r b x) [.code Tw.Ee,.code B7] .run) cs:=by kernel_rfl
end
end Go.Proofs.YtabjbdnokpjipaaGreat.Sr
namespace Go.Proofs.YtabjbdnokpjipaaGreat.Sr
open Go Go.Conc Go.ConcN
theorem CI {P:Program}{α:Type}{s:Sem α}:∀{es:Array Event} {y:α×Array Event},lK P s es=some y→∀w:World,SF P s w:=by
 induction s with
 |pure a=>intro es y h w;trivial
 |program k ih=>intro es y h w;exact ih P h w
 |mark m k ih=>intro es y h w;exact ih h w
 |_=>intro es y h;cases h
theorem X_ {P:Program}{v:Value}{sh:Option (TypeId×Nat)}{α:Type}{s:Sem α}:∀{es:Array Event} {y:OC α},fY P v sh s es=some y→∀w:World,(∀a∈y.ls,w.cell? a=some v∧w.frozen? a=false)→(∀r∈y.rs,w.shape? r=sh)→SF P s w:=by
 induction s with
 |pure a=>intro es y h w _ _;trivial
 |program k ih=>intro es y h w;exact ih P h w
 |mark m k ih=>intro es y h w;exact ih h w
 |load md a k ih=>
  intro es y h w hl hr;simp only[fY]at h
  cases hy:fY P v sh (k v) (es.push ⟨.cell a,false,md== .atomic⟩)with
  |none=>rw[hy]at h;cases h
  |some y'=>
   rw[hy]at h
   cases h;have:=ih v hy w (fun b hb=>hl b (List.mem_cons_of_mem _ hb)) hr
   simp only[SF,(hl a (List.mem_cons_self ..)).1];exact this
 |shape r k ih=>
  intro es y h w hl hr;simp only[fY]at h
  cases hy:fY P v sh (k sh) es with
  |none=>rw[hy]at h;cases h
  |some y'=>
   rw[hy]at h
   cases h;have:=ih sh hy w hl (fun b hb=>hr b (List.mem_cons_of_mem _ hb))
   simp only[SF,hr r (List.mem_cons_self ..)];exact this
 |frozen a k ih=>
  intro es y h w hl hr;simp only[fY]at h
  cases hy:fY P v sh (k false) es with
  |none=>rw[hy]at h;cases h
  |some y'=>
   rw[hy]at h
   cases h;have:=ih false hy w (fun b hb=>hl b (List.mem_cons_of_mem _ hb)) hr
   simp only[SF,(hl a (List.mem_cons_self ..)).2];exact this
 |store md a x k ih=>
  intro es y h w hl hr
  cases x with
  |int i n=>
   simp only[fY]at h
   cases hy:lK P k (es.push ⟨.cell a,true,md== .atomic⟩)with
   |none=>rw[hy]at h;cases h
   |some q=>
    rw[hy]at h
    cases h;obtain⟨h1,h2⟩:=hl a (List.mem_cons_self ..);simp only[SF,h1];exact .inr (.inr (CI hy _))
  |_=>simp[fY]at h
 |_=>intro es y h;cases h
theorem X' {P:Program}{r:Nat}{α:Type}{s:Sem α}:∀{es bd:Array Event} {a:α} {o:Obj},xQ P r s es=some (a,bd,o)→∀w:World,w.heap.size=r→SF P s w:=by
 induction s with
 |program k ih=>intro es bd a o h w hr;exact ih P h w hr
 |mark m k ih=>intro es bd a o h w hr;exact ih h w hr
 |new o' k ih=>
  intro es bd a o h w hr;simp only[xQ]at h
  cases hy:lK P (k r) es with
  |none=>rw[hy]at h;cases h
  |some y=>
   simp only[SF,hr];exact CI hy _
 |_=>intro es bd a o h;cases h
theorem xU {Q:Program}{g:Goroutine}{s:Sem Next}(h:cN Q g=some s)(hd:g.frame.defers=[])(hk:g.frame.kind= .normal){v:World}(hs:SF Q s v)(hr:OA (s.runT Q v #[]).1)(cs:List Frame):gA Q g.frame cs v:=by
 unfold cN at h;split at h
 ·split at h
  ·cases h
  ·split at h
   ·rename_i o ho
    split at h
    ·rename_i hw
     cases h;dsimp only at hd hk
     subst hd hk;rw[show∀(ops:Array Oper) (i:Nat) (rest:List Nat) (k:List Item) (fn:FuncId) (tmps:Array Value),(Frame.eval {mode:= .run,todo:= .inRegion ops (i::rest)::k,roundOf:=none,kind:= .normal,fn:=fn,tmps:=tmps,defers:=[]})=Act.eval ⟨tmps,[]⟩from fun _ _ _ _ _ _=>funext fun c=>by cases c<;>rfl]at hs hr
     exact .op ho hw hs hr
    ·cases h
   ·cases h
 ·cases h
section
variable {Q:Program}{R:Ending→World→Prop}{g:Goroutine}{s:Sem Next}{u:World}
def xV (g:Goroutine):Bool:=FC g&&(match g.frame with|{mode:= .run,kind:= .normal,defers:=[], .. }=>true|_=>false)
theorem tZ (h:xV g=true):FC g=true∧g.frame.mode= .run∧g.frame.kind= .normal∧g.frame.defers=[]:=by
 unfold xV at h;simp only[Bool.and_eq_true]at h;obtain⟨h1,h2⟩:=h;split at h2
 ·rename_i e
  exact⟨h1,by rw[e],by rw[e],by rw[e]⟩
 ·cases h2
theorem Ends.abp (hO:∀w,¬R .outgrown w){v z:Value}{sh:Option (TypeId×Nat)}{y:OC Next}(hg:xV g=true)(h:cN Q g=some s)(hv:fY Q v sh s #[]=some y)(hz:y.x= .value z∨(y.x= .skip∧z=undef))(hE:Ends Q (a_ Q R) g.frame g.callers u)(T:Nat→Question→Nat)(d:Nat)
  (hl:∀a∈y.ls,u.cell? a=some v∧u.frozen? a=false) (hr:∀r∈y.rs,u.shape? r=sh):ni Q (a_ Q R) (g.frame,g.callers,u) ((bm g z).frame,(bm g z).callers,e_ (u.on T d) y.bp):=by
 obtain⟨g1,g2,g3,g4⟩:=tZ hg;have eV:=Ab hv (u.on T d) hl hr;have hgo:stepG Q true (G g.frame g.callers) (u.on T d)= .go (G (bm g z).frame (bm g z).callers) (e_ (u.on T d) y.bp) (seen Q g.frame.fn y.es):=by
  rw[←qm g1];rcases hz with hz|⟨hz,rfl⟩
  ·rw[hz]at eV;exact jB h true eV
  ·rw[hz]at eV;exact Mr h true eV
 have ht:gA Q g.frame g.callers (u.on T d):=xU (v:=u.on T d) h g4 g3 (X_ hv _ hl hr) (by rw[eV];rcases hz with hz|⟨hz, -⟩<;>rw[hz]<;>trivial) _
 obtain⟨h1,h2⟩:=hE.go (gF hO g2) ht hgo;exact⟨h1,.inr h2⟩
theorem Ends.news (hO:∀w,¬R .outgrown w){z:Value}{o:Obj}(hg:xV g=true)(h:cN Q g=some s)(hn:xQ Q u.heap.size s #[]=some (.value z,#[],o))(hE:Ends Q (a_ Q R) g.frame g.callers u)(T:Nat→Question→Nat)(d:Nat):
  ni Q (a_ Q R) (g.frame,g.callers,u) ((bm g z).frame,(bm g z).callers,{u.on T d with heap:=u.heap.push o}):=by
 obtain⟨g1,g2,g3,g4⟩:=tZ hg;have eV:=Ah hn (u.on T d) rfl;have hgo:stepG Q true (G g.frame g.callers) (u.on T d)= .go (G (bm g z).frame (bm g z).callers) {u.on T d with heap:=u.heap.push o} (seen Q g.frame.fn #[]):=by
  rw[←qm g1];exact jB h true eV
 have ht:gA Q g.frame g.callers (u.on T d):=xU (v:=u.on T d) h g4 g3 (X' hn _ rfl) (by rw[eV];trivial) _
 obtain⟨h1,h2⟩:=hE.go (gF hO g2) ht hgo;exact⟨h1,.inr h2⟩
theorem aaz (hO:∀w,¬R .outgrown w){fn:FuncId}{tm:Array Value}{k:List Item}:∀{fr:Frame} {cs:List Frame} {v:World},Ends Q (a_ Q R) fr cs v→fr≠aW fn tm (.inLoop .skip::k) .run∧fr≠aW fn tm (.code .skip:: .inLoop .skip::k) .run:=by
 intro fr cs v hE;refine Ends.ind (C:=fun fr _ _=>fr≠aW fn tm (.inLoop .skip::k) .run∧fr≠aW fn tm (.code .skip:: .inLoop .skip::k) .run) ?_ hE
 intro fr cs v hE ih;refine⟨fun e=>?_,fun e=>?_⟩<;>subst e
 ·have hs:∀w,stepG Q true (G (aW fn tm (.inLoop .skip::k) .run) cs) w= .go (G (aW fn tm (.code .skip:: .inLoop .skip::k) .run) cs) w #[]:=fun w=>stepG_inLoop (b:=aW fn #[] [] .run) (a:=⟨tm,[]⟩)
  obtain⟨h1,h2⟩:=hE.go (gF hO rfl) (T:=v.tape) (d:=v.drawn) (.bL hs) (hs _);exact(ih _ _ _ h2 h1).2 rfl
 ·have hs:∀w,stepG Q true (G (aW fn tm (.code .skip:: .inLoop .skip::k) .run) cs) w= .go (G (aW fn tm (.inLoop .skip::k) .run) cs) w #[]:=fun w=>stepG_skip (b:=aW fn #[] [] .run) (a:=⟨tm,[]⟩)
  obtain⟨h1,h2⟩:=hE.go (gF hO rfl) (T:=v.tape) (d:=v.drawn) (.bL hs) (hs _);exact(ih _ _ _ h2 h1).1 rfl
end
def Rz (P:Program){α:Type}:Sem α→Bool
 | .halt (.stuck _)=>true
 | .halt (.unsupported u)=>match u with
   | .initOrder _=>false
   |_=>true
 | .program k=>Rz P (k P)
 |_=>false
theorem Mt {P:Program}{α:Type}{s:Sem α}:Rz P s=true→∀w:World,SF P s w∧∃h0,s.runT P w #[]=(.halt h0 w,#[])∧((∃z,h0= .stuck z)∨∃u,h0= .unsupported u∧∀g,u≠.initOrder g):=by
 induction s with
 |halt h0=>
  intro h w;refine⟨trivial,h0,rfl,?_⟩
  cases h0 with
  |stuck z=>exact .inl ⟨z,rfl⟩
  |unsupported u=>
   refine .inr ⟨u,rfl,fun g e=>?_⟩
   subst e
   cases h
  |_=>cases h
 |program k ih=>intro h w;exact ih P h w
 |_=>intro h;cases h
theorem Ends.bad {Q:Program}{R:Ending→World→Prop}{g:Goroutine}{s:Sem Next}{u:World}(hO:∀w,¬R .outgrown w)(hg:xV g=true)(h:cN Q g=some s)(hb:Rz Q s=true):¬Ends Q (a_ Q R) g.frame g.callers u:=by
 intro hE;obtain⟨g1,g2,g3,g4⟩:=tZ hg;obtain⟨hs,h0,hr,hh⟩:=Mt hb (u.on u.tape u.drawn);have ht:gA Q g.frame g.callers (u.on u.tape u.drawn):=xU h g4 g3 hs (by
  rw[hr];rcases hh with⟨z,rfl⟩|⟨x,rfl,hx⟩
  ·trivial
  ·exact hx) _
 cases hE with
 |stop hS=>exact gF hO g2 hS
 |step k1 _=>
  obtain⟨hU,cz,v',es,hgo⟩:=k1 _ _ ht;obtain⟨_,_,_,e⟩:=vj h true (u.on u.tape u.drawn);rw[←qm g1,e]at hgo;obtain⟨o,w',bd,hh'⟩:=iw (fr:=g.frame) (cs:=g.callers) hr hh;rw[hh']at hgo
  cases hgo
end Go.Proofs.YtabjbdnokpjipaaGreat.Sr
